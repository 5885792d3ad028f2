/- What the walk of packed.Save wants: tables of its drawing regions, laws of its steps, its bytes as plain functions. -/
import Derived.Test.YtjcgbjkjkgkklaaPrint1
import Derived.Test.YtjcgbjkjkgkklaaInround
import Derived.Test.YtjcgbjkjkgkklaaRight
import Derived.Lib.SlBytesConst
-- NEEDS packed_Number
namespace Go.Proofs.Ytjcgbjkjkgkklaa.Print
open Go.RowKit Go.Shelf Go.Proofs.YtjcgbjkjkgkklaaW.PrintWords Go.Proofs.YtjcgbjkjkgkklaaW.PrintLast Go.Proofs.YtjcgbjkjkgkklaaW.PrintMore
set_option linter.unusedVariables false
set_option linter.unusedSimpArgs false

def save_T15 : Bool × List (List Nat × List Nat) := (true, [([], []), ([], []), ([1], [1]), ([0, 2, 2], [0, 2]), ([], []), ([4, 3], [4]), ([3, 5, 5], [3, 5]), ([6, 6, 0, 1, 2, 3, 4, 5, 6], [6])])
def save_B15 : List Nat := [0, 0, 2, 7, 0, 31, 63, 127]
theorem save_tab15 : rtab .any (opsOf Try.f11 15) = save_T15 := by kernel_rfl
theorem save_bits15 : waitsOk save_T15.2 save_B15 = true := by kernel_rfl

def save_T4 : Bool × List (List Nat × List Nat) := (true, [([], []), ([], []), ([1], [1]), ([2], [2]), ([3], [3]), ([4], [4]), ([5], [5]), ([0, 6, 6], [0, 6]), ([7, 7, 0, 1, 2, 3, 4, 5, 6, 7], [7])])
def save_B4 : List Nat := [0, 0, 2, 6, 14, 30, 62, 127, 255]
theorem save_tab4 : rtab .any (opsOf Try.f11 4) = save_T4 := by kernel_rfl
theorem save_bits4 : waitsOk save_T4.2 save_B4 = true := by kernel_rfl

theorem cell_lt {w : World} {a : Addr} {v : Value} (h : w.cell? a = some v) : a.block < w.heap.size := by
  rcases Nat.lt_or_ge a.block w.heap.size with h' | h'
  · exact h'
  · simp [World.cell?, Array.getElem?_eq_none h'] at h

/-- An append in a drawing region. -/
theorem app_step {P : Program} {ops : Array Oper} {o : Oper} {a : Act} {w : World} {Q : Exit → Act → World → Prop} {Kc : Act → World → Prop} (hw : Region.wanted o (yielded ops a.tmps) = true) (s x : Operand) (t : TypeId)
    (ho : o.op = .call { callee := .builtin .append, args := #[s, x], argTypes := #[t, t] })
    (base : Nat) (e : TypeId) (i : TypeInfo) (z : Value) (size bytes : Nat) (ht : P.underlying t = some (.slice e)) (hi : P.info? e = some i) (hz : i.zero = some z)
    (hsize : i.size = size) (hby : i.bytes = bytes) (hzs : z.cells.size = size) (hsz : 0 < size)
    (v : Value) (n : Nat) (xs : List Value) (hs : a.eval s = v) (hown : w.ownsRow base e size v n xs)
    (ad : Addr) (m c : Nat) (news : List Value) (hx : a.eval x = .slice (some ad) m c) (hl : news.length = m * size) (hnews : ∀ j u, news[j]? = some u → w.cell? (ad.add j) = some u) (h1 : ∀ u ∈ news, u.oneCell' = true)
    (h63 : n + m ≤ maxLen) (hbytes : (n + m) * bytes ≤ 140737488355328) (hbase : base ≤ w.heap.size)
    (h : ∀ v' w', w'.ownsRow base e size v' (n + m) (xs ++ news) → w.grownBy w' v.ownBlock → Kc (a.put o.dst v') w') :
    if Region.wanted o (yielded ops a.tmps) = true then Oper.wp P o a w Kc Q else Kc (a.put o.dst undef) w := by
  rw [if_pos hw]
  obtain ⟨v', w', hr, h2, h3, h4, h5⟩ := run_append_own_at (P := P) w base t o.type e i z size bytes ht hi hz hsize hby hzs hsz v n xs hown ad m c news hl hnews h1 h63 hbytes hbase
  unfold Oper.wp execOp
  simp only [ho, resolve, invoke, builtin, Sem.run_bind, Sem.run_pure, Result.andThen_ok, List.map_toArray, List.map_cons, List.map_nil, hs, hx, hr]
  exact h v' w' h2 h3

theorem keepsOthers_below {W W' : World} (h : Below W.heap.size W W') : KeepsOthers W W' :=
  ⟨h.size, fun k o hk _ => (h.block k (Array.getElem?_eq_some_iff.1 hk).1).trans hk⟩

theorem own_keeps {W W1 : World} {n e size k : Nat} {v : Value} {xs : List Value} (h : W.ownsRow n e size v k xs) (hg : W.grownBy W1 v.ownBlock) : KeepsOthers W W1 :=
  KeepsOthers.of_grownBy hg fun j o ej hj => by
    rcases h.2 with ⟨rfl, _⟩ | ⟨g, cap, cur, rfl, _, hgb, _⟩
    · simp [Value.ownBlock] at ej
    · obtain rfl : g = j := by simpa [Value.ownBlock] using ej
      rw [hgb] at hj; cases hj; rfl

/-- The cells of a row of numbers that is read. -/
theorem news_of_C {k : IntKind} {w : World} {A : Option Addr} {n : Nat} {xs : List Int} (h : Kd.C (Kd.int k) w A n xs) (h0 : 0 < n) : ∃ ad, A = some ad ∧ ∀ j u, (encs (Value.int k) xs)[j]? = some u → w.cell? (ad.add j) = some u := by
  obtain ⟨ad, e, hc⟩ := h.2.2 h0
  refine ⟨ad, e, fun j u hj => ?_⟩
  unfold encs at hj
  rw [List.getElem?_map] at hj
  obtain ⟨p, hp, rfl⟩ := Option.map_eq_some_iff.1 hj
  obtain ⟨c, hl, hK, hcell⟩ := hc j p hp
  obtain rfl : c = [Value.int k p] := hK
  have := hcell 0 _ rfl
  have e1 : (Kd.int k).sz = 1 := rfl
  rw [e1] at this
  simpa using this

theorem encs_append {α : Type} (enc : α → Value) (xs ys : List α) : encs enc (xs ++ ys) = encs enc xs ++ encs enc ys := by simp [encs]
theorem own_lower {w : World} {b b' e size n : Nat} {v : Value} {xs : List Value} (h : w.ownsRow b e size v n xs) (hb : b' ≤ b) : w.ownsRow b' e size v n xs :=
  ⟨h.1, h.2.elim .inl fun ⟨g, cap, cur, h1, h2, h3⟩ => .inr ⟨g, cap, cur, h1, Nat.le_trans hb h2, h3⟩⟩
theorem own_form {w : World} {b e size n : Nat} {v : Value} {xs : List Value} (h : w.ownsRow b e size v n xs) : ∃ A c, v = .slice A n c := by
  rcases h.2 with ⟨rfl, rfl⟩ | ⟨g, cap, cur, rfl, _⟩
  · exact ⟨_, _, rfl⟩
  · exact ⟨_, _, rfl⟩

/-- A number's bytes. -/
def numGo : Nat → Int → List Int
  | 0, _ => []
  | k + 1, x => if x ≥ 128 then ((Go.bits .or .i64 x 128) % 256) :: numGo k (x / 128) else [x % 256]
def numOf (n : Int) : List Int := numGo 10 (mx n 0)
theorem numGo_len : ∀ (k : Nat) (x : Int), (numGo k x).length ≤ k
  | 0, _ => Nat.le_refl _
  | k + 1, x => by
    unfold numGo
    split
    · rw [List.length_cons]; have := numGo_len k (x / 128); omega
    · simp
theorem numGo_pos (k : Nat) (x : Int) : 0 < (numGo (k + 1) x).length := by
  unfold numGo
  split <;> simp
theorem number_l0 : ∀ (j k : Nat) (x : Int) (acc : List Int), 0 ≤ x → x < 128 ^ j → j + 1 ≤ k → acc.length + j + 1 < 140737488355328 → packed_Number.l0 k x acc = some (acc ++ numGo (j + 1) x)
  | 0, k, x, acc, h0, h1, hk, ha => by
    obtain ⟨k, rfl⟩ : ∃ m, k = m + 1 := ⟨k - 1, by omega⟩
    rw [packed_Number.l0, if_neg (by omega), if_pos (by omega), numGo, if_neg (by omega)]
  | j + 1, k, x, acc, h0, h1, hk, ha => by
    obtain ⟨k, rfl⟩ : ∃ m, k = m + 1 := ⟨k - 1, by omega⟩
    rw [packed_Number.l0, numGo]
    by_cases q : x ≥ 128
    · rw [if_pos q, if_pos (by omega), if_pos q, number_l0 j k (x / 128) _ (by omega) (by rw [Int.pow_succ] at h1; omega) (by omega) (by rw [List.length_append, List.length_singleton]; omega), List.append_assoc]
      rfl
    · rw [if_neg q, if_pos (by omega), if_neg q]
theorem number_k (n : Int) (h : n < 9223372036854775808) : packed_Number.f 12 n = some (numOf n) := by
  unfold packed_Number.f numOf
  have h2 : 0 ≤ mx n 0 ∧ mx n 0 < 9223372036854775808 := by unfold mx; split <;> omega
  exact (number_l0 9 12 (mx n 0) [] h2.1 (Int.lt_of_lt_of_le h2.2 (by decide)) (by omega) (by simp)).trans (by simp)
theorem numOf_len (n : Int) : (numOf n).length ≤ 10 := numGo_len 10 _

/-- The marks of loops over iterators that are over. -/
def Marks (W : World) (ds : List Nat) : Prop := ds.Nodup ∧ ∀ D ∈ ds, W.heap[D]? = some (.deferred (some []))
def markOf (D : Nat) : Deferred := { target := .collected D, args := #[] }
theorem Marks.keeps {W W' : World} {ds : List Nat} (h : Marks W ds) (hk : KeepsOthers W W') : Marks W' ds := ⟨h.1, fun D hD => hk.same D _ (h.2 D hD) rfl⟩
theorem Marks.lt {W : World} {ds : List Nat} (h : Marks W ds) : ∀ D ∈ ds, D < W.heap.size := fun D hD => (Array.getElem?_eq_some_iff.1 (h.2 D hD)).1
theorem Marks.nil (W : World) : Marks W [] := ⟨List.nodup_nil, fun D hD => by cases hD⟩
theorem Marks.cons {W : World} {ds : List Nat} {D : Nat} (h : Marks W ds) (hD : W.heap[D]? = some (.deferred (some []))) (hn : D ∉ ds) : Marks W (D :: ds) :=
  ⟨List.nodup_cons.2 ⟨hn, h.1⟩, fun E hE => by rcases List.mem_cons.1 hE with rfl | hE; exact hD; exact h.2 E hE⟩
/-- The bytes of the first i rows, behind the head. -/
def headOf (a : List (List Int)) : List Int := [83, 68] ++ numOf a.length ++ numOf (rd_L2 a 0).length

theorem at_bool_ {w : World} {A : Option Addr} {xs : List Bool} (h : Kd.C Kd.bool w A xs.length xs) (i : Nat) (hi : i < xs.length) : ∃ ad, A = some ad ∧ w.cell? (ad.add i) = some (.bool (xs.getD i false)) := by
  obtain ⟨ad, e, hc⟩ := h.2.2 (by omega)
  obtain ⟨c, hl, hK, hcell⟩ := hc i _ (List.getElem?_eq_getElem hi)
  obtain rfl : c = [Value.bool xs[i]] := hK
  have := hcell 0 _ rfl
  have e1 : Kd.bool.sz = 1 := rfl
  rw [e1] at this
  refine ⟨ad, e, ?_⟩
  rw [show xs.getD i false = xs[i] from by simp [List.getD_eq_getElem?_getD, List.getElem?_eq_getElem hi]]
  simpa using this

/-- A row's bytes. -/
def rowBytes (final : Bool) (row : List Int) : List Int := (if final = true then 1 else 0) :: (runsOf row).flatMap fun p => numOf p.1 ++ numOf p.2
def rowsUp (a : List (List Int)) (b : List Bool) (i : Nat) : List Int := (List.range i).flatMap fun j => rowBytes (b.getD j false) (rd_L2 a j)
def saveOf (a : List (List Int)) (b : List Bool) : List Int := [83, 68] ++ numOf a.length ++ numOf (rd_L2 a 0).length ++ rowsUp a b a.length

theorem runsGo_len (row : List Int) : ∀ (k fr i : Nat), (runsGo row k fr i).length ≤ k
  | 0, _, _ => Nat.le_refl _
  | k + 1, fr, i => by
    unfold runsGo
    split
    · split
      · have := runsGo_len row k fr (i + 1); omega
      · rw [List.length_cons]; have := runsGo_len row k i (i + 1); omega
    · simp
theorem runs_len (row : List Int) : (runsOf row).length ≤ row.length := runsGo_len row _ _ _
theorem flat_len : ∀ (xs : List (Int × Int)), (xs.flatMap fun p => numOf p.1 ++ numOf p.2).length ≤ 20 * xs.length
  | [] => by simp
  | x :: xs => by
    have := flat_len xs
    have h1 := numOf_len x.1
    have h2 := numOf_len x.2
    rw [List.flatMap_cons, List.length_append, List.length_append, List.length_cons]
    omega
theorem rowBytes_len (f : Bool) (row : List Int) : (rowBytes f row).length ≤ 1 + 20 * row.length := by
  have h1 := flat_len (runsOf row)
  have h2 := runs_len row
  unfold rowBytes
  rw [List.length_cons]
  omega
theorem rowsUp_succ (a : List (List Int)) (b : List Bool) (i : Nat) : rowsUp a b (i + 1) = rowsUp a b i ++ rowBytes (b.getD i false) (rd_L2 a i) := by
  unfold rowsUp
  rw [List.range_succ, List.flatMap_append]
  simp
theorem rowsUp_len (a : List (List Int)) (b : List Bool) (h : ∀ j : Nat, j < a.length → (rd_L2 a j).length ≤ 200) : ∀ i : Nat, i ≤ a.length → (rowsUp a b i).length ≤ i * 4001
  | 0, _ => by simp [rowsUp]
  | i + 1, hi => by
    have h1 := rowsUp_len a b h i (by omega)
    have h2 := rowBytes_len (b.getD i false) (rd_L2 a i)
    have h3 := h i (by omega)
    rw [rowsUp_succ, List.length_append]
    omega
theorem right_len {a : List (List Int)} {b : List Bool} (hg : rightB a b = true) : a.length ≤ 5000 := by
  unfold rightB at hg
  simp only [Bool.and_eq_true, decide_eq_true_eq] at hg
  exact hg.1.1.1.1.2
theorem right_row {a : List (List Int)} {b : List Bool} (hg : rightB a b = true) (j : Nat) (hj : j < a.length) : (rd_L2 a j).length ≤ 200 := by
  unfold rightB at hg
  simp only [Bool.and_eq_true, decide_eq_true_eq, Bool.not_eq_true'] at hg
  have h2 := hg.1.2
  have h3 := hg.2
  have hm : rd_L2 a j ∈ a := by
    unfold rd_L2
    simp only [Int.toNat_natCast, List.getD_eq_getElem?_getD, List.getElem?_eq_getElem hj, Option.getD_some]
    exact List.getElem_mem hj
  have := List.any_eq_false.1 h3 _ hm
  unfold badRow at this
  simp only [Bool.or_eq_true, bne_iff_ne, ne_eq, not_or, Decidable.not_not] at this
  have := this.1
  omega

end Go.Proofs.Ytjcgbjkjkgkklaa.Print
