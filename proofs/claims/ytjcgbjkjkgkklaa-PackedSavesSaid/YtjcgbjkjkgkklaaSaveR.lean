/- What the range over packed.runs wants inside packed.Save: the iterator's contract in the law's form, what its rounds keep. -/
import Derived.Test.YtjcgbjkjkgkklaaSaveA
namespace Go.Proofs.Ytjcgbjkjkgkklaa.Print
open Go.RowKit Go.Shelf Go.Proofs.YtjcgbjkjkgkklaaW.PrintWords Go.Proofs.YtjcgbjkjkgkklaaW.PrintLast Go.Proofs.YtjcgbjkjkgkklaaW.PrintMore
set_option linter.unusedVariables false
set_option linter.unusedSimpArgs false

/-- What a round must keep: what lay below n₀, and the variable that the iterator has captured. -/
def KpR (n₀ Bn : Nat) (W W' : World) : Prop := Below n₀ W W' ∧ W'.cell? ⟨Bn, 0, none⟩ = W.cell? ⟨Bn, 0, none⟩
theorem kpR_t {n₀ Bn : Nat} {A B C : World} (h : KpR n₀ Bn A B) (k : KpR n₀ Bn B C) : KpR n₀ Bn A C := ⟨h.1.trans k.1, k.2.trans h.2⟩
theorem kpR_b {n₀ Bn : Nat} {w : World} (h0 : n₀ ≤ w.heap.size) (hB : Bn < w.heap.size) : ∀ (W : World) (l : Nat) (o o' : Obj), w.heap.size ≤ l → W.heap[l]? = some o → o.isCells = false → o.isWalk = false → KpR n₀ Bn W (W.putObj l o') :=
  fun W l o o' hl ho h1 h2 => ⟨belowK_b (w := w) h0 W l o o' hl ho h1 h2, World.cell?_of_block (World.putObj_heap_other (by dsimp only; omega))⟩

/-- A number that fits: what no row has is told as 0. -/
def cl (z : Int) : Int := if z < 9223372036854775808 then z else 0
theorem cl_lt (z : Int) : cl z < 9223372036854775808 := by unfold cl; split <;> omega
theorem cl_of {z : Int} (h : z < 9223372036854775808) : cl z = z := if_pos h
def flatN (xs : List (Int × Int)) : List Int := xs.flatMap fun p => numOf (cl p.1) ++ numOf (cl p.2)
theorem flatN_snoc (xs : List (Int × Int)) (x : Int × Int) : flatN (xs ++ [x]) = flatN xs ++ (numOf (cl x.1) ++ numOf (cl x.2)) := by simp [flatN]
theorem flatN_len : ∀ xs : List (Int × Int), (flatN xs).length ≤ 20 * xs.length
  | [] => by simp [flatN]
  | x :: xs => by
    have h := flatN_len xs
    have h1 := numOf_len (cl x.1)
    have h2 := numOf_len (cl x.2)
    unfold flatN at h ⊢
    rw [List.flatMap_cons, List.length_append, List.length_append, List.length_cons]
    omega
theorem flatN_le {X : List Int} {i : Nat} {row : List Int} {pre : List (Int × Int)} (hx : X.length ≤ 23 + i * 4001) (hr : row.length ≤ 200) (hi : i ≤ 5000) (hp : pre.length < (runsOf row).length) : (X ++ flatN pre).length ≤ 30000000 := by
  have h1 := flatN_len pre
  have h2 := runs_len row
  rw [List.length_append]
  omega

theorem rd_lt {row : List Int} (h : ∀ z ∈ row, z < 9223372036854775808) (i : Int) : rd row i < 9223372036854775808 := by
  unfold rd
  rw [List.getD_eq_getElem?_getD]
  cases h' : row[i.toNat]? with
  | none => simp
  | some z => exact h z (List.mem_of_getElem? h')

/-- The runs' numbers fit. -/
theorem runsGo_fit {row : List Int} (h : ∀ z ∈ row, z < 9223372036854775808) (hl : row.length < 9223372036854775807) : ∀ (k fr i : Nat), ∀ p ∈ runsGo row k fr i, p.1 < 9223372036854775808 ∧ p.2 < 9223372036854775808
  | 0, _, _, p, hp => by simp [runsGo] at hp
  | k + 1, fr, i, p, hp => by
    unfold runsGo at hp
    by_cases q : i ≤ row.length
    · rw [if_pos q] at hp
      by_cases q2 : i < row.length ∧ rd row i = rd row fr
      · rw [if_pos q2] at hp
        exact runsGo_fit h hl k fr (i + 1) p hp
      · rw [if_neg q2] at hp
        rcases List.mem_cons.1 hp with rfl | hp
        · exact ⟨by show (i : Int) - fr < _; omega, rd_lt h _⟩
        · exact runsGo_fit h hl k i (i + 1) p hp
    · rw [if_neg q] at hp; cases hp
theorem runs_fit {row : List Int} (h : ∀ z ∈ row, z < 9223372036854775808) (hl : row.length < 9223372036854775807) : ∀ p ∈ runsOf row, p.1 < 9223372036854775808 ∧ p.2 < 9223372036854775808 := runsGo_fit h hl _ _ _

theorem flatN_of {xs : List (Int × Int)} (h : ∀ p ∈ xs, p.1 < 9223372036854775808 ∧ p.2 < 9223372036854775808) : flatN xs = xs.flatMap fun p => numOf p.1 ++ numOf p.2 := by
  induction xs with
  | nil => rfl
  | cons x xs ih =>
    unfold flatN at ih ⊢
    rw [List.flatMap_cons, List.flatMap_cons, ih (fun p hp => h p (List.mem_cons_of_mem _ hp)), cl_of (h x (List.mem_cons_self ..)).1, cl_of (h x (List.mem_cons_self ..)).2]

/-- The iterator of runs(row), for every loop over it. -/
theorem runs_stops (n : Nat) (hn : 1 ≤ n) (Bn : Nat) (A : Option Addr) (c : Nat) (l : List Int) (hl : l.length ≤ 9223372036854775806) (hf : ∀ z ∈ l, z < 9223372036854775808) (w0 w : World) (h0w : Below w0.heap.size w0 w)
    (hr : Kd.C (Kd.int .i64) w0 A l.length l) (hBn : w.cell? ⟨Bn, 0, none⟩ = some (.slice A l.length c)) (hB : Bn < w.heap.size) :
    SeqStopsK Fence.wide n Try.prog 32 #[.pointer (some ⟨Bn, 0, none⟩)] (fun x : Int × Int => #[.int .i64 (cl x.1), .int .i64 (cl x.2)]) (KpR w0.heap.size Bn) (fun ys => ys = runsOf l) (fun pre => pre <+: runsOf l) (runsOf l).length w :=
  fun lp J Jx W hW hJ hJx hY h0 => runs1_in n hn lp Bn A c l w0 hl hr J Jx
    (fun pre W' m hp => hJ pre W' (W'.drewN m) none hp ⟨rfl, rfl, rfl, Nat.le_refl _, fun _ _ _ => rfl⟩ (fun r e => by cases e))
    (fun pre x W1 h1 h2 h3 => by
      have hx := runs_fit hf (by omega) x (h3.subset (by simp))
      have := hY pre x W1 h1 h2
      simp only [cl_of hx.1, cl_of hx.2] at this
      exact this) W (h0w.trans (hW.mono h0w.size)) ((hW.cell (p := ⟨Bn, 0, none⟩) hB).trans hBn) h0

theorem boxed_own {β : Type} (B : Nat) (t : TypeId) (v : Value) : Own (fun (_ : β) W => Boxed W B t v) := fun s X Y row hs hg hrow =>
  hs.kept hg (fun e' => by obtain ⟨o, ho, hc⟩ := hrow B e'.symm; rw [show X.heap[B]? = _ from hs] at ho; cases ho; cases hc)
theorem marks_own {β : Type} {ds : List Nat} {B : Nat} (h : ∀ D ∈ ds, D < B) : OwnFrom B (fun (_ : β) W => Marks W ds) := fun s X Y row hs hg hr =>
  ⟨hs.1, fun D hD => (hg.block D (hs.lt D hD) (fun e' => by have := (hr D e'.symm).1; have := h D hD; omega)).trans (hs.2 D hD)⟩
/-- A store into a box leaves another box as it was. -/
theorem boxed_other {W : World} {B C : Nat} {t t' : TypeId} {v v' : Value} (h : Boxed W B t v) (h' : Boxed W C t' v') (hne : t ≠ t') (u : Value) : Boxed (W.setCell ⟨C, 0, none⟩ u) B t v :=
  h.kept (grownBy_setCell' W C u) (fun e => by
    obtain rfl : B = C := by simpa using e
    have e2 := (show W.heap[B]? = some (.cells #[v] t (0, 0)) from h).symm.trans (show W.heap[B]? = some (.cells #[v'] t' (0, 0)) from h')
    injection e2 with e2
    injection e2 with _ e2
    exact hne e2)
/-- In a row of right states all numbers fit. -/
theorem row_fit {a : List (List Int)} {b : List Bool} (hg : rightB a b = true) (j : Nat) (hj : j < a.length) : ∀ z ∈ rd_L2 a j, z < 9223372036854775808 := by
  have hn := right_len hg
  unfold rightB at hg
  simp only [Bool.and_eq_true, decide_eq_true_eq, Bool.not_eq_true'] at hg
  have hm : rd_L2 a j ∈ a := by
    unfold rd_L2
    simp only [Int.toNat_natCast, List.getD_eq_getElem?_getD, List.getElem?_eq_getElem hj, Option.getD_some]
    exact List.getElem_mem hj
  have h := List.any_eq_false.1 hg.2 _ hm
  unfold badRow at h
  simp only [Bool.or_eq_true, not_or, Bool.not_eq_true] at h
  intro z hz
  have h2 := List.any_eq_false.1 h.2 z hz
  simp [odd] at h2
  omega
/-- The end of a function that holds marks alone: they are taken one behind the other. -/
theorem leaves_marks {F : Fence} {n : Nat} {P : Program} {fn : Func} {tmps : Array Value} {R : Ending → World → Prop} {v : Value} (hres : ∀ w, (results fn tmps).run P w = .ok v w) (I : World → Prop) (B : Nat)
    (hI : ∀ W D, B ≤ D → W.heap[D]? = some (.deferred (some [])) → I W → I (W.putObj D (.deferred none))) (hR : ∀ W, I W → R (.returned v) W) :
    ∀ (ds : List Nat) (W : World), (∀ D ∈ ds, B ≤ D) → Marks W ds → I W → LeavesInM F n P fn tmps R (ds.map markOf) .returning W
  | [], W, _, _, h => ⟨v, hres W, hR W h⟩
  | D :: ds, W, hb, hm, h => ⟨by simp, .inl ⟨D, _, rfl, run_takeDeferred (hm.2 D (List.mem_cons_self ..)), leaves_marks hres I B hI hR ds _ (fun E hE => hb E (List.mem_cons_of_mem _ hE))
      ⟨(List.nodup_cons.1 hm.1).2, fun E hE => (World.putObj_heap_other (k := E) (r := D) (fun e => (List.nodup_cons.1 hm.1).1 (by rw [← e]; exact hE))).trans (hm.2 E (List.mem_cons_of_mem _ hE))⟩
      (hI W D (hb D (List.mem_cons_self ..)) (hm.2 D (List.mem_cons_self ..)) h)⟩⟩

/-- The end of packed.Save. -/
theorem save_leaves {n₀ : Nat} {w0 : World} {tmps : Array Value} {v : Value} {xs : List Int} {ds : List Nat} {W : World} {R : Ending → World → Prop} (h0 : n₀ ≤ w0.heap.size) (hb : ∀ D ∈ ds, n₀ ≤ D) (hm : Marks W ds)
    (ho : W.ownsRow n₀ 5 1 v xs.length (encs (Value.int .u8) xs)) (hB : Below n₀ w0 W) (h2 : tmps.getD 2 undef = v) (h3 : tmps.getD 3 undef = .int .i64 0)
    (hR : ∀ W', Kd.R (Kd.int .u8) 5 W' n₀ (fun _ => True) v xs → Below n₀ w0 W' → R (.returned (.tuple #[v, .int .i64 0])) W') : LeavesInM Fence.wide 5 Try.prog Try.f11 tmps R (ds.map markOf) .returning W := by
  refine leaves_marks (v := .tuple #[v, .int .i64 0]) (fun w' => by have := results_tmp2 (P := Try.prog) (fn := Try.f11) rfl tmps w'; rw [h2, h3] at this; exact this) (fun W => W.ownsRow n₀ 5 1 v xs.length (encs (Value.int .u8) xs) ∧ Below n₀ w0 W) n₀ ?_ ?_ ds W hb hm ⟨ho, hB⟩
  · rintro W D hD hd ⟨h1, h2⟩
    exact ⟨ownsRow_putObj h1 _ hd rfl, h2.grown (grownBy_putObj' W D _) (Nat.le_trans h0 h2.size) (fun k e => by cases e; exact hD)⟩
  · rintro W ⟨h1, h2⟩
    exact hR W (Kd.R_of_own h1 (fun _ _ => trivial)) h2
end Go.Proofs.Ytjcgbjkjkgkklaa.Print
