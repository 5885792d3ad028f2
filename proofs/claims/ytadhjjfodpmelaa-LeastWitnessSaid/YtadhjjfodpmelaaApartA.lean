/- What least.Apart comes to, as plain functions; what its loops keep. -/
import Derived.Test.YtadhjjfodpmelaaMapAt
import Derived.Test.YtadhjjfodpmelaaClassB
namespace Go.Proofs.Ytadhjjfodpmelaa.Print
open Go.RowKit Go.Shelf Go.Maps Go.Proofs.YtadhjjfodpmelaaW.PrintWords Go.Proofs.YtadhjjfodpmelaaW.PrintLast Go.Proofs.YtadhjjfodpmelaaW.PrintMore
set_option linter.unusedVariables false
set_option linter.unusedSimpArgs false

/-- The pair to which x leads by class c. -/
def apY (a a' : List (List Int)) (x : Int × Int) (c : Nat) : Int × Int := (rd (rd_L1 a x.1) c, rd (rd_L1 a' x.2) c)
/-- The pairs met, and their words, behind the first j classes of x, whose word is wx. -/
def apRow (a a' : List (List Int)) (x : Int × Int) (wx : List Int) (q : List (Int × Int)) (ws : List (List Int)) : Nat → List (Int × Int) × List (List Int)
  | 0 => (q, ws)
  | j + 1 => if apY a a' x j ∈ (apRow a a' x wx q ws j).1 then apRow a a' x wx q ws j else ((apRow a a' x wx q ws j).1 ++ [apY a a' x j], (apRow a a' x wx q ws j).2 ++ [wx ++ [(j : Int)]])
def apGo (a : List (List Int)) (b : List Bool) (a' : List (List Int)) (b' : List Bool) (m : Nat) : Nat → List (Int × Int) → List (List Int) → Nat → List Int × Bool
  | 0, _, _, _ => ([], false)
  | k + 1, q, ws, i => if i < q.length then (if rdOf false b (q.getD i (0, 0)).1 ≠ rdOf false b' (q.getD i (0, 0)).2 then (ws.getD i [], true) else apGo a b a' b' m k (apRow a a' (q.getD i (0, 0)) (ws.getD i []) q ws m).1 (apRow a a' (q.getD i (0, 0)) (ws.getD i []) q ws m).2 (i + 1)) else ([], false)
def bothB (a : List (List Int)) (b : List Bool) (a' : List (List Int)) (b' : List Bool) : Bool := rightB a b && rightB a' b' && decide ((rd_L1 a 0).length = (rd_L1 a' 0).length)
def apartOf (a : List (List Int)) (b : List Bool) (a' : List (List Int)) (b' : List Bool) : List Int × Bool := apGo a b a' b' (rd_L1 a 0).length (a.length * a'.length + 1) [(0, 0)] [[]] 0

/-- What is known of the pairs: states of both, no two the same; a word is no longer than its number. -/
structure QOk (n n' : Nat) (q : List (Int × Int)) (ws : List (List Int)) : Prop where
  nd : q.Nodup
  lo : ∀ x ∈ q, (0 ≤ x.1 ∧ x.1 < n) ∧ 0 ≤ x.2 ∧ x.2 < n'
  len : ws.length = q.length
  short : ∀ (j : Nat) x, ws[j]? = some x → x.length ≤ j
theorem QOk.size {n n' : Nat} {q : List (Int × Int)} {ws : List (List Int)} (h : QOk n n' q ws) : q.length ≤ n * n' := by
  have h2 : q ⊆ (List.range n).flatMap (fun i : Nat => (List.range n').map (fun j : Nat => ((i : Int), (j : Int)))) := fun x hx => by
    have := h.lo x hx
    refine List.mem_flatMap.2 ⟨x.1.toNat, List.mem_range.2 (by omega), List.mem_map.2 ⟨x.2.toNat, List.mem_range.2 (by omega), ?_⟩⟩
    exact Prod.ext (by simp; omega) (by simp; omega)
  have h3 := List.Nodup.length_le_of_subset h.nd h2
  rw [List.length_flatMap] at h3
  have h4 : ∀ k, ((List.range k).map (fun i : Nat => ((List.range n').map (fun j : Nat => ((i : Int), (j : Int)))).length)).sum = k * n' := by
    intro k
    induction k with
    | zero => simp
    | succ k ih => rw [List.range_succ, List.map_append, List.sum_append, ih]; simp [Nat.succ_mul]
  rw [h4] at h3
  exact h3
theorem apRow_pre (a a' : List (List Int)) (x : Int × Int) (wx : List Int) (q : List (Int × Int)) (ws : List (List Int)) : ∀ j, ∃ r s, (apRow a a' x wx q ws j).1 = q ++ r ∧ (apRow a a' x wx q ws j).2 = ws ++ s
  | 0 => ⟨[], [], by simp [apRow], by simp [apRow]⟩
  | j + 1 => by
    obtain ⟨r, s, h1, h2⟩ := apRow_pre a a' x wx q ws j
    rw [apRow]
    split
    · exact ⟨r, s, h1, h2⟩
    · exact ⟨r ++ [apY a a' x j], s ++ [wx ++ [(j : Int)]], by show (apRow a a' x wx q ws j).1 ++ _ = _; rw [h1, List.append_assoc], by show (apRow a a' x wx q ws j).2 ++ _ = _; rw [h2, List.append_assoc]⟩
theorem QOk.snoc {n n' : Nat} {q : List (Int × Int)} {ws : List (List Int)} {y : Int × Int} {w : List Int} (h : QOk n n' q ws) (hy : (0 ≤ y.1 ∧ y.1 < n) ∧ 0 ≤ y.2 ∧ y.2 < n') (hn : y ∉ q) (hw : w.length ≤ q.length) : QOk n n' (q ++ [y]) (ws ++ [w]) := by
  refine ⟨?_, fun x hx => ?_, by rw [List.length_append, List.length_append, h.len]; rfl, fun j x hx => ?_⟩
  · rw [List.nodup_append]
    exact ⟨h.nd, by simp, fun x hx z hz => by simp at hz; subst hz; exact fun e => hn (e ▸ hx)⟩
  · rcases List.mem_append.1 hx with hx | hx
    · exact h.lo x hx
    · rw [List.mem_singleton] at hx; rw [hx]; exact hy
  · rcases Nat.lt_or_ge j ws.length with hj | hj
    · rw [List.getElem?_append_left hj] at hx
      exact h.short j x hx
    · rw [List.getElem?_append_right hj] at hx
      have hz : j - ws.length = 0 := by
        rcases Nat.lt_or_ge (j - ws.length) 1 with p | p
        · omega
        · rw [List.getElem?_eq_none (by simpa using p)] at hx; cases hx
      rw [hz] at hx
      obtain rfl := Option.some.inj hx
      have := h.len
      omega
theorem apRow_ok {n n' m : Nat} {a a' : List (List Int)} {q : List (Int × Int)} {ws : List (List Int)} {x : Int × Int} {wx : List Int} (h : QOk n n' q ws) (hy : ∀ c, c < m → (0 ≤ (apY a a' x c).1 ∧ (apY a a' x c).1 < n) ∧ 0 ≤ (apY a a' x c).2 ∧ (apY a a' x c).2 < n') (hw : wx.length + 1 ≤ q.length) :
    ∀ j, j ≤ m → QOk n n' (apRow a a' x wx q ws j).1 (apRow a a' x wx q ws j).2
  | 0, _ => h
  | j + 1, hj => by
    have ih := apRow_ok h hy hw j (by omega)
    rw [apRow]
    split
    · exact ih
    · rename_i hn
      obtain ⟨r, s, e, _⟩ := apRow_pre a a' x wx q ws j
      refine ih.snoc (hy j (by omega)) hn ?_
      rw [e, List.length_append, List.length_append]
      simp only [List.length_singleton]
      omega

/-! ### memory -/
def kp : Kd (Int × Int) := Kd.pair (Kd.int .i64) (Kd.int .i64)
theorem kp_mk (w : World) (base : Nat) (ok : Nat → Prop) (p : Int × Int) : kp.M w base ok p [.int .i64 p.1, .int .i64 p.2] := ⟨[.int .i64 p.1], [.int .i64 p.2], rfl, rfl, rfl⟩
theorem kp_open {w : World} {p : Int × Int} {cs : List Value} (h : kp.K w p cs) : cs = [.int .i64 p.1, .int .i64 p.2] := by
  obtain ⟨c0, c1, rfl, h0, h1⟩ := h
  have e0 : c0 = [.int .i64 p.1] := h0
  have e1 : c1 = [.int .i64 p.2] := h1
  rw [e0, e1]; rfl
theorem kp_cells {W : World} {base g n cap : Nat} {ok : Nat → Prop} {q : List (Int × Int)} (h : Kd.R kp 51 W base ok (.slice (some ⟨g, 0, none⟩) n cap) q) (i : Nat) (hi : i < n) :
    W.cell? ⟨g, i * 2, none⟩ = some (.int .i64 (q.getD i (0, 0)).1) ∧ W.cell? ⟨g, i * 2 + 1, none⟩ = some (.int .i64 (q.getD i (0, 0)).2) := by
  have hn := (Kd.R_reads' h).1
  obtain ⟨ad, c, e, _, hK, hc⟩ := ReadsRow.get_ (Kd.R_reads' h).2.2 (0, 0) (i : Int) (by omega) (by omega)
  obtain rfl := (Option.some.inj e).symm
  rw [Int.toNat_natCast] at hK hc
  have hc := hc
  rw [kp_open hK] at hc
  have h0 := hc 0 _ rfl
  have h1 := hc 1 _ rfl
  have e0 : (⟨g, 0, none⟩ : Addr).add (i * kp.sz + 0) = ⟨g, i * 2, none⟩ := by rw [show kp.sz = 2 from rfl]; simp [Addr.add]; omega
  have e1 : (⟨g, 0, none⟩ : Addr).add (i * kp.sz + 1) = ⟨g, i * 2 + 1, none⟩ := by rw [show kp.sz = 2 from rfl]; simp [Addr.add]
  rw [e0] at h0
  rw [e1] at h1
  exact ⟨h0, h1⟩

structure AInv (w : World) (MB : Nat) (u0 u1 u2 u3 vQ : Value) (ks q : List (Int × Int)) (vs : List Value) (ws : List (List Int)) (W : World) : Prop where
  below : Below w.heap.size w W
  b0 : W.heap[w.heap.size]? = some (.cells #[u0, u1] 25 (0, 0))
  b1 : W.heap[w.heap.size + 1]? = some (.cells #[u2, u3] 25 (0, 0))
  hMB : w.heap.size < MB
  map : MapAt W MB ks vs
  que : Kd.R kp 51 W w.heap.size (fun _ => True) vQ q
  words : ∀ (j : Nat) (v : Value) (x : List Int), vs[j]? = some v → ws[j]? = some x → Kd.R (Kd.int .i64) 3 W w.heap.size (fun _ => True) v x
  len : vs.length = ws.length
section
variable {w W W' : World} {MB : Nat} {u0 u1 u2 u3 vQ vQ' v : Value} {ks q q' : List (Int × Int)} {vs : List Value} {ws : List (List Int)}
theorem AInv.base (h : AInv w MB u0 u1 u2 u3 vQ ks q vs ws W) : w.heap.size ≤ W.heap.size := h.below.size
theorem AInv.later (h : AInv w MB u0 u1 u2 u3 vQ ks q vs ws W) (hb : Below W.heap.size W W') : AInv w MB u0 u1 u2 u3 vQ ks q vs ws W' :=
  ⟨below_step h.below hb, blk_below h.b0 hb, blk_below h.b1 hb, h.hMB, h.map.move (hb.block _ h.map.lt), Kd.R_below h.que hb, fun j v x h1 h2 => Kd.R_below (h.words j v x h1 h2) hb, h.len⟩
theorem AInv.alloc (h : AInv w MB u0 u1 u2 u3 vQ ks q vs ws W) (o : Obj) : AInv w MB u0 u1 u2 u3 vQ ks q vs ws (W.alloc o) := h.later (below_alloc (Below.refl _ _) o)
theorem AInv.drew (h : AInv w MB u0 u1 u2 u3 vQ ks q vs ws W) : AInv w MB u0 u1 u2 u3 vQ ks q vs ws W.drew := h.later (below_drew (Below.refl _ _))
theorem R_mapped {α : Type} {d : Kd α} {e base : Nat} {xs : List α} (hE : d.E = []) (h : Kd.R d e W base (fun _ => True) v xs) (hm : MapAt W MB ks vs) (hg : W.grownBy W' (some MB)) : Kd.R d e W' base (fun _ => True) v xs :=
  Kd.R_grown2 h hE hg (fun k hk he => by
    injection hk with hk
    subst hk
    obtain ⟨cs, hcs⟩ := Kd.R_typed h _ he.symm
    exact hm.ne hcs rfl)
/-- A new entry. -/
theorem AInv.put {y : Int × Int} {x : List Int} (h : AInv w MB u0 u1 u2 u3 vQ ks q vs ws W) (hm : MapAt W' MB (ks ++ [y]) (vs ++ [v])) (hg : W.grownBy W' (some MB)) (hv : Kd.R (Kd.int .i64) 3 W w.heap.size (fun _ => True) v x) : AInv w MB u0 u1 u2 u3 vQ (ks ++ [y]) q (vs ++ [v]) (ws ++ [x]) W' := by
  have ne : ∀ {g t : Nat} {cs : Array Value}, W.heap[g]? = some (.cells cs t (0, 0)) → some g ≠ some MB := fun hg e => h.map.ne hg (by injection e)
  refine ⟨h.below.grown hg h.base (fun k e => by injection e with e; have := h.hMB; omega), blk_grown h.b0 hg (ne h.b0), blk_grown h.b1 hg (ne h.b1), h.hMB, hm, R_mapped rfl h.que h.map hg, fun j u z h1 h2 => ?_, by rw [List.length_append, List.length_append, h.len]; rfl⟩
  rcases Nat.lt_or_ge j vs.length with hj | hj
  · rw [List.getElem?_append_left hj] at h1
    rw [List.getElem?_append_left (by rw [← h.len]; exact hj)] at h2
    exact R_mapped rfl (h.words j u z h1 h2) h.map hg
  · rw [List.getElem?_append_right hj] at h1
    rw [List.getElem?_append_right (by rw [← h.len]; exact hj)] at h2
    have hz : j - vs.length = 0 := by
      rcases Nat.lt_or_ge (j - vs.length) 1 with p | p
      · omega
      · rw [List.getElem?_eq_none (by simpa using p)] at h1; cases h1
    rw [hz] at h1
    rw [← h.len, hz] at h2
    obtain rfl := Option.some.inj h1
    obtain rfl := Option.some.inj h2
    exact R_mapped rfl hv h.map hg
/-- The queue has grown. -/
theorem AInv.push (h : AInv w MB u0 u1 u2 u3 vQ ks q vs ws W) (hg : W.grownBy W' vQ.ownBlock) (hq : Kd.R kp 51 W' w.heap.size (fun _ => True) vQ' q') : AInv w MB u0 u1 u2 u3 vQ' ks q' vs ws W' := by
  have ne : ∀ {g t : Nat} {cs : Array Value}, W.heap[g]? = some (.cells cs t (0, 0)) → t ≠ 51 → some g ≠ vQ.ownBlock := fun hg ht => Kd.R_ne h.que hg (fun e => ht e.symm)
  refine ⟨h.below.grown hg h.base (fun k e => Kd.R_base h.que k e), blk_grown h.b0 hg (ne h.b0 (by decide)), blk_grown h.b1 hg (ne h.b1 (by decide)), h.hMB, h.map.move (hg.block _ h.map.lt (fun e => ?_)), hq, fun j v x h1 h2 => ?_, h.len⟩
  · obtain ⟨cs, hcs⟩ := Kd.R_typed h.que MB e.symm
    exact h.map.ne hcs rfl
  · have hR := h.words j v x h1 h2
    refine Kd.R_grown2 hR rfl hg (fun k hk he => ?_)
    obtain ⟨cs, hcs⟩ := Kd.R_typed hR k he.symm
    exact Kd.R_ne h.que hcs (by decide) hk.symm
end
end Go.Proofs.Ytadhjjfodpmelaa.Print
