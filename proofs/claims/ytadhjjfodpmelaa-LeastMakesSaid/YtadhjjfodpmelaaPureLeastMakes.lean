/- For all states: the fewest states are those of the reference. -/
import Derived.Test.YtadhjjfodpmelaaPrint14
import Derived.Test.YtadhjjfodpmelaaPrint6
import Derived.Test.YtadhjjfodpmelaaLawL
-- NEEDS scansionlaw13_LeastMakes scansionlaw13_awake
namespace Go.Proofs.Ytadhjjfodpmelaa.Pure
open Go.RowKit Go.Proofs.Ytadhjjfodpmelaa.Print Go.Proofs.YtadhjjfodpmelaaW.PrintWords Go.Proofs.YtadhjjfodpmelaaW.PrintLast
set_option linter.unusedVariables false

theorem awake_f : scansionlaw13_awake.f = some true := by
  have e : least_Least.f [[1], [0]] [true, true] = some ([[0]], [true], 0) := by kernel_rfl
  unfold scansionlaw13_awake.f
  rw [e]
  rfl

/-- The sizes of what least.Least tells. -/
theorem leastGo_len (a : List (List Int)) (b : List Bool) (kind : List Int) : ∀ (k : Nat) (x : List (List Int)) (y : List Bool) (o : List Int), y.length = x.length → (leastGo a b kind k x y o).1.length ≤ x.length + k ∧ (leastGo a b kind k x y o).2.length = (leastGo a b kind k x y o).1.length
  | 0, x, y, o, h => by rw [leastGo]; exact ⟨Nat.le_refl _, h⟩
  | k + 1, x, y, o, h => by
    rw [leastGo]
    split
    · have := leastGo_len a b kind k (x ++ [(rowUp kind o (rd_L1 a (rd o x.length)) (rd_L1 a (rd o x.length)).length).1]) (y ++ [rdOf false b (rd o x.length)]) (rowUp kind o (rd_L1 a (rd o x.length)) (rd_L1 a (rd o x.length)).length).2 (by rw [List.length_append, List.length_append, h]; rfl)
      rw [List.length_append] at this
      exact ⟨by have h1 := this.1; simp only [List.length_singleton] at h1; omega, this.2⟩
    · exact ⟨by simp, h⟩
theorem leastGo_rows (a : List (List Int)) (b : List Bool) (kind : List Int) {M : Nat} (hM : ∀ i : Int, (rd_L1 a i).length ≤ M) : ∀ (k : Nat) (x : List (List Int)) (y : List Bool) (o : List Int), (∀ r ∈ x, r.length ≤ M) → ∀ r ∈ (leastGo a b kind k x y o).1, r.length ≤ M
  | 0, x, y, o, h => by rw [leastGo]; exact h
  | k + 1, x, y, o, h => by
    rw [leastGo]
    split
    · refine leastGo_rows a b kind hM k _ _ _ fun r hr => ?_
      rcases List.mem_append.1 hr with hr | hr
      · exact h r hr
      · rw [List.mem_singleton] at hr
        subst hr
        rw [rowUp_len]
        exact hM _
    · exact h
theorem rows_le {a : List (List Int)} {b : List Bool} {n m : Nat} (hw : Wf a b n m) (i : Int) : (rd_L1 a i).length ≤ 200 := by
  have hm := hw.m2
  by_cases q : i.toNat < n
  · have : rd_L1 a i = rd_L1 a (i.toNat : Nat) := by unfold rd_L1; rw [Int.toNat_natCast]
    rw [this, hw.row _ q]; exact hm
  · have hl := hw.len
    unfold rd_L1
    rw [List.getD_eq_getElem?_getD, List.getElem?_eq_none (by omega)]
    simp
theorem least_sizes {a : List (List Int)} {b : List Bool} {r : List (List Int) × List Bool × Int} (h : least_Least.f a b = some r) : r.1.length ≤ 5001 ∧ r.2.1.length = r.1.length ∧ ∀ x ∈ r.1, x.length ≤ 200 := by
  cases q : rightB a b with
  | false =>
    rw [least_not q] at h
    obtain rfl := Option.some.inj h
    exact ⟨by simp, rfl, fun x hx => by simp at hx⟩
  | true =>
    have hw := wf_of_right q
    obtain ⟨kind, h1, _⟩ := least_right q
    rw [h1] at h
    obtain rfl := Option.some.inj h
    have := leastGo_len a b kind (a.length + 1) [] [] [0] rfl
    have hm := hw.most
    exact ⟨by have h2 := this.1; show (leastGo a b kind (a.length + 1) [] [] [0]).1.length ≤ 5001; simp only [List.length_nil] at h2; omega, this.2, leastGo_rows a b kind (rows_le hw) _ _ _ _ (fun r hr => by simp at hr)⟩
theorem ev_sameR {x : List (List Int)} {y : List Bool} (x' : List (List Int)) (y' : List Bool) (h1 : x.length ≤ 5001) (h2 : y.length = x.length) (h3 : ∀ r ∈ x, r.length ≤ 200) : Ev (fun k => scansionref12_Same.f k x y x' y') (decide (x = x' ∧ y = y')) :=
  ev_same x y x' y' (by omega) (by omega) (fun r hr => by have := h3 r hr; omega)

theorem LeastMakes (a : List (List Int)) (b : List Bool) (ha : a.length ≤ maxLen) : ∃ k, scansionlaw13_LeastMakes.f k a b = some true := by
  have h : Ev (fun k => scansionlaw13_LeastMakes.f k a b) true := by
    obtain ⟨r, h1, h2⟩ := ev_refLeast a b
    obtain ⟨s1, s2, s3⟩ := least_sizes h1
    refine Ev.congr (g := fun k => (scansionref12_Few.f k a b 25).bind fun t230 => scansionlaw13_LeastMakes.j0 k true (!t230) a b) (Ev.bind (ev_few a b 25 ha) ?_) fun k => ?_
    · cases q : fewB a b 25 with
      | true =>
        refine Ev.succ (g := fun k => ((scansionref13_Least.f k a b).bind fun bt239 => ((scansionref12_Same.f k r.1 r.2.1 bt239.1 bt239.2.1).bind fun t247 => (if t247 = true then (some (r.2.2 == bt239.2.2)) else (some false))))) (Ev.bind h2 (Ev.bind (ev_sameR r.1 r.2.1 s1 s2 s3) ?_)) fun k => ?_
        · refine Ev.congr (Ev.some_ true) fun k => ?_
          rw [decide_eq_true ⟨rfl, rfl⟩, if_pos rfl, beq_self_eq_true]
        · rw [scansionlaw13_LeastMakes.j0, if_neg (by decide), h1, Option.bind_some]
      | false =>
        refine Ev.succ (Ev.some_ true) fun k => ?_
        rw [scansionlaw13_LeastMakes.j0, if_pos (by decide)]
    · unfold scansionlaw13_LeastMakes.f
      rw [awake_f, Option.bind_some]
      rfl
  obtain ⟨K, hK⟩ := h
  exact ⟨K, hK K (Nat.le_refl _)⟩
end Go.Proofs.Ytadhjjfodpmelaa.Pure
