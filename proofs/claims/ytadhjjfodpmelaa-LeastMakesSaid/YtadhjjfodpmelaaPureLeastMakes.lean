/- For all states: the fewest states are those of the reference. -/
import Derived.Test.YtadhjjfodpmelaaPrint14
import Derived.Test.YtadhjjfodpmelaaLawL
-- NEEDS scansionlaw13_LeastMakes
namespace Go.Proofs.Ytadhjjfodpmelaa.Pure
open Go.RowKit Go.Proofs.Ytadhjjfodpmelaa.Print Go.Proofs.YtadhjjfodpmelaaW.PrintWords Go.Proofs.YtadhjjfodpmelaaW.PrintLast
set_option linter.unusedVariables false

theorem LeastMakes (a : List (List Int)) (b : List Bool) (ha : a.length ≤ maxLen) : ∃ k, scansionlaw13_LeastMakes.f k a b = some true := by
  have h : Ev (fun k => scansionlaw13_LeastMakes.f k a b) true := by
    obtain ⟨r, h1, h2⟩ := ev_refLeast a b
    obtain ⟨s1, s2, s3⟩ := least_sizes h1
    refine Ev.congr (g := fun k => (scansionref12_Few.f k a b 25).bind fun t230 => scansionlaw13_LeastMakes.j0 k true (!t230) a b) (Ev.bind (ev_few a b 25 ha) ?_) fun k => ?_
    · cases q : fewB a b 25 with
      | true =>
        refine Ev.succ (g := fun k => ((scansionref13_Least.f k a b).bind fun bt239 => ((scansionref12_Same.f k r.1 r.2.1 bt239.1 bt239.2.1).bind fun t247 => (if t247 = true then (some (r.2.2 == bt239.2.2)) else (some false))))) (Ev.bind h2 (Ev.bind (ev_sameR r.1 r.2.1 s1 s2 s3) ?_)) fun k => ?_
        · refine Ev.congr (Ev.some_ true) fun k => ?_
          rw [decide_eq_true ⟨rfl, rfl⟩, if_pos rfl, beq_self_eq_true]
        · rw [scansionlaw13_LeastMakes.j0, if_neg (by decide), h1, Option.bind_some]
      | false =>
        refine Ev.succ (Ev.some_ true) fun k => ?_
        rw [scansionlaw13_LeastMakes.j0, if_pos (by decide)]
    · unfold scansionlaw13_LeastMakes.f
      rw [awake_f, Option.bind_some]
      rfl
  obtain ⟨K, hK⟩ := h
  exact ⟨K, hK K (Nat.le_refl _)⟩
end Go.Proofs.Ytadhjjfodpmelaa.Pure
