/- CoverMore's function answers true. -/
import Derived.Test.YtckpjppbkfcaaaaPureMore
import Derived.Test.YtckpjppbkfcaaaaPMore
namespace Go.Proofs.Ytckpjppbkfcaaaa.Pure
open Go.RowKit Go.Maps Go.Proofs.Ytckpjppbkfcaaaa.Print Go.Proofs.YtckpjppbkfcaaaaW.PrintWords Go.Proofs.YtckpjppbkfcaaaaW.PrintLast
set_option linter.unusedVariables false
set_option linter.unusedSimpArgs false

theorem CoverMore (n : Int) (l : List S36) (x0 x1 x2 : Int) : ∃ k, scansionlaw19_CoverMore.f k n l x0 x1 x2 = some true := by
  refine ⟨1, ?_⟩
  have jt : ∀ b : Bool, b = true → scansionlaw19_CoverMore.j0 1 n l true b x0 x1 x2 = some true := fun b hb => by rw [scansionlaw19_CoverMore.j0, if_pos hb]
  unfold scansionlaw19_CoverMore.f
  rw [awake_true, Option.bind_some, if_pos rfl]
  by_cases h1 : (l.length : Int) > 200
  · rw [if_pos h1]; exact jt _ rfl
  rw [if_neg h1]
  by_cases h2 : n < 0
  · rw [if_pos h2]; exact jt _ rfl
  rw [if_neg h2]
  by_cases h3 : n > 120
  · exact jt _ (decide_eq_true h3)
  rw [decide_eq_false h3, scansionlaw19_CoverMore.j0, if_neg (by simp)]
  obtain ⟨a1, a2⟩ := more_law n l ⟨x0, x1, x2⟩ (by omega) (by omega) (by omega)
  unfold cover_Best.f
  simp only [Option.bind_some, List.nil_append, List.length_nil, Nat.zero_add, List.length_singleton]
  rw [if_pos (by omega), if_pos (by omega)]
  by_cases q : (bestR n 7 1099511627776 l).2.2 = 0
  · obtain ⟨b1, b2, b3⟩ := a2 q
    rw [if_pos q, if_pos b1, if_pos b2]
    by_cases q2 : (bestR n 7 1099511627776 (l ++ [⟨x0, x1, x2⟩])).2.2 = 0
    · rw [if_pos q2]
      by_cases q3 : (bestR n 7 1099511627776 (l ++ [⟨x0, x1, x2⟩])).2.1 ≤ (bestR n 7 1099511627776 l).2.1
      · rw [if_pos q3]
      · rw [if_neg q3]
        rcases b3 q2 with h | ⟨h, h4, h5⟩
        · exact absurd h q3
        · simp only at h h4 h5
          have hw : wrap64 (x0 + 1) = x0 + 1 := by unfold wrap64; omega
          rw [hw, h]; simp
    · rw [if_neg q2]
  · obtain ⟨b1, b2⟩ := a1 q
    rw [if_neg q, if_neg b1]
    have : ((bestR n 9 1099511627776 l).2.2 != 0) = true := by simpa using b2
    rw [this]
end Go.Proofs.Ytckpjppbkfcaaaa.Pure
