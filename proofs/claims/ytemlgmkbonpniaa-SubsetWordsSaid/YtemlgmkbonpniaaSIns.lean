/- scansionlaw12.inside. -/
import Derived.Test.YtemlgmkbonpniaaPrint58
import Derived.Test.YtemlgmkbonpniaaSLawMM
namespace Go.Proofs.Ytemlgmkbonpniaa.Print
open Go.RowKit Go.Maps Go.Proofs.YtemlgmkbonpniaaW.PrintWords Go.Proofs.YtemlgmkbonpniaaW.PrintLast Go.Proofs.YtemlgmkbonpniaaW.PrintMore
set_option linter.unusedVariables false
set_option linter.unusedSimpArgs false
theorem inside_f (l : List Int) (n : Int) (hl : l.length ≤ 9223372036854775807) : ∃ b, Evs (fun k => scansionlaw12_inside.f k l n) b ∧ (b = true → l.length ≤ 20 ∧ ∀ c ∈ l, 0 ≤ c ∧ c < n) := by
  have key : ∀ (t i : Nat), i + t = l.length → ∃ b, Evs (fun k => scansionlaw12_inside.l0 k l n (i : Int)) b ∧ (b = true → l.length ≤ 20 ∧ ∀ c ∈ l.drop i, 0 ≤ c ∧ c < n) := by
    intro t
    induction t with
    | zero =>
      intro i hi
      refine ⟨decide ((l.length : Int) ≤ 20), ⟨1, fun k hk => ?_⟩, fun h => ⟨by have := of_decide_eq_true h; omega, fun c hc => by rw [List.drop_eq_nil_of_le (by omega)] at hc; cases hc⟩⟩
      obtain ⟨k, rfl⟩ : ∃ j, k = j + 1 := ⟨k - 1, by omega⟩
      show scansionlaw12_inside.l0 (k + 1) _ _ _ = _
      rw [scansionlaw12_inside.l0, if_neg (by omega)]
    | succ t ih =>
      intro i hi
      by_cases q1 : rd l (i : Int) < 0
      · refine ⟨false, ⟨1, fun k hk => ?_⟩, fun h => by cases h⟩
        obtain ⟨k, rfl⟩ : ∃ j, k = j + 1 := ⟨k - 1, by omega⟩
        show scansionlaw12_inside.l0 (k + 1) _ _ _ = _
        rw [scansionlaw12_inside.l0, if_pos (by omega), if_pos (by omega), if_pos q1]
      by_cases q2 : rd l (i : Int) ≥ n
      · refine ⟨false, ⟨1, fun k hk => ?_⟩, fun h => by cases h⟩
        obtain ⟨k, rfl⟩ : ∃ j, k = j + 1 := ⟨k - 1, by omega⟩
        show scansionlaw12_inside.l0 (k + 1) _ _ _ = _
        rw [scansionlaw12_inside.l0, if_pos (by omega), if_pos (by omega), if_neg q1, if_pos q2]
      obtain ⟨b, ⟨K, hK⟩, hb⟩ := ih (i + 1) (by omega)
      refine ⟨b, ⟨K + 1, fun k hk => ?_⟩, fun h => ⟨(hb h).1, fun c hc => ?_⟩⟩
      · obtain ⟨k, rfl⟩ : ∃ j, k = j + 1 := ⟨k - 1, by omega⟩
        show scansionlaw12_inside.l0 (k + 1) _ _ _ = _
        have hk1 : scansionlaw12_inside.l0 k _ _ _ = _ := hK k (by omega)
        rw [scansionlaw12_inside.l0, if_pos (by omega), if_pos (by omega), if_neg q1, if_neg q2, show wrap64 ((i : Int) + 1) = ((i + 1 : Nat) : Int) by unfold wrap64; omega, hk1]
      · rw [drop_rd (by omega)] at hc
        rcases List.mem_cons.1 hc with rfl | hc
        · omega
        · exact (hb h).2 c hc
  obtain ⟨b, h1, h2⟩ := key l.length 0 (by omega)
  exact ⟨b, h1, h2⟩
end Go.Proofs.Ytemlgmkbonpniaa.Print
