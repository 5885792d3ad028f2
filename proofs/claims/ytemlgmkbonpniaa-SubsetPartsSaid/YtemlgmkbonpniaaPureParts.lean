/- SubsetParts, as plain functions. -/
import Derived.Test.YtemlgmkbonpniaaSLawR
import Derived.Test.YtemlgmkbonpniaaPrint62
namespace Go.Proofs.Ytemlgmkbonpniaa.Print
open Go.RowKit Go.Maps Go.Proofs.YtemlgmkbonpniaaW.PrintWords Go.Proofs.YtemlgmkbonpniaaW.PrintLast Go.Proofs.YtemlgmkbonpniaaW.PrintMore
set_option linter.unusedVariables false
set_option linter.unusedSimpArgs false
theorem parts_law (nx : List (List Int)) (fin : List Bool) (x y : List Int) :
    (if (runD nx fin 0 (x ++ y)).2 = 0 then (if (runD nx fin 0 x).2 = 0 then (if (runD nx fin (runD nx fin 0 x).1 y).2 = 0 then some ((runD nx fin 0 (x ++ y)).1 == (runD nx fin (runD nx fin 0 x).1 y).1) else some false) else some false) else (if (runD nx fin 0 x).2 = 0 then some ((runD nx fin (runD nx fin 0 x).1 y).2 != 0) else some true)) = some true := by
  by_cases q : rightD nx fin = true
  · have h := (rightD_iff nx fin).1 q
    have h1 := h.n1
    have hrun : ∀ (a : Int) (z : List Int), 0 ≤ a → a < (nx.length : Int) → runD nx fin a z = runGo nx a z := fun a z h0 h1 => by
      unfold runD
      rw [if_neg (by rintro (h | h | h); rw [q] at h; cases h; omega; omega)]
    have e1 := hrun 0 (x ++ y) (by omega) (by omega)
    have e2 := hrun 0 x (by omega) (by omega)
    obtain ⟨i1, i2⟩ := runGo_in h x 0 (by omega) (by omega)
    have e3 := hrun (runGo nx 0 x).1 y i1 i2
    rw [e1, e2, e3, runGo_append]
    by_cases q1 : (runGo nx 0 x).2 = 0
    · rw [if_pos q1, if_pos q1, if_pos q1]
      by_cases q2 : (runGo nx (runGo nx 0 x).1 y).2 = 0
      · rw [if_pos q2, if_pos q2, beq_self_eq_true]
      · rw [if_neg q2, bne_iff_ne.2 q2]
    · rw [if_neg q1, if_neg q1, if_neg q1, if_neg (by decide)]
  · have q' : rightD nx fin = false := by revert q; cases rightD nx fin <;> simp
    have hrun : ∀ (a : Int) (z : List Int), runD nx fin a z = (0, 1) := fun a z => by
      unfold runD
      rw [if_pos (.inl q')]
    rw [hrun, hrun, hrun, if_neg (by decide), if_neg (by decide)]
theorem pure_parts (nx : List (List Int)) (fin : List Bool) (x y : List Int) (hn : nx.length ≤ 9223372036854775807) : ∃ k, scansionlaw12_SubsetParts.f k nx fin x y = some true := by
  have early : ∀ k, scansionlaw12_SubsetParts.j0 (k + 1) x y true true nx fin = some true := fun k => by rw [scansionlaw12_SubsetParts.j0, if_pos rfl]
  obtain ⟨b, ⟨K0, hK0⟩, hb⟩ := few12_f nx fin hn
  have h0 : ∀ k ≥ K0, scansionref12_Few.f k nx fin 60 = some b := hK0
  have hup : scansionlaw12_awake.f = some true := rfl
  by_cases qb : b = true
  · by_cases q1 : (x.length : Int) > 100
    · refine ⟨K0 + 1, ?_⟩
      unfold scansionlaw12_SubsetParts.f
      rw [hup, Option.bind_some, h0 _ (by omega), Option.bind_some, if_pos rfl, if_pos qb, if_pos q1]
      exact early K0
    by_cases q2 : (y.length : Int) > 100
    · refine ⟨K0 + 1, ?_⟩
      unfold scansionlaw12_SubsetParts.f
      rw [hup, Option.bind_some, h0 _ (by omega), Option.bind_some, if_pos rfl, if_pos qb, if_neg q1, decide_eq_true q2]
      exact early K0
    have hl : (x ++ y).length ≤ 1000000 := by rw [List.length_append]; omega
    obtain ⟨K1, hK1⟩ := run_f nx fin 0 (x ++ y) hl
    obtain ⟨K2, hK2⟩ := run_f nx fin 0 x (by omega)
    obtain ⟨K3, hK3⟩ := run_f nx fin (runD nx fin 0 x).1 y (by omega)
    refine ⟨K0 + K1 + K2 + K3 + 1, ?_⟩
    unfold scansionlaw12_SubsetParts.f
    have g1 : subset_Run.f (K0 + K1 + K2 + K3) nx fin 0 (x ++ y) = _ := hK1 _ (by omega)
    have g2 : subset_Run.f (K0 + K1 + K2 + K3) nx fin 0 x = _ := hK2 _ (by omega)
    have g3 : subset_Run.f (K0 + K1 + K2 + K3) nx fin (runD nx fin 0 x).1 y = _ := hK3 _ (by omega)
    rw [hup, Option.bind_some, h0 _ (by omega), Option.bind_some, if_pos rfl, if_pos qb, if_neg q1, decide_eq_false q2, scansionlaw12_SubsetParts.j0, if_neg (by decide), Option.bind_some, if_pos (by rw [List.length_nil]; omega), Option.bind_some, List.nil_append, if_pos (by omega), g1, Option.bind_some, g2, Option.bind_some, g3, Option.bind_some]
    exact parts_law nx fin x y
  · refine ⟨K0 + 1, ?_⟩
    unfold scansionlaw12_SubsetParts.f
    rw [hup, Option.bind_some, h0 _ (by omega), Option.bind_some, if_pos rfl, if_neg qb]
    exact early K0
end Go.Proofs.Ytemlgmkbonpniaa.Print
