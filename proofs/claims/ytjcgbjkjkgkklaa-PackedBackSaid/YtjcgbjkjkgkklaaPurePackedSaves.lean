/- For all states: packed.Save answers as the reference does. -/
import Derived.Test.YtjcgbjkjkgkklaaPrint10
import Derived.Test.YtjcgbjkjkgkklaaAwake
import Derived.Test.YtjcgbjkjkgkklaaLawM
-- NEEDS scansionlaw14_PackedSaves
namespace Go.Proofs.Ytjcgbjkjkgkklaa.Pure
open Go.RowKit Go.Proofs.Ytjcgbjkjkgkklaa.Print Go.Proofs.YtjcgbjkjkgkklaaW.PrintWords Go.Proofs.YtjcgbjkjkgkklaaW.PrintLast

theorem ev_awake : Ev (fun k => scansionlaw14_awake.f k) true := ⟨12, awake_k⟩

theorem PackedSaves (a : List (List Int)) (b : List Bool) (ha : a.length ≤ maxLen) : ∃ k, scansionlaw14_PackedSaves.f k a b = some true := by
  have h : Ev (fun k => scansionlaw14_PackedSaves.f k a b) true := by
    unfold scansionlaw14_PackedSaves.f
    refine Ev.bind ev_awake (Ev.bind (ev_few a b 300 ha) ?_)
    by_cases q : fewB a b 300 = true
    · refine Ev.succ (g := fun k => (packed_Save.f a b).bind fun bt195 => ((scansionref14_Save.f k a b).bind fun bt199 => (if (strOfNums bt195.1).toList = (strOfNums bt199.1).toList then (some (bt195.2 == bt199.2)) else (some false)))) ?_ fun k => ?_
      · refine Ev.congr (g := fun k => (scansionref14_Save.f k a b).bind fun bt199 => (if (strOfNums (if rightB a b = true then (saveOf a b, (0 : Int)) else ([], 1)).1).toList = (strOfNums bt199.1).toList then (some ((if rightB a b = true then (saveOf a b, (0 : Int)) else ([], 1)).2 == bt199.2)) else (some false))) ?_ fun k => ?_
        · refine Ev.bind (ev_save a b) ?_
          refine Ev.congr (Ev.some_ true) fun k => ?_
          rw [if_pos rfl, beq_self_eq_true]
        · unfold packed_Save.f
          by_cases g : rightB a b = true
          · rw [if_pos g, if_pos g, Option.bind_some]
          · rw [if_neg g, if_neg g, Option.bind_some]
      · rw [if_pos rfl, scansionlaw14_PackedSaves.j0, q, if_neg (by decide)]
    · refine Ev.succ (Ev.some_ true) fun k => ?_
      rw [if_pos rfl, scansionlaw14_PackedSaves.j0, Bool.eq_false_iff.2 q, if_pos (by decide)]
  obtain ⟨K, hK⟩ := h
  exact ⟨K, hK K (Nat.le_refl _)⟩
end Go.Proofs.Ytjcgbjkjkgkklaa.Pure
