/- For all bytes: packed.Load answers as the reference does. -/
import Derived.Test.YtjcgbjkjkgkklaaPrint21
import Derived.Test.YtjcgbjkjkgkklaaSame
import Derived.Test.YtjcgbjkjkgkklaaAwake
import Derived.Test.YtjcgbjkjkgkklaaLawR
-- NEEDS scansionlaw14_PackedLoads
namespace Go.Proofs.Ytjcgbjkjkgkklaa.Pure
open Go.RowKit Go.Proofs.Ytjcgbjkjkgkklaa.Print Go.Proofs.YtjcgbjkjkgkklaaW.PrintWords Go.Proofs.YtjcgbjkjkgkklaaW.PrintLast
set_option linter.unusedVariables false

theorem PackedLoads : scansionlaw14_PackedLoads.Pure := by
  intro l hl h1 hwf
  have hb := isBytes_of hwf
  have hsame : Ev (fun k => scansionref12_Same.f k (loadOf l).1 (loadOf l).2.1 (loadOf l).1 (loadOf l).2.1) true := by
    rcases load_inv l hb with e | ⟨a, b, e, hr, hs⟩
    · rw [e]; exact ev_same [] [] (by simp) (by simp) (fun r hr => by cases hr)
    · rw [e]
      obtain ⟨g1, g2, g3, g4, g5, g6⟩ := (rightB_iff a b).1 hr
      exact ev_same a b (by omega) (by omega) (fun r hr => by have := (g6 r hr).1; omega)
  have h : Ev (fun k => scansionlaw14_PackedLoads.f k l) true := by
    unfold scansionlaw14_PackedLoads.f
    refine Ev.bind ⟨12, awake_k⟩ ?_
    by_cases q : (l.length : Int) > 5000
    · refine Ev.succ (Ev.some_ true) fun k => ?_
      rw [if_pos rfl, decide_eq_true q, scansionlaw14_PackedLoads.j0, if_pos rfl]
    · refine Ev.succ (g := fun k => (scansionref14_Load.f k l).bind fun bt332 => ((scansionref12_Same.f k (loadOf l).1 (loadOf l).2.1 bt332.1 bt332.2.1).bind fun t340 => (if t340 = true then (some ((loadOf l).2.2 == bt332.2.2)) else (some false)))) (Ev.bind (ev_refLoad l hb hl) (Ev.bind hsame (Ev.congr (Ev.some_ true) fun k => ?_))) fun k => ?_
      · rw [if_pos rfl, beq_self_eq_true]
      · rw [if_pos rfl, decide_eq_false q, scansionlaw14_PackedLoads.j0, if_neg (by decide), load_f hb, Option.bind_some]
  obtain ⟨K, hK⟩ := h
  exact ⟨K, hK K (Nat.le_refl _)⟩
end Go.Proofs.Ytjcgbjkjkgkklaa.Pure
