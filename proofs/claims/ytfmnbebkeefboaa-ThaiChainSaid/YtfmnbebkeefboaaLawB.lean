/- The law ThaiParts: the words of any run. -/
import Derived.Test.YtfmnbebkeefboaaLawA
import Derived.Test.YtfmnbebkeefboaaPrint20
-- NEEDS scansionlaw20_ThaiParts
namespace Go.Proofs.Ytfmnbebkeefboaa.Pure
open Go.RowKit Go.Proofs.Ytfmnbebkeefboaa.Print Go.Proofs.YtfmnbebkeefboaaW.PrintWords Go.Proofs.YtfmnbebkeefboaaW.PrintLast
set_option linter.unusedVariables false
set_option linter.unusedSimpArgs false

theorem few_len {n : Int} {l : List S31} (h : fewB n l = true) : l.length ≤ 60 ∧ (n ≤ 60 ∨ n > 5000) := by
  unfold fewB at h
  simpa using h
theorem ThaiParts (n : Int) (l : List S31) : ∃ k, scansionlaw20_ThaiParts.f k n l = some true := by
  have h0 : Ev (fun k => scansionlaw20_ThaiParts.j0 k n l true (!fewB n l)) true := by
    cases q : fewB n l with
    | false => exact (Ev.some_ true).succ fun k => by rw [scansionlaw20_ThaiParts.j0, if_pos (by rfl)]
    | true =>
      have hl := few_len q
      have hs := ev_sameInts (partsR n l).1 (partsR n l).1 (by have := partsR_len n l; omega)
      rw [decide_eq_true rfl] at hs
      have h2 : Ev (fun k => (scansionref01_SameInts.f k (partsR n l).1 (partsR n l).1).bind fun t => if t = true then (some ((partsR n l).2 == (partsR n l).2)) else (some false)) true :=
        hs.bind (g := fun k t => if t = true then (some ((partsR n l).2 == (partsR n l).2)) else (some false)) ((Ev.some_ true).congr fun k => by rw [if_pos rfl]; simp)
      have h3 := (ev_Parts n l (by omega)).bind (g := fun k t => (scansionref01_SameInts.f k (partsR n l).1 t.1).bind fun u => if u = true then (some ((partsR n l).2 == t.2)) else (some false)) h2
      refine h3.succ fun k => ?_
      rw [scansionlaw20_ThaiParts.j0, if_neg (by simp)]
      unfold thai_Parts.f
      rw [Option.bind_some]
  have h1 : Ev (fun k => scansionlaw20_ThaiParts.f k n l) true := by
    refine (ev_awake.bind (g := fun k t => (scansionlaw20_few.f n l).bind fun t273 => (if t = true then (scansionlaw20_ThaiParts.j0 k n l t (!t273)) else (scansionlaw20_ThaiParts.j0 k n l t true))) (h0.congr fun k => ?_)).congr fun k => by rw [scansionlaw20_ThaiParts.f]
    rw [few_is, Option.bind_some, if_pos rfl]
  obtain ⟨K, hK⟩ := h1
  exact ⟨K, hK K (Nat.le_refl _)⟩
end Go.Proofs.Ytfmnbebkeefboaa.Pure
