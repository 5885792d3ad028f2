/- For every number and all bytes: packed.Number and packed.Told answer as the reference does. -/
import Derived.Test.YtjcgbjkjkgkklaaPrint13
import Derived.Test.YtjcgbjkjkgkklaaAwake
-- NEEDS scansionlaw14_PackedNumbers
namespace Go.Proofs.Ytjcgbjkjkgkklaa.Pure
open Go.RowKit Go.Proofs.Ytjcgbjkjkgkklaa.Print Go.Proofs.YtjcgbjkjkgkklaaW.PrintWords Go.Proofs.YtjcgbjkjkgkklaaW.PrintLast

theorem PackedNumbers : scansionlaw14_PackedNumbers.Pure := by
  intro n l hn hm h1 hwf
  have hb := rd_byte (isBytes_of hwf)
  have hw := wf64 hn
  refine ⟨100, ?_⟩
  unfold scansionlaw14_PackedNumbers.f
  rw [awake_k _ (by omega), Option.bind_some, if_pos rfl]
  by_cases hl : (l.length : Int) > 1000
  · rw [decide_eq_true hl, scansionlaw14_PackedNumbers.j0, if_pos rfl]
  rw [decide_eq_false hl, scansionlaw14_PackedNumbers.j0, if_neg (by decide), told_k l hb _ (by omega), Option.bind_some, refTold_k l hb _ (by omega), Option.bind_some, number_kk n hw.2 _ (by omega), Option.bind_some, refNumber_kk n hw.2 _ (by omega), Option.bind_some, if_pos rfl, if_pos rfl, if_pos rfl]
  simp

end Go.Proofs.Ytjcgbjkjkgkklaa.Pure
