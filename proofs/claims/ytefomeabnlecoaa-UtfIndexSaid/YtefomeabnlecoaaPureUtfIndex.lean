/- For all bytes and every offset: utf.Index answers as the reference does. No condition. -/
import Derived.Test.YtefomeabnlecoaaPrint11
import Derived.Test.YtefomeabnlecoaaLawG
-- NEEDS scansionlaw01_UtfIndex
namespace Go.Proofs.Ytefomeabnlecoaa.Pure
open Go.RowKit Go.Proofs.Ytefomeabnlecoaa.Print Go.Proofs.YtefomeabnlecoaaW.PrintWords Go.Proofs.YtefomeabnlecoaaW.PrintLast

theorem UtfIndex : scansionlaw01_UtfIndex.Pure := by
  intro l a hm h1 hwf ha
  have hb := isBytes_of hwf
  refine ⟨20000, ?_⟩
  unfold scansionlaw01_UtfIndex.f
  rw [awake_k _ (by omega), Option.bind_some, if_pos rfl]
  by_cases hl : (l.length : Int) > 3000
  · rw [decide_eq_true hl, scansionlaw01_UtfIndex.j0, if_pos rfl]
  rw [decide_eq_false hl, scansionlaw01_UtfIndex.j0, if_neg (by decide), refDecode_f l hb (by omega), Option.bind_some, refIndex_k l hb a (by omega) _ (by omega)]
  unfold utf_Index.f
  rw [Option.bind_some, Option.bind_some]
  simp

end Go.Proofs.Ytefomeabnlecoaa.Pure
