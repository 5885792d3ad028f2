/- For all bytes: utf.Decode tells the same units as the reference. No condition. -/
import Derived.Test.YtefomeabnlecoaaPrint15
import Derived.Test.YtefomeabnlecoaaLawF
-- NEEDS scansionlaw01_UtfDecodes
namespace Go.Proofs.Ytefomeabnlecoaa.Pure
open Go.RowKit Go.Proofs.Ytefomeabnlecoaa.Print Go.Proofs.YtefomeabnlecoaaW.PrintWords Go.Proofs.YtefomeabnlecoaaW.PrintLast

theorem UtfDecodes : scansionlaw01_UtfDecodes.Pure := by
  intro l hm h1 hwf
  have hb := isBytes_of hwf
  have hu := units_len l
  refine ⟨20000, ?_⟩
  unfold scansionlaw01_UtfDecodes.f
  rw [awake_k _ (by omega), Option.bind_some, if_pos rfl]
  by_cases hl : (l.length : Int) > 5000
  · rw [decide_eq_true hl, scansionlaw01_UtfDecodes.j0, if_pos rfl]
  rw [decide_eq_false hl, scansionlaw01_UtfDecodes.j0, if_neg (by decide), decode_f hb (by omega), Option.bind_some, refDecode_f l hb (by omega), Option.bind_some, same35_k _ (by omega) _ (by omega)]
  rfl

end Go.Proofs.Ytefomeabnlecoaa.Pure
