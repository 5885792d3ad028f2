/- For all bytes and all lists of ints: utf.Runes, utf.Valid and utf.Text answer as the reference does. No condition. -/
import Derived.Test.YtefomeabnlecoaaPrint25
import Derived.Test.YtefomeabnlecoaaLawF
-- NEEDS scansionlaw01_UtfRunes
namespace Go.Proofs.Ytefomeabnlecoaa.Pure
open Go.RowKit Go.Proofs.Ytefomeabnlecoaa.Print Go.Proofs.YtefomeabnlecoaaW.PrintWords Go.Proofs.YtefomeabnlecoaaW.PrintLast

theorem UtfRunes : scansionlaw01_UtfRunes.Pure := by
  intro l t hm h1 hwf hm' h8 hwf'
  have hb := isBytes_of hwf
  have hu := units_len l
  have hrl : (runesOf (units l)).length ≤ l.length := by unfold runesOf; rw [List.length_map]; exact hu
  refine ⟨20000, ?_⟩
  unfold scansionlaw01_UtfRunes.f
  rw [awake_k _ (by omega), Option.bind_some, if_pos rfl]
  by_cases hl : (l.length : Int) > 5000
  · rw [if_pos hl, scansionlaw01_UtfRunes.j0, if_pos rfl]
  rw [if_neg hl]
  by_cases hl2 : (t.length : Int) > 2000
  · rw [decide_eq_true hl2, scansionlaw01_UtfRunes.j0, if_pos rfl]
  rw [decide_eq_false hl2, scansionlaw01_UtfRunes.j0, if_neg (by decide), runes_f hb (by omega), Option.bind_some, refRunes_k l hb (by omega) _ (by omega), Option.bind_some, same_k _ (by omega) _ (by omega), Option.bind_some, text_k t (by omega) _ (by omega), Option.bind_some, refText_k t (by omega) _ (by omega), Option.bind_some, if_pos rfl, valid_f hb, Option.bind_some, refValid_k l hb (by omega) _ (by omega), Option.bind_some]
  simp

end Go.Proofs.Ytefomeabnlecoaa.Pure
