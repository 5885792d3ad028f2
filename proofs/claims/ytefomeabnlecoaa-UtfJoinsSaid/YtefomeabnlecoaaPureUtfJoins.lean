/- For every list of code points (ints) and all bytes behind their text: the runes of the whole are the code points and the runes of the bytes; where an int is no code point, Text tells ErrArg. No condition. -/
import Derived.Test.YtefomeabnlecoaaPrint16
import Derived.Test.YtefomeabnlecoaaLawE
namespace Go.Proofs.Ytefomeabnlecoaa.Pure
open Go.RowKit Go.Proofs.Ytefomeabnlecoaa.Print Go.Proofs.YtefomeabnlecoaaW.PrintWords Go.Proofs.YtefomeabnlecoaaW.PrintLast

theorem UtfJoins : scansionlaw01_UtfJoins.Pure := by
  intro l b hm h8 hwf hm' h1 hwf'
  have hb := isBytes_of hwf'
  refine ⟨20000, ?_⟩
  unfold scansionlaw01_UtfJoins.f
  rw [awake_k _ (by omega), Option.bind_some, if_pos rfl]
  by_cases hl : (l.length : Int) > 1000
  · rw [if_pos hl, scansionlaw01_UtfJoins.j0, if_pos rfl]
  rw [if_neg hl]
  by_cases hl2 : (b.length : Int) > 3000
  · rw [decide_eq_true hl2, scansionlaw01_UtfJoins.j0, if_pos rfl]
  rw [decide_eq_false hl2, scansionlaw01_UtfJoins.j0, if_neg (by decide), text_k l (by omega) _ (by omega), Option.bind_some]
  unfold textOf
  by_cases hc : l.all cp = true
  · have hcp := all_cp hc
    have hlen := bytesAll_len l
    have hr := runes_text l b hcp hb
    have hul := units_len b
    have hrl : (runesOf (units b)).length ≤ b.length := by unfold runesOf; rw [List.length_map]; exact hul
    rw [if_pos hc]
    simp only [if_true, Option.bind_some, List.nil_append, List.length_nil, Nat.zero_add]
    rw [if_pos (by omega), if_pos (by omega), runes_f ((bytesAll_bytes hcp).append hb) (by rw [List.length_append]; omega), Option.bind_some, if_pos (by omega), runes_f hb (by omega), Option.bind_some, if_pos (by omega), hr, same_k _ (by rw [List.length_append]; omega) _ (by rw [List.length_append]; omega)]
    rfl
  · rw [if_neg hc]
    rfl

end Go.Proofs.Ytefomeabnlecoaa.Pure
