/- For every list of ints: where Text tells bytes, they are all valid and are decoded as the list; else it tells ErrArg and no bytes. No condition. -/
import Derived.Test.YtefomeabnlecoaaPrint21
import Derived.Test.YtefomeabnlecoaaLawE
namespace Go.Proofs.Ytefomeabnlecoaa.Pure
open Go.RowKit Go.Proofs.Ytefomeabnlecoaa.Print Go.Proofs.YtefomeabnlecoaaW.PrintWords Go.Proofs.YtefomeabnlecoaaW.PrintLast

theorem UtfBack : scansionlaw01_UtfBack.Pure := by
  intro l hm h8 hwf
  refine ⟨5000, ?_⟩
  unfold scansionlaw01_UtfBack.f
  rw [awake_k _ (by omega), Option.bind_some, if_pos rfl]
  by_cases hl : (l.length : Int) > 2000
  · rw [decide_eq_true hl, scansionlaw01_UtfBack.j0, if_pos rfl]
  rw [decide_eq_false hl, scansionlaw01_UtfBack.j0, if_neg (by decide), text_k l (by omega) _ (by omega), Option.bind_some]
  unfold textOf
  by_cases hc : l.all cp = true
  · have hcp := all_cp hc
    have hlen := bytesAll_len l
    have hr := runes_text l [] hcp (fun x hx => by cases hx)
    rw [List.append_nil] at hr
    rw [if_pos hc]
    simp only [if_true]
    rw [valid_f (bytesAll_bytes hcp), Option.bind_some, noBad_text l hcp, if_pos rfl, runes_f (bytesAll_bytes hcp) (by omega), Option.bind_some, hr]
    have e : l ++ runesOf (units []) = l := by show l ++ [] = l; exact List.append_nil l
    rw [e, same_k l (by omega) _ (by omega)]
    rfl
  · rw [if_neg hc]
    rfl

end Go.Proofs.Ytefomeabnlecoaa.Pure
