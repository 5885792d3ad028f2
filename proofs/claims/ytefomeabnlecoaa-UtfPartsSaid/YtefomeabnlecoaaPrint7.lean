-- Written by a program of this session (wip/sp.py) out of the translation.
import Derived.Test.YtefomeabnlecoaaPrint0
import Derived.Test.YtefomeabnlecoaaDec
namespace Go.Proofs.Ytefomeabnlecoaa.Print
open Go.RowKit Go.Proofs.YtefomeabnlecoaaW.PrintWords Go.Proofs.YtefomeabnlecoaaW.PrintLast Go.Proofs.YtefomeabnlecoaaW.PrintMore
attribute [local go_sem] max2_int min2_int max_two min_two max_three min_three max_four min_four   -- for this text's walks alone
set_option linter.unusedVariables false
set_option linter.unusedSimpArgs false

/-! ### scansionref01_Decode: function 14 (a contract of this session's own) -/
-- IMPORT Derived.Test.YtefomeabnlecoaaDec
-- HOME scansionref01_Decode.f
-- HOME scansionref01_Decode.calls

end Go.Proofs.Ytefomeabnlecoaa.Print
