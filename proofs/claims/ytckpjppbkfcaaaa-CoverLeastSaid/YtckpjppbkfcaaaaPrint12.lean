-- Written by a program of this session (wip/sp.py) out of the translation.
import Derived.Test.YtckpjppbkfcaaaaPrint0
import Derived.Test.YtckpjppbkfcaaaaStub
namespace Go.Proofs.Ytckpjppbkfcaaaa.Print
open Go.RowKit Go.Proofs.YtckpjppbkfcaaaaW.PrintWords Go.Proofs.YtckpjppbkfcaaaaW.PrintLast Go.Proofs.YtckpjppbkfcaaaaW.PrintMore
attribute [local go_sem] max2_int min2_int max_two min_two max_three min_three max_four min_four   -- for this text's walks alone
set_option linter.unusedVariables false
set_option linter.unusedSimpArgs false

/-! ### cover_Best: function 10 (a contract of this session's own) -/
-- IMPORT Derived.Test.YtckpjppbkfcaaaaStub
-- HOME cover_Best.f
-- HOME cover_Best.calls

end Go.Proofs.Ytckpjppbkfcaaaa.Print
