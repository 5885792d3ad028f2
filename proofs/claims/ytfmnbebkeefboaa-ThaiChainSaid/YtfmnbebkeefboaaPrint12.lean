-- Written by a program of this session (wip/sp.py) out of the translation.
import Derived.Test.YtfmnbebkeefboaaPrint0
import Derived.Test.YtfmnbebkeefboaaStub
namespace Go.Proofs.Ytfmnbebkeefboaa.Print
open Go.RowKit Go.Proofs.YtfmnbebkeefboaaW.PrintWords Go.Proofs.YtfmnbebkeefboaaW.PrintLast Go.Proofs.YtfmnbebkeefboaaW.PrintMore
attribute [local go_sem] max2_int min2_int max_two min_two max_three min_three max_four min_four   -- for this text's walks alone
set_option linter.unusedVariables false
set_option linter.unusedSimpArgs false

/-! ### thai_Parts: function 11 (a contract of this session's own) -/
-- IMPORT Derived.Test.YtfmnbebkeefboaaStub
-- HOME thai_Parts.f
-- HOME thai_Parts.calls

end Go.Proofs.Ytfmnbebkeefboaa.Print
