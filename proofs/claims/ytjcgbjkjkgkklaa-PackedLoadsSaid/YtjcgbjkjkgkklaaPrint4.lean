-- Written by a program of this session (wip/sp.py) out of the translation.
import Derived.Test.YtjcgbjkjkgkklaaPrint0
import Derived.Test.YtjcgbjkjkgkklaaSave
namespace Go.Proofs.Ytjcgbjkjkgkklaa.Print
open Go.RowKit Go.Proofs.YtjcgbjkjkgkklaaW.PrintWords Go.Proofs.YtjcgbjkjkgkklaaW.PrintLast Go.Proofs.YtjcgbjkjkgkklaaW.PrintMore
attribute [local go_sem] max2_int min2_int max_two min_two max_three min_three max_four min_four   -- for this text's walks alone
set_option linter.unusedVariables false
set_option linter.unusedSimpArgs false

/-! ### packed_Save: function 11 (a contract of this session's own) -/
-- IMPORT Derived.Test.YtjcgbjkjkgkklaaSave
-- HOME packed_Save.f
-- HOME packed_Save.calls

end Go.Proofs.Ytjcgbjkjkgkklaa.Print
