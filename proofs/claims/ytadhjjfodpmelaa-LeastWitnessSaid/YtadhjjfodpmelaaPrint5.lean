-- Written by a program of this session (wip/sp.py) out of the translation.
import Derived.Test.YtadhjjfodpmelaaPrint0
import Derived.Test.YtadhjjfodpmelaaLeast
namespace Go.Proofs.Ytadhjjfodpmelaa.Print
open Go.RowKit Go.Proofs.YtadhjjfodpmelaaW.PrintWords Go.Proofs.YtadhjjfodpmelaaW.PrintLast Go.Proofs.YtadhjjfodpmelaaW.PrintMore
attribute [local go_sem] max2_int min2_int max_two min_two max_three min_three max_four min_four   -- for this text's walks alone
set_option linter.unusedVariables false
set_option linter.unusedSimpArgs false

/-! ### least_Least: function 11 (a contract of this session's own) -/
-- IMPORT Derived.Test.YtadhjjfodpmelaaLeast
-- HOME least_Least.f
-- HOME least_Least.calls

end Go.Proofs.Ytadhjjfodpmelaa.Print
