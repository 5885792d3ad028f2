/- least.Least answers. -/
import Derived.Test.YtadhjjfodpmelaaPrint6
import Derived.Test.YtadhjjfodpmelaaLeast
-- NEEDS scansionlaw13_awake
namespace Go.Proofs.Ytadhjjfodpmelaa.Pure
open Go.RowKit Go.Proofs.Ytadhjjfodpmelaa.Print Go.Proofs.YtadhjjfodpmelaaW.PrintWords Go.Proofs.YtadhjjfodpmelaaW.PrintLast

theorem awake_f : scansionlaw13_awake.f = some true := by
  have e : least_Least.f [[1], [0]] [true, true] = some ([[0]], [true], 0) := by kernel_rfl
  unfold scansionlaw13_awake.f
  rw [e]
  rfl
end Go.Proofs.Ytadhjjfodpmelaa.Pure
