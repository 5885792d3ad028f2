/- The part of the laws of chapter 14 that asks the small things first is true. -/
import Derived.Test.YtjcgbjkjkgkklaaPrint5
import Derived.Test.YtjcgbjkjkgkklaaLawN
-- NEEDS scansionlaw14_awake
namespace Go.Proofs.Ytjcgbjkjkgkklaa.Pure
open Go.RowKit Go.Proofs.Ytjcgbjkjkgkklaa.Print Go.Proofs.YtjcgbjkjkgkklaaW.PrintWords Go.Proofs.YtjcgbjkjkgkklaaW.PrintLast

theorem awake_k (k : Nat) (hk : 12 ≤ k) : scansionlaw14_awake.f k = some true := by
  unfold scansionlaw14_awake.f
  have h1 : packed_Save.f [[0, 0, 0]] [true] = some ([83, 68, 1, 3, 1, 3, 0], 0) := by decide +kernel
  have h2 : numOf 300 = [172, 2] := by decide +kernel
  rw [h1, Option.bind_some, if_pos rfl, if_pos (by decide +kernel), number_kk 300 (by omega) k hk, Option.bind_some, h2]
  decide +kernel

end Go.Proofs.Ytjcgbjkjkgkklaa.Pure
