/- thai.Parts, thai.Reach as functions of their arguments. -/
import Derived.Test.YtfmnbebkeefboaaPartsW
namespace Go.Proofs.Ytfmnbebkeefboaa.Print
open Go.RowKit Go.Proofs.YtfmnbebkeefboaaW.PrintWords Go.Proofs.YtfmnbebkeefboaaW.PrintLast Go.Proofs.YtfmnbebkeefboaaW.PrintMore
set_option linter.unusedVariables false

def thai_Parts.f (a0 : Int) (l1 : List (S31)) : Option (List Int × Int) := some (partsR a0 l1)
theorem thai_Parts.calls (a0 : Int) (A1 : Option Addr) (c1 : Nat) (l1 : List (S31)) (r1 : List Int) (r2 : Int) (w : World) (hr1 : Kd.C k31 w A1 l1.length l1) (hc1 : l1.length ≤ c1) (h : thai_Parts.f a0 l1 = some (r1, r2)) :
    Calls Try.prog 11 #[.int .i64 a0, .slice A1 l1.length c1] w fun e w' => ∃ v0_ : Value, e = .returned (.tuple #[v0_, .int .i64 r2]) ∧ Kd.R (Kd.int .i64) 3 w' w.heap.size (fun _ => True) v0_ r1 ∧ Below w.heap.size w w' := by
  have e1 := Option.some.inj h
  have h2 := thaiParts_calls a0 A1 c1 l1 w hr1
  rw [e1] at h2
  exact h2
def thai_Reach.f (a0 : Int) (l1 : List (S31)) (a2 : Int) (a3 : Int) : Option (Int × Int) := some (reachR a0 l1 a2 a3)
theorem thai_Reach.calls (a0 : Int) (A1 : Option Addr) (c1 : Nat) (l1 : List (S31)) (a2 : Int) (a3 : Int) (r1 : Int) (r2 : Int) (w : World) (hr1 : Kd.C k31 w A1 l1.length l1) (hc1 : l1.length ≤ c1) (h : thai_Reach.f a0 l1 a2 a3 = some (r1, r2)) :
    Calls Try.prog 14 #[.int .i64 a0, .slice A1 l1.length c1, .int .i64 a2, .int .i64 a3] w fun e w' => e = .returned (.tuple #[.int .i64 r1, .int .i64 r2]) ∧ Below w.heap.size w w' := by
  have e1 := Option.some.inj h
  have h2 := thaiReach_calls a0 a2 a3 A1 c1 l1 w hr1
  rw [e1] at h2
  exact h2
end Go.Proofs.Ytfmnbebkeefboaa.Print
