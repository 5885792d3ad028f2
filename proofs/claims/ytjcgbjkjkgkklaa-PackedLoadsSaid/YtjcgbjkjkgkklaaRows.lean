/-
  No cell of these rows narrows 'for every input' (looked for: loops, veiled, ifaces, maps, wideKeys, modest, calm, conditions, laid).
  DERIVED. THE GIVEN ROWS OF THIS SEAT. 6 by the template 'for every input the law returns true; each argument reads behind the call as it read before'; 0 by the template 'total and deterministic' (their statements: YtjcgbjkjkgkklaaTotals.lean).
  GIVEN WITH THE SEED: the statements are not yours to turn. If you find one false, say at which input.
  Laid BY PROGRAM, IN A SANDBOX (cutbox-rows.mjs): the forced cells as the released guide's own fill.sh prints them over the translation 8486ab167c02086b… (all of the seat's roots in one cut). By AI agents, Wed Nov 11 2026. No macro, syntax, notation, axiom, sorry.
-/
import Derived.Test.YtjcgbjkjkgkklaaChecked
import GoSem.Claim
import GoSem.ClaimJoined
import GoSem.ClaimMapViews
import Derived.JoinedTies
import Derived.KernelRfl
namespace Go.Proofs.Ytjcgbjkjkgkklaa
/- THE CELL 'sum', in the pinned program and in every row, IS THE sha256 OF THE DUMP (.gsa) THAT YtjcgbjkjkgkklaaProg.lean LOADS. Nothing in Lean hashes anything: it is a label: what it is worth is what the hold of that sum in a sandbox is worth. -/
noncomputable def Try.pinned : Pinned := { name := "ytjcgbjkjkgkklaa", sum := "8486ab167c02086b2bf37c4853e2ab137e87564989775fbc175903123c2084dd", checked := Try.checked }
namespace Rows
def none {H : Type} : Left H := { results := [], args := [] }

/-- 'scansionlaw14.PackedSaves': WHATEVER THE INPUT: true; the input reads as it did. -/
def packedSavesSpec : ChangeSpec := { name := "packedSaves", fn := fun _ => fun
  | [d] => { results := [.lit (.bool true)], args := [d] }
  | _ => none }
def packedSavesRow : OpenClaim := { program := "ytjcgbjkjkgkklaa", sum := "8486ab167c02086b2bf37c4853e2ab137e87564989775fbc175903123c2084dd", func := "scansion/scansionlaw14.PackedSaves", spec := "packedSaves", unfollowed := true, recurses := true, apart := false }
def PackedSavesSaid : Prop := packedSavesRow.holds Try.pinned (OpenSpec.ofChange packedSavesSpec)

/-- ITS FALSE NEIGHBOUR: 'it returns false'. Refute it at one input. -/
def packedSavesWrong : ChangeSpec := { name := "packedSaves", fn := fun _ => fun
  | [d] => { results := [.lit (.bool false)], args := [d] }
  | _ => none }
def PackedSavesWrongFalsely : Prop := packedSavesRow.holds Try.pinned (OpenSpec.ofChange packedSavesWrong)

/-- 'scansionlaw14.PackedNumbers': WHATEVER THE INPUT: true; the input reads as it did. -/
def packedNumbersSpec : ChangeSpec := { name := "packedNumbers", fn := fun _ => fun
  | [d1, d2] => { results := [.lit (.bool true)], args := [d1, d2] }
  | _ => none }
def packedNumbersRow : OpenClaim := { program := "ytjcgbjkjkgkklaa", sum := "8486ab167c02086b2bf37c4853e2ab137e87564989775fbc175903123c2084dd", func := "scansion/scansionlaw14.PackedNumbers", spec := "packedNumbers", unfollowed := true, recurses := true, apart := false }
def PackedNumbersSaid : Prop := packedNumbersRow.holds Try.pinned (OpenSpec.ofChange packedNumbersSpec)

/-- ITS FALSE NEIGHBOUR: 'it returns false'. Refute it at one input. -/
def packedNumbersWrong : ChangeSpec := { name := "packedNumbers", fn := fun _ => fun
  | [d1, d2] => { results := [.lit (.bool false)], args := [d1, d2] }
  | _ => none }
def PackedNumbersWrongFalsely : Prop := packedNumbersRow.holds Try.pinned (OpenSpec.ofChange packedNumbersWrong)

/-- 'scansionlaw14.PackedJoins': WHATEVER THE INPUT: true; the input reads as it did. -/
def packedJoinsSpec : ChangeSpec := { name := "packedJoins", fn := fun _ => fun
  | [d1, d2, d3] => { results := [.lit (.bool true)], args := [d1, d2, d3] }
  | _ => none }
def packedJoinsRow : OpenClaim := { program := "ytjcgbjkjkgkklaa", sum := "8486ab167c02086b2bf37c4853e2ab137e87564989775fbc175903123c2084dd", func := "scansion/scansionlaw14.PackedJoins", spec := "packedJoins", unfollowed := true, recurses := true, apart := false }
def PackedJoinsSaid : Prop := packedJoinsRow.holds Try.pinned (OpenSpec.ofChange packedJoinsSpec)

/-- ITS FALSE NEIGHBOUR: 'it returns false'. Refute it at one input. -/
def packedJoinsWrong : ChangeSpec := { name := "packedJoins", fn := fun _ => fun
  | [d1, d2, d3] => { results := [.lit (.bool false)], args := [d1, d2, d3] }
  | _ => none }
def PackedJoinsWrongFalsely : Prop := packedJoinsRow.holds Try.pinned (OpenSpec.ofChange packedJoinsWrong)

/-- 'scansionlaw14.PackedLoads': WHATEVER THE INPUT: true; the input reads as it did. -/
def packedLoadsSpec : ChangeSpec := { name := "packedLoads", fn := fun _ => fun
  | [d] => { results := [.lit (.bool true)], args := [d] }
  | _ => none }
def packedLoadsRow : OpenClaim := { program := "ytjcgbjkjkgkklaa", sum := "8486ab167c02086b2bf37c4853e2ab137e87564989775fbc175903123c2084dd", func := "scansion/scansionlaw14.PackedLoads", spec := "packedLoads", unfollowed := true, recurses := true, apart := false }
def PackedLoadsSaid : Prop := packedLoadsRow.holds Try.pinned (OpenSpec.ofChange packedLoadsSpec)

/-- ITS FALSE NEIGHBOUR: 'it returns false'. Refute it at one input. -/
def packedLoadsWrong : ChangeSpec := { name := "packedLoads", fn := fun _ => fun
  | [d] => { results := [.lit (.bool false)], args := [d] }
  | _ => none }
def PackedLoadsWrongFalsely : Prop := packedLoadsRow.holds Try.pinned (OpenSpec.ofChange packedLoadsWrong)

/-- 'scansionlaw14.PackedBack': WHATEVER THE INPUT: true; the input reads as it did. -/
def packedBackSpec : ChangeSpec := { name := "packedBack", fn := fun _ => fun
  | [d1, d2] => { results := [.lit (.bool true)], args := [d1, d2] }
  | _ => none }
def packedBackRow : OpenClaim := { program := "ytjcgbjkjkgkklaa", sum := "8486ab167c02086b2bf37c4853e2ab137e87564989775fbc175903123c2084dd", func := "scansion/scansionlaw14.PackedBack", spec := "packedBack", unfollowed := true, recurses := true, apart := false }
def PackedBackSaid : Prop := packedBackRow.holds Try.pinned (OpenSpec.ofChange packedBackSpec)

/-- ITS FALSE NEIGHBOUR: 'it returns false'. Refute it at one input. -/
def packedBackWrong : ChangeSpec := { name := "packedBack", fn := fun _ => fun
  | [d1, d2] => { results := [.lit (.bool false)], args := [d1, d2] }
  | _ => none }
def PackedBackWrongFalsely : Prop := packedBackRow.holds Try.pinned (OpenSpec.ofChange packedBackWrong)

/-- 'scansionlaw14.PackedRuns': WHATEVER THE INPUT: true; the input reads as it did. -/
def packedRunsSpec : ChangeSpec := { name := "packedRuns", fn := fun _ => fun
  | [d1, d2] => { results := [.lit (.bool true)], args := [d1, d2] }
  | _ => none }
def packedRunsRow : OpenClaim := { program := "ytjcgbjkjkgkklaa", sum := "8486ab167c02086b2bf37c4853e2ab137e87564989775fbc175903123c2084dd", func := "scansion/scansionlaw14.PackedRuns", spec := "packedRuns", unfollowed := true, recurses := true, apart := false }
def PackedRunsSaid : Prop := packedRunsRow.holds Try.pinned (OpenSpec.ofChange packedRunsSpec)

/-- ITS FALSE NEIGHBOUR: 'it returns false'. Refute it at one input. -/
def packedRunsWrong : ChangeSpec := { name := "packedRuns", fn := fun _ => fun
  | [d1, d2] => { results := [.lit (.bool false)], args := [d1, d2] }
  | _ => none }
def PackedRunsWrongFalsely : Prop := packedRunsRow.holds Try.pinned (OpenSpec.ofChange packedRunsWrong)

/- THE SECOND FORM. 'bulk': how many values and letters a reading holds, each counted each time it is reached (what is shared counts as often as it is met; a slice's spare places count too). A statement '..UptoSaid' is the law's where the arguments, and the package variables that the reading takes, are together of bulk at most 1048576: NARROWER than '..Said'. Prove '..Said' where nothing that the law and all that it calls make is longer than what came in: it says more and counts as full. Else prove '..UptoSaid'. A law counts once. -/
mutual
def uptoBulk {H : Type} : DataW H → Nat
  | .lit (.string bytes) => bytes.length + 1
  | .lit _ => 1
  | .nil => 1
  | .ptr d => uptoBulk d + 1
  | .slice elems spare => uptoBulkAll elems + uptoBulkAll spare + 1
  | .agg parts => uptoBulkAll parts + 1
  | .iface _ d => uptoBulk d + 1
  | .map entries => uptoBulkEntries entries + 1
  | .held _ => 1
def uptoBulkAll {H : Type} : List (DataW H) → Nat
  | [] => 0
  | d :: r => uptoBulk d + uptoBulkAll r
def uptoBulkEntries {H : Type} : List (Lit × DataW H) → Nat
  | [] => 0
  | x :: r => uptoBulkEntry x + uptoBulkEntries r
def uptoBulkEntry {H : Type} : Lit × DataW H → Nat
  | (.string bytes, d) => bytes.length + uptoBulk d + 1
  | (_, d) => uptoBulk d + 1
 end
def uptoSmall : (H : Type) → List (DataW H) → Bool := fun _ ds => decide (uptoBulkAll ds ≤ 1048576)
def OpenSpec.upto (s : _root_.Go.ChangeSpec) : _root_.Go.OpenSpec := { _root_.Go.OpenSpec.ofChange s with cond := some uptoSmall }

/-- 'scansionlaw14.PackedSaves', WHERE WHAT IT READS IS OF BULK AT MOST 1048576: true; the input reads as it did. -/
def packedSavesUptoRow : OpenClaim := { program := "ytjcgbjkjkgkklaa", sum := "8486ab167c02086b2bf37c4853e2ab137e87564989775fbc175903123c2084dd", func := "scansion/scansionlaw14.PackedSaves", spec := "packedSaves", unfollowed := true, recurses := true, apart := false, narrowed := true }
def PackedSavesUptoSaid : Prop := packedSavesUptoRow.holds Try.pinned (OpenSpec.upto packedSavesSpec)

/-- 'scansionlaw14.PackedNumbers', WHERE WHAT IT READS IS OF BULK AT MOST 1048576: true; the input reads as it did. -/
def packedNumbersUptoRow : OpenClaim := { program := "ytjcgbjkjkgkklaa", sum := "8486ab167c02086b2bf37c4853e2ab137e87564989775fbc175903123c2084dd", func := "scansion/scansionlaw14.PackedNumbers", spec := "packedNumbers", unfollowed := true, recurses := true, apart := false, narrowed := true }
def PackedNumbersUptoSaid : Prop := packedNumbersUptoRow.holds Try.pinned (OpenSpec.upto packedNumbersSpec)

/-- 'scansionlaw14.PackedJoins', WHERE WHAT IT READS IS OF BULK AT MOST 1048576: true; the input reads as it did. -/
def packedJoinsUptoRow : OpenClaim := { program := "ytjcgbjkjkgkklaa", sum := "8486ab167c02086b2bf37c4853e2ab137e87564989775fbc175903123c2084dd", func := "scansion/scansionlaw14.PackedJoins", spec := "packedJoins", unfollowed := true, recurses := true, apart := false, narrowed := true }
def PackedJoinsUptoSaid : Prop := packedJoinsUptoRow.holds Try.pinned (OpenSpec.upto packedJoinsSpec)

/-- 'scansionlaw14.PackedLoads', WHERE WHAT IT READS IS OF BULK AT MOST 1048576: true; the input reads as it did. -/
def packedLoadsUptoRow : OpenClaim := { program := "ytjcgbjkjkgkklaa", sum := "8486ab167c02086b2bf37c4853e2ab137e87564989775fbc175903123c2084dd", func := "scansion/scansionlaw14.PackedLoads", spec := "packedLoads", unfollowed := true, recurses := true, apart := false, narrowed := true }
def PackedLoadsUptoSaid : Prop := packedLoadsUptoRow.holds Try.pinned (OpenSpec.upto packedLoadsSpec)

/-- 'scansionlaw14.PackedBack', WHERE WHAT IT READS IS OF BULK AT MOST 1048576: true; the input reads as it did. -/
def packedBackUptoRow : OpenClaim := { program := "ytjcgbjkjkgkklaa", sum := "8486ab167c02086b2bf37c4853e2ab137e87564989775fbc175903123c2084dd", func := "scansion/scansionlaw14.PackedBack", spec := "packedBack", unfollowed := true, recurses := true, apart := false, narrowed := true }
def PackedBackUptoSaid : Prop := packedBackUptoRow.holds Try.pinned (OpenSpec.upto packedBackSpec)

/-- 'scansionlaw14.PackedRuns', WHERE WHAT IT READS IS OF BULK AT MOST 1048576: true; the input reads as it did. -/
def packedRunsUptoRow : OpenClaim := { program := "ytjcgbjkjkgkklaa", sum := "8486ab167c02086b2bf37c4853e2ab137e87564989775fbc175903123c2084dd", func := "scansion/scansionlaw14.PackedRuns", spec := "packedRuns", unfollowed := true, recurses := true, apart := false, narrowed := true }
def PackedRunsUptoSaid : Prop := packedRunsUptoRow.holds Try.pinned (OpenSpec.upto packedRunsSpec)

end Rows
end Go.Proofs.Ytjcgbjkjkgkklaa
