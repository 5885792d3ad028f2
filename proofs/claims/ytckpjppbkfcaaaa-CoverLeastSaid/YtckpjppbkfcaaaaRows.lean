/-
  No cell of these rows narrows 'for every input' (looked for: loops, veiled, ifaces, maps, wideKeys, modest, calm, conditions, laid).
  DERIVED. THE GIVEN ROWS OF THIS SEAT. 6 by the template 'for every input the law returns true; each argument reads behind the call as it read before'; 0 by the template 'total and deterministic' (their statements: YtckpjppbkfcaaaaTotals.lean).
  GIVEN WITH THE SEED: the statements are not yours to turn. If you find one false, say at which input.
  Laid BY PROGRAM, IN A SANDBOX (cutbox-rows.mjs): the forced cells as the released guide's own fill.sh prints them over the translation 285417876543964d… (all of the seat's roots in one cut). By AI agents, Wed Nov 11 2026. No macro, syntax, notation, axiom, sorry.
-/
import Derived.Test.YtckpjppbkfcaaaaChecked
import GoSem.Claim
import GoSem.ClaimJoined
import GoSem.ClaimMapViews
import Derived.JoinedTies
import Derived.KernelRfl
namespace Go.Proofs.Ytckpjppbkfcaaaa
/- THE CELL 'sum', in the pinned program and in every row, IS THE sha256 OF THE DUMP (.gsa) THAT YtckpjppbkfcaaaaProg.lean LOADS. Nothing in Lean hashes anything: it is a label: what it is worth is what the hold of that sum in a sandbox is worth. -/
noncomputable def Try.pinned : Pinned := { name := "ytckpjppbkfcaaaa", sum := "285417876543964d89263c96d299d65ccce4a859df79da68db60779667498407", checked := Try.checked }
namespace Rows
def none {H : Type} : Left H := { results := [], args := [] }

/-- 'scansionlaw19.CoverBest': WHATEVER THE INPUT: true; the input reads as it did. -/
def coverBestSpec : ChangeSpec := { name := "coverBest", fn := fun _ => fun
  | [d1, d2, d3] => { results := [.lit (.bool true)], args := [d1, d2, d3] }
  | _ => none }
def coverBestRow : OpenClaim := { program := "ytckpjppbkfcaaaa", sum := "285417876543964d89263c96d299d65ccce4a859df79da68db60779667498407", func := "scansion/scansionlaw19.CoverBest", spec := "coverBest", recurses := true, plainKeys := false, apart := false }
def CoverBestSaid : Prop := coverBestRow.holds Try.pinned (OpenSpec.ofChange coverBestSpec)

/-- ITS FALSE NEIGHBOUR: 'it returns false'. Refute it at one input. -/
def coverBestWrong : ChangeSpec := { name := "coverBest", fn := fun _ => fun
  | [d1, d2, d3] => { results := [.lit (.bool false)], args := [d1, d2, d3] }
  | _ => none }
def CoverBestWrongFalsely : Prop := coverBestRow.holds Try.pinned (OpenSpec.ofChange coverBestWrong)

/-- 'scansionlaw19.CoverLeast': WHATEVER THE INPUT: true; the input reads as it did. -/
def coverLeastSpec : ChangeSpec := { name := "coverLeast", fn := fun _ => fun
  | [d1, d2, d3] => { results := [.lit (.bool true)], args := [d1, d2, d3] }
  | _ => none }
def coverLeastRow : OpenClaim := { program := "ytckpjppbkfcaaaa", sum := "285417876543964d89263c96d299d65ccce4a859df79da68db60779667498407", func := "scansion/scansionlaw19.CoverLeast", spec := "coverLeast", recurses := true, plainKeys := false, apart := false }
def CoverLeastSaid : Prop := coverLeastRow.holds Try.pinned (OpenSpec.ofChange coverLeastSpec)

/-- ITS FALSE NEIGHBOUR: 'it returns false'. Refute it at one input. -/
def coverLeastWrong : ChangeSpec := { name := "coverLeast", fn := fun _ => fun
  | [d1, d2, d3] => { results := [.lit (.bool false)], args := [d1, d2, d3] }
  | _ => none }
def CoverLeastWrongFalsely : Prop := coverLeastRow.holds Try.pinned (OpenSpec.ofChange coverLeastWrong)

/-- 'scansionlaw19.CoverJoins': WHATEVER THE INPUT: true; the input reads as it did. -/
def coverJoinsSpec : ChangeSpec := { name := "coverJoins", fn := fun _ => fun
  | [d1, d2, d3] => { results := [.lit (.bool true)], args := [d1, d2, d3] }
  | _ => none }
def coverJoinsRow : OpenClaim := { program := "ytckpjppbkfcaaaa", sum := "285417876543964d89263c96d299d65ccce4a859df79da68db60779667498407", func := "scansion/scansionlaw19.CoverJoins", spec := "coverJoins", recurses := true, plainKeys := false, apart := false }
def CoverJoinsSaid : Prop := coverJoinsRow.holds Try.pinned (OpenSpec.ofChange coverJoinsSpec)

/-- ITS FALSE NEIGHBOUR: 'it returns false'. Refute it at one input. -/
def coverJoinsWrong : ChangeSpec := { name := "coverJoins", fn := fun _ => fun
  | [d1, d2, d3] => { results := [.lit (.bool false)], args := [d1, d2, d3] }
  | _ => none }
def CoverJoinsWrongFalsely : Prop := coverJoinsRow.holds Try.pinned (OpenSpec.ofChange coverJoinsWrong)

/-- 'scansionlaw19.CoverMore': WHATEVER THE INPUT: true; the input reads as it did. -/
def coverMoreSpec : ChangeSpec := { name := "coverMore", fn := fun _ => fun
  | [d1, d2, d3] => { results := [.lit (.bool true)], args := [d1, d2, d3] }
  | _ => none }
def coverMoreRow : OpenClaim := { program := "ytckpjppbkfcaaaa", sum := "285417876543964d89263c96d299d65ccce4a859df79da68db60779667498407", func := "scansion/scansionlaw19.CoverMore", spec := "coverMore", recurses := true, plainKeys := false, apart := false }
def CoverMoreSaid : Prop := coverMoreRow.holds Try.pinned (OpenSpec.ofChange coverMoreSpec)

/-- ITS FALSE NEIGHBOUR: 'it returns false'. Refute it at one input. -/
def coverMoreWrong : ChangeSpec := { name := "coverMore", fn := fun _ => fun
  | [d1, d2, d3] => { results := [.lit (.bool false)], args := [d1, d2, d3] }
  | _ => none }
def CoverMoreWrongFalsely : Prop := coverMoreRow.holds Try.pinned (OpenSpec.ofChange coverMoreWrong)

/-- 'scansionlaw19.CoverCosts': WHATEVER THE INPUT: true; the input reads as it did. -/
def coverCostsSpec : ChangeSpec := { name := "coverCosts", fn := fun _ => fun
  | [d1, d2, d3] => { results := [.lit (.bool true)], args := [d1, d2, d3] }
  | _ => none }
def coverCostsRow : OpenClaim := { program := "ytckpjppbkfcaaaa", sum := "285417876543964d89263c96d299d65ccce4a859df79da68db60779667498407", func := "scansion/scansionlaw19.CoverCosts", spec := "coverCosts", recurses := true, plainKeys := false, apart := false }
def CoverCostsSaid : Prop := coverCostsRow.holds Try.pinned (OpenSpec.ofChange coverCostsSpec)

/-- ITS FALSE NEIGHBOUR: 'it returns false'. Refute it at one input. -/
def coverCostsWrong : ChangeSpec := { name := "coverCosts", fn := fun _ => fun
  | [d1, d2, d3] => { results := [.lit (.bool false)], args := [d1, d2, d3] }
  | _ => none }
def CoverCostsWrongFalsely : Prop := coverCostsRow.holds Try.pinned (OpenSpec.ofChange coverCostsWrong)

/-- 'scansionlaw19.CoverSingles': WHATEVER THE INPUT: true; the input reads as it did. -/
def coverSinglesSpec : ChangeSpec := { name := "coverSingles", fn := fun _ => fun
  | [d1, d2, d3] => { results := [.lit (.bool true)], args := [d1, d2, d3] }
  | _ => none }
def coverSinglesRow : OpenClaim := { program := "ytckpjppbkfcaaaa", sum := "285417876543964d89263c96d299d65ccce4a859df79da68db60779667498407", func := "scansion/scansionlaw19.CoverSingles", spec := "coverSingles", recurses := true, plainKeys := false, apart := false }
def CoverSinglesSaid : Prop := coverSinglesRow.holds Try.pinned (OpenSpec.ofChange coverSinglesSpec)

/-- ITS FALSE NEIGHBOUR: 'it returns false'. Refute it at one input. -/
def coverSinglesWrong : ChangeSpec := { name := "coverSingles", fn := fun _ => fun
  | [d1, d2, d3] => { results := [.lit (.bool false)], args := [d1, d2, d3] }
  | _ => none }
def CoverSinglesWrongFalsely : Prop := coverSinglesRow.holds Try.pinned (OpenSpec.ofChange coverSinglesWrong)

/- THE SECOND FORM. 'bulk': how many values and letters a reading holds, each counted each time it is reached (what is shared counts as often as it is met; a slice's spare places count too). A statement '..UptoSaid' is the law's where the arguments, and the package variables that the reading takes, are together of bulk at most 1048576: NARROWER than '..Said'. Prove '..Said' where nothing that the law and all that it calls make is longer than what came in: it says more and counts as full. Else prove '..UptoSaid'. A law counts once. -/
mutual
def uptoBulk {H : Type} : DataW H → Nat
  | .lit (.string bytes) => bytes.length + 1
  | .lit _ => 1
  | .nil => 1
  | .ptr d => uptoBulk d + 1
  | .slice elems spare => uptoBulkAll elems + uptoBulkAll spare + 1
  | .agg parts => uptoBulkAll parts + 1
  | .iface _ d => uptoBulk d + 1
  | .map entries => uptoBulkEntries entries + 1
  | .held _ => 1
def uptoBulkAll {H : Type} : List (DataW H) → Nat
  | [] => 0
  | d :: r => uptoBulk d + uptoBulkAll r
def uptoBulkEntries {H : Type} : List (Lit × DataW H) → Nat
  | [] => 0
  | x :: r => uptoBulkEntry x + uptoBulkEntries r
def uptoBulkEntry {H : Type} : Lit × DataW H → Nat
  | (.string bytes, d) => bytes.length + uptoBulk d + 1
  | (_, d) => uptoBulk d + 1
 end
def uptoSmall : (H : Type) → List (DataW H) → Bool := fun _ ds => decide (uptoBulkAll ds ≤ 1048576)
def OpenSpec.upto (s : _root_.Go.ChangeSpec) : _root_.Go.OpenSpec := { _root_.Go.OpenSpec.ofChange s with cond := some uptoSmall }

/-- 'scansionlaw19.CoverBest', WHERE WHAT IT READS IS OF BULK AT MOST 1048576: true; the input reads as it did. -/
def coverBestUptoRow : OpenClaim := { program := "ytckpjppbkfcaaaa", sum := "285417876543964d89263c96d299d65ccce4a859df79da68db60779667498407", func := "scansion/scansionlaw19.CoverBest", spec := "coverBest", recurses := true, plainKeys := false, apart := false, narrowed := true }
def CoverBestUptoSaid : Prop := coverBestUptoRow.holds Try.pinned (OpenSpec.upto coverBestSpec)

/-- 'scansionlaw19.CoverLeast', WHERE WHAT IT READS IS OF BULK AT MOST 1048576: true; the input reads as it did. -/
def coverLeastUptoRow : OpenClaim := { program := "ytckpjppbkfcaaaa", sum := "285417876543964d89263c96d299d65ccce4a859df79da68db60779667498407", func := "scansion/scansionlaw19.CoverLeast", spec := "coverLeast", recurses := true, plainKeys := false, apart := false, narrowed := true }
def CoverLeastUptoSaid : Prop := coverLeastUptoRow.holds Try.pinned (OpenSpec.upto coverLeastSpec)

/-- 'scansionlaw19.CoverJoins', WHERE WHAT IT READS IS OF BULK AT MOST 1048576: true; the input reads as it did. -/
def coverJoinsUptoRow : OpenClaim := { program := "ytckpjppbkfcaaaa", sum := "285417876543964d89263c96d299d65ccce4a859df79da68db60779667498407", func := "scansion/scansionlaw19.CoverJoins", spec := "coverJoins", recurses := true, plainKeys := false, apart := false, narrowed := true }
def CoverJoinsUptoSaid : Prop := coverJoinsUptoRow.holds Try.pinned (OpenSpec.upto coverJoinsSpec)

/-- 'scansionlaw19.CoverMore', WHERE WHAT IT READS IS OF BULK AT MOST 1048576: true; the input reads as it did. -/
def coverMoreUptoRow : OpenClaim := { program := "ytckpjppbkfcaaaa", sum := "285417876543964d89263c96d299d65ccce4a859df79da68db60779667498407", func := "scansion/scansionlaw19.CoverMore", spec := "coverMore", recurses := true, plainKeys := false, apart := false, narrowed := true }
def CoverMoreUptoSaid : Prop := coverMoreUptoRow.holds Try.pinned (OpenSpec.upto coverMoreSpec)

/-- 'scansionlaw19.CoverCosts', WHERE WHAT IT READS IS OF BULK AT MOST 1048576: true; the input reads as it did. -/
def coverCostsUptoRow : OpenClaim := { program := "ytckpjppbkfcaaaa", sum := "285417876543964d89263c96d299d65ccce4a859df79da68db60779667498407", func := "scansion/scansionlaw19.CoverCosts", spec := "coverCosts", recurses := true, plainKeys := false, apart := false, narrowed := true }
def CoverCostsUptoSaid : Prop := coverCostsUptoRow.holds Try.pinned (OpenSpec.upto coverCostsSpec)

/-- 'scansionlaw19.CoverSingles', WHERE WHAT IT READS IS OF BULK AT MOST 1048576: true; the input reads as it did. -/
def coverSinglesUptoRow : OpenClaim := { program := "ytckpjppbkfcaaaa", sum := "285417876543964d89263c96d299d65ccce4a859df79da68db60779667498407", func := "scansion/scansionlaw19.CoverSingles", spec := "coverSingles", recurses := true, plainKeys := false, apart := false, narrowed := true }
def CoverSinglesUptoSaid : Prop := coverSinglesUptoRow.holds Try.pinned (OpenSpec.upto coverSinglesSpec)

end Rows
end Go.Proofs.Ytckpjppbkfcaaaa
