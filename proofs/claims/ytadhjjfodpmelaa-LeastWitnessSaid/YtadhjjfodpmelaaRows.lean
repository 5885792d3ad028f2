/-
  No cell of these rows narrows 'for every input' (looked for: loops, veiled, ifaces, maps, wideKeys, modest, calm, conditions, laid).
  DERIVED. THE GIVEN ROWS OF THIS SEAT. 6 by the template 'for every input the law returns true; each argument reads behind the call as it read before'; 0 by the template 'total and deterministic' (their statements: YtadhjjfodpmelaaTotals.lean).
  GIVEN WITH THE SEED: the statements are not yours to turn. If you find one false, say at which input.
  Laid BY PROGRAM, IN A SANDBOX (cutbox-rows.mjs): the forced cells as the released guide's own fill.sh prints them over the translation 49bb4cb8b02e0e20… (all of the seat's roots in one cut). By AI agents, Wed Nov 11 2026. No macro, syntax, notation, axiom, sorry.
-/
import Derived.Test.YtadhjjfodpmelaaChecked
import GoSem.Claim
import GoSem.ClaimJoined
import GoSem.ClaimMapViews
import Derived.JoinedTies
import Derived.KernelRfl
namespace Go.Proofs.Ytadhjjfodpmelaa
/- THE CELL 'sum', in the pinned program and in every row, IS THE sha256 OF THE DUMP (.gsa) THAT YtadhjjfodpmelaaProg.lean LOADS. Nothing in Lean hashes anything: it is a label: what it is worth is what the hold of that sum in a sandbox is worth. -/
noncomputable def Try.pinned : Pinned := { name := "ytadhjjfodpmelaa", sum := "49bb4cb8b02e0e2054f056958f6536fac7c074916a5b20e84236b3d295e33ef6", checked := Try.checked }
namespace Rows
def none {H : Type} : Left H := { results := [], args := [] }

/-- 'scansionlaw13.LeastMakes': WHATEVER THE INPUT: true; the input reads as it did. -/
def leastMakesSpec : ChangeSpec := { name := "leastMakes", fn := fun _ => fun
  | [d] => { results := [.lit (.bool true)], args := [d] }
  | _ => none }
def leastMakesRow : OpenClaim := { program := "ytadhjjfodpmelaa", sum := "49bb4cb8b02e0e2054f056958f6536fac7c074916a5b20e84236b3d295e33ef6", func := "scansion/scansionlaw13.LeastMakes", spec := "leastMakes", unfollowed := true, recurses := true, plainKeys := false, apart := false }
def LeastMakesSaid : Prop := leastMakesRow.holds Try.pinned (OpenSpec.ofChange leastMakesSpec)

/-- ITS FALSE NEIGHBOUR: 'it returns false'. Refute it at one input. -/
def leastMakesWrong : ChangeSpec := { name := "leastMakes", fn := fun _ => fun
  | [d] => { results := [.lit (.bool false)], args := [d] }
  | _ => none }
def LeastMakesWrongFalsely : Prop := leastMakesRow.holds Try.pinned (OpenSpec.ofChange leastMakesWrong)

/-- 'scansionlaw13.LeastNot': WHATEVER THE INPUT: true; the input reads as it did. -/
def leastNotSpec : ChangeSpec := { name := "leastNot", fn := fun _ => fun
  | [d] => { results := [.lit (.bool true)], args := [d] }
  | _ => none }
def leastNotRow : OpenClaim := { program := "ytadhjjfodpmelaa", sum := "49bb4cb8b02e0e2054f056958f6536fac7c074916a5b20e84236b3d295e33ef6", func := "scansion/scansionlaw13.LeastNot", spec := "leastNot", unfollowed := true, recurses := true, plainKeys := false, apart := false }
def LeastNotSaid : Prop := leastNotRow.holds Try.pinned (OpenSpec.ofChange leastNotSpec)

/-- ITS FALSE NEIGHBOUR: 'it returns false'. Refute it at one input. -/
def leastNotWrong : ChangeSpec := { name := "leastNot", fn := fun _ => fun
  | [d] => { results := [.lit (.bool false)], args := [d] }
  | _ => none }
def LeastNotWrongFalsely : Prop := leastNotRow.holds Try.pinned (OpenSpec.ofChange leastNotWrong)

/-- 'scansionlaw13.LeastWitness': WHATEVER THE INPUT: true; the input reads as it did. -/
def leastWitnessSpec : ChangeSpec := { name := "leastWitness", fn := fun _ => fun
  | [d1, d2, d3] => { results := [.lit (.bool true)], args := [d1, d2, d3] }
  | _ => none }
def leastWitnessRow : OpenClaim := { program := "ytadhjjfodpmelaa", sum := "49bb4cb8b02e0e2054f056958f6536fac7c074916a5b20e84236b3d295e33ef6", func := "scansion/scansionlaw13.LeastWitness", spec := "leastWitness", unfollowed := true, recurses := true, plainKeys := false, apart := false }
def LeastWitnessSaid : Prop := leastWitnessRow.holds Try.pinned (OpenSpec.ofChange leastWitnessSpec)

/-- ITS FALSE NEIGHBOUR: 'it returns false'. Refute it at one input. -/
def leastWitnessWrong : ChangeSpec := { name := "leastWitness", fn := fun _ => fun
  | [d1, d2, d3] => { results := [.lit (.bool false)], args := [d1, d2, d3] }
  | _ => none }
def LeastWitnessWrongFalsely : Prop := leastWitnessRow.holds Try.pinned (OpenSpec.ofChange leastWitnessWrong)

/-- 'scansionlaw13.LeastApart': WHATEVER THE INPUT: true; the input reads as it did. -/
def leastApartSpec : ChangeSpec := { name := "leastApart", fn := fun _ => fun
  | [d1, d2] => { results := [.lit (.bool true)], args := [d1, d2] }
  | _ => none }
def leastApartRow : OpenClaim := { program := "ytadhjjfodpmelaa", sum := "49bb4cb8b02e0e2054f056958f6536fac7c074916a5b20e84236b3d295e33ef6", func := "scansion/scansionlaw13.LeastApart", spec := "leastApart", unfollowed := true, recurses := true, plainKeys := false, apart := false }
def LeastApartSaid : Prop := leastApartRow.holds Try.pinned (OpenSpec.ofChange leastApartSpec)

/-- ITS FALSE NEIGHBOUR: 'it returns false'. Refute it at one input. -/
def leastApartWrong : ChangeSpec := { name := "leastApart", fn := fun _ => fun
  | [d1, d2] => { results := [.lit (.bool false)], args := [d1, d2] }
  | _ => none }
def LeastApartWrongFalsely : Prop := leastApartRow.holds Try.pinned (OpenSpec.ofChange leastApartWrong)

/-- 'scansionlaw13.LeastWords': WHATEVER THE INPUT: true; the input reads as it did. -/
def leastWordsSpec : ChangeSpec := { name := "leastWords", fn := fun _ => fun
  | [d1, d2] => { results := [.lit (.bool true)], args := [d1, d2] }
  | _ => none }
def leastWordsRow : OpenClaim := { program := "ytadhjjfodpmelaa", sum := "49bb4cb8b02e0e2054f056958f6536fac7c074916a5b20e84236b3d295e33ef6", func := "scansion/scansionlaw13.LeastWords", spec := "leastWords", unfollowed := true, recurses := true, plainKeys := false, apart := false }
def LeastWordsSaid : Prop := leastWordsRow.holds Try.pinned (OpenSpec.ofChange leastWordsSpec)

/-- ITS FALSE NEIGHBOUR: 'it returns false'. Refute it at one input. -/
def leastWordsWrong : ChangeSpec := { name := "leastWords", fn := fun _ => fun
  | [d1, d2] => { results := [.lit (.bool false)], args := [d1, d2] }
  | _ => none }
def LeastWordsWrongFalsely : Prop := leastWordsRow.holds Try.pinned (OpenSpec.ofChange leastWordsWrong)

/-- 'scansionlaw13.LeastAgain': WHATEVER THE INPUT: true; the input reads as it did. -/
def leastAgainSpec : ChangeSpec := { name := "leastAgain", fn := fun _ => fun
  | [d1, d2] => { results := [.lit (.bool true)], args := [d1, d2] }
  | _ => none }
def leastAgainRow : OpenClaim := { program := "ytadhjjfodpmelaa", sum := "49bb4cb8b02e0e2054f056958f6536fac7c074916a5b20e84236b3d295e33ef6", func := "scansion/scansionlaw13.LeastAgain", spec := "leastAgain", unfollowed := true, recurses := true, plainKeys := false, apart := false }
def LeastAgainSaid : Prop := leastAgainRow.holds Try.pinned (OpenSpec.ofChange leastAgainSpec)

/-- ITS FALSE NEIGHBOUR: 'it returns false'. Refute it at one input. -/
def leastAgainWrong : ChangeSpec := { name := "leastAgain", fn := fun _ => fun
  | [d1, d2] => { results := [.lit (.bool false)], args := [d1, d2] }
  | _ => none }
def LeastAgainWrongFalsely : Prop := leastAgainRow.holds Try.pinned (OpenSpec.ofChange leastAgainWrong)

/- THE SECOND FORM. 'bulk': how many values and letters a reading holds, each counted each time it is reached (what is shared counts as often as it is met; a slice's spare places count too). A statement '..UptoSaid' is the law's where the arguments, and the package variables that the reading takes, are together of bulk at most 1048576: NARROWER than '..Said'. Prove '..Said' where nothing that the law and all that it calls make is longer than what came in: it says more and counts as full. Else prove '..UptoSaid'. A law counts once. -/
mutual
def uptoBulk {H : Type} : DataW H → Nat
  | .lit (.string bytes) => bytes.length + 1
  | .lit _ => 1
  | .nil => 1
  | .ptr d => uptoBulk d + 1
  | .slice elems spare => uptoBulkAll elems + uptoBulkAll spare + 1
  | .agg parts => uptoBulkAll parts + 1
  | .iface _ d => uptoBulk d + 1
  | .map entries => uptoBulkEntries entries + 1
  | .held _ => 1
def uptoBulkAll {H : Type} : List (DataW H) → Nat
  | [] => 0
  | d :: r => uptoBulk d + uptoBulkAll r
def uptoBulkEntries {H : Type} : List (Lit × DataW H) → Nat
  | [] => 0
  | x :: r => uptoBulkEntry x + uptoBulkEntries r
def uptoBulkEntry {H : Type} : Lit × DataW H → Nat
  | (.string bytes, d) => bytes.length + uptoBulk d + 1
  | (_, d) => uptoBulk d + 1
 end
def uptoSmall : (H : Type) → List (DataW H) → Bool := fun _ ds => decide (uptoBulkAll ds ≤ 1048576)
def OpenSpec.upto (s : _root_.Go.ChangeSpec) : _root_.Go.OpenSpec := { _root_.Go.OpenSpec.ofChange s with cond := some uptoSmall }

/-- 'scansionlaw13.LeastMakes', WHERE WHAT IT READS IS OF BULK AT MOST 1048576: true; the input reads as it did. -/
def leastMakesUptoRow : OpenClaim := { program := "ytadhjjfodpmelaa", sum := "49bb4cb8b02e0e2054f056958f6536fac7c074916a5b20e84236b3d295e33ef6", func := "scansion/scansionlaw13.LeastMakes", spec := "leastMakes", unfollowed := true, recurses := true, plainKeys := false, apart := false, narrowed := true }
def LeastMakesUptoSaid : Prop := leastMakesUptoRow.holds Try.pinned (OpenSpec.upto leastMakesSpec)

/-- 'scansionlaw13.LeastNot', WHERE WHAT IT READS IS OF BULK AT MOST 1048576: true; the input reads as it did. -/
def leastNotUptoRow : OpenClaim := { program := "ytadhjjfodpmelaa", sum := "49bb4cb8b02e0e2054f056958f6536fac7c074916a5b20e84236b3d295e33ef6", func := "scansion/scansionlaw13.LeastNot", spec := "leastNot", unfollowed := true, recurses := true, plainKeys := false, apart := false, narrowed := true }
def LeastNotUptoSaid : Prop := leastNotUptoRow.holds Try.pinned (OpenSpec.upto leastNotSpec)

/-- 'scansionlaw13.LeastWitness', WHERE WHAT IT READS IS OF BULK AT MOST 1048576: true; the input reads as it did. -/
def leastWitnessUptoRow : OpenClaim := { program := "ytadhjjfodpmelaa", sum := "49bb4cb8b02e0e2054f056958f6536fac7c074916a5b20e84236b3d295e33ef6", func := "scansion/scansionlaw13.LeastWitness", spec := "leastWitness", unfollowed := true, recurses := true, plainKeys := false, apart := false, narrowed := true }
def LeastWitnessUptoSaid : Prop := leastWitnessUptoRow.holds Try.pinned (OpenSpec.upto leastWitnessSpec)

/-- 'scansionlaw13.LeastApart', WHERE WHAT IT READS IS OF BULK AT MOST 1048576: true; the input reads as it did. -/
def leastApartUptoRow : OpenClaim := { program := "ytadhjjfodpmelaa", sum := "49bb4cb8b02e0e2054f056958f6536fac7c074916a5b20e84236b3d295e33ef6", func := "scansion/scansionlaw13.LeastApart", spec := "leastApart", unfollowed := true, recurses := true, plainKeys := false, apart := false, narrowed := true }
def LeastApartUptoSaid : Prop := leastApartUptoRow.holds Try.pinned (OpenSpec.upto leastApartSpec)

/-- 'scansionlaw13.LeastWords', WHERE WHAT IT READS IS OF BULK AT MOST 1048576: true; the input reads as it did. -/
def leastWordsUptoRow : OpenClaim := { program := "ytadhjjfodpmelaa", sum := "49bb4cb8b02e0e2054f056958f6536fac7c074916a5b20e84236b3d295e33ef6", func := "scansion/scansionlaw13.LeastWords", spec := "leastWords", unfollowed := true, recurses := true, plainKeys := false, apart := false, narrowed := true }
def LeastWordsUptoSaid : Prop := leastWordsUptoRow.holds Try.pinned (OpenSpec.upto leastWordsSpec)

/-- 'scansionlaw13.LeastAgain', WHERE WHAT IT READS IS OF BULK AT MOST 1048576: true; the input reads as it did. -/
def leastAgainUptoRow : OpenClaim := { program := "ytadhjjfodpmelaa", sum := "49bb4cb8b02e0e2054f056958f6536fac7c074916a5b20e84236b3d295e33ef6", func := "scansion/scansionlaw13.LeastAgain", spec := "leastAgain", unfollowed := true, recurses := true, plainKeys := false, apart := false, narrowed := true }
def LeastAgainUptoSaid : Prop := leastAgainUptoRow.holds Try.pinned (OpenSpec.upto leastAgainSpec)

end Rows
end Go.Proofs.Ytadhjjfodpmelaa
