/-
  No cell of these rows narrows 'for every input' (looked for: loops, veiled, ifaces, maps, wideKeys, modest, calm, conditions, laid).
  DERIVED. THE GIVEN ROWS OF THIS SEAT. 5 by the template 'for every input the law returns true; each argument reads behind the call as it read before'; 0 by the template 'total and deterministic' (their statements: YtjpbcmfppmiagaaTotals.lean).
  GIVEN WITH THE SEED: the statements are not yours to turn. If you find one false, say at which input.
  Laid BY PROGRAM, IN A SANDBOX (cutbox-rows.mjs): the forced cells as the released guide's own fill.sh prints them over the translation 27148262c37bf00a… (all of the seat's roots in one cut). By AI agents, Wed Nov 11 2026. No macro, syntax, notation, axiom, sorry.
-/
import Derived.Test.YtjpbcmfppmiagaaChecked
import GoSem.Claim
import GoSem.ClaimJoined
import GoSem.ClaimMapViews
import Derived.JoinedTies
import Derived.KernelRfl
namespace Go.Proofs.Ytjpbcmfppmiagaa
/- THE CELL 'sum', in the pinned program and in every row, IS THE sha256 OF THE DUMP (.gsa) THAT YtjpbcmfppmiagaaProg.lean LOADS. Nothing in Lean hashes anything: it is a label: what it is worth is what the hold of that sum in a sandbox is worth. -/
noncomputable def Try.pinned : Pinned := { name := "ytjpbcmfppmiagaa", sum := "27148262c37bf00a51f2f26241e1bac33324163ce8c652b26b2e27214100f122", checked := Try.checked }
namespace Rows
def none {H : Type} : Left H := { results := [], args := [] }

/-- 'scansionlaw21.CacheLasts': WHATEVER THE INPUT: true; the input reads as it did. -/
def cacheLastsSpec : ChangeSpec := { name := "cacheLasts", fn := fun _ => fun
  | [d1, d2, d3] => { results := [.lit (.bool true)], args := [d1, d2, d3] }
  | _ => none }
def cacheLastsRow : OpenClaim := { program := "ytjpbcmfppmiagaa", sum := "27148262c37bf00a51f2f26241e1bac33324163ce8c652b26b2e27214100f122", func := "scansion/scansionlaw21.CacheLasts", spec := "cacheLasts", unfollowed := true, recurses := true, apart := false }
def CacheLastsSaid : Prop := cacheLastsRow.holds Try.pinned (OpenSpec.ofChange cacheLastsSpec)

/-- ITS FALSE NEIGHBOUR: 'it returns false'. Refute it at one input. -/
def cacheLastsWrong : ChangeSpec := { name := "cacheLasts", fn := fun _ => fun
  | [d1, d2, d3] => { results := [.lit (.bool false)], args := [d1, d2, d3] }
  | _ => none }
def CacheLastsWrongFalsely : Prop := cacheLastsRow.holds Try.pinned (OpenSpec.ofChange cacheLastsWrong)

/-- 'scansionlaw21.CacheOwn': WHATEVER THE INPUT: true; the input reads as it did. -/
def cacheOwnSpec : ChangeSpec := { name := "cacheOwn", fn := fun _ => fun
  | [d1, d2] => { results := [.lit (.bool true)], args := [d1, d2] }
  | _ => none }
def cacheOwnRow : OpenClaim := { program := "ytjpbcmfppmiagaa", sum := "27148262c37bf00a51f2f26241e1bac33324163ce8c652b26b2e27214100f122", func := "scansion/scansionlaw21.CacheOwn", spec := "cacheOwn", unfollowed := true, recurses := true, apart := false }
def CacheOwnSaid : Prop := cacheOwnRow.holds Try.pinned (OpenSpec.ofChange cacheOwnSpec)

/-- ITS FALSE NEIGHBOUR: 'it returns false'. Refute it at one input. -/
def cacheOwnWrong : ChangeSpec := { name := "cacheOwn", fn := fun _ => fun
  | [d1, d2] => { results := [.lit (.bool false)], args := [d1, d2] }
  | _ => none }
def CacheOwnWrongFalsely : Prop := cacheOwnRow.holds Try.pinned (OpenSpec.ofChange cacheOwnWrong)

/-- 'scansionlaw21.CacheOrder': WHATEVER THE INPUT: true; the input reads as it did. -/
def cacheOrderSpec : ChangeSpec := { name := "cacheOrder", fn := fun _ => fun
  | [d] => { results := [.lit (.bool true)], args := [d] }
  | _ => none }
def cacheOrderRow : OpenClaim := { program := "ytjpbcmfppmiagaa", sum := "27148262c37bf00a51f2f26241e1bac33324163ce8c652b26b2e27214100f122", func := "scansion/scansionlaw21.CacheOrder", spec := "cacheOrder", unfollowed := true, recurses := true, apart := false }
def CacheOrderSaid : Prop := cacheOrderRow.holds Try.pinned (OpenSpec.ofChange cacheOrderSpec)

/-- ITS FALSE NEIGHBOUR: 'it returns false'. Refute it at one input. -/
def cacheOrderWrong : ChangeSpec := { name := "cacheOrder", fn := fun _ => fun
  | [d] => { results := [.lit (.bool false)], args := [d] }
  | _ => none }
def CacheOrderWrongFalsely : Prop := cacheOrderRow.holds Try.pinned (OpenSpec.ofChange cacheOrderWrong)

/-- 'scansionlaw21.CacheTells': WHATEVER THE INPUT: true; the input reads as it did. -/
def cacheTellsSpec : ChangeSpec := { name := "cacheTells", fn := fun _ => fun
  | [d1, d2] => { results := [.lit (.bool true)], args := [d1, d2] }
  | _ => none }
def cacheTellsRow : OpenClaim := { program := "ytjpbcmfppmiagaa", sum := "27148262c37bf00a51f2f26241e1bac33324163ce8c652b26b2e27214100f122", func := "scansion/scansionlaw21.CacheTells", spec := "cacheTells", unfollowed := true, recurses := true, apart := false }
def CacheTellsSaid : Prop := cacheTellsRow.holds Try.pinned (OpenSpec.ofChange cacheTellsSpec)

/-- ITS FALSE NEIGHBOUR: 'it returns false'. Refute it at one input. -/
def cacheTellsWrong : ChangeSpec := { name := "cacheTells", fn := fun _ => fun
  | [d1, d2] => { results := [.lit (.bool false)], args := [d1, d2] }
  | _ => none }
def CacheTellsWrongFalsely : Prop := cacheTellsRow.holds Try.pinned (OpenSpec.ofChange cacheTellsWrong)

/-- 'scansionlaw21.CacheScripts': WHATEVER THE INPUT: true; the input reads as it did. -/
def cacheScriptsSpec : ChangeSpec := { name := "cacheScripts", fn := fun _ => fun
  | [d1, d2] => { results := [.lit (.bool true)], args := [d1, d2] }
  | _ => none }
def cacheScriptsRow : OpenClaim := { program := "ytjpbcmfppmiagaa", sum := "27148262c37bf00a51f2f26241e1bac33324163ce8c652b26b2e27214100f122", func := "scansion/scansionlaw21.CacheScripts", spec := "cacheScripts", unfollowed := true, recurses := true, apart := false }
def CacheScriptsSaid : Prop := cacheScriptsRow.holds Try.pinned (OpenSpec.ofChange cacheScriptsSpec)

/-- ITS FALSE NEIGHBOUR: 'it returns false'. Refute it at one input. -/
def cacheScriptsWrong : ChangeSpec := { name := "cacheScripts", fn := fun _ => fun
  | [d1, d2] => { results := [.lit (.bool false)], args := [d1, d2] }
  | _ => none }
def CacheScriptsWrongFalsely : Prop := cacheScriptsRow.holds Try.pinned (OpenSpec.ofChange cacheScriptsWrong)

/- THE SECOND FORM. 'bulk': how many values and letters a reading holds, each counted each time it is reached (what is shared counts as often as it is met; a slice's spare places count too). A statement '..UptoSaid' is the law's where the arguments, and the package variables that the reading takes, are together of bulk at most 1048576: NARROWER than '..Said'. Prove '..Said' where nothing that the law and all that it calls make is longer than what came in: it says more and counts as full. Else prove '..UptoSaid'. A law counts once. -/
mutual
def uptoBulk {H : Type} : DataW H → Nat
  | .lit (.string bytes) => bytes.length + 1
  | .lit _ => 1
  | .nil => 1
  | .ptr d => uptoBulk d + 1
  | .slice elems spare => uptoBulkAll elems + uptoBulkAll spare + 1
  | .agg parts => uptoBulkAll parts + 1
  | .iface _ d => uptoBulk d + 1
  | .map entries => uptoBulkEntries entries + 1
  | .held _ => 1
def uptoBulkAll {H : Type} : List (DataW H) → Nat
  | [] => 0
  | d :: r => uptoBulk d + uptoBulkAll r
def uptoBulkEntries {H : Type} : List (Lit × DataW H) → Nat
  | [] => 0
  | x :: r => uptoBulkEntry x + uptoBulkEntries r
def uptoBulkEntry {H : Type} : Lit × DataW H → Nat
  | (.string bytes, d) => bytes.length + uptoBulk d + 1
  | (_, d) => uptoBulk d + 1
 end
def uptoSmall : (H : Type) → List (DataW H) → Bool := fun _ ds => decide (uptoBulkAll ds ≤ 1048576)
def OpenSpec.upto (s : _root_.Go.ChangeSpec) : _root_.Go.OpenSpec := { _root_.Go.OpenSpec.ofChange s with cond := some uptoSmall }

/-- 'scansionlaw21.CacheLasts', WHERE WHAT IT READS IS OF BULK AT MOST 1048576: true; the input reads as it did. -/
def cacheLastsUptoRow : OpenClaim := { program := "ytjpbcmfppmiagaa", sum := "27148262c37bf00a51f2f26241e1bac33324163ce8c652b26b2e27214100f122", func := "scansion/scansionlaw21.CacheLasts", spec := "cacheLasts", unfollowed := true, recurses := true, apart := false, narrowed := true }
def CacheLastsUptoSaid : Prop := cacheLastsUptoRow.holds Try.pinned (OpenSpec.upto cacheLastsSpec)

/-- 'scansionlaw21.CacheOwn', WHERE WHAT IT READS IS OF BULK AT MOST 1048576: true; the input reads as it did. -/
def cacheOwnUptoRow : OpenClaim := { program := "ytjpbcmfppmiagaa", sum := "27148262c37bf00a51f2f26241e1bac33324163ce8c652b26b2e27214100f122", func := "scansion/scansionlaw21.CacheOwn", spec := "cacheOwn", unfollowed := true, recurses := true, apart := false, narrowed := true }
def CacheOwnUptoSaid : Prop := cacheOwnUptoRow.holds Try.pinned (OpenSpec.upto cacheOwnSpec)

/-- 'scansionlaw21.CacheOrder', WHERE WHAT IT READS IS OF BULK AT MOST 1048576: true; the input reads as it did. -/
def cacheOrderUptoRow : OpenClaim := { program := "ytjpbcmfppmiagaa", sum := "27148262c37bf00a51f2f26241e1bac33324163ce8c652b26b2e27214100f122", func := "scansion/scansionlaw21.CacheOrder", spec := "cacheOrder", unfollowed := true, recurses := true, apart := false, narrowed := true }
def CacheOrderUptoSaid : Prop := cacheOrderUptoRow.holds Try.pinned (OpenSpec.upto cacheOrderSpec)

/-- 'scansionlaw21.CacheTells', WHERE WHAT IT READS IS OF BULK AT MOST 1048576: true; the input reads as it did. -/
def cacheTellsUptoRow : OpenClaim := { program := "ytjpbcmfppmiagaa", sum := "27148262c37bf00a51f2f26241e1bac33324163ce8c652b26b2e27214100f122", func := "scansion/scansionlaw21.CacheTells", spec := "cacheTells", unfollowed := true, recurses := true, apart := false, narrowed := true }
def CacheTellsUptoSaid : Prop := cacheTellsUptoRow.holds Try.pinned (OpenSpec.upto cacheTellsSpec)

/-- 'scansionlaw21.CacheScripts', WHERE WHAT IT READS IS OF BULK AT MOST 1048576: true; the input reads as it did. -/
def cacheScriptsUptoRow : OpenClaim := { program := "ytjpbcmfppmiagaa", sum := "27148262c37bf00a51f2f26241e1bac33324163ce8c652b26b2e27214100f122", func := "scansion/scansionlaw21.CacheScripts", spec := "cacheScripts", unfollowed := true, recurses := true, apart := false, narrowed := true }
def CacheScriptsUptoSaid : Prop := cacheScriptsUptoRow.holds Try.pinned (OpenSpec.upto cacheScriptsSpec)

end Rows
end Go.Proofs.Ytjpbcmfppmiagaa
