/-
 DERIVED: THE SHELF's CONTRACTS AT THIS DUMP, IN PLAIN WORDS (tools/lay-plain.mjs out of 'TryShelf.lean', which tools/lay-shelf.mjs wrote): THE SAME DECLARATIONS UNDER THE SAME NAMES: 'import', 'namespace', 'open', 'def', 'theorem' AND NOTHING ELSE: no command of the shelf's: FOR A HAND-IN. Each laying: the table of numbers ('.._ren') and one theorem, a field a fact of the dump's own or the kernel's comparison; each contract: ONE APPLICATION.
-/
import Derived.Shelf.SlGeneric
import Derived.Shelf.SortM.Plain
import Derived.Shelf.SortM.SortNone
import Derived.Shelf.SlicesG.CompactI
import Derived.Ground.SlgmProg
import Derived.Ground.SlgnProg
import Derived.Test.YtemlgmkbonpniaaProg
namespace Go.Proofs
open Go.Shelf
def Try.layF84_ren : Go.Shelf.Ren := ⟨fun | 5 => 84 | 8 => 96 | 7 => 95 | 19 => 113 | 20 => 114 | 10 => 104 | 11 => 105 | 12 => 106 | 13 => 107 | 14 => 108 | 15 => 109 | 16 => 110 | 17 => 111 | 18 => 112 | 30 => 118 | 31 => 119 | 32 => 120 | 33 => 121 | 34 => 122 | 35 => 123 | 40 => 124 | n => n, fun | 23 => 67 | 25 => 3 | 3 => 3 | 32 => 64 | 22 => 27 | 0 => 0 | 44 => 134 | 46 => 43 | 4 => 4 | 36 => 127 | 35 => 126 | 41 => 86 | 5 => 5 | 9 => 9 | 53 => 139 | 57 => 143 | 63 => 145 | 64 => 146 | n => n, fun | n => n⟩
theorem Try.layF84 : Go.Proofs.SlLaysM.n5 Try.prog Try.layF84_ren := {
 mixed := by kernel_rfl
 f5 := ⟨Try.f84.name, by decide, Try.func84.trans (congrArg some (by kernel_rfl))⟩
 f7 := ⟨Try.f95.name, by decide, Try.func95.trans (congrArg some (by kernel_rfl))⟩
 f8 := Try.func96.trans (congrArg some (by kernel_rfl))
 f10 := ⟨Try.f104.name, by decide, Try.func104.trans (congrArg some (by kernel_rfl))⟩
 f11 := ⟨Try.f105.name, by decide, Try.func105.trans (congrArg some (by kernel_rfl))⟩
 f12 := ⟨Try.f106.name, by decide, Try.func106.trans (congrArg some (by kernel_rfl))⟩
 f13 := ⟨Try.f107.name, by decide, Try.func107.trans (congrArg some (by kernel_rfl))⟩
 f14 := ⟨Try.f108.name, by decide, Try.func108.trans (congrArg some (by kernel_rfl))⟩
 f15 := ⟨Try.f109.name, by decide, Try.func109.trans (congrArg some (by kernel_rfl))⟩
 f16 := ⟨Try.f110.name, by decide, Try.func110.trans (congrArg some (by kernel_rfl))⟩
 f17 := ⟨Try.f111.name, by decide, Try.func111.trans (congrArg some (by kernel_rfl))⟩
 f18 := ⟨Try.f112.name, by decide, Try.func112.trans (congrArg some (by kernel_rfl))⟩
 f19 := Try.func113.trans (congrArg some (by kernel_rfl))
 f20 := Try.func114.trans (congrArg some (by kernel_rfl))
 f30 := ⟨Try.f118.name, by decide, Try.func118.trans (congrArg some (by kernel_rfl))⟩
 f31 := Try.func119.trans (congrArg some (by kernel_rfl))
 f32 := Try.func120.trans (congrArg some (by kernel_rfl))
 f33 := ⟨Try.f121.name, by decide, Try.func121.trans (congrArg some (by kernel_rfl))⟩
 f34 := ⟨Try.f122.name, by decide, Try.func122.trans (congrArg some (by kernel_rfl))⟩
 f35 := ⟨Try.f123.name, by decide, Try.func123.trans (congrArg some (by kernel_rfl))⟩
 f40 := ⟨Try.f124.name, by decide, Try.func124.trans (congrArg some (by kernel_rfl))⟩
 t0 := Try.underlying0
 a0 := Try.isAgg0
 z0 := Try.sizeOf0
 v0 := Try.zeroValue0
 t3 := Try.underlying3
 a3 := Try.isAgg3
 z3 := Try.sizeOf3
 v3 := Try.zeroValue3
 t4 := Try.underlying4
 a4 := Try.isAgg4
 z4 := Try.sizeOf4
 v4 := Try.zeroValue4
 t5 := Try.underlying5
 a5 := Try.isAgg5
 z5 := Try.sizeOf5
 v5 := Try.zeroValue5
 t9 := Try.underlying9
 a9 := Try.isAgg9
 z9 := Try.sizeOf9
 v9 := Try.zeroValue9
 t22 := Try.underlying27
 a22 := Try.isAgg27
 z22 := Try.sizeOf27
 v22 := Try.zeroValue27
 t23 := Try.underlying67
 a23 := Try.isAgg67
 z23 := Try.sizeOf67
 v23 := Try.zeroValue67
 t25 := Try.underlying3
 a25 := Try.isAgg3
 z25 := Try.sizeOf3
 v25 := Try.zeroValue3
 t32 := Try.underlying64
 a32 := Try.isAgg64
 z32 := Try.sizeOf64
 v32 := Try.zeroValue64
 t35 := Try.underlying126
 a35 := Try.isAgg126
 z35 := Try.sizeOf126
 v35 := Try.zeroValue126
 t36 := Try.underlying127
 a36 := Try.isAgg127
 z36 := Try.sizeOf127
 v36 := Try.zeroValue127
 t41 := Try.underlying86
 a41 := Try.isAgg86
 z41 := Try.sizeOf86
 v41 := Try.zeroValue86
 t44 := Try.underlying134
 a44 := Try.isAgg134
 z44 := Try.sizeOf134
 v44 := Try.zeroValue134
 t46 := Try.underlying43
 a46 := Try.isAgg43
 z46 := Try.sizeOf43
 v46 := Try.zeroValue43
 t53 := Try.underlying139
 a53 := Try.isAgg139
 z53 := Try.sizeOf139
 v53 := Try.zeroValue139
 t57 := Try.underlying143
 a57 := Try.isAgg143
 z57 := Try.sizeOf143
 v57 := Try.zeroValue143
 t63 := Try.underlying145
 a63 := Try.isAgg145
 z63 := Try.sizeOf145
 v63 := Try.zeroValue145
 t64 := Try.underlying146
 a64 := Try.isAgg146
 z64 := Try.sizeOf146
 v64 := Try.zeroValue146 }
open Go.RowKit Go.Sort in
theorem Try.F_Sort (blk off cap : Nat) (zs : List Int) (w : World) (hH : Holds (Value.int .i64) w blk off zs.toArray) (hblk : blk < w.heap.size) (hsz : zs.length < 4611686018427387904) :
  Calls Try.prog 84 #[.slice (some ⟨blk, off, none⟩) zs.length cap] w fun e w' => e = .returned (.tuple #[]) ∧ ∃ n os, w' = grow (putRow (Value.int .i64) (Sort.ahead w n) blk off (zs.mergeSort fun x y => decide (x ≤ y)).toArray) os := AnyM.slices_Sort_int Try.layF84 blk off cap zs w hH hblk hsz
open Go.RowKit Go.Sort in
theorem Try.F_Sort_none (p : Option Addr) (cap : Nat) (w : World) :
  Calls Try.prog 84 #[.slice p 0 cap] w fun e w' => e = .returned (.tuple #[]) ∧ w' = w := AnyM.slices_Sort_int_none Try.layF84 p cap w
def Try.layF85_ren : Go.Shelf.Ren := ⟨fun | 43 => 85 | n => n, fun | 22 => 67 | 23 => 3 | 3 => 3 | 4 => 4 | 0 => 0 | n => n, fun | n => n⟩
theorem Try.layF85 : Go.Proofs.SlLaysN.n43 Try.prog Try.layF85_ren := {
 mixed := by kernel_rfl
 f43 := ⟨Try.f85.name, by decide, Try.func85.trans (congrArg some (by kernel_rfl))⟩
 t0 := Try.underlying0
 a0 := Try.isAgg0
 z0 := Try.sizeOf0
 v0 := Try.zeroValue0
 t3 := Try.underlying3
 a3 := Try.isAgg3
 z3 := Try.sizeOf3
 v3 := Try.zeroValue3
 t4 := Try.underlying4
 a4 := Try.isAgg4
 z4 := Try.sizeOf4
 v4 := Try.zeroValue4
 t22 := Try.underlying67
 a22 := Try.isAgg67
 z22 := Try.sizeOf67
 v22 := Try.zeroValue67
 t23 := Try.underlying3
 a23 := Try.isAgg3
 z23 := Try.sizeOf3
 v23 := Try.zeroValue3
 i23 := by kernel_rfl }
open Go.RowKit Go.Sort in
theorem Try.F_Compact (blk off cap : Nat) (zs : List Int) (w : World) (hH : Holds (Value.int .i64) w blk off zs.toArray) (hsz : zs.length ≤ 9223372036854775807) (hcap : zs.length ≤ cap) :
  Calls Try.prog 85 #[.slice (some ⟨blk, off, none⟩) zs.length cap] w fun e w' => e = .returned (.slice (some ⟨blk, off, none⟩) (Lib.compact zs).length cap) ∧ ∃ q, w' = putRow (Value.int .i64) (Sort.ahead w q) blk off (Lib.compact zs ++ List.replicate (zs.length - (Lib.compact zs).length) 0).toArray := AnyG.slices_Compact_int Try.layF85 blk off cap zs w hH hsz hcap
open Go.RowKit Go.Sort in
theorem Try.F_Compact_empty (a : Option Addr) (cap : Nat) (w : World) :
  Calls Try.prog 85 #[.slice a 0 cap] w fun e w' => e = .returned (.slice a 0 cap) ∧ w' = w := AnyG.slices_Compact_int_empty Try.layF85 a cap w
end Go.Proofs
