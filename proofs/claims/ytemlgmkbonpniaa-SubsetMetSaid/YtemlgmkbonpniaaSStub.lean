/- subset.Build, in the form in which the printed callers name it. -/
import Derived.Test.YtemlgmkbonpniaaSBuild
import Derived.Test.YtemlgmkbonpniaaRBuild
namespace Go.Proofs.Ytemlgmkbonpniaa.Print
open Go.RowKit Go.Maps Go.Proofs.YtemlgmkbonpniaaW.PrintWords Go.Proofs.YtemlgmkbonpniaaW.PrintLast Go.Proofs.YtemlgmkbonpniaaW.PrintMore
set_option linter.unusedVariables false
set_option linter.unusedSimpArgs false
instance (N : Nat) (l : List Int) : Decidable (Good N l) := by unfold Good; infer_instance
instance (r : Bt) : Decidable (Auto r) :=
  decidable_of_iff (r.2.2.2.2.2 = 0 ∧ r.2.2.2.2.1.length = r.2.1.length ∧ r.2.1.length ≤ 300 ∧ Good r.2.1.length r.2.2.1 ∧ Good r.2.1.length r.2.2.2.1 ∧ (∀ l ∈ r.2.2.2.2.1, Good r.2.1.length l) ∧ (∀ s ∈ r.2.1, 0 ≤ s ∧ s ≤ 63))
    ⟨fun ⟨a, b, c, d, e, f, g⟩ => ⟨a, b, c, d, e, f, g⟩, fun h => ⟨h.h0, h.len, h.m, h.first, h.last, h.fol, h.sets⟩⟩
def subset_Build.f (a0_0 : Bool) (l0_1 l0_2 l0_3 : List Int) (l0_4 : List (List Int)) (l1 : List Int) (a2 : Bool) (a3 : Int) : Option Dt := if Auto (a0_0, l0_1, l0_2, l0_3, l0_4, 0) then some (subsetR (a0_0, l0_1, l0_2, l0_3, l0_4, 0) l1 a2 a3) else none
theorem subset_Build.is {r : Bt} (h : Auto r) (l1 : List Int) (a2 : Bool) (a3 : Int) : subset_Build.f r.1 r.2.1 r.2.2.1 r.2.2.2.1 r.2.2.2.2.1 l1 a2 a3 = some (subsetR r l1 a2 a3) := by
  obtain ⟨a, b, c, d, e, f⟩ := r
  obtain rfl : f = 0 := h.h0
  unfold subset_Build.f
  rw [if_pos h]
theorem subset_Build.calls (a0_0 : Bool) (A0_1 : Option Addr) (c0_1 : Nat) (l0_1 : List Int) (A0_2 : Option Addr) (c0_2 : Nat) (l0_2 : List Int) (A0_3 : Option Addr) (c0_3 : Nat) (l0_3 : List Int) (A0_4 : Option Addr) (c0_4 : Nat) (l0_4 : List (List Int)) (A1 : Option Addr) (c1 : Nat) (l1 : List Int) (a2 : Bool) (a3 : Int) (r1 : List (List Int)) (r2 : List Bool) (r3 : Int) (w : World) (hr0_1 : Kd.C (Kd.int .i64) w A0_1 l0_1.length l0_1) (hc0_1 : l0_1.length ≤ c0_1) (hr0_2 : Kd.C (Kd.int .i64) w A0_2 l0_2.length l0_2) (hc0_2 : l0_2.length ≤ c0_2) (hr0_3 : Kd.C (Kd.int .i64) w A0_3 l0_3.length l0_3) (hc0_3 : l0_3.length ≤ c0_3) (hr0_4 : Kd.C (Kd.slice 3 (Kd.int .i64)) w A0_4 l0_4.length l0_4) (hc0_4 : l0_4.length ≤ c0_4) (hr1 : Kd.C (Kd.int .u64) w A1 l1.length l1) (hc1 : l1.length ≤ c1) (h : subset_Build.f a0_0 l0_1 l0_2 l0_3 l0_4 l1 a2 a3 = some (r1, r2, r3)) :
    Calls Try.prog 32 #[.agg #[.bool a0_0, .slice A0_1 l0_1.length c0_1, .slice A0_2 l0_2.length c0_2, .slice A0_3 l0_3.length c0_3, .slice A0_4 l0_4.length c0_4], .slice A1 l1.length c1, .bool a2, .int .i64 a3] w fun e w' => ∃ v0_ v1_ : Value, e = .returned (.tuple #[.agg #[v0_, v1_], .int .i64 r3]) ∧ Kd.R (Kd.slice 3 (Kd.int .i64)) 27 w' w.heap.size (fun _ => True) v0_ r1 ∧ Kd.R Kd.bool 4 w' w.heap.size (fun _ => True) v1_ r2 ∧ Below w.heap.size w w' := by
  unfold subset_Build.f at h
  split at h
  next hok =>
    have h1 := sbuild_calls (a0_0, l0_1, l0_2, l0_3, l0_4, 0) hok A0_1 A0_2 A0_3 A0_4 A1 c0_1 c0_2 c0_3 c0_4 c1 l1 a2 a3 w hr0_1 hc0_1 hr0_2 hc0_2 hr0_3 hc0_3 hr0_4 hc0_4 hr1
    rw [Option.some.inj h] at h1
    exact h1
  next => cases h
/-- States in a variable. -/
structure DfaC (b0 B : Nat) (N : List (List Int)) (F : List Bool) (v1 v2 : Value) (W : World) : Prop where
  blk : W.heap[B]? = some (.cells #[v1, v2] 47 (0, 0))
  r1 : Kd.R (Kd.slice 3 (Kd.int .i64)) 27 W b0 (fun _ => True) v1 N
  r2 : Kd.R Kd.bool 4 W b0 (fun _ => True) v2 F
theorem DfaC.later {b0 B : Nat} {N : List (List Int)} {F : List Bool} {v1 v2 : Value} {W W' : World} (h : DfaC b0 B N F v1 v2 W) (hb : Below W.heap.size W W') : DfaC b0 B N F v1 v2 W' :=
  ⟨blk_below h.blk hb, Kd.R_below h.r1 hb, Kd.R_below h.r2 hb⟩
theorem DfaC.cells {b0 B : Nat} {N : List (List Int)} {F : List Bool} {v1 v2 : Value} {W : World} (h : DfaC b0 B N F v1 v2 W) : W.cell? ⟨B, 0, none⟩ = some v1 ∧ W.cell? ⟨B, 1, none⟩ = some v2 :=
  ⟨(blk_cell h.blk 0).trans rfl, (blk_cell h.blk 1).trans rfl⟩
end Go.Proofs.Ytemlgmkbonpniaa.Print
