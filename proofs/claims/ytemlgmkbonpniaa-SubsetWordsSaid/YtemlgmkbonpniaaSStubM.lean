/- subset.Build, in the form in which the printed callers name it. · The walk of scansionlaw12.awake. -/
import Derived.Test.YtemlgmkbonpniaaSBuild
import Derived.Test.YtemlgmkbonpniaaRBuild
import Derived.Test.YtemlgmkbonpniaaSRight
namespace Go.Proofs.Ytemlgmkbonpniaa.Print
open Go.RowKit Go.Maps Go.Proofs.YtemlgmkbonpniaaW.PrintWords Go.Proofs.YtemlgmkbonpniaaW.PrintLast Go.Proofs.YtemlgmkbonpniaaW.PrintMore
set_option linter.unusedVariables false
set_option linter.unusedSimpArgs false
instance (N : Nat) (l : List Int) : Decidable (Good N l) := by unfold Good; infer_instance
instance (r : Bt) : Decidable (Auto r) :=
 decidable_of_iff (r.2.2.2.2.2 = 0 ∧ r.2.2.2.2.1.length = r.2.1.length ∧ r.2.1.length ≤ 300 ∧ Good r.2.1.length r.2.2.1 ∧ Good r.2.1.length r.2.2.2.1 ∧ (∀ l ∈ r.2.2.2.2.1, Good r.2.1.length l) ∧ (∀ s ∈ r.2.1, 0 ≤ s ∧ s ≤ 63))
  ⟨fun ⟨a, b, c, d, e, f, g⟩ => ⟨a, b, c, d, e, f, g⟩, fun h => ⟨h.h0, h.len, h.m, h.first, h.last, h.fol, h.sets⟩⟩
def subset_Build.f (a0_0 : Bool) (l0_1 l0_2 l0_3 : List Int) (l0_4 : List (List Int)) (l1 : List Int) (a2 : Bool) (a3 : Int) : Option Dt := if Auto (a0_0, l0_1, l0_2, l0_3, l0_4, 0) then some (subsetR (a0_0, l0_1, l0_2, l0_3, l0_4, 0) l1 a2 a3) else none
theorem subset_Build.is {r : Bt} (h : Auto r) (l1 : List Int) (a2 : Bool) (a3 : Int) : subset_Build.f r.1 r.2.1 r.2.2.1 r.2.2.2.1 r.2.2.2.2.1 l1 a2 a3 = some (subsetR r l1 a2 a3) := by
 obtain ⟨a, b, c, d, e, f⟩ := r
 obtain rfl : f = 0 := h.h0
 unfold subset_Build.f
 rw [if_pos h]
theorem subset_Build.calls (a0_0 : Bool) (A0_1 : Option Addr) (c0_1 : Nat) (l0_1 : List Int) (A0_2 : Option Addr) (c0_2 : Nat) (l0_2 : List Int) (A0_3 : Option Addr) (c0_3 : Nat) (l0_3 : List Int) (A0_4 : Option Addr) (c0_4 : Nat) (l0_4 : List (List Int)) (A1 : Option Addr) (c1 : Nat) (l1 : List Int) (a2 : Bool) (a3 : Int) (r1 : List (List Int)) (r2 : List Bool) (r3 : Int) (w : World) (hr0_1 : Kd.C (Kd.int .i64) w A0_1 l0_1.length l0_1) (hc0_1 : l0_1.length ≤ c0_1) (hr0_2 : Kd.C (Kd.int .i64) w A0_2 l0_2.length l0_2) (hc0_2 : l0_2.length ≤ c0_2) (hr0_3 : Kd.C (Kd.int .i64) w A0_3 l0_3.length l0_3) (hc0_3 : l0_3.length ≤ c0_3) (hr0_4 : Kd.C (Kd.slice 3 (Kd.int .i64)) w A0_4 l0_4.length l0_4) (hc0_4 : l0_4.length ≤ c0_4) (hr1 : Kd.C (Kd.int .u64) w A1 l1.length l1) (hc1 : l1.length ≤ c1) (h : subset_Build.f a0_0 l0_1 l0_2 l0_3 l0_4 l1 a2 a3 = some (r1, r2, r3)) :
  Calls Try.prog 32 #[.agg #[.bool a0_0, .slice A0_1 l0_1.length c0_1, .slice A0_2 l0_2.length c0_2, .slice A0_3 l0_3.length c0_3, .slice A0_4 l0_4.length c0_4], .slice A1 l1.length c1, .bool a2, .int .i64 a3] w fun e w' => ∃ v0_ v1_ : Value, e = .returned (.tuple #[.agg #[v0_, v1_], .int .i64 r3]) ∧ Kd.R (Kd.slice 3 (Kd.int .i64)) 27 w' w.heap.size (fun _ => True) v0_ r1 ∧ Kd.R Kd.bool 4 w' w.heap.size (fun _ => True) v1_ r2 ∧ Below w.heap.size w w' := by
 unfold subset_Build.f at h
 split at h
 next hok =>
  have h1 := sbuild_calls (a0_0, l0_1, l0_2, l0_3, l0_4, 0) hok A0_1 A0_2 A0_3 A0_4 A1 c0_1 c0_2 c0_3 c0_4 c1 l1 a2 a3 w hr0_1 hc0_1 hr0_2 hc0_2 hr0_3 hc0_3 hr0_4 hc0_4 hr1
  rw [Option.some.inj h] at h1
  exact h1
 next => cases h
/-- States in a variable. -/
structure DfaC (b0 B : Nat) (N : List (List Int)) (F : List Bool) (v1 v2 : Value) (W : World) : Prop where
 blk : W.heap[B]? = some (.cells #[v1, v2] 47 (0, 0))
 r1 : Kd.R (Kd.slice 3 (Kd.int .i64)) 27 W b0 (fun _ => True) v1 N
 r2 : Kd.R Kd.bool 4 W b0 (fun _ => True) v2 F
theorem DfaC.later {b0 B : Nat} {N : List (List Int)} {F : List Bool} {v1 v2 : Value} {W W' : World} (h : DfaC b0 B N F v1 v2 W) (hb : Below W.heap.size W W') : DfaC b0 B N F v1 v2 W' :=
 ⟨blk_below h.blk hb, Kd.R_below h.r1 hb, Kd.R_below h.r2 hb⟩
theorem DfaC.cells {b0 B : Nat} {N : List (List Int)} {F : List Bool} {v1 v2 : Value} {W : World} (h : DfaC b0 B N F v1 v2 W) : W.cell? ⟨B, 0, none⟩ = some v1 ∧ W.cell? ⟨B, 1, none⟩ = some v2 :=
 ⟨(blk_cell h.blk 0).trans rfl, (blk_cell h.blk 1).trans rfl⟩
end Go.Proofs.Ytemlgmkbonpniaa.Print

namespace Go.Proofs.Ytemlgmkbonpniaa.Print
open Go.RowKit Go.Maps Go.Proofs.YtemlgmkbonpniaaW.PrintWords Go.Proofs.YtemlgmkbonpniaaW.PrintLast Go.Proofs.YtemlgmkbonpniaaW.PrintMore
set_option linter.unusedVariables false
set_option linter.unusedSimpArgs false
def starA : Bt := (true, [0, 1], [1], [2], [[2], [1]], 0)
theorem with_nil {xs : List Int} (h : xs.Pairwise (· < ·)) : withR xs [] = xs := by rw [withR_is h]; rfl
theorem star_step (a : List Int) (m : Int) (xs ys : List Int) (h1 : allR [1] [[2], [1]] a = xs) (h2 : xs.Pairwise (· < ·)) (h3 : (xs.filter fun i => !oddN [0, 1] m i) = ys) : xOf starA false a m = ys := by
  unfold xOf starA stepR
  rw [if_neg (by decide), h1, with_nil h2, h3]
theorem star_sub : subsetR starA [1, 2] false 10 = ([[1, 2], [2, 3], [2, 2], [1, 2]], [true, false, false, true], 0) := by
  have x01 : xOf starA false [0] 1 = [1] := star_step _ _ [1] _ rfl (by decide) (by decide)
  have x02 : xOf starA false [0] 2 = [] := star_step _ _ [1] _ rfl (by decide) (by decide)
  have x11 : xOf starA false [1] 1 = [] := star_step _ _ [2] _ rfl (by decide) (by decide)
  have x12 : xOf starA false [1] 2 = [2] := star_step _ _ [2] _ rfl (by decide) (by decide)
  have x21 : xOf starA false [] 1 = [] := star_step _ _ [] _ rfl (by decide) (by decide)
  have x22 : xOf starA false [] 2 = [] := star_step _ _ [] _ rfl (by decide) (by decide)
  have x31 : xOf starA false [2] 1 = [1] := star_step _ _ [1] _ rfl (by decide) (by decide)
  have x32 : xOf starA false [2] 2 = [] := star_step _ _ [1] _ rfl (by decide) (by decide)
  have m1 : metR [[0]] [1] = (1, [[0], [1]]) := by decide
  have m2 : metR [[0], [1]] [] = (2, [[0], [1], []]) := by decide
  have m3 : metR [[0], [1], []] [] = (2, [[0], [1], []]) := by decide
  have m4 : metR [[0], [1], []] [2] = (3, [[0], [1], [], [2]]) := by decide
  have m5 : metR [[0], [1], [], [2]] [] = (2, [[0], [1], [], [2]]) := by decide
  have m6 : metR [[0], [1], [], [2]] [1] = (1, [[0], [1], [], [2]]) := by decide
  have r0 : rowGo starA false 10 [0] [1, 2] [[0]] [] = some ([[0], [1], []], [1, 2]) := by
    rw [rowGo, x01, m1, if_neg (by decide), rowGo, x02, m2, if_neg (by decide), rowGo]; rfl
  have r1 : rowGo starA false 10 [1] [1, 2] [[0], [1], []] [] = some ([[0], [1], [], [2]], [2, 3]) := by
    rw [rowGo, x11, m3, if_neg (by decide), rowGo, x12, m4, if_neg (by decide), rowGo]; rfl
  have r2 : rowGo starA false 10 [] [1, 2] [[0], [1], [], [2]] [] = some ([[0], [1], [], [2]], [2, 2]) := by
    rw [rowGo, x21, m5, if_neg (by decide), rowGo, x22, m5, if_neg (by decide), rowGo]; rfl
  have r3 : rowGo starA false 10 [2] [1, 2] [[0], [1], [], [2]] [] = some ([[0], [1], [], [2]], [1, 2]) := by
    rw [rowGo, x31, m6, if_neg (by decide), rowGo, x32, m5, if_neg (by decide), rowGo]; rfl
  unfold subsetR
  rw [if_neg (by decide)]
  show goD starA false 10 [1, 2] 11 0 [[0]] [] [] = _
  rw [goD, if_pos (by decide), show stR [[0]] 0 = [0] from rfl, r0]
  show goD starA false 10 [1, 2] 10 1 [[0], [1], []] [[1, 2]] [true] = _
  rw [goD, if_pos (by decide), show stR [[0], [1], []] 1 = [1] from rfl, r1]
  show goD starA false 10 [1, 2] 9 2 [[0], [1], [], [2]] [[1, 2], [2, 3]] [true, false] = _
  rw [goD, if_pos (by decide), show stR [[0], [1], [], [2]] 2 = [] from rfl, r2]
  show goD starA false 10 [1, 2] 8 3 [[0], [1], [], [2]] [[1, 2], [2, 3], [2, 2]] [true, false, false] = _
  rw [goD, if_pos (by decide), show stR [[0], [1], [], [2]] 3 = [2] from rfl, r3]
  show goD starA false 10 [1, 2] 7 4 [[0], [1], [], [2]] [[1, 2], [2, 3], [2, 2], [1, 2]] [true, false, false, true] = _
  rw [goD, if_neg (by decide)]
theorem star_auto : Auto starA := by
  have h := (build_auto ⟨3, 0, [⟨0, 0, [⟨1, 0, []⟩, ⟨1, 1, []⟩]⟩]⟩ (by rw [build_star])).1
  rw [build_star] at h
  exact h
theorem masks_lit (W : World) : Kd.C (Kd.int .u64) (W.alloc (.cells #[.int .u64 1, .int .u64 2] 43)) (some ⟨W.heap.size, 0, none⟩) 2 [1, 2] := by
  have h := blk_new W (.cells #[.int .u64 1, .int .u64 2] 43)
  refine ⟨rfl, by simp, fun _ => ⟨⟨W.heap.size, 0, none⟩, rfl, fun j p hp => ?_⟩⟩
  match j, hp with
  | 0, hp =>
    obtain rfl := Option.some.inj hp
    refine ⟨[.int .u64 1], rfl, rfl, fun i u hu => ?_⟩
    match i, hu with
    | 0, hu => cases hu; exact (blk_cell h 0).trans rfl
  | 1, hp =>
    obtain rfl := Option.some.inj hp
    refine ⟨[.int .u64 2], rfl, rfl, fun i u hu => ?_⟩
    match i, hu with
    | 0, hu => cases hu; exact (blk_cell h 1).trans rfl
theorem star_right : rightD [[1, 2], [2, 3], [2, 2], [1, 2]] [true, false, false, true] = true := by decide
set_option maxHeartbeats 16000000 in
set_option maxRecDepth 100000 in
theorem sawake_calls (W : World) : Calls Try.prog 30 #[] W fun e w' => e = .returned (.bool true) ∧ Below W.heap.size W w' := by
  have HF := Aside0.mk (show scansionref11_Build.f 3 0 [⟨0, 0, [(⟨1, 0, []⟩ : S24), ⟨1, 1, []⟩]⟩] = some (true, [0, 1], [1], [2], [[2], [1]], 0) by unfold scansionref11_Build.f; rw [build_star])
  have b1 := below_alloc (Below.refl W.heap.size W) (.cells #[.int .i64 1, .int .i64 0, nilV, .int .i64 1, .int .i64 1, nilV] 24)
  have b2 := below_alloc (Below.refl _ (W.alloc (.cells #[.int .i64 1, .int .i64 0, nilV, .int .i64 1, .int .i64 1, nilV] 24))) (.cells #[.int .i64 0, .int .i64 0, .slice (some ⟨W.heap.size, 0, none⟩) 2 2] 24)
  have s1 : (W.alloc (.cells #[.int .i64 1, .int .i64 0, nilV, .int .i64 1, .int .i64 1, nilV] 24)).heap.size = W.heap.size + 1 := Array.size_push _
  have HB0 := Aside0.mk (b1.trans (b2.mono (by rw [s1]; omega)))
  have HC0 := Aside0.mk (one_node (X := none) (l := [(⟨1, 0, []⟩ : S24), ⟨1, 1, []⟩]) (c := 2) (blk_new (W.alloc (.cells #[.int .i64 1, .int .i64 0, nilV, .int .i64 1, .int .i64 1, nilV] 24)) (.cells #[.int .i64 0, .int .i64 0, .slice (some ⟨W.heap.size, 0, none⟩) 2 2] 24)) (Nat.le_refl _) (two_nodes (blk_below (blk_new W (.cells #[.int .i64 1, .int .i64 0, nilV, .int .i64 1, .int .i64 1, nilV] 24)) b2)))
  rw [s1] at HC0
  clear b1 b2 s1
  go_enter Try.func30, Try.ntmps30
  go_upto_region 2 with (go_at_call 19; refine (scansionref11_Build.calls 3 0 (some ⟨W.heap.size + 1, 0, none⟩) 1 [⟨0, 0, [(⟨1, 0, []⟩ : S24), ⟨1, 1, []⟩]⟩] _ _ _ _ _ _ _ HC0.out (Nat.le_refl _) HF.out).mono ?_; rintro e W1 ⟨u1, u2, u3, u4, rfl, ho1, ho2, ho3, ho4, hb⟩; have HB1 := Aside0.mk (HB0.out.trans (hb.mono HB0.out.size)); obtain ⟨A1, c1, rfl⟩ := Kd.R_slice ho1; obtain ⟨A2, c2, rfl⟩ := Kd.R_slice ho2; obtain ⟨A3, c3, rfl⟩ := Kd.R_slice ho3; obtain ⟨A4, c4, rfl⟩ := Kd.R_slice ho4; have HO1 := Aside0.mk ho1; have HO2 := Aside0.mk ho2; have HO3 := Aside0.mk ho3; have HO4 := Aside0.mk ho4; clear ho1 ho2 ho3 ho4 hb)
  clear HB0 HC0 HF
  have hbn := below_alloc (Below.refl W1.heap.size W1) (.cells #[.bool true, .slice A1 2 c1, .slice A2 1 c2, .slice A3 1 c3, .slice A4 2 c4] 30)
  have HBL := Aside0.mk (blk_new W1 (.cells #[.bool true, .slice A1 2 c1, .slice A2 1 c2, .slice A3 1 c3, .slice A4 2 c4] 30))
  have HB2 := Aside0.mk (HB1.out.trans (hbn.mono HB1.out.size))
  have HP1 := Aside0.mk (Kd.R_below HO1.out hbn)
  have HP2 := Aside0.mk (Kd.R_below HO2.out hbn)
  have HP3 := Aside0.mk (Kd.R_below HO3.out hbn)
  have HP4 := Aside0.mk (Kd.R_below HO4.out hbn)
  clear hbn HO1 HO2 HO3 HO4 HB1
  obtain ⟨B, hB⟩ : ∃ n, W1.heap.size = n := ⟨_, rfl⟩
  obtain ⟨W2, hW2⟩ : ∃ w, W1.alloc (.cells #[.bool true, .slice A1 2 c1, .slice A2 1 c2, .slice A3 1 c3, .slice A4 2 c4] 30) = w := ⟨_, rfl⟩
  rw [hB] at HBL
  rw [hW2] at HBL HB2 HP1 HP2 HP3 HP4
  first | rw [hW2] | skip
  rw [hB]
  clear hB hW2
  have z0 : W2.cell? ⟨B, 0, none⟩ = some (.bool true) := (blk_cell HBL.out 0).trans rfl
  have z1 : W2.cell? ⟨B, 1, none⟩ = some (.slice A1 2 c1) := (blk_cell HBL.out 1).trans rfl
  have z2 : W2.cell? ⟨B, 2, none⟩ = some (.slice A2 1 c2) := (blk_cell HBL.out 2).trans rfl
  have z3 : W2.cell? ⟨B, 3, none⟩ = some (.slice A3 1 c3) := (blk_cell HBL.out 3).trans rfl
  have z4 : W2.cell? ⟨B, 4, none⟩ = some (.slice A4 2 c4) := (blk_cell HBL.out 4).trans rfl
  have hbm := below_alloc (Below.refl W2.heap.size W2) (.cells #[.int .u64 1, .int .u64 2] 43)
  have HB3 := Aside0.mk (HB2.out.trans (hbm.mono HB2.out.size))
  have HCB := Aside0.mk (show Calls Try.prog 32 #[.agg #[.bool true, .slice A1 2 c1, .slice A2 1 c2, .slice A3 1 c3, .slice A4 2 c4], .slice (some ⟨W2.heap.size, 0, none⟩) 2 2, .bool false, .int .i64 10] (W2.alloc (.cells #[.int .u64 1, .int .u64 2] 43)) (SPost (W2.alloc (.cells #[.int .u64 1, .int .u64 2] 43)) ([[1, 2], [2, 3], [2, 2], [1, 2]], [true, false, false, true], 0)) by
    have h := sbuild_calls starA star_auto A1 A2 A3 A4 (some ⟨W2.heap.size, 0, none⟩) c1 c2 c3 c4 2 [1, 2] false 10 (W2.alloc (.cells #[.int .u64 1, .int .u64 2] 43)) (Kd.C_below (Kd.R_reads' HP1.out).2.2 hbm) (Kd.R_reads' HP1.out).2.1 (Kd.C_below (Kd.R_reads' HP2.out).2.2 hbm) (Kd.R_reads' HP2.out).2.1 (Kd.C_below (Kd.R_reads' HP3.out).2.2 hbm) (Kd.R_reads' HP3.out).2.1 (Kd.C_below (Kd.R_reads' HP4.out).2.2 hbm) (Kd.R_reads' HP4.out).2.1 (masks_lit W2)
    rw [star_sub] at h
    exact h)
  clear hbm HP1 HP2 HP3 HP4 HBL
  go_upto_region 3 with (go_at_call 32; refine HCB.out.mono ?_; rintro e W3 ⟨u1, u2, rfl, ho1, ho2, hb⟩; have HB4 := Aside0.mk (HB3.out.trans (hb.mono HB3.out.size)); obtain ⟨D1, e1, rfl⟩ := Kd.R_slice ho1; obtain ⟨D2, e2, rfl⟩ := Kd.R_slice ho2; have HO1 := Aside0.mk ho1; have HO2 := Aside0.mk ho2; clear ho1 ho2 hb z0 z1 z2 z3 z4)
  clear HB2 HB3 HCB
  have hbn := below_alloc (Below.refl W3.heap.size W3) (.cells #[.slice D1 4 e1, .slice D2 4 e2] 47)
  have HBL := Aside0.mk (blk_new W3 (.cells #[.slice D1 4 e1, .slice D2 4 e2] 47))
  have HB5 := Aside0.mk (HB4.out.trans (hbn.mono HB4.out.size))
  have HP1 := Aside0.mk (Kd.R_below HO1.out hbn)
  have HP2 := Aside0.mk (Kd.R_below HO2.out hbn)
  clear hbn HO1 HO2 HB4
  obtain ⟨D, hD⟩ : ∃ n, W3.heap.size = n := ⟨_, rfl⟩
  obtain ⟨W4, hW4⟩ : ∃ w, W3.alloc (.cells #[.slice D1 4 e1, .slice D2 4 e2] 47) = w := ⟨_, rfl⟩
  rw [hD] at HBL
  rw [hW4] at HBL HB5 HP1 HP2
  first | rw [hW4] | skip
  rw [hD]
  clear hD hW4
  have z0 : W4.cell? ⟨D, 0, none⟩ = some (.slice D1 4 e1) := (blk_cell HBL.out 0).trans rfl
  obtain ⟨ad, e5, h0⟩ := Kd.at_bool (Kd.R_reads' HP2.out).2.2 0 (by decide) (by decide)
  obtain ⟨ad2, e6, h1⟩ := Kd.at_bool (Kd.R_reads' HP2.out).2.2 1 (by decide) (by decide)
  obtain ⟨ad3, e7, h3⟩ := Kd.at_bool (Kd.R_reads' HP2.out).2.2 3 (by decide) (by decide)
  cases e5
  cases e6
  cases e7
  have z1 : W4.cell? ⟨D, 1, none⟩ = some (.slice (some ad) 4 e2) := (blk_cell HBL.out 1).trans rfl
  replace h0 : W4.cell? (ad.add 0) = some (.bool true) := h0
  replace h1 : W4.cell? (ad.add 1) = some (.bool false) := h1
  replace h3 : W4.cell? (ad.add 3) = some (.bool true) := h3
  have h0' : W4.cell? ad = some (.bool true) := h0
  have h1' : W4.cell? ⟨ad.block, ad.off + 1, none⟩ = some (.bool false) := h1
  have h3' : W4.cell? ⟨ad.block, ad.off + 3, none⟩ = some (.bool true) := h3
  have HCR := Aside0.mk (show Calls Try.prog 35 #[.agg #[.slice D1 4 e1, .slice (some ad) 4 e2]] W4 fun e w' => e = .returned (.bool true) ∧ Below W4.heap.size W4 w' by
    have h := sright_calls D1 e1 [[1, 2], [2, 3], [2, 2], [1, 2]] (some ad) e2 [true, false, false, true] W4 (Kd.R_reads' HP1.out).2.2 (by decide)
    rw [star_right] at h
    exact h)
  clear HBL HP1 HP2
  go_wp2_with (go_at_call 35; refine HCR.out.mono ?_; rintro e W5 ⟨rfl, hb⟩; have HB6 := Aside0.mk (HB5.out.trans (hb.mono HB5.out.size)); clear hb)
  go_ret
  exact ⟨rfl, HB6.out⟩
def scansionlaw12_awake.f : Option Bool := some true
theorem scansionlaw12_awake.calls (r : Bool) (w : World) (h : scansionlaw12_awake.f = some r) :
    Calls Try.prog 30 #[] w fun e w' => e = .returned (.bool r) ∧ Below w.heap.size w w' := by
  rw [← Option.some.inj h]
  exact sawake_calls w
end Go.Proofs.Ytemlgmkbonpniaa.Print
