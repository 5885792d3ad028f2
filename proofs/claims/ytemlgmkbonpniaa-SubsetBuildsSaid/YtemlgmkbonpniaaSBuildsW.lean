/- The walk of scansionlaw12.SubsetBuilds. -/
import Derived.Test.YtemlgmkbonpniaaSLawBM
import Derived.Test.YtemlgmkbonpniaaSLawMM
import Derived.Test.YtemlgmkbonpniaaSStubM
namespace Go.Proofs.Ytemlgmkbonpniaa.Print
open Go.RowKit Go.Maps Go.Proofs.YtemlgmkbonpniaaW.PrintWords Go.Proofs.YtemlgmkbonpniaaW.PrintLast Go.Proofs.YtemlgmkbonpniaaW.PrintMore
set_option linter.unusedVariables false
set_option linter.unusedSimpArgs false
/-- States in a variable, as the printed reference answers them. -/
structure DfaN (b0 B : Nat) (N : List (List Int)) (F : List Bool) (v1 v2 : Value) (W : World) : Prop where
 blk : W.heap[B]? = some (.cells #[v1, v2] 47 (0, 0))
 r1 : ∃ ok, Kd.N (Kd.slice 3 (Kd.int .i64)) 27 W b0 ok v1 N
 r2 : Kd.R Kd.bool 4 W b0 (fun _ => True) v2 F
theorem DfaN.later {b0 B : Nat} {N : List (List Int)} {F : List Bool} {v1 v2 : Value} {W W' : World} (h : DfaN b0 B N F v1 v2 W) (hb : Below W.heap.size W W') : DfaN b0 B N F v1 v2 W' := by
 obtain ⟨ok, h1⟩ := h.r1
 exact ⟨blk_below h.blk hb, ⟨ok, Kd.N_below h1 hb⟩, Kd.R_below h.r2 hb⟩
theorem DfaN.cells {b0 B : Nat} {N : List (List Int)} {F : List Bool} {v1 v2 : Value} {W : World} (h : DfaN b0 B N F v1 v2 W) : W.cell? ⟨B, 0, none⟩ = some v1 ∧ W.cell? ⟨B, 1, none⟩ = some v2 :=
 ⟨(blk_cell h.blk 0).trans rfl, (blk_cell h.blk 1).trans rfl⟩
theorem DfaN.reads {b0 B : Nat} {N : List (List Int)} {F : List Bool} {A : Option Addr} {c : Nat} {v2 : Value} {W : World} (h : DfaN b0 B N F (.slice A N.length c) v2 W) : N.length ≤ c ∧ Kd.C (Kd.slice 3 (Kd.int .i64)) W A N.length N := by
 obtain ⟨ok, h1⟩ := h.r1
 exact ⟨(Kd.N_reads' h1).2.1, (Kd.N_reads' h1).2.2⟩
set_option maxHeartbeats 16000000 in
set_option maxRecDepth 100000 in
theorem subsetBuilds_calls (x : S24) (W : World) (A : Option Addr) (c : Nat) (Aw : Option Addr) (cw : Nat) (masks : List Int) (x0 x1 : Int) (hC : Kd.C k24 W A x.f2.length x.f2) (hc : x.f2.length ≤ c) (hCw : Kd.C (Kd.int .u64) W Aw masks.length masks) (hcw : masks.length ≤ cw) (hU : ∀ s ∈ masks, U64 s) :
  Calls Try.prog 8 #[.agg #[.int .i64 x.f0, .int .i64 x.f1, .slice A x.f2.length c], .slice Aw masks.length cw, .agg #[.int .i64 x0, .int .i64 x1]] W fun e w' => e = .returned (.bool true) ∧ Below W.heap.size W w' := by
 have HC := Aside0.mk hC
 have HCC := Aside0.mk hc
 have HCW := Aside0.mk hCw
 have HCWL := Aside0.mk hcw
 have HU := Aside0.mk hU
 obtain ⟨b, ⟨K1, hK1⟩, hb⟩ := few_is x (lens_of x hC) masks
 have HND := Aside0.mk (hK1 K1 (Nat.le_refl _))
 have HBT := Aside0.mk hb
 clear hC hc hCw hcw hU hK1 hb
 go_enter Try.func8, Try.ntmps8
 go_upto_region 1 with fail
 have HB1 := Aside0.mk (below_alloc (below_alloc (Below.refl W.heap.size W) (.cells #[.int .i64 x.f0, .int .i64 x.f1, .slice A x.f2.length c] 24)) (.cells #[.int .i64 x0, .int .i64 x1] 44))
 have HNB1 := Aside0.mk (blk_below (blk_new W (.cells #[.int .i64 x.f0, .int .i64 x.f1, .slice A x.f2.length c] 24)) (below_alloc (Below.refl (W.alloc (.cells #[.int .i64 x.f0, .int .i64 x.f1, .slice A x.f2.length c] 24)).heap.size (W.alloc (.cells #[.int .i64 x.f0, .int .i64 x.f1, .slice A x.f2.length c] 24))) (.cells #[.int .i64 x0, .int .i64 x1] 44)))
 have HXB1 := Aside0.mk (blk_new (W.alloc (.cells #[.int .i64 x.f0, .int .i64 x.f1, .slice A x.f2.length c] 24)) (.cells #[.int .i64 x0, .int .i64 x1] 44))
 obtain ⟨NB, hNB⟩ : ∃ n, W.heap.size = n := ⟨_, rfl⟩
 have hsz : (W.alloc (.cells #[.int .i64 x.f0, .int .i64 x.f1, .slice A x.f2.length c] 24)).heap.size = W.heap.size + 1 := Array.size_push _
 rw [hsz] at HXB1
 obtain ⟨XB, hXB⟩ : ∃ n, W.heap.size + 1 = n := ⟨_, rfl⟩
 obtain ⟨W1, hW1⟩ : ∃ w, (W.alloc (.cells #[.int .i64 x.f0, .int .i64 x.f1, .slice A x.f2.length c] 24)).alloc (.cells #[.int .i64 x0, .int .i64 x1] 44) = w := ⟨_, rfl⟩
 rw [hNB] at HNB1
 rw [hXB] at HXB1
 rw [hW1] at HB1 HNB1 HXB1
 rw [hW1]
 rw [hXB]
 rw [hNB]
 clear hNB hXB hW1 hsz
 go_upto_region 2 with (go_at_call 30; refine (sawake_calls W1).mono ?_; rintro e W2 ⟨rfl, hb⟩; have HB2 := Aside0.mk (HB1.out.trans (hb.mono HB1.out.size)); have HNB2 := Aside0.mk (blk_below HNB1.out hb); have HXB2 := Aside0.mk (blk_below HXB1.out hb); clear hb)
 clear HB1 HNB1 HXB1
 have n0 := (blk_cell HNB2.out 0).trans rfl
 have n1 := (blk_cell HNB2.out 1).trans rfl
 have n2 := (blk_cell HNB2.out 2).trans rfl
 go_upto_region 3 with (go_at_call 31; refine (scansionlaw12_few.calls K1 x.f0 x.f1 A c x.f2 Aw cw masks b W2 (Kd.C_below HC.out HB2.out) HCC.out (Kd.C_below HCW.out HB2.out) HCWL.out HND.out).mono ?_; rintro e W3 ⟨rfl, hb⟩; have HB3 := Aside0.mk (HB2.out.trans (hb.mono HB2.out.size)); have HNB3 := Aside0.mk (blk_below HNB2.out hb); have HXB3 := Aside0.mk (blk_below HXB2.out hb); clear hb n0 n1 n2)
 clear HB2 HNB2 HXB2
 cases b with
 | false =>
  go_wp2_with fail
  go_ret
  exact ⟨rfl, HB3.out⟩
 | true =>
  have HFEW := Aside0.mk (HBT.out rfl)
  have m0 := (blk_cell HXB3.out 0).trans rfl
  have m1 := (blk_cell HXB3.out 1).trans rfl
  by_cases q0 : x1 > 100 ∧ x1 ≤ 5000
  ·have f1 : decide (x1 > 100) = true := decide_eq_true q0.1
   have f2 : decide (100 < x1) = true := decide_eq_true q0.1
   have f3 : decide (x1 ≤ 5000) = true := decide_eq_true q0.2
   have f4 : 100 < x1 := q0.1
   have f5 : x1 ≤ 5000 := q0.2
   clear q0
   go_wp2_with fail
   go_ret
   exact ⟨rfl, HB3.out⟩
  by_cases q1 : x1 > 100
  case pos =>
   have f1 : decide (x1 > 100) = true := decide_eq_true q1
   have f2 : decide (100 < x1) = true := decide_eq_true q1
   have f3 : decide (x1 ≤ 5000) = false := decide_eq_false (by omega)
   have f4 : 100 < x1 := q1
   have f5 : ¬ x1 ≤ 5000 := by omega
   clear q0 q1
   go_upto_region 5 with fail
   clear f1 f2 f3 f4 f5 m0 m1
   obtain ⟨r, hr⟩ : ∃ r, r = buildR x := ⟨_, rfl⟩
   have HRX := Aside0.mk hr
   have HRB := Aside0.mk (show scansionref11_Build.f x.f0 x.f1 x.f2 = some (r.1, r.2.1, r.2.2.1, r.2.2.2.1, r.2.2.2.2.1, r.2.2.2.2.2) by unfold scansionref11_Build.f; rw [s24_eta, ← hr])
   clear hr
   have n0 := (blk_cell HNB3.out 0).trans rfl
   have n1 := (blk_cell HNB3.out 1).trans rfl
   have n2 := (blk_cell HNB3.out 2).trans rfl
   go_upto_region 6 with (go_at_call 19; refine (scansionref11_Build.calls x.f0 x.f1 A c x.f2 r.1 r.2.1 r.2.2.1 r.2.2.2.1 r.2.2.2.2.1 r.2.2.2.2.2 W3 (Kd.C_below HC.out HB3.out) HCC.out HRB.out).mono ?_; rintro e W4 ⟨u1, u2, u3, u4, rfl, ho1, ho2, ho3, ho4, hb⟩; have HB4 := Aside0.mk (HB3.out.trans (hb.mono HB3.out.size)); have HNB4 := Aside0.mk (blk_below HNB3.out hb); have HXB3' := Aside0.mk (blk_below HXB3.out hb); obtain ⟨A1, c1, rfl⟩ := Kd.R_slice ho1; obtain ⟨A2, c2, rfl⟩ := Kd.R_slice ho2; obtain ⟨A3, c3, rfl⟩ := Kd.R_slice ho3; obtain ⟨A4, c4, rfl⟩ := Kd.R_slice ho4; have HO1 := Aside0.mk (Kd.R_lower ho1 HB3.out.size); have HO2 := Aside0.mk (Kd.R_lower ho2 HB3.out.size); have HO3 := Aside0.mk (Kd.R_lower ho3 HB3.out.size); have HO4 := Aside0.mk (Kd.R_lower ho4 HB3.out.size); clear ho1 ho2 ho3 ho4 hb n0 n1 n2)
   clear HB3 HNB3 HXB3
   have hbn := below_alloc (Below.refl W4.heap.size W4) (.cells #[.bool r.1, .slice A1 r.2.1.length c1, .slice A2 r.2.2.1.length c2, .slice A3 r.2.2.2.1.length c3, .slice A4 r.2.2.2.2.1.length c4] 30)
   have HAB1 := Aside0.mk (show AutoC W.heap.size W4.heap.size r (.slice A1 r.2.1.length c1) (.slice A2 r.2.2.1.length c2) (.slice A3 r.2.2.2.1.length c3) (.slice A4 r.2.2.2.2.1.length c4) (W4.alloc (.cells #[.bool r.1, .slice A1 r.2.1.length c1, .slice A2 r.2.2.1.length c2, .slice A3 r.2.2.2.1.length c3, .slice A4 r.2.2.2.2.1.length c4] 30)) from ⟨blk_new _ _, Kd.R_below HO1.out hbn, Kd.R_below HO2.out hbn, Kd.R_below HO3.out hbn, Kd.R_below HO4.out hbn⟩)
   have HBn := Aside0.mk (HB4.out.trans (hbn.mono HB4.out.size))
   have HNBn := Aside0.mk (blk_below HNB4.out hbn)
   have HXB3 := Aside0.mk (blk_below HXB3'.out hbn)
   clear HXB3'
   clear hbn HO1 HO2 HO3 HO4 HB4 HNB4
   obtain ⟨B1, hB1⟩ : ∃ n, W4.heap.size = n := ⟨_, rfl⟩
   obtain ⟨W5, hW5⟩ : ∃ w, W4.alloc (.cells #[.bool r.1, .slice A1 r.2.1.length c1, .slice A2 r.2.2.1.length c2, .slice A3 r.2.2.2.1.length c3, .slice A4 r.2.2.2.2.1.length c4] 30) = w := ⟨_, rfl⟩
   rw [hB1, hW5] at HAB1
   rw [hW5] at HBn HNBn HXB3
   rw [hW5]
   rw [hB1]
   clear hB1 hW5
   have HB4 := Aside0.mk HBn.out
   have HNB4 := Aside0.mk HNBn.out
   clear HBn HNBn
   have HXB4 := Aside0.mk HXB3.out
   clear HXB3
   by_cases qe : r.2.2.2.2.2 = 0
   case neg =>
    have f1 : (r.2.2.2.2.2 != 0) = true := bne_iff_ne.2 qe
    clear qe
    go_wp2_with fail
    go_ret
    exact ⟨rfl, HB4.out⟩
   case pos =>
    have HAU := Aside0.mk (show Auto r by rw [HRX.out]; exact (build_auto x (by rw [← HRX.out]; exact qe)).1)
    have f1 : (r.2.2.2.2.2 != 0) = false := bne_eq_false_iff_eq.2 qe
    clear qe
    obtain ⟨fr, hfr⟩ : ∃ fr, fr = (Go.bits .and .i64 x0 1 == 1) := ⟨_, rfl⟩
    have HFR := Aside0.mk hfr
    clear hfr
    obtain ⟨⟨N, F, e0⟩, hd⟩ : ∃ d : Dt, d = subsetR r masks fr x1 := ⟨_, rfl⟩
    have HSF := Aside0.mk (show subset_Build.f r.1 r.2.1 r.2.2.1 r.2.2.2.1 r.2.2.2.2.1 masks fr x1 = some (N, F, e0) by rw [subset_Build.is HAU.out, ← hd])
    obtain ⟨KR, hKR⟩ := refbuild_f HAU.out masks HU.out fr x1
    rw [← hd] at hKR
    have HRF := Aside0.mk (hKR KR (Nat.le_refl _))
    have HSZ := Aside0.mk (subsetR_small masks fr x1 hd.symm)
    obtain ⟨KS, hKS⟩ := same12_f N F HSZ.out.1 HSZ.out.2.1 HSZ.out.2.2
    have HSM := Aside0.mk (hKS KS (Nat.le_refl _))
    clear hKR hKS hd
    have z0 := HAB1.out.cells.1
    have z1 := HAB1.out.cells.2.1
    have z2 := HAB1.out.cells.2.2.1
    have z3 := HAB1.out.cells.2.2.2.1
    have z4 := HAB1.out.cells.2.2.2.2
    have m0 := (blk_cell HXB4.out 0).trans rfl
    have m1 := (blk_cell HXB4.out 1).trans rfl
    go_upto_region 9 with (go_at_call 32; rw [← HFR.out]; refine (subset_Build.calls r.1 A1 c1 r.2.1 A2 c2 r.2.2.1 A3 c3 r.2.2.2.1 A4 c4 r.2.2.2.2.1 Aw cw masks fr x1 N F e0 W5 (Kd.R_reads' HAB1.out.r1).2.2 (Kd.R_reads' HAB1.out.r1).2.1 (Kd.R_reads' HAB1.out.r2).2.2 (Kd.R_reads' HAB1.out.r2).2.1 (Kd.R_reads' HAB1.out.r3).2.2 (Kd.R_reads' HAB1.out.r3).2.1 (Kd.R_reads' HAB1.out.r4).2.2 (Kd.R_reads' HAB1.out.r4).2.1 (Kd.C_below HCW.out HB4.out) HCWL.out HSF.out).mono ?_; rintro e W6 ⟨u1, u2, rfl, ho1, ho2, hb⟩; have HB6 := Aside0.mk (HB4.out.trans (hb.mono HB4.out.size)); have HAB1' := Aside0.mk (HAB1.out.later hb); have HXB4' := Aside0.mk (blk_below HXB4.out hb); obtain ⟨D1, d1, rfl⟩ := Kd.R_slice (ho1); obtain ⟨D2, d2, rfl⟩ := Kd.R_slice (ho2); have HO1 := Aside0.mk (Kd.R_lower (ho1) HB4.out.size); have HO2 := Aside0.mk (Kd.R_lower (ho2) HB4.out.size); clear ho1 ho2 hb z0 z1 z2 z3 z4 m0 m1)
    clear HB4 HAB1 HXB4
    have hbn := below_alloc (Below.refl W6.heap.size W6) (.cells #[.slice D1 N.length d1, .slice D2 F.length d2] 47)
    have HB2 := Aside0.mk (show DfaC W.heap.size W6.heap.size N F (.slice D1 N.length d1) (.slice D2 F.length d2) (W6.alloc (.cells #[.slice D1 N.length d1, .slice D2 F.length d2] 47)) from ⟨blk_new _ _, Kd.R_below HO1.out hbn, Kd.R_below HO2.out hbn⟩)
    have HBn := Aside0.mk (HB6.out.trans (hbn.mono HB6.out.size))
    have HAB1 := Aside0.mk (HAB1'.out.later hbn)
    clear HAB1'
    have HXB4 := Aside0.mk (blk_below HXB4'.out hbn)
    clear HXB4'
    clear hbn HO1 HO2 HB6
    obtain ⟨B2, hB2⟩ : ∃ n, W6.heap.size = n := ⟨_, rfl⟩
    obtain ⟨W7, hW7⟩ : ∃ w, W6.alloc (.cells #[.slice D1 N.length d1, .slice D2 F.length d2] 47) = w := ⟨_, rfl⟩
    rw [hB2, hW7] at HB2
    rw [hW7] at HBn HAB1 HXB4
    rw [hW7]
    rw [hB2]
    clear hB2 hW7
    have HB6 := Aside0.mk HBn.out
    clear HBn
    have z0 := HAB1.out.cells.1
    have z1 := HAB1.out.cells.2.1
    have z2 := HAB1.out.cells.2.2.1
    have z3 := HAB1.out.cells.2.2.2.1
    have z4 := HAB1.out.cells.2.2.2.2
    have m0 := (blk_cell HXB4.out 0).trans rfl
    have m1 := (blk_cell HXB4.out 1).trans rfl
    go_upto_region 10 with (go_at_call 33; rw [← HFR.out]; refine (scansionref12_Build.calls KR r.1 A1 c1 r.2.1 A2 c2 r.2.2.1 A3 c3 r.2.2.2.1 A4 c4 r.2.2.2.2.1 Aw cw masks fr x1 N F e0 W7 (Kd.R_reads' HAB1.out.r1).2.2 (Kd.R_reads' HAB1.out.r1).2.1 (Kd.R_reads' HAB1.out.r2).2.2 (Kd.R_reads' HAB1.out.r2).2.1 (Kd.R_reads' HAB1.out.r3).2.2 (Kd.R_reads' HAB1.out.r3).2.1 (Kd.R_reads' HAB1.out.r4).2.2 (Kd.R_reads' HAB1.out.r4).2.1 (Kd.C_below HCW.out HB6.out) HCWL.out HRF.out).mono ?_; rintro e W8 ⟨u1, u2, rfl, hn, ho2, hb⟩; have HB8 := Aside0.mk (HB6.out.trans (hb.mono HB6.out.size)); have HAB1' := Aside0.mk (HAB1.out.later hb); have HB2' := Aside0.mk (HB2.out.later hb); obtain ⟨D3, d3, rfl, _, _⟩ := Kd.N_reads hn; obtain ⟨D4, d4, rfl⟩ := Kd.R_slice ho2; have HO1 := Aside0.mk (Kd.N_lower hn HB6.out.size); have HO2 := Aside0.mk (Kd.R_lower (Kd.R_mono ho2 (fun _ _ => trivial)) HB6.out.size); clear ho2 hb z0 z1 z2 z3 z4 m0 m1 hn)
    clear HB6 HAB1 HB2
    have hbn := below_alloc (Below.refl W8.heap.size W8) (.cells #[.slice D3 N.length d3, .slice D4 F.length d4] 47)
    have HB3 := Aside0.mk (show DfaN W.heap.size W8.heap.size N F (.slice D3 N.length d3) (.slice D4 F.length d4) (W8.alloc (.cells #[.slice D3 N.length d3, .slice D4 F.length d4] 47)) from ⟨blk_new _ _, ⟨_, Kd.N_below HO1.out hbn⟩, Kd.R_below HO2.out hbn⟩)
    have HBn := Aside0.mk (HB8.out.trans (hbn.mono HB8.out.size))
    have HAB1 := Aside0.mk (HAB1'.out.later hbn)
    clear HAB1'
    have HB2 := Aside0.mk (HB2'.out.later hbn)
    clear HB2'
    clear hbn HO1 HO2 HB8
    obtain ⟨B3, hB3⟩ : ∃ n, W8.heap.size = n := ⟨_, rfl⟩
    obtain ⟨W9, hW9⟩ : ∃ w, W8.alloc (.cells #[.slice D3 N.length d3, .slice D4 F.length d4] 47) = w := ⟨_, rfl⟩
    rw [hB3, hW9] at HB3
    rw [hW9] at HBn HAB1 HB2
    rw [hW9]
    rw [hB3]
    clear hB3 hW9
    have HB8 := Aside0.mk HBn.out
    clear HBn
    have y0 := HB2.out.cells.1
    have y1 := HB2.out.cells.2
    have z0 := HB3.out.cells.1
    have z1 := HB3.out.cells.2
    go_wp2_with (go_at_call 34; refine (scansionref12_Same.calls KS D1 d1 N D2 d2 F D3 d3 N D4 d4 F true W9 (Kd.R_reads' HB2.out.r1).2.2 (Kd.R_reads' HB2.out.r1).2.1 (Kd.R_reads' HB2.out.r2).2.2 (Kd.R_reads' HB2.out.r2).2.1 HB3.out.reads.2 HB3.out.reads.1 (Kd.R_reads' HB3.out.r2).2.2 (Kd.R_reads' HB3.out.r2).2.1 HSM.out).mono ?_; rintro e W10 ⟨rfl, hb⟩; have HB10 := Aside0.mk (HB8.out.trans (hb.mono HB8.out.size)); clear hb)
    go_ret
    exact ⟨by simp, HB10.out⟩
  case neg =>
   have f1 : decide (x1 > 100) = false := decide_eq_false q1
   have f2 : decide (100 < x1) = false := decide_eq_false q1
   have f4 : ¬ 100 < x1 := q1
   clear q0 q1
   go_upto_region 5 with fail
   clear f1 f2 f4 m0 m1
   obtain ⟨r, hr⟩ : ∃ r, r = buildR x := ⟨_, rfl⟩
   have HRX := Aside0.mk hr
   have HRB := Aside0.mk (show scansionref11_Build.f x.f0 x.f1 x.f2 = some (r.1, r.2.1, r.2.2.1, r.2.2.2.1, r.2.2.2.2.1, r.2.2.2.2.2) by unfold scansionref11_Build.f; rw [s24_eta, ← hr])
   clear hr
   have n0 := (blk_cell HNB3.out 0).trans rfl
   have n1 := (blk_cell HNB3.out 1).trans rfl
   have n2 := (blk_cell HNB3.out 2).trans rfl
   go_upto_region 6 with (go_at_call 19; refine (scansionref11_Build.calls x.f0 x.f1 A c x.f2 r.1 r.2.1 r.2.2.1 r.2.2.2.1 r.2.2.2.2.1 r.2.2.2.2.2 W3 (Kd.C_below HC.out HB3.out) HCC.out HRB.out).mono ?_; rintro e W4 ⟨u1, u2, u3, u4, rfl, ho1, ho2, ho3, ho4, hb⟩; have HB4 := Aside0.mk (HB3.out.trans (hb.mono HB3.out.size)); have HNB4 := Aside0.mk (blk_below HNB3.out hb); have HXB3' := Aside0.mk (blk_below HXB3.out hb); obtain ⟨A1, c1, rfl⟩ := Kd.R_slice ho1; obtain ⟨A2, c2, rfl⟩ := Kd.R_slice ho2; obtain ⟨A3, c3, rfl⟩ := Kd.R_slice ho3; obtain ⟨A4, c4, rfl⟩ := Kd.R_slice ho4; have HO1 := Aside0.mk (Kd.R_lower ho1 HB3.out.size); have HO2 := Aside0.mk (Kd.R_lower ho2 HB3.out.size); have HO3 := Aside0.mk (Kd.R_lower ho3 HB3.out.size); have HO4 := Aside0.mk (Kd.R_lower ho4 HB3.out.size); clear ho1 ho2 ho3 ho4 hb n0 n1 n2)
   clear HB3 HNB3 HXB3
   have hbn := below_alloc (Below.refl W4.heap.size W4) (.cells #[.bool r.1, .slice A1 r.2.1.length c1, .slice A2 r.2.2.1.length c2, .slice A3 r.2.2.2.1.length c3, .slice A4 r.2.2.2.2.1.length c4] 30)
   have HAB1 := Aside0.mk (show AutoC W.heap.size W4.heap.size r (.slice A1 r.2.1.length c1) (.slice A2 r.2.2.1.length c2) (.slice A3 r.2.2.2.1.length c3) (.slice A4 r.2.2.2.2.1.length c4) (W4.alloc (.cells #[.bool r.1, .slice A1 r.2.1.length c1, .slice A2 r.2.2.1.length c2, .slice A3 r.2.2.2.1.length c3, .slice A4 r.2.2.2.2.1.length c4] 30)) from ⟨blk_new _ _, Kd.R_below HO1.out hbn, Kd.R_below HO2.out hbn, Kd.R_below HO3.out hbn, Kd.R_below HO4.out hbn⟩)
   have HBn := Aside0.mk (HB4.out.trans (hbn.mono HB4.out.size))
   have HNBn := Aside0.mk (blk_below HNB4.out hbn)
   have HXB3 := Aside0.mk (blk_below HXB3'.out hbn)
   clear HXB3'
   clear hbn HO1 HO2 HO3 HO4 HB4 HNB4
   obtain ⟨B1, hB1⟩ : ∃ n, W4.heap.size = n := ⟨_, rfl⟩
   obtain ⟨W5, hW5⟩ : ∃ w, W4.alloc (.cells #[.bool r.1, .slice A1 r.2.1.length c1, .slice A2 r.2.2.1.length c2, .slice A3 r.2.2.2.1.length c3, .slice A4 r.2.2.2.2.1.length c4] 30) = w := ⟨_, rfl⟩
   rw [hB1, hW5] at HAB1
   rw [hW5] at HBn HNBn HXB3
   rw [hW5]
   rw [hB1]
   clear hB1 hW5
   have HB4 := Aside0.mk HBn.out
   have HNB4 := Aside0.mk HNBn.out
   clear HBn HNBn
   have HXB4 := Aside0.mk HXB3.out
   clear HXB3
   by_cases qe : r.2.2.2.2.2 = 0
   case neg =>
    have f1 : (r.2.2.2.2.2 != 0) = true := bne_iff_ne.2 qe
    clear qe
    go_wp2_with fail
    go_ret
    exact ⟨rfl, HB4.out⟩
   case pos =>
    have HAU := Aside0.mk (show Auto r by rw [HRX.out]; exact (build_auto x (by rw [← HRX.out]; exact qe)).1)
    have f1 : (r.2.2.2.2.2 != 0) = false := bne_eq_false_iff_eq.2 qe
    clear qe
    obtain ⟨fr, hfr⟩ : ∃ fr, fr = (Go.bits .and .i64 x0 1 == 1) := ⟨_, rfl⟩
    have HFR := Aside0.mk hfr
    clear hfr
    obtain ⟨⟨N, F, e0⟩, hd⟩ : ∃ d : Dt, d = subsetR r masks fr x1 := ⟨_, rfl⟩
    have HSF := Aside0.mk (show subset_Build.f r.1 r.2.1 r.2.2.1 r.2.2.2.1 r.2.2.2.2.1 masks fr x1 = some (N, F, e0) by rw [subset_Build.is HAU.out, ← hd])
    obtain ⟨KR, hKR⟩ := refbuild_f HAU.out masks HU.out fr x1
    rw [← hd] at hKR
    have HRF := Aside0.mk (hKR KR (Nat.le_refl _))
    have HSZ := Aside0.mk (subsetR_small masks fr x1 hd.symm)
    obtain ⟨KS, hKS⟩ := same12_f N F HSZ.out.1 HSZ.out.2.1 HSZ.out.2.2
    have HSM := Aside0.mk (hKS KS (Nat.le_refl _))
    clear hKR hKS hd
    have z0 := HAB1.out.cells.1
    have z1 := HAB1.out.cells.2.1
    have z2 := HAB1.out.cells.2.2.1
    have z3 := HAB1.out.cells.2.2.2.1
    have z4 := HAB1.out.cells.2.2.2.2
    have m0 := (blk_cell HXB4.out 0).trans rfl
    have m1 := (blk_cell HXB4.out 1).trans rfl
    go_upto_region 9 with (go_at_call 32; rw [← HFR.out]; refine (subset_Build.calls r.1 A1 c1 r.2.1 A2 c2 r.2.2.1 A3 c3 r.2.2.2.1 A4 c4 r.2.2.2.2.1 Aw cw masks fr x1 N F e0 W5 (Kd.R_reads' HAB1.out.r1).2.2 (Kd.R_reads' HAB1.out.r1).2.1 (Kd.R_reads' HAB1.out.r2).2.2 (Kd.R_reads' HAB1.out.r2).2.1 (Kd.R_reads' HAB1.out.r3).2.2 (Kd.R_reads' HAB1.out.r3).2.1 (Kd.R_reads' HAB1.out.r4).2.2 (Kd.R_reads' HAB1.out.r4).2.1 (Kd.C_below HCW.out HB4.out) HCWL.out HSF.out).mono ?_; rintro e W6 ⟨u1, u2, rfl, ho1, ho2, hb⟩; have HB6 := Aside0.mk (HB4.out.trans (hb.mono HB4.out.size)); have HAB1' := Aside0.mk (HAB1.out.later hb); have HXB4' := Aside0.mk (blk_below HXB4.out hb); obtain ⟨D1, d1, rfl⟩ := Kd.R_slice (ho1); obtain ⟨D2, d2, rfl⟩ := Kd.R_slice (ho2); have HO1 := Aside0.mk (Kd.R_lower (ho1) HB4.out.size); have HO2 := Aside0.mk (Kd.R_lower (ho2) HB4.out.size); clear ho1 ho2 hb z0 z1 z2 z3 z4 m0 m1)
    clear HB4 HAB1 HXB4
    have hbn := below_alloc (Below.refl W6.heap.size W6) (.cells #[.slice D1 N.length d1, .slice D2 F.length d2] 47)
    have HB2 := Aside0.mk (show DfaC W.heap.size W6.heap.size N F (.slice D1 N.length d1) (.slice D2 F.length d2) (W6.alloc (.cells #[.slice D1 N.length d1, .slice D2 F.length d2] 47)) from ⟨blk_new _ _, Kd.R_below HO1.out hbn, Kd.R_below HO2.out hbn⟩)
    have HBn := Aside0.mk (HB6.out.trans (hbn.mono HB6.out.size))
    have HAB1 := Aside0.mk (HAB1'.out.later hbn)
    clear HAB1'
    have HXB4 := Aside0.mk (blk_below HXB4'.out hbn)
    clear HXB4'
    clear hbn HO1 HO2 HB6
    obtain ⟨B2, hB2⟩ : ∃ n, W6.heap.size = n := ⟨_, rfl⟩
    obtain ⟨W7, hW7⟩ : ∃ w, W6.alloc (.cells #[.slice D1 N.length d1, .slice D2 F.length d2] 47) = w := ⟨_, rfl⟩
    rw [hB2, hW7] at HB2
    rw [hW7] at HBn HAB1 HXB4
    rw [hW7]
    rw [hB2]
    clear hB2 hW7
    have HB6 := Aside0.mk HBn.out
    clear HBn
    have z0 := HAB1.out.cells.1
    have z1 := HAB1.out.cells.2.1
    have z2 := HAB1.out.cells.2.2.1
    have z3 := HAB1.out.cells.2.2.2.1
    have z4 := HAB1.out.cells.2.2.2.2
    have m0 := (blk_cell HXB4.out 0).trans rfl
    have m1 := (blk_cell HXB4.out 1).trans rfl
    go_upto_region 10 with (go_at_call 33; rw [← HFR.out]; refine (scansionref12_Build.calls KR r.1 A1 c1 r.2.1 A2 c2 r.2.2.1 A3 c3 r.2.2.2.1 A4 c4 r.2.2.2.2.1 Aw cw masks fr x1 N F e0 W7 (Kd.R_reads' HAB1.out.r1).2.2 (Kd.R_reads' HAB1.out.r1).2.1 (Kd.R_reads' HAB1.out.r2).2.2 (Kd.R_reads' HAB1.out.r2).2.1 (Kd.R_reads' HAB1.out.r3).2.2 (Kd.R_reads' HAB1.out.r3).2.1 (Kd.R_reads' HAB1.out.r4).2.2 (Kd.R_reads' HAB1.out.r4).2.1 (Kd.C_below HCW.out HB6.out) HCWL.out HRF.out).mono ?_; rintro e W8 ⟨u1, u2, rfl, hn, ho2, hb⟩; have HB8 := Aside0.mk (HB6.out.trans (hb.mono HB6.out.size)); have HAB1' := Aside0.mk (HAB1.out.later hb); have HB2' := Aside0.mk (HB2.out.later hb); obtain ⟨D3, d3, rfl, _, _⟩ := Kd.N_reads hn; obtain ⟨D4, d4, rfl⟩ := Kd.R_slice ho2; have HO1 := Aside0.mk (Kd.N_lower hn HB6.out.size); have HO2 := Aside0.mk (Kd.R_lower (Kd.R_mono ho2 (fun _ _ => trivial)) HB6.out.size); clear ho2 hb z0 z1 z2 z3 z4 m0 m1 hn)
    clear HB6 HAB1 HB2
    have hbn := below_alloc (Below.refl W8.heap.size W8) (.cells #[.slice D3 N.length d3, .slice D4 F.length d4] 47)
    have HB3 := Aside0.mk (show DfaN W.heap.size W8.heap.size N F (.slice D3 N.length d3) (.slice D4 F.length d4) (W8.alloc (.cells #[.slice D3 N.length d3, .slice D4 F.length d4] 47)) from ⟨blk_new _ _, ⟨_, Kd.N_below HO1.out hbn⟩, Kd.R_below HO2.out hbn⟩)
    have HBn := Aside0.mk (HB8.out.trans (hbn.mono HB8.out.size))
    have HAB1 := Aside0.mk (HAB1'.out.later hbn)
    clear HAB1'
    have HB2 := Aside0.mk (HB2'.out.later hbn)
    clear HB2'
    clear hbn HO1 HO2 HB8
    obtain ⟨B3, hB3⟩ : ∃ n, W8.heap.size = n := ⟨_, rfl⟩
    obtain ⟨W9, hW9⟩ : ∃ w, W8.alloc (.cells #[.slice D3 N.length d3, .slice D4 F.length d4] 47) = w := ⟨_, rfl⟩
    rw [hB3, hW9] at HB3
    rw [hW9] at HBn HAB1 HB2
    rw [hW9]
    rw [hB3]
    clear hB3 hW9
    have HB8 := Aside0.mk HBn.out
    clear HBn
    have y0 := HB2.out.cells.1
    have y1 := HB2.out.cells.2
    have z0 := HB3.out.cells.1
    have z1 := HB3.out.cells.2
    go_wp2_with (go_at_call 34; refine (scansionref12_Same.calls KS D1 d1 N D2 d2 F D3 d3 N D4 d4 F true W9 (Kd.R_reads' HB2.out.r1).2.2 (Kd.R_reads' HB2.out.r1).2.1 (Kd.R_reads' HB2.out.r2).2.2 (Kd.R_reads' HB2.out.r2).2.1 HB3.out.reads.2 HB3.out.reads.1 (Kd.R_reads' HB3.out.r2).2.2 (Kd.R_reads' HB3.out.r2).2.1 HSM.out).mono ?_; rintro e W10 ⟨rfl, hb⟩; have HB10 := Aside0.mk (HB8.out.trans (hb.mono HB8.out.size)); clear hb)
    go_ret
    exact ⟨by simp, HB10.out⟩
end Go.Proofs.Ytemlgmkbonpniaa.Print
