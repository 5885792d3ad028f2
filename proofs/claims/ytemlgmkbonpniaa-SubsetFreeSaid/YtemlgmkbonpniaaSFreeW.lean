/- The walk of scansionlaw12.SubsetFree. -/
import Derived.Test.YtemlgmkbonpniaaSLawF
import Derived.Test.YtemlgmkbonpniaaSStubM
import Derived.Test.YtemlgmkbonpniaaPrint58
namespace Go.Proofs.Ytemlgmkbonpniaa.Print
open Go.RowKit Go.Maps Go.Proofs.YtemlgmkbonpniaaW.PrintWords Go.Proofs.YtemlgmkbonpniaaW.PrintLast Go.Proofs.YtemlgmkbonpniaaW.PrintMore
set_option linter.unusedVariables false
set_option linter.unusedSimpArgs false
def sfr_T16 : Bool × List (List Nat × List Nat) := (true, [([], []), ([], []), ([], []), ([1, 2], [1, 2]), ([], []), ([3, 4, 3], [3, 4]), ([0, 5, 5], [0, 5]), ([6], [6]), ([7], [7]), ([7], [7]), ([8, 6, 0, 1, 2, 3, 4, 5, 6, 7, 8], [8]), ([9, 10, 0, 1, 2, 3, 4, 5, 6, 7, 8, 9, 10], [9])])
def sfr_B16 : List Nat := [0, 0, 0, 6, 0, 30, 63, 127, 255, 255, 511, 2047]
theorem sfr_tab16 : rtab .any (opsOf Try.f13 16) = sfr_T16 := by kernel_rfl
theorem sfr_bits16 : waitsOk sfr_T16.2 sfr_B16 = true := by kernel_rfl
/-- The signs 0 to 3. -/
structure MskC (b0 MB : Nat) (W : World) : Prop where
  r : Kd.R (Kd.int .u64) 43 W b0 (fun _ => True) (.slice (some ⟨MB, 0, none⟩) 4 4) [0, 1, 2, 3]
theorem MskC.later {b0 MB : Nat} {W W' : World} (h : MskC b0 MB W) (hb : Below W.heap.size W W') : MskC b0 MB W' := ⟨Kd.R_below h.r hb⟩
theorem MskC.reads {b0 MB : Nat} {W : World} (h : MskC b0 MB W) : Kd.C (Kd.int .u64) W (some ⟨MB, 0, none⟩) [(0 : Int), 1, 2, 3].length [0, 1, 2, 3] := (Kd.R_reads' h.r).2.2
theorem inside_f (l : List Int) (n : Int) (hl : l.length ≤ 9223372036854775807) : ∃ b, Evs (fun k => scansionlaw12_inside.f k l n) b ∧ (b = true → l.length ≤ 20 ∧ ∀ c ∈ l, 0 ≤ c ∧ c < n) := by
  have key : ∀ (t i : Nat), i + t = l.length → ∃ b, Evs (fun k => scansionlaw12_inside.l0 k l n (i : Int)) b ∧ (b = true → l.length ≤ 20 ∧ ∀ c ∈ l.drop i, 0 ≤ c ∧ c < n) := by
    intro t
    induction t with
    | zero =>
      intro i hi
      refine ⟨decide ((l.length : Int) ≤ 20), ⟨1, fun k hk => ?_⟩, fun h => ⟨by have := of_decide_eq_true h; omega, fun c hc => by rw [List.drop_eq_nil_of_le (by omega)] at hc; cases hc⟩⟩
      obtain ⟨k, rfl⟩ : ∃ j, k = j + 1 := ⟨k - 1, by omega⟩
      show scansionlaw12_inside.l0 (k + 1) _ _ _ = _
      rw [scansionlaw12_inside.l0, if_neg (by omega)]
    | succ t ih =>
      intro i hi
      by_cases q1 : rd l (i : Int) < 0
      · refine ⟨false, ⟨1, fun k hk => ?_⟩, fun h => by cases h⟩
        obtain ⟨k, rfl⟩ : ∃ j, k = j + 1 := ⟨k - 1, by omega⟩
        show scansionlaw12_inside.l0 (k + 1) _ _ _ = _
        rw [scansionlaw12_inside.l0, if_pos (by omega), if_pos (by omega), if_pos q1]
      by_cases q2 : rd l (i : Int) ≥ n
      · refine ⟨false, ⟨1, fun k hk => ?_⟩, fun h => by cases h⟩
        obtain ⟨k, rfl⟩ : ∃ j, k = j + 1 := ⟨k - 1, by omega⟩
        show scansionlaw12_inside.l0 (k + 1) _ _ _ = _
        rw [scansionlaw12_inside.l0, if_pos (by omega), if_pos (by omega), if_neg q1, if_pos q2]
      obtain ⟨b, ⟨K, hK⟩, hb⟩ := ih (i + 1) (by omega)
      refine ⟨b, ⟨K + 1, fun k hk => ?_⟩, fun h => ⟨(hb h).1, fun c hc => ?_⟩⟩
      · obtain ⟨k, rfl⟩ : ∃ j, k = j + 1 := ⟨k - 1, by omega⟩
        show scansionlaw12_inside.l0 (k + 1) _ _ _ = _
        have hk1 : scansionlaw12_inside.l0 k _ _ _ = _ := hK k (by omega)
        rw [scansionlaw12_inside.l0, if_pos (by omega), if_pos (by omega), if_neg q1, if_neg q2, show wrap64 ((i : Int) + 1) = ((i + 1 : Nat) : Int) by unfold wrap64; omega, hk1]
      · rw [drop_rd (by omega)] at hc
        rcases List.mem_cons.1 hc with rfl | hc
        · omega
        · exact (hb h).2 c hc
  obtain ⟨b, h1, h2⟩ := key l.length 0 (by omega)
  exact ⟨b, h1, h2⟩
set_option maxHeartbeats 16000000 in
set_option maxRecDepth 100000 in
theorem subsetFree_calls (x : S24) (W : World) (A : Option Addr) (c : Nat) (Aa : Option Addr) (ca : Nat) (ahead : List Int) (Ac : Option Addr) (cc : Nat) (cl : List Int) (hC : Kd.C k24 W A x.f2.length x.f2) (hc : x.f2.length ≤ c) (hCa : Kd.C (Kd.int .i64) W Aa ahead.length ahead) (hca : ahead.length ≤ ca) (hla : ahead.length ≤ 9223372036854775807) (hCc : Kd.C (Kd.int .i64) W Ac cl.length cl) (hcc : cl.length ≤ cc) (hlc : cl.length ≤ 9223372036854775807) :
    Calls Try.prog 13 #[.agg #[.int .i64 x.f0, .int .i64 x.f1, .slice A x.f2.length c], .slice Aa ahead.length ca, .slice Ac cl.length cc] W fun e w' => e = .returned (.bool true) ∧ Below W.heap.size W w' := by
  have HC := Aside0.mk hC
  have HCC := Aside0.mk hc
  have HCA := Aside0.mk hCa
  have HCAL := Aside0.mk hca
  have HCL := Aside0.mk hCc
  have HCLL := Aside0.mk hcc
  obtain ⟨b, ⟨K1, hK1⟩, hb⟩ := few_is x (lens_of x hC) [0, 1, 2, 3]
  have HND := Aside0.mk (hK1 K1 (Nat.le_refl _))
  obtain ⟨b1, ⟨K2, hK2⟩, hb1⟩ := inside_f ahead 4 hla
  have HIN1 := Aside0.mk (hK2 K2 (Nat.le_refl _))
  have HI1 := Aside0.mk hb1
  obtain ⟨b2, ⟨K3, hK3⟩, hb2⟩ := inside_f cl 4 hlc
  have HIN2 := Aside0.mk (hK3 K3 (Nat.le_refl _))
  have HI2 := Aside0.mk hb2
  clear hC hc hCa hca hla hCc hcc hlc hK1 hb hK2 hb1 hK3 hb2
  go_enter Try.func13, Try.ntmps13
  go_upto_region 1 with fail
  have HB1 := Aside0.mk (below_alloc (Below.refl W.heap.size W) (.cells #[.int .i64 x.f0, .int .i64 x.f1, .slice A x.f2.length c] 24))
  have HNB1 := Aside0.mk (blk_new W (.cells #[.int .i64 x.f0, .int .i64 x.f1, .slice A x.f2.length c] 24))
  obtain ⟨NB, hNB⟩ : ∃ n, W.heap.size = n := ⟨_, rfl⟩
  obtain ⟨W1, hW1⟩ : ∃ w, W.alloc (.cells #[.int .i64 x.f0, .int .i64 x.f1, .slice A x.f2.length c] 24) = w := ⟨_, rfl⟩
  rw [hNB] at HNB1
  rw [hW1] at HB1 HNB1
  rw [hW1]
  rw [hNB]
  clear hNB hW1
  go_upto_region 2 with (go_at_call 30; refine (sawake_calls W1).mono ?_; rintro e W2 ⟨rfl, hb⟩; have HB2 := Aside0.mk (HB1.out.trans (hb.mono HB1.out.size)); have HNB2 := Aside0.mk (blk_below HNB1.out hb); clear hb)
  clear HB1 HNB1
  go_upto_region 3 with fail
  have hbn := below_alloc (Below.refl W2.heap.size W2) (.cells #[.int .u64 0, .int .u64 1, .int .u64 2, .int .u64 3] 43)
  have HBn := Aside0.mk (HB2.out.trans (hbn.mono HB2.out.size))
  have HNBn := Aside0.mk (blk_below HNB2.out hbn)
  have HMK := Aside0.mk (MskC.mk (b0 := W.heap.size) (MB := W2.heap.size) (W := W2.alloc (.cells #[.int .u64 0, .int .u64 1, .int .u64 2, .int .u64 3] 43)) (Kd.R_of_own (h1 := fun _ => rfl) (enc := Value.int .u64) (xs := [(0 : Int), 1, 2, 3]) (World.ownsRow_lit (base := W.heap.size) (e := 43) (size := 1) W2 #[.int .u64 0, .int .u64 1, .int .u64 2, .int .u64 3] 4 HB2.out.size (by decide) rfl) (fun _ _ => trivial)))
  clear hbn HB2 HNB2
  obtain ⟨MB, hMB⟩ : ∃ n, W2.heap.size = n := ⟨_, rfl⟩
  obtain ⟨W3, hW3⟩ : ∃ w, W2.alloc (.cells #[.int .u64 0, .int .u64 1, .int .u64 2, .int .u64 3] 43) = w := ⟨_, rfl⟩
  rw [hMB, hW3] at HMK
  rw [hW3] at HBn HNBn
  rw [hW3]
  rw [hMB]
  clear hMB hW3
  have n0 := (blk_cell HNBn.out 0).trans rfl
  have n1 := (blk_cell HNBn.out 1).trans rfl
  have n2 := (blk_cell HNBn.out 2).trans rfl
  go_upto_region 4 with (go_at_call 31; refine (scansionlaw12_few.calls K1 x.f0 x.f1 A c x.f2 (some ⟨MB, 0, none⟩) 4 [0, 1, 2, 3] b W3 (Kd.C_below HC.out HBn.out) HCC.out HMK.out.reads (by decide) HND.out).mono ?_; rintro e W4 ⟨rfl, hb⟩; have HB4 := Aside0.mk (HBn.out.trans (hb.mono HBn.out.size)); have HNB4 := Aside0.mk (blk_below HNBn.out hb); have HMK4 := Aside0.mk (HMK.out.later hb); clear hb n0 n1 n2)
  clear HBn HNBn HMK
  go_upto_region 5 with (go_at_call 40; refine (scansionlaw12_inside.calls K2 Aa ca ahead 4 b1 W4 (Kd.C_below HCA.out HB4.out) HCAL.out HIN1.out).mono ?_; rintro e W5 ⟨rfl, hdr⟩; have hb := hdr.below; have HB5 := Aside0.mk (HB4.out.trans (hb.mono HB4.out.size)); have HNB5 := Aside0.mk (blk_below HNB4.out hb); have HMK5 := Aside0.mk (HMK4.out.later hb); clear hb hdr)
  clear HB4 HNB4 HMK4
  go_upto_region 6 with (go_at_call 40; refine (scansionlaw12_inside.calls K3 Ac cc cl 4 b2 W5 (Kd.C_below HCL.out HB5.out) HCLL.out HIN2.out).mono ?_; rintro e W6 ⟨rfl, hdr⟩; have hb := hdr.below; have HB6 := Aside0.mk (HB5.out.trans (hb.mono HB5.out.size)); have HNB6 := Aside0.mk (blk_below HNB5.out hb); have HMK6 := Aside0.mk (HMK5.out.later hb); clear hb hdr)
  clear HB5 HNB5 HMK5
  cases b with
  | false =>
    go_wp2_with fail
    go_ret
    exact ⟨rfl, HB6.out⟩
  | true =>
  cases b1 with
  | false =>
    go_wp2_with fail
    go_ret
    exact ⟨rfl, HB6.out⟩
  | true =>
  cases b2 with
  | false =>
    go_wp2_with fail
    go_ret
    exact ⟨rfl, HB6.out⟩
  | true =>
  have HIA := Aside0.mk (HI1.out rfl)
  have HIC := Aside0.mk (HI2.out rfl)
  go_upto_region 8 with fail
  obtain ⟨r, hr⟩ : ∃ r, r = buildR x := ⟨_, rfl⟩
  have HRX := Aside0.mk hr
  have HRB := Aside0.mk (show scansionref11_Build.f x.f0 x.f1 x.f2 = some (r.1, r.2.1, r.2.2.1, r.2.2.2.1, r.2.2.2.2.1, r.2.2.2.2.2) by unfold scansionref11_Build.f; rw [s24_eta, ← hr])
  clear hr
  have n0 := (blk_cell HNB6.out 0).trans rfl
  have n1 := (blk_cell HNB6.out 1).trans rfl
  have n2 := (blk_cell HNB6.out 2).trans rfl
  go_upto_region 9 with (go_at_call 19; refine (scansionref11_Build.calls x.f0 x.f1 A c x.f2 r.1 r.2.1 r.2.2.1 r.2.2.2.1 r.2.2.2.2.1 r.2.2.2.2.2 W6 (Kd.C_below HC.out HB6.out) HCC.out HRB.out).mono ?_; rintro e W7 ⟨u1, u2, u3, u4, rfl, ho1, ho2, ho3, ho4, hb⟩; have HB7 := Aside0.mk (HB6.out.trans (hb.mono HB6.out.size)); have HNB7 := Aside0.mk (blk_below HNB6.out hb); have HMK6' := Aside0.mk (HMK6.out.later hb); obtain ⟨A1, c1, rfl⟩ := Kd.R_slice ho1; obtain ⟨A2, c2, rfl⟩ := Kd.R_slice ho2; obtain ⟨A3, c3, rfl⟩ := Kd.R_slice ho3; obtain ⟨A4, c4, rfl⟩ := Kd.R_slice ho4; have HO1 := Aside0.mk (Kd.R_lower ho1 HB6.out.size); have HO2 := Aside0.mk (Kd.R_lower ho2 HB6.out.size); have HO3 := Aside0.mk (Kd.R_lower ho3 HB6.out.size); have HO4 := Aside0.mk (Kd.R_lower ho4 HB6.out.size); clear ho1 ho2 ho3 ho4 hb n0 n1 n2)
  clear HB6 HNB6 HMK6
  have hbn := below_alloc (Below.refl W7.heap.size W7) (.cells #[.bool r.1, .slice A1 r.2.1.length c1, .slice A2 r.2.2.1.length c2, .slice A3 r.2.2.2.1.length c3, .slice A4 r.2.2.2.2.1.length c4] 30)
  have HAB1 := Aside0.mk (show AutoC W.heap.size W7.heap.size r (.slice A1 r.2.1.length c1) (.slice A2 r.2.2.1.length c2) (.slice A3 r.2.2.2.1.length c3) (.slice A4 r.2.2.2.2.1.length c4) (W7.alloc (.cells #[.bool r.1, .slice A1 r.2.1.length c1, .slice A2 r.2.2.1.length c2, .slice A3 r.2.2.2.1.length c3, .slice A4 r.2.2.2.2.1.length c4] 30)) from ⟨blk_new _ _, Kd.R_below HO1.out hbn, Kd.R_below HO2.out hbn, Kd.R_below HO3.out hbn, Kd.R_below HO4.out hbn⟩)
  have HBn := Aside0.mk (HB7.out.trans (hbn.mono HB7.out.size))
  have HNBn := Aside0.mk (blk_below HNB7.out hbn)
  have HMK6 := Aside0.mk (HMK6'.out.later hbn)
  clear HMK6'
  clear hbn HO1 HO2 HO3 HO4 HB7 HNB7
  obtain ⟨B1, hB1⟩ : ∃ n, W7.heap.size = n := ⟨_, rfl⟩
  obtain ⟨W8, hW8⟩ : ∃ w, W7.alloc (.cells #[.bool r.1, .slice A1 r.2.1.length c1, .slice A2 r.2.2.1.length c2, .slice A3 r.2.2.2.1.length c3, .slice A4 r.2.2.2.2.1.length c4] 30) = w := ⟨_, rfl⟩
  rw [hB1, hW8] at HAB1
  rw [hW8] at HBn HNBn HMK6
  rw [hW8]
  rw [hB1]
  clear hB1 hW8
  have HB7 := Aside0.mk HBn.out
  have HNB7 := Aside0.mk HNBn.out
  clear HBn HNBn
  by_cases qe : r.2.2.2.2.2 = 0
  case neg =>
    have f1 : (r.2.2.2.2.2 != 0) = true := bne_iff_ne.2 qe
    clear qe
    go_wp2_with fail
    go_ret
    exact ⟨rfl, HB7.out⟩
  case pos =>
    have HAU := Aside0.mk (show Auto r by rw [HRX.out]; exact (build_auto x (by rw [← HRX.out]; exact qe)).1)
    have f1 : (r.2.2.2.2.2 != 0) = false := bne_eq_false_iff_eq.2 qe
    clear qe
    obtain ⟨⟨N1, F1, e1⟩, hd1⟩ : ∃ d : Dt, d = subsetR r [0, 1, 2, 3] false 100 := ⟨_, rfl⟩
    obtain ⟨⟨N2, F2, e2⟩, hd2⟩ : ∃ d : Dt, d = subsetR r [0, 1, 2, 3] true 100 := ⟨_, rfl⟩
    have HSF1 := Aside0.mk (show subset_Build.f r.1 r.2.1 r.2.2.1 r.2.2.2.1 r.2.2.2.2.1 [0, 1, 2, 3] false 100 = some (N1, F1, e1) by rw [subset_Build.is HAU.out, ← hd1])
    have HSF2 := Aside0.mk (show subset_Build.f r.1 r.2.1 r.2.2.1 r.2.2.2.1 r.2.2.2.2.1 [0, 1, 2, 3] true 100 = some (N2, F2, e2) by rw [subset_Build.is HAU.out, ← hd2])
    have HD1 := Aside0.mk hd1.symm
    have HD2 := Aside0.mk hd2.symm
    clear hd1 hd2
    have z0 := HAB1.out.cells.1
    have z1 := HAB1.out.cells.2.1
    have z2 := HAB1.out.cells.2.2.1
    have z3 := HAB1.out.cells.2.2.2.1
    have z4 := HAB1.out.cells.2.2.2.2
    go_upto_region 12 with (go_at_call 32; refine (subset_Build.calls r.1 A1 c1 r.2.1 A2 c2 r.2.2.1 A3 c3 r.2.2.2.1 A4 c4 r.2.2.2.2.1 (some ⟨MB, 0, none⟩) 4 [0, 1, 2, 3] false 100 N1 F1 e1 W8 (Kd.R_reads' HAB1.out.r1).2.2 (Kd.R_reads' HAB1.out.r1).2.1 (Kd.R_reads' HAB1.out.r2).2.2 (Kd.R_reads' HAB1.out.r2).2.1 (Kd.R_reads' HAB1.out.r3).2.2 (Kd.R_reads' HAB1.out.r3).2.1 (Kd.R_reads' HAB1.out.r4).2.2 (Kd.R_reads' HAB1.out.r4).2.1 HMK6.out.reads (by decide) HSF1.out).mono ?_; rintro e W9 ⟨u1, u2, rfl, ho1, ho2, hb⟩; have HB9 := Aside0.mk (HB7.out.trans (hb.mono HB7.out.size)); have HAB1' := Aside0.mk (HAB1.out.later hb); have HMK6' := Aside0.mk (HMK6.out.later hb); obtain ⟨D1, d1, rfl⟩ := Kd.R_slice (ho1); obtain ⟨D2, d2, rfl⟩ := Kd.R_slice (ho2); have HO1 := Aside0.mk (Kd.R_lower (ho1) HB7.out.size); have HO2 := Aside0.mk (Kd.R_lower (ho2) HB7.out.size); clear ho1 ho2 hb z0 z1 z2 z3 z4)
    clear HB7 HAB1 HMK6
    have hbn := below_alloc (Below.refl W9.heap.size W9) (.cells #[.slice D1 N1.length d1, .slice D2 F1.length d2] 47)
    have HB2 := Aside0.mk (show DfaC W.heap.size W9.heap.size N1 F1 (.slice D1 N1.length d1) (.slice D2 F1.length d2) (W9.alloc (.cells #[.slice D1 N1.length d1, .slice D2 F1.length d2] 47)) from ⟨blk_new _ _, Kd.R_below HO1.out hbn, Kd.R_below HO2.out hbn⟩)
    have HBn := Aside0.mk (HB9.out.trans (hbn.mono HB9.out.size))
    have HAB1 := Aside0.mk (HAB1'.out.later hbn)
    clear HAB1'
    have HMK6 := Aside0.mk (HMK6'.out.later hbn)
    clear HMK6'
    clear hbn HO1 HO2 HB9
    obtain ⟨B2, hB2⟩ : ∃ n, W9.heap.size = n := ⟨_, rfl⟩
    obtain ⟨W10, hW10⟩ : ∃ w, W9.alloc (.cells #[.slice D1 N1.length d1, .slice D2 F1.length d2] 47) = w := ⟨_, rfl⟩
    rw [hB2, hW10] at HB2
    rw [hW10] at HBn HAB1 HMK6
    rw [hW10]
    rw [hB2]
    clear hB2 hW10
    have HB9 := Aside0.mk HBn.out
    clear HBn
    clear f1
    have z0 := HAB1.out.cells.1
    have z1 := HAB1.out.cells.2.1
    have z2 := HAB1.out.cells.2.2.1
    have z3 := HAB1.out.cells.2.2.2.1
    have z4 := HAB1.out.cells.2.2.2.2
    go_upto_region 13 with (go_at_call 32; refine (subset_Build.calls r.1 A1 c1 r.2.1 A2 c2 r.2.2.1 A3 c3 r.2.2.2.1 A4 c4 r.2.2.2.2.1 (some ⟨MB, 0, none⟩) 4 [0, 1, 2, 3] true 100 N2 F2 e2 W10 (Kd.R_reads' HAB1.out.r1).2.2 (Kd.R_reads' HAB1.out.r1).2.1 (Kd.R_reads' HAB1.out.r2).2.2 (Kd.R_reads' HAB1.out.r2).2.1 (Kd.R_reads' HAB1.out.r3).2.2 (Kd.R_reads' HAB1.out.r3).2.1 (Kd.R_reads' HAB1.out.r4).2.2 (Kd.R_reads' HAB1.out.r4).2.1 HMK6.out.reads (by decide) HSF2.out).mono ?_; rintro e W11 ⟨u1, u2, rfl, ho1, ho2, hb⟩; have HB11 := Aside0.mk (HB9.out.trans (hb.mono HB9.out.size)); have HAB1' := Aside0.mk (HAB1.out.later hb); have HMK6' := Aside0.mk (HMK6.out.later hb); have HB2' := Aside0.mk (HB2.out.later hb); obtain ⟨D3, d3, rfl⟩ := Kd.R_slice (ho1); obtain ⟨D4, d4, rfl⟩ := Kd.R_slice (ho2); have HO1 := Aside0.mk (Kd.R_lower (ho1) HB9.out.size); have HO2 := Aside0.mk (Kd.R_lower (ho2) HB9.out.size); clear ho1 ho2 hb z0 z1 z2 z3 z4)
    clear HB9 HAB1 HMK6 HB2
    have hbn := below_alloc (Below.refl W11.heap.size W11) (.cells #[.slice D3 N2.length d3, .slice D4 F2.length d4] 47)
    have HB3 := Aside0.mk (show DfaC W.heap.size W11.heap.size N2 F2 (.slice D3 N2.length d3) (.slice D4 F2.length d4) (W11.alloc (.cells #[.slice D3 N2.length d3, .slice D4 F2.length d4] 47)) from ⟨blk_new _ _, Kd.R_below HO1.out hbn, Kd.R_below HO2.out hbn⟩)
    have HBn := Aside0.mk (HB11.out.trans (hbn.mono HB11.out.size))
    have HAB1 := Aside0.mk (HAB1'.out.later hbn)
    clear HAB1'
    have HMK6 := Aside0.mk (HMK6'.out.later hbn)
    clear HMK6'
    have HB2 := Aside0.mk (HB2'.out.later hbn)
    clear HB2'
    clear hbn HO1 HO2 HB11
    obtain ⟨B3, hB3⟩ : ∃ n, W11.heap.size = n := ⟨_, rfl⟩
    obtain ⟨W12, hW12⟩ : ∃ w, W11.alloc (.cells #[.slice D3 N2.length d3, .slice D4 F2.length d4] 47) = w := ⟨_, rfl⟩
    rw [hB3, hW12] at HB3
    rw [hW12] at HBn HAB1 HMK6 HB2
    rw [hW12]
    rw [hB3]
    clear hB3 hW12
    have HB11 := Aside0.mk HBn.out
    clear HBn
    have HE1 := Aside0.mk (subsetR_err HD1.out)
    have HE2 := Aside0.mk (subsetR_err HD2.out)
    rcases HE1.out with he1 | he1
    case inr =>
      subst he1
      rcases HE2.out with he2 | he2
      · subst he2
        go_wp2_with fail
        go_ret
        exact ⟨rfl, HB11.out⟩
      · subst he2
        go_wp2_with fail
        go_ret
        exact ⟨rfl, HB11.out⟩
    case inl =>
      subst he1
      rcases HE2.out with he2 | he2
      case inr =>
        subst he2
        go_wp2_with fail
        go_ret
        exact ⟨rfl, HB11.out⟩
      case inl =>
        subst he2
        clear HE1 HE2
        have HR1 := Aside0.mk (subsetR_right HD1.out)
        have HR2 := Aside0.mk (subsetR_right HD2.out)
        obtain ⟨fs1, hs1, hz1⟩ := subsetR_sem r [0, 1, 2, 3] false 100 HD1.out
        obtain ⟨s1, g1, g2, g3⟩ := runD_sem r [0, 1, 2, 3] false hs1 HR1.out hz1 cl (fun t ht => HIC.out.2 t ht)
        obtain ⟨fs2, hs2, hz2⟩ := subsetR_sem r [0, 1, 2, 3] true 100 HD2.out
        obtain ⟨s2, g4, g5, g6⟩ := runD_sem r [0, 1, 2, 3] true hs2 HR2.out hz2 (ahead ++ cl) (fun t ht => (List.mem_append.1 ht).elim (HIA.out.2 t) (HIC.out.2 t))
        obtain ⟨KR1, hKR1⟩ := run_f N1 F1 0 cl (by have := HIC.out.1; omega)
        obtain ⟨KR2, hKR2⟩ := run_f N2 F2 0 (ahead ++ cl) (by have := HIC.out.1; have := HIA.out.1; rw [List.length_append]; omega)
        have HRUN1 := Aside0.mk (show subset_Run.f KR1 N1 F1 0 cl = some ((s1 : Int), 0) from (hKR1 KR1 (Nat.le_refl _)).trans (congrArg some g1))
        have HRUN2 := Aside0.mk (show subset_Run.f KR2 N2 F2 0 (ahead ++ cl) = some ((s2 : Int), 0) from (hKR2 KR2 (Nat.le_refl _)).trans (congrArg some g4))
        have HSL1 := Aside0.mk (show s1 < F1.length by rw [((rightD_iff N1 F1).1 HR1.out).fl]; exact g2)
        have HSL2 := Aside0.mk (show s2 < F2.length by rw [((rightD_iff N2 F2).1 HR2.out).fl]; exact g5)
        have HLAW := Aside0.mk (show (!F1.getD s1 false || F2.getD s2 false) = true by rw [g3, g6]; exact free_law r [0, 1, 2, 3] ahead cl)
        clear hs1 hz1 g1 g2 g3 hs2 hz2 g4 g5 g6 hKR1 hKR2
        have z0 := HB2.out.cells.1
        have z1 := HB2.out.cells.2
        go_upto_region 16 with (go_at_call 37; refine (subset_Run.calls KR1 D1 d1 N1 D2 d2 F1 0 Ac cc cl (s1 : Int) 0 W12 (Kd.R_reads' HB2.out.r1).2.2 (Kd.R_reads' HB2.out.r1).2.1 (Kd.R_reads' HB2.out.r2).2.2 (Kd.R_reads' HB2.out.r2).2.1 (Kd.C_below HCL.out HB11.out) HCLL.out HRUN1.out).mono ?_; rintro e W13 ⟨rfl, hb⟩; have HB13 := Aside0.mk (HB11.out.trans (hb.mono HB11.out.size)); have HB2' := Aside0.mk (HB2.out.later hb); have HB3' := Aside0.mk (HB3.out.later hb); clear hb z0 z1)
        clear HB11 HB2 HB3 HAB1 HMK6
        have hbd := below_drew (Below.refl W13.heap.size W13)
        have HB := Aside0.mk (HB13.out.trans (hbd.mono HB13.out.size))
        have HP := Aside0.mk (HB2'.out.later hbd)
        have HQ := Aside0.mk (HB3'.out.later hbd)
        clear hbd HB13 HB2' HB3'
        refine wp_region_noPanic ?_
        refine start_ (n := 12) (S := fun w' => w'.cell? ⟨B3, 0, none⟩ = some (.slice D3 N2.length d3) ∧ w'.cell? ⟨B3, 1, none⟩ = some (.slice D4 F2.length d4)) (ds := []) #[false, false, false, false, false, false, false, false, false, false, false, false] (by kernel_rfl) rfl rfl ⟨HQ.out.cells.1, HQ.out.cells.2⟩ (fun hHeld => ?_); refine with_tabW sfr_tab16 sfr_bits16 (fun HT_ HW_ => ?_)
        obtain ⟨W14, hW14⟩ : ∃ w, W13.drew = w := ⟨_, rfl⟩
        rw [hW14] at HB HP HQ hHeld ⊢
        clear hW14
        refine pure_ (i := 2) (N := some 94) (v := ?_) (a' := ?_) #[false, false, true, false, false, false, false, false, false, false, false, false] rfl rfl (any_of HT_.out (by kernel_rfl)) (fun _ _ _ h => h) (Or.inl ⟨by rfl, ?_⟩) ?_ ?_
        rotate_left
        · intro w'
          go_simp
          with_reducible rfl
        rotate_left
        · simp only [Act.put, List.setIfInBounds_toArray, List.set_cons_zero, List.set_cons_succ, i64_w, i32_w]
          rfl
        refine pure_ (i := 4) (N := some 96) (v := ?_) (a' := ?_) #[false, false, true, false, true, false, false, false, false, false, false, false] rfl rfl (any_of HT_.out (by kernel_rfl)) (fun _ _ _ h => h) (Or.inl ⟨by rfl, ?_⟩) ?_ ?_
        rotate_left
        · intro w'
          go_simp
          with_reducible rfl
        rotate_left
        · simp only [Act.put, List.setIfInBounds_toArray, List.set_cons_zero, List.set_cons_succ, i64_w, i32_w]
          rfl
        refine take_ (i := 0) (N := some 92) (v := ?_) (a' := ?_) #[true, false, true, false, true, false, false, false, false, false, false, false] rfl rfl (take_ofW HT_.out HW_.out (by kernel_rfl)) (fun _ _ _ h => h) (Or.inl ⟨by rfl, ?_⟩) hHeld ?_ ?_
        rotate_left
        · rintro w' ⟨s0, s1⟩
          go_simp
          with_reducible rfl
        rotate_left
        · simp only [Act.put, List.setIfInBounds_toArray, List.set_cons_zero, List.set_cons_succ, i64_w, i32_w]
          rfl
        refine one_ (i := 1) (N := some 93) #[true, true, true, false, true, false, false, false, false, false, false, false] rfl rfl (one_of HT_.out (by kernel_rfl)) (by decide) (fun K hK => ?_)
        refine Kd.R_lit_step (Kd.int .i64) _ 3 ?hg (N := 93) ?hd (xs := ([] : List Int)) (inner := []) (ok := fun _ => True) (okp := fun _ => True) ?hr ?hp (fun _ hk => hk) trivial (Below.refl _ _) (Nat.le_refl _) (by simp) ?_; (case hd => rfl); (case hg => rfl); (case hr => first | (go_simp; done) | (go_simp; rfl)); (case hp => exact (Reps.none _ _))
        intro v1 W15 ho hb hg_ hnew_
        clear hg_ hnew_
        have HO1 := Aside0.mk ho
        have HL1 := Aside0.mk hb
        clear ho hb
        refine hK.out _ _ ⟨(HQ.out.later HL1.out).cells.1, (HQ.out.later HL1.out).cells.2⟩ (fun hHeld => ?_)
        clear hK K
        refine norm_ (a' := ?_) ?_ ?_
        rotate_left
        · show Act.put _ (some 93) _ = _
          simp only [Act.put, List.setIfInBounds_toArray, List.set_cons_zero, List.set_cons_succ, i64_w, i32_w]
          rfl
        refine one_ (i := 3) (N := some 95) #[true, true, true, true, true, false, false, false, false, false, false, false] rfl rfl (one_of HT_.out (by kernel_rfl)) (by decide) (fun K hK => ?_)
        refine Kd.R_append_rows_step (Kd.int .i64) (w0 := W14) W14.heap.size (by rfl) (.tmp 93) (.tmp 94) 27 3 (.int .i64 0) 8 rfl Try.underlying27 info3 rfl (by decide) (by omega) v1 [] ahead _ _ _ (fun _ => True) (fun _ => False) rfl rfl ?aO ?aR (fun _ _ h => h) (fun _ h => h.elim) ?aF ?aB ?aS ?aL ?_
        (case aR => exact Kd.C_below HCA.out (HB.out.trans (HL1.out.mono HB.out.size)))
        (case aB => exact HL1.out)
        (case aF => exact (fun _ _ => trivial))
        (case aO => exact HO1.out)
        (case aS => exact HL1.out.size)
        (case aL => have := HIA.out.1; have := HIC.out.1; (try simp only [List.length_nil]); omega)
        intro v2_ W16 ho hb hg hat
        rw [List.nil_append] at ho
        have HO2 := Aside0.mk ho
        have HL2 := Aside0.mk hb
        clear ho hb hg hat HO1 HL1
        refine hK.out _ _ ⟨(HQ.out.later HL2.out).cells.1, (HQ.out.later HL2.out).cells.2⟩ (fun hHeld => ?_)
        clear hK K
        refine norm_ (a' := ?_) ?_ ?_
        rotate_left
        · show Act.put _ (some 95) _ = _
          simp only [Act.put, List.setIfInBounds_toArray, List.set_cons_zero, List.set_cons_succ, i64_w, i32_w]
          rfl
        obtain ⟨y, hy⟩ : ∃ y, y = ahead ++ cl := ⟨_, rfl⟩
        have HY := Aside0.mk hy
        rw [← hy] at HRUN2
        clear hy
        refine one_ (i := 5) (N := some 97) #[true, true, true, true, true, true, false, false, false, false, false, false] rfl rfl (one_of HT_.out (by kernel_rfl)) (by decide) (fun K hK => ?_)
        refine Kd.R_append_rows_step (Kd.int .i64) (w0 := W14) W14.heap.size (by rfl) (.tmp 95) (.tmp 96) 27 3 (.int .i64 0) 8 rfl Try.underlying27 info3 rfl (by decide) (by omega) v2_ ahead cl _ _ _ (fun _ => True) (fun _ => False) rfl rfl ?aO ?aR (fun _ _ h => h) (fun _ h => h.elim) ?aF ?aB ?aS ?aL ?_
        (case aR => exact Kd.C_below HCL.out (HB.out.trans (HL2.out.mono HB.out.size)))
        (case aB => exact HL2.out)
        (case aF => exact (fun _ _ => trivial))
        (case aO => exact HO2.out)
        (case aS => exact HL2.out.size)
        (case aL => have := HIA.out.1; have := HIC.out.1; (try simp only [List.length_nil]); omega)
        intro v2_ W17 ho hb hg hat
        rw [← HY.out] at ho
        have HO3 := Aside0.mk ho
        have HL3 := Aside0.mk hb
        clear ho hb hg hat HO2 HL2
        obtain ⟨A9, c9, e9⟩ := Kd.R_slice HO3.out
        subst e9
        refine hK.out _ _ ⟨(HQ.out.later HL3.out).cells.1, (HQ.out.later HL3.out).cells.2⟩ (fun hHeld => ?_)
        clear hK K
        refine norm_ (a' := ?_) ?_ ?_
        rotate_left
        · show Act.put _ (some 97) _ = _
          simp only [Act.put, List.setIfInBounds_toArray, List.set_cons_zero, List.set_cons_succ, i64_w, i32_w]
          rfl
        refine one_ (i := 6) (N := some 98) #[true, true, true, true, true, true, true, false, false, false, false, false] rfl rfl (one_of HT_.out (by kernel_rfl)) (by decide) (fun K hK => ?_)
        refine goes_ Try.func37 (by kernel_rfl) rfl #[.agg #[.slice D3 N2.length d3, .slice D4 F2.length d4], .int .i64 0, .slice A9 y.length c9] (by rfl) rfl rfl (by (try simp only [List.map_toArray, List.map_cons, List.map_nil]); first | done | rfl) ?_
        have HQ3 := Aside0.mk (HQ.out.later HL3.out)
        refine (subset_Run.calls KR2 D3 d3 N2 D4 d4 F2 0 A9 c9 y (s2 : Int) 0 W17 (Kd.R_reads' HQ3.out.r1).2.2 (Kd.R_reads' HQ3.out.r1).2.1 (Kd.R_reads' HQ3.out.r2).2.2 (Kd.R_reads' HQ3.out.r2).2.1 (Kd.R_reads' HO3.out).2.2 (Kd.R_reads' HO3.out).2.1 HRUN2.out).mono ?_
        rintro e_ W18 ⟨rfl, hb⟩
        have HB18 := Aside0.mk ((HB.out.trans (HL3.out.mono HB.out.size)).trans (hb.mono (HB.out.trans (HL3.out.mono HB.out.size)).size))
        have HP18 := Aside0.mk ((HP.out.later HL3.out).later hb)
        have HQ18 := Aside0.mk (HQ3.out.later hb)
        clear hb HB HP HQ HQ3 HO3 HL3
        refine ⟨_, rfl, ?_⟩
        refine hK.out _ _ ⟨HQ18.out.cells.1, HQ18.out.cells.2⟩ (fun hHeld => ?_)
        clear hK K
        refine norm_ (a' := ?_) ?_ ?_
        rotate_left
        · show Act.put _ (some 98) _ = _
          simp only [Act.put, List.setIfInBounds_toArray, List.set_cons_zero, List.set_cons_succ, i64_w, i32_w]
          rfl
        refine pure_ (i := 7) (N := some 91) (v := ?_) (a' := ?_) #[true, true, true, true, true, true, true, true, false, false, false, false] rfl rfl (any_of HT_.out (by kernel_rfl)) (fun _ _ _ h => h) (Or.inl ⟨by rfl, ?_⟩) ?_ ?_
        rotate_left
        · intro w'
          go_simp
          with_reducible rfl
        rotate_left
        · simp only [Act.put, List.setIfInBounds_toArray, List.set_cons_zero, List.set_cons_succ, i64_w, i32_w]
          rfl
        refine pure_ (i := 8) (N := some 99) (v := ?_) (a' := ?_) #[true, true, true, true, true, true, true, true, true, false, false, false] rfl rfl (any_of HT_.out (by kernel_rfl)) (fun _ _ _ h => h) (Or.inl ⟨by rfl, ?_⟩) ?_ ?_
        rotate_left
        · intro w'
          go_simp
          with_reducible rfl
        rotate_left
        · simp only [Act.put, List.setIfInBounds_toArray, List.set_cons_zero, List.set_cons_succ, i64_w, i32_w]
          rfl
        refine pure_ (i := 9) (N := some 100) (v := ?_) (a' := ?_) #[true, true, true, true, true, true, true, true, true, true, false, false] rfl rfl (any_of HT_.out (by kernel_rfl)) (fun _ _ _ h => h) (Or.inl ⟨by rfl, ?_⟩) ?_ ?_
        rotate_left
        · intro w'
          go_simp
          with_reducible rfl
        rotate_left
        · simp only [Act.put, List.setIfInBounds_toArray, List.set_cons_zero, List.set_cons_succ, i64_w, i32_w]
          rfl
        refine pure_ (i := 10) (N := some 20) (v := ?_) (a' := ?_) #[true, true, true, true, true, true, true, true, true, true, true, false] rfl rfl (any_of HT_.out (by kernel_rfl)) (fun _ _ _ h => h) (Or.inl ⟨by rfl, ?_⟩) ?_ ?_
        rotate_left
        · intro w'
          go_simp
          with_reducible rfl
        rotate_left
        · simp only [Act.put, List.setIfInBounds_toArray, List.set_cons_zero, List.set_cons_succ, i64_w, i32_w]
          rfl
        refine pure_ (i := 11) (N := some 21) (v := ?_) (a' := ?_) #[true, true, true, true, true, true, true, true, true, true, true, true] rfl rfl (any_of HT_.out (by kernel_rfl)) (fun _ _ _ h => h) (Or.inl ⟨by rfl, ?_⟩) ?_ ?_
        rotate_left
        · intro w'
          go_simp
          with_reducible rfl
        rotate_left
        · simp only [Act.put, List.setIfInBounds_toArray, List.set_cons_zero, List.set_cons_succ, i64_w, i32_w]
          rfl
        refine done_ (done_of HT_.out (by kernel_rfl)) ?_
        refine NoPanic.normal ?_
        clear HT_ HW_ hHeld
        have z0 := HP18.out.cells.1
        have z1 := HP18.out.cells.2
        have y0 := HQ18.out.cells.1
        have y1 := HQ18.out.cells.2
        obtain ⟨ad1, ea1, hx1⟩ := Kd.at_bool (Kd.R_reads' HP18.out.r2).2.2 (s1 : Int) (Int.natCast_nonneg s1) (by have := HSL1.out; omega)
        obtain ⟨ad2, ea2, hx2⟩ := Kd.at_bool (Kd.R_reads' HQ18.out.r2).2.2 (s2 : Int) (Int.natCast_nonneg s2) (by have := HSL2.out; omega)
        rw [Int.toNat_natCast] at hx1 hx2
        subst ea1 ea2
        rw [show rdOf false F1 (s1 : Int) = F1.getD s1 false from rfl] at hx1
        rw [show rdOf false F2 (s2 : Int) = F2.getD s2 false from rfl] at hx2
        have hlaw := HLAW.out
        obtain ⟨u1, hu1⟩ : ∃ u, u = F1.getD s1 false := ⟨_, rfl⟩
        obtain ⟨u2, hu2⟩ : ∃ u, u = F2.getD s2 false := ⟨_, rfl⟩
        rw [← hu1] at hx1 hlaw
        rw [← hu2] at hx2 hlaw
        clear hu1 hu2
        have f1 : (s1 : Int) < (F1.length : Int) := by have := HSL1.out; omega
        have f2 : decide ((s1 : Int) < (F1.length : Int)) = true := decide_eq_true f1
        have f3 : s1 < F1.length := HSL1.out
        have f4 : (0 : Int) ≤ (s1 : Int) := Int.natCast_nonneg s1
        have f5 : (s2 : Int) < (F2.length : Int) := by have := HSL2.out; omega
        have f6 : decide ((s2 : Int) < (F2.length : Int)) = true := decide_eq_true f5
        have f7 : s2 < F2.length := HSL2.out
        have f8 : (0 : Int) ≤ (s2 : Int) := Int.natCast_nonneg s2
        cases u1 with
        | false =>
          clear hlaw
          go_wp2_with fail
          go_ret
          exact ⟨rfl, HB18.out⟩
        | true =>
          have hu2 : u2 = true := by revert hlaw; cases u2 <;> simp
          subst hu2
          clear hlaw
          go_wp2_with fail
          go_ret
          exact ⟨rfl, HB18.out⟩
end Go.Proofs.Ytemlgmkbonpniaa.Print
