/- The walk of scansionlaw12.SubsetMet. -/
import Derived.Test.YtemlgmkbonpniaaSLawM
import Derived.Test.YtemlgmkbonpniaaSAwake
import Derived.Test.YtemlgmkbonpniaaSStub
namespace Go.Proofs.Ytemlgmkbonpniaa.Print
open Go.RowKit Go.Maps Go.Proofs.YtemlgmkbonpniaaW.PrintWords Go.Proofs.YtemlgmkbonpniaaW.PrintLast Go.Proofs.YtemlgmkbonpniaaW.PrintMore
set_option linter.unusedVariables false
set_option linter.unusedSimpArgs false
set_option maxHeartbeats 16000000 in
set_option maxRecDepth 100000 in
theorem subsetMet_calls (x : S24) (W : World) (A : Option Addr) (c : Nat) (Aw : Option Addr) (cw : Nat) (masks : List Int) (free : Bool) (hC : Kd.C k24 W A x.f2.length x.f2) (hc : x.f2.length ≤ c) (hCw : Kd.C (Kd.int .u64) W Aw masks.length masks) (hcw : masks.length ≤ cw) :
  Calls Try.prog 9 #[.agg #[.int .i64 x.f0, .int .i64 x.f1, .slice A x.f2.length c], .slice Aw masks.length cw, .bool free] W fun e w' => e = .returned (.bool true) ∧ Below W.heap.size W w' := by
 have HC := Aside0.mk hC
 have HCC := Aside0.mk hc
 have HCW := Aside0.mk hCw
 have HCWL := Aside0.mk hcw
 obtain ⟨b, ⟨K1, hK1⟩, hb⟩ := few_is x (lens_of x hC) masks
 have HND := Aside0.mk (hK1 K1 (Nat.le_refl _))
 have HBT := Aside0.mk hb
 clear hC hc hCw hcw hK1 hb
 go_enter Try.func9, Try.ntmps9
 go_upto_region 1 with fail
 have HB1 := Aside0.mk (below_alloc (Below.refl W.heap.size W) (.cells #[.int .i64 x.f0, .int .i64 x.f1, .slice A x.f2.length c] 24))
 have HNB1 := Aside0.mk (blk_new W (.cells #[.int .i64 x.f0, .int .i64 x.f1, .slice A x.f2.length c] 24))
 obtain ⟨NB, hNB⟩ : ∃ n, W.heap.size = n := ⟨_, rfl⟩
 obtain ⟨W1, hW1⟩ : ∃ w, W.alloc (.cells #[.int .i64 x.f0, .int .i64 x.f1, .slice A x.f2.length c] 24) = w := ⟨_, rfl⟩
 rw [hNB] at HNB1
 rw [hW1] at HB1 HNB1
 rw [hW1]
 rw [hNB]
 clear hNB hW1
 go_upto_region 2 with (go_at_call 30; refine (sawake_calls W1).mono ?_; rintro e W2 ⟨rfl, hb⟩; have HB2 := Aside0.mk (HB1.out.trans (hb.mono HB1.out.size)); have HNB2 := Aside0.mk (blk_below HNB1.out hb); clear hb)
 clear HB1 HNB1
 have n0 := (blk_cell HNB2.out 0).trans rfl
 have n1 := (blk_cell HNB2.out 1).trans rfl
 have n2 := (blk_cell HNB2.out 2).trans rfl
 go_upto_region 3 with (go_at_call 31; refine (scansionlaw12_few.calls K1 x.f0 x.f1 A c x.f2 Aw cw masks b W2 (Kd.C_below HC.out HB2.out) HCC.out (Kd.C_below HCW.out HB2.out) HCWL.out HND.out).mono ?_; rintro e W3 ⟨rfl, hb⟩; have HB3 := Aside0.mk (HB2.out.trans (hb.mono HB2.out.size)); have HNB3 := Aside0.mk (blk_below HNB2.out hb); clear hb n0 n1 n2)
 clear HB2 HNB2
 cases b with
 | false =>
  go_wp2_with fail
  go_ret
  exact ⟨rfl, HB3.out⟩
 | true =>
  have HFEW := Aside0.mk (HBT.out rfl)
  by_cases q0 : masks.length = 0
  ·have f1 : ((masks.length : Int) == 0) = true := by rw [q0]; rfl
   have f2 : decide ((masks.length : Int) = 0) = true := decide_eq_true (by omega)
   have f3 : (masks.length : Int) = 0 := by omega
   have f4 : masks = [] := List.length_eq_zero_iff.1 q0
   clear q0
   go_wp2_with fail
   go_ret
   exact ⟨rfl, HB3.out⟩
  have HM1 := Aside0.mk (show 1 ≤ masks.length by omega)
  have f1 : ((masks.length : Int) == 0) = false := beq_eq_false_iff_ne.2 (by omega)
  have f2 : decide ((masks.length : Int) = 0) = false := decide_eq_false (by omega)
  have f3 : ¬ (masks.length : Int) = 0 := by omega
  have f4 : ¬ masks = [] := fun h => q0 (by rw [h]; rfl)
  clear q0
  go_upto_region 5 with fail
  clear f1 f2 f3 f4
  obtain ⟨r, hr⟩ : ∃ r, r = buildR x := ⟨_, rfl⟩
  have HRX := Aside0.mk hr
  have HRB := Aside0.mk (show scansionref11_Build.f x.f0 x.f1 x.f2 = some (r.1, r.2.1, r.2.2.1, r.2.2.2.1, r.2.2.2.2.1, r.2.2.2.2.2) by unfold scansionref11_Build.f; rw [s24_eta, ← hr])
  clear hr
  have n0 := (blk_cell HNB3.out 0).trans rfl
  have n1 := (blk_cell HNB3.out 1).trans rfl
  have n2 := (blk_cell HNB3.out 2).trans rfl
  go_upto_region 6 with (go_at_call 19; refine (scansionref11_Build.calls x.f0 x.f1 A c x.f2 r.1 r.2.1 r.2.2.1 r.2.2.2.1 r.2.2.2.2.1 r.2.2.2.2.2 W3 (Kd.C_below HC.out HB3.out) HCC.out HRB.out).mono ?_; rintro e W4 ⟨u1, u2, u3, u4, rfl, ho1, ho2, ho3, ho4, hb⟩; have HB4 := Aside0.mk (HB3.out.trans (hb.mono HB3.out.size)); have HNB4 := Aside0.mk (blk_below HNB3.out hb); obtain ⟨A1, c1, rfl⟩ := Kd.R_slice ho1; obtain ⟨A2, c2, rfl⟩ := Kd.R_slice ho2; obtain ⟨A3, c3, rfl⟩ := Kd.R_slice ho3; obtain ⟨A4, c4, rfl⟩ := Kd.R_slice ho4; have HO1 := Aside0.mk (Kd.R_lower ho1 HB3.out.size); have HO2 := Aside0.mk (Kd.R_lower ho2 HB3.out.size); have HO3 := Aside0.mk (Kd.R_lower ho3 HB3.out.size); have HO4 := Aside0.mk (Kd.R_lower ho4 HB3.out.size); clear ho1 ho2 ho3 ho4 hb n0 n1 n2)
  clear HB3 HNB3 
  have hbn := below_alloc (Below.refl W4.heap.size W4) (.cells #[.bool r.1, .slice A1 r.2.1.length c1, .slice A2 r.2.2.1.length c2, .slice A3 r.2.2.2.1.length c3, .slice A4 r.2.2.2.2.1.length c4] 30)
  have HAB1 := Aside0.mk (show AutoC W.heap.size W4.heap.size r (.slice A1 r.2.1.length c1) (.slice A2 r.2.2.1.length c2) (.slice A3 r.2.2.2.1.length c3) (.slice A4 r.2.2.2.2.1.length c4) (W4.alloc (.cells #[.bool r.1, .slice A1 r.2.1.length c1, .slice A2 r.2.2.1.length c2, .slice A3 r.2.2.2.1.length c3, .slice A4 r.2.2.2.2.1.length c4] 30)) from ⟨blk_new _ _, Kd.R_below HO1.out hbn, Kd.R_below HO2.out hbn, Kd.R_below HO3.out hbn, Kd.R_below HO4.out hbn⟩)
  have HBn := Aside0.mk (HB4.out.trans (hbn.mono HB4.out.size))
  have HNBn := Aside0.mk (blk_below HNB4.out hbn)
  clear hbn HO1 HO2 HO3 HO4 HB4 HNB4
  obtain ⟨B1, hB1⟩ : ∃ n, W4.heap.size = n := ⟨_, rfl⟩
  obtain ⟨W5, hW5⟩ : ∃ w, W4.alloc (.cells #[.bool r.1, .slice A1 r.2.1.length c1, .slice A2 r.2.2.1.length c2, .slice A3 r.2.2.2.1.length c3, .slice A4 r.2.2.2.2.1.length c4] 30) = w := ⟨_, rfl⟩
  rw [hB1, hW5] at HAB1
  rw [hW5] at HBn HNBn 
  rw [hW5]
  rw [hB1]
  clear hB1 hW5
  have HB4 := Aside0.mk HBn.out
  have HNB4 := Aside0.mk HNBn.out
  clear HBn HNBn
  by_cases qe : r.2.2.2.2.2 = 0
  case neg =>
   have f1 : (r.2.2.2.2.2 != 0) = true := bne_iff_ne.2 qe
   clear qe
   go_wp2_with fail
   go_ret
   exact ⟨rfl, HB4.out⟩
  case pos =>
   have HAU := Aside0.mk (show Auto r by rw [HRX.out]; exact (build_auto x (by rw [← HRX.out]; exact qe)).1)
   have f1 : (r.2.2.2.2.2 != 0) = false := bne_eq_false_iff_eq.2 qe
   clear qe
   have HSB := subset_Build.is HAU.out masks free 100
   rcases subsetR_law r masks free 100 HM1.out (by have := HFEW.out.2; omega) (by omega) (by omega) with h | ⟨N, F, h, hR, hs, hl⟩
   case inl =>
    obtain ⟨N, hN⟩ : ∃ N, N = ([] : List (List Int)) := ⟨_, rfl⟩
    obtain ⟨F, hF⟩ : ∃ F, F = ([] : List Bool) := ⟨_, rfl⟩
    rw [h, ← hN, ← hF] at HSB
    have HSF := Aside0.mk HSB
    have HN := Aside0.mk hN
    clear hN hF h HSB
    have z0 := HAB1.out.cells.1
    have z1 := HAB1.out.cells.2.1
    have z2 := HAB1.out.cells.2.2.1
    have z3 := HAB1.out.cells.2.2.2.1
    have z4 := HAB1.out.cells.2.2.2.2
    go_upto_region 9 with (go_at_call 32; refine (subset_Build.calls r.1 A1 c1 r.2.1 A2 c2 r.2.2.1 A3 c3 r.2.2.2.1 A4 c4 r.2.2.2.2.1 Aw cw masks free 100 N F 8 W5 (Kd.R_reads' HAB1.out.r1).2.2 (Kd.R_reads' HAB1.out.r1).2.1 (Kd.R_reads' HAB1.out.r2).2.2 (Kd.R_reads' HAB1.out.r2).2.1 (Kd.R_reads' HAB1.out.r3).2.2 (Kd.R_reads' HAB1.out.r3).2.1 (Kd.R_reads' HAB1.out.r4).2.2 (Kd.R_reads' HAB1.out.r4).2.1 (Kd.C_below HCW.out HB4.out) HCWL.out HSF.out).mono ?_; rintro e W6 ⟨u1, u2, rfl, ho1, ho2, hb⟩; have HB6 := Aside0.mk (HB4.out.trans (hb.mono HB4.out.size)); have HAB1' := Aside0.mk (HAB1.out.later hb); obtain ⟨D1, d1, rfl⟩ := Kd.R_slice (ho1); obtain ⟨D2, d2, rfl⟩ := Kd.R_slice (ho2); have HO1 := Aside0.mk (Kd.R_lower (ho1) HB4.out.size); have HO2 := Aside0.mk (Kd.R_lower (ho2) HB4.out.size); clear ho1 ho2 hb z0 z1 z2 z3 z4)
    clear HB4 HAB1
    have hbn := below_alloc (Below.refl W6.heap.size W6) (.cells #[.slice D1 N.length d1, .slice D2 F.length d2] 47)
    have HB2 := Aside0.mk (show DfaC W.heap.size W6.heap.size N F (.slice D1 N.length d1) (.slice D2 F.length d2) (W6.alloc (.cells #[.slice D1 N.length d1, .slice D2 F.length d2] 47)) from ⟨blk_new _ _, Kd.R_below HO1.out hbn, Kd.R_below HO2.out hbn⟩)
    have HBn := Aside0.mk (HB6.out.trans (hbn.mono HB6.out.size))
    have HAB1 := Aside0.mk (HAB1'.out.later hbn)
    clear HAB1'
    clear hbn HO1 HO2 HB6
    obtain ⟨B2, hB2⟩ : ∃ n, W6.heap.size = n := ⟨_, rfl⟩
    obtain ⟨W7, hW7⟩ : ∃ w, W6.alloc (.cells #[.slice D1 N.length d1, .slice D2 F.length d2] 47) = w := ⟨_, rfl⟩
    rw [hB2, hW7] at HB2
    rw [hW7] at HBn HAB1
    rw [hW7]
    rw [hB2]
    clear hB2 hW7
    have HB6 := Aside0.mk HBn.out
    clear HBn
    clear f1
    have z0 := HB2.out.cells.1
    have z1 := HB2.out.cells.2
    have f1 : ((N.length : Int) == 0) = true := by rw [HN.out]; rfl
    have f2 : decide ((N.length : Int) = 0) = true := by rw [HN.out]; rfl
    have f3 : (N.length : Int) = 0 := by rw [HN.out]; rfl
    have f4 : N = [] := HN.out
    go_wp2_with fail
    go_ret
    exact ⟨rfl, HB6.out⟩
   case inr =>
    rw [h] at HSB
    have HSF := Aside0.mk HSB
    have HP := Aside0.mk ((rightD_iff N F).1 hR)
    have HRT := Aside0.mk (show subset_Right.f N F = some true by unfold subset_Right.f; rw [hR])
    have HS := Aside0.mk hs
    have HL := Aside0.mk hl
    clear h HSB hR hs hl
    have z0 := HAB1.out.cells.1
    have z1 := HAB1.out.cells.2.1
    have z2 := HAB1.out.cells.2.2.1
    have z3 := HAB1.out.cells.2.2.2.1
    have z4 := HAB1.out.cells.2.2.2.2
    go_upto_region 9 with (go_at_call 32; refine (subset_Build.calls r.1 A1 c1 r.2.1 A2 c2 r.2.2.1 A3 c3 r.2.2.2.1 A4 c4 r.2.2.2.2.1 Aw cw masks free 100 N F 0 W5 (Kd.R_reads' HAB1.out.r1).2.2 (Kd.R_reads' HAB1.out.r1).2.1 (Kd.R_reads' HAB1.out.r2).2.2 (Kd.R_reads' HAB1.out.r2).2.1 (Kd.R_reads' HAB1.out.r3).2.2 (Kd.R_reads' HAB1.out.r3).2.1 (Kd.R_reads' HAB1.out.r4).2.2 (Kd.R_reads' HAB1.out.r4).2.1 (Kd.C_below HCW.out HB4.out) HCWL.out HSF.out).mono ?_; rintro e W6 ⟨u1, u2, rfl, ho1, ho2, hb⟩; have HB6 := Aside0.mk (HB4.out.trans (hb.mono HB4.out.size)); have HAB1' := Aside0.mk (HAB1.out.later hb); obtain ⟨D1, d1, rfl⟩ := Kd.R_slice (ho1); obtain ⟨D2, d2, rfl⟩ := Kd.R_slice (ho2); have HO1 := Aside0.mk (Kd.R_lower (ho1) HB4.out.size); have HO2 := Aside0.mk (Kd.R_lower (ho2) HB4.out.size); clear ho1 ho2 hb z0 z1 z2 z3 z4)
    clear HB4 HAB1
    have hbn := below_alloc (Below.refl W6.heap.size W6) (.cells #[.slice D1 N.length d1, .slice D2 F.length d2] 47)
    have HB2 := Aside0.mk (show DfaC W.heap.size W6.heap.size N F (.slice D1 N.length d1) (.slice D2 F.length d2) (W6.alloc (.cells #[.slice D1 N.length d1, .slice D2 F.length d2] 47)) from ⟨blk_new _ _, Kd.R_below HO1.out hbn, Kd.R_below HO2.out hbn⟩)
    have HBn := Aside0.mk (HB6.out.trans (hbn.mono HB6.out.size))
    have HAB1 := Aside0.mk (HAB1'.out.later hbn)
    clear HAB1'
    clear hbn HO1 HO2 HB6
    obtain ⟨B2, hB2⟩ : ∃ n, W6.heap.size = n := ⟨_, rfl⟩
    obtain ⟨W7, hW7⟩ : ∃ w, W6.alloc (.cells #[.slice D1 N.length d1, .slice D2 F.length d2] 47) = w := ⟨_, rfl⟩
    rw [hB2, hW7] at HB2
    rw [hW7] at HBn HAB1
    rw [hW7]
    rw [hB2]
    clear hB2 hW7
    have HB6 := Aside0.mk HBn.out
    clear HBn
    clear f1 HAB1
    go_wp2_with fail
    go_loopg [13, 14] N.length (fun kq v13 v14 w' => ∃ (i : Nat) (n : Int), v13 = .int .i64 n ∧ v14 = .int .i64 (i : Int) ∧ Aside0 (i + kq = N.length) ∧ Aside0 (0 ≤ n ∧ seenAll n (N.drop i) = some (N.length : Int)) ∧ Aside0 (Below W.heap.size W w') ∧ Aside0 (DfaC W.heap.size B2 N F (.slice D1 N.length d1) (.slice D2 F.length d2) w'))
    case atStart => exact ⟨0, 1, rfl, rfl, ⟨Nat.zero_add _⟩, ⟨by omega, HS.out⟩, HB6, HB2⟩
    case round =>
     clear HB6 HB2
     obtain ⟨i, n, rfl, rfl, HK, HSN, HB, HD⟩ := hrel
     have z0 := HD.out.cells.1
     have z1 := HD.out.cells.2
     by_cases q0 : gk = 0
     ·have f1 : ¬ (i : Int) < (N.length : Int) := by have := HK.out; omega
      have f2 : decide ((i : Int) < (N.length : Int)) = false := decide_eq_false f1
      have f3 : ¬ i < N.length := by omega
      have hn : n = (N.length : Int) := by
       have h1 := HSN.out.2
       rw [List.drop_eq_nil_of_le (by omega), seenAll] at h1
       exact Option.some.inj h1
      subst hn
      clear q0
      go_wp2_with (go_at_call 35; refine (subset_Right.calls D1 d1 N D2 d2 F true wr (Kd.R_reads' HD.out.r1).2.2 (Kd.R_reads' HD.out.r1).2.1 (Kd.R_reads' HD.out.r2).2.2 (Kd.R_reads' HD.out.r2).2.1 HRT.out).mono ?_; rintro e W8 ⟨rfl, hb⟩; have HB8 := Aside0.mk (HB.out.trans (hb.mono HB.out.size)); clear hb)
      go_ret
      exact ⟨by simp, HB8.out⟩
     ·have HQ := Aside0.mk q0
      clear q0
      have HIL := Aside0.mk (show i < N.length by have := HK.out; have := HQ.out; omega)
      have f1 : (i : Int) < (N.length : Int) := by have := HIL.out; omega
      have f2 : decide ((i : Int) < (N.length : Int)) = true := decide_eq_true f1
      have f3 : i < N.length := HIL.out
      obtain ⟨row, hrow⟩ : ∃ row, row = rd_L3 N (i : Int) := ⟨_, rfl⟩
      have HROW := Aside0.mk hrow
      have HRL := Aside0.mk (show row.length ≤ 200 by rw [hrow, (HP.out.row _ (row_at (Int.natCast_nonneg i) f1)).1]; exact HP.out.c2)
      obtain ⟨m, hm1, hm2⟩ : ∃ m, seenRow n row = some m ∧ seenAll m (N.drop (i + 1)) = some (N.length : Int) := by
       have h1 := HSN.out.2
       have hd : N.drop i = rd_L3 N (i : Int) :: N.drop (i + 1) := by
        unfold rd_L3
        rw [List.drop_eq_getElem_cons HIL.out, Int.toNat_natCast, List.getD_eq_getElem?_getD, List.getElem?_eq_getElem HIL.out]
        rfl
       rw [hd, ← hrow, seenAll] at h1
       cases e : seenRow n row with
       | none => rw [e] at h1; cases h1
       | some m => rw [e, Option.bind_some] at h1; exact ⟨m, rfl, h1⟩
      have HM1' := Aside0.mk hm1
      have HM2 := Aside0.mk hm2
      have HN0 := Aside0.mk HSN.out.1
      clear hm1 hm2 hrow HSN
      obtain ⟨g1, hg1⟩ : ∃ g, gk = g := ⟨_, rfl⟩
      go_wp2_with fail
      clear f1 f2 f3 z0 z1
      go_loopg [13, 15] row.length (fun kq v13 v15 w' => ∃ (j : Nat) (n : Int), v13 = .int .i64 n ∧ v15 = .int .i64 (j : Int) ∧ Aside0 (j + kq = row.length) ∧ Aside0 (0 ≤ n ∧ seenRow n (row.drop j) = some m) ∧ Aside0 (Below W.heap.size W w') ∧ Aside0 (DfaC W.heap.size B2 N F (.slice D1 N.length d1) (.slice D2 F.length d2) w'))
      case atStart => exact ⟨0, n, rfl, rfl, ⟨Nat.zero_add _⟩, ⟨HN0.out, HM1'.out⟩, HB, HD⟩
      case round =>
       clear HB HD HN0 HM1'
       obtain ⟨j, n, rfl, rfl, HJ, HSR, HB, HD⟩ := hrel
       have z0 := HD.out.cells.1
       have z1 := HD.out.cells.2
       obtain ⟨ad, A8, c8, eD, hx, hl8, hi8⟩ := at_L3 (Kd.R_reads' HD.out.r1).2.2 (i : Int) (Int.natCast_nonneg i) (by have := HIL.out; omega)
       rw [← HROW.out] at hx hl8 hi8
       rw [Int.toNat_natCast] at hx
       subst eD
       have f1 : (i : Int) < (N.length : Int) := by have := HIL.out; omega
       have f2 : decide ((i : Int) < (N.length : Int)) = true := decide_eq_true f1
       have f3 : i < N.length := HIL.out
       have f4 : (0 : Int) ≤ (i : Int) := Int.natCast_nonneg i
       have HI8 := Aside0.mk hi8
       have HL8 := Aside0.mk hl8
       clear hi8 hl8
       by_cases q0 : gk = 0
       ·have f5 : ¬ (j : Int) < (row.length : Int) := by have := HJ.out; omega
        have f6 : decide ((j : Int) < (row.length : Int)) = false := decide_eq_false f5
        have f7 : ¬ j < row.length := by omega
        have hn : n = m := by
         have h1 := HSR.out.2
         rw [List.drop_eq_nil_of_le (by omega), seenRow] at h1
         exact Option.some.inj h1
        subst hn
        clear q0
        go_wp2_with fail
        have HW2 := Aside0.mk (show wrap64 ((i : Int) + 1) = ((i + 1 : Nat) : Int) by have := HIL.out; have := HP.out.n2; unfold wrap64; omega)
        go_roundg (g1 - 1)
        case measure => have := HQ.out; omega
        case rel => exact ⟨i + 1, n, rfl, by rw [← HW2.out], ⟨by have := HK.out; have := HQ.out; omega⟩, ⟨HSR.out.1, HM2.out⟩, HB, HD⟩
       ·have HQ2 := Aside0.mk q0
        clear q0
        have HJL := Aside0.mk (show j < row.length by have := HJ.out; have := HQ2.out; omega)
        have f5 : (j : Int) < (row.length : Int) := by have := HJL.out; omega
        have f6 : decide ((j : Int) < (row.length : Int)) = true := decide_eq_true f5
        have f7 : j < row.length := HJL.out
        have f8 : (0 : Int) ≤ (j : Int) := Int.natCast_nonneg j
        obtain ⟨adj, eJ, hxj⟩ := Kd.at_int HI8.out (j : Int) (Int.natCast_nonneg j) (by have := HJL.out; omega)
        rw [Int.toNat_natCast] at hxj
        subst eJ
        obtain ⟨y, hy⟩ : ∃ y, y = rd row (j : Int) := ⟨_, rfl⟩
        rw [← hy] at hxj
        have hstep := HSR.out.2
        rw [drop_rd HJL.out, ← hy, seenRow] at hstep
        clear hy
        have HW2 := Aside0.mk (show wrap64 ((j : Int) + 1) = ((j + 1 : Nat) : Int) by have := HJL.out; have := HRL.out; unfold wrap64; omega)
        by_cases q1 : y > n
        ·rw [if_pos q1] at hstep; cases hstep
        ·rw [if_neg q1] at hstep
         have g2 : decide (y > n) = false := decide_eq_false q1
         have g3 : decide (n < y) = false := decide_eq_false q1
         have g4 : ¬ n < y := q1
         by_cases q2 : y = n
         ·rw [if_pos q2] at hstep
          have g5 : (y == n) = true := beq_iff_eq.2 q2
          have hle := seenRow_le _ _ _ hstep
          have hle2 := seenAll_le _ _ _ HM2.out
          have HST := Aside0.mk hstep
          have HW3 := Aside0.mk (show wrap64 (n + 1) = n + 1 by have := HP.out.n2; have := HSR.out.1; unfold wrap64; omega)
          clear hstep hle hle2
          subst q2
          go_wp2_with fail
          go_roundg (gk - 1)
          case measure => have := HQ2.out; omega
          case rel => exact ⟨j + 1, y + 1, by rw [HW3.out], by rw [← HW2.out], ⟨by have := HJ.out; have := HQ2.out; omega⟩, ⟨by have := HSR.out.1; omega, HST.out⟩, HB, HD⟩
         ·rw [if_neg q2] at hstep
          have g5 : (y == n) = false := beq_eq_false_iff_ne.2 q2
          have HST := Aside0.mk hstep
          clear hstep
          go_wp2_with fail
          go_roundg (gk - 1)
          case measure => have := HQ2.out; omega
          case rel => exact ⟨j + 1, n, rfl, by rw [← HW2.out], ⟨by have := HJ.out; have := HQ2.out; omega⟩, ⟨HSR.out.1, HST.out⟩, HB, HD⟩
end Go.Proofs.Ytemlgmkbonpniaa.Print
