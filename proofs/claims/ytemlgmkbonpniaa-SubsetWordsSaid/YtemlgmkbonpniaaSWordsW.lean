/- The walk of scansionlaw12.SubsetWords. -/
import Derived.Test.YtemlgmkbonpniaaSLawFM
import Derived.Test.YtemlgmkbonpniaaSStubM
import Derived.Test.YtemlgmkbonpniaaSIns
import Derived.Test.YtemlgmkbonpniaaPrint59
import Derived.Test.YtemlgmkbonpniaaGEndsM
import Derived.Test.YtemlgmkbonpniaaGWords
namespace Go.Proofs.Ytemlgmkbonpniaa.Print
open Go.RowKit Go.Maps Go.Proofs.YtemlgmkbonpniaaW.PrintWords Go.Proofs.YtemlgmkbonpniaaW.PrintLast Go.Proofs.YtemlgmkbonpniaaW.PrintMore
set_option linter.unusedVariables false
set_option linter.unusedSimpArgs false
def swa_T14 : Bool × List (List Nat × List Nat) := (true, [([], []), ([0], [0]), ([1], [1]), ([2], [2]), ([3, 2], [2, 3]), ([2], [2]), ([4, 5, 2], [2, 4, 5]), ([6, 2], [2, 6]), ([2], [2]), ([2], [2]), ([8, 9, 2, 2], [2, 8, 9]), ([7, 10, 2], [2, 7, 10]), ([2, 11], [2, 11])])
def swa_B14 : List Nat := [0, 1, 3, 7, 15, 7, 63, 127, 7, 7, 775, 2047, 4095]
theorem swa_tab14 : rtab .any (opsOf Try.f11 14) = swa_T14 := by kernel_rfl
theorem swa_bits14 : waitsOk swa_T14.2 swa_B14 = true := by kernel_rfl
def swb_T18 : Bool × List (List Nat × List Nat) := (true, [([], []), ([0], [0]), ([1], [1]), ([2], [2]), ([3, 2], [2, 3]), ([2], [2]), ([4, 5, 2], [2, 4, 5]), ([6, 2], [2, 6]), ([2], [2]), ([2], [2]), ([8, 9, 2, 2], [2, 8, 9]), ([7, 10, 2], [2, 7, 10]), ([2, 11], [2, 11])])
def swb_B18 : List Nat := [0, 1, 3, 7, 15, 7, 63, 127, 7, 7, 775, 2047, 4095]
theorem swb_tab18 : rtab .any (opsOf Try.f11 18) = swb_T18 := by kernel_rfl
theorem swb_bits18 : waitsOk swb_T18.2 swb_B18 = true := by kernel_rfl
/-- The node's box. -/
structure NodC (NB : Nat) (x : S24) (A : Option Addr) (c : Nat) (W : World) : Prop where
  blk : W.heap[NB]? = some (.cells #[.int .i64 x.f0, .int .i64 x.f1, .slice A x.f2.length c] 24 (0, 0))
theorem NodC.later {NB : Nat} {x : S24} {A : Option Addr} {c : Nat} {W W' : World} (h : NodC NB x A c W) (hb : Below W.heap.size W W') : NodC NB x A c W' := ⟨blk_below h.blk hb⟩
theorem word_l0 (masks cl : List Int) (hl : cl.length ≤ 1000000) (hc : ∀ c ∈ cl, 0 ≤ c ∧ c < (masks.length : Int)) : ∀ (n i : Nat) (acc : List Int), i + n = cl.length → acc = (cl.take i).map (fun c => rd masks c) → Evs (fun k => scansionlaw12_word.l0 k masks cl acc (i : Int)) (cl.map fun c => rd masks c) := by
  intro n
  induction n with
  | zero =>
    intro i acc hi ha
    refine ⟨1, fun k hk => ?_⟩
    obtain ⟨k, rfl⟩ : ∃ j, k = j + 1 := ⟨k - 1, by omega⟩
    show scansionlaw12_word.l0 (k + 1) _ _ _ _ = _
    rw [scansionlaw12_word.l0, if_neg (by omega), ha, List.take_of_length_le (by omega)]
  | succ n ih =>
    intro i acc hi ha
    have hil : i < cl.length := by omega
    have hm := hc _ (rd_at (l := cl) (c := (i : Int)) (by omega) (by omega))
    have hal : acc.length ≤ 1000000 := by rw [ha, List.length_map, List.length_take]; omega
    obtain ⟨K, hK⟩ := ih (i + 1) (acc ++ [rd masks (rd cl (i : Int))]) (by omega) (by rw [ha, take_one hil, List.map_append]; rfl)
    refine ⟨K + 1, fun k hk => ?_⟩
    obtain ⟨k, rfl⟩ : ∃ j, k = j + 1 := ⟨k - 1, by omega⟩
    show scansionlaw12_word.l0 (k + 1) _ _ _ _ = _
    have hk1 : scansionlaw12_word.l0 k _ _ _ _ = _ := hK k (by omega)
    rw [scansionlaw12_word.l0, if_pos (by omega), if_pos (by omega), if_pos hm.1, if_pos hm.2, if_pos (by omega), show wrap64 ((i : Int) + 1) = ((i + 1 : Nat) : Int) by unfold wrap64; omega, hk1]
theorem behind_fold (r : Bt) (masks : List Int) (free : Bool) (st cl : List Int) : behind r masks free st cl = (cl.map fun c => rd masks c).foldl (xAt r free) st := by
  unfold behind
  rw [List.foldl_map]
  rfl
set_option maxHeartbeats 16000000 in
set_option maxRecDepth 100000 in
theorem subsetWords_calls (x : S24) (W : World) (A : Option Addr) (c : Nat) (Aw : Option Addr) (cw : Nat) (masks : List Int) (Ac : Option Addr) (cc : Nat) (cl : List Int) (hC : Kd.C k24 W A x.f2.length x.f2) (hc : x.f2.length ≤ c) (hCw : Kd.C (Kd.int .u64) W Aw masks.length masks) (hcw : masks.length ≤ cw) (hU : ∀ s ∈ masks, 0 ≤ s ∧ s < 18446744073709551616) (hCc : Kd.C (Kd.int .i64) W Ac cl.length cl) (hcc : cl.length ≤ cc) (hlc : cl.length ≤ 9223372036854775807) :
    Calls Try.prog 11 #[.agg #[.int .i64 x.f0, .int .i64 x.f1, .slice A x.f2.length c], .slice Aw masks.length cw, .slice Ac cl.length cc] W fun e w' => e = .returned (.bool true) ∧ Below W.heap.size W w' := by
  have HC := Aside0.mk hC
  have HCC := Aside0.mk hc
  have HCW := Aside0.mk hCw
  have HCWL := Aside0.mk hcw
  have HU := Aside0.mk hU
  have HCL := Aside0.mk hCc
  have HCLL := Aside0.mk hcc
  obtain ⟨b, ⟨K1, hK1⟩, hb⟩ := few_is x (lens_of x hC) masks
  have HND := Aside0.mk (hK1 K1 (Nat.le_refl _))
  have HBT := Aside0.mk hb
  obtain ⟨b2, ⟨K3, hK3⟩, hb2⟩ := inside_f cl (masks.length : Int) hlc
  have HIN2 := Aside0.mk (hK3 K3 (Nat.le_refl _))
  have HI2 := Aside0.mk hb2
  clear hC hc hCw hcw hU hCc hcc hlc hK1 hb hK3 hb2
  go_enter Try.func11, Try.ntmps11
  go_upto_region 1 with fail
  have HB1 := Aside0.mk (below_alloc (Below.refl W.heap.size W) (.cells #[.int .i64 x.f0, .int .i64 x.f1, .slice A x.f2.length c] 24))
  have HNB1 := Aside0.mk (blk_new W (.cells #[.int .i64 x.f0, .int .i64 x.f1, .slice A x.f2.length c] 24))
  obtain ⟨NB, hNB⟩ : ∃ n, W.heap.size = n := ⟨_, rfl⟩
  obtain ⟨W1, hW1⟩ : ∃ w, W.alloc (.cells #[.int .i64 x.f0, .int .i64 x.f1, .slice A x.f2.length c] 24) = w := ⟨_, rfl⟩
  rw [hNB] at HNB1
  rw [hW1] at HB1 HNB1
  rw [hW1]
  rw [hNB]
  clear hNB hW1
  go_upto_region 2 with (go_at_call 30; refine (sawake_calls W1).mono ?_; rintro e W2 ⟨rfl, hb⟩; have HB2 := Aside0.mk (HB1.out.trans (hb.mono HB1.out.size)); have HNB2 := Aside0.mk (blk_below HNB1.out hb); clear hb)
  clear HB1 HNB1
  have n0 := (blk_cell HNB2.out 0).trans rfl
  have n1 := (blk_cell HNB2.out 1).trans rfl
  have n2 := (blk_cell HNB2.out 2).trans rfl
  go_upto_region 3 with (go_at_call 31; refine (scansionlaw12_few.calls K1 x.f0 x.f1 A c x.f2 Aw cw masks b W2 (Kd.C_below HC.out HB2.out) HCC.out (Kd.C_below HCW.out HB2.out) HCWL.out HND.out).mono ?_; rintro e W3 ⟨rfl, hb⟩; have HB3 := Aside0.mk (HB2.out.trans (hb.mono HB2.out.size)); have HNB3 := Aside0.mk (blk_below HNB2.out hb); clear hb n0 n1 n2)
  clear HB2 HNB2
  go_upto_region 4 with (go_at_call 40; refine (scansionlaw12_inside.calls K3 Ac cc cl (masks.length : Int) b2 W3 (Kd.C_below HCL.out HB3.out) HCLL.out HIN2.out).mono ?_; rintro e W6 ⟨rfl, hdr⟩; have hb := hdr.below; have HB6 := Aside0.mk (HB3.out.trans (hb.mono HB3.out.size)); have HNB6 := Aside0.mk (blk_below HNB3.out hb); clear hb hdr)
  clear HB3 HNB3
  cases b with
  | false =>
    go_wp2_with fail
    go_ret
    exact ⟨rfl, HB6.out⟩
  | true =>
  cases b2 with
  | false =>
    go_wp2_with fail
    go_ret
    exact ⟨rfl, HB6.out⟩
  | true =>
  have HFEW := Aside0.mk (HBT.out rfl)
  have HIC := Aside0.mk (HI2.out rfl)
  by_cases q0 : masks.length = 0
  case pos =>
    have f1 : ((masks.length : Int) == 0) = true := by rw [q0]; rfl
    have f2 : decide ((masks.length : Int) = 0) = true := decide_eq_true (by omega)
    have f3 : (masks.length : Int) = 0 := by omega
    have f4 : masks = [] := List.length_eq_zero_iff.1 q0
    clear q0
    go_wp2_with fail
    go_ret
    exact ⟨rfl, HB6.out⟩
  have HM1 := Aside0.mk (show 1 ≤ masks.length by omega)
  have f1 : ((masks.length : Int) == 0) = false := beq_eq_false_iff_ne.2 (by omega)
  have f2 : decide ((masks.length : Int) = 0) = false := decide_eq_false (by omega)
  have f3 : ¬ (masks.length : Int) = 0 := by omega
  have f4 : ¬ masks = [] := fun h => q0 (by rw [h]; rfl)
  clear q0
  go_upto_region 6 with fail
  clear f1 f2 f3 f4
  obtain ⟨r, hr⟩ : ∃ r, r = buildR x := ⟨_, rfl⟩
  have HRX := Aside0.mk hr
  have HRB := Aside0.mk (show scansionref11_Build.f x.f0 x.f1 x.f2 = some (r.1, r.2.1, r.2.2.1, r.2.2.2.1, r.2.2.2.2.1, r.2.2.2.2.2) by unfold scansionref11_Build.f; rw [s24_eta, ← hr])
  clear hr
  have n0 := (blk_cell HNB6.out 0).trans rfl
  have n1 := (blk_cell HNB6.out 1).trans rfl
  have n2 := (blk_cell HNB6.out 2).trans rfl
  go_upto_region 7 with (go_at_call 19; refine (scansionref11_Build.calls x.f0 x.f1 A c x.f2 r.1 r.2.1 r.2.2.1 r.2.2.2.1 r.2.2.2.2.1 r.2.2.2.2.2 W6 (Kd.C_below HC.out HB6.out) HCC.out HRB.out).mono ?_; rintro e W7 ⟨u1, u2, u3, u4, rfl, ho1, ho2, ho3, ho4, hb⟩; have HB7 := Aside0.mk (HB6.out.trans (hb.mono HB6.out.size)); have HNB7 := Aside0.mk (blk_below HNB6.out hb); obtain ⟨A1, c1, rfl⟩ := Kd.R_slice ho1; obtain ⟨A2, c2, rfl⟩ := Kd.R_slice ho2; obtain ⟨A3, c3, rfl⟩ := Kd.R_slice ho3; obtain ⟨A4, c4, rfl⟩ := Kd.R_slice ho4; have HO1 := Aside0.mk (Kd.R_lower ho1 HB6.out.size); have HO2 := Aside0.mk (Kd.R_lower ho2 HB6.out.size); have HO3 := Aside0.mk (Kd.R_lower ho3 HB6.out.size); have HO4 := Aside0.mk (Kd.R_lower ho4 HB6.out.size); clear ho1 ho2 ho3 ho4 hb n0 n1 n2)
  clear HB6 HNB6 
  have hbn := below_alloc (Below.refl W7.heap.size W7) (.cells #[.bool r.1, .slice A1 r.2.1.length c1, .slice A2 r.2.2.1.length c2, .slice A3 r.2.2.2.1.length c3, .slice A4 r.2.2.2.2.1.length c4] 30)
  have HAB1 := Aside0.mk (show AutoC W.heap.size W7.heap.size r (.slice A1 r.2.1.length c1) (.slice A2 r.2.2.1.length c2) (.slice A3 r.2.2.2.1.length c3) (.slice A4 r.2.2.2.2.1.length c4) (W7.alloc (.cells #[.bool r.1, .slice A1 r.2.1.length c1, .slice A2 r.2.2.1.length c2, .slice A3 r.2.2.2.1.length c3, .slice A4 r.2.2.2.2.1.length c4] 30)) from ⟨blk_new _ _, Kd.R_below HO1.out hbn, Kd.R_below HO2.out hbn, Kd.R_below HO3.out hbn, Kd.R_below HO4.out hbn⟩)
  have HBn := Aside0.mk (HB7.out.trans (hbn.mono HB7.out.size))
  have HNBn := Aside0.mk (blk_below HNB7.out hbn)
  clear hbn HO1 HO2 HO3 HO4 HB7 HNB7
  obtain ⟨B1, hB1⟩ : ∃ n, W7.heap.size = n := ⟨_, rfl⟩
  obtain ⟨W8, hW8⟩ : ∃ w, W7.alloc (.cells #[.bool r.1, .slice A1 r.2.1.length c1, .slice A2 r.2.2.1.length c2, .slice A3 r.2.2.2.1.length c3, .slice A4 r.2.2.2.2.1.length c4] 30) = w := ⟨_, rfl⟩
  rw [hB1, hW8] at HAB1
  rw [hW8] at HBn HNBn 
  rw [hW8]
  rw [hB1]
  clear hB1 hW8
  have HB7 := Aside0.mk HBn.out
  have HNB7 := Aside0.mk HNBn.out
  clear HBn HNBn
  by_cases qe : r.2.2.2.2.2 = 0
  case neg =>
    have f1 : (r.2.2.2.2.2 != 0) = true := bne_iff_ne.2 qe
    clear qe
    go_wp2_with fail
    go_ret
    exact ⟨rfl, HB7.out⟩
  case pos =>
    have HAU := Aside0.mk (show Auto r by rw [HRX.out]; exact (build_auto x (by rw [← HRX.out]; exact qe)).1)
    have HRR := Aside0.mk (show rightN x = true from (build_auto x (by rw [← HRX.out]; exact qe)).2.1)
    have HTL := Aside0.mk (show Tell x r by rw [HRX.out]; exact build_tell x (by rw [← HRX.out]; exact qe))
    have f1 : (r.2.2.2.2.2 != 0) = false := bne_eq_false_iff_eq.2 qe
    clear qe
    obtain ⟨⟨N1, F1, e1⟩, hd1⟩ : ∃ d : Dt, d = subsetR r masks false 100 := ⟨_, rfl⟩
    obtain ⟨⟨N2, F2, e2⟩, hd2⟩ : ∃ d : Dt, d = subsetR r masks true 100 := ⟨_, rfl⟩
    have HSF1 := Aside0.mk (show subset_Build.f r.1 r.2.1 r.2.2.1 r.2.2.2.1 r.2.2.2.2.1 masks false 100 = some (N1, F1, e1) by rw [subset_Build.is HAU.out, ← hd1])
    have HSF2 := Aside0.mk (show subset_Build.f r.1 r.2.1 r.2.2.1 r.2.2.2.1 r.2.2.2.2.1 masks true 100 = some (N2, F2, e2) by rw [subset_Build.is HAU.out, ← hd2])
    have HD1 := Aside0.mk hd1.symm
    have HD2 := Aside0.mk hd2.symm
    have HNC := Aside0.mk (NodC.mk HNB7.out)
    clear hd1 hd2 HNB7
    obtain ⟨wl, hwl⟩ : ∃ wl, wl = cl.map (fun c => rd masks c) := ⟨_, rfl⟩
    obtain ⟨KW, hKW⟩ := word_l0 masks cl (by have := HIC.out.1; omega) HIC.out.2 cl.length 0 [] (by omega) rfl
    rw [← hwl] at hKW
    have HWF := Aside0.mk (show scansionlaw12_word.f KW masks cl = some wl from hKW KW (Nat.le_refl _))
    have HWLN := Aside0.mk (show wl.length ≤ 100000 by rw [hwl, List.length_map]; have := HIC.out.1; omega)
    have HWU := Aside0.mk (show ∀ s ∈ wl, 0 ≤ s ∧ s < 18446744073709551616 by
      intro s hs
      rw [hwl] at hs
      obtain ⟨c0, hc0, rfl⟩ := List.mem_map.1 hs
      exact HU.out _ (rd_at (HIC.out.2 c0 hc0).1 (HIC.out.2 c0 hc0).2))
    have HWD := Aside0.mk hwl
    clear hwl hKW
    have z0 := HAB1.out.cells.1
    have z1 := HAB1.out.cells.2.1
    have z2 := HAB1.out.cells.2.2.1
    have z3 := HAB1.out.cells.2.2.2.1
    have z4 := HAB1.out.cells.2.2.2.2
    go_upto_region 10 with (go_at_call 32; refine (subset_Build.calls r.1 A1 c1 r.2.1 A2 c2 r.2.2.1 A3 c3 r.2.2.2.1 A4 c4 r.2.2.2.2.1 Aw cw masks false 100 N1 F1 e1 W8 (Kd.R_reads' HAB1.out.r1).2.2 (Kd.R_reads' HAB1.out.r1).2.1 (Kd.R_reads' HAB1.out.r2).2.2 (Kd.R_reads' HAB1.out.r2).2.1 (Kd.R_reads' HAB1.out.r3).2.2 (Kd.R_reads' HAB1.out.r3).2.1 (Kd.R_reads' HAB1.out.r4).2.2 (Kd.R_reads' HAB1.out.r4).2.1 (Kd.C_below HCW.out HB7.out) HCWL.out HSF1.out).mono ?_; rintro e W9 ⟨u1, u2, rfl, ho1, ho2, hb⟩; have HB9 := Aside0.mk (HB7.out.trans (hb.mono HB7.out.size)); have HAB1' := Aside0.mk (HAB1.out.later hb); have HNC' := Aside0.mk (HNC.out.later hb); obtain ⟨D1, d1, rfl⟩ := Kd.R_slice (ho1); obtain ⟨D2, d2, rfl⟩ := Kd.R_slice (ho2); have HO1 := Aside0.mk (Kd.R_lower (ho1) HB7.out.size); have HO2 := Aside0.mk (Kd.R_lower (ho2) HB7.out.size); clear ho1 ho2 hb z0 z1 z2 z3 z4)
    clear HB7 HAB1 HNC
    have hbn := below_alloc (Below.refl W9.heap.size W9) (.cells #[.slice D1 N1.length d1, .slice D2 F1.length d2] 47)
    have HB2 := Aside0.mk (show DfaC W.heap.size W9.heap.size N1 F1 (.slice D1 N1.length d1) (.slice D2 F1.length d2) (W9.alloc (.cells #[.slice D1 N1.length d1, .slice D2 F1.length d2] 47)) from ⟨blk_new _ _, Kd.R_below HO1.out hbn, Kd.R_below HO2.out hbn⟩)
    have HBn := Aside0.mk (HB9.out.trans (hbn.mono HB9.out.size))
    have HAB1 := Aside0.mk (HAB1'.out.later hbn)
    clear HAB1'
    have HNC := Aside0.mk (HNC'.out.later hbn)
    clear HNC'
    clear hbn HO1 HO2 HB9
    obtain ⟨B2, hB2⟩ : ∃ n, W9.heap.size = n := ⟨_, rfl⟩
    obtain ⟨W10, hW10⟩ : ∃ w, W9.alloc (.cells #[.slice D1 N1.length d1, .slice D2 F1.length d2] 47) = w := ⟨_, rfl⟩
    rw [hB2, hW10] at HB2
    rw [hW10] at HBn HAB1 HNC
    rw [hW10]
    rw [hB2]
    clear hB2 hW10
    have HB9 := Aside0.mk HBn.out
    clear HBn
    clear f1
    have z0 := HAB1.out.cells.1
    have z1 := HAB1.out.cells.2.1
    have z2 := HAB1.out.cells.2.2.1
    have z3 := HAB1.out.cells.2.2.2.1
    have z4 := HAB1.out.cells.2.2.2.2
    go_upto_region 11 with (go_at_call 32; refine (subset_Build.calls r.1 A1 c1 r.2.1 A2 c2 r.2.2.1 A3 c3 r.2.2.2.1 A4 c4 r.2.2.2.2.1 Aw cw masks true 100 N2 F2 e2 W10 (Kd.R_reads' HAB1.out.r1).2.2 (Kd.R_reads' HAB1.out.r1).2.1 (Kd.R_reads' HAB1.out.r2).2.2 (Kd.R_reads' HAB1.out.r2).2.1 (Kd.R_reads' HAB1.out.r3).2.2 (Kd.R_reads' HAB1.out.r3).2.1 (Kd.R_reads' HAB1.out.r4).2.2 (Kd.R_reads' HAB1.out.r4).2.1 (Kd.C_below HCW.out HB9.out) HCWL.out HSF2.out).mono ?_; rintro e W11 ⟨u1, u2, rfl, ho1, ho2, hb⟩; have HB11 := Aside0.mk (HB9.out.trans (hb.mono HB9.out.size)); have HAB1' := Aside0.mk (HAB1.out.later hb); have HNC' := Aside0.mk (HNC.out.later hb); have HB2' := Aside0.mk (HB2.out.later hb); obtain ⟨D3, d3, rfl⟩ := Kd.R_slice (ho1); obtain ⟨D4, d4, rfl⟩ := Kd.R_slice (ho2); have HO1 := Aside0.mk (Kd.R_lower (ho1) HB9.out.size); have HO2 := Aside0.mk (Kd.R_lower (ho2) HB9.out.size); clear ho1 ho2 hb z0 z1 z2 z3 z4)
    clear HB9 HAB1 HNC HB2
    have hbn := below_alloc (Below.refl W11.heap.size W11) (.cells #[.slice D3 N2.length d3, .slice D4 F2.length d4] 47)
    have HB3 := Aside0.mk (show DfaC W.heap.size W11.heap.size N2 F2 (.slice D3 N2.length d3) (.slice D4 F2.length d4) (W11.alloc (.cells #[.slice D3 N2.length d3, .slice D4 F2.length d4] 47)) from ⟨blk_new _ _, Kd.R_below HO1.out hbn, Kd.R_below HO2.out hbn⟩)
    have HBn := Aside0.mk (HB11.out.trans (hbn.mono HB11.out.size))
    have HAB1 := Aside0.mk (HAB1'.out.later hbn)
    clear HAB1'
    have HNC := Aside0.mk (HNC'.out.later hbn)
    clear HNC'
    have HB2 := Aside0.mk (HB2'.out.later hbn)
    clear HB2'
    clear hbn HO1 HO2 HB11
    obtain ⟨B3, hB3⟩ : ∃ n, W11.heap.size = n := ⟨_, rfl⟩
    obtain ⟨W12, hW12⟩ : ∃ w, W11.alloc (.cells #[.slice D3 N2.length d3, .slice D4 F2.length d4] 47) = w := ⟨_, rfl⟩
    rw [hB3, hW12] at HB3
    rw [hW12] at HBn HAB1 HNC HB2
    rw [hW12]
    rw [hB3]
    clear hB3 hW12
    have HB11 := Aside0.mk HBn.out
    clear HBn
    clear HAB1
    go_upto_region 12 with (go_at_call 41; refine (scansionlaw12_word.calls KW Aw cw masks Ac cc cl wl W12 (Kd.C_below HCW.out HB11.out) HCWL.out (Kd.C_below HCL.out HB11.out) HCLL.out HWF.out).mono ?_; rintro e W13 ⟨v0, rfl, ho, hb⟩; obtain ⟨A5, c5, rfl⟩ := Kd.R_slice ho; have HB := Aside0.mk (HB11.out.trans (hb.mono HB11.out.size)); have HP := Aside0.mk (HB2.out.later hb); have HQ := Aside0.mk (HB3.out.later hb); have HN := Aside0.mk (HNC.out.later hb); have HV := Aside0.mk (Kd.R_lower ho HB11.out.size); clear hb ho)
    clear HB11 HB2 HB3 HNC
    have HE1 := Aside0.mk (subsetR_err HD1.out HM1.out (by have := HFEW.out.2; omega))
    have HE2 := Aside0.mk (subsetR_err HD2.out HM1.out (by have := HFEW.out.2; omega))
    rcases HE1.out with he1 | he1
    case inr =>
      subst he1
      rcases HE2.out with he2 | he2
      case inr =>
        subst he2
        go_wp2_with fail
        go_ret
        exact ⟨rfl, HB.out⟩
      case inl =>
        subst he2
        have HR := Aside0.mk (subsetR_right HD2.out HM1.out (by have := HFEW.out.2; omega))
        obtain ⟨fs, hs, hz⟩ := subsetR_sem r masks true 100 HD2.out
        obtain ⟨s2, g1, g2, g3⟩ := runD_sem r masks true hs HR.out hz cl (fun t ht => HIC.out.2 t ht)
        obtain ⟨KR, hKR⟩ := run_f N2 F2 0 cl (by have := HIC.out.1; omega)
        have HRUN := Aside0.mk (show subset_Run.f KR N2 F2 0 cl = some ((s2 : Int), 0) from (hKR KR (Nat.le_refl _)).trans (congrArg some g1))
        have HSL := Aside0.mk (show s2 < F2.length by rw [((rightD_iff N2 F2).1 HR.out).fl]; exact g2)
        rw [behind_fold, ← HWD.out] at g3
        have HLAW := Aside0.mk (show (F2.getD s2 false = true ↔ rightN x = true ∧ ∃ i, i ≤ wl.length ∧ WayN (hitM wl) x i wl.length) from by rw [g3]; exact (words_law HRR.out HTL.out wl HWU.out true).trans ⟨fun ⟨i0, h1, h2⟩ => ⟨HRR.out, i0, way_le HRR.out wl HTL.out h2, h2⟩, fun ⟨_, i, _, h⟩ => ⟨i, .inl rfl, h⟩⟩)
        clear hs hz g1 g2 g3 hKR
        have z0 := HQ.out.cells.1
        have z1 := HQ.out.cells.2
        go_upto_region 18 with (go_at_call 37; refine (subset_Run.calls KR D3 d3 N2 D4 d4 F2 0 Ac cc cl (s2 : Int) 0 W13 (Kd.R_reads' HQ.out.r1).2.2 (Kd.R_reads' HQ.out.r1).2.1 (Kd.R_reads' HQ.out.r2).2.2 (Kd.R_reads' HQ.out.r2).2.1 (Kd.C_below HCL.out HB.out) HCLL.out HRUN.out).mono ?_; rintro e U2a ⟨rfl, hb⟩; have HBq := Aside0.mk (HB.out.trans (hb.mono HB.out.size)); have HPq := Aside0.mk (HP.out.later hb); have HQq := Aside0.mk (HQ.out.later hb); have HNq := Aside0.mk (HN.out.later hb); have HVq := Aside0.mk (Kd.R_below HV.out hb); clear hb z0 z1)
        clear HB HP HQ HN HV
        have HB := Aside0.mk HBq.out
        have HP := Aside0.mk HPq.out
        have HQ := Aside0.mk HQq.out
        have HN := Aside0.mk HNq.out
        have HV := Aside0.mk HVq.out
        clear HBq HPq HQq HNq HVq
        clear HRUN HR
        have hbd := below_drew (Below.refl U2a.heap.size U2a)
        have HBq := Aside0.mk (HB.out.trans (hbd.mono HB.out.size))
        have HPq := Aside0.mk (HP.out.later hbd)
        have HQq := Aside0.mk (HQ.out.later hbd)
        have HNq := Aside0.mk (HN.out.later hbd)
        have HVq := Aside0.mk (Kd.R_below HV.out hbd)
        clear hbd
        clear HB HP HQ HN HV
        have HB := Aside0.mk HBq.out
        have HP := Aside0.mk HPq.out
        have HQ := Aside0.mk HQq.out
        have HN := Aside0.mk HNq.out
        have HV := Aside0.mk HVq.out
        clear HBq HPq HQq HNq HVq
        obtain ⟨ad, ea, hx⟩ := Kd.at_bool (Kd.R_reads' HQ.out.r2).2.2 (s2 : Int) (Int.natCast_nonneg s2) (by have := HSL.out; omega)
        rw [Int.toNat_natCast] at hx
        subst ea
        rw [show rdOf false F2 (s2 : Int) = F2.getD s2 false from rfl] at hx
        obtain ⟨u, hu⟩ : ∃ u, u = F2.getD s2 false := ⟨_, rfl⟩
        rw [← hu] at hx HLAW
        have HX := Aside0.mk hx
        clear hu hx
        have f1 : (s2 : Int) < (F2.length : Int) := by have := HSL.out; omega
        have f2 : decide ((s2 : Int) < (F2.length : Int)) = true := decide_eq_true f1
        have f3 : s2 < F2.length := HSL.out
        have f4 : (0 : Int) ≤ (s2 : Int) := Int.natCast_nonneg s2
        refine wp_region_noPanic ?_
        refine start_ (n := 13) (S := fun w' => w'.cell? ⟨B3, 0, none⟩ = some (.slice D3 N2.length d3) ∧ w'.cell? ⟨B3, 1, none⟩ = some (.slice (some ad) F2.length d4) ∧ w'.cell? (ad.add s2) = some (.bool u) ∧ w'.cell? ⟨NB, 0, none⟩ = some (.int .i64 x.f0) ∧ w'.cell? ⟨NB, 1, none⟩ = some (.int .i64 x.f1) ∧ w'.cell? ⟨NB, 2, none⟩ = some (.slice A x.f2.length c)) (ds := []) #[false, false, false, false, false, false, false, false, false, false, false, false, false] (by kernel_rfl) rfl rfl ⟨HQ.out.cells.1, HQ.out.cells.2, HX.out, (blk_cell HN.out.blk 0).trans rfl, (blk_cell HN.out.blk 1).trans rfl, (blk_cell HN.out.blk 2).trans rfl⟩ (fun hHeld => ?_); refine with_tabW swb_tab18 swb_bits18 (fun HT_ HW_ => ?_)
        obtain ⟨U2b, hU2b⟩ : ∃ w, U2a.drew = w := ⟨_, rfl⟩
        rw [hU2b] at HB HP HQ HN HV HX hHeld ⊢
        clear hU2b
        refine pure_ (i := 0) (N := some 96) (v := ?_) (a' := ?_) #[true, false, false, false, false, false, false, false, false, false, false, false, false] rfl rfl (any_of HT_.out (by kernel_rfl)) (fun _ _ _ h => h) (Or.inl ⟨by rfl, ?_⟩) ?_ ?_
        rotate_left
        · intro w'
          go_simp
          with_reducible rfl
        rotate_left
        · simp only [Act.put, List.setIfInBounds_toArray, List.set_cons_zero, List.set_cons_succ, i64_w, i32_w]
          rfl
        refine pure_ (i := 1) (N := some 97) (v := ?_) (a' := ?_) #[true, true, false, false, false, false, false, false, false, false, false, false, false] rfl rfl (any_of HT_.out (by kernel_rfl)) (fun _ _ _ h => h) (Or.inl ⟨by rfl, ?_⟩) ?_ ?_
        rotate_left
        · intro w'
          go_simp
          with_reducible rfl
        rotate_left
        · simp only [Act.put, List.setIfInBounds_toArray, List.set_cons_zero, List.set_cons_succ, i64_w, i32_w]
          rfl
        refine pure_ (i := 2) (N := some 98) (v := ?_) (a' := ?_) #[true, true, true, false, false, false, false, false, false, false, false, false, false] rfl rfl (any_of HT_.out (by kernel_rfl)) (fun _ _ _ h => h) (Or.inl ⟨by rfl, ?_⟩) ?_ ?_
        rotate_left
        · intro w'
          go_simp
          with_reducible rfl
        rotate_left
        · simp only [Act.put, List.setIfInBounds_toArray, List.set_cons_zero, List.set_cons_succ, i64_w, i32_w]
          rfl
        refine pure_ (i := 3) (N := some 99) (v := ?_) (a' := ?_) #[true, true, true, true, false, false, false, false, false, false, false, false, false] rfl rfl (any_of HT_.out (by kernel_rfl)) (fun _ _ _ h => h) (Or.inl ⟨by rfl, ?_⟩) ?_ ?_
        rotate_left
        · intro w'
          go_simp
          with_reducible rfl
        rotate_left
        · simp only [Act.put, List.setIfInBounds_toArray, List.set_cons_zero, List.set_cons_succ, i64_w, i32_w]
          rfl
        refine pure_ (i := 5) (N := some 101) (v := ?_) (a' := ?_) #[true, true, true, true, false, true, false, false, false, false, false, false, false] rfl rfl (any_of HT_.out (by kernel_rfl)) (fun _ _ _ h => h) (Or.inl ⟨by rfl, ?_⟩) ?_ ?_
        rotate_left
        · intro w'
          go_simp
          with_reducible rfl
        rotate_left
        · simp only [Act.put, List.setIfInBounds_toArray, List.set_cons_zero, List.set_cons_succ, i64_w, i32_w]
          rfl
        refine pure_ (i := 9) (N := some 105) (v := ?_) (a' := ?_) #[true, true, true, true, false, true, false, false, false, true, false, false, false] rfl rfl (any_of HT_.out (by kernel_rfl)) (fun _ _ _ h => h) (Or.inl ⟨by rfl, ?_⟩) ?_ ?_
        rotate_left
        · intro w'
          go_simp
          with_reducible rfl
        rotate_left
        · simp only [Act.put, List.setIfInBounds_toArray, List.set_cons_zero, List.set_cons_succ, i64_w, i32_w]
          rfl
        refine take_ (i := 4) (N := some 100) (v := ?_) (a' := ?_) #[true, true, true, true, true, true, false, false, false, true, false, false, false] rfl rfl (take_ofW HT_.out HW_.out (by kernel_rfl)) (fun _ _ _ h => h) (Or.inl ⟨by rfl, ?_⟩) hHeld ?_ ?_
        rotate_left
        · rintro w' ⟨s0, s1, s2, s3, s4, s5⟩
          go_simp
          with_reducible rfl
        rotate_left
        · simp only [Act.put, List.setIfInBounds_toArray, List.set_cons_zero, List.set_cons_succ, i64_w, i32_w]
          rfl
        refine pure_ (i := 6) (N := some 102) (v := ?_) (a' := ?_) #[true, true, true, true, true, true, true, false, false, true, false, false, false] rfl rfl (any_of HT_.out (by kernel_rfl)) (fun _ _ _ h => h) (Or.inl ⟨by rfl, ?_⟩) ?_ ?_
        rotate_left
        · intro w'
          go_simp
          with_reducible rfl
        rotate_left
        · simp only [Act.put, List.setIfInBounds_toArray, List.set_cons_zero, List.set_cons_succ, i64_w, i32_w]
          rfl
        refine take_ (i := 7) (N := some 103) (v := ?_) (a' := ?_) #[true, true, true, true, true, true, true, true, false, true, false, false, false] rfl rfl (take_ofW HT_.out HW_.out (by kernel_rfl)) (fun _ _ _ h => h) (Or.inl ⟨by rfl, ?_⟩) hHeld ?_ ?_
        rotate_left
        · rintro w' ⟨s0, s1, s2, s3, s4, s5⟩
          go_simp
          with_reducible rfl
        rotate_left
        · simp only [Act.put, List.setIfInBounds_toArray, List.set_cons_zero, List.set_cons_succ, i64_w, i32_w]
          rfl
        refine take_ (i := 8) (N := some 104) (v := ?_) (a' := ?_) #[true, true, true, true, true, true, true, true, true, true, false, false, false] rfl rfl (take_ofW HT_.out HW_.out (by kernel_rfl)) (fun _ _ _ h => h) (Or.inl ⟨by rfl, ?_⟩) hHeld ?_ ?_
        rotate_left
        · rintro w' ⟨s0, s1, s2, s3, s4, s5⟩
          go_simp
          with_reducible rfl
        rotate_left
        · simp only [Act.put, List.setIfInBounds_toArray, List.set_cons_zero, List.set_cons_succ, i64_w, i32_w]
          rfl
        refine one_ (i := 10) (N := some 106) #[true, true, true, true, true, true, true, true, true, true, true, false, false] rfl rfl (one_of HT_.out (by kernel_rfl)) (by decide) (fun K hK => ?_)
        refine goes_ Try.func42 (by kernel_rfl) rfl #[.agg #[.int .i64 x.f0, .int .i64 x.f1, .slice A x.f2.length c], .slice A5 wl.length c5] (by rfl) rfl rfl (by (try simp only [List.map_toArray, List.map_cons, List.map_nil]); first | done | rfl) ?_
        refine (suffix_calls x U2b A c A5 c5 wl (Kd.C_below HC.out HB.out) HCC.out (Kd.R_reads' HV.out).2.2 (Kd.R_reads' HV.out).2.1 HWLN.out u HLAW.out).mono ?_
        rintro e_ U2c ⟨rfl, hb⟩
        have HBq := Aside0.mk (HB.out.trans (hb.mono HB.out.size))
        have HPq := Aside0.mk (HP.out.later hb)
        have HQq := Aside0.mk (HQ.out.later hb)
        have HNq := Aside0.mk (HN.out.later hb)
        have HVq := Aside0.mk (Kd.R_below HV.out hb)
        have HXq := Aside0.mk (cell_keep hb HX.out)
        clear hb
        refine ⟨_, rfl, ?_⟩
        refine hK.out _ _ ⟨HQq.out.cells.1, HQq.out.cells.2, HXq.out, (blk_cell HNq.out.blk 0).trans rfl, (blk_cell HNq.out.blk 1).trans rfl, (blk_cell HNq.out.blk 2).trans rfl⟩ (fun hHeld => ?_)
        clear HB HP HQ HN HV
        have HB := Aside0.mk HBq.out
        have HP := Aside0.mk HPq.out
        have HQ := Aside0.mk HQq.out
        have HN := Aside0.mk HNq.out
        have HV := Aside0.mk HVq.out
        clear HBq HPq HQq HNq HVq
        clear HX HXq
        clear hK K
        refine norm_ (a' := ?_) ?_ ?_
        rotate_left
        · show Act.put _ (some 106) _ = _
          simp only [Act.put, List.setIfInBounds_toArray, List.set_cons_zero, List.set_cons_succ, i64_w, i32_w]
          rfl
        refine pure_ (i := 11) (N := some 107) (v := ?_) (a' := ?_) #[true, true, true, true, true, true, true, true, true, true, true, true, false] rfl rfl (any_of HT_.out (by kernel_rfl)) (fun _ _ _ h => h) (Or.inl ⟨by rfl, ?_⟩) ?_ ?_
        rotate_left
        · intro w'
          go_simp
          with_reducible rfl
        rotate_left
        · simp only [Act.put, List.setIfInBounds_toArray, List.set_cons_zero, List.set_cons_succ, i64_w, i32_w]
          rfl
        refine pure_ (i := 12) (N := some 108) (v := ?_) (a' := ?_) #[true, true, true, true, true, true, true, true, true, true, true, true, true] rfl rfl (any_of HT_.out (by kernel_rfl)) (fun _ _ _ h => h) (Or.inl ⟨by rfl, ?_⟩) ?_ ?_
        rotate_left
        · intro w'
          go_simp
          with_reducible rfl
        rotate_left
        · simp only [Act.put, List.setIfInBounds_toArray, List.set_cons_zero, List.set_cons_succ, i64_w, i32_w]
          rfl
        refine done_ (done_of HT_.out (by kernel_rfl)) ?_
        refine NoPanic.normal ?_
        clear HT_ HW_ hHeld
        have fu : (u != u) = false := by cases u <;> rfl
        clear f1 f2 f3 f4 HSL HLAW
        go_wp2_with fail
        go_ret
        exact ⟨rfl, HB.out⟩
    case inl =>
      subst he1
      have HR := Aside0.mk (subsetR_right HD1.out HM1.out (by have := HFEW.out.2; omega))
      obtain ⟨fs, hs, hz⟩ := subsetR_sem r masks false 100 HD1.out
      obtain ⟨s1, g1, g2, g3⟩ := runD_sem r masks false hs HR.out hz cl (fun t ht => HIC.out.2 t ht)
      obtain ⟨KR, hKR⟩ := run_f N1 F1 0 cl (by have := HIC.out.1; omega)
      have HRUN := Aside0.mk (show subset_Run.f KR N1 F1 0 cl = some ((s1 : Int), 0) from (hKR KR (Nat.le_refl _)).trans (congrArg some g1))
      have HSL := Aside0.mk (show s1 < F1.length by rw [((rightD_iff N1 F1).1 HR.out).fl]; exact g2)
      rw [behind_fold, ← HWD.out] at g3
      have HLAW := Aside0.mk (show (F1.getD s1 false = true ↔ rightN x = true ∧ WayN (hitM wl) x 0 wl.length) from by rw [g3]; exact (words_law HRR.out HTL.out wl HWU.out false).trans ⟨fun ⟨i0, h1, h2⟩ => ⟨HRR.out, by rcases h1 with h | h; cases h; rw [h] at h2; exact h2⟩, fun h => ⟨0, .inr rfl, h.2⟩⟩)
      clear hs hz g1 g2 g3 hKR
      have z0 := HP.out.cells.1
      have z1 := HP.out.cells.2
      go_upto_region 14 with (go_at_call 37; refine (subset_Run.calls KR D1 d1 N1 D2 d2 F1 0 Ac cc cl (s1 : Int) 0 W13 (Kd.R_reads' HP.out.r1).2.2 (Kd.R_reads' HP.out.r1).2.1 (Kd.R_reads' HP.out.r2).2.2 (Kd.R_reads' HP.out.r2).2.1 (Kd.C_below HCL.out HB.out) HCLL.out HRUN.out).mono ?_; rintro e U1a ⟨rfl, hb⟩; have HBq := Aside0.mk (HB.out.trans (hb.mono HB.out.size)); have HPq := Aside0.mk (HP.out.later hb); have HQq := Aside0.mk (HQ.out.later hb); have HNq := Aside0.mk (HN.out.later hb); have HVq := Aside0.mk (Kd.R_below HV.out hb); clear hb z0 z1)
      clear HB HP HQ HN HV
      have HB := Aside0.mk HBq.out
      have HP := Aside0.mk HPq.out
      have HQ := Aside0.mk HQq.out
      have HN := Aside0.mk HNq.out
      have HV := Aside0.mk HVq.out
      clear HBq HPq HQq HNq HVq
      clear HRUN HR
      have hbd := below_drew (Below.refl U1a.heap.size U1a)
      have HBq := Aside0.mk (HB.out.trans (hbd.mono HB.out.size))
      have HPq := Aside0.mk (HP.out.later hbd)
      have HQq := Aside0.mk (HQ.out.later hbd)
      have HNq := Aside0.mk (HN.out.later hbd)
      have HVq := Aside0.mk (Kd.R_below HV.out hbd)
      clear hbd
      clear HB HP HQ HN HV
      have HB := Aside0.mk HBq.out
      have HP := Aside0.mk HPq.out
      have HQ := Aside0.mk HQq.out
      have HN := Aside0.mk HNq.out
      have HV := Aside0.mk HVq.out
      clear HBq HPq HQq HNq HVq
      obtain ⟨ad, ea, hx⟩ := Kd.at_bool (Kd.R_reads' HP.out.r2).2.2 (s1 : Int) (Int.natCast_nonneg s1) (by have := HSL.out; omega)
      rw [Int.toNat_natCast] at hx
      subst ea
      rw [show rdOf false F1 (s1 : Int) = F1.getD s1 false from rfl] at hx
      obtain ⟨u, hu⟩ : ∃ u, u = F1.getD s1 false := ⟨_, rfl⟩
      rw [← hu] at hx HLAW
      have HX := Aside0.mk hx
      clear hu hx
      have f1 : (s1 : Int) < (F1.length : Int) := by have := HSL.out; omega
      have f2 : decide ((s1 : Int) < (F1.length : Int)) = true := decide_eq_true f1
      have f3 : s1 < F1.length := HSL.out
      have f4 : (0 : Int) ≤ (s1 : Int) := Int.natCast_nonneg s1
      refine wp_region_noPanic ?_
      refine start_ (n := 13) (S := fun w' => w'.cell? ⟨B2, 0, none⟩ = some (.slice D1 N1.length d1) ∧ w'.cell? ⟨B2, 1, none⟩ = some (.slice (some ad) F1.length d2) ∧ w'.cell? (ad.add s1) = some (.bool u) ∧ w'.cell? ⟨NB, 0, none⟩ = some (.int .i64 x.f0) ∧ w'.cell? ⟨NB, 1, none⟩ = some (.int .i64 x.f1) ∧ w'.cell? ⟨NB, 2, none⟩ = some (.slice A x.f2.length c)) (ds := []) #[false, false, false, false, false, false, false, false, false, false, false, false, false] (by kernel_rfl) rfl rfl ⟨HP.out.cells.1, HP.out.cells.2, HX.out, (blk_cell HN.out.blk 0).trans rfl, (blk_cell HN.out.blk 1).trans rfl, (blk_cell HN.out.blk 2).trans rfl⟩ (fun hHeld => ?_); refine with_tabW swa_tab14 swa_bits14 (fun HT_ HW_ => ?_)
      obtain ⟨U1b, hU1b⟩ : ∃ w, U1a.drew = w := ⟨_, rfl⟩
      rw [hU1b] at HB HP HQ HN HV HX hHeld ⊢
      clear hU1b
      refine pure_ (i := 0) (N := some 75) (v := ?_) (a' := ?_) #[true, false, false, false, false, false, false, false, false, false, false, false, false] rfl rfl (any_of HT_.out (by kernel_rfl)) (fun _ _ _ h => h) (Or.inl ⟨by rfl, ?_⟩) ?_ ?_
      rotate_left
      · intro w'
        go_simp
        with_reducible rfl
      rotate_left
      · simp only [Act.put, List.setIfInBounds_toArray, List.set_cons_zero, List.set_cons_succ, i64_w, i32_w]
        rfl
      refine pure_ (i := 1) (N := some 76) (v := ?_) (a' := ?_) #[true, true, false, false, false, false, false, false, false, false, false, false, false] rfl rfl (any_of HT_.out (by kernel_rfl)) (fun _ _ _ h => h) (Or.inl ⟨by rfl, ?_⟩) ?_ ?_
      rotate_left
      · intro w'
        go_simp
        with_reducible rfl
      rotate_left
      · simp only [Act.put, List.setIfInBounds_toArray, List.set_cons_zero, List.set_cons_succ, i64_w, i32_w]
        rfl
      refine pure_ (i := 2) (N := some 77) (v := ?_) (a' := ?_) #[true, true, true, false, false, false, false, false, false, false, false, false, false] rfl rfl (any_of HT_.out (by kernel_rfl)) (fun _ _ _ h => h) (Or.inl ⟨by rfl, ?_⟩) ?_ ?_
      rotate_left
      · intro w'
        go_simp
        with_reducible rfl
      rotate_left
      · simp only [Act.put, List.setIfInBounds_toArray, List.set_cons_zero, List.set_cons_succ, i64_w, i32_w]
        rfl
      refine pure_ (i := 3) (N := some 78) (v := ?_) (a' := ?_) #[true, true, true, true, false, false, false, false, false, false, false, false, false] rfl rfl (any_of HT_.out (by kernel_rfl)) (fun _ _ _ h => h) (Or.inl ⟨by rfl, ?_⟩) ?_ ?_
      rotate_left
      · intro w'
        go_simp
        with_reducible rfl
      rotate_left
      · simp only [Act.put, List.setIfInBounds_toArray, List.set_cons_zero, List.set_cons_succ, i64_w, i32_w]
        rfl
      refine pure_ (i := 5) (N := some 80) (v := ?_) (a' := ?_) #[true, true, true, true, false, true, false, false, false, false, false, false, false] rfl rfl (any_of HT_.out (by kernel_rfl)) (fun _ _ _ h => h) (Or.inl ⟨by rfl, ?_⟩) ?_ ?_
      rotate_left
      · intro w'
        go_simp
        with_reducible rfl
      rotate_left
      · simp only [Act.put, List.setIfInBounds_toArray, List.set_cons_zero, List.set_cons_succ, i64_w, i32_w]
        rfl
      refine pure_ (i := 9) (N := some 84) (v := ?_) (a' := ?_) #[true, true, true, true, false, true, false, false, false, true, false, false, false] rfl rfl (any_of HT_.out (by kernel_rfl)) (fun _ _ _ h => h) (Or.inl ⟨by rfl, ?_⟩) ?_ ?_
      rotate_left
      · intro w'
        go_simp
        with_reducible rfl
      rotate_left
      · simp only [Act.put, List.setIfInBounds_toArray, List.set_cons_zero, List.set_cons_succ, i64_w, i32_w]
        rfl
      refine take_ (i := 4) (N := some 79) (v := ?_) (a' := ?_) #[true, true, true, true, true, true, false, false, false, true, false, false, false] rfl rfl (take_ofW HT_.out HW_.out (by kernel_rfl)) (fun _ _ _ h => h) (Or.inl ⟨by rfl, ?_⟩) hHeld ?_ ?_
      rotate_left
      · rintro w' ⟨s0, s1, s2, s3, s4, s5⟩
        go_simp
        with_reducible rfl
      rotate_left
      · simp only [Act.put, List.setIfInBounds_toArray, List.set_cons_zero, List.set_cons_succ, i64_w, i32_w]
        rfl
      refine pure_ (i := 6) (N := some 81) (v := ?_) (a' := ?_) #[true, true, true, true, true, true, true, false, false, true, false, false, false] rfl rfl (any_of HT_.out (by kernel_rfl)) (fun _ _ _ h => h) (Or.inl ⟨by rfl, ?_⟩) ?_ ?_
      rotate_left
      · intro w'
        go_simp
        with_reducible rfl
      rotate_left
      · simp only [Act.put, List.setIfInBounds_toArray, List.set_cons_zero, List.set_cons_succ, i64_w, i32_w]
        rfl
      refine take_ (i := 7) (N := some 82) (v := ?_) (a' := ?_) #[true, true, true, true, true, true, true, true, false, true, false, false, false] rfl rfl (take_ofW HT_.out HW_.out (by kernel_rfl)) (fun _ _ _ h => h) (Or.inl ⟨by rfl, ?_⟩) hHeld ?_ ?_
      rotate_left
      · rintro w' ⟨s0, s1, s2, s3, s4, s5⟩
        go_simp
        with_reducible rfl
      rotate_left
      · simp only [Act.put, List.setIfInBounds_toArray, List.set_cons_zero, List.set_cons_succ, i64_w, i32_w]
        rfl
      refine take_ (i := 8) (N := some 83) (v := ?_) (a' := ?_) #[true, true, true, true, true, true, true, true, true, true, false, false, false] rfl rfl (take_ofW HT_.out HW_.out (by kernel_rfl)) (fun _ _ _ h => h) (Or.inl ⟨by rfl, ?_⟩) hHeld ?_ ?_
      rotate_left
      · rintro w' ⟨s0, s1, s2, s3, s4, s5⟩
        go_simp
        with_reducible rfl
      rotate_left
      · simp only [Act.put, List.setIfInBounds_toArray, List.set_cons_zero, List.set_cons_succ, i64_w, i32_w]
        rfl
      refine one_ (i := 10) (N := some 85) #[true, true, true, true, true, true, true, true, true, true, true, false, false] rfl rfl (one_of HT_.out (by kernel_rfl)) (by decide) (fun K hK => ?_)
      refine goes_ Try.func22 (by kernel_rfl) rfl #[.agg #[.int .i64 x.f0, .int .i64 x.f1, .slice A x.f2.length c], .slice A5 wl.length c5] (by rfl) rfl rfl (by (try simp only [List.map_toArray, List.map_cons, List.map_nil]); first | done | rfl) ?_
      refine (whole_calls x U1b A c A5 c5 wl (Kd.C_below HC.out HB.out) HCC.out (Kd.R_reads' HV.out).2.2 (Kd.R_reads' HV.out).2.1 HWLN.out u HLAW.out).mono ?_
      rintro e_ U1c ⟨rfl, hb⟩
      have HBq := Aside0.mk (HB.out.trans (hb.mono HB.out.size))
      have HPq := Aside0.mk (HP.out.later hb)
      have HQq := Aside0.mk (HQ.out.later hb)
      have HNq := Aside0.mk (HN.out.later hb)
      have HVq := Aside0.mk (Kd.R_below HV.out hb)
      have HXq := Aside0.mk (cell_keep hb HX.out)
      clear hb
      refine ⟨_, rfl, ?_⟩
      refine hK.out _ _ ⟨HPq.out.cells.1, HPq.out.cells.2, HXq.out, (blk_cell HNq.out.blk 0).trans rfl, (blk_cell HNq.out.blk 1).trans rfl, (blk_cell HNq.out.blk 2).trans rfl⟩ (fun hHeld => ?_)
      clear HB HP HQ HN HV
      have HB := Aside0.mk HBq.out
      have HP := Aside0.mk HPq.out
      have HQ := Aside0.mk HQq.out
      have HN := Aside0.mk HNq.out
      have HV := Aside0.mk HVq.out
      clear HBq HPq HQq HNq HVq
      clear HX HXq
      clear hK K
      refine norm_ (a' := ?_) ?_ ?_
      rotate_left
      · show Act.put _ (some 85) _ = _
        simp only [Act.put, List.setIfInBounds_toArray, List.set_cons_zero, List.set_cons_succ, i64_w, i32_w]
        rfl
      refine pure_ (i := 11) (N := some 86) (v := ?_) (a' := ?_) #[true, true, true, true, true, true, true, true, true, true, true, true, false] rfl rfl (any_of HT_.out (by kernel_rfl)) (fun _ _ _ h => h) (Or.inl ⟨by rfl, ?_⟩) ?_ ?_
      rotate_left
      · intro w'
        go_simp
        with_reducible rfl
      rotate_left
      · simp only [Act.put, List.setIfInBounds_toArray, List.set_cons_zero, List.set_cons_succ, i64_w, i32_w]
        rfl
      refine pure_ (i := 12) (N := some 87) (v := ?_) (a' := ?_) #[true, true, true, true, true, true, true, true, true, true, true, true, true] rfl rfl (any_of HT_.out (by kernel_rfl)) (fun _ _ _ h => h) (Or.inl ⟨by rfl, ?_⟩) ?_ ?_
      rotate_left
      · intro w'
        go_simp
        with_reducible rfl
      rotate_left
      · simp only [Act.put, List.setIfInBounds_toArray, List.set_cons_zero, List.set_cons_succ, i64_w, i32_w]
        rfl
      refine done_ (done_of HT_.out (by kernel_rfl)) ?_
      refine NoPanic.normal ?_
      clear HT_ HW_ hHeld
      have fu : (u != u) = false := by cases u <;> rfl
      clear f1 f2 f3 f4 HSL HLAW
      rcases HE2.out with he2 | he2
      case inr =>
        subst he2
        go_wp2_with fail
        go_ret
        exact ⟨rfl, HB.out⟩
      case inl =>
        subst he2
        have HR := Aside0.mk (subsetR_right HD2.out HM1.out (by have := HFEW.out.2; omega))
        obtain ⟨fs, hs, hz⟩ := subsetR_sem r masks true 100 HD2.out
        obtain ⟨s2, g1, g2, g3⟩ := runD_sem r masks true hs HR.out hz cl (fun t ht => HIC.out.2 t ht)
        obtain ⟨KR, hKR⟩ := run_f N2 F2 0 cl (by have := HIC.out.1; omega)
        have HRUN := Aside0.mk (show subset_Run.f KR N2 F2 0 cl = some ((s2 : Int), 0) from (hKR KR (Nat.le_refl _)).trans (congrArg some g1))
        have HSL := Aside0.mk (show s2 < F2.length by rw [((rightD_iff N2 F2).1 HR.out).fl]; exact g2)
        rw [behind_fold, ← HWD.out] at g3
        have HLAW := Aside0.mk (show (F2.getD s2 false = true ↔ rightN x = true ∧ ∃ i, i ≤ wl.length ∧ WayN (hitM wl) x i wl.length) from by rw [g3]; exact (words_law HRR.out HTL.out wl HWU.out true).trans ⟨fun ⟨i0, h1, h2⟩ => ⟨HRR.out, i0, way_le HRR.out wl HTL.out h2, h2⟩, fun ⟨_, i, _, h⟩ => ⟨i, .inl rfl, h⟩⟩)
        clear hs hz g1 g2 g3 hKR
        have z0 := HQ.out.cells.1
        have z1 := HQ.out.cells.2
        go_upto_region 18 with (go_at_call 37; refine (subset_Run.calls KR D3 d3 N2 D4 d4 F2 0 Ac cc cl (s2 : Int) 0 U1c (Kd.R_reads' HQ.out.r1).2.2 (Kd.R_reads' HQ.out.r1).2.1 (Kd.R_reads' HQ.out.r2).2.2 (Kd.R_reads' HQ.out.r2).2.1 (Kd.C_below HCL.out HB.out) HCLL.out HRUN.out).mono ?_; rintro e U2a ⟨rfl, hb⟩; have HBq := Aside0.mk (HB.out.trans (hb.mono HB.out.size)); have HPq := Aside0.mk (HP.out.later hb); have HQq := Aside0.mk (HQ.out.later hb); have HNq := Aside0.mk (HN.out.later hb); have HVq := Aside0.mk (Kd.R_below HV.out hb); clear hb z0 z1)
        clear HB HP HQ HN HV
        have HB := Aside0.mk HBq.out
        have HP := Aside0.mk HPq.out
        have HQ := Aside0.mk HQq.out
        have HN := Aside0.mk HNq.out
        have HV := Aside0.mk HVq.out
        clear HBq HPq HQq HNq HVq
        clear HRUN HR
        have hbd := below_drew (Below.refl U2a.heap.size U2a)
        have HBq := Aside0.mk (HB.out.trans (hbd.mono HB.out.size))
        have HPq := Aside0.mk (HP.out.later hbd)
        have HQq := Aside0.mk (HQ.out.later hbd)
        have HNq := Aside0.mk (HN.out.later hbd)
        have HVq := Aside0.mk (Kd.R_below HV.out hbd)
        clear hbd
        clear HB HP HQ HN HV
        have HB := Aside0.mk HBq.out
        have HP := Aside0.mk HPq.out
        have HQ := Aside0.mk HQq.out
        have HN := Aside0.mk HNq.out
        have HV := Aside0.mk HVq.out
        clear HBq HPq HQq HNq HVq
        obtain ⟨ad, ea, hx⟩ := Kd.at_bool (Kd.R_reads' HQ.out.r2).2.2 (s2 : Int) (Int.natCast_nonneg s2) (by have := HSL.out; omega)
        rw [Int.toNat_natCast] at hx
        subst ea
        rw [show rdOf false F2 (s2 : Int) = F2.getD s2 false from rfl] at hx
        obtain ⟨u, hu⟩ : ∃ u, u = F2.getD s2 false := ⟨_, rfl⟩
        rw [← hu] at hx HLAW
        have HX := Aside0.mk hx
        clear hu hx
        have f1 : (s2 : Int) < (F2.length : Int) := by have := HSL.out; omega
        have f2 : decide ((s2 : Int) < (F2.length : Int)) = true := decide_eq_true f1
        have f3 : s2 < F2.length := HSL.out
        have f4 : (0 : Int) ≤ (s2 : Int) := Int.natCast_nonneg s2
        refine wp_region_noPanic ?_
        refine start_ (n := 13) (S := fun w' => w'.cell? ⟨B3, 0, none⟩ = some (.slice D3 N2.length d3) ∧ w'.cell? ⟨B3, 1, none⟩ = some (.slice (some ad) F2.length d4) ∧ w'.cell? (ad.add s2) = some (.bool u) ∧ w'.cell? ⟨NB, 0, none⟩ = some (.int .i64 x.f0) ∧ w'.cell? ⟨NB, 1, none⟩ = some (.int .i64 x.f1) ∧ w'.cell? ⟨NB, 2, none⟩ = some (.slice A x.f2.length c)) (ds := []) #[false, false, false, false, false, false, false, false, false, false, false, false, false] (by kernel_rfl) rfl rfl ⟨HQ.out.cells.1, HQ.out.cells.2, HX.out, (blk_cell HN.out.blk 0).trans rfl, (blk_cell HN.out.blk 1).trans rfl, (blk_cell HN.out.blk 2).trans rfl⟩ (fun hHeld => ?_); refine with_tabW swb_tab18 swb_bits18 (fun HT_ HW_ => ?_)
        obtain ⟨U2b, hU2b⟩ : ∃ w, U2a.drew = w := ⟨_, rfl⟩
        rw [hU2b] at HB HP HQ HN HV HX hHeld ⊢
        clear hU2b
        refine pure_ (i := 0) (N := some 96) (v := ?_) (a' := ?_) #[true, false, false, false, false, false, false, false, false, false, false, false, false] rfl rfl (any_of HT_.out (by kernel_rfl)) (fun _ _ _ h => h) (Or.inl ⟨by rfl, ?_⟩) ?_ ?_
        rotate_left
        · intro w'
          go_simp
          with_reducible rfl
        rotate_left
        · simp only [Act.put, List.setIfInBounds_toArray, List.set_cons_zero, List.set_cons_succ, i64_w, i32_w]
          rfl
        refine pure_ (i := 1) (N := some 97) (v := ?_) (a' := ?_) #[true, true, false, false, false, false, false, false, false, false, false, false, false] rfl rfl (any_of HT_.out (by kernel_rfl)) (fun _ _ _ h => h) (Or.inl ⟨by rfl, ?_⟩) ?_ ?_
        rotate_left
        · intro w'
          go_simp
          with_reducible rfl
        rotate_left
        · simp only [Act.put, List.setIfInBounds_toArray, List.set_cons_zero, List.set_cons_succ, i64_w, i32_w]
          rfl
        refine pure_ (i := 2) (N := some 98) (v := ?_) (a' := ?_) #[true, true, true, false, false, false, false, false, false, false, false, false, false] rfl rfl (any_of HT_.out (by kernel_rfl)) (fun _ _ _ h => h) (Or.inl ⟨by rfl, ?_⟩) ?_ ?_
        rotate_left
        · intro w'
          go_simp
          with_reducible rfl
        rotate_left
        · simp only [Act.put, List.setIfInBounds_toArray, List.set_cons_zero, List.set_cons_succ, i64_w, i32_w]
          rfl
        refine pure_ (i := 3) (N := some 99) (v := ?_) (a' := ?_) #[true, true, true, true, false, false, false, false, false, false, false, false, false] rfl rfl (any_of HT_.out (by kernel_rfl)) (fun _ _ _ h => h) (Or.inl ⟨by rfl, ?_⟩) ?_ ?_
        rotate_left
        · intro w'
          go_simp
          with_reducible rfl
        rotate_left
        · simp only [Act.put, List.setIfInBounds_toArray, List.set_cons_zero, List.set_cons_succ, i64_w, i32_w]
          rfl
        refine pure_ (i := 5) (N := some 101) (v := ?_) (a' := ?_) #[true, true, true, true, false, true, false, false, false, false, false, false, false] rfl rfl (any_of HT_.out (by kernel_rfl)) (fun _ _ _ h => h) (Or.inl ⟨by rfl, ?_⟩) ?_ ?_
        rotate_left
        · intro w'
          go_simp
          with_reducible rfl
        rotate_left
        · simp only [Act.put, List.setIfInBounds_toArray, List.set_cons_zero, List.set_cons_succ, i64_w, i32_w]
          rfl
        refine pure_ (i := 9) (N := some 105) (v := ?_) (a' := ?_) #[true, true, true, true, false, true, false, false, false, true, false, false, false] rfl rfl (any_of HT_.out (by kernel_rfl)) (fun _ _ _ h => h) (Or.inl ⟨by rfl, ?_⟩) ?_ ?_
        rotate_left
        · intro w'
          go_simp
          with_reducible rfl
        rotate_left
        · simp only [Act.put, List.setIfInBounds_toArray, List.set_cons_zero, List.set_cons_succ, i64_w, i32_w]
          rfl
        refine take_ (i := 4) (N := some 100) (v := ?_) (a' := ?_) #[true, true, true, true, true, true, false, false, false, true, false, false, false] rfl rfl (take_ofW HT_.out HW_.out (by kernel_rfl)) (fun _ _ _ h => h) (Or.inl ⟨by rfl, ?_⟩) hHeld ?_ ?_
        rotate_left
        · rintro w' ⟨s0, s1, s2, s3, s4, s5⟩
          go_simp
          with_reducible rfl
        rotate_left
        · simp only [Act.put, List.setIfInBounds_toArray, List.set_cons_zero, List.set_cons_succ, i64_w, i32_w]
          rfl
        refine pure_ (i := 6) (N := some 102) (v := ?_) (a' := ?_) #[true, true, true, true, true, true, true, false, false, true, false, false, false] rfl rfl (any_of HT_.out (by kernel_rfl)) (fun _ _ _ h => h) (Or.inl ⟨by rfl, ?_⟩) ?_ ?_
        rotate_left
        · intro w'
          go_simp
          with_reducible rfl
        rotate_left
        · simp only [Act.put, List.setIfInBounds_toArray, List.set_cons_zero, List.set_cons_succ, i64_w, i32_w]
          rfl
        refine take_ (i := 7) (N := some 103) (v := ?_) (a' := ?_) #[true, true, true, true, true, true, true, true, false, true, false, false, false] rfl rfl (take_ofW HT_.out HW_.out (by kernel_rfl)) (fun _ _ _ h => h) (Or.inl ⟨by rfl, ?_⟩) hHeld ?_ ?_
        rotate_left
        · rintro w' ⟨s0, s1, s2, s3, s4, s5⟩
          go_simp
          with_reducible rfl
        rotate_left
        · simp only [Act.put, List.setIfInBounds_toArray, List.set_cons_zero, List.set_cons_succ, i64_w, i32_w]
          rfl
        refine take_ (i := 8) (N := some 104) (v := ?_) (a' := ?_) #[true, true, true, true, true, true, true, true, true, true, false, false, false] rfl rfl (take_ofW HT_.out HW_.out (by kernel_rfl)) (fun _ _ _ h => h) (Or.inl ⟨by rfl, ?_⟩) hHeld ?_ ?_
        rotate_left
        · rintro w' ⟨s0, s1, s2, s3, s4, s5⟩
          go_simp
          with_reducible rfl
        rotate_left
        · simp only [Act.put, List.setIfInBounds_toArray, List.set_cons_zero, List.set_cons_succ, i64_w, i32_w]
          rfl
        refine one_ (i := 10) (N := some 106) #[true, true, true, true, true, true, true, true, true, true, true, false, false] rfl rfl (one_of HT_.out (by kernel_rfl)) (by decide) (fun K hK => ?_)
        refine goes_ Try.func42 (by kernel_rfl) rfl #[.agg #[.int .i64 x.f0, .int .i64 x.f1, .slice A x.f2.length c], .slice A5 wl.length c5] (by rfl) rfl rfl (by (try simp only [List.map_toArray, List.map_cons, List.map_nil]); first | done | rfl) ?_
        refine (suffix_calls x U2b A c A5 c5 wl (Kd.C_below HC.out HB.out) HCC.out (Kd.R_reads' HV.out).2.2 (Kd.R_reads' HV.out).2.1 HWLN.out u HLAW.out).mono ?_
        rintro e_ U2c ⟨rfl, hb⟩
        have HBq := Aside0.mk (HB.out.trans (hb.mono HB.out.size))
        have HPq := Aside0.mk (HP.out.later hb)
        have HQq := Aside0.mk (HQ.out.later hb)
        have HNq := Aside0.mk (HN.out.later hb)
        have HVq := Aside0.mk (Kd.R_below HV.out hb)
        have HXq := Aside0.mk (cell_keep hb HX.out)
        clear hb
        refine ⟨_, rfl, ?_⟩
        refine hK.out _ _ ⟨HQq.out.cells.1, HQq.out.cells.2, HXq.out, (blk_cell HNq.out.blk 0).trans rfl, (blk_cell HNq.out.blk 1).trans rfl, (blk_cell HNq.out.blk 2).trans rfl⟩ (fun hHeld => ?_)
        clear HB HP HQ HN HV
        have HB := Aside0.mk HBq.out
        have HP := Aside0.mk HPq.out
        have HQ := Aside0.mk HQq.out
        have HN := Aside0.mk HNq.out
        have HV := Aside0.mk HVq.out
        clear HBq HPq HQq HNq HVq
        clear HX HXq
        clear hK K
        refine norm_ (a' := ?_) ?_ ?_
        rotate_left
        · show Act.put _ (some 106) _ = _
          simp only [Act.put, List.setIfInBounds_toArray, List.set_cons_zero, List.set_cons_succ, i64_w, i32_w]
          rfl
        refine pure_ (i := 11) (N := some 107) (v := ?_) (a' := ?_) #[true, true, true, true, true, true, true, true, true, true, true, true, false] rfl rfl (any_of HT_.out (by kernel_rfl)) (fun _ _ _ h => h) (Or.inl ⟨by rfl, ?_⟩) ?_ ?_
        rotate_left
        · intro w'
          go_simp
          with_reducible rfl
        rotate_left
        · simp only [Act.put, List.setIfInBounds_toArray, List.set_cons_zero, List.set_cons_succ, i64_w, i32_w]
          rfl
        refine pure_ (i := 12) (N := some 108) (v := ?_) (a' := ?_) #[true, true, true, true, true, true, true, true, true, true, true, true, true] rfl rfl (any_of HT_.out (by kernel_rfl)) (fun _ _ _ h => h) (Or.inl ⟨by rfl, ?_⟩) ?_ ?_
        rotate_left
        · intro w'
          go_simp
          with_reducible rfl
        rotate_left
        · simp only [Act.put, List.setIfInBounds_toArray, List.set_cons_zero, List.set_cons_succ, i64_w, i32_w]
          rfl
        refine done_ (done_of HT_.out (by kernel_rfl)) ?_
        refine NoPanic.normal ?_
        clear HT_ HW_ hHeld
        have fu : (u != u) = false := by cases u <;> rfl
        clear f1 f2 f3 f4 HSL HLAW
        go_wp2_with fail
        go_ret
        exact ⟨rfl, HB.out⟩
end Go.Proofs.Ytemlgmkbonpniaa.Print
