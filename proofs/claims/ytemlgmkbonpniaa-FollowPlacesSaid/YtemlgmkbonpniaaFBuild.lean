/- follow.Build. -/
import Derived.Test.YtemlgmkbonpniaaFLeaf
import Derived.Test.YtemlgmkbonpniaaFCount
import Derived.Test.YtemlgmkbonpniaaMRight
namespace Go.Proofs.Ytemlgmkbonpniaa.Print
open Go.RowKit Go.Maps Go.Proofs.YtemlgmkbonpniaaW.PrintWords Go.Proofs.YtemlgmkbonpniaaW.PrintLast Go.Proofs.YtemlgmkbonpniaaW.PrintMore
set_option linter.unusedVariables false
set_option linter.unusedSimpArgs false
def fbl_T7 : Bool × List (List Nat × List Nat) := (true, [([], []), ([0], [0]), ([], []), ([2], [2]), ([], []), ([4], [4]), ([0, 1], []), ([6, 1, 0, 1], [1, 6]), ([0, 1, 2, 3, 6, 7], []), ([8, 3, 7, 0, 1, 2, 3, 6, 7], [3, 8]), ([0, 1, 2, 3, 4, 5, 6, 7, 8, 9], []), ([10, 5, 9, 0, 1, 2, 3, 4, 5, 6, 7, 8, 9], [5, 10])])
def fbl_B7 : List Nat := [0, 1, 0, 4, 0, 16, 3, 67, 207, 463, 1023, 2047]
theorem fbl_tab7 : rtab .any (opsOf Try.f18 7) = fbl_T7 := by kernel_rfl
theorem fbl_bits7 : waitsOk fbl_T7.2 fbl_B7 = true := by kernel_rfl
theorem F.fnode_ok (w0 : World) (MB : Nat) : ∀ x, rightN x = true → F.NodeOK w0 MB x := by
 refine node_ind (P := fun x => rightN x = true → F.NodeOK w0 MB x) (fun x ih hr => ?_)
 obtain ⟨k, s, kids⟩ := x
 replace ih : ∀ y ∈ kids, rightN y = true → F.NodeOK w0 MB y := ih
 rw [rightN] at hr
 by_cases q1 : k = 1
 ·subst q1; exact F.node_leaf s kids
 rw [if_neg q1] at hr
 by_cases q0 : k = 0
 ·subst q0
  rw [if_pos rfl] at hr
  exact F.node_cat s kids (fun y hy => ih y hy (rightL_mem hr y hy))
 rw [if_neg q0] at hr
 by_cases q2 : k = 2
 ·subst q2
  rw [if_pos rfl, Bool.and_eq_true] at hr
  exact F.node_alt s kids (fun y hy => ih y hy (rightL_mem hr.2 y hy))
 rw [if_neg q2] at hr
 by_cases q3 : k = 3 ∨ k = 4 ∨ k = 5
 ·rw [if_pos q3, Bool.and_eq_true] at hr
  have h1 := of_decide_eq_true hr.1
  rcases q3 with rfl | rfl | rfl
  ·exact F.node_sign3 s kids (fun y hy => ih y hy (rightL_mem hr.2 y hy)) h1
  ·exact F.node_sign4 s kids (fun y hy => ih y hy (rightL_mem hr.2 y hy)) h1
  ·exact F.node_sign5 s kids (fun y hy => ih y hy (rightL_mem hr.2 y hy)) h1
 ·rw [if_neg q3] at hr; cases hr
set_option maxHeartbeats 16000000 in
set_option maxRecDepth 100000 in
theorem fbuild_calls (x : S24) (W : World) (A : Option Addr) (c : Nat) (hC : Kd.C k24 W A x.f2.length x.f2) (hc : x.f2.length ≤ c) (hm : cnt x ≤ 1000000) :
  Calls Try.prog 18 #[.agg #[.int .i64 x.f0, .int .i64 x.f1, .slice A x.f2.length c]] W (BuildPost W (buildR x)) := by
 have HC := Aside0.mk hC
 have HCC := Aside0.mk hc
 have HCM := Aside0.mk hm
 have HRT := Aside0.mk (mright_ok x)
 clear hC hc hm
 go_enter Try.func18, Try.ntmps18
 go_upto_region 1 with fail
 have hsz : (W.alloc (.cells #[.int .i64 x.f0, .int .i64 x.f1, .slice A x.f2.length c] 24)).heap.size = W.heap.size + 1 := Array.size_push _
 have HNB0 := Aside0.mk (blk_below (blk_new W (.cells #[.int .i64 x.f0, .int .i64 x.f1, .slice A x.f2.length c] 24)) (below_alloc (Below.refl _ _) (.cells #[.bool false, .slice none 0 0, .slice none 0 0, .slice none 0 0, .slice none 0 0] 30)))
 have HRB0 := Aside0.mk (blk_new (W.alloc (.cells #[.int .i64 x.f0, .int .i64 x.f1, .slice A x.f2.length c] 24)) (.cells #[.bool false, .slice none 0 0, .slice none 0 0, .slice none 0 0, .slice none 0 0] 30))
 rw [hsz] at HRB0
 have HB0 := Aside0.mk (below_alloc (below_alloc (Below.refl W.heap.size W) (.cells #[.int .i64 x.f0, .int .i64 x.f1, .slice A x.f2.length c] 24)) (.cells #[.bool false, .slice none 0 0, .slice none 0 0, .slice none 0 0, .slice none 0 0] 30))
 have HRW := Aside0.mk (show W.heap.size ≤ W.heap.size + 1 from Nat.le_succ _)
 clear hsz
 obtain ⟨RB, hRB⟩ : ∃ n, W.heap.size + 1 = n := ⟨_, rfl⟩
 obtain ⟨NB, hNB⟩ : ∃ n, W.heap.size = n := ⟨_, rfl⟩
 obtain ⟨W1, hW1⟩ : ∃ w, (W.alloc (.cells #[.int .i64 x.f0, .int .i64 x.f1, .slice A x.f2.length c] 24)).alloc (.cells #[.bool false, .slice none 0 0, .slice none 0 0, .slice none 0 0, .slice none 0 0] 30) = w := ⟨_, rfl⟩
 rw [hNB, hW1] at HNB0
 rw [hRB, hW1] at HRB0
 rw [hW1] at HB0
 rw [hRB] at HRW
 rw [hW1]
 rw [hRB, hNB]
 clear hRB hNB hW1
 have n0 := (blk_cell HNB0.out 0).trans rfl
 have n1 := (blk_cell HNB0.out 1).trans rfl
 have n2 := (blk_cell HNB0.out 2).trans rfl
 have HCALL := Aside0.mk (HRT.out W1 A c (Kd.C_below HC.out HB0.out) HCC.out)
 cases hq : rightN x
 case false =>
  rw [hq] at HCALL
  have HQ := Aside0.mk (show buildR x = (false, [], [], [], [], 1) by unfold buildR; rw [if_pos hq])
  clear hq
  go_upto_region 2 with (go_at_call 46; refine HCALL.out.mono ?_; rintro e W2 ⟨rfl, hb2⟩; have HB := Aside0.mk (HB0.out.trans (hb2.mono HB0.out.size)); have HNB := Aside0.mk (blk_below HNB0.out hb2); have HRB := Aside0.mk (blk_below HRB0.out hb2); clear hb2 n0 n1 n2)
  clear HNB0 HRB0 HB0 HCALL
  have y0 := (blk_cell HRB.out 0).trans rfl
  have g0 := blk_frozen HRB.out 0
  have y1 := (blk_cell HRB.out 1).trans rfl
  have g1 := blk_frozen HRB.out 1
  have y2 := (blk_cell HRB.out 2).trans rfl
  have g2 := blk_frozen HRB.out 2
  have y3 := (blk_cell HRB.out 3).trans rfl
  have g3 := blk_frozen HRB.out 3
  have y4 := (blk_cell HRB.out 4).trans rfl
  have g4 := blk_frozen HRB.out 4
  go_wp2_with fail
  clear y0 y1 y2 y3 y4 g0 g1 g2 g3 g4
  have HBK := Aside0.mk (blk5 (u0 := .bool false) (u1 := .slice none 0 0) (u2 := .slice none 0 0) (u3 := .slice none 0 0) (u4 := .slice none 0 0) HRB.out)
  have HBE := Aside0.mk (HB.out.trans (below5 (u0 := .bool false) (u1 := .slice none 0 0) (u2 := .slice none 0 0) (u3 := .slice none 0 0) (u4 := .slice none 0 0) (W := W2) HRW.out))
  obtain ⟨W9, hW9⟩ : ∃ w, set5 W2 RB (.bool false) (.slice none 0 0) (.slice none 0 0) (.slice none 0 0) (.slice none 0 0) = w := ⟨_, rfl⟩
  rw [hW9] at HBK HBE
  unfold set5 at hW9
  rw [hW9]
  clear hW9
  refine bodyPost_ret (results_ct rfl _ _ RB 30 #[.bool false, .slice none 0 0, .slice none 0 0, .slice none 0 0, .slice none 0 0] (0, 0) _ rfl HBK.out Try.underlying30 rfl (by kernel_rfl)) rfl ?_
  rw [HQ.out]
  exact ⟨.slice none 0 0, .slice none 0 0, .slice none 0 0, .slice none 0 0, rfl, Kd.R_nil _ _ _ _ _, Kd.R_nil _ _ _ _ _, Kd.R_nil _ _ _ _ _, Kd.R_nil _ _ _ _ _, HBE.out⟩
 case true =>
  rw [hq] at HCALL
  have HR := Aside0.mk hq
  clear hq
  go_upto_region 3 with (go_at_call 46; refine HCALL.out.mono ?_; rintro e W2 ⟨rfl, hb2⟩; have HB := Aside0.mk (HB0.out.trans (hb2.mono HB0.out.size)); have HNB := Aside0.mk (blk_below HNB0.out hb2); have HRB := Aside0.mk (blk_below HRB0.out hb2); clear hb2 n0 n1 n2)
  clear HNB0 HRB0 HB0 HCALL
  have n0 := (blk_cell HNB.out 0).trans rfl
  have n1 := (blk_cell HNB.out 1).trans rfl
  have n2 := (blk_cell HNB.out 2).trans rfl
  by_cases hn : 300 < cnt x
  ·have HQ := Aside0.mk (show buildR x = (false, [], [], [], [], 3) by unfold buildR; rw [if_neg (by rw [HR.out]; decide), if_pos hn])
   have f1 : decide (300 < ((cnt x : Nat) : Int)) = true := decide_eq_true (by omega)
   have f11 : 300 < cnt x := hn
   clear hn
   go_upto_region 4 with (go_at_call 47; refine (count_calls x W2 A c (Kd.C_below HC.out HB.out) HCC.out HCM.out).mono ?_; rintro e W3 ⟨rfl, hb3⟩; have HB' := Aside0.mk (HB.out.trans (hb3.mono HB.out.size)); have HRB' := Aside0.mk (blk_below HRB.out hb3); clear hb3 n0 n1 n2)
   clear HB HRB f1 f11
   have HB := HB'
   have HRB := HRB'
   clear HB' HRB'
   have y0 := (blk_cell HRB.out 0).trans rfl
   have g0 := blk_frozen HRB.out 0
   have y1 := (blk_cell HRB.out 1).trans rfl
   have g1 := blk_frozen HRB.out 1
   have y2 := (blk_cell HRB.out 2).trans rfl
   have g2 := blk_frozen HRB.out 2
   have y3 := (blk_cell HRB.out 3).trans rfl
   have g3 := blk_frozen HRB.out 3
   have y4 := (blk_cell HRB.out 4).trans rfl
   have g4 := blk_frozen HRB.out 4
   go_wp2_with fail
   clear y0 y1 y2 y3 y4 g0 g1 g2 g3 g4
   have HBK := Aside0.mk (blk5 (u0 := .bool false) (u1 := .slice none 0 0) (u2 := .slice none 0 0) (u3 := .slice none 0 0) (u4 := .slice none 0 0) HRB.out)
   have HBE := Aside0.mk (HB.out.trans (below5 (u0 := .bool false) (u1 := .slice none 0 0) (u2 := .slice none 0 0) (u3 := .slice none 0 0) (u4 := .slice none 0 0) (W := W3) HRW.out))
   obtain ⟨W9, hW9⟩ : ∃ w, set5 W3 RB (.bool false) (.slice none 0 0) (.slice none 0 0) (.slice none 0 0) (.slice none 0 0) = w := ⟨_, rfl⟩
   rw [hW9] at HBK HBE
   unfold set5 at hW9
   rw [hW9]
   clear hW9
   refine bodyPost_ret (results_ct rfl _ _ RB 30 #[.bool false, .slice none 0 0, .slice none 0 0, .slice none 0 0, .slice none 0 0] (0, 0) _ rfl HBK.out Try.underlying30 rfl (by kernel_rfl)) rfl ?_
   rw [HQ.out]
   exact ⟨.slice none 0 0, .slice none 0 0, .slice none 0 0, .slice none 0 0, rfl, Kd.R_nil _ _ _ _ _, Kd.R_nil _ _ _ _ _, Kd.R_nil _ _ _ _ _, Kd.R_nil _ _ _ _ _, HBE.out⟩
  ·have f1 : decide (300 < ((cnt x : Nat) : Int)) = false := decide_eq_false (by omega)
   have f11 : ¬ 300 < cnt x := hn
   obtain ⟨r, hr⟩ : ∃ r, r = nodeR x ⟨[], []⟩ := ⟨_, rfl⟩
   have HQ := Aside0.mk (show buildR x = (r.2.null, r.1.sets, r.2.first, r.2.last, r.1.fol, 0) by unfold buildR; rw [if_neg (by rw [HR.out]; decide), if_neg hn, hr])
   have HN := Aside0.mk hn
   clear hn
   go_upto_region 5 with (go_at_call 47; refine (count_calls x W2 A c (Kd.C_below HC.out HB.out) HCC.out HCM.out).mono ?_; rintro e W3 ⟨rfl, hb3⟩; have HB' := Aside0.mk (HB.out.trans (hb3.mono HB.out.size)); have HRB' := Aside0.mk (blk_below HRB.out hb3); have HNB' := Aside0.mk (blk_below HNB.out hb3); clear hb3 n0 n1 n2)
   clear HB HRB HNB f1 f11
   go_upto_region 6 with fail
   have hbn := below_alloc (Below.refl W3.heap.size W3) (.cells #[.bool false, .slice none 0 0, .slice none 0 0, .slice none 0 0, .slice none 0 0] 30)
   have HB := Aside0.mk (HB'.out.trans (hbn.mono HB'.out.size))
   have HRB := Aside0.mk (blk_below HRB'.out hbn)
   have HNB := Aside0.mk (blk_below HNB'.out hbn)
   have HMB := Aside0.mk (blk_new W3 (.cells #[.bool false, .slice none 0 0, .slice none 0 0, .slice none 0 0, .slice none 0 0] 30))
   have HNE := Aside0.mk (show RB ≠ W3.heap.size by have := blk_lt HRB'.out; omega)
   have HBN := Aside0.mk hbn
   have HC3 := Aside0.mk (Kd.C_below HC.out HB'.out)
   have HWW := Aside0.mk (show W.heap.size ≤ W3.heap.size from HB'.out.size)
   clear HNB' hbn
   obtain ⟨MB, hMB⟩ : ∃ n, W3.heap.size = n := ⟨_, rfl⟩
   obtain ⟨W4, hW4⟩ : ∃ w, W3.alloc (.cells #[.bool false, .slice none 0 0, .slice none 0 0, .slice none 0 0, .slice none 0 0] 30) = w := ⟨_, rfl⟩
   rw [hW4] at HB HRB HNB HMB HBN
   rw [hMB] at HMB HNE
   have HMW := Aside0.mk (show W3.heap.size ≤ MB from Nat.le_of_eq hMB)
   rw [hW4, hMB]
   clear hW4 hMB
   have HM := Aside0.mk (show F.Mk W3.heap.size MB [] [] nilV nilV W4 from ⟨HMB.out, Kd.R_nil _ _ _ _ _, Kd.R_nil _ _ _ _ _, HMW.out⟩)
   have HNODE := Aside0.mk (F.fnode_ok W3 MB x HR.out ⟨[], []⟩ nilV nilV W4 A c ⟨rfl, fun l hl => by cases hl⟩ (by have := HN.out; show 0 + cnt x ≤ 300; omega) HM.out HBN.out HC3.out HCC.out)
   rw [← hr] at HNODE
   clear hr
   have n0 := (blk_cell HNB.out 0).trans rfl
   have n1 := (blk_cell HNB.out 1).trans rfl
   have n2 := (blk_cell HNB.out 2).trans rfl
   go_upto_region 7 with (go_at_call 48; refine HNODE.out.mono ?_; rintro e W5 ⟨vS, vF, u1, u2, rfl, hm5, hu1, hu2, ht5⟩; have HM5 := Aside0.mk hm5; have HB5 := Aside0.mk (HB'.out.trans ((HBN.out.trans ht5.below).mono HB'.out.size)); have HRB5 := Aside0.mk (blk_below HRB'.out (HBN.out.trans ht5.below)); obtain ⟨M1, d1, rfl⟩ := Kd.R_slice hu1; obtain ⟨M2, d2, rfl⟩ := Kd.R_slice hu2; have HU1 := Aside0.mk hu1; have HU2 := Aside0.mk hu2; clear hm5 hu1 hu2 ht5 n0 n1 n2)
   clear HB HRB HNB HMB HM HB' HRB' HBN HC3
   obtain ⟨AS, cS, rfl⟩ := Kd.R_slice HM5.out.sets
   obtain ⟨AF, cF, rfl⟩ := Kd.R_slice HM5.out.fol
   have hbn := below_alloc (Below.refl W5.heap.size W5) (.cells #[.bool r.2.null, .slice M1 r.2.first.length d1, .slice M2 r.2.last.length d2] 69)
   have HX6 := Aside0.mk (show F.Edge _ W5.heap.size r.2.null _ _ from blk_new W5 (.cells #[.bool r.2.null, .slice M1 r.2.first.length d1, .slice M2 r.2.last.length d2] 69))
   have HM6 := Aside0.mk (HM5.out.later hbn)
   have HB6 := Aside0.mk (HB5.out.trans (hbn.mono HB5.out.size))
   have HRB6 := Aside0.mk (blk_below HRB5.out hbn)
   have HV1 := Aside0.mk (Kd.R_below HU1.out hbn)
   have HV2 := Aside0.mk (Kd.R_below HU2.out hbn)
   clear hbn HM5 HB5 HRB5 HU1 HU2
   obtain ⟨XB, hXB⟩ : ∃ n, W5.heap.size = n := ⟨_, rfl⟩
   obtain ⟨W6, hW6⟩ : ∃ w, W5.alloc (.cells #[.bool r.2.null, .slice M1 r.2.first.length d1, .slice M2 r.2.last.length d2] 69) = w := ⟨_, rfl⟩
   rw [hXB] at HX6
   rw [hW6] at HX6 HM6 HB6 HRB6 HV1 HV2
   rw [hXB, hW6]
   clear hXB hW6
   have hbd := below_drew (Below.refl W6.heap.size W6)
   have HX7 := Aside0.mk (HX6.out.later hbd)
   have HM7 := Aside0.mk (HM6.out.later hbd)
   have HB7 := Aside0.mk (HB6.out.trans (hbd.mono HB6.out.size))
   have HRB7 := Aside0.mk (blk_below HRB6.out hbd)
   have HV17 := Aside0.mk (Kd.R_below HV1.out hbd)
   have HV27 := Aside0.mk (Kd.R_below HV2.out hbd)
   clear hbd HX6 HM6 HB6 HRB6 HV1 HV2
   have HCL := True.intro
   refine wp_region_noPanic ?_
   refine start_ (n := 12) (S := fun w' => w'.cell? ⟨XB, 0, none⟩ = some (.bool r.2.null) ∧ w'.cell? ⟨XB, 1, none⟩ = some (.slice M1 r.2.first.length d1) ∧ w'.cell? ⟨XB, 2, none⟩ = some (.slice M2 r.2.last.length d2)) (ds := [11]) #[false, false, false, false, false, false, false, false, false, false, false, false] (by kernel_rfl) rfl rfl ⟨HX7.out.cells.1, HX7.out.cells.2.1, HX7.out.cells.2.2⟩ (fun hHeld => ?_); refine with_tabW fbl_tab7 fbl_bits7 (fun HT_ HW_ => ?_)
   obtain ⟨W7, hW7⟩ : ∃ w, W6.drew = w := ⟨_, rfl⟩
   rw [hW7] at HX7 HM7 HB7 HRB7 HV17 HV27 hHeld ⊢
   clear hW7
   refine pure_ (i := 0) (N := some 18) (v := ?_) (a' := ?_) #[true, false, false, false, false, false, false, false, false, false, false, false] rfl rfl (any_of HT_.out (by kernel_rfl)) (fun _ _ _ h => h) (Or.inl ⟨by rfl, ?_⟩) ?_ ?_
   rotate_left
   ·intro w'
    go_simp
    with_reducible rfl
   rotate_left
   ·simp only [Act.put, List.setIfInBounds_toArray, List.set_cons_zero, List.set_cons_succ, i64_w, i32_w]
    rfl
   refine take_ (i := 1) (N := some 19) (v := ?_) (a' := ?_) #[true, true, false, false, false, false, false, false, false, false, false, false] rfl rfl (take_ofW HT_.out HW_.out (by kernel_rfl)) (fun _ _ _ h => h) (Or.inl ⟨by rfl, ?_⟩) hHeld ?_ ?_
   rotate_left
   ·rintro w' ⟨s0, s1, s2⟩
    go_simp
    with_reducible rfl
   rotate_left
   ·simp only [Act.put, List.setIfInBounds_toArray, List.set_cons_zero, List.set_cons_succ, i64_w, i32_w]
    rfl
   refine pure_ (i := 2) (N := some 20) (v := ?_) (a' := ?_) #[true, true, true, false, false, false, false, false, false, false, false, false] rfl rfl (any_of HT_.out (by kernel_rfl)) (fun _ _ _ h => h) (Or.inl ⟨by rfl, ?_⟩) ?_ ?_
   rotate_left
   ·intro w'
    go_simp
    with_reducible rfl
   rotate_left
   ·simp only [Act.put, List.setIfInBounds_toArray, List.set_cons_zero, List.set_cons_succ, i64_w, i32_w]
    rfl
   refine take_ (i := 3) (N := some 21) (v := ?_) (a' := ?_) #[true, true, true, true, false, false, false, false, false, false, false, false] rfl rfl (take_ofW HT_.out HW_.out (by kernel_rfl)) (fun _ _ _ h => h) (Or.inl ⟨by rfl, ?_⟩) hHeld ?_ ?_
   rotate_left
   ·rintro w' ⟨s0, s1, s2⟩
    go_simp
    with_reducible rfl
   rotate_left
   ·simp only [Act.put, List.setIfInBounds_toArray, List.set_cons_zero, List.set_cons_succ, i64_w, i32_w]
    rfl
   refine pure_ (i := 4) (N := some 22) (v := ?_) (a' := ?_) #[true, true, true, true, true, false, false, false, false, false, false, false] rfl rfl (any_of HT_.out (by kernel_rfl)) (fun _ _ _ h => h) (Or.inl ⟨by rfl, ?_⟩) ?_ ?_
   rotate_left
   ·intro w'
    go_simp
    with_reducible rfl
   rotate_left
   ·simp only [Act.put, List.setIfInBounds_toArray, List.set_cons_zero, List.set_cons_succ, i64_w, i32_w]
    rfl
   refine take_ (i := 5) (N := some 23) (v := ?_) (a' := ?_) #[true, true, true, true, true, true, false, false, false, false, false, false] rfl rfl (take_ofW HT_.out HW_.out (by kernel_rfl)) (fun _ _ _ h => h) (Or.inl ⟨by rfl, ?_⟩) hHeld ?_ ?_
   rotate_left
   ·rintro w' ⟨s0, s1, s2⟩
    go_simp
    with_reducible rfl
   rotate_left
   ·simp only [Act.put, List.setIfInBounds_toArray, List.set_cons_zero, List.set_cons_succ, i64_w, i32_w]
    rfl
   refine pure_ (i := 6) (N := some 24) (v := ?_) (a' := ?_) #[true, true, true, true, true, true, true, false, false, false, false, false] rfl rfl (any_of HT_.out (by kernel_rfl)) (fun _ _ _ h => h) (Or.inl ⟨by rfl, ?_⟩) ?_ ?_
   rotate_left
   ·intro w'
    go_simp
    with_reducible rfl
   rotate_left
   ·simp only [Act.put, List.setIfInBounds_toArray, List.set_cons_zero, List.set_cons_succ, i64_w, i32_w]
    rfl
   have y0 := (blk_cell HM7.out.blk 0).trans rfl
   have g0 := blk_frozen HM7.out.blk 0
   refine one_ (i := 7) (N := none) #[true, true, true, true, true, true, true, true, false, false, false, false] rfl rfl (one_of HT_.out (by kernel_rfl)) (by decide) (fun K hK => ?_)
   refine step_list rfl (by rfl) ?_
   unfold Oper.wp
   go_simp
   have HK8 := Aside0.mk (show (W7.setCell ⟨MB, 0, none⟩ (.bool r.2.null)).heap[MB]? = some (.cells #[.bool r.2.null, .slice AS r.1.sets.length cS, nilV, nilV, .slice AF r.1.fol.length cF] 30 (0, 0)) from blk_put HM7.out.blk 0 (.bool r.2.null) rfl)
   have HX8 := Aside0.mk (show F.Edge (W7.setCell ⟨MB, 0, none⟩ (.bool r.2.null)) XB _ _ _ from blk_far HX7.out (p := ⟨MB, 0, none⟩) (fun e => by have e : XB = MB := e; subst e; have h1 := Option.some.inj ((show W7.heap[XB]? = _ from HX7.out).symm.trans HM7.out.blk); injection h1 with _ e2; exact absurd e2 (by decide)) (.bool r.2.null))
   have HR8 := Aside0.mk (blk_far HRB7.out (p := ⟨MB, 0, none⟩) HNE.out (.bool r.2.null))
   have HB8 := Aside0.mk (HB7.out.trans (below1 (Nat.le_trans HWW.out HMW.out) W7 0 (.bool r.2.null)))
   have HP8 := Aside0.mk (Kd.R_set HM7.out.sets HM7.out.blk (fun q hq => by simp [Kd.int, Kd.scalar] at hq; omega) 0 (.bool r.2.null))
   have HQ8 := Aside0.mk (Kd.R_set HM7.out.fol HM7.out.blk (fun q hq => by simp [kL, Kd.slice, Kd.int, Kd.scalar] at hq; omega) 0 (.bool r.2.null))
   have HS8 := Aside0.mk (Kd.R_set HV17.out HM7.out.blk (fun q hq => by simp [Kd.int, Kd.scalar] at hq; omega) 0 (.bool r.2.null))
   have HT8 := Aside0.mk (Kd.R_set HV27.out HM7.out.blk (fun q hq => by simp [Kd.int, Kd.scalar] at hq; omega) 0 (.bool r.2.null))
   refine hK.out _ _ ⟨HX8.out.cells.1, HX8.out.cells.2.1, HX8.out.cells.2.2⟩ (fun hHeld => ?_)
   clear hK K y0 g0
   obtain ⟨V8, hV8⟩ : ∃ w, W7.setCell ⟨MB, 0, none⟩ (.bool r.2.null) = w := ⟨_, rfl⟩
   rw [hV8] at HK8 HX8 HR8 HB8 HP8 HQ8 HS8 HT8 hHeld
   rw [hV8]
   clear hV8
   refine pure_ (i := 8) (N := some 25) (v := ?_) (a' := ?_) #[true, true, true, true, true, true, true, true, true, false, false, false] rfl rfl (any_of HT_.out (by kernel_rfl)) (fun _ _ _ h => h) (Or.inl ⟨by rfl, ?_⟩) ?_ ?_
   rotate_left
   ·intro w'
    go_simp
    with_reducible rfl
   rotate_left
   ·simp only [Act.put, List.setIfInBounds_toArray, List.set_cons_zero, List.set_cons_succ, i64_w, i32_w]
    rfl
   have y2 := (blk_cell HK8.out 2).trans rfl
   have g2 := blk_frozen HK8.out 2
   refine one_ (i := 9) (N := none) #[true, true, true, true, true, true, true, true, true, true, false, false] rfl rfl (one_of HT_.out (by kernel_rfl)) (by decide) (fun K hK => ?_)
   refine step_list rfl (by rfl) ?_
   unfold Oper.wp
   go_simp
   have HK9 := Aside0.mk (show (V8.setCell ⟨MB, 2, none⟩ (.slice M1 r.2.first.length d1)).heap[MB]? = some (.cells #[.bool r.2.null, .slice AS r.1.sets.length cS, .slice M1 r.2.first.length d1, nilV, .slice AF r.1.fol.length cF] 30 (0, 0)) from blk_put HK8.out 2 (.slice M1 r.2.first.length d1) rfl)
   have HX9 := Aside0.mk (show F.Edge (V8.setCell ⟨MB, 2, none⟩ (.slice M1 r.2.first.length d1)) XB _ _ _ from blk_far HX8.out (p := ⟨MB, 2, none⟩) (fun e => by have e : XB = MB := e; subst e; have h1 := Option.some.inj ((show V8.heap[XB]? = _ from HX8.out).symm.trans HK8.out); injection h1 with _ e2; exact absurd e2 (by decide)) (.slice M1 r.2.first.length d1))
   have HR9 := Aside0.mk (blk_far HR8.out (p := ⟨MB, 2, none⟩) HNE.out (.slice M1 r.2.first.length d1))
   have HB9 := Aside0.mk (HB8.out.trans (below1 (Nat.le_trans HWW.out HMW.out) V8 2 (.slice M1 r.2.first.length d1)))
   have HP9 := Aside0.mk (Kd.R_set HP8.out HK8.out (fun q hq => by simp [Kd.int, Kd.scalar] at hq; omega) 2 (.slice M1 r.2.first.length d1))
   have HQ9 := Aside0.mk (Kd.R_set HQ8.out HK8.out (fun q hq => by simp [kL, Kd.slice, Kd.int, Kd.scalar] at hq; omega) 2 (.slice M1 r.2.first.length d1))
   have HS9 := Aside0.mk (Kd.R_set HS8.out HK8.out (fun q hq => by simp [Kd.int, Kd.scalar] at hq; omega) 2 (.slice M1 r.2.first.length d1))
   have HT9 := Aside0.mk (Kd.R_set HT8.out HK8.out (fun q hq => by simp [Kd.int, Kd.scalar] at hq; omega) 2 (.slice M1 r.2.first.length d1))
   refine hK.out _ _ ⟨HX9.out.cells.1, HX9.out.cells.2.1, HX9.out.cells.2.2⟩ (fun hHeld => ?_)
   clear hK K y2 g2
   obtain ⟨V9, hV9⟩ : ∃ w, V8.setCell ⟨MB, 2, none⟩ (.slice M1 r.2.first.length d1) = w := ⟨_, rfl⟩
   rw [hV9] at HK9 HX9 HR9 HB9 HP9 HQ9 HS9 HT9 hHeld
   rw [hV9]
   clear hV9
   refine pure_ (i := 10) (N := some 26) (v := ?_) (a' := ?_) #[true, true, true, true, true, true, true, true, true, true, true, false] rfl rfl (any_of HT_.out (by kernel_rfl)) (fun _ _ _ h => h) (Or.inl ⟨by rfl, ?_⟩) ?_ ?_
   rotate_left
   ·intro w'
    go_simp
    with_reducible rfl
   rotate_left
   ·simp only [Act.put, List.setIfInBounds_toArray, List.set_cons_zero, List.set_cons_succ, i64_w, i32_w]
    rfl
   have y3 := (blk_cell HK9.out 3).trans rfl
   have g3 := blk_frozen HK9.out 3
   refine last_ (i := 11) (N := none) #[true, true, true, true, true, true, true, true, true, true, true, true] rfl rfl (one_of HT_.out (by kernel_rfl)) (by decide) (fun K hK => ?_)
   refine step_list rfl (by rfl) ?_
   unfold Oper.wp
   go_simp
   have HK10 := Aside0.mk (show (V9.setCell ⟨MB, 3, none⟩ (.slice M2 r.2.last.length d2)).heap[MB]? = some (.cells #[.bool r.2.null, .slice AS r.1.sets.length cS, .slice M1 r.2.first.length d1, .slice M2 r.2.last.length d2, .slice AF r.1.fol.length cF] 30 (0, 0)) from blk_put HK9.out 3 (.slice M2 r.2.last.length d2) rfl)
   have HX10 := Aside0.mk (show F.Edge (V9.setCell ⟨MB, 3, none⟩ (.slice M2 r.2.last.length d2)) XB _ _ _ from blk_far HX9.out (p := ⟨MB, 3, none⟩) (fun e => by have e : XB = MB := e; subst e; have h1 := Option.some.inj ((show V9.heap[XB]? = _ from HX9.out).symm.trans HK9.out); injection h1 with _ e2; exact absurd e2 (by decide)) (.slice M2 r.2.last.length d2))
   have HR10 := Aside0.mk (blk_far HR9.out (p := ⟨MB, 3, none⟩) HNE.out (.slice M2 r.2.last.length d2))
   have HB10 := Aside0.mk (HB9.out.trans (below1 (Nat.le_trans HWW.out HMW.out) V9 3 (.slice M2 r.2.last.length d2)))
   have HP10 := Aside0.mk (Kd.R_set HP9.out HK9.out (fun q hq => by simp [Kd.int, Kd.scalar] at hq; omega) 3 (.slice M2 r.2.last.length d2))
   have HQ10 := Aside0.mk (Kd.R_set HQ9.out HK9.out (fun q hq => by simp [kL, Kd.slice, Kd.int, Kd.scalar] at hq; omega) 3 (.slice M2 r.2.last.length d2))
   have HS10 := Aside0.mk (Kd.R_set HS9.out HK9.out (fun q hq => by simp [Kd.int, Kd.scalar] at hq; omega) 3 (.slice M2 r.2.last.length d2))
   have HT10 := Aside0.mk (Kd.R_set HT9.out HK9.out (fun q hq => by simp [Kd.int, Kd.scalar] at hq; omega) 3 (.slice M2 r.2.last.length d2))
   refine hK.out _ _ ?_
   clear hK K y3 g3
   obtain ⟨V10, hV10⟩ : ∃ w, V9.setCell ⟨MB, 3, none⟩ (.slice M2 r.2.last.length d2) = w := ⟨_, rfl⟩
   rw [hV10] at HK10 HX10 HR10 HB10 HP10 HQ10 HS10 HT10
   rw [hV10]
   clear hV10
   refine done_ (done_of HT_.out (by kernel_rfl)) ?_
   refine NoPanic.normal ?_
   clear HT_ HW_ hHeld
   have y0 := (blk_cell HR10.out 0).trans rfl
   have g0 := blk_frozen HR10.out 0
   have y1 := (blk_cell HR10.out 1).trans rfl
   have g1 := blk_frozen HR10.out 1
   have y2 := (blk_cell HR10.out 2).trans rfl
   have g2 := blk_frozen HR10.out 2
   have y3 := (blk_cell HR10.out 3).trans rfl
   have g3 := blk_frozen HR10.out 3
   have y4 := (blk_cell HR10.out 4).trans rfl
   have g4 := blk_frozen HR10.out 4
   have x0 := (blk_cell HK10.out 0).trans rfl
   have x1 := (blk_cell HK10.out 1).trans rfl
   have x2 := (blk_cell HK10.out 2).trans rfl
   have x3 := (blk_cell HK10.out 3).trans rfl
   have x4 := (blk_cell HK10.out 4).trans rfl
   go_wp2_with fail
   clear y0 y1 y2 y3 y4 g0 g1 g2 g3 g4 x0 x1 x2 x3 x4
   have HBK := Aside0.mk (blk5 (u0 := .bool r.2.null) (u1 := .slice AS r.1.sets.length cS) (u2 := .slice M1 r.2.first.length d1) (u3 := .slice M2 r.2.last.length d2) (u4 := .slice AF r.1.fol.length cF) HR10.out)
   have HBE := Aside0.mk (HB10.out.trans (below5 (u0 := .bool r.2.null) (u1 := .slice AS r.1.sets.length cS) (u2 := .slice M1 r.2.first.length d1) (u3 := .slice M2 r.2.last.length d2) (u4 := .slice AF r.1.fol.length cF) (W := V10) HRW.out))
   have e3 : ∀ q, q ∈ 3 :: (Kd.int .i64).E → q ≠ 30 := fun q hq => by simp [Kd.int, Kd.scalar] at hq; omega
   have e27 : ∀ q, q ∈ 27 :: kL.E → q ≠ 30 := fun q hq => by simp [kL, Kd.slice, Kd.int, Kd.scalar] at hq; omega
   have HF1 := Aside0.mk (Kd.R_lower (Kd.R_mono (R_set5 (u0 := .bool r.2.null) (u1 := .slice AS r.1.sets.length cS) (u2 := .slice M1 r.2.first.length d1) (u3 := .slice M2 r.2.last.length d2) (u4 := .slice AF r.1.fol.length cF) HP10.out HR10.out e3) (ok' := fun _ => True) (fun _ _ => trivial)) HWW.out)
   have HF2 := Aside0.mk (Kd.R_lower (Kd.R_mono (R_set5 (u0 := .bool r.2.null) (u1 := .slice AS r.1.sets.length cS) (u2 := .slice M1 r.2.first.length d1) (u3 := .slice M2 r.2.last.length d2) (u4 := .slice AF r.1.fol.length cF) HS10.out HR10.out e3) (ok' := fun _ => True) (fun _ _ => trivial)) HWW.out)
   have HF3 := Aside0.mk (Kd.R_lower (Kd.R_mono (R_set5 (u0 := .bool r.2.null) (u1 := .slice AS r.1.sets.length cS) (u2 := .slice M1 r.2.first.length d1) (u3 := .slice M2 r.2.last.length d2) (u4 := .slice AF r.1.fol.length cF) HT10.out HR10.out e3) (ok' := fun _ => True) (fun _ _ => trivial)) HWW.out)
   have HF4 := Aside0.mk (Kd.R_lower (Kd.R_mono (R_set5 (u0 := .bool r.2.null) (u1 := .slice AS r.1.sets.length cS) (u2 := .slice M1 r.2.first.length d1) (u3 := .slice M2 r.2.last.length d2) (u4 := .slice AF r.1.fol.length cF) HQ10.out HR10.out e27) (ok' := fun _ => True) (fun _ _ => trivial)) HWW.out)
   clear e3 e27
   obtain ⟨W9, hW9⟩ : ∃ w, set5 V10 RB (.bool r.2.null) (.slice AS r.1.sets.length cS) (.slice M1 r.2.first.length d1) (.slice M2 r.2.last.length d2) (.slice AF r.1.fol.length cF) = w := ⟨_, rfl⟩
   rw [hW9] at HBK HBE HF1 HF2 HF3 HF4
   unfold set5 at hW9
   rw [hW9]
   clear hW9
   refine bodyPost_ret (results_ct rfl _ _ RB 30 #[.bool r.2.null, .slice AS r.1.sets.length cS, .slice M1 r.2.first.length d1, .slice M2 r.2.last.length d2, .slice AF r.1.fol.length cF] (0, 0) _ rfl HBK.out Try.underlying30 rfl (by kernel_rfl)) rfl ?_
   rw [HQ.out]
   exact ⟨_, _, _, _, rfl, HF1.out, HF2.out, HF3.out, HF4.out, HBE.out⟩
def follow_Build.f (a0_0 a0_1 : Int) (l0_2 : List S24) : Option (Bool × List Int × List Int × List Int × List (List Int) × Int) := if cnt ⟨a0_0, a0_1, l0_2⟩ ≤ 1000000 then some (buildR ⟨a0_0, a0_1, l0_2⟩) else none
theorem follow_Build.calls (a0_0 : Int) (a0_1 : Int) (A0_2 : Option Addr) (c0_2 : Nat) (l0_2 : List (S24)) (r1 : Bool) (r2 : List Int) (r3 : List Int) (r4 : List Int) (r5 : List (List Int)) (r6 : Int) (w : World) (hr0_2 : Kd.C k24 w A0_2 l0_2.length l0_2) (hc0_2 : l0_2.length ≤ c0_2) (h : follow_Build.f a0_0 a0_1 l0_2 = some (r1, r2, r3, r4, r5, r6)) :
  Calls Try.prog 18 #[.agg #[.int .i64 a0_0, .int .i64 a0_1, .slice A0_2 l0_2.length c0_2]] w fun e w' => ∃ v1_ v2_ v3_ v4_ : Value, e = .returned (.tuple #[.agg #[.bool r1, v1_, v2_, v3_, v4_], .int .i64 r6]) ∧ Kd.R (Kd.int .i64) 3 w' w.heap.size (fun _ => True) v1_ r2 ∧ Kd.R (Kd.int .i64) 3 w' w.heap.size (fun _ => True) v2_ r3 ∧ Kd.R (Kd.int .i64) 3 w' w.heap.size (fun _ => True) v3_ r4 ∧ Kd.R (Kd.slice 3 (Kd.int .i64)) 27 w' w.heap.size (fun _ => True) v4_ r5 ∧ Below w.heap.size w w' := by
 unfold follow_Build.f at h
 split at h
 next hm =>
  have h1 := fbuild_calls ⟨a0_0, a0_1, l0_2⟩ w A0_2 c0_2 hr0_2 hc0_2 hm
  rw [Option.some.inj h] at h1
  exact h1
 next => cases h
end Go.Proofs.Ytemlgmkbonpniaa.Print
