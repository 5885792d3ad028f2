/- scansionref11.Build. -/
import Derived.Test.YtemlgmkbonpniaaRPlaces
import Derived.Test.YtemlgmkbonpniaaRRight
namespace Go.Proofs.Ytemlgmkbonpniaa.Print
open Go.RowKit Go.Maps Go.Proofs.YtemlgmkbonpniaaW.PrintWords Go.Proofs.YtemlgmkbonpniaaW.PrintLast Go.Proofs.YtemlgmkbonpniaaW.PrintMore
set_option linter.unusedVariables false
set_option linter.unusedSimpArgs false
def set5 (W : World) (RB : Nat) (u0 u1 u2 u3 u4 : Value) : World := ((((W.setCell ⟨RB, 0, none⟩ u0).setCell ⟨RB, 1, none⟩ u1).setCell ⟨RB, 2, none⟩ u2).setCell ⟨RB, 3, none⟩ u3).setCell ⟨RB, 4, none⟩ u4
section
variable {W : World} {RB b0 e : Nat} {u0 u1 u2 u3 u4 a0 a1 a2 a3 a4 v : Value} {α : Type} {d : Kd α} {ok : Nat → Prop} {xs : List α}
theorem blk5 (h : W.heap[RB]? = some (.cells #[a0, a1, a2, a3, a4] 30 (0, 0))) : (set5 W RB u0 u1 u2 u3 u4).heap[RB]? = some (.cells #[u0, u1, u2, u3, u4] 30 (0, 0)) := by
 have h1 : (W.setCell ⟨RB, 0, none⟩ u0).heap[RB]? = some (.cells #[u0, a1, a2, a3, a4] 30 (0, 0)) := blk_put h 0 u0 rfl
 have h2 := blk_put (cs' := #[u0, u1, a2, a3, a4]) h1 1 u1 rfl
 have h3 := blk_put (cs' := #[u0, u1, u2, a3, a4]) h2 2 u2 rfl
 have h4 := blk_put (cs' := #[u0, u1, u2, u3, a4]) h3 3 u3 rfl
 exact blk_put (cs' := #[u0, u1, u2, u3, u4]) h4 4 u4 rfl
theorem far5 {g t : Nat} {cs : Array Value} (h : W.heap[g]? = some (.cells cs t (0, 0))) (hb : W.heap[RB]? = some (.cells #[a0, a1, a2, a3, a4] 30 (0, 0))) (u0 u1 u2 u3 u4 : Value) (ht : t ≠ 30 := by decide) : (((((W.setCell ⟨RB, 0, none⟩ u0).setCell ⟨RB, 1, none⟩ u1).setCell ⟨RB, 2, none⟩ u2).setCell ⟨RB, 3, none⟩ u3).setCell ⟨RB, 4, none⟩ u4).heap[g]? = some (.cells cs t (0, 0)) := by
 have hne : g ≠ RB := fun e => by
  subst e
  rw [hb] at h
  cases h
  exact ht rfl
 exact blk_far (blk_far (blk_far (blk_far (blk_far h (p := ⟨RB, 0, none⟩) hne u0) (p := ⟨RB, 1, none⟩) hne u1) (p := ⟨RB, 2, none⟩) hne u2) (p := ⟨RB, 3, none⟩) hne u3) (p := ⟨RB, 4, none⟩) hne u4
theorem R_set5 (h : Kd.R d e W b0 ok v xs) (hb : W.heap[RB]? = some (.cells #[a0, a1, a2, a3, a4] 30 (0, 0))) (ht : ∀ q, q ∈ e :: d.E → q ≠ 30) : Kd.R d e (set5 W RB u0 u1 u2 u3 u4) b0 ok v xs := by
 have h1 : (W.setCell ⟨RB, 0, none⟩ u0).heap[RB]? = some (.cells #[u0, a1, a2, a3, a4] 30 (0, 0)) := blk_put hb 0 u0 rfl
 have h2 := blk_put (cs' := #[u0, u1, a2, a3, a4]) h1 1 u1 rfl
 have h3 := blk_put (cs' := #[u0, u1, u2, a3, a4]) h2 2 u2 rfl
 have h4 := blk_put (cs' := #[u0, u1, u2, u3, a4]) h3 3 u3 rfl
 exact Kd.R_set (Kd.R_set (Kd.R_set (Kd.R_set (Kd.R_set h hb ht 0 u0) h1 ht 1 u1) h2 ht 2 u2) h3 ht 3 u3) h4 ht 4 u4
theorem below1 (hr : b0 ≤ RB) (W : World) (i : Nat) (u : Value) : Below b0 W (W.setCell ⟨RB, i, none⟩ u) := ⟨rfl, rfl, rfl, by simp, fun j hj => Below.heap_setCell _ _ _ j (by show j ≠ RB; omega)⟩
theorem below5 (hr : b0 ≤ RB) : Below b0 W (set5 W RB u0 u1 u2 u3 u4) := ((((below1 hr _ _ _).trans (below1 hr _ _ _)).trans (below1 hr _ _ _)).trans (below1 hr _ _ _)).trans (below1 hr _ _ _)
end
def bld_T8 : Bool × List (List Nat × List Nat) := (true, [([], []), ([0], [0]), ([], []), ([2], [2]), ([3], [3]), ([4], [4]), ([], []), ([6], [6]), ([], []), ([8], [8]), ([], []), ([10], [10]), ([11], [11]), ([12], [12]), ([1, 5, 7, 9, 13], [1, 5, 7, 9, 13]), ([14, 0, 1, 2, 3, 4, 5, 6, 7, 8, 9, 10, 11, 12, 13, 14], [14]), ([15, 0, 1, 2, 3, 4, 5, 6, 7, 8, 9, 10, 11, 12, 13, 14, 15], [])])
def bld_B8 : List Nat := [0, 1, 0, 4, 12, 28, 0, 64, 0, 256, 0, 1024, 3072, 7168, 16383, 32767, 65535]
theorem bld_tab8 : rtab .any (opsOf Try.f19 8) = bld_T8 := by kernel_rfl
theorem bld_bits8 : waitsOk bld_T8.2 bld_B8 = true := by kernel_rfl
/-- What scansionref11.Build answers. -/
def buildR (x : S24) : Bool × List Int × List Int × List Int × List (List Int) × Int :=
 if rightN x = false then (false, [], [], [], [], 1)
 else if 300 < cnt x then (false, [], [], [], [], 3)
 else ((nodeR x ⟨[], []⟩).2.null, (nodeR x ⟨[], []⟩).1.sets, (nodeR x ⟨[], []⟩).2.first, (nodeR x ⟨[], []⟩).2.last, (nodeR x ⟨[], []⟩).1.fol, 0)
def BuildPost (W : World) (r : Bool × List Int × List Int × List Int × List (List Int) × Int) (e : Ending) (w' : World) : Prop :=
 ∃ v1_ v2_ v3_ v4_ : Value, e = .returned (.tuple #[.agg #[.bool r.1, v1_, v2_, v3_, v4_], .int .i64 r.2.2.2.2.2]) ∧ Kd.R (Kd.int .i64) 3 w' W.heap.size (fun _ => True) v1_ r.2.1 ∧ Kd.R (Kd.int .i64) 3 w' W.heap.size (fun _ => True) v2_ r.2.2.1 ∧ Kd.R (Kd.int .i64) 3 w' W.heap.size (fun _ => True) v3_ r.2.2.2.1 ∧ Kd.R (Kd.slice 3 (Kd.int .i64)) 27 w' W.heap.size (fun _ => True) v4_ r.2.2.2.2.1 ∧ Below W.heap.size W w'
set_option maxHeartbeats 16000000 in
set_option maxRecDepth 100000 in
theorem build_calls (x : S24) (W : World) (A : Option Addr) (c : Nat) (hC : Kd.C k24 W A x.f2.length x.f2) (hc : x.f2.length ≤ c) :
  Calls Try.prog 19 #[.agg #[.int .i64 x.f0, .int .i64 x.f1, .slice A x.f2.length c]] W (BuildPost W (buildR x)) := by
 have HC := Aside0.mk hC
 have HCC := Aside0.mk hc
 obtain ⟨K, hK⟩ := places_f x (lens_of x hC) 301 (by decide) (by decide)
 have HPL := Aside0.mk (hK K (Nat.le_refl _))
 have HRT := Aside0.mk (right_ok x)
 clear hC hc hK
 go_enter Try.func19, Try.ntmps19
 go_upto_region 1 with fail
 have hsz : (W.alloc (.cells #[.int .i64 x.f0, .int .i64 x.f1, .slice A x.f2.length c] 24)).heap.size = W.heap.size + 1 := Array.size_push _
 have HNB0 := Aside0.mk (blk_below (blk_new W (.cells #[.int .i64 x.f0, .int .i64 x.f1, .slice A x.f2.length c] 24)) (below_alloc (Below.refl _ _) (.cells #[.bool false, .slice none 0 0, .slice none 0 0, .slice none 0 0, .slice none 0 0] 30)))
 have HRB0 := Aside0.mk (blk_new (W.alloc (.cells #[.int .i64 x.f0, .int .i64 x.f1, .slice A x.f2.length c] 24)) (.cells #[.bool false, .slice none 0 0, .slice none 0 0, .slice none 0 0, .slice none 0 0] 30))
 rw [hsz] at HRB0
 have HB0 := Aside0.mk (below_alloc (below_alloc (Below.refl W.heap.size W) (.cells #[.int .i64 x.f0, .int .i64 x.f1, .slice A x.f2.length c] 24)) (.cells #[.bool false, .slice none 0 0, .slice none 0 0, .slice none 0 0, .slice none 0 0] 30))
 have HRW := Aside0.mk (show W.heap.size ≤ W.heap.size + 1 from Nat.le_succ _)
 clear hsz
 obtain ⟨RB, hRB⟩ : ∃ n, W.heap.size + 1 = n := ⟨_, rfl⟩
 obtain ⟨NB, hNB⟩ : ∃ n, W.heap.size = n := ⟨_, rfl⟩
 obtain ⟨W1, hW1⟩ : ∃ w, (W.alloc (.cells #[.int .i64 x.f0, .int .i64 x.f1, .slice A x.f2.length c] 24)).alloc (.cells #[.bool false, .slice none 0 0, .slice none 0 0, .slice none 0 0, .slice none 0 0] 30) = w := ⟨_, rfl⟩
 rw [hNB, hW1] at HNB0
 rw [hRB, hW1] at HRB0
 rw [hW1] at HB0
 rw [hRB] at HRW
 rw [hW1]
 rw [hRB, hNB]
 clear hRB hNB hW1
 have n0 := (blk_cell HNB0.out 0).trans rfl
 have n1 := (blk_cell HNB0.out 1).trans rfl
 have n2 := (blk_cell HNB0.out 2).trans rfl
 go_upto_region 2 with (go_at_call 49; refine (HRT.out W1 A c (Kd.C_below HC.out HB0.out) HCC.out).mono ?_; rintro e W2 ⟨rfl, hb2⟩; have HB := Aside0.mk (HB0.out.trans (hb2.mono HB0.out.size)); have HNB := Aside0.mk (blk_below HNB0.out hb2); have HRB := Aside0.mk (blk_below HRB0.out hb2); clear hb2 n0 n1 n2)
 clear HNB0 HRB0 HB0
 cases hq : rightN x
 case false =>
  have HQ := Aside0.mk (show buildR x = (false, [], [], [], [], 1) by unfold buildR; rw [if_pos hq])
  clear hq
  have y0 := (blk_cell HRB.out 0).trans rfl
  have g0 := blk_frozen HRB.out 0
  have y1 := (blk_cell HRB.out 1).trans rfl
  have g1 := blk_frozen HRB.out 1
  have y2 := (blk_cell HRB.out 2).trans rfl
  have g2 := blk_frozen HRB.out 2
  have y3 := (blk_cell HRB.out 3).trans rfl
  have g3 := blk_frozen HRB.out 3
  have y4 := (blk_cell HRB.out 4).trans rfl
  have g4 := blk_frozen HRB.out 4
  go_wp2_with fail
  clear y0 y1 y2 y3 y4 g0 g1 g2 g3 g4
  have HBK := Aside0.mk (blk5 (u0 := .bool false) (u1 := .slice none 0 0) (u2 := .slice none 0 0) (u3 := .slice none 0 0) (u4 := .slice none 0 0) HRB.out)
  have HBE := Aside0.mk (HB.out.trans (below5 (u0 := .bool false) (u1 := .slice none 0 0) (u2 := .slice none 0 0) (u3 := .slice none 0 0) (u4 := .slice none 0 0) (W := W2) HRW.out))
  obtain ⟨W9, hW9⟩ : ∃ w, set5 W2 RB (.bool false) (.slice none 0 0) (.slice none 0 0) (.slice none 0 0) (.slice none 0 0) = w := ⟨_, rfl⟩
  rw [hW9] at HBK HBE
  unfold set5 at hW9
  rw [hW9]
  clear hW9
  refine bodyPost_ret (results_ct rfl _ _ RB 30 #[.bool false, .slice none 0 0, .slice none 0 0, .slice none 0 0, .slice none 0 0] (0, 0) _ rfl HBK.out Try.underlying30 rfl (by kernel_rfl)) rfl ?_
  rw [HQ.out]
  exact ⟨.slice none 0 0, .slice none 0 0, .slice none 0 0, .slice none 0 0, rfl, Kd.R_nil _ _ _ _ _, Kd.R_nil _ _ _ _ _, Kd.R_nil _ _ _ _ _, Kd.R_nil _ _ _ _ _, HBE.out⟩
 case true =>
  have HR := Aside0.mk hq
  clear hq
  have n0 := (blk_cell HNB.out 0).trans rfl
  have n1 := (blk_cell HNB.out 1).trans rfl
  have n2 := (blk_cell HNB.out 2).trans rfl
  by_cases hn : 300 < cnt x
  ·have HQ := Aside0.mk (show buildR x = (false, [], [], [], [], 3) by unfold buildR; rw [if_neg (by rw [HR.out]; decide), if_pos hn])
   have f1 : decide (300 < ((min (cnt x) 301 : Nat) : Int)) = true := decide_eq_true (by omega)
   clear hn
   go_upto_region 5 with (go_at_call 50; refine (scansionref11_places.calls K x.f0 x.f1 A c x.f2 301 _ W2 (Kd.C_below HC.out HB.out) HCC.out HPL.out).mono ?_; rintro e W3 ⟨rfl, hb3⟩; have HB' := Aside0.mk (HB.out.trans (hb3.mono HB.out.size)); have HRB' := Aside0.mk (blk_below HRB.out hb3); clear hb3 n0 n1 n2)
   clear HB HRB f1
   have HB := HB'
   have HRB := HRB'
   clear HB' HRB'
   have y0 := (blk_cell HRB.out 0).trans rfl
   have g0 := blk_frozen HRB.out 0
   have y1 := (blk_cell HRB.out 1).trans rfl
   have g1 := blk_frozen HRB.out 1
   have y2 := (blk_cell HRB.out 2).trans rfl
   have g2 := blk_frozen HRB.out 2
   have y3 := (blk_cell HRB.out 3).trans rfl
   have g3 := blk_frozen HRB.out 3
   have y4 := (blk_cell HRB.out 4).trans rfl
   have g4 := blk_frozen HRB.out 4
   go_wp2_with fail
   clear y0 y1 y2 y3 y4 g0 g1 g2 g3 g4
   have HBK := Aside0.mk (blk5 (u0 := .bool false) (u1 := .slice none 0 0) (u2 := .slice none 0 0) (u3 := .slice none 0 0) (u4 := .slice none 0 0) HRB.out)
   have HBE := Aside0.mk (HB.out.trans (below5 (u0 := .bool false) (u1 := .slice none 0 0) (u2 := .slice none 0 0) (u3 := .slice none 0 0) (u4 := .slice none 0 0) (W := W3) HRW.out))
   obtain ⟨W9, hW9⟩ : ∃ w, set5 W3 RB (.bool false) (.slice none 0 0) (.slice none 0 0) (.slice none 0 0) (.slice none 0 0) = w := ⟨_, rfl⟩
   rw [hW9] at HBK HBE
   unfold set5 at hW9
   rw [hW9]
   clear hW9
   refine bodyPost_ret (results_ct rfl _ _ RB 30 #[.bool false, .slice none 0 0, .slice none 0 0, .slice none 0 0, .slice none 0 0] (0, 0) _ rfl HBK.out Try.underlying30 rfl (by kernel_rfl)) rfl ?_
   rw [HQ.out]
   exact ⟨.slice none 0 0, .slice none 0 0, .slice none 0 0, .slice none 0 0, rfl, Kd.R_nil _ _ _ _ _, Kd.R_nil _ _ _ _ _, Kd.R_nil _ _ _ _ _, Kd.R_nil _ _ _ _ _, HBE.out⟩
  ·have f1 : decide (300 < ((min (cnt x) 301 : Nat) : Int)) = false := decide_eq_false (by omega)
   obtain ⟨r, hr⟩ : ∃ r, r = nodeR x ⟨[], []⟩ := ⟨_, rfl⟩
   have HQ := Aside0.mk (show buildR x = (r.2.null, r.1.sets, r.2.first, r.2.last, r.1.fol, 0) by unfold buildR; rw [if_neg (by rw [HR.out]; decide), if_neg hn, hr])
   have HN := Aside0.mk hn
   clear hn
   go_upto_region 6 with (go_at_call 50; refine (scansionref11_places.calls K x.f0 x.f1 A c x.f2 301 _ W2 (Kd.C_below HC.out HB.out) HCC.out HPL.out).mono ?_; rintro e W3 ⟨rfl, hb3⟩; have HB' := Aside0.mk (HB.out.trans (hb3.mono HB.out.size)); have HRB' := Aside0.mk (blk_below HRB.out hb3); have HNB' := Aside0.mk (blk_below HNB.out hb3); clear hb3 n0 n1 n2)
   clear HB HRB HNB f1
   go_upto_region 7 with fail
   have hbn := below_alloc (Below.refl W3.heap.size W3) (.cells #[.slice none 0 0, .slice none 0 0] 75)
   have HB := Aside0.mk (HB'.out.trans (hbn.mono HB'.out.size))
   have HRB := Aside0.mk (blk_below HRB'.out hbn)
   have HNB := Aside0.mk (blk_below HNB'.out hbn)
   have HMB := Aside0.mk (blk_new W3 (.cells #[.slice none 0 0, .slice none 0 0] 75))
   have HMW := Aside0.mk (show W.heap.size ≤ W3.heap.size from HB'.out.size)
   clear HB' HRB' HNB' hbn
   obtain ⟨MB, hMB⟩ : ∃ n, W3.heap.size = n := ⟨_, rfl⟩
   obtain ⟨W4, hW4⟩ : ∃ w, W3.alloc (.cells #[.slice none 0 0, .slice none 0 0] 75) = w := ⟨_, rfl⟩
   rw [hW4] at HB HRB HNB HMB
   rw [hMB] at HMB HMW
   rw [hW4, hMB]
   clear hW4 hMB
   have HM := Aside0.mk (show Mk W.heap.size MB [] [] nilV nilV W4 from ⟨HMB.out, Kd.R_nil _ _ _ _ _, Kd.R_nil _ _ _ _ _, HMW.out⟩)
   have HNODE := Aside0.mk (node_ok W MB x HR.out ⟨[], []⟩ nilV nilV W4 A c ⟨rfl, fun l hl => by cases hl⟩ (by have := HN.out; show 0 + cnt x ≤ 300; omega) HM.out HB.out HC.out HCC.out)
   rw [← hr] at HNODE
   clear hr
   have n0 := (blk_cell HNB.out 0).trans rfl
   have n1 := (blk_cell HNB.out 1).trans rfl
   have n2 := (blk_cell HNB.out 2).trans rfl
   go_upto_region 8 with (go_at_call 51; refine HNODE.out.mono ?_; rintro e W5 ⟨vS, vF, u1, u2, rfl, hm5, hu1, hu2, ht5⟩; have HM5 := Aside0.mk hm5; have HB5 := Aside0.mk (HB.out.trans ht5.below); have HRB5 := Aside0.mk ((ht5.blk RB _ 30 HRB.out (by decide) (by decide) (by decide)).trans HRB.out); obtain ⟨M1, d1, rfl⟩ := Kd.R_slice hu1; obtain ⟨M2, d2, rfl⟩ := Kd.R_slice hu2; have HU1 := Aside0.mk hu1; have HU2 := Aside0.mk hu2; clear hm5 hu1 hu2 ht5 n0 n1 n2)
   clear HB HRB HNB HMB HM
   obtain ⟨AS, cS, rfl⟩ := Kd.R_slice HM5.out.sets
   obtain ⟨AF, cF, rfl⟩ := Kd.R_slice HM5.out.fol
   have hbn := below_alloc (Below.refl W5.heap.size W5) (.cells #[.bool r.2.null, .slice M1 r.2.first.length d1, .slice M2 r.2.last.length d2] 77)
   have HX6 := Aside0.mk (show Edge _ W5.heap.size r.2.null _ _ from blk_new W5 (.cells #[.bool r.2.null, .slice M1 r.2.first.length d1, .slice M2 r.2.last.length d2] 77))
   have HM6 := Aside0.mk (HM5.out.later hbn)
   have HB6 := Aside0.mk (HB5.out.trans (hbn.mono HB5.out.size))
   have HRB6 := Aside0.mk (blk_below HRB5.out hbn)
   have HV1 := Aside0.mk (Kd.R_below HU1.out hbn)
   have HV2 := Aside0.mk (Kd.R_below HU2.out hbn)
   clear hbn HM5 HB5 HRB5 HU1 HU2
   obtain ⟨XB, hXB⟩ : ∃ n, W5.heap.size = n := ⟨_, rfl⟩
   obtain ⟨W6, hW6⟩ : ∃ w, W5.alloc (.cells #[.bool r.2.null, .slice M1 r.2.first.length d1, .slice M2 r.2.last.length d2] 77) = w := ⟨_, rfl⟩
   rw [hXB] at HX6
   rw [hW6] at HX6 HM6 HB6 HRB6 HV1 HV2
   rw [hXB, hW6]
   clear hXB hW6
   have hbd := below_drew (Below.refl W6.heap.size W6)
   have HX7 := Aside0.mk (HX6.out.later hbd)
   have HM7 := Aside0.mk (HM6.out.later hbd)
   have HB7 := Aside0.mk (HB6.out.trans (hbd.mono HB6.out.size))
   have HRB7 := Aside0.mk (blk_below HRB6.out hbd)
   have HV17 := Aside0.mk (Kd.R_below HV1.out hbd)
   have HV27 := Aside0.mk (Kd.R_below HV2.out hbd)
   clear hbd HX6 HM6 HB6 HRB6 HV1 HV2
   refine wp_region_noPanic ?_
   refine start_ (n := 17) (S := fun w' => w'.cell? ⟨XB, 0, none⟩ = some (.bool r.2.null) ∧ w'.cell? ⟨XB, 1, none⟩ = some (.slice M1 r.2.first.length d1) ∧ w'.cell? ⟨XB, 2, none⟩ = some (.slice M2 r.2.last.length d2) ∧ w'.cell? ⟨MB, 0, none⟩ = some (.slice AS r.1.sets.length cS) ∧ w'.cell? ⟨MB, 1, none⟩ = some (.slice AF r.1.fol.length cF)) (ds := []) #[false, false, false, false, false, false, false, false, false, false, false, false, false, false, false, false, false] (by kernel_rfl) rfl rfl ⟨HX7.out.cells.1, HX7.out.cells.2.1, HX7.out.cells.2.2, HM7.out.cells.1, HM7.out.cells.2⟩ (fun hHeld => ?_); refine with_tabW bld_tab8 bld_bits8 (fun HT_ HW_ => ?_)
   obtain ⟨W7, hW7⟩ : ∃ w, W6.drew = w := ⟨_, rfl⟩
   rw [hW7] at HX7 HM7 HB7 HRB7 HV17 HV27 hHeld ⊢
   clear hW7
   refine pure_ (i := 0) (N := some 21) (v := ?_) (a' := ?_) #[true, false, false, false, false, false, false, false, false, false, false, false, false, false, false, false, false] rfl rfl (any_of HT_.out (by kernel_rfl)) (fun _ _ _ h => h) (Or.inl ⟨by rfl, ?_⟩) ?_ ?_
   rotate_left
   ·intro w'
    go_simp
    with_reducible rfl
   rotate_left
   ·simp only [Act.put, List.setIfInBounds_toArray, List.set_cons_zero, List.set_cons_succ, i64_w, i32_w]
    rfl
   refine take_ (i := 1) (N := some 22) (v := ?_) (a' := ?_) #[true, true, false, false, false, false, false, false, false, false, false, false, false, false, false, false, false] rfl rfl (take_ofW HT_.out HW_.out (by kernel_rfl)) (fun _ _ _ h => h) (Or.inl ⟨by rfl, ?_⟩) hHeld ?_ ?_
   rotate_left
   ·rintro w' ⟨s0, s1, s2, s3, s4⟩
    go_simp
    with_reducible rfl
   rotate_left
   ·simp only [Act.put, List.setIfInBounds_toArray, List.set_cons_zero, List.set_cons_succ, i64_w, i32_w]
    rfl
   refine pure_ (i := 2) (N := some 23) (v := ?_) (a' := ?_) #[true, true, true, false, false, false, false, false, false, false, false, false, false, false, false, false, false] rfl rfl (any_of HT_.out (by kernel_rfl)) (fun _ _ _ h => h) (Or.inl ⟨by rfl, ?_⟩) ?_ ?_
   rotate_left
   ·intro w'
    go_simp
    with_reducible rfl
   rotate_left
   ·simp only [Act.put, List.setIfInBounds_toArray, List.set_cons_zero, List.set_cons_succ, i64_w, i32_w]
    rfl
   refine pure_ (i := 3) (N := some 24) (v := ?_) (a' := ?_) #[true, true, true, true, false, false, false, false, false, false, false, false, false, false, false, false, false] rfl rfl (any_of HT_.out (by kernel_rfl)) (fun _ _ _ h => h) (Or.inl ⟨by rfl, ?_⟩) ?_ ?_
   rotate_left
   ·intro w'
    go_simp
    with_reducible rfl
   rotate_left
   ·simp only [Act.put, List.setIfInBounds_toArray, List.set_cons_zero, List.set_cons_succ, i64_w, i32_w]
    rfl
   refine pure_ (i := 4) (N := some 25) (v := ?_) (a' := ?_) #[true, true, true, true, true, false, false, false, false, false, false, false, false, false, false, false, false] rfl rfl (any_of HT_.out (by kernel_rfl)) (fun _ _ _ h => h) (Or.inl ⟨by rfl, ?_⟩) ?_ ?_
   rotate_left
   ·intro w'
    go_simp
    with_reducible rfl
   rotate_left
   ·simp only [Act.put, List.setIfInBounds_toArray, List.set_cons_zero, List.set_cons_succ, i64_w, i32_w]
    rfl
   refine take_ (i := 5) (N := some 26) (v := ?_) (a' := ?_) #[true, true, true, true, true, true, false, false, false, false, false, false, false, false, false, false, false] rfl rfl (take_ofW HT_.out HW_.out (by kernel_rfl)) (fun _ _ _ h => h) (Or.inl ⟨by rfl, ?_⟩) hHeld ?_ ?_
   rotate_left
   ·rintro w' ⟨s0, s1, s2, s3, s4⟩
    go_simp
    with_reducible rfl
   rotate_left
   ·simp only [Act.put, List.setIfInBounds_toArray, List.set_cons_zero, List.set_cons_succ, i64_w, i32_w]
    rfl
   refine pure_ (i := 6) (N := some 27) (v := ?_) (a' := ?_) #[true, true, true, true, true, true, true, false, false, false, false, false, false, false, false, false, false] rfl rfl (any_of HT_.out (by kernel_rfl)) (fun _ _ _ h => h) (Or.inl ⟨by rfl, ?_⟩) ?_ ?_
   rotate_left
   ·intro w'
    go_simp
    with_reducible rfl
   rotate_left
   ·simp only [Act.put, List.setIfInBounds_toArray, List.set_cons_zero, List.set_cons_succ, i64_w, i32_w]
    rfl
   refine take_ (i := 7) (N := some 28) (v := ?_) (a' := ?_) #[true, true, true, true, true, true, true, true, false, false, false, false, false, false, false, false, false] rfl rfl (take_ofW HT_.out HW_.out (by kernel_rfl)) (fun _ _ _ h => h) (Or.inl ⟨by rfl, ?_⟩) hHeld ?_ ?_
   rotate_left
   ·rintro w' ⟨s0, s1, s2, s3, s4⟩
    go_simp
    with_reducible rfl
   rotate_left
   ·simp only [Act.put, List.setIfInBounds_toArray, List.set_cons_zero, List.set_cons_succ, i64_w, i32_w]
    rfl
   refine pure_ (i := 8) (N := some 29) (v := ?_) (a' := ?_) #[true, true, true, true, true, true, true, true, true, false, false, false, false, false, false, false, false] rfl rfl (any_of HT_.out (by kernel_rfl)) (fun _ _ _ h => h) (Or.inl ⟨by rfl, ?_⟩) ?_ ?_
   rotate_left
   ·intro w'
    go_simp
    with_reducible rfl
   rotate_left
   ·simp only [Act.put, List.setIfInBounds_toArray, List.set_cons_zero, List.set_cons_succ, i64_w, i32_w]
    rfl
   refine take_ (i := 9) (N := some 30) (v := ?_) (a' := ?_) #[true, true, true, true, true, true, true, true, true, true, false, false, false, false, false, false, false] rfl rfl (take_ofW HT_.out HW_.out (by kernel_rfl)) (fun _ _ _ h => h) (Or.inl ⟨by rfl, ?_⟩) hHeld ?_ ?_
   rotate_left
   ·rintro w' ⟨s0, s1, s2, s3, s4⟩
    go_simp
    with_reducible rfl
   rotate_left
   ·simp only [Act.put, List.setIfInBounds_toArray, List.set_cons_zero, List.set_cons_succ, i64_w, i32_w]
    rfl
   refine pure_ (i := 10) (N := some 31) (v := ?_) (a' := ?_) #[true, true, true, true, true, true, true, true, true, true, true, false, false, false, false, false, false] rfl rfl (any_of HT_.out (by kernel_rfl)) (fun _ _ _ h => h) (Or.inl ⟨by rfl, ?_⟩) ?_ ?_
   rotate_left
   ·intro w'
    go_simp
    with_reducible rfl
   rotate_left
   ·simp only [Act.put, List.setIfInBounds_toArray, List.set_cons_zero, List.set_cons_succ, i64_w, i32_w]
    rfl
   refine pure_ (i := 11) (N := some 32) (v := ?_) (a' := ?_) #[true, true, true, true, true, true, true, true, true, true, true, true, false, false, false, false, false] rfl rfl (any_of HT_.out (by kernel_rfl)) (fun _ _ _ h => h) (Or.inl ⟨by rfl, ?_⟩) ?_ ?_
   rotate_left
   ·intro w'
    go_simp
    with_reducible rfl
   rotate_left
   ·simp only [Act.put, List.setIfInBounds_toArray, List.set_cons_zero, List.set_cons_succ, i64_w, i32_w]
    rfl
   refine pure_ (i := 12) (N := some 33) (v := ?_) (a' := ?_) #[true, true, true, true, true, true, true, true, true, true, true, true, true, false, false, false, false] rfl rfl (any_of HT_.out (by kernel_rfl)) (fun _ _ _ h => h) (Or.inl ⟨by rfl, ?_⟩) ?_ ?_
   rotate_left
   ·intro w'
    go_simp
    with_reducible rfl
   rotate_left
   ·simp only [Act.put, List.setIfInBounds_toArray, List.set_cons_zero, List.set_cons_succ, i64_w, i32_w]
    rfl
   refine take_ (i := 13) (N := some 34) (v := ?_) (a' := ?_) #[true, true, true, true, true, true, true, true, true, true, true, true, true, true, false, false, false] rfl rfl (take_ofW HT_.out HW_.out (by kernel_rfl)) (fun _ _ _ h => h) (Or.inl ⟨by rfl, ?_⟩) hHeld ?_ ?_
   rotate_left
   ·rintro w' ⟨s0, s1, s2, s3, s4⟩
    go_simp
    with_reducible rfl
   rotate_left
   ·simp only [Act.put, List.setIfInBounds_toArray, List.set_cons_zero, List.set_cons_succ, i64_w, i32_w]
    rfl
   refine pure_ (i := 14) (N := some 35) (v := ?_) (a' := ?_) #[true, true, true, true, true, true, true, true, true, true, true, true, true, true, true, false, false] rfl rfl (any_of HT_.out (by kernel_rfl)) (fun _ _ _ h => h) (Or.inl ⟨by rfl, ?_⟩) ?_ ?_
   rotate_left
   ·intro w'
    go_simp
    with_reducible rfl
   rotate_left
   ·simp only [Act.put, List.setIfInBounds_toArray, List.set_cons_zero, List.set_cons_succ, i64_w, i32_w]
    rfl
   have y0 := (blk_cell HRB7.out 0).trans rfl
   have g0 := blk_frozen HRB7.out 0
   have y1 := (blk_cell HRB7.out 1).trans rfl
   have g1 := blk_frozen HRB7.out 1
   have y2 := (blk_cell HRB7.out 2).trans rfl
   have g2 := blk_frozen HRB7.out 2
   have y3 := (blk_cell HRB7.out 3).trans rfl
   have g3 := blk_frozen HRB7.out 3
   have y4 := (blk_cell HRB7.out 4).trans rfl
   have g4 := blk_frozen HRB7.out 4
   refine one_ (i := 15) (N := none) #[true, true, true, true, true, true, true, true, true, true, true, true, true, true, true, true, false] rfl rfl (one_of HT_.out (by kernel_rfl)) (by decide) (fun K hK => ?_)
   refine step_list rfl (by rfl) ?_
   unfold Oper.wp
   go_simp
   refine hK.out _ _ ⟨(blk_cell (far5 HX7.out HRB7.out (.bool r.2.null) (.slice AS r.1.sets.length cS) (.slice M1 r.2.first.length d1) (.slice M2 r.2.last.length d2) (.slice AF r.1.fol.length cF)) 0).trans rfl, (blk_cell (far5 HX7.out HRB7.out (.bool r.2.null) (.slice AS r.1.sets.length cS) (.slice M1 r.2.first.length d1) (.slice M2 r.2.last.length d2) (.slice AF r.1.fol.length cF)) 1).trans rfl, (blk_cell (far5 HX7.out HRB7.out (.bool r.2.null) (.slice AS r.1.sets.length cS) (.slice M1 r.2.first.length d1) (.slice M2 r.2.last.length d2) (.slice AF r.1.fol.length cF)) 2).trans rfl, (blk_cell (far5 HM7.out.blk HRB7.out (.bool r.2.null) (.slice AS r.1.sets.length cS) (.slice M1 r.2.first.length d1) (.slice M2 r.2.last.length d2) (.slice AF r.1.fol.length cF)) 0).trans rfl, (blk_cell (far5 HM7.out.blk HRB7.out (.bool r.2.null) (.slice AS r.1.sets.length cS) (.slice M1 r.2.first.length d1) (.slice M2 r.2.last.length d2) (.slice AF r.1.fol.length cF)) 1).trans rfl⟩ (fun hHeld => ?_)
   clear hK K y0 y1 y2 y3 y4 g0 g1 g2 g3 g4
   refine pure_ (i := 16) (N := some 3) (v := ?_) (a' := ?_) #[true, true, true, true, true, true, true, true, true, true, true, true, true, true, true, true, true] rfl rfl (any_of HT_.out (by kernel_rfl)) (fun _ _ _ h => h) (Or.inl ⟨by rfl, ?_⟩) ?_ ?_
   rotate_left
   ·intro w'
    go_simp
    with_reducible rfl
   rotate_left
   ·simp only [Act.put, List.setIfInBounds_toArray, List.set_cons_zero, List.set_cons_succ, i64_w, i32_w]
    rfl
   refine done_ (done_of HT_.out (by kernel_rfl)) ?_
   refine NoPanic.normal ?_
   clear HT_ HW_ hHeld
   go_wp2_with fail
   have HBK := Aside0.mk (blk5 (u0 := .bool r.2.null) (u1 := .slice AS r.1.sets.length cS) (u2 := .slice M1 r.2.first.length d1) (u3 := .slice M2 r.2.last.length d2) (u4 := .slice AF r.1.fol.length cF) HRB7.out)
   have HBE := Aside0.mk (HB7.out.trans (below5 (u0 := .bool r.2.null) (u1 := .slice AS r.1.sets.length cS) (u2 := .slice M1 r.2.first.length d1) (u3 := .slice M2 r.2.last.length d2) (u4 := .slice AF r.1.fol.length cF) (W := W7) HRW.out))
   have e3 : ∀ q, q ∈ 3 :: (Kd.int .i64).E → q ≠ 30 := fun q hq => by simp [Kd.int, Kd.scalar] at hq; omega
   have e27 : ∀ q, q ∈ 27 :: kL.E → q ≠ 30 := fun q hq => by simp [kL, Kd.slice, Kd.int, Kd.scalar] at hq; omega
   have HF1 := Aside0.mk (Kd.R_mono (R_set5 (u0 := .bool r.2.null) (u1 := .slice AS r.1.sets.length cS) (u2 := .slice M1 r.2.first.length d1) (u3 := .slice M2 r.2.last.length d2) (u4 := .slice AF r.1.fol.length cF) HM7.out.sets HRB7.out e3) (ok' := fun _ => True) (fun _ _ => trivial))
   have HF2 := Aside0.mk (Kd.R_mono (R_set5 (u0 := .bool r.2.null) (u1 := .slice AS r.1.sets.length cS) (u2 := .slice M1 r.2.first.length d1) (u3 := .slice M2 r.2.last.length d2) (u4 := .slice AF r.1.fol.length cF) HV17.out HRB7.out e3) (ok' := fun _ => True) (fun _ _ => trivial))
   have HF3 := Aside0.mk (Kd.R_mono (R_set5 (u0 := .bool r.2.null) (u1 := .slice AS r.1.sets.length cS) (u2 := .slice M1 r.2.first.length d1) (u3 := .slice M2 r.2.last.length d2) (u4 := .slice AF r.1.fol.length cF) HV27.out HRB7.out e3) (ok' := fun _ => True) (fun _ _ => trivial))
   have HF4 := Aside0.mk (Kd.R_mono (R_set5 (u0 := .bool r.2.null) (u1 := .slice AS r.1.sets.length cS) (u2 := .slice M1 r.2.first.length d1) (u3 := .slice M2 r.2.last.length d2) (u4 := .slice AF r.1.fol.length cF) HM7.out.fol HRB7.out e27) (ok' := fun _ => True) (fun _ _ => trivial))
   clear e3 e27
   obtain ⟨W9, hW9⟩ : ∃ w, set5 W7 RB (.bool r.2.null) (.slice AS r.1.sets.length cS) (.slice M1 r.2.first.length d1) (.slice M2 r.2.last.length d2) (.slice AF r.1.fol.length cF) = w := ⟨_, rfl⟩
   rw [hW9] at HBK HBE HF1 HF2 HF3 HF4
   unfold set5 at hW9
   rw [hW9]
   clear hW9
   refine bodyPost_ret (results_ct rfl _ _ RB 30 #[.bool r.2.null, .slice AS r.1.sets.length cS, .slice M1 r.2.first.length d1, .slice M2 r.2.last.length d2, .slice AF r.1.fol.length cF] (0, 0) _ rfl HBK.out Try.underlying30 rfl (by kernel_rfl)) rfl ?_
   rw [HQ.out]
   exact ⟨_, _, _, _, rfl, HF1.out, HF2.out, HF3.out, HF4.out, HBE.out⟩
def scansionref11_Build.f (a0_0 a0_1 : Int) (l0_2 : List S24) : Option (Bool × List Int × List Int × List Int × List (List Int) × Int) := some (buildR ⟨a0_0, a0_1, l0_2⟩)
theorem scansionref11_Build.calls (a0_0 : Int) (a0_1 : Int) (A0_2 : Option Addr) (c0_2 : Nat) (l0_2 : List (S24)) (r1 : Bool) (r2 : List Int) (r3 : List Int) (r4 : List Int) (r5 : List (List Int)) (r6 : Int) (w : World) (hr0_2 : Kd.C k24 w A0_2 l0_2.length l0_2) (hc0_2 : l0_2.length ≤ c0_2) (h : scansionref11_Build.f a0_0 a0_1 l0_2 = some (r1, r2, r3, r4, r5, r6)) :
  Calls Try.prog 19 #[.agg #[.int .i64 a0_0, .int .i64 a0_1, .slice A0_2 l0_2.length c0_2]] w fun e w' => ∃ v1_ v2_ v3_ v4_ : Value, e = .returned (.tuple #[.agg #[.bool r1, v1_, v2_, v3_, v4_], .int .i64 r6]) ∧ Kd.R (Kd.int .i64) 3 w' w.heap.size (fun _ => True) v1_ r2 ∧ Kd.R (Kd.int .i64) 3 w' w.heap.size (fun _ => True) v2_ r3 ∧ Kd.R (Kd.int .i64) 3 w' w.heap.size (fun _ => True) v3_ r4 ∧ Kd.R (Kd.slice 3 (Kd.int .i64)) 27 w' w.heap.size (fun _ => True) v4_ r5 ∧ Below w.heap.size w w' := by
 have h1 := build_calls ⟨a0_0, a0_1, l0_2⟩ w A0_2 c0_2 hr0_2 hc0_2
 rw [Option.some.inj h] at h1
 exact h1
end Go.Proofs.Ytemlgmkbonpniaa.Print
