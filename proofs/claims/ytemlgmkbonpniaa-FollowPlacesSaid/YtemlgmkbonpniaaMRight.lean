/- match.Right: it tells what the plain function rightN tells. -/
import Derived.Test.YtemlgmkbonpniaaRRight
import Derived.Shelf.Abstract
namespace Go.Proofs.Ytemlgmkbonpniaa.Print
open Go.Shelf Go.RowKit Go.Maps Go.Proofs.YtemlgmkbonpniaaW.PrintWords Go.Proofs.YtemlgmkbonpniaaW.PrintLast Go.Proofs.YtemlgmkbonpniaaW.PrintMore
set_option linter.unusedVariables false
set_option linter.unusedSimpArgs false
def MROK (x : S24) : Prop := ∀ (W : World) (A : Option Addr) (c : Nat), Kd.C k24 W A x.f2.length x.f2 → x.f2.length ≤ c →
 Calls Try.prog 46 #[.agg #[.int .i64 x.f0, .int .i64 x.f1, .slice A x.f2.length c]] W fun e w' => e = .returned (.bool (rightN x)) ∧ Below W.heap.size W w'
set_option maxHeartbeats 4000000 in
theorem odd_calls {x : S24} (hx : MROK x) (W : World) (A : Option Addr) (c : Nat) (hC : Kd.C k24 W A x.f2.length x.f2) (hc : x.f2.length ≤ c) :
  Calls Try.prog 70 #[.agg #[.int .i64 x.f0, .int .i64 x.f1, .slice A x.f2.length c]] W fun e w' => e = .returned (.bool (!rightN x)) ∧ Below W.heap.size W w' := by
 have HC := Aside0.mk hC
 have HX := Aside0.mk hx
 have HCC := Aside0.mk hc
 clear hC hx hc
 go_enter Try.func70, Try.ntmps70
 go_upto_region 1 with fail
 have HB1 := Aside0.mk (below_alloc (Below.refl W.heap.size W) (.cells #[.int .i64 x.f0, .int .i64 x.f1, .slice A x.f2.length c] 24))
 have HNB1 := Aside0.mk (blk_new W (.cells #[.int .i64 x.f0, .int .i64 x.f1, .slice A x.f2.length c] 24))
 obtain ⟨NB, hNB⟩ : ∃ n, W.heap.size = n := ⟨_, rfl⟩
 rw [hNB] at HNB1
 obtain ⟨W1, hW1⟩ : ∃ w, W.alloc (.cells #[.int .i64 x.f0, .int .i64 x.f1, .slice A x.f2.length c] 24) = w := ⟨_, rfl⟩
 rw [hW1] at HB1 HNB1
 rw [hW1]
 rw [hNB]
 clear hNB hW1
 have n0 := (blk_cell HNB1.out 0).trans rfl
 have n1 := (blk_cell HNB1.out 1).trans rfl
 have n2 := (blk_cell HNB1.out 2).trans rfl
 go_wp2_with (go_at_call 46; refine (HX.out W1 A c (Kd.C_below HC.out HB1.out) HCC.out).mono ?_; rintro e W2 ⟨rfl, hb2⟩; have HB2 := Aside0.mk (HB1.out.trans (hb2.mono HB1.out.size)); clear hb2 n0 n1 n2)
 go_ret
 exact ⟨rfl, HB2.out⟩
set_option maxHeartbeats 16000000 in
set_option maxRecDepth 100000 in
theorem mindex_calls (kids : List S24) (hok : ∀ y ∈ kids, MROK y) (W : World) (A : Option Addr) (c : Nat) (hC : Kd.C k24 W A kids.length kids) :
  Calls Try.prog 92 #[.slice A kids.length c, .func (.func 70) #[] #[]] W fun e w' => ∃ r : Int, e = .returned (.int .i64 r) ∧ decide (r ≥ 0) = !rightL kids ∧ Below W.heap.size W w' := by
 have eg : ∀ args w, (callFunc 70 args).run Try.prog w = .ok (.enter 70 args) w := enters_of Try.func70 (by kernel_rfl) rfl
 have HC := Aside0.mk hC
 have HOK := Aside0.mk hok
 have HLL := Aside0.mk (hC.2.1 : kids.length ≤ 9223372036854775807)
 clear hC hok
 go_enter Try.func92, Try.ntmps92
 go_wp2
 go_loopg [8] kids.length (fun kq v8 w' => ∃ i : Nat, v8 = .int .i64 (i : Int) ∧ Aside0 (i + kq = kids.length) ∧ Aside0 (∀ y ∈ kids.take i, rightN y = true) ∧ Aside0 (Below W.heap.size W w'))
 case atStart => exact ⟨0, rfl, ⟨Nat.zero_add _⟩, ⟨fun y hy => by cases hy⟩, ⟨Below.refl _ _⟩⟩
 case round =>
  obtain ⟨i, rfl, HK, HALL, HB2⟩ := hrel
  by_cases q0 : gk = 0
  ·have f1 : ¬ i < kids.length := by have := HK.out; omega
   have f2 : decide ((i : Int) < (kids.length : Int)) = false := decide_eq_false (by omega)
   have HE := Aside0.mk (show rightL kids = true by
    have h := HALL.out
    rw [List.take_of_length_le (by omega)] at h
    exact rightL_true h)
   clear q0
   go_wp2_with fail
   go_ret
   rw [HE.out]
   exact ⟨_, rfl, rfl, HB2.out⟩
  ·have HQ := Aside0.mk q0
   clear q0
   have HIL := Aside0.mk (show i < kids.length by have := HK.out; have := HQ.out; omega)
   obtain ⟨ad, A2, c2, eA, hx0, hx1, hx2, hl2, hg2⟩ := at_T24 (Kd.C_below HC.out HB2.out) (i : Int) (Int.natCast_nonneg i) (by have := HIL.out; omega)
   rw [Int.toNat_natCast] at hx0 hx1 hx2
   obtain ⟨x, hx⟩ : ∃ x, x = rd_T24 kids (i : Int) := ⟨_, rfl⟩
   rw [← hx] at hx0 hx1 hx2 hl2 hg2
   have HXX := Aside0.mk hx
   have HMEM := Aside0.mk (show x ∈ kids by rw [hx, rd_get HIL.out]; exact List.getElem_mem _)
   subst eA
   have HNODE := Aside0.mk (odd_calls (HOK.out x HMEM.out) wr A2 c2 hg2 hl2)
   clear hx hl2 hg2
   have f1 : i < kids.length := HIL.out
   have f2 : decide ((i : Int) < (kids.length : Int)) = true := decide_eq_true (by omega)
   have f3 : 0 ≤ (i : Int) := Int.natCast_nonneg i
   go_wp2_with fail
   refine HNODE.out.mono ?_
   rintro e W2 ⟨rfl, hb2⟩
   have HB3 := Aside0.mk (HB2.out.trans (hb2.mono HB2.out.size))
   clear hb2 hx0 hx1 hx2
   cases hb : rightN x
   case false =>
    have HF := Aside0.mk (rightL_false HMEM.out hb)
    have hnb : (!false) = true := rfl
    clear hb
    go_wp2_with fail
    go_ret
    rw [HF.out]
    exact ⟨_, rfl, decide_eq_true (Int.natCast_nonneg i), HB3.out⟩
   case true =>
    have HXT := Aside0.mk hb
    clear hb
    go_wp2_with fail
    go_roundg (gk - 1)
    case measure => have := HQ.out; omega
    case rel =>
     refine ⟨i + 1, by rw [show wrap64 ((i : Int) + 1) = ((i + 1 : Nat) : Int) by have := HIL.out; have := HLL.out; unfold wrap64; omega], ⟨by have := HK.out; have := HQ.out; omega⟩, ⟨fun y hy => ?_⟩, HB3⟩
     rw [take_rd HIL.out, ← HXX.out] at hy
     rcases List.mem_append.1 hy with hy | hy
     ·exact HALL.out y hy
     ·rw [List.mem_singleton.1 hy]; exact HXT.out
set_option maxHeartbeats 4000000 in
theorem mcont_calls (kids : List S24) (hok : ∀ y ∈ kids, MROK y) (W : World) (A : Option Addr) (c : Nat) (hC : Kd.C k24 W A kids.length kids) :
  Calls Try.prog 71 #[.slice A kids.length c, .func (.func 70) #[] #[]] W fun e w' => e = .returned (.bool (!rightL kids)) ∧ Below W.heap.size W w' := by
 have HI := Aside0.mk (mindex_calls kids hok W A c hC)
 clear hok hC
 go_enter Try.func71, Try.ntmps71
 go_wp2_with (go_at_call 92; refine HI.out.mono ?_; rintro e W2 ⟨r, rfl, he, hb2⟩; have HE := Aside0.mk he; have HB := Aside0.mk hb2; clear he hb2)
 go_ret
 rw [← HE.out]
 exact ⟨rfl, HB.out⟩
set_option maxHeartbeats 16000000 in
set_option maxRecDepth 100000 in
theorem mr_k0 (s : Int) (kids : List S24) (hok : ∀ y ∈ kids, MROK y) : MROK ⟨0, s, kids⟩ := by
 intro W A c hC hc
 replace hC : Kd.C k24 W A kids.length kids := hC
 replace hc : kids.length ≤ c := hc
 show Calls Try.prog 46 #[.agg #[.int .i64 0, .int .i64 s, .slice A kids.length c]] W fun e w' => e = .returned (.bool (rightN ⟨0, s, kids⟩)) ∧ Below W.heap.size W w'
 have HC := Aside0.mk hC
 have HCC := Aside0.mk hc
 have HOK := Aside0.mk hok
 clear hok hC hc
 have HE := Aside0.mk (show rightN ⟨0, s, kids⟩ = rightL kids by rw [rightN]; rfl)
 go_enter Try.func46, Try.ntmps46
 go_upto_region 1 with fail
 have HB1 := Aside0.mk (below_alloc (Below.refl W.heap.size W) (.cells #[.int .i64 0, .int .i64 s, .slice A kids.length c] 24))
 have HNB1 := Aside0.mk (blk_new W (.cells #[.int .i64 0, .int .i64 s, .slice A kids.length c] 24))
 obtain ⟨NB, hNB⟩ : ∃ n, W.heap.size = n := ⟨_, rfl⟩
 rw [hNB] at HNB1
 obtain ⟨W1, hW1⟩ : ∃ w, W.alloc (.cells #[.int .i64 0, .int .i64 s, .slice A kids.length c] 24) = w := ⟨_, rfl⟩
 rw [hW1] at HB1 HNB1
 rw [hW1]
 rw [hNB]
 clear hNB hW1
 have n0 := (blk_cell HNB1.out 0).trans rfl
 have n1 := (blk_cell HNB1.out 1).trans rfl
 have n2 := (blk_cell HNB1.out 2).trans rfl
 go_wp2_with (go_at_call 71; refine (mcont_calls kids HOK.out W1 A c (Kd.C_below HC.out HB1.out)).mono ?_; rintro e W2 ⟨rfl, hb2⟩; have HB2 := Aside0.mk (HB1.out.trans (hb2.mono HB1.out.size)); clear hb2 n0 n1 n2)
 go_ret
 rw [HE.out]
 cases rightL kids <;> exact ⟨rfl, HB2.out⟩
set_option maxHeartbeats 16000000 in
set_option maxRecDepth 100000 in
theorem mr_k2 (s : Int) (kids : List S24) (hok : ∀ y ∈ kids, MROK y) (h1 : kids.length ≠ 0) : MROK ⟨2, s, kids⟩ := by
 intro W A c hC hc
 replace hC : Kd.C k24 W A kids.length kids := hC
 replace hc : kids.length ≤ c := hc
 show Calls Try.prog 46 #[.agg #[.int .i64 2, .int .i64 s, .slice A kids.length c]] W fun e w' => e = .returned (.bool (rightN ⟨2, s, kids⟩)) ∧ Below W.heap.size W w'
 have HC := Aside0.mk hC
 have HCC := Aside0.mk hc
 have HOK := Aside0.mk hok
 clear hok hC hc
 have f0 : decide ((kids.length : Int) > 0) = true := decide_eq_true (by omega)
 have f1 : decide (0 < (kids.length : Int)) = true := decide_eq_true (by omega)
 have f2 : 0 < kids.length := by omega
 have H1 := Aside0.mk h1
 clear h1
 have HE := Aside0.mk (show rightN ⟨2, s, kids⟩ = rightL kids by rw [rightN]; rw [if_neg (by decide), if_neg (by decide), if_pos rfl]; cases kids with | nil => exact absurd rfl H1.out | cons _ _ => rfl)
 go_enter Try.func46, Try.ntmps46
 go_upto_region 1 with fail
 have HB1 := Aside0.mk (below_alloc (Below.refl W.heap.size W) (.cells #[.int .i64 2, .int .i64 s, .slice A kids.length c] 24))
 have HNB1 := Aside0.mk (blk_new W (.cells #[.int .i64 2, .int .i64 s, .slice A kids.length c] 24))
 obtain ⟨NB, hNB⟩ : ∃ n, W.heap.size = n := ⟨_, rfl⟩
 rw [hNB] at HNB1
 obtain ⟨W1, hW1⟩ : ∃ w, W.alloc (.cells #[.int .i64 2, .int .i64 s, .slice A kids.length c] 24) = w := ⟨_, rfl⟩
 rw [hW1] at HB1 HNB1
 rw [hW1]
 rw [hNB]
 clear hNB hW1
 have n0 := (blk_cell HNB1.out 0).trans rfl
 have n1 := (blk_cell HNB1.out 1).trans rfl
 have n2 := (blk_cell HNB1.out 2).trans rfl
 go_wp2_with (go_at_call 71; refine (mcont_calls kids HOK.out W1 A c (Kd.C_below HC.out HB1.out)).mono ?_; rintro e W2 ⟨rfl, hb2⟩; have HB2 := Aside0.mk (HB1.out.trans (hb2.mono HB1.out.size)); clear hb2 n0 n1 n2)
 go_ret
 rw [HE.out]
 cases rightL kids <;> exact ⟨rfl, HB2.out⟩
set_option maxHeartbeats 16000000 in
set_option maxRecDepth 100000 in
theorem mr_k2n (s : Int) (kids : List S24) (hok : ∀ y ∈ kids, MROK y) (h1 : kids.length = 0) : MROK ⟨2, s, kids⟩ := by
 intro W A c hC hc
 replace hC : Kd.C k24 W A kids.length kids := hC
 replace hc : kids.length ≤ c := hc
 show Calls Try.prog 46 #[.agg #[.int .i64 2, .int .i64 s, .slice A kids.length c]] W fun e w' => e = .returned (.bool (rightN ⟨2, s, kids⟩)) ∧ Below W.heap.size W w'
 have HC := Aside0.mk hC
 have HCC := Aside0.mk hc
 have HOK := Aside0.mk hok
 clear hok hC hc
 have f0 : decide ((kids.length : Int) > 0) = false := decide_eq_false (by omega)
 have f1 : decide (0 < (kids.length : Int)) = false := decide_eq_false (by omega)
 have f2 : ¬ 0 < kids.length := by omega
 have H1 := Aside0.mk h1
 clear h1
 have HE := Aside0.mk (show rightN ⟨2, s, kids⟩ = false by rw [rightN]; rw [if_neg (by decide), if_neg (by decide), if_pos rfl, List.length_eq_zero_iff.1 H1.out]; rfl)
 go_enter Try.func46, Try.ntmps46
 go_upto_region 1 with fail
 have HB1 := Aside0.mk (below_alloc (Below.refl W.heap.size W) (.cells #[.int .i64 2, .int .i64 s, .slice A kids.length c] 24))
 have HNB1 := Aside0.mk (blk_new W (.cells #[.int .i64 2, .int .i64 s, .slice A kids.length c] 24))
 obtain ⟨NB, hNB⟩ : ∃ n, W.heap.size = n := ⟨_, rfl⟩
 rw [hNB] at HNB1
 obtain ⟨W1, hW1⟩ : ∃ w, W.alloc (.cells #[.int .i64 2, .int .i64 s, .slice A kids.length c] 24) = w := ⟨_, rfl⟩
 rw [hW1] at HB1 HNB1
 rw [hW1]
 rw [hNB]
 clear hNB hW1
 have n0 := (blk_cell HNB1.out 0).trans rfl
 have n1 := (blk_cell HNB1.out 1).trans rfl
 have n2 := (blk_cell HNB1.out 2).trans rfl
 go_wp2_with fail
 go_ret
 rw [HE.out]
 exact ⟨rfl, HB1.out⟩
set_option maxHeartbeats 16000000 in
set_option maxRecDepth 100000 in
theorem mr_k3 (s : Int) (kids : List S24) (hok : ∀ y ∈ kids, MROK y) (h1 : kids.length = 1) : MROK ⟨3, s, kids⟩ := by
 intro W A c hC hc
 replace hC : Kd.C k24 W A kids.length kids := hC
 replace hc : kids.length ≤ c := hc
 show Calls Try.prog 46 #[.agg #[.int .i64 3, .int .i64 s, .slice A kids.length c]] W fun e w' => e = .returned (.bool (rightN ⟨3, s, kids⟩)) ∧ Below W.heap.size W w'
 have HC := Aside0.mk hC
 have HCC := Aside0.mk hc
 have HOK := Aside0.mk hok
 clear hok hC hc
 have f0 : ((kids.length : Int) == 1) = true := beq_iff_eq.2 (by omega)
 have H1 := Aside0.mk h1
 clear h1
 have HE := Aside0.mk (show rightN ⟨3, s, kids⟩ = rightL kids by rw [rightN]; rw [if_neg (by decide), if_neg (by decide), if_neg (by decide), if_pos (by decide), decide_eq_true H1.out]; rfl)
 go_enter Try.func46, Try.ntmps46
 go_upto_region 1 with fail
 have HB1 := Aside0.mk (below_alloc (Below.refl W.heap.size W) (.cells #[.int .i64 3, .int .i64 s, .slice A kids.length c] 24))
 have HNB1 := Aside0.mk (blk_new W (.cells #[.int .i64 3, .int .i64 s, .slice A kids.length c] 24))
 obtain ⟨NB, hNB⟩ : ∃ n, W.heap.size = n := ⟨_, rfl⟩
 rw [hNB] at HNB1
 obtain ⟨W1, hW1⟩ : ∃ w, W.alloc (.cells #[.int .i64 3, .int .i64 s, .slice A kids.length c] 24) = w := ⟨_, rfl⟩
 rw [hW1] at HB1 HNB1
 rw [hW1]
 rw [hNB]
 clear hNB hW1
 have n0 := (blk_cell HNB1.out 0).trans rfl
 have n1 := (blk_cell HNB1.out 1).trans rfl
 have n2 := (blk_cell HNB1.out 2).trans rfl
 go_wp2_with (go_at_call 71; refine (mcont_calls kids HOK.out W1 A c (Kd.C_below HC.out HB1.out)).mono ?_; rintro e W2 ⟨rfl, hb2⟩; have HB2 := Aside0.mk (HB1.out.trans (hb2.mono HB1.out.size)); clear hb2 n0 n1 n2)
 go_ret
 rw [HE.out]
 cases rightL kids <;> exact ⟨rfl, HB2.out⟩
set_option maxHeartbeats 16000000 in
set_option maxRecDepth 100000 in
theorem mr_k3n (s : Int) (kids : List S24) (hok : ∀ y ∈ kids, MROK y) (h1 : kids.length ≠ 1) : MROK ⟨3, s, kids⟩ := by
 intro W A c hC hc
 replace hC : Kd.C k24 W A kids.length kids := hC
 replace hc : kids.length ≤ c := hc
 show Calls Try.prog 46 #[.agg #[.int .i64 3, .int .i64 s, .slice A kids.length c]] W fun e w' => e = .returned (.bool (rightN ⟨3, s, kids⟩)) ∧ Below W.heap.size W w'
 have HC := Aside0.mk hC
 have HCC := Aside0.mk hc
 have HOK := Aside0.mk hok
 clear hok hC hc
 have f0 : ((kids.length : Int) == 1) = false := beq_eq_false_iff_ne.2 (by omega)
 have f1 : ¬ kids.length = 1 := h1
 have H1 := Aside0.mk h1
 clear h1
 have HE := Aside0.mk (show rightN ⟨3, s, kids⟩ = false by rw [rightN]; rw [if_neg (by decide), if_neg (by decide), if_neg (by decide), if_pos (by decide), decide_eq_false H1.out]; rfl)
 go_enter Try.func46, Try.ntmps46
 go_upto_region 1 with fail
 have HB1 := Aside0.mk (below_alloc (Below.refl W.heap.size W) (.cells #[.int .i64 3, .int .i64 s, .slice A kids.length c] 24))
 have HNB1 := Aside0.mk (blk_new W (.cells #[.int .i64 3, .int .i64 s, .slice A kids.length c] 24))
 obtain ⟨NB, hNB⟩ : ∃ n, W.heap.size = n := ⟨_, rfl⟩
 rw [hNB] at HNB1
 obtain ⟨W1, hW1⟩ : ∃ w, W.alloc (.cells #[.int .i64 3, .int .i64 s, .slice A kids.length c] 24) = w := ⟨_, rfl⟩
 rw [hW1] at HB1 HNB1
 rw [hW1]
 rw [hNB]
 clear hNB hW1
 have n0 := (blk_cell HNB1.out 0).trans rfl
 have n1 := (blk_cell HNB1.out 1).trans rfl
 have n2 := (blk_cell HNB1.out 2).trans rfl
 go_wp2_with fail
 go_ret
 rw [HE.out]
 exact ⟨rfl, HB1.out⟩
set_option maxHeartbeats 16000000 in
set_option maxRecDepth 100000 in
theorem mr_k4 (s : Int) (kids : List S24) (hok : ∀ y ∈ kids, MROK y) (h1 : kids.length = 1) : MROK ⟨4, s, kids⟩ := by
 intro W A c hC hc
 replace hC : Kd.C k24 W A kids.length kids := hC
 replace hc : kids.length ≤ c := hc
 show Calls Try.prog 46 #[.agg #[.int .i64 4, .int .i64 s, .slice A kids.length c]] W fun e w' => e = .returned (.bool (rightN ⟨4, s, kids⟩)) ∧ Below W.heap.size W w'
 have HC := Aside0.mk hC
 have HCC := Aside0.mk hc
 have HOK := Aside0.mk hok
 clear hok hC hc
 have f0 : ((kids.length : Int) == 1) = true := beq_iff_eq.2 (by omega)
 have H1 := Aside0.mk h1
 clear h1
 have HE := Aside0.mk (show rightN ⟨4, s, kids⟩ = rightL kids by rw [rightN]; rw [if_neg (by decide), if_neg (by decide), if_neg (by decide), if_pos (by decide), decide_eq_true H1.out]; rfl)
 go_enter Try.func46, Try.ntmps46
 go_upto_region 1 with fail
 have HB1 := Aside0.mk (below_alloc (Below.refl W.heap.size W) (.cells #[.int .i64 4, .int .i64 s, .slice A kids.length c] 24))
 have HNB1 := Aside0.mk (blk_new W (.cells #[.int .i64 4, .int .i64 s, .slice A kids.length c] 24))
 obtain ⟨NB, hNB⟩ : ∃ n, W.heap.size = n := ⟨_, rfl⟩
 rw [hNB] at HNB1
 obtain ⟨W1, hW1⟩ : ∃ w, W.alloc (.cells #[.int .i64 4, .int .i64 s, .slice A kids.length c] 24) = w := ⟨_, rfl⟩
 rw [hW1] at HB1 HNB1
 rw [hW1]
 rw [hNB]
 clear hNB hW1
 have n0 := (blk_cell HNB1.out 0).trans rfl
 have n1 := (blk_cell HNB1.out 1).trans rfl
 have n2 := (blk_cell HNB1.out 2).trans rfl
 go_wp2_with (go_at_call 71; refine (mcont_calls kids HOK.out W1 A c (Kd.C_below HC.out HB1.out)).mono ?_; rintro e W2 ⟨rfl, hb2⟩; have HB2 := Aside0.mk (HB1.out.trans (hb2.mono HB1.out.size)); clear hb2 n0 n1 n2)
 go_ret
 rw [HE.out]
 cases rightL kids <;> exact ⟨rfl, HB2.out⟩
set_option maxHeartbeats 16000000 in
set_option maxRecDepth 100000 in
theorem mr_k4n (s : Int) (kids : List S24) (hok : ∀ y ∈ kids, MROK y) (h1 : kids.length ≠ 1) : MROK ⟨4, s, kids⟩ := by
 intro W A c hC hc
 replace hC : Kd.C k24 W A kids.length kids := hC
 replace hc : kids.length ≤ c := hc
 show Calls Try.prog 46 #[.agg #[.int .i64 4, .int .i64 s, .slice A kids.length c]] W fun e w' => e = .returned (.bool (rightN ⟨4, s, kids⟩)) ∧ Below W.heap.size W w'
 have HC := Aside0.mk hC
 have HCC := Aside0.mk hc
 have HOK := Aside0.mk hok
 clear hok hC hc
 have f0 : ((kids.length : Int) == 1) = false := beq_eq_false_iff_ne.2 (by omega)
 have f1 : ¬ kids.length = 1 := h1
 have H1 := Aside0.mk h1
 clear h1
 have HE := Aside0.mk (show rightN ⟨4, s, kids⟩ = false by rw [rightN]; rw [if_neg (by decide), if_neg (by decide), if_neg (by decide), if_pos (by decide), decide_eq_false H1.out]; rfl)
 go_enter Try.func46, Try.ntmps46
 go_upto_region 1 with fail
 have HB1 := Aside0.mk (below_alloc (Below.refl W.heap.size W) (.cells #[.int .i64 4, .int .i64 s, .slice A kids.length c] 24))
 have HNB1 := Aside0.mk (blk_new W (.cells #[.int .i64 4, .int .i64 s, .slice A kids.length c] 24))
 obtain ⟨NB, hNB⟩ : ∃ n, W.heap.size = n := ⟨_, rfl⟩
 rw [hNB] at HNB1
 obtain ⟨W1, hW1⟩ : ∃ w, W.alloc (.cells #[.int .i64 4, .int .i64 s, .slice A kids.length c] 24) = w := ⟨_, rfl⟩
 rw [hW1] at HB1 HNB1
 rw [hW1]
 rw [hNB]
 clear hNB hW1
 have n0 := (blk_cell HNB1.out 0).trans rfl
 have n1 := (blk_cell HNB1.out 1).trans rfl
 have n2 := (blk_cell HNB1.out 2).trans rfl
 go_wp2_with fail
 go_ret
 rw [HE.out]
 exact ⟨rfl, HB1.out⟩
set_option maxHeartbeats 16000000 in
set_option maxRecDepth 100000 in
theorem mr_k5 (s : Int) (kids : List S24) (hok : ∀ y ∈ kids, MROK y) (h1 : kids.length = 1) : MROK ⟨5, s, kids⟩ := by
 intro W A c hC hc
 replace hC : Kd.C k24 W A kids.length kids := hC
 replace hc : kids.length ≤ c := hc
 show Calls Try.prog 46 #[.agg #[.int .i64 5, .int .i64 s, .slice A kids.length c]] W fun e w' => e = .returned (.bool (rightN ⟨5, s, kids⟩)) ∧ Below W.heap.size W w'
 have HC := Aside0.mk hC
 have HCC := Aside0.mk hc
 have HOK := Aside0.mk hok
 clear hok hC hc
 have f0 : ((kids.length : Int) == 1) = true := beq_iff_eq.2 (by omega)
 have H1 := Aside0.mk h1
 clear h1
 have HE := Aside0.mk (show rightN ⟨5, s, kids⟩ = rightL kids by rw [rightN]; rw [if_neg (by decide), if_neg (by decide), if_neg (by decide), if_pos (by decide), decide_eq_true H1.out]; rfl)
 go_enter Try.func46, Try.ntmps46
 go_upto_region 1 with fail
 have HB1 := Aside0.mk (below_alloc (Below.refl W.heap.size W) (.cells #[.int .i64 5, .int .i64 s, .slice A kids.length c] 24))
 have HNB1 := Aside0.mk (blk_new W (.cells #[.int .i64 5, .int .i64 s, .slice A kids.length c] 24))
 obtain ⟨NB, hNB⟩ : ∃ n, W.heap.size = n := ⟨_, rfl⟩
 rw [hNB] at HNB1
 obtain ⟨W1, hW1⟩ : ∃ w, W.alloc (.cells #[.int .i64 5, .int .i64 s, .slice A kids.length c] 24) = w := ⟨_, rfl⟩
 rw [hW1] at HB1 HNB1
 rw [hW1]
 rw [hNB]
 clear hNB hW1
 have n0 := (blk_cell HNB1.out 0).trans rfl
 have n1 := (blk_cell HNB1.out 1).trans rfl
 have n2 := (blk_cell HNB1.out 2).trans rfl
 go_wp2_with (go_at_call 71; refine (mcont_calls kids HOK.out W1 A c (Kd.C_below HC.out HB1.out)).mono ?_; rintro e W2 ⟨rfl, hb2⟩; have HB2 := Aside0.mk (HB1.out.trans (hb2.mono HB1.out.size)); clear hb2 n0 n1 n2)
 go_ret
 rw [HE.out]
 cases rightL kids <;> exact ⟨rfl, HB2.out⟩
set_option maxHeartbeats 16000000 in
set_option maxRecDepth 100000 in
theorem mr_k5n (s : Int) (kids : List S24) (hok : ∀ y ∈ kids, MROK y) (h1 : kids.length ≠ 1) : MROK ⟨5, s, kids⟩ := by
 intro W A c hC hc
 replace hC : Kd.C k24 W A kids.length kids := hC
 replace hc : kids.length ≤ c := hc
 show Calls Try.prog 46 #[.agg #[.int .i64 5, .int .i64 s, .slice A kids.length c]] W fun e w' => e = .returned (.bool (rightN ⟨5, s, kids⟩)) ∧ Below W.heap.size W w'
 have HC := Aside0.mk hC
 have HCC := Aside0.mk hc
 have HOK := Aside0.mk hok
 clear hok hC hc
 have f0 : ((kids.length : Int) == 1) = false := beq_eq_false_iff_ne.2 (by omega)
 have f1 : ¬ kids.length = 1 := h1
 have H1 := Aside0.mk h1
 clear h1
 have HE := Aside0.mk (show rightN ⟨5, s, kids⟩ = false by rw [rightN]; rw [if_neg (by decide), if_neg (by decide), if_neg (by decide), if_pos (by decide), decide_eq_false H1.out]; rfl)
 go_enter Try.func46, Try.ntmps46
 go_upto_region 1 with fail
 have HB1 := Aside0.mk (below_alloc (Below.refl W.heap.size W) (.cells #[.int .i64 5, .int .i64 s, .slice A kids.length c] 24))
 have HNB1 := Aside0.mk (blk_new W (.cells #[.int .i64 5, .int .i64 s, .slice A kids.length c] 24))
 obtain ⟨NB, hNB⟩ : ∃ n, W.heap.size = n := ⟨_, rfl⟩
 rw [hNB] at HNB1
 obtain ⟨W1, hW1⟩ : ∃ w, W.alloc (.cells #[.int .i64 5, .int .i64 s, .slice A kids.length c] 24) = w := ⟨_, rfl⟩
 rw [hW1] at HB1 HNB1
 rw [hW1]
 rw [hNB]
 clear hNB hW1
 have n0 := (blk_cell HNB1.out 0).trans rfl
 have n1 := (blk_cell HNB1.out 1).trans rfl
 have n2 := (blk_cell HNB1.out 2).trans rfl
 go_wp2_with fail
 go_ret
 rw [HE.out]
 exact ⟨rfl, HB1.out⟩
set_option maxHeartbeats 16000000 in
set_option maxRecDepth 100000 in
theorem mr_kx (k : Int) (s : Int) (kids : List S24) (hok : ∀ y ∈ kids, MROK y) (h1 : k ≠ 1 ∧ k ≠ 0 ∧ k ≠ 2 ∧ k ≠ 3 ∧ k ≠ 4 ∧ k ≠ 5) : MROK ⟨k, s, kids⟩ := by
 intro W A c hC hc
 replace hC : Kd.C k24 W A kids.length kids := hC
 replace hc : kids.length ≤ c := hc
 show Calls Try.prog 46 #[.agg #[.int .i64 k, .int .i64 s, .slice A kids.length c]] W fun e w' => e = .returned (.bool (rightN ⟨k, s, kids⟩)) ∧ Below W.heap.size W w'
 have HC := Aside0.mk hC
 have HCC := Aside0.mk hc
 have HOK := Aside0.mk hok
 clear hok hC hc
 have e0 : (k == 0) = false := beq_eq_false_iff_ne.2 (by omega)
 have e1 : (k == 1) = false := beq_eq_false_iff_ne.2 (by omega)
 have e2 : (k == 2) = false := beq_eq_false_iff_ne.2 (by omega)
 have e3 : (k == 3) = false := beq_eq_false_iff_ne.2 (by omega)
 have e4 : (k == 4) = false := beq_eq_false_iff_ne.2 (by omega)
 have e5 : (k == 5) = false := beq_eq_false_iff_ne.2 (by omega)
 have H1 := Aside0.mk h1
 clear h1
 have HE := Aside0.mk (show rightN ⟨k, s, kids⟩ = false by have h1 := H1.out; rw [rightN]; rw [if_neg h1.1, if_neg h1.2.1, if_neg h1.2.2.1, if_neg (by omega)])
 go_enter Try.func46, Try.ntmps46
 go_upto_region 1 with fail
 have HB1 := Aside0.mk (below_alloc (Below.refl W.heap.size W) (.cells #[.int .i64 k, .int .i64 s, .slice A kids.length c] 24))
 have HNB1 := Aside0.mk (blk_new W (.cells #[.int .i64 k, .int .i64 s, .slice A kids.length c] 24))
 obtain ⟨NB, hNB⟩ : ∃ n, W.heap.size = n := ⟨_, rfl⟩
 rw [hNB] at HNB1
 obtain ⟨W1, hW1⟩ : ∃ w, W.alloc (.cells #[.int .i64 k, .int .i64 s, .slice A kids.length c] 24) = w := ⟨_, rfl⟩
 rw [hW1] at HB1 HNB1
 rw [hW1]
 rw [hNB]
 clear hNB hW1
 have n0 := (blk_cell HNB1.out 0).trans rfl
 have n1 := (blk_cell HNB1.out 1).trans rfl
 have n2 := (blk_cell HNB1.out 2).trans rfl
 go_wp2_with fail
 go_ret
 rw [HE.out]
 exact ⟨rfl, HB1.out⟩
set_option maxHeartbeats 16000000 in
set_option maxRecDepth 100000 in
theorem mr_s0 (s : Int) (kids : List S24) (hok : ∀ y ∈ kids, MROK y) (h1 : kids.length ≠ 0) : MROK ⟨1, s, kids⟩ := by
 intro W A c hC hc
 replace hC : Kd.C k24 W A kids.length kids := hC
 replace hc : kids.length ≤ c := hc
 show Calls Try.prog 46 #[.agg #[.int .i64 1, .int .i64 s, .slice A kids.length c]] W fun e w' => e = .returned (.bool (rightN ⟨1, s, kids⟩)) ∧ Below W.heap.size W w'
 have HC := Aside0.mk hC
 have HCC := Aside0.mk hc
 have HOK := Aside0.mk hok
 clear hok hC hc
 have f0 : ((kids.length : Int) == 0) = false := beq_eq_false_iff_ne.2 (by omega)
 have f1 : ¬ kids.length = 0 := h1
 have H1 := Aside0.mk h1
 clear h1
 have HE := Aside0.mk (show rightN ⟨1, s, kids⟩ = false by rw [rightN]; rw [if_pos rfl]; cases kids with | nil => exact absurd rfl H1.out | cons _ _ => rfl)
 go_enter Try.func46, Try.ntmps46
 go_upto_region 1 with fail
 have HB1 := Aside0.mk (below_alloc (Below.refl W.heap.size W) (.cells #[.int .i64 1, .int .i64 s, .slice A kids.length c] 24))
 have HNB1 := Aside0.mk (blk_new W (.cells #[.int .i64 1, .int .i64 s, .slice A kids.length c] 24))
 obtain ⟨NB, hNB⟩ : ∃ n, W.heap.size = n := ⟨_, rfl⟩
 rw [hNB] at HNB1
 obtain ⟨W1, hW1⟩ : ∃ w, W.alloc (.cells #[.int .i64 1, .int .i64 s, .slice A kids.length c] 24) = w := ⟨_, rfl⟩
 rw [hW1] at HB1 HNB1
 rw [hW1]
 rw [hNB]
 clear hNB hW1
 have n0 := (blk_cell HNB1.out 0).trans rfl
 have n1 := (blk_cell HNB1.out 1).trans rfl
 have n2 := (blk_cell HNB1.out 2).trans rfl
 go_wp2_with fail
 go_ret
 rw [HE.out]
 exact ⟨rfl, HB1.out⟩
set_option maxHeartbeats 16000000 in
set_option maxRecDepth 100000 in
theorem mr_s1 (s : Int) (kids : List S24) (hok : ∀ y ∈ kids, MROK y) (h1 : kids.length = 0 ∧ ¬ 0 ≤ s) : MROK ⟨1, s, kids⟩ := by
 intro W A c hC hc
 replace hC : Kd.C k24 W A kids.length kids := hC
 replace hc : kids.length ≤ c := hc
 show Calls Try.prog 46 #[.agg #[.int .i64 1, .int .i64 s, .slice A kids.length c]] W fun e w' => e = .returned (.bool (rightN ⟨1, s, kids⟩)) ∧ Below W.heap.size W w'
 have HC := Aside0.mk hC
 have HCC := Aside0.mk hc
 have HOK := Aside0.mk hok
 clear hok hC hc
 have f0 : ((kids.length : Int) == 0) = true := beq_iff_eq.2 (by have := h1.1; omega)
 have H1 := Aside0.mk h1
 clear h1
 have f1 : decide (0 ≤ s) = false := decide_eq_false (by have := H1.out; omega)
 have f11 : decide (s ≥ 0) = false := decide_eq_false (by have := H1.out; omega)
 have HE := Aside0.mk (show rightN ⟨1, s, kids⟩ = false by rw [rightN]; rw [if_pos rfl, decide_eq_false H1.out.2, Bool.and_false]; rfl)
 go_enter Try.func46, Try.ntmps46
 go_upto_region 1 with fail
 have HB1 := Aside0.mk (below_alloc (Below.refl W.heap.size W) (.cells #[.int .i64 1, .int .i64 s, .slice A kids.length c] 24))
 have HNB1 := Aside0.mk (blk_new W (.cells #[.int .i64 1, .int .i64 s, .slice A kids.length c] 24))
 obtain ⟨NB, hNB⟩ : ∃ n, W.heap.size = n := ⟨_, rfl⟩
 rw [hNB] at HNB1
 obtain ⟨W1, hW1⟩ : ∃ w, W.alloc (.cells #[.int .i64 1, .int .i64 s, .slice A kids.length c] 24) = w := ⟨_, rfl⟩
 rw [hW1] at HB1 HNB1
 rw [hW1]
 rw [hNB]
 clear hNB hW1
 have n0 := (blk_cell HNB1.out 0).trans rfl
 have n1 := (blk_cell HNB1.out 1).trans rfl
 have n2 := (blk_cell HNB1.out 2).trans rfl
 go_wp2_with fail
 go_ret
 rw [HE.out]
 exact ⟨rfl, HB1.out⟩
set_option maxHeartbeats 16000000 in
set_option maxRecDepth 100000 in
theorem mr_s2 (s : Int) (kids : List S24) (hok : ∀ y ∈ kids, MROK y) (h1 : kids.length = 0 ∧ 0 ≤ s ∧ ¬ s ≤ 63) : MROK ⟨1, s, kids⟩ := by
 intro W A c hC hc
 replace hC : Kd.C k24 W A kids.length kids := hC
 replace hc : kids.length ≤ c := hc
 show Calls Try.prog 46 #[.agg #[.int .i64 1, .int .i64 s, .slice A kids.length c]] W fun e w' => e = .returned (.bool (rightN ⟨1, s, kids⟩)) ∧ Below W.heap.size W w'
 have HC := Aside0.mk hC
 have HCC := Aside0.mk hc
 have HOK := Aside0.mk hok
 clear hok hC hc
 have f0 : ((kids.length : Int) == 0) = true := beq_iff_eq.2 (by have := h1.1; omega)
 have H1 := Aside0.mk h1
 clear h1
 have f1 : decide (0 ≤ s) = true := decide_eq_true (by have := H1.out; omega)
 have f11 : decide (s ≥ 0) = true := decide_eq_true (by have := H1.out; omega)
 have f2 : decide (s ≤ 63) = false := decide_eq_false (by have := H1.out; omega)
 have HE := Aside0.mk (show rightN ⟨1, s, kids⟩ = false by rw [rightN]; rw [if_pos rfl, decide_eq_false H1.out.2.2, Bool.and_false])
 go_enter Try.func46, Try.ntmps46
 go_upto_region 1 with fail
 have HB1 := Aside0.mk (below_alloc (Below.refl W.heap.size W) (.cells #[.int .i64 1, .int .i64 s, .slice A kids.length c] 24))
 have HNB1 := Aside0.mk (blk_new W (.cells #[.int .i64 1, .int .i64 s, .slice A kids.length c] 24))
 obtain ⟨NB, hNB⟩ : ∃ n, W.heap.size = n := ⟨_, rfl⟩
 rw [hNB] at HNB1
 obtain ⟨W1, hW1⟩ : ∃ w, W.alloc (.cells #[.int .i64 1, .int .i64 s, .slice A kids.length c] 24) = w := ⟨_, rfl⟩
 rw [hW1] at HB1 HNB1
 rw [hW1]
 rw [hNB]
 clear hNB hW1
 have n0 := (blk_cell HNB1.out 0).trans rfl
 have n1 := (blk_cell HNB1.out 1).trans rfl
 have n2 := (blk_cell HNB1.out 2).trans rfl
 go_wp2_with fail
 go_ret
 rw [HE.out]
 exact ⟨rfl, HB1.out⟩
set_option maxHeartbeats 16000000 in
set_option maxRecDepth 100000 in
theorem mr_s3 (s : Int) (kids : List S24) (hok : ∀ y ∈ kids, MROK y) (h1 : kids.length = 0 ∧ 0 ≤ s ∧ s ≤ 63) : MROK ⟨1, s, kids⟩ := by
 intro W A c hC hc
 replace hC : Kd.C k24 W A kids.length kids := hC
 replace hc : kids.length ≤ c := hc
 show Calls Try.prog 46 #[.agg #[.int .i64 1, .int .i64 s, .slice A kids.length c]] W fun e w' => e = .returned (.bool (rightN ⟨1, s, kids⟩)) ∧ Below W.heap.size W w'
 have HC := Aside0.mk hC
 have HCC := Aside0.mk hc
 have HOK := Aside0.mk hok
 clear hok hC hc
 have f0 : ((kids.length : Int) == 0) = true := beq_iff_eq.2 (by have := h1.1; omega)
 have H1 := Aside0.mk h1
 clear h1
 have f1 : decide (0 ≤ s) = true := decide_eq_true (by have := H1.out; omega)
 have f11 : decide (s ≥ 0) = true := decide_eq_true (by have := H1.out; omega)
 have f2 : decide (s ≤ 63) = true := decide_eq_true (by have := H1.out; omega)
 have HE := Aside0.mk (show rightN ⟨1, s, kids⟩ = rightL kids by rw [rightN]; rw [if_pos rfl, decide_eq_true H1.out.2.2, decide_eq_true H1.out.2.1, List.length_eq_zero_iff.1 H1.out.1]; rfl)
 go_enter Try.func46, Try.ntmps46
 go_upto_region 1 with fail
 have HB1 := Aside0.mk (below_alloc (Below.refl W.heap.size W) (.cells #[.int .i64 1, .int .i64 s, .slice A kids.length c] 24))
 have HNB1 := Aside0.mk (blk_new W (.cells #[.int .i64 1, .int .i64 s, .slice A kids.length c] 24))
 obtain ⟨NB, hNB⟩ : ∃ n, W.heap.size = n := ⟨_, rfl⟩
 rw [hNB] at HNB1
 obtain ⟨W1, hW1⟩ : ∃ w, W.alloc (.cells #[.int .i64 1, .int .i64 s, .slice A kids.length c] 24) = w := ⟨_, rfl⟩
 rw [hW1] at HB1 HNB1
 rw [hW1]
 rw [hNB]
 clear hNB hW1
 have n0 := (blk_cell HNB1.out 0).trans rfl
 have n1 := (blk_cell HNB1.out 1).trans rfl
 have n2 := (blk_cell HNB1.out 2).trans rfl
 go_wp2_with (go_at_call 71; refine (mcont_calls kids HOK.out W1 A c (Kd.C_below HC.out HB1.out)).mono ?_; rintro e W2 ⟨rfl, hb2⟩; have HB2 := Aside0.mk (HB1.out.trans (hb2.mono HB1.out.size)); clear hb2 n0 n1 n2)
 go_ret
 rw [HE.out]
 cases rightL kids <;> exact ⟨rfl, HB2.out⟩
theorem mright_ok : ∀ x, MROK x := by
 refine node_ind (P := MROK) (fun x hok => ?_)
 obtain ⟨k, s, kids⟩ := x
 replace hok : ∀ y ∈ kids, MROK y := hok
 by_cases q1 : k = 1
 ·subst q1
  by_cases a : kids.length = 0
  ·by_cases b : 0 ≤ s
   ·by_cases d : s ≤ 63
    ·exact mr_s3 s kids hok ⟨a, b, d⟩
    ·exact mr_s2 s kids hok ⟨a, b, d⟩
   ·exact mr_s1 s kids hok ⟨a, b⟩
  ·exact mr_s0 s kids hok a
 by_cases q0 : k = 0
 ·subst q0; exact mr_k0 s kids hok
 by_cases q2 : k = 2
 ·subst q2
  by_cases a : kids.length = 0
  ·exact mr_k2n s kids hok a
  ·exact mr_k2 s kids hok a
 by_cases q3 : k = 3
 ·subst q3
  by_cases a : kids.length = 1
  ·exact mr_k3 s kids hok a
  ·exact mr_k3n s kids hok a
 by_cases q4 : k = 4
 ·subst q4
  by_cases a : kids.length = 1
  ·exact mr_k4 s kids hok a
  ·exact mr_k4n s kids hok a
 by_cases q5 : k = 5
 ·subst q5
  by_cases a : kids.length = 1
  ·exact mr_k5 s kids hok a
  ·exact mr_k5n s kids hok a
 exact mr_kx k s kids hok ⟨q1, q0, q2, q3, q4, q5⟩
def match_Right.f (a0_0 a0_1 : Int) (l0_2 : List S24) : Option Bool := some (rightN ⟨a0_0, a0_1, l0_2⟩)
theorem match_Right.calls (a0_0 : Int) (a0_1 : Int) (A0_2 : Option Addr) (c0_2 : Nat) (l0_2 : List (S24)) (r : Bool) (w : World) (hr0_2 : Kd.C k24 w A0_2 l0_2.length l0_2) (hc0_2 : l0_2.length ≤ c0_2) (h : match_Right.f a0_0 a0_1 l0_2 = some r) :
  Calls Try.prog 46 #[.agg #[.int .i64 a0_0, .int .i64 a0_1, .slice A0_2 l0_2.length c0_2]] w fun e w' => e = .returned (.bool r) ∧ Below w.heap.size w w' := by
 rw [← Option.some.inj h]
 exact mright_ok ⟨a0_0, a0_1, l0_2⟩ w A0_2 c0_2 hr0_2 hc0_2
end Go.Proofs.Ytemlgmkbonpniaa.Print
