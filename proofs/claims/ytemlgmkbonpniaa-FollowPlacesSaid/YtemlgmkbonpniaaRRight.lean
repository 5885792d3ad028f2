/- scansionref10.Right. -/
import Derived.Test.YtemlgmkbonpniaaRCatM
namespace Go.Proofs.Ytemlgmkbonpniaa.Print
open Go.RowKit Go.Maps Go.Proofs.YtemlgmkbonpniaaW.PrintWords Go.Proofs.YtemlgmkbonpniaaW.PrintLast Go.Proofs.YtemlgmkbonpniaaW.PrintMore
set_option linter.unusedVariables false
set_option linter.unusedSimpArgs false
theorem rightL_true {l : List S24} (h : ∀ y ∈ l, rightN y = true) : rightL l = true := by
 induction l with
 | nil => rw [rightL]
 | cons x l ih => rw [rightL, h x List.mem_cons_self, ih (fun y hy => h y (List.mem_cons_of_mem _ hy))]; rfl
theorem rightL_false {l : List S24} {x : S24} (hx : x ∈ l) (h : rightN x = false) : rightL l = false := by
 cases q : rightL l with
 | false => rfl
 | true => have := rightL_mem q x hx; rw [h] at this; cases this
def RightOK (x : S24) : Prop := ∀ (W : World) (A : Option Addr) (c : Nat), Kd.C k24 W A x.f2.length x.f2 → x.f2.length ≤ c →
 Calls Try.prog 49 #[.agg #[.int .i64 x.f0, .int .i64 x.f1, .slice A x.f2.length c]] W fun e w' => e = .returned (.bool (rightN x)) ∧ Below W.heap.size W w'
set_option maxHeartbeats 16000000 in
set_option maxRecDepth 100000 in
theorem rr_k0 (s : Int) (kids : List S24) (hok : ∀ y ∈ kids, RightOK y) : RightOK ⟨0, s, kids⟩ := by
 intro W A c hC hc
 replace hC : Kd.C k24 W A kids.length kids := hC
 replace hc : kids.length ≤ c := hc
 show Calls Try.prog 49 #[.agg #[.int .i64 0, .int .i64 s, .slice A kids.length c]] W fun e w' => e = .returned (.bool (rightN ⟨0, s, kids⟩)) ∧ Below W.heap.size W w'
 have HC := Aside0.mk hC
 have HCC := Aside0.mk hc
 have HOK := Aside0.mk hok
 have HLL := Aside0.mk (hC.2.1 : kids.length ≤ 9223372036854775807)
 clear hok hC hc
 go_enter Try.func49, Try.ntmps49
 go_upto_region 1 with fail
 have HB1 := Aside0.mk (below_alloc (Below.refl W.heap.size W) (.cells #[.int .i64 0, .int .i64 s, .slice A kids.length c] 24))
 have HNB1 := Aside0.mk (blk_new W (.cells #[.int .i64 0, .int .i64 s, .slice A kids.length c] 24))
 obtain ⟨NB, hNB⟩ : ∃ n, W.heap.size = n := ⟨_, rfl⟩
 rw [hNB] at HNB1
 obtain ⟨W1, hW1⟩ : ∃ w, W.alloc (.cells #[.int .i64 0, .int .i64 s, .slice A kids.length c] 24) = w := ⟨_, rfl⟩
 rw [hW1] at HB1 HNB1
 rw [hW1]
 rw [hNB]
 clear hNB hW1
 have n0 := (blk_cell HNB1.out 0).trans rfl
 have n1 := (blk_cell HNB1.out 1).trans rfl
 have n2 := (blk_cell HNB1.out 2).trans rfl
 go_wp2_with fail
 clear n0 n1 n2
 go_loopg [4] kids.length (fun kq v4 w' => ∃ i : Nat, v4 = .int .i64 (i : Int) ∧ Aside0 (i + kq = kids.length) ∧ Aside0 (∀ y ∈ kids.take i, rightN y = true) ∧ Aside0 (Below W.heap.size W w') ∧ Aside0 (w'.heap[NB]? = some (.cells #[.int .i64 0, .int .i64 s, .slice A kids.length c] 24 (0, 0))))
 case atStart => exact ⟨0, rfl, ⟨Nat.zero_add _⟩, ⟨fun y hy => by cases hy⟩, HB1, HNB1⟩
 case round =>
  clear HB1 HNB1
  obtain ⟨i, rfl, HK, HALL, HB2, HNB2⟩ := hrel
  have n2 := (blk_cell HNB2.out 2).trans rfl
  by_cases q0 : gk = 0
  ·have f1 : ¬ i < kids.length := by have := HK.out; omega
   have f2 : decide ((i : Int) < (kids.length : Int)) = false := decide_eq_false (by omega)
   have HE := Aside0.mk (show rightN ⟨0, s, kids⟩ = true by
    have h := HALL.out
    rw [List.take_of_length_le (by omega)] at h
    have h2 := rightL_true h
    rw [rightN]; exact h2)
   clear q0
   go_wp2_with fail
   go_ret
   rw [HE.out]
   exact ⟨rfl, HB2.out⟩
  ·have HQ := Aside0.mk q0
   clear q0
   have HIL := Aside0.mk (show i < kids.length by have := HK.out; have := HQ.out; omega)
   obtain ⟨ad, A2, c2, eA, hx0, hx1, hx2, hl2, hg2⟩ := at_T24 (Kd.C_below HC.out HB2.out) (i : Int) (Int.natCast_nonneg i) (by have := HIL.out; omega)
   rw [Int.toNat_natCast] at hx0 hx1 hx2
   obtain ⟨x, hx⟩ : ∃ x, x = rd_T24 kids (i : Int) := ⟨_, rfl⟩
   rw [← hx] at hx0 hx1 hx2 hl2 hg2
   have HXX := Aside0.mk hx
   have HMEM := Aside0.mk (show x ∈ kids by rw [hx, rd_get HIL.out]; exact List.getElem_mem _)
   subst eA
   have HNODE := Aside0.mk (HOK.out x HMEM.out wr A2 c2 hg2 hl2)
   clear hx hl2 hg2
   have f1 : i < kids.length := HIL.out
   have f2 : decide ((i : Int) < (kids.length : Int)) = true := decide_eq_true (by omega)
   have f3 : 0 ≤ (i : Int) := Int.natCast_nonneg i
   go_upto_region 19 with (go_at_call 49; refine HNODE.out.mono ?_; rintro e W2 ⟨rfl, hb2⟩; have HB3 := Aside0.mk (HB2.out.trans (hb2.mono HB2.out.size)); have HNB3 := Aside0.mk (blk_below HNB2.out hb2); clear hb2 hx0 hx1 hx2 n2)
   cases hb : rightN x
   case false =>
    have HF := Aside0.mk (show rightN ⟨0, s, kids⟩ = false by
     have h2 := rightL_false HMEM.out hb
     rw [rightN]; exact h2)
    go_wp2_with fail
    go_ret
    rw [HF.out]
    exact ⟨rfl, HB3.out⟩
   case true =>
    have HXT := Aside0.mk hb
    go_wp2_with fail
    go_roundg (gk - 1)
    case measure => have := HQ.out; omega
    case rel =>
     refine ⟨i + 1, by rw [show wrap64 ((i : Int) + 1) = ((i + 1 : Nat) : Int) by have := HIL.out; have := HLL.out; unfold wrap64; omega], ⟨by have := HK.out; have := HQ.out; omega⟩, ⟨fun y hy => ?_⟩, HB3, HNB3⟩
     rw [take_rd HIL.out, ← HXX.out] at hy
     rcases List.mem_append.1 hy with hy | hy
     ·exact HALL.out y hy
     ·rw [List.mem_singleton.1 hy]; exact HXT.out
set_option maxHeartbeats 16000000 in
set_option maxRecDepth 100000 in
theorem rr_k2 (s : Int) (kids : List S24) (hok : ∀ y ∈ kids, RightOK y) (h1 : kids ≠ []) : RightOK ⟨2, s, kids⟩ := by
 intro W A c hC hc
 replace hC : Kd.C k24 W A kids.length kids := hC
 replace hc : kids.length ≤ c := hc
 show Calls Try.prog 49 #[.agg #[.int .i64 2, .int .i64 s, .slice A kids.length c]] W fun e w' => e = .returned (.bool (rightN ⟨2, s, kids⟩)) ∧ Below W.heap.size W w'
 have HC := Aside0.mk hC
 have HCC := Aside0.mk hc
 have HOK := Aside0.mk hok
 have HLL := Aside0.mk (hC.2.1 : kids.length ≤ 9223372036854775807)
 clear hok hC hc
 have H1 := Aside0.mk h1
 have f0 : ((kids.length : Int) == 0) = false := beq_eq_false_iff_ne.2 (fun e => h1 (List.length_eq_zero_iff.1 (by omega)))
 have f00 : ¬ kids.length = 0 := fun e => h1 (List.length_eq_zero_iff.1 e)
 clear h1
 go_enter Try.func49, Try.ntmps49
 go_upto_region 1 with fail
 have HB1 := Aside0.mk (below_alloc (Below.refl W.heap.size W) (.cells #[.int .i64 2, .int .i64 s, .slice A kids.length c] 24))
 have HNB1 := Aside0.mk (blk_new W (.cells #[.int .i64 2, .int .i64 s, .slice A kids.length c] 24))
 obtain ⟨NB, hNB⟩ : ∃ n, W.heap.size = n := ⟨_, rfl⟩
 rw [hNB] at HNB1
 obtain ⟨W1, hW1⟩ : ∃ w, W.alloc (.cells #[.int .i64 2, .int .i64 s, .slice A kids.length c] 24) = w := ⟨_, rfl⟩
 rw [hW1] at HB1 HNB1
 rw [hW1]
 rw [hNB]
 clear hNB hW1
 have n0 := (blk_cell HNB1.out 0).trans rfl
 have n1 := (blk_cell HNB1.out 1).trans rfl
 have n2 := (blk_cell HNB1.out 2).trans rfl
 go_wp2_with fail
 clear n0 n1 n2
 go_loopg [4] kids.length (fun kq v4 w' => ∃ i : Nat, v4 = .int .i64 (i : Int) ∧ Aside0 (i + kq = kids.length) ∧ Aside0 (∀ y ∈ kids.take i, rightN y = true) ∧ Aside0 (Below W.heap.size W w') ∧ Aside0 (w'.heap[NB]? = some (.cells #[.int .i64 2, .int .i64 s, .slice A kids.length c] 24 (0, 0))))
 case atStart => exact ⟨0, rfl, ⟨Nat.zero_add _⟩, ⟨fun y hy => by cases hy⟩, HB1, HNB1⟩
 case round =>
  clear HB1 HNB1
  obtain ⟨i, rfl, HK, HALL, HB2, HNB2⟩ := hrel
  have n2 := (blk_cell HNB2.out 2).trans rfl
  by_cases q0 : gk = 0
  ·have f1 : ¬ i < kids.length := by have := HK.out; omega
   have f2 : decide ((i : Int) < (kids.length : Int)) = false := decide_eq_false (by omega)
   have HE := Aside0.mk (show rightN ⟨2, s, kids⟩ = true by
    have h := HALL.out
    rw [List.take_of_length_le (by omega)] at h
    have h2 := rightL_true h
    rw [rightN]; rw [if_neg (by decide), if_neg (by decide), if_pos rfl, h2]; cases kids with | nil => exact absurd rfl H1.out | cons _ _ => rfl)
   clear q0
   go_wp2_with fail
   go_ret
   rw [HE.out]
   exact ⟨rfl, HB2.out⟩
  ·have HQ := Aside0.mk q0
   clear q0
   have HIL := Aside0.mk (show i < kids.length by have := HK.out; have := HQ.out; omega)
   obtain ⟨ad, A2, c2, eA, hx0, hx1, hx2, hl2, hg2⟩ := at_T24 (Kd.C_below HC.out HB2.out) (i : Int) (Int.natCast_nonneg i) (by have := HIL.out; omega)
   rw [Int.toNat_natCast] at hx0 hx1 hx2
   obtain ⟨x, hx⟩ : ∃ x, x = rd_T24 kids (i : Int) := ⟨_, rfl⟩
   rw [← hx] at hx0 hx1 hx2 hl2 hg2
   have HXX := Aside0.mk hx
   have HMEM := Aside0.mk (show x ∈ kids by rw [hx, rd_get HIL.out]; exact List.getElem_mem _)
   subst eA
   have HNODE := Aside0.mk (HOK.out x HMEM.out wr A2 c2 hg2 hl2)
   clear hx hl2 hg2
   have f1 : i < kids.length := HIL.out
   have f2 : decide ((i : Int) < (kids.length : Int)) = true := decide_eq_true (by omega)
   have f3 : 0 ≤ (i : Int) := Int.natCast_nonneg i
   go_upto_region 19 with (go_at_call 49; refine HNODE.out.mono ?_; rintro e W2 ⟨rfl, hb2⟩; have HB3 := Aside0.mk (HB2.out.trans (hb2.mono HB2.out.size)); have HNB3 := Aside0.mk (blk_below HNB2.out hb2); clear hb2 hx0 hx1 hx2 n2)
   cases hb : rightN x
   case false =>
    have HF := Aside0.mk (show rightN ⟨2, s, kids⟩ = false by
     have h2 := rightL_false HMEM.out hb
     rw [rightN]; rw [if_neg (by decide), if_neg (by decide), if_pos rfl, h2, Bool.and_false])
    go_wp2_with fail
    go_ret
    rw [HF.out]
    exact ⟨rfl, HB3.out⟩
   case true =>
    have HXT := Aside0.mk hb
    go_wp2_with fail
    go_roundg (gk - 1)
    case measure => have := HQ.out; omega
    case rel =>
     refine ⟨i + 1, by rw [show wrap64 ((i : Int) + 1) = ((i + 1 : Nat) : Int) by have := HIL.out; have := HLL.out; unfold wrap64; omega], ⟨by have := HK.out; have := HQ.out; omega⟩, ⟨fun y hy => ?_⟩, HB3, HNB3⟩
     rw [take_rd HIL.out, ← HXX.out] at hy
     rcases List.mem_append.1 hy with hy | hy
     ·exact HALL.out y hy
     ·rw [List.mem_singleton.1 hy]; exact HXT.out
set_option maxHeartbeats 16000000 in
set_option maxRecDepth 100000 in
theorem rr_k3 (s : Int) (kids : List S24) (hok : ∀ y ∈ kids, RightOK y) (h1 : kids.length = 1) : RightOK ⟨3, s, kids⟩ := by
 intro W A c hC hc
 replace hC : Kd.C k24 W A kids.length kids := hC
 replace hc : kids.length ≤ c := hc
 show Calls Try.prog 49 #[.agg #[.int .i64 3, .int .i64 s, .slice A kids.length c]] W fun e w' => e = .returned (.bool (rightN ⟨3, s, kids⟩)) ∧ Below W.heap.size W w'
 have HC := Aside0.mk hC
 have HCC := Aside0.mk hc
 have HOK := Aside0.mk hok
 have HLL := Aside0.mk (hC.2.1 : kids.length ≤ 9223372036854775807)
 clear hok hC hc
 have H1 := Aside0.mk h1
 have f0 : ((kids.length : Int) != 1) = false := bne_eq_false_iff_eq.2 (by omega)
 have f00 : ((kids.length : Int) == 1) = true := beq_iff_eq.2 (by omega)
 clear h1
 go_enter Try.func49, Try.ntmps49
 go_upto_region 1 with fail
 have HB1 := Aside0.mk (below_alloc (Below.refl W.heap.size W) (.cells #[.int .i64 3, .int .i64 s, .slice A kids.length c] 24))
 have HNB1 := Aside0.mk (blk_new W (.cells #[.int .i64 3, .int .i64 s, .slice A kids.length c] 24))
 obtain ⟨NB, hNB⟩ : ∃ n, W.heap.size = n := ⟨_, rfl⟩
 rw [hNB] at HNB1
 obtain ⟨W1, hW1⟩ : ∃ w, W.alloc (.cells #[.int .i64 3, .int .i64 s, .slice A kids.length c] 24) = w := ⟨_, rfl⟩
 rw [hW1] at HB1 HNB1
 rw [hW1]
 rw [hNB]
 clear hNB hW1
 have n0 := (blk_cell HNB1.out 0).trans rfl
 have n1 := (blk_cell HNB1.out 1).trans rfl
 have n2 := (blk_cell HNB1.out 2).trans rfl
 go_wp2_with fail
 clear n0 n1 n2
 go_loopg [4] kids.length (fun kq v4 w' => ∃ i : Nat, v4 = .int .i64 (i : Int) ∧ Aside0 (i + kq = kids.length) ∧ Aside0 (∀ y ∈ kids.take i, rightN y = true) ∧ Aside0 (Below W.heap.size W w') ∧ Aside0 (w'.heap[NB]? = some (.cells #[.int .i64 3, .int .i64 s, .slice A kids.length c] 24 (0, 0))))
 case atStart => exact ⟨0, rfl, ⟨Nat.zero_add _⟩, ⟨fun y hy => by cases hy⟩, HB1, HNB1⟩
 case round =>
  clear HB1 HNB1
  obtain ⟨i, rfl, HK, HALL, HB2, HNB2⟩ := hrel
  have n2 := (blk_cell HNB2.out 2).trans rfl
  by_cases q0 : gk = 0
  ·have f1 : ¬ i < kids.length := by have := HK.out; omega
   have f2 : decide ((i : Int) < (kids.length : Int)) = false := decide_eq_false (by omega)
   have HE := Aside0.mk (show rightN ⟨3, s, kids⟩ = true by
    have h := HALL.out
    rw [List.take_of_length_le (by omega)] at h
    have h2 := rightL_true h
    rw [rightN]; rw [if_neg (by decide), if_neg (by decide), if_neg (by decide), if_pos (by decide), h2, decide_eq_true H1.out]; rfl)
   clear q0
   go_wp2_with fail
   go_ret
   rw [HE.out]
   exact ⟨rfl, HB2.out⟩
  ·have HQ := Aside0.mk q0
   clear q0
   have HIL := Aside0.mk (show i < kids.length by have := HK.out; have := HQ.out; omega)
   obtain ⟨ad, A2, c2, eA, hx0, hx1, hx2, hl2, hg2⟩ := at_T24 (Kd.C_below HC.out HB2.out) (i : Int) (Int.natCast_nonneg i) (by have := HIL.out; omega)
   rw [Int.toNat_natCast] at hx0 hx1 hx2
   obtain ⟨x, hx⟩ : ∃ x, x = rd_T24 kids (i : Int) := ⟨_, rfl⟩
   rw [← hx] at hx0 hx1 hx2 hl2 hg2
   have HXX := Aside0.mk hx
   have HMEM := Aside0.mk (show x ∈ kids by rw [hx, rd_get HIL.out]; exact List.getElem_mem _)
   subst eA
   have HNODE := Aside0.mk (HOK.out x HMEM.out wr A2 c2 hg2 hl2)
   clear hx hl2 hg2
   have f1 : i < kids.length := HIL.out
   have f2 : decide ((i : Int) < (kids.length : Int)) = true := decide_eq_true (by omega)
   have f3 : 0 ≤ (i : Int) := Int.natCast_nonneg i
   go_upto_region 19 with (go_at_call 49; refine HNODE.out.mono ?_; rintro e W2 ⟨rfl, hb2⟩; have HB3 := Aside0.mk (HB2.out.trans (hb2.mono HB2.out.size)); have HNB3 := Aside0.mk (blk_below HNB2.out hb2); clear hb2 hx0 hx1 hx2 n2)
   cases hb : rightN x
   case false =>
    have HF := Aside0.mk (show rightN ⟨3, s, kids⟩ = false by
     have h2 := rightL_false HMEM.out hb
     rw [rightN]; rw [if_neg (by decide), if_neg (by decide), if_neg (by decide), if_pos (by decide), h2, Bool.and_false])
    go_wp2_with fail
    go_ret
    rw [HF.out]
    exact ⟨rfl, HB3.out⟩
   case true =>
    have HXT := Aside0.mk hb
    go_wp2_with fail
    go_roundg (gk - 1)
    case measure => have := HQ.out; omega
    case rel =>
     refine ⟨i + 1, by rw [show wrap64 ((i : Int) + 1) = ((i + 1 : Nat) : Int) by have := HIL.out; have := HLL.out; unfold wrap64; omega], ⟨by have := HK.out; have := HQ.out; omega⟩, ⟨fun y hy => ?_⟩, HB3, HNB3⟩
     rw [take_rd HIL.out, ← HXX.out] at hy
     rcases List.mem_append.1 hy with hy | hy
     ·exact HALL.out y hy
     ·rw [List.mem_singleton.1 hy]; exact HXT.out
set_option maxHeartbeats 16000000 in
set_option maxRecDepth 100000 in
theorem rr_k4 (s : Int) (kids : List S24) (hok : ∀ y ∈ kids, RightOK y) (h1 : kids.length = 1) : RightOK ⟨4, s, kids⟩ := by
 intro W A c hC hc
 replace hC : Kd.C k24 W A kids.length kids := hC
 replace hc : kids.length ≤ c := hc
 show Calls Try.prog 49 #[.agg #[.int .i64 4, .int .i64 s, .slice A kids.length c]] W fun e w' => e = .returned (.bool (rightN ⟨4, s, kids⟩)) ∧ Below W.heap.size W w'
 have HC := Aside0.mk hC
 have HCC := Aside0.mk hc
 have HOK := Aside0.mk hok
 have HLL := Aside0.mk (hC.2.1 : kids.length ≤ 9223372036854775807)
 clear hok hC hc
 have H1 := Aside0.mk h1
 have f0 : ((kids.length : Int) != 1) = false := bne_eq_false_iff_eq.2 (by omega)
 have f00 : ((kids.length : Int) == 1) = true := beq_iff_eq.2 (by omega)
 clear h1
 go_enter Try.func49, Try.ntmps49
 go_upto_region 1 with fail
 have HB1 := Aside0.mk (below_alloc (Below.refl W.heap.size W) (.cells #[.int .i64 4, .int .i64 s, .slice A kids.length c] 24))
 have HNB1 := Aside0.mk (blk_new W (.cells #[.int .i64 4, .int .i64 s, .slice A kids.length c] 24))
 obtain ⟨NB, hNB⟩ : ∃ n, W.heap.size = n := ⟨_, rfl⟩
 rw [hNB] at HNB1
 obtain ⟨W1, hW1⟩ : ∃ w, W.alloc (.cells #[.int .i64 4, .int .i64 s, .slice A kids.length c] 24) = w := ⟨_, rfl⟩
 rw [hW1] at HB1 HNB1
 rw [hW1]
 rw [hNB]
 clear hNB hW1
 have n0 := (blk_cell HNB1.out 0).trans rfl
 have n1 := (blk_cell HNB1.out 1).trans rfl
 have n2 := (blk_cell HNB1.out 2).trans rfl
 go_wp2_with fail
 clear n0 n1 n2
 go_loopg [4] kids.length (fun kq v4 w' => ∃ i : Nat, v4 = .int .i64 (i : Int) ∧ Aside0 (i + kq = kids.length) ∧ Aside0 (∀ y ∈ kids.take i, rightN y = true) ∧ Aside0 (Below W.heap.size W w') ∧ Aside0 (w'.heap[NB]? = some (.cells #[.int .i64 4, .int .i64 s, .slice A kids.length c] 24 (0, 0))))
 case atStart => exact ⟨0, rfl, ⟨Nat.zero_add _⟩, ⟨fun y hy => by cases hy⟩, HB1, HNB1⟩
 case round =>
  clear HB1 HNB1
  obtain ⟨i, rfl, HK, HALL, HB2, HNB2⟩ := hrel
  have n2 := (blk_cell HNB2.out 2).trans rfl
  by_cases q0 : gk = 0
  ·have f1 : ¬ i < kids.length := by have := HK.out; omega
   have f2 : decide ((i : Int) < (kids.length : Int)) = false := decide_eq_false (by omega)
   have HE := Aside0.mk (show rightN ⟨4, s, kids⟩ = true by
    have h := HALL.out
    rw [List.take_of_length_le (by omega)] at h
    have h2 := rightL_true h
    rw [rightN]; rw [if_neg (by decide), if_neg (by decide), if_neg (by decide), if_pos (by decide), h2, decide_eq_true H1.out]; rfl)
   clear q0
   go_wp2_with fail
   go_ret
   rw [HE.out]
   exact ⟨rfl, HB2.out⟩
  ·have HQ := Aside0.mk q0
   clear q0
   have HIL := Aside0.mk (show i < kids.length by have := HK.out; have := HQ.out; omega)
   obtain ⟨ad, A2, c2, eA, hx0, hx1, hx2, hl2, hg2⟩ := at_T24 (Kd.C_below HC.out HB2.out) (i : Int) (Int.natCast_nonneg i) (by have := HIL.out; omega)
   rw [Int.toNat_natCast] at hx0 hx1 hx2
   obtain ⟨x, hx⟩ : ∃ x, x = rd_T24 kids (i : Int) := ⟨_, rfl⟩
   rw [← hx] at hx0 hx1 hx2 hl2 hg2
   have HXX := Aside0.mk hx
   have HMEM := Aside0.mk (show x ∈ kids by rw [hx, rd_get HIL.out]; exact List.getElem_mem _)
   subst eA
   have HNODE := Aside0.mk (HOK.out x HMEM.out wr A2 c2 hg2 hl2)
   clear hx hl2 hg2
   have f1 : i < kids.length := HIL.out
   have f2 : decide ((i : Int) < (kids.length : Int)) = true := decide_eq_true (by omega)
   have f3 : 0 ≤ (i : Int) := Int.natCast_nonneg i
   go_upto_region 19 with (go_at_call 49; refine HNODE.out.mono ?_; rintro e W2 ⟨rfl, hb2⟩; have HB3 := Aside0.mk (HB2.out.trans (hb2.mono HB2.out.size)); have HNB3 := Aside0.mk (blk_below HNB2.out hb2); clear hb2 hx0 hx1 hx2 n2)
   cases hb : rightN x
   case false =>
    have HF := Aside0.mk (show rightN ⟨4, s, kids⟩ = false by
     have h2 := rightL_false HMEM.out hb
     rw [rightN]; rw [if_neg (by decide), if_neg (by decide), if_neg (by decide), if_pos (by decide), h2, Bool.and_false])
    go_wp2_with fail
    go_ret
    rw [HF.out]
    exact ⟨rfl, HB3.out⟩
   case true =>
    have HXT := Aside0.mk hb
    go_wp2_with fail
    go_roundg (gk - 1)
    case measure => have := HQ.out; omega
    case rel =>
     refine ⟨i + 1, by rw [show wrap64 ((i : Int) + 1) = ((i + 1 : Nat) : Int) by have := HIL.out; have := HLL.out; unfold wrap64; omega], ⟨by have := HK.out; have := HQ.out; omega⟩, ⟨fun y hy => ?_⟩, HB3, HNB3⟩
     rw [take_rd HIL.out, ← HXX.out] at hy
     rcases List.mem_append.1 hy with hy | hy
     ·exact HALL.out y hy
     ·rw [List.mem_singleton.1 hy]; exact HXT.out
set_option maxHeartbeats 16000000 in
set_option maxRecDepth 100000 in
theorem rr_k5 (s : Int) (kids : List S24) (hok : ∀ y ∈ kids, RightOK y) (h1 : kids.length = 1) : RightOK ⟨5, s, kids⟩ := by
 intro W A c hC hc
 replace hC : Kd.C k24 W A kids.length kids := hC
 replace hc : kids.length ≤ c := hc
 show Calls Try.prog 49 #[.agg #[.int .i64 5, .int .i64 s, .slice A kids.length c]] W fun e w' => e = .returned (.bool (rightN ⟨5, s, kids⟩)) ∧ Below W.heap.size W w'
 have HC := Aside0.mk hC
 have HCC := Aside0.mk hc
 have HOK := Aside0.mk hok
 have HLL := Aside0.mk (hC.2.1 : kids.length ≤ 9223372036854775807)
 clear hok hC hc
 have H1 := Aside0.mk h1
 have f0 : ((kids.length : Int) != 1) = false := bne_eq_false_iff_eq.2 (by omega)
 have f00 : ((kids.length : Int) == 1) = true := beq_iff_eq.2 (by omega)
 clear h1
 go_enter Try.func49, Try.ntmps49
 go_upto_region 1 with fail
 have HB1 := Aside0.mk (below_alloc (Below.refl W.heap.size W) (.cells #[.int .i64 5, .int .i64 s, .slice A kids.length c] 24))
 have HNB1 := Aside0.mk (blk_new W (.cells #[.int .i64 5, .int .i64 s, .slice A kids.length c] 24))
 obtain ⟨NB, hNB⟩ : ∃ n, W.heap.size = n := ⟨_, rfl⟩
 rw [hNB] at HNB1
 obtain ⟨W1, hW1⟩ : ∃ w, W.alloc (.cells #[.int .i64 5, .int .i64 s, .slice A kids.length c] 24) = w := ⟨_, rfl⟩
 rw [hW1] at HB1 HNB1
 rw [hW1]
 rw [hNB]
 clear hNB hW1
 have n0 := (blk_cell HNB1.out 0).trans rfl
 have n1 := (blk_cell HNB1.out 1).trans rfl
 have n2 := (blk_cell HNB1.out 2).trans rfl
 go_wp2_with fail
 clear n0 n1 n2
 go_loopg [4] kids.length (fun kq v4 w' => ∃ i : Nat, v4 = .int .i64 (i : Int) ∧ Aside0 (i + kq = kids.length) ∧ Aside0 (∀ y ∈ kids.take i, rightN y = true) ∧ Aside0 (Below W.heap.size W w') ∧ Aside0 (w'.heap[NB]? = some (.cells #[.int .i64 5, .int .i64 s, .slice A kids.length c] 24 (0, 0))))
 case atStart => exact ⟨0, rfl, ⟨Nat.zero_add _⟩, ⟨fun y hy => by cases hy⟩, HB1, HNB1⟩
 case round =>
  clear HB1 HNB1
  obtain ⟨i, rfl, HK, HALL, HB2, HNB2⟩ := hrel
  have n2 := (blk_cell HNB2.out 2).trans rfl
  by_cases q0 : gk = 0
  ·have f1 : ¬ i < kids.length := by have := HK.out; omega
   have f2 : decide ((i : Int) < (kids.length : Int)) = false := decide_eq_false (by omega)
   have HE := Aside0.mk (show rightN ⟨5, s, kids⟩ = true by
    have h := HALL.out
    rw [List.take_of_length_le (by omega)] at h
    have h2 := rightL_true h
    rw [rightN]; rw [if_neg (by decide), if_neg (by decide), if_neg (by decide), if_pos (by decide), h2, decide_eq_true H1.out]; rfl)
   clear q0
   go_wp2_with fail
   go_ret
   rw [HE.out]
   exact ⟨rfl, HB2.out⟩
  ·have HQ := Aside0.mk q0
   clear q0
   have HIL := Aside0.mk (show i < kids.length by have := HK.out; have := HQ.out; omega)
   obtain ⟨ad, A2, c2, eA, hx0, hx1, hx2, hl2, hg2⟩ := at_T24 (Kd.C_below HC.out HB2.out) (i : Int) (Int.natCast_nonneg i) (by have := HIL.out; omega)
   rw [Int.toNat_natCast] at hx0 hx1 hx2
   obtain ⟨x, hx⟩ : ∃ x, x = rd_T24 kids (i : Int) := ⟨_, rfl⟩
   rw [← hx] at hx0 hx1 hx2 hl2 hg2
   have HXX := Aside0.mk hx
   have HMEM := Aside0.mk (show x ∈ kids by rw [hx, rd_get HIL.out]; exact List.getElem_mem _)
   subst eA
   have HNODE := Aside0.mk (HOK.out x HMEM.out wr A2 c2 hg2 hl2)
   clear hx hl2 hg2
   have f1 : i < kids.length := HIL.out
   have f2 : decide ((i : Int) < (kids.length : Int)) = true := decide_eq_true (by omega)
   have f3 : 0 ≤ (i : Int) := Int.natCast_nonneg i
   go_upto_region 19 with (go_at_call 49; refine HNODE.out.mono ?_; rintro e W2 ⟨rfl, hb2⟩; have HB3 := Aside0.mk (HB2.out.trans (hb2.mono HB2.out.size)); have HNB3 := Aside0.mk (blk_below HNB2.out hb2); clear hb2 hx0 hx1 hx2 n2)
   cases hb : rightN x
   case false =>
    have HF := Aside0.mk (show rightN ⟨5, s, kids⟩ = false by
     have h2 := rightL_false HMEM.out hb
     rw [rightN]; rw [if_neg (by decide), if_neg (by decide), if_neg (by decide), if_pos (by decide), h2, Bool.and_false])
    go_wp2_with fail
    go_ret
    rw [HF.out]
    exact ⟨rfl, HB3.out⟩
   case true =>
    have HXT := Aside0.mk hb
    go_wp2_with fail
    go_roundg (gk - 1)
    case measure => have := HQ.out; omega
    case rel =>
     refine ⟨i + 1, by rw [show wrap64 ((i : Int) + 1) = ((i + 1 : Nat) : Int) by have := HIL.out; have := HLL.out; unfold wrap64; omega], ⟨by have := HK.out; have := HQ.out; omega⟩, ⟨fun y hy => ?_⟩, HB3, HNB3⟩
     rw [take_rd HIL.out, ← HXX.out] at hy
     rcases List.mem_append.1 hy with hy | hy
     ·exact HALL.out y hy
     ·rw [List.mem_singleton.1 hy]; exact HXT.out
set_option maxHeartbeats 16000000 in
set_option maxRecDepth 100000 in
theorem rr_k2n (s : Int) (kids : List S24) (hok : ∀ y ∈ kids, RightOK y) (h1 : kids.length = 0) : RightOK ⟨2, s, kids⟩ := by
 intro W A c hC hc
 replace hC : Kd.C k24 W A kids.length kids := hC
 replace hc : kids.length ≤ c := hc
 show Calls Try.prog 49 #[.agg #[.int .i64 2, .int .i64 s, .slice A kids.length c]] W fun e w' => e = .returned (.bool (rightN ⟨2, s, kids⟩)) ∧ Below W.heap.size W w'
 have HC := Aside0.mk hC
 have HCC := Aside0.mk hc
 have HOK := Aside0.mk hok
 have HLL := Aside0.mk (hC.2.1 : kids.length ≤ 9223372036854775807)
 clear hok hC hc
 have f0 : ((kids.length : Int) == 0) = true := beq_iff_eq.2 (by omega)
 have HE := Aside0.mk (show rightN ⟨2, s, kids⟩ = false by rw [rightN]; rw [if_neg (by decide), if_neg (by decide), if_pos rfl, List.length_eq_zero_iff.1 h1]; rfl)
 clear h1
 go_enter Try.func49, Try.ntmps49
 go_upto_region 1 with fail
 have HB1 := Aside0.mk (below_alloc (Below.refl W.heap.size W) (.cells #[.int .i64 2, .int .i64 s, .slice A kids.length c] 24))
 have HNB1 := Aside0.mk (blk_new W (.cells #[.int .i64 2, .int .i64 s, .slice A kids.length c] 24))
 obtain ⟨NB, hNB⟩ : ∃ n, W.heap.size = n := ⟨_, rfl⟩
 rw [hNB] at HNB1
 obtain ⟨W1, hW1⟩ : ∃ w, W.alloc (.cells #[.int .i64 2, .int .i64 s, .slice A kids.length c] 24) = w := ⟨_, rfl⟩
 rw [hW1] at HB1 HNB1
 rw [hW1]
 rw [hNB]
 clear hNB hW1
 have n0 := (blk_cell HNB1.out 0).trans rfl
 have n1 := (blk_cell HNB1.out 1).trans rfl
 have n2 := (blk_cell HNB1.out 2).trans rfl
 go_wp2_with fail
 go_ret
 rw [HE.out]
 exact ⟨rfl, HB1.out⟩
set_option maxHeartbeats 16000000 in
set_option maxRecDepth 100000 in
theorem rr_k3n (s : Int) (kids : List S24) (hok : ∀ y ∈ kids, RightOK y) (h1 : kids.length ≠ 1) : RightOK ⟨3, s, kids⟩ := by
 intro W A c hC hc
 replace hC : Kd.C k24 W A kids.length kids := hC
 replace hc : kids.length ≤ c := hc
 show Calls Try.prog 49 #[.agg #[.int .i64 3, .int .i64 s, .slice A kids.length c]] W fun e w' => e = .returned (.bool (rightN ⟨3, s, kids⟩)) ∧ Below W.heap.size W w'
 have HC := Aside0.mk hC
 have HCC := Aside0.mk hc
 have HOK := Aside0.mk hok
 have HLL := Aside0.mk (hC.2.1 : kids.length ≤ 9223372036854775807)
 clear hok hC hc
 have f0 : ((kids.length : Int) != 1) = true := bne_iff_ne.2 (by omega)
 have f00 : ((kids.length : Int) == 1) = false := beq_eq_false_iff_ne.2 (by omega)
 have HE := Aside0.mk (show rightN ⟨3, s, kids⟩ = false by rw [rightN]; rw [if_neg (by decide), if_neg (by decide), if_neg (by decide), if_pos (by decide), decide_eq_false h1]; rfl)
 clear h1
 go_enter Try.func49, Try.ntmps49
 go_upto_region 1 with fail
 have HB1 := Aside0.mk (below_alloc (Below.refl W.heap.size W) (.cells #[.int .i64 3, .int .i64 s, .slice A kids.length c] 24))
 have HNB1 := Aside0.mk (blk_new W (.cells #[.int .i64 3, .int .i64 s, .slice A kids.length c] 24))
 obtain ⟨NB, hNB⟩ : ∃ n, W.heap.size = n := ⟨_, rfl⟩
 rw [hNB] at HNB1
 obtain ⟨W1, hW1⟩ : ∃ w, W.alloc (.cells #[.int .i64 3, .int .i64 s, .slice A kids.length c] 24) = w := ⟨_, rfl⟩
 rw [hW1] at HB1 HNB1
 rw [hW1]
 rw [hNB]
 clear hNB hW1
 have n0 := (blk_cell HNB1.out 0).trans rfl
 have n1 := (blk_cell HNB1.out 1).trans rfl
 have n2 := (blk_cell HNB1.out 2).trans rfl
 go_wp2_with fail
 go_ret
 rw [HE.out]
 exact ⟨rfl, HB1.out⟩
set_option maxHeartbeats 16000000 in
set_option maxRecDepth 100000 in
theorem rr_k4n (s : Int) (kids : List S24) (hok : ∀ y ∈ kids, RightOK y) (h1 : kids.length ≠ 1) : RightOK ⟨4, s, kids⟩ := by
 intro W A c hC hc
 replace hC : Kd.C k24 W A kids.length kids := hC
 replace hc : kids.length ≤ c := hc
 show Calls Try.prog 49 #[.agg #[.int .i64 4, .int .i64 s, .slice A kids.length c]] W fun e w' => e = .returned (.bool (rightN ⟨4, s, kids⟩)) ∧ Below W.heap.size W w'
 have HC := Aside0.mk hC
 have HCC := Aside0.mk hc
 have HOK := Aside0.mk hok
 have HLL := Aside0.mk (hC.2.1 : kids.length ≤ 9223372036854775807)
 clear hok hC hc
 have f0 : ((kids.length : Int) != 1) = true := bne_iff_ne.2 (by omega)
 have f00 : ((kids.length : Int) == 1) = false := beq_eq_false_iff_ne.2 (by omega)
 have HE := Aside0.mk (show rightN ⟨4, s, kids⟩ = false by rw [rightN]; rw [if_neg (by decide), if_neg (by decide), if_neg (by decide), if_pos (by decide), decide_eq_false h1]; rfl)
 clear h1
 go_enter Try.func49, Try.ntmps49
 go_upto_region 1 with fail
 have HB1 := Aside0.mk (below_alloc (Below.refl W.heap.size W) (.cells #[.int .i64 4, .int .i64 s, .slice A kids.length c] 24))
 have HNB1 := Aside0.mk (blk_new W (.cells #[.int .i64 4, .int .i64 s, .slice A kids.length c] 24))
 obtain ⟨NB, hNB⟩ : ∃ n, W.heap.size = n := ⟨_, rfl⟩
 rw [hNB] at HNB1
 obtain ⟨W1, hW1⟩ : ∃ w, W.alloc (.cells #[.int .i64 4, .int .i64 s, .slice A kids.length c] 24) = w := ⟨_, rfl⟩
 rw [hW1] at HB1 HNB1
 rw [hW1]
 rw [hNB]
 clear hNB hW1
 have n0 := (blk_cell HNB1.out 0).trans rfl
 have n1 := (blk_cell HNB1.out 1).trans rfl
 have n2 := (blk_cell HNB1.out 2).trans rfl
 go_wp2_with fail
 go_ret
 rw [HE.out]
 exact ⟨rfl, HB1.out⟩
set_option maxHeartbeats 16000000 in
set_option maxRecDepth 100000 in
theorem rr_k5n (s : Int) (kids : List S24) (hok : ∀ y ∈ kids, RightOK y) (h1 : kids.length ≠ 1) : RightOK ⟨5, s, kids⟩ := by
 intro W A c hC hc
 replace hC : Kd.C k24 W A kids.length kids := hC
 replace hc : kids.length ≤ c := hc
 show Calls Try.prog 49 #[.agg #[.int .i64 5, .int .i64 s, .slice A kids.length c]] W fun e w' => e = .returned (.bool (rightN ⟨5, s, kids⟩)) ∧ Below W.heap.size W w'
 have HC := Aside0.mk hC
 have HCC := Aside0.mk hc
 have HOK := Aside0.mk hok
 have HLL := Aside0.mk (hC.2.1 : kids.length ≤ 9223372036854775807)
 clear hok hC hc
 have f0 : ((kids.length : Int) != 1) = true := bne_iff_ne.2 (by omega)
 have f00 : ((kids.length : Int) == 1) = false := beq_eq_false_iff_ne.2 (by omega)
 have HE := Aside0.mk (show rightN ⟨5, s, kids⟩ = false by rw [rightN]; rw [if_neg (by decide), if_neg (by decide), if_neg (by decide), if_pos (by decide), decide_eq_false h1]; rfl)
 clear h1
 go_enter Try.func49, Try.ntmps49
 go_upto_region 1 with fail
 have HB1 := Aside0.mk (below_alloc (Below.refl W.heap.size W) (.cells #[.int .i64 5, .int .i64 s, .slice A kids.length c] 24))
 have HNB1 := Aside0.mk (blk_new W (.cells #[.int .i64 5, .int .i64 s, .slice A kids.length c] 24))
 obtain ⟨NB, hNB⟩ : ∃ n, W.heap.size = n := ⟨_, rfl⟩
 rw [hNB] at HNB1
 obtain ⟨W1, hW1⟩ : ∃ w, W.alloc (.cells #[.int .i64 5, .int .i64 s, .slice A kids.length c] 24) = w := ⟨_, rfl⟩
 rw [hW1] at HB1 HNB1
 rw [hW1]
 rw [hNB]
 clear hNB hW1
 have n0 := (blk_cell HNB1.out 0).trans rfl
 have n1 := (blk_cell HNB1.out 1).trans rfl
 have n2 := (blk_cell HNB1.out 2).trans rfl
 go_wp2_with fail
 go_ret
 rw [HE.out]
 exact ⟨rfl, HB1.out⟩
set_option maxHeartbeats 16000000 in
set_option maxRecDepth 100000 in
theorem rr_kx (k : Int) (s : Int) (kids : List S24) (hok : ∀ y ∈ kids, RightOK y) (h1 : k ≠ 1 ∧ k ≠ 0 ∧ k ≠ 2 ∧ k ≠ 3 ∧ k ≠ 4 ∧ k ≠ 5) : RightOK ⟨k, s, kids⟩ := by
 intro W A c hC hc
 replace hC : Kd.C k24 W A kids.length kids := hC
 replace hc : kids.length ≤ c := hc
 show Calls Try.prog 49 #[.agg #[.int .i64 k, .int .i64 s, .slice A kids.length c]] W fun e w' => e = .returned (.bool (rightN ⟨k, s, kids⟩)) ∧ Below W.heap.size W w'
 have HC := Aside0.mk hC
 have HCC := Aside0.mk hc
 have HOK := Aside0.mk hok
 have HLL := Aside0.mk (hC.2.1 : kids.length ≤ 9223372036854775807)
 clear hok hC hc
 have e0 : (k == 0) = false := beq_eq_false_iff_ne.2 (by omega)
 have e1 : (k == 1) = false := beq_eq_false_iff_ne.2 (by omega)
 have e2 : (k == 2) = false := beq_eq_false_iff_ne.2 (by omega)
 have e3 : (k == 3) = false := beq_eq_false_iff_ne.2 (by omega)
 have e4 : (k == 4) = false := beq_eq_false_iff_ne.2 (by omega)
 have e5 : (k == 5) = false := beq_eq_false_iff_ne.2 (by omega)
 have HE := Aside0.mk (show rightN ⟨k, s, kids⟩ = false by rw [rightN]; rw [if_neg h1.1, if_neg h1.2.1, if_neg h1.2.2.1, if_neg (by omega)])
 clear h1
 go_enter Try.func49, Try.ntmps49
 go_upto_region 1 with fail
 have HB1 := Aside0.mk (below_alloc (Below.refl W.heap.size W) (.cells #[.int .i64 k, .int .i64 s, .slice A kids.length c] 24))
 have HNB1 := Aside0.mk (blk_new W (.cells #[.int .i64 k, .int .i64 s, .slice A kids.length c] 24))
 obtain ⟨NB, hNB⟩ : ∃ n, W.heap.size = n := ⟨_, rfl⟩
 rw [hNB] at HNB1
 obtain ⟨W1, hW1⟩ : ∃ w, W.alloc (.cells #[.int .i64 k, .int .i64 s, .slice A kids.length c] 24) = w := ⟨_, rfl⟩
 rw [hW1] at HB1 HNB1
 rw [hW1]
 rw [hNB]
 clear hNB hW1
 have n0 := (blk_cell HNB1.out 0).trans rfl
 have n1 := (blk_cell HNB1.out 1).trans rfl
 have n2 := (blk_cell HNB1.out 2).trans rfl
 go_wp2_with fail
 go_ret
 rw [HE.out]
 exact ⟨rfl, HB1.out⟩
set_option maxHeartbeats 16000000 in
set_option maxRecDepth 100000 in
theorem rr_s0 (s : Int) (kids : List S24) (hok : ∀ y ∈ kids, RightOK y) (h1 : kids.length ≠ 0) : RightOK ⟨1, s, kids⟩ := by
 intro W A c hC hc
 replace hC : Kd.C k24 W A kids.length kids := hC
 replace hc : kids.length ≤ c := hc
 show Calls Try.prog 49 #[.agg #[.int .i64 1, .int .i64 s, .slice A kids.length c]] W fun e w' => e = .returned (.bool (rightN ⟨1, s, kids⟩)) ∧ Below W.heap.size W w'
 have HC := Aside0.mk hC
 have HCC := Aside0.mk hc
 have HOK := Aside0.mk hok
 have HLL := Aside0.mk (hC.2.1 : kids.length ≤ 9223372036854775807)
 clear hok hC hc
 have f0 : ((kids.length : Int) == 0) = false := beq_eq_false_iff_ne.2 (by omega)
 have HE := Aside0.mk (show rightN ⟨1, s, kids⟩ = false by rw [rightN]; rw [if_pos rfl]; cases kids with | nil => exact absurd rfl h1 | cons _ _ => rfl)
 clear h1
 go_enter Try.func49, Try.ntmps49
 go_upto_region 1 with fail
 have HB1 := Aside0.mk (below_alloc (Below.refl W.heap.size W) (.cells #[.int .i64 1, .int .i64 s, .slice A kids.length c] 24))
 have HNB1 := Aside0.mk (blk_new W (.cells #[.int .i64 1, .int .i64 s, .slice A kids.length c] 24))
 obtain ⟨NB, hNB⟩ : ∃ n, W.heap.size = n := ⟨_, rfl⟩
 rw [hNB] at HNB1
 obtain ⟨W1, hW1⟩ : ∃ w, W.alloc (.cells #[.int .i64 1, .int .i64 s, .slice A kids.length c] 24) = w := ⟨_, rfl⟩
 rw [hW1] at HB1 HNB1
 rw [hW1]
 rw [hNB]
 clear hNB hW1
 have n0 := (blk_cell HNB1.out 0).trans rfl
 have n1 := (blk_cell HNB1.out 1).trans rfl
 have n2 := (blk_cell HNB1.out 2).trans rfl
 go_wp2_with fail
 go_ret
 rw [HE.out]
 exact ⟨rfl, HB1.out⟩
set_option maxHeartbeats 16000000 in
set_option maxRecDepth 100000 in
theorem rr_s1 (s : Int) (kids : List S24) (hok : ∀ y ∈ kids, RightOK y) (h1 : kids.length = 0 ∧ ¬ 0 ≤ s) : RightOK ⟨1, s, kids⟩ := by
 intro W A c hC hc
 replace hC : Kd.C k24 W A kids.length kids := hC
 replace hc : kids.length ≤ c := hc
 show Calls Try.prog 49 #[.agg #[.int .i64 1, .int .i64 s, .slice A kids.length c]] W fun e w' => e = .returned (.bool (rightN ⟨1, s, kids⟩)) ∧ Below W.heap.size W w'
 have HC := Aside0.mk hC
 have HCC := Aside0.mk hc
 have HOK := Aside0.mk hok
 have HLL := Aside0.mk (hC.2.1 : kids.length ≤ 9223372036854775807)
 clear hok hC hc
 have f0 : ((kids.length : Int) == 0) = true := beq_iff_eq.2 (by have := h1.1; omega)
 have f1 : decide (0 ≤ s) = false := decide_eq_false h1.2
 have HE := Aside0.mk (show rightN ⟨1, s, kids⟩ = false by rw [rightN]; rw [if_pos rfl, decide_eq_false h1.2, Bool.and_false]; rfl)
 clear h1
 go_enter Try.func49, Try.ntmps49
 go_upto_region 1 with fail
 have HB1 := Aside0.mk (below_alloc (Below.refl W.heap.size W) (.cells #[.int .i64 1, .int .i64 s, .slice A kids.length c] 24))
 have HNB1 := Aside0.mk (blk_new W (.cells #[.int .i64 1, .int .i64 s, .slice A kids.length c] 24))
 obtain ⟨NB, hNB⟩ : ∃ n, W.heap.size = n := ⟨_, rfl⟩
 rw [hNB] at HNB1
 obtain ⟨W1, hW1⟩ : ∃ w, W.alloc (.cells #[.int .i64 1, .int .i64 s, .slice A kids.length c] 24) = w := ⟨_, rfl⟩
 rw [hW1] at HB1 HNB1
 rw [hW1]
 rw [hNB]
 clear hNB hW1
 have n0 := (blk_cell HNB1.out 0).trans rfl
 have n1 := (blk_cell HNB1.out 1).trans rfl
 have n2 := (blk_cell HNB1.out 2).trans rfl
 go_wp2_with fail
 go_ret
 rw [HE.out]
 exact ⟨rfl, HB1.out⟩
set_option maxHeartbeats 16000000 in
set_option maxRecDepth 100000 in
theorem rr_s2 (s : Int) (kids : List S24) (hok : ∀ y ∈ kids, RightOK y) (h1 : kids.length = 0 ∧ 0 ≤ s ∧ ¬ s ≤ 63) : RightOK ⟨1, s, kids⟩ := by
 intro W A c hC hc
 replace hC : Kd.C k24 W A kids.length kids := hC
 replace hc : kids.length ≤ c := hc
 show Calls Try.prog 49 #[.agg #[.int .i64 1, .int .i64 s, .slice A kids.length c]] W fun e w' => e = .returned (.bool (rightN ⟨1, s, kids⟩)) ∧ Below W.heap.size W w'
 have HC := Aside0.mk hC
 have HCC := Aside0.mk hc
 have HOK := Aside0.mk hok
 have HLL := Aside0.mk (hC.2.1 : kids.length ≤ 9223372036854775807)
 clear hok hC hc
 have f0 : ((kids.length : Int) == 0) = true := beq_iff_eq.2 (by have := h1.1; omega)
 have f1 : decide (0 ≤ s) = true := decide_eq_true h1.2.1
 have f2 : decide (s ≤ 63) = false := decide_eq_false h1.2.2
 have HE := Aside0.mk (show rightN ⟨1, s, kids⟩ = false by rw [rightN]; rw [if_pos rfl, decide_eq_false h1.2.2, Bool.and_false])
 clear h1
 go_enter Try.func49, Try.ntmps49
 go_upto_region 1 with fail
 have HB1 := Aside0.mk (below_alloc (Below.refl W.heap.size W) (.cells #[.int .i64 1, .int .i64 s, .slice A kids.length c] 24))
 have HNB1 := Aside0.mk (blk_new W (.cells #[.int .i64 1, .int .i64 s, .slice A kids.length c] 24))
 obtain ⟨NB, hNB⟩ : ∃ n, W.heap.size = n := ⟨_, rfl⟩
 rw [hNB] at HNB1
 obtain ⟨W1, hW1⟩ : ∃ w, W.alloc (.cells #[.int .i64 1, .int .i64 s, .slice A kids.length c] 24) = w := ⟨_, rfl⟩
 rw [hW1] at HB1 HNB1
 rw [hW1]
 rw [hNB]
 clear hNB hW1
 have n0 := (blk_cell HNB1.out 0).trans rfl
 have n1 := (blk_cell HNB1.out 1).trans rfl
 have n2 := (blk_cell HNB1.out 2).trans rfl
 go_wp2_with fail
 go_ret
 rw [HE.out]
 exact ⟨rfl, HB1.out⟩
set_option maxHeartbeats 16000000 in
set_option maxRecDepth 100000 in
theorem rr_s3 (s : Int) (kids : List S24) (hok : ∀ y ∈ kids, RightOK y) (h1 : kids.length = 0 ∧ 0 ≤ s ∧ s ≤ 63) : RightOK ⟨1, s, kids⟩ := by
 intro W A c hC hc
 replace hC : Kd.C k24 W A kids.length kids := hC
 replace hc : kids.length ≤ c := hc
 show Calls Try.prog 49 #[.agg #[.int .i64 1, .int .i64 s, .slice A kids.length c]] W fun e w' => e = .returned (.bool (rightN ⟨1, s, kids⟩)) ∧ Below W.heap.size W w'
 have HC := Aside0.mk hC
 have HCC := Aside0.mk hc
 have HOK := Aside0.mk hok
 have HLL := Aside0.mk (hC.2.1 : kids.length ≤ 9223372036854775807)
 clear hok hC hc
 have f0 : ((kids.length : Int) == 0) = true := beq_iff_eq.2 (by have := h1.1; omega)
 have f1 : decide (0 ≤ s) = true := decide_eq_true h1.2.1
 have f2 : decide (s ≤ 63) = true := decide_eq_true h1.2.2
 have HE := Aside0.mk (show rightN ⟨1, s, kids⟩ = true by rw [rightN]; rw [if_pos rfl, decide_eq_true h1.2.2, decide_eq_true h1.2.1, List.length_eq_zero_iff.1 h1.1]; rfl)
 clear h1
 go_enter Try.func49, Try.ntmps49
 go_upto_region 1 with fail
 have HB1 := Aside0.mk (below_alloc (Below.refl W.heap.size W) (.cells #[.int .i64 1, .int .i64 s, .slice A kids.length c] 24))
 have HNB1 := Aside0.mk (blk_new W (.cells #[.int .i64 1, .int .i64 s, .slice A kids.length c] 24))
 obtain ⟨NB, hNB⟩ : ∃ n, W.heap.size = n := ⟨_, rfl⟩
 rw [hNB] at HNB1
 obtain ⟨W1, hW1⟩ : ∃ w, W.alloc (.cells #[.int .i64 1, .int .i64 s, .slice A kids.length c] 24) = w := ⟨_, rfl⟩
 rw [hW1] at HB1 HNB1
 rw [hW1]
 rw [hNB]
 clear hNB hW1
 have n0 := (blk_cell HNB1.out 0).trans rfl
 have n1 := (blk_cell HNB1.out 1).trans rfl
 have n2 := (blk_cell HNB1.out 2).trans rfl
 go_wp2_with fail
 go_ret
 rw [HE.out]
 exact ⟨rfl, HB1.out⟩
theorem right_ok : ∀ x, RightOK x := by
 refine node_ind (P := RightOK) (fun x hok => ?_)
 obtain ⟨k, s, kids⟩ := x
 replace hok : ∀ y ∈ kids, RightOK y := hok
 by_cases q1 : k = 1
 ·subst q1
  by_cases a : kids.length = 0
  ·by_cases b : 0 ≤ s
   ·by_cases d : s ≤ 63
    ·exact rr_s3 s kids hok ⟨a, b, d⟩
    ·exact rr_s2 s kids hok ⟨a, b, d⟩
   ·exact rr_s1 s kids hok ⟨a, b⟩
  ·exact rr_s0 s kids hok a
 by_cases q0 : k = 0
 ·subst q0; exact rr_k0 s kids hok
 by_cases q2 : k = 2
 ·subst q2
  by_cases a : kids.length = 0
  ·exact rr_k2n s kids hok a
  ·exact rr_k2 s kids hok (fun e => a (by rw [e]; rfl))
 by_cases q3 : k = 3
 ·subst q3
  by_cases a : kids.length = 1
  ·exact rr_k3 s kids hok a
  ·exact rr_k3n s kids hok a
 by_cases q4 : k = 4
 ·subst q4
  by_cases a : kids.length = 1
  ·exact rr_k4 s kids hok a
  ·exact rr_k4n s kids hok a
 by_cases q5 : k = 5
 ·subst q5
  by_cases a : kids.length = 1
  ·exact rr_k5 s kids hok a
  ·exact rr_k5n s kids hok a
 exact rr_kx k s kids hok ⟨q1, q0, q2, q3, q4, q5⟩
def scansionref10_Right.f (a0_0 a0_1 : Int) (l0_2 : List S24) : Option Bool := some (rightN ⟨a0_0, a0_1, l0_2⟩)
theorem scansionref10_Right.calls (a0_0 : Int) (a0_1 : Int) (A0_2 : Option Addr) (c0_2 : Nat) (l0_2 : List (S24)) (r : Bool) (w : World) (hr0_2 : Kd.C k24 w A0_2 l0_2.length l0_2) (hc0_2 : l0_2.length ≤ c0_2) (h : scansionref10_Right.f a0_0 a0_1 l0_2 = some r) :
  Calls Try.prog 49 #[.agg #[.int .i64 a0_0, .int .i64 a0_1, .slice A0_2 l0_2.length c0_2]] w fun e w' => e = .returned (.bool r) ∧ Below w.heap.size w w' := by
 obtain rfl := Option.some.inj h
 exact right_ok ⟨a0_0, a0_1, l0_2⟩ w A0_2 c0_2 hr0_2 hc0_2
end Go.Proofs.Ytemlgmkbonpniaa.Print
