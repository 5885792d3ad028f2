/- slices.DeleteFunc with a closure. · append of a row of one named type to a row of another one. · follow.Step. · follow.End. -/
import Derived.Test.YtemlgmkbonpniaaFLawA
import Derived.Test.YtemlgmkbonpniaaFWithM
import Derived.Shelf.Abstract
import Derived.Lib.SliceRun
namespace Go.Proofs.Ytemlgmkbonpniaa.Print
open Go.Shelf Go.RowKit Go.Maps Go.Proofs.YtemlgmkbonpniaaW.PrintWords Go.Proofs.YtemlgmkbonpniaaW.PrintLast Go.Proofs.YtemlgmkbonpniaaW.PrintMore
set_option linter.unusedVariables false
set_option linter.unusedSimpArgs false
theorem take_one {l : List Int} {i : Nat} (h : i < l.length) : l.take (i + 1) = l.take i ++ [rd l (i : Int)] := by
 rw [List.take_succ_eq_append_getElem h]
 unfold rd
 rw [Int.toNat_natCast, List.getD_eq_getElem?_getD, List.getElem?_eq_getElem h]
 rfl

/-- What is asked of the closure: it tells p, wherever what lies below b0 is as it was. -/
def Tells57 (b0 : Nat) (W : World) (lb1 lb2 : Value) (xs : List Int) (p : Int → Bool) : Prop := ∀ (w : World) (t : Int), t ∈ xs → Below b0 W w → Calls Try.prog 57 #[.int .i64 t, lb1, lb2] w fun e w' => e = .returned (.bool (p t)) ∧ Below w.heap.size w w'
set_option maxHeartbeats 16000000 in
set_option maxRecDepth 100000 in
theorem findex_calls {b0 : Nat} (W : World) (A : Option Addr) (c : Nat) (xs : List Int) (p : Int → Bool) (lb1 lb2 : Value) (hC : Kd.C (Kd.int .i64) W A xs.length xs) (hT : Tells57 b0 W lb1 lb2 xs p) (hb0 : b0 ≤ W.heap.size) (hl : xs.length < 1000000) :
  Calls Try.prog 82 #[.slice A xs.length c, .func (.func 57) #[] #[lb1, lb2]] W fun e w' => Below W.heap.size W w' ∧ ((e = .returned (.int .i64 (-1)) ∧ ∀ t ∈ xs, p t = false) ∨ ∃ i : Nat, i < xs.length ∧ e = .returned (.int .i64 (i : Int)) ∧ p (rd xs (i : Int)) = true ∧ ∀ t ∈ xs.take i, p t = false) := by
 have eg : ∀ args w, (callFunc 57 args).run Try.prog w = .ok (.enter 57 args) w := enters_of Try.func57 (by kernel_rfl) rfl
 have HC := Aside0.mk hC
 have HT := Aside0.mk hT
 have HB0 := Aside0.mk hb0
 have HL := Aside0.mk hl
 clear hC hT hb0 hl
 go_enter Try.func82, Try.ntmps82
 go_wp2
 go_loopg [8] xs.length (fun kq v8 w' => ∃ i : Nat, v8 = .int .i64 (i : Int) ∧ Aside0 (i + kq = xs.length) ∧ Aside0 (∀ t ∈ xs.take i, p t = false) ∧ Aside0 (Below W.heap.size W w'))
 case atStart => exact ⟨0, rfl, ⟨Nat.zero_add _⟩, ⟨fun y hy => by cases hy⟩, ⟨Below.refl _ _⟩⟩
 case round =>
  obtain ⟨i, rfl, HK, HALL, HB2⟩ := hrel
  by_cases q0 : gk = 0
  ·have f1 : ¬ i < xs.length := by have := HK.out; omega
   have f2 : decide ((i : Int) < (xs.length : Int)) = false := decide_eq_false (by omega)
   have HE := Aside0.mk (show ∀ t ∈ xs, p t = false by
    have h := HALL.out
    rw [List.take_of_length_le (by omega)] at h
    exact h)
   clear q0
   go_wp2_with fail
   go_ret
   exact ⟨HB2.out, .inl ⟨rfl, HE.out⟩⟩
  ·have HQ := Aside0.mk q0
   clear q0
   have HIL := Aside0.mk (show i < xs.length by have := HK.out; have := HQ.out; omega)
   obtain ⟨ad, eA, hx⟩ := Kd.at_int (Kd.C_below HC.out HB2.out) (i : Int) (Int.natCast_nonneg i) (by have := HIL.out; omega)
   rw [Int.toNat_natCast] at hx
   subst eA
   obtain ⟨t, ht⟩ : ∃ t, t = rd xs (i : Int) := ⟨_, rfl⟩
   rw [← ht] at hx
   have HTD := Aside0.mk ht
   have HMEM := Aside0.mk (show t ∈ xs by rw [ht]; exact rd_mem HIL.out)
   clear ht
   have HCL := Aside0.mk (HT.out wr t HMEM.out (HB2.out.mono HB0.out))
   have f1 : i < xs.length := HIL.out
   have f2 : decide ((i : Int) < (xs.length : Int)) = true := decide_eq_true (by omega)
   have f3 : 0 ≤ (i : Int) := Int.natCast_nonneg i
   go_wp2_with fail
   refine HCL.out.mono ?_
   rintro e W2 ⟨rfl, hb2⟩
   have HB3 := Aside0.mk (HB2.out.trans (hb2.mono HB2.out.size))
   clear hb2 hx
   cases hb : p t
   case true =>
    have HPT := Aside0.mk hb
    clear hb
    go_wp2_with fail
    go_ret
    exact ⟨HB3.out, .inr ⟨i, HIL.out, rfl, by rw [← HTD.out]; exact HPT.out, HALL.out⟩⟩
   case false =>
    have HPT := Aside0.mk hb
    clear hb
    go_wp2_with fail
    go_roundg (gk - 1)
    case measure => have := HQ.out; omega
    case rel =>
     refine ⟨i + 1, by rw [show wrap64 ((i : Int) + 1) = ((i + 1 : Nat) : Int) by have := HIL.out; have := HL.out; unfold wrap64; omega], ⟨by have := HK.out; have := HQ.out; omega⟩, ⟨fun y hy => ?_⟩, HB3⟩
     rw [take_one HIL.out, ← HTD.out] at hy
     rcases List.mem_append.1 hy with hy | hy
     ·exact HALL.out y hy
     ·rw [List.mem_singleton.1 hy]; exact HPT.out
/-- The row while it is thinned. -/
structure DelI (b0 g cap : Nat) (W : World) (xs : List Int) (p : Int → Bool) (i j : Nat) (w : World) : Prop where
 bl : Below b0 W w
 cur : ∃ cur, w.heap[g]? = some (.cells cur 3 (0, 0)) ∧ cur.size = cap ∧ cur.toList.take i = ((xs.take j).filter fun t => !p t).map (Value.int .i64) ∧ ∀ k, j ≤ k → k < xs.length → cur[k]? = some (.int .i64 (rd xs (k : Int)))
 len : i = ((xs.take j).filter fun t => !p t).length
 cap : xs.length ≤ cap
theorem DelI.le {b0 g cap : Nat} {W : World} {xs : List Int} {p : Int → Bool} {i j : Nat} {w : World} (h : DelI b0 g cap W xs p i j w) : i ≤ j := by
 have h1 := List.length_filter_le (fun t => !p t) (xs.take j)
 have h2 := List.length_take_le j xs
 have := h.len
 omega
theorem DelI.later {b0 g cap : Nat} {W : World} {xs : List Int} {p : Int → Bool} {i j : Nat} {w w' : World} (h : DelI b0 g cap W xs p i j w) (hb : Below w.heap.size w w') (h0 : b0 ≤ w.heap.size) : DelI b0 g cap W xs p i j w' := by
 obtain ⟨cur, hc, r⟩ := h.cur
 exact ⟨h.bl.trans (hb.mono h0), ⟨cur, blk_below hc hb, r⟩, h.len, h.cap⟩
theorem DelI.drop {b0 g cap : Nat} {W : World} {xs : List Int} {p : Int → Bool} {i j : Nat} {w : World} (h : DelI b0 g cap W xs p i j w) (hj : j < xs.length) (hp : p (rd xs (j : Int)) = true) : DelI b0 g cap W xs p i (j + 1) w := by
 have e : (xs.take (j + 1)).filter (fun t => !p t) = (xs.take j).filter fun t => !p t := by rw [take_one hj, List.filter_append, List.filter_cons, hp]; simp
 obtain ⟨cur, hc, hs, h1, h2⟩ := h.cur
 exact ⟨h.bl, ⟨cur, hc, hs, by rw [e]; exact h1, fun k hk hk2 => h2 k (by omega) hk2⟩, by rw [e]; exact h.len, h.cap⟩
theorem DelI.keep {b0 g cap : Nat} {W : World} {xs : List Int} {p : Int → Bool} {i j : Nat} {w : World} (h : DelI b0 g cap W xs p i j w) (hj : j < xs.length) (hp : p (rd xs (j : Int)) = false) (hg : b0 ≤ g) : DelI b0 g cap W xs p (i + 1) (j + 1) (w.setCell ⟨g, i, none⟩ (.int .i64 (rd xs (j : Int)))) := by
 have e : (xs.take (j + 1)).filter (fun t => !p t) = ((xs.take j).filter fun t => !p t) ++ [rd xs (j : Int)] := by rw [take_one hj, List.filter_append, List.filter_cons, hp]; simp
 have hij := h.le
 have hcap := h.cap
 obtain ⟨cur, hc, hs, h1, h2⟩ := h.cur
 refine ⟨h.bl.trans ⟨rfl, rfl, rfl, by simp, fun k hk => Below.heap_setCell _ _ _ k (by show k ≠ g; omega)⟩, ⟨cur.setIfInBounds i (.int .i64 (rd xs (j : Int))), blk_put hc i _ rfl, by rw [Array.size_setIfInBounds]; exact hs, ?_, fun k hk hk2 => ?_⟩, by rw [e, List.length_append, ← h.len]; rfl, h.cap⟩
 ·rw [e, List.map_append, ← h1, Array.toList_setIfInBounds, List.take_set, List.take_add_one]
  have hi : i < cur.toList.length := by rw [Array.length_toList]; omega
  rw [List.getElem?_eq_getElem hi]
  apply List.ext_getElem?
  intro m
  rw [List.getElem?_set]
  have hlt : (cur.toList.take i).length = i := by rw [List.length_take]; omega
  by_cases q : i = m
  ·subst q
   rw [if_pos rfl, if_pos (by rw [List.length_append, hlt]; simp), List.getElem?_append_right (by rw [hlt]; exact Nat.le_refl _), hlt, Nat.sub_self]
   rfl
  ·rw [if_neg q]
   by_cases q2 : m < i
   ·rw [List.getElem?_append_left (by rw [hlt]; exact q2), List.getElem?_append_left (by rw [hlt]; exact q2)]
   ·rw [List.getElem?_eq_none (by rw [List.length_append, hlt]; simp; omega), List.getElem?_eq_none (by rw [List.length_append, hlt]; simp; omega)]
 ·rw [Array.getElem?_setIfInBounds, if_neg (by omega)]
  exact h2 k (by omega) hk2
set_option maxHeartbeats 16000000 in
set_option maxRecDepth 100000 in
theorem fdel_calls {b0 : Nat} (W : World) (v : Value) (xs : List Int) (p : Int → Bool) (lb1 lb2 : Value) (hR : Kd.R (Kd.int .i64) 3 W b0 (fun _ => True) v xs) (hT : Tells57 b0 W lb1 lb2 xs p) (hb0 : b0 ≤ W.heap.size) (hl : xs.length < 1000000) :
  Calls Try.prog 58 #[v, .func (.func 57) #[] #[lb1, lb2]] W fun e w' => ∃ v', e = .returned v' ∧ Kd.R (Kd.int .i64) 3 w' b0 (fun _ => True) v' (xs.filter fun t => !p t) ∧ Below b0 W w' := by
 have eg : ∀ args w, (callFunc 57 args).run Try.prog w = .ok (.enter 57 args) w := enters_of Try.func57 (by kernel_rfl) rfl
 obtain ⟨A, c, rfl⟩ := Kd.R_slice hR
 have HR := Aside0.mk hR
 have HT := Aside0.mk hT
 have HB0 := Aside0.mk hb0
 have HL := Aside0.mk hl
 have HI := Aside0.mk (findex_calls W A c xs p lb1 lb2 (Kd.R_reads' hR).2.2 hT hb0 hl)
 clear hR hT hb0 hl
 go_enter Try.func58, Try.ntmps58
 go_upto_region 2 with (go_at_call 82; refine HI.out.mono ?_; rintro e W1 ⟨hb1, he⟩; have HB1 := Aside0.mk hb1; clear hb1; rcases he with ⟨rfl, hall⟩ | ⟨i0, hi0, rfl, hp0, hall⟩)
 ·have HE := Aside0.mk (show xs.filter (fun t => !p t) = xs from List.filter_eq_self.2 (fun t ht => by rw [hall t ht]; rfl))
  clear hall
  go_wp2_with fail
  go_ret
  rw [HE.out]
  exact ⟨_, rfl, Kd.R_below HR.out HB1.out, HB1.out.mono HB0.out⟩
 ·have HI0 := Aside0.mk hi0
  have hne : xs ≠ [] := fun e => by rw [e] at hi0; exact absurd hi0 (Nat.not_lt_zero _)
  obtain ⟨g, cap, cur, hv, hg, hblk, hlc, hcm, hcs, htk⟩ := own_form (Kd.R_below HR.out HB1.out) hne
  injection hv with hv1 hv2 hv3
  subst hv1 hv3
  rw [Nat.mul_one] at hcs
  have HG := Aside0.mk hg
  have HGL := Aside0.mk (show g < W.heap.size from Kd.R_lt HR.out g rfl)
  have HLC := Aside0.mk hlc
  have HCM := Aside0.mk hcm
  have HK1 := Aside0.mk (show ∀ t ∈ xs.take i0, (!p t) = true from fun t ht => by rw [hall t ht]; rfl)
  have HD1 := Aside0.mk (show DelI b0 g c W xs p i0 (i0 + 1) W1 by
   have e : (xs.take (i0 + 1)).filter (fun t => !p t) = xs.take i0 := by rw [take_one hi0, List.filter_append, List.filter_cons, hp0, List.filter_eq_self.2 HK1.out]; simp
   have hcl : cur.toList.length = c := by rw [Array.length_toList]; exact hcs
   refine ⟨HB1.out.mono HB0.out, ⟨cur, hblk, hcs, ?_, fun k hk hk2 => ?_⟩, ?_, hlc⟩
   ·rw [e, List.map_take, ← htk, List.take_take, Nat.min_eq_left (by omega)]
   ·have h1 : (cur.toList.take xs.length)[k]? = (xs.map (Value.int .i64))[k]? := by rw [htk]
    rw [List.getElem?_take_of_lt hk2, Array.getElem?_toList] at h1
    rw [h1, List.getElem?_map, List.getElem?_eq_getElem hk2]
    unfold rd
    rw [Int.toNat_natCast, List.getD_eq_getElem?_getD, List.getElem?_eq_getElem hk2]
    rfl
   ·rw [e, List.length_take]; omega)
  have HW0 := Aside0.mk (show wrap64 ((i0 : Int) + 1) = ((i0 + 1 : Nat) : Int) by have := HL.out; unfold wrap64; omega)
  have HBS := Aside0.mk (show ∀ w, Below b0 W w → b0 ≤ w.heap.size from fun w hw => Nat.le_trans HB0.out hw.size)
  clear hall hi0 hp0 hne hg hblk hlc hcm hcs htk hv2 HK1 HI HR
  have f1 : ((i0 : Int) == -1) = false := beq_eq_false_iff_ne.2 (by omega)
  have f2 : ¬ (i0 : Int) = -1 := by omega
  go_wp2_with fail
  clear f1 f2
  rw [HW0.out]
  go_loopg [5, 6] (xs.length - (i0 + 1)) (fun kq v5 v6 w' => ∃ i j : Nat, v5 = .int .i64 (i : Int) ∧ v6 = .int .i64 (j : Int) ∧ Aside0 (j + kq = xs.length) ∧ Aside0 (i < j) ∧ Aside0 (DelI b0 g c W xs p i j w'))
  case atStart => exact ⟨i0, i0 + 1, rfl, rfl, ⟨by have := HI0.out; omega⟩, ⟨Nat.lt_succ_self _⟩, HD1⟩
  case round =>
   clear HD1 HB1
   obtain ⟨i, j, rfl, rfl, HK, HIJ, HD⟩ := hrel
   by_cases q0 : gk = 0
   ·have f1 : ¬ j < xs.length := by have := HK.out; omega
    have f2 : decide ((j : Int) < (xs.length : Int)) = false := decide_eq_false (by omega)
    have HJ := Aside0.mk (show j = xs.length by have := HK.out; omega)
    clear q0
    have HIL := Aside0.mk (show i < xs.length by have := HIJ.out; have := HJ.out; omega)
    have g1 : i < xs.length := HIL.out
    have g2 : i ≤ xs.length := Nat.le_of_lt g1
    have g3 : xs.length ≤ c := HLC.out
    have g4 : (0 : Int) ≤ (i : Int) := Int.natCast_nonneg i
    obtain ⟨cur2, hc2, hs2, ht2, hk2⟩ := HD.out.cur
    have HC2 := Aside0.mk hc2
    have HS2 := Aside0.mk hs2
    have HT2 := Aside0.mk ht2
    have hcl : ∀ ty, (Builtin.clear_ #[67] ty #[.slice (some ⟨g, i, none⟩) (xs.length - i) (c - i)]).run Try.prog wr = .ok (.tuple #[]) (wr.setCells g i (List.replicate (xs.length - i) (.int .i64 0))) :=
     fun ty => Lib.run_clear_slice wr 67 3 ty (.int .i64 0) Try.underlying67 (fun w => by kernel_rfl) rfl rfl g i _ _ (by omega) (fun t ht => by rw [(blk_cell HC2.out (i + t)), Array.getElem?_eq_getElem (by have := HS2.out; omega)]; rfl) (fun t ht => blk_frozen HC2.out (i + t))
    clear hc2 hs2 ht2 hk2
    go_wp2
    go_ret
    obtain ⟨cur3, h3, hs3, hl3⟩ := setCells_row (List.replicate (xs.length - i) (Value.int .i64 0)) i wr cur2 HC2.out (by rw [List.length_replicate, HS2.out]; omega)
    have HL2 := HD.out.len
    have hij := HD.out.le
    rw [HJ.out, List.take_length] at HL2
    have ht := HT2.out
    rw [HJ.out, List.take_length] at ht
    have hsm := setCells_same g (List.replicate (xs.length - i) (Value.int .i64 0)) i wr
    have hgg := HG.out
    refine ⟨_, rfl, ?_, HD.out.bl.trans ⟨hsm.1, hsm.2.1, hsm.2.2.1, Nat.le_of_eq hsm.2.2.2.symm, fun k hk => setCells_far _ _ k (by omega)⟩⟩
    have e : i = (xs.filter fun t => !p t).length := HL2
    have h5 : cur3.toList.take i = (xs.filter fun t => !p t).map (Value.int .i64) := by
     have hlt : (cur2.toList.take i).length = i := by rw [List.length_take, Array.length_toList, HS2.out]; omega
     rw [hl3, List.append_assoc, List.take_append_of_le_length (by rw [hlt]; exact Nat.le_refl _), List.take_of_length_le (by rw [hlt]; exact Nat.le_refl _), ht]
    have hR : Kd.R (Kd.int .i64) 3 (wr.setCells g i (List.replicate (xs.length - i) (Value.int .i64 0))) b0 (fun _ => True) (.slice (some ⟨g, 0, none⟩) (xs.filter fun t => !p t).length c) (xs.filter fun t => !p t) := by
     refine Kd.R_of_own (h1 := fun _ => rfl) (enc := Value.int .i64) (ok := fun _ => True) (xs := xs.filter fun t => !p t) ⟨by simp [encs], .inr ⟨g, c, cur3, rfl, hgg, h3, by rw [← e]; omega, HCM.out, by rw [hs3, HS2.out, Nat.mul_one], ?_⟩⟩ (fun _ _ => trivial)
     rw [Nat.mul_one, ← e]
     exact h5
    rw [← e] at hR
    exact hR
   ·have HQ := Aside0.mk q0
    clear q0
    have HJL := Aside0.mk (show j < xs.length by have := HK.out; have := HQ.out; omega)
    obtain ⟨cur2, hc2, hs2, ht2, hk2⟩ := HD.out.cur
    have hx := (blk_cell hc2 j).trans (hk2 j (Nat.le_refl _) HJL.out)
    clear hc2 hs2 ht2 hk2
    obtain ⟨t, ht⟩ : ∃ t, t = rd xs (j : Int) := ⟨_, rfl⟩
    rw [← ht] at hx
    have HTD := Aside0.mk ht
    have HMEM := Aside0.mk (show t ∈ xs by rw [ht]; exact rd_mem HJL.out)
    clear ht
    have HCL := Aside0.mk (HT.out wr t HMEM.out HD.out.bl)
    have f1 : j < xs.length := HJL.out
    have f2 : decide ((j : Int) < (xs.length : Int)) = true := decide_eq_true (by omega)
    have f3 : 0 ≤ (j : Int) := Int.natCast_nonneg j
    go_wp2_with fail
    refine HCL.out.mono ?_
    rintro e W2 ⟨rfl, hb2⟩
    have HD2 := Aside0.mk (HD.out.later hb2 (HBS.out wr HD.out.bl))
    clear hb2 hx f1 f2 f3 HD
    have HWJ := Aside0.mk (show wrap64 ((j : Int) + 1) = ((j + 1 : Nat) : Int) by have := HJL.out; have := HL.out; unfold wrap64; omega)
    have HWI := Aside0.mk (show wrap64 ((i : Int) + 1) = ((i + 1 : Nat) : Int) by have := HJL.out; have := HIJ.out; have := HL.out; unfold wrap64; omega)
    cases hb : p t
    case true =>
     have HPT := Aside0.mk hb
     clear hb
     go_wp2_with fail
     go_roundg (gk - 1)
     case measure => have := HQ.out; omega
     case rel => exact ⟨i, j + 1, rfl, by rw [HWJ.out], ⟨by have := HK.out; have := HQ.out; omega⟩, ⟨by have := HIJ.out; omega⟩, ⟨HD2.out.drop HJL.out (by rw [← HTD.out]; exact HPT.out)⟩⟩
    case false =>
     have HPT := Aside0.mk hb
     clear hb
     obtain ⟨cur3, hc3, hs3, _, _⟩ := HD2.out.cur
     obtain ⟨u, hu⟩ : ∃ u, cur3[i]? = some u := ⟨_, Array.getElem?_eq_getElem (show i < cur3.size by have := HIJ.out; have := HJL.out; have := HLC.out; omega)⟩
     have hxi := (blk_cell hc3 i).trans hu
     have hfi := blk_frozen hc3 i
     clear hc3 hs3 hu
     have g1 : i < xs.length := by have := HIJ.out; have := HJL.out; omega
     have g4 : (0 : Int) ≤ (i : Int) := Int.natCast_nonneg i
     go_wp2_with fail
     go_roundg (gk - 1)
     case measure => have := HQ.out; omega
     case rel => exact ⟨i + 1, j + 1, by rw [HWI.out], by rw [HWJ.out], ⟨by have := HK.out; have := HQ.out; omega⟩, ⟨by have := HIJ.out; omega⟩, ⟨by rw [HTD.out]; exact HD2.out.keep HJL.out (by rw [← HTD.out]; exact HPT.out) HG.out⟩⟩
end Go.Proofs.Ytemlgmkbonpniaa.Print

namespace Go.Proofs.Ytemlgmkbonpniaa.Print
open Go.RowKit Go.Maps Go.Proofs.YtemlgmkbonpniaaW.PrintWords Go.Proofs.YtemlgmkbonpniaaW.PrintLast Go.Proofs.YtemlgmkbonpniaaW.PrintMore
set_option linter.unusedVariables false
set_option linter.unusedSimpArgs false
theorem append_types {P : Program} {t u e e' ty : TypeId} {args : Array Value} {W : World} (ht : P.underlying t = some (.slice e)) (hu : P.underlying u = some (.slice e')) :
  (Builtin.append_ #[t, u] ty args).run P W = (Builtin.append_ #[t, t] ty args).run P W := by
 have h1 : ∀ w, (underlying t).run P w = .ok (.slice e) w := fun w => run_underlying ht w
 have h2 : ∀ w, (underlying u).run P w = .ok (.slice e') w := fun w => run_underlying hu w
 unfold Builtin.append_
 cases args[0]? with
 | none => rfl
 | some s =>
  cases args[1]? with
  | none => rfl
  | some x =>
   cases s with
   | slice base sLen sCap =>
    show Sem.run P (_ >>= _) W = Sem.run P (_ >>= _) W
    rw [Sem.run_bind, Sem.run_bind]
    congr 1
    funext te w
    cases te with
    | slice el =>
     show Sem.run P (_ >>= _) w = Sem.run P (_ >>= _) w
     rw [Sem.run_bind, Sem.run_bind]
     congr 1
     funext size w2
     show Sem.run P (_ >>= _) w2 = Sem.run P (_ >>= _) w2
     rw [Sem.run_bind, Sem.run_bind]
     rw [show Sem.run P (underlying #[t, u][1]) w2 = .ok (.slice e') w2 from h2 w2, show Sem.run P (underlying #[t, t][1]) w2 = .ok (.slice e) w2 from h1 w2]
     rfl
    | _ => rfl
   | _ => rfl
theorem rows_run {W : World} {base : Nat} {v : Value} {xs ys : List Int} {A : Option Addr} {c : Nat} (HO : Kd.R (Kd.int .i64) 3 W base (fun _ => True) v xs) (HR : Kd.C (Kd.int .i64) W A ys.length ys) (hb : base ≤ W.heap.size) (hl : xs.length + ys.length < 1000000) (ty : TypeId) :
  ∃ v1 w1, (Builtin.append_ #[67, 27] ty #[v, .slice A ys.length c]).run Try.prog W = .ok v1 w1 ∧ Kd.R (Kd.int .i64) 3 w1 base (fun _ => True) v1 (xs ++ ys) ∧ W.grownBy w1 v.ownBlock := by
 obtain ⟨i0, hi, hz0, hz1, hz2⟩ := info_parts info3
 rw [append_types Try.underlying67 Try.underlying27]
 have hown := Kd.own_of_R HO
 rcases A with _ | ad
 ·have h0 : ys = [] := by
   rcases Nat.eq_zero_or_pos ys.length with h0 | h0
   ·exact List.length_eq_zero_iff.1 h0
   ·obtain ⟨ad, h, _⟩ := HR.2.2 h0
    cases h
  subst h0
  refine ⟨v, W, ?_, by rw [List.append_nil]; exact HO, World.grownBy.refl W _⟩
  rcases hown.2 with ⟨rfl, hn⟩ | ⟨g, cap, cur, rfl, _, _, hnc, _⟩
  ·simp [Builtin.append_, run_underlying Try.underlying67, sizeOf, typeInfo, hi, Builtin.lenOf, Builtin.firstCells]
  ·simp [Builtin.append_, run_underlying Try.underlying67, sizeOf, typeInfo, hi, Builtin.lenOf, Builtin.firstCells, hnc, storeCells]
 ·have hnews : ∀ j u, (ys.map (Value.int .i64))[j]? = some u → W.cell? (ad.add j) = some u := fun j u hj => by
   rw [List.getElem?_map] at hj
   have hjl : j < ys.length := by
    rcases Nat.lt_or_ge j ys.length with h | h
    ·exact h
    ·rw [List.getElem?_eq_none h] at hj; cases hj
   obtain ⟨ad2, eA, hx⟩ := Kd.at_int HR (j : Int) (by omega) (by omega)
   cases eA
   rw [Int.toNat_natCast] at hx
   rw [List.getElem?_eq_getElem hjl] at hj
   rw [hx, ← hj]
   unfold rd
   rw [Int.toNat_natCast, List.getD_eq_getElem?_getD, List.getElem?_eq_getElem hjl]
   rfl
  obtain ⟨v1, w1, hrun, h2, hg, _, _⟩ := run_append_own_at (P := Try.prog) W base 67 ty 3 i0 (.int .i64 0) 1 8 Try.underlying67 hi hz0 hz1 hz2 rfl (by decide) v xs.length _ hown ad ys.length c (ys.map (Value.int .i64)) (by simp) hnews (fun u hu => by obtain ⟨t, _, rfl⟩ := List.mem_map.1 hu; rfl) (by simp only [maxLen]; omega) (by omega) hb
  refine ⟨v1, w1, hrun, Kd.R_of_own (h1 := fun _ => rfl) (enc := Value.int .i64) (ok := fun _ => True) (xs := xs ++ ys) (by rw [List.length_append]; simpa [encs] using h2) (fun _ _ => trivial), hg⟩
theorem R_app2 {ops : Array Oper} {rest : List Oper} {o : Oper} {a : Act} {Q : Exit → Act → World → Prop} {W : World} {base : Nat} (hgd : o.guard = none) (s x : Operand) (ho : o.op = .call { callee := .builtin .append, args := #[s, x], argTypes := #[67, 27] })
  (v : Value) (xs ys : List Int) (A : Option Addr) (c : Nat) (hs : a.eval s = v) (hx : a.eval x = .slice A ys.length c) (HO : Kd.R (Kd.int .i64) 3 W base (fun _ => True) v xs) (HR : Kd.C (Kd.int .i64) W A ys.length ys) (hb : base ≤ W.heap.size) (hl : xs.length + ys.length < 1000000)
  (h : ∀ v1 w1, Kd.R (Kd.int .i64) 3 w1 base (fun _ => True) v1 (xs ++ ys) → Below base W w1 → wpList Try.prog ops Q rest (a.put o.dst v1) w1) : wpList Try.prog ops Q (o :: rest) a W := by
 obtain ⟨v1, w1, hr1, h1, hg⟩ := rows_run (c := c) HO HR hb hl o.type
 refine wpList_plain hgd fun K hK => ?_
 unfold Oper.wp execOp
 simp only [ho, resolve, invoke, builtin, Sem.run_bind, Sem.run_pure, Result.andThen_ok, List.map_toArray, List.map_cons, List.map_nil, hs, hx, hr1]
 exact hK _ _ (h v1 w1 h1 (Below.grown (Below.refl base W) hg hb (Kd.R_base HO)))
end Go.Proofs.Ytemlgmkbonpniaa.Print

namespace Go.Proofs.Ytemlgmkbonpniaa.Print
open Go.Shelf Go.RowKit Go.Maps Go.Proofs.YtemlgmkbonpniaaW.PrintWords Go.Proofs.YtemlgmkbonpniaaW.PrintLast Go.Proofs.YtemlgmkbonpniaaW.PrintMore
set_option linter.unusedVariables false
set_option linter.unusedSimpArgs false
def bitN (sign s : Int) : Int := Go.bits .and .u64 (shr .u64 sign s) 1
def oddN (sets : List Int) (sign i : Int) : Bool := bitN sign (rd sets (i - 1)) == 0
def rowOf (first : List Int) (fol : List (List Int)) (t : Int) : List Int := if t = 0 then first else fol.getD (t - 1).toNat []
def allR (first : List Int) (fol : List (List Int)) (at_ : List Int) : List Int := (at_.map (rowOf first fol)).flatten
def stepR (sets first : List Int) (fol : List (List Int)) (at_ : List Int) (sign : Int) : List Int := (withR (allR first fol at_) []).filter fun i => !oddN sets sign i
/-- Where follow.Step does not fail. -/
def StepOk (sets first : List Int) (fol : List (List Int)) (at_ : List Int) : Prop :=
 (∀ t ∈ at_, 0 ≤ t ∧ t ≤ (fol.length : Int)) ∧ (∀ t ∈ first, 1 ≤ t ∧ t ≤ (sets.length : Int)) ∧ (∀ l ∈ fol, ∀ t ∈ l, 1 ≤ t ∧ t ≤ (sets.length : Int)) ∧ (∀ s ∈ sets, 0 ≤ s ∧ s ≤ 63) ∧ sets.length ≤ 1000000 ∧ fol.length ≤ 1000000 ∧ at_.length < 1000000 ∧ (allR first fol at_).length < 1000000
instance (sets first : List Int) (fol : List (List Int)) (at_ : List Int) : Decidable (StepOk sets first fol at_) := by unfold StepOk; infer_instance
theorem allR_step {first : List Int} {fol : List (List Int)} {at_ : List Int} {i : Nat} (h : i < at_.length) : allR first fol (at_.take (i + 1)) = allR first fol (at_.take i) ++ rowOf first fol (rd at_ (i : Int)) := by
 unfold allR
 rw [take_one h, List.map_append, List.flatten_append]
 simp
theorem allR_le (first : List Int) (fol : List (List Int)) (at_ : List Int) (i : Nat) : (allR first fol (at_.take i)).length ≤ (allR first fol at_).length := by
 have h : allR first fol at_ = allR first fol (at_.take i) ++ allR first fol (at_.drop i) := by
  unfold allR
  rw [← List.flatten_append, ← List.map_append, List.take_append_drop]
 rw [h, List.length_append]
 omega
theorem allR_mem {sets first : List Int} {fol : List (List Int)} {at_ : List Int} (h : StepOk sets first fol at_) : ∀ t ∈ allR first fol at_, 1 ≤ t ∧ t ≤ (sets.length : Int) := by
 intro t ht
 unfold allR at ht
 obtain ⟨l, hl, htl⟩ := List.mem_flatten.1 ht
 obtain ⟨u, hu, rfl⟩ := List.mem_map.1 hl
 unfold rowOf at htl
 split at htl
 ·exact h.2.1 t htl
 ·rw [List.getD_eq_getElem?_getD] at htl
  cases q : fol[(u - 1).toNat]? with
  | none => rw [q] at htl; cases htl
  | some r => rw [q] at htl; exact h.2.2.1 r (List.mem_of_getElem? q) t htl
set_option maxHeartbeats 8000000 in
set_option maxRecDepth 100000 in
theorem odd57 (n : Nat) (sign i s : Int) (SB AB : Nat) (ad : Addr) (c1 : Nat) (W : World) (hn : n ≤ 1000000) (hS : W.cell? ⟨SB, 0, none⟩ = some (.int .u64 sign)) (hA : W.cell? ⟨AB, 1, none⟩ = some (.slice (some ad) n c1)) (hx : W.cell? (ad.add (i - 1).toNat) = some (.int .i64 s)) (h1 : 1 ≤ i) (h2 : i ≤ (n : Int)) (hs : 0 ≤ s ∧ s ≤ 63) :
  Calls Try.prog 57 #[.int .i64 i, .pointer (some ⟨SB, 0, none⟩), .pointer (some ⟨AB, 0, none⟩)] W fun e w' => e = .returned (.bool (bitN sign s == 0)) ∧ Below W.heap.size W w' := by
 obtain ⟨j, hj⟩ : ∃ j : Nat, j = (i - 1).toNat := ⟨_, rfl⟩
 rw [← hj] at hx
 have hw : wrap64 (i - 1) = (j : Int) := by unfold wrap64; omega
 have f1 : j < n := by omega
 have f2 : (0 : Int) ≤ s := hs.1
 have f3 : ¬ s < 0 := by omega
 have f4 : decide (s < 0) = false := decide_eq_false f3
 have HS := Aside0.mk hs
 clear hj h1 h2 hs
 go_enter Try.func57, Try.ntmps57
 go_upto_region 1 with fail
 go_quiet (fail)
 go_wp2_with fail
 go_ret
 exact ⟨rfl, by apply pw_below_drewN; exact Below.refl _ _⟩
set_option maxHeartbeats 16000000 in
set_option maxRecDepth 100000 in
theorem step_calls (nl : Bool) (A1 : Option Addr) (c1 : Nat) (sets : List Int) (A2 : Option Addr) (c2 : Nat) (first : List Int) (A3 : Option Addr) (c3 : Nat) (last : List Int) (A4 : Option Addr) (c4 : Nat) (fol : List (List Int)) (A : Option Addr) (c : Nat) (at_ : List Int) (sign : Int) (W : World) (h1 : Kd.C (Kd.int .i64) W A1 sets.length sets) (h2 : Kd.C (Kd.int .i64) W A2 first.length first) (h4 : Kd.C (Kd.slice 3 (Kd.int .i64)) W A4 fol.length fol) (ha : Kd.C (Kd.int .i64) W A at_.length at_) (hok : StepOk sets first fol at_) :
  Calls Try.prog 28 #[.agg #[.bool nl, .slice A1 sets.length c1, .slice A2 first.length c2, .slice A3 last.length c3, .slice A4 fol.length c4], .slice A at_.length c, .int .u64 sign] W fun e w' => ∃ v, e = .returned v ∧ Kd.R (Kd.int .i64) 3 w' W.heap.size (fun _ => True) v (stepR sets first fol at_ sign) ∧ Below W.heap.size W w' := by
 have H1 := Aside0.mk h1
 have H2 := Aside0.mk h2
 have H4 := Aside0.mk h4
 have HA := Aside0.mk ha
 have HOK := Aside0.mk hok
 clear h1 h2 h4 ha hok
 go_enter Try.func28, Try.ntmps28
 go_upto_region 2 with fail
 have b1 := below_alloc (Below.refl W.heap.size W) (.cells #[.bool nl, .slice A1 sets.length c1, .slice A2 first.length c2, .slice A3 last.length c3, .slice A4 fol.length c4] 30)
 have b2 := below_alloc (Below.refl _ (W.alloc (.cells #[.bool nl, .slice A1 sets.length c1, .slice A2 first.length c2, .slice A3 last.length c3, .slice A4 fol.length c4] 30))) (.cells #[.int .u64 sign] 43)
 have s1 : (W.alloc (.cells #[.bool nl, .slice A1 sets.length c1, .slice A2 first.length c2, .slice A3 last.length c3, .slice A4 fol.length c4] 30)).heap.size = W.heap.size + 1 := Array.size_push _
 have HAB := Aside0.mk (blk_below (blk_new W (.cells #[.bool nl, .slice A1 sets.length c1, .slice A2 first.length c2, .slice A3 last.length c3, .slice A4 fol.length c4] 30)) b2)
 have HSB := Aside0.mk (show ((W.alloc (.cells #[.bool nl, .slice A1 sets.length c1, .slice A2 first.length c2, .slice A3 last.length c3, .slice A4 fol.length c4] 30)).alloc (.cells #[.int .u64 sign] 43)).heap[W.heap.size + 1]? = some (.cells #[.int .u64 sign] 43 (0, 0)) by rw [← s1]; exact blk_new _ _)
 have HB0 := Aside0.mk (b1.trans (b2.mono (by rw [s1]; omega)))
 clear b1 b2 s1
 obtain ⟨SB, hSB⟩ : ∃ n, W.heap.size + 1 = n := ⟨_, rfl⟩
 obtain ⟨AB, hAB⟩ : ∃ n, W.heap.size = n := ⟨_, rfl⟩
 obtain ⟨W1, hW1⟩ : ∃ w, (W.alloc (.cells #[.bool nl, .slice A1 sets.length c1, .slice A2 first.length c2, .slice A3 last.length c3, .slice A4 fol.length c4] 30)).alloc (.cells #[.int .u64 sign] 43) = w := ⟨_, rfl⟩
 rw [hSB, hW1] at HSB
 rw [hAB, hW1] at HAB
 rw [hW1] at HB0
 rw [hW1]
 rw [hSB, hAB]
 clear hSB hAB hW1
 go_wp2_with fail
 go_loopg [7, 13] at_.length (fun kq v7 v13 w' => ∃ (i : Nat) (A7 : Option Addr) (c7 : Nat), v7 = .slice A7 (allR first fol (at_.take i)).length c7 ∧ v13 = .int .i64 (i : Int) ∧ Aside0 (i + kq = at_.length) ∧ Aside0 (Below W1.heap.size W1 w') ∧ Aside0 (Kd.R (Kd.int .i64) 3 w' W1.heap.size (fun _ => True) (.slice A7 (allR first fol (at_.take i)).length c7) (allR first fol (at_.take i))))
 case atStart => exact ⟨0, none, 0, rfl, rfl, ⟨Nat.zero_add _⟩, ⟨Below.refl _ _⟩, ⟨Kd.R_nil _ _ _ _ _⟩⟩
 case round =>
  obtain ⟨i, A7, c7, rfl, rfl, HK, HB1, HO⟩ := hrel
  by_cases q0 : gk = 0
  ·have f1 : ¬ i < at_.length := by have := HK.out; omega
   have f2 : decide ((i : Int) < (at_.length : Int)) = false := decide_eq_false (by omega)
   have HE := Aside0.mk (show at_.take i = at_ from List.take_of_length_le (by omega))
   clear q0
   rw [HE.out] at HO
   rw [HE.out]
   obtain ⟨xs, hxs⟩ : ∃ x, x = allR first fol at_ := ⟨_, rfl⟩
   have HMM := Aside0.mk (show ∀ t ∈ xs, 1 ≤ t ∧ t ≤ (sets.length : Int) by rw [hxs]; exact allR_mem HOK.out)
   have HLN := Aside0.mk (show xs.length < 1000000 by rw [hxs]; exact HOK.out.2.2.2.2.2.2.2)
   rw [← hxs] at HO
   rw [← hxs]
   have HXS := Aside0.mk hxs
   clear hxs
   go_upto_region 10 with fail
   have HOC := Aside0.mk (Kd.R_reads' HO.out)
   have hS := Aside0.mk (blk_below HSB.out HB1.out)
   have hA := Aside0.mk (blk_below HAB.out HB1.out)
   have HBW := Aside0.mk (HB0.out.trans (HB1.out.mono HB0.out.size))
   have HTL := Aside0.mk (show ∀ w2, Below wr.heap.size wr w2 → Tells57 wr.heap.size w2 (.pointer (some ⟨SB, 0, none⟩)) (.pointer (some ⟨AB, 0, none⟩)) (withR xs []) (oddN sets sign) from fun w2 hb2 w t ht hbw => by
    have hb := hb2.trans hbw
    have htr := HMM.out t (by
     have h1 := ht
     unfold withR at h1
     rw [compact_mem, sortI_mem, List.append_nil] at h1
     exact h1)
    obtain ⟨ad, eA, hx⟩ := Kd.at_int (Kd.C_below H1.out (HBW.out.trans (hb.mono HBW.out.size))) (t - 1) (by omega) (by omega)
    have hS2 := blk_below hS.out hb
    have hA2 := blk_below hA.out hb
    subst eA
    exact odd57 sets.length sign t (rd sets (t - 1)) SB AB ad c1 w HOK.out.2.2.2.2.1 ((blk_cell hS2 0).trans rfl) ((blk_cell hA2 1).trans rfl) hx htr.1 htr.2 (HOK.out.2.2.2.1 _ (by
     have h3 : (t - 1).toNat < sets.length := by omega
     have h4 := rd_mem h3
     rwa [show (((t - 1).toNat : Nat) : Int) = t - 1 by omega] at h4)))
   have HWL := Aside0.mk (show (withR xs []).length < 1000000 by
    have h1 := compact_len (sortI (xs ++ []))
    rw [sortI_len, List.append_nil] at h1
    have := HLN.out
    show (Lib.compact (sortI (xs ++ []))).length < _
    rw [List.append_nil]
    omega)
   go_wp2_with (first | (go_at_call 59; refine (fwith_calls A7 c7 xs none 0 [] wr HOC.out.2.2 HOC.out.2.1 ⟨rfl, by simp, fun h => absurd h (Nat.lt_irrefl 0)⟩ (Nat.le_refl _) (by have := HLN.out; simp; omega)).mono ?_; rintro e w2 ⟨A9, c9, rfl, hb2, ho2⟩; have HB2 := Aside0.mk hb2; have HO2 := Aside0.mk ho2; clear hb2 ho2) | (go_at_call 58; refine (fdel_calls (b0 := wr.heap.size) w2 (.slice A9 (withR xs []).length c9) (withR xs []) (oddN sets sign) (.pointer (some ⟨SB, 0, none⟩)) (.pointer (some ⟨AB, 0, none⟩)) HO2.out (HTL.out w2 HB2.out) HB2.out.size HWL.out).mono ?_; rintro e w3 ⟨v3, rfl, ho3, hb3⟩; have HB3 := Aside0.mk (HB2.out.trans hb3); have HO3 := Aside0.mk ho3; clear hb3 ho3))
   go_ret
   refine ⟨v3, rfl, ?_, HBW.out.trans (HB3.out.mono HBW.out.size)⟩
   have h := Kd.R_lower HO3.out HBW.out.size
   unfold stepR
   rw [← HXS.out]
   exact h
  ·have HQ := Aside0.mk q0
   clear q0
   have HIL := Aside0.mk (show i < at_.length by have := HK.out; have := HQ.out; omega)
   have HBW := Aside0.mk (HB0.out.trans (HB1.out.mono HB0.out.size))
   obtain ⟨ad, eA, hx⟩ := Kd.at_int (Kd.C_below HA.out HBW.out) (i : Int) (Int.natCast_nonneg i) (by have := HIL.out; omega)
   rw [Int.toNat_natCast] at hx
   subst eA
   obtain ⟨t, ht⟩ : ∃ t, t = rd at_ (i : Int) := ⟨_, rfl⟩
   rw [← ht] at hx
   have HTR := Aside0.mk (show 0 ≤ t ∧ t ≤ (fol.length : Int) by rw [ht]; exact HOK.out.1 _ (rd_mem HIL.out))
   have HFL := Aside0.mk (show allR first fol (at_.take (i + 1)) = allR first fol (at_.take i) ++ rowOf first fol t by rw [ht]; exact allR_step HIL.out)
   have HLN := Aside0.mk (show (allR first fol (at_.take i)).length + (rowOf first fol t).length < 1000000 by
    have h1 := allR_le first fol at_ (i + 1)
    rw [HFL.out, List.length_append] at h1
    have := HOK.out.2.2.2.2.2.2.2
    omega)
   clear ht
   obtain ⟨xs, hxs⟩ : ∃ x, x = allR first fol (at_.take i) := ⟨_, rfl⟩
   rw [← hxs] at HO HFL HLN
   rw [← hxs]
   clear hxs
   have f1 : i < at_.length := HIL.out
   have f2 : decide ((i : Int) < (at_.length : Int)) = true := decide_eq_true (by omega)
   have f3 : (0 : Int) ≤ (i : Int) := Int.natCast_nonneg i
   have HW2 := Aside0.mk (show wrap64 ((i : Int) + 1) = ((i + 1 : Nat) : Int) by have := HIL.out; have := HOK.out.2.2.2.2.2.2.1; unfold wrap64; omega)
   have HAB1 := Aside0.mk (blk_below HAB.out HB1.out)
   by_cases q : t = 0
   ·subst q
    have HRE := Aside0.mk (show rowOf first fol 0 = first from if_pos rfl)
    rw [HRE.out] at HFL HLN
    have z2 : wr.cell? ⟨AB, 2, none⟩ = some (.slice A2 first.length c2) := (blk_cell HAB1.out 2).trans rfl
    go_wp2_with (((with_reducible refine gate_builtin (b := .append) (xs := #[.tmp 19, .tmp 21]) rfl ?_); at_builtin; refine R_app2 (W := wr) (base := W1.heap.size) rfl (.tmp 19) (.tmp 21) rfl (.slice A7 xs.length c7) xs first A2 c2 rfl rfl HO.out (Kd.C_below H2.out HBW.out) HB1.out.size ?_ ?_; (have := HLN.out; omega); intro v8 w8 ho8 hb8; obtain ⟨A8, c8, rfl⟩ := Kd.R_slice ho8; have HO8 := Aside0.mk ho8; have HB8 := Aside0.mk (HB1.out.trans hb8); clear ho8 hb8))
    go_roundg (gk - 1)
    case measure => have := HQ.out; omega
    case rel => exact ⟨i + 1, A8, c8, by rw [HFL.out, List.length_append], by rw [← HW2.out], ⟨by have := HK.out; have := HQ.out; omega⟩, HB8, ⟨by rw [HFL.out]; exact HO8.out⟩⟩
   ·have HRE := Aside0.mk (show rowOf first fol t = fol.getD (t - 1).toNat [] from if_neg q)
    rw [HRE.out] at HFL HLN
    have z4 : wr.cell? ⟨AB, 4, none⟩ = some (.slice A4 fol.length c4) := (blk_cell HAB1.out 4).trans rfl
    have g1 : (t == 0) = false := beq_eq_false_iff_ne.2 q
    have HQT := Aside0.mk q
    obtain ⟨j, hj⟩ : ∃ j : Nat, j = (t - 1).toNat := ⟨_, rfl⟩
    rw [← hj] at HFL HLN
    have hjl : j < fol.length := by have := HTR.out; omega
    have HWT := Aside0.mk (show wrap64 (t - 1) = (j : Int) by have := HTR.out; have := HOK.out.2.2.2.2.2.1; unfold wrap64; omega)
    obtain ⟨ad4, A5, c5, e5, hx5, hl5, hi5⟩ := at_L3 (Kd.C_below H4.out HBW.out) (j : Int) (Int.natCast_nonneg j) (by omega)
    rw [Int.toNat_natCast] at hx5
    cases e5
    have hrd : rd_L3 fol (j : Int) = fol.getD j [] := by unfold rd_L3; rw [Int.toNat_natCast]
    rw [hrd] at hx5 hi5
    obtain ⟨row, hrow⟩ : ∃ r, r = fol.getD j [] := ⟨_, rfl⟩
    rw [← hrow] at hx5 hi5 HFL HLN
    have HI5 := Aside0.mk hi5
    have hw := HWT.out
    clear hj hl5 hi5 hrd hrow q
    go_wp2_with (((with_reducible refine gate_builtin (b := .append) (xs := #[.tmp 23, .tmp 29]) rfl ?_); at_builtin; refine R_app2 (W := wr) (base := W1.heap.size) rfl (.tmp 23) (.tmp 29) rfl (.slice A7 xs.length c7) xs row A5 c5 rfl rfl HO.out HI5.out HB1.out.size ?_ ?_; (have := HLN.out; omega); intro v8 w8 ho8 hb8; obtain ⟨A8, c8, rfl⟩ := Kd.R_slice ho8; have HO8 := Aside0.mk ho8; have HB8 := Aside0.mk (HB1.out.trans hb8); clear ho8 hb8))
    go_roundg (gk - 1)
    case measure => have := HQ.out; omega
    case rel => exact ⟨i + 1, A8, c8, by rw [HFL.out, List.length_append], by rw [← HW2.out], ⟨by have := HK.out; have := HQ.out; omega⟩, HB8, ⟨by rw [HFL.out]; exact HO8.out⟩⟩
def follow_Step.f (a0_0 : Bool) (l0_1 l0_2 l0_3 : List Int) (l0_4 : List (List Int)) (l1 : List Int) (a2 : Int) : Option (List Int) := if StepOk l0_1 l0_2 l0_4 l1 then some (stepR l0_1 l0_2 l0_4 l1 a2) else none
theorem follow_Step.calls (a0_0 : Bool) (A0_1 : Option Addr) (c0_1 : Nat) (l0_1 : List Int) (A0_2 : Option Addr) (c0_2 : Nat) (l0_2 : List Int) (A0_3 : Option Addr) (c0_3 : Nat) (l0_3 : List Int) (A0_4 : Option Addr) (c0_4 : Nat) (l0_4 : List (List Int)) (A1 : Option Addr) (c1 : Nat) (l1 : List Int) (a2 : Int) (r : List Int) (w : World) (hr0_1 : Kd.C (Kd.int .i64) w A0_1 l0_1.length l0_1) (hc0_1 : l0_1.length ≤ c0_1) (hr0_2 : Kd.C (Kd.int .i64) w A0_2 l0_2.length l0_2) (hc0_2 : l0_2.length ≤ c0_2) (hr0_3 : Kd.C (Kd.int .i64) w A0_3 l0_3.length l0_3) (hc0_3 : l0_3.length ≤ c0_3) (hr0_4 : Kd.C (Kd.slice 3 (Kd.int .i64)) w A0_4 l0_4.length l0_4) (hc0_4 : l0_4.length ≤ c0_4) (hr1 : Kd.C (Kd.int .i64) w A1 l1.length l1) (hc1 : l1.length ≤ c1) (h : follow_Step.f a0_0 l0_1 l0_2 l0_3 l0_4 l1 a2 = some r) :
  Calls Try.prog 28 #[.agg #[.bool a0_0, .slice A0_1 l0_1.length c0_1, .slice A0_2 l0_2.length c0_2, .slice A0_3 l0_3.length c0_3, .slice A0_4 l0_4.length c0_4], .slice A1 l1.length c1, .int .u64 a2] w fun e w' => ∃ v0_ : Value, e = .returned (v0_) ∧ Kd.R (Kd.int .i64) 3 w' w.heap.size (fun _ => True) v0_ r ∧ Below w.heap.size w w' := by
 unfold follow_Step.f at h
 split at h
 next hok =>
  rw [← Option.some.inj h]
  exact step_calls a0_0 A0_1 c0_1 l0_1 A0_2 c0_2 l0_2 A0_3 c0_3 l0_3 A0_4 c0_4 l0_4 A1 c1 l1 a2 w hr0_1 hr0_2 hr0_4 hr1 hok
 next => cases h
end Go.Proofs.Ytemlgmkbonpniaa.Print

namespace Go.Proofs.Ytemlgmkbonpniaa.Print
open Go.Shelf Go.RowKit Go.Maps Go.Proofs.YtemlgmkbonpniaaW.PrintWords Go.Proofs.YtemlgmkbonpniaaW.PrintLast Go.Proofs.YtemlgmkbonpniaaW.PrintMore
set_option linter.unusedVariables false
set_option linter.unusedSimpArgs false
set_option maxHeartbeats 8000000 in
set_option maxRecDepth 100000 in
theorem index80 (W : World) (A : Option Addr) (c : Nat) (xs : List Int) (x : Int) (hC : Kd.C (Kd.int .i64) W A xs.length xs) (hl : xs.length < 1000000) :
  Calls Try.prog 80 #[.slice A xs.length c, .int .i64 x] W fun e w' => ∃ r : Int, e = .returned (.int .i64 r) ∧ decide (r ≥ 0) = decide (x ∈ xs) ∧ w' = W := by
 have HC := Aside0.mk hC
 have HL := Aside0.mk hl
 clear hC hl
 go_enter Try.func80, Try.ntmps80
 go_wp2
 go_loopg [8] xs.length (fun kq v8 w' => ∃ i : Nat, v8 = .int .i64 (i : Int) ∧ W = w' ∧ Aside0 (i + kq = xs.length) ∧ Aside0 (∀ t ∈ xs.take i, t ≠ x))
 case atStart => exact ⟨0, rfl, rfl, ⟨Nat.zero_add _⟩, ⟨fun y hy => by cases hy⟩⟩
 case round =>
  obtain ⟨i, rfl, rfl, HK, HALL⟩ := hrel
  by_cases q0 : gk = 0
  ·have f1 : ¬ i < xs.length := by have := HK.out; omega
   have f2 : decide ((i : Int) < (xs.length : Int)) = false := decide_eq_false (by omega)
   have HE := Aside0.mk (show ∀ t ∈ xs, t ≠ x by
    have h := HALL.out
    rw [List.take_of_length_le (by omega)] at h
    exact h)
   clear q0
   go_wp2_with fail
   go_ret
   exact ⟨_, rfl, by rw [decide_eq_false (fun h => HE.out x h rfl)]; rfl, rfl⟩
  ·have HQ := Aside0.mk q0
   clear q0
   have HIL := Aside0.mk (show i < xs.length by have := HK.out; have := HQ.out; omega)
   obtain ⟨ad, eA, hx⟩ := Kd.at_int HC.out (i : Int) (Int.natCast_nonneg i) (by have := HIL.out; omega)
   rw [Int.toNat_natCast] at hx
   subst eA
   obtain ⟨t, ht⟩ : ∃ t, t = rd xs (i : Int) := ⟨_, rfl⟩
   rw [← ht] at hx
   have HTD := Aside0.mk ht
   have HMEM := Aside0.mk (show t ∈ xs by rw [ht]; exact rd_mem HIL.out)
   clear ht
   have f1 : i < xs.length := HIL.out
   have f2 : decide ((i : Int) < (xs.length : Int)) = true := decide_eq_true (by omega)
   have f3 : 0 ≤ (i : Int) := Int.natCast_nonneg i
   by_cases q : x = t
   ·have HXT := Aside0.mk (show x ∈ xs by rw [q]; exact HMEM.out)
    have f4 : (x == t) = true := beq_iff_eq.2 q
    clear q
    go_wp2_with fail
    go_ret
    exact ⟨_, rfl, by rw [decide_eq_true HXT.out]; exact decide_eq_true (Int.natCast_nonneg i), rfl⟩
   ·have f4 : (x == t) = false := beq_eq_false_iff_ne.2 q
    have HNE := Aside0.mk q
    clear q
    go_wp2_with fail
    go_roundg (gk - 1)
    case measure => have := HQ.out; omega
    case rel =>
     refine ⟨i + 1, by rw [show wrap64 ((i : Int) + 1) = ((i + 1 : Nat) : Int) by have := HIL.out; have := HL.out; unfold wrap64; omega], rfl, ⟨by have := HK.out; have := HQ.out; omega⟩, ⟨fun y hy => ?_⟩⟩
     rw [take_one HIL.out, ← HTD.out] at hy
     rcases List.mem_append.1 hy with hy | hy
     ·exact HALL.out y hy
     ·rw [List.mem_singleton.1 hy]; exact fun e => HNE.out e.symm
theorem contains54 (W : World) (A : Option Addr) (c : Nat) (xs : List Int) (x : Int) (hC : Kd.C (Kd.int .i64) W A xs.length xs) (hl : xs.length < 1000000) :
  Calls Try.prog 54 #[.slice A xs.length c, .int .i64 x] W fun e w' => e = .returned (.bool (decide (x ∈ xs))) ∧ w' = W := by
 have HI := Aside0.mk (index80 W A c xs x hC hl)
 clear hC hl
 obtain ⟨b, hb⟩ : ∃ b, b = decide (x ∈ xs) := ⟨_, rfl⟩
 rw [← hb] at HI
 rw [← hb]
 clear hb
 go_enter Try.func54, Try.ntmps54
 go_wp2_with (go_at_call 80; refine HI.out.mono ?_; rintro e W2 ⟨r, rfl, he, rfl⟩; have HE := Aside0.mk he; clear he)
 go_ret
 rw [← HE.out]
 exact ⟨rfl, rfl⟩
def endP (nl : Bool) (last : List Int) (i : Int) : Bool := (decide (i = 0) && nl) || decide (i ∈ last)
def endR (nl : Bool) (last at_ : List Int) : Bool := at_.any (endP nl last)
set_option maxHeartbeats 8000000 in
set_option maxRecDepth 100000 in
theorem ends53 (nl : Bool) (last : List Int) (i : Int) (AB : Nat) (A3 : Option Addr) (c3 : Nat) (W : World) (h0 : W.cell? ⟨AB, 0, none⟩ = some (.bool nl)) (h3 : W.cell? ⟨AB, 3, none⟩ = some (.slice A3 last.length c3)) (hC : Kd.C (Kd.int .i64) W A3 last.length last) (hl : last.length < 1000000) :
  Calls Try.prog 53 #[.int .i64 i, .pointer (some ⟨AB, 0, none⟩)] W fun e w' => e = .returned (.bool (endP nl last i)) ∧ Below W.heap.size W w' := by
 have HC := Aside0.mk (contains54 W A3 c3 last i hC hl)
 clear hC hl
 unfold endP
 obtain ⟨b, hb⟩ : ∃ b, b = decide (i ∈ last) := ⟨_, rfl⟩
 rw [← hb] at HC
 rw [← hb]
 clear hb
 by_cases q : i = 0
 ·subst q
  cases nl with
  | true =>
   go_enter Try.func53, Try.ntmps53
   go_wp2_with fail
   go_ret
   exact ⟨rfl, Below.refl _ _⟩
  | false =>
   go_enter Try.func53, Try.ntmps53
   go_wp2_with (go_at_call 54; refine HC.out.mono ?_; rintro e W2 ⟨rfl, rfl⟩)
   go_ret
   exact ⟨by simp, Below.refl _ _⟩
 ·have f1 : (i == 0) = false := beq_eq_false_iff_ne.2 q
  have HQ := Aside0.mk q
  clear q
  go_enter Try.func53, Try.ntmps53
  go_wp2_with (go_at_call 54; refine HC.out.mono ?_; rintro e W2 ⟨rfl, rfl⟩)
  go_ret
  exact ⟨by rw [decide_eq_false HQ.out]; simp, Below.refl _ _⟩

/-- What is asked of the closure: it tells p, wherever what lies below b0 is as it was. -/
def Tells53 (b0 : Nat) (W : World) (lb1 : Value) (xs : List Int) (p : Int → Bool) : Prop := ∀ (w : World) (t : Int), t ∈ xs → Below b0 W w → Calls Try.prog 53 #[.int .i64 t, lb1] w fun e w' => e = .returned (.bool (p t)) ∧ Below w.heap.size w w'
set_option maxHeartbeats 16000000 in
set_option maxRecDepth 100000 in
theorem eindex_calls {b0 : Nat} (W : World) (A : Option Addr) (c : Nat) (xs : List Int) (p : Int → Bool) (lb1 : Value) (hC : Kd.C (Kd.int .i64) W A xs.length xs) (hT : Tells53 b0 W lb1 xs p) (hb0 : b0 ≤ W.heap.size) (hl : xs.length < 1000000) :
  Calls Try.prog 81 #[.slice A xs.length c, .func (.func 53) #[] #[lb1]] W fun e w' => Below W.heap.size W w' ∧ ((e = .returned (.int .i64 (-1)) ∧ ∀ t ∈ xs, p t = false) ∨ ∃ i : Nat, i < xs.length ∧ e = .returned (.int .i64 (i : Int)) ∧ p (rd xs (i : Int)) = true ∧ ∀ t ∈ xs.take i, p t = false) := by
 have eg : ∀ args w, (callFunc 53 args).run Try.prog w = .ok (.enter 53 args) w := enters_of Try.func53 (by kernel_rfl) rfl
 have HC := Aside0.mk hC
 have HT := Aside0.mk hT
 have HB0 := Aside0.mk hb0
 have HL := Aside0.mk hl
 clear hC hT hb0 hl
 go_enter Try.func81, Try.ntmps81
 go_wp2
 go_loopg [8] xs.length (fun kq v8 w' => ∃ i : Nat, v8 = .int .i64 (i : Int) ∧ Aside0 (i + kq = xs.length) ∧ Aside0 (∀ t ∈ xs.take i, p t = false) ∧ Aside0 (Below W.heap.size W w'))
 case atStart => exact ⟨0, rfl, ⟨Nat.zero_add _⟩, ⟨fun y hy => by cases hy⟩, ⟨Below.refl _ _⟩⟩
 case round =>
  obtain ⟨i, rfl, HK, HALL, HB2⟩ := hrel
  by_cases q0 : gk = 0
  ·have f1 : ¬ i < xs.length := by have := HK.out; omega
   have f2 : decide ((i : Int) < (xs.length : Int)) = false := decide_eq_false (by omega)
   have HE := Aside0.mk (show ∀ t ∈ xs, p t = false by
    have h := HALL.out
    rw [List.take_of_length_le (by omega)] at h
    exact h)
   clear q0
   go_wp2_with fail
   go_ret
   exact ⟨HB2.out, .inl ⟨rfl, HE.out⟩⟩
  ·have HQ := Aside0.mk q0
   clear q0
   have HIL := Aside0.mk (show i < xs.length by have := HK.out; have := HQ.out; omega)
   obtain ⟨ad, eA, hx⟩ := Kd.at_int (Kd.C_below HC.out HB2.out) (i : Int) (Int.natCast_nonneg i) (by have := HIL.out; omega)
   rw [Int.toNat_natCast] at hx
   subst eA
   obtain ⟨t, ht⟩ : ∃ t, t = rd xs (i : Int) := ⟨_, rfl⟩
   rw [← ht] at hx
   have HTD := Aside0.mk ht
   have HMEM := Aside0.mk (show t ∈ xs by rw [ht]; exact rd_mem HIL.out)
   clear ht
   have HCL := Aside0.mk (HT.out wr t HMEM.out (HB2.out.mono HB0.out))
   have f1 : i < xs.length := HIL.out
   have f2 : decide ((i : Int) < (xs.length : Int)) = true := decide_eq_true (by omega)
   have f3 : 0 ≤ (i : Int) := Int.natCast_nonneg i
   go_wp2_with fail
   refine HCL.out.mono ?_
   rintro e W2 ⟨rfl, hb2⟩
   have HB3 := Aside0.mk (HB2.out.trans (hb2.mono HB2.out.size))
   clear hb2 hx
   cases hb : p t
   case true =>
    have HPT := Aside0.mk hb
    clear hb
    go_wp2_with fail
    go_ret
    exact ⟨HB3.out, .inr ⟨i, HIL.out, rfl, by rw [← HTD.out]; exact HPT.out, HALL.out⟩⟩
   case false =>
    have HPT := Aside0.mk hb
    clear hb
    go_wp2_with fail
    go_roundg (gk - 1)
    case measure => have := HQ.out; omega
    case rel =>
     refine ⟨i + 1, by rw [show wrap64 ((i : Int) + 1) = ((i + 1 : Nat) : Int) by have := HIL.out; have := HL.out; unfold wrap64; omega], ⟨by have := HK.out; have := HQ.out; omega⟩, ⟨fun y hy => ?_⟩, HB3⟩
     rw [take_one HIL.out, ← HTD.out] at hy
     rcases List.mem_append.1 hy with hy | hy
     ·exact HALL.out y hy
     ·rw [List.mem_singleton.1 hy]; exact HPT.out

theorem econt_calls {b0 : Nat} (W : World) (A : Option Addr) (c : Nat) (xs : List Int) (p : Int → Bool) (lb1 : Value) (hC : Kd.C (Kd.int .i64) W A xs.length xs) (hT : Tells53 b0 W lb1 xs p) (hb0 : b0 ≤ W.heap.size) (hl : xs.length < 1000000) :
  Calls Try.prog 55 #[.slice A xs.length c, .func (.func 53) #[] #[lb1]] W fun e w' => e = .returned (.bool (xs.any p)) ∧ Below W.heap.size W w' := by
 have HI := Aside0.mk (eindex_calls W A c xs p lb1 hC hT hb0 hl)
 clear hC hT hb0 hl
 go_enter Try.func55, Try.ntmps55
 go_wp2_with (go_at_call 81; refine HI.out.mono ?_; rintro e W2 ⟨hb, he⟩; have HB := Aside0.mk hb; have HE := Aside0.mk he; clear hb he; obtain ⟨r, hr, hany⟩ : ∃ r : Int, e = .returned (.int .i64 r) ∧ decide (r ≥ 0) = xs.any p := (by
  rcases HE.out with ⟨rfl, hall⟩ | ⟨i, hi, rfl, hp, _⟩
  ·exact ⟨_, rfl, by rw [List.any_eq_false.2 (fun t ht => by rw [hall t ht]; simp)]; rfl⟩
  ·exact ⟨_, rfl, by rw [List.any_eq_true.2 ⟨_, rd_mem hi, hp⟩]; exact decide_eq_true (Int.natCast_nonneg i)⟩); have HAN := Aside0.mk hany; clear HE hany; subst hr)
 go_ret
 rw [← HAN.out]
 exact ⟨rfl, HB.out⟩
set_option maxHeartbeats 8000000 in
set_option maxRecDepth 100000 in
theorem end_calls (nl : Bool) (A1 : Option Addr) (c1 : Nat) (sets : List Int) (A2 : Option Addr) (c2 : Nat) (first : List Int) (A3 : Option Addr) (c3 : Nat) (last : List Int) (A4 : Option Addr) (c4 : Nat) (fol : List (List Int)) (A : Option Addr) (c : Nat) (at_ : List Int) (W : World) (h3 : Kd.C (Kd.int .i64) W A3 last.length last) (ha : Kd.C (Kd.int .i64) W A at_.length at_) (hl : last.length < 1000000) (hal : at_.length < 1000000) :
  Calls Try.prog 26 #[.agg #[.bool nl, .slice A1 sets.length c1, .slice A2 first.length c2, .slice A3 last.length c3, .slice A4 fol.length c4], .slice A at_.length c] W fun e w' => e = .returned (.bool (endR nl last at_)) ∧ Below W.heap.size W w' := by
 have hbn := below_alloc (Below.refl W.heap.size W) (.cells #[.bool nl, .slice A1 sets.length c1, .slice A2 first.length c2, .slice A3 last.length c3, .slice A4 fol.length c4] 30)
 have HAB := Aside0.mk (blk_new W (.cells #[.bool nl, .slice A1 sets.length c1, .slice A2 first.length c2, .slice A3 last.length c3, .slice A4 fol.length c4] 30))
 have HB := Aside0.mk hbn
 have HT := Aside0.mk (show Tells53 (W.alloc (.cells #[.bool nl, .slice A1 sets.length c1, .slice A2 first.length c2, .slice A3 last.length c3, .slice A4 fol.length c4] 30)).heap.size (W.alloc (.cells #[.bool nl, .slice A1 sets.length c1, .slice A2 first.length c2, .slice A3 last.length c3, .slice A4 fol.length c4] 30)) (.pointer (some ⟨W.heap.size, 0, none⟩)) at_ (endP nl last) from fun w t ht hbw => by
  have hA2 := blk_below HAB.out hbw
  exact ends53 nl last t W.heap.size A3 c3 w ((blk_cell hA2 0).trans rfl) ((blk_cell hA2 3).trans rfl) (Kd.C_below h3 (hbn.trans (hbw.mono hbn.size))) hl)
 have HC := Aside0.mk (econt_calls (W.alloc (.cells #[.bool nl, .slice A1 sets.length c1, .slice A2 first.length c2, .slice A3 last.length c3, .slice A4 fol.length c4] 30)) A c at_ (endP nl last) (.pointer (some ⟨W.heap.size, 0, none⟩)) (Kd.C_below ha hbn) HT.out (Nat.le_refl _) hal)
 clear h3 ha hl hal hbn HT
 go_enter Try.func26, Try.ntmps26
 go_wp2_with (go_at_call 55; refine HC.out.mono ?_; rintro e W2 ⟨rfl, hb2⟩; have HB2 := Aside0.mk (HB.out.trans (hb2.mono HB.out.size)); clear hb2)
 go_ret
 exact ⟨rfl, HB2.out⟩
def follow_End.f (a0_0 : Bool) (l0_1 l0_2 l0_3 : List Int) (l0_4 : List (List Int)) (l1 : List Int) : Option Bool := if l0_3.length < 1000000 ∧ l1.length < 1000000 then some (endR a0_0 l0_3 l1) else none
theorem follow_End.calls (a0_0 : Bool) (A0_1 : Option Addr) (c0_1 : Nat) (l0_1 : List Int) (A0_2 : Option Addr) (c0_2 : Nat) (l0_2 : List Int) (A0_3 : Option Addr) (c0_3 : Nat) (l0_3 : List Int) (A0_4 : Option Addr) (c0_4 : Nat) (l0_4 : List (List Int)) (A1 : Option Addr) (c1 : Nat) (l1 : List Int) (r : Bool) (w : World) (hr0_1 : Kd.C (Kd.int .i64) w A0_1 l0_1.length l0_1) (hc0_1 : l0_1.length ≤ c0_1) (hr0_2 : Kd.C (Kd.int .i64) w A0_2 l0_2.length l0_2) (hc0_2 : l0_2.length ≤ c0_2) (hr0_3 : Kd.C (Kd.int .i64) w A0_3 l0_3.length l0_3) (hc0_3 : l0_3.length ≤ c0_3) (hr0_4 : Kd.C (Kd.slice 3 (Kd.int .i64)) w A0_4 l0_4.length l0_4) (hc0_4 : l0_4.length ≤ c0_4) (hr1 : Kd.C (Kd.int .i64) w A1 l1.length l1) (hc1 : l1.length ≤ c1) (h : follow_End.f a0_0 l0_1 l0_2 l0_3 l0_4 l1 = some r) :
  Calls Try.prog 26 #[.agg #[.bool a0_0, .slice A0_1 l0_1.length c0_1, .slice A0_2 l0_2.length c0_2, .slice A0_3 l0_3.length c0_3, .slice A0_4 l0_4.length c0_4], .slice A1 l1.length c1] w fun e w' => e = .returned (.bool r) ∧ Below w.heap.size w w' := by
 unfold follow_End.f at h
 split at h
 next hok =>
  rw [← Option.some.inj h]
  exact end_calls a0_0 A0_1 c0_1 l0_1 A0_2 c0_2 l0_2 A0_3 c0_3 l0_3 A0_4 c0_4 l0_4 A1 c1 l1 w hr0_3 hr1 hok.1 hok.2
 next => cases h
end Go.Proofs.Ytemlgmkbonpniaa.Print
