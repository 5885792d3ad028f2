/- slices.Grow, slices.Concat in memory. · follow's with: sorted, compacted, it is bothR. -/
import Derived.Test.YtemlgmkbonpniaaRBothM
import Derived.Test.YtemlgmkbonpniaaWithP
import Derived.Test.YtemlgmkbonpniaaShelf
import Derived.Sort.OwnSortedInts
import Derived.Lib.RowBridge
namespace Go.Proofs.Ytemlgmkbonpniaa.Print
open Go.RowKit Go.Maps Go.Proofs.YtemlgmkbonpniaaW.PrintWords Go.Proofs.YtemlgmkbonpniaaW.PrintLast Go.Proofs.YtemlgmkbonpniaaW.PrintMore
set_option linter.unusedVariables false
set_option linter.unusedSimpArgs false
theorem R_cut0 {W : World} {base : Nat} {ok : Nat → Prop} {A : Option Addr} {n c : Nat} {xs : List Int} (h : Kd.R (Kd.int .i64) 3 W base ok (.slice A n c) xs) : Kd.R (Kd.int .i64) 3 W base ok (.slice A 0 c) [] := by
 have ho := Kd.own_of_R h
 obtain ⟨hlen, hv⟩ := ho
 rcases hv with ⟨e, hn2⟩ | ⟨g, cap, cur, e, hg, hb, h1, h2, h3, h4⟩
 ·cases e
  exact Kd.R_nil _ _ _ _ _
 ·cases e
  exact Kd.R_of_own (h1 := fun _ => rfl) (enc := Value.int .i64) (ok := ok) (xs := []) ⟨rfl, .inr ⟨g, c, cur, rfl, hg, hb, Nat.zero_le _, h2, h3, rfl⟩⟩ h.1

/-- Rows that are read: their places lie side by side. -/
structure RowsC (W : World) (X : Nat) (rows : List (List Int)) : Prop where
 lt : X < W.heap.size
 row : ∀ i, i < rows.length → ∃ A c, W.cell? ⟨X, i, none⟩ = some (.slice A (rows.getD i []).length c) ∧ Kd.C (Kd.int .i64) W A (rows.getD i []).length (rows.getD i []) ∧ (rows.getD i []).length ≤ c
theorem RowsC.later {W W' : World} {X : Nat} {rows : List (List Int)} (h : RowsC W X rows) (hb : Below W.heap.size W W') : RowsC W' X rows :=
 ⟨Nat.lt_of_lt_of_le h.lt hb.size, fun i hi => by
  obtain ⟨A, c, h1, h2, h3⟩ := h.row i hi
  exact ⟨A, c, (hb.cell (p := ⟨X, i, none⟩) h.lt).trans h1, Kd.C_below h2 hb, h3⟩⟩
def sumL (rows : List (List Int)) (i : Nat) : Nat := (rows.take i).flatten.length
theorem sumL_flat (rows : List (List Int)) {i : Nat} (h : i < rows.length) : (rows.take (i + 1)).flatten = (rows.take i).flatten ++ rows.getD i [] := by
 rw [List.take_succ_eq_append_getElem h, List.flatten_append, List.getD_eq_getElem?_getD, List.getElem?_eq_getElem h]
 simp
theorem sumL_step (rows : List (List Int)) {i : Nat} (h : i < rows.length) : sumL rows (i + 1) = sumL rows i + (rows.getD i []).length := by
 unfold sumL
 rw [sumL_flat rows h, List.length_append]
theorem sumL_le (rows : List (List Int)) (i : Nat) : sumL rows i ≤ rows.flatten.length := by
 unfold sumL
 have h : rows.flatten = (rows.take i).flatten ++ (rows.drop i).flatten := by rw [← List.flatten_append, List.take_append_drop]
 rw [h, List.length_append]
 omega

set_option maxHeartbeats 4000000 in
set_option maxRecDepth 100000 in
theorem growF_calls (n : Nat) (W : World) (hn : n < 1000000) :
  Calls Try.prog 94 #[.slice none 0 0, .int .i64 (n : Int)] W fun e w' => ∃ A c, e = .returned (.slice A 0 c) ∧ Kd.R (Kd.int .i64) 3 w' W.heap.size (fun _ => True) (.slice A 0 c) [] ∧ Below W.heap.size W w' := by
 have HN := Aside0.mk hn
 have f0 : decide ((n : Int) < 0) = false := decide_eq_false (by omega)
 have f00 : ¬ (n : Int) < 0 := by omega
 have hw : wrap64 ((n : Int)) = (n : Int) := by unfold wrap64; omega
 by_cases q : n = 0
 ·subst q
  clear hn
  go_enter Try.func94, Try.ntmps94
  go_wp2_with fail
  go_ret
  exact ⟨none, 0, rfl, Kd.R_nil _ _ _ _ _, Below.refl _ _⟩
 ·have f1 : decide ((n : Int) > 0) = true := decide_eq_true (by omega)
  have f2 : decide (0 < (n : Int)) = true := decide_eq_true (by omega)
  have f3 : 0 < (n : Int) := by omega
  have f4 : 0 < n := by omega
  clear q hn
  go_enter Try.func94, Try.ntmps94
  go_upto_region 5 with fail
  rw [hw]
  go_wp2_with (((with_reducible refine gate_builtin (b := .append) (xs := #[.tmp 20, .tmp 21]) rfl ?_); at_builtin; refine Kd.R_append_zeros (Kd.int .i64) (w0 := W) W.heap.size rfl (.tmp 20) (.tmp 21) 67 3 3 (.int .i64 0) 8 rfl Try.underlying67 Try.underlying3 info3 rfl (by decide) (by omega) (.slice none 0 0) [] 0 (n : Int) (fun _ => True) rfl rfl rfl (fun _ _ => trivial) (Kd.R_nil _ _ _ _ _) (Int.natCast_nonneg _) (Below.refl _ _) (Nat.le_refl _) ?aL ?_; (case aL => have := HN.out; simp; omega); intro v1 w1 ho hb hg hat; clear hg hat; obtain ⟨A1, c1, rfl⟩ := Kd.R_slice ho; have HO := Aside0.mk ho; have HB := Aside0.mk hb; clear ho hb))
  go_ret
  exact ⟨A1, c1, rfl, R_cut0 HO.out, HB.out⟩

set_option maxHeartbeats 16000000 in
set_option maxRecDepth 100000 in
theorem concatF_calls (X k cp : Nat) (rows : List (List Int)) (hk : k = rows.length) (W : World) (hX : RowsC W X rows) (hk9 : rows.length < 1000000) (hn : rows.flatten.length < 1000000) :
  Calls Try.prog 83 #[.slice (some ⟨X, 0, none⟩) k cp] W fun e w' => ∃ A c, e = .returned (.slice A rows.flatten.length c) ∧ Kd.R (Kd.int .i64) 3 w' W.heap.size (fun _ => True) (.slice A rows.flatten.length c) rows.flatten ∧ Below W.heap.size W w' := by
 subst hk
 have HX := Aside0.mk hX
 have HN := Aside0.mk hn
 have HK9 := Aside0.mk hk9
 clear hX hn hk9
 go_enter Try.func83, Try.ntmps83
 go_wp2
 go_loopg [3, 11] rows.length (fun kq v3 v11 w' => ∃ i : Nat, v3 = .int .i64 ((sumL rows i : Nat) : Int) ∧ v11 = .int .i64 (i : Int) ∧ W = w' ∧ Aside0 (i + kq = rows.length))
 case atStart => exact ⟨0, rfl, rfl, rfl, ⟨Nat.zero_add _⟩⟩
 case round =>
  obtain ⟨i, rfl, rfl, rfl, HI⟩ := hrel
  by_cases q : gk = 0
  ·have f1 : ¬ i < rows.length := by have := HI.out; omega
   have f2 : decide ((i : Int) < (rows.length : Int)) = false := decide_eq_false (by omega)
   have HE := Aside0.mk (show sumL rows i = rows.flatten.length by unfold sumL; rw [List.take_of_length_le (by have := HI.out; omega)])
   clear q
   obtain ⟨m, hm⟩ : ∃ m, m = sumL rows i := ⟨_, rfl⟩
   rw [← hm] at HE
   rw [← hm]
   clear hm
   go_upto_region 10 with (go_at_call 94; refine (growF_calls m W (by have := HE.out; have := HN.out; omega)).mono ?_; rintro e w' ⟨A1, c1, rfl, ho1, hb1⟩; have HO1 := Aside0.mk ho1; have HB1 := Aside0.mk hb1; clear ho1 hb1)
   go_wp2_with fail
   clear f1 f2
   have HXI := Aside0.mk (HI.out)
   clear HI
   go_loopg [6, 27] rows.length (fun kq v6 v27 w1 => ∃ (j : Nat) (A2 : Option Addr) (c2 : Nat), v6 = .slice A2 (rows.take j).flatten.length c2 ∧ v27 = .int .i64 (j : Int) ∧ Aside0 (j + kq = rows.length) ∧ Aside0 (Below W.heap.size W w1) ∧ Aside0 (Kd.R (Kd.int .i64) 3 w1 W.heap.size (fun _ => True) (.slice A2 (rows.take j).flatten.length c2) (rows.take j).flatten))
   case atStart => exact ⟨0, A1, c1, rfl, rfl, ⟨Nat.zero_add _⟩, HB1, HO1⟩
   case round =>
    obtain ⟨j, A2, c2, rfl, rfl, HJ, HB2, HO2⟩ := hrel
    clear HB1 HO1
    by_cases q : gk = 0
    ·have f1 : ¬ j < rows.length := by have := HJ.out; omega
     have f2 : decide ((j : Int) < (rows.length : Int)) = false := decide_eq_false (by omega)
     have HE2 := Aside0.mk (show rows.take j = rows from List.take_of_length_le (by omega))
     clear q
     go_wp2_with fail
     go_ret
     have h1 := HO2.out
     rw [HE2.out] at h1 ⊢
     exact ⟨A2, c2, rfl, h1, HB2.out⟩
    ·have HIL := Aside0.mk (show j < rows.length by have := HJ.out; omega)
     have HQ := Aside0.mk q
     clear q
     obtain ⟨A3, c3, hx1, hr1, hc1⟩ := (HX.out.later HB2.out).row j HIL.out
     obtain ⟨r, hr⟩ : ∃ r, r = rows.getD j [] := ⟨_, rfl⟩
     rw [← hr] at hx1 hr1
     have HFL := Aside0.mk (show (rows.take (j + 1)).flatten = (rows.take j).flatten ++ r by rw [hr]; exact sumL_flat rows HIL.out)
     have HLE := Aside0.mk (show (rows.take j).flatten.length + r.length < 1000000 by
      have h1 := sumL_le rows (j + 1)
      unfold sumL at h1
      rw [HFL.out, List.length_append] at h1
      have := HN.out
      omega)
     have HRR := Aside0.mk hr1
     clear hr hr1 hc1
     obtain ⟨xs, hxs⟩ : ∃ x, x = (rows.take j).flatten := ⟨_, rfl⟩
     rw [← hxs] at HO2 HFL HLE
     rw [← hxs]
     clear hxs
     have f1 : j < rows.length := HIL.out
     have f2 : decide ((j : Int) < (rows.length : Int)) = true := decide_eq_true (by omega)
     have HW2 := Aside0.mk (show wrap64 ((j : Int) + 1) = ((j + 1 : Nat) : Int) by have := HIL.out; have := HK9.out; unfold wrap64; omega)
     have f5 : (0 : Int) ≤ (j : Int) := Int.natCast_nonneg j
     go_wp2_with (((with_reducible refine gate_builtin (b := .append) (xs := #[.tmp 31, .tmp 32]) rfl ?_); at_builtin; refine Kd.R_append_rows (Kd.int .i64) (w0 := W) W.heap.size rfl (.tmp 31) (.tmp 32) 67 3 (.int .i64 0) 8 rfl Try.underlying67 info3 rfl (by decide) (by omega) (.slice A2 xs.length c2) xs r _ _ _ (fun _ => True) (fun _ => False) rfl rfl HO2.out ?aR (fun _ _ h => h) (fun _ h => h.elim) (fun _ _ => trivial) HB2.out HB2.out.size ?aL ?_; (case aR => exact HRR.out); (case aL => have := HLE.out; omega); intro v1 w1 ho hb hg hat; clear hg hat; obtain ⟨A4, c4, rfl⟩ := Kd.R_slice ho; have HO4 := Aside0.mk ho; have HB4 := Aside0.mk hb; clear ho hb))
     go_roundg (gk - 1)
     case measure => have := HQ.out; omega
     case rel => exact ⟨j + 1, A4, c4, by rw [HFL.out, List.length_append], by rw [← HW2.out], ⟨by have := HJ.out; have := HQ.out; omega⟩, HB4, ⟨by rw [HFL.out]; exact HO4.out⟩⟩
  ·have HIL := Aside0.mk (show i < rows.length by have := HI.out; omega)
   have HQ := Aside0.mk q
   clear q
   obtain ⟨A1, c1, hx1, hr1, hc1⟩ := HX.out.row i HIL.out
   obtain ⟨r, hr⟩ : ∃ r, r = rows.getD i [] := ⟨_, rfl⟩
   rw [← hr] at hx1
   have HST := Aside0.mk (show sumL rows (i + 1) = sumL rows i + r.length by rw [hr]; exact sumL_step rows HIL.out)
   have HLE := Aside0.mk (sumL_le rows (i + 1))
   clear hr hr1 hc1
   obtain ⟨m, hm⟩ : ∃ m, m = sumL rows (i + 1) := ⟨_, rfl⟩
   rw [← hm] at HST HLE
   have HM := Aside0.mk hm
   clear hm
   have f1 : i < rows.length := HIL.out
   have f2 : decide ((i : Int) < (rows.length : Int)) = true := decide_eq_true (by omega)
   have f3 : decide ((m : Int) < 0) = false := decide_eq_false (by omega)
   have f4 : ¬ (m : Int) < 0 := by omega
   have HW1 := Aside0.mk (show wrap64 ((sumL rows i : Int) + (r.length : Int)) = (m : Int) by have := HST.out; have := HLE.out; have := HN.out; unfold wrap64; omega)
   have HW2 := Aside0.mk (show wrap64 ((i : Int) + 1) = ((i + 1 : Nat) : Int) by have := HIL.out; have := HK9.out; unfold wrap64; omega)
   have hw1 := HW1.out
   have f5 : (0 : Int) ≤ (i : Int) := Int.natCast_nonneg i
   go_wp2_with fail
   go_roundg (gk - 1)
   case measure => have := HQ.out; omega
   case rel => exact ⟨i + 1, by rw [← HM.out], by rw [← HW2.out], rfl, ⟨by have := HI.out; have := HQ.out; omega⟩⟩
end Go.Proofs.Ytemlgmkbonpniaa.Print

namespace Go.Proofs.Ytemlgmkbonpniaa.Print
open Go.RowKit Go.Maps Go.Sort Go.Proofs.YtemlgmkbonpniaaW.PrintWords Go.Proofs.YtemlgmkbonpniaaW.PrintLast Go.Proofs.YtemlgmkbonpniaaW.PrintMore
set_option linter.unusedVariables false
set_option linter.unusedSimpArgs false
theorem sortI_len (xs : List Int) : (sortI xs).length = xs.length := (sortI_perm xs).length_eq
theorem compact_len (zs : List Int) : (Lib.compact zs).length ≤ zs.length := Lib.compact_length_le zs
theorem own_form {W : World} {base : Nat} {ok : Nat → Prop} {v : Value} {xs : List Int} (h : Kd.R (Kd.int .i64) 3 W base ok v xs) (hn : xs ≠ []) : ∃ g cap cur, v = .slice (some ⟨g, 0, none⟩) xs.length cap ∧ base ≤ g ∧ W.heap[g]? = some (.cells cur 3 (0, 0)) ∧ xs.length ≤ cap ∧ cap ≤ maxLen ∧ cur.size = cap * 1 ∧ cur.toList.take xs.length = xs.map (Value.int .i64) := by
 have ho := Kd.own_of_R h
 obtain ⟨hlen, hv⟩ := ho
 rcases hv with ⟨_, hn2⟩ | ⟨g, cap, cur, rfl, hg, hb, h1, h2, h3, h4⟩
 ·exact absurd (List.length_eq_zero_iff.1 hn2) hn
 ·rw [Nat.mul_one] at h4
  exact ⟨g, cap, cur, rfl, hg, hb, h1, h2, h3, h4⟩
theorem grow_none (w : World) : grow w #[] = w := by unfold grow; simp
theorem grownBy_refl (w : World) (o : Option Nat) : w.grownBy w o := ⟨rfl, rfl, rfl, Nat.le_refl _, fun _ _ _ => rfl⟩
theorem fsort_calls (W : World) (base : Nat) (ok : Nat → Prop) (v : Value) (xs : List Int) (h : Kd.R (Kd.int .i64) 3 W base ok v xs) (hl : xs.length < 4611686018427387904) :
  Calls Try.prog 84 #[v] W fun e w' => e = .returned (.tuple #[]) ∧ Kd.R (Kd.int .i64) 3 w' base ok v (sortI xs) ∧ W.grownBy w' v.ownBlock := by
 by_cases hn : xs = []
 ·subst hn
  obtain ⟨A, c, rfl⟩ := Kd.R_slice h
  refine (Try.F_Sort_none A c W).mono ?_
  rintro e w' ⟨rfl, rfl⟩
  refine ⟨rfl, ?_, grownBy_refl _ _⟩
  rw [show sortI [] = [] from List.length_eq_zero_iff.1 (sortI_len [])]
  exact h
 ·obtain ⟨g, cap, cur, rfl, hg, hb, h1, h2, h3, h4⟩ := own_form h hn
  refine (Try.F_Sort g 0 cap xs W (holds_of_blockI hb h4) (blk_lt hb) hl).mono ?_
  rintro e w' ⟨rfl, n, os, rfl⟩
  have hsz := sortI_len xs
  have ho2 := ownsRow_sortedI (n := n) (os := os) (w := W) (base := base) hsz hg hb h1 h2 h3
  refine ⟨rfl, ?_, grownBy_sortedI _⟩
  have := Kd.R_of_own (h1 := fun _ => rfl) (enc := Value.int .i64) (ok := ok) (xs := sortI xs) (by rw [hsz]; exact ho2) h.1
  exact this
theorem fcompact_calls (W : World) (base : Nat) (ok : Nat → Prop) (v : Value) (xs : List Int) (h : Kd.R (Kd.int .i64) 3 W base ok v xs) (hl : xs.length < 4611686018427387904) :
  Calls Try.prog 85 #[v] W fun e w' => ∃ v', e = .returned v' ∧ Kd.R (Kd.int .i64) 3 w' base ok v' (Lib.compact xs) ∧ W.grownBy w' v.ownBlock := by
 by_cases hn : xs = []
 ·subst hn
  obtain ⟨A, c, rfl⟩ := Kd.R_slice h
  refine (Try.F_Compact_empty A c W).mono ?_
  rintro e w' ⟨rfl, rfl⟩
  refine ⟨_, rfl, ?_, grownBy_refl _ _⟩
  rw [show Lib.compact [] = [] from List.length_eq_zero_iff.1 (Nat.le_zero.1 (compact_len []))]
  exact h
 ·obtain ⟨g, cap, cur, rfl, hg, hb, h1, h2, h3, h4⟩ := own_form h hn
  refine (Try.F_Compact g 0 cap xs W (holds_of_blockI hb h4) (by omega) h1).mono ?_
  rintro e w' ⟨rfl, q, rfl⟩
  have hcl := compact_len xs
  have hgr := grownBy_sortedI (w := W) (g := g) (n := q) (os := #[]) (Lib.compact xs ++ List.replicate (xs.length - (Lib.compact xs).length) 0).toArray
  have hbl := heap_sortedI (n := q) (os := #[]) (Lib.compact xs ++ List.replicate (xs.length - (Lib.compact xs).length) 0).toArray hb
  rw [grow_none] at hgr hbl
  refine ⟨_, rfl, ?_, hgr⟩
  have ht := take_putCellsI cur (Lib.compact xs ++ List.replicate (xs.length - (Lib.compact xs).length) 0) (by simp; omega)
  have hlen : (Lib.compact xs ++ List.replicate (xs.length - (Lib.compact xs).length) 0).length = xs.length := by simp; omega
  refine Kd.R_of_own (h1 := fun _ => rfl) (enc := Value.int .i64) (ok := ok) (xs := Lib.compact xs) ⟨by simp [encs], .inr ⟨g, cap, _, rfl, hg, hbl, by omega, h2, by simp [putCells, h3], ?_⟩⟩ h.1
  rw [Nat.mul_one]
  have h5 := congrArg (List.take (Lib.compact xs).length) ht
  rw [List.take_take, hlen, Nat.min_eq_left hcl, List.map_append, List.take_left' (by simp)] at h5
  exact h5
theorem rowsC_two {W : World} {X : Nat} {A B : Option Addr} {a b : List Int} {c d t : Nat} (hb : W.heap[X]? = some (.cells #[.slice A a.length c, .slice B b.length d] t (0, 0))) (hA : Kd.C (Kd.int .i64) W A a.length a) (hc : a.length ≤ c) (hB : Kd.C (Kd.int .i64) W B b.length b) (hd : b.length ≤ d) : RowsC W X [a, b] := by
 refine ⟨blk_lt hb, fun i hi => ?_⟩
 match i, hi with
 | 0, _ => exact ⟨A, c, (blk_cell hb 0).trans rfl, hA, hc⟩
 | 1, _ => exact ⟨B, d, (blk_cell hb 1).trans rfl, hB, hd⟩
 | i + 2, hi => simp only [List.length_cons, List.length_nil] at hi; omega

set_option maxHeartbeats 4000000 in
set_option maxRecDepth 100000 in
theorem fwith_calls (A : Option Addr) (c : Nat) (a : List Int) (B : Option Addr) (d : Nat) (b : List Int) (W : World) (hA : Kd.C (Kd.int .i64) W A a.length a) (hc : a.length ≤ c) (hB : Kd.C (Kd.int .i64) W B b.length b) (hd : b.length ≤ d) (hl : a.length + b.length < 1000000) :
  Calls Try.prog 59 #[.slice A a.length c, .slice B b.length d] W fun e w' => ∃ A' c', e = .returned (.slice A' (withR a b).length c') ∧ Below W.heap.size W w' ∧ Kd.R (Kd.int .i64) 3 w' W.heap.size (fun _ => True) (.slice A' (withR a b).length c') (withR a b) := by
 have HA := Aside0.mk hA
 have HCA := Aside0.mk hc
 have HB := Aside0.mk hB
 have HDB := Aside0.mk hd
 have HL := Aside0.mk hl
 clear hA hB hc hd hl
 go_enter Try.func59, Try.ntmps59
 have hbn := below_alloc (Below.refl W.heap.size W) (.cells #[.slice A a.length c, .slice B b.length d] 67)
 have HB1 := Aside0.mk hbn
 have HR1 := Aside0.mk (rowsC_two (blk_new W (.cells #[.slice A a.length c, .slice B b.length d] 67)) (Kd.C_below HA.out hbn) HCA.out (Kd.C_below HB.out hbn) HDB.out)
 have HSZ := Aside0.mk hbn.size
 clear hbn
 go_upto_region 2 with (go_at_call 83; refine (concatF_calls W.heap.size 2 2 [a, b] rfl _ HR1.out (by simp) (by have := HL.out; simp; omega)).mono ?_; rintro e w1 ⟨A1, c1, rfl, ho1, hb1⟩; have HO1 := Aside0.mk ho1; have HB2 := Aside0.mk (HB1.out.trans (hb1.mono HB1.out.size)); clear ho1 hb1)
 have HE := Aside0.mk (show [a, b].flatten = a ++ b by simp)
 rw [HE.out] at HO1
 rw [← List.length_append]
 have HO2 := Aside0.mk (Kd.R_lower HO1.out HSZ.out)
 clear HE HO1 HR1
 have HLL := Aside0.mk (show (a ++ b).length < 1000000 by have := HL.out; rw [List.length_append]; omega)
 obtain ⟨xs, hxs⟩ : ∃ x, x = a ++ b := ⟨_, rfl⟩
 rw [← hxs] at HO2 HLL
 rw [← hxs]
 have HXS := Aside0.mk hxs
 clear hxs
 go_upto_region 3 with (go_at_call 84; refine (fsort_calls w1 W.heap.size _ _ xs HO2.out (by have := HLL.out; omega)).mono ?_; rintro e w2 ⟨rfl, ho3, hg3⟩; have HO3 := Aside0.mk ho3; have HB3 := Aside0.mk (HB2.out.grown hg3 HB2.out.size (Kd.R_base HO2.out)); clear ho3 hg3)
 go_wp2_with (go_at_call 85; refine (fcompact_calls w2 W.heap.size _ _ (sortI xs) HO3.out (by rw [sortI_len]; have := HLL.out; omega)).mono ?_; rintro e w3 ⟨v', rfl, ho4, hg4⟩; have HO4 := Aside0.mk ho4; have HB4 := Aside0.mk (HB3.out.grown hg4 HB3.out.size (Kd.R_base HO3.out)); clear ho4 hg4)
 go_ret
 have h4 := HO4.out
 have e4 : Lib.compact (sortI xs) = withR a b := by rw [HXS.out]; rfl
 rw [e4] at h4
 obtain ⟨A4, c4, rfl⟩ := Kd.R_slice h4
 exact ⟨A4, c4, rfl, HB4.out, h4⟩
end Go.Proofs.Ytemlgmkbonpniaa.Print
