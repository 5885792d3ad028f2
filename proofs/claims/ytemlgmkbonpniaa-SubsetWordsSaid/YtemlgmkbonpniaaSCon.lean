/- slices.Grow, slices.Concat at []int. -/
import Derived.Test.YtemlgmkbonpniaaFWithM
namespace Go.Proofs.Ytemlgmkbonpniaa.Print
open Go.RowKit Go.Maps Go.Proofs.YtemlgmkbonpniaaW.PrintWords Go.Proofs.YtemlgmkbonpniaaW.PrintLast Go.Proofs.YtemlgmkbonpniaaW.PrintMore
set_option linter.unusedVariables false
set_option linter.unusedSimpArgs false

set_option maxHeartbeats 4000000 in
set_option maxRecDepth 100000 in
theorem growS_calls (n : Nat) (W : World) (hn : n < 1000000) :
  Calls Try.prog 86 #[.slice none 0 0, .int .i64 (n : Int)] W fun e w' => ∃ A c, e = .returned (.slice A 0 c) ∧ Kd.R (Kd.int .i64) 3 w' W.heap.size (fun _ => True) (.slice A 0 c) [] ∧ Below W.heap.size W w' := by
 have HN := Aside0.mk hn
 have f0 : decide ((n : Int) < 0) = false := decide_eq_false (by omega)
 have f00 : ¬ (n : Int) < 0 := by omega
 have hw : wrap64 ((n : Int)) = (n : Int) := by unfold wrap64; omega
 by_cases q : n = 0
 ·subst q
  clear hn
  go_enter Try.func86, Try.ntmps86
  go_wp2_with fail
  go_ret
  exact ⟨none, 0, rfl, Kd.R_nil _ _ _ _ _, Below.refl _ _⟩
 ·have f1 : decide ((n : Int) > 0) = true := decide_eq_true (by omega)
  have f2 : decide (0 < (n : Int)) = true := decide_eq_true (by omega)
  have f3 : 0 < (n : Int) := by omega
  have f4 : 0 < n := by omega
  clear q hn
  go_enter Try.func86, Try.ntmps86
  go_upto_region 5 with fail
  rw [hw]
  go_wp2_with (((with_reducible refine gate_builtin (b := .append) (xs := #[.tmp 20, .tmp 21]) rfl ?_); at_builtin; refine Kd.R_append_zeros (Kd.int .i64) (w0 := W) W.heap.size rfl (.tmp 20) (.tmp 21) 27 3 3 (.int .i64 0) 8 rfl Try.underlying27 Try.underlying3 info3 rfl (by decide) (by omega) (.slice none 0 0) [] 0 (n : Int) (fun _ => True) rfl rfl rfl (fun _ _ => trivial) (Kd.R_nil _ _ _ _ _) (Int.natCast_nonneg _) (Below.refl _ _) (Nat.le_refl _) ?aL ?_; (case aL => have := HN.out; simp; omega); intro v1 w1 ho hb hg hat; clear hg hat; obtain ⟨A1, c1, rfl⟩ := Kd.R_slice ho; have HO := Aside0.mk ho; have HB := Aside0.mk hb; clear ho hb))
  go_ret
  exact ⟨A1, c1, rfl, R_cut0 HO.out, HB.out⟩

set_option maxHeartbeats 16000000 in
set_option maxRecDepth 100000 in
theorem concatS_calls (X k cp : Nat) (rows : List (List Int)) (hk : k = rows.length) (W : World) (hX : RowsC W X rows) (hk9 : rows.length < 1000000) (hn : rows.flatten.length < 1000000) :
  Calls Try.prog 62 #[.slice (some ⟨X, 0, none⟩) k cp] W fun e w' => ∃ A c, e = .returned (.slice A rows.flatten.length c) ∧ Kd.R (Kd.int .i64) 3 w' W.heap.size (fun _ => True) (.slice A rows.flatten.length c) rows.flatten ∧ Below W.heap.size W w' := by
 subst hk
 have HX := Aside0.mk hX
 have HN := Aside0.mk hn
 have HK9 := Aside0.mk hk9
 clear hX hn hk9
 go_enter Try.func62, Try.ntmps62
 go_wp2
 go_loopg [3, 11] rows.length (fun kq v3 v11 w' => ∃ i : Nat, v3 = .int .i64 ((sumL rows i : Nat) : Int) ∧ v11 = .int .i64 (i : Int) ∧ W = w' ∧ Aside0 (i + kq = rows.length))
 case atStart => exact ⟨0, rfl, rfl, rfl, ⟨Nat.zero_add _⟩⟩
 case round =>
  obtain ⟨i, rfl, rfl, rfl, HI⟩ := hrel
  by_cases q : gk = 0
  ·have f1 : ¬ i < rows.length := by have := HI.out; omega
   have f2 : decide ((i : Int) < (rows.length : Int)) = false := decide_eq_false (by omega)
   have HE := Aside0.mk (show sumL rows i = rows.flatten.length by unfold sumL; rw [List.take_of_length_le (by have := HI.out; omega)])
   clear q
   obtain ⟨m, hm⟩ : ∃ m, m = sumL rows i := ⟨_, rfl⟩
   rw [← hm] at HE
   rw [← hm]
   clear hm
   go_upto_region 10 with (go_at_call 86; refine (growS_calls m W (by have := HE.out; have := HN.out; omega)).mono ?_; rintro e w' ⟨A1, c1, rfl, ho1, hb1⟩; have HO1 := Aside0.mk ho1; have HB1 := Aside0.mk hb1; clear ho1 hb1)
   go_wp2_with fail
   clear f1 f2
   have HXI := Aside0.mk (HI.out)
   clear HI
   go_loopg [6, 27] rows.length (fun kq v6 v27 w1 => ∃ (j : Nat) (A2 : Option Addr) (c2 : Nat), v6 = .slice A2 (rows.take j).flatten.length c2 ∧ v27 = .int .i64 (j : Int) ∧ Aside0 (j + kq = rows.length) ∧ Aside0 (Below W.heap.size W w1) ∧ Aside0 (Kd.R (Kd.int .i64) 3 w1 W.heap.size (fun _ => True) (.slice A2 (rows.take j).flatten.length c2) (rows.take j).flatten))
   case atStart => exact ⟨0, A1, c1, rfl, rfl, ⟨Nat.zero_add _⟩, HB1, HO1⟩
   case round =>
    obtain ⟨j, A2, c2, rfl, rfl, HJ, HB2, HO2⟩ := hrel
    clear HB1 HO1
    by_cases q : gk = 0
    ·have f1 : ¬ j < rows.length := by have := HJ.out; omega
     have f2 : decide ((j : Int) < (rows.length : Int)) = false := decide_eq_false (by omega)
     have HE2 := Aside0.mk (show rows.take j = rows from List.take_of_length_le (by omega))
     clear q
     go_wp2_with fail
     go_ret
     have h1 := HO2.out
     rw [HE2.out] at h1 ⊢
     exact ⟨A2, c2, rfl, h1, HB2.out⟩
    ·have HIL := Aside0.mk (show j < rows.length by have := HJ.out; omega)
     have HQ := Aside0.mk q
     clear q
     obtain ⟨A3, c3, hx1, hr1, hc1⟩ := (HX.out.later HB2.out).row j HIL.out
     obtain ⟨r, hr⟩ : ∃ r, r = rows.getD j [] := ⟨_, rfl⟩
     rw [← hr] at hx1 hr1
     have HFL := Aside0.mk (show (rows.take (j + 1)).flatten = (rows.take j).flatten ++ r by rw [hr]; exact sumL_flat rows HIL.out)
     have HLE := Aside0.mk (show (rows.take j).flatten.length + r.length < 1000000 by
      have h1 := sumL_le rows (j + 1)
      unfold sumL at h1
      rw [HFL.out, List.length_append] at h1
      have := HN.out
      omega)
     have HRR := Aside0.mk hr1
     clear hr hr1 hc1
     obtain ⟨xs, hxs⟩ : ∃ x, x = (rows.take j).flatten := ⟨_, rfl⟩
     rw [← hxs] at HO2 HFL HLE
     rw [← hxs]
     clear hxs
     have f1 : j < rows.length := HIL.out
     have f2 : decide ((j : Int) < (rows.length : Int)) = true := decide_eq_true (by omega)
     have HW2 := Aside0.mk (show wrap64 ((j : Int) + 1) = ((j + 1 : Nat) : Int) by have := HIL.out; have := HK9.out; unfold wrap64; omega)
     have f5 : (0 : Int) ≤ (j : Int) := Int.natCast_nonneg j
     go_wp2_with (((with_reducible refine gate_builtin (b := .append) (xs := #[.tmp 31, .tmp 32]) rfl ?_); at_builtin; refine Kd.R_append_rows (Kd.int .i64) (w0 := W) W.heap.size rfl (.tmp 31) (.tmp 32) 27 3 (.int .i64 0) 8 rfl Try.underlying27 info3 rfl (by decide) (by omega) (.slice A2 xs.length c2) xs r _ _ _ (fun _ => True) (fun _ => False) rfl rfl HO2.out ?aR (fun _ _ h => h) (fun _ h => h.elim) (fun _ _ => trivial) HB2.out HB2.out.size ?aL ?_; (case aR => exact HRR.out); (case aL => have := HLE.out; omega); intro v1 w1 ho hb hg hat; clear hg hat; obtain ⟨A4, c4, rfl⟩ := Kd.R_slice ho; have HO4 := Aside0.mk ho; have HB4 := Aside0.mk hb; clear ho hb))
     go_roundg (gk - 1)
     case measure => have := HQ.out; omega
     case rel => exact ⟨j + 1, A4, c4, by rw [HFL.out, List.length_append], by rw [← HW2.out], ⟨by have := HJ.out; have := HQ.out; omega⟩, HB4, ⟨by rw [HFL.out]; exact HO4.out⟩⟩
  ·have HIL := Aside0.mk (show i < rows.length by have := HI.out; omega)
   have HQ := Aside0.mk q
   clear q
   obtain ⟨A1, c1, hx1, hr1, hc1⟩ := HX.out.row i HIL.out
   obtain ⟨r, hr⟩ : ∃ r, r = rows.getD i [] := ⟨_, rfl⟩
   rw [← hr] at hx1
   have HST := Aside0.mk (show sumL rows (i + 1) = sumL rows i + r.length by rw [hr]; exact sumL_step rows HIL.out)
   have HLE := Aside0.mk (sumL_le rows (i + 1))
   clear hr hr1 hc1
   obtain ⟨m, hm⟩ : ∃ m, m = sumL rows (i + 1) := ⟨_, rfl⟩
   rw [← hm] at HST HLE
   have HM := Aside0.mk hm
   clear hm
   have f1 : i < rows.length := HIL.out
   have f2 : decide ((i : Int) < (rows.length : Int)) = true := decide_eq_true (by omega)
   have f3 : decide ((m : Int) < 0) = false := decide_eq_false (by omega)
   have f4 : ¬ (m : Int) < 0 := by omega
   have HW1 := Aside0.mk (show wrap64 ((sumL rows i : Int) + (r.length : Int)) = (m : Int) by have := HST.out; have := HLE.out; have := HN.out; unfold wrap64; omega)
   have HW2 := Aside0.mk (show wrap64 ((i : Int) + 1) = ((i + 1 : Nat) : Int) by have := HIL.out; have := HK9.out; unfold wrap64; omega)
   have hw1 := HW1.out
   have f5 : (0 : Int) ≤ (i : Int) := Int.natCast_nonneg i
   go_wp2_with fail
   go_roundg (gk - 1)
   case measure => have := HQ.out; omega
   case rel => exact ⟨i + 1, by rw [← HM.out], by rw [← HW2.out], rfl, ⟨by have := HI.out; have := HQ.out; omega⟩⟩
end Go.Proofs.Ytemlgmkbonpniaa.Print
