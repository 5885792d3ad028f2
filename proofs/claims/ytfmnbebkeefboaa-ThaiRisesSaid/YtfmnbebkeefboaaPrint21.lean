-- Written by a program of this session (wip/sp.py) out of the translation.
import Derived.Test.YtfmnbebkeefboaaPrint0
import Derived.Test.YtfmnbebkeefboaaPrint12
import Derived.Test.YtfmnbebkeefboaaPrint14
namespace Go.Proofs.Ytfmnbebkeefboaa.Print
open Go.RowKit Go.Proofs.YtfmnbebkeefboaaW.PrintWords Go.Proofs.YtfmnbebkeefboaaW.PrintLast Go.Proofs.YtfmnbebkeefboaaW.PrintMore
attribute [local go_sem] max2_int min2_int max_two min_two max_three min_three max_four min_four   -- for this text's walks alone
set_option linter.unusedVariables false
set_option linter.unusedSimpArgs false

/-! ### scansionlaw20_ThaiRises: function 4 -/
mutual
def scansionlaw20_ThaiRises.j0 : Nat → Int → List (S31) → Bool → Bool → Option (Bool)
  | 0, _, _, _, _ => none
  | k + 1, x0, x1, x5, x22 => if x22 = true then (some x5) else ((thai_Parts.f x0 x1).bind fun bt285 => (if bt285.2 = 0 then (if (bt285.1.length : Int) = 0 then (scansionlaw20_ThaiRises.j1 k x1 bt285.1 true) else (if 0 < (bt285.1.length : Int) then (if (rd bt285.1 0) = 0 then (if 0 ≤ (wrap64 ((bt285.1.length : Int) - 1)) then (if (wrap64 ((bt285.1.length : Int) - 1)) < (bt285.1.length : Int) then (scansionlaw20_ThaiRises.j1 k x1 bt285.1 ((rd bt285.1 (wrap64 ((bt285.1.length : Int) - 1))) != x0)) else (none)) else (none)) else (scansionlaw20_ThaiRises.j1 k x1 bt285.1 true)) else (none))) else (if bt285.2 = 1 then (some ((bt285.1.length : Int) == 0)) else (some false))))
def scansionlaw20_ThaiRises.j1 : Nat → List (S31) → List Int → Bool → Option (Bool)
  | 0, _, _, _ => none
  | k + 1, x1, x7, x57 => if x57 = true then (some false) else (scansionlaw20_ThaiRises.l0 k x1 x7 1)
def scansionlaw20_ThaiRises.l0 : Nat → List (S31) → List Int → Int → Option (Bool)
  | 0, _, _, _ => none
  | k + 1, x1, x7, x9 => if x9 < (x7.length : Int) then (scansionlaw20_ThaiRises.l1 k x1 x7 x9 false false 0) else (some true)
def scansionlaw20_ThaiRises.l1 : Nat → List (S31) → List Int → Int → Bool → Bool → Int → Option (Bool)
  | 0, _, _, _, _, _, _ => none
  | k + 1, x1, x7, x9, x10, x11, x12 => if x12 < (x1.length : Int) then (if x10 = true then (if x11 = true then (scansionlaw20_ThaiRises.l1 k x1 x7 x9 true true (wrap64 (x12 + 1))) else (if 0 ≤ x12 then (if 0 ≤ (wrap64 (x9 - 1)) then (if (wrap64 (x9 - 1)) < (x7.length : Int) then (if ((rd_T31 x1 x12).f0) ≥ (rd x7 (wrap64 (x9 - 1))) then (if 0 ≤ x9 then (if x9 < (x7.length : Int) then (scansionlaw20_ThaiRises.l1 k x1 x7 x9 true (decide (((rd_T31 x1 x12).f0) < (rd x7 x9))) (wrap64 (x12 + 1))) else (none)) else (none)) else (scansionlaw20_ThaiRises.l1 k x1 x7 x9 true false (wrap64 (x12 + 1)))) else (none)) else (none)) else (none))) else (if 0 ≤ x12 then (if 0 ≤ (wrap64 (x9 - 1)) then (if (wrap64 (x9 - 1)) < (x7.length : Int) then (if ((rd_T31 x1 x12).f0) = (rd x7 (wrap64 (x9 - 1))) then (if 0 ≤ x9 then (if x9 < (x7.length : Int) then (if x11 = true then (scansionlaw20_ThaiRises.l1 k x1 x7 x9 (((rd_T31 x1 x12).f1) == (rd x7 x9)) true (wrap64 (x12 + 1))) else (if ((rd_T31 x1 x12).f0) ≥ (rd x7 (wrap64 (x9 - 1))) then (scansionlaw20_ThaiRises.l1 k x1 x7 x9 (((rd_T31 x1 x12).f1) == (rd x7 x9)) (decide (((rd_T31 x1 x12).f0) < (rd x7 x9))) (wrap64 (x12 + 1))) else (scansionlaw20_ThaiRises.l1 k x1 x7 x9 (((rd_T31 x1 x12).f1) == (rd x7 x9)) false (wrap64 (x12 + 1))))) else (none)) else (none)) else (if x11 = true then (scansionlaw20_ThaiRises.l1 k x1 x7 x9 false true (wrap64 (x12 + 1))) else (if ((rd_T31 x1 x12).f0) ≥ (rd x7 (wrap64 (x9 - 1))) then (if 0 ≤ x9 then (if x9 < (x7.length : Int) then (scansionlaw20_ThaiRises.l1 k x1 x7 x9 false (decide (((rd_T31 x1 x12).f0) < (rd x7 x9))) (wrap64 (x12 + 1))) else (none)) else (none)) else (scansionlaw20_ThaiRises.l1 k x1 x7 x9 false false (wrap64 (x12 + 1)))))) else (none)) else (none)) else (none))) else (if 0 ≤ x9 then (if x9 < (x7.length : Int) then (if 0 ≤ (wrap64 (x9 - 1)) then (if (wrap64 (x9 - 1)) < (x7.length : Int) then (if (rd x7 x9) ≤ (rd x7 (wrap64 (x9 - 1))) then (some false) else (if x10 = true then (scansionlaw20_ThaiRises.l0 k x1 x7 (wrap64 (x9 + 1))) else (if x11 = true then (some false) else (scansionlaw20_ThaiRises.l0 k x1 x7 (wrap64 (x9 + 1)))))) else (none)) else (none)) else (none)) else (none))
end
def scansionlaw20_ThaiRises.f (k : Nat) (a0 : Int) (l1 : List (S31)) : Option (Bool) := (scansionlaw20_awake.f k).bind fun t283 => ((scansionlaw20_few.f a0 l1).bind fun t284 => (if t283 = true then (scansionlaw20_ThaiRises.j0 k a0 l1 t283 (!t284)) else (scansionlaw20_ThaiRises.j0 k a0 l1 t283 true)))
theorem scansionlaw20_ThaiRises.mono_l : ∀ k, (∀ y0 y1 y2 y3, LeO (scansionlaw20_ThaiRises.j0 k y0 y1 y2 y3) (scansionlaw20_ThaiRises.j0 (k + 1) y0 y1 y2 y3)) ∧ (∀ y0 y1 y2, LeO (scansionlaw20_ThaiRises.j1 k y0 y1 y2) (scansionlaw20_ThaiRises.j1 (k + 1) y0 y1 y2)) ∧ (∀ y0 y1 y2, LeO (scansionlaw20_ThaiRises.l0 k y0 y1 y2) (scansionlaw20_ThaiRises.l0 (k + 1) y0 y1 y2)) ∧ (∀ y0 y1 y2 y3 y4 y5, LeO (scansionlaw20_ThaiRises.l1 k y0 y1 y2 y3 y4 y5) (scansionlaw20_ThaiRises.l1 (k + 1) y0 y1 y2 y3 y4 y5))
  | 0 => ⟨fun _ _ _ _ r h => by simp [scansionlaw20_ThaiRises.j0] at h, fun _ _ _ r h => by simp [scansionlaw20_ThaiRises.j1] at h, fun _ _ _ r h => by simp [scansionlaw20_ThaiRises.l0] at h, fun _ _ _ _ _ _ r h => by simp [scansionlaw20_ThaiRises.l1] at h⟩
  | k + 1 => by
    obtain ⟨ih0, ih1, ih2, ih3⟩ := scansionlaw20_ThaiRises.mono_l k
    refine ⟨?_, ?_, ?_, ?_⟩
    · intro y0 y1 y2 y3
      unfold scansionlaw20_ThaiRises.j0
      repeat' first
      | (with_reducible exact ih0 _ _ _ _)
      | (with_reducible exact ih1 _ _ _)
      | (with_reducible exact ih2 _ _ _)
      | (with_reducible exact ih3 _ _ _ _ _ _)
      | (with_reducible exact scansionlaw20_awake.mono _)
      | (with_reducible exact LeO.refl _)
      | (with_reducible exact LeO.none _)
      | (with_reducible refine LeO.ite ?_ ?_)
      | (with_reducible refine LeO.bind ?_ (fun _ => ?_))
      | exact ih0 _ _ _ _
      | exact ih1 _ _ _
      | exact ih2 _ _ _
      | exact ih3 _ _ _ _ _ _
      | exact scansionlaw20_awake.mono _
      | exact LeO.none _
      | refine LeO.ite ?_ ?_
      | refine LeO.bind ?_ (fun _ => ?_)
    · intro y0 y1 y2
      unfold scansionlaw20_ThaiRises.j1
      repeat' first
      | (with_reducible exact ih0 _ _ _ _)
      | (with_reducible exact ih1 _ _ _)
      | (with_reducible exact ih2 _ _ _)
      | (with_reducible exact ih3 _ _ _ _ _ _)
      | (with_reducible exact scansionlaw20_awake.mono _)
      | (with_reducible exact LeO.refl _)
      | (with_reducible exact LeO.none _)
      | (with_reducible refine LeO.ite ?_ ?_)
      | (with_reducible refine LeO.bind ?_ (fun _ => ?_))
      | exact ih0 _ _ _ _
      | exact ih1 _ _ _
      | exact ih2 _ _ _
      | exact ih3 _ _ _ _ _ _
      | exact scansionlaw20_awake.mono _
      | exact LeO.none _
      | refine LeO.ite ?_ ?_
      | refine LeO.bind ?_ (fun _ => ?_)
    · intro y0 y1 y2
      unfold scansionlaw20_ThaiRises.l0
      repeat' first
      | (with_reducible exact ih0 _ _ _ _)
      | (with_reducible exact ih1 _ _ _)
      | (with_reducible exact ih2 _ _ _)
      | (with_reducible exact ih3 _ _ _ _ _ _)
      | (with_reducible exact scansionlaw20_awake.mono _)
      | (with_reducible exact LeO.refl _)
      | (with_reducible exact LeO.none _)
      | (with_reducible refine LeO.ite ?_ ?_)
      | (with_reducible refine LeO.bind ?_ (fun _ => ?_))
      | exact ih0 _ _ _ _
      | exact ih1 _ _ _
      | exact ih2 _ _ _
      | exact ih3 _ _ _ _ _ _
      | exact scansionlaw20_awake.mono _
      | exact LeO.none _
      | refine LeO.ite ?_ ?_
      | refine LeO.bind ?_ (fun _ => ?_)
    · intro y0 y1 y2 y3 y4 y5
      unfold scansionlaw20_ThaiRises.l1
      repeat' first
      | (with_reducible exact ih0 _ _ _ _)
      | (with_reducible exact ih1 _ _ _)
      | (with_reducible exact ih2 _ _ _)
      | (with_reducible exact ih3 _ _ _ _ _ _)
      | (with_reducible exact scansionlaw20_awake.mono _)
      | (with_reducible exact LeO.refl _)
      | (with_reducible exact LeO.none _)
      | (with_reducible refine LeO.ite ?_ ?_)
      | (with_reducible refine LeO.bind ?_ (fun _ => ?_))
      | exact ih0 _ _ _ _
      | exact ih1 _ _ _
      | exact ih2 _ _ _
      | exact ih3 _ _ _ _ _ _
      | exact scansionlaw20_awake.mono _
      | exact LeO.none _
      | refine LeO.ite ?_ ?_
      | refine LeO.bind ?_ (fun _ => ?_)
theorem scansionlaw20_ThaiRises.mono : ∀ a0 a1 k, LeO (scansionlaw20_ThaiRises.f k a0 a1) (scansionlaw20_ThaiRises.f (k + 1) a0 a1) := by
  intro a0 a1 k
  obtain ⟨ih0, ih1, ih2, ih3⟩ := scansionlaw20_ThaiRises.mono_l k
  unfold scansionlaw20_ThaiRises.f
  repeat' first
      | (with_reducible exact ih0 _ _ _ _)
      | (with_reducible exact ih1 _ _ _)
      | (with_reducible exact ih2 _ _ _)
      | (with_reducible exact ih3 _ _ _ _ _ _)
      | (with_reducible exact scansionlaw20_awake.mono _)
      | (with_reducible exact LeO.refl _)
      | (with_reducible exact LeO.none _)
      | (with_reducible refine LeO.ite ?_ ?_)
      | (with_reducible refine LeO.bind ?_ (fun _ => ?_))
      | exact ih0 _ _ _ _
      | exact ih1 _ _ _
      | exact ih2 _ _ _
      | exact ih3 _ _ _ _ _ _
      | exact scansionlaw20_awake.mono _
      | exact LeO.none _
      | refine LeO.ite ?_ ?_
      | refine LeO.bind ?_ (fun _ => ?_)
set_option maxHeartbeats 8000000 in
set_option maxRecDepth 100000 in
theorem scansionlaw20_ThaiRises.calls (k : Nat) (a0 : Int) (A1 : Option Addr) (c1 : Nat) (l1 : List (S31)) (r : Bool) (w : World) (hr1 : Kd.C k31 w A1 l1.length l1) (hc1 : l1.length ≤ c1) (h : scansionlaw20_ThaiRises.f k a0 l1 = some r) :
    Calls Try.prog 4 #[.int .i64 a0, .slice A1 l1.length c1] w fun e w' => e = .returned (.bool r) ∧ Below w.heap.size w w' := by
  have HR1 := Aside0.mk hr1
  have HC1 := Aside0.mk hc1
  clear hr1 hc1
  have HB := Aside0.mk (Below.refl w.heap.size w)
  have H : ((scansionlaw20_awake.f k).bind fun t283 => ((scansionlaw20_few.f a0 l1).bind fun t284 => (if t283 = true then (scansionlaw20_ThaiRises.j0 k a0 l1 t283 (!t284)) else (scansionlaw20_ThaiRises.j0 k a0 l1 t283 true)))) = some r := h
  clear h
  replace H := Option.bind_eq_some_iff.mp H
  obtain ⟨t283, A30, H⟩ := H
  replace H : ((scansionlaw20_few.f a0 l1).bind fun t284 => (if t283 = true then (scansionlaw20_ThaiRises.j0 k a0 l1 t283 (!t284)) else (scansionlaw20_ThaiRises.j0 k a0 l1 t283 true))) = some r := H
  have A3 := Aside0.mk A30
  clear A30
  replace H := Option.bind_eq_some_iff.mp H
  obtain ⟨t284, A40, H⟩ := H
  replace H : (if t283 = true then (scansionlaw20_ThaiRises.j0 k a0 l1 t283 (!t284)) else (scansionlaw20_ThaiRises.j0 k a0 l1 t283 true)) = some r := H
  have A4 := Aside0.mk A40
  clear A40
  have HC5 := Aside0.mk H
  clear H
  go_enter Try.func4, Try.ntmps4
  go_upto_region 3 with (first | (go_at_call 9; (with_reducible refine (scansionlaw20_awake.calls k  t283 _ A3.out).mono ?_); rintro e w6 ⟨rfl, hb⟩; have n0_ := Aside0.mk (below_step (by repeat (first | (with_reducible first | exact HB.out | apply below_alloc | apply pw_below_drewN | apply below_drew1) | exact HB.out)) hb); clear HB; have HB := n0_; clear n0_; (try clear hb); (try clear hb2); (try clear hk); (try clear hi)) | (go_at_call 10; (with_reducible refine (scansionlaw20_few.calls a0 _ _ l1 t284 _ ?side1 ?side2 A4.out).mono ?_); (case side1 => repeat (first | exact (Kd.C_below HR1.out HB.out) | (with_reducible refine Kd.C_alloc ?_ _) | (with_reducible refine Kd.C_drewN ?_ _) | (with_reducible refine Kd.C_drew ?_))); (case side2 => exact HC1.out); rintro e w' ⟨rfl, ⟨nd, rfl⟩⟩; (try first | exact ⟨rfl, _, World.drewN_drewN _ _ _⟩ | exact ⟨rfl, _, Eq.trans (World.drewN_drewN _ _ _) (congrArg (World.drewN _) (Nat.add_assoc _ _ _))⟩)))
  repeat (go_quiet (first | (go_at_call 9; (with_reducible refine (scansionlaw20_awake.calls k  t283 _ A3.out).mono ?_); rintro e w6 ⟨rfl, hb⟩; have n0_ := Aside0.mk (below_step (by repeat (first | (with_reducible first | exact HB.out | apply below_alloc | apply pw_below_drewN | apply below_drew1) | exact HB.out)) hb); clear HB; have HB := n0_; clear n0_; (try clear hb); (try clear hb2); (try clear hk); (try clear hi)) | (go_at_call 10; (with_reducible refine (scansionlaw20_few.calls a0 _ _ l1 t284 _ ?side1 ?side2 A4.out).mono ?_); (case side1 => repeat (first | exact (Kd.C_below HR1.out HB.out) | (with_reducible refine Kd.C_alloc ?_ _) | (with_reducible refine Kd.C_drewN ?_ _) | (with_reducible refine Kd.C_drew ?_))); (case side2 => exact HC1.out); rintro e w' ⟨rfl, ⟨nd, rfl⟩⟩; (try first | exact ⟨rfl, _, World.drewN_drewN _ _ _⟩ | exact ⟨rfl, _, Eq.trans (World.drewN_drewN _ _ _) (congrArg (World.drewN _) (Nat.add_assoc _ _ _))⟩))); go_upto_region 3 with (first | (go_at_call 9; (with_reducible refine (scansionlaw20_awake.calls k  t283 _ A3.out).mono ?_); rintro e w6 ⟨rfl, hb⟩; have n0_ := Aside0.mk (below_step (by repeat (first | (with_reducible first | exact HB.out | apply below_alloc | apply pw_below_drewN | apply below_drew1) | exact HB.out)) hb); clear HB; have HB := n0_; clear n0_; (try clear hb); (try clear hb2); (try clear hk); (try clear hi)) | (go_at_call 10; (with_reducible refine (scansionlaw20_few.calls a0 _ _ l1 t284 _ ?side1 ?side2 A4.out).mono ?_); (case side1 => repeat (first | exact (Kd.C_below HR1.out HB.out) | (with_reducible refine Kd.C_alloc ?_ _) | (with_reducible refine Kd.C_drewN ?_ _) | (with_reducible refine Kd.C_drew ?_))); (case side2 => exact HC1.out); rintro e w' ⟨rfl, ⟨nd, rfl⟩⟩; (try first | exact ⟨rfl, _, World.drewN_drewN _ _ _⟩ | exact ⟨rfl, _, Eq.trans (World.drewN_drewN _ _ _) (congrArg (World.drewN _) (Nat.add_assoc _ _ _))⟩))))
  (try simp only [Act.put, List.setIfInBounds_toArray, List.set_cons_zero, List.set_cons_succ])
  go_cut [22] (fun v22 wc => ∃ (kq : Nat) (x22_4 : Bool), v22 = .bool x22_4 ∧ Aside0 (scansionlaw20_ThaiRises.j0 kq a0 l1 t283 x22_4 = some r) ∧ Aside0 (kq ≤ k) ∧ Aside0 (Below w.heap.size w wc))
  case first =>
    have H := HC5.out
    clear HC5
    by_cases c7 : t283 = true
    · subst c7
      have H1 : (scansionlaw20_ThaiRises.j0 k a0 l1 true (!t284)) = some r := by rw [if_pos rfl] at H; exact H
      clear H
      have H := H1
      clear H1
      have H' := Aside0.mk H
      clear H
      go_wp2
      repeat (go_quiet (fail); try go_wp2)
      go_meet
      case rel => exact ⟨_, (!t284), (by first | rfl | (simp; done) | (simp [*]; done)), H', ⟨by first | omega | exact Nat.le_refl _⟩, ⟨by repeat (first | (with_reducible first | exact HB.out | apply below_alloc | apply pw_below_drewN | apply below_drew1) | exact HB.out)⟩⟩
    · replace c7 := Bool.eq_false_iff.mpr c7
      subst c7
      have H1 : (scansionlaw20_ThaiRises.j0 k a0 l1 false true) = some r := by rw [if_neg (show ¬ (false = true) by decide)] at H; exact H
      clear H
      have H := H1
      clear H1
      have H' := Aside0.mk H
      clear H
      go_wp2
      repeat (go_quiet (fail); try go_wp2)
      go_meet
      case rel => exact ⟨_, (true), (by first | rfl | (simp; done) | (simp [*]; done)), H', ⟨by first | omega | exact Nat.le_refl _⟩, ⟨by repeat (first | (with_reducible first | exact HB.out | apply below_alloc | apply pw_below_drewN | apply below_drew1) | exact HB.out)⟩⟩
  case rest =>
    clear HC5
    try clear c1
    try clear p2
    try clear c4
    try clear c7
    obtain ⟨kq, x22_4, rfl, HA, HJ4, HB⟩ := hcut
    cases kq with
    | zero => exact absurd HA.out (by simp [scansionlaw20_ThaiRises.j0])
    | succ kj4 =>
      have H := HA.out
      clear HA
      simp only [scansionlaw20_ThaiRises.j0] at H
      by_cases c8 : x22_4 = true
      · subst c8
        have H1 : (some t283) = some r := by rw [if_pos rfl] at H; exact H
        clear H
        have H := H1
        clear H1
        obtain rfl := Option.some.inj H
        go_wp2
        repeat (go_quiet (fail); try go_wp2)
        go_ret
        exact ⟨by first | rfl | (simp [errW_none, errW_some] <;> rfl) | (simp [*, errW_none, errW_some] <;> rfl), by repeat (first | (with_reducible first | exact HB.out | apply below_alloc | apply pw_below_drewN | apply below_drew1) | exact HB.out)⟩
      · replace c8 := Bool.eq_false_iff.mpr c8
        subst c8
        have H1 : ((thai_Parts.f a0 l1).bind fun bt285 => (if bt285.2 = 0 then (if (bt285.1.length : Int) = 0 then (scansionlaw20_ThaiRises.j1 kj4 l1 bt285.1 true) else (if 0 < (bt285.1.length : Int) then (if (rd bt285.1 0) = 0 then (if 0 ≤ (wrap64 ((bt285.1.length : Int) - 1)) then (if (wrap64 ((bt285.1.length : Int) - 1)) < (bt285.1.length : Int) then (scansionlaw20_ThaiRises.j1 kj4 l1 bt285.1 ((rd bt285.1 (wrap64 ((bt285.1.length : Int) - 1))) != a0)) else (none)) else (none)) else (scansionlaw20_ThaiRises.j1 kj4 l1 bt285.1 true)) else (none))) else (if bt285.2 = 1 then (some ((bt285.1.length : Int) == 0)) else (some false)))) = some r := by rw [if_neg (show ¬ (false = true) by decide)] at H; exact H
        clear H
        have H := H1
        clear H1
        replace H := Option.bind_eq_some_iff.mp H
        obtain ⟨⟨t285, t286⟩, A90, H⟩ := H
        replace H : (if t286 = 0 then (if (t285.length : Int) = 0 then (scansionlaw20_ThaiRises.j1 kj4 l1 t285 true) else (if 0 < (t285.length : Int) then (if (rd t285 0) = 0 then (if 0 ≤ (wrap64 ((t285.length : Int) - 1)) then (if (wrap64 ((t285.length : Int) - 1)) < (t285.length : Int) then (scansionlaw20_ThaiRises.j1 kj4 l1 t285 ((rd t285 (wrap64 ((t285.length : Int) - 1))) != a0)) else (none)) else (none)) else (scansionlaw20_ThaiRises.j1 kj4 l1 t285 true)) else (none))) else (if t286 = 1 then (some ((t285.length : Int) == 0)) else (some false))) = some r := H
        have A9 := Aside0.mk A90
        clear A90
        by_cases c10 : t286 = 0
        · rw [if_pos c10] at H
          have c10b0 : (t286 == 0) = true := beq_iff_eq.mpr c10
          have c10b1 : (t286 != 0) = false := bne_eq_false_iff_eq.mpr c10
          clear c10
          have HC11 := Aside0.mk H
          clear H
          go_upto_region 8 with (first | (go_at_call 11; (with_reducible refine (thai_Parts.calls a0 _ _ l1 t285 t286 _ ?side1 ?side2 A9.out).mono ?_); (case side1 => repeat (first | exact (Kd.C_below HR1.out HB.out) | (with_reducible refine Kd.C_alloc ?_ _) | (with_reducible refine Kd.C_drewN ?_ _) | (with_reducible refine Kd.C_drew ?_))); (case side2 => exact HC1.out); rintro e w12 ⟨v287, rfl, ho0, hb⟩; have n0_ := Aside0.mk (Kd.R_lower ho0 (below_size (by repeat (first | (with_reducible first | exact HB.out | apply below_alloc | apply pw_below_drewN | apply below_drew1) | exact HB.out)))); have n1_ := Aside0.mk (below_step (by repeat (first | (with_reducible first | exact HB.out | apply below_alloc | apply pw_below_drewN | apply below_drew1) | exact HB.out)) hb); clear HB; have HO288 := n0_; have HB := n1_; clear n0_ n1_; (try clear hb); (try clear hb2); (try clear hk); (try clear hi); (try clear ho0)))
          repeat (go_quiet (first | (go_at_call 11; (with_reducible refine (thai_Parts.calls a0 _ _ l1 t285 t286 _ ?side1 ?side2 A9.out).mono ?_); (case side1 => repeat (first | exact (Kd.C_below HR1.out HB.out) | (with_reducible refine Kd.C_alloc ?_ _) | (with_reducible refine Kd.C_drewN ?_ _) | (with_reducible refine Kd.C_drew ?_))); (case side2 => exact HC1.out); rintro e w12 ⟨v287, rfl, ho0, hb⟩; have n0_ := Aside0.mk (Kd.R_lower ho0 (below_size (by repeat (first | (with_reducible first | exact HB.out | apply below_alloc | apply pw_below_drewN | apply below_drew1) | exact HB.out)))); have n1_ := Aside0.mk (below_step (by repeat (first | (with_reducible first | exact HB.out | apply below_alloc | apply pw_below_drewN | apply below_drew1) | exact HB.out)) hb); clear HB; have HO288 := n0_; have HB := n1_; clear n0_ n1_; (try clear hb); (try clear hb2); (try clear hk); (try clear hi); (try clear ho0))); go_upto_region 8 with (first | (go_at_call 11; (with_reducible refine (thai_Parts.calls a0 _ _ l1 t285 t286 _ ?side1 ?side2 A9.out).mono ?_); (case side1 => repeat (first | exact (Kd.C_below HR1.out HB.out) | (with_reducible refine Kd.C_alloc ?_ _) | (with_reducible refine Kd.C_drewN ?_ _) | (with_reducible refine Kd.C_drew ?_))); (case side2 => exact HC1.out); rintro e w12 ⟨v287, rfl, ho0, hb⟩; have n0_ := Aside0.mk (Kd.R_lower ho0 (below_size (by repeat (first | (with_reducible first | exact HB.out | apply below_alloc | apply pw_below_drewN | apply below_drew1) | exact HB.out)))); have n1_ := Aside0.mk (below_step (by repeat (first | (with_reducible first | exact HB.out | apply below_alloc | apply pw_below_drewN | apply below_drew1) | exact HB.out)) hb); clear HB; have HO288 := n0_; have HB := n1_; clear n0_ n1_; (try clear hb); (try clear hb2); (try clear hk); (try clear hi); (try clear ho0))))
          (try simp only [Act.put, List.setIfInBounds_toArray, List.set_cons_zero, List.set_cons_succ])
          go_cut [57] (fun v57 wc => ∃ (kq : Nat) (x57_10 : Bool), v57 = .bool x57_10 ∧ Aside0 (scansionlaw20_ThaiRises.j1 kq l1 t285 x57_10 = some r) ∧ Aside0 (kq ≤ kj4) ∧ Aside0 (Kd.R (Kd.int .i64) 3 wc w.heap.size (fun _ => True) v287 t285) ∧ Aside0 (Below w.heap.size w wc))
          case first =>
            have H := HC11.out
            clear HC11
            by_cases c13 : (t285.length : Int) = 0
            · rw [if_pos c13] at H
              have c13b0 : ((t285.length : Int) == 0) = true := beq_iff_eq.mpr c13
              have c13b1 : ((t285.length : Int) != 0) = false := bne_eq_false_iff_eq.mpr c13
              clear c13
              (first | rw [c13b0] | (simp only [i64_w, i32_w]; rw [c13b0]) | skip)
              have H' := Aside0.mk H
              clear H
              obtain ⟨Ao14, co14, eo14⟩ := Kd.R_slice HO288.out
              subst eo14
              go_wp2
              repeat (go_quiet (fail); try go_wp2)
              go_meet
              case rel => exact ⟨_, (true), (by first | rfl | (simp; done) | (simp [*]; done)), H', ⟨by have := HJ4.out; first | omega | exact Nat.le_refl _⟩, ⟨by (with_reducible repeat (first | apply Kd.R_alloc | apply Kd.R_drewN | apply Kd.R_drew)); exact HO288.out⟩, ⟨by repeat (first | (with_reducible first | exact HB.out | apply below_alloc | apply pw_below_drewN | apply below_drew1) | exact HB.out)⟩⟩
            · rw [if_neg c13] at H
              have c13b0 : ((t285.length : Int) == 0) = false := beq_eq_false_iff_ne.mpr c13
              have c13b1 : ((t285.length : Int) != 0) = true := bne_iff_ne.mpr c13
              have c13b2 : ¬ (t285 = []) := fun h_ => c13 (by rw [h_]; rfl)
              (first | rw [c13b0] | (simp only [i64_w, i32_w]; rw [c13b0]) | skip)
              by_cases c15 : 0 < (t285.length : Int)
              · rw [if_pos c15] at H
                have c15b0 : decide (0 < (t285.length : Int)) = true := decide_eq_true c15
                have c15b1 : decide (0 < t285.length) = true := decide_eq_true (by omega)
                clear c15
                by_cases c16 : (rd t285 0) = 0
                · rw [if_pos c16] at H
                  have c16b0 : ((rd t285 0) == 0) = true := beq_iff_eq.mpr c16
                  have c16b1 : ((rd t285 0) != 0) = false := bne_eq_false_iff_eq.mpr c16
                  clear c16
                  obtain ⟨ji17, hji17⟩ : ∃ j_ : Int, (wrap64 ((t285.length : Int) - 1)) = j_ := ⟨_, rfl⟩
                  replace H : (if 0 ≤ (ji17) then (if (ji17) < (t285.length : Int) then (scansionlaw20_ThaiRises.j1 kj4 l1 t285 ((rd t285 (ji17)) != a0)) else (none)) else (none)) = some r := by first | (rw [hji17] at H; exact H) | (simp only [hji17] at H ⊢; exact H)
                  have hji17w : (IntKind.i64.wrap ((t285.length : Int) - 1)) = ji17 := (i64_w _).trans hji17
                  by_cases c18 : 0 ≤ (ji17)
                  · rw [if_pos c18] at H
                    have c18b0 : decide (0 ≤ (ji17)) = true := decide_eq_true c18
                    clear c18
                    by_cases c19 : (ji17) < (t285.length : Int)
                    · rw [if_pos c19] at H
                      have c19b0 : decide ((ji17) < (t285.length : Int)) = true := decide_eq_true c19
                      clear c19
                      have H' := Aside0.mk H
                      clear H
                      obtain ⟨Ao20, co20, eo20⟩ := Kd.R_slice HO288.out
                      subst eo20
                      have p289 : 0 ≤ (0 : Int) := (by omega)
                      have q289 : 0 < (t285.length : Int) := of_decide_eq_true (by first | (with_reducible assumption) | assumption)
                      obtain ⟨ad289, e289, hx289_0⟩ := Kd.at_int (Kd.R_reads' HO288.out).2.2 0 p289 q289
                      cases e289
                      have qi289 : (0 < t285.length) = True := eq_true (by omega)
                      (try rw [show ((0 : Int)).toNat = 0 from rfl] at hx289_0)
                      (try rw [Addr.add_zero'] at hx289_0)
                      replace p289 := eq_true p289
                      replace q289 := eq_true q289
                      have p290 : 0 ≤ ((ji17) : Int) := of_decide_eq_true (by first | (with_reducible assumption) | assumption)
                      have q290 : (ji17) < (t285.length : Int) := of_decide_eq_true (by first | (with_reducible assumption) | assumption)
                      obtain ⟨ad290, e290, hx290_0⟩ := Kd.at_int (Kd.R_reads' HO288.out).2.2 (ji17) p290 q290
                      obtain rfl : ad289 = ad290 := (by injection e290)
                      replace p290 := eq_true p290
                      replace q290 := eq_true q290
                      go_wp2
                      repeat (go_quiet (fail); try go_wp2)
                      go_meet
                      case rel => exact ⟨_, (((rd t285 (ji17)) != a0)), (by first | rfl | (simp; done) | (simp only [← hji17] <;> (first | rfl | simp)) | (simp [*]; done)), H', ⟨by have := HJ4.out; first | omega | exact Nat.le_refl _⟩, ⟨by (with_reducible repeat (first | apply Kd.R_alloc | apply Kd.R_drewN | apply Kd.R_drew)); exact HO288.out⟩, ⟨by repeat (first | (with_reducible first | exact HB.out | apply below_alloc | apply pw_below_drewN | apply below_drew1) | exact HB.out)⟩⟩
                    · rw [if_neg c19] at H
                      exact absurd H (by simp)
                  · rw [if_neg c18] at H
                    exact absurd H (by simp)
                · rw [if_neg c16] at H
                  have c16b0 : ((rd t285 0) == 0) = false := beq_eq_false_iff_ne.mpr c16
                  have c16b1 : ((rd t285 0) != 0) = true := bne_iff_ne.mpr c16
                  have H' := Aside0.mk H
                  clear H
                  obtain ⟨Ao21, co21, eo21⟩ := Kd.R_slice HO288.out
                  subst eo21
                  have p289 : 0 ≤ (0 : Int) := (by omega)
                  have q289 : 0 < (t285.length : Int) := of_decide_eq_true (by first | (with_reducible assumption) | assumption)
                  obtain ⟨ad289, e289, hx289_0⟩ := Kd.at_int (Kd.R_reads' HO288.out).2.2 0 p289 q289
                  cases e289
                  have qi289 : (0 < t285.length) = True := eq_true (by omega)
                  (try rw [show ((0 : Int)).toNat = 0 from rfl] at hx289_0)
                  (try rw [Addr.add_zero'] at hx289_0)
                  replace p289 := eq_true p289
                  replace q289 := eq_true q289
                  go_wp2
                  repeat (go_quiet (fail); try go_wp2)
                  go_meet
                  case rel => exact ⟨_, (true), (by first | rfl | (simp; done) | (simp [*]; done)), H', ⟨by have := HJ4.out; first | omega | exact Nat.le_refl _⟩, ⟨by (with_reducible repeat (first | apply Kd.R_alloc | apply Kd.R_drewN | apply Kd.R_drew)); exact HO288.out⟩, ⟨by repeat (first | (with_reducible first | exact HB.out | apply below_alloc | apply pw_below_drewN | apply below_drew1) | exact HB.out)⟩⟩
              · rw [if_neg c15] at H
                exact absurd H (by simp)
          case rest =>
            clear HC11
            try clear c1
            try clear p2
            try clear q2
            try clear hx2
            try clear qi2
            try clear c4
            try clear p6
            try clear c7
            try clear c8
            try clear c10
            try clear c10b0
            try clear c10b1
            try clear c13
            try clear c13b0
            try clear c13b1
            try clear c13b2
            try clear c15
            try clear c15b0
            try clear c15b1
            try clear c16
            try clear c16b0
            try clear c16b1
            try clear c18
            try clear c18b0
            try clear c19
            try clear c19b0
            try clear hx289_0
            try clear hx290_0
            try clear p2
            try clear p289
            try clear p290
            try clear q289
            try clear q290
            obtain ⟨kq, x57_10, rfl, HA, HJ10, HO_7, HB⟩ := hcut
            cases kq with
            | zero => exact absurd HA.out (by simp [scansionlaw20_ThaiRises.j1])
            | succ kj10 =>
              have H := HA.out
              clear HA
              simp only [scansionlaw20_ThaiRises.j1] at H
              by_cases c22 : x57_10 = true
              · subst c22
                have H1 : (some false) = some r := by rw [if_pos rfl] at H; exact H
                clear H
                have H := H1
                clear H1
                obtain rfl := Option.some.inj H
                go_wp2
                repeat (go_quiet (fail); try go_wp2)
                go_ret
                exact ⟨by first | rfl | (simp [errW_none, errW_some] <;> rfl) | (simp [*, errW_none, errW_some] <;> rfl), by repeat (first | (with_reducible first | exact HB.out | apply below_alloc | apply pw_below_drewN | apply below_drew1) | exact HB.out)⟩
              · replace c22 := Bool.eq_false_iff.mpr c22
                subst c22
                have H1 : (scansionlaw20_ThaiRises.l0 kj10 l1 t285 1) = some r := by rw [if_neg (show ¬ (false = true) by decide)] at H; exact H
                clear H
                have H := H1
                clear H1
                have H' := Aside0.mk H
                clear H
                go_wp2
                repeat (go_quiet (fail); try go_wp2)
                go_loopg [9] kj10 (fun kq v9 w' => ∃ (x9_3 : Int), v9 = .int .i64 x9_3 ∧ Aside0 (scansionlaw20_ThaiRises.l0 kq l1 t285 x9_3 = some r) ∧ Aside0 (kq ≤ kj10) ∧ Aside0 (Kd.R (Kd.int .i64) 3 w' w.heap.size (fun _ => True) v287 t285) ∧ Aside0 (Below w.heap.size w w'))
                case atStart => exact ⟨(1), (by first | rfl | (simp; done) | (simp [*]; done)), H', ⟨Nat.le_refl _⟩, ⟨by (with_reducible repeat (first | apply Kd.R_alloc | apply Kd.R_drewN | apply Kd.R_drew)); exact HO_7.out⟩, ⟨by repeat (first | (with_reducible first | exact HB.out | apply below_alloc | apply pw_below_drewN | apply below_drew1) | exact HB.out)⟩⟩
                case round =>
                  clear H'
                  try clear c1
                  try clear c2
                  try clear p2
                  try clear q2
                  try clear hx2
                  try clear qi2
                  try clear c4
                  try clear p6
                  try clear c7
                  try clear c8
                  try clear c10
                  try clear c10b0
                  try clear c10b1
                  try clear c13
                  try clear c13b0
                  try clear c13b1
                  try clear c13b2
                  try clear c15
                  try clear c15b0
                  try clear c15b1
                  try clear c16
                  try clear c16b0
                  try clear c16b1
                  try clear c18
                  try clear c18b0
                  try clear c19
                  try clear c19b0
                  try clear c22
                  try clear hx289_0
                  try clear hx290_0
                  try clear p2
                  try clear p289
                  try clear p290
                  try clear p6
                  try clear q2
                  try clear q289
                  try clear q290
                  obtain ⟨x9_3, rfl, HA, HK3, HO_7, HB⟩ := hrel
                  cases gk with
                  | zero => exact absurd HA.out (by simp [scansionlaw20_ThaiRises.l0])
                  | succ k3 =>
                    have H := HA.out
                    clear HA
                    simp only [scansionlaw20_ThaiRises.l0] at H
                    by_cases c23 : x9_3 < (t285.length : Int)
                    · rw [if_pos c23] at H
                      have c23b0 : decide (x9_3 < (t285.length : Int)) = true := decide_eq_true c23
                      clear c23
                      have H' := Aside0.mk H
                      clear H
                      obtain ⟨Ao24, co24, eo24⟩ := Kd.R_slice HO_7.out
                      subst eo24
                      go_wp2
                      repeat (go_quiet (fail); try go_wp2)
                      go_loopg [10, 11, 12] k3 (fun kq v10 v11 v12 w' => ∃ (x10_4 : Bool) (x11_4 : Bool) (x12_4 : Int), v10 = .bool x10_4 ∧ v11 = .bool x11_4 ∧ v12 = .int .i64 x12_4 ∧ Aside0 (scansionlaw20_ThaiRises.l1 kq l1 t285 x9_3 x10_4 x11_4 x12_4 = some r) ∧ Aside0 (kq ≤ k3) ∧ Aside0 (Kd.R (Kd.int .i64) 3 w' w.heap.size (fun _ => True) (.slice Ao24 t285.length co24) t285) ∧ Aside0 (Below w.heap.size w w'))
                      case atStart => exact ⟨(false), (false), (0), (by first | rfl | (simp; done) | (simp [*]; done)), (by first | rfl | (simp; done) | (simp [*]; done)), (by first | rfl | (simp; done) | (simp [*]; done)), H', ⟨Nat.le_refl _⟩, ⟨by (with_reducible repeat (first | apply Kd.R_alloc | apply Kd.R_drewN | apply Kd.R_drew)); exact HO_7.out⟩, ⟨by repeat (first | (with_reducible first | exact HB.out | apply below_alloc | apply pw_below_drewN | apply below_drew1) | exact HB.out)⟩⟩
                      case round =>
                        clear H'
                        try clear c1
                        try clear c2
                        try clear p2
                        try clear q2
                        try clear hx2
                        try clear qi2
                        try clear c4
                        try clear p6
                        try clear c7
                        try clear c8
                        try clear c10
                        try clear c10b0
                        try clear c10b1
                        try clear c13
                        try clear c13b0
                        try clear c13b1
                        try clear c13b2
                        try clear c15
                        try clear c15b0
                        try clear c15b1
                        try clear c16
                        try clear c16b0
                        try clear c16b1
                        try clear c18
                        try clear c18b0
                        try clear c19
                        try clear c19b0
                        try clear c22
                        try clear c23
                        try clear c23b0
                        try clear hx289_0
                        try clear hx290_0
                        try clear p2
                        try clear p289
                        try clear p290
                        try clear p6
                        try clear q2
                        try clear q289
                        try clear q290
                        obtain ⟨x10_4, x11_4, x12_4, rfl, rfl, rfl, HA, HK4, HO_7, HB⟩ := hrel
                        cases gk with
                        | zero => exact absurd HA.out (by simp [scansionlaw20_ThaiRises.l1])
                        | succ k4 =>
                          have H := HA.out
                          clear HA
                          simp only [scansionlaw20_ThaiRises.l1] at H
                          by_cases c25 : x12_4 < (l1.length : Int)
                          · rw [if_pos c25] at H
                            have c25b0 : decide (x12_4 < (l1.length : Int)) = true := decide_eq_true c25
                            clear c25
                            by_cases c26 : x10_4 = true
                            · subst c26
                              have H1 : (if x11_4 = true then (scansionlaw20_ThaiRises.l1 k4 l1 t285 x9_3 true true (wrap64 (x12_4 + 1))) else (if 0 ≤ x12_4 then (if 0 ≤ (wrap64 (x9_3 - 1)) then (if (wrap64 (x9_3 - 1)) < (t285.length : Int) then (if ((rd_T31 l1 x12_4).f0) ≥ (rd t285 (wrap64 (x9_3 - 1))) then (if 0 ≤ x9_3 then (if x9_3 < (t285.length : Int) then (scansionlaw20_ThaiRises.l1 k4 l1 t285 x9_3 true (decide (((rd_T31 l1 x12_4).f0) < (rd t285 x9_3))) (wrap64 (x12_4 + 1))) else (none)) else (none)) else (scansionlaw20_ThaiRises.l1 k4 l1 t285 x9_3 true false (wrap64 (x12_4 + 1)))) else (none)) else (none)) else (none))) = some r := by rw [if_pos rfl] at H; exact H
                              clear H
                              have H := H1
                              clear H1
                              by_cases c27 : x11_4 = true
                              · subst c27
                                have H1 : (scansionlaw20_ThaiRises.l1 k4 l1 t285 x9_3 true true (wrap64 (x12_4 + 1))) = some r := by rw [if_pos rfl] at H; exact H
                                clear H
                                have H := H1
                                clear H1
                                have H' := Aside0.mk H
                                clear H
                                go_wp2
                                repeat (go_quiet (fail); try go_wp2)
                                go_roundg k4
                                case measure => have := HJ4.out; have := HJ10.out; have := HK3.out; have := HK4.out; omega
                                case rel => exact ⟨(true), (true), (wrap64 (x12_4 + 1)), (by first | rfl | (simp; done) | (simp [*]; done)), (by first | rfl | (simp; done) | (simp [*]; done)), (by first | rfl | (simp; done) | (simp [*]; done)), H', ⟨by have := HJ4.out; have := HJ10.out; have := HK3.out; have := HK4.out; omega⟩, ⟨by (with_reducible repeat (first | apply Kd.R_alloc | apply Kd.R_drewN | apply Kd.R_drew)); exact HO_7.out⟩, ⟨by repeat (first | (with_reducible first | exact HB.out | apply below_alloc | apply pw_below_drewN | apply below_drew1) | exact HB.out)⟩⟩
                              · replace c27 := Bool.eq_false_iff.mpr c27
                                subst c27
                                have H1 : (if 0 ≤ x12_4 then (if 0 ≤ (wrap64 (x9_3 - 1)) then (if (wrap64 (x9_3 - 1)) < (t285.length : Int) then (if ((rd_T31 l1 x12_4).f0) ≥ (rd t285 (wrap64 (x9_3 - 1))) then (if 0 ≤ x9_3 then (if x9_3 < (t285.length : Int) then (scansionlaw20_ThaiRises.l1 k4 l1 t285 x9_3 true (decide (((rd_T31 l1 x12_4).f0) < (rd t285 x9_3))) (wrap64 (x12_4 + 1))) else (none)) else (none)) else (scansionlaw20_ThaiRises.l1 k4 l1 t285 x9_3 true false (wrap64 (x12_4 + 1)))) else (none)) else (none)) else (none)) = some r := by rw [if_neg (show ¬ (false = true) by decide)] at H; exact H
                                clear H
                                have H := H1
                                clear H1
                                by_cases c28 : 0 ≤ x12_4
                                · rw [if_pos c28] at H
                                  have c28b0 : decide (0 ≤ x12_4) = true := decide_eq_true c28
                                  clear c28
                                  obtain ⟨ji29, hji29⟩ : ∃ j_ : Int, (wrap64 (x9_3 - 1)) = j_ := ⟨_, rfl⟩
                                  replace H : (if 0 ≤ (ji29) then (if (ji29) < (t285.length : Int) then (if ((rd_T31 l1 x12_4).f0) ≥ (rd t285 (ji29)) then (if 0 ≤ x9_3 then (if x9_3 < (t285.length : Int) then (scansionlaw20_ThaiRises.l1 k4 l1 t285 x9_3 true (decide (((rd_T31 l1 x12_4).f0) < (rd t285 x9_3))) (wrap64 (x12_4 + 1))) else (none)) else (none)) else (scansionlaw20_ThaiRises.l1 k4 l1 t285 x9_3 true false (wrap64 (x12_4 + 1)))) else (none)) else (none)) = some r := by first | (rw [hji29] at H; exact H) | (simp only [hji29] at H ⊢; exact H)
                                  have hji29w : (IntKind.i64.wrap (x9_3 - 1)) = ji29 := (i64_w _).trans hji29
                                  by_cases c30 : 0 ≤ (ji29)
                                  · rw [if_pos c30] at H
                                    have c30b0 : decide (0 ≤ (ji29)) = true := decide_eq_true c30
                                    clear c30
                                    by_cases c31 : (ji29) < (t285.length : Int)
                                    · rw [if_pos c31] at H
                                      have c31b0 : decide ((ji29) < (t285.length : Int)) = true := decide_eq_true c31
                                      clear c31
                                      by_cases c32 : ((rd_T31 l1 x12_4).f0) ≥ (rd t285 (ji29))
                                      · rw [if_pos c32] at H
                                        have c32b0 : decide ((rd t285 (ji29)) ≤ ((rd_T31 l1 x12_4).f0)) = true := decide_eq_true c32
                                        clear c32
                                        by_cases c33 : 0 ≤ x9_3
                                        · rw [if_pos c33] at H
                                          have c33b0 : decide (0 ≤ x9_3) = true := decide_eq_true c33
                                          clear c33
                                          by_cases c34 : x9_3 < (t285.length : Int)
                                          · rw [if_pos c34] at H
                                            have c34b0 : decide (x9_3 < (t285.length : Int)) = true := decide_eq_true c34
                                            clear c34
                                            have H' := Aside0.mk H
                                            clear H
                                            have p291 : 0 ≤ (x12_4 : Int) := of_decide_eq_true (by first | (with_reducible assumption) | assumption)
                                            have q291 : x12_4 < (l1.length : Int) := of_decide_eq_true (by first | (with_reducible assumption) | assumption)
                                            obtain ⟨ad291, e291, hx291_0, hx291_1, hx291_2⟩ := at_T31 HR1.out x12_4 p291 q291
                                            cases e291
                                            replace hx291_0 := (HB.out.cell (World.block_lt_of_cell? w _ hx291_0)).trans hx291_0
                                            replace hx291_1 := (HB.out.cell (World.block_lt_of_cell? w _ hx291_1)).trans hx291_1
                                            replace hx291_2 := (HB.out.cell (World.block_lt_of_cell? w _ hx291_2)).trans hx291_2
                                            replace p291 := eq_true p291
                                            replace q291 := eq_true q291
                                            have p292 : 0 ≤ ((ji29) : Int) := of_decide_eq_true (by first | (with_reducible assumption) | assumption)
                                            have q292 : (ji29) < (t285.length : Int) := of_decide_eq_true (by first | (with_reducible assumption) | assumption)
                                            obtain ⟨ad292, e292, hx292_0⟩ := Kd.at_int (Kd.R_reads' HO_7.out).2.2 (ji29) p292 q292
                                            cases e292
                                            replace p292 := eq_true p292
                                            replace q292 := eq_true q292
                                            have p293 : 0 ≤ (x12_4 : Int) := of_decide_eq_true (by first | (with_reducible assumption) | assumption)
                                            have q293 : x12_4 < (l1.length : Int) := of_decide_eq_true (by first | (with_reducible assumption) | assumption)
                                            obtain ⟨ad293, e293, hx293_0, hx293_1, hx293_2⟩ := at_T31 HR1.out x12_4 p293 q293
                                            obtain rfl : ad291 = ad293 := (by injection e293)
                                            replace hx293_0 := (HB.out.cell (World.block_lt_of_cell? w _ hx293_0)).trans hx293_0
                                            replace hx293_1 := (HB.out.cell (World.block_lt_of_cell? w _ hx293_1)).trans hx293_1
                                            replace hx293_2 := (HB.out.cell (World.block_lt_of_cell? w _ hx293_2)).trans hx293_2
                                            replace p293 := eq_true p293
                                            replace q293 := eq_true q293
                                            have p294 : 0 ≤ (x9_3 : Int) := of_decide_eq_true (by first | (with_reducible assumption) | assumption)
                                            have q294 : x9_3 < (t285.length : Int) := of_decide_eq_true (by first | (with_reducible assumption) | assumption)
                                            obtain ⟨ad294, e294, hx294_0⟩ := Kd.at_int (Kd.R_reads' HO_7.out).2.2 x9_3 p294 q294
                                            obtain rfl : ad292 = ad294 := (by injection e294)
                                            replace p294 := eq_true p294
                                            replace q294 := eq_true q294
                                            go_wp2
                                            repeat (go_quiet (fail); try go_wp2)
                                            go_roundg k4
                                            case measure => have := HJ4.out; have := HJ10.out; have := HK3.out; have := HK4.out; omega
                                            case rel => exact ⟨(true), (decide (((rd_T31 l1 x12_4).f0) < (rd t285 x9_3))), (wrap64 (x12_4 + 1)), (by first | rfl | (simp; done) | (simp [*]; done)), (by first | rfl | (simp; done) | (simp [*]; done)), (by first | rfl | (simp; done) | (simp [*]; done)), H', ⟨by have := HJ4.out; have := HJ10.out; have := HK3.out; have := HK4.out; omega⟩, ⟨by (with_reducible repeat (first | apply Kd.R_alloc | apply Kd.R_drewN | apply Kd.R_drew)); exact HO_7.out⟩, ⟨by repeat (first | (with_reducible first | exact HB.out | apply below_alloc | apply pw_below_drewN | apply below_drew1) | exact HB.out)⟩⟩
                                          · rw [if_neg c34] at H
                                            exact absurd H (by simp)
                                        · rw [if_neg c33] at H
                                          exact absurd H (by simp)
                                      · rw [if_neg c32] at H
                                        have c32b0 : decide ((rd t285 (ji29)) ≤ ((rd_T31 l1 x12_4).f0)) = false := decide_eq_false c32
                                        clear c32
                                        have H' := Aside0.mk H
                                        clear H
                                        have p291 : 0 ≤ (x12_4 : Int) := of_decide_eq_true (by first | (with_reducible assumption) | assumption)
                                        have q291 : x12_4 < (l1.length : Int) := of_decide_eq_true (by first | (with_reducible assumption) | assumption)
                                        obtain ⟨ad291, e291, hx291_0, hx291_1, hx291_2⟩ := at_T31 HR1.out x12_4 p291 q291
                                        cases e291
                                        replace hx291_0 := (HB.out.cell (World.block_lt_of_cell? w _ hx291_0)).trans hx291_0
                                        replace hx291_1 := (HB.out.cell (World.block_lt_of_cell? w _ hx291_1)).trans hx291_1
                                        replace hx291_2 := (HB.out.cell (World.block_lt_of_cell? w _ hx291_2)).trans hx291_2
                                        replace p291 := eq_true p291
                                        replace q291 := eq_true q291
                                        have p292 : 0 ≤ ((ji29) : Int) := of_decide_eq_true (by first | (with_reducible assumption) | assumption)
                                        have q292 : (ji29) < (t285.length : Int) := of_decide_eq_true (by first | (with_reducible assumption) | assumption)
                                        obtain ⟨ad292, e292, hx292_0⟩ := Kd.at_int (Kd.R_reads' HO_7.out).2.2 (ji29) p292 q292
                                        cases e292
                                        replace p292 := eq_true p292
                                        replace q292 := eq_true q292
                                        go_wp2
                                        repeat (go_quiet (fail); try go_wp2)
                                        go_roundg k4
                                        case measure => have := HJ4.out; have := HJ10.out; have := HK3.out; have := HK4.out; omega
                                        case rel => exact ⟨(true), (false), (wrap64 (x12_4 + 1)), (by first | rfl | (simp; done) | (simp [*]; done)), (by first | rfl | (simp; done) | (simp [*]; done)), (by first | rfl | (simp; done) | (simp [*]; done)), H', ⟨by have := HJ4.out; have := HJ10.out; have := HK3.out; have := HK4.out; omega⟩, ⟨by (with_reducible repeat (first | apply Kd.R_alloc | apply Kd.R_drewN | apply Kd.R_drew)); exact HO_7.out⟩, ⟨by repeat (first | (with_reducible first | exact HB.out | apply below_alloc | apply pw_below_drewN | apply below_drew1) | exact HB.out)⟩⟩
                                    · rw [if_neg c31] at H
                                      exact absurd H (by simp)
                                  · rw [if_neg c30] at H
                                    exact absurd H (by simp)
                                · rw [if_neg c28] at H
                                  exact absurd H (by simp)
                            · replace c26 := Bool.eq_false_iff.mpr c26
                              subst c26
                              have H1 : (if 0 ≤ x12_4 then (if 0 ≤ (wrap64 (x9_3 - 1)) then (if (wrap64 (x9_3 - 1)) < (t285.length : Int) then (if ((rd_T31 l1 x12_4).f0) = (rd t285 (wrap64 (x9_3 - 1))) then (if 0 ≤ x9_3 then (if x9_3 < (t285.length : Int) then (if x11_4 = true then (scansionlaw20_ThaiRises.l1 k4 l1 t285 x9_3 (((rd_T31 l1 x12_4).f1) == (rd t285 x9_3)) true (wrap64 (x12_4 + 1))) else (if ((rd_T31 l1 x12_4).f0) ≥ (rd t285 (wrap64 (x9_3 - 1))) then (scansionlaw20_ThaiRises.l1 k4 l1 t285 x9_3 (((rd_T31 l1 x12_4).f1) == (rd t285 x9_3)) (decide (((rd_T31 l1 x12_4).f0) < (rd t285 x9_3))) (wrap64 (x12_4 + 1))) else (scansionlaw20_ThaiRises.l1 k4 l1 t285 x9_3 (((rd_T31 l1 x12_4).f1) == (rd t285 x9_3)) false (wrap64 (x12_4 + 1))))) else (none)) else (none)) else (if x11_4 = true then (scansionlaw20_ThaiRises.l1 k4 l1 t285 x9_3 false true (wrap64 (x12_4 + 1))) else (if ((rd_T31 l1 x12_4).f0) ≥ (rd t285 (wrap64 (x9_3 - 1))) then (if 0 ≤ x9_3 then (if x9_3 < (t285.length : Int) then (scansionlaw20_ThaiRises.l1 k4 l1 t285 x9_3 false (decide (((rd_T31 l1 x12_4).f0) < (rd t285 x9_3))) (wrap64 (x12_4 + 1))) else (none)) else (none)) else (scansionlaw20_ThaiRises.l1 k4 l1 t285 x9_3 false false (wrap64 (x12_4 + 1)))))) else (none)) else (none)) else (none)) = some r := by rw [if_neg (show ¬ (false = true) by decide)] at H; exact H
                              clear H
                              have H := H1
                              clear H1
                              by_cases c35 : 0 ≤ x12_4
                              · rw [if_pos c35] at H
                                have c35b0 : decide (0 ≤ x12_4) = true := decide_eq_true c35
                                clear c35
                                obtain ⟨ji36, hji36⟩ : ∃ j_ : Int, (wrap64 (x9_3 - 1)) = j_ := ⟨_, rfl⟩
                                replace H : (if 0 ≤ (ji36) then (if (ji36) < (t285.length : Int) then (if ((rd_T31 l1 x12_4).f0) = (rd t285 (ji36)) then (if 0 ≤ x9_3 then (if x9_3 < (t285.length : Int) then (if x11_4 = true then (scansionlaw20_ThaiRises.l1 k4 l1 t285 x9_3 (((rd_T31 l1 x12_4).f1) == (rd t285 x9_3)) true (wrap64 (x12_4 + 1))) else (if ((rd_T31 l1 x12_4).f0) ≥ (rd t285 (ji36)) then (scansionlaw20_ThaiRises.l1 k4 l1 t285 x9_3 (((rd_T31 l1 x12_4).f1) == (rd t285 x9_3)) (decide (((rd_T31 l1 x12_4).f0) < (rd t285 x9_3))) (wrap64 (x12_4 + 1))) else (scansionlaw20_ThaiRises.l1 k4 l1 t285 x9_3 (((rd_T31 l1 x12_4).f1) == (rd t285 x9_3)) false (wrap64 (x12_4 + 1))))) else (none)) else (none)) else (if x11_4 = true then (scansionlaw20_ThaiRises.l1 k4 l1 t285 x9_3 false true (wrap64 (x12_4 + 1))) else (if ((rd_T31 l1 x12_4).f0) ≥ (rd t285 (ji36)) then (if 0 ≤ x9_3 then (if x9_3 < (t285.length : Int) then (scansionlaw20_ThaiRises.l1 k4 l1 t285 x9_3 false (decide (((rd_T31 l1 x12_4).f0) < (rd t285 x9_3))) (wrap64 (x12_4 + 1))) else (none)) else (none)) else (scansionlaw20_ThaiRises.l1 k4 l1 t285 x9_3 false false (wrap64 (x12_4 + 1)))))) else (none)) else (none)) = some r := by first | (rw [hji36] at H; exact H) | (simp only [hji36] at H ⊢; exact H)
                                have hji36w : (IntKind.i64.wrap (x9_3 - 1)) = ji36 := (i64_w _).trans hji36
                                by_cases c37 : 0 ≤ (ji36)
                                · rw [if_pos c37] at H
                                  have c37b0 : decide (0 ≤ (ji36)) = true := decide_eq_true c37
                                  clear c37
                                  by_cases c38 : (ji36) < (t285.length : Int)
                                  · rw [if_pos c38] at H
                                    have c38b0 : decide ((ji36) < (t285.length : Int)) = true := decide_eq_true c38
                                    clear c38
                                    by_cases c39 : ((rd_T31 l1 x12_4).f0) = (rd t285 (ji36))
                                    · rw [if_pos c39] at H
                                      have c39b0 : (((rd_T31 l1 x12_4).f0) == (rd t285 (ji36))) = true := beq_iff_eq.mpr c39
                                      have c39b1 : (((rd_T31 l1 x12_4).f0) != (rd t285 (ji36))) = false := bne_eq_false_iff_eq.mpr c39
                                      clear c39
                                      by_cases c40 : 0 ≤ x9_3
                                      · rw [if_pos c40] at H
                                        have c40b0 : decide (0 ≤ x9_3) = true := decide_eq_true c40
                                        clear c40
                                        by_cases c41 : x9_3 < (t285.length : Int)
                                        · rw [if_pos c41] at H
                                          have c41b0 : decide (x9_3 < (t285.length : Int)) = true := decide_eq_true c41
                                          clear c41
                                          by_cases c42 : x11_4 = true
                                          · subst c42
                                            have H1 : (scansionlaw20_ThaiRises.l1 k4 l1 t285 x9_3 (((rd_T31 l1 x12_4).f1) == (rd t285 x9_3)) true (wrap64 (x12_4 + 1))) = some r := by rw [if_pos rfl] at H; exact H
                                            clear H
                                            have H := H1
                                            clear H1
                                            have H' := Aside0.mk H
                                            clear H
                                            have p295 : 0 ≤ (x12_4 : Int) := of_decide_eq_true (by first | (with_reducible assumption) | assumption)
                                            have q295 : x12_4 < (l1.length : Int) := of_decide_eq_true (by first | (with_reducible assumption) | assumption)
                                            obtain ⟨ad295, e295, hx295_0, hx295_1, hx295_2⟩ := at_T31 HR1.out x12_4 p295 q295
                                            cases e295
                                            replace hx295_0 := (HB.out.cell (World.block_lt_of_cell? w _ hx295_0)).trans hx295_0
                                            replace hx295_1 := (HB.out.cell (World.block_lt_of_cell? w _ hx295_1)).trans hx295_1
                                            replace hx295_2 := (HB.out.cell (World.block_lt_of_cell? w _ hx295_2)).trans hx295_2
                                            replace p295 := eq_true p295
                                            replace q295 := eq_true q295
                                            have p296 : 0 ≤ ((ji36) : Int) := of_decide_eq_true (by first | (with_reducible assumption) | assumption)
                                            have q296 : (ji36) < (t285.length : Int) := of_decide_eq_true (by first | (with_reducible assumption) | assumption)
                                            obtain ⟨ad296, e296, hx296_0⟩ := Kd.at_int (Kd.R_reads' HO_7.out).2.2 (ji36) p296 q296
                                            cases e296
                                            replace p296 := eq_true p296
                                            replace q296 := eq_true q296
                                            have p297 : 0 ≤ (x12_4 : Int) := of_decide_eq_true (by first | (with_reducible assumption) | assumption)
                                            have q297 : x12_4 < (l1.length : Int) := of_decide_eq_true (by first | (with_reducible assumption) | assumption)
                                            obtain ⟨ad297, e297, hx297_0, hx297_1, hx297_2⟩ := at_T31 HR1.out x12_4 p297 q297
                                            obtain rfl : ad295 = ad297 := (by injection e297)
                                            replace hx297_0 := (HB.out.cell (World.block_lt_of_cell? w _ hx297_0)).trans hx297_0
                                            replace hx297_1 := (HB.out.cell (World.block_lt_of_cell? w _ hx297_1)).trans hx297_1
                                            replace hx297_2 := (HB.out.cell (World.block_lt_of_cell? w _ hx297_2)).trans hx297_2
                                            replace p297 := eq_true p297
                                            replace q297 := eq_true q297
                                            have p298 : 0 ≤ (x9_3 : Int) := of_decide_eq_true (by first | (with_reducible assumption) | assumption)
                                            have q298 : x9_3 < (t285.length : Int) := of_decide_eq_true (by first | (with_reducible assumption) | assumption)
                                            obtain ⟨ad298, e298, hx298_0⟩ := Kd.at_int (Kd.R_reads' HO_7.out).2.2 x9_3 p298 q298
                                            obtain rfl : ad296 = ad298 := (by injection e298)
                                            replace p298 := eq_true p298
                                            replace q298 := eq_true q298
                                            go_wp2
                                            repeat (go_quiet (fail); try go_wp2)
                                            go_roundg k4
                                            case measure => have := HJ4.out; have := HJ10.out; have := HK3.out; have := HK4.out; omega
                                            case rel => exact ⟨((((rd_T31 l1 x12_4).f1) == (rd t285 x9_3))), (true), (wrap64 (x12_4 + 1)), (by first | rfl | (simp; done) | (simp [*]; done)), (by first | rfl | (simp; done) | (simp [*]; done)), (by first | rfl | (simp; done) | (simp [*]; done)), H', ⟨by have := HJ4.out; have := HJ10.out; have := HK3.out; have := HK4.out; omega⟩, ⟨by (with_reducible repeat (first | apply Kd.R_alloc | apply Kd.R_drewN | apply Kd.R_drew)); exact HO_7.out⟩, ⟨by repeat (first | (with_reducible first | exact HB.out | apply below_alloc | apply pw_below_drewN | apply below_drew1) | exact HB.out)⟩⟩
                                          · replace c42 := Bool.eq_false_iff.mpr c42
                                            subst c42
                                            have H1 : (if ((rd_T31 l1 x12_4).f0) ≥ (rd t285 (ji36)) then (scansionlaw20_ThaiRises.l1 k4 l1 t285 x9_3 (((rd_T31 l1 x12_4).f1) == (rd t285 x9_3)) (decide (((rd_T31 l1 x12_4).f0) < (rd t285 x9_3))) (wrap64 (x12_4 + 1))) else (scansionlaw20_ThaiRises.l1 k4 l1 t285 x9_3 (((rd_T31 l1 x12_4).f1) == (rd t285 x9_3)) false (wrap64 (x12_4 + 1)))) = some r := by rw [if_neg (show ¬ (false = true) by decide)] at H; exact H
                                            clear H
                                            have H := H1
                                            clear H1
                                            by_cases c43 : ((rd_T31 l1 x12_4).f0) ≥ (rd t285 (ji36))
                                            · rw [if_pos c43] at H
                                              have c43b0 : decide ((rd t285 (ji36)) ≤ ((rd_T31 l1 x12_4).f0)) = true := decide_eq_true c43
                                              clear c43
                                              have H' := Aside0.mk H
                                              clear H
                                              have p295 : 0 ≤ (x12_4 : Int) := of_decide_eq_true (by first | (with_reducible assumption) | assumption)
                                              have q295 : x12_4 < (l1.length : Int) := of_decide_eq_true (by first | (with_reducible assumption) | assumption)
                                              obtain ⟨ad295, e295, hx295_0, hx295_1, hx295_2⟩ := at_T31 HR1.out x12_4 p295 q295
                                              cases e295
                                              replace hx295_0 := (HB.out.cell (World.block_lt_of_cell? w _ hx295_0)).trans hx295_0
                                              replace hx295_1 := (HB.out.cell (World.block_lt_of_cell? w _ hx295_1)).trans hx295_1
                                              replace hx295_2 := (HB.out.cell (World.block_lt_of_cell? w _ hx295_2)).trans hx295_2
                                              replace p295 := eq_true p295
                                              replace q295 := eq_true q295
                                              have p296 : 0 ≤ ((ji36) : Int) := of_decide_eq_true (by first | (with_reducible assumption) | assumption)
                                              have q296 : (ji36) < (t285.length : Int) := of_decide_eq_true (by first | (with_reducible assumption) | assumption)
                                              obtain ⟨ad296, e296, hx296_0⟩ := Kd.at_int (Kd.R_reads' HO_7.out).2.2 (ji36) p296 q296
                                              cases e296
                                              replace p296 := eq_true p296
                                              replace q296 := eq_true q296
                                              have p297 : 0 ≤ (x12_4 : Int) := of_decide_eq_true (by first | (with_reducible assumption) | assumption)
                                              have q297 : x12_4 < (l1.length : Int) := of_decide_eq_true (by first | (with_reducible assumption) | assumption)
                                              obtain ⟨ad297, e297, hx297_0, hx297_1, hx297_2⟩ := at_T31 HR1.out x12_4 p297 q297
                                              obtain rfl : ad295 = ad297 := (by injection e297)
                                              replace hx297_0 := (HB.out.cell (World.block_lt_of_cell? w _ hx297_0)).trans hx297_0
                                              replace hx297_1 := (HB.out.cell (World.block_lt_of_cell? w _ hx297_1)).trans hx297_1
                                              replace hx297_2 := (HB.out.cell (World.block_lt_of_cell? w _ hx297_2)).trans hx297_2
                                              replace p297 := eq_true p297
                                              replace q297 := eq_true q297
                                              have p298 : 0 ≤ (x9_3 : Int) := of_decide_eq_true (by first | (with_reducible assumption) | assumption)
                                              have q298 : x9_3 < (t285.length : Int) := of_decide_eq_true (by first | (with_reducible assumption) | assumption)
                                              obtain ⟨ad298, e298, hx298_0⟩ := Kd.at_int (Kd.R_reads' HO_7.out).2.2 x9_3 p298 q298
                                              obtain rfl : ad296 = ad298 := (by injection e298)
                                              replace p298 := eq_true p298
                                              replace q298 := eq_true q298
                                              have p299 : 0 ≤ (x12_4 : Int) := of_decide_eq_true (by first | (with_reducible assumption) | assumption)
                                              have q299 : x12_4 < (l1.length : Int) := of_decide_eq_true (by first | (with_reducible assumption) | assumption)
                                              obtain ⟨ad299, e299, hx299_0, hx299_1, hx299_2⟩ := at_T31 HR1.out x12_4 p299 q299
                                              obtain rfl : ad295 = ad299 := (by injection e299)
                                              replace hx299_0 := (HB.out.cell (World.block_lt_of_cell? w _ hx299_0)).trans hx299_0
                                              replace hx299_1 := (HB.out.cell (World.block_lt_of_cell? w _ hx299_1)).trans hx299_1
                                              replace hx299_2 := (HB.out.cell (World.block_lt_of_cell? w _ hx299_2)).trans hx299_2
                                              replace p299 := eq_true p299
                                              replace q299 := eq_true q299
                                              have p300 : 0 ≤ ((ji36) : Int) := of_decide_eq_true (by first | (with_reducible assumption) | assumption)
                                              have q300 : (ji36) < (t285.length : Int) := of_decide_eq_true (by first | (with_reducible assumption) | assumption)
                                              obtain ⟨ad300, e300, hx300_0⟩ := Kd.at_int (Kd.R_reads' HO_7.out).2.2 (ji36) p300 q300
                                              obtain rfl : ad296 = ad300 := (by injection e300)
                                              replace p300 := eq_true p300
                                              replace q300 := eq_true q300
                                              have p301 : 0 ≤ (x12_4 : Int) := of_decide_eq_true (by first | (with_reducible assumption) | assumption)
                                              have q301 : x12_4 < (l1.length : Int) := of_decide_eq_true (by first | (with_reducible assumption) | assumption)
                                              obtain ⟨ad301, e301, hx301_0, hx301_1, hx301_2⟩ := at_T31 HR1.out x12_4 p301 q301
                                              obtain rfl : ad295 = ad301 := (by injection e301)
                                              replace hx301_0 := (HB.out.cell (World.block_lt_of_cell? w _ hx301_0)).trans hx301_0
                                              replace hx301_1 := (HB.out.cell (World.block_lt_of_cell? w _ hx301_1)).trans hx301_1
                                              replace hx301_2 := (HB.out.cell (World.block_lt_of_cell? w _ hx301_2)).trans hx301_2
                                              replace p301 := eq_true p301
                                              replace q301 := eq_true q301
                                              have p302 : 0 ≤ (x9_3 : Int) := of_decide_eq_true (by first | (with_reducible assumption) | assumption)
                                              have q302 : x9_3 < (t285.length : Int) := of_decide_eq_true (by first | (with_reducible assumption) | assumption)
                                              obtain ⟨ad302, e302, hx302_0⟩ := Kd.at_int (Kd.R_reads' HO_7.out).2.2 x9_3 p302 q302
                                              obtain rfl : ad296 = ad302 := (by injection e302)
                                              replace p302 := eq_true p302
                                              replace q302 := eq_true q302
                                              go_wp2
                                              repeat (go_quiet (fail); try go_wp2)
                                              go_roundg k4
                                              case measure => have := HJ4.out; have := HJ10.out; have := HK3.out; have := HK4.out; omega
                                              case rel => exact ⟨((((rd_T31 l1 x12_4).f1) == (rd t285 x9_3))), (decide (((rd_T31 l1 x12_4).f0) < (rd t285 x9_3))), (wrap64 (x12_4 + 1)), (by first | rfl | (simp; done) | (simp [*]; done)), (by first | rfl | (simp; done) | (simp [*]; done)), (by first | rfl | (simp; done) | (simp [*]; done)), H', ⟨by have := HJ4.out; have := HJ10.out; have := HK3.out; have := HK4.out; omega⟩, ⟨by (with_reducible repeat (first | apply Kd.R_alloc | apply Kd.R_drewN | apply Kd.R_drew)); exact HO_7.out⟩, ⟨by repeat (first | (with_reducible first | exact HB.out | apply below_alloc | apply pw_below_drewN | apply below_drew1) | exact HB.out)⟩⟩
                                            · rw [if_neg c43] at H
                                              have c43b0 : decide ((rd t285 (ji36)) ≤ ((rd_T31 l1 x12_4).f0)) = false := decide_eq_false c43
                                              clear c43
                                              have H' := Aside0.mk H
                                              clear H
                                              have p295 : 0 ≤ (x12_4 : Int) := of_decide_eq_true (by first | (with_reducible assumption) | assumption)
                                              have q295 : x12_4 < (l1.length : Int) := of_decide_eq_true (by first | (with_reducible assumption) | assumption)
                                              obtain ⟨ad295, e295, hx295_0, hx295_1, hx295_2⟩ := at_T31 HR1.out x12_4 p295 q295
                                              cases e295
                                              replace hx295_0 := (HB.out.cell (World.block_lt_of_cell? w _ hx295_0)).trans hx295_0
                                              replace hx295_1 := (HB.out.cell (World.block_lt_of_cell? w _ hx295_1)).trans hx295_1
                                              replace hx295_2 := (HB.out.cell (World.block_lt_of_cell? w _ hx295_2)).trans hx295_2
                                              replace p295 := eq_true p295
                                              replace q295 := eq_true q295
                                              have p296 : 0 ≤ ((ji36) : Int) := of_decide_eq_true (by first | (with_reducible assumption) | assumption)
                                              have q296 : (ji36) < (t285.length : Int) := of_decide_eq_true (by first | (with_reducible assumption) | assumption)
                                              obtain ⟨ad296, e296, hx296_0⟩ := Kd.at_int (Kd.R_reads' HO_7.out).2.2 (ji36) p296 q296
                                              cases e296
                                              replace p296 := eq_true p296
                                              replace q296 := eq_true q296
                                              have p297 : 0 ≤ (x12_4 : Int) := of_decide_eq_true (by first | (with_reducible assumption) | assumption)
                                              have q297 : x12_4 < (l1.length : Int) := of_decide_eq_true (by first | (with_reducible assumption) | assumption)
                                              obtain ⟨ad297, e297, hx297_0, hx297_1, hx297_2⟩ := at_T31 HR1.out x12_4 p297 q297
                                              obtain rfl : ad295 = ad297 := (by injection e297)
                                              replace hx297_0 := (HB.out.cell (World.block_lt_of_cell? w _ hx297_0)).trans hx297_0
                                              replace hx297_1 := (HB.out.cell (World.block_lt_of_cell? w _ hx297_1)).trans hx297_1
                                              replace hx297_2 := (HB.out.cell (World.block_lt_of_cell? w _ hx297_2)).trans hx297_2
                                              replace p297 := eq_true p297
                                              replace q297 := eq_true q297
                                              have p298 : 0 ≤ (x9_3 : Int) := of_decide_eq_true (by first | (with_reducible assumption) | assumption)
                                              have q298 : x9_3 < (t285.length : Int) := of_decide_eq_true (by first | (with_reducible assumption) | assumption)
                                              obtain ⟨ad298, e298, hx298_0⟩ := Kd.at_int (Kd.R_reads' HO_7.out).2.2 x9_3 p298 q298
                                              obtain rfl : ad296 = ad298 := (by injection e298)
                                              replace p298 := eq_true p298
                                              replace q298 := eq_true q298
                                              have p299 : 0 ≤ (x12_4 : Int) := of_decide_eq_true (by first | (with_reducible assumption) | assumption)
                                              have q299 : x12_4 < (l1.length : Int) := of_decide_eq_true (by first | (with_reducible assumption) | assumption)
                                              obtain ⟨ad299, e299, hx299_0, hx299_1, hx299_2⟩ := at_T31 HR1.out x12_4 p299 q299
                                              obtain rfl : ad295 = ad299 := (by injection e299)
                                              replace hx299_0 := (HB.out.cell (World.block_lt_of_cell? w _ hx299_0)).trans hx299_0
                                              replace hx299_1 := (HB.out.cell (World.block_lt_of_cell? w _ hx299_1)).trans hx299_1
                                              replace hx299_2 := (HB.out.cell (World.block_lt_of_cell? w _ hx299_2)).trans hx299_2
                                              replace p299 := eq_true p299
                                              replace q299 := eq_true q299
                                              have p300 : 0 ≤ ((ji36) : Int) := of_decide_eq_true (by first | (with_reducible assumption) | assumption)
                                              have q300 : (ji36) < (t285.length : Int) := of_decide_eq_true (by first | (with_reducible assumption) | assumption)
                                              obtain ⟨ad300, e300, hx300_0⟩ := Kd.at_int (Kd.R_reads' HO_7.out).2.2 (ji36) p300 q300
                                              obtain rfl : ad296 = ad300 := (by injection e300)
                                              replace p300 := eq_true p300
                                              replace q300 := eq_true q300
                                              go_wp2
                                              repeat (go_quiet (fail); try go_wp2)
                                              go_roundg k4
                                              case measure => have := HJ4.out; have := HJ10.out; have := HK3.out; have := HK4.out; omega
                                              case rel => exact ⟨((((rd_T31 l1 x12_4).f1) == (rd t285 x9_3))), (false), (wrap64 (x12_4 + 1)), (by first | rfl | (simp; done) | (simp [*]; done)), (by first | rfl | (simp; done) | (simp [*]; done)), (by first | rfl | (simp; done) | (simp [*]; done)), H', ⟨by have := HJ4.out; have := HJ10.out; have := HK3.out; have := HK4.out; omega⟩, ⟨by (with_reducible repeat (first | apply Kd.R_alloc | apply Kd.R_drewN | apply Kd.R_drew)); exact HO_7.out⟩, ⟨by repeat (first | (with_reducible first | exact HB.out | apply below_alloc | apply pw_below_drewN | apply below_drew1) | exact HB.out)⟩⟩
                                        · rw [if_neg c41] at H
                                          exact absurd H (by simp)
                                      · rw [if_neg c40] at H
                                        exact absurd H (by simp)
                                    · rw [if_neg c39] at H
                                      have c39b0 : (((rd_T31 l1 x12_4).f0) == (rd t285 (ji36))) = false := beq_eq_false_iff_ne.mpr c39
                                      have c39b1 : (((rd_T31 l1 x12_4).f0) != (rd t285 (ji36))) = true := bne_iff_ne.mpr c39
                                      by_cases c44 : x11_4 = true
                                      · subst c44
                                        have H1 : (scansionlaw20_ThaiRises.l1 k4 l1 t285 x9_3 false true (wrap64 (x12_4 + 1))) = some r := by rw [if_pos rfl] at H; exact H
                                        clear H
                                        have H := H1
                                        clear H1
                                        have H' := Aside0.mk H
                                        clear H
                                        have p295 : 0 ≤ (x12_4 : Int) := of_decide_eq_true (by first | (with_reducible assumption) | assumption)
                                        have q295 : x12_4 < (l1.length : Int) := of_decide_eq_true (by first | (with_reducible assumption) | assumption)
                                        obtain ⟨ad295, e295, hx295_0, hx295_1, hx295_2⟩ := at_T31 HR1.out x12_4 p295 q295
                                        cases e295
                                        replace hx295_0 := (HB.out.cell (World.block_lt_of_cell? w _ hx295_0)).trans hx295_0
                                        replace hx295_1 := (HB.out.cell (World.block_lt_of_cell? w _ hx295_1)).trans hx295_1
                                        replace hx295_2 := (HB.out.cell (World.block_lt_of_cell? w _ hx295_2)).trans hx295_2
                                        replace p295 := eq_true p295
                                        replace q295 := eq_true q295
                                        have p296 : 0 ≤ ((ji36) : Int) := of_decide_eq_true (by first | (with_reducible assumption) | assumption)
                                        have q296 : (ji36) < (t285.length : Int) := of_decide_eq_true (by first | (with_reducible assumption) | assumption)
                                        obtain ⟨ad296, e296, hx296_0⟩ := Kd.at_int (Kd.R_reads' HO_7.out).2.2 (ji36) p296 q296
                                        cases e296
                                        replace p296 := eq_true p296
                                        replace q296 := eq_true q296
                                        go_wp2
                                        repeat (go_quiet (fail); try go_wp2)
                                        go_roundg k4
                                        case measure => have := HJ4.out; have := HJ10.out; have := HK3.out; have := HK4.out; omega
                                        case rel => exact ⟨(false), (true), (wrap64 (x12_4 + 1)), (by first | rfl | (simp; done) | (simp [*]; done)), (by first | rfl | (simp; done) | (simp [*]; done)), (by first | rfl | (simp; done) | (simp [*]; done)), H', ⟨by have := HJ4.out; have := HJ10.out; have := HK3.out; have := HK4.out; omega⟩, ⟨by (with_reducible repeat (first | apply Kd.R_alloc | apply Kd.R_drewN | apply Kd.R_drew)); exact HO_7.out⟩, ⟨by repeat (first | (with_reducible first | exact HB.out | apply below_alloc | apply pw_below_drewN | apply below_drew1) | exact HB.out)⟩⟩
                                      · replace c44 := Bool.eq_false_iff.mpr c44
                                        subst c44
                                        have H1 : (if ((rd_T31 l1 x12_4).f0) ≥ (rd t285 (ji36)) then (if 0 ≤ x9_3 then (if x9_3 < (t285.length : Int) then (scansionlaw20_ThaiRises.l1 k4 l1 t285 x9_3 false (decide (((rd_T31 l1 x12_4).f0) < (rd t285 x9_3))) (wrap64 (x12_4 + 1))) else (none)) else (none)) else (scansionlaw20_ThaiRises.l1 k4 l1 t285 x9_3 false false (wrap64 (x12_4 + 1)))) = some r := by rw [if_neg (show ¬ (false = true) by decide)] at H; exact H
                                        clear H
                                        have H := H1
                                        clear H1
                                        by_cases c45 : ((rd_T31 l1 x12_4).f0) ≥ (rd t285 (ji36))
                                        · rw [if_pos c45] at H
                                          have c45b0 : decide ((rd t285 (ji36)) ≤ ((rd_T31 l1 x12_4).f0)) = true := decide_eq_true c45
                                          clear c45
                                          by_cases c46 : 0 ≤ x9_3
                                          · rw [if_pos c46] at H
                                            have c46b0 : decide (0 ≤ x9_3) = true := decide_eq_true c46
                                            clear c46
                                            by_cases c47 : x9_3 < (t285.length : Int)
                                            · rw [if_pos c47] at H
                                              have c47b0 : decide (x9_3 < (t285.length : Int)) = true := decide_eq_true c47
                                              clear c47
                                              have H' := Aside0.mk H
                                              clear H
                                              have p295 : 0 ≤ (x12_4 : Int) := of_decide_eq_true (by first | (with_reducible assumption) | assumption)
                                              have q295 : x12_4 < (l1.length : Int) := of_decide_eq_true (by first | (with_reducible assumption) | assumption)
                                              obtain ⟨ad295, e295, hx295_0, hx295_1, hx295_2⟩ := at_T31 HR1.out x12_4 p295 q295
                                              cases e295
                                              replace hx295_0 := (HB.out.cell (World.block_lt_of_cell? w _ hx295_0)).trans hx295_0
                                              replace hx295_1 := (HB.out.cell (World.block_lt_of_cell? w _ hx295_1)).trans hx295_1
                                              replace hx295_2 := (HB.out.cell (World.block_lt_of_cell? w _ hx295_2)).trans hx295_2
                                              replace p295 := eq_true p295
                                              replace q295 := eq_true q295
                                              have p296 : 0 ≤ ((ji36) : Int) := of_decide_eq_true (by first | (with_reducible assumption) | assumption)
                                              have q296 : (ji36) < (t285.length : Int) := of_decide_eq_true (by first | (with_reducible assumption) | assumption)
                                              obtain ⟨ad296, e296, hx296_0⟩ := Kd.at_int (Kd.R_reads' HO_7.out).2.2 (ji36) p296 q296
                                              cases e296
                                              replace p296 := eq_true p296
                                              replace q296 := eq_true q296
                                              have p303 : 0 ≤ (x12_4 : Int) := of_decide_eq_true (by first | (with_reducible assumption) | assumption)
                                              have q303 : x12_4 < (l1.length : Int) := of_decide_eq_true (by first | (with_reducible assumption) | assumption)
                                              obtain ⟨ad303, e303, hx303_0, hx303_1, hx303_2⟩ := at_T31 HR1.out x12_4 p303 q303
                                              obtain rfl : ad295 = ad303 := (by injection e303)
                                              replace hx303_0 := (HB.out.cell (World.block_lt_of_cell? w _ hx303_0)).trans hx303_0
                                              replace hx303_1 := (HB.out.cell (World.block_lt_of_cell? w _ hx303_1)).trans hx303_1
                                              replace hx303_2 := (HB.out.cell (World.block_lt_of_cell? w _ hx303_2)).trans hx303_2
                                              replace p303 := eq_true p303
                                              replace q303 := eq_true q303
                                              have p304 : 0 ≤ ((ji36) : Int) := of_decide_eq_true (by first | (with_reducible assumption) | assumption)
                                              have q304 : (ji36) < (t285.length : Int) := of_decide_eq_true (by first | (with_reducible assumption) | assumption)
                                              obtain ⟨ad304, e304, hx304_0⟩ := Kd.at_int (Kd.R_reads' HO_7.out).2.2 (ji36) p304 q304
                                              obtain rfl : ad296 = ad304 := (by injection e304)
                                              replace p304 := eq_true p304
                                              replace q304 := eq_true q304
                                              have p305 : 0 ≤ (x12_4 : Int) := of_decide_eq_true (by first | (with_reducible assumption) | assumption)
                                              have q305 : x12_4 < (l1.length : Int) := of_decide_eq_true (by first | (with_reducible assumption) | assumption)
                                              obtain ⟨ad305, e305, hx305_0, hx305_1, hx305_2⟩ := at_T31 HR1.out x12_4 p305 q305
                                              obtain rfl : ad295 = ad305 := (by injection e305)
                                              replace hx305_0 := (HB.out.cell (World.block_lt_of_cell? w _ hx305_0)).trans hx305_0
                                              replace hx305_1 := (HB.out.cell (World.block_lt_of_cell? w _ hx305_1)).trans hx305_1
                                              replace hx305_2 := (HB.out.cell (World.block_lt_of_cell? w _ hx305_2)).trans hx305_2
                                              replace p305 := eq_true p305
                                              replace q305 := eq_true q305
                                              have p306 : 0 ≤ (x9_3 : Int) := of_decide_eq_true (by first | (with_reducible assumption) | assumption)
                                              have q306 : x9_3 < (t285.length : Int) := of_decide_eq_true (by first | (with_reducible assumption) | assumption)
                                              obtain ⟨ad306, e306, hx306_0⟩ := Kd.at_int (Kd.R_reads' HO_7.out).2.2 x9_3 p306 q306
                                              obtain rfl : ad296 = ad306 := (by injection e306)
                                              replace p306 := eq_true p306
                                              replace q306 := eq_true q306
                                              go_wp2
                                              repeat (go_quiet (fail); try go_wp2)
                                              go_roundg k4
                                              case measure => have := HJ4.out; have := HJ10.out; have := HK3.out; have := HK4.out; omega
                                              case rel => exact ⟨(false), (decide (((rd_T31 l1 x12_4).f0) < (rd t285 x9_3))), (wrap64 (x12_4 + 1)), (by first | rfl | (simp; done) | (simp [*]; done)), (by first | rfl | (simp; done) | (simp [*]; done)), (by first | rfl | (simp; done) | (simp [*]; done)), H', ⟨by have := HJ4.out; have := HJ10.out; have := HK3.out; have := HK4.out; omega⟩, ⟨by (with_reducible repeat (first | apply Kd.R_alloc | apply Kd.R_drewN | apply Kd.R_drew)); exact HO_7.out⟩, ⟨by repeat (first | (with_reducible first | exact HB.out | apply below_alloc | apply pw_below_drewN | apply below_drew1) | exact HB.out)⟩⟩
                                            · rw [if_neg c47] at H
                                              exact absurd H (by simp)
                                          · rw [if_neg c46] at H
                                            exact absurd H (by simp)
                                        · rw [if_neg c45] at H
                                          have c45b0 : decide ((rd t285 (ji36)) ≤ ((rd_T31 l1 x12_4).f0)) = false := decide_eq_false c45
                                          clear c45
                                          have H' := Aside0.mk H
                                          clear H
                                          have p295 : 0 ≤ (x12_4 : Int) := of_decide_eq_true (by first | (with_reducible assumption) | assumption)
                                          have q295 : x12_4 < (l1.length : Int) := of_decide_eq_true (by first | (with_reducible assumption) | assumption)
                                          obtain ⟨ad295, e295, hx295_0, hx295_1, hx295_2⟩ := at_T31 HR1.out x12_4 p295 q295
                                          cases e295
                                          replace hx295_0 := (HB.out.cell (World.block_lt_of_cell? w _ hx295_0)).trans hx295_0
                                          replace hx295_1 := (HB.out.cell (World.block_lt_of_cell? w _ hx295_1)).trans hx295_1
                                          replace hx295_2 := (HB.out.cell (World.block_lt_of_cell? w _ hx295_2)).trans hx295_2
                                          replace p295 := eq_true p295
                                          replace q295 := eq_true q295
                                          have p296 : 0 ≤ ((ji36) : Int) := of_decide_eq_true (by first | (with_reducible assumption) | assumption)
                                          have q296 : (ji36) < (t285.length : Int) := of_decide_eq_true (by first | (with_reducible assumption) | assumption)
                                          obtain ⟨ad296, e296, hx296_0⟩ := Kd.at_int (Kd.R_reads' HO_7.out).2.2 (ji36) p296 q296
                                          cases e296
                                          replace p296 := eq_true p296
                                          replace q296 := eq_true q296
                                          have p303 : 0 ≤ (x12_4 : Int) := of_decide_eq_true (by first | (with_reducible assumption) | assumption)
                                          have q303 : x12_4 < (l1.length : Int) := of_decide_eq_true (by first | (with_reducible assumption) | assumption)
                                          obtain ⟨ad303, e303, hx303_0, hx303_1, hx303_2⟩ := at_T31 HR1.out x12_4 p303 q303
                                          obtain rfl : ad295 = ad303 := (by injection e303)
                                          replace hx303_0 := (HB.out.cell (World.block_lt_of_cell? w _ hx303_0)).trans hx303_0
                                          replace hx303_1 := (HB.out.cell (World.block_lt_of_cell? w _ hx303_1)).trans hx303_1
                                          replace hx303_2 := (HB.out.cell (World.block_lt_of_cell? w _ hx303_2)).trans hx303_2
                                          replace p303 := eq_true p303
                                          replace q303 := eq_true q303
                                          have p304 : 0 ≤ ((ji36) : Int) := of_decide_eq_true (by first | (with_reducible assumption) | assumption)
                                          have q304 : (ji36) < (t285.length : Int) := of_decide_eq_true (by first | (with_reducible assumption) | assumption)
                                          obtain ⟨ad304, e304, hx304_0⟩ := Kd.at_int (Kd.R_reads' HO_7.out).2.2 (ji36) p304 q304
                                          obtain rfl : ad296 = ad304 := (by injection e304)
                                          replace p304 := eq_true p304
                                          replace q304 := eq_true q304
                                          go_wp2
                                          repeat (go_quiet (fail); try go_wp2)
                                          go_roundg k4
                                          case measure => have := HJ4.out; have := HJ10.out; have := HK3.out; have := HK4.out; omega
                                          case rel => exact ⟨(false), (false), (wrap64 (x12_4 + 1)), (by first | rfl | (simp; done) | (simp [*]; done)), (by first | rfl | (simp; done) | (simp [*]; done)), (by first | rfl | (simp; done) | (simp [*]; done)), H', ⟨by have := HJ4.out; have := HJ10.out; have := HK3.out; have := HK4.out; omega⟩, ⟨by (with_reducible repeat (first | apply Kd.R_alloc | apply Kd.R_drewN | apply Kd.R_drew)); exact HO_7.out⟩, ⟨by repeat (first | (with_reducible first | exact HB.out | apply below_alloc | apply pw_below_drewN | apply below_drew1) | exact HB.out)⟩⟩
                                  · rw [if_neg c38] at H
                                    exact absurd H (by simp)
                                · rw [if_neg c37] at H
                                  exact absurd H (by simp)
                              · rw [if_neg c35] at H
                                exact absurd H (by simp)
                          · rw [if_neg c25] at H
                            have c25b0 : decide (x12_4 < (l1.length : Int)) = false := decide_eq_false c25
                            clear c25
                            by_cases c48 : 0 ≤ x9_3
                            · rw [if_pos c48] at H
                              have c48b0 : decide (0 ≤ x9_3) = true := decide_eq_true c48
                              clear c48
                              by_cases c49 : x9_3 < (t285.length : Int)
                              · rw [if_pos c49] at H
                                have c49b0 : decide (x9_3 < (t285.length : Int)) = true := decide_eq_true c49
                                clear c49
                                obtain ⟨ji50, hji50⟩ : ∃ j_ : Int, (wrap64 (x9_3 - 1)) = j_ := ⟨_, rfl⟩
                                replace H : (if 0 ≤ (ji50) then (if (ji50) < (t285.length : Int) then (if (rd t285 x9_3) ≤ (rd t285 (ji50)) then (some false) else (if x10_4 = true then (scansionlaw20_ThaiRises.l0 k4 l1 t285 (wrap64 (x9_3 + 1))) else (if x11_4 = true then (some false) else (scansionlaw20_ThaiRises.l0 k4 l1 t285 (wrap64 (x9_3 + 1)))))) else (none)) else (none)) = some r := by first | (rw [hji50] at H; exact H) | (simp only [hji50] at H ⊢; exact H)
                                have hji50w : (IntKind.i64.wrap (x9_3 - 1)) = ji50 := (i64_w _).trans hji50
                                by_cases c51 : 0 ≤ (ji50)
                                · rw [if_pos c51] at H
                                  have c51b0 : decide (0 ≤ (ji50)) = true := decide_eq_true c51
                                  clear c51
                                  by_cases c52 : (ji50) < (t285.length : Int)
                                  · rw [if_pos c52] at H
                                    have c52b0 : decide ((ji50) < (t285.length : Int)) = true := decide_eq_true c52
                                    clear c52
                                    by_cases c53 : (rd t285 x9_3) ≤ (rd t285 (ji50))
                                    · rw [if_pos c53] at H
                                      have c53b0 : decide ((rd t285 x9_3) ≤ (rd t285 (ji50))) = true := decide_eq_true c53
                                      clear c53
                                      obtain rfl := Option.some.inj H
                                      have p307 : 0 ≤ (x9_3 : Int) := of_decide_eq_true (by first | (with_reducible assumption) | assumption)
                                      have q307 : x9_3 < (t285.length : Int) := of_decide_eq_true (by first | (with_reducible assumption) | assumption)
                                      obtain ⟨ad307, e307, hx307_0⟩ := Kd.at_int (Kd.R_reads' HO_7.out).2.2 x9_3 p307 q307
                                      cases e307
                                      replace p307 := eq_true p307
                                      replace q307 := eq_true q307
                                      have p308 : 0 ≤ ((ji50) : Int) := of_decide_eq_true (by first | (with_reducible assumption) | assumption)
                                      have q308 : (ji50) < (t285.length : Int) := of_decide_eq_true (by first | (with_reducible assumption) | assumption)
                                      obtain ⟨ad308, e308, hx308_0⟩ := Kd.at_int (Kd.R_reads' HO_7.out).2.2 (ji50) p308 q308
                                      obtain rfl : ad307 = ad308 := (by injection e308)
                                      replace p308 := eq_true p308
                                      replace q308 := eq_true q308
                                      go_wp2
                                      repeat (go_quiet (fail); try go_wp2)
                                      go_ret
                                      exact ⟨by first | rfl | (simp [errW_none, errW_some] <;> rfl) | (simp only [← hji50]; first | rfl | (simp [errW_none, errW_some] <;> rfl)) | (simp [*, errW_none, errW_some] <;> rfl), by repeat (first | (with_reducible first | exact HB.out | apply below_alloc | apply pw_below_drewN | apply below_drew1) | exact HB.out)⟩
                                    · rw [if_neg c53] at H
                                      have c53b0 : decide ((rd t285 x9_3) ≤ (rd t285 (ji50))) = false := decide_eq_false c53
                                      clear c53
                                      by_cases c54 : x10_4 = true
                                      · subst c54
                                        have H1 : (scansionlaw20_ThaiRises.l0 k4 l1 t285 (wrap64 (x9_3 + 1))) = some r := by rw [if_pos rfl] at H; exact H
                                        clear H
                                        have H := H1
                                        clear H1
                                        have H' := Aside0.mk H
                                        clear H
                                        have p307 : 0 ≤ (x9_3 : Int) := of_decide_eq_true (by first | (with_reducible assumption) | assumption)
                                        have q307 : x9_3 < (t285.length : Int) := of_decide_eq_true (by first | (with_reducible assumption) | assumption)
                                        obtain ⟨ad307, e307, hx307_0⟩ := Kd.at_int (Kd.R_reads' HO_7.out).2.2 x9_3 p307 q307
                                        cases e307
                                        replace p307 := eq_true p307
                                        replace q307 := eq_true q307
                                        have p308 : 0 ≤ ((ji50) : Int) := of_decide_eq_true (by first | (with_reducible assumption) | assumption)
                                        have q308 : (ji50) < (t285.length : Int) := of_decide_eq_true (by first | (with_reducible assumption) | assumption)
                                        obtain ⟨ad308, e308, hx308_0⟩ := Kd.at_int (Kd.R_reads' HO_7.out).2.2 (ji50) p308 q308
                                        obtain rfl : ad307 = ad308 := (by injection e308)
                                        replace p308 := eq_true p308
                                        replace q308 := eq_true q308
                                        go_wp2
                                        repeat (go_quiet (fail); try go_wp2)
                                        go_roundg k4
                                        case measure => have := HJ4.out; have := HJ10.out; have := HK3.out; have := HK4.out; omega
                                        case rel => exact ⟨(wrap64 (x9_3 + 1)), (by first | rfl | (simp; done) | (simp [*]; done)), H', ⟨by have := HJ4.out; have := HJ10.out; have := HK3.out; have := HK4.out; omega⟩, ⟨by (with_reducible repeat (first | apply Kd.R_alloc | apply Kd.R_drewN | apply Kd.R_drew)); exact HO_7.out⟩, ⟨by repeat (first | (with_reducible first | exact HB.out | apply below_alloc | apply pw_below_drewN | apply below_drew1) | exact HB.out)⟩⟩
                                      · replace c54 := Bool.eq_false_iff.mpr c54
                                        subst c54
                                        have H1 : (if x11_4 = true then (some false) else (scansionlaw20_ThaiRises.l0 k4 l1 t285 (wrap64 (x9_3 + 1)))) = some r := by rw [if_neg (show ¬ (false = true) by decide)] at H; exact H
                                        clear H
                                        have H := H1
                                        clear H1
                                        by_cases c55 : x11_4 = true
                                        · subst c55
                                          have H1 : (some false) = some r := by rw [if_pos rfl] at H; exact H
                                          clear H
                                          have H := H1
                                          clear H1
                                          obtain rfl := Option.some.inj H
                                          have p307 : 0 ≤ (x9_3 : Int) := of_decide_eq_true (by first | (with_reducible assumption) | assumption)
                                          have q307 : x9_3 < (t285.length : Int) := of_decide_eq_true (by first | (with_reducible assumption) | assumption)
                                          obtain ⟨ad307, e307, hx307_0⟩ := Kd.at_int (Kd.R_reads' HO_7.out).2.2 x9_3 p307 q307
                                          cases e307
                                          replace p307 := eq_true p307
                                          replace q307 := eq_true q307
                                          have p308 : 0 ≤ ((ji50) : Int) := of_decide_eq_true (by first | (with_reducible assumption) | assumption)
                                          have q308 : (ji50) < (t285.length : Int) := of_decide_eq_true (by first | (with_reducible assumption) | assumption)
                                          obtain ⟨ad308, e308, hx308_0⟩ := Kd.at_int (Kd.R_reads' HO_7.out).2.2 (ji50) p308 q308
                                          obtain rfl : ad307 = ad308 := (by injection e308)
                                          replace p308 := eq_true p308
                                          replace q308 := eq_true q308
                                          go_wp2
                                          repeat (go_quiet (fail); try go_wp2)
                                          go_ret
                                          exact ⟨by first | rfl | (simp [errW_none, errW_some] <;> rfl) | (simp only [← hji50]; first | rfl | (simp [errW_none, errW_some] <;> rfl)) | (simp [*, errW_none, errW_some] <;> rfl), by repeat (first | (with_reducible first | exact HB.out | apply below_alloc | apply pw_below_drewN | apply below_drew1) | exact HB.out)⟩
                                        · replace c55 := Bool.eq_false_iff.mpr c55
                                          subst c55
                                          have H1 : (scansionlaw20_ThaiRises.l0 k4 l1 t285 (wrap64 (x9_3 + 1))) = some r := by rw [if_neg (show ¬ (false = true) by decide)] at H; exact H
                                          clear H
                                          have H := H1
                                          clear H1
                                          have H' := Aside0.mk H
                                          clear H
                                          have p307 : 0 ≤ (x9_3 : Int) := of_decide_eq_true (by first | (with_reducible assumption) | assumption)
                                          have q307 : x9_3 < (t285.length : Int) := of_decide_eq_true (by first | (with_reducible assumption) | assumption)
                                          obtain ⟨ad307, e307, hx307_0⟩ := Kd.at_int (Kd.R_reads' HO_7.out).2.2 x9_3 p307 q307
                                          cases e307
                                          replace p307 := eq_true p307
                                          replace q307 := eq_true q307
                                          have p308 : 0 ≤ ((ji50) : Int) := of_decide_eq_true (by first | (with_reducible assumption) | assumption)
                                          have q308 : (ji50) < (t285.length : Int) := of_decide_eq_true (by first | (with_reducible assumption) | assumption)
                                          obtain ⟨ad308, e308, hx308_0⟩ := Kd.at_int (Kd.R_reads' HO_7.out).2.2 (ji50) p308 q308
                                          obtain rfl : ad307 = ad308 := (by injection e308)
                                          replace p308 := eq_true p308
                                          replace q308 := eq_true q308
                                          go_wp2
                                          repeat (go_quiet (fail); try go_wp2)
                                          go_roundg k4
                                          case measure => have := HJ4.out; have := HJ10.out; have := HK3.out; have := HK4.out; omega
                                          case rel => exact ⟨(wrap64 (x9_3 + 1)), (by first | rfl | (simp; done) | (simp [*]; done)), H', ⟨by have := HJ4.out; have := HJ10.out; have := HK3.out; have := HK4.out; omega⟩, ⟨by (with_reducible repeat (first | apply Kd.R_alloc | apply Kd.R_drewN | apply Kd.R_drew)); exact HO_7.out⟩, ⟨by repeat (first | (with_reducible first | exact HB.out | apply below_alloc | apply pw_below_drewN | apply below_drew1) | exact HB.out)⟩⟩
                                  · rw [if_neg c52] at H
                                    exact absurd H (by simp)
                                · rw [if_neg c51] at H
                                  exact absurd H (by simp)
                              · rw [if_neg c49] at H
                                exact absurd H (by simp)
                            · rw [if_neg c48] at H
                              exact absurd H (by simp)
                    · rw [if_neg c23] at H
                      have c23b0 : decide (x9_3 < (t285.length : Int)) = false := decide_eq_false c23
                      clear c23
                      obtain rfl := Option.some.inj H
                      obtain ⟨Ao56, co56, eo56⟩ := Kd.R_slice HO_7.out
                      subst eo56
                      go_wp2
                      repeat (go_quiet (fail); try go_wp2)
                      go_ret
                      exact ⟨by first | rfl | (simp [errW_none, errW_some] <;> rfl) | (simp [*, errW_none, errW_some] <;> rfl), by repeat (first | (with_reducible first | exact HB.out | apply below_alloc | apply pw_below_drewN | apply below_drew1) | exact HB.out)⟩
        · rw [if_neg c10] at H
          have c10b0 : (t286 == 0) = false := beq_eq_false_iff_ne.mpr c10
          have c10b1 : (t286 != 0) = true := bne_iff_ne.mpr c10
          by_cases c57 : t286 = 1
          · rw [if_pos c57] at H
            have c57b0 : (t286 == 1) = true := beq_iff_eq.mpr c57
            have c57b1 : (t286 != 1) = false := bne_eq_false_iff_eq.mpr c57
            clear c57
            obtain rfl := Option.some.inj H
            go_wp2_with (first | (go_at_call 11; (with_reducible refine (thai_Parts.calls a0 _ _ l1 t285 t286 _ ?side1 ?side2 A9.out).mono ?_); (case side1 => repeat (first | exact (Kd.C_below HR1.out HB.out) | (with_reducible refine Kd.C_alloc ?_ _) | (with_reducible refine Kd.C_drewN ?_ _) | (with_reducible refine Kd.C_drew ?_))); (case side2 => exact HC1.out); rintro e w58 ⟨v287, rfl, ho0, hb⟩; have n0_ := Aside0.mk (Kd.R_lower ho0 (below_size (by repeat (first | (with_reducible first | exact HB.out | apply below_alloc | apply pw_below_drewN | apply below_drew1) | exact HB.out)))); have n1_ := Aside0.mk (below_step (by repeat (first | (with_reducible first | exact HB.out | apply below_alloc | apply pw_below_drewN | apply below_drew1) | exact HB.out)) hb); clear HB; have HO288 := n0_; have HB := n1_; clear n0_ n1_; (try clear hb); (try clear hb2); (try clear hk); (try clear hi); (try clear ho0); obtain ⟨Ao59, co59, eo59⟩ := Kd.R_slice HO288.out; subst eo59))
            repeat (go_quiet (first | (go_at_call 11; (with_reducible refine (thai_Parts.calls a0 _ _ l1 t285 t286 _ ?side1 ?side2 A9.out).mono ?_); (case side1 => repeat (first | exact (Kd.C_below HR1.out HB.out) | (with_reducible refine Kd.C_alloc ?_ _) | (with_reducible refine Kd.C_drewN ?_ _) | (with_reducible refine Kd.C_drew ?_))); (case side2 => exact HC1.out); rintro e w58 ⟨v287, rfl, ho0, hb⟩; have n0_ := Aside0.mk (Kd.R_lower ho0 (below_size (by repeat (first | (with_reducible first | exact HB.out | apply below_alloc | apply pw_below_drewN | apply below_drew1) | exact HB.out)))); have n1_ := Aside0.mk (below_step (by repeat (first | (with_reducible first | exact HB.out | apply below_alloc | apply pw_below_drewN | apply below_drew1) | exact HB.out)) hb); clear HB; have HO288 := n0_; have HB := n1_; clear n0_ n1_; (try clear hb); (try clear hb2); (try clear hk); (try clear hi); (try clear ho0); obtain ⟨Ao59, co59, eo59⟩ := Kd.R_slice HO288.out; subst eo59)); try go_wp2_with (first | (go_at_call 11; (with_reducible refine (thai_Parts.calls a0 _ _ l1 t285 t286 _ ?side1 ?side2 A9.out).mono ?_); (case side1 => repeat (first | exact (Kd.C_below HR1.out HB.out) | (with_reducible refine Kd.C_alloc ?_ _) | (with_reducible refine Kd.C_drewN ?_ _) | (with_reducible refine Kd.C_drew ?_))); (case side2 => exact HC1.out); rintro e w58 ⟨v287, rfl, ho0, hb⟩; have n0_ := Aside0.mk (Kd.R_lower ho0 (below_size (by repeat (first | (with_reducible first | exact HB.out | apply below_alloc | apply pw_below_drewN | apply below_drew1) | exact HB.out)))); have n1_ := Aside0.mk (below_step (by repeat (first | (with_reducible first | exact HB.out | apply below_alloc | apply pw_below_drewN | apply below_drew1) | exact HB.out)) hb); clear HB; have HO288 := n0_; have HB := n1_; clear n0_ n1_; (try clear hb); (try clear hb2); (try clear hk); (try clear hi); (try clear ho0); obtain ⟨Ao59, co59, eo59⟩ := Kd.R_slice HO288.out; subst eo59)))
            go_ret
            exact ⟨by first | rfl | (simp [errW_none, errW_some] <;> rfl) | (simp [*, errW_none, errW_some] <;> rfl), by repeat (first | (with_reducible first | exact HB.out | apply below_alloc | apply pw_below_drewN | apply below_drew1) | exact HB.out)⟩
          · rw [if_neg c57] at H
            have c57b0 : (t286 == 1) = false := beq_eq_false_iff_ne.mpr c57
            have c57b1 : (t286 != 1) = true := bne_iff_ne.mpr c57
            obtain rfl := Option.some.inj H
            go_wp2_with (first | (go_at_call 11; (with_reducible refine (thai_Parts.calls a0 _ _ l1 t285 t286 _ ?side1 ?side2 A9.out).mono ?_); (case side1 => repeat (first | exact (Kd.C_below HR1.out HB.out) | (with_reducible refine Kd.C_alloc ?_ _) | (with_reducible refine Kd.C_drewN ?_ _) | (with_reducible refine Kd.C_drew ?_))); (case side2 => exact HC1.out); rintro e w60 ⟨v287, rfl, ho0, hb⟩; have n0_ := Aside0.mk (Kd.R_lower ho0 (below_size (by repeat (first | (with_reducible first | exact HB.out | apply below_alloc | apply pw_below_drewN | apply below_drew1) | exact HB.out)))); have n1_ := Aside0.mk (below_step (by repeat (first | (with_reducible first | exact HB.out | apply below_alloc | apply pw_below_drewN | apply below_drew1) | exact HB.out)) hb); clear HB; have HO288 := n0_; have HB := n1_; clear n0_ n1_; (try clear hb); (try clear hb2); (try clear hk); (try clear hi); (try clear ho0)))
            repeat (go_quiet (first | (go_at_call 11; (with_reducible refine (thai_Parts.calls a0 _ _ l1 t285 t286 _ ?side1 ?side2 A9.out).mono ?_); (case side1 => repeat (first | exact (Kd.C_below HR1.out HB.out) | (with_reducible refine Kd.C_alloc ?_ _) | (with_reducible refine Kd.C_drewN ?_ _) | (with_reducible refine Kd.C_drew ?_))); (case side2 => exact HC1.out); rintro e w60 ⟨v287, rfl, ho0, hb⟩; have n0_ := Aside0.mk (Kd.R_lower ho0 (below_size (by repeat (first | (with_reducible first | exact HB.out | apply below_alloc | apply pw_below_drewN | apply below_drew1) | exact HB.out)))); have n1_ := Aside0.mk (below_step (by repeat (first | (with_reducible first | exact HB.out | apply below_alloc | apply pw_below_drewN | apply below_drew1) | exact HB.out)) hb); clear HB; have HO288 := n0_; have HB := n1_; clear n0_ n1_; (try clear hb); (try clear hb2); (try clear hk); (try clear hi); (try clear ho0))); try go_wp2_with (first | (go_at_call 11; (with_reducible refine (thai_Parts.calls a0 _ _ l1 t285 t286 _ ?side1 ?side2 A9.out).mono ?_); (case side1 => repeat (first | exact (Kd.C_below HR1.out HB.out) | (with_reducible refine Kd.C_alloc ?_ _) | (with_reducible refine Kd.C_drewN ?_ _) | (with_reducible refine Kd.C_drew ?_))); (case side2 => exact HC1.out); rintro e w60 ⟨v287, rfl, ho0, hb⟩; have n0_ := Aside0.mk (Kd.R_lower ho0 (below_size (by repeat (first | (with_reducible first | exact HB.out | apply below_alloc | apply pw_below_drewN | apply below_drew1) | exact HB.out)))); have n1_ := Aside0.mk (below_step (by repeat (first | (with_reducible first | exact HB.out | apply below_alloc | apply pw_below_drewN | apply below_drew1) | exact HB.out)) hb); clear HB; have HO288 := n0_; have HB := n1_; clear n0_ n1_; (try clear hb); (try clear hb2); (try clear hk); (try clear hi); (try clear ho0))))
            go_ret
            exact ⟨by first | rfl | (simp [errW_none, errW_some] <;> rfl) | (simp [*, errW_none, errW_some] <;> rfl), by repeat (first | (with_reducible first | exact HB.out | apply below_alloc | apply pw_below_drewN | apply below_drew1) | exact HB.out)⟩

end Go.Proofs.Ytfmnbebkeefboaa.Print
