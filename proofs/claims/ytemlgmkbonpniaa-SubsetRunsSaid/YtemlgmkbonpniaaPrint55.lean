-- Written by a program of this session (wip/sp.py) out of the translation.
import Derived.Test.YtemlgmkbonpniaaPrint0
namespace Go.Proofs.Ytemlgmkbonpniaa.Print
open Go.RowKit Go.Proofs.YtemlgmkbonpniaaW.PrintWords Go.Proofs.YtemlgmkbonpniaaW.PrintLast Go.Proofs.YtemlgmkbonpniaaW.PrintMore
attribute [local go_sem] max2_int min2_int max_two min_two max_three min_three max_four min_four   -- for this text's walks alone
set_option linter.unusedVariables false
set_option linter.unusedSimpArgs false

/-! ### scansionref12_Right: function 39 -/
mutual
def scansionref12_Right.j0 : Nat → Int → Bool → List (List Int) → List Bool → Option (Bool)
  | 0, _, _, _, _ => none
  | k + 1, x3, x21, x753000, x753001 => if x21 = true then (some false) else (scansionref12_Right.l0 k x3 0 x753000 x753001)
def scansionref12_Right.l0 : Nat → Int → Int → List (List Int) → List Bool → Option (Bool)
  | 0, _, _, _, _ => none
  | k + 1, x3, x4, x753000, x753001 => if x4 < x3 then (if 0 ≤ x4 then (if x4 < (x753000.length : Int) then (if 0 < (x753000.length : Int) then (if ((rd_L3 x753000 x4).length : Int) = ((rd_L3 x753000 0).length : Int) then (if ((rd_L3 x753000 x4).length : Int) < 1 then (scansionref12_Right.j2 k x3 x4 true x753000 x753001) else (scansionref12_Right.j2 k x3 x4 (decide (((rd_L3 x753000 x4).length : Int) > 200)) x753000 x753001)) else (scansionref12_Right.j2 k x3 x4 true x753000 x753001)) else (none)) else (none)) else (none)) else (some true)
def scansionref12_Right.j2 : Nat → Int → Int → Bool → List (List Int) → List Bool → Option (Bool)
  | 0, _, _, _, _, _ => none
  | k + 1, x3, x4, x56, x753000, x753001 => if x56 = true then (some false) else (scansionref12_Right.l1 k x3 x4 0 x753000 x753001)
def scansionref12_Right.l1 : Nat → Int → Int → Int → List (List Int) → List Bool → Option (Bool)
  | 0, _, _, _, _, _ => none
  | k + 1, x3, x4, x5, x753000, x753001 => if 0 ≤ x4 then (if x4 < (x753000.length : Int) then (if x5 < ((rd_L3 x753000 x4).length : Int) then (if 0 ≤ x5 then (if (rd (rd_L3 x753000 x4) x5) < 0 then (some false) else (if (rd (rd_L3 x753000 x4) x5) ≥ x3 then (some false) else (scansionref12_Right.l1 k x3 x4 (wrap64 (x5 + 1)) x753000 x753001))) else (none)) else (scansionref12_Right.l0 k x3 (wrap64 (x4 + 1)) x753000 x753001)) else (none)) else (none)
end
def scansionref12_Right.f (k : Nat) (l0_0 : List (List Int)) (l0_1 : List Bool) : Option (Bool) := if (l0_0.length : Int) < 1 then (scansionref12_Right.j0 k (l0_0.length : Int) true l0_0 l0_1) else (if (l0_0.length : Int) > 5000 then (scansionref12_Right.j0 k (l0_0.length : Int) true l0_0 l0_1) else (scansionref12_Right.j0 k (l0_0.length : Int) ((l0_1.length : Int) != (l0_0.length : Int)) l0_0 l0_1))
theorem scansionref12_Right.mono_l : ∀ k, (∀ y0 y1 y2 y3, LeO (scansionref12_Right.j0 k y0 y1 y2 y3) (scansionref12_Right.j0 (k + 1) y0 y1 y2 y3)) ∧ (∀ y0 y1 y2 y3, LeO (scansionref12_Right.l0 k y0 y1 y2 y3) (scansionref12_Right.l0 (k + 1) y0 y1 y2 y3)) ∧ (∀ y0 y1 y2 y3 y4, LeO (scansionref12_Right.j2 k y0 y1 y2 y3 y4) (scansionref12_Right.j2 (k + 1) y0 y1 y2 y3 y4)) ∧ (∀ y0 y1 y2 y3 y4, LeO (scansionref12_Right.l1 k y0 y1 y2 y3 y4) (scansionref12_Right.l1 (k + 1) y0 y1 y2 y3 y4))
  | 0 => ⟨fun _ _ _ _ r h => by simp [scansionref12_Right.j0] at h, fun _ _ _ _ r h => by simp [scansionref12_Right.l0] at h, fun _ _ _ _ _ r h => by simp [scansionref12_Right.j2] at h, fun _ _ _ _ _ r h => by simp [scansionref12_Right.l1] at h⟩
  | k + 1 => by
    obtain ⟨ih0, ih1, ih2, ih3⟩ := scansionref12_Right.mono_l k
    refine ⟨?_, ?_, ?_, ?_⟩
    · intro y0 y1 y2 y3
      unfold scansionref12_Right.j0
      repeat' first
      | (with_reducible exact ih0 _ _ _ _)
      | (with_reducible exact ih1 _ _ _ _)
      | (with_reducible exact ih2 _ _ _ _ _)
      | (with_reducible exact ih3 _ _ _ _ _)
      | (with_reducible exact LeO.refl _)
      | (with_reducible exact LeO.none _)
      | (with_reducible refine LeO.ite ?_ ?_)
      | (with_reducible refine LeO.bind ?_ (fun _ => ?_))
      | exact ih0 _ _ _ _
      | exact ih1 _ _ _ _
      | exact ih2 _ _ _ _ _
      | exact ih3 _ _ _ _ _
      | exact LeO.none _
      | refine LeO.ite ?_ ?_
      | refine LeO.bind ?_ (fun _ => ?_)
    · intro y0 y1 y2 y3
      unfold scansionref12_Right.l0
      repeat' first
      | (with_reducible exact ih0 _ _ _ _)
      | (with_reducible exact ih1 _ _ _ _)
      | (with_reducible exact ih2 _ _ _ _ _)
      | (with_reducible exact ih3 _ _ _ _ _)
      | (with_reducible exact LeO.refl _)
      | (with_reducible exact LeO.none _)
      | (with_reducible refine LeO.ite ?_ ?_)
      | (with_reducible refine LeO.bind ?_ (fun _ => ?_))
      | exact ih0 _ _ _ _
      | exact ih1 _ _ _ _
      | exact ih2 _ _ _ _ _
      | exact ih3 _ _ _ _ _
      | exact LeO.none _
      | refine LeO.ite ?_ ?_
      | refine LeO.bind ?_ (fun _ => ?_)
    · intro y0 y1 y2 y3 y4
      unfold scansionref12_Right.j2
      repeat' first
      | (with_reducible exact ih0 _ _ _ _)
      | (with_reducible exact ih1 _ _ _ _)
      | (with_reducible exact ih2 _ _ _ _ _)
      | (with_reducible exact ih3 _ _ _ _ _)
      | (with_reducible exact LeO.refl _)
      | (with_reducible exact LeO.none _)
      | (with_reducible refine LeO.ite ?_ ?_)
      | (with_reducible refine LeO.bind ?_ (fun _ => ?_))
      | exact ih0 _ _ _ _
      | exact ih1 _ _ _ _
      | exact ih2 _ _ _ _ _
      | exact ih3 _ _ _ _ _
      | exact LeO.none _
      | refine LeO.ite ?_ ?_
      | refine LeO.bind ?_ (fun _ => ?_)
    · intro y0 y1 y2 y3 y4
      unfold scansionref12_Right.l1
      repeat' first
      | (with_reducible exact ih0 _ _ _ _)
      | (with_reducible exact ih1 _ _ _ _)
      | (with_reducible exact ih2 _ _ _ _ _)
      | (with_reducible exact ih3 _ _ _ _ _)
      | (with_reducible exact LeO.refl _)
      | (with_reducible exact LeO.none _)
      | (with_reducible refine LeO.ite ?_ ?_)
      | (with_reducible refine LeO.bind ?_ (fun _ => ?_))
      | exact ih0 _ _ _ _
      | exact ih1 _ _ _ _
      | exact ih2 _ _ _ _ _
      | exact ih3 _ _ _ _ _
      | exact LeO.none _
      | refine LeO.ite ?_ ?_
      | refine LeO.bind ?_ (fun _ => ?_)
theorem scansionref12_Right.mono : ∀ a0 a1 k, LeO (scansionref12_Right.f k a0 a1) (scansionref12_Right.f (k + 1) a0 a1) := by
  intro a0 a1 k
  obtain ⟨ih0, ih1, ih2, ih3⟩ := scansionref12_Right.mono_l k
  unfold scansionref12_Right.f
  repeat' first
      | (with_reducible exact ih0 _ _ _ _)
      | (with_reducible exact ih1 _ _ _ _)
      | (with_reducible exact ih2 _ _ _ _ _)
      | (with_reducible exact ih3 _ _ _ _ _)
      | (with_reducible exact LeO.refl _)
      | (with_reducible exact LeO.none _)
      | (with_reducible refine LeO.ite ?_ ?_)
      | (with_reducible refine LeO.bind ?_ (fun _ => ?_))
      | exact ih0 _ _ _ _
      | exact ih1 _ _ _ _
      | exact ih2 _ _ _ _ _
      | exact ih3 _ _ _ _ _
      | exact LeO.none _
      | refine LeO.ite ?_ ?_
      | refine LeO.bind ?_ (fun _ => ?_)
set_option maxHeartbeats 8000000 in
set_option maxRecDepth 100000 in
theorem scansionref12_Right.calls (k : Nat) (A0_0 : Option Addr) (c0_0 : Nat) (l0_0 : List (List Int)) (A0_1 : Option Addr) (c0_1 : Nat) (l0_1 : List Bool) (r : Bool) (w : World) (hr0_0 : Kd.C (Kd.slice 3 (Kd.int .i64)) w A0_0 l0_0.length l0_0) (hc0_0 : l0_0.length ≤ c0_0) (hr0_1 : Kd.C Kd.bool w A0_1 l0_1.length l0_1) (hc0_1 : l0_1.length ≤ c0_1) (h : scansionref12_Right.f k l0_0 l0_1 = some r) :
    Calls Try.prog 39 #[.agg #[.slice A0_0 l0_0.length c0_0, .slice A0_1 l0_1.length c0_1]] w fun e w' => e = .returned (.bool r) ∧ Below w.heap.size w w' := by
  have hu47 := Try.underlying47
  have HR0_0 := Aside0.mk hr0_0
  have HC0_0 := Aside0.mk hc0_0
  clear hr0_0 hc0_0
  have HR0_1 := Aside0.mk hr0_1
  have HC0_1 := Aside0.mk hc0_1
  clear hr0_1 hc0_1
  have HB := Aside0.mk (Below.refl w.heap.size w)
  have H : (if (l0_0.length : Int) < 1 then (scansionref12_Right.j0 k (l0_0.length : Int) true l0_0 l0_1) else (if (l0_0.length : Int) > 5000 then (scansionref12_Right.j0 k (l0_0.length : Int) true l0_0 l0_1) else (scansionref12_Right.j0 k (l0_0.length : Int) ((l0_1.length : Int) != (l0_0.length : Int)) l0_0 l0_1))) = some r := h
  clear h
  have HC2 := Aside0.mk H
  clear H
  go_enter Try.func39, Try.ntmps39
  go_upto_region 2 with (first | ((with_reducible refine gate_dst (N := 1) rfl ?_); (try (refine gate_guard (by rfl) ?_; dsimp only)); refine box_event ?hg (N := 1) ?hd (cs := #[.slice A0_0 l0_0.length c0_0, .slice A0_1 l0_1.length c0_1]) (t := 47) ?hr ?_; (case hd => rfl); (case hg => rfl); (case hr => first | (go_simp; done) | (go_simp; rfl)); intro gb752 hg w3 hbox hb; have n0_ := Aside0.mk (below_step (by repeat (first | (with_reducible first | exact HB.out | apply below_alloc | apply pw_below_drewN | apply below_drew1) | exact HB.out)) hb); have n1_ := Aside0.mk (hbox); have n2_ := Aside0.mk ((by rw [hg]; exact (below_size (by repeat (first | (with_reducible first | exact HB.out | apply below_alloc | apply pw_below_drewN | apply below_drew1) | exact HB.out))) : w.heap.size ≤ gb752)); have n3_ := Aside0.mk ((by rw [hg]; exact (below_size (by repeat (first | (with_reducible first | exact HB.out | apply below_alloc | apply pw_below_drewN | apply below_drew1) | exact HB.out))) : w.heap.size ≤ gb752)); clear HB; have HB := n0_; have BK752 := n1_; have GW752 := n2_; have GE752 := n3_; clear n0_ n1_ n2_ n3_; clear hb hbox hg; have hcz4_0 : w3.cell? ⟨gb752, 0, none⟩ = some (.slice A0_0 l0_0.length c0_0) := (blk_cell BK752.out 0).trans rfl; have hcz4_1 : w3.cell? ⟨gb752, 1, none⟩ = some (.slice A0_1 l0_1.length c0_1) := (blk_cell BK752.out 1).trans rfl; have hfz4_0 := blk_frozen BK752.out 0; have hfz4_1 := blk_frozen BK752.out 1))
  repeat (go_quiet (first | ((with_reducible refine gate_dst (N := 1) rfl ?_); (try (refine gate_guard (by rfl) ?_; dsimp only)); refine box_event ?hg (N := 1) ?hd (cs := #[.slice A0_0 l0_0.length c0_0, .slice A0_1 l0_1.length c0_1]) (t := 47) ?hr ?_; (case hd => rfl); (case hg => rfl); (case hr => first | (go_simp; done) | (go_simp; rfl)); intro gb752 hg w3 hbox hb; have n0_ := Aside0.mk (below_step (by repeat (first | (with_reducible first | exact HB.out | apply below_alloc | apply pw_below_drewN | apply below_drew1) | exact HB.out)) hb); have n1_ := Aside0.mk (hbox); have n2_ := Aside0.mk ((by rw [hg]; exact (below_size (by repeat (first | (with_reducible first | exact HB.out | apply below_alloc | apply pw_below_drewN | apply below_drew1) | exact HB.out))) : w.heap.size ≤ gb752)); have n3_ := Aside0.mk ((by rw [hg]; exact (below_size (by repeat (first | (with_reducible first | exact HB.out | apply below_alloc | apply pw_below_drewN | apply below_drew1) | exact HB.out))) : w.heap.size ≤ gb752)); clear HB; have HB := n0_; have BK752 := n1_; have GW752 := n2_; have GE752 := n3_; clear n0_ n1_ n2_ n3_; clear hb hbox hg; have hcz4_0 : w3.cell? ⟨gb752, 0, none⟩ = some (.slice A0_0 l0_0.length c0_0) := (blk_cell BK752.out 0).trans rfl; have hcz4_1 : w3.cell? ⟨gb752, 1, none⟩ = some (.slice A0_1 l0_1.length c0_1) := (blk_cell BK752.out 1).trans rfl; have hfz4_0 := blk_frozen BK752.out 0; have hfz4_1 := blk_frozen BK752.out 1)); go_upto_region 2 with (first | ((with_reducible refine gate_dst (N := 1) rfl ?_); (try (refine gate_guard (by rfl) ?_; dsimp only)); refine box_event ?hg (N := 1) ?hd (cs := #[.slice A0_0 l0_0.length c0_0, .slice A0_1 l0_1.length c0_1]) (t := 47) ?hr ?_; (case hd => rfl); (case hg => rfl); (case hr => first | (go_simp; done) | (go_simp; rfl)); intro gb752 hg w3 hbox hb; have n0_ := Aside0.mk (below_step (by repeat (first | (with_reducible first | exact HB.out | apply below_alloc | apply pw_below_drewN | apply below_drew1) | exact HB.out)) hb); have n1_ := Aside0.mk (hbox); have n2_ := Aside0.mk ((by rw [hg]; exact (below_size (by repeat (first | (with_reducible first | exact HB.out | apply below_alloc | apply pw_below_drewN | apply below_drew1) | exact HB.out))) : w.heap.size ≤ gb752)); have n3_ := Aside0.mk ((by rw [hg]; exact (below_size (by repeat (first | (with_reducible first | exact HB.out | apply below_alloc | apply pw_below_drewN | apply below_drew1) | exact HB.out))) : w.heap.size ≤ gb752)); clear HB; have HB := n0_; have BK752 := n1_; have GW752 := n2_; have GE752 := n3_; clear n0_ n1_ n2_ n3_; clear hb hbox hg; have hcz4_0 : w3.cell? ⟨gb752, 0, none⟩ = some (.slice A0_0 l0_0.length c0_0) := (blk_cell BK752.out 0).trans rfl; have hcz4_1 : w3.cell? ⟨gb752, 1, none⟩ = some (.slice A0_1 l0_1.length c0_1) := (blk_cell BK752.out 1).trans rfl; have hfz4_0 := blk_frozen BK752.out 0; have hfz4_1 := blk_frozen BK752.out 1)))
  (try simp only [Act.put, List.setIfInBounds_toArray, List.set_cons_zero, List.set_cons_succ])
  go_cut [21] (fun v21 wc => ∃ (kq : Nat) (x21_1 : Bool), v21 = .bool x21_1 ∧ Aside0 (scansionref12_Right.j0 kq (l0_0.length : Int) x21_1 l0_0 l0_1 = some r) ∧ Aside0 (kq ≤ k) ∧ Aside0 (wc.heap[gb752]? = some (.cells #[(.slice A0_0 l0_0.length c0_0), (.slice A0_1 l0_1.length c0_1)] 47 (0, 0))) ∧ Aside0 (Below w.heap.size w wc))
  case first =>
    have H := HC2.out
    clear HC2
    by_cases c5 : (l0_0.length : Int) < 1
    · rw [if_pos c5] at H
      have c5b0 : decide ((l0_0.length : Int) < 1) = true := decide_eq_true c5
      have c5b1 : decide (l0_0.length < 1) = true := decide_eq_true (by omega)
      clear c5
      (first | rw [c5b0] | (simp only [i64_w, i32_w]; rw [c5b0]) | skip)
      have H' := Aside0.mk H
      clear H
      go_wp2
      repeat (go_quiet (fail); try go_wp2)
      go_meet
      case rel => exact ⟨_, (true), (by first | rfl | (simp; done) | (simp [*]; done)), H', ⟨by first | omega | exact Nat.le_refl _⟩, ⟨by (with_reducible repeat (first | refine blk_drewN ?_ _ | refine blk_drew ?_ | refine blk_alloc ?_ _)); exact BK752.out⟩, ⟨by repeat (first | (with_reducible first | exact HB.out | apply below_alloc | apply pw_below_drewN | apply below_drew1 | refine below_set ?_ GE752.out) | exact HB.out)⟩⟩
    · rw [if_neg c5] at H
      have c5b0 : decide ((l0_0.length : Int) < 1) = false := decide_eq_false c5
      have c5b1 : decide (l0_0.length < 1) = false := decide_eq_false (by omega)
      clear c5
      (first | rw [c5b0] | (simp only [i64_w, i32_w]; rw [c5b0]) | skip)
      by_cases c6 : (l0_0.length : Int) > 5000
      · rw [if_pos c6] at H
        have c6b0 : decide (5000 < (l0_0.length : Int)) = true := decide_eq_true c6
        have c6b1 : decide (5000 < l0_0.length) = true := decide_eq_true (by omega)
        clear c6
        have H' := Aside0.mk H
        clear H
        go_wp2
        repeat (go_quiet (fail); try go_wp2)
        go_meet
        case rel => exact ⟨_, (true), (by first | rfl | (simp; done) | (simp [*]; done)), H', ⟨by first | omega | exact Nat.le_refl _⟩, ⟨by (with_reducible repeat (first | refine blk_drewN ?_ _ | refine blk_drew ?_ | refine blk_alloc ?_ _)); exact BK752.out⟩, ⟨by repeat (first | (with_reducible first | exact HB.out | apply below_alloc | apply pw_below_drewN | apply below_drew1 | refine below_set ?_ GE752.out) | exact HB.out)⟩⟩
      · rw [if_neg c6] at H
        have c6b0 : decide (5000 < (l0_0.length : Int)) = false := decide_eq_false c6
        have c6b1 : decide (5000 < l0_0.length) = false := decide_eq_false (by omega)
        clear c6
        have H' := Aside0.mk H
        clear H
        have hcz7_0 : w3.cell? ⟨gb752, 0, none⟩ = some (.slice A0_0 l0_0.length c0_0) := (blk_cell BK752.out 0).trans rfl
        have hcz7_1 : w3.cell? ⟨gb752, 1, none⟩ = some (.slice A0_1 l0_1.length c0_1) := (blk_cell BK752.out 1).trans rfl
        have hfz7_0 := blk_frozen BK752.out 0
        have hfz7_1 := blk_frozen BK752.out 1
        go_wp2
        repeat (go_quiet (fail); try go_wp2)
        go_meet
        case rel => exact ⟨_, (((l0_1.length : Int) != (l0_0.length : Int))), (by first | rfl | (simp; done) | (simp [*]; done)), H', ⟨by first | omega | exact Nat.le_refl _⟩, ⟨by (with_reducible repeat (first | refine blk_drewN ?_ _ | refine blk_drew ?_ | refine blk_alloc ?_ _)); exact BK752.out⟩, ⟨by repeat (first | (with_reducible first | exact HB.out | apply below_alloc | apply pw_below_drewN | apply below_drew1 | refine below_set ?_ GE752.out) | exact HB.out)⟩⟩
  case rest =>
    clear HC2
    try clear p2
    try clear c3
    try clear c5
    try clear c5b0
    try clear c5b1
    try clear c6
    try clear c6b0
    try clear c6b1
    try clear hcz4_0
    try clear hcz4_1
    try clear hcz7_0
    try clear hcz7_1
    try clear hfz4_0
    try clear hfz4_1
    try clear hfz7_0
    try clear hfz7_1
    obtain ⟨kq, x21_1, rfl, HA, HJ1, BK752, HB⟩ := hcut
    cases kq with
    | zero => exact absurd HA.out (by simp [scansionref12_Right.j0])
    | succ kj1 =>
      have H := HA.out
      clear HA
      simp only [scansionref12_Right.j0] at H
      by_cases c8 : x21_1 = true
      · subst c8
        have H1 : (some false) = some r := by rw [if_pos rfl] at H; exact H
        clear H
        have H := H1
        clear H1
        obtain rfl := Option.some.inj H
        go_wp2
        repeat (go_quiet (fail); try go_wp2)
        go_ret
        exact ⟨by first | rfl | (simp [errW_none, errW_some] <;> rfl) | (simp [*, errW_none, errW_some] <;> rfl), by repeat (first | (with_reducible first | exact HB.out | apply below_alloc | apply pw_below_drewN | apply below_drew1 | refine below_set ?_ GE752.out) | exact HB.out)⟩
      · replace c8 := Bool.eq_false_iff.mpr c8
        subst c8
        have H1 : (scansionref12_Right.l0 kj1 (l0_0.length : Int) 0 l0_0 l0_1) = some r := by rw [if_neg (show ¬ (false = true) by decide)] at H; exact H
        clear H
        have H := H1
        clear H1
        have H' := Aside0.mk H
        clear H
        go_wp2
        repeat (go_quiet (fail); try go_wp2)
        go_loopg [4] kj1 (fun kq v4 w' => ∃ (x4_2 : Int), v4 = .int .i64 x4_2 ∧ Aside0 (scansionref12_Right.l0 kq (l0_0.length : Int) x4_2 l0_0 l0_1 = some r) ∧ Aside0 (kq ≤ kj1) ∧ Aside0 (w'.heap[gb752]? = some (.cells #[(.slice A0_0 l0_0.length c0_0), (.slice A0_1 l0_1.length c0_1)] 47 (0, 0))) ∧ Aside0 (Below w.heap.size w w'))
        case atStart => exact ⟨(0), (by first | rfl | (simp; done) | (simp [*]; done)), H', ⟨Nat.le_refl _⟩, ⟨by (with_reducible repeat (first | refine blk_drewN ?_ _ | refine blk_drew ?_ | refine blk_alloc ?_ _)); exact BK752.out⟩, ⟨by repeat (first | (with_reducible first | exact HB.out | apply below_alloc | apply pw_below_drewN | apply below_drew1 | refine below_set ?_ GE752.out) | exact HB.out)⟩⟩
        case round =>
          clear H'
          try clear p2
          try clear c3
          try clear c5
          try clear c5b0
          try clear c5b1
          try clear c6
          try clear c6b0
          try clear c6b1
          try clear c8
          try clear hcz4_0
          try clear hcz4_1
          try clear hcz7_0
          try clear hcz7_1
          try clear hfz4_0
          try clear hfz4_1
          try clear hfz7_0
          try clear hfz7_1
          try clear p2
          obtain ⟨x4_2, rfl, HA, HK2, BK752, HB⟩ := hrel
          cases gk with
          | zero => exact absurd HA.out (by simp [scansionref12_Right.l0])
          | succ k2 =>
            have H := HA.out
            clear HA
            simp only [scansionref12_Right.l0] at H
            by_cases c9 : x4_2 < (l0_0.length : Int)
            · rw [if_pos c9] at H
              have c9b0 : decide (x4_2 < (l0_0.length : Int)) = true := decide_eq_true c9
              clear c9
              have HC10 := Aside0.mk H
              clear H
              go_upto_region 7 with (fail)
              repeat (go_quiet (fail); go_upto_region 7 with (fail))
              go_cut [56] (fun v56 wc => ∃ (kq : Nat) (x56_9 : Bool), v56 = .bool x56_9 ∧ Aside0 (scansionref12_Right.j2 kq (l0_0.length : Int) x4_2 x56_9 l0_0 l0_1 = some r) ∧ Aside0 (kq ≤ k2) ∧ Aside0 (wc.heap[gb752]? = some (.cells #[(.slice A0_0 l0_0.length c0_0), (.slice A0_1 l0_1.length c0_1)] 47 (0, 0))) ∧ Aside0 (Below w.heap.size w wc))
              case first =>
                have H := HC10.out
                clear HC10
                by_cases c11 : 0 ≤ x4_2
                · rw [if_pos c11] at H
                  have c11b0 : decide (0 ≤ x4_2) = true := decide_eq_true c11
                  clear c11
                  (first | rw [c11b0] | (simp only [i64_w, i32_w]; rw [c11b0]) | skip)
                  by_cases c12 : x4_2 < (l0_0.length : Int)
                  · rw [if_pos c12] at H
                    have c12b0 : decide (x4_2 < (l0_0.length : Int)) = true := decide_eq_true c12
                    clear c12
                    by_cases c13 : 0 < (l0_0.length : Int)
                    · rw [if_pos c13] at H
                      have c13b0 : decide (0 < (l0_0.length : Int)) = true := decide_eq_true c13
                      have c13b1 : decide (0 < l0_0.length) = true := decide_eq_true (by omega)
                      clear c13
                      by_cases c14 : ((rd_L3 l0_0 x4_2).length : Int) = ((rd_L3 l0_0 0).length : Int)
                      · rw [if_pos c14] at H
                        have c14b0 : (((rd_L3 l0_0 x4_2).length : Int) == ((rd_L3 l0_0 0).length : Int)) = true := beq_iff_eq.mpr c14
                        have c14b1 : (((rd_L3 l0_0 x4_2).length : Int) != ((rd_L3 l0_0 0).length : Int)) = false := bne_eq_false_iff_eq.mpr c14
                        have c14b2 : ((rd_L3 l0_0 x4_2).length == (rd_L3 l0_0 0).length) = true := by first | simpa using c14 | (simp at c14 ⊢; omega)
                        clear c14
                        by_cases c15 : ((rd_L3 l0_0 x4_2).length : Int) < 1
                        · rw [if_pos c15] at H
                          have c15b0 : decide (((rd_L3 l0_0 x4_2).length : Int) < 1) = true := decide_eq_true c15
                          have c15b1 : decide ((rd_L3 l0_0 x4_2).length < 1) = true := decide_eq_true (by omega)
                          clear c15
                          have H' := Aside0.mk H
                          clear H
                          have hcz16_0 : wr.cell? ⟨gb752, 0, none⟩ = some (.slice A0_0 l0_0.length c0_0) := (blk_cell BK752.out 0).trans rfl
                          have hcz16_1 : wr.cell? ⟨gb752, 1, none⟩ = some (.slice A0_1 l0_1.length c0_1) := (blk_cell BK752.out 1).trans rfl
                          have hfz16_0 := blk_frozen BK752.out 0
                          have hfz16_1 := blk_frozen BK752.out 1
                          have p753 : 0 ≤ (x4_2 : Int) := of_decide_eq_true (by first | (with_reducible assumption) | assumption)
                          have q753 : x4_2 < (l0_0.length : Int) := of_decide_eq_true (by first | (with_reducible assumption) | assumption)
                          obtain ⟨ad753, A753_0, c753_0, e753, hx753_0, hl753_0, hi753_0⟩ := at_L3 HR0_0.out x4_2 p753 q753
                          cases e753
                          replace hx753_0 := (HB.out.cell (World.block_lt_of_cell? w _ hx753_0)).trans hx753_0
                          have HR753_0 := Aside0.mk hi753_0
                          have HC753_0 := Aside0.mk hl753_0
                          clear hi753_0 hl753_0
                          replace p753 := eq_true p753
                          replace q753 := eq_true q753
                          have p754 : 0 ≤ (0 : Int) := (by omega)
                          have q754 : 0 < (l0_0.length : Int) := of_decide_eq_true (by first | (with_reducible assumption) | assumption)
                          obtain ⟨ad754, A754_0, c754_0, e754, hx754_0, hl754_0, hi754_0⟩ := at_L3 HR0_0.out 0 p754 q754
                          obtain rfl : ad753 = ad754 := (by injection e754)
                          have qi754 : (0 < l0_0.length) = True := eq_true (by omega)
                          (try rw [show ((0 : Int)).toNat = 0 from rfl] at hx754_0)
                          (try rw [Addr.add_zero'] at hx754_0)
                          replace hx754_0 := (HB.out.cell (World.block_lt_of_cell? w _ hx754_0)).trans hx754_0
                          have HR754_0 := Aside0.mk hi754_0
                          have HC754_0 := Aside0.mk hl754_0
                          clear hi754_0 hl754_0
                          replace p754 := eq_true p754
                          replace q754 := eq_true q754
                          have p755 : 0 ≤ (x4_2 : Int) := of_decide_eq_true (by first | (with_reducible assumption) | assumption)
                          have q755 : x4_2 < (l0_0.length : Int) := of_decide_eq_true (by first | (with_reducible assumption) | assumption)
                          obtain ⟨ad755, A755_0, c755_0, e755, hx755_0, hl755_0, hi755_0⟩ := at_L3 HR0_0.out x4_2 p755 q755
                          obtain rfl : ad753 = ad755 := (by injection e755)
                          replace hx755_0 := (HB.out.cell (World.block_lt_of_cell? w _ hx755_0)).trans hx755_0
                          have HR755_0 := Aside0.mk hi755_0
                          have HC755_0 := Aside0.mk hl755_0
                          clear hi755_0 hl755_0
                          replace p755 := eq_true p755
                          replace q755 := eq_true q755
                          have ea_ := Option.some.inj (hx753_0.symm.trans hx755_0)
                          injection ea_ with ea_ en_ ec_
                          subst ea_
                          subst ec_
                          clear en_
                          go_wp2
                          repeat (go_quiet (fail); try go_wp2)
                          go_meet
                          case rel => exact ⟨_, (true), (by first | rfl | (simp; done) | (simp [*]; done)), H', ⟨by have := HJ1.out; have := HK2.out; first | omega | exact Nat.le_refl _⟩, ⟨by (with_reducible repeat (first | refine blk_drewN ?_ _ | refine blk_drew ?_ | refine blk_alloc ?_ _)); exact BK752.out⟩, ⟨by repeat (first | (with_reducible first | exact HB.out | apply below_alloc | apply pw_below_drewN | apply below_drew1 | refine below_set ?_ GE752.out) | exact HB.out)⟩⟩
                        · rw [if_neg c15] at H
                          have c15b0 : decide (((rd_L3 l0_0 x4_2).length : Int) < 1) = false := decide_eq_false c15
                          have c15b1 : decide ((rd_L3 l0_0 x4_2).length < 1) = false := decide_eq_false (by omega)
                          clear c15
                          have H' := Aside0.mk H
                          clear H
                          have hcz17_0 : wr.cell? ⟨gb752, 0, none⟩ = some (.slice A0_0 l0_0.length c0_0) := (blk_cell BK752.out 0).trans rfl
                          have hcz17_1 : wr.cell? ⟨gb752, 1, none⟩ = some (.slice A0_1 l0_1.length c0_1) := (blk_cell BK752.out 1).trans rfl
                          have hfz17_0 := blk_frozen BK752.out 0
                          have hfz17_1 := blk_frozen BK752.out 1
                          have p753 : 0 ≤ (x4_2 : Int) := of_decide_eq_true (by first | (with_reducible assumption) | assumption)
                          have q753 : x4_2 < (l0_0.length : Int) := of_decide_eq_true (by first | (with_reducible assumption) | assumption)
                          obtain ⟨ad753, A753_0, c753_0, e753, hx753_0, hl753_0, hi753_0⟩ := at_L3 HR0_0.out x4_2 p753 q753
                          cases e753
                          replace hx753_0 := (HB.out.cell (World.block_lt_of_cell? w _ hx753_0)).trans hx753_0
                          have HR753_0 := Aside0.mk hi753_0
                          have HC753_0 := Aside0.mk hl753_0
                          clear hi753_0 hl753_0
                          replace p753 := eq_true p753
                          replace q753 := eq_true q753
                          have p754 : 0 ≤ (0 : Int) := (by omega)
                          have q754 : 0 < (l0_0.length : Int) := of_decide_eq_true (by first | (with_reducible assumption) | assumption)
                          obtain ⟨ad754, A754_0, c754_0, e754, hx754_0, hl754_0, hi754_0⟩ := at_L3 HR0_0.out 0 p754 q754
                          obtain rfl : ad753 = ad754 := (by injection e754)
                          have qi754 : (0 < l0_0.length) = True := eq_true (by omega)
                          (try rw [show ((0 : Int)).toNat = 0 from rfl] at hx754_0)
                          (try rw [Addr.add_zero'] at hx754_0)
                          replace hx754_0 := (HB.out.cell (World.block_lt_of_cell? w _ hx754_0)).trans hx754_0
                          have HR754_0 := Aside0.mk hi754_0
                          have HC754_0 := Aside0.mk hl754_0
                          clear hi754_0 hl754_0
                          replace p754 := eq_true p754
                          replace q754 := eq_true q754
                          have p755 : 0 ≤ (x4_2 : Int) := of_decide_eq_true (by first | (with_reducible assumption) | assumption)
                          have q755 : x4_2 < (l0_0.length : Int) := of_decide_eq_true (by first | (with_reducible assumption) | assumption)
                          obtain ⟨ad755, A755_0, c755_0, e755, hx755_0, hl755_0, hi755_0⟩ := at_L3 HR0_0.out x4_2 p755 q755
                          obtain rfl : ad753 = ad755 := (by injection e755)
                          replace hx755_0 := (HB.out.cell (World.block_lt_of_cell? w _ hx755_0)).trans hx755_0
                          have HR755_0 := Aside0.mk hi755_0
                          have HC755_0 := Aside0.mk hl755_0
                          clear hi755_0 hl755_0
                          replace p755 := eq_true p755
                          replace q755 := eq_true q755
                          have ea_ := Option.some.inj (hx753_0.symm.trans hx755_0)
                          injection ea_ with ea_ en_ ec_
                          subst ea_
                          subst ec_
                          clear en_
                          have p756 : 0 ≤ (x4_2 : Int) := of_decide_eq_true (by first | (with_reducible assumption) | assumption)
                          have q756 : x4_2 < (l0_0.length : Int) := of_decide_eq_true (by first | (with_reducible assumption) | assumption)
                          obtain ⟨ad756, A756_0, c756_0, e756, hx756_0, hl756_0, hi756_0⟩ := at_L3 HR0_0.out x4_2 p756 q756
                          obtain rfl : ad753 = ad756 := (by injection e756)
                          replace hx756_0 := (HB.out.cell (World.block_lt_of_cell? w _ hx756_0)).trans hx756_0
                          have HR756_0 := Aside0.mk hi756_0
                          have HC756_0 := Aside0.mk hl756_0
                          clear hi756_0 hl756_0
                          replace p756 := eq_true p756
                          replace q756 := eq_true q756
                          have ea_ := Option.some.inj (hx753_0.symm.trans hx756_0)
                          injection ea_ with ea_ en_ ec_
                          subst ea_
                          subst ec_
                          clear en_
                          go_wp2
                          repeat (go_quiet (fail); try go_wp2)
                          go_meet
                          case rel => exact ⟨_, (decide (((rd_L3 l0_0 x4_2).length : Int) > 200)), (by first | rfl | (simp; done) | (simp [*]; done)), H', ⟨by have := HJ1.out; have := HK2.out; first | omega | exact Nat.le_refl _⟩, ⟨by (with_reducible repeat (first | refine blk_drewN ?_ _ | refine blk_drew ?_ | refine blk_alloc ?_ _)); exact BK752.out⟩, ⟨by repeat (first | (with_reducible first | exact HB.out | apply below_alloc | apply pw_below_drewN | apply below_drew1 | refine below_set ?_ GE752.out) | exact HB.out)⟩⟩
                      · rw [if_neg c14] at H
                        have c14b0 : (((rd_L3 l0_0 x4_2).length : Int) == ((rd_L3 l0_0 0).length : Int)) = false := beq_eq_false_iff_ne.mpr c14
                        have c14b1 : (((rd_L3 l0_0 x4_2).length : Int) != ((rd_L3 l0_0 0).length : Int)) = true := bne_iff_ne.mpr c14
                        have c14b2 : ((rd_L3 l0_0 x4_2).length == (rd_L3 l0_0 0).length) = false := by first | simpa using c14 | (simp at c14 ⊢; omega)
                        have H' := Aside0.mk H
                        clear H
                        have hcz18_0 : wr.cell? ⟨gb752, 0, none⟩ = some (.slice A0_0 l0_0.length c0_0) := (blk_cell BK752.out 0).trans rfl
                        have hcz18_1 : wr.cell? ⟨gb752, 1, none⟩ = some (.slice A0_1 l0_1.length c0_1) := (blk_cell BK752.out 1).trans rfl
                        have hfz18_0 := blk_frozen BK752.out 0
                        have hfz18_1 := blk_frozen BK752.out 1
                        have p753 : 0 ≤ (x4_2 : Int) := of_decide_eq_true (by first | (with_reducible assumption) | assumption)
                        have q753 : x4_2 < (l0_0.length : Int) := of_decide_eq_true (by first | (with_reducible assumption) | assumption)
                        obtain ⟨ad753, A753_0, c753_0, e753, hx753_0, hl753_0, hi753_0⟩ := at_L3 HR0_0.out x4_2 p753 q753
                        cases e753
                        replace hx753_0 := (HB.out.cell (World.block_lt_of_cell? w _ hx753_0)).trans hx753_0
                        have HR753_0 := Aside0.mk hi753_0
                        have HC753_0 := Aside0.mk hl753_0
                        clear hi753_0 hl753_0
                        replace p753 := eq_true p753
                        replace q753 := eq_true q753
                        have p754 : 0 ≤ (0 : Int) := (by omega)
                        have q754 : 0 < (l0_0.length : Int) := of_decide_eq_true (by first | (with_reducible assumption) | assumption)
                        obtain ⟨ad754, A754_0, c754_0, e754, hx754_0, hl754_0, hi754_0⟩ := at_L3 HR0_0.out 0 p754 q754
                        obtain rfl : ad753 = ad754 := (by injection e754)
                        have qi754 : (0 < l0_0.length) = True := eq_true (by omega)
                        (try rw [show ((0 : Int)).toNat = 0 from rfl] at hx754_0)
                        (try rw [Addr.add_zero'] at hx754_0)
                        replace hx754_0 := (HB.out.cell (World.block_lt_of_cell? w _ hx754_0)).trans hx754_0
                        have HR754_0 := Aside0.mk hi754_0
                        have HC754_0 := Aside0.mk hl754_0
                        clear hi754_0 hl754_0
                        replace p754 := eq_true p754
                        replace q754 := eq_true q754
                        go_wp2
                        repeat (go_quiet (fail); try go_wp2)
                        go_meet
                        case rel => exact ⟨_, (true), (by first | rfl | (simp; done) | (simp [*]; done)), H', ⟨by have := HJ1.out; have := HK2.out; first | omega | exact Nat.le_refl _⟩, ⟨by (with_reducible repeat (first | refine blk_drewN ?_ _ | refine blk_drew ?_ | refine blk_alloc ?_ _)); exact BK752.out⟩, ⟨by repeat (first | (with_reducible first | exact HB.out | apply below_alloc | apply pw_below_drewN | apply below_drew1 | refine below_set ?_ GE752.out) | exact HB.out)⟩⟩
                    · rw [if_neg c13] at H
                      exact absurd H (by simp)
                  · rw [if_neg c12] at H
                    exact absurd H (by simp)
                · rw [if_neg c11] at H
                  exact absurd H (by simp)
              case rest =>
                clear HC10
                try clear c1
                try clear p2
                try clear c3
                try clear c5
                try clear c5b0
                try clear c5b1
                try clear c6
                try clear c6b0
                try clear c6b1
                try clear c7
                try clear p7
                try clear q7
                try clear hx7
                try clear qi7
                try clear c8
                try clear c9
                try clear c9b0
                try clear c11
                try clear c11b0
                try clear c12
                try clear c12b0
                try clear c13
                try clear c13b0
                try clear c13b1
                try clear c14
                try clear c14b0
                try clear c14b1
                try clear c14b2
                try clear c15
                try clear c15b0
                try clear c15b1
                try clear hcz16_0
                try clear hcz16_1
                try clear hcz17_0
                try clear hcz17_1
                try clear hcz18_0
                try clear hcz18_1
                try clear hcz4_0
                try clear hcz4_1
                try clear hcz7_0
                try clear hcz7_1
                try clear hfz16_0
                try clear hfz16_1
                try clear hfz17_0
                try clear hfz17_1
                try clear hfz18_0
                try clear hfz18_1
                try clear hfz4_0
                try clear hfz4_1
                try clear hfz7_0
                try clear hfz7_1
                try clear hx753_0
                try clear hx754_0
                try clear hx755_0
                try clear hx756_0
                try clear p2
                try clear p753
                try clear p754
                try clear p755
                try clear p756
                try clear q753
                try clear q754
                try clear q755
                try clear q756
                obtain ⟨kq, x56_9, rfl, HA, HJ9, BK752, HB⟩ := hcut
                cases kq with
                | zero => exact absurd HA.out (by simp [scansionref12_Right.j2])
                | succ kj9 =>
                  have H := HA.out
                  clear HA
                  simp only [scansionref12_Right.j2] at H
                  by_cases c19 : x56_9 = true
                  · subst c19
                    have H1 : (some false) = some r := by rw [if_pos rfl] at H; exact H
                    clear H
                    have H := H1
                    clear H1
                    obtain rfl := Option.some.inj H
                    go_wp2
                    repeat (go_quiet (fail); try go_wp2)
                    go_ret
                    exact ⟨by first | rfl | (simp [errW_none, errW_some] <;> rfl) | (simp [*, errW_none, errW_some] <;> rfl), by repeat (first | (with_reducible first | exact HB.out | apply below_alloc | apply pw_below_drewN | apply below_drew1 | refine below_set ?_ GE752.out) | exact HB.out)⟩
                  · replace c19 := Bool.eq_false_iff.mpr c19
                    subst c19
                    have H1 : (scansionref12_Right.l1 kj9 (l0_0.length : Int) x4_2 0 l0_0 l0_1) = some r := by rw [if_neg (show ¬ (false = true) by decide)] at H; exact H
                    clear H
                    have H := H1
                    clear H1
                    have H' := Aside0.mk H
                    clear H
                    go_wp2
                    repeat (go_quiet (fail); try go_wp2)
                    go_loopg [5] kj9 (fun kq v5 w' => ∃ (x5_4 : Int), v5 = .int .i64 x5_4 ∧ Aside0 (scansionref12_Right.l1 kq (l0_0.length : Int) x4_2 x5_4 l0_0 l0_1 = some r) ∧ Aside0 (kq ≤ kj9) ∧ Aside0 (w'.heap[gb752]? = some (.cells #[(.slice A0_0 l0_0.length c0_0), (.slice A0_1 l0_1.length c0_1)] 47 (0, 0))) ∧ Aside0 (Below w.heap.size w w'))
                    case atStart => exact ⟨(0), (by first | rfl | (simp; done) | (simp [*]; done)), H', ⟨Nat.le_refl _⟩, ⟨by (with_reducible repeat (first | refine blk_drewN ?_ _ | refine blk_drew ?_ | refine blk_alloc ?_ _)); exact BK752.out⟩, ⟨by repeat (first | (with_reducible first | exact HB.out | apply below_alloc | apply pw_below_drewN | apply below_drew1 | refine below_set ?_ GE752.out) | exact HB.out)⟩⟩
                    case round =>
                      clear H'
                      try clear c1
                      try clear p2
                      try clear c3
                      try clear c5
                      try clear c5b0
                      try clear c5b1
                      try clear c6
                      try clear c6b0
                      try clear c6b1
                      try clear c7
                      try clear p7
                      try clear q7
                      try clear hx7
                      try clear qi7
                      try clear c8
                      try clear c9
                      try clear c9b0
                      try clear c11
                      try clear c11b0
                      try clear c12
                      try clear c12b0
                      try clear c13
                      try clear c13b0
                      try clear c13b1
                      try clear c14
                      try clear c14b0
                      try clear c14b1
                      try clear c14b2
                      try clear c15
                      try clear c15b0
                      try clear c15b1
                      try clear c19
                      try clear hcz16_0
                      try clear hcz16_1
                      try clear hcz17_0
                      try clear hcz17_1
                      try clear hcz18_0
                      try clear hcz18_1
                      try clear hcz4_0
                      try clear hcz4_1
                      try clear hcz7_0
                      try clear hcz7_1
                      try clear hfz16_0
                      try clear hfz16_1
                      try clear hfz17_0
                      try clear hfz17_1
                      try clear hfz18_0
                      try clear hfz18_1
                      try clear hfz4_0
                      try clear hfz4_1
                      try clear hfz7_0
                      try clear hfz7_1
                      try clear hx753_0
                      try clear hx754_0
                      try clear hx755_0
                      try clear hx756_0
                      try clear p2
                      try clear p7
                      try clear p753
                      try clear p754
                      try clear p755
                      try clear p756
                      try clear q7
                      try clear q753
                      try clear q754
                      try clear q755
                      try clear q756
                      obtain ⟨x5_4, rfl, HA, HK4, BK752, HB⟩ := hrel
                      cases gk with
                      | zero => exact absurd HA.out (by simp [scansionref12_Right.l1])
                      | succ k4 =>
                        have H := HA.out
                        clear HA
                        simp only [scansionref12_Right.l1] at H
                        by_cases c20 : 0 ≤ x4_2
                        · rw [if_pos c20] at H
                          have c20b0 : decide (0 ≤ x4_2) = true := decide_eq_true c20
                          clear c20
                          by_cases c21 : x4_2 < (l0_0.length : Int)
                          · rw [if_pos c21] at H
                            have c21b0 : decide (x4_2 < (l0_0.length : Int)) = true := decide_eq_true c21
                            clear c21
                            by_cases c22 : x5_4 < ((rd_L3 l0_0 x4_2).length : Int)
                            · rw [if_pos c22] at H
                              have c22b0 : decide (x5_4 < ((rd_L3 l0_0 x4_2).length : Int)) = true := decide_eq_true c22
                              clear c22
                              by_cases c23 : 0 ≤ x5_4
                              · rw [if_pos c23] at H
                                have c23b0 : decide (0 ≤ x5_4) = true := decide_eq_true c23
                                clear c23
                                by_cases c24 : (rd (rd_L3 l0_0 x4_2) x5_4) < 0
                                · rw [if_pos c24] at H
                                  have c24b0 : decide ((rd (rd_L3 l0_0 x4_2) x5_4) < 0) = true := decide_eq_true c24
                                  clear c24
                                  obtain rfl := Option.some.inj H
                                  have hcz25_0 : wr.cell? ⟨gb752, 0, none⟩ = some (.slice A0_0 l0_0.length c0_0) := (blk_cell BK752.out 0).trans rfl
                                  have hcz25_1 : wr.cell? ⟨gb752, 1, none⟩ = some (.slice A0_1 l0_1.length c0_1) := (blk_cell BK752.out 1).trans rfl
                                  have hfz25_0 := blk_frozen BK752.out 0
                                  have hfz25_1 := blk_frozen BK752.out 1
                                  have p757 : 0 ≤ (x4_2 : Int) := of_decide_eq_true (by first | (with_reducible assumption) | assumption)
                                  have q757 : x4_2 < (l0_0.length : Int) := of_decide_eq_true (by first | (with_reducible assumption) | assumption)
                                  obtain ⟨ad757, A757_0, c757_0, e757, hx757_0, hl757_0, hi757_0⟩ := at_L3 HR0_0.out x4_2 p757 q757
                                  cases e757
                                  replace hx757_0 := (HB.out.cell (World.block_lt_of_cell? w _ hx757_0)).trans hx757_0
                                  have HR757_0 := Aside0.mk hi757_0
                                  have HC757_0 := Aside0.mk hl757_0
                                  clear hi757_0 hl757_0
                                  replace p757 := eq_true p757
                                  replace q757 := eq_true q757
                                  have p758 : 0 ≤ (x4_2 : Int) := of_decide_eq_true (by first | (with_reducible assumption) | assumption)
                                  have q758 : x4_2 < (l0_0.length : Int) := of_decide_eq_true (by first | (with_reducible assumption) | assumption)
                                  obtain ⟨ad758, A758_0, c758_0, e758, hx758_0, hl758_0, hi758_0⟩ := at_L3 HR0_0.out x4_2 p758 q758
                                  obtain rfl : ad757 = ad758 := (by injection e758)
                                  replace hx758_0 := (HB.out.cell (World.block_lt_of_cell? w _ hx758_0)).trans hx758_0
                                  have HR758_0 := Aside0.mk hi758_0
                                  have HC758_0 := Aside0.mk hl758_0
                                  clear hi758_0 hl758_0
                                  replace p758 := eq_true p758
                                  replace q758 := eq_true q758
                                  have ea_ := Option.some.inj (hx757_0.symm.trans hx758_0)
                                  injection ea_ with ea_ en_ ec_
                                  subst ea_
                                  subst ec_
                                  clear en_
                                  have p759 : 0 ≤ (x5_4 : Int) := of_decide_eq_true (by first | (with_reducible assumption) | assumption)
                                  have q759 : x5_4 < ((rd_L3 l0_0 x4_2).length : Int) := of_decide_eq_true (by first | (with_reducible assumption) | assumption)
                                  obtain ⟨ad759, e759, hx759_0⟩ := Kd.at_int HR758_0.out x5_4 p759 q759
                                  cases e759
                                  replace hx759_0 := (HB.out.cell (World.block_lt_of_cell? w _ hx759_0)).trans hx759_0
                                  replace p759 := eq_true p759
                                  replace q759 := eq_true q759
                                  go_wp2
                                  repeat (go_quiet (fail); try go_wp2)
                                  go_ret
                                  exact ⟨by first | rfl | (simp [errW_none, errW_some] <;> rfl) | (simp [*, errW_none, errW_some] <;> rfl), by repeat (first | (with_reducible first | exact HB.out | apply below_alloc | apply pw_below_drewN | apply below_drew1 | refine below_set ?_ GE752.out) | exact HB.out)⟩
                                · rw [if_neg c24] at H
                                  have c24b0 : decide ((rd (rd_L3 l0_0 x4_2) x5_4) < 0) = false := decide_eq_false c24
                                  clear c24
                                  by_cases c26 : (rd (rd_L3 l0_0 x4_2) x5_4) ≥ (l0_0.length : Int)
                                  · rw [if_pos c26] at H
                                    have c26b0 : decide ((l0_0.length : Int) ≤ (rd (rd_L3 l0_0 x4_2) x5_4)) = true := decide_eq_true c26
                                    clear c26
                                    obtain rfl := Option.some.inj H
                                    have hcz27_0 : wr.cell? ⟨gb752, 0, none⟩ = some (.slice A0_0 l0_0.length c0_0) := (blk_cell BK752.out 0).trans rfl
                                    have hcz27_1 : wr.cell? ⟨gb752, 1, none⟩ = some (.slice A0_1 l0_1.length c0_1) := (blk_cell BK752.out 1).trans rfl
                                    have hfz27_0 := blk_frozen BK752.out 0
                                    have hfz27_1 := blk_frozen BK752.out 1
                                    have p757 : 0 ≤ (x4_2 : Int) := of_decide_eq_true (by first | (with_reducible assumption) | assumption)
                                    have q757 : x4_2 < (l0_0.length : Int) := of_decide_eq_true (by first | (with_reducible assumption) | assumption)
                                    obtain ⟨ad757, A757_0, c757_0, e757, hx757_0, hl757_0, hi757_0⟩ := at_L3 HR0_0.out x4_2 p757 q757
                                    cases e757
                                    replace hx757_0 := (HB.out.cell (World.block_lt_of_cell? w _ hx757_0)).trans hx757_0
                                    have HR757_0 := Aside0.mk hi757_0
                                    have HC757_0 := Aside0.mk hl757_0
                                    clear hi757_0 hl757_0
                                    replace p757 := eq_true p757
                                    replace q757 := eq_true q757
                                    have p758 : 0 ≤ (x4_2 : Int) := of_decide_eq_true (by first | (with_reducible assumption) | assumption)
                                    have q758 : x4_2 < (l0_0.length : Int) := of_decide_eq_true (by first | (with_reducible assumption) | assumption)
                                    obtain ⟨ad758, A758_0, c758_0, e758, hx758_0, hl758_0, hi758_0⟩ := at_L3 HR0_0.out x4_2 p758 q758
                                    obtain rfl : ad757 = ad758 := (by injection e758)
                                    replace hx758_0 := (HB.out.cell (World.block_lt_of_cell? w _ hx758_0)).trans hx758_0
                                    have HR758_0 := Aside0.mk hi758_0
                                    have HC758_0 := Aside0.mk hl758_0
                                    clear hi758_0 hl758_0
                                    replace p758 := eq_true p758
                                    replace q758 := eq_true q758
                                    have ea_ := Option.some.inj (hx757_0.symm.trans hx758_0)
                                    injection ea_ with ea_ en_ ec_
                                    subst ea_
                                    subst ec_
                                    clear en_
                                    have p759 : 0 ≤ (x5_4 : Int) := of_decide_eq_true (by first | (with_reducible assumption) | assumption)
                                    have q759 : x5_4 < ((rd_L3 l0_0 x4_2).length : Int) := of_decide_eq_true (by first | (with_reducible assumption) | assumption)
                                    obtain ⟨ad759, e759, hx759_0⟩ := Kd.at_int HR758_0.out x5_4 p759 q759
                                    cases e759
                                    replace hx759_0 := (HB.out.cell (World.block_lt_of_cell? w _ hx759_0)).trans hx759_0
                                    replace p759 := eq_true p759
                                    replace q759 := eq_true q759
                                    have p760 : 0 ≤ (x4_2 : Int) := of_decide_eq_true (by first | (with_reducible assumption) | assumption)
                                    have q760 : x4_2 < (l0_0.length : Int) := of_decide_eq_true (by first | (with_reducible assumption) | assumption)
                                    obtain ⟨ad760, A760_0, c760_0, e760, hx760_0, hl760_0, hi760_0⟩ := at_L3 HR0_0.out x4_2 p760 q760
                                    obtain rfl : ad757 = ad760 := (by injection e760)
                                    replace hx760_0 := (HB.out.cell (World.block_lt_of_cell? w _ hx760_0)).trans hx760_0
                                    have HR760_0 := Aside0.mk hi760_0
                                    have HC760_0 := Aside0.mk hl760_0
                                    clear hi760_0 hl760_0
                                    replace p760 := eq_true p760
                                    replace q760 := eq_true q760
                                    have ea_ := Option.some.inj (hx757_0.symm.trans hx760_0)
                                    injection ea_ with ea_ en_ ec_
                                    subst ea_
                                    subst ec_
                                    clear en_
                                    have p761 : 0 ≤ (x5_4 : Int) := of_decide_eq_true (by first | (with_reducible assumption) | assumption)
                                    have q761 : x5_4 < ((rd_L3 l0_0 x4_2).length : Int) := of_decide_eq_true (by first | (with_reducible assumption) | assumption)
                                    obtain ⟨ad761, e761, hx761_0⟩ := Kd.at_int HR760_0.out x5_4 p761 q761
                                    cases e761
                                    replace hx761_0 := (HB.out.cell (World.block_lt_of_cell? w _ hx761_0)).trans hx761_0
                                    replace p761 := eq_true p761
                                    replace q761 := eq_true q761
                                    go_wp2
                                    repeat (go_quiet (fail); try go_wp2)
                                    go_ret
                                    exact ⟨by first | rfl | (simp [errW_none, errW_some] <;> rfl) | (simp [*, errW_none, errW_some] <;> rfl), by repeat (first | (with_reducible first | exact HB.out | apply below_alloc | apply pw_below_drewN | apply below_drew1 | refine below_set ?_ GE752.out) | exact HB.out)⟩
                                  · rw [if_neg c26] at H
                                    have c26b0 : decide ((l0_0.length : Int) ≤ (rd (rd_L3 l0_0 x4_2) x5_4)) = false := decide_eq_false c26
                                    clear c26
                                    have H' := Aside0.mk H
                                    clear H
                                    have hcz28_0 : wr.cell? ⟨gb752, 0, none⟩ = some (.slice A0_0 l0_0.length c0_0) := (blk_cell BK752.out 0).trans rfl
                                    have hcz28_1 : wr.cell? ⟨gb752, 1, none⟩ = some (.slice A0_1 l0_1.length c0_1) := (blk_cell BK752.out 1).trans rfl
                                    have hfz28_0 := blk_frozen BK752.out 0
                                    have hfz28_1 := blk_frozen BK752.out 1
                                    have p757 : 0 ≤ (x4_2 : Int) := of_decide_eq_true (by first | (with_reducible assumption) | assumption)
                                    have q757 : x4_2 < (l0_0.length : Int) := of_decide_eq_true (by first | (with_reducible assumption) | assumption)
                                    obtain ⟨ad757, A757_0, c757_0, e757, hx757_0, hl757_0, hi757_0⟩ := at_L3 HR0_0.out x4_2 p757 q757
                                    cases e757
                                    replace hx757_0 := (HB.out.cell (World.block_lt_of_cell? w _ hx757_0)).trans hx757_0
                                    have HR757_0 := Aside0.mk hi757_0
                                    have HC757_0 := Aside0.mk hl757_0
                                    clear hi757_0 hl757_0
                                    replace p757 := eq_true p757
                                    replace q757 := eq_true q757
                                    have p758 : 0 ≤ (x4_2 : Int) := of_decide_eq_true (by first | (with_reducible assumption) | assumption)
                                    have q758 : x4_2 < (l0_0.length : Int) := of_decide_eq_true (by first | (with_reducible assumption) | assumption)
                                    obtain ⟨ad758, A758_0, c758_0, e758, hx758_0, hl758_0, hi758_0⟩ := at_L3 HR0_0.out x4_2 p758 q758
                                    obtain rfl : ad757 = ad758 := (by injection e758)
                                    replace hx758_0 := (HB.out.cell (World.block_lt_of_cell? w _ hx758_0)).trans hx758_0
                                    have HR758_0 := Aside0.mk hi758_0
                                    have HC758_0 := Aside0.mk hl758_0
                                    clear hi758_0 hl758_0
                                    replace p758 := eq_true p758
                                    replace q758 := eq_true q758
                                    have ea_ := Option.some.inj (hx757_0.symm.trans hx758_0)
                                    injection ea_ with ea_ en_ ec_
                                    subst ea_
                                    subst ec_
                                    clear en_
                                    have p759 : 0 ≤ (x5_4 : Int) := of_decide_eq_true (by first | (with_reducible assumption) | assumption)
                                    have q759 : x5_4 < ((rd_L3 l0_0 x4_2).length : Int) := of_decide_eq_true (by first | (with_reducible assumption) | assumption)
                                    obtain ⟨ad759, e759, hx759_0⟩ := Kd.at_int HR758_0.out x5_4 p759 q759
                                    cases e759
                                    replace hx759_0 := (HB.out.cell (World.block_lt_of_cell? w _ hx759_0)).trans hx759_0
                                    replace p759 := eq_true p759
                                    replace q759 := eq_true q759
                                    have p760 : 0 ≤ (x4_2 : Int) := of_decide_eq_true (by first | (with_reducible assumption) | assumption)
                                    have q760 : x4_2 < (l0_0.length : Int) := of_decide_eq_true (by first | (with_reducible assumption) | assumption)
                                    obtain ⟨ad760, A760_0, c760_0, e760, hx760_0, hl760_0, hi760_0⟩ := at_L3 HR0_0.out x4_2 p760 q760
                                    obtain rfl : ad757 = ad760 := (by injection e760)
                                    replace hx760_0 := (HB.out.cell (World.block_lt_of_cell? w _ hx760_0)).trans hx760_0
                                    have HR760_0 := Aside0.mk hi760_0
                                    have HC760_0 := Aside0.mk hl760_0
                                    clear hi760_0 hl760_0
                                    replace p760 := eq_true p760
                                    replace q760 := eq_true q760
                                    have ea_ := Option.some.inj (hx757_0.symm.trans hx760_0)
                                    injection ea_ with ea_ en_ ec_
                                    subst ea_
                                    subst ec_
                                    clear en_
                                    have p761 : 0 ≤ (x5_4 : Int) := of_decide_eq_true (by first | (with_reducible assumption) | assumption)
                                    have q761 : x5_4 < ((rd_L3 l0_0 x4_2).length : Int) := of_decide_eq_true (by first | (with_reducible assumption) | assumption)
                                    obtain ⟨ad761, e761, hx761_0⟩ := Kd.at_int HR760_0.out x5_4 p761 q761
                                    cases e761
                                    replace hx761_0 := (HB.out.cell (World.block_lt_of_cell? w _ hx761_0)).trans hx761_0
                                    replace p761 := eq_true p761
                                    replace q761 := eq_true q761
                                    go_wp2
                                    repeat (go_quiet (fail); try go_wp2)
                                    go_roundg k4
                                    case measure => have := HJ1.out; have := HK2.out; have := HJ9.out; have := HK4.out; omega
                                    case rel => exact ⟨(wrap64 (x5_4 + 1)), (by first | rfl | (simp; done) | (simp [*]; done)), H', ⟨by have := HJ1.out; have := HK2.out; have := HJ9.out; have := HK4.out; omega⟩, ⟨by (with_reducible repeat (first | refine blk_drewN ?_ _ | refine blk_drew ?_ | refine blk_alloc ?_ _)); exact BK752.out⟩, ⟨by repeat (first | (with_reducible first | exact HB.out | apply below_alloc | apply pw_below_drewN | apply below_drew1 | refine below_set ?_ GE752.out) | exact HB.out)⟩⟩
                              · rw [if_neg c23] at H
                                exact absurd H (by simp)
                            · rw [if_neg c22] at H
                              have c22b0 : decide (x5_4 < ((rd_L3 l0_0 x4_2).length : Int)) = false := decide_eq_false c22
                              clear c22
                              have H' := Aside0.mk H
                              clear H
                              have hcz29_0 : wr.cell? ⟨gb752, 0, none⟩ = some (.slice A0_0 l0_0.length c0_0) := (blk_cell BK752.out 0).trans rfl
                              have hcz29_1 : wr.cell? ⟨gb752, 1, none⟩ = some (.slice A0_1 l0_1.length c0_1) := (blk_cell BK752.out 1).trans rfl
                              have hfz29_0 := blk_frozen BK752.out 0
                              have hfz29_1 := blk_frozen BK752.out 1
                              have p757 : 0 ≤ (x4_2 : Int) := of_decide_eq_true (by first | (with_reducible assumption) | assumption)
                              have q757 : x4_2 < (l0_0.length : Int) := of_decide_eq_true (by first | (with_reducible assumption) | assumption)
                              obtain ⟨ad757, A757_0, c757_0, e757, hx757_0, hl757_0, hi757_0⟩ := at_L3 HR0_0.out x4_2 p757 q757
                              cases e757
                              replace hx757_0 := (HB.out.cell (World.block_lt_of_cell? w _ hx757_0)).trans hx757_0
                              have HR757_0 := Aside0.mk hi757_0
                              have HC757_0 := Aside0.mk hl757_0
                              clear hi757_0 hl757_0
                              replace p757 := eq_true p757
                              replace q757 := eq_true q757
                              go_wp2
                              repeat (go_quiet (fail); try go_wp2)
                              go_roundg k4
                              case measure => have := HJ1.out; have := HK2.out; have := HJ9.out; have := HK4.out; omega
                              case rel => exact ⟨(wrap64 (x4_2 + 1)), (by first | rfl | (simp; done) | (simp [*]; done)), H', ⟨by have := HJ1.out; have := HK2.out; have := HJ9.out; have := HK4.out; omega⟩, ⟨by (with_reducible repeat (first | refine blk_drewN ?_ _ | refine blk_drew ?_ | refine blk_alloc ?_ _)); exact BK752.out⟩, ⟨by repeat (first | (with_reducible first | exact HB.out | apply below_alloc | apply pw_below_drewN | apply below_drew1 | refine below_set ?_ GE752.out) | exact HB.out)⟩⟩
                          · rw [if_neg c21] at H
                            exact absurd H (by simp)
                        · rw [if_neg c20] at H
                          exact absurd H (by simp)
            · rw [if_neg c9] at H
              have c9b0 : decide (x4_2 < (l0_0.length : Int)) = false := decide_eq_false c9
              clear c9
              obtain rfl := Option.some.inj H
              go_wp2
              repeat (go_quiet (fail); try go_wp2)
              go_ret
              exact ⟨by first | rfl | (simp [errW_none, errW_some] <;> rfl) | (simp [*, errW_none, errW_some] <;> rfl), by repeat (first | (with_reducible first | exact HB.out | apply below_alloc | apply pw_below_drewN | apply below_drew1 | refine below_set ?_ GE752.out) | exact HB.out)⟩

end Go.Proofs.Ytemlgmkbonpniaa.Print
