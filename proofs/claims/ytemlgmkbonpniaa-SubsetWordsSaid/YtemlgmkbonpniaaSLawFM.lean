/- Plain laws of chapter 12: running through classes. · Plain law: what the states of subset.Build are, and where running through classes leads; free, more is reached. -/
import Derived.Test.YtemlgmkbonpniaaPrint0
import Derived.Test.YtemlgmkbonpniaaSRight
import Derived.Test.YtemlgmkbonpniaaSLawMM
import Derived.Test.YtemlgmkbonpniaaFLawA
-- Written by a program of this session (wip/sp.py) out of the translation.
namespace Go.Proofs.Ytemlgmkbonpniaa.Print
open Go.RowKit Go.Proofs.YtemlgmkbonpniaaW.PrintWords Go.Proofs.YtemlgmkbonpniaaW.PrintLast Go.Proofs.YtemlgmkbonpniaaW.PrintMore
attribute [local go_sem] max2_int min2_int max_two min_two max_three min_three max_four min_four   -- for this text's walks alone
set_option linter.unusedVariables false
set_option linter.unusedSimpArgs false

/-! ### subset_Right: function 35 (a contract of this session's own) -/
-- IMPORT Derived.Test.YtemlgmkbonpniaaSRight
-- HOME subset_Right.f
-- HOME subset_Right.calls

end Go.Proofs.Ytemlgmkbonpniaa.Print

-- Written by a program of this session (wip/sp.py) out of the translation.
namespace Go.Proofs.Ytemlgmkbonpniaa.Print
open Go.RowKit Go.Proofs.YtemlgmkbonpniaaW.PrintWords Go.Proofs.YtemlgmkbonpniaaW.PrintLast Go.Proofs.YtemlgmkbonpniaaW.PrintMore
attribute [local go_sem] max2_int min2_int max_two min_two max_three min_three max_four min_four   -- for this text's walks alone
set_option linter.unusedVariables false
set_option linter.unusedSimpArgs false

/-! ### scansionref12_Few: function 36 -/
mutual
def scansionref12_Few.j0 : Nat → Int → Bool → List (List Int) → List Bool → Option (Bool)
 | 0, _, _, _, _ => none
 | k + 1, x1, x17, x745000, x745001 => if x17 = true then (some false) else (scansionref12_Few.l0 k x1 0 x745000 x745001)
def scansionref12_Few.l0 : Nat → Int → Int → List (List Int) → List Bool → Option (Bool)
 | 0, _, _, _, _ => none
 | k + 1, x1, x5, x745000, x745001 => if x5 < (x745000.length : Int) then (if 0 ≤ x5 then (if ((rd_L3 x745000 x5).length : Int) > x1 then (some false) else (scansionref12_Few.l0 k x1 (wrap64 (x5 + 1)) x745000 x745001)) else (none)) else (some true)
end
def scansionref12_Few.f (k : Nat) (l0_0 : List (List Int)) (l0_1 : List Bool) (a1 : Int) : Option (Bool) := if (l0_0.length : Int) > a1 then (scansionref12_Few.j0 k a1 true l0_0 l0_1) else (scansionref12_Few.j0 k a1 (decide ((l0_1.length : Int) > a1)) l0_0 l0_1)
theorem scansionref12_Few.mono_l : ∀ k, (∀ y0 y1 y2 y3, LeO (scansionref12_Few.j0 k y0 y1 y2 y3) (scansionref12_Few.j0 (k + 1) y0 y1 y2 y3)) ∧ (∀ y0 y1 y2 y3, LeO (scansionref12_Few.l0 k y0 y1 y2 y3) (scansionref12_Few.l0 (k + 1) y0 y1 y2 y3))
 | 0 => ⟨fun _ _ _ _ r h => by simp [scansionref12_Few.j0] at h, fun _ _ _ _ r h => by simp [scansionref12_Few.l0] at h⟩
 | k + 1 => by
  obtain ⟨ih0, ih1⟩ := scansionref12_Few.mono_l k
  refine ⟨?_, ?_⟩
  ·intro y0 y1 y2 y3
   unfold scansionref12_Few.j0
   repeat' first
   | (with_reducible exact ih0 _ _ _ _)
   | (with_reducible exact ih1 _ _ _ _)
   | (with_reducible exact LeO.refl _)
   | (with_reducible exact LeO.none _)
   | (with_reducible refine LeO.ite ?_ ?_)
   | (with_reducible refine LeO.bind ?_ (fun _ => ?_))
   | exact ih0 _ _ _ _
   | exact ih1 _ _ _ _
   | exact LeO.none _
   | refine LeO.ite ?_ ?_
   | refine LeO.bind ?_ (fun _ => ?_)
  ·intro y0 y1 y2 y3
   unfold scansionref12_Few.l0
   repeat' first
   | (with_reducible exact ih0 _ _ _ _)
   | (with_reducible exact ih1 _ _ _ _)
   | (with_reducible exact LeO.refl _)
   | (with_reducible exact LeO.none _)
   | (with_reducible refine LeO.ite ?_ ?_)
   | (with_reducible refine LeO.bind ?_ (fun _ => ?_))
   | exact ih0 _ _ _ _
   | exact ih1 _ _ _ _
   | exact LeO.none _
   | refine LeO.ite ?_ ?_
   | refine LeO.bind ?_ (fun _ => ?_)
theorem scansionref12_Few.mono : ∀ a0 a1 a2 k, LeO (scansionref12_Few.f k a0 a1 a2) (scansionref12_Few.f (k + 1) a0 a1 a2) := by
 intro a0 a1 a2 k
 obtain ⟨ih0, ih1⟩ := scansionref12_Few.mono_l k
 unfold scansionref12_Few.f
 repeat' first
   | (with_reducible exact ih0 _ _ _ _)
   | (with_reducible exact ih1 _ _ _ _)
   | (with_reducible exact LeO.refl _)
   | (with_reducible exact LeO.none _)
   | (with_reducible refine LeO.ite ?_ ?_)
   | (with_reducible refine LeO.bind ?_ (fun _ => ?_))
   | exact ih0 _ _ _ _
   | exact ih1 _ _ _ _
   | exact LeO.none _
   | refine LeO.ite ?_ ?_
   | refine LeO.bind ?_ (fun _ => ?_)
set_option maxHeartbeats 8000000 in
set_option maxRecDepth 100000 in
theorem scansionref12_Few.calls (k : Nat) (A0_0 : Option Addr) (c0_0 : Nat) (l0_0 : List (List Int)) (A0_1 : Option Addr) (c0_1 : Nat) (l0_1 : List Bool) (a1 : Int) (r : Bool) (w : World) (hr0_0 : Kd.C (Kd.slice 3 (Kd.int .i64)) w A0_0 l0_0.length l0_0) (hc0_0 : l0_0.length ≤ c0_0) (hr0_1 : Kd.C Kd.bool w A0_1 l0_1.length l0_1) (hc0_1 : l0_1.length ≤ c0_1) (h : scansionref12_Few.f k l0_0 l0_1 a1 = some r) :
  Calls Try.prog 36 #[.agg #[.slice A0_0 l0_0.length c0_0, .slice A0_1 l0_1.length c0_1], .int .i64 a1] w fun e w' => e = .returned (.bool r) ∧ Below w.heap.size w w' := by
 have hu47 := Try.underlying47
 have HR0_0 := Aside0.mk hr0_0
 have HC0_0 := Aside0.mk hc0_0
 clear hr0_0 hc0_0
 have HR0_1 := Aside0.mk hr0_1
 have HC0_1 := Aside0.mk hc0_1
 clear hr0_1 hc0_1
 have HB := Aside0.mk (Below.refl w.heap.size w)
 have H : (if (l0_0.length : Int) > a1 then (scansionref12_Few.j0 k a1 true l0_0 l0_1) else (scansionref12_Few.j0 k a1 (decide ((l0_1.length : Int) > a1)) l0_0 l0_1)) = some r := h
 clear h
 have HC3 := Aside0.mk H
 clear H
 go_enter Try.func36, Try.ntmps36
 go_upto_region 1 with (first | ((with_reducible refine gate_dst (N := 2) rfl ?_); (try (refine gate_guard (by rfl) ?_; dsimp only)); refine box_event ?hg (N := 2) ?hd (cs := #[.slice A0_0 l0_0.length c0_0, .slice A0_1 l0_1.length c0_1]) (t := 47) ?hr ?_; (case hd => rfl); (case hg => rfl); (case hr => first | (go_simp; done) | (go_simp; rfl)); intro gb744 hg w4 hbox hb; have n0_ := Aside0.mk (below_step (by repeat (first | (with_reducible first | exact HB.out | apply below_alloc | apply pw_below_drewN | apply below_drew1) | exact HB.out)) hb); have n1_ := Aside0.mk (hbox); have n2_ := Aside0.mk ((by rw [hg]; exact (below_size (by repeat (first | (with_reducible first | exact HB.out | apply below_alloc | apply pw_below_drewN | apply below_drew1) | exact HB.out))) : w.heap.size ≤ gb744)); have n3_ := Aside0.mk ((by rw [hg]; exact (below_size (by repeat (first | (with_reducible first | exact HB.out | apply below_alloc | apply pw_below_drewN | apply below_drew1) | exact HB.out))) : w.heap.size ≤ gb744)); clear HB; have HB := n0_; have BK744 := n1_; have GW744 := n2_; have GE744 := n3_; clear n0_ n1_ n2_ n3_; clear hb hbox hg))
 (try simp only [Act.put, List.setIfInBounds_toArray, List.set_cons_zero, List.set_cons_succ])
 go_cut [17] (fun v17 wc => ∃ (kq : Nat) (x17_2 : Bool), v17 = .bool x17_2 ∧ Aside0 (scansionref12_Few.j0 kq a1 x17_2 l0_0 l0_1 = some r) ∧ Aside0 (kq ≤ k) ∧ Aside0 (wc.heap[gb744]? = some (.cells #[(.slice A0_0 l0_0.length c0_0), (.slice A0_1 l0_1.length c0_1)] 47 (0, 0))) ∧ Aside0 (Below w.heap.size w wc))
 case first =>
  have H := HC3.out
  clear HC3
  by_cases c5 : (l0_0.length : Int) > a1
  ·rw [if_pos c5] at H
   have c5b0 : decide (a1 < (l0_0.length : Int)) = true := decide_eq_true c5
   clear c5
   (first | rw [c5b0] | (simp only [i64_w, i32_w]; rw [c5b0]) | skip)
   have H' := Aside0.mk H
   clear H
   have hcz6_0 : w4.cell? ⟨gb744, 0, none⟩ = some (.slice A0_0 l0_0.length c0_0) := (blk_cell BK744.out 0).trans rfl
   have hcz6_1 : w4.cell? ⟨gb744, 1, none⟩ = some (.slice A0_1 l0_1.length c0_1) := (blk_cell BK744.out 1).trans rfl
   have hfz6_0 := blk_frozen BK744.out 0
   have hfz6_1 := blk_frozen BK744.out 1
   go_wp2
   go_meet
   case rel => exact ⟨_, (true), (by first | rfl | (simp; done) | (simp [*]; done)), H', ⟨by first | omega | exact Nat.le_refl _⟩, ⟨by (with_reducible repeat (first | refine blk_drewN ?_ _ | refine blk_drew ?_ | refine blk_alloc ?_ _)); exact BK744.out⟩, ⟨by repeat (first | (with_reducible first | exact HB.out | apply below_alloc | apply pw_below_drewN | apply below_drew1 | refine below_set ?_ GE744.out) | exact HB.out)⟩⟩
  ·rw [if_neg c5] at H
   have c5b0 : decide (a1 < (l0_0.length : Int)) = false := decide_eq_false c5
   clear c5
   (first | rw [c5b0] | (simp only [i64_w, i32_w]; rw [c5b0]) | skip)
   have H' := Aside0.mk H
   clear H
   have hcz7_0 : w4.cell? ⟨gb744, 0, none⟩ = some (.slice A0_0 l0_0.length c0_0) := (blk_cell BK744.out 0).trans rfl
   have hcz7_1 : w4.cell? ⟨gb744, 1, none⟩ = some (.slice A0_1 l0_1.length c0_1) := (blk_cell BK744.out 1).trans rfl
   have hfz7_0 := blk_frozen BK744.out 0
   have hfz7_1 := blk_frozen BK744.out 1
   go_wp2
   go_meet
   case rel => exact ⟨_, (decide ((l0_1.length : Int) > a1)), (by first | rfl | (simp; done) | (simp [*]; done)), H', ⟨by first | omega | exact Nat.le_refl _⟩, ⟨by (with_reducible repeat (first | refine blk_drewN ?_ _ | refine blk_drew ?_ | refine blk_alloc ?_ _)); exact BK744.out⟩, ⟨by repeat (first | (with_reducible first | exact HB.out | apply below_alloc | apply pw_below_drewN | apply below_drew1 | refine below_set ?_ GE744.out) | exact HB.out)⟩⟩
 case rest =>
  clear HC3
  try clear p2
  try clear c3
  try clear c5
  try clear c5b0
  try clear hcz6_0
  try clear hcz6_1
  try clear hcz7_0
  try clear hcz7_1
  try clear hfz6_0
  try clear hfz6_1
  try clear hfz7_0
  try clear hfz7_1
  obtain ⟨kq, x17_2, rfl, HA, HJ2, BK744, HB⟩ := hcut
  cases kq with
  | zero => exact absurd HA.out (by simp [scansionref12_Few.j0])
  | succ kj2 =>
   have H := HA.out
   clear HA
   simp only [scansionref12_Few.j0] at H
   by_cases c8 : x17_2 = true
   ·subst c8
    have H1 : (some false) = some r := by rw [if_pos rfl] at H; exact H
    clear H
    have H := H1
    clear H1
    obtain rfl := Option.some.inj H
    go_wp2
    go_ret
    exact ⟨by first | rfl | (simp [errW_none, errW_some] <;> rfl) | (simp [*, errW_none, errW_some] <;> rfl), by repeat (first | (with_reducible first | exact HB.out | apply below_alloc | apply pw_below_drewN | apply below_drew1 | refine below_set ?_ GE744.out) | exact HB.out)⟩
   ·replace c8 := Bool.eq_false_iff.mpr c8
    subst c8
    have H1 : (scansionref12_Few.l0 kj2 a1 0 l0_0 l0_1) = some r := by rw [if_neg (show ¬ (false = true) by decide)] at H; exact H
    clear H
    have H := H1
    clear H1
    have H' := Aside0.mk H
    clear H
    go_wp2
    go_loopg [5] kj2 (fun kq v5 w' => ∃ (x5_2 : Int), v5 = .int .i64 x5_2 ∧ Aside0 (scansionref12_Few.l0 kq a1 x5_2 l0_0 l0_1 = some r) ∧ Aside0 (kq ≤ kj2) ∧ Aside0 (w'.heap[gb744]? = some (.cells #[(.slice A0_0 l0_0.length c0_0), (.slice A0_1 l0_1.length c0_1)] 47 (0, 0))) ∧ Aside0 (Below w.heap.size w w'))
    case atStart => exact ⟨(0), (by first | rfl | (simp; done) | (simp [*]; done)), H', ⟨Nat.le_refl _⟩, ⟨by (with_reducible repeat (first | refine blk_drewN ?_ _ | refine blk_drew ?_ | refine blk_alloc ?_ _)); exact BK744.out⟩, ⟨by repeat (first | (with_reducible first | exact HB.out | apply below_alloc | apply pw_below_drewN | apply below_drew1 | refine below_set ?_ GE744.out) | exact HB.out)⟩⟩
    case round =>
     clear H'
     try clear p2
     try clear c3
     try clear c5
     try clear c5b0
     try clear c8
     try clear hcz6_0
     try clear hcz6_1
     try clear hcz7_0
     try clear hcz7_1
     try clear hfz6_0
     try clear hfz6_1
     try clear hfz7_0
     try clear hfz7_1
     try clear p2
     obtain ⟨x5_2, rfl, HA, HK2, BK744, HB⟩ := hrel
     cases gk with
     | zero => exact absurd HA.out (by simp [scansionref12_Few.l0])
     | succ k2 =>
      have H := HA.out
      clear HA
      simp only [scansionref12_Few.l0] at H
      by_cases c9 : x5_2 < (l0_0.length : Int)
      ·rw [if_pos c9] at H
       have c9b0 : decide (x5_2 < (l0_0.length : Int)) = true := decide_eq_true c9
       clear c9
       by_cases c10 : 0 ≤ x5_2
       ·rw [if_pos c10] at H
        have c10b0 : decide (0 ≤ x5_2) = true := decide_eq_true c10
        clear c10
        by_cases c11 : ((rd_L3 l0_0 x5_2).length : Int) > a1
        ·rw [if_pos c11] at H
         have c11b0 : decide (a1 < ((rd_L3 l0_0 x5_2).length : Int)) = true := decide_eq_true c11
         clear c11
         obtain rfl := Option.some.inj H
         have hcz12_0 : wr.cell? ⟨gb744, 0, none⟩ = some (.slice A0_0 l0_0.length c0_0) := (blk_cell BK744.out 0).trans rfl
         have hcz12_1 : wr.cell? ⟨gb744, 1, none⟩ = some (.slice A0_1 l0_1.length c0_1) := (blk_cell BK744.out 1).trans rfl
         have hfz12_0 := blk_frozen BK744.out 0
         have hfz12_1 := blk_frozen BK744.out 1
         have p745 : 0 ≤ (x5_2 : Int) := of_decide_eq_true (by first | (with_reducible assumption) | assumption)
         have q745 : x5_2 < (l0_0.length : Int) := of_decide_eq_true (by first | (with_reducible assumption) | assumption)
         obtain ⟨ad745, A745_0, c745_0, e745, hx745_0, hl745_0, hi745_0⟩ := at_L3 HR0_0.out x5_2 p745 q745
         cases e745
         replace hx745_0 := (HB.out.cell (World.block_lt_of_cell? w _ hx745_0)).trans hx745_0
         have HR745_0 := Aside0.mk hi745_0
         have HC745_0 := Aside0.mk hl745_0
         clear hi745_0 hl745_0
         replace p745 := eq_true p745
         replace q745 := eq_true q745
         go_wp2
         go_ret
         exact ⟨by first | rfl | (simp [errW_none, errW_some] <;> rfl) | (simp [*, errW_none, errW_some] <;> rfl), by repeat (first | (with_reducible first | exact HB.out | apply below_alloc | apply pw_below_drewN | apply below_drew1 | refine below_set ?_ GE744.out) | exact HB.out)⟩
        ·rw [if_neg c11] at H
         have c11b0 : decide (a1 < ((rd_L3 l0_0 x5_2).length : Int)) = false := decide_eq_false c11
         clear c11
         have H' := Aside0.mk H
         clear H
         have hcz13_0 : wr.cell? ⟨gb744, 0, none⟩ = some (.slice A0_0 l0_0.length c0_0) := (blk_cell BK744.out 0).trans rfl
         have hcz13_1 : wr.cell? ⟨gb744, 1, none⟩ = some (.slice A0_1 l0_1.length c0_1) := (blk_cell BK744.out 1).trans rfl
         have hfz13_0 := blk_frozen BK744.out 0
         have hfz13_1 := blk_frozen BK744.out 1
         have p745 : 0 ≤ (x5_2 : Int) := of_decide_eq_true (by first | (with_reducible assumption) | assumption)
         have q745 : x5_2 < (l0_0.length : Int) := of_decide_eq_true (by first | (with_reducible assumption) | assumption)
         obtain ⟨ad745, A745_0, c745_0, e745, hx745_0, hl745_0, hi745_0⟩ := at_L3 HR0_0.out x5_2 p745 q745
         cases e745
         replace hx745_0 := (HB.out.cell (World.block_lt_of_cell? w _ hx745_0)).trans hx745_0
         have HR745_0 := Aside0.mk hi745_0
         have HC745_0 := Aside0.mk hl745_0
         clear hi745_0 hl745_0
         replace p745 := eq_true p745
         replace q745 := eq_true q745
         go_wp2
         go_roundg k2
         case measure => have := HJ2.out; have := HK2.out; omega
         case rel => exact ⟨(wrap64 (x5_2 + 1)), (by first | rfl | (simp; done) | (simp [*]; done)), H', ⟨by have := HJ2.out; have := HK2.out; omega⟩, ⟨by (with_reducible repeat (first | refine blk_drewN ?_ _ | refine blk_drew ?_ | refine blk_alloc ?_ _)); exact BK744.out⟩, ⟨by repeat (first | (with_reducible first | exact HB.out | apply below_alloc | apply pw_below_drewN | apply below_drew1 | refine below_set ?_ GE744.out) | exact HB.out)⟩⟩
       ·rw [if_neg c10] at H
        exact absurd H (by simp)
      ·rw [if_neg c9] at H
       have c9b0 : decide (x5_2 < (l0_0.length : Int)) = false := decide_eq_false c9
       clear c9
       obtain rfl := Option.some.inj H
       have hcz14_0 : wr.cell? ⟨gb744, 0, none⟩ = some (.slice A0_0 l0_0.length c0_0) := (blk_cell BK744.out 0).trans rfl
       have hcz14_1 : wr.cell? ⟨gb744, 1, none⟩ = some (.slice A0_1 l0_1.length c0_1) := (blk_cell BK744.out 1).trans rfl
       have hfz14_0 := blk_frozen BK744.out 0
       have hfz14_1 := blk_frozen BK744.out 1
       go_wp2
       go_ret
       exact ⟨by first | rfl | (simp [errW_none, errW_some] <;> rfl) | (simp [*, errW_none, errW_some] <;> rfl), by repeat (first | (with_reducible first | exact HB.out | apply below_alloc | apply pw_below_drewN | apply below_drew1 | refine below_set ?_ GE744.out) | exact HB.out)⟩

end Go.Proofs.Ytemlgmkbonpniaa.Print

-- Written by a program of this session (wip/sp.py) out of the translation.
namespace Go.Proofs.Ytemlgmkbonpniaa.Print
open Go.RowKit Go.Proofs.YtemlgmkbonpniaaW.PrintWords Go.Proofs.YtemlgmkbonpniaaW.PrintLast Go.Proofs.YtemlgmkbonpniaaW.PrintMore
attribute [local go_sem] max2_int min2_int max_two min_two max_three min_three max_four min_four   -- for this text's walks alone
set_option linter.unusedVariables false
set_option linter.unusedSimpArgs false

/-! ### subset_Run: function 37 -/
mutual
def subset_Run.j0 : Nat → Int → List Int → Bool → List (List Int) → List Bool → Option (Int × Int)
 | 0, _, _, _, _, _ => none
 | k + 1, x1, x2, x23, x747000, x747001 => if x23 = true then (some (0, 1)) else (subset_Run.l0 k x1 x2 (x2.length : Int) 0 x747000 x747001)
def subset_Run.l0 : Nat → Int → List Int → Int → Int → List (List Int) → List Bool → Option (Int × Int)
 | 0, _, _, _, _, _, _ => none
 | k + 1, x1, x24, x25, x26, x747000, x747001 => if x26 < x25 then (if 0 ≤ x26 then (if x26 < (x24.length : Int) then (if (rd x24 x26) < 0 then (some (0, 1)) else (if 0 < (x747000.length : Int) then (if (rd x24 x26) ≥ ((rd_L3 x747000 0).length : Int) then (some (0, 1)) else (if 0 ≤ x1 then (if x1 < (x747000.length : Int) then (if 0 ≤ (rd x24 x26) then (if (rd x24 x26) < ((rd_L3 x747000 x1).length : Int) then (subset_Run.l0 k (rd (rd_L3 x747000 x1) (rd x24 x26)) x24 x25 (wrap64 (x26 + 1)) x747000 x747001) else (none)) else (none)) else (none)) else (none))) else (none))) else (none)) else (none)) else (some (x1, 0))
end
def subset_Run.f (k : Nat) (l0_0 : List (List Int)) (l0_1 : List Bool) (a1 : Int) (l2 : List Int) : Option (Int × Int) := (subset_Right.f l0_0 l0_1).bind fun t747 => (if t747 = true then (if a1 < 0 then (subset_Run.j0 k a1 l2 true l0_0 l0_1) else (subset_Run.j0 k a1 l2 (decide (a1 ≥ (l0_0.length : Int))) l0_0 l0_1)) else (subset_Run.j0 k a1 l2 true l0_0 l0_1))
theorem subset_Run.mono_l : ∀ k, (∀ y0 y1 y2 y3 y4, LeO (subset_Run.j0 k y0 y1 y2 y3 y4) (subset_Run.j0 (k + 1) y0 y1 y2 y3 y4)) ∧ (∀ y0 y1 y2 y3 y4 y5, LeO (subset_Run.l0 k y0 y1 y2 y3 y4 y5) (subset_Run.l0 (k + 1) y0 y1 y2 y3 y4 y5))
 | 0 => ⟨fun _ _ _ _ _ r h => by simp [subset_Run.j0] at h, fun _ _ _ _ _ _ r h => by simp [subset_Run.l0] at h⟩
 | k + 1 => by
  obtain ⟨ih0, ih1⟩ := subset_Run.mono_l k
  refine ⟨?_, ?_⟩
  ·intro y0 y1 y2 y3 y4
   unfold subset_Run.j0
   repeat' first
   | (with_reducible exact ih0 _ _ _ _ _)
   | (with_reducible exact ih1 _ _ _ _ _ _)
   | (with_reducible exact LeO.refl _)
   | (with_reducible exact LeO.none _)
   | (with_reducible refine LeO.ite ?_ ?_)
   | (with_reducible refine LeO.bind ?_ (fun _ => ?_))
   | exact ih0 _ _ _ _ _
   | exact ih1 _ _ _ _ _ _
   | exact LeO.none _
   | refine LeO.ite ?_ ?_
   | refine LeO.bind ?_ (fun _ => ?_)
  ·intro y0 y1 y2 y3 y4 y5
   unfold subset_Run.l0
   repeat' first
   | (with_reducible exact ih0 _ _ _ _ _)
   | (with_reducible exact ih1 _ _ _ _ _ _)
   | (with_reducible exact LeO.refl _)
   | (with_reducible exact LeO.none _)
   | (with_reducible refine LeO.ite ?_ ?_)
   | (with_reducible refine LeO.bind ?_ (fun _ => ?_))
   | exact ih0 _ _ _ _ _
   | exact ih1 _ _ _ _ _ _
   | exact LeO.none _
   | refine LeO.ite ?_ ?_
   | refine LeO.bind ?_ (fun _ => ?_)
theorem subset_Run.mono : ∀ a0 a1 a2 a3 k, LeO (subset_Run.f k a0 a1 a2 a3) (subset_Run.f (k + 1) a0 a1 a2 a3) := by
 intro a0 a1 a2 a3 k
 obtain ⟨ih0, ih1⟩ := subset_Run.mono_l k
 unfold subset_Run.f
 repeat' first
   | (with_reducible exact ih0 _ _ _ _ _)
   | (with_reducible exact ih1 _ _ _ _ _ _)
   | (with_reducible exact LeO.refl _)
   | (with_reducible exact LeO.none _)
   | (with_reducible refine LeO.ite ?_ ?_)
   | (with_reducible refine LeO.bind ?_ (fun _ => ?_))
   | exact ih0 _ _ _ _ _
   | exact ih1 _ _ _ _ _ _
   | exact LeO.none _
   | refine LeO.ite ?_ ?_
   | refine LeO.bind ?_ (fun _ => ?_)
set_option maxHeartbeats 8000000 in
set_option maxRecDepth 100000 in
theorem subset_Run.calls (k : Nat) (A0_0 : Option Addr) (c0_0 : Nat) (l0_0 : List (List Int)) (A0_1 : Option Addr) (c0_1 : Nat) (l0_1 : List Bool) (a1 : Int) (A2 : Option Addr) (c2 : Nat) (l2 : List Int) (r1 : Int) (r2 : Int) (w : World) (hr0_0 : Kd.C (Kd.slice 3 (Kd.int .i64)) w A0_0 l0_0.length l0_0) (hc0_0 : l0_0.length ≤ c0_0) (hr0_1 : Kd.C Kd.bool w A0_1 l0_1.length l0_1) (hc0_1 : l0_1.length ≤ c0_1) (hr2 : Kd.C (Kd.int .i64) w A2 l2.length l2) (hc2 : l2.length ≤ c2) (h : subset_Run.f k l0_0 l0_1 a1 l2 = some (r1, r2)) :
  Calls Try.prog 37 #[.agg #[.slice A0_0 l0_0.length c0_0, .slice A0_1 l0_1.length c0_1], .int .i64 a1, .slice A2 l2.length c2] w fun e w' => e = .returned (.tuple #[.int .i64 r1, .int .i64 r2]) ∧ Below w.heap.size w w' := by
 have hu47 := Try.underlying47
 have HR0_0 := Aside0.mk hr0_0
 have HC0_0 := Aside0.mk hc0_0
 clear hr0_0 hc0_0
 have HR0_1 := Aside0.mk hr0_1
 have HC0_1 := Aside0.mk hc0_1
 clear hr0_1 hc0_1
 have HR2 := Aside0.mk hr2
 have HC2 := Aside0.mk hc2
 clear hr2 hc2
 have HB := Aside0.mk (Below.refl w.heap.size w)
 have H : ((subset_Right.f l0_0 l0_1).bind fun t747 => (if t747 = true then (if a1 < 0 then (subset_Run.j0 k a1 l2 true l0_0 l0_1) else (subset_Run.j0 k a1 l2 (decide (a1 ≥ (l0_0.length : Int))) l0_0 l0_1)) else (subset_Run.j0 k a1 l2 true l0_0 l0_1))) = some (r1, r2) := h
 clear h
 have HC4 := Aside0.mk H
 clear H
 go_enter Try.func37, Try.ntmps37
 go_upto_region 1 with (first | ((with_reducible refine gate_dst (N := 3) rfl ?_); (try (refine gate_guard (by rfl) ?_; dsimp only)); refine box_event ?hg (N := 3) ?hd (cs := #[.slice A0_0 l0_0.length c0_0, .slice A0_1 l0_1.length c0_1]) (t := 47) ?hr ?_; (case hd => rfl); (case hg => rfl); (case hr => first | (go_simp; done) | (go_simp; rfl)); intro gb746 hg w5 hbox hb; have n0_ := Aside0.mk (below_step (by repeat (first | (with_reducible first | exact HB.out | apply below_alloc | apply pw_below_drewN | apply below_drew1) | exact HB.out)) hb); have n1_ := Aside0.mk (hbox); have n2_ := Aside0.mk ((by rw [hg]; exact (below_size (by repeat (first | (with_reducible first | exact HB.out | apply below_alloc | apply pw_below_drewN | apply below_drew1) | exact HB.out))) : w.heap.size ≤ gb746)); have n3_ := Aside0.mk ((by rw [hg]; exact (below_size (by repeat (first | (with_reducible first | exact HB.out | apply below_alloc | apply pw_below_drewN | apply below_drew1) | exact HB.out))) : w.heap.size ≤ gb746)); clear HB; have HB := n0_; have BK746 := n1_; have GW746 := n2_; have GE746 := n3_; clear n0_ n1_ n2_ n3_; clear hb hbox hg))
 (try simp only [Act.put, List.setIfInBounds_toArray, List.set_cons_zero, List.set_cons_succ])
 go_cut [23] (fun v23 wc => ∃ (kq : Nat) (x23_3 : Bool), v23 = .bool x23_3 ∧ Aside0 (subset_Run.j0 kq a1 l2 x23_3 l0_0 l0_1 = some (r1, r2)) ∧ Aside0 (kq ≤ k) ∧ Aside0 (wc.heap[gb746]? = some (.cells #[(.slice A0_0 l0_0.length c0_0), (.slice A0_1 l0_1.length c0_1)] 47 (0, 0))) ∧ Aside0 (Below w.heap.size w wc))
 case first =>
  have H := HC4.out
  clear HC4
  replace H := Option.bind_eq_some_iff.mp H
  obtain ⟨t747, A60, H⟩ := H
  replace H : (if t747 = true then (if a1 < 0 then (subset_Run.j0 k a1 l2 true l0_0 l0_1) else (subset_Run.j0 k a1 l2 (decide (a1 ≥ (l0_0.length : Int))) l0_0 l0_1)) else (subset_Run.j0 k a1 l2 true l0_0 l0_1)) = some (r1, r2) := H
  have A6 := Aside0.mk A60
  clear A60
  by_cases c7 : t747 = true
  ·subst c7
   have H1 : (if a1 < 0 then (subset_Run.j0 k a1 l2 true l0_0 l0_1) else (subset_Run.j0 k a1 l2 (decide (a1 ≥ (l0_0.length : Int))) l0_0 l0_1)) = some (r1, r2) := by rw [if_pos rfl] at H; exact H
   clear H
   have H := H1
   clear H1
   by_cases c8 : a1 < 0
   ·rw [if_pos c8] at H
    have c8b0 : decide (a1 < 0) = true := decide_eq_true c8
    clear c8
    (first | rw [c8b0] | (simp only [i64_w, i32_w]; rw [c8b0]) | skip)
    have H' := Aside0.mk H
    clear H
    have hcz9_0 : w5.cell? ⟨gb746, 0, none⟩ = some (.slice A0_0 l0_0.length c0_0) := (blk_cell BK746.out 0).trans rfl
    have hcz9_1 : w5.cell? ⟨gb746, 1, none⟩ = some (.slice A0_1 l0_1.length c0_1) := (blk_cell BK746.out 1).trans rfl
    have hfz9_0 := blk_frozen BK746.out 0
    have hfz9_1 := blk_frozen BK746.out 1
    go_wp2_with (first | ((with_reducible refine gate_callee (f := 35) rfl ?_); refine goesL_ (some 11) rfl rfl Try.func35 (by kernel_rfl) rfl #[.agg #[.slice A0_0 l0_0.length c0_0, .slice A0_1 l0_1.length c0_1]] rfl (by (try simp only [List.map_toArray, List.map_cons, List.map_nil]); first | done | rfl | (simp only [List.length_drop, List.length_take]; rfl)) ?_; (with_reducible refine (subset_Right.calls _ _ l0_0 _ _ l0_1 true _ ?side1 ?side2 ?side3 ?side4 A6.out).mono ?_); (case side1 => repeat (first | exact (Kd.C_below HR0_0.out HB.out) | (with_reducible refine Kd.C_alloc ?_ _) | (with_reducible refine Kd.C_drewN ?_ _) | (with_reducible refine Kd.C_drew ?_))); (case side2 => exact HC0_0.out); (case side3 => repeat (first | exact (Kd.C_below HR0_1.out HB.out) | (with_reducible refine Kd.C_alloc ?_ _) | (with_reducible refine Kd.C_drewN ?_ _) | (with_reducible refine Kd.C_drew ?_))); (case side4 => exact HC0_1.out); rintro e w10 ⟨rfl, hb⟩; refine ⟨_, rfl, ?_⟩; have n0_ := Aside0.mk (blk_below (g := gb746) (o := .cells #[.slice A0_0 l0_0.length c0_0, .slice A0_1 l0_1.length c0_1] 47 (0, 0)) (by (with_reducible repeat (first | refine blk_drewN ?_ _ | refine blk_drew ?_ | refine blk_alloc ?_ _)); exact BK746.out) hb); have n1_ := Aside0.mk (below_step (by repeat (first | (with_reducible first | exact HB.out | apply below_alloc | apply pw_below_drewN | apply below_drew1 | refine below_set ?_ GE746.out) | exact HB.out)) hb); clear BK746; clear HB; have BK746 := n0_; have HB := n1_; clear n0_ n1_; (try clear hb); (try clear hb2); (try clear hk); (try clear hi)))
    go_meet
    case rel => exact ⟨_, (true), (by first | rfl | (simp; done) | (simp [*]; done)), H', ⟨by first | omega | exact Nat.le_refl _⟩, ⟨by (with_reducible repeat (first | refine blk_drewN ?_ _ | refine blk_drew ?_ | refine blk_alloc ?_ _)); exact BK746.out⟩, ⟨by repeat (first | (with_reducible first | exact HB.out | apply below_alloc | apply pw_below_drewN | apply below_drew1 | refine below_set ?_ GE746.out) | exact HB.out)⟩⟩
   ·rw [if_neg c8] at H
    have c8b0 : decide (a1 < 0) = false := decide_eq_false c8
    clear c8
    (first | rw [c8b0] | (simp only [i64_w, i32_w]; rw [c8b0]) | skip)
    have H' := Aside0.mk H
    clear H
    have hcz11_0 : w5.cell? ⟨gb746, 0, none⟩ = some (.slice A0_0 l0_0.length c0_0) := (blk_cell BK746.out 0).trans rfl
    have hcz11_1 : w5.cell? ⟨gb746, 1, none⟩ = some (.slice A0_1 l0_1.length c0_1) := (blk_cell BK746.out 1).trans rfl
    have hfz11_0 := blk_frozen BK746.out 0
    have hfz11_1 := blk_frozen BK746.out 1
    go_wp2_with (first | ((with_reducible refine gate_callee (f := 35) rfl ?_); refine goesL_ (some 11) rfl rfl Try.func35 (by kernel_rfl) rfl #[.agg #[.slice A0_0 l0_0.length c0_0, .slice A0_1 l0_1.length c0_1]] rfl (by (try simp only [List.map_toArray, List.map_cons, List.map_nil]); first | done | rfl | (simp only [List.length_drop, List.length_take]; rfl)) ?_; (with_reducible refine (subset_Right.calls _ _ l0_0 _ _ l0_1 true _ ?side1 ?side2 ?side3 ?side4 A6.out).mono ?_); (case side1 => repeat (first | exact (Kd.C_below HR0_0.out HB.out) | (with_reducible refine Kd.C_alloc ?_ _) | (with_reducible refine Kd.C_drewN ?_ _) | (with_reducible refine Kd.C_drew ?_))); (case side2 => exact HC0_0.out); (case side3 => repeat (first | exact (Kd.C_below HR0_1.out HB.out) | (with_reducible refine Kd.C_alloc ?_ _) | (with_reducible refine Kd.C_drewN ?_ _) | (with_reducible refine Kd.C_drew ?_))); (case side4 => exact HC0_1.out); rintro e w12 ⟨rfl, hb⟩; refine ⟨_, rfl, ?_⟩; have n0_ := Aside0.mk (blk_below (g := gb746) (o := .cells #[.slice A0_0 l0_0.length c0_0, .slice A0_1 l0_1.length c0_1] 47 (0, 0)) (by (with_reducible repeat (first | refine blk_drewN ?_ _ | refine blk_drew ?_ | refine blk_alloc ?_ _)); exact BK746.out) hb); have n1_ := Aside0.mk (below_step (by repeat (first | (with_reducible first | exact HB.out | apply below_alloc | apply pw_below_drewN | apply below_drew1 | refine below_set ?_ GE746.out) | exact HB.out)) hb); clear BK746; clear HB; have BK746 := n0_; have HB := n1_; clear n0_ n1_; (try clear hb); (try clear hb2); (try clear hk); (try clear hi); have hcz13_0 : w12.cell? ⟨gb746, 0, none⟩ = some (.slice A0_0 l0_0.length c0_0) := (blk_cell BK746.out 0).trans rfl; have hcz13_1 : w12.cell? ⟨gb746, 1, none⟩ = some (.slice A0_1 l0_1.length c0_1) := (blk_cell BK746.out 1).trans rfl; have hfz13_0 := blk_frozen BK746.out 0; have hfz13_1 := blk_frozen BK746.out 1))
    go_meet
    case rel => exact ⟨_, (decide (a1 ≥ (l0_0.length : Int))), (by first | rfl | (simp; done) | (simp [*]; done)), H', ⟨by first | omega | exact Nat.le_refl _⟩, ⟨by (with_reducible repeat (first | refine blk_drewN ?_ _ | refine blk_drew ?_ | refine blk_alloc ?_ _)); exact BK746.out⟩, ⟨by repeat (first | (with_reducible first | exact HB.out | apply below_alloc | apply pw_below_drewN | apply below_drew1 | refine below_set ?_ GE746.out) | exact HB.out)⟩⟩
  ·replace c7 := Bool.eq_false_iff.mpr c7
   subst c7
   have H1 : (subset_Run.j0 k a1 l2 true l0_0 l0_1) = some (r1, r2) := by rw [if_neg (show ¬ (false = true) by decide)] at H; exact H
   clear H
   have H := H1
   clear H1
   have H' := Aside0.mk H
   clear H
   have hcz14_0 : w5.cell? ⟨gb746, 0, none⟩ = some (.slice A0_0 l0_0.length c0_0) := (blk_cell BK746.out 0).trans rfl
   have hcz14_1 : w5.cell? ⟨gb746, 1, none⟩ = some (.slice A0_1 l0_1.length c0_1) := (blk_cell BK746.out 1).trans rfl
   have hfz14_0 := blk_frozen BK746.out 0
   have hfz14_1 := blk_frozen BK746.out 1
   go_wp2_with (first | ((with_reducible refine gate_callee (f := 35) rfl ?_); refine goesL_ (some 11) rfl rfl Try.func35 (by kernel_rfl) rfl #[.agg #[.slice A0_0 l0_0.length c0_0, .slice A0_1 l0_1.length c0_1]] rfl (by (try simp only [List.map_toArray, List.map_cons, List.map_nil]); first | done | rfl | (simp only [List.length_drop, List.length_take]; rfl)) ?_; (with_reducible refine (subset_Right.calls _ _ l0_0 _ _ l0_1 false _ ?side1 ?side2 ?side3 ?side4 A6.out).mono ?_); (case side1 => repeat (first | exact (Kd.C_below HR0_0.out HB.out) | (with_reducible refine Kd.C_alloc ?_ _) | (with_reducible refine Kd.C_drewN ?_ _) | (with_reducible refine Kd.C_drew ?_))); (case side2 => exact HC0_0.out); (case side3 => repeat (first | exact (Kd.C_below HR0_1.out HB.out) | (with_reducible refine Kd.C_alloc ?_ _) | (with_reducible refine Kd.C_drewN ?_ _) | (with_reducible refine Kd.C_drew ?_))); (case side4 => exact HC0_1.out); rintro e w15 ⟨rfl, hb⟩; refine ⟨_, rfl, ?_⟩; have n0_ := Aside0.mk (blk_below (g := gb746) (o := .cells #[.slice A0_0 l0_0.length c0_0, .slice A0_1 l0_1.length c0_1] 47 (0, 0)) (by (with_reducible repeat (first | refine blk_drewN ?_ _ | refine blk_drew ?_ | refine blk_alloc ?_ _)); exact BK746.out) hb); have n1_ := Aside0.mk (below_step (by repeat (first | (with_reducible first | exact HB.out | apply below_alloc | apply pw_below_drewN | apply below_drew1 | refine below_set ?_ GE746.out) | exact HB.out)) hb); clear BK746; clear HB; have BK746 := n0_; have HB := n1_; clear n0_ n1_; (try clear hb); (try clear hb2); (try clear hk); (try clear hi)))
   go_meet
   case rel => exact ⟨_, (true), (by first | rfl | (simp; done) | (simp [*]; done)), H', ⟨by first | omega | exact Nat.le_refl _⟩, ⟨by (with_reducible repeat (first | refine blk_drewN ?_ _ | refine blk_drew ?_ | refine blk_alloc ?_ _)); exact BK746.out⟩, ⟨by repeat (first | (with_reducible first | exact HB.out | apply below_alloc | apply pw_below_drewN | apply below_drew1 | refine below_set ?_ GE746.out) | exact HB.out)⟩⟩
 case rest =>
  clear HC4
  try clear c2
  try clear p2
  try clear c3
  try clear c7
  try clear c8
  try clear c8b0
  try clear hcz11_0
  try clear hcz11_1
  try clear hcz13_0
  try clear hcz13_1
  try clear hcz14_0
  try clear hcz14_1
  try clear hcz9_0
  try clear hcz9_1
  try clear hfz11_0
  try clear hfz11_1
  try clear hfz13_0
  try clear hfz13_1
  try clear hfz14_0
  try clear hfz14_1
  try clear hfz9_0
  try clear hfz9_1
  obtain ⟨kq, x23_3, rfl, HA, HJ3, BK746, HB⟩ := hcut
  cases kq with
  | zero => exact absurd HA.out (by simp [subset_Run.j0])
  | succ kj3 =>
   have H := HA.out
   clear HA
   simp only [subset_Run.j0] at H
   by_cases c16 : x23_3 = true
   ·subst c16
    have H1 : (some (0, 1)) = some (r1, r2) := by rw [if_pos rfl] at H; exact H
    clear H
    have H := H1
    clear H1
    simp only [Option.some.injEq, Prod.mk.injEq] at H
    obtain ⟨rfl, rfl⟩ := H
    go_wp2
    go_ret2
    exact ⟨by first | rfl | (simp [errW_none, errW_some] <;> rfl) | (simp [*, errW_none, errW_some] <;> rfl), by repeat (first | (with_reducible first | exact HB.out | apply below_alloc | apply pw_below_drewN | apply below_drew1 | refine below_set ?_ GE746.out) | exact HB.out)⟩
   ·replace c16 := Bool.eq_false_iff.mpr c16
    subst c16
    have H1 : (subset_Run.l0 kj3 a1 l2 (l2.length : Int) 0 l0_0 l0_1) = some (r1, r2) := by rw [if_neg (show ¬ (false = true) by decide)] at H; exact H
    clear H
    have H := H1
    clear H1
    have H' := Aside0.mk H
    clear H
    go_wp2
    go_loopg [1, 26] kj3 (fun kq v1 v26 w' => ∃ (x1_2 : Int) (x26_2 : Int), v1 = .int .i64 x1_2 ∧ v26 = .int .i64 x26_2 ∧ Aside0 (subset_Run.l0 kq x1_2 l2 (l2.length : Int) x26_2 l0_0 l0_1 = some (r1, r2)) ∧ Aside0 (kq ≤ kj3) ∧ Aside0 (w'.heap[gb746]? = some (.cells #[(.slice A0_0 l0_0.length c0_0), (.slice A0_1 l0_1.length c0_1)] 47 (0, 0))) ∧ Aside0 (Below w.heap.size w w'))
    case atStart => exact ⟨(a1), (0), (by first | rfl | (simp; done) | (simp [*]; done)), (by first | rfl | (simp; done) | (simp [*]; done)), H', ⟨Nat.le_refl _⟩, ⟨by (with_reducible repeat (first | refine blk_drewN ?_ _ | refine blk_drew ?_ | refine blk_alloc ?_ _)); exact BK746.out⟩, ⟨by repeat (first | (with_reducible first | exact HB.out | apply below_alloc | apply pw_below_drewN | apply below_drew1 | refine below_set ?_ GE746.out) | exact HB.out)⟩⟩
    case round =>
     clear H'
     try clear c1
     try clear c2
     try clear p2
     try clear c3
     try clear c7
     try clear c8
     try clear c8b0
     try clear c16
     try clear hcz11_0
     try clear hcz11_1
     try clear hcz13_0
     try clear hcz13_1
     try clear hcz14_0
     try clear hcz14_1
     try clear hcz9_0
     try clear hcz9_1
     try clear hfz11_0
     try clear hfz11_1
     try clear hfz13_0
     try clear hfz13_1
     try clear hfz14_0
     try clear hfz14_1
     try clear hfz9_0
     try clear hfz9_1
     try clear p2
     obtain ⟨x1_2, x26_2, rfl, rfl, HA, HK2, BK746, HB⟩ := hrel
     cases gk with
     | zero => exact absurd HA.out (by simp [subset_Run.l0])
     | succ k2 =>
      have H := HA.out
      clear HA
      simp only [subset_Run.l0] at H
      by_cases c17 : x26_2 < (l2.length : Int)
      ·rw [if_pos c17] at H
       have c17b0 : decide (x26_2 < (l2.length : Int)) = true := decide_eq_true c17
       clear c17
       by_cases c18 : 0 ≤ x26_2
       ·rw [if_pos c18] at H
        have c18b0 : decide (0 ≤ x26_2) = true := decide_eq_true c18
        clear c18
        by_cases c19 : x26_2 < (l2.length : Int)
        ·rw [if_pos c19] at H
         have c19b0 : decide (x26_2 < (l2.length : Int)) = true := decide_eq_true c19
         clear c19
         by_cases c20 : (rd l2 x26_2) < 0
         ·rw [if_pos c20] at H
          have c20b0 : decide ((rd l2 x26_2) < 0) = true := decide_eq_true c20
          clear c20
          simp only [Option.some.injEq, Prod.mk.injEq] at H
          obtain ⟨rfl, rfl⟩ := H
          have p748 : 0 ≤ (x26_2 : Int) := of_decide_eq_true (by first | (with_reducible assumption) | assumption)
          have q748 : x26_2 < (l2.length : Int) := of_decide_eq_true (by first | (with_reducible assumption) | assumption)
          obtain ⟨ad748, e748, hx748_0⟩ := Kd.at_int HR2.out x26_2 p748 q748
          cases e748
          replace hx748_0 := (HB.out.cell (World.block_lt_of_cell? w _ hx748_0)).trans hx748_0
          replace p748 := eq_true p748
          replace q748 := eq_true q748
          go_wp2
          go_ret2
          exact ⟨by first | rfl | (simp [errW_none, errW_some] <;> rfl) | (simp [*, errW_none, errW_some] <;> rfl), by repeat (first | (with_reducible first | exact HB.out | apply below_alloc | apply pw_below_drewN | apply below_drew1 | refine below_set ?_ GE746.out) | exact HB.out)⟩
         ·rw [if_neg c20] at H
          have c20b0 : decide ((rd l2 x26_2) < 0) = false := decide_eq_false c20
          clear c20
          by_cases c21 : 0 < (l0_0.length : Int)
          ·rw [if_pos c21] at H
           have c21b0 : decide (0 < (l0_0.length : Int)) = true := decide_eq_true c21
           have c21b1 : decide (0 < l0_0.length) = true := decide_eq_true (by omega)
           clear c21
           by_cases c22 : (rd l2 x26_2) ≥ ((rd_L3 l0_0 0).length : Int)
           ·rw [if_pos c22] at H
            have c22b0 : decide (((rd_L3 l0_0 0).length : Int) ≤ (rd l2 x26_2)) = true := decide_eq_true c22
            clear c22
            simp only [Option.some.injEq, Prod.mk.injEq] at H
            obtain ⟨rfl, rfl⟩ := H
            have p748 : 0 ≤ (x26_2 : Int) := of_decide_eq_true (by first | (with_reducible assumption) | assumption)
            have q748 : x26_2 < (l2.length : Int) := of_decide_eq_true (by first | (with_reducible assumption) | assumption)
            obtain ⟨ad748, e748, hx748_0⟩ := Kd.at_int HR2.out x26_2 p748 q748
            cases e748
            replace hx748_0 := (HB.out.cell (World.block_lt_of_cell? w _ hx748_0)).trans hx748_0
            replace p748 := eq_true p748
            replace q748 := eq_true q748
            have hcz23_0 : wr.cell? ⟨gb746, 0, none⟩ = some (.slice A0_0 l0_0.length c0_0) := (blk_cell BK746.out 0).trans rfl
            have hcz23_1 : wr.cell? ⟨gb746, 1, none⟩ = some (.slice A0_1 l0_1.length c0_1) := (blk_cell BK746.out 1).trans rfl
            have hfz23_0 := blk_frozen BK746.out 0
            have hfz23_1 := blk_frozen BK746.out 1
            have p749 : 0 ≤ (0 : Int) := (by omega)
            have q749 : 0 < (l0_0.length : Int) := of_decide_eq_true (by first | (with_reducible assumption) | assumption)
            obtain ⟨ad749, A749_0, c749_0, e749, hx749_0, hl749_0, hi749_0⟩ := at_L3 HR0_0.out 0 p749 q749
            cases e749
            have qi749 : (0 < l0_0.length) = True := eq_true (by omega)
            (try rw [show ((0 : Int)).toNat = 0 from rfl] at hx749_0)
            (try rw [Addr.add_zero'] at hx749_0)
            replace hx749_0 := (HB.out.cell (World.block_lt_of_cell? w _ hx749_0)).trans hx749_0
            have HR749_0 := Aside0.mk hi749_0
            have HC749_0 := Aside0.mk hl749_0
            clear hi749_0 hl749_0
            replace p749 := eq_true p749
            replace q749 := eq_true q749
            go_wp2
            go_ret2
            exact ⟨by first | rfl | (simp [errW_none, errW_some] <;> rfl) | (simp [*, errW_none, errW_some] <;> rfl), by repeat (first | (with_reducible first | exact HB.out | apply below_alloc | apply pw_below_drewN | apply below_drew1 | refine below_set ?_ GE746.out) | exact HB.out)⟩
           ·rw [if_neg c22] at H
            have c22b0 : decide (((rd_L3 l0_0 0).length : Int) ≤ (rd l2 x26_2)) = false := decide_eq_false c22
            clear c22
            by_cases c24 : 0 ≤ x1_2
            ·rw [if_pos c24] at H
             have c24b0 : decide (0 ≤ x1_2) = true := decide_eq_true c24
             clear c24
             by_cases c25 : x1_2 < (l0_0.length : Int)
             ·rw [if_pos c25] at H
              have c25b0 : decide (x1_2 < (l0_0.length : Int)) = true := decide_eq_true c25
              clear c25
              by_cases c26 : 0 ≤ (rd l2 x26_2)
              ·rw [if_pos c26] at H
               have c26b0 : decide (0 ≤ (rd l2 x26_2)) = true := decide_eq_true c26
               clear c26
               by_cases c27 : (rd l2 x26_2) < ((rd_L3 l0_0 x1_2).length : Int)
               ·rw [if_pos c27] at H
                have c27b0 : decide ((rd l2 x26_2) < ((rd_L3 l0_0 x1_2).length : Int)) = true := decide_eq_true c27
                clear c27
                have H' := Aside0.mk H
                clear H
                have p748 : 0 ≤ (x26_2 : Int) := of_decide_eq_true (by first | (with_reducible assumption) | assumption)
                have q748 : x26_2 < (l2.length : Int) := of_decide_eq_true (by first | (with_reducible assumption) | assumption)
                obtain ⟨ad748, e748, hx748_0⟩ := Kd.at_int HR2.out x26_2 p748 q748
                cases e748
                replace hx748_0 := (HB.out.cell (World.block_lt_of_cell? w _ hx748_0)).trans hx748_0
                replace p748 := eq_true p748
                replace q748 := eq_true q748
                have hcz28_0 : wr.cell? ⟨gb746, 0, none⟩ = some (.slice A0_0 l0_0.length c0_0) := (blk_cell BK746.out 0).trans rfl
                have hcz28_1 : wr.cell? ⟨gb746, 1, none⟩ = some (.slice A0_1 l0_1.length c0_1) := (blk_cell BK746.out 1).trans rfl
                have hfz28_0 := blk_frozen BK746.out 0
                have hfz28_1 := blk_frozen BK746.out 1
                have p749 : 0 ≤ (0 : Int) := (by omega)
                have q749 : 0 < (l0_0.length : Int) := of_decide_eq_true (by first | (with_reducible assumption) | assumption)
                obtain ⟨ad749, A749_0, c749_0, e749, hx749_0, hl749_0, hi749_0⟩ := at_L3 HR0_0.out 0 p749 q749
                cases e749
                have qi749 : (0 < l0_0.length) = True := eq_true (by omega)
                (try rw [show ((0 : Int)).toNat = 0 from rfl] at hx749_0)
                (try rw [Addr.add_zero'] at hx749_0)
                replace hx749_0 := (HB.out.cell (World.block_lt_of_cell? w _ hx749_0)).trans hx749_0
                have HR749_0 := Aside0.mk hi749_0
                have HC749_0 := Aside0.mk hl749_0
                clear hi749_0 hl749_0
                replace p749 := eq_true p749
                replace q749 := eq_true q749
                have p750 : 0 ≤ (x1_2 : Int) := of_decide_eq_true (by first | (with_reducible assumption) | assumption)
                have q750 : x1_2 < (l0_0.length : Int) := of_decide_eq_true (by first | (with_reducible assumption) | assumption)
                obtain ⟨ad750, A750_0, c750_0, e750, hx750_0, hl750_0, hi750_0⟩ := at_L3 HR0_0.out x1_2 p750 q750
                obtain rfl : ad749 = ad750 := (by injection e750)
                replace hx750_0 := (HB.out.cell (World.block_lt_of_cell? w _ hx750_0)).trans hx750_0
                have HR750_0 := Aside0.mk hi750_0
                have HC750_0 := Aside0.mk hl750_0
                clear hi750_0 hl750_0
                replace p750 := eq_true p750
                replace q750 := eq_true q750
                have p751 : 0 ≤ ((rd l2 x26_2) : Int) := of_decide_eq_true (by first | (with_reducible assumption) | assumption)
                have q751 : (rd l2 x26_2) < ((rd_L3 l0_0 x1_2).length : Int) := of_decide_eq_true (by first | (with_reducible assumption) | assumption)
                obtain ⟨ad751, e751, hx751_0⟩ := Kd.at_int HR750_0.out (rd l2 x26_2) p751 q751
                cases e751
                replace hx751_0 := (HB.out.cell (World.block_lt_of_cell? w _ hx751_0)).trans hx751_0
                replace p751 := eq_true p751
                replace q751 := eq_true q751
                go_wp2
                go_roundg k2
                case measure => have := HJ3.out; have := HK2.out; omega
                case rel => exact ⟨(rd (rd_L3 l0_0 x1_2) (rd l2 x26_2)), (wrap64 (x26_2 + 1)), (by first | rfl | (simp; done) | (simp [*]; done)), (by first | rfl | (simp; done) | (simp [*]; done)), H', ⟨by have := HJ3.out; have := HK2.out; omega⟩, ⟨by (with_reducible repeat (first | refine blk_drewN ?_ _ | refine blk_drew ?_ | refine blk_alloc ?_ _)); exact BK746.out⟩, ⟨by repeat (first | (with_reducible first | exact HB.out | apply below_alloc | apply pw_below_drewN | apply below_drew1 | refine below_set ?_ GE746.out) | exact HB.out)⟩⟩
               ·rw [if_neg c27] at H
                exact absurd H (by simp)
              ·rw [if_neg c26] at H
               exact absurd H (by simp)
             ·rw [if_neg c25] at H
              exact absurd H (by simp)
            ·rw [if_neg c24] at H
             exact absurd H (by simp)
          ·rw [if_neg c21] at H
           exact absurd H (by simp)
        ·rw [if_neg c19] at H
         exact absurd H (by simp)
       ·rw [if_neg c18] at H
        exact absurd H (by simp)
      ·rw [if_neg c17] at H
       have c17b0 : decide (x26_2 < (l2.length : Int)) = false := decide_eq_false c17
       clear c17
       simp only [Option.some.injEq, Prod.mk.injEq] at H
       obtain ⟨rfl, rfl⟩ := H
       go_wp2
       go_ret2
       exact ⟨by first | rfl | (simp [errW_none, errW_some] <;> rfl) | (simp [*, errW_none, errW_some] <;> rfl), by repeat (first | (with_reducible first | exact HB.out | apply below_alloc | apply pw_below_drewN | apply below_drew1 | refine below_set ?_ GE746.out) | exact HB.out)⟩

end Go.Proofs.Ytemlgmkbonpniaa.Print

namespace Go.Proofs.Ytemlgmkbonpniaa.Print
open Go.RowKit Go.Maps Go.Proofs.YtemlgmkbonpniaaW.PrintWords Go.Proofs.YtemlgmkbonpniaaW.PrintLast Go.Proofs.YtemlgmkbonpniaaW.PrintMore
set_option linter.unusedVariables false
set_option linter.unusedSimpArgs false
def runGo (nx : List (List Int)) : Int → List Int → Int × Int
 | a, [] => (a, 0)
 | a, c :: cl => if c < 0 ∨ ((rd_L3 nx 0).length : Int) ≤ c then (0, 1) else runGo nx (rd (rd_L3 nx a) c) cl
def runD (nx : List (List Int)) (fin : List Bool) (a : Int) (cl : List Int) : Int × Int := if rightD nx fin = false ∨ a < 0 ∨ (nx.length : Int) ≤ a then (0, 1) else runGo nx a cl
theorem run_l0 {nx : List (List Int)} {fin : List Bool} (h : RightP nx fin) (cl : List Int) (hl : cl.length ≤ 1000000) : ∀ (n i : Nat) (a : Int), i + n = cl.length → 0 ≤ a → a < (nx.length : Int) → Evs (fun k => subset_Run.l0 k a cl (cl.length : Int) (i : Int) nx fin) (runGo nx a (cl.drop i)) := by
 intro n
 induction n with
 | zero =>
  intro i a hi h0 h1
  refine ⟨1, fun k hk => ?_⟩
  obtain ⟨k, rfl⟩ : ∃ j, k = j + 1 := ⟨k - 1, by omega⟩
  show subset_Run.l0 (k + 1) _ _ _ _ _ _ = _
  rw [subset_Run.l0, if_neg (by omega), List.drop_eq_nil_of_le (by omega), runGo]
 | succ n ihn =>
  intro i a hi h0 h1
  have hil : i < cl.length := by omega
  obtain ⟨c, hc⟩ : ∃ c, c = rd cl (i : Int) := ⟨_, rfl⟩
  rw [drop_rd hil, ← hc, runGo]
  by_cases q : c < 0
  ·refine ⟨1, fun k hk => ?_⟩
   obtain ⟨k, rfl⟩ : ∃ j, k = j + 1 := ⟨k - 1, by omega⟩
   show subset_Run.l0 (k + 1) _ _ _ _ _ _ = _
   rw [subset_Run.l0, if_pos (by omega), if_pos (by omega), if_pos (by omega), ← hc, if_pos q, if_pos (.inl q)]
  ·have hn := h.n1
   by_cases q2 : ((rd_L3 nx 0).length : Int) ≤ c
   ·refine ⟨1, fun k hk => ?_⟩
    obtain ⟨k, rfl⟩ : ∃ j, k = j + 1 := ⟨k - 1, by omega⟩
    show subset_Run.l0 (k + 1) _ _ _ _ _ _ = _
    rw [subset_Run.l0, if_pos (by omega), if_pos (by omega), if_pos (by omega), ← hc, if_neg q, if_pos (by omega), if_pos q2, if_pos (.inr q2)]
   ·obtain ⟨e1, e2, e3⟩ := h.next h0 h1 (show 0 ≤ c by omega) (show c < ((rd_L3 nx 0).length : Int) by omega)
    obtain ⟨K, hK⟩ := ihn (i + 1) (rd (rd_L3 nx a) c) (by omega) e2 e3
    refine ⟨K + 1, fun k hk => ?_⟩
    obtain ⟨k, rfl⟩ : ∃ j, k = j + 1 := ⟨k - 1, by omega⟩
    show subset_Run.l0 (k + 1) _ _ _ _ _ _ = _
    have hk1 : subset_Run.l0 k _ _ _ _ _ _ = _ := hK k (by omega)
    rw [subset_Run.l0, if_pos (by omega), if_pos (by omega), if_pos (by omega), ← hc, if_neg q, if_pos (by omega), if_neg q2, if_pos h0, if_pos h1, if_pos (by omega), if_pos e1, show wrap64 ((i : Int) + 1) = ((i + 1 : Nat) : Int) by unfold wrap64; omega, hk1, if_neg (by omega)]
theorem run_f (nx : List (List Int)) (fin : List Bool) (a : Int) (cl : List Int) (hl : cl.length ≤ 1000000) : Evs (fun k => subset_Run.f k nx fin a cl) (runD nx fin a cl) := by
 have bad : ∀ b, b = true → ∀ k, subset_Run.j0 (k + 1) a cl b nx fin = some (0, 1) := fun b hb k => by rw [subset_Run.j0, if_pos hb]
 unfold runD
 by_cases q : rightD nx fin = true
 ·have h := (rightD_iff nx fin).1 q
  by_cases q1 : a < 0
  ·refine ⟨1, fun k hk => ?_⟩
   obtain ⟨k, rfl⟩ : ∃ j, k = j + 1 := ⟨k - 1, by omega⟩
   show subset_Run.f (k + 1) _ _ _ _ = _
   unfold subset_Run.f subset_Right.f
   rw [Option.bind_some, if_pos q, if_pos q1, bad _ rfl, if_pos (.inr (.inl q1))]
  ·by_cases q2 : (nx.length : Int) ≤ a
   ·refine ⟨1, fun k hk => ?_⟩
    obtain ⟨k, rfl⟩ : ∃ j, k = j + 1 := ⟨k - 1, by omega⟩
    show subset_Run.f (k + 1) _ _ _ _ = _
    unfold subset_Run.f subset_Right.f
    rw [Option.bind_some, if_pos q, if_neg q1, bad _ (decide_eq_true q2), if_pos (.inr (.inr q2))]
   ·obtain ⟨K, hK⟩ := run_l0 h cl hl cl.length 0 a (by omega) (by omega) (by omega)
    refine ⟨K + 1, fun k hk => ?_⟩
    obtain ⟨k, rfl⟩ : ∃ j, k = j + 1 := ⟨k - 1, by omega⟩
    show subset_Run.f (k + 1) _ _ _ _ = _
    have hk1 : subset_Run.l0 k a cl (cl.length : Int) 0 nx fin = _ := hK k (by omega)
    unfold subset_Run.f subset_Right.f
    rw [Option.bind_some, if_pos q, if_neg q1, decide_eq_false (by omega), subset_Run.j0, if_neg (by decide), hk1, if_neg (by rintro (h | h | h); rw [q] at h; cases h; exact q1 h; exact q2 h)]
    rfl
 ·refine ⟨1, fun k hk => ?_⟩
  obtain ⟨k, rfl⟩ : ∃ j, k = j + 1 := ⟨k - 1, by omega⟩
  show subset_Run.f (k + 1) _ _ _ _ = _
  unfold subset_Run.f subset_Right.f
  rw [Option.bind_some, if_neg q, bad _ rfl, if_pos (.inl (by revert q; cases rightD nx fin <;> simp))]
/-! ### a test's states are few -/
theorem few12_f (nx : List (List Int)) (fin : List Bool) (hn : nx.length ≤ 9223372036854775807) : ∃ b, Evs (fun k => scansionref12_Few.f k nx fin 60) b ∧ (b = true → nx.length ≤ 60 ∧ fin.length ≤ 60) := by
 by_cases q : (nx.length : Int) > 60
 ·refine ⟨false, ⟨1, fun k hk => ?_⟩, fun h => by cases h⟩
  obtain ⟨k, rfl⟩ : ∃ j, k = j + 1 := ⟨k - 1, by omega⟩
  show scansionref12_Few.f (k + 1) _ _ _ = _
  unfold scansionref12_Few.f
  rw [if_pos q, scansionref12_Few.j0, if_pos rfl]
 by_cases q2 : (fin.length : Int) > 60
 ·refine ⟨false, ⟨1, fun k hk => ?_⟩, fun h => by cases h⟩
  obtain ⟨k, rfl⟩ : ∃ j, k = j + 1 := ⟨k - 1, by omega⟩
  show scansionref12_Few.f (k + 1) _ _ _ = _
  unfold scansionref12_Few.f
  rw [if_neg q, decide_eq_true q2, scansionref12_Few.j0, if_pos rfl]
 have key : ∀ (n i : Nat), i + n = nx.length → ∃ b, Evs (fun k => scansionref12_Few.l0 k 60 (i : Int) nx fin) b := by
  intro n
  induction n with
  | zero =>
   intro i hi
   refine ⟨true, 1, fun k hk => ?_⟩
   obtain ⟨k, rfl⟩ : ∃ j, k = j + 1 := ⟨k - 1, by omega⟩
   show scansionref12_Few.l0 (k + 1) _ _ _ _ = _
   rw [scansionref12_Few.l0, if_neg (by omega)]
  | succ n ihn =>
   intro i hi
   by_cases q3 : ((rd_L3 nx (i : Int)).length : Int) > 60
   ·refine ⟨false, 1, fun k hk => ?_⟩
    obtain ⟨k, rfl⟩ : ∃ j, k = j + 1 := ⟨k - 1, by omega⟩
    show scansionref12_Few.l0 (k + 1) _ _ _ _ = _
    rw [scansionref12_Few.l0, if_pos (by omega), if_pos (by omega), if_pos q3]
   ·obtain ⟨b, K, hK⟩ := ihn (i + 1) (by omega)
    refine ⟨b, K + 1, fun k hk => ?_⟩
    obtain ⟨k, rfl⟩ : ∃ j, k = j + 1 := ⟨k - 1, by omega⟩
    show scansionref12_Few.l0 (k + 1) _ _ _ _ = _
    have hk1 : scansionref12_Few.l0 k _ _ _ _ = _ := hK k (by omega)
    rw [scansionref12_Few.l0, if_pos (by omega), if_pos (by omega), if_neg q3, show wrap64 ((i : Int) + 1) = ((i + 1 : Nat) : Int) by unfold wrap64; omega, hk1]
 obtain ⟨b, K, hK⟩ := key nx.length 0 (by omega)
 refine ⟨b, ⟨K + 1, fun k hk => ?_⟩, fun _ => by omega⟩
 obtain ⟨k, rfl⟩ : ∃ j, k = j + 1 := ⟨k - 1, by omega⟩
 show scansionref12_Few.f (k + 1) _ _ _ = _
 have hk1 : scansionref12_Few.l0 k 60 0 nx fin = _ := hK k (by omega)
 unfold scansionref12_Few.f
 rw [if_neg q, decide_eq_false q2, scansionref12_Few.j0, if_neg (by decide), hk1]
/-! ### one run behind another -/
theorem runGo_append (nx : List (List Int)) : ∀ (x y : List Int) (a : Int), runGo nx a (x ++ y) = if (runGo nx a x).2 = 0 then runGo nx (runGo nx a x).1 y else (0, 1) := by
 intro x
 induction x with
 | nil => intro y a; rw [List.nil_append, runGo]; rfl
 | cons c x ih =>
  intro y a
  rw [List.cons_append, runGo, runGo]
  split
  ·rfl
  ·exact ih y _
theorem runGo_in {nx : List (List Int)} {fin : List Bool} (h : RightP nx fin) : ∀ (x : List Int) (a : Int), 0 ≤ a → a < (nx.length : Int) → 0 ≤ (runGo nx a x).1 ∧ (runGo nx a x).1 < (nx.length : Int) := by
 intro x
 induction x with
 | nil => intro a h0 h1; exact ⟨h0, h1⟩
 | cons c x ih =>
  intro a h0 h1
  rw [runGo]
  split
  ·have := h.n1; exact ⟨Int.le_refl _, by show (0 : Int) < _; omega⟩
  next q =>
   obtain ⟨_, e2, e3⟩ := h.next (c := c) h0 h1 (by omega) (by omega)
   exact ih _ e2 e3
end Go.Proofs.Ytemlgmkbonpniaa.Print

namespace Go.Proofs.Ytemlgmkbonpniaa.Print
open Go.RowKit Go.Maps Go.Proofs.YtemlgmkbonpniaaW.PrintWords Go.Proofs.YtemlgmkbonpniaaW.PrintLast Go.Proofs.YtemlgmkbonpniaaW.PrintMore
set_option linter.unusedVariables false
set_option linter.unusedSimpArgs false
section
variable (r : Bt) (masks : List Int) (free : Bool)
/-- A row tells of each sign which state is behind it. -/
def RowS (sts : List (List Int)) (p : Nat) (row : List Int) : Prop := row.length = masks.length ∧ ∀ j : Nat, j < masks.length → ∃ q : Nat, rd row (j : Int) = (q : Int) ∧ q < sts.length ∧ stR sts q = xOf r free (stR sts p) (rd masks (j : Int))
theorem RowS.grow {sts sts' : List (List Int)} {p : Nat} {row : List Int} (h : RowS r masks free sts p row) (hp : p < sts.length) (hl : sts.length ≤ sts'.length) (he : ∀ i, i < sts.length → stR sts' i = stR sts i) : RowS r masks free sts' p row := by
  refine ⟨h.1, fun j hj => ?_⟩
  obtain ⟨q, h1, h2, h3⟩ := h.2 j hj
  exact ⟨q, h1, by omega, by rw [he q h2, he p hp]; exact h3⟩
theorem rd_cons_zero (x : Int) (l : List Int) : rd (x :: l) ((0 : Nat) : Int) = x := rfl
theorem rd_cons_succ (x : Int) (l : List Int) (j : Nat) : rd (x :: l) ((j + 1 : Nat) : Int) = rd l (j : Int) := by
  unfold rd
  rw [Int.toNat_natCast, Int.toNat_natCast, List.getD_cons_succ]
theorem rowGo_sem (lim : Int) (a : List Int) : ∀ (ms : List Int) (sts : List (List Int)) (row : List Int) (t : List (List Int) × List Int), rowGo r free lim a ms sts row = some t →
    ∃ tl, t.2 = row ++ tl ∧ tl.length = ms.length ∧ sts.length ≤ t.1.length ∧ (∀ i, i < sts.length → stR t.1 i = stR sts i) ∧ ∀ j : Nat, j < ms.length → ∃ q : Nat, rd tl (j : Int) = (q : Int) ∧ q < t.1.length ∧ stR t.1 q = xOf r free a (rd ms (j : Int)) := by
  intro ms
  induction ms with
  | nil =>
    intro sts row t h
    rw [rowGo] at h
    rw [← Option.some.inj h]
    exact ⟨[], (List.append_nil _).symm, rfl, Nat.le_refl _, fun i _ => rfl, fun j hj => absurd hj (Nat.not_lt_zero j)⟩
  | cons m ms ih =>
    intro sts row t h
    rw [rowGo] at h
    split at h
    · cases h
    next hlim =>
      obtain ⟨tl, h1, h2, h3, h4, h5⟩ := ih _ _ _ h
      have hl := (metR_len sts (xOf r free a m)).1
      have hlt := metR_lt sts (xOf r free a m)
      refine ⟨((metR sts (xOf r free a m)).1 : Int) :: tl, by rw [h1, List.append_assoc]; rfl, by rw [List.length_cons, List.length_cons, h2], by omega, fun i hi => by rw [h4 i (by omega), metR_old sts _ hi], fun j hj => ?_⟩
      cases j with
      | zero => exact ⟨(metR sts (xOf r free a m)).1, rfl, by omega, by rw [h4 _ hlt, metR_is]; rfl⟩
      | succ j =>
        rw [List.length_cons] at hj
        obtain ⟨q, e1, e2, e3⟩ := h5 j (by omega)
        exact ⟨q, by rw [rd_cons_succ]; exact e1, e2, by rw [rd_cons_succ]; exact e3⟩
/-- The states. -/
structure DS (fs N : List (List Int)) (F : List Bool) : Prop where
  len : fs.length = N.length
  fl : F.length = N.length
  row : ∀ p, p < N.length → RowS r masks free fs p (stR N p)
  fin : ∀ p, p < N.length → F.getD p false = endR r.1 r.2.2.2.1 (stR fs p)
theorem getD_snoc {α : Type} (l : List α) (x d : α) (p : Nat) : (l ++ [x]).getD p d = if p < l.length then l.getD p d else if p = l.length then x else d := by
  rw [List.getD_eq_getElem?_getD, List.getD_eq_getElem?_getD]
  by_cases q : p < l.length
  · rw [if_pos q, List.getElem?_append_left q]
  · rw [if_neg q, List.getElem?_append_right (by omega)]
    by_cases q2 : p = l.length
    · rw [if_pos q2, q2, Nat.sub_self]; rfl
    · rw [if_neg q2, List.getElem?_eq_none (by simp; omega)]; rfl
theorem goD_sem (lim : Int) : ∀ (k s : Nat) (sts next : List (List Int)) (fin : List Bool) (N : List (List Int)) (F : List Bool), goD r free lim masks k s sts next fin = (N, F, 0) → s ≤ sts.length → next.length = s → fin.length = s →
    (∀ p, p < s → RowS r masks free sts p (stR next p) ∧ fin.getD p false = endR r.1 r.2.2.2.1 (stR sts p)) → ∃ fs, (∀ i, i < sts.length → stR fs i = stR sts i) ∧ sts.length ≤ fs.length ∧ DS r masks free fs N F := by
  intro k
  induction k with
  | zero => intro s sts next fin N F h _ _ _ _; rw [goD] at h; have := (Prod.mk.inj (Prod.mk.inj h).2).2; cases this
  | succ k ih =>
    intro s sts next fin N F h hs hn hf hi
    rw [goD] at h
    split at h
    next hlt =>
      cases e : rowGo r free lim (stR sts s) masks sts [] with
      | none => rw [e] at h; have := (Prod.mk.inj (Prod.mk.inj h).2).2; cases this
      | some t =>
        rw [e] at h
        obtain ⟨tl, h1, h2, h3, h4, h5⟩ := rowGo_sem _ _ _ _ _ _ _ _ e
        rw [List.nil_append] at h1
        obtain ⟨fs, g1, g2, g3⟩ := ih (s + 1) t.1 (next ++ [t.2]) (fin ++ [endR r.1 r.2.2.2.1 (stR sts s)]) N F h (by omega) (by rw [List.length_append, hn]; rfl) (by rw [List.length_append, hf]; rfl) (fun p hp => by
          have e1 : stR (next ++ [t.2]) p = if p < s then stR next p else t.2 := by
            unfold stR
            rw [getD_snoc, hn]
            by_cases q : p < s
            · rw [if_pos q, if_pos q]
            · rw [if_neg q, if_neg q, if_pos (by omega)]
          have e2 : (fin ++ [endR r.1 r.2.2.2.1 (stR sts s)]).getD p false = if p < s then fin.getD p false else endR r.1 r.2.2.2.1 (stR sts s) := by
            rw [getD_snoc, hf]
            by_cases q : p < s
            · rw [if_pos q, if_pos q]
            · rw [if_neg q, if_neg q, if_pos (by omega)]
          rw [e1, e2, h4 p (by omega)]
          by_cases q : p < s
          · rw [if_pos q, if_pos q]
            exact ⟨RowS.grow r masks free (hi p q).1 (by omega) h3 h4, (hi p q).2⟩
          · obtain rfl : p = s := by omega
            rw [if_neg q, if_neg q]
            refine ⟨⟨by rw [h1]; exact h2, fun j hj => ?_⟩, rfl⟩
            obtain ⟨q', f1, f2, f3⟩ := h5 j hj
            exact ⟨q', by rw [h1]; exact f1, f2, by rw [h4 p hlt]; exact f3⟩)
        exact ⟨fs, fun i hi => by rw [g1 i (by omega), h4 i hi], by omega, g3⟩
    next hge =>
      obtain ⟨e1, e2⟩ := Prod.mk.inj h
      obtain ⟨e2, _⟩ := Prod.mk.inj e2
      subst e1 e2
      have hsl : sts.length = next.length := by omega
      exact ⟨sts, fun i _ => rfl, Nat.le_refl _, hsl, by omega, fun p hp => (hi p (by omega)).1, fun p hp => (hi p (by omega)).2⟩
theorem subsetR_sem (lim : Int) {N : List (List Int)} {F : List Bool} (h : subsetR r masks free lim = (N, F, 0)) : ∃ fs, DS r masks free fs N F ∧ stR fs 0 = [0] := by
  unfold subsetR at h
  split at h
  · have := (Prod.mk.inj (Prod.mk.inj h).2).2; cases this
  · obtain ⟨fs, g1, g2, g3⟩ := goD_sem r masks free lim _ 0 [[0]] [] [] N F h (by simp) rfl rfl (fun p hp => absurd hp (Nat.not_lt_zero p))
    exact ⟨fs, g3, g1 0 (by simp)⟩
/-- Where one stands behind classes. -/
def behind (st : List Int) (cl : List Int) : List Int := cl.foldl (fun a c => xOf r free a (rd masks c)) st
theorem run_sem {fs N : List (List Int)} {F : List Bool} (h : DS r masks free fs N F) : ∀ (cl : List Int) (a : Nat), a < N.length → (∀ c ∈ cl, 0 ≤ c ∧ c < (masks.length : Int)) → ∃ b : Nat, runGo N (a : Int) cl = ((b : Int), 0) ∧ b < N.length ∧ stR fs b = behind r masks free (stR fs a) cl := by
  intro cl
  induction cl with
  | nil => intro a ha _; exact ⟨a, by rw [runGo], ha, rfl⟩
  | cons c cl ih =>
    intro a ha hc
    obtain ⟨c1, c2⟩ := hc c List.mem_cons_self
    have h0 : (rd_L3 N 0).length = masks.length := (h.row 0 (by omega)).1
    obtain ⟨q, e1, e2, e3⟩ := (h.row a ha).2 c.toNat (by omega)
    rw [show ((c.toNat : Nat) : Int) = c by omega] at e1 e3
    have hl := h.len
    obtain ⟨b, g1, g2, g3⟩ := ih q (by omega) (fun c hc' => hc c (List.mem_cons_of_mem _ hc'))
    refine ⟨b, ?_, g2, ?_⟩
    · rw [runGo, if_neg (by omega), show rd_L3 N (a : Int) = stR N a from rfl, e1]
      exact g1
    · rw [g3, e3]; rfl
theorem runD_sem {fs N : List (List Int)} {F : List Bool} (h : DS r masks free fs N F) (hR : rightD N F = true) (h0 : stR fs 0 = [0]) (cl : List Int) (hc : ∀ c ∈ cl, 0 ≤ c ∧ c < (masks.length : Int)) : ∃ b : Nat, runD N F 0 cl = ((b : Int), 0) ∧ b < N.length ∧ F.getD b false = endR r.1 r.2.2.2.1 (behind r masks free [0] cl) := by
  have hn := ((rightD_iff N F).1 hR).n1
  obtain ⟨b, g1, g2, g3⟩ := run_sem r masks free h cl 0 (by omega) hc
  refine ⟨b, ?_, g2, ?_⟩
  · unfold runD
    rw [if_neg (by rintro (h | h | h); rw [hR] at h; cases h; omega; omega)]
    exact g1
  · rw [h.fin b g2, g3, h0]
end
/-! ### free, more is reached -/
theorem stepR_mem {r : Bt} {a : List Int} {m q : Int} : q ∈ stepR r.2.1 r.2.2.1 r.2.2.2.2.1 a m ↔ q ∈ allR r.2.2.1 r.2.2.2.2.1 a ∧ oddN r.2.1 m q = false := by
  unfold stepR withR
  rw [List.mem_filter, compact_mem, sortI_mem, List.append_nil, Bool.not_eq_true']
theorem allR_mono {first : List Int} {fol : List (List Int)} {a b : List Int} (h : ∀ t ∈ a, t ∈ b) : ∀ q ∈ allR first fol a, q ∈ allR first fol b := by
  intro q hq
  unfold allR at hq ⊢
  rw [List.mem_flatten] at hq ⊢
  obtain ⟨l, hl, hq⟩ := hq
  obtain ⟨t, ht, rfl⟩ := List.mem_map.1 hl
  exact ⟨_, List.mem_map.2 ⟨t, h t ht, rfl⟩, hq⟩
theorem xOf_mono (r : Bt) {a b : List Int} (h : ∀ t ∈ a, t ∈ b) (m : Int) : ∀ t ∈ xOf r false a m, t ∈ xOf r true b m := by
  intro t ht
  unfold xOf at ht ⊢
  rw [if_neg (by decide)] at ht
  rw [if_pos rfl]
  rw [stepR_mem] at ht
  exact List.mem_cons_of_mem _ (stepR_mem.2 ⟨allR_mono h t ht.1, ht.2⟩)
theorem behind_mono (r : Bt) (masks : List Int) : ∀ (cl : List Int) (a b : List Int), (∀ t ∈ a, t ∈ b) → ∀ t ∈ behind r masks false a cl, t ∈ behind r masks true b cl := by
  intro cl
  induction cl with
  | nil => intro a b h; exact h
  | cons c cl ih => intro a b h; exact ih _ _ (xOf_mono r h _)
theorem behind_zero (r : Bt) (masks : List Int) : ∀ (cl : List Int) (a : List Int), 0 ∈ a → 0 ∈ behind r masks true a cl := by
  intro cl
  induction cl with
  | nil => intro a h; exact h
  | cons c cl ih =>
    intro a h
    refine ih _ (show 0 ∈ xOf r true a (rd masks c) from ?_)
    unfold xOf
    rw [if_pos rfl]
    exact List.mem_cons_self
theorem behind_append (r : Bt) (masks : List Int) (free : Bool) (x y a : List Int) : behind r masks free a (x ++ y) = behind r masks free (behind r masks free a x) y := by
  unfold behind
  rw [List.foldl_append]
theorem endR_mono (nl : Bool) (last : List Int) {a b : List Int} (h : ∀ t ∈ a, t ∈ b) (he : endR nl last a = true) : endR nl last b = true := by
  unfold endR at he ⊢
  rw [List.any_eq_true] at he ⊢
  obtain ⟨t, ht, hp⟩ := he
  exact ⟨t, h t ht, hp⟩
theorem free_law (r : Bt) (masks ahead cl : List Int) : (!endR r.1 r.2.2.2.1 (behind r masks false [0] cl) || endR r.1 r.2.2.2.1 (behind r masks true [0] (ahead ++ cl))) = true := by
  cases e : endR r.1 r.2.2.2.1 (behind r masks false [0] cl) with
  | false => rfl
  | true =>
    have h0 : ∀ t ∈ ([0] : List Int), t ∈ behind r masks true [0] ahead := fun t ht => by
      rw [List.mem_singleton.1 ht]
      exact behind_zero r masks ahead [0] List.mem_cons_self
    have h := endR_mono r.1 r.2.2.2.1 (behind_mono r masks cl _ _ h0) e
    rw [behind_append, h]
    rfl
end Go.Proofs.Ytemlgmkbonpniaa.Print
