-- Written by a program of this session (wip/sp.py) out of the translation.
import Derived.Test.YtemlgmkbonpniaaPrint0
import Derived.Test.YtemlgmkbonpniaaPrint35
namespace Go.Proofs.Ytemlgmkbonpniaa.Print
open Go.RowKit Go.Proofs.YtemlgmkbonpniaaW.PrintWords Go.Proofs.YtemlgmkbonpniaaW.PrintLast Go.Proofs.YtemlgmkbonpniaaW.PrintMore
attribute [local go_sem] max2_int min2_int max_two min_two max_three min_three max_four min_four   -- for this text's walks alone
set_option linter.unusedVariables false
set_option linter.unusedSimpArgs false

/-! ### scansionref11_Step: function 29 -/
mutual
def scansionref11_Step.l0 : Nat → List Int → Int → List Int → Int → Bool → List Int → List Int → List Int → List (List Int) → Option (List Int)
 | 0, _, _, _, _, _, _, _, _, _ => none
 | k + 1, x1, x2, x7, x8, x554000, x554001, x554002, x554003, x554004 => if x8 ≤ (x554001.length : Int) then ((scansionref11_has.f k x1 0).bind fun t554 => (if t554 = true then ((scansionref11_has.f k x554002 x8).bind fun t555 => (scansionref11_Step.j1 k x1 x2 x7 x8 t555 x554000 x554001 x554002 x554003 x554004)) else (scansionref11_Step.j1 k x1 x2 x7 x8 false x554000 x554001 x554002 x554003 x554004))) else (some x7)
def scansionref11_Step.j1 : Nat → List Int → Int → List Int → Int → Bool → Bool → List Int → List Int → List Int → List (List Int) → Option (List Int)
 | 0, _, _, _, _, _, _, _, _, _, _ => none
 | k + 1, x1, x2, x7, x8, x9, x554000, x554001, x554002, x554003, x554004 => scansionref11_Step.l1 k x1 x2 x7 x8 x9 0 x554000 x554001 x554002 x554003 x554004
def scansionref11_Step.l1 : Nat → List Int → Int → List Int → Int → Bool → Int → Bool → List Int → List Int → List Int → List (List Int) → Option (List Int)
 | 0, _, _, _, _, _, _, _, _, _, _, _ => none
 | k + 1, x1, x2, x7, x8, x9, x10, x554000, x554001, x554002, x554003, x554004 => if x10 < (x1.length : Int) then (if x9 = true then (scansionref11_Step.l1 k x1 x2 x7 x8 true (wrap64 (x10 + 1)) x554000 x554001 x554002 x554003 x554004) else (if 0 ≤ x10 then (if (rd x1 x10) > 0 then (if 0 ≤ (wrap64 ((rd x1 x10) - 1)) then (if (wrap64 ((rd x1 x10) - 1)) < (x554004.length : Int) then ((scansionref11_has.f k (rd_L3 x554004 (wrap64 ((rd x1 x10) - 1))) x8).bind fun t559 => (scansionref11_Step.l1 k x1 x2 x7 x8 t559 (wrap64 (x10 + 1)) x554000 x554001 x554002 x554003 x554004)) else (none)) else (none)) else (scansionref11_Step.l1 k x1 x2 x7 x8 false (wrap64 (x10 + 1)) x554000 x554001 x554002 x554003 x554004)) else (none))) else (if x9 = true then (if 0 ≤ (wrap64 (x8 - 1)) then (if (wrap64 (x8 - 1)) < (x554001.length : Int) then (if 0 ≤ (IntKind.u64.wrap (rd x554001 (wrap64 (x8 - 1)))) then (if (Go.bits .and .u64 (shr .u64 x2 (IntKind.u64.wrap (rd x554001 (wrap64 (x8 - 1))))) 1) = 1 then (if x7.length < 17592186044416 then (scansionref11_Step.l0 k x1 x2 (x7 ++ [x8]) (wrap64 (x8 + 1)) x554000 x554001 x554002 x554003 x554004) else (none)) else (scansionref11_Step.l0 k x1 x2 x7 (wrap64 (x8 + 1)) x554000 x554001 x554002 x554003 x554004)) else (none)) else (none)) else (none)) else (scansionref11_Step.l0 k x1 x2 x7 (wrap64 (x8 + 1)) x554000 x554001 x554002 x554003 x554004))
end
def scansionref11_Step.f (k : Nat) (a0_0 : Bool) (l0_1 : List Int) (l0_2 : List Int) (l0_3 : List Int) (l0_4 : List (List Int)) (l1 : List Int) (a2 : Int) : Option (List Int) := scansionref11_Step.l0 k l1 a2 ([] : List Int) 1 a0_0 l0_1 l0_2 l0_3 l0_4
theorem scansionref11_Step.mono_l : ∀ k, (∀ y0 y1 y2 y3 y4 y5 y6 y7 y8, LeO (scansionref11_Step.l0 k y0 y1 y2 y3 y4 y5 y6 y7 y8) (scansionref11_Step.l0 (k + 1) y0 y1 y2 y3 y4 y5 y6 y7 y8)) ∧ (∀ y0 y1 y2 y3 y4 y5 y6 y7 y8 y9, LeO (scansionref11_Step.j1 k y0 y1 y2 y3 y4 y5 y6 y7 y8 y9) (scansionref11_Step.j1 (k + 1) y0 y1 y2 y3 y4 y5 y6 y7 y8 y9)) ∧ (∀ y0 y1 y2 y3 y4 y5 y6 y7 y8 y9 y10, LeO (scansionref11_Step.l1 k y0 y1 y2 y3 y4 y5 y6 y7 y8 y9 y10) (scansionref11_Step.l1 (k + 1) y0 y1 y2 y3 y4 y5 y6 y7 y8 y9 y10))
 | 0 => ⟨fun _ _ _ _ _ _ _ _ _ r h => by simp [scansionref11_Step.l0] at h, fun _ _ _ _ _ _ _ _ _ _ r h => by simp [scansionref11_Step.j1] at h, fun _ _ _ _ _ _ _ _ _ _ _ r h => by simp [scansionref11_Step.l1] at h⟩
 | k + 1 => by
  obtain ⟨ih0, ih1, ih2⟩ := scansionref11_Step.mono_l k
  refine ⟨?_, ?_, ?_⟩
  ·intro y0 y1 y2 y3 y4 y5 y6 y7 y8
   unfold scansionref11_Step.l0
   repeat' first
   | (with_reducible exact ih0 _ _ _ _ _ _ _ _ _)
   | (with_reducible exact ih1 _ _ _ _ _ _ _ _ _ _)
   | (with_reducible exact ih2 _ _ _ _ _ _ _ _ _ _ _)
   | (with_reducible exact scansionref11_has.mono _ _ _)
   | (with_reducible exact LeO.refl _)
   | (with_reducible exact LeO.none _)
   | (with_reducible refine LeO.ite ?_ ?_)
   | (with_reducible refine LeO.bind ?_ (fun _ => ?_))
   | exact ih0 _ _ _ _ _ _ _ _ _
   | exact ih1 _ _ _ _ _ _ _ _ _ _
   | exact ih2 _ _ _ _ _ _ _ _ _ _ _
   | exact scansionref11_has.mono _ _ _
   | exact LeO.none _
   | refine LeO.ite ?_ ?_
   | refine LeO.bind ?_ (fun _ => ?_)
  ·intro y0 y1 y2 y3 y4 y5 y6 y7 y8 y9
   unfold scansionref11_Step.j1
   repeat' first
   | (with_reducible exact ih0 _ _ _ _ _ _ _ _ _)
   | (with_reducible exact ih1 _ _ _ _ _ _ _ _ _ _)
   | (with_reducible exact ih2 _ _ _ _ _ _ _ _ _ _ _)
   | (with_reducible exact scansionref11_has.mono _ _ _)
   | (with_reducible exact LeO.refl _)
   | (with_reducible exact LeO.none _)
   | (with_reducible refine LeO.ite ?_ ?_)
   | (with_reducible refine LeO.bind ?_ (fun _ => ?_))
   | exact ih0 _ _ _ _ _ _ _ _ _
   | exact ih1 _ _ _ _ _ _ _ _ _ _
   | exact ih2 _ _ _ _ _ _ _ _ _ _ _
   | exact scansionref11_has.mono _ _ _
   | exact LeO.none _
   | refine LeO.ite ?_ ?_
   | refine LeO.bind ?_ (fun _ => ?_)
  ·intro y0 y1 y2 y3 y4 y5 y6 y7 y8 y9 y10
   unfold scansionref11_Step.l1
   repeat' first
   | (with_reducible exact ih0 _ _ _ _ _ _ _ _ _)
   | (with_reducible exact ih1 _ _ _ _ _ _ _ _ _ _)
   | (with_reducible exact ih2 _ _ _ _ _ _ _ _ _ _ _)
   | (with_reducible exact scansionref11_has.mono _ _ _)
   | (with_reducible exact LeO.refl _)
   | (with_reducible exact LeO.none _)
   | (with_reducible refine LeO.ite ?_ ?_)
   | (with_reducible refine LeO.bind ?_ (fun _ => ?_))
   | exact ih0 _ _ _ _ _ _ _ _ _
   | exact ih1 _ _ _ _ _ _ _ _ _ _
   | exact ih2 _ _ _ _ _ _ _ _ _ _ _
   | exact scansionref11_has.mono _ _ _
   | exact LeO.none _
   | refine LeO.ite ?_ ?_
   | refine LeO.bind ?_ (fun _ => ?_)
theorem scansionref11_Step.mono : ∀ a0 a1 a2 a3 a4 a5 a6 k, LeO (scansionref11_Step.f k a0 a1 a2 a3 a4 a5 a6) (scansionref11_Step.f (k + 1) a0 a1 a2 a3 a4 a5 a6) := by
 intro a0 a1 a2 a3 a4 a5 a6 k
 obtain ⟨ih0, ih1, ih2⟩ := scansionref11_Step.mono_l k
 unfold scansionref11_Step.f
 repeat' first
   | (with_reducible exact ih0 _ _ _ _ _ _ _ _ _)
   | (with_reducible exact ih1 _ _ _ _ _ _ _ _ _ _)
   | (with_reducible exact ih2 _ _ _ _ _ _ _ _ _ _ _)
   | (with_reducible exact scansionref11_has.mono _ _ _)
   | (with_reducible exact LeO.refl _)
   | (with_reducible exact LeO.none _)
   | (with_reducible refine LeO.ite ?_ ?_)
   | (with_reducible refine LeO.bind ?_ (fun _ => ?_))
   | exact ih0 _ _ _ _ _ _ _ _ _
   | exact ih1 _ _ _ _ _ _ _ _ _ _
   | exact ih2 _ _ _ _ _ _ _ _ _ _ _
   | exact scansionref11_has.mono _ _ _
   | exact LeO.none _
   | refine LeO.ite ?_ ?_
   | refine LeO.bind ?_ (fun _ => ?_)
set_option maxHeartbeats 8000000 in
set_option maxRecDepth 100000 in
theorem scansionref11_Step.calls (k : Nat) (a0_0 : Bool) (A0_1 : Option Addr) (c0_1 : Nat) (l0_1 : List Int) (A0_2 : Option Addr) (c0_2 : Nat) (l0_2 : List Int) (A0_3 : Option Addr) (c0_3 : Nat) (l0_3 : List Int) (A0_4 : Option Addr) (c0_4 : Nat) (l0_4 : List (List Int)) (A1 : Option Addr) (c1 : Nat) (l1 : List Int) (a2 : Int) (r : List Int) (w : World) (hr0_1 : Kd.C (Kd.int .i64) w A0_1 l0_1.length l0_1) (hc0_1 : l0_1.length ≤ c0_1) (hr0_2 : Kd.C (Kd.int .i64) w A0_2 l0_2.length l0_2) (hc0_2 : l0_2.length ≤ c0_2) (hr0_3 : Kd.C (Kd.int .i64) w A0_3 l0_3.length l0_3) (hc0_3 : l0_3.length ≤ c0_3) (hr0_4 : Kd.C (Kd.slice 3 (Kd.int .i64)) w A0_4 l0_4.length l0_4) (hc0_4 : l0_4.length ≤ c0_4) (hr1 : Kd.C (Kd.int .i64) w A1 l1.length l1) (hc1 : l1.length ≤ c1) (h : scansionref11_Step.f k a0_0 l0_1 l0_2 l0_3 l0_4 l1 a2 = some r) :
  Calls Try.prog 29 #[.agg #[.bool a0_0, .slice A0_1 l0_1.length c0_1, .slice A0_2 l0_2.length c0_2, .slice A0_3 l0_3.length c0_3, .slice A0_4 l0_4.length c0_4], .slice A1 l1.length c1, .int .u64 a2] w fun e w' => ∃ v0_ : Value, e = .returned (v0_) ∧ Kd.R (Kd.int .i64) 3 w' w.heap.size (fun _ => True) v0_ r ∧ Below w.heap.size w w' := by
 have hu30 := Try.underlying30
 have HR0_1 := Aside0.mk hr0_1
 have HC0_1 := Aside0.mk hc0_1
 clear hr0_1 hc0_1
 have HR0_2 := Aside0.mk hr0_2
 have HC0_2 := Aside0.mk hc0_2
 clear hr0_2 hc0_2
 have HR0_3 := Aside0.mk hr0_3
 have HC0_3 := Aside0.mk hc0_3
 clear hr0_3 hc0_3
 have HR0_4 := Aside0.mk hr0_4
 have HC0_4 := Aside0.mk hc0_4
 clear hr0_4 hc0_4
 have HR1 := Aside0.mk hr1
 have HC1 := Aside0.mk hc1
 clear hr1 hc1
 have HB := Aside0.mk (Below.refl w.heap.size w)
 have H : (scansionref11_Step.l0 k l1 a2 ([] : List Int) 1 a0_0 l0_1 l0_2 l0_3 l0_4) = some r := h
 clear h
 have H' := Aside0.mk H
 clear H
 go_enter Try.func29, Try.ntmps29
 go_wp2_with (first | ((with_reducible refine gate_dst (N := 3) rfl ?_); refine box_event ?hg (N := 3) ?hd (cs := #[.bool a0_0, .slice A0_1 l0_1.length c0_1, .slice A0_2 l0_2.length c0_2, .slice A0_3 l0_3.length c0_3, .slice A0_4 l0_4.length c0_4]) (t := 30) ?hr ?_; (case hd => rfl); (case hg => rfl); (case hr => first | (go_simp; done) | (go_simp; rfl)); intro gb553 hg w4 hbox hb; have n0_ := Aside0.mk (below_step (by repeat (first | (with_reducible first | exact HB.out | apply below_alloc | apply pw_below_drewN | apply below_drew1) | exact HB.out)) hb); have n1_ := Aside0.mk (hbox); have n2_ := Aside0.mk ((by rw [hg]; exact (below_size (by repeat (first | (with_reducible first | exact HB.out | apply below_alloc | apply pw_below_drewN | apply below_drew1) | exact HB.out))) : w.heap.size ≤ gb553)); have n3_ := Aside0.mk ((by rw [hg]; exact (below_size (by repeat (first | (with_reducible first | exact HB.out | apply below_alloc | apply pw_below_drewN | apply below_drew1) | exact HB.out))) : w.heap.size ≤ gb553)); clear HB; have HB := n0_; have BK553 := n1_; have GW553 := n2_; have GE553 := n3_; clear n0_ n1_ n2_ n3_; clear hb hbox hg))
 repeat (go_quiet (first | ((with_reducible refine gate_dst (N := 3) rfl ?_); refine box_event ?hg (N := 3) ?hd (cs := #[.bool a0_0, .slice A0_1 l0_1.length c0_1, .slice A0_2 l0_2.length c0_2, .slice A0_3 l0_3.length c0_3, .slice A0_4 l0_4.length c0_4]) (t := 30) ?hr ?_; (case hd => rfl); (case hg => rfl); (case hr => first | (go_simp; done) | (go_simp; rfl)); intro gb553 hg w4 hbox hb; have n0_ := Aside0.mk (below_step (by repeat (first | (with_reducible first | exact HB.out | apply below_alloc | apply pw_below_drewN | apply below_drew1) | exact HB.out)) hb); have n1_ := Aside0.mk (hbox); have n2_ := Aside0.mk ((by rw [hg]; exact (below_size (by repeat (first | (with_reducible first | exact HB.out | apply below_alloc | apply pw_below_drewN | apply below_drew1) | exact HB.out))) : w.heap.size ≤ gb553)); have n3_ := Aside0.mk ((by rw [hg]; exact (below_size (by repeat (first | (with_reducible first | exact HB.out | apply below_alloc | apply pw_below_drewN | apply below_drew1) | exact HB.out))) : w.heap.size ≤ gb553)); clear HB; have HB := n0_; have BK553 := n1_; have GW553 := n2_; have GE553 := n3_; clear n0_ n1_ n2_ n3_; clear hb hbox hg)); try go_wp2_with (first | ((with_reducible refine gate_dst (N := 3) rfl ?_); refine box_event ?hg (N := 3) ?hd (cs := #[.bool a0_0, .slice A0_1 l0_1.length c0_1, .slice A0_2 l0_2.length c0_2, .slice A0_3 l0_3.length c0_3, .slice A0_4 l0_4.length c0_4]) (t := 30) ?hr ?_; (case hd => rfl); (case hg => rfl); (case hr => first | (go_simp; done) | (go_simp; rfl)); intro gb553 hg w4 hbox hb; have n0_ := Aside0.mk (below_step (by repeat (first | (with_reducible first | exact HB.out | apply below_alloc | apply pw_below_drewN | apply below_drew1) | exact HB.out)) hb); have n1_ := Aside0.mk (hbox); have n2_ := Aside0.mk ((by rw [hg]; exact (below_size (by repeat (first | (with_reducible first | exact HB.out | apply below_alloc | apply pw_below_drewN | apply below_drew1) | exact HB.out))) : w.heap.size ≤ gb553)); have n3_ := Aside0.mk ((by rw [hg]; exact (below_size (by repeat (first | (with_reducible first | exact HB.out | apply below_alloc | apply pw_below_drewN | apply below_drew1) | exact HB.out))) : w.heap.size ≤ gb553)); clear HB; have HB := n0_; have BK553 := n1_; have GW553 := n2_; have GE553 := n3_; clear n0_ n1_ n2_ n3_; clear hb hbox hg)))
 go_loopg [7, 8] k (fun kq v7 v8 w' => ∃ (x7_1 : List Int) (x8_1 : Int), v8 = .int .i64 x8_1 ∧ Aside0 (scansionref11_Step.l0 kq l1 a2 x7_1 x8_1 a0_0 l0_1 l0_2 l0_3 l0_4 = some r) ∧ Aside0 (kq ≤ k) ∧ Aside0 (Kd.R (Kd.int .i64) 3 w' w.heap.size (fun _ => True) v7 x7_1) ∧ Aside0 (w'.heap[gb553]? = some (.cells #[.bool a0_0, (.slice A0_1 l0_1.length c0_1), (.slice A0_2 l0_2.length c0_2), (.slice A0_3 l0_3.length c0_3), (.slice A0_4 l0_4.length c0_4)] 30 (0, 0))) ∧ Aside0 (Below w.heap.size w w'))
 case atStart => exact ⟨(([] : List Int)), (1), (by first | rfl | (simp; done) | (simp [*]; done)), H', ⟨Nat.le_refl _⟩, ⟨by first | exact Kd.R_nil _ _ _ _ _ | exact Kd.N_nil _ _ _ _ _ | exact Kd.V_nil _ _ _ _ _ | exact Kd.Q_nil _ _ _ _ _ | exact Kd.S_nil _ _ _ _ _⟩, ⟨by (with_reducible repeat (first | refine blk_drewN ?_ _ | refine blk_drew ?_ | refine blk_alloc ?_ _)); exact BK553.out⟩, ⟨by repeat (first | (with_reducible first | exact HB.out | apply below_alloc | apply pw_below_drewN | apply below_drew1 | refine below_set ?_ GE553.out) | exact HB.out)⟩⟩
 case round =>
  clear H'
  try clear c1
  try clear c2
  try clear p2
  obtain ⟨x7_1, x8_1, rfl, HA, HK1, HO_7, BK553, HB⟩ := hrel
  cases gk with
  | zero => exact absurd HA.out (by simp [scansionref11_Step.l0])
  | succ k1 =>
   have H := HA.out
   clear HA
   simp only [scansionref11_Step.l0] at H
   by_cases c5 : x8_1 ≤ (l0_1.length : Int)
   ·rw [if_pos c5] at H
    have c5b0 : decide (x8_1 ≤ (l0_1.length : Int)) = true := decide_eq_true c5
    clear c5
    have HC6 := Aside0.mk H
    clear H
    have hcz7_0 : wr.cell? ⟨gb553, 0, none⟩ = some (.bool a0_0) := (blk_cell BK553.out 0).trans rfl
    have hcz7_1 : wr.cell? ⟨gb553, 1, none⟩ = some (.slice A0_1 l0_1.length c0_1) := (blk_cell BK553.out 1).trans rfl
    have hcz7_2 : wr.cell? ⟨gb553, 2, none⟩ = some (.slice A0_2 l0_2.length c0_2) := (blk_cell BK553.out 2).trans rfl
    have hcz7_3 : wr.cell? ⟨gb553, 3, none⟩ = some (.slice A0_3 l0_3.length c0_3) := (blk_cell BK553.out 3).trans rfl
    have hcz7_4 : wr.cell? ⟨gb553, 4, none⟩ = some (.slice A0_4 l0_4.length c0_4) := (blk_cell BK553.out 4).trans rfl
    have hfz7_0 := blk_frozen BK553.out 0
    have hfz7_1 := blk_frozen BK553.out 1
    have hfz7_2 := blk_frozen BK553.out 2
    have hfz7_3 := blk_frozen BK553.out 3
    have hfz7_4 := blk_frozen BK553.out 4
    go_upto_region 5 with (fail)
    repeat (go_quiet (fail); go_upto_region 5 with (fail))
    go_cut [9] (fun v9 wc => ∃ (kq : Nat) (x9_5 : Bool), v9 = .bool x9_5 ∧ Aside0 (scansionref11_Step.j1 kq l1 a2 x7_1 x8_1 x9_5 a0_0 l0_1 l0_2 l0_3 l0_4 = some r) ∧ Aside0 (kq ≤ k1) ∧ Aside0 (Kd.R (Kd.int .i64) 3 wc w.heap.size (fun _ => True) u7 x7_1) ∧ Aside0 (wc.heap[gb553]? = some (.cells #[.bool a0_0, (.slice A0_1 l0_1.length c0_1), (.slice A0_2 l0_2.length c0_2), (.slice A0_3 l0_3.length c0_3), (.slice A0_4 l0_4.length c0_4)] 30 (0, 0))) ∧ Aside0 (Below w.heap.size w wc))
    case first =>
     have H := HC6.out
     clear HC6
     replace H := Option.bind_eq_some_iff.mp H
     obtain ⟨t554, A80, H⟩ := H
     replace H : (if t554 = true then ((scansionref11_has.f k1 l0_2 x8_1).bind fun t555 => (scansionref11_Step.j1 k1 l1 a2 x7_1 x8_1 t555 a0_0 l0_1 l0_2 l0_3 l0_4)) else (scansionref11_Step.j1 k1 l1 a2 x7_1 x8_1 false a0_0 l0_1 l0_2 l0_3 l0_4)) = some r := H
     have A8 := Aside0.mk A80
     clear A80
     by_cases c9 : t554 = true
     ·subst c9
      have H1 : ((scansionref11_has.f k1 l0_2 x8_1).bind fun t555 => (scansionref11_Step.j1 k1 l1 a2 x7_1 x8_1 t555 a0_0 l0_1 l0_2 l0_3 l0_4)) = some r := by rw [if_pos rfl] at H; exact H
      clear H
      have H := H1
      clear H1
      replace H := Option.bind_eq_some_iff.mp H
      obtain ⟨t555, A100, H⟩ := H
      replace H : (scansionref11_Step.j1 k1 l1 a2 x7_1 x8_1 t555 a0_0 l0_1 l0_2 l0_3 l0_4) = some r := H
      have A10 := Aside0.mk A100
      clear A100
      have H' := Aside0.mk H
      clear H
      go_wp2_with (first | (go_at_call 56; (with_reducible refine (scansionref11_has.calls k1 _ _ l1 0 true _ ?side1 ?side2 A8.out).mono ?_); (case side1 => repeat (first | exact (Kd.C_below HR1.out HB.out) | (with_reducible refine Kd.C_alloc ?_ _) | (with_reducible refine Kd.C_drewN ?_ _) | (with_reducible refine Kd.C_drew ?_))); (case side2 => exact HC1.out); rintro e w' ⟨rfl, ⟨nd, rfl⟩⟩; (try first | exact ⟨rfl, _, World.drewN_drewN _ _ _⟩ | exact ⟨rfl, _, Eq.trans (World.drewN_drewN _ _ _) (congrArg (World.drewN _) (Nat.add_assoc _ _ _))⟩); have hcz11_0 : wr.cell? ⟨gb553, 0, none⟩ = some (.bool a0_0) := (blk_cell BK553.out 0).trans rfl; have hcz11_1 : wr.cell? ⟨gb553, 1, none⟩ = some (.slice A0_1 l0_1.length c0_1) := (blk_cell BK553.out 1).trans rfl; have hcz11_2 : wr.cell? ⟨gb553, 2, none⟩ = some (.slice A0_2 l0_2.length c0_2) := (blk_cell BK553.out 2).trans rfl; have hcz11_3 : wr.cell? ⟨gb553, 3, none⟩ = some (.slice A0_3 l0_3.length c0_3) := (blk_cell BK553.out 3).trans rfl; have hcz11_4 : wr.cell? ⟨gb553, 4, none⟩ = some (.slice A0_4 l0_4.length c0_4) := (blk_cell BK553.out 4).trans rfl; have hfz11_0 := blk_frozen BK553.out 0; have hfz11_1 := blk_frozen BK553.out 1; have hfz11_2 := blk_frozen BK553.out 2; have hfz11_3 := blk_frozen BK553.out 3; have hfz11_4 := blk_frozen BK553.out 4) | (go_at_call 56; (with_reducible refine (scansionref11_has.calls k1 _ _ l0_2 x8_1 t555 _ ?side1 ?side2 A10.out).mono ?_); (case side1 => repeat (first | exact (Kd.C_below HR0_2.out (by repeat (first | (with_reducible first | exact HB.out | apply below_alloc | apply pw_below_drewN | apply below_drew1 | refine below_set ?_ GE553.out) | exact HB.out))) | (with_reducible refine Kd.C_alloc ?_ _) | (with_reducible refine Kd.C_drewN ?_ _) | (with_reducible refine Kd.C_drew ?_))); (case side2 => exact HC0_2.out); rintro e w' ⟨rfl, ⟨nd, rfl⟩⟩; (try first | exact ⟨rfl, _, World.drewN_drewN _ _ _⟩ | exact ⟨rfl, _, Eq.trans (World.drewN_drewN _ _ _) (congrArg (World.drewN _) (Nat.add_assoc _ _ _))⟩)))
      repeat (go_quiet (first | (go_at_call 56; (with_reducible refine (scansionref11_has.calls k1 _ _ l1 0 true _ ?side1 ?side2 A8.out).mono ?_); (case side1 => repeat (first | exact (Kd.C_below HR1.out HB.out) | (with_reducible refine Kd.C_alloc ?_ _) | (with_reducible refine Kd.C_drewN ?_ _) | (with_reducible refine Kd.C_drew ?_))); (case side2 => exact HC1.out); rintro e w' ⟨rfl, ⟨nd, rfl⟩⟩; (try first | exact ⟨rfl, _, World.drewN_drewN _ _ _⟩ | exact ⟨rfl, _, Eq.trans (World.drewN_drewN _ _ _) (congrArg (World.drewN _) (Nat.add_assoc _ _ _))⟩); have hcz11_0 : wr.cell? ⟨gb553, 0, none⟩ = some (.bool a0_0) := (blk_cell BK553.out 0).trans rfl; have hcz11_1 : wr.cell? ⟨gb553, 1, none⟩ = some (.slice A0_1 l0_1.length c0_1) := (blk_cell BK553.out 1).trans rfl; have hcz11_2 : wr.cell? ⟨gb553, 2, none⟩ = some (.slice A0_2 l0_2.length c0_2) := (blk_cell BK553.out 2).trans rfl; have hcz11_3 : wr.cell? ⟨gb553, 3, none⟩ = some (.slice A0_3 l0_3.length c0_3) := (blk_cell BK553.out 3).trans rfl; have hcz11_4 : wr.cell? ⟨gb553, 4, none⟩ = some (.slice A0_4 l0_4.length c0_4) := (blk_cell BK553.out 4).trans rfl; have hfz11_0 := blk_frozen BK553.out 0; have hfz11_1 := blk_frozen BK553.out 1; have hfz11_2 := blk_frozen BK553.out 2; have hfz11_3 := blk_frozen BK553.out 3; have hfz11_4 := blk_frozen BK553.out 4) | (go_at_call 56; (with_reducible refine (scansionref11_has.calls k1 _ _ l0_2 x8_1 t555 _ ?side1 ?side2 A10.out).mono ?_); (case side1 => repeat (first | exact (Kd.C_below HR0_2.out (by repeat (first | (with_reducible first | exact HB.out | apply below_alloc | apply pw_below_drewN | apply below_drew1 | refine below_set ?_ GE553.out) | exact HB.out))) | (with_reducible refine Kd.C_alloc ?_ _) | (with_reducible refine Kd.C_drewN ?_ _) | (with_reducible refine Kd.C_drew ?_))); (case side2 => exact HC0_2.out); rintro e w' ⟨rfl, ⟨nd, rfl⟩⟩; (try first | exact ⟨rfl, _, World.drewN_drewN _ _ _⟩ | exact ⟨rfl, _, Eq.trans (World.drewN_drewN _ _ _) (congrArg (World.drewN _) (Nat.add_assoc _ _ _))⟩))); try go_wp2_with (first | (go_at_call 56; (with_reducible refine (scansionref11_has.calls k1 _ _ l1 0 true _ ?side1 ?side2 A8.out).mono ?_); (case side1 => repeat (first | exact (Kd.C_below HR1.out HB.out) | (with_reducible refine Kd.C_alloc ?_ _) | (with_reducible refine Kd.C_drewN ?_ _) | (with_reducible refine Kd.C_drew ?_))); (case side2 => exact HC1.out); rintro e w' ⟨rfl, ⟨nd, rfl⟩⟩; (try first | exact ⟨rfl, _, World.drewN_drewN _ _ _⟩ | exact ⟨rfl, _, Eq.trans (World.drewN_drewN _ _ _) (congrArg (World.drewN _) (Nat.add_assoc _ _ _))⟩); have hcz11_0 : wr.cell? ⟨gb553, 0, none⟩ = some (.bool a0_0) := (blk_cell BK553.out 0).trans rfl; have hcz11_1 : wr.cell? ⟨gb553, 1, none⟩ = some (.slice A0_1 l0_1.length c0_1) := (blk_cell BK553.out 1).trans rfl; have hcz11_2 : wr.cell? ⟨gb553, 2, none⟩ = some (.slice A0_2 l0_2.length c0_2) := (blk_cell BK553.out 2).trans rfl; have hcz11_3 : wr.cell? ⟨gb553, 3, none⟩ = some (.slice A0_3 l0_3.length c0_3) := (blk_cell BK553.out 3).trans rfl; have hcz11_4 : wr.cell? ⟨gb553, 4, none⟩ = some (.slice A0_4 l0_4.length c0_4) := (blk_cell BK553.out 4).trans rfl; have hfz11_0 := blk_frozen BK553.out 0; have hfz11_1 := blk_frozen BK553.out 1; have hfz11_2 := blk_frozen BK553.out 2; have hfz11_3 := blk_frozen BK553.out 3; have hfz11_4 := blk_frozen BK553.out 4) | (go_at_call 56; (with_reducible refine (scansionref11_has.calls k1 _ _ l0_2 x8_1 t555 _ ?side1 ?side2 A10.out).mono ?_); (case side1 => repeat (first | exact (Kd.C_below HR0_2.out (by repeat (first | (with_reducible first | exact HB.out | apply below_alloc | apply pw_below_drewN | apply below_drew1 | refine below_set ?_ GE553.out) | exact HB.out))) | (with_reducible refine Kd.C_alloc ?_ _) | (with_reducible refine Kd.C_drewN ?_ _) | (with_reducible refine Kd.C_drew ?_))); (case side2 => exact HC0_2.out); rintro e w' ⟨rfl, ⟨nd, rfl⟩⟩; (try first | exact ⟨rfl, _, World.drewN_drewN _ _ _⟩ | exact ⟨rfl, _, Eq.trans (World.drewN_drewN _ _ _) (congrArg (World.drewN _) (Nat.add_assoc _ _ _))⟩))))
      go_meet
      case rel => exact ⟨_, (t555), (by first | rfl | (simp; done) | (simp [*]; done)), H', ⟨by have := HK1.out; first | omega | exact Nat.le_refl _⟩, ⟨by (with_reducible repeat (first | apply Kd.R_alloc | apply Kd.R_drewN | apply Kd.R_drew)); exact HO_7.out⟩, ⟨by (with_reducible repeat (first | refine blk_drewN ?_ _ | refine blk_drew ?_ | refine blk_alloc ?_ _)); exact BK553.out⟩, ⟨by repeat (first | (with_reducible first | exact HB.out | apply below_alloc | apply pw_below_drewN | apply below_drew1 | refine below_set ?_ GE553.out) | exact HB.out)⟩⟩
     ·replace c9 := Bool.eq_false_iff.mpr c9
      subst c9
      have H1 : (scansionref11_Step.j1 k1 l1 a2 x7_1 x8_1 false a0_0 l0_1 l0_2 l0_3 l0_4) = some r := by rw [if_neg (show ¬ (false = true) by decide)] at H; exact H
      clear H
      have H := H1
      clear H1
      have H' := Aside0.mk H
      clear H
      go_wp2_with (first | (go_at_call 56; (with_reducible refine (scansionref11_has.calls k1 _ _ l1 0 false _ ?side1 ?side2 A8.out).mono ?_); (case side1 => repeat (first | exact (Kd.C_below HR1.out HB.out) | (with_reducible refine Kd.C_alloc ?_ _) | (with_reducible refine Kd.C_drewN ?_ _) | (with_reducible refine Kd.C_drew ?_))); (case side2 => exact HC1.out); rintro e w' ⟨rfl, ⟨nd, rfl⟩⟩; (try first | exact ⟨rfl, _, World.drewN_drewN _ _ _⟩ | exact ⟨rfl, _, Eq.trans (World.drewN_drewN _ _ _) (congrArg (World.drewN _) (Nat.add_assoc _ _ _))⟩)))
      repeat (go_quiet (first | (go_at_call 56; (with_reducible refine (scansionref11_has.calls k1 _ _ l1 0 false _ ?side1 ?side2 A8.out).mono ?_); (case side1 => repeat (first | exact (Kd.C_below HR1.out HB.out) | (with_reducible refine Kd.C_alloc ?_ _) | (with_reducible refine Kd.C_drewN ?_ _) | (with_reducible refine Kd.C_drew ?_))); (case side2 => exact HC1.out); rintro e w' ⟨rfl, ⟨nd, rfl⟩⟩; (try first | exact ⟨rfl, _, World.drewN_drewN _ _ _⟩ | exact ⟨rfl, _, Eq.trans (World.drewN_drewN _ _ _) (congrArg (World.drewN _) (Nat.add_assoc _ _ _))⟩))); try go_wp2_with (first | (go_at_call 56; (with_reducible refine (scansionref11_has.calls k1 _ _ l1 0 false _ ?side1 ?side2 A8.out).mono ?_); (case side1 => repeat (first | exact (Kd.C_below HR1.out HB.out) | (with_reducible refine Kd.C_alloc ?_ _) | (with_reducible refine Kd.C_drewN ?_ _) | (with_reducible refine Kd.C_drew ?_))); (case side2 => exact HC1.out); rintro e w' ⟨rfl, ⟨nd, rfl⟩⟩; (try first | exact ⟨rfl, _, World.drewN_drewN _ _ _⟩ | exact ⟨rfl, _, Eq.trans (World.drewN_drewN _ _ _) (congrArg (World.drewN _) (Nat.add_assoc _ _ _))⟩))))
      go_meet
      case rel => exact ⟨_, (false), (by first | rfl | (simp; done) | (simp [*]; done)), H', ⟨by have := HK1.out; first | omega | exact Nat.le_refl _⟩, ⟨by (with_reducible repeat (first | apply Kd.R_alloc | apply Kd.R_drewN | apply Kd.R_drew)); exact HO_7.out⟩, ⟨by (with_reducible repeat (first | refine blk_drewN ?_ _ | refine blk_drew ?_ | refine blk_alloc ?_ _)); exact BK553.out⟩, ⟨by repeat (first | (with_reducible first | exact HB.out | apply below_alloc | apply pw_below_drewN | apply below_drew1 | refine below_set ?_ GE553.out) | exact HB.out)⟩⟩
    case rest =>
     clear HC6
     try clear c1
     try clear c2
     try clear p2
     try clear c5
     try clear c5b0
     try clear c9
     try clear hcz11_0
     try clear hcz11_1
     try clear hcz11_2
     try clear hcz11_3
     try clear hcz11_4
     try clear hcz7_0
     try clear hcz7_1
     try clear hcz7_2
     try clear hcz7_3
     try clear hcz7_4
     try clear hfz11_0
     try clear hfz11_1
     try clear hfz11_2
     try clear hfz11_3
     try clear hfz11_4
     try clear hfz7_0
     try clear hfz7_1
     try clear hfz7_2
     try clear hfz7_3
     try clear hfz7_4
     try clear p2
     obtain ⟨kq, x9_5, rfl, HA, HJ5, HO_7, BK553, HB⟩ := hcut
     cases kq with
     | zero => exact absurd HA.out (by simp [scansionref11_Step.j1])
     | succ kj5 =>
      have H := HA.out
      clear HA
      simp only [scansionref11_Step.j1] at H
      have H' := Aside0.mk H
      clear H
      go_wp2
      repeat (go_quiet (fail); try go_wp2)
      go_loopg [9, 10] kj5 (fun kq v9 v10 w' => ∃ (x9_3 : Bool) (x10_3 : Int), v9 = .bool x9_3 ∧ v10 = .int .i64 x10_3 ∧ Aside0 (scansionref11_Step.l1 kq l1 a2 x7_1 x8_1 x9_3 x10_3 a0_0 l0_1 l0_2 l0_3 l0_4 = some r) ∧ Aside0 (kq ≤ kj5) ∧ Aside0 (Kd.R (Kd.int .i64) 3 w' w.heap.size (fun _ => True) u7 x7_1) ∧ Aside0 (w'.heap[gb553]? = some (.cells #[.bool a0_0, (.slice A0_1 l0_1.length c0_1), (.slice A0_2 l0_2.length c0_2), (.slice A0_3 l0_3.length c0_3), (.slice A0_4 l0_4.length c0_4)] 30 (0, 0))) ∧ Aside0 (Below w.heap.size w w'))
      case atStart => exact ⟨(x9_5), (0), (by first | rfl | (simp; done) | (simp [*]; done)), (by first | rfl | (simp; done) | (simp [*]; done)), H', ⟨Nat.le_refl _⟩, ⟨by (with_reducible repeat (first | apply Kd.R_alloc | apply Kd.R_drewN | apply Kd.R_drew)); exact HO_7.out⟩, ⟨by (with_reducible repeat (first | refine blk_drewN ?_ _ | refine blk_drew ?_ | refine blk_alloc ?_ _)); exact BK553.out⟩, ⟨by repeat (first | (with_reducible first | exact HB.out | apply below_alloc | apply pw_below_drewN | apply below_drew1 | refine below_set ?_ GE553.out) | exact HB.out)⟩⟩
      case round =>
       clear H'
       try clear c1
       try clear c2
       try clear p2
       try clear c5
       try clear c5b0
       try clear c9
       try clear hcz11_0
       try clear hcz11_1
       try clear hcz11_2
       try clear hcz11_3
       try clear hcz11_4
       try clear hcz7_0
       try clear hcz7_1
       try clear hcz7_2
       try clear hcz7_3
       try clear hcz7_4
       try clear hfz11_0
       try clear hfz11_1
       try clear hfz11_2
       try clear hfz11_3
       try clear hfz11_4
       try clear hfz7_0
       try clear hfz7_1
       try clear hfz7_2
       try clear hfz7_3
       try clear hfz7_4
       try clear p2
       obtain ⟨x9_3, x10_3, rfl, rfl, HA, HK3, HO_7, BK553, HB⟩ := hrel
       cases gk with
       | zero => exact absurd HA.out (by simp [scansionref11_Step.l1])
       | succ k3 =>
        have H := HA.out
        clear HA
        simp only [scansionref11_Step.l1] at H
        by_cases c12 : x10_3 < (l1.length : Int)
        ·rw [if_pos c12] at H
         have c12b0 : decide (x10_3 < (l1.length : Int)) = true := decide_eq_true c12
         clear c12
         by_cases c13 : x9_3 = true
         ·subst c13
          have H1 : (scansionref11_Step.l1 k3 l1 a2 x7_1 x8_1 true (wrap64 (x10_3 + 1)) a0_0 l0_1 l0_2 l0_3 l0_4) = some r := by rw [if_pos rfl] at H; exact H
          clear H
          have H := H1
          clear H1
          have H' := Aside0.mk H
          clear H
          go_wp2
          repeat (go_quiet (fail); try go_wp2)
          go_roundg k3
          case measure => have := HK1.out; have := HJ5.out; have := HK3.out; omega
          case rel => exact ⟨(true), (wrap64 (x10_3 + 1)), (by first | rfl | (simp; done) | (simp [*]; done)), (by first | rfl | (simp; done) | (simp [*]; done)), H', ⟨by have := HK1.out; have := HJ5.out; have := HK3.out; omega⟩, ⟨by (with_reducible repeat (first | apply Kd.R_alloc | apply Kd.R_drewN | apply Kd.R_drew)); exact HO_7.out⟩, ⟨by (with_reducible repeat (first | refine blk_drewN ?_ _ | refine blk_drew ?_ | refine blk_alloc ?_ _)); exact BK553.out⟩, ⟨by repeat (first | (with_reducible first | exact HB.out | apply below_alloc | apply pw_below_drewN | apply below_drew1 | refine below_set ?_ GE553.out) | exact HB.out)⟩⟩
         ·replace c13 := Bool.eq_false_iff.mpr c13
          subst c13
          have H1 : (if 0 ≤ x10_3 then (if (rd l1 x10_3) > 0 then (if 0 ≤ (wrap64 ((rd l1 x10_3) - 1)) then (if (wrap64 ((rd l1 x10_3) - 1)) < (l0_4.length : Int) then ((scansionref11_has.f k3 (rd_L3 l0_4 (wrap64 ((rd l1 x10_3) - 1))) x8_1).bind fun t559 => (scansionref11_Step.l1 k3 l1 a2 x7_1 x8_1 t559 (wrap64 (x10_3 + 1)) a0_0 l0_1 l0_2 l0_3 l0_4)) else (none)) else (none)) else (scansionref11_Step.l1 k3 l1 a2 x7_1 x8_1 false (wrap64 (x10_3 + 1)) a0_0 l0_1 l0_2 l0_3 l0_4)) else (none)) = some r := by rw [if_neg (show ¬ (false = true) by decide)] at H; exact H
          clear H
          have H := H1
          clear H1
          by_cases c14 : 0 ≤ x10_3
          ·rw [if_pos c14] at H
           have c14b0 : decide (0 ≤ x10_3) = true := decide_eq_true c14
           clear c14
           by_cases c15 : (rd l1 x10_3) > 0
           ·rw [if_pos c15] at H
            have c15b0 : decide (0 < (rd l1 x10_3)) = true := decide_eq_true c15
            clear c15
            obtain ⟨ji16, hji16⟩ : ∃ j_ : Int, (wrap64 ((rd l1 x10_3) - 1)) = j_ := ⟨_, rfl⟩
            replace H : (if 0 ≤ (ji16) then (if (ji16) < (l0_4.length : Int) then ((scansionref11_has.f k3 (rd_L3 l0_4 (ji16)) x8_1).bind fun t559 => (scansionref11_Step.l1 k3 l1 a2 x7_1 x8_1 t559 (wrap64 (x10_3 + 1)) a0_0 l0_1 l0_2 l0_3 l0_4)) else (none)) else (none)) = some r := by first | (rw [hji16] at H; exact H) | (simp only [hji16] at H ⊢; exact H)
            have hji16w : (IntKind.i64.wrap ((rd l1 x10_3) - 1)) = ji16 := (i64_w _).trans hji16
            by_cases c17 : 0 ≤ (ji16)
            ·rw [if_pos c17] at H
             have c17b0 : decide (0 ≤ (ji16)) = true := decide_eq_true c17
             clear c17
             by_cases c18 : (ji16) < (l0_4.length : Int)
             ·rw [if_pos c18] at H
              have c18b0 : decide ((ji16) < (l0_4.length : Int)) = true := decide_eq_true c18
              clear c18
              replace H := Option.bind_eq_some_iff.mp H
              obtain ⟨t559, A190, H⟩ := H
              replace H : (scansionref11_Step.l1 k3 l1 a2 x7_1 x8_1 t559 (wrap64 (x10_3 + 1)) a0_0 l0_1 l0_2 l0_3 l0_4) = some r := H
              have A19 := Aside0.mk A190
              clear A190
              have H' := Aside0.mk H
              clear H
              have p556 : 0 ≤ (x10_3 : Int) := of_decide_eq_true (by first | (with_reducible assumption) | assumption)
              have q556 : x10_3 < (l1.length : Int) := of_decide_eq_true (by first | (with_reducible assumption) | assumption)
              obtain ⟨ad556, e556, hx556_0⟩ := Kd.at_int HR1.out x10_3 p556 q556
              cases e556
              replace hx556_0 := (HB.out.cell (World.block_lt_of_cell? w _ hx556_0)).trans hx556_0
              replace p556 := eq_true p556
              replace q556 := eq_true q556
              have hcz20_0 : wr.cell? ⟨gb553, 0, none⟩ = some (.bool a0_0) := (blk_cell BK553.out 0).trans rfl
              have hcz20_1 : wr.cell? ⟨gb553, 1, none⟩ = some (.slice A0_1 l0_1.length c0_1) := (blk_cell BK553.out 1).trans rfl
              have hcz20_2 : wr.cell? ⟨gb553, 2, none⟩ = some (.slice A0_2 l0_2.length c0_2) := (blk_cell BK553.out 2).trans rfl
              have hcz20_3 : wr.cell? ⟨gb553, 3, none⟩ = some (.slice A0_3 l0_3.length c0_3) := (blk_cell BK553.out 3).trans rfl
              have hcz20_4 : wr.cell? ⟨gb553, 4, none⟩ = some (.slice A0_4 l0_4.length c0_4) := (blk_cell BK553.out 4).trans rfl
              have hfz20_0 := blk_frozen BK553.out 0
              have hfz20_1 := blk_frozen BK553.out 1
              have hfz20_2 := blk_frozen BK553.out 2
              have hfz20_3 := blk_frozen BK553.out 3
              have hfz20_4 := blk_frozen BK553.out 4
              have p557 : 0 ≤ (x10_3 : Int) := of_decide_eq_true (by first | (with_reducible assumption) | assumption)
              have q557 : x10_3 < (l1.length : Int) := of_decide_eq_true (by first | (with_reducible assumption) | assumption)
              obtain ⟨ad557, e557, hx557_0⟩ := Kd.at_int HR1.out x10_3 p557 q557
              obtain rfl : ad556 = ad557 := (by injection e557)
              replace hx557_0 := (HB.out.cell (World.block_lt_of_cell? w _ hx557_0)).trans hx557_0
              replace p557 := eq_true p557
              replace q557 := eq_true q557
              have p558 : 0 ≤ ((ji16) : Int) := of_decide_eq_true (by first | (with_reducible assumption) | assumption)
              have q558 : (ji16) < (l0_4.length : Int) := of_decide_eq_true (by first | (with_reducible assumption) | assumption)
              obtain ⟨ad558, A558_0, c558_0, e558, hx558_0, hl558_0, hi558_0⟩ := at_L3 HR0_4.out (ji16) p558 q558
              cases e558
              replace hx558_0 := (HB.out.cell (World.block_lt_of_cell? w _ hx558_0)).trans hx558_0
              have HR558_0 := Aside0.mk hi558_0
              have HC558_0 := Aside0.mk hl558_0
              clear hi558_0 hl558_0
              replace p558 := eq_true p558
              replace q558 := eq_true q558
              go_wp2_with (first | (go_at_call 56; (with_reducible refine (scansionref11_has.calls k3 _ _ (rd_L3 l0_4 (ji16)) x8_1 t559 _ ?side1 ?side2 A19.out).mono ?_); (case side1 => repeat (first | exact (Kd.C_below HR558_0.out HB.out) | (with_reducible refine Kd.C_alloc ?_ _) | (with_reducible refine Kd.C_drewN ?_ _) | (with_reducible refine Kd.C_drew ?_))); (case side2 => exact HC558_0.out); rintro e w' ⟨rfl, ⟨nd, rfl⟩⟩; (try first | exact ⟨rfl, _, World.drewN_drewN _ _ _⟩ | exact ⟨rfl, _, Eq.trans (World.drewN_drewN _ _ _) (congrArg (World.drewN _) (Nat.add_assoc _ _ _))⟩)))
              repeat (go_quiet (first | (go_at_call 56; (with_reducible refine (scansionref11_has.calls k3 _ _ (rd_L3 l0_4 (ji16)) x8_1 t559 _ ?side1 ?side2 A19.out).mono ?_); (case side1 => repeat (first | exact (Kd.C_below HR558_0.out HB.out) | (with_reducible refine Kd.C_alloc ?_ _) | (with_reducible refine Kd.C_drewN ?_ _) | (with_reducible refine Kd.C_drew ?_))); (case side2 => exact HC558_0.out); rintro e w' ⟨rfl, ⟨nd, rfl⟩⟩; (try first | exact ⟨rfl, _, World.drewN_drewN _ _ _⟩ | exact ⟨rfl, _, Eq.trans (World.drewN_drewN _ _ _) (congrArg (World.drewN _) (Nat.add_assoc _ _ _))⟩))); try go_wp2_with (first | (go_at_call 56; (with_reducible refine (scansionref11_has.calls k3 _ _ (rd_L3 l0_4 (ji16)) x8_1 t559 _ ?side1 ?side2 A19.out).mono ?_); (case side1 => repeat (first | exact (Kd.C_below HR558_0.out HB.out) | (with_reducible refine Kd.C_alloc ?_ _) | (with_reducible refine Kd.C_drewN ?_ _) | (with_reducible refine Kd.C_drew ?_))); (case side2 => exact HC558_0.out); rintro e w' ⟨rfl, ⟨nd, rfl⟩⟩; (try first | exact ⟨rfl, _, World.drewN_drewN _ _ _⟩ | exact ⟨rfl, _, Eq.trans (World.drewN_drewN _ _ _) (congrArg (World.drewN _) (Nat.add_assoc _ _ _))⟩))))
              go_roundg k3
              case measure => have := HK1.out; have := HJ5.out; have := HK3.out; omega
              case rel => exact ⟨(t559), (wrap64 (x10_3 + 1)), (by first | rfl | (simp; done) | (simp [*]; done)), (by first | rfl | (simp; done) | (simp [*]; done)), H', ⟨by have := HK1.out; have := HJ5.out; have := HK3.out; omega⟩, ⟨by (with_reducible repeat (first | apply Kd.R_alloc | apply Kd.R_drewN | apply Kd.R_drew)); exact HO_7.out⟩, ⟨by (with_reducible repeat (first | refine blk_drewN ?_ _ | refine blk_drew ?_ | refine blk_alloc ?_ _)); exact BK553.out⟩, ⟨by repeat (first | (with_reducible first | exact HB.out | apply below_alloc | apply pw_below_drewN | apply below_drew1 | refine below_set ?_ GE553.out) | exact HB.out)⟩⟩
             ·rw [if_neg c18] at H
              exact absurd H (by simp)
            ·rw [if_neg c17] at H
             exact absurd H (by simp)
           ·rw [if_neg c15] at H
            have c15b0 : decide (0 < (rd l1 x10_3)) = false := decide_eq_false c15
            clear c15
            have H' := Aside0.mk H
            clear H
            have p556 : 0 ≤ (x10_3 : Int) := of_decide_eq_true (by first | (with_reducible assumption) | assumption)
            have q556 : x10_3 < (l1.length : Int) := of_decide_eq_true (by first | (with_reducible assumption) | assumption)
            obtain ⟨ad556, e556, hx556_0⟩ := Kd.at_int HR1.out x10_3 p556 q556
            cases e556
            replace hx556_0 := (HB.out.cell (World.block_lt_of_cell? w _ hx556_0)).trans hx556_0
            replace p556 := eq_true p556
            replace q556 := eq_true q556
            go_wp2
            repeat (go_quiet (fail); try go_wp2)
            go_roundg k3
            case measure => have := HK1.out; have := HJ5.out; have := HK3.out; omega
            case rel => exact ⟨(false), (wrap64 (x10_3 + 1)), (by first | rfl | (simp; done) | (simp [*]; done)), (by first | rfl | (simp; done) | (simp [*]; done)), H', ⟨by have := HK1.out; have := HJ5.out; have := HK3.out; omega⟩, ⟨by (with_reducible repeat (first | apply Kd.R_alloc | apply Kd.R_drewN | apply Kd.R_drew)); exact HO_7.out⟩, ⟨by (with_reducible repeat (first | refine blk_drewN ?_ _ | refine blk_drew ?_ | refine blk_alloc ?_ _)); exact BK553.out⟩, ⟨by repeat (first | (with_reducible first | exact HB.out | apply below_alloc | apply pw_below_drewN | apply below_drew1 | refine below_set ?_ GE553.out) | exact HB.out)⟩⟩
          ·rw [if_neg c14] at H
           exact absurd H (by simp)
        ·rw [if_neg c12] at H
         have c12b0 : decide (x10_3 < (l1.length : Int)) = false := decide_eq_false c12
         clear c12
         by_cases c21 : x9_3 = true
         ·subst c21
          have H1 : (if 0 ≤ (wrap64 (x8_1 - 1)) then (if (wrap64 (x8_1 - 1)) < (l0_1.length : Int) then (if 0 ≤ (IntKind.u64.wrap (rd l0_1 (wrap64 (x8_1 - 1)))) then (if (Go.bits .and .u64 (shr .u64 a2 (IntKind.u64.wrap (rd l0_1 (wrap64 (x8_1 - 1))))) 1) = 1 then (if x7_1.length < 17592186044416 then (scansionref11_Step.l0 k3 l1 a2 (x7_1 ++ [x8_1]) (wrap64 (x8_1 + 1)) a0_0 l0_1 l0_2 l0_3 l0_4) else (none)) else (scansionref11_Step.l0 k3 l1 a2 x7_1 (wrap64 (x8_1 + 1)) a0_0 l0_1 l0_2 l0_3 l0_4)) else (none)) else (none)) else (none)) = some r := by rw [if_pos rfl] at H; exact H
          clear H
          have H := H1
          clear H1
          obtain ⟨ji22, hji22⟩ : ∃ j_ : Int, (wrap64 (x8_1 - 1)) = j_ := ⟨_, rfl⟩
          replace H : (if 0 ≤ (ji22) then (if (ji22) < (l0_1.length : Int) then (if 0 ≤ (IntKind.u64.wrap (rd l0_1 (ji22))) then (if (Go.bits .and .u64 (shr .u64 a2 (IntKind.u64.wrap (rd l0_1 (ji22)))) 1) = 1 then (if x7_1.length < 17592186044416 then (scansionref11_Step.l0 k3 l1 a2 (x7_1 ++ [x8_1]) (wrap64 (x8_1 + 1)) a0_0 l0_1 l0_2 l0_3 l0_4) else (none)) else (scansionref11_Step.l0 k3 l1 a2 x7_1 (wrap64 (x8_1 + 1)) a0_0 l0_1 l0_2 l0_3 l0_4)) else (none)) else (none)) else (none)) = some r := by first | (rw [hji22] at H; exact H) | (simp only [hji22] at H ⊢; exact H)
          have hji22w : (IntKind.i64.wrap (x8_1 - 1)) = ji22 := (i64_w _).trans hji22
          by_cases c23 : 0 ≤ (ji22)
          ·rw [if_pos c23] at H
           have c23b0 : decide (0 ≤ (ji22)) = true := decide_eq_true c23
           clear c23
           by_cases c24 : (ji22) < (l0_1.length : Int)
           ·rw [if_pos c24] at H
            have c24b0 : decide ((ji22) < (l0_1.length : Int)) = true := decide_eq_true c24
            clear c24
            obtain ⟨ji25, hji25⟩ : ∃ j_ : Int, (IntKind.u64.wrap (rd l0_1 (ji22))) = j_ := ⟨_, rfl⟩
            replace H : (if 0 ≤ (ji25) then (if (Go.bits .and .u64 (shr .u64 a2 (ji25)) 1) = 1 then (if x7_1.length < 17592186044416 then (scansionref11_Step.l0 k3 l1 a2 (x7_1 ++ [x8_1]) (wrap64 (x8_1 + 1)) a0_0 l0_1 l0_2 l0_3 l0_4) else (none)) else (scansionref11_Step.l0 k3 l1 a2 x7_1 (wrap64 (x8_1 + 1)) a0_0 l0_1 l0_2 l0_3 l0_4)) else (none)) = some r := by first | (rw [hji25] at H; exact H) | (simp only [hji25] at H ⊢; exact H)
            by_cases c26 : 0 ≤ (ji25)
            ·rw [if_pos c26] at H
             have c26b0 := eq_true c26
             have c26b1 : decide (0 ≤ (ji25)) = true := decide_eq_true c26
             clear c26
             obtain ⟨ji27, hji27⟩ : ∃ j_ : Int, (shr .u64 a2 (ji25)) = j_ := ⟨_, rfl⟩
             replace H : (if (Go.bits .and .u64 (ji27) 1) = 1 then (if x7_1.length < 17592186044416 then (scansionref11_Step.l0 k3 l1 a2 (x7_1 ++ [x8_1]) (wrap64 (x8_1 + 1)) a0_0 l0_1 l0_2 l0_3 l0_4) else (none)) else (scansionref11_Step.l0 k3 l1 a2 x7_1 (wrap64 (x8_1 + 1)) a0_0 l0_1 l0_2 l0_3 l0_4)) = some r := by first | (rw [hji27] at H; exact H) | (simp only [hji27] at H ⊢; exact H)
             have hji27_ : (a2 / 2 ^ min (ji25).toNat 64) = ji27 := hji27
             have hji27z : (ji25) ≤ 64 → (a2 / 2 ^ (ji25).toNat) = ji27 := shr_small hji27
             by_cases c28 : (Go.bits .and .u64 (ji27) 1) = 1
             ·rw [if_pos c28] at H
              have c28b0 : ((Go.bits .and .u64 (ji27) 1) == 1) = true := beq_iff_eq.mpr c28
              have c28b1 : ((Go.bits .and .u64 (ji27) 1) != 1) = false := bne_eq_false_iff_eq.mpr c28
              clear c28
              by_cases c29 : x7_1.length < 17592186044416
              ·rw [if_pos c29] at H
               have LMc29 := Aside0.mk c29
               clear c29
               obtain ⟨y561, hy561⟩ : ∃ y_ : List Int, y_ = (x7_1 ++ [x8_1]) := ⟨_, rfl⟩
               replace H : (scansionref11_Step.l0 k3 l1 a2 y561 (wrap64 (x8_1 + 1)) a0_0 l0_1 l0_2 l0_3 l0_4) = some r := by first | (rw [hy561]; with_reducible exact H) | (have H2_ := (Option.bind_some _ _).symm.trans H; rw [hy561]; with_reducible exact H2_) | (have H2_ := (Option.bind_some _ _).symm.trans H; with_reducible exact H2_) | with_reducible exact H | (rw [hy561]; exact H) | exact H
               have Ny561 := Aside0.mk hy561
               clear hy561
               have H' := Aside0.mk H
               clear H
               have hcz30_0 : wr.cell? ⟨gb553, 0, none⟩ = some (.bool a0_0) := (blk_cell BK553.out 0).trans rfl
               have hcz30_1 : wr.cell? ⟨gb553, 1, none⟩ = some (.slice A0_1 l0_1.length c0_1) := (blk_cell BK553.out 1).trans rfl
               have hcz30_2 : wr.cell? ⟨gb553, 2, none⟩ = some (.slice A0_2 l0_2.length c0_2) := (blk_cell BK553.out 2).trans rfl
               have hcz30_3 : wr.cell? ⟨gb553, 3, none⟩ = some (.slice A0_3 l0_3.length c0_3) := (blk_cell BK553.out 3).trans rfl
               have hcz30_4 : wr.cell? ⟨gb553, 4, none⟩ = some (.slice A0_4 l0_4.length c0_4) := (blk_cell BK553.out 4).trans rfl
               have hfz30_0 := blk_frozen BK553.out 0
               have hfz30_1 := blk_frozen BK553.out 1
               have hfz30_2 := blk_frozen BK553.out 2
               have hfz30_3 := blk_frozen BK553.out 3
               have hfz30_4 := blk_frozen BK553.out 4
               have p560 : 0 ≤ ((ji22) : Int) := of_decide_eq_true (by first | (with_reducible assumption) | assumption)
               have q560 : (ji22) < (l0_1.length : Int) := of_decide_eq_true (by first | (with_reducible assumption) | assumption)
               obtain ⟨ad560, e560, hx560_0⟩ := Kd.at_int HR0_1.out (ji22) p560 q560
               cases e560
               replace hx560_0 := (HB.out.cell (World.block_lt_of_cell? w _ hx560_0)).trans hx560_0
               replace p560 := eq_true p560
               replace q560 := eq_true q560
               go_wp2_with (first | ((with_reducible refine gate_builtin (b := .append) (xs := #[.tmp 67, .tmp 69]) rfl ?_); at_builtin; refine Kd.R_append (Kd.int .i64) (w0 := w) w.heap.size rfl (.tmp 67) (.tmp 69) 27 3 (.int .i64 0) 8 rfl Try.underlying27 info3 rfl (by decide) (by omega) u7 x7_1 x8_1 [.int .i64 x8_1] (fun _ => True) (fun _ => False) rfl rfl ?aP (fun _ hk => hk.elim) ?aF ?aO ?aB ?aS ?aL ?_; (case aP => exact rfl); (case aB => exact (by repeat (first | (with_reducible first | exact HB.out | apply below_alloc | apply pw_below_drewN | apply below_drew1 | refine below_set ?_ GE553.out) | exact HB.out))); (case aF => exact (fun _ _ => trivial)); (case aO => exact (by (with_reducible repeat (first | apply Kd.R_alloc | apply Kd.R_drewN | apply Kd.R_drew)); exact HO_7.out)); (case aS => exact (below_size (by repeat (first | (with_reducible first | exact HB.out | apply below_alloc | apply pw_below_drewN | apply below_drew1 | refine below_set ?_ GE553.out) | exact HB.out)))); (case aL => have := LMc29.out; omega); intro v562 w31 ho hb hg hat; rw [← Ny561.out] at ho; have n0_ := Aside0.mk (blk_grown (g := gb553) (o := .cells #[.bool a0_0, .slice (some ad560) l0_1.length c0_1, .slice A0_2 l0_2.length c0_2, .slice A0_3 l0_3.length c0_3, .slice A0_4 l0_4.length c0_4] 30 (0, 0)) (by (with_reducible repeat (first | refine blk_drewN ?_ _ | refine blk_drew ?_ | refine blk_alloc ?_ _)); exact BK553.out) hg (Kd.R_ne HO_7.out BK553.out (by decide))); have n1_ := Aside0.mk (hb); have n2_ := Aside0.mk (ho); clear BK553; clear HB; clear HO_7; have BK553 := n0_; have HB := n1_; have HO563 := n2_; clear n0_ n1_ n2_; clear ho hb hg hat))
               repeat (go_quiet (first | ((with_reducible refine gate_builtin (b := .append) (xs := #[.tmp 67, .tmp 69]) rfl ?_); at_builtin; refine Kd.R_append (Kd.int .i64) (w0 := w) w.heap.size rfl (.tmp 67) (.tmp 69) 27 3 (.int .i64 0) 8 rfl Try.underlying27 info3 rfl (by decide) (by omega) u7 x7_1 x8_1 [.int .i64 x8_1] (fun _ => True) (fun _ => False) rfl rfl ?aP (fun _ hk => hk.elim) ?aF ?aO ?aB ?aS ?aL ?_; (case aP => exact rfl); (case aB => exact (by repeat (first | (with_reducible first | exact HB.out | apply below_alloc | apply pw_below_drewN | apply below_drew1 | refine below_set ?_ GE553.out) | exact HB.out))); (case aF => exact (fun _ _ => trivial)); (case aO => exact (by (with_reducible repeat (first | apply Kd.R_alloc | apply Kd.R_drewN | apply Kd.R_drew)); exact HO_7.out)); (case aS => exact (below_size (by repeat (first | (with_reducible first | exact HB.out | apply below_alloc | apply pw_below_drewN | apply below_drew1 | refine below_set ?_ GE553.out) | exact HB.out)))); (case aL => have := LMc29.out; omega); intro v562 w31 ho hb hg hat; rw [← Ny561.out] at ho; have n0_ := Aside0.mk (blk_grown (g := gb553) (o := .cells #[.bool a0_0, .slice (some ad560) l0_1.length c0_1, .slice A0_2 l0_2.length c0_2, .slice A0_3 l0_3.length c0_3, .slice A0_4 l0_4.length c0_4] 30 (0, 0)) (by (with_reducible repeat (first | refine blk_drewN ?_ _ | refine blk_drew ?_ | refine blk_alloc ?_ _)); exact BK553.out) hg (Kd.R_ne HO_7.out BK553.out (by decide))); have n1_ := Aside0.mk (hb); have n2_ := Aside0.mk (ho); clear BK553; clear HB; clear HO_7; have BK553 := n0_; have HB := n1_; have HO563 := n2_; clear n0_ n1_ n2_; clear ho hb hg hat)); try go_wp2_with (first | ((with_reducible refine gate_builtin (b := .append) (xs := #[.tmp 67, .tmp 69]) rfl ?_); at_builtin; refine Kd.R_append (Kd.int .i64) (w0 := w) w.heap.size rfl (.tmp 67) (.tmp 69) 27 3 (.int .i64 0) 8 rfl Try.underlying27 info3 rfl (by decide) (by omega) u7 x7_1 x8_1 [.int .i64 x8_1] (fun _ => True) (fun _ => False) rfl rfl ?aP (fun _ hk => hk.elim) ?aF ?aO ?aB ?aS ?aL ?_; (case aP => exact rfl); (case aB => exact (by repeat (first | (with_reducible first | exact HB.out | apply below_alloc | apply pw_below_drewN | apply below_drew1 | refine below_set ?_ GE553.out) | exact HB.out))); (case aF => exact (fun _ _ => trivial)); (case aO => exact (by (with_reducible repeat (first | apply Kd.R_alloc | apply Kd.R_drewN | apply Kd.R_drew)); exact HO_7.out)); (case aS => exact (below_size (by repeat (first | (with_reducible first | exact HB.out | apply below_alloc | apply pw_below_drewN | apply below_drew1 | refine below_set ?_ GE553.out) | exact HB.out)))); (case aL => have := LMc29.out; omega); intro v562 w31 ho hb hg hat; rw [← Ny561.out] at ho; have n0_ := Aside0.mk (blk_grown (g := gb553) (o := .cells #[.bool a0_0, .slice (some ad560) l0_1.length c0_1, .slice A0_2 l0_2.length c0_2, .slice A0_3 l0_3.length c0_3, .slice A0_4 l0_4.length c0_4] 30 (0, 0)) (by (with_reducible repeat (first | refine blk_drewN ?_ _ | refine blk_drew ?_ | refine blk_alloc ?_ _)); exact BK553.out) hg (Kd.R_ne HO_7.out BK553.out (by decide))); have n1_ := Aside0.mk (hb); have n2_ := Aside0.mk (ho); clear BK553; clear HB; clear HO_7; have BK553 := n0_; have HB := n1_; have HO563 := n2_; clear n0_ n1_ n2_; clear ho hb hg hat)))
               go_roundg k3
               case measure => have := HK1.out; have := HJ5.out; have := HK3.out; omega
               case rel => exact ⟨(y561), (wrap64 (x8_1 + 1)), (by first | rfl | (simp; done) | (simp [*]; done)), H', ⟨by have := HK1.out; have := HJ5.out; have := HK3.out; omega⟩, ⟨by (with_reducible repeat (first | apply Kd.R_alloc | apply Kd.R_drewN | apply Kd.R_drew)); exact HO563.out⟩, ⟨by (with_reducible repeat (first | refine blk_drewN ?_ _ | refine blk_drew ?_ | refine blk_alloc ?_ _)); exact BK553.out⟩, ⟨by repeat (first | (with_reducible first | exact HB.out | apply below_alloc | apply pw_below_drewN | apply below_drew1 | refine below_set ?_ GE553.out) | exact HB.out)⟩⟩
              ·rw [if_neg c29] at H
               exact absurd H (by simp)
             ·rw [if_neg c28] at H
              have c28b0 : ((Go.bits .and .u64 (ji27) 1) == 1) = false := beq_eq_false_iff_ne.mpr c28
              have c28b1 : ((Go.bits .and .u64 (ji27) 1) != 1) = true := bne_iff_ne.mpr c28
              have H' := Aside0.mk H
              clear H
              have hcz32_0 : wr.cell? ⟨gb553, 0, none⟩ = some (.bool a0_0) := (blk_cell BK553.out 0).trans rfl
              have hcz32_1 : wr.cell? ⟨gb553, 1, none⟩ = some (.slice A0_1 l0_1.length c0_1) := (blk_cell BK553.out 1).trans rfl
              have hcz32_2 : wr.cell? ⟨gb553, 2, none⟩ = some (.slice A0_2 l0_2.length c0_2) := (blk_cell BK553.out 2).trans rfl
              have hcz32_3 : wr.cell? ⟨gb553, 3, none⟩ = some (.slice A0_3 l0_3.length c0_3) := (blk_cell BK553.out 3).trans rfl
              have hcz32_4 : wr.cell? ⟨gb553, 4, none⟩ = some (.slice A0_4 l0_4.length c0_4) := (blk_cell BK553.out 4).trans rfl
              have hfz32_0 := blk_frozen BK553.out 0
              have hfz32_1 := blk_frozen BK553.out 1
              have hfz32_2 := blk_frozen BK553.out 2
              have hfz32_3 := blk_frozen BK553.out 3
              have hfz32_4 := blk_frozen BK553.out 4
              have p560 : 0 ≤ ((ji22) : Int) := of_decide_eq_true (by first | (with_reducible assumption) | assumption)
              have q560 : (ji22) < (l0_1.length : Int) := of_decide_eq_true (by first | (with_reducible assumption) | assumption)
              obtain ⟨ad560, e560, hx560_0⟩ := Kd.at_int HR0_1.out (ji22) p560 q560
              cases e560
              replace hx560_0 := (HB.out.cell (World.block_lt_of_cell? w _ hx560_0)).trans hx560_0
              replace p560 := eq_true p560
              replace q560 := eq_true q560
              go_wp2
              repeat (go_quiet (fail); try go_wp2)
              go_roundg k3
              case measure => have := HK1.out; have := HJ5.out; have := HK3.out; omega
              case rel => exact ⟨(x7_1), (wrap64 (x8_1 + 1)), (by first | rfl | (simp; done) | (simp [*]; done)), H', ⟨by have := HK1.out; have := HJ5.out; have := HK3.out; omega⟩, ⟨by (with_reducible repeat (first | apply Kd.R_alloc | apply Kd.R_drewN | apply Kd.R_drew)); exact HO_7.out⟩, ⟨by (with_reducible repeat (first | refine blk_drewN ?_ _ | refine blk_drew ?_ | refine blk_alloc ?_ _)); exact BK553.out⟩, ⟨by repeat (first | (with_reducible first | exact HB.out | apply below_alloc | apply pw_below_drewN | apply below_drew1 | refine below_set ?_ GE553.out) | exact HB.out)⟩⟩
            ·rw [if_neg c26] at H
             exact absurd H (by simp)
           ·rw [if_neg c24] at H
            exact absurd H (by simp)
          ·rw [if_neg c23] at H
           exact absurd H (by simp)
         ·replace c21 := Bool.eq_false_iff.mpr c21
          subst c21
          have H1 : (scansionref11_Step.l0 k3 l1 a2 x7_1 (wrap64 (x8_1 + 1)) a0_0 l0_1 l0_2 l0_3 l0_4) = some r := by rw [if_neg (show ¬ (false = true) by decide)] at H; exact H
          clear H
          have H := H1
          clear H1
          have H' := Aside0.mk H
          clear H
          go_wp2
          repeat (go_quiet (fail); try go_wp2)
          go_roundg k3
          case measure => have := HK1.out; have := HJ5.out; have := HK3.out; omega
          case rel => exact ⟨(x7_1), (wrap64 (x8_1 + 1)), (by first | rfl | (simp; done) | (simp [*]; done)), H', ⟨by have := HK1.out; have := HJ5.out; have := HK3.out; omega⟩, ⟨by (with_reducible repeat (first | apply Kd.R_alloc | apply Kd.R_drewN | apply Kd.R_drew)); exact HO_7.out⟩, ⟨by (with_reducible repeat (first | refine blk_drewN ?_ _ | refine blk_drew ?_ | refine blk_alloc ?_ _)); exact BK553.out⟩, ⟨by repeat (first | (with_reducible first | exact HB.out | apply below_alloc | apply pw_below_drewN | apply below_drew1 | refine below_set ?_ GE553.out) | exact HB.out)⟩⟩
   ·rw [if_neg c5] at H
    have c5b0 : decide (x8_1 ≤ (l0_1.length : Int)) = false := decide_eq_false c5
    clear c5
    obtain rfl := Option.some.inj H
    have hcz33_0 : wr.cell? ⟨gb553, 0, none⟩ = some (.bool a0_0) := (blk_cell BK553.out 0).trans rfl
    have hcz33_1 : wr.cell? ⟨gb553, 1, none⟩ = some (.slice A0_1 l0_1.length c0_1) := (blk_cell BK553.out 1).trans rfl
    have hcz33_2 : wr.cell? ⟨gb553, 2, none⟩ = some (.slice A0_2 l0_2.length c0_2) := (blk_cell BK553.out 2).trans rfl
    have hcz33_3 : wr.cell? ⟨gb553, 3, none⟩ = some (.slice A0_3 l0_3.length c0_3) := (blk_cell BK553.out 3).trans rfl
    have hcz33_4 : wr.cell? ⟨gb553, 4, none⟩ = some (.slice A0_4 l0_4.length c0_4) := (blk_cell BK553.out 4).trans rfl
    have hfz33_0 := blk_frozen BK553.out 0
    have hfz33_1 := blk_frozen BK553.out 1
    have hfz33_2 := blk_frozen BK553.out 2
    have hfz33_3 := blk_frozen BK553.out 3
    have hfz33_4 := blk_frozen BK553.out 4
    go_wp2
    repeat (go_quiet (fail); try go_wp2)
    go_ret
    exact ⟨_, by first | rfl | (simp [errW_none, errW_some] <;> rfl) | (simp [*, errW_none, errW_some] <;> rfl), by (with_reducible repeat (first | apply Kd.R_alloc | apply Kd.R_drewN | apply Kd.R_drew)); exact HO_7.out, by repeat (first | (with_reducible first | exact HB.out | apply below_alloc | apply pw_below_drewN | apply below_drew1 | refine below_set ?_ GE553.out) | exact HB.out)⟩

end Go.Proofs.Ytemlgmkbonpniaa.Print
