-- Written by a program of this session (wip/sp.py) out of the translation.
import Derived.Test.YtckpjppbkfcaaaaPrint0
import Derived.Test.YtckpjppbkfcaaaaPrint12
import Derived.Test.YtckpjppbkfcaaaaPrint13
namespace Go.Proofs.Ytckpjppbkfcaaaa.Print
open Go.RowKit Go.Proofs.YtckpjppbkfcaaaaW.PrintWords Go.Proofs.YtckpjppbkfcaaaaW.PrintLast Go.Proofs.YtckpjppbkfcaaaaW.PrintMore
attribute [local go_sem] max2_int min2_int max_two min_two max_three min_three max_four min_four   -- for this text's walks alone
set_option linter.unusedVariables false
set_option linter.unusedSimpArgs false

theorem qA {w W : World} (h : Below w.heap.size w W) (o : Obj) : Below w.heap.size w (W.alloc o) := below_alloc h o
theorem qN {B : Nat} {w W : World} (h : Below B w W) (m : Nat) : Below B w (W.drewN m) := pw_below_drewN h m
theorem q1 {base : Nat} {w W : World} (h : Below base w W) : Below base w W.drew := below_drew1 h
theorem qS {w W : World} {g j : Nat} {v : Value} (h : Below w.heap.size w W) (hg : w.heap.size ≤ g) : Below w.heap.size w (W.setCell ⟨g, j, none⟩ v) := below_set h hg

/-! ### scansionlaw19_CoverMore: function 6 -/
noncomputable def scansionlaw19_CoverMore.j0 : Nat → Int → List (S36) → Bool → Bool → Int → Int → Int → Option (Bool)
 | 0, _, _, _, _, _, _, _ => none
 | k + 1, x0, x1, x7, x32, x231000, x231001, x231002 => if x32 = true then (some x7) else ((cover_Best.f x0 x1 7 1099511627776).bind fun bt232 => ((some (([] : List (S36)) : List (S36))).bind fun y237 => (if y237.length + x1.length < 5864062014805 then ((some (y237 ++ x1 : List (S36))).bind fun y240 => ((some (([(⟨x231000, x231001, x231002⟩ : S36)] : List (S36)) : List (S36))).bind fun y243 => (if y240.length + y243.length < 5864062014805 then ((cover_Best.f x0 (y240 ++ y243) 7 1099511627776).bind fun bt249 => ((cover_Best.f x0 x1 9 1099511627776).bind fun bt254 => (if bt232.2.2 = 0 then (if bt254.2.2 = 0 then (if bt254.2.1 ≥ bt232.2.1 then (if bt249.2.2 = 0 then (if bt249.2.1 ≤ bt232.2.1 then (some true) else (some (x231001 == (wrap64 (x231000 + 1))))) else (some true)) else (some false)) else (some false)) else (if bt249.2.2 = 0 then (some false) else (some (bt254.2.2 != 0)))))) else (none)))) else (none))))
noncomputable def scansionlaw19_CoverMore.f (k : Nat) (a0 : Int) (l1 : List (S36)) (a2_0 : Int) (a2_1 : Int) (a2_2 : Int) : Option (Bool) := (scansionlaw19_awake.f).bind fun t231 => (if t231 = true then (if (l1.length : Int) > 200 then (scansionlaw19_CoverMore.j0 k a0 l1 t231 true a2_0 a2_1 a2_2) else (if a0 < 0 then (scansionlaw19_CoverMore.j0 k a0 l1 t231 true a2_0 a2_1 a2_2) else (scansionlaw19_CoverMore.j0 k a0 l1 t231 (decide (a0 > 120)) a2_0 a2_1 a2_2))) else (scansionlaw19_CoverMore.j0 k a0 l1 t231 true a2_0 a2_1 a2_2))
theorem scansionlaw19_CoverMore.mono_l : ∀ k, (∀ y0 y1 y2 y3 y4 y5 y6, LeO (scansionlaw19_CoverMore.j0 k y0 y1 y2 y3 y4 y5 y6) (scansionlaw19_CoverMore.j0 (k + 1) y0 y1 y2 y3 y4 y5 y6))
 | 0 => fun _ _ _ _ _ _ _ r h => by simp [scansionlaw19_CoverMore.j0] at h
 | k + 1 => by
  have ih0 := scansionlaw19_CoverMore.mono_l k
  ·intro y0 y1 y2 y3 y4 y5 y6
   unfold scansionlaw19_CoverMore.j0
   repeat' first
   | (with_reducible exact ih0 _ _ _ _ _ _ _)
   | (with_reducible exact LeO.refl _)
   | (with_reducible exact LeO.none _)
   | (with_reducible refine LeO.ite ?_ ?_)
   | (with_reducible refine LeO.bind ?_ (fun _ => ?_))
   | exact ih0 _ _ _ _ _ _ _
   | exact LeO.none _
   | refine LeO.ite ?_ ?_
   | refine LeO.bind ?_ (fun _ => ?_)
theorem scansionlaw19_CoverMore.mono : ∀ a0 a1 a2 a3 a4 k, LeO (scansionlaw19_CoverMore.f k a0 a1 a2 a3 a4) (scansionlaw19_CoverMore.f (k + 1) a0 a1 a2 a3 a4) := by
 intro a0 a1 a2 a3 a4 k
 have ih0 := scansionlaw19_CoverMore.mono_l k
 unfold scansionlaw19_CoverMore.f
 repeat' first
   | (with_reducible exact ih0 _ _ _ _ _ _ _)
   | (with_reducible exact LeO.refl _)
   | (with_reducible exact LeO.none _)
   | (with_reducible refine LeO.ite ?_ ?_)
   | (with_reducible refine LeO.bind ?_ (fun _ => ?_))
   | exact ih0 _ _ _ _ _ _ _
   | exact LeO.none _
   | refine LeO.ite ?_ ?_
   | refine LeO.bind ?_ (fun _ => ?_)
noncomputable def scansionlaw19_CoverMore.T5 : Bool × List (List Nat × List Nat) := (true, [([], []), ([], []), ([], []), ([1, 2], [1, 2]), ([], []), ([4], [4]), ([3, 5, 3], [3, 5]), ([0, 6, 6], [0, 6]), ([7], [7]), ([8], [8]), ([8], [8]), ([8], [8]), ([9, 7, 0, 1, 2, 3, 4, 5, 6, 7, 8, 9], [9]), ([10, 12, 0, 1, 2, 3, 4, 5, 6, 7, 8, 9, 10, 12], [10]), ([11, 13, 0, 1, 2, 3, 4, 5, 6, 7, 8, 9, 10, 11, 12, 13], [11])])
noncomputable def scansionlaw19_CoverMore.B5 : List Nat := [0, 0, 0, 6, 0, 16, 62, 127, 255, 511, 511, 511, 1023, 6143, 16383]
theorem scansionlaw19_CoverMore.tab5 : rtab .any (opsOf Try.f6 5) = scansionlaw19_CoverMore.T5 := by kernel_rfl
theorem scansionlaw19_CoverMore.bits5 : waitsOk scansionlaw19_CoverMore.T5.2 scansionlaw19_CoverMore.B5 = true := by kernel_rfl
theorem qH {W : World} {g : Nat} {a b c : Value} (h : W.heap[g]? = some (.cells #[a, b, c] 36 (0, 0))) : W.cell? ⟨g, 0, none⟩ = some a ∧ W.cell? ⟨g, 1, none⟩ = some b ∧ W.cell? ⟨g, 2, none⟩ = some c := ⟨(blk_cell h 0).trans rfl, (blk_cell h 1).trans rfl, (blk_cell h 2).trans rfl⟩
theorem qT {α : Type} {l : List α} {i : Nat} {x : α} : l.toArray.setIfInBounds i x = (l.set i x).toArray := List.setIfInBounds_toArray ..
theorem qZ {α : Type} {x b : α} {l : List α} : (x :: l).set 0 b = b :: l := List.set_cons_zero ..
theorem qC {α : Type} {x b : α} {l : List α} {i : Nat} : (x :: l).set (i + 1) b = x :: l.set i b := List.set_cons_succ ..
set_option maxHeartbeats 8000000 in
set_option maxRecDepth 100000 in
theorem scansionlaw19_CoverMore.calls (k : Nat) (a0 : Int) (A1 : Option Addr) (c1 : Nat) (l1 : List (S36)) (a2_0 : Int) (a2_1 : Int) (a2_2 : Int) (r : Bool) (w : World) (hr1 : Kd.C k36 w A1 l1.length l1) (hc1 : l1.length ≤ c1) (h : scansionlaw19_CoverMore.f k a0 l1 a2_0 a2_1 a2_2 = some r) :
  Calls Try.prog 6 #[.int .i64 a0, .slice A1 l1.length c1, .agg #[.int .i64 a2_0, .int .i64 a2_1, .int .i64 a2_2]] w fun e w' => e = .returned (.bool r) ∧ Below w.heap.size w w' := by
 have hu36 := Try.underlying36
 have HR1 := Aside0.mk hr1
 have HC1 := Aside0.mk hc1
 clear hr1 hc1
 have HB := Aside0.mk (Below.refl w.heap.size w)
 have H : ((scansionlaw19_awake.f).bind fun t231 => (if t231 = true then (if (l1.length : Int) > 200 then (scansionlaw19_CoverMore.j0 k a0 l1 t231 true a2_0 a2_1 a2_2) else (if a0 < 0 then (scansionlaw19_CoverMore.j0 k a0 l1 t231 true a2_0 a2_1 a2_2) else (scansionlaw19_CoverMore.j0 k a0 l1 t231 (decide (a0 > 120)) a2_0 a2_1 a2_2))) else (scansionlaw19_CoverMore.j0 k a0 l1 t231 true a2_0 a2_1 a2_2))) = some r := h
 clear h
 replace H := Option.bind_eq_some_iff.mp H
 obtain ⟨t231, A40, H⟩ := H
 replace H : (if t231 = true then (if (l1.length : Int) > 200 then (scansionlaw19_CoverMore.j0 k a0 l1 t231 true a2_0 a2_1 a2_2) else (if a0 < 0 then (scansionlaw19_CoverMore.j0 k a0 l1 t231 true a2_0 a2_1 a2_2) else (scansionlaw19_CoverMore.j0 k a0 l1 t231 (decide (a0 > 120)) a2_0 a2_1 a2_2))) else (scansionlaw19_CoverMore.j0 k a0 l1 t231 true a2_0 a2_1 a2_2)) = some r := H
 have A4 := Aside0.mk A40
 clear A40
 have HC5 := Aside0.mk H
 clear H
 go_enter Try.func6, Try.ntmps6
 go_upto_region 2 with (first | ((with_reducible refine gate_dst (N := 5) rfl ?_); (try (refine gate_guard (by rfl) ?_; dsimp only)); refine box_event ?hg (N := 5) ?hd (cs := #[.int .i64 a2_0, .int .i64 a2_1, .int .i64 a2_2]) (t := 36) ?hr ?_; (case hd => rfl); (case hg => rfl); (case hr => first | (go_simp; done) | (go_simp; rfl)); intro gb hg w6 hbox hb; have n0_ := Aside0.mk (below_step (by repeat (first | (with_reducible first | exact HB.out | apply qA | apply qN | apply q1) | exact HB.out)) hb); have n1_ := Aside0.mk (hbox); have n2_ := Aside0.mk ((by rw [hg]; exact (below_size (by repeat (first | (with_reducible first | exact HB.out | apply qA | apply qN | apply q1) | exact HB.out))) : w.heap.size ≤ gb)); have n3_ := Aside0.mk ((by rw [hg]; exact (below_size (by repeat (first | (with_reducible first | exact HB.out | apply qA | apply qN | apply q1) | exact HB.out))) : w.heap.size ≤ gb)); clear HB; have HB := n0_; have BK := n1_; have GW230 := n2_; have GE := n3_; clear n0_ n1_ n2_ n3_; clear hb hbox hg) | ((with_reducible refine gate_callee (f := 9) rfl ?_); refine goesL_ (some 17) rfl rfl Try.func9 (by kernel_rfl) rfl #[] rfl (by (try simp only [List.map_toArray, List.map_cons, List.map_nil]); first | done | rfl | (simp only [List.length_drop, List.length_take]; rfl)) ?_; (with_reducible refine (scansionlaw19_awake.calls  t231 _ A4.out).mono ?_); rintro e w7 ⟨rfl, hb⟩; refine ⟨_, rfl, ?_⟩; have n0_ := Aside0.mk (blk_below (g := gb) (o := .cells #[.int .i64 a2_0, .int .i64 a2_1, .int .i64 a2_2] 36 (0, 0)) (by (with_reducible repeat (first | refine blk_drewN ?_ _ | refine blk_drew ?_ | refine blk_alloc ?_ _)); exact BK.out) hb); have n1_ := Aside0.mk (below_step (by repeat (first | (with_reducible first | exact HB.out | apply qA | apply qN | apply q1 | refine qS ?_ GE.out) | exact HB.out)) hb); clear BK; clear HB; have BK := n0_; have HB := n1_; clear n0_ n1_; (try clear hb); (try clear hb2); (try clear hk); (try clear hi)))
 (try simp only [Act.put, List.setIfInBounds_toArray, List.set_cons_zero, List.set_cons_succ])
 go_cut [32] (fun v32 wc => ∃ (kq : Nat) (x32_4 : Bool), v32 = .bool x32_4 ∧ Aside0 (scansionlaw19_CoverMore.j0 kq a0 l1 t231 x32_4 a2_0 a2_1 a2_2 = some r) ∧ Aside0 (kq ≤ k) ∧ Aside0 (wc.heap[gb]? = some (.cells #[.int .i64 a2_0, .int .i64 a2_1, .int .i64 a2_2] 36 (0, 0))) ∧ Aside0 (Below w.heap.size w wc))
 case first =>
  have H := HC5.out
  clear HC5
  by_cases c8 : t231 = true
  ·subst c8
   have H1 : (if (l1.length : Int) > 200 then (scansionlaw19_CoverMore.j0 k a0 l1 true true a2_0 a2_1 a2_2) else (if a0 < 0 then (scansionlaw19_CoverMore.j0 k a0 l1 true true a2_0 a2_1 a2_2) else (scansionlaw19_CoverMore.j0 k a0 l1 true (decide (a0 > 120)) a2_0 a2_1 a2_2))) = some r := by rw [if_pos rfl] at H; exact H
   clear H
   have H := H1
   clear H1
   by_cases c9 : (l1.length : Int) > 200
   ·rw [if_pos c9] at H
    have c9b0 : decide (200 < (l1.length : Int)) = true := decide_eq_true c9
    have c9b1 : decide (200 < l1.length) = true := decide_eq_true (by omega)
    clear c9
    (first | rw [c9b0] | (simp only [i64_w, i32_w]; rw [c9b0]) | skip)
    have H' := Aside0.mk H
    clear H
    go_wp2
    go_meet
    case rel => exact ⟨_, (true), (by first | rfl | (simp; done) | (simp [*]; done)), H', ⟨by first | omega | exact Nat.le_refl _⟩, ⟨by (with_reducible repeat (first | refine blk_drewN ?_ _ | refine blk_drew ?_ | refine blk_alloc ?_ _)); exact BK.out⟩, ⟨by repeat (first | (with_reducible first | exact HB.out | apply qA | apply qN | apply q1 | refine qS ?_ GE.out) | exact HB.out)⟩⟩
   ·rw [if_neg c9] at H
    have c9b0 : decide (200 < (l1.length : Int)) = false := decide_eq_false c9
    have c9b1 : decide (200 < l1.length) = false := decide_eq_false (by omega)
    clear c9
    (first | rw [c9b0] | (simp only [i64_w, i32_w]; rw [c9b0]) | skip)
    by_cases c10 : a0 < 0
    ·rw [if_pos c10] at H
     have c10b0 : decide (a0 < 0) = true := decide_eq_true c10
     clear c10
     have H' := Aside0.mk H
     clear H
     go_wp2
     go_meet
     case rel => exact ⟨_, (true), (by first | rfl | (simp; done) | (simp [*]; done)), H', ⟨by first | omega | exact Nat.le_refl _⟩, ⟨by (with_reducible repeat (first | refine blk_drewN ?_ _ | refine blk_drew ?_ | refine blk_alloc ?_ _)); exact BK.out⟩, ⟨by repeat (first | (with_reducible first | exact HB.out | apply qA | apply qN | apply q1 | refine qS ?_ GE.out) | exact HB.out)⟩⟩
    ·rw [if_neg c10] at H
     have c10b0 : decide (a0 < 0) = false := decide_eq_false c10
     clear c10
     have H' := Aside0.mk H
     clear H
     go_wp2
     go_meet
     case rel => exact ⟨_, (decide (a0 > 120)), (by first | rfl | (simp; done) | (simp [*]; done)), H', ⟨by first | omega | exact Nat.le_refl _⟩, ⟨by (with_reducible repeat (first | refine blk_drewN ?_ _ | refine blk_drew ?_ | refine blk_alloc ?_ _)); exact BK.out⟩, ⟨by repeat (first | (with_reducible first | exact HB.out | apply qA | apply qN | apply q1 | refine qS ?_ GE.out) | exact HB.out)⟩⟩
  ·replace c8 := Bool.eq_false_iff.mpr c8
   subst c8
   have H1 : (scansionlaw19_CoverMore.j0 k a0 l1 false true a2_0 a2_1 a2_2) = some r := by rw [if_neg (show ¬ (false = true) by decide)] at H; exact H
   clear H
   have H := H1
   clear H1
   have H' := Aside0.mk H
   clear H
   go_wp2
   go_meet
   case rel => exact ⟨_, (true), (by first | rfl | (simp; done) | (simp [*]; done)), H', ⟨by first | omega | exact Nat.le_refl _⟩, ⟨by (with_reducible repeat (first | refine blk_drewN ?_ _ | refine blk_drew ?_ | refine blk_alloc ?_ _)); exact BK.out⟩, ⟨by repeat (first | (with_reducible first | exact HB.out | apply qA | apply qN | apply q1 | refine qS ?_ GE.out) | exact HB.out)⟩⟩
 case rest =>
  clear HC5
  try clear c1
  try clear p2
  try clear c6
  try clear c8
  try clear c9
  try clear c9b0
  try clear c9b1
  try clear c10
  try clear c10b0
  obtain ⟨kq, x32_4, rfl, HA, HJ4, BK, HB⟩ := hcut
  cases kq with
  | zero => exact absurd HA.out (by simp [scansionlaw19_CoverMore.j0])
  | succ kj4 =>
   have H := HA.out
   clear HA
   simp only [scansionlaw19_CoverMore.j0] at H
   by_cases c11 : x32_4 = true
   ·subst c11
    have H1 : (some t231) = some r := by rw [if_pos rfl] at H; exact H
    clear H
    have H := H1
    clear H1
    obtain rfl := Option.some.inj H
    go_wp2
    go_ret
    exact ⟨by first | rfl | (simp [errW_none, errW_some] <;> rfl) | (simp [*, errW_none, errW_some] <;> rfl), by repeat (first | (with_reducible first | exact HB.out | apply qA | apply qN | apply q1 | refine qS ?_ GE.out) | exact HB.out)⟩
   ·replace c11 := Bool.eq_false_iff.mpr c11
    subst c11
    have H1 : ((cover_Best.f a0 l1 7 1099511627776).bind fun bt232 => ((some (([] : List (S36)) : List (S36))).bind fun y237 => (if y237.length + l1.length < 5864062014805 then ((some (y237 ++ l1 : List (S36))).bind fun y240 => ((some (([(⟨a2_0, a2_1, a2_2⟩ : S36)] : List (S36)) : List (S36))).bind fun y243 => (if y240.length + y243.length < 5864062014805 then ((cover_Best.f a0 (y240 ++ y243) 7 1099511627776).bind fun bt249 => ((cover_Best.f a0 l1 9 1099511627776).bind fun bt254 => (if bt232.2.2 = 0 then (if bt254.2.2 = 0 then (if bt254.2.1 ≥ bt232.2.1 then (if bt249.2.2 = 0 then (if bt249.2.1 ≤ bt232.2.1 then (some true) else (some (a2_1 == (wrap64 (a2_0 + 1))))) else (some true)) else (some false)) else (some false)) else (if bt249.2.2 = 0 then (some false) else (some (bt254.2.2 != 0)))))) else (none)))) else (none)))) = some r := by rw [if_neg (show ¬ (false = true) by decide)] at H; exact H
    clear H
    have H := H1
    clear H1
    replace H := Option.bind_eq_some_iff.mp H
    obtain ⟨⟨t232, t233, t234⟩, A120, H⟩ := H
    replace H : ((some (([] : List (S36)) : List (S36))).bind fun y237 => (if y237.length + l1.length < 5864062014805 then ((some (y237 ++ l1 : List (S36))).bind fun y240 => ((some (([(⟨a2_0, a2_1, a2_2⟩ : S36)] : List (S36)) : List (S36))).bind fun y243 => (if y240.length + y243.length < 5864062014805 then ((cover_Best.f a0 (y240 ++ y243) 7 1099511627776).bind fun bt249 => ((cover_Best.f a0 l1 9 1099511627776).bind fun bt254 => (if t234 = 0 then (if bt254.2.2 = 0 then (if bt254.2.1 ≥ t233 then (if bt249.2.2 = 0 then (if bt249.2.1 ≤ t233 then (some true) else (some (a2_1 == (wrap64 (a2_0 + 1))))) else (some true)) else (some false)) else (some false)) else (if bt249.2.2 = 0 then (some false) else (some (bt254.2.2 != 0)))))) else (none)))) else (none))) = some r := H
    have A12 := Aside0.mk A120
    clear A120
    obtain ⟨y237, hy237⟩ : ∃ y_ : List (S36), y_ = (([] : List (S36))) := ⟨_, rfl⟩
    replace H : (if y237.length + l1.length < 5864062014805 then ((some (y237 ++ l1 : List (S36))).bind fun y240 => ((some (([(⟨a2_0, a2_1, a2_2⟩ : S36)] : List (S36)) : List (S36))).bind fun y243 => (if y240.length + y243.length < 5864062014805 then ((cover_Best.f a0 (y240 ++ y243) 7 1099511627776).bind fun bt249 => ((cover_Best.f a0 l1 9 1099511627776).bind fun bt254 => (if t234 = 0 then (if bt254.2.2 = 0 then (if bt254.2.1 ≥ t233 then (if bt249.2.2 = 0 then (if bt249.2.1 ≤ t233 then (some true) else (some (a2_1 == (wrap64 (a2_0 + 1))))) else (some true)) else (some false)) else (some false)) else (if bt249.2.2 = 0 then (some false) else (some (bt254.2.2 != 0)))))) else (none)))) else (none)) = some r := by first | (rw [hy237]; with_reducible exact H) | (have H2_ := (Option.bind_some _ _).symm.trans H; rw [hy237]; with_reducible exact H2_) | (have H2_ := (Option.bind_some _ _).symm.trans H; with_reducible exact H2_) | with_reducible exact H | (rw [hy237]; exact H) | exact H
    have Ny237 := Aside0.mk hy237
    clear hy237
    by_cases c13 : y237.length + l1.length < 5864062014805
    ·rw [if_pos c13] at H
     have LMc13 := Aside0.mk c13
     clear c13
     obtain ⟨y240, hy240⟩ : ∃ y_ : List (S36), y_ = (y237 ++ l1) := ⟨_, rfl⟩
     replace H : ((some (([(⟨a2_0, a2_1, a2_2⟩ : S36)] : List (S36)) : List (S36))).bind fun y243 => (if y240.length + y243.length < 5864062014805 then ((cover_Best.f a0 (y240 ++ y243) 7 1099511627776).bind fun bt249 => ((cover_Best.f a0 l1 9 1099511627776).bind fun bt254 => (if t234 = 0 then (if bt254.2.2 = 0 then (if bt254.2.1 ≥ t233 then (if bt249.2.2 = 0 then (if bt249.2.1 ≤ t233 then (some true) else (some (a2_1 == (wrap64 (a2_0 + 1))))) else (some true)) else (some false)) else (some false)) else (if bt249.2.2 = 0 then (some false) else (some (bt254.2.2 != 0)))))) else (none))) = some r := by first | (rw [hy240]; with_reducible exact H) | (have H2_ := (Option.bind_some _ _).symm.trans H; rw [hy240]; with_reducible exact H2_) | (have H2_ := (Option.bind_some _ _).symm.trans H; with_reducible exact H2_) | with_reducible exact H | (rw [hy240]; exact H) | exact H
     have Ny240 := Aside0.mk hy240
     clear hy240
     obtain ⟨y243, hy243⟩ : ∃ y_ : List (S36), y_ = (([(⟨a2_0, a2_1, a2_2⟩ : S36)] : List (S36))) := ⟨_, rfl⟩
     replace H : (if y240.length + y243.length < 5864062014805 then ((cover_Best.f a0 (y240 ++ y243) 7 1099511627776).bind fun bt249 => ((cover_Best.f a0 l1 9 1099511627776).bind fun bt254 => (if t234 = 0 then (if bt254.2.2 = 0 then (if bt254.2.1 ≥ t233 then (if bt249.2.2 = 0 then (if bt249.2.1 ≤ t233 then (some true) else (some (a2_1 == (wrap64 (a2_0 + 1))))) else (some true)) else (some false)) else (some false)) else (if bt249.2.2 = 0 then (some false) else (some (bt254.2.2 != 0)))))) else (none)) = some r := by first | (rw [hy243]; with_reducible exact H) | (have H2_ := (Option.bind_some _ _).symm.trans H; rw [hy243]; with_reducible exact H2_) | (have H2_ := (Option.bind_some _ _).symm.trans H; with_reducible exact H2_) | with_reducible exact H | (rw [hy243]; exact H) | exact H
     have Ny243 := Aside0.mk hy243
     clear hy243
     by_cases c14 : y240.length + y243.length < 5864062014805
     ·rw [if_pos c14] at H
      have LMc14 := Aside0.mk c14
      clear c14
      obtain ⟨y246, hy246⟩ : ∃ y_ : List (S36), y_ = (y240 ++ y243) := ⟨_, rfl⟩
      replace H : ((cover_Best.f a0 y246 7 1099511627776).bind fun bt249 => ((cover_Best.f a0 l1 9 1099511627776).bind fun bt254 => (if t234 = 0 then (if bt254.2.2 = 0 then (if bt254.2.1 ≥ t233 then (if bt249.2.2 = 0 then (if bt249.2.1 ≤ t233 then (some true) else (some (a2_1 == (wrap64 (a2_0 + 1))))) else (some true)) else (some false)) else (some false)) else (if bt249.2.2 = 0 then (some false) else (some (bt254.2.2 != 0)))))) = some r := by first | (rw [hy246]; with_reducible exact H) | (have H2_ := (Option.bind_some _ _).symm.trans H; rw [hy246]; with_reducible exact H2_) | (have H2_ := (Option.bind_some _ _).symm.trans H; with_reducible exact H2_) | with_reducible exact H | (rw [hy246]; exact H) | exact H
      have Ny246 := Aside0.mk hy246
      clear hy246
      replace H := Option.bind_eq_some_iff.mp H
      obtain ⟨⟨t249, t250, t251⟩, A150, H⟩ := H
      replace H : ((cover_Best.f a0 l1 9 1099511627776).bind fun bt254 => (if t234 = 0 then (if bt254.2.2 = 0 then (if bt254.2.1 ≥ t233 then (if t251 = 0 then (if t250 ≤ t233 then (some true) else (some (a2_1 == (wrap64 (a2_0 + 1))))) else (some true)) else (some false)) else (some false)) else (if t251 = 0 then (some false) else (some (bt254.2.2 != 0))))) = some r := H
      have A15 := Aside0.mk A150
      clear A150
      replace H := Option.bind_eq_some_iff.mp H
      obtain ⟨⟨t254, t255, t256⟩, A160, H⟩ := H
      replace H : (if t234 = 0 then (if t256 = 0 then (if t255 ≥ t233 then (if t251 = 0 then (if t250 ≤ t233 then (some true) else (some (a2_1 == (wrap64 (a2_0 + 1))))) else (some true)) else (some false)) else (some false)) else (if t251 = 0 then (some false) else (some (t256 != 0)))) = some r := H
      have A16 := Aside0.mk A160
      clear A160
      by_cases c17 : t234 = 0
      ·rw [if_pos c17] at H
       have c17b0 : (t234 == 0) = true := beq_iff_eq.mpr c17
       have c17b1 : (t234 != 0) = false := bne_eq_false_iff_eq.mpr c17
       clear c17
       by_cases c18 : t256 = 0
       ·rw [if_pos c18] at H
        have c18b0 : (t256 == 0) = true := beq_iff_eq.mpr c18
        have c18b1 : (t256 != 0) = false := bne_eq_false_iff_eq.mpr c18
        clear c18
        by_cases c19 : t255 ≥ t233
        ·rw [if_pos c19] at H
         have c19b0 : decide (t233 ≤ t255) = true := decide_eq_true c19
         clear c19
         by_cases c20 : t251 = 0
         ·rw [if_pos c20] at H
          have c20b0 : (t251 == 0) = true := beq_iff_eq.mpr c20
          have c20b1 : (t251 != 0) = false := bne_eq_false_iff_eq.mpr c20
          clear c20
          by_cases c21 : t250 ≤ t233
          ·rw [if_pos c21] at H
           have c21b0 : decide (t250 ≤ t233) = true := decide_eq_true c21
           clear c21
           obtain rfl := Option.some.inj H
           try go_wp2_with (first | ((with_reducible refine gate_callee (f := 10) rfl ?_); refine goesL_ (some 37) rfl rfl Try.func10 (by kernel_rfl) rfl #[.int .i64 a0, .slice A1 l1.length c1, .int .i64 7, .int .i64 1099511627776] rfl (by (try simp only [List.map_toArray, List.map_cons, List.map_nil]); first | done | rfl | (simp only [List.length_drop, List.length_take]; rfl)) ?_; (with_reducible refine (cover_Best.calls a0 _ _ l1 7 1099511627776 t232 t233 t234 _ ?side1 ?side2 A12.out).mono ?_); (case side1 => repeat (first | exact (Kd.C_below HR1.out HB.out) | (with_reducible refine Kd.C_alloc ?_ _) | (with_reducible refine Kd.C_drewN ?_ _) | (with_reducible refine Kd.C_drew ?_))); (case side2 => exact HC1.out); rintro e w22 ⟨v235, rfl, ho0, hb⟩; refine ⟨_, rfl, ?_⟩; have n0_ := Aside0.mk (Kd.R_lower ho0 (below_size (by repeat (first | (with_reducible first | exact HB.out | apply qA | apply qN | apply q1 | refine qS ?_ GE.out) | exact HB.out)))); have n1_ := Aside0.mk (blk_below (g := gb) (o := .cells #[.int .i64 a2_0, .int .i64 a2_1, .int .i64 a2_2] 36 (0, 0)) (by (with_reducible repeat (first | refine blk_drewN ?_ _ | refine blk_drew ?_ | refine blk_alloc ?_ _)); exact BK.out) hb); have n2_ := Aside0.mk (below_step (by repeat (first | (with_reducible first | exact HB.out | apply qA | apply qN | apply q1 | refine qS ?_ GE.out) | exact HB.out)) hb); clear BK; clear HB; have HP := n0_; have BK := n1_; have HB := n2_; clear n0_ n1_ n2_; (try clear hb); (try clear hb2); (try clear hk); (try clear hi); (try clear ho0)))
           have n0_ := Aside0.mk (Kd.R_drew HP.out)
           have n1_ := Aside0.mk (blk_drew BK.out)
           have n2_ := Aside0.mk (below_drew1 HB.out)
           clear HP
           clear BK
           clear HB
           have HP := n0_
           have BK := n1_
           have HB := n2_
           clear n0_ n1_ n2_
           refine start_ (n := 15) (S := fun w' => w'.cell? ⟨gb, 0, none⟩ = some (.int .i64 a2_0) ∧ w'.cell? ⟨gb, 1, none⟩ = some (.int .i64 a2_1) ∧ w'.cell? ⟨gb, 2, none⟩ = some (.int .i64 a2_2)) (ds := []) #[false, false, false, false, false, false, false, false, false, false, false, false, false, false, false] (by kernel_rfl) rfl rfl (qH BK.out) (fun hHeld => ?_); refine with_tabW scansionlaw19_CoverMore.tab5 scansionlaw19_CoverMore.bits5 (fun HT_ HW_ => ?_)
           generalize w22.drew = w23 at HP BK HB hHeld ⊢
           refine pure_ (i := 0) (N := some 42) (v := ?_) (a' := ?_) #[true, false, false, false, false, false, false, false, false, false, false, false, false, false, false] rfl rfl (any_of HT_.out (by kernel_rfl)) (fun _ _ _ h => h) (Or.inl ⟨by rfl, ?_⟩) ?_ ?_
           rotate_left
           ·intro w'
            go_simp
            with_reducible rfl
           rotate_left
           ·simp only [Act.put, qT, qZ, qC, i64_w, i32_w]
            rfl
           refine pure_ (i := 2) (N := some 44) (v := ?_) (a' := ?_) #[true, false, true, false, false, false, false, false, false, false, false, false, false, false, false] rfl rfl (any_of HT_.out (by kernel_rfl)) (fun _ _ _ h => h) (Or.inl ⟨by rfl, ?_⟩) ?_ ?_
           rotate_left
           ·intro w'
            go_simp
            with_reducible rfl
           rotate_left
           ·simp only [Act.put, qT, qZ, qC, i64_w, i32_w]
            rfl
           refine take_ (i := 4) (N := some 46) (v := ?_) (a' := ?_) #[true, false, true, false, true, false, false, false, false, false, false, false, false, false, false] rfl rfl (take_ofW HT_.out HW_.out (by kernel_rfl)) (fun _ _ _ h => h) (Or.inl ⟨by rfl, ?_⟩) hHeld ?_ ?_
           rotate_left
           ·rintro w' ⟨s0, s1, s2⟩
            go_simp
            with_reducible rfl
           rotate_left
           ·simp only [Act.put, qT, qZ, qC, i64_w, i32_w]
            rfl
           refine join_ (σ := Value × Value × Value) 9 #[true, true, true, true, true, true, false, false, false, false, false, false, false, false, false] (fun s_ => [(43, s_.1), (45, s_.2.1), (47, s_.2.2)]) (fun s_ w' => (w'.cell? ⟨gb, 0, none⟩ = some (.int .i64 a2_0) ∧ w'.cell? ⟨gb, 1, none⟩ = some (.int .i64 a2_1) ∧ w'.cell? ⟨gb, 2, none⟩ = some (.int .i64 a2_2)) ∧ (Kd.R (Kd.int .i64) 3 w' w.heap.size (fun _ => True) v235 t232) ∧ (Kd.R k36 36 w' w.heap.size (fun k_ => some k_ ≠ (s_.2.2 : Value).ownBlock ∧ k_ ≠ gb) s_.2.1 y240) ∧ (Kd.R k36 36 w' w.heap.size (fun k_ => some k_ ≠ (s_.2.1 : Value).ownBlock ∧ k_ ≠ gb) s_.2.2 y243) ∧ (w'.heap[gb]? = some (.cells #[.int .i64 a2_0, .int .i64 a2_1, .int .i64 a2_2] 36 (0, 0))) ∧ (Below w.heap.size w w')) ?_ ?_
           rotate_left
           ·intro hCont
            refine two_ (i := 1) (j := 5) (Ni := some 43) (Nj := some 47) #[true, true, true, false, true, false, false, false, false, false, false, false, false, false, false] #[true, false, true, false, true, true, false, false, false, false, false, false, false, false, false] rfl rfl rfl rfl (two_of HT_.out (by kernel_rfl)) (by decide) (by decide) (fun K hK => ?_) (fun K hK => ?_)
            ·skip
             refine Kd.R_lit_step k36 _ 36 ?hg (N := 43) ?hd (xs := ([] : List (S36))) (inner := []) (ok := fun _ => True) (okp := fun _ => True) ?hr ?hp (fun _ hk => hk) trivial (Below.refl _ _) (Nat.le_refl _) (by simp) ?_; (case hd => rfl); (case hg => rfl); (case hr => first | (go_simp; done) | (go_simp; rfl)); (case hp => exact (Reps.none _ _))
             intro v238 w24 ho25 hb hg_ hnew_
             clear hg_ hnew_
             (first | rw [← Ny237.out] at ho25 | (simp only [Int.reduceToNat] at ho25; rw [← Ny237.out] at ho25))
             have n0_ := Aside0.mk (Kd.R_below HP.out hb)
             have n1_ := Aside0.mk (Kd.R_lower (Kd.R_newB ho25 (g := gb) (o := .cells #[.int .i64 a2_0, .int .i64 a2_1, .int .i64 a2_2] 36 (0, 0)) (by (with_reducible repeat (first | refine blk_drewN ?_ _ | refine blk_drew ?_ | refine blk_alloc ?_ _)); exact BK.out)) (below_size (by repeat (first | (with_reducible first | exact HB.out | apply qA | apply qN | apply q1 | refine qS ?_ GE.out) | exact HB.out))))
             have n2_ := Aside0.mk (blk_below (g := gb) (o := .cells #[.int .i64 a2_0, .int .i64 a2_1, .int .i64 a2_2] 36 (0, 0)) (by (with_reducible repeat (first | refine blk_drewN ?_ _ | refine blk_drew ?_ | refine blk_alloc ?_ _)); exact BK.out) hb)
             have n3_ := Aside0.mk (below_step (by repeat (first | (with_reducible first | exact HB.out | apply qA | apply qN | apply q1 | refine qS ?_ GE.out) | exact HB.out)) hb)
             clear HP
             clear BK
             clear HB
             have HP := n0_
             have HO239 := n1_
             have BK := n2_
             have HB := n3_
             clear n0_ n1_ n2_ n3_
             clear hb ho25
             refine hK.out _ _ (qH BK.out) (fun hHeld => ?_)
             clear hK K
             refine norm_ (a' := ?_) ?_ ?_
             rotate_left
             ·show Act.put _ (some 43) _ = _
              simp only [Act.put, qT, qZ, qC, i64_w, i32_w]
              rfl
             refine two_ (i := 3) (j := 5) (Ni := some 45) (Nj := some 47) #[true, true, true, true, true, false, false, false, false, false, false, false, false, false, false] #[true, true, true, false, true, true, false, false, false, false, false, false, false, false, false] rfl rfl rfl rfl (two_of HT_.out (by kernel_rfl)) (by decide) (by decide) (fun K hK => ?_) (fun K hK => ?_)
             ·skip
              refine Kd.R_append_rows_step k36 (w0 := w) w.heap.size (by rfl) (.tmp 43) (.tmp 44) 22 36 (.agg #[(.int .i64 0), (.int .i64 0), (.int .i64 0)]) 24 rfl Try.underlying22 info36 rfl (by decide) (by omega) v238 y237 l1 _ _ _ (fun k_ => k_ ≠ gb) (fun _ => False) rfl rfl ?aO ?aR (fun _ _ h => h) (fun _ h => h.elim) ?aF ?aB ?aS ?aL ?_
              (case aR => repeat (first | exact (Kd.C_below HR1.out HB.out) | (with_reducible refine Kd.C_alloc ?_ _) | (with_reducible refine Kd.C_drewN ?_ _) | (with_reducible refine Kd.C_drew ?_)))
              (case aB => exact (by repeat (first | (with_reducible first | exact HB.out | apply qA | apply qN | apply q1 | refine qS ?_ GE.out) | exact HB.out)))
              (case aF => exact (fun k_ hk => Kd.freshB (g := gb) (o := .cells #[.int .i64 a2_0, .int .i64 a2_1, .int .i64 a2_2] 36 (0, 0)) (by (with_reducible repeat (first | refine blk_drewN ?_ _ | refine blk_drew ?_ | refine blk_alloc ?_ _)); exact BK.out) k_ hk))
              (case aO => exact (Kd.R_mono HO239.out (fun _ hk => hk.2)))
              (case aS => exact (below_size (by repeat (first | (with_reducible first | exact HB.out | apply qA | apply qN | apply q1 | refine qS ?_ GE.out) | exact HB.out))))
              (case aL => have := LMc13.out; omega)
              intro v241 w26 ho hb hg hat
              rw [← Ny240.out] at ho
              have n0_ := Aside0.mk (blk_grown (g := gb) (o := .cells #[.int .i64 a2_0, .int .i64 a2_1, .int .i64 a2_2] 36 (0, 0)) (by (with_reducible repeat (first | refine blk_drewN ?_ _ | refine blk_drew ?_ | refine blk_alloc ?_ _)); exact BK.out) hg (Kd.R_away HO239.out (fun _ hk => hk.2)))
              have n1_ := Aside0.mk (Kd.R_over' HP.out (Kd.R_typed HO239.out) (by decide) hg)
              have n2_ := Aside0.mk (hb)
              have n3_ := Aside0.mk (ho)
              clear BK
              clear HP
              clear HB
              clear HO239
              have BK := n0_
              have HP := n1_
              have HB := n2_
              have HR := n3_
              clear n0_ n1_ n2_ n3_
              clear ho hb hg hat
              refine hK.out _ _ (qH BK.out) (fun hHeld => ?_)
              clear hK K
              refine norm_ (a' := ?_) ?_ ?_
              rotate_left
              ·show Act.put _ (some 45) _ = _
               simp only [Act.put, qT, qZ, qC, i64_w, i32_w]
               rfl
              refine one_ (i := 5) (N := some 47) #[true, true, true, true, true, true, false, false, false, false, false, false, false, false, false] rfl rfl (one_of HT_.out (by kernel_rfl)) (by decide) (fun K hK => ?_)
              refine Kd.R_lit_step k36 _ 36 ?hg (N := 47) ?hd (xs := ([(⟨a2_0, a2_1, a2_2⟩ : S36)] : List (S36))) (inner := [.int .i64 a2_0, .int .i64 a2_1, .int .i64 a2_2]) (ok := fun _ => True) (okp := fun _ => True) ?hr ?hp (fun _ hk => hk) trivial (Below.refl _ _) (Nat.le_refl _) (by simp) ?_; (case hd => rfl); (case hg => rfl); (case hr => first | (go_simp; done) | (go_simp; rfl)); (case hp => exact (Reps.c3 (show Kd.M k36 _ _ _ (⟨a2_0, a2_1, a2_2⟩ : S36) [.int .i64 a2_0, .int .i64 a2_1, .int .i64 a2_2] from (k36_mkM _ _ _ (⟨a2_0, a2_1, a2_2⟩ : S36) )) (Reps.none _ _)))
              intro v244 w27 ho28 hb hg_ hnew_
              clear hg_ hnew_
              (first | rw [← Ny243.out] at ho28 | (simp only [Int.reduceToNat] at ho28; rw [← Ny243.out] at ho28))
              have n0_ := Aside0.mk (Kd.R_below HP.out hb)
              have n1_ := Aside0.mk (Kd.R_elder' HR.out (Kd.R_base ho28) hb)
              have n2_ := Aside0.mk (Kd.R_lower (Kd.R_newB (Kd.R_new' ho28 (Kd.R_lt HR.out)) (g := gb) (o := .cells #[.int .i64 a2_0, .int .i64 a2_1, .int .i64 a2_2] 36 (0, 0)) (by (with_reducible repeat (first | refine blk_drewN ?_ _ | refine blk_drew ?_ | refine blk_alloc ?_ _)); exact BK.out)) (below_size (by repeat (first | (with_reducible first | exact HB.out | apply qA | apply qN | apply q1 | refine qS ?_ GE.out) | exact HB.out))))
              have n3_ := Aside0.mk (blk_below (g := gb) (o := .cells #[.int .i64 a2_0, .int .i64 a2_1, .int .i64 a2_2] 36 (0, 0)) (by (with_reducible repeat (first | refine blk_drewN ?_ _ | refine blk_drew ?_ | refine blk_alloc ?_ _)); exact BK.out) hb)
              have n4_ := Aside0.mk (below_step (by repeat (first | (with_reducible first | exact HB.out | apply qA | apply qN | apply q1 | refine qS ?_ GE.out) | exact HB.out)) hb)
              clear HP
              clear HR
              clear BK
              clear HB
              have HP := n0_
              have HR := n1_
              have HQ := n2_
              have BK := n3_
              have HB := n4_
              clear n0_ n1_ n2_ n3_ n4_
              clear hb ho28
              refine hK.out _ _ (qH BK.out) (fun hHeld => ?_)
              clear hK K
              refine norm_ (a' := ?_) ?_ ?_
              rotate_left
              ·show Act.put _ (some 47) _ = _
               simp only [Act.put, qT, qZ, qC, i64_w, i32_w]
               rfl
              exact norm_ (by simp only [putAll, Act.put, qT, qZ, qC]) (hCont (v238, v241, v244) _ ⟨hHeld, HP.out, (Kd.R_mono HR.out (fun _ hk => ⟨hk.2, hk.1⟩)), (Kd.R_mono HQ.out (fun _ hk => ⟨hk.1.2, hk.2⟩)), (by (with_reducible repeat (first | refine blk_drewN ?_ _ | refine blk_drew ?_ | refine blk_alloc ?_ _)); exact BK.out), (by repeat (first | (with_reducible first | exact HB.out | apply qA | apply qN | apply q1 | refine qS ?_ GE.out) | exact HB.out))⟩)
             ·skip
              refine Kd.R_lit_step k36 _ 36 ?hg (N := 47) ?hd (xs := ([(⟨a2_0, a2_1, a2_2⟩ : S36)] : List (S36))) (inner := [.int .i64 a2_0, .int .i64 a2_1, .int .i64 a2_2]) (ok := fun _ => True) (okp := fun _ => True) ?hr ?hp (fun _ hk => hk) trivial (Below.refl _ _) (Nat.le_refl _) (by simp) ?_; (case hd => rfl); (case hg => rfl); (case hr => first | (go_simp; done) | (go_simp; rfl)); (case hp => exact (Reps.c3 (show Kd.M k36 _ _ _ (⟨a2_0, a2_1, a2_2⟩ : S36) [.int .i64 a2_0, .int .i64 a2_1, .int .i64 a2_2] from (k36_mkM _ _ _ (⟨a2_0, a2_1, a2_2⟩ : S36) )) (Reps.none _ _)))
              intro v244 w26 ho27 hb hg_ hnew_
              clear hg_ hnew_
              (first | rw [← Ny243.out] at ho27 | (simp only [Int.reduceToNat] at ho27; rw [← Ny243.out] at ho27))
              have n0_ := Aside0.mk (Kd.R_below HP.out hb)
              have n1_ := Aside0.mk (Kd.R_elder' HO239.out (Kd.R_base ho27) hb)
              have n2_ := Aside0.mk (Kd.R_lower (Kd.R_newB (Kd.R_new' ho27 (Kd.R_lt HO239.out)) (g := gb) (o := .cells #[.int .i64 a2_0, .int .i64 a2_1, .int .i64 a2_2] 36 (0, 0)) (by (with_reducible repeat (first | refine blk_drewN ?_ _ | refine blk_drew ?_ | refine blk_alloc ?_ _)); exact BK.out)) (below_size (by repeat (first | (with_reducible first | exact HB.out | apply qA | apply qN | apply q1 | refine qS ?_ GE.out) | exact HB.out))))
              have n3_ := Aside0.mk (blk_below (g := gb) (o := .cells #[.int .i64 a2_0, .int .i64 a2_1, .int .i64 a2_2] 36 (0, 0)) (by (with_reducible repeat (first | refine blk_drewN ?_ _ | refine blk_drew ?_ | refine blk_alloc ?_ _)); exact BK.out) hb)
              have n4_ := Aside0.mk (below_step (by repeat (first | (with_reducible first | exact HB.out | apply qA | apply qN | apply q1 | refine qS ?_ GE.out) | exact HB.out)) hb)
              clear HP
              clear HO239
              clear BK
              clear HB
              have HP := n0_
              have HO239 := n1_
              have HQ := n2_
              have BK := n3_
              have HB := n4_
              clear n0_ n1_ n2_ n3_ n4_
              clear hb ho27
              refine hK.out _ _ (qH BK.out) (fun hHeld => ?_)
              clear hK K
              refine norm_ (a' := ?_) ?_ ?_
              rotate_left
              ·show Act.put _ (some 47) _ = _
               simp only [Act.put, qT, qZ, qC, i64_w, i32_w]
               rfl
              refine one_ (i := 3) (N := some 45) #[true, true, true, true, true, true, false, false, false, false, false, false, false, false, false] rfl rfl (one_of HT_.out (by kernel_rfl)) (by decide) (fun K hK => ?_)
              refine Kd.R_append_rows_step k36 (w0 := w) w.heap.size (by rfl) (.tmp 43) (.tmp 44) 22 36 (.agg #[(.int .i64 0), (.int .i64 0), (.int .i64 0)]) 24 rfl Try.underlying22 info36 rfl (by decide) (by omega) v238 y237 l1 _ _ _ (fun k_ => some k_ ≠ (v244 : Value).ownBlock ∧ k_ ≠ gb) (fun _ => False) rfl rfl ?aO ?aR (fun _ _ h => h) (fun _ h => h.elim) ?aF ?aB ?aS ?aL ?_
              (case aR => repeat (first | exact (Kd.C_below HR1.out HB.out) | (with_reducible refine Kd.C_alloc ?_ _) | (with_reducible refine Kd.C_drewN ?_ _) | (with_reducible refine Kd.C_drew ?_)))
              (case aB => exact (by repeat (first | (with_reducible first | exact HB.out | apply qA | apply qN | apply q1 | refine qS ?_ GE.out) | exact HB.out)))
              (case aF => exact (fun k_ hk => ⟨Kd.fresh' (Kd.R_lt HQ.out) k_ hk, Kd.freshB (g := gb) (o := .cells #[.int .i64 a2_0, .int .i64 a2_1, .int .i64 a2_2] 36 (0, 0)) (by (with_reducible repeat (first | refine blk_drewN ?_ _ | refine blk_drew ?_ | refine blk_alloc ?_ _)); exact BK.out) k_ hk⟩))
              (case aO => exact (Kd.R_mono HO239.out (fun _ hk => ⟨hk.2, hk.1.2⟩)))
              (case aS => exact (below_size (by repeat (first | (with_reducible first | exact HB.out | apply qA | apply qN | apply q1 | refine qS ?_ GE.out) | exact HB.out))))
              (case aL => have := LMc13.out; omega)
              intro v241 w28 ho hb hg hat
              rw [← Ny240.out] at ho
              have n0_ := Aside0.mk (blk_grown (g := gb) (o := .cells #[.int .i64 a2_0, .int .i64 a2_1, .int .i64 a2_2] 36 (0, 0)) (by (with_reducible repeat (first | refine blk_drewN ?_ _ | refine blk_drew ?_ | refine blk_alloc ?_ _)); exact BK.out) hg (Kd.R_away HO239.out (fun _ hk => hk.1.2)))
              have n1_ := Aside0.mk (Kd.R_over' HP.out (Kd.R_typed HO239.out) (by decide) hg)
              have n2_ := Aside0.mk (Kd.R_after (ok := (fun k_ => k_ ≠ gb)) (Kd.R_mono HQ.out (fun _ hk => ⟨hk.2, hk.1.2⟩)) hg hat)
              have n3_ := Aside0.mk (hb)
              have n4_ := Aside0.mk (ho)
              clear BK
              clear HP
              clear HQ
              clear HB
              clear HO239
              have BK := n0_
              have HP := n1_
              have HQ := n2_
              have HB := n3_
              have HR := n4_
              clear n0_ n1_ n2_ n3_ n4_
              clear ho hb hg hat
              refine hK.out _ _ (qH BK.out) (fun hHeld => ?_)
              clear hK K
              refine norm_ (a' := ?_) ?_ ?_
              rotate_left
              ·show Act.put _ (some 45) _ = _
               simp only [Act.put, qT, qZ, qC, i64_w, i32_w]
               rfl
              exact norm_ (by simp only [putAll, Act.put, qT, qZ, qC]) (hCont (v238, v241, v244) _ ⟨hHeld, HP.out, HR.out, (Kd.R_mono HQ.out (fun _ hk => ⟨hk.2, hk.1⟩)), (by (with_reducible repeat (first | refine blk_drewN ?_ _ | refine blk_drew ?_ | refine blk_alloc ?_ _)); exact BK.out), (by repeat (first | (with_reducible first | exact HB.out | apply qA | apply qN | apply q1 | refine qS ?_ GE.out) | exact HB.out))⟩)
            ·skip
             refine Kd.R_lit_step k36 _ 36 ?hg (N := 47) ?hd (xs := ([(⟨a2_0, a2_1, a2_2⟩ : S36)] : List (S36))) (inner := [.int .i64 a2_0, .int .i64 a2_1, .int .i64 a2_2]) (ok := fun _ => True) (okp := fun _ => True) ?hr ?hp (fun _ hk => hk) trivial (Below.refl _ _) (Nat.le_refl _) (by simp) ?_; (case hd => rfl); (case hg => rfl); (case hr => first | (go_simp; done) | (go_simp; rfl)); (case hp => exact (Reps.c3 (show Kd.M k36 _ _ _ (⟨a2_0, a2_1, a2_2⟩ : S36) [.int .i64 a2_0, .int .i64 a2_1, .int .i64 a2_2] from (k36_mkM _ _ _ (⟨a2_0, a2_1, a2_2⟩ : S36) )) (Reps.none _ _)))
             intro v244 w24 ho25 hb hg_ hnew_
             clear hg_ hnew_
             (first | rw [← Ny243.out] at ho25 | (simp only [Int.reduceToNat] at ho25; rw [← Ny243.out] at ho25))
             have n0_ := Aside0.mk (Kd.R_below HP.out hb)
             have n1_ := Aside0.mk (Kd.R_lower (Kd.R_newB ho25 (g := gb) (o := .cells #[.int .i64 a2_0, .int .i64 a2_1, .int .i64 a2_2] 36 (0, 0)) (by (with_reducible repeat (first | refine blk_drewN ?_ _ | refine blk_drew ?_ | refine blk_alloc ?_ _)); exact BK.out)) (below_size (by repeat (first | (with_reducible first | exact HB.out | apply qA | apply qN | apply q1 | refine qS ?_ GE.out) | exact HB.out))))
             have n2_ := Aside0.mk (blk_below (g := gb) (o := .cells #[.int .i64 a2_0, .int .i64 a2_1, .int .i64 a2_2] 36 (0, 0)) (by (with_reducible repeat (first | refine blk_drewN ?_ _ | refine blk_drew ?_ | refine blk_alloc ?_ _)); exact BK.out) hb)
             have n3_ := Aside0.mk (below_step (by repeat (first | (with_reducible first | exact HB.out | apply qA | apply qN | apply q1 | refine qS ?_ GE.out) | exact HB.out)) hb)
             clear HP
             clear BK
             clear HB
             have HP := n0_
             have HQ := n1_
             have BK := n2_
             have HB := n3_
             clear n0_ n1_ n2_ n3_
             clear hb ho25
             refine hK.out _ _ (qH BK.out) (fun hHeld => ?_)
             clear hK K
             refine norm_ (a' := ?_) ?_ ?_
             rotate_left
             ·show Act.put _ (some 47) _ = _
              simp only [Act.put, qT, qZ, qC, i64_w, i32_w]
              rfl
             refine one_ (i := 1) (N := some 43) #[true, true, true, false, true, true, false, false, false, false, false, false, false, false, false] rfl rfl (one_of HT_.out (by kernel_rfl)) (by decide) (fun K hK => ?_)
             refine Kd.R_lit_step k36 _ 36 ?hg (N := 43) ?hd (xs := ([] : List (S36))) (inner := []) (ok := fun _ => True) (okp := fun _ => True) ?hr ?hp (fun _ hk => hk) trivial (Below.refl _ _) (Nat.le_refl _) (by simp) ?_; (case hd => rfl); (case hg => rfl); (case hr => first | (go_simp; done) | (go_simp; rfl)); (case hp => exact (Reps.none _ _))
             intro v238 w26 ho27 hb hg_ hnew_
             clear hg_ hnew_
             (first | rw [← Ny237.out] at ho27 | (simp only [Int.reduceToNat] at ho27; rw [← Ny237.out] at ho27))
             have n0_ := Aside0.mk (Kd.R_below HP.out hb)
             have n1_ := Aside0.mk (Kd.R_elder' HQ.out (Kd.R_base ho27) hb)
             have n2_ := Aside0.mk (Kd.R_lower (Kd.R_newB (Kd.R_new' ho27 (Kd.R_lt HQ.out)) (g := gb) (o := .cells #[.int .i64 a2_0, .int .i64 a2_1, .int .i64 a2_2] 36 (0, 0)) (by (with_reducible repeat (first | refine blk_drewN ?_ _ | refine blk_drew ?_ | refine blk_alloc ?_ _)); exact BK.out)) (below_size (by repeat (first | (with_reducible first | exact HB.out | apply qA | apply qN | apply q1 | refine qS ?_ GE.out) | exact HB.out))))
             have n3_ := Aside0.mk (blk_below (g := gb) (o := .cells #[.int .i64 a2_0, .int .i64 a2_1, .int .i64 a2_2] 36 (0, 0)) (by (with_reducible repeat (first | refine blk_drewN ?_ _ | refine blk_drew ?_ | refine blk_alloc ?_ _)); exact BK.out) hb)
             have n4_ := Aside0.mk (below_step (by repeat (first | (with_reducible first | exact HB.out | apply qA | apply qN | apply q1 | refine qS ?_ GE.out) | exact HB.out)) hb)
             clear HP
             clear HQ
             clear BK
             clear HB
             have HP := n0_
             have HQ := n1_
             have HO239 := n2_
             have BK := n3_
             have HB := n4_
             clear n0_ n1_ n2_ n3_ n4_
             clear hb ho27
             refine hK.out _ _ (qH BK.out) (fun hHeld => ?_)
             clear hK K
             refine norm_ (a' := ?_) ?_ ?_
             rotate_left
             ·show Act.put _ (some 43) _ = _
              simp only [Act.put, qT, qZ, qC, i64_w, i32_w]
              rfl
             refine one_ (i := 3) (N := some 45) #[true, true, true, true, true, true, false, false, false, false, false, false, false, false, false] rfl rfl (one_of HT_.out (by kernel_rfl)) (by decide) (fun K hK => ?_)
             refine Kd.R_append_rows_step k36 (w0 := w) w.heap.size (by rfl) (.tmp 43) (.tmp 44) 22 36 (.agg #[(.int .i64 0), (.int .i64 0), (.int .i64 0)]) 24 rfl Try.underlying22 info36 rfl (by decide) (by omega) v238 y237 l1 _ _ _ (fun k_ => some k_ ≠ (v244 : Value).ownBlock ∧ k_ ≠ gb) (fun _ => False) rfl rfl ?aO ?aR (fun _ _ h => h) (fun _ h => h.elim) ?aF ?aB ?aS ?aL ?_
             (case aR => repeat (first | exact (Kd.C_below HR1.out HB.out) | (with_reducible refine Kd.C_alloc ?_ _) | (with_reducible refine Kd.C_drewN ?_ _) | (with_reducible refine Kd.C_drew ?_)))
             (case aB => exact (by repeat (first | (with_reducible first | exact HB.out | apply qA | apply qN | apply q1 | refine qS ?_ GE.out) | exact HB.out)))
             (case aF => exact (fun k_ hk => ⟨Kd.fresh' (Kd.R_lt HQ.out) k_ hk, Kd.freshB (g := gb) (o := .cells #[.int .i64 a2_0, .int .i64 a2_1, .int .i64 a2_2] 36 (0, 0)) (by (with_reducible repeat (first | refine blk_drewN ?_ _ | refine blk_drew ?_ | refine blk_alloc ?_ _)); exact BK.out) k_ hk⟩))
             (case aO => exact (Kd.R_mono HO239.out (fun _ hk => ⟨hk.1.2, hk.2⟩)))
             (case aS => exact (below_size (by repeat (first | (with_reducible first | exact HB.out | apply qA | apply qN | apply q1 | refine qS ?_ GE.out) | exact HB.out))))
             (case aL => have := LMc13.out; omega)
             intro v241 w28 ho hb hg hat
             rw [← Ny240.out] at ho
             have n0_ := Aside0.mk (blk_grown (g := gb) (o := .cells #[.int .i64 a2_0, .int .i64 a2_1, .int .i64 a2_2] 36 (0, 0)) (by (with_reducible repeat (first | refine blk_drewN ?_ _ | refine blk_drew ?_ | refine blk_alloc ?_ _)); exact BK.out) hg (Kd.R_away HO239.out (fun _ hk => hk.2)))
             have n1_ := Aside0.mk (Kd.R_over' HP.out (Kd.R_typed HO239.out) (by decide) hg)
             have n2_ := Aside0.mk (Kd.R_after (ok := (fun k_ => k_ ≠ gb)) (Kd.R_mono HQ.out (fun _ hk => ⟨hk.1.2, hk.2⟩)) hg hat)
             have n3_ := Aside0.mk (hb)
             have n4_ := Aside0.mk (ho)
             clear BK
             clear HP
             clear HQ
             clear HB
             clear HO239
             have BK := n0_
             have HP := n1_
             have HQ := n2_
             have HB := n3_
             have HR := n4_
             clear n0_ n1_ n2_ n3_ n4_
             clear ho hb hg hat
             refine hK.out _ _ (qH BK.out) (fun hHeld => ?_)
             clear hK K
             refine norm_ (a' := ?_) ?_ ?_
             rotate_left
             ·show Act.put _ (some 45) _ = _
              simp only [Act.put, qT, qZ, qC, i64_w, i32_w]
              rfl
             exact norm_ (by simp only [putAll, Act.put, qT, qZ, qC]) (hCont (v238, v241, v244) _ ⟨hHeld, HP.out, HR.out, (Kd.R_mono HQ.out (fun _ hk => ⟨hk.2, hk.1⟩)), (by (with_reducible repeat (first | refine blk_drewN ?_ _ | refine blk_drew ?_ | refine blk_alloc ?_ _)); exact BK.out), (by repeat (first | (with_reducible first | exact HB.out | apply qA | apply qN | apply q1 | refine qS ?_ GE.out) | exact HB.out))⟩)
           rintro ⟨v238, v241, v244⟩ w29 ⟨hS_, h0_, h1_, h2_, h3_, h4_⟩
           have n0_ : Aside0 (Kd.R (Kd.int .i64) 3 w29 w.heap.size (fun _ => True) v235 t232) := ⟨h0_⟩
           have n1_ : Aside0 (Kd.R k36 36 w29 w.heap.size (fun k_ => some k_ ≠ (v244 : Value).ownBlock ∧ k_ ≠ gb) v241 y240) := ⟨h1_⟩
           have n2_ : Aside0 (Kd.R k36 36 w29 w.heap.size (fun k_ => some k_ ≠ (v241 : Value).ownBlock ∧ k_ ≠ gb) v244 y243) := ⟨h2_⟩
           have n3_ : Aside0 (w29.heap[gb]? = some (.cells #[.int .i64 a2_0, .int .i64 a2_1, .int .i64 a2_2] 36 (0, 0))) := ⟨h3_⟩
           have n4_ : Aside0 (Below w.heap.size w w29) := ⟨h4_⟩
           clear HP
           clear BK
           clear HB
           clear h0_ h1_ h2_ h3_ h4_
           have HP := n0_
           have HR := n1_
           have HQ := n2_
           have BK := n3_
           have HB := n4_
           clear n0_ n1_ n2_ n3_ n4_
           have hHeld : w29.cell? ⟨gb, 0, none⟩ = some (.int .i64 a2_0) ∧ w29.cell? ⟨gb, 1, none⟩ = some (.int .i64 a2_1) ∧ w29.cell? ⟨gb, 2, none⟩ = some (.int .i64 a2_2) := hS_
           obtain ⟨Ao31, co31, eo31⟩ := Kd.R_slice HQ.out
           (first | subst eo31 | (injection eo31 with f1_ f2_ f3_; have f4_ := f1_.symm; have f5_ := f3_.symm; clear f1_ f2_ f3_; subst f4_; subst f5_))
           refine norm_ (a' := ?_) ?_ ?_
           rotate_left
           ·simp only [putAll, Act.put, qT, qZ, qC]
            rfl
           refine one_ (i := 6) (N := some 48) #[true, true, true, true, true, true, true, false, false, false, false, false, false, false, false] rfl rfl (one_of HT_.out (by kernel_rfl)) (by decide) (fun K hK => ?_)
           refine Kd.R_append_rows_step k36 (w0 := w) w.heap.size (by rfl) (.tmp 45) (.tmp 47) 22 36 (.agg #[(.int .i64 0), (.int .i64 0), (.int .i64 0)]) 24 rfl Try.underlying22 info36 rfl (by decide) (by omega) v241 y240 y243 _ _ _ (fun k_ => some k_ ≠ (.slice Ao31 y243.length co31 : Value).ownBlock ∧ k_ ≠ gb) (fun _ => False) rfl rfl ?aO ?aR (fun _ _ h => h) (fun _ h => h.elim) ?aF ?aB ?aS ?aL ?_
           (case aR => repeat (first | exact (Kd.R_reads' HQ.out).2.2 | (with_reducible refine Kd.C_alloc ?_ _) | (with_reducible refine Kd.C_drewN ?_ _) | (with_reducible refine Kd.C_drew ?_)))
           (case aB => exact (by repeat (first | (with_reducible first | exact HB.out | apply qA | apply qN | apply q1 | refine qS ?_ GE.out) | exact HB.out)))
           (case aF => exact (fun k_ hk => ⟨Kd.fresh' (Kd.R_lt HQ.out) k_ hk, Kd.freshB (g := gb) (o := .cells #[.int .i64 a2_0, .int .i64 a2_1, .int .i64 a2_2] 36 (0, 0)) (by (with_reducible repeat (first | refine blk_drewN ?_ _ | refine blk_drew ?_ | refine blk_alloc ?_ _)); exact BK.out) k_ hk⟩))
           (case aO => exact HR.out)
           (case aS => exact (below_size (by repeat (first | (with_reducible first | exact HB.out | apply qA | apply qN | apply q1 | refine qS ?_ GE.out) | exact HB.out))))
           (case aL => have := LMc14.out; omega)
           intro v247 w30 ho hb hg hat
           rw [← Ny246.out] at ho
           have n0_ := Aside0.mk (blk_grown (g := gb) (o := .cells #[.int .i64 a2_0, .int .i64 a2_1, .int .i64 a2_2] 36 (0, 0)) (by (with_reducible repeat (first | refine blk_drewN ?_ _ | refine blk_drew ?_ | refine blk_alloc ?_ _)); exact BK.out) hg (Kd.R_away HR.out (fun _ hk => hk.2)))
           have n1_ := Aside0.mk (Kd.R_over' HP.out (Kd.R_typed HR.out) (by decide) hg)
           have n2_ := Aside0.mk (Kd.R_after (ok := (fun k_ => k_ ≠ gb)) (Kd.R_mono HQ.out (fun _ hk => ⟨hk.2, hk.1⟩)) hg hat)
           have n3_ := Aside0.mk (hb)
           have n4_ := Aside0.mk (ho)
           clear BK
           clear HP
           clear HQ
           clear HB
           clear HR
           have BK := n0_
           have HP := n1_
           have HQ := n2_
           have HB := n3_
           have HO248 := n4_
           clear n0_ n1_ n2_ n3_ n4_
           clear ho hb hg hat
           obtain ⟨Ao32, co32, eo32⟩ := Kd.R_slice HO248.out
           (first | subst eo32 | (injection eo32 with f1_ f2_ f3_; have f4_ := f1_.symm; have f5_ := f3_.symm; clear f1_ f2_ f3_; subst f4_; subst f5_))
           refine hK.out _ _ (qH BK.out) (fun hHeld => ?_)
           clear hK K
           refine norm_ (a' := ?_) ?_ ?_
           rotate_left
           ·show Act.put _ (some 48) _ = _
            simp only [Act.put, qT, qZ, qC, i64_w, i32_w]
            rfl
           refine one_ (i := 7) (N := some 49) #[true, true, true, true, true, true, true, true, false, false, false, false, false, false, false] rfl rfl (one_of HT_.out (by kernel_rfl)) (by decide) (fun K hK => ?_)
           refine goes_ Try.func10 (by kernel_rfl) rfl #[.int .i64 a0, .slice Ao32 y246.length co32, .int .i64 7, .int .i64 1099511627776] (by rfl) rfl rfl (by (try simp only [List.map_toArray, List.map_cons, List.map_nil]); first | done | rfl | (simp only [List.length_drop, List.length_take]; rfl)) ?_
           with_reducible refine (cover_Best.calls a0 _ _ y246 7 1099511627776 t249 t250 t251 _ ?side1 ?side2 A15.out).mono ?_
           (case side1 => repeat (first | exact (Kd.R_reads' HO248.out).2.2 | (with_reducible refine Kd.C_alloc ?_ _) | (with_reducible refine Kd.C_drewN ?_ _) | (with_reducible refine Kd.C_drew ?_)))
           (case side2 => exact (Kd.R_reads' HO248.out).2.1)
           rintro e w33 ⟨v252, rfl, ho0, hb⟩
           refine ⟨_, rfl, ?_⟩
           have n0_ := Aside0.mk (Kd.R_elder' HP.out (Kd.R_base ho0) hb)
           have n1_ := Aside0.mk (Kd.R_below HQ.out hb)
           have n2_ := Aside0.mk (Kd.R_below HO248.out hb)
           have n3_ := Aside0.mk (Kd.R_lower (Kd.R_new' ho0 (Kd.R_lt HP.out)) (below_size (by repeat (first | (with_reducible first | exact HB.out | apply qA | apply qN | apply q1 | refine qS ?_ GE.out) | exact HB.out))))
           have n4_ := Aside0.mk (blk_below (g := gb) (o := .cells #[.int .i64 a2_0, .int .i64 a2_1, .int .i64 a2_2] 36 (0, 0)) (by (with_reducible repeat (first | refine blk_drewN ?_ _ | refine blk_drew ?_ | refine blk_alloc ?_ _)); exact BK.out) hb)
           have n5_ := Aside0.mk (below_step (by repeat (first | (with_reducible first | exact HB.out | apply qA | apply qN | apply q1 | refine qS ?_ GE.out) | exact HB.out)) hb)
           clear HP
           clear HQ
           clear HO248
           clear BK
           clear HB
           have HP := n0_
           have HQ := n1_
           have HO248 := n2_
           have HO253 := n3_
           have BK := n4_
           have HB := n5_
           clear n0_ n1_ n2_ n3_ n4_ n5_
           (try clear hb)
           (try clear hb2)
           (try clear hk)
           (try clear hi)
           (try clear ho0)
           refine hK.out _ _ (qH BK.out) (fun hHeld => ?_)
           clear hK K
           refine norm_ (a' := ?_) ?_ ?_
           rotate_left
           ·show Act.put _ (some 49) _ = _
            simp only [Act.put, qT, qZ, qC, i64_w, i32_w]
            rfl
           refine pure_ (i := 8) (N := some 41) (v := ?_) (a' := ?_) #[true, true, true, true, true, true, true, true, true, false, false, false, false, false, false] rfl rfl (any_of HT_.out (by kernel_rfl)) (fun _ _ _ h => h) (Or.inl ⟨by rfl, ?_⟩) ?_ ?_
           rotate_left
           ·intro w'
            go_simp
            with_reducible rfl
           rotate_left
           ·simp only [Act.put, qT, qZ, qC, i64_w, i32_w]
            rfl
           refine pure_ (i := 9) (N := some 50) (v := ?_) (a' := ?_) #[true, true, true, true, true, true, true, true, true, true, false, false, false, false, false] rfl rfl (any_of HT_.out (by kernel_rfl)) (fun _ _ _ h => h) (Or.inl ⟨by rfl, ?_⟩) ?_ ?_
           rotate_left
           ·intro w'
            go_simp
            with_reducible rfl
           rotate_left
           ·simp only [Act.put, qT, qZ, qC, i64_w, i32_w]
            rfl
           refine pure_ (i := 10) (N := some 51) (v := ?_) (a' := ?_) #[true, true, true, true, true, true, true, true, true, true, true, false, false, false, false] rfl rfl (any_of HT_.out (by kernel_rfl)) (fun _ _ _ h => h) (Or.inl ⟨by rfl, ?_⟩) ?_ ?_
           rotate_left
           ·intro w'
            go_simp
            with_reducible rfl
           rotate_left
           ·simp only [Act.put, qT, qZ, qC, i64_w, i32_w]
            rfl
           refine pure_ (i := 11) (N := some 52) (v := ?_) (a' := ?_) #[true, true, true, true, true, true, true, true, true, true, true, true, false, false, false] rfl rfl (any_of HT_.out (by kernel_rfl)) (fun _ _ _ h => h) (Or.inl ⟨by rfl, ?_⟩) ?_ ?_
           rotate_left
           ·intro w'
            go_simp
            with_reducible rfl
           rotate_left
           ·simp only [Act.put, qT, qZ, qC, i64_w, i32_w]
            rfl
           refine pure_ (i := 12) (N := some 11) (v := ?_) (a' := ?_) #[true, true, true, true, true, true, true, true, true, true, true, true, true, false, false] rfl rfl (any_of HT_.out (by kernel_rfl)) (fun _ _ _ h => h) (Or.inl ⟨by rfl, ?_⟩) ?_ ?_
           rotate_left
           ·intro w'
            go_simp
            with_reducible rfl
           rotate_left
           ·simp only [Act.put, qT, qZ, qC, i64_w, i32_w]
            rfl
           refine pure_ (i := 13) (N := some 12) (v := ?_) (a' := ?_) #[true, true, true, true, true, true, true, true, true, true, true, true, true, true, false] rfl rfl (any_of HT_.out (by kernel_rfl)) (fun _ _ _ h => h) (Or.inl ⟨by rfl, ?_⟩) ?_ ?_
           rotate_left
           ·intro w'
            go_simp
            with_reducible rfl
           rotate_left
           ·simp only [Act.put, qT, qZ, qC, i64_w, i32_w]
            rfl
           refine pure_ (i := 14) (N := some 13) (v := ?_) (a' := ?_) #[true, true, true, true, true, true, true, true, true, true, true, true, true, true, true] rfl rfl (any_of HT_.out (by kernel_rfl)) (fun _ _ _ h => h) (Or.inl ⟨by rfl, ?_⟩) ?_ ?_
           rotate_left
           ·intro w'
            go_simp
            with_reducible rfl
           rotate_left
           ·simp only [Act.put, qT, qZ, qC, i64_w, i32_w]
            rfl
           refine done_ (done_of HT_.out (by kernel_rfl)) ?_
           try go_wp2_with (first | ((with_reducible refine gate_callee (f := 10) rfl ?_); refine goesL_ (some 56) rfl rfl Try.func10 (by kernel_rfl) rfl #[.int .i64 a0, .slice A1 l1.length c1, .int .i64 9, .int .i64 1099511627776] rfl (by (try simp only [List.map_toArray, List.map_cons, List.map_nil]); first | done | rfl | (simp only [List.length_drop, List.length_take]; rfl)) ?_; (with_reducible refine (cover_Best.calls a0 _ _ l1 9 1099511627776 t254 t255 t256 _ ?side1 ?side2 A16.out).mono ?_); (case side1 => repeat (first | exact (Kd.C_below HR1.out HB.out) | (with_reducible refine Kd.C_alloc ?_ _) | (with_reducible refine Kd.C_drewN ?_ _) | (with_reducible refine Kd.C_drew ?_))); (case side2 => exact HC1.out); rintro e w34 ⟨v257, rfl, ho0, hb⟩; refine ⟨_, rfl, ?_⟩; have n0_ := Aside0.mk (Kd.R_elder' HP.out (Kd.R_base ho0) hb); have n1_ := Aside0.mk (Kd.R_below HQ.out hb); have n2_ := Aside0.mk (Kd.R_below HO248.out hb); have n3_ := Aside0.mk (Kd.R_elder' HO253.out (Kd.R_base ho0) hb); have n4_ := Aside0.mk (Kd.R_lower (Kd.R_new' (Kd.R_new' ho0 (Kd.R_lt HP.out)) (Kd.R_lt HO253.out)) (below_size (by repeat (first | (with_reducible first | exact HB.out | apply qA | apply qN | apply q1 | refine qS ?_ GE.out) | exact HB.out)))); have n5_ := Aside0.mk (blk_below (g := gb) (o := .cells #[.int .i64 a2_0, .int .i64 a2_1, .int .i64 a2_2] 36 (0, 0)) (by (with_reducible repeat (first | refine blk_drewN ?_ _ | refine blk_drew ?_ | refine blk_alloc ?_ _)); exact BK.out) hb); have n6_ := Aside0.mk (below_step (by repeat (first | (with_reducible first | exact HB.out | apply qA | apply qN | apply q1 | refine qS ?_ GE.out) | exact HB.out)) hb); clear HP; clear HQ; clear HO248; clear HO253; clear BK; clear HB; have HP := n0_; have HQ := n1_; have HO248 := n2_; have HO253 := n3_; have HO258 := n4_; have BK := n5_; have HB := n6_; clear n0_ n1_ n2_ n3_ n4_ n5_ n6_; (try clear hb); (try clear hb2); (try clear hk); (try clear hi); (try clear ho0)))
           go_ret
           exact ⟨by first | rfl | (simp [errW_none, errW_some] <;> rfl) | (simp [*, errW_none, errW_some] <;> rfl), by repeat (first | (with_reducible first | exact HB.out | apply qA | apply qN | apply q1 | refine qS ?_ GE.out) | exact HB.out)⟩
          ·rw [if_neg c21] at H
           have c21b0 : decide (t250 ≤ t233) = false := decide_eq_false c21
           clear c21
           obtain rfl := Option.some.inj H
           try go_wp2_with (first | ((with_reducible refine gate_callee (f := 10) rfl ?_); refine goesL_ (some 37) rfl rfl Try.func10 (by kernel_rfl) rfl #[.int .i64 a0, .slice A1 l1.length c1, .int .i64 7, .int .i64 1099511627776] rfl (by (try simp only [List.map_toArray, List.map_cons, List.map_nil]); first | done | rfl | (simp only [List.length_drop, List.length_take]; rfl)) ?_; (with_reducible refine (cover_Best.calls a0 _ _ l1 7 1099511627776 t232 t233 t234 _ ?side1 ?side2 A12.out).mono ?_); (case side1 => repeat (first | exact (Kd.C_below HR1.out HB.out) | (with_reducible refine Kd.C_alloc ?_ _) | (with_reducible refine Kd.C_drewN ?_ _) | (with_reducible refine Kd.C_drew ?_))); (case side2 => exact HC1.out); rintro e w35 ⟨v235, rfl, ho0, hb⟩; refine ⟨_, rfl, ?_⟩; have n0_ := Aside0.mk (Kd.R_lower ho0 (below_size (by repeat (first | (with_reducible first | exact HB.out | apply qA | apply qN | apply q1 | refine qS ?_ GE.out) | exact HB.out)))); have n1_ := Aside0.mk (blk_below (g := gb) (o := .cells #[.int .i64 a2_0, .int .i64 a2_1, .int .i64 a2_2] 36 (0, 0)) (by (with_reducible repeat (first | refine blk_drewN ?_ _ | refine blk_drew ?_ | refine blk_alloc ?_ _)); exact BK.out) hb); have n2_ := Aside0.mk (below_step (by repeat (first | (with_reducible first | exact HB.out | apply qA | apply qN | apply q1 | refine qS ?_ GE.out) | exact HB.out)) hb); clear BK; clear HB; have HP := n0_; have BK := n1_; have HB := n2_; clear n0_ n1_ n2_; (try clear hb); (try clear hb2); (try clear hk); (try clear hi); (try clear ho0)))
           have n0_ := Aside0.mk (Kd.R_drew HP.out)
           have n1_ := Aside0.mk (blk_drew BK.out)
           have n2_ := Aside0.mk (below_drew1 HB.out)
           clear HP
           clear BK
           clear HB
           have HP := n0_
           have BK := n1_
           have HB := n2_
           clear n0_ n1_ n2_
           refine start_ (n := 15) (S := fun w' => w'.cell? ⟨gb, 0, none⟩ = some (.int .i64 a2_0) ∧ w'.cell? ⟨gb, 1, none⟩ = some (.int .i64 a2_1) ∧ w'.cell? ⟨gb, 2, none⟩ = some (.int .i64 a2_2)) (ds := []) #[false, false, false, false, false, false, false, false, false, false, false, false, false, false, false] (by kernel_rfl) rfl rfl (qH BK.out) (fun hHeld => ?_); refine with_tabW scansionlaw19_CoverMore.tab5 scansionlaw19_CoverMore.bits5 (fun HT_ HW_ => ?_)
           generalize w35.drew = w36 at HP BK HB hHeld ⊢
           refine pure_ (i := 0) (N := some 42) (v := ?_) (a' := ?_) #[true, false, false, false, false, false, false, false, false, false, false, false, false, false, false] rfl rfl (any_of HT_.out (by kernel_rfl)) (fun _ _ _ h => h) (Or.inl ⟨by rfl, ?_⟩) ?_ ?_
           rotate_left
           ·intro w'
            go_simp
            with_reducible rfl
           rotate_left
           ·simp only [Act.put, qT, qZ, qC, i64_w, i32_w]
            rfl
           refine pure_ (i := 2) (N := some 44) (v := ?_) (a' := ?_) #[true, false, true, false, false, false, false, false, false, false, false, false, false, false, false] rfl rfl (any_of HT_.out (by kernel_rfl)) (fun _ _ _ h => h) (Or.inl ⟨by rfl, ?_⟩) ?_ ?_
           rotate_left
           ·intro w'
            go_simp
            with_reducible rfl
           rotate_left
           ·simp only [Act.put, qT, qZ, qC, i64_w, i32_w]
            rfl
           refine take_ (i := 4) (N := some 46) (v := ?_) (a' := ?_) #[true, false, true, false, true, false, false, false, false, false, false, false, false, false, false] rfl rfl (take_ofW HT_.out HW_.out (by kernel_rfl)) (fun _ _ _ h => h) (Or.inl ⟨by rfl, ?_⟩) hHeld ?_ ?_
           rotate_left
           ·rintro w' ⟨s0, s1, s2⟩
            go_simp
            with_reducible rfl
           rotate_left
           ·simp only [Act.put, qT, qZ, qC, i64_w, i32_w]
            rfl
           refine join_ (σ := Value × Value × Value) 9 #[true, true, true, true, true, true, false, false, false, false, false, false, false, false, false] (fun s_ => [(43, s_.1), (45, s_.2.1), (47, s_.2.2)]) (fun s_ w' => (w'.cell? ⟨gb, 0, none⟩ = some (.int .i64 a2_0) ∧ w'.cell? ⟨gb, 1, none⟩ = some (.int .i64 a2_1) ∧ w'.cell? ⟨gb, 2, none⟩ = some (.int .i64 a2_2)) ∧ (Kd.R (Kd.int .i64) 3 w' w.heap.size (fun _ => True) v235 t232) ∧ (Kd.R k36 36 w' w.heap.size (fun k_ => some k_ ≠ (s_.2.2 : Value).ownBlock ∧ k_ ≠ gb) s_.2.1 y240) ∧ (Kd.R k36 36 w' w.heap.size (fun k_ => some k_ ≠ (s_.2.1 : Value).ownBlock ∧ k_ ≠ gb) s_.2.2 y243) ∧ (w'.heap[gb]? = some (.cells #[.int .i64 a2_0, .int .i64 a2_1, .int .i64 a2_2] 36 (0, 0))) ∧ (Below w.heap.size w w')) ?_ ?_
           rotate_left
           ·intro hCont
            refine two_ (i := 1) (j := 5) (Ni := some 43) (Nj := some 47) #[true, true, true, false, true, false, false, false, false, false, false, false, false, false, false] #[true, false, true, false, true, true, false, false, false, false, false, false, false, false, false] rfl rfl rfl rfl (two_of HT_.out (by kernel_rfl)) (by decide) (by decide) (fun K hK => ?_) (fun K hK => ?_)
            ·skip
             refine Kd.R_lit_step k36 _ 36 ?hg (N := 43) ?hd (xs := ([] : List (S36))) (inner := []) (ok := fun _ => True) (okp := fun _ => True) ?hr ?hp (fun _ hk => hk) trivial (Below.refl _ _) (Nat.le_refl _) (by simp) ?_; (case hd => rfl); (case hg => rfl); (case hr => first | (go_simp; done) | (go_simp; rfl)); (case hp => exact (Reps.none _ _))
             intro v238 w37 ho38 hb hg_ hnew_
             clear hg_ hnew_
             (first | rw [← Ny237.out] at ho38 | (simp only [Int.reduceToNat] at ho38; rw [← Ny237.out] at ho38))
             have n0_ := Aside0.mk (Kd.R_below HP.out hb)
             have n1_ := Aside0.mk (Kd.R_lower (Kd.R_newB ho38 (g := gb) (o := .cells #[.int .i64 a2_0, .int .i64 a2_1, .int .i64 a2_2] 36 (0, 0)) (by (with_reducible repeat (first | refine blk_drewN ?_ _ | refine blk_drew ?_ | refine blk_alloc ?_ _)); exact BK.out)) (below_size (by repeat (first | (with_reducible first | exact HB.out | apply qA | apply qN | apply q1 | refine qS ?_ GE.out) | exact HB.out))))
             have n2_ := Aside0.mk (blk_below (g := gb) (o := .cells #[.int .i64 a2_0, .int .i64 a2_1, .int .i64 a2_2] 36 (0, 0)) (by (with_reducible repeat (first | refine blk_drewN ?_ _ | refine blk_drew ?_ | refine blk_alloc ?_ _)); exact BK.out) hb)
             have n3_ := Aside0.mk (below_step (by repeat (first | (with_reducible first | exact HB.out | apply qA | apply qN | apply q1 | refine qS ?_ GE.out) | exact HB.out)) hb)
             clear HP
             clear BK
             clear HB
             have HP := n0_
             have HO239 := n1_
             have BK := n2_
             have HB := n3_
             clear n0_ n1_ n2_ n3_
             clear hb ho38
             refine hK.out _ _ (qH BK.out) (fun hHeld => ?_)
             clear hK K
             refine norm_ (a' := ?_) ?_ ?_
             rotate_left
             ·show Act.put _ (some 43) _ = _
              simp only [Act.put, qT, qZ, qC, i64_w, i32_w]
              rfl
             refine two_ (i := 3) (j := 5) (Ni := some 45) (Nj := some 47) #[true, true, true, true, true, false, false, false, false, false, false, false, false, false, false] #[true, true, true, false, true, true, false, false, false, false, false, false, false, false, false] rfl rfl rfl rfl (two_of HT_.out (by kernel_rfl)) (by decide) (by decide) (fun K hK => ?_) (fun K hK => ?_)
             ·skip
              refine Kd.R_append_rows_step k36 (w0 := w) w.heap.size (by rfl) (.tmp 43) (.tmp 44) 22 36 (.agg #[(.int .i64 0), (.int .i64 0), (.int .i64 0)]) 24 rfl Try.underlying22 info36 rfl (by decide) (by omega) v238 y237 l1 _ _ _ (fun k_ => k_ ≠ gb) (fun _ => False) rfl rfl ?aO ?aR (fun _ _ h => h) (fun _ h => h.elim) ?aF ?aB ?aS ?aL ?_
              (case aR => repeat (first | exact (Kd.C_below HR1.out HB.out) | (with_reducible refine Kd.C_alloc ?_ _) | (with_reducible refine Kd.C_drewN ?_ _) | (with_reducible refine Kd.C_drew ?_)))
              (case aB => exact (by repeat (first | (with_reducible first | exact HB.out | apply qA | apply qN | apply q1 | refine qS ?_ GE.out) | exact HB.out)))
              (case aF => exact (fun k_ hk => Kd.freshB (g := gb) (o := .cells #[.int .i64 a2_0, .int .i64 a2_1, .int .i64 a2_2] 36 (0, 0)) (by (with_reducible repeat (first | refine blk_drewN ?_ _ | refine blk_drew ?_ | refine blk_alloc ?_ _)); exact BK.out) k_ hk))
              (case aO => exact (Kd.R_mono HO239.out (fun _ hk => hk.2)))
              (case aS => exact (below_size (by repeat (first | (with_reducible first | exact HB.out | apply qA | apply qN | apply q1 | refine qS ?_ GE.out) | exact HB.out))))
              (case aL => have := LMc13.out; omega)
              intro v241 w39 ho hb hg hat
              rw [← Ny240.out] at ho
              have n0_ := Aside0.mk (blk_grown (g := gb) (o := .cells #[.int .i64 a2_0, .int .i64 a2_1, .int .i64 a2_2] 36 (0, 0)) (by (with_reducible repeat (first | refine blk_drewN ?_ _ | refine blk_drew ?_ | refine blk_alloc ?_ _)); exact BK.out) hg (Kd.R_away HO239.out (fun _ hk => hk.2)))
              have n1_ := Aside0.mk (Kd.R_over' HP.out (Kd.R_typed HO239.out) (by decide) hg)
              have n2_ := Aside0.mk (hb)
              have n3_ := Aside0.mk (ho)
              clear BK
              clear HP
              clear HB
              clear HO239
              have BK := n0_
              have HP := n1_
              have HB := n2_
              have HR := n3_
              clear n0_ n1_ n2_ n3_
              clear ho hb hg hat
              refine hK.out _ _ (qH BK.out) (fun hHeld => ?_)
              clear hK K
              refine norm_ (a' := ?_) ?_ ?_
              rotate_left
              ·show Act.put _ (some 45) _ = _
               simp only [Act.put, qT, qZ, qC, i64_w, i32_w]
               rfl
              refine one_ (i := 5) (N := some 47) #[true, true, true, true, true, true, false, false, false, false, false, false, false, false, false] rfl rfl (one_of HT_.out (by kernel_rfl)) (by decide) (fun K hK => ?_)
              refine Kd.R_lit_step k36 _ 36 ?hg (N := 47) ?hd (xs := ([(⟨a2_0, a2_1, a2_2⟩ : S36)] : List (S36))) (inner := [.int .i64 a2_0, .int .i64 a2_1, .int .i64 a2_2]) (ok := fun _ => True) (okp := fun _ => True) ?hr ?hp (fun _ hk => hk) trivial (Below.refl _ _) (Nat.le_refl _) (by simp) ?_; (case hd => rfl); (case hg => rfl); (case hr => first | (go_simp; done) | (go_simp; rfl)); (case hp => exact (Reps.c3 (show Kd.M k36 _ _ _ (⟨a2_0, a2_1, a2_2⟩ : S36) [.int .i64 a2_0, .int .i64 a2_1, .int .i64 a2_2] from (k36_mkM _ _ _ (⟨a2_0, a2_1, a2_2⟩ : S36) )) (Reps.none _ _)))
              intro v244 w40 ho41 hb hg_ hnew_
              clear hg_ hnew_
              (first | rw [← Ny243.out] at ho41 | (simp only [Int.reduceToNat] at ho41; rw [← Ny243.out] at ho41))
              have n0_ := Aside0.mk (Kd.R_below HP.out hb)
              have n1_ := Aside0.mk (Kd.R_elder' HR.out (Kd.R_base ho41) hb)
              have n2_ := Aside0.mk (Kd.R_lower (Kd.R_newB (Kd.R_new' ho41 (Kd.R_lt HR.out)) (g := gb) (o := .cells #[.int .i64 a2_0, .int .i64 a2_1, .int .i64 a2_2] 36 (0, 0)) (by (with_reducible repeat (first | refine blk_drewN ?_ _ | refine blk_drew ?_ | refine blk_alloc ?_ _)); exact BK.out)) (below_size (by repeat (first | (with_reducible first | exact HB.out | apply qA | apply qN | apply q1 | refine qS ?_ GE.out) | exact HB.out))))
              have n3_ := Aside0.mk (blk_below (g := gb) (o := .cells #[.int .i64 a2_0, .int .i64 a2_1, .int .i64 a2_2] 36 (0, 0)) (by (with_reducible repeat (first | refine blk_drewN ?_ _ | refine blk_drew ?_ | refine blk_alloc ?_ _)); exact BK.out) hb)
              have n4_ := Aside0.mk (below_step (by repeat (first | (with_reducible first | exact HB.out | apply qA | apply qN | apply q1 | refine qS ?_ GE.out) | exact HB.out)) hb)
              clear HP
              clear HR
              clear BK
              clear HB
              have HP := n0_
              have HR := n1_
              have HQ := n2_
              have BK := n3_
              have HB := n4_
              clear n0_ n1_ n2_ n3_ n4_
              clear hb ho41
              refine hK.out _ _ (qH BK.out) (fun hHeld => ?_)
              clear hK K
              refine norm_ (a' := ?_) ?_ ?_
              rotate_left
              ·show Act.put _ (some 47) _ = _
               simp only [Act.put, qT, qZ, qC, i64_w, i32_w]
               rfl
              exact norm_ (by simp only [putAll, Act.put, qT, qZ, qC]) (hCont (v238, v241, v244) _ ⟨hHeld, HP.out, (Kd.R_mono HR.out (fun _ hk => ⟨hk.2, hk.1⟩)), (Kd.R_mono HQ.out (fun _ hk => ⟨hk.1.2, hk.2⟩)), (by (with_reducible repeat (first | refine blk_drewN ?_ _ | refine blk_drew ?_ | refine blk_alloc ?_ _)); exact BK.out), (by repeat (first | (with_reducible first | exact HB.out | apply qA | apply qN | apply q1 | refine qS ?_ GE.out) | exact HB.out))⟩)
             ·skip
              refine Kd.R_lit_step k36 _ 36 ?hg (N := 47) ?hd (xs := ([(⟨a2_0, a2_1, a2_2⟩ : S36)] : List (S36))) (inner := [.int .i64 a2_0, .int .i64 a2_1, .int .i64 a2_2]) (ok := fun _ => True) (okp := fun _ => True) ?hr ?hp (fun _ hk => hk) trivial (Below.refl _ _) (Nat.le_refl _) (by simp) ?_; (case hd => rfl); (case hg => rfl); (case hr => first | (go_simp; done) | (go_simp; rfl)); (case hp => exact (Reps.c3 (show Kd.M k36 _ _ _ (⟨a2_0, a2_1, a2_2⟩ : S36) [.int .i64 a2_0, .int .i64 a2_1, .int .i64 a2_2] from (k36_mkM _ _ _ (⟨a2_0, a2_1, a2_2⟩ : S36) )) (Reps.none _ _)))
              intro v244 w39 ho40 hb hg_ hnew_
              clear hg_ hnew_
              (first | rw [← Ny243.out] at ho40 | (simp only [Int.reduceToNat] at ho40; rw [← Ny243.out] at ho40))
              have n0_ := Aside0.mk (Kd.R_below HP.out hb)
              have n1_ := Aside0.mk (Kd.R_elder' HO239.out (Kd.R_base ho40) hb)
              have n2_ := Aside0.mk (Kd.R_lower (Kd.R_newB (Kd.R_new' ho40 (Kd.R_lt HO239.out)) (g := gb) (o := .cells #[.int .i64 a2_0, .int .i64 a2_1, .int .i64 a2_2] 36 (0, 0)) (by (with_reducible repeat (first | refine blk_drewN ?_ _ | refine blk_drew ?_ | refine blk_alloc ?_ _)); exact BK.out)) (below_size (by repeat (first | (with_reducible first | exact HB.out | apply qA | apply qN | apply q1 | refine qS ?_ GE.out) | exact HB.out))))
              have n3_ := Aside0.mk (blk_below (g := gb) (o := .cells #[.int .i64 a2_0, .int .i64 a2_1, .int .i64 a2_2] 36 (0, 0)) (by (with_reducible repeat (first | refine blk_drewN ?_ _ | refine blk_drew ?_ | refine blk_alloc ?_ _)); exact BK.out) hb)
              have n4_ := Aside0.mk (below_step (by repeat (first | (with_reducible first | exact HB.out | apply qA | apply qN | apply q1 | refine qS ?_ GE.out) | exact HB.out)) hb)
              clear HP
              clear HO239
              clear BK
              clear HB
              have HP := n0_
              have HO239 := n1_
              have HQ := n2_
              have BK := n3_
              have HB := n4_
              clear n0_ n1_ n2_ n3_ n4_
              clear hb ho40
              refine hK.out _ _ (qH BK.out) (fun hHeld => ?_)
              clear hK K
              refine norm_ (a' := ?_) ?_ ?_
              rotate_left
              ·show Act.put _ (some 47) _ = _
               simp only [Act.put, qT, qZ, qC, i64_w, i32_w]
               rfl
              refine one_ (i := 3) (N := some 45) #[true, true, true, true, true, true, false, false, false, false, false, false, false, false, false] rfl rfl (one_of HT_.out (by kernel_rfl)) (by decide) (fun K hK => ?_)
              refine Kd.R_append_rows_step k36 (w0 := w) w.heap.size (by rfl) (.tmp 43) (.tmp 44) 22 36 (.agg #[(.int .i64 0), (.int .i64 0), (.int .i64 0)]) 24 rfl Try.underlying22 info36 rfl (by decide) (by omega) v238 y237 l1 _ _ _ (fun k_ => some k_ ≠ (v244 : Value).ownBlock ∧ k_ ≠ gb) (fun _ => False) rfl rfl ?aO ?aR (fun _ _ h => h) (fun _ h => h.elim) ?aF ?aB ?aS ?aL ?_
              (case aR => repeat (first | exact (Kd.C_below HR1.out HB.out) | (with_reducible refine Kd.C_alloc ?_ _) | (with_reducible refine Kd.C_drewN ?_ _) | (with_reducible refine Kd.C_drew ?_)))
              (case aB => exact (by repeat (first | (with_reducible first | exact HB.out | apply qA | apply qN | apply q1 | refine qS ?_ GE.out) | exact HB.out)))
              (case aF => exact (fun k_ hk => ⟨Kd.fresh' (Kd.R_lt HQ.out) k_ hk, Kd.freshB (g := gb) (o := .cells #[.int .i64 a2_0, .int .i64 a2_1, .int .i64 a2_2] 36 (0, 0)) (by (with_reducible repeat (first | refine blk_drewN ?_ _ | refine blk_drew ?_ | refine blk_alloc ?_ _)); exact BK.out) k_ hk⟩))
              (case aO => exact (Kd.R_mono HO239.out (fun _ hk => ⟨hk.2, hk.1.2⟩)))
              (case aS => exact (below_size (by repeat (first | (with_reducible first | exact HB.out | apply qA | apply qN | apply q1 | refine qS ?_ GE.out) | exact HB.out))))
              (case aL => have := LMc13.out; omega)
              intro v241 w41 ho hb hg hat
              rw [← Ny240.out] at ho
              have n0_ := Aside0.mk (blk_grown (g := gb) (o := .cells #[.int .i64 a2_0, .int .i64 a2_1, .int .i64 a2_2] 36 (0, 0)) (by (with_reducible repeat (first | refine blk_drewN ?_ _ | refine blk_drew ?_ | refine blk_alloc ?_ _)); exact BK.out) hg (Kd.R_away HO239.out (fun _ hk => hk.1.2)))
              have n1_ := Aside0.mk (Kd.R_over' HP.out (Kd.R_typed HO239.out) (by decide) hg)
              have n2_ := Aside0.mk (Kd.R_after (ok := (fun k_ => k_ ≠ gb)) (Kd.R_mono HQ.out (fun _ hk => ⟨hk.2, hk.1.2⟩)) hg hat)
              have n3_ := Aside0.mk (hb)
              have n4_ := Aside0.mk (ho)
              clear BK
              clear HP
              clear HQ
              clear HB
              clear HO239
              have BK := n0_
              have HP := n1_
              have HQ := n2_
              have HB := n3_
              have HR := n4_
              clear n0_ n1_ n2_ n3_ n4_
              clear ho hb hg hat
              refine hK.out _ _ (qH BK.out) (fun hHeld => ?_)
              clear hK K
              refine norm_ (a' := ?_) ?_ ?_
              rotate_left
              ·show Act.put _ (some 45) _ = _
               simp only [Act.put, qT, qZ, qC, i64_w, i32_w]
               rfl
              exact norm_ (by simp only [putAll, Act.put, qT, qZ, qC]) (hCont (v238, v241, v244) _ ⟨hHeld, HP.out, HR.out, (Kd.R_mono HQ.out (fun _ hk => ⟨hk.2, hk.1⟩)), (by (with_reducible repeat (first | refine blk_drewN ?_ _ | refine blk_drew ?_ | refine blk_alloc ?_ _)); exact BK.out), (by repeat (first | (with_reducible first | exact HB.out | apply qA | apply qN | apply q1 | refine qS ?_ GE.out) | exact HB.out))⟩)
            ·skip
             refine Kd.R_lit_step k36 _ 36 ?hg (N := 47) ?hd (xs := ([(⟨a2_0, a2_1, a2_2⟩ : S36)] : List (S36))) (inner := [.int .i64 a2_0, .int .i64 a2_1, .int .i64 a2_2]) (ok := fun _ => True) (okp := fun _ => True) ?hr ?hp (fun _ hk => hk) trivial (Below.refl _ _) (Nat.le_refl _) (by simp) ?_; (case hd => rfl); (case hg => rfl); (case hr => first | (go_simp; done) | (go_simp; rfl)); (case hp => exact (Reps.c3 (show Kd.M k36 _ _ _ (⟨a2_0, a2_1, a2_2⟩ : S36) [.int .i64 a2_0, .int .i64 a2_1, .int .i64 a2_2] from (k36_mkM _ _ _ (⟨a2_0, a2_1, a2_2⟩ : S36) )) (Reps.none _ _)))
             intro v244 w37 ho38 hb hg_ hnew_
             clear hg_ hnew_
             (first | rw [← Ny243.out] at ho38 | (simp only [Int.reduceToNat] at ho38; rw [← Ny243.out] at ho38))
             have n0_ := Aside0.mk (Kd.R_below HP.out hb)
             have n1_ := Aside0.mk (Kd.R_lower (Kd.R_newB ho38 (g := gb) (o := .cells #[.int .i64 a2_0, .int .i64 a2_1, .int .i64 a2_2] 36 (0, 0)) (by (with_reducible repeat (first | refine blk_drewN ?_ _ | refine blk_drew ?_ | refine blk_alloc ?_ _)); exact BK.out)) (below_size (by repeat (first | (with_reducible first | exact HB.out | apply qA | apply qN | apply q1 | refine qS ?_ GE.out) | exact HB.out))))
             have n2_ := Aside0.mk (blk_below (g := gb) (o := .cells #[.int .i64 a2_0, .int .i64 a2_1, .int .i64 a2_2] 36 (0, 0)) (by (with_reducible repeat (first | refine blk_drewN ?_ _ | refine blk_drew ?_ | refine blk_alloc ?_ _)); exact BK.out) hb)
             have n3_ := Aside0.mk (below_step (by repeat (first | (with_reducible first | exact HB.out | apply qA | apply qN | apply q1 | refine qS ?_ GE.out) | exact HB.out)) hb)
             clear HP
             clear BK
             clear HB
             have HP := n0_
             have HQ := n1_
             have BK := n2_
             have HB := n3_
             clear n0_ n1_ n2_ n3_
             clear hb ho38
             refine hK.out _ _ (qH BK.out) (fun hHeld => ?_)
             clear hK K
             refine norm_ (a' := ?_) ?_ ?_
             rotate_left
             ·show Act.put _ (some 47) _ = _
              simp only [Act.put, qT, qZ, qC, i64_w, i32_w]
              rfl
             refine one_ (i := 1) (N := some 43) #[true, true, true, false, true, true, false, false, false, false, false, false, false, false, false] rfl rfl (one_of HT_.out (by kernel_rfl)) (by decide) (fun K hK => ?_)
             refine Kd.R_lit_step k36 _ 36 ?hg (N := 43) ?hd (xs := ([] : List (S36))) (inner := []) (ok := fun _ => True) (okp := fun _ => True) ?hr ?hp (fun _ hk => hk) trivial (Below.refl _ _) (Nat.le_refl _) (by simp) ?_; (case hd => rfl); (case hg => rfl); (case hr => first | (go_simp; done) | (go_simp; rfl)); (case hp => exact (Reps.none _ _))
             intro v238 w39 ho40 hb hg_ hnew_
             clear hg_ hnew_
             (first | rw [← Ny237.out] at ho40 | (simp only [Int.reduceToNat] at ho40; rw [← Ny237.out] at ho40))
             have n0_ := Aside0.mk (Kd.R_below HP.out hb)
             have n1_ := Aside0.mk (Kd.R_elder' HQ.out (Kd.R_base ho40) hb)
             have n2_ := Aside0.mk (Kd.R_lower (Kd.R_newB (Kd.R_new' ho40 (Kd.R_lt HQ.out)) (g := gb) (o := .cells #[.int .i64 a2_0, .int .i64 a2_1, .int .i64 a2_2] 36 (0, 0)) (by (with_reducible repeat (first | refine blk_drewN ?_ _ | refine blk_drew ?_ | refine blk_alloc ?_ _)); exact BK.out)) (below_size (by repeat (first | (with_reducible first | exact HB.out | apply qA | apply qN | apply q1 | refine qS ?_ GE.out) | exact HB.out))))
             have n3_ := Aside0.mk (blk_below (g := gb) (o := .cells #[.int .i64 a2_0, .int .i64 a2_1, .int .i64 a2_2] 36 (0, 0)) (by (with_reducible repeat (first | refine blk_drewN ?_ _ | refine blk_drew ?_ | refine blk_alloc ?_ _)); exact BK.out) hb)
             have n4_ := Aside0.mk (below_step (by repeat (first | (with_reducible first | exact HB.out | apply qA | apply qN | apply q1 | refine qS ?_ GE.out) | exact HB.out)) hb)
             clear HP
             clear HQ
             clear BK
             clear HB
             have HP := n0_
             have HQ := n1_
             have HO239 := n2_
             have BK := n3_
             have HB := n4_
             clear n0_ n1_ n2_ n3_ n4_
             clear hb ho40
             refine hK.out _ _ (qH BK.out) (fun hHeld => ?_)
             clear hK K
             refine norm_ (a' := ?_) ?_ ?_
             rotate_left
             ·show Act.put _ (some 43) _ = _
              simp only [Act.put, qT, qZ, qC, i64_w, i32_w]
              rfl
             refine one_ (i := 3) (N := some 45) #[true, true, true, true, true, true, false, false, false, false, false, false, false, false, false] rfl rfl (one_of HT_.out (by kernel_rfl)) (by decide) (fun K hK => ?_)
             refine Kd.R_append_rows_step k36 (w0 := w) w.heap.size (by rfl) (.tmp 43) (.tmp 44) 22 36 (.agg #[(.int .i64 0), (.int .i64 0), (.int .i64 0)]) 24 rfl Try.underlying22 info36 rfl (by decide) (by omega) v238 y237 l1 _ _ _ (fun k_ => some k_ ≠ (v244 : Value).ownBlock ∧ k_ ≠ gb) (fun _ => False) rfl rfl ?aO ?aR (fun _ _ h => h) (fun _ h => h.elim) ?aF ?aB ?aS ?aL ?_
             (case aR => repeat (first | exact (Kd.C_below HR1.out HB.out) | (with_reducible refine Kd.C_alloc ?_ _) | (with_reducible refine Kd.C_drewN ?_ _) | (with_reducible refine Kd.C_drew ?_)))
             (case aB => exact (by repeat (first | (with_reducible first | exact HB.out | apply qA | apply qN | apply q1 | refine qS ?_ GE.out) | exact HB.out)))
             (case aF => exact (fun k_ hk => ⟨Kd.fresh' (Kd.R_lt HQ.out) k_ hk, Kd.freshB (g := gb) (o := .cells #[.int .i64 a2_0, .int .i64 a2_1, .int .i64 a2_2] 36 (0, 0)) (by (with_reducible repeat (first | refine blk_drewN ?_ _ | refine blk_drew ?_ | refine blk_alloc ?_ _)); exact BK.out) k_ hk⟩))
             (case aO => exact (Kd.R_mono HO239.out (fun _ hk => ⟨hk.1.2, hk.2⟩)))
             (case aS => exact (below_size (by repeat (first | (with_reducible first | exact HB.out | apply qA | apply qN | apply q1 | refine qS ?_ GE.out) | exact HB.out))))
             (case aL => have := LMc13.out; omega)
             intro v241 w41 ho hb hg hat
             rw [← Ny240.out] at ho
             have n0_ := Aside0.mk (blk_grown (g := gb) (o := .cells #[.int .i64 a2_0, .int .i64 a2_1, .int .i64 a2_2] 36 (0, 0)) (by (with_reducible repeat (first | refine blk_drewN ?_ _ | refine blk_drew ?_ | refine blk_alloc ?_ _)); exact BK.out) hg (Kd.R_away HO239.out (fun _ hk => hk.2)))
             have n1_ := Aside0.mk (Kd.R_over' HP.out (Kd.R_typed HO239.out) (by decide) hg)
             have n2_ := Aside0.mk (Kd.R_after (ok := (fun k_ => k_ ≠ gb)) (Kd.R_mono HQ.out (fun _ hk => ⟨hk.1.2, hk.2⟩)) hg hat)
             have n3_ := Aside0.mk (hb)
             have n4_ := Aside0.mk (ho)
             clear BK
             clear HP
             clear HQ
             clear HB
             clear HO239
             have BK := n0_
             have HP := n1_
             have HQ := n2_
             have HB := n3_
             have HR := n4_
             clear n0_ n1_ n2_ n3_ n4_
             clear ho hb hg hat
             refine hK.out _ _ (qH BK.out) (fun hHeld => ?_)
             clear hK K
             refine norm_ (a' := ?_) ?_ ?_
             rotate_left
             ·show Act.put _ (some 45) _ = _
              simp only [Act.put, qT, qZ, qC, i64_w, i32_w]
              rfl
             exact norm_ (by simp only [putAll, Act.put, qT, qZ, qC]) (hCont (v238, v241, v244) _ ⟨hHeld, HP.out, HR.out, (Kd.R_mono HQ.out (fun _ hk => ⟨hk.2, hk.1⟩)), (by (with_reducible repeat (first | refine blk_drewN ?_ _ | refine blk_drew ?_ | refine blk_alloc ?_ _)); exact BK.out), (by repeat (first | (with_reducible first | exact HB.out | apply qA | apply qN | apply q1 | refine qS ?_ GE.out) | exact HB.out))⟩)
           rintro ⟨v238, v241, v244⟩ w42 ⟨hS_, h0_, h1_, h2_, h3_, h4_⟩
           have n0_ : Aside0 (Kd.R (Kd.int .i64) 3 w42 w.heap.size (fun _ => True) v235 t232) := ⟨h0_⟩
           have n1_ : Aside0 (Kd.R k36 36 w42 w.heap.size (fun k_ => some k_ ≠ (v244 : Value).ownBlock ∧ k_ ≠ gb) v241 y240) := ⟨h1_⟩
           have n2_ : Aside0 (Kd.R k36 36 w42 w.heap.size (fun k_ => some k_ ≠ (v241 : Value).ownBlock ∧ k_ ≠ gb) v244 y243) := ⟨h2_⟩
           have n3_ : Aside0 (w42.heap[gb]? = some (.cells #[.int .i64 a2_0, .int .i64 a2_1, .int .i64 a2_2] 36 (0, 0))) := ⟨h3_⟩
           have n4_ : Aside0 (Below w.heap.size w w42) := ⟨h4_⟩
           clear HP
           clear BK
           clear HB
           clear h0_ h1_ h2_ h3_ h4_
           have HP := n0_
           have HR := n1_
           have HQ := n2_
           have BK := n3_
           have HB := n4_
           clear n0_ n1_ n2_ n3_ n4_
           have hHeld : w42.cell? ⟨gb, 0, none⟩ = some (.int .i64 a2_0) ∧ w42.cell? ⟨gb, 1, none⟩ = some (.int .i64 a2_1) ∧ w42.cell? ⟨gb, 2, none⟩ = some (.int .i64 a2_2) := hS_
           obtain ⟨Ao44, co44, eo44⟩ := Kd.R_slice HQ.out
           (first | subst eo44 | (injection eo44 with f1_ f2_ f3_; have f4_ := f1_.symm; have f5_ := f3_.symm; clear f1_ f2_ f3_; subst f4_; subst f5_))
           refine norm_ (a' := ?_) ?_ ?_
           rotate_left
           ·simp only [putAll, Act.put, qT, qZ, qC]
            rfl
           refine one_ (i := 6) (N := some 48) #[true, true, true, true, true, true, true, false, false, false, false, false, false, false, false] rfl rfl (one_of HT_.out (by kernel_rfl)) (by decide) (fun K hK => ?_)
           refine Kd.R_append_rows_step k36 (w0 := w) w.heap.size (by rfl) (.tmp 45) (.tmp 47) 22 36 (.agg #[(.int .i64 0), (.int .i64 0), (.int .i64 0)]) 24 rfl Try.underlying22 info36 rfl (by decide) (by omega) v241 y240 y243 _ _ _ (fun k_ => some k_ ≠ (.slice Ao44 y243.length co44 : Value).ownBlock ∧ k_ ≠ gb) (fun _ => False) rfl rfl ?aO ?aR (fun _ _ h => h) (fun _ h => h.elim) ?aF ?aB ?aS ?aL ?_
           (case aR => repeat (first | exact (Kd.R_reads' HQ.out).2.2 | (with_reducible refine Kd.C_alloc ?_ _) | (with_reducible refine Kd.C_drewN ?_ _) | (with_reducible refine Kd.C_drew ?_)))
           (case aB => exact (by repeat (first | (with_reducible first | exact HB.out | apply qA | apply qN | apply q1 | refine qS ?_ GE.out) | exact HB.out)))
           (case aF => exact (fun k_ hk => ⟨Kd.fresh' (Kd.R_lt HQ.out) k_ hk, Kd.freshB (g := gb) (o := .cells #[.int .i64 a2_0, .int .i64 a2_1, .int .i64 a2_2] 36 (0, 0)) (by (with_reducible repeat (first | refine blk_drewN ?_ _ | refine blk_drew ?_ | refine blk_alloc ?_ _)); exact BK.out) k_ hk⟩))
           (case aO => exact HR.out)
           (case aS => exact (below_size (by repeat (first | (with_reducible first | exact HB.out | apply qA | apply qN | apply q1 | refine qS ?_ GE.out) | exact HB.out))))
           (case aL => have := LMc14.out; omega)
           intro v247 w43 ho hb hg hat
           rw [← Ny246.out] at ho
           have n0_ := Aside0.mk (blk_grown (g := gb) (o := .cells #[.int .i64 a2_0, .int .i64 a2_1, .int .i64 a2_2] 36 (0, 0)) (by (with_reducible repeat (first | refine blk_drewN ?_ _ | refine blk_drew ?_ | refine blk_alloc ?_ _)); exact BK.out) hg (Kd.R_away HR.out (fun _ hk => hk.2)))
           have n1_ := Aside0.mk (Kd.R_over' HP.out (Kd.R_typed HR.out) (by decide) hg)
           have n2_ := Aside0.mk (Kd.R_after (ok := (fun k_ => k_ ≠ gb)) (Kd.R_mono HQ.out (fun _ hk => ⟨hk.2, hk.1⟩)) hg hat)
           have n3_ := Aside0.mk (hb)
           have n4_ := Aside0.mk (ho)
           clear BK
           clear HP
           clear HQ
           clear HB
           clear HR
           have BK := n0_
           have HP := n1_
           have HQ := n2_
           have HB := n3_
           have HO248 := n4_
           clear n0_ n1_ n2_ n3_ n4_
           clear ho hb hg hat
           obtain ⟨Ao45, co45, eo45⟩ := Kd.R_slice HO248.out
           (first | subst eo45 | (injection eo45 with f1_ f2_ f3_; have f4_ := f1_.symm; have f5_ := f3_.symm; clear f1_ f2_ f3_; subst f4_; subst f5_))
           refine hK.out _ _ (qH BK.out) (fun hHeld => ?_)
           clear hK K
           refine norm_ (a' := ?_) ?_ ?_
           rotate_left
           ·show Act.put _ (some 48) _ = _
            simp only [Act.put, qT, qZ, qC, i64_w, i32_w]
            rfl
           refine one_ (i := 7) (N := some 49) #[true, true, true, true, true, true, true, true, false, false, false, false, false, false, false] rfl rfl (one_of HT_.out (by kernel_rfl)) (by decide) (fun K hK => ?_)
           refine goes_ Try.func10 (by kernel_rfl) rfl #[.int .i64 a0, .slice Ao45 y246.length co45, .int .i64 7, .int .i64 1099511627776] (by rfl) rfl rfl (by (try simp only [List.map_toArray, List.map_cons, List.map_nil]); first | done | rfl | (simp only [List.length_drop, List.length_take]; rfl)) ?_
           with_reducible refine (cover_Best.calls a0 _ _ y246 7 1099511627776 t249 t250 t251 _ ?side1 ?side2 A15.out).mono ?_
           (case side1 => repeat (first | exact (Kd.R_reads' HO248.out).2.2 | (with_reducible refine Kd.C_alloc ?_ _) | (with_reducible refine Kd.C_drewN ?_ _) | (with_reducible refine Kd.C_drew ?_)))
           (case side2 => exact (Kd.R_reads' HO248.out).2.1)
           rintro e w46 ⟨v252, rfl, ho0, hb⟩
           refine ⟨_, rfl, ?_⟩
           have n0_ := Aside0.mk (Kd.R_elder' HP.out (Kd.R_base ho0) hb)
           have n1_ := Aside0.mk (Kd.R_below HQ.out hb)
           have n2_ := Aside0.mk (Kd.R_below HO248.out hb)
           have n3_ := Aside0.mk (Kd.R_lower (Kd.R_new' ho0 (Kd.R_lt HP.out)) (below_size (by repeat (first | (with_reducible first | exact HB.out | apply qA | apply qN | apply q1 | refine qS ?_ GE.out) | exact HB.out))))
           have n4_ := Aside0.mk (blk_below (g := gb) (o := .cells #[.int .i64 a2_0, .int .i64 a2_1, .int .i64 a2_2] 36 (0, 0)) (by (with_reducible repeat (first | refine blk_drewN ?_ _ | refine blk_drew ?_ | refine blk_alloc ?_ _)); exact BK.out) hb)
           have n5_ := Aside0.mk (below_step (by repeat (first | (with_reducible first | exact HB.out | apply qA | apply qN | apply q1 | refine qS ?_ GE.out) | exact HB.out)) hb)
           clear HP
           clear HQ
           clear HO248
           clear BK
           clear HB
           have HP := n0_
           have HQ := n1_
           have HO248 := n2_
           have HO253 := n3_
           have BK := n4_
           have HB := n5_
           clear n0_ n1_ n2_ n3_ n4_ n5_
           (try clear hb)
           (try clear hb2)
           (try clear hk)
           (try clear hi)
           (try clear ho0)
           refine hK.out _ _ (qH BK.out) (fun hHeld => ?_)
           clear hK K
           refine norm_ (a' := ?_) ?_ ?_
           rotate_left
           ·show Act.put _ (some 49) _ = _
            simp only [Act.put, qT, qZ, qC, i64_w, i32_w]
            rfl
           refine pure_ (i := 8) (N := some 41) (v := ?_) (a' := ?_) #[true, true, true, true, true, true, true, true, true, false, false, false, false, false, false] rfl rfl (any_of HT_.out (by kernel_rfl)) (fun _ _ _ h => h) (Or.inl ⟨by rfl, ?_⟩) ?_ ?_
           rotate_left
           ·intro w'
            go_simp
            with_reducible rfl
           rotate_left
           ·simp only [Act.put, qT, qZ, qC, i64_w, i32_w]
            rfl
           refine pure_ (i := 9) (N := some 50) (v := ?_) (a' := ?_) #[true, true, true, true, true, true, true, true, true, true, false, false, false, false, false] rfl rfl (any_of HT_.out (by kernel_rfl)) (fun _ _ _ h => h) (Or.inl ⟨by rfl, ?_⟩) ?_ ?_
           rotate_left
           ·intro w'
            go_simp
            with_reducible rfl
           rotate_left
           ·simp only [Act.put, qT, qZ, qC, i64_w, i32_w]
            rfl
           refine pure_ (i := 10) (N := some 51) (v := ?_) (a' := ?_) #[true, true, true, true, true, true, true, true, true, true, true, false, false, false, false] rfl rfl (any_of HT_.out (by kernel_rfl)) (fun _ _ _ h => h) (Or.inl ⟨by rfl, ?_⟩) ?_ ?_
           rotate_left
           ·intro w'
            go_simp
            with_reducible rfl
           rotate_left
           ·simp only [Act.put, qT, qZ, qC, i64_w, i32_w]
            rfl
           refine pure_ (i := 11) (N := some 52) (v := ?_) (a' := ?_) #[true, true, true, true, true, true, true, true, true, true, true, true, false, false, false] rfl rfl (any_of HT_.out (by kernel_rfl)) (fun _ _ _ h => h) (Or.inl ⟨by rfl, ?_⟩) ?_ ?_
           rotate_left
           ·intro w'
            go_simp
            with_reducible rfl
           rotate_left
           ·simp only [Act.put, qT, qZ, qC, i64_w, i32_w]
            rfl
           refine pure_ (i := 12) (N := some 11) (v := ?_) (a' := ?_) #[true, true, true, true, true, true, true, true, true, true, true, true, true, false, false] rfl rfl (any_of HT_.out (by kernel_rfl)) (fun _ _ _ h => h) (Or.inl ⟨by rfl, ?_⟩) ?_ ?_
           rotate_left
           ·intro w'
            go_simp
            with_reducible rfl
           rotate_left
           ·simp only [Act.put, qT, qZ, qC, i64_w, i32_w]
            rfl
           refine pure_ (i := 13) (N := some 12) (v := ?_) (a' := ?_) #[true, true, true, true, true, true, true, true, true, true, true, true, true, true, false] rfl rfl (any_of HT_.out (by kernel_rfl)) (fun _ _ _ h => h) (Or.inl ⟨by rfl, ?_⟩) ?_ ?_
           rotate_left
           ·intro w'
            go_simp
            with_reducible rfl
           rotate_left
           ·simp only [Act.put, qT, qZ, qC, i64_w, i32_w]
            rfl
           refine pure_ (i := 14) (N := some 13) (v := ?_) (a' := ?_) #[true, true, true, true, true, true, true, true, true, true, true, true, true, true, true] rfl rfl (any_of HT_.out (by kernel_rfl)) (fun _ _ _ h => h) (Or.inl ⟨by rfl, ?_⟩) ?_ ?_
           rotate_left
           ·intro w'
            go_simp
            with_reducible rfl
           rotate_left
           ·simp only [Act.put, qT, qZ, qC, i64_w, i32_w]
            rfl
           refine done_ (done_of HT_.out (by kernel_rfl)) ?_
           try go_wp2_with (first | ((with_reducible refine gate_callee (f := 10) rfl ?_); refine goesL_ (some 56) rfl rfl Try.func10 (by kernel_rfl) rfl #[.int .i64 a0, .slice A1 l1.length c1, .int .i64 9, .int .i64 1099511627776] rfl (by (try simp only [List.map_toArray, List.map_cons, List.map_nil]); first | done | rfl | (simp only [List.length_drop, List.length_take]; rfl)) ?_; (with_reducible refine (cover_Best.calls a0 _ _ l1 9 1099511627776 t254 t255 t256 _ ?side1 ?side2 A16.out).mono ?_); (case side1 => repeat (first | exact (Kd.C_below HR1.out HB.out) | (with_reducible refine Kd.C_alloc ?_ _) | (with_reducible refine Kd.C_drewN ?_ _) | (with_reducible refine Kd.C_drew ?_))); (case side2 => exact HC1.out); rintro e w47 ⟨v257, rfl, ho0, hb⟩; refine ⟨_, rfl, ?_⟩; have n0_ := Aside0.mk (Kd.R_elder' HP.out (Kd.R_base ho0) hb); have n1_ := Aside0.mk (Kd.R_below HQ.out hb); have n2_ := Aside0.mk (Kd.R_below HO248.out hb); have n3_ := Aside0.mk (Kd.R_elder' HO253.out (Kd.R_base ho0) hb); have n4_ := Aside0.mk (Kd.R_lower (Kd.R_new' (Kd.R_new' ho0 (Kd.R_lt HP.out)) (Kd.R_lt HO253.out)) (below_size (by repeat (first | (with_reducible first | exact HB.out | apply qA | apply qN | apply q1 | refine qS ?_ GE.out) | exact HB.out)))); have n5_ := Aside0.mk (blk_below (g := gb) (o := .cells #[.int .i64 a2_0, .int .i64 a2_1, .int .i64 a2_2] 36 (0, 0)) (by (with_reducible repeat (first | refine blk_drewN ?_ _ | refine blk_drew ?_ | refine blk_alloc ?_ _)); exact BK.out) hb); have n6_ := Aside0.mk (below_step (by repeat (first | (with_reducible first | exact HB.out | apply qA | apply qN | apply q1 | refine qS ?_ GE.out) | exact HB.out)) hb); clear HP; clear HQ; clear HO248; clear HO253; clear BK; clear HB; have HP := n0_; have HQ := n1_; have HO248 := n2_; have HO253 := n3_; have HO258 := n4_; have BK := n5_; have HB := n6_; clear n0_ n1_ n2_ n3_ n4_ n5_ n6_; (try clear hb); (try clear hb2); (try clear hk); (try clear hi); (try clear ho0); have hcz48_0 : w47.cell? ⟨gb, 0, none⟩ = some (.int .i64 a2_0) := (blk_cell BK.out 0).trans rfl; have hcz48_1 : w47.cell? ⟨gb, 1, none⟩ = some (.int .i64 a2_1) := (blk_cell BK.out 1).trans rfl; have hcz48_2 : w47.cell? ⟨gb, 2, none⟩ = some (.int .i64 a2_2) := (blk_cell BK.out 2).trans rfl; have hfz48_0 := blk_frozen BK.out 0; have hfz48_1 := blk_frozen BK.out 1; have hfz48_2 := blk_frozen BK.out 2))
           go_ret
           exact ⟨by first | rfl | (simp [errW_none, errW_some] <;> rfl) | (simp [*, errW_none, errW_some] <;> rfl), by repeat (first | (with_reducible first | exact HB.out | apply qA | apply qN | apply q1 | refine qS ?_ GE.out) | exact HB.out)⟩
         ·rw [if_neg c20] at H
          have c20b0 : (t251 == 0) = false := beq_eq_false_iff_ne.mpr c20
          have c20b1 : (t251 != 0) = true := bne_iff_ne.mpr c20
          obtain rfl := Option.some.inj H
          try go_wp2_with (first | ((with_reducible refine gate_callee (f := 10) rfl ?_); refine goesL_ (some 37) rfl rfl Try.func10 (by kernel_rfl) rfl #[.int .i64 a0, .slice A1 l1.length c1, .int .i64 7, .int .i64 1099511627776] rfl (by (try simp only [List.map_toArray, List.map_cons, List.map_nil]); first | done | rfl | (simp only [List.length_drop, List.length_take]; rfl)) ?_; (with_reducible refine (cover_Best.calls a0 _ _ l1 7 1099511627776 t232 t233 t234 _ ?side1 ?side2 A12.out).mono ?_); (case side1 => repeat (first | exact (Kd.C_below HR1.out HB.out) | (with_reducible refine Kd.C_alloc ?_ _) | (with_reducible refine Kd.C_drewN ?_ _) | (with_reducible refine Kd.C_drew ?_))); (case side2 => exact HC1.out); rintro e w49 ⟨v235, rfl, ho0, hb⟩; refine ⟨_, rfl, ?_⟩; have n0_ := Aside0.mk (Kd.R_lower ho0 (below_size (by repeat (first | (with_reducible first | exact HB.out | apply qA | apply qN | apply q1 | refine qS ?_ GE.out) | exact HB.out)))); have n1_ := Aside0.mk (blk_below (g := gb) (o := .cells #[.int .i64 a2_0, .int .i64 a2_1, .int .i64 a2_2] 36 (0, 0)) (by (with_reducible repeat (first | refine blk_drewN ?_ _ | refine blk_drew ?_ | refine blk_alloc ?_ _)); exact BK.out) hb); have n2_ := Aside0.mk (below_step (by repeat (first | (with_reducible first | exact HB.out | apply qA | apply qN | apply q1 | refine qS ?_ GE.out) | exact HB.out)) hb); clear BK; clear HB; have HP := n0_; have BK := n1_; have HB := n2_; clear n0_ n1_ n2_; (try clear hb); (try clear hb2); (try clear hk); (try clear hi); (try clear ho0)))
          have n0_ := Aside0.mk (Kd.R_drew HP.out)
          have n1_ := Aside0.mk (blk_drew BK.out)
          have n2_ := Aside0.mk (below_drew1 HB.out)
          clear HP
          clear BK
          clear HB
          have HP := n0_
          have BK := n1_
          have HB := n2_
          clear n0_ n1_ n2_
          refine start_ (n := 15) (S := fun w' => w'.cell? ⟨gb, 0, none⟩ = some (.int .i64 a2_0) ∧ w'.cell? ⟨gb, 1, none⟩ = some (.int .i64 a2_1) ∧ w'.cell? ⟨gb, 2, none⟩ = some (.int .i64 a2_2)) (ds := []) #[false, false, false, false, false, false, false, false, false, false, false, false, false, false, false] (by kernel_rfl) rfl rfl (qH BK.out) (fun hHeld => ?_); refine with_tabW scansionlaw19_CoverMore.tab5 scansionlaw19_CoverMore.bits5 (fun HT_ HW_ => ?_)
          generalize w49.drew = w50 at HP BK HB hHeld ⊢
          refine pure_ (i := 0) (N := some 42) (v := ?_) (a' := ?_) #[true, false, false, false, false, false, false, false, false, false, false, false, false, false, false] rfl rfl (any_of HT_.out (by kernel_rfl)) (fun _ _ _ h => h) (Or.inl ⟨by rfl, ?_⟩) ?_ ?_
          rotate_left
          ·intro w'
           go_simp
           with_reducible rfl
          rotate_left
          ·simp only [Act.put, qT, qZ, qC, i64_w, i32_w]
           rfl
          refine pure_ (i := 2) (N := some 44) (v := ?_) (a' := ?_) #[true, false, true, false, false, false, false, false, false, false, false, false, false, false, false] rfl rfl (any_of HT_.out (by kernel_rfl)) (fun _ _ _ h => h) (Or.inl ⟨by rfl, ?_⟩) ?_ ?_
          rotate_left
          ·intro w'
           go_simp
           with_reducible rfl
          rotate_left
          ·simp only [Act.put, qT, qZ, qC, i64_w, i32_w]
           rfl
          refine take_ (i := 4) (N := some 46) (v := ?_) (a' := ?_) #[true, false, true, false, true, false, false, false, false, false, false, false, false, false, false] rfl rfl (take_ofW HT_.out HW_.out (by kernel_rfl)) (fun _ _ _ h => h) (Or.inl ⟨by rfl, ?_⟩) hHeld ?_ ?_
          rotate_left
          ·rintro w' ⟨s0, s1, s2⟩
           go_simp
           with_reducible rfl
          rotate_left
          ·simp only [Act.put, qT, qZ, qC, i64_w, i32_w]
           rfl
          refine join_ (σ := Value × Value × Value) 9 #[true, true, true, true, true, true, false, false, false, false, false, false, false, false, false] (fun s_ => [(43, s_.1), (45, s_.2.1), (47, s_.2.2)]) (fun s_ w' => (w'.cell? ⟨gb, 0, none⟩ = some (.int .i64 a2_0) ∧ w'.cell? ⟨gb, 1, none⟩ = some (.int .i64 a2_1) ∧ w'.cell? ⟨gb, 2, none⟩ = some (.int .i64 a2_2)) ∧ (Kd.R (Kd.int .i64) 3 w' w.heap.size (fun _ => True) v235 t232) ∧ (Kd.R k36 36 w' w.heap.size (fun k_ => some k_ ≠ (s_.2.2 : Value).ownBlock ∧ k_ ≠ gb) s_.2.1 y240) ∧ (Kd.R k36 36 w' w.heap.size (fun k_ => some k_ ≠ (s_.2.1 : Value).ownBlock ∧ k_ ≠ gb) s_.2.2 y243) ∧ (w'.heap[gb]? = some (.cells #[.int .i64 a2_0, .int .i64 a2_1, .int .i64 a2_2] 36 (0, 0))) ∧ (Below w.heap.size w w')) ?_ ?_
          rotate_left
          ·intro hCont
           refine two_ (i := 1) (j := 5) (Ni := some 43) (Nj := some 47) #[true, true, true, false, true, false, false, false, false, false, false, false, false, false, false] #[true, false, true, false, true, true, false, false, false, false, false, false, false, false, false] rfl rfl rfl rfl (two_of HT_.out (by kernel_rfl)) (by decide) (by decide) (fun K hK => ?_) (fun K hK => ?_)
           ·skip
            refine Kd.R_lit_step k36 _ 36 ?hg (N := 43) ?hd (xs := ([] : List (S36))) (inner := []) (ok := fun _ => True) (okp := fun _ => True) ?hr ?hp (fun _ hk => hk) trivial (Below.refl _ _) (Nat.le_refl _) (by simp) ?_; (case hd => rfl); (case hg => rfl); (case hr => first | (go_simp; done) | (go_simp; rfl)); (case hp => exact (Reps.none _ _))
            intro v238 w51 ho52 hb hg_ hnew_
            clear hg_ hnew_
            (first | rw [← Ny237.out] at ho52 | (simp only [Int.reduceToNat] at ho52; rw [← Ny237.out] at ho52))
            have n0_ := Aside0.mk (Kd.R_below HP.out hb)
            have n1_ := Aside0.mk (Kd.R_lower (Kd.R_newB ho52 (g := gb) (o := .cells #[.int .i64 a2_0, .int .i64 a2_1, .int .i64 a2_2] 36 (0, 0)) (by (with_reducible repeat (first | refine blk_drewN ?_ _ | refine blk_drew ?_ | refine blk_alloc ?_ _)); exact BK.out)) (below_size (by repeat (first | (with_reducible first | exact HB.out | apply qA | apply qN | apply q1 | refine qS ?_ GE.out) | exact HB.out))))
            have n2_ := Aside0.mk (blk_below (g := gb) (o := .cells #[.int .i64 a2_0, .int .i64 a2_1, .int .i64 a2_2] 36 (0, 0)) (by (with_reducible repeat (first | refine blk_drewN ?_ _ | refine blk_drew ?_ | refine blk_alloc ?_ _)); exact BK.out) hb)
            have n3_ := Aside0.mk (below_step (by repeat (first | (with_reducible first | exact HB.out | apply qA | apply qN | apply q1 | refine qS ?_ GE.out) | exact HB.out)) hb)
            clear HP
            clear BK
            clear HB
            have HP := n0_
            have HO239 := n1_
            have BK := n2_
            have HB := n3_
            clear n0_ n1_ n2_ n3_
            clear hb ho52
            refine hK.out _ _ (qH BK.out) (fun hHeld => ?_)
            clear hK K
            refine norm_ (a' := ?_) ?_ ?_
            rotate_left
            ·show Act.put _ (some 43) _ = _
             simp only [Act.put, qT, qZ, qC, i64_w, i32_w]
             rfl
            refine two_ (i := 3) (j := 5) (Ni := some 45) (Nj := some 47) #[true, true, true, true, true, false, false, false, false, false, false, false, false, false, false] #[true, true, true, false, true, true, false, false, false, false, false, false, false, false, false] rfl rfl rfl rfl (two_of HT_.out (by kernel_rfl)) (by decide) (by decide) (fun K hK => ?_) (fun K hK => ?_)
            ·skip
             refine Kd.R_append_rows_step k36 (w0 := w) w.heap.size (by rfl) (.tmp 43) (.tmp 44) 22 36 (.agg #[(.int .i64 0), (.int .i64 0), (.int .i64 0)]) 24 rfl Try.underlying22 info36 rfl (by decide) (by omega) v238 y237 l1 _ _ _ (fun k_ => k_ ≠ gb) (fun _ => False) rfl rfl ?aO ?aR (fun _ _ h => h) (fun _ h => h.elim) ?aF ?aB ?aS ?aL ?_
             (case aR => repeat (first | exact (Kd.C_below HR1.out HB.out) | (with_reducible refine Kd.C_alloc ?_ _) | (with_reducible refine Kd.C_drewN ?_ _) | (with_reducible refine Kd.C_drew ?_)))
             (case aB => exact (by repeat (first | (with_reducible first | exact HB.out | apply qA | apply qN | apply q1 | refine qS ?_ GE.out) | exact HB.out)))
             (case aF => exact (fun k_ hk => Kd.freshB (g := gb) (o := .cells #[.int .i64 a2_0, .int .i64 a2_1, .int .i64 a2_2] 36 (0, 0)) (by (with_reducible repeat (first | refine blk_drewN ?_ _ | refine blk_drew ?_ | refine blk_alloc ?_ _)); exact BK.out) k_ hk))
             (case aO => exact (Kd.R_mono HO239.out (fun _ hk => hk.2)))
             (case aS => exact (below_size (by repeat (first | (with_reducible first | exact HB.out | apply qA | apply qN | apply q1 | refine qS ?_ GE.out) | exact HB.out))))
             (case aL => have := LMc13.out; omega)
             intro v241 w53 ho hb hg hat
             rw [← Ny240.out] at ho
             have n0_ := Aside0.mk (blk_grown (g := gb) (o := .cells #[.int .i64 a2_0, .int .i64 a2_1, .int .i64 a2_2] 36 (0, 0)) (by (with_reducible repeat (first | refine blk_drewN ?_ _ | refine blk_drew ?_ | refine blk_alloc ?_ _)); exact BK.out) hg (Kd.R_away HO239.out (fun _ hk => hk.2)))
             have n1_ := Aside0.mk (Kd.R_over' HP.out (Kd.R_typed HO239.out) (by decide) hg)
             have n2_ := Aside0.mk (hb)
             have n3_ := Aside0.mk (ho)
             clear BK
             clear HP
             clear HB
             clear HO239
             have BK := n0_
             have HP := n1_
             have HB := n2_
             have HR := n3_
             clear n0_ n1_ n2_ n3_
             clear ho hb hg hat
             refine hK.out _ _ (qH BK.out) (fun hHeld => ?_)
             clear hK K
             refine norm_ (a' := ?_) ?_ ?_
             rotate_left
             ·show Act.put _ (some 45) _ = _
              simp only [Act.put, qT, qZ, qC, i64_w, i32_w]
              rfl
             refine one_ (i := 5) (N := some 47) #[true, true, true, true, true, true, false, false, false, false, false, false, false, false, false] rfl rfl (one_of HT_.out (by kernel_rfl)) (by decide) (fun K hK => ?_)
             refine Kd.R_lit_step k36 _ 36 ?hg (N := 47) ?hd (xs := ([(⟨a2_0, a2_1, a2_2⟩ : S36)] : List (S36))) (inner := [.int .i64 a2_0, .int .i64 a2_1, .int .i64 a2_2]) (ok := fun _ => True) (okp := fun _ => True) ?hr ?hp (fun _ hk => hk) trivial (Below.refl _ _) (Nat.le_refl _) (by simp) ?_; (case hd => rfl); (case hg => rfl); (case hr => first | (go_simp; done) | (go_simp; rfl)); (case hp => exact (Reps.c3 (show Kd.M k36 _ _ _ (⟨a2_0, a2_1, a2_2⟩ : S36) [.int .i64 a2_0, .int .i64 a2_1, .int .i64 a2_2] from (k36_mkM _ _ _ (⟨a2_0, a2_1, a2_2⟩ : S36) )) (Reps.none _ _)))
             intro v244 w54 ho55 hb hg_ hnew_
             clear hg_ hnew_
             (first | rw [← Ny243.out] at ho55 | (simp only [Int.reduceToNat] at ho55; rw [← Ny243.out] at ho55))
             have n0_ := Aside0.mk (Kd.R_below HP.out hb)
             have n1_ := Aside0.mk (Kd.R_elder' HR.out (Kd.R_base ho55) hb)
             have n2_ := Aside0.mk (Kd.R_lower (Kd.R_newB (Kd.R_new' ho55 (Kd.R_lt HR.out)) (g := gb) (o := .cells #[.int .i64 a2_0, .int .i64 a2_1, .int .i64 a2_2] 36 (0, 0)) (by (with_reducible repeat (first | refine blk_drewN ?_ _ | refine blk_drew ?_ | refine blk_alloc ?_ _)); exact BK.out)) (below_size (by repeat (first | (with_reducible first | exact HB.out | apply qA | apply qN | apply q1 | refine qS ?_ GE.out) | exact HB.out))))
             have n3_ := Aside0.mk (blk_below (g := gb) (o := .cells #[.int .i64 a2_0, .int .i64 a2_1, .int .i64 a2_2] 36 (0, 0)) (by (with_reducible repeat (first | refine blk_drewN ?_ _ | refine blk_drew ?_ | refine blk_alloc ?_ _)); exact BK.out) hb)
             have n4_ := Aside0.mk (below_step (by repeat (first | (with_reducible first | exact HB.out | apply qA | apply qN | apply q1 | refine qS ?_ GE.out) | exact HB.out)) hb)
             clear HP
             clear HR
             clear BK
             clear HB
             have HP := n0_
             have HR := n1_
             have HQ := n2_
             have BK := n3_
             have HB := n4_
             clear n0_ n1_ n2_ n3_ n4_
             clear hb ho55
             refine hK.out _ _ (qH BK.out) (fun hHeld => ?_)
             clear hK K
             refine norm_ (a' := ?_) ?_ ?_
             rotate_left
             ·show Act.put _ (some 47) _ = _
              simp only [Act.put, qT, qZ, qC, i64_w, i32_w]
              rfl
             exact norm_ (by simp only [putAll, Act.put, qT, qZ, qC]) (hCont (v238, v241, v244) _ ⟨hHeld, HP.out, (Kd.R_mono HR.out (fun _ hk => ⟨hk.2, hk.1⟩)), (Kd.R_mono HQ.out (fun _ hk => ⟨hk.1.2, hk.2⟩)), (by (with_reducible repeat (first | refine blk_drewN ?_ _ | refine blk_drew ?_ | refine blk_alloc ?_ _)); exact BK.out), (by repeat (first | (with_reducible first | exact HB.out | apply qA | apply qN | apply q1 | refine qS ?_ GE.out) | exact HB.out))⟩)
            ·skip
             refine Kd.R_lit_step k36 _ 36 ?hg (N := 47) ?hd (xs := ([(⟨a2_0, a2_1, a2_2⟩ : S36)] : List (S36))) (inner := [.int .i64 a2_0, .int .i64 a2_1, .int .i64 a2_2]) (ok := fun _ => True) (okp := fun _ => True) ?hr ?hp (fun _ hk => hk) trivial (Below.refl _ _) (Nat.le_refl _) (by simp) ?_; (case hd => rfl); (case hg => rfl); (case hr => first | (go_simp; done) | (go_simp; rfl)); (case hp => exact (Reps.c3 (show Kd.M k36 _ _ _ (⟨a2_0, a2_1, a2_2⟩ : S36) [.int .i64 a2_0, .int .i64 a2_1, .int .i64 a2_2] from (k36_mkM _ _ _ (⟨a2_0, a2_1, a2_2⟩ : S36) )) (Reps.none _ _)))
             intro v244 w53 ho54 hb hg_ hnew_
             clear hg_ hnew_
             (first | rw [← Ny243.out] at ho54 | (simp only [Int.reduceToNat] at ho54; rw [← Ny243.out] at ho54))
             have n0_ := Aside0.mk (Kd.R_below HP.out hb)
             have n1_ := Aside0.mk (Kd.R_elder' HO239.out (Kd.R_base ho54) hb)
             have n2_ := Aside0.mk (Kd.R_lower (Kd.R_newB (Kd.R_new' ho54 (Kd.R_lt HO239.out)) (g := gb) (o := .cells #[.int .i64 a2_0, .int .i64 a2_1, .int .i64 a2_2] 36 (0, 0)) (by (with_reducible repeat (first | refine blk_drewN ?_ _ | refine blk_drew ?_ | refine blk_alloc ?_ _)); exact BK.out)) (below_size (by repeat (first | (with_reducible first | exact HB.out | apply qA | apply qN | apply q1 | refine qS ?_ GE.out) | exact HB.out))))
             have n3_ := Aside0.mk (blk_below (g := gb) (o := .cells #[.int .i64 a2_0, .int .i64 a2_1, .int .i64 a2_2] 36 (0, 0)) (by (with_reducible repeat (first | refine blk_drewN ?_ _ | refine blk_drew ?_ | refine blk_alloc ?_ _)); exact BK.out) hb)
             have n4_ := Aside0.mk (below_step (by repeat (first | (with_reducible first | exact HB.out | apply qA | apply qN | apply q1 | refine qS ?_ GE.out) | exact HB.out)) hb)
             clear HP
             clear HO239
             clear BK
             clear HB
             have HP := n0_
             have HO239 := n1_
             have HQ := n2_
             have BK := n3_
             have HB := n4_
             clear n0_ n1_ n2_ n3_ n4_
             clear hb ho54
             refine hK.out _ _ (qH BK.out) (fun hHeld => ?_)
             clear hK K
             refine norm_ (a' := ?_) ?_ ?_
             rotate_left
             ·show Act.put _ (some 47) _ = _
              simp only [Act.put, qT, qZ, qC, i64_w, i32_w]
              rfl
             refine one_ (i := 3) (N := some 45) #[true, true, true, true, true, true, false, false, false, false, false, false, false, false, false] rfl rfl (one_of HT_.out (by kernel_rfl)) (by decide) (fun K hK => ?_)
             refine Kd.R_append_rows_step k36 (w0 := w) w.heap.size (by rfl) (.tmp 43) (.tmp 44) 22 36 (.agg #[(.int .i64 0), (.int .i64 0), (.int .i64 0)]) 24 rfl Try.underlying22 info36 rfl (by decide) (by omega) v238 y237 l1 _ _ _ (fun k_ => some k_ ≠ (v244 : Value).ownBlock ∧ k_ ≠ gb) (fun _ => False) rfl rfl ?aO ?aR (fun _ _ h => h) (fun _ h => h.elim) ?aF ?aB ?aS ?aL ?_
             (case aR => repeat (first | exact (Kd.C_below HR1.out HB.out) | (with_reducible refine Kd.C_alloc ?_ _) | (with_reducible refine Kd.C_drewN ?_ _) | (with_reducible refine Kd.C_drew ?_)))
             (case aB => exact (by repeat (first | (with_reducible first | exact HB.out | apply qA | apply qN | apply q1 | refine qS ?_ GE.out) | exact HB.out)))
             (case aF => exact (fun k_ hk => ⟨Kd.fresh' (Kd.R_lt HQ.out) k_ hk, Kd.freshB (g := gb) (o := .cells #[.int .i64 a2_0, .int .i64 a2_1, .int .i64 a2_2] 36 (0, 0)) (by (with_reducible repeat (first | refine blk_drewN ?_ _ | refine blk_drew ?_ | refine blk_alloc ?_ _)); exact BK.out) k_ hk⟩))
             (case aO => exact (Kd.R_mono HO239.out (fun _ hk => ⟨hk.2, hk.1.2⟩)))
             (case aS => exact (below_size (by repeat (first | (with_reducible first | exact HB.out | apply qA | apply qN | apply q1 | refine qS ?_ GE.out) | exact HB.out))))
             (case aL => have := LMc13.out; omega)
             intro v241 w55 ho hb hg hat
             rw [← Ny240.out] at ho
             have n0_ := Aside0.mk (blk_grown (g := gb) (o := .cells #[.int .i64 a2_0, .int .i64 a2_1, .int .i64 a2_2] 36 (0, 0)) (by (with_reducible repeat (first | refine blk_drewN ?_ _ | refine blk_drew ?_ | refine blk_alloc ?_ _)); exact BK.out) hg (Kd.R_away HO239.out (fun _ hk => hk.1.2)))
             have n1_ := Aside0.mk (Kd.R_over' HP.out (Kd.R_typed HO239.out) (by decide) hg)
             have n2_ := Aside0.mk (Kd.R_after (ok := (fun k_ => k_ ≠ gb)) (Kd.R_mono HQ.out (fun _ hk => ⟨hk.2, hk.1.2⟩)) hg hat)
             have n3_ := Aside0.mk (hb)
             have n4_ := Aside0.mk (ho)
             clear BK
             clear HP
             clear HQ
             clear HB
             clear HO239
             have BK := n0_
             have HP := n1_
             have HQ := n2_
             have HB := n3_
             have HR := n4_
             clear n0_ n1_ n2_ n3_ n4_
             clear ho hb hg hat
             refine hK.out _ _ (qH BK.out) (fun hHeld => ?_)
             clear hK K
             refine norm_ (a' := ?_) ?_ ?_
             rotate_left
             ·show Act.put _ (some 45) _ = _
              simp only [Act.put, qT, qZ, qC, i64_w, i32_w]
              rfl
             exact norm_ (by simp only [putAll, Act.put, qT, qZ, qC]) (hCont (v238, v241, v244) _ ⟨hHeld, HP.out, HR.out, (Kd.R_mono HQ.out (fun _ hk => ⟨hk.2, hk.1⟩)), (by (with_reducible repeat (first | refine blk_drewN ?_ _ | refine blk_drew ?_ | refine blk_alloc ?_ _)); exact BK.out), (by repeat (first | (with_reducible first | exact HB.out | apply qA | apply qN | apply q1 | refine qS ?_ GE.out) | exact HB.out))⟩)
           ·skip
            refine Kd.R_lit_step k36 _ 36 ?hg (N := 47) ?hd (xs := ([(⟨a2_0, a2_1, a2_2⟩ : S36)] : List (S36))) (inner := [.int .i64 a2_0, .int .i64 a2_1, .int .i64 a2_2]) (ok := fun _ => True) (okp := fun _ => True) ?hr ?hp (fun _ hk => hk) trivial (Below.refl _ _) (Nat.le_refl _) (by simp) ?_; (case hd => rfl); (case hg => rfl); (case hr => first | (go_simp; done) | (go_simp; rfl)); (case hp => exact (Reps.c3 (show Kd.M k36 _ _ _ (⟨a2_0, a2_1, a2_2⟩ : S36) [.int .i64 a2_0, .int .i64 a2_1, .int .i64 a2_2] from (k36_mkM _ _ _ (⟨a2_0, a2_1, a2_2⟩ : S36) )) (Reps.none _ _)))
            intro v244 w51 ho52 hb hg_ hnew_
            clear hg_ hnew_
            (first | rw [← Ny243.out] at ho52 | (simp only [Int.reduceToNat] at ho52; rw [← Ny243.out] at ho52))
            have n0_ := Aside0.mk (Kd.R_below HP.out hb)
            have n1_ := Aside0.mk (Kd.R_lower (Kd.R_newB ho52 (g := gb) (o := .cells #[.int .i64 a2_0, .int .i64 a2_1, .int .i64 a2_2] 36 (0, 0)) (by (with_reducible repeat (first | refine blk_drewN ?_ _ | refine blk_drew ?_ | refine blk_alloc ?_ _)); exact BK.out)) (below_size (by repeat (first | (with_reducible first | exact HB.out | apply qA | apply qN | apply q1 | refine qS ?_ GE.out) | exact HB.out))))
            have n2_ := Aside0.mk (blk_below (g := gb) (o := .cells #[.int .i64 a2_0, .int .i64 a2_1, .int .i64 a2_2] 36 (0, 0)) (by (with_reducible repeat (first | refine blk_drewN ?_ _ | refine blk_drew ?_ | refine blk_alloc ?_ _)); exact BK.out) hb)
            have n3_ := Aside0.mk (below_step (by repeat (first | (with_reducible first | exact HB.out | apply qA | apply qN | apply q1 | refine qS ?_ GE.out) | exact HB.out)) hb)
            clear HP
            clear BK
            clear HB
            have HP := n0_
            have HQ := n1_
            have BK := n2_
            have HB := n3_
            clear n0_ n1_ n2_ n3_
            clear hb ho52
            refine hK.out _ _ (qH BK.out) (fun hHeld => ?_)
            clear hK K
            refine norm_ (a' := ?_) ?_ ?_
            rotate_left
            ·show Act.put _ (some 47) _ = _
             simp only [Act.put, qT, qZ, qC, i64_w, i32_w]
             rfl
            refine one_ (i := 1) (N := some 43) #[true, true, true, false, true, true, false, false, false, false, false, false, false, false, false] rfl rfl (one_of HT_.out (by kernel_rfl)) (by decide) (fun K hK => ?_)
            refine Kd.R_lit_step k36 _ 36 ?hg (N := 43) ?hd (xs := ([] : List (S36))) (inner := []) (ok := fun _ => True) (okp := fun _ => True) ?hr ?hp (fun _ hk => hk) trivial (Below.refl _ _) (Nat.le_refl _) (by simp) ?_; (case hd => rfl); (case hg => rfl); (case hr => first | (go_simp; done) | (go_simp; rfl)); (case hp => exact (Reps.none _ _))
            intro v238 w53 ho54 hb hg_ hnew_
            clear hg_ hnew_
            (first | rw [← Ny237.out] at ho54 | (simp only [Int.reduceToNat] at ho54; rw [← Ny237.out] at ho54))
            have n0_ := Aside0.mk (Kd.R_below HP.out hb)
            have n1_ := Aside0.mk (Kd.R_elder' HQ.out (Kd.R_base ho54) hb)
            have n2_ := Aside0.mk (Kd.R_lower (Kd.R_newB (Kd.R_new' ho54 (Kd.R_lt HQ.out)) (g := gb) (o := .cells #[.int .i64 a2_0, .int .i64 a2_1, .int .i64 a2_2] 36 (0, 0)) (by (with_reducible repeat (first | refine blk_drewN ?_ _ | refine blk_drew ?_ | refine blk_alloc ?_ _)); exact BK.out)) (below_size (by repeat (first | (with_reducible first | exact HB.out | apply qA | apply qN | apply q1 | refine qS ?_ GE.out) | exact HB.out))))
            have n3_ := Aside0.mk (blk_below (g := gb) (o := .cells #[.int .i64 a2_0, .int .i64 a2_1, .int .i64 a2_2] 36 (0, 0)) (by (with_reducible repeat (first | refine blk_drewN ?_ _ | refine blk_drew ?_ | refine blk_alloc ?_ _)); exact BK.out) hb)
            have n4_ := Aside0.mk (below_step (by repeat (first | (with_reducible first | exact HB.out | apply qA | apply qN | apply q1 | refine qS ?_ GE.out) | exact HB.out)) hb)
            clear HP
            clear HQ
            clear BK
            clear HB
            have HP := n0_
            have HQ := n1_
            have HO239 := n2_
            have BK := n3_
            have HB := n4_
            clear n0_ n1_ n2_ n3_ n4_
            clear hb ho54
            refine hK.out _ _ (qH BK.out) (fun hHeld => ?_)
            clear hK K
            refine norm_ (a' := ?_) ?_ ?_
            rotate_left
            ·show Act.put _ (some 43) _ = _
             simp only [Act.put, qT, qZ, qC, i64_w, i32_w]
             rfl
            refine one_ (i := 3) (N := some 45) #[true, true, true, true, true, true, false, false, false, false, false, false, false, false, false] rfl rfl (one_of HT_.out (by kernel_rfl)) (by decide) (fun K hK => ?_)
            refine Kd.R_append_rows_step k36 (w0 := w) w.heap.size (by rfl) (.tmp 43) (.tmp 44) 22 36 (.agg #[(.int .i64 0), (.int .i64 0), (.int .i64 0)]) 24 rfl Try.underlying22 info36 rfl (by decide) (by omega) v238 y237 l1 _ _ _ (fun k_ => some k_ ≠ (v244 : Value).ownBlock ∧ k_ ≠ gb) (fun _ => False) rfl rfl ?aO ?aR (fun _ _ h => h) (fun _ h => h.elim) ?aF ?aB ?aS ?aL ?_
            (case aR => repeat (first | exact (Kd.C_below HR1.out HB.out) | (with_reducible refine Kd.C_alloc ?_ _) | (with_reducible refine Kd.C_drewN ?_ _) | (with_reducible refine Kd.C_drew ?_)))
            (case aB => exact (by repeat (first | (with_reducible first | exact HB.out | apply qA | apply qN | apply q1 | refine qS ?_ GE.out) | exact HB.out)))
            (case aF => exact (fun k_ hk => ⟨Kd.fresh' (Kd.R_lt HQ.out) k_ hk, Kd.freshB (g := gb) (o := .cells #[.int .i64 a2_0, .int .i64 a2_1, .int .i64 a2_2] 36 (0, 0)) (by (with_reducible repeat (first | refine blk_drewN ?_ _ | refine blk_drew ?_ | refine blk_alloc ?_ _)); exact BK.out) k_ hk⟩))
            (case aO => exact (Kd.R_mono HO239.out (fun _ hk => ⟨hk.1.2, hk.2⟩)))
            (case aS => exact (below_size (by repeat (first | (with_reducible first | exact HB.out | apply qA | apply qN | apply q1 | refine qS ?_ GE.out) | exact HB.out))))
            (case aL => have := LMc13.out; omega)
            intro v241 w55 ho hb hg hat
            rw [← Ny240.out] at ho
            have n0_ := Aside0.mk (blk_grown (g := gb) (o := .cells #[.int .i64 a2_0, .int .i64 a2_1, .int .i64 a2_2] 36 (0, 0)) (by (with_reducible repeat (first | refine blk_drewN ?_ _ | refine blk_drew ?_ | refine blk_alloc ?_ _)); exact BK.out) hg (Kd.R_away HO239.out (fun _ hk => hk.2)))
            have n1_ := Aside0.mk (Kd.R_over' HP.out (Kd.R_typed HO239.out) (by decide) hg)
            have n2_ := Aside0.mk (Kd.R_after (ok := (fun k_ => k_ ≠ gb)) (Kd.R_mono HQ.out (fun _ hk => ⟨hk.1.2, hk.2⟩)) hg hat)
            have n3_ := Aside0.mk (hb)
            have n4_ := Aside0.mk (ho)
            clear BK
            clear HP
            clear HQ
            clear HB
            clear HO239
            have BK := n0_
            have HP := n1_
            have HQ := n2_
            have HB := n3_
            have HR := n4_
            clear n0_ n1_ n2_ n3_ n4_
            clear ho hb hg hat
            refine hK.out _ _ (qH BK.out) (fun hHeld => ?_)
            clear hK K
            refine norm_ (a' := ?_) ?_ ?_
            rotate_left
            ·show Act.put _ (some 45) _ = _
             simp only [Act.put, qT, qZ, qC, i64_w, i32_w]
             rfl
            exact norm_ (by simp only [putAll, Act.put, qT, qZ, qC]) (hCont (v238, v241, v244) _ ⟨hHeld, HP.out, HR.out, (Kd.R_mono HQ.out (fun _ hk => ⟨hk.2, hk.1⟩)), (by (with_reducible repeat (first | refine blk_drewN ?_ _ | refine blk_drew ?_ | refine blk_alloc ?_ _)); exact BK.out), (by repeat (first | (with_reducible first | exact HB.out | apply qA | apply qN | apply q1 | refine qS ?_ GE.out) | exact HB.out))⟩)
          rintro ⟨v238, v241, v244⟩ w56 ⟨hS_, h0_, h1_, h2_, h3_, h4_⟩
          have n0_ : Aside0 (Kd.R (Kd.int .i64) 3 w56 w.heap.size (fun _ => True) v235 t232) := ⟨h0_⟩
          have n1_ : Aside0 (Kd.R k36 36 w56 w.heap.size (fun k_ => some k_ ≠ (v244 : Value).ownBlock ∧ k_ ≠ gb) v241 y240) := ⟨h1_⟩
          have n2_ : Aside0 (Kd.R k36 36 w56 w.heap.size (fun k_ => some k_ ≠ (v241 : Value).ownBlock ∧ k_ ≠ gb) v244 y243) := ⟨h2_⟩
          have n3_ : Aside0 (w56.heap[gb]? = some (.cells #[.int .i64 a2_0, .int .i64 a2_1, .int .i64 a2_2] 36 (0, 0))) := ⟨h3_⟩
          have n4_ : Aside0 (Below w.heap.size w w56) := ⟨h4_⟩
          clear HP
          clear BK
          clear HB
          clear h0_ h1_ h2_ h3_ h4_
          have HP := n0_
          have HR := n1_
          have HQ := n2_
          have BK := n3_
          have HB := n4_
          clear n0_ n1_ n2_ n3_ n4_
          have hHeld : w56.cell? ⟨gb, 0, none⟩ = some (.int .i64 a2_0) ∧ w56.cell? ⟨gb, 1, none⟩ = some (.int .i64 a2_1) ∧ w56.cell? ⟨gb, 2, none⟩ = some (.int .i64 a2_2) := hS_
          obtain ⟨Ao58, co58, eo58⟩ := Kd.R_slice HQ.out
          (first | subst eo58 | (injection eo58 with f1_ f2_ f3_; have f4_ := f1_.symm; have f5_ := f3_.symm; clear f1_ f2_ f3_; subst f4_; subst f5_))
          refine norm_ (a' := ?_) ?_ ?_
          rotate_left
          ·simp only [putAll, Act.put, qT, qZ, qC]
           rfl
          refine one_ (i := 6) (N := some 48) #[true, true, true, true, true, true, true, false, false, false, false, false, false, false, false] rfl rfl (one_of HT_.out (by kernel_rfl)) (by decide) (fun K hK => ?_)
          refine Kd.R_append_rows_step k36 (w0 := w) w.heap.size (by rfl) (.tmp 45) (.tmp 47) 22 36 (.agg #[(.int .i64 0), (.int .i64 0), (.int .i64 0)]) 24 rfl Try.underlying22 info36 rfl (by decide) (by omega) v241 y240 y243 _ _ _ (fun k_ => some k_ ≠ (.slice Ao58 y243.length co58 : Value).ownBlock ∧ k_ ≠ gb) (fun _ => False) rfl rfl ?aO ?aR (fun _ _ h => h) (fun _ h => h.elim) ?aF ?aB ?aS ?aL ?_
          (case aR => repeat (first | exact (Kd.R_reads' HQ.out).2.2 | (with_reducible refine Kd.C_alloc ?_ _) | (with_reducible refine Kd.C_drewN ?_ _) | (with_reducible refine Kd.C_drew ?_)))
          (case aB => exact (by repeat (first | (with_reducible first | exact HB.out | apply qA | apply qN | apply q1 | refine qS ?_ GE.out) | exact HB.out)))
          (case aF => exact (fun k_ hk => ⟨Kd.fresh' (Kd.R_lt HQ.out) k_ hk, Kd.freshB (g := gb) (o := .cells #[.int .i64 a2_0, .int .i64 a2_1, .int .i64 a2_2] 36 (0, 0)) (by (with_reducible repeat (first | refine blk_drewN ?_ _ | refine blk_drew ?_ | refine blk_alloc ?_ _)); exact BK.out) k_ hk⟩))
          (case aO => exact HR.out)
          (case aS => exact (below_size (by repeat (first | (with_reducible first | exact HB.out | apply qA | apply qN | apply q1 | refine qS ?_ GE.out) | exact HB.out))))
          (case aL => have := LMc14.out; omega)
          intro v247 w57 ho hb hg hat
          rw [← Ny246.out] at ho
          have n0_ := Aside0.mk (blk_grown (g := gb) (o := .cells #[.int .i64 a2_0, .int .i64 a2_1, .int .i64 a2_2] 36 (0, 0)) (by (with_reducible repeat (first | refine blk_drewN ?_ _ | refine blk_drew ?_ | refine blk_alloc ?_ _)); exact BK.out) hg (Kd.R_away HR.out (fun _ hk => hk.2)))
          have n1_ := Aside0.mk (Kd.R_over' HP.out (Kd.R_typed HR.out) (by decide) hg)
          have n2_ := Aside0.mk (Kd.R_after (ok := (fun k_ => k_ ≠ gb)) (Kd.R_mono HQ.out (fun _ hk => ⟨hk.2, hk.1⟩)) hg hat)
          have n3_ := Aside0.mk (hb)
          have n4_ := Aside0.mk (ho)
          clear BK
          clear HP
          clear HQ
          clear HB
          clear HR
          have BK := n0_
          have HP := n1_
          have HQ := n2_
          have HB := n3_
          have HO248 := n4_
          clear n0_ n1_ n2_ n3_ n4_
          clear ho hb hg hat
          obtain ⟨Ao59, co59, eo59⟩ := Kd.R_slice HO248.out
          (first | subst eo59 | (injection eo59 with f1_ f2_ f3_; have f4_ := f1_.symm; have f5_ := f3_.symm; clear f1_ f2_ f3_; subst f4_; subst f5_))
          refine hK.out _ _ (qH BK.out) (fun hHeld => ?_)
          clear hK K
          refine norm_ (a' := ?_) ?_ ?_
          rotate_left
          ·show Act.put _ (some 48) _ = _
           simp only [Act.put, qT, qZ, qC, i64_w, i32_w]
           rfl
          refine one_ (i := 7) (N := some 49) #[true, true, true, true, true, true, true, true, false, false, false, false, false, false, false] rfl rfl (one_of HT_.out (by kernel_rfl)) (by decide) (fun K hK => ?_)
          refine goes_ Try.func10 (by kernel_rfl) rfl #[.int .i64 a0, .slice Ao59 y246.length co59, .int .i64 7, .int .i64 1099511627776] (by rfl) rfl rfl (by (try simp only [List.map_toArray, List.map_cons, List.map_nil]); first | done | rfl | (simp only [List.length_drop, List.length_take]; rfl)) ?_
          with_reducible refine (cover_Best.calls a0 _ _ y246 7 1099511627776 t249 t250 t251 _ ?side1 ?side2 A15.out).mono ?_
          (case side1 => repeat (first | exact (Kd.R_reads' HO248.out).2.2 | (with_reducible refine Kd.C_alloc ?_ _) | (with_reducible refine Kd.C_drewN ?_ _) | (with_reducible refine Kd.C_drew ?_)))
          (case side2 => exact (Kd.R_reads' HO248.out).2.1)
          rintro e w60 ⟨v252, rfl, ho0, hb⟩
          refine ⟨_, rfl, ?_⟩
          have n0_ := Aside0.mk (Kd.R_elder' HP.out (Kd.R_base ho0) hb)
          have n1_ := Aside0.mk (Kd.R_below HQ.out hb)
          have n2_ := Aside0.mk (Kd.R_below HO248.out hb)
          have n3_ := Aside0.mk (Kd.R_lower (Kd.R_new' ho0 (Kd.R_lt HP.out)) (below_size (by repeat (first | (with_reducible first | exact HB.out | apply qA | apply qN | apply q1 | refine qS ?_ GE.out) | exact HB.out))))
          have n4_ := Aside0.mk (blk_below (g := gb) (o := .cells #[.int .i64 a2_0, .int .i64 a2_1, .int .i64 a2_2] 36 (0, 0)) (by (with_reducible repeat (first | refine blk_drewN ?_ _ | refine blk_drew ?_ | refine blk_alloc ?_ _)); exact BK.out) hb)
          have n5_ := Aside0.mk (below_step (by repeat (first | (with_reducible first | exact HB.out | apply qA | apply qN | apply q1 | refine qS ?_ GE.out) | exact HB.out)) hb)
          clear HP
          clear HQ
          clear HO248
          clear BK
          clear HB
          have HP := n0_
          have HQ := n1_
          have HO248 := n2_
          have HO253 := n3_
          have BK := n4_
          have HB := n5_
          clear n0_ n1_ n2_ n3_ n4_ n5_
          (try clear hb)
          (try clear hb2)
          (try clear hk)
          (try clear hi)
          (try clear ho0)
          refine hK.out _ _ (qH BK.out) (fun hHeld => ?_)
          clear hK K
          refine norm_ (a' := ?_) ?_ ?_
          rotate_left
          ·show Act.put _ (some 49) _ = _
           simp only [Act.put, qT, qZ, qC, i64_w, i32_w]
           rfl
          refine pure_ (i := 8) (N := some 41) (v := ?_) (a' := ?_) #[true, true, true, true, true, true, true, true, true, false, false, false, false, false, false] rfl rfl (any_of HT_.out (by kernel_rfl)) (fun _ _ _ h => h) (Or.inl ⟨by rfl, ?_⟩) ?_ ?_
          rotate_left
          ·intro w'
           go_simp
           with_reducible rfl
          rotate_left
          ·simp only [Act.put, qT, qZ, qC, i64_w, i32_w]
           rfl
          refine pure_ (i := 9) (N := some 50) (v := ?_) (a' := ?_) #[true, true, true, true, true, true, true, true, true, true, false, false, false, false, false] rfl rfl (any_of HT_.out (by kernel_rfl)) (fun _ _ _ h => h) (Or.inl ⟨by rfl, ?_⟩) ?_ ?_
          rotate_left
          ·intro w'
           go_simp
           with_reducible rfl
          rotate_left
          ·simp only [Act.put, qT, qZ, qC, i64_w, i32_w]
           rfl
          refine pure_ (i := 10) (N := some 51) (v := ?_) (a' := ?_) #[true, true, true, true, true, true, true, true, true, true, true, false, false, false, false] rfl rfl (any_of HT_.out (by kernel_rfl)) (fun _ _ _ h => h) (Or.inl ⟨by rfl, ?_⟩) ?_ ?_
          rotate_left
          ·intro w'
           go_simp
           with_reducible rfl
          rotate_left
          ·simp only [Act.put, qT, qZ, qC, i64_w, i32_w]
           rfl
          refine pure_ (i := 11) (N := some 52) (v := ?_) (a' := ?_) #[true, true, true, true, true, true, true, true, true, true, true, true, false, false, false] rfl rfl (any_of HT_.out (by kernel_rfl)) (fun _ _ _ h => h) (Or.inl ⟨by rfl, ?_⟩) ?_ ?_
          rotate_left
          ·intro w'
           go_simp
           with_reducible rfl
          rotate_left
          ·simp only [Act.put, qT, qZ, qC, i64_w, i32_w]
           rfl
          refine pure_ (i := 12) (N := some 11) (v := ?_) (a' := ?_) #[true, true, true, true, true, true, true, true, true, true, true, true, true, false, false] rfl rfl (any_of HT_.out (by kernel_rfl)) (fun _ _ _ h => h) (Or.inl ⟨by rfl, ?_⟩) ?_ ?_
          rotate_left
          ·intro w'
           go_simp
           with_reducible rfl
          rotate_left
          ·simp only [Act.put, qT, qZ, qC, i64_w, i32_w]
           rfl
          refine pure_ (i := 13) (N := some 12) (v := ?_) (a' := ?_) #[true, true, true, true, true, true, true, true, true, true, true, true, true, true, false] rfl rfl (any_of HT_.out (by kernel_rfl)) (fun _ _ _ h => h) (Or.inl ⟨by rfl, ?_⟩) ?_ ?_
          rotate_left
          ·intro w'
           go_simp
           with_reducible rfl
          rotate_left
          ·simp only [Act.put, qT, qZ, qC, i64_w, i32_w]
           rfl
          refine pure_ (i := 14) (N := some 13) (v := ?_) (a' := ?_) #[true, true, true, true, true, true, true, true, true, true, true, true, true, true, true] rfl rfl (any_of HT_.out (by kernel_rfl)) (fun _ _ _ h => h) (Or.inl ⟨by rfl, ?_⟩) ?_ ?_
          rotate_left
          ·intro w'
           go_simp
           with_reducible rfl
          rotate_left
          ·simp only [Act.put, qT, qZ, qC, i64_w, i32_w]
           rfl
          refine done_ (done_of HT_.out (by kernel_rfl)) ?_
          try go_wp2_with (first | ((with_reducible refine gate_callee (f := 10) rfl ?_); refine goesL_ (some 56) rfl rfl Try.func10 (by kernel_rfl) rfl #[.int .i64 a0, .slice A1 l1.length c1, .int .i64 9, .int .i64 1099511627776] rfl (by (try simp only [List.map_toArray, List.map_cons, List.map_nil]); first | done | rfl | (simp only [List.length_drop, List.length_take]; rfl)) ?_; (with_reducible refine (cover_Best.calls a0 _ _ l1 9 1099511627776 t254 t255 t256 _ ?side1 ?side2 A16.out).mono ?_); (case side1 => repeat (first | exact (Kd.C_below HR1.out HB.out) | (with_reducible refine Kd.C_alloc ?_ _) | (with_reducible refine Kd.C_drewN ?_ _) | (with_reducible refine Kd.C_drew ?_))); (case side2 => exact HC1.out); rintro e w61 ⟨v257, rfl, ho0, hb⟩; refine ⟨_, rfl, ?_⟩; have n0_ := Aside0.mk (Kd.R_elder' HP.out (Kd.R_base ho0) hb); have n1_ := Aside0.mk (Kd.R_below HQ.out hb); have n2_ := Aside0.mk (Kd.R_below HO248.out hb); have n3_ := Aside0.mk (Kd.R_elder' HO253.out (Kd.R_base ho0) hb); have n4_ := Aside0.mk (Kd.R_lower (Kd.R_new' (Kd.R_new' ho0 (Kd.R_lt HP.out)) (Kd.R_lt HO253.out)) (below_size (by repeat (first | (with_reducible first | exact HB.out | apply qA | apply qN | apply q1 | refine qS ?_ GE.out) | exact HB.out)))); have n5_ := Aside0.mk (blk_below (g := gb) (o := .cells #[.int .i64 a2_0, .int .i64 a2_1, .int .i64 a2_2] 36 (0, 0)) (by (with_reducible repeat (first | refine blk_drewN ?_ _ | refine blk_drew ?_ | refine blk_alloc ?_ _)); exact BK.out) hb); have n6_ := Aside0.mk (below_step (by repeat (first | (with_reducible first | exact HB.out | apply qA | apply qN | apply q1 | refine qS ?_ GE.out) | exact HB.out)) hb); clear HP; clear HQ; clear HO248; clear HO253; clear BK; clear HB; have HP := n0_; have HQ := n1_; have HO248 := n2_; have HO253 := n3_; have HO258 := n4_; have BK := n5_; have HB := n6_; clear n0_ n1_ n2_ n3_ n4_ n5_ n6_; (try clear hb); (try clear hb2); (try clear hk); (try clear hi); (try clear ho0)))
          go_ret
          exact ⟨by first | rfl | (simp [errW_none, errW_some] <;> rfl) | (simp [*, errW_none, errW_some] <;> rfl), by repeat (first | (with_reducible first | exact HB.out | apply qA | apply qN | apply q1 | refine qS ?_ GE.out) | exact HB.out)⟩
        ·rw [if_neg c19] at H
         have c19b0 : decide (t233 ≤ t255) = false := decide_eq_false c19
         clear c19
         obtain rfl := Option.some.inj H
         try go_wp2_with (first | ((with_reducible refine gate_callee (f := 10) rfl ?_); refine goesL_ (some 37) rfl rfl Try.func10 (by kernel_rfl) rfl #[.int .i64 a0, .slice A1 l1.length c1, .int .i64 7, .int .i64 1099511627776] rfl (by (try simp only [List.map_toArray, List.map_cons, List.map_nil]); first | done | rfl | (simp only [List.length_drop, List.length_take]; rfl)) ?_; (with_reducible refine (cover_Best.calls a0 _ _ l1 7 1099511627776 t232 t233 t234 _ ?side1 ?side2 A12.out).mono ?_); (case side1 => repeat (first | exact (Kd.C_below HR1.out HB.out) | (with_reducible refine Kd.C_alloc ?_ _) | (with_reducible refine Kd.C_drewN ?_ _) | (with_reducible refine Kd.C_drew ?_))); (case side2 => exact HC1.out); rintro e w62 ⟨v235, rfl, ho0, hb⟩; refine ⟨_, rfl, ?_⟩; have n0_ := Aside0.mk (Kd.R_lower ho0 (below_size (by repeat (first | (with_reducible first | exact HB.out | apply qA | apply qN | apply q1 | refine qS ?_ GE.out) | exact HB.out)))); have n1_ := Aside0.mk (blk_below (g := gb) (o := .cells #[.int .i64 a2_0, .int .i64 a2_1, .int .i64 a2_2] 36 (0, 0)) (by (with_reducible repeat (first | refine blk_drewN ?_ _ | refine blk_drew ?_ | refine blk_alloc ?_ _)); exact BK.out) hb); have n2_ := Aside0.mk (below_step (by repeat (first | (with_reducible first | exact HB.out | apply qA | apply qN | apply q1 | refine qS ?_ GE.out) | exact HB.out)) hb); clear BK; clear HB; have HP := n0_; have BK := n1_; have HB := n2_; clear n0_ n1_ n2_; (try clear hb); (try clear hb2); (try clear hk); (try clear hi); (try clear ho0)))
         have n0_ := Aside0.mk (Kd.R_drew HP.out)
         have n1_ := Aside0.mk (blk_drew BK.out)
         have n2_ := Aside0.mk (below_drew1 HB.out)
         clear HP
         clear BK
         clear HB
         have HP := n0_
         have BK := n1_
         have HB := n2_
         clear n0_ n1_ n2_
         refine start_ (n := 15) (S := fun w' => w'.cell? ⟨gb, 0, none⟩ = some (.int .i64 a2_0) ∧ w'.cell? ⟨gb, 1, none⟩ = some (.int .i64 a2_1) ∧ w'.cell? ⟨gb, 2, none⟩ = some (.int .i64 a2_2)) (ds := []) #[false, false, false, false, false, false, false, false, false, false, false, false, false, false, false] (by kernel_rfl) rfl rfl (qH BK.out) (fun hHeld => ?_); refine with_tabW scansionlaw19_CoverMore.tab5 scansionlaw19_CoverMore.bits5 (fun HT_ HW_ => ?_)
         generalize w62.drew = w63 at HP BK HB hHeld ⊢
         refine pure_ (i := 0) (N := some 42) (v := ?_) (a' := ?_) #[true, false, false, false, false, false, false, false, false, false, false, false, false, false, false] rfl rfl (any_of HT_.out (by kernel_rfl)) (fun _ _ _ h => h) (Or.inl ⟨by rfl, ?_⟩) ?_ ?_
         rotate_left
         ·intro w'
          go_simp
          with_reducible rfl
         rotate_left
         ·simp only [Act.put, qT, qZ, qC, i64_w, i32_w]
          rfl
         refine pure_ (i := 2) (N := some 44) (v := ?_) (a' := ?_) #[true, false, true, false, false, false, false, false, false, false, false, false, false, false, false] rfl rfl (any_of HT_.out (by kernel_rfl)) (fun _ _ _ h => h) (Or.inl ⟨by rfl, ?_⟩) ?_ ?_
         rotate_left
         ·intro w'
          go_simp
          with_reducible rfl
         rotate_left
         ·simp only [Act.put, qT, qZ, qC, i64_w, i32_w]
          rfl
         refine take_ (i := 4) (N := some 46) (v := ?_) (a' := ?_) #[true, false, true, false, true, false, false, false, false, false, false, false, false, false, false] rfl rfl (take_ofW HT_.out HW_.out (by kernel_rfl)) (fun _ _ _ h => h) (Or.inl ⟨by rfl, ?_⟩) hHeld ?_ ?_
         rotate_left
         ·rintro w' ⟨s0, s1, s2⟩
          go_simp
          with_reducible rfl
         rotate_left
         ·simp only [Act.put, qT, qZ, qC, i64_w, i32_w]
          rfl
         refine join_ (σ := Value × Value × Value) 9 #[true, true, true, true, true, true, false, false, false, false, false, false, false, false, false] (fun s_ => [(43, s_.1), (45, s_.2.1), (47, s_.2.2)]) (fun s_ w' => (w'.cell? ⟨gb, 0, none⟩ = some (.int .i64 a2_0) ∧ w'.cell? ⟨gb, 1, none⟩ = some (.int .i64 a2_1) ∧ w'.cell? ⟨gb, 2, none⟩ = some (.int .i64 a2_2)) ∧ (Kd.R (Kd.int .i64) 3 w' w.heap.size (fun _ => True) v235 t232) ∧ (Kd.R k36 36 w' w.heap.size (fun k_ => some k_ ≠ (s_.2.2 : Value).ownBlock ∧ k_ ≠ gb) s_.2.1 y240) ∧ (Kd.R k36 36 w' w.heap.size (fun k_ => some k_ ≠ (s_.2.1 : Value).ownBlock ∧ k_ ≠ gb) s_.2.2 y243) ∧ (w'.heap[gb]? = some (.cells #[.int .i64 a2_0, .int .i64 a2_1, .int .i64 a2_2] 36 (0, 0))) ∧ (Below w.heap.size w w')) ?_ ?_
         rotate_left
         ·intro hCont
          refine two_ (i := 1) (j := 5) (Ni := some 43) (Nj := some 47) #[true, true, true, false, true, false, false, false, false, false, false, false, false, false, false] #[true, false, true, false, true, true, false, false, false, false, false, false, false, false, false] rfl rfl rfl rfl (two_of HT_.out (by kernel_rfl)) (by decide) (by decide) (fun K hK => ?_) (fun K hK => ?_)
          ·skip
           refine Kd.R_lit_step k36 _ 36 ?hg (N := 43) ?hd (xs := ([] : List (S36))) (inner := []) (ok := fun _ => True) (okp := fun _ => True) ?hr ?hp (fun _ hk => hk) trivial (Below.refl _ _) (Nat.le_refl _) (by simp) ?_; (case hd => rfl); (case hg => rfl); (case hr => first | (go_simp; done) | (go_simp; rfl)); (case hp => exact (Reps.none _ _))
           intro v238 w64 ho65 hb hg_ hnew_
           clear hg_ hnew_
           (first | rw [← Ny237.out] at ho65 | (simp only [Int.reduceToNat] at ho65; rw [← Ny237.out] at ho65))
           have n0_ := Aside0.mk (Kd.R_below HP.out hb)
           have n1_ := Aside0.mk (Kd.R_lower (Kd.R_newB ho65 (g := gb) (o := .cells #[.int .i64 a2_0, .int .i64 a2_1, .int .i64 a2_2] 36 (0, 0)) (by (with_reducible repeat (first | refine blk_drewN ?_ _ | refine blk_drew ?_ | refine blk_alloc ?_ _)); exact BK.out)) (below_size (by repeat (first | (with_reducible first | exact HB.out | apply qA | apply qN | apply q1 | refine qS ?_ GE.out) | exact HB.out))))
           have n2_ := Aside0.mk (blk_below (g := gb) (o := .cells #[.int .i64 a2_0, .int .i64 a2_1, .int .i64 a2_2] 36 (0, 0)) (by (with_reducible repeat (first | refine blk_drewN ?_ _ | refine blk_drew ?_ | refine blk_alloc ?_ _)); exact BK.out) hb)
           have n3_ := Aside0.mk (below_step (by repeat (first | (with_reducible first | exact HB.out | apply qA | apply qN | apply q1 | refine qS ?_ GE.out) | exact HB.out)) hb)
           clear HP
           clear BK
           clear HB
           have HP := n0_
           have HO239 := n1_
           have BK := n2_
           have HB := n3_
           clear n0_ n1_ n2_ n3_
           clear hb ho65
           refine hK.out _ _ (qH BK.out) (fun hHeld => ?_)
           clear hK K
           refine norm_ (a' := ?_) ?_ ?_
           rotate_left
           ·show Act.put _ (some 43) _ = _
            simp only [Act.put, qT, qZ, qC, i64_w, i32_w]
            rfl
           refine two_ (i := 3) (j := 5) (Ni := some 45) (Nj := some 47) #[true, true, true, true, true, false, false, false, false, false, false, false, false, false, false] #[true, true, true, false, true, true, false, false, false, false, false, false, false, false, false] rfl rfl rfl rfl (two_of HT_.out (by kernel_rfl)) (by decide) (by decide) (fun K hK => ?_) (fun K hK => ?_)
           ·skip
            refine Kd.R_append_rows_step k36 (w0 := w) w.heap.size (by rfl) (.tmp 43) (.tmp 44) 22 36 (.agg #[(.int .i64 0), (.int .i64 0), (.int .i64 0)]) 24 rfl Try.underlying22 info36 rfl (by decide) (by omega) v238 y237 l1 _ _ _ (fun k_ => k_ ≠ gb) (fun _ => False) rfl rfl ?aO ?aR (fun _ _ h => h) (fun _ h => h.elim) ?aF ?aB ?aS ?aL ?_
            (case aR => repeat (first | exact (Kd.C_below HR1.out HB.out) | (with_reducible refine Kd.C_alloc ?_ _) | (with_reducible refine Kd.C_drewN ?_ _) | (with_reducible refine Kd.C_drew ?_)))
            (case aB => exact (by repeat (first | (with_reducible first | exact HB.out | apply qA | apply qN | apply q1 | refine qS ?_ GE.out) | exact HB.out)))
            (case aF => exact (fun k_ hk => Kd.freshB (g := gb) (o := .cells #[.int .i64 a2_0, .int .i64 a2_1, .int .i64 a2_2] 36 (0, 0)) (by (with_reducible repeat (first | refine blk_drewN ?_ _ | refine blk_drew ?_ | refine blk_alloc ?_ _)); exact BK.out) k_ hk))
            (case aO => exact (Kd.R_mono HO239.out (fun _ hk => hk.2)))
            (case aS => exact (below_size (by repeat (first | (with_reducible first | exact HB.out | apply qA | apply qN | apply q1 | refine qS ?_ GE.out) | exact HB.out))))
            (case aL => have := LMc13.out; omega)
            intro v241 w66 ho hb hg hat
            rw [← Ny240.out] at ho
            have n0_ := Aside0.mk (blk_grown (g := gb) (o := .cells #[.int .i64 a2_0, .int .i64 a2_1, .int .i64 a2_2] 36 (0, 0)) (by (with_reducible repeat (first | refine blk_drewN ?_ _ | refine blk_drew ?_ | refine blk_alloc ?_ _)); exact BK.out) hg (Kd.R_away HO239.out (fun _ hk => hk.2)))
            have n1_ := Aside0.mk (Kd.R_over' HP.out (Kd.R_typed HO239.out) (by decide) hg)
            have n2_ := Aside0.mk (hb)
            have n3_ := Aside0.mk (ho)
            clear BK
            clear HP
            clear HB
            clear HO239
            have BK := n0_
            have HP := n1_
            have HB := n2_
            have HR := n3_
            clear n0_ n1_ n2_ n3_
            clear ho hb hg hat
            refine hK.out _ _ (qH BK.out) (fun hHeld => ?_)
            clear hK K
            refine norm_ (a' := ?_) ?_ ?_
            rotate_left
            ·show Act.put _ (some 45) _ = _
             simp only [Act.put, qT, qZ, qC, i64_w, i32_w]
             rfl
            refine one_ (i := 5) (N := some 47) #[true, true, true, true, true, true, false, false, false, false, false, false, false, false, false] rfl rfl (one_of HT_.out (by kernel_rfl)) (by decide) (fun K hK => ?_)
            refine Kd.R_lit_step k36 _ 36 ?hg (N := 47) ?hd (xs := ([(⟨a2_0, a2_1, a2_2⟩ : S36)] : List (S36))) (inner := [.int .i64 a2_0, .int .i64 a2_1, .int .i64 a2_2]) (ok := fun _ => True) (okp := fun _ => True) ?hr ?hp (fun _ hk => hk) trivial (Below.refl _ _) (Nat.le_refl _) (by simp) ?_; (case hd => rfl); (case hg => rfl); (case hr => first | (go_simp; done) | (go_simp; rfl)); (case hp => exact (Reps.c3 (show Kd.M k36 _ _ _ (⟨a2_0, a2_1, a2_2⟩ : S36) [.int .i64 a2_0, .int .i64 a2_1, .int .i64 a2_2] from (k36_mkM _ _ _ (⟨a2_0, a2_1, a2_2⟩ : S36) )) (Reps.none _ _)))
            intro v244 w67 ho68 hb hg_ hnew_
            clear hg_ hnew_
            (first | rw [← Ny243.out] at ho68 | (simp only [Int.reduceToNat] at ho68; rw [← Ny243.out] at ho68))
            have n0_ := Aside0.mk (Kd.R_below HP.out hb)
            have n1_ := Aside0.mk (Kd.R_elder' HR.out (Kd.R_base ho68) hb)
            have n2_ := Aside0.mk (Kd.R_lower (Kd.R_newB (Kd.R_new' ho68 (Kd.R_lt HR.out)) (g := gb) (o := .cells #[.int .i64 a2_0, .int .i64 a2_1, .int .i64 a2_2] 36 (0, 0)) (by (with_reducible repeat (first | refine blk_drewN ?_ _ | refine blk_drew ?_ | refine blk_alloc ?_ _)); exact BK.out)) (below_size (by repeat (first | (with_reducible first | exact HB.out | apply qA | apply qN | apply q1 | refine qS ?_ GE.out) | exact HB.out))))
            have n3_ := Aside0.mk (blk_below (g := gb) (o := .cells #[.int .i64 a2_0, .int .i64 a2_1, .int .i64 a2_2] 36 (0, 0)) (by (with_reducible repeat (first | refine blk_drewN ?_ _ | refine blk_drew ?_ | refine blk_alloc ?_ _)); exact BK.out) hb)
            have n4_ := Aside0.mk (below_step (by repeat (first | (with_reducible first | exact HB.out | apply qA | apply qN | apply q1 | refine qS ?_ GE.out) | exact HB.out)) hb)
            clear HP
            clear HR
            clear BK
            clear HB
            have HP := n0_
            have HR := n1_
            have HQ := n2_
            have BK := n3_
            have HB := n4_
            clear n0_ n1_ n2_ n3_ n4_
            clear hb ho68
            refine hK.out _ _ (qH BK.out) (fun hHeld => ?_)
            clear hK K
            refine norm_ (a' := ?_) ?_ ?_
            rotate_left
            ·show Act.put _ (some 47) _ = _
             simp only [Act.put, qT, qZ, qC, i64_w, i32_w]
             rfl
            exact norm_ (by simp only [putAll, Act.put, qT, qZ, qC]) (hCont (v238, v241, v244) _ ⟨hHeld, HP.out, (Kd.R_mono HR.out (fun _ hk => ⟨hk.2, hk.1⟩)), (Kd.R_mono HQ.out (fun _ hk => ⟨hk.1.2, hk.2⟩)), (by (with_reducible repeat (first | refine blk_drewN ?_ _ | refine blk_drew ?_ | refine blk_alloc ?_ _)); exact BK.out), (by repeat (first | (with_reducible first | exact HB.out | apply qA | apply qN | apply q1 | refine qS ?_ GE.out) | exact HB.out))⟩)
           ·skip
            refine Kd.R_lit_step k36 _ 36 ?hg (N := 47) ?hd (xs := ([(⟨a2_0, a2_1, a2_2⟩ : S36)] : List (S36))) (inner := [.int .i64 a2_0, .int .i64 a2_1, .int .i64 a2_2]) (ok := fun _ => True) (okp := fun _ => True) ?hr ?hp (fun _ hk => hk) trivial (Below.refl _ _) (Nat.le_refl _) (by simp) ?_; (case hd => rfl); (case hg => rfl); (case hr => first | (go_simp; done) | (go_simp; rfl)); (case hp => exact (Reps.c3 (show Kd.M k36 _ _ _ (⟨a2_0, a2_1, a2_2⟩ : S36) [.int .i64 a2_0, .int .i64 a2_1, .int .i64 a2_2] from (k36_mkM _ _ _ (⟨a2_0, a2_1, a2_2⟩ : S36) )) (Reps.none _ _)))
            intro v244 w66 ho67 hb hg_ hnew_
            clear hg_ hnew_
            (first | rw [← Ny243.out] at ho67 | (simp only [Int.reduceToNat] at ho67; rw [← Ny243.out] at ho67))
            have n0_ := Aside0.mk (Kd.R_below HP.out hb)
            have n1_ := Aside0.mk (Kd.R_elder' HO239.out (Kd.R_base ho67) hb)
            have n2_ := Aside0.mk (Kd.R_lower (Kd.R_newB (Kd.R_new' ho67 (Kd.R_lt HO239.out)) (g := gb) (o := .cells #[.int .i64 a2_0, .int .i64 a2_1, .int .i64 a2_2] 36 (0, 0)) (by (with_reducible repeat (first | refine blk_drewN ?_ _ | refine blk_drew ?_ | refine blk_alloc ?_ _)); exact BK.out)) (below_size (by repeat (first | (with_reducible first | exact HB.out | apply qA | apply qN | apply q1 | refine qS ?_ GE.out) | exact HB.out))))
            have n3_ := Aside0.mk (blk_below (g := gb) (o := .cells #[.int .i64 a2_0, .int .i64 a2_1, .int .i64 a2_2] 36 (0, 0)) (by (with_reducible repeat (first | refine blk_drewN ?_ _ | refine blk_drew ?_ | refine blk_alloc ?_ _)); exact BK.out) hb)
            have n4_ := Aside0.mk (below_step (by repeat (first | (with_reducible first | exact HB.out | apply qA | apply qN | apply q1 | refine qS ?_ GE.out) | exact HB.out)) hb)
            clear HP
            clear HO239
            clear BK
            clear HB
            have HP := n0_
            have HO239 := n1_
            have HQ := n2_
            have BK := n3_
            have HB := n4_
            clear n0_ n1_ n2_ n3_ n4_
            clear hb ho67
            refine hK.out _ _ (qH BK.out) (fun hHeld => ?_)
            clear hK K
            refine norm_ (a' := ?_) ?_ ?_
            rotate_left
            ·show Act.put _ (some 47) _ = _
             simp only [Act.put, qT, qZ, qC, i64_w, i32_w]
             rfl
            refine one_ (i := 3) (N := some 45) #[true, true, true, true, true, true, false, false, false, false, false, false, false, false, false] rfl rfl (one_of HT_.out (by kernel_rfl)) (by decide) (fun K hK => ?_)
            refine Kd.R_append_rows_step k36 (w0 := w) w.heap.size (by rfl) (.tmp 43) (.tmp 44) 22 36 (.agg #[(.int .i64 0), (.int .i64 0), (.int .i64 0)]) 24 rfl Try.underlying22 info36 rfl (by decide) (by omega) v238 y237 l1 _ _ _ (fun k_ => some k_ ≠ (v244 : Value).ownBlock ∧ k_ ≠ gb) (fun _ => False) rfl rfl ?aO ?aR (fun _ _ h => h) (fun _ h => h.elim) ?aF ?aB ?aS ?aL ?_
            (case aR => repeat (first | exact (Kd.C_below HR1.out HB.out) | (with_reducible refine Kd.C_alloc ?_ _) | (with_reducible refine Kd.C_drewN ?_ _) | (with_reducible refine Kd.C_drew ?_)))
            (case aB => exact (by repeat (first | (with_reducible first | exact HB.out | apply qA | apply qN | apply q1 | refine qS ?_ GE.out) | exact HB.out)))
            (case aF => exact (fun k_ hk => ⟨Kd.fresh' (Kd.R_lt HQ.out) k_ hk, Kd.freshB (g := gb) (o := .cells #[.int .i64 a2_0, .int .i64 a2_1, .int .i64 a2_2] 36 (0, 0)) (by (with_reducible repeat (first | refine blk_drewN ?_ _ | refine blk_drew ?_ | refine blk_alloc ?_ _)); exact BK.out) k_ hk⟩))
            (case aO => exact (Kd.R_mono HO239.out (fun _ hk => ⟨hk.2, hk.1.2⟩)))
            (case aS => exact (below_size (by repeat (first | (with_reducible first | exact HB.out | apply qA | apply qN | apply q1 | refine qS ?_ GE.out) | exact HB.out))))
            (case aL => have := LMc13.out; omega)
            intro v241 w68 ho hb hg hat
            rw [← Ny240.out] at ho
            have n0_ := Aside0.mk (blk_grown (g := gb) (o := .cells #[.int .i64 a2_0, .int .i64 a2_1, .int .i64 a2_2] 36 (0, 0)) (by (with_reducible repeat (first | refine blk_drewN ?_ _ | refine blk_drew ?_ | refine blk_alloc ?_ _)); exact BK.out) hg (Kd.R_away HO239.out (fun _ hk => hk.1.2)))
            have n1_ := Aside0.mk (Kd.R_over' HP.out (Kd.R_typed HO239.out) (by decide) hg)
            have n2_ := Aside0.mk (Kd.R_after (ok := (fun k_ => k_ ≠ gb)) (Kd.R_mono HQ.out (fun _ hk => ⟨hk.2, hk.1.2⟩)) hg hat)
            have n3_ := Aside0.mk (hb)
            have n4_ := Aside0.mk (ho)
            clear BK
            clear HP
            clear HQ
            clear HB
            clear HO239
            have BK := n0_
            have HP := n1_
            have HQ := n2_
            have HB := n3_
            have HR := n4_
            clear n0_ n1_ n2_ n3_ n4_
            clear ho hb hg hat
            refine hK.out _ _ (qH BK.out) (fun hHeld => ?_)
            clear hK K
            refine norm_ (a' := ?_) ?_ ?_
            rotate_left
            ·show Act.put _ (some 45) _ = _
             simp only [Act.put, qT, qZ, qC, i64_w, i32_w]
             rfl
            exact norm_ (by simp only [putAll, Act.put, qT, qZ, qC]) (hCont (v238, v241, v244) _ ⟨hHeld, HP.out, HR.out, (Kd.R_mono HQ.out (fun _ hk => ⟨hk.2, hk.1⟩)), (by (with_reducible repeat (first | refine blk_drewN ?_ _ | refine blk_drew ?_ | refine blk_alloc ?_ _)); exact BK.out), (by repeat (first | (with_reducible first | exact HB.out | apply qA | apply qN | apply q1 | refine qS ?_ GE.out) | exact HB.out))⟩)
          ·skip
           refine Kd.R_lit_step k36 _ 36 ?hg (N := 47) ?hd (xs := ([(⟨a2_0, a2_1, a2_2⟩ : S36)] : List (S36))) (inner := [.int .i64 a2_0, .int .i64 a2_1, .int .i64 a2_2]) (ok := fun _ => True) (okp := fun _ => True) ?hr ?hp (fun _ hk => hk) trivial (Below.refl _ _) (Nat.le_refl _) (by simp) ?_; (case hd => rfl); (case hg => rfl); (case hr => first | (go_simp; done) | (go_simp; rfl)); (case hp => exact (Reps.c3 (show Kd.M k36 _ _ _ (⟨a2_0, a2_1, a2_2⟩ : S36) [.int .i64 a2_0, .int .i64 a2_1, .int .i64 a2_2] from (k36_mkM _ _ _ (⟨a2_0, a2_1, a2_2⟩ : S36) )) (Reps.none _ _)))
           intro v244 w64 ho65 hb hg_ hnew_
           clear hg_ hnew_
           (first | rw [← Ny243.out] at ho65 | (simp only [Int.reduceToNat] at ho65; rw [← Ny243.out] at ho65))
           have n0_ := Aside0.mk (Kd.R_below HP.out hb)
           have n1_ := Aside0.mk (Kd.R_lower (Kd.R_newB ho65 (g := gb) (o := .cells #[.int .i64 a2_0, .int .i64 a2_1, .int .i64 a2_2] 36 (0, 0)) (by (with_reducible repeat (first | refine blk_drewN ?_ _ | refine blk_drew ?_ | refine blk_alloc ?_ _)); exact BK.out)) (below_size (by repeat (first | (with_reducible first | exact HB.out | apply qA | apply qN | apply q1 | refine qS ?_ GE.out) | exact HB.out))))
           have n2_ := Aside0.mk (blk_below (g := gb) (o := .cells #[.int .i64 a2_0, .int .i64 a2_1, .int .i64 a2_2] 36 (0, 0)) (by (with_reducible repeat (first | refine blk_drewN ?_ _ | refine blk_drew ?_ | refine blk_alloc ?_ _)); exact BK.out) hb)
           have n3_ := Aside0.mk (below_step (by repeat (first | (with_reducible first | exact HB.out | apply qA | apply qN | apply q1 | refine qS ?_ GE.out) | exact HB.out)) hb)
           clear HP
           clear BK
           clear HB
           have HP := n0_
           have HQ := n1_
           have BK := n2_
           have HB := n3_
           clear n0_ n1_ n2_ n3_
           clear hb ho65
           refine hK.out _ _ (qH BK.out) (fun hHeld => ?_)
           clear hK K
           refine norm_ (a' := ?_) ?_ ?_
           rotate_left
           ·show Act.put _ (some 47) _ = _
            simp only [Act.put, qT, qZ, qC, i64_w, i32_w]
            rfl
           refine one_ (i := 1) (N := some 43) #[true, true, true, false, true, true, false, false, false, false, false, false, false, false, false] rfl rfl (one_of HT_.out (by kernel_rfl)) (by decide) (fun K hK => ?_)
           refine Kd.R_lit_step k36 _ 36 ?hg (N := 43) ?hd (xs := ([] : List (S36))) (inner := []) (ok := fun _ => True) (okp := fun _ => True) ?hr ?hp (fun _ hk => hk) trivial (Below.refl _ _) (Nat.le_refl _) (by simp) ?_; (case hd => rfl); (case hg => rfl); (case hr => first | (go_simp; done) | (go_simp; rfl)); (case hp => exact (Reps.none _ _))
           intro v238 w66 ho67 hb hg_ hnew_
           clear hg_ hnew_
           (first | rw [← Ny237.out] at ho67 | (simp only [Int.reduceToNat] at ho67; rw [← Ny237.out] at ho67))
           have n0_ := Aside0.mk (Kd.R_below HP.out hb)
           have n1_ := Aside0.mk (Kd.R_elder' HQ.out (Kd.R_base ho67) hb)
           have n2_ := Aside0.mk (Kd.R_lower (Kd.R_newB (Kd.R_new' ho67 (Kd.R_lt HQ.out)) (g := gb) (o := .cells #[.int .i64 a2_0, .int .i64 a2_1, .int .i64 a2_2] 36 (0, 0)) (by (with_reducible repeat (first | refine blk_drewN ?_ _ | refine blk_drew ?_ | refine blk_alloc ?_ _)); exact BK.out)) (below_size (by repeat (first | (with_reducible first | exact HB.out | apply qA | apply qN | apply q1 | refine qS ?_ GE.out) | exact HB.out))))
           have n3_ := Aside0.mk (blk_below (g := gb) (o := .cells #[.int .i64 a2_0, .int .i64 a2_1, .int .i64 a2_2] 36 (0, 0)) (by (with_reducible repeat (first | refine blk_drewN ?_ _ | refine blk_drew ?_ | refine blk_alloc ?_ _)); exact BK.out) hb)
           have n4_ := Aside0.mk (below_step (by repeat (first | (with_reducible first | exact HB.out | apply qA | apply qN | apply q1 | refine qS ?_ GE.out) | exact HB.out)) hb)
           clear HP
           clear HQ
           clear BK
           clear HB
           have HP := n0_
           have HQ := n1_
           have HO239 := n2_
           have BK := n3_
           have HB := n4_
           clear n0_ n1_ n2_ n3_ n4_
           clear hb ho67
           refine hK.out _ _ (qH BK.out) (fun hHeld => ?_)
           clear hK K
           refine norm_ (a' := ?_) ?_ ?_
           rotate_left
           ·show Act.put _ (some 43) _ = _
            simp only [Act.put, qT, qZ, qC, i64_w, i32_w]
            rfl
           refine one_ (i := 3) (N := some 45) #[true, true, true, true, true, true, false, false, false, false, false, false, false, false, false] rfl rfl (one_of HT_.out (by kernel_rfl)) (by decide) (fun K hK => ?_)
           refine Kd.R_append_rows_step k36 (w0 := w) w.heap.size (by rfl) (.tmp 43) (.tmp 44) 22 36 (.agg #[(.int .i64 0), (.int .i64 0), (.int .i64 0)]) 24 rfl Try.underlying22 info36 rfl (by decide) (by omega) v238 y237 l1 _ _ _ (fun k_ => some k_ ≠ (v244 : Value).ownBlock ∧ k_ ≠ gb) (fun _ => False) rfl rfl ?aO ?aR (fun _ _ h => h) (fun _ h => h.elim) ?aF ?aB ?aS ?aL ?_
           (case aR => repeat (first | exact (Kd.C_below HR1.out HB.out) | (with_reducible refine Kd.C_alloc ?_ _) | (with_reducible refine Kd.C_drewN ?_ _) | (with_reducible refine Kd.C_drew ?_)))
           (case aB => exact (by repeat (first | (with_reducible first | exact HB.out | apply qA | apply qN | apply q1 | refine qS ?_ GE.out) | exact HB.out)))
           (case aF => exact (fun k_ hk => ⟨Kd.fresh' (Kd.R_lt HQ.out) k_ hk, Kd.freshB (g := gb) (o := .cells #[.int .i64 a2_0, .int .i64 a2_1, .int .i64 a2_2] 36 (0, 0)) (by (with_reducible repeat (first | refine blk_drewN ?_ _ | refine blk_drew ?_ | refine blk_alloc ?_ _)); exact BK.out) k_ hk⟩))
           (case aO => exact (Kd.R_mono HO239.out (fun _ hk => ⟨hk.1.2, hk.2⟩)))
           (case aS => exact (below_size (by repeat (first | (with_reducible first | exact HB.out | apply qA | apply qN | apply q1 | refine qS ?_ GE.out) | exact HB.out))))
           (case aL => have := LMc13.out; omega)
           intro v241 w68 ho hb hg hat
           rw [← Ny240.out] at ho
           have n0_ := Aside0.mk (blk_grown (g := gb) (o := .cells #[.int .i64 a2_0, .int .i64 a2_1, .int .i64 a2_2] 36 (0, 0)) (by (with_reducible repeat (first | refine blk_drewN ?_ _ | refine blk_drew ?_ | refine blk_alloc ?_ _)); exact BK.out) hg (Kd.R_away HO239.out (fun _ hk => hk.2)))
           have n1_ := Aside0.mk (Kd.R_over' HP.out (Kd.R_typed HO239.out) (by decide) hg)
           have n2_ := Aside0.mk (Kd.R_after (ok := (fun k_ => k_ ≠ gb)) (Kd.R_mono HQ.out (fun _ hk => ⟨hk.1.2, hk.2⟩)) hg hat)
           have n3_ := Aside0.mk (hb)
           have n4_ := Aside0.mk (ho)
           clear BK
           clear HP
           clear HQ
           clear HB
           clear HO239
           have BK := n0_
           have HP := n1_
           have HQ := n2_
           have HB := n3_
           have HR := n4_
           clear n0_ n1_ n2_ n3_ n4_
           clear ho hb hg hat
           refine hK.out _ _ (qH BK.out) (fun hHeld => ?_)
           clear hK K
           refine norm_ (a' := ?_) ?_ ?_
           rotate_left
           ·show Act.put _ (some 45) _ = _
            simp only [Act.put, qT, qZ, qC, i64_w, i32_w]
            rfl
           exact norm_ (by simp only [putAll, Act.put, qT, qZ, qC]) (hCont (v238, v241, v244) _ ⟨hHeld, HP.out, HR.out, (Kd.R_mono HQ.out (fun _ hk => ⟨hk.2, hk.1⟩)), (by (with_reducible repeat (first | refine blk_drewN ?_ _ | refine blk_drew ?_ | refine blk_alloc ?_ _)); exact BK.out), (by repeat (first | (with_reducible first | exact HB.out | apply qA | apply qN | apply q1 | refine qS ?_ GE.out) | exact HB.out))⟩)
         rintro ⟨v238, v241, v244⟩ w69 ⟨hS_, h0_, h1_, h2_, h3_, h4_⟩
         have n0_ : Aside0 (Kd.R (Kd.int .i64) 3 w69 w.heap.size (fun _ => True) v235 t232) := ⟨h0_⟩
         have n1_ : Aside0 (Kd.R k36 36 w69 w.heap.size (fun k_ => some k_ ≠ (v244 : Value).ownBlock ∧ k_ ≠ gb) v241 y240) := ⟨h1_⟩
         have n2_ : Aside0 (Kd.R k36 36 w69 w.heap.size (fun k_ => some k_ ≠ (v241 : Value).ownBlock ∧ k_ ≠ gb) v244 y243) := ⟨h2_⟩
         have n3_ : Aside0 (w69.heap[gb]? = some (.cells #[.int .i64 a2_0, .int .i64 a2_1, .int .i64 a2_2] 36 (0, 0))) := ⟨h3_⟩
         have n4_ : Aside0 (Below w.heap.size w w69) := ⟨h4_⟩
         clear HP
         clear BK
         clear HB
         clear h0_ h1_ h2_ h3_ h4_
         have HP := n0_
         have HR := n1_
         have HQ := n2_
         have BK := n3_
         have HB := n4_
         clear n0_ n1_ n2_ n3_ n4_
         have hHeld : w69.cell? ⟨gb, 0, none⟩ = some (.int .i64 a2_0) ∧ w69.cell? ⟨gb, 1, none⟩ = some (.int .i64 a2_1) ∧ w69.cell? ⟨gb, 2, none⟩ = some (.int .i64 a2_2) := hS_
         obtain ⟨Ao71, co71, eo71⟩ := Kd.R_slice HQ.out
         (first | subst eo71 | (injection eo71 with f1_ f2_ f3_; have f4_ := f1_.symm; have f5_ := f3_.symm; clear f1_ f2_ f3_; subst f4_; subst f5_))
         refine norm_ (a' := ?_) ?_ ?_
         rotate_left
         ·simp only [putAll, Act.put, qT, qZ, qC]
          rfl
         refine one_ (i := 6) (N := some 48) #[true, true, true, true, true, true, true, false, false, false, false, false, false, false, false] rfl rfl (one_of HT_.out (by kernel_rfl)) (by decide) (fun K hK => ?_)
         refine Kd.R_append_rows_step k36 (w0 := w) w.heap.size (by rfl) (.tmp 45) (.tmp 47) 22 36 (.agg #[(.int .i64 0), (.int .i64 0), (.int .i64 0)]) 24 rfl Try.underlying22 info36 rfl (by decide) (by omega) v241 y240 y243 _ _ _ (fun k_ => some k_ ≠ (.slice Ao71 y243.length co71 : Value).ownBlock ∧ k_ ≠ gb) (fun _ => False) rfl rfl ?aO ?aR (fun _ _ h => h) (fun _ h => h.elim) ?aF ?aB ?aS ?aL ?_
         (case aR => repeat (first | exact (Kd.R_reads' HQ.out).2.2 | (with_reducible refine Kd.C_alloc ?_ _) | (with_reducible refine Kd.C_drewN ?_ _) | (with_reducible refine Kd.C_drew ?_)))
         (case aB => exact (by repeat (first | (with_reducible first | exact HB.out | apply qA | apply qN | apply q1 | refine qS ?_ GE.out) | exact HB.out)))
         (case aF => exact (fun k_ hk => ⟨Kd.fresh' (Kd.R_lt HQ.out) k_ hk, Kd.freshB (g := gb) (o := .cells #[.int .i64 a2_0, .int .i64 a2_1, .int .i64 a2_2] 36 (0, 0)) (by (with_reducible repeat (first | refine blk_drewN ?_ _ | refine blk_drew ?_ | refine blk_alloc ?_ _)); exact BK.out) k_ hk⟩))
         (case aO => exact HR.out)
         (case aS => exact (below_size (by repeat (first | (with_reducible first | exact HB.out | apply qA | apply qN | apply q1 | refine qS ?_ GE.out) | exact HB.out))))
         (case aL => have := LMc14.out; omega)
         intro v247 w70 ho hb hg hat
         rw [← Ny246.out] at ho
         have n0_ := Aside0.mk (blk_grown (g := gb) (o := .cells #[.int .i64 a2_0, .int .i64 a2_1, .int .i64 a2_2] 36 (0, 0)) (by (with_reducible repeat (first | refine blk_drewN ?_ _ | refine blk_drew ?_ | refine blk_alloc ?_ _)); exact BK.out) hg (Kd.R_away HR.out (fun _ hk => hk.2)))
         have n1_ := Aside0.mk (Kd.R_over' HP.out (Kd.R_typed HR.out) (by decide) hg)
         have n2_ := Aside0.mk (Kd.R_after (ok := (fun k_ => k_ ≠ gb)) (Kd.R_mono HQ.out (fun _ hk => ⟨hk.2, hk.1⟩)) hg hat)
         have n3_ := Aside0.mk (hb)
         have n4_ := Aside0.mk (ho)
         clear BK
         clear HP
         clear HQ
         clear HB
         clear HR
         have BK := n0_
         have HP := n1_
         have HQ := n2_
         have HB := n3_
         have HO248 := n4_
         clear n0_ n1_ n2_ n3_ n4_
         clear ho hb hg hat
         obtain ⟨Ao72, co72, eo72⟩ := Kd.R_slice HO248.out
         (first | subst eo72 | (injection eo72 with f1_ f2_ f3_; have f4_ := f1_.symm; have f5_ := f3_.symm; clear f1_ f2_ f3_; subst f4_; subst f5_))
         refine hK.out _ _ (qH BK.out) (fun hHeld => ?_)
         clear hK K
         refine norm_ (a' := ?_) ?_ ?_
         rotate_left
         ·show Act.put _ (some 48) _ = _
          simp only [Act.put, qT, qZ, qC, i64_w, i32_w]
          rfl
         refine one_ (i := 7) (N := some 49) #[true, true, true, true, true, true, true, true, false, false, false, false, false, false, false] rfl rfl (one_of HT_.out (by kernel_rfl)) (by decide) (fun K hK => ?_)
         refine goes_ Try.func10 (by kernel_rfl) rfl #[.int .i64 a0, .slice Ao72 y246.length co72, .int .i64 7, .int .i64 1099511627776] (by rfl) rfl rfl (by (try simp only [List.map_toArray, List.map_cons, List.map_nil]); first | done | rfl | (simp only [List.length_drop, List.length_take]; rfl)) ?_
         with_reducible refine (cover_Best.calls a0 _ _ y246 7 1099511627776 t249 t250 t251 _ ?side1 ?side2 A15.out).mono ?_
         (case side1 => repeat (first | exact (Kd.R_reads' HO248.out).2.2 | (with_reducible refine Kd.C_alloc ?_ _) | (with_reducible refine Kd.C_drewN ?_ _) | (with_reducible refine Kd.C_drew ?_)))
         (case side2 => exact (Kd.R_reads' HO248.out).2.1)
         rintro e w73 ⟨v252, rfl, ho0, hb⟩
         refine ⟨_, rfl, ?_⟩
         have n0_ := Aside0.mk (Kd.R_elder' HP.out (Kd.R_base ho0) hb)
         have n1_ := Aside0.mk (Kd.R_below HQ.out hb)
         have n2_ := Aside0.mk (Kd.R_below HO248.out hb)
         have n3_ := Aside0.mk (Kd.R_lower (Kd.R_new' ho0 (Kd.R_lt HP.out)) (below_size (by repeat (first | (with_reducible first | exact HB.out | apply qA | apply qN | apply q1 | refine qS ?_ GE.out) | exact HB.out))))
         have n4_ := Aside0.mk (blk_below (g := gb) (o := .cells #[.int .i64 a2_0, .int .i64 a2_1, .int .i64 a2_2] 36 (0, 0)) (by (with_reducible repeat (first | refine blk_drewN ?_ _ | refine blk_drew ?_ | refine blk_alloc ?_ _)); exact BK.out) hb)
         have n5_ := Aside0.mk (below_step (by repeat (first | (with_reducible first | exact HB.out | apply qA | apply qN | apply q1 | refine qS ?_ GE.out) | exact HB.out)) hb)
         clear HP
         clear HQ
         clear HO248
         clear BK
         clear HB
         have HP := n0_
         have HQ := n1_
         have HO248 := n2_
         have HO253 := n3_
         have BK := n4_
         have HB := n5_
         clear n0_ n1_ n2_ n3_ n4_ n5_
         (try clear hb)
         (try clear hb2)
         (try clear hk)
         (try clear hi)
         (try clear ho0)
         refine hK.out _ _ (qH BK.out) (fun hHeld => ?_)
         clear hK K
         refine norm_ (a' := ?_) ?_ ?_
         rotate_left
         ·show Act.put _ (some 49) _ = _
          simp only [Act.put, qT, qZ, qC, i64_w, i32_w]
          rfl
         refine pure_ (i := 8) (N := some 41) (v := ?_) (a' := ?_) #[true, true, true, true, true, true, true, true, true, false, false, false, false, false, false] rfl rfl (any_of HT_.out (by kernel_rfl)) (fun _ _ _ h => h) (Or.inl ⟨by rfl, ?_⟩) ?_ ?_
         rotate_left
         ·intro w'
          go_simp
          with_reducible rfl
         rotate_left
         ·simp only [Act.put, qT, qZ, qC, i64_w, i32_w]
          rfl
         refine pure_ (i := 9) (N := some 50) (v := ?_) (a' := ?_) #[true, true, true, true, true, true, true, true, true, true, false, false, false, false, false] rfl rfl (any_of HT_.out (by kernel_rfl)) (fun _ _ _ h => h) (Or.inl ⟨by rfl, ?_⟩) ?_ ?_
         rotate_left
         ·intro w'
          go_simp
          with_reducible rfl
         rotate_left
         ·simp only [Act.put, qT, qZ, qC, i64_w, i32_w]
          rfl
         refine pure_ (i := 10) (N := some 51) (v := ?_) (a' := ?_) #[true, true, true, true, true, true, true, true, true, true, true, false, false, false, false] rfl rfl (any_of HT_.out (by kernel_rfl)) (fun _ _ _ h => h) (Or.inl ⟨by rfl, ?_⟩) ?_ ?_
         rotate_left
         ·intro w'
          go_simp
          with_reducible rfl
         rotate_left
         ·simp only [Act.put, qT, qZ, qC, i64_w, i32_w]
          rfl
         refine pure_ (i := 11) (N := some 52) (v := ?_) (a' := ?_) #[true, true, true, true, true, true, true, true, true, true, true, true, false, false, false] rfl rfl (any_of HT_.out (by kernel_rfl)) (fun _ _ _ h => h) (Or.inl ⟨by rfl, ?_⟩) ?_ ?_
         rotate_left
         ·intro w'
          go_simp
          with_reducible rfl
         rotate_left
         ·simp only [Act.put, qT, qZ, qC, i64_w, i32_w]
          rfl
         refine pure_ (i := 12) (N := some 11) (v := ?_) (a' := ?_) #[true, true, true, true, true, true, true, true, true, true, true, true, true, false, false] rfl rfl (any_of HT_.out (by kernel_rfl)) (fun _ _ _ h => h) (Or.inl ⟨by rfl, ?_⟩) ?_ ?_
         rotate_left
         ·intro w'
          go_simp
          with_reducible rfl
         rotate_left
         ·simp only [Act.put, qT, qZ, qC, i64_w, i32_w]
          rfl
         refine pure_ (i := 13) (N := some 12) (v := ?_) (a' := ?_) #[true, true, true, true, true, true, true, true, true, true, true, true, true, true, false] rfl rfl (any_of HT_.out (by kernel_rfl)) (fun _ _ _ h => h) (Or.inl ⟨by rfl, ?_⟩) ?_ ?_
         rotate_left
         ·intro w'
          go_simp
          with_reducible rfl
         rotate_left
         ·simp only [Act.put, qT, qZ, qC, i64_w, i32_w]
          rfl
         refine pure_ (i := 14) (N := some 13) (v := ?_) (a' := ?_) #[true, true, true, true, true, true, true, true, true, true, true, true, true, true, true] rfl rfl (any_of HT_.out (by kernel_rfl)) (fun _ _ _ h => h) (Or.inl ⟨by rfl, ?_⟩) ?_ ?_
         rotate_left
         ·intro w'
          go_simp
          with_reducible rfl
         rotate_left
         ·simp only [Act.put, qT, qZ, qC, i64_w, i32_w]
          rfl
         refine done_ (done_of HT_.out (by kernel_rfl)) ?_
         try go_wp2_with (first | ((with_reducible refine gate_callee (f := 10) rfl ?_); refine goesL_ (some 56) rfl rfl Try.func10 (by kernel_rfl) rfl #[.int .i64 a0, .slice A1 l1.length c1, .int .i64 9, .int .i64 1099511627776] rfl (by (try simp only [List.map_toArray, List.map_cons, List.map_nil]); first | done | rfl | (simp only [List.length_drop, List.length_take]; rfl)) ?_; (with_reducible refine (cover_Best.calls a0 _ _ l1 9 1099511627776 t254 t255 t256 _ ?side1 ?side2 A16.out).mono ?_); (case side1 => repeat (first | exact (Kd.C_below HR1.out HB.out) | (with_reducible refine Kd.C_alloc ?_ _) | (with_reducible refine Kd.C_drewN ?_ _) | (with_reducible refine Kd.C_drew ?_))); (case side2 => exact HC1.out); rintro e w74 ⟨v257, rfl, ho0, hb⟩; refine ⟨_, rfl, ?_⟩; have n0_ := Aside0.mk (Kd.R_elder' HP.out (Kd.R_base ho0) hb); have n1_ := Aside0.mk (Kd.R_below HQ.out hb); have n2_ := Aside0.mk (Kd.R_below HO248.out hb); have n3_ := Aside0.mk (Kd.R_elder' HO253.out (Kd.R_base ho0) hb); have n4_ := Aside0.mk (Kd.R_lower (Kd.R_new' (Kd.R_new' ho0 (Kd.R_lt HP.out)) (Kd.R_lt HO253.out)) (below_size (by repeat (first | (with_reducible first | exact HB.out | apply qA | apply qN | apply q1 | refine qS ?_ GE.out) | exact HB.out)))); have n5_ := Aside0.mk (blk_below (g := gb) (o := .cells #[.int .i64 a2_0, .int .i64 a2_1, .int .i64 a2_2] 36 (0, 0)) (by (with_reducible repeat (first | refine blk_drewN ?_ _ | refine blk_drew ?_ | refine blk_alloc ?_ _)); exact BK.out) hb); have n6_ := Aside0.mk (below_step (by repeat (first | (with_reducible first | exact HB.out | apply qA | apply qN | apply q1 | refine qS ?_ GE.out) | exact HB.out)) hb); clear HP; clear HQ; clear HO248; clear HO253; clear BK; clear HB; have HP := n0_; have HQ := n1_; have HO248 := n2_; have HO253 := n3_; have HO258 := n4_; have BK := n5_; have HB := n6_; clear n0_ n1_ n2_ n3_ n4_ n5_ n6_; (try clear hb); (try clear hb2); (try clear hk); (try clear hi); (try clear ho0)))
         go_ret
         exact ⟨by first | rfl | (simp [errW_none, errW_some] <;> rfl) | (simp [*, errW_none, errW_some] <;> rfl), by repeat (first | (with_reducible first | exact HB.out | apply qA | apply qN | apply q1 | refine qS ?_ GE.out) | exact HB.out)⟩
       ·rw [if_neg c18] at H
        have c18b0 : (t256 == 0) = false := beq_eq_false_iff_ne.mpr c18
        have c18b1 : (t256 != 0) = true := bne_iff_ne.mpr c18
        obtain rfl := Option.some.inj H
        try go_wp2_with (first | ((with_reducible refine gate_callee (f := 10) rfl ?_); refine goesL_ (some 37) rfl rfl Try.func10 (by kernel_rfl) rfl #[.int .i64 a0, .slice A1 l1.length c1, .int .i64 7, .int .i64 1099511627776] rfl (by (try simp only [List.map_toArray, List.map_cons, List.map_nil]); first | done | rfl | (simp only [List.length_drop, List.length_take]; rfl)) ?_; (with_reducible refine (cover_Best.calls a0 _ _ l1 7 1099511627776 t232 t233 t234 _ ?side1 ?side2 A12.out).mono ?_); (case side1 => repeat (first | exact (Kd.C_below HR1.out HB.out) | (with_reducible refine Kd.C_alloc ?_ _) | (with_reducible refine Kd.C_drewN ?_ _) | (with_reducible refine Kd.C_drew ?_))); (case side2 => exact HC1.out); rintro e w75 ⟨v235, rfl, ho0, hb⟩; refine ⟨_, rfl, ?_⟩; have n0_ := Aside0.mk (Kd.R_lower ho0 (below_size (by repeat (first | (with_reducible first | exact HB.out | apply qA | apply qN | apply q1 | refine qS ?_ GE.out) | exact HB.out)))); have n1_ := Aside0.mk (blk_below (g := gb) (o := .cells #[.int .i64 a2_0, .int .i64 a2_1, .int .i64 a2_2] 36 (0, 0)) (by (with_reducible repeat (first | refine blk_drewN ?_ _ | refine blk_drew ?_ | refine blk_alloc ?_ _)); exact BK.out) hb); have n2_ := Aside0.mk (below_step (by repeat (first | (with_reducible first | exact HB.out | apply qA | apply qN | apply q1 | refine qS ?_ GE.out) | exact HB.out)) hb); clear BK; clear HB; have HP := n0_; have BK := n1_; have HB := n2_; clear n0_ n1_ n2_; (try clear hb); (try clear hb2); (try clear hk); (try clear hi); (try clear ho0)))
        have n0_ := Aside0.mk (Kd.R_drew HP.out)
        have n1_ := Aside0.mk (blk_drew BK.out)
        have n2_ := Aside0.mk (below_drew1 HB.out)
        clear HP
        clear BK
        clear HB
        have HP := n0_
        have BK := n1_
        have HB := n2_
        clear n0_ n1_ n2_
        refine start_ (n := 15) (S := fun w' => w'.cell? ⟨gb, 0, none⟩ = some (.int .i64 a2_0) ∧ w'.cell? ⟨gb, 1, none⟩ = some (.int .i64 a2_1) ∧ w'.cell? ⟨gb, 2, none⟩ = some (.int .i64 a2_2)) (ds := []) #[false, false, false, false, false, false, false, false, false, false, false, false, false, false, false] (by kernel_rfl) rfl rfl (qH BK.out) (fun hHeld => ?_); refine with_tabW scansionlaw19_CoverMore.tab5 scansionlaw19_CoverMore.bits5 (fun HT_ HW_ => ?_)
        generalize w75.drew = w76 at HP BK HB hHeld ⊢
        refine pure_ (i := 0) (N := some 42) (v := ?_) (a' := ?_) #[true, false, false, false, false, false, false, false, false, false, false, false, false, false, false] rfl rfl (any_of HT_.out (by kernel_rfl)) (fun _ _ _ h => h) (Or.inl ⟨by rfl, ?_⟩) ?_ ?_
        rotate_left
        ·intro w'
         go_simp
         with_reducible rfl
        rotate_left
        ·simp only [Act.put, qT, qZ, qC, i64_w, i32_w]
         rfl
        refine pure_ (i := 2) (N := some 44) (v := ?_) (a' := ?_) #[true, false, true, false, false, false, false, false, false, false, false, false, false, false, false] rfl rfl (any_of HT_.out (by kernel_rfl)) (fun _ _ _ h => h) (Or.inl ⟨by rfl, ?_⟩) ?_ ?_
        rotate_left
        ·intro w'
         go_simp
         with_reducible rfl
        rotate_left
        ·simp only [Act.put, qT, qZ, qC, i64_w, i32_w]
         rfl
        refine take_ (i := 4) (N := some 46) (v := ?_) (a' := ?_) #[true, false, true, false, true, false, false, false, false, false, false, false, false, false, false] rfl rfl (take_ofW HT_.out HW_.out (by kernel_rfl)) (fun _ _ _ h => h) (Or.inl ⟨by rfl, ?_⟩) hHeld ?_ ?_
        rotate_left
        ·rintro w' ⟨s0, s1, s2⟩
         go_simp
         with_reducible rfl
        rotate_left
        ·simp only [Act.put, qT, qZ, qC, i64_w, i32_w]
         rfl
        refine join_ (σ := Value × Value × Value) 9 #[true, true, true, true, true, true, false, false, false, false, false, false, false, false, false] (fun s_ => [(43, s_.1), (45, s_.2.1), (47, s_.2.2)]) (fun s_ w' => (w'.cell? ⟨gb, 0, none⟩ = some (.int .i64 a2_0) ∧ w'.cell? ⟨gb, 1, none⟩ = some (.int .i64 a2_1) ∧ w'.cell? ⟨gb, 2, none⟩ = some (.int .i64 a2_2)) ∧ (Kd.R (Kd.int .i64) 3 w' w.heap.size (fun _ => True) v235 t232) ∧ (Kd.R k36 36 w' w.heap.size (fun k_ => some k_ ≠ (s_.2.2 : Value).ownBlock ∧ k_ ≠ gb) s_.2.1 y240) ∧ (Kd.R k36 36 w' w.heap.size (fun k_ => some k_ ≠ (s_.2.1 : Value).ownBlock ∧ k_ ≠ gb) s_.2.2 y243) ∧ (w'.heap[gb]? = some (.cells #[.int .i64 a2_0, .int .i64 a2_1, .int .i64 a2_2] 36 (0, 0))) ∧ (Below w.heap.size w w')) ?_ ?_
        rotate_left
        ·intro hCont
         refine two_ (i := 1) (j := 5) (Ni := some 43) (Nj := some 47) #[true, true, true, false, true, false, false, false, false, false, false, false, false, false, false] #[true, false, true, false, true, true, false, false, false, false, false, false, false, false, false] rfl rfl rfl rfl (two_of HT_.out (by kernel_rfl)) (by decide) (by decide) (fun K hK => ?_) (fun K hK => ?_)
         ·skip
          refine Kd.R_lit_step k36 _ 36 ?hg (N := 43) ?hd (xs := ([] : List (S36))) (inner := []) (ok := fun _ => True) (okp := fun _ => True) ?hr ?hp (fun _ hk => hk) trivial (Below.refl _ _) (Nat.le_refl _) (by simp) ?_; (case hd => rfl); (case hg => rfl); (case hr => first | (go_simp; done) | (go_simp; rfl)); (case hp => exact (Reps.none _ _))
          intro v238 w77 ho78 hb hg_ hnew_
          clear hg_ hnew_
          (first | rw [← Ny237.out] at ho78 | (simp only [Int.reduceToNat] at ho78; rw [← Ny237.out] at ho78))
          have n0_ := Aside0.mk (Kd.R_below HP.out hb)
          have n1_ := Aside0.mk (Kd.R_lower (Kd.R_newB ho78 (g := gb) (o := .cells #[.int .i64 a2_0, .int .i64 a2_1, .int .i64 a2_2] 36 (0, 0)) (by (with_reducible repeat (first | refine blk_drewN ?_ _ | refine blk_drew ?_ | refine blk_alloc ?_ _)); exact BK.out)) (below_size (by repeat (first | (with_reducible first | exact HB.out | apply qA | apply qN | apply q1 | refine qS ?_ GE.out) | exact HB.out))))
          have n2_ := Aside0.mk (blk_below (g := gb) (o := .cells #[.int .i64 a2_0, .int .i64 a2_1, .int .i64 a2_2] 36 (0, 0)) (by (with_reducible repeat (first | refine blk_drewN ?_ _ | refine blk_drew ?_ | refine blk_alloc ?_ _)); exact BK.out) hb)
          have n3_ := Aside0.mk (below_step (by repeat (first | (with_reducible first | exact HB.out | apply qA | apply qN | apply q1 | refine qS ?_ GE.out) | exact HB.out)) hb)
          clear HP
          clear BK
          clear HB
          have HP := n0_
          have HO239 := n1_
          have BK := n2_
          have HB := n3_
          clear n0_ n1_ n2_ n3_
          clear hb ho78
          refine hK.out _ _ (qH BK.out) (fun hHeld => ?_)
          clear hK K
          refine norm_ (a' := ?_) ?_ ?_
          rotate_left
          ·show Act.put _ (some 43) _ = _
           simp only [Act.put, qT, qZ, qC, i64_w, i32_w]
           rfl
          refine two_ (i := 3) (j := 5) (Ni := some 45) (Nj := some 47) #[true, true, true, true, true, false, false, false, false, false, false, false, false, false, false] #[true, true, true, false, true, true, false, false, false, false, false, false, false, false, false] rfl rfl rfl rfl (two_of HT_.out (by kernel_rfl)) (by decide) (by decide) (fun K hK => ?_) (fun K hK => ?_)
          ·skip
           refine Kd.R_append_rows_step k36 (w0 := w) w.heap.size (by rfl) (.tmp 43) (.tmp 44) 22 36 (.agg #[(.int .i64 0), (.int .i64 0), (.int .i64 0)]) 24 rfl Try.underlying22 info36 rfl (by decide) (by omega) v238 y237 l1 _ _ _ (fun k_ => k_ ≠ gb) (fun _ => False) rfl rfl ?aO ?aR (fun _ _ h => h) (fun _ h => h.elim) ?aF ?aB ?aS ?aL ?_
           (case aR => repeat (first | exact (Kd.C_below HR1.out HB.out) | (with_reducible refine Kd.C_alloc ?_ _) | (with_reducible refine Kd.C_drewN ?_ _) | (with_reducible refine Kd.C_drew ?_)))
           (case aB => exact (by repeat (first | (with_reducible first | exact HB.out | apply qA | apply qN | apply q1 | refine qS ?_ GE.out) | exact HB.out)))
           (case aF => exact (fun k_ hk => Kd.freshB (g := gb) (o := .cells #[.int .i64 a2_0, .int .i64 a2_1, .int .i64 a2_2] 36 (0, 0)) (by (with_reducible repeat (first | refine blk_drewN ?_ _ | refine blk_drew ?_ | refine blk_alloc ?_ _)); exact BK.out) k_ hk))
           (case aO => exact (Kd.R_mono HO239.out (fun _ hk => hk.2)))
           (case aS => exact (below_size (by repeat (first | (with_reducible first | exact HB.out | apply qA | apply qN | apply q1 | refine qS ?_ GE.out) | exact HB.out))))
           (case aL => have := LMc13.out; omega)
           intro v241 w79 ho hb hg hat
           rw [← Ny240.out] at ho
           have n0_ := Aside0.mk (blk_grown (g := gb) (o := .cells #[.int .i64 a2_0, .int .i64 a2_1, .int .i64 a2_2] 36 (0, 0)) (by (with_reducible repeat (first | refine blk_drewN ?_ _ | refine blk_drew ?_ | refine blk_alloc ?_ _)); exact BK.out) hg (Kd.R_away HO239.out (fun _ hk => hk.2)))
           have n1_ := Aside0.mk (Kd.R_over' HP.out (Kd.R_typed HO239.out) (by decide) hg)
           have n2_ := Aside0.mk (hb)
           have n3_ := Aside0.mk (ho)
           clear BK
           clear HP
           clear HB
           clear HO239
           have BK := n0_
           have HP := n1_
           have HB := n2_
           have HR := n3_
           clear n0_ n1_ n2_ n3_
           clear ho hb hg hat
           refine hK.out _ _ (qH BK.out) (fun hHeld => ?_)
           clear hK K
           refine norm_ (a' := ?_) ?_ ?_
           rotate_left
           ·show Act.put _ (some 45) _ = _
            simp only [Act.put, qT, qZ, qC, i64_w, i32_w]
            rfl
           refine one_ (i := 5) (N := some 47) #[true, true, true, true, true, true, false, false, false, false, false, false, false, false, false] rfl rfl (one_of HT_.out (by kernel_rfl)) (by decide) (fun K hK => ?_)
           refine Kd.R_lit_step k36 _ 36 ?hg (N := 47) ?hd (xs := ([(⟨a2_0, a2_1, a2_2⟩ : S36)] : List (S36))) (inner := [.int .i64 a2_0, .int .i64 a2_1, .int .i64 a2_2]) (ok := fun _ => True) (okp := fun _ => True) ?hr ?hp (fun _ hk => hk) trivial (Below.refl _ _) (Nat.le_refl _) (by simp) ?_; (case hd => rfl); (case hg => rfl); (case hr => first | (go_simp; done) | (go_simp; rfl)); (case hp => exact (Reps.c3 (show Kd.M k36 _ _ _ (⟨a2_0, a2_1, a2_2⟩ : S36) [.int .i64 a2_0, .int .i64 a2_1, .int .i64 a2_2] from (k36_mkM _ _ _ (⟨a2_0, a2_1, a2_2⟩ : S36) )) (Reps.none _ _)))
           intro v244 w80 ho81 hb hg_ hnew_
           clear hg_ hnew_
           (first | rw [← Ny243.out] at ho81 | (simp only [Int.reduceToNat] at ho81; rw [← Ny243.out] at ho81))
           have n0_ := Aside0.mk (Kd.R_below HP.out hb)
           have n1_ := Aside0.mk (Kd.R_elder' HR.out (Kd.R_base ho81) hb)
           have n2_ := Aside0.mk (Kd.R_lower (Kd.R_newB (Kd.R_new' ho81 (Kd.R_lt HR.out)) (g := gb) (o := .cells #[.int .i64 a2_0, .int .i64 a2_1, .int .i64 a2_2] 36 (0, 0)) (by (with_reducible repeat (first | refine blk_drewN ?_ _ | refine blk_drew ?_ | refine blk_alloc ?_ _)); exact BK.out)) (below_size (by repeat (first | (with_reducible first | exact HB.out | apply qA | apply qN | apply q1 | refine qS ?_ GE.out) | exact HB.out))))
           have n3_ := Aside0.mk (blk_below (g := gb) (o := .cells #[.int .i64 a2_0, .int .i64 a2_1, .int .i64 a2_2] 36 (0, 0)) (by (with_reducible repeat (first | refine blk_drewN ?_ _ | refine blk_drew ?_ | refine blk_alloc ?_ _)); exact BK.out) hb)
           have n4_ := Aside0.mk (below_step (by repeat (first | (with_reducible first | exact HB.out | apply qA | apply qN | apply q1 | refine qS ?_ GE.out) | exact HB.out)) hb)
           clear HP
           clear HR
           clear BK
           clear HB
           have HP := n0_
           have HR := n1_
           have HQ := n2_
           have BK := n3_
           have HB := n4_
           clear n0_ n1_ n2_ n3_ n4_
           clear hb ho81
           refine hK.out _ _ (qH BK.out) (fun hHeld => ?_)
           clear hK K
           refine norm_ (a' := ?_) ?_ ?_
           rotate_left
           ·show Act.put _ (some 47) _ = _
            simp only [Act.put, qT, qZ, qC, i64_w, i32_w]
            rfl
           exact norm_ (by simp only [putAll, Act.put, qT, qZ, qC]) (hCont (v238, v241, v244) _ ⟨hHeld, HP.out, (Kd.R_mono HR.out (fun _ hk => ⟨hk.2, hk.1⟩)), (Kd.R_mono HQ.out (fun _ hk => ⟨hk.1.2, hk.2⟩)), (by (with_reducible repeat (first | refine blk_drewN ?_ _ | refine blk_drew ?_ | refine blk_alloc ?_ _)); exact BK.out), (by repeat (first | (with_reducible first | exact HB.out | apply qA | apply qN | apply q1 | refine qS ?_ GE.out) | exact HB.out))⟩)
          ·skip
           refine Kd.R_lit_step k36 _ 36 ?hg (N := 47) ?hd (xs := ([(⟨a2_0, a2_1, a2_2⟩ : S36)] : List (S36))) (inner := [.int .i64 a2_0, .int .i64 a2_1, .int .i64 a2_2]) (ok := fun _ => True) (okp := fun _ => True) ?hr ?hp (fun _ hk => hk) trivial (Below.refl _ _) (Nat.le_refl _) (by simp) ?_; (case hd => rfl); (case hg => rfl); (case hr => first | (go_simp; done) | (go_simp; rfl)); (case hp => exact (Reps.c3 (show Kd.M k36 _ _ _ (⟨a2_0, a2_1, a2_2⟩ : S36) [.int .i64 a2_0, .int .i64 a2_1, .int .i64 a2_2] from (k36_mkM _ _ _ (⟨a2_0, a2_1, a2_2⟩ : S36) )) (Reps.none _ _)))
           intro v244 w79 ho80 hb hg_ hnew_
           clear hg_ hnew_
           (first | rw [← Ny243.out] at ho80 | (simp only [Int.reduceToNat] at ho80; rw [← Ny243.out] at ho80))
           have n0_ := Aside0.mk (Kd.R_below HP.out hb)
           have n1_ := Aside0.mk (Kd.R_elder' HO239.out (Kd.R_base ho80) hb)
           have n2_ := Aside0.mk (Kd.R_lower (Kd.R_newB (Kd.R_new' ho80 (Kd.R_lt HO239.out)) (g := gb) (o := .cells #[.int .i64 a2_0, .int .i64 a2_1, .int .i64 a2_2] 36 (0, 0)) (by (with_reducible repeat (first | refine blk_drewN ?_ _ | refine blk_drew ?_ | refine blk_alloc ?_ _)); exact BK.out)) (below_size (by repeat (first | (with_reducible first | exact HB.out | apply qA | apply qN | apply q1 | refine qS ?_ GE.out) | exact HB.out))))
           have n3_ := Aside0.mk (blk_below (g := gb) (o := .cells #[.int .i64 a2_0, .int .i64 a2_1, .int .i64 a2_2] 36 (0, 0)) (by (with_reducible repeat (first | refine blk_drewN ?_ _ | refine blk_drew ?_ | refine blk_alloc ?_ _)); exact BK.out) hb)
           have n4_ := Aside0.mk (below_step (by repeat (first | (with_reducible first | exact HB.out | apply qA | apply qN | apply q1 | refine qS ?_ GE.out) | exact HB.out)) hb)
           clear HP
           clear HO239
           clear BK
           clear HB
           have HP := n0_
           have HO239 := n1_
           have HQ := n2_
           have BK := n3_
           have HB := n4_
           clear n0_ n1_ n2_ n3_ n4_
           clear hb ho80
           refine hK.out _ _ (qH BK.out) (fun hHeld => ?_)
           clear hK K
           refine norm_ (a' := ?_) ?_ ?_
           rotate_left
           ·show Act.put _ (some 47) _ = _
            simp only [Act.put, qT, qZ, qC, i64_w, i32_w]
            rfl
           refine one_ (i := 3) (N := some 45) #[true, true, true, true, true, true, false, false, false, false, false, false, false, false, false] rfl rfl (one_of HT_.out (by kernel_rfl)) (by decide) (fun K hK => ?_)
           refine Kd.R_append_rows_step k36 (w0 := w) w.heap.size (by rfl) (.tmp 43) (.tmp 44) 22 36 (.agg #[(.int .i64 0), (.int .i64 0), (.int .i64 0)]) 24 rfl Try.underlying22 info36 rfl (by decide) (by omega) v238 y237 l1 _ _ _ (fun k_ => some k_ ≠ (v244 : Value).ownBlock ∧ k_ ≠ gb) (fun _ => False) rfl rfl ?aO ?aR (fun _ _ h => h) (fun _ h => h.elim) ?aF ?aB ?aS ?aL ?_
           (case aR => repeat (first | exact (Kd.C_below HR1.out HB.out) | (with_reducible refine Kd.C_alloc ?_ _) | (with_reducible refine Kd.C_drewN ?_ _) | (with_reducible refine Kd.C_drew ?_)))
           (case aB => exact (by repeat (first | (with_reducible first | exact HB.out | apply qA | apply qN | apply q1 | refine qS ?_ GE.out) | exact HB.out)))
           (case aF => exact (fun k_ hk => ⟨Kd.fresh' (Kd.R_lt HQ.out) k_ hk, Kd.freshB (g := gb) (o := .cells #[.int .i64 a2_0, .int .i64 a2_1, .int .i64 a2_2] 36 (0, 0)) (by (with_reducible repeat (first | refine blk_drewN ?_ _ | refine blk_drew ?_ | refine blk_alloc ?_ _)); exact BK.out) k_ hk⟩))
           (case aO => exact (Kd.R_mono HO239.out (fun _ hk => ⟨hk.2, hk.1.2⟩)))
           (case aS => exact (below_size (by repeat (first | (with_reducible first | exact HB.out | apply qA | apply qN | apply q1 | refine qS ?_ GE.out) | exact HB.out))))
           (case aL => have := LMc13.out; omega)
           intro v241 w81 ho hb hg hat
           rw [← Ny240.out] at ho
           have n0_ := Aside0.mk (blk_grown (g := gb) (o := .cells #[.int .i64 a2_0, .int .i64 a2_1, .int .i64 a2_2] 36 (0, 0)) (by (with_reducible repeat (first | refine blk_drewN ?_ _ | refine blk_drew ?_ | refine blk_alloc ?_ _)); exact BK.out) hg (Kd.R_away HO239.out (fun _ hk => hk.1.2)))
           have n1_ := Aside0.mk (Kd.R_over' HP.out (Kd.R_typed HO239.out) (by decide) hg)
           have n2_ := Aside0.mk (Kd.R_after (ok := (fun k_ => k_ ≠ gb)) (Kd.R_mono HQ.out (fun _ hk => ⟨hk.2, hk.1.2⟩)) hg hat)
           have n3_ := Aside0.mk (hb)
           have n4_ := Aside0.mk (ho)
           clear BK
           clear HP
           clear HQ
           clear HB
           clear HO239
           have BK := n0_
           have HP := n1_
           have HQ := n2_
           have HB := n3_
           have HR := n4_
           clear n0_ n1_ n2_ n3_ n4_
           clear ho hb hg hat
           refine hK.out _ _ (qH BK.out) (fun hHeld => ?_)
           clear hK K
           refine norm_ (a' := ?_) ?_ ?_
           rotate_left
           ·show Act.put _ (some 45) _ = _
            simp only [Act.put, qT, qZ, qC, i64_w, i32_w]
            rfl
           exact norm_ (by simp only [putAll, Act.put, qT, qZ, qC]) (hCont (v238, v241, v244) _ ⟨hHeld, HP.out, HR.out, (Kd.R_mono HQ.out (fun _ hk => ⟨hk.2, hk.1⟩)), (by (with_reducible repeat (first | refine blk_drewN ?_ _ | refine blk_drew ?_ | refine blk_alloc ?_ _)); exact BK.out), (by repeat (first | (with_reducible first | exact HB.out | apply qA | apply qN | apply q1 | refine qS ?_ GE.out) | exact HB.out))⟩)
         ·skip
          refine Kd.R_lit_step k36 _ 36 ?hg (N := 47) ?hd (xs := ([(⟨a2_0, a2_1, a2_2⟩ : S36)] : List (S36))) (inner := [.int .i64 a2_0, .int .i64 a2_1, .int .i64 a2_2]) (ok := fun _ => True) (okp := fun _ => True) ?hr ?hp (fun _ hk => hk) trivial (Below.refl _ _) (Nat.le_refl _) (by simp) ?_; (case hd => rfl); (case hg => rfl); (case hr => first | (go_simp; done) | (go_simp; rfl)); (case hp => exact (Reps.c3 (show Kd.M k36 _ _ _ (⟨a2_0, a2_1, a2_2⟩ : S36) [.int .i64 a2_0, .int .i64 a2_1, .int .i64 a2_2] from (k36_mkM _ _ _ (⟨a2_0, a2_1, a2_2⟩ : S36) )) (Reps.none _ _)))
          intro v244 w77 ho78 hb hg_ hnew_
          clear hg_ hnew_
          (first | rw [← Ny243.out] at ho78 | (simp only [Int.reduceToNat] at ho78; rw [← Ny243.out] at ho78))
          have n0_ := Aside0.mk (Kd.R_below HP.out hb)
          have n1_ := Aside0.mk (Kd.R_lower (Kd.R_newB ho78 (g := gb) (o := .cells #[.int .i64 a2_0, .int .i64 a2_1, .int .i64 a2_2] 36 (0, 0)) (by (with_reducible repeat (first | refine blk_drewN ?_ _ | refine blk_drew ?_ | refine blk_alloc ?_ _)); exact BK.out)) (below_size (by repeat (first | (with_reducible first | exact HB.out | apply qA | apply qN | apply q1 | refine qS ?_ GE.out) | exact HB.out))))
          have n2_ := Aside0.mk (blk_below (g := gb) (o := .cells #[.int .i64 a2_0, .int .i64 a2_1, .int .i64 a2_2] 36 (0, 0)) (by (with_reducible repeat (first | refine blk_drewN ?_ _ | refine blk_drew ?_ | refine blk_alloc ?_ _)); exact BK.out) hb)
          have n3_ := Aside0.mk (below_step (by repeat (first | (with_reducible first | exact HB.out | apply qA | apply qN | apply q1 | refine qS ?_ GE.out) | exact HB.out)) hb)
          clear HP
          clear BK
          clear HB
          have HP := n0_
          have HQ := n1_
          have BK := n2_
          have HB := n3_
          clear n0_ n1_ n2_ n3_
          clear hb ho78
          refine hK.out _ _ (qH BK.out) (fun hHeld => ?_)
          clear hK K
          refine norm_ (a' := ?_) ?_ ?_
          rotate_left
          ·show Act.put _ (some 47) _ = _
           simp only [Act.put, qT, qZ, qC, i64_w, i32_w]
           rfl
          refine one_ (i := 1) (N := some 43) #[true, true, true, false, true, true, false, false, false, false, false, false, false, false, false] rfl rfl (one_of HT_.out (by kernel_rfl)) (by decide) (fun K hK => ?_)
          refine Kd.R_lit_step k36 _ 36 ?hg (N := 43) ?hd (xs := ([] : List (S36))) (inner := []) (ok := fun _ => True) (okp := fun _ => True) ?hr ?hp (fun _ hk => hk) trivial (Below.refl _ _) (Nat.le_refl _) (by simp) ?_; (case hd => rfl); (case hg => rfl); (case hr => first | (go_simp; done) | (go_simp; rfl)); (case hp => exact (Reps.none _ _))
          intro v238 w79 ho80 hb hg_ hnew_
          clear hg_ hnew_
          (first | rw [← Ny237.out] at ho80 | (simp only [Int.reduceToNat] at ho80; rw [← Ny237.out] at ho80))
          have n0_ := Aside0.mk (Kd.R_below HP.out hb)
          have n1_ := Aside0.mk (Kd.R_elder' HQ.out (Kd.R_base ho80) hb)
          have n2_ := Aside0.mk (Kd.R_lower (Kd.R_newB (Kd.R_new' ho80 (Kd.R_lt HQ.out)) (g := gb) (o := .cells #[.int .i64 a2_0, .int .i64 a2_1, .int .i64 a2_2] 36 (0, 0)) (by (with_reducible repeat (first | refine blk_drewN ?_ _ | refine blk_drew ?_ | refine blk_alloc ?_ _)); exact BK.out)) (below_size (by repeat (first | (with_reducible first | exact HB.out | apply qA | apply qN | apply q1 | refine qS ?_ GE.out) | exact HB.out))))
          have n3_ := Aside0.mk (blk_below (g := gb) (o := .cells #[.int .i64 a2_0, .int .i64 a2_1, .int .i64 a2_2] 36 (0, 0)) (by (with_reducible repeat (first | refine blk_drewN ?_ _ | refine blk_drew ?_ | refine blk_alloc ?_ _)); exact BK.out) hb)
          have n4_ := Aside0.mk (below_step (by repeat (first | (with_reducible first | exact HB.out | apply qA | apply qN | apply q1 | refine qS ?_ GE.out) | exact HB.out)) hb)
          clear HP
          clear HQ
          clear BK
          clear HB
          have HP := n0_
          have HQ := n1_
          have HO239 := n2_
          have BK := n3_
          have HB := n4_
          clear n0_ n1_ n2_ n3_ n4_
          clear hb ho80
          refine hK.out _ _ (qH BK.out) (fun hHeld => ?_)
          clear hK K
          refine norm_ (a' := ?_) ?_ ?_
          rotate_left
          ·show Act.put _ (some 43) _ = _
           simp only [Act.put, qT, qZ, qC, i64_w, i32_w]
           rfl
          refine one_ (i := 3) (N := some 45) #[true, true, true, true, true, true, false, false, false, false, false, false, false, false, false] rfl rfl (one_of HT_.out (by kernel_rfl)) (by decide) (fun K hK => ?_)
          refine Kd.R_append_rows_step k36 (w0 := w) w.heap.size (by rfl) (.tmp 43) (.tmp 44) 22 36 (.agg #[(.int .i64 0), (.int .i64 0), (.int .i64 0)]) 24 rfl Try.underlying22 info36 rfl (by decide) (by omega) v238 y237 l1 _ _ _ (fun k_ => some k_ ≠ (v244 : Value).ownBlock ∧ k_ ≠ gb) (fun _ => False) rfl rfl ?aO ?aR (fun _ _ h => h) (fun _ h => h.elim) ?aF ?aB ?aS ?aL ?_
          (case aR => repeat (first | exact (Kd.C_below HR1.out HB.out) | (with_reducible refine Kd.C_alloc ?_ _) | (with_reducible refine Kd.C_drewN ?_ _) | (with_reducible refine Kd.C_drew ?_)))
          (case aB => exact (by repeat (first | (with_reducible first | exact HB.out | apply qA | apply qN | apply q1 | refine qS ?_ GE.out) | exact HB.out)))
          (case aF => exact (fun k_ hk => ⟨Kd.fresh' (Kd.R_lt HQ.out) k_ hk, Kd.freshB (g := gb) (o := .cells #[.int .i64 a2_0, .int .i64 a2_1, .int .i64 a2_2] 36 (0, 0)) (by (with_reducible repeat (first | refine blk_drewN ?_ _ | refine blk_drew ?_ | refine blk_alloc ?_ _)); exact BK.out) k_ hk⟩))
          (case aO => exact (Kd.R_mono HO239.out (fun _ hk => ⟨hk.1.2, hk.2⟩)))
          (case aS => exact (below_size (by repeat (first | (with_reducible first | exact HB.out | apply qA | apply qN | apply q1 | refine qS ?_ GE.out) | exact HB.out))))
          (case aL => have := LMc13.out; omega)
          intro v241 w81 ho hb hg hat
          rw [← Ny240.out] at ho
          have n0_ := Aside0.mk (blk_grown (g := gb) (o := .cells #[.int .i64 a2_0, .int .i64 a2_1, .int .i64 a2_2] 36 (0, 0)) (by (with_reducible repeat (first | refine blk_drewN ?_ _ | refine blk_drew ?_ | refine blk_alloc ?_ _)); exact BK.out) hg (Kd.R_away HO239.out (fun _ hk => hk.2)))
          have n1_ := Aside0.mk (Kd.R_over' HP.out (Kd.R_typed HO239.out) (by decide) hg)
          have n2_ := Aside0.mk (Kd.R_after (ok := (fun k_ => k_ ≠ gb)) (Kd.R_mono HQ.out (fun _ hk => ⟨hk.1.2, hk.2⟩)) hg hat)
          have n3_ := Aside0.mk (hb)
          have n4_ := Aside0.mk (ho)
          clear BK
          clear HP
          clear HQ
          clear HB
          clear HO239
          have BK := n0_
          have HP := n1_
          have HQ := n2_
          have HB := n3_
          have HR := n4_
          clear n0_ n1_ n2_ n3_ n4_
          clear ho hb hg hat
          refine hK.out _ _ (qH BK.out) (fun hHeld => ?_)
          clear hK K
          refine norm_ (a' := ?_) ?_ ?_
          rotate_left
          ·show Act.put _ (some 45) _ = _
           simp only [Act.put, qT, qZ, qC, i64_w, i32_w]
           rfl
          exact norm_ (by simp only [putAll, Act.put, qT, qZ, qC]) (hCont (v238, v241, v244) _ ⟨hHeld, HP.out, HR.out, (Kd.R_mono HQ.out (fun _ hk => ⟨hk.2, hk.1⟩)), (by (with_reducible repeat (first | refine blk_drewN ?_ _ | refine blk_drew ?_ | refine blk_alloc ?_ _)); exact BK.out), (by repeat (first | (with_reducible first | exact HB.out | apply qA | apply qN | apply q1 | refine qS ?_ GE.out) | exact HB.out))⟩)
        rintro ⟨v238, v241, v244⟩ w82 ⟨hS_, h0_, h1_, h2_, h3_, h4_⟩
        have n0_ : Aside0 (Kd.R (Kd.int .i64) 3 w82 w.heap.size (fun _ => True) v235 t232) := ⟨h0_⟩
        have n1_ : Aside0 (Kd.R k36 36 w82 w.heap.size (fun k_ => some k_ ≠ (v244 : Value).ownBlock ∧ k_ ≠ gb) v241 y240) := ⟨h1_⟩
        have n2_ : Aside0 (Kd.R k36 36 w82 w.heap.size (fun k_ => some k_ ≠ (v241 : Value).ownBlock ∧ k_ ≠ gb) v244 y243) := ⟨h2_⟩
        have n3_ : Aside0 (w82.heap[gb]? = some (.cells #[.int .i64 a2_0, .int .i64 a2_1, .int .i64 a2_2] 36 (0, 0))) := ⟨h3_⟩
        have n4_ : Aside0 (Below w.heap.size w w82) := ⟨h4_⟩
        clear HP
        clear BK
        clear HB
        clear h0_ h1_ h2_ h3_ h4_
        have HP := n0_
        have HR := n1_
        have HQ := n2_
        have BK := n3_
        have HB := n4_
        clear n0_ n1_ n2_ n3_ n4_
        have hHeld : w82.cell? ⟨gb, 0, none⟩ = some (.int .i64 a2_0) ∧ w82.cell? ⟨gb, 1, none⟩ = some (.int .i64 a2_1) ∧ w82.cell? ⟨gb, 2, none⟩ = some (.int .i64 a2_2) := hS_
        obtain ⟨Ao84, co84, eo84⟩ := Kd.R_slice HQ.out
        (first | subst eo84 | (injection eo84 with f1_ f2_ f3_; have f4_ := f1_.symm; have f5_ := f3_.symm; clear f1_ f2_ f3_; subst f4_; subst f5_))
        refine norm_ (a' := ?_) ?_ ?_
        rotate_left
        ·simp only [putAll, Act.put, qT, qZ, qC]
         rfl
        refine one_ (i := 6) (N := some 48) #[true, true, true, true, true, true, true, false, false, false, false, false, false, false, false] rfl rfl (one_of HT_.out (by kernel_rfl)) (by decide) (fun K hK => ?_)
        refine Kd.R_append_rows_step k36 (w0 := w) w.heap.size (by rfl) (.tmp 45) (.tmp 47) 22 36 (.agg #[(.int .i64 0), (.int .i64 0), (.int .i64 0)]) 24 rfl Try.underlying22 info36 rfl (by decide) (by omega) v241 y240 y243 _ _ _ (fun k_ => some k_ ≠ (.slice Ao84 y243.length co84 : Value).ownBlock ∧ k_ ≠ gb) (fun _ => False) rfl rfl ?aO ?aR (fun _ _ h => h) (fun _ h => h.elim) ?aF ?aB ?aS ?aL ?_
        (case aR => repeat (first | exact (Kd.R_reads' HQ.out).2.2 | (with_reducible refine Kd.C_alloc ?_ _) | (with_reducible refine Kd.C_drewN ?_ _) | (with_reducible refine Kd.C_drew ?_)))
        (case aB => exact (by repeat (first | (with_reducible first | exact HB.out | apply qA | apply qN | apply q1 | refine qS ?_ GE.out) | exact HB.out)))
        (case aF => exact (fun k_ hk => ⟨Kd.fresh' (Kd.R_lt HQ.out) k_ hk, Kd.freshB (g := gb) (o := .cells #[.int .i64 a2_0, .int .i64 a2_1, .int .i64 a2_2] 36 (0, 0)) (by (with_reducible repeat (first | refine blk_drewN ?_ _ | refine blk_drew ?_ | refine blk_alloc ?_ _)); exact BK.out) k_ hk⟩))
        (case aO => exact HR.out)
        (case aS => exact (below_size (by repeat (first | (with_reducible first | exact HB.out | apply qA | apply qN | apply q1 | refine qS ?_ GE.out) | exact HB.out))))
        (case aL => have := LMc14.out; omega)
        intro v247 w83 ho hb hg hat
        rw [← Ny246.out] at ho
        have n0_ := Aside0.mk (blk_grown (g := gb) (o := .cells #[.int .i64 a2_0, .int .i64 a2_1, .int .i64 a2_2] 36 (0, 0)) (by (with_reducible repeat (first | refine blk_drewN ?_ _ | refine blk_drew ?_ | refine blk_alloc ?_ _)); exact BK.out) hg (Kd.R_away HR.out (fun _ hk => hk.2)))
        have n1_ := Aside0.mk (Kd.R_over' HP.out (Kd.R_typed HR.out) (by decide) hg)
        have n2_ := Aside0.mk (Kd.R_after (ok := (fun k_ => k_ ≠ gb)) (Kd.R_mono HQ.out (fun _ hk => ⟨hk.2, hk.1⟩)) hg hat)
        have n3_ := Aside0.mk (hb)
        have n4_ := Aside0.mk (ho)
        clear BK
        clear HP
        clear HQ
        clear HB
        clear HR
        have BK := n0_
        have HP := n1_
        have HQ := n2_
        have HB := n3_
        have HO248 := n4_
        clear n0_ n1_ n2_ n3_ n4_
        clear ho hb hg hat
        obtain ⟨Ao85, co85, eo85⟩ := Kd.R_slice HO248.out
        (first | subst eo85 | (injection eo85 with f1_ f2_ f3_; have f4_ := f1_.symm; have f5_ := f3_.symm; clear f1_ f2_ f3_; subst f4_; subst f5_))
        refine hK.out _ _ (qH BK.out) (fun hHeld => ?_)
        clear hK K
        refine norm_ (a' := ?_) ?_ ?_
        rotate_left
        ·show Act.put _ (some 48) _ = _
         simp only [Act.put, qT, qZ, qC, i64_w, i32_w]
         rfl
        refine one_ (i := 7) (N := some 49) #[true, true, true, true, true, true, true, true, false, false, false, false, false, false, false] rfl rfl (one_of HT_.out (by kernel_rfl)) (by decide) (fun K hK => ?_)
        refine goes_ Try.func10 (by kernel_rfl) rfl #[.int .i64 a0, .slice Ao85 y246.length co85, .int .i64 7, .int .i64 1099511627776] (by rfl) rfl rfl (by (try simp only [List.map_toArray, List.map_cons, List.map_nil]); first | done | rfl | (simp only [List.length_drop, List.length_take]; rfl)) ?_
        with_reducible refine (cover_Best.calls a0 _ _ y246 7 1099511627776 t249 t250 t251 _ ?side1 ?side2 A15.out).mono ?_
        (case side1 => repeat (first | exact (Kd.R_reads' HO248.out).2.2 | (with_reducible refine Kd.C_alloc ?_ _) | (with_reducible refine Kd.C_drewN ?_ _) | (with_reducible refine Kd.C_drew ?_)))
        (case side2 => exact (Kd.R_reads' HO248.out).2.1)
        rintro e w86 ⟨v252, rfl, ho0, hb⟩
        refine ⟨_, rfl, ?_⟩
        have n0_ := Aside0.mk (Kd.R_elder' HP.out (Kd.R_base ho0) hb)
        have n1_ := Aside0.mk (Kd.R_below HQ.out hb)
        have n2_ := Aside0.mk (Kd.R_below HO248.out hb)
        have n3_ := Aside0.mk (Kd.R_lower (Kd.R_new' ho0 (Kd.R_lt HP.out)) (below_size (by repeat (first | (with_reducible first | exact HB.out | apply qA | apply qN | apply q1 | refine qS ?_ GE.out) | exact HB.out))))
        have n4_ := Aside0.mk (blk_below (g := gb) (o := .cells #[.int .i64 a2_0, .int .i64 a2_1, .int .i64 a2_2] 36 (0, 0)) (by (with_reducible repeat (first | refine blk_drewN ?_ _ | refine blk_drew ?_ | refine blk_alloc ?_ _)); exact BK.out) hb)
        have n5_ := Aside0.mk (below_step (by repeat (first | (with_reducible first | exact HB.out | apply qA | apply qN | apply q1 | refine qS ?_ GE.out) | exact HB.out)) hb)
        clear HP
        clear HQ
        clear HO248
        clear BK
        clear HB
        have HP := n0_
        have HQ := n1_
        have HO248 := n2_
        have HO253 := n3_
        have BK := n4_
        have HB := n5_
        clear n0_ n1_ n2_ n3_ n4_ n5_
        (try clear hb)
        (try clear hb2)
        (try clear hk)
        (try clear hi)
        (try clear ho0)
        refine hK.out _ _ (qH BK.out) (fun hHeld => ?_)
        clear hK K
        refine norm_ (a' := ?_) ?_ ?_
        rotate_left
        ·show Act.put _ (some 49) _ = _
         simp only [Act.put, qT, qZ, qC, i64_w, i32_w]
         rfl
        refine pure_ (i := 8) (N := some 41) (v := ?_) (a' := ?_) #[true, true, true, true, true, true, true, true, true, false, false, false, false, false, false] rfl rfl (any_of HT_.out (by kernel_rfl)) (fun _ _ _ h => h) (Or.inl ⟨by rfl, ?_⟩) ?_ ?_
        rotate_left
        ·intro w'
         go_simp
         with_reducible rfl
        rotate_left
        ·simp only [Act.put, qT, qZ, qC, i64_w, i32_w]
         rfl
        refine pure_ (i := 9) (N := some 50) (v := ?_) (a' := ?_) #[true, true, true, true, true, true, true, true, true, true, false, false, false, false, false] rfl rfl (any_of HT_.out (by kernel_rfl)) (fun _ _ _ h => h) (Or.inl ⟨by rfl, ?_⟩) ?_ ?_
        rotate_left
        ·intro w'
         go_simp
         with_reducible rfl
        rotate_left
        ·simp only [Act.put, qT, qZ, qC, i64_w, i32_w]
         rfl
        refine pure_ (i := 10) (N := some 51) (v := ?_) (a' := ?_) #[true, true, true, true, true, true, true, true, true, true, true, false, false, false, false] rfl rfl (any_of HT_.out (by kernel_rfl)) (fun _ _ _ h => h) (Or.inl ⟨by rfl, ?_⟩) ?_ ?_
        rotate_left
        ·intro w'
         go_simp
         with_reducible rfl
        rotate_left
        ·simp only [Act.put, qT, qZ, qC, i64_w, i32_w]
         rfl
        refine pure_ (i := 11) (N := some 52) (v := ?_) (a' := ?_) #[true, true, true, true, true, true, true, true, true, true, true, true, false, false, false] rfl rfl (any_of HT_.out (by kernel_rfl)) (fun _ _ _ h => h) (Or.inl ⟨by rfl, ?_⟩) ?_ ?_
        rotate_left
        ·intro w'
         go_simp
         with_reducible rfl
        rotate_left
        ·simp only [Act.put, qT, qZ, qC, i64_w, i32_w]
         rfl
        refine pure_ (i := 12) (N := some 11) (v := ?_) (a' := ?_) #[true, true, true, true, true, true, true, true, true, true, true, true, true, false, false] rfl rfl (any_of HT_.out (by kernel_rfl)) (fun _ _ _ h => h) (Or.inl ⟨by rfl, ?_⟩) ?_ ?_
        rotate_left
        ·intro w'
         go_simp
         with_reducible rfl
        rotate_left
        ·simp only [Act.put, qT, qZ, qC, i64_w, i32_w]
         rfl
        refine pure_ (i := 13) (N := some 12) (v := ?_) (a' := ?_) #[true, true, true, true, true, true, true, true, true, true, true, true, true, true, false] rfl rfl (any_of HT_.out (by kernel_rfl)) (fun _ _ _ h => h) (Or.inl ⟨by rfl, ?_⟩) ?_ ?_
        rotate_left
        ·intro w'
         go_simp
         with_reducible rfl
        rotate_left
        ·simp only [Act.put, qT, qZ, qC, i64_w, i32_w]
         rfl
        refine pure_ (i := 14) (N := some 13) (v := ?_) (a' := ?_) #[true, true, true, true, true, true, true, true, true, true, true, true, true, true, true] rfl rfl (any_of HT_.out (by kernel_rfl)) (fun _ _ _ h => h) (Or.inl ⟨by rfl, ?_⟩) ?_ ?_
        rotate_left
        ·intro w'
         go_simp
         with_reducible rfl
        rotate_left
        ·simp only [Act.put, qT, qZ, qC, i64_w, i32_w]
         rfl
        refine done_ (done_of HT_.out (by kernel_rfl)) ?_
        try go_wp2_with (first | ((with_reducible refine gate_callee (f := 10) rfl ?_); refine goesL_ (some 56) rfl rfl Try.func10 (by kernel_rfl) rfl #[.int .i64 a0, .slice A1 l1.length c1, .int .i64 9, .int .i64 1099511627776] rfl (by (try simp only [List.map_toArray, List.map_cons, List.map_nil]); first | done | rfl | (simp only [List.length_drop, List.length_take]; rfl)) ?_; (with_reducible refine (cover_Best.calls a0 _ _ l1 9 1099511627776 t254 t255 t256 _ ?side1 ?side2 A16.out).mono ?_); (case side1 => repeat (first | exact (Kd.C_below HR1.out HB.out) | (with_reducible refine Kd.C_alloc ?_ _) | (with_reducible refine Kd.C_drewN ?_ _) | (with_reducible refine Kd.C_drew ?_))); (case side2 => exact HC1.out); rintro e w87 ⟨v257, rfl, ho0, hb⟩; refine ⟨_, rfl, ?_⟩; have n0_ := Aside0.mk (Kd.R_elder' HP.out (Kd.R_base ho0) hb); have n1_ := Aside0.mk (Kd.R_below HQ.out hb); have n2_ := Aside0.mk (Kd.R_below HO248.out hb); have n3_ := Aside0.mk (Kd.R_elder' HO253.out (Kd.R_base ho0) hb); have n4_ := Aside0.mk (Kd.R_lower (Kd.R_new' (Kd.R_new' ho0 (Kd.R_lt HP.out)) (Kd.R_lt HO253.out)) (below_size (by repeat (first | (with_reducible first | exact HB.out | apply qA | apply qN | apply q1 | refine qS ?_ GE.out) | exact HB.out)))); have n5_ := Aside0.mk (blk_below (g := gb) (o := .cells #[.int .i64 a2_0, .int .i64 a2_1, .int .i64 a2_2] 36 (0, 0)) (by (with_reducible repeat (first | refine blk_drewN ?_ _ | refine blk_drew ?_ | refine blk_alloc ?_ _)); exact BK.out) hb); have n6_ := Aside0.mk (below_step (by repeat (first | (with_reducible first | exact HB.out | apply qA | apply qN | apply q1 | refine qS ?_ GE.out) | exact HB.out)) hb); clear HP; clear HQ; clear HO248; clear HO253; clear BK; clear HB; have HP := n0_; have HQ := n1_; have HO248 := n2_; have HO253 := n3_; have HO258 := n4_; have BK := n5_; have HB := n6_; clear n0_ n1_ n2_ n3_ n4_ n5_ n6_; (try clear hb); (try clear hb2); (try clear hk); (try clear hi); (try clear ho0)))
        go_ret
        exact ⟨by first | rfl | (simp [errW_none, errW_some] <;> rfl) | (simp [*, errW_none, errW_some] <;> rfl), by repeat (first | (with_reducible first | exact HB.out | apply qA | apply qN | apply q1 | refine qS ?_ GE.out) | exact HB.out)⟩
      ·rw [if_neg c17] at H
       have c17b0 : (t234 == 0) = false := beq_eq_false_iff_ne.mpr c17
       have c17b1 : (t234 != 0) = true := bne_iff_ne.mpr c17
       by_cases c88 : t251 = 0
       ·rw [if_pos c88] at H
        have c88b0 : (t251 == 0) = true := beq_iff_eq.mpr c88
        have c88b1 : (t251 != 0) = false := bne_eq_false_iff_eq.mpr c88
        clear c88
        obtain rfl := Option.some.inj H
        try go_wp2_with (first | ((with_reducible refine gate_callee (f := 10) rfl ?_); refine goesL_ (some 37) rfl rfl Try.func10 (by kernel_rfl) rfl #[.int .i64 a0, .slice A1 l1.length c1, .int .i64 7, .int .i64 1099511627776] rfl (by (try simp only [List.map_toArray, List.map_cons, List.map_nil]); first | done | rfl | (simp only [List.length_drop, List.length_take]; rfl)) ?_; (with_reducible refine (cover_Best.calls a0 _ _ l1 7 1099511627776 t232 t233 t234 _ ?side1 ?side2 A12.out).mono ?_); (case side1 => repeat (first | exact (Kd.C_below HR1.out HB.out) | (with_reducible refine Kd.C_alloc ?_ _) | (with_reducible refine Kd.C_drewN ?_ _) | (with_reducible refine Kd.C_drew ?_))); (case side2 => exact HC1.out); rintro e w89 ⟨v235, rfl, ho0, hb⟩; refine ⟨_, rfl, ?_⟩; have n0_ := Aside0.mk (Kd.R_lower ho0 (below_size (by repeat (first | (with_reducible first | exact HB.out | apply qA | apply qN | apply q1 | refine qS ?_ GE.out) | exact HB.out)))); have n1_ := Aside0.mk (blk_below (g := gb) (o := .cells #[.int .i64 a2_0, .int .i64 a2_1, .int .i64 a2_2] 36 (0, 0)) (by (with_reducible repeat (first | refine blk_drewN ?_ _ | refine blk_drew ?_ | refine blk_alloc ?_ _)); exact BK.out) hb); have n2_ := Aside0.mk (below_step (by repeat (first | (with_reducible first | exact HB.out | apply qA | apply qN | apply q1 | refine qS ?_ GE.out) | exact HB.out)) hb); clear BK; clear HB; have HP := n0_; have BK := n1_; have HB := n2_; clear n0_ n1_ n2_; (try clear hb); (try clear hb2); (try clear hk); (try clear hi); (try clear ho0)))
        have n0_ := Aside0.mk (Kd.R_drew HP.out)
        have n1_ := Aside0.mk (blk_drew BK.out)
        have n2_ := Aside0.mk (below_drew1 HB.out)
        clear HP
        clear BK
        clear HB
        have HP := n0_
        have BK := n1_
        have HB := n2_
        clear n0_ n1_ n2_
        refine start_ (n := 15) (S := fun w' => w'.cell? ⟨gb, 0, none⟩ = some (.int .i64 a2_0) ∧ w'.cell? ⟨gb, 1, none⟩ = some (.int .i64 a2_1) ∧ w'.cell? ⟨gb, 2, none⟩ = some (.int .i64 a2_2)) (ds := []) #[false, false, false, false, false, false, false, false, false, false, false, false, false, false, false] (by kernel_rfl) rfl rfl (qH BK.out) (fun hHeld => ?_); refine with_tabW scansionlaw19_CoverMore.tab5 scansionlaw19_CoverMore.bits5 (fun HT_ HW_ => ?_)
        generalize w89.drew = w90 at HP BK HB hHeld ⊢
        refine pure_ (i := 0) (N := some 42) (v := ?_) (a' := ?_) #[true, false, false, false, false, false, false, false, false, false, false, false, false, false, false] rfl rfl (any_of HT_.out (by kernel_rfl)) (fun _ _ _ h => h) (Or.inl ⟨by rfl, ?_⟩) ?_ ?_
        rotate_left
        ·intro w'
         go_simp
         with_reducible rfl
        rotate_left
        ·simp only [Act.put, qT, qZ, qC, i64_w, i32_w]
         rfl
        refine pure_ (i := 2) (N := some 44) (v := ?_) (a' := ?_) #[true, false, true, false, false, false, false, false, false, false, false, false, false, false, false] rfl rfl (any_of HT_.out (by kernel_rfl)) (fun _ _ _ h => h) (Or.inl ⟨by rfl, ?_⟩) ?_ ?_
        rotate_left
        ·intro w'
         go_simp
         with_reducible rfl
        rotate_left
        ·simp only [Act.put, qT, qZ, qC, i64_w, i32_w]
         rfl
        refine take_ (i := 4) (N := some 46) (v := ?_) (a' := ?_) #[true, false, true, false, true, false, false, false, false, false, false, false, false, false, false] rfl rfl (take_ofW HT_.out HW_.out (by kernel_rfl)) (fun _ _ _ h => h) (Or.inl ⟨by rfl, ?_⟩) hHeld ?_ ?_
        rotate_left
        ·rintro w' ⟨s0, s1, s2⟩
         go_simp
         with_reducible rfl
        rotate_left
        ·simp only [Act.put, qT, qZ, qC, i64_w, i32_w]
         rfl
        refine join_ (σ := Value × Value × Value) 9 #[true, true, true, true, true, true, false, false, false, false, false, false, false, false, false] (fun s_ => [(43, s_.1), (45, s_.2.1), (47, s_.2.2)]) (fun s_ w' => (w'.cell? ⟨gb, 0, none⟩ = some (.int .i64 a2_0) ∧ w'.cell? ⟨gb, 1, none⟩ = some (.int .i64 a2_1) ∧ w'.cell? ⟨gb, 2, none⟩ = some (.int .i64 a2_2)) ∧ (Kd.R (Kd.int .i64) 3 w' w.heap.size (fun _ => True) v235 t232) ∧ (Kd.R k36 36 w' w.heap.size (fun k_ => some k_ ≠ (s_.2.2 : Value).ownBlock ∧ k_ ≠ gb) s_.2.1 y240) ∧ (Kd.R k36 36 w' w.heap.size (fun k_ => some k_ ≠ (s_.2.1 : Value).ownBlock ∧ k_ ≠ gb) s_.2.2 y243) ∧ (w'.heap[gb]? = some (.cells #[.int .i64 a2_0, .int .i64 a2_1, .int .i64 a2_2] 36 (0, 0))) ∧ (Below w.heap.size w w')) ?_ ?_
        rotate_left
        ·intro hCont
         refine two_ (i := 1) (j := 5) (Ni := some 43) (Nj := some 47) #[true, true, true, false, true, false, false, false, false, false, false, false, false, false, false] #[true, false, true, false, true, true, false, false, false, false, false, false, false, false, false] rfl rfl rfl rfl (two_of HT_.out (by kernel_rfl)) (by decide) (by decide) (fun K hK => ?_) (fun K hK => ?_)
         ·skip
          refine Kd.R_lit_step k36 _ 36 ?hg (N := 43) ?hd (xs := ([] : List (S36))) (inner := []) (ok := fun _ => True) (okp := fun _ => True) ?hr ?hp (fun _ hk => hk) trivial (Below.refl _ _) (Nat.le_refl _) (by simp) ?_; (case hd => rfl); (case hg => rfl); (case hr => first | (go_simp; done) | (go_simp; rfl)); (case hp => exact (Reps.none _ _))
          intro v238 w91 ho92 hb hg_ hnew_
          clear hg_ hnew_
          (first | rw [← Ny237.out] at ho92 | (simp only [Int.reduceToNat] at ho92; rw [← Ny237.out] at ho92))
          have n0_ := Aside0.mk (Kd.R_below HP.out hb)
          have n1_ := Aside0.mk (Kd.R_lower (Kd.R_newB ho92 (g := gb) (o := .cells #[.int .i64 a2_0, .int .i64 a2_1, .int .i64 a2_2] 36 (0, 0)) (by (with_reducible repeat (first | refine blk_drewN ?_ _ | refine blk_drew ?_ | refine blk_alloc ?_ _)); exact BK.out)) (below_size (by repeat (first | (with_reducible first | exact HB.out | apply qA | apply qN | apply q1 | refine qS ?_ GE.out) | exact HB.out))))
          have n2_ := Aside0.mk (blk_below (g := gb) (o := .cells #[.int .i64 a2_0, .int .i64 a2_1, .int .i64 a2_2] 36 (0, 0)) (by (with_reducible repeat (first | refine blk_drewN ?_ _ | refine blk_drew ?_ | refine blk_alloc ?_ _)); exact BK.out) hb)
          have n3_ := Aside0.mk (below_step (by repeat (first | (with_reducible first | exact HB.out | apply qA | apply qN | apply q1 | refine qS ?_ GE.out) | exact HB.out)) hb)
          clear HP
          clear BK
          clear HB
          have HP := n0_
          have HO239 := n1_
          have BK := n2_
          have HB := n3_
          clear n0_ n1_ n2_ n3_
          clear hb ho92
          refine hK.out _ _ (qH BK.out) (fun hHeld => ?_)
          clear hK K
          refine norm_ (a' := ?_) ?_ ?_
          rotate_left
          ·show Act.put _ (some 43) _ = _
           simp only [Act.put, qT, qZ, qC, i64_w, i32_w]
           rfl
          refine two_ (i := 3) (j := 5) (Ni := some 45) (Nj := some 47) #[true, true, true, true, true, false, false, false, false, false, false, false, false, false, false] #[true, true, true, false, true, true, false, false, false, false, false, false, false, false, false] rfl rfl rfl rfl (two_of HT_.out (by kernel_rfl)) (by decide) (by decide) (fun K hK => ?_) (fun K hK => ?_)
          ·skip
           refine Kd.R_append_rows_step k36 (w0 := w) w.heap.size (by rfl) (.tmp 43) (.tmp 44) 22 36 (.agg #[(.int .i64 0), (.int .i64 0), (.int .i64 0)]) 24 rfl Try.underlying22 info36 rfl (by decide) (by omega) v238 y237 l1 _ _ _ (fun k_ => k_ ≠ gb) (fun _ => False) rfl rfl ?aO ?aR (fun _ _ h => h) (fun _ h => h.elim) ?aF ?aB ?aS ?aL ?_
           (case aR => repeat (first | exact (Kd.C_below HR1.out HB.out) | (with_reducible refine Kd.C_alloc ?_ _) | (with_reducible refine Kd.C_drewN ?_ _) | (with_reducible refine Kd.C_drew ?_)))
           (case aB => exact (by repeat (first | (with_reducible first | exact HB.out | apply qA | apply qN | apply q1 | refine qS ?_ GE.out) | exact HB.out)))
           (case aF => exact (fun k_ hk => Kd.freshB (g := gb) (o := .cells #[.int .i64 a2_0, .int .i64 a2_1, .int .i64 a2_2] 36 (0, 0)) (by (with_reducible repeat (first | refine blk_drewN ?_ _ | refine blk_drew ?_ | refine blk_alloc ?_ _)); exact BK.out) k_ hk))
           (case aO => exact (Kd.R_mono HO239.out (fun _ hk => hk.2)))
           (case aS => exact (below_size (by repeat (first | (with_reducible first | exact HB.out | apply qA | apply qN | apply q1 | refine qS ?_ GE.out) | exact HB.out))))
           (case aL => have := LMc13.out; omega)
           intro v241 w93 ho hb hg hat
           rw [← Ny240.out] at ho
           have n0_ := Aside0.mk (blk_grown (g := gb) (o := .cells #[.int .i64 a2_0, .int .i64 a2_1, .int .i64 a2_2] 36 (0, 0)) (by (with_reducible repeat (first | refine blk_drewN ?_ _ | refine blk_drew ?_ | refine blk_alloc ?_ _)); exact BK.out) hg (Kd.R_away HO239.out (fun _ hk => hk.2)))
           have n1_ := Aside0.mk (Kd.R_over' HP.out (Kd.R_typed HO239.out) (by decide) hg)
           have n2_ := Aside0.mk (hb)
           have n3_ := Aside0.mk (ho)
           clear BK
           clear HP
           clear HB
           clear HO239
           have BK := n0_
           have HP := n1_
           have HB := n2_
           have HR := n3_
           clear n0_ n1_ n2_ n3_
           clear ho hb hg hat
           refine hK.out _ _ (qH BK.out) (fun hHeld => ?_)
           clear hK K
           refine norm_ (a' := ?_) ?_ ?_
           rotate_left
           ·show Act.put _ (some 45) _ = _
            simp only [Act.put, qT, qZ, qC, i64_w, i32_w]
            rfl
           refine one_ (i := 5) (N := some 47) #[true, true, true, true, true, true, false, false, false, false, false, false, false, false, false] rfl rfl (one_of HT_.out (by kernel_rfl)) (by decide) (fun K hK => ?_)
           refine Kd.R_lit_step k36 _ 36 ?hg (N := 47) ?hd (xs := ([(⟨a2_0, a2_1, a2_2⟩ : S36)] : List (S36))) (inner := [.int .i64 a2_0, .int .i64 a2_1, .int .i64 a2_2]) (ok := fun _ => True) (okp := fun _ => True) ?hr ?hp (fun _ hk => hk) trivial (Below.refl _ _) (Nat.le_refl _) (by simp) ?_; (case hd => rfl); (case hg => rfl); (case hr => first | (go_simp; done) | (go_simp; rfl)); (case hp => exact (Reps.c3 (show Kd.M k36 _ _ _ (⟨a2_0, a2_1, a2_2⟩ : S36) [.int .i64 a2_0, .int .i64 a2_1, .int .i64 a2_2] from (k36_mkM _ _ _ (⟨a2_0, a2_1, a2_2⟩ : S36) )) (Reps.none _ _)))
           intro v244 w94 ho95 hb hg_ hnew_
           clear hg_ hnew_
           (first | rw [← Ny243.out] at ho95 | (simp only [Int.reduceToNat] at ho95; rw [← Ny243.out] at ho95))
           have n0_ := Aside0.mk (Kd.R_below HP.out hb)
           have n1_ := Aside0.mk (Kd.R_elder' HR.out (Kd.R_base ho95) hb)
           have n2_ := Aside0.mk (Kd.R_lower (Kd.R_newB (Kd.R_new' ho95 (Kd.R_lt HR.out)) (g := gb) (o := .cells #[.int .i64 a2_0, .int .i64 a2_1, .int .i64 a2_2] 36 (0, 0)) (by (with_reducible repeat (first | refine blk_drewN ?_ _ | refine blk_drew ?_ | refine blk_alloc ?_ _)); exact BK.out)) (below_size (by repeat (first | (with_reducible first | exact HB.out | apply qA | apply qN | apply q1 | refine qS ?_ GE.out) | exact HB.out))))
           have n3_ := Aside0.mk (blk_below (g := gb) (o := .cells #[.int .i64 a2_0, .int .i64 a2_1, .int .i64 a2_2] 36 (0, 0)) (by (with_reducible repeat (first | refine blk_drewN ?_ _ | refine blk_drew ?_ | refine blk_alloc ?_ _)); exact BK.out) hb)
           have n4_ := Aside0.mk (below_step (by repeat (first | (with_reducible first | exact HB.out | apply qA | apply qN | apply q1 | refine qS ?_ GE.out) | exact HB.out)) hb)
           clear HP
           clear HR
           clear BK
           clear HB
           have HP := n0_
           have HR := n1_
           have HQ := n2_
           have BK := n3_
           have HB := n4_
           clear n0_ n1_ n2_ n3_ n4_
           clear hb ho95
           refine hK.out _ _ (qH BK.out) (fun hHeld => ?_)
           clear hK K
           refine norm_ (a' := ?_) ?_ ?_
           rotate_left
           ·show Act.put _ (some 47) _ = _
            simp only [Act.put, qT, qZ, qC, i64_w, i32_w]
            rfl
           exact norm_ (by simp only [putAll, Act.put, qT, qZ, qC]) (hCont (v238, v241, v244) _ ⟨hHeld, HP.out, (Kd.R_mono HR.out (fun _ hk => ⟨hk.2, hk.1⟩)), (Kd.R_mono HQ.out (fun _ hk => ⟨hk.1.2, hk.2⟩)), (by (with_reducible repeat (first | refine blk_drewN ?_ _ | refine blk_drew ?_ | refine blk_alloc ?_ _)); exact BK.out), (by repeat (first | (with_reducible first | exact HB.out | apply qA | apply qN | apply q1 | refine qS ?_ GE.out) | exact HB.out))⟩)
          ·skip
           refine Kd.R_lit_step k36 _ 36 ?hg (N := 47) ?hd (xs := ([(⟨a2_0, a2_1, a2_2⟩ : S36)] : List (S36))) (inner := [.int .i64 a2_0, .int .i64 a2_1, .int .i64 a2_2]) (ok := fun _ => True) (okp := fun _ => True) ?hr ?hp (fun _ hk => hk) trivial (Below.refl _ _) (Nat.le_refl _) (by simp) ?_; (case hd => rfl); (case hg => rfl); (case hr => first | (go_simp; done) | (go_simp; rfl)); (case hp => exact (Reps.c3 (show Kd.M k36 _ _ _ (⟨a2_0, a2_1, a2_2⟩ : S36) [.int .i64 a2_0, .int .i64 a2_1, .int .i64 a2_2] from (k36_mkM _ _ _ (⟨a2_0, a2_1, a2_2⟩ : S36) )) (Reps.none _ _)))
           intro v244 w93 ho94 hb hg_ hnew_
           clear hg_ hnew_
           (first | rw [← Ny243.out] at ho94 | (simp only [Int.reduceToNat] at ho94; rw [← Ny243.out] at ho94))
           have n0_ := Aside0.mk (Kd.R_below HP.out hb)
           have n1_ := Aside0.mk (Kd.R_elder' HO239.out (Kd.R_base ho94) hb)
           have n2_ := Aside0.mk (Kd.R_lower (Kd.R_newB (Kd.R_new' ho94 (Kd.R_lt HO239.out)) (g := gb) (o := .cells #[.int .i64 a2_0, .int .i64 a2_1, .int .i64 a2_2] 36 (0, 0)) (by (with_reducible repeat (first | refine blk_drewN ?_ _ | refine blk_drew ?_ | refine blk_alloc ?_ _)); exact BK.out)) (below_size (by repeat (first | (with_reducible first | exact HB.out | apply qA | apply qN | apply q1 | refine qS ?_ GE.out) | exact HB.out))))
           have n3_ := Aside0.mk (blk_below (g := gb) (o := .cells #[.int .i64 a2_0, .int .i64 a2_1, .int .i64 a2_2] 36 (0, 0)) (by (with_reducible repeat (first | refine blk_drewN ?_ _ | refine blk_drew ?_ | refine blk_alloc ?_ _)); exact BK.out) hb)
           have n4_ := Aside0.mk (below_step (by repeat (first | (with_reducible first | exact HB.out | apply qA | apply qN | apply q1 | refine qS ?_ GE.out) | exact HB.out)) hb)
           clear HP
           clear HO239
           clear BK
           clear HB
           have HP := n0_
           have HO239 := n1_
           have HQ := n2_
           have BK := n3_
           have HB := n4_
           clear n0_ n1_ n2_ n3_ n4_
           clear hb ho94
           refine hK.out _ _ (qH BK.out) (fun hHeld => ?_)
           clear hK K
           refine norm_ (a' := ?_) ?_ ?_
           rotate_left
           ·show Act.put _ (some 47) _ = _
            simp only [Act.put, qT, qZ, qC, i64_w, i32_w]
            rfl
           refine one_ (i := 3) (N := some 45) #[true, true, true, true, true, true, false, false, false, false, false, false, false, false, false] rfl rfl (one_of HT_.out (by kernel_rfl)) (by decide) (fun K hK => ?_)
           refine Kd.R_append_rows_step k36 (w0 := w) w.heap.size (by rfl) (.tmp 43) (.tmp 44) 22 36 (.agg #[(.int .i64 0), (.int .i64 0), (.int .i64 0)]) 24 rfl Try.underlying22 info36 rfl (by decide) (by omega) v238 y237 l1 _ _ _ (fun k_ => some k_ ≠ (v244 : Value).ownBlock ∧ k_ ≠ gb) (fun _ => False) rfl rfl ?aO ?aR (fun _ _ h => h) (fun _ h => h.elim) ?aF ?aB ?aS ?aL ?_
           (case aR => repeat (first | exact (Kd.C_below HR1.out HB.out) | (with_reducible refine Kd.C_alloc ?_ _) | (with_reducible refine Kd.C_drewN ?_ _) | (with_reducible refine Kd.C_drew ?_)))
           (case aB => exact (by repeat (first | (with_reducible first | exact HB.out | apply qA | apply qN | apply q1 | refine qS ?_ GE.out) | exact HB.out)))
           (case aF => exact (fun k_ hk => ⟨Kd.fresh' (Kd.R_lt HQ.out) k_ hk, Kd.freshB (g := gb) (o := .cells #[.int .i64 a2_0, .int .i64 a2_1, .int .i64 a2_2] 36 (0, 0)) (by (with_reducible repeat (first | refine blk_drewN ?_ _ | refine blk_drew ?_ | refine blk_alloc ?_ _)); exact BK.out) k_ hk⟩))
           (case aO => exact (Kd.R_mono HO239.out (fun _ hk => ⟨hk.2, hk.1.2⟩)))
           (case aS => exact (below_size (by repeat (first | (with_reducible first | exact HB.out | apply qA | apply qN | apply q1 | refine qS ?_ GE.out) | exact HB.out))))
           (case aL => have := LMc13.out; omega)
           intro v241 w95 ho hb hg hat
           rw [← Ny240.out] at ho
           have n0_ := Aside0.mk (blk_grown (g := gb) (o := .cells #[.int .i64 a2_0, .int .i64 a2_1, .int .i64 a2_2] 36 (0, 0)) (by (with_reducible repeat (first | refine blk_drewN ?_ _ | refine blk_drew ?_ | refine blk_alloc ?_ _)); exact BK.out) hg (Kd.R_away HO239.out (fun _ hk => hk.1.2)))
           have n1_ := Aside0.mk (Kd.R_over' HP.out (Kd.R_typed HO239.out) (by decide) hg)
           have n2_ := Aside0.mk (Kd.R_after (ok := (fun k_ => k_ ≠ gb)) (Kd.R_mono HQ.out (fun _ hk => ⟨hk.2, hk.1.2⟩)) hg hat)
           have n3_ := Aside0.mk (hb)
           have n4_ := Aside0.mk (ho)
           clear BK
           clear HP
           clear HQ
           clear HB
           clear HO239
           have BK := n0_
           have HP := n1_
           have HQ := n2_
           have HB := n3_
           have HR := n4_
           clear n0_ n1_ n2_ n3_ n4_
           clear ho hb hg hat
           refine hK.out _ _ (qH BK.out) (fun hHeld => ?_)
           clear hK K
           refine norm_ (a' := ?_) ?_ ?_
           rotate_left
           ·show Act.put _ (some 45) _ = _
            simp only [Act.put, qT, qZ, qC, i64_w, i32_w]
            rfl
           exact norm_ (by simp only [putAll, Act.put, qT, qZ, qC]) (hCont (v238, v241, v244) _ ⟨hHeld, HP.out, HR.out, (Kd.R_mono HQ.out (fun _ hk => ⟨hk.2, hk.1⟩)), (by (with_reducible repeat (first | refine blk_drewN ?_ _ | refine blk_drew ?_ | refine blk_alloc ?_ _)); exact BK.out), (by repeat (first | (with_reducible first | exact HB.out | apply qA | apply qN | apply q1 | refine qS ?_ GE.out) | exact HB.out))⟩)
         ·skip
          refine Kd.R_lit_step k36 _ 36 ?hg (N := 47) ?hd (xs := ([(⟨a2_0, a2_1, a2_2⟩ : S36)] : List (S36))) (inner := [.int .i64 a2_0, .int .i64 a2_1, .int .i64 a2_2]) (ok := fun _ => True) (okp := fun _ => True) ?hr ?hp (fun _ hk => hk) trivial (Below.refl _ _) (Nat.le_refl _) (by simp) ?_; (case hd => rfl); (case hg => rfl); (case hr => first | (go_simp; done) | (go_simp; rfl)); (case hp => exact (Reps.c3 (show Kd.M k36 _ _ _ (⟨a2_0, a2_1, a2_2⟩ : S36) [.int .i64 a2_0, .int .i64 a2_1, .int .i64 a2_2] from (k36_mkM _ _ _ (⟨a2_0, a2_1, a2_2⟩ : S36) )) (Reps.none _ _)))
          intro v244 w91 ho92 hb hg_ hnew_
          clear hg_ hnew_
          (first | rw [← Ny243.out] at ho92 | (simp only [Int.reduceToNat] at ho92; rw [← Ny243.out] at ho92))
          have n0_ := Aside0.mk (Kd.R_below HP.out hb)
          have n1_ := Aside0.mk (Kd.R_lower (Kd.R_newB ho92 (g := gb) (o := .cells #[.int .i64 a2_0, .int .i64 a2_1, .int .i64 a2_2] 36 (0, 0)) (by (with_reducible repeat (first | refine blk_drewN ?_ _ | refine blk_drew ?_ | refine blk_alloc ?_ _)); exact BK.out)) (below_size (by repeat (first | (with_reducible first | exact HB.out | apply qA | apply qN | apply q1 | refine qS ?_ GE.out) | exact HB.out))))
          have n2_ := Aside0.mk (blk_below (g := gb) (o := .cells #[.int .i64 a2_0, .int .i64 a2_1, .int .i64 a2_2] 36 (0, 0)) (by (with_reducible repeat (first | refine blk_drewN ?_ _ | refine blk_drew ?_ | refine blk_alloc ?_ _)); exact BK.out) hb)
          have n3_ := Aside0.mk (below_step (by repeat (first | (with_reducible first | exact HB.out | apply qA | apply qN | apply q1 | refine qS ?_ GE.out) | exact HB.out)) hb)
          clear HP
          clear BK
          clear HB
          have HP := n0_
          have HQ := n1_
          have BK := n2_
          have HB := n3_
          clear n0_ n1_ n2_ n3_
          clear hb ho92
          refine hK.out _ _ (qH BK.out) (fun hHeld => ?_)
          clear hK K
          refine norm_ (a' := ?_) ?_ ?_
          rotate_left
          ·show Act.put _ (some 47) _ = _
           simp only [Act.put, qT, qZ, qC, i64_w, i32_w]
           rfl
          refine one_ (i := 1) (N := some 43) #[true, true, true, false, true, true, false, false, false, false, false, false, false, false, false] rfl rfl (one_of HT_.out (by kernel_rfl)) (by decide) (fun K hK => ?_)
          refine Kd.R_lit_step k36 _ 36 ?hg (N := 43) ?hd (xs := ([] : List (S36))) (inner := []) (ok := fun _ => True) (okp := fun _ => True) ?hr ?hp (fun _ hk => hk) trivial (Below.refl _ _) (Nat.le_refl _) (by simp) ?_; (case hd => rfl); (case hg => rfl); (case hr => first | (go_simp; done) | (go_simp; rfl)); (case hp => exact (Reps.none _ _))
          intro v238 w93 ho94 hb hg_ hnew_
          clear hg_ hnew_
          (first | rw [← Ny237.out] at ho94 | (simp only [Int.reduceToNat] at ho94; rw [← Ny237.out] at ho94))
          have n0_ := Aside0.mk (Kd.R_below HP.out hb)
          have n1_ := Aside0.mk (Kd.R_elder' HQ.out (Kd.R_base ho94) hb)
          have n2_ := Aside0.mk (Kd.R_lower (Kd.R_newB (Kd.R_new' ho94 (Kd.R_lt HQ.out)) (g := gb) (o := .cells #[.int .i64 a2_0, .int .i64 a2_1, .int .i64 a2_2] 36 (0, 0)) (by (with_reducible repeat (first | refine blk_drewN ?_ _ | refine blk_drew ?_ | refine blk_alloc ?_ _)); exact BK.out)) (below_size (by repeat (first | (with_reducible first | exact HB.out | apply qA | apply qN | apply q1 | refine qS ?_ GE.out) | exact HB.out))))
          have n3_ := Aside0.mk (blk_below (g := gb) (o := .cells #[.int .i64 a2_0, .int .i64 a2_1, .int .i64 a2_2] 36 (0, 0)) (by (with_reducible repeat (first | refine blk_drewN ?_ _ | refine blk_drew ?_ | refine blk_alloc ?_ _)); exact BK.out) hb)
          have n4_ := Aside0.mk (below_step (by repeat (first | (with_reducible first | exact HB.out | apply qA | apply qN | apply q1 | refine qS ?_ GE.out) | exact HB.out)) hb)
          clear HP
          clear HQ
          clear BK
          clear HB
          have HP := n0_
          have HQ := n1_
          have HO239 := n2_
          have BK := n3_
          have HB := n4_
          clear n0_ n1_ n2_ n3_ n4_
          clear hb ho94
          refine hK.out _ _ (qH BK.out) (fun hHeld => ?_)
          clear hK K
          refine norm_ (a' := ?_) ?_ ?_
          rotate_left
          ·show Act.put _ (some 43) _ = _
           simp only [Act.put, qT, qZ, qC, i64_w, i32_w]
           rfl
          refine one_ (i := 3) (N := some 45) #[true, true, true, true, true, true, false, false, false, false, false, false, false, false, false] rfl rfl (one_of HT_.out (by kernel_rfl)) (by decide) (fun K hK => ?_)
          refine Kd.R_append_rows_step k36 (w0 := w) w.heap.size (by rfl) (.tmp 43) (.tmp 44) 22 36 (.agg #[(.int .i64 0), (.int .i64 0), (.int .i64 0)]) 24 rfl Try.underlying22 info36 rfl (by decide) (by omega) v238 y237 l1 _ _ _ (fun k_ => some k_ ≠ (v244 : Value).ownBlock ∧ k_ ≠ gb) (fun _ => False) rfl rfl ?aO ?aR (fun _ _ h => h) (fun _ h => h.elim) ?aF ?aB ?aS ?aL ?_
          (case aR => repeat (first | exact (Kd.C_below HR1.out HB.out) | (with_reducible refine Kd.C_alloc ?_ _) | (with_reducible refine Kd.C_drewN ?_ _) | (with_reducible refine Kd.C_drew ?_)))
          (case aB => exact (by repeat (first | (with_reducible first | exact HB.out | apply qA | apply qN | apply q1 | refine qS ?_ GE.out) | exact HB.out)))
          (case aF => exact (fun k_ hk => ⟨Kd.fresh' (Kd.R_lt HQ.out) k_ hk, Kd.freshB (g := gb) (o := .cells #[.int .i64 a2_0, .int .i64 a2_1, .int .i64 a2_2] 36 (0, 0)) (by (with_reducible repeat (first | refine blk_drewN ?_ _ | refine blk_drew ?_ | refine blk_alloc ?_ _)); exact BK.out) k_ hk⟩))
          (case aO => exact (Kd.R_mono HO239.out (fun _ hk => ⟨hk.1.2, hk.2⟩)))
          (case aS => exact (below_size (by repeat (first | (with_reducible first | exact HB.out | apply qA | apply qN | apply q1 | refine qS ?_ GE.out) | exact HB.out))))
          (case aL => have := LMc13.out; omega)
          intro v241 w95 ho hb hg hat
          rw [← Ny240.out] at ho
          have n0_ := Aside0.mk (blk_grown (g := gb) (o := .cells #[.int .i64 a2_0, .int .i64 a2_1, .int .i64 a2_2] 36 (0, 0)) (by (with_reducible repeat (first | refine blk_drewN ?_ _ | refine blk_drew ?_ | refine blk_alloc ?_ _)); exact BK.out) hg (Kd.R_away HO239.out (fun _ hk => hk.2)))
          have n1_ := Aside0.mk (Kd.R_over' HP.out (Kd.R_typed HO239.out) (by decide) hg)
          have n2_ := Aside0.mk (Kd.R_after (ok := (fun k_ => k_ ≠ gb)) (Kd.R_mono HQ.out (fun _ hk => ⟨hk.1.2, hk.2⟩)) hg hat)
          have n3_ := Aside0.mk (hb)
          have n4_ := Aside0.mk (ho)
          clear BK
          clear HP
          clear HQ
          clear HB
          clear HO239
          have BK := n0_
          have HP := n1_
          have HQ := n2_
          have HB := n3_
          have HR := n4_
          clear n0_ n1_ n2_ n3_ n4_
          clear ho hb hg hat
          refine hK.out _ _ (qH BK.out) (fun hHeld => ?_)
          clear hK K
          refine norm_ (a' := ?_) ?_ ?_
          rotate_left
          ·show Act.put _ (some 45) _ = _
           simp only [Act.put, qT, qZ, qC, i64_w, i32_w]
           rfl
          exact norm_ (by simp only [putAll, Act.put, qT, qZ, qC]) (hCont (v238, v241, v244) _ ⟨hHeld, HP.out, HR.out, (Kd.R_mono HQ.out (fun _ hk => ⟨hk.2, hk.1⟩)), (by (with_reducible repeat (first | refine blk_drewN ?_ _ | refine blk_drew ?_ | refine blk_alloc ?_ _)); exact BK.out), (by repeat (first | (with_reducible first | exact HB.out | apply qA | apply qN | apply q1 | refine qS ?_ GE.out) | exact HB.out))⟩)
        rintro ⟨v238, v241, v244⟩ w96 ⟨hS_, h0_, h1_, h2_, h3_, h4_⟩
        have n0_ : Aside0 (Kd.R (Kd.int .i64) 3 w96 w.heap.size (fun _ => True) v235 t232) := ⟨h0_⟩
        have n1_ : Aside0 (Kd.R k36 36 w96 w.heap.size (fun k_ => some k_ ≠ (v244 : Value).ownBlock ∧ k_ ≠ gb) v241 y240) := ⟨h1_⟩
        have n2_ : Aside0 (Kd.R k36 36 w96 w.heap.size (fun k_ => some k_ ≠ (v241 : Value).ownBlock ∧ k_ ≠ gb) v244 y243) := ⟨h2_⟩
        have n3_ : Aside0 (w96.heap[gb]? = some (.cells #[.int .i64 a2_0, .int .i64 a2_1, .int .i64 a2_2] 36 (0, 0))) := ⟨h3_⟩
        have n4_ : Aside0 (Below w.heap.size w w96) := ⟨h4_⟩
        clear HP
        clear BK
        clear HB
        clear h0_ h1_ h2_ h3_ h4_
        have HP := n0_
        have HR := n1_
        have HQ := n2_
        have BK := n3_
        have HB := n4_
        clear n0_ n1_ n2_ n3_ n4_
        have hHeld : w96.cell? ⟨gb, 0, none⟩ = some (.int .i64 a2_0) ∧ w96.cell? ⟨gb, 1, none⟩ = some (.int .i64 a2_1) ∧ w96.cell? ⟨gb, 2, none⟩ = some (.int .i64 a2_2) := hS_
        obtain ⟨Ao98, co98, eo98⟩ := Kd.R_slice HQ.out
        (first | subst eo98 | (injection eo98 with f1_ f2_ f3_; have f4_ := f1_.symm; have f5_ := f3_.symm; clear f1_ f2_ f3_; subst f4_; subst f5_))
        refine norm_ (a' := ?_) ?_ ?_
        rotate_left
        ·simp only [putAll, Act.put, qT, qZ, qC]
         rfl
        refine one_ (i := 6) (N := some 48) #[true, true, true, true, true, true, true, false, false, false, false, false, false, false, false] rfl rfl (one_of HT_.out (by kernel_rfl)) (by decide) (fun K hK => ?_)
        refine Kd.R_append_rows_step k36 (w0 := w) w.heap.size (by rfl) (.tmp 45) (.tmp 47) 22 36 (.agg #[(.int .i64 0), (.int .i64 0), (.int .i64 0)]) 24 rfl Try.underlying22 info36 rfl (by decide) (by omega) v241 y240 y243 _ _ _ (fun k_ => some k_ ≠ (.slice Ao98 y243.length co98 : Value).ownBlock ∧ k_ ≠ gb) (fun _ => False) rfl rfl ?aO ?aR (fun _ _ h => h) (fun _ h => h.elim) ?aF ?aB ?aS ?aL ?_
        (case aR => repeat (first | exact (Kd.R_reads' HQ.out).2.2 | (with_reducible refine Kd.C_alloc ?_ _) | (with_reducible refine Kd.C_drewN ?_ _) | (with_reducible refine Kd.C_drew ?_)))
        (case aB => exact (by repeat (first | (with_reducible first | exact HB.out | apply qA | apply qN | apply q1 | refine qS ?_ GE.out) | exact HB.out)))
        (case aF => exact (fun k_ hk => ⟨Kd.fresh' (Kd.R_lt HQ.out) k_ hk, Kd.freshB (g := gb) (o := .cells #[.int .i64 a2_0, .int .i64 a2_1, .int .i64 a2_2] 36 (0, 0)) (by (with_reducible repeat (first | refine blk_drewN ?_ _ | refine blk_drew ?_ | refine blk_alloc ?_ _)); exact BK.out) k_ hk⟩))
        (case aO => exact HR.out)
        (case aS => exact (below_size (by repeat (first | (with_reducible first | exact HB.out | apply qA | apply qN | apply q1 | refine qS ?_ GE.out) | exact HB.out))))
        (case aL => have := LMc14.out; omega)
        intro v247 w97 ho hb hg hat
        rw [← Ny246.out] at ho
        have n0_ := Aside0.mk (blk_grown (g := gb) (o := .cells #[.int .i64 a2_0, .int .i64 a2_1, .int .i64 a2_2] 36 (0, 0)) (by (with_reducible repeat (first | refine blk_drewN ?_ _ | refine blk_drew ?_ | refine blk_alloc ?_ _)); exact BK.out) hg (Kd.R_away HR.out (fun _ hk => hk.2)))
        have n1_ := Aside0.mk (Kd.R_over' HP.out (Kd.R_typed HR.out) (by decide) hg)
        have n2_ := Aside0.mk (Kd.R_after (ok := (fun k_ => k_ ≠ gb)) (Kd.R_mono HQ.out (fun _ hk => ⟨hk.2, hk.1⟩)) hg hat)
        have n3_ := Aside0.mk (hb)
        have n4_ := Aside0.mk (ho)
        clear BK
        clear HP
        clear HQ
        clear HB
        clear HR
        have BK := n0_
        have HP := n1_
        have HQ := n2_
        have HB := n3_
        have HO248 := n4_
        clear n0_ n1_ n2_ n3_ n4_
        clear ho hb hg hat
        obtain ⟨Ao99, co99, eo99⟩ := Kd.R_slice HO248.out
        (first | subst eo99 | (injection eo99 with f1_ f2_ f3_; have f4_ := f1_.symm; have f5_ := f3_.symm; clear f1_ f2_ f3_; subst f4_; subst f5_))
        refine hK.out _ _ (qH BK.out) (fun hHeld => ?_)
        clear hK K
        refine norm_ (a' := ?_) ?_ ?_
        rotate_left
        ·show Act.put _ (some 48) _ = _
         simp only [Act.put, qT, qZ, qC, i64_w, i32_w]
         rfl
        refine one_ (i := 7) (N := some 49) #[true, true, true, true, true, true, true, true, false, false, false, false, false, false, false] rfl rfl (one_of HT_.out (by kernel_rfl)) (by decide) (fun K hK => ?_)
        refine goes_ Try.func10 (by kernel_rfl) rfl #[.int .i64 a0, .slice Ao99 y246.length co99, .int .i64 7, .int .i64 1099511627776] (by rfl) rfl rfl (by (try simp only [List.map_toArray, List.map_cons, List.map_nil]); first | done | rfl | (simp only [List.length_drop, List.length_take]; rfl)) ?_
        with_reducible refine (cover_Best.calls a0 _ _ y246 7 1099511627776 t249 t250 t251 _ ?side1 ?side2 A15.out).mono ?_
        (case side1 => repeat (first | exact (Kd.R_reads' HO248.out).2.2 | (with_reducible refine Kd.C_alloc ?_ _) | (with_reducible refine Kd.C_drewN ?_ _) | (with_reducible refine Kd.C_drew ?_)))
        (case side2 => exact (Kd.R_reads' HO248.out).2.1)
        rintro e w100 ⟨v252, rfl, ho0, hb⟩
        refine ⟨_, rfl, ?_⟩
        have n0_ := Aside0.mk (Kd.R_elder' HP.out (Kd.R_base ho0) hb)
        have n1_ := Aside0.mk (Kd.R_below HQ.out hb)
        have n2_ := Aside0.mk (Kd.R_below HO248.out hb)
        have n3_ := Aside0.mk (Kd.R_lower (Kd.R_new' ho0 (Kd.R_lt HP.out)) (below_size (by repeat (first | (with_reducible first | exact HB.out | apply qA | apply qN | apply q1 | refine qS ?_ GE.out) | exact HB.out))))
        have n4_ := Aside0.mk (blk_below (g := gb) (o := .cells #[.int .i64 a2_0, .int .i64 a2_1, .int .i64 a2_2] 36 (0, 0)) (by (with_reducible repeat (first | refine blk_drewN ?_ _ | refine blk_drew ?_ | refine blk_alloc ?_ _)); exact BK.out) hb)
        have n5_ := Aside0.mk (below_step (by repeat (first | (with_reducible first | exact HB.out | apply qA | apply qN | apply q1 | refine qS ?_ GE.out) | exact HB.out)) hb)
        clear HP
        clear HQ
        clear HO248
        clear BK
        clear HB
        have HP := n0_
        have HQ := n1_
        have HO248 := n2_
        have HO253 := n3_
        have BK := n4_
        have HB := n5_
        clear n0_ n1_ n2_ n3_ n4_ n5_
        (try clear hb)
        (try clear hb2)
        (try clear hk)
        (try clear hi)
        (try clear ho0)
        refine hK.out _ _ (qH BK.out) (fun hHeld => ?_)
        clear hK K
        refine norm_ (a' := ?_) ?_ ?_
        rotate_left
        ·show Act.put _ (some 49) _ = _
         simp only [Act.put, qT, qZ, qC, i64_w, i32_w]
         rfl
        refine pure_ (i := 8) (N := some 41) (v := ?_) (a' := ?_) #[true, true, true, true, true, true, true, true, true, false, false, false, false, false, false] rfl rfl (any_of HT_.out (by kernel_rfl)) (fun _ _ _ h => h) (Or.inl ⟨by rfl, ?_⟩) ?_ ?_
        rotate_left
        ·intro w'
         go_simp
         with_reducible rfl
        rotate_left
        ·simp only [Act.put, qT, qZ, qC, i64_w, i32_w]
         rfl
        refine pure_ (i := 9) (N := some 50) (v := ?_) (a' := ?_) #[true, true, true, true, true, true, true, true, true, true, false, false, false, false, false] rfl rfl (any_of HT_.out (by kernel_rfl)) (fun _ _ _ h => h) (Or.inl ⟨by rfl, ?_⟩) ?_ ?_
        rotate_left
        ·intro w'
         go_simp
         with_reducible rfl
        rotate_left
        ·simp only [Act.put, qT, qZ, qC, i64_w, i32_w]
         rfl
        refine pure_ (i := 10) (N := some 51) (v := ?_) (a' := ?_) #[true, true, true, true, true, true, true, true, true, true, true, false, false, false, false] rfl rfl (any_of HT_.out (by kernel_rfl)) (fun _ _ _ h => h) (Or.inl ⟨by rfl, ?_⟩) ?_ ?_
        rotate_left
        ·intro w'
         go_simp
         with_reducible rfl
        rotate_left
        ·simp only [Act.put, qT, qZ, qC, i64_w, i32_w]
         rfl
        refine pure_ (i := 11) (N := some 52) (v := ?_) (a' := ?_) #[true, true, true, true, true, true, true, true, true, true, true, true, false, false, false] rfl rfl (any_of HT_.out (by kernel_rfl)) (fun _ _ _ h => h) (Or.inl ⟨by rfl, ?_⟩) ?_ ?_
        rotate_left
        ·intro w'
         go_simp
         with_reducible rfl
        rotate_left
        ·simp only [Act.put, qT, qZ, qC, i64_w, i32_w]
         rfl
        refine pure_ (i := 12) (N := some 11) (v := ?_) (a' := ?_) #[true, true, true, true, true, true, true, true, true, true, true, true, true, false, false] rfl rfl (any_of HT_.out (by kernel_rfl)) (fun _ _ _ h => h) (Or.inl ⟨by rfl, ?_⟩) ?_ ?_
        rotate_left
        ·intro w'
         go_simp
         with_reducible rfl
        rotate_left
        ·simp only [Act.put, qT, qZ, qC, i64_w, i32_w]
         rfl
        refine pure_ (i := 13) (N := some 12) (v := ?_) (a' := ?_) #[true, true, true, true, true, true, true, true, true, true, true, true, true, true, false] rfl rfl (any_of HT_.out (by kernel_rfl)) (fun _ _ _ h => h) (Or.inl ⟨by rfl, ?_⟩) ?_ ?_
        rotate_left
        ·intro w'
         go_simp
         with_reducible rfl
        rotate_left
        ·simp only [Act.put, qT, qZ, qC, i64_w, i32_w]
         rfl
        refine pure_ (i := 14) (N := some 13) (v := ?_) (a' := ?_) #[true, true, true, true, true, true, true, true, true, true, true, true, true, true, true] rfl rfl (any_of HT_.out (by kernel_rfl)) (fun _ _ _ h => h) (Or.inl ⟨by rfl, ?_⟩) ?_ ?_
        rotate_left
        ·intro w'
         go_simp
         with_reducible rfl
        rotate_left
        ·simp only [Act.put, qT, qZ, qC, i64_w, i32_w]
         rfl
        refine done_ (done_of HT_.out (by kernel_rfl)) ?_
        try go_wp2_with (first | ((with_reducible refine gate_callee (f := 10) rfl ?_); refine goesL_ (some 56) rfl rfl Try.func10 (by kernel_rfl) rfl #[.int .i64 a0, .slice A1 l1.length c1, .int .i64 9, .int .i64 1099511627776] rfl (by (try simp only [List.map_toArray, List.map_cons, List.map_nil]); first | done | rfl | (simp only [List.length_drop, List.length_take]; rfl)) ?_; (with_reducible refine (cover_Best.calls a0 _ _ l1 9 1099511627776 t254 t255 t256 _ ?side1 ?side2 A16.out).mono ?_); (case side1 => repeat (first | exact (Kd.C_below HR1.out HB.out) | (with_reducible refine Kd.C_alloc ?_ _) | (with_reducible refine Kd.C_drewN ?_ _) | (with_reducible refine Kd.C_drew ?_))); (case side2 => exact HC1.out); rintro e w101 ⟨v257, rfl, ho0, hb⟩; refine ⟨_, rfl, ?_⟩; have n0_ := Aside0.mk (Kd.R_elder' HP.out (Kd.R_base ho0) hb); have n1_ := Aside0.mk (Kd.R_below HQ.out hb); have n2_ := Aside0.mk (Kd.R_below HO248.out hb); have n3_ := Aside0.mk (Kd.R_elder' HO253.out (Kd.R_base ho0) hb); have n4_ := Aside0.mk (Kd.R_lower (Kd.R_new' (Kd.R_new' ho0 (Kd.R_lt HP.out)) (Kd.R_lt HO253.out)) (below_size (by repeat (first | (with_reducible first | exact HB.out | apply qA | apply qN | apply q1 | refine qS ?_ GE.out) | exact HB.out)))); have n5_ := Aside0.mk (blk_below (g := gb) (o := .cells #[.int .i64 a2_0, .int .i64 a2_1, .int .i64 a2_2] 36 (0, 0)) (by (with_reducible repeat (first | refine blk_drewN ?_ _ | refine blk_drew ?_ | refine blk_alloc ?_ _)); exact BK.out) hb); have n6_ := Aside0.mk (below_step (by repeat (first | (with_reducible first | exact HB.out | apply qA | apply qN | apply q1 | refine qS ?_ GE.out) | exact HB.out)) hb); clear HP; clear HQ; clear HO248; clear HO253; clear BK; clear HB; have HP := n0_; have HQ := n1_; have HO248 := n2_; have HO253 := n3_; have HO258 := n4_; have BK := n5_; have HB := n6_; clear n0_ n1_ n2_ n3_ n4_ n5_ n6_; (try clear hb); (try clear hb2); (try clear hk); (try clear hi); (try clear ho0)))
        go_ret
        exact ⟨by first | rfl | (simp [errW_none, errW_some] <;> rfl) | (simp [*, errW_none, errW_some] <;> rfl), by repeat (first | (with_reducible first | exact HB.out | apply qA | apply qN | apply q1 | refine qS ?_ GE.out) | exact HB.out)⟩
       ·rw [if_neg c88] at H
        have c88b0 : (t251 == 0) = false := beq_eq_false_iff_ne.mpr c88
        have c88b1 : (t251 != 0) = true := bne_iff_ne.mpr c88
        obtain rfl := Option.some.inj H
        try go_wp2_with (first | ((with_reducible refine gate_callee (f := 10) rfl ?_); refine goesL_ (some 37) rfl rfl Try.func10 (by kernel_rfl) rfl #[.int .i64 a0, .slice A1 l1.length c1, .int .i64 7, .int .i64 1099511627776] rfl (by (try simp only [List.map_toArray, List.map_cons, List.map_nil]); first | done | rfl | (simp only [List.length_drop, List.length_take]; rfl)) ?_; (with_reducible refine (cover_Best.calls a0 _ _ l1 7 1099511627776 t232 t233 t234 _ ?side1 ?side2 A12.out).mono ?_); (case side1 => repeat (first | exact (Kd.C_below HR1.out HB.out) | (with_reducible refine Kd.C_alloc ?_ _) | (with_reducible refine Kd.C_drewN ?_ _) | (with_reducible refine Kd.C_drew ?_))); (case side2 => exact HC1.out); rintro e w102 ⟨v235, rfl, ho0, hb⟩; refine ⟨_, rfl, ?_⟩; have n0_ := Aside0.mk (Kd.R_lower ho0 (below_size (by repeat (first | (with_reducible first | exact HB.out | apply qA | apply qN | apply q1 | refine qS ?_ GE.out) | exact HB.out)))); have n1_ := Aside0.mk (blk_below (g := gb) (o := .cells #[.int .i64 a2_0, .int .i64 a2_1, .int .i64 a2_2] 36 (0, 0)) (by (with_reducible repeat (first | refine blk_drewN ?_ _ | refine blk_drew ?_ | refine blk_alloc ?_ _)); exact BK.out) hb); have n2_ := Aside0.mk (below_step (by repeat (first | (with_reducible first | exact HB.out | apply qA | apply qN | apply q1 | refine qS ?_ GE.out) | exact HB.out)) hb); clear BK; clear HB; have HP := n0_; have BK := n1_; have HB := n2_; clear n0_ n1_ n2_; (try clear hb); (try clear hb2); (try clear hk); (try clear hi); (try clear ho0)))
        have n0_ := Aside0.mk (Kd.R_drew HP.out)
        have n1_ := Aside0.mk (blk_drew BK.out)
        have n2_ := Aside0.mk (below_drew1 HB.out)
        clear HP
        clear BK
        clear HB
        have HP := n0_
        have BK := n1_
        have HB := n2_
        clear n0_ n1_ n2_
        refine start_ (n := 15) (S := fun w' => w'.cell? ⟨gb, 0, none⟩ = some (.int .i64 a2_0) ∧ w'.cell? ⟨gb, 1, none⟩ = some (.int .i64 a2_1) ∧ w'.cell? ⟨gb, 2, none⟩ = some (.int .i64 a2_2)) (ds := []) #[false, false, false, false, false, false, false, false, false, false, false, false, false, false, false] (by kernel_rfl) rfl rfl (qH BK.out) (fun hHeld => ?_); refine with_tabW scansionlaw19_CoverMore.tab5 scansionlaw19_CoverMore.bits5 (fun HT_ HW_ => ?_)
        generalize w102.drew = w103 at HP BK HB hHeld ⊢
        refine pure_ (i := 0) (N := some 42) (v := ?_) (a' := ?_) #[true, false, false, false, false, false, false, false, false, false, false, false, false, false, false] rfl rfl (any_of HT_.out (by kernel_rfl)) (fun _ _ _ h => h) (Or.inl ⟨by rfl, ?_⟩) ?_ ?_
        rotate_left
        ·intro w'
         go_simp
         with_reducible rfl
        rotate_left
        ·simp only [Act.put, qT, qZ, qC, i64_w, i32_w]
         rfl
        refine pure_ (i := 2) (N := some 44) (v := ?_) (a' := ?_) #[true, false, true, false, false, false, false, false, false, false, false, false, false, false, false] rfl rfl (any_of HT_.out (by kernel_rfl)) (fun _ _ _ h => h) (Or.inl ⟨by rfl, ?_⟩) ?_ ?_
        rotate_left
        ·intro w'
         go_simp
         with_reducible rfl
        rotate_left
        ·simp only [Act.put, qT, qZ, qC, i64_w, i32_w]
         rfl
        refine take_ (i := 4) (N := some 46) (v := ?_) (a' := ?_) #[true, false, true, false, true, false, false, false, false, false, false, false, false, false, false] rfl rfl (take_ofW HT_.out HW_.out (by kernel_rfl)) (fun _ _ _ h => h) (Or.inl ⟨by rfl, ?_⟩) hHeld ?_ ?_
        rotate_left
        ·rintro w' ⟨s0, s1, s2⟩
         go_simp
         with_reducible rfl
        rotate_left
        ·simp only [Act.put, qT, qZ, qC, i64_w, i32_w]
         rfl
        refine join_ (σ := Value × Value × Value) 9 #[true, true, true, true, true, true, false, false, false, false, false, false, false, false, false] (fun s_ => [(43, s_.1), (45, s_.2.1), (47, s_.2.2)]) (fun s_ w' => (w'.cell? ⟨gb, 0, none⟩ = some (.int .i64 a2_0) ∧ w'.cell? ⟨gb, 1, none⟩ = some (.int .i64 a2_1) ∧ w'.cell? ⟨gb, 2, none⟩ = some (.int .i64 a2_2)) ∧ (Kd.R (Kd.int .i64) 3 w' w.heap.size (fun _ => True) v235 t232) ∧ (Kd.R k36 36 w' w.heap.size (fun k_ => some k_ ≠ (s_.2.2 : Value).ownBlock ∧ k_ ≠ gb) s_.2.1 y240) ∧ (Kd.R k36 36 w' w.heap.size (fun k_ => some k_ ≠ (s_.2.1 : Value).ownBlock ∧ k_ ≠ gb) s_.2.2 y243) ∧ (w'.heap[gb]? = some (.cells #[.int .i64 a2_0, .int .i64 a2_1, .int .i64 a2_2] 36 (0, 0))) ∧ (Below w.heap.size w w')) ?_ ?_
        rotate_left
        ·intro hCont
         refine two_ (i := 1) (j := 5) (Ni := some 43) (Nj := some 47) #[true, true, true, false, true, false, false, false, false, false, false, false, false, false, false] #[true, false, true, false, true, true, false, false, false, false, false, false, false, false, false] rfl rfl rfl rfl (two_of HT_.out (by kernel_rfl)) (by decide) (by decide) (fun K hK => ?_) (fun K hK => ?_)
         ·skip
          refine Kd.R_lit_step k36 _ 36 ?hg (N := 43) ?hd (xs := ([] : List (S36))) (inner := []) (ok := fun _ => True) (okp := fun _ => True) ?hr ?hp (fun _ hk => hk) trivial (Below.refl _ _) (Nat.le_refl _) (by simp) ?_; (case hd => rfl); (case hg => rfl); (case hr => first | (go_simp; done) | (go_simp; rfl)); (case hp => exact (Reps.none _ _))
          intro v238 w104 ho105 hb hg_ hnew_
          clear hg_ hnew_
          (first | rw [← Ny237.out] at ho105 | (simp only [Int.reduceToNat] at ho105; rw [← Ny237.out] at ho105))
          have n0_ := Aside0.mk (Kd.R_below HP.out hb)
          have n1_ := Aside0.mk (Kd.R_lower (Kd.R_newB ho105 (g := gb) (o := .cells #[.int .i64 a2_0, .int .i64 a2_1, .int .i64 a2_2] 36 (0, 0)) (by (with_reducible repeat (first | refine blk_drewN ?_ _ | refine blk_drew ?_ | refine blk_alloc ?_ _)); exact BK.out)) (below_size (by repeat (first | (with_reducible first | exact HB.out | apply qA | apply qN | apply q1 | refine qS ?_ GE.out) | exact HB.out))))
          have n2_ := Aside0.mk (blk_below (g := gb) (o := .cells #[.int .i64 a2_0, .int .i64 a2_1, .int .i64 a2_2] 36 (0, 0)) (by (with_reducible repeat (first | refine blk_drewN ?_ _ | refine blk_drew ?_ | refine blk_alloc ?_ _)); exact BK.out) hb)
          have n3_ := Aside0.mk (below_step (by repeat (first | (with_reducible first | exact HB.out | apply qA | apply qN | apply q1 | refine qS ?_ GE.out) | exact HB.out)) hb)
          clear HP
          clear BK
          clear HB
          have HP := n0_
          have HO239 := n1_
          have BK := n2_
          have HB := n3_
          clear n0_ n1_ n2_ n3_
          clear hb ho105
          refine hK.out _ _ (qH BK.out) (fun hHeld => ?_)
          clear hK K
          refine norm_ (a' := ?_) ?_ ?_
          rotate_left
          ·show Act.put _ (some 43) _ = _
           simp only [Act.put, qT, qZ, qC, i64_w, i32_w]
           rfl
          refine two_ (i := 3) (j := 5) (Ni := some 45) (Nj := some 47) #[true, true, true, true, true, false, false, false, false, false, false, false, false, false, false] #[true, true, true, false, true, true, false, false, false, false, false, false, false, false, false] rfl rfl rfl rfl (two_of HT_.out (by kernel_rfl)) (by decide) (by decide) (fun K hK => ?_) (fun K hK => ?_)
          ·skip
           refine Kd.R_append_rows_step k36 (w0 := w) w.heap.size (by rfl) (.tmp 43) (.tmp 44) 22 36 (.agg #[(.int .i64 0), (.int .i64 0), (.int .i64 0)]) 24 rfl Try.underlying22 info36 rfl (by decide) (by omega) v238 y237 l1 _ _ _ (fun k_ => k_ ≠ gb) (fun _ => False) rfl rfl ?aO ?aR (fun _ _ h => h) (fun _ h => h.elim) ?aF ?aB ?aS ?aL ?_
           (case aR => repeat (first | exact (Kd.C_below HR1.out HB.out) | (with_reducible refine Kd.C_alloc ?_ _) | (with_reducible refine Kd.C_drewN ?_ _) | (with_reducible refine Kd.C_drew ?_)))
           (case aB => exact (by repeat (first | (with_reducible first | exact HB.out | apply qA | apply qN | apply q1 | refine qS ?_ GE.out) | exact HB.out)))
           (case aF => exact (fun k_ hk => Kd.freshB (g := gb) (o := .cells #[.int .i64 a2_0, .int .i64 a2_1, .int .i64 a2_2] 36 (0, 0)) (by (with_reducible repeat (first | refine blk_drewN ?_ _ | refine blk_drew ?_ | refine blk_alloc ?_ _)); exact BK.out) k_ hk))
           (case aO => exact (Kd.R_mono HO239.out (fun _ hk => hk.2)))
           (case aS => exact (below_size (by repeat (first | (with_reducible first | exact HB.out | apply qA | apply qN | apply q1 | refine qS ?_ GE.out) | exact HB.out))))
           (case aL => have := LMc13.out; omega)
           intro v241 w106 ho hb hg hat
           rw [← Ny240.out] at ho
           have n0_ := Aside0.mk (blk_grown (g := gb) (o := .cells #[.int .i64 a2_0, .int .i64 a2_1, .int .i64 a2_2] 36 (0, 0)) (by (with_reducible repeat (first | refine blk_drewN ?_ _ | refine blk_drew ?_ | refine blk_alloc ?_ _)); exact BK.out) hg (Kd.R_away HO239.out (fun _ hk => hk.2)))
           have n1_ := Aside0.mk (Kd.R_over' HP.out (Kd.R_typed HO239.out) (by decide) hg)
           have n2_ := Aside0.mk (hb)
           have n3_ := Aside0.mk (ho)
           clear BK
           clear HP
           clear HB
           clear HO239
           have BK := n0_
           have HP := n1_
           have HB := n2_
           have HR := n3_
           clear n0_ n1_ n2_ n3_
           clear ho hb hg hat
           refine hK.out _ _ (qH BK.out) (fun hHeld => ?_)
           clear hK K
           refine norm_ (a' := ?_) ?_ ?_
           rotate_left
           ·show Act.put _ (some 45) _ = _
            simp only [Act.put, qT, qZ, qC, i64_w, i32_w]
            rfl
           refine one_ (i := 5) (N := some 47) #[true, true, true, true, true, true, false, false, false, false, false, false, false, false, false] rfl rfl (one_of HT_.out (by kernel_rfl)) (by decide) (fun K hK => ?_)
           refine Kd.R_lit_step k36 _ 36 ?hg (N := 47) ?hd (xs := ([(⟨a2_0, a2_1, a2_2⟩ : S36)] : List (S36))) (inner := [.int .i64 a2_0, .int .i64 a2_1, .int .i64 a2_2]) (ok := fun _ => True) (okp := fun _ => True) ?hr ?hp (fun _ hk => hk) trivial (Below.refl _ _) (Nat.le_refl _) (by simp) ?_; (case hd => rfl); (case hg => rfl); (case hr => first | (go_simp; done) | (go_simp; rfl)); (case hp => exact (Reps.c3 (show Kd.M k36 _ _ _ (⟨a2_0, a2_1, a2_2⟩ : S36) [.int .i64 a2_0, .int .i64 a2_1, .int .i64 a2_2] from (k36_mkM _ _ _ (⟨a2_0, a2_1, a2_2⟩ : S36) )) (Reps.none _ _)))
           intro v244 w107 ho108 hb hg_ hnew_
           clear hg_ hnew_
           (first | rw [← Ny243.out] at ho108 | (simp only [Int.reduceToNat] at ho108; rw [← Ny243.out] at ho108))
           have n0_ := Aside0.mk (Kd.R_below HP.out hb)
           have n1_ := Aside0.mk (Kd.R_elder' HR.out (Kd.R_base ho108) hb)
           have n2_ := Aside0.mk (Kd.R_lower (Kd.R_newB (Kd.R_new' ho108 (Kd.R_lt HR.out)) (g := gb) (o := .cells #[.int .i64 a2_0, .int .i64 a2_1, .int .i64 a2_2] 36 (0, 0)) (by (with_reducible repeat (first | refine blk_drewN ?_ _ | refine blk_drew ?_ | refine blk_alloc ?_ _)); exact BK.out)) (below_size (by repeat (first | (with_reducible first | exact HB.out | apply qA | apply qN | apply q1 | refine qS ?_ GE.out) | exact HB.out))))
           have n3_ := Aside0.mk (blk_below (g := gb) (o := .cells #[.int .i64 a2_0, .int .i64 a2_1, .int .i64 a2_2] 36 (0, 0)) (by (with_reducible repeat (first | refine blk_drewN ?_ _ | refine blk_drew ?_ | refine blk_alloc ?_ _)); exact BK.out) hb)
           have n4_ := Aside0.mk (below_step (by repeat (first | (with_reducible first | exact HB.out | apply qA | apply qN | apply q1 | refine qS ?_ GE.out) | exact HB.out)) hb)
           clear HP
           clear HR
           clear BK
           clear HB
           have HP := n0_
           have HR := n1_
           have HQ := n2_
           have BK := n3_
           have HB := n4_
           clear n0_ n1_ n2_ n3_ n4_
           clear hb ho108
           refine hK.out _ _ (qH BK.out) (fun hHeld => ?_)
           clear hK K
           refine norm_ (a' := ?_) ?_ ?_
           rotate_left
           ·show Act.put _ (some 47) _ = _
            simp only [Act.put, qT, qZ, qC, i64_w, i32_w]
            rfl
           exact norm_ (by simp only [putAll, Act.put, qT, qZ, qC]) (hCont (v238, v241, v244) _ ⟨hHeld, HP.out, (Kd.R_mono HR.out (fun _ hk => ⟨hk.2, hk.1⟩)), (Kd.R_mono HQ.out (fun _ hk => ⟨hk.1.2, hk.2⟩)), (by (with_reducible repeat (first | refine blk_drewN ?_ _ | refine blk_drew ?_ | refine blk_alloc ?_ _)); exact BK.out), (by repeat (first | (with_reducible first | exact HB.out | apply qA | apply qN | apply q1 | refine qS ?_ GE.out) | exact HB.out))⟩)
          ·skip
           refine Kd.R_lit_step k36 _ 36 ?hg (N := 47) ?hd (xs := ([(⟨a2_0, a2_1, a2_2⟩ : S36)] : List (S36))) (inner := [.int .i64 a2_0, .int .i64 a2_1, .int .i64 a2_2]) (ok := fun _ => True) (okp := fun _ => True) ?hr ?hp (fun _ hk => hk) trivial (Below.refl _ _) (Nat.le_refl _) (by simp) ?_; (case hd => rfl); (case hg => rfl); (case hr => first | (go_simp; done) | (go_simp; rfl)); (case hp => exact (Reps.c3 (show Kd.M k36 _ _ _ (⟨a2_0, a2_1, a2_2⟩ : S36) [.int .i64 a2_0, .int .i64 a2_1, .int .i64 a2_2] from (k36_mkM _ _ _ (⟨a2_0, a2_1, a2_2⟩ : S36) )) (Reps.none _ _)))
           intro v244 w106 ho107 hb hg_ hnew_
           clear hg_ hnew_
           (first | rw [← Ny243.out] at ho107 | (simp only [Int.reduceToNat] at ho107; rw [← Ny243.out] at ho107))
           have n0_ := Aside0.mk (Kd.R_below HP.out hb)
           have n1_ := Aside0.mk (Kd.R_elder' HO239.out (Kd.R_base ho107) hb)
           have n2_ := Aside0.mk (Kd.R_lower (Kd.R_newB (Kd.R_new' ho107 (Kd.R_lt HO239.out)) (g := gb) (o := .cells #[.int .i64 a2_0, .int .i64 a2_1, .int .i64 a2_2] 36 (0, 0)) (by (with_reducible repeat (first | refine blk_drewN ?_ _ | refine blk_drew ?_ | refine blk_alloc ?_ _)); exact BK.out)) (below_size (by repeat (first | (with_reducible first | exact HB.out | apply qA | apply qN | apply q1 | refine qS ?_ GE.out) | exact HB.out))))
           have n3_ := Aside0.mk (blk_below (g := gb) (o := .cells #[.int .i64 a2_0, .int .i64 a2_1, .int .i64 a2_2] 36 (0, 0)) (by (with_reducible repeat (first | refine blk_drewN ?_ _ | refine blk_drew ?_ | refine blk_alloc ?_ _)); exact BK.out) hb)
           have n4_ := Aside0.mk (below_step (by repeat (first | (with_reducible first | exact HB.out | apply qA | apply qN | apply q1 | refine qS ?_ GE.out) | exact HB.out)) hb)
           clear HP
           clear HO239
           clear BK
           clear HB
           have HP := n0_
           have HO239 := n1_
           have HQ := n2_
           have BK := n3_
           have HB := n4_
           clear n0_ n1_ n2_ n3_ n4_
           clear hb ho107
           refine hK.out _ _ (qH BK.out) (fun hHeld => ?_)
           clear hK K
           refine norm_ (a' := ?_) ?_ ?_
           rotate_left
           ·show Act.put _ (some 47) _ = _
            simp only [Act.put, qT, qZ, qC, i64_w, i32_w]
            rfl
           refine one_ (i := 3) (N := some 45) #[true, true, true, true, true, true, false, false, false, false, false, false, false, false, false] rfl rfl (one_of HT_.out (by kernel_rfl)) (by decide) (fun K hK => ?_)
           refine Kd.R_append_rows_step k36 (w0 := w) w.heap.size (by rfl) (.tmp 43) (.tmp 44) 22 36 (.agg #[(.int .i64 0), (.int .i64 0), (.int .i64 0)]) 24 rfl Try.underlying22 info36 rfl (by decide) (by omega) v238 y237 l1 _ _ _ (fun k_ => some k_ ≠ (v244 : Value).ownBlock ∧ k_ ≠ gb) (fun _ => False) rfl rfl ?aO ?aR (fun _ _ h => h) (fun _ h => h.elim) ?aF ?aB ?aS ?aL ?_
           (case aR => repeat (first | exact (Kd.C_below HR1.out HB.out) | (with_reducible refine Kd.C_alloc ?_ _) | (with_reducible refine Kd.C_drewN ?_ _) | (with_reducible refine Kd.C_drew ?_)))
           (case aB => exact (by repeat (first | (with_reducible first | exact HB.out | apply qA | apply qN | apply q1 | refine qS ?_ GE.out) | exact HB.out)))
           (case aF => exact (fun k_ hk => ⟨Kd.fresh' (Kd.R_lt HQ.out) k_ hk, Kd.freshB (g := gb) (o := .cells #[.int .i64 a2_0, .int .i64 a2_1, .int .i64 a2_2] 36 (0, 0)) (by (with_reducible repeat (first | refine blk_drewN ?_ _ | refine blk_drew ?_ | refine blk_alloc ?_ _)); exact BK.out) k_ hk⟩))
           (case aO => exact (Kd.R_mono HO239.out (fun _ hk => ⟨hk.2, hk.1.2⟩)))
           (case aS => exact (below_size (by repeat (first | (with_reducible first | exact HB.out | apply qA | apply qN | apply q1 | refine qS ?_ GE.out) | exact HB.out))))
           (case aL => have := LMc13.out; omega)
           intro v241 w108 ho hb hg hat
           rw [← Ny240.out] at ho
           have n0_ := Aside0.mk (blk_grown (g := gb) (o := .cells #[.int .i64 a2_0, .int .i64 a2_1, .int .i64 a2_2] 36 (0, 0)) (by (with_reducible repeat (first | refine blk_drewN ?_ _ | refine blk_drew ?_ | refine blk_alloc ?_ _)); exact BK.out) hg (Kd.R_away HO239.out (fun _ hk => hk.1.2)))
           have n1_ := Aside0.mk (Kd.R_over' HP.out (Kd.R_typed HO239.out) (by decide) hg)
           have n2_ := Aside0.mk (Kd.R_after (ok := (fun k_ => k_ ≠ gb)) (Kd.R_mono HQ.out (fun _ hk => ⟨hk.2, hk.1.2⟩)) hg hat)
           have n3_ := Aside0.mk (hb)
           have n4_ := Aside0.mk (ho)
           clear BK
           clear HP
           clear HQ
           clear HB
           clear HO239
           have BK := n0_
           have HP := n1_
           have HQ := n2_
           have HB := n3_
           have HR := n4_
           clear n0_ n1_ n2_ n3_ n4_
           clear ho hb hg hat
           refine hK.out _ _ (qH BK.out) (fun hHeld => ?_)
           clear hK K
           refine norm_ (a' := ?_) ?_ ?_
           rotate_left
           ·show Act.put _ (some 45) _ = _
            simp only [Act.put, qT, qZ, qC, i64_w, i32_w]
            rfl
           exact norm_ (by simp only [putAll, Act.put, qT, qZ, qC]) (hCont (v238, v241, v244) _ ⟨hHeld, HP.out, HR.out, (Kd.R_mono HQ.out (fun _ hk => ⟨hk.2, hk.1⟩)), (by (with_reducible repeat (first | refine blk_drewN ?_ _ | refine blk_drew ?_ | refine blk_alloc ?_ _)); exact BK.out), (by repeat (first | (with_reducible first | exact HB.out | apply qA | apply qN | apply q1 | refine qS ?_ GE.out) | exact HB.out))⟩)
         ·skip
          refine Kd.R_lit_step k36 _ 36 ?hg (N := 47) ?hd (xs := ([(⟨a2_0, a2_1, a2_2⟩ : S36)] : List (S36))) (inner := [.int .i64 a2_0, .int .i64 a2_1, .int .i64 a2_2]) (ok := fun _ => True) (okp := fun _ => True) ?hr ?hp (fun _ hk => hk) trivial (Below.refl _ _) (Nat.le_refl _) (by simp) ?_; (case hd => rfl); (case hg => rfl); (case hr => first | (go_simp; done) | (go_simp; rfl)); (case hp => exact (Reps.c3 (show Kd.M k36 _ _ _ (⟨a2_0, a2_1, a2_2⟩ : S36) [.int .i64 a2_0, .int .i64 a2_1, .int .i64 a2_2] from (k36_mkM _ _ _ (⟨a2_0, a2_1, a2_2⟩ : S36) )) (Reps.none _ _)))
          intro v244 w104 ho105 hb hg_ hnew_
          clear hg_ hnew_
          (first | rw [← Ny243.out] at ho105 | (simp only [Int.reduceToNat] at ho105; rw [← Ny243.out] at ho105))
          have n0_ := Aside0.mk (Kd.R_below HP.out hb)
          have n1_ := Aside0.mk (Kd.R_lower (Kd.R_newB ho105 (g := gb) (o := .cells #[.int .i64 a2_0, .int .i64 a2_1, .int .i64 a2_2] 36 (0, 0)) (by (with_reducible repeat (first | refine blk_drewN ?_ _ | refine blk_drew ?_ | refine blk_alloc ?_ _)); exact BK.out)) (below_size (by repeat (first | (with_reducible first | exact HB.out | apply qA | apply qN | apply q1 | refine qS ?_ GE.out) | exact HB.out))))
          have n2_ := Aside0.mk (blk_below (g := gb) (o := .cells #[.int .i64 a2_0, .int .i64 a2_1, .int .i64 a2_2] 36 (0, 0)) (by (with_reducible repeat (first | refine blk_drewN ?_ _ | refine blk_drew ?_ | refine blk_alloc ?_ _)); exact BK.out) hb)
          have n3_ := Aside0.mk (below_step (by repeat (first | (with_reducible first | exact HB.out | apply qA | apply qN | apply q1 | refine qS ?_ GE.out) | exact HB.out)) hb)
          clear HP
          clear BK
          clear HB
          have HP := n0_
          have HQ := n1_
          have BK := n2_
          have HB := n3_
          clear n0_ n1_ n2_ n3_
          clear hb ho105
          refine hK.out _ _ (qH BK.out) (fun hHeld => ?_)
          clear hK K
          refine norm_ (a' := ?_) ?_ ?_
          rotate_left
          ·show Act.put _ (some 47) _ = _
           simp only [Act.put, qT, qZ, qC, i64_w, i32_w]
           rfl
          refine one_ (i := 1) (N := some 43) #[true, true, true, false, true, true, false, false, false, false, false, false, false, false, false] rfl rfl (one_of HT_.out (by kernel_rfl)) (by decide) (fun K hK => ?_)
          refine Kd.R_lit_step k36 _ 36 ?hg (N := 43) ?hd (xs := ([] : List (S36))) (inner := []) (ok := fun _ => True) (okp := fun _ => True) ?hr ?hp (fun _ hk => hk) trivial (Below.refl _ _) (Nat.le_refl _) (by simp) ?_; (case hd => rfl); (case hg => rfl); (case hr => first | (go_simp; done) | (go_simp; rfl)); (case hp => exact (Reps.none _ _))
          intro v238 w106 ho107 hb hg_ hnew_
          clear hg_ hnew_
          (first | rw [← Ny237.out] at ho107 | (simp only [Int.reduceToNat] at ho107; rw [← Ny237.out] at ho107))
          have n0_ := Aside0.mk (Kd.R_below HP.out hb)
          have n1_ := Aside0.mk (Kd.R_elder' HQ.out (Kd.R_base ho107) hb)
          have n2_ := Aside0.mk (Kd.R_lower (Kd.R_newB (Kd.R_new' ho107 (Kd.R_lt HQ.out)) (g := gb) (o := .cells #[.int .i64 a2_0, .int .i64 a2_1, .int .i64 a2_2] 36 (0, 0)) (by (with_reducible repeat (first | refine blk_drewN ?_ _ | refine blk_drew ?_ | refine blk_alloc ?_ _)); exact BK.out)) (below_size (by repeat (first | (with_reducible first | exact HB.out | apply qA | apply qN | apply q1 | refine qS ?_ GE.out) | exact HB.out))))
          have n3_ := Aside0.mk (blk_below (g := gb) (o := .cells #[.int .i64 a2_0, .int .i64 a2_1, .int .i64 a2_2] 36 (0, 0)) (by (with_reducible repeat (first | refine blk_drewN ?_ _ | refine blk_drew ?_ | refine blk_alloc ?_ _)); exact BK.out) hb)
          have n4_ := Aside0.mk (below_step (by repeat (first | (with_reducible first | exact HB.out | apply qA | apply qN | apply q1 | refine qS ?_ GE.out) | exact HB.out)) hb)
          clear HP
          clear HQ
          clear BK
          clear HB
          have HP := n0_
          have HQ := n1_
          have HO239 := n2_
          have BK := n3_
          have HB := n4_
          clear n0_ n1_ n2_ n3_ n4_
          clear hb ho107
          refine hK.out _ _ (qH BK.out) (fun hHeld => ?_)
          clear hK K
          refine norm_ (a' := ?_) ?_ ?_
          rotate_left
          ·show Act.put _ (some 43) _ = _
           simp only [Act.put, qT, qZ, qC, i64_w, i32_w]
           rfl
          refine one_ (i := 3) (N := some 45) #[true, true, true, true, true, true, false, false, false, false, false, false, false, false, false] rfl rfl (one_of HT_.out (by kernel_rfl)) (by decide) (fun K hK => ?_)
          refine Kd.R_append_rows_step k36 (w0 := w) w.heap.size (by rfl) (.tmp 43) (.tmp 44) 22 36 (.agg #[(.int .i64 0), (.int .i64 0), (.int .i64 0)]) 24 rfl Try.underlying22 info36 rfl (by decide) (by omega) v238 y237 l1 _ _ _ (fun k_ => some k_ ≠ (v244 : Value).ownBlock ∧ k_ ≠ gb) (fun _ => False) rfl rfl ?aO ?aR (fun _ _ h => h) (fun _ h => h.elim) ?aF ?aB ?aS ?aL ?_
          (case aR => repeat (first | exact (Kd.C_below HR1.out HB.out) | (with_reducible refine Kd.C_alloc ?_ _) | (with_reducible refine Kd.C_drewN ?_ _) | (with_reducible refine Kd.C_drew ?_)))
          (case aB => exact (by repeat (first | (with_reducible first | exact HB.out | apply qA | apply qN | apply q1 | refine qS ?_ GE.out) | exact HB.out)))
          (case aF => exact (fun k_ hk => ⟨Kd.fresh' (Kd.R_lt HQ.out) k_ hk, Kd.freshB (g := gb) (o := .cells #[.int .i64 a2_0, .int .i64 a2_1, .int .i64 a2_2] 36 (0, 0)) (by (with_reducible repeat (first | refine blk_drewN ?_ _ | refine blk_drew ?_ | refine blk_alloc ?_ _)); exact BK.out) k_ hk⟩))
          (case aO => exact (Kd.R_mono HO239.out (fun _ hk => ⟨hk.1.2, hk.2⟩)))
          (case aS => exact (below_size (by repeat (first | (with_reducible first | exact HB.out | apply qA | apply qN | apply q1 | refine qS ?_ GE.out) | exact HB.out))))
          (case aL => have := LMc13.out; omega)
          intro v241 w108 ho hb hg hat
          rw [← Ny240.out] at ho
          have n0_ := Aside0.mk (blk_grown (g := gb) (o := .cells #[.int .i64 a2_0, .int .i64 a2_1, .int .i64 a2_2] 36 (0, 0)) (by (with_reducible repeat (first | refine blk_drewN ?_ _ | refine blk_drew ?_ | refine blk_alloc ?_ _)); exact BK.out) hg (Kd.R_away HO239.out (fun _ hk => hk.2)))
          have n1_ := Aside0.mk (Kd.R_over' HP.out (Kd.R_typed HO239.out) (by decide) hg)
          have n2_ := Aside0.mk (Kd.R_after (ok := (fun k_ => k_ ≠ gb)) (Kd.R_mono HQ.out (fun _ hk => ⟨hk.1.2, hk.2⟩)) hg hat)
          have n3_ := Aside0.mk (hb)
          have n4_ := Aside0.mk (ho)
          clear BK
          clear HP
          clear HQ
          clear HB
          clear HO239
          have BK := n0_
          have HP := n1_
          have HQ := n2_
          have HB := n3_
          have HR := n4_
          clear n0_ n1_ n2_ n3_ n4_
          clear ho hb hg hat
          refine hK.out _ _ (qH BK.out) (fun hHeld => ?_)
          clear hK K
          refine norm_ (a' := ?_) ?_ ?_
          rotate_left
          ·show Act.put _ (some 45) _ = _
           simp only [Act.put, qT, qZ, qC, i64_w, i32_w]
           rfl
          exact norm_ (by simp only [putAll, Act.put, qT, qZ, qC]) (hCont (v238, v241, v244) _ ⟨hHeld, HP.out, HR.out, (Kd.R_mono HQ.out (fun _ hk => ⟨hk.2, hk.1⟩)), (by (with_reducible repeat (first | refine blk_drewN ?_ _ | refine blk_drew ?_ | refine blk_alloc ?_ _)); exact BK.out), (by repeat (first | (with_reducible first | exact HB.out | apply qA | apply qN | apply q1 | refine qS ?_ GE.out) | exact HB.out))⟩)
        rintro ⟨v238, v241, v244⟩ w109 ⟨hS_, h0_, h1_, h2_, h3_, h4_⟩
        have n0_ : Aside0 (Kd.R (Kd.int .i64) 3 w109 w.heap.size (fun _ => True) v235 t232) := ⟨h0_⟩
        have n1_ : Aside0 (Kd.R k36 36 w109 w.heap.size (fun k_ => some k_ ≠ (v244 : Value).ownBlock ∧ k_ ≠ gb) v241 y240) := ⟨h1_⟩
        have n2_ : Aside0 (Kd.R k36 36 w109 w.heap.size (fun k_ => some k_ ≠ (v241 : Value).ownBlock ∧ k_ ≠ gb) v244 y243) := ⟨h2_⟩
        have n3_ : Aside0 (w109.heap[gb]? = some (.cells #[.int .i64 a2_0, .int .i64 a2_1, .int .i64 a2_2] 36 (0, 0))) := ⟨h3_⟩
        have n4_ : Aside0 (Below w.heap.size w w109) := ⟨h4_⟩
        clear HP
        clear BK
        clear HB
        clear h0_ h1_ h2_ h3_ h4_
        have HP := n0_
        have HR := n1_
        have HQ := n2_
        have BK := n3_
        have HB := n4_
        clear n0_ n1_ n2_ n3_ n4_
        have hHeld : w109.cell? ⟨gb, 0, none⟩ = some (.int .i64 a2_0) ∧ w109.cell? ⟨gb, 1, none⟩ = some (.int .i64 a2_1) ∧ w109.cell? ⟨gb, 2, none⟩ = some (.int .i64 a2_2) := hS_
        obtain ⟨Ao111, co111, eo111⟩ := Kd.R_slice HQ.out
        (first | subst eo111 | (injection eo111 with f1_ f2_ f3_; have f4_ := f1_.symm; have f5_ := f3_.symm; clear f1_ f2_ f3_; subst f4_; subst f5_))
        refine norm_ (a' := ?_) ?_ ?_
        rotate_left
        ·simp only [putAll, Act.put, qT, qZ, qC]
         rfl
        refine one_ (i := 6) (N := some 48) #[true, true, true, true, true, true, true, false, false, false, false, false, false, false, false] rfl rfl (one_of HT_.out (by kernel_rfl)) (by decide) (fun K hK => ?_)
        refine Kd.R_append_rows_step k36 (w0 := w) w.heap.size (by rfl) (.tmp 45) (.tmp 47) 22 36 (.agg #[(.int .i64 0), (.int .i64 0), (.int .i64 0)]) 24 rfl Try.underlying22 info36 rfl (by decide) (by omega) v241 y240 y243 _ _ _ (fun k_ => some k_ ≠ (.slice Ao111 y243.length co111 : Value).ownBlock ∧ k_ ≠ gb) (fun _ => False) rfl rfl ?aO ?aR (fun _ _ h => h) (fun _ h => h.elim) ?aF ?aB ?aS ?aL ?_
        (case aR => repeat (first | exact (Kd.R_reads' HQ.out).2.2 | (with_reducible refine Kd.C_alloc ?_ _) | (with_reducible refine Kd.C_drewN ?_ _) | (with_reducible refine Kd.C_drew ?_)))
        (case aB => exact (by repeat (first | (with_reducible first | exact HB.out | apply qA | apply qN | apply q1 | refine qS ?_ GE.out) | exact HB.out)))
        (case aF => exact (fun k_ hk => ⟨Kd.fresh' (Kd.R_lt HQ.out) k_ hk, Kd.freshB (g := gb) (o := .cells #[.int .i64 a2_0, .int .i64 a2_1, .int .i64 a2_2] 36 (0, 0)) (by (with_reducible repeat (first | refine blk_drewN ?_ _ | refine blk_drew ?_ | refine blk_alloc ?_ _)); exact BK.out) k_ hk⟩))
        (case aO => exact HR.out)
        (case aS => exact (below_size (by repeat (first | (with_reducible first | exact HB.out | apply qA | apply qN | apply q1 | refine qS ?_ GE.out) | exact HB.out))))
        (case aL => have := LMc14.out; omega)
        intro v247 w110 ho hb hg hat
        rw [← Ny246.out] at ho
        have n0_ := Aside0.mk (blk_grown (g := gb) (o := .cells #[.int .i64 a2_0, .int .i64 a2_1, .int .i64 a2_2] 36 (0, 0)) (by (with_reducible repeat (first | refine blk_drewN ?_ _ | refine blk_drew ?_ | refine blk_alloc ?_ _)); exact BK.out) hg (Kd.R_away HR.out (fun _ hk => hk.2)))
        have n1_ := Aside0.mk (Kd.R_over' HP.out (Kd.R_typed HR.out) (by decide) hg)
        have n2_ := Aside0.mk (Kd.R_after (ok := (fun k_ => k_ ≠ gb)) (Kd.R_mono HQ.out (fun _ hk => ⟨hk.2, hk.1⟩)) hg hat)
        have n3_ := Aside0.mk (hb)
        have n4_ := Aside0.mk (ho)
        clear BK
        clear HP
        clear HQ
        clear HB
        clear HR
        have BK := n0_
        have HP := n1_
        have HQ := n2_
        have HB := n3_
        have HO248 := n4_
        clear n0_ n1_ n2_ n3_ n4_
        clear ho hb hg hat
        obtain ⟨Ao112, co112, eo112⟩ := Kd.R_slice HO248.out
        (first | subst eo112 | (injection eo112 with f1_ f2_ f3_; have f4_ := f1_.symm; have f5_ := f3_.symm; clear f1_ f2_ f3_; subst f4_; subst f5_))
        refine hK.out _ _ (qH BK.out) (fun hHeld => ?_)
        clear hK K
        refine norm_ (a' := ?_) ?_ ?_
        rotate_left
        ·show Act.put _ (some 48) _ = _
         simp only [Act.put, qT, qZ, qC, i64_w, i32_w]
         rfl
        refine one_ (i := 7) (N := some 49) #[true, true, true, true, true, true, true, true, false, false, false, false, false, false, false] rfl rfl (one_of HT_.out (by kernel_rfl)) (by decide) (fun K hK => ?_)
        refine goes_ Try.func10 (by kernel_rfl) rfl #[.int .i64 a0, .slice Ao112 y246.length co112, .int .i64 7, .int .i64 1099511627776] (by rfl) rfl rfl (by (try simp only [List.map_toArray, List.map_cons, List.map_nil]); first | done | rfl | (simp only [List.length_drop, List.length_take]; rfl)) ?_
        with_reducible refine (cover_Best.calls a0 _ _ y246 7 1099511627776 t249 t250 t251 _ ?side1 ?side2 A15.out).mono ?_
        (case side1 => repeat (first | exact (Kd.R_reads' HO248.out).2.2 | (with_reducible refine Kd.C_alloc ?_ _) | (with_reducible refine Kd.C_drewN ?_ _) | (with_reducible refine Kd.C_drew ?_)))
        (case side2 => exact (Kd.R_reads' HO248.out).2.1)
        rintro e w113 ⟨v252, rfl, ho0, hb⟩
        refine ⟨_, rfl, ?_⟩
        have n0_ := Aside0.mk (Kd.R_elder' HP.out (Kd.R_base ho0) hb)
        have n1_ := Aside0.mk (Kd.R_below HQ.out hb)
        have n2_ := Aside0.mk (Kd.R_below HO248.out hb)
        have n3_ := Aside0.mk (Kd.R_lower (Kd.R_new' ho0 (Kd.R_lt HP.out)) (below_size (by repeat (first | (with_reducible first | exact HB.out | apply qA | apply qN | apply q1 | refine qS ?_ GE.out) | exact HB.out))))
        have n4_ := Aside0.mk (blk_below (g := gb) (o := .cells #[.int .i64 a2_0, .int .i64 a2_1, .int .i64 a2_2] 36 (0, 0)) (by (with_reducible repeat (first | refine blk_drewN ?_ _ | refine blk_drew ?_ | refine blk_alloc ?_ _)); exact BK.out) hb)
        have n5_ := Aside0.mk (below_step (by repeat (first | (with_reducible first | exact HB.out | apply qA | apply qN | apply q1 | refine qS ?_ GE.out) | exact HB.out)) hb)
        clear HP
        clear HQ
        clear HO248
        clear BK
        clear HB
        have HP := n0_
        have HQ := n1_
        have HO248 := n2_
        have HO253 := n3_
        have BK := n4_
        have HB := n5_
        clear n0_ n1_ n2_ n3_ n4_ n5_
        (try clear hb)
        (try clear hb2)
        (try clear hk)
        (try clear hi)
        (try clear ho0)
        refine hK.out _ _ (qH BK.out) (fun hHeld => ?_)
        clear hK K
        refine norm_ (a' := ?_) ?_ ?_
        rotate_left
        ·show Act.put _ (some 49) _ = _
         simp only [Act.put, qT, qZ, qC, i64_w, i32_w]
         rfl
        refine pure_ (i := 8) (N := some 41) (v := ?_) (a' := ?_) #[true, true, true, true, true, true, true, true, true, false, false, false, false, false, false] rfl rfl (any_of HT_.out (by kernel_rfl)) (fun _ _ _ h => h) (Or.inl ⟨by rfl, ?_⟩) ?_ ?_
        rotate_left
        ·intro w'
         go_simp
         with_reducible rfl
        rotate_left
        ·simp only [Act.put, qT, qZ, qC, i64_w, i32_w]
         rfl
        refine pure_ (i := 9) (N := some 50) (v := ?_) (a' := ?_) #[true, true, true, true, true, true, true, true, true, true, false, false, false, false, false] rfl rfl (any_of HT_.out (by kernel_rfl)) (fun _ _ _ h => h) (Or.inl ⟨by rfl, ?_⟩) ?_ ?_
        rotate_left
        ·intro w'
         go_simp
         with_reducible rfl
        rotate_left
        ·simp only [Act.put, qT, qZ, qC, i64_w, i32_w]
         rfl
        refine pure_ (i := 10) (N := some 51) (v := ?_) (a' := ?_) #[true, true, true, true, true, true, true, true, true, true, true, false, false, false, false] rfl rfl (any_of HT_.out (by kernel_rfl)) (fun _ _ _ h => h) (Or.inl ⟨by rfl, ?_⟩) ?_ ?_
        rotate_left
        ·intro w'
         go_simp
         with_reducible rfl
        rotate_left
        ·simp only [Act.put, qT, qZ, qC, i64_w, i32_w]
         rfl
        refine pure_ (i := 11) (N := some 52) (v := ?_) (a' := ?_) #[true, true, true, true, true, true, true, true, true, true, true, true, false, false, false] rfl rfl (any_of HT_.out (by kernel_rfl)) (fun _ _ _ h => h) (Or.inl ⟨by rfl, ?_⟩) ?_ ?_
        rotate_left
        ·intro w'
         go_simp
         with_reducible rfl
        rotate_left
        ·simp only [Act.put, qT, qZ, qC, i64_w, i32_w]
         rfl
        refine pure_ (i := 12) (N := some 11) (v := ?_) (a' := ?_) #[true, true, true, true, true, true, true, true, true, true, true, true, true, false, false] rfl rfl (any_of HT_.out (by kernel_rfl)) (fun _ _ _ h => h) (Or.inl ⟨by rfl, ?_⟩) ?_ ?_
        rotate_left
        ·intro w'
         go_simp
         with_reducible rfl
        rotate_left
        ·simp only [Act.put, qT, qZ, qC, i64_w, i32_w]
         rfl
        refine pure_ (i := 13) (N := some 12) (v := ?_) (a' := ?_) #[true, true, true, true, true, true, true, true, true, true, true, true, true, true, false] rfl rfl (any_of HT_.out (by kernel_rfl)) (fun _ _ _ h => h) (Or.inl ⟨by rfl, ?_⟩) ?_ ?_
        rotate_left
        ·intro w'
         go_simp
         with_reducible rfl
        rotate_left
        ·simp only [Act.put, qT, qZ, qC, i64_w, i32_w]
         rfl
        refine pure_ (i := 14) (N := some 13) (v := ?_) (a' := ?_) #[true, true, true, true, true, true, true, true, true, true, true, true, true, true, true] rfl rfl (any_of HT_.out (by kernel_rfl)) (fun _ _ _ h => h) (Or.inl ⟨by rfl, ?_⟩) ?_ ?_
        rotate_left
        ·intro w'
         go_simp
         with_reducible rfl
        rotate_left
        ·simp only [Act.put, qT, qZ, qC, i64_w, i32_w]
         rfl
        refine done_ (done_of HT_.out (by kernel_rfl)) ?_
        try go_wp2_with (first | ((with_reducible refine gate_callee (f := 10) rfl ?_); refine goesL_ (some 56) rfl rfl Try.func10 (by kernel_rfl) rfl #[.int .i64 a0, .slice A1 l1.length c1, .int .i64 9, .int .i64 1099511627776] rfl (by (try simp only [List.map_toArray, List.map_cons, List.map_nil]); first | done | rfl | (simp only [List.length_drop, List.length_take]; rfl)) ?_; (with_reducible refine (cover_Best.calls a0 _ _ l1 9 1099511627776 t254 t255 t256 _ ?side1 ?side2 A16.out).mono ?_); (case side1 => repeat (first | exact (Kd.C_below HR1.out HB.out) | (with_reducible refine Kd.C_alloc ?_ _) | (with_reducible refine Kd.C_drewN ?_ _) | (with_reducible refine Kd.C_drew ?_))); (case side2 => exact HC1.out); rintro e w114 ⟨v257, rfl, ho0, hb⟩; refine ⟨_, rfl, ?_⟩; have n0_ := Aside0.mk (Kd.R_elder' HP.out (Kd.R_base ho0) hb); have n1_ := Aside0.mk (Kd.R_below HQ.out hb); have n2_ := Aside0.mk (Kd.R_below HO248.out hb); have n3_ := Aside0.mk (Kd.R_elder' HO253.out (Kd.R_base ho0) hb); have n4_ := Aside0.mk (Kd.R_lower (Kd.R_new' (Kd.R_new' ho0 (Kd.R_lt HP.out)) (Kd.R_lt HO253.out)) (below_size (by repeat (first | (with_reducible first | exact HB.out | apply qA | apply qN | apply q1 | refine qS ?_ GE.out) | exact HB.out)))); have n5_ := Aside0.mk (blk_below (g := gb) (o := .cells #[.int .i64 a2_0, .int .i64 a2_1, .int .i64 a2_2] 36 (0, 0)) (by (with_reducible repeat (first | refine blk_drewN ?_ _ | refine blk_drew ?_ | refine blk_alloc ?_ _)); exact BK.out) hb); have n6_ := Aside0.mk (below_step (by repeat (first | (with_reducible first | exact HB.out | apply qA | apply qN | apply q1 | refine qS ?_ GE.out) | exact HB.out)) hb); clear HP; clear HQ; clear HO248; clear HO253; clear BK; clear HB; have HP := n0_; have HQ := n1_; have HO248 := n2_; have HO253 := n3_; have HO258 := n4_; have BK := n5_; have HB := n6_; clear n0_ n1_ n2_ n3_ n4_ n5_ n6_; (try clear hb); (try clear hb2); (try clear hk); (try clear hi); (try clear ho0)))
        go_ret
        exact ⟨by first | rfl | (simp [errW_none, errW_some] <;> rfl) | (simp [*, errW_none, errW_some] <;> rfl), by repeat (first | (with_reducible first | exact HB.out | apply qA | apply qN | apply q1 | refine qS ?_ GE.out) | exact HB.out)⟩
     ·rw [if_neg c14] at H
      exact absurd H (by simp)
    ·rw [if_neg c13] at H
     exact absurd H (by simp)

end Go.Proofs.Ytckpjppbkfcaaaa.Print
