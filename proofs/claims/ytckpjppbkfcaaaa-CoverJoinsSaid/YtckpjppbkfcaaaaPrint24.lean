-- Written by a program of this session (wip/sp.py) out of the translation.
import Derived.Test.YtckpjppbkfcaaaaPrint0
import Derived.Test.YtckpjppbkfcaaaaPrint12
import Derived.Test.YtckpjppbkfcaaaaPrint13
import Derived.Test.YtckpjppbkfcaaaaPrint18
namespace Go.Proofs.Ytckpjppbkfcaaaa.Print
open Go.RowKit Go.Proofs.YtckpjppbkfcaaaaW.PrintWords Go.Proofs.YtckpjppbkfcaaaaW.PrintLast Go.Proofs.YtckpjppbkfcaaaaW.PrintMore
attribute [local go_sem] max2_int min2_int max_two min_two max_three min_three max_four min_four   -- for this text's walks alone
set_option linter.unusedVariables false
set_option linter.unusedSimpArgs false

/-! ### scansionlaw19_CoverJoins: function 5 -/
mutual
noncomputable def scansionlaw19_CoverJoins.j0 : Nat → Int → Int → List (S36) → Bool → Bool → Option (Bool)
  | 0, _, _, _, _, _ => none
  | k + 1, x0, x1, x2, x7, x46 => if x46 = true then (some x7) else (scansionlaw19_CoverJoins.l0 k x0 x1 x2 ([] : List (S36)) ([] : List (S36)) ([] : List (S36)) 0)
noncomputable def scansionlaw19_CoverJoins.l0 : Nat → Int → Int → List (S36) → List (S36) → List (S36) → List (S36) → Int → Option (Bool)
  | 0, _, _, _, _, _, _, _ => none
  | k + 1, x0, x1, x2, x8, x9, x10, x11 => if x11 < (x2.length : Int) then (if 0 ≤ x11 then (if ((rd_T36 x2 x11).f0) < 0 then (scansionlaw19_CoverJoins.j2 k x0 x1 x2 x8 x9 x10 x11 true ((rd_T36 x2 x11).f0) ((rd_T36 x2 x11).f1) ((rd_T36 x2 x11).f2)) else (if ((rd_T36 x2 x11).f0) ≥ ((rd_T36 x2 x11).f1) then (scansionlaw19_CoverJoins.j2 k x0 x1 x2 x8 x9 x10 x11 true ((rd_T36 x2 x11).f0) ((rd_T36 x2 x11).f1) ((rd_T36 x2 x11).f2)) else (if ((rd_T36 x2 x11).f2) < 0 then (scansionlaw19_CoverJoins.j2 k x0 x1 x2 x8 x9 x10 x11 true ((rd_T36 x2 x11).f0) ((rd_T36 x2 x11).f1) ((rd_T36 x2 x11).f2)) else (scansionlaw19_CoverJoins.j2 k x0 x1 x2 x8 x9 x10 x11 (decide (((rd_T36 x2 x11).f2) > 1048576)) ((rd_T36 x2 x11).f0) ((rd_T36 x2 x11).f1) ((rd_T36 x2 x11).f2))))) else (none)) else ((cover_Best.f x0 x8 7 1099511627776).bind fun bt341 => ((cover_Best.f x1 x9 7 1099511627776).bind fun bt346 => ((cover_Best.f (wrap64 (x0 + x1)) x10 7 1099511627776).bind fun bt351 => (if bt341.2.2 = 0 then (if bt346.2.2 = 0 then (if bt351.2.2 = 0 then (if bt351.2.1 = (wrap64 (bt341.2.1 + bt346.2.1)) then (if (bt341.1.length : Int) = 0 then (scansionlaw19_CoverJoins.j3 k x0 bt341.1 bt346.1 bt351.1 true) else (scansionlaw19_CoverJoins.j3 k x0 bt341.1 bt346.1 bt351.1 ((bt346.1.length : Int) == 0))) else (scansionlaw19_CoverJoins.j3 k x0 bt341.1 bt346.1 bt351.1 true)) else (scansionlaw19_CoverJoins.j3 k x0 bt341.1 bt346.1 bt351.1 true)) else (scansionlaw19_CoverJoins.j3 k x0 bt341.1 bt346.1 bt351.1 true)) else (scansionlaw19_CoverJoins.j3 k x0 bt341.1 bt346.1 bt351.1 true)))))
noncomputable def scansionlaw19_CoverJoins.j2 : Nat → Int → Int → List (S36) → List (S36) → List (S36) → List (S36) → Int → Bool → Int → Int → Int → Option (Bool)
  | 0, _, _, _, _, _, _, _, _, _, _, _ => none
  | k + 1, x0, x1, x2, x8, x9, x10, x11, x77, x323000, x323001, x323002 => if x77 = true then (scansionlaw19_CoverJoins.l0 k x0 x1 x2 x8 x9 x10 (wrap64 (x11 + 1))) else (if x323001 ≤ x0 then (if x8.length < 5864062014805 then ((some (x8 ++ [(⟨x323000, x323001, x323002⟩ : S36)] : List (S36))).bind fun y323 => (if x10.length < 5864062014805 then ((some (x10 ++ [(⟨x323000, x323001, x323002⟩ : S36)] : List (S36))).bind fun y326 => (if x323000 ≥ x0 then (if x323001 ≤ (wrap64 (x0 + x1)) then (if x9.length < 5864062014805 then (if y326.length < 5864062014805 then (scansionlaw19_CoverJoins.l0 k x0 x1 x2 y323 (x9 ++ [(⟨wrap64 (x323000 - x0), wrap64 (x323001 - x0), x323002⟩ : S36)]) (y326 ++ [(⟨x323000, x323001, x323002⟩ : S36)]) (wrap64 (x11 + 1))) else (none)) else (none)) else (scansionlaw19_CoverJoins.l0 k x0 x1 x2 y323 x9 y326 (wrap64 (x11 + 1)))) else (scansionlaw19_CoverJoins.l0 k x0 x1 x2 y323 x9 y326 (wrap64 (x11 + 1))))) else (none))) else (none)) else (if x323000 ≥ x0 then (if x323001 ≤ (wrap64 (x0 + x1)) then (if x9.length < 5864062014805 then (if x10.length < 5864062014805 then (scansionlaw19_CoverJoins.l0 k x0 x1 x2 x8 (x9 ++ [(⟨wrap64 (x323000 - x0), wrap64 (x323001 - x0), x323002⟩ : S36)]) (x10 ++ [(⟨x323000, x323001, x323002⟩ : S36)]) (wrap64 (x11 + 1))) else (none)) else (none)) else (scansionlaw19_CoverJoins.l0 k x0 x1 x2 x8 x9 x10 (wrap64 (x11 + 1)))) else (scansionlaw19_CoverJoins.l0 k x0 x1 x2 x8 x9 x10 (wrap64 (x11 + 1)))))
noncomputable def scansionlaw19_CoverJoins.j3 : Nat → Int → List Int → List Int → List Int → Bool → Option (Bool)
  | 0, _, _, _, _, _ => none
  | k + 1, x0, x13, x16, x19, x169 => if x169 = true then (some false) else (scansionlaw19_CoverJoins.l1 k x0 x13 x16 x19 1)
noncomputable def scansionlaw19_CoverJoins.l1 : Nat → Int → List Int → List Int → List Int → Int → Option (Bool)
  | 0, _, _, _, _, _ => none
  | k + 1, x0, x13, x16, x19, x22 => if x22 < (x16.length : Int) then (if 0 ≤ x22 then (if x13.length < 17592186044416 then (scansionlaw19_CoverJoins.l1 k x0 (x13 ++ [wrap64 (x0 + (rd x16 x22))]) x16 x19 (wrap64 (x22 + 1))) else (none)) else (none)) else ((scansionref01_SameInts.f k x19 x13).bind fun t360 => (some t360))
end
noncomputable def scansionlaw19_CoverJoins.f (k : Nat) (a0 : Int) (a1 : Int) (l2 : List (S36)) : Option (Bool) := (scansionlaw19_awake.f).bind fun t320 => (if t320 = true then (if a0 < 0 then (scansionlaw19_CoverJoins.j0 k a0 a1 l2 t320 true) else (if a0 > 60 then (scansionlaw19_CoverJoins.j0 k a0 a1 l2 t320 true) else (if a1 < 0 then (scansionlaw19_CoverJoins.j0 k a0 a1 l2 t320 true) else (if a1 > 60 then (scansionlaw19_CoverJoins.j0 k a0 a1 l2 t320 true) else (scansionlaw19_CoverJoins.j0 k a0 a1 l2 t320 (decide ((l2.length : Int) > 100))))))) else (scansionlaw19_CoverJoins.j0 k a0 a1 l2 t320 true))
theorem scansionlaw19_CoverJoins.mono_l : ∀ k, (∀ y0 y1 y2 y3 y4, LeO (scansionlaw19_CoverJoins.j0 k y0 y1 y2 y3 y4) (scansionlaw19_CoverJoins.j0 (k + 1) y0 y1 y2 y3 y4)) ∧ (∀ y0 y1 y2 y3 y4 y5 y6, LeO (scansionlaw19_CoverJoins.l0 k y0 y1 y2 y3 y4 y5 y6) (scansionlaw19_CoverJoins.l0 (k + 1) y0 y1 y2 y3 y4 y5 y6)) ∧ (∀ y0 y1 y2 y3 y4 y5 y6 y7 y8 y9 y10, LeO (scansionlaw19_CoverJoins.j2 k y0 y1 y2 y3 y4 y5 y6 y7 y8 y9 y10) (scansionlaw19_CoverJoins.j2 (k + 1) y0 y1 y2 y3 y4 y5 y6 y7 y8 y9 y10)) ∧ (∀ y0 y1 y2 y3 y4, LeO (scansionlaw19_CoverJoins.j3 k y0 y1 y2 y3 y4) (scansionlaw19_CoverJoins.j3 (k + 1) y0 y1 y2 y3 y4)) ∧ (∀ y0 y1 y2 y3 y4, LeO (scansionlaw19_CoverJoins.l1 k y0 y1 y2 y3 y4) (scansionlaw19_CoverJoins.l1 (k + 1) y0 y1 y2 y3 y4))
  | 0 => ⟨fun _ _ _ _ _ r h => by simp [scansionlaw19_CoverJoins.j0] at h, fun _ _ _ _ _ _ _ r h => by simp [scansionlaw19_CoverJoins.l0] at h, fun _ _ _ _ _ _ _ _ _ _ _ r h => by simp [scansionlaw19_CoverJoins.j2] at h, fun _ _ _ _ _ r h => by simp [scansionlaw19_CoverJoins.j3] at h, fun _ _ _ _ _ r h => by simp [scansionlaw19_CoverJoins.l1] at h⟩
  | k + 1 => by
    obtain ⟨ih0, ih1, ih2, ih3, ih4⟩ := scansionlaw19_CoverJoins.mono_l k
    refine ⟨?_, ?_, ?_, ?_, ?_⟩
    · intro y0 y1 y2 y3 y4
      unfold scansionlaw19_CoverJoins.j0
      repeat' first
      | (with_reducible exact ih0 _ _ _ _ _)
      | (with_reducible exact ih1 _ _ _ _ _ _ _)
      | (with_reducible exact ih2 _ _ _ _ _ _ _ _ _ _ _)
      | (with_reducible exact ih3 _ _ _ _ _)
      | (with_reducible exact ih4 _ _ _ _ _)
      | (with_reducible exact scansionref01_SameInts.mono _ _ _)
      | (with_reducible exact LeO.refl _)
      | (with_reducible exact LeO.none _)
      | (with_reducible refine LeO.ite ?_ ?_)
      | (with_reducible refine LeO.bind ?_ (fun _ => ?_))
      | exact ih0 _ _ _ _ _
      | exact ih1 _ _ _ _ _ _ _
      | exact ih2 _ _ _ _ _ _ _ _ _ _ _
      | exact ih3 _ _ _ _ _
      | exact ih4 _ _ _ _ _
      | exact scansionref01_SameInts.mono _ _ _
      | exact LeO.none _
      | refine LeO.ite ?_ ?_
      | refine LeO.bind ?_ (fun _ => ?_)
    · intro y0 y1 y2 y3 y4 y5 y6
      unfold scansionlaw19_CoverJoins.l0
      repeat' first
      | (with_reducible exact ih0 _ _ _ _ _)
      | (with_reducible exact ih1 _ _ _ _ _ _ _)
      | (with_reducible exact ih2 _ _ _ _ _ _ _ _ _ _ _)
      | (with_reducible exact ih3 _ _ _ _ _)
      | (with_reducible exact ih4 _ _ _ _ _)
      | (with_reducible exact scansionref01_SameInts.mono _ _ _)
      | (with_reducible exact LeO.refl _)
      | (with_reducible exact LeO.none _)
      | (with_reducible refine LeO.ite ?_ ?_)
      | (with_reducible refine LeO.bind ?_ (fun _ => ?_))
      | exact ih0 _ _ _ _ _
      | exact ih1 _ _ _ _ _ _ _
      | exact ih2 _ _ _ _ _ _ _ _ _ _ _
      | exact ih3 _ _ _ _ _
      | exact ih4 _ _ _ _ _
      | exact scansionref01_SameInts.mono _ _ _
      | exact LeO.none _
      | refine LeO.ite ?_ ?_
      | refine LeO.bind ?_ (fun _ => ?_)
    · intro y0 y1 y2 y3 y4 y5 y6 y7 y8 y9 y10
      unfold scansionlaw19_CoverJoins.j2
      repeat' first
      | (with_reducible exact ih0 _ _ _ _ _)
      | (with_reducible exact ih1 _ _ _ _ _ _ _)
      | (with_reducible exact ih2 _ _ _ _ _ _ _ _ _ _ _)
      | (with_reducible exact ih3 _ _ _ _ _)
      | (with_reducible exact ih4 _ _ _ _ _)
      | (with_reducible exact scansionref01_SameInts.mono _ _ _)
      | (with_reducible exact LeO.refl _)
      | (with_reducible exact LeO.none _)
      | (with_reducible refine LeO.ite ?_ ?_)
      | (with_reducible refine LeO.bind ?_ (fun _ => ?_))
      | exact ih0 _ _ _ _ _
      | exact ih1 _ _ _ _ _ _ _
      | exact ih2 _ _ _ _ _ _ _ _ _ _ _
      | exact ih3 _ _ _ _ _
      | exact ih4 _ _ _ _ _
      | exact scansionref01_SameInts.mono _ _ _
      | exact LeO.none _
      | refine LeO.ite ?_ ?_
      | refine LeO.bind ?_ (fun _ => ?_)
    · intro y0 y1 y2 y3 y4
      unfold scansionlaw19_CoverJoins.j3
      repeat' first
      | (with_reducible exact ih0 _ _ _ _ _)
      | (with_reducible exact ih1 _ _ _ _ _ _ _)
      | (with_reducible exact ih2 _ _ _ _ _ _ _ _ _ _ _)
      | (with_reducible exact ih3 _ _ _ _ _)
      | (with_reducible exact ih4 _ _ _ _ _)
      | (with_reducible exact scansionref01_SameInts.mono _ _ _)
      | (with_reducible exact LeO.refl _)
      | (with_reducible exact LeO.none _)
      | (with_reducible refine LeO.ite ?_ ?_)
      | (with_reducible refine LeO.bind ?_ (fun _ => ?_))
      | exact ih0 _ _ _ _ _
      | exact ih1 _ _ _ _ _ _ _
      | exact ih2 _ _ _ _ _ _ _ _ _ _ _
      | exact ih3 _ _ _ _ _
      | exact ih4 _ _ _ _ _
      | exact scansionref01_SameInts.mono _ _ _
      | exact LeO.none _
      | refine LeO.ite ?_ ?_
      | refine LeO.bind ?_ (fun _ => ?_)
    · intro y0 y1 y2 y3 y4
      unfold scansionlaw19_CoverJoins.l1
      repeat' first
      | (with_reducible exact ih0 _ _ _ _ _)
      | (with_reducible exact ih1 _ _ _ _ _ _ _)
      | (with_reducible exact ih2 _ _ _ _ _ _ _ _ _ _ _)
      | (with_reducible exact ih3 _ _ _ _ _)
      | (with_reducible exact ih4 _ _ _ _ _)
      | (with_reducible exact scansionref01_SameInts.mono _ _ _)
      | (with_reducible exact LeO.refl _)
      | (with_reducible exact LeO.none _)
      | (with_reducible refine LeO.ite ?_ ?_)
      | (with_reducible refine LeO.bind ?_ (fun _ => ?_))
      | exact ih0 _ _ _ _ _
      | exact ih1 _ _ _ _ _ _ _
      | exact ih2 _ _ _ _ _ _ _ _ _ _ _
      | exact ih3 _ _ _ _ _
      | exact ih4 _ _ _ _ _
      | exact scansionref01_SameInts.mono _ _ _
      | exact LeO.none _
      | refine LeO.ite ?_ ?_
      | refine LeO.bind ?_ (fun _ => ?_)
theorem scansionlaw19_CoverJoins.mono : ∀ a0 a1 a2 k, LeO (scansionlaw19_CoverJoins.f k a0 a1 a2) (scansionlaw19_CoverJoins.f (k + 1) a0 a1 a2) := by
  intro a0 a1 a2 k
  obtain ⟨ih0, ih1, ih2, ih3, ih4⟩ := scansionlaw19_CoverJoins.mono_l k
  unfold scansionlaw19_CoverJoins.f
  repeat' first
      | (with_reducible exact ih0 _ _ _ _ _)
      | (with_reducible exact ih1 _ _ _ _ _ _ _)
      | (with_reducible exact ih2 _ _ _ _ _ _ _ _ _ _ _)
      | (with_reducible exact ih3 _ _ _ _ _)
      | (with_reducible exact ih4 _ _ _ _ _)
      | (with_reducible exact scansionref01_SameInts.mono _ _ _)
      | (with_reducible exact LeO.refl _)
      | (with_reducible exact LeO.none _)
      | (with_reducible refine LeO.ite ?_ ?_)
      | (with_reducible refine LeO.bind ?_ (fun _ => ?_))
      | exact ih0 _ _ _ _ _
      | exact ih1 _ _ _ _ _ _ _
      | exact ih2 _ _ _ _ _ _ _ _ _ _ _
      | exact ih3 _ _ _ _ _
      | exact ih4 _ _ _ _ _
      | exact scansionref01_SameInts.mono _ _ _
      | exact LeO.none _
      | refine LeO.ite ?_ ?_
      | refine LeO.bind ?_ (fun _ => ?_)
set_option maxHeartbeats 8000000 in
set_option maxRecDepth 100000 in
theorem scansionlaw19_CoverJoins.calls (k : Nat) (a0 : Int) (a1 : Int) (A2 : Option Addr) (c2 : Nat) (l2 : List (S36)) (r : Bool) (w : World) (hr2 : Kd.C k36 w A2 l2.length l2) (hc2 : l2.length ≤ c2) (h : scansionlaw19_CoverJoins.f k a0 a1 l2 = some r) :
    Calls Try.prog 5 #[.int .i64 a0, .int .i64 a1, .slice A2 l2.length c2] w fun e w' => e = .returned (.bool r) ∧ Below w.heap.size w w' := by
  have hu36 := Try.underlying36
  have HR2 := Aside0.mk hr2
  have HC2 := Aside0.mk hc2
  clear hr2 hc2
  have HB := Aside0.mk (Below.refl w.heap.size w)
  have H : ((scansionlaw19_awake.f).bind fun t320 => (if t320 = true then (if a0 < 0 then (scansionlaw19_CoverJoins.j0 k a0 a1 l2 t320 true) else (if a0 > 60 then (scansionlaw19_CoverJoins.j0 k a0 a1 l2 t320 true) else (if a1 < 0 then (scansionlaw19_CoverJoins.j0 k a0 a1 l2 t320 true) else (if a1 > 60 then (scansionlaw19_CoverJoins.j0 k a0 a1 l2 t320 true) else (scansionlaw19_CoverJoins.j0 k a0 a1 l2 t320 (decide ((l2.length : Int) > 100))))))) else (scansionlaw19_CoverJoins.j0 k a0 a1 l2 t320 true))) = some r := h
  clear h
  replace H := Option.bind_eq_some_iff.mp H
  obtain ⟨t320, A40, H⟩ := H
  replace H : (if t320 = true then (if a0 < 0 then (scansionlaw19_CoverJoins.j0 k a0 a1 l2 t320 true) else (if a0 > 60 then (scansionlaw19_CoverJoins.j0 k a0 a1 l2 t320 true) else (if a1 < 0 then (scansionlaw19_CoverJoins.j0 k a0 a1 l2 t320 true) else (if a1 > 60 then (scansionlaw19_CoverJoins.j0 k a0 a1 l2 t320 true) else (scansionlaw19_CoverJoins.j0 k a0 a1 l2 t320 (decide ((l2.length : Int) > 100))))))) else (scansionlaw19_CoverJoins.j0 k a0 a1 l2 t320 true)) = some r := H
  have A4 := Aside0.mk A40
  clear A40
  have HC5 := Aside0.mk H
  clear H
  go_enter Try.func5, Try.ntmps5
  go_upto_region 2 with (first | ((with_reducible refine gate_callee (f := 9) rfl ?_); refine goesL_ (some 23) rfl rfl Try.func9 (by kernel_rfl) rfl #[] rfl (by (try simp only [List.map_toArray, List.map_cons, List.map_nil]); first | done | rfl | (simp only [List.length_drop, List.length_take]; rfl)) ?_; (with_reducible refine (scansionlaw19_awake.calls  t320 _ A4.out).mono ?_); rintro e w6 ⟨rfl, hb⟩; refine ⟨_, rfl, ?_⟩; have n0_ := Aside0.mk (below_step (by repeat (first | (with_reducible first | exact HB.out | apply below_alloc | apply pw_below_drewN | apply below_drew1) | exact HB.out)) hb); clear HB; have HB := n0_; clear n0_; (try clear hb); (try clear hb2); (try clear hk); (try clear hi)))
  (try simp only [Act.put, List.setIfInBounds_toArray, List.set_cons_zero, List.set_cons_succ])
  go_cut [46] (fun v46 wc => ∃ (kq : Nat) (x46_4 : Bool), v46 = .bool x46_4 ∧ Aside0 (scansionlaw19_CoverJoins.j0 kq a0 a1 l2 t320 x46_4 = some r) ∧ Aside0 (kq ≤ k) ∧ Aside0 (Below w.heap.size w wc))
  case first =>
    have H := HC5.out
    clear HC5
    by_cases c7 : t320 = true
    · subst c7
      have H1 : (if a0 < 0 then (scansionlaw19_CoverJoins.j0 k a0 a1 l2 true true) else (if a0 > 60 then (scansionlaw19_CoverJoins.j0 k a0 a1 l2 true true) else (if a1 < 0 then (scansionlaw19_CoverJoins.j0 k a0 a1 l2 true true) else (if a1 > 60 then (scansionlaw19_CoverJoins.j0 k a0 a1 l2 true true) else (scansionlaw19_CoverJoins.j0 k a0 a1 l2 true (decide ((l2.length : Int) > 100))))))) = some r := by rw [if_pos rfl] at H; exact H
      clear H
      have H := H1
      clear H1
      by_cases c8 : a0 < 0
      · rw [if_pos c8] at H
        have c8b0 : decide (a0 < 0) = true := decide_eq_true c8
        clear c8
        (first | rw [c8b0] | (simp only [i64_w, i32_w]; rw [c8b0]) | skip)
        have H' := Aside0.mk H
        clear H
        go_wp2
        go_meet
        case rel => exact ⟨_, (true), (by first | rfl | (simp; done) | (simp [*]; done)), H', ⟨by first | omega | exact Nat.le_refl _⟩, ⟨by repeat (first | (with_reducible first | exact HB.out | apply below_alloc | apply pw_below_drewN | apply below_drew1) | exact HB.out)⟩⟩
      · rw [if_neg c8] at H
        have c8b0 : decide (a0 < 0) = false := decide_eq_false c8
        clear c8
        (first | rw [c8b0] | (simp only [i64_w, i32_w]; rw [c8b0]) | skip)
        by_cases c9 : a0 > 60
        · rw [if_pos c9] at H
          have c9b0 : decide (60 < a0) = true := decide_eq_true c9
          clear c9
          have H' := Aside0.mk H
          clear H
          go_wp2
          go_meet
          case rel => exact ⟨_, (true), (by first | rfl | (simp; done) | (simp [*]; done)), H', ⟨by first | omega | exact Nat.le_refl _⟩, ⟨by repeat (first | (with_reducible first | exact HB.out | apply below_alloc | apply pw_below_drewN | apply below_drew1) | exact HB.out)⟩⟩
        · rw [if_neg c9] at H
          have c9b0 : decide (60 < a0) = false := decide_eq_false c9
          clear c9
          by_cases c10 : a1 < 0
          · rw [if_pos c10] at H
            have c10b0 : decide (a1 < 0) = true := decide_eq_true c10
            clear c10
            have H' := Aside0.mk H
            clear H
            go_wp2
            go_meet
            case rel => exact ⟨_, (true), (by first | rfl | (simp; done) | (simp [*]; done)), H', ⟨by first | omega | exact Nat.le_refl _⟩, ⟨by repeat (first | (with_reducible first | exact HB.out | apply below_alloc | apply pw_below_drewN | apply below_drew1) | exact HB.out)⟩⟩
          · rw [if_neg c10] at H
            have c10b0 : decide (a1 < 0) = false := decide_eq_false c10
            clear c10
            by_cases c11 : a1 > 60
            · rw [if_pos c11] at H
              have c11b0 : decide (60 < a1) = true := decide_eq_true c11
              clear c11
              have H' := Aside0.mk H
              clear H
              go_wp2
              go_meet
              case rel => exact ⟨_, (true), (by first | rfl | (simp; done) | (simp [*]; done)), H', ⟨by first | omega | exact Nat.le_refl _⟩, ⟨by repeat (first | (with_reducible first | exact HB.out | apply below_alloc | apply pw_below_drewN | apply below_drew1) | exact HB.out)⟩⟩
            · rw [if_neg c11] at H
              have c11b0 : decide (60 < a1) = false := decide_eq_false c11
              clear c11
              have H' := Aside0.mk H
              clear H
              go_wp2
              go_meet
              case rel => exact ⟨_, (decide ((l2.length : Int) > 100)), (by first | rfl | (simp; done) | (simp [*]; done)), H', ⟨by first | omega | exact Nat.le_refl _⟩, ⟨by repeat (first | (with_reducible first | exact HB.out | apply below_alloc | apply pw_below_drewN | apply below_drew1) | exact HB.out)⟩⟩
    · replace c7 := Bool.eq_false_iff.mpr c7
      subst c7
      have H1 : (scansionlaw19_CoverJoins.j0 k a0 a1 l2 false true) = some r := by rw [if_neg (show ¬ (false = true) by decide)] at H; exact H
      clear H
      have H := H1
      clear H1
      have H' := Aside0.mk H
      clear H
      go_wp2
      go_meet
      case rel => exact ⟨_, (true), (by first | rfl | (simp; done) | (simp [*]; done)), H', ⟨by first | omega | exact Nat.le_refl _⟩, ⟨by repeat (first | (with_reducible first | exact HB.out | apply below_alloc | apply pw_below_drewN | apply below_drew1) | exact HB.out)⟩⟩
  case rest =>
    clear HC5
    try clear c1
    try clear c2
    try clear p2
    try clear c5
    try clear c7
    try clear c8
    try clear c8b0
    try clear c9
    try clear c9b0
    try clear c10
    try clear c10b0
    try clear c11
    try clear c11b0
    obtain ⟨kq, x46_4, rfl, HA, HJ4, HB⟩ := hcut
    cases kq with
    | zero => exact absurd HA.out (by simp [scansionlaw19_CoverJoins.j0])
    | succ kj4 =>
      have H := HA.out
      clear HA
      simp only [scansionlaw19_CoverJoins.j0] at H
      by_cases c12 : x46_4 = true
      · subst c12
        have H1 : (some t320) = some r := by rw [if_pos rfl] at H; exact H
        clear H
        have H := H1
        clear H1
        obtain rfl := Option.some.inj H
        go_wp2
        go_ret
        exact ⟨by first | rfl | (simp [errW_none, errW_some] <;> rfl) | (simp [*, errW_none, errW_some] <;> rfl), by repeat (first | (with_reducible first | exact HB.out | apply below_alloc | apply pw_below_drewN | apply below_drew1) | exact HB.out)⟩
      · replace c12 := Bool.eq_false_iff.mpr c12
        subst c12
        have H1 : (scansionlaw19_CoverJoins.l0 kj4 a0 a1 l2 ([] : List (S36)) ([] : List (S36)) ([] : List (S36)) 0) = some r := by rw [if_neg (show ¬ (false = true) by decide)] at H; exact H
        clear H
        have H := H1
        clear H1
        have H' := Aside0.mk H
        clear H
        go_wp2
        go_loopg [8, 9, 10, 11] kj4 (fun kq v8 v9 v10 v11 w' => ∃ (x8_2 : List (S36)) (x9_2 : List (S36)) (x10_2 : List (S36)) (x11_2 : Int), v11 = .int .i64 x11_2 ∧ Aside0 (scansionlaw19_CoverJoins.l0 kq a0 a1 l2 x8_2 x9_2 x10_2 x11_2 = some r) ∧ Aside0 (kq ≤ kj4) ∧ Aside0 (Kd.R k36 36 w' w.heap.size (fun k_ => some k_ ≠ (v9 : Value).ownBlock ∧ some k_ ≠ (v10 : Value).ownBlock) v8 x8_2) ∧ Aside0 (Kd.R k36 36 w' w.heap.size (fun k_ => some k_ ≠ (v8 : Value).ownBlock ∧ some k_ ≠ (v10 : Value).ownBlock) v9 x9_2) ∧ Aside0 (Kd.R k36 36 w' w.heap.size (fun k_ => some k_ ≠ (v8 : Value).ownBlock ∧ some k_ ≠ (v9 : Value).ownBlock) v10 x10_2) ∧ Aside0 (Below w.heap.size w w'))
        case atStart => exact ⟨(([] : List (S36))), (([] : List (S36))), (([] : List (S36))), (0), (by first | rfl | (simp; done) | (simp [*]; done)), H', ⟨Nat.le_refl _⟩, ⟨by first | exact Kd.R_nil _ _ _ _ _ | exact Kd.N_nil _ _ _ _ _ | exact Kd.V_nil _ _ _ _ _ | exact Kd.Q_nil _ _ _ _ _ | exact Kd.S_nil _ _ _ _ _⟩, ⟨by first | exact Kd.R_nil _ _ _ _ _ | exact Kd.N_nil _ _ _ _ _ | exact Kd.V_nil _ _ _ _ _ | exact Kd.Q_nil _ _ _ _ _ | exact Kd.S_nil _ _ _ _ _⟩, ⟨by first | exact Kd.R_nil _ _ _ _ _ | exact Kd.N_nil _ _ _ _ _ | exact Kd.V_nil _ _ _ _ _ | exact Kd.Q_nil _ _ _ _ _ | exact Kd.S_nil _ _ _ _ _⟩, ⟨by repeat (first | (with_reducible first | exact HB.out | apply below_alloc | apply pw_below_drewN | apply below_drew1) | exact HB.out)⟩⟩
        case round =>
          clear H'
          try clear c1
          try clear c2
          try clear p2
          try clear c5
          try clear c7
          try clear c8
          try clear c8b0
          try clear c9
          try clear c9b0
          try clear c10
          try clear c10b0
          try clear c11
          try clear c11b0
          try clear c12
          try clear p2
          obtain ⟨x8_2, x9_2, x10_2, x11_2, rfl, HA, HK2, HO_8, HO_9, HO_10, HB⟩ := hrel
          cases gk with
          | zero => exact absurd HA.out (by simp [scansionlaw19_CoverJoins.l0])
          | succ k2 =>
            have H := HA.out
            clear HA
            simp only [scansionlaw19_CoverJoins.l0] at H
            by_cases c13 : x11_2 < (l2.length : Int)
            · rw [if_pos c13] at H
              have c13b0 : decide (x11_2 < (l2.length : Int)) = true := decide_eq_true c13
              clear c13
              by_cases c14 : 0 ≤ x11_2
              · rw [if_pos c14] at H
                have c14b0 : decide (0 ≤ x11_2) = true := decide_eq_true c14
                clear c14
                have HC15 := Aside0.mk H
                clear H
                have p321 : 0 ≤ (x11_2 : Int) := of_decide_eq_true (by first | (with_reducible assumption) | assumption)
                have q321 : x11_2 < (l2.length : Int) := of_decide_eq_true (by first | (with_reducible assumption) | assumption)
                obtain ⟨ad321, e321, hx321_0, hx321_1, hx321_2⟩ := at_T36 HR2.out x11_2 p321 q321
                cases e321
                replace hx321_0 := (HB.out.cell (World.block_lt_of_cell? w _ hx321_0)).trans hx321_0
                replace hx321_1 := (HB.out.cell (World.block_lt_of_cell? w _ hx321_1)).trans hx321_1
                replace hx321_2 := (HB.out.cell (World.block_lt_of_cell? w _ hx321_2)).trans hx321_2
                replace p321 := eq_true p321
                replace q321 := eq_true q321
                go_upto_region 9 with (first | ((with_reducible refine gate_dst (N := 12) rfl ?_); (try (refine gate_guard (by rfl) ?_; dsimp only)); refine box_event ?hg (N := 12) ?hd (cs := #[.int .i64 0, .int .i64 0, .int .i64 0]) (t := 36) ?hr ?_; (case hd => rfl); (case hg => rfl); (case hr => first | (go_simp; done) | (go_simp; rfl)); intro gb322 hg w16 hbox hb; have n0_ := Aside0.mk (Kd.R_below (Kd.R_elderB (by (with_reducible repeat (first | apply Kd.R_alloc | apply Kd.R_drewN | apply Kd.R_drew)); exact HO_8.out) gb322 (Nat.le_of_eq hg.symm)) hb); have n1_ := Aside0.mk (Kd.R_below (Kd.R_elderB (by (with_reducible repeat (first | apply Kd.R_alloc | apply Kd.R_drewN | apply Kd.R_drew)); exact HO_9.out) gb322 (Nat.le_of_eq hg.symm)) hb); have n2_ := Aside0.mk (Kd.R_below (Kd.R_elderB (by (with_reducible repeat (first | apply Kd.R_alloc | apply Kd.R_drewN | apply Kd.R_drew)); exact HO_10.out) gb322 (Nat.le_of_eq hg.symm)) hb); have n3_ := Aside0.mk (below_step (by repeat (first | (with_reducible first | exact HB.out | apply below_alloc | apply pw_below_drewN | apply below_drew1) | exact HB.out)) hb); have n4_ := Aside0.mk (hbox); have n5_ := Aside0.mk ((by rw [hg]; exact (below_size (by repeat (first | (with_reducible first | exact HB.out | apply below_alloc | apply pw_below_drewN | apply below_drew1) | exact HB.out))) : w.heap.size ≤ gb322)); have n6_ := Aside0.mk ((by rw [hg]; exact (below_size (by repeat (first | (with_reducible first | exact HB.out | apply below_alloc | apply pw_below_drewN | apply below_drew1) | exact HB.out))) : w.heap.size ≤ gb322)); clear HO_8; clear HO_9; clear HO_10; clear HB; have HO_8 := n0_; have HO_9 := n1_; have HO_10 := n2_; have HB := n3_; have BK322 := n4_; have GW322 := n5_; have GE322 := n6_; clear n0_ n1_ n2_ n3_ n4_ n5_ n6_; clear hb hbox hg; have hcz17_0 : w16.cell? ⟨gb322, 0, none⟩ = some (.int .i64 0) := (blk_cell BK322.out 0).trans rfl; have hcz17_1 : w16.cell? ⟨gb322, 1, none⟩ = some (.int .i64 0) := (blk_cell BK322.out 1).trans rfl; have hcz17_2 : w16.cell? ⟨gb322, 2, none⟩ = some (.int .i64 0) := (blk_cell BK322.out 2).trans rfl; have hfz17_0 := blk_frozen BK322.out 0; have hfz17_1 := blk_frozen BK322.out 1; have hfz17_2 := blk_frozen BK322.out 2))
                (try simp only [Act.put, List.setIfInBounds_toArray, List.set_cons_zero, List.set_cons_succ])
                go_cut [77] (fun v77 wc => ∃ (kq : Nat) (x77_14 : Bool), v77 = .bool x77_14 ∧ Aside0 (scansionlaw19_CoverJoins.j2 kq a0 a1 l2 x8_2 x9_2 x10_2 x11_2 x77_14 ((rd_T36 l2 x11_2).f0) ((rd_T36 l2 x11_2).f1) ((rd_T36 l2 x11_2).f2) = some r) ∧ Aside0 (kq ≤ k2) ∧ Aside0 (Kd.R k36 36 wc w.heap.size (fun k_ => some k_ ≠ (u9 : Value).ownBlock ∧ some k_ ≠ (u10 : Value).ownBlock ∧ k_ ≠ gb322) u8 x8_2) ∧ Aside0 (Kd.R k36 36 wc w.heap.size (fun k_ => some k_ ≠ (u8 : Value).ownBlock ∧ some k_ ≠ (u10 : Value).ownBlock ∧ k_ ≠ gb322) u9 x9_2) ∧ Aside0 (Kd.R k36 36 wc w.heap.size (fun k_ => some k_ ≠ (u8 : Value).ownBlock ∧ some k_ ≠ (u9 : Value).ownBlock ∧ k_ ≠ gb322) u10 x10_2) ∧ Aside0 (wc.heap[gb322]? = some (.cells #[.int .i64 ((rd_T36 l2 x11_2).f0), .int .i64 ((rd_T36 l2 x11_2).f1), .int .i64 ((rd_T36 l2 x11_2).f2)] 36 (0, 0))) ∧ Aside0 (Below w.heap.size w wc))
                case first =>
                  have H := HC15.out
                  clear HC15
                  by_cases c18 : ((rd_T36 l2 x11_2).f0) < 0
                  · rw [if_pos c18] at H
                    have c18b0 : decide (((rd_T36 l2 x11_2).f0) < 0) = true := decide_eq_true c18
                    clear c18
                    (first | rw [c18b0] | (simp only [i64_w, i32_w]; rw [c18b0]) | skip)
                    have H' := Aside0.mk H
                    clear H
                    have hcz19_0 : w16.cell? ⟨gb322, 0, none⟩ = some (.int .i64 0) := (blk_cell BK322.out 0).trans rfl
                    have hcz19_1 : w16.cell? ⟨gb322, 1, none⟩ = some (.int .i64 0) := (blk_cell BK322.out 1).trans rfl
                    have hcz19_2 : w16.cell? ⟨gb322, 2, none⟩ = some (.int .i64 0) := (blk_cell BK322.out 2).trans rfl
                    have hfz19_0 := blk_frozen BK322.out 0
                    have hfz19_1 := blk_frozen BK322.out 1
                    have hfz19_2 := blk_frozen BK322.out 2
                    go_wp2
                    go_meet
                    case rel => exact ⟨_, (true), (by first | rfl | (simp; done) | (simp [*]; done)), H', ⟨by have := HJ4.out; have := HK2.out; first | omega | exact Nat.le_refl _⟩, ⟨by (with_reducible repeat (first | apply Kd.R_alloc | apply Kd.R_drewN | apply Kd.R_drew)); exact Kd.R_mono (Kd.R_far (p := ⟨gb322, 2, none⟩) (Kd.R_far (p := ⟨gb322, 1, none⟩) (Kd.R_far (p := ⟨gb322, 0, none⟩) (Kd.R_mono HO_8.out (fun k_ hk => (⟨hk, hk.2⟩ : _ ∧ k_ ≠ gb322))) (fun _ hk => hk.2) (.int .i64 ((rd_T36 l2 x11_2).f0))) (fun _ hk => hk.2) (.int .i64 ((rd_T36 l2 x11_2).f1))) (fun _ hk => hk.2) (.int .i64 ((rd_T36 l2 x11_2).f2))) (fun _ hk => ⟨hk.1.1.1, ⟨hk.1.1.2, hk.1.2⟩⟩)⟩, ⟨by (with_reducible repeat (first | apply Kd.R_alloc | apply Kd.R_drewN | apply Kd.R_drew)); exact Kd.R_mono (Kd.R_far (p := ⟨gb322, 2, none⟩) (Kd.R_far (p := ⟨gb322, 1, none⟩) (Kd.R_far (p := ⟨gb322, 0, none⟩) (Kd.R_mono HO_9.out (fun k_ hk => (⟨hk, hk.2⟩ : _ ∧ k_ ≠ gb322))) (fun _ hk => hk.2) (.int .i64 ((rd_T36 l2 x11_2).f0))) (fun _ hk => hk.2) (.int .i64 ((rd_T36 l2 x11_2).f1))) (fun _ hk => hk.2) (.int .i64 ((rd_T36 l2 x11_2).f2))) (fun _ hk => ⟨hk.1.1.1, ⟨hk.1.1.2, hk.1.2⟩⟩)⟩, ⟨by (with_reducible repeat (first | apply Kd.R_alloc | apply Kd.R_drewN | apply Kd.R_drew)); exact Kd.R_mono (Kd.R_far (p := ⟨gb322, 2, none⟩) (Kd.R_far (p := ⟨gb322, 1, none⟩) (Kd.R_far (p := ⟨gb322, 0, none⟩) (Kd.R_mono HO_10.out (fun k_ hk => (⟨hk, hk.2⟩ : _ ∧ k_ ≠ gb322))) (fun _ hk => hk.2) (.int .i64 ((rd_T36 l2 x11_2).f0))) (fun _ hk => hk.2) (.int .i64 ((rd_T36 l2 x11_2).f1))) (fun _ hk => hk.2) (.int .i64 ((rd_T36 l2 x11_2).f2))) (fun _ hk => ⟨hk.1.1.1, ⟨hk.1.1.2, hk.1.2⟩⟩)⟩, ⟨by (with_reducible repeat (first | refine blk_drewN ?_ _ | refine blk_drew ?_ | refine blk_alloc ?_ _)); refine blk_put (cs := #[.int .i64 ((rd_T36 l2 x11_2).f0), .int .i64 ((rd_T36 l2 x11_2).f1), .int .i64 0]) ?_ 2 _ rfl; (with_reducible repeat (first | refine blk_drewN ?_ _ | refine blk_drew ?_ | refine blk_alloc ?_ _)); refine blk_put (cs := #[.int .i64 ((rd_T36 l2 x11_2).f0), .int .i64 0, .int .i64 0]) ?_ 1 _ rfl; (with_reducible repeat (first | refine blk_drewN ?_ _ | refine blk_drew ?_ | refine blk_alloc ?_ _)); refine blk_put (cs := #[.int .i64 0, .int .i64 0, .int .i64 0]) ?_ 0 _ rfl; (with_reducible repeat (first | refine blk_drewN ?_ _ | refine blk_drew ?_ | refine blk_alloc ?_ _)); exact BK322.out⟩, ⟨by repeat (first | (with_reducible first | exact HB.out | apply below_alloc | apply pw_below_drewN | apply below_drew1 | refine below_set ?_ GE322.out) | exact HB.out)⟩⟩
                  · rw [if_neg c18] at H
                    have c18b0 : decide (((rd_T36 l2 x11_2).f0) < 0) = false := decide_eq_false c18
                    clear c18
                    (first | rw [c18b0] | (simp only [i64_w, i32_w]; rw [c18b0]) | skip)
                    by_cases c20 : ((rd_T36 l2 x11_2).f0) ≥ ((rd_T36 l2 x11_2).f1)
                    · rw [if_pos c20] at H
                      have c20b0 : decide (((rd_T36 l2 x11_2).f1) ≤ ((rd_T36 l2 x11_2).f0)) = true := decide_eq_true c20
                      clear c20
                      have H' := Aside0.mk H
                      clear H
                      have hcz21_0 : w16.cell? ⟨gb322, 0, none⟩ = some (.int .i64 0) := (blk_cell BK322.out 0).trans rfl
                      have hcz21_1 : w16.cell? ⟨gb322, 1, none⟩ = some (.int .i64 0) := (blk_cell BK322.out 1).trans rfl
                      have hcz21_2 : w16.cell? ⟨gb322, 2, none⟩ = some (.int .i64 0) := (blk_cell BK322.out 2).trans rfl
                      have hfz21_0 := blk_frozen BK322.out 0
                      have hfz21_1 := blk_frozen BK322.out 1
                      have hfz21_2 := blk_frozen BK322.out 2
                      go_wp2
                      go_meet
                      case rel => exact ⟨_, (true), (by first | rfl | (simp; done) | (simp [*]; done)), H', ⟨by have := HJ4.out; have := HK2.out; first | omega | exact Nat.le_refl _⟩, ⟨by (with_reducible repeat (first | apply Kd.R_alloc | apply Kd.R_drewN | apply Kd.R_drew)); exact Kd.R_mono (Kd.R_far (p := ⟨gb322, 2, none⟩) (Kd.R_far (p := ⟨gb322, 1, none⟩) (Kd.R_far (p := ⟨gb322, 0, none⟩) (Kd.R_mono HO_8.out (fun k_ hk => (⟨hk, hk.2⟩ : _ ∧ k_ ≠ gb322))) (fun _ hk => hk.2) (.int .i64 ((rd_T36 l2 x11_2).f0))) (fun _ hk => hk.2) (.int .i64 ((rd_T36 l2 x11_2).f1))) (fun _ hk => hk.2) (.int .i64 ((rd_T36 l2 x11_2).f2))) (fun _ hk => ⟨hk.1.1.1, ⟨hk.1.1.2, hk.1.2⟩⟩)⟩, ⟨by (with_reducible repeat (first | apply Kd.R_alloc | apply Kd.R_drewN | apply Kd.R_drew)); exact Kd.R_mono (Kd.R_far (p := ⟨gb322, 2, none⟩) (Kd.R_far (p := ⟨gb322, 1, none⟩) (Kd.R_far (p := ⟨gb322, 0, none⟩) (Kd.R_mono HO_9.out (fun k_ hk => (⟨hk, hk.2⟩ : _ ∧ k_ ≠ gb322))) (fun _ hk => hk.2) (.int .i64 ((rd_T36 l2 x11_2).f0))) (fun _ hk => hk.2) (.int .i64 ((rd_T36 l2 x11_2).f1))) (fun _ hk => hk.2) (.int .i64 ((rd_T36 l2 x11_2).f2))) (fun _ hk => ⟨hk.1.1.1, ⟨hk.1.1.2, hk.1.2⟩⟩)⟩, ⟨by (with_reducible repeat (first | apply Kd.R_alloc | apply Kd.R_drewN | apply Kd.R_drew)); exact Kd.R_mono (Kd.R_far (p := ⟨gb322, 2, none⟩) (Kd.R_far (p := ⟨gb322, 1, none⟩) (Kd.R_far (p := ⟨gb322, 0, none⟩) (Kd.R_mono HO_10.out (fun k_ hk => (⟨hk, hk.2⟩ : _ ∧ k_ ≠ gb322))) (fun _ hk => hk.2) (.int .i64 ((rd_T36 l2 x11_2).f0))) (fun _ hk => hk.2) (.int .i64 ((rd_T36 l2 x11_2).f1))) (fun _ hk => hk.2) (.int .i64 ((rd_T36 l2 x11_2).f2))) (fun _ hk => ⟨hk.1.1.1, ⟨hk.1.1.2, hk.1.2⟩⟩)⟩, ⟨by (with_reducible repeat (first | refine blk_drewN ?_ _ | refine blk_drew ?_ | refine blk_alloc ?_ _)); refine blk_put (cs := #[.int .i64 ((rd_T36 l2 x11_2).f0), .int .i64 ((rd_T36 l2 x11_2).f1), .int .i64 0]) ?_ 2 _ rfl; (with_reducible repeat (first | refine blk_drewN ?_ _ | refine blk_drew ?_ | refine blk_alloc ?_ _)); refine blk_put (cs := #[.int .i64 ((rd_T36 l2 x11_2).f0), .int .i64 0, .int .i64 0]) ?_ 1 _ rfl; (with_reducible repeat (first | refine blk_drewN ?_ _ | refine blk_drew ?_ | refine blk_alloc ?_ _)); refine blk_put (cs := #[.int .i64 0, .int .i64 0, .int .i64 0]) ?_ 0 _ rfl; (with_reducible repeat (first | refine blk_drewN ?_ _ | refine blk_drew ?_ | refine blk_alloc ?_ _)); exact BK322.out⟩, ⟨by repeat (first | (with_reducible first | exact HB.out | apply below_alloc | apply pw_below_drewN | apply below_drew1 | refine below_set ?_ GE322.out) | exact HB.out)⟩⟩
                    · rw [if_neg c20] at H
                      have c20b0 : decide (((rd_T36 l2 x11_2).f1) ≤ ((rd_T36 l2 x11_2).f0)) = false := decide_eq_false c20
                      clear c20
                      by_cases c22 : ((rd_T36 l2 x11_2).f2) < 0
                      · rw [if_pos c22] at H
                        have c22b0 : decide (((rd_T36 l2 x11_2).f2) < 0) = true := decide_eq_true c22
                        clear c22
                        have H' := Aside0.mk H
                        clear H
                        have hcz23_0 : w16.cell? ⟨gb322, 0, none⟩ = some (.int .i64 0) := (blk_cell BK322.out 0).trans rfl
                        have hcz23_1 : w16.cell? ⟨gb322, 1, none⟩ = some (.int .i64 0) := (blk_cell BK322.out 1).trans rfl
                        have hcz23_2 : w16.cell? ⟨gb322, 2, none⟩ = some (.int .i64 0) := (blk_cell BK322.out 2).trans rfl
                        have hfz23_0 := blk_frozen BK322.out 0
                        have hfz23_1 := blk_frozen BK322.out 1
                        have hfz23_2 := blk_frozen BK322.out 2
                        go_wp2
                        go_meet
                        case rel => exact ⟨_, (true), (by first | rfl | (simp; done) | (simp [*]; done)), H', ⟨by have := HJ4.out; have := HK2.out; first | omega | exact Nat.le_refl _⟩, ⟨by (with_reducible repeat (first | apply Kd.R_alloc | apply Kd.R_drewN | apply Kd.R_drew)); exact Kd.R_mono (Kd.R_far (p := ⟨gb322, 2, none⟩) (Kd.R_far (p := ⟨gb322, 1, none⟩) (Kd.R_far (p := ⟨gb322, 0, none⟩) (Kd.R_mono HO_8.out (fun k_ hk => (⟨hk, hk.2⟩ : _ ∧ k_ ≠ gb322))) (fun _ hk => hk.2) (.int .i64 ((rd_T36 l2 x11_2).f0))) (fun _ hk => hk.2) (.int .i64 ((rd_T36 l2 x11_2).f1))) (fun _ hk => hk.2) (.int .i64 ((rd_T36 l2 x11_2).f2))) (fun _ hk => ⟨hk.1.1.1, ⟨hk.1.1.2, hk.1.2⟩⟩)⟩, ⟨by (with_reducible repeat (first | apply Kd.R_alloc | apply Kd.R_drewN | apply Kd.R_drew)); exact Kd.R_mono (Kd.R_far (p := ⟨gb322, 2, none⟩) (Kd.R_far (p := ⟨gb322, 1, none⟩) (Kd.R_far (p := ⟨gb322, 0, none⟩) (Kd.R_mono HO_9.out (fun k_ hk => (⟨hk, hk.2⟩ : _ ∧ k_ ≠ gb322))) (fun _ hk => hk.2) (.int .i64 ((rd_T36 l2 x11_2).f0))) (fun _ hk => hk.2) (.int .i64 ((rd_T36 l2 x11_2).f1))) (fun _ hk => hk.2) (.int .i64 ((rd_T36 l2 x11_2).f2))) (fun _ hk => ⟨hk.1.1.1, ⟨hk.1.1.2, hk.1.2⟩⟩)⟩, ⟨by (with_reducible repeat (first | apply Kd.R_alloc | apply Kd.R_drewN | apply Kd.R_drew)); exact Kd.R_mono (Kd.R_far (p := ⟨gb322, 2, none⟩) (Kd.R_far (p := ⟨gb322, 1, none⟩) (Kd.R_far (p := ⟨gb322, 0, none⟩) (Kd.R_mono HO_10.out (fun k_ hk => (⟨hk, hk.2⟩ : _ ∧ k_ ≠ gb322))) (fun _ hk => hk.2) (.int .i64 ((rd_T36 l2 x11_2).f0))) (fun _ hk => hk.2) (.int .i64 ((rd_T36 l2 x11_2).f1))) (fun _ hk => hk.2) (.int .i64 ((rd_T36 l2 x11_2).f2))) (fun _ hk => ⟨hk.1.1.1, ⟨hk.1.1.2, hk.1.2⟩⟩)⟩, ⟨by (with_reducible repeat (first | refine blk_drewN ?_ _ | refine blk_drew ?_ | refine blk_alloc ?_ _)); refine blk_put (cs := #[.int .i64 ((rd_T36 l2 x11_2).f0), .int .i64 ((rd_T36 l2 x11_2).f1), .int .i64 0]) ?_ 2 _ rfl; (with_reducible repeat (first | refine blk_drewN ?_ _ | refine blk_drew ?_ | refine blk_alloc ?_ _)); refine blk_put (cs := #[.int .i64 ((rd_T36 l2 x11_2).f0), .int .i64 0, .int .i64 0]) ?_ 1 _ rfl; (with_reducible repeat (first | refine blk_drewN ?_ _ | refine blk_drew ?_ | refine blk_alloc ?_ _)); refine blk_put (cs := #[.int .i64 0, .int .i64 0, .int .i64 0]) ?_ 0 _ rfl; (with_reducible repeat (first | refine blk_drewN ?_ _ | refine blk_drew ?_ | refine blk_alloc ?_ _)); exact BK322.out⟩, ⟨by repeat (first | (with_reducible first | exact HB.out | apply below_alloc | apply pw_below_drewN | apply below_drew1 | refine below_set ?_ GE322.out) | exact HB.out)⟩⟩
                      · rw [if_neg c22] at H
                        have c22b0 : decide (((rd_T36 l2 x11_2).f2) < 0) = false := decide_eq_false c22
                        clear c22
                        have H' := Aside0.mk H
                        clear H
                        have hcz24_0 : w16.cell? ⟨gb322, 0, none⟩ = some (.int .i64 0) := (blk_cell BK322.out 0).trans rfl
                        have hcz24_1 : w16.cell? ⟨gb322, 1, none⟩ = some (.int .i64 0) := (blk_cell BK322.out 1).trans rfl
                        have hcz24_2 : w16.cell? ⟨gb322, 2, none⟩ = some (.int .i64 0) := (blk_cell BK322.out 2).trans rfl
                        have hfz24_0 := blk_frozen BK322.out 0
                        have hfz24_1 := blk_frozen BK322.out 1
                        have hfz24_2 := blk_frozen BK322.out 2
                        go_wp2
                        go_meet
                        case rel => exact ⟨_, (decide (((rd_T36 l2 x11_2).f2) > 1048576)), (by first | rfl | (simp; done) | (simp [*]; done)), H', ⟨by have := HJ4.out; have := HK2.out; first | omega | exact Nat.le_refl _⟩, ⟨by (with_reducible repeat (first | apply Kd.R_alloc | apply Kd.R_drewN | apply Kd.R_drew)); exact Kd.R_mono (Kd.R_far (p := ⟨gb322, 2, none⟩) (Kd.R_far (p := ⟨gb322, 1, none⟩) (Kd.R_far (p := ⟨gb322, 0, none⟩) (Kd.R_mono HO_8.out (fun k_ hk => (⟨hk, hk.2⟩ : _ ∧ k_ ≠ gb322))) (fun _ hk => hk.2) (.int .i64 ((rd_T36 l2 x11_2).f0))) (fun _ hk => hk.2) (.int .i64 ((rd_T36 l2 x11_2).f1))) (fun _ hk => hk.2) (.int .i64 ((rd_T36 l2 x11_2).f2))) (fun _ hk => ⟨hk.1.1.1, ⟨hk.1.1.2, hk.1.2⟩⟩)⟩, ⟨by (with_reducible repeat (first | apply Kd.R_alloc | apply Kd.R_drewN | apply Kd.R_drew)); exact Kd.R_mono (Kd.R_far (p := ⟨gb322, 2, none⟩) (Kd.R_far (p := ⟨gb322, 1, none⟩) (Kd.R_far (p := ⟨gb322, 0, none⟩) (Kd.R_mono HO_9.out (fun k_ hk => (⟨hk, hk.2⟩ : _ ∧ k_ ≠ gb322))) (fun _ hk => hk.2) (.int .i64 ((rd_T36 l2 x11_2).f0))) (fun _ hk => hk.2) (.int .i64 ((rd_T36 l2 x11_2).f1))) (fun _ hk => hk.2) (.int .i64 ((rd_T36 l2 x11_2).f2))) (fun _ hk => ⟨hk.1.1.1, ⟨hk.1.1.2, hk.1.2⟩⟩)⟩, ⟨by (with_reducible repeat (first | apply Kd.R_alloc | apply Kd.R_drewN | apply Kd.R_drew)); exact Kd.R_mono (Kd.R_far (p := ⟨gb322, 2, none⟩) (Kd.R_far (p := ⟨gb322, 1, none⟩) (Kd.R_far (p := ⟨gb322, 0, none⟩) (Kd.R_mono HO_10.out (fun k_ hk => (⟨hk, hk.2⟩ : _ ∧ k_ ≠ gb322))) (fun _ hk => hk.2) (.int .i64 ((rd_T36 l2 x11_2).f0))) (fun _ hk => hk.2) (.int .i64 ((rd_T36 l2 x11_2).f1))) (fun _ hk => hk.2) (.int .i64 ((rd_T36 l2 x11_2).f2))) (fun _ hk => ⟨hk.1.1.1, ⟨hk.1.1.2, hk.1.2⟩⟩)⟩, ⟨by (with_reducible repeat (first | refine blk_drewN ?_ _ | refine blk_drew ?_ | refine blk_alloc ?_ _)); refine blk_put (cs := #[.int .i64 ((rd_T36 l2 x11_2).f0), .int .i64 ((rd_T36 l2 x11_2).f1), .int .i64 0]) ?_ 2 _ rfl; (with_reducible repeat (first | refine blk_drewN ?_ _ | refine blk_drew ?_ | refine blk_alloc ?_ _)); refine blk_put (cs := #[.int .i64 ((rd_T36 l2 x11_2).f0), .int .i64 0, .int .i64 0]) ?_ 1 _ rfl; (with_reducible repeat (first | refine blk_drewN ?_ _ | refine blk_drew ?_ | refine blk_alloc ?_ _)); refine blk_put (cs := #[.int .i64 0, .int .i64 0, .int .i64 0]) ?_ 0 _ rfl; (with_reducible repeat (first | refine blk_drewN ?_ _ | refine blk_drew ?_ | refine blk_alloc ?_ _)); exact BK322.out⟩, ⟨by repeat (first | (with_reducible first | exact HB.out | apply below_alloc | apply pw_below_drewN | apply below_drew1 | refine below_set ?_ GE322.out) | exact HB.out)⟩⟩
                case rest =>
                  clear HC15
                  try clear c1
                  try clear c2
                  try clear p2
                  try clear p3
                  try clear q3
                  try clear hx3
                  try clear c5
                  try clear c7
                  try clear c8
                  try clear c8b0
                  try clear c9
                  try clear c9b0
                  try clear c10
                  try clear c10b0
                  try clear c11
                  try clear c11b0
                  try clear c12
                  try clear c13
                  try clear c13b0
                  try clear c14
                  try clear c14b0
                  try clear c18
                  try clear c18b0
                  try clear c20
                  try clear c20b0
                  try clear c22
                  try clear c22b0
                  try clear hcz17_0
                  try clear hcz17_1
                  try clear hcz17_2
                  try clear hcz19_0
                  try clear hcz19_1
                  try clear hcz19_2
                  try clear hcz21_0
                  try clear hcz21_1
                  try clear hcz21_2
                  try clear hcz23_0
                  try clear hcz23_1
                  try clear hcz23_2
                  try clear hcz24_0
                  try clear hcz24_1
                  try clear hcz24_2
                  try clear hfz17_0
                  try clear hfz17_1
                  try clear hfz17_2
                  try clear hfz19_0
                  try clear hfz19_1
                  try clear hfz19_2
                  try clear hfz21_0
                  try clear hfz21_1
                  try clear hfz21_2
                  try clear hfz23_0
                  try clear hfz23_1
                  try clear hfz23_2
                  try clear hfz24_0
                  try clear hfz24_1
                  try clear hfz24_2
                  try clear hx321_0
                  try clear hx321_1
                  try clear hx321_2
                  try clear p2
                  try clear p321
                  try clear q321
                  obtain ⟨kq, x77_14, rfl, HA, HJ14, HO_8, HO_9, HO_10, BK322, HB⟩ := hcut
                  cases kq with
                  | zero => exact absurd HA.out (by simp [scansionlaw19_CoverJoins.j2])
                  | succ kj14 =>
                    have H := HA.out
                    clear HA
                    simp only [scansionlaw19_CoverJoins.j2] at H
                    by_cases c25 : x77_14 = true
                    · subst c25
                      have H1 : (scansionlaw19_CoverJoins.l0 kj14 a0 a1 l2 x8_2 x9_2 x10_2 (wrap64 (x11_2 + 1))) = some r := by rw [if_pos rfl] at H; exact H
                      clear H
                      have H := H1
                      clear H1
                      have H' := Aside0.mk H
                      clear H
                      go_wp2
                      go_roundg kj14
                      case measure => have := HJ4.out; have := HK2.out; have := HJ14.out; omega
                      case rel => exact ⟨(x8_2), (x9_2), (x10_2), (wrap64 (x11_2 + 1)), (by first | rfl | (simp; done) | (simp [*]; done)), H', ⟨by have := HJ4.out; have := HK2.out; have := HJ14.out; omega⟩, ⟨by (with_reducible repeat (first | apply Kd.R_alloc | apply Kd.R_drewN | apply Kd.R_drew)); exact Kd.R_mono HO_8.out (fun _ hk => ⟨hk.1, hk.2.1⟩)⟩, ⟨by (with_reducible repeat (first | apply Kd.R_alloc | apply Kd.R_drewN | apply Kd.R_drew)); exact Kd.R_mono HO_9.out (fun _ hk => ⟨hk.1, hk.2.1⟩)⟩, ⟨by (with_reducible repeat (first | apply Kd.R_alloc | apply Kd.R_drewN | apply Kd.R_drew)); exact Kd.R_mono HO_10.out (fun _ hk => ⟨hk.1, hk.2.1⟩)⟩, ⟨by repeat (first | (with_reducible first | exact HB.out | apply below_alloc | apply pw_below_drewN | apply below_drew1 | refine below_set ?_ GE322.out) | exact HB.out)⟩⟩
                    · replace c25 := Bool.eq_false_iff.mpr c25
                      subst c25
                      have H1 : (if ((rd_T36 l2 x11_2).f1) ≤ a0 then (if x8_2.length < 5864062014805 then ((some (x8_2 ++ [(⟨((rd_T36 l2 x11_2).f0), ((rd_T36 l2 x11_2).f1), ((rd_T36 l2 x11_2).f2)⟩ : S36)] : List (S36))).bind fun y323 => (if x10_2.length < 5864062014805 then ((some (x10_2 ++ [(⟨((rd_T36 l2 x11_2).f0), ((rd_T36 l2 x11_2).f1), ((rd_T36 l2 x11_2).f2)⟩ : S36)] : List (S36))).bind fun y326 => (if ((rd_T36 l2 x11_2).f0) ≥ a0 then (if ((rd_T36 l2 x11_2).f1) ≤ (wrap64 (a0 + a1)) then (if x9_2.length < 5864062014805 then (if y326.length < 5864062014805 then (scansionlaw19_CoverJoins.l0 kj14 a0 a1 l2 y323 (x9_2 ++ [(⟨wrap64 (((rd_T36 l2 x11_2).f0) - a0), wrap64 (((rd_T36 l2 x11_2).f1) - a0), ((rd_T36 l2 x11_2).f2)⟩ : S36)]) (y326 ++ [(⟨((rd_T36 l2 x11_2).f0), ((rd_T36 l2 x11_2).f1), ((rd_T36 l2 x11_2).f2)⟩ : S36)]) (wrap64 (x11_2 + 1))) else (none)) else (none)) else (scansionlaw19_CoverJoins.l0 kj14 a0 a1 l2 y323 x9_2 y326 (wrap64 (x11_2 + 1)))) else (scansionlaw19_CoverJoins.l0 kj14 a0 a1 l2 y323 x9_2 y326 (wrap64 (x11_2 + 1))))) else (none))) else (none)) else (if ((rd_T36 l2 x11_2).f0) ≥ a0 then (if ((rd_T36 l2 x11_2).f1) ≤ (wrap64 (a0 + a1)) then (if x9_2.length < 5864062014805 then (if x10_2.length < 5864062014805 then (scansionlaw19_CoverJoins.l0 kj14 a0 a1 l2 x8_2 (x9_2 ++ [(⟨wrap64 (((rd_T36 l2 x11_2).f0) - a0), wrap64 (((rd_T36 l2 x11_2).f1) - a0), ((rd_T36 l2 x11_2).f2)⟩ : S36)]) (x10_2 ++ [(⟨((rd_T36 l2 x11_2).f0), ((rd_T36 l2 x11_2).f1), ((rd_T36 l2 x11_2).f2)⟩ : S36)]) (wrap64 (x11_2 + 1))) else (none)) else (none)) else (scansionlaw19_CoverJoins.l0 kj14 a0 a1 l2 x8_2 x9_2 x10_2 (wrap64 (x11_2 + 1)))) else (scansionlaw19_CoverJoins.l0 kj14 a0 a1 l2 x8_2 x9_2 x10_2 (wrap64 (x11_2 + 1))))) = some r := by rw [if_neg (show ¬ (false = true) by decide)] at H; exact H
                      clear H
                      have H := H1
                      clear H1
                      by_cases c26 : ((rd_T36 l2 x11_2).f1) ≤ a0
                      · rw [if_pos c26] at H
                        have c26b0 : decide (((rd_T36 l2 x11_2).f1) ≤ a0) = true := decide_eq_true c26
                        clear c26
                        by_cases c27 : x8_2.length < 5864062014805
                        · rw [if_pos c27] at H
                          have LMc27 := Aside0.mk c27
                          clear c27
                          obtain ⟨y323, hy323⟩ : ∃ y_ : List (S36), y_ = (x8_2 ++ [(⟨((rd_T36 l2 x11_2).f0), ((rd_T36 l2 x11_2).f1), ((rd_T36 l2 x11_2).f2)⟩ : S36)]) := ⟨_, rfl⟩
                          replace H : (if x10_2.length < 5864062014805 then ((some (x10_2 ++ [(⟨((rd_T36 l2 x11_2).f0), ((rd_T36 l2 x11_2).f1), ((rd_T36 l2 x11_2).f2)⟩ : S36)] : List (S36))).bind fun y326 => (if ((rd_T36 l2 x11_2).f0) ≥ a0 then (if ((rd_T36 l2 x11_2).f1) ≤ (wrap64 (a0 + a1)) then (if x9_2.length < 5864062014805 then (if y326.length < 5864062014805 then (scansionlaw19_CoverJoins.l0 kj14 a0 a1 l2 y323 (x9_2 ++ [(⟨wrap64 (((rd_T36 l2 x11_2).f0) - a0), wrap64 (((rd_T36 l2 x11_2).f1) - a0), ((rd_T36 l2 x11_2).f2)⟩ : S36)]) (y326 ++ [(⟨((rd_T36 l2 x11_2).f0), ((rd_T36 l2 x11_2).f1), ((rd_T36 l2 x11_2).f2)⟩ : S36)]) (wrap64 (x11_2 + 1))) else (none)) else (none)) else (scansionlaw19_CoverJoins.l0 kj14 a0 a1 l2 y323 x9_2 y326 (wrap64 (x11_2 + 1)))) else (scansionlaw19_CoverJoins.l0 kj14 a0 a1 l2 y323 x9_2 y326 (wrap64 (x11_2 + 1))))) else (none)) = some r := by first | (rw [hy323]; with_reducible exact H) | (have H2_ := (Option.bind_some _ _).symm.trans H; rw [hy323]; with_reducible exact H2_) | (have H2_ := (Option.bind_some _ _).symm.trans H; with_reducible exact H2_) | with_reducible exact H | (rw [hy323]; exact H) | exact H
                          have Ny323 := Aside0.mk hy323
                          clear hy323
                          by_cases c28 : x10_2.length < 5864062014805
                          · rw [if_pos c28] at H
                            have LMc28 := Aside0.mk c28
                            clear c28
                            obtain ⟨y326, hy326⟩ : ∃ y_ : List (S36), y_ = (x10_2 ++ [(⟨((rd_T36 l2 x11_2).f0), ((rd_T36 l2 x11_2).f1), ((rd_T36 l2 x11_2).f2)⟩ : S36)]) := ⟨_, rfl⟩
                            replace H : (if ((rd_T36 l2 x11_2).f0) ≥ a0 then (if ((rd_T36 l2 x11_2).f1) ≤ (wrap64 (a0 + a1)) then (if x9_2.length < 5864062014805 then (if y326.length < 5864062014805 then (scansionlaw19_CoverJoins.l0 kj14 a0 a1 l2 y323 (x9_2 ++ [(⟨wrap64 (((rd_T36 l2 x11_2).f0) - a0), wrap64 (((rd_T36 l2 x11_2).f1) - a0), ((rd_T36 l2 x11_2).f2)⟩ : S36)]) (y326 ++ [(⟨((rd_T36 l2 x11_2).f0), ((rd_T36 l2 x11_2).f1), ((rd_T36 l2 x11_2).f2)⟩ : S36)]) (wrap64 (x11_2 + 1))) else (none)) else (none)) else (scansionlaw19_CoverJoins.l0 kj14 a0 a1 l2 y323 x9_2 y326 (wrap64 (x11_2 + 1)))) else (scansionlaw19_CoverJoins.l0 kj14 a0 a1 l2 y323 x9_2 y326 (wrap64 (x11_2 + 1)))) = some r := by first | (rw [hy326]; with_reducible exact H) | (have H2_ := (Option.bind_some _ _).symm.trans H; rw [hy326]; with_reducible exact H2_) | (have H2_ := (Option.bind_some _ _).symm.trans H; with_reducible exact H2_) | with_reducible exact H | (rw [hy326]; exact H) | exact H
                            have Ny326 := Aside0.mk hy326
                            clear hy326
                            by_cases c29 : ((rd_T36 l2 x11_2).f0) ≥ a0
                            · rw [if_pos c29] at H
                              have c29b0 : decide (a0 ≤ ((rd_T36 l2 x11_2).f0)) = true := decide_eq_true c29
                              clear c29
                              by_cases c30 : ((rd_T36 l2 x11_2).f1) ≤ (wrap64 (a0 + a1))
                              · rw [if_pos c30] at H
                                have c30b0 : decide (((rd_T36 l2 x11_2).f1) ≤ (wrap64 (a0 + a1))) = true := decide_eq_true c30
                                clear c30
                                by_cases c31 : x9_2.length < 5864062014805
                                · rw [if_pos c31] at H
                                  have LMc31 := Aside0.mk c31
                                  clear c31
                                  obtain ⟨y329, hy329⟩ : ∃ y_ : List (S36), y_ = (x9_2 ++ [(⟨wrap64 (((rd_T36 l2 x11_2).f0) - a0), wrap64 (((rd_T36 l2 x11_2).f1) - a0), ((rd_T36 l2 x11_2).f2)⟩ : S36)]) := ⟨_, rfl⟩
                                  replace H : (if y326.length < 5864062014805 then (scansionlaw19_CoverJoins.l0 kj14 a0 a1 l2 y323 y329 (y326 ++ [(⟨((rd_T36 l2 x11_2).f0), ((rd_T36 l2 x11_2).f1), ((rd_T36 l2 x11_2).f2)⟩ : S36)]) (wrap64 (x11_2 + 1))) else (none)) = some r := by first | (rw [hy329]; with_reducible exact H) | (have H2_ := (Option.bind_some _ _).symm.trans H; rw [hy329]; with_reducible exact H2_) | (have H2_ := (Option.bind_some _ _).symm.trans H; with_reducible exact H2_) | with_reducible exact H | (rw [hy329]; exact H) | exact H
                                  have Ny329 := Aside0.mk hy329
                                  clear hy329
                                  by_cases c32 : y326.length < 5864062014805
                                  · rw [if_pos c32] at H
                                    have LMc32 := Aside0.mk c32
                                    clear c32
                                    obtain ⟨y332, hy332⟩ : ∃ y_ : List (S36), y_ = (y326 ++ [(⟨((rd_T36 l2 x11_2).f0), ((rd_T36 l2 x11_2).f1), ((rd_T36 l2 x11_2).f2)⟩ : S36)]) := ⟨_, rfl⟩
                                    replace H : (scansionlaw19_CoverJoins.l0 kj14 a0 a1 l2 y323 y329 y332 (wrap64 (x11_2 + 1))) = some r := by first | (rw [hy332]; with_reducible exact H) | (have H2_ := (Option.bind_some _ _).symm.trans H; rw [hy332]; with_reducible exact H2_) | (have H2_ := (Option.bind_some _ _).symm.trans H; with_reducible exact H2_) | with_reducible exact H | (rw [hy332]; exact H) | exact H
                                    have Ny332 := Aside0.mk hy332
                                    clear hy332
                                    have H' := Aside0.mk H
                                    clear H
                                    have hcz33_0 : wc.cell? ⟨gb322, 0, none⟩ = some (.int .i64 ((rd_T36 l2 x11_2).f0)) := (blk_cell BK322.out 0).trans rfl
                                    have hcz33_1 : wc.cell? ⟨gb322, 1, none⟩ = some (.int .i64 ((rd_T36 l2 x11_2).f1)) := (blk_cell BK322.out 1).trans rfl
                                    have hcz33_2 : wc.cell? ⟨gb322, 2, none⟩ = some (.int .i64 ((rd_T36 l2 x11_2).f2)) := (blk_cell BK322.out 2).trans rfl
                                    have hfz33_0 := blk_frozen BK322.out 0
                                    have hfz33_1 := blk_frozen BK322.out 1
                                    have hfz33_2 := blk_frozen BK322.out 2
                                    go_wp2_with (first | ((with_reducible refine gate_builtin (b := .append) (xs := #[.tmp 82, .tmp 84]) rfl ?_); (try (refine gate_guard (by rfl) ?_; dsimp only)); at_builtin; refine Kd.R_append k36 (w0 := w) w.heap.size rfl (.tmp 82) (.tmp 84) 22 36 (.agg #[(.int .i64 0), (.int .i64 0), (.int .i64 0)]) 24 rfl Try.underlying22 info36 rfl (by decide) (by omega) u8 x8_2 (⟨((rd_T36 l2 x11_2).f0), ((rd_T36 l2 x11_2).f1), ((rd_T36 l2 x11_2).f2)⟩ : S36) [.int .i64 ((rd_T36 l2 x11_2).f0), .int .i64 ((rd_T36 l2 x11_2).f1), .int .i64 ((rd_T36 l2 x11_2).f2)] (fun k_ => some k_ ≠ (u9 : Value).ownBlock ∧ some k_ ≠ (u10 : Value).ownBlock ∧ k_ ≠ gb322) (fun _ => False) rfl rfl ?aP (fun _ hk => hk.elim) ?aF ?aO ?aB ?aS ?aL ?_; (case aP => exact k36_mkM _ _ _ (⟨((rd_T36 l2 x11_2).f0), ((rd_T36 l2 x11_2).f1), ((rd_T36 l2 x11_2).f2)⟩ : S36)); (case aB => exact (by repeat (first | (with_reducible first | exact HB.out | apply below_alloc | apply pw_below_drewN | apply below_drew1 | refine below_set ?_ GE322.out) | exact HB.out))); (case aF => exact (fun k_ hk => ⟨Kd.fresh' (Kd.R_lt (by (with_reducible repeat (first | apply Kd.R_alloc | apply Kd.R_drewN | apply Kd.R_drew)); exact HO_9.out)) k_ hk, Kd.fresh' (Kd.R_lt (by (with_reducible repeat (first | apply Kd.R_alloc | apply Kd.R_drewN | apply Kd.R_drew)); exact HO_10.out)) k_ hk, Kd.freshB (g := gb322) (o := .cells #[.int .i64 ((rd_T36 l2 x11_2).f0), .int .i64 ((rd_T36 l2 x11_2).f1), .int .i64 ((rd_T36 l2 x11_2).f2)] 36 (0, 0)) (by (with_reducible repeat (first | refine blk_drewN ?_ _ | refine blk_drew ?_ | refine blk_alloc ?_ _)); exact BK322.out) k_ hk⟩)); (case aO => exact (by (with_reducible repeat (first | apply Kd.R_alloc | apply Kd.R_drewN | apply Kd.R_drew)); exact HO_8.out)); (case aS => exact (below_size (by repeat (first | (with_reducible first | exact HB.out | apply below_alloc | apply pw_below_drewN | apply below_drew1 | refine below_set ?_ GE322.out) | exact HB.out)))); (case aL => have := LMc27.out; omega); intro v324 w34 ho hb hg hat; rw [← Ny323.out] at ho; have n0_ := Aside0.mk (Kd.R_after (ok := (fun k_ => some k_ ≠ (u10 : Value).ownBlock ∧ k_ ≠ gb322)) (by (with_reducible repeat (first | apply Kd.R_alloc | apply Kd.R_drewN | apply Kd.R_drew)); exact Kd.R_mono HO_9.out (fun _ hk => ⟨⟨hk.2.1, hk.2.2⟩, hk.1⟩)) hg hat); have n1_ := Aside0.mk (Kd.R_after (ok := (fun k_ => some k_ ≠ (u9 : Value).ownBlock ∧ k_ ≠ gb322)) (by (with_reducible repeat (first | apply Kd.R_alloc | apply Kd.R_drewN | apply Kd.R_drew)); exact Kd.R_mono HO_10.out (fun _ hk => ⟨⟨hk.2.1, hk.2.2⟩, hk.1⟩)) hg hat); have n2_ := Aside0.mk (blk_grown (g := gb322) (o := .cells #[.int .i64 ((rd_T36 l2 x11_2).f0), .int .i64 ((rd_T36 l2 x11_2).f1), .int .i64 ((rd_T36 l2 x11_2).f2)] 36 (0, 0)) (by (with_reducible repeat (first | refine blk_drewN ?_ _ | refine blk_drew ?_ | refine blk_alloc ?_ _)); exact BK322.out) hg (Kd.R_away HO_8.out (fun _ hk => hk.2.2))); have n3_ := Aside0.mk (hb); have n4_ := Aside0.mk (ho); clear HO_9; clear HO_10; clear BK322; clear HB; clear HO_8; have HO_9 := n0_; have HO_10 := n1_; have BK322 := n2_; have HB := n3_; have HO325 := n4_; clear n0_ n1_ n2_ n3_ n4_; clear ho hb hg hat; have hcz35_0 : w34.cell? ⟨gb322, 0, none⟩ = some (.int .i64 ((rd_T36 l2 x11_2).f0)) := (blk_cell BK322.out 0).trans rfl; have hcz35_1 : w34.cell? ⟨gb322, 1, none⟩ = some (.int .i64 ((rd_T36 l2 x11_2).f1)) := (blk_cell BK322.out 1).trans rfl; have hcz35_2 : w34.cell? ⟨gb322, 2, none⟩ = some (.int .i64 ((rd_T36 l2 x11_2).f2)) := (blk_cell BK322.out 2).trans rfl; have hfz35_0 := blk_frozen BK322.out 0; have hfz35_1 := blk_frozen BK322.out 1; have hfz35_2 := blk_frozen BK322.out 2) | ((with_reducible refine gate_builtin (b := .append) (xs := #[.tmp 86, .tmp 88]) rfl ?_); (try (refine gate_guard (by rfl) ?_; dsimp only)); at_builtin; refine Kd.R_append k36 (w0 := w) w.heap.size rfl (.tmp 86) (.tmp 88) 22 36 (.agg #[(.int .i64 0), (.int .i64 0), (.int .i64 0)]) 24 rfl Try.underlying22 info36 rfl (by decide) (by omega) u10 x10_2 (⟨((rd_T36 l2 x11_2).f0), ((rd_T36 l2 x11_2).f1), ((rd_T36 l2 x11_2).f2)⟩ : S36) [.int .i64 ((rd_T36 l2 x11_2).f0), .int .i64 ((rd_T36 l2 x11_2).f1), .int .i64 ((rd_T36 l2 x11_2).f2)] (fun k_ => some k_ ≠ (u9 : Value).ownBlock ∧ some k_ ≠ (v324 : Value).ownBlock ∧ k_ ≠ gb322) (fun _ => False) rfl rfl ?aP (fun _ hk => hk.elim) ?aF ?aO ?aB ?aS ?aL ?_; (case aP => exact k36_mkM _ _ _ (⟨((rd_T36 l2 x11_2).f0), ((rd_T36 l2 x11_2).f1), ((rd_T36 l2 x11_2).f2)⟩ : S36)); (case aB => exact (by repeat (first | (with_reducible first | exact HB.out | apply below_alloc | apply pw_below_drewN | apply below_drew1 | refine below_set ?_ GE322.out) | exact HB.out))); (case aF => exact (fun k_ hk => ⟨Kd.fresh' (Kd.R_lt (by (with_reducible repeat (first | apply Kd.R_alloc | apply Kd.R_drewN | apply Kd.R_drew)); exact HO_9.out)) k_ hk, Kd.fresh' (Kd.R_lt (by (with_reducible repeat (first | apply Kd.R_alloc | apply Kd.R_drewN | apply Kd.R_drew)); exact HO325.out)) k_ hk, Kd.freshB (g := gb322) (o := .cells #[.int .i64 ((rd_T36 l2 x11_2).f0), .int .i64 ((rd_T36 l2 x11_2).f1), .int .i64 ((rd_T36 l2 x11_2).f2)] 36 (0, 0)) (by (with_reducible repeat (first | refine blk_drewN ?_ _ | refine blk_drew ?_ | refine blk_alloc ?_ _)); exact BK322.out) k_ hk⟩)); (case aO => exact (by (with_reducible repeat (first | apply Kd.R_alloc | apply Kd.R_drewN | apply Kd.R_drew)); exact Kd.R_mono HO_10.out (fun _ hk => ⟨hk.1.1, ⟨hk.2, hk.1.2⟩⟩))); (case aS => exact (below_size (by repeat (first | (with_reducible first | exact HB.out | apply below_alloc | apply pw_below_drewN | apply below_drew1 | refine below_set ?_ GE322.out) | exact HB.out)))); (case aL => have := LMc28.out; omega); intro v327 w36 ho hb hg hat; rw [← Ny326.out] at ho; have n0_ := Aside0.mk (Kd.R_after (ok := (fun k_ => some k_ ≠ (v324 : Value).ownBlock ∧ k_ ≠ gb322)) (by (with_reducible repeat (first | apply Kd.R_alloc | apply Kd.R_drewN | apply Kd.R_drew)); exact Kd.R_mono HO_9.out (fun _ hk => ⟨⟨hk.2, hk.1.2⟩, hk.1.1⟩)) hg hat); have n1_ := Aside0.mk (blk_grown (g := gb322) (o := .cells #[.int .i64 ((rd_T36 l2 x11_2).f0), .int .i64 ((rd_T36 l2 x11_2).f1), .int .i64 ((rd_T36 l2 x11_2).f2)] 36 (0, 0)) (by (with_reducible repeat (first | refine blk_drewN ?_ _ | refine blk_drew ?_ | refine blk_alloc ?_ _)); exact BK322.out) hg (Kd.R_away HO_10.out (fun _ hk => hk.1.2))); have n2_ := Aside0.mk (Kd.R_after (ok := (fun k_ => some k_ ≠ (u9 : Value).ownBlock ∧ k_ ≠ gb322)) (by (with_reducible repeat (first | apply Kd.R_alloc | apply Kd.R_drewN | apply Kd.R_drew)); exact Kd.R_mono HO325.out (fun _ hk => ⟨⟨hk.1, hk.2.2⟩, hk.2.1⟩)) hg hat); have n3_ := Aside0.mk (hb); have n4_ := Aside0.mk (ho); clear HO_9; clear BK322; clear HO325; clear HB; clear HO_10; have HO_9 := n0_; have BK322 := n1_; have HO325 := n2_; have HB := n3_; have HO328 := n4_; clear n0_ n1_ n2_ n3_ n4_; clear ho hb hg hat; have hcz37_0 : w36.cell? ⟨gb322, 0, none⟩ = some (.int .i64 ((rd_T36 l2 x11_2).f0)) := (blk_cell BK322.out 0).trans rfl; have hcz37_1 : w36.cell? ⟨gb322, 1, none⟩ = some (.int .i64 ((rd_T36 l2 x11_2).f1)) := (blk_cell BK322.out 1).trans rfl; have hcz37_2 : w36.cell? ⟨gb322, 2, none⟩ = some (.int .i64 ((rd_T36 l2 x11_2).f2)) := (blk_cell BK322.out 2).trans rfl; have hfz37_0 := blk_frozen BK322.out 0; have hfz37_1 := blk_frozen BK322.out 1; have hfz37_2 := blk_frozen BK322.out 2) | ((with_reducible refine gate_builtin (b := .append) (xs := #[.tmp 102, .tmp 114]) rfl ?_); (try (refine gate_guard (by rfl) ?_; dsimp only)); at_builtin; refine Kd.R_append k36 (w0 := w) w.heap.size rfl (.tmp 102) (.tmp 114) 22 36 (.agg #[(.int .i64 0), (.int .i64 0), (.int .i64 0)]) 24 rfl Try.underlying22 info36 rfl (by decide) (by omega) u9 x9_2 (⟨wrap64 (((rd_T36 l2 x11_2).f0) - a0), wrap64 (((rd_T36 l2 x11_2).f1) - a0), ((rd_T36 l2 x11_2).f2)⟩ : S36) [.int .i64 (wrap64 (((rd_T36 l2 x11_2).f0) - a0)), .int .i64 (wrap64 (((rd_T36 l2 x11_2).f1) - a0)), .int .i64 ((rd_T36 l2 x11_2).f2)] (fun k_ => some k_ ≠ (v324 : Value).ownBlock ∧ some k_ ≠ (v327 : Value).ownBlock ∧ k_ ≠ gb322) (fun _ => False) rfl rfl ?aP (fun _ hk => hk.elim) ?aF ?aO ?aB ?aS ?aL ?_; (case aP => exact k36_mkM _ _ _ (⟨wrap64 (((rd_T36 l2 x11_2).f0) - a0), wrap64 (((rd_T36 l2 x11_2).f1) - a0), ((rd_T36 l2 x11_2).f2)⟩ : S36)); (case aB => exact (by repeat (first | (with_reducible first | exact HB.out | apply below_alloc | apply pw_below_drewN | apply below_drew1 | refine below_set ?_ GE322.out) | exact HB.out))); (case aF => exact (fun k_ hk => ⟨Kd.fresh' (Kd.R_lt (by (with_reducible repeat (first | apply Kd.R_alloc | apply Kd.R_drewN | apply Kd.R_drew)); exact HO325.out)) k_ hk, Kd.fresh' (Kd.R_lt (by (with_reducible repeat (first | apply Kd.R_alloc | apply Kd.R_drewN | apply Kd.R_drew)); exact HO328.out)) k_ hk, Kd.freshB (g := gb322) (o := .cells #[.int .i64 ((rd_T36 l2 x11_2).f0), .int .i64 ((rd_T36 l2 x11_2).f1), .int .i64 ((rd_T36 l2 x11_2).f2)] 36 (0, 0)) (by (with_reducible repeat (first | refine blk_drewN ?_ _ | refine blk_drew ?_ | refine blk_alloc ?_ _)); exact BK322.out) k_ hk⟩)); (case aO => exact (by (with_reducible repeat (first | apply Kd.R_alloc | apply Kd.R_drewN | apply Kd.R_drew)); exact Kd.R_mono HO_9.out (fun _ hk => ⟨hk.1.1, ⟨hk.2, hk.1.2⟩⟩))); (case aS => exact (below_size (by repeat (first | (with_reducible first | exact HB.out | apply below_alloc | apply pw_below_drewN | apply below_drew1 | refine below_set ?_ GE322.out) | exact HB.out)))); (case aL => have := LMc31.out; omega); intro v330 w38 ho hb hg hat; rw [← Ny329.out] at ho; have n0_ := Aside0.mk (blk_grown (g := gb322) (o := .cells #[.int .i64 ((rd_T36 l2 x11_2).f0), .int .i64 ((rd_T36 l2 x11_2).f1), .int .i64 ((rd_T36 l2 x11_2).f2)] 36 (0, 0)) (by (with_reducible repeat (first | refine blk_drewN ?_ _ | refine blk_drew ?_ | refine blk_alloc ?_ _)); exact BK322.out) hg (Kd.R_away HO_9.out (fun _ hk => hk.1.2))); have n1_ := Aside0.mk (Kd.R_after (ok := (fun k_ => some k_ ≠ (v327 : Value).ownBlock ∧ k_ ≠ gb322)) (by (with_reducible repeat (first | apply Kd.R_alloc | apply Kd.R_drewN | apply Kd.R_drew)); exact Kd.R_mono HO325.out (fun _ hk => ⟨⟨hk.2, hk.1.2⟩, hk.1.1⟩)) hg hat); have n2_ := Aside0.mk (Kd.R_after (ok := (fun k_ => some k_ ≠ (v324 : Value).ownBlock ∧ k_ ≠ gb322)) (by (with_reducible repeat (first | apply Kd.R_alloc | apply Kd.R_drewN | apply Kd.R_drew)); exact Kd.R_mono HO328.out (fun _ hk => ⟨⟨hk.2.1, hk.2.2⟩, hk.1⟩)) hg hat); have n3_ := Aside0.mk (hb); have n4_ := Aside0.mk (ho); clear BK322; clear HO325; clear HO328; clear HB; clear HO_9; have BK322 := n0_; have HO325 := n1_; have HO328 := n2_; have HB := n3_; have HO331 := n4_; clear n0_ n1_ n2_ n3_ n4_; clear ho hb hg hat; have hcz39_0 : w38.cell? ⟨gb322, 0, none⟩ = some (.int .i64 ((rd_T36 l2 x11_2).f0)) := (blk_cell BK322.out 0).trans rfl; have hcz39_1 : w38.cell? ⟨gb322, 1, none⟩ = some (.int .i64 ((rd_T36 l2 x11_2).f1)) := (blk_cell BK322.out 1).trans rfl; have hcz39_2 : w38.cell? ⟨gb322, 2, none⟩ = some (.int .i64 ((rd_T36 l2 x11_2).f2)) := (blk_cell BK322.out 2).trans rfl; have hfz39_0 := blk_frozen BK322.out 0; have hfz39_1 := blk_frozen BK322.out 1; have hfz39_2 := blk_frozen BK322.out 2) | ((with_reducible refine gate_builtin (b := .append) (xs := #[.tmp 116, .tmp 118]) rfl ?_); (try (refine gate_guard (by rfl) ?_; dsimp only)); at_builtin; refine Kd.R_append k36 (w0 := w) w.heap.size rfl (.tmp 116) (.tmp 118) 22 36 (.agg #[(.int .i64 0), (.int .i64 0), (.int .i64 0)]) 24 rfl Try.underlying22 info36 rfl (by decide) (by omega) v327 y326 (⟨((rd_T36 l2 x11_2).f0), ((rd_T36 l2 x11_2).f1), ((rd_T36 l2 x11_2).f2)⟩ : S36) [.int .i64 ((rd_T36 l2 x11_2).f0), .int .i64 ((rd_T36 l2 x11_2).f1), .int .i64 ((rd_T36 l2 x11_2).f2)] (fun k_ => some k_ ≠ (v324 : Value).ownBlock ∧ some k_ ≠ (v330 : Value).ownBlock ∧ k_ ≠ gb322) (fun _ => False) rfl rfl ?aP (fun _ hk => hk.elim) ?aF ?aO ?aB ?aS ?aL ?_; (case aP => exact k36_mkM _ _ _ (⟨((rd_T36 l2 x11_2).f0), ((rd_T36 l2 x11_2).f1), ((rd_T36 l2 x11_2).f2)⟩ : S36)); (case aB => exact (by repeat (first | (with_reducible first | exact HB.out | apply below_alloc | apply pw_below_drewN | apply below_drew1 | refine below_set ?_ GE322.out) | exact HB.out))); (case aF => exact (fun k_ hk => ⟨Kd.fresh' (Kd.R_lt (by (with_reducible repeat (first | apply Kd.R_alloc | apply Kd.R_drewN | apply Kd.R_drew)); exact HO325.out)) k_ hk, Kd.fresh' (Kd.R_lt (by (with_reducible repeat (first | apply Kd.R_alloc | apply Kd.R_drewN | apply Kd.R_drew)); exact HO331.out)) k_ hk, Kd.freshB (g := gb322) (o := .cells #[.int .i64 ((rd_T36 l2 x11_2).f0), .int .i64 ((rd_T36 l2 x11_2).f1), .int .i64 ((rd_T36 l2 x11_2).f2)] 36 (0, 0)) (by (with_reducible repeat (first | refine blk_drewN ?_ _ | refine blk_drew ?_ | refine blk_alloc ?_ _)); exact BK322.out) k_ hk⟩)); (case aO => exact (by (with_reducible repeat (first | apply Kd.R_alloc | apply Kd.R_drewN | apply Kd.R_drew)); exact Kd.R_mono HO328.out (fun _ hk => ⟨hk.1.1, ⟨hk.2, hk.1.2⟩⟩))); (case aS => exact (below_size (by repeat (first | (with_reducible first | exact HB.out | apply below_alloc | apply pw_below_drewN | apply below_drew1 | refine below_set ?_ GE322.out) | exact HB.out)))); (case aL => have := LMc32.out; omega); intro v333 w40 ho hb hg hat; rw [← Ny332.out] at ho; have n0_ := Aside0.mk (blk_grown (g := gb322) (o := .cells #[.int .i64 ((rd_T36 l2 x11_2).f0), .int .i64 ((rd_T36 l2 x11_2).f1), .int .i64 ((rd_T36 l2 x11_2).f2)] 36 (0, 0)) (by (with_reducible repeat (first | refine blk_drewN ?_ _ | refine blk_drew ?_ | refine blk_alloc ?_ _)); exact BK322.out) hg (Kd.R_away HO328.out (fun _ hk => hk.1.2))); have n1_ := Aside0.mk (Kd.R_after (ok := (fun k_ => some k_ ≠ (v330 : Value).ownBlock ∧ k_ ≠ gb322)) (by (with_reducible repeat (first | apply Kd.R_alloc | apply Kd.R_drewN | apply Kd.R_drew)); exact Kd.R_mono HO325.out (fun _ hk => ⟨⟨hk.2, hk.1.2⟩, hk.1.1⟩)) hg hat); have n2_ := Aside0.mk (Kd.R_after (ok := (fun k_ => some k_ ≠ (v324 : Value).ownBlock ∧ k_ ≠ gb322)) (by (with_reducible repeat (first | apply Kd.R_alloc | apply Kd.R_drewN | apply Kd.R_drew)); exact Kd.R_mono HO331.out (fun _ hk => ⟨⟨hk.1, hk.2.2⟩, hk.2.1⟩)) hg hat); have n3_ := Aside0.mk (hb); have n4_ := Aside0.mk (ho); clear BK322; clear HO325; clear HO331; clear HB; clear HO328; have BK322 := n0_; have HO325 := n1_; have HO331 := n2_; have HB := n3_; have HO334 := n4_; clear n0_ n1_ n2_ n3_ n4_; clear ho hb hg hat))
                                    go_roundg kj14
                                    case measure => have := HJ4.out; have := HK2.out; have := HJ14.out; omega
                                    case rel => exact ⟨(y323), (y329), (y332), (wrap64 (x11_2 + 1)), (by first | rfl | (simp; done) | (simp [*]; done)), H', ⟨by have := HJ4.out; have := HK2.out; have := HJ14.out; omega⟩, ⟨by (with_reducible repeat (first | apply Kd.R_alloc | apply Kd.R_drewN | apply Kd.R_drew)); exact Kd.R_mono HO325.out (fun _ hk => ⟨hk.1.1, hk.2⟩)⟩, ⟨by (with_reducible repeat (first | apply Kd.R_alloc | apply Kd.R_drewN | apply Kd.R_drew)); exact Kd.R_mono HO331.out (fun _ hk => ⟨hk.1.1, hk.2⟩)⟩, ⟨by (with_reducible repeat (first | apply Kd.R_alloc | apply Kd.R_drewN | apply Kd.R_drew)); exact Kd.R_mono HO334.out (fun _ hk => ⟨hk.1, hk.2.1⟩)⟩, ⟨by repeat (first | (with_reducible first | exact HB.out | apply below_alloc | apply pw_below_drewN | apply below_drew1 | refine below_set ?_ GE322.out) | exact HB.out)⟩⟩
                                  · rw [if_neg c32] at H
                                    exact absurd H (by simp)
                                · rw [if_neg c31] at H
                                  exact absurd H (by simp)
                              · rw [if_neg c30] at H
                                have c30b0 : decide (((rd_T36 l2 x11_2).f1) ≤ (wrap64 (a0 + a1))) = false := decide_eq_false c30
                                clear c30
                                have H' := Aside0.mk H
                                clear H
                                have hcz41_0 : wc.cell? ⟨gb322, 0, none⟩ = some (.int .i64 ((rd_T36 l2 x11_2).f0)) := (blk_cell BK322.out 0).trans rfl
                                have hcz41_1 : wc.cell? ⟨gb322, 1, none⟩ = some (.int .i64 ((rd_T36 l2 x11_2).f1)) := (blk_cell BK322.out 1).trans rfl
                                have hcz41_2 : wc.cell? ⟨gb322, 2, none⟩ = some (.int .i64 ((rd_T36 l2 x11_2).f2)) := (blk_cell BK322.out 2).trans rfl
                                have hfz41_0 := blk_frozen BK322.out 0
                                have hfz41_1 := blk_frozen BK322.out 1
                                have hfz41_2 := blk_frozen BK322.out 2
                                go_wp2_with (first | ((with_reducible refine gate_builtin (b := .append) (xs := #[.tmp 82, .tmp 84]) rfl ?_); (try (refine gate_guard (by rfl) ?_; dsimp only)); at_builtin; refine Kd.R_append k36 (w0 := w) w.heap.size rfl (.tmp 82) (.tmp 84) 22 36 (.agg #[(.int .i64 0), (.int .i64 0), (.int .i64 0)]) 24 rfl Try.underlying22 info36 rfl (by decide) (by omega) u8 x8_2 (⟨((rd_T36 l2 x11_2).f0), ((rd_T36 l2 x11_2).f1), ((rd_T36 l2 x11_2).f2)⟩ : S36) [.int .i64 ((rd_T36 l2 x11_2).f0), .int .i64 ((rd_T36 l2 x11_2).f1), .int .i64 ((rd_T36 l2 x11_2).f2)] (fun k_ => some k_ ≠ (u9 : Value).ownBlock ∧ some k_ ≠ (u10 : Value).ownBlock ∧ k_ ≠ gb322) (fun _ => False) rfl rfl ?aP (fun _ hk => hk.elim) ?aF ?aO ?aB ?aS ?aL ?_; (case aP => exact k36_mkM _ _ _ (⟨((rd_T36 l2 x11_2).f0), ((rd_T36 l2 x11_2).f1), ((rd_T36 l2 x11_2).f2)⟩ : S36)); (case aB => exact (by repeat (first | (with_reducible first | exact HB.out | apply below_alloc | apply pw_below_drewN | apply below_drew1 | refine below_set ?_ GE322.out) | exact HB.out))); (case aF => exact (fun k_ hk => ⟨Kd.fresh' (Kd.R_lt (by (with_reducible repeat (first | apply Kd.R_alloc | apply Kd.R_drewN | apply Kd.R_drew)); exact HO_9.out)) k_ hk, Kd.fresh' (Kd.R_lt (by (with_reducible repeat (first | apply Kd.R_alloc | apply Kd.R_drewN | apply Kd.R_drew)); exact HO_10.out)) k_ hk, Kd.freshB (g := gb322) (o := .cells #[.int .i64 ((rd_T36 l2 x11_2).f0), .int .i64 ((rd_T36 l2 x11_2).f1), .int .i64 ((rd_T36 l2 x11_2).f2)] 36 (0, 0)) (by (with_reducible repeat (first | refine blk_drewN ?_ _ | refine blk_drew ?_ | refine blk_alloc ?_ _)); exact BK322.out) k_ hk⟩)); (case aO => exact (by (with_reducible repeat (first | apply Kd.R_alloc | apply Kd.R_drewN | apply Kd.R_drew)); exact HO_8.out)); (case aS => exact (below_size (by repeat (first | (with_reducible first | exact HB.out | apply below_alloc | apply pw_below_drewN | apply below_drew1 | refine below_set ?_ GE322.out) | exact HB.out)))); (case aL => have := LMc27.out; omega); intro v324 w42 ho hb hg hat; rw [← Ny323.out] at ho; have n0_ := Aside0.mk (Kd.R_after (ok := (fun k_ => some k_ ≠ (u10 : Value).ownBlock ∧ k_ ≠ gb322)) (by (with_reducible repeat (first | apply Kd.R_alloc | apply Kd.R_drewN | apply Kd.R_drew)); exact Kd.R_mono HO_9.out (fun _ hk => ⟨⟨hk.2.1, hk.2.2⟩, hk.1⟩)) hg hat); have n1_ := Aside0.mk (Kd.R_after (ok := (fun k_ => some k_ ≠ (u9 : Value).ownBlock ∧ k_ ≠ gb322)) (by (with_reducible repeat (first | apply Kd.R_alloc | apply Kd.R_drewN | apply Kd.R_drew)); exact Kd.R_mono HO_10.out (fun _ hk => ⟨⟨hk.2.1, hk.2.2⟩, hk.1⟩)) hg hat); have n2_ := Aside0.mk (blk_grown (g := gb322) (o := .cells #[.int .i64 ((rd_T36 l2 x11_2).f0), .int .i64 ((rd_T36 l2 x11_2).f1), .int .i64 ((rd_T36 l2 x11_2).f2)] 36 (0, 0)) (by (with_reducible repeat (first | refine blk_drewN ?_ _ | refine blk_drew ?_ | refine blk_alloc ?_ _)); exact BK322.out) hg (Kd.R_away HO_8.out (fun _ hk => hk.2.2))); have n3_ := Aside0.mk (hb); have n4_ := Aside0.mk (ho); clear HO_9; clear HO_10; clear BK322; clear HB; clear HO_8; have HO_9 := n0_; have HO_10 := n1_; have BK322 := n2_; have HB := n3_; have HO325 := n4_; clear n0_ n1_ n2_ n3_ n4_; clear ho hb hg hat; have hcz43_0 : w42.cell? ⟨gb322, 0, none⟩ = some (.int .i64 ((rd_T36 l2 x11_2).f0)) := (blk_cell BK322.out 0).trans rfl; have hcz43_1 : w42.cell? ⟨gb322, 1, none⟩ = some (.int .i64 ((rd_T36 l2 x11_2).f1)) := (blk_cell BK322.out 1).trans rfl; have hcz43_2 : w42.cell? ⟨gb322, 2, none⟩ = some (.int .i64 ((rd_T36 l2 x11_2).f2)) := (blk_cell BK322.out 2).trans rfl; have hfz43_0 := blk_frozen BK322.out 0; have hfz43_1 := blk_frozen BK322.out 1; have hfz43_2 := blk_frozen BK322.out 2) | ((with_reducible refine gate_builtin (b := .append) (xs := #[.tmp 86, .tmp 88]) rfl ?_); (try (refine gate_guard (by rfl) ?_; dsimp only)); at_builtin; refine Kd.R_append k36 (w0 := w) w.heap.size rfl (.tmp 86) (.tmp 88) 22 36 (.agg #[(.int .i64 0), (.int .i64 0), (.int .i64 0)]) 24 rfl Try.underlying22 info36 rfl (by decide) (by omega) u10 x10_2 (⟨((rd_T36 l2 x11_2).f0), ((rd_T36 l2 x11_2).f1), ((rd_T36 l2 x11_2).f2)⟩ : S36) [.int .i64 ((rd_T36 l2 x11_2).f0), .int .i64 ((rd_T36 l2 x11_2).f1), .int .i64 ((rd_T36 l2 x11_2).f2)] (fun k_ => some k_ ≠ (u9 : Value).ownBlock ∧ some k_ ≠ (v324 : Value).ownBlock ∧ k_ ≠ gb322) (fun _ => False) rfl rfl ?aP (fun _ hk => hk.elim) ?aF ?aO ?aB ?aS ?aL ?_; (case aP => exact k36_mkM _ _ _ (⟨((rd_T36 l2 x11_2).f0), ((rd_T36 l2 x11_2).f1), ((rd_T36 l2 x11_2).f2)⟩ : S36)); (case aB => exact (by repeat (first | (with_reducible first | exact HB.out | apply below_alloc | apply pw_below_drewN | apply below_drew1 | refine below_set ?_ GE322.out) | exact HB.out))); (case aF => exact (fun k_ hk => ⟨Kd.fresh' (Kd.R_lt (by (with_reducible repeat (first | apply Kd.R_alloc | apply Kd.R_drewN | apply Kd.R_drew)); exact HO_9.out)) k_ hk, Kd.fresh' (Kd.R_lt (by (with_reducible repeat (first | apply Kd.R_alloc | apply Kd.R_drewN | apply Kd.R_drew)); exact HO325.out)) k_ hk, Kd.freshB (g := gb322) (o := .cells #[.int .i64 ((rd_T36 l2 x11_2).f0), .int .i64 ((rd_T36 l2 x11_2).f1), .int .i64 ((rd_T36 l2 x11_2).f2)] 36 (0, 0)) (by (with_reducible repeat (first | refine blk_drewN ?_ _ | refine blk_drew ?_ | refine blk_alloc ?_ _)); exact BK322.out) k_ hk⟩)); (case aO => exact (by (with_reducible repeat (first | apply Kd.R_alloc | apply Kd.R_drewN | apply Kd.R_drew)); exact Kd.R_mono HO_10.out (fun _ hk => ⟨hk.1.1, ⟨hk.2, hk.1.2⟩⟩))); (case aS => exact (below_size (by repeat (first | (with_reducible first | exact HB.out | apply below_alloc | apply pw_below_drewN | apply below_drew1 | refine below_set ?_ GE322.out) | exact HB.out)))); (case aL => have := LMc28.out; omega); intro v327 w44 ho hb hg hat; rw [← Ny326.out] at ho; have n0_ := Aside0.mk (Kd.R_after (ok := (fun k_ => some k_ ≠ (v324 : Value).ownBlock ∧ k_ ≠ gb322)) (by (with_reducible repeat (first | apply Kd.R_alloc | apply Kd.R_drewN | apply Kd.R_drew)); exact Kd.R_mono HO_9.out (fun _ hk => ⟨⟨hk.2, hk.1.2⟩, hk.1.1⟩)) hg hat); have n1_ := Aside0.mk (blk_grown (g := gb322) (o := .cells #[.int .i64 ((rd_T36 l2 x11_2).f0), .int .i64 ((rd_T36 l2 x11_2).f1), .int .i64 ((rd_T36 l2 x11_2).f2)] 36 (0, 0)) (by (with_reducible repeat (first | refine blk_drewN ?_ _ | refine blk_drew ?_ | refine blk_alloc ?_ _)); exact BK322.out) hg (Kd.R_away HO_10.out (fun _ hk => hk.1.2))); have n2_ := Aside0.mk (Kd.R_after (ok := (fun k_ => some k_ ≠ (u9 : Value).ownBlock ∧ k_ ≠ gb322)) (by (with_reducible repeat (first | apply Kd.R_alloc | apply Kd.R_drewN | apply Kd.R_drew)); exact Kd.R_mono HO325.out (fun _ hk => ⟨⟨hk.1, hk.2.2⟩, hk.2.1⟩)) hg hat); have n3_ := Aside0.mk (hb); have n4_ := Aside0.mk (ho); clear HO_9; clear BK322; clear HO325; clear HB; clear HO_10; have HO_9 := n0_; have BK322 := n1_; have HO325 := n2_; have HB := n3_; have HO328 := n4_; clear n0_ n1_ n2_ n3_ n4_; clear ho hb hg hat; have hcz45_0 : w44.cell? ⟨gb322, 0, none⟩ = some (.int .i64 ((rd_T36 l2 x11_2).f0)) := (blk_cell BK322.out 0).trans rfl; have hcz45_1 : w44.cell? ⟨gb322, 1, none⟩ = some (.int .i64 ((rd_T36 l2 x11_2).f1)) := (blk_cell BK322.out 1).trans rfl; have hcz45_2 : w44.cell? ⟨gb322, 2, none⟩ = some (.int .i64 ((rd_T36 l2 x11_2).f2)) := (blk_cell BK322.out 2).trans rfl; have hfz45_0 := blk_frozen BK322.out 0; have hfz45_1 := blk_frozen BK322.out 1; have hfz45_2 := blk_frozen BK322.out 2))
                                go_roundg kj14
                                case measure => have := HJ4.out; have := HK2.out; have := HJ14.out; omega
                                case rel => exact ⟨(y323), (x9_2), (y326), (wrap64 (x11_2 + 1)), (by first | rfl | (simp; done) | (simp [*]; done)), H', ⟨by have := HJ4.out; have := HK2.out; have := HJ14.out; omega⟩, ⟨by (with_reducible repeat (first | apply Kd.R_alloc | apply Kd.R_drewN | apply Kd.R_drew)); exact Kd.R_mono HO325.out (fun _ hk => ⟨hk.1.1, hk.2⟩)⟩, ⟨by (with_reducible repeat (first | apply Kd.R_alloc | apply Kd.R_drewN | apply Kd.R_drew)); exact Kd.R_mono HO_9.out (fun _ hk => ⟨hk.1.1, hk.2⟩)⟩, ⟨by (with_reducible repeat (first | apply Kd.R_alloc | apply Kd.R_drewN | apply Kd.R_drew)); exact Kd.R_mono HO328.out (fun _ hk => ⟨hk.2.1, hk.1⟩)⟩, ⟨by repeat (first | (with_reducible first | exact HB.out | apply below_alloc | apply pw_below_drewN | apply below_drew1 | refine below_set ?_ GE322.out) | exact HB.out)⟩⟩
                            · rw [if_neg c29] at H
                              have c29b0 : decide (a0 ≤ ((rd_T36 l2 x11_2).f0)) = false := decide_eq_false c29
                              clear c29
                              have H' := Aside0.mk H
                              clear H
                              have hcz46_0 : wc.cell? ⟨gb322, 0, none⟩ = some (.int .i64 ((rd_T36 l2 x11_2).f0)) := (blk_cell BK322.out 0).trans rfl
                              have hcz46_1 : wc.cell? ⟨gb322, 1, none⟩ = some (.int .i64 ((rd_T36 l2 x11_2).f1)) := (blk_cell BK322.out 1).trans rfl
                              have hcz46_2 : wc.cell? ⟨gb322, 2, none⟩ = some (.int .i64 ((rd_T36 l2 x11_2).f2)) := (blk_cell BK322.out 2).trans rfl
                              have hfz46_0 := blk_frozen BK322.out 0
                              have hfz46_1 := blk_frozen BK322.out 1
                              have hfz46_2 := blk_frozen BK322.out 2
                              go_wp2_with (first | ((with_reducible refine gate_builtin (b := .append) (xs := #[.tmp 82, .tmp 84]) rfl ?_); (try (refine gate_guard (by rfl) ?_; dsimp only)); at_builtin; refine Kd.R_append k36 (w0 := w) w.heap.size rfl (.tmp 82) (.tmp 84) 22 36 (.agg #[(.int .i64 0), (.int .i64 0), (.int .i64 0)]) 24 rfl Try.underlying22 info36 rfl (by decide) (by omega) u8 x8_2 (⟨((rd_T36 l2 x11_2).f0), ((rd_T36 l2 x11_2).f1), ((rd_T36 l2 x11_2).f2)⟩ : S36) [.int .i64 ((rd_T36 l2 x11_2).f0), .int .i64 ((rd_T36 l2 x11_2).f1), .int .i64 ((rd_T36 l2 x11_2).f2)] (fun k_ => some k_ ≠ (u9 : Value).ownBlock ∧ some k_ ≠ (u10 : Value).ownBlock ∧ k_ ≠ gb322) (fun _ => False) rfl rfl ?aP (fun _ hk => hk.elim) ?aF ?aO ?aB ?aS ?aL ?_; (case aP => exact k36_mkM _ _ _ (⟨((rd_T36 l2 x11_2).f0), ((rd_T36 l2 x11_2).f1), ((rd_T36 l2 x11_2).f2)⟩ : S36)); (case aB => exact (by repeat (first | (with_reducible first | exact HB.out | apply below_alloc | apply pw_below_drewN | apply below_drew1 | refine below_set ?_ GE322.out) | exact HB.out))); (case aF => exact (fun k_ hk => ⟨Kd.fresh' (Kd.R_lt (by (with_reducible repeat (first | apply Kd.R_alloc | apply Kd.R_drewN | apply Kd.R_drew)); exact HO_9.out)) k_ hk, Kd.fresh' (Kd.R_lt (by (with_reducible repeat (first | apply Kd.R_alloc | apply Kd.R_drewN | apply Kd.R_drew)); exact HO_10.out)) k_ hk, Kd.freshB (g := gb322) (o := .cells #[.int .i64 ((rd_T36 l2 x11_2).f0), .int .i64 ((rd_T36 l2 x11_2).f1), .int .i64 ((rd_T36 l2 x11_2).f2)] 36 (0, 0)) (by (with_reducible repeat (first | refine blk_drewN ?_ _ | refine blk_drew ?_ | refine blk_alloc ?_ _)); exact BK322.out) k_ hk⟩)); (case aO => exact (by (with_reducible repeat (first | apply Kd.R_alloc | apply Kd.R_drewN | apply Kd.R_drew)); exact HO_8.out)); (case aS => exact (below_size (by repeat (first | (with_reducible first | exact HB.out | apply below_alloc | apply pw_below_drewN | apply below_drew1 | refine below_set ?_ GE322.out) | exact HB.out)))); (case aL => have := LMc27.out; omega); intro v324 w47 ho hb hg hat; rw [← Ny323.out] at ho; have n0_ := Aside0.mk (Kd.R_after (ok := (fun k_ => some k_ ≠ (u10 : Value).ownBlock ∧ k_ ≠ gb322)) (by (with_reducible repeat (first | apply Kd.R_alloc | apply Kd.R_drewN | apply Kd.R_drew)); exact Kd.R_mono HO_9.out (fun _ hk => ⟨⟨hk.2.1, hk.2.2⟩, hk.1⟩)) hg hat); have n1_ := Aside0.mk (Kd.R_after (ok := (fun k_ => some k_ ≠ (u9 : Value).ownBlock ∧ k_ ≠ gb322)) (by (with_reducible repeat (first | apply Kd.R_alloc | apply Kd.R_drewN | apply Kd.R_drew)); exact Kd.R_mono HO_10.out (fun _ hk => ⟨⟨hk.2.1, hk.2.2⟩, hk.1⟩)) hg hat); have n2_ := Aside0.mk (blk_grown (g := gb322) (o := .cells #[.int .i64 ((rd_T36 l2 x11_2).f0), .int .i64 ((rd_T36 l2 x11_2).f1), .int .i64 ((rd_T36 l2 x11_2).f2)] 36 (0, 0)) (by (with_reducible repeat (first | refine blk_drewN ?_ _ | refine blk_drew ?_ | refine blk_alloc ?_ _)); exact BK322.out) hg (Kd.R_away HO_8.out (fun _ hk => hk.2.2))); have n3_ := Aside0.mk (hb); have n4_ := Aside0.mk (ho); clear HO_9; clear HO_10; clear BK322; clear HB; clear HO_8; have HO_9 := n0_; have HO_10 := n1_; have BK322 := n2_; have HB := n3_; have HO325 := n4_; clear n0_ n1_ n2_ n3_ n4_; clear ho hb hg hat; have hcz48_0 : w47.cell? ⟨gb322, 0, none⟩ = some (.int .i64 ((rd_T36 l2 x11_2).f0)) := (blk_cell BK322.out 0).trans rfl; have hcz48_1 : w47.cell? ⟨gb322, 1, none⟩ = some (.int .i64 ((rd_T36 l2 x11_2).f1)) := (blk_cell BK322.out 1).trans rfl; have hcz48_2 : w47.cell? ⟨gb322, 2, none⟩ = some (.int .i64 ((rd_T36 l2 x11_2).f2)) := (blk_cell BK322.out 2).trans rfl; have hfz48_0 := blk_frozen BK322.out 0; have hfz48_1 := blk_frozen BK322.out 1; have hfz48_2 := blk_frozen BK322.out 2) | ((with_reducible refine gate_builtin (b := .append) (xs := #[.tmp 86, .tmp 88]) rfl ?_); (try (refine gate_guard (by rfl) ?_; dsimp only)); at_builtin; refine Kd.R_append k36 (w0 := w) w.heap.size rfl (.tmp 86) (.tmp 88) 22 36 (.agg #[(.int .i64 0), (.int .i64 0), (.int .i64 0)]) 24 rfl Try.underlying22 info36 rfl (by decide) (by omega) u10 x10_2 (⟨((rd_T36 l2 x11_2).f0), ((rd_T36 l2 x11_2).f1), ((rd_T36 l2 x11_2).f2)⟩ : S36) [.int .i64 ((rd_T36 l2 x11_2).f0), .int .i64 ((rd_T36 l2 x11_2).f1), .int .i64 ((rd_T36 l2 x11_2).f2)] (fun k_ => some k_ ≠ (u9 : Value).ownBlock ∧ some k_ ≠ (v324 : Value).ownBlock ∧ k_ ≠ gb322) (fun _ => False) rfl rfl ?aP (fun _ hk => hk.elim) ?aF ?aO ?aB ?aS ?aL ?_; (case aP => exact k36_mkM _ _ _ (⟨((rd_T36 l2 x11_2).f0), ((rd_T36 l2 x11_2).f1), ((rd_T36 l2 x11_2).f2)⟩ : S36)); (case aB => exact (by repeat (first | (with_reducible first | exact HB.out | apply below_alloc | apply pw_below_drewN | apply below_drew1 | refine below_set ?_ GE322.out) | exact HB.out))); (case aF => exact (fun k_ hk => ⟨Kd.fresh' (Kd.R_lt (by (with_reducible repeat (first | apply Kd.R_alloc | apply Kd.R_drewN | apply Kd.R_drew)); exact HO_9.out)) k_ hk, Kd.fresh' (Kd.R_lt (by (with_reducible repeat (first | apply Kd.R_alloc | apply Kd.R_drewN | apply Kd.R_drew)); exact HO325.out)) k_ hk, Kd.freshB (g := gb322) (o := .cells #[.int .i64 ((rd_T36 l2 x11_2).f0), .int .i64 ((rd_T36 l2 x11_2).f1), .int .i64 ((rd_T36 l2 x11_2).f2)] 36 (0, 0)) (by (with_reducible repeat (first | refine blk_drewN ?_ _ | refine blk_drew ?_ | refine blk_alloc ?_ _)); exact BK322.out) k_ hk⟩)); (case aO => exact (by (with_reducible repeat (first | apply Kd.R_alloc | apply Kd.R_drewN | apply Kd.R_drew)); exact Kd.R_mono HO_10.out (fun _ hk => ⟨hk.1.1, ⟨hk.2, hk.1.2⟩⟩))); (case aS => exact (below_size (by repeat (first | (with_reducible first | exact HB.out | apply below_alloc | apply pw_below_drewN | apply below_drew1 | refine below_set ?_ GE322.out) | exact HB.out)))); (case aL => have := LMc28.out; omega); intro v327 w49 ho hb hg hat; rw [← Ny326.out] at ho; have n0_ := Aside0.mk (Kd.R_after (ok := (fun k_ => some k_ ≠ (v324 : Value).ownBlock ∧ k_ ≠ gb322)) (by (with_reducible repeat (first | apply Kd.R_alloc | apply Kd.R_drewN | apply Kd.R_drew)); exact Kd.R_mono HO_9.out (fun _ hk => ⟨⟨hk.2, hk.1.2⟩, hk.1.1⟩)) hg hat); have n1_ := Aside0.mk (blk_grown (g := gb322) (o := .cells #[.int .i64 ((rd_T36 l2 x11_2).f0), .int .i64 ((rd_T36 l2 x11_2).f1), .int .i64 ((rd_T36 l2 x11_2).f2)] 36 (0, 0)) (by (with_reducible repeat (first | refine blk_drewN ?_ _ | refine blk_drew ?_ | refine blk_alloc ?_ _)); exact BK322.out) hg (Kd.R_away HO_10.out (fun _ hk => hk.1.2))); have n2_ := Aside0.mk (Kd.R_after (ok := (fun k_ => some k_ ≠ (u9 : Value).ownBlock ∧ k_ ≠ gb322)) (by (with_reducible repeat (first | apply Kd.R_alloc | apply Kd.R_drewN | apply Kd.R_drew)); exact Kd.R_mono HO325.out (fun _ hk => ⟨⟨hk.1, hk.2.2⟩, hk.2.1⟩)) hg hat); have n3_ := Aside0.mk (hb); have n4_ := Aside0.mk (ho); clear HO_9; clear BK322; clear HO325; clear HB; clear HO_10; have HO_9 := n0_; have BK322 := n1_; have HO325 := n2_; have HB := n3_; have HO328 := n4_; clear n0_ n1_ n2_ n3_ n4_; clear ho hb hg hat; have hcz50_0 : w49.cell? ⟨gb322, 0, none⟩ = some (.int .i64 ((rd_T36 l2 x11_2).f0)) := (blk_cell BK322.out 0).trans rfl; have hcz50_1 : w49.cell? ⟨gb322, 1, none⟩ = some (.int .i64 ((rd_T36 l2 x11_2).f1)) := (blk_cell BK322.out 1).trans rfl; have hcz50_2 : w49.cell? ⟨gb322, 2, none⟩ = some (.int .i64 ((rd_T36 l2 x11_2).f2)) := (blk_cell BK322.out 2).trans rfl; have hfz50_0 := blk_frozen BK322.out 0; have hfz50_1 := blk_frozen BK322.out 1; have hfz50_2 := blk_frozen BK322.out 2))
                              go_roundg kj14
                              case measure => have := HJ4.out; have := HK2.out; have := HJ14.out; omega
                              case rel => exact ⟨(y323), (x9_2), (y326), (wrap64 (x11_2 + 1)), (by first | rfl | (simp; done) | (simp [*]; done)), H', ⟨by have := HJ4.out; have := HK2.out; have := HJ14.out; omega⟩, ⟨by (with_reducible repeat (first | apply Kd.R_alloc | apply Kd.R_drewN | apply Kd.R_drew)); exact Kd.R_mono HO325.out (fun _ hk => ⟨hk.1.1, hk.2⟩)⟩, ⟨by (with_reducible repeat (first | apply Kd.R_alloc | apply Kd.R_drewN | apply Kd.R_drew)); exact Kd.R_mono HO_9.out (fun _ hk => ⟨hk.1.1, hk.2⟩)⟩, ⟨by (with_reducible repeat (first | apply Kd.R_alloc | apply Kd.R_drewN | apply Kd.R_drew)); exact Kd.R_mono HO328.out (fun _ hk => ⟨hk.2.1, hk.1⟩)⟩, ⟨by repeat (first | (with_reducible first | exact HB.out | apply below_alloc | apply pw_below_drewN | apply below_drew1 | refine below_set ?_ GE322.out) | exact HB.out)⟩⟩
                          · rw [if_neg c28] at H
                            exact absurd H (by simp)
                        · rw [if_neg c27] at H
                          exact absurd H (by simp)
                      · rw [if_neg c26] at H
                        have c26b0 : decide (((rd_T36 l2 x11_2).f1) ≤ a0) = false := decide_eq_false c26
                        clear c26
                        by_cases c51 : ((rd_T36 l2 x11_2).f0) ≥ a0
                        · rw [if_pos c51] at H
                          have c51b0 : decide (a0 ≤ ((rd_T36 l2 x11_2).f0)) = true := decide_eq_true c51
                          clear c51
                          by_cases c52 : ((rd_T36 l2 x11_2).f1) ≤ (wrap64 (a0 + a1))
                          · rw [if_pos c52] at H
                            have c52b0 : decide (((rd_T36 l2 x11_2).f1) ≤ (wrap64 (a0 + a1))) = true := decide_eq_true c52
                            clear c52
                            by_cases c53 : x9_2.length < 5864062014805
                            · rw [if_pos c53] at H
                              have LMc53 := Aside0.mk c53
                              clear c53
                              obtain ⟨y335, hy335⟩ : ∃ y_ : List (S36), y_ = (x9_2 ++ [(⟨wrap64 (((rd_T36 l2 x11_2).f0) - a0), wrap64 (((rd_T36 l2 x11_2).f1) - a0), ((rd_T36 l2 x11_2).f2)⟩ : S36)]) := ⟨_, rfl⟩
                              replace H : (if x10_2.length < 5864062014805 then (scansionlaw19_CoverJoins.l0 kj14 a0 a1 l2 x8_2 y335 (x10_2 ++ [(⟨((rd_T36 l2 x11_2).f0), ((rd_T36 l2 x11_2).f1), ((rd_T36 l2 x11_2).f2)⟩ : S36)]) (wrap64 (x11_2 + 1))) else (none)) = some r := by first | (rw [hy335]; with_reducible exact H) | (have H2_ := (Option.bind_some _ _).symm.trans H; rw [hy335]; with_reducible exact H2_) | (have H2_ := (Option.bind_some _ _).symm.trans H; with_reducible exact H2_) | with_reducible exact H | (rw [hy335]; exact H) | exact H
                              have Ny335 := Aside0.mk hy335
                              clear hy335
                              by_cases c54 : x10_2.length < 5864062014805
                              · rw [if_pos c54] at H
                                have LMc54 := Aside0.mk c54
                                clear c54
                                obtain ⟨y338, hy338⟩ : ∃ y_ : List (S36), y_ = (x10_2 ++ [(⟨((rd_T36 l2 x11_2).f0), ((rd_T36 l2 x11_2).f1), ((rd_T36 l2 x11_2).f2)⟩ : S36)]) := ⟨_, rfl⟩
                                replace H : (scansionlaw19_CoverJoins.l0 kj14 a0 a1 l2 x8_2 y335 y338 (wrap64 (x11_2 + 1))) = some r := by first | (rw [hy338]; with_reducible exact H) | (have H2_ := (Option.bind_some _ _).symm.trans H; rw [hy338]; with_reducible exact H2_) | (have H2_ := (Option.bind_some _ _).symm.trans H; with_reducible exact H2_) | with_reducible exact H | (rw [hy338]; exact H) | exact H
                                have Ny338 := Aside0.mk hy338
                                clear hy338
                                have H' := Aside0.mk H
                                clear H
                                have hcz55_0 : wc.cell? ⟨gb322, 0, none⟩ = some (.int .i64 ((rd_T36 l2 x11_2).f0)) := (blk_cell BK322.out 0).trans rfl
                                have hcz55_1 : wc.cell? ⟨gb322, 1, none⟩ = some (.int .i64 ((rd_T36 l2 x11_2).f1)) := (blk_cell BK322.out 1).trans rfl
                                have hcz55_2 : wc.cell? ⟨gb322, 2, none⟩ = some (.int .i64 ((rd_T36 l2 x11_2).f2)) := (blk_cell BK322.out 2).trans rfl
                                have hfz55_0 := blk_frozen BK322.out 0
                                have hfz55_1 := blk_frozen BK322.out 1
                                have hfz55_2 := blk_frozen BK322.out 2
                                go_wp2_with (first | ((with_reducible refine gate_builtin (b := .append) (xs := #[.tmp 102, .tmp 114]) rfl ?_); (try (refine gate_guard (by rfl) ?_; dsimp only)); at_builtin; refine Kd.R_append k36 (w0 := w) w.heap.size rfl (.tmp 102) (.tmp 114) 22 36 (.agg #[(.int .i64 0), (.int .i64 0), (.int .i64 0)]) 24 rfl Try.underlying22 info36 rfl (by decide) (by omega) u9 x9_2 (⟨wrap64 (((rd_T36 l2 x11_2).f0) - a0), wrap64 (((rd_T36 l2 x11_2).f1) - a0), ((rd_T36 l2 x11_2).f2)⟩ : S36) [.int .i64 (wrap64 (((rd_T36 l2 x11_2).f0) - a0)), .int .i64 (wrap64 (((rd_T36 l2 x11_2).f1) - a0)), .int .i64 ((rd_T36 l2 x11_2).f2)] (fun k_ => some k_ ≠ (u8 : Value).ownBlock ∧ some k_ ≠ (u10 : Value).ownBlock ∧ k_ ≠ gb322) (fun _ => False) rfl rfl ?aP (fun _ hk => hk.elim) ?aF ?aO ?aB ?aS ?aL ?_; (case aP => exact k36_mkM _ _ _ (⟨wrap64 (((rd_T36 l2 x11_2).f0) - a0), wrap64 (((rd_T36 l2 x11_2).f1) - a0), ((rd_T36 l2 x11_2).f2)⟩ : S36)); (case aB => exact (by repeat (first | (with_reducible first | exact HB.out | apply below_alloc | apply pw_below_drewN | apply below_drew1 | refine below_set ?_ GE322.out) | exact HB.out))); (case aF => exact (fun k_ hk => ⟨Kd.fresh' (Kd.R_lt (by (with_reducible repeat (first | apply Kd.R_alloc | apply Kd.R_drewN | apply Kd.R_drew)); exact HO_8.out)) k_ hk, Kd.fresh' (Kd.R_lt (by (with_reducible repeat (first | apply Kd.R_alloc | apply Kd.R_drewN | apply Kd.R_drew)); exact HO_10.out)) k_ hk, Kd.freshB (g := gb322) (o := .cells #[.int .i64 ((rd_T36 l2 x11_2).f0), .int .i64 ((rd_T36 l2 x11_2).f1), .int .i64 ((rd_T36 l2 x11_2).f2)] 36 (0, 0)) (by (with_reducible repeat (first | refine blk_drewN ?_ _ | refine blk_drew ?_ | refine blk_alloc ?_ _)); exact BK322.out) k_ hk⟩)); (case aO => exact (by (with_reducible repeat (first | apply Kd.R_alloc | apply Kd.R_drewN | apply Kd.R_drew)); exact HO_9.out)); (case aS => exact (below_size (by repeat (first | (with_reducible first | exact HB.out | apply below_alloc | apply pw_below_drewN | apply below_drew1 | refine below_set ?_ GE322.out) | exact HB.out)))); (case aL => have := LMc53.out; omega); intro v336 w56 ho hb hg hat; rw [← Ny335.out] at ho; have n0_ := Aside0.mk (Kd.R_after (ok := (fun k_ => some k_ ≠ (u10 : Value).ownBlock ∧ k_ ≠ gb322)) (by (with_reducible repeat (first | apply Kd.R_alloc | apply Kd.R_drewN | apply Kd.R_drew)); exact Kd.R_mono HO_8.out (fun _ hk => ⟨⟨hk.2.1, hk.2.2⟩, hk.1⟩)) hg hat); have n1_ := Aside0.mk (Kd.R_after (ok := (fun k_ => some k_ ≠ (u8 : Value).ownBlock ∧ k_ ≠ gb322)) (by (with_reducible repeat (first | apply Kd.R_alloc | apply Kd.R_drewN | apply Kd.R_drew)); exact Kd.R_mono HO_10.out (fun _ hk => ⟨⟨hk.1, hk.2.2⟩, hk.2.1⟩)) hg hat); have n2_ := Aside0.mk (blk_grown (g := gb322) (o := .cells #[.int .i64 ((rd_T36 l2 x11_2).f0), .int .i64 ((rd_T36 l2 x11_2).f1), .int .i64 ((rd_T36 l2 x11_2).f2)] 36 (0, 0)) (by (with_reducible repeat (first | refine blk_drewN ?_ _ | refine blk_drew ?_ | refine blk_alloc ?_ _)); exact BK322.out) hg (Kd.R_away HO_9.out (fun _ hk => hk.2.2))); have n3_ := Aside0.mk (hb); have n4_ := Aside0.mk (ho); clear HO_8; clear HO_10; clear BK322; clear HB; clear HO_9; have HO_8 := n0_; have HO_10 := n1_; have BK322 := n2_; have HB := n3_; have HO337 := n4_; clear n0_ n1_ n2_ n3_ n4_; clear ho hb hg hat; have hcz57_0 : w56.cell? ⟨gb322, 0, none⟩ = some (.int .i64 ((rd_T36 l2 x11_2).f0)) := (blk_cell BK322.out 0).trans rfl; have hcz57_1 : w56.cell? ⟨gb322, 1, none⟩ = some (.int .i64 ((rd_T36 l2 x11_2).f1)) := (blk_cell BK322.out 1).trans rfl; have hcz57_2 : w56.cell? ⟨gb322, 2, none⟩ = some (.int .i64 ((rd_T36 l2 x11_2).f2)) := (blk_cell BK322.out 2).trans rfl; have hfz57_0 := blk_frozen BK322.out 0; have hfz57_1 := blk_frozen BK322.out 1; have hfz57_2 := blk_frozen BK322.out 2) | ((with_reducible refine gate_builtin (b := .append) (xs := #[.tmp 116, .tmp 118]) rfl ?_); (try (refine gate_guard (by rfl) ?_; dsimp only)); at_builtin; refine Kd.R_append k36 (w0 := w) w.heap.size rfl (.tmp 116) (.tmp 118) 22 36 (.agg #[(.int .i64 0), (.int .i64 0), (.int .i64 0)]) 24 rfl Try.underlying22 info36 rfl (by decide) (by omega) u10 x10_2 (⟨((rd_T36 l2 x11_2).f0), ((rd_T36 l2 x11_2).f1), ((rd_T36 l2 x11_2).f2)⟩ : S36) [.int .i64 ((rd_T36 l2 x11_2).f0), .int .i64 ((rd_T36 l2 x11_2).f1), .int .i64 ((rd_T36 l2 x11_2).f2)] (fun k_ => some k_ ≠ (u8 : Value).ownBlock ∧ some k_ ≠ (v336 : Value).ownBlock ∧ k_ ≠ gb322) (fun _ => False) rfl rfl ?aP (fun _ hk => hk.elim) ?aF ?aO ?aB ?aS ?aL ?_; (case aP => exact k36_mkM _ _ _ (⟨((rd_T36 l2 x11_2).f0), ((rd_T36 l2 x11_2).f1), ((rd_T36 l2 x11_2).f2)⟩ : S36)); (case aB => exact (by repeat (first | (with_reducible first | exact HB.out | apply below_alloc | apply pw_below_drewN | apply below_drew1 | refine below_set ?_ GE322.out) | exact HB.out))); (case aF => exact (fun k_ hk => ⟨Kd.fresh' (Kd.R_lt (by (with_reducible repeat (first | apply Kd.R_alloc | apply Kd.R_drewN | apply Kd.R_drew)); exact HO_8.out)) k_ hk, Kd.fresh' (Kd.R_lt (by (with_reducible repeat (first | apply Kd.R_alloc | apply Kd.R_drewN | apply Kd.R_drew)); exact HO337.out)) k_ hk, Kd.freshB (g := gb322) (o := .cells #[.int .i64 ((rd_T36 l2 x11_2).f0), .int .i64 ((rd_T36 l2 x11_2).f1), .int .i64 ((rd_T36 l2 x11_2).f2)] 36 (0, 0)) (by (with_reducible repeat (first | refine blk_drewN ?_ _ | refine blk_drew ?_ | refine blk_alloc ?_ _)); exact BK322.out) k_ hk⟩)); (case aO => exact (by (with_reducible repeat (first | apply Kd.R_alloc | apply Kd.R_drewN | apply Kd.R_drew)); exact Kd.R_mono HO_10.out (fun _ hk => ⟨hk.1.1, ⟨hk.2, hk.1.2⟩⟩))); (case aS => exact (below_size (by repeat (first | (with_reducible first | exact HB.out | apply below_alloc | apply pw_below_drewN | apply below_drew1 | refine below_set ?_ GE322.out) | exact HB.out)))); (case aL => have := LMc54.out; omega); intro v339 w58 ho hb hg hat; rw [← Ny338.out] at ho; have n0_ := Aside0.mk (Kd.R_after (ok := (fun k_ => some k_ ≠ (v336 : Value).ownBlock ∧ k_ ≠ gb322)) (by (with_reducible repeat (first | apply Kd.R_alloc | apply Kd.R_drewN | apply Kd.R_drew)); exact Kd.R_mono HO_8.out (fun _ hk => ⟨⟨hk.2, hk.1.2⟩, hk.1.1⟩)) hg hat); have n1_ := Aside0.mk (blk_grown (g := gb322) (o := .cells #[.int .i64 ((rd_T36 l2 x11_2).f0), .int .i64 ((rd_T36 l2 x11_2).f1), .int .i64 ((rd_T36 l2 x11_2).f2)] 36 (0, 0)) (by (with_reducible repeat (first | refine blk_drewN ?_ _ | refine blk_drew ?_ | refine blk_alloc ?_ _)); exact BK322.out) hg (Kd.R_away HO_10.out (fun _ hk => hk.1.2))); have n2_ := Aside0.mk (Kd.R_after (ok := (fun k_ => some k_ ≠ (u8 : Value).ownBlock ∧ k_ ≠ gb322)) (by (with_reducible repeat (first | apply Kd.R_alloc | apply Kd.R_drewN | apply Kd.R_drew)); exact Kd.R_mono HO337.out (fun _ hk => ⟨⟨hk.1, hk.2.2⟩, hk.2.1⟩)) hg hat); have n3_ := Aside0.mk (hb); have n4_ := Aside0.mk (ho); clear HO_8; clear BK322; clear HO337; clear HB; clear HO_10; have HO_8 := n0_; have BK322 := n1_; have HO337 := n2_; have HB := n3_; have HO340 := n4_; clear n0_ n1_ n2_ n3_ n4_; clear ho hb hg hat))
                                go_roundg kj14
                                case measure => have := HJ4.out; have := HK2.out; have := HJ14.out; omega
                                case rel => exact ⟨(x8_2), (y335), (y338), (wrap64 (x11_2 + 1)), (by first | rfl | (simp; done) | (simp [*]; done)), H', ⟨by have := HJ4.out; have := HK2.out; have := HJ14.out; omega⟩, ⟨by (with_reducible repeat (first | apply Kd.R_alloc | apply Kd.R_drewN | apply Kd.R_drew)); exact Kd.R_mono HO_8.out (fun _ hk => ⟨hk.1.1, hk.2⟩)⟩, ⟨by (with_reducible repeat (first | apply Kd.R_alloc | apply Kd.R_drewN | apply Kd.R_drew)); exact Kd.R_mono HO337.out (fun _ hk => ⟨hk.1.1, hk.2⟩)⟩, ⟨by (with_reducible repeat (first | apply Kd.R_alloc | apply Kd.R_drewN | apply Kd.R_drew)); exact Kd.R_mono HO340.out (fun _ hk => ⟨hk.1, hk.2.1⟩)⟩, ⟨by repeat (first | (with_reducible first | exact HB.out | apply below_alloc | apply pw_below_drewN | apply below_drew1 | refine below_set ?_ GE322.out) | exact HB.out)⟩⟩
                              · rw [if_neg c54] at H
                                exact absurd H (by simp)
                            · rw [if_neg c53] at H
                              exact absurd H (by simp)
                          · rw [if_neg c52] at H
                            have c52b0 : decide (((rd_T36 l2 x11_2).f1) ≤ (wrap64 (a0 + a1))) = false := decide_eq_false c52
                            clear c52
                            have H' := Aside0.mk H
                            clear H
                            have hcz59_0 : wc.cell? ⟨gb322, 0, none⟩ = some (.int .i64 ((rd_T36 l2 x11_2).f0)) := (blk_cell BK322.out 0).trans rfl
                            have hcz59_1 : wc.cell? ⟨gb322, 1, none⟩ = some (.int .i64 ((rd_T36 l2 x11_2).f1)) := (blk_cell BK322.out 1).trans rfl
                            have hcz59_2 : wc.cell? ⟨gb322, 2, none⟩ = some (.int .i64 ((rd_T36 l2 x11_2).f2)) := (blk_cell BK322.out 2).trans rfl
                            have hfz59_0 := blk_frozen BK322.out 0
                            have hfz59_1 := blk_frozen BK322.out 1
                            have hfz59_2 := blk_frozen BK322.out 2
                            go_wp2
                            go_roundg kj14
                            case measure => have := HJ4.out; have := HK2.out; have := HJ14.out; omega
                            case rel => exact ⟨(x8_2), (x9_2), (x10_2), (wrap64 (x11_2 + 1)), (by first | rfl | (simp; done) | (simp [*]; done)), H', ⟨by have := HJ4.out; have := HK2.out; have := HJ14.out; omega⟩, ⟨by (with_reducible repeat (first | apply Kd.R_alloc | apply Kd.R_drewN | apply Kd.R_drew)); exact Kd.R_mono HO_8.out (fun _ hk => ⟨hk.1, hk.2.1⟩)⟩, ⟨by (with_reducible repeat (first | apply Kd.R_alloc | apply Kd.R_drewN | apply Kd.R_drew)); exact Kd.R_mono HO_9.out (fun _ hk => ⟨hk.1, hk.2.1⟩)⟩, ⟨by (with_reducible repeat (first | apply Kd.R_alloc | apply Kd.R_drewN | apply Kd.R_drew)); exact Kd.R_mono HO_10.out (fun _ hk => ⟨hk.1, hk.2.1⟩)⟩, ⟨by repeat (first | (with_reducible first | exact HB.out | apply below_alloc | apply pw_below_drewN | apply below_drew1 | refine below_set ?_ GE322.out) | exact HB.out)⟩⟩
                        · rw [if_neg c51] at H
                          have c51b0 : decide (a0 ≤ ((rd_T36 l2 x11_2).f0)) = false := decide_eq_false c51
                          clear c51
                          have H' := Aside0.mk H
                          clear H
                          have hcz60_0 : wc.cell? ⟨gb322, 0, none⟩ = some (.int .i64 ((rd_T36 l2 x11_2).f0)) := (blk_cell BK322.out 0).trans rfl
                          have hcz60_1 : wc.cell? ⟨gb322, 1, none⟩ = some (.int .i64 ((rd_T36 l2 x11_2).f1)) := (blk_cell BK322.out 1).trans rfl
                          have hcz60_2 : wc.cell? ⟨gb322, 2, none⟩ = some (.int .i64 ((rd_T36 l2 x11_2).f2)) := (blk_cell BK322.out 2).trans rfl
                          have hfz60_0 := blk_frozen BK322.out 0
                          have hfz60_1 := blk_frozen BK322.out 1
                          have hfz60_2 := blk_frozen BK322.out 2
                          go_wp2
                          go_roundg kj14
                          case measure => have := HJ4.out; have := HK2.out; have := HJ14.out; omega
                          case rel => exact ⟨(x8_2), (x9_2), (x10_2), (wrap64 (x11_2 + 1)), (by first | rfl | (simp; done) | (simp [*]; done)), H', ⟨by have := HJ4.out; have := HK2.out; have := HJ14.out; omega⟩, ⟨by (with_reducible repeat (first | apply Kd.R_alloc | apply Kd.R_drewN | apply Kd.R_drew)); exact Kd.R_mono HO_8.out (fun _ hk => ⟨hk.1, hk.2.1⟩)⟩, ⟨by (with_reducible repeat (first | apply Kd.R_alloc | apply Kd.R_drewN | apply Kd.R_drew)); exact Kd.R_mono HO_9.out (fun _ hk => ⟨hk.1, hk.2.1⟩)⟩, ⟨by (with_reducible repeat (first | apply Kd.R_alloc | apply Kd.R_drewN | apply Kd.R_drew)); exact Kd.R_mono HO_10.out (fun _ hk => ⟨hk.1, hk.2.1⟩)⟩, ⟨by repeat (first | (with_reducible first | exact HB.out | apply below_alloc | apply pw_below_drewN | apply below_drew1 | refine below_set ?_ GE322.out) | exact HB.out)⟩⟩
              · rw [if_neg c14] at H
                exact absurd H (by simp)
            · rw [if_neg c13] at H
              have c13b0 : decide (x11_2 < (l2.length : Int)) = false := decide_eq_false c13
              clear c13
              replace H := Option.bind_eq_some_iff.mp H
              obtain ⟨⟨t341, t342, t343⟩, A610, H⟩ := H
              replace H : ((cover_Best.f a1 x9_2 7 1099511627776).bind fun bt346 => ((cover_Best.f (wrap64 (a0 + a1)) x10_2 7 1099511627776).bind fun bt351 => (if t343 = 0 then (if bt346.2.2 = 0 then (if bt351.2.2 = 0 then (if bt351.2.1 = (wrap64 (t342 + bt346.2.1)) then (if (t341.length : Int) = 0 then (scansionlaw19_CoverJoins.j3 k2 a0 t341 bt346.1 bt351.1 true) else (scansionlaw19_CoverJoins.j3 k2 a0 t341 bt346.1 bt351.1 ((bt346.1.length : Int) == 0))) else (scansionlaw19_CoverJoins.j3 k2 a0 t341 bt346.1 bt351.1 true)) else (scansionlaw19_CoverJoins.j3 k2 a0 t341 bt346.1 bt351.1 true)) else (scansionlaw19_CoverJoins.j3 k2 a0 t341 bt346.1 bt351.1 true)) else (scansionlaw19_CoverJoins.j3 k2 a0 t341 bt346.1 bt351.1 true)))) = some r := H
              have A61 := Aside0.mk A610
              clear A610
              replace H := Option.bind_eq_some_iff.mp H
              obtain ⟨⟨t346, t347, t348⟩, A620, H⟩ := H
              replace H : ((cover_Best.f (wrap64 (a0 + a1)) x10_2 7 1099511627776).bind fun bt351 => (if t343 = 0 then (if t348 = 0 then (if bt351.2.2 = 0 then (if bt351.2.1 = (wrap64 (t342 + t347)) then (if (t341.length : Int) = 0 then (scansionlaw19_CoverJoins.j3 k2 a0 t341 t346 bt351.1 true) else (scansionlaw19_CoverJoins.j3 k2 a0 t341 t346 bt351.1 ((t346.length : Int) == 0))) else (scansionlaw19_CoverJoins.j3 k2 a0 t341 t346 bt351.1 true)) else (scansionlaw19_CoverJoins.j3 k2 a0 t341 t346 bt351.1 true)) else (scansionlaw19_CoverJoins.j3 k2 a0 t341 t346 bt351.1 true)) else (scansionlaw19_CoverJoins.j3 k2 a0 t341 t346 bt351.1 true))) = some r := H
              have A62 := Aside0.mk A620
              clear A620
              replace H := Option.bind_eq_some_iff.mp H
              obtain ⟨⟨t351, t352, t353⟩, A630, H⟩ := H
              replace H : (if t343 = 0 then (if t348 = 0 then (if t353 = 0 then (if t352 = (wrap64 (t342 + t347)) then (if (t341.length : Int) = 0 then (scansionlaw19_CoverJoins.j3 k2 a0 t341 t346 t351 true) else (scansionlaw19_CoverJoins.j3 k2 a0 t341 t346 t351 ((t346.length : Int) == 0))) else (scansionlaw19_CoverJoins.j3 k2 a0 t341 t346 t351 true)) else (scansionlaw19_CoverJoins.j3 k2 a0 t341 t346 t351 true)) else (scansionlaw19_CoverJoins.j3 k2 a0 t341 t346 t351 true)) else (scansionlaw19_CoverJoins.j3 k2 a0 t341 t346 t351 true)) = some r := H
              have A63 := Aside0.mk A630
              clear A630
              have HC64 := Aside0.mk H
              clear H
              obtain ⟨Ao65, co65, eo65⟩ := Kd.R_slice HO_8.out
              subst eo65
              go_upto_region 19 with (first | ((with_reducible refine gate_callee (f := 10) rfl ?_); refine goesL_ (some 123) rfl rfl Try.func10 (by kernel_rfl) rfl #[.int .i64 a0, .slice Ao65 x8_2.length co65, .int .i64 7, .int .i64 1099511627776] rfl (by (try simp only [List.map_toArray, List.map_cons, List.map_nil]); first | done | rfl | (simp only [List.length_drop, List.length_take]; rfl)) ?_; (with_reducible refine (cover_Best.calls a0 _ _ x8_2 7 1099511627776 t341 t342 t343 _ ?side1 ?side2 A61.out).mono ?_); (case side1 => repeat (first | exact (Kd.R_reads' HO_8.out).2.2 | (with_reducible refine Kd.C_alloc ?_ _) | (with_reducible refine Kd.C_drewN ?_ _) | (with_reducible refine Kd.C_drew ?_))); (case side2 => exact (Kd.R_reads' HO_8.out).2.1); rintro e w66 ⟨v344, rfl, ho0, hb⟩; refine ⟨_, rfl, ?_⟩; have n0_ := Aside0.mk (Kd.R_below (by (with_reducible repeat (first | apply Kd.R_alloc | apply Kd.R_drewN | apply Kd.R_drew)); exact HO_8.out) hb); have n1_ := Aside0.mk (Kd.R_below (by (with_reducible repeat (first | apply Kd.R_alloc | apply Kd.R_drewN | apply Kd.R_drew)); exact HO_9.out) hb); have n2_ := Aside0.mk (Kd.R_below (by (with_reducible repeat (first | apply Kd.R_alloc | apply Kd.R_drewN | apply Kd.R_drew)); exact HO_10.out) hb); have n3_ := Aside0.mk (Kd.R_lower ho0 (below_size (by repeat (first | (with_reducible first | exact HB.out | apply below_alloc | apply pw_below_drewN | apply below_drew1) | exact HB.out)))); have n4_ := Aside0.mk (below_step (by repeat (first | (with_reducible first | exact HB.out | apply below_alloc | apply pw_below_drewN | apply below_drew1) | exact HB.out)) hb); clear HO_8; clear HO_9; clear HO_10; clear HB; have HO_8 := n0_; have HO_9 := n1_; have HO_10 := n2_; have HO345 := n3_; have HB := n4_; clear n0_ n1_ n2_ n3_ n4_; (try clear hb); (try clear hb2); (try clear hk); (try clear hi); (try clear ho0); obtain ⟨Ao67, co67, eo67⟩ := Kd.R_slice HO_9.out; subst eo67) | ((with_reducible refine gate_callee (f := 10) rfl ?_); refine goesL_ (some 130) rfl rfl Try.func10 (by kernel_rfl) rfl #[.int .i64 a1, .slice Ao67 x9_2.length co67, .int .i64 7, .int .i64 1099511627776] rfl (by (try simp only [List.map_toArray, List.map_cons, List.map_nil]); first | done | rfl | (simp only [List.length_drop, List.length_take]; rfl)) ?_; (with_reducible refine (cover_Best.calls a1 _ _ x9_2 7 1099511627776 t346 t347 t348 _ ?side1 ?side2 A62.out).mono ?_); (case side1 => repeat (first | exact (Kd.R_reads' HO_9.out).2.2 | (with_reducible refine Kd.C_alloc ?_ _) | (with_reducible refine Kd.C_drewN ?_ _) | (with_reducible refine Kd.C_drew ?_))); (case side2 => exact (Kd.R_reads' HO_9.out).2.1); rintro e w68 ⟨v349, rfl, ho0, hb⟩; refine ⟨_, rfl, ?_⟩; have n0_ := Aside0.mk (Kd.R_below (by (with_reducible repeat (first | apply Kd.R_alloc | apply Kd.R_drewN | apply Kd.R_drew)); exact HO_8.out) hb); have n1_ := Aside0.mk (Kd.R_below (by (with_reducible repeat (first | apply Kd.R_alloc | apply Kd.R_drewN | apply Kd.R_drew)); exact HO_9.out) hb); have n2_ := Aside0.mk (Kd.R_below (by (with_reducible repeat (first | apply Kd.R_alloc | apply Kd.R_drewN | apply Kd.R_drew)); exact HO_10.out) hb); have n3_ := Aside0.mk (Kd.R_elder' (by (with_reducible repeat (first | apply Kd.R_alloc | apply Kd.R_drewN | apply Kd.R_drew)); exact HO345.out) (Kd.R_base ho0) hb); have n4_ := Aside0.mk (Kd.R_lower (Kd.R_new' ho0 (Kd.R_lt (by (with_reducible repeat (first | apply Kd.R_alloc | apply Kd.R_drewN | apply Kd.R_drew)); exact HO345.out))) (below_size (by repeat (first | (with_reducible first | exact HB.out | apply below_alloc | apply pw_below_drewN | apply below_drew1) | exact HB.out)))); have n5_ := Aside0.mk (below_step (by repeat (first | (with_reducible first | exact HB.out | apply below_alloc | apply pw_below_drewN | apply below_drew1) | exact HB.out)) hb); clear HO_8; clear HO_9; clear HO_10; clear HO345; clear HB; have HO_8 := n0_; have HO_9 := n1_; have HO_10 := n2_; have HO345 := n3_; have HO350 := n4_; have HB := n5_; clear n0_ n1_ n2_ n3_ n4_ n5_; (try clear hb); (try clear hb2); (try clear hk); (try clear hi); (try clear ho0); obtain ⟨Ao69, co69, eo69⟩ := Kd.R_slice HO_10.out; subst eo69) | ((with_reducible refine gate_callee (f := 10) rfl ?_); refine goesL_ (some 139) rfl rfl Try.func10 (by kernel_rfl) rfl #[.int .i64 (wrap64 (a0 + a1)), .slice Ao69 x10_2.length co69, .int .i64 7, .int .i64 1099511627776] rfl (by (try simp only [List.map_toArray, List.map_cons, List.map_nil]); first | done | rfl | (simp only [List.length_drop, List.length_take]; rfl)) ?_; (with_reducible refine (cover_Best.calls (wrap64 (a0 + a1)) _ _ x10_2 7 1099511627776 t351 t352 t353 _ ?side1 ?side2 A63.out).mono ?_); (case side1 => repeat (first | exact (Kd.R_reads' HO_10.out).2.2 | (with_reducible refine Kd.C_alloc ?_ _) | (with_reducible refine Kd.C_drewN ?_ _) | (with_reducible refine Kd.C_drew ?_))); (case side2 => exact (Kd.R_reads' HO_10.out).2.1); rintro e w70 ⟨v354, rfl, ho0, hb⟩; refine ⟨_, rfl, ?_⟩; have n0_ := Aside0.mk (Kd.R_below (by (with_reducible repeat (first | apply Kd.R_alloc | apply Kd.R_drewN | apply Kd.R_drew)); exact HO_8.out) hb); have n1_ := Aside0.mk (Kd.R_below (by (with_reducible repeat (first | apply Kd.R_alloc | apply Kd.R_drewN | apply Kd.R_drew)); exact HO_9.out) hb); have n2_ := Aside0.mk (Kd.R_below (by (with_reducible repeat (first | apply Kd.R_alloc | apply Kd.R_drewN | apply Kd.R_drew)); exact HO_10.out) hb); have n3_ := Aside0.mk (Kd.R_elder' (by (with_reducible repeat (first | apply Kd.R_alloc | apply Kd.R_drewN | apply Kd.R_drew)); exact HO345.out) (Kd.R_base ho0) hb); have n4_ := Aside0.mk (Kd.R_elder' (by (with_reducible repeat (first | apply Kd.R_alloc | apply Kd.R_drewN | apply Kd.R_drew)); exact HO350.out) (Kd.R_base ho0) hb); have n5_ := Aside0.mk (Kd.R_lower (Kd.R_new' (Kd.R_new' ho0 (Kd.R_lt (by (with_reducible repeat (first | apply Kd.R_alloc | apply Kd.R_drewN | apply Kd.R_drew)); exact HO345.out))) (Kd.R_lt (by (with_reducible repeat (first | apply Kd.R_alloc | apply Kd.R_drewN | apply Kd.R_drew)); exact HO350.out))) (below_size (by repeat (first | (with_reducible first | exact HB.out | apply below_alloc | apply pw_below_drewN | apply below_drew1) | exact HB.out)))); have n6_ := Aside0.mk (below_step (by repeat (first | (with_reducible first | exact HB.out | apply below_alloc | apply pw_below_drewN | apply below_drew1) | exact HB.out)) hb); clear HO_8; clear HO_9; clear HO_10; clear HO345; clear HO350; clear HB; have HO_8 := n0_; have HO_9 := n1_; have HO_10 := n2_; have HO345 := n3_; have HO350 := n4_; have HO355 := n5_; have HB := n6_; clear n0_ n1_ n2_ n3_ n4_ n5_ n6_; (try clear hb); (try clear hb2); (try clear hk); (try clear hi); (try clear ho0)))
              (try simp only [Act.put, List.setIfInBounds_toArray, List.set_cons_zero, List.set_cons_succ])
              go_cut [169] (fun v169 wc => ∃ (kq : Nat) (x169_63 : Bool), v169 = .bool x169_63 ∧ Aside0 (scansionlaw19_CoverJoins.j3 kq a0 t341 t346 t351 x169_63 = some r) ∧ Aside0 (kq ≤ k2) ∧ Aside0 (Kd.R (Kd.int .i64) 3 wc w.heap.size (fun k_ => some k_ ≠ (v349 : Value).ownBlock ∧ some k_ ≠ (v354 : Value).ownBlock) v344 t341) ∧ Aside0 (Kd.R (Kd.int .i64) 3 wc w.heap.size (fun k_ => some k_ ≠ (v344 : Value).ownBlock ∧ some k_ ≠ (v354 : Value).ownBlock) v349 t346) ∧ Aside0 (Kd.R (Kd.int .i64) 3 wc w.heap.size (fun k_ => some k_ ≠ (v344 : Value).ownBlock ∧ some k_ ≠ (v349 : Value).ownBlock) v354 t351) ∧ Aside0 (Below w.heap.size w wc))
              case first =>
                have H := HC64.out
                clear HC64
                by_cases c71 : t343 = 0
                · rw [if_pos c71] at H
                  have c71b0 : (t343 == 0) = true := beq_iff_eq.mpr c71
                  have c71b1 : (t343 != 0) = false := bne_eq_false_iff_eq.mpr c71
                  clear c71
                  (first | rw [c71b0] | (simp only [i64_w, i32_w]; rw [c71b0]) | skip)
                  by_cases c72 : t348 = 0
                  · rw [if_pos c72] at H
                    have c72b0 : (t348 == 0) = true := beq_iff_eq.mpr c72
                    have c72b1 : (t348 != 0) = false := bne_eq_false_iff_eq.mpr c72
                    clear c72
                    by_cases c73 : t353 = 0
                    · rw [if_pos c73] at H
                      have c73b0 : (t353 == 0) = true := beq_iff_eq.mpr c73
                      have c73b1 : (t353 != 0) = false := bne_eq_false_iff_eq.mpr c73
                      clear c73
                      by_cases c74 : t352 = (wrap64 (t342 + t347))
                      · rw [if_pos c74] at H
                        have c74b0 : (t352 == (wrap64 (t342 + t347))) = true := beq_iff_eq.mpr c74
                        have c74b1 : (t352 != (wrap64 (t342 + t347))) = false := bne_eq_false_iff_eq.mpr c74
                        clear c74
                        by_cases c75 : (t341.length : Int) = 0
                        · rw [if_pos c75] at H
                          have c75b0 : ((t341.length : Int) == 0) = true := beq_iff_eq.mpr c75
                          have c75b1 : ((t341.length : Int) != 0) = false := bne_eq_false_iff_eq.mpr c75
                          clear c75
                          have H' := Aside0.mk H
                          clear H
                          obtain ⟨Ao76, co76, eo76⟩ := Kd.R_slice HO345.out
                          subst eo76
                          go_wp2
                          go_meet
                          case rel => exact ⟨_, (true), (by first | rfl | (simp; done) | (simp [*]; done)), H', ⟨by have := HJ4.out; have := HK2.out; first | omega | exact Nat.le_refl _⟩, ⟨by (with_reducible repeat (first | apply Kd.R_alloc | apply Kd.R_drewN | apply Kd.R_drew)); exact Kd.R_mono HO345.out (fun _ hk => ⟨hk.1.2, hk.2⟩)⟩, ⟨by (with_reducible repeat (first | apply Kd.R_alloc | apply Kd.R_drewN | apply Kd.R_drew)); exact Kd.R_mono HO350.out (fun _ hk => ⟨hk.1.2, hk.2⟩)⟩, ⟨by (with_reducible repeat (first | apply Kd.R_alloc | apply Kd.R_drewN | apply Kd.R_drew)); exact Kd.R_mono HO355.out (fun _ hk => ⟨hk.1.2, hk.2⟩)⟩, ⟨by repeat (first | (with_reducible first | exact HB.out | apply below_alloc | apply pw_below_drewN | apply below_drew1) | exact HB.out)⟩⟩
                        · rw [if_neg c75] at H
                          have c75b0 : ((t341.length : Int) == 0) = false := beq_eq_false_iff_ne.mpr c75
                          have c75b1 : ((t341.length : Int) != 0) = true := bne_iff_ne.mpr c75
                          have c75b2 : ¬ (t341 = []) := fun h_ => c75 (by rw [h_]; rfl)
                          have H' := Aside0.mk H
                          clear H
                          obtain ⟨Ao77, co77, eo77⟩ := Kd.R_slice HO345.out
                          subst eo77
                          obtain ⟨Ao78, co78, eo78⟩ := Kd.R_slice HO350.out
                          subst eo78
                          go_wp2
                          go_meet
                          case rel => exact ⟨_, (((t346.length : Int) == 0)), (by first | rfl | (simp; done) | (simp [*]; done)), H', ⟨by have := HJ4.out; have := HK2.out; first | omega | exact Nat.le_refl _⟩, ⟨by (with_reducible repeat (first | apply Kd.R_alloc | apply Kd.R_drewN | apply Kd.R_drew)); exact Kd.R_mono HO345.out (fun _ hk => ⟨hk.1.2, hk.2⟩)⟩, ⟨by (with_reducible repeat (first | apply Kd.R_alloc | apply Kd.R_drewN | apply Kd.R_drew)); exact Kd.R_mono HO350.out (fun _ hk => ⟨hk.1.2, hk.2⟩)⟩, ⟨by (with_reducible repeat (first | apply Kd.R_alloc | apply Kd.R_drewN | apply Kd.R_drew)); exact Kd.R_mono HO355.out (fun _ hk => ⟨hk.1.2, hk.2⟩)⟩, ⟨by repeat (first | (with_reducible first | exact HB.out | apply below_alloc | apply pw_below_drewN | apply below_drew1) | exact HB.out)⟩⟩
                      · rw [if_neg c74] at H
                        have c74b0 : (t352 == (wrap64 (t342 + t347))) = false := beq_eq_false_iff_ne.mpr c74
                        have c74b1 : (t352 != (wrap64 (t342 + t347))) = true := bne_iff_ne.mpr c74
                        have H' := Aside0.mk H
                        clear H
                        go_wp2
                        go_meet
                        case rel => exact ⟨_, (true), (by first | rfl | (simp; done) | (simp [*]; done)), H', ⟨by have := HJ4.out; have := HK2.out; first | omega | exact Nat.le_refl _⟩, ⟨by (with_reducible repeat (first | apply Kd.R_alloc | apply Kd.R_drewN | apply Kd.R_drew)); exact Kd.R_mono HO345.out (fun _ hk => ⟨hk.1.2, hk.2⟩)⟩, ⟨by (with_reducible repeat (first | apply Kd.R_alloc | apply Kd.R_drewN | apply Kd.R_drew)); exact Kd.R_mono HO350.out (fun _ hk => ⟨hk.1.2, hk.2⟩)⟩, ⟨by (with_reducible repeat (first | apply Kd.R_alloc | apply Kd.R_drewN | apply Kd.R_drew)); exact Kd.R_mono HO355.out (fun _ hk => ⟨hk.1.2, hk.2⟩)⟩, ⟨by repeat (first | (with_reducible first | exact HB.out | apply below_alloc | apply pw_below_drewN | apply below_drew1) | exact HB.out)⟩⟩
                    · rw [if_neg c73] at H
                      have c73b0 : (t353 == 0) = false := beq_eq_false_iff_ne.mpr c73
                      have c73b1 : (t353 != 0) = true := bne_iff_ne.mpr c73
                      have H' := Aside0.mk H
                      clear H
                      go_wp2
                      go_meet
                      case rel => exact ⟨_, (true), (by first | rfl | (simp; done) | (simp [*]; done)), H', ⟨by have := HJ4.out; have := HK2.out; first | omega | exact Nat.le_refl _⟩, ⟨by (with_reducible repeat (first | apply Kd.R_alloc | apply Kd.R_drewN | apply Kd.R_drew)); exact Kd.R_mono HO345.out (fun _ hk => ⟨hk.1.2, hk.2⟩)⟩, ⟨by (with_reducible repeat (first | apply Kd.R_alloc | apply Kd.R_drewN | apply Kd.R_drew)); exact Kd.R_mono HO350.out (fun _ hk => ⟨hk.1.2, hk.2⟩)⟩, ⟨by (with_reducible repeat (first | apply Kd.R_alloc | apply Kd.R_drewN | apply Kd.R_drew)); exact Kd.R_mono HO355.out (fun _ hk => ⟨hk.1.2, hk.2⟩)⟩, ⟨by repeat (first | (with_reducible first | exact HB.out | apply below_alloc | apply pw_below_drewN | apply below_drew1) | exact HB.out)⟩⟩
                  · rw [if_neg c72] at H
                    have c72b0 : (t348 == 0) = false := beq_eq_false_iff_ne.mpr c72
                    have c72b1 : (t348 != 0) = true := bne_iff_ne.mpr c72
                    have H' := Aside0.mk H
                    clear H
                    go_wp2
                    go_meet
                    case rel => exact ⟨_, (true), (by first | rfl | (simp; done) | (simp [*]; done)), H', ⟨by have := HJ4.out; have := HK2.out; first | omega | exact Nat.le_refl _⟩, ⟨by (with_reducible repeat (first | apply Kd.R_alloc | apply Kd.R_drewN | apply Kd.R_drew)); exact Kd.R_mono HO345.out (fun _ hk => ⟨hk.1.2, hk.2⟩)⟩, ⟨by (with_reducible repeat (first | apply Kd.R_alloc | apply Kd.R_drewN | apply Kd.R_drew)); exact Kd.R_mono HO350.out (fun _ hk => ⟨hk.1.2, hk.2⟩)⟩, ⟨by (with_reducible repeat (first | apply Kd.R_alloc | apply Kd.R_drewN | apply Kd.R_drew)); exact Kd.R_mono HO355.out (fun _ hk => ⟨hk.1.2, hk.2⟩)⟩, ⟨by repeat (first | (with_reducible first | exact HB.out | apply below_alloc | apply pw_below_drewN | apply below_drew1) | exact HB.out)⟩⟩
                · rw [if_neg c71] at H
                  have c71b0 : (t343 == 0) = false := beq_eq_false_iff_ne.mpr c71
                  have c71b1 : (t343 != 0) = true := bne_iff_ne.mpr c71
                  (first | rw [c71b0] | (simp only [i64_w, i32_w]; rw [c71b0]) | skip)
                  have H' := Aside0.mk H
                  clear H
                  go_wp2
                  go_meet
                  case rel => exact ⟨_, (true), (by first | rfl | (simp; done) | (simp [*]; done)), H', ⟨by have := HJ4.out; have := HK2.out; first | omega | exact Nat.le_refl _⟩, ⟨by (with_reducible repeat (first | apply Kd.R_alloc | apply Kd.R_drewN | apply Kd.R_drew)); exact Kd.R_mono HO345.out (fun _ hk => ⟨hk.1.2, hk.2⟩)⟩, ⟨by (with_reducible repeat (first | apply Kd.R_alloc | apply Kd.R_drewN | apply Kd.R_drew)); exact Kd.R_mono HO350.out (fun _ hk => ⟨hk.1.2, hk.2⟩)⟩, ⟨by (with_reducible repeat (first | apply Kd.R_alloc | apply Kd.R_drewN | apply Kd.R_drew)); exact Kd.R_mono HO355.out (fun _ hk => ⟨hk.1.2, hk.2⟩)⟩, ⟨by repeat (first | (with_reducible first | exact HB.out | apply below_alloc | apply pw_below_drewN | apply below_drew1) | exact HB.out)⟩⟩
              case rest =>
                clear HC64
                try clear c1
                try clear c2
                try clear p2
                try clear c3
                try clear p3
                try clear q3
                try clear hx3
                try clear c5
                try clear p6
                try clear c7
                try clear c8
                try clear c8b0
                try clear c9
                try clear c9b0
                try clear c10
                try clear c10b0
                try clear c11
                try clear c11b0
                try clear c12
                try clear c13
                try clear c13b0
                try clear c14
                try clear c14b0
                try clear c18
                try clear c18b0
                try clear c20
                try clear c20b0
                try clear c22
                try clear c22b0
                try clear c25
                try clear c26
                try clear c26b0
                try clear c27
                try clear c28
                try clear c29
                try clear c29b0
                try clear c30
                try clear c30b0
                try clear c31
                try clear c32
                try clear p32
                try clear q32
                try clear hx32
                try clear c51
                try clear c51b0
                try clear c52
                try clear c52b0
                try clear c53
                try clear c54
                try clear p64
                try clear c71
                try clear c71b0
                try clear c71b1
                try clear c72
                try clear c72b0
                try clear c72b1
                try clear c73
                try clear c73b0
                try clear c73b1
                try clear c74
                try clear c74b0
                try clear c74b1
                try clear c75
                try clear c75b0
                try clear c75b1
                try clear c75b2
                try clear hcz17_0
                try clear hcz17_1
                try clear hcz17_2
                try clear hcz19_0
                try clear hcz19_1
                try clear hcz19_2
                try clear hcz21_0
                try clear hcz21_1
                try clear hcz21_2
                try clear hcz23_0
                try clear hcz23_1
                try clear hcz23_2
                try clear hcz24_0
                try clear hcz24_1
                try clear hcz24_2
                try clear hcz33_0
                try clear hcz33_1
                try clear hcz33_2
                try clear hcz35_0
                try clear hcz35_1
                try clear hcz35_2
                try clear hcz37_0
                try clear hcz37_1
                try clear hcz37_2
                try clear hcz39_0
                try clear hcz39_1
                try clear hcz39_2
                try clear hcz41_0
                try clear hcz41_1
                try clear hcz41_2
                try clear hcz43_0
                try clear hcz43_1
                try clear hcz43_2
                try clear hcz45_0
                try clear hcz45_1
                try clear hcz45_2
                try clear hcz46_0
                try clear hcz46_1
                try clear hcz46_2
                try clear hcz48_0
                try clear hcz48_1
                try clear hcz48_2
                try clear hcz50_0
                try clear hcz50_1
                try clear hcz50_2
                try clear hcz55_0
                try clear hcz55_1
                try clear hcz55_2
                try clear hcz57_0
                try clear hcz57_1
                try clear hcz57_2
                try clear hcz59_0
                try clear hcz59_1
                try clear hcz59_2
                try clear hcz60_0
                try clear hcz60_1
                try clear hcz60_2
                try clear hfz17_0
                try clear hfz17_1
                try clear hfz17_2
                try clear hfz19_0
                try clear hfz19_1
                try clear hfz19_2
                try clear hfz21_0
                try clear hfz21_1
                try clear hfz21_2
                try clear hfz23_0
                try clear hfz23_1
                try clear hfz23_2
                try clear hfz24_0
                try clear hfz24_1
                try clear hfz24_2
                try clear hfz33_0
                try clear hfz33_1
                try clear hfz33_2
                try clear hfz35_0
                try clear hfz35_1
                try clear hfz35_2
                try clear hfz37_0
                try clear hfz37_1
                try clear hfz37_2
                try clear hfz39_0
                try clear hfz39_1
                try clear hfz39_2
                try clear hfz41_0
                try clear hfz41_1
                try clear hfz41_2
                try clear hfz43_0
                try clear hfz43_1
                try clear hfz43_2
                try clear hfz45_0
                try clear hfz45_1
                try clear hfz45_2
                try clear hfz46_0
                try clear hfz46_1
                try clear hfz46_2
                try clear hfz48_0
                try clear hfz48_1
                try clear hfz48_2
                try clear hfz50_0
                try clear hfz50_1
                try clear hfz50_2
                try clear hfz55_0
                try clear hfz55_1
                try clear hfz55_2
                try clear hfz57_0
                try clear hfz57_1
                try clear hfz57_2
                try clear hfz59_0
                try clear hfz59_1
                try clear hfz59_2
                try clear hfz60_0
                try clear hfz60_1
                try clear hfz60_2
                try clear hx321_0
                try clear hx321_1
                try clear hx321_2
                try clear p2
                try clear p3
                try clear p321
                try clear q3
                try clear q321
                obtain ⟨kq, x169_63, rfl, HA, HJ63, HO_13, HO_16, HO_19, HB⟩ := hcut
                cases kq with
                | zero => exact absurd HA.out (by simp [scansionlaw19_CoverJoins.j3])
                | succ kj63 =>
                  have H := HA.out
                  clear HA
                  simp only [scansionlaw19_CoverJoins.j3] at H
                  by_cases c79 : x169_63 = true
                  · subst c79
                    have H1 : (some false) = some r := by rw [if_pos rfl] at H; exact H
                    clear H
                    have H := H1
                    clear H1
                    obtain rfl := Option.some.inj H
                    go_wp2
                    go_ret
                    exact ⟨by first | rfl | (simp [errW_none, errW_some] <;> rfl) | (simp [*, errW_none, errW_some] <;> rfl), by repeat (first | (with_reducible first | exact HB.out | apply below_alloc | apply pw_below_drewN | apply below_drew1) | exact HB.out)⟩
                  · replace c79 := Bool.eq_false_iff.mpr c79
                    subst c79
                    have H1 : (scansionlaw19_CoverJoins.l1 kj63 a0 t341 t346 t351 1) = some r := by rw [if_neg (show ¬ (false = true) by decide)] at H; exact H
                    clear H
                    have H := H1
                    clear H1
                    have H' := Aside0.mk H
                    clear H
                    go_wp2
                    go_loopg [13, 22] kj63 (fun kq v13 v22 w' => ∃ (x13_4 : List Int) (x22_4 : Int), v22 = .int .i64 x22_4 ∧ Aside0 (scansionlaw19_CoverJoins.l1 kq a0 x13_4 t346 t351 x22_4 = some r) ∧ Aside0 (kq ≤ kj63) ∧ Aside0 (Kd.R (Kd.int .i64) 3 w' w.heap.size (fun k_ => some k_ ≠ (v349 : Value).ownBlock ∧ some k_ ≠ (v354 : Value).ownBlock) v13 x13_4) ∧ Aside0 (Kd.R (Kd.int .i64) 3 w' w.heap.size (fun k_ => some k_ ≠ (v13 : Value).ownBlock ∧ some k_ ≠ (v354 : Value).ownBlock) v349 t346) ∧ Aside0 (Kd.R (Kd.int .i64) 3 w' w.heap.size (fun k_ => some k_ ≠ (v13 : Value).ownBlock ∧ some k_ ≠ (v349 : Value).ownBlock) v354 t351) ∧ Aside0 (Below w.heap.size w w'))
                    case atStart => exact ⟨(t341), (1), (by first | rfl | (simp; done) | (simp [*]; done)), H', ⟨Nat.le_refl _⟩, ⟨by (with_reducible repeat (first | apply Kd.R_alloc | apply Kd.R_drewN | apply Kd.R_drew)); exact HO_13.out⟩, ⟨by (with_reducible repeat (first | apply Kd.R_alloc | apply Kd.R_drewN | apply Kd.R_drew)); exact HO_16.out⟩, ⟨by (with_reducible repeat (first | apply Kd.R_alloc | apply Kd.R_drewN | apply Kd.R_drew)); exact HO_19.out⟩, ⟨by repeat (first | (with_reducible first | exact HB.out | apply below_alloc | apply pw_below_drewN | apply below_drew1) | exact HB.out)⟩⟩
                    case round =>
                      clear H'
                      try clear c1
                      try clear c2
                      try clear p2
                      try clear c3
                      try clear p3
                      try clear q3
                      try clear hx3
                      try clear c5
                      try clear p6
                      try clear c7
                      try clear c8
                      try clear c8b0
                      try clear c9
                      try clear c9b0
                      try clear c10
                      try clear c10b0
                      try clear c11
                      try clear c11b0
                      try clear c12
                      try clear c13
                      try clear c13b0
                      try clear c14
                      try clear c14b0
                      try clear c18
                      try clear c18b0
                      try clear c20
                      try clear c20b0
                      try clear c22
                      try clear c22b0
                      try clear c25
                      try clear c26
                      try clear c26b0
                      try clear c27
                      try clear c28
                      try clear c29
                      try clear c29b0
                      try clear c30
                      try clear c30b0
                      try clear c31
                      try clear c32
                      try clear p32
                      try clear q32
                      try clear hx32
                      try clear c51
                      try clear c51b0
                      try clear c52
                      try clear c52b0
                      try clear c53
                      try clear c54
                      try clear p64
                      try clear c71
                      try clear c71b0
                      try clear c71b1
                      try clear c72
                      try clear c72b0
                      try clear c72b1
                      try clear c73
                      try clear c73b0
                      try clear c73b1
                      try clear c74
                      try clear c74b0
                      try clear c74b1
                      try clear c75
                      try clear c75b0
                      try clear c75b1
                      try clear c75b2
                      try clear c79
                      try clear hcz17_0
                      try clear hcz17_1
                      try clear hcz17_2
                      try clear hcz19_0
                      try clear hcz19_1
                      try clear hcz19_2
                      try clear hcz21_0
                      try clear hcz21_1
                      try clear hcz21_2
                      try clear hcz23_0
                      try clear hcz23_1
                      try clear hcz23_2
                      try clear hcz24_0
                      try clear hcz24_1
                      try clear hcz24_2
                      try clear hcz33_0
                      try clear hcz33_1
                      try clear hcz33_2
                      try clear hcz35_0
                      try clear hcz35_1
                      try clear hcz35_2
                      try clear hcz37_0
                      try clear hcz37_1
                      try clear hcz37_2
                      try clear hcz39_0
                      try clear hcz39_1
                      try clear hcz39_2
                      try clear hcz41_0
                      try clear hcz41_1
                      try clear hcz41_2
                      try clear hcz43_0
                      try clear hcz43_1
                      try clear hcz43_2
                      try clear hcz45_0
                      try clear hcz45_1
                      try clear hcz45_2
                      try clear hcz46_0
                      try clear hcz46_1
                      try clear hcz46_2
                      try clear hcz48_0
                      try clear hcz48_1
                      try clear hcz48_2
                      try clear hcz50_0
                      try clear hcz50_1
                      try clear hcz50_2
                      try clear hcz55_0
                      try clear hcz55_1
                      try clear hcz55_2
                      try clear hcz57_0
                      try clear hcz57_1
                      try clear hcz57_2
                      try clear hcz59_0
                      try clear hcz59_1
                      try clear hcz59_2
                      try clear hcz60_0
                      try clear hcz60_1
                      try clear hcz60_2
                      try clear hfz17_0
                      try clear hfz17_1
                      try clear hfz17_2
                      try clear hfz19_0
                      try clear hfz19_1
                      try clear hfz19_2
                      try clear hfz21_0
                      try clear hfz21_1
                      try clear hfz21_2
                      try clear hfz23_0
                      try clear hfz23_1
                      try clear hfz23_2
                      try clear hfz24_0
                      try clear hfz24_1
                      try clear hfz24_2
                      try clear hfz33_0
                      try clear hfz33_1
                      try clear hfz33_2
                      try clear hfz35_0
                      try clear hfz35_1
                      try clear hfz35_2
                      try clear hfz37_0
                      try clear hfz37_1
                      try clear hfz37_2
                      try clear hfz39_0
                      try clear hfz39_1
                      try clear hfz39_2
                      try clear hfz41_0
                      try clear hfz41_1
                      try clear hfz41_2
                      try clear hfz43_0
                      try clear hfz43_1
                      try clear hfz43_2
                      try clear hfz45_0
                      try clear hfz45_1
                      try clear hfz45_2
                      try clear hfz46_0
                      try clear hfz46_1
                      try clear hfz46_2
                      try clear hfz48_0
                      try clear hfz48_1
                      try clear hfz48_2
                      try clear hfz50_0
                      try clear hfz50_1
                      try clear hfz50_2
                      try clear hfz55_0
                      try clear hfz55_1
                      try clear hfz55_2
                      try clear hfz57_0
                      try clear hfz57_1
                      try clear hfz57_2
                      try clear hfz59_0
                      try clear hfz59_1
                      try clear hfz59_2
                      try clear hfz60_0
                      try clear hfz60_1
                      try clear hfz60_2
                      try clear hx321_0
                      try clear hx321_1
                      try clear hx321_2
                      try clear p2
                      try clear p3
                      try clear p32
                      try clear p321
                      try clear p6
                      try clear p64
                      try clear q3
                      try clear q32
                      try clear q321
                      obtain ⟨x13_4, x22_4, rfl, HA, HK4, HO_13, HO_16, HO_19, HB⟩ := hrel
                      cases gk with
                      | zero => exact absurd HA.out (by simp [scansionlaw19_CoverJoins.l1])
                      | succ k4 =>
                        have H := HA.out
                        clear HA
                        simp only [scansionlaw19_CoverJoins.l1] at H
                        by_cases c80 : x22_4 < (t346.length : Int)
                        · rw [if_pos c80] at H
                          have c80b0 : decide (x22_4 < (t346.length : Int)) = true := decide_eq_true c80
                          clear c80
                          by_cases c81 : 0 ≤ x22_4
                          · rw [if_pos c81] at H
                            have c81b0 : decide (0 ≤ x22_4) = true := decide_eq_true c81
                            clear c81
                            by_cases c82 : x13_4.length < 17592186044416
                            · rw [if_pos c82] at H
                              have LMc82 := Aside0.mk c82
                              clear c82
                              obtain ⟨y357, hy357⟩ : ∃ y_ : List Int, y_ = (x13_4 ++ [wrap64 (a0 + (rd t346 x22_4))]) := ⟨_, rfl⟩
                              replace H : (scansionlaw19_CoverJoins.l1 k4 a0 y357 t346 t351 (wrap64 (x22_4 + 1))) = some r := by first | (rw [hy357]; with_reducible exact H) | (have H2_ := (Option.bind_some _ _).symm.trans H; rw [hy357]; with_reducible exact H2_) | (have H2_ := (Option.bind_some _ _).symm.trans H; with_reducible exact H2_) | with_reducible exact H | (rw [hy357]; exact H) | exact H
                              have Ny357 := Aside0.mk hy357
                              clear hy357
                              have H' := Aside0.mk H
                              clear H
                              obtain ⟨Ao83, co83, eo83⟩ := Kd.R_slice HO_16.out
                              subst eo83
                              have p356 : 0 ≤ (x22_4 : Int) := of_decide_eq_true (by first | (with_reducible assumption) | assumption)
                              have q356 : x22_4 < (t346.length : Int) := of_decide_eq_true (by first | (with_reducible assumption) | assumption)
                              obtain ⟨ad356, e356, hx356_0⟩ := Kd.at_int (Kd.R_reads' HO_16.out).2.2 x22_4 p356 q356
                              cases e356
                              replace p356 := eq_true p356
                              replace q356 := eq_true q356
                              go_wp2_with (first | ((with_reducible refine gate_builtin (b := .append) (xs := #[.tmp 176, .tmp 183]) rfl ?_); (try (refine gate_guard (by rfl) ?_; dsimp only)); at_builtin; refine Kd.R_append (Kd.int .i64) (w0 := w) w.heap.size rfl (.tmp 176) (.tmp 183) 25 3 (.int .i64 0) 8 rfl Try.underlying25 info3 rfl (by decide) (by omega) u13 x13_4 (wrap64 (a0 + (rd t346 x22_4))) [.int .i64 (wrap64 (a0 + (rd t346 x22_4)))] (fun k_ => some k_ ≠ (.slice (some ad356) t346.length co83 : Value).ownBlock ∧ some k_ ≠ (v354 : Value).ownBlock) (fun _ => False) rfl rfl ?aP (fun _ hk => hk.elim) ?aF ?aO ?aB ?aS ?aL ?_; (case aP => exact rfl); (case aB => exact (by repeat (first | (with_reducible first | exact HB.out | apply below_alloc | apply pw_below_drewN | apply below_drew1) | exact HB.out))); (case aF => exact (fun k_ hk => ⟨Kd.fresh' (Kd.R_lt (by (with_reducible repeat (first | apply Kd.R_alloc | apply Kd.R_drewN | apply Kd.R_drew)); exact HO_16.out)) k_ hk, Kd.fresh' (Kd.R_lt (by (with_reducible repeat (first | apply Kd.R_alloc | apply Kd.R_drewN | apply Kd.R_drew)); exact HO_19.out)) k_ hk⟩)); (case aO => exact (by (with_reducible repeat (first | apply Kd.R_alloc | apply Kd.R_drewN | apply Kd.R_drew)); exact HO_13.out)); (case aS => exact (below_size (by repeat (first | (with_reducible first | exact HB.out | apply below_alloc | apply pw_below_drewN | apply below_drew1) | exact HB.out)))); (case aL => have := LMc82.out; omega); intro v358 w84 ho hb hg hat; rw [← Ny357.out] at ho; have n0_ := Aside0.mk (Kd.R_after (ok := (fun k_ => some k_ ≠ (v354 : Value).ownBlock)) (by (with_reducible repeat (first | apply Kd.R_alloc | apply Kd.R_drewN | apply Kd.R_drew)); exact Kd.R_mono HO_16.out (fun _ hk => ⟨hk.2, hk.1⟩)) hg hat); have n1_ := Aside0.mk (Kd.R_after (ok := (fun k_ => some k_ ≠ (.slice (some ad356) t346.length co83 : Value).ownBlock)) (by (with_reducible repeat (first | apply Kd.R_alloc | apply Kd.R_drewN | apply Kd.R_drew)); exact Kd.R_mono HO_19.out (fun _ hk => ⟨hk.2, hk.1⟩)) hg hat); have n2_ := Aside0.mk (hb); have n3_ := Aside0.mk (ho); clear HO_16; clear HO_19; clear HB; clear HO_13; have HO_16 := n0_; have HO_19 := n1_; have HB := n2_; have HO359 := n3_; clear n0_ n1_ n2_ n3_; clear ho hb hg hat))
                              go_roundg k4
                              case measure => have := HJ4.out; have := HK2.out; have := HJ63.out; have := HK4.out; omega
                              case rel => exact ⟨(y357), (wrap64 (x22_4 + 1)), (by first | rfl | (simp; done) | (simp [*]; done)), H', ⟨by have := HJ4.out; have := HK2.out; have := HJ63.out; have := HK4.out; omega⟩, ⟨by (with_reducible repeat (first | apply Kd.R_alloc | apply Kd.R_drewN | apply Kd.R_drew)); exact HO359.out⟩, ⟨by (with_reducible repeat (first | apply Kd.R_alloc | apply Kd.R_drewN | apply Kd.R_drew)); exact Kd.R_mono HO_16.out (fun _ hk => ⟨hk.2, hk.1⟩)⟩, ⟨by (with_reducible repeat (first | apply Kd.R_alloc | apply Kd.R_drewN | apply Kd.R_drew)); exact Kd.R_mono HO_19.out (fun _ hk => ⟨hk.2, hk.1⟩)⟩, ⟨by repeat (first | (with_reducible first | exact HB.out | apply below_alloc | apply pw_below_drewN | apply below_drew1) | exact HB.out)⟩⟩
                            · rw [if_neg c82] at H
                              exact absurd H (by simp)
                          · rw [if_neg c81] at H
                            exact absurd H (by simp)
                        · rw [if_neg c80] at H
                          have c80b0 : decide (x22_4 < (t346.length : Int)) = false := decide_eq_false c80
                          clear c80
                          replace H := Option.bind_eq_some_iff.mp H
                          obtain ⟨t360, A850, H⟩ := H
                          replace H : (some t360) = some r := H
                          have A85 := Aside0.mk A850
                          clear A850
                          obtain rfl := Option.some.inj H
                          obtain ⟨Ao86, co86, eo86⟩ := Kd.R_slice HO_16.out
                          subst eo86
                          obtain ⟨Ao87, co87, eo87⟩ := Kd.R_slice HO_19.out
                          subst eo87
                          obtain ⟨Ao88, co88, eo88⟩ := Kd.R_slice HO_13.out
                          subst eo88
                          go_wp2_with (first | ((with_reducible refine gate_callee (f := 12) rfl ?_); refine goesL_ (some 187) rfl rfl Try.func12 (by kernel_rfl) rfl #[.slice Ao87 t351.length co87, .slice Ao88 x13_4.length co88] rfl (by (try simp only [List.map_toArray, List.map_cons, List.map_nil]); first | done | rfl | (simp only [List.length_drop, List.length_take]; rfl)) ?_; (with_reducible refine (scansionref01_SameInts.calls k4 _ _ t351 _ _ x13_4 t360 _ ?side1 ?side2 ?side3 ?side4 A85.out).mono ?_); (case side1 => repeat (first | exact (Kd.R_reads' HO_19.out).2.2 | (with_reducible refine Kd.C_alloc ?_ _) | (with_reducible refine Kd.C_drewN ?_ _) | (with_reducible refine Kd.C_drew ?_))); (case side2 => exact (Kd.R_reads' HO_19.out).2.1); (case side3 => repeat (first | exact (Kd.R_reads' HO_13.out).2.2 | (with_reducible refine Kd.C_alloc ?_ _) | (with_reducible refine Kd.C_drewN ?_ _) | (with_reducible refine Kd.C_drew ?_))); (case side4 => exact (Kd.R_reads' HO_13.out).2.1); rintro e w' ⟨rfl, ⟨nd, rfl⟩⟩; refine ⟨_, rfl, ?_⟩))
                          go_ret
                          exact ⟨by first | rfl | (simp [errW_none, errW_some] <;> rfl) | (simp [*, errW_none, errW_some] <;> rfl), by repeat (first | (with_reducible first | exact HB.out | apply below_alloc | apply pw_below_drewN | apply below_drew1) | exact HB.out)⟩

end Go.Proofs.Ytckpjppbkfcaaaa.Print
