/- Plain law: the reference of chapter 12 builds the same states. -/
import Derived.Test.YtemlgmkbonpniaaPrint0
import Derived.Test.YtemlgmkbonpniaaPrint16
import Derived.Test.YtemlgmkbonpniaaPrint36
import Derived.Test.YtemlgmkbonpniaaPrint39
import Derived.Test.YtemlgmkbonpniaaSBS
import Derived.Test.YtemlgmkbonpniaaFStepL
-- Written by a program of this session (wip/sp.py) out of the translation.
namespace Go.Proofs.Ytemlgmkbonpniaa.Print
open Go.RowKit Go.Proofs.YtemlgmkbonpniaaW.PrintWords Go.Proofs.YtemlgmkbonpniaaW.PrintLast Go.Proofs.YtemlgmkbonpniaaW.PrintMore
attribute [local go_sem] max2_int min2_int max_two min_two max_three min_three max_four min_four   -- for this text's walks alone
set_option linter.unusedVariables false
set_option linter.unusedSimpArgs false

/-! ### scansionref12_find: function 63 -/
def scansionref12_find.l0 : Nat → List (List Int) → List Int → Int → Option (Int)
 | 0, _, _, _ => none
 | k + 1, x0, x1, x5 => if x5 < (x0.length : Int) then (if 0 ≤ x5 then ((scansionref01_SameInts.f k (rd_L3 x0 x5) x1).bind fun t666 => (if t666 = true then (some x5) else (scansionref12_find.l0 k x0 x1 (wrap64 (x5 + 1))))) else (none)) else (some (-1))
def scansionref12_find.f (k : Nat) (l0 : List (List Int)) (l1 : List Int) : Option (Int) := scansionref12_find.l0 k l0 l1 0
theorem scansionref12_find.mono_l : ∀ k, (∀ y0 y1 y2, LeO (scansionref12_find.l0 k y0 y1 y2) (scansionref12_find.l0 (k + 1) y0 y1 y2))
 | 0 => fun _ _ _ r h => by simp [scansionref12_find.l0] at h
 | k + 1 => by
  have ih0 := scansionref12_find.mono_l k
  ·intro y0 y1 y2
   unfold scansionref12_find.l0
   repeat' first
   | (with_reducible exact ih0 _ _ _)
   | (with_reducible exact scansionref01_SameInts.mono _ _ _)
   | (with_reducible exact LeO.refl _)
   | (with_reducible exact LeO.none _)
   | (with_reducible refine LeO.ite ?_ ?_)
   | (with_reducible refine LeO.bind ?_ (fun _ => ?_))
   | exact ih0 _ _ _
   | exact scansionref01_SameInts.mono _ _ _
   | exact LeO.none _
   | refine LeO.ite ?_ ?_
   | refine LeO.bind ?_ (fun _ => ?_)
theorem scansionref12_find.mono : ∀ a0 a1 k, LeO (scansionref12_find.f k a0 a1) (scansionref12_find.f (k + 1) a0 a1) := by
 intro a0 a1 k
 have ih0 := scansionref12_find.mono_l k
 unfold scansionref12_find.f
 repeat' first
   | (with_reducible exact ih0 _ _ _)
   | (with_reducible exact scansionref01_SameInts.mono _ _ _)
   | (with_reducible exact LeO.refl _)
   | (with_reducible exact LeO.none _)
   | (with_reducible refine LeO.ite ?_ ?_)
   | (with_reducible refine LeO.bind ?_ (fun _ => ?_))
   | exact ih0 _ _ _
   | exact scansionref01_SameInts.mono _ _ _
   | exact LeO.none _
   | refine LeO.ite ?_ ?_
   | refine LeO.bind ?_ (fun _ => ?_)
set_option maxHeartbeats 8000000 in
set_option maxRecDepth 100000 in
theorem scansionref12_find.calls (k : Nat) (A0 : Option Addr) (c0 : Nat) (l0 : List (List Int)) (A1 : Option Addr) (c1 : Nat) (l1 : List Int) (r : Int) (w : World) (hr0 : Kd.C (Kd.slice 3 (Kd.int .i64)) w A0 l0.length l0) (hc0 : l0.length ≤ c0) (hr1 : Kd.C (Kd.int .i64) w A1 l1.length l1) (hc1 : l1.length ≤ c1) (h : scansionref12_find.f k l0 l1 = some r) :
  Calls Try.prog 63 #[.slice A0 l0.length c0, .slice A1 l1.length c1] w fun e w' => e = .returned (.int .i64 r) ∧ Drawn0 w w' := by
 have HR0 := Aside0.mk hr0
 have HC0 := Aside0.mk hc0
 clear hr0 hc0
 have HR1 := Aside0.mk hr1
 have HC1 := Aside0.mk hc1
 clear hr1 hc1
 have H : (scansionref12_find.l0 k l0 l1 0) = some r := h
 clear h
 have H' := Aside0.mk H
 clear H
 go_enter Try.func63, Try.ntmps63
 go_wp2
 go_loopg [5] k (fun kq v5 w' => ∃ (x5_1 : Int), v5 = .int .i64 x5_1 ∧ Aside0 (scansionref12_find.l0 kq l0 l1 x5_1 = some r) ∧ Aside0 (kq ≤ k) ∧ Drawn0 w w')
 case atStart => exact ⟨(0), (by first | rfl | (simp; done) | (simp [*]; done)), H', ⟨Nat.le_refl _⟩, by repeat (first | exact Drawn0.refl _ | apply Drawn0.step)⟩
 case round =>
  clear H'
  try clear c1
  try clear p2
  obtain ⟨x5_1, rfl, HA, HK1, ⟨m1, rfl⟩⟩ := hrel
  cases gk with
  | zero => exact absurd HA.out (by simp [scansionref12_find.l0])
  | succ k1 =>
   have H := HA.out
   clear HA
   simp only [scansionref12_find.l0] at H
   by_cases c3 : x5_1 < (l0.length : Int)
   ·rw [if_pos c3] at H
    have c3b0 : decide (x5_1 < (l0.length : Int)) = true := decide_eq_true c3
    clear c3
    by_cases c4 : 0 ≤ x5_1
    ·rw [if_pos c4] at H
     have c4b0 : decide (0 ≤ x5_1) = true := decide_eq_true c4
     clear c4
     replace H := Option.bind_eq_some_iff.mp H
     obtain ⟨t666, A50, H⟩ := H
     replace H : (if t666 = true then (some x5_1) else (scansionref12_find.l0 k1 l0 l1 (wrap64 (x5_1 + 1)))) = some r := H
     have A5 := Aside0.mk A50
     clear A50
     by_cases c6 : t666 = true
     ·subst c6
      have H1 : (some x5_1) = some r := by rw [if_pos rfl] at H; exact H
      clear H
      have H := H1
      clear H1
      obtain rfl := Option.some.inj H
      have p665 : 0 ≤ (x5_1 : Int) := of_decide_eq_true (by first | (with_reducible assumption) | assumption)
      have q665 : x5_1 < (l0.length : Int) := of_decide_eq_true (by first | (with_reducible assumption) | assumption)
      obtain ⟨ad665, A665_0, c665_0, e665, hx665_0, hl665_0, hi665_0⟩ := at_L3 HR0.out x5_1 p665 q665
      cases e665
      have HR665_0 := Aside0.mk hi665_0
      have HC665_0 := Aside0.mk hl665_0
      clear hi665_0 hl665_0
      replace p665 := eq_true p665
      replace q665 := eq_true q665
      go_wp2_with (first | ((with_reducible refine gate_callee (f := 23) rfl ?_); refine goesL_ (some 18) rfl rfl Try.func23 (by kernel_rfl) rfl #[.slice A665_0 (rd_L3 l0 x5_1).length c665_0, .slice A1 l1.length c1] rfl (by (try simp only [List.map_toArray, List.map_cons, List.map_nil]); first | done | rfl | (simp only [List.length_drop, List.length_take]; rfl)) ?_; (with_reducible refine (scansionref01_SameInts.calls k1 _ _ (rd_L3 l0 x5_1) _ _ l1 true _ ?side1 ?side2 ?side3 ?side4 A5.out).mono ?_); (case side1 => repeat (first | exact HR665_0.out | (with_reducible refine Kd.C_alloc ?_ _) | (with_reducible refine Kd.C_drewN ?_ _) | (with_reducible refine Kd.C_drew ?_))); (case side2 => exact HC665_0.out); (case side3 => repeat (first | exact HR1.out | (with_reducible refine Kd.C_alloc ?_ _) | (with_reducible refine Kd.C_drewN ?_ _) | (with_reducible refine Kd.C_drew ?_))); (case side4 => exact HC1.out); rintro e w' ⟨rfl, ⟨nd, rfl⟩⟩; refine ⟨_, rfl, ?_⟩))
      go_ret
      exact ⟨by first | rfl | (simp; done) | (simp [*]; done), by repeat (first | exact Drawn0.refl _ | apply Drawn0.step)⟩
     ·replace c6 := Bool.eq_false_iff.mpr c6
      subst c6
      have H1 : (scansionref12_find.l0 k1 l0 l1 (wrap64 (x5_1 + 1))) = some r := by rw [if_neg (show ¬ (false = true) by decide)] at H; exact H
      clear H
      have H := H1
      clear H1
      have H' := Aside0.mk H
      clear H
      have p665 : 0 ≤ (x5_1 : Int) := of_decide_eq_true (by first | (with_reducible assumption) | assumption)
      have q665 : x5_1 < (l0.length : Int) := of_decide_eq_true (by first | (with_reducible assumption) | assumption)
      obtain ⟨ad665, A665_0, c665_0, e665, hx665_0, hl665_0, hi665_0⟩ := at_L3 HR0.out x5_1 p665 q665
      cases e665
      have HR665_0 := Aside0.mk hi665_0
      have HC665_0 := Aside0.mk hl665_0
      clear hi665_0 hl665_0
      replace p665 := eq_true p665
      replace q665 := eq_true q665
      go_wp2_with (first | ((with_reducible refine gate_callee (f := 23) rfl ?_); refine goesL_ (some 18) rfl rfl Try.func23 (by kernel_rfl) rfl #[.slice A665_0 (rd_L3 l0 x5_1).length c665_0, .slice A1 l1.length c1] rfl (by (try simp only [List.map_toArray, List.map_cons, List.map_nil]); first | done | rfl | (simp only [List.length_drop, List.length_take]; rfl)) ?_; (with_reducible refine (scansionref01_SameInts.calls k1 _ _ (rd_L3 l0 x5_1) _ _ l1 false _ ?side1 ?side2 ?side3 ?side4 A5.out).mono ?_); (case side1 => repeat (first | exact HR665_0.out | (with_reducible refine Kd.C_alloc ?_ _) | (with_reducible refine Kd.C_drewN ?_ _) | (with_reducible refine Kd.C_drew ?_))); (case side2 => exact HC665_0.out); (case side3 => repeat (first | exact HR1.out | (with_reducible refine Kd.C_alloc ?_ _) | (with_reducible refine Kd.C_drewN ?_ _) | (with_reducible refine Kd.C_drew ?_))); (case side4 => exact HC1.out); rintro e w' ⟨rfl, ⟨nd, rfl⟩⟩; refine ⟨_, rfl, ?_⟩))
      go_roundg k1
      case measure => have := HK1.out; omega
      case rel => exact ⟨(wrap64 (x5_1 + 1)), (by first | rfl | (simp; done) | (simp [*]; done)), H', ⟨by have := HK1.out; omega⟩, by repeat (first | exact Drawn0.refl _ | apply Drawn0.step)⟩
    ·rw [if_neg c4] at H
     exact absurd H (by simp)
   ·rw [if_neg c3] at H
    have c3b0 : decide (x5_1 < (l0.length : Int)) = false := decide_eq_false c3
    clear c3
    obtain rfl := Option.some.inj H
    go_wp2
    go_ret
    exact ⟨by first | rfl | (simp; done) | (simp [*]; done), by repeat (first | exact Drawn0.refl _ | apply Drawn0.step)⟩

end Go.Proofs.Ytemlgmkbonpniaa.Print

-- Written by a program of this session (wip/sp.py) out of the translation.
namespace Go.Proofs.Ytemlgmkbonpniaa.Print
open Go.RowKit Go.Proofs.YtemlgmkbonpniaaW.PrintWords Go.Proofs.YtemlgmkbonpniaaW.PrintLast Go.Proofs.YtemlgmkbonpniaaW.PrintMore
attribute [local go_sem] max2_int min2_int max_two min_two max_three min_three max_four min_four   -- for this text's walks alone
set_option linter.unusedVariables false
set_option linter.unusedSimpArgs false

/-! ### scansionref12_Build: function 33 -/
mutual
def scansionref12_Build.j0 : Nat → List Int → Bool → Int → Bool → Bool → List Int → List Int → List Int → List (List Int) → Option ((List (List Int)) × List Bool × Int)
 | 0, _, _, _, _, _, _, _, _, _ => none
 | k + 1, x1, x2, x3, x32, x668000, x668001, x668002, x668003, x668004 => if x32 = true then (some (([] : List (List Int)), ([] : List Bool), 1)) else (scansionref12_Build.l0 k x1 x2 x3 (([(([0] : List Int))] : List (List Int))) 0 x668000 x668001 x668002 x668003 x668004 ([] : List (List Int)) ([] : List Bool))
def scansionref12_Build.l0 : Nat → List Int → Bool → Int → List (List Int) → Int → Bool → List Int → List Int → List Int → List (List Int) → List (List Int) → List Bool → Option ((List (List Int)) × List Bool × Int)
 | 0, _, _, _, _, _, _, _, _, _, _, _, _ => none
 | k + 1, x1, x2, x3, x10, x12, x668000, x668001, x668002, x668003, x668004, x676000, x676001 => if x12 < (x10.length : Int) then (scansionref12_Build.l1 k x1 x2 x3 x10 x12 ([] : List Int) 0 x668000 x668001 x668002 x668003 x668004 x676000 x676001) else (some (x676000, x676001, 0))
def scansionref12_Build.l1 : Nat → List Int → Bool → Int → List (List Int) → Int → List Int → Int → Bool → List Int → List Int → List Int → List (List Int) → List (List Int) → List Bool → Option ((List (List Int)) × List Bool × Int)
 | 0, _, _, _, _, _, _, _, _, _, _, _, _, _, _ => none
 | k + 1, x1, x2, x3, x10, x12, x13, x14, x668000, x668001, x668002, x668003, x668004, x676000, x676001 => if x14 < (x1.length : Int) then (if 0 ≤ x12 then (if x12 < (x10.length : Int) then (if 0 ≤ x14 then ((scansionref11_Step.f k x668000 x668001 x668002 x668003 x668004 (rd_L3 x10 x12) (rd x1 x14)).bind fun t686 => (if x2 = true then ((some (([0] : List Int) : List Int)).bind fun y689 => (if y689.length + t686.length < 17592186044416 then (scansionref12_Build.j3 k x1 x2 x3 x10 x12 x13 x14 (y689 ++ t686) x668000 x668001 x668002 x668003 x668004 x676000 x676001) else (none))) else (scansionref12_Build.j3 k x1 x2 x3 x10 x12 x13 x14 t686 x668000 x668001 x668002 x668003 x668004 x676000 x676001))) else (none)) else (none)) else (none)) else (if x676000.length < 5864062014805 then (if 0 ≤ x12 then (if x12 < (x10.length : Int) then ((scansionref11_End.f k x668000 x668001 x668002 x668003 x668004 (rd_L3 x10 x12)).bind fun t680 => (if x676001.length < 140737488355328 then (scansionref12_Build.l0 k x1 x2 x3 x10 (wrap64 (x12 + 1)) x668000 x668001 x668002 x668003 x668004 (x676000 ++ [x13]) (x676001 ++ [t680])) else (none))) else (none)) else (none)) else (none))
def scansionref12_Build.j3 : Nat → List Int → Bool → Int → List (List Int) → Int → List Int → Int → List Int → Bool → List Int → List Int → List Int → List (List Int) → List (List Int) → List Bool → Option ((List (List Int)) × List Bool × Int)
 | 0, _, _, _, _, _, _, _, _, _, _, _, _, _, _, _ => none
 | k + 1, x1, x2, x3, x10, x12, x13, x14, x15, x668000, x668001, x668002, x668003, x668004, x676000, x676001 => (scansionref12_find.f k x10 x15).bind fun t695 => (if t695 < 0 then (if x10.length < 5864062014805 then ((some (x10 ++ [x15] : List (List Int))).bind fun y696 => (if (y696.length : Int) > x3 then (some (([] : List (List Int)), ([] : List Bool), 8)) else (if x13.length < 17592186044416 then (scansionref12_Build.l1 k x1 x2 x3 y696 x12 (x13 ++ [(x10.length : Int)]) (wrap64 (x14 + 1)) x668000 x668001 x668002 x668003 x668004 x676000 x676001) else (none)))) else (none)) else (if (x10.length : Int) > x3 then (some (([] : List (List Int)), ([] : List Bool), 8)) else (if x13.length < 17592186044416 then (scansionref12_Build.l1 k x1 x2 x3 x10 x12 (x13 ++ [t695]) (wrap64 (x14 + 1)) x668000 x668001 x668002 x668003 x668004 x676000 x676001) else (none))))
end
def scansionref12_Build.f (k : Nat) (a0_0 : Bool) (l0_1 : List Int) (l0_2 : List Int) (l0_3 : List Int) (l0_4 : List (List Int)) (l1 : List Int) (a2 : Bool) (a3 : Int) : Option ((List (List Int)) × List Bool × Int) := if (l1.length : Int) < 1 then (scansionref12_Build.j0 k l1 a2 a3 true a0_0 l0_1 l0_2 l0_3 l0_4) else (if (l1.length : Int) > 200 then (scansionref12_Build.j0 k l1 a2 a3 true a0_0 l0_1 l0_2 l0_3 l0_4) else (if a3 < 1 then (scansionref12_Build.j0 k l1 a2 a3 true a0_0 l0_1 l0_2 l0_3 l0_4) else (scansionref12_Build.j0 k l1 a2 a3 (decide (a3 > 5000)) a0_0 l0_1 l0_2 l0_3 l0_4)))
theorem scansionref12_Build.mono_l : ∀ k, (∀ y0 y1 y2 y3 y4 y5 y6 y7 y8, LeO (scansionref12_Build.j0 k y0 y1 y2 y3 y4 y5 y6 y7 y8) (scansionref12_Build.j0 (k + 1) y0 y1 y2 y3 y4 y5 y6 y7 y8)) ∧ (∀ y0 y1 y2 y3 y4 y5 y6 y7 y8 y9 y10 y11, LeO (scansionref12_Build.l0 k y0 y1 y2 y3 y4 y5 y6 y7 y8 y9 y10 y11) (scansionref12_Build.l0 (k + 1) y0 y1 y2 y3 y4 y5 y6 y7 y8 y9 y10 y11)) ∧ (∀ y0 y1 y2 y3 y4 y5 y6 y7 y8 y9 y10 y11 y12 y13, LeO (scansionref12_Build.l1 k y0 y1 y2 y3 y4 y5 y6 y7 y8 y9 y10 y11 y12 y13) (scansionref12_Build.l1 (k + 1) y0 y1 y2 y3 y4 y5 y6 y7 y8 y9 y10 y11 y12 y13)) ∧ (∀ y0 y1 y2 y3 y4 y5 y6 y7 y8 y9 y10 y11 y12 y13 y14, LeO (scansionref12_Build.j3 k y0 y1 y2 y3 y4 y5 y6 y7 y8 y9 y10 y11 y12 y13 y14) (scansionref12_Build.j3 (k + 1) y0 y1 y2 y3 y4 y5 y6 y7 y8 y9 y10 y11 y12 y13 y14))
 | 0 => ⟨fun _ _ _ _ _ _ _ _ _ r h => by simp [scansionref12_Build.j0] at h, fun _ _ _ _ _ _ _ _ _ _ _ _ r h => by simp [scansionref12_Build.l0] at h, fun _ _ _ _ _ _ _ _ _ _ _ _ _ _ r h => by simp [scansionref12_Build.l1] at h, fun _ _ _ _ _ _ _ _ _ _ _ _ _ _ _ r h => by simp [scansionref12_Build.j3] at h⟩
 | k + 1 => by
  obtain ⟨ih0, ih1, ih2, ih3⟩ := scansionref12_Build.mono_l k
  refine ⟨?_, ?_, ?_, ?_⟩
  ·intro y0 y1 y2 y3 y4 y5 y6 y7 y8
   unfold scansionref12_Build.j0
   repeat' first
   | (with_reducible exact ih0 _ _ _ _ _ _ _ _ _)
   | (with_reducible exact ih1 _ _ _ _ _ _ _ _ _ _ _ _)
   | (with_reducible exact ih2 _ _ _ _ _ _ _ _ _ _ _ _ _ _)
   | (with_reducible exact ih3 _ _ _ _ _ _ _ _ _ _ _ _ _ _ _)
   | (with_reducible exact scansionref11_End.mono _ _ _ _ _ _ _)
   | (with_reducible exact scansionref11_Step.mono _ _ _ _ _ _ _ _)
   | (with_reducible exact scansionref12_find.mono _ _ _)
   | (with_reducible exact LeO.refl _)
   | (with_reducible exact LeO.none _)
   | (with_reducible refine LeO.ite ?_ ?_)
   | (with_reducible refine LeO.bind ?_ (fun _ => ?_))
   | exact ih0 _ _ _ _ _ _ _ _ _
   | exact ih1 _ _ _ _ _ _ _ _ _ _ _ _
   | exact ih2 _ _ _ _ _ _ _ _ _ _ _ _ _ _
   | exact ih3 _ _ _ _ _ _ _ _ _ _ _ _ _ _ _
   | exact scansionref11_End.mono _ _ _ _ _ _ _
   | exact scansionref11_Step.mono _ _ _ _ _ _ _ _
   | exact scansionref12_find.mono _ _ _
   | exact LeO.none _
   | refine LeO.ite ?_ ?_
   | refine LeO.bind ?_ (fun _ => ?_)
  ·intro y0 y1 y2 y3 y4 y5 y6 y7 y8 y9 y10 y11
   unfold scansionref12_Build.l0
   repeat' first
   | (with_reducible exact ih0 _ _ _ _ _ _ _ _ _)
   | (with_reducible exact ih1 _ _ _ _ _ _ _ _ _ _ _ _)
   | (with_reducible exact ih2 _ _ _ _ _ _ _ _ _ _ _ _ _ _)
   | (with_reducible exact ih3 _ _ _ _ _ _ _ _ _ _ _ _ _ _ _)
   | (with_reducible exact scansionref11_End.mono _ _ _ _ _ _ _)
   | (with_reducible exact scansionref11_Step.mono _ _ _ _ _ _ _ _)
   | (with_reducible exact scansionref12_find.mono _ _ _)
   | (with_reducible exact LeO.refl _)
   | (with_reducible exact LeO.none _)
   | (with_reducible refine LeO.ite ?_ ?_)
   | (with_reducible refine LeO.bind ?_ (fun _ => ?_))
   | exact ih0 _ _ _ _ _ _ _ _ _
   | exact ih1 _ _ _ _ _ _ _ _ _ _ _ _
   | exact ih2 _ _ _ _ _ _ _ _ _ _ _ _ _ _
   | exact ih3 _ _ _ _ _ _ _ _ _ _ _ _ _ _ _
   | exact scansionref11_End.mono _ _ _ _ _ _ _
   | exact scansionref11_Step.mono _ _ _ _ _ _ _ _
   | exact scansionref12_find.mono _ _ _
   | exact LeO.none _
   | refine LeO.ite ?_ ?_
   | refine LeO.bind ?_ (fun _ => ?_)
  ·intro y0 y1 y2 y3 y4 y5 y6 y7 y8 y9 y10 y11 y12 y13
   unfold scansionref12_Build.l1
   repeat' first
   | (with_reducible exact ih0 _ _ _ _ _ _ _ _ _)
   | (with_reducible exact ih1 _ _ _ _ _ _ _ _ _ _ _ _)
   | (with_reducible exact ih2 _ _ _ _ _ _ _ _ _ _ _ _ _ _)
   | (with_reducible exact ih3 _ _ _ _ _ _ _ _ _ _ _ _ _ _ _)
   | (with_reducible exact scansionref11_End.mono _ _ _ _ _ _ _)
   | (with_reducible exact scansionref11_Step.mono _ _ _ _ _ _ _ _)
   | (with_reducible exact scansionref12_find.mono _ _ _)
   | (with_reducible exact LeO.refl _)
   | (with_reducible exact LeO.none _)
   | (with_reducible refine LeO.ite ?_ ?_)
   | (with_reducible refine LeO.bind ?_ (fun _ => ?_))
   | exact ih0 _ _ _ _ _ _ _ _ _
   | exact ih1 _ _ _ _ _ _ _ _ _ _ _ _
   | exact ih2 _ _ _ _ _ _ _ _ _ _ _ _ _ _
   | exact ih3 _ _ _ _ _ _ _ _ _ _ _ _ _ _ _
   | exact scansionref11_End.mono _ _ _ _ _ _ _
   | exact scansionref11_Step.mono _ _ _ _ _ _ _ _
   | exact scansionref12_find.mono _ _ _
   | exact LeO.none _
   | refine LeO.ite ?_ ?_
   | refine LeO.bind ?_ (fun _ => ?_)
  ·intro y0 y1 y2 y3 y4 y5 y6 y7 y8 y9 y10 y11 y12 y13 y14
   unfold scansionref12_Build.j3
   repeat' first
   | (with_reducible exact ih0 _ _ _ _ _ _ _ _ _)
   | (with_reducible exact ih1 _ _ _ _ _ _ _ _ _ _ _ _)
   | (with_reducible exact ih2 _ _ _ _ _ _ _ _ _ _ _ _ _ _)
   | (with_reducible exact ih3 _ _ _ _ _ _ _ _ _ _ _ _ _ _ _)
   | (with_reducible exact scansionref11_End.mono _ _ _ _ _ _ _)
   | (with_reducible exact scansionref11_Step.mono _ _ _ _ _ _ _ _)
   | (with_reducible exact scansionref12_find.mono _ _ _)
   | (with_reducible exact LeO.refl _)
   | (with_reducible exact LeO.none _)
   | (with_reducible refine LeO.ite ?_ ?_)
   | (with_reducible refine LeO.bind ?_ (fun _ => ?_))
   | exact ih0 _ _ _ _ _ _ _ _ _
   | exact ih1 _ _ _ _ _ _ _ _ _ _ _ _
   | exact ih2 _ _ _ _ _ _ _ _ _ _ _ _ _ _
   | exact ih3 _ _ _ _ _ _ _ _ _ _ _ _ _ _ _
   | exact scansionref11_End.mono _ _ _ _ _ _ _
   | exact scansionref11_Step.mono _ _ _ _ _ _ _ _
   | exact scansionref12_find.mono _ _ _
   | exact LeO.none _
   | refine LeO.ite ?_ ?_
   | refine LeO.bind ?_ (fun _ => ?_)
theorem scansionref12_Build.mono : ∀ a0 a1 a2 a3 a4 a5 a6 a7 k, LeO (scansionref12_Build.f k a0 a1 a2 a3 a4 a5 a6 a7) (scansionref12_Build.f (k + 1) a0 a1 a2 a3 a4 a5 a6 a7) := by
 intro a0 a1 a2 a3 a4 a5 a6 a7 k
 obtain ⟨ih0, ih1, ih2, ih3⟩ := scansionref12_Build.mono_l k
 unfold scansionref12_Build.f
 repeat' first
   | (with_reducible exact ih0 _ _ _ _ _ _ _ _ _)
   | (with_reducible exact ih1 _ _ _ _ _ _ _ _ _ _ _ _)
   | (with_reducible exact ih2 _ _ _ _ _ _ _ _ _ _ _ _ _ _)
   | (with_reducible exact ih3 _ _ _ _ _ _ _ _ _ _ _ _ _ _ _)
   | (with_reducible exact scansionref11_End.mono _ _ _ _ _ _ _)
   | (with_reducible exact scansionref11_Step.mono _ _ _ _ _ _ _ _)
   | (with_reducible exact scansionref12_find.mono _ _ _)
   | (with_reducible exact LeO.refl _)
   | (with_reducible exact LeO.none _)
   | (with_reducible refine LeO.ite ?_ ?_)
   | (with_reducible refine LeO.bind ?_ (fun _ => ?_))
   | exact ih0 _ _ _ _ _ _ _ _ _
   | exact ih1 _ _ _ _ _ _ _ _ _ _ _ _
   | exact ih2 _ _ _ _ _ _ _ _ _ _ _ _ _ _
   | exact ih3 _ _ _ _ _ _ _ _ _ _ _ _ _ _ _
   | exact scansionref11_End.mono _ _ _ _ _ _ _
   | exact scansionref11_Step.mono _ _ _ _ _ _ _ _
   | exact scansionref12_find.mono _ _ _
   | exact LeO.none _
   | refine LeO.ite ?_ ?_
   | refine LeO.bind ?_ (fun _ => ?_)
def scansionref12_Build.T12 : Bool × List (List Nat × List Nat) := (true, [([], []), ([], []), ([], []), ([1, 2], [1, 2]), ([3], [3]), ([], []), ([], []), ([5, 6], [5, 6]), ([7], [7]), ([0, 4, 8], [0, 4, 8]), ([9, 9, 0, 1, 2, 3, 4, 5, 6, 7, 8, 9], [9])])
def scansionref12_Build.B12 : List Nat := [0, 0, 0, 6, 14, 0, 0, 96, 224, 511, 1023]
theorem scansionref12_Build.tab12 : rtab .any (opsOf Try.f33 12) = scansionref12_Build.T12 := by kernel_rfl
theorem scansionref12_Build.bits12 : waitsOk scansionref12_Build.T12.2 scansionref12_Build.B12 = true := by kernel_rfl
def scansionref12_Build.T23 : Bool × List (List Nat × List Nat) := (true, [([], []), ([0], [0]), ([], []), ([], []), ([], []), ([3, 4], [3, 4]), ([5], [5]), ([2, 6], [2, 6]), ([7], [7]), ([1, 8, 7], [1, 8]), ([0, 1, 2, 3, 4, 5, 6, 7, 8, 9], []), ([10, 9, 9, 0, 1, 2, 3, 4, 5, 6, 7, 8, 9], [9, 10])])
def scansionref12_Build.B23 : List Nat := [0, 1, 0, 0, 0, 24, 56, 124, 252, 511, 1023, 2047]
theorem scansionref12_Build.tab23 : rtab .any (opsOf Try.f33 23) = scansionref12_Build.T23 := by kernel_rfl
theorem scansionref12_Build.bits23 : waitsOk scansionref12_Build.T23.2 scansionref12_Build.B23 = true := by kernel_rfl
set_option maxHeartbeats 8000000 in
set_option maxRecDepth 100000 in
theorem scansionref12_Build.calls (k : Nat) (a0_0 : Bool) (A0_1 : Option Addr) (c0_1 : Nat) (l0_1 : List Int) (A0_2 : Option Addr) (c0_2 : Nat) (l0_2 : List Int) (A0_3 : Option Addr) (c0_3 : Nat) (l0_3 : List Int) (A0_4 : Option Addr) (c0_4 : Nat) (l0_4 : List (List Int)) (A1 : Option Addr) (c1 : Nat) (l1 : List Int) (a2 : Bool) (a3 : Int) (r1 : List (List Int)) (r2 : List Bool) (r3 : Int) (w : World) (hr0_1 : Kd.C (Kd.int .i64) w A0_1 l0_1.length l0_1) (hc0_1 : l0_1.length ≤ c0_1) (hr0_2 : Kd.C (Kd.int .i64) w A0_2 l0_2.length l0_2) (hc0_2 : l0_2.length ≤ c0_2) (hr0_3 : Kd.C (Kd.int .i64) w A0_3 l0_3.length l0_3) (hc0_3 : l0_3.length ≤ c0_3) (hr0_4 : Kd.C (Kd.slice 3 (Kd.int .i64)) w A0_4 l0_4.length l0_4) (hc0_4 : l0_4.length ≤ c0_4) (hr1 : Kd.C (Kd.int .u64) w A1 l1.length l1) (hc1 : l1.length ≤ c1) (h : scansionref12_Build.f k a0_0 l0_1 l0_2 l0_3 l0_4 l1 a2 a3 = some (r1, r2, r3)) :
  Calls Try.prog 33 #[.agg #[.bool a0_0, .slice A0_1 l0_1.length c0_1, .slice A0_2 l0_2.length c0_2, .slice A0_3 l0_3.length c0_3, .slice A0_4 l0_4.length c0_4], .slice A1 l1.length c1, .bool a2, .int .i64 a3] w fun e w' => ∃ v0_ v1_ : Value, e = .returned (.tuple #[.agg #[v0_, v1_], .int .i64 r3]) ∧ Kd.N (Kd.slice 3 (Kd.int .i64)) 27 w' w.heap.size (fun k_ => (w.heap.size ≤ k_) ∧ some k_ ≠ (v1_ : Value).ownBlock) v0_ r1 ∧ Kd.R Kd.bool 4 w' w.heap.size (fun k_ => (w.heap.size ≤ k_)) v1_ r2 ∧ Below w.heap.size w w' := by
 have hu30 := Try.underlying30
 have hu47 := Try.underlying47
 have HR0_1 := Aside0.mk hr0_1
 have HC0_1 := Aside0.mk hc0_1
 clear hr0_1 hc0_1
 have HR0_2 := Aside0.mk hr0_2
 have HC0_2 := Aside0.mk hc0_2
 clear hr0_2 hc0_2
 have HR0_3 := Aside0.mk hr0_3
 have HC0_3 := Aside0.mk hc0_3
 clear hr0_3 hc0_3
 have HR0_4 := Aside0.mk hr0_4
 have HC0_4 := Aside0.mk hc0_4
 clear hr0_4 hc0_4
 have HR1 := Aside0.mk hr1
 have HC1 := Aside0.mk hc1
 clear hr1 hc1
 have HB := Aside0.mk (Below.refl w.heap.size w)
 have H : (if (l1.length : Int) < 1 then (scansionref12_Build.j0 k l1 a2 a3 true a0_0 l0_1 l0_2 l0_3 l0_4) else (if (l1.length : Int) > 200 then (scansionref12_Build.j0 k l1 a2 a3 true a0_0 l0_1 l0_2 l0_3 l0_4) else (if a3 < 1 then (scansionref12_Build.j0 k l1 a2 a3 true a0_0 l0_1 l0_2 l0_3 l0_4) else (scansionref12_Build.j0 k l1 a2 a3 (decide (a3 > 5000)) a0_0 l0_1 l0_2 l0_3 l0_4)))) = some (r1, r2, r3) := h
 clear h
 have HC5 := Aside0.mk H
 clear H
 go_enter Try.func33, Try.ntmps33
 go_upto_region 1 with (first | ((with_reducible refine gate_dst (N := 4) rfl ?_); (try (refine gate_guard (by rfl) ?_; dsimp only)); refine box_event ?hg (N := 4) ?hd (cs := #[.bool a0_0, .slice A0_1 l0_1.length c0_1, .slice A0_2 l0_2.length c0_2, .slice A0_3 l0_3.length c0_3, .slice A0_4 l0_4.length c0_4]) (t := 30) ?hr ?_; (case hd => rfl); (case hg => rfl); (case hr => first | (go_simp; done) | (go_simp; rfl)); intro gb667 hg w6 hbox hb; have n0_ := Aside0.mk (below_step (by repeat (first | (with_reducible first | exact HB.out | apply below_alloc | apply pw_below_drewN | apply below_drew1) | exact HB.out)) hb); have n1_ := Aside0.mk (hbox); have n2_ := Aside0.mk ((by rw [hg]; exact (below_size (by repeat (first | (with_reducible first | exact HB.out | apply below_alloc | apply pw_below_drewN | apply below_drew1) | exact HB.out))) : w.heap.size ≤ gb667)); have n3_ := Aside0.mk ((by rw [hg]; exact (below_size (by repeat (first | (with_reducible first | exact HB.out | apply below_alloc | apply pw_below_drewN | apply below_drew1) | exact HB.out))) : w.heap.size ≤ gb667)); clear HB; have HB := n0_; have BK667 := n1_; have GW667 := n2_; have GE667 := n3_; clear n0_ n1_ n2_ n3_; clear hb hbox hg) | ((with_reducible refine gate_dst (N := 8) rfl ?_); (try (refine gate_guard (by rfl) ?_; dsimp only)); refine box_event ?hg (N := 8) ?hd (cs := #[.slice none 0 0, .slice none 0 0]) (t := 47) ?hr ?_; (case hd => rfl); (case hg => rfl); (case hr => first | (go_simp; done) | (go_simp; rfl)); intro gb668 hg w7 hbox hb; have n0_ := Aside0.mk (blk_below (g := gb667) (o := .cells #[.bool a0_0, .slice A0_1 l0_1.length c0_1, .slice A0_2 l0_2.length c0_2, .slice A0_3 l0_3.length c0_3, .slice A0_4 l0_4.length c0_4] 30 (0, 0)) (by (with_reducible repeat (first | refine blk_drewN ?_ _ | refine blk_drew ?_ | refine blk_alloc ?_ _)); exact BK667.out) hb); have n1_ := Aside0.mk (below_step (by repeat (first | (with_reducible first | exact HB.out | apply below_alloc | apply pw_below_drewN | apply below_drew1 | refine below_set ?_ GE667.out) | exact HB.out)) hb); have n2_ := Aside0.mk (hbox); have n3_ := Aside0.mk ((by rw [hg]; exact (below_size (by repeat (first | (with_reducible first | exact HB.out | apply below_alloc | apply pw_below_drewN | apply below_drew1 | refine below_set ?_ GE667.out) | exact HB.out))) : w.heap.size ≤ gb668)); have n4_ := Aside0.mk ((by rw [hg]; exact (below_size (by repeat (first | (with_reducible first | exact HB.out | apply below_alloc | apply pw_below_drewN | apply below_drew1 | refine below_set ?_ GE667.out) | exact HB.out))) : w.heap.size ≤ gb668)); have n5_ := Aside0.mk ((by rw [hg]; exact Nat.ne_of_lt (blk_lt (g := gb667) (o := .cells #[.bool a0_0, .slice A0_1 l0_1.length c0_1, .slice A0_2 l0_2.length c0_2, .slice A0_3 l0_3.length c0_3, .slice A0_4 l0_4.length c0_4] 30 (0, 0)) (by (with_reducible repeat (first | refine blk_drewN ?_ _ | refine blk_drew ?_ | refine blk_alloc ?_ _)); exact BK667.out)) : gb667 ≠ gb668)); have n6_ := Aside0.mk ((by rw [hg]; exact Nat.ne_of_gt (blk_lt (g := gb667) (o := .cells #[.bool a0_0, .slice A0_1 l0_1.length c0_1, .slice A0_2 l0_2.length c0_2, .slice A0_3 l0_3.length c0_3, .slice A0_4 l0_4.length c0_4] 30 (0, 0)) (by (with_reducible repeat (first | refine blk_drewN ?_ _ | refine blk_drew ?_ | refine blk_alloc ?_ _)); exact BK667.out)) : gb668 ≠ gb667)); clear BK667; clear HB; have BK667 := n0_; have HB := n1_; have BK668 := n2_; have GW668 := n3_; have GE668 := n4_; have NB667_668 := n5_; have NB668_667 := n6_; clear n0_ n1_ n2_ n3_ n4_ n5_ n6_; clear hb hbox hg))
 (try simp only [Act.put, List.setIfInBounds_toArray, List.set_cons_zero, List.set_cons_succ])
 go_cut [32] (fun v32 wc => ∃ (kq : Nat) (x32_4 : Bool), v32 = .bool x32_4 ∧ Aside0 (scansionref12_Build.j0 kq l1 a2 a3 x32_4 a0_0 l0_1 l0_2 l0_3 l0_4 = some (r1, r2, r3)) ∧ Aside0 (kq ≤ k) ∧ Aside0 (wc.heap[gb667]? = some (.cells #[.bool a0_0, (.slice A0_1 l0_1.length c0_1), (.slice A0_2 l0_2.length c0_2), (.slice A0_3 l0_3.length c0_3), (.slice A0_4 l0_4.length c0_4)] 30 (0, 0))) ∧ Aside0 (wc.heap[gb668]? = some (.cells #[(.slice none 0 0), (.slice none 0 0)] 47 (0, 0))) ∧ Aside0 (Below w.heap.size w wc))
 case first =>
  have H := HC5.out
  clear HC5
  by_cases c8 : (l1.length : Int) < 1
  ·rw [if_pos c8] at H
   have c8b0 : decide ((l1.length : Int) < 1) = true := decide_eq_true c8
   have c8b1 : decide (l1.length < 1) = true := decide_eq_true (by omega)
   clear c8
   (first | rw [c8b0] | (simp only [i64_w, i32_w]; rw [c8b0]) | skip)
   have H' := Aside0.mk H
   clear H
   go_wp2
   go_meet
   case rel => exact ⟨_, (true), (by first | rfl | (simp; done) | (simp [*]; done)), H', ⟨by first | omega | exact Nat.le_refl _⟩, ⟨by (with_reducible repeat (first | refine blk_drewN ?_ _ | refine blk_drew ?_ | refine blk_alloc ?_ _)); exact BK667.out⟩, ⟨by (with_reducible repeat (first | refine blk_drewN ?_ _ | refine blk_drew ?_ | refine blk_alloc ?_ _)); exact BK668.out⟩, ⟨by repeat (first | (with_reducible first | exact HB.out | apply below_alloc | apply pw_below_drewN | apply below_drew1 | refine below_set ?_ GE667.out | refine below_set ?_ GE668.out) | exact HB.out)⟩⟩
  ·rw [if_neg c8] at H
   have c8b0 : decide ((l1.length : Int) < 1) = false := decide_eq_false c8
   have c8b1 : decide (l1.length < 1) = false := decide_eq_false (by omega)
   clear c8
   (first | rw [c8b0] | (simp only [i64_w, i32_w]; rw [c8b0]) | skip)
   by_cases c9 : (l1.length : Int) > 200
   ·rw [if_pos c9] at H
    have c9b0 : decide (200 < (l1.length : Int)) = true := decide_eq_true c9
    have c9b1 : decide (200 < l1.length) = true := decide_eq_true (by omega)
    clear c9
    have H' := Aside0.mk H
    clear H
    go_wp2
    go_meet
    case rel => exact ⟨_, (true), (by first | rfl | (simp; done) | (simp [*]; done)), H', ⟨by first | omega | exact Nat.le_refl _⟩, ⟨by (with_reducible repeat (first | refine blk_drewN ?_ _ | refine blk_drew ?_ | refine blk_alloc ?_ _)); exact BK667.out⟩, ⟨by (with_reducible repeat (first | refine blk_drewN ?_ _ | refine blk_drew ?_ | refine blk_alloc ?_ _)); exact BK668.out⟩, ⟨by repeat (first | (with_reducible first | exact HB.out | apply below_alloc | apply pw_below_drewN | apply below_drew1 | refine below_set ?_ GE667.out | refine below_set ?_ GE668.out) | exact HB.out)⟩⟩
   ·rw [if_neg c9] at H
    have c9b0 : decide (200 < (l1.length : Int)) = false := decide_eq_false c9
    have c9b1 : decide (200 < l1.length) = false := decide_eq_false (by omega)
    clear c9
    by_cases c10 : a3 < 1
    ·rw [if_pos c10] at H
     have c10b0 : decide (a3 < 1) = true := decide_eq_true c10
     clear c10
     have H' := Aside0.mk H
     clear H
     go_wp2
     go_meet
     case rel => exact ⟨_, (true), (by first | rfl | (simp; done) | (simp [*]; done)), H', ⟨by first | omega | exact Nat.le_refl _⟩, ⟨by (with_reducible repeat (first | refine blk_drewN ?_ _ | refine blk_drew ?_ | refine blk_alloc ?_ _)); exact BK667.out⟩, ⟨by (with_reducible repeat (first | refine blk_drewN ?_ _ | refine blk_drew ?_ | refine blk_alloc ?_ _)); exact BK668.out⟩, ⟨by repeat (first | (with_reducible first | exact HB.out | apply below_alloc | apply pw_below_drewN | apply below_drew1 | refine below_set ?_ GE667.out | refine below_set ?_ GE668.out) | exact HB.out)⟩⟩
    ·rw [if_neg c10] at H
     have c10b0 : decide (a3 < 1) = false := decide_eq_false c10
     clear c10
     have H' := Aside0.mk H
     clear H
     go_wp2
     go_meet
     case rel => exact ⟨_, (decide (a3 > 5000)), (by first | rfl | (simp; done) | (simp [*]; done)), H', ⟨by first | omega | exact Nat.le_refl _⟩, ⟨by (with_reducible repeat (first | refine blk_drewN ?_ _ | refine blk_drew ?_ | refine blk_alloc ?_ _)); exact BK667.out⟩, ⟨by (with_reducible repeat (first | refine blk_drewN ?_ _ | refine blk_drew ?_ | refine blk_alloc ?_ _)); exact BK668.out⟩, ⟨by repeat (first | (with_reducible first | exact HB.out | apply below_alloc | apply pw_below_drewN | apply below_drew1 | refine below_set ?_ GE667.out | refine below_set ?_ GE668.out) | exact HB.out)⟩⟩
 case rest =>
  clear HC5
  try clear c1
  try clear p2
  try clear c3
  try clear c8
  try clear c8b0
  try clear c8b1
  try clear c9
  try clear c9b0
  try clear c9b1
  try clear c10
  try clear c10b0
  obtain ⟨kq, x32_4, rfl, HA, HJ4, BK667, BK668, HB⟩ := hcut
  cases kq with
  | zero => exact absurd HA.out (by simp [scansionref12_Build.j0])
  | succ kj4 =>
   have H := HA.out
   clear HA
   simp only [scansionref12_Build.j0] at H
   by_cases c11 : x32_4 = true
   ·subst c11
    have H1 : (some (([] : List (List Int)), ([] : List Bool), 1)) = some (r1, r2, r3) := by rw [if_pos rfl] at H; exact H
    clear H
    have H := H1
    clear H1
    simp only [Option.some.injEq, Prod.mk.injEq] at H
    obtain ⟨rfl, rfl, rfl⟩ := H
    have hnb12 := NB668_667.out
    have hnc12 := NB667_668.out
    have hcz13_0 : wc.cell? ⟨gb668, 0, none⟩ = some (.slice none 0 0) := (blk_cell BK668.out 0).trans rfl
    have hcz13_1 : wc.cell? ⟨gb668, 1, none⟩ = some (.slice none 0 0) := (blk_cell BK668.out 1).trans rfl
    have hfz13_0 := blk_frozen BK668.out 0
    have hfz13_1 := blk_frozen BK668.out 1
    go_wp2
    refine bodyPost_ret (results_ct rfl _ _ gb668 47 #[.slice none 0 0, .slice none 0 0] (0, 0) _ rfl (by (with_reducible repeat (first | refine blk_drewN ?_ _ | refine blk_drew ?_ | refine blk_alloc ?_ _)); refine blk_put (cs := #[.slice none 0 0, .slice none 0 0]) ?_ 1 _ rfl; (with_reducible repeat (first | refine blk_drewN ?_ _ | refine blk_drew ?_ | refine blk_alloc ?_ _)); refine blk_put (cs := #[.slice none 0 0, .slice none 0 0]) ?_ 0 _ rfl; (with_reducible repeat (first | refine blk_drewN ?_ _ | refine blk_drew ?_ | refine blk_alloc ?_ _)); exact BK668.out) Try.underlying47 rfl (by kernel_rfl)) rfl ?_
    exact ⟨_, _, by first | rfl | (simp [errW_none, errW_some] <;> rfl) | (simp [*, errW_none, errW_some] <;> rfl), by first | exact Kd.S_nil _ _ _ _ _ | exact Kd.N_nil _ _ _ _ _ | exact Kd.V_nil _ _ _ _ _ | exact Kd.Q_nil _ _ _ _ _ | exact Kd.R_nil _ _ _ _ _, by first | exact Kd.R_nil _ _ _ _ _ | exact Kd.N_nil _ _ _ _ _ | exact Kd.V_nil _ _ _ _ _ | exact Kd.Q_nil _ _ _ _ _ | exact Kd.S_nil _ _ _ _ _, by repeat (first | (with_reducible first | exact HB.out | apply below_alloc | apply pw_below_drewN | apply below_drew1 | refine below_set ?_ GE667.out | refine below_set ?_ GE668.out) | exact HB.out)⟩
   ·replace c11 := Bool.eq_false_iff.mpr c11
    subst c11
    have H1 : (scansionref12_Build.l0 kj4 l1 a2 a3 (([(([0] : List Int))] : List (List Int))) 0 a0_0 l0_1 l0_2 l0_3 l0_4 ([] : List (List Int)) ([] : List Bool)) = some (r1, r2, r3) := by rw [if_neg (show ¬ (false = true) by decide)] at H; exact H
    clear H
    have H := H1
    clear H1
    obtain ⟨y669, hy669⟩ : ∃ y_ : List Int, y_ = (([0] : List Int)) := ⟨_, rfl⟩
    replace H : (scansionref12_Build.l0 kj4 l1 a2 a3 (([y669] : List (List Int))) 0 a0_0 l0_1 l0_2 l0_3 l0_4 ([] : List (List Int)) ([] : List Bool)) = some (r1, r2, r3) := by first | (rw [hy669]; with_reducible exact H) | (have H2_ := (Option.bind_some _ _).symm.trans H; rw [hy669]; with_reducible exact H2_) | (have H2_ := (Option.bind_some _ _).symm.trans H; with_reducible exact H2_) | with_reducible exact H | (rw [hy669]; exact H) | exact H
    have Ny669 := Aside0.mk hy669
    clear hy669
    obtain ⟨y672, hy672⟩ : ∃ y_ : List (List Int), y_ = (([y669] : List (List Int))) := ⟨_, rfl⟩
    replace H : (scansionref12_Build.l0 kj4 l1 a2 a3 y672 0 a0_0 l0_1 l0_2 l0_3 l0_4 ([] : List (List Int)) ([] : List Bool)) = some (r1, r2, r3) := by first | (rw [hy672]; with_reducible exact H) | (have H2_ := (Option.bind_some _ _).symm.trans H; rw [hy672]; with_reducible exact H2_) | (have H2_ := (Option.bind_some _ _).symm.trans H; with_reducible exact H2_) | with_reducible exact H | (rw [hy672]; exact H) | exact H
    have Ny672 := Aside0.mk hy672
    clear hy672
    have H' := Aside0.mk H
    clear H
    go_wp2_with (first | ((with_reducible refine gate_dst (N := 34) rfl ?_); (try (refine gate_guard (by rfl) ?_; dsimp only)); refine Kd.R_lit (Kd.int .i64) _ 3 ?hg (N := 34) ?hd (xs := ([0] : List Int)) (inner := [.int .i64 0]) (ok := fun _ => True) (okp := fun _ => True) ?hr ?hp (fun _ hk => hk) trivial (Below.refl _ _) (Nat.le_refl _) (by simp) ?_; (case hd => rfl); (case hg => rfl); (case hr => first | (go_simp; done) | (go_simp; rfl)); (case hp => exact (Reps.one (show Kd.M (Kd.int .i64) _ _ _ 0 [.int .i64 0] from rfl) (Reps.none _ _))); intro v670 w14 ho15 hb hg_ hnew_; clear hg_ hnew_; (first | rw [← Ny669.out] at ho15 | (simp only [Int.reduceToNat] at ho15; rw [← Ny669.out] at ho15)); have n0_ := Aside0.mk (Kd.R_lower (Kd.R_newM (M := fun k_ => (w.heap.size ≤ k_)) ho15 (below_size (by repeat (first | (with_reducible first | exact HB.out | apply below_alloc | apply pw_below_drewN | apply below_drew1 | refine below_set ?_ GE667.out | refine below_set ?_ GE668.out) | exact HB.out))) (fun k_ h_ => h_)) (below_size (by repeat (first | (with_reducible first | exact HB.out | apply below_alloc | apply pw_below_drewN | apply below_drew1 | refine below_set ?_ GE667.out | refine below_set ?_ GE668.out) | exact HB.out)))); have n1_ := Aside0.mk (blk_below (g := gb667) (o := .cells #[.bool a0_0, .slice A0_1 l0_1.length c0_1, .slice A0_2 l0_2.length c0_2, .slice A0_3 l0_3.length c0_3, .slice A0_4 l0_4.length c0_4] 30 (0, 0)) (by (with_reducible repeat (first | refine blk_drewN ?_ _ | refine blk_drew ?_ | refine blk_alloc ?_ _)); exact BK667.out) hb); have n2_ := Aside0.mk (blk_below (g := gb668) (o := .cells #[.slice none 0 0, .slice none 0 0] 47 (0, 0)) (by (with_reducible repeat (first | refine blk_drewN ?_ _ | refine blk_drew ?_ | refine blk_alloc ?_ _)); exact BK668.out) hb); have n3_ := Aside0.mk (below_step (by repeat (first | (with_reducible first | exact HB.out | apply below_alloc | apply pw_below_drewN | apply below_drew1 | refine below_set ?_ GE667.out | refine below_set ?_ GE668.out) | exact HB.out)) hb); clear BK667; clear BK668; clear HB; have HO671 := n0_; have BK667 := n1_; have BK668 := n2_; have HB := n3_; clear n0_ n1_ n2_ n3_; clear hb ho15; obtain ⟨Ao16, co16, eo16⟩ := Kd.R_slice HO671.out; subst eo16) | ((with_reducible refine gate_dst (N := 35) rfl ?_); (try (refine gate_guard (by rfl) ?_; dsimp only)); refine Kd.N_lit (Kd.slice 3 (Kd.int .i64)) _ 27 ?hg (N' := 35) ?hd (xs := ([y669] : List (List Int))) (inner := [.slice Ao16 y669.length co16]) (ok := (fun k_ => (w.heap.size ≤ k_) ∧ k_ ≠ gb667 ∧ k_ ≠ gb668)) (okp := (fun k_ => (w.heap.size ≤ k_) ∧ k_ ≠ gb667 ∧ k_ ≠ gb668)) ?hr ?hp (fun _ hk => hk) ((show ∀ k_, w14.heap.size ≤ k_ → (fun k_ => (w.heap.size ≤ k_) ∧ k_ ≠ gb667 ∧ k_ ≠ gb668) k_ from fun k_ hk => ⟨(Nat.le_trans (below_size (by repeat (first | (with_reducible first | exact HB.out | apply below_alloc | apply pw_below_drewN | apply below_drew1 | refine below_set ?_ GE667.out | refine below_set ?_ GE668.out) | exact HB.out))) hk), Kd.freshB (g := gb667) (o := .cells #[.bool a0_0, .slice A0_1 l0_1.length c0_1, .slice A0_2 l0_2.length c0_2, .slice A0_3 l0_3.length c0_3, .slice A0_4 l0_4.length c0_4] 30 (0, 0)) (by (with_reducible repeat (first | refine blk_drewN ?_ _ | refine blk_drew ?_ | refine blk_alloc ?_ _)); exact BK667.out) k_ hk, Kd.freshB (g := gb668) (o := .cells #[.slice none 0 0, .slice none 0 0] 47 (0, 0)) (by (with_reducible repeat (first | refine blk_drewN ?_ _ | refine blk_drew ?_ | refine blk_alloc ?_ _)); exact BK668.out) k_ hk⟩) _ (Nat.le_refl _)) (Below.refl _ _) (Nat.le_refl _) (by simp) ?_; (case hd => rfl); (case hg => rfl); (case hr => first | (go_simp; done) | (go_simp; rfl)); (case hp => exact (Reps.one (show Kd.FK (Kd.slice 3 (Kd.int .i64)) _ _ y669 [.slice Ao16 y669.length co16] from (Kd.FK_slice_mk (Kd.R_reads' (Kd.R_mono (ok' := (fun k_ => (w.heap.size ≤ k_) ∧ k_ ≠ gb667 ∧ k_ ≠ gb668)) (Kd.R_types (Kd.R_types (HO671.out) BK667.out (by decide)) BK668.out (by decide)) (fun k_ hk => ⟨hk.1.1.1, ⟨hk.1.2, hk.2⟩⟩))).2.1 (Kd.R_F (Kd.R_mono (ok' := (fun k_ => (w.heap.size ≤ k_) ∧ k_ ≠ gb667 ∧ k_ ≠ gb668)) (Kd.R_types (Kd.R_types (HO671.out) BK667.out (by decide)) BK668.out (by decide)) (fun k_ hk => ⟨hk.1.1.1, ⟨hk.1.2, hk.2⟩⟩))))) (Reps.none _ _))); intro v673 w17 ho18 hb hg_ hnew_; clear hg_ hnew_; (first | rw [← Ny672.out] at ho18 | (simp only [Int.reduceToNat] at ho18; rw [← Ny672.out] at ho18)); have n0_ := Aside0.mk (Kd.N_lower ho18 (below_size (by repeat (first | (with_reducible first | exact HB.out | apply below_alloc | apply pw_below_drewN | apply below_drew1 | refine below_set ?_ GE667.out | refine below_set ?_ GE668.out) | exact HB.out)))); have n1_ := Aside0.mk (blk_below (g := gb667) (o := .cells #[.bool a0_0, .slice A0_1 l0_1.length c0_1, .slice A0_2 l0_2.length c0_2, .slice A0_3 l0_3.length c0_3, .slice A0_4 l0_4.length c0_4] 30 (0, 0)) (by (with_reducible repeat (first | refine blk_drewN ?_ _ | refine blk_drew ?_ | refine blk_alloc ?_ _)); exact BK667.out) hb); have n2_ := Aside0.mk (blk_below (g := gb668) (o := .cells #[.slice none 0 0, .slice none 0 0] 47 (0, 0)) (by (with_reducible repeat (first | refine blk_drewN ?_ _ | refine blk_drew ?_ | refine blk_alloc ?_ _)); exact BK668.out) hb); have n3_ := Aside0.mk (below_step (by repeat (first | (with_reducible first | exact HB.out | apply below_alloc | apply pw_below_drewN | apply below_drew1 | refine below_set ?_ GE667.out | refine below_set ?_ GE668.out) | exact HB.out)) hb); clear BK667; clear BK668; clear HB; clear HO671; have HO674 := n0_; have BK667 := n1_; have BK668 := n2_; have HB := n3_; clear n0_ n1_ n2_ n3_; clear hb ho18) | ((with_reducible refine gate_dst (N := 11) rfl ?_); (try (refine gate_guard (by rfl) ?_; dsimp only)); refine box_event ?hg (N := 11) ?hd (cs := #[.slice none 0 0, .slice none 0 0]) (t := 47) ?hr ?_; (case hd => rfl); (case hg => rfl); (case hr => first | (go_simp; done) | (go_simp; rfl)); intro gb675 hg w19 hbox hb; have n0_ := Aside0.mk (Kd.N_below (Kd.N_elderB (by (with_reducible repeat (first | apply Kd.N_alloc | apply Kd.N_drewN | apply Kd.N_drew)); exact HO674.out) gb675 (Nat.le_of_eq hg.symm)) hb); have n1_ := Aside0.mk (blk_below (g := gb667) (o := .cells #[.bool a0_0, .slice A0_1 l0_1.length c0_1, .slice A0_2 l0_2.length c0_2, .slice A0_3 l0_3.length c0_3, .slice A0_4 l0_4.length c0_4] 30 (0, 0)) (by (with_reducible repeat (first | refine blk_drewN ?_ _ | refine blk_drew ?_ | refine blk_alloc ?_ _)); exact BK667.out) hb); have n2_ := Aside0.mk (blk_below (g := gb668) (o := .cells #[.slice none 0 0, .slice none 0 0] 47 (0, 0)) (by (with_reducible repeat (first | refine blk_drewN ?_ _ | refine blk_drew ?_ | refine blk_alloc ?_ _)); exact BK668.out) hb); have n3_ := Aside0.mk (below_step (by repeat (first | (with_reducible first | exact HB.out | apply below_alloc | apply pw_below_drewN | apply below_drew1 | refine below_set ?_ GE667.out | refine below_set ?_ GE668.out) | exact HB.out)) hb); have n4_ := Aside0.mk (hbox); have n5_ := Aside0.mk ((by rw [hg]; exact (below_size (by repeat (first | (with_reducible first | exact HB.out | apply below_alloc | apply pw_below_drewN | apply below_drew1 | refine below_set ?_ GE667.out | refine below_set ?_ GE668.out) | exact HB.out))) : w.heap.size ≤ gb675)); have n6_ := Aside0.mk ((by rw [hg]; exact (below_size (by repeat (first | (with_reducible first | exact HB.out | apply below_alloc | apply pw_below_drewN | apply below_drew1 | refine below_set ?_ GE667.out | refine below_set ?_ GE668.out) | exact HB.out))) : w.heap.size ≤ gb675)); have n7_ := Aside0.mk ((by rw [hg]; exact Nat.ne_of_lt (blk_lt (g := gb667) (o := .cells #[.bool a0_0, .slice A0_1 l0_1.length c0_1, .slice A0_2 l0_2.length c0_2, .slice A0_3 l0_3.length c0_3, .slice A0_4 l0_4.length c0_4] 30 (0, 0)) (by (with_reducible repeat (first | refine blk_drewN ?_ _ | refine blk_drew ?_ | refine blk_alloc ?_ _)); exact BK667.out)) : gb667 ≠ gb675)); have n8_ := Aside0.mk ((by rw [hg]; exact Nat.ne_of_gt (blk_lt (g := gb667) (o := .cells #[.bool a0_0, .slice A0_1 l0_1.length c0_1, .slice A0_2 l0_2.length c0_2, .slice A0_3 l0_3.length c0_3, .slice A0_4 l0_4.length c0_4] 30 (0, 0)) (by (with_reducible repeat (first | refine blk_drewN ?_ _ | refine blk_drew ?_ | refine blk_alloc ?_ _)); exact BK667.out)) : gb675 ≠ gb667)); have n9_ := Aside0.mk ((by rw [hg]; exact Nat.ne_of_lt (blk_lt (g := gb668) (o := .cells #[.slice none 0 0, .slice none 0 0] 47 (0, 0)) (by (with_reducible repeat (first | refine blk_drewN ?_ _ | refine blk_drew ?_ | refine blk_alloc ?_ _)); exact BK668.out)) : gb668 ≠ gb675)); have n10_ := Aside0.mk ((by rw [hg]; exact Nat.ne_of_gt (blk_lt (g := gb668) (o := .cells #[.slice none 0 0, .slice none 0 0] 47 (0, 0)) (by (with_reducible repeat (first | refine blk_drewN ?_ _ | refine blk_drew ?_ | refine blk_alloc ?_ _)); exact BK668.out)) : gb675 ≠ gb668)); clear HO674; clear BK667; clear BK668; clear HB; have HO674 := n0_; have BK667 := n1_; have BK668 := n2_; have HB := n3_; have BK675 := n4_; have GW675 := n5_; have GE675 := n6_; have NB667_675 := n7_; have NB675_667 := n8_; have NB668_675 := n9_; have NB675_668 := n10_; clear n0_ n1_ n2_ n3_ n4_ n5_ n6_ n7_ n8_ n9_ n10_; clear hb hbox hg))
    go_loopg [10, 12] kj4 (fun kq v10 v12 w' => ∃ (x10_2 : List (List Int)) (x12_2 : Int) (x676000_2 : List (List Int)) (x676001_2 : List Bool) (u676000 : Value) (u676001 : Value), v12 = .int .i64 x12_2 ∧ Aside0 (scansionref12_Build.l0 kq l1 a2 a3 x10_2 x12_2 a0_0 l0_1 l0_2 l0_3 l0_4 x676000_2 x676001_2 = some (r1, r2, r3)) ∧ Aside0 (kq ≤ kj4) ∧ Aside0 (Kd.N (Kd.slice 3 (Kd.int .i64)) 27 w' w.heap.size (fun k_ => (w.heap.size ≤ k_) ∧ some k_ ≠ (u676000 : Value).ownBlock ∧ some k_ ≠ (u676001 : Value).ownBlock ∧ k_ ≠ gb667 ∧ k_ ≠ gb668 ∧ k_ ≠ gb675) v10 x10_2) ∧ Aside0 (Kd.N (Kd.slice 3 (Kd.int .i64)) 27 w' w.heap.size (fun k_ => (w.heap.size ≤ k_) ∧ some k_ ≠ (v10 : Value).ownBlock ∧ some k_ ≠ (u676001 : Value).ownBlock ∧ k_ ≠ gb667 ∧ k_ ≠ gb668 ∧ k_ ≠ gb675) u676000 x676000_2) ∧ Aside0 (Kd.R Kd.bool 4 w' w.heap.size (fun k_ => (w.heap.size ≤ k_)) u676001 x676001_2) ∧ Aside0 (w'.heap[gb667]? = some (.cells #[.bool a0_0, (.slice A0_1 l0_1.length c0_1), (.slice A0_2 l0_2.length c0_2), (.slice A0_3 l0_3.length c0_3), (.slice A0_4 l0_4.length c0_4)] 30 (0, 0))) ∧ Aside0 (w'.heap[gb668]? = some (.cells #[(.slice none 0 0), (.slice none 0 0)] 47 (0, 0))) ∧ Aside0 (w'.heap[gb675]? = some (.cells #[u676000, u676001] 47 (0, 0))) ∧ Aside0 (Below w.heap.size w w'))
    case atStart => exact ⟨(y672), (0), (([] : List (List Int))), (([] : List Bool)), (.slice none 0 0), (.slice none 0 0), (by first | rfl | (simp; done) | (simp [*]; done)), H', ⟨Nat.le_refl _⟩, ⟨by (with_reducible repeat (first | apply Kd.N_alloc | apply Kd.N_drewN | apply Kd.N_drew)); exact Kd.N_mono HO674.out (fun _ hk => ⟨hk.1.1, ⟨(by simp [Value.ownBlock]), ⟨(by simp [Value.ownBlock]), ⟨hk.1.2.1, ⟨hk.1.2.2, hk.2⟩⟩⟩⟩⟩)⟩, ⟨by first | exact Kd.S_nil _ _ _ _ _ | exact Kd.N_nil _ _ _ _ _ | exact Kd.V_nil _ _ _ _ _ | exact Kd.Q_nil _ _ _ _ _ | exact Kd.R_nil _ _ _ _ _⟩, ⟨by first | exact Kd.R_nil _ _ _ _ _ | exact Kd.N_nil _ _ _ _ _ | exact Kd.V_nil _ _ _ _ _ | exact Kd.Q_nil _ _ _ _ _ | exact Kd.S_nil _ _ _ _ _⟩, ⟨by (with_reducible repeat (first | refine blk_drewN ?_ _ | refine blk_drew ?_ | refine blk_alloc ?_ _)); exact BK667.out⟩, ⟨by (with_reducible repeat (first | refine blk_drewN ?_ _ | refine blk_drew ?_ | refine blk_alloc ?_ _)); exact BK668.out⟩, ⟨by (with_reducible repeat (first | refine blk_drewN ?_ _ | refine blk_drew ?_ | refine blk_alloc ?_ _)); exact BK675.out⟩, ⟨by repeat (first | (with_reducible first | exact HB.out | apply below_alloc | apply pw_below_drewN | apply below_drew1 | refine below_set ?_ GE667.out | refine below_set ?_ GE668.out | refine below_set ?_ GE675.out) | exact HB.out)⟩⟩
    case round =>
     clear H'
     try clear c1
     try clear p2
     try clear c3
     try clear c8
     try clear c8b0
     try clear c8b1
     try clear c9
     try clear c9b0
     try clear c9b1
     try clear c10
     try clear c10b0
     try clear c11
     try clear c12
     try clear hcz13_0
     try clear hcz13_1
     try clear hfz13_0
     try clear hfz13_1
     try clear p2
     obtain ⟨x10_2, x12_2, x676000_2, x676001_2, u676000, u676001, rfl, HA, HK2, HO_10, HO_676000, HO_676001, BK667, BK668, BK675, HB⟩ := hrel
     cases gk with
     | zero => exact absurd HA.out (by simp [scansionref12_Build.l0])
     | succ k2 =>
      have H := HA.out
      clear HA
      simp only [scansionref12_Build.l0] at H
      by_cases c20 : x12_2 < (x10_2.length : Int)
      ·rw [if_pos c20] at H
       have c20b0 : decide (x12_2 < (x10_2.length : Int)) = true := decide_eq_true c20
       clear c20
       have H' := Aside0.mk H
       clear H
       obtain ⟨Ao21, co21, eo21⟩ := Kd.N_slice HO_10.out
       subst eo21
       go_wp2
       go_loopg [10, 13, 14] k2 (fun kq v10 v13 v14 w' => ∃ (x10_3 : List (List Int)) (x13_3 : List Int) (x14_3 : Int), v14 = .int .i64 x14_3 ∧ Aside0 (scansionref12_Build.l1 kq l1 a2 a3 x10_3 x12_2 x13_3 x14_3 a0_0 l0_1 l0_2 l0_3 l0_4 x676000_2 x676001_2 = some (r1, r2, r3)) ∧ Aside0 (kq ≤ k2) ∧ Aside0 (Kd.N (Kd.slice 3 (Kd.int .i64)) 27 w' w.heap.size (fun k_ => (w.heap.size ≤ k_) ∧ some k_ ≠ (v13 : Value).ownBlock ∧ some k_ ≠ (u676000 : Value).ownBlock ∧ some k_ ≠ (u676001 : Value).ownBlock ∧ k_ ≠ gb667 ∧ k_ ≠ gb668 ∧ k_ ≠ gb675) v10 x10_3) ∧ Aside0 (Kd.R (Kd.int .i64) 3 w' w.heap.size (fun k_ => (w.heap.size ≤ k_)) v13 x13_3) ∧ Aside0 (Kd.N (Kd.slice 3 (Kd.int .i64)) 27 w' w.heap.size (fun k_ => (w.heap.size ≤ k_) ∧ some k_ ≠ (v10 : Value).ownBlock ∧ some k_ ≠ (v13 : Value).ownBlock ∧ some k_ ≠ (u676001 : Value).ownBlock ∧ k_ ≠ gb667 ∧ k_ ≠ gb668 ∧ k_ ≠ gb675) u676000 x676000_2) ∧ Aside0 (Kd.R Kd.bool 4 w' w.heap.size (fun k_ => (w.heap.size ≤ k_)) u676001 x676001_2) ∧ Aside0 (w'.heap[gb667]? = some (.cells #[.bool a0_0, (.slice A0_1 l0_1.length c0_1), (.slice A0_2 l0_2.length c0_2), (.slice A0_3 l0_3.length c0_3), (.slice A0_4 l0_4.length c0_4)] 30 (0, 0))) ∧ Aside0 (w'.heap[gb668]? = some (.cells #[(.slice none 0 0), (.slice none 0 0)] 47 (0, 0))) ∧ Aside0 (w'.heap[gb675]? = some (.cells #[u676000, u676001] 47 (0, 0))) ∧ Aside0 (Below w.heap.size w w'))
       case atStart => exact ⟨(x10_2), (([] : List Int)), (0), (by first | rfl | (simp; done) | (simp [*]; done)), H', ⟨Nat.le_refl _⟩, ⟨by (with_reducible repeat (first | apply Kd.N_alloc | apply Kd.N_drewN | apply Kd.N_drew)); exact Kd.N_mono HO_10.out (fun _ hk => ⟨hk.1, ⟨(by simp [Value.ownBlock]), ⟨hk.2.1, ⟨hk.2.2.1, ⟨hk.2.2.2.1, ⟨hk.2.2.2.2.1, hk.2.2.2.2.2⟩⟩⟩⟩⟩⟩)⟩, ⟨by first | exact Kd.R_nil _ _ _ _ _ | exact Kd.N_nil _ _ _ _ _ | exact Kd.V_nil _ _ _ _ _ | exact Kd.Q_nil _ _ _ _ _ | exact Kd.S_nil _ _ _ _ _⟩, ⟨by (with_reducible repeat (first | apply Kd.N_alloc | apply Kd.N_drewN | apply Kd.N_drew)); exact Kd.N_mono HO_676000.out (fun _ hk => ⟨hk.1, ⟨hk.2.1, ⟨(by simp [Value.ownBlock]), ⟨hk.2.2.1, ⟨hk.2.2.2.1, ⟨hk.2.2.2.2.1, hk.2.2.2.2.2⟩⟩⟩⟩⟩⟩)⟩, ⟨by (with_reducible repeat (first | apply Kd.R_alloc | apply Kd.R_drewN | apply Kd.R_drew)); exact HO_676001.out⟩, ⟨by (with_reducible repeat (first | refine blk_drewN ?_ _ | refine blk_drew ?_ | refine blk_alloc ?_ _)); exact BK667.out⟩, ⟨by (with_reducible repeat (first | refine blk_drewN ?_ _ | refine blk_drew ?_ | refine blk_alloc ?_ _)); exact BK668.out⟩, ⟨by (with_reducible repeat (first | refine blk_drewN ?_ _ | refine blk_drew ?_ | refine blk_alloc ?_ _)); exact BK675.out⟩, ⟨by repeat (first | (with_reducible first | exact HB.out | apply below_alloc | apply pw_below_drewN | apply below_drew1 | refine below_set ?_ GE667.out | refine below_set ?_ GE668.out | refine below_set ?_ GE675.out) | exact HB.out)⟩⟩
       case round =>
        clear H'
        try clear c1
        try clear c2
        try clear p2
        try clear c3
        try clear c8
        try clear c8b0
        try clear c8b1
        try clear c9
        try clear c9b0
        try clear c9b1
        try clear c10
        try clear c10b0
        try clear c11
        try clear c12
        try clear c20
        try clear c20b0
        try clear hcz13_0
        try clear hcz13_1
        try clear hfz13_0
        try clear hfz13_1
        try clear p2
        obtain ⟨x10_3, x13_3, x14_3, rfl, HA, HK3, HO_10, HO_13, HO_676000, HO_676001, BK667, BK668, BK675, HB⟩ := hrel
        cases gk with
        | zero => exact absurd HA.out (by simp [scansionref12_Build.l1])
        | succ k3 =>
         have H := HA.out
         clear HA
         simp only [scansionref12_Build.l1] at H
         by_cases c22 : x14_3 < (l1.length : Int)
         ·rw [if_pos c22] at H
          have c22b0 : decide (x14_3 < (l1.length : Int)) = true := decide_eq_true c22
          clear c22
          by_cases c23 : 0 ≤ x12_2
          ·rw [if_pos c23] at H
           have c23b0 : decide (0 ≤ x12_2) = true := decide_eq_true c23
           clear c23
           by_cases c24 : x12_2 < (x10_3.length : Int)
           ·rw [if_pos c24] at H
            have c24b0 : decide (x12_2 < (x10_3.length : Int)) = true := decide_eq_true c24
            clear c24
            by_cases c25 : 0 ≤ x14_3
            ·rw [if_pos c25] at H
             have c25b0 : decide (0 ≤ x14_3) = true := decide_eq_true c25
             clear c25
             replace H := Option.bind_eq_some_iff.mp H
             obtain ⟨t686, A260, H⟩ := H
             replace H : (if a2 = true then ((some (([0] : List Int) : List Int)).bind fun y689 => (if y689.length + t686.length < 17592186044416 then (scansionref12_Build.j3 k3 l1 a2 a3 x10_3 x12_2 x13_3 x14_3 (y689 ++ t686) a0_0 l0_1 l0_2 l0_3 l0_4 x676000_2 x676001_2) else (none))) else (scansionref12_Build.j3 k3 l1 a2 a3 x10_3 x12_2 x13_3 x14_3 t686 a0_0 l0_1 l0_2 l0_3 l0_4 x676000_2 x676001_2)) = some (r1, r2, r3) := H
             have A26 := Aside0.mk A260
             clear A260
             have HC27 := Aside0.mk H
             clear H
             try go_wp2
             have n0_ := Aside0.mk (Kd.N_drew HO_10.out)
             have n1_ := Aside0.mk (Kd.R_drew HO_13.out)
             have n2_ := Aside0.mk (Kd.N_drew HO_676000.out)
             have n3_ := Aside0.mk (Kd.R_drew HO_676001.out)
             have n4_ := Aside0.mk (blk_drew BK667.out)
             have n5_ := Aside0.mk (blk_drew BK668.out)
             have n6_ := Aside0.mk (blk_drew BK675.out)
             have n7_ := Aside0.mk (below_drew1 HB.out)
             clear HO_10
             clear HO_13
             clear HO_676000
             clear HO_676001
             clear BK667
             clear BK668
             clear BK675
             clear HB
             have HO_10 := n0_
             have HO_13 := n1_
             have HO_676000 := n2_
             have HO_676001 := n3_
             have BK667 := n4_
             have BK668 := n5_
             have BK675 := n6_
             have HB := n7_
             clear n0_ n1_ n2_ n3_ n4_ n5_ n6_ n7_
             obtain ⟨Ao29, co29, eo29⟩ := Kd.N_slice HO_10.out
             (first | subst eo29 | (injection eo29 with f1_ f2_ f3_; have f4_ := f1_.symm; have f5_ := f3_.symm; clear f1_ f2_ f3_; subst f4_; subst f5_))
             have p684 : 0 ≤ (x12_2 : Int) := of_decide_eq_true (by first | (with_reducible assumption) | assumption)
             have q684 : x12_2 < (x10_3.length : Int) := of_decide_eq_true (by first | (with_reducible assumption) | assumption)
             obtain ⟨ad684, A684_0, c684_0, e684, hx684_0, hl684_0, hi684_0⟩ := at_L3 (Kd.N_reads' HO_10.out).2.2 x12_2 p684 q684
             cases e684
             obtain ⟨ce684, hce684, hMe684, hcc684⟩ := Kd.N_get HO_10.out [] x12_2 p684 (by first | exact q684 | exact of_decide_eq_true (by first | (with_reducible assumption) | assumption) | (have e_ := (Kd.N_reads' HO_10.out).1; omega))
             obtain ⟨ua684_0, uc684_0, rfl, ul684_0, ge684_0⟩ := Kd.FK_slice_open hMe684
             have hv684_0 := hcc684 0 _ rfl
             rw [Nat.add_zero, show ((Kd.slice 3 (Kd.int .i64))).sz = 1 from rfl, Nat.mul_one] at hv684_0
             replace hv684_0 := Option.some.inj (hv684_0.symm.trans hx684_0)
             injection hv684_0 with hva_ hvn_ hvc_
             rw [hva_] at ge684_0
             rw [hvc_] at ul684_0
             have HL684_0 := Aside0.mk (show Kd.V (Kd.int .i64) 3 _ w.heap.size _ _ (rd_L3 x10_3 x12_2) from Kd.V_mk ul684_0 ge684_0)
             clear hva_ hvn_ hvc_ ge684_0 ul684_0
             clear hcc684 hce684
             have HR684_0 := Aside0.mk hi684_0
             have HC684_0 := Aside0.mk hl684_0
             clear hi684_0 hl684_0
             replace p684 := eq_true p684
             replace q684 := eq_true q684
             have p685 : 0 ≤ (x14_3 : Int) := of_decide_eq_true (by first | (with_reducible assumption) | assumption)
             have q685 : x14_3 < (l1.length : Int) := of_decide_eq_true (by first | (with_reducible assumption) | assumption)
             obtain ⟨ad685, e685, hx685_0⟩ := Kd.at_int HR1.out x14_3 p685 q685
             have hw685_0 := hx685_0
             cases e685
             replace hx685_0 := (HB.out.cell (World.block_lt_of_cell? w _ hx685_0)).trans hx685_0
             replace p685 := eq_true p685
             replace q685 := eq_true q685
             refine start_ (n := 11) (S := fun w' => w'.cell? ⟨gb667, 0, none⟩ = some (.bool a0_0) ∧ w'.cell? ⟨gb667, 1, none⟩ = some (.slice A0_1 l0_1.length c0_1) ∧ w'.cell? ⟨gb667, 2, none⟩ = some (.slice A0_2 l0_2.length c0_2) ∧ w'.cell? ⟨gb667, 3, none⟩ = some (.slice A0_3 l0_3.length c0_3) ∧ w'.cell? ⟨gb667, 4, none⟩ = some (.slice A0_4 l0_4.length c0_4) ∧ w'.cell? (ad684.add (x12_2).toNat) = some (.slice A684_0 (rd_L3 x10_3 x12_2).length c684_0) ∧ w'.cell? (ad685.add (x14_3).toNat) = some (.int .u64 (rd l1 x14_3))) (ds := []) #[false, false, false, false, false, false, false, false, false, false, false] (by kernel_rfl) rfl rfl ⟨(blk_cell BK667.out 0).trans rfl, (blk_cell BK667.out 1).trans rfl, (blk_cell BK667.out 2).trans rfl, (blk_cell BK667.out 3).trans rfl, (blk_cell BK667.out 4).trans rfl, hx684_0, ((HB.out.cell (World.block_lt_of_cell? w _ hw685_0)).trans hw685_0)⟩ (fun hHeld => ?_); refine with_tabW scansionref12_Build.tab12 scansionref12_Build.bits12 (fun HT_ HW_ => ?_)
             generalize wr.drew = w28 at HO_10 HO_13 HO_676000 HO_676001 BK667 BK668 BK675 HB HL684_0 HR684_0 hx684_0 hx685_0 hHeld ⊢
             refine pure_ (i := 1) (N := some 49) (v := ?_) (a' := ?_) #[false, true, false, false, false, false, false, false, false, false, false] rfl rfl (any_of HT_.out (by kernel_rfl)) (fun _ _ _ h => h) (Or.inl ⟨by rfl, ?_⟩) ?_ ?_
             rotate_left
             ·intro w'
              go_simp
              with_reducible rfl
             rotate_left
             ·simp only [Act.put, List.setIfInBounds_toArray, List.set_cons_zero, List.set_cons_succ, i64_w, i32_w]
              rfl
             refine pure_ (i := 2) (N := some 50) (v := ?_) (a' := ?_) #[false, true, true, false, false, false, false, false, false, false, false] rfl rfl (any_of HT_.out (by kernel_rfl)) (fun _ _ _ h => h) (Or.inl ⟨by rfl, ?_⟩) ?_ ?_
             rotate_left
             ·intro w'
              go_simp
              with_reducible rfl
             rotate_left
             ·simp only [Act.put, List.setIfInBounds_toArray, List.set_cons_zero, List.set_cons_succ, i64_w, i32_w]
              rfl
             refine pure_ (i := 3) (N := some 51) (v := ?_) (a' := ?_) #[false, true, true, true, false, false, false, false, false, false, false] rfl rfl (any_of HT_.out (by kernel_rfl)) (fun _ _ _ h => h) (Or.inl ⟨by rfl, ?_⟩) ?_ ?_
             rotate_left
             ·intro w'
              go_simp
              with_reducible rfl
             rotate_left
             ·simp only [Act.put, List.setIfInBounds_toArray, List.set_cons_zero, List.set_cons_succ, i64_w, i32_w]
              rfl
             refine pure_ (i := 5) (N := some 53) (v := ?_) (a' := ?_) #[false, true, true, true, false, true, false, false, false, false, false] rfl rfl (any_of HT_.out (by kernel_rfl)) (fun _ _ _ h => h) (Or.inl ⟨by rfl, ?_⟩) ?_ ?_
             rotate_left
             ·intro w'
              go_simp
              with_reducible rfl
             rotate_left
             ·simp only [Act.put, List.setIfInBounds_toArray, List.set_cons_zero, List.set_cons_succ, i64_w, i32_w]
              rfl
             refine pure_ (i := 6) (N := some 54) (v := ?_) (a' := ?_) #[false, true, true, true, false, true, true, false, false, false, false] rfl rfl (any_of HT_.out (by kernel_rfl)) (fun _ _ _ h => h) (Or.inl ⟨by rfl, ?_⟩) ?_ ?_
             rotate_left
             ·intro w'
              go_simp
              with_reducible rfl
             rotate_left
             ·simp only [Act.put, List.setIfInBounds_toArray, List.set_cons_zero, List.set_cons_succ, i64_w, i32_w]
              rfl
             refine pure_ (i := 7) (N := some 55) (v := ?_) (a' := ?_) #[false, true, true, true, false, true, true, true, false, false, false] rfl rfl (any_of HT_.out (by kernel_rfl)) (fun _ _ _ h => h) (Or.inl ⟨by rfl, ?_⟩) ?_ ?_
             rotate_left
             ·intro w'
              go_simp
              with_reducible rfl
             rotate_left
             ·simp only [Act.put, List.setIfInBounds_toArray, List.set_cons_zero, List.set_cons_succ, i64_w, i32_w]
              rfl
             refine take_ (i := 0) (N := some 48) (v := ?_) (a' := ?_) #[true, true, true, true, false, true, true, true, false, false, false] rfl rfl (take_ofW HT_.out HW_.out (by kernel_rfl)) (fun _ _ _ h => h) (Or.inl ⟨by rfl, ?_⟩) hHeld ?_ ?_
             rotate_left
             ·rintro w' ⟨s0, s1, s2, s3, s4, s5, s6⟩
              go_simp
              with_reducible rfl
             rotate_left
             ·simp only [Act.put, List.setIfInBounds_toArray, List.set_cons_zero, List.set_cons_succ, i64_w, i32_w]
              rfl
             refine take_ (i := 4) (N := some 52) (v := ?_) (a' := ?_) #[true, true, true, true, true, true, true, true, false, false, false] rfl rfl (take_ofW HT_.out HW_.out (by kernel_rfl)) (fun _ _ _ h => h) (Or.inl ⟨by rfl, ?_⟩) hHeld ?_ ?_
             rotate_left
             ·rintro w' ⟨s0, s1, s2, s3, s4, s5, s6⟩
              go_simp
              with_reducible rfl
             rotate_left
             ·simp only [Act.put, List.setIfInBounds_toArray, List.set_cons_zero, List.set_cons_succ, i64_w, i32_w]
              rfl
             refine take_ (i := 8) (N := some 56) (v := ?_) (a' := ?_) #[true, true, true, true, true, true, true, true, true, false, false] rfl rfl (take_ofW HT_.out HW_.out (by kernel_rfl)) (fun _ _ _ h => h) (Or.inl ⟨by rfl, ?_⟩) hHeld ?_ ?_
             rotate_left
             ·rintro w' ⟨s0, s1, s2, s3, s4, s5, s6⟩
              go_simp
              with_reducible rfl
             rotate_left
             ·simp only [Act.put, List.setIfInBounds_toArray, List.set_cons_zero, List.set_cons_succ, i64_w, i32_w]
              rfl
             refine one_ (i := 9) (N := some 57) #[true, true, true, true, true, true, true, true, true, true, false] rfl rfl (one_of HT_.out (by kernel_rfl)) (by decide) (fun K hK => ?_)
             refine goes_ Try.func29 (by kernel_rfl) rfl #[.agg #[.bool a0_0, .slice A0_1 l0_1.length c0_1, .slice A0_2 l0_2.length c0_2, .slice A0_3 l0_3.length c0_3, .slice A0_4 l0_4.length c0_4], .slice A684_0 (rd_L3 x10_3 x12_2).length c684_0, .int .u64 (rd l1 x14_3)] (by rfl) rfl rfl (by (try simp only [List.map_toArray, List.map_cons, List.map_nil]); first | done | rfl | (simp only [List.length_drop, List.length_take]; rfl)) ?_
             with_reducible refine (scansionref11_Step.calls k3 a0_0 _ _ l0_1 _ _ l0_2 _ _ l0_3 _ _ l0_4 _ _ (rd_L3 x10_3 x12_2) (rd l1 x14_3) t686 _ ?side1 ?side2 ?side3 ?side4 ?side5 ?side6 ?side7 ?side8 ?side9 ?side10 A26.out).mono ?_
             (case side1 => repeat (first | exact (Kd.C_below HR0_1.out HB.out) | (with_reducible refine Kd.C_alloc ?_ _) | (with_reducible refine Kd.C_drewN ?_ _) | (with_reducible refine Kd.C_drew ?_)))
             (case side2 => exact HC0_1.out)
             (case side3 => repeat (first | exact (Kd.C_below HR0_2.out HB.out) | (with_reducible refine Kd.C_alloc ?_ _) | (with_reducible refine Kd.C_drewN ?_ _) | (with_reducible refine Kd.C_drew ?_)))
             (case side4 => exact HC0_2.out)
             (case side5 => repeat (first | exact (Kd.C_below HR0_3.out HB.out) | (with_reducible refine Kd.C_alloc ?_ _) | (with_reducible refine Kd.C_drewN ?_ _) | (with_reducible refine Kd.C_drew ?_)))
             (case side6 => exact HC0_3.out)
             (case side7 => repeat (first | exact (Kd.C_below HR0_4.out HB.out) | (with_reducible refine Kd.C_alloc ?_ _) | (with_reducible refine Kd.C_drewN ?_ _) | (with_reducible refine Kd.C_drew ?_)))
             (case side8 => exact HC0_4.out)
             (case side9 => repeat (first | exact (by repeat (first | (with_reducible exact HR684_0.out) | (with_reducible refine Kd.C_alloc ?_ _) | (with_reducible refine Kd.C_drewN ?_ _) | (with_reducible refine Kd.C_drew ?_) | exact HR684_0.out)) | (with_reducible refine Kd.C_alloc ?_ _) | (with_reducible refine Kd.C_drewN ?_ _) | (with_reducible refine Kd.C_drew ?_)))
             (case side10 => exact HC684_0.out)
             rintro e w30 ⟨v687, rfl, ho0, hb⟩
             have HS5_ := (hb.cell (World.block_lt_of_cell? _ _ (hHeld.2.2.2.2.2.1))).trans (hHeld.2.2.2.2.2.1)
             refine ⟨_, rfl, ?_⟩
             have n0_ := Aside0.mk (Kd.N_elder' (by (with_reducible repeat (first | apply Kd.N_alloc | apply Kd.N_drewN | apply Kd.N_drew)); exact HO_10.out) (Kd.R_base ho0) hb)
             have n1_ := Aside0.mk (Kd.R_elder' (by (with_reducible repeat (first | apply Kd.R_alloc | apply Kd.R_drewN | apply Kd.R_drew)); exact HO_13.out) (Kd.R_base ho0) hb)
             have n2_ := Aside0.mk (Kd.N_elder' (by (with_reducible repeat (first | apply Kd.N_alloc | apply Kd.N_drewN | apply Kd.N_drew)); exact HO_676000.out) (Kd.R_base ho0) hb)
             have n3_ := Aside0.mk (Kd.R_below (by (with_reducible repeat (first | apply Kd.R_alloc | apply Kd.R_drewN | apply Kd.R_drew)); exact HO_676001.out) hb)
             have n4_ := Aside0.mk (Kd.V_elder' (by (with_reducible repeat (first | apply Kd.V_alloc | apply Kd.V_drewN | apply Kd.V_drew)); exact HL684_0.out) (Kd.R_base ho0) hb)
             have n5_ := Aside0.mk (Kd.R_lower (Kd.R_new' (Kd.R_newM (M := fun k_ => (w.heap.size ≤ k_)) ho0 (below_size (by repeat (first | (with_reducible first | exact HB.out | apply below_alloc | apply pw_below_drewN | apply below_drew1 | refine below_set ?_ GE667.out | refine below_set ?_ GE668.out | refine below_set ?_ GE675.out) | exact HB.out))) (fun k_ h_ => h_)) (Kd.R_lt (by (with_reducible repeat (first | apply Kd.R_alloc | apply Kd.R_drewN | apply Kd.R_drew)); exact HO_13.out))) (below_size (by repeat (first | (with_reducible first | exact HB.out | apply below_alloc | apply pw_below_drewN | apply below_drew1 | refine below_set ?_ GE667.out | refine below_set ?_ GE668.out | refine below_set ?_ GE675.out) | exact HB.out))))
             have n6_ := Aside0.mk (blk_below (g := gb667) (o := .cells #[.bool a0_0, .slice A0_1 l0_1.length c0_1, .slice A0_2 l0_2.length c0_2, .slice A0_3 l0_3.length c0_3, .slice A0_4 l0_4.length c0_4] 30 (0, 0)) (by (with_reducible repeat (first | refine blk_drewN ?_ _ | refine blk_drew ?_ | refine blk_alloc ?_ _)); exact BK667.out) hb)
             have n7_ := Aside0.mk (blk_below (g := gb668) (o := .cells #[.slice none 0 0, .slice none 0 0] 47 (0, 0)) (by (with_reducible repeat (first | refine blk_drewN ?_ _ | refine blk_drew ?_ | refine blk_alloc ?_ _)); exact BK668.out) hb)
             have n8_ := Aside0.mk (blk_below (g := gb675) (o := .cells #[u676000, u676001] 47 (0, 0)) (by (with_reducible repeat (first | refine blk_drewN ?_ _ | refine blk_drew ?_ | refine blk_alloc ?_ _)); exact BK675.out) hb)
             have n9_ := Aside0.mk (Kd.C_below (by repeat (first | (with_reducible exact HR684_0.out) | (with_reducible refine Kd.C_alloc ?_ _) | (with_reducible refine Kd.C_drewN ?_ _) | (with_reducible refine Kd.C_drew ?_) | exact HR684_0.out)) hb)
             have n10_ := Aside0.mk (below_step (by repeat (first | (with_reducible first | exact HB.out | apply below_alloc | apply pw_below_drewN | apply below_drew1 | refine below_set ?_ GE667.out | refine below_set ?_ GE668.out | refine below_set ?_ GE675.out) | exact HB.out)) hb)
             clear HO_10
             clear HO_13
             clear HO_676000
             clear HO_676001
             clear HL684_0
             clear BK667
             clear BK668
             clear BK675
             clear HR684_0
             clear HB
             have HO_10 := n0_
             have HO_13 := n1_
             have HO_676000 := n2_
             have HO_676001 := n3_
             have HL684_0 := n4_
             have HO688 := n5_
             have BK667 := n6_
             have BK668 := n7_
             have BK675 := n8_
             have HR684_0 := n9_
             have HB := n10_
             clear n0_ n1_ n2_ n3_ n4_ n5_ n6_ n7_ n8_ n9_ n10_
             (try clear hb)
             (try clear hb2)
             (try clear hk)
             (try clear hi)
             (try clear ho0)
             refine hK.out _ _ ⟨(blk_cell BK667.out 0).trans rfl, (blk_cell BK667.out 1).trans rfl, (blk_cell BK667.out 2).trans rfl, (blk_cell BK667.out 3).trans rfl, (blk_cell BK667.out 4).trans rfl, HS5_, ((HB.out.cell (World.block_lt_of_cell? w _ hw685_0)).trans hw685_0)⟩ (fun hHeld => ?_)
             clear hK K
             refine norm_ (a' := ?_) ?_ ?_
             rotate_left
             ·show Act.put _ (some 57) _ = _
              simp only [Act.put, List.setIfInBounds_toArray, List.set_cons_zero, List.set_cons_succ, i64_w, i32_w]
              rfl
             refine pure_ (i := 10) (N := some 15) (v := ?_) (a' := ?_) #[true, true, true, true, true, true, true, true, true, true, true] rfl rfl (any_of HT_.out (by kernel_rfl)) (fun _ _ _ h => h) (Or.inl ⟨by rfl, ?_⟩) ?_ ?_
             rotate_left
             ·intro w'
              go_simp
              with_reducible rfl
             rotate_left
             ·simp only [Act.put, List.setIfInBounds_toArray, List.set_cons_zero, List.set_cons_succ, i64_w, i32_w]
              rfl
             refine done_ (done_of HT_.out (by kernel_rfl)) ?_
             go_upto_if 58 with (fail)
             go_cut [15] (fun v15 wc => ∃ (kq : Nat) (x15_26 : List Int), Aside0 (scansionref12_Build.j3 kq l1 a2 a3 x10_3 x12_2 x13_3 x14_3 x15_26 a0_0 l0_1 l0_2 l0_3 l0_4 x676000_2 x676001_2 = some (r1, r2, r3)) ∧ Aside0 (kq ≤ k3) ∧ Aside0 (Kd.N (Kd.slice 3 (Kd.int .i64)) 27 wc w.heap.size (fun k_ => (w.heap.size ≤ k_) ∧ some k_ ≠ (u13 : Value).ownBlock ∧ some k_ ≠ (v15 : Value).ownBlock ∧ some k_ ≠ (u676000 : Value).ownBlock ∧ some k_ ≠ (u676001 : Value).ownBlock ∧ k_ ≠ gb667 ∧ k_ ≠ gb668 ∧ k_ ≠ gb675) (.slice (some ad684) x10_3.length co29) x10_3) ∧ Aside0 (Kd.R (Kd.int .i64) 3 wc w.heap.size (fun k_ => (w.heap.size ≤ k_) ∧ some k_ ≠ (v15 : Value).ownBlock) u13 x13_3) ∧ Aside0 (Kd.R (Kd.int .i64) 3 wc w.heap.size (fun k_ => (w.heap.size ≤ k_) ∧ some k_ ≠ (u13 : Value).ownBlock) v15 x15_26) ∧ Aside0 (Kd.N (Kd.slice 3 (Kd.int .i64)) 27 wc w.heap.size (fun k_ => (w.heap.size ≤ k_) ∧ some k_ ≠ ((.slice (some ad684) x10_3.length co29) : Value).ownBlock ∧ some k_ ≠ (u13 : Value).ownBlock ∧ some k_ ≠ (v15 : Value).ownBlock ∧ some k_ ≠ (u676001 : Value).ownBlock ∧ k_ ≠ gb667 ∧ k_ ≠ gb668 ∧ k_ ≠ gb675) u676000 x676000_2) ∧ Aside0 (Kd.R Kd.bool 4 wc w.heap.size (fun k_ => (w.heap.size ≤ k_)) u676001 x676001_2) ∧ Aside0 (wc.heap[gb667]? = some (.cells #[.bool a0_0, (.slice A0_1 l0_1.length c0_1), (.slice A0_2 l0_2.length c0_2), (.slice A0_3 l0_3.length c0_3), (.slice A0_4 l0_4.length c0_4)] 30 (0, 0))) ∧ Aside0 (wc.heap[gb668]? = some (.cells #[(.slice none 0 0), (.slice none 0 0)] 47 (0, 0))) ∧ Aside0 (wc.heap[gb675]? = some (.cells #[u676000, u676001] 47 (0, 0))) ∧ Aside0 (Below w.heap.size w wc))
             case first =>
              have H := HC27.out
              clear HC27
              by_cases c31 : a2 = true
              ·subst c31
               have H1 : ((some (([0] : List Int) : List Int)).bind fun y689 => (if y689.length + t686.length < 17592186044416 then (scansionref12_Build.j3 k3 l1 true a3 x10_3 x12_2 x13_3 x14_3 (y689 ++ t686) a0_0 l0_1 l0_2 l0_3 l0_4 x676000_2 x676001_2) else (none))) = some (r1, r2, r3) := by rw [if_pos rfl] at H; exact H
               clear H
               have H := H1
               clear H1
               obtain ⟨y689, hy689⟩ : ∃ y_ : List Int, y_ = (([0] : List Int)) := ⟨_, rfl⟩
               replace H : (if y689.length + t686.length < 17592186044416 then (scansionref12_Build.j3 k3 l1 true a3 x10_3 x12_2 x13_3 x14_3 (y689 ++ t686) a0_0 l0_1 l0_2 l0_3 l0_4 x676000_2 x676001_2) else (none)) = some (r1, r2, r3) := by first | (rw [hy689]; with_reducible exact H) | (have H2_ := (Option.bind_some _ _).symm.trans H; rw [hy689]; with_reducible exact H2_) | (have H2_ := (Option.bind_some _ _).symm.trans H; with_reducible exact H2_) | with_reducible exact H | (rw [hy689]; exact H) | exact H
               have Ny689 := Aside0.mk hy689
               clear hy689
               by_cases c32 : y689.length + t686.length < 17592186044416
               ·rw [if_pos c32] at H
                have LMc32 := Aside0.mk c32
                clear c32
                obtain ⟨y692, hy692⟩ : ∃ y_ : List Int, y_ = (y689 ++ t686) := ⟨_, rfl⟩
                replace H : (scansionref12_Build.j3 k3 l1 true a3 x10_3 x12_2 x13_3 x14_3 y692 a0_0 l0_1 l0_2 l0_3 l0_4 x676000_2 x676001_2) = some (r1, r2, r3) := by first | (rw [hy692]; with_reducible exact H) | (have H2_ := (Option.bind_some _ _).symm.trans H; rw [hy692]; with_reducible exact H2_) | (have H2_ := (Option.bind_some _ _).symm.trans H; with_reducible exact H2_) | with_reducible exact H | (rw [hy692]; exact H) | exact H
                have Ny692 := Aside0.mk hy692
                clear hy692
                have H' := Aside0.mk H
                clear H
                go_wp2_with (first | ((with_reducible refine gate_dst (N := 59) rfl ?_); (try (refine gate_guard (by rfl) ?_; dsimp only)); refine Kd.R_lit (Kd.int .i64) _ 3 ?hg (N := 59) ?hd (xs := ([0] : List Int)) (inner := [.int .i64 0]) (ok := fun _ => True) (okp := fun _ => True) ?hr ?hp (fun _ hk => hk) trivial (Below.refl _ _) (Nat.le_refl _) (by simp) ?_; (case hd => rfl); (case hg => rfl); (case hr => first | (go_simp; done) | (go_simp; rfl)); (case hp => exact (Reps.one (show Kd.M (Kd.int .i64) _ _ _ 0 [.int .i64 0] from rfl) (Reps.none _ _))); intro v690 w33 ho34 hb hg_ hnew_; clear hg_ hnew_; (first | rw [← Ny689.out] at ho34 | (simp only [Int.reduceToNat] at ho34; rw [← Ny689.out] at ho34)); have n0_ := Aside0.mk (Kd.N_elder' (by (with_reducible repeat (first | apply Kd.N_alloc | apply Kd.N_drewN | apply Kd.N_drew)); exact HO_10.out) (Kd.R_base ho34) hb); have n1_ := Aside0.mk (Kd.R_elder' (by (with_reducible repeat (first | apply Kd.R_alloc | apply Kd.R_drewN | apply Kd.R_drew)); exact HO_13.out) (Kd.R_base ho34) hb); have n2_ := Aside0.mk (Kd.N_elder' (by (with_reducible repeat (first | apply Kd.N_alloc | apply Kd.N_drewN | apply Kd.N_drew)); exact HO_676000.out) (Kd.R_base ho34) hb); have n3_ := Aside0.mk (Kd.R_below (by (with_reducible repeat (first | apply Kd.R_alloc | apply Kd.R_drewN | apply Kd.R_drew)); exact HO_676001.out) hb); have n4_ := Aside0.mk (Kd.V_elder' (by (with_reducible repeat (first | apply Kd.V_alloc | apply Kd.V_drewN | apply Kd.V_drew)); exact HL684_0.out) (Kd.R_base ho34) hb); have n5_ := Aside0.mk (Kd.R_elder' (by (with_reducible repeat (first | apply Kd.R_alloc | apply Kd.R_drewN | apply Kd.R_drew)); exact HO688.out) (Kd.R_base ho34) hb); have n6_ := Aside0.mk (Kd.R_lower (Kd.R_new' (Kd.R_new' (Kd.R_newM (M := fun k_ => (w.heap.size ≤ k_)) ho34 (below_size (by repeat (first | (with_reducible first | exact HB.out | apply below_alloc | apply pw_below_drewN | apply below_drew1 | refine below_set ?_ GE667.out | refine below_set ?_ GE668.out | refine below_set ?_ GE675.out) | exact HB.out))) (fun k_ h_ => h_)) (Kd.R_lt (by (with_reducible repeat (first | apply Kd.R_alloc | apply Kd.R_drewN | apply Kd.R_drew)); exact HO_13.out))) (Kd.R_lt (by (with_reducible repeat (first | apply Kd.R_alloc | apply Kd.R_drewN | apply Kd.R_drew)); exact HO688.out))) (below_size (by repeat (first | (with_reducible first | exact HB.out | apply below_alloc | apply pw_below_drewN | apply below_drew1 | refine below_set ?_ GE667.out | refine below_set ?_ GE668.out | refine below_set ?_ GE675.out) | exact HB.out)))); have n7_ := Aside0.mk (blk_below (g := gb667) (o := .cells #[.bool a0_0, .slice A0_1 l0_1.length c0_1, .slice A0_2 l0_2.length c0_2, .slice A0_3 l0_3.length c0_3, .slice A0_4 l0_4.length c0_4] 30 (0, 0)) (by (with_reducible repeat (first | refine blk_drewN ?_ _ | refine blk_drew ?_ | refine blk_alloc ?_ _)); exact BK667.out) hb); have n8_ := Aside0.mk (blk_below (g := gb668) (o := .cells #[.slice none 0 0, .slice none 0 0] 47 (0, 0)) (by (with_reducible repeat (first | refine blk_drewN ?_ _ | refine blk_drew ?_ | refine blk_alloc ?_ _)); exact BK668.out) hb); have n9_ := Aside0.mk (blk_below (g := gb675) (o := .cells #[u676000, u676001] 47 (0, 0)) (by (with_reducible repeat (first | refine blk_drewN ?_ _ | refine blk_drew ?_ | refine blk_alloc ?_ _)); exact BK675.out) hb); have n10_ := Aside0.mk (Kd.C_below (by repeat (first | (with_reducible exact HR684_0.out) | (with_reducible refine Kd.C_alloc ?_ _) | (with_reducible refine Kd.C_drewN ?_ _) | (with_reducible refine Kd.C_drew ?_) | exact HR684_0.out)) hb); have n11_ := Aside0.mk (below_step (by repeat (first | (with_reducible first | exact HB.out | apply below_alloc | apply pw_below_drewN | apply below_drew1 | refine below_set ?_ GE667.out | refine below_set ?_ GE668.out | refine below_set ?_ GE675.out) | exact HB.out)) hb); clear HO_10; clear HO_13; clear HO_676000; clear HO_676001; clear HL684_0; clear HO688; clear BK667; clear BK668; clear BK675; clear HR684_0; clear HB; have HO_10 := n0_; have HO_13 := n1_; have HO_676000 := n2_; have HO_676001 := n3_; have HL684_0 := n4_; have HO688 := n5_; have HO691 := n6_; have BK667 := n7_; have BK668 := n8_; have BK675 := n9_; have HR684_0 := n10_; have HB := n11_; clear n0_ n1_ n2_ n3_ n4_ n5_ n6_ n7_ n8_ n9_ n10_ n11_; clear hb ho34; obtain ⟨Ao36, co36, eo36⟩ := Kd.R_slice HO688.out; subst eo36) | ((with_reducible refine gate_builtin (b := .append) (xs := #[.tmp 59, .tmp 60]) rfl ?_); (try (refine gate_guard (by rfl) ?_; dsimp only)); at_builtin; refine Kd.R_append_rows (Kd.int .i64) (w0 := w) w.heap.size rfl (.tmp 59) (.tmp 60) 27 3 (.int .i64 0) 8 rfl Try.underlying27 info3 rfl (by decide) (by omega) v690 y689 t686 _ _ _ (fun k_ => (w.heap.size ≤ k_) ∧ some k_ ≠ (u13 : Value).ownBlock ∧ some k_ ≠ (.slice Ao36 t686.length co36 : Value).ownBlock) (fun _ => False) rfl rfl ?aO ?aR (fun _ _ h => h) (fun _ h => h.elim) ?aF ?aB ?aS ?aL ?_; (case aR => repeat (first | exact (Kd.R_reads' HO688.out).2.2 | (with_reducible refine Kd.C_alloc ?_ _) | (with_reducible refine Kd.C_drewN ?_ _) | (with_reducible refine Kd.C_drew ?_))); (case aB => exact (by repeat (first | (with_reducible first | exact HB.out | apply below_alloc | apply pw_below_drewN | apply below_drew1 | refine below_set ?_ GE667.out | refine below_set ?_ GE668.out | refine below_set ?_ GE675.out) | exact HB.out))); (case aF => exact (fun k_ hk => ⟨(Nat.le_trans (below_size (by repeat (first | (with_reducible first | exact HB.out | apply below_alloc | apply pw_below_drewN | apply below_drew1 | refine below_set ?_ GE667.out | refine below_set ?_ GE668.out | refine below_set ?_ GE675.out) | exact HB.out))) hk), Kd.fresh' (Kd.R_lt (by (with_reducible repeat (first | apply Kd.R_alloc | apply Kd.R_drewN | apply Kd.R_drew)); exact HO_13.out)) k_ hk, Kd.fresh' (Kd.R_lt (by (with_reducible repeat (first | apply Kd.R_alloc | apply Kd.R_drewN | apply Kd.R_drew)); exact HO688.out)) k_ hk⟩)); (case aO => exact (by (with_reducible repeat (first | apply Kd.R_alloc | apply Kd.R_drewN | apply Kd.R_drew)); exact Kd.R_mono HO691.out (fun _ hk => ⟨hk.1.1.1, ⟨hk.1.2, hk.2⟩⟩))); (case aS => exact (below_size (by repeat (first | (with_reducible first | exact HB.out | apply below_alloc | apply pw_below_drewN | apply below_drew1 | refine below_set ?_ GE667.out | refine below_set ?_ GE668.out | refine below_set ?_ GE675.out) | exact HB.out)))); (case aL => have := LMc32.out; omega); intro v693 w35 ho hb hg hat; rw [← Ny692.out] at ho; have n0_ := Aside0.mk (Kd.N_afterv (ok := (fun k_ => (w.heap.size ≤ k_) ∧ some k_ ≠ (u13 : Value).ownBlock ∧ some k_ ≠ (u676000 : Value).ownBlock ∧ some k_ ≠ (u676001 : Value).ownBlock ∧ some k_ ≠ (.slice Ao36 t686.length co36 : Value).ownBlock ∧ k_ ≠ gb667 ∧ k_ ≠ gb668 ∧ k_ ≠ gb675)) (by (with_reducible repeat (first | apply Kd.N_alloc | apply Kd.N_drewN | apply Kd.N_drew)); exact Kd.N_mono HO_10.out (fun _ hk => ⟨⟨hk.1.1.1, ⟨hk.1.1.2.1, ⟨hk.1.1.2.2.1, ⟨hk.1.1.2.2.2.1, ⟨hk.1.2, ⟨hk.1.1.2.2.2.2.1, ⟨hk.1.1.2.2.2.2.2.1, hk.1.1.2.2.2.2.2.2⟩⟩⟩⟩⟩⟩⟩, hk.2⟩)) hg hat); have n1_ := Aside0.mk (Kd.R_after (ok := (fun k_ => (w.heap.size ≤ k_) ∧ some k_ ≠ (.slice Ao36 t686.length co36 : Value).ownBlock)) (by (with_reducible repeat (first | apply Kd.R_alloc | apply Kd.R_drewN | apply Kd.R_drew)); exact HO_13.out) hg hat); have n2_ := Aside0.mk (Kd.N_afterv (ok := (fun k_ => (w.heap.size ≤ k_) ∧ some k_ ≠ (.slice (some ad684) x10_3.length co29 : Value).ownBlock ∧ some k_ ≠ (u13 : Value).ownBlock ∧ some k_ ≠ (u676001 : Value).ownBlock ∧ some k_ ≠ (.slice Ao36 t686.length co36 : Value).ownBlock ∧ k_ ≠ gb667 ∧ k_ ≠ gb668 ∧ k_ ≠ gb675)) (by (with_reducible repeat (first | apply Kd.N_alloc | apply Kd.N_drewN | apply Kd.N_drew)); exact Kd.N_mono HO_676000.out (fun _ hk => ⟨⟨hk.1.1.1, ⟨hk.1.1.2.1, ⟨hk.1.1.2.2.1, ⟨hk.1.1.2.2.2.1, ⟨hk.1.2, ⟨hk.1.1.2.2.2.2.1, ⟨hk.1.1.2.2.2.2.2.1, hk.1.1.2.2.2.2.2.2⟩⟩⟩⟩⟩⟩⟩, hk.2⟩)) hg hat); have n3_ := Aside0.mk (Kd.R_over' (by (with_reducible repeat (first | apply Kd.R_alloc | apply Kd.R_drewN | apply Kd.R_drew)); exact HO_676001.out) (Kd.R_typed (by (with_reducible repeat (first | apply Kd.R_alloc | apply Kd.R_drewN | apply Kd.R_drew)); exact HO691.out)) (by decide) hg); have n4_ := Aside0.mk (blk_grown (g := gb667) (o := .cells #[.bool a0_0, .slice A0_1 l0_1.length c0_1, .slice A0_2 l0_2.length c0_2, .slice A0_3 l0_3.length c0_3, .slice A0_4 l0_4.length c0_4] 30 (0, 0)) (by (with_reducible repeat (first | refine blk_drewN ?_ _ | refine blk_drew ?_ | refine blk_alloc ?_ _)); exact BK667.out) hg (Kd.R_ne HO691.out BK667.out (by decide))); have n5_ := Aside0.mk (blk_grown (g := gb668) (o := .cells #[.slice none 0 0, .slice none 0 0] 47 (0, 0)) (by (with_reducible repeat (first | refine blk_drewN ?_ _ | refine blk_drew ?_ | refine blk_alloc ?_ _)); exact BK668.out) hg (Kd.R_ne HO691.out BK668.out (by decide))); have n6_ := Aside0.mk (blk_grown (g := gb675) (o := .cells #[u676000, u676001] 47 (0, 0)) (by (with_reducible repeat (first | refine blk_drewN ?_ _ | refine blk_drew ?_ | refine blk_alloc ?_ _)); exact BK675.out) hg (Kd.R_ne HO691.out BK675.out (by decide))); have n7_ := Aside0.mk (Kd.V_afterv (ok := (fun k_ => (w.heap.size ≤ k_) ∧ some k_ ≠ (.slice (some ad684) x10_3.length co29 : Value).ownBlock ∧ some k_ ≠ (u13 : Value).ownBlock ∧ some k_ ≠ (u676000 : Value).ownBlock ∧ some k_ ≠ (u676001 : Value).ownBlock ∧ some k_ ≠ (.slice Ao36 t686.length co36 : Value).ownBlock ∧ k_ ≠ gb667 ∧ k_ ≠ gb668 ∧ k_ ≠ gb675)) (by (with_reducible repeat (first | apply Kd.V_alloc | apply Kd.V_drewN | apply Kd.V_drew)); exact Kd.V_mono HL684_0.out (fun _ hk => ⟨⟨hk.1.1.1.1, ⟨hk.1.1.2, ⟨hk.1.1.1.2.1, ⟨hk.1.1.1.2.2.1, ⟨hk.1.1.1.2.2.2.1, ⟨hk.1.2, ⟨hk.1.1.1.2.2.2.2.1, ⟨hk.1.1.1.2.2.2.2.2.1, hk.1.1.1.2.2.2.2.2.2⟩⟩⟩⟩⟩⟩⟩⟩, hk.2⟩)) hg hat); have n8_ := Aside0.mk (Kd.R_after (ok := (fun k_ => (w.heap.size ≤ k_) ∧ some k_ ≠ (u13 : Value).ownBlock)) (by (with_reducible repeat (first | apply Kd.R_alloc | apply Kd.R_drewN | apply Kd.R_drew)); exact Kd.R_mono HO688.out (fun _ hk => ⟨⟨hk.1.1.1, hk.1.2⟩, hk.2⟩)) hg hat); have n9_ := Aside0.mk (hb); have n10_ := Aside0.mk (ho); clear HO_10; clear HO_13; clear HO_676000; clear HO_676001; clear BK667; clear BK668; clear BK675; clear HL684_0; clear HO688; clear HB; clear HO691; have HO_10 := n0_; have HO_13 := n1_; have HO_676000 := n2_; have HO_676001 := n3_; have BK667 := n4_; have BK668 := n5_; have BK675 := n6_; have HL684_0 := n7_; have HO688 := n8_; have HB := n9_; have HO694 := n10_; clear n0_ n1_ n2_ n3_ n4_ n5_ n6_ n7_ n8_ n9_ n10_; clear ho hb hg hat))
                go_meet
                case rel => exact ⟨_, (y692), H', ⟨by have := HJ4.out; have := HK2.out; have := HK3.out; first | omega | exact Nat.le_refl _⟩, ⟨by (with_reducible repeat (first | apply Kd.N_alloc | apply Kd.N_drewN | apply Kd.N_drew)); exact Kd.N_mono HO_10.out (fun _ hk => ⟨hk.1.1, ⟨hk.1.2.1, ⟨hk.2, ⟨hk.1.2.2.1, ⟨hk.1.2.2.2.1, ⟨hk.1.2.2.2.2.2.1, ⟨hk.1.2.2.2.2.2.2.1, hk.1.2.2.2.2.2.2.2⟩⟩⟩⟩⟩⟩⟩)⟩, ⟨by (with_reducible repeat (first | apply Kd.R_alloc | apply Kd.R_drewN | apply Kd.R_drew)); exact Kd.R_mono HO_13.out (fun _ hk => ⟨hk.1.1, hk.2⟩)⟩, ⟨by (with_reducible repeat (first | apply Kd.R_alloc | apply Kd.R_drewN | apply Kd.R_drew)); exact Kd.R_mono HO694.out (fun _ hk => ⟨hk.1, hk.2.1⟩)⟩, ⟨by (with_reducible repeat (first | apply Kd.N_alloc | apply Kd.N_drewN | apply Kd.N_drew)); exact Kd.N_mono HO_676000.out (fun _ hk => ⟨hk.1.1, ⟨hk.1.2.1, ⟨hk.1.2.2.1, ⟨hk.2, ⟨hk.1.2.2.2.1, ⟨hk.1.2.2.2.2.2.1, ⟨hk.1.2.2.2.2.2.2.1, hk.1.2.2.2.2.2.2.2⟩⟩⟩⟩⟩⟩⟩)⟩, ⟨by (with_reducible repeat (first | apply Kd.R_alloc | apply Kd.R_drewN | apply Kd.R_drew)); exact HO_676001.out⟩, ⟨by (with_reducible repeat (first | refine blk_drewN ?_ _ | refine blk_drew ?_ | refine blk_alloc ?_ _)); exact BK667.out⟩, ⟨by (with_reducible repeat (first | refine blk_drewN ?_ _ | refine blk_drew ?_ | refine blk_alloc ?_ _)); exact BK668.out⟩, ⟨by (with_reducible repeat (first | refine blk_drewN ?_ _ | refine blk_drew ?_ | refine blk_alloc ?_ _)); exact BK675.out⟩, ⟨by repeat (first | (with_reducible first | exact HB.out | apply below_alloc | apply pw_below_drewN | apply below_drew1 | refine below_set ?_ GE667.out | refine below_set ?_ GE668.out | refine below_set ?_ GE675.out) | exact HB.out)⟩⟩
               ·rw [if_neg c32] at H
                exact absurd H (by simp)
              ·replace c31 := Bool.eq_false_iff.mpr c31
               subst c31
               have H1 : (scansionref12_Build.j3 k3 l1 false a3 x10_3 x12_2 x13_3 x14_3 t686 a0_0 l0_1 l0_2 l0_3 l0_4 x676000_2 x676001_2) = some (r1, r2, r3) := by rw [if_neg (show ¬ (false = true) by decide)] at H; exact H
               clear H
               have H := H1
               clear H1
               have H' := Aside0.mk H
               clear H
               go_wp2
               go_meet
               case rel => exact ⟨_, (t686), H', ⟨by have := HJ4.out; have := HK2.out; have := HK3.out; first | omega | exact Nat.le_refl _⟩, ⟨by (with_reducible repeat (first | apply Kd.N_alloc | apply Kd.N_drewN | apply Kd.N_drew)); exact Kd.N_mono HO_10.out (fun _ hk => ⟨hk.1.1, ⟨hk.1.2.1, ⟨hk.2, ⟨hk.1.2.2.1, ⟨hk.1.2.2.2.1, ⟨hk.1.2.2.2.2.1, ⟨hk.1.2.2.2.2.2.1, hk.1.2.2.2.2.2.2⟩⟩⟩⟩⟩⟩⟩)⟩, ⟨by (with_reducible repeat (first | apply Kd.R_alloc | apply Kd.R_drewN | apply Kd.R_drew)); exact HO_13.out⟩, ⟨by (with_reducible repeat (first | apply Kd.R_alloc | apply Kd.R_drewN | apply Kd.R_drew)); exact Kd.R_mono HO688.out (fun _ hk => ⟨hk.1.1, hk.2⟩)⟩, ⟨by (with_reducible repeat (first | apply Kd.N_alloc | apply Kd.N_drewN | apply Kd.N_drew)); exact Kd.N_mono HO_676000.out (fun _ hk => ⟨hk.1.1, ⟨hk.1.2.1, ⟨hk.1.2.2.1, ⟨hk.2, ⟨hk.1.2.2.2.1, ⟨hk.1.2.2.2.2.1, ⟨hk.1.2.2.2.2.2.1, hk.1.2.2.2.2.2.2⟩⟩⟩⟩⟩⟩⟩)⟩, ⟨by (with_reducible repeat (first | apply Kd.R_alloc | apply Kd.R_drewN | apply Kd.R_drew)); exact HO_676001.out⟩, ⟨by (with_reducible repeat (first | refine blk_drewN ?_ _ | refine blk_drew ?_ | refine blk_alloc ?_ _)); exact BK667.out⟩, ⟨by (with_reducible repeat (first | refine blk_drewN ?_ _ | refine blk_drew ?_ | refine blk_alloc ?_ _)); exact BK668.out⟩, ⟨by (with_reducible repeat (first | refine blk_drewN ?_ _ | refine blk_drew ?_ | refine blk_alloc ?_ _)); exact BK675.out⟩, ⟨by repeat (first | (with_reducible first | exact HB.out | apply below_alloc | apply pw_below_drewN | apply below_drew1 | refine below_set ?_ GE667.out | refine below_set ?_ GE668.out | refine below_set ?_ GE675.out) | exact HB.out)⟩⟩
             case rest =>
              clear HC27
              try clear c1
              try clear c2
              try clear p2
              try clear c3
              try clear c6
              try clear p6
              try clear q6
              try clear hx6
              try clear c8
              try clear c8b0
              try clear c8b1
              try clear c9
              try clear c9b0
              try clear c9b1
              try clear c10
              try clear c10b0
              try clear c11
              try clear c12
              try clear c20
              try clear c20b0
              try clear c22
              try clear c22b0
              try clear c23
              try clear c23b0
              try clear c24
              try clear c24b0
              try clear c25
              try clear c25b0
              try clear c29
              try clear c31
              try clear c32
              try clear c33
              try clear hcz13_0
              try clear hcz13_1
              try clear hfz13_0
              try clear hfz13_1
              try clear hx684_0
              try clear hx685_0
              try clear p2
              try clear p684
              try clear p685
              try clear q684
              try clear q685
              obtain ⟨kq, x15_26, HA, HJ26, HO_10, HO_13, HO_15, HO_676000, HO_676001, BK667, BK668, BK675, HB⟩ := hcut
              cases kq with
              | zero => exact absurd HA.out (by simp [scansionref12_Build.j3])
              | succ kj26 =>
               have H := HA.out
               clear HA
               simp only [scansionref12_Build.j3] at H
               replace H := Option.bind_eq_some_iff.mp H
               obtain ⟨t695, A370, H⟩ := H
               replace H : (if t695 < 0 then (if x10_3.length < 5864062014805 then ((some (x10_3 ++ [x15_26] : List (List Int))).bind fun y696 => (if (y696.length : Int) > a3 then (some (([] : List (List Int)), ([] : List Bool), 8)) else (if x13_3.length < 17592186044416 then (scansionref12_Build.l1 kj26 l1 a2 a3 y696 x12_2 (x13_3 ++ [(x10_3.length : Int)]) (wrap64 (x14_3 + 1)) a0_0 l0_1 l0_2 l0_3 l0_4 x676000_2 x676001_2) else (none)))) else (none)) else (if (x10_3.length : Int) > a3 then (some (([] : List (List Int)), ([] : List Bool), 8)) else (if x13_3.length < 17592186044416 then (scansionref12_Build.l1 kj26 l1 a2 a3 x10_3 x12_2 (x13_3 ++ [t695]) (wrap64 (x14_3 + 1)) a0_0 l0_1 l0_2 l0_3 l0_4 x676000_2 x676001_2) else (none)))) = some (r1, r2, r3) := H
               have A37 := Aside0.mk A370
               clear A370
               by_cases c38 : t695 < 0
               ·rw [if_pos c38] at H
                have c38b0 : decide (t695 < 0) = true := decide_eq_true c38
                clear c38
                by_cases c39 : x10_3.length < 5864062014805
                ·rw [if_pos c39] at H
                 have LMc39 := Aside0.mk c39
                 clear c39
                 obtain ⟨y696, hy696⟩ : ∃ y_ : List (List Int), y_ = (x10_3 ++ [x15_26]) := ⟨_, rfl⟩
                 replace H : (if (y696.length : Int) > a3 then (some (([] : List (List Int)), ([] : List Bool), 8)) else (if x13_3.length < 17592186044416 then (scansionref12_Build.l1 kj26 l1 a2 a3 y696 x12_2 (x13_3 ++ [(x10_3.length : Int)]) (wrap64 (x14_3 + 1)) a0_0 l0_1 l0_2 l0_3 l0_4 x676000_2 x676001_2) else (none))) = some (r1, r2, r3) := by first | (rw [hy696]; with_reducible exact H) | (have H2_ := (Option.bind_some _ _).symm.trans H; rw [hy696]; with_reducible exact H2_) | (have H2_ := (Option.bind_some _ _).symm.trans H; with_reducible exact H2_) | with_reducible exact H | (rw [hy696]; exact H) | exact H
                 have Ny696 := Aside0.mk hy696
                 clear hy696
                 by_cases c40 : (y696.length : Int) > a3
                 ·rw [if_pos c40] at H
                  have c40b0 : decide (a3 < (y696.length : Int)) = true := decide_eq_true c40
                  clear c40
                  simp only [Option.some.injEq, Prod.mk.injEq] at H
                  obtain ⟨rfl, rfl, rfl⟩ := H
                  obtain ⟨Ao41, co41, eo41⟩ := Kd.R_slice HO_15.out
                  subst eo41
                  go_wp2_with (first | ((with_reducible refine gate_callee (f := 63) rfl ?_); refine goesL_ (some 64) rfl rfl Try.func63 (by kernel_rfl) rfl #[.slice (some ad684) x10_3.length co29, .slice Ao41 x15_26.length co41] rfl (by (try simp only [List.map_toArray, List.map_cons, List.map_nil]); first | done | rfl | (simp only [List.length_drop, List.length_take]; rfl)) ?_; (with_reducible refine (scansionref12_find.calls kj26 _ _ x10_3 _ _ x15_26 t695 _ ?side1 ?side2 ?side3 ?side4 A37.out).mono ?_); (case side1 => repeat (first | exact (Kd.N_reads' HO_10.out).2.2 | (with_reducible refine Kd.C_alloc ?_ _) | (with_reducible refine Kd.C_drewN ?_ _) | (with_reducible refine Kd.C_drew ?_))); (case side2 => exact (Kd.N_reads' HO_10.out).2.1); (case side3 => repeat (first | exact (Kd.R_reads' HO_15.out).2.2 | (with_reducible refine Kd.C_alloc ?_ _) | (with_reducible refine Kd.C_drewN ?_ _) | (with_reducible refine Kd.C_drew ?_))); (case side4 => exact (Kd.R_reads' HO_15.out).2.1); rintro e w' ⟨rfl, ⟨nd, rfl⟩⟩; refine ⟨_, rfl, ?_⟩; (try (rw [drewN_self wc]; generalize hq_ : World.drewN wc _ = wc; have n0_ : Aside0 (Kd.N (Kd.slice 3 (Kd.int .i64)) 27 wc w.heap.size (fun k_ => (w.heap.size ≤ k_) ∧ some k_ ≠ (u13 : Value).ownBlock ∧ some k_ ≠ (.slice Ao41 x15_26.length co41 : Value).ownBlock ∧ some k_ ≠ (u676000 : Value).ownBlock ∧ some k_ ≠ (u676001 : Value).ownBlock ∧ k_ ≠ gb667 ∧ k_ ≠ gb668 ∧ k_ ≠ gb675) (.slice (some ad684) x10_3.length co29) x10_3) := ⟨by rw [← hq_]; exact (by (with_reducible repeat (first | apply Kd.N_alloc | apply Kd.N_drewN | apply Kd.N_drew)); exact HO_10.out)⟩; have n1_ : Aside0 (Kd.R (Kd.int .i64) 3 wc w.heap.size (fun k_ => (w.heap.size ≤ k_) ∧ some k_ ≠ (.slice Ao41 x15_26.length co41 : Value).ownBlock) u13 x13_3) := ⟨by rw [← hq_]; exact (by (with_reducible repeat (first | apply Kd.R_alloc | apply Kd.R_drewN | apply Kd.R_drew)); exact HO_13.out)⟩; have n2_ : Aside0 (Kd.R (Kd.int .i64) 3 wc w.heap.size (fun k_ => (w.heap.size ≤ k_) ∧ some k_ ≠ (u13 : Value).ownBlock) (.slice Ao41 x15_26.length co41) x15_26) := ⟨by rw [← hq_]; exact (by (with_reducible repeat (first | apply Kd.R_alloc | apply Kd.R_drewN | apply Kd.R_drew)); exact HO_15.out)⟩; have n3_ : Aside0 (Kd.N (Kd.slice 3 (Kd.int .i64)) 27 wc w.heap.size (fun k_ => (w.heap.size ≤ k_) ∧ some k_ ≠ (.slice (some ad684) x10_3.length co29 : Value).ownBlock ∧ some k_ ≠ (u13 : Value).ownBlock ∧ some k_ ≠ (.slice Ao41 x15_26.length co41 : Value).ownBlock ∧ some k_ ≠ (u676001 : Value).ownBlock ∧ k_ ≠ gb667 ∧ k_ ≠ gb668 ∧ k_ ≠ gb675) u676000 x676000_2) := ⟨by rw [← hq_]; exact (by (with_reducible repeat (first | apply Kd.N_alloc | apply Kd.N_drewN | apply Kd.N_drew)); exact HO_676000.out)⟩; have n4_ : Aside0 (Kd.R Kd.bool 4 wc w.heap.size (fun k_ => (w.heap.size ≤ k_)) u676001 x676001_2) := ⟨by rw [← hq_]; exact (by (with_reducible repeat (first | apply Kd.R_alloc | apply Kd.R_drewN | apply Kd.R_drew)); exact HO_676001.out)⟩; have n5_ : Aside0 (wc.heap[gb667]? = some (.cells #[.bool a0_0, .slice A0_1 l0_1.length c0_1, .slice A0_2 l0_2.length c0_2, .slice A0_3 l0_3.length c0_3, .slice A0_4 l0_4.length c0_4] 30 (0, 0))) := ⟨by rw [← hq_]; exact (by (with_reducible repeat (first | refine blk_drewN ?_ _ | refine blk_drew ?_ | refine blk_alloc ?_ _)); exact BK667.out)⟩; have n6_ : Aside0 (wc.heap[gb668]? = some (.cells #[.slice none 0 0, .slice none 0 0] 47 (0, 0))) := ⟨by rw [← hq_]; exact (by (with_reducible repeat (first | refine blk_drewN ?_ _ | refine blk_drew ?_ | refine blk_alloc ?_ _)); exact BK668.out)⟩; have n7_ : Aside0 (wc.heap[gb675]? = some (.cells #[u676000, u676001] 47 (0, 0))) := ⟨by rw [← hq_]; exact (by (with_reducible repeat (first | refine blk_drewN ?_ _ | refine blk_drew ?_ | refine blk_alloc ?_ _)); exact BK675.out)⟩; have n8_ : Aside0 (Below w.heap.size w wc) := ⟨by rw [← hq_]; exact (by repeat (first | (with_reducible first | exact HB.out | apply below_alloc | apply pw_below_drewN | apply below_drew1 | refine below_set ?_ GE667.out | refine below_set ?_ GE668.out | refine below_set ?_ GE675.out) | exact HB.out))⟩; clear HO_10 HO_13 HO_15 HO_676000 HO_676001 BK667 BK668 BK675 HB hq_; have HO_10 := n0_; have HO_13 := n1_; have HO_15 := n2_; have HO_676000 := n3_; have HO_676001 := n4_; have BK667 := n5_; have BK668 := n6_; have BK675 := n7_; have HB := n8_; clear n0_ n1_ n2_ n3_ n4_ n5_ n6_ n7_ n8_))) | ((with_reducible refine gate_builtin (b := .append) (xs := #[.tmp 69, .tmp 71]) rfl ?_); (try (refine gate_guard (by rfl) ?_; dsimp only)); at_builtin; refine Kd.N_append (Kd.slice 3 (Kd.int .i64)) (w0 := w) w.heap.size rfl (.tmp 69) (.tmp 71) 28 27 (.slice none 0 0) 24 rfl Try.underlying28 info27 rfl (by decide) (by omega) (.slice (some ad684) x10_3.length co29) x10_3 x15_26 [.slice Ao41 x15_26.length co41] (fun k_ => (w.heap.size ≤ k_) ∧ some k_ ≠ (u13 : Value).ownBlock ∧ some k_ ≠ (u676000 : Value).ownBlock ∧ some k_ ≠ (u676001 : Value).ownBlock ∧ k_ ≠ gb667 ∧ k_ ≠ gb668 ∧ k_ ≠ gb675) (fun k_ => ((fun k_ => (w.heap.size ≤ k_) ∧ some k_ ≠ (u13 : Value).ownBlock ∧ some k_ ≠ (u676000 : Value).ownBlock ∧ some k_ ≠ (u676001 : Value).ownBlock ∧ k_ ≠ gb667 ∧ k_ ≠ gb668 ∧ k_ ≠ gb675)) k_ ∧ some k_ ≠ (.slice (some ad684) x10_3.length co29 : Value).ownBlock) rfl rfl ?aP (fun _ hk => hk) ?aF ?aO ?aB ?aS ?aL ?_; (case aP => exact (Kd.FK_slice_mk (Kd.R_reads' (Kd.R_mono (ok' := (fun k_ => ((fun k_ => (w.heap.size ≤ k_) ∧ some k_ ≠ (u13 : Value).ownBlock ∧ some k_ ≠ (u676000 : Value).ownBlock ∧ some k_ ≠ (u676001 : Value).ownBlock ∧ k_ ≠ gb667 ∧ k_ ≠ gb668 ∧ k_ ≠ gb675)) k_ ∧ some k_ ≠ (.slice (some ad684) x10_3.length co29 : Value).ownBlock)) (Kd.R_types (Kd.R_types (Kd.R_types (Kd.R_apart' (Kd.R_apart' (Kd.R_apart' (HO_15.out) (Kd.N_typed HO_676000.out) (by decide)) (Kd.R_typed HO_676001.out) (by decide)) (Kd.N_typed HO_10.out) (by decide)) BK667.out (by decide)) BK668.out (by decide)) BK675.out (by decide)) (fun k_ hk => ⟨⟨hk.1.1.1.1.1.1.1, ⟨hk.1.1.1.1.1.1.2, ⟨hk.1.1.1.1.1.2, ⟨hk.1.1.1.1.2, ⟨hk.1.1.2, ⟨hk.1.2, hk.2⟩⟩⟩⟩⟩⟩, hk.1.1.1.2⟩))).2.1 (Kd.R_F (Kd.R_mono (ok' := (fun k_ => ((fun k_ => (w.heap.size ≤ k_) ∧ some k_ ≠ (u13 : Value).ownBlock ∧ some k_ ≠ (u676000 : Value).ownBlock ∧ some k_ ≠ (u676001 : Value).ownBlock ∧ k_ ≠ gb667 ∧ k_ ≠ gb668 ∧ k_ ≠ gb675)) k_ ∧ some k_ ≠ (.slice (some ad684) x10_3.length co29 : Value).ownBlock)) (Kd.R_types (Kd.R_types (Kd.R_types (Kd.R_apart' (Kd.R_apart' (Kd.R_apart' (HO_15.out) (Kd.N_typed HO_676000.out) (by decide)) (Kd.R_typed HO_676001.out) (by decide)) (Kd.N_typed HO_10.out) (by decide)) BK667.out (by decide)) BK668.out (by decide)) BK675.out (by decide)) (fun k_ hk => ⟨⟨hk.1.1.1.1.1.1.1, ⟨hk.1.1.1.1.1.1.2, ⟨hk.1.1.1.1.1.2, ⟨hk.1.1.1.1.2, ⟨hk.1.1.2, ⟨hk.1.2, hk.2⟩⟩⟩⟩⟩⟩, hk.1.1.1.2⟩))))); (case aB => exact (by repeat (first | (with_reducible first | exact HB.out | apply below_alloc | apply pw_below_drewN | apply below_drew1 | refine below_set ?_ GE667.out | refine below_set ?_ GE668.out | refine below_set ?_ GE675.out) | exact HB.out))); (case aF => exact (fun k_ hk => ⟨(Nat.le_trans (below_size (by repeat (first | (with_reducible first | exact HB.out | apply below_alloc | apply pw_below_drewN | apply below_drew1 | refine below_set ?_ GE667.out | refine below_set ?_ GE668.out | refine below_set ?_ GE675.out) | exact HB.out))) hk), Kd.fresh' (Kd.R_lt (by (with_reducible repeat (first | apply Kd.R_alloc | apply Kd.R_drewN | apply Kd.R_drew)); exact HO_13.out)) k_ hk, Kd.fresh' (Kd.N_lt (by (with_reducible repeat (first | apply Kd.N_alloc | apply Kd.N_drewN | apply Kd.N_drew)); exact HO_676000.out)) k_ hk, Kd.fresh' (Kd.R_lt (by (with_reducible repeat (first | apply Kd.R_alloc | apply Kd.R_drewN | apply Kd.R_drew)); exact HO_676001.out)) k_ hk, Kd.freshB (g := gb667) (o := .cells #[.bool a0_0, .slice A0_1 l0_1.length c0_1, .slice A0_2 l0_2.length c0_2, .slice A0_3 l0_3.length c0_3, .slice A0_4 l0_4.length c0_4] 30 (0, 0)) (by (with_reducible repeat (first | refine blk_drewN ?_ _ | refine blk_drew ?_ | refine blk_alloc ?_ _)); exact BK667.out) k_ hk, Kd.freshB (g := gb668) (o := .cells #[.slice none 0 0, .slice none 0 0] 47 (0, 0)) (by (with_reducible repeat (first | refine blk_drewN ?_ _ | refine blk_drew ?_ | refine blk_alloc ?_ _)); exact BK668.out) k_ hk, Kd.freshB (g := gb675) (o := .cells #[u676000, u676001] 47 (0, 0)) (by (with_reducible repeat (first | refine blk_drewN ?_ _ | refine blk_drew ?_ | refine blk_alloc ?_ _)); exact BK675.out) k_ hk⟩)); (case aO => exact (by (with_reducible repeat (first | apply Kd.N_alloc | apply Kd.N_drewN | apply Kd.N_drew)); exact Kd.N_mono HO_10.out (fun _ hk => ⟨hk.1, ⟨hk.2.1, ⟨hk.2.2.2.1, ⟨hk.2.2.2.2.1, ⟨hk.2.2.2.2.2.1, ⟨hk.2.2.2.2.2.2.1, hk.2.2.2.2.2.2.2⟩⟩⟩⟩⟩⟩))); (case aS => exact (below_size (by repeat (first | (with_reducible first | exact HB.out | apply below_alloc | apply pw_below_drewN | apply below_drew1 | refine below_set ?_ GE667.out | refine below_set ?_ GE668.out | refine below_set ?_ GE675.out) | exact HB.out)))); (case aL => have := LMc39.out; omega); intro v697 w42 ho hb hg hat; rw [← Ny696.out] at ho; have n0_ := Aside0.mk (Kd.R_over' (by (with_reducible repeat (first | apply Kd.R_alloc | apply Kd.R_drewN | apply Kd.R_drew)); exact HO_13.out) (Kd.N_typed (by (with_reducible repeat (first | apply Kd.N_alloc | apply Kd.N_drewN | apply Kd.N_drew)); exact HO_10.out)) (by decide) hg); have n1_ := Aside0.mk (Kd.N_afterv (ok := (fun k_ => (w.heap.size ≤ k_) ∧ some k_ ≠ (u13 : Value).ownBlock ∧ some k_ ≠ (.slice Ao41 x15_26.length co41 : Value).ownBlock ∧ some k_ ≠ (u676001 : Value).ownBlock ∧ k_ ≠ gb667 ∧ k_ ≠ gb668 ∧ k_ ≠ gb675)) (by (with_reducible repeat (first | apply Kd.N_alloc | apply Kd.N_drewN | apply Kd.N_drew)); exact Kd.N_mono HO_676000.out (fun _ hk => ⟨⟨hk.1, ⟨hk.2.2.1, ⟨hk.2.2.2.1, ⟨hk.2.2.2.2.1, ⟨hk.2.2.2.2.2.1, ⟨hk.2.2.2.2.2.2.1, hk.2.2.2.2.2.2.2⟩⟩⟩⟩⟩⟩, hk.2.1⟩)) hg hat); have n2_ := Aside0.mk (Kd.R_over' (by (with_reducible repeat (first | apply Kd.R_alloc | apply Kd.R_drewN | apply Kd.R_drew)); exact HO_676001.out) (Kd.N_typed (by (with_reducible repeat (first | apply Kd.N_alloc | apply Kd.N_drewN | apply Kd.N_drew)); exact HO_10.out)) (by decide) hg); have n3_ := Aside0.mk (blk_grown (g := gb667) (o := .cells #[.bool a0_0, .slice A0_1 l0_1.length c0_1, .slice A0_2 l0_2.length c0_2, .slice A0_3 l0_3.length c0_3, .slice A0_4 l0_4.length c0_4] 30 (0, 0)) (by (with_reducible repeat (first | refine blk_drewN ?_ _ | refine blk_drew ?_ | refine blk_alloc ?_ _)); exact BK667.out) hg (Kd.N_ne HO_10.out BK667.out (by decide))); have n4_ := Aside0.mk (blk_grown (g := gb668) (o := .cells #[.slice none 0 0, .slice none 0 0] 47 (0, 0)) (by (with_reducible repeat (first | refine blk_drewN ?_ _ | refine blk_drew ?_ | refine blk_alloc ?_ _)); exact BK668.out) hg (Kd.N_ne HO_10.out BK668.out (by decide))); have n5_ := Aside0.mk (blk_grown (g := gb675) (o := .cells #[u676000, u676001] 47 (0, 0)) (by (with_reducible repeat (first | refine blk_drewN ?_ _ | refine blk_drew ?_ | refine blk_alloc ?_ _)); exact BK675.out) hg (Kd.N_ne HO_10.out BK675.out (by decide))); have n6_ := Aside0.mk (hb); have n7_ := Aside0.mk (ho); clear HO_13; clear HO_676000; clear HO_676001; clear BK667; clear BK668; clear BK675; clear HB; clear HO_10; clear HO_15; have HO_13 := n0_; have HO_676000 := n1_; have HO_676001 := n2_; have BK667 := n3_; have BK668 := n4_; have BK675 := n5_; have HB := n6_; have HO698 := n7_; clear n0_ n1_ n2_ n3_ n4_ n5_ n6_ n7_; clear ho hb hg hat; obtain ⟨Ao43, co43, eo43⟩ := Kd.N_slice HO698.out; subst eo43; have hnb44 := NB668_667.out; have hnc44 := NB667_668.out; have hnb45 := NB668_675.out; have hnc45 := NB675_668.out; have hcz46_0 : w42.cell? ⟨gb668, 0, none⟩ = some (.slice none 0 0) := (blk_cell BK668.out 0).trans rfl; have hcz46_1 : w42.cell? ⟨gb668, 1, none⟩ = some (.slice none 0 0) := (blk_cell BK668.out 1).trans rfl; have hfz46_0 := blk_frozen BK668.out 0; have hfz46_1 := blk_frozen BK668.out 1))
                  refine bodyPost_ret (results_ct rfl _ _ gb668 47 #[.slice none 0 0, .slice none 0 0] (0, 0) _ rfl (by (with_reducible repeat (first | refine blk_drewN ?_ _ | refine blk_drew ?_ | refine blk_alloc ?_ _)); refine blk_put (cs := #[.slice none 0 0, .slice none 0 0]) ?_ 1 _ rfl; (with_reducible repeat (first | refine blk_drewN ?_ _ | refine blk_drew ?_ | refine blk_alloc ?_ _)); refine blk_put (cs := #[.slice none 0 0, .slice none 0 0]) ?_ 0 _ rfl; (with_reducible repeat (first | refine blk_drewN ?_ _ | refine blk_drew ?_ | refine blk_alloc ?_ _)); exact BK668.out) Try.underlying47 rfl (by kernel_rfl)) rfl ?_
                  exact ⟨_, _, by first | rfl | (simp [errW_none, errW_some] <;> rfl) | (simp [*, errW_none, errW_some] <;> rfl), by first | exact Kd.S_nil _ _ _ _ _ | exact Kd.N_nil _ _ _ _ _ | exact Kd.V_nil _ _ _ _ _ | exact Kd.Q_nil _ _ _ _ _ | exact Kd.R_nil _ _ _ _ _, by first | exact Kd.R_nil _ _ _ _ _ | exact Kd.N_nil _ _ _ _ _ | exact Kd.V_nil _ _ _ _ _ | exact Kd.Q_nil _ _ _ _ _ | exact Kd.S_nil _ _ _ _ _, by repeat (first | (with_reducible first | exact HB.out | apply below_alloc | apply pw_below_drewN | apply below_drew1 | refine below_set ?_ GE667.out | refine below_set ?_ GE668.out | refine below_set ?_ GE675.out) | exact HB.out)⟩
                 ·rw [if_neg c40] at H
                  have c40b0 : decide (a3 < (y696.length : Int)) = false := decide_eq_false c40
                  clear c40
                  by_cases c47 : x13_3.length < 17592186044416
                  ·rw [if_pos c47] at H
                   have LMc47 := Aside0.mk c47
                   clear c47
                   obtain ⟨y699, hy699⟩ : ∃ y_ : List Int, y_ = (x13_3 ++ [(x10_3.length : Int)]) := ⟨_, rfl⟩
                   replace H : (scansionref12_Build.l1 kj26 l1 a2 a3 y696 x12_2 y699 (wrap64 (x14_3 + 1)) a0_0 l0_1 l0_2 l0_3 l0_4 x676000_2 x676001_2) = some (r1, r2, r3) := by first | (rw [hy699]; with_reducible exact H) | (have H2_ := (Option.bind_some _ _).symm.trans H; rw [hy699]; with_reducible exact H2_) | (have H2_ := (Option.bind_some _ _).symm.trans H; with_reducible exact H2_) | with_reducible exact H | (rw [hy699]; exact H) | exact H
                   have Ny699 := Aside0.mk hy699
                   clear hy699
                   have H' := Aside0.mk H
                   clear H
                   obtain ⟨Ao48, co48, eo48⟩ := Kd.R_slice HO_15.out
                   subst eo48
                   go_wp2_with (first | ((with_reducible refine gate_callee (f := 63) rfl ?_); refine goesL_ (some 64) rfl rfl Try.func63 (by kernel_rfl) rfl #[.slice (some ad684) x10_3.length co29, .slice Ao48 x15_26.length co48] rfl (by (try simp only [List.map_toArray, List.map_cons, List.map_nil]); first | done | rfl | (simp only [List.length_drop, List.length_take]; rfl)) ?_; (with_reducible refine (scansionref12_find.calls kj26 _ _ x10_3 _ _ x15_26 t695 _ ?side1 ?side2 ?side3 ?side4 A37.out).mono ?_); (case side1 => repeat (first | exact (Kd.N_reads' HO_10.out).2.2 | (with_reducible refine Kd.C_alloc ?_ _) | (with_reducible refine Kd.C_drewN ?_ _) | (with_reducible refine Kd.C_drew ?_))); (case side2 => exact (Kd.N_reads' HO_10.out).2.1); (case side3 => repeat (first | exact (Kd.R_reads' HO_15.out).2.2 | (with_reducible refine Kd.C_alloc ?_ _) | (with_reducible refine Kd.C_drewN ?_ _) | (with_reducible refine Kd.C_drew ?_))); (case side4 => exact (Kd.R_reads' HO_15.out).2.1); rintro e w' ⟨rfl, ⟨nd, rfl⟩⟩; refine ⟨_, rfl, ?_⟩) | ((with_reducible refine gate_builtin (b := .append) (xs := #[.tmp 69, .tmp 71]) rfl ?_); (try (refine gate_guard (by rfl) ?_; dsimp only)); at_builtin; refine Kd.N_append (Kd.slice 3 (Kd.int .i64)) (w0 := w) w.heap.size rfl (.tmp 69) (.tmp 71) 28 27 (.slice none 0 0) 24 rfl Try.underlying28 info27 rfl (by decide) (by omega) (.slice (some ad684) x10_3.length co29) x10_3 x15_26 [.slice Ao48 x15_26.length co48] (fun k_ => (w.heap.size ≤ k_) ∧ some k_ ≠ (u13 : Value).ownBlock ∧ some k_ ≠ (u676000 : Value).ownBlock ∧ some k_ ≠ (u676001 : Value).ownBlock ∧ k_ ≠ gb667 ∧ k_ ≠ gb668 ∧ k_ ≠ gb675) (fun k_ => ((fun k_ => (w.heap.size ≤ k_) ∧ some k_ ≠ (u13 : Value).ownBlock ∧ some k_ ≠ (u676000 : Value).ownBlock ∧ some k_ ≠ (u676001 : Value).ownBlock ∧ k_ ≠ gb667 ∧ k_ ≠ gb668 ∧ k_ ≠ gb675)) k_ ∧ some k_ ≠ (.slice (some ad684) x10_3.length co29 : Value).ownBlock) rfl rfl ?aP (fun _ hk => hk) ?aF ?aO ?aB ?aS ?aL ?_; (case aP => exact (Kd.FK_slice_mk (Kd.R_reads' (Kd.R_mono (ok' := (fun k_ => ((fun k_ => (w.heap.size ≤ k_) ∧ some k_ ≠ (u13 : Value).ownBlock ∧ some k_ ≠ (u676000 : Value).ownBlock ∧ some k_ ≠ (u676001 : Value).ownBlock ∧ k_ ≠ gb667 ∧ k_ ≠ gb668 ∧ k_ ≠ gb675)) k_ ∧ some k_ ≠ (.slice (some ad684) x10_3.length co29 : Value).ownBlock)) (Kd.R_types (Kd.R_types (Kd.R_types (Kd.R_apart' (Kd.R_apart' (Kd.R_apart' (HO_15.out) (Kd.N_typed HO_676000.out) (by decide)) (Kd.R_typed HO_676001.out) (by decide)) (Kd.N_typed HO_10.out) (by decide)) BK667.out (by decide)) BK668.out (by decide)) BK675.out (by decide)) (fun k_ hk => ⟨⟨hk.1.1.1.1.1.1.1, ⟨hk.1.1.1.1.1.1.2, ⟨hk.1.1.1.1.1.2, ⟨hk.1.1.1.1.2, ⟨hk.1.1.2, ⟨hk.1.2, hk.2⟩⟩⟩⟩⟩⟩, hk.1.1.1.2⟩))).2.1 (Kd.R_F (Kd.R_mono (ok' := (fun k_ => ((fun k_ => (w.heap.size ≤ k_) ∧ some k_ ≠ (u13 : Value).ownBlock ∧ some k_ ≠ (u676000 : Value).ownBlock ∧ some k_ ≠ (u676001 : Value).ownBlock ∧ k_ ≠ gb667 ∧ k_ ≠ gb668 ∧ k_ ≠ gb675)) k_ ∧ some k_ ≠ (.slice (some ad684) x10_3.length co29 : Value).ownBlock)) (Kd.R_types (Kd.R_types (Kd.R_types (Kd.R_apart' (Kd.R_apart' (Kd.R_apart' (HO_15.out) (Kd.N_typed HO_676000.out) (by decide)) (Kd.R_typed HO_676001.out) (by decide)) (Kd.N_typed HO_10.out) (by decide)) BK667.out (by decide)) BK668.out (by decide)) BK675.out (by decide)) (fun k_ hk => ⟨⟨hk.1.1.1.1.1.1.1, ⟨hk.1.1.1.1.1.1.2, ⟨hk.1.1.1.1.1.2, ⟨hk.1.1.1.1.2, ⟨hk.1.1.2, ⟨hk.1.2, hk.2⟩⟩⟩⟩⟩⟩, hk.1.1.1.2⟩))))); (case aB => exact (by repeat (first | (with_reducible first | exact HB.out | apply below_alloc | apply pw_below_drewN | apply below_drew1 | refine below_set ?_ GE667.out | refine below_set ?_ GE668.out | refine below_set ?_ GE675.out) | exact HB.out))); (case aF => exact (fun k_ hk => ⟨(Nat.le_trans (below_size (by repeat (first | (with_reducible first | exact HB.out | apply below_alloc | apply pw_below_drewN | apply below_drew1 | refine below_set ?_ GE667.out | refine below_set ?_ GE668.out | refine below_set ?_ GE675.out) | exact HB.out))) hk), Kd.fresh' (Kd.R_lt (by (with_reducible repeat (first | apply Kd.R_alloc | apply Kd.R_drewN | apply Kd.R_drew)); exact HO_13.out)) k_ hk, Kd.fresh' (Kd.N_lt (by (with_reducible repeat (first | apply Kd.N_alloc | apply Kd.N_drewN | apply Kd.N_drew)); exact HO_676000.out)) k_ hk, Kd.fresh' (Kd.R_lt (by (with_reducible repeat (first | apply Kd.R_alloc | apply Kd.R_drewN | apply Kd.R_drew)); exact HO_676001.out)) k_ hk, Kd.freshB (g := gb667) (o := .cells #[.bool a0_0, .slice A0_1 l0_1.length c0_1, .slice A0_2 l0_2.length c0_2, .slice A0_3 l0_3.length c0_3, .slice A0_4 l0_4.length c0_4] 30 (0, 0)) (by (with_reducible repeat (first | refine blk_drewN ?_ _ | refine blk_drew ?_ | refine blk_alloc ?_ _)); exact BK667.out) k_ hk, Kd.freshB (g := gb668) (o := .cells #[.slice none 0 0, .slice none 0 0] 47 (0, 0)) (by (with_reducible repeat (first | refine blk_drewN ?_ _ | refine blk_drew ?_ | refine blk_alloc ?_ _)); exact BK668.out) k_ hk, Kd.freshB (g := gb675) (o := .cells #[u676000, u676001] 47 (0, 0)) (by (with_reducible repeat (first | refine blk_drewN ?_ _ | refine blk_drew ?_ | refine blk_alloc ?_ _)); exact BK675.out) k_ hk⟩)); (case aO => exact (by (with_reducible repeat (first | apply Kd.N_alloc | apply Kd.N_drewN | apply Kd.N_drew)); exact Kd.N_mono HO_10.out (fun _ hk => ⟨hk.1, ⟨hk.2.1, ⟨hk.2.2.2.1, ⟨hk.2.2.2.2.1, ⟨hk.2.2.2.2.2.1, ⟨hk.2.2.2.2.2.2.1, hk.2.2.2.2.2.2.2⟩⟩⟩⟩⟩⟩))); (case aS => exact (below_size (by repeat (first | (with_reducible first | exact HB.out | apply below_alloc | apply pw_below_drewN | apply below_drew1 | refine below_set ?_ GE667.out | refine below_set ?_ GE668.out | refine below_set ?_ GE675.out) | exact HB.out)))); (case aL => have := LMc39.out; omega); intro v697 w49 ho hb hg hat; rw [← Ny696.out] at ho; have n0_ := Aside0.mk (Kd.R_over' (by (with_reducible repeat (first | apply Kd.R_alloc | apply Kd.R_drewN | apply Kd.R_drew)); exact HO_13.out) (Kd.N_typed (by (with_reducible repeat (first | apply Kd.N_alloc | apply Kd.N_drewN | apply Kd.N_drew)); exact HO_10.out)) (by decide) hg); have n1_ := Aside0.mk (Kd.N_afterv (ok := (fun k_ => (w.heap.size ≤ k_) ∧ some k_ ≠ (u13 : Value).ownBlock ∧ some k_ ≠ (.slice Ao48 x15_26.length co48 : Value).ownBlock ∧ some k_ ≠ (u676001 : Value).ownBlock ∧ k_ ≠ gb667 ∧ k_ ≠ gb668 ∧ k_ ≠ gb675)) (by (with_reducible repeat (first | apply Kd.N_alloc | apply Kd.N_drewN | apply Kd.N_drew)); exact Kd.N_mono HO_676000.out (fun _ hk => ⟨⟨hk.1, ⟨hk.2.2.1, ⟨hk.2.2.2.1, ⟨hk.2.2.2.2.1, ⟨hk.2.2.2.2.2.1, ⟨hk.2.2.2.2.2.2.1, hk.2.2.2.2.2.2.2⟩⟩⟩⟩⟩⟩, hk.2.1⟩)) hg hat); have n2_ := Aside0.mk (Kd.R_over' (by (with_reducible repeat (first | apply Kd.R_alloc | apply Kd.R_drewN | apply Kd.R_drew)); exact HO_676001.out) (Kd.N_typed (by (with_reducible repeat (first | apply Kd.N_alloc | apply Kd.N_drewN | apply Kd.N_drew)); exact HO_10.out)) (by decide) hg); have n3_ := Aside0.mk (blk_grown (g := gb667) (o := .cells #[.bool a0_0, .slice A0_1 l0_1.length c0_1, .slice A0_2 l0_2.length c0_2, .slice A0_3 l0_3.length c0_3, .slice A0_4 l0_4.length c0_4] 30 (0, 0)) (by (with_reducible repeat (first | refine blk_drewN ?_ _ | refine blk_drew ?_ | refine blk_alloc ?_ _)); exact BK667.out) hg (Kd.N_ne HO_10.out BK667.out (by decide))); have n4_ := Aside0.mk (blk_grown (g := gb668) (o := .cells #[.slice none 0 0, .slice none 0 0] 47 (0, 0)) (by (with_reducible repeat (first | refine blk_drewN ?_ _ | refine blk_drew ?_ | refine blk_alloc ?_ _)); exact BK668.out) hg (Kd.N_ne HO_10.out BK668.out (by decide))); have n5_ := Aside0.mk (blk_grown (g := gb675) (o := .cells #[u676000, u676001] 47 (0, 0)) (by (with_reducible repeat (first | refine blk_drewN ?_ _ | refine blk_drew ?_ | refine blk_alloc ?_ _)); exact BK675.out) hg (Kd.N_ne HO_10.out BK675.out (by decide))); have n6_ := Aside0.mk (hb); have n7_ := Aside0.mk (ho); clear HO_13; clear HO_676000; clear HO_676001; clear BK667; clear BK668; clear BK675; clear HB; clear HO_10; clear HO_15; have HO_13 := n0_; have HO_676000 := n1_; have HO_676001 := n2_; have BK667 := n3_; have BK668 := n4_; have BK675 := n5_; have HB := n6_; have HO698 := n7_; clear n0_ n1_ n2_ n3_ n4_ n5_ n6_ n7_; clear ho hb hg hat; obtain ⟨Ao50, co50, eo50⟩ := Kd.N_slice HO698.out; subst eo50) | ((with_reducible refine gate_builtin (b := .append) (xs := #[.tmp 78, .tmp 80]) rfl ?_); (try (refine gate_guard (by rfl) ?_; dsimp only)); at_builtin; refine Kd.R_append (Kd.int .i64) (w0 := w) w.heap.size rfl (.tmp 78) (.tmp 80) 27 3 (.int .i64 0) 8 rfl Try.underlying27 info3 rfl (by decide) (by omega) u13 x13_3 (x10_3.length : Int) [.int .i64 (x10_3.length : Int)] (fun k_ => (w.heap.size ≤ k_)) (fun _ => False) rfl rfl ?aP (fun _ hk => hk.elim) ?aF ?aO ?aB ?aS ?aL ?_; (case aP => exact rfl); (case aB => exact (by repeat (first | (with_reducible first | exact HB.out | apply below_alloc | apply pw_below_drewN | apply below_drew1 | refine below_set ?_ GE667.out | refine below_set ?_ GE668.out | refine below_set ?_ GE675.out) | exact HB.out))); (case aF => exact (fun k_ hk => (Nat.le_trans (below_size (by repeat (first | (with_reducible first | exact HB.out | apply below_alloc | apply pw_below_drewN | apply below_drew1 | refine below_set ?_ GE667.out | refine below_set ?_ GE668.out | refine below_set ?_ GE675.out) | exact HB.out))) hk))); (case aO => exact (by (with_reducible repeat (first | apply Kd.R_alloc | apply Kd.R_drewN | apply Kd.R_drew)); exact Kd.R_mono HO_13.out (fun _ hk => hk.1))); (case aS => exact (below_size (by repeat (first | (with_reducible first | exact HB.out | apply below_alloc | apply pw_below_drewN | apply below_drew1 | refine below_set ?_ GE667.out | refine below_set ?_ GE668.out | refine below_set ?_ GE675.out) | exact HB.out)))); (case aL => have := LMc47.out; omega); intro v700 w51 ho hb hg hat; rw [← Ny699.out] at ho; have n0_ := Aside0.mk (Kd.N_afterv (ok := (fun k_ => (w.heap.size ≤ k_) ∧ some k_ ≠ (u676001 : Value).ownBlock ∧ some k_ ≠ (.slice Ao50 y696.length co50 : Value).ownBlock ∧ k_ ≠ gb667 ∧ k_ ≠ gb668 ∧ k_ ≠ gb675)) (by (with_reducible repeat (first | apply Kd.N_alloc | apply Kd.N_drewN | apply Kd.N_drew)); exact Kd.N_mono HO_676000.out (fun _ hk => ⟨⟨hk.1.1, ⟨hk.1.2.2.2.1, ⟨hk.2, ⟨hk.1.2.2.2.2.1, ⟨hk.1.2.2.2.2.2.1, hk.1.2.2.2.2.2.2⟩⟩⟩⟩⟩, hk.1.2.1⟩)) hg hat); have n1_ := Aside0.mk (Kd.R_over' (by (with_reducible repeat (first | apply Kd.R_alloc | apply Kd.R_drewN | apply Kd.R_drew)); exact HO_676001.out) (Kd.R_typed (by (with_reducible repeat (first | apply Kd.R_alloc | apply Kd.R_drewN | apply Kd.R_drew)); exact HO_13.out)) (by decide) hg); have n2_ := Aside0.mk (blk_grown (g := gb667) (o := .cells #[.bool a0_0, .slice A0_1 l0_1.length c0_1, .slice A0_2 l0_2.length c0_2, .slice A0_3 l0_3.length c0_3, .slice A0_4 l0_4.length c0_4] 30 (0, 0)) (by (with_reducible repeat (first | refine blk_drewN ?_ _ | refine blk_drew ?_ | refine blk_alloc ?_ _)); exact BK667.out) hg (Kd.R_ne HO_13.out BK667.out (by decide))); have n3_ := Aside0.mk (blk_grown (g := gb668) (o := .cells #[.slice none 0 0, .slice none 0 0] 47 (0, 0)) (by (with_reducible repeat (first | refine blk_drewN ?_ _ | refine blk_drew ?_ | refine blk_alloc ?_ _)); exact BK668.out) hg (Kd.R_ne HO_13.out BK668.out (by decide))); have n4_ := Aside0.mk (blk_grown (g := gb675) (o := .cells #[u676000, u676001] 47 (0, 0)) (by (with_reducible repeat (first | refine blk_drewN ?_ _ | refine blk_drew ?_ | refine blk_alloc ?_ _)); exact BK675.out) hg (Kd.R_ne HO_13.out BK675.out (by decide))); have n5_ := Aside0.mk (Kd.N_afterv (ok := (fun k_ => (w.heap.size ≤ k_) ∧ some k_ ≠ (u676000 : Value).ownBlock ∧ some k_ ≠ (u676001 : Value).ownBlock ∧ k_ ≠ gb667 ∧ k_ ≠ gb668 ∧ k_ ≠ gb675)) (by (with_reducible repeat (first | apply Kd.N_alloc | apply Kd.N_drewN | apply Kd.N_drew)); exact Kd.N_mono HO698.out (fun _ hk => ⟨⟨hk.1, ⟨hk.2.2.1, ⟨hk.2.2.2.1, ⟨hk.2.2.2.2.1, ⟨hk.2.2.2.2.2.1, hk.2.2.2.2.2.2⟩⟩⟩⟩⟩, hk.2.1⟩)) hg hat); have n6_ := Aside0.mk (hb); have n7_ := Aside0.mk (ho); clear HO_676000; clear HO_676001; clear BK667; clear BK668; clear BK675; clear HO698; clear HB; clear HO_13; have HO_676000 := n0_; have HO_676001 := n1_; have BK667 := n2_; have BK668 := n3_; have BK675 := n4_; have HO698 := n5_; have HB := n6_; have HO701 := n7_; clear n0_ n1_ n2_ n3_ n4_ n5_ n6_ n7_; clear ho hb hg hat))
                   go_roundg kj26
                   case measure => have := HJ4.out; have := HK2.out; have := HK3.out; have := HJ26.out; omega
                   case rel => exact ⟨(y696), (y699), (wrap64 (x14_3 + 1)), (by first | rfl | (simp; done) | (simp [*]; done)), H', ⟨by have := HJ4.out; have := HK2.out; have := HK3.out; have := HJ26.out; omega⟩, ⟨by (with_reducible repeat (first | apply Kd.N_alloc | apply Kd.N_drewN | apply Kd.N_drew)); exact Kd.N_mono HO698.out (fun _ hk => ⟨hk.1.1, ⟨hk.2, ⟨hk.1.2.1, ⟨hk.1.2.2.1, ⟨hk.1.2.2.2.1, ⟨hk.1.2.2.2.2.1, hk.1.2.2.2.2.2⟩⟩⟩⟩⟩⟩)⟩, ⟨by (with_reducible repeat (first | apply Kd.R_alloc | apply Kd.R_drewN | apply Kd.R_drew)); exact HO701.out⟩, ⟨by (with_reducible repeat (first | apply Kd.N_alloc | apply Kd.N_drewN | apply Kd.N_drew)); exact Kd.N_mono HO_676000.out (fun _ hk => ⟨hk.1.1, ⟨hk.1.2.2.1, ⟨hk.2, ⟨hk.1.2.1, ⟨hk.1.2.2.2.1, ⟨hk.1.2.2.2.2.1, hk.1.2.2.2.2.2⟩⟩⟩⟩⟩⟩)⟩, ⟨by (with_reducible repeat (first | apply Kd.R_alloc | apply Kd.R_drewN | apply Kd.R_drew)); exact HO_676001.out⟩, ⟨by (with_reducible repeat (first | refine blk_drewN ?_ _ | refine blk_drew ?_ | refine blk_alloc ?_ _)); exact BK667.out⟩, ⟨by (with_reducible repeat (first | refine blk_drewN ?_ _ | refine blk_drew ?_ | refine blk_alloc ?_ _)); exact BK668.out⟩, ⟨by (with_reducible repeat (first | refine blk_drewN ?_ _ | refine blk_drew ?_ | refine blk_alloc ?_ _)); exact BK675.out⟩, ⟨by repeat (first | (with_reducible first | exact HB.out | apply below_alloc | apply pw_below_drewN | apply below_drew1 | refine below_set ?_ GE667.out | refine below_set ?_ GE668.out | refine below_set ?_ GE675.out) | exact HB.out)⟩⟩
                  ·rw [if_neg c47] at H
                   exact absurd H (by simp)
                ·rw [if_neg c39] at H
                 exact absurd H (by simp)
               ·rw [if_neg c38] at H
                have c38b0 : decide (t695 < 0) = false := decide_eq_false c38
                clear c38
                by_cases c52 : (x10_3.length : Int) > a3
                ·rw [if_pos c52] at H
                 have c52b0 : decide (a3 < (x10_3.length : Int)) = true := decide_eq_true c52
                 clear c52
                 simp only [Option.some.injEq, Prod.mk.injEq] at H
                 obtain ⟨rfl, rfl, rfl⟩ := H
                 obtain ⟨Ao53, co53, eo53⟩ := Kd.R_slice HO_15.out
                 subst eo53
                 go_wp2_with (first | ((with_reducible refine gate_callee (f := 63) rfl ?_); refine goesL_ (some 64) rfl rfl Try.func63 (by kernel_rfl) rfl #[.slice (some ad684) x10_3.length co29, .slice Ao53 x15_26.length co53] rfl (by (try simp only [List.map_toArray, List.map_cons, List.map_nil]); first | done | rfl | (simp only [List.length_drop, List.length_take]; rfl)) ?_; (with_reducible refine (scansionref12_find.calls kj26 _ _ x10_3 _ _ x15_26 t695 _ ?side1 ?side2 ?side3 ?side4 A37.out).mono ?_); (case side1 => repeat (first | exact (Kd.N_reads' HO_10.out).2.2 | (with_reducible refine Kd.C_alloc ?_ _) | (with_reducible refine Kd.C_drewN ?_ _) | (with_reducible refine Kd.C_drew ?_))); (case side2 => exact (Kd.N_reads' HO_10.out).2.1); (case side3 => repeat (first | exact (Kd.R_reads' HO_15.out).2.2 | (with_reducible refine Kd.C_alloc ?_ _) | (with_reducible refine Kd.C_drewN ?_ _) | (with_reducible refine Kd.C_drew ?_))); (case side4 => exact (Kd.R_reads' HO_15.out).2.1); rintro e w' ⟨rfl, ⟨nd, rfl⟩⟩; refine ⟨_, rfl, ?_⟩; (try (rw [drewN_self wc]; generalize hq_ : World.drewN wc _ = wc; have n0_ : Aside0 (Kd.N (Kd.slice 3 (Kd.int .i64)) 27 wc w.heap.size (fun k_ => (w.heap.size ≤ k_) ∧ some k_ ≠ (u13 : Value).ownBlock ∧ some k_ ≠ (.slice Ao53 x15_26.length co53 : Value).ownBlock ∧ some k_ ≠ (u676000 : Value).ownBlock ∧ some k_ ≠ (u676001 : Value).ownBlock ∧ k_ ≠ gb667 ∧ k_ ≠ gb668 ∧ k_ ≠ gb675) (.slice (some ad684) x10_3.length co29) x10_3) := ⟨by rw [← hq_]; exact (by (with_reducible repeat (first | apply Kd.N_alloc | apply Kd.N_drewN | apply Kd.N_drew)); exact HO_10.out)⟩; have n1_ : Aside0 (Kd.R (Kd.int .i64) 3 wc w.heap.size (fun k_ => (w.heap.size ≤ k_) ∧ some k_ ≠ (.slice Ao53 x15_26.length co53 : Value).ownBlock) u13 x13_3) := ⟨by rw [← hq_]; exact (by (with_reducible repeat (first | apply Kd.R_alloc | apply Kd.R_drewN | apply Kd.R_drew)); exact HO_13.out)⟩; have n2_ : Aside0 (Kd.R (Kd.int .i64) 3 wc w.heap.size (fun k_ => (w.heap.size ≤ k_) ∧ some k_ ≠ (u13 : Value).ownBlock) (.slice Ao53 x15_26.length co53) x15_26) := ⟨by rw [← hq_]; exact (by (with_reducible repeat (first | apply Kd.R_alloc | apply Kd.R_drewN | apply Kd.R_drew)); exact HO_15.out)⟩; have n3_ : Aside0 (Kd.N (Kd.slice 3 (Kd.int .i64)) 27 wc w.heap.size (fun k_ => (w.heap.size ≤ k_) ∧ some k_ ≠ (.slice (some ad684) x10_3.length co29 : Value).ownBlock ∧ some k_ ≠ (u13 : Value).ownBlock ∧ some k_ ≠ (.slice Ao53 x15_26.length co53 : Value).ownBlock ∧ some k_ ≠ (u676001 : Value).ownBlock ∧ k_ ≠ gb667 ∧ k_ ≠ gb668 ∧ k_ ≠ gb675) u676000 x676000_2) := ⟨by rw [← hq_]; exact (by (with_reducible repeat (first | apply Kd.N_alloc | apply Kd.N_drewN | apply Kd.N_drew)); exact HO_676000.out)⟩; have n4_ : Aside0 (Kd.R Kd.bool 4 wc w.heap.size (fun k_ => (w.heap.size ≤ k_)) u676001 x676001_2) := ⟨by rw [← hq_]; exact (by (with_reducible repeat (first | apply Kd.R_alloc | apply Kd.R_drewN | apply Kd.R_drew)); exact HO_676001.out)⟩; have n5_ : Aside0 (wc.heap[gb667]? = some (.cells #[.bool a0_0, .slice A0_1 l0_1.length c0_1, .slice A0_2 l0_2.length c0_2, .slice A0_3 l0_3.length c0_3, .slice A0_4 l0_4.length c0_4] 30 (0, 0))) := ⟨by rw [← hq_]; exact (by (with_reducible repeat (first | refine blk_drewN ?_ _ | refine blk_drew ?_ | refine blk_alloc ?_ _)); exact BK667.out)⟩; have n6_ : Aside0 (wc.heap[gb668]? = some (.cells #[.slice none 0 0, .slice none 0 0] 47 (0, 0))) := ⟨by rw [← hq_]; exact (by (with_reducible repeat (first | refine blk_drewN ?_ _ | refine blk_drew ?_ | refine blk_alloc ?_ _)); exact BK668.out)⟩; have n7_ : Aside0 (wc.heap[gb675]? = some (.cells #[u676000, u676001] 47 (0, 0))) := ⟨by rw [← hq_]; exact (by (with_reducible repeat (first | refine blk_drewN ?_ _ | refine blk_drew ?_ | refine blk_alloc ?_ _)); exact BK675.out)⟩; have n8_ : Aside0 (Below w.heap.size w wc) := ⟨by rw [← hq_]; exact (by repeat (first | (with_reducible first | exact HB.out | apply below_alloc | apply pw_below_drewN | apply below_drew1 | refine below_set ?_ GE667.out | refine below_set ?_ GE668.out | refine below_set ?_ GE675.out) | exact HB.out))⟩; clear HO_10 HO_13 HO_15 HO_676000 HO_676001 BK667 BK668 BK675 HB hq_; have HO_10 := n0_; have HO_13 := n1_; have HO_15 := n2_; have HO_676000 := n3_; have HO_676001 := n4_; have BK667 := n5_; have BK668 := n6_; have BK675 := n7_; have HB := n8_; clear n0_ n1_ n2_ n3_ n4_ n5_ n6_ n7_ n8_)); have hnb54 := NB668_667.out; have hnc54 := NB667_668.out; have hnb55 := NB668_675.out; have hnc55 := NB675_668.out; have hcz56_0 : wc.cell? ⟨gb668, 0, none⟩ = some (.slice none 0 0) := (blk_cell BK668.out 0).trans rfl; have hcz56_1 : wc.cell? ⟨gb668, 1, none⟩ = some (.slice none 0 0) := (blk_cell BK668.out 1).trans rfl; have hfz56_0 := blk_frozen BK668.out 0; have hfz56_1 := blk_frozen BK668.out 1))
                 refine bodyPost_ret (results_ct rfl _ _ gb668 47 #[.slice none 0 0, .slice none 0 0] (0, 0) _ rfl (by (with_reducible repeat (first | refine blk_drewN ?_ _ | refine blk_drew ?_ | refine blk_alloc ?_ _)); refine blk_put (cs := #[.slice none 0 0, .slice none 0 0]) ?_ 1 _ rfl; (with_reducible repeat (first | refine blk_drewN ?_ _ | refine blk_drew ?_ | refine blk_alloc ?_ _)); refine blk_put (cs := #[.slice none 0 0, .slice none 0 0]) ?_ 0 _ rfl; (with_reducible repeat (first | refine blk_drewN ?_ _ | refine blk_drew ?_ | refine blk_alloc ?_ _)); exact BK668.out) Try.underlying47 rfl (by kernel_rfl)) rfl ?_
                 exact ⟨_, _, by first | rfl | (simp [errW_none, errW_some] <;> rfl) | (simp [*, errW_none, errW_some] <;> rfl), by first | exact Kd.S_nil _ _ _ _ _ | exact Kd.N_nil _ _ _ _ _ | exact Kd.V_nil _ _ _ _ _ | exact Kd.Q_nil _ _ _ _ _ | exact Kd.R_nil _ _ _ _ _, by first | exact Kd.R_nil _ _ _ _ _ | exact Kd.N_nil _ _ _ _ _ | exact Kd.V_nil _ _ _ _ _ | exact Kd.Q_nil _ _ _ _ _ | exact Kd.S_nil _ _ _ _ _, by repeat (first | (with_reducible first | exact HB.out | apply below_alloc | apply pw_below_drewN | apply below_drew1 | refine below_set ?_ GE667.out | refine below_set ?_ GE668.out | refine below_set ?_ GE675.out) | exact HB.out)⟩
                ·rw [if_neg c52] at H
                 have c52b0 : decide (a3 < (x10_3.length : Int)) = false := decide_eq_false c52
                 clear c52
                 by_cases c57 : x13_3.length < 17592186044416
                 ·rw [if_pos c57] at H
                  have LMc57 := Aside0.mk c57
                  clear c57
                  obtain ⟨y702, hy702⟩ : ∃ y_ : List Int, y_ = (x13_3 ++ [t695]) := ⟨_, rfl⟩
                  replace H : (scansionref12_Build.l1 kj26 l1 a2 a3 x10_3 x12_2 y702 (wrap64 (x14_3 + 1)) a0_0 l0_1 l0_2 l0_3 l0_4 x676000_2 x676001_2) = some (r1, r2, r3) := by first | (rw [hy702]; with_reducible exact H) | (have H2_ := (Option.bind_some _ _).symm.trans H; rw [hy702]; with_reducible exact H2_) | (have H2_ := (Option.bind_some _ _).symm.trans H; with_reducible exact H2_) | with_reducible exact H | (rw [hy702]; exact H) | exact H
                  have Ny702 := Aside0.mk hy702
                  clear hy702
                  have H' := Aside0.mk H
                  clear H
                  obtain ⟨Ao58, co58, eo58⟩ := Kd.R_slice HO_15.out
                  subst eo58
                  go_wp2_with (first | ((with_reducible refine gate_callee (f := 63) rfl ?_); refine goesL_ (some 64) rfl rfl Try.func63 (by kernel_rfl) rfl #[.slice (some ad684) x10_3.length co29, .slice Ao58 x15_26.length co58] rfl (by (try simp only [List.map_toArray, List.map_cons, List.map_nil]); first | done | rfl | (simp only [List.length_drop, List.length_take]; rfl)) ?_; (with_reducible refine (scansionref12_find.calls kj26 _ _ x10_3 _ _ x15_26 t695 _ ?side1 ?side2 ?side3 ?side4 A37.out).mono ?_); (case side1 => repeat (first | exact (Kd.N_reads' HO_10.out).2.2 | (with_reducible refine Kd.C_alloc ?_ _) | (with_reducible refine Kd.C_drewN ?_ _) | (with_reducible refine Kd.C_drew ?_))); (case side2 => exact (Kd.N_reads' HO_10.out).2.1); (case side3 => repeat (first | exact (Kd.R_reads' HO_15.out).2.2 | (with_reducible refine Kd.C_alloc ?_ _) | (with_reducible refine Kd.C_drewN ?_ _) | (with_reducible refine Kd.C_drew ?_))); (case side4 => exact (Kd.R_reads' HO_15.out).2.1); rintro e w' ⟨rfl, ⟨nd, rfl⟩⟩; refine ⟨_, rfl, ?_⟩) | ((with_reducible refine gate_builtin (b := .append) (xs := #[.tmp 78, .tmp 80]) rfl ?_); (try (refine gate_guard (by rfl) ?_; dsimp only)); at_builtin; refine Kd.R_append (Kd.int .i64) (w0 := w) w.heap.size rfl (.tmp 78) (.tmp 80) 27 3 (.int .i64 0) 8 rfl Try.underlying27 info3 rfl (by decide) (by omega) u13 x13_3 t695 [.int .i64 t695] (fun k_ => (w.heap.size ≤ k_) ∧ some k_ ≠ (.slice Ao58 x15_26.length co58 : Value).ownBlock) (fun _ => False) rfl rfl ?aP (fun _ hk => hk.elim) ?aF ?aO ?aB ?aS ?aL ?_; (case aP => exact rfl); (case aB => exact (by repeat (first | (with_reducible first | exact HB.out | apply below_alloc | apply pw_below_drewN | apply below_drew1 | refine below_set ?_ GE667.out | refine below_set ?_ GE668.out | refine below_set ?_ GE675.out) | exact HB.out))); (case aF => exact (fun k_ hk => ⟨(Nat.le_trans (below_size (by repeat (first | (with_reducible first | exact HB.out | apply below_alloc | apply pw_below_drewN | apply below_drew1 | refine below_set ?_ GE667.out | refine below_set ?_ GE668.out | refine below_set ?_ GE675.out) | exact HB.out))) hk), Kd.fresh' (Kd.R_lt (by (with_reducible repeat (first | apply Kd.R_alloc | apply Kd.R_drewN | apply Kd.R_drew)); exact HO_15.out)) k_ hk⟩)); (case aO => exact (by (with_reducible repeat (first | apply Kd.R_alloc | apply Kd.R_drewN | apply Kd.R_drew)); exact HO_13.out)); (case aS => exact (below_size (by repeat (first | (with_reducible first | exact HB.out | apply below_alloc | apply pw_below_drewN | apply below_drew1 | refine below_set ?_ GE667.out | refine below_set ?_ GE668.out | refine below_set ?_ GE675.out) | exact HB.out)))); (case aL => have := LMc57.out; omega); intro v703 w59 ho hb hg hat; rw [← Ny702.out] at ho; have n0_ := Aside0.mk (Kd.N_afterv (ok := (fun k_ => (w.heap.size ≤ k_) ∧ some k_ ≠ (.slice Ao58 x15_26.length co58 : Value).ownBlock ∧ some k_ ≠ (u676000 : Value).ownBlock ∧ some k_ ≠ (u676001 : Value).ownBlock ∧ k_ ≠ gb667 ∧ k_ ≠ gb668 ∧ k_ ≠ gb675)) (by (with_reducible repeat (first | apply Kd.N_alloc | apply Kd.N_drewN | apply Kd.N_drew)); exact Kd.N_mono HO_10.out (fun _ hk => ⟨⟨hk.1, ⟨hk.2.2.1, ⟨hk.2.2.2.1, ⟨hk.2.2.2.2.1, ⟨hk.2.2.2.2.2.1, ⟨hk.2.2.2.2.2.2.1, hk.2.2.2.2.2.2.2⟩⟩⟩⟩⟩⟩, hk.2.1⟩)) hg hat); have n1_ := Aside0.mk (Kd.R_after (ok := (fun k_ => (w.heap.size ≤ k_))) (by (with_reducible repeat (first | apply Kd.R_alloc | apply Kd.R_drewN | apply Kd.R_drew)); exact HO_15.out) hg hat); have n2_ := Aside0.mk (Kd.N_afterv (ok := (fun k_ => (w.heap.size ≤ k_) ∧ some k_ ≠ (.slice (some ad684) x10_3.length co29 : Value).ownBlock ∧ some k_ ≠ (.slice Ao58 x15_26.length co58 : Value).ownBlock ∧ some k_ ≠ (u676001 : Value).ownBlock ∧ k_ ≠ gb667 ∧ k_ ≠ gb668 ∧ k_ ≠ gb675)) (by (with_reducible repeat (first | apply Kd.N_alloc | apply Kd.N_drewN | apply Kd.N_drew)); exact Kd.N_mono HO_676000.out (fun _ hk => ⟨⟨hk.1, ⟨hk.2.1, ⟨hk.2.2.2.1, ⟨hk.2.2.2.2.1, ⟨hk.2.2.2.2.2.1, ⟨hk.2.2.2.2.2.2.1, hk.2.2.2.2.2.2.2⟩⟩⟩⟩⟩⟩, hk.2.2.1⟩)) hg hat); have n3_ := Aside0.mk (Kd.R_over' (by (with_reducible repeat (first | apply Kd.R_alloc | apply Kd.R_drewN | apply Kd.R_drew)); exact HO_676001.out) (Kd.R_typed (by (with_reducible repeat (first | apply Kd.R_alloc | apply Kd.R_drewN | apply Kd.R_drew)); exact HO_13.out)) (by decide) hg); have n4_ := Aside0.mk (blk_grown (g := gb667) (o := .cells #[.bool a0_0, .slice A0_1 l0_1.length c0_1, .slice A0_2 l0_2.length c0_2, .slice A0_3 l0_3.length c0_3, .slice A0_4 l0_4.length c0_4] 30 (0, 0)) (by (with_reducible repeat (first | refine blk_drewN ?_ _ | refine blk_drew ?_ | refine blk_alloc ?_ _)); exact BK667.out) hg (Kd.R_ne HO_13.out BK667.out (by decide))); have n5_ := Aside0.mk (blk_grown (g := gb668) (o := .cells #[.slice none 0 0, .slice none 0 0] 47 (0, 0)) (by (with_reducible repeat (first | refine blk_drewN ?_ _ | refine blk_drew ?_ | refine blk_alloc ?_ _)); exact BK668.out) hg (Kd.R_ne HO_13.out BK668.out (by decide))); have n6_ := Aside0.mk (blk_grown (g := gb675) (o := .cells #[u676000, u676001] 47 (0, 0)) (by (with_reducible repeat (first | refine blk_drewN ?_ _ | refine blk_drew ?_ | refine blk_alloc ?_ _)); exact BK675.out) hg (Kd.R_ne HO_13.out BK675.out (by decide))); have n7_ := Aside0.mk (hb); have n8_ := Aside0.mk (ho); clear HO_10; clear HO_15; clear HO_676000; clear HO_676001; clear BK667; clear BK668; clear BK675; clear HB; clear HO_13; have HO_10 := n0_; have HO_15 := n1_; have HO_676000 := n2_; have HO_676001 := n3_; have BK667 := n4_; have BK668 := n5_; have BK675 := n6_; have HB := n7_; have HO704 := n8_; clear n0_ n1_ n2_ n3_ n4_ n5_ n6_ n7_ n8_; clear ho hb hg hat))
                  go_roundg kj26
                  case measure => have := HJ4.out; have := HK2.out; have := HK3.out; have := HJ26.out; omega
                  case rel => exact ⟨(x10_3), (y702), (wrap64 (x14_3 + 1)), (by first | rfl | (simp; done) | (simp [*]; done)), H', ⟨by have := HJ4.out; have := HK2.out; have := HK3.out; have := HJ26.out; omega⟩, ⟨by (with_reducible repeat (first | apply Kd.N_alloc | apply Kd.N_drewN | apply Kd.N_drew)); exact Kd.N_mono HO_10.out (fun _ hk => ⟨hk.1.1, ⟨hk.2, ⟨hk.1.2.2.1, ⟨hk.1.2.2.2.1, ⟨hk.1.2.2.2.2.1, ⟨hk.1.2.2.2.2.2.1, hk.1.2.2.2.2.2.2⟩⟩⟩⟩⟩⟩)⟩, ⟨by (with_reducible repeat (first | apply Kd.R_alloc | apply Kd.R_drewN | apply Kd.R_drew)); exact Kd.R_mono HO704.out (fun _ hk => hk.1)⟩, ⟨by (with_reducible repeat (first | apply Kd.N_alloc | apply Kd.N_drewN | apply Kd.N_drew)); exact Kd.N_mono HO_676000.out (fun _ hk => ⟨hk.1.1, ⟨hk.1.2.1, ⟨hk.2, ⟨hk.1.2.2.2.1, ⟨hk.1.2.2.2.2.1, ⟨hk.1.2.2.2.2.2.1, hk.1.2.2.2.2.2.2⟩⟩⟩⟩⟩⟩)⟩, ⟨by (with_reducible repeat (first | apply Kd.R_alloc | apply Kd.R_drewN | apply Kd.R_drew)); exact HO_676001.out⟩, ⟨by (with_reducible repeat (first | refine blk_drewN ?_ _ | refine blk_drew ?_ | refine blk_alloc ?_ _)); exact BK667.out⟩, ⟨by (with_reducible repeat (first | refine blk_drewN ?_ _ | refine blk_drew ?_ | refine blk_alloc ?_ _)); exact BK668.out⟩, ⟨by (with_reducible repeat (first | refine blk_drewN ?_ _ | refine blk_drew ?_ | refine blk_alloc ?_ _)); exact BK675.out⟩, ⟨by repeat (first | (with_reducible first | exact HB.out | apply below_alloc | apply pw_below_drewN | apply below_drew1 | refine below_set ?_ GE667.out | refine below_set ?_ GE668.out | refine below_set ?_ GE675.out) | exact HB.out)⟩⟩
                 ·rw [if_neg c57] at H
                  exact absurd H (by simp)
            ·rw [if_neg c25] at H
             exact absurd H (by simp)
           ·rw [if_neg c24] at H
            exact absurd H (by simp)
          ·rw [if_neg c23] at H
           exact absurd H (by simp)
         ·rw [if_neg c22] at H
          have c22b0 : decide (x14_3 < (l1.length : Int)) = false := decide_eq_false c22
          clear c22
          by_cases c60 : x676000_2.length < 5864062014805
          ·rw [if_pos c60] at H
           have LMc60 := Aside0.mk c60
           clear c60
           obtain ⟨y676, hy676⟩ : ∃ y_ : List (List Int), y_ = (x676000_2 ++ [x13_3]) := ⟨_, rfl⟩
           replace H : (if 0 ≤ x12_2 then (if x12_2 < (x10_3.length : Int) then ((scansionref11_End.f k3 a0_0 l0_1 l0_2 l0_3 l0_4 (rd_L3 x10_3 x12_2)).bind fun t680 => (if x676001_2.length < 140737488355328 then (scansionref12_Build.l0 k3 l1 a2 a3 x10_3 (wrap64 (x12_2 + 1)) a0_0 l0_1 l0_2 l0_3 l0_4 y676 (x676001_2 ++ [t680])) else (none))) else (none)) else (none)) = some (r1, r2, r3) := by first | (rw [hy676]; with_reducible exact H) | (have H2_ := (Option.bind_some _ _).symm.trans H; rw [hy676]; with_reducible exact H2_) | (have H2_ := (Option.bind_some _ _).symm.trans H; with_reducible exact H2_) | with_reducible exact H | (rw [hy676]; exact H) | exact H
           have Ny676 := Aside0.mk hy676
           clear hy676
           by_cases c61 : 0 ≤ x12_2
           ·rw [if_pos c61] at H
            have c61b0 : decide (0 ≤ x12_2) = true := decide_eq_true c61
            clear c61
            by_cases c62 : x12_2 < (x10_3.length : Int)
            ·rw [if_pos c62] at H
             have c62b0 : decide (x12_2 < (x10_3.length : Int)) = true := decide_eq_true c62
             clear c62
             replace H := Option.bind_eq_some_iff.mp H
             obtain ⟨t680, A630, H⟩ := H
             replace H : (if x676001_2.length < 140737488355328 then (scansionref12_Build.l0 k3 l1 a2 a3 x10_3 (wrap64 (x12_2 + 1)) a0_0 l0_1 l0_2 l0_3 l0_4 y676 (x676001_2 ++ [t680])) else (none)) = some (r1, r2, r3) := H
             have A63 := Aside0.mk A630
             clear A630
             by_cases c64 : x676001_2.length < 140737488355328
             ·rw [if_pos c64] at H
              have LMc64 := Aside0.mk c64
              clear c64
              obtain ⟨y681, hy681⟩ : ∃ y_ : List Bool, y_ = (x676001_2 ++ [t680]) := ⟨_, rfl⟩
              replace H : (scansionref12_Build.l0 k3 l1 a2 a3 x10_3 (wrap64 (x12_2 + 1)) a0_0 l0_1 l0_2 l0_3 l0_4 y676 y681) = some (r1, r2, r3) := by first | (rw [hy681]; with_reducible exact H) | (have H2_ := (Option.bind_some _ _).symm.trans H; rw [hy681]; with_reducible exact H2_) | (have H2_ := (Option.bind_some _ _).symm.trans H; with_reducible exact H2_) | with_reducible exact H | (rw [hy681]; exact H) | exact H
              have Ny681 := Aside0.mk hy681
              clear hy681
              have H' := Aside0.mk H
              clear H
              have hnb65 := NB675_667.out
              have hnc65 := NB667_675.out
              have hnb66 := NB675_668.out
              have hnc66 := NB668_675.out
              have hcz67_0 : wr.cell? ⟨gb675, 0, none⟩ = some (u676000) := (blk_cell BK675.out 0).trans rfl
              have hcz67_1 : wr.cell? ⟨gb675, 1, none⟩ = some (u676001) := (blk_cell BK675.out 1).trans rfl
              have hfz67_0 := blk_frozen BK675.out 0
              have hfz67_1 := blk_frozen BK675.out 1
              obtain ⟨Ao69, co69, eo69⟩ := Kd.R_slice HO_13.out
              subst eo69
              try go_wp2_with (first | ((with_reducible refine gate_builtin (b := .append) (xs := #[.tmp 83, .tmp 85]) rfl ?_); (try (refine gate_guard (by rfl) ?_; dsimp only)); at_builtin; refine Kd.N_append (Kd.slice 3 (Kd.int .i64)) (w0 := w) w.heap.size rfl (.tmp 83) (.tmp 85) 28 27 (.slice none 0 0) 24 rfl Try.underlying28 info27 rfl (by decide) (by omega) u676000 x676000_2 x13_3 [.slice Ao69 x13_3.length co69] (fun k_ => (w.heap.size ≤ k_) ∧ some k_ ≠ (u10 : Value).ownBlock ∧ some k_ ≠ (u676001 : Value).ownBlock ∧ k_ ≠ gb667 ∧ k_ ≠ gb668 ∧ k_ ≠ gb675) (fun k_ => ((fun k_ => (w.heap.size ≤ k_) ∧ some k_ ≠ (u10 : Value).ownBlock ∧ some k_ ≠ (u676001 : Value).ownBlock ∧ k_ ≠ gb667 ∧ k_ ≠ gb668 ∧ k_ ≠ gb675)) k_ ∧ some k_ ≠ (u676000 : Value).ownBlock) rfl rfl ?aP (fun _ hk => hk) ?aF ?aO ?aB ?aS ?aL ?_; (case aP => exact (Kd.FK_slice_mk (Kd.R_reads' (Kd.R_mono (ok' := (fun k_ => ((fun k_ => (w.heap.size ≤ k_) ∧ some k_ ≠ (u10 : Value).ownBlock ∧ some k_ ≠ (u676001 : Value).ownBlock ∧ k_ ≠ gb667 ∧ k_ ≠ gb668 ∧ k_ ≠ gb675)) k_ ∧ some k_ ≠ (u676000 : Value).ownBlock)) (Kd.R_types (Kd.R_types (Kd.R_types (Kd.R_apart' (Kd.R_apart' (Kd.R_apart' (HO_13.out) (Kd.N_typed HO_10.out) (by decide)) (Kd.R_typed HO_676001.out) (by decide)) (Kd.N_typed HO_676000.out) (by decide)) BK667.out (by decide)) BK668.out (by decide)) BK675.out (by decide)) (fun k_ hk => ⟨⟨hk.1.1.1.1.1.1, ⟨hk.1.1.1.1.1.2, ⟨hk.1.1.1.1.2, ⟨hk.1.1.2, ⟨hk.1.2, hk.2⟩⟩⟩⟩⟩, hk.1.1.1.2⟩))).2.1 (Kd.R_F (Kd.R_mono (ok' := (fun k_ => ((fun k_ => (w.heap.size ≤ k_) ∧ some k_ ≠ (u10 : Value).ownBlock ∧ some k_ ≠ (u676001 : Value).ownBlock ∧ k_ ≠ gb667 ∧ k_ ≠ gb668 ∧ k_ ≠ gb675)) k_ ∧ some k_ ≠ (u676000 : Value).ownBlock)) (Kd.R_types (Kd.R_types (Kd.R_types (Kd.R_apart' (Kd.R_apart' (Kd.R_apart' (HO_13.out) (Kd.N_typed HO_10.out) (by decide)) (Kd.R_typed HO_676001.out) (by decide)) (Kd.N_typed HO_676000.out) (by decide)) BK667.out (by decide)) BK668.out (by decide)) BK675.out (by decide)) (fun k_ hk => ⟨⟨hk.1.1.1.1.1.1, ⟨hk.1.1.1.1.1.2, ⟨hk.1.1.1.1.2, ⟨hk.1.1.2, ⟨hk.1.2, hk.2⟩⟩⟩⟩⟩, hk.1.1.1.2⟩))))); (case aB => exact (by repeat (first | (with_reducible first | exact HB.out | apply below_alloc | apply pw_below_drewN | apply below_drew1 | refine below_set ?_ GE667.out | refine below_set ?_ GE668.out | refine below_set ?_ GE675.out) | exact HB.out))); (case aF => exact (fun k_ hk => ⟨(Nat.le_trans (below_size (by repeat (first | (with_reducible first | exact HB.out | apply below_alloc | apply pw_below_drewN | apply below_drew1 | refine below_set ?_ GE667.out | refine below_set ?_ GE668.out | refine below_set ?_ GE675.out) | exact HB.out))) hk), Kd.fresh' (Kd.N_lt (by (with_reducible repeat (first | apply Kd.N_alloc | apply Kd.N_drewN | apply Kd.N_drew)); exact HO_10.out)) k_ hk, Kd.fresh' (Kd.R_lt (by (with_reducible repeat (first | apply Kd.R_alloc | apply Kd.R_drewN | apply Kd.R_drew)); exact HO_676001.out)) k_ hk, Kd.freshB (g := gb667) (o := .cells #[.bool a0_0, .slice A0_1 l0_1.length c0_1, .slice A0_2 l0_2.length c0_2, .slice A0_3 l0_3.length c0_3, .slice A0_4 l0_4.length c0_4] 30 (0, 0)) (by (with_reducible repeat (first | refine blk_drewN ?_ _ | refine blk_drew ?_ | refine blk_alloc ?_ _)); exact BK667.out) k_ hk, Kd.freshB (g := gb668) (o := .cells #[.slice none 0 0, .slice none 0 0] 47 (0, 0)) (by (with_reducible repeat (first | refine blk_drewN ?_ _ | refine blk_drew ?_ | refine blk_alloc ?_ _)); exact BK668.out) k_ hk, Kd.freshB (g := gb675) (o := .cells #[u676000, u676001] 47 (0, 0)) (by (with_reducible repeat (first | refine blk_drewN ?_ _ | refine blk_drew ?_ | refine blk_alloc ?_ _)); exact BK675.out) k_ hk⟩)); (case aO => exact (by (with_reducible repeat (first | apply Kd.N_alloc | apply Kd.N_drewN | apply Kd.N_drew)); exact Kd.N_mono HO_676000.out (fun _ hk => ⟨hk.1, ⟨hk.2.1, ⟨hk.2.2.2.1, ⟨hk.2.2.2.2.1, ⟨hk.2.2.2.2.2.1, hk.2.2.2.2.2.2⟩⟩⟩⟩⟩))); (case aS => exact (below_size (by repeat (first | (with_reducible first | exact HB.out | apply below_alloc | apply pw_below_drewN | apply below_drew1 | refine below_set ?_ GE667.out | refine below_set ?_ GE668.out | refine below_set ?_ GE675.out) | exact HB.out)))); (case aL => have := LMc60.out; omega); intro v677 w68 ho hb hg hat; rw [← Ny676.out] at ho; have n0_ := Aside0.mk (Kd.N_afterv (ok := (fun k_ => (w.heap.size ≤ k_) ∧ some k_ ≠ (.slice Ao69 x13_3.length co69 : Value).ownBlock ∧ some k_ ≠ (u676001 : Value).ownBlock ∧ k_ ≠ gb667 ∧ k_ ≠ gb668 ∧ k_ ≠ gb675)) (by (with_reducible repeat (first | apply Kd.N_alloc | apply Kd.N_drewN | apply Kd.N_drew)); exact Kd.N_mono HO_10.out (fun _ hk => ⟨⟨hk.1, ⟨hk.2.1, ⟨hk.2.2.2.1, ⟨hk.2.2.2.2.1, ⟨hk.2.2.2.2.2.1, hk.2.2.2.2.2.2⟩⟩⟩⟩⟩, hk.2.2.1⟩)) hg hat); have n1_ := Aside0.mk (Kd.R_over' (by (with_reducible repeat (first | apply Kd.R_alloc | apply Kd.R_drewN | apply Kd.R_drew)); exact HO_676001.out) (Kd.N_typed (by (with_reducible repeat (first | apply Kd.N_alloc | apply Kd.N_drewN | apply Kd.N_drew)); exact HO_676000.out)) (by decide) hg); have n2_ := Aside0.mk (blk_grown (g := gb667) (o := .cells #[.bool a0_0, .slice A0_1 l0_1.length c0_1, .slice A0_2 l0_2.length c0_2, .slice A0_3 l0_3.length c0_3, .slice A0_4 l0_4.length c0_4] 30 (0, 0)) (by (with_reducible repeat (first | refine blk_drewN ?_ _ | refine blk_drew ?_ | refine blk_alloc ?_ _)); exact BK667.out) hg (Kd.N_ne HO_676000.out BK667.out (by decide))); have n3_ := Aside0.mk (blk_grown (g := gb668) (o := .cells #[.slice none 0 0, .slice none 0 0] 47 (0, 0)) (by (with_reducible repeat (first | refine blk_drewN ?_ _ | refine blk_drew ?_ | refine blk_alloc ?_ _)); exact BK668.out) hg (Kd.N_ne HO_676000.out BK668.out (by decide))); have n4_ := Aside0.mk (blk_grown (g := gb675) (o := .cells #[u676000, u676001] 47 (0, 0)) (by (with_reducible repeat (first | refine blk_drewN ?_ _ | refine blk_drew ?_ | refine blk_alloc ?_ _)); exact BK675.out) hg (Kd.N_ne HO_676000.out BK675.out (by decide))); have n5_ := Aside0.mk (hb); have n6_ := Aside0.mk (ho); clear HO_10; clear HO_676001; clear BK667; clear BK668; clear BK675; clear HB; clear HO_676000; clear HO_13; have HO_10 := n0_; have HO_676001 := n1_; have BK667 := n2_; have BK668 := n3_; have BK675 := n4_; have HB := n5_; have HO678 := n6_; clear n0_ n1_ n2_ n3_ n4_ n5_ n6_; clear ho hb hg hat; obtain ⟨Ao70, co70, eo70⟩ := Kd.N_slice HO678.out; subst eo70; have hcz71_0 : w68.cell? ⟨gb675, 0, none⟩ = some (u676000) := (blk_cell BK675.out 0).trans rfl; have hcz71_1 : w68.cell? ⟨gb675, 1, none⟩ = some (u676001) := (blk_cell BK675.out 1).trans rfl; have hfz71_0 := blk_frozen BK675.out 0; have hfz71_1 := blk_frozen BK675.out 1))
              have n0_ : Aside0 (Kd.N (Kd.slice 3 (Kd.int .i64)) 27 (w68.setCell ⟨gb675, 0, none⟩ (.slice Ao70 y676.length co70)) w.heap.size (fun k_ => (w.heap.size ≤ k_) ∧ some k_ ≠ (u676001 : Value).ownBlock ∧ some k_ ≠ (.slice Ao70 y676.length co70 : Value).ownBlock ∧ k_ ≠ gb667 ∧ k_ ≠ gb668 ∧ k_ ≠ gb675) u10 x10_3) := ⟨by (with_reducible repeat (first | apply Kd.N_alloc | apply Kd.N_drewN | apply Kd.N_drew)); exact Kd.N_mono (Kd.N_far (p := ⟨gb675, 0, none⟩) (Kd.N_mono HO_10.out (fun k_ hk => (⟨hk, hk.1.2.2.2.2.2⟩ : _ ∧ k_ ≠ gb675))) (fun _ hk => hk.2) (.slice Ao70 y676.length co70)) (fun _ hk => ⟨hk.1.1.1, ⟨hk.1.1.2.2.1, ⟨hk.1.2, ⟨hk.1.1.2.2.2.1, ⟨hk.1.1.2.2.2.2.1, hk.1.1.2.2.2.2.2⟩⟩⟩⟩⟩)⟩
              have n1_ : Aside0 (Kd.R Kd.bool 4 (w68.setCell ⟨gb675, 0, none⟩ (.slice Ao70 y676.length co70)) w.heap.size (fun k_ => (w.heap.size ≤ k_)) u676001 x676001_2) := ⟨by (with_reducible repeat (first | apply Kd.R_alloc | apply Kd.R_drewN | apply Kd.R_drew)); exact Kd.R_mono (Kd.R_far (p := ⟨gb675, 0, none⟩) (Kd.R_types HO_676001.out BK675.out (by decide)) (fun _ hk => hk.2) (.slice Ao70 y676.length co70)) (fun _ hk => hk.1)⟩
              have n2_ : Aside0 (Kd.N (Kd.slice 3 (Kd.int .i64)) 27 (w68.setCell ⟨gb675, 0, none⟩ (.slice Ao70 y676.length co70)) w.heap.size (fun k_ => (w.heap.size ≤ k_) ∧ some k_ ≠ (u10 : Value).ownBlock ∧ some k_ ≠ (u676001 : Value).ownBlock ∧ k_ ≠ gb667 ∧ k_ ≠ gb668 ∧ k_ ≠ gb675) (.slice Ao70 y676.length co70) y676) := ⟨by (with_reducible repeat (first | apply Kd.N_alloc | apply Kd.N_drewN | apply Kd.N_drew)); exact Kd.N_mono (Kd.N_far (p := ⟨gb675, 0, none⟩) (Kd.N_mono HO678.out (fun k_ hk => (⟨hk, hk.2.2.2.2.2⟩ : _ ∧ k_ ≠ gb675))) (fun _ hk => hk.2) (.slice Ao70 y676.length co70)) (fun _ hk => ⟨hk.1.1, ⟨hk.1.2.1, ⟨hk.1.2.2.1, ⟨hk.1.2.2.2.1, ⟨hk.1.2.2.2.2.1, hk.1.2.2.2.2.2⟩⟩⟩⟩⟩)⟩
              have n3_ : Aside0 ((w68.setCell ⟨gb675, 0, none⟩ (.slice Ao70 y676.length co70)).heap[gb667]? = some (.cells #[.bool a0_0, .slice A0_1 l0_1.length c0_1, .slice A0_2 l0_2.length c0_2, .slice A0_3 l0_3.length c0_3, .slice A0_4 l0_4.length c0_4] 30 (0, 0))) := ⟨by (with_reducible repeat (first | refine blk_drewN ?_ _ | refine blk_drew ?_ | refine blk_alloc ?_ _)); refine blk_far ?_ NB667_675.out _; (with_reducible repeat (first | refine blk_drewN ?_ _ | refine blk_drew ?_ | refine blk_alloc ?_ _)); exact BK667.out⟩
              have n4_ : Aside0 ((w68.setCell ⟨gb675, 0, none⟩ (.slice Ao70 y676.length co70)).heap[gb668]? = some (.cells #[.slice none 0 0, .slice none 0 0] 47 (0, 0))) := ⟨by (with_reducible repeat (first | refine blk_drewN ?_ _ | refine blk_drew ?_ | refine blk_alloc ?_ _)); refine blk_far ?_ NB668_675.out _; (with_reducible repeat (first | refine blk_drewN ?_ _ | refine blk_drew ?_ | refine blk_alloc ?_ _)); exact BK668.out⟩
              have n5_ : Aside0 ((w68.setCell ⟨gb675, 0, none⟩ (.slice Ao70 y676.length co70)).heap[gb675]? = some (.cells #[.slice Ao70 y676.length co70, u676001] 47 (0, 0))) := ⟨by (with_reducible repeat (first | refine blk_drewN ?_ _ | refine blk_drew ?_ | refine blk_alloc ?_ _)); refine blk_put (cs := #[u676000, u676001]) ?_ 0 _ rfl; (with_reducible repeat (first | refine blk_drewN ?_ _ | refine blk_drew ?_ | refine blk_alloc ?_ _)); exact BK675.out⟩
              have n6_ : Aside0 (Below w.heap.size w (w68.setCell ⟨gb675, 0, none⟩ (.slice Ao70 y676.length co70))) := ⟨by repeat (first | (with_reducible first | exact HB.out | apply below_alloc | apply pw_below_drewN | apply below_drew1 | refine below_set ?_ GE667.out | refine below_set ?_ GE668.out | refine below_set ?_ GE675.out) | exact HB.out)⟩
              (try clear HO_10)
              (try clear HO_676001)
              (try clear HO678)
              (try clear BK667)
              (try clear BK668)
              (try clear BK675)
              (try clear HB)
              generalize (w68.setCell ⟨gb675, 0, none⟩ (.slice Ao70 y676.length co70)) = w72 at n0_ n1_ n2_ n3_ n4_ n5_ n6_ ⊢
              have HO_10 := n0_
              have HO_676001 := n1_
              have HO678 := n2_
              have BK667 := n3_
              have BK668 := n4_
              have BK675 := n5_
              have HB := n6_
              clear n0_ n1_ n2_ n3_ n4_ n5_ n6_
              have n0_ := Aside0.mk (Kd.N_drew HO_10.out)
              have n1_ := Aside0.mk (Kd.R_drew HO_676001.out)
              have n2_ := Aside0.mk (Kd.N_drew HO678.out)
              have n3_ := Aside0.mk (blk_drew BK667.out)
              have n4_ := Aside0.mk (blk_drew BK668.out)
              have n5_ := Aside0.mk (blk_drew BK675.out)
              have n6_ := Aside0.mk (below_drew1 HB.out)
              clear HO_10
              clear HO_676001
              clear HO678
              clear BK667
              clear BK668
              clear BK675
              clear HB
              have HO_10 := n0_
              have HO_676001 := n1_
              have HO678 := n2_
              have BK667 := n3_
              have BK668 := n4_
              have BK675 := n5_
              have HB := n6_
              clear n0_ n1_ n2_ n3_ n4_ n5_ n6_
              obtain ⟨Ao74, co74, eo74⟩ := Kd.N_slice HO_10.out
              (first | subst eo74 | (injection eo74 with f1_ f2_ f3_; have f4_ := f1_.symm; have f5_ := f3_.symm; clear f1_ f2_ f3_; subst f4_; subst f5_))
              have p679 : 0 ≤ (x12_2 : Int) := of_decide_eq_true (by first | (with_reducible assumption) | assumption)
              have q679 : x12_2 < (x10_3.length : Int) := of_decide_eq_true (by first | (with_reducible assumption) | assumption)
              obtain ⟨ad679, A679_0, c679_0, e679, hx679_0, hl679_0, hi679_0⟩ := at_L3 (Kd.N_reads' HO_10.out).2.2 x12_2 p679 q679
              cases e679
              obtain ⟨ce679, hce679, hMe679, hcc679⟩ := Kd.N_get HO_10.out [] x12_2 p679 (by first | exact q679 | exact of_decide_eq_true (by first | (with_reducible assumption) | assumption) | (have e_ := (Kd.N_reads' HO_10.out).1; omega))
              obtain ⟨ua679_0, uc679_0, rfl, ul679_0, ge679_0⟩ := Kd.FK_slice_open hMe679
              have hv679_0 := hcc679 0 _ rfl
              rw [Nat.add_zero, show ((Kd.slice 3 (Kd.int .i64))).sz = 1 from rfl, Nat.mul_one] at hv679_0
              replace hv679_0 := Option.some.inj (hv679_0.symm.trans hx679_0)
              injection hv679_0 with hva_ hvn_ hvc_
              rw [hva_] at ge679_0
              rw [hvc_] at ul679_0
              have HL679_0 := Aside0.mk (show Kd.V (Kd.int .i64) 3 _ w.heap.size _ _ (rd_L3 x10_3 x12_2) from Kd.V_mk ul679_0 ge679_0)
              clear hva_ hvn_ hvc_ ge679_0 ul679_0
              clear hcc679 hce679
              have HR679_0 := Aside0.mk hi679_0
              have HC679_0 := Aside0.mk hl679_0
              clear hi679_0 hl679_0
              replace p679 := eq_true p679
              replace q679 := eq_true q679
              refine start_ (n := 12) (S := fun w' => w'.cell? ⟨gb675, 0, none⟩ = some (.slice Ao70 y676.length co70) ∧ w'.cell? ⟨gb675, 1, none⟩ = some (u676001) ∧ w'.cell? ⟨gb667, 0, none⟩ = some (.bool a0_0) ∧ w'.cell? ⟨gb667, 1, none⟩ = some (.slice A0_1 l0_1.length c0_1) ∧ w'.cell? ⟨gb667, 2, none⟩ = some (.slice A0_2 l0_2.length c0_2) ∧ w'.cell? ⟨gb667, 3, none⟩ = some (.slice A0_3 l0_3.length c0_3) ∧ w'.cell? ⟨gb667, 4, none⟩ = some (.slice A0_4 l0_4.length c0_4) ∧ w'.cell? (ad679.add (x12_2).toNat) = some (.slice A679_0 (rd_L3 x10_3 x12_2).length c679_0)) (ds := [9, 11]) #[false, false, false, false, false, false, false, false, false, false, false, false] (by kernel_rfl) rfl rfl ⟨(blk_cell BK675.out 0).trans rfl, (blk_cell BK675.out 1).trans rfl, (blk_cell BK667.out 0).trans rfl, (blk_cell BK667.out 1).trans rfl, (blk_cell BK667.out 2).trans rfl, (blk_cell BK667.out 3).trans rfl, (blk_cell BK667.out 4).trans rfl, hx679_0⟩ (fun hHeld => ?_); refine with_tabW scansionref12_Build.tab23 scansionref12_Build.bits23 (fun HT_ HW_ => ?_)
              generalize w72.drew = w73 at HO_10 HO_676001 HO678 BK667 BK668 BK675 HB HL679_0 HR679_0 hx679_0 hHeld ⊢
              refine pure_ (i := 0) (N := some 88) (v := ?_) (a' := ?_) #[true, false, false, false, false, false, false, false, false, false, false, false] rfl rfl (any_of HT_.out (by kernel_rfl)) (fun _ _ _ h => h) (Or.inl ⟨by rfl, ?_⟩) ?_ ?_
              rotate_left
              ·intro w'
               go_simp
               with_reducible rfl
              rotate_left
              ·simp only [Act.put, List.setIfInBounds_toArray, List.set_cons_zero, List.set_cons_succ, i64_w, i32_w]
               rfl
              refine pure_ (i := 3) (N := some 91) (v := ?_) (a' := ?_) #[true, false, false, true, false, false, false, false, false, false, false, false] rfl rfl (any_of HT_.out (by kernel_rfl)) (fun _ _ _ h => h) (Or.inl ⟨by rfl, ?_⟩) ?_ ?_
              rotate_left
              ·intro w'
               go_simp
               with_reducible rfl
              rotate_left
              ·simp only [Act.put, List.setIfInBounds_toArray, List.set_cons_zero, List.set_cons_succ, i64_w, i32_w]
               rfl
              refine pure_ (i := 4) (N := some 92) (v := ?_) (a' := ?_) #[true, false, false, true, true, false, false, false, false, false, false, false] rfl rfl (any_of HT_.out (by kernel_rfl)) (fun _ _ _ h => h) (Or.inl ⟨by rfl, ?_⟩) ?_ ?_
              rotate_left
              ·intro w'
               go_simp
               with_reducible rfl
              rotate_left
              ·simp only [Act.put, List.setIfInBounds_toArray, List.set_cons_zero, List.set_cons_succ, i64_w, i32_w]
               rfl
              refine pure_ (i := 5) (N := some 93) (v := ?_) (a' := ?_) #[true, false, false, true, true, true, false, false, false, false, false, false] rfl rfl (any_of HT_.out (by kernel_rfl)) (fun _ _ _ h => h) (Or.inl ⟨by rfl, ?_⟩) ?_ ?_
              rotate_left
              ·intro w'
               go_simp
               with_reducible rfl
              rotate_left
              ·simp only [Act.put, List.setIfInBounds_toArray, List.set_cons_zero, List.set_cons_succ, i64_w, i32_w]
               rfl
              refine take_ (i := 1) (N := some 89) (v := ?_) (a' := ?_) #[true, true, false, true, true, true, false, false, false, false, false, false] rfl rfl (take_ofW HT_.out HW_.out (by kernel_rfl)) (fun _ _ _ h => h) (Or.inl ⟨by rfl, ?_⟩) hHeld ?_ ?_
              rotate_left
              ·rintro w' ⟨s0, s1, s2, s3, s4, s5, s6, s7⟩
               go_simp
               with_reducible rfl
              rotate_left
              ·simp only [Act.put, List.setIfInBounds_toArray, List.set_cons_zero, List.set_cons_succ, i64_w, i32_w]
               rfl
              refine take_ (i := 2) (N := some 90) (v := ?_) (a' := ?_) #[true, true, true, true, true, true, false, false, false, false, false, false] rfl rfl (take_ofW HT_.out HW_.out (by kernel_rfl)) (fun _ _ _ h => h) (Or.inl ⟨by rfl, ?_⟩) hHeld ?_ ?_
              rotate_left
              ·rintro w' ⟨s0, s1, s2, s3, s4, s5, s6, s7⟩
               go_simp
               with_reducible rfl
              rotate_left
              ·simp only [Act.put, List.setIfInBounds_toArray, List.set_cons_zero, List.set_cons_succ, i64_w, i32_w]
               rfl
              refine take_ (i := 6) (N := some 94) (v := ?_) (a' := ?_) #[true, true, true, true, true, true, true, false, false, false, false, false] rfl rfl (take_ofW HT_.out HW_.out (by kernel_rfl)) (fun _ _ _ h => h) (Or.inl ⟨by rfl, ?_⟩) hHeld ?_ ?_
              rotate_left
              ·rintro w' ⟨s0, s1, s2, s3, s4, s5, s6, s7⟩
               go_simp
               with_reducible rfl
              rotate_left
              ·simp only [Act.put, List.setIfInBounds_toArray, List.set_cons_zero, List.set_cons_succ, i64_w, i32_w]
               rfl
              refine one_ (i := 7) (N := some 95) #[true, true, true, true, true, true, true, true, false, false, false, false] rfl rfl (one_of HT_.out (by kernel_rfl)) (by decide) (fun K hK => ?_)
              refine goes_ Try.func27 (by kernel_rfl) rfl #[.agg #[.bool a0_0, .slice A0_1 l0_1.length c0_1, .slice A0_2 l0_2.length c0_2, .slice A0_3 l0_3.length c0_3, .slice A0_4 l0_4.length c0_4], .slice A679_0 (rd_L3 x10_3 x12_2).length c679_0] (by rfl) rfl rfl (by (try simp only [List.map_toArray, List.map_cons, List.map_nil]); first | done | rfl | (simp only [List.length_drop, List.length_take]; rfl)) ?_
              with_reducible refine (scansionref11_End.calls k3 a0_0 _ _ l0_1 _ _ l0_2 _ _ l0_3 _ _ l0_4 _ _ (rd_L3 x10_3 x12_2) t680 _ ?side1 ?side2 ?side3 ?side4 ?side5 ?side6 ?side7 ?side8 ?side9 ?side10 A63.out).mono ?_
              (case side1 => repeat (first | exact (Kd.C_below HR0_1.out HB.out) | (with_reducible refine Kd.C_alloc ?_ _) | (with_reducible refine Kd.C_drewN ?_ _) | (with_reducible refine Kd.C_drew ?_)))
              (case side2 => exact HC0_1.out)
              (case side3 => repeat (first | exact (Kd.C_below HR0_2.out HB.out) | (with_reducible refine Kd.C_alloc ?_ _) | (with_reducible refine Kd.C_drewN ?_ _) | (with_reducible refine Kd.C_drew ?_)))
              (case side4 => exact HC0_2.out)
              (case side5 => repeat (first | exact (Kd.C_below HR0_3.out HB.out) | (with_reducible refine Kd.C_alloc ?_ _) | (with_reducible refine Kd.C_drewN ?_ _) | (with_reducible refine Kd.C_drew ?_)))
              (case side6 => exact HC0_3.out)
              (case side7 => repeat (first | exact (Kd.C_below HR0_4.out HB.out) | (with_reducible refine Kd.C_alloc ?_ _) | (with_reducible refine Kd.C_drewN ?_ _) | (with_reducible refine Kd.C_drew ?_)))
              (case side8 => exact HC0_4.out)
              (case side9 => repeat (first | exact (by repeat (first | (with_reducible exact HR679_0.out) | (with_reducible refine Kd.C_alloc ?_ _) | (with_reducible refine Kd.C_drewN ?_ _) | (with_reducible refine Kd.C_drew ?_) | exact HR679_0.out)) | (with_reducible refine Kd.C_alloc ?_ _) | (with_reducible refine Kd.C_drewN ?_ _) | (with_reducible refine Kd.C_drew ?_)))
              (case side10 => exact HC679_0.out)
              rintro e w75 ⟨rfl, hb⟩
              have HS7_ := (hb.cell (World.block_lt_of_cell? _ _ (hHeld.2.2.2.2.2.2.2))).trans (hHeld.2.2.2.2.2.2.2)
              refine ⟨_, rfl, ?_⟩
              have n0_ := Aside0.mk (Kd.N_below (by (with_reducible repeat (first | apply Kd.N_alloc | apply Kd.N_drewN | apply Kd.N_drew)); exact HO_10.out) hb)
              have n1_ := Aside0.mk (Kd.R_below (by (with_reducible repeat (first | apply Kd.R_alloc | apply Kd.R_drewN | apply Kd.R_drew)); exact HO_676001.out) hb)
              have n2_ := Aside0.mk (Kd.N_below (by (with_reducible repeat (first | apply Kd.N_alloc | apply Kd.N_drewN | apply Kd.N_drew)); exact HO678.out) hb)
              have n3_ := Aside0.mk (Kd.V_below (by (with_reducible repeat (first | apply Kd.V_alloc | apply Kd.V_drewN | apply Kd.V_drew)); exact HL679_0.out) hb)
              have n4_ := Aside0.mk (blk_below (g := gb667) (o := .cells #[.bool a0_0, .slice A0_1 l0_1.length c0_1, .slice A0_2 l0_2.length c0_2, .slice A0_3 l0_3.length c0_3, .slice A0_4 l0_4.length c0_4] 30 (0, 0)) (by (with_reducible repeat (first | refine blk_drewN ?_ _ | refine blk_drew ?_ | refine blk_alloc ?_ _)); exact BK667.out) hb)
              have n5_ := Aside0.mk (blk_below (g := gb668) (o := .cells #[.slice none 0 0, .slice none 0 0] 47 (0, 0)) (by (with_reducible repeat (first | refine blk_drewN ?_ _ | refine blk_drew ?_ | refine blk_alloc ?_ _)); exact BK668.out) hb)
              have n6_ := Aside0.mk (blk_below (g := gb675) (o := .cells #[.slice Ao70 y676.length co70, u676001] 47 (0, 0)) (by (with_reducible repeat (first | refine blk_drewN ?_ _ | refine blk_drew ?_ | refine blk_alloc ?_ _)); exact BK675.out) hb)
              have n7_ := Aside0.mk (Kd.C_below (by repeat (first | (with_reducible exact HR679_0.out) | (with_reducible refine Kd.C_alloc ?_ _) | (with_reducible refine Kd.C_drewN ?_ _) | (with_reducible refine Kd.C_drew ?_) | exact HR679_0.out)) hb)
              have n8_ := Aside0.mk (below_step (by repeat (first | (with_reducible first | exact HB.out | apply below_alloc | apply pw_below_drewN | apply below_drew1 | refine below_set ?_ GE667.out | refine below_set ?_ GE668.out | refine below_set ?_ GE675.out) | exact HB.out)) hb)
              clear HO_10
              clear HO_676001
              clear HO678
              clear HL679_0
              clear BK667
              clear BK668
              clear BK675
              clear HR679_0
              clear HB
              have HO_10 := n0_
              have HO_676001 := n1_
              have HO678 := n2_
              have HL679_0 := n3_
              have BK667 := n4_
              have BK668 := n5_
              have BK675 := n6_
              have HR679_0 := n7_
              have HB := n8_
              clear n0_ n1_ n2_ n3_ n4_ n5_ n6_ n7_ n8_
              (try clear hb)
              (try clear hb2)
              (try clear hk)
              (try clear hi)
              refine hK.out _ _ ⟨(blk_cell BK675.out 0).trans rfl, (blk_cell BK675.out 1).trans rfl, (blk_cell BK667.out 0).trans rfl, (blk_cell BK667.out 1).trans rfl, (blk_cell BK667.out 2).trans rfl, (blk_cell BK667.out 3).trans rfl, (blk_cell BK667.out 4).trans rfl, HS7_⟩ (fun hHeld => ?_)
              clear hK K
              refine norm_ (a' := ?_) ?_ ?_
              rotate_left
              ·show Act.put _ (some 95) _ = _
               simp only [Act.put, List.setIfInBounds_toArray, List.set_cons_zero, List.set_cons_succ, i64_w, i32_w]
               rfl
              refine one_ (i := 8) (N := some 96) #[true, true, true, true, true, true, true, true, true, false, false, false] rfl rfl (one_of HT_.out (by kernel_rfl)) (by decide) (fun K hK => ?_)
              refine value_ (w1 := ?_) (v := ?_) (by rfl) rfl ?_ ?_
              rotate_left 2
              ·go_simp
               constructor
               ·rfl
               ·rfl
              refine hK.out _ _ ⟨(blk_cell (blk_alloc BK675.out _) 0).trans rfl, (blk_cell (blk_alloc BK675.out _) 1).trans rfl, (blk_cell (blk_alloc BK667.out _) 0).trans rfl, (blk_cell (blk_alloc BK667.out _) 1).trans rfl, (blk_cell (blk_alloc BK667.out _) 2).trans rfl, (blk_cell (blk_alloc BK667.out _) 3).trans rfl, (blk_cell (blk_alloc BK667.out _) 4).trans rfl, (World.cell?_alloc_lt _ _ _ (World.block_lt_of_cell? _ _ (hHeld.2.2.2.2.2.2.2))).trans (hHeld.2.2.2.2.2.2.2)⟩ (fun hHeld => ?_)
              clear hK K
              refine norm_ (a' := ?_) ?_ ?_
              rotate_left
              ·show Act.put _ (some 96) _ = _
               simp only [Act.put, List.setIfInBounds_toArray, List.set_cons_zero, List.set_cons_succ, i64_w, i32_w]
               rfl
              refine last_ (i := 9) (N := some 97) #[true, true, true, true, true, true, true, true, true, true, false, false] rfl rfl (one_of HT_.out (by kernel_rfl)) (by decide) (fun K hK => ?_)
              refine Kd.R_append_step Kd.bool (w0 := w) w.heap.size (by rfl) (.tmp 89) (.tmp 96) 45 4 (.bool false) 1 rfl Try.underlying45 info4 rfl (by decide) (by omega) u676001 x676001_2 t680 [.bool t680] (fun k_ => (w.heap.size ≤ k_)) (fun _ => False) rfl rfl ?aP (fun _ hk => hk.elim) ?aF ?aO ?aB ?aS ?aL ?_
              (case aP => exact rfl)
              (case aB => exact (by repeat (first | (with_reducible first | exact HB.out | apply below_alloc | apply pw_below_drewN | apply below_drew1 | refine below_set ?_ GE667.out | refine below_set ?_ GE668.out | refine below_set ?_ GE675.out) | exact HB.out)))
              (case aF => exact (fun k_ hk => (Nat.le_trans (below_size (by repeat (first | (with_reducible first | exact HB.out | apply below_alloc | apply pw_below_drewN | apply below_drew1 | refine below_set ?_ GE667.out | refine below_set ?_ GE668.out | refine below_set ?_ GE675.out) | exact HB.out))) hk)))
              (case aO => exact (by (with_reducible repeat (first | apply Kd.R_alloc | apply Kd.R_drewN | apply Kd.R_drew)); exact HO_676001.out))
              (case aS => exact (below_size (by repeat (first | (with_reducible first | exact HB.out | apply below_alloc | apply pw_below_drewN | apply below_drew1 | refine below_set ?_ GE667.out | refine below_set ?_ GE668.out | refine below_set ?_ GE675.out) | exact HB.out))))
              (case aL => have := LMc64.out; omega)
              intro v682 w76 ho hb hg hat
              rw [← Ny681.out] at ho
              have n0_ := Aside0.mk (Kd.N_afterv (ok := (fun k_ => (w.heap.size ≤ k_) ∧ some k_ ≠ (.slice Ao70 y676.length co70 : Value).ownBlock ∧ k_ ≠ gb667 ∧ k_ ≠ gb668 ∧ k_ ≠ gb675)) (by (with_reducible repeat (first | apply Kd.N_alloc | apply Kd.N_drewN | apply Kd.N_drew)); exact Kd.N_mono HO_10.out (fun _ hk => ⟨⟨hk.1, ⟨hk.2.2.1, ⟨hk.2.2.2.1, ⟨hk.2.2.2.2.1, hk.2.2.2.2.2⟩⟩⟩⟩, hk.2.1⟩)) hg hat)
              have n1_ := Aside0.mk (blk_grown (g := gb667) (o := .cells #[.bool a0_0, .slice A0_1 l0_1.length c0_1, .slice A0_2 l0_2.length c0_2, .slice A0_3 l0_3.length c0_3, .slice A0_4 l0_4.length c0_4] 30 (0, 0)) (by (with_reducible repeat (first | refine blk_drewN ?_ _ | refine blk_drew ?_ | refine blk_alloc ?_ _)); exact BK667.out) hg (Kd.R_ne HO_676001.out BK667.out (by decide)))
              have n2_ := Aside0.mk (blk_grown (g := gb668) (o := .cells #[.slice none 0 0, .slice none 0 0] 47 (0, 0)) (by (with_reducible repeat (first | refine blk_drewN ?_ _ | refine blk_drew ?_ | refine blk_alloc ?_ _)); exact BK668.out) hg (Kd.R_ne HO_676001.out BK668.out (by decide)))
              have n3_ := Aside0.mk (blk_grown (g := gb675) (o := .cells #[.slice Ao70 y676.length co70, u676001] 47 (0, 0)) (by (with_reducible repeat (first | refine blk_drewN ?_ _ | refine blk_drew ?_ | refine blk_alloc ?_ _)); exact BK675.out) hg (Kd.R_ne HO_676001.out BK675.out (by decide)))
              have n4_ := Aside0.mk (Kd.N_afterv (ok := (fun k_ => (w.heap.size ≤ k_) ∧ some k_ ≠ (.slice (some ad679) x10_3.length co74 : Value).ownBlock ∧ k_ ≠ gb667 ∧ k_ ≠ gb668 ∧ k_ ≠ gb675)) (by (with_reducible repeat (first | apply Kd.N_alloc | apply Kd.N_drewN | apply Kd.N_drew)); exact Kd.N_mono HO678.out (fun _ hk => ⟨⟨hk.1, ⟨hk.2.1, ⟨hk.2.2.2.1, ⟨hk.2.2.2.2.1, hk.2.2.2.2.2⟩⟩⟩⟩, hk.2.2.1⟩)) hg hat)
              have n5_ := Aside0.mk (Kd.V_afterv (ok := (fun k_ => (w.heap.size ≤ k_) ∧ some k_ ≠ (.slice (some ad679) x10_3.length co74 : Value).ownBlock ∧ some k_ ≠ (.slice Ao70 y676.length co70 : Value).ownBlock ∧ k_ ≠ gb667 ∧ k_ ≠ gb668 ∧ k_ ≠ gb675)) (by (with_reducible repeat (first | apply Kd.V_alloc | apply Kd.V_drewN | apply Kd.V_drew)); exact Kd.V_mono HL679_0.out (fun _ hk => ⟨⟨hk.1.1, ⟨hk.2, ⟨hk.1.2.2.1, ⟨hk.1.2.2.2.1, ⟨hk.1.2.2.2.2.1, hk.1.2.2.2.2.2⟩⟩⟩⟩⟩, hk.1.2.1⟩)) hg hat)
              have n6_ := Aside0.mk (hb)
              have n7_ := Aside0.mk (ho)
              clear HO_10
              clear BK667
              clear BK668
              clear BK675
              clear HO678
              clear HL679_0
              clear HB
              clear HO_676001
              have HO_10 := n0_
              have BK667 := n1_
              have BK668 := n2_
              have BK675 := n3_
              have HO678 := n4_
              have HL679_0 := n5_
              have HB := n6_
              have HO683 := n7_
              clear n0_ n1_ n2_ n3_ n4_ n5_ n6_ n7_
              clear ho hb hg hat
              obtain ⟨Ao77, co77, eo77⟩ := Kd.R_slice HO683.out
              (first | subst eo77 | (injection eo77 with f1_ f2_ f3_; have f4_ := f1_.symm; have f5_ := f3_.symm; clear f1_ f2_ f3_; subst f4_; subst f5_))
              refine hK.out _ _ ?_
              clear hK K
              refine norm_ (a' := ?_) ?_ ?_
              rotate_left
              ·show Act.put _ (some 97) _ = _
               simp only [Act.put, List.setIfInBounds_toArray, List.set_cons_zero, List.set_cons_succ, i64_w, i32_w]
               rfl
              refine pure_ (i := 10) (N := some 98) (v := ?_) (a' := ?_) #[true, true, true, true, true, true, true, true, true, true, true, false] rfl rfl (any_of HT_.out (by kernel_rfl)) (fun _ _ _ h => h) (Or.inl ⟨by rfl, ?_⟩) ?_ ?_
              rotate_left
              ·intro w'
               go_simp
               with_reducible rfl
              rotate_left
              ·simp only [Act.put, List.setIfInBounds_toArray, List.set_cons_zero, List.set_cons_succ, i64_w, i32_w]
               rfl
              refine last_ (i := 11) (N := none) #[true, true, true, true, true, true, true, true, true, true, true, true] rfl rfl (one_of HT_.out (by kernel_rfl)) (by decide) (fun K hK => ?_)
              have hs78 : w76.cell? ⟨gb675, 1, none⟩ = some (u676001) := (blk_cell BK675.out 1).trans rfl
              have hfs78 := blk_frozen BK675.out 1
              have hns78_0 := NB667_675.out
              have hns78_1 := NB668_675.out
              have hms78_0 := NB675_667.out
              have hms78_1 := NB675_668.out
              refine skip_ (w1 := ?_) (by rfl) rfl ?_ ?_
              rotate_left
              ·go_simp
               rfl
              refine hK.out _ _ ?_
              clear hK K
              refine done_ (done_of HT_.out (by kernel_rfl)) ?_
              try go_wp2
              go_roundg k3
              case measure => have := HJ4.out; have := HK2.out; have := HK3.out; omega
              case rel => exact ⟨(x10_3), (wrap64 (x12_2 + 1)), (y676), (y681), (.slice Ao70 y676.length co70), (.slice Ao77 y681.length co77), (by first | rfl | (simp; done) | (simp [*]; done)), H', ⟨by have := HJ4.out; have := HK2.out; have := HK3.out; omega⟩, ⟨by (with_reducible repeat (first | apply Kd.N_alloc | apply Kd.N_drewN | apply Kd.N_drew)); exact Kd.N_mono (Kd.N_far (p := ⟨gb675, 1, none⟩) (Kd.N_mono HO_10.out (fun k_ hk => (⟨hk, hk.1.2.2.2.2⟩ : _ ∧ k_ ≠ gb675))) (fun _ hk => hk.2) (.slice Ao77 y681.length co77)) (fun _ hk => ⟨hk.1.1.1, ⟨hk.1.1.2.1, ⟨hk.1.2, ⟨hk.1.1.2.2.1, ⟨hk.1.1.2.2.2.1, hk.1.1.2.2.2.2⟩⟩⟩⟩⟩)⟩, ⟨by (with_reducible repeat (first | apply Kd.N_alloc | apply Kd.N_drewN | apply Kd.N_drew)); exact Kd.N_mono (Kd.N_far (p := ⟨gb675, 1, none⟩) (Kd.N_mono HO678.out (fun k_ hk => (⟨hk, hk.1.2.2.2.2⟩ : _ ∧ k_ ≠ gb675))) (fun _ hk => hk.2) (.slice Ao77 y681.length co77)) (fun _ hk => ⟨hk.1.1.1, ⟨hk.1.1.2.1, ⟨hk.1.2, ⟨hk.1.1.2.2.1, ⟨hk.1.1.2.2.2.1, hk.1.1.2.2.2.2⟩⟩⟩⟩⟩)⟩, ⟨by (with_reducible repeat (first | apply Kd.R_alloc | apply Kd.R_drewN | apply Kd.R_drew)); exact Kd.R_mono (Kd.R_far (p := ⟨gb675, 1, none⟩) (Kd.R_types HO683.out BK675.out (by decide)) (fun _ hk => hk.2) (.slice Ao77 y681.length co77)) (fun _ hk => hk.1)⟩, ⟨by (with_reducible repeat (first | refine blk_drewN ?_ _ | refine blk_drew ?_ | refine blk_alloc ?_ _)); refine blk_far ?_ NB667_675.out _; (with_reducible repeat (first | refine blk_drewN ?_ _ | refine blk_drew ?_ | refine blk_alloc ?_ _)); exact BK667.out⟩, ⟨by (with_reducible repeat (first | refine blk_drewN ?_ _ | refine blk_drew ?_ | refine blk_alloc ?_ _)); refine blk_far ?_ NB668_675.out _; (with_reducible repeat (first | refine blk_drewN ?_ _ | refine blk_drew ?_ | refine blk_alloc ?_ _)); exact BK668.out⟩, ⟨by (with_reducible repeat (first | refine blk_drewN ?_ _ | refine blk_drew ?_ | refine blk_alloc ?_ _)); refine blk_put (cs := #[.slice Ao70 y676.length co70, u676001]) ?_ 1 _ rfl; (with_reducible repeat (first | refine blk_drewN ?_ _ | refine blk_drew ?_ | refine blk_alloc ?_ _)); exact BK675.out⟩, ⟨by repeat (first | (with_reducible first | exact HB.out | apply below_alloc | apply pw_below_drewN | apply below_drew1 | refine below_set ?_ GE667.out | refine below_set ?_ GE668.out | refine below_set ?_ GE675.out) | exact HB.out)⟩⟩
             ·rw [if_neg c64] at H
              exact absurd H (by simp)
            ·rw [if_neg c62] at H
             exact absurd H (by simp)
           ·rw [if_neg c61] at H
            exact absurd H (by simp)
          ·rw [if_neg c60] at H
           exact absurd H (by simp)
      ·rw [if_neg c20] at H
       have c20b0 : decide (x12_2 < (x10_2.length : Int)) = false := decide_eq_false c20
       clear c20
       simp only [Option.some.injEq, Prod.mk.injEq] at H
       obtain ⟨rfl, rfl, rfl⟩ := H
       obtain ⟨Ao79, co79, eo79⟩ := Kd.N_slice HO_10.out
       subst eo79
       have hnb80 := NB675_667.out
       have hnc80 := NB667_675.out
       have hnb81 := NB675_668.out
       have hnc81 := NB668_675.out
       have hcz82_0 : wr.cell? ⟨gb675, 0, none⟩ = some (u676000) := (blk_cell BK675.out 0).trans rfl
       have hcz82_1 : wr.cell? ⟨gb675, 1, none⟩ = some (u676001) := (blk_cell BK675.out 1).trans rfl
       have hfz82_0 := blk_frozen BK675.out 0
       have hfz82_1 := blk_frozen BK675.out 1
       obtain ⟨Ao83, co83, eo83⟩ := Kd.N_slice HO_676000.out
       subst eo83
       have hnb84 := NB668_667.out
       have hnc84 := NB667_668.out
       have hcz85_0 : wr.cell? ⟨gb668, 0, none⟩ = some (.slice none 0 0) := (blk_cell BK668.out 0).trans rfl
       have hcz85_1 : wr.cell? ⟨gb668, 1, none⟩ = some (.slice none 0 0) := (blk_cell BK668.out 1).trans rfl
       have hfz85_0 := blk_frozen BK668.out 0
       have hfz85_1 := blk_frozen BK668.out 1
       obtain ⟨Ao86, co86, eo86⟩ := Kd.R_slice HO_676001.out
       subst eo86
       go_wp2
       refine bodyPost_ret (results_ct rfl _ _ gb668 47 #[.slice Ao83 x676000_2.length co83, .slice Ao86 x676001_2.length co86] (0, 0) _ rfl (by (with_reducible repeat (first | refine blk_drewN ?_ _ | refine blk_drew ?_ | refine blk_alloc ?_ _)); refine blk_put (cs := #[.slice Ao83 x676000_2.length co83, .slice none 0 0]) ?_ 1 _ rfl; (with_reducible repeat (first | refine blk_drewN ?_ _ | refine blk_drew ?_ | refine blk_alloc ?_ _)); refine blk_put (cs := #[.slice none 0 0, .slice none 0 0]) ?_ 0 _ rfl; (with_reducible repeat (first | refine blk_drewN ?_ _ | refine blk_drew ?_ | refine blk_alloc ?_ _)); exact BK668.out) Try.underlying47 rfl (by kernel_rfl)) rfl ?_
       exact ⟨_, _, by first | rfl | (simp [errW_none, errW_some] <;> rfl) | (simp [*, errW_none, errW_some] <;> rfl), by (with_reducible repeat (first | apply Kd.N_alloc | apply Kd.N_drewN | apply Kd.N_drew)); exact Kd.N_mono (Kd.N_far (p := ⟨gb668, 1, none⟩) (Kd.N_far (p := ⟨gb668, 0, none⟩) (Kd.N_mono HO_676000.out (fun k_ hk => (⟨hk, hk.2.2.2.2.1⟩ : _ ∧ k_ ≠ gb668))) (fun _ hk => hk.2) (.slice Ao83 x676000_2.length co83)) (fun _ hk => hk.2) (.slice Ao86 x676001_2.length co86)) (fun _ hk => ⟨hk.1.1, hk.1.2.2.1⟩), by (with_reducible repeat (first | apply Kd.R_alloc | apply Kd.R_drewN | apply Kd.R_drew)); exact Kd.R_mono (Kd.R_far (p := ⟨gb668, 1, none⟩) (Kd.R_far (p := ⟨gb668, 0, none⟩) (Kd.R_types HO_676001.out BK668.out (by decide)) (fun _ hk => hk.2) (.slice Ao83 x676000_2.length co83)) (fun _ hk => hk.2) (.slice Ao86 x676001_2.length co86)) (fun _ hk => hk.1), by repeat (first | (with_reducible first | exact HB.out | apply below_alloc | apply pw_below_drewN | apply below_drew1 | refine below_set ?_ GE667.out | refine below_set ?_ GE668.out | refine below_set ?_ GE675.out) | exact HB.out)⟩

end Go.Proofs.Ytemlgmkbonpniaa.Print

-- Written by a program of this session (wip/sp.py) out of the translation.
namespace Go.Proofs.Ytemlgmkbonpniaa.Print
open Go.RowKit Go.Proofs.YtemlgmkbonpniaaW.PrintWords Go.Proofs.YtemlgmkbonpniaaW.PrintLast Go.Proofs.YtemlgmkbonpniaaW.PrintMore
attribute [local go_sem] max2_int min2_int max_two min_two max_three min_three max_four min_four   -- for this text's walks alone
set_option linter.unusedVariables false
set_option linter.unusedSimpArgs false

/-! ### scansionref12_Same: function 34 -/
mutual
def scansionref12_Same.j0 : Nat → Bool → List (List Int) → List Bool → List (List Int) → List Bool → Option (Bool)
 | 0, _, _, _, _, _ => none
 | k + 1, x23, x706000, x706001, x707000, x707001 => if x23 = true then (some false) else (scansionref12_Same.l0 k 0 x706000 x706001 x707000 x707001)
def scansionref12_Same.l0 : Nat → Int → List (List Int) → List Bool → List (List Int) → List Bool → Option (Bool)
 | 0, _, _, _, _, _ => none
 | k + 1, x5, x706000, x706001, x707000, x707001 => if x5 < (x706000.length : Int) then (if 0 ≤ x5 then (if x5 < (x707000.length : Int) then ((scansionref01_SameInts.f k (rd_L3 x706000 x5) (rd_L3 x707000 x5)).bind fun t709 => (if t709 = true then (scansionref12_Same.l0 k (wrap64 (x5 + 1)) x706000 x706001 x707000 x707001) else (some false))) else (none)) else (none)) else (scansionref12_Same.l1 k 0 x706000 x706001 x707000 x707001)
def scansionref12_Same.l1 : Nat → Int → List (List Int) → List Bool → List (List Int) → List Bool → Option (Bool)
 | 0, _, _, _, _, _ => none
 | k + 1, x7, x706000, x706001, x707000, x707001 => if x7 < (x706001.length : Int) then (if 0 ≤ x7 then (if x7 < (x707001.length : Int) then (if ((rdOf false x706001 x7) != (rdOf false x707001 x7)) = true then (some false) else (scansionref12_Same.l1 k (wrap64 (x7 + 1)) x706000 x706001 x707000 x707001)) else (none)) else (none)) else (some true)
end
def scansionref12_Same.f (k : Nat) (l0_0 : List (List Int)) (l0_1 : List Bool) (l1_0 : List (List Int)) (l1_1 : List Bool) : Option (Bool) := if (l0_0.length : Int) = (l1_0.length : Int) then (scansionref12_Same.j0 k ((l0_1.length : Int) != (l1_1.length : Int)) l0_0 l0_1 l1_0 l1_1) else (scansionref12_Same.j0 k true l0_0 l0_1 l1_0 l1_1)
theorem scansionref12_Same.mono_l : ∀ k, (∀ y0 y1 y2 y3 y4, LeO (scansionref12_Same.j0 k y0 y1 y2 y3 y4) (scansionref12_Same.j0 (k + 1) y0 y1 y2 y3 y4)) ∧ (∀ y0 y1 y2 y3 y4, LeO (scansionref12_Same.l0 k y0 y1 y2 y3 y4) (scansionref12_Same.l0 (k + 1) y0 y1 y2 y3 y4)) ∧ (∀ y0 y1 y2 y3 y4, LeO (scansionref12_Same.l1 k y0 y1 y2 y3 y4) (scansionref12_Same.l1 (k + 1) y0 y1 y2 y3 y4))
 | 0 => ⟨fun _ _ _ _ _ r h => by simp [scansionref12_Same.j0] at h, fun _ _ _ _ _ r h => by simp [scansionref12_Same.l0] at h, fun _ _ _ _ _ r h => by simp [scansionref12_Same.l1] at h⟩
 | k + 1 => by
  obtain ⟨ih0, ih1, ih2⟩ := scansionref12_Same.mono_l k
  refine ⟨?_, ?_, ?_⟩
  ·intro y0 y1 y2 y3 y4
   unfold scansionref12_Same.j0
   repeat' first
   | (with_reducible exact ih0 _ _ _ _ _)
   | (with_reducible exact ih1 _ _ _ _ _)
   | (with_reducible exact ih2 _ _ _ _ _)
   | (with_reducible exact scansionref01_SameInts.mono _ _ _)
   | (with_reducible exact LeO.refl _)
   | (with_reducible exact LeO.none _)
   | (with_reducible refine LeO.ite ?_ ?_)
   | (with_reducible refine LeO.bind ?_ (fun _ => ?_))
   | exact ih0 _ _ _ _ _
   | exact ih1 _ _ _ _ _
   | exact ih2 _ _ _ _ _
   | exact scansionref01_SameInts.mono _ _ _
   | exact LeO.none _
   | refine LeO.ite ?_ ?_
   | refine LeO.bind ?_ (fun _ => ?_)
  ·intro y0 y1 y2 y3 y4
   unfold scansionref12_Same.l0
   repeat' first
   | (with_reducible exact ih0 _ _ _ _ _)
   | (with_reducible exact ih1 _ _ _ _ _)
   | (with_reducible exact ih2 _ _ _ _ _)
   | (with_reducible exact scansionref01_SameInts.mono _ _ _)
   | (with_reducible exact LeO.refl _)
   | (with_reducible exact LeO.none _)
   | (with_reducible refine LeO.ite ?_ ?_)
   | (with_reducible refine LeO.bind ?_ (fun _ => ?_))
   | exact ih0 _ _ _ _ _
   | exact ih1 _ _ _ _ _
   | exact ih2 _ _ _ _ _
   | exact scansionref01_SameInts.mono _ _ _
   | exact LeO.none _
   | refine LeO.ite ?_ ?_
   | refine LeO.bind ?_ (fun _ => ?_)
  ·intro y0 y1 y2 y3 y4
   unfold scansionref12_Same.l1
   repeat' first
   | (with_reducible exact ih0 _ _ _ _ _)
   | (with_reducible exact ih1 _ _ _ _ _)
   | (with_reducible exact ih2 _ _ _ _ _)
   | (with_reducible exact scansionref01_SameInts.mono _ _ _)
   | (with_reducible exact LeO.refl _)
   | (with_reducible exact LeO.none _)
   | (with_reducible refine LeO.ite ?_ ?_)
   | (with_reducible refine LeO.bind ?_ (fun _ => ?_))
   | exact ih0 _ _ _ _ _
   | exact ih1 _ _ _ _ _
   | exact ih2 _ _ _ _ _
   | exact scansionref01_SameInts.mono _ _ _
   | exact LeO.none _
   | refine LeO.ite ?_ ?_
   | refine LeO.bind ?_ (fun _ => ?_)
theorem scansionref12_Same.mono : ∀ a0 a1 a2 a3 k, LeO (scansionref12_Same.f k a0 a1 a2 a3) (scansionref12_Same.f (k + 1) a0 a1 a2 a3) := by
 intro a0 a1 a2 a3 k
 obtain ⟨ih0, ih1, ih2⟩ := scansionref12_Same.mono_l k
 unfold scansionref12_Same.f
 repeat' first
   | (with_reducible exact ih0 _ _ _ _ _)
   | (with_reducible exact ih1 _ _ _ _ _)
   | (with_reducible exact ih2 _ _ _ _ _)
   | (with_reducible exact scansionref01_SameInts.mono _ _ _)
   | (with_reducible exact LeO.refl _)
   | (with_reducible exact LeO.none _)
   | (with_reducible refine LeO.ite ?_ ?_)
   | (with_reducible refine LeO.bind ?_ (fun _ => ?_))
   | exact ih0 _ _ _ _ _
   | exact ih1 _ _ _ _ _
   | exact ih2 _ _ _ _ _
   | exact scansionref01_SameInts.mono _ _ _
   | exact LeO.none _
   | refine LeO.ite ?_ ?_
   | refine LeO.bind ?_ (fun _ => ?_)
set_option maxHeartbeats 8000000 in
set_option maxRecDepth 100000 in
theorem scansionref12_Same.calls (k : Nat) (A0_0 : Option Addr) (c0_0 : Nat) (l0_0 : List (List Int)) (A0_1 : Option Addr) (c0_1 : Nat) (l0_1 : List Bool) (A1_0 : Option Addr) (c1_0 : Nat) (l1_0 : List (List Int)) (A1_1 : Option Addr) (c1_1 : Nat) (l1_1 : List Bool) (r : Bool) (w : World) (hr0_0 : Kd.C (Kd.slice 3 (Kd.int .i64)) w A0_0 l0_0.length l0_0) (hc0_0 : l0_0.length ≤ c0_0) (hr0_1 : Kd.C Kd.bool w A0_1 l0_1.length l0_1) (hc0_1 : l0_1.length ≤ c0_1) (hr1_0 : Kd.C (Kd.slice 3 (Kd.int .i64)) w A1_0 l1_0.length l1_0) (hc1_0 : l1_0.length ≤ c1_0) (hr1_1 : Kd.C Kd.bool w A1_1 l1_1.length l1_1) (hc1_1 : l1_1.length ≤ c1_1) (h : scansionref12_Same.f k l0_0 l0_1 l1_0 l1_1 = some r) :
  Calls Try.prog 34 #[.agg #[.slice A0_0 l0_0.length c0_0, .slice A0_1 l0_1.length c0_1], .agg #[.slice A1_0 l1_0.length c1_0, .slice A1_1 l1_1.length c1_1]] w fun e w' => e = .returned (.bool r) ∧ Below w.heap.size w w' := by
 have hu47 := Try.underlying47
 have HR0_0 := Aside0.mk hr0_0
 have HC0_0 := Aside0.mk hc0_0
 clear hr0_0 hc0_0
 have HR0_1 := Aside0.mk hr0_1
 have HC0_1 := Aside0.mk hc0_1
 clear hr0_1 hc0_1
 have HR1_0 := Aside0.mk hr1_0
 have HC1_0 := Aside0.mk hc1_0
 clear hr1_0 hc1_0
 have HR1_1 := Aside0.mk hr1_1
 have HC1_1 := Aside0.mk hc1_1
 clear hr1_1 hc1_1
 have HB := Aside0.mk (Below.refl w.heap.size w)
 have H : (if (l0_0.length : Int) = (l1_0.length : Int) then (scansionref12_Same.j0 k ((l0_1.length : Int) != (l1_1.length : Int)) l0_0 l0_1 l1_0 l1_1) else (scansionref12_Same.j0 k true l0_0 l0_1 l1_0 l1_1)) = some r := h
 clear h
 have HC3 := Aside0.mk H
 clear H
 go_enter Try.func34, Try.ntmps34
 go_upto_region 1 with (first | ((with_reducible refine gate_dst (N := 2) rfl ?_); (try (refine gate_guard (by rfl) ?_; dsimp only)); refine box_event ?hg (N := 2) ?hd (cs := #[.slice A0_0 l0_0.length c0_0, .slice A0_1 l0_1.length c0_1]) (t := 47) ?hr ?_; (case hd => rfl); (case hg => rfl); (case hr => first | (go_simp; done) | (go_simp; rfl)); intro gb705 hg w4 hbox hb; have n0_ := Aside0.mk (below_step (by repeat (first | (with_reducible first | exact HB.out | apply below_alloc | apply pw_below_drewN | apply below_drew1) | exact HB.out)) hb); have n1_ := Aside0.mk (hbox); have n2_ := Aside0.mk ((by rw [hg]; exact (below_size (by repeat (first | (with_reducible first | exact HB.out | apply below_alloc | apply pw_below_drewN | apply below_drew1) | exact HB.out))) : w.heap.size ≤ gb705)); have n3_ := Aside0.mk ((by rw [hg]; exact (below_size (by repeat (first | (with_reducible first | exact HB.out | apply below_alloc | apply pw_below_drewN | apply below_drew1) | exact HB.out))) : w.heap.size ≤ gb705)); clear HB; have HB := n0_; have BK705 := n1_; have GW705 := n2_; have GE705 := n3_; clear n0_ n1_ n2_ n3_; clear hb hbox hg) | ((with_reducible refine gate_dst (N := 3) rfl ?_); (try (refine gate_guard (by rfl) ?_; dsimp only)); refine box_event ?hg (N := 3) ?hd (cs := #[.slice A1_0 l1_0.length c1_0, .slice A1_1 l1_1.length c1_1]) (t := 47) ?hr ?_; (case hd => rfl); (case hg => rfl); (case hr => first | (go_simp; done) | (go_simp; rfl)); intro gb706 hg w5 hbox hb; have n0_ := Aside0.mk (blk_below (g := gb705) (o := .cells #[.slice A0_0 l0_0.length c0_0, .slice A0_1 l0_1.length c0_1] 47 (0, 0)) (by (with_reducible repeat (first | refine blk_drewN ?_ _ | refine blk_drew ?_ | refine blk_alloc ?_ _)); exact BK705.out) hb); have n1_ := Aside0.mk (below_step (by repeat (first | (with_reducible first | exact HB.out | apply below_alloc | apply pw_below_drewN | apply below_drew1 | refine below_set ?_ GE705.out) | exact HB.out)) hb); have n2_ := Aside0.mk (hbox); have n3_ := Aside0.mk ((by rw [hg]; exact (below_size (by repeat (first | (with_reducible first | exact HB.out | apply below_alloc | apply pw_below_drewN | apply below_drew1 | refine below_set ?_ GE705.out) | exact HB.out))) : w.heap.size ≤ gb706)); have n4_ := Aside0.mk ((by rw [hg]; exact (below_size (by repeat (first | (with_reducible first | exact HB.out | apply below_alloc | apply pw_below_drewN | apply below_drew1 | refine below_set ?_ GE705.out) | exact HB.out))) : w.heap.size ≤ gb706)); have n5_ := Aside0.mk ((by rw [hg]; exact Nat.ne_of_lt (blk_lt (g := gb705) (o := .cells #[.slice A0_0 l0_0.length c0_0, .slice A0_1 l0_1.length c0_1] 47 (0, 0)) (by (with_reducible repeat (first | refine blk_drewN ?_ _ | refine blk_drew ?_ | refine blk_alloc ?_ _)); exact BK705.out)) : gb705 ≠ gb706)); have n6_ := Aside0.mk ((by rw [hg]; exact Nat.ne_of_gt (blk_lt (g := gb705) (o := .cells #[.slice A0_0 l0_0.length c0_0, .slice A0_1 l0_1.length c0_1] 47 (0, 0)) (by (with_reducible repeat (first | refine blk_drewN ?_ _ | refine blk_drew ?_ | refine blk_alloc ?_ _)); exact BK705.out)) : gb706 ≠ gb705)); clear BK705; clear HB; have BK705 := n0_; have HB := n1_; have BK706 := n2_; have GW706 := n3_; have GE706 := n4_; have NB705_706 := n5_; have NB706_705 := n6_; clear n0_ n1_ n2_ n3_ n4_ n5_ n6_; clear hb hbox hg))
 repeat (go_quiet (first | ((with_reducible refine gate_dst (N := 2) rfl ?_); (try (refine gate_guard (by rfl) ?_; dsimp only)); refine box_event ?hg (N := 2) ?hd (cs := #[.slice A0_0 l0_0.length c0_0, .slice A0_1 l0_1.length c0_1]) (t := 47) ?hr ?_; (case hd => rfl); (case hg => rfl); (case hr => first | (go_simp; done) | (go_simp; rfl)); intro gb705 hg w4 hbox hb; have n0_ := Aside0.mk (below_step (by repeat (first | (with_reducible first | exact HB.out | apply below_alloc | apply pw_below_drewN | apply below_drew1) | exact HB.out)) hb); have n1_ := Aside0.mk (hbox); have n2_ := Aside0.mk ((by rw [hg]; exact (below_size (by repeat (first | (with_reducible first | exact HB.out | apply below_alloc | apply pw_below_drewN | apply below_drew1) | exact HB.out))) : w.heap.size ≤ gb705)); have n3_ := Aside0.mk ((by rw [hg]; exact (below_size (by repeat (first | (with_reducible first | exact HB.out | apply below_alloc | apply pw_below_drewN | apply below_drew1) | exact HB.out))) : w.heap.size ≤ gb705)); clear HB; have HB := n0_; have BK705 := n1_; have GW705 := n2_; have GE705 := n3_; clear n0_ n1_ n2_ n3_; clear hb hbox hg) | ((with_reducible refine gate_dst (N := 3) rfl ?_); (try (refine gate_guard (by rfl) ?_; dsimp only)); refine box_event ?hg (N := 3) ?hd (cs := #[.slice A1_0 l1_0.length c1_0, .slice A1_1 l1_1.length c1_1]) (t := 47) ?hr ?_; (case hd => rfl); (case hg => rfl); (case hr => first | (go_simp; done) | (go_simp; rfl)); intro gb706 hg w5 hbox hb; have n0_ := Aside0.mk (blk_below (g := gb705) (o := .cells #[.slice A0_0 l0_0.length c0_0, .slice A0_1 l0_1.length c0_1] 47 (0, 0)) (by (with_reducible repeat (first | refine blk_drewN ?_ _ | refine blk_drew ?_ | refine blk_alloc ?_ _)); exact BK705.out) hb); have n1_ := Aside0.mk (below_step (by repeat (first | (with_reducible first | exact HB.out | apply below_alloc | apply pw_below_drewN | apply below_drew1 | refine below_set ?_ GE705.out) | exact HB.out)) hb); have n2_ := Aside0.mk (hbox); have n3_ := Aside0.mk ((by rw [hg]; exact (below_size (by repeat (first | (with_reducible first | exact HB.out | apply below_alloc | apply pw_below_drewN | apply below_drew1 | refine below_set ?_ GE705.out) | exact HB.out))) : w.heap.size ≤ gb706)); have n4_ := Aside0.mk ((by rw [hg]; exact (below_size (by repeat (first | (with_reducible first | exact HB.out | apply below_alloc | apply pw_below_drewN | apply below_drew1 | refine below_set ?_ GE705.out) | exact HB.out))) : w.heap.size ≤ gb706)); have n5_ := Aside0.mk ((by rw [hg]; exact Nat.ne_of_lt (blk_lt (g := gb705) (o := .cells #[.slice A0_0 l0_0.length c0_0, .slice A0_1 l0_1.length c0_1] 47 (0, 0)) (by (with_reducible repeat (first | refine blk_drewN ?_ _ | refine blk_drew ?_ | refine blk_alloc ?_ _)); exact BK705.out)) : gb705 ≠ gb706)); have n6_ := Aside0.mk ((by rw [hg]; exact Nat.ne_of_gt (blk_lt (g := gb705) (o := .cells #[.slice A0_0 l0_0.length c0_0, .slice A0_1 l0_1.length c0_1] 47 (0, 0)) (by (with_reducible repeat (first | refine blk_drewN ?_ _ | refine blk_drew ?_ | refine blk_alloc ?_ _)); exact BK705.out)) : gb706 ≠ gb705)); clear BK705; clear HB; have BK705 := n0_; have HB := n1_; have BK706 := n2_; have GW706 := n3_; have GE706 := n4_; have NB705_706 := n5_; have NB706_705 := n6_; clear n0_ n1_ n2_ n3_ n4_ n5_ n6_; clear hb hbox hg)); go_upto_region 1 with (first | ((with_reducible refine gate_dst (N := 2) rfl ?_); (try (refine gate_guard (by rfl) ?_; dsimp only)); refine box_event ?hg (N := 2) ?hd (cs := #[.slice A0_0 l0_0.length c0_0, .slice A0_1 l0_1.length c0_1]) (t := 47) ?hr ?_; (case hd => rfl); (case hg => rfl); (case hr => first | (go_simp; done) | (go_simp; rfl)); intro gb705 hg w4 hbox hb; have n0_ := Aside0.mk (below_step (by repeat (first | (with_reducible first | exact HB.out | apply below_alloc | apply pw_below_drewN | apply below_drew1) | exact HB.out)) hb); have n1_ := Aside0.mk (hbox); have n2_ := Aside0.mk ((by rw [hg]; exact (below_size (by repeat (first | (with_reducible first | exact HB.out | apply below_alloc | apply pw_below_drewN | apply below_drew1) | exact HB.out))) : w.heap.size ≤ gb705)); have n3_ := Aside0.mk ((by rw [hg]; exact (below_size (by repeat (first | (with_reducible first | exact HB.out | apply below_alloc | apply pw_below_drewN | apply below_drew1) | exact HB.out))) : w.heap.size ≤ gb705)); clear HB; have HB := n0_; have BK705 := n1_; have GW705 := n2_; have GE705 := n3_; clear n0_ n1_ n2_ n3_; clear hb hbox hg) | ((with_reducible refine gate_dst (N := 3) rfl ?_); (try (refine gate_guard (by rfl) ?_; dsimp only)); refine box_event ?hg (N := 3) ?hd (cs := #[.slice A1_0 l1_0.length c1_0, .slice A1_1 l1_1.length c1_1]) (t := 47) ?hr ?_; (case hd => rfl); (case hg => rfl); (case hr => first | (go_simp; done) | (go_simp; rfl)); intro gb706 hg w5 hbox hb; have n0_ := Aside0.mk (blk_below (g := gb705) (o := .cells #[.slice A0_0 l0_0.length c0_0, .slice A0_1 l0_1.length c0_1] 47 (0, 0)) (by (with_reducible repeat (first | refine blk_drewN ?_ _ | refine blk_drew ?_ | refine blk_alloc ?_ _)); exact BK705.out) hb); have n1_ := Aside0.mk (below_step (by repeat (first | (with_reducible first | exact HB.out | apply below_alloc | apply pw_below_drewN | apply below_drew1 | refine below_set ?_ GE705.out) | exact HB.out)) hb); have n2_ := Aside0.mk (hbox); have n3_ := Aside0.mk ((by rw [hg]; exact (below_size (by repeat (first | (with_reducible first | exact HB.out | apply below_alloc | apply pw_below_drewN | apply below_drew1 | refine below_set ?_ GE705.out) | exact HB.out))) : w.heap.size ≤ gb706)); have n4_ := Aside0.mk ((by rw [hg]; exact (below_size (by repeat (first | (with_reducible first | exact HB.out | apply below_alloc | apply pw_below_drewN | apply below_drew1 | refine below_set ?_ GE705.out) | exact HB.out))) : w.heap.size ≤ gb706)); have n5_ := Aside0.mk ((by rw [hg]; exact Nat.ne_of_lt (blk_lt (g := gb705) (o := .cells #[.slice A0_0 l0_0.length c0_0, .slice A0_1 l0_1.length c0_1] 47 (0, 0)) (by (with_reducible repeat (first | refine blk_drewN ?_ _ | refine blk_drew ?_ | refine blk_alloc ?_ _)); exact BK705.out)) : gb705 ≠ gb706)); have n6_ := Aside0.mk ((by rw [hg]; exact Nat.ne_of_gt (blk_lt (g := gb705) (o := .cells #[.slice A0_0 l0_0.length c0_0, .slice A0_1 l0_1.length c0_1] 47 (0, 0)) (by (with_reducible repeat (first | refine blk_drewN ?_ _ | refine blk_drew ?_ | refine blk_alloc ?_ _)); exact BK705.out)) : gb706 ≠ gb705)); clear BK705; clear HB; have BK705 := n0_; have HB := n1_; have BK706 := n2_; have GW706 := n3_; have GE706 := n4_; have NB705_706 := n5_; have NB706_705 := n6_; clear n0_ n1_ n2_ n3_ n4_ n5_ n6_; clear hb hbox hg)))
 (try simp only [Act.put, List.setIfInBounds_toArray, List.set_cons_zero, List.set_cons_succ])
 go_cut [23] (fun v23 wc => ∃ (kq : Nat) (x23_2 : Bool), v23 = .bool x23_2 ∧ Aside0 (scansionref12_Same.j0 kq x23_2 l0_0 l0_1 l1_0 l1_1 = some r) ∧ Aside0 (kq ≤ k) ∧ Aside0 (wc.heap[gb705]? = some (.cells #[(.slice A0_0 l0_0.length c0_0), (.slice A0_1 l0_1.length c0_1)] 47 (0, 0))) ∧ Aside0 (wc.heap[gb706]? = some (.cells #[(.slice A1_0 l1_0.length c1_0), (.slice A1_1 l1_1.length c1_1)] 47 (0, 0))) ∧ Aside0 (Below w.heap.size w wc))
 case first =>
  have H := HC3.out
  clear HC3
  by_cases c6 : (l0_0.length : Int) = (l1_0.length : Int)
  ·rw [if_pos c6] at H
   have c6b0 : ((l0_0.length : Int) == (l1_0.length : Int)) = true := beq_iff_eq.mpr c6
   have c6b1 : ((l0_0.length : Int) != (l1_0.length : Int)) = false := bne_eq_false_iff_eq.mpr c6
   have c6b2 : (l0_0.length == l1_0.length) = true := by first | simpa using c6 | (simp at c6 ⊢; omega)
   clear c6
   (first | rw [c6b0] | (simp only [i64_w, i32_w]; rw [c6b0]) | skip)
   have H' := Aside0.mk H
   clear H
   have hnb7 := NB705_706.out
   have hnc7 := NB706_705.out
   have hcz8_0 : w5.cell? ⟨gb705, 0, none⟩ = some (.slice A0_0 l0_0.length c0_0) := (blk_cell BK705.out 0).trans rfl
   have hcz8_1 : w5.cell? ⟨gb705, 1, none⟩ = some (.slice A0_1 l0_1.length c0_1) := (blk_cell BK705.out 1).trans rfl
   have hfz8_0 := blk_frozen BK705.out 0
   have hfz8_1 := blk_frozen BK705.out 1
   have hcz9_0 : w5.cell? ⟨gb706, 0, none⟩ = some (.slice A1_0 l1_0.length c1_0) := (blk_cell BK706.out 0).trans rfl
   have hcz9_1 : w5.cell? ⟨gb706, 1, none⟩ = some (.slice A1_1 l1_1.length c1_1) := (blk_cell BK706.out 1).trans rfl
   have hfz9_0 := blk_frozen BK706.out 0
   have hfz9_1 := blk_frozen BK706.out 1
   go_wp2
   repeat (go_quiet (fail); try go_wp2)
   go_meet
   case rel => exact ⟨_, (((l0_1.length : Int) != (l1_1.length : Int))), (by first | rfl | (simp; done) | (simp [*]; done)), H', ⟨by first | omega | exact Nat.le_refl _⟩, ⟨by (with_reducible repeat (first | refine blk_drewN ?_ _ | refine blk_drew ?_ | refine blk_alloc ?_ _)); exact BK705.out⟩, ⟨by (with_reducible repeat (first | refine blk_drewN ?_ _ | refine blk_drew ?_ | refine blk_alloc ?_ _)); exact BK706.out⟩, ⟨by repeat (first | (with_reducible first | exact HB.out | apply below_alloc | apply pw_below_drewN | apply below_drew1 | refine below_set ?_ GE705.out | refine below_set ?_ GE706.out) | exact HB.out)⟩⟩
  ·rw [if_neg c6] at H
   have c6b0 : ((l0_0.length : Int) == (l1_0.length : Int)) = false := beq_eq_false_iff_ne.mpr c6
   have c6b1 : ((l0_0.length : Int) != (l1_0.length : Int)) = true := bne_iff_ne.mpr c6
   have c6b2 : (l0_0.length == l1_0.length) = false := by first | simpa using c6 | (simp at c6 ⊢; omega)
   (first | rw [c6b0] | (simp only [i64_w, i32_w]; rw [c6b0]) | skip)
   have H' := Aside0.mk H
   clear H
   have hnb10 := NB705_706.out
   have hnc10 := NB706_705.out
   have hcz11_0 : w5.cell? ⟨gb705, 0, none⟩ = some (.slice A0_0 l0_0.length c0_0) := (blk_cell BK705.out 0).trans rfl
   have hcz11_1 : w5.cell? ⟨gb705, 1, none⟩ = some (.slice A0_1 l0_1.length c0_1) := (blk_cell BK705.out 1).trans rfl
   have hfz11_0 := blk_frozen BK705.out 0
   have hfz11_1 := blk_frozen BK705.out 1
   have hcz12_0 : w5.cell? ⟨gb706, 0, none⟩ = some (.slice A1_0 l1_0.length c1_0) := (blk_cell BK706.out 0).trans rfl
   have hcz12_1 : w5.cell? ⟨gb706, 1, none⟩ = some (.slice A1_1 l1_1.length c1_1) := (blk_cell BK706.out 1).trans rfl
   have hfz12_0 := blk_frozen BK706.out 0
   have hfz12_1 := blk_frozen BK706.out 1
   go_wp2
   repeat (go_quiet (fail); try go_wp2)
   go_meet
   case rel => exact ⟨_, (true), (by first | rfl | (simp; done) | (simp [*]; done)), H', ⟨by first | omega | exact Nat.le_refl _⟩, ⟨by (with_reducible repeat (first | refine blk_drewN ?_ _ | refine blk_drew ?_ | refine blk_alloc ?_ _)); exact BK705.out⟩, ⟨by (with_reducible repeat (first | refine blk_drewN ?_ _ | refine blk_drew ?_ | refine blk_alloc ?_ _)); exact BK706.out⟩, ⟨by repeat (first | (with_reducible first | exact HB.out | apply below_alloc | apply pw_below_drewN | apply below_drew1 | refine below_set ?_ GE705.out | refine below_set ?_ GE706.out) | exact HB.out)⟩⟩
 case rest =>
  clear HC3
  try clear c1
  try clear p2
  try clear c3
  try clear c6
  try clear c6b0
  try clear c6b1
  try clear c6b2
  try clear c7
  try clear c10
  try clear hcz11_0
  try clear hcz11_1
  try clear hcz12_0
  try clear hcz12_1
  try clear hcz8_0
  try clear hcz8_1
  try clear hcz9_0
  try clear hcz9_1
  try clear hfz11_0
  try clear hfz11_1
  try clear hfz12_0
  try clear hfz12_1
  try clear hfz8_0
  try clear hfz8_1
  try clear hfz9_0
  try clear hfz9_1
  obtain ⟨kq, x23_2, rfl, HA, HJ2, BK705, BK706, HB⟩ := hcut
  cases kq with
  | zero => exact absurd HA.out (by simp [scansionref12_Same.j0])
  | succ kj2 =>
   have H := HA.out
   clear HA
   simp only [scansionref12_Same.j0] at H
   by_cases c13 : x23_2 = true
   ·subst c13
    have H1 : (some false) = some r := by rw [if_pos rfl] at H; exact H
    clear H
    have H := H1
    clear H1
    obtain rfl := Option.some.inj H
    go_wp2
    repeat (go_quiet (fail); try go_wp2)
    go_ret
    exact ⟨by first | rfl | (simp [errW_none, errW_some] <;> rfl) | (simp [*, errW_none, errW_some] <;> rfl), by repeat (first | (with_reducible first | exact HB.out | apply below_alloc | apply pw_below_drewN | apply below_drew1 | refine below_set ?_ GE705.out | refine below_set ?_ GE706.out) | exact HB.out)⟩
   ·replace c13 := Bool.eq_false_iff.mpr c13
    subst c13
    have H1 : (scansionref12_Same.l0 kj2 0 l0_0 l0_1 l1_0 l1_1) = some r := by rw [if_neg (show ¬ (false = true) by decide)] at H; exact H
    clear H
    have H := H1
    clear H1
    have H' := Aside0.mk H
    clear H
    go_wp2
    repeat (go_quiet (fail); try go_wp2)
    go_loopg [5] kj2 (fun kq v5 w' => ∃ (x5_2 : Int), v5 = .int .i64 x5_2 ∧ Aside0 (scansionref12_Same.l0 kq x5_2 l0_0 l0_1 l1_0 l1_1 = some r) ∧ Aside0 (kq ≤ kj2) ∧ Aside0 (w'.heap[gb705]? = some (.cells #[(.slice A0_0 l0_0.length c0_0), (.slice A0_1 l0_1.length c0_1)] 47 (0, 0))) ∧ Aside0 (w'.heap[gb706]? = some (.cells #[(.slice A1_0 l1_0.length c1_0), (.slice A1_1 l1_1.length c1_1)] 47 (0, 0))) ∧ Aside0 (Below w.heap.size w w'))
    case atStart => exact ⟨(0), (by first | rfl | (simp; done) | (simp [*]; done)), H', ⟨Nat.le_refl _⟩, ⟨by (with_reducible repeat (first | refine blk_drewN ?_ _ | refine blk_drew ?_ | refine blk_alloc ?_ _)); exact BK705.out⟩, ⟨by (with_reducible repeat (first | refine blk_drewN ?_ _ | refine blk_drew ?_ | refine blk_alloc ?_ _)); exact BK706.out⟩, ⟨by repeat (first | (with_reducible first | exact HB.out | apply below_alloc | apply pw_below_drewN | apply below_drew1 | refine below_set ?_ GE705.out | refine below_set ?_ GE706.out) | exact HB.out)⟩⟩
    case round =>
     clear H'
     try clear c1
     try clear p2
     try clear c3
     try clear c6
     try clear c6b0
     try clear c6b1
     try clear c6b2
     try clear c7
     try clear c10
     try clear c13
     try clear hcz11_0
     try clear hcz11_1
     try clear hcz12_0
     try clear hcz12_1
     try clear hcz8_0
     try clear hcz8_1
     try clear hcz9_0
     try clear hcz9_1
     try clear hfz11_0
     try clear hfz11_1
     try clear hfz12_0
     try clear hfz12_1
     try clear hfz8_0
     try clear hfz8_1
     try clear hfz9_0
     try clear hfz9_1
     try clear p2
     obtain ⟨x5_2, rfl, HA, HK2, BK705, BK706, HB⟩ := hrel
     cases gk with
     | zero => exact absurd HA.out (by simp [scansionref12_Same.l0])
     | succ k2 =>
      have H := HA.out
      clear HA
      simp only [scansionref12_Same.l0] at H
      by_cases c14 : x5_2 < (l0_0.length : Int)
      ·rw [if_pos c14] at H
       have c14b0 : decide (x5_2 < (l0_0.length : Int)) = true := decide_eq_true c14
       clear c14
       by_cases c15 : 0 ≤ x5_2
       ·rw [if_pos c15] at H
        have c15b0 : decide (0 ≤ x5_2) = true := decide_eq_true c15
        clear c15
        by_cases c16 : x5_2 < (l1_0.length : Int)
        ·rw [if_pos c16] at H
         have c16b0 : decide (x5_2 < (l1_0.length : Int)) = true := decide_eq_true c16
         clear c16
         replace H := Option.bind_eq_some_iff.mp H
         obtain ⟨t709, A170, H⟩ := H
         replace H : (if t709 = true then (scansionref12_Same.l0 k2 (wrap64 (x5_2 + 1)) l0_0 l0_1 l1_0 l1_1) else (some false)) = some r := H
         have A17 := Aside0.mk A170
         clear A170
         by_cases c18 : t709 = true
         ·subst c18
          have H1 : (scansionref12_Same.l0 k2 (wrap64 (x5_2 + 1)) l0_0 l0_1 l1_0 l1_1) = some r := by rw [if_pos rfl] at H; exact H
          clear H
          have H := H1
          clear H1
          have H' := Aside0.mk H
          clear H
          have hnb19 := NB705_706.out
          have hnc19 := NB706_705.out
          have hcz20_0 : wr.cell? ⟨gb705, 0, none⟩ = some (.slice A0_0 l0_0.length c0_0) := (blk_cell BK705.out 0).trans rfl
          have hcz20_1 : wr.cell? ⟨gb705, 1, none⟩ = some (.slice A0_1 l0_1.length c0_1) := (blk_cell BK705.out 1).trans rfl
          have hfz20_0 := blk_frozen BK705.out 0
          have hfz20_1 := blk_frozen BK705.out 1
          have p707 : 0 ≤ (x5_2 : Int) := of_decide_eq_true (by first | (with_reducible assumption) | assumption)
          have q707 : x5_2 < (l0_0.length : Int) := of_decide_eq_true (by first | (with_reducible assumption) | assumption)
          obtain ⟨ad707, A707_0, c707_0, e707, hx707_0, hl707_0, hi707_0⟩ := at_L3 HR0_0.out x5_2 p707 q707
          cases e707
          replace hx707_0 := (HB.out.cell (World.block_lt_of_cell? w _ hx707_0)).trans hx707_0
          have HR707_0 := Aside0.mk hi707_0
          have HC707_0 := Aside0.mk hl707_0
          clear hi707_0 hl707_0
          replace p707 := eq_true p707
          replace q707 := eq_true q707
          have hcz21_0 : wr.cell? ⟨gb706, 0, none⟩ = some (.slice A1_0 l1_0.length c1_0) := (blk_cell BK706.out 0).trans rfl
          have hcz21_1 : wr.cell? ⟨gb706, 1, none⟩ = some (.slice A1_1 l1_1.length c1_1) := (blk_cell BK706.out 1).trans rfl
          have hfz21_0 := blk_frozen BK706.out 0
          have hfz21_1 := blk_frozen BK706.out 1
          have p708 : 0 ≤ (x5_2 : Int) := of_decide_eq_true (by first | (with_reducible assumption) | assumption)
          have q708 : x5_2 < (l1_0.length : Int) := of_decide_eq_true (by first | (with_reducible assumption) | assumption)
          obtain ⟨ad708, A708_0, c708_0, e708, hx708_0, hl708_0, hi708_0⟩ := at_L3 HR1_0.out x5_2 p708 q708
          cases e708
          replace hx708_0 := (HB.out.cell (World.block_lt_of_cell? w _ hx708_0)).trans hx708_0
          have HR708_0 := Aside0.mk hi708_0
          have HC708_0 := Aside0.mk hl708_0
          clear hi708_0 hl708_0
          replace p708 := eq_true p708
          replace q708 := eq_true q708
          go_wp2_with (first | (go_at_call 23; (with_reducible refine (scansionref01_SameInts.calls k2 _ _ (rd_L3 l0_0 x5_2) _ _ (rd_L3 l1_0 x5_2) true _ ?side1 ?side2 ?side3 ?side4 A17.out).mono ?_); (case side1 => repeat (first | exact (Kd.C_below HR707_0.out HB.out) | (with_reducible refine Kd.C_alloc ?_ _) | (with_reducible refine Kd.C_drewN ?_ _) | (with_reducible refine Kd.C_drew ?_))); (case side2 => exact HC707_0.out); (case side3 => repeat (first | exact (Kd.C_below HR708_0.out HB.out) | (with_reducible refine Kd.C_alloc ?_ _) | (with_reducible refine Kd.C_drewN ?_ _) | (with_reducible refine Kd.C_drew ?_))); (case side4 => exact HC708_0.out); rintro e w' ⟨rfl, ⟨nd, rfl⟩⟩; (try first | exact ⟨rfl, _, World.drewN_drewN _ _ _⟩ | exact ⟨rfl, _, Eq.trans (World.drewN_drewN _ _ _) (congrArg (World.drewN _) (Nat.add_assoc _ _ _))⟩)))
          repeat (go_quiet (first | (go_at_call 23; (with_reducible refine (scansionref01_SameInts.calls k2 _ _ (rd_L3 l0_0 x5_2) _ _ (rd_L3 l1_0 x5_2) true _ ?side1 ?side2 ?side3 ?side4 A17.out).mono ?_); (case side1 => repeat (first | exact (Kd.C_below HR707_0.out HB.out) | (with_reducible refine Kd.C_alloc ?_ _) | (with_reducible refine Kd.C_drewN ?_ _) | (with_reducible refine Kd.C_drew ?_))); (case side2 => exact HC707_0.out); (case side3 => repeat (first | exact (Kd.C_below HR708_0.out HB.out) | (with_reducible refine Kd.C_alloc ?_ _) | (with_reducible refine Kd.C_drewN ?_ _) | (with_reducible refine Kd.C_drew ?_))); (case side4 => exact HC708_0.out); rintro e w' ⟨rfl, ⟨nd, rfl⟩⟩; (try first | exact ⟨rfl, _, World.drewN_drewN _ _ _⟩ | exact ⟨rfl, _, Eq.trans (World.drewN_drewN _ _ _) (congrArg (World.drewN _) (Nat.add_assoc _ _ _))⟩))); try go_wp2_with (first | (go_at_call 23; (with_reducible refine (scansionref01_SameInts.calls k2 _ _ (rd_L3 l0_0 x5_2) _ _ (rd_L3 l1_0 x5_2) true _ ?side1 ?side2 ?side3 ?side4 A17.out).mono ?_); (case side1 => repeat (first | exact (Kd.C_below HR707_0.out HB.out) | (with_reducible refine Kd.C_alloc ?_ _) | (with_reducible refine Kd.C_drewN ?_ _) | (with_reducible refine Kd.C_drew ?_))); (case side2 => exact HC707_0.out); (case side3 => repeat (first | exact (Kd.C_below HR708_0.out HB.out) | (with_reducible refine Kd.C_alloc ?_ _) | (with_reducible refine Kd.C_drewN ?_ _) | (with_reducible refine Kd.C_drew ?_))); (case side4 => exact HC708_0.out); rintro e w' ⟨rfl, ⟨nd, rfl⟩⟩; (try first | exact ⟨rfl, _, World.drewN_drewN _ _ _⟩ | exact ⟨rfl, _, Eq.trans (World.drewN_drewN _ _ _) (congrArg (World.drewN _) (Nat.add_assoc _ _ _))⟩))))
          go_roundg k2
          case measure => have := HJ2.out; have := HK2.out; omega
          case rel => exact ⟨(wrap64 (x5_2 + 1)), (by first | rfl | (simp; done) | (simp [*]; done)), H', ⟨by have := HJ2.out; have := HK2.out; omega⟩, ⟨by (with_reducible repeat (first | refine blk_drewN ?_ _ | refine blk_drew ?_ | refine blk_alloc ?_ _)); exact BK705.out⟩, ⟨by (with_reducible repeat (first | refine blk_drewN ?_ _ | refine blk_drew ?_ | refine blk_alloc ?_ _)); exact BK706.out⟩, ⟨by repeat (first | (with_reducible first | exact HB.out | apply below_alloc | apply pw_below_drewN | apply below_drew1 | refine below_set ?_ GE705.out | refine below_set ?_ GE706.out) | exact HB.out)⟩⟩
         ·replace c18 := Bool.eq_false_iff.mpr c18
          subst c18
          have H1 : (some false) = some r := by rw [if_neg (show ¬ (false = true) by decide)] at H; exact H
          clear H
          have H := H1
          clear H1
          obtain rfl := Option.some.inj H
          have hnb22 := NB705_706.out
          have hnc22 := NB706_705.out
          have hcz23_0 : wr.cell? ⟨gb705, 0, none⟩ = some (.slice A0_0 l0_0.length c0_0) := (blk_cell BK705.out 0).trans rfl
          have hcz23_1 : wr.cell? ⟨gb705, 1, none⟩ = some (.slice A0_1 l0_1.length c0_1) := (blk_cell BK705.out 1).trans rfl
          have hfz23_0 := blk_frozen BK705.out 0
          have hfz23_1 := blk_frozen BK705.out 1
          have p707 : 0 ≤ (x5_2 : Int) := of_decide_eq_true (by first | (with_reducible assumption) | assumption)
          have q707 : x5_2 < (l0_0.length : Int) := of_decide_eq_true (by first | (with_reducible assumption) | assumption)
          obtain ⟨ad707, A707_0, c707_0, e707, hx707_0, hl707_0, hi707_0⟩ := at_L3 HR0_0.out x5_2 p707 q707
          cases e707
          replace hx707_0 := (HB.out.cell (World.block_lt_of_cell? w _ hx707_0)).trans hx707_0
          have HR707_0 := Aside0.mk hi707_0
          have HC707_0 := Aside0.mk hl707_0
          clear hi707_0 hl707_0
          replace p707 := eq_true p707
          replace q707 := eq_true q707
          have hcz24_0 : wr.cell? ⟨gb706, 0, none⟩ = some (.slice A1_0 l1_0.length c1_0) := (blk_cell BK706.out 0).trans rfl
          have hcz24_1 : wr.cell? ⟨gb706, 1, none⟩ = some (.slice A1_1 l1_1.length c1_1) := (blk_cell BK706.out 1).trans rfl
          have hfz24_0 := blk_frozen BK706.out 0
          have hfz24_1 := blk_frozen BK706.out 1
          have p708 : 0 ≤ (x5_2 : Int) := of_decide_eq_true (by first | (with_reducible assumption) | assumption)
          have q708 : x5_2 < (l1_0.length : Int) := of_decide_eq_true (by first | (with_reducible assumption) | assumption)
          obtain ⟨ad708, A708_0, c708_0, e708, hx708_0, hl708_0, hi708_0⟩ := at_L3 HR1_0.out x5_2 p708 q708
          cases e708
          replace hx708_0 := (HB.out.cell (World.block_lt_of_cell? w _ hx708_0)).trans hx708_0
          have HR708_0 := Aside0.mk hi708_0
          have HC708_0 := Aside0.mk hl708_0
          clear hi708_0 hl708_0
          replace p708 := eq_true p708
          replace q708 := eq_true q708
          go_wp2_with (first | (go_at_call 23; (with_reducible refine (scansionref01_SameInts.calls k2 _ _ (rd_L3 l0_0 x5_2) _ _ (rd_L3 l1_0 x5_2) false _ ?side1 ?side2 ?side3 ?side4 A17.out).mono ?_); (case side1 => repeat (first | exact (Kd.C_below HR707_0.out HB.out) | (with_reducible refine Kd.C_alloc ?_ _) | (with_reducible refine Kd.C_drewN ?_ _) | (with_reducible refine Kd.C_drew ?_))); (case side2 => exact HC707_0.out); (case side3 => repeat (first | exact (Kd.C_below HR708_0.out HB.out) | (with_reducible refine Kd.C_alloc ?_ _) | (with_reducible refine Kd.C_drewN ?_ _) | (with_reducible refine Kd.C_drew ?_))); (case side4 => exact HC708_0.out); rintro e w' ⟨rfl, ⟨nd, rfl⟩⟩; (try first | exact ⟨rfl, _, World.drewN_drewN _ _ _⟩ | exact ⟨rfl, _, Eq.trans (World.drewN_drewN _ _ _) (congrArg (World.drewN _) (Nat.add_assoc _ _ _))⟩)))
          repeat (go_quiet (first | (go_at_call 23; (with_reducible refine (scansionref01_SameInts.calls k2 _ _ (rd_L3 l0_0 x5_2) _ _ (rd_L3 l1_0 x5_2) false _ ?side1 ?side2 ?side3 ?side4 A17.out).mono ?_); (case side1 => repeat (first | exact (Kd.C_below HR707_0.out HB.out) | (with_reducible refine Kd.C_alloc ?_ _) | (with_reducible refine Kd.C_drewN ?_ _) | (with_reducible refine Kd.C_drew ?_))); (case side2 => exact HC707_0.out); (case side3 => repeat (first | exact (Kd.C_below HR708_0.out HB.out) | (with_reducible refine Kd.C_alloc ?_ _) | (with_reducible refine Kd.C_drewN ?_ _) | (with_reducible refine Kd.C_drew ?_))); (case side4 => exact HC708_0.out); rintro e w' ⟨rfl, ⟨nd, rfl⟩⟩; (try first | exact ⟨rfl, _, World.drewN_drewN _ _ _⟩ | exact ⟨rfl, _, Eq.trans (World.drewN_drewN _ _ _) (congrArg (World.drewN _) (Nat.add_assoc _ _ _))⟩))); try go_wp2_with (first | (go_at_call 23; (with_reducible refine (scansionref01_SameInts.calls k2 _ _ (rd_L3 l0_0 x5_2) _ _ (rd_L3 l1_0 x5_2) false _ ?side1 ?side2 ?side3 ?side4 A17.out).mono ?_); (case side1 => repeat (first | exact (Kd.C_below HR707_0.out HB.out) | (with_reducible refine Kd.C_alloc ?_ _) | (with_reducible refine Kd.C_drewN ?_ _) | (with_reducible refine Kd.C_drew ?_))); (case side2 => exact HC707_0.out); (case side3 => repeat (first | exact (Kd.C_below HR708_0.out HB.out) | (with_reducible refine Kd.C_alloc ?_ _) | (with_reducible refine Kd.C_drewN ?_ _) | (with_reducible refine Kd.C_drew ?_))); (case side4 => exact HC708_0.out); rintro e w' ⟨rfl, ⟨nd, rfl⟩⟩; (try first | exact ⟨rfl, _, World.drewN_drewN _ _ _⟩ | exact ⟨rfl, _, Eq.trans (World.drewN_drewN _ _ _) (congrArg (World.drewN _) (Nat.add_assoc _ _ _))⟩))))
          go_ret
          exact ⟨by first | rfl | (simp [errW_none, errW_some] <;> rfl) | (simp [*, errW_none, errW_some] <;> rfl), by repeat (first | (with_reducible first | exact HB.out | apply below_alloc | apply pw_below_drewN | apply below_drew1 | refine below_set ?_ GE705.out | refine below_set ?_ GE706.out) | exact HB.out)⟩
        ·rw [if_neg c16] at H
         exact absurd H (by simp)
       ·rw [if_neg c15] at H
        exact absurd H (by simp)
      ·rw [if_neg c14] at H
       have c14b0 : decide (x5_2 < (l0_0.length : Int)) = false := decide_eq_false c14
       clear c14
       have H' := Aside0.mk H
       clear H
       have hnb25 := NB705_706.out
       have hnc25 := NB706_705.out
       have hcz26_0 : wr.cell? ⟨gb705, 0, none⟩ = some (.slice A0_0 l0_0.length c0_0) := (blk_cell BK705.out 0).trans rfl
       have hcz26_1 : wr.cell? ⟨gb705, 1, none⟩ = some (.slice A0_1 l0_1.length c0_1) := (blk_cell BK705.out 1).trans rfl
       have hfz26_0 := blk_frozen BK705.out 0
       have hfz26_1 := blk_frozen BK705.out 1
       go_wp2
       repeat (go_quiet (fail); try go_wp2)
       go_loopg [7] k2 (fun kq v7 w' => ∃ (x7_3 : Int), v7 = .int .i64 x7_3 ∧ Aside0 (scansionref12_Same.l1 kq x7_3 l0_0 l0_1 l1_0 l1_1 = some r) ∧ Aside0 (kq ≤ k2) ∧ Aside0 (w'.heap[gb705]? = some (.cells #[(.slice A0_0 l0_0.length c0_0), (.slice A0_1 l0_1.length c0_1)] 47 (0, 0))) ∧ Aside0 (w'.heap[gb706]? = some (.cells #[(.slice A1_0 l1_0.length c1_0), (.slice A1_1 l1_1.length c1_1)] 47 (0, 0))) ∧ Aside0 (Below w.heap.size w w'))
       case atStart => exact ⟨(0), (by first | rfl | (simp; done) | (simp [*]; done)), H', ⟨Nat.le_refl _⟩, ⟨by (with_reducible repeat (first | refine blk_drewN ?_ _ | refine blk_drew ?_ | refine blk_alloc ?_ _)); exact BK705.out⟩, ⟨by (with_reducible repeat (first | refine blk_drewN ?_ _ | refine blk_drew ?_ | refine blk_alloc ?_ _)); exact BK706.out⟩, ⟨by repeat (first | (with_reducible first | exact HB.out | apply below_alloc | apply pw_below_drewN | apply below_drew1 | refine below_set ?_ GE705.out | refine below_set ?_ GE706.out) | exact HB.out)⟩⟩
       case round =>
        clear H'
        try clear c1
        try clear c2
        try clear p2
        try clear c3
        try clear c6
        try clear c6b0
        try clear c6b1
        try clear c6b2
        try clear p6
        try clear c7
        try clear p7
        try clear q7
        try clear hx7
        try clear c10
        try clear c13
        try clear c14
        try clear c14b0
        try clear c15
        try clear c15b0
        try clear c16
        try clear c16b0
        try clear c18
        try clear c19
        try clear c22
        try clear c25
        try clear hcz11_0
        try clear hcz11_1
        try clear hcz12_0
        try clear hcz12_1
        try clear hcz20_0
        try clear hcz20_1
        try clear hcz21_0
        try clear hcz21_1
        try clear hcz23_0
        try clear hcz23_1
        try clear hcz24_0
        try clear hcz24_1
        try clear hcz26_0
        try clear hcz26_1
        try clear hcz8_0
        try clear hcz8_1
        try clear hcz9_0
        try clear hcz9_1
        try clear hfz11_0
        try clear hfz11_1
        try clear hfz12_0
        try clear hfz12_1
        try clear hfz20_0
        try clear hfz20_1
        try clear hfz21_0
        try clear hfz21_1
        try clear hfz23_0
        try clear hfz23_1
        try clear hfz24_0
        try clear hfz24_1
        try clear hfz26_0
        try clear hfz26_1
        try clear hfz8_0
        try clear hfz8_1
        try clear hfz9_0
        try clear hfz9_1
        try clear hx707_0
        try clear hx708_0
        try clear p2
        try clear p707
        try clear p708
        try clear q707
        try clear q708
        obtain ⟨x7_3, rfl, HA, HK3, BK705, BK706, HB⟩ := hrel
        cases gk with
        | zero => exact absurd HA.out (by simp [scansionref12_Same.l1])
        | succ k3 =>
         have H := HA.out
         clear HA
         simp only [scansionref12_Same.l1] at H
         by_cases c27 : x7_3 < (l0_1.length : Int)
         ·rw [if_pos c27] at H
          have c27b0 : decide (x7_3 < (l0_1.length : Int)) = true := decide_eq_true c27
          clear c27
          by_cases c28 : 0 ≤ x7_3
          ·rw [if_pos c28] at H
           have c28b0 : decide (0 ≤ x7_3) = true := decide_eq_true c28
           clear c28
           by_cases c29 : x7_3 < (l1_1.length : Int)
           ·rw [if_pos c29] at H
            have c29b0 : decide (x7_3 < (l1_1.length : Int)) = true := decide_eq_true c29
            clear c29
            by_cases c30 : ((rdOf false l0_1 x7_3) != (rdOf false l1_1 x7_3)) = true
            ·rw [if_pos c30] at H
             have c30b0 : ((rdOf false l0_1 x7_3) != (rdOf false l1_1 x7_3)) = true := c30
             (try (have c30b1 : decide ((rdOf false l0_1 x7_3) = (rdOf false l1_1 x7_3)) = false := by simpa using c30))
             (try (have c30b2 : ((rdOf false l0_1 x7_3) == (rdOf false l1_1 x7_3)) = false := by simpa using c30))
             (try (have c30b3 : ¬ ((rdOf false l0_1 x7_3) = (rdOf false l1_1 x7_3)) := by simpa using c30))
             clear c30
             obtain rfl := Option.some.inj H
             have hnb31 := NB705_706.out
             have hnc31 := NB706_705.out
             have hcz32_0 : wr.cell? ⟨gb705, 0, none⟩ = some (.slice A0_0 l0_0.length c0_0) := (blk_cell BK705.out 0).trans rfl
             have hcz32_1 : wr.cell? ⟨gb705, 1, none⟩ = some (.slice A0_1 l0_1.length c0_1) := (blk_cell BK705.out 1).trans rfl
             have hfz32_0 := blk_frozen BK705.out 0
             have hfz32_1 := blk_frozen BK705.out 1
             have p710 : 0 ≤ (x7_3 : Int) := of_decide_eq_true (by first | (with_reducible assumption) | assumption)
             have q710 : x7_3 < (l0_1.length : Int) := of_decide_eq_true (by first | (with_reducible assumption) | assumption)
             obtain ⟨ad710, e710, hx710_0⟩ := Kd.at_bool HR0_1.out x7_3 p710 q710
             cases e710
             replace hx710_0 := (HB.out.cell (World.block_lt_of_cell? w _ hx710_0)).trans hx710_0
             replace p710 := eq_true p710
             replace q710 := eq_true q710
             have hcz33_0 : wr.cell? ⟨gb706, 0, none⟩ = some (.slice A1_0 l1_0.length c1_0) := (blk_cell BK706.out 0).trans rfl
             have hcz33_1 : wr.cell? ⟨gb706, 1, none⟩ = some (.slice A1_1 l1_1.length c1_1) := (blk_cell BK706.out 1).trans rfl
             have hfz33_0 := blk_frozen BK706.out 0
             have hfz33_1 := blk_frozen BK706.out 1
             have p711 : 0 ≤ (x7_3 : Int) := of_decide_eq_true (by first | (with_reducible assumption) | assumption)
             have q711 : x7_3 < (l1_1.length : Int) := of_decide_eq_true (by first | (with_reducible assumption) | assumption)
             obtain ⟨ad711, e711, hx711_0⟩ := Kd.at_bool HR1_1.out x7_3 p711 q711
             cases e711
             replace hx711_0 := (HB.out.cell (World.block_lt_of_cell? w _ hx711_0)).trans hx711_0
             replace p711 := eq_true p711
             replace q711 := eq_true q711
             go_wp2
             repeat (go_quiet (fail); try go_wp2)
             go_ret
             exact ⟨by first | rfl | (simp [errW_none, errW_some] <;> rfl) | (simp [*, errW_none, errW_some] <;> rfl), by repeat (first | (with_reducible first | exact HB.out | apply below_alloc | apply pw_below_drewN | apply below_drew1 | refine below_set ?_ GE705.out | refine below_set ?_ GE706.out) | exact HB.out)⟩
            ·rw [if_neg c30] at H
             have c30b0 : ((rdOf false l0_1 x7_3) != (rdOf false l1_1 x7_3)) = false := by simpa using c30
             (try (have c30b1 : decide ((rdOf false l0_1 x7_3) = (rdOf false l1_1 x7_3)) = true := by simpa using c30))
             (try (have c30b2 : ((rdOf false l0_1 x7_3) == (rdOf false l1_1 x7_3)) = true := by simpa using c30))
             clear c30
             have H' := Aside0.mk H
             clear H
             have hnb34 := NB705_706.out
             have hnc34 := NB706_705.out
             have hcz35_0 : wr.cell? ⟨gb705, 0, none⟩ = some (.slice A0_0 l0_0.length c0_0) := (blk_cell BK705.out 0).trans rfl
             have hcz35_1 : wr.cell? ⟨gb705, 1, none⟩ = some (.slice A0_1 l0_1.length c0_1) := (blk_cell BK705.out 1).trans rfl
             have hfz35_0 := blk_frozen BK705.out 0
             have hfz35_1 := blk_frozen BK705.out 1
             have p710 : 0 ≤ (x7_3 : Int) := of_decide_eq_true (by first | (with_reducible assumption) | assumption)
             have q710 : x7_3 < (l0_1.length : Int) := of_decide_eq_true (by first | (with_reducible assumption) | assumption)
             obtain ⟨ad710, e710, hx710_0⟩ := Kd.at_bool HR0_1.out x7_3 p710 q710
             cases e710
             replace hx710_0 := (HB.out.cell (World.block_lt_of_cell? w _ hx710_0)).trans hx710_0
             replace p710 := eq_true p710
             replace q710 := eq_true q710
             have hcz36_0 : wr.cell? ⟨gb706, 0, none⟩ = some (.slice A1_0 l1_0.length c1_0) := (blk_cell BK706.out 0).trans rfl
             have hcz36_1 : wr.cell? ⟨gb706, 1, none⟩ = some (.slice A1_1 l1_1.length c1_1) := (blk_cell BK706.out 1).trans rfl
             have hfz36_0 := blk_frozen BK706.out 0
             have hfz36_1 := blk_frozen BK706.out 1
             have p711 : 0 ≤ (x7_3 : Int) := of_decide_eq_true (by first | (with_reducible assumption) | assumption)
             have q711 : x7_3 < (l1_1.length : Int) := of_decide_eq_true (by first | (with_reducible assumption) | assumption)
             obtain ⟨ad711, e711, hx711_0⟩ := Kd.at_bool HR1_1.out x7_3 p711 q711
             cases e711
             replace hx711_0 := (HB.out.cell (World.block_lt_of_cell? w _ hx711_0)).trans hx711_0
             replace p711 := eq_true p711
             replace q711 := eq_true q711
             go_wp2
             repeat (go_quiet (fail); try go_wp2)
             go_roundg k3
             case measure => have := HJ2.out; have := HK2.out; have := HK3.out; omega
             case rel => exact ⟨(wrap64 (x7_3 + 1)), (by first | rfl | (simp; done) | (simp [*]; done)), H', ⟨by have := HJ2.out; have := HK2.out; have := HK3.out; omega⟩, ⟨by (with_reducible repeat (first | refine blk_drewN ?_ _ | refine blk_drew ?_ | refine blk_alloc ?_ _)); exact BK705.out⟩, ⟨by (with_reducible repeat (first | refine blk_drewN ?_ _ | refine blk_drew ?_ | refine blk_alloc ?_ _)); exact BK706.out⟩, ⟨by repeat (first | (with_reducible first | exact HB.out | apply below_alloc | apply pw_below_drewN | apply below_drew1 | refine below_set ?_ GE705.out | refine below_set ?_ GE706.out) | exact HB.out)⟩⟩
           ·rw [if_neg c29] at H
            exact absurd H (by simp)
          ·rw [if_neg c28] at H
           exact absurd H (by simp)
         ·rw [if_neg c27] at H
          have c27b0 : decide (x7_3 < (l0_1.length : Int)) = false := decide_eq_false c27
          clear c27
          obtain rfl := Option.some.inj H
          have hnb37 := NB705_706.out
          have hnc37 := NB706_705.out
          have hcz38_0 : wr.cell? ⟨gb705, 0, none⟩ = some (.slice A0_0 l0_0.length c0_0) := (blk_cell BK705.out 0).trans rfl
          have hcz38_1 : wr.cell? ⟨gb705, 1, none⟩ = some (.slice A0_1 l0_1.length c0_1) := (blk_cell BK705.out 1).trans rfl
          have hfz38_0 := blk_frozen BK705.out 0
          have hfz38_1 := blk_frozen BK705.out 1
          go_wp2
          repeat (go_quiet (fail); try go_wp2)
          go_ret
          exact ⟨by first | rfl | (simp [errW_none, errW_some] <;> rfl) | (simp [*, errW_none, errW_some] <;> rfl), by repeat (first | (with_reducible first | exact HB.out | apply below_alloc | apply pw_below_drewN | apply below_drew1 | refine below_set ?_ GE705.out | refine below_set ?_ GE706.out) | exact HB.out)⟩

end Go.Proofs.Ytemlgmkbonpniaa.Print

namespace Go.Proofs.Ytemlgmkbonpniaa.Print
open Go.RowKit Go.Maps Go.Proofs.YtemlgmkbonpniaaW.PrintWords Go.Proofs.YtemlgmkbonpniaaW.PrintLast Go.Proofs.YtemlgmkbonpniaaW.PrintMore
set_option linter.unusedVariables false
set_option linter.unusedSimpArgs false
theorem rd_drop {l : List Int} {i : Nat} (h : i < l.length) : l.drop i = rd l (i : Int) :: l.drop (i + 1) := by
 unfold rd
 rw [List.drop_eq_getElem_cons h, Int.toNat_natCast, List.getD_eq_getElem?_getD, List.getElem?_eq_getElem h]
 rfl
/-! ### comparing -/
theorem ints_l0 (a b : List Int) (hab : a.length = b.length) (hl : a.length ≤ 1000000) : ∀ (n i : Nat), i + n = a.length → Evs (fun k => scansionref01_SameInts.l0 k a b (i : Int)) (decide (a.drop i = b.drop i)) := by
 intro n
 induction n with
 | zero =>
  intro i hi
  refine ⟨1, fun k hk => ?_⟩
  obtain ⟨k, rfl⟩ : ∃ j, k = j + 1 := ⟨k - 1, by omega⟩
  show scansionref01_SameInts.l0 (k + 1) _ _ _ = _
  rw [scansionref01_SameInts.l0, if_neg (by omega), List.drop_eq_nil_of_le (by omega), List.drop_eq_nil_of_le (by omega)]
  rfl
 | succ n ihn =>
  intro i hi
  by_cases q : rd a (i : Int) = rd b (i : Int)
  ·obtain ⟨K, hK⟩ := ihn (i + 1) (by omega)
   refine ⟨K + 1, fun k hk => ?_⟩
   obtain ⟨k, rfl⟩ : ∃ j, k = j + 1 := ⟨k - 1, by omega⟩
   show scansionref01_SameInts.l0 (k + 1) _ _ _ = _
   have hk1 : scansionref01_SameInts.l0 k _ _ _ = _ := hK k (by omega)
   rw [scansionref01_SameInts.l0, if_pos (by omega), if_pos (by omega), if_pos (by omega), if_pos q, show wrap64 ((i : Int) + 1) = ((i + 1 : Nat) : Int) by unfold wrap64; omega, hk1, rd_drop (l := a) (i := i) (by omega), rd_drop (l := b) (i := i) (by omega), q]
   simp
  ·refine ⟨1, fun k hk => ?_⟩
   obtain ⟨k, rfl⟩ : ∃ j, k = j + 1 := ⟨k - 1, by omega⟩
   show scansionref01_SameInts.l0 (k + 1) _ _ _ = _
   rw [scansionref01_SameInts.l0, if_pos (by omega), if_pos (by omega), if_pos (by omega), if_neg q, rd_drop (l := a) (i := i) (by omega), rd_drop (l := b) (i := i) (by omega), decide_eq_false (fun h => q (List.cons.inj h).1)]
theorem ints_f (a b : List Int) (hl : a.length ≤ 1000000) : Evs (fun k => scansionref01_SameInts.f k a b) (decide (a = b)) := by
 by_cases q : a.length = b.length
 ·obtain ⟨K, hK⟩ := ints_l0 a b q hl a.length 0 (by omega)
  refine ⟨K, fun k hk => ?_⟩
  show scansionref01_SameInts.f k _ _ = _
  have hk1 : scansionref01_SameInts.l0 k a b 0 = _ := hK k hk
  unfold scansionref01_SameInts.f
  rw [if_pos (by omega), hk1, List.drop_zero, List.drop_zero]
 ·refine ⟨0, fun k hk => ?_⟩
  show scansionref01_SameInts.f k _ _ = _
  unfold scansionref01_SameInts.f
  rw [if_neg (by omega), decide_eq_false (fun h => q (by rw [h]))]
/-! ### finding -/
theorem idx_mid (x : List Int) : ∀ (a b : List (List Int)), x ∉ a → (a ++ x :: b).idxOf x = a.length := by
 intro a
 induction a with
 | nil => intro b _; simp
 | cons y a ih =>
  intro b h
  rw [List.cons_append, List.idxOf_cons, ih b (fun h2 => h (List.mem_cons_of_mem _ h2))]
  rw [show (y == x) = false from beq_eq_false_iff_ne.2 (fun h2 => h (by rw [h2]; exact List.mem_cons_self))]
  rfl
theorem find_l0 (sts : List (List Int)) (x : List Int) (hl : sts.length ≤ 1000000) (hr : ∀ l ∈ sts, l.length ≤ 1000000) : ∀ (n i : Nat), i + n = sts.length → x ∉ sts.take i → Evs (fun k => scansionref12_find.l0 k sts x (i : Int)) (if x ∈ sts then (sts.idxOf x : Int) else -1) := by
 intro n
 induction n with
 | zero =>
  intro i hi hx
  rw [List.take_of_length_le (by omega)] at hx
  refine ⟨1, fun k hk => ?_⟩
  obtain ⟨k, rfl⟩ : ∃ j, k = j + 1 := ⟨k - 1, by omega⟩
  show scansionref12_find.l0 (k + 1) _ _ _ = _
  rw [scansionref12_find.l0, if_neg (by omega), if_neg hx]
 | succ n ihn =>
  intro i hi hx
  have hil : i < sts.length := by omega
  have hg : rd_L3 sts (i : Int) = sts[i] := rdL3_get hil
  obtain ⟨K1, hK1⟩ := ints_f sts[i] x (hr _ (List.getElem_mem hil))
  by_cases q : sts[i] = x
  ·have hs : sts = sts.take i ++ x :: sts.drop (i + 1) := by rw [← q, ← List.drop_eq_getElem_cons hil, List.take_append_drop]
   have hidx : sts.idxOf x = i := by
    have h1 := idx_mid x (sts.take i) (sts.drop (i + 1)) hx
    rw [← hs, List.length_take] at h1
    omega
   have hm : x ∈ sts := by rw [← q]; exact List.getElem_mem hil
   refine ⟨K1 + 1, fun k hk => ?_⟩
   obtain ⟨k, rfl⟩ : ∃ j, k = j + 1 := ⟨k - 1, by omega⟩
   show scansionref12_find.l0 (k + 1) _ _ _ = _
   have hk1 : scansionref01_SameInts.f k _ _ = _ := hK1 k (by omega)
   rw [scansionref12_find.l0, if_pos (by omega), if_pos (by omega), hg, hk1, Option.bind_some, if_pos (decide_eq_true q), if_pos hm, hidx]
  ·obtain ⟨K, hK⟩ := ihn (i + 1) (by omega) (fun h => by
    rw [List.take_succ_eq_append_getElem hil] at h
    rcases List.mem_append.1 h with h | h
    ·exact hx h
    ·exact q (List.mem_singleton.1 h).symm)
   refine ⟨K + K1 + 1, fun k hk => ?_⟩
   obtain ⟨k, rfl⟩ : ∃ j, k = j + 1 := ⟨k - 1, by omega⟩
   show scansionref12_find.l0 (k + 1) _ _ _ = _
   have hk1 : scansionref01_SameInts.f k _ _ = _ := hK1 k (by omega)
   have hk2 : scansionref12_find.l0 k _ _ _ = _ := hK k (by omega)
   rw [scansionref12_find.l0, if_pos (by omega), if_pos (by omega), hg, hk1, Option.bind_some, decide_eq_false q, if_neg (by decide), show wrap64 ((i : Int) + 1) = ((i + 1 : Nat) : Int) by unfold wrap64; omega, hk2]
theorem find_f (sts : List (List Int)) (x : List Int) (hl : sts.length ≤ 1000000) (hr : ∀ l ∈ sts, l.length ≤ 1000000) : Evs (fun k => scansionref12_find.f k sts x) (if x ∈ sts then (sts.idxOf x : Int) else -1) := find_l0 sts x hl hr sts.length 0 (by omega) (by simp)
/-! ### building -/
theorem rowGo_ok {r : Bt} (hA : Auto r) {free : Bool} {lim : Int} {a : List Int} (ha : OkSt r a) : ∀ (ms : List Int) (sts : List (List Int)) (row : List Int) (t : List (List Int) × List Int), rowGo r free lim a ms sts row = some t → StsOk r lim sts → StsOk r lim t.1 ∧ sts.length ≤ t.1.length := by
 intro ms
 induction ms with
 | nil => intro sts row t h hs; rw [rowGo] at h; rw [← Option.some.inj h]; exact ⟨hs, Nat.le_refl _⟩
 | cons m ms ih =>
  intro sts row t h hs
  rw [rowGo] at h
  split at h
  ·cases h
  next q =>
   obtain ⟨h1, h2⟩ := ih _ _ _ h (metR_ok hs (xOf_ok hA ha free m) (by omega))
   exact ⟨h1, Nat.le_trans (metR_len sts (xOf r free a m)).1 h2⟩
section
variable {r : Bt} (hA : Auto r) (masks : List Int) (hm : masks.length ≤ 200) (hU : ∀ s ∈ masks, U64 s) (free : Bool) (lim : Int) (hlim : lim ≤ 5000)
include hA hm hU hlim
theorem rb_l1 (s : Nat) (next : List (List Int)) (fin : List Bool) (hn : next.length ≤ 5000) (hf : fin.length ≤ 5000) (a : List Int) (ha : OkSt r a) (res : Dt) : ∀ (n j : Nat) (sts : List (List Int)) (row : List Int), j + n = masks.length → row.length = j → StsOk r lim sts → s < sts.length → stR sts s = a →
  (rowGo r free lim a (masks.drop j) sts row = none → res = ([], [], 8)) → (∀ t, rowGo r free lim a (masks.drop j) sts row = some t → Evs (fun k => scansionref12_Build.l0 k masks free lim t.1 ((s + 1 : Nat) : Int) r.1 r.2.1 r.2.2.1 r.2.2.2.1 r.2.2.2.2.1 (next ++ [t.2]) (fin ++ [endR r.1 r.2.2.2.1 a])) res) →
  Evs (fun k => scansionref12_Build.l1 k masks free lim sts (s : Int) row (j : Int) r.1 r.2.1 r.2.2.1 r.2.2.2.1 r.2.2.2.2.1 next fin) res := by
 intro n
 induction n with
 | zero =>
  intro j sts row hj hrow hs hss hst _ h2
  rw [List.drop_eq_nil_of_le (by omega)] at h2
  obtain ⟨K, hK⟩ := h2 (sts, row) (by rw [rowGo])
  obtain ⟨K2, hK2⟩ := end_f r.1 r.2.1 r.2.2.1 r.2.2.2.1 r.2.2.2.2.1 a (by have := hA.last.len; have := hA.m; omega) (by have := ha.2; omega)
  have hss2 := hs.len
  refine ⟨K + K2 + 1, fun k hk => ?_⟩
  obtain ⟨k, rfl⟩ : ∃ j, k = j + 1 := ⟨k - 1, by omega⟩
  show scansionref12_Build.l1 (k + 1) _ _ _ _ _ _ _ _ _ _ _ _ _ _ = _
  have hk1 : scansionref12_Build.l0 k masks free lim sts ((s + 1 : Nat) : Int) _ _ _ _ _ (next ++ [row]) _ = _ := hK k (by omega)
  have hk2 : scansionref11_End.f k _ _ _ _ _ _ = _ := hK2 k (by omega)
  rw [scansionref12_Build.l1, if_neg (by omega), if_pos (by omega), if_pos (by omega), if_pos (by omega), show rd_L3 sts (s : Int) = a from hst, hk2, Option.bind_some, if_pos (by omega), show wrap64 ((s : Int) + 1) = ((s + 1 : Nat) : Int) by unfold wrap64; omega, hk1]
 | succ n ihn =>
  intro j sts row hj hrow hs hss hst h1 h2
  have hjl : j < masks.length := by omega
  have hss2 := hs.len
  obtain ⟨m, hmm⟩ : ∃ m, m = rd masks (j : Int) := ⟨_, rfl⟩
  have hmu : U64 m := hU m (by rw [hmm]; exact rd_mem hjl)
  rw [rd_drop hjl, ← hmm, rowGo] at h1 h2
  obtain ⟨K1, hK1⟩ := step_f r.1 r.2.1 r.2.2.1 r.2.2.2.1 r.2.2.2.2.1 a m (auto_ok hA ha.1 ha.2) hmu (fun l hl => by have h1 := (hA.fol l hl).len; have := hA.m; omega) (by have h1 := hA.first.len; have := hA.m; omega) (by have := hA.m; omega)
  -- behind the step
  have tail : Evs (fun k => scansionref12_Build.j3 k masks free lim sts (s : Int) row (j : Int) (xOf r free a m) r.1 r.2.1 r.2.2.1 r.2.2.2.1 r.2.2.2.2.1 next fin) res := by
   have hx := xOf_ok hA ha free m
   obtain ⟨K2, hK2⟩ := find_f sts (xOf r free a m) (by omega) (fun l hl => by have := (hs.good l hl).2; omega)
   have hms := metR_len sts (xOf r free a m)
   by_cases q : xOf r free a m ∈ sts
   ·have hmet : metR sts (xOf r free a m) = (sts.idxOf (xOf r free a m), sts) := by unfold metR; rw [if_pos q]
    rw [hmet, if_neg (show ¬ lim < (sts.length : Int) by omega)] at h1 h2
    obtain ⟨K, hK⟩ := ihn (j + 1) sts (row ++ [(sts.idxOf (xOf r free a m) : Int)]) (by omega) (by rw [List.length_append, hrow]; rfl) hs hss hst h1 h2
    refine ⟨K + K2 + 1, fun k hk => ?_⟩
    obtain ⟨k, rfl⟩ : ∃ j, k = j + 1 := ⟨k - 1, by omega⟩
    show scansionref12_Build.j3 (k + 1) _ _ _ _ _ _ _ _ _ _ _ _ _ _ _ = _
    have hk1 : scansionref12_Build.l1 k _ _ _ _ _ _ _ _ _ _ _ _ _ _ = _ := hK k (by omega)
    have hk2 : scansionref12_find.f k _ _ = _ := hK2 k (by omega)
    rw [if_pos q] at hk2
    rw [scansionref12_Build.j3, hk2, Option.bind_some, if_neg (by omega), if_neg (by omega), if_pos (by omega), show wrap64 ((j : Int) + 1) = ((j + 1 : Nat) : Int) by unfold wrap64; omega, hk1]
   ·have hmet : metR sts (xOf r free a m) = (sts.length, sts ++ [xOf r free a m]) := by unfold metR; rw [if_neg q]
    have hln : (sts ++ [xOf r free a m]).length = sts.length + 1 := by simp
    rw [hmet] at h1 h2
    by_cases q2 : lim < ((sts ++ [xOf r free a m]).length : Int)
    ·rw [if_pos q2] at h1
     rw [h1 rfl]
     refine ⟨K2 + 1, fun k hk => ?_⟩
     obtain ⟨k, rfl⟩ : ∃ j, k = j + 1 := ⟨k - 1, by omega⟩
     show scansionref12_Build.j3 (k + 1) _ _ _ _ _ _ _ _ _ _ _ _ _ _ _ = _
     have hk2 : scansionref12_find.f k _ _ = _ := hK2 k (by omega)
     rw [if_neg q] at hk2
     rw [scansionref12_Build.j3, hk2, Option.bind_some, if_pos (by decide), if_pos (by omega), Option.bind_some, if_pos q2]
    ·rw [if_neg q2] at h1 h2
     have hs2 : StsOk r lim (sts ++ [xOf r free a m]) := by
      have h := metR_ok hs hx (by rw [hmet]; show ((sts ++ [xOf r free a m]).length : Int) ≤ lim; omega)
      rw [hmet] at h
      exact h
     have hst2 : stR (sts ++ [xOf r free a m]) s = a := by rw [stR_snoc _ _ _ (by omega), if_pos hss]; exact hst
     obtain ⟨K, hK⟩ := ihn (j + 1) (sts ++ [xOf r free a m]) (row ++ [(sts.length : Int)]) (by omega) (by rw [List.length_append, hrow]; rfl) hs2 (by omega) hst2 h1 h2
     refine ⟨K + K2 + 1, fun k hk => ?_⟩
     obtain ⟨k, rfl⟩ : ∃ j, k = j + 1 := ⟨k - 1, by omega⟩
     show scansionref12_Build.j3 (k + 1) _ _ _ _ _ _ _ _ _ _ _ _ _ _ _ = _
     have hk1 : scansionref12_Build.l1 k _ _ _ _ _ _ _ _ _ _ _ _ _ _ = _ := hK k (by omega)
     have hk2 : scansionref12_find.f k _ _ = _ := hK2 k (by omega)
     rw [if_neg q] at hk2
     rw [scansionref12_Build.j3, hk2, Option.bind_some, if_pos (by decide), if_pos (by omega), Option.bind_some, if_neg (by omega), if_pos (by omega), show wrap64 ((j : Int) + 1) = ((j + 1 : Nat) : Int) by unfold wrap64; omega, hk1]
  obtain ⟨K3, hK3⟩ := tail
  refine ⟨K1 + K3 + 1, fun k hk => ?_⟩
  obtain ⟨k, rfl⟩ : ∃ j, k = j + 1 := ⟨k - 1, by omega⟩
  show scansionref12_Build.l1 (k + 1) _ _ _ _ _ _ _ _ _ _ _ _ _ _ = _
  have hk1 : scansionref11_Step.f k _ _ _ _ _ _ _ = _ := hK1 k (by omega)
  have hk3 : scansionref12_Build.j3 k _ _ _ _ _ _ _ _ _ _ _ _ _ _ _ = _ := hK3 k (by omega)
  have hg := (step_good hA (auto_ok hA ha.1 ha.2) m).len
  have hmx := hA.m
  rw [scansionref12_Build.l1, if_pos (by omega), if_pos (by omega), if_pos (by omega), if_pos (by omega), show rd_L3 sts (s : Int) = a from hst, ← hmm, hk1, Option.bind_some]
  cases free with
  | true =>
   rw [if_pos rfl, Option.bind_some, if_pos (by simp only [List.length_cons, List.length_nil]; omega)]
   exact hk3
  | false =>
   rw [if_neg (by decide)]
   exact hk3
theorem rb_l0 : ∀ (k s : Nat) (sts next : List (List Int)) (fin : List Bool), s ≤ sts.length → StsOk r lim sts → lim < (s + k : Nat) → next.length = s → fin.length = s →
  Evs (fun k => scansionref12_Build.l0 k masks free lim sts (s : Int) r.1 r.2.1 r.2.2.1 r.2.2.2.1 r.2.2.2.2.1 next fin) (goD r free lim masks k s sts next fin) := by
 intro k
 induction k with
 | zero => intro s sts next fin hs ho hl _ _; have := ho.len; omega
 | succ k ih =>
  intro s sts next fin hs ho hl hn hf
  have hol := ho.len
  rw [goD]
  by_cases q : s < sts.length
  ·rw [if_pos q]
   have ha : OkSt r (stR sts s) := ho.good _ (by unfold stR; rw [List.getD_eq_getElem?_getD, List.getElem?_eq_getElem q]; exact List.getElem_mem q)
   obtain ⟨K, hK⟩ := rb_l1 hA masks hm hU free lim hlim s next fin (by omega) (by omega) (stR sts s) ha (match rowGo r free lim (stR sts s) masks sts [] with
    | none => ([], [], 8)
    | some t => goD r free lim masks k (s + 1) t.1 (next ++ [t.2]) (fin ++ [endR r.1 r.2.2.2.1 (stR sts s)])) masks.length 0 sts [] (by omega) rfl ho q rfl
    (fun h => by rw [List.drop_zero] at h; rw [h])
    (fun t h => by
     rw [List.drop_zero] at h
     obtain ⟨h1, h2⟩ := rowGo_ok hA ha _ _ _ _ h ho
     rw [h]
     exact ih (s + 1) t.1 _ _ (by omega) h1 (by omega) (by rw [List.length_append, hn]; rfl) (by rw [List.length_append, hf]; rfl))
   refine ⟨K + 1, fun k hk => ?_⟩
   obtain ⟨k, rfl⟩ : ∃ j, k = j + 1 := ⟨k - 1, by omega⟩
   show scansionref12_Build.l0 (k + 1) _ _ _ _ _ _ _ _ _ _ _ _ = _
   have hk1 : scansionref12_Build.l1 k masks free lim sts (s : Int) [] 0 _ _ _ _ _ _ _ = _ := hK k (by omega)
   rw [scansionref12_Build.l0, if_pos (by omega), hk1]
   cases rowGo r free lim (stR sts s) masks sts [] <;> rfl
  ·rw [if_neg q]
   refine ⟨1, fun k hk => ?_⟩
   obtain ⟨k, rfl⟩ : ∃ j, k = j + 1 := ⟨k - 1, by omega⟩
   show scansionref12_Build.l0 (k + 1) _ _ _ _ _ _ _ _ _ _ _ _ = _
   rw [scansionref12_Build.l0, if_neg (by omega)]
end
theorem refbuild_f {r : Bt} (hA : Auto r) (masks : List Int) (hU : ∀ s ∈ masks, U64 s) (free : Bool) (lim : Int) : Evs (fun k => scansionref12_Build.f k r.1 r.2.1 r.2.2.1 r.2.2.2.1 r.2.2.2.2.1 masks free lim) (subsetR r masks free lim) := by
 have odd : ∀ k, scansionref12_Build.j0 (k + 1) masks free lim true r.1 r.2.1 r.2.2.1 r.2.2.2.1 r.2.2.2.2.1 = some ([], [], 1) := fun k => by rw [scansionref12_Build.j0, if_pos rfl]
 unfold subsetR
 by_cases q : masks.length < 1 ∨ 200 < masks.length ∨ lim < 1 ∨ 5000 < lim
 ·rw [if_pos q]
  refine ⟨1, fun k hk => ?_⟩
  obtain ⟨k, rfl⟩ : ∃ j, k = j + 1 := ⟨k - 1, by omega⟩
  show scansionref12_Build.f (k + 1) _ _ _ _ _ _ _ _ = _
  unfold scansionref12_Build.f
  by_cases q1 : (masks.length : Int) < 1
  ·rw [if_pos q1]; exact odd k
  by_cases q2 : (masks.length : Int) > 200
  ·rw [if_neg q1, if_pos q2]; exact odd k
  by_cases q3 : lim < 1
  ·rw [if_neg q1, if_neg q2, if_pos q3]; exact odd k
  ·rw [if_neg q1, if_neg q2, if_neg q3, decide_eq_true (by omega)]; exact odd k
 ·rw [if_neg q]
  have h0 : OkSt r [0] := ⟨fun t ht => by rw [List.mem_singleton.1 ht]; omega, by show [(0 : Int)].length ≤ 301; decide⟩
  obtain ⟨K, hK⟩ := rb_l0 hA masks (by omega) hU free lim (by omega) (lim.toNat + 1) 0 [[0]] [] [] (by simp) ⟨by simp, by simp; omega, fun l hl => by rw [List.mem_singleton.1 hl]; exact h0⟩ (by omega) rfl rfl
  refine ⟨K + 1, fun k hk => ?_⟩
  obtain ⟨k, rfl⟩ : ∃ j, k = j + 1 := ⟨k - 1, by omega⟩
  show scansionref12_Build.f (k + 1) _ _ _ _ _ _ _ _ = _
  have hk1 : scansionref12_Build.l0 k masks free lim [[0]] 0 _ _ _ _ _ [] [] = _ := hK k (by omega)
  unfold scansionref12_Build.f
  rw [if_neg (by omega), if_neg (by omega), if_neg (by omega), decide_eq_false (by omega), scansionref12_Build.j0, if_neg (by decide), hk1]
/-! ### the same states -/
theorem same12_f (N : List (List Int)) (F : List Bool) (hN : N.length ≤ 1000000) (hF : F.length ≤ 1000000) (hr : ∀ q ∈ N, q.length ≤ 1000000) : Evs (fun k => scansionref12_Same.f k N F N F) true := by
 have k1 : ∀ (n i : Nat), i + n = F.length → Evs (fun k => scansionref12_Same.l1 k (i : Int) N F N F) true := by
  intro n
  induction n with
  | zero =>
   intro i hi
   refine ⟨1, fun k hk => ?_⟩
   obtain ⟨k, rfl⟩ : ∃ j, k = j + 1 := ⟨k - 1, by omega⟩
   show scansionref12_Same.l1 (k + 1) _ _ _ _ _ = _
   rw [scansionref12_Same.l1, if_neg (by omega)]
  | succ n ihn =>
   intro i hi
   obtain ⟨K, hK⟩ := ihn (i + 1) (by omega)
   refine ⟨K + 1, fun k hk => ?_⟩
   obtain ⟨k, rfl⟩ : ∃ j, k = j + 1 := ⟨k - 1, by omega⟩
   show scansionref12_Same.l1 (k + 1) _ _ _ _ _ = _
   have hk1 : scansionref12_Same.l1 k _ _ _ _ _ = _ := hK k (by omega)
   rw [scansionref12_Same.l1, if_pos (by omega), if_pos (by omega), if_pos (by omega), if_neg (by simp), show wrap64 ((i : Int) + 1) = ((i + 1 : Nat) : Int) by unfold wrap64; omega, hk1]
 have k0 : ∀ (n i : Nat), i + n = N.length → Evs (fun k => scansionref12_Same.l0 k (i : Int) N F N F) true := by
  intro n
  induction n with
  | zero =>
   intro i hi
   obtain ⟨K, hK⟩ := k1 F.length 0 (by omega)
   refine ⟨K + 1, fun k hk => ?_⟩
   obtain ⟨k, rfl⟩ : ∃ j, k = j + 1 := ⟨k - 1, by omega⟩
   show scansionref12_Same.l0 (k + 1) _ _ _ _ _ = _
   have hk1 : scansionref12_Same.l1 k 0 _ _ _ _ = _ := hK k (by omega)
   rw [scansionref12_Same.l0, if_neg (by omega), hk1]
  | succ n ihn =>
   intro i hi
   obtain ⟨K, hK⟩ := ihn (i + 1) (by omega)
   have hil : i < N.length := by omega
   obtain ⟨K2, hK2⟩ := sameInts_f N[i] (hr _ (List.getElem_mem hil))
   refine ⟨K + K2 + 1, fun k hk => ?_⟩
   obtain ⟨k, rfl⟩ : ∃ j, k = j + 1 := ⟨k - 1, by omega⟩
   show scansionref12_Same.l0 (k + 1) _ _ _ _ _ = _
   have hk1 : scansionref12_Same.l0 k _ _ _ _ _ = _ := hK k (by omega)
   have hk2 : scansionref01_SameInts.f k _ _ = _ := hK2 k (by omega)
   rw [scansionref12_Same.l0, if_pos (by omega), if_pos (by omega), if_pos (by omega), rdL3_get hil, hk2, Option.bind_some, if_pos rfl, show wrap64 ((i : Int) + 1) = ((i + 1 : Nat) : Int) by unfold wrap64; omega, hk1]
 obtain ⟨K, hK⟩ := k0 N.length 0 (by omega)
 refine ⟨K + 1, fun k hk => ?_⟩
 obtain ⟨k, rfl⟩ : ∃ j, k = j + 1 := ⟨k - 1, by omega⟩
 show scansionref12_Same.f (k + 1) _ _ _ _ = _
 have hk1 : scansionref12_Same.l0 k 0 _ _ _ _ = _ := hK k (by omega)
 unfold scansionref12_Same.f
 rw [if_pos rfl, bne_self_eq_false, scansionref12_Same.j0, if_neg (by decide), hk1]
end Go.Proofs.Ytemlgmkbonpniaa.Print
