/- Plain laws of chapter 12: running through classes. -/
import Derived.Test.YtemlgmkbonpniaaSLawMM
import Derived.Test.YtemlgmkbonpniaaFLawA
import Derived.Test.YtemlgmkbonpniaaPrint54
import Derived.Test.YtemlgmkbonpniaaPrint53
namespace Go.Proofs.Ytemlgmkbonpniaa.Print
open Go.RowKit Go.Maps Go.Proofs.YtemlgmkbonpniaaW.PrintWords Go.Proofs.YtemlgmkbonpniaaW.PrintLast Go.Proofs.YtemlgmkbonpniaaW.PrintMore
set_option linter.unusedVariables false
set_option linter.unusedSimpArgs false
def runGo (nx : List (List Int)) : Int → List Int → Int × Int
 | a, [] => (a, 0)
 | a, c :: cl => if c < 0 ∨ ((rd_L3 nx 0).length : Int) ≤ c then (0, 1) else runGo nx (rd (rd_L3 nx a) c) cl
def runD (nx : List (List Int)) (fin : List Bool) (a : Int) (cl : List Int) : Int × Int := if rightD nx fin = false ∨ a < 0 ∨ (nx.length : Int) ≤ a then (0, 1) else runGo nx a cl
theorem run_l0 {nx : List (List Int)} {fin : List Bool} (h : RightP nx fin) (cl : List Int) (hl : cl.length ≤ 1000000) : ∀ (n i : Nat) (a : Int), i + n = cl.length → 0 ≤ a → a < (nx.length : Int) → Evs (fun k => subset_Run.l0 k a cl (cl.length : Int) (i : Int) nx fin) (runGo nx a (cl.drop i)) := by
 intro n
 induction n with
 | zero =>
  intro i a hi h0 h1
  refine ⟨1, fun k hk => ?_⟩
  obtain ⟨k, rfl⟩ : ∃ j, k = j + 1 := ⟨k - 1, by omega⟩
  show subset_Run.l0 (k + 1) _ _ _ _ _ _ = _
  rw [subset_Run.l0, if_neg (by omega), List.drop_eq_nil_of_le (by omega), runGo]
 | succ n ihn =>
  intro i a hi h0 h1
  have hil : i < cl.length := by omega
  obtain ⟨c, hc⟩ : ∃ c, c = rd cl (i : Int) := ⟨_, rfl⟩
  rw [drop_rd hil, ← hc, runGo]
  by_cases q : c < 0
  ·refine ⟨1, fun k hk => ?_⟩
   obtain ⟨k, rfl⟩ : ∃ j, k = j + 1 := ⟨k - 1, by omega⟩
   show subset_Run.l0 (k + 1) _ _ _ _ _ _ = _
   rw [subset_Run.l0, if_pos (by omega), if_pos (by omega), if_pos (by omega), ← hc, if_pos q, if_pos (.inl q)]
  ·have hn := h.n1
   by_cases q2 : ((rd_L3 nx 0).length : Int) ≤ c
   ·refine ⟨1, fun k hk => ?_⟩
    obtain ⟨k, rfl⟩ : ∃ j, k = j + 1 := ⟨k - 1, by omega⟩
    show subset_Run.l0 (k + 1) _ _ _ _ _ _ = _
    rw [subset_Run.l0, if_pos (by omega), if_pos (by omega), if_pos (by omega), ← hc, if_neg q, if_pos (by omega), if_pos q2, if_pos (.inr q2)]
   ·obtain ⟨e1, e2, e3⟩ := h.next h0 h1 (show 0 ≤ c by omega) (show c < ((rd_L3 nx 0).length : Int) by omega)
    obtain ⟨K, hK⟩ := ihn (i + 1) (rd (rd_L3 nx a) c) (by omega) e2 e3
    refine ⟨K + 1, fun k hk => ?_⟩
    obtain ⟨k, rfl⟩ : ∃ j, k = j + 1 := ⟨k - 1, by omega⟩
    show subset_Run.l0 (k + 1) _ _ _ _ _ _ = _
    have hk1 : subset_Run.l0 k _ _ _ _ _ _ = _ := hK k (by omega)
    rw [subset_Run.l0, if_pos (by omega), if_pos (by omega), if_pos (by omega), ← hc, if_neg q, if_pos (by omega), if_neg q2, if_pos h0, if_pos h1, if_pos (by omega), if_pos e1, show wrap64 ((i : Int) + 1) = ((i + 1 : Nat) : Int) by unfold wrap64; omega, hk1, if_neg (by omega)]
theorem run_f (nx : List (List Int)) (fin : List Bool) (a : Int) (cl : List Int) (hl : cl.length ≤ 1000000) : Evs (fun k => subset_Run.f k nx fin a cl) (runD nx fin a cl) := by
 have bad : ∀ b, b = true → ∀ k, subset_Run.j0 (k + 1) a cl b nx fin = some (0, 1) := fun b hb k => by rw [subset_Run.j0, if_pos hb]
 unfold runD
 by_cases q : rightD nx fin = true
 ·have h := (rightD_iff nx fin).1 q
  by_cases q1 : a < 0
  ·refine ⟨1, fun k hk => ?_⟩
   obtain ⟨k, rfl⟩ : ∃ j, k = j + 1 := ⟨k - 1, by omega⟩
   show subset_Run.f (k + 1) _ _ _ _ = _
   unfold subset_Run.f subset_Right.f
   rw [Option.bind_some, if_pos q, if_pos q1, bad _ rfl, if_pos (.inr (.inl q1))]
  ·by_cases q2 : (nx.length : Int) ≤ a
   ·refine ⟨1, fun k hk => ?_⟩
    obtain ⟨k, rfl⟩ : ∃ j, k = j + 1 := ⟨k - 1, by omega⟩
    show subset_Run.f (k + 1) _ _ _ _ = _
    unfold subset_Run.f subset_Right.f
    rw [Option.bind_some, if_pos q, if_neg q1, bad _ (decide_eq_true q2), if_pos (.inr (.inr q2))]
   ·obtain ⟨K, hK⟩ := run_l0 h cl hl cl.length 0 a (by omega) (by omega) (by omega)
    refine ⟨K + 1, fun k hk => ?_⟩
    obtain ⟨k, rfl⟩ : ∃ j, k = j + 1 := ⟨k - 1, by omega⟩
    show subset_Run.f (k + 1) _ _ _ _ = _
    have hk1 : subset_Run.l0 k a cl (cl.length : Int) 0 nx fin = _ := hK k (by omega)
    unfold subset_Run.f subset_Right.f
    rw [Option.bind_some, if_pos q, if_neg q1, decide_eq_false (by omega), subset_Run.j0, if_neg (by decide), hk1, if_neg (by rintro (h | h | h); rw [q] at h; cases h; exact q1 h; exact q2 h)]
    rfl
 ·refine ⟨1, fun k hk => ?_⟩
  obtain ⟨k, rfl⟩ : ∃ j, k = j + 1 := ⟨k - 1, by omega⟩
  show subset_Run.f (k + 1) _ _ _ _ = _
  unfold subset_Run.f subset_Right.f
  rw [Option.bind_some, if_neg q, bad _ rfl, if_pos (.inl (by revert q; cases rightD nx fin <;> simp))]
/-! ### a test's states are few -/
theorem few12_f (nx : List (List Int)) (fin : List Bool) (hn : nx.length ≤ 9223372036854775807) : ∃ b, Evs (fun k => scansionref12_Few.f k nx fin 60) b ∧ (b = true → nx.length ≤ 60 ∧ fin.length ≤ 60) := by
 by_cases q : (nx.length : Int) > 60
 ·refine ⟨false, ⟨1, fun k hk => ?_⟩, fun h => by cases h⟩
  obtain ⟨k, rfl⟩ : ∃ j, k = j + 1 := ⟨k - 1, by omega⟩
  show scansionref12_Few.f (k + 1) _ _ _ = _
  unfold scansionref12_Few.f
  rw [if_pos q, scansionref12_Few.j0, if_pos rfl]
 by_cases q2 : (fin.length : Int) > 60
 ·refine ⟨false, ⟨1, fun k hk => ?_⟩, fun h => by cases h⟩
  obtain ⟨k, rfl⟩ : ∃ j, k = j + 1 := ⟨k - 1, by omega⟩
  show scansionref12_Few.f (k + 1) _ _ _ = _
  unfold scansionref12_Few.f
  rw [if_neg q, decide_eq_true q2, scansionref12_Few.j0, if_pos rfl]
 have key : ∀ (n i : Nat), i + n = nx.length → ∃ b, Evs (fun k => scansionref12_Few.l0 k 60 (i : Int) nx fin) b := by
  intro n
  induction n with
  | zero =>
   intro i hi
   refine ⟨true, 1, fun k hk => ?_⟩
   obtain ⟨k, rfl⟩ : ∃ j, k = j + 1 := ⟨k - 1, by omega⟩
   show scansionref12_Few.l0 (k + 1) _ _ _ _ = _
   rw [scansionref12_Few.l0, if_neg (by omega)]
  | succ n ihn =>
   intro i hi
   by_cases q3 : ((rd_L3 nx (i : Int)).length : Int) > 60
   ·refine ⟨false, 1, fun k hk => ?_⟩
    obtain ⟨k, rfl⟩ : ∃ j, k = j + 1 := ⟨k - 1, by omega⟩
    show scansionref12_Few.l0 (k + 1) _ _ _ _ = _
    rw [scansionref12_Few.l0, if_pos (by omega), if_pos (by omega), if_pos q3]
   ·obtain ⟨b, K, hK⟩ := ihn (i + 1) (by omega)
    refine ⟨b, K + 1, fun k hk => ?_⟩
    obtain ⟨k, rfl⟩ : ∃ j, k = j + 1 := ⟨k - 1, by omega⟩
    show scansionref12_Few.l0 (k + 1) _ _ _ _ = _
    have hk1 : scansionref12_Few.l0 k _ _ _ _ = _ := hK k (by omega)
    rw [scansionref12_Few.l0, if_pos (by omega), if_pos (by omega), if_neg q3, show wrap64 ((i : Int) + 1) = ((i + 1 : Nat) : Int) by unfold wrap64; omega, hk1]
 obtain ⟨b, K, hK⟩ := key nx.length 0 (by omega)
 refine ⟨b, ⟨K + 1, fun k hk => ?_⟩, fun _ => by omega⟩
 obtain ⟨k, rfl⟩ : ∃ j, k = j + 1 := ⟨k - 1, by omega⟩
 show scansionref12_Few.f (k + 1) _ _ _ = _
 have hk1 : scansionref12_Few.l0 k 60 0 nx fin = _ := hK k (by omega)
 unfold scansionref12_Few.f
 rw [if_neg q, decide_eq_false q2, scansionref12_Few.j0, if_neg (by decide), hk1]
/-! ### one run behind another -/
theorem runGo_append (nx : List (List Int)) : ∀ (x y : List Int) (a : Int), runGo nx a (x ++ y) = if (runGo nx a x).2 = 0 then runGo nx (runGo nx a x).1 y else (0, 1) := by
 intro x
 induction x with
 | nil => intro y a; rw [List.nil_append, runGo]; rfl
 | cons c x ih =>
  intro y a
  rw [List.cons_append, runGo, runGo]
  split
  ·rfl
  ·exact ih y _
theorem runGo_in {nx : List (List Int)} {fin : List Bool} (h : RightP nx fin) : ∀ (x : List Int) (a : Int), 0 ≤ a → a < (nx.length : Int) → 0 ≤ (runGo nx a x).1 ∧ (runGo nx a x).1 < (nx.length : Int) := by
 intro x
 induction x with
 | nil => intro a h0 h1; exact ⟨h0, h1⟩
 | cons c x ih =>
  intro a h0 h1
  rw [runGo]
  split
  ·have := h.n1; exact ⟨Int.le_refl _, by show (0 : Int) < _; omega⟩
  next q =>
   obtain ⟨_, e2, e3⟩ := h.next (c := c) h0 h1 (by omega) (by omega)
   exact ih _ e2 e3
end Go.Proofs.Ytemlgmkbonpniaa.Print
