/- scansionref11.places: how many places, but no more than most. And the node's contract, for all nodes. -/
import Derived.Test.YtemlgmkbonpniaaRAltM
import Derived.Test.YtemlgmkbonpniaaPrint20
namespace Go.Proofs.Ytemlgmkbonpniaa.Print
open Go.RowKit Go.Maps Go.Proofs.YtemlgmkbonpniaaW.PrintWords Go.Proofs.YtemlgmkbonpniaaW.PrintLast Go.Proofs.YtemlgmkbonpniaaW.PrintMore
set_option linter.unusedVariables false
set_option linter.unusedSimpArgs false
theorem node_ok (w0 : World) (MB : Nat) : ∀ x, rightN x = true → NodeOK w0 MB x := by
 refine node_ind (P := fun x => rightN x = true → NodeOK w0 MB x) (fun x ih hr => ?_)
 obtain ⟨k, s, kids⟩ := x
 replace ih : ∀ y ∈ kids, rightN y = true → NodeOK w0 MB y := ih
 rw [rightN] at hr
 by_cases q1 : k = 1
 ·subst q1; exact node_leaf s kids
 rw [if_neg q1] at hr
 by_cases q0 : k = 0
 ·subst q0
  rw [if_pos rfl] at hr
  exact node_cat s kids (fun y hy => ih y hy (rightL_mem hr y hy))
 rw [if_neg q0] at hr
 by_cases q2 : k = 2
 ·subst q2
  rw [if_pos rfl, Bool.and_eq_true] at hr
  exact node_alt s kids (fun y hy => ih y hy (rightL_mem hr.2 y hy))
 rw [if_neg q2] at hr
 by_cases q3 : k = 3 ∨ k = 4 ∨ k = 5
 ·rw [if_pos q3, Bool.and_eq_true] at hr
  have h1 := of_decide_eq_true hr.1
  rcases q3 with rfl | rfl | rfl
  ·exact node_sign3 s kids (fun y hy => ih y hy (rightL_mem hr.2 y hy)) h1
  ·exact node_sign4 s kids (fun y hy => ih y hy (rightL_mem hr.2 y hy)) h1
  ·exact node_sign5 s kids (fun y hy => ih y hy (rightL_mem hr.2 y hy)) h1
 ·rw [if_neg q3] at hr; cases hr
/-- With enough rounds. -/
def Evs {α : Type} (g : Nat → Option α) (r : α) : Prop := ∃ K, ∀ k, K ≤ k → g k = some r
theorem places_l0 (kids : List S24) (ih : ∀ y ∈ kids, ∀ m : Nat, 1 ≤ m → m ≤ 1000 → Evs (fun k => scansionref11_places.f k y.f0 y.f1 y.f2 (m : Int)) ((min (cnt y) m : Nat) : Int)) (hl : kids.length ≤ 9223372036854775807) (a b : Int) (m : Nat) (h1 : 1 ≤ m) (h2 : m ≤ 1000) :
  ∀ (n i c : Nat), i + n = kids.length → c ≤ m → Evs (fun k => scansionref11_places.l0 k (m : Int) (c : Int) (i : Int) a b kids) ((min (c + cntL (kids.drop i)) m : Nat) : Int) := by
 intro n
 induction n with
 | zero =>
  intro i c hi hc
  refine ⟨1, fun k hk => ?_⟩
  obtain ⟨k, rfl⟩ : ∃ j, k = j + 1 := ⟨k - 1, by omega⟩
  show scansionref11_places.l0 (k + 1) _ _ _ _ _ _ = _
  rw [scansionref11_places.l0, if_neg (by omega), List.drop_eq_nil_of_le (by omega), cntL, Nat.add_zero, Nat.min_eq_left hc]
 | succ n ihn =>
  intro i c hi hc
  have hil : i < kids.length := by omega
  by_cases q : c = m
  ·refine ⟨1, fun k hk => ?_⟩
   obtain ⟨k, rfl⟩ : ∃ j, k = j + 1 := ⟨k - 1, by omega⟩
   show scansionref11_places.l0 (k + 1) _ _ _ _ _ _ = _
   rw [scansionref11_places.l0, if_pos (by omega), if_neg (by omega), Nat.min_eq_right (by omega), q]
  ·obtain ⟨K1, hK1⟩ := ih kids[i] (List.getElem_mem hil) (m - c) (by omega) (by omega)
   obtain ⟨p, hp⟩ : ∃ p, p = min (cnt kids[i]) (m - c) := ⟨_, rfl⟩
   have hpm : p ≤ m - c := by rw [hp]; exact Nat.min_le_right _ _
   rw [← hp] at hK1
   obtain ⟨K2, hK2⟩ := ihn (i + 1) (c + p) (by omega) (by omega)
   refine ⟨K1 + K2 + 1, fun k hk => ?_⟩
   obtain ⟨k, rfl⟩ : ∃ j, k = j + 1 := ⟨k - 1, by omega⟩
   show scansionref11_places.l0 (k + 1) _ _ _ _ _ _ = _
   have g1 : (i : Int) < (kids.length : Int) := by omega
   have g2 : (c : Int) < (m : Int) := by omega
   have g3 : 0 ≤ (i : Int) := by omega
   have hk1 : scansionref11_places.f k kids[i].f0 kids[i].f1 kids[i].f2 ((m - c : Nat) : Int) = _ := hK1 k (by omega)
   have hk2 : scansionref11_places.l0 k _ _ _ _ _ _ = _ := hK2 k (by omega)
   have e1 : wrap64 ((m : Int) - (c : Int)) = ((m - c : Nat) : Int) := by unfold wrap64; omega
   have e2 : wrap64 ((c : Int) + (p : Int)) = ((c + p : Nat) : Int) := by clear e1; unfold wrap64; omega
   have e3 : wrap64 ((i : Int) + 1) = ((i + 1 : Nat) : Int) := by clear e1 e2; unfold wrap64; omega
   rw [scansionref11_places.l0, if_pos g1, if_pos g2, if_pos g3, rd_get hil, e1, hk1]
   show scansionref11_places.l0 k _ _ _ _ _ _ = _
   rw [e2, e3, hk2, List.drop_eq_getElem_cons hil, cntL]
   congr 2
   have h5 : (p = cnt kids[i] ∧ p ≤ m - c) ∨ (p = m - c ∧ p ≤ cnt kids[i]) := by rw [hp]; rcases Nat.le_total (cnt kids[i]) (m - c) with h | h <;> simp [h]
   clear hp hk1 hk2 hK1 hK2 e1 e2 e3
   generalize cnt kids[i] = u at *
   generalize cntL (List.drop (i + 1) kids) = v at *
   omega
/-- No row of the node's is longer than an int. -/
inductive Lens : S24 → Prop
 | mk (x : S24) (h : x.f2.length ≤ 9223372036854775807) (hk : ∀ y ∈ x.f2, Lens y) : Lens x
theorem lens_of : ∀ (x : S24) {w : World} {A : Option Addr}, Kd.C k24 w A x.f2.length x.f2 → Lens x := by
 refine node_ind (P := fun x => ∀ {w : World} {A : Option Addr}, Kd.C k24 w A x.f2.length x.f2 → Lens x) (fun x ih w A h => ?_)
 refine .mk x h.2.1 (fun y hy => ?_)
 obtain ⟨i, hi, rfl⟩ := List.mem_iff_getElem.1 hy
 obtain ⟨_, A2, _, _, _, _, _, _, hg⟩ := at_T24 h (i : Int) (by omega) (by omega)
 rw [rd_get hi] at hg
 exact ih _ hy hg
theorem places_f : ∀ (x : S24), Lens x → ∀ m : Nat, 1 ≤ m → m ≤ 1000 → Evs (fun k => scansionref11_places.f k x.f0 x.f1 x.f2 (m : Int)) ((min (cnt x) m : Nat) : Int) := by
 refine node_ind (P := fun x => Lens x → ∀ m : Nat, 1 ≤ m → m ≤ 1000 → Evs (fun k => scansionref11_places.f k x.f0 x.f1 x.f2 (m : Int)) ((min (cnt x) m : Nat) : Int)) (fun x ih hz m h1 h2 => ?_)
 obtain ⟨_, hzl, hzk⟩ := hz
 obtain ⟨a, b, kids⟩ := x
 by_cases q : a = 1
 ·refine ⟨1, fun k hk => ?_⟩
  obtain ⟨k, rfl⟩ : ∃ j, k = j + 1 := ⟨k - 1, by omega⟩
  show scansionref11_places.f (k + 1) a b kids _ = _
  rw [scansionref11_places.f, if_pos q, cnt, if_pos q, Nat.min_eq_left h1]
  rfl
 ·obtain ⟨K, hK⟩ := places_l0 kids (fun y hy m' a1 a2 => ih y hy (hzk y hy) m' a1 a2) hzl a b m h1 h2 kids.length 0 0 (by omega) (by omega)
  refine ⟨K + 1, fun k hk => ?_⟩
  obtain ⟨k, rfl⟩ : ∃ j, k = j + 1 := ⟨k - 1, by omega⟩
  show scansionref11_places.f (k + 1) a b kids _ = _
  rw [scansionref11_places.f, if_neg q, cnt, if_neg q]
  have := hK k (by omega)
  rw [List.drop_zero, Nat.zero_add] at this
  exact this
end Go.Proofs.Ytemlgmkbonpniaa.Print
