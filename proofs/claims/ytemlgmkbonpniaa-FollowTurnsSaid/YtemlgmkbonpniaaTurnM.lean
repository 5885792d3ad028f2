/- The places of the turned expression. · What comes first in the turned expression came last. · The walk of scansionlaw11.FollowTurns. -/
import Derived.Test.YtemlgmkbonpniaaSem
import Derived.Test.YtemlgmkbonpniaaRBuild
import Derived.Test.YtemlgmkbonpniaaFAwakeM
import Derived.Test.YtemlgmkbonpniaaPrint26
import Derived.Test.YtemlgmkbonpniaaPrint31
namespace Go.Proofs.Ytemlgmkbonpniaa.Print
open Go.RowKit Go.Maps Go.Proofs.YtemlgmkbonpniaaW.PrintWords Go.Proofs.YtemlgmkbonpniaaW.PrintLast Go.Proofs.YtemlgmkbonpniaaW.PrintMore
set_option linter.unusedVariables false
set_option linter.unusedSimpArgs false
mutual
def turnN : S24 → S24
 | ⟨k, s, kids⟩ => ⟨k, s, if k = 0 then (turnL kids).reverse else turnL kids⟩
def turnL : List S24 → List S24
 | [] => []
 | x :: l => turnN x :: turnL l
end
mutual
/-- Where a place stands in the turned expression. -/
def mirP : S24 → Int → Int → Int
 | ⟨k, _, kids⟩, o, p => if k = 1 then p else if k = 0 then mirC kids o p else mirA kids o p
def mirC : List S24 → Int → Int → Int
 | [], _, p => p
 | x :: l, o, p => if p ≤ o + cnt x then mirP x o p + cntL l else mirC l (o + cnt x) p - cnt x
def mirA : List S24 → Int → Int → Int
 | [], _, p => p
 | x :: l, o, p => if p ≤ o + cnt x then mirP x o p else mirA l (o + cnt x) p
end
theorem turnL_map (l : List S24) : turnL l = l.map turnN := by
 induction l with
 | nil => rw [turnL]; rfl
 | cons x l ih => rw [turnL, ih]; rfl
theorem cntL_sum (l : List S24) : cntL l = (l.map cnt).sum := by
 induction l with
 | nil => rw [cntL]; rfl
 | cons x l ih => rw [cntL, ih]; rfl
theorem cnt_turn : ∀ x, cnt (turnN x) = cnt x := by
 refine node_ind (P := fun x => cnt (turnN x) = cnt x) (fun x ih => ?_)
 obtain ⟨k, s, kids⟩ := x
 have h : cntL (turnL kids) = cntL kids := by
  rw [cntL_sum, cntL_sum, turnL_map, List.map_map]
  congr 1
  exact List.map_congr_left (fun y hy => ih y hy)
 rw [turnN, cnt, cnt]
 by_cases q : k = 1
 ·rw [if_pos q, if_pos q]
 ·rw [if_neg q, if_neg q]
  by_cases q0 : k = 0
  ·rw [if_pos q0, cntL_sum, List.map_reverse, List.sum_reverse, ← cntL_sum, h]
  ·rw [if_neg q0, h]
theorem cntL_turn (l : List S24) : cntL (turnL l) = cntL l := by
 rw [cntL_sum, cntL_sum, turnL_map, List.map_map]
 congr 1
 exact List.map_congr_left (fun y _ => cnt_turn y)
theorem cntL_rev (l : List S24) : cntL l.reverse = cntL l := by rw [cntL_sum, cntL_sum, List.map_reverse, List.sum_reverse]
theorem rightL_all (l : List S24) : rightL l = l.all rightN := by
 induction l with
 | nil => rw [rightL]; rfl
 | cons x l ih => rw [rightL, ih]; rfl
theorem right_turn : ∀ x, rightN (turnN x) = rightN x := by
 refine node_ind (P := fun x => rightN (turnN x) = rightN x) (fun x ih => ?_)
 obtain ⟨k, s, kids⟩ := x
 have h : rightL (turnL kids) = rightL kids := by
  rw [rightL_all, rightL_all, turnL_map, List.all_map]
  rw [Bool.eq_iff_iff, List.all_eq_true, List.all_eq_true]
  exact ⟨fun g y hy => by have := g y hy; rw [Function.comp, ih y hy] at this; exact this, fun g y hy => by rw [Function.comp, ih y hy]; exact g y hy⟩
 have hl : (turnL kids).length = kids.length := by rw [turnL_map, List.length_map]
 have he : (turnL kids).isEmpty = kids.isEmpty := by rw [turnL_map]; cases kids <;> rfl
 rw [turnN, rightN, rightN]
 by_cases q0 : k = 0
 ·subst q0
  rw [if_pos rfl, if_neg (by decide), if_pos rfl, if_neg (by decide), if_pos rfl, rightL_all, List.all_reverse, ← rightL_all, h]
 ·rw [if_neg q0, h, hl, he]
theorem epsC_all (l : List S24) : epsC l = l.all eps := by
 induction l with
 | nil => rw [epsC]; rfl
 | cons x l ih => rw [epsC, ih]; rfl
theorem epsA_any (l : List S24) : epsA l = l.any eps := by
 induction l with
 | nil => rw [epsA]; rfl
 | cons x l ih => rw [epsA, ih]; rfl
theorem eps_turn : ∀ x, eps (turnN x) = eps x := by
 refine node_ind (P := fun x => eps (turnN x) = eps x) (fun x ih => ?_)
 obtain ⟨k, s, kids⟩ := x
 have hC : epsC (turnL kids) = epsC kids := by
  rw [epsC_all, epsC_all, turnL_map, List.all_map, Bool.eq_iff_iff, List.all_eq_true, List.all_eq_true]
  exact ⟨fun g y hy => by have := g y hy; rw [Function.comp, ih y hy] at this; exact this, fun g y hy => by rw [Function.comp, ih y hy]; exact g y hy⟩
 have hA : epsA (turnL kids) = epsA kids := by
  rw [epsA_any, epsA_any, turnL_map, List.any_map, Bool.eq_iff_iff, List.any_eq_true, List.any_eq_true]
  exact ⟨fun ⟨y, hy, g⟩ => ⟨y, hy, by rw [Function.comp, ih y hy] at g; exact g⟩, fun ⟨y, hy, g⟩ => ⟨y, hy, by rw [Function.comp, ih y hy]; exact g⟩⟩
 have h1 : eps1 (turnL kids) = eps1 kids := by
  cases kids with
  | nil => rw [turnL]
  | cons y l => rw [turnL, eps1, eps1, ih y List.mem_cons_self]
 rw [turnN, eps, eps]
 by_cases q1 : k = 1
 ·rw [if_pos q1, if_pos q1]
 rw [if_neg q1, if_neg q1]
 by_cases q0 : k = 0
 ·rw [if_pos q0, if_pos q0, if_pos q0, epsC_all, List.all_reverse, ← epsC_all, hC]
 rw [if_neg q0, if_neg q0, if_neg q0]
 by_cases q2 : k = 2
 ·rw [if_pos q2, if_pos q2, hA]
 ·rw [if_neg q2, if_neg q2, h1]
theorem epsC_turn (l : List S24) : epsC (turnL l) = epsC l := by
 rw [epsC_all, epsC_all, turnL_map, List.all_map, Bool.eq_iff_iff, List.all_eq_true, List.all_eq_true]
 exact ⟨fun g y hy => by have := g y hy; rw [Function.comp, eps_turn y] at this; exact this, fun g y hy => by rw [Function.comp, eps_turn y]; exact g y hy⟩
/-! ### what is first, last, following lies in the expression -/
structure Rng (x : S24) : Prop where
 f : ∀ o q, fstP x o q → o < q ∧ q ≤ o + cnt x
 l : ∀ o q, lstP x o q → o < q ∧ q ≤ o + cnt x
 r : ∀ o p q, folP x o p q → (o < p ∧ p ≤ o + cnt x) ∧ (o < q ∧ q ≤ o + cnt x)
theorem rng_C (l : List S24) (h : ∀ y ∈ l, Rng y) : (∀ o q, fstC l o q → o < q ∧ q ≤ o + cntL l) ∧ (∀ o q, lstC l o q → o < q ∧ q ≤ o + cntL l) ∧ (∀ o p q, folC l o p q → (o < p ∧ p ≤ o + cntL l) ∧ (o < q ∧ q ≤ o + cntL l)) := by
 induction l with
 | nil => exact ⟨fun o q h => by rw [fstC] at h; exact h.elim, fun o q h => by rw [lstC] at h; exact h.elim, fun o p q h => by rw [folC] at h; exact h.elim⟩
 | cons x l ih =>
  obtain ⟨i1, i2, i3⟩ := ih (fun y hy => h y (List.mem_cons_of_mem _ hy))
  have hx := h x List.mem_cons_self
  refine ⟨fun o q g => ?_, fun o q g => ?_, fun o p q g => ?_⟩ <;> rw [cntL]
  ·rw [fstC] at g
   rcases g with g | ⟨_, g⟩
   ·have := hx.f o q g; omega
   ·have := i1 _ q g; omega
  ·rw [lstC] at g
   rcases g with g | ⟨_, g⟩
   ·have := i2 _ q g; omega
   ·have := hx.l o q g; omega
  ·rw [folC] at g
   rcases g with g | g | ⟨g1, g2⟩
   ·have := hx.r o p q g; omega
   ·have := i3 _ p q g; omega
   ·have := hx.l o p g1; have := i1 _ q g2; omega
theorem rng_A (l : List S24) (h : ∀ y ∈ l, Rng y) : (∀ o q, fstA l o q → o < q ∧ q ≤ o + cntL l) ∧ (∀ o q, lstA l o q → o < q ∧ q ≤ o + cntL l) ∧ (∀ o p q, folA l o p q → (o < p ∧ p ≤ o + cntL l) ∧ (o < q ∧ q ≤ o + cntL l)) := by
 induction l with
 | nil => exact ⟨fun o q h => by rw [fstA] at h; exact h.elim, fun o q h => by rw [lstA] at h; exact h.elim, fun o p q h => by rw [folA] at h; exact h.elim⟩
 | cons x l ih =>
  obtain ⟨i1, i2, i3⟩ := ih (fun y hy => h y (List.mem_cons_of_mem _ hy))
  have hx := h x List.mem_cons_self
  refine ⟨fun o q g => ?_, fun o q g => ?_, fun o p q g => ?_⟩ <;> rw [cntL]
  ·rw [fstA] at g
   rcases g with g | g
   ·have := hx.f o q g; omega
   ·have := i1 _ q g; omega
  ·rw [lstA] at g
   rcases g with g | g
   ·have := hx.l o q g; omega
   ·have := i2 _ q g; omega
  ·rw [folA] at g
   rcases g with g | g
   ·have := hx.r o p q g; omega
   ·have := i3 _ p q g; omega
theorem rng : ∀ x, Rng x := by
 refine node_ind (P := Rng) (fun x ih => ?_)
 obtain ⟨k, s, kids⟩ := x
 replace ih : ∀ y ∈ kids, Rng y := ih
 obtain ⟨c1, c2, c3⟩ := rng_C kids ih
 obtain ⟨a1, a2, a3⟩ := rng_A kids ih
 have one : ∀ y l, kids = y :: l → Rng y ∧ cnt y ≤ cntL kids := fun y l e => by subst e; exact ⟨ih y List.mem_cons_self, by rw [cntL]; omega⟩
 refine ⟨fun o q h => ?_, fun o q h => ?_, fun o p q h => ?_⟩ <;> rw [cnt]
 ·rw [fstP] at h
  split
  next e => rw [if_pos e] at h; omega
  next e =>
   rw [if_neg e] at h
   split at h
   ·exact c1 o q h
   ·split at h
    ·exact a1 o q h
    ·cases kids with
     | nil => rw [fst1] at h; exact h.elim
     | cons y l => rw [fst1] at h; obtain ⟨g1, g2⟩ := one y l rfl; have := g1.f o q h; omega
 ·rw [lstP] at h
  split
  next e => rw [if_pos e] at h; omega
  next e =>
   rw [if_neg e] at h
   split at h
   ·exact c2 o q h
   ·split at h
    ·exact a2 o q h
    ·cases kids with
     | nil => rw [lst1] at h; exact h.elim
     | cons y l => rw [lst1] at h; obtain ⟨g1, g2⟩ := one y l rfl; have := g1.l o q h; omega
 ·rw [folP] at h
  split
  next e => rw [if_pos e] at h; exact h.elim
  next e =>
   rw [if_neg e] at h
   split at h
   ·exact c3 o p q h
   ·split at h
    ·exact a3 o p q h
    ·cases kids with
     | nil => rw [fol1, lst1] at h; rcases h with h | ⟨_, h, _⟩ <;> exact h.elim
     | cons y l =>
      rw [fol1, lst1, fst1] at h
      obtain ⟨g1, g2⟩ := one y l rfl
      rcases h with h | ⟨_, h1, h2⟩
      ·have := g1.r o p q h; omega
      ·have := g1.l o p h1; have := g1.f o q h2; omega
/-! ### moved along -/
structure Shf (x : S24) : Prop where
 f : ∀ o q d, fstP x (o + d) (q + d) ↔ fstP x o q
 l : ∀ o q d, lstP x (o + d) (q + d) ↔ lstP x o q
 r : ∀ o p q d, folP x (o + d) (p + d) (q + d) ↔ folP x o p q
theorem shf_C (l : List S24) (h : ∀ y ∈ l, Shf y) : (∀ o q d, fstC l (o + d) (q + d) ↔ fstC l o q) ∧ (∀ o q d, lstC l (o + d) (q + d) ↔ lstC l o q) ∧ (∀ o p q d, folC l (o + d) (p + d) (q + d) ↔ folC l o p q) := by
 induction l with
 | nil => exact ⟨fun o q d => by rw [fstC, fstC], fun o q d => by rw [lstC, lstC], fun o p q d => by rw [folC, folC]⟩
 | cons x l ih =>
  obtain ⟨i1, i2, i3⟩ := ih (fun y hy => h y (List.mem_cons_of_mem _ hy))
  have hx := h x List.mem_cons_self
  have e : ∀ o d : Int, o + d + (cnt x : Int) = o + cnt x + d := fun o d => by omega
  exact ⟨fun o q d => by rw [fstC, fstC, hx.f, e, i1], fun o q d => by rw [lstC, lstC, hx.l, e, i2], fun o p q d => by rw [folC, folC, hx.r, hx.l, e, i1, i3]⟩
theorem shf_A (l : List S24) (h : ∀ y ∈ l, Shf y) : (∀ o q d, fstA l (o + d) (q + d) ↔ fstA l o q) ∧ (∀ o q d, lstA l (o + d) (q + d) ↔ lstA l o q) ∧ (∀ o p q d, folA l (o + d) (p + d) (q + d) ↔ folA l o p q) := by
 induction l with
 | nil => exact ⟨fun o q d => by rw [fstA, fstA], fun o q d => by rw [lstA, lstA], fun o p q d => by rw [folA, folA]⟩
 | cons x l ih =>
  obtain ⟨i1, i2, i3⟩ := ih (fun y hy => h y (List.mem_cons_of_mem _ hy))
  have hx := h x List.mem_cons_self
  have e : ∀ o d : Int, o + d + (cnt x : Int) = o + cnt x + d := fun o d => by omega
  exact ⟨fun o q d => by rw [fstA, fstA, hx.f, e, i1], fun o q d => by rw [lstA, lstA, hx.l, e, i2], fun o p q d => by rw [folA, folA, hx.r, e, i3]⟩
theorem shf : ∀ x, Shf x := by
 refine node_ind (P := Shf) (fun x ih => ?_)
 obtain ⟨k, s, kids⟩ := x
 replace ih : ∀ y ∈ kids, Shf y := ih
 obtain ⟨c1, c2, c3⟩ := shf_C kids ih
 obtain ⟨a1, a2, a3⟩ := shf_A kids ih
 have f1 : ∀ o q d, fst1 kids (o + d) (q + d) ↔ fst1 kids o q := fun o q d => by
  cases kids with
  | nil => rw [fst1, fst1]
  | cons y l => rw [fst1, fst1, (ih y List.mem_cons_self).f]
 have l1 : ∀ o q d, lst1 kids (o + d) (q + d) ↔ lst1 kids o q := fun o q d => by
  cases kids with
  | nil => rw [lst1, lst1]
  | cons y l => rw [lst1, lst1, (ih y List.mem_cons_self).l]
 have r1 : ∀ o p q d, fol1 kids (o + d) (p + d) (q + d) ↔ fol1 kids o p q := fun o p q d => by
  cases kids with
  | nil => rw [fol1, fol1]
  | cons y l => rw [fol1, fol1, (ih y List.mem_cons_self).r]
 refine ⟨fun o q d => ?_, fun o q d => ?_, fun o p q d => ?_⟩
 ·rw [fstP, fstP]
  split
  ·omega
  ·split
   ·exact c1 o q d
   ·split
    ·exact a1 o q d
    ·exact f1 o q d
 ·rw [lstP, lstP]
  split
  ·omega
  ·split
   ·exact c2 o q d
   ·split
    ·exact a2 o q d
    ·exact l1 o q d
 ·rw [folP, folP]
  split
  ·exact Iff.rfl
  ·split
   ·exact c3 o p q d
   ·split
    ·exact a3 o p q d
    ·rw [r1, l1, f1]
/-! ### one more part behind -/
theorem epsC_snoc (l : List S24) (x : S24) : epsC (l ++ [x]) = (epsC l && eps x) := by rw [epsC_all, List.all_append, ← epsC_all]; simp
theorem fstC_snoc (l : List S24) (x : S24) : ∀ o q, fstC (l ++ [x]) o q ↔ fstC l o q ∨ (epsC l = true ∧ fstP x (o + cntL l) q) := by
 induction l with
 | nil => intro o q; rw [List.nil_append, fstC, fstC, fstC, epsC, cntL]; simp
 | cons y l ih =>
  intro o q
  rw [List.cons_append, fstC, ih, fstC, epsC, cntL, Bool.and_eq_true, show o + ((cnt y + cntL l : Nat) : Int) = o + cnt y + cntL l by omega]
  constructor
  ·rintro (h | ⟨h, h' | ⟨h1, h2⟩⟩)
   ·exact .inl (.inl h)
   ·exact .inl (.inr ⟨h, h'⟩)
   ·exact .inr ⟨⟨h, h1⟩, h2⟩
  ·rintro ((h | ⟨h, h'⟩) | ⟨⟨h, h1⟩, h2⟩)
   ·exact .inl h
   ·exact .inr ⟨h, .inl h'⟩
   ·exact .inr ⟨h, .inr ⟨h1, h2⟩⟩
theorem lstC_snoc (l : List S24) (x : S24) : ∀ o q, lstC (l ++ [x]) o q ↔ lstP x (o + cntL l) q ∨ (eps x = true ∧ lstC l o q) := by
 induction l with
 | nil => intro o q; rw [List.nil_append, lstC, lstC, lstC, epsC, cntL]; simp
 | cons y l ih =>
  intro o q
  rw [List.cons_append, lstC, ih, lstC, epsC_snoc, cntL, Bool.and_eq_true, show o + ((cnt y + cntL l : Nat) : Int) = o + cnt y + cntL l by omega]
  constructor
  ·rintro ((h | ⟨h, h'⟩) | ⟨⟨h, h1⟩, h2⟩)
   ·exact .inl h
   ·exact .inr ⟨h, .inl h'⟩
   ·exact .inr ⟨h1, .inr ⟨h, h2⟩⟩
  ·rintro (h | ⟨h, h' | ⟨h1, h2⟩⟩)
   ·exact .inl (.inl h)
   ·exact .inl (.inr ⟨h, h'⟩)
   ·exact .inr ⟨⟨h1, h⟩, h2⟩
theorem folC_snoc (l : List S24) (x : S24) : ∀ o p q, folC (l ++ [x]) o p q ↔ folC l o p q ∨ folP x (o + cntL l) p q ∨ (lstC l o p ∧ fstP x (o + cntL l) q) := by
 induction l with
 | nil => intro o p q; rw [List.nil_append, folC, folC, folC, lstC, fstC, cntL]; simp
 | cons y l ih =>
  intro o p q
  rw [List.cons_append, folC, ih, folC, lstC, fstC_snoc, cntL, show o + ((cnt y + cntL l : Nat) : Int) = o + cnt y + cntL l by omega]
  constructor
  ·rintro (h | (h | h | ⟨h1, h2⟩) | ⟨h, h' | ⟨h1, h2⟩⟩)
   ·exact .inl (.inl h)
   ·exact .inl (.inr (.inl h))
   ·exact .inr (.inl h)
   ·exact .inr (.inr ⟨.inl h1, h2⟩)
   ·exact .inl (.inr (.inr ⟨h, h'⟩))
   ·exact .inr (.inr ⟨.inr ⟨h1, h⟩, h2⟩)
  ·rintro ((h | h | ⟨h1, h2⟩) | h | ⟨h | ⟨h1, h3⟩, h2⟩)
   ·exact .inl h
   ·exact .inr (.inl (.inl h))
   ·exact .inr (.inr ⟨h1, .inl h2⟩)
   ·exact .inr (.inl (.inr (.inl h)))
   ·exact .inr (.inl (.inr (.inr ⟨h, h2⟩)))
   ·exact .inr (.inr ⟨h3, .inr ⟨h1, h2⟩⟩)
end Go.Proofs.Ytemlgmkbonpniaa.Print

namespace Go.Proofs.Ytemlgmkbonpniaa.Print
open Go.RowKit Go.Maps Go.Proofs.YtemlgmkbonpniaaW.PrintWords Go.Proofs.YtemlgmkbonpniaaW.PrintLast Go.Proofs.YtemlgmkbonpniaaW.PrintMore
set_option linter.unusedVariables false
set_option linter.unusedSimpArgs false
theorem turn_turn : ∀ x, turnN (turnN x) = x := by
 refine node_ind (P := fun x => turnN (turnN x) = x) (fun x ih => ?_)
 obtain ⟨k, s, kids⟩ := x
 replace ih : ∀ y ∈ kids, turnN (turnN y) = y := ih
 have h : (turnL kids).map turnN = kids := by
  rw [turnL_map, List.map_map]
  conv => rhs; rw [← List.map_id kids]
  exact List.map_congr_left (fun y hy => ih y hy)
 rw [turnN]
 by_cases q0 : k = 0
 ·rw [if_pos q0, turnN, if_pos q0, turnL_map, List.map_reverse, List.reverse_reverse, h]
 ·rw [if_neg q0, turnN, if_neg q0, turnL_map, h]
/-! ### where places go -/
structure Mir (x : S24) : Prop where
 r : ∀ o p : Int, o < p → p ≤ o + cnt x → o < mirP x o p ∧ mirP x o p ≤ o + cnt x
 i : ∀ o p q : Int, o < p → p ≤ o + cnt x → o < q → q ≤ o + cnt x → mirP x o p = mirP x o q → p = q
theorem mir_C (l : List S24) (h : ∀ y ∈ l, Mir y) : (∀ o p : Int, o < p → p ≤ o + cntL l → o < mirC l o p ∧ mirC l o p ≤ o + cntL l) ∧ (∀ o p q : Int, o < p → p ≤ o + cntL l → o < q → q ≤ o + cntL l → mirC l o p = mirC l o q → p = q) := by
 induction l with
 | nil => exact ⟨fun o p h1 h2 => by rw [cntL] at h2; omega, fun o p q h1 h2 => by rw [cntL] at h2; omega⟩
 | cons x l ih =>
  obtain ⟨i1, i2⟩ := ih (fun y hy => h y (List.mem_cons_of_mem _ hy))
  have hx := h x List.mem_cons_self
  refine ⟨fun o p h1 h2 => ?_, fun o p q h1 h2 h3 h4 => ?_⟩
  ·rw [cntL] at h2 ⊢
   rw [mirC]
   split
   ·have := hx.r o p h1 (by omega); omega
   ·have := i1 (o + cnt x) p (by omega) (by omega); omega
  ·rw [cntL] at h2 h4
   rw [mirC, mirC]
   intro e
   split at e
   next ga =>
    have a1 := hx.r o p h1 ga
    split at e
    next gb => exact hx.i o p q h1 ga h3 gb (by omega)
    next gb => have := i1 (o + cnt x) q (by omega) (by omega); omega
   next ga =>
    have a1 := i1 (o + cnt x) p (by omega) (by omega)
    split at e
    next gb => have := hx.r o q h3 gb; omega
    next gb => exact i2 (o + cnt x) p q (by omega) (by omega) (by omega) (by omega) (by omega)
theorem mir_A (l : List S24) (h : ∀ y ∈ l, Mir y) : (∀ o p : Int, o < p → p ≤ o + cntL l → o < mirA l o p ∧ mirA l o p ≤ o + cntL l) ∧ (∀ o p q : Int, o < p → p ≤ o + cntL l → o < q → q ≤ o + cntL l → mirA l o p = mirA l o q → p = q) := by
 induction l with
 | nil => exact ⟨fun o p h1 h2 => by rw [cntL] at h2; omega, fun o p q h1 h2 => by rw [cntL] at h2; omega⟩
 | cons x l ih =>
  obtain ⟨i1, i2⟩ := ih (fun y hy => h y (List.mem_cons_of_mem _ hy))
  have hx := h x List.mem_cons_self
  refine ⟨fun o p h1 h2 => ?_, fun o p q h1 h2 h3 h4 => ?_⟩
  ·rw [cntL] at h2 ⊢
   rw [mirA]
   split
   ·have := hx.r o p h1 (by omega); omega
   ·have := i1 (o + cnt x) p (by omega) (by omega); omega
  ·rw [cntL] at h2 h4
   rw [mirA, mirA]
   intro e
   split at e
   next ga =>
    have a1 := hx.r o p h1 ga
    split at e
    next gb => exact hx.i o p q h1 ga h3 gb (by omega)
    next gb => have := i1 (o + cnt x) q (by omega) (by omega); omega
   next ga =>
    have a1 := i1 (o + cnt x) p (by omega) (by omega)
    split at e
    next gb => have := hx.r o q h3 gb; omega
    next gb => exact i2 (o + cnt x) p q (by omega) (by omega) (by omega) (by omega) (by omega)
theorem mir : ∀ x, Mir x := by
 refine node_ind (P := Mir) (fun x ih => ?_)
 obtain ⟨k, s, kids⟩ := x
 replace ih : ∀ y ∈ kids, Mir y := ih
 obtain ⟨c1, c2⟩ := mir_C kids ih
 obtain ⟨a1, a2⟩ := mir_A kids ih
 refine ⟨fun o p h1 h2 => ?_, fun o p q h1 h2 h3 h4 => ?_⟩
 ·rw [cnt] at h2 ⊢
  rw [mirP]
  split
  next e => rw [if_pos e] at h2; omega
  next e =>
   rw [if_neg e] at h2
   split
   ·exact c1 o p h1 h2
   ·exact a1 o p h1 h2
 ·rw [cnt] at h2 h4
  rw [mirP, mirP]
  by_cases e : k = 1
  ·rw [if_pos e] at h2 h4; omega
  ·rw [if_neg e] at h2 h4
   rw [if_neg e, if_neg e]
   by_cases e0 : k = 0
   ·rw [if_pos e0, if_pos e0]; exact c2 o p q h1 h2 h3 h4
   ·rw [if_neg e0, if_neg e0]; exact a2 o p q h1 h2 h3 h4
/-! ### first for last -/
structure Tur (x : S24) : Prop where
 f : ∀ o p, fstP x o p → lstP (turnN x) o (mirP x o p)
 l : ∀ o p, lstP x o p → fstP (turnN x) o (mirP x o p)
 r : ∀ o p q, folP x o p q → folP (turnN x) o (mirP x o q) (mirP x o p)
theorem epsC_tr (l : List S24) : epsC (turnL l).reverse = epsC l := by rw [epsC_all, List.all_reverse, ← epsC_all, epsC_turn]
theorem cntL_tr (l : List S24) : cntL (turnL l).reverse = cntL l := by rw [cntL_rev, cntL_turn]
theorem tur_C (l : List S24) (h : ∀ y ∈ l, Tur y) : (∀ o p, fstC l o p → lstC (turnL l).reverse o (mirC l o p)) ∧ (∀ o p, lstC l o p → fstC (turnL l).reverse o (mirC l o p)) ∧ (∀ o p q, folC l o p q → folC (turnL l).reverse o (mirC l o q) (mirC l o p)) := by
 induction l with
 | nil => exact ⟨fun o p h => by rw [fstC] at h; exact h.elim, fun o p h => by rw [lstC] at h; exact h.elim, fun o p q h => by rw [folC] at h; exact h.elim⟩
 | cons x l ih =>
  obtain ⟨i1, i2, i3⟩ := ih (fun y hy => h y (List.mem_cons_of_mem _ hy))
  have hx := h x List.mem_cons_self
  have rx := rng x
  obtain ⟨r1, r2, r3⟩ := rng_C l (fun y _ => rng y)
  have sx := shf (turnN x)
  obtain ⟨s1, s2, s3⟩ := shf_C (turnL l).reverse (fun y _ => shf y)
  have eT : (turnL (x :: l)).reverse = (turnL l).reverse ++ [turnN x] := by rw [turnL, List.reverse_cons]
  -- a place of the part, and one behind it
  have mA : ∀ o p : Int, p ≤ o + cnt x → mirC (x :: l) o p = mirP x o p + cntL l := fun o p g => by rw [mirC, if_pos g]
  have mB : ∀ o p : Int, o + cnt x < p → mirC (x :: l) o p = mirC l (o + cnt x) p - cnt x := fun o p g => by rw [mirC, if_neg (by omega)]
  have sf : ∀ o p : Int, fstC (turnL l).reverse (o + cnt x) p → fstC (turnL l).reverse o (p - cnt x) := fun o p g => (s1 o (p - cnt x) (cnt x)).1 (by rw [show p - (cnt x : Int) + cnt x = p by omega]; exact g)
  have sl : ∀ o p : Int, lstC (turnL l).reverse (o + cnt x) p → lstC (turnL l).reverse o (p - cnt x) := fun o p g => (s2 o (p - cnt x) (cnt x)).1 (by rw [show p - (cnt x : Int) + cnt x = p by omega]; exact g)
  have sr : ∀ o p q : Int, folC (turnL l).reverse (o + cnt x) p q → folC (turnL l).reverse o (p - cnt x) (q - cnt x) := fun o p q g => (s3 o (p - cnt x) (q - cnt x) (cnt x)).1 (by rw [show p - (cnt x : Int) + cnt x = p by omega, show q - (cnt x : Int) + cnt x = q by omega]; exact g)
  refine ⟨fun o p g => ?_, fun o p g => ?_, fun o p q g => ?_⟩
  ·rw [fstC] at g
   rw [eT, lstC_snoc, cntL_tr, eps_turn]
   rcases g with g | ⟨g0, g⟩
   ·rw [mA o p (rx.f o p g).2]
    exact .inl ((sx.l o (mirP x o p) (cntL l)).2 (hx.f o p g))
   ·rw [mB o p (r1 _ p g).1]
    exact .inr ⟨g0, sl _ _ (i1 _ p g)⟩
  ·rw [lstC] at g
   rw [eT, fstC_snoc, cntL_tr, epsC_tr]
   rcases g with g | ⟨g0, g⟩
   ·rw [mB o p (r2 _ p g).1]
    exact .inl (sf _ _ (i2 _ p g))
   ·rw [mA o p (rx.l o p g).2]
    exact .inr ⟨g0, (sx.f o (mirP x o p) (cntL l)).2 (hx.l o p g)⟩
  ·rw [folC] at g
   rw [eT, folC_snoc, cntL_tr]
   rcases g with g | g | ⟨g1, g2⟩
   ·rw [mA o p (rx.r o p q g).1.2, mA o q (rx.r o p q g).2.2]
    exact .inr (.inl ((sx.r o _ _ (cntL l)).2 (hx.r o p q g)))
   ·rw [mB o p (r3 _ p q g).1.1, mB o q (r3 _ p q g).2.1]
    exact .inl (sr _ _ _ (i3 _ p q g))
   ·rw [mA o p (rx.l o p g1).2, mB o q (r1 _ q g2).1]
    exact .inr (.inr ⟨sl _ _ (i1 _ q g2), (sx.f o _ (cntL l)).2 (hx.l o p g1)⟩)
theorem tur_A (l : List S24) (h : ∀ y ∈ l, Tur y) : (∀ o p, fstA l o p → lstA (turnL l) o (mirA l o p)) ∧ (∀ o p, lstA l o p → fstA (turnL l) o (mirA l o p)) ∧ (∀ o p q, folA l o p q → folA (turnL l) o (mirA l o q) (mirA l o p)) := by
 induction l with
 | nil => exact ⟨fun o p h => by rw [fstA] at h; exact h.elim, fun o p h => by rw [lstA] at h; exact h.elim, fun o p q h => by rw [folA] at h; exact h.elim⟩
 | cons x l ih =>
  obtain ⟨i1, i2, i3⟩ := ih (fun y hy => h y (List.mem_cons_of_mem _ hy))
  have hx := h x List.mem_cons_self
  have rx := rng x
  obtain ⟨r1, r2, r3⟩ := rng_A l (fun y _ => rng y)
  have mA : ∀ o p : Int, p ≤ o + cnt x → mirA (x :: l) o p = mirP x o p := fun o p g => by rw [mirA, if_pos g]
  have mB : ∀ o p : Int, o + cnt x < p → mirA (x :: l) o p = mirA l (o + cnt x) p := fun o p g => by rw [mirA, if_neg (by omega)]
  refine ⟨fun o p g => ?_, fun o p g => ?_, fun o p q g => ?_⟩
  ·rw [fstA] at g
   rw [turnL, lstA, cnt_turn]
   rcases g with g | g
   ·rw [mA o p (rx.f o p g).2]; exact .inl (hx.f o p g)
   ·rw [mB o p (r1 _ p g).1]; exact .inr (i1 _ p g)
  ·rw [lstA] at g
   rw [turnL, fstA, cnt_turn]
   rcases g with g | g
   ·rw [mA o p (rx.l o p g).2]; exact .inl (hx.l o p g)
   ·rw [mB o p (r2 _ p g).1]; exact .inr (i2 _ p g)
  ·rw [folA] at g
   rw [turnL, folA, cnt_turn]
   rcases g with g | g
   ·rw [mA o p (rx.r o p q g).1.2, mA o q (rx.r o p q g).2.2]; exact .inl (hx.r o p q g)
   ·rw [mB o p (r3 _ p q g).1.1, mB o q (r3 _ p q g).2.1]; exact .inr (i3 _ p q g)
theorem tur : ∀ x, Tur x := by
 refine node_ind (P := Tur) (fun x ih => ?_)
 obtain ⟨k, s, kids⟩ := x
 replace ih : ∀ y ∈ kids, Tur y := ih
 obtain ⟨c1, c2, c3⟩ := tur_C kids ih
 obtain ⟨a1, a2, a3⟩ := tur_A kids ih
 by_cases q1 : k = 1
 ·subst q1
  refine ⟨fun o p g => ?_, fun o p g => ?_, fun o p q g => ?_⟩
  ·rw [fstP, if_pos rfl] at g
   rw [turnN, lstP, if_pos rfl, mirP, if_pos rfl]; exact g
  ·rw [lstP, if_pos rfl] at g
   rw [turnN, fstP, if_pos rfl, mirP, if_pos rfl]; exact g
  ·rw [folP, if_pos rfl] at g; exact g.elim
 by_cases q0 : k = 0
 ·refine ⟨fun o p g => ?_, fun o p g => ?_, fun o p q g => ?_⟩
  ·rw [fstP, if_neg q1, if_pos q0] at g
   rw [turnN, lstP, if_neg q1, if_pos q0, if_pos q0, mirP, if_neg q1, if_pos q0]; exact c1 o p g
  ·rw [lstP, if_neg q1, if_pos q0] at g
   rw [turnN, fstP, if_neg q1, if_pos q0, if_pos q0, mirP, if_neg q1, if_pos q0]; exact c2 o p g
  ·rw [folP, if_neg q1, if_pos q0] at g
   rw [turnN, folP, if_neg q1, if_pos q0, if_pos q0, mirP, if_neg q1, if_pos q0, mirP, if_neg q1, if_pos q0]; exact c3 o p q g
 by_cases q2 : k = 2
 ·refine ⟨fun o p g => ?_, fun o p g => ?_, fun o p q g => ?_⟩
  ·rw [fstP, if_neg q1, if_neg q0, if_pos q2] at g
   rw [turnN, lstP, if_neg q1, if_neg q0, if_neg q0, if_pos q2, mirP, if_neg q1, if_neg q0]; exact a1 o p g
  ·rw [lstP, if_neg q1, if_neg q0, if_pos q2] at g
   rw [turnN, fstP, if_neg q1, if_neg q0, if_neg q0, if_pos q2, mirP, if_neg q1, if_neg q0]; exact a2 o p g
  ·rw [folP, if_neg q1, if_neg q0, if_pos q2] at g
   rw [turnN, folP, if_neg q1, if_neg q0, if_neg q0, if_pos q2, mirP, if_neg q1, if_neg q0, mirP, if_neg q1, if_neg q0]; exact a3 o p q g
 -- one part
 have f1 : ∀ o p, fst1 kids o p → lst1 (turnL kids) o (mirA kids o p) := fun o p g => by
  cases kids with
  | nil => rw [fst1] at g; exact g.elim
  | cons y l => rw [fst1] at g; rw [turnL, lst1, mirA, if_pos ((rng y).f o p g).2]; exact (ih y List.mem_cons_self).f o p g
 have l1 : ∀ o p, lst1 kids o p → fst1 (turnL kids) o (mirA kids o p) := fun o p g => by
  cases kids with
  | nil => rw [lst1] at g; exact g.elim
  | cons y l => rw [lst1] at g; rw [turnL, fst1, mirA, if_pos ((rng y).l o p g).2]; exact (ih y List.mem_cons_self).l o p g
 have r1 : ∀ o p q, fol1 kids o p q → fol1 (turnL kids) o (mirA kids o q) (mirA kids o p) := fun o p q g => by
  cases kids with
  | nil => rw [fol1] at g; exact g.elim
  | cons y l => rw [fol1] at g; rw [turnL, fol1, mirA, if_pos ((rng y).r o p q g).2.2, mirA, if_pos ((rng y).r o p q g).1.2]; exact (ih y List.mem_cons_self).r o p q g
 refine ⟨fun o p g => ?_, fun o p g => ?_, fun o p q g => ?_⟩
 ·rw [fstP, if_neg q1, if_neg q0, if_neg q2] at g
  rw [turnN, lstP, if_neg q1, if_neg q0, if_neg q0, if_neg q2, mirP, if_neg q1, if_neg q0]; exact f1 o p g
 ·rw [lstP, if_neg q1, if_neg q0, if_neg q2] at g
  rw [turnN, fstP, if_neg q1, if_neg q0, if_neg q0, if_neg q2, mirP, if_neg q1, if_neg q0]; exact l1 o p g
 ·rw [folP, if_neg q1, if_neg q0, if_neg q2] at g
  rw [turnN, folP, if_neg q1, if_neg q0, if_neg q0, if_neg q2, mirP, if_neg q1, if_neg q0, mirP, if_neg q1, if_neg q0]
  rcases g with g | ⟨g0, g1, g2⟩
  ·exact .inl (r1 o p q g)
  ·exact .inr ⟨g0, f1 o q g2, l1 o p g1⟩
/-! ### counting -/
theorem len_sub {α : Type} [DecidableEq α] : ∀ (l m : List α), l.Nodup → (∀ a ∈ l, a ∈ m) → l.length ≤ m.length := by
 intro l
 induction l with
 | nil => intro m _ _; exact Nat.zero_le _
 | cons a l ih =>
  intro m hn h
  rw [List.nodup_cons] at hn
  have ha := h a List.mem_cons_self
  have h2 := ih (m.erase a) hn.2 (fun b hb => (List.mem_erase_of_ne (fun e => hn.1 (by rw [← e]; exact hb))).2 (h b (List.mem_cons_of_mem _ hb)))
  rw [List.length_erase_of_mem ha] at h2
  have := List.length_pos_of_mem ha
  rw [List.length_cons]; omega
theorem nodup_map {α β : Type} (f : α → β) : ∀ (l : List α), l.Nodup → (∀ a ∈ l, ∀ b ∈ l, f a = f b → a = b) → (l.map f).Nodup := by
 intro l
 induction l with
 | nil => intro _ _; exact List.nodup_nil
 | cons a l ih =>
  intro hn h
  rw [List.nodup_cons] at hn
  rw [List.map_cons, List.nodup_cons]
  refine ⟨fun g => ?_, ih hn.2 (fun b hb c hc => h b (List.mem_cons_of_mem _ hb) c (List.mem_cons_of_mem _ hc))⟩
  obtain ⟨b, hb, e⟩ := List.mem_map.1 g
  exact hn.1 (by rw [h a List.mem_cons_self b (List.mem_cons_of_mem _ hb) e.symm]; exact hb)
/-- Places, each with one that stands behind it. -/
def pairsA : Int → List (List Int) → List (Int × Int)
 | _, [] => []
 | k, r :: l => r.map (fun q => (k, q)) ++ pairsA (k + 1) l
theorem pairs_len : ∀ (l : List (List Int)) (k : Int), (pairsA k l).length = (l.map List.length).sum := by
 intro l
 induction l with
 | nil => intro k; rfl
 | cons r l ih => intro k; rw [pairsA, List.length_append, List.length_map, ih, List.map_cons, List.sum_cons]
theorem pairs_mem : ∀ (l : List (List Int)) (k p q : Int), (p, q) ∈ pairsA k l ↔ k ≤ p ∧ q ∈ l.getD (p - k).toNat [] := by
 intro l
 induction l with
 | nil => intro k p q; simp [pairsA]
 | cons r l ih =>
  intro k p q
  rw [pairsA, List.mem_append, ih, List.mem_map]
  constructor
  ·rintro (⟨a, ha, e⟩ | ⟨h1, h2⟩)
   ·cases e
    exact ⟨Int.le_refl _, by rw [Int.sub_self]; exact ha⟩
   ·refine ⟨by omega, ?_⟩
    rw [show (p - k).toNat = (p - (k + 1)).toNat + 1 by omega, List.getD_cons_succ]; exact h2
  ·rintro ⟨h1, h2⟩
   by_cases e : p = k
   ·subst e
    rw [show (p - p).toNat = 0 by omega, List.getD_cons_zero] at h2
    exact .inl ⟨q, h2, rfl⟩
   ·rw [show (p - k).toNat = (p - (k + 1)).toNat + 1 by omega, List.getD_cons_succ] at h2
    exact .inr ⟨by omega, h2⟩
theorem pairs_nodup : ∀ (l : List (List Int)) (k : Int), (∀ r ∈ l, r.Nodup) → (pairsA k l).Nodup := by
 intro l
 induction l with
 | nil => intro k _; exact List.nodup_nil
 | cons r l ih =>
  intro k h
  rw [pairsA, List.nodup_append]
  refine ⟨nodup_map _ _ (h r List.mem_cons_self) (fun a _ b _ e => by cases e; rfl), ih _ (fun s hs => h s (List.mem_cons_of_mem _ hs)), fun a ha b hb e => ?_⟩
  subst e
  obtain ⟨q, _, rfl⟩ := List.mem_map.1 ha
  have := ((pairs_mem _ _ _ _).1 hb).1
  omega
theorem good_nodup {n : Nat} {l : List Int} (h : Good n l) : l.Nodup := h.1.imp (fun h => Int.ne_of_lt h)
/-- One side of the law. -/
structure Half (x y : St × Ed) : Prop where
 f : x.2.first.length ≤ y.2.last.length
 l : x.2.last.length ≤ y.2.first.length
 s : (x.1.fol.map List.length).sum ≤ (y.1.fol.map List.length).sum
theorem fit0 : Fit ⟨[], []⟩ := ⟨rfl, fun l hl => by cases hl⟩
theorem half (x : S24) (hr : rightN x = true) : Half (nodeR x ⟨[], []⟩) (nodeR (turnN x) ⟨[], []⟩) := by
 have sx := node_sem x hr ⟨[], []⟩ fit0
 have sy := node_sem (turnN x) (by rw [right_turn]; exact hr) ⟨[], []⟩ fit0
 have mx := nodeR_made x ⟨[], []⟩ fit0
 have hx := tur x
 have rx := rng x
 have ix := mir x
 have z0 : ∀ (i : Nat), (⟨[], []⟩ : St).fol.getD i [] = [] := fun i => rfl
 rw [cnt_turn, eps_turn] at sy
 refine ⟨?_, ?_, ?_⟩
 ·rw [← List.length_map (f := mirP x 0)]
  refine len_sub _ _ (nodup_map _ _ (good_nodup mx.good.first) (fun a ha b hb e => ?_)) (fun a ha => ?_)
  ·have h1 := rx.f _ _ ((sx.fst a).1 ha); have h2 := rx.f _ _ ((sx.fst b).1 hb); exact ix.i 0 a b h1.1 h1.2 h2.1 h2.2 e
  ·obtain ⟨p, hp, rfl⟩ := List.mem_map.1 ha
   exact (sy.lst _).2 (hx.f 0 p ((sx.fst p).1 hp))
 ·rw [← List.length_map (f := mirP x 0)]
  refine len_sub _ _ (nodup_map _ _ (good_nodup mx.good.last) (fun a ha b hb e => ?_)) (fun a ha => ?_)
  ·have h1 := rx.l _ _ ((sx.lst a).1 ha); have h2 := rx.l _ _ ((sx.lst b).1 hb); exact ix.i 0 a b h1.1 h1.2 h2.1 h2.2 e
  ·obtain ⟨p, hp, rfl⟩ := List.mem_map.1 ha
   exact (sy.fst _).2 (hx.l 0 p ((sx.lst p).1 hp))
 ·have key : ∀ p q : Int, (p, q) ∈ pairsA 1 (nodeR x ⟨[], []⟩).1.fol → folP x 0 p q := fun p q h => by
   obtain ⟨h1, h2⟩ := (pairs_mem _ _ _ _).1 h
   rcases (sx.fol p q h1).1 h2 with h3 | h3
   ·rw [z0] at h3; cases h3
   ·exact h3
  rw [← pairs_len _ 1, ← pairs_len _ 1, ← List.length_map (f := fun t : Int × Int => (mirP x 0 t.2, mirP x 0 t.1))]
  refine len_sub _ _ (nodup_map _ _ (pairs_nodup _ _ (fun r hr => good_nodup (mx.fit.good r hr))) (fun a ha b hb e => ?_)) (fun a ha => ?_)
  ·obtain ⟨p, q⟩ := a
   obtain ⟨p', q'⟩ := b
   have h1 := rx.r _ _ _ (key p q ha)
   have h2 := rx.r _ _ _ (key p' q' hb)
   injection e with e1 e2
   rw [ix.i 0 p p' h1.1.1 h1.1.2 h2.1.1 h2.1.2 e2, ix.i 0 q q' h1.2.1 h1.2.2 h2.2.1 h2.2.2 e1]
  ·obtain ⟨⟨p, q⟩, hp, rfl⟩ := List.mem_map.1 ha
   have h3 := hx.r 0 p q (key p q hp)
   have h4 := (rng (turnN x)).r _ _ _ h3
   have h5 : 1 ≤ mirP x 0 q := h4.1.1
   exact (pairs_mem _ 1 (mirP x 0 q) (mirP x 0 p)).2 ⟨h5, (sy.fol (mirP x 0 q) (mirP x 0 p) h5).2 (.inr h3)⟩
/-- What the law compares. -/
structure Turned (a b : Bool × List Int × List Int × List Int × List (List Int) × Int) : Prop where
 e : a.2.2.2.2.2 = b.2.2.2.2.2
 z : a.1 = b.1
 s : a.2.1.length = b.2.1.length
 f : a.2.2.1.length = b.2.2.2.1.length
 l : a.2.2.2.1.length = b.2.2.1.length
 m : a.2.2.2.2.1.length = b.2.2.2.2.1.length
 r : (a.2.2.2.2.1.map List.length).sum = (b.2.2.2.2.1.map List.length).sum
theorem build_turn (x : S24) : Turned (buildR x) (buildR (turnN x)) := by
 unfold buildR
 rw [right_turn, cnt_turn]
 by_cases q : rightN x = false
 ·rw [if_pos q, if_pos q]; exact ⟨rfl, rfl, rfl, rfl, rfl, rfl, rfl⟩
 rw [if_neg q, if_neg q]
 have hr : rightN x = true := by revert q; cases rightN x <;> simp
 by_cases q2 : 300 < cnt x
 ·rw [if_pos q2, if_pos q2]; exact ⟨rfl, rfl, rfl, rfl, rfl, rfl, rfl⟩
 rw [if_neg q2, if_neg q2]
 have h1 := half x hr
 have h2 := half (turnN x) (by rw [right_turn]; exact hr)
 rw [turn_turn] at h2
 have sx := node_sem x hr ⟨[], []⟩ fit0
 have sy := node_sem (turnN x) (by rw [right_turn]; exact hr) ⟨[], []⟩ fit0
 have mx := nodeR_made x ⟨[], []⟩ fit0
 have my := nodeR_made (turnN x) ⟨[], []⟩ fit0
 have e1 : (nodeR x ⟨[], []⟩).1.sets.length = (nodeR (turnN x) ⟨[], []⟩).1.sets.length := by
  rw [sx.sets, sy.sets, List.length_append, List.length_append, leaves_len, leaves_len, cnt_turn]
 refine ⟨rfl, ?_, e1, Nat.le_antisymm h1.f h2.l, Nat.le_antisymm h1.l h2.f, ?_, Nat.le_antisymm h1.s h2.s⟩
 ·show (nodeR x ⟨[], []⟩).2.null = (nodeR (turnN x) ⟨[], []⟩).2.null
  rw [sx.nul, sy.nul, eps_turn]
 ·show (nodeR x ⟨[], []⟩).1.fol.length = (nodeR (turnN x) ⟨[], []⟩).1.fol.length
  have := mx.fit.len; have := my.fit.len; omega
end Go.Proofs.Ytemlgmkbonpniaa.Print

namespace Go.Proofs.Ytemlgmkbonpniaa.Print
open Go.RowKit Go.Maps Go.Proofs.YtemlgmkbonpniaaW.PrintWords Go.Proofs.YtemlgmkbonpniaaW.PrintLast Go.Proofs.YtemlgmkbonpniaaW.PrintMore
set_option linter.unusedVariables false
set_option linter.unusedSimpArgs false
theorem sizL_len : ∀ l : List S24, l.length ≤ sizL l := by
 intro l
 induction l with
 | nil => exact Nat.zero_le _
 | cons x l ih =>
  have : 1 ≤ siz x := by obtain ⟨a, b, kids⟩ := x; rw [siz]; omega
  rw [sizL, List.length_cons]; omega
theorem sizL_mem : ∀ l : List S24, ∀ y ∈ l, siz y ≤ sizL l := by
 intro l
 induction l with
 | nil => intro y hy; cases hy
 | cons x l ih =>
  intro y hy
  rw [sizL]
  rcases List.mem_cons.1 hy with rfl | hy
  ·omega
  ·have := ih y hy; omega
theorem turn_l0 (a b : Int) (kids l : List S24) (hl : l = if a = 0 then kids.reverse else kids) (hk : kids.length ≤ 1000000) (ih : ∀ y ∈ kids, Evs (fun k => scansionref10_Turn.f k y.f0 y.f1 y.f2) ((turnN y).f0, (turnN y).f1, (turnN y).f2)) : ∀ (n i : Nat) (out : List S24), i + n = kids.length → out.length = i → Evs (fun k => scansionref10_Turn.l0 k (i : Int) a b kids a b out) (a, b, out ++ (l.drop i).map turnN) := by
 have hll : l.length = kids.length := by rw [hl]; split; exact List.length_reverse; rfl
 intro n
 induction n with
 | zero =>
  intro i out hi ho
  refine ⟨1, fun k hk2 => ?_⟩
  obtain ⟨k, rfl⟩ : ∃ j, k = j + 1 := ⟨k - 1, by omega⟩
  show scansionref10_Turn.l0 (k + 1) _ _ _ _ _ _ _ = _
  rw [scansionref10_Turn.l0, if_neg (by omega), List.drop_eq_nil_of_le (by omega), List.map_nil, List.append_nil]
 | succ n ihn =>
  intro i out hi ho
  have hil : i < kids.length := by omega
  have hml : l[i] ∈ kids := by
   have h := List.getElem_mem (l := l) (n := i) (by omega)
   have h2 : ∀ y, y ∈ l → y ∈ kids := by rw [hl]; split; exact fun y hy => List.mem_reverse.1 hy; exact fun y hy => hy
   exact h2 _ h
  obtain ⟨K1, hK1⟩ := ih l[i] hml
  obtain ⟨K2, hK2⟩ := ihn (i + 1) (out ++ [turnN l[i]]) (by omega) (by rw [List.length_append, ho]; rfl)
  refine ⟨K1 + K2 + 1, fun k hk2 => ?_⟩
  obtain ⟨k, rfl⟩ : ∃ j, k = j + 1 := ⟨k - 1, by omega⟩
  show scansionref10_Turn.l0 (k + 1) _ _ _ _ _ _ _ = _
  have hk1 : scansionref10_Turn.f k l[i].f0 l[i].f1 l[i].f2 = _ := hK1 k (by omega)
  have hk2 : scansionref10_Turn.l0 k _ _ _ _ _ _ _ = _ := hK2 k (by omega)
  have e3 : wrap64 ((i : Int) + 1) = ((i + 1 : Nat) : Int) := by unfold wrap64; omega
  have e0 : l.drop i = l[i] :: l.drop (i + 1) := List.drop_eq_getElem_cons (by omega)
  have e9 : out ++ (l.drop i).map turnN = out ++ [turnN l[i]] ++ (l.drop (i + 1)).map turnN := by rw [e0, List.map_cons, List.append_assoc]; rfl
  rw [scansionref10_Turn.l0, if_pos (by clear e3; omega)]
  by_cases q : a = 0
  ·have e1 : wrap64 (wrap64 ((kids.length : Int) - 1) - (i : Int)) = ((kids.length - 1 - i : Nat) : Int) := by clear e3; unfold wrap64; omega
   have hj : kids.length - 1 - i < kids.length := by omega
   have e2 : rd_T24 kids ((kids.length - 1 - i : Nat) : Int) = l[i] := by
    rw [rd_get hj]
    have : l = kids.reverse := by rw [hl, if_pos q]
    subst this
    rw [List.getElem_reverse]
   rw [if_pos q, e1, if_pos (by clear e1 e3; omega), if_pos (by clear e1 e3; omega), e2, hk1, Option.bind_some, if_pos (by clear e1 e3; omega), e3]
   rw [s24_eta (turnN l[i])]
   rw [hk2, e9]
  ·have e2 : rd_T24 kids (i : Int) = l[i] := by
    rw [rd_get hil]
    have : l = kids := by rw [hl, if_neg q]
    subst this
    rfl
   rw [if_neg q, if_pos (by clear e3; omega), e2, hk1, Option.bind_some, if_pos (by clear e3; omega), e3]
   rw [s24_eta (turnN l[i])]
   rw [hk2, e9]
theorem turn_f : ∀ x : S24, siz x ≤ 1000000 → Evs (fun k => scansionref10_Turn.f k x.f0 x.f1 x.f2) ((turnN x).f0, (turnN x).f1, (turnN x).f2) := by
 refine node_ind (P := fun x => siz x ≤ 1000000 → Evs (fun k => scansionref10_Turn.f k x.f0 x.f1 x.f2) ((turnN x).f0, (turnN x).f1, (turnN x).f2)) (fun x ih hz => ?_)
 obtain ⟨a, b, kids⟩ := x
 rw [siz] at hz
 have h1 := sizL_len kids
 obtain ⟨K, hK⟩ := turn_l0 a b kids _ rfl (by omega) (fun y hy => ih y hy (by have := sizL_mem kids y hy; omega)) kids.length 0 [] (by omega) rfl
 refine ⟨K + 1, fun k hk => ?_⟩
 obtain ⟨k, rfl⟩ : ∃ j, k = j + 1 := ⟨k - 1, by omega⟩
 show scansionref10_Turn.f (k + 1) _ _ _ = _
 rw [scansionref10_Turn.f]
 have h2 : scansionref10_Turn.l0 k _ _ _ _ _ _ _ = _ := hK k (by omega)
 show scansionref10_Turn.l0 k ((0 : Nat) : Int) a b kids a b [] = _
 rw [h2, turnN, List.drop_zero, List.nil_append, turnL_map]
 by_cases q : a = 0
 ·rw [if_pos q, if_pos q, List.map_reverse]
 ·rw [if_neg q, if_neg q]
/-- The rows of what Build answers are short. -/
structure ShortT (r : Bt) : Prop where
 h1 : r.2.1.length ≤ 300
 h2 : r.2.2.1.length ≤ 300
 h3 : r.2.2.2.1.length ≤ 300
 h4 : r.2.2.2.2.1.length ≤ 300
 hr : ∀ l ∈ r.2.2.2.2.1, l.length ≤ 300
theorem build_shortT (x : S24) : ShortT (buildR x) := by
 unfold buildR
 split
 ·exact ⟨Nat.zero_le _, Nat.zero_le _, Nat.zero_le _, Nat.zero_le _, fun l hl => by cases hl⟩
 ·split
  ·exact ⟨Nat.zero_le _, Nat.zero_le _, Nat.zero_le _, Nat.zero_le _, fun l hl => by cases hl⟩
  next h =>
   have hm := nodeR_made x ⟨[], []⟩ ⟨rfl, fun l hl => by cases hl⟩
   have h1 : (nodeR x ⟨[], []⟩).1.sets.length ≤ 300 := by have := hm.most; simp only [List.length_nil] at this; omega
   exact ⟨h1, Nat.le_trans hm.good.first.len h1, Nat.le_trans hm.good.last.len h1, by have := hm.fit.len; show (nodeR x ⟨[], []⟩).1.fol.length ≤ 300; omega, fun l hl => Nat.le_trans (hm.fit.good l hl).len h1⟩
/-! ### sums of lengths -/
def sumT (l : List (List Int)) (i : Nat) : Nat := ((l.take i).map List.length).sum
theorem sumT_step {l : List (List Int)} {i : Nat} (h : i < l.length) : sumT l (i + 1) = sumT l i + l[i].length := by
 unfold sumT
 rw [List.take_succ_eq_append_getElem h, List.map_append, List.sum_append]
 simp
theorem sumT_le {l : List (List Int)} (h : ∀ r ∈ l, r.length ≤ 300) : ∀ i, i ≤ l.length → sumT l i ≤ i * 300 := by
 intro i
 induction i with
 | zero => intro _; unfold sumT; simp
 | succ i ih =>
  intro hi
  rw [sumT_step (by omega)]
  have h1 := ih (by omega)
  have h2 := h _ (List.getElem_mem (show i < l.length by omega))
  omega
theorem sumT_all (l : List (List Int)) : sumT l l.length = (l.map List.length).sum := by unfold sumT; rw [List.take_length]
theorem few_fT (x : S24) (hz : Lens x) (word : List Int) : ∃ b, Evs (fun k => scansionlaw11_few.f k x.f0 x.f1 x.f2 word) b ∧ (b = true → siz x < 120 ∧ word.length ≤ 30) := by
 obtain ⟨t, ⟨K, hK⟩, h1, h2⟩ := nodes_f x hz 120 40 (by decide) (by decide) (by decide)
 by_cases q : t < 120
 ·refine ⟨decide ((word.length : Int) ≤ 30), ⟨K, fun k hk => ?_⟩, fun h => ⟨by rw [← h2 q]; exact q, by have := of_decide_eq_true h; omega⟩⟩
  show scansionlaw11_few.f k _ _ _ _ = _
  have h3 : scansionref08_Nodes.f k x.f0 x.f1 x.f2 120 40 = some (t : Int) := hK k hk
  unfold scansionlaw11_few.f
  rw [h3, Option.bind_some, if_pos (by omega)]
 ·refine ⟨false, ⟨K, fun k hk => ?_⟩, fun h => by cases h⟩
  show scansionlaw11_few.f k _ _ _ _ = _
  have h3 : scansionref08_Nodes.f k x.f0 x.f1 x.f2 120 40 = some (t : Int) := hK k hk
  unfold scansionlaw11_few.f
  rw [h3, Option.bind_some, if_neg (by omega)]
set_option maxHeartbeats 16000000 in
set_option maxRecDepth 100000 in
theorem turns_calls (x : S24) (W : World) (A : Option Addr) (c : Nat) (hC : Kd.C k24 W A x.f2.length x.f2) (hc : x.f2.length ≤ c) :
  Calls Try.prog 5 #[.agg #[.int .i64 x.f0, .int .i64 x.f1, .slice A x.f2.length c]] W fun e w' => e = .returned (.bool true) ∧ Below W.heap.size W w' := by
 have HC := Aside0.mk hC
 have HCC := Aside0.mk hc
 obtain ⟨b, ⟨K1, hK1⟩, hb⟩ := few_fT x (lens_of x hC) []
 have HND := Aside0.mk (hK1 K1 (Nat.le_refl _))
 have HBT := Aside0.mk hb
 clear hC hc hK1 hb
 go_enter Try.func5, Try.ntmps5
 go_upto_region 1 with fail
 have HB1 := Aside0.mk (below_alloc (Below.refl W.heap.size W) (.cells #[.int .i64 x.f0, .int .i64 x.f1, .slice A x.f2.length c] 24))
 have HNB1 := Aside0.mk (blk_new W (.cells #[.int .i64 x.f0, .int .i64 x.f1, .slice A x.f2.length c] 24))
 obtain ⟨NB, hNB⟩ : ∃ n, W.heap.size = n := ⟨_, rfl⟩
 obtain ⟨W1, hW1⟩ : ∃ w, W.alloc (.cells #[.int .i64 x.f0, .int .i64 x.f1, .slice A x.f2.length c] 24) = w := ⟨_, rfl⟩
 rw [hNB] at HNB1
 rw [hW1] at HB1 HNB1
 rw [hW1]
 rw [hNB]
 clear hNB hW1
 go_upto_region 2 with (go_at_call 16; refine (fawake_calls W1).mono ?_; rintro e W2 ⟨rfl, hb⟩; have HB2 := Aside0.mk (HB1.out.trans (hb.mono HB1.out.size)); have HNB2 := Aside0.mk (blk_below HNB1.out hb); clear hb)
 clear HB1 HNB1
 have n0 := (blk_cell HNB2.out 0).trans rfl
 have n1 := (blk_cell HNB2.out 1).trans rfl
 have n2 := (blk_cell HNB2.out 2).trans rfl
 go_upto_region 3 with (go_at_call 21; refine (scansionlaw11_few.calls K1 x.f0 x.f1 A c x.f2 none 0 [] b W2 (Kd.C_below HC.out HB2.out) HCC.out ⟨rfl, by simp, fun h => absurd h (Nat.lt_irrefl 0)⟩ (Nat.le_refl _) HND.out).mono ?_; rintro e W3 ⟨rfl, hb⟩; have HB3 := Aside0.mk (HB2.out.trans (hb.mono HB2.out.size)); have HNB3 := Aside0.mk (blk_below HNB2.out hb); clear hb n0 n1 n2)
 clear HB2 HNB2
 cases b with
 | false =>
  go_wp2_with fail
  go_ret
  exact ⟨rfl, HB3.out⟩
 | true =>
  have HFEW := Aside0.mk (HBT.out rfl)
  go_upto_region 5 with fail
  obtain ⟨r, hr⟩ : ∃ r, r = buildR x := ⟨_, rfl⟩
  obtain ⟨y, hy⟩ : ∃ y, y = turnN x := ⟨_, rfl⟩
  obtain ⟨t, ht⟩ : ∃ t, t = buildR y := ⟨_, rfl⟩
  have HTD := Aside0.mk (show Turned r t by rw [hr, ht, hy]; exact build_turn x)
  have HSH := Aside0.mk (show ShortT r by rw [hr]; exact build_shortT x)
  have HSG := Aside0.mk (show ShortT t by rw [ht]; exact build_shortT y)
  have HCM := Aside0.mk (show cnt x ≤ 1000000 by have h1 := cnt_siz x; have h2 := HFEW.out.1; omega)
  have HCN := Aside0.mk (show cnt y ≤ 1000000 by rw [hy, cnt_turn]; exact HCM.out)
  obtain ⟨KT, hKT⟩ := turn_f x (by have h2 := HFEW.out.1; omega)
  have HTF := Aside0.mk (show scansionref10_Turn.f KT x.f0 x.f1 x.f2 = some (y.f0, y.f1, y.f2) by rw [hy]; exact hKT KT (Nat.le_refl _))
  have HFB := Aside0.mk (show follow_Build.f x.f0 x.f1 x.f2 = some (r.1, r.2.1, r.2.2.1, r.2.2.2.1, r.2.2.2.2.1, r.2.2.2.2.2) by unfold follow_Build.f; rw [s24_eta, if_pos HCM.out, ← hr])
  have HFC := Aside0.mk (show follow_Build.f y.f0 y.f1 y.f2 = some (t.1, t.2.1, t.2.2.1, t.2.2.2.1, t.2.2.2.2.1, r.2.2.2.2.2) by unfold follow_Build.f; rw [s24_eta, if_pos HCN.out, ← ht, HTD.out.e])
  clear hr hy ht hKT
  have n0 := (blk_cell HNB3.out 0).trans rfl
  have n1 := (blk_cell HNB3.out 1).trans rfl
  have n2 := (blk_cell HNB3.out 2).trans rfl
  go_upto_region 6 with (go_at_call 18; refine (follow_Build.calls x.f0 x.f1 A c x.f2 r.1 r.2.1 r.2.2.1 r.2.2.2.1 r.2.2.2.2.1 r.2.2.2.2.2 W3 (Kd.C_below HC.out HB3.out) HCC.out HFB.out).mono ?_; rintro e W4 ⟨u1, u2, u3, u4, rfl, ho1, ho2, ho3, ho4, hb⟩; have HB4 := Aside0.mk (HB3.out.trans (hb.mono HB3.out.size)); have HNB4 := Aside0.mk (blk_below HNB3.out hb); obtain ⟨A1, c1, rfl⟩ := Kd.R_slice ho1; obtain ⟨A2, c2, rfl⟩ := Kd.R_slice ho2; obtain ⟨A3, c3, rfl⟩ := Kd.R_slice ho3; obtain ⟨A4, c4, rfl⟩ := Kd.R_slice ho4; have HO1 := Aside0.mk (Kd.R_lower ho1 HB3.out.size); have HO2 := Aside0.mk (Kd.R_lower ho2 HB3.out.size); have HO3 := Aside0.mk (Kd.R_lower ho3 HB3.out.size); have HO4 := Aside0.mk (Kd.R_lower ho4 HB3.out.size); clear ho1 ho2 ho3 ho4 hb n0 n1 n2)
  clear HB3 HNB3 
  have hbn := below_alloc (Below.refl W4.heap.size W4) (.cells #[.bool r.1, .slice A1 r.2.1.length c1, .slice A2 r.2.2.1.length c2, .slice A3 r.2.2.2.1.length c3, .slice A4 r.2.2.2.2.1.length c4] 30)
  have HAB1 := Aside0.mk (show AutoC W.heap.size W4.heap.size r (.slice A1 r.2.1.length c1) (.slice A2 r.2.2.1.length c2) (.slice A3 r.2.2.2.1.length c3) (.slice A4 r.2.2.2.2.1.length c4) (W4.alloc (.cells #[.bool r.1, .slice A1 r.2.1.length c1, .slice A2 r.2.2.1.length c2, .slice A3 r.2.2.2.1.length c3, .slice A4 r.2.2.2.2.1.length c4] 30)) from ⟨blk_new _ _, Kd.R_below HO1.out hbn, Kd.R_below HO2.out hbn, Kd.R_below HO3.out hbn, Kd.R_below HO4.out hbn⟩)
  have HBn := Aside0.mk (HB4.out.trans (hbn.mono HB4.out.size))
  have HNBn := Aside0.mk (blk_below HNB4.out hbn)
  clear hbn HO1 HO2 HO3 HO4 HB4 HNB4
  obtain ⟨B1, hB1⟩ : ∃ n, W4.heap.size = n := ⟨_, rfl⟩
  obtain ⟨W5, hW5⟩ : ∃ w, W4.alloc (.cells #[.bool r.1, .slice A1 r.2.1.length c1, .slice A2 r.2.2.1.length c2, .slice A3 r.2.2.2.1.length c3, .slice A4 r.2.2.2.2.1.length c4] 30) = w := ⟨_, rfl⟩
  rw [hB1, hW5] at HAB1
  rw [hW5] at HBn HNBn 
  rw [hW5]
  rw [hB1]
  clear hB1 hW5
  have HB4 := Aside0.mk HBn.out
  have HNB4 := Aside0.mk HNBn.out
  clear HBn HNBn
  have n0 := (blk_cell HNB4.out 0).trans rfl
  have n1 := (blk_cell HNB4.out 1).trans rfl
  have n2 := (blk_cell HNB4.out 2).trans rfl
  go_upto_region 7 with (first | (go_at_call 24; refine (scansionref10_Turn.calls KT x.f0 x.f1 A c x.f2 y.f0 y.f1 y.f2 W5 (Kd.C_below HC.out HB4.out) HCC.out HTF.out).mono ?_; rintro e W6 ⟨v9, rfl, ho, hb⟩; obtain ⟨A9, c9, rfl⟩ := Kd.R_slice ho; have HB6 := Aside0.mk (HB4.out.trans (hb.mono HB4.out.size)); have HNB6 := Aside0.mk (blk_below HNB4.out hb); have HAC1 := Aside0.mk (HAB1.out.later hb); have HO9 := Aside0.mk ho; clear ho hb n0 n1 n2) | (go_at_call 18; refine (follow_Build.calls y.f0 y.f1 A9 c9 y.f2 t.1 t.2.1 t.2.2.1 t.2.2.2.1 t.2.2.2.2.1 r.2.2.2.2.2 W6 (Kd.R_reads' HO9.out).2.2 (Kd.R_reads' HO9.out).2.1 HFC.out).mono ?_; rintro e W7 ⟨u1, u2, u3, u4, rfl, ho1, ho2, ho3, ho4, hb⟩; have HB8 := Aside0.mk (HB6.out.trans (hb.mono HB6.out.size)); have HNB8 := Aside0.mk (blk_below HNB6.out hb); have HAC1' := Aside0.mk (HAC1.out.later hb); obtain ⟨A5, c5, rfl⟩ := Kd.R_slice ho1; obtain ⟨A6, c6, rfl⟩ := Kd.R_slice ho2; obtain ⟨A7, c7, rfl⟩ := Kd.R_slice ho3; obtain ⟨A8, c8, rfl⟩ := Kd.R_slice ho4; have HO1 := Aside0.mk (Kd.R_lower ho1 HB6.out.size); have HO2 := Aside0.mk (Kd.R_lower ho2 HB6.out.size); have HO3 := Aside0.mk (Kd.R_lower ho3 HB6.out.size); have HO4 := Aside0.mk (Kd.R_lower ho4 HB6.out.size); clear ho1 ho2 ho3 ho4 hb))
  clear HB6 HNB6 HAC1 HO9 HB4 HNB4 HAB1
  have hbn := below_alloc (Below.refl W7.heap.size W7) (.cells #[.bool t.1, .slice A5 t.2.1.length c5, .slice A6 t.2.2.1.length c6, .slice A7 t.2.2.2.1.length c7, .slice A8 t.2.2.2.2.1.length c8] 30)
  have HAB2 := Aside0.mk (show AutoC W.heap.size W7.heap.size t (.slice A5 t.2.1.length c5) (.slice A6 t.2.2.1.length c6) (.slice A7 t.2.2.2.1.length c7) (.slice A8 t.2.2.2.2.1.length c8) (W7.alloc (.cells #[.bool t.1, .slice A5 t.2.1.length c5, .slice A6 t.2.2.1.length c6, .slice A7 t.2.2.2.1.length c7, .slice A8 t.2.2.2.2.1.length c8] 30)) from ⟨blk_new _ _, Kd.R_below HO1.out hbn, Kd.R_below HO2.out hbn, Kd.R_below HO3.out hbn, Kd.R_below HO4.out hbn⟩)
  have HBn := Aside0.mk (HB8.out.trans (hbn.mono HB8.out.size))
  have HNBn := Aside0.mk (blk_below HNB8.out hbn)
  have HAC1 := Aside0.mk (HAC1'.out.later hbn)
  clear HAC1'
  clear hbn HO1 HO2 HO3 HO4 HB8 HNB8
  obtain ⟨B2, hB2⟩ : ∃ n, W7.heap.size = n := ⟨_, rfl⟩
  obtain ⟨W8, hW8⟩ : ∃ w, W7.alloc (.cells #[.bool t.1, .slice A5 t.2.1.length c5, .slice A6 t.2.2.1.length c6, .slice A7 t.2.2.2.1.length c7, .slice A8 t.2.2.2.2.1.length c8] 30) = w := ⟨_, rfl⟩
  rw [hB2, hW8] at HAB2
  rw [hW8] at HBn HNBn HAC1
  rw [hW8]
  rw [hB2]
  clear hB2 hW8
  have HB8 := Aside0.mk HBn.out
  have HNB8 := Aside0.mk HNBn.out
  clear HBn HNBn
  by_cases qe : r.2.2.2.2.2 = 0
  case neg =>
   have f1 : (r.2.2.2.2.2 != 0) = true := bne_iff_ne.2 qe
   have f2 : (r.2.2.2.2.2 == r.2.2.2.2.2) = true := beq_self_eq_true _
   clear qe
   go_wp2_with fail
   go_ret
   exact ⟨rfl, HB8.out⟩
  case pos =>
   have f1 : (r.2.2.2.2.2 != 0) = false := bne_eq_false_iff_eq.2 qe
   clear qe
   go_upto_region 11 with fail
   clear f1
   go_wp2_with fail
   go_loopg [9, 10, 11] r.2.2.2.2.1.length (fun kq v9 v10 v11 w' => ∃ (i : Nat), v9 = .int .i64 (sumT r.2.2.2.2.1 i : Int) ∧ v10 = .int .i64 (sumT t.2.2.2.2.1 i : Int) ∧ v11 = .int .i64 (i : Int) ∧ Aside0 (i + kq = r.2.2.2.2.1.length) ∧ Aside0 (Below W.heap.size W w') ∧ Aside0 (AutoC W.heap.size B1 r (.slice A1 r.2.1.length c1) (.slice A2 r.2.2.1.length c2) (.slice A3 r.2.2.2.1.length c3) (.slice A4 r.2.2.2.2.1.length c4) w') ∧ Aside0 (AutoC W.heap.size B2 t (.slice A5 t.2.1.length c5) (.slice A6 t.2.2.1.length c6) (.slice A7 t.2.2.2.1.length c7) (.slice A8 t.2.2.2.2.1.length c8) w'))
   case atStart => exact ⟨0, rfl, rfl, rfl, ⟨Nat.zero_add _⟩, HB8, HAC1, HAB2⟩
   case round =>
    clear HB8 HAC1 HAB2 HNB8
    obtain ⟨i, rfl, rfl, rfl, HK, HBW, HAR, HAT⟩ := hrel
    have z4 : wr.cell? ⟨B1, 4, none⟩ = some (.slice A4 r.2.2.2.2.1.length c4) := HAR.out.cells.2.2.2.2
    have y4 : wr.cell? ⟨B2, 4, none⟩ = some (.slice A8 r.2.2.2.2.1.length c8) := by rw [HTD.out.m]; exact HAT.out.cells.2.2.2.2
    by_cases q0 : gk = 0
    ·have f1 : ¬ (i : Int) < (r.2.2.2.2.1.length : Int) := by have := HK.out; omega
     have f2 : decide ((i : Int) < (r.2.2.2.2.1.length : Int)) = false := decide_eq_false f1
     have f3 : ¬ i < r.2.2.2.2.1.length := by omega
     have HEQ := Aside0.mk (show sumT t.2.2.2.2.1 i = sumT r.2.2.2.2.1 i by
      have h1 : i = r.2.2.2.2.1.length := by have := HK.out; omega
      have h2 := sumT_all r.2.2.2.2.1
      have h3 := sumT_all t.2.2.2.2.1
      rw [← HTD.out.m, ← h1] at h3
      rw [← h1] at h2
      rw [h2, h3, HTD.out.r])
     rw [HEQ.out]
     clear q0
     have z0 : wr.cell? ⟨B1, 0, none⟩ = some (.bool r.1) := HAR.out.cells.1
     have z1 : wr.cell? ⟨B1, 1, none⟩ = some (.slice A1 r.2.1.length c1) := HAR.out.cells.2.1
     have z2 : wr.cell? ⟨B1, 2, none⟩ = some (.slice A2 r.2.2.1.length c2) := HAR.out.cells.2.2.1
     have z3 : wr.cell? ⟨B1, 3, none⟩ = some (.slice A3 r.2.2.2.1.length c3) := HAR.out.cells.2.2.2.1
     have y0 : wr.cell? ⟨B2, 0, none⟩ = some (.bool r.1) := by rw [HTD.out.z]; exact HAT.out.cells.1
     have y1 : wr.cell? ⟨B2, 1, none⟩ = some (.slice A5 r.2.1.length c5) := by rw [HTD.out.s]; exact HAT.out.cells.2.1
     have y2 : wr.cell? ⟨B2, 2, none⟩ = some (.slice A6 r.2.2.2.1.length c6) := by rw [HTD.out.l]; exact HAT.out.cells.2.2.1
     have y3 : wr.cell? ⟨B2, 3, none⟩ = some (.slice A7 r.2.2.1.length c7) := by rw [HTD.out.f]; exact HAT.out.cells.2.2.2.1
     go_wp2_with fail
     go_ret
     exact ⟨by simp, HBW.out⟩
    ·have HQ := Aside0.mk q0
     clear q0
     have HIL := Aside0.mk (show i < r.2.2.2.2.1.length by have := HK.out; have := HQ.out; omega)
     have HIM := Aside0.mk (show i < t.2.2.2.2.1.length by rw [← HTD.out.m]; exact HIL.out)
     have f1 : (i : Int) < (r.2.2.2.2.1.length : Int) := by have := HIL.out; omega
     have f2 : decide ((i : Int) < (r.2.2.2.2.1.length : Int)) = true := decide_eq_true f1
     have f3 : i < r.2.2.2.2.1.length := HIL.out
     have f4 : (0 : Int) ≤ (i : Int) := Int.natCast_nonneg i
     obtain ⟨ad, Aa, ca, ea, hxa, hla, hia⟩ := at_L3 (Kd.R_reads' HAR.out.r4).2.2 (i : Int) (Int.natCast_nonneg i) (by have := HIL.out; omega)
     obtain ⟨ae, Ab, cb, eb, hxb, hlb, hib⟩ := at_L3 (Kd.R_reads' HAT.out.r4).2.2 (i : Int) (Int.natCast_nonneg i) (by have := HIM.out; omega)
     rw [Int.toNat_natCast] at hxa hxb
     cases ea
     cases eb
     rw [rdL3_get HIL.out] at hxa
     rw [rdL3_get HIM.out] at hxb
     clear hla hia hlb hib
     have h300 : r.2.2.2.2.1.length ≤ 300 := HSH.out.h4
     have HN1 := Aside0.mk (show wrap64 ((sumT r.2.2.2.2.1 i : Int) + ((r.2.2.2.2.1[i]'HIL.out).length : Int)) = (sumT r.2.2.2.2.1 (i + 1) : Int) by
      have h1 := sumT_le HSH.out.hr (i + 1) HIL.out
      have h2 := sumT_step HIL.out
      unfold wrap64; omega)
     have HN2 := Aside0.mk (show wrap64 ((sumT t.2.2.2.2.1 i : Int) + ((t.2.2.2.2.1[i]'HIM.out).length : Int)) = (sumT t.2.2.2.2.1 (i + 1) : Int) by
      have h1 := sumT_le HSG.out.hr (i + 1) HIM.out
      have h2 := sumT_step HIM.out
      unfold wrap64; omega)
     have HW2 := Aside0.mk (show wrap64 ((i : Int) + 1) = ((i + 1 : Nat) : Int) by have := HIL.out; unfold wrap64; omega)
     clear h300
     go_wp2_with fail
     go_roundg (gk - 1)
     case measure => have := HQ.out; omega
     case rel => exact ⟨i + 1, by rw [← HN1.out], by rw [← HN2.out], by rw [← HW2.out], ⟨by have := HK.out; have := HQ.out; omega⟩, HBW, HAR, HAT⟩
end Go.Proofs.Ytemlgmkbonpniaa.Print
