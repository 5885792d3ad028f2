/- Sorting and compacting two rising rows: it is bothR. -/
import Derived.Test.YtemlgmkbonpniaaRAftM
import Derived.Lib.SlicesCompact
namespace Go.Proofs.Ytemlgmkbonpniaa.Print
open Go.RowKit Go.Maps Go.Proofs.YtemlgmkbonpniaaW.PrintWords Go.Proofs.YtemlgmkbonpniaaW.PrintLast Go.Proofs.YtemlgmkbonpniaaW.PrintMore
set_option linter.unusedVariables false
set_option linter.unusedSimpArgs false
def sortI (xs : List Int) : List Int := xs.mergeSort fun x y => decide (x ≤ y)
theorem sortI_perm (xs : List Int) : (sortI xs).Perm xs := List.mergeSort_perm ..
theorem sortI_mem {xs : List Int} {x : Int} : x ∈ sortI xs ↔ x ∈ xs := (sortI_perm xs).mem_iff
theorem sortI_sorted (xs : List Int) : (sortI xs).Pairwise (· ≤ ·) := by
 have := List.pairwise_mergeSort (le := fun (x y : Int) => decide (x ≤ y)) (fun a b c h1 h2 => by simp at *; omega) (fun a b => by simp; omega) xs
 exact this.imp (by simp)
theorem compact_mem {zs : List Int} {t : Int} : t ∈ Lib.compact zs ↔ t ∈ zs := by
 unfold Lib.compact Lib.compactUpTo
 constructor
 ·intro h
  obtain ⟨j, hj, rfl⟩ := List.mem_map.1 h
  have hj2 := List.mem_range.1 (List.mem_filter.1 hj).1
  have : zs.toArray[j]! = zs[j] := by simp [hj2]
  rw [this]
  exact List.getElem_mem hj2
 ·intro h
  obtain ⟨j, hj, rfl⟩ := List.mem_iff_getElem.1 h
  have key : ∀ j (hj : j < zs.length), zs[j] ∈ ((List.range zs.length).filter (Lib.keeps zs.toArray)).map (zs.toArray[·]!) := by
   intro j
   induction j with
   | zero =>
    intro hj
    refine List.mem_map.2 ⟨0, List.mem_filter.2 ⟨List.mem_range.2 hj, by simp [Lib.keeps]⟩, by simp [hj]⟩
   | succ j ih =>
    intro hj
    by_cases e : zs[j + 1] = zs[j]
    ·rw [e]; exact ih (by omega)
    ·refine List.mem_map.2 ⟨j + 1, List.mem_filter.2 ⟨List.mem_range.2 hj, ?_⟩, by simp [hj]⟩
     have h1 : zs.toArray[j + 1]! = zs[j + 1] := by simp [hj]
     have h2 : zs.toArray[j]! = zs[j] := by simp [show j < zs.length by omega]
     unfold Lib.keeps
     rw [decide_eq_true_eq]
     right
     rw [h1, Nat.add_sub_cancel, h2]
     exact e
  exact key j hj
theorem compact_rise {zs : List Int} (h : zs.Pairwise (· ≤ ·)) : (Lib.compact zs).Pairwise (· < ·) := by
 unfold Lib.compact Lib.compactUpTo
 rw [List.pairwise_map]
 have h1 : ((List.range zs.length).filter (Lib.keeps zs.toArray)).Pairwise (· < ·) := List.Pairwise.filter _ List.pairwise_lt_range
 refine h1.imp_of_mem (fun {a b} ha hb hab => ?_)
 have hb1 := List.mem_range.1 (List.mem_filter.1 hb).1
 have hb2 := (List.mem_filter.1 hb).2
 unfold Lib.keeps at hb2
 rw [decide_eq_true_eq] at hb2
 have e1 : zs.toArray[a]! = zs[a]'(by omega) := by simp [show a < zs.length by omega]
 have e2 : zs.toArray[b]! = zs[b] := by simp [hb1]
 have e3 : zs.toArray[b - 1]! = zs[b - 1]'(by omega) := by simp [show b - 1 < zs.length by omega]
 rw [e1, e2]
 rcases hb2 with q | q
 ·omega
 ·rw [e2, e3] at q
  have g := List.pairwise_iff_getElem.1 h
  have g1 : zs[b - 1]'(by omega) ≤ zs[b] := g (b - 1) b (by omega) hb1 (by omega)
  have g2 : zs[a]'(by omega) ≤ zs[b - 1]'(by omega) := by
   by_cases w : a = b - 1
   ·subst w; exact Int.le_refl _
   ·exact g a (b - 1) (by omega) (by omega) (by omega)
  omega
/-- Rising rows of the same numbers are one. -/
theorem rise_ext : ∀ (a b : List Int), a.Pairwise (· < ·) → b.Pairwise (· < ·) → (∀ t, t ∈ a ↔ t ∈ b) → a = b := by
 intro a
 induction a with
 | nil =>
  intro b _ _ h
  cases b with
  | nil => rfl
  | cons y b => exact absurd ((h y).2 List.mem_cons_self) (by simp)
 | cons x a ih =>
  intro b ha hb h
  cases b with
  | nil => exact absurd ((h x).1 List.mem_cons_self) (by simp)
  | cons y b =>
   obtain ⟨a1, a2⟩ := List.pairwise_cons.1 ha
   obtain ⟨b1, b2⟩ := List.pairwise_cons.1 hb
   have e : x = y := by
    rcases List.mem_cons.1 ((h x).1 List.mem_cons_self) with q | q
    ·exact q
    ·rcases List.mem_cons.1 ((h y).2 List.mem_cons_self) with w | w
     ·exact w.symm
     ·have := b1 x q
      have := a1 y w
      omega
   subst e
   rw [ih b a2 b2 (fun t => ⟨fun ht => ?_, fun ht => ?_⟩)]
   ·rcases List.mem_cons.1 ((h t).1 (List.mem_cons_of_mem _ ht)) with q | q
    ·have := a1 t ht; omega
    ·exact q
   ·rcases List.mem_cons.1 ((h t).2 (List.mem_cons_of_mem _ ht)) with q | q
    ·have := b1 t ht; omega
    ·exact q
def withR (a b : List Int) : List Int := Lib.compact (sortI (a ++ b))
theorem withR_is {a b : List Int} (ha : a.Pairwise (· < ·)) : withR a b = bothR a b :=
 rise_ext _ _ (compact_rise (sortI_sorted _)) (bothR_rise ha) (fun t => by unfold withR; rw [compact_mem, sortI_mem, List.mem_append, bothR_mem])
end Go.Proofs.Ytemlgmkbonpniaa.Print
