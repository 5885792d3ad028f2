/- follow.count: how many places. -/
import Derived.Test.YtemlgmkbonpniaaRPlaces
import Derived.Test.YtemlgmkbonpniaaPrint3
namespace Go.Proofs.Ytemlgmkbonpniaa.Print
open Go.RowKit Go.Maps Go.Proofs.YtemlgmkbonpniaaW.PrintWords Go.Proofs.YtemlgmkbonpniaaW.PrintLast Go.Proofs.YtemlgmkbonpniaaW.PrintMore
set_option linter.unusedVariables false
set_option linter.unusedSimpArgs false
theorem cnt_mem {l : List S24} {x : S24} (h : x ∈ l) : cnt x ≤ cntL l := by
 induction l with
 | nil => cases h
 | cons y l ih =>
  rw [cntL]
  rcases List.mem_cons.1 h with rfl | h
  ·omega
  ·have := ih h; omega
theorem count_l0 (kids : List S24) (ih : ∀ y ∈ kids, Evs (fun k => follow_count.f k y.f0 y.f1 y.f2) ((cnt y : Nat) : Int)) (hl : kids.length ≤ 9223372036854775807) :
  ∀ (n i c : Nat), i + n = kids.length → c + cntL (kids.drop i) ≤ 1000000 → Evs (fun k => follow_count.l0 k (c : Int) kids (kids.length : Int) (i : Int)) ((c + cntL (kids.drop i) : Nat) : Int) := by
 intro n
 induction n with
 | zero =>
  intro i c hi hc
  refine ⟨1, fun k hk => ?_⟩
  obtain ⟨k, rfl⟩ : ∃ j, k = j + 1 := ⟨k - 1, by omega⟩
  show follow_count.l0 (k + 1) _ _ _ _ = _
  rw [follow_count.l0, if_neg (by omega), List.drop_eq_nil_of_le (by omega), cntL, Nat.add_zero]
 | succ n ihn =>
  intro i c hi hc
  have hil : i < kids.length := by omega
  rw [List.drop_eq_getElem_cons hil, cntL] at hc
  obtain ⟨K1, hK1⟩ := ih kids[i] (List.getElem_mem hil)
  obtain ⟨p, hp⟩ : ∃ p, p = cnt kids[i] := ⟨_, rfl⟩
  rw [← hp] at hK1 hc
  obtain ⟨K2, hK2⟩ := ihn (i + 1) (c + p) (by omega) (by omega)
  refine ⟨K1 + K2 + 1, fun k hk => ?_⟩
  obtain ⟨k, rfl⟩ : ∃ j, k = j + 1 := ⟨k - 1, by omega⟩
  show follow_count.l0 (k + 1) _ _ _ _ = _
  have g1 : (i : Int) < (kids.length : Int) := by omega
  have g3 : 0 ≤ (i : Int) := by omega
  have hk1 : follow_count.f k kids[i].f0 kids[i].f1 kids[i].f2 = _ := hK1 k (by omega)
  have hk2 : follow_count.l0 k _ _ _ _ = _ := hK2 k (by omega)
  have e2 : wrap64 ((c : Int) + (p : Int)) = ((c + p : Nat) : Int) := by unfold wrap64; omega
  have e3 : wrap64 ((i : Int) + 1) = ((i + 1 : Nat) : Int) := by clear e2; unfold wrap64; omega
  rw [follow_count.l0, if_pos g1, if_pos g3, if_pos g1, rd_get hil, hk1]
  show follow_count.l0 k _ _ _ _ = _
  rw [e2, e3, hk2, List.drop_eq_getElem_cons hil, cntL, ← hp]
  congr 2
  omega
theorem count_f : ∀ (x : S24), Lens x → cnt x ≤ 1000000 → Evs (fun k => follow_count.f k x.f0 x.f1 x.f2) ((cnt x : Nat) : Int) := by
 refine node_ind (P := fun x => Lens x → cnt x ≤ 1000000 → Evs (fun k => follow_count.f k x.f0 x.f1 x.f2) ((cnt x : Nat) : Int)) (fun x ih hz hm => ?_)
 obtain ⟨_, hzl, hzk⟩ := hz
 obtain ⟨a, b, kids⟩ := x
 by_cases q : a = 1
 ·refine ⟨1, fun k hk => ?_⟩
  obtain ⟨k, rfl⟩ : ∃ j, k = j + 1 := ⟨k - 1, by omega⟩
  show follow_count.f (k + 1) a b kids = _
  rw [follow_count.f, if_pos q, cnt, if_pos q]
  rfl
 ·rw [cnt, if_neg q] at hm
  obtain ⟨K, hK⟩ := count_l0 kids (fun y hy => ih y hy (hzk y hy) (Nat.le_trans (cnt_mem hy) hm)) hzl kids.length 0 0 (by omega) (by rw [List.drop_zero]; omega)
  refine ⟨K + 1, fun k hk => ?_⟩
  obtain ⟨k, rfl⟩ : ∃ j, k = j + 1 := ⟨k - 1, by omega⟩
  show follow_count.f (k + 1) a b kids = _
  rw [follow_count.f, if_neg q, cnt, if_neg q]
  have := hK k (by omega)
  rw [List.drop_zero, Nat.zero_add] at this
  exact this
theorem count_calls (x : S24) (W : World) (A : Option Addr) (c : Nat) (hC : Kd.C k24 W A x.f2.length x.f2) (hc : x.f2.length ≤ c) (hm : cnt x ≤ 1000000) :
  Calls Try.prog 47 #[.agg #[.int .i64 x.f0, .int .i64 x.f1, .slice A x.f2.length c]] W fun e w' => e = .returned (.int .i64 ((cnt x : Nat) : Int)) ∧ Below W.heap.size W w' := by
 obtain ⟨K, hK⟩ := count_f x (lens_of x hC) hm
 exact follow_count.calls K x.f0 x.f1 A c x.f2 _ W hC hc (hK K (Nat.le_refl _))
end Go.Proofs.Ytemlgmkbonpniaa.Print
