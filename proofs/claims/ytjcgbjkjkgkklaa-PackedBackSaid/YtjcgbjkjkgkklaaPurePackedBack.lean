/- For all states and all bytes: what was saved is loaded as it was; what was loaded is saved as it stood there, and may be. -/
import Derived.Test.YtjcgbjkjkgkklaaPrint19
import Derived.Test.YtjcgbjkjkgkklaaPrint20
import Derived.Test.YtjcgbjkjkgkklaaPrint22
import Derived.Test.YtjcgbjkjkgkklaaPurePackedSaves
import Derived.Test.YtjcgbjkjkgkklaaLawM
import Derived.Test.YtjcgbjkjkgkklaaLoad
-- NEEDS scansionlaw14_PackedBack scansionref12_Same scansionref01_SameInts
namespace Go.Proofs.Ytjcgbjkjkgkklaa.Pure
open Go.RowKit Go.Proofs.Ytjcgbjkjkgkklaa.Print Go.Proofs.YtjcgbjkjkgkklaaW.PrintWords Go.Proofs.YtjcgbjkjkgkklaaW.PrintLast
set_option linter.unusedVariables false

theorem ev_sameInts (l : List Int) (hl : l.length < 9223372036854775807) : Ev (fun k => scansionref01_SameInts.f k l l) true := by
  have go : ∀ (c i : Nat), i + c = l.length → Ev (fun k => scansionref01_SameInts.l0 k l l i) true := by
    intro c
    induction c with
    | zero =>
      intro i hi
      refine Ev.succ (Ev.some_ true) fun k => ?_
      rw [scansionref01_SameInts.l0, if_neg (by omega)]
    | succ c ih =>
      intro i hi
      refine Ev.succ (ih (i + 1) (by omega)) fun k => ?_
      rw [scansionref01_SameInts.l0, if_pos (by omega), if_pos (by omega), if_pos (by omega), if_pos rfl, wrap_succ (by omega)]
  refine Ev.congr (go l.length 0 (by omega)) fun k => ?_
  rw [scansionref01_SameInts.f, if_pos rfl]
  rfl

theorem ev_same (a : List (List Int)) (b : List Bool) (ha : a.length < 9223372036854775807) (hb : b.length < 9223372036854775807) (hr : ∀ r ∈ a, r.length < 9223372036854775807) : Ev (fun k => scansionref12_Same.f k a b a b) true := by
  have go1 : ∀ (c i : Nat), i + c = b.length → Ev (fun k => scansionref12_Same.l1 k i a b a b) true := by
    intro c
    induction c with
    | zero =>
      intro i hi
      refine Ev.succ (Ev.some_ true) fun k => ?_
      rw [scansionref12_Same.l1, if_neg (by omega)]
    | succ c ih =>
      intro i hi
      refine Ev.succ (ih (i + 1) (by omega)) fun k => ?_
      rw [scansionref12_Same.l1, if_pos (by omega), if_pos (by omega), if_pos (by omega), if_neg (by simp), wrap_succ (by omega)]
  have go : ∀ (c i : Nat), i + c = a.length → Ev (fun k => scansionref12_Same.l0 k i a b a b) true := by
    intro c
    induction c with
    | zero =>
      intro i hi
      refine Ev.succ (go1 b.length 0 (by omega)) fun k => ?_
      rw [scansionref12_Same.l0, if_neg (by omega)]
      rfl
    | succ c ih =>
      intro i hi
      have hm : (rd_L2 a i).length < 9223372036854775807 := hr _ (by rw [rdL2_nat, List.getD_eq_getElem?_getD, List.getElem?_eq_getElem (by omega : i < a.length), Option.getD_some]; exact List.getElem_mem _)
      refine Ev.succ (g := fun k => (scansionref01_SameInts.f k (rd_L2 a i) (rd_L2 a i)).bind fun t320 => (if t320 = true then (scansionref12_Same.l0 k (wrap64 ((i : Int) + 1)) a b a b) else (some false))) (Ev.bind (ev_sameInts _ hm) (Ev.congr (ih (i + 1) (by omega)) fun k => ?_)) fun k => ?_
      · rw [if_pos rfl, wrap_succ (by omega)]
      · rw [scansionref12_Same.l0, if_pos (by omega), if_pos (by omega), if_pos (by omega)]
  refine Ev.succ (go a.length 0 (by omega)) fun k => ?_
  rw [scansionref12_Same.f, if_pos rfl, bne_self_eq_false, scansionref12_Same.j0, if_neg (by decide)]
  rfl

theorem load_f {l : List Int} (hb : ∀ x ∈ l, 0 ≤ x ∧ x ≤ 255) : packed_Load.f l = some (loadOf l) := by unfold packed_Load.f; rw [if_pos hb]
theorem save_f (a : List (List Int)) (b : List Bool) : packed_Save.f a b = some (if rightB a b = true then (saveOf a b, 0) else ([], 1)) := by
  unfold packed_Save.f
  split <;> rfl

theorem ev_back_j1 (l : List Int) (hb : ∀ x ∈ l, 0 ≤ x ∧ x ≤ 255) : Ev (fun k => scansionlaw14_PackedBack.j1 k l) true := by
  rcases load_inv l hb with h | ⟨a, b, h, hr, hs⟩
  · refine Ev.succ (Ev.some_ true) fun k => ?_
    rw [scansionlaw14_PackedBack.j1, load_f hb, h, Option.bind_some, if_neg (by simp), if_pos rfl]
    rfl
  · refine Ev.succ (g := fun k => (scansionref12_Right.f k a b).bind fun t369 => (if t369 = true then (if (0 : Int) = 0 then (some ((strOfNums (saveOf a b)).toList == (strOfNums l).toList)) else (some false)) else (some false))) ?_ fun k => ?_
    · have := ev_right a b
      rw [hr] at this
      refine Ev.bind this (Ev.congr (Ev.some_ true) fun k => ?_)
      rw [if_pos rfl, if_pos rfl, hs, beq_self_eq_true]
    · rw [scansionlaw14_PackedBack.j1, load_f hb, h, Option.bind_some, if_pos rfl, save_f, if_pos hr, Option.bind_some]

theorem PackedBack (a : List (List Int)) (b : List Bool) (l : List Int) (ha : a.length ≤ maxLen) (hb : ∀ x ∈ l, 0 ≤ x ∧ x ≤ 255) : ∃ k, scansionlaw14_PackedBack.f k a b l = some true := by
  have h : Ev (fun k => scansionlaw14_PackedBack.f k a b l) true := by
    unfold scansionlaw14_PackedBack.f
    refine Ev.bind ev_awake (Ev.bind (ev_few a b 300 ha) ?_)
    by_cases q : fewB a b 300 = true
    · rw [q]
      by_cases q2 : (l.length : Int) > 5000
      · refine Ev.succ (Ev.some_ true) fun k => ?_
        rw [if_pos rfl, if_pos rfl, decide_eq_true q2, scansionlaw14_PackedBack.j0, if_pos rfl]
      · by_cases hr : rightB a b = true
        · obtain ⟨h1, h2, h3, h4, h5, h6⟩ := (rightB_iff a b).1 hr
          refine Ev.succ (g := fun k => (scansionref12_Same.f k a b a b).bind fun t356 => (if (0 : Int) = 0 then (if t356 = true then (scansionlaw14_PackedBack.j1 k l) else (some false)) else (some false))) (Ev.bind (ev_same a b (by omega) (by omega) (fun r hr => by have := (h6 r hr).1; omega)) (Ev.congr (ev_back_j1 l hb) fun k => ?_)) fun k => ?_
          · rw [if_pos rfl, if_pos rfl]
          · rw [if_pos rfl, if_pos rfl, decide_eq_false q2, scansionlaw14_PackedBack.j0, if_neg (by decide), save_f, if_pos hr, Option.bind_some, if_pos rfl, load_f (saveOf_byte a b hr), load_save a b hr, Option.bind_some]
        · refine Ev.succ (ev_back_j1 l hb) fun k => ?_
          rw [if_pos rfl, if_pos rfl, decide_eq_false q2, scansionlaw14_PackedBack.j0, if_neg (by decide), save_f, if_neg hr, Option.bind_some, if_neg (by simp)]
    · refine Ev.succ (Ev.some_ true) fun k => ?_
      rw [if_pos rfl, if_neg q, scansionlaw14_PackedBack.j0, if_pos rfl]
  obtain ⟨K, hK⟩ := h
  exact ⟨K, hK K (Nat.le_refl _)⟩
end Go.Proofs.Ytjcgbjkjkgkklaa.Pure
