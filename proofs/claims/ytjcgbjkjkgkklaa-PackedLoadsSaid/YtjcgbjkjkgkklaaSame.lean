/- What the reference of chapter 12 says of the same states; packed.Save and packed.Load at once. -/
import Derived.Test.YtjcgbjkjkgkklaaPrint19
import Derived.Test.YtjcgbjkjkgkklaaPrint20
import Derived.Test.YtjcgbjkjkgkklaaLawM
import Derived.Test.YtjcgbjkjkgkklaaLoad
-- NEEDS scansionref12_Same scansionref01_SameInts
namespace Go.Proofs.Ytjcgbjkjkgkklaa.Pure
open Go.RowKit Go.Proofs.Ytjcgbjkjkgkklaa.Print Go.Proofs.YtjcgbjkjkgkklaaW.PrintWords Go.Proofs.YtjcgbjkjkgkklaaW.PrintLast
set_option linter.unusedVariables false

theorem ev_sameInts (l : List Int) (hl : l.length < 9223372036854775807) : Ev (fun k => scansionref01_SameInts.f k l l) true := by
  have go : ∀ (c i : Nat), i + c = l.length → Ev (fun k => scansionref01_SameInts.l0 k l l i) true := by
    intro c
    induction c with
    | zero =>
      intro i hi
      refine Ev.succ (Ev.some_ true) fun k => ?_
      rw [scansionref01_SameInts.l0, if_neg (by omega)]
    | succ c ih =>
      intro i hi
      refine Ev.succ (ih (i + 1) (by omega)) fun k => ?_
      rw [scansionref01_SameInts.l0, if_pos (by omega), if_pos (by omega), if_pos (by omega), if_pos rfl, wrap_succ (by omega)]
  refine Ev.congr (go l.length 0 (by omega)) fun k => ?_
  rw [scansionref01_SameInts.f, if_pos rfl]
  rfl

theorem ev_same (a : List (List Int)) (b : List Bool) (ha : a.length < 9223372036854775807) (hb : b.length < 9223372036854775807) (hr : ∀ r ∈ a, r.length < 9223372036854775807) : Ev (fun k => scansionref12_Same.f k a b a b) true := by
  have go1 : ∀ (c i : Nat), i + c = b.length → Ev (fun k => scansionref12_Same.l1 k i a b a b) true := by
    intro c
    induction c with
    | zero =>
      intro i hi
      refine Ev.succ (Ev.some_ true) fun k => ?_
      rw [scansionref12_Same.l1, if_neg (by omega)]
    | succ c ih =>
      intro i hi
      refine Ev.succ (ih (i + 1) (by omega)) fun k => ?_
      rw [scansionref12_Same.l1, if_pos (by omega), if_pos (by omega), if_pos (by omega), if_neg (by simp), wrap_succ (by omega)]
  have go : ∀ (c i : Nat), i + c = a.length → Ev (fun k => scansionref12_Same.l0 k i a b a b) true := by
    intro c
    induction c with
    | zero =>
      intro i hi
      refine Ev.succ (go1 b.length 0 (by omega)) fun k => ?_
      rw [scansionref12_Same.l0, if_neg (by omega)]
      rfl
    | succ c ih =>
      intro i hi
      have hm : (rd_L2 a i).length < 9223372036854775807 := hr _ (by rw [rdL2_nat, List.getD_eq_getElem?_getD, List.getElem?_eq_getElem (by omega : i < a.length), Option.getD_some]; exact List.getElem_mem _)
      refine Ev.succ (g := fun k => (scansionref01_SameInts.f k (rd_L2 a i) (rd_L2 a i)).bind fun t320 => (if t320 = true then (scansionref12_Same.l0 k (wrap64 ((i : Int) + 1)) a b a b) else (some false))) (Ev.bind (ev_sameInts _ hm) (Ev.congr (ih (i + 1) (by omega)) fun k => ?_)) fun k => ?_
      · rw [if_pos rfl, wrap_succ (by omega)]
      · rw [scansionref12_Same.l0, if_pos (by omega), if_pos (by omega), if_pos (by omega)]
  refine Ev.succ (go a.length 0 (by omega)) fun k => ?_
  rw [scansionref12_Same.f, if_pos rfl, bne_self_eq_false, scansionref12_Same.j0, if_neg (by decide)]
  rfl

theorem load_f {l : List Int} (hb : ∀ x ∈ l, 0 ≤ x ∧ x ≤ 255) : packed_Load.f l = some (loadOf l) := by unfold packed_Load.f; rw [if_pos hb]
theorem save_f (a : List (List Int)) (b : List Bool) : packed_Save.f a b = some (if rightB a b = true then (saveOf a b, 0) else ([], 1)) := by
  unfold packed_Save.f
  split <;> rfl

end Go.Proofs.Ytjcgbjkjkgkklaa.Pure
