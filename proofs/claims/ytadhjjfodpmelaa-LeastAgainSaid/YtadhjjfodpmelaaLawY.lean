/- What the reference of chapter 12 says of states: the same. -/
import Derived.Test.YtadhjjfodpmelaaPrint13
import Derived.Test.YtadhjjfodpmelaaLawM
-- NEEDS scansionref12_Same
namespace Go.Proofs.Ytadhjjfodpmelaa.Pure
open Go.RowKit Go.Proofs.Ytadhjjfodpmelaa.Print Go.Proofs.YtadhjjfodpmelaaW.PrintWords Go.Proofs.YtadhjjfodpmelaaW.PrintLast
set_option linter.unusedVariables false
set_option linter.unusedSimpArgs false

theorem ev_same (a : List (List Int)) (b : List Bool) (a' : List (List Int)) (b' : List Bool) (ha : a.length < 9223372036854775807) (hb : b.length < 9223372036854775807) (hr : ∀ r ∈ a, r.length < 9223372036854775807) : Ev (fun k => scansionref12_Same.f k a b a' b') (decide (a = a' ∧ b = b')) := by
  have go1 : a = a' → b.length = b'.length → ∀ (c i : Nat), i + c = b.length → (∀ j : Nat, j < i → rdOf false b j = rdOf false b' j) → Ev (fun k => scansionref12_Same.l1 k i a b a' b') (decide (a = a' ∧ b = b')) := by
    intro ea he c
    induction c with
    | zero =>
      intro i hi hj
      rw [decide_eq_true ⟨ea, rdOf_ext he fun j h => hj j (by omega)⟩]
      refine Ev.succ (Ev.some_ true) fun k => ?_
      rw [scansionref12_Same.l1, if_neg (by omega)]
    | succ c ih =>
      intro i hi hj
      by_cases q : rdOf false b i = rdOf false b' i
      · refine Ev.succ (ih (i + 1) (by omega) (fun j h => ?_)) fun k => ?_
        · by_cases e : j = i
          · rw [e]; exact q
          · exact hj j (by omega)
        · rw [scansionref12_Same.l1, if_pos (by omega), if_pos (by omega), if_pos (by omega), if_neg (by rw [q]; simp), wrap_succ (by omega)]
      · rw [decide_eq_false (fun e => q (by rw [e.2]))]
        refine Ev.succ (Ev.some_ false) fun k => ?_
        rw [scansionref12_Same.l1, if_pos (by omega), if_pos (by omega), if_pos (by omega), if_pos (by simpa using q)]
  have go : a.length = a'.length → b.length = b'.length → ∀ (c i : Nat), i + c = a.length → (∀ j : Nat, j < i → rd_L1 a j = rd_L1 a' j) → Ev (fun k => scansionref12_Same.l0 k i a b a' b') (decide (a = a' ∧ b = b')) := by
    intro he hf c
    induction c with
    | zero =>
      intro i hi hj
      refine Ev.succ (go1 (rdL1_ext he fun j h => hj j (by omega)) hf b.length 0 (by omega) (fun j h => absurd h (by omega))) fun k => ?_
      rw [scansionref12_Same.l0, if_neg (by omega)]
      rfl
    | succ c ih =>
      intro i hi hj
      have hm : (rd_L1 a i).length < 9223372036854775807 := hr _ (mem_rdL1 (by omega))
      refine Ev.succ (g := fun k => (scansionref01_SameInts.f k (rd_L1 a i) (rd_L1 a' i)).bind fun t320 => (if t320 = true then (scansionref12_Same.l0 k (wrap64 ((i : Int) + 1)) a b a' b') else (some false))) (Ev.bind (ev_sameInts _ _ hm) ?_) fun k => ?_
      · by_cases q : rd_L1 a i = rd_L1 a' i
        · rw [decide_eq_true q]
          refine Ev.congr (ih (i + 1) (by omega) (fun j h => ?_)) fun k => ?_
          · by_cases e : j = i
            · rw [e]; exact q
            · exact hj j (by omega)
          · rw [if_pos rfl, wrap_succ (by omega)]
        · rw [decide_eq_false q, decide_eq_false (fun e => q (by rw [e.1]))]
          refine Ev.congr (Ev.some_ false) fun k => ?_
          rw [if_neg (by decide)]
      · rw [scansionref12_Same.l0, if_pos (by omega), if_pos (by omega), if_pos (by omega)]
  by_cases q : a.length = a'.length
  · by_cases q2 : b.length = b'.length
    · refine Ev.succ (go q q2 a.length 0 (by omega) (fun j h => absurd h (by omega))) fun k => ?_
      rw [scansionref12_Same.f, if_pos (by omega), q2, bne_self_eq_false, scansionref12_Same.j0, if_neg (by decide)]
      rfl
    · rw [decide_eq_false (fun e => q2 (by rw [e.2]))]
      refine Ev.succ (Ev.some_ false) fun k => ?_
      rw [scansionref12_Same.f, if_pos (by omega), bne_iff_ne.2 (by omega), scansionref12_Same.j0, if_pos rfl]
  · rw [decide_eq_false (fun e => q (by rw [e.1]))]
    refine Ev.succ (Ev.some_ false) fun k => ?_
    rw [scansionref12_Same.f, if_neg (by omega), scansionref12_Same.j0, if_pos rfl]
end Go.Proofs.Ytadhjjfodpmelaa.Pure
