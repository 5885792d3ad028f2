/- Plain law of utf: the units lie end to end; what the reference's Index and the program's Index answer on such a chain. -/
import Derived.Test.YtefomeabnlecoaaPrint10
import Derived.Test.YtefomeabnlecoaaLawF
-- NEEDS scansionref01_Index
namespace Go.Proofs.Ytefomeabnlecoaa.Pure
open Go.RowKit Go.Proofs.Ytefomeabnlecoaa.Print Go.Proofs.YtefomeabnlecoaaW.PrintWords Go.Proofs.YtefomeabnlecoaaW.PrintLast
set_option linter.unusedVariables false
set_option linter.unusedSimpArgs false

/-- Units end to end from p on. -/
def Chain : Int → List S35 → Prop
  | _, [] => True
  | p, u :: us => u.f1 = p ∧ 1 ≤ u.f2 ∧ u.f2 ≤ 4 ∧ Chain (p + u.f2) us
def endC : Int → List S35 → Int
  | p, [] => p
  | p, u :: us => endC (p + u.f2) us

theorem endC_ge : ∀ (p : Int) (xs : List S35), Chain p xs → p + xs.length ≤ endC p xs ∧ endC p xs ≤ p + 4 * xs.length
  | p, [], _ => by simp [endC]
  | p, u :: us, ⟨_, h1, h2, h⟩ => by
    have := endC_ge _ us h
    simp only [endC, List.length_cons]
    omega

theorem chain_from (l : List Int) (hl : IsBytes l) : ∀ (k : Nat) (p : Int), 0 ≤ p → p ≤ l.length → (l.length : Int) - p ≤ k → Chain p (unitsFrom l k p) ∧ endC p (unitsFrom l k p) = l.length
  | 0, p, h0, h1, h2 => ⟨trivial, by show p = _; omega⟩
  | k + 1, p, h0, h1, h2 => by
    unfold unitsFrom
    by_cases q : p < l.length
    · have hu := unit_f2 l hl p q
      rw [if_pos q]
      have ih := chain_from l hl k (p + (unitAt l p).f2) (by omega) (by omega) (by omega)
      exact ⟨⟨unitAt_f1 l p, hu.1, hu.2.1, ih.1⟩, ih.2⟩
    · rw [if_neg q]
      exact ⟨trivial, by show p = _; omega⟩

theorem chain_units (l : List Int) (hl : IsBytes l) : Chain 0 (units l) ∧ endC 0 (units l) = l.length := chain_from l hl _ 0 (by omega) (by omega) (by omega)

/-- The last unit's end. -/
theorem endC_last : ∀ (xs : List S35) (p : Int), Chain p xs → 0 < xs.length → (rd_T35 xs ((xs.length : Int) - 1)).f1 + (rd_T35 xs ((xs.length : Int) - 1)).f2 = endC p xs
  | [u], p, h, _ => by
    show u.f1 + u.f2 = p + u.f2
    rw [h.1]
  | u :: v :: us, p, h, _ => by
    have ih := endC_last (v :: us) _ h.2.2.2 (by simp)
    have e : rd_T35 (u :: v :: us) (((u :: v :: us).length : Int) - 1) = rd_T35 (v :: us) (((v :: us).length : Int) - 1) := by
      unfold rd_T35
      rw [show (((u :: v :: us).length : Int) - 1).toNat = us.length + 1 from by simp only [List.length_cons]; omega, show (((v :: us).length : Int) - 1).toNat = us.length from by simp only [List.length_cons]; omega]
      rfl
    rw [e, ih]
    rfl

theorem endOf_chain (xs : List S35) (h : Chain 0 xs) (hn : xs.length ≤ 1000000) : endOf xs = endC 0 xs := by
  have hb := endC_ge 0 xs h
  unfold endOf
  by_cases q : 0 < xs.length
  · rw [if_pos q, endC_last xs 0 h q, w64 (by omega) (by omega)]
  · rw [if_neg q]
    cases xs with
    | nil => rfl
    | cons u us => simp at q

def refIdx (a : Int) : Int → Int → List S35 → Int
  | p, i, [] => if a = p then i else -1
  | p, i, u :: us => if u.f1 = a then i else refIdx a (u.f1 + u.f2) (i + 1) us

theorem refIndex_l0 (xs : List S35) (a : Int) (hn : xs.length ≤ 100000) : ∀ (d k i : Nat) (p : Int), xs.length - i ≤ d → d + 1 ≤ k → i ≤ xs.length → 0 ≤ p → p ≤ 4 * i → Chain p (xs.drop i) →
    scansionref01_Index.l0 k xs a p i = some (refIdx a p i (xs.drop i)) := by
  intro d
  induction d with
  | zero =>
    intro k i p hd hk hi h0 hp hc
    obtain ⟨k, rfl⟩ : ∃ m, k = m + 1 := ⟨k - 1, by omega⟩
    rw [scansionref01_Index.l0, if_neg (by omega), List.drop_eq_nil_of_le (by omega)]
    have : (i : Int) = xs.length := by omega
    simp only [refIdx, this]
    split <;> rfl
  | succ d ih =>
    intro k i p hd hk hi h0 hp hc
    obtain ⟨k, rfl⟩ : ∃ m, k = m + 1 := ⟨k - 1, by omega⟩
    by_cases q : i < xs.length
    · rw [drop_cons_rd xs i q] at hc ⊢
      obtain ⟨e1, h1, h2, hc'⟩ := hc
      rw [scansionref01_Index.l0, if_pos (by omega), if_pos (by omega)]
      by_cases g : (rd_T35 xs i).f1 = a
      · rw [if_pos g, refIdx, if_pos g]
      · rw [if_neg g, refIdx, if_neg g, w64 (by omega) (by omega), w64 (by omega) (by omega), show ((i : Int) + 1) = ((i + 1 : Nat) : Int) from by omega, ih k (i + 1) _ (by omega) (by omega) (by omega) (by omega) (by omega) (by rw [e1]; exact hc')]
    · rw [scansionref01_Index.l0, if_neg (by omega), List.drop_eq_nil_of_le (by omega)]
      have : (i : Int) = xs.length := by omega
      simp only [refIdx, this]
      split <;> rfl

theorem refIdx_is (a : Int) : ∀ (xs : List S35) (p i : Int), Chain p xs → refIdx a p i xs = if a = endC p xs then i + xs.length else idxFrom a i xs
  | [], p, i, _ => by simp [refIdx, endC, idxFrom]
  | u :: us, p, i, ⟨e1, h1, h2, h⟩ => by
    have hg := endC_ge _ us h
    have eE : endC p (u :: us) = endC (p + u.f2) us := rfl
    rw [refIdx, idxFrom, e1, refIdx_is a us _ _ h, eE]
    by_cases g : p = a
    · rw [if_pos g, if_neg (by omega), if_pos g]
    · rw [if_neg g, if_neg g]
      by_cases g2 : a = endC (p + u.f2) us
      · rw [if_pos g2, if_pos g2, List.length_cons]; omega
      · rw [if_neg g2, if_neg g2]

theorem refIndex_k (l : List Int) (hl : IsBytes l) (a : Int) (hn : l.length ≤ 100000) (k : Nat) (hk : l.length + 1 ≤ k) : scansionref01_Index.f k (units l) a = utf_Index.f (units l) a := by
  have hu := units_len l
  have hc := chain_units l hl
  unfold scansionref01_Index.f utf_Index.f
  rw [endOf_chain _ hc.1 (by omega)]
  have := refIndex_l0 (units l) a (by omega) (units l).length k 0 0 (by omega) (by omega) (by omega) (by omega) (by omega) hc.1
  rw [List.drop_zero, refIdx_is a _ _ _ hc.1] at this
  rw [show (0 : Int) = ((0 : Nat) : Int) from rfl, show (((0 : Nat) : Int)) + ((units l).length : Int) = (units l).length from by omega] at this
  exact this

end Go.Proofs.Ytefomeabnlecoaa.Pure
