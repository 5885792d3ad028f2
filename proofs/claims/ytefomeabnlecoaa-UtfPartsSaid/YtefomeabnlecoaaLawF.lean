/- Plain law of utf: what the reference's Index, Runes, Valid and Text come to. -/
import Derived.Test.YtefomeabnlecoaaPrint10
import Derived.Test.YtefomeabnlecoaaPrint12
import Derived.Test.YtefomeabnlecoaaPrint21
import Derived.Test.YtefomeabnlecoaaPrint22
import Derived.Test.YtefomeabnlecoaaPrint24
import Derived.Test.YtefomeabnlecoaaLawE
import Derived.Test.YtefomeabnlecoaaDec
-- NEEDS scansionref01_Index scansionref01_Same scansionref01_Runes scansionref01_Valid scansionref01_Text
namespace Go.Proofs.Ytefomeabnlecoaa.Pure
open Go.RowKit Go.Proofs.Ytefomeabnlecoaa.Print Go.Proofs.YtefomeabnlecoaaW.PrintWords Go.Proofs.YtefomeabnlecoaaW.PrintLast Go.Proofs.YtefomeabnlecoaaW.PrintMore
set_option linter.unusedVariables false
set_option linter.unusedSimpArgs false

theorem refDecode_f (l : List Int) (hl : IsBytes l) (hn : l.length ≤ 100000) : scansionref01_Decode.f l = some (units l) := by
  unfold scansionref01_Decode.f
  rw [if_pos ⟨hl, by omega⟩]

theorem same35_l0 (l : List S35) (hn : l.length ≤ 10000000) : ∀ (d k i : Nat), l.length - i ≤ d → d + 1 ≤ k → i ≤ l.length → scansionref01_Same.l0 k l l i = some true := by
  intro d
  induction d with
  | zero =>
    intro k i hd hk hi
    obtain ⟨k, rfl⟩ : ∃ m, k = m + 1 := ⟨k - 1, by omega⟩
    rw [scansionref01_Same.l0, if_neg (by omega)]
  | succ d ih =>
    intro k i hd hk hi
    obtain ⟨k, rfl⟩ : ∃ m, k = m + 1 := ⟨k - 1, by omega⟩
    by_cases q : i < l.length
    · rw [scansionref01_Same.l0, if_pos (by omega), if_pos (by omega), if_pos (by omega), if_neg (by simp), w64 (by omega) (by omega), show ((i : Int) + 1) = ((i + 1 : Nat) : Int) from by omega]
      exact ih k (i + 1) (by omega) (by omega) (by omega)
    · rw [scansionref01_Same.l0, if_neg (by omega)]

theorem same35_k (l : List S35) (hn : l.length ≤ 10000000) (k : Nat) (hk : l.length + 1 ≤ k) : scansionref01_Same.f k l l = some true := by
  unfold scansionref01_Same.f
  rw [if_pos rfl]
  exact same35_l0 l hn l.length k 0 (by omega) hk (by omega)

theorem refRunes_l0 (l : List S35) (hn : l.length ≤ 100000) : ∀ (d k i : Nat) (acc : List Int), l.length - i ≤ d → d + 1 ≤ k → i ≤ l.length → acc.length ≤ i → scansionref01_Runes.l0 k l acc i = some (acc ++ runesOf (l.drop i)) := by
  intro d
  induction d with
  | zero =>
    intro k i acc hd hk hi ha
    obtain ⟨k, rfl⟩ : ∃ m, k = m + 1 := ⟨k - 1, by omega⟩
    rw [scansionref01_Runes.l0, if_neg (by omega), List.drop_eq_nil_of_le (by omega)]
    simp [runesOf]
  | succ d ih =>
    intro k i acc hd hk hi ha
    obtain ⟨k, rfl⟩ : ∃ m, k = m + 1 := ⟨k - 1, by omega⟩
    by_cases q : i < l.length
    · rw [scansionref01_Runes.l0, if_pos (by omega), if_pos (by omega), if_pos (by omega), w64 (by omega) (by omega), show ((i : Int) + 1) = ((i + 1 : Nat) : Int) from by omega, ih k (i + 1) _ (by omega) (by omega) (by omega) (by rw [List.length_append, List.length_singleton]; omega), drop_cons_rd l i q]
      simp [runesOf]
    · rw [scansionref01_Runes.l0, if_neg (by omega), List.drop_eq_nil_of_le (by omega)]
      simp [runesOf]

theorem refRunes_k (l : List Int) (hl : IsBytes l) (hn : l.length ≤ 100000) (k : Nat) (hk : l.length + 1 ≤ k) : scansionref01_Runes.f k l = some (runesOf (units l)) := by
  have hu := units_len l
  unfold scansionref01_Runes.f
  rw [refDecode_f l hl hn, Option.bind_some]
  have := refRunes_l0 (units l) (by omega) (units l).length k 0 [] (by omega) (by omega) (by omega) (by simp)
  rw [List.drop_zero] at this
  exact this

theorem refValid_l0 (l : List S35) (hn : l.length ≤ 100000) : ∀ (d k i : Nat), l.length - i ≤ d → d + 1 ≤ k → i ≤ l.length → scansionref01_Valid.l0 k l i = some (noBad (l.drop i)) := by
  intro d
  induction d with
  | zero =>
    intro k i hd hk hi
    obtain ⟨k, rfl⟩ : ∃ m, k = m + 1 := ⟨k - 1, by omega⟩
    rw [scansionref01_Valid.l0, if_neg (by omega), List.drop_eq_nil_of_le (by omega)]
    rfl
  | succ d ih =>
    intro k i hd hk hi
    obtain ⟨k, rfl⟩ : ∃ m, k = m + 1 := ⟨k - 1, by omega⟩
    by_cases q : i < l.length
    · rw [scansionref01_Valid.l0, if_pos (by omega), if_pos (by omega), drop_cons_rd l i q]
      cases h : (rd_T35 l i).f3 with
      | true => simp [noBad, h]
      | false =>
        rw [if_neg (by decide), w64 (by omega) (by omega), show ((i : Int) + 1) = ((i + 1 : Nat) : Int) from by omega, ih k (i + 1) (by omega) (by omega) (by omega)]
        simp [noBad, h]
    · rw [scansionref01_Valid.l0, if_neg (by omega), List.drop_eq_nil_of_le (by omega)]
      rfl

theorem refValid_k (l : List Int) (hl : IsBytes l) (hn : l.length ≤ 100000) (k : Nat) (hk : l.length + 1 ≤ k) : scansionref01_Valid.f k l = some (noBad (units l)) := by
  have hu := units_len l
  unfold scansionref01_Valid.f
  rw [refDecode_f l hl hn, Option.bind_some]
  have := refValid_l0 (units l) (by omega) (units l).length k 0 (by omega) (by omega) (by omega)
  rw [List.drop_zero] at this
  exact this

theorem refText_l0 (l : List Int) (hn : l.length ≤ 100000) : ∀ (d k i : Nat) (acc : List Int), l.length - i ≤ d → d + 1 ≤ k → i ≤ l.length → acc.length ≤ 4 * i →
    scansionref01_Text.l0 k l acc i = some (if (l.drop i).all cp = true then (acc ++ bytesAll (l.drop i), 0) else ([], 1)) := by
  intro d
  induction d with
  | zero =>
    intro k i acc hd hk hi ha
    obtain ⟨k, rfl⟩ : ∃ m, k = m + 1 := ⟨k - 1, by omega⟩
    have e : l.drop i = [] := List.drop_eq_nil_of_le (by omega)
    rw [scansionref01_Text.l0, if_neg (by omega), e]
    simp [bytesAll]
  | succ d ih =>
    intro k i acc hd hk hi ha
    obtain ⟨k, rfl⟩ : ∃ m, k = m + 1 := ⟨k - 1, by omega⟩
    by_cases q : i < l.length
    · rw [scansionref01_Text.l0, if_pos (by omega), if_pos (by omega), refEncode_is, Option.bind_some, drop_rd l i q, List.all_cons]
      by_cases hc : cp (rd l i) = true
      · rw [if_pos hc]
        simp only [if_true]
        have hb := bytesOf_len (rd l i)
        have hw := wid_bounds (rd l i)
        rw [if_pos (by omega), w64 (by omega) (by omega)]
        rw [show ((i : Int) + 1) = ((i + 1 : Nat) : Int) from by omega, ih k (i + 1) (acc ++ bytesOf (rd l i)) (by omega) (by omega) (by omega) (by rw [List.length_append]; omega), hc, Bool.true_and]
        congr 1
        show (if _ then (_, _) else _) = (if _ then (acc ++ (bytesOf (rd l i) ++ bytesAll (l.drop (i + 1))), (0 : Int)) else _)
        rw [List.append_assoc]
      · rw [if_neg hc]
        simp only [if_false]
        rw [Bool.not_eq_true] at hc
        rw [hc, Bool.false_and]
        rfl
    · have e : l.drop i = [] := List.drop_eq_nil_of_le (by omega)
      rw [scansionref01_Text.l0, if_neg (by omega), e]
      simp [bytesAll]

theorem refText_k (l : List Int) (hn : l.length ≤ 100000) (k : Nat) (hk : l.length + 1 ≤ k) : scansionref01_Text.f k l = some (textOf l) := by
  unfold scansionref01_Text.f
  have := refText_l0 l hn l.length k 0 [] (by omega) hk (by omega) (by simp)
  rw [List.drop_zero] at this
  rw [show (0 : Int) = ((0 : Nat) : Int) from rfl, this]
  rfl

end Go.Proofs.Ytefomeabnlecoaa.Pure
