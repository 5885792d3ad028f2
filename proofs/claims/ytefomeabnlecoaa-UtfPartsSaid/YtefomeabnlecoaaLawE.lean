/- Plain law of utf: what Text, SameInts and awake come to; UtfBack and UtfJoins. -/
import Derived.Test.YtefomeabnlecoaaPrint17
import Derived.Test.YtefomeabnlecoaaPrint19
import Derived.Test.YtefomeabnlecoaaLawD
-- NEEDS utf_Text scansionref01_SameInts
namespace Go.Proofs.Ytefomeabnlecoaa.Pure
open Go.RowKit Go.Proofs.Ytefomeabnlecoaa.Print Go.Proofs.YtefomeabnlecoaaW.PrintWords Go.Proofs.YtefomeabnlecoaaW.PrintLast Go.Proofs.YtefomeabnlecoaaW.PrintMore
set_option linter.unusedVariables false
set_option linter.unusedSimpArgs false

theorem encode_k (r : Int) (k : Nat) (hk : 10 ≤ k) : utf_Encode.f k r = some (if cp r = true then (bytesOf r, 0) else ([], 1)) :=
  at_rounds (g := fun k => utf_Encode.f k r) (fun k => utf_Encode.mono r k) hk (encode_is r)
theorem awake_k (k : Nat) (hk : 10 ≤ k) : scansionlaw01_awake.f k = some true :=
  at_rounds (g := fun k => scansionlaw01_awake.f k) (fun k => scansionlaw01_awake.mono k) hk awake_is

theorem drop_rd (l : List Int) (i : Nat) (h : i < l.length) : l.drop i = rd l i :: l.drop (i + 1) := by
  rw [List.drop_eq_getElem_cons h]
  simp [rd, List.getD_eq_getElem?_getD, List.getElem?_eq_getElem h]

theorem text_l0 (l : List Int) (hn : l.length ≤ 100000) : ∀ (d k i : Nat) (acc : List Int), l.length - i ≤ d → d + 12 ≤ k → i ≤ l.length → acc.length ≤ 4 * i →
    utf_Text.l0 k acc l (l.length : Int) i = some (if (l.drop i).all cp = true then (acc ++ bytesAll (l.drop i), 0) else ([], 1)) := by
  intro d
  induction d with
  | zero =>
    intro k i acc hd hk hi ha
    obtain ⟨k, rfl⟩ : ∃ m, k = m + 1 := ⟨k - 1, by omega⟩
    have e : l.drop i = [] := List.drop_eq_nil_of_le (by omega)
    rw [utf_Text.l0, if_neg (by omega), e]
    simp [bytesAll]
  | succ d ih =>
    intro k i acc hd hk hi ha
    obtain ⟨k, rfl⟩ : ∃ m, k = m + 1 := ⟨k - 1, by omega⟩
    by_cases q : i < l.length
    · rw [utf_Text.l0, if_pos (by omega), if_pos (by omega), if_pos (by omega), encode_k _ k (by omega), Option.bind_some, drop_rd l i q, List.all_cons]
      by_cases hc : cp (rd l i) = true
      · rw [if_pos hc]
        simp only [if_true]
        have hb := bytesOf_len (rd l i)
        have hw := wid_bounds (rd l i)
        rw [if_pos (by omega), w64 (by omega) (by omega)]
        rw [show ((i : Int) + 1) = ((i + 1 : Nat) : Int) from by omega, ih k (i + 1) (acc ++ bytesOf (rd l i)) (by omega) (by omega) (by omega) (by rw [List.length_append]; omega), hc, Bool.true_and]
        congr 1
        show (if _ then (_, _) else _) = (if _ then (acc ++ (bytesOf (rd l i) ++ bytesAll (l.drop (i + 1))), (0 : Int)) else _)
        rw [List.append_assoc]
      · rw [if_neg hc]
        simp only [if_false]
        rw [Bool.not_eq_true] at hc
        rw [hc, Bool.false_and]
        rfl
    · have e : l.drop i = [] := List.drop_eq_nil_of_le (by omega)
      rw [utf_Text.l0, if_neg (by omega), e]
      simp [bytesAll]

theorem text_k (l : List Int) (hn : l.length ≤ 100000) (k : Nat) (hk : l.length + 12 ≤ k) : utf_Text.f k l = some (textOf l) := by
  unfold utf_Text.f
  have := text_l0 l hn l.length k 0 [] (by omega) hk (by omega) (by simp)
  rw [List.drop_zero] at this
  rw [show (0 : Int) = ((0 : Nat) : Int) from rfl, this]
  rfl

theorem same_l0 (l : List Int) (hn : l.length ≤ 10000000) : ∀ (d k i : Nat), l.length - i ≤ d → d + 1 ≤ k → i ≤ l.length → scansionref01_SameInts.l0 k l l i = some true := by
  intro d
  induction d with
  | zero =>
    intro k i hd hk hi
    obtain ⟨k, rfl⟩ : ∃ m, k = m + 1 := ⟨k - 1, by omega⟩
    rw [scansionref01_SameInts.l0, if_neg (by omega)]
  | succ d ih =>
    intro k i hd hk hi
    obtain ⟨k, rfl⟩ : ∃ m, k = m + 1 := ⟨k - 1, by omega⟩
    by_cases q : i < l.length
    · rw [scansionref01_SameInts.l0, if_pos (by omega), if_pos (by omega), if_pos (by omega), if_pos rfl, w64 (by omega) (by omega), show ((i : Int) + 1) = ((i + 1 : Nat) : Int) from by omega]
      exact ih k (i + 1) (by omega) (by omega) (by omega)
    · rw [scansionref01_SameInts.l0, if_neg (by omega)]

theorem same_k (l : List Int) (hn : l.length ≤ 10000000) (k : Nat) (hk : l.length + 1 ≤ k) : scansionref01_SameInts.f k l l = some true := by
  unfold scansionref01_SameInts.f
  rw [if_pos rfl]
  exact same_l0 l hn l.length k 0 (by omega) hk (by omega)

theorem all_nil : all_ [] = [] := rfl

theorem runes_text (l : List Int) (t : List Int) (h : ∀ r ∈ l, cp r = true) (ht : IsBytes t) : runesOf (units (bytesAll l ++ t)) = l ++ runesOf (units t) := by
  rw [runesOf_bare, bare_units _ ((bytesAll_bytes h).append ht), all_app l t h ht, List.map_append, runesOf_bare, bare_units t ht, List.map_map]
  congr 1
  show List.map _ l = l
  exact List.map_id' l

theorem noBad_text (l : List Int) (h : ∀ r ∈ l, cp r = true) : noBad (units (bytesAll l)) = true := by
  have := all_app l [] h (fun x hx => by cases hx)
  rw [List.append_nil] at this
  rw [noBad_bare, bare_units _ (bytesAll_bytes h), this, all_nil, List.append_nil, List.all_map]
  rw [List.all_eq_true]
  intro x _
  rfl

theorem all_cp {l : List Int} (h : l.all cp = true) : ∀ r ∈ l, cp r = true := List.all_eq_true.1 h

end Go.Proofs.Ytefomeabnlecoaa.Pure
