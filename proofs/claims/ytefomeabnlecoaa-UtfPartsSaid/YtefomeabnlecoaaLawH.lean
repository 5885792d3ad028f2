/- Plain law of utf: the program's Index on its own units; each unit is a code point's form or one bad byte. -/
import Derived.Test.YtefomeabnlecoaaLawG
namespace Go.Proofs.Ytefomeabnlecoaa.Pure
open Go.RowKit Go.Proofs.Ytefomeabnlecoaa.Print Go.Proofs.YtefomeabnlecoaaW.PrintWords Go.Proofs.YtefomeabnlecoaaW.PrintLast
set_option linter.unusedVariables false
set_option linter.unusedSimpArgs false

theorem chain_f1 : ∀ (xs : List S35) (q : Int) (i : Nat), Chain q xs → i < xs.length → q ≤ (rd_T35 xs i).f1 ∧ (rd_T35 xs i).f1 < endC q xs
  | u :: us, q, 0, h, _ => by
    have := endC_ge q (u :: us) h
    have e : rd_T35 (u :: us) ((0 : Nat) : Int) = u := rfl
    rw [e, h.1]
    rw [List.length_cons] at this
    omega
  | u :: us, q, i + 1, h, hi => by
    have := chain_f1 us _ i h.2.2.2 (by rw [List.length_cons] at hi; omega)
    have e : rd_T35 (u :: us) ((i + 1 : Nat) : Int) = rd_T35 us (i : Nat) := rfl
    have e2 : endC q (u :: us) = endC (q + u.f2) us := rfl
    have := h.2.1
    rw [e, e2]
    omega

theorem idx_at : ∀ (xs : List S35) (q s : Int) (i : Nat), Chain q xs → i < xs.length → idxFrom (rd_T35 xs i).f1 s xs = s + i
  | u :: us, q, s, 0, h, _ => by
    have e : rd_T35 (u :: us) ((0 : Nat) : Int) = u := rfl
    rw [e, idxFrom, if_pos rfl]; omega
  | u :: us, q, s, i + 1, h, hi => by
    rw [List.length_cons] at hi
    have := chain_f1 us _ i h.2.2.2 (by omega)
    have e : rd_T35 (u :: us) ((i + 1 : Nat) : Int) = rd_T35 us (i : Nat) := rfl
    have := h.2.1
    have := h.1
    rw [e, idxFrom, if_neg (by omega), idx_at us _ _ i h.2.2.2 (by omega)]
    omega

theorem index_at (l : List Int) (hl : IsBytes l) (hn : l.length ≤ 100000) (i : Nat) (hi : i < (units l).length) : utf_Index.f (units l) (rd_T35 (units l) i).f1 = some (i : Int) := by
  have hu := units_len l
  have hc := chain_units l hl
  have h1 := chain_f1 _ 0 i hc.1 hi
  unfold utf_Index.f
  rw [endOf_chain _ hc.1 (by omega), if_neg (by omega), idx_at _ 0 0 i hc.1 hi]
  simp
theorem index_end (l : List Int) (hl : IsBytes l) (hn : l.length ≤ 100000) : utf_Index.f (units l) l.length = some ((units l).length : Int) := by
  have hu := units_len l
  have hc := chain_units l hl
  unfold utf_Index.f
  rw [endOf_chain _ hc.1 (by omega), hc.2, if_pos rfl]

/-- A unit is a code point's form or one bad byte. -/
theorem unitAt_kind (l : List Int) (hl : IsBytes l) (p : Nat) (hp : p < l.length) :
    ((unitAt l p).f3 = true ∧ (unitAt l p).f2 = 1 ∧ (unitAt l p).f0 = 65533) ∨
    ((unitAt l p).f3 = false ∧ cp (unitAt l p).f0 = true ∧ bytesOf (unitAt l p).f0 = (l.take (p + (unitAt l p).f2.toNat)).drop p) := by
  have e : unitAt l p = ⟨(dec (l.drop p)).f0, p, (dec (l.drop p)).f2, (dec (l.drop p)).f3⟩ := unitAt_dec l p (by omega)
  cases h3 : (dec (l.drop p)).f3 with
  | true =>
    left
    rw [e, dec_bad _ h3]
    exact ⟨rfl, rfl, rfl⟩
  | false =>
    right
    have hb := dec_good (l.drop p) (hl.drop p) (by rw [List.length_drop]; omega) h3
    have hd := dec_of hb
    have hw := bytesOf_len (dec (l.drop p)).f0
    have e2 : (dec (l.drop p)).f2 = wid (dec (l.drop p)).f0 := by conv => lhs; rw [hd]
    rw [e]
    refine ⟨h3, hb.1, ?_⟩
    show bytesOf (dec (l.drop p)).f0 = (l.take (p + (dec (l.drop p)).f2.toNat)).drop p
    rw [List.drop_take, show p + (dec (l.drop p)).f2.toNat - p = (bytesOf (dec (l.drop p)).f0).length from by omega]
    exact hb.2.symm

end Go.Proofs.Ytefomeabnlecoaa.Pure
