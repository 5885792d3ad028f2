/- Plain law of utf: the reference's first unit is the program's; the reference's Decode comes to the program's units. -/
import Derived.Test.YtefomeabnlecoaaLawB
import Derived.Test.YtefomeabnlecoaaFirst
namespace Go.Proofs.Ytefomeabnlecoaa.Pure
open Go.RowKit Go.Proofs.Ytefomeabnlecoaa.Print Go.Proofs.YtefomeabnlecoaaW.PrintWords Go.Proofs.YtefomeabnlecoaaW.PrintLast Go.Proofs.YtefomeabnlecoaaW.PrintMore
set_option linter.unusedVariables false
set_option linter.unusedSimpArgs false

theorem cand_of (s : List Int) (r : Int) (h : Begins s r) : cand s = (r, (bytesOf r).length) := by
  obtain ⟨h0, h1, _⟩ := cp_of h.1
  have hl : (bytesOf r).length ≤ s.length := by have := congrArg List.length h.2; rw [List.length_take] at this; omega
  have e := h.form
  generalize s.drop (bytesOf r).length = t at e
  by_cases k1 : r < 128
  · rw [bytesOf_1 k1] at e ⊢
    have e0 : rd s 0 = r := by rw [e]; exact rd_app [r] t 0 r rfl
    unfold cand; rw [e0, if_pos k1]; rfl
  by_cases k2 : r < 2048
  · have w := bytesOf_2 (r := r) (by omega) k2
    rw [w] at e hl ⊢
    have e0 : rd s 0 = 192 + r / 64 := by rw [e]; exact rd_app [192 + r / 64, 128 + r % 64] t 0 _ rfl
    have e1 : rd s 1 = 128 + r % 64 := by rw [e]; exact rd_app [192 + r / 64, 128 + r % 64] t 1 _ rfl
    simp only [List.length_cons, List.length_nil] at hl
    unfold cand; rw [e0, e1, if_neg (by omega), if_pos ⟨by omega, by omega, by omega⟩]
    congr 1
    omega
  by_cases k3 : r < 65536
  · have w := bytesOf_3 (r := r) (by omega) k3
    rw [w] at e hl ⊢
    have e0 : rd s 0 = 224 + r / 4096 := by rw [e]; exact rd_app [224 + r / 4096, 128 + r / 64 % 64, 128 + r % 64] t 0 _ rfl
    have e1 : rd s 1 = 128 + r / 64 % 64 := by rw [e]; exact rd_app [224 + r / 4096, 128 + r / 64 % 64, 128 + r % 64] t 1 _ rfl
    have e2 : rd s 2 = 128 + r % 64 := by rw [e]; exact rd_app [224 + r / 4096, 128 + r / 64 % 64, 128 + r % 64] t 2 _ rfl
    simp only [List.length_cons, List.length_nil] at hl
    unfold cand; rw [e0, e1, e2, if_neg (by omega), if_neg (by omega), if_pos ⟨by omega, by omega, by omega⟩]
    congr 1
    omega
  · have w := bytesOf_4 (r := r) (by omega)
    rw [w] at e hl ⊢
    have e0 : rd s 0 = 240 + r / 262144 := by rw [e]; exact rd_app [240 + r / 262144, 128 + r / 4096 % 64, 128 + r / 64 % 64, 128 + r % 64] t 0 _ rfl
    have e1 : rd s 1 = 128 + r / 4096 % 64 := by rw [e]; exact rd_app [240 + r / 262144, 128 + r / 4096 % 64, 128 + r / 64 % 64, 128 + r % 64] t 1 _ rfl
    have e2 : rd s 2 = 128 + r / 64 % 64 := by rw [e]; exact rd_app [240 + r / 262144, 128 + r / 4096 % 64, 128 + r / 64 % 64, 128 + r % 64] t 2 _ rfl
    have e3 : rd s 3 = 128 + r % 64 := by rw [e]; exact rd_app [240 + r / 262144, 128 + r / 4096 % 64, 128 + r / 64 % 64, 128 + r % 64] t 3 _ rfl
    simp only [List.length_cons, List.length_nil] at hl
    unfold cand; rw [e0, e1, e2, e3, if_neg (by omega), if_neg (by omega), if_neg (by omega), if_pos ⟨by omega, by omega, by omega⟩]
    congr 1
    omega

/-- The reference's first unit is the program's. -/
theorem verdict_dec (s : List Int) (hs : IsBytes s) (h0 : 0 < s.length) : verdict s (cand s).1 (cand s).2 = ((dec s).f0, 0, (dec s).f2, (dec s).f3) := by
  unfold verdict
  by_cases h : cp (cand s).1 = true ∧ bytesOf (cand s).1 = s.take (cand s).2
  · rw [if_pos h]
    have hl : (bytesOf (cand s).1).length = (cand s).2 := by rw [h.2, List.length_take]; have := (cand_le s h0).1; omega
    have hb : Begins s (cand s).1 := ⟨h.1, by rw [hl]; exact h.2.symm⟩
    rw [dec_of hb]
    rw [← hl]
    rw [bytesOf_len]
  · rw [if_neg h]
    cases h3 : (dec s).f3 with
    | true => rw [dec_bad s h3]
    | false =>
      have hb := dec_good s hs h0 h3
      have hc := cand_of s _ hb
      exact absurd ⟨by rw [hc]; exact hb.1, by rw [hc]; exact hb.2.symm⟩ h

theorem first_dec (s : List Int) (hs : IsBytes s) (h0 : 0 < s.length) : scansionref01_first.f s = some ((dec s).f0, 0, (dec s).f2, (dec s).f3) := by
  unfold scansionref01_first.f
  rw [if_pos ⟨hs, h0⟩, verdict_dec s hs h0]

end Go.Proofs.Ytefomeabnlecoaa.Pure
