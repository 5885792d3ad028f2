/- Plain law of utf: Encode of the program and of the reference come to the same bytes. -/
import Derived.Test.YtefomeabnlecoaaPrint4
import Derived.Test.YtefomeabnlecoaaPrint5
import Derived.Test.YtefomeabnlecoaaU0
-- NEEDS utf_Encode scansionref01_Encode scansionlaw01_awake
namespace Go.Proofs.Ytefomeabnlecoaa.Pure
open Go.RowKit Go.Proofs.Ytefomeabnlecoaa.Print Go.Proofs.YtefomeabnlecoaaW.PrintWords Go.Proofs.YtefomeabnlecoaaW.PrintLast Go.Proofs.YtefomeabnlecoaaW.PrintMore
set_option linter.unusedVariables false
set_option linter.unusedSimpArgs false

theorem and63 (x : Int) (h0 : 0 ≤ x) (h1 : x < 2 ^ 63) : Go.bits .and .i64 x 63 = x % 64 :=
  bits_mask .i64 63 (by decide) (fun n a b => by rw [IntKind.wrap_i64]; omega) 6 (by decide) x h0 h1

theorem low6 (x : Int) (h0 : 0 ≤ x) (h1 : x < 2 ^ 63) : Go.bits .or .u8 128 ((Go.bits .and .i64 x 63) % 256) = 128 + x % 64 := by
  rw [and63 x h0 h1, show x % 64 % 256 = x % 64 from by omega]
  exact u8_or128 _ (by omega) (by omega)

theorem shl6 : shl .u8 255 6 = 192 := by decide
theorem shl5 : shl .u8 255 5 = 224 := by decide
theorem shl4 : shl .u8 255 4 = 240 := by decide

/-- u8_or192 and its kin, the operands turned round. -/
theorem or192 : ∀ y : Fin 32, Go.bits .or .u8 (y.val : Int) 192 = 192 + (y.val : Int) := by decide
theorem or224 : ∀ y : Fin 16, Go.bits .or .u8 (y.val : Int) 224 = 224 + (y.val : Int) := by decide
theorem or240 : ∀ y : Fin 8, Go.bits .or .u8 (y.val : Int) 240 = 240 + (y.val : Int) := by decide
theorem or192' (y : Int) (h0 : 0 ≤ y) (h1 : y < 32) : Go.bits .or .u8 y 192 = 192 + y := by
  have := or192 ⟨y.toNat, by omega⟩
  simpa [show max y 0 = y from by omega] using this
theorem or224' (y : Int) (h0 : 0 ≤ y) (h1 : y < 16) : Go.bits .or .u8 y 224 = 224 + y := by
  have := or224 ⟨y.toNat, by omega⟩
  simpa [show max y 0 = y from by omega] using this
theorem or240' (y : Int) (h0 : 0 ≤ y) (h1 : y < 8) : Go.bits .or .u8 y 240 = 240 + y := by
  have := or240 ⟨y.toNat, by omega⟩
  simpa [show max y 0 = y from by omega] using this

/-- The bytes of a code point. -/
def bytesOf (r : Int) : List Int :=
  if r < 128 then [r]
  else if r < 2048 then [192 + r / 64, 128 + r % 64]
  else if r < 65536 then [224 + r / 4096, 128 + r / 64 % 64, 128 + r % 64]
  else [240 + r / 262144, 128 + r / 4096 % 64, 128 + r / 64 % 64, 128 + r % 64]

theorem w64 {x : Int} (h0 : -9223372036854775808 ≤ x) (h1 : x ≤ 9223372036854775807) : wrap64 x = x := by unfold wrap64; omega

theorem put1 (r : Int) (h0 : 0 ≤ r) (h1 : r < 128) : utf_put.f 10 r = some (bytesOf r) := by
  unfold utf_put.f utf_width.f bytesOf
  rw [if_pos h1, if_pos h1]
  simp only [Option.bind_some, if_true]
  rw [show r % 256 = r from by omega]

theorem put2 (r : Int) (h0 : 128 ≤ r) (h1 : r < 2048) : utf_put.f 10 r = some (bytesOf r) := by
  have e1 := low6 r (by omega) (by omega)
  have e2 : (r / 64) % 256 = r / 64 := by omega
  have e3 := or192' (r / 64) (by omega) (by omega)
  unfold utf_put.f utf_width.f bytesOf
  rw [if_neg (show ¬ r < 128 by omega), if_pos h1, if_neg (show ¬ r < 128 by omega), if_pos h1]
  simp [utf_put.l0, wrap64, List.replicate, e1, e2, shl6, e3]
  omega

theorem put3 (r : Int) (h0 : 2048 ≤ r) (h1 : r < 65536) : utf_put.f 10 r = some (bytesOf r) := by
  have e1 := low6 r (by omega) (by omega)
  have e1' := low6 (r / 64) (by omega) (by omega)
  have e2 : (r / 64 / 64) % 256 = r / 4096 := by omega
  have e3 := or224' (r / 4096) (by omega) (by omega)
  unfold utf_put.f utf_width.f bytesOf
  rw [if_neg (show ¬ r < 128 by omega), if_neg (show ¬ r < 2048 by omega), if_pos h1, if_neg (show ¬ r < 128 by omega), if_neg (show ¬ r < 2048 by omega), if_pos h1]
  simp [utf_put.l0, wrap64, List.replicate, e1, e1', e2, shl5, e3]
  omega

theorem put4 (r : Int) (h0 : 65536 ≤ r) (h1 : r ≤ 1114111) : utf_put.f 10 r = some (bytesOf r) := by
  have e1 := low6 r (by omega) (by omega)
  have e1' := low6 (r / 64) (by omega) (by omega)
  have e1'' := low6 (r / 64 / 64) (by omega) (by omega)
  have e2 : (r / 64 / 64 / 64) % 256 = r / 262144 := by omega
  have e4 : r / 64 / 64 = r / 4096 := by omega
  rw [e4] at e1''
  have e3 := or240' (r / 262144) (by omega) (by omega)
  unfold utf_put.f utf_width.f bytesOf
  rw [if_neg (show ¬ r < 128 by omega), if_neg (show ¬ r < 2048 by omega), if_neg (show ¬ r < 65536 by omega), if_neg (show ¬ r < 128 by omega), if_neg (show ¬ r < 2048 by omega), if_neg (show ¬ r < 65536 by omega)]
  simp [utf_put.l0, wrap64, List.replicate, e1, e1', e2, shl4, e3]
  rw [e4]
  exact ⟨by omega, by omega, by omega, by omega, e1''⟩

theorem put_is (r : Int) (h0 : 0 ≤ r) (h1 : r ≤ 1114111) : utf_put.f 10 r = some (bytesOf r) := by
  by_cases a : r < 128
  · exact put1 r h0 a
  by_cases b : r < 2048
  · exact put2 r (by omega) b
  by_cases c : r < 65536
  · exact put3 r (by omega) c
  exact put4 r (by omega) h1

theorem right_is (r : Int) : utf_right.f r = some (cp r) := by
  unfold utf_right.f cp
  by_cases a : r ≥ 0
  · rw [if_pos a]
    by_cases b : r ≤ 1114111
    · rw [if_pos b]
      by_cases c : r < 55296
      · rw [if_pos c, decide_eq_true (by omega)]
      · rw [if_neg c]
        congr 1
        rw [Bool.eq_iff_iff]
        simp only [decide_eq_true_eq]
        omega
    · rw [if_neg b, decide_eq_false (by omega)]
  · rw [if_neg a, decide_eq_false (by omega)]

theorem IsRune_is (r : Int) : scansionref01_IsRune.f r = some (cp r) := right_is r

theorem encode_is (r : Int) : utf_Encode.f 10 r = some (if cp r = true then (bytesOf r, 0) else ([], 1)) := by
  unfold utf_Encode.f
  rw [right_is]
  simp only [Option.bind_some]
  by_cases h : cp r = true
  · rw [if_pos h, if_pos h]
    have : 0 ≤ r ∧ r ≤ 1114111 ∧ (r < 55296 ∨ 57343 < r) := by simpa [cp] using h
    rw [put_is r this.1 this.2.1]
    rfl
  · rw [if_neg h, if_neg h]

theorem refEncode_is (r : Int) : scansionref01_Encode.f r = some (if cp r = true then (bytesOf r, 0) else ([], 1)) := by
  unfold scansionref01_Encode.f
  rw [IsRune_is]
  simp only [Option.bind_some]
  by_cases h : cp r = true
  · rw [if_pos h, if_pos h]
    have hr : 0 ≤ r ∧ r ≤ 1114111 ∧ (r < 55296 ∨ 57343 < r) := by simpa [cp] using h
    obtain ⟨h0, h1, _⟩ := hr
    have t1 : Int.tdiv r 64 = r / 64 := Int.tdiv_eq_ediv_of_nonneg h0
    have t2 : Int.tdiv r 4096 = r / 4096 := Int.tdiv_eq_ediv_of_nonneg h0
    have t3 : Int.tdiv r 262144 = r / 262144 := Int.tdiv_eq_ediv_of_nonneg h0
    have m0 : Int.tmod r 64 = r % 64 := Int.tmod_eq_emod_of_nonneg h0
    have m1 : Int.tmod (r / 64) 64 = r / 64 % 64 := Int.tmod_eq_emod_of_nonneg (by omega)
    have m2 : Int.tmod (r / 4096) 64 = r / 4096 % 64 := Int.tmod_eq_emod_of_nonneg (by omega)
    have v1 : wrap64 (r / 64) = r / 64 := w64 (by omega) (by omega)
    have v2 : wrap64 (r / 4096) = r / 4096 := w64 (by omega) (by omega)
    have v3 : wrap64 (r / 262144) = r / 262144 := w64 (by omega) (by omega)
    unfold bytesOf
    by_cases a : r < 128
    · rw [if_pos a, if_pos a]; rw [show r % 256 = r from by omega]
    rw [if_neg a, if_neg a]
    by_cases b : r < 2048
    · rw [if_pos b, if_pos b, t1, m0, v1, w64 (by omega) (by omega), w64 (by omega) (by omega)]
      rw [show (192 + r / 64) % 256 = 192 + r / 64 from by omega, show (128 + r % 64) % 256 = 128 + r % 64 from by omega]
    rw [if_neg b, if_neg b]
    by_cases c : r < 65536
    · rw [if_pos c, if_pos c, t1, t2, v1, v2, m0, m1, w64 (by omega) (by omega), w64 (by omega) (by omega), w64 (by omega) (by omega)]
      rw [show (224 + r / 4096) % 256 = 224 + r / 4096 from by omega, show (128 + r / 64 % 64) % 256 = 128 + r / 64 % 64 from by omega, show (128 + r % 64) % 256 = 128 + r % 64 from by omega]
    rw [if_neg c, if_neg c, t1, t2, t3, v1, v2, v3, m0, m1, m2, w64 (by omega) (by omega), w64 (by omega) (by omega), w64 (by omega) (by omega), w64 (by omega) (by omega)]
    rw [show (240 + r / 262144) % 256 = 240 + r / 262144 from by omega, show (128 + r / 4096 % 64) % 256 = 128 + r / 4096 % 64 from by omega, show (128 + r / 64 % 64) % 256 = 128 + r / 64 % 64 from by omega, show (128 + r % 64) % 256 = 128 + r % 64 from by omega]
  · rw [if_neg h, if_neg h]

theorem awake_is : scansionlaw01_awake.f 10 = some true := by
  unfold scansionlaw01_awake.f
  rw [encode_is]
  decide +kernel


end Go.Proofs.Ytefomeabnlecoaa.Pure
