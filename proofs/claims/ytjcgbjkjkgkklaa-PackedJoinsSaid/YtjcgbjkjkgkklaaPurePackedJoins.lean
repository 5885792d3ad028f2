/- A number is told as it was, whatever stands behind it; greater numbers have no fewer bytes. -/
import Derived.Test.YtjcgbjkjkgkklaaPrint14
import Derived.Test.YtjcgbjkjkgkklaaAwake
import Derived.Test.YtjcgbjkjkgkklaaLawJ
-- NEEDS scansionlaw14_PackedJoins
namespace Go.Proofs.Ytjcgbjkjkgkklaa.Pure
open Go.RowKit Go.Proofs.Ytjcgbjkjkgkklaa.Print Go.Proofs.YtjcgbjkjkgkklaaW.PrintWords Go.Proofs.YtjcgbjkjkgkklaaW.PrintLast

theorem numGo_byte : ∀ (k : Nat) (x : Int), 0 ≤ x → x < 9223372036854775808 → ∀ b ∈ numGo k x, 0 ≤ b ∧ b ≤ 255
  | 0, _, _, _, b, hb => by cases hb
  | k + 1, x, h0, h1, b, hb => by
    unfold numGo at hb
    split at hb
    · rcases List.mem_cons.1 hb with rfl | hb
      · omega
      · exact numGo_byte k (x / 128) (by omega) (by omega) b hb
    · rcases List.mem_cons.1 hb with rfl | hb
      · omega
      · cases hb
theorem numOf_byte (n : Int) (h : n < 9223372036854775808) : ∀ b ∈ numOf n, 0 ≤ b ∧ b ≤ 255 := numGo_byte 10 (mx n 0) (by unfold mx; split <;> omega) (by unfold mx; split <;> omega)

theorem PackedJoins : scansionlaw14_PackedJoins.Pure := by
  intro n m l hn hm hl h1 hwf
  refine ⟨100, ?_⟩
  unfold scansionlaw14_PackedJoins.f
  rw [awake_k _ (by omega), Option.bind_some, if_pos rfl]
  by_cases g0 : n < 0
  · rw [if_pos g0, scansionlaw14_PackedJoins.j0, if_pos rfl]
  rw [if_neg g0]
  by_cases g1 : n > 2147483647
  · rw [if_pos g1, scansionlaw14_PackedJoins.j0, if_pos rfl]
  rw [if_neg g1]
  by_cases g2 : m < 0
  · rw [if_pos g2, scansionlaw14_PackedJoins.j0, if_pos rfl]
  rw [if_neg g2]
  by_cases g3 : m > 2147483647
  · rw [if_pos g3, scansionlaw14_PackedJoins.j0, if_pos rfl]
  rw [if_neg g3]
  by_cases g4 : (l.length : Int) > 1000
  · rw [decide_eq_true g4, scansionlaw14_PackedJoins.j0, if_pos rfl]
  have h10 := numOf_len n
  have hb : ∀ x ∈ numOf n ++ l, 0 ≤ x ∧ x ≤ 255 := fun x hx => by
    rcases List.mem_append.1 hx with hx | hx
    · exact numOf_byte n (by omega) x hx
    · exact isBytes_of hwf x hx
  rw [decide_eq_false g4, scansionlaw14_PackedJoins.j0, if_neg (by decide), number_kk n (by omega) _ (by omega), Option.bind_some, Option.bind_some, if_pos (by simp; omega), Option.bind_some, List.nil_append, if_pos (by omega),
    told_k _ (rd_byte hb) _ (by omega), Option.bind_some, told_numOf n (by omega) (by omega), if_pos rfl, if_pos rfl, if_pos rfl]
  by_cases g5 : n > m
  · rw [if_pos g5]
  · rw [if_neg g5, number_kk m (by omega) _ (by omega), Option.bind_some]
    have := numOf_mono (n := n) (m := m) (by omega)
    rw [decide_eq_true (by omega)]

end Go.Proofs.Ytjcgbjkjkgkklaa.Pure
