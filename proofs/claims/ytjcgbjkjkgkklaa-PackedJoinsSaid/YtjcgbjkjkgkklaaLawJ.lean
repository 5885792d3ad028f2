/- A number's bytes are told as the number, whatever stands behind them; greater numbers have no fewer bytes. -/
import Derived.Test.YtjcgbjkjkgkklaaLawN
namespace Go.Proofs.Ytjcgbjkjkgkklaa.Pure
open Go.RowKit Go.Proofs.Ytjcgbjkjkgkklaa.Print Go.Proofs.YtjcgbjkjkgkklaaW.PrintWords Go.Proofs.YtjcgbjkjkgkklaaW.PrintLast
set_option linter.unusedVariables false
set_option linter.unusedSimpArgs false

theorem rd_mid (pre : List Int) (y : Int) (ys : List Int) : rd (pre ++ y :: ys) (pre.length : Int) = y := by
  unfold rd
  rw [Int.toNat_natCast, List.getD_eq_getElem?_getD, List.getElem?_append_right (Nat.le_refl _), Nat.sub_self]
  rfl

theorem told_num (l : List Int) : ∀ (f k : Nat) (pre : List Int) (x n wt : Int), 0 ≤ x → (1 ≤ pre.length → 1 ≤ x) → WT pre.length wt → n + x * wt ≤ 2147483647 → 0 ≤ n → f + pre.length = 6 → k + pre.length = 10 →
    toldGo (pre ++ (numGo k x ++ l)) f n wt pre.length = (n + x * wt, (pre.length : Int) + (numGo k x).length, 0)
  | 0, k, pre, x, n, wt, h0, h1, hw, h2, h3, hf, hk => by
    unfold WT at hw
    omega
  | f + 1, k, pre, x, n, wt, h0, h1, hw, h2, h3, hf, hk => by
    obtain ⟨k, rfl⟩ : ∃ m, k = m + 1 := ⟨k - 1, by omega⟩
    have hx : x ≤ 2147483647 ∧ pre.length ≤ 4 ∧ 0 < wt ∧ 0 ≤ x * wt := by
      unfold WT at hw
      rcases hw with ⟨e, rfl⟩ | ⟨e, rfl⟩ | ⟨e, rfl⟩ | ⟨e, rfl⟩ | ⟨e, rfl⟩ | ⟨e, rfl⟩ <;> omega
    have h5 : (pre.length : Int) < 5 := by omega
    rw [toldGo]
    by_cases q : x ≥ 128
    · have e : numGo (k + 1) x = (128 + x % 128) :: numGo k (x / 128) := by rw [numGo, if_pos q, or128 x h0 (by omega)]
      rw [e, List.cons_append, rd_mid, if_pos ⟨by rw [List.length_append, List.length_cons]; omega, h5⟩, if_neg (by omega)]
      have hb : pre ++ (128 + x % 128) :: (numGo k (x / 128) ++ l) = (pre ++ [128 + x % 128]) ++ (numGo k (x / 128) ++ l) := by simp
      have hl : (pre ++ [128 + x % 128]).length = pre.length + 1 := by simp
      have hd : (128 + x % 128) % 128 = x % 128 := by omega
      have hs : n + x % 128 * wt + x / 128 * (wt * 128) = n + x * wt ∧ 0 ≤ x % 128 * wt ∧ WT ((pre.length : Int) + 1) (wt * 128) := by
        unfold WT at hw ⊢
        rcases hw with ⟨e, rfl⟩ | ⟨e, rfl⟩ | ⟨e, rfl⟩ | ⟨e, rfl⟩ | ⟨e, rfl⟩ | ⟨e, rfl⟩ <;> omega
      have ih := told_num l f k (pre ++ [128 + x % 128]) (x / 128) (n + x % 128 * wt) (wt * 128) (by omega) (by omega) (by rw [hl]; exact hs.2.2) (by omega) (by omega) (by omega) (by omega)
      rw [hl] at ih
      rw [hd, hb, show (pre.length : Int) + 1 = ((pre.length + 1 : Nat) : Int) from by omega, ih, List.length_cons, hs.1]
      congr 2
      omega
    · have e : numGo (k + 1) x = [x] := by rw [numGo, if_neg q]; congr 1; omega
      rw [e, List.singleton_append, rd_mid, if_pos ⟨by rw [List.length_append, List.length_cons]; omega, h5⟩, if_pos (by omega), if_neg (by omega), if_neg (by rintro ⟨a, b⟩; have := h1 (by omega); omega)]
      rfl

theorem told_numOf (n : Int) (h0 : 0 ≤ n) (h1 : n ≤ 2147483647) (l : List Int) : toldOf (numOf n ++ l) = (n, ((numOf n).length : Int), 0) := by
  have h := told_num l 6 10 [] n 0 1 h0 (by simp) (by simp [WT]) (by omega) (by omega) rfl rfl
  have e : mx n 0 = n := by unfold mx; split <;> omega
  unfold toldOf numOf
  rw [e]
  simpa using h

theorem numGo_mono : ∀ (k : Nat) (x y : Int), x ≤ y → (numGo k x).length ≤ (numGo k y).length
  | 0, _, _, _ => Nat.le_refl _
  | k + 1, x, y, h => by
    unfold numGo
    split
    · rw [if_pos (by omega)]
      have := numGo_mono k (x / 128) (y / 128) (by omega)
      simpa using this
    · split <;> simp
theorem numOf_mono {n m : Int} (h : n ≤ m) : (numOf n).length ≤ (numOf m).length := numGo_mono _ _ _ (by unfold mx; split <;> split <;> omega)
end Go.Proofs.Ytjcgbjkjkgkklaa.Pure
