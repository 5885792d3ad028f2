/- Plain law of packed: a number's bytes are the reference's. -/
import Derived.Test.YtjcgbjkjkgkklaaPrint11
import Derived.Test.YtjcgbjkjkgkklaaPrint12
import Derived.Test.YtjcgbjkjkgkklaaPrint7
import Derived.Test.YtjcgbjkjkgkklaaSave
-- NEEDS scansionref14_Number packed_Told scansionref14_Told
namespace Go.Proofs.Ytjcgbjkjkgkklaa.Pure
open Go.RowKit Go.Proofs.Ytjcgbjkjkgkklaa.Print Go.Proofs.YtjcgbjkjkgkklaaW.PrintWords Go.Proofs.YtjcgbjkjkgkklaaW.PrintLast Go.Proofs.YtjcgbjkjkgkklaaW.PrintMore
set_option linter.unusedVariables false
set_option linter.unusedSimpArgs false

theorem w64 {x : Int} (h0 : -9223372036854775808 ≤ x) (h1 : x ≤ 9223372036854775807) : wrap64 x = x := by unfold wrap64; omega
theorem wraps_i64 (n : Int) (h0 : 0 ≤ n) (h1 : n < 2 ^ 63) : IntKind.i64.wrap n = n := by rw [IntKind.wrap_i64]; omega

theorem or128_nat (a : Nat) : (a ||| 128) % 256 = 128 + a % 128 := by
  have h : ∀ r : Fin 256, (r.val ||| 128) = 128 + r.val % 128 := by decide +kernel
  have e : (a ||| 128) % 2 ^ 8 = (a % 2 ^ 8 ||| 128 % 2 ^ 8) := Nat.or_mod_two_pow
  have := h ⟨a % 256, Nat.mod_lt _ (by decide)⟩
  simp only at this
  have e2 : (a % 2 ^ 8 ||| 128 % 2 ^ 8) = (a % 256 ||| 128) := rfl
  have e3 : (a ||| 128) % 256 = (a ||| 128) % 2 ^ 8 := rfl
  rw [e3, e, e2, this]
  omega

theorem or128 (x : Int) (h0 : 0 ≤ x) (h1 : x < 9223372036854775808) : (Go.bits .or .i64 x 128) % 256 = 128 + x % 128 := by
  obtain ⟨a, rfl⟩ := Int.eq_ofNat_of_zero_le h0
  have ha : a < 2 ^ 63 := by omega
  have := (bits_nat .i64 63 (by decide) wraps_i64 a 128 ha (by decide)).2
  have e : ((128 : Nat) : Int) = 128 := rfl
  rw [e] at this
  rw [this]
  have := or128_nat a
  omega

theorem refNumber_l0 : ∀ (j k : Nat) (x : Int) (acc : List Int), 0 ≤ x → x < 128 ^ j → x < 9223372036854775808 → j + 1 ≤ k → acc.length + j + 1 < 140737488355328 → scansionref14_Number.l0 k x acc = some (acc ++ numGo (j + 1) x)
  | 0, k, x, acc, h0, h1, h2, hk, ha => by
    obtain ⟨k, rfl⟩ : ∃ m, k = m + 1 := ⟨k - 1, by omega⟩
    rw [scansionref14_Number.l0, if_neg (by omega), if_pos (by omega), numGo, if_neg (by omega)]
  | j + 1, k, x, acc, h0, h1, h2, hk, ha => by
    obtain ⟨k, rfl⟩ : ∃ m, k = m + 1 := ⟨k - 1, by omega⟩
    rw [scansionref14_Number.l0, numGo]
    by_cases q : x ≥ 128
    · have e1 : Int.tdiv x 128 = x / 128 := Int.tdiv_eq_ediv_of_nonneg h0
      have e2 : Int.tmod x 128 = x % 128 := Int.tmod_eq_emod_of_nonneg h0
      rw [if_pos q, if_pos (by omega), if_pos q, e1, e2, w64 (by omega) (by omega), w64 (by omega) (by omega), refNumber_l0 j k (x / 128) _ (by omega) (by rw [Int.pow_succ] at h1; omega) (by omega) (by omega) (by rw [List.length_append, List.length_singleton]; omega), List.append_assoc, or128 x h0 h2, show (128 + x % 128) % 256 = 128 + x % 128 from by omega]
      rfl
    · rw [if_neg q, if_pos (by omega), if_neg q]
theorem refNumber_k (n : Int) (h : n < 9223372036854775808) : scansionref14_Number.f 12 n = some (numOf n) := by
  unfold scansionref14_Number.f numOf
  have h2 : 0 ≤ mx n 0 ∧ mx n 0 < 9223372036854775808 := by unfold mx; split <;> omega
  exact (refNumber_l0 9 12 (mx n 0) [] h2.1 (Int.lt_of_lt_of_le h2.2 (by decide)) h2.2 (by omega) (by simp)).trans (by simp)

/-- The number with which bytes begin, and how many it has. -/
def toldGo (b : List Int) : Nat → Int → Int → Int → Int × Int × Int
  | 0, _, _, _ => (0, 0, 2)
  | f + 1, n, wt, i => if i < b.length ∧ i < 5 then (if rd b i < 128 then (if n + rd b i * wt > 2147483647 then (0, 0, 2) else (if i > 0 ∧ rd b i = 0 then (0, 0, 2) else (n + rd b i * wt, i + 1, 0))) else toldGo b f (n + rd b i % 128 * wt) (wt * 128) (i + 1)) else (0, 0, 2)
def toldOf (b : List Int) : Int × Int × Int := toldGo b 6 0 1 0


theorem andNot128 (b : Int) (h0 : 0 ≤ b) (h1 : b ≤ 255) : Go.bits .andNot .u8 b 128 = b % 128 := by
  have k : ∀ y : Fin 256, Go.bits .andNot .u8 (y.val : Int) 128 = (y.val : Int) % 128 := by decide +kernel
  have := k ⟨b.toNat, by omega⟩
  simpa [show max b 0 = b from by omega] using this

theorem or_swap (x y : Int) (hx : 0 ≤ x) (hx1 : x < 2 ^ 63) (hy : 0 ≤ y) (hy1 : y < 2 ^ 63) : Go.bits .or .i64 x y = Go.bits .or .i64 y x := by
  obtain ⟨a, rfl⟩ := Int.eq_ofNat_of_zero_le hx
  obtain ⟨b, rfl⟩ := Int.eq_ofNat_of_zero_le hy
  rw [(bits_nat .i64 63 (by decide) wraps_i64 a b (by omega) (by omega)).2, (bits_nat .i64 63 (by decide) wraps_i64 b a (by omega) (by omega)).2, Nat.or_comm]

theorem step_bits (b n : Int) (s : Nat) (wt : Int) (hs : s = 0 ∧ wt = 1 ∨ s = 7 ∧ wt = 128 ∨ s = 14 ∧ wt = 16384 ∨ s = 21 ∧ wt = 2097152 ∨ s = 28 ∧ wt = 268435456) (h0 : 0 ≤ b) (h1 : b ≤ 255) (hn0 : 0 ≤ n) (hn : n < wt) :
    Go.bits .or .i64 n (shl .i64 (wrap64 (Go.bits .andNot .u8 b 128)) (s : Int)) = n + b % 128 * wt := by
  rw [andNot128 b h0 h1, w64 (by omega) (by omega)]
  have hsh : shl .i64 (b % 128) (s : Int) = b % 128 * wt := by
    have := shl_small (k := .i64) (x := b % 128) (y := (s : Int)) rfl (by rcases hs with ⟨rfl, _⟩ | ⟨rfl, _⟩ | ⟨rfl, _⟩ | ⟨rfl, _⟩ | ⟨rfl, _⟩ <;> decide)
    rw [← this, IntKind.wrap_i64]
    rcases hs with ⟨rfl, rfl⟩ | ⟨rfl, rfl⟩ | ⟨rfl, rfl⟩ | ⟨rfl, rfl⟩ | ⟨rfl, rfl⟩ <;> simp <;> omega
  rw [hsh, or_swap _ _ hn0 (by omega) (by rcases hs with ⟨_, rfl⟩ | ⟨_, rfl⟩ | ⟨_, rfl⟩ | ⟨_, rfl⟩ | ⟨_, rfl⟩ <;> omega) (by rcases hs with ⟨_, rfl⟩ | ⟨_, rfl⟩ | ⟨_, rfl⟩ | ⟨_, rfl⟩ | ⟨_, rfl⟩ <;> omega)]
  have := bits_join .i64 63 (by decide) wraps_i64 s (b % 128 * wt) n
  rcases hs with ⟨rfl, rfl⟩ | ⟨rfl, rfl⟩ | ⟨rfl, rfl⟩ | ⟨rfl, rfl⟩ | ⟨rfl, rfl⟩
  · rw [this (by omega) (by omega) (by omega) (by omega) (by omega) (by omega)]; omega
  · rw [this (by omega) (by omega) (by omega) (by omega) (by omega) (by omega)]; omega
  · rw [this (by omega) (by omega) (by omega) (by omega) (by omega) (by omega)]; omega
  · rw [this (by omega) (by omega) (by omega) (by omega) (by omega) (by omega)]; omega
  · rw [this (by omega) (by omega) (by omega) (by omega) (by omega) (by omega)]; omega

/-- Place and weight. -/
def WT (i wt : Int) : Prop := i = 0 ∧ wt = 1 ∨ i = 1 ∧ wt = 128 ∨ i = 2 ∧ wt = 16384 ∨ i = 3 ∧ wt = 2097152 ∨ i = 4 ∧ wt = 268435456 ∨ i = 5 ∧ wt = 34359738368

theorem told_l0 (b : List Int) (hb : ∀ i : Int, 0 ≤ i → i < b.length → 0 ≤ rd b i ∧ rd b i ≤ 255) : ∀ (f k : Nat) (n wt i : Int), f ≤ 5 → i = 5 - f → WT i wt → 0 ≤ n → n < wt → f + 1 ≤ k → packed_Told.l0 k b n i = some (toldGo b (f + 1) n wt i)
  | 0, k, n, wt, i, hf, hi, hw, h0, h1, hk => by
    obtain ⟨k, rfl⟩ : ∃ m, k = m + 1 := ⟨k - 1, by omega⟩
    rw [packed_Told.l0, if_neg (by unfold mn; split <;> omega), toldGo, if_neg (by omega)]
  | f + 1, k, n, wt, i, hf, hi, hw, h0, h1, hk => by
    obtain ⟨k, rfl⟩ : ∃ m, k = m + 1 := ⟨k - 1, by omega⟩
    rw [packed_Told.l0, toldGo]
    have hi5 : i < 5 := by omega
    have hi0 : 0 ≤ i := by omega
    by_cases q : i < b.length
    · have hbi := hb i (by omega) q
      have hs : Go.bits .or .i64 n (shl .i64 (wrap64 (Go.bits .andNot .u8 (rd b i) 128)) (wrap64 (7 * i))) = n + rd b i % 128 * wt := by
        clear hi hf hk
        rcases hw with ⟨rfl, rfl⟩ | ⟨rfl, rfl⟩ | ⟨rfl, rfl⟩ | ⟨rfl, rfl⟩ | ⟨rfl, rfl⟩ | ⟨rfl, rfl⟩
        · rw [show wrap64 (7 * 0) = ((0 : Nat) : Int) from w64 (x := 7 * 0) (by omega) (by omega)]; exact step_bits (rd b 0) n 0 1 (by simp) hbi.1 hbi.2 h0 h1
        · rw [show wrap64 (7 * 1) = ((7 : Nat) : Int) from w64 (x := 7 * 1) (by omega) (by omega)]; exact step_bits (rd b 1) n 7 128 (by simp) hbi.1 hbi.2 h0 h1
        · rw [show wrap64 (7 * 2) = ((14 : Nat) : Int) from w64 (x := 7 * 2) (by omega) (by omega)]; exact step_bits (rd b 2) n 14 16384 (by simp) hbi.1 hbi.2 h0 h1
        · rw [show wrap64 (7 * 3) = ((21 : Nat) : Int) from w64 (x := 7 * 3) (by omega) (by omega)]; exact step_bits (rd b 3) n 21 2097152 (by simp) hbi.1 hbi.2 h0 h1
        · rw [show wrap64 (7 * 4) = ((28 : Nat) : Int) from w64 (x := 7 * 4) (by omega) (by omega)]; exact step_bits (rd b 4) n 28 268435456 (by simp) hbi.1 hbi.2 h0 h1
        · exact absurd hi5 (by omega)
      have hlt : rd b i % 128 * wt < 128 * wt ∧ 0 ≤ rd b i % 128 * wt := by
        unfold WT at hw
        rcases hw with ⟨_, rfl⟩ | ⟨_, rfl⟩ | ⟨_, rfl⟩ | ⟨_, rfl⟩ | ⟨_, rfl⟩ | ⟨_, rfl⟩ <;> omega
      have hwp : n + rd b i % 128 * wt < wt * 128 := by
        unfold WT at hw
        rcases hw with ⟨_, rfl⟩ | ⟨_, rfl⟩ | ⟨_, rfl⟩ | ⟨_, rfl⟩ | ⟨_, rfl⟩ | ⟨_, rfl⟩ <;> omega
      rw [if_pos (by unfold mn; split <;> omega), if_pos (by omega), if_pos q, if_pos (by rw [w64 (x := 7 * i) (by omega) (by omega)]; omega), hs, if_pos (show i < (b.length : Int) ∧ i < 5 from ⟨q, hi5⟩), w64 (x := i + 1) (by omega) (by omega)]
      by_cases g : rd b i < 128
      · have e1 : rd b i % 128 = rd b i := by omega
        rw [if_pos g, if_pos g, e1]
        by_cases g2 : n + rd b i * wt > 2147483647
        · rw [if_pos g2, if_pos g2]
        · rw [if_neg g2, if_neg g2]
          by_cases g3 : i > 0
          · rw [if_pos g3]
            by_cases g4 : rd b i = 0
            · rw [if_pos g4, if_pos ⟨g3, g4⟩]
            · rw [if_neg g4, if_neg (fun h => g4 h.2)]
          · rw [if_neg g3, if_neg (fun h => g3 h.1)]
      · rw [if_neg g, if_neg g]
        exact told_l0 b hb f k _ _ _ (by omega) (by omega) (by unfold WT at hw ⊢; omega) (by omega) hwp (by omega)
    · rw [if_neg (by unfold mn; split <;> omega), if_neg (fun h => q h.1)]

theorem told_k (b : List Int) (hb : ∀ i : Int, 0 ≤ i → i < b.length → 0 ≤ rd b i ∧ rd b i ≤ 255) (k : Nat) (hk : 6 ≤ k) : packed_Told.f k b = some (toldOf b) :=
  told_l0 b hb 5 k 0 1 0 (by omega) (by omega) (.inl ⟨rfl, rfl⟩) (by omega) (by omega) (by omega)

theorem refTold_l0 (b : List Int) (hb : ∀ i : Int, 0 ≤ i → i < b.length → 0 ≤ rd b i ∧ rd b i ≤ 255) : ∀ (f k : Nat) (n wt i : Int), f ≤ 5 → i = 5 - f → WT i wt → 0 ≤ n → n < wt → 2 * f + 2 ≤ k → scansionref14_Told.l0 k b n wt i = some (toldGo b (f + 1) n wt i)
  | 0, k, n, wt, i, hf, hi, hw, h0, h1, hk => by
    obtain ⟨k, rfl⟩ : ∃ m, k = m + 1 + 1 := ⟨k - 2, by omega⟩
    rw [scansionref14_Told.l0, toldGo, if_neg (show ¬ (i < (b.length : Int) ∧ i < 5) by omega)]
    by_cases q : i < b.length
    · rw [if_pos q, decide_eq_false (by omega), scansionref14_Told.j1, if_neg (by decide)]
    · rw [if_neg q, scansionref14_Told.j1, if_neg (by decide)]
  | f + 1, k, n, wt, i, hf, hi, hw, h0, h1, hk => by
    obtain ⟨k, rfl⟩ : ∃ m, k = m + 1 + 1 := ⟨k - 2, by omega⟩
    rw [scansionref14_Told.l0, toldGo]
    by_cases q : i < b.length
    · have hbi := hb i (by omega) q
      have e0 : Int.tmod (rd b i) 128 = rd b i % 128 := Int.tmod_eq_emod_of_nonneg hbi.1
      have hlt : rd b i % 128 * wt < 128 * wt ∧ 0 ≤ rd b i % 128 * wt ∧ wt ≤ 34359738368 ∧ rd b i % 128 * wt ≤ 127 * wt := by
        unfold WT at hw
        rcases hw with ⟨_, rfl⟩ | ⟨_, rfl⟩ | ⟨_, rfl⟩ | ⟨_, rfl⟩ | ⟨_, rfl⟩ | ⟨_, rfl⟩ <;> omega
      have hwp : n + rd b i % 128 * wt < wt * 128 := by
        unfold WT at hw
        rcases hw with ⟨_, rfl⟩ | ⟨_, rfl⟩ | ⟨_, rfl⟩ | ⟨_, rfl⟩ | ⟨_, rfl⟩ | ⟨_, rfl⟩ <;> omega
      have hs : wrap64 (n + (wrap64 ((wrap64 (Int.tmod (rd b i) 128)) * wt))) = n + rd b i % 128 * wt := by
        rw [e0, w64 (x := rd b i % 128) (by omega) (by omega), w64 (x := rd b i % 128 * wt) (by omega) (by omega), w64 (by omega) (by omega)]
      rw [if_pos q, decide_eq_true (by omega), scansionref14_Told.j1, if_pos rfl, if_pos (by omega), if_pos q, hs, if_pos (show i < (b.length : Int) ∧ i < 5 from ⟨q, by omega⟩), w64 (x := i + 1) (by omega) (by omega), w64 (x := wt * 128) (by omega) (by omega)]
      by_cases g : rd b i < 128
      · have e1 : rd b i % 128 = rd b i := by omega
        rw [if_pos g, if_pos g, e1]
        by_cases g2 : n + rd b i * wt > 2147483647
        · rw [if_pos g2, if_pos g2]
        · rw [if_neg g2, if_neg g2]
          by_cases g3 : i > 0
          · rw [if_pos g3]
            by_cases g4 : rd b i = 0
            · rw [if_pos g4, if_pos ⟨g3, g4⟩]
            · rw [if_neg g4, if_neg (fun h => g4 h.2)]
          · rw [if_neg g3, if_neg (fun h => g3 h.1)]
      · rw [if_neg g, if_neg g]
        exact refTold_l0 b hb f k _ _ _ (by omega) (by omega) (by unfold WT at hw ⊢; omega) (by omega) hwp (by omega)
    · rw [if_neg q, scansionref14_Told.j1, if_neg (by decide), if_neg (fun h => q h.1)]

theorem refTold_k (b : List Int) (hb : ∀ i : Int, 0 ≤ i → i < b.length → 0 ≤ rd b i ∧ rd b i ≤ 255) (k : Nat) (hk : 12 ≤ k) : scansionref14_Told.f k b = some (toldOf b) :=
  refTold_l0 b hb 5 k 0 1 0 (by omega) (by omega) (.inl ⟨rfl, rfl⟩) (by omega) (by omega) (by omega)

theorem number_kk (n : Int) (h : n < 9223372036854775808) (k : Nat) (hk : 12 ≤ k) : packed_Number.f k n = some (numOf n) := by
  unfold packed_Number.f numOf
  have h2 : 0 ≤ mx n 0 ∧ mx n 0 < 9223372036854775808 := by unfold mx; split <;> omega
  exact (number_l0 9 k (mx n 0) [] h2.1 (Int.lt_of_lt_of_le h2.2 (by decide)) (by omega) (by simp)).trans (by simp)
theorem refNumber_kk (n : Int) (h : n < 9223372036854775808) (k : Nat) (hk : 12 ≤ k) : scansionref14_Number.f k n = some (numOf n) := by
  unfold scansionref14_Number.f numOf
  have h2 : 0 ≤ mx n 0 ∧ mx n 0 < 9223372036854775808 := by unfold mx; split <;> omega
  exact (refNumber_l0 9 k (mx n 0) [] h2.1 (Int.lt_of_lt_of_le h2.2 (by decide)) h2.2 (by omega) (by simp)).trans (by simp)

theorem rd_byte {l : List Int} (hl : ∀ x ∈ l, 0 ≤ x ∧ x ≤ 255) : ∀ i : Int, 0 ≤ i → i < l.length → 0 ≤ rd l i ∧ rd l i ≤ 255 := fun i h0 h1 => by
  have : rd l i ∈ l := by
    unfold rd
    rw [List.getD_eq_getElem?_getD, List.getElem?_eq_getElem (by omega), Option.getD_some]
    exact List.getElem_mem _
  exact hl _ this
theorem isBytes_of {l : List Int} (h : ∀ x ∈ l, (Lit.int .u8 x).wf = true) : ∀ x ∈ l, 0 ≤ x ∧ x ≤ 255 := fun x hx => by
  have := h x hx
  simp [Lit.wf, IntKind.min, IntKind.max, IntKind.bits, IntKind.signed] at this
  omega
theorem wf64 {n : Int} (h : (Lit.int .i64 n).wf = true) : -9223372036854775808 ≤ n ∧ n < 9223372036854775808 := by
  simp [Lit.wf, IntKind.min, IntKind.max, IntKind.bits, IntKind.signed] at h
  omega

end Go.Proofs.Ytjcgbjkjkgkklaa.Pure
