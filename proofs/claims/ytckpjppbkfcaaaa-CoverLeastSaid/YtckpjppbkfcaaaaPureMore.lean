/- A word more never makes the best partition dearer; a greater penalty never makes it cheaper: the plain law. -/
import Derived.Test.YtckpjppbkfcaaaaLaws
namespace Go.Proofs.Ytckpjppbkfcaaaa.Pure
open Go.RowKit Go.Maps Go.Proofs.Ytckpjppbkfcaaaa.Print Go.Proofs.YtckpjppbkfcaaaaW.PrintWords Go.Proofs.YtckpjppbkfcaaaaW.PrintLast
set_option linter.unusedVariables false
set_option linter.unusedSimpArgs false

/-- Where each piece costs no more, the best partition costs no more. -/
theorem best_mono {N : Nat} {C C' : Costs} {E' : Nat → List Int} {xs ys : List Int} (hS' : Print.Spec N C' E') (h : Best N C 0 xs) (h' : Best N C' 0 ys) (hC : ∀ i j c', C' (i, j) = some c' → ∃ c, C (i, j) = some c ∧ c ≤ c') : rd xs 0 ≤ rd ys 0 := by
  have key : ∀ d i : Nat, i + d = N → rd xs (i : Int) ≤ rd ys (i : Int) := by
    intro d
    induction d using Nat.strongRecOn with
    | ind d ih =>
      intro i hi
      by_cases e : d = 0
      · obtain rfl : i = N := by omega
        rw [h.last, h'.last]
        exact Int.le_refl _
      · have hiN : i < N := by omega
        obtain ⟨y, d', hd, e2⟩ := h'.is i (by omega) hiN
        obtain ⟨c, hc, hle⟩ := hC _ _ _ hd
        have hp := hS'.place _ _ _ hd
        obtain ⟨f, rfl⟩ : ∃ f : Nat, y = f := ⟨y.toNat, by omega⟩
        have := ih (N - f) (by omega) f (by omega)
        have := h.le i (by omega) hiN _ c hc
        omega
  exact key N 0 (by omega)
theorem mwF_append (i j : Int) : ∀ (l m : List S36) (a : Int), mwF i j (l ++ m) a = mwF i j m (mwF i j l a)
  | [], m, a => rfl
  | x :: l, m, a => by rw [List.cons_append, mwF, mwF, mwF_append i j l m]
theorem okRun_all {N : Nat} {p mo : Int} {l : List S36} (h : okRun N p mo l = true) : l.all (wordOk N) = true ∧ 0 ≤ p ∧ Print.Spec N (finCE N p l).1 (finCE N p l).2 := by
  unfold okRun at h
  rw [Bool.and_eq_true] at h
  have hlm := h.1
  unfold limOk at hlm
  simp only [Bool.and_eq_true, decide_eq_true_eq] at hlm
  exact ⟨h.2, (inN_is hlm.2.1).1, fin_spec h.1 h.2⟩
/-- A penalty more. -/
theorem pieces_penalty {N : Nat} {p p' : Int} {l : List S36} (hl : l.all (wordOk N) = true) (hp : 0 ≤ p) (hpp : p ≤ p') (hS : Print.Spec N (finCE N p' l).1 (finCE N p' l).2) (i j c' : Int) (hc : (finCE N p' l).1 (i, j) = some c') : ∃ c, (finCE N p l).1 (i, j) = some c ∧ c ≤ c' := by
  have hpl := hS.place _ _ _ hc
  have e' := (piece_is hl (show 0 ≤ p' by omega) (i := i) (j := j) ⟨by omega, by omega⟩).2
  have e := (piece_is hl hp (i := i) (j := j) ⟨by omega, by omega⟩).2
  rw [hc] at e'
  unfold refPiece optOf at e' e
  generalize mwF i j l (-1) = m at e e'
  by_cases q : m < 0 ∧ j = i + 1
  · rw [if_pos q] at e e'
    rw [if_neg (by omega)] at e e'
    exact ⟨_, e, by have := Option.some.inj e'; omega⟩
  · rw [if_neg q] at e e'
    rw [← e'] at e
    exact ⟨c', e, Int.le_refl _⟩
/-- A word more, of more than one cluster. -/
theorem pieces_word {N : Nat} {p : Int} {l : List S36} {x : S36} (hl : (l ++ [x]).all (wordOk N) = true) (hp : 0 ≤ p) (hx : x.f1 ≠ x.f0 + 1) (hS : Print.Spec N (finCE N p l).1 (finCE N p l).2) (i j c' : Int) (hc : (finCE N p l).1 (i, j) = some c') : ∃ c, (finCE N p (l ++ [x])).1 (i, j) = some c ∧ c ≤ c' := by
  have hl2 := hl
  rw [List.all_append, Bool.and_eq_true] at hl2
  have hxw := wordOk_is (show wordOk N x = true by simpa using hl2.2)
  have hpl := hS.place _ _ _ hc
  have e' := (piece_is hl2.1 hp (i := i) (j := j) ⟨by omega, by omega⟩).2
  have e := (piece_is hl hp (i := i) (j := j) ⟨by omega, by omega⟩).2
  rw [hc] at e'
  have hm : mwF i j (l ++ [x]) (-1) = if x.f0 = i ∧ x.f1 = j ∧ (mwF i j l (-1) < 0 ∨ x.f2 < mwF i j l (-1)) then x.f2 else mwF i j l (-1) := by rw [mwF_append, mwF, mwF]
  unfold refPiece optOf at e' e
  rw [hm] at e
  generalize mwF i j l (-1) = m at e e'
  by_cases q2 : x.f0 = i ∧ x.f1 = j ∧ (m < 0 ∨ x.f2 < m)
  · rw [if_pos q2] at e
    rw [if_neg (show ¬ (x.f2 < 0 ∧ j = i + 1) by omega), if_neg (by omega)] at e
    refine ⟨_, e, ?_⟩
    by_cases q : m < 0 ∧ j = i + 1
    · omega
    · rw [if_neg q] at e'
      by_cases q3 : m < 0
      · rw [if_pos q3] at e'; cases e'
      · rw [if_neg q3] at e'
        have := Option.some.inj e'
        omega
  · rw [if_neg q2] at e
    rw [← e'] at e
    exact ⟨c', e, Int.le_refl _⟩
/-- What the law asks. -/
theorem more_law (n : Int) (l : List S36) (x : S36) (hl : l.length ≤ 200) (h0 : 0 ≤ n) (hn : n ≤ 120) :
    ((bestR n 7 1099511627776 l).2.2 ≠ 0 → (bestR n 7 1099511627776 (l ++ [x])).2.2 ≠ 0 ∧ (bestR n 9 1099511627776 l).2.2 ≠ 0) ∧
    ((bestR n 7 1099511627776 l).2.2 = 0 → (bestR n 9 1099511627776 l).2.2 = 0 ∧ (bestR n 7 1099511627776 l).2.1 ≤ (bestR n 9 1099511627776 l).2.1 ∧ ((bestR n 7 1099511627776 (l ++ [x])).2.2 = 0 → (bestR n 7 1099511627776 (l ++ [x])).2.1 ≤ (bestR n 7 1099511627776 l).2.1 ∨ (x.f1 = x.f0 + 1 ∧ 0 ≤ x.f0 ∧ x.f1 ≤ 120))) := by
  have lim : ∀ (p : Int) (m : List S36), (p = 7 ∨ p = 9) → m.length ≤ 201 → limOk n p 1099511627776 m.length = true := fun p m hp hm => by
    unfold limOk inN
    simp only [Bool.and_eq_true, decide_eq_true_eq]
    refine ⟨by omega, by omega, by omega, by omega⟩
  have ok : ∀ (p : Int) (m : List S36), (p = 7 ∨ p = 9) → m.length ≤ 201 → okRun n p 1099511627776 m = m.all (wordOk n) := fun p m hp hm => by unfold okRun; rw [lim p m hp hm, Bool.true_and]
  have hb : ∀ (p : Int) (m : List S36), (p = 7 ∨ p = 9) → m.length ≤ 201 → (m.all (wordOk n) = false ∧ (bestR n p 1099511627776 m).2.2 = 1) ∨ (m.all (wordOk n) = true ∧ ∃ N : Nat, n = N ∧ ∃ xs, Best N (finCE N p m).1 0 xs ∧ (bestR n p 1099511627776 m).2.1 = min (rd xs 0) 1099511627776 ∧ (bestR n p 1099511627776 m).2.2 = 0) := fun p m hp hm => by
    rcases bestR_res n p 1099511627776 m with ⟨h1, h2⟩ | ⟨h1, N, h2, xs, h3, h4⟩
    · rw [ok p m hp hm] at h1
      exact .inl ⟨h1, by rw [h2]⟩
    · rw [ok p m hp hm] at h1
      exact .inr ⟨h1, N, h2, xs, h3, by rw [h4], by rw [h4]⟩
  have hlx : (l ++ [x]).length ≤ 201 := by simp; omega
  rcases hb 7 l (.inl rfl) (by omega) with ⟨h1, h2⟩ | ⟨h1, N, hN, xs, h3, h4, h5⟩
  · rcases hb 9 l (.inr rfl) (by omega) with ⟨g1, g2⟩ | ⟨g1, _⟩
    · rcases hb 7 (l ++ [x]) (.inl rfl) hlx with ⟨k1, k2⟩ | ⟨k1, _⟩
      · exact ⟨fun _ => ⟨by omega, by omega⟩, fun h => by omega⟩
      · rw [List.all_append, h1] at k1; cases k1
    · rw [h1] at g1; cases g1
  · refine ⟨fun h => absurd h5 h, fun _ => ?_⟩
    subst hN
    have o7 := okRun_all (p := 7) (mo := 1099511627776) (by rw [ok 7 l (.inl rfl) (by omega)]; exact h1)
    have o9 := okRun_all (p := 9) (mo := 1099511627776) (by rw [ok 9 l (.inr rfl) (by omega)]; exact h1)
    rcases hb 9 l (.inr rfl) (by omega) with ⟨g1, _⟩ | ⟨g1, N', hN', ys, g3, g4, g5⟩
    · rw [h1] at g1; cases g1
    · obtain rfl : N = N' := by omega
      have hm := best_mono o9.2.2 h3 g3 (pieces_penalty h1 (by omega) (by omega) o9.2.2)
      refine ⟨g5, by omega, fun hf => ?_⟩
      rcases hb 7 (l ++ [x]) (.inl rfl) hlx with ⟨k1, k2⟩ | ⟨k1, N', hN', zs, k3, k4, k5⟩
      · omega
      · obtain rfl : N = N' := by omega
        by_cases q : x.f1 = x.f0 + 1
        · have kx := List.all_eq_true.1 k1 x (by simp)
          have kw := wordOk_is kx
          exact .inr ⟨q, kw.1, by omega⟩
        · have hm2 := best_mono o7.2.2 k3 h3 (pieces_word k1 (by omega) q o7.2.2)
          exact .inl (by omega)
end Go.Proofs.Ytckpjppbkfcaaaa.Pure
