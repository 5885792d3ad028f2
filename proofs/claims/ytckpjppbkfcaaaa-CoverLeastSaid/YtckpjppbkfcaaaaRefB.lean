/- The reference's Best answers as the program's does. -/
import Derived.Test.YtckpjppbkfcaaaaPrint17
import Derived.Test.YtckpjppbkfcaaaaRefA
-- NEEDS scansionref19_Best
namespace Go.Proofs.Ytckpjppbkfcaaaa.Pure
open Go.RowKit Go.Proofs.Ytckpjppbkfcaaaa.Print Go.Proofs.YtckpjppbkfcaaaaW.PrintWords Go.Proofs.YtckpjppbkfcaaaaW.PrintLast
set_option linter.unusedVariables false
set_option linter.unusedSimpArgs false

theorem mwF_mem (i j : Int) : ∀ (l : List S36) (a : Int), mwF i j l a = a ∨ ∃ x ∈ l, x.f0 = i ∧ x.f1 = j ∧ x.f2 = mwF i j l a
  | [], a => .inl rfl
  | x :: l, a => by
    rw [mwF]
    by_cases q : x.f0 = i ∧ x.f1 = j ∧ (a < 0 ∨ x.f2 < a)
    · rw [if_pos q]
      rcases mwF_mem i j l x.f2 with h | ⟨y, hy, h⟩
      · exact .inr ⟨x, List.mem_cons_self .., q.1, q.2.1, h.symm⟩
      · exact .inr ⟨y, List.mem_cons_of_mem _ hy, h⟩
    · rw [if_neg q]
      rcases mwF_mem i j l a with h | ⟨y, hy, h⟩
      · exact .inl h
      · exact .inr ⟨y, List.mem_cons_of_mem _ hy, h⟩
theorem mwF_le {N : Nat} (i j : Int) : ∀ (l : List S36) (a : Int), (∀ x ∈ l, wordOk N x = true) → (∀ x ∈ l, x.f0 = i → x.f1 = j → 0 ≤ mwF i j l a ∧ mwF i j l a ≤ x.f2) ∧ (0 ≤ a → 0 ≤ mwF i j l a ∧ mwF i j l a ≤ a)
  | [], a, _ => ⟨fun x h => (by cases h), fun h => ⟨h, Int.le_refl _⟩⟩
  | x :: l, a, hl => by
    have hx := wordOk_is (hl x (List.mem_cons_self ..))
    have hl' := fun y hy => hl y (List.mem_cons_of_mem x hy)
    rw [mwF]
    by_cases q : x.f0 = i ∧ x.f1 = j ∧ (a < 0 ∨ x.f2 < a)
    · rw [if_pos q]
      obtain ⟨h1, h2⟩ := mwF_le i j l x.f2 hl'
      have h3 := h2 hx.2.2.2.1
      refine ⟨fun y hy e1 e2 => ?_, fun h => ⟨h3.1, ?_⟩⟩
      · rcases List.mem_cons.1 hy with rfl | hy
        · exact h3
        · exact h1 y hy e1 e2
      · rcases q.2.2 with q | q <;> omega
    · rw [if_neg q]
      obtain ⟨h1, h2⟩ := mwF_le i j l a hl'
      refine ⟨fun y hy e1 e2 => ?_, h2⟩
      rcases List.mem_cons.1 hy with rfl | hy
      · have : 0 ≤ a ∧ a ≤ y.f2 := by
          by_cases q2 : a < 0
          · exact absurd ⟨e1, e2, .inl q2⟩ q
          · by_cases q3 : y.f2 < a
            · exact absurd ⟨e1, e2, .inr q3⟩ q
            · omega
        have := h2 this.1
        omega
      · exact h1 y hy e1 e2
section
variable {N : Nat} {p : Int} {l : List S36}
/-- A piece's cost is a word's, or the penalty. -/
theorem piece_word (hl : l.all (wordOk N) = true) (hp : 0 ≤ p) {i j c : Int} (hi : 0 ≤ i ∧ i < N) (hc : (finCE N p l).1 (i, j) = some c) : (∃ x ∈ l, x.f0 = i ∧ x.f1 = j ∧ x.f2 = c) ∨ j = i + 1 := by
  have e := (piece_is hl hp (j := j) hi).2
  rw [hc] at e
  unfold optOf refPiece at e
  by_cases q2 : j = i + 1
  · exact .inr q2
  · rw [if_neg (fun h : mwF i j l (-1) < 0 ∧ j = i + 1 => q2 h.2)] at e
    by_cases q : mwF i j l (-1) < 0
    · rw [if_pos q] at e; cases e
    · rw [if_neg q] at e
      obtain rfl := Option.some.inj e
      rcases mwF_mem i j l (-1) with h | ⟨x, hx, h1, h2, h3⟩
      · omega
      · exact .inl ⟨x, hx, h1, h2, h3⟩
theorem word_piece (hl : l.all (wordOk N) = true) (hp : 0 ≤ p) {x : S36} (hx : x ∈ l) : ∃ c, (finCE N p l).1 (x.f0, x.f1) = some c ∧ c ≤ x.f2 := by
  have hw := wordOk_is (List.all_eq_true.1 hl x hx)
  have e := (piece_is hl hp (i := x.f0) (j := x.f1) ⟨by omega, by omega⟩).2
  have h := (mwF_le (N := N) x.f0 x.f1 l (-1) (fun x hx => List.all_eq_true.1 hl x hx)).1 x hx rfl rfl
  unfold refPiece optOf at e
  rw [if_neg (fun hh : mwF x.f0 x.f1 l (-1) < 0 ∧ x.f1 = x.f0 + 1 => by omega), if_neg (by omega)] at e
  exact ⟨_, e, h.2⟩
end
/-- At place j, where the first t words have been looked at. -/
structure PartR (N : Nat) (C : Costs) (l : List S36) (j t : Nat) (xs : List Int) : Prop where
  best : Best N C (j + 1) xs
  one : ∀ c, C ((j : Int), (j : Int) + 1) = some c → rd xs (j : Int) ≤ c + rd xs ((j : Int) + 1)
  le : ∀ x, x ∈ l.take t → x.f0 = (j : Int) → rd xs (j : Int) ≤ x.f2 + rd xs x.f1
  is : ∃ x c d, C ((j : Int), x) = some c ∧ c ≤ d ∧ rd xs (j : Int) = d + rd xs x
theorem mn_min (x y : Int) : mn x y = min x y := by unfold mn; first | rfl | (split <;> omega)
theorem Best.setV {N j : Nat} {C : Costs} {E : Nat → List Int} {xs : List Int} (hS : Print.Spec N C E) (h : Best N C (j + 1) xs) (hj : j < N) {v : Int} (hv : 0 ≤ v ∧ v ≤ ((N - j : Nat) : Int) * 1048576) : Best N C (j + 1) (xs.set j v) := by
  have hl := h.len
  have keep : ∀ z : Int, 0 ≤ z → z ≠ (j : Int) → rd (xs.set j v) z = rd xs z := fun z h0 hz => by rw [rd_set (by omega) h0, if_neg hz]
  refine ⟨by rw [List.length_set]; exact hl, by rw [keep _ (by omega) (by omega)]; exact h.last, fun i hi => ?_, fun i h1 h2 y d hd => ?_, fun i h1 h2 => ?_⟩
  · by_cases e : i = j
    · subst e
      rw [rd_set (by omega) (by omega), if_pos rfl]; exact hv
    · rw [keep _ (by omega) (by omega)]; exact h.low i hi
  · have := hS.place _ _ _ hd
    rw [keep _ (by omega) (by omega), keep _ (by omega) (by omega)]
    exact h.le i h1 h2 y d hd
  · obtain ⟨y, d, hd, e⟩ := h.is i h1 h2
    have := hS.place _ _ _ hd
    refine ⟨y, d, hd, ?_⟩
    rw [keep _ (by omega) (by omega), keep _ (by omega) (by omega)]
    exact e
section
variable {N : Nat} {p : Int} {l : List S36} {j t : Nat} {xs : List Int}
theorem PartR.first (hS : Print.Spec N (finCE N p l).1 (finCE N p l).2) (h : Best N (finCE N p l).1 (j + 1) xs) (hj : j < N) {c : Int} (hc : (finCE N p l).1 ((j : Int), (j : Int) + 1) = some c) : PartR N (finCE N p l).1 l j 0 (xs.set j (c + rd xs ((j : Int) + 1))) := by
  have hp := Part.first hS h hj hc
  obtain ⟨x, d, h1, h2⟩ := hp.is
  exact ⟨hp.best, hp.one, fun x hx => (by simp at hx), ⟨x, d, d, h1, Int.le_refl _, h2⟩⟩
/-- A word more. -/
theorem PartR.next (hS : Print.Spec N (finCE N p l).1 (finCE N p l).2) (hl : l.all (wordOk N) = true) (hp : 0 ≤ p) (h : PartR N (finCE N p l).1 l j t xs) (hj : j < N) (ht : t < l.length) (h0 : (rd_T36 l (t : Int)).f0 = (j : Int)) :
    PartR N (finCE N p l).1 l j (t + 1) (xs.set j (min (rd xs (j : Int)) ((rd_T36 l (t : Int)).f2 + rd xs (rd_T36 l (t : Int)).f1))) ∧ 0 ≤ (rd_T36 l (t : Int)).f2 + rd xs (rd_T36 l (t : Int)).f1 ∧ (rd_T36 l (t : Int)).f2 + rd xs (rd_T36 l (t : Int)).f1 ≤ ((N - j : Nat) : Int) * 1048576 := by
  have hm : rd_T36 l (t : Int) ∈ l := rd_T36_mem ht
  have htk : l.take (t + 1) = l.take t ++ [rd_T36 l (t : Int)] := by rw [List.take_succ_eq_append_getElem ht, rd36_nat l t ht]
  generalize rd_T36 l (t : Int) = x at hm htk h0
  have hw := wordOk_is (List.all_eq_true.1 hl x hm)
  have hlen := h.best.len
  obtain ⟨f, hf⟩ : ∃ f : Nat, x.f1 = f := ⟨x.f1.toNat, by omega⟩
  have hlow := h.best.low f (by omega)
  have h2 := mul_step hj
  have h3 := mul_mono (show N - f ≤ N - (j + 1) by omega)
  have hsum : 0 ≤ x.f2 + rd xs x.f1 ∧ x.f2 + rd xs x.f1 ≤ ((N - j : Nat) : Int) * 1048576 := by rw [hf]; omega
  refine ⟨?_, hsum⟩
  have hjl := h.best.low j (by omega)
  have e1 : ∀ v, rd (xs.set j v) (j : Int) = v := fun v => by rw [rd_set (by omega) (by omega), if_pos rfl]
  have e2 : ∀ v (z : Int), (j : Int) < z → rd (xs.set j v) z = rd xs z := fun v z hz => by rw [rd_set (by omega) (by omega), if_neg (by omega)]
  refine ⟨Best.setV hS h.best hj (by omega), fun c hc => ?_, fun y hy hy0 => ?_, ?_⟩
  · have := h.one c hc
    rw [e1, e2 _ _ (by omega)]; omega
  · have hym : y ∈ l := by
      rw [htk, List.mem_append, List.mem_singleton] at hy
      rcases hy with hy | rfl
      · exact List.mem_of_mem_take hy
      · exact hm
    have hyw := wordOk_is (List.all_eq_true.1 hl y hym)
    rw [e1, e2 _ _ (by omega)]
    rw [htk, List.mem_append, List.mem_singleton] at hy
    rcases hy with hy | rfl
    · have := h.le y hy hy0; omega
    · omega
  · obtain ⟨y, c, d, a1, a2, a3⟩ := h.is
    have hpl := hS.place _ _ _ a1
    by_cases q : rd xs (j : Int) ≤ x.f2 + rd xs x.f1
    · refine ⟨y, c, d, a1, a2, ?_⟩
      rw [e1, e2 _ _ (by omega)]; omega
    · obtain ⟨c', b1, b2⟩ := word_piece hl hp hm
      rw [h0] at b1
      refine ⟨x.f1, c', x.f2, b1, b2, ?_⟩
      rw [e1, e2 _ _ (by omega)]; omega
theorem PartR.skip (h : PartR N (finCE N p l).1 l j t xs) (ht : t < l.length) (h0 : (rd_T36 l (t : Int)).f0 ≠ (j : Int)) : PartR N (finCE N p l).1 l j (t + 1) xs := by
  refine ⟨h.best, h.one, fun y hy hy0 => ?_, h.is⟩
  rw [List.take_succ_eq_append_getElem ht, ← rd36_nat l t ht, List.mem_append, List.mem_singleton] at hy
  rcases hy with hy | rfl
  · exact h.le y hy hy0
  · exact absurd hy0 h0
theorem PartR.done (hS : Print.Spec N (finCE N p l).1 (finCE N p l).2) (hl : l.all (wordOk N) = true) (hp : 0 ≤ p) (h : PartR N (finCE N p l).1 l j l.length xs) (hj : j < N) : Best N (finCE N p l).1 j xs := by
  have hle : ∀ x c, (finCE N p l).1 ((j : Int), x) = some c → rd xs (j : Int) ≤ c + rd xs x := fun x c hc => by
    rcases piece_word hl hp ⟨by omega, by omega⟩ hc with ⟨y, hy, a1, a2, a3⟩ | rfl
    · have := h.le y (by rw [List.take_length]; exact hy) a1
      rw [a2, a3] at this
      exact this
    · exact h.one c hc
  refine ⟨h.best.len, h.best.last, h.best.low, fun i h1 h2 x c hc => ?_, fun i h1 h2 => ?_⟩
  · by_cases e : i = j
    · subst e; exact hle x c hc
    · exact h.best.le i (by omega) h2 x c hc
  · by_cases e : i = j
    · subst e
      obtain ⟨y, c, d, a1, a2, a3⟩ := h.is
      have := hle y c a1
      exact ⟨y, c, a1, by omega⟩
    · exact h.best.is i (by omega) h2
end
end Go.Proofs.Ytckpjppbkfcaaaa.Pure
