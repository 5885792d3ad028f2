/- The way of the places: what two that follow each other are. The law ThaiFar's and the law ThaiRises' plain side. -/
import Derived.Test.YtfmnbebkeefboaaLawB
namespace Go.Proofs.Ytfmnbebkeefboaa.Pure
open Go.RowKit Go.Proofs.Ytfmnbebkeefboaa.Print Go.Proofs.YtfmnbebkeefboaaW.PrintWords Go.Proofs.YtfmnbebkeefboaaW.PrintLast
set_option linter.unusedVariables false
set_option linter.unusedSimpArgs false

theorem rd_zero (a : Int) (r : List Int) : rd (a :: r) 0 = a := rfl
theorem rd_succ (a : Int) (r : List Int) (i : Nat) : rd (a :: r) ((i + 1 : Nat) : Int) = rd r (i : Int) := by
  unfold rd
  rw [Int.toNat_natCast, Int.toNat_natCast, List.getD_cons_succ]
/-- The places from a on. -/
structure Way (T : Int → List Int) (n : Int) (P : List Int) : Prop where
  ne : 1 ≤ P.length
  last : rd P ((P.length : Int) - 1) = n
  step : ∀ i : Nat, i + 1 < P.length → 0 ≤ rd P (i : Int) ∧ rd P (i : Int) < n ∧ rd P ((i + 1 : Nat) : Int) = nextP T n (rd P (i : Int))
theorem way_is {T : Int → List Int} {n : Int} (hF : Fwd T n) : ∀ (f : Nat) (a : Int), 0 ≤ a ∧ a ≤ n → n - a ≤ f → Way T n (a :: partsL T n f a)
  | 0, a, ha, h => by
    obtain rfl : a = n := by omega
    exact ⟨by simp, rfl, fun i hi => by simp [partsL] at hi⟩
  | f + 1, a, ha, h => by
    rw [partsL]
    by_cases q : a < n
    · rw [if_pos q]
      have hnx := nextP_in hF q
      have ih := way_is hF f (nextP T n a) (by omega) (by omega)
      obtain ⟨h1, h2, h3⟩ := ih
      generalize partsL T n f (nextP T n a) = R at *
      refine ⟨by simp, ?_, fun i hi => ?_⟩
      · refine Eq.trans ?_ h2
        simp only [List.length_cons]
        have e : (((R.length + 1 + 1 : Nat) : Int) - 1) = ((R.length + 1 : Nat) : Int) := by omega
        have e2 : (((R.length + 1 : Nat) : Int) - 1) = ((R.length : Nat) : Int) := by omega
        rw [e, e2, rd_succ]
      · cases i with
        | zero =>
          rw [rd_succ]
          exact ⟨ha.1, q, rfl⟩
        | succ i =>
          rw [rd_succ, rd_succ]
          exact h3 i (by simpa using hi)
    · obtain rfl : a = n := by omega
      rw [if_neg q]
      exact ⟨by simp, rfl, fun i hi => by simp at hi⟩
theorem partsR_way {n : Int} {l : List S31} (hok : okT n l = true) : partsR n l = (0 :: partsL (toL l) n n.toNat 0, 0) ∧ Way (toL l) n (0 :: partsL (toL l) n n.toNat 0) := by
  have hin := okT_in hok
  refine ⟨by unfold partsR; rw [hok]; rfl, way_is (okT_fwd hok) n.toNat 0 (by omega) (by omega)⟩
theorem skipT_none (T : Int → List Int) (n : Int) : ∀ (f : Nat) (a b : Int), n - a ≤ f → a ≤ b → b < skipT T n f a → T b = []
  | 0, a, b, h, h1, h2 => by rw [skipT] at h2; omega
  | f + 1, a, b, h, h1, h2 => by
    rw [skipT] at h2
    by_cases q : a < n ∧ T a = []
    · rw [if_pos q] at h2
      by_cases e : b = a
      · rw [e]; exact q.2
      · exact skipT_none T n f (a + 1) b (by omega) (by omega) h2
    · rw [if_neg q] at h2; omega
theorem toL_mem {l : List S31} {a t : Int} : t ∈ toL l a ↔ ∃ x ∈ l, x.f0 = a ∧ x.f1 = t := by
  unfold toL
  rw [List.mem_map]
  constructor
  · rintro ⟨x, hx, rfl⟩
    obtain ⟨h1, h2⟩ := List.mem_filter.1 hx
    exact ⟨x, h1, of_decide_eq_true h2, rfl⟩
  · rintro ⟨x, hx, rfl, rfl⟩
    exact ⟨x, List.mem_filter.2 ⟨hx, decide_eq_true rfl⟩, rfl⟩
/-- Between two places there is a word, or no word begins. -/
theorem next_word {n : Int} {l : List S31} (hok : okT n l = true) {a : Int} (ha : 0 ≤ a ∧ a < n) : (∃ x ∈ l, x.f0 = a ∧ x.f1 = nextP (toL l) n a) ∨ ∀ x ∈ l, ¬ (a ≤ x.f0 ∧ x.f0 < nextP (toL l) n a) := by
  unfold nextP
  by_cases q : toL l a = []
  · rw [if_pos q]
    refine .inr fun x hx h => ?_
    have h1 : toL l x.f0 = [] := by
      by_cases e : x.f0 = a
      · rw [e]; exact q
      · exact skipT_none (toL l) n (n - a).toNat (a + 1) x.f0 (by omega) (by omega) h.2
    have := toL_mem.2 ⟨x, hx, rfl, rfl⟩
    rw [h1] at this
    cases this
  · rw [if_neg q]
    exact .inl (toL_mem.1 (bestT_is q).mem)
/-- No word that begins at a place is better than the one that is taken. -/
theorem next_top {n : Int} {l : List S31} {a : Int} {x : S31} (hx : x ∈ l) (h : x.f0 = a) : ¬ Gt (toL l) x.f1 (nextP (toL l) n a) := by
  have hm := toL_mem.2 ⟨x, hx, h, rfl⟩
  have q : toL l a ≠ [] := fun e => by rw [e] at hm; cases hm
  unfold nextP
  rw [if_neg q]
  exact (bestT_is q).top _ hm
end Go.Proofs.Ytfmnbebkeefboaa.Pure
