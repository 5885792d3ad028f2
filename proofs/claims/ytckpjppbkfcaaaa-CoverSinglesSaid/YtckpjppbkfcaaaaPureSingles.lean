/- All clusters alone: the plain law of CoverSingles. -/
import Derived.Test.YtckpjppbkfcaaaaPureMore
namespace Go.Proofs.Ytckpjppbkfcaaaa.Pure
open Go.RowKit Go.Maps Go.Proofs.Ytckpjppbkfcaaaa.Print Go.Proofs.YtckpjppbkfcaaaaW.PrintWords Go.Proofs.YtckpjppbkfcaaaaW.PrintLast
set_option linter.unusedVariables false
set_option linter.unusedSimpArgs false

/-- All clusters alone cost at least what the best partition does. -/
theorem sum_alone {N : Nat} {C : Costs} {E : Nat → List Int} {xs : List Int} (hS : Print.Spec N C E) (hB : Best N C 0 xs) : ∀ (c a : Nat) (s : Int), a + c = N → ∃ s', sumI C (a : Int) (upTo c (a + 1)) s = some s' ∧ rd xs (a : Int) + s ≤ s'
  | 0, a, s, h => by
    obtain rfl : a = N := by omega
    exact ⟨s, rfl, by rw [hB.last]; omega⟩
  | c + 1, a, s, h => by
    obtain ⟨d, hd⟩ := hS.one a (by omega)
    obtain ⟨s', h1, h2⟩ := sum_alone hS hB c (a + 1) (s + d) (by omega)
    have hle := hB.le a (by omega) (by omega) _ d hd
    have ec : (((a + 1 : Nat) : Int)) = (a : Int) + 1 := by omega
    rw [ec] at h1 h2
    refine ⟨s', ?_, by omega⟩
    rw [upTo, sumI, ec, hd]
    exact h1
theorem upTo_last : ∀ (c a : Nat), (upTo c (a + 1)).length = c ∧ rd ((a : Int) :: upTo c (a + 1)) (c : Int) = (a + c : Nat)
  | 0, a => ⟨rfl, rfl⟩
  | c + 1, a => by
    obtain ⟨h1, h2⟩ := upTo_last c (a + 1)
    refine ⟨by rw [upTo, List.length_cons, h1], ?_⟩
    rw [upTo]
    unfold rd at h2 ⊢
    rw [Int.toNat_natCast] at h2 ⊢
    rw [List.getD_cons_succ, h2]
    omega
theorem alone_ends (N : Nat) : endsOk N (0 :: upTo N 1) = true := by
  obtain ⟨h1, h2⟩ := upTo_last N 0
  unfold endsOk
  rw [List.length_cons, h1, show (((N + 1 : Nat) : Int) - 1) = (N : Int) by omega]
  simp only [Nat.zero_add, Int.cast_ofNat_Int] at h2
  rw [h2]
  simp [rd]
/-- Without words. -/
theorem piece_none {N : Nat} {p : Int} (hp : 0 ≤ p) {i j : Int} (hi : 0 ≤ i ∧ i < N) : (finCE N p []).1 (i, j) = if j = i + 1 then some p else none := by
  rw [(piece_is (l := []) rfl hp hi).2]
  have e : refPiece [] p i j = if j = i + 1 then p else -1 := by
    unfold refPiece
    rw [mwF]
    by_cases q : j = i + 1
    · rw [if_pos q, if_pos ⟨by omega, q⟩]
    · rw [if_neg q, if_neg (fun h => q h.2)]
  rw [e]
  unfold optOf
  by_cases q : j = i + 1
  · rw [if_pos q, if_pos q, if_neg (by omega)]
  · rw [if_neg q, if_neg q, if_pos (by omega)]
theorem best_none {N : Nat} {p : Int} (hp : 0 ≤ p) {E : Nat → List Int} {xs : List Int} (hB : Best N (finCE N p []).1 0 xs) : ∀ d i : Nat, i + d = N → rd xs (i : Int) = d * p
  | 0, i, h => by
    obtain rfl : i = N := by omega
    rw [hB.last]; simp
  | d + 1, i, h => by
    obtain ⟨x, c, hc, e⟩ := hB.is i (by omega) (by omega)
    rw [piece_none hp ⟨by omega, by omega⟩] at hc
    by_cases q : x = (i : Int) + 1
    · rw [if_pos q] at hc
      obtain rfl := Option.some.inj hc
      have ih := best_none hp (E := E) hB d (i + 1) (by omega)
      have ec : (((i + 1 : Nat) : Int)) = (i : Int) + 1 := by omega
      rw [ec] at ih
      rw [e, q, ih, Int.natCast_add, Int.add_mul]
      omega
    · rw [if_neg q] at hc; cases hc
theorem singles_law (N : Nat) (p mo : Int) (l : List S36) :
    (okRun N p mo l = false → bestR N p mo l = ([], 0, 1) ∧ (costR N p mo l (0 :: upTo N 1)).2 = false) ∧
    (okRun N p mo l = true → (bestR N p mo l).2.2 = 0 ∧ (costR N p mo l (0 :: upTo N 1)).2 = true ∧ (bestR N p mo l).2.1 ≤ (costR N p mo l (0 :: upTo N 1)).1 ∧ bestR N p mo [] = (0 :: upTo N 1, min (N * p) mo, 0) ∧ ((bestR N p mo l).2.1 < mo ∨ (bestR N p mo l).1 = 0 :: upTo N 1)) := by
  refine ⟨fun h => ?_, fun h => ?_⟩
  · rcases bestR_res N p mo l with ⟨_, e⟩ | ⟨h1, _⟩
    · refine ⟨e, ?_⟩
      unfold costR
      rw [h, Bool.false_and, if_neg (by simp)]
    · rw [h] at h1; cases h1
  · obtain ⟨o1, o2, o3⟩ := okRun_all h
    have hn : okRun N p mo [] = true := by
      unfold okRun at h ⊢
      rw [Bool.and_eq_true] at h
      have h1 := h.1
      unfold limOk at h1 ⊢
      simp only [Bool.and_eq_true, decide_eq_true_eq] at h1 ⊢
      exact ⟨⟨h1.1, h1.2.1, h1.2.2.1, by simp⟩, rfl⟩
    rcases bestR_res N p mo l with ⟨h1, _⟩ | ⟨h1, N', hN, xs, hB, e⟩
    · rw [h] at h1; cases h1
    obtain rfl : N = N' := by omega
    rcases bestR_res N p mo [] with ⟨h2, _⟩ | ⟨h2, N', hN2, ys, hB2, e2⟩
    · rw [hn] at h2; cases h2
    obtain rfl : N = N' := by omega
    obtain ⟨s, hs, hle⟩ := sum_alone o3 hB N 0 0 (by omega)
    obtain ⟨_, _, q3⟩ := okRun_all hn
    have hc : costR N p mo l (0 :: upTo N 1) = (min s mo, true) := by
      unfold costR
      rw [h, alone_ends, Bool.and_self, if_pos rfl, Int.toNat_natCast, List.drop_succ_cons, List.drop_zero]
      have hs' : sumI (finCE N p l).1 0 (upTo N 1) 0 = some s := hs
      rw [hs']
    have hle' : rd xs 0 + 0 ≤ s := hle
    have none1 : ∀ (cap : Bool) a, a < N → nextF cap (finCE N p []).1 (finCE N p []).2 ys a = a + 1 := fun cap a ha => by
      obtain ⟨d, hd⟩ := (q3.ends a _ ha).1 (nextF_mem (cap := cap) q3 hB2 ha).1
      rw [piece_none o2 ⟨by omega, by omega⟩] at hd
      by_cases q : ((nextF cap (finCE N p []).1 (finCE N p []).2 ys a : Nat) : Int) = (a : Int) + 1
      · omega
      · rw [if_neg q] at hd; cases hd
    have b0 : rd ys 0 = N * p := best_none o2 (E := fun _ => []) hB2 N 0 (by omega)
    refine ⟨by rw [e], by rw [hc], by rw [hc, e]; simp only; omega, ?_, ?_⟩
    · rw [e2, ← upTo_path N (none1 _) N 0 (by omega), b0]
    · rw [e]
      by_cases q : mo ≤ rd xs 0
      · refine .inr ?_
        rw [decide_eq_true q, ← upTo_path N (fun a ha => nextF_cap o3 hB ha) N 0 (by omega)]
      · exact .inl (by simp only; omega)
end Go.Proofs.Ytckpjppbkfcaaaa.Pure
