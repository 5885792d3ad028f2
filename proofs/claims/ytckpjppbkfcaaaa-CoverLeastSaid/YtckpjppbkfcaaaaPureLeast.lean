/- Of all partitions none costs less than the best one, and none that costs as much has a lesser list: the plain law of CoverLeast. -/
import Derived.Test.YtckpjppbkfcaaaaPureMore
namespace Go.Proofs.Ytckpjppbkfcaaaa.Pure
open Go.RowKit Go.Maps Go.Proofs.Ytckpjppbkfcaaaa.Print Go.Proofs.YtckpjppbkfcaaaaW.PrintWords Go.Proofs.YtckpjppbkfcaaaaW.PrintLast
set_option linter.unusedVariables false
set_option linter.unusedSimpArgs false

/-- Is a list ahead of another one? -/
def lessL : List Int → List Int → Bool
  | a :: u, b :: v => if a = b then lessL u v else decide (a < b)
  | [], _ :: _ => true
  | _, [] => false
/-- The last place of a list that begins at a. -/
def lastL : Int → List Int → Int
  | a, [] => a
  | _, b :: r => lastL b r
theorem lastL_rd : ∀ (r : List Int) (a : Int), rd (a :: r) (((a :: r).length : Int) - 1) = lastL a r
  | [], a => rfl
  | b :: r, a => by
    have ih := lastL_rd r b
    rw [lastL, ← ih]
    unfold rd
    rw [List.length_cons, List.length_cons, show (((r.length + 1 + 1 : Nat) : Int) - 1).toNat = r.length + 1 by omega, show (((r.length + 1 : Nat) : Int) - 1).toNat = r.length by omega, List.getD_cons_succ]
section
variable {N : Nat} {C : Costs} {E : Nat → List Int} {xs : List Int} {cap : Bool}
theorem sum_low (hS : Print.Spec N C E) (hB : Best N C 0 xs) : ∀ (q : List Int) (a s s' : Int), sumI C a q s = some s' → lastL a q = N → rd xs a + s ≤ s'
  | [], a, s, s', h, hl => by
    rw [sumI] at h
    obtain rfl := Option.some.inj h
    rw [lastL] at hl
    subst hl
    rw [hB.last]; omega
  | b :: q, a, s, s', h, hl => by
    rw [sumI] at h
    rw [lastL] at hl
    cases hc : C (a, b) with
    | none => rw [hc] at h; cases h
    | some c =>
      rw [hc] at h
      have ih := sum_low hS hB q b (s + c) s' h hl
      have hp := hS.place _ _ _ hc
      obtain ⟨f, rfl⟩ : ∃ f : Nat, a = f := ⟨a.toNat, by omega⟩
      have := hB.le f (by omega) (by omega) _ c hc
      omega
theorem sum_path (hS : Print.Spec N C E) (hB : Best N C 0 xs) : ∀ (d a : Nat) (s : Int), N - a ≤ d → a ≤ N → ∃ s', sumI C (a : Int) (pathL (nextF cap C E xs) N N a) s = some s' ∧ rd xs (a : Int) + s ≤ s' ∧ (cap = false → s' = rd xs (a : Int) + s)
  | d, a, s, hd, ha => by
    by_cases q : a < N
    · obtain ⟨d, rfl⟩ : ∃ e, d = e + 1 := ⟨d - 1, by omega⟩
      have hm := nextF_mem (cap := cap) hS hB q
      have hg := (nextF_is (cap := cap) hS hB q).1
      rw [pathL_step (fun b hb => (nextF_mem (cap := cap) hS hB hb).2) q]
      generalize nextF cap C E xs a = t at hm hg ⊢
      obtain ⟨c, hc⟩ := (hS.ends a t q).1 hm.1
      obtain ⟨s', h1, h2, h3⟩ := sum_path hS hB d t (s + c) (by omega) hm.2.2
      have hle := hB.le a (by omega) q _ c hc
      refine ⟨s', ?_, by omega, fun hcap => ?_⟩
      · rw [sumI, hc]; exact h1
      · have := h3 hcap
        unfold goes pieceV at hg
        rw [hcap, Bool.false_or, hc] at hg
        have e := of_decide_eq_true hg
        rw [Option.getD_some] at e
        omega
    · obtain rfl : a = N := by omega
      rw [pathL_end (Nat.le_refl _)]
      exact ⟨s, rfl, by rw [hB.last]; omega, fun _ => by rw [hB.last]; omega⟩
theorem path_least (hS : Print.Spec N C E) (hB : Best N C 0 xs) : ∀ (q : List Int) (a : Nat) (s s' : Int), sumI C (a : Int) q s = some s' → lastL (a : Int) q = N → a ≤ N → (cap = false → s' = rd xs (a : Int) + s) → lessL q (pathL (nextF cap C E xs) N N a) = false
  | [], a, s, s', h, hl, ha, hc => by
    rw [lastL] at hl
    obtain rfl : a = N := by omega
    rw [pathL_end (Nat.le_refl _)]
    rfl
  | b :: q, a, s, s', h, hl, ha, hcap => by
    rw [sumI] at h
    rw [lastL] at hl
    cases hc : C ((a : Int), b) with
    | none => rw [hc] at h; cases h
    | some c =>
      rw [hc] at h
      have hp := hS.place _ _ _ hc
      obtain ⟨f, rfl⟩ : ∃ f : Nat, b = f := ⟨b.toNat, by omega⟩
      have haN : a < N := by omega
      have hle := hB.le a (by omega) haN _ c hc
      have hlow := sum_low hS hB q f (s + c) s' h hl
      have hg : goes cap C xs a (f : Int) = true := by
        cases e : cap with
        | true => exact goesT rfl
        | false =>
          have := hcap e
          unfold goes pieceV
          rw [hc, Bool.false_or, Option.getD_some]
          exact decide_eq_true (by omega)
      have hmin := (nextF_is (cap := cap) hS hB haN).2 (f : Int) ⟨c, hc⟩ hg
      rw [pathL_step (fun b hb => (nextF_mem (cap := cap) hS hB hb).2) haN, lessL]
      by_cases e : (f : Int) = (nextF cap C E xs a : Nat)
      · rw [if_pos e]
        obtain e2 : nextF cap C E xs a = f := by omega
        rw [e2]
        refine path_least hS hB q f (s + c) s' h hl (by omega) fun he => ?_
        have := hcap he
        omega
      · rw [if_neg e]
        exact decide_eq_false (by omega)
end
theorem costR_true {N : Nat} {p mo : Int} {l : List S36} {q : List Int} (h : (costR N p mo l q).2 = true) : ∃ r s, q = 0 :: r ∧ lastL 0 r = N ∧ sumI (finCE N p l).1 0 r 0 = some s ∧ costR N p mo l q = (min s mo, true) := by
  cases ho : (okRun N p mo l && endsOk N q) with
  | false =>
    unfold costR at h
    rw [ho] at h
    simp at h
  | true =>
    have ho2 := ho
    rw [Bool.and_eq_true] at ho2
    have he := ho2.2
    unfold endsOk at he
    simp only [Bool.and_eq_true, decide_eq_true_eq] at he
    obtain ⟨e1, e2, e3⟩ := he
    cases q with
    | nil => exact absurd rfl e1
    | cons a r =>
      rw [lastL_rd] at e3
      have ea : a = 0 := e2
      subst ea
      unfold costR at h ⊢
      rw [ho, if_pos rfl, Int.toNat_natCast, List.drop_succ_cons, List.drop_zero] at h ⊢
      cases hs : sumI (finCE N p l).1 0 r 0 with
      | none => rw [hs] at h; cases h
      | some s => exact ⟨r, s, rfl, e3, hs, rfl⟩
/-- What the law asks. -/
theorem least_law (N : Nat) (p mo : Int) (l : List S36) :
    (okRun N p mo l = false → bestR N p mo l = ([], 0, 1)) ∧
    (okRun N p mo l = true → (bestR N p mo l).2.2 = 0 ∧ costR N p mo l (bestR N p mo l).1 = ((bestR N p mo l).2.1, true) ∧
      ∀ q, (costR N p mo l q).2 = true → (bestR N p mo l).2.1 ≤ (costR N p mo l q).1 ∧ ((costR N p mo l q).1 = (bestR N p mo l).2.1 → lessL q (bestR N p mo l).1 = false)) := by
  refine ⟨fun h => ?_, fun h => ?_⟩
  · rcases bestR_res N p mo l with ⟨_, e⟩ | ⟨h1, _⟩
    · exact e
    · rw [h] at h1; cases h1
  · obtain ⟨o1, o2, o3⟩ := okRun_all h
    rcases bestR_res N p mo l with ⟨h1, _⟩ | ⟨h1, N', hN, xs, hB, e⟩
    · rw [h] at h1; cases h1
    obtain rfl : N = N' := by omega
    rw [e]
    obtain ⟨s, hs, hle, heq⟩ := sum_path (cap := decide (mo ≤ rd xs 0)) o3 hB N 0 0 (by omega) (by omega)
    rw [show ((0 : Nat) : Int) = 0 from rfl] at hs hle heq
    have hlast : ∀ (d a : Nat), N - a ≤ d → a ≤ N → lastL (a : Int) (pathL (nextF (decide (mo ≤ rd xs 0)) (finCE N p l).1 (finCE N p l).2 xs) N N a) = N := by
      intro d
      induction d with
      | zero =>
        intro a hd ha
        obtain rfl : a = N := by omega
        rw [pathL_end (Nat.le_refl _)]; rfl
      | succ d ih =>
        intro a hd ha
        by_cases q : a < N
        · have hm := nextF_mem (cap := decide (mo ≤ rd xs 0)) o3 hB q
          rw [pathL_step (fun b hb => (nextF_mem o3 hB hb).2) q, lastL]
          exact ih _ (by omega) hm.2.2
        · obtain rfl : a = N := by omega
          rw [pathL_end (Nat.le_refl _)]; rfl
    have hl0 := hlast N 0 (by omega) (by omega)
    have hends : endsOk N (0 :: pathL (nextF (decide (mo ≤ rd xs 0)) (finCE N p l).1 (finCE N p l).2 xs) N N 0) = true := by
      unfold endsOk
      rw [lastL_rd]
      rw [show ((0 : Nat) : Int) = 0 from rfl] at hl0
      rw [hl0]
      simp [rd]
    refine ⟨rfl, ?_, fun q hq => ?_⟩
    · unfold costR
      rw [h, hends, Bool.and_self, if_pos rfl, Int.toNat_natCast, List.drop_succ_cons, List.drop_zero, hs]
      by_cases q : mo ≤ rd xs 0
      · simp only [Prod.mk.injEq, and_true]; omega
      · have := heq (decide_eq_false q)
        simp only [Prod.mk.injEq, and_true]; omega
    · obtain ⟨r, s', rfl, k1, k2, k3⟩ := costR_true hq
      have hlow := sum_low o3 hB r 0 0 s' k2 k1
      rw [k3]
      refine ⟨by simp only; omega, fun he => ?_⟩
      simp only at he ⊢
      rw [lessL, if_pos rfl]
      refine path_least (cap := decide (mo ≤ rd xs 0)) o3 hB r 0 0 s' k2 k1 (by omega) fun hc => ?_
      have := of_decide_eq_false hc
      rw [show ((0 : Nat) : Int) = 0 from rfl]
      omega
end Go.Proofs.Ytckpjppbkfcaaaa.Pure
