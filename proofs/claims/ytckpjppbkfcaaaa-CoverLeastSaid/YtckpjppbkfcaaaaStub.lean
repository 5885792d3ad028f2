/- cover.Best as a function of its arguments: the answer is one alone. -/
import Derived.Test.YtckpjppbkfcaaaaCost
namespace Go.Proofs.Ytckpjppbkfcaaaa.Print
open Go.RowKit Go.Maps Go.Proofs.YtckpjppbkfcaaaaW.PrintWords Go.Proofs.YtckpjppbkfcaaaaW.PrintLast Go.Proofs.YtckpjppbkfcaaaaW.PrintMore
set_option linter.unusedVariables false
set_option linter.unusedSimpArgs false

theorem Best.unique {N : Nat} {C : Costs} {E : Nat → List Int} {xs ys : List Int} (hS : Spec N C E) (h : Best N C 0 xs) (h' : Best N C 0 ys) : xs = ys := by
  have key : ∀ d i : Nat, i + d = N → rd xs (i : Int) = rd ys (i : Int) := by
    intro d
    induction d using Nat.strongRecOn with
    | ind d ih =>
      intro i hi
      by_cases e : d = 0
      · obtain rfl : i = N := by omega
        rw [h.last, h'.last]
      · have hiN : i < N := by omega
        have same : ∀ x c, C ((i : Int), x) = some c → rd xs x = rd ys x := fun x c hc => by
          have hp := hS.place _ _ _ hc
          obtain ⟨f, rfl⟩ : ∃ f : Nat, x = f := ⟨x.toNat, by omega⟩
          exact ih (N - f) (by omega) f (by omega)
        obtain ⟨x, c, hc, e1⟩ := h.is i (by omega) hiN
        obtain ⟨y, d', hd, e2⟩ := h'.is i (by omega) hiN
        have l1 := h.le i (by omega) hiN y d' hd
        have l2 := h'.le i (by omega) hiN x c hc
        have s1 := same x c hc
        have s2 := same y d' hd
        omega
  refine List.ext_getElem (by rw [h.len, h'.len]) fun i h1 h2 => ?_
  have := key (N - i) i (by have := h.len; omega)
  unfold rd at this
  rwa [Int.toNat_natCast, List.getD_eq_getElem?_getD, List.getD_eq_getElem?_getD, List.getElem?_eq_getElem h1, List.getElem?_eq_getElem h2, Option.getD_some, Option.getD_some] at this
theorem ResI.unique {n p mo : Int} {l : List S36} {r r' : List Int × Int × Int} (h : ResI n p mo l r) (h' : ResI n p mo l r') : r = r' := by
  rcases h with ⟨e, rfl⟩ | ⟨e, N, rfl, xs, hB, rfl⟩
  · rcases h' with ⟨_, rfl⟩ | ⟨e', _⟩
    · rfl
    · rw [e] at e'; cases e'
  · rcases h' with ⟨e', _⟩ | ⟨_, N', hN, ys, hB', rfl⟩
    · rw [e] at e'; cases e'
    · obtain rfl : N = N' := by omega
      unfold okRun at e
      rw [Bool.and_eq_true] at e
      rw [Best.unique (fin_spec e.1 e.2) hB hB']
noncomputable def bestR (n p mo : Int) (l : List S36) : List Int × Int × Int := Classical.epsilon (ResI n p mo l)
theorem bestR_is {n p mo : Int} {l : List S36} {r : List Int × Int × Int} (h : ResI n p mo l r) : bestR n p mo l = r := (Classical.epsilon_spec (p := ResI n p mo l) ⟨r, h⟩).unique h
noncomputable def cover_Best.f (a0 : Int) (l1 : List (S36)) (a2 : Int) (a3 : Int) : Option (List Int × Int × Int) := some (bestR a0 a2 a3 l1)
theorem cover_Best.calls (a0 : Int) (A1 : Option Addr) (c1 : Nat) (l1 : List (S36)) (a2 : Int) (a3 : Int) (r1 : List Int) (r2 : Int) (r3 : Int) (w : World) (hr1 : Kd.C k36 w A1 l1.length l1) (hc1 : l1.length ≤ c1) (h : cover_Best.f a0 l1 a2 a3 = some (r1, r2, r3)) :
    Calls Try.prog 10 #[.int .i64 a0, .slice A1 l1.length c1, .int .i64 a2, .int .i64 a3] w fun e w' => ∃ v0_ : Value, e = .returned (.tuple #[v0_, .int .i64 r2, .int .i64 r3]) ∧ Kd.R (Kd.int .i64) 3 w' w.heap.size (fun _ => True) v0_ r1 ∧ Below w.heap.size w w' := by
  refine (best_calls a0 a2 a3 A1 c1 l1 w hr1 hc1).mono ?_
  rintro e w' ⟨hb, r, v, hr, he, hR⟩
  have e1 := bestR_is hr
  unfold cover_Best.f at h
  rw [e1] at h
  obtain rfl := Option.some.inj h
  exact ⟨v, he, hR, hb⟩
end Go.Proofs.Ytckpjppbkfcaaaa.Print
