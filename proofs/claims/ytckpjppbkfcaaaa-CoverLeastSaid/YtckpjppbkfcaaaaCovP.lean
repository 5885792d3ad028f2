/- What made's map and rows say of the words: the plain law. -/
import Derived.Test.YtckpjppbkfcaaaaCov
namespace Go.Proofs.Ytckpjppbkfcaaaa.Print
open Go.RowKit Go.Maps Go.Proofs.YtckpjppbkfcaaaaW.PrintWords Go.Proofs.YtckpjppbkfcaaaaW.PrintLast Go.Proofs.YtckpjppbkfcaaaaW.PrintMore
set_option linter.unusedVariables false
set_option linter.unusedSimpArgs false

structure InvW (N m : Nat) (C : Costs) (E : Nat → List Int) : Prop where
  cost : ∀ i j c, C (i, j) = some c → 0 ≤ c ∧ c ≤ 1048576
  place : ∀ i j c, C (i, j) = some c → 0 ≤ i ∧ i < j ∧ j ≤ N
  ends : ∀ (i : Nat) (x : Int), x ∈ E i ↔ ∃ c, C ((i : Int), x) = some c
  nod : ∀ i : Nat, (E i).Nodup
  len : ∀ i : Nat, (E i).length ≤ m
theorem wordOk_is {N : Nat} {x : S36} (h : wordOk N x = true) : 0 ≤ x.f0 ∧ x.f1 ≤ N ∧ x.f0 < x.f1 ∧ 0 ≤ x.f2 ∧ x.f2 ≤ 1048576 := by
  unfold wordOk inN at h
  simp only [Bool.and_eq_true, decide_eq_true_eq] at h
  exact ⟨h.1, h.2.1, h.2.2.1, h.2.2.2.1, h.2.2.2.2⟩
theorem setC_some {C : Costs} {q r : Int × Int} {c d : Int} (h : setC C q c r = some d) : r = q ∧ d = c ∨ r ≠ q ∧ C r = some d := by
  unfold setC at h
  by_cases e : r = q
  · rw [if_pos e] at h; exact .inl ⟨e, (Option.some.inj h).symm⟩
  · rw [if_neg e] at h; exact .inr ⟨e, h⟩
theorem setC_is {C : Costs} {q r : Int × Int} {c : Int} : (∃ d, setC C q c r = some d) ↔ r = q ∨ ∃ d, C r = some d := by
  unfold setC
  by_cases e : r = q
  · rw [if_pos e]; exact ⟨fun _ => .inl e, fun _ => ⟨c, rfl⟩⟩
  · rw [if_neg e]; exact ⟨.inr, fun h => h.elim (fun h => absurd h e) id⟩
section
variable {N m : Nat} {C : Costs} {E : Nat → List Int} {x : S36}
theorem InvW.start (N : Nat) : InvW N 0 (fun _ => none) (fun _ => []) := ⟨fun _ _ _ h => (by cases h), fun _ _ _ h => (by cases h), fun i x => (by simp), fun i => (by simp), fun i => (by simp)⟩
/-- A new key. -/
theorem InvW.add (h : InvW N m C E) {a b c : Int} (hc : 0 ≤ c ∧ c ≤ 1048576) (hp : 0 ≤ a ∧ a < b ∧ b ≤ N) (hn : C (a, b) = none) : InvW N (m + 1) (setC C (a, b) c) (setE E a.toNat (E a.toNat ++ [b])) := by
  refine ⟨fun i j d e => ?_, fun i j d e => ?_, fun i y => ?_, fun i => ?_, fun i => ?_⟩
  · rcases setC_some e with ⟨_, rfl⟩ | ⟨_, e⟩
    · exact hc
    · exact h.cost _ _ _ e
  · rcases setC_some e with ⟨e, _⟩ | ⟨_, e⟩
    · cases e; exact hp
    · exact h.place _ _ _ e
  · rw [setC_is]
    unfold setE
    by_cases e : i = a.toNat
    · subst e
      rw [if_pos rfl, List.mem_append, List.mem_singleton, h.ends]
      have ea : ((a.toNat : Nat) : Int) = a := by omega
      rw [ea]
      constructor
      · rintro (⟨d, hd⟩ | rfl)
        · exact .inr ⟨d, hd⟩
        · exact .inl rfl
      · rintro (e | ⟨d, hd⟩)
        · exact .inr (congrArg Prod.snd e)
        · exact .inl ⟨d, hd⟩
    · rw [if_neg e, h.ends]
      have ea : ¬ ((i : Int), y) = (a, b) := fun e2 => e (by have := congrArg Prod.fst e2; simp only at this; omega)
      exact ⟨.inr, fun h => h.elim (fun h => absurd h ea) id⟩
  · unfold setE
    by_cases e : i = a.toNat
    · rw [if_pos e, List.nodup_append]
      refine ⟨h.nod _, by simp, fun u hu v hv => ?_⟩
      rw [List.mem_singleton] at hv
      rw [hv]
      rintro rfl
      obtain ⟨d, hd⟩ := (h.ends a.toNat u).1 hu
      have ea : ((a.toNat : Nat) : Int) = a := by omega
      rw [ea, hn] at hd
      cases hd
    · rw [if_neg e]; exact h.nod i
  · exact setE_len (Nat.le_trans (h.len i) (by omega)) (by have := h.len a.toNat; rw [List.length_append]; simp; omega)
/-- A lesser cost. -/
theorem InvW.less (h : InvW N m C E) {a b c d : Int} (hc : 0 ≤ c ∧ c ≤ 1048576) (hn : C (a, b) = some d) : InvW N m (setC C (a, b) c) E := by
  refine ⟨fun i j d e => ?_, fun i j d e => ?_, fun i y => ?_, h.nod, h.len⟩
  · rcases setC_some e with ⟨_, rfl⟩ | ⟨_, e⟩
    · exact hc
    · exact h.cost _ _ _ e
  · rcases setC_some e with ⟨e, _⟩ | ⟨_, e⟩
    · cases e; exact h.place _ _ _ hn
    · exact h.place _ _ _ e
  · rw [setC_is, h.ends]
    exact ⟨.inr, fun e => e.elim (fun e => ⟨d, by rw [e]; exact hn⟩) id⟩
theorem InvW.weak (h : InvW N m C E) : InvW N (m + 1) C E := ⟨h.cost, h.place, h.ends, h.nod, fun i => Nat.le_succ_of_le (h.len i)⟩
theorem InvW.step (h : InvW N m C E) (hx : wordOk N x = true) : InvW N (m + 1) (stepC C x) (stepE C E x) := by
  obtain ⟨w1, w2, w3, w4, w5⟩ := wordOk_is hx
  unfold stepC stepE
  cases q : C (x.f0, x.f1) with
  | none => exact h.add ⟨w4, w5⟩ ⟨w1, w3, w2⟩ q
  | some c =>
    simp only
    by_cases e : x.f2 < c
    · rw [if_pos e]; exact (h.less ⟨w4, w5⟩ q).weak
    · rw [if_neg e]; exact h.weak
theorem InvW.words {N : Nat} : ∀ (l : List S36) (s : Costs × (Nat → List Int)) (m : Nat), (∀ x ∈ l, wordOk N x = true) → InvW N m s.1 s.2 → InvW N (m + l.length) (l.foldl (fun s x => (stepC s.1 x, stepE s.1 s.2 x)) s).1 (l.foldl (fun s x => (stepC s.1 x, stepE s.1 s.2 x)) s).2
  | [], s, m, _, h => h
  | x :: l, s, m, hl, h => by
    have := InvW.words l (stepC s.1 x, stepE s.1 s.2 x) (m + 1) (fun y hy => hl y (List.mem_cons_of_mem _ hy)) (h.step (hl x (List.mem_cons_self ..)))
    rw [List.length_cons, show m + (l.length + 1) = m + 1 + l.length by omega]
    exact this
structure InvS (N m i : Nat) (C : Costs) (E : Nat → List Int) : Prop where
  w : InvW N (m + 1) C E
  one : ∀ j : Nat, j < i → ∃ c, C ((j : Int), (j : Int) + 1) = some c
  inc : ∀ j : Nat, j < i → (E j).Pairwise (· < ·)
  rest : ∀ j : Nat, i ≤ j → (E j).length ≤ m
theorem InvW.sorted (h : InvW N m C E) (i : Nat) : InvW N m C (setE E i (sortI (E i))) := by
  refine ⟨h.cost, h.place, fun j y => ?_, fun j => ?_, fun j => setE_len (h.len j) (by rw [sortI_len]; exact h.len i)⟩
  · unfold setE
    by_cases e : j = i
    · subst e; rw [if_pos rfl, sortI_mem]; exact h.ends j y
    · rw [if_neg e]; exact h.ends j y
  · unfold setE
    by_cases e : j = i
    · rw [if_pos e]; exact (sortI_perm _).nodup_iff.2 (h.nod i)
    · rw [if_neg e]; exact h.nod j
theorem setE_sort (E : Nat → List Int) (i : Nat) (l : List Int) : setE (setE E i l) i (sortI (setE E i l i)) = setE E i (sortI l) := by rw [setE_setE, setE_self]
theorem InvS.step {p : Int} {i : Nat} (hp : 0 ≤ p ∧ p ≤ 1048576) (h : InvS N m i C E) (hi : i < N) : InvS N m (i + 1) (singC p C i) (singE C E i) := by
  have hEi := h.rest i (Nat.le_refl i)
  have fin : ∀ (C' : Costs) (l : List Int), InvW N (m + 1) C' (setE E i l) → (∃ c, C' ((i : Int), (i : Int) + 1) = some c) → (∀ j : Nat, j < i → ∃ c, C' ((j : Int), (j : Int) + 1) = some c) → InvS N m (i + 1) C' (setE E i (sortI l)) := fun C' l h1 h2 h3 => by
    have hs := h1.sorted i
    rw [setE_sort] at hs
    refine ⟨hs, fun j hj => ?_, fun j hj => ?_, fun j hj => ?_⟩
    · by_cases e : j = i
      · subst e; exact h2
      · exact h3 j (by omega)
    · unfold setE
      by_cases e : j = i
      · rw [if_pos e]
        have := h1.nod i
        rw [setE_self] at this
        exact sortI_strict this
      · rw [if_neg e]; exact h.inc j (by omega)
    · unfold setE; rw [if_neg (by omega)]; exact h.rest j (by omega)
  unfold singC singE
  cases q : C ((i : Int), (i : Int) + 1) with
  | none =>
    have hw : InvW N (m + 1) (setC C ((i : Int), (i : Int) + 1) p) (setE E i (E i ++ [(i : Int) + 1])) := by
      have := InvW.add (m := m + 1) h.w hp (show 0 ≤ (i : Int) ∧ (i : Int) < (i : Int) + 1 ∧ (i : Int) + 1 ≤ N by omega) q
      rw [Int.toNat_natCast] at this
      refine ⟨this.cost, this.place, this.ends, this.nod, fun j => setE_len (h.w.len j) (by rw [List.length_append]; simp; omega)⟩
    exact fin _ _ hw (setC_is.2 (.inl rfl)) (fun j hj => setC_is.2 (.inr (h.one j hj)))
  | some c =>
    refine fin C (E i) ?_ ⟨c, q⟩ h.one
    rw [show setE E i (E i) = E by funext j; unfold setE; split; rename_i e; rw [e]; rfl]
    exact h.w
theorem InvS.all {p : Int} (hp : 0 ≤ p ∧ p ≤ 1048576) {s : Costs × (Nat → List Int)} (h : InvW N m s.1 s.2) : ∀ i, i ≤ N → InvS N m i (singCE p i s).1 (singCE p i s).2
  | 0, _ => ⟨h.weak, fun j hj => by omega, fun j hj => by omega, fun j _ => h.len j⟩
  | i + 1, hi => (InvS.all hp h i (by omega)).step hp (by omega)
end
/-- A run's costs and ends. -/
def finCE (N : Nat) (p : Int) (l : List S36) : Costs × (Nat → List Int) := singCE p N (wordsCE l)
theorem fin_spec {N : Nat} {p mo : Int} {l : List S36} (h1 : limOk N p mo l.length = true) (h2 : l.all (wordOk N) = true) : Spec N (finCE N p l).1 (finCE N p l).2 := by
  unfold limOk at h1
  simp only [Bool.and_eq_true, decide_eq_true_eq] at h1
  have hp := inN_is h1.2.1
  have hw := InvW.words l (fun _ => none, fun _ => []) 0 (fun x hx => List.all_eq_true.1 h2 x hx) (InvW.start N)
  have hs := InvS.all hp hw N (Nat.le_refl N)
  rw [Nat.zero_add] at hs
  exact ⟨hs.one, hs.w.cost, hs.w.place, fun i x _ => hs.w.ends i x, hs.inc, fun i => Nat.le_trans (hs.w.len i) (by omega)⟩
end Go.Proofs.Ytckpjppbkfcaaaa.Print
