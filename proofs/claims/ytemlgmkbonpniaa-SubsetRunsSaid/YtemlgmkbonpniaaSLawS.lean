/- Plain laws: the reference of chapter 12 tells the same of states, and runs as they do; SubsetRuns. -/
import Derived.Test.YtemlgmkbonpniaaSLawR
import Derived.Test.YtemlgmkbonpniaaPrint57
namespace Go.Proofs.Ytemlgmkbonpniaa.Print
open Go.RowKit Go.Maps Go.Proofs.YtemlgmkbonpniaaW.PrintWords Go.Proofs.YtemlgmkbonpniaaW.PrintLast Go.Proofs.YtemlgmkbonpniaaW.PrintMore
set_option linter.unusedVariables false
set_option linter.unusedSimpArgs false
def rowOk (n c : Nat) (r : List Int) : Prop := r.length = c ∧ 1 ≤ r.length ∧ r.length ≤ 200 ∧ ∀ s ∈ r, 0 ≤ s ∧ s < (n : Int)
theorem right_l1 (nx : List (List Int)) (fin : List Bool) (i : Nat) (hi : i < nx.length) (b : Bool) (hb : Evs (fun k => scansionref12_Right.l0 k (nx.length : Int) ((i + 1 : Nat) : Int) nx fin) b) (hn : nx.length ≤ 5000) (hl : (rd_L3 nx (i : Int)).length ≤ 200) : ∀ (m j : Nat), j + m = (rd_L3 nx (i : Int)).length → ∀ p : Bool, (p = true ↔ ∀ s ∈ (rd_L3 nx (i : Int)).drop j, 0 ≤ s ∧ s < (nx.length : Int)) → Evs (fun k => scansionref12_Right.l1 k (nx.length : Int) (i : Int) (j : Int) nx fin) (p && b) := by
  intro m
  induction m with
  | zero =>
    intro j hj p hp
    have hp1 : p = true := hp.2 (fun s hs => by rw [List.drop_eq_nil_of_le (by omega)] at hs; cases hs)
    obtain ⟨K, hK⟩ := hb
    refine ⟨K + 1, fun k hk => ?_⟩
    obtain ⟨k, rfl⟩ : ∃ j, k = j + 1 := ⟨k - 1, by omega⟩
    show scansionref12_Right.l1 (k + 1) _ _ _ _ _ = _
    have hk1 : scansionref12_Right.l0 k _ _ _ _ = _ := hK k (by omega)
    rw [scansionref12_Right.l1, if_pos (by omega), if_pos (by omega), if_neg (by omega), show wrap64 ((i : Int) + 1) = ((i + 1 : Nat) : Int) by unfold wrap64; omega, hk1, hp1, Bool.true_and]
  | succ m ih =>
    intro j hj p hp
    rw [drop_rd (by omega)] at hp
    by_cases q1 : rd (rd_L3 nx (i : Int)) (j : Int) < 0
    · have hp1 : p = false := by
        cases p with
        | false => rfl
        | true => have := hp.1 rfl _ List.mem_cons_self; omega
      refine ⟨1, fun k hk => ?_⟩
      obtain ⟨k, rfl⟩ : ∃ j, k = j + 1 := ⟨k - 1, by omega⟩
      show scansionref12_Right.l1 (k + 1) _ _ _ _ _ = _
      rw [scansionref12_Right.l1, if_pos (by omega), if_pos (by omega), if_pos (by omega), if_pos (by omega), if_pos q1, hp1, Bool.false_and]
    by_cases q2 : rd (rd_L3 nx (i : Int)) (j : Int) ≥ (nx.length : Int)
    · have hp1 : p = false := by
        cases p with
        | false => rfl
        | true => have := hp.1 rfl _ List.mem_cons_self; omega
      refine ⟨1, fun k hk => ?_⟩
      obtain ⟨k, rfl⟩ : ∃ j, k = j + 1 := ⟨k - 1, by omega⟩
      show scansionref12_Right.l1 (k + 1) _ _ _ _ _ = _
      rw [scansionref12_Right.l1, if_pos (by omega), if_pos (by omega), if_pos (by omega), if_pos (by omega), if_neg q1, if_pos q2, hp1, Bool.false_and]
    obtain ⟨K, hK⟩ := ih (j + 1) (by omega) p (hp.trans ⟨fun h s hs => h s (List.mem_cons_of_mem _ hs), fun h s hs => by
      rcases List.mem_cons.1 hs with rfl | hs
      · omega
      · exact h s hs⟩)
    refine ⟨K + 1, fun k hk => ?_⟩
    obtain ⟨k, rfl⟩ : ∃ j, k = j + 1 := ⟨k - 1, by omega⟩
    show scansionref12_Right.l1 (k + 1) _ _ _ _ _ = _
    have hk1 : scansionref12_Right.l1 k _ _ _ _ _ = _ := hK k (by omega)
    rw [scansionref12_Right.l1, if_pos (by omega), if_pos (by omega), if_pos (by omega), if_pos (by omega), if_neg q1, if_neg q2, show wrap64 ((j : Int) + 1) = ((j + 1 : Nat) : Int) by unfold wrap64; omega, hk1]
theorem rd_L3_drop {l : List (List Int)} {i : Nat} (h : i < l.length) : l.drop i = rd_L3 l (i : Int) :: l.drop (i + 1) := by
  unfold rd_L3
  rw [List.drop_eq_getElem_cons h, Int.toNat_natCast, List.getD_eq_getElem?_getD, List.getElem?_eq_getElem h]
  rfl
theorem right_l0 (nx : List (List Int)) (fin : List Bool) (h1 : 1 ≤ nx.length) (hn : nx.length ≤ 5000) : ∀ (m i : Nat), i + m = nx.length → ∀ p : Bool, (p = true ↔ ∀ r ∈ nx.drop i, rowOk nx.length (rd_L3 nx 0).length r) → Evs (fun k => scansionref12_Right.l0 k (nx.length : Int) (i : Int) nx fin) p := by
  intro m
  induction m with
  | zero =>
    intro i hi p hp
    have hp1 : p = true := hp.2 (fun s hs => by rw [List.drop_eq_nil_of_le (by omega)] at hs; cases hs)
    refine ⟨1, fun k hk => ?_⟩
    obtain ⟨k, rfl⟩ : ∃ j, k = j + 1 := ⟨k - 1, by omega⟩
    show scansionref12_Right.l0 (k + 1) _ _ _ _ = _
    rw [scansionref12_Right.l0, if_neg (by omega), hp1]
  | succ m ih =>
    intro i hi p hp
    rw [rd_L3_drop (by omega)] at hp
    have odd : ∀ k, scansionref12_Right.j2 (k + 1) (nx.length : Int) (i : Int) true nx fin = some false := fun k => by rw [scansionref12_Right.j2, if_pos rfl]
    by_cases q1 : (rd_L3 nx (i : Int)).length = (rd_L3 nx 0).length ∧ 1 ≤ (rd_L3 nx (i : Int)).length ∧ (rd_L3 nx (i : Int)).length ≤ 200
    · obtain ⟨w1, w2, w3⟩ := q1
      obtain ⟨b2, hb2⟩ : ∃ b2 : Bool, b2 = true ↔ ∀ r ∈ nx.drop (i + 1), rowOk nx.length (rd_L3 nx 0).length r := ⟨@decide _ (Classical.propDecidable _), @decide_eq_true_iff _ (Classical.propDecidable _)⟩
      have hb := ih (i + 1) (by omega) b2 hb2
      obtain ⟨K, hK⟩ := right_l1 nx fin i (by omega) _ hb hn w3 (rd_L3 nx (i : Int)).length 0 (by omega) (decide (∀ s ∈ rd_L3 nx (i : Int), 0 ≤ s ∧ s < (nx.length : Int))) (by rw [List.drop_zero]; exact decide_eq_true_iff)
      have hpe : p = (decide (∀ s ∈ rd_L3 nx (i : Int), 0 ≤ s ∧ s < (nx.length : Int)) && b2) := by
        rw [Bool.eq_iff_iff, hp, Bool.and_eq_true, decide_eq_true_eq, hb2, List.forall_mem_cons]
        exact ⟨fun h => ⟨h.1.2.2.2, h.2⟩, fun h => ⟨⟨w1, w2, w3, h.1⟩, h.2⟩⟩
      refine ⟨K + 2, fun k hk => ?_⟩
      obtain ⟨k, rfl⟩ : ∃ j, k = j + 1 + 1 := ⟨k - 2, by omega⟩
      show scansionref12_Right.l0 (k + 1 + 1) _ _ _ _ = _
      have hk1 : scansionref12_Right.l1 k _ _ _ _ _ = _ := hK k (by omega)
      rw [scansionref12_Right.l0, if_pos (by omega), if_pos (by omega), if_pos (by omega), if_pos (by omega), if_pos (by omega), if_neg (by omega), decide_eq_false (by omega), scansionref12_Right.j2, if_neg (by decide)]
      exact hk1.trans (congrArg some hpe.symm)
    · have hp1 : p = false := by
        cases p with
        | false => rfl
        | true => have h := hp.1 rfl _ List.mem_cons_self; exact (q1 ⟨h.1, h.2.1, h.2.2.1⟩).elim
      refine ⟨2, fun k hk => ?_⟩
      obtain ⟨k, rfl⟩ : ∃ j, k = j + 1 + 1 := ⟨k - 2, by omega⟩
      show scansionref12_Right.l0 (k + 1 + 1) _ _ _ _ = _
      rw [scansionref12_Right.l0, if_pos (by omega), if_pos (by omega), if_pos (by omega), if_pos (by omega), hp1]
      by_cases w1 : ((rd_L3 nx (i : Int)).length : Int) = ((rd_L3 nx 0).length : Int)
      · rw [if_pos w1]
        by_cases w2 : ((rd_L3 nx (i : Int)).length : Int) < 1
        · rw [if_pos w2]; exact odd k
        · rw [if_neg w2, decide_eq_true (by omega)]; exact odd k
      · rw [if_neg w1]; exact odd k
theorem refright_f (nx : List (List Int)) (fin : List Bool) : Evs (fun k => scansionref12_Right.f k nx fin) (rightD nx fin) := by
  have odd : ∀ k, scansionref12_Right.j0 (k + 1) (nx.length : Int) true nx fin = some false := fun k => by rw [scansionref12_Right.j0, if_pos rfl]
  by_cases q : 1 ≤ nx.length ∧ nx.length ≤ 5000 ∧ fin.length = nx.length
  · obtain ⟨q1, q2, q3⟩ := q
    have hd : (rightD nx fin = true ↔ ∀ r ∈ nx.drop 0, rowOk nx.length (rd_L3 nx 0).length r) := by
      rw [rightD_iff, List.drop_zero]
      constructor
      · intro h r hr
        have h1 := h.row r hr
        exact ⟨h1.1, by rw [h1.1]; exact h.c1, by rw [h1.1]; exact h.c2, h1.2⟩
      · intro h
        have h0 := h _ (row_at (a := 0) (by omega) (by omega))
        exact ⟨q1, q2, q3, h0.2.1, h0.2.2.1, fun r hr => ⟨(h r hr).1, (h r hr).2.2.2⟩⟩
    obtain ⟨K, hK⟩ := right_l0 nx fin q1 q2 nx.length 0 (by omega) _ hd
    refine ⟨K + 1, fun k hk => ?_⟩
    obtain ⟨k, rfl⟩ : ∃ j, k = j + 1 := ⟨k - 1, by omega⟩
    show scansionref12_Right.f (k + 1) _ _ = _
    have hk1 : scansionref12_Right.l0 k (nx.length : Int) 0 _ _ = _ := hK k (by omega)
    unfold scansionref12_Right.f
    rw [if_neg (by omega), if_neg (by omega), q3, bne_self_eq_false, scansionref12_Right.j0, if_neg (by decide), hk1]
  · have hd : rightD nx fin = false := by
      cases e : rightD nx fin with
      | false => rfl
      | true => have h := (rightD_iff nx fin).1 e; exact (q ⟨h.n1, h.n2, h.fl⟩).elim
    refine ⟨1, fun k hk => ?_⟩
    obtain ⟨k, rfl⟩ : ∃ j, k = j + 1 := ⟨k - 1, by omega⟩
    show scansionref12_Right.f (k + 1) _ _ = _
    unfold scansionref12_Right.f
    rw [hd]
    by_cases w1 : (nx.length : Int) < 1
    · rw [if_pos w1]; exact odd k
    by_cases w2 : (nx.length : Int) > 5000
    · rw [if_neg w1, if_pos w2]; exact odd k
    · rw [if_neg w1, if_neg w2, bne_iff_ne.2 (show (fin.length : Int) ≠ (nx.length : Int) from fun h => q ⟨by omega, by omega, by omega⟩)]
      exact odd k
theorem runGo_bad (nx : List (List Int)) : ∀ (cl : List Int) (a : Int), (∃ c ∈ cl, c < 0 ∨ ((rd_L3 nx 0).length : Int) ≤ c) → runGo nx a cl = (0, 1) := by
  intro cl
  induction cl with
  | nil => rintro a ⟨c, hc, _⟩; cases hc
  | cons x cl ih =>
    rintro a ⟨c, hc, hb⟩
    rw [runGo]
    by_cases q : x < 0 ∨ ((rd_L3 nx 0).length : Int) ≤ x
    · rw [if_pos q]
    · rw [if_neg q]
      rcases List.mem_cons.1 hc with rfl | hc
      · exact (q hb).elim
      · exact ih _ ⟨c, hc, hb⟩
theorem refrun_l1 {nx : List (List Int)} {fin : List Bool} (h : RightP nx fin) (cl : List Int) (hl : cl.length ≤ 1000000) (hc : ∀ c ∈ cl, 0 ≤ c ∧ c < ((rd_L3 nx 0).length : Int)) : ∀ (n i : Nat) (a : Int), i + n = cl.length → 0 ≤ a → a < (nx.length : Int) → Evs (fun k => scansionref12_Run.l1 k a cl (i : Int) nx fin) (runGo nx a (cl.drop i)) := by
  intro n
  induction n with
  | zero =>
    intro i a hi h0 h1
    refine ⟨1, fun k hk => ?_⟩
    obtain ⟨k, rfl⟩ : ∃ j, k = j + 1 := ⟨k - 1, by omega⟩
    show scansionref12_Run.l1 (k + 1) _ _ _ _ _ = _
    rw [scansionref12_Run.l1, if_neg (by omega), List.drop_eq_nil_of_le (by omega), runGo]
  | succ n ihn =>
    intro i a hi h0 h1
    have hil : i < cl.length := by omega
    have hm : rd cl (i : Int) ∈ cl := rd_at (by omega) (by omega)
    obtain ⟨c1, c2⟩ := hc _ hm
    obtain ⟨c, hce⟩ : ∃ c, c = rd cl (i : Int) := ⟨_, rfl⟩
    rw [drop_rd hil, ← hce, runGo]
    rw [← hce] at c1 c2
    obtain ⟨e1, e2, e3⟩ := h.next h0 h1 c1 c2
    obtain ⟨K, hK⟩ := ihn (i + 1) (rd (rd_L3 nx a) c) (by omega) e2 e3
    refine ⟨K + 1, fun k hk => ?_⟩
    obtain ⟨k, rfl⟩ : ∃ j, k = j + 1 := ⟨k - 1, by omega⟩
    show scansionref12_Run.l1 (k + 1) _ _ _ _ _ = _
    have hk1 : scansionref12_Run.l1 k _ _ _ _ _ = _ := hK k (by omega)
    rw [scansionref12_Run.l1, if_pos (by omega), if_pos h0, if_pos h1, if_pos (by omega), ← hce, if_pos c1, if_pos e1, show wrap64 ((i : Int) + 1) = ((i + 1 : Nat) : Int) by unfold wrap64; omega, hk1, if_neg (by omega)]
theorem refrun_l0 {nx : List (List Int)} {fin : List Bool} (h : RightP nx fin) (cl : List Int) (hl : cl.length ≤ 1000000) (a : Int) (h0 : 0 ≤ a) (h1 : a < (nx.length : Int)) : ∀ (n i : Nat), i + n = cl.length → (∀ c ∈ cl.take i, 0 ≤ c ∧ c < ((rd_L3 nx 0).length : Int)) → Evs (fun k => scansionref12_Run.l0 k a cl (i : Int) nx fin) (runGo nx a cl) := by
  intro n
  induction n with
  | zero =>
    intro i hi hc
    rw [List.take_of_length_le (by omega)] at hc
    obtain ⟨K, hK⟩ := refrun_l1 h cl hl hc cl.length 0 a (by omega) h0 h1
    refine ⟨K + 1, fun k hk => ?_⟩
    obtain ⟨k, rfl⟩ : ∃ j, k = j + 1 := ⟨k - 1, by omega⟩
    show scansionref12_Run.l0 (k + 1) _ _ _ _ _ = _
    have hk1 : scansionref12_Run.l1 k _ _ 0 _ _ = _ := hK k (by omega)
    rw [scansionref12_Run.l0, if_neg (by omega), hk1, List.drop_zero]
  | succ n ihn =>
    intro i hi hc
    have hil : i < cl.length := by omega
    have hm : rd cl (i : Int) ∈ cl := rd_at (by omega) (by omega)
    have hn := h.n1
    by_cases q : rd cl (i : Int) < 0
    · rw [runGo_bad nx cl a ⟨_, hm, .inl q⟩]
      refine ⟨1, fun k hk => ?_⟩
      obtain ⟨k, rfl⟩ : ∃ j, k = j + 1 := ⟨k - 1, by omega⟩
      show scansionref12_Run.l0 (k + 1) _ _ _ _ _ = _
      rw [scansionref12_Run.l0, if_pos (by omega), if_pos (by omega), if_pos q]
    by_cases q2 : rd cl (i : Int) ≥ ((rd_L3 nx 0).length : Int)
    · rw [runGo_bad nx cl a ⟨_, hm, .inr q2⟩]
      refine ⟨1, fun k hk => ?_⟩
      obtain ⟨k, rfl⟩ : ∃ j, k = j + 1 := ⟨k - 1, by omega⟩
      show scansionref12_Run.l0 (k + 1) _ _ _ _ _ = _
      rw [scansionref12_Run.l0, if_pos (by omega), if_pos (by omega), if_neg q, if_pos (by omega), if_pos q2]
    · obtain ⟨K, hK⟩ := ihn (i + 1) (by omega) (fun c hc' => by
        rw [take_one hil] at hc'
        rcases List.mem_append.1 hc' with hc' | hc'
        · exact hc c hc'
        · rw [List.mem_singleton.1 hc']; omega)
      refine ⟨K + 1, fun k hk => ?_⟩
      obtain ⟨k, rfl⟩ : ∃ j, k = j + 1 := ⟨k - 1, by omega⟩
      show scansionref12_Run.l0 (k + 1) _ _ _ _ _ = _
      have hk1 : scansionref12_Run.l0 k _ _ _ _ _ = _ := hK k (by omega)
      rw [scansionref12_Run.l0, if_pos (by omega), if_pos (by omega), if_neg q, if_pos (by omega), if_neg q2, show wrap64 ((i : Int) + 1) = ((i + 1 : Nat) : Int) by unfold wrap64; omega, hk1]
theorem refrun_f (nx : List (List Int)) (fin : List Bool) (a : Int) (cl : List Int) (hl : cl.length ≤ 1000000) : Evs (fun k => scansionref12_Run.f k nx fin a cl) (runD nx fin a cl) := by
  have odd : ∀ k, scansionref12_Run.j0 (k + 1) a cl true nx fin = some (0, 1) := fun k => by rw [scansionref12_Run.j0, if_pos rfl]
  obtain ⟨K0, hK0⟩ := refright_f nx fin
  have h0 : ∀ k ≥ K0, scansionref12_Right.f k nx fin = some (rightD nx fin) := hK0
  unfold runD
  by_cases q : rightD nx fin = true
  · have h := (rightD_iff nx fin).1 q
    by_cases q1 : a < 0
    · refine ⟨K0 + 1, fun k hk => ?_⟩
      obtain ⟨k, rfl⟩ : ∃ j, k = j + 1 := ⟨k - 1, by omega⟩
      show scansionref12_Run.f (k + 1) _ _ _ _ = _
      unfold scansionref12_Run.f
      rw [h0 _ (by omega), Option.bind_some, if_pos q, if_pos q1, odd, if_pos (.inr (.inl q1))]
    by_cases q2 : a ≥ (nx.length : Int)
    · refine ⟨K0 + 1, fun k hk => ?_⟩
      obtain ⟨k, rfl⟩ : ∃ j, k = j + 1 := ⟨k - 1, by omega⟩
      show scansionref12_Run.f (k + 1) _ _ _ _ = _
      unfold scansionref12_Run.f
      rw [h0 _ (by omega), Option.bind_some, if_pos q, if_neg q1, decide_eq_true q2, odd, if_pos (.inr (.inr q2))]
    · obtain ⟨K, hK⟩ := refrun_l0 h cl hl a (by omega) (by omega) cl.length 0 (by omega) (fun c hc => by rw [List.take_zero] at hc; cases hc)
      refine ⟨K0 + K + 1, fun k hk => ?_⟩
      obtain ⟨k, rfl⟩ : ∃ j, k = j + 1 := ⟨k - 1, by omega⟩
      show scansionref12_Run.f (k + 1) _ _ _ _ = _
      have hk1 : scansionref12_Run.l0 k _ _ 0 _ _ = _ := hK k (by omega)
      unfold scansionref12_Run.f
      rw [h0 _ (by omega), Option.bind_some, if_pos q, if_neg q1, decide_eq_false q2, scansionref12_Run.j0, if_neg (by decide), hk1, if_neg (by rintro (h | h | h); rw [q] at h; cases h; exact q1 h; exact q2 h)]
  · refine ⟨K0 + 1, fun k hk => ?_⟩
    obtain ⟨k, rfl⟩ : ∃ j, k = j + 1 := ⟨k - 1, by omega⟩
    show scansionref12_Run.f (k + 1) _ _ _ _ = _
    unfold scansionref12_Run.f
    rw [h0 _ (by omega), Option.bind_some, if_neg q, odd, if_pos (.inl (by revert q; cases rightD nx fin <;> simp))]
theorem pure_runs (nx : List (List Int)) (fin : List Bool) (a : Int) (cl : List Int) (hn : nx.length ≤ 9223372036854775807) : ∃ k, scansionlaw12_SubsetRuns.f k nx fin a cl = some true := by
  have early : ∀ k, scansionlaw12_SubsetRuns.j0 (k + 1) a cl true true nx fin = some true := fun k => by rw [scansionlaw12_SubsetRuns.j0, if_pos rfl]
  obtain ⟨b, ⟨K0, hK0⟩, hb⟩ := few12_f nx fin hn
  have h0 : ∀ k ≥ K0, scansionref12_Few.f k nx fin 60 = some b := hK0
  have hup : scansionlaw12_awake.f = some true := rfl
  by_cases qb : b = true
  · by_cases q1 : (cl.length : Int) > 300
    · refine ⟨K0 + 1, ?_⟩
      unfold scansionlaw12_SubsetRuns.f
      rw [hup, Option.bind_some, h0 _ (by omega), Option.bind_some, if_pos rfl, if_pos qb, decide_eq_true q1]
      exact early K0
    obtain ⟨K1, hK1⟩ := run_f nx fin a cl (by omega)
    obtain ⟨K2, hK2⟩ := refrun_f nx fin a cl (by omega)
    obtain ⟨K3, hK3⟩ := refright_f nx fin
    refine ⟨K0 + K1 + K2 + K3 + 1, ?_⟩
    unfold scansionlaw12_SubsetRuns.f
    have g1 : subset_Run.f (K0 + K1 + K2 + K3) nx fin a cl = _ := hK1 _ (by omega)
    have g2 : scansionref12_Run.f (K0 + K1 + K2 + K3) nx fin a cl = _ := hK2 _ (by omega)
    have g3 : scansionref12_Right.f (K0 + K1 + K2 + K3) nx fin = _ := hK3 _ (by omega)
    have g4 : subset_Right.f nx fin = some (rightD nx fin) := rfl
    rw [hup, Option.bind_some, h0 _ (by omega), Option.bind_some, if_pos rfl, if_pos qb, decide_eq_false q1, scansionlaw12_SubsetRuns.j0, if_neg (by decide), g1, Option.bind_some, g2, Option.bind_some, if_pos rfl, if_pos rfl, g4, Option.bind_some, g3, Option.bind_some, beq_self_eq_true]
  · refine ⟨K0 + 1, ?_⟩
    unfold scansionlaw12_SubsetRuns.f
    rw [hup, Option.bind_some, h0 _ (by omega), Option.bind_some, if_pos rfl, if_neg qb]
    exact early K0
end Go.Proofs.Ytemlgmkbonpniaa.Print
