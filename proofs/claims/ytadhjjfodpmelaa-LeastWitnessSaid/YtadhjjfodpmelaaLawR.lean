/- What the reference of chapter 12 says of a run. -/
import Derived.Test.YtadhjjfodpmelaaPrint18
import Derived.Test.YtadhjjfodpmelaaLawB
-- NEEDS scansionref12_Run
namespace Go.Proofs.Ytadhjjfodpmelaa.Pure
open Go.RowKit Go.Proofs.Ytadhjjfodpmelaa.Print Go.Proofs.YtadhjjfodpmelaaW.PrintWords Go.Proofs.YtadhjjfodpmelaaW.PrintLast
set_option linter.unusedVariables false
set_option linter.unusedSimpArgs false

/-- All are classes. -/
def wordB (m : Nat) (w : List Int) : Bool := w.all fun c => decide (0 ≤ c ∧ c < m)
theorem wordB_iff {m : Nat} {w : List Int} : wordB m w = true ↔ WordOk m w := by
  unfold wordB WordOk
  simp
theorem run_l1 {a : List (List Int)} {b : List Bool} {n m : Nat} (hw : Wf a b n m) (u : List Int) (hu : WordOk m u) (hl : u.length < 9223372036854775807) : ∀ (c i s : Nat), i + c = u.length → s < n → Ev (fun k => scansionref12_Run.l1 k s u i a b) (runI a s (u.drop i), 0)
  | 0, i, s, hi, hs => by
    rw [List.drop_eq_nil_of_le (by omega), runI]
    refine Ev.succ (Ev.some_ _) fun k => ?_
    rw [scansionref12_Run.l1, if_neg (by omega)]
  | c + 1, i, s, hi, hs => by
    have hd := hu _ (rd_mem (show i < u.length by omega))
    obtain ⟨d, hde⟩ : ∃ d : Nat, rd u i = d := ⟨(rd u i).toNat, by omega⟩
    have hn := hw.nx hs (c := d) (by omega)
    have hr := hw.row s hs
    have hlen := hw.len
    have := run_l1 hw u hu hl c (i + 1) (nx a s d) (by omega) hn.1
    rw [rd_nat u i (by omega), runI, hde, hn.2]
    refine Ev.succ this fun k => ?_
    rw [scansionref12_Run.l1, if_pos (by omega), if_pos (by omega), if_pos (by omega), if_pos (by omega), hde, if_pos (by omega), if_pos (by omega), hn.2, wrap_succ (by omega)]
theorem run_l0 {a : List (List Int)} {b : List Bool} {n m : Nat} (hw : Wf a b n m) (u : List Int) (hl : u.length < 9223372036854775807) : ∀ (c i : Nat), i + c = u.length → (∀ j : Nat, j < i → 0 ≤ rd u j ∧ rd u j < m) → Ev (fun k => scansionref12_Run.l0 k 0 u i a b) (if wordB m u = true then (runI a 0 u, 0) else (0, 1))
  | 0, i, hi, hj => by
    have hu : WordOk m u := fun c hc => by
      obtain ⟨j, hjl, rfl⟩ := List.getElem_of_mem hc
      have := hj j (by omega)
      rwa [← getElem_rd hjl] at this
    rw [if_pos (wordB_iff.2 hu)]
    have := run_l1 hw u hu hl u.length 0 0 (by omega) hw.one
    rw [List.drop_zero] at this
    refine Ev.succ this fun k => ?_
    rw [scansionref12_Run.l0, if_neg (by omega)]
    rfl
  | c + 1, i, hi, hj => by
    have h0 : (rd_L1 a 0).length = m := hw.row 0 hw.one
    have hlen := hw.len
    have h1 := hw.one
    have bad : ¬ (0 ≤ rd u i ∧ rd u i < m) → ¬ (wordB m u = true) := fun h hb => h (wordB_iff.1 hb _ (rd_mem (by omega)))
    by_cases q : rd u i < 0
    · rw [if_neg (bad (by omega))]
      refine Ev.succ (Ev.some_ _) fun k => ?_
      rw [scansionref12_Run.l0, if_pos (by omega), if_pos (by omega), if_pos q]
    · by_cases q2 : rd u i ≥ m
      · rw [if_neg (bad (by omega))]
        refine Ev.succ (Ev.some_ _) fun k => ?_
        rw [scansionref12_Run.l0, if_pos (by omega), if_pos (by omega), if_neg q, if_pos (by omega), if_pos (by omega)]
      · refine Ev.succ (run_l0 hw u hl c (i + 1) (by omega) fun j hjj => ?_) fun k => ?_
        · by_cases e : j = i
          · rw [e]; omega
          · exact hj j (by omega)
        · rw [scansionref12_Run.l0, if_pos (by omega), if_pos (by omega), if_neg q, if_pos (by omega), if_neg (by omega), wrap_succ (by omega)]
/-- A run from the first state. -/
theorem ev_run {a : List (List Int)} {b : List Bool} (h : rightB a b = true) (u : List Int) (hl : u.length < 9223372036854775807) : Ev (fun k => scansionref12_Run.f k a b 0 u) (if wordB (rd_L1 a 0).length u = true then (runI a 0 u, 0) else (0, 1)) := by
  have hr := ev_right a b
  rw [h] at hr
  have hw := wf_of_right h
  have h1 := hw.one
  refine Ev.bind hr (Ev.congr (g := fun k => scansionref12_Run.j0 k 0 u false a b) (Ev.succ (run_l0 hw u hl u.length 0 (by omega) fun j hj => absurd hj (by omega)) fun k => ?_) fun k => ?_)
  · rw [scansionref12_Run.j0, if_neg (by decide)]
    rfl
  · rw [if_pos rfl, if_neg (by omega), decide_eq_false (by omega)]
/-- Where a run of classes ends. -/
theorem runI_lt {a : List (List Int)} {b : List Bool} {n m : Nat} (hw : Wf a b n m) : ∀ (w : List Int) (s : Nat), WordOk m w → s < n → ∃ t : Nat, t < n ∧ runI a s w = t
  | [], s, _, hs => ⟨s, hs, rfl⟩
  | c :: w, s, hu, hs => by
    have hc := hu c (List.mem_cons_self ..)
    obtain ⟨d, rfl⟩ : ∃ d : Nat, c = d := ⟨c.toNat, by omega⟩
    have hn := hw.nx hs (c := d) (by omega)
    obtain ⟨t, h1, h2⟩ := runI_lt hw w (nx a s d) (fun x hx => hu x (List.mem_cons_of_mem _ hx)) hn.1
    exact ⟨t, h1, by rw [runI, hn.2]; exact h2⟩
end Go.Proofs.Ytadhjjfodpmelaa.Pure
