/- What an automaton of places is that Build answers, and where it stands behind a word. -/
import Derived.Test.YtemlgmkbonpniaaFStepM
import Derived.Test.YtemlgmkbonpniaaSem
namespace Go.Proofs.Ytemlgmkbonpniaa.Print
open Go.RowKit Go.Maps Go.Proofs.YtemlgmkbonpniaaW.PrintWords Go.Proofs.YtemlgmkbonpniaaW.PrintLast Go.Proofs.YtemlgmkbonpniaaW.PrintMore
set_option linter.unusedVariables false
set_option linter.unusedSimpArgs false
/-- What Build answers where it answers places. -/
structure Auto (r : Bt) : Prop where
 h0 : r.2.2.2.2.2 = 0
 len : r.2.2.2.2.1.length = r.2.1.length
 m : r.2.1.length ≤ 300
 first : Good r.2.1.length r.2.2.1
 last : Good r.2.1.length r.2.2.2.1
 fol : ∀ l ∈ r.2.2.2.2.1, Good r.2.1.length l
 sets : ∀ s ∈ r.2.1, 0 ≤ s ∧ s ≤ 63
theorem leaves_right : ∀ x, rightN x = true → ∀ s ∈ leavesN x, 0 ≤ s ∧ s ≤ 63 := by
 refine node_ind (P := fun x => rightN x = true → ∀ s ∈ leavesN x, 0 ≤ s ∧ s ≤ 63) (fun x ih hr => ?_)
 obtain ⟨k, s, kids⟩ := x
 replace ih : ∀ y ∈ kids, rightN y = true → ∀ s ∈ leavesN y, 0 ≤ s ∧ s ≤ 63 := ih
 have key : ∀ l : List S24, (∀ y ∈ l, ∀ s ∈ leavesN y, 0 ≤ s ∧ s ≤ 63) → ∀ s ∈ leavesL l, 0 ≤ s ∧ s ≤ 63 := by
  intro l
  induction l with
  | nil => intro _ s hs; rw [leavesL] at hs; cases hs
  | cons y l ihl =>
   intro h s hs
   rw [leavesL] at hs
   rcases List.mem_append.1 hs with hs | hs
   ·exact h y List.mem_cons_self s hs
   ·exact ihl (fun z hz => h z (List.mem_cons_of_mem _ hz)) s hs
 have kk : rightL kids = true → ∀ s ∈ leavesL kids, 0 ≤ s ∧ s ≤ 63 := fun h => key kids (fun y hy => ih y hy (rightL_mem h y hy))
 rw [rightN] at hr
 rw [leavesN]
 by_cases q1 : k = 1
 ·rw [if_pos q1] at hr ⊢
  rw [Bool.and_eq_true, Bool.and_eq_true, decide_eq_true_eq, decide_eq_true_eq] at hr
  intro t ht
  rw [List.mem_singleton.1 ht]
  exact ⟨hr.1.2, hr.2⟩
 rw [if_neg q1] at hr ⊢
 by_cases q0 : k = 0
 ·rw [if_pos q0] at hr; exact kk hr
 rw [if_neg q0] at hr
 by_cases q2 : k = 2
 ·rw [if_pos q2, Bool.and_eq_true] at hr; exact kk hr.2
 rw [if_neg q2] at hr
 by_cases q3 : k = 3 ∨ k = 4 ∨ k = 5
 ·rw [if_pos q3, Bool.and_eq_true] at hr; exact kk hr.2
 ·rw [if_neg q3] at hr; cases hr
theorem build_auto (x : S24) : (buildR x).2.2.2.2.2 = 0 → Auto (buildR x) ∧ rightN x = true ∧ cnt x ≤ 300 := by
 intro h
 have hb := h
 unfold buildR at hb
 split at hb
 ·cases hb
 next hr =>
  split at hb
  ·cases hb
  next hc =>
   have hr' : rightN x = true := by revert hr; cases rightN x <;> simp
   have hm := nodeR_made x ⟨[], []⟩ ⟨rfl, fun l hl => by cases hl⟩
   have hs := node_sem x hr' ⟨[], []⟩ ⟨rfl, fun l hl => by cases hl⟩
   have h1 : (nodeR x ⟨[], []⟩).1.sets.length ≤ 300 := by have := hm.most; simp only [List.length_nil] at this; omega
   have he : buildR x = ((nodeR x ⟨[], []⟩).2.null, (nodeR x ⟨[], []⟩).1.sets, (nodeR x ⟨[], []⟩).2.first, (nodeR x ⟨[], []⟩).2.last, (nodeR x ⟨[], []⟩).1.fol, 0) := by unfold buildR; rw [if_neg hr, if_neg hc]
   rw [he]
   refine ⟨⟨rfl, hm.fit.len, h1, hm.good.first, hm.good.last, hm.fit.good, fun s hs' => ?_⟩, hr', by omega⟩
   have h2 : s ∈ leavesN x := by have h3 := hs.sets; rw [List.nil_append] at h3; rw [← h3]; exact hs'
   exact leaves_right x hr' s h2
/-- Where one stands behind some of a word. -/
def atR (r : Bt) (word : List Int) : List Int := word.foldl (fun a s => stepR r.2.1 r.2.2.1 r.2.2.2.2.1 a s) [0]
theorem atR_step {r : Bt} {word : List Int} {i : Nat} (h : i < word.length) : atR r (word.take (i + 1)) = stepR r.2.1 r.2.2.1 r.2.2.2.2.1 (atR r (word.take i)) (rd word (i : Int)) := by
 unfold atR
 rw [take_one h, List.foldl_append]
 rfl
theorem flatten_le {l : List (List Int)} {m : Nat} (h : ∀ r ∈ l, r.length ≤ m) : l.flatten.length ≤ l.length * m := by
 induction l with
 | nil => simp
 | cons r l ih =>
  rw [List.flatten_cons, List.length_append, List.length_cons, Nat.succ_mul]
  have h1 := h r List.mem_cons_self
  have h2 := ih (fun z hz => h z (List.mem_cons_of_mem _ hz))
  omega
theorem auto_ok {r : Bt} (h : Auto r) {a : List Int} (ha : ∀ t ∈ a, 0 ≤ t ∧ t ≤ (r.2.1.length : Int)) (hl : a.length ≤ 301) : StepOk r.2.1 r.2.2.1 r.2.2.2.2.1 a := by
 have hm := h.m
 refine ⟨fun t ht => by rw [h.len]; exact ha t ht, h.first.2, fun l hl => (h.fol l hl).2, h.sets, by omega, by rw [h.len]; omega, by omega, ?_⟩
 unfold allR
 have h1 := flatten_le (l := a.map (rowOf r.2.2.1 r.2.2.2.2.1)) (m := 300) (fun l hl => by
  obtain ⟨t, _, rfl⟩ := List.mem_map.1 hl
  unfold rowOf
  split
  ·exact Nat.le_trans h.first.len hm
  ·exact Nat.le_trans (getD_good h.fol _).len hm)
 rw [List.length_map] at h1
 omega
theorem step_good {r : Bt} (h : Auto r) {a : List Int} (hok : StepOk r.2.1 r.2.2.1 r.2.2.2.2.1 a) (s : Int) : Good r.2.1.length (stepR r.2.1 r.2.2.1 r.2.2.2.2.1 a s) := by
 refine ⟨List.Pairwise.filter _ (compact_rise (sortI_sorted _)), fun t ht => ?_⟩
 unfold stepR withR at ht
 have h1 := (List.mem_filter.1 ht).1
 rw [compact_mem, sortI_mem, List.append_nil] at h1
 exact allR_mem hok t h1
theorem at_good {r : Bt} (h : Auto r) (word : List Int) (i : Nat) (hi : i ≤ word.length) : (∀ t ∈ atR r (word.take i), 0 ≤ t ∧ t ≤ (r.2.1.length : Int)) ∧ (atR r (word.take i)).length ≤ 301 := by
 induction i with
 | zero => rw [List.take_zero]; exact ⟨fun t ht => by rw [List.mem_singleton.1 (show t ∈ [(0 : Int)] from ht)]; omega, by show [(0 : Int)].length ≤ 301; decide⟩
 | succ i ih =>
  obtain ⟨h1, h2⟩ := ih (by omega)
  rw [atR_step (by omega)]
  have hg := step_good h (auto_ok h h1 h2) (rd word (i : Int))
  exact ⟨fun t ht => by have := hg.2 t ht; omega, by have := hg.len; have := h.m; omega⟩
end Go.Proofs.Ytemlgmkbonpniaa.Print
