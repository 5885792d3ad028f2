/- Plain laws: what the reference's Step and End tell. · The walk of scansionlaw11.FollowSteps. -/
import Derived.Test.YtemlgmkbonpniaaFStepM
import Derived.Test.YtemlgmkbonpniaaPrint36
import Derived.Test.YtemlgmkbonpniaaPrint39
import Derived.Lib.Zigzag
import Derived.Test.YtemlgmkbonpniaaSem
import Derived.Test.YtemlgmkbonpniaaPrint26
import Derived.Test.YtemlgmkbonpniaaPrint33
namespace Go.Proofs.Ytemlgmkbonpniaa.Print
open Go.RowKit Go.Maps Go.Proofs.YtemlgmkbonpniaaW.PrintWords Go.Proofs.YtemlgmkbonpniaaW.PrintLast Go.Proofs.YtemlgmkbonpniaaW.PrintMore
set_option linter.unusedVariables false
set_option linter.unusedSimpArgs false
def U64 (z : Int) : Prop := 0 ≤ z ∧ z < 18446744073709551616
theorem bitN_two {sign s : Int} (h : U64 sign) : bitN sign s = 0 ∨ bitN sign s = 1 := by
 unfold bitN shr
 have h1 : 0 ≤ sign / 2 ^ min s.toNat IntKind.u64.bits := Int.ediv_nonneg h.1 (Int.le_of_lt (Int.pow_pos (by decide)))
 have h2 : sign / 2 ^ min s.toNat IntKind.u64.bits < 18446744073709551616 := Int.lt_of_le_of_lt (Int.ediv_le_self _ h.1) h.2
 rw [Lib.u64_and1 _ h1 h2]
 omega
theorem u64_wrap {s : Int} (h : 0 ≤ s ∧ s ≤ 63) : IntKind.u64.wrap s = s := by
 unfold IntKind.wrap
 simp [IntKind.signed, IntKind.bits]
 omega
/-! ### has -/
theorem has_l0 (l : List Int) (n : Int) (hl : l.length ≤ 1000000) : ∀ (m i : Nat), i + m = l.length → Evs (fun k => scansionref11_has.l0 k l n (i : Int)) (decide (n ∈ l.drop i)) := by
 intro m
 induction m with
 | zero =>
  intro i hi
  refine ⟨1, fun k hk => ?_⟩
  obtain ⟨k, rfl⟩ : ∃ j, k = j + 1 := ⟨k - 1, by omega⟩
  show scansionref11_has.l0 (k + 1) _ _ _ = _
  rw [scansionref11_has.l0, if_neg (by omega), List.drop_eq_nil_of_le (by omega)]
  rfl
 | succ m ih =>
  intro i hi
  have hil : i < l.length := by omega
  obtain ⟨K, hK⟩ := ih (i + 1) (by omega)
  refine ⟨K + 1, fun k hk => ?_⟩
  obtain ⟨k, rfl⟩ : ∃ j, k = j + 1 := ⟨k - 1, by omega⟩
  show scansionref11_has.l0 (k + 1) _ _ _ = _
  have hr : rd l (i : Int) = l[i] := by unfold rd; rw [Int.toNat_natCast, List.getD_eq_getElem?_getD, List.getElem?_eq_getElem hil]; rfl
  rw [scansionref11_has.l0, if_pos (by omega), if_pos (by omega), hr, List.drop_eq_getElem_cons hil]
  by_cases q : l[i] = n
  ·rw [if_pos q, decide_eq_true (by rw [q]; exact List.mem_cons_self)]
  ·rw [if_neg q, show wrap64 ((i : Int) + 1) = ((i + 1 : Nat) : Int) by unfold wrap64; omega]
   have h1 : scansionref11_has.l0 k l n ((i + 1 : Nat) : Int) = _ := hK k (by omega)
   rw [h1]
   congr 1
   rw [decide_eq_decide, List.mem_cons]
   exact ⟨.inr, fun h => h.resolve_left (fun e => q e.symm)⟩
theorem has_f (l : List Int) (n : Int) (hl : l.length ≤ 1000000) : Evs (fun k => scansionref11_has.f k l n) (decide (n ∈ l)) := has_l0 l n hl l.length 0 (by omega)
/-! ### End -/
theorem end_l0 (nl : Bool) (l1 l2 last : List Int) (l4 : List (List Int)) (at_ : List Int) (hl : last.length ≤ 1000000) (ha : at_.length ≤ 1000000) : ∀ (m i : Nat), i + m = at_.length → Evs (fun k => scansionref11_End.l0 k at_ (i : Int) nl l1 l2 last l4) ((at_.drop i).any (endP nl last)) := by
 intro m
 induction m with
 | zero =>
  intro i hi
  refine ⟨1, fun k hk => ?_⟩
  obtain ⟨k, rfl⟩ : ∃ j, k = j + 1 := ⟨k - 1, by omega⟩
  show scansionref11_End.l0 (k + 1) _ _ _ _ _ _ _ = _
  rw [scansionref11_End.l0, if_neg (by omega), List.drop_eq_nil_of_le (by omega)]
  rfl
 | succ m ih =>
  intro i hi
  have hil : i < at_.length := by omega
  obtain ⟨K, hK⟩ := ih (i + 1) (by omega)
  obtain ⟨K2, hK2⟩ := has_f last at_[i] hl
  refine ⟨K + K2 + 1, fun k hk => ?_⟩
  obtain ⟨k, rfl⟩ : ∃ j, k = j + 1 := ⟨k - 1, by omega⟩
  show scansionref11_End.l0 (k + 1) _ _ _ _ _ _ _ = _
  have hr : rd at_ (i : Int) = at_[i] := by unfold rd; rw [Int.toNat_natCast, List.getD_eq_getElem?_getD, List.getElem?_eq_getElem hil]; rfl
  have h1 : scansionref11_End.l0 k at_ ((i + 1 : Nat) : Int) nl l1 l2 last l4 = _ := hK k (by omega)
  have h2 : scansionref11_has.f k last at_[i] = some (decide (at_[i] ∈ last)) := hK2 k (by omega)
  rw [scansionref11_End.l0, if_pos (by omega), if_pos (by omega), hr, h2, Option.bind_some, show wrap64 ((i : Int) + 1) = ((i + 1 : Nat) : Int) by unfold wrap64; omega, h1, List.drop_eq_getElem_cons hil, List.any_cons]
  unfold endP
  by_cases q : at_[i] = 0
  ·rw [if_pos q, decide_eq_true q]
   cases nl
   ·rw [if_neg (by decide)]
    by_cases q2 : at_[i] ∈ last
    ·rw [if_pos (by simpa using q2), decide_eq_true q2]; rfl
    ·rw [if_neg (by simpa using q2), decide_eq_false q2]; rfl
   ·rw [if_pos rfl]; rfl
  ·rw [if_neg q, decide_eq_false q]
   by_cases q2 : at_[i] ∈ last
   ·rw [if_pos (by simpa using q2), decide_eq_true q2]; rfl
   ·rw [if_neg (by simpa using q2), decide_eq_false q2]; rfl
theorem end_f (nl : Bool) (l1 l2 last : List Int) (l4 : List (List Int)) (at_ : List Int) (hl : last.length ≤ 1000000) (ha : at_.length ≤ 1000000) : Evs (fun k => scansionref11_End.f k nl l1 l2 last l4 at_) (endR nl last at_) := end_l0 nl l1 l2 last l4 at_ hl ha at_.length 0 (by omega)
/-! ### Step -/
section
variable (nl : Bool) (sets first last : List Int) (fol : List (List Int)) (at_ : List Int) (sign : Int)
/-- Whether place q is stepped to. -/
def goes (q : Int) : Bool := decide (q ∈ allR first fol at_) && decide (bitN sign (rd sets (q - 1)) = 1)
theorem allR_iff {q : Int} : q ∈ allR first fol at_ ↔ (0 ∈ at_ ∧ q ∈ first) ∨ ∃ t ∈ at_, t ≠ 0 ∧ q ∈ fol.getD (t - 1).toNat [] := by
 unfold allR
 rw [List.mem_flatten]
 constructor
 ·rintro ⟨l, hl, hq⟩
  obtain ⟨t, ht, rfl⟩ := List.mem_map.1 hl
  unfold rowOf at hq
  split at hq
  next e => subst e; exact .inl ⟨ht, hq⟩
  next e => exact .inr ⟨t, ht, e, hq⟩
 ·rintro (⟨h, hq⟩ | ⟨t, ht, e, hq⟩)
  ·exact ⟨_, List.mem_map.2 ⟨0, h, rfl⟩, by unfold rowOf; rw [if_pos rfl]; exact hq⟩
  ·exact ⟨_, List.mem_map.2 ⟨t, ht, rfl⟩, by unfold rowOf; rw [if_neg e]; exact hq⟩
theorem step_l1 (hok : StepOk sets first fol at_) (hfr : ∀ l ∈ fol, l.length ≤ 1000000) (acc : List Int) (K : Nat) (h1 : 1 ≤ K) (h2 : K ≤ sets.length) (hacc : acc.length ≤ 1000000) (R : List Int) (b : Bool) (hb : b = decide ((K : Int) ∈ allR first fol at_))
  (hR : Evs (fun k => scansionref11_Step.l0 k at_ sign (if b = true ∧ bitN sign (rd sets ((K : Int) - 1)) = 1 then acc ++ [(K : Int)] else acc) ((K + 1 : Nat) : Int) nl sets first last fol) R) :
  ∀ (m i : Nat) (is : Bool), i + m = at_.length → (is = true → b = true) → (b = true → is = true ∨ ∃ t ∈ at_.drop i, t ≠ 0 ∧ (K : Int) ∈ fol.getD (t - 1).toNat []) → Evs (fun k => scansionref11_Step.l1 k at_ sign acc (K : Int) is (i : Int) nl sets first last fol) R := by
 intro m
 induction m with
 | zero =>
  intro i is hi hs1 hs2
  obtain ⟨K0, hK0⟩ := hR
  have hi2 : is = b := by
   rw [List.drop_eq_nil_of_le (by omega)] at hs2
   cases is <;> cases b <;> simp_all
  refine ⟨K0 + 1, fun k hk => ?_⟩
  obtain ⟨k, rfl⟩ : ∃ j, k = j + 1 := ⟨k - 1, by omega⟩
  show scansionref11_Step.l1 (k + 1) _ _ _ _ _ _ _ _ _ _ _ = _
  have h3 := hK0 k (by omega)
  have hw : wrap64 ((K : Int) - 1) = (K : Int) - 1 := by have := hok.2.2.2.2.1; unfold wrap64; omega
  have hw2 : wrap64 ((K : Int) + 1) = ((K + 1 : Nat) : Int) := by clear hw; have := hok.2.2.2.2.1; unfold wrap64; omega
  have hs : 0 ≤ rd sets ((K : Int) - 1) ∧ rd sets ((K : Int) - 1) ≤ 63 := hok.2.2.2.1 _ (by
   have h4 := rd_mem (l := sets) (i := K - 1) (by omega)
   rwa [show ((K - 1 : Nat) : Int) = (K : Int) - 1 by omega] at h4)
  rw [scansionref11_Step.l1, if_neg (by omega), hw, hw2, u64_wrap hs, hi2]
  cases b with
  | false => rw [if_neg (by decide)]; rw [if_neg (by simp)] at h3; exact h3
  | true =>
   rw [if_pos rfl, if_pos (by omega), if_pos (by omega), if_pos hs.1]
   by_cases q : bitN sign (rd sets ((K : Int) - 1)) = 1
   ·rw [if_pos ⟨rfl, q⟩] at h3
    have q' := q
    unfold bitN at q'
    rw [if_pos q', if_pos (by omega)]
    exact h3
   ·rw [if_neg (fun h => q h.2)] at h3
    have q' := q
    unfold bitN at q'
    rw [if_neg q']
    exact h3
 | succ m ih =>
  intro i is hi hs1 hs2
  have hil : i < at_.length := by omega
  have hr : rd at_ (i : Int) = at_[i] := by unfold rd; rw [Int.toNat_natCast, List.getD_eq_getElem?_getD, List.getElem?_eq_getElem hil]; rfl
  rw [List.drop_eq_getElem_cons hil] at hs2
  have hw2 : wrap64 ((i : Int) + 1) = ((i + 1 : Nat) : Int) := by have := hok.2.2.2.2.2.2.1; unfold wrap64; omega
  cases is with
  | true =>
   obtain ⟨K1, hK1⟩ := ih (i + 1) true (by omega) hs1 (fun _ => .inl rfl)
   refine ⟨K1 + 1, fun k hk => ?_⟩
   obtain ⟨k, rfl⟩ : ∃ j, k = j + 1 := ⟨k - 1, by omega⟩
   show scansionref11_Step.l1 (k + 1) _ _ _ _ _ _ _ _ _ _ _ = _
   rw [scansionref11_Step.l1, if_pos (by omega), if_pos rfl, hw2]
   exact hK1 k (by omega)
  | false =>
   have htr := hok.1 at_[i] (List.getElem_mem hil)
   by_cases q : at_[i] = 0
   ·obtain ⟨K1, hK1⟩ := ih (i + 1) false (by omega) hs1 (fun h => by
     rcases hs2 h with h | ⟨t, ht, e, hq⟩
     ·cases h
     ·rcases List.mem_cons.1 ht with rfl | ht
      ·exact absurd q e
      ·exact .inr ⟨t, ht, e, hq⟩)
    refine ⟨K1 + 1, fun k hk => ?_⟩
    obtain ⟨k, rfl⟩ : ∃ j, k = j + 1 := ⟨k - 1, by omega⟩
    show scansionref11_Step.l1 (k + 1) _ _ _ _ _ _ _ _ _ _ _ = _
    rw [scansionref11_Step.l1, if_pos (by omega), if_neg (by decide), if_pos (by omega), hr, if_neg (by omega), hw2]
    exact hK1 k (by omega)
   ·obtain ⟨j, hj⟩ : ∃ j : Nat, j = (at_[i] - 1).toNat := ⟨_, rfl⟩
    have hjl : j < fol.length := by omega
    have hw : wrap64 (at_[i] - 1) = (j : Int) := by clear hw2; have := hok.2.2.2.2.2.1; unfold wrap64; omega
    have hg : fol.getD j [] = fol[j] := by rw [List.getD_eq_getElem?_getD, List.getElem?_eq_getElem hjl]; rfl
    obtain ⟨K2, hK2⟩ := has_f fol[j] (K : Int) (hfr _ (List.getElem_mem hjl))
    obtain ⟨K1, hK1⟩ := ih (i + 1) (decide ((K : Int) ∈ fol[j])) (by omega) (fun h => by
     rw [hb, decide_eq_true_eq, allR_iff]
     exact .inr ⟨at_[i], List.getElem_mem hil, q, by rw [← hj, hg]; simpa using h⟩) (fun h => by
     rcases hs2 h with h | ⟨t, ht, e, hq⟩
     ·cases h
     ·rcases List.mem_cons.1 ht with rfl | ht
      ·rw [← hj, hg] at hq; exact .inl (decide_eq_true hq)
      ·exact .inr ⟨t, ht, e, hq⟩)
    refine ⟨K1 + K2 + 1, fun k hk => ?_⟩
    obtain ⟨k, rfl⟩ : ∃ j, k = j + 1 := ⟨k - 1, by omega⟩
    show scansionref11_Step.l1 (k + 1) _ _ _ _ _ _ _ _ _ _ _ = _
    have h5 : scansionref11_has.f k fol[j] (K : Int) = some (decide ((K : Int) ∈ fol[j])) := hK2 k (by omega)
    rw [scansionref11_Step.l1, if_pos (by omega), if_neg (by decide), if_pos (by omega), hr, if_pos (by omega), hw, if_pos (by omega), if_pos (by omega), rdL3_get hjl, h5, Option.bind_some, hw2]
    exact hK1 k (by omega)
theorem step_l0 (hok : StepOk sets first fol at_) (hfr : ∀ l ∈ fol, l.length ≤ 1000000) (hf1 : first.length ≤ 1000000) : ∀ (n K : Nat) (acc : List Int), K + n = sets.length + 1 → 1 ≤ K → acc.length + n ≤ 1000000 →
  Evs (fun k => scansionref11_Step.l0 k at_ sign acc (K : Int) nl sets first last fol) (acc ++ (((List.range n).map fun j => ((K + j : Nat) : Int)).filter (goes sets first fol at_ sign))) := by
 intro n
 induction n with
 | zero =>
  intro K acc hK h1 hacc
  refine ⟨1, fun k hk => ?_⟩
  obtain ⟨k, rfl⟩ : ∃ j, k = j + 1 := ⟨k - 1, by omega⟩
  show scansionref11_Step.l0 (k + 1) _ _ _ _ _ _ _ _ _ = _
  rw [scansionref11_Step.l0, if_neg (by omega)]
  simp
 | succ n ih =>
  intro K acc hK h1 hacc
  obtain ⟨b, hb⟩ : ∃ b, b = decide ((K : Int) ∈ allR first fol at_) := ⟨_, rfl⟩
  have hstep := ih (K + 1) (if b = true ∧ bitN sign (rd sets ((K : Int) - 1)) = 1 then acc ++ [(K : Int)] else acc) (by omega) (by omega) (by split <;> (try simp only [List.length_append, List.length_cons, List.length_nil]) <;> omega)
  have hlist : (if b = true ∧ bitN sign (rd sets ((K : Int) - 1)) = 1 then acc ++ [(K : Int)] else acc) ++ (((List.range n).map fun j => ((K + 1 + j : Nat) : Int)).filter (goes sets first fol at_ sign)) = acc ++ (((List.range (n + 1)).map fun j => ((K + j : Nat) : Int)).filter (goes sets first fol at_ sign)) := by
   rw [List.range_succ_eq_map, List.map_cons, List.map_map, List.filter_cons]
   have e : ((fun j => ((K + j : Nat) : Int)) ∘ Nat.succ) = fun j => ((K + 1 + j : Nat) : Int) := by funext j; show ((K + (j + 1) : Nat) : Int) = _; congr 1; omega
   rw [e]
   simp only [Nat.add_zero]
   by_cases q : b = true ∧ bitN sign (rd sets ((K : Int) - 1)) = 1
   ·rw [if_pos q, if_pos (by unfold goes; rw [← hb, q.1, decide_eq_true q.2]; rfl), List.append_assoc]; rfl
   ·rw [if_neg q, if_neg (by
     unfold goes
     rw [← hb]
     intro h
     rw [Bool.and_eq_true, decide_eq_true_eq] at h
     exact q h)]
  rw [hlist] at hstep
  obtain ⟨Ka, hKa⟩ := has_f at_ 0 (by have := hok.2.2.2.2.2.2.1; omega)
  obtain ⟨Kb, hKb⟩ := has_f first (K : Int) hf1
  obtain ⟨Kc, hKc⟩ := step_l1 nl sets first last fol at_ sign hok hfr acc K h1 (by omega) (by omega) _ b hb hstep at_.length 0 (decide (0 ∈ at_) && decide ((K : Int) ∈ first)) (by omega) (fun h => by
   rw [Bool.and_eq_true, decide_eq_true_eq, decide_eq_true_eq] at h
   rw [hb, decide_eq_true_eq, allR_iff]
   exact .inl h) (fun h => by
   rw [hb, decide_eq_true_eq, allR_iff] at h
   rcases h with h | h
   ·exact .inl (by rw [decide_eq_true h.1, decide_eq_true h.2]; rfl)
   ·exact .inr h)
  refine ⟨Ka + Kb + Kc + 2, fun k hk => ?_⟩
  obtain ⟨k, rfl⟩ : ∃ j, k = j + 2 := ⟨k - 2, by omega⟩
  show scansionref11_Step.l0 (k + 1 + 1) _ _ _ _ _ _ _ _ _ = _
  have h5 : scansionref11_has.f (k + 1) at_ 0 = some (decide (0 ∈ at_)) := hKa (k + 1) (by omega)
  have h6 : scansionref11_has.f (k + 1) first (K : Int) = some (decide ((K : Int) ∈ first)) := hKb (k + 1) (by omega)
  have h7 := hKc k (by omega)
  rw [scansionref11_Step.l0, if_pos (by omega), h5, Option.bind_some]
  by_cases q : 0 ∈ at_
  ·rw [decide_eq_true q, if_pos rfl, h6, Option.bind_some, scansionref11_Step.j1]
   rw [decide_eq_true q, Bool.true_and] at h7
   exact h7
  ·rw [decide_eq_false q, if_neg (by decide), scansionref11_Step.j1]
   rw [decide_eq_false q, Bool.false_and] at h7
   exact h7
theorem stepR_is (hok : StepOk sets first fol at_) (hu : U64 sign) : stepR sets first fol at_ sign = ((List.range sets.length).map fun j => ((1 + j : Nat) : Int)).filter (goes sets first fol at_ sign) := by
 refine rise_ext _ _ ?_ ?_ (fun q => ?_)
 ·exact List.Pairwise.filter _ (compact_rise (sortI_sorted _))
 ·refine List.Pairwise.filter _ ?_
  rw [List.pairwise_map]
  exact List.pairwise_lt_range.imp (fun h => by omega)
 ·unfold stepR goes oddN
  rw [List.mem_filter, List.mem_filter]
  unfold withR
  rw [compact_mem, sortI_mem, List.append_nil]
  constructor
  ·rintro ⟨h1, h2⟩
   have h3 := allR_mem hok q h1
   refine ⟨List.mem_map.2 ⟨(q - 1).toNat, List.mem_range.2 (by omega), by omega⟩, ?_⟩
   rw [decide_eq_true h1, Bool.true_and, decide_eq_true_eq]
   rcases bitN_two (s := rd sets (q - 1)) hu with h | h
   ·rw [h] at h2; cases h2
   ·exact h
  ·rintro ⟨_, h2⟩
   rw [Bool.and_eq_true, decide_eq_true_eq, decide_eq_true_eq] at h2
   exact ⟨h2.1, by rw [h2.2]; rfl⟩
theorem step_f (hok : StepOk sets first fol at_) (hu : U64 sign) (hfr : ∀ l ∈ fol, l.length ≤ 1000000) (hf1 : first.length ≤ 1000000) (hs : sets.length ≤ 1000) : Evs (fun k => scansionref11_Step.f k nl sets first last fol at_ sign) (stepR sets first fol at_ sign) := by
 have h := step_l0 nl sets first last fol at_ sign hok hfr hf1 sets.length 1 [] (by omega) (by omega) (by simp; omega)
 rw [List.nil_append, ← stepR_is sets first fol at_ sign hok hu] at h
 exact h
end
end Go.Proofs.Ytemlgmkbonpniaa.Print

namespace Go.Proofs.Ytemlgmkbonpniaa.Print
open Go.RowKit Go.Maps Go.Proofs.YtemlgmkbonpniaaW.PrintWords Go.Proofs.YtemlgmkbonpniaaW.PrintLast Go.Proofs.YtemlgmkbonpniaaW.PrintMore
set_option linter.unusedVariables false
set_option linter.unusedSimpArgs false
def fst_T14 : Bool × List (List Nat × List Nat) := (true, [([], []), ([0], [0]), ([1], [1]), ([2], [2]), ([2], [2]), ([3, 4, 2, 2], [2, 3, 4]), ([2], [2]), ([2], [2]), ([6, 7, 5, 2], [2, 6, 7]), ([5, 8, 2], [2, 5, 8]), ([2, 9], [2, 9])])
def fst_B14 : List Nat := [0, 1, 3, 7, 7, 31, 7, 7, 255, 511, 1023]
theorem fst_tab14 : rtab .any (opsOf Try.f6 14) = fst_T14 := by kernel_rfl
theorem fst_bits14 : waitsOk fst_T14.2 fst_B14 = true := by kernel_rfl
def fsu_T17 : Bool × List (List Nat × List Nat) := (true, [([], []), ([], []), ([], []), ([], []), ([2, 3], [2, 3]), ([4], [4]), ([0, 1, 5], [0, 1, 5]), ([6, 6, 0, 1, 2, 3, 4, 5, 6], [1, 6])])
def fsu_B17 : List Nat := [0, 0, 0, 0, 12, 28, 63, 127]
theorem fsu_tab17 : rtab .any (opsOf Try.f6 17) = fsu_T17 := by kernel_rfl
theorem fsu_bits17 : waitsOk fsu_T17.2 fsu_B17 = true := by kernel_rfl
def fsv_T18 : Bool × List (List Nat × List Nat) := (true, [([], []), ([], []), ([], []), ([], []), ([2, 3], [2, 3]), ([4], [4]), ([0, 1, 5], [0, 1, 5]), ([6, 6, 0, 1, 2, 3, 4, 5, 6], [1, 6])])
def fsv_B18 : List Nat := [0, 0, 0, 0, 12, 28, 63, 127]
theorem fsv_tab18 : rtab .any (opsOf Try.f6 18) = fsv_T18 := by kernel_rfl
theorem fsv_bits18 : waitsOk fsv_T18.2 fsv_B18 = true := by kernel_rfl
theorem few_f (x : S24) (hz : Lens x) (word : List Int) : ∃ b, Evs (fun k => scansionlaw11_few.f k x.f0 x.f1 x.f2 word) b ∧ (b = true → siz x < 120 ∧ word.length ≤ 30) := by
 obtain ⟨t, ⟨K, hK⟩, h1, h2⟩ := nodes_f x hz 120 40 (by decide) (by decide) (by decide)
 by_cases q : t < 120
 ·refine ⟨decide ((word.length : Int) ≤ 30), ⟨K, fun k hk => ?_⟩, fun h => ⟨by rw [← h2 q]; exact q, by have := of_decide_eq_true h; omega⟩⟩
  show scansionlaw11_few.f k _ _ _ _ = _
  have h3 : scansionref08_Nodes.f k x.f0 x.f1 x.f2 120 40 = some (t : Int) := hK k hk
  unfold scansionlaw11_few.f
  rw [h3, Option.bind_some, if_pos (by omega)]
 ·refine ⟨false, ⟨K, fun k hk => ?_⟩, fun h => by cases h⟩
  show scansionlaw11_few.f k _ _ _ _ = _
  have h3 : scansionref08_Nodes.f k x.f0 x.f1 x.f2 120 40 = some (t : Int) := hK k hk
  unfold scansionlaw11_few.f
  rw [h3, Option.bind_some, if_neg (by omega)]
/-- What Build answers where it answers places. -/
structure Auto (r : Bt) : Prop where
 h0 : r.2.2.2.2.2 = 0
 len : r.2.2.2.2.1.length = r.2.1.length
 m : r.2.1.length ≤ 300
 first : Good r.2.1.length r.2.2.1
 last : Good r.2.1.length r.2.2.2.1
 fol : ∀ l ∈ r.2.2.2.2.1, Good r.2.1.length l
 sets : ∀ s ∈ r.2.1, 0 ≤ s ∧ s ≤ 63
theorem leaves_right : ∀ x, rightN x = true → ∀ s ∈ leavesN x, 0 ≤ s ∧ s ≤ 63 := by
 refine node_ind (P := fun x => rightN x = true → ∀ s ∈ leavesN x, 0 ≤ s ∧ s ≤ 63) (fun x ih hr => ?_)
 obtain ⟨k, s, kids⟩ := x
 replace ih : ∀ y ∈ kids, rightN y = true → ∀ s ∈ leavesN y, 0 ≤ s ∧ s ≤ 63 := ih
 have key : ∀ l : List S24, (∀ y ∈ l, ∀ s ∈ leavesN y, 0 ≤ s ∧ s ≤ 63) → ∀ s ∈ leavesL l, 0 ≤ s ∧ s ≤ 63 := by
  intro l
  induction l with
  | nil => intro _ s hs; rw [leavesL] at hs; cases hs
  | cons y l ihl =>
   intro h s hs
   rw [leavesL] at hs
   rcases List.mem_append.1 hs with hs | hs
   ·exact h y List.mem_cons_self s hs
   ·exact ihl (fun z hz => h z (List.mem_cons_of_mem _ hz)) s hs
 have kk : rightL kids = true → ∀ s ∈ leavesL kids, 0 ≤ s ∧ s ≤ 63 := fun h => key kids (fun y hy => ih y hy (rightL_mem h y hy))
 rw [rightN] at hr
 rw [leavesN]
 by_cases q1 : k = 1
 ·rw [if_pos q1] at hr ⊢
  rw [Bool.and_eq_true, Bool.and_eq_true, decide_eq_true_eq, decide_eq_true_eq] at hr
  intro t ht
  rw [List.mem_singleton.1 ht]
  exact ⟨hr.1.2, hr.2⟩
 rw [if_neg q1] at hr ⊢
 by_cases q0 : k = 0
 ·rw [if_pos q0] at hr; exact kk hr
 rw [if_neg q0] at hr
 by_cases q2 : k = 2
 ·rw [if_pos q2, Bool.and_eq_true] at hr; exact kk hr.2
 rw [if_neg q2] at hr
 by_cases q3 : k = 3 ∨ k = 4 ∨ k = 5
 ·rw [if_pos q3, Bool.and_eq_true] at hr; exact kk hr.2
 ·rw [if_neg q3] at hr; cases hr
theorem build_auto (x : S24) : (buildR x).2.2.2.2.2 = 0 → Auto (buildR x) ∧ rightN x = true ∧ cnt x ≤ 300 := by
 intro h
 have hb := h
 unfold buildR at hb
 split at hb
 ·cases hb
 next hr =>
  split at hb
  ·cases hb
  next hc =>
   have hr' : rightN x = true := by revert hr; cases rightN x <;> simp
   have hm := nodeR_made x ⟨[], []⟩ ⟨rfl, fun l hl => by cases hl⟩
   have hs := node_sem x hr' ⟨[], []⟩ ⟨rfl, fun l hl => by cases hl⟩
   have h1 : (nodeR x ⟨[], []⟩).1.sets.length ≤ 300 := by have := hm.most; simp only [List.length_nil] at this; omega
   have he : buildR x = ((nodeR x ⟨[], []⟩).2.null, (nodeR x ⟨[], []⟩).1.sets, (nodeR x ⟨[], []⟩).2.first, (nodeR x ⟨[], []⟩).2.last, (nodeR x ⟨[], []⟩).1.fol, 0) := by unfold buildR; rw [if_neg hr, if_neg hc]
   rw [he]
   refine ⟨⟨rfl, hm.fit.len, h1, hm.good.first, hm.good.last, hm.fit.good, fun s hs' => ?_⟩, hr', by omega⟩
   have h2 : s ∈ leavesN x := by have h3 := hs.sets; rw [List.nil_append] at h3; rw [← h3]; exact hs'
   exact leaves_right x hr' s h2
/-- Where one stands behind some of a word. -/
def atR (r : Bt) (word : List Int) : List Int := word.foldl (fun a s => stepR r.2.1 r.2.2.1 r.2.2.2.2.1 a s) [0]
theorem atR_step {r : Bt} {word : List Int} {i : Nat} (h : i < word.length) : atR r (word.take (i + 1)) = stepR r.2.1 r.2.2.1 r.2.2.2.2.1 (atR r (word.take i)) (rd word (i : Int)) := by
 unfold atR
 rw [take_one h, List.foldl_append]
 rfl
theorem flatten_le {l : List (List Int)} {m : Nat} (h : ∀ r ∈ l, r.length ≤ m) : l.flatten.length ≤ l.length * m := by
 induction l with
 | nil => simp
 | cons r l ih =>
  rw [List.flatten_cons, List.length_append, List.length_cons, Nat.succ_mul]
  have h1 := h r List.mem_cons_self
  have h2 := ih (fun z hz => h z (List.mem_cons_of_mem _ hz))
  omega
theorem auto_ok {r : Bt} (h : Auto r) {a : List Int} (ha : ∀ t ∈ a, 0 ≤ t ∧ t ≤ (r.2.1.length : Int)) (hl : a.length ≤ 301) : StepOk r.2.1 r.2.2.1 r.2.2.2.2.1 a := by
 have hm := h.m
 refine ⟨fun t ht => by rw [h.len]; exact ha t ht, h.first.2, fun l hl => (h.fol l hl).2, h.sets, by omega, by rw [h.len]; omega, by omega, ?_⟩
 unfold allR
 have h1 := flatten_le (l := a.map (rowOf r.2.2.1 r.2.2.2.2.1)) (m := 300) (fun l hl => by
  obtain ⟨t, _, rfl⟩ := List.mem_map.1 hl
  unfold rowOf
  split
  ·exact Nat.le_trans h.first.len hm
  ·exact Nat.le_trans (getD_good h.fol _).len hm)
 rw [List.length_map] at h1
 omega
theorem step_good {r : Bt} (h : Auto r) {a : List Int} (hok : StepOk r.2.1 r.2.2.1 r.2.2.2.2.1 a) (s : Int) : Good r.2.1.length (stepR r.2.1 r.2.2.1 r.2.2.2.2.1 a s) := by
 refine ⟨List.Pairwise.filter _ (compact_rise (sortI_sorted _)), fun t ht => ?_⟩
 unfold stepR withR at ht
 have h1 := (List.mem_filter.1 ht).1
 rw [compact_mem, sortI_mem, List.append_nil] at h1
 exact allR_mem hok t h1
theorem at_good {r : Bt} (h : Auto r) (word : List Int) (i : Nat) (hi : i ≤ word.length) : (∀ t ∈ atR r (word.take i), 0 ≤ t ∧ t ≤ (r.2.1.length : Int)) ∧ (atR r (word.take i)).length ≤ 301 := by
 induction i with
 | zero => rw [List.take_zero]; exact ⟨fun t ht => by rw [List.mem_singleton.1 (show t ∈ [(0 : Int)] from ht)]; omega, by show [(0 : Int)].length ≤ 301; decide⟩
 | succ i ih =>
  obtain ⟨h1, h2⟩ := ih (by omega)
  rw [atR_step (by omega)]
  have hg := step_good h (auto_ok h h1 h2) (rd word (i : Int))
  exact ⟨fun t ht => by have := hg.2 t ht; omega, by have := hg.len; have := h.m; omega⟩
set_option maxHeartbeats 16000000 in
set_option maxRecDepth 100000 in
theorem steps_calls (x : S24) (W : World) (A : Option Addr) (c : Nat) (Aw : Option Addr) (cw : Nat) (word : List Int) (hC : Kd.C k24 W A x.f2.length x.f2) (hc : x.f2.length ≤ c) (hCw : Kd.C (Kd.int .u64) W Aw word.length word) (hcw : word.length ≤ cw) (hU : ∀ s ∈ word, U64 s) :
  Calls Try.prog 6 #[.agg #[.int .i64 x.f0, .int .i64 x.f1, .slice A x.f2.length c], .slice Aw word.length cw] W fun e w' => e = .returned (.bool true) ∧ Below W.heap.size W w' := by
 have HC := Aside0.mk hC
 have HCC := Aside0.mk hc
 have HCW := Aside0.mk hCw
 have HCWL := Aside0.mk hcw
 have HU := Aside0.mk hU
 obtain ⟨b, ⟨K1, hK1⟩, hb⟩ := few_f x (lens_of x hC) word
 have HND := Aside0.mk (hK1 K1 (Nat.le_refl _))
 have HBT := Aside0.mk hb
 clear hC hc hCw hcw hU hK1 hb
 go_enter Try.func6, Try.ntmps6
 go_upto_region 1 with fail
 have HB1 := Aside0.mk (below_alloc (Below.refl W.heap.size W) (.cells #[.int .i64 x.f0, .int .i64 x.f1, .slice A x.f2.length c] 24))
 have HNB1 := Aside0.mk (blk_new W (.cells #[.int .i64 x.f0, .int .i64 x.f1, .slice A x.f2.length c] 24))
 obtain ⟨NB, hNB⟩ : ∃ n, W.heap.size = n := ⟨_, rfl⟩
 obtain ⟨W1, hW1⟩ : ∃ w, W.alloc (.cells #[.int .i64 x.f0, .int .i64 x.f1, .slice A x.f2.length c] 24) = w := ⟨_, rfl⟩
 rw [hNB] at HNB1
 rw [hW1] at HB1 HNB1
 rw [hW1]
 rw [hNB]
 clear hNB hW1
 go_upto_region 2 with (go_at_call 16; refine (fawake_calls W1).mono ?_; rintro e W2 ⟨rfl, hb⟩; have HB2 := Aside0.mk (HB1.out.trans (hb.mono HB1.out.size)); have HNB2 := Aside0.mk (blk_below HNB1.out hb); clear hb)
 clear HB1 HNB1
 have n0 := (blk_cell HNB2.out 0).trans rfl
 have n1 := (blk_cell HNB2.out 1).trans rfl
 have n2 := (blk_cell HNB2.out 2).trans rfl
 go_upto_region 3 with (go_at_call 21; refine (scansionlaw11_few.calls K1 x.f0 x.f1 A c x.f2 Aw cw word b W2 (Kd.C_below HC.out HB2.out) HCC.out (Kd.C_below HCW.out HB2.out) HCWL.out HND.out).mono ?_; rintro e W3 ⟨rfl, hb⟩; have HB3 := Aside0.mk (HB2.out.trans (hb.mono HB2.out.size)); have HNB3 := Aside0.mk (blk_below HNB2.out hb); clear hb n0 n1 n2)
 clear HB2 HNB2
 cases b with
 | false =>
  go_wp2_with fail
  go_ret
  exact ⟨rfl, HB3.out⟩
 | true =>
  have HFEW := Aside0.mk (HBT.out rfl)
  go_upto_region 5 with fail
  obtain ⟨r, hr⟩ : ∃ r, r = buildR x := ⟨_, rfl⟩
  have HRX := Aside0.mk hr
  have HRB := Aside0.mk (show scansionref11_Build.f x.f0 x.f1 x.f2 = some (r.1, r.2.1, r.2.2.1, r.2.2.2.1, r.2.2.2.2.1, r.2.2.2.2.2) by unfold scansionref11_Build.f; rw [s24_eta, ← hr])
  clear hr
  have n0 := (blk_cell HNB3.out 0).trans rfl
  have n1 := (blk_cell HNB3.out 1).trans rfl
  have n2 := (blk_cell HNB3.out 2).trans rfl
  go_upto_region 6 with (go_at_call 19; refine (scansionref11_Build.calls x.f0 x.f1 A c x.f2 r.1 r.2.1 r.2.2.1 r.2.2.2.1 r.2.2.2.2.1 r.2.2.2.2.2 W3 (Kd.C_below HC.out HB3.out) HCC.out HRB.out).mono ?_; rintro e W4 ⟨u1, u2, u3, u4, rfl, ho1, ho2, ho3, ho4, hb⟩; have HB4 := Aside0.mk (HB3.out.trans (hb.mono HB3.out.size)); have HNB4 := Aside0.mk (blk_below HNB3.out hb); obtain ⟨A1, c1, rfl⟩ := Kd.R_slice ho1; obtain ⟨A2, c2, rfl⟩ := Kd.R_slice ho2; obtain ⟨A3, c3, rfl⟩ := Kd.R_slice ho3; obtain ⟨A4, c4, rfl⟩ := Kd.R_slice ho4; have HO1 := Aside0.mk (Kd.R_lower ho1 HB3.out.size); have HO2 := Aside0.mk (Kd.R_lower ho2 HB3.out.size); have HO3 := Aside0.mk (Kd.R_lower ho3 HB3.out.size); have HO4 := Aside0.mk (Kd.R_lower ho4 HB3.out.size); clear ho1 ho2 ho3 ho4 hb n0 n1 n2)
  clear HB3 HNB3 
  have hbn := below_alloc (Below.refl W4.heap.size W4) (.cells #[.bool r.1, .slice A1 r.2.1.length c1, .slice A2 r.2.2.1.length c2, .slice A3 r.2.2.2.1.length c3, .slice A4 r.2.2.2.2.1.length c4] 30)
  have HAB1 := Aside0.mk (show AutoC W.heap.size W4.heap.size r (.slice A1 r.2.1.length c1) (.slice A2 r.2.2.1.length c2) (.slice A3 r.2.2.2.1.length c3) (.slice A4 r.2.2.2.2.1.length c4) (W4.alloc (.cells #[.bool r.1, .slice A1 r.2.1.length c1, .slice A2 r.2.2.1.length c2, .slice A3 r.2.2.2.1.length c3, .slice A4 r.2.2.2.2.1.length c4] 30)) from ⟨blk_new _ _, Kd.R_below HO1.out hbn, Kd.R_below HO2.out hbn, Kd.R_below HO3.out hbn, Kd.R_below HO4.out hbn⟩)
  have HBn := Aside0.mk (HB4.out.trans (hbn.mono HB4.out.size))
  have HNBn := Aside0.mk (blk_below HNB4.out hbn)
  clear hbn HO1 HO2 HO3 HO4 HB4 HNB4
  obtain ⟨B1, hB1⟩ : ∃ n, W4.heap.size = n := ⟨_, rfl⟩
  obtain ⟨W5, hW5⟩ : ∃ w, W4.alloc (.cells #[.bool r.1, .slice A1 r.2.1.length c1, .slice A2 r.2.2.1.length c2, .slice A3 r.2.2.2.1.length c3, .slice A4 r.2.2.2.2.1.length c4] 30) = w := ⟨_, rfl⟩
  rw [hB1, hW5] at HAB1
  rw [hW5] at HBn HNBn 
  rw [hW5]
  rw [hB1]
  clear hB1 hW5
  have HB4 := Aside0.mk HBn.out
  have HNB4 := Aside0.mk HNBn.out
  clear HBn HNBn
  by_cases qe : r.2.2.2.2.2 = 0
  case neg =>
   have f1 : (r.2.2.2.2.2 != 0) = true := bne_iff_ne.2 qe
   clear qe
   go_wp2_with fail
   go_ret
   exact ⟨rfl, HB4.out⟩
  case pos =>
   have HAU := Aside0.mk (show Auto r by rw [HRX.out]; exact (build_auto x (by rw [← HRX.out]; exact qe)).1)
   have f1 : (r.2.2.2.2.2 != 0) = false := bne_eq_false_iff_eq.2 qe
   clear qe
   go_upto_region 9 with (go_at_call 25; refine (follow_Begin.calls [0] W5 rfl).mono ?_; rintro e W6 ⟨v0, rfl, ho, hb⟩; obtain ⟨A9, c9, rfl⟩ := Kd.R_slice ho; have HB6 := Aside0.mk (HB4.out.trans (hb.mono HB4.out.size)); have HA6 := Aside0.mk (HAB1.out.later hb); have HO9 := Aside0.mk (Kd.R_lower ho HB4.out.size); clear ho hb)
   clear f1 HAB1 HB4 HNB4
   have hbn := below_alloc (Below.refl W6.heap.size W6) (.cells #[.int .i64 0] 3)
   have HB7 := Aside0.mk (HB6.out.trans (hbn.mono HB6.out.size))
   have HA7 := Aside0.mk (HA6.out.later hbn)
   have HO97 := Aside0.mk (Kd.R_below HO9.out hbn)
   have HO107 := Aside0.mk (show Kd.R (Kd.int .i64) 3 (W6.alloc (.cells #[.int .i64 0] 3)) W.heap.size (fun _ => True) (.slice (some ⟨W6.heap.size, 0, none⟩) [(0 : Int)].length 1) [0] from Kd.R_of_own (h1 := fun _ => rfl) (enc := Value.int .i64) (xs := [(0 : Int)]) (World.ownsRow_lit (base := W.heap.size) (e := 3) (size := 1) W6 #[.int .i64 0] 1 HB6.out.size (by decide) rfl) (fun _ _ => trivial))
   clear hbn
   go_upto_region 10 with fail
   obtain ⟨X9, hX9⟩ : ∃ n, W6.heap.size = n := ⟨_, rfl⟩
   obtain ⟨W7, hW7⟩ : ∃ w, W6.alloc (.cells #[.int .i64 0] 3) = w := ⟨_, rfl⟩
   rw [hX9, hW7] at HO107
   rw [hW7] at HB7 HA7 HO97
   rw [hW7]
   rw [hX9]
   clear hX9 hW7 HB6 HA6 HO9
   go_wp2_with fail
   go_loopg [9, 10, 11] (word.length + 1) (fun kq v9 v10 v11 w' => ∃ (i : Nat) (A10 A11 : Option Addr) (c10 c11 : Nat), v9 = .slice A10 (atR r (word.take i)).length c10 ∧ v10 = .slice A11 (atR r (word.take i)).length c11 ∧ v11 = .int .i64 (i : Int) ∧ Aside0 (i + kq = word.length + 1) ∧ Aside0 (Below W.heap.size W w') ∧ Aside0 (AutoC W.heap.size B1 r (.slice A1 r.2.1.length c1) (.slice A2 r.2.2.1.length c2) (.slice A3 r.2.2.2.1.length c3) (.slice A4 r.2.2.2.2.1.length c4) w') ∧ Aside0 (Kd.R (Kd.int .i64) 3 w' W.heap.size (fun _ => True) (.slice A10 (atR r (word.take i)).length c10) (atR r (word.take i))) ∧ Aside0 (Kd.R (Kd.int .i64) 3 w' W.heap.size (fun _ => True) (.slice A11 (atR r (word.take i)).length c11) (atR r (word.take i))))
   case atStart => exact ⟨0, A9, some ⟨X9, 0, none⟩, c9, 1, rfl, rfl, rfl, ⟨Nat.zero_add _⟩, HB7, HA7, HO97, HO107⟩
   case round =>
    clear HB7 HA7 HO97 HO107
    obtain ⟨i, A10, A11, c10, c11, rfl, rfl, rfl, HK, HBW, HAC, HR9, HR10⟩ := hrel
    by_cases q0 : gk = 0
    ·have f1 : ¬ (i : Int) ≤ (word.length : Int) := by have := HK.out; omega
     have f2 : decide ((i : Int) ≤ (word.length : Int)) = false := decide_eq_false f1
     have f3 : ¬ i ≤ word.length := by omega
     clear q0
     go_wp2_with fail
     go_ret
     exact ⟨rfl, HBW.out⟩
    ·have HQ := Aside0.mk q0
     clear q0
     have HIL := Aside0.mk (show i ≤ word.length by have := HK.out; have := HQ.out; omega)
     have HG := Aside0.mk (at_good HAU.out word i HIL.out)
     obtain ⟨a, hA⟩ : ∃ a, a = atR r (word.take i) := ⟨_, rfl⟩
     have HAD := Aside0.mk hA
     rw [← hA] at HR9 HR10 HG
     rw [← hA]
     clear hA
     have HOK := Aside0.mk (auto_ok HAU.out HG.out.1 HG.out.2)
     obtain ⟨KS, hKS⟩ := sameInts_f a (by have := HG.out.2; omega)
     have HSM := Aside0.mk (hKS KS (Nat.le_refl _))
     obtain ⟨KE, hKE⟩ := end_f r.1 r.2.1 r.2.2.1 r.2.2.2.1 r.2.2.2.2.1 a (by have := HAU.out.last.len; have := HAU.out.m; omega) (by have := HG.out.2; omega)
     have HEN := Aside0.mk (hKE KE (Nat.le_refl _))
     have HEF := Aside0.mk (show follow_End.f r.1 r.2.1 r.2.2.1 r.2.2.2.1 r.2.2.2.2.1 a = some (endR r.1 r.2.2.2.1 a) by unfold follow_End.f; rw [if_pos ⟨by have := HAU.out.last.len; have := HAU.out.m; omega, by have := HG.out.2; omega⟩])
     clear hKS hKE
     have f1 : (i : Int) ≤ (word.length : Int) := by have := HIL.out; omega
     have f2 : decide ((i : Int) ≤ (word.length : Int)) = true := decide_eq_true f1
     have f3 : i ≤ word.length := HIL.out
     go_upto_region 14 with (go_at_call 23; refine (scansionref01_SameInts.calls KS A10 c10 a A11 c11 a true wr (Kd.R_reads' HR9.out).2.2 (Kd.R_reads' HR9.out).2.1 (Kd.R_reads' HR10.out).2.2 (Kd.R_reads' HR10.out).2.1 HSM.out).mono ?_; rintro e w8 ⟨rfl, ⟨nd, rfl⟩⟩)
     clear f1 f2 f3
     have hb8 : Below wr.heap.size wr (wr.drewN nd) := by apply pw_below_drewN; exact Below.refl _ _
     have HB8 := Aside0.mk (HBW.out.trans (hb8.mono HBW.out.size))
     have HA8 := Aside0.mk (HAC.out.later hb8)
     have HR98 := Aside0.mk (Kd.R_below HR9.out hb8)
     have HR108 := Aside0.mk (Kd.R_below HR10.out hb8)
     obtain ⟨W8, hW8⟩ : ∃ w, wr.drewN nd = w := ⟨_, rfl⟩
     rw [hW8] at HB8 HA8 HR98 HR108
     rw [hW8]
     clear hW8 hb8 HBW HAC HR9 HR10
     have HB := Aside0.mk HB8.out
     have HA := Aside0.mk HA8.out
     have HP := Aside0.mk HR98.out
     have HM := Aside0.mk HR108.out
     clear HB8 HA8 HR98 HR108
     have hbd := below_drew (Below.refl W8.heap.size W8)
     have HBq := Aside0.mk (HB.out.trans (hbd.mono HB.out.size))
     have HAq := Aside0.mk (HA.out.later hbd)
     have HPq := Aside0.mk (Kd.R_below HP.out hbd)
     have HMq := Aside0.mk (Kd.R_below HM.out hbd)
     clear hbd
     clear HB HA HP HM
     have HB := Aside0.mk HBq.out
     have HA := Aside0.mk HAq.out
     have HP := Aside0.mk HPq.out
     have HM := Aside0.mk HMq.out
     clear HBq HAq HPq HMq
     refine wp_region_noPanic ?_
     refine start_ (n := 11) (S := fun w' => w'.cell? ⟨B1, 0, none⟩ = some (.bool r.1) ∧ w'.cell? ⟨B1, 1, none⟩ = some (.slice A1 r.2.1.length c1) ∧ w'.cell? ⟨B1, 2, none⟩ = some (.slice A2 r.2.2.1.length c2) ∧ w'.cell? ⟨B1, 3, none⟩ = some (.slice A3 r.2.2.2.1.length c3) ∧ w'.cell? ⟨B1, 4, none⟩ = some (.slice A4 r.2.2.2.2.1.length c4)) (ds := []) #[false, false, false, false, false, false, false, false, false, false, false] (by kernel_rfl) rfl rfl ⟨HA.out.cells.1, HA.out.cells.2.1, HA.out.cells.2.2.1, HA.out.cells.2.2.2.1, HA.out.cells.2.2.2.2⟩ (fun hHeld => ?_); refine with_tabW fst_tab14 fst_bits14 (fun HT_ HW_ => ?_)
     obtain ⟨W9, hW9⟩ : ∃ w, W8.drew = w := ⟨_, rfl⟩
     rw [hW9] at HB HA HP HM hHeld ⊢
     clear hW9
     refine pure_ (i := 0) (N := some 42) (v := ?_) (a' := ?_) #[true, false, false, false, false, false, false, false, false, false, false] rfl rfl (any_of HT_.out (by kernel_rfl)) (fun _ _ _ h => h) (Or.inl ⟨by rfl, ?_⟩) ?_ ?_
     rotate_left
     ·intro w'
      go_simp
      with_reducible rfl
     rotate_left
     ·simp only [Act.put, List.setIfInBounds_toArray, List.set_cons_zero, List.set_cons_succ, i64_w, i32_w]
      rfl
     refine pure_ (i := 1) (N := some 43) (v := ?_) (a' := ?_) #[true, true, false, false, false, false, false, false, false, false, false] rfl rfl (any_of HT_.out (by kernel_rfl)) (fun _ _ _ h => h) (Or.inl ⟨by rfl, ?_⟩) ?_ ?_
     rotate_left
     ·intro w'
      go_simp
      with_reducible rfl
     rotate_left
     ·simp only [Act.put, List.setIfInBounds_toArray, List.set_cons_zero, List.set_cons_succ, i64_w, i32_w]
      rfl
     refine pure_ (i := 2) (N := some 44) (v := ?_) (a' := ?_) #[true, true, true, false, false, false, false, false, false, false, false] rfl rfl (any_of HT_.out (by kernel_rfl)) (fun _ _ _ h => h) (Or.inl ⟨by rfl, ?_⟩) ?_ ?_
     rotate_left
     ·intro w'
      go_simp
      with_reducible rfl
     rotate_left
     ·simp only [Act.put, List.setIfInBounds_toArray, List.set_cons_zero, List.set_cons_succ, i64_w, i32_w]
      rfl
     refine take_ (i := 3) (N := some 45) (v := ?_) (a' := ?_) #[true, true, true, true, false, false, false, false, false, false, false] rfl rfl (take_ofW HT_.out HW_.out (by kernel_rfl)) (fun _ _ _ h => h) (Or.inl ⟨by rfl, ?_⟩) hHeld ?_ ?_
     rotate_left
     ·rintro w' ⟨s0, s1, s2, s3, s4⟩
      go_simp
      with_reducible rfl
     rotate_left
     ·simp only [Act.put, List.setIfInBounds_toArray, List.set_cons_zero, List.set_cons_succ, i64_w, i32_w]
      rfl
     refine pure_ (i := 4) (N := some 46) (v := ?_) (a' := ?_) #[true, true, true, true, true, false, false, false, false, false, false] rfl rfl (any_of HT_.out (by kernel_rfl)) (fun _ _ _ h => h) (Or.inl ⟨by rfl, ?_⟩) ?_ ?_
     rotate_left
     ·intro w'
      go_simp
      with_reducible rfl
     rotate_left
     ·simp only [Act.put, List.setIfInBounds_toArray, List.set_cons_zero, List.set_cons_succ, i64_w, i32_w]
      rfl
     refine take_ (i := 6) (N := some 48) (v := ?_) (a' := ?_) #[true, true, true, true, true, false, true, false, false, false, false] rfl rfl (take_ofW HT_.out HW_.out (by kernel_rfl)) (fun _ _ _ h => h) (Or.inl ⟨by rfl, ?_⟩) hHeld ?_ ?_
     rotate_left
     ·rintro w' ⟨s0, s1, s2, s3, s4⟩
      go_simp
      with_reducible rfl
     rotate_left
     ·simp only [Act.put, List.setIfInBounds_toArray, List.set_cons_zero, List.set_cons_succ, i64_w, i32_w]
      rfl
     refine pure_ (i := 7) (N := some 49) (v := ?_) (a' := ?_) #[true, true, true, true, true, false, true, true, false, false, false] rfl rfl (any_of HT_.out (by kernel_rfl)) (fun _ _ _ h => h) (Or.inl ⟨by rfl, ?_⟩) ?_ ?_
     rotate_left
     ·intro w'
      go_simp
      with_reducible rfl
     rotate_left
     ·simp only [Act.put, List.setIfInBounds_toArray, List.set_cons_zero, List.set_cons_succ, i64_w, i32_w]
      rfl
     refine one_ (i := 5) (N := some 47) #[true, true, true, true, true, true, true, true, false, false, false] rfl rfl (one_of HT_.out (by kernel_rfl)) (by decide) (fun K hK => ?_)
     refine goes_ Try.func26 (by kernel_rfl) rfl #[.agg #[.bool r.1, .slice A1 r.2.1.length c1, .slice A2 r.2.2.1.length c2, .slice A3 r.2.2.2.1.length c3, .slice A4 r.2.2.2.2.1.length c4], .slice A10 a.length c10] (by rfl) rfl rfl (by (try simp only [List.map_toArray, List.map_cons, List.map_nil]); first | done | rfl) ?_
     refine (follow_End.calls r.1 A1 c1 r.2.1 A2 c2 r.2.2.1 A3 c3 r.2.2.2.1 A4 c4 r.2.2.2.2.1 A10 c10 a _ W9 (Kd.R_reads' HA.out.r1).2.2 (Kd.R_reads' HA.out.r1).2.1 (Kd.R_reads' HA.out.r2).2.2 (Kd.R_reads' HA.out.r2).2.1 (Kd.R_reads' HA.out.r3).2.2 (Kd.R_reads' HA.out.r3).2.1 (Kd.R_reads' HA.out.r4).2.2 (Kd.R_reads' HA.out.r4).2.1 (Kd.R_reads' HP.out).2.2 (Kd.R_reads' HP.out).2.1 HEF.out).mono ?_
     rintro e_ W10 ⟨rfl, hb⟩
     have HBq := Aside0.mk (HB.out.trans (hb.mono HB.out.size))
     have HAq := Aside0.mk (HA.out.later hb)
     have HPq := Aside0.mk (Kd.R_below HP.out hb)
     have HMq := Aside0.mk (Kd.R_below HM.out hb)
     clear hb
     refine ⟨_, rfl, ?_⟩
     refine hK.out _ _ ⟨HAq.out.cells.1, HAq.out.cells.2.1, HAq.out.cells.2.2.1, HAq.out.cells.2.2.2.1, HAq.out.cells.2.2.2.2⟩ (fun hHeld => ?_)
     clear hK K
     clear HB HA HP HM
     have HB := Aside0.mk HBq.out
     have HA := Aside0.mk HAq.out
     have HP := Aside0.mk HPq.out
     have HM := Aside0.mk HMq.out
     clear HBq HAq HPq HMq
     refine norm_ (a' := ?_) ?_ ?_
     rotate_left
     ·show Act.put _ (some 47) _ = _
      simp only [Act.put, List.setIfInBounds_toArray, List.set_cons_zero, List.set_cons_succ, i64_w, i32_w]
      rfl
     refine one_ (i := 8) (N := some 50) #[true, true, true, true, true, true, true, true, true, false, false] rfl rfl (one_of HT_.out (by kernel_rfl)) (by decide) (fun K hK => ?_)
     refine goes_ Try.func27 (by kernel_rfl) rfl #[.agg #[.bool r.1, .slice A1 r.2.1.length c1, .slice A2 r.2.2.1.length c2, .slice A3 r.2.2.2.1.length c3, .slice A4 r.2.2.2.2.1.length c4], .slice A11 a.length c11] (by rfl) rfl rfl (by (try simp only [List.map_toArray, List.map_cons, List.map_nil]); first | done | rfl) ?_
     refine (scansionref11_End.calls KE r.1 A1 c1 r.2.1 A2 c2 r.2.2.1 A3 c3 r.2.2.2.1 A4 c4 r.2.2.2.2.1 A11 c11 a _ W10 (Kd.R_reads' HA.out.r1).2.2 (Kd.R_reads' HA.out.r1).2.1 (Kd.R_reads' HA.out.r2).2.2 (Kd.R_reads' HA.out.r2).2.1 (Kd.R_reads' HA.out.r3).2.2 (Kd.R_reads' HA.out.r3).2.1 (Kd.R_reads' HA.out.r4).2.2 (Kd.R_reads' HA.out.r4).2.1 (Kd.R_reads' HM.out).2.2 (Kd.R_reads' HM.out).2.1 HEN.out).mono ?_
     rintro e_ W11 ⟨rfl, hb⟩
     have HBq := Aside0.mk (HB.out.trans (hb.mono HB.out.size))
     have HAq := Aside0.mk (HA.out.later hb)
     have HPq := Aside0.mk (Kd.R_below HP.out hb)
     have HMq := Aside0.mk (Kd.R_below HM.out hb)
     clear hb
     refine ⟨_, rfl, ?_⟩
     refine hK.out _ _ ⟨HAq.out.cells.1, HAq.out.cells.2.1, HAq.out.cells.2.2.1, HAq.out.cells.2.2.2.1, HAq.out.cells.2.2.2.2⟩ (fun hHeld => ?_)
     clear hK K
     clear HB HA HP HM
     have HB := Aside0.mk HBq.out
     have HA := Aside0.mk HAq.out
     have HP := Aside0.mk HPq.out
     have HM := Aside0.mk HMq.out
     clear HBq HAq HPq HMq
     refine norm_ (a' := ?_) ?_ ?_
     rotate_left
     ·show Act.put _ (some 50) _ = _
      simp only [Act.put, List.setIfInBounds_toArray, List.set_cons_zero, List.set_cons_succ, i64_w, i32_w]
      rfl
     refine pure_ (i := 9) (N := some 51) (v := ?_) (a' := ?_) #[true, true, true, true, true, true, true, true, true, true, false] rfl rfl (any_of HT_.out (by kernel_rfl)) (fun _ _ _ h => h) (Or.inl ⟨by rfl, ?_⟩) ?_ ?_
     rotate_left
     ·intro w'
      go_simp
      with_reducible rfl
     rotate_left
     ·simp only [Act.put, List.setIfInBounds_toArray, List.set_cons_zero, List.set_cons_succ, i64_w, i32_w]
      rfl
     refine pure_ (i := 10) (N := some 52) (v := ?_) (a' := ?_) #[true, true, true, true, true, true, true, true, true, true, true] rfl rfl (any_of HT_.out (by kernel_rfl)) (fun _ _ _ h => h) (Or.inl ⟨by rfl, ?_⟩) ?_ ?_
     rotate_left
     ·intro w'
      go_simp
      with_reducible rfl
     rotate_left
     ·simp only [Act.put, List.setIfInBounds_toArray, List.set_cons_zero, List.set_cons_succ, i64_w, i32_w]
      rfl
     refine done_ (done_of HT_.out (by kernel_rfl)) ?_
     refine NoPanic.normal ?_
     clear HT_ HW_ hHeld
     have fe : (endR r.1 r.2.2.2.1 a != endR r.1 r.2.2.2.1 a) = false := by cases endR r.1 r.2.2.2.1 a <;> rfl
     by_cases q1 : i < word.length
     case pos =>
      have HSL := Aside0.mk q1
      obtain ⟨adw, eA, hx⟩ := Kd.at_int (Kd.C_below HCW.out HB.out) (i : Int) (Int.natCast_nonneg i) (by omega)
      rw [Int.toNat_natCast] at hx
      subst eA
      obtain ⟨z, hz⟩ : ∃ z, z = rd word (i : Int) := ⟨_, rfl⟩
      rw [← hz] at hx
      have HZD := Aside0.mk hz
      have HW := Aside0.mk hx
      have HUZ := Aside0.mk (show U64 z by rw [hz]; exact HU.out _ (rd_mem q1))
      clear hz hx
      obtain ⟨a2, ha2⟩ : ∃ a2, a2 = stepR r.2.1 r.2.2.1 r.2.2.2.2.1 a z := ⟨_, rfl⟩
      have HA2 := Aside0.mk ha2
      have HSF := Aside0.mk (show follow_Step.f r.1 r.2.1 r.2.2.1 r.2.2.2.1 r.2.2.2.2.1 a z = some a2 by unfold follow_Step.f; rw [if_pos HOK.out, ← ha2])
      obtain ⟨KT, hKT⟩ := step_f r.1 r.2.1 r.2.2.1 r.2.2.2.1 r.2.2.2.2.1 a z HOK.out HUZ.out (fun l hl => by have h1 := (HAU.out.fol l hl).len; have := HAU.out.m; omega) (by have h1 := HAU.out.first.len; have := HAU.out.m; omega) (by have := HAU.out.m; omega)
      rw [← ha2] at hKT
      have HST := Aside0.mk (hKT KT (Nat.le_refl _))
      clear hKT ha2
      have f1 : (i : Int) < (word.length : Int) := by omega
      have f2 : decide ((i : Int) < (word.length : Int)) = true := decide_eq_true f1
      have f4 : (0 : Int) ≤ (i : Int) := Int.natCast_nonneg i
      go_upto_region 17 with fail
      clear fe
      have hbd := below_drew (Below.refl W11.heap.size W11)
      have HBq := Aside0.mk (HB.out.trans (hbd.mono HB.out.size))
      have HAq := Aside0.mk (HA.out.later hbd)
      have HPq := Aside0.mk (Kd.R_below HP.out hbd)
      have HMq := Aside0.mk (Kd.R_below HM.out hbd)
      have HWq := Aside0.mk (cell_keep hbd HW.out)
      clear hbd
      clear HB HA HP HM HW
      have HB := Aside0.mk HBq.out
      have HA := Aside0.mk HAq.out
      have HP := Aside0.mk HPq.out
      have HM := Aside0.mk HMq.out
      have HW := Aside0.mk HWq.out
      clear HBq HAq HPq HMq HWq
      refine wp_region_noPanic ?_
      refine start_ (n := 8) (S := fun w' => w'.cell? ⟨B1, 0, none⟩ = some (.bool r.1) ∧ w'.cell? ⟨B1, 1, none⟩ = some (.slice A1 r.2.1.length c1) ∧ w'.cell? ⟨B1, 2, none⟩ = some (.slice A2 r.2.2.1.length c2) ∧ w'.cell? ⟨B1, 3, none⟩ = some (.slice A3 r.2.2.2.1.length c3) ∧ w'.cell? ⟨B1, 4, none⟩ = some (.slice A4 r.2.2.2.2.1.length c4) ∧ w'.cell? (adw.add i) = some (.int .u64 z)) (ds := []) #[false, false, false, false, false, false, false, false] (by kernel_rfl) rfl rfl ⟨HA.out.cells.1, HA.out.cells.2.1, HA.out.cells.2.2.1, HA.out.cells.2.2.2.1, HA.out.cells.2.2.2.2, HW.out⟩ (fun hHeld => ?_); refine with_tabW fsu_tab17 fsu_bits17 (fun HT_ HW_ => ?_)
      obtain ⟨W12, hW12⟩ : ∃ w, W11.drew = w := ⟨_, rfl⟩
      rw [hW12] at HB HA HP HM hHeld HW ⊢
      clear hW12
      refine take_ (i := 0) (N := some 57) (v := ?_) (a' := ?_) #[true, false, false, false, false, false, false, false] rfl rfl (take_ofW HT_.out HW_.out (by kernel_rfl)) (fun _ _ _ h => h) (Or.inl ⟨by rfl, ?_⟩) hHeld ?_ ?_
      rotate_left
      ·rintro w' ⟨s0, s1, s2, s3, s4, s5⟩
       go_simp
       with_reducible rfl
      rotate_left
      ·simp only [Act.put, List.setIfInBounds_toArray, List.set_cons_zero, List.set_cons_succ, i64_w, i32_w]
       rfl
      refine pure_ (i := 1) (N := some 58) (v := ?_) (a' := ?_) #[true, true, false, false, false, false, false, false] rfl rfl (any_of HT_.out (by kernel_rfl)) (fun _ _ _ h => h) (Or.inl ⟨by rfl, ?_⟩) ?_ ?_
      rotate_left
      ·intro w'
       go_simp
       with_reducible rfl
      rotate_left
      ·simp only [Act.put, List.setIfInBounds_toArray, List.set_cons_zero, List.set_cons_succ, i64_w, i32_w]
       rfl
      refine pure_ (i := 2) (N := some 59) (v := ?_) (a' := ?_) #[true, true, true, false, false, false, false, false] rfl rfl (any_of HT_.out (by kernel_rfl)) (fun _ _ _ h => h) (Or.inl ⟨by rfl, ?_⟩) ?_ ?_
      rotate_left
      ·intro w'
       go_simp
       with_reducible rfl
      rotate_left
      ·simp only [Act.put, List.setIfInBounds_toArray, List.set_cons_zero, List.set_cons_succ, i64_w, i32_w]
       rfl
      refine pure_ (i := 3) (N := some 60) (v := ?_) (a' := ?_) #[true, true, true, true, false, false, false, false] rfl rfl (any_of HT_.out (by kernel_rfl)) (fun _ _ _ h => h) (Or.inl ⟨by rfl, ?_⟩) ?_ ?_
      rotate_left
      ·intro w'
       go_simp
       with_reducible rfl
      rotate_left
      ·simp only [Act.put, List.setIfInBounds_toArray, List.set_cons_zero, List.set_cons_succ, i64_w, i32_w]
       rfl
      refine pure_ (i := 4) (N := some 61) (v := ?_) (a' := ?_) #[true, true, true, true, true, false, false, false] rfl rfl (any_of HT_.out (by kernel_rfl)) (fun _ _ _ h => h) (Or.inl ⟨by rfl, ?_⟩) ?_ ?_
      rotate_left
      ·intro w'
       go_simp
       with_reducible rfl
      rotate_left
      ·simp only [Act.put, List.setIfInBounds_toArray, List.set_cons_zero, List.set_cons_succ, i64_w, i32_w]
       rfl
      refine take_ (i := 5) (N := some 62) (v := ?_) (a' := ?_) #[true, true, true, true, true, true, false, false] rfl rfl (take_ofW HT_.out HW_.out (by kernel_rfl)) (fun _ _ _ h => h) (Or.inl ⟨by rfl, ?_⟩) hHeld ?_ ?_
      rotate_left
      ·rintro w' ⟨s0, s1, s2, s3, s4, s5⟩
       go_simp
       with_reducible rfl
      rotate_left
      ·simp only [Act.put, List.setIfInBounds_toArray, List.set_cons_zero, List.set_cons_succ, i64_w, i32_w]
       rfl
      refine one_ (i := 6) (N := some 63) #[true, true, true, true, true, true, true, false] rfl rfl (one_of HT_.out (by kernel_rfl)) (by decide) (fun K hK => ?_)
      refine goes_ Try.func28 (by kernel_rfl) rfl #[.agg #[.bool r.1, .slice A1 r.2.1.length c1, .slice A2 r.2.2.1.length c2, .slice A3 r.2.2.2.1.length c3, .slice A4 r.2.2.2.2.1.length c4], .slice A10 a.length c10, .int .u64 z] (by rfl) rfl rfl (by (try simp only [List.map_toArray, List.map_cons, List.map_nil]); first | done | rfl) ?_
      refine (follow_Step.calls r.1 A1 c1 r.2.1 A2 c2 r.2.2.1 A3 c3 r.2.2.2.1 A4 c4 r.2.2.2.2.1 A10 c10 a z a2 W12 (Kd.R_reads' HA.out.r1).2.2 (Kd.R_reads' HA.out.r1).2.1 (Kd.R_reads' HA.out.r2).2.2 (Kd.R_reads' HA.out.r2).2.1 (Kd.R_reads' HA.out.r3).2.2 (Kd.R_reads' HA.out.r3).2.1 (Kd.R_reads' HA.out.r4).2.2 (Kd.R_reads' HA.out.r4).2.1 (Kd.R_reads' HP.out).2.2 (Kd.R_reads' HP.out).2.1 HSF.out).mono ?_
      rintro e_ W13 ⟨v0, rfl, ho, hb⟩
      have HBq := Aside0.mk (HB.out.trans (hb.mono HB.out.size))
      have HAq := Aside0.mk (HA.out.later hb)
      have HPq := Aside0.mk (Kd.R_below HP.out hb)
      have HMq := Aside0.mk (Kd.R_below HM.out hb)
      have HWq := Aside0.mk (cell_keep hb HW.out)
      obtain ⟨A21, c21, rfl⟩ := Kd.R_slice ho
      have HN1 := Aside0.mk (Kd.R_lower ho HB.out.size)
      clear ho
      clear hb
      refine ⟨_, rfl, ?_⟩
      refine hK.out _ _ ⟨HAq.out.cells.1, HAq.out.cells.2.1, HAq.out.cells.2.2.1, HAq.out.cells.2.2.2.1, HAq.out.cells.2.2.2.2, HWq.out⟩ (fun hHeld => ?_)
      clear hK K
      clear HB HA HP HM HW
      have HB := Aside0.mk HBq.out
      have HA := Aside0.mk HAq.out
      have HP := Aside0.mk HPq.out
      have HM := Aside0.mk HMq.out
      have HW := Aside0.mk HWq.out
      clear HBq HAq HPq HMq HWq
      refine norm_ (a' := ?_) ?_ ?_
      rotate_left
      ·show Act.put _ (some 63) _ = _
       simp only [Act.put, List.setIfInBounds_toArray, List.set_cons_zero, List.set_cons_succ, i64_w, i32_w]
       rfl
      refine pure_ (i := 7) (N := some 9) (v := ?_) (a' := ?_) #[true, true, true, true, true, true, true, true] rfl rfl (any_of HT_.out (by kernel_rfl)) (fun _ _ _ h => h) (Or.inl ⟨by rfl, ?_⟩) ?_ ?_
      rotate_left
      ·intro w'
       go_simp
       with_reducible rfl
      rotate_left
      ·simp only [Act.put, List.setIfInBounds_toArray, List.set_cons_zero, List.set_cons_succ, i64_w, i32_w]
       rfl
      refine done_ (done_of HT_.out (by kernel_rfl)) ?_
      refine NoPanic.normal ?_
      clear HT_ HW_ hHeld
      go_upto_region 18 with fail
      have hbd0 := below_drew (Below.refl W13.heap.size W13)
      have HN1q := Aside0.mk (Kd.R_below HN1.out hbd0)
      clear hbd0 HN1
      have hbd := below_drew (Below.refl W13.heap.size W13)
      have HBq := Aside0.mk (HB.out.trans (hbd.mono HB.out.size))
      have HAq := Aside0.mk (HA.out.later hbd)
      have HPq := Aside0.mk (Kd.R_below HP.out hbd)
      have HMq := Aside0.mk (Kd.R_below HM.out hbd)
      have HWq := Aside0.mk (cell_keep hbd HW.out)
      clear hbd
      clear HB HA HP HM HW
      have HB := Aside0.mk HBq.out
      have HA := Aside0.mk HAq.out
      have HP := Aside0.mk HPq.out
      have HM := Aside0.mk HMq.out
      have HW := Aside0.mk HWq.out
      clear HBq HAq HPq HMq HWq
      refine wp_region_noPanic ?_
      refine start_ (n := 8) (S := fun w' => w'.cell? ⟨B1, 0, none⟩ = some (.bool r.1) ∧ w'.cell? ⟨B1, 1, none⟩ = some (.slice A1 r.2.1.length c1) ∧ w'.cell? ⟨B1, 2, none⟩ = some (.slice A2 r.2.2.1.length c2) ∧ w'.cell? ⟨B1, 3, none⟩ = some (.slice A3 r.2.2.2.1.length c3) ∧ w'.cell? ⟨B1, 4, none⟩ = some (.slice A4 r.2.2.2.2.1.length c4) ∧ w'.cell? (adw.add i) = some (.int .u64 z)) (ds := []) #[false, false, false, false, false, false, false, false] (by kernel_rfl) rfl rfl ⟨HA.out.cells.1, HA.out.cells.2.1, HA.out.cells.2.2.1, HA.out.cells.2.2.2.1, HA.out.cells.2.2.2.2, HW.out⟩ (fun hHeld => ?_); refine with_tabW fsv_tab18 fsv_bits18 (fun HT_ HW_ => ?_)
      obtain ⟨W14, hW14⟩ : ∃ w, W13.drew = w := ⟨_, rfl⟩
      rw [hW14] at HB HA HP HM hHeld HN1q HW ⊢
      clear hW14
      refine take_ (i := 0) (N := some 64) (v := ?_) (a' := ?_) #[true, false, false, false, false, false, false, false] rfl rfl (take_ofW HT_.out HW_.out (by kernel_rfl)) (fun _ _ _ h => h) (Or.inl ⟨by rfl, ?_⟩) hHeld ?_ ?_
      rotate_left
      ·rintro w' ⟨s0, s1, s2, s3, s4, s5⟩
       go_simp
       with_reducible rfl
      rotate_left
      ·simp only [Act.put, List.setIfInBounds_toArray, List.set_cons_zero, List.set_cons_succ, i64_w, i32_w]
       rfl
      refine pure_ (i := 1) (N := some 65) (v := ?_) (a' := ?_) #[true, true, false, false, false, false, false, false] rfl rfl (any_of HT_.out (by kernel_rfl)) (fun _ _ _ h => h) (Or.inl ⟨by rfl, ?_⟩) ?_ ?_
      rotate_left
      ·intro w'
       go_simp
       with_reducible rfl
      rotate_left
      ·simp only [Act.put, List.setIfInBounds_toArray, List.set_cons_zero, List.set_cons_succ, i64_w, i32_w]
       rfl
      refine pure_ (i := 2) (N := some 66) (v := ?_) (a' := ?_) #[true, true, true, false, false, false, false, false] rfl rfl (any_of HT_.out (by kernel_rfl)) (fun _ _ _ h => h) (Or.inl ⟨by rfl, ?_⟩) ?_ ?_
      rotate_left
      ·intro w'
       go_simp
       with_reducible rfl
      rotate_left
      ·simp only [Act.put, List.setIfInBounds_toArray, List.set_cons_zero, List.set_cons_succ, i64_w, i32_w]
       rfl
      refine pure_ (i := 3) (N := some 67) (v := ?_) (a' := ?_) #[true, true, true, true, false, false, false, false] rfl rfl (any_of HT_.out (by kernel_rfl)) (fun _ _ _ h => h) (Or.inl ⟨by rfl, ?_⟩) ?_ ?_
      rotate_left
      ·intro w'
       go_simp
       with_reducible rfl
      rotate_left
      ·simp only [Act.put, List.setIfInBounds_toArray, List.set_cons_zero, List.set_cons_succ, i64_w, i32_w]
       rfl
      refine pure_ (i := 4) (N := some 68) (v := ?_) (a' := ?_) #[true, true, true, true, true, false, false, false] rfl rfl (any_of HT_.out (by kernel_rfl)) (fun _ _ _ h => h) (Or.inl ⟨by rfl, ?_⟩) ?_ ?_
      rotate_left
      ·intro w'
       go_simp
       with_reducible rfl
      rotate_left
      ·simp only [Act.put, List.setIfInBounds_toArray, List.set_cons_zero, List.set_cons_succ, i64_w, i32_w]
       rfl
      refine take_ (i := 5) (N := some 69) (v := ?_) (a' := ?_) #[true, true, true, true, true, true, false, false] rfl rfl (take_ofW HT_.out HW_.out (by kernel_rfl)) (fun _ _ _ h => h) (Or.inl ⟨by rfl, ?_⟩) hHeld ?_ ?_
      rotate_left
      ·rintro w' ⟨s0, s1, s2, s3, s4, s5⟩
       go_simp
       with_reducible rfl
      rotate_left
      ·simp only [Act.put, List.setIfInBounds_toArray, List.set_cons_zero, List.set_cons_succ, i64_w, i32_w]
       rfl
      refine one_ (i := 6) (N := some 70) #[true, true, true, true, true, true, true, false] rfl rfl (one_of HT_.out (by kernel_rfl)) (by decide) (fun K hK => ?_)
      refine goes_ Try.func29 (by kernel_rfl) rfl #[.agg #[.bool r.1, .slice A1 r.2.1.length c1, .slice A2 r.2.2.1.length c2, .slice A3 r.2.2.2.1.length c3, .slice A4 r.2.2.2.2.1.length c4], .slice A11 a.length c11, .int .u64 z] (by rfl) rfl rfl (by (try simp only [List.map_toArray, List.map_cons, List.map_nil]); first | done | rfl) ?_
      refine (scansionref11_Step.calls KT r.1 A1 c1 r.2.1 A2 c2 r.2.2.1 A3 c3 r.2.2.2.1 A4 c4 r.2.2.2.2.1 A11 c11 a z a2 W14 (Kd.R_reads' HA.out.r1).2.2 (Kd.R_reads' HA.out.r1).2.1 (Kd.R_reads' HA.out.r2).2.2 (Kd.R_reads' HA.out.r2).2.1 (Kd.R_reads' HA.out.r3).2.2 (Kd.R_reads' HA.out.r3).2.1 (Kd.R_reads' HA.out.r4).2.2 (Kd.R_reads' HA.out.r4).2.1 (Kd.R_reads' HM.out).2.2 (Kd.R_reads' HM.out).2.1 HST.out).mono ?_
      rintro e_ W15 ⟨v0, rfl, ho, hb⟩
      have HBq := Aside0.mk (HB.out.trans (hb.mono HB.out.size))
      have HAq := Aside0.mk (HA.out.later hb)
      have HPq := Aside0.mk (Kd.R_below HP.out hb)
      have HMq := Aside0.mk (Kd.R_below HM.out hb)
      have HWq := Aside0.mk (cell_keep hb HW.out)
      obtain ⟨A22, c22, rfl⟩ := Kd.R_slice ho
      have HN2 := Aside0.mk (Kd.R_lower ho HB.out.size)
      clear ho
      have HN1 := Aside0.mk (Kd.R_below HN1q.out hb)
      clear HN1q
      clear hb
      refine ⟨_, rfl, ?_⟩
      refine hK.out _ _ ⟨HAq.out.cells.1, HAq.out.cells.2.1, HAq.out.cells.2.2.1, HAq.out.cells.2.2.2.1, HAq.out.cells.2.2.2.2, HWq.out⟩ (fun hHeld => ?_)
      clear hK K
      clear HB HA HP HM HW
      have HB := Aside0.mk HBq.out
      have HA := Aside0.mk HAq.out
      have HP := Aside0.mk HPq.out
      have HM := Aside0.mk HMq.out
      have HW := Aside0.mk HWq.out
      clear HBq HAq HPq HMq HWq
      refine norm_ (a' := ?_) ?_ ?_
      rotate_left
      ·show Act.put _ (some 70) _ = _
       simp only [Act.put, List.setIfInBounds_toArray, List.set_cons_zero, List.set_cons_succ, i64_w, i32_w]
       rfl
      refine pure_ (i := 7) (N := some 10) (v := ?_) (a' := ?_) #[true, true, true, true, true, true, true, true] rfl rfl (any_of HT_.out (by kernel_rfl)) (fun _ _ _ h => h) (Or.inl ⟨by rfl, ?_⟩) ?_ ?_
      rotate_left
      ·intro w'
       go_simp
       with_reducible rfl
      rotate_left
      ·simp only [Act.put, List.setIfInBounds_toArray, List.set_cons_zero, List.set_cons_succ, i64_w, i32_w]
       rfl
      refine done_ (done_of HT_.out (by kernel_rfl)) ?_
      refine NoPanic.normal ?_
      clear HT_ HW_ hHeld
      go_wp2_with fail
      have HW2 := Aside0.mk (show wrap64 ((i : Int) + 1) = ((i + 1 : Nat) : Int) by have := HIL.out; have := HFEW.out.2; unfold wrap64; omega)
      have HTK := Aside0.mk (show atR r (word.take (i + 1)) = a2 by rw [atR_step HSL.out, ← HAD.out, ← HZD.out, HA2.out])
      go_roundg (gk - 1)
      case measure => have := HQ.out; omega
      case rel => exact ⟨i + 1, A21, A22, c21, c22, by rw [HTK.out], by rw [HTK.out], by rw [← HW2.out], ⟨by have := HK.out; have := HQ.out; omega⟩, HB, HA, ⟨by rw [HTK.out]; exact HN1.out⟩, ⟨by rw [HTK.out]; exact HN2.out⟩⟩
     case neg =>
      have f1 : ¬ (i : Int) < (word.length : Int) := by omega
      have f2 : decide ((i : Int) < (word.length : Int)) = false := decide_eq_false f1
      have HLAST := Aside0.mk q1
      clear q1
      go_wp2_with fail
      have HW2 := Aside0.mk (show wrap64 ((i : Int) + 1) = ((i + 1 : Nat) : Int) by have := HIL.out; have := HFEW.out.2; unfold wrap64; omega)
      have HTK := Aside0.mk (show atR r (word.take (i + 1)) = a by rw [HAD.out, List.take_of_length_le (by have := HLAST.out; omega), List.take_of_length_le (by have := HLAST.out; omega)])
      go_roundg (gk - 1)
      case measure => have := HQ.out; omega
      case rel => exact ⟨i + 1, A10, A11, c10, c11, by rw [HTK.out], by rw [HTK.out], by rw [← HW2.out], ⟨by have := HK.out; have := HQ.out; omega⟩, HB, HA, ⟨by rw [HTK.out]; exact HP.out⟩, ⟨by rw [HTK.out]; exact HM.out⟩⟩
end Go.Proofs.Ytemlgmkbonpniaa.Print
