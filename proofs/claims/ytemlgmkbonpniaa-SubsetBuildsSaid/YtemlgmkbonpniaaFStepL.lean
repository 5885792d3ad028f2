/- Plain laws: what the reference's Step and End tell. -/
import Derived.Test.YtemlgmkbonpniaaFAutoM
import Derived.Test.YtemlgmkbonpniaaPrint36
import Derived.Test.YtemlgmkbonpniaaPrint39
import Derived.Lib.Zigzag
namespace Go.Proofs.Ytemlgmkbonpniaa.Print
open Go.RowKit Go.Maps Go.Proofs.YtemlgmkbonpniaaW.PrintWords Go.Proofs.YtemlgmkbonpniaaW.PrintLast Go.Proofs.YtemlgmkbonpniaaW.PrintMore
set_option linter.unusedVariables false
set_option linter.unusedSimpArgs false
def U64 (z : Int) : Prop := 0 ≤ z ∧ z < 18446744073709551616
theorem bitN_two {sign s : Int} (h : U64 sign) : bitN sign s = 0 ∨ bitN sign s = 1 := by
 unfold bitN shr
 have h1 : 0 ≤ sign / 2 ^ min s.toNat IntKind.u64.bits := Int.ediv_nonneg h.1 (Int.le_of_lt (Int.pow_pos (by decide)))
 have h2 : sign / 2 ^ min s.toNat IntKind.u64.bits < 18446744073709551616 := Int.lt_of_le_of_lt (Int.ediv_le_self _ h.1) h.2
 rw [Lib.u64_and1 _ h1 h2]
 omega
theorem u64_wrap {s : Int} (h : 0 ≤ s ∧ s ≤ 63) : IntKind.u64.wrap s = s := by
 unfold IntKind.wrap
 simp [IntKind.signed, IntKind.bits]
 omega
/-! ### has -/
theorem has_l0 (l : List Int) (n : Int) (hl : l.length ≤ 1000000) : ∀ (m i : Nat), i + m = l.length → Evs (fun k => scansionref11_has.l0 k l n (i : Int)) (decide (n ∈ l.drop i)) := by
 intro m
 induction m with
 | zero =>
  intro i hi
  refine ⟨1, fun k hk => ?_⟩
  obtain ⟨k, rfl⟩ : ∃ j, k = j + 1 := ⟨k - 1, by omega⟩
  show scansionref11_has.l0 (k + 1) _ _ _ = _
  rw [scansionref11_has.l0, if_neg (by omega), List.drop_eq_nil_of_le (by omega)]
  rfl
 | succ m ih =>
  intro i hi
  have hil : i < l.length := by omega
  obtain ⟨K, hK⟩ := ih (i + 1) (by omega)
  refine ⟨K + 1, fun k hk => ?_⟩
  obtain ⟨k, rfl⟩ : ∃ j, k = j + 1 := ⟨k - 1, by omega⟩
  show scansionref11_has.l0 (k + 1) _ _ _ = _
  have hr : rd l (i : Int) = l[i] := by unfold rd; rw [Int.toNat_natCast, List.getD_eq_getElem?_getD, List.getElem?_eq_getElem hil]; rfl
  rw [scansionref11_has.l0, if_pos (by omega), if_pos (by omega), hr, List.drop_eq_getElem_cons hil]
  by_cases q : l[i] = n
  ·rw [if_pos q, decide_eq_true (by rw [q]; exact List.mem_cons_self)]
  ·rw [if_neg q, show wrap64 ((i : Int) + 1) = ((i + 1 : Nat) : Int) by unfold wrap64; omega]
   have h1 : scansionref11_has.l0 k l n ((i + 1 : Nat) : Int) = _ := hK k (by omega)
   rw [h1]
   congr 1
   rw [decide_eq_decide, List.mem_cons]
   exact ⟨.inr, fun h => h.resolve_left (fun e => q e.symm)⟩
theorem has_f (l : List Int) (n : Int) (hl : l.length ≤ 1000000) : Evs (fun k => scansionref11_has.f k l n) (decide (n ∈ l)) := has_l0 l n hl l.length 0 (by omega)
/-! ### End -/
theorem end_l0 (nl : Bool) (l1 l2 last : List Int) (l4 : List (List Int)) (at_ : List Int) (hl : last.length ≤ 1000000) (ha : at_.length ≤ 1000000) : ∀ (m i : Nat), i + m = at_.length → Evs (fun k => scansionref11_End.l0 k at_ (i : Int) nl l1 l2 last l4) ((at_.drop i).any (endP nl last)) := by
 intro m
 induction m with
 | zero =>
  intro i hi
  refine ⟨1, fun k hk => ?_⟩
  obtain ⟨k, rfl⟩ : ∃ j, k = j + 1 := ⟨k - 1, by omega⟩
  show scansionref11_End.l0 (k + 1) _ _ _ _ _ _ _ = _
  rw [scansionref11_End.l0, if_neg (by omega), List.drop_eq_nil_of_le (by omega)]
  rfl
 | succ m ih =>
  intro i hi
  have hil : i < at_.length := by omega
  obtain ⟨K, hK⟩ := ih (i + 1) (by omega)
  obtain ⟨K2, hK2⟩ := has_f last at_[i] hl
  refine ⟨K + K2 + 1, fun k hk => ?_⟩
  obtain ⟨k, rfl⟩ : ∃ j, k = j + 1 := ⟨k - 1, by omega⟩
  show scansionref11_End.l0 (k + 1) _ _ _ _ _ _ _ = _
  have hr : rd at_ (i : Int) = at_[i] := by unfold rd; rw [Int.toNat_natCast, List.getD_eq_getElem?_getD, List.getElem?_eq_getElem hil]; rfl
  have h1 : scansionref11_End.l0 k at_ ((i + 1 : Nat) : Int) nl l1 l2 last l4 = _ := hK k (by omega)
  have h2 : scansionref11_has.f k last at_[i] = some (decide (at_[i] ∈ last)) := hK2 k (by omega)
  rw [scansionref11_End.l0, if_pos (by omega), if_pos (by omega), hr, h2, Option.bind_some, show wrap64 ((i : Int) + 1) = ((i + 1 : Nat) : Int) by unfold wrap64; omega, h1, List.drop_eq_getElem_cons hil, List.any_cons]
  unfold endP
  by_cases q : at_[i] = 0
  ·rw [if_pos q, decide_eq_true q]
   cases nl
   ·rw [if_neg (by decide)]
    by_cases q2 : at_[i] ∈ last
    ·rw [if_pos (by simpa using q2), decide_eq_true q2]; rfl
    ·rw [if_neg (by simpa using q2), decide_eq_false q2]; rfl
   ·rw [if_pos rfl]; rfl
  ·rw [if_neg q, decide_eq_false q]
   by_cases q2 : at_[i] ∈ last
   ·rw [if_pos (by simpa using q2), decide_eq_true q2]; rfl
   ·rw [if_neg (by simpa using q2), decide_eq_false q2]; rfl
theorem end_f (nl : Bool) (l1 l2 last : List Int) (l4 : List (List Int)) (at_ : List Int) (hl : last.length ≤ 1000000) (ha : at_.length ≤ 1000000) : Evs (fun k => scansionref11_End.f k nl l1 l2 last l4 at_) (endR nl last at_) := end_l0 nl l1 l2 last l4 at_ hl ha at_.length 0 (by omega)
/-! ### Step -/
section
variable (nl : Bool) (sets first last : List Int) (fol : List (List Int)) (at_ : List Int) (sign : Int)
/-- Whether place q is stepped to. -/
def goes (q : Int) : Bool := decide (q ∈ allR first fol at_) && decide (bitN sign (rd sets (q - 1)) = 1)
theorem allR_iff {q : Int} : q ∈ allR first fol at_ ↔ (0 ∈ at_ ∧ q ∈ first) ∨ ∃ t ∈ at_, t ≠ 0 ∧ q ∈ fol.getD (t - 1).toNat [] := by
 unfold allR
 rw [List.mem_flatten]
 constructor
 ·rintro ⟨l, hl, hq⟩
  obtain ⟨t, ht, rfl⟩ := List.mem_map.1 hl
  unfold rowOf at hq
  split at hq
  next e => subst e; exact .inl ⟨ht, hq⟩
  next e => exact .inr ⟨t, ht, e, hq⟩
 ·rintro (⟨h, hq⟩ | ⟨t, ht, e, hq⟩)
  ·exact ⟨_, List.mem_map.2 ⟨0, h, rfl⟩, by unfold rowOf; rw [if_pos rfl]; exact hq⟩
  ·exact ⟨_, List.mem_map.2 ⟨t, ht, rfl⟩, by unfold rowOf; rw [if_neg e]; exact hq⟩
theorem step_l1 (hok : StepOk sets first fol at_) (hfr : ∀ l ∈ fol, l.length ≤ 1000000) (acc : List Int) (K : Nat) (h1 : 1 ≤ K) (h2 : K ≤ sets.length) (hacc : acc.length ≤ 1000000) (R : List Int) (b : Bool) (hb : b = decide ((K : Int) ∈ allR first fol at_))
  (hR : Evs (fun k => scansionref11_Step.l0 k at_ sign (if b = true ∧ bitN sign (rd sets ((K : Int) - 1)) = 1 then acc ++ [(K : Int)] else acc) ((K + 1 : Nat) : Int) nl sets first last fol) R) :
  ∀ (m i : Nat) (is : Bool), i + m = at_.length → (is = true → b = true) → (b = true → is = true ∨ ∃ t ∈ at_.drop i, t ≠ 0 ∧ (K : Int) ∈ fol.getD (t - 1).toNat []) → Evs (fun k => scansionref11_Step.l1 k at_ sign acc (K : Int) is (i : Int) nl sets first last fol) R := by
 intro m
 induction m with
 | zero =>
  intro i is hi hs1 hs2
  obtain ⟨K0, hK0⟩ := hR
  have hi2 : is = b := by
   rw [List.drop_eq_nil_of_le (by omega)] at hs2
   cases is <;> cases b <;> simp_all
  refine ⟨K0 + 1, fun k hk => ?_⟩
  obtain ⟨k, rfl⟩ : ∃ j, k = j + 1 := ⟨k - 1, by omega⟩
  show scansionref11_Step.l1 (k + 1) _ _ _ _ _ _ _ _ _ _ _ = _
  have h3 := hK0 k (by omega)
  have hw : wrap64 ((K : Int) - 1) = (K : Int) - 1 := by have := hok.2.2.2.2.1; unfold wrap64; omega
  have hw2 : wrap64 ((K : Int) + 1) = ((K + 1 : Nat) : Int) := by clear hw; have := hok.2.2.2.2.1; unfold wrap64; omega
  have hs : 0 ≤ rd sets ((K : Int) - 1) ∧ rd sets ((K : Int) - 1) ≤ 63 := hok.2.2.2.1 _ (by
   have h4 := rd_mem (l := sets) (i := K - 1) (by omega)
   rwa [show ((K - 1 : Nat) : Int) = (K : Int) - 1 by omega] at h4)
  rw [scansionref11_Step.l1, if_neg (by omega), hw, hw2, u64_wrap hs, hi2]
  cases b with
  | false => rw [if_neg (by decide)]; rw [if_neg (by simp)] at h3; exact h3
  | true =>
   rw [if_pos rfl, if_pos (by omega), if_pos (by omega), if_pos hs.1]
   by_cases q : bitN sign (rd sets ((K : Int) - 1)) = 1
   ·rw [if_pos ⟨rfl, q⟩] at h3
    have q' := q
    unfold bitN at q'
    rw [if_pos q', if_pos (by omega)]
    exact h3
   ·rw [if_neg (fun h => q h.2)] at h3
    have q' := q
    unfold bitN at q'
    rw [if_neg q']
    exact h3
 | succ m ih =>
  intro i is hi hs1 hs2
  have hil : i < at_.length := by omega
  have hr : rd at_ (i : Int) = at_[i] := by unfold rd; rw [Int.toNat_natCast, List.getD_eq_getElem?_getD, List.getElem?_eq_getElem hil]; rfl
  rw [List.drop_eq_getElem_cons hil] at hs2
  have hw2 : wrap64 ((i : Int) + 1) = ((i + 1 : Nat) : Int) := by have := hok.2.2.2.2.2.2.1; unfold wrap64; omega
  cases is with
  | true =>
   obtain ⟨K1, hK1⟩ := ih (i + 1) true (by omega) hs1 (fun _ => .inl rfl)
   refine ⟨K1 + 1, fun k hk => ?_⟩
   obtain ⟨k, rfl⟩ : ∃ j, k = j + 1 := ⟨k - 1, by omega⟩
   show scansionref11_Step.l1 (k + 1) _ _ _ _ _ _ _ _ _ _ _ = _
   rw [scansionref11_Step.l1, if_pos (by omega), if_pos rfl, hw2]
   exact hK1 k (by omega)
  | false =>
   have htr := hok.1 at_[i] (List.getElem_mem hil)
   by_cases q : at_[i] = 0
   ·obtain ⟨K1, hK1⟩ := ih (i + 1) false (by omega) hs1 (fun h => by
     rcases hs2 h with h | ⟨t, ht, e, hq⟩
     ·cases h
     ·rcases List.mem_cons.1 ht with rfl | ht
      ·exact absurd q e
      ·exact .inr ⟨t, ht, e, hq⟩)
    refine ⟨K1 + 1, fun k hk => ?_⟩
    obtain ⟨k, rfl⟩ : ∃ j, k = j + 1 := ⟨k - 1, by omega⟩
    show scansionref11_Step.l1 (k + 1) _ _ _ _ _ _ _ _ _ _ _ = _
    rw [scansionref11_Step.l1, if_pos (by omega), if_neg (by decide), if_pos (by omega), hr, if_neg (by omega), hw2]
    exact hK1 k (by omega)
   ·obtain ⟨j, hj⟩ : ∃ j : Nat, j = (at_[i] - 1).toNat := ⟨_, rfl⟩
    have hjl : j < fol.length := by omega
    have hw : wrap64 (at_[i] - 1) = (j : Int) := by clear hw2; have := hok.2.2.2.2.2.1; unfold wrap64; omega
    have hg : fol.getD j [] = fol[j] := by rw [List.getD_eq_getElem?_getD, List.getElem?_eq_getElem hjl]; rfl
    obtain ⟨K2, hK2⟩ := has_f fol[j] (K : Int) (hfr _ (List.getElem_mem hjl))
    obtain ⟨K1, hK1⟩ := ih (i + 1) (decide ((K : Int) ∈ fol[j])) (by omega) (fun h => by
     rw [hb, decide_eq_true_eq, allR_iff]
     exact .inr ⟨at_[i], List.getElem_mem hil, q, by rw [← hj, hg]; simpa using h⟩) (fun h => by
     rcases hs2 h with h | ⟨t, ht, e, hq⟩
     ·cases h
     ·rcases List.mem_cons.1 ht with rfl | ht
      ·rw [← hj, hg] at hq; exact .inl (decide_eq_true hq)
      ·exact .inr ⟨t, ht, e, hq⟩)
    refine ⟨K1 + K2 + 1, fun k hk => ?_⟩
    obtain ⟨k, rfl⟩ : ∃ j, k = j + 1 := ⟨k - 1, by omega⟩
    show scansionref11_Step.l1 (k + 1) _ _ _ _ _ _ _ _ _ _ _ = _
    have h5 : scansionref11_has.f k fol[j] (K : Int) = some (decide ((K : Int) ∈ fol[j])) := hK2 k (by omega)
    rw [scansionref11_Step.l1, if_pos (by omega), if_neg (by decide), if_pos (by omega), hr, if_pos (by omega), hw, if_pos (by omega), if_pos (by omega), rdL3_get hjl, h5, Option.bind_some, hw2]
    exact hK1 k (by omega)
theorem step_l0 (hok : StepOk sets first fol at_) (hfr : ∀ l ∈ fol, l.length ≤ 1000000) (hf1 : first.length ≤ 1000000) : ∀ (n K : Nat) (acc : List Int), K + n = sets.length + 1 → 1 ≤ K → acc.length + n ≤ 1000000 →
  Evs (fun k => scansionref11_Step.l0 k at_ sign acc (K : Int) nl sets first last fol) (acc ++ (((List.range n).map fun j => ((K + j : Nat) : Int)).filter (goes sets first fol at_ sign))) := by
 intro n
 induction n with
 | zero =>
  intro K acc hK h1 hacc
  refine ⟨1, fun k hk => ?_⟩
  obtain ⟨k, rfl⟩ : ∃ j, k = j + 1 := ⟨k - 1, by omega⟩
  show scansionref11_Step.l0 (k + 1) _ _ _ _ _ _ _ _ _ = _
  rw [scansionref11_Step.l0, if_neg (by omega)]
  simp
 | succ n ih =>
  intro K acc hK h1 hacc
  obtain ⟨b, hb⟩ : ∃ b, b = decide ((K : Int) ∈ allR first fol at_) := ⟨_, rfl⟩
  have hstep := ih (K + 1) (if b = true ∧ bitN sign (rd sets ((K : Int) - 1)) = 1 then acc ++ [(K : Int)] else acc) (by omega) (by omega) (by split <;> (try simp only [List.length_append, List.length_cons, List.length_nil]) <;> omega)
  have hlist : (if b = true ∧ bitN sign (rd sets ((K : Int) - 1)) = 1 then acc ++ [(K : Int)] else acc) ++ (((List.range n).map fun j => ((K + 1 + j : Nat) : Int)).filter (goes sets first fol at_ sign)) = acc ++ (((List.range (n + 1)).map fun j => ((K + j : Nat) : Int)).filter (goes sets first fol at_ sign)) := by
   rw [List.range_succ_eq_map, List.map_cons, List.map_map, List.filter_cons]
   have e : ((fun j => ((K + j : Nat) : Int)) ∘ Nat.succ) = fun j => ((K + 1 + j : Nat) : Int) := by funext j; show ((K + (j + 1) : Nat) : Int) = _; congr 1; omega
   rw [e]
   simp only [Nat.add_zero]
   by_cases q : b = true ∧ bitN sign (rd sets ((K : Int) - 1)) = 1
   ·rw [if_pos q, if_pos (by unfold goes; rw [← hb, q.1, decide_eq_true q.2]; rfl), List.append_assoc]; rfl
   ·rw [if_neg q, if_neg (by
     unfold goes
     rw [← hb]
     intro h
     rw [Bool.and_eq_true, decide_eq_true_eq] at h
     exact q h)]
  rw [hlist] at hstep
  obtain ⟨Ka, hKa⟩ := has_f at_ 0 (by have := hok.2.2.2.2.2.2.1; omega)
  obtain ⟨Kb, hKb⟩ := has_f first (K : Int) hf1
  obtain ⟨Kc, hKc⟩ := step_l1 nl sets first last fol at_ sign hok hfr acc K h1 (by omega) (by omega) _ b hb hstep at_.length 0 (decide (0 ∈ at_) && decide ((K : Int) ∈ first)) (by omega) (fun h => by
   rw [Bool.and_eq_true, decide_eq_true_eq, decide_eq_true_eq] at h
   rw [hb, decide_eq_true_eq, allR_iff]
   exact .inl h) (fun h => by
   rw [hb, decide_eq_true_eq, allR_iff] at h
   rcases h with h | h
   ·exact .inl (by rw [decide_eq_true h.1, decide_eq_true h.2]; rfl)
   ·exact .inr h)
  refine ⟨Ka + Kb + Kc + 2, fun k hk => ?_⟩
  obtain ⟨k, rfl⟩ : ∃ j, k = j + 2 := ⟨k - 2, by omega⟩
  show scansionref11_Step.l0 (k + 1 + 1) _ _ _ _ _ _ _ _ _ = _
  have h5 : scansionref11_has.f (k + 1) at_ 0 = some (decide (0 ∈ at_)) := hKa (k + 1) (by omega)
  have h6 : scansionref11_has.f (k + 1) first (K : Int) = some (decide ((K : Int) ∈ first)) := hKb (k + 1) (by omega)
  have h7 := hKc k (by omega)
  rw [scansionref11_Step.l0, if_pos (by omega), h5, Option.bind_some]
  by_cases q : 0 ∈ at_
  ·rw [decide_eq_true q, if_pos rfl, h6, Option.bind_some, scansionref11_Step.j1]
   rw [decide_eq_true q, Bool.true_and] at h7
   exact h7
  ·rw [decide_eq_false q, if_neg (by decide), scansionref11_Step.j1]
   rw [decide_eq_false q, Bool.false_and] at h7
   exact h7
theorem stepR_is (hok : StepOk sets first fol at_) (hu : U64 sign) : stepR sets first fol at_ sign = ((List.range sets.length).map fun j => ((1 + j : Nat) : Int)).filter (goes sets first fol at_ sign) := by
 refine rise_ext _ _ ?_ ?_ (fun q => ?_)
 ·exact List.Pairwise.filter _ (compact_rise (sortI_sorted _))
 ·refine List.Pairwise.filter _ ?_
  rw [List.pairwise_map]
  exact List.pairwise_lt_range.imp (fun h => by omega)
 ·unfold stepR goes oddN
  rw [List.mem_filter, List.mem_filter]
  unfold withR
  rw [compact_mem, sortI_mem, List.append_nil]
  constructor
  ·rintro ⟨h1, h2⟩
   have h3 := allR_mem hok q h1
   refine ⟨List.mem_map.2 ⟨(q - 1).toNat, List.mem_range.2 (by omega), by omega⟩, ?_⟩
   rw [decide_eq_true h1, Bool.true_and, decide_eq_true_eq]
   rcases bitN_two (s := rd sets (q - 1)) hu with h | h
   ·rw [h] at h2; cases h2
   ·exact h
  ·rintro ⟨_, h2⟩
   rw [Bool.and_eq_true, decide_eq_true_eq, decide_eq_true_eq] at h2
   exact ⟨h2.1, by rw [h2.2]; rfl⟩
theorem step_f (hok : StepOk sets first fol at_) (hu : U64 sign) (hfr : ∀ l ∈ fol, l.length ≤ 1000000) (hf1 : first.length ≤ 1000000) (hs : sets.length ≤ 1000) : Evs (fun k => scansionref11_Step.f k nl sets first last fol at_ sign) (stepR sets first fol at_ sign) := by
 have h := step_l0 nl sets first last fol at_ sign hok hfr hf1 sets.length 1 [] (by omega) (by omega) (by simp; omega)
 rw [List.nil_append, ← stepR_is sets first fol at_ sign hok hu] at h
 exact h
end
end Go.Proofs.Ytemlgmkbonpniaa.Print
