/- What the reference of chapter 12 says of states: few; right; the same. -/
import Derived.Test.YtadhjjfodpmelaaPrint12
import Derived.Test.YtadhjjfodpmelaaPrint7
import Derived.Test.YtadhjjfodpmelaaPrint8
import Derived.Test.YtadhjjfodpmelaaRight
-- NEEDS scansionref12_Few scansionref12_Right scansionref01_SameInts
namespace Go.Proofs.Ytadhjjfodpmelaa.Pure
open Go.RowKit Go.Proofs.Ytadhjjfodpmelaa.Print Go.Proofs.YtadhjjfodpmelaaW.PrintWords Go.Proofs.YtadhjjfodpmelaaW.PrintLast
set_option linter.unusedVariables false
set_option linter.unusedSimpArgs false

/-- With enough rounds it answers r. -/
def Ev {β : Type} (f : Nat → Option β) (r : β) : Prop := ∃ K, ∀ k, K ≤ k → f k = some r
theorem Ev.some_ {β : Type} (r : β) : Ev (fun _ => some r) r := ⟨0, fun _ _ => rfl⟩
theorem Ev.succ {β : Type} {f g : Nat → Option β} {r : β} (h : Ev g r) (e : ∀ k, f (k + 1) = g k) : Ev f r := by
  obtain ⟨K, h⟩ := h
  refine ⟨K + 1, fun k hk => ?_⟩
  obtain ⟨k, rfl⟩ : ∃ m, k = m + 1 := ⟨k - 1, by omega⟩
  rw [e]; exact h k (by omega)
theorem Ev.congr {β : Type} {f g : Nat → Option β} {r : β} (h : Ev g r) (e : ∀ k, f k = g k) : Ev f r := by
  obtain ⟨K, h⟩ := h
  exact ⟨K, fun k hk => (e k).trans (h k hk)⟩
theorem Ev.bind {α β : Type} {f : Nat → Option α} {g : Nat → α → Option β} {a : α} {r : β} (h : Ev f a) (h' : Ev (fun k => g k a) r) : Ev (fun k => (f k).bind fun t => g k t) r := by
  obtain ⟨K, h⟩ := h
  obtain ⟨K', h'⟩ := h'
  exact ⟨max K K', fun k hk => by show (f k).bind _ = _; rw [h k (by omega), Option.bind_some]; exact h' k (by omega)⟩

theorem rdL1_nat (a : List (List Int)) (i : Nat) : rd_L1 a (i : Int) = a.getD i [] := by unfold rd_L1; rw [Int.toNat_natCast]
theorem wrap_succ {i : Nat} (h : i < 9223372036854775807) : wrap64 ((i : Int) + 1) = ((i + 1 : Nat) : Int) := by unfold wrap64; omega

/-! ### Few -/
def fewB (a : List (List Int)) (b : List Bool) (m : Int) : Bool := decide ((a.length : Int) ≤ m) && decide ((b.length : Int) ≤ m) && a.all (fun row => decide ((row.length : Int) ≤ m))
theorem ev_few_l0 (a : List (List Int)) (b : List Bool) (m : Int) (ha : a.length ≤ maxLen) : ∀ (n i : Nat), i + n = a.length → Ev (fun k => scansionref12_Few.l0 k m i a b) ((a.drop i).all (fun row => decide ((row.length : Int) ≤ m)))
  | 0, i, h => by
    rw [List.drop_eq_nil_of_le (by omega)]
    refine Ev.succ (Ev.some_ true) fun k => ?_
    rw [scansionref12_Few.l0, if_neg (by omega)]
  | n + 1, i, h => by
    have hl : i < a.length := by omega
    have hd : a.drop i = rd_L1 a i :: a.drop (i + 1) := by rw [rdL1_nat, List.getD_eq_getElem?_getD, List.getElem?_eq_getElem hl, Option.getD_some]; exact List.drop_eq_getElem_cons hl
    have ih := ev_few_l0 a b m ha n (i + 1) (by omega)
    rw [hd, List.all_cons]
    by_cases q : ((rd_L1 a i).length : Int) ≤ m
    · rw [decide_eq_true q, Bool.true_and]
      refine Ev.succ ih fun k => ?_
      rw [scansionref12_Few.l0, if_pos (by omega), if_pos (by omega), if_neg (by omega), wrap_succ (by unfold maxLen at ha; omega)]
    · rw [decide_eq_false q, Bool.false_and]
      refine Ev.succ (Ev.some_ false) fun k => ?_
      rw [scansionref12_Few.l0, if_pos (by omega), if_pos (by omega), if_pos (by omega)]
theorem ev_few (a : List (List Int)) (b : List Bool) (m : Int) (ha : a.length ≤ maxLen) : Ev (fun k => scansionref12_Few.f k a b m) (fewB a b m) := by
  unfold fewB
  by_cases q : (a.length : Int) ≤ m
  · by_cases q2 : (b.length : Int) ≤ m
    · rw [decide_eq_true q, decide_eq_true q2, Bool.true_and, Bool.true_and]
      refine Ev.succ (ev_few_l0 a b m ha a.length 0 (by omega)) fun k => ?_
      rw [scansionref12_Few.f, if_neg (by omega), decide_eq_false (by omega), scansionref12_Few.j0, if_neg (by decide)]
      rfl
    · rw [decide_eq_true q, decide_eq_false q2, Bool.and_false, Bool.false_and]
      refine Ev.succ (Ev.some_ false) fun k => ?_
      rw [scansionref12_Few.f, if_neg (by omega), decide_eq_true (by omega), scansionref12_Few.j0, if_pos rfl]
  · rw [decide_eq_false q, Bool.false_and, Bool.false_and]
    refine Ev.succ (Ev.some_ false) fun k => ?_
    rw [scansionref12_Few.f, if_pos (by omega), scansionref12_Few.j0, if_pos rfl]

/-! ### Right -/
theorem rd_nat (l : List Int) (i : Nat) (h : i < l.length) : l.drop i = rd l i :: l.drop (i + 1) := by
  unfold rd
  rw [Int.toNat_natCast, List.getD_eq_getElem?_getD, List.getElem?_eq_getElem h, Option.getD_some]
  exact List.drop_eq_getElem_cons h

/-- The row tells of nothing odd, so many classes. -/
def okRow (n m : Int) (row : List Int) : Bool := decide ((row.length : Int) = m) && decide (1 ≤ row.length) && decide (row.length ≤ 200) && !(row.any (odd n))

theorem ev_right_l1 (a : List (List Int)) (b : List Bool) (n : Int) (i : Nat) (hi : i < a.length) (ha : a.length ≤ maxLen) (hr : (rd_L1 a i).length ≤ 200) {r : Bool} (h : Ev (fun k => scansionref12_Right.l0 k n ((i + 1 : Nat) : Int) a b) r) :
    ∀ (c j : Nat), j + c = (rd_L1 a i).length → Ev (fun k => scansionref12_Right.l1 k n i j a b) (if ((rd_L1 a i).drop j).any (odd n) = true then false else r)
  | 0, j, hj => by
    rw [List.drop_eq_nil_of_le (by omega), if_neg (by simp)]
    refine Ev.succ h fun k => ?_
    rw [scansionref12_Right.l1, if_pos (by omega), if_pos (by omega), if_neg (by omega), wrap_succ (by unfold maxLen at ha; omega)]
  | c + 1, j, hj => by
    have ih := ev_right_l1 a b n i hi ha hr h c (j + 1) (by omega)
    rw [rd_nat _ j (by omega), List.any_cons]
    by_cases q : odd n (rd (rd_L1 a i) j) = true
    · rw [q, Bool.true_or, if_pos rfl]
      refine Ev.succ (Ev.some_ false) fun k => ?_
      rw [scansionref12_Right.l1, if_pos (by omega), if_pos (by omega), if_pos (by omega), if_pos (by omega)]
      unfold odd at q
      by_cases q1 : rd (rd_L1 a i) j < 0
      · rw [if_pos q1]
      · rw [if_neg q1, if_pos (by simp [q1] at q; omega)]
    · rw [Bool.eq_false_iff.2 q, Bool.false_or]
      refine Ev.succ ih fun k => ?_
      unfold odd at q
      simp at q
      rw [scansionref12_Right.l1, if_pos (by omega), if_pos (by omega), if_pos (by omega), if_pos (by omega), if_neg (by omega), if_neg (by omega), wrap_succ (by omega)]

theorem ev_right_l0 (a : List (List Int)) (b : List Bool) (ha : a.length ≤ maxLen) : ∀ (c i : Nat), i + c = a.length → Ev (fun k => scansionref12_Right.l0 k a.length i a b) ((a.drop i).all (okRow a.length (rd_L1 a 0).length))
  | 0, i, h => by
    rw [List.drop_eq_nil_of_le (by omega)]
    refine Ev.succ (Ev.some_ true) fun k => ?_
    rw [scansionref12_Right.l0, if_neg (by omega)]
  | c + 1, i, h => by
    have hl : i < a.length := by omega
    have hd : a.drop i = rd_L1 a i :: a.drop (i + 1) := by rw [rdL1_nat, List.getD_eq_getElem?_getD, List.getElem?_eq_getElem hl, Option.getD_some]; exact List.drop_eq_getElem_cons hl
    have ih := ev_right_l0 a b ha c (i + 1) (by omega)
    rw [hd, List.all_cons]
    by_cases q1 : ((rd_L1 a i).length : Int) = ((rd_L1 a 0).length : Int)
    · by_cases q2 : 1 ≤ (rd_L1 a i).length
      · by_cases q3 : (rd_L1 a i).length ≤ 200
        · have := ev_right_l1 a b a.length i hl ha q3 ih (rd_L1 a i).length 0 (by omega)
          have e : (okRow a.length (rd_L1 a 0).length (rd_L1 a i) && (a.drop (i + 1)).all (okRow a.length (rd_L1 a 0).length)) = (if ((rd_L1 a i).drop 0).any (odd a.length) = true then false else (a.drop (i + 1)).all (okRow a.length (rd_L1 a 0).length)) := by
            unfold okRow
            rw [decide_eq_true q1, decide_eq_true q2, decide_eq_true q3, List.drop_zero]
            cases (rd_L1 a i).any (odd a.length) <;> simp
          rw [e]
          refine Ev.succ (g := fun k => scansionref12_Right.j2 k a.length i false a b) (Ev.succ this fun k => ?_) fun k => ?_
          · rw [scansionref12_Right.j2, if_neg (by decide)]; rfl
          · rw [scansionref12_Right.l0, if_pos (by omega), if_pos (by omega), if_pos (by omega), if_pos (by omega), if_pos q1, if_neg (by omega), decide_eq_false (by omega)]
        · have e : okRow a.length (rd_L1 a 0).length (rd_L1 a i) = false := by unfold okRow; rw [decide_eq_false q3]; simp
          rw [e, Bool.false_and]
          refine Ev.succ (g := fun k => scansionref12_Right.j2 k a.length i true a b) (Ev.succ (Ev.some_ false) fun k => ?_) fun k => ?_
          · rw [scansionref12_Right.j2, if_pos rfl]
          · rw [scansionref12_Right.l0, if_pos (by omega), if_pos (by omega), if_pos (by omega), if_pos (by omega), if_pos q1, if_neg (by omega), decide_eq_true (by omega)]
      · have e : okRow a.length (rd_L1 a 0).length (rd_L1 a i) = false := by unfold okRow; rw [decide_eq_false q2]; simp
        rw [e, Bool.false_and]
        refine Ev.succ (g := fun k => scansionref12_Right.j2 k a.length i true a b) (Ev.succ (Ev.some_ false) fun k => ?_) fun k => ?_
        · rw [scansionref12_Right.j2, if_pos rfl]
        · rw [scansionref12_Right.l0, if_pos (by omega), if_pos (by omega), if_pos (by omega), if_pos (by omega), if_pos q1, if_pos (by omega)]
    · have e : okRow a.length (rd_L1 a 0).length (rd_L1 a i) = false := by unfold okRow; rw [decide_eq_false q1]; simp
      rw [e, Bool.false_and]
      refine Ev.succ (g := fun k => scansionref12_Right.j2 k a.length i true a b) (Ev.succ (Ev.some_ false) fun k => ?_) fun k => ?_
      · rw [scansionref12_Right.j2, if_pos rfl]
      · rw [scansionref12_Right.l0, if_pos (by omega), if_pos (by omega), if_pos (by omega), if_pos (by omega), if_neg q1]

theorem rightB_eq (a : List (List Int)) (b : List Bool) : rightB a b = (decide (1 ≤ a.length) && decide (a.length ≤ 5000) && decide (b.length = a.length) && a.all (okRow a.length (rd_L1 a 0).length)) := by
  unfold rightB
  by_cases q : 1 ≤ a.length
  · have hm : rd_L1 a 0 ∈ a := by
      have hl : 0 < a.length := q
      unfold rd_L1
      simp only [Int.toNat_zero, List.getD_eq_getElem?_getD, List.getElem?_eq_getElem hl, Option.getD_some]
      exact List.getElem_mem hl
    by_cases q1 : 1 ≤ (rd_L1 a 0).length
    · by_cases q2 : (rd_L1 a 0).length ≤ 200
      · rw [decide_eq_true q1, decide_eq_true q2]
        have : (!(a.any (badRow a.length (rd_L1 a 0).length))) = a.all (okRow a.length (rd_L1 a 0).length) := by
          rw [List.not_any_eq_all_not]
          apply congrArg (fun f => a.all f)
          funext row
          unfold badRow okRow
          by_cases h : (row.length : Int) = ((rd_L1 a 0).length : Int)
          · rw [h, decide_eq_true rfl, decide_eq_true (by omega), decide_eq_true (by omega)]; simp
          · rw [decide_eq_false h]; simp [h]
        rw [this]; simp
      · have e : a.all (okRow a.length (rd_L1 a 0).length) = false := by
          rw [List.all_eq_false]
          exact ⟨_, hm, by unfold okRow; rw [decide_eq_false q2]; simp⟩
        rw [e, decide_eq_false q2]; simp
    · have e : a.all (okRow a.length (rd_L1 a 0).length) = false := by
        rw [List.all_eq_false]
        exact ⟨_, hm, by unfold okRow; rw [decide_eq_false q1]; simp⟩
      rw [e, decide_eq_false q1]; simp
  · rw [decide_eq_false q]; simp

theorem ev_right (a : List (List Int)) (b : List Bool) : Ev (fun k => scansionref12_Right.f k a b) (rightB a b) := by
  rw [rightB_eq]
  by_cases q : 1 ≤ a.length
  · by_cases q2 : a.length ≤ 5000
    · by_cases q3 : b.length = a.length
      · have h := ev_right_l0 a b (by unfold maxLen; omega) a.length 0 (by omega)
        rw [decide_eq_true q, decide_eq_true q2, decide_eq_true q3, Bool.true_and, Bool.true_and, Bool.true_and]
        refine Ev.succ h fun k => ?_
        rw [scansionref12_Right.f, if_neg (by omega), if_neg (by omega), q3, bne_self_eq_false, scansionref12_Right.j0, if_neg (by decide)]
        rfl
      · rw [decide_eq_false q3, Bool.and_false, Bool.false_and]
        refine Ev.succ (Ev.some_ false) fun k => ?_
        rw [scansionref12_Right.f, if_neg (by omega), if_neg (by omega), bne_iff_ne.2 (by omega), scansionref12_Right.j0, if_pos rfl]
    · rw [decide_eq_false q2, Bool.and_false, Bool.false_and, Bool.false_and]
      refine Ev.succ (Ev.some_ false) fun k => ?_
      rw [scansionref12_Right.f, if_neg (by omega), if_pos (by omega), scansionref12_Right.j0, if_pos rfl]
  · rw [decide_eq_false q, Bool.false_and, Bool.false_and, Bool.false_and]
    refine Ev.succ (Ev.some_ false) fun k => ?_
    rw [scansionref12_Right.f, if_pos (by omega), scansionref12_Right.j0, if_pos rfl]

/-! ### Same -/
theorem rd_ext {l l' : List Int} (hl : l.length = l'.length) (h : ∀ i : Nat, i < l.length → rd l i = rd l' i) : l = l' := by
  refine List.ext_getElem hl fun i h1 h2 => ?_
  have := h i h1
  unfold rd at this
  rwa [Int.toNat_natCast, List.getD_eq_getElem?_getD, List.getD_eq_getElem?_getD, List.getElem?_eq_getElem h1, List.getElem?_eq_getElem h2, Option.getD_some, Option.getD_some] at this
theorem ev_sameInts (l l' : List Int) (hl : l.length < 9223372036854775807) : Ev (fun k => scansionref01_SameInts.f k l l') (decide (l = l')) := by
  have go : l.length = l'.length → ∀ (c i : Nat), i + c = l.length → (∀ j : Nat, j < i → rd l j = rd l' j) → Ev (fun k => scansionref01_SameInts.l0 k l l' i) (decide (l = l')) := by
    intro he c
    induction c with
    | zero =>
      intro i hi hj
      rw [decide_eq_true (rd_ext he fun j h => hj j (by omega))]
      refine Ev.succ (Ev.some_ true) fun k => ?_
      rw [scansionref01_SameInts.l0, if_neg (by omega)]
    | succ c ih =>
      intro i hi hj
      by_cases q : rd l i = rd l' i
      · refine Ev.succ (ih (i + 1) (by omega) (fun j h => ?_)) fun k => ?_
        · by_cases e : j = i
          · rw [e]; exact q
          · exact hj j (by omega)
        · rw [scansionref01_SameInts.l0, if_pos (by omega), if_pos (by omega), if_pos (by omega), if_pos q, wrap_succ (by omega)]
      · rw [decide_eq_false (fun e => q (by rw [e]))]
        refine Ev.succ (Ev.some_ false) fun k => ?_
        rw [scansionref01_SameInts.l0, if_pos (by omega), if_pos (by omega), if_pos (by omega), if_neg q]
  by_cases q : l.length = l'.length
  · refine Ev.congr (go q l.length 0 (by omega) (fun j h => absurd h (by omega))) fun k => ?_
    rw [scansionref01_SameInts.f, if_pos (by omega)]
    rfl
  · rw [decide_eq_false (fun e => q (by rw [e]))]
    refine Ev.congr (Ev.some_ false) fun k => ?_
    rw [scansionref01_SameInts.f, if_neg (by omega)]

theorem rdL1_ext {l l' : List (List Int)} (hl : l.length = l'.length) (h : ∀ i : Nat, i < l.length → rd_L1 l i = rd_L1 l' i) : l = l' := by
  refine List.ext_getElem hl fun i h1 h2 => ?_
  have := h i h1
  rwa [rdL1_nat, rdL1_nat, List.getD_eq_getElem?_getD, List.getD_eq_getElem?_getD, List.getElem?_eq_getElem h1, List.getElem?_eq_getElem h2, Option.getD_some, Option.getD_some] at this
theorem rdOf_ext {l l' : List Bool} (hl : l.length = l'.length) (h : ∀ i : Nat, i < l.length → rdOf false l i = rdOf false l' i) : l = l' := by
  refine List.ext_getElem hl fun i h1 h2 => ?_
  have := h i h1
  unfold rdOf at this
  rwa [Int.toNat_natCast, List.getD_eq_getElem?_getD, List.getD_eq_getElem?_getD, List.getElem?_eq_getElem h1, List.getElem?_eq_getElem h2, Option.getD_some, Option.getD_some] at this
theorem mem_rdL1 {a : List (List Int)} {i : Nat} (h : i < a.length) : rd_L1 a i ∈ a := by
  rw [rdL1_nat, List.getD_eq_getElem?_getD, List.getElem?_eq_getElem h, Option.getD_some]
  exact List.getElem_mem _

end Go.Proofs.Ytadhjjfodpmelaa.Pure
