/- What the reference of chapter 12 says of states (few; right), and the reference of chapter 14 as bytes: the same as the program's. -/
import Derived.Test.YtjcgbjkjkgkklaaPrint6
import Derived.Test.YtjcgbjkjkgkklaaPrint8
import Derived.Test.YtjcgbjkjkgkklaaPrint9
import Derived.Test.YtjcgbjkjkgkklaaLawN
import Derived.Test.YtjcgbjkjkgkklaaSaveR
-- NEEDS scansionref12_Few scansionref12_Right scansionref14_Save
namespace Go.Proofs.Ytjcgbjkjkgkklaa.Pure
open Go.RowKit Go.Proofs.Ytjcgbjkjkgkklaa.Print Go.Proofs.YtjcgbjkjkgkklaaW.PrintWords Go.Proofs.YtjcgbjkjkgkklaaW.PrintLast
set_option linter.unusedVariables false
set_option linter.unusedSimpArgs false

/-- With enough rounds it answers r. -/
def Ev {β : Type} (f : Nat → Option β) (r : β) : Prop := ∃ K, ∀ k, K ≤ k → f k = some r
theorem Ev.some_ {β : Type} (r : β) : Ev (fun _ => some r) r := ⟨0, fun _ _ => rfl⟩
theorem Ev.succ {β : Type} {f g : Nat → Option β} {r : β} (h : Ev g r) (e : ∀ k, f (k + 1) = g k) : Ev f r := by
  obtain ⟨K, h⟩ := h
  refine ⟨K + 1, fun k hk => ?_⟩
  obtain ⟨k, rfl⟩ : ∃ m, k = m + 1 := ⟨k - 1, by omega⟩
  rw [e]; exact h k (by omega)
theorem Ev.congr {β : Type} {f g : Nat → Option β} {r : β} (h : Ev g r) (e : ∀ k, f k = g k) : Ev f r := by
  obtain ⟨K, h⟩ := h
  exact ⟨K, fun k hk => (e k).trans (h k hk)⟩
theorem Ev.bind {α β : Type} {f : Nat → Option α} {g : Nat → α → Option β} {a : α} {r : β} (h : Ev f a) (h' : Ev (fun k => g k a) r) : Ev (fun k => (f k).bind fun t => g k t) r := by
  obtain ⟨K, h⟩ := h
  obtain ⟨K', h'⟩ := h'
  exact ⟨max K K', fun k hk => by show (f k).bind _ = _; rw [h k (by omega), Option.bind_some]; exact h' k (by omega)⟩
theorem ev_number {n : Int} (h : n < 9223372036854775808) : Ev (fun k => packed_Number.f k n) (numOf n) := ⟨12, fun k hk => number_kk n h k hk⟩
theorem ev_refNumber {n : Int} (h : n < 9223372036854775808) : Ev (fun k => scansionref14_Number.f k n) (numOf n) := ⟨12, fun k hk => refNumber_kk n h k hk⟩

theorem rdL2_nat (a : List (List Int)) (i : Nat) : rd_L2 a (i : Int) = a.getD i [] := by unfold rd_L2; rw [Int.toNat_natCast]
theorem wrap_succ {i : Nat} (h : i < 9223372036854775807) : wrap64 ((i : Int) + 1) = ((i + 1 : Nat) : Int) := by rw [w64 (by omega) (by omega)]; omega

/-! ### Few -/
def fewB (a : List (List Int)) (b : List Bool) (m : Int) : Bool := decide ((a.length : Int) ≤ m) && decide ((b.length : Int) ≤ m) && a.all (fun row => decide ((row.length : Int) ≤ m))
theorem ev_few_l0 (a : List (List Int)) (b : List Bool) (m : Int) (ha : a.length ≤ maxLen) : ∀ (n i : Nat), i + n = a.length → Ev (fun k => scansionref12_Few.l0 k m i a b) ((a.drop i).all (fun row => decide ((row.length : Int) ≤ m)))
  | 0, i, h => by
    rw [List.drop_eq_nil_of_le (by omega)]
    refine Ev.succ (Ev.some_ true) fun k => ?_
    rw [scansionref12_Few.l0, if_neg (by omega)]
  | n + 1, i, h => by
    have hl : i < a.length := by omega
    have hd : a.drop i = rd_L2 a i :: a.drop (i + 1) := by rw [rdL2_nat, List.getD_eq_getElem?_getD, List.getElem?_eq_getElem hl, Option.getD_some]; exact List.drop_eq_getElem_cons hl
    have ih := ev_few_l0 a b m ha n (i + 1) (by omega)
    rw [hd, List.all_cons]
    by_cases q : ((rd_L2 a i).length : Int) ≤ m
    · rw [decide_eq_true q, Bool.true_and]
      refine Ev.succ ih fun k => ?_
      rw [scansionref12_Few.l0, if_pos (by omega), if_pos (by omega), if_neg (by omega), wrap_succ (by unfold maxLen at ha; omega)]
    · rw [decide_eq_false q, Bool.false_and]
      refine Ev.succ (Ev.some_ false) fun k => ?_
      rw [scansionref12_Few.l0, if_pos (by omega), if_pos (by omega), if_pos (by omega)]
theorem ev_few (a : List (List Int)) (b : List Bool) (m : Int) (ha : a.length ≤ maxLen) : Ev (fun k => scansionref12_Few.f k a b m) (fewB a b m) := by
  unfold fewB
  by_cases q : (a.length : Int) ≤ m
  · by_cases q2 : (b.length : Int) ≤ m
    · rw [decide_eq_true q, decide_eq_true q2, Bool.true_and, Bool.true_and]
      refine Ev.succ (ev_few_l0 a b m ha a.length 0 (by omega)) fun k => ?_
      rw [scansionref12_Few.f, if_neg (by omega), decide_eq_false (by omega), scansionref12_Few.j0, if_neg (by decide)]
      rfl
    · rw [decide_eq_true q, decide_eq_false q2, Bool.and_false, Bool.false_and]
      refine Ev.succ (Ev.some_ false) fun k => ?_
      rw [scansionref12_Few.f, if_neg (by omega), decide_eq_true (by omega), scansionref12_Few.j0, if_pos rfl]
  · rw [decide_eq_false q, Bool.false_and, Bool.false_and]
    refine Ev.succ (Ev.some_ false) fun k => ?_
    rw [scansionref12_Few.f, if_pos (by omega), scansionref12_Few.j0, if_pos rfl]

/-! ### Right -/
theorem rd_nat (l : List Int) (i : Nat) (h : i < l.length) : l.drop i = rd l i :: l.drop (i + 1) := by
  unfold rd
  rw [Int.toNat_natCast, List.getD_eq_getElem?_getD, List.getElem?_eq_getElem h, Option.getD_some]
  exact List.drop_eq_getElem_cons h

/-- The row tells of nothing odd, so many classes. -/
def okRow (n m : Int) (row : List Int) : Bool := decide ((row.length : Int) = m) && decide (1 ≤ row.length) && decide (row.length ≤ 200) && !(row.any (odd n))

theorem ev_right_l1 (a : List (List Int)) (b : List Bool) (n : Int) (i : Nat) (hi : i < a.length) (ha : a.length ≤ maxLen) (hr : (rd_L2 a i).length ≤ 200) {r : Bool} (h : Ev (fun k => scansionref12_Right.l0 k n ((i + 1 : Nat) : Int) a b) r) :
    ∀ (c j : Nat), j + c = (rd_L2 a i).length → Ev (fun k => scansionref12_Right.l1 k n i j a b) (if ((rd_L2 a i).drop j).any (odd n) = true then false else r)
  | 0, j, hj => by
    rw [List.drop_eq_nil_of_le (by omega), if_neg (by simp)]
    refine Ev.succ h fun k => ?_
    rw [scansionref12_Right.l1, if_pos (by omega), if_pos (by omega), if_neg (by omega), wrap_succ (by unfold maxLen at ha; omega)]
  | c + 1, j, hj => by
    have ih := ev_right_l1 a b n i hi ha hr h c (j + 1) (by omega)
    rw [rd_nat _ j (by omega), List.any_cons]
    by_cases q : odd n (rd (rd_L2 a i) j) = true
    · rw [q, Bool.true_or, if_pos rfl]
      refine Ev.succ (Ev.some_ false) fun k => ?_
      rw [scansionref12_Right.l1, if_pos (by omega), if_pos (by omega), if_pos (by omega), if_pos (by omega)]
      unfold odd at q
      by_cases q1 : rd (rd_L2 a i) j < 0
      · rw [if_pos q1]
      · rw [if_neg q1, if_pos (by simp [q1] at q; omega)]
    · rw [Bool.eq_false_iff.2 q, Bool.false_or]
      refine Ev.succ ih fun k => ?_
      unfold odd at q
      simp at q
      rw [scansionref12_Right.l1, if_pos (by omega), if_pos (by omega), if_pos (by omega), if_pos (by omega), if_neg (by omega), if_neg (by omega), wrap_succ (by omega)]

theorem ev_right_l0 (a : List (List Int)) (b : List Bool) (ha : a.length ≤ maxLen) : ∀ (c i : Nat), i + c = a.length → Ev (fun k => scansionref12_Right.l0 k a.length i a b) ((a.drop i).all (okRow a.length (rd_L2 a 0).length))
  | 0, i, h => by
    rw [List.drop_eq_nil_of_le (by omega)]
    refine Ev.succ (Ev.some_ true) fun k => ?_
    rw [scansionref12_Right.l0, if_neg (by omega)]
  | c + 1, i, h => by
    have hl : i < a.length := by omega
    have hd : a.drop i = rd_L2 a i :: a.drop (i + 1) := by rw [rdL2_nat, List.getD_eq_getElem?_getD, List.getElem?_eq_getElem hl, Option.getD_some]; exact List.drop_eq_getElem_cons hl
    have ih := ev_right_l0 a b ha c (i + 1) (by omega)
    rw [hd, List.all_cons]
    by_cases q1 : ((rd_L2 a i).length : Int) = ((rd_L2 a 0).length : Int)
    · by_cases q2 : 1 ≤ (rd_L2 a i).length
      · by_cases q3 : (rd_L2 a i).length ≤ 200
        · have := ev_right_l1 a b a.length i hl ha q3 ih (rd_L2 a i).length 0 (by omega)
          have e : (okRow a.length (rd_L2 a 0).length (rd_L2 a i) && (a.drop (i + 1)).all (okRow a.length (rd_L2 a 0).length)) = (if ((rd_L2 a i).drop 0).any (odd a.length) = true then false else (a.drop (i + 1)).all (okRow a.length (rd_L2 a 0).length)) := by
            unfold okRow
            rw [decide_eq_true q1, decide_eq_true q2, decide_eq_true q3, List.drop_zero]
            cases (rd_L2 a i).any (odd a.length) <;> simp
          rw [e]
          refine Ev.succ (g := fun k => scansionref12_Right.j2 k a.length i false a b) (Ev.succ this fun k => ?_) fun k => ?_
          · rw [scansionref12_Right.j2, if_neg (by decide)]; rfl
          · rw [scansionref12_Right.l0, if_pos (by omega), if_pos (by omega), if_pos (by omega), if_pos (by omega), if_pos q1, if_neg (by omega), decide_eq_false (by omega)]
        · have e : okRow a.length (rd_L2 a 0).length (rd_L2 a i) = false := by unfold okRow; rw [decide_eq_false q3]; simp
          rw [e, Bool.false_and]
          refine Ev.succ (g := fun k => scansionref12_Right.j2 k a.length i true a b) (Ev.succ (Ev.some_ false) fun k => ?_) fun k => ?_
          · rw [scansionref12_Right.j2, if_pos rfl]
          · rw [scansionref12_Right.l0, if_pos (by omega), if_pos (by omega), if_pos (by omega), if_pos (by omega), if_pos q1, if_neg (by omega), decide_eq_true (by omega)]
      · have e : okRow a.length (rd_L2 a 0).length (rd_L2 a i) = false := by unfold okRow; rw [decide_eq_false q2]; simp
        rw [e, Bool.false_and]
        refine Ev.succ (g := fun k => scansionref12_Right.j2 k a.length i true a b) (Ev.succ (Ev.some_ false) fun k => ?_) fun k => ?_
        · rw [scansionref12_Right.j2, if_pos rfl]
        · rw [scansionref12_Right.l0, if_pos (by omega), if_pos (by omega), if_pos (by omega), if_pos (by omega), if_pos q1, if_pos (by omega)]
    · have e : okRow a.length (rd_L2 a 0).length (rd_L2 a i) = false := by unfold okRow; rw [decide_eq_false q1]; simp
      rw [e, Bool.false_and]
      refine Ev.succ (g := fun k => scansionref12_Right.j2 k a.length i true a b) (Ev.succ (Ev.some_ false) fun k => ?_) fun k => ?_
      · rw [scansionref12_Right.j2, if_pos rfl]
      · rw [scansionref12_Right.l0, if_pos (by omega), if_pos (by omega), if_pos (by omega), if_pos (by omega), if_neg q1]

theorem rightB_eq (a : List (List Int)) (b : List Bool) : rightB a b = (decide (1 ≤ a.length) && decide (a.length ≤ 5000) && decide (b.length = a.length) && a.all (okRow a.length (rd_L2 a 0).length)) := by
  unfold rightB
  by_cases q : 1 ≤ a.length
  · have hm : rd_L2 a 0 ∈ a := by
      have hl : 0 < a.length := q
      unfold rd_L2
      simp only [Int.toNat_zero, List.getD_eq_getElem?_getD, List.getElem?_eq_getElem hl, Option.getD_some]
      exact List.getElem_mem hl
    by_cases q1 : 1 ≤ (rd_L2 a 0).length
    · by_cases q2 : (rd_L2 a 0).length ≤ 200
      · rw [decide_eq_true q1, decide_eq_true q2]
        have : (!(a.any (badRow a.length (rd_L2 a 0).length))) = a.all (okRow a.length (rd_L2 a 0).length) := by
          rw [List.not_any_eq_all_not]
          apply congrArg (fun f => a.all f)
          funext row
          unfold badRow okRow
          by_cases h : (row.length : Int) = ((rd_L2 a 0).length : Int)
          · rw [h, decide_eq_true rfl, decide_eq_true (by omega), decide_eq_true (by omega)]; simp
          · rw [decide_eq_false h]; simp [h]
        rw [this]; simp
      · have e : a.all (okRow a.length (rd_L2 a 0).length) = false := by
          rw [List.all_eq_false]
          exact ⟨_, hm, by unfold okRow; rw [decide_eq_false q2]; simp⟩
        rw [e, decide_eq_false q2]; simp
    · have e : a.all (okRow a.length (rd_L2 a 0).length) = false := by
        rw [List.all_eq_false]
        exact ⟨_, hm, by unfold okRow; rw [decide_eq_false q1]; simp⟩
      rw [e, decide_eq_false q1]; simp
  · rw [decide_eq_false q]; simp

theorem ev_right (a : List (List Int)) (b : List Bool) : Ev (fun k => scansionref12_Right.f k a b) (rightB a b) := by
  rw [rightB_eq]
  by_cases q : 1 ≤ a.length
  · by_cases q2 : a.length ≤ 5000
    · by_cases q3 : b.length = a.length
      · have h := ev_right_l0 a b (by unfold maxLen; omega) a.length 0 (by omega)
        rw [decide_eq_true q, decide_eq_true q2, decide_eq_true q3, Bool.true_and, Bool.true_and, Bool.true_and]
        refine Ev.succ h fun k => ?_
        rw [scansionref12_Right.f, if_neg (by omega), if_neg (by omega), q3, bne_self_eq_false, scansionref12_Right.j0, if_neg (by decide)]
        rfl
      · rw [decide_eq_false q3, Bool.and_false, Bool.false_and]
        refine Ev.succ (Ev.some_ false) fun k => ?_
        rw [scansionref12_Right.f, if_neg (by omega), if_neg (by omega), bne_iff_ne.2 (by omega), scansionref12_Right.j0, if_pos rfl]
    · rw [decide_eq_false q2, Bool.and_false, Bool.false_and, Bool.false_and]
      refine Ev.succ (Ev.some_ false) fun k => ?_
      rw [scansionref12_Right.f, if_neg (by omega), if_pos (by omega), scansionref12_Right.j0, if_pos rfl]
  · rw [decide_eq_false q, Bool.false_and, Bool.false_and, Bool.false_and]
    refine Ev.succ (Ev.some_ false) fun k => ?_
    rw [scansionref12_Right.f, if_pos (by omega), scansionref12_Right.j0, if_pos rfl]

/-! ### Save -/
def flatP (xs : List (Int × Int)) : List Int := xs.flatMap fun p => numOf p.1 ++ numOf p.2

theorem ev_save_l2 (a : List (List Int)) (b : List Bool) (s : Nat) (row : List Int) (hrow : ∀ z ∈ row, z < 9223372036854775808) (hl : row.length ≤ 200) (hs : s ≤ 5000) {r : List Int × Int} :
    ∀ (c : Nat) (x5 : List Int) (fr i : Nat), i + c = row.length → fr < i → x5.length ≤ 23 + s * 4001 + 20 * fr → Ev (fun k => scansionref14_Save.l0 k (x5 ++ flatP (runsGo row (row.length + 1 - i) fr i)) (wrap64 ((s : Int) + 1)) a b) r →
      Ev (fun k => scansionref14_Save.l2 k x5 s row fr i a b) r
  | 0, x5, fr, i, hi, hf, hx, h => by
    have e : runsGo row (row.length + 1 - i) fr i = [((i : Int) - fr, rd row fr)] := by
      rw [show row.length + 1 - i = 1 from by omega, runsGo, if_pos (by omega), if_neg (by omega)]; rfl
    rw [e] at h
    have l1 := numOf_len ((i : Int) - fr)
    have l2 := numOf_len (rd row fr)
    have hw : wrap64 ((i : Int) - fr) = (i : Int) - fr := w64 (by omega) (by omega)
    refine Ev.succ (g := fun k => (scansionref14_Number.f k ((i : Int) - fr)).bind fun t179 => (if x5.length + t179.length < 140737488355328 then ((some (x5 ++ t179 : List Int)).bind fun y182 => (if (0 : Int) ≤ (fr : Int) then (if (fr : Int) < (row.length : Int) then ((scansionref14_Number.f k (rd row fr)).bind fun t186 => (if y182.length + t186.length < 140737488355328 then (scansionref14_Save.l1 k (y182 ++ t186) s row i a b) else (none))) else (none)) else (none))) else (none))) ?_ fun k => ?_
    · refine Ev.bind (ev_refNumber (by omega)) ?_
      refine Ev.congr (g := fun k => (scansionref14_Number.f k (rd row fr)).bind fun t186 => (if (x5 ++ numOf ((i : Int) - fr)).length + t186.length < 140737488355328 then (scansionref14_Save.l1 k ((x5 ++ numOf ((i : Int) - fr)) ++ t186) s row i a b) else none)) ?_ fun k => ?_
      · refine Ev.bind (ev_refNumber (rd_lt hrow _)) ?_
        refine Ev.congr (g := fun k => scansionref14_Save.l1 k ((x5 ++ numOf ((i : Int) - fr)) ++ numOf (rd row fr)) s row i a b) ?_ fun k => ?_
        · refine Ev.succ h fun k => ?_
          rw [scansionref14_Save.l1, if_neg (by omega)]
          simp [flatP]
        · rw [if_pos (by rw [List.length_append]; omega)]
      · rw [if_pos (by omega), Option.bind_some, if_pos (by omega), if_pos (by omega)]
    · rw [scansionref14_Save.l2, if_neg (by omega), hw]
  | c + 1, x5, fr, i, hi, hf, hx, h => by
    obtain ⟨K, hK⟩ : ∃ K, row.length + 1 - i = K + 1 := ⟨row.length - i, by omega⟩
    have hK2 : row.length + 1 - (i + 1) = K := by omega
    rw [hK, runsGo, if_pos (by omega)] at h
    by_cases q : rd row i = rd row fr
    · rw [if_pos ⟨by omega, q⟩] at h
      refine Ev.succ (ev_save_l2 a b s row hrow hl hs c x5 fr (i + 1) (by omega) (by omega) hx (by rw [hK2]; exact h)) fun k => ?_
      rw [scansionref14_Save.l2, if_pos (by omega), if_pos (by omega), if_pos (by omega), if_pos (by omega), if_pos q, wrap_succ (by omega)]
    · rw [if_neg (by rintro ⟨_, q'⟩; exact q q')] at h
      have l1 := numOf_len ((i : Int) - fr)
      have l2 := numOf_len (rd row fr)
      have hw : wrap64 ((i : Int) - fr) = (i : Int) - fr := w64 (by omega) (by omega)
      refine Ev.succ (g := fun k => (scansionref14_Number.f k ((i : Int) - fr)).bind fun t166 => (if x5.length + t166.length < 140737488355328 then ((some (x5 ++ t166 : List Int)).bind fun y169 => ((scansionref14_Number.f k (rd row fr)).bind fun t173 => (if y169.length + t173.length < 140737488355328 then (scansionref14_Save.l1 k (y169 ++ t173) s row i a b) else (none)))) else (none))) ?_ fun k => ?_
      · refine Ev.bind (ev_refNumber (by omega)) ?_
        refine Ev.congr (g := fun k => (scansionref14_Number.f k (rd row fr)).bind fun t186 => (if (x5 ++ numOf ((i : Int) - fr)).length + t186.length < 140737488355328 then (scansionref14_Save.l1 k ((x5 ++ numOf ((i : Int) - fr)) ++ t186) s row i a b) else none)) ?_ fun k => ?_
        · refine Ev.bind (ev_refNumber (rd_lt hrow _)) ?_
          refine Ev.congr (g := fun k => scansionref14_Save.l1 k ((x5 ++ numOf ((i : Int) - fr)) ++ numOf (rd row fr)) s row i a b) ?_ fun k => ?_
          · have := ev_save_l2 a b s row hrow hl hs c ((x5 ++ numOf ((i : Int) - fr)) ++ numOf (rd row fr)) i (i + 1) (by omega) (by omega) (by rw [List.length_append, List.length_append]; omega) (r := r) (by rw [hK2]; simpa [flatP] using h)
            refine Ev.succ (g := fun k => scansionref14_Save.l2 k ((x5 ++ numOf ((i : Int) - fr)) ++ numOf (rd row fr)) s row i i a b) (Ev.succ this fun k => ?_) fun k => ?_
            · rw [scansionref14_Save.l2, if_pos (by omega), if_pos (by omega), if_pos (by omega), if_pos (by omega), if_pos rfl, wrap_succ (by omega)]
            · rw [scansionref14_Save.l1, if_pos (by omega)]
          · rw [if_pos (by rw [List.length_append]; omega)]
        · rw [if_pos (by omega), Option.bind_some]
      · rw [scansionref14_Save.l2, if_pos (by omega), if_pos (by omega), if_pos (by omega), if_pos (by omega), if_neg q, hw]
theorem runsOf_l1 (row : List Int) : runsGo row row.length 0 1 = runsOf row := rfl

theorem ev_save_l0 (a : List (List Int)) (b : List Bool) (hg : rightB a b = true) : ∀ (c s : Nat), s + c = a.length → Ev (fun k => scansionref14_Save.l0 k (headOf a ++ rowsUp a b s) s a b) (saveOf a b, 0)
  | 0, s, h => by
    have e : headOf a ++ rowsUp a b s = saveOf a b := by rw [show s = a.length from by omega]; simp [headOf, saveOf]
    rw [e]
    refine Ev.succ (Ev.some_ _) fun k => ?_
    rw [scansionref14_Save.l0, if_neg (by omega)]
  | c + 1, s, h => by
    have ih := ev_save_l0 a b hg c (s + 1) (by omega)
    have h5 := right_len hg
    have hr := right_row hg s (by omega)
    have hb : b.length = a.length := by
      rw [rightB_eq] at hg
      simp only [Bool.and_eq_true, decide_eq_true_eq] at hg
      exact hg.1.2
    have h1 : 1 ≤ (rd_L2 a s).length := by
      rw [rightB_eq] at hg
      simp only [Bool.and_eq_true, decide_eq_true_eq, List.all_eq_true] at hg
      have := hg.2 (rd_L2 a s) (by rw [rdL2_nat, List.getD_eq_getElem?_getD, List.getElem?_eq_getElem (by omega : s < a.length), Option.getD_some]; exact List.getElem_mem _)
      unfold okRow at this
      simp only [Bool.and_eq_true, decide_eq_true_eq] at this
      exact this.1.1.2
    have hlen : (headOf a ++ rowsUp a b s).length ≤ 22 + s * 4001 := by
      have h1 := rowsUp_len a b (fun j hj => right_row hg j hj) s (by omega)
      have h2 := numOf_len a.length
      have h3 := numOf_len (rd_L2 a 0).length
      unfold headOf
      simp only [List.length_append, List.length_cons, List.length_nil]
      omega
    obtain ⟨y, hy⟩ : ∃ y : Int, (if b.getD s false = true then 1 else 0) = y := ⟨_, rfl⟩
    have key : Ev (fun k => scansionref14_Save.j1 k (headOf a ++ rowsUp a b s) s y a b) (saveOf a b, 0) := by
      have e : (headOf a ++ rowsUp a b s ++ [y]) ++ flatP (runsGo (rd_L2 a s) ((rd_L2 a s).length + 1 - 1) 0 1) = headOf a ++ rowsUp a b (s + 1) := by
        rw [rowsUp_succ, Nat.add_sub_cancel, runsOf_l1, ← hy]
        simp [rowBytes, flatP]
      have l2 := ev_save_l2 a b s (rd_L2 a s) (row_fit hg s (by omega)) hr (by omega) (r := (saveOf a b, 0)) ((rd_L2 a s).length - 1) (headOf a ++ rowsUp a b s ++ [y]) 0 1 (by omega) (by omega) (by rw [List.length_append, List.length_singleton]; omega) (by rw [e, wrap_succ (by omega)]; exact ih)
      refine Ev.succ (g := fun k => scansionref14_Save.l1 k (headOf a ++ rowsUp a b s ++ [y]) s (rd_L2 a s) 0 a b) (Ev.succ (g := fun k => scansionref14_Save.l2 k (headOf a ++ rowsUp a b s ++ [y]) s (rd_L2 a s) 0 0 a b) (Ev.succ l2 fun k => ?_) fun k => ?_) fun k => ?_
      · rw [scansionref14_Save.l2, if_pos (by omega), if_pos (by omega), if_pos (by omega), if_pos (by omega), if_pos rfl, w64 (by omega) (by omega)]; rfl
      · rw [scansionref14_Save.l1, if_pos (by omega)]
      · rw [scansionref14_Save.j1, if_pos (by omega), if_pos (by omega), if_pos (by omega)]
    refine Ev.succ key fun k => ?_
    rw [scansionref14_Save.l0, if_pos (by omega), if_pos (by omega), if_pos (by omega), ← hy]
    by_cases q : b.getD s false = true
    · rw [if_pos (by unfold rdOf; rw [Int.toNat_natCast]; exact q), if_pos q]
    · rw [if_neg (by unfold rdOf; rw [Int.toNat_natCast]; exact q), if_neg q]

theorem ev_save (a : List (List Int)) (b : List Bool) : Ev (fun k => scansionref14_Save.f k a b) (if rightB a b = true then (saveOf a b, 0) else ([], 1)) := by
  unfold scansionref14_Save.f
  refine Ev.bind (ev_right a b) ?_
  by_cases hg : rightB a b = true
  · have h5 := right_len hg
    have hr : (rd_L2 a 0).length ≤ 200 := by
      rcases Nat.eq_zero_or_pos a.length with h | h
      · rw [List.eq_nil_of_length_eq_zero h]; simp [rd_L2]
      · exact right_row hg 0 h
    have h0 : 0 < a.length := by
      rw [rightB_eq] at hg
      simp only [Bool.and_eq_true, decide_eq_true_eq] at hg
      exact hg.1.1.1
    have n1 := numOf_len a.length
    have n2 := numOf_len (rd_L2 a 0).length
    rw [if_pos hg]
    refine Ev.congr (g := fun k => (scansionref14_Number.f k (a.length : Int)).bind fun t146 => (if ([83, 68] : List Int).length + t146.length < 140737488355328 then ((some ([83, 68] ++ t146 : List Int)).bind fun y149 => (if 0 < (a.length : Int) then ((scansionref14_Number.f k ((rd_L2 a 0).length : Int)).bind fun t153 => (if y149.length + t153.length < 140737488355328 then (scansionref14_Save.l0 k (y149 ++ t153) 0 a b) else (none))) else (none))) else (none))) ?_ fun k => ?_
    · refine Ev.bind (ev_refNumber (by omega)) ?_
      refine Ev.congr (g := fun k => (scansionref14_Number.f k ((rd_L2 a 0).length : Int)).bind fun t153 => (if ([83, 68] ++ numOf a.length).length + t153.length < 140737488355328 then (scansionref14_Save.l0 k (([83, 68] ++ numOf a.length) ++ t153) 0 a b) else (none))) ?_ fun k => ?_
      · refine Ev.bind (ev_refNumber (by omega)) ?_
        refine Ev.congr (ev_save_l0 a b hg a.length 0 (by omega)) fun k => ?_
        rw [if_pos (by rw [List.length_append]; simp only [List.length_cons, List.length_nil]; omega)]
        simp [headOf, rowsUp]
      · rw [if_pos (by simp only [List.length_cons, List.length_nil]; omega), Option.bind_some, if_pos (by omega)]
    · rw [if_pos hg, Option.bind_some]
  · rw [if_neg hg]
    refine Ev.congr (Ev.some_ _) fun k => ?_
    rw [if_neg hg]
end Go.Proofs.Ytjcgbjkjkgkklaa.Pure
