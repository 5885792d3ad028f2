/- A number's bytes are told as the number, whatever stands behind them; greater numbers have no fewer bytes. · What the reference of chapter 12 says of states (few; right), and the reference of chapter 14 as bytes: the same as the program's. · What is saved is loaded as it was; what is loaded is saved as it stood: packed.Load and packed.Save as plain functions. · What is saved is loaded as it was; what is loaded is saved as it stood, and may be. -/
import Derived.Test.YtjcgbjkjkgkklaaLawN
import Derived.Test.YtjcgbjkjkgkklaaPrint6
import Derived.Test.YtjcgbjkjkgkklaaPrint8
import Derived.Test.YtjcgbjkjkgkklaaPrint9
import Derived.Test.YtjcgbjkjkgkklaaSave
import Derived.Test.YtjcgbjkjkgkklaaLoad
-- NEEDS scansionref12_Few scansionref12_Right scansionref14_Save
namespace Go.Proofs.Ytjcgbjkjkgkklaa.Pure
open Go.RowKit Go.Proofs.Ytjcgbjkjkgkklaa.Print Go.Proofs.YtjcgbjkjkgkklaaW.PrintWords Go.Proofs.YtjcgbjkjkgkklaaW.PrintLast
set_option linter.unusedVariables false
set_option linter.unusedSimpArgs false

theorem rd_mid (pre : List Int) (y : Int) (ys : List Int) : rd (pre ++ y :: ys) (pre.length : Int) = y := by
  unfold rd
  rw [Int.toNat_natCast, List.getD_eq_getElem?_getD, List.getElem?_append_right (Nat.le_refl _), Nat.sub_self]
  rfl

theorem told_num (l : List Int) : ∀ (f k : Nat) (pre : List Int) (x n wt : Int), 0 ≤ x → (1 ≤ pre.length → 1 ≤ x) → WT pre.length wt → n + x * wt ≤ 2147483647 → 0 ≤ n → f + pre.length = 6 → k + pre.length = 10 →
    toldGo (pre ++ (numGo k x ++ l)) f n wt pre.length = (n + x * wt, (pre.length : Int) + (numGo k x).length, 0)
  | 0, k, pre, x, n, wt, h0, h1, hw, h2, h3, hf, hk => by
    unfold WT at hw
    omega
  | f + 1, k, pre, x, n, wt, h0, h1, hw, h2, h3, hf, hk => by
    obtain ⟨k, rfl⟩ : ∃ m, k = m + 1 := ⟨k - 1, by omega⟩
    have hx : x ≤ 2147483647 ∧ pre.length ≤ 4 ∧ 0 < wt ∧ 0 ≤ x * wt := by
      unfold WT at hw
      rcases hw with ⟨e, rfl⟩ | ⟨e, rfl⟩ | ⟨e, rfl⟩ | ⟨e, rfl⟩ | ⟨e, rfl⟩ | ⟨e, rfl⟩ <;> omega
    have h5 : (pre.length : Int) < 5 := by omega
    rw [toldGo]
    by_cases q : x ≥ 128
    · have e : numGo (k + 1) x = (128 + x % 128) :: numGo k (x / 128) := by rw [numGo, if_pos q, or128 x h0 (by omega)]
      rw [e, List.cons_append, rd_mid, if_pos ⟨by rw [List.length_append, List.length_cons]; omega, h5⟩, if_neg (by omega)]
      have hb : pre ++ (128 + x % 128) :: (numGo k (x / 128) ++ l) = (pre ++ [128 + x % 128]) ++ (numGo k (x / 128) ++ l) := by simp
      have hl : (pre ++ [128 + x % 128]).length = pre.length + 1 := by simp
      have hd : (128 + x % 128) % 128 = x % 128 := by omega
      have hs : n + x % 128 * wt + x / 128 * (wt * 128) = n + x * wt ∧ 0 ≤ x % 128 * wt ∧ WT ((pre.length : Int) + 1) (wt * 128) := by
        unfold WT at hw ⊢
        rcases hw with ⟨e, rfl⟩ | ⟨e, rfl⟩ | ⟨e, rfl⟩ | ⟨e, rfl⟩ | ⟨e, rfl⟩ | ⟨e, rfl⟩ <;> omega
      have ih := told_num l f k (pre ++ [128 + x % 128]) (x / 128) (n + x % 128 * wt) (wt * 128) (by omega) (by omega) (by rw [hl]; exact hs.2.2) (by omega) (by omega) (by omega) (by omega)
      rw [hl] at ih
      rw [hd, hb, show (pre.length : Int) + 1 = ((pre.length + 1 : Nat) : Int) from by omega, ih, List.length_cons, hs.1]
      congr 2
      omega
    · have e : numGo (k + 1) x = [x] := by rw [numGo, if_neg q]; congr 1; omega
      rw [e, List.singleton_append, rd_mid, if_pos ⟨by rw [List.length_append, List.length_cons]; omega, h5⟩, if_pos (by omega), if_neg (by omega), if_neg (by rintro ⟨a, b⟩; have := h1 (by omega); omega)]
      rfl

theorem told_numOf (n : Int) (h0 : 0 ≤ n) (h1 : n ≤ 2147483647) (l : List Int) : toldOf (numOf n ++ l) = (n, ((numOf n).length : Int), 0) := by
  have h := told_num l 6 10 [] n 0 1 h0 (by simp) (by simp [WT]) (by omega) (by omega) rfl rfl
  have e : mx n 0 = n := by unfold mx; split <;> omega
  unfold toldOf numOf
  rw [e]
  simpa using h

theorem numGo_mono : ∀ (k : Nat) (x y : Int), x ≤ y → (numGo k x).length ≤ (numGo k y).length
  | 0, _, _, _ => Nat.le_refl _
  | k + 1, x, y, h => by
    unfold numGo
    split
    · rw [if_pos (by omega)]
      have := numGo_mono k (x / 128) (y / 128) (by omega)
      simpa using this
    · split <;> simp
theorem numOf_mono {n m : Int} (h : n ≤ m) : (numOf n).length ≤ (numOf m).length := numGo_mono _ _ _ (by unfold mx; split <;> split <;> omega)
end Go.Proofs.Ytjcgbjkjkgkklaa.Pure

namespace Go.Proofs.Ytjcgbjkjkgkklaa.Pure
open Go.RowKit Go.Proofs.Ytjcgbjkjkgkklaa.Print Go.Proofs.YtjcgbjkjkgkklaaW.PrintWords Go.Proofs.YtjcgbjkjkgkklaaW.PrintLast
set_option linter.unusedVariables false
set_option linter.unusedSimpArgs false

/-- With enough rounds it answers r. -/
def Ev {β : Type} (f : Nat → Option β) (r : β) : Prop := ∃ K, ∀ k, K ≤ k → f k = some r
theorem Ev.some_ {β : Type} (r : β) : Ev (fun _ => some r) r := ⟨0, fun _ _ => rfl⟩
theorem Ev.succ {β : Type} {f g : Nat → Option β} {r : β} (h : Ev g r) (e : ∀ k, f (k + 1) = g k) : Ev f r := by
  obtain ⟨K, h⟩ := h
  refine ⟨K + 1, fun k hk => ?_⟩
  obtain ⟨k, rfl⟩ : ∃ m, k = m + 1 := ⟨k - 1, by omega⟩
  rw [e]; exact h k (by omega)
theorem Ev.congr {β : Type} {f g : Nat → Option β} {r : β} (h : Ev g r) (e : ∀ k, f k = g k) : Ev f r := by
  obtain ⟨K, h⟩ := h
  exact ⟨K, fun k hk => (e k).trans (h k hk)⟩
theorem Ev.bind {α β : Type} {f : Nat → Option α} {g : Nat → α → Option β} {a : α} {r : β} (h : Ev f a) (h' : Ev (fun k => g k a) r) : Ev (fun k => (f k).bind fun t => g k t) r := by
  obtain ⟨K, h⟩ := h
  obtain ⟨K', h'⟩ := h'
  exact ⟨max K K', fun k hk => by show (f k).bind _ = _; rw [h k (by omega), Option.bind_some]; exact h' k (by omega)⟩
theorem ev_number {n : Int} (h : n < 9223372036854775808) : Ev (fun k => packed_Number.f k n) (numOf n) := ⟨12, fun k hk => number_kk n h k hk⟩
theorem ev_refNumber {n : Int} (h : n < 9223372036854775808) : Ev (fun k => scansionref14_Number.f k n) (numOf n) := ⟨12, fun k hk => refNumber_kk n h k hk⟩

theorem rdL2_nat (a : List (List Int)) (i : Nat) : rd_L2 a (i : Int) = a.getD i [] := by unfold rd_L2; rw [Int.toNat_natCast]
theorem wrap_succ {i : Nat} (h : i < 9223372036854775807) : wrap64 ((i : Int) + 1) = ((i + 1 : Nat) : Int) := by rw [w64 (by omega) (by omega)]; omega

/-! ### Few -/
def fewB (a : List (List Int)) (b : List Bool) (m : Int) : Bool := decide ((a.length : Int) ≤ m) && decide ((b.length : Int) ≤ m) && a.all (fun row => decide ((row.length : Int) ≤ m))
theorem ev_few_l0 (a : List (List Int)) (b : List Bool) (m : Int) (ha : a.length ≤ maxLen) : ∀ (n i : Nat), i + n = a.length → Ev (fun k => scansionref12_Few.l0 k m i a b) ((a.drop i).all (fun row => decide ((row.length : Int) ≤ m)))
  | 0, i, h => by
    rw [List.drop_eq_nil_of_le (by omega)]
    refine Ev.succ (Ev.some_ true) fun k => ?_
    rw [scansionref12_Few.l0, if_neg (by omega)]
  | n + 1, i, h => by
    have hl : i < a.length := by omega
    have hd : a.drop i = rd_L2 a i :: a.drop (i + 1) := by rw [rdL2_nat, List.getD_eq_getElem?_getD, List.getElem?_eq_getElem hl, Option.getD_some]; exact List.drop_eq_getElem_cons hl
    have ih := ev_few_l0 a b m ha n (i + 1) (by omega)
    rw [hd, List.all_cons]
    by_cases q : ((rd_L2 a i).length : Int) ≤ m
    · rw [decide_eq_true q, Bool.true_and]
      refine Ev.succ ih fun k => ?_
      rw [scansionref12_Few.l0, if_pos (by omega), if_pos (by omega), if_neg (by omega), wrap_succ (by unfold maxLen at ha; omega)]
    · rw [decide_eq_false q, Bool.false_and]
      refine Ev.succ (Ev.some_ false) fun k => ?_
      rw [scansionref12_Few.l0, if_pos (by omega), if_pos (by omega), if_pos (by omega)]
theorem ev_few (a : List (List Int)) (b : List Bool) (m : Int) (ha : a.length ≤ maxLen) : Ev (fun k => scansionref12_Few.f k a b m) (fewB a b m) := by
  unfold fewB
  by_cases q : (a.length : Int) ≤ m
  · by_cases q2 : (b.length : Int) ≤ m
    · rw [decide_eq_true q, decide_eq_true q2, Bool.true_and, Bool.true_and]
      refine Ev.succ (ev_few_l0 a b m ha a.length 0 (by omega)) fun k => ?_
      rw [scansionref12_Few.f, if_neg (by omega), decide_eq_false (by omega), scansionref12_Few.j0, if_neg (by decide)]
      rfl
    · rw [decide_eq_true q, decide_eq_false q2, Bool.and_false, Bool.false_and]
      refine Ev.succ (Ev.some_ false) fun k => ?_
      rw [scansionref12_Few.f, if_neg (by omega), decide_eq_true (by omega), scansionref12_Few.j0, if_pos rfl]
  · rw [decide_eq_false q, Bool.false_and, Bool.false_and]
    refine Ev.succ (Ev.some_ false) fun k => ?_
    rw [scansionref12_Few.f, if_pos (by omega), scansionref12_Few.j0, if_pos rfl]

/-! ### Right -/
theorem rd_nat (l : List Int) (i : Nat) (h : i < l.length) : l.drop i = rd l i :: l.drop (i + 1) := by
  unfold rd
  rw [Int.toNat_natCast, List.getD_eq_getElem?_getD, List.getElem?_eq_getElem h, Option.getD_some]
  exact List.drop_eq_getElem_cons h

/-- The row tells of nothing odd, so many classes. -/
def okRow (n m : Int) (row : List Int) : Bool := decide ((row.length : Int) = m) && decide (1 ≤ row.length) && decide (row.length ≤ 200) && !(row.any (odd n))

theorem ev_right_l1 (a : List (List Int)) (b : List Bool) (n : Int) (i : Nat) (hi : i < a.length) (ha : a.length ≤ maxLen) (hr : (rd_L2 a i).length ≤ 200) {r : Bool} (h : Ev (fun k => scansionref12_Right.l0 k n ((i + 1 : Nat) : Int) a b) r) :
    ∀ (c j : Nat), j + c = (rd_L2 a i).length → Ev (fun k => scansionref12_Right.l1 k n i j a b) (if ((rd_L2 a i).drop j).any (odd n) = true then false else r)
  | 0, j, hj => by
    rw [List.drop_eq_nil_of_le (by omega), if_neg (by simp)]
    refine Ev.succ h fun k => ?_
    rw [scansionref12_Right.l1, if_pos (by omega), if_pos (by omega), if_neg (by omega), wrap_succ (by unfold maxLen at ha; omega)]
  | c + 1, j, hj => by
    have ih := ev_right_l1 a b n i hi ha hr h c (j + 1) (by omega)
    rw [rd_nat _ j (by omega), List.any_cons]
    by_cases q : odd n (rd (rd_L2 a i) j) = true
    · rw [q, Bool.true_or, if_pos rfl]
      refine Ev.succ (Ev.some_ false) fun k => ?_
      rw [scansionref12_Right.l1, if_pos (by omega), if_pos (by omega), if_pos (by omega), if_pos (by omega)]
      unfold odd at q
      by_cases q1 : rd (rd_L2 a i) j < 0
      · rw [if_pos q1]
      · rw [if_neg q1, if_pos (by simp [q1] at q; omega)]
    · rw [Bool.eq_false_iff.2 q, Bool.false_or]
      refine Ev.succ ih fun k => ?_
      unfold odd at q
      simp at q
      rw [scansionref12_Right.l1, if_pos (by omega), if_pos (by omega), if_pos (by omega), if_pos (by omega), if_neg (by omega), if_neg (by omega), wrap_succ (by omega)]

theorem ev_right_l0 (a : List (List Int)) (b : List Bool) (ha : a.length ≤ maxLen) : ∀ (c i : Nat), i + c = a.length → Ev (fun k => scansionref12_Right.l0 k a.length i a b) ((a.drop i).all (okRow a.length (rd_L2 a 0).length))
  | 0, i, h => by
    rw [List.drop_eq_nil_of_le (by omega)]
    refine Ev.succ (Ev.some_ true) fun k => ?_
    rw [scansionref12_Right.l0, if_neg (by omega)]
  | c + 1, i, h => by
    have hl : i < a.length := by omega
    have hd : a.drop i = rd_L2 a i :: a.drop (i + 1) := by rw [rdL2_nat, List.getD_eq_getElem?_getD, List.getElem?_eq_getElem hl, Option.getD_some]; exact List.drop_eq_getElem_cons hl
    have ih := ev_right_l0 a b ha c (i + 1) (by omega)
    rw [hd, List.all_cons]
    by_cases q1 : ((rd_L2 a i).length : Int) = ((rd_L2 a 0).length : Int)
    · by_cases q2 : 1 ≤ (rd_L2 a i).length
      · by_cases q3 : (rd_L2 a i).length ≤ 200
        · have := ev_right_l1 a b a.length i hl ha q3 ih (rd_L2 a i).length 0 (by omega)
          have e : (okRow a.length (rd_L2 a 0).length (rd_L2 a i) && (a.drop (i + 1)).all (okRow a.length (rd_L2 a 0).length)) = (if ((rd_L2 a i).drop 0).any (odd a.length) = true then false else (a.drop (i + 1)).all (okRow a.length (rd_L2 a 0).length)) := by
            unfold okRow
            rw [decide_eq_true q1, decide_eq_true q2, decide_eq_true q3, List.drop_zero]
            cases (rd_L2 a i).any (odd a.length) <;> simp
          rw [e]
          refine Ev.succ (g := fun k => scansionref12_Right.j2 k a.length i false a b) (Ev.succ this fun k => ?_) fun k => ?_
          · rw [scansionref12_Right.j2, if_neg (by decide)]; rfl
          · rw [scansionref12_Right.l0, if_pos (by omega), if_pos (by omega), if_pos (by omega), if_pos (by omega), if_pos q1, if_neg (by omega), decide_eq_false (by omega)]
        · have e : okRow a.length (rd_L2 a 0).length (rd_L2 a i) = false := by unfold okRow; rw [decide_eq_false q3]; simp
          rw [e, Bool.false_and]
          refine Ev.succ (g := fun k => scansionref12_Right.j2 k a.length i true a b) (Ev.succ (Ev.some_ false) fun k => ?_) fun k => ?_
          · rw [scansionref12_Right.j2, if_pos rfl]
          · rw [scansionref12_Right.l0, if_pos (by omega), if_pos (by omega), if_pos (by omega), if_pos (by omega), if_pos q1, if_neg (by omega), decide_eq_true (by omega)]
      · have e : okRow a.length (rd_L2 a 0).length (rd_L2 a i) = false := by unfold okRow; rw [decide_eq_false q2]; simp
        rw [e, Bool.false_and]
        refine Ev.succ (g := fun k => scansionref12_Right.j2 k a.length i true a b) (Ev.succ (Ev.some_ false) fun k => ?_) fun k => ?_
        · rw [scansionref12_Right.j2, if_pos rfl]
        · rw [scansionref12_Right.l0, if_pos (by omega), if_pos (by omega), if_pos (by omega), if_pos (by omega), if_pos q1, if_pos (by omega)]
    · have e : okRow a.length (rd_L2 a 0).length (rd_L2 a i) = false := by unfold okRow; rw [decide_eq_false q1]; simp
      rw [e, Bool.false_and]
      refine Ev.succ (g := fun k => scansionref12_Right.j2 k a.length i true a b) (Ev.succ (Ev.some_ false) fun k => ?_) fun k => ?_
      · rw [scansionref12_Right.j2, if_pos rfl]
      · rw [scansionref12_Right.l0, if_pos (by omega), if_pos (by omega), if_pos (by omega), if_pos (by omega), if_neg q1]

theorem rightB_eq (a : List (List Int)) (b : List Bool) : rightB a b = (decide (1 ≤ a.length) && decide (a.length ≤ 5000) && decide (b.length = a.length) && a.all (okRow a.length (rd_L2 a 0).length)) := by
  unfold rightB
  by_cases q : 1 ≤ a.length
  · have hm : rd_L2 a 0 ∈ a := by
      have hl : 0 < a.length := q
      unfold rd_L2
      simp only [Int.toNat_zero, List.getD_eq_getElem?_getD, List.getElem?_eq_getElem hl, Option.getD_some]
      exact List.getElem_mem hl
    by_cases q1 : 1 ≤ (rd_L2 a 0).length
    · by_cases q2 : (rd_L2 a 0).length ≤ 200
      · rw [decide_eq_true q1, decide_eq_true q2]
        have : (!(a.any (badRow a.length (rd_L2 a 0).length))) = a.all (okRow a.length (rd_L2 a 0).length) := by
          rw [List.not_any_eq_all_not]
          apply congrArg (fun f => a.all f)
          funext row
          unfold badRow okRow
          by_cases h : (row.length : Int) = ((rd_L2 a 0).length : Int)
          · rw [h, decide_eq_true rfl, decide_eq_true (by omega), decide_eq_true (by omega)]; simp
          · rw [decide_eq_false h]; simp [h]
        rw [this]; simp
      · have e : a.all (okRow a.length (rd_L2 a 0).length) = false := by
          rw [List.all_eq_false]
          exact ⟨_, hm, by unfold okRow; rw [decide_eq_false q2]; simp⟩
        rw [e, decide_eq_false q2]; simp
    · have e : a.all (okRow a.length (rd_L2 a 0).length) = false := by
        rw [List.all_eq_false]
        exact ⟨_, hm, by unfold okRow; rw [decide_eq_false q1]; simp⟩
      rw [e, decide_eq_false q1]; simp
  · rw [decide_eq_false q]; simp

theorem ev_right (a : List (List Int)) (b : List Bool) : Ev (fun k => scansionref12_Right.f k a b) (rightB a b) := by
  rw [rightB_eq]
  by_cases q : 1 ≤ a.length
  · by_cases q2 : a.length ≤ 5000
    · by_cases q3 : b.length = a.length
      · have h := ev_right_l0 a b (by unfold maxLen; omega) a.length 0 (by omega)
        rw [decide_eq_true q, decide_eq_true q2, decide_eq_true q3, Bool.true_and, Bool.true_and, Bool.true_and]
        refine Ev.succ h fun k => ?_
        rw [scansionref12_Right.f, if_neg (by omega), if_neg (by omega), q3, bne_self_eq_false, scansionref12_Right.j0, if_neg (by decide)]
        rfl
      · rw [decide_eq_false q3, Bool.and_false, Bool.false_and]
        refine Ev.succ (Ev.some_ false) fun k => ?_
        rw [scansionref12_Right.f, if_neg (by omega), if_neg (by omega), bne_iff_ne.2 (by omega), scansionref12_Right.j0, if_pos rfl]
    · rw [decide_eq_false q2, Bool.and_false, Bool.false_and, Bool.false_and]
      refine Ev.succ (Ev.some_ false) fun k => ?_
      rw [scansionref12_Right.f, if_neg (by omega), if_pos (by omega), scansionref12_Right.j0, if_pos rfl]
  · rw [decide_eq_false q, Bool.false_and, Bool.false_and, Bool.false_and]
    refine Ev.succ (Ev.some_ false) fun k => ?_
    rw [scansionref12_Right.f, if_pos (by omega), scansionref12_Right.j0, if_pos rfl]

/-! ### Save -/
def flatP (xs : List (Int × Int)) : List Int := xs.flatMap fun p => numOf p.1 ++ numOf p.2

theorem ev_save_l2 (a : List (List Int)) (b : List Bool) (s : Nat) (row : List Int) (hrow : ∀ z ∈ row, z < 9223372036854775808) (hl : row.length ≤ 200) (hs : s ≤ 5000) {r : List Int × Int} :
    ∀ (c : Nat) (x5 : List Int) (fr i : Nat), i + c = row.length → fr < i → x5.length ≤ 23 + s * 4001 + 20 * fr → Ev (fun k => scansionref14_Save.l0 k (x5 ++ flatP (runsGo row (row.length + 1 - i) fr i)) (wrap64 ((s : Int) + 1)) a b) r →
      Ev (fun k => scansionref14_Save.l2 k x5 s row fr i a b) r
  | 0, x5, fr, i, hi, hf, hx, h => by
    have e : runsGo row (row.length + 1 - i) fr i = [((i : Int) - fr, rd row fr)] := by
      rw [show row.length + 1 - i = 1 from by omega, runsGo, if_pos (by omega), if_neg (by omega)]; rfl
    rw [e] at h
    have l1 := numOf_len ((i : Int) - fr)
    have l2 := numOf_len (rd row fr)
    have hw : wrap64 ((i : Int) - fr) = (i : Int) - fr := w64 (by omega) (by omega)
    refine Ev.succ (g := fun k => (scansionref14_Number.f k ((i : Int) - fr)).bind fun t179 => (if x5.length + t179.length < 140737488355328 then ((some (x5 ++ t179 : List Int)).bind fun y182 => (if (0 : Int) ≤ (fr : Int) then (if (fr : Int) < (row.length : Int) then ((scansionref14_Number.f k (rd row fr)).bind fun t186 => (if y182.length + t186.length < 140737488355328 then (scansionref14_Save.l1 k (y182 ++ t186) s row i a b) else (none))) else (none)) else (none))) else (none))) ?_ fun k => ?_
    · refine Ev.bind (ev_refNumber (by omega)) ?_
      refine Ev.congr (g := fun k => (scansionref14_Number.f k (rd row fr)).bind fun t186 => (if (x5 ++ numOf ((i : Int) - fr)).length + t186.length < 140737488355328 then (scansionref14_Save.l1 k ((x5 ++ numOf ((i : Int) - fr)) ++ t186) s row i a b) else none)) ?_ fun k => ?_
      · refine Ev.bind (ev_refNumber (rd_lt hrow _)) ?_
        refine Ev.congr (g := fun k => scansionref14_Save.l1 k ((x5 ++ numOf ((i : Int) - fr)) ++ numOf (rd row fr)) s row i a b) ?_ fun k => ?_
        · refine Ev.succ h fun k => ?_
          rw [scansionref14_Save.l1, if_neg (by omega)]
          simp [flatP]
        · rw [if_pos (by rw [List.length_append]; omega)]
      · rw [if_pos (by omega), Option.bind_some, if_pos (by omega), if_pos (by omega)]
    · rw [scansionref14_Save.l2, if_neg (by omega), hw]
  | c + 1, x5, fr, i, hi, hf, hx, h => by
    obtain ⟨K, hK⟩ : ∃ K, row.length + 1 - i = K + 1 := ⟨row.length - i, by omega⟩
    have hK2 : row.length + 1 - (i + 1) = K := by omega
    rw [hK, runsGo, if_pos (by omega)] at h
    by_cases q : rd row i = rd row fr
    · rw [if_pos ⟨by omega, q⟩] at h
      refine Ev.succ (ev_save_l2 a b s row hrow hl hs c x5 fr (i + 1) (by omega) (by omega) hx (by rw [hK2]; exact h)) fun k => ?_
      rw [scansionref14_Save.l2, if_pos (by omega), if_pos (by omega), if_pos (by omega), if_pos (by omega), if_pos q, wrap_succ (by omega)]
    · rw [if_neg (by rintro ⟨_, q'⟩; exact q q')] at h
      have l1 := numOf_len ((i : Int) - fr)
      have l2 := numOf_len (rd row fr)
      have hw : wrap64 ((i : Int) - fr) = (i : Int) - fr := w64 (by omega) (by omega)
      refine Ev.succ (g := fun k => (scansionref14_Number.f k ((i : Int) - fr)).bind fun t166 => (if x5.length + t166.length < 140737488355328 then ((some (x5 ++ t166 : List Int)).bind fun y169 => ((scansionref14_Number.f k (rd row fr)).bind fun t173 => (if y169.length + t173.length < 140737488355328 then (scansionref14_Save.l1 k (y169 ++ t173) s row i a b) else (none)))) else (none))) ?_ fun k => ?_
      · refine Ev.bind (ev_refNumber (by omega)) ?_
        refine Ev.congr (g := fun k => (scansionref14_Number.f k (rd row fr)).bind fun t186 => (if (x5 ++ numOf ((i : Int) - fr)).length + t186.length < 140737488355328 then (scansionref14_Save.l1 k ((x5 ++ numOf ((i : Int) - fr)) ++ t186) s row i a b) else none)) ?_ fun k => ?_
        · refine Ev.bind (ev_refNumber (rd_lt hrow _)) ?_
          refine Ev.congr (g := fun k => scansionref14_Save.l1 k ((x5 ++ numOf ((i : Int) - fr)) ++ numOf (rd row fr)) s row i a b) ?_ fun k => ?_
          · have := ev_save_l2 a b s row hrow hl hs c ((x5 ++ numOf ((i : Int) - fr)) ++ numOf (rd row fr)) i (i + 1) (by omega) (by omega) (by rw [List.length_append, List.length_append]; omega) (r := r) (by rw [hK2]; simpa [flatP] using h)
            refine Ev.succ (g := fun k => scansionref14_Save.l2 k ((x5 ++ numOf ((i : Int) - fr)) ++ numOf (rd row fr)) s row i i a b) (Ev.succ this fun k => ?_) fun k => ?_
            · rw [scansionref14_Save.l2, if_pos (by omega), if_pos (by omega), if_pos (by omega), if_pos (by omega), if_pos rfl, wrap_succ (by omega)]
            · rw [scansionref14_Save.l1, if_pos (by omega)]
          · rw [if_pos (by rw [List.length_append]; omega)]
        · rw [if_pos (by omega), Option.bind_some]
      · rw [scansionref14_Save.l2, if_pos (by omega), if_pos (by omega), if_pos (by omega), if_pos (by omega), if_neg q, hw]
theorem runsOf_l1 (row : List Int) : runsGo row row.length 0 1 = runsOf row := rfl

theorem ev_save_l0 (a : List (List Int)) (b : List Bool) (hg : rightB a b = true) : ∀ (c s : Nat), s + c = a.length → Ev (fun k => scansionref14_Save.l0 k (headOf a ++ rowsUp a b s) s a b) (saveOf a b, 0)
  | 0, s, h => by
    have e : headOf a ++ rowsUp a b s = saveOf a b := by rw [show s = a.length from by omega]; simp [headOf, saveOf]
    rw [e]
    refine Ev.succ (Ev.some_ _) fun k => ?_
    rw [scansionref14_Save.l0, if_neg (by omega)]
  | c + 1, s, h => by
    have ih := ev_save_l0 a b hg c (s + 1) (by omega)
    have h5 := right_len hg
    have hr := right_row hg s (by omega)
    have hb : b.length = a.length := by
      rw [rightB_eq] at hg
      simp only [Bool.and_eq_true, decide_eq_true_eq] at hg
      exact hg.1.2
    have h1 : 1 ≤ (rd_L2 a s).length := by
      rw [rightB_eq] at hg
      simp only [Bool.and_eq_true, decide_eq_true_eq, List.all_eq_true] at hg
      have := hg.2 (rd_L2 a s) (by rw [rdL2_nat, List.getD_eq_getElem?_getD, List.getElem?_eq_getElem (by omega : s < a.length), Option.getD_some]; exact List.getElem_mem _)
      unfold okRow at this
      simp only [Bool.and_eq_true, decide_eq_true_eq] at this
      exact this.1.1.2
    have hlen : (headOf a ++ rowsUp a b s).length ≤ 22 + s * 4001 := by
      have h1 := rowsUp_len a b (fun j hj => right_row hg j hj) s (by omega)
      have h2 := numOf_len a.length
      have h3 := numOf_len (rd_L2 a 0).length
      unfold headOf
      simp only [List.length_append, List.length_cons, List.length_nil]
      omega
    obtain ⟨y, hy⟩ : ∃ y : Int, (if b.getD s false = true then 1 else 0) = y := ⟨_, rfl⟩
    have key : Ev (fun k => scansionref14_Save.j1 k (headOf a ++ rowsUp a b s) s y a b) (saveOf a b, 0) := by
      have e : (headOf a ++ rowsUp a b s ++ [y]) ++ flatP (runsGo (rd_L2 a s) ((rd_L2 a s).length + 1 - 1) 0 1) = headOf a ++ rowsUp a b (s + 1) := by
        rw [rowsUp_succ, Nat.add_sub_cancel, runsOf_l1, ← hy]
        simp [rowBytes, flatP]
      have l2 := ev_save_l2 a b s (rd_L2 a s) (row_fit hg s (by omega)) hr (by omega) (r := (saveOf a b, 0)) ((rd_L2 a s).length - 1) (headOf a ++ rowsUp a b s ++ [y]) 0 1 (by omega) (by omega) (by rw [List.length_append, List.length_singleton]; omega) (by rw [e, wrap_succ (by omega)]; exact ih)
      refine Ev.succ (g := fun k => scansionref14_Save.l1 k (headOf a ++ rowsUp a b s ++ [y]) s (rd_L2 a s) 0 a b) (Ev.succ (g := fun k => scansionref14_Save.l2 k (headOf a ++ rowsUp a b s ++ [y]) s (rd_L2 a s) 0 0 a b) (Ev.succ l2 fun k => ?_) fun k => ?_) fun k => ?_
      · rw [scansionref14_Save.l2, if_pos (by omega), if_pos (by omega), if_pos (by omega), if_pos (by omega), if_pos rfl, w64 (by omega) (by omega)]; rfl
      · rw [scansionref14_Save.l1, if_pos (by omega)]
      · rw [scansionref14_Save.j1, if_pos (by omega), if_pos (by omega), if_pos (by omega)]
    refine Ev.succ key fun k => ?_
    rw [scansionref14_Save.l0, if_pos (by omega), if_pos (by omega), if_pos (by omega), ← hy]
    by_cases q : b.getD s false = true
    · rw [if_pos (by unfold rdOf; rw [Int.toNat_natCast]; exact q), if_pos q]
    · rw [if_neg (by unfold rdOf; rw [Int.toNat_natCast]; exact q), if_neg q]

theorem ev_save (a : List (List Int)) (b : List Bool) : Ev (fun k => scansionref14_Save.f k a b) (if rightB a b = true then (saveOf a b, 0) else ([], 1)) := by
  unfold scansionref14_Save.f
  refine Ev.bind (ev_right a b) ?_
  by_cases hg : rightB a b = true
  · have h5 := right_len hg
    have hr : (rd_L2 a 0).length ≤ 200 := by
      rcases Nat.eq_zero_or_pos a.length with h | h
      · rw [List.eq_nil_of_length_eq_zero h]; simp [rd_L2]
      · exact right_row hg 0 h
    have h0 : 0 < a.length := by
      rw [rightB_eq] at hg
      simp only [Bool.and_eq_true, decide_eq_true_eq] at hg
      exact hg.1.1.1
    have n1 := numOf_len a.length
    have n2 := numOf_len (rd_L2 a 0).length
    rw [if_pos hg]
    refine Ev.congr (g := fun k => (scansionref14_Number.f k (a.length : Int)).bind fun t146 => (if ([83, 68] : List Int).length + t146.length < 140737488355328 then ((some ([83, 68] ++ t146 : List Int)).bind fun y149 => (if 0 < (a.length : Int) then ((scansionref14_Number.f k ((rd_L2 a 0).length : Int)).bind fun t153 => (if y149.length + t153.length < 140737488355328 then (scansionref14_Save.l0 k (y149 ++ t153) 0 a b) else (none))) else (none))) else (none))) ?_ fun k => ?_
    · refine Ev.bind (ev_refNumber (by omega)) ?_
      refine Ev.congr (g := fun k => (scansionref14_Number.f k ((rd_L2 a 0).length : Int)).bind fun t153 => (if ([83, 68] ++ numOf a.length).length + t153.length < 140737488355328 then (scansionref14_Save.l0 k (([83, 68] ++ numOf a.length) ++ t153) 0 a b) else (none))) ?_ fun k => ?_
      · refine Ev.bind (ev_refNumber (by omega)) ?_
        refine Ev.congr (ev_save_l0 a b hg a.length 0 (by omega)) fun k => ?_
        rw [if_pos (by rw [List.length_append]; simp only [List.length_cons, List.length_nil]; omega)]
        simp [headOf, rowsUp]
      · rw [if_pos (by simp only [List.length_cons, List.length_nil]; omega), Option.bind_some, if_pos (by omega)]
    · rw [if_pos hg, Option.bind_some]
  · rw [if_neg hg]
    refine Ev.congr (Ev.some_ _) fun k => ?_
    rw [if_neg hg]
end Go.Proofs.Ytjcgbjkjkgkklaa.Pure

namespace Go.Proofs.Ytjcgbjkjkgkklaa.Pure
open Go.RowKit Go.Proofs.Ytjcgbjkjkgkklaa.Print Go.Proofs.YtjcgbjkjkgkklaaW.PrintWords Go.Proofs.YtjcgbjkjkgkklaaW.PrintLast
set_option linter.unusedVariables false
set_option linter.unusedSimpArgs false

/-! ### Runs -/
def rle : List Int → List (Int × Int)
  | [] => []
  | x :: xs => match rle xs with
    | [] => [(1, x)]
    | (k, y) :: r => if x = y then (k + 1, y) :: r else (1, x) :: (k, y) :: r
def expand (P : List (Int × Int)) : List Int := P.flatMap fun p => List.replicate p.1.toNat p.2
/-- Each run has one class at least; two that stand side by side lead to two states. -/
def Good : List (Int × Int) → Prop
  | [] => True
  | p :: P => 1 ≤ p.1 ∧ (∀ q, P.head? = some q → q.2 ≠ p.2) ∧ Good P

theorem rle_cons (x : Int) (xs : List Int) : ∃ k r, 1 ≤ k ∧ rle (x :: xs) = (k, x) :: r := by
  rw [rle]
  cases h : rle xs with
  | nil => exact ⟨1, [], by omega, rfl⟩
  | cons p r =>
    obtain ⟨k, y⟩ := p
    have hk : 1 ≤ k := by
      cases xs with
      | nil => simp [rle] at h
      | cons z zs =>
        obtain ⟨k', r', h1, h2⟩ := rle_cons z zs
        rw [h2] at h
        injection h with h _
        injection h with h _
        omega
    dsimp only
    by_cases q : x = y
    · rw [if_pos q, q]; exact ⟨k + 1, r, by omega, rfl⟩
    · rw [if_neg q]; exact ⟨1, _, by omega, rfl⟩
theorem rle_nil_iff {xs : List Int} (h : rle xs = []) : xs = [] := by
  cases xs with
  | nil => rfl
  | cons x xs => obtain ⟨k, r, _, e⟩ := rle_cons x xs; rw [e] at h; cases h

theorem rle_spec : ∀ xs : List Int, expand (rle xs) = xs ∧ Good (rle xs)
  | [] => ⟨rfl, trivial⟩
  | x :: xs => by
    obtain ⟨h1, h2⟩ := rle_spec xs
    rw [rle]
    cases h : rle xs with
    | nil =>
      rw [h] at h1
      have : xs = [] := rle_nil_iff h
      subst this
      exact ⟨by simp [expand], by omega, fun q hq => by simp at hq, trivial⟩
    | cons p r =>
      obtain ⟨k, y⟩ := p
      rw [h] at h1 h2
      have hk : 1 ≤ k := h2.1
      dsimp only
      by_cases q : x = y
      · rw [if_pos q]
        refine ⟨?_, by show 1 ≤ k + 1; omega, h2.2.1, h2.2.2⟩
        subst q
        rw [← h1]
        simp only [expand, List.flatMap_cons]
        rw [show (k + 1).toNat = k.toNat + 1 from by omega, List.replicate_succ, List.cons_append]
      · rw [if_neg q]
        refine ⟨?_, by show (1 : Int) ≤ 1; omega, fun p hp => ?_, h2⟩
        · rw [← h1]
          simp [expand]
        · simp at hp
          subst hp
          exact fun e => q e.symm

theorem rle_replicate (x : Int) (ys : List Int) (hy : ∀ y, ys.head? = some y → y ≠ x) : ∀ c : Nat, rle (List.replicate (c + 1) x ++ ys) = (((c + 1 : Nat) : Int), x) :: rle ys
  | 0 => by
    rw [show List.replicate (0 + 1) x ++ ys = x :: ys from rfl, rle]
    cases ys with
    | nil => rfl
    | cons y ys =>
      obtain ⟨k, r, _, e⟩ := rle_cons y ys
      rw [e]
      dsimp only
      rw [if_neg (fun e => hy y rfl e.symm)]
      rfl
  | c + 1 => by
    rw [List.replicate_succ, List.cons_append, rle, rle_replicate x ys hy c]
    dsimp only
    rw [if_pos rfl]
    congr 2

theorem rle_expand : ∀ P : List (Int × Int), Good P → rle (expand P) = P
  | [], _ => rfl
  | p :: P, h => by
    obtain ⟨c, hc⟩ : ∃ c : Nat, p.1 = ((c + 1 : Nat) : Int) := ⟨(p.1 - 1).toNat, by have := h.1; omega⟩
    have ih := rle_expand P h.2.2
    have e : expand (p :: P) = List.replicate (c + 1) p.2 ++ expand P := by
      simp only [expand, List.flatMap_cons]
      rw [hc, Int.toNat_natCast]
    rw [e, rle_replicate p.2 (expand P) (fun y hy => ?_) c, ih, ← hc]
    cases P with
    | nil => simp [expand] at hy
    | cons q P =>
      have h1 := h.2.2.1
      have h2 := h.2.1 q rfl
      obtain ⟨d, hd⟩ : ∃ d : Nat, q.1.toNat = d + 1 := ⟨q.1.toNat - 1, by omega⟩
      simp only [expand, List.flatMap_cons] at hy
      rw [hd, List.replicate_succ, List.cons_append] at hy
      simp at hy
      rw [← hy]; exact h2

theorem runsGo_rle (R : List Int) : ∀ (c fr i : Nat), i + c = R.length → fr < i → R.drop fr = List.replicate (i - fr) (rd R fr) ++ R.drop i → runsGo R (R.length + 1 - i) fr i = rle (R.drop fr)
  | 0, fr, i, hi, hf, h => by
    rw [show R.length + 1 - i = 1 from by omega, runsGo, if_pos (by omega), if_neg (by omega), h, List.drop_eq_nil_of_le (i := i) (by omega)]
    obtain ⟨d, hd⟩ : ∃ d : Nat, i - fr = d + 1 := ⟨i - fr - 1, by omega⟩
    rw [hd, rle_replicate _ _ (fun y hy => by simp at hy) d, rle, runsGo]
    congr 2
    omega
  | c + 1, fr, i, hi, hf, h => by
    obtain ⟨K, hK⟩ : ∃ K, R.length + 1 - i = K + 1 := ⟨R.length - i, by omega⟩
    rw [hK, runsGo, if_pos (by omega)]
    by_cases q : rd R i = rd R fr
    · rw [if_pos ⟨by omega, q⟩]
      have := runsGo_rle R c fr (i + 1) (by omega) (by omega) (by
        rw [h, rd_nat R i (by omega), q, show i + 1 - fr = (i - fr) + 1 from by omega, List.replicate_succ', List.append_assoc]; rfl)
      rwa [show R.length + 1 - (i + 1) = K from by omega] at this
    · rw [if_neg (fun e => q e.2), h]
      obtain ⟨d, hd⟩ : ∃ d : Nat, i - fr = d + 1 := ⟨i - fr - 1, by omega⟩
      have hd1 := rd_nat R i (by omega)
      rw [hd, rle_replicate _ _ (fun y hy => by rw [hd1] at hy; simp at hy; rw [← hy]; exact q) d]
      have ih := runsGo_rle R c i (i + 1) (by omega) (by omega) (by rw [hd1, show i + 1 - i = 1 from by omega]; rfl)
      rw [show R.length + 1 - (i + 1) = K from by omega] at ih
      rw [ih]
      congr 2
      omega
theorem runs_rle (R : List Int) : runsOf R = rle R := by
  cases R with
  | nil => rfl
  | cons x xs =>
    have := runsGo_rle (x :: xs) xs.length 0 1 (by simp; omega) (by omega) rfl
    simpa [runsOf] using this

/-! ### Numbers that are told -/
theorem drop_rd (b : List Int) (i : Int) (h0 : 0 ≤ i) (h1 : i < b.length) : b.drop i.toNat = rd b i :: b.drop (i.toNat + 1) := by
  have := rd_nat b i.toNat (by omega)
  rwa [show ((i.toNat : Nat) : Int) = i from by omega] at this

theorem toldGo_inv (b : List Int) (hb : ∀ i : Int, 0 ≤ i → i < b.length → 0 ≤ rd b i ∧ rd b i ≤ 255) : ∀ (f k : Nat) (n wt i : Int), 0 ≤ i → WT i wt → 0 ≤ n → (k : Int) + i = 10 → (toldGo b f n wt i).2.2 = 0 →
    ∃ x d, 0 ≤ x ∧ (1 ≤ i → 1 ≤ x) ∧ (toldGo b f n wt i).1 = n + x * wt ∧ (toldGo b f n wt i).1 ≤ 2147483647 ∧ b.drop i.toNat = numGo k x ++ d ∧ (toldGo b f n wt i).2.1 = i + (numGo k x).length
  | 0, k, n, wt, i, hi, hw, hn, hk, h => by simp [toldGo] at h
  | f + 1, k, n, wt, i, hi, hw, hn, hk, h => by
    rw [toldGo] at h ⊢
    by_cases c1 : i < b.length ∧ i < 5
    · rw [if_pos c1] at h ⊢
      obtain ⟨k, rfl⟩ : ∃ m, k = m + 1 := ⟨k - 1, by omega⟩
      have hbi := hb i hi c1.1
      have hdr := drop_rd b i hi c1.1
      have hw2 : WT (i + 1) (wt * 128) := by unfold WT at hw ⊢; omega
      have hwp : 0 < wt := by unfold WT at hw; omega
      by_cases c2 : rd b i < 128
      · rw [if_pos c2] at h ⊢
        by_cases c3 : n + rd b i * wt > 2147483647
        · rw [if_pos c3] at h; simp at h
        · rw [if_neg c3] at h ⊢
          by_cases c4 : i > 0 ∧ rd b i = 0
          · rw [if_pos c4] at h; simp at h
          · rw [if_neg c4]
            have e : numGo (k + 1) (rd b i) = [rd b i] := by rw [numGo, if_neg (by omega)]; congr 1; omega
            refine ⟨rd b i, b.drop (i.toNat + 1), hbi.1, fun h1 => by omega, rfl, by show n + rd b i * wt ≤ _; omega, by rw [e, hdr]; rfl, by rw [e]; rfl⟩
      · rw [if_neg c2] at h ⊢
        have hmod : 0 ≤ rd b i % 128 * wt := Int.mul_nonneg (by omega) (by omega)
        obtain ⟨x, d, h0, h1, h2, h3, h4, h5⟩ := toldGo_inv b hb f k _ _ (i + 1) (by omega) hw2 (by omega) (by omega) h
        have hx1 := h1 (by omega)
        have hxle : x ≤ 2147483647 := by
          have hm : x * 1 ≤ x * (wt * 128) := Int.mul_le_mul_of_nonneg_left (by omega) h0
          omega
        have e : numGo (k + 1) (rd b i % 128 + 128 * x) = rd b i :: numGo k x := by
          rw [numGo, if_pos (by omega), or128 _ (by omega) (by omega)]
          congr 1
          · omega
          · congr 1; omega
        refine ⟨rd b i % 128 + 128 * x, d, by omega, fun _ => by omega, ?_, h3, ?_, ?_⟩
        · rw [h2, Int.add_mul, show 128 * x * wt = x * (wt * 128) from by rw [Int.mul_comm 128 x, Int.mul_assoc, Int.mul_comm 128 wt]]; omega
        · rw [e, hdr, show (i + 1).toNat = i.toNat + 1 from by omega] at *
          rw [h4]; rfl
        · rw [e, h5, List.length_cons]; omega
    · rw [if_neg c1] at h; simp at h

theorem told_inv (b : List Int) (hb : ∀ x ∈ b, 0 ≤ x ∧ x ≤ 255) (h : (toldOf b).2.2 = 0) : 0 ≤ (toldOf b).1 ∧ (toldOf b).1 ≤ 2147483647 ∧ b = numOf (toldOf b).1 ++ b.drop (toldOf b).2.1.toNat := by
  obtain ⟨x, d, h0, _, h2, h3, h4, h5⟩ := toldGo_inv b (rd_byte hb) 6 10 0 1 0 (by omega) (by simp [WT]) (by omega) (by omega) h
  have e1 : (toldOf b).1 = x := by show (toldGo b 6 0 1 0).1 = x; rw [h2]; omega
  have e2 : (toldOf b).2.1 = ((numGo 10 x).length : Int) := by show (toldGo b 6 0 1 0).2.1 = _; rw [h5]; omega
  have e3 : b = numGo 10 x ++ d := by simpa using h4
  have e4 : numOf x = numGo 10 x := by unfold numOf; rw [show mx x 0 = x from by unfold mx; split <;> omega]
  have h3' : x ≤ 2147483647 := by rw [← e1]; exact h3
  rw [e1, e2, e4, Int.toNat_natCast]
  refine ⟨h0, h3', ?_⟩
  conv => rhs; rw [e3]
  rw [List.drop_left]
  exact e3

/-! ### The reader -/
theorem rn_of {n c : Int} (h0 : 0 ≤ n) (h1 : n < c) (h2 : n ≤ 2147483647) (l : List Int) : rnF c (numOf n ++ l) false = false ∧ rnV c (numOf n ++ l) false = n ∧ rnM c (numOf n ++ l) false = l := by
  have ht := told_numOf n h0 h2 l
  have hF : rnF c (numOf n ++ l) false = false := by unfold rnF; rw [ht]; simp; omega
  refine ⟨hF, ?_, ?_⟩
  · unfold rnV; rw [hF, ht]; simp
  · unfold rnM; rw [hF, ht]; simp
theorem rn_inv {c : Int} {m : List Int} {fl : Bool} (hb : ∀ x ∈ m, 0 ≤ x ∧ x ≤ 255) (h : rnF c m fl = false) : fl = false ∧ 0 ≤ rnV c m fl ∧ rnV c m fl < c ∧ rnV c m fl ≤ 2147483647 ∧ m = numOf (rnV c m fl) ++ rnM c m fl := by
  have h' := h
  unfold rnF at h
  simp only [Bool.or_eq_false_iff, decide_eq_false_iff_not, bne_eq_false_iff_eq] at h
  obtain ⟨i0, i1, i2⟩ := told_inv m hb h.1.2
  unfold rnV rnM
  rw [h', if_neg (by decide), if_neg (by decide)]
  exact ⟨h.1.1, i0, by omega, i1, i2⟩
end Go.Proofs.Ytjcgbjkjkgkklaa.Pure

namespace Go.Proofs.Ytjcgbjkjkgkklaa.Pure
open Go.RowKit Go.Proofs.Ytjcgbjkjkgkklaa.Print Go.Proofs.YtjcgbjkjkgkklaaW.PrintWords Go.Proofs.YtjcgbjkjkgkklaaW.PrintLast
set_option linter.unusedVariables false
set_option linter.unusedSimpArgs false

theorem flatP_cons (p : Int × Int) (P : List (Int × Int)) (l : List Int) : flatP (p :: P) ++ l = numOf p.1 ++ (numOf p.2 ++ (flatP P ++ l)) := by simp [flatP]
theorem expand_cons (p : Int × Int) (P : List (Int × Int)) : expand (p :: P) = List.replicate p.1.toNat p.2 ++ expand P := by simp [expand]
theorem rd_last (row : List Int) (c : Nat) (x : Int) (h : 0 < c) : rd (row ++ List.replicate c x) (((row ++ List.replicate c x).length : Int) - 1) = x := by
  obtain ⟨d, rfl⟩ : ∃ d, c = d + 1 := ⟨c - 1, by omega⟩
  unfold rd
  rw [List.replicate_succ', ← List.append_assoc, List.length_append, List.length_singleton, show (((row ++ List.replicate d x).length + 1 : Nat) : Int) - 1 = ((row ++ List.replicate d x).length : Int) from by omega, Int.toNat_natCast,
    List.getD_eq_getElem?_getD, List.getElem?_append_right (Nat.le_refl _), Nat.sub_self]
  rfl

/-- A row that was saved is read as it was. -/
theorem rowGo_of (n cls : Int) (hn : n ≤ 2147483647) (hc : cls ≤ 2147483646) (rest : List Int) : ∀ (P : List (Int × Int)) (K : Nat) (row : List Int), Good P → (∀ p ∈ P, 0 ≤ p.2 ∧ p.2 < n) → (0 < row.length → ∀ p, P.head? = some p → rd row ((row.length : Int) - 1) ≠ p.2) →
    ((row.length : Int) + (expand P).length = cls) → P.length + 1 ≤ K → rowGo n cls K row (flatP P ++ rest) false = (row ++ expand P, rest, false, false)
  | [], K, row, _, _, _, hl, hK => by
    obtain ⟨K, rfl⟩ : ∃ k, K = k + 1 := ⟨K - 1, by simp at hK; omega⟩
    simp [expand] at hl
    rw [rowGo, if_neg (by omega)]
    simp [flatP, expand]
  | p :: P, K, row, hg, hr, hd, hl, hK => by
    obtain ⟨K, rfl⟩ : ∃ k, K = k + 1 := ⟨K - 1, by simp at hK; omega⟩
    have h1 := hg.1
    have h2 := hr p (List.mem_cons_self ..)
    rw [expand_cons, List.length_append, List.length_replicate] at hl
    have hlt : (row.length : Int) < cls := by omega
    obtain ⟨a1, a2, a3⟩ := rn_of (n := p.1) (c := cls - row.length + 1) (by omega) (by omega) (by omega) (numOf p.2 ++ (flatP P ++ rest))
    obtain ⟨b1, b2, b3⟩ := rn_of (n := p.2) (c := n) (by omega) (by omega) (by omega) (flatP P ++ rest)
    rw [flatP_cons, rowGo, if_pos hlt]
    simp only [a1, a2, a3, b1, b2, b3]
    rw [if_neg (by
      rintro (h | h | h)
      · cases h
      · omega
      · exact hd h.1 p rfl h.2)]
    have ih := rowGo_of n cls hn hc rest P K (row ++ List.replicate p.1.toNat p.2) hg.2.2 (fun q hq => hr q (List.mem_cons_of_mem _ hq))
      (fun _ q hq => by rw [rd_last _ _ _ (by omega)]; exact fun e => hg.2.1 q hq e.symm) (by rw [List.length_append, List.length_replicate]; omega) (by simp at hK; omega)
    rw [ih, expand_cons, List.append_assoc]

/-- A row that is read stood there as it is saved. -/
theorem rowGo_inv (n cls : Int) : ∀ (K : Nat) (row m : List Int) (fl : Bool) (row' m' : List Int), (∀ x ∈ m, 0 ≤ x ∧ x ≤ 255) → (row.length : Int) ≤ cls → cls - row.length < K → rowGo n cls K row m fl = (row', m', false, false) →
    fl = false ∧ (row'.length : Int) = cls ∧ (∀ x ∈ m', x ∈ m) ∧ ∃ P, Good P ∧ (∀ p ∈ P, 0 ≤ p.2 ∧ p.2 < n) ∧ (0 < row.length → ∀ p, P.head? = some p → rd row ((row.length : Int) - 1) ≠ p.2) ∧ row' = row ++ expand P ∧ m = flatP P ++ m'
  | 0, row, m, fl, row', m', hb, hle, hK, h => by omega
  | K + 1, row, m, fl, row', m', hb, hle, hK, h => by
    rw [rowGo] at h
    by_cases c : (row.length : Int) < cls
    · rw [if_pos c] at h
      dsimp only at h
      split at h
      · rename_i hq
        injection h with _ h
        injection h with _ h
        injection h with h _
        cases h
      · rename_i hq
        simp only [not_or] at hq
        obtain ⟨q1, q2, q3⟩ := hq
        have hb1 : ∀ x ∈ rnM (cls - row.length + 1) m fl, 0 ≤ x ∧ x ≤ 255 := fun x hx => hb x (rnM_sub _ _ _ hx)
        obtain ⟨e1, e2, e3, e4, e5⟩ := rn_inv hb1 (Bool.eq_false_iff.2 q1)
        obtain ⟨d1, d2, d3, d4, d5⟩ := rn_inv hb e1
        obtain ⟨v, hv⟩ : ∃ v, rnV (cls - row.length + 1) m fl = v := ⟨_, rfl⟩
        obtain ⟨m1, hm1⟩ : ∃ v, rnM (cls - row.length + 1) m fl = v := ⟨_, rfl⟩
        obtain ⟨f1, hf1⟩ : ∃ v, rnF (cls - row.length + 1) m fl = v := ⟨_, rfl⟩
        simp only [hv, hm1, hf1] at *
        obtain ⟨s, hs⟩ : ∃ v, rnV n m1 f1 = v := ⟨_, rfl⟩
        obtain ⟨m2, hm2⟩ : ∃ v, rnM n m1 f1 = v := ⟨_, rfl⟩
        obtain ⟨f2, hf2⟩ : ∃ v, rnF n m1 f1 = v := ⟨_, rfl⟩
        simp only [hs, hm2, hf2] at *
        have hb2 : ∀ x ∈ m2, 0 ≤ x ∧ x ≤ 255 := fun x hx => hb1 x (by rw [e5]; exact List.mem_append.2 (.inr hx))
        obtain ⟨i1, i2, i3, P, i4, i5, i6, i7, i8⟩ := rowGo_inv n cls K (row ++ List.replicate v.toNat s) m2 f2 row' m' hb2 (by rw [List.length_append, List.length_replicate]; omega) (by rw [List.length_append, List.length_replicate]; omega) h
        refine ⟨d1, i2, fun x hx => ?_, (v, s) :: P, ⟨by show 1 ≤ v; omega, fun q hq => ?_, i4⟩, ?_, ?_, ?_, ?_⟩
        · rw [d5, e5]; exact List.mem_append.2 (.inr (List.mem_append.2 (.inr (i3 x hx))))
        · have := i6 (by rw [List.length_append, List.length_replicate]; omega) q hq
          rw [rd_last _ _ _ (by omega)] at this
          exact fun e => this e.symm
        · intro p hp
          rcases List.mem_cons.1 hp with rfl | hp
          · exact ⟨e2, e3⟩
          · exact i5 p hp
        · intro h0 p hp
          simp at hp
          subst hp
          exact fun e => q3 ⟨h0, e⟩
        · rw [i7, expand_cons, List.append_assoc]
        · rw [d5, e5, i8]; simp [flatP]
    · rw [if_neg c] at h
      injection h with h1 h
      injection h with h2 h
      injection h with h3 _
      subst h1 h2 h3
      exact ⟨rfl, by omega, fun x hx => hx, [], trivial, (fun p hp => by cases hp), (fun _ p hp => by simp at hp), (by simp [expand]), (by simp [flatP])⟩

theorem rowGo_sub (n cls : Int) : ∀ (K : Nat) (row m : List Int) (fl : Bool) {x : Int}, x ∈ (rowGo n cls K row m fl).2.1 → x ∈ m
  | 0, row, m, fl, x, h => h
  | K + 1, row, m, fl, x, h => by
    rw [rowGo] at h
    split at h
    · dsimp only at h
      split at h
      · exact rnM_sub _ _ _ (rnM_sub _ _ _ h)
      · exact rnM_sub _ _ _ (rnM_sub _ _ _ (rowGo_sub n cls K _ _ _ h))
    · exact h

/-! ### The states -/
def bytesUp (n : Int) : List Bool → List (List Int) → List Int
  | f :: fs, r :: rs => rowBytes f r ++ bytesUp n fs rs
  | _, _ => []

theorem rowBytes_cons (f : Bool) (row : List Int) (l : List Int) : rowBytes f row ++ l = (if f = true then 1 else 0) :: (flatP (rle row) ++ l) := by unfold rowBytes flatP; rw [runs_rle]; rfl

theorem loadGo_of (n cls : Int) (hn : n ≤ 2147483647) (hc : cls ≤ 200) : ∀ (rs : List (List Int)) (fs : List Bool) (a : List (List Int)) (b : List Bool), rs.length = fs.length → (∀ r ∈ rs, (r.length : Int) = cls ∧ ∀ x ∈ r, 0 ≤ x ∧ x < n) →
    loadGo n cls rs.length a b (bytesUp n fs rs) false = (a ++ rs, b ++ fs, [], false)
  | [], [], a, b, _, _ => by simp [loadGo, bytesUp]
  | r :: rs, f :: fs, a, b, hl, hr => by
    have h1 := hr r (List.mem_cons_self ..)
    obtain ⟨g1, g2⟩ := rle_spec r
    have hP : ∀ p ∈ rle r, 0 ≤ p.2 ∧ p.2 < n := fun p hp => by
      have hp1 : 1 ≤ p.1 := by
        have : ∀ P : List (Int × Int), Good P → ∀ p ∈ P, 1 ≤ p.1 := by
          intro P
          induction P with
          | nil => intro _ p hp; cases hp
          | cons q P ih => intro hg p hp; rcases List.mem_cons.1 hp with rfl | hp; exact hg.1; exact ih hg.2.2 p hp
        exact this _ g2 p hp
      refine h1.2 p.2 ?_
      rw [← g1]
      exact List.mem_flatMap.2 ⟨p, hp, List.mem_replicate.2 ⟨by omega, rfl⟩⟩
    have hlen : (rle r).length ≤ r.length := by rw [← runs_rle]; exact runs_len r
    have hrow := rowGo_of n cls hn (by omega) (bytesUp n fs rs) (rle r) 201 [] g2 hP (fun h => absurd h (by simp)) (by rw [g1]; simp; omega) (by omega)
    rw [g1, List.nil_append] at hrow
    have hd : bytesUp n (f :: fs) (r :: rs) = (if f = true then 1 else 0) :: (flatP (rle r) ++ bytesUp n fs rs) := by rw [bytesUp, rowBytes_cons]
    rw [List.length_cons, loadGo, hd]
    simp only [List.drop_succ_cons, List.drop_zero, List.isEmpty_cons, Bool.or_false, hrow]
    rw [if_neg (by decide)]
    have hf : (rd ((if f = true then (1 : Int) else 0) :: (flatP (rle r) ++ bytesUp n fs rs)) 0 == 1) = f := by cases f <;> rfl
    have hf2 : (false || decide (1 < rd ((if f = true then (1 : Int) else 0) :: (flatP (rle r) ++ bytesUp n fs rs)) 0)) = false := by cases f <;> rfl
    rw [hf, hf2, loadGo_of n cls hn hc rs fs (a ++ [r]) (b ++ [f]) (by simpa using hl) (fun q hq => hr q (List.mem_cons_of_mem _ hq))]
    simp

theorem loadGo_inv (n cls : Int) (hc : 0 ≤ cls ∧ cls ≤ 200) : ∀ (k : Nat) (a : List (List Int)) (b : List Bool) (m : List Int) (fl : Bool) (a' : List (List Int)) (b' : List Bool) (m' : List Int), (∀ x ∈ m, 0 ≤ x ∧ x ≤ 255) → loadGo n cls k a b m fl = (a', b', m', false) →
    fl = false ∧ ∃ rs fs, rs.length = k ∧ fs.length = k ∧ a' = a ++ rs ∧ b' = b ++ fs ∧ (∀ r ∈ rs, (r.length : Int) = cls ∧ ∀ x ∈ r, 0 ≤ x ∧ x < n) ∧ m = bytesUp n fs rs ++ m'
  | 0, a, b, m, fl, a', b', m', hb, h => by
    rw [loadGo] at h
    injection h with h1 h
    injection h with h2 h
    injection h with h3 h4
    subst h1 h2 h3 h4
    exact ⟨rfl, [], [], rfl, rfl, by simp, by simp, fun r hr => (by cases hr), by simp [bytesUp]⟩
  | k + 1, a, b, m, fl, a', b', m', hb, h => by
    rw [loadGo] at h
    obtain ⟨row, m1, f1, st, hr⟩ : ∃ row m1 f1 st, rowGo n cls 201 [] (m.drop 1) (fl || m.isEmpty) = (row, m1, f1, st) := ⟨_, _, _, _, rfl⟩
    rw [hr] at h
    cases st with
    | true =>
      rw [if_pos rfl] at h
      injection h with _ h
      injection h with _ h
      injection h with _ h
      cases h
    | false =>
      rw [if_neg (by simp)] at h
      have hbd : ∀ x ∈ m.drop 1, 0 ≤ x ∧ x ≤ 255 := fun x hx => hb x (List.mem_of_mem_drop hx)
      have hm1 : ∀ x ∈ m1, 0 ≤ x ∧ x ≤ 255 := by
        -- what is left of a row is a part of what was there
        exact fun x hx => hbd x (rowGo_sub n cls 201 [] (m.drop 1) (fl || m.isEmpty) (by rw [hr]; exact hx))
      obtain ⟨e1, rs, fs, e2, e3, e4, e5, e6, e7⟩ := loadGo_inv n cls hc k _ _ m1 _ a' b' m' hm1 h
      simp only [Bool.or_eq_false_iff, decide_eq_false_iff_not] at e1
      obtain ⟨e1, e8⟩ := e1
      subst e1
      obtain ⟨i1, i2, i3, P, i4, i5, i6, i7, i8⟩ := rowGo_inv n cls 201 [] (m.drop 1) _ row m1 hbd (by simp; omega) (by simp; omega) hr
      simp only [Bool.or_eq_false_iff] at i1
      cases m with
      | nil => simp at i1
      | cons y ys =>
        have hy := hb y (List.mem_cons_self ..)
        have hy1 : rd (y :: ys) 0 = y := rfl
        rw [hy1] at e8 e5
        refine ⟨i1.1, row :: rs, (y == 1) :: fs, by simp [e2], by simp [e3], by rw [e4]; simp, by rw [e5]; simp, ?_, ?_⟩
        · intro r hrr
          rcases List.mem_cons.1 hrr with rfl | hrr
          · refine ⟨i2, fun x hx => ?_⟩
            rw [i7] at hx
            rw [List.nil_append] at hx
            obtain ⟨p, hp, hxp⟩ := List.mem_flatMap.1 (show x ∈ P.flatMap (fun p => List.replicate p.1.toNat p.2) from hx)
            rw [(List.mem_replicate.1 hxp).2]
            exact i5 p hp
          · exact e6 r hrr
        · rw [bytesUp, List.append_assoc, rowBytes_cons]
          have : rle row = P := by rw [i7, List.nil_append]; exact rle_expand P i4
          rw [this, ← e7, ← i8]
          simp only [List.drop_succ_cons, List.drop_zero]
          congr 1
          by_cases q : y = 1
          · rw [q]; rfl
          · rw [if_neg (by simp [q])]; omega
theorem rowsUp_bytes (n : Int) : ∀ (rs : List (List Int)) (fs : List Bool), rs.length = fs.length → rowsUp rs fs rs.length = bytesUp n fs rs
  | [], [], _ => rfl
  | r :: rs, f :: fs, h => by
    have ih := rowsUp_bytes n rs fs (by simpa using h)
    rw [bytesUp, ← ih]
    unfold rowsUp
    rw [List.length_cons, List.range_succ_eq_map, List.flatMap_cons, List.flatMap_map]
    rfl

theorem rightB_iff (a : List (List Int)) (b : List Bool) : rightB a b = true ↔ 1 ≤ a.length ∧ a.length ≤ 5000 ∧ b.length = a.length ∧ 1 ≤ (rd_L2 a 0).length ∧ (rd_L2 a 0).length ≤ 200 ∧ ∀ r ∈ a, (r.length : Int) = (rd_L2 a 0).length ∧ ∀ x ∈ r, 0 ≤ x ∧ x < a.length := by
  unfold rightB
  simp only [Bool.and_eq_true, decide_eq_true_eq, Bool.not_eq_true', List.any_eq_false, badRow, Bool.or_eq_true, not_or, bne_iff_ne, ne_eq, Decidable.not_not, List.any_eq_true, odd, not_exists, not_and]
  constructor
  · rintro ⟨⟨⟨⟨⟨h1, h2⟩, h3⟩, h4⟩, h5⟩, h6⟩
    exact ⟨h1, h2, h3, h4, h5, fun r hr => ⟨(h6 r hr).1, fun x hx => by have := (h6 r hr).2 x hx; omega⟩⟩
  · rintro ⟨h1, h2, h3, h4, h5, h6⟩
    exact ⟨⟨⟨⟨⟨h1, h2⟩, h3⟩, h4⟩, h5⟩, fun r hr => ⟨(h6 r hr).1, fun x hx => by have := (h6 r hr).2 x hx; omega⟩⟩

/-- What is saved is loaded as it was. -/
theorem load_save (a : List (List Int)) (b : List Bool) (h : rightB a b = true) : loadOf (saveOf a b) = (a, b, 0) := by
  obtain ⟨h1, h2, h3, h4, h5, h6⟩ := (rightB_iff a b).1 h
  have hs : saveOf a b = 83 :: 68 :: (numOf a.length ++ (numOf (rd_L2 a 0).length ++ bytesUp a.length b a)) := by
    unfold saveOf
    rw [rowsUp_bytes a.length a b h3.symm]
    simp
  obtain ⟨a1, a2, a3⟩ := rn_of (n := (a.length : Int)) (c := 5001) (by omega) (by omega) (by omega) (numOf (rd_L2 a 0).length ++ bytesUp a.length b a)
  obtain ⟨b1, b2, b3⟩ := rn_of (n := ((rd_L2 a 0).length : Int)) (c := 201) (by omega) (by omega) (by omega) (bytesUp a.length b a)
  have hl := loadGo_of a.length (rd_L2 a 0).length (by omega) (by omega) a b [] [] h3.symm h6
  unfold loadOf
  rw [if_pos (by rw [hs]; exact ⟨by simp, rfl, rfl⟩), hs]
  simp only [List.drop_succ_cons, List.drop_zero, a1, a2, a3, b1, b2, b3, Int.toNat_natCast, hl, List.nil_append]
  rw [if_neg (by rw [h]; simp)]

/-- What is loaded is saved as it stood, and may be. -/
theorem load_inv (l : List Int) (hb : ∀ x ∈ l, 0 ≤ x ∧ x ≤ 255) : loadOf l = ([], [], 2) ∨ ∃ a b, loadOf l = (a, b, 0) ∧ rightB a b = true ∧ saveOf a b = l := by
  unfold loadOf
  by_cases hp : 2 ≤ l.length ∧ rd l 0 = 83 ∧ rd l 1 = 68
  · rw [if_pos hp]
    dsimp only
    match l, hp, hb with
    | x :: y :: m0, hp, hb =>
      have hx : x = 83 := hp.2.1
      have hy : y = 68 := hp.2.2
      subst hx hy
      simp only [List.drop_succ_cons, List.drop_zero]
      have hb0 : ∀ x ∈ m0, 0 ≤ x ∧ x ≤ 255 := fun x hx => hb x (by simp [hx])
      obtain ⟨n, hn⟩ : ∃ v, rnV 5001 m0 false = v := ⟨_, rfl⟩
      obtain ⟨m1, hm1⟩ : ∃ v, rnM 5001 m0 false = v := ⟨_, rfl⟩
      obtain ⟨f1, hf1⟩ : ∃ v, rnF 5001 m0 false = v := ⟨_, rfl⟩
      have hb1 : ∀ x ∈ m1, 0 ≤ x ∧ x ≤ 255 := fun x hx => hb0 x (rnM_sub _ _ _ (by rw [hm1]; exact hx))
      obtain ⟨cls, hcls⟩ : ∃ v, rnV 201 m1 f1 = v := ⟨_, rfl⟩
      obtain ⟨m2, hm2⟩ : ∃ v, rnM 201 m1 f1 = v := ⟨_, rfl⟩
      obtain ⟨f2, hf2⟩ : ∃ v, rnF 201 m1 f1 = v := ⟨_, rfl⟩
      have hb2 : ∀ x ∈ m2, 0 ≤ x ∧ x ≤ 255 := fun x hx => hb1 x (rnM_sub _ _ _ (by rw [hm2]; exact hx))
      simp only [hn, hm1, hf1, hcls, hm2, hf2]
      have hcr := rnV_range (c := 201) (fl := f1) hb1 (by omega)
      rw [hcls] at hcr
      obtain ⟨a, b, m, fl, hr⟩ : ∃ a b m fl, loadGo n cls n.toNat [] [] m2 f2 = (a, b, m, fl) := ⟨_, _, _, _, rfl⟩
      rw [hr]
      by_cases hq : fl = true ∨ 0 < m.length ∨ rightB a b = false
      · rw [if_pos hq]; exact .inl rfl
      · rw [if_neg hq]
        simp only [not_or, Bool.not_eq_true, Bool.not_eq_false] at hq
        obtain ⟨q1, q2, q3⟩ := hq
        subst q1
        obtain rfl : m = [] := List.eq_nil_of_length_eq_zero (by omega)
        obtain ⟨e1, rs, fs, e2, e3, e4, e5, e6, e7⟩ := loadGo_inv n cls (by omega) n.toNat [] [] m2 f2 a b [] hb2 hr
        subst e1
        obtain ⟨g1, g2, g3, g4, g5⟩ := rn_inv hb1 hf2
        subst g1
        obtain ⟨k1, k2, k3, k4, k5⟩ := rn_inv hb0 hf1
        rw [hcls, hm2] at g5
        rw [hn, hm1] at k5
        rw [hn] at k2
        simp only [List.nil_append] at e4 e5
        subst e4 e5
        rw [List.append_nil] at e7
        refine .inr ⟨a, b, rfl, q3, ?_⟩
        have hal : (a.length : Int) = n := by omega
        have h0 : ((rd_L2 a 0).length : Int) = cls := by
          have h1 := ((rightB_iff a b).1 q3).1
          refine (e6 (rd_L2 a 0) ?_).1
          have hl : 0 < a.length := h1
          unfold rd_L2
          simp only [Int.toNat_zero, List.getD_eq_getElem?_getD, List.getElem?_eq_getElem hl, Option.getD_some]
          exact List.getElem_mem hl
        unfold saveOf
        rw [rowsUp_bytes n a b (by omega), hal, h0, ← e7, List.append_assoc, ← g5, List.append_assoc, ← k5]
        rfl
  · rw [if_neg hp]; exact .inl rfl

theorem saveOf_byte (a : List (List Int)) (b : List Bool) (h : rightB a b = true) : ∀ x ∈ saveOf a b, 0 ≤ x ∧ x ≤ 255 := by
  have numOf_byte : ∀ (n : Int), n < 9223372036854775808 → ∀ b ∈ numOf n, 0 ≤ b ∧ b ≤ 255 := by
    have go : ∀ (k : Nat) (x : Int), 0 ≤ x → x < 9223372036854775808 → ∀ b ∈ numGo k x, 0 ≤ b ∧ b ≤ 255 := by
      intro k
      induction k with
      | zero => intro x _ _ b hb; cases hb
      | succ k ih =>
        intro x h0 h1 b hb
        unfold numGo at hb
        split at hb
        · rcases List.mem_cons.1 hb with rfl | hb
          · omega
          · exact ih (x / 128) (by omega) (by omega) b hb
        · rcases List.mem_cons.1 hb with rfl | hb
          · omega
          · cases hb
    exact fun n hn => go 10 (mx n 0) (by unfold mx; split <;> omega) (by unfold mx; split <;> omega)
  obtain ⟨h1, h2, h3, h4, h5, h6⟩ := (rightB_iff a b).1 h
  intro x hx
  unfold saveOf at hx
  simp only [List.mem_append] at hx
  rcases hx with ((hx | hx) | hx) | hx
  · simp at hx; omega
  · exact numOf_byte _ (by omega) x hx
  · exact numOf_byte _ (by omega) x hx
  · unfold rowsUp at hx
    obtain ⟨j, hj, hx⟩ := List.mem_flatMap.1 hx
    have hjl : j < a.length := List.mem_range.1 hj
    have hm : rd_L2 a j ∈ a := by rw [rdL2_nat, List.getD_eq_getElem?_getD, List.getElem?_eq_getElem hjl, Option.getD_some]; exact List.getElem_mem hjl
    have hrow := h6 _ hm
    unfold rowBytes at hx
    rcases List.mem_cons.1 hx with rfl | hx
    · split <;> omega
    · obtain ⟨p, hp, hx⟩ := List.mem_flatMap.1 hx
      have := runs_fit (fun z hz => by have := hrow.2 z hz; omega) (by omega) p hp
      rcases List.mem_append.1 hx with hx | hx
      · exact numOf_byte _ this.1 x hx
      · exact numOf_byte _ this.2 x hx
end Go.Proofs.Ytjcgbjkjkgkklaa.Pure
