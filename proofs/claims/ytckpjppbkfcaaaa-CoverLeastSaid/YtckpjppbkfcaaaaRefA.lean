/- The reference of chapter 19 as plain functions: may a run be; what a piece costs; all clusters alone. -/
import Derived.Test.YtckpjppbkfcaaaaPrint14
import Derived.Test.YtckpjppbkfcaaaaPrint15
import Derived.Test.YtckpjppbkfcaaaaPrint16
import Derived.Test.YtckpjppbkfcaaaaPrint18
import Derived.Test.YtckpjppbkfcaaaaStub
-- NEEDS scansionref19_Right scansionref19_piece scansionref19_singles scansionref01_SameInts
namespace Go.Proofs.Ytckpjppbkfcaaaa.Pure
open Go.RowKit Go.Proofs.Ytckpjppbkfcaaaa.Print Go.Proofs.YtckpjppbkfcaaaaW.PrintWords Go.Proofs.YtckpjppbkfcaaaaW.PrintLast
set_option linter.unusedVariables false
set_option linter.unusedSimpArgs false

/-- With enough rounds it answers r. -/
def Ev {β : Type} (f : Nat → Option β) (r : β) : Prop := ∃ K, ∀ k, K ≤ k → f k = some r
theorem Ev.some_ {β : Type} (r : β) : Ev (fun _ => some r) r := ⟨0, fun _ _ => rfl⟩
theorem Ev.succ {β : Type} {f g : Nat → Option β} {r : β} (h : Ev g r) (e : ∀ k, f (k + 1) = g k) : Ev f r := by
  obtain ⟨K, h⟩ := h
  refine ⟨K + 1, fun k hk => ?_⟩
  obtain ⟨k, rfl⟩ : ∃ m, k = m + 1 := ⟨k - 1, by omega⟩
  rw [e]; exact h k (by omega)
theorem Ev.congr {β : Type} {f g : Nat → Option β} {r : β} (h : Ev g r) (e : ∀ k, f k = g k) : Ev f r := by
  obtain ⟨K, h⟩ := h
  exact ⟨K, fun k hk => (e k).trans (h k hk)⟩
theorem Ev.bind {α β : Type} {f : Nat → Option α} {g : Nat → α → Option β} {a : α} {r : β} (h : Ev f a) (h' : Ev (fun k => g k a) r) : Ev (fun k => (f k).bind fun t => g k t) r := by
  obtain ⟨K, h⟩ := h
  obtain ⟨K', h'⟩ := h'
  exact ⟨max K K', fun k hk => by show (f k).bind _ = _; rw [h k (by omega), Option.bind_some]; exact h' k (by omega)⟩
theorem Ev.unique {β : Type} {f : Nat → Option β} {r r' : β} (h : Ev f r) (h' : Ev f r') : r = r' := by
  obtain ⟨K, h⟩ := h
  obtain ⟨K', h'⟩ := h'
  have a := h (max K K') (by omega)
  rw [h' (max K K') (by omega)] at a
  exact (Option.some.inj a).symm
theorem rd36_nat (l : List S36) (i : Nat) (h : i < l.length) : rd_T36 l (i : Int) = l[i] := by
  unfold rd_T36
  rw [Int.toNat_natCast, List.getD_eq_getElem?_getD, List.getElem?_eq_getElem h]; rfl
theorem drop36 {l : List S36} {i : Nat} (h : i < l.length) : l.drop i = rd_T36 l (i : Int) :: l.drop (i + 1) := by rw [List.drop_eq_getElem_cons h, rd36_nat l i h]

/-! ### Right -/
theorem ev_right_l0 (n : Int) (l : List S36) (hl : l.length ≤ 100000) : ∀ (c i : Nat), i + c = l.length → Ev (fun k => scansionref19_Right.l0 k n l (i : Int)) ((l.drop i).all (wordOk n))
  | 0, i, h => by
    obtain rfl : i = l.length := by omega
    rw [List.drop_length]
    refine (Ev.some_ true).succ fun k => ?_
    rw [scansionref19_Right.l0, if_neg (by omega)]
  | c + 1, i, h => by
    have ih := ev_right_l0 n l hl c (i + 1) (by omega)
    have hi : i < l.length := by omega
    rw [drop36 hi, List.all_cons]
    obtain ⟨x, hx⟩ : ∃ x, rd_T36 l (i : Int) = x := ⟨_, rfl⟩
    cases q : wordOk n x with
    | true =>
      have q2 := q
      unfold wordOk inN at q2
      simp only [Bool.and_eq_true, decide_eq_true_eq] at q2
      obtain ⟨q0, q1, q3, q4, q5⟩ := q2
      rw [hx, q, Bool.true_and]
      refine ih.succ fun k => ?_
      rw [scansionref19_Right.l0, hx, if_pos (by omega), if_pos (by omega), if_neg (by omega), if_neg (by omega), if_neg (by omega), if_neg (by omega), if_neg (by omega), wrap_succ (by omega)]
    | false =>
      rw [hx, q, Bool.false_and]
      refine (Ev.some_ false).succ fun k => ?_
      rw [scansionref19_Right.l0, hx, if_pos (by omega), if_pos (by omega)]
      by_cases q0 : x.f0 < 0
      · rw [if_pos q0]
      rw [if_neg q0]
      by_cases q1 : x.f1 > n
      · rw [if_pos q1]
      rw [if_neg q1]
      by_cases q2 : x.f0 ≥ x.f1
      · rw [if_pos q2]
      rw [if_neg q2]
      by_cases q3 : x.f2 < 0
      · rw [if_pos q3]
      rw [if_neg q3]
      by_cases q4 : x.f2 > 1048576
      · rw [if_pos q4]
      · exfalso
        have : wordOk n x = true := by
          unfold wordOk inN
          simp only [Bool.and_eq_true, decide_eq_true_eq]
          omega
        rw [q] at this; cases this
theorem ev_right (n p mo : Int) (l : List S36) : Ev (fun k => scansionref19_Right.f k n l p mo) (okRun n p mo l) := by
  have jt : Ev (fun k => scansionref19_Right.j0 k n l true) false := (Ev.some_ false).succ fun k => by rw [scansionref19_Right.j0, if_pos rfl]
  unfold okRun limOk inN
  by_cases q0 : n < 0
  · rw [decide_eq_false (show ¬ (0 ≤ n ∧ n ≤ 5000) by omega)]
    exact jt.congr fun k => by rw [scansionref19_Right.f, if_pos q0]
  by_cases q1 : n > 5000
  · rw [decide_eq_false (show ¬ (0 ≤ n ∧ n ≤ 5000) by omega)]
    exact jt.congr fun k => by rw [scansionref19_Right.f, if_neg q0, if_pos q1]
  rw [decide_eq_true (show (0 ≤ n ∧ n ≤ 5000) by omega), Bool.true_and]
  by_cases q2 : p < 0
  · rw [decide_eq_false (show ¬ (0 ≤ p ∧ p ≤ 1048576) by omega)]
    exact jt.congr fun k => by rw [scansionref19_Right.f, if_neg q0, if_neg q1, if_pos q2]
  by_cases q3 : p > 1048576
  · rw [decide_eq_false (show ¬ (0 ≤ p ∧ p ≤ 1048576) by omega)]
    exact jt.congr fun k => by rw [scansionref19_Right.f, if_neg q0, if_neg q1, if_neg q2, if_pos q3]
  rw [decide_eq_true (show (0 ≤ p ∧ p ≤ 1048576) by omega), Bool.true_and]
  by_cases q4 : mo < 0
  · rw [decide_eq_false (show ¬ (0 ≤ mo ∧ mo ≤ 1099511627776) by omega)]
    exact jt.congr fun k => by rw [scansionref19_Right.f, if_neg q0, if_neg q1, if_neg q2, if_neg q3, if_pos q4]
  by_cases q5 : mo > 1099511627776
  · rw [decide_eq_false (show ¬ (0 ≤ mo ∧ mo ≤ 1099511627776) by omega)]
    exact jt.congr fun k => by rw [scansionref19_Right.f, if_neg q0, if_neg q1, if_neg q2, if_neg q3, if_neg q4, if_pos q5]
  rw [decide_eq_true (show (0 ≤ mo ∧ mo ≤ 1099511627776) by omega), Bool.true_and]
  have e : ∀ k, scansionref19_Right.f k n l p mo = scansionref19_Right.j0 k n l (decide ((l.length : Int) > 100000)) := fun k => by rw [scansionref19_Right.f, if_neg q0, if_neg q1, if_neg q2, if_neg q3, if_neg q4, if_neg q5]
  by_cases q6 : l.length ≤ 100000
  · rw [decide_eq_true q6, Bool.true_and]
    have h := ev_right_l0 n l q6 l.length 0 (by omega)
    rw [List.drop_zero] at h
    have h2 : Ev (fun k => scansionref19_Right.j0 k n l (decide ((l.length : Int) > 100000))) (l.all (wordOk n)) := by
      rw [decide_eq_false (show ¬ ((l.length : Int) > 100000) by omega)]
      refine h.succ fun k => ?_
      rw [scansionref19_Right.j0, if_neg (by simp)]
      rfl
    exact h2.congr e
  · rw [decide_eq_false q6, Bool.false_and]
    have h2 : Ev (fun k => scansionref19_Right.j0 k n l (decide ((l.length : Int) > 100000))) false := by
      rw [decide_eq_true (show ((l.length : Int) > 100000) by omega)]
      exact jt
    exact h2.congr e

/-! ### piece -/
/-- The least cost of the words from i to j, beginning with acc; -1: none. -/
def mwF (i j : Int) : List S36 → Int → Int
  | [], acc => acc
  | x :: l, acc => mwF i j l (if x.f0 = i ∧ x.f1 = j ∧ (acc < 0 ∨ x.f2 < acc) then x.f2 else acc)
def refPiece (l : List S36) (p i j : Int) : Int := if mwF i j l (-1) < 0 ∧ j = i + 1 then p else mwF i j l (-1)
theorem ev_piece_l0 (l : List S36) (p i j : Int) (hl : l.length ≤ 100000) (hi : 0 ≤ i ∧ i ≤ 5000) : ∀ (c t : Nat) (acc : Int), t + c = l.length → Ev (fun k => scansionref19_piece.l0 k l p i j acc (t : Int)) (if mwF i j (l.drop t) acc < 0 ∧ j = i + 1 then p else mwF i j (l.drop t) acc)
  | 0, t, acc, h => by
    obtain rfl : t = l.length := by omega
    rw [List.drop_length, mwF]
    have hw : wrap64 (i + 1) = i + 1 := by unfold wrap64; omega
    by_cases q : acc < 0
    · by_cases e : j = i + 1
      · rw [if_pos ⟨q, e⟩]
        refine (Ev.some_ _).succ fun k => ?_
        rw [scansionref19_piece.l0, if_neg (by omega), if_pos q, hw, if_pos e]
      · rw [if_neg (fun h => e h.2)]
        refine (Ev.some_ _).succ fun k => ?_
        rw [scansionref19_piece.l0, if_neg (by omega), if_pos q, hw, if_neg e]
    · rw [if_neg (fun h => q h.1)]
      refine (Ev.some_ _).succ fun k => ?_
      rw [scansionref19_piece.l0, if_neg (by omega), if_neg q]
  | c + 1, t, acc, h => by
    have ht : t < l.length := by omega
    obtain ⟨x, hx⟩ : ∃ x, rd_T36 l (t : Int) = x := ⟨_, rfl⟩
    rw [drop36 ht, hx, mwF]
    refine (ev_piece_l0 l p i j hl hi c (t + 1) _ (by omega)).succ fun k => ?_
    rw [scansionref19_piece.l0, hx, if_pos (by omega), if_pos (by omega), wrap_succ (by omega)]
    by_cases q0 : x.f0 = i
    · rw [if_pos q0]
      by_cases q1 : x.f1 = j
      · rw [if_pos q1]
        by_cases q2 : acc < 0
        · rw [if_pos q2, if_pos ⟨q0, q1, .inl q2⟩]
        · rw [if_neg q2]
          by_cases q3 : x.f2 < acc
          · rw [if_pos q3, if_pos ⟨q0, q1, .inr q3⟩]
          · rw [if_neg q3, if_neg (fun h => h.2.2.elim q2 q3)]
      · rw [if_neg q1, if_neg (fun h => q1 h.2.1)]
    · rw [if_neg q0, if_neg (fun h => q0 h.1)]
theorem ev_piece (l : List S36) (p i j : Int) (hl : l.length ≤ 100000) (hi : 0 ≤ i ∧ i ≤ 5000) : Ev (fun k => scansionref19_piece.f k l p i j) (refPiece l p i j) := by
  have h := ev_piece_l0 l p i j hl hi l.length 0 (-1) (by omega)
  rw [List.drop_zero] at h
  exact h
/-- The same as the map of the costs. -/
def optOf (a : Int) : Option Int := if a < 0 then none else some a
theorem words_mwF {N : Nat} (i j : Int) : ∀ (l : List S36) (s : Costs × (Nat → List Int)) (a : Int), (∀ x ∈ l, wordOk N x = true) → s.1 (i, j) = optOf a → (l.foldl (fun s x => (stepC s.1 x, stepE s.1 s.2 x)) s).1 (i, j) = optOf (mwF i j l a)
  | [], s, a, _, h => h
  | x :: l, s, a, hl, h => by
    rw [List.foldl_cons, mwF]
    refine words_mwF i j l _ _ (fun y hy => hl y (List.mem_cons_of_mem _ hy)) ?_
    have hx := wordOk_is (hl x (List.mem_cons_self ..))
    show stepC s.1 x (i, j) = _
    unfold stepC
    by_cases e : x.f0 = i ∧ x.f1 = j
    · obtain ⟨rfl, rfl⟩ := e
      have hput : setC s.1 (x.f0, x.f1) x.f2 (x.f0, x.f1) = optOf x.f2 := by
        unfold setC optOf
        rw [if_pos rfl, if_neg (by omega)]
      by_cases q : a < 0
      · have hn : s.1 (x.f0, x.f1) = none := by rw [h]; unfold optOf; rw [if_pos q]
        rw [if_pos ⟨rfl, rfl, .inl q⟩, hn]
        exact hput
      · have hn : s.1 (x.f0, x.f1) = some a := by rw [h]; unfold optOf; rw [if_neg q]
        rw [hn]
        simp only
        by_cases q2 : x.f2 < a
        · rw [if_pos q2, if_pos (show True ∧ True ∧ (a < 0 ∨ x.f2 < a) from ⟨trivial, trivial, .inr q2⟩)]
          exact hput
        · rw [if_neg q2, if_neg (show ¬ (True ∧ True ∧ (a < 0 ∨ x.f2 < a)) from fun h => h.2.2.elim q q2), h]
    · rw [if_neg (fun h => e ⟨h.1, h.2.1⟩), ← h]
      have hne : ¬ (i, j) = (x.f0, x.f1) := fun h => e ⟨(congrArg Prod.fst h).symm, (congrArg Prod.snd h).symm⟩
      have hs : ∀ c, setC s.1 (x.f0, x.f1) c (i, j) = s.1 (i, j) := fun c => by unfold setC; rw [if_neg hne]
      cases s.1 (x.f0, x.f1) with
      | none => exact hs _
      | some c =>
        simp only
        split
        · exact hs _
        · rfl
theorem sing_at (p : Int) (s : Costs × (Nat → List Int)) (i j : Int) : ∀ m : Nat, (singCE p m s).1 (i, j) = if 0 ≤ i ∧ i < m ∧ j = i + 1 ∧ s.1 (i, j) = none then some p else s.1 (i, j)
  | 0 => by rw [if_neg (by omega)]; rfl
  | m + 1 => by
    have ih := sing_at p s i j m
    show singC p (singCE p m s).1 m (i, j) = _
    unfold singC
    by_cases e : i = (m : Int) ∧ j = (m : Int) + 1
    · obtain ⟨rfl, rfl⟩ := e
      rw [if_neg (by omega)] at ih
      rw [ih]
      cases q : s.1 ((m : Int), (m : Int) + 1) with
      | none =>
        rw [if_pos ⟨by omega, by omega, rfl, rfl⟩]
        show setC _ _ _ _ = _
        unfold setC; rw [if_pos rfl]
      | some c => rw [if_neg (fun h => by cases h.2.2.2)]; simp only; rw [ih, q]
    · have hne : ¬ (i, j) = ((m : Int), (m : Int) + 1) := fun h => e ⟨congrArg Prod.fst h, congrArg Prod.snd h⟩
      have e1 : (if 0 ≤ i ∧ i < ((m + 1 : Nat) : Int) ∧ j = i + 1 ∧ s.1 (i, j) = none then some p else s.1 (i, j)) = (singCE p m s).1 (i, j) := by
        rw [ih]
        by_cases q : 0 ≤ i ∧ i < (m : Int) ∧ j = i + 1 ∧ s.1 (i, j) = none
        · rw [if_pos q, if_pos ⟨q.1, by omega, q.2.2⟩]
        · rw [if_neg q, if_neg (fun h => q ⟨h.1, by
            rcases h with ⟨h1, h2, h3, h4⟩
            have : i ≠ (m : Int) := fun h => e ⟨h, by omega⟩
            omega, h.2.2⟩)]
      rw [e1]
      cases (singCE p m s).1 ((m : Int), (m : Int) + 1) with
      | none => show setC _ _ _ _ = _; unfold setC; rw [if_neg hne]
      | some c => rfl
theorem piece_is {N : Nat} {p : Int} {l : List S36} (hl : l.all (wordOk N) = true) (hp : 0 ≤ p) {i j : Int} (hi : 0 ≤ i ∧ i < N) : pieceV (finCE N p l).1 (i, j) = refPiece l p i j ∧ ((finCE N p l).1 (i, j) = optOf (refPiece l p i j)) := by
  have h := words_mwF (N := N) i j l (fun _ => none, fun _ => []) (-1) (fun x hx => List.all_eq_true.1 hl x hx) rfl
  have e : (finCE N p l).1 (i, j) = optOf (refPiece l p i j) := by
    unfold finCE
    rw [sing_at]
    have hw : (wordsCE l).1 (i, j) = optOf (mwF i j l (-1)) := h
    rw [hw]
    generalize hm : mwF i j l (-1) = m
    have hr : refPiece l p i j = if m < 0 ∧ j = i + 1 then p else m := by unfold refPiece; rw [hm]
    rw [hr]
    by_cases q : m < 0
    · have e0 : optOf m = none := by unfold optOf; rw [if_pos q]
      by_cases q2 : j = i + 1
      · rw [e0, if_pos (show 0 ≤ i ∧ i < (N : Int) ∧ j = i + 1 ∧ (none : Option Int) = none from ⟨hi.1, hi.2, q2, rfl⟩), if_pos (show m < 0 ∧ j = i + 1 from ⟨q, q2⟩)]
        unfold optOf; rw [if_neg (by omega)]
      · rw [if_neg (show ¬ (0 ≤ i ∧ i < (N : Int) ∧ j = i + 1 ∧ optOf m = none) from fun h => q2 h.2.2.1), if_neg (show ¬ (m < 0 ∧ j = i + 1) from fun h => q2 h.2)]
    · have e0 : optOf m = some m := by unfold optOf; rw [if_neg q]
      rw [e0, if_neg (show ¬ (0 ≤ i ∧ i < (N : Int) ∧ j = i + 1 ∧ some m = none) from fun h => by cases h.2.2.2), if_neg (show ¬ (m < 0 ∧ j = i + 1) from fun h => q h.1), e0]
  refine ⟨?_, e⟩
  unfold pieceV
  rw [e]
  unfold optOf
  by_cases q : refPiece l p i j < 0
  · rw [if_pos q]
    have hm : ∀ (l : List S36) (a : Int), (∀ x ∈ l, wordOk N x = true) → -1 ≤ a → -1 ≤ mwF i j l a := by
      intro l
      induction l with
      | nil => intro a _ h; exact h
      | cons x l ih =>
        intro a hx h
        rw [mwF]
        have := wordOk_is (hx x (List.mem_cons_self ..))
        refine ih _ (fun y hy => hx y (List.mem_cons_of_mem _ hy)) ?_
        split <;> omega
    have := hm l (-1) (fun x hx => List.all_eq_true.1 hl x hx) (by omega)
    unfold refPiece at q ⊢
    show (-1 : Int) = _
    split at q <;> split <;> omega
  · rw [if_neg q]; rfl

/-! ### singles -/
def upTo : Nat → Nat → List Int
  | 0, _ => []
  | c + 1, i => (i : Int) :: upTo c (i + 1)
theorem ev_singles_l0 (n : Nat) (hn : n ≤ 5000) : ∀ (c i : Nat) (acc : List Int), i + c = n + 1 → acc.length = i → Ev (fun k => scansionref19_singles.l0 k n acc (i : Int)) (acc ++ upTo c i)
  | 0, i, acc, h, hl => by
    rw [upTo, List.append_nil]
    refine (Ev.some_ _).succ fun k => ?_
    rw [scansionref19_singles.l0, if_neg (by omega)]
  | c + 1, i, acc, h, hl => by
    have ih := ev_singles_l0 n hn c (i + 1) (acc ++ [(i : Int)]) (by omega) (by simp [hl])
    rw [List.append_assoc] at ih
    refine ih.succ fun k => ?_
    rw [scansionref19_singles.l0, if_pos (by omega), if_pos (by omega), wrap_succ (by omega)]
theorem ev_singles (n : Nat) (hn : n ≤ 5000) : Ev (fun k => scansionref19_singles.f k n) (upTo (n + 1) 0) := ev_singles_l0 n hn (n + 1) 0 [] (by omega) rfl
end Go.Proofs.Ytckpjppbkfcaaaa.Pure
