/- The reference of chapter 20 as plain functions; the laws' first lines. -/
import Derived.Test.YtfmnbebkeefboaaPrint13
import Derived.Test.YtfmnbebkeefboaaPrint14
import Derived.Test.YtfmnbebkeefboaaPrint19
import Derived.Test.YtfmnbebkeefboaaStub
-- NEEDS scansionref01_SameInts scansionlaw20_awake scansionlaw20_few scansionref20_Parts
namespace Go.Proofs.Ytfmnbebkeefboaa.Pure
open Go.RowKit Go.Proofs.Ytfmnbebkeefboaa.Print Go.Proofs.YtfmnbebkeefboaaW.PrintWords Go.Proofs.YtfmnbebkeefboaaW.PrintLast
set_option linter.unusedVariables false
set_option linter.unusedSimpArgs false

/-- With enough rounds it answers r. -/
def Ev {β : Type} (f : Nat → Option β) (r : β) : Prop := ∃ K, ∀ k, K ≤ k → f k = some r
theorem Ev.some_ {β : Type} (r : β) : Ev (fun _ => some r) r := ⟨0, fun _ _ => rfl⟩
theorem Ev.succ {β : Type} {f g : Nat → Option β} {r : β} (h : Ev g r) (e : ∀ k, f (k + 1) = g k) : Ev f r := by
  obtain ⟨K, h⟩ := h
  refine ⟨K + 1, fun k hk => ?_⟩
  obtain ⟨k, rfl⟩ : ∃ m, k = m + 1 := ⟨k - 1, by omega⟩
  rw [e]; exact h k (by omega)
theorem Ev.congr {β : Type} {f g : Nat → Option β} {r : β} (h : Ev g r) (e : ∀ k, f k = g k) : Ev f r := by
  obtain ⟨K, h⟩ := h
  exact ⟨K, fun k hk => (e k).trans (h k hk)⟩
theorem Ev.bind {α β : Type} {f : Nat → Option α} {g : Nat → α → Option β} {a : α} {r : β} (h : Ev f a) (h' : Ev (fun k => g k a) r) : Ev (fun k => (f k).bind fun t => g k t) r := by
  obtain ⟨K, h⟩ := h
  obtain ⟨K', h'⟩ := h'
  exact ⟨max K K', fun k hk => by show (f k).bind _ = _; rw [h k (by omega), Option.bind_some]; exact h' k (by omega)⟩
theorem rd_ext {l l' : List Int} (hl : l.length = l'.length) (h : ∀ i : Nat, i < l.length → rd l i = rd l' i) : l = l' := by
  refine List.ext_getElem hl fun i h1 h2 => ?_
  have := h i h1
  unfold rd at this
  rwa [Int.toNat_natCast, List.getD_eq_getElem?_getD, List.getD_eq_getElem?_getD, List.getElem?_eq_getElem h1, List.getElem?_eq_getElem h2, Option.getD_some, Option.getD_some] at this
theorem ev_sameInts (l l' : List Int) (hl : l.length < 9223372036854775807) : Ev (fun k => scansionref01_SameInts.f k l l') (decide (l = l')) := by
  have go : l.length = l'.length → ∀ (c i : Nat), i + c = l.length → (∀ j : Nat, j < i → rd l j = rd l' j) → Ev (fun k => scansionref01_SameInts.l0 k l l' i) (decide (l = l')) := by
    intro he c
    induction c with
    | zero =>
      intro i hi hj
      rw [decide_eq_true (rd_ext he fun j h => hj j (by omega))]
      refine Ev.succ (Ev.some_ true) fun k => ?_
      rw [scansionref01_SameInts.l0, if_neg (by omega)]
    | succ c ih =>
      intro i hi hj
      by_cases q : rd l i = rd l' i
      · refine Ev.succ (ih (i + 1) (by omega) (fun j h => ?_)) fun k => ?_
        · by_cases e : j = i
          · rw [e]; exact q
          · exact hj j (by omega)
        · rw [scansionref01_SameInts.l0, if_pos (by omega), if_pos (by omega), if_pos (by omega), if_pos q, wrap_succ (by omega)]
      · rw [decide_eq_false (fun e => q (by rw [e]))]
        refine Ev.succ (Ev.some_ false) fun k => ?_
        rw [scansionref01_SameInts.l0, if_pos (by omega), if_pos (by omega), if_pos (by omega), if_neg q]
  by_cases q : l.length = l'.length
  · refine Ev.congr (go q l.length 0 (by omega) (fun j h => absurd h (by omega))) fun k => ?_
    rw [scansionref01_SameInts.f, if_pos (by omega)]
    rfl
  · rw [decide_eq_false (fun e => q (by rw [e]))]
    refine Ev.congr (Ev.some_ false) fun k => ?_
    rw [scansionref01_SameInts.f, if_neg (by omega)]
theorem parts_awake : partsR 5 [(⟨0, 2, 0⟩ : S31), (⟨0, 3, 0⟩ : S31), (⟨2, 5, 0⟩ : S31)] = ([0, 2, 5], 0) := by decide +kernel
theorem ev_awake : Ev (fun k => scansionlaw20_awake.f k) true := by
  have h := ev_sameInts [0, 2, 5] [0, 2, 5] (by decide)
  rw [decide_eq_true rfl] at h
  have h2 : Ev (fun k => (scansionref01_SameInts.f k [0, 2, 5] [0, 2, 5]).bind fun t => (some t : Option Bool)) true := h.bind (g := fun _ t => some t) (Ev.some_ true)
  refine h2.congr fun k => ?_
  unfold scansionlaw20_awake.f thai_Parts.f
  rw [parts_awake, Option.bind_some]
  rfl
def fewB (n : Int) (l : List S31) : Bool := decide (l.length ≤ 60) && (decide (n ≤ 60) || decide (n > 5000))
theorem few_is (n : Int) (l : List S31) : scansionlaw20_few.f n l = some (fewB n l) := by
  unfold scansionlaw20_few.f fewB
  by_cases q : l.length ≤ 60
  · rw [if_pos (by omega), decide_eq_true q, Bool.true_and]
    by_cases q1 : n ≤ 60
    · rw [if_pos q1, decide_eq_true q1, Bool.true_or]
    · rw [if_neg q1, decide_eq_false q1, Bool.false_or]
  · rw [if_neg (by omega), decide_eq_false q, Bool.false_and]

/-! ### right -/
theorem drop31 {l : List S31} {i : Nat} (h : i < l.length) : l.drop i = rd_T31 l (i : Int) :: l.drop (i + 1) := by rw [List.drop_eq_getElem_cons h, rd31 h]
theorem ev_right_l0 (n : Int) (l : List S31) (hl : l.length ≤ 100000) : ∀ (c i : Nat), i + c = l.length → Ev (fun k => scansionref20_right.l0 k n l (i : Int)) ((l.drop i).all (spanOk n))
  | 0, i, h => by
    obtain rfl : i = l.length := by omega
    rw [List.drop_length]
    refine (Ev.some_ true).succ fun k => ?_
    rw [scansionref20_right.l0, if_neg (by omega)]
  | c + 1, i, h => by
    have ih := ev_right_l0 n l hl c (i + 1) (by omega)
    have hi : i < l.length := by omega
    rw [drop31 hi, List.all_cons]
    obtain ⟨x, hx⟩ : ∃ x, rd_T31 l (i : Int) = x := ⟨_, rfl⟩
    cases q : spanOk n x with
    | true =>
      have q2 := spanOk_is q
      rw [hx, q, Bool.true_and]
      refine ih.succ fun k => ?_
      rw [scansionref20_right.l0, hx, if_pos (by omega), if_pos (by omega), if_neg (by omega), if_neg (by omega), if_neg (by omega), wrap_succ (by omega)]
    | false =>
      rw [hx, q, Bool.false_and]
      refine (Ev.some_ false).succ fun k => ?_
      rw [scansionref20_right.l0, hx, if_pos (by omega), if_pos (by omega)]
      by_cases q0 : x.f0 < 0
      · rw [if_pos q0]
      rw [if_neg q0]
      by_cases q1 : x.f1 > n
      · rw [if_pos q1]
      rw [if_neg q1]
      by_cases q2 : x.f0 ≥ x.f1
      · rw [if_pos q2]
      exfalso
      have : spanOk n x = true := by unfold spanOk; simp; omega
      rw [q] at this; cases this
theorem ev_right (n : Int) (l : List S31) (hl : l.length ≤ 100000) : Ev (fun k => scansionref20_right.f k n l) (okT n l) := by
  have jt : Ev (fun k => scansionref20_right.j0 k n l true) false := (Ev.some_ false).succ fun k => by rw [scansionref20_right.j0, if_pos rfl]
  unfold okT limT
  by_cases q0 : n < 0
  · rw [decide_eq_false (show ¬ (0 ≤ n ∧ n ≤ 5000) by omega)]
    exact jt.congr fun k => by rw [scansionref20_right.f, if_pos q0]
  by_cases q1 : n > 5000
  · rw [decide_eq_false (show ¬ (0 ≤ n ∧ n ≤ 5000) by omega)]
    exact jt.congr fun k => by rw [scansionref20_right.f, if_neg q0, if_pos q1]
  rw [decide_eq_true (show (0 ≤ n ∧ n ≤ 5000) by omega), decide_eq_true hl, Bool.true_and, Bool.true_and]
  have h := ev_right_l0 n l hl l.length 0 (by omega)
  rw [List.drop_zero] at h
  have hj : Ev (fun k => scansionref20_right.j0 k n l false) (l.all (spanOk n)) := h.succ fun k => by rw [scansionref20_right.j0, if_neg (by simp)]; rfl
  exact hj.congr fun k => by rw [scansionref20_right.f, if_neg q0, if_neg q1, decide_eq_false (show ¬ ((l.length : Int) > 100000) by omega)]

/-! ### reach -/
theorem toL_cons (x : S31) (r : List S31) (a : Int) : toL (x :: r) a = if x.f0 = a then x.f1 :: toL r a else toL r a := by
  unfold toL
  by_cases e : x.f0 = a
  · rw [if_pos e, List.filter_cons_of_pos (by simpa using e)]; rfl
  · rw [if_neg e, List.filter_cons_of_neg (by simpa using e)]
theorem mx_max (x y : Int) : mx x y = max x y := by unfold mx; first | rfl | (split <;> omega)
theorem ev_reach (l : List S31) (hl : l.length ≤ 100000) : ∀ (w : Nat) (a : Int), w ≤ 1000 → Ev (fun k => scansionref20_reach.f k l a (w : Int)) (reachT (toL l) w a)
  | 0, a, hw => by
    have h0 : Ev (fun k => scansionref20_reach.l0 k l a ((0 : Nat) : Int) a 0) a := by
      have hj : Ev (fun k => scansionref20_reach.j1 k l a ((0 : Nat) : Int) a 0 false) a := (Ev.some_ a).succ fun k => by rw [scansionref20_reach.j1, if_neg (by simp)]
      refine hj.succ fun k => ?_
      rw [scansionref20_reach.l0]
      by_cases q : (0 : Int) < (l.length : Int)
      · rw [if_pos q, decide_eq_false (by decide)]
      · rw [if_neg q]
    exact h0.succ fun k => by rw [scansionref20_reach.f]
  | w + 1, a, hw => by
    have ihw := ev_reach l hl w
    have hww : wrap64 (((w + 1 : Nat) : Int) - 1) = (w : Int) := by unfold wrap64; omega
    have go : ∀ (c i : Nat) (m : Int), i + c = l.length → Ev (fun k => scansionref20_reach.l0 k l a ((w + 1 : Nat) : Int) m (i : Int)) (top (reachT (toL l) w) m (toL (l.drop i) a)) := by
      intro c
      induction c with
      | zero =>
        intro i m h
        obtain rfl : i = l.length := by omega
        rw [List.drop_length]
        have hj : Ev (fun k => scansionref20_reach.j1 k l a ((w + 1 : Nat) : Int) m (l.length : Int) false) m := (Ev.some_ m).succ fun k => by rw [scansionref20_reach.j1, if_neg (by simp)]
        refine hj.succ fun k => ?_
        rw [scansionref20_reach.l0, if_neg (by omega)]
      | succ c ih =>
        intro i m h
        have hi : i < l.length := by omega
        have hj : Ev (fun k => scansionref20_reach.j1 k l a ((w + 1 : Nat) : Int) m (i : Int) true) (top (reachT (toL l) w) m (toL (l.drop i) a)) := by
          rw [drop31 hi, toL_cons]
          obtain ⟨x, hx⟩ : ∃ x, rd_T31 l (i : Int) = x := ⟨_, rfl⟩
          rw [hx]
          by_cases e : x.f0 = a
          · rw [if_pos e, top]
            have hb := (ihw x.f1 (by omega)).bind (g := fun k t => scansionref20_reach.l0 k l a ((w + 1 : Nat) : Int) (mx m t) ((i + 1 : Nat) : Int)) (by rw [mx_max]; exact ih (i + 1) _ (by omega))
            refine hb.succ fun k => ?_
            rw [scansionref20_reach.j1, if_pos rfl, if_pos (by omega), if_pos (by omega), hx, if_pos e, hww, wrap_succ (by omega)]
          · rw [if_neg e]
            refine (ih (i + 1) m (by omega)).succ fun k => ?_
            rw [scansionref20_reach.j1, if_pos rfl, if_pos (by omega), if_pos (by omega), hx, if_neg e, wrap_succ (by omega)]
        refine hj.succ fun k => ?_
        rw [scansionref20_reach.l0, if_pos (by omega), decide_eq_true (by omega)]
    have h := go l.length 0 a (by omega)
    rw [List.drop_zero] at h
    rw [Print.reachT]
    exact h.succ fun k => by rw [scansionref20_reach.f]; rfl

/-! ### begins -/
theorem ev_begins_l0 (l : List S31) (hl : l.length ≤ 100000) (a : Int) : ∀ (c i : Nat), i + c = l.length → Ev (fun k => scansionref20_begins.l0 k l a (i : Int)) (decide (toL (l.drop i) a ≠ []))
  | 0, i, h => by
    obtain rfl : i = l.length := by omega
    rw [List.drop_length]
    refine (Ev.some_ _).succ fun k => ?_
    rw [scansionref20_begins.l0, if_neg (by omega)]
    rfl
  | c + 1, i, h => by
    have ih := ev_begins_l0 l hl a c (i + 1) (by omega)
    have hi : i < l.length := by omega
    rw [drop31 hi, toL_cons]
    obtain ⟨x, hx⟩ : ∃ x, rd_T31 l (i : Int) = x := ⟨_, rfl⟩
    rw [hx]
    by_cases e : x.f0 = a
    · rw [if_pos e, decide_eq_true (by simp)]
      refine (Ev.some_ true).succ fun k => ?_
      rw [scansionref20_begins.l0, if_pos (by omega), if_pos (by omega), hx, if_pos e]
    · rw [if_neg e]
      refine ih.succ fun k => ?_
      rw [scansionref20_begins.l0, if_pos (by omega), if_pos (by omega), hx, if_neg e, wrap_succ (by omega)]
theorem ev_begins (l : List S31) (hl : l.length ≤ 100000) (a : Int) : Ev (fun k => scansionref20_begins.f k l a) (decide (toL l a ≠ [])) := by
  have h := ev_begins_l0 l hl a l.length 0 (by omega)
  rw [List.drop_zero] at h
  exact h

/-! ### next -/
/-- The best so far: the place, how far it leads. -/
def best2 (T : Int → List Int) : Int → Int → List Int → Int
  | tp, far, [] => tp
  | tp, far, t :: r => if reachT T 2 t > far ∨ reachT T 2 t = far ∧ t > tp then best2 T t (reachT T 2 t) r else best2 T tp far r
theorem best2_is (T : Int → List Int) : ∀ (xs : List Int) (tp : Int), IsBest T (tp :: xs) (best2 T tp (reachT T 2 tp) xs)
  | [], tp => by
    rw [best2]
    refine ⟨List.mem_cons_self .., fun t ht => ?_⟩
    rw [List.mem_singleton] at ht
    subst ht
    unfold Gt
    omega
  | t :: r, tp => by
    rw [best2]
    by_cases q : reachT T 2 t > reachT T 2 tp ∨ reachT T 2 t = reachT T 2 tp ∧ t > tp
    · rw [if_pos q]
      obtain ⟨h1, h2⟩ := best2_is T r t
      refine ⟨List.mem_cons_of_mem _ h1, fun u hu => ?_⟩
      rcases List.mem_cons.1 hu with rfl | hu
      · have h3 := h2 t (List.mem_cons_self ..)
        unfold Gt at h3 ⊢
        omega
      · exact h2 u hu
    · rw [if_neg q]
      obtain ⟨h1, h2⟩ := best2_is T r tp
      refine ⟨?_, fun u hu => ?_⟩
      · rcases List.mem_cons.1 h1 with h | h
        · rw [h]; exact List.mem_cons_self ..
        · exact List.mem_cons_of_mem _ (List.mem_cons_of_mem _ h)
      · rcases List.mem_cons.1 hu with rfl | hu
        · exact h2 _ (List.mem_cons_self ..)
        · rcases List.mem_cons.1 hu with rfl | hu
          · have h3 := h2 tp (List.mem_cons_self ..)
            unfold Gt at h3 ⊢
            omega
          · exact h2 u (List.mem_cons_of_mem _ hu)
theorem best2_first {T : Int → List Int} (hT : InRun T) {a : Int} (hn : T a ≠ []) : best2 T (-1) (-1) (T a) = bestT T a := by
  have hb := bestT_is hn
  cases q : T a with
  | nil => exact absurd q hn
  | cons t r =>
    rw [q] at hb
    have ht := reachT_in hT 2 t (hT a t (by rw [q]; exact List.mem_cons_self ..))
    rw [best2, if_pos (.inl (by omega))]
    exact (best2_is T r t).one hb (fun _ => Iff.rfl)
theorem ev_next_l1 (l : List S31) (hl : l.length ≤ 100000) (a : Int) : ∀ (c i : Nat) (tp far : Int), i + c = l.length → Ev (fun k => scansionref20_next.l1 k l a tp far (i : Int)) (best2 (toL l) tp far (toL (l.drop i) a))
  | 0, i, tp, far, h => by
    obtain rfl : i = l.length := by omega
    rw [List.drop_length]
    refine (Ev.some_ _).succ fun k => ?_
    rw [scansionref20_next.l1, if_neg (by omega)]
    rfl
  | c + 1, i, tp, far, h => by
    have ih := fun tp far => ev_next_l1 l hl a c (i + 1) tp far (by omega)
    have hi : i < l.length := by omega
    rw [drop31 hi, toL_cons]
    obtain ⟨x, hx⟩ : ∃ x, rd_T31 l (i : Int) = x := ⟨_, rfl⟩
    rw [hx]
    by_cases e : x.f0 = a
    · rw [if_pos e, best2]
      have hr := ev_reach l hl 2 x.f1 (by omega)
      obtain ⟨rr, hrr⟩ : ∃ r, reachT (toL l) 2 x.f1 = r := ⟨_, rfl⟩
      rw [hrr] at hr ⊢
      have hg : Ev (fun k => if rr > far then (scansionref20_next.l1 k l a x.f1 rr ((i + 1 : Nat) : Int)) else (if rr = far then (if x.f1 > tp then (scansionref20_next.l1 k l a x.f1 rr ((i + 1 : Nat) : Int)) else (scansionref20_next.l1 k l a tp far ((i + 1 : Nat) : Int))) else (scansionref20_next.l1 k l a tp far ((i + 1 : Nat) : Int)))) (if rr > far ∨ rr = far ∧ x.f1 > tp then best2 (toL l) x.f1 rr (toL (l.drop (i + 1)) a) else best2 (toL l) tp far (toL (l.drop (i + 1)) a)) := by
        by_cases q1 : rr > far
        · rw [if_pos (.inl q1)]
          exact (ih x.f1 rr).congr fun k => by rw [if_pos q1]
        · by_cases q2 : rr = far
          · by_cases q3 : x.f1 > tp
            · rw [if_pos (.inr ⟨q2, q3⟩)]
              exact (ih x.f1 rr).congr fun k => by rw [if_neg q1, if_pos q2, if_pos q3]
            · rw [if_neg (by omega)]
              exact (ih tp far).congr fun k => by rw [if_neg q1, if_pos q2, if_neg q3]
          · rw [if_neg (by omega)]
            exact (ih tp far).congr fun k => by rw [if_neg q1, if_neg q2]
      have hb := hr.bind (g := fun k t => if t > far then (scansionref20_next.l1 k l a x.f1 t ((i + 1 : Nat) : Int)) else (if t = far then (if x.f1 > tp then (scansionref20_next.l1 k l a x.f1 t ((i + 1 : Nat) : Int)) else (scansionref20_next.l1 k l a tp far ((i + 1 : Nat) : Int))) else (scansionref20_next.l1 k l a tp far ((i + 1 : Nat) : Int)))) hg
      refine hb.succ fun k => ?_
      rw [scansionref20_next.l1, if_pos (by omega), if_pos (by omega), hx, if_pos e, wrap_succ (by omega)]
      rfl
    · rw [if_neg e]
      refine (ih tp far).succ fun k => ?_
      rw [scansionref20_next.l1, if_pos (by omega), if_pos (by omega), hx, if_neg e, wrap_succ (by omega)]
theorem ev_next_l0 (n : Int) (l : List S31) (hl : l.length ≤ 100000) (hn : n ≤ 5000) : ∀ (f : Nat) (b : Int), 0 ≤ b → n - b ≤ f → Ev (fun k => scansionref20_next.l0 k n l b) (skipT (toL l) n f b)
  | 0, b, h0, h => by
    refine (Ev.some_ _).succ fun k => ?_
    rw [scansionref20_next.l0, if_neg (by omega)]
    rfl
  | f + 1, b, h0, h => by
    rw [skipT]
    by_cases q : b < n
    · have hb := ev_begins l hl b
      by_cases e : toL l b = []
      · rw [if_pos ⟨q, e⟩]
        rw [decide_eq_false (by simpa using e)] at hb
        have h2 := hb.bind (g := fun k t => if t = true then (some b) else (scansionref20_next.l0 k n l (b + 1))) ((ev_next_l0 n l hl hn f (b + 1) (by omega) (by omega)).congr fun k => by rw [if_neg (by simp)])
        refine h2.succ fun k => ?_
        have hw : wrap64 (b + 1) = b + 1 := by unfold wrap64; omega
        rw [scansionref20_next.l0, if_pos q, hw]
      · rw [if_neg (fun h => e h.2)]
        rw [decide_eq_true e] at hb
        have h2 := hb.bind (g := fun k t => if t = true then (some b) else (scansionref20_next.l0 k n l (wrap64 (b + 1)))) ((Ev.some_ b).congr fun k => by rw [if_pos rfl])
        refine h2.succ fun k => ?_
        rw [scansionref20_next.l0, if_pos q]
    · rw [if_neg (fun h => q h.1)]
      refine (Ev.some_ _).succ fun k => ?_
      rw [scansionref20_next.l0, if_neg q]
theorem ev_next {n : Int} {l : List S31} (hl : l.length ≤ 100000) (hok : okT n l = true) {a : Int} (ha : 0 ≤ a ∧ a < n) : Ev (fun k => scansionref20_next.f k n l a) (nextP (toL l) n a) := by
  have hin := okT_in hok
  have hb := ev_begins l hl a
  unfold nextP
  by_cases e : toL l a = []
  · rw [if_pos e]
    rw [decide_eq_false (by simpa using e)] at hb
    have hw : wrap64 (a + 1) = a + 1 := by unfold wrap64; omega
    exact (hb.bind (g := fun k t => if t = true then (scansionref20_next.l1 k l a (-1) (-1) 0) else (scansionref20_next.l0 k n l (wrap64 (a + 1)))) ((ev_next_l0 n l hl (by omega) (n - a).toNat (a + 1) (by omega) (by omega)).congr fun k => by rw [if_neg (by simp), hw])).congr fun k => by rw [scansionref20_next.f]
  · rw [if_neg e, ← best2_first hin.2.2 e]
    rw [decide_eq_true e] at hb
    have h1 := ev_next_l1 l hl a l.length 0 (-1) (-1) (by omega)
    rw [List.drop_zero] at h1
    exact (hb.bind (g := fun k t => if t = true then (scansionref20_next.l1 k l a (-1) (-1) 0) else (scansionref20_next.l0 k n l (wrap64 (a + 1)))) (h1.congr fun k => by rw [if_pos rfl]; rfl)).congr fun k => by rw [scansionref20_next.f]

/-! ### Parts -/
theorem ev_Parts_l0 {n : Int} {l : List S31} (hl : l.length ≤ 100000) (hok : okT n l = true) : ∀ (f : Nat) (a : Int) (out : List Int), 0 ≤ a ∧ a ≤ n → n - a ≤ f → out.length + f ≤ 100000 → Ev (fun k => scansionref20_Parts.l0 k n l out a) (out ++ partsL (toL l) n f a, 0)
  | 0, a, out, ha, h, ho => by
    rw [partsL, List.append_nil]
    refine (Ev.some_ _).succ fun k => ?_
    rw [scansionref20_Parts.l0, if_neg (by omega)]
  | f + 1, a, out, ha, h, ho => by
    rw [partsL]
    by_cases q : a < n
    · rw [if_pos q]
      have hnx := nextP_in (okT_fwd hok) q
      have ih := ev_Parts_l0 hl hok f (nextP (toL l) n a) (out ++ [nextP (toL l) n a]) (by omega) (by omega) (by rw [List.length_append, List.length_singleton]; omega)
      rw [List.append_assoc, List.singleton_append] at ih
      have h2 := (ev_next hl hok (a := a) ⟨ha.1, q⟩).bind (g := fun k t => if out.length < 17592186044416 then (scansionref20_Parts.l0 k n l (out ++ [t]) t) else (none)) (ih.congr fun k => by rw [if_pos (by omega)])
      refine h2.succ fun k => ?_
      rw [scansionref20_Parts.l0, if_pos q]
    · rw [if_neg q, List.append_nil]
      refine (Ev.some_ _).succ fun k => ?_
      rw [scansionref20_Parts.l0, if_neg q]
theorem ev_Parts (n : Int) (l : List S31) (hl : l.length ≤ 100000) : Ev (fun k => scansionref20_Parts.f k n l) (partsR n l) := by
  have hr := ev_right n l hl
  unfold partsR
  cases hok : okT n l with
  | false =>
    rw [hok] at hr
    exact (hr.bind (g := fun k t => if t = true then (scansionref20_Parts.l0 k n l (([0] : List Int)) 0) else (some (([] : List Int), 1))) ((Ev.some_ _).congr fun k => by rw [if_neg (by simp), if_neg (by simp)])).congr fun k => by rw [scansionref20_Parts.f]
  | true =>
    rw [hok] at hr
    have hin := okT_in hok
    have h := ev_Parts_l0 hl hok n.toNat 0 [0] (by omega) (by omega) (by simp; omega)
    exact (hr.bind (g := fun k t => if t = true then (scansionref20_Parts.l0 k n l (([0] : List Int)) 0) else (some (([] : List Int), 1))) (h.congr fun k => by rw [if_pos rfl])).congr fun k => by rw [scansionref20_Parts.f]
theorem partsL_len (T : Int → List Int) (n : Int) : ∀ (f : Nat) (a : Int), (partsL T n f a).length ≤ f
  | 0, a => by simp [partsL]
  | f + 1, a => by
    rw [partsL]
    split
    · have := partsL_len T n f (nextP T n a); simp; omega
    · simp
theorem partsR_len (n : Int) (l : List S31) : (partsR n l).1.length ≤ 5001 := by
  unfold partsR
  cases hok : okT n l with
  | false => simp
  | true =>
    have hin := okT_in hok
    have := partsL_len (toL l) n n.toNat 0
    simp
    omega
end Go.Proofs.Ytfmnbebkeefboaa.Pure
