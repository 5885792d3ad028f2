/- The reference's Apart is least.Apart. -/
import Derived.Test.YtadhjjfodpmelaaPrint19
import Derived.Test.YtadhjjfodpmelaaPrint20
import Derived.Test.YtadhjjfodpmelaaPrint21
import Derived.Test.YtadhjjfodpmelaaLawW
import Derived.Test.YtadhjjfodpmelaaApart
-- NEEDS scansionref13_both scansionref13_met scansionref13_Apart
namespace Go.Proofs.Ytadhjjfodpmelaa.Pure
open Go.RowKit Go.Proofs.Ytadhjjfodpmelaa.Print Go.Proofs.YtadhjjfodpmelaaW.PrintWords Go.Proofs.YtadhjjfodpmelaaW.PrintLast
set_option linter.unusedVariables false
set_option linter.unusedSimpArgs false

theorem getD_pre {α : Type} {l r : List α} {d : α} {i : Nat} (h : i < l.length) : (l ++ r).getD i d = l.getD i d := by
  rw [List.getD_eq_getElem?_getD, List.getD_eq_getElem?_getD, List.getElem?_append_left h]
theorem getD_end {α : Type} {l : List α} {x d : α} {i : Nat} (h : i = l.length) : (l ++ [x]).getD i d = x := by
  subst h
  rw [List.getD_eq_getElem?_getD, List.getElem?_concat_length]
  rfl
theorem rdT57_nat (l : List S57) (i : Nat) : rd_T57 l (i : Int) = l.getD i (rd_T57 [] 0) := by unfold rd_T57; rw [Int.toNat_natCast]; rfl

structure RefOk (st : List S57) (q : List (Int × Int)) (ws : List (List Int)) : Prop where
  len : st.length = q.length
  wl : ws.length = q.length
  pair : ∀ j : Nat, j < q.length → (rd_T57 st j).f0 = (q.getD j (0, 0)).1 ∧ (rd_T57 st j).f1 = (q.getD j (0, 0)).2
  link : ∀ j : Nat, j < q.length → ((rd_T57 st j).f2 < 0 ∧ ws.getD j [] = []) ∨ ∃ p : Nat, p < j ∧ (rd_T57 st j).f2 = p ∧ ws.getD j [] = ws.getD p [] ++ [(rd_T57 st j).f3]
theorem RefOk.snoc {st : List S57} {q : List (Int × Int)} {ws : List (List Int)} (h : RefOk st q ws) (y : Int × Int) (i : Nat) (c : Int) (hi : i < q.length) : RefOk (st ++ [⟨y.1, y.2, i, c⟩]) (q ++ [y]) (ws ++ [ws.getD i [] ++ [c]]) := by
  have h1 := h.len
  have h2 := h.wl
  have old : ∀ j, j < q.length → rd_T57 (st ++ [⟨y.1, y.2, i, c⟩]) (j : Nat) = rd_T57 st (j : Nat) := fun j hj => by rw [rdT57_nat, rdT57_nat, getD_pre (by omega)]
  have new : rd_T57 (st ++ [⟨y.1, y.2, i, c⟩]) (q.length : Nat) = ⟨y.1, y.2, i, c⟩ := by rw [rdT57_nat, getD_end (by omega)]
  refine ⟨by simp [h1], by simp [h2], fun j hj => ?_, fun j hj => ?_⟩
  · rw [List.length_append, List.length_singleton] at hj
    by_cases e : j = q.length
    · subst e
      rw [new, getD_end rfl]
      exact ⟨rfl, rfl⟩
    · rw [old j (by omega), getD_pre (by omega)]
      exact h.pair j (by omega)
  · rw [List.length_append, List.length_singleton] at hj
    by_cases e : j = q.length
    · subst e
      rw [new, getD_end (by omega)]
      exact .inr ⟨i, hi, rfl, by rw [getD_pre (by omega)]⟩
    · rw [old j (by omega), getD_pre (by omega)]
      rcases h.link j (by omega) with q | ⟨p, hp, e1, e2⟩
      · exact .inl q
      · exact .inr ⟨p, hp, e1, by rw [getD_pre (by omega)]; exact e2⟩

section
variable {a a' : List (List Int)} {b b' : List Bool} {n n' m : Nat}
theorem word_l1 {st : List S57} {q : List (Int × Int)} {ws : List (List Int)} (h : RefOk st q ws) : ∀ (j : Nat) (acc : List Int), j < q.length → (ws.getD j []).length + acc.length ≤ 25000001 → Ev (fun k => scansionref13_Apart.l1 k st acc j) (ws.getD j [] ++ acc, true, 0) := by
  intro j
  induction j using Nat.strongRecOn with
  | ind j ih =>
    intro acc hj hb
    have h1 := h.len
    rcases h.link j hj with ⟨e1, e2⟩ | ⟨p, hp, e1, e2⟩
    · rw [e2, List.nil_append]
      refine Ev.succ (Ev.some_ _) fun k => ?_
      rw [scansionref13_Apart.l1, if_pos (by omega), if_pos (by omega), if_neg (by omega)]
    · rw [e2, List.length_append, List.length_singleton] at hb
      have := ih p hp ([(rd_T57 st j).f3] ++ acc) (by omega) (by rw [List.length_append, List.length_singleton]; omega)
      rw [e2, List.append_assoc]
      refine Ev.succ this fun k => ?_
      rw [scansionref13_Apart.l1, if_pos (by omega), if_pos (by omega), if_pos (by omega), Option.bind_some, if_pos (by simp; omega), e1]
theorem met_ev {st : List S57} {q : List (Int × Int)} {ws : List (List Int)} (h : RefOk st q ws) (y : Int × Int) (hq : q.length ≤ 25000000) : Ev (fun k => scansionref13_met.f k st y.1 y.2) (decide (y ∈ q)) := by
  have h1 := h.len
  have go : ∀ (c i : Nat), i + c = q.length → Ev (fun k => scansionref13_met.l0 k st y.1 y.2 i) (decide (y ∈ q.drop i)) := by
    intro c
    induction c with
    | zero =>
      intro i hi
      rw [List.drop_eq_nil_of_le (by omega), decide_eq_false (by simp)]
      refine Ev.succ (Ev.some_ false) fun k => ?_
      rw [scansionref13_met.l0, if_neg (by omega)]
    | succ c ih =>
      intro i hi
      have hd : q.drop i = q.getD i (0, 0) :: q.drop (i + 1) := by
        rw [List.getD_eq_getElem?_getD, List.getElem?_eq_getElem (by omega), Option.getD_some]
        exact List.drop_eq_getElem_cons (by omega)
      obtain ⟨p1, p2⟩ := h.pair i (by omega)
      by_cases e : y = q.getD i (0, 0)
      · rw [hd, decide_eq_true (by rw [e]; exact List.mem_cons_self ..)]
        refine Ev.succ (Ev.some_ true) fun k => ?_
        rw [scansionref13_met.l0, if_pos (by omega), if_pos (by omega), p1, p2, if_pos (by rw [e]), if_pos (by rw [e])]
      · have e2 : decide (y ∈ q.drop i) = decide (y ∈ q.drop (i + 1)) := by
          rw [hd]
          exact decide_eq_decide.2 ⟨fun h => (List.mem_cons.1 h).elim (fun h => absurd h e) id, fun h => List.mem_cons_of_mem _ h⟩
        rw [e2]
        refine Ev.succ (ih (i + 1) (by omega)) fun k => ?_
        rw [scansionref13_met.l0, if_pos (by omega), if_pos (by omega), p1, p2]
        by_cases f : (q.getD i (0, 0)).1 = y.1
        · rw [if_pos f, if_neg (fun g => e (Prod.ext f.symm g.symm)), wrap_succ (by omega)]
        · rw [if_neg f, wrap_succ (by omega)]
  have := go q.length 0 (by omega)
  rw [List.drop_zero] at this
  exact this

theorem apRow_QOk (hw : Wf a b n m) (hw' : Wf a' b' n' m) {q : List (Int × Int)} {ws : List (List Int)} (hq : QOk n n' q ws) {i : Nat} (hi : i < q.length) : ∀ j, j ≤ m → QOk n n' (apRow a a' (q.getD i (0, 0)) (ws.getD i []) q ws j).1 (apRow a a' (q.getD i (0, 0)) (ws.getD i []) q ws j).2 := by
  have hx := hq.lo (q.getD i (0, 0)) (by rw [List.getD_eq_getElem?_getD, List.getElem?_eq_getElem hi]; exact List.getElem_mem hi)
  obtain ⟨x, hxe⟩ : ∃ x, q.getD i (0, 0) = x := ⟨_, rfl⟩
  rw [hxe] at hx ⊢
  have hws : (ws.getD i []).length ≤ i := hq.short i _ (by rw [List.getD_eq_getElem?_getD, List.getElem?_eq_getElem (by rw [hq.len]; exact hi)]; rfl)
  refine apRow_ok hq (fun c hc => ?_) (by omega)
  have h1 := hw.lo x.1.toNat (by omega) (rd (rd_L1 a x.1.toNat) c) (rd_mem (by rw [hw.row _ (by omega)]; exact hc))
  have h2 := hw'.lo x.2.toNat (by omega) (rd (rd_L1 a' x.2.toNat) c) (rd_mem (by rw [hw'.row _ (by omega)]; exact hc))
  rw [Int.toNat_of_nonneg hx.1.1] at h1
  rw [Int.toNat_of_nonneg hx.2.1] at h2
  exact ⟨h1, h2⟩

theorem apart_l2 (hw : Wf a b n m) (hw' : Wf a' b' n' m) {q : List (Int × Int)} {ws : List (List Int)} (hq : QOk n n' q ws) {i : Nat} (hi : i < q.length) {u v : Int} {r : List Int × Bool × Int}
    (hc : ∀ st, RefOk st (apRow a a' (q.getD i (0, 0)) (ws.getD i []) q ws m).1 (apRow a a' (q.getD i (0, 0)) (ws.getD i []) q ws m).2 → Ev (fun k => scansionref13_Apart.l0 k st ((i + 1 : Nat) : Int) a b a' b') r) :
    ∀ (c j : Nat) (st : List S57), j + c = m → RefOk st (apRow a a' (q.getD i (0, 0)) (ws.getD i []) q ws j).1 (apRow a a' (q.getD i (0, 0)) (ws.getD i []) q ws j).2 → Ev (fun k => scansionref13_Apart.l2 k st i j a b a' b' (q.getD i (0, 0)).1 (q.getD i (0, 0)).2 u v) r := by
  have hm := hw.most
  have hm' := hw'.most
  have h1 := hw.one
  have hl := hw.len
  have hl' := hw'.len
  have hm2 := hw.m2
  have h0 : (rd_L1 a 0).length = m := hw.row 0 (by omega)
  have hx := hq.lo (q.getD i (0, 0)) (by rw [List.getD_eq_getElem?_getD, List.getElem?_eq_getElem hi]; exact List.getElem_mem hi)
  have hnn : n * n' ≤ 25000000 := Nat.le_trans (Nat.mul_le_mul hm hm') (by decide)
  have hi25 : i < 25000000 := by have := hq.size; omega
  intro c
  induction c with
  | zero =>
    intro j st hj hst
    obtain rfl : j = m := hj
    refine Ev.succ (hc st hst) fun k => ?_
    rw [scansionref13_Apart.l2, if_pos (by omega), if_neg (by omega), wrap_succ (by omega)]
  | succ c ih =>
    intro j st hj hst
    have hqj := apRow_QOk hw hw' hq hi j (by omega)
    have hsz := hqj.size
    have hstl := hst.len
    obtain ⟨r0, s0, hr0, hs0⟩ := apRow_pre a a' (q.getD i (0, 0)) (ws.getD i []) q ws j
    have hwi : (apRow a a' (q.getD i (0, 0)) (ws.getD i []) q ws j).2.getD i [] = ws.getD i [] := by rw [hs0, getD_pre (by rw [hq.len]; exact hi)]
    have hil : i < (apRow a a' (q.getD i (0, 0)) (ws.getD i []) q ws j).1.length := by rw [hr0, List.length_append]; omega
    have hme := met_ev hst (apY a a' (q.getD i (0, 0)) j) (by omega)
    have hxa : (rd_L1 a (q.getD i (0, 0)).1).length = m := by have := hw.row (q.getD i (0, 0)).1.toNat (by omega); rwa [Int.toNat_of_nonneg hx.1.1] at this
    have hxb : (rd_L1 a' (q.getD i (0, 0)).2).length = m := by have := hw'.row (q.getD i (0, 0)).2.toNat (by omega); rwa [Int.toNat_of_nonneg hx.2.1] at this
    refine Ev.succ (g := fun k => (scansionref13_met.f k st (apY a a' (q.getD i (0, 0)) j).1 (apY a a' (q.getD i (0, 0)) j).2).bind fun t326 => (if t326 = true then (scansionref13_Apart.l2 k st i (wrap64 ((j : Int) + 1)) a b a' b' (q.getD i (0, 0)).1 (q.getD i (0, 0)).2 u v) else (if st.length < 4398046511104 then (scansionref13_Apart.l2 k (st ++ [(⟨(apY a a' (q.getD i (0, 0)) j).1, (apY a a' (q.getD i (0, 0)) j).2, i, j⟩ : S57)]) i (wrap64 ((j : Int) + 1)) a b a' b' (q.getD i (0, 0)).1 (q.getD i (0, 0)).2 u v) else (none)))) (Ev.bind hme ?_) fun k => ?_
    · by_cases hin : apY a a' (q.getD i (0, 0)) j ∈ (apRow a a' (q.getD i (0, 0)) (ws.getD i []) q ws j).1
      · rw [decide_eq_true hin]
        have e : apRow a a' (q.getD i (0, 0)) (ws.getD i []) q ws (j + 1) = apRow a a' (q.getD i (0, 0)) (ws.getD i []) q ws j := by rw [apRow, if_pos hin]
        have := ih (j + 1) st (by omega) (by rw [e]; exact hst)
        refine Ev.congr this fun k => ?_
        rw [if_pos rfl, wrap_succ (by omega)]
      · rw [decide_eq_false hin]
        have e : apRow a a' (q.getD i (0, 0)) (ws.getD i []) q ws (j + 1) = ((apRow a a' (q.getD i (0, 0)) (ws.getD i []) q ws j).1 ++ [apY a a' (q.getD i (0, 0)) j], (apRow a a' (q.getD i (0, 0)) (ws.getD i []) q ws j).2 ++ [ws.getD i [] ++ [(j : Int)]]) := by rw [apRow, if_neg hin]
        have hsn := hst.snoc (apY a a' (q.getD i (0, 0)) j) i j hil
        rw [hwi] at hsn
        have := ih (j + 1) _ (by omega) (by rw [e]; exact hsn)
        refine Ev.congr this fun k => ?_
        rw [if_neg (by decide), if_pos (by omega), wrap_succ (by omega)]
    · rw [scansionref13_Apart.l2, if_pos (by omega), if_pos (by omega), if_pos (by omega), if_pos (by omega), if_pos (by omega), if_pos (by omega), if_pos (by omega), if_pos (by omega), if_pos (by omega)]
      rfl
theorem apart_l0 (hw : Wf a b n m) (hw' : Wf a' b' n' m) : ∀ (c : Nat) (q : List (Int × Int)) (ws : List (List Int)) (i : Nat) (st : List S57), RefOk st q ws → QOk n n' q ws → i ≤ q.length → n * n' < c + i → Ev (fun k => scansionref13_Apart.l0 k st i a b a' b') ((apGo a b a' b' m c q ws i).1, (apGo a b a' b' m c q ws i).2, 0)
  | 0, q, ws, i, st, hst, hq, hi, hc => by
    have := hq.size
    omega
  | c + 1, q, ws, i, st, hst, hq, hi, hc => by
    have hstl := hst.len
    rw [apGo]
    by_cases hlt : i < q.length
    · rw [if_pos hlt]
      have hm := hw.most
      have hm' := hw'.most
      have hb := hw.blen
      have hb' := hw'.blen
      have hnn : n * n' ≤ 25000000 := Nat.le_trans (Nat.mul_le_mul hm hm') (by decide)
      have hsz := hq.size
      have hx := hq.lo (q.getD i (0, 0)) (by rw [List.getD_eq_getElem?_getD, List.getElem?_eq_getElem hlt]; exact List.getElem_mem hlt)
      obtain ⟨p1, p2⟩ := hst.pair i hlt
      by_cases hne : rdOf false b (q.getD i (0, 0)).1 ≠ rdOf false b' (q.getD i (0, 0)).2
      · rw [if_pos hne]
        have hws : (ws.getD i []).length ≤ i := hq.short i _ (by rw [List.getD_eq_getElem?_getD, List.getElem?_eq_getElem (by rw [hq.len]; exact hlt)]; rfl)
        have := word_l1 hst i [] hlt (by rw [List.length_nil]; omega)
        rw [List.append_nil] at this
        refine Ev.succ this fun k => ?_
        rw [scansionref13_Apart.l0, if_pos (by omega), if_pos (by omega), p1, p2, if_pos (by omega), if_pos (by omega), if_pos (by omega), if_pos (by omega), if_pos (bne_iff_ne.2 hne)]
      · rw [if_neg hne]
        refine Ev.succ (apart_l2 hw hw' hq hlt (u := (rd_T57 st i).f2) (v := (rd_T57 st i).f3) (fun st' hst' => apart_l0 hw hw' c _ _ (i + 1) st' hst' (apRow_QOk hw hw' hq hlt m (Nat.le_refl _)) ?_ (by omega)) m 0 st (by omega) hst) fun k => ?_
        · obtain ⟨r0, s0, hr0, hs0⟩ := apRow_pre a a' (q.getD i (0, 0)) (ws.getD i []) q ws m
          rw [hr0, List.length_append]; omega
        · rw [scansionref13_Apart.l0, if_pos (by omega), if_pos (by omega), p1, p2, if_pos (by omega), if_pos (by omega), if_pos (by omega), if_pos (by omega), if_neg (by simpa using hne)]
          rfl
    · rw [if_neg hlt]
      refine Ev.succ (Ev.some_ _) fun k => ?_
      rw [scansionref13_Apart.l0, if_neg (by omega)]
end
theorem ev_both (a : List (List Int)) (b : List Bool) (a' : List (List Int)) (b' : List Bool) : Ev (fun k => scansionref13_both.f k a b a' b') (bothB a b a' b') := by
  refine Ev.bind (ev_right a b) (Ev.bind (ev_right a' b') ?_)
  unfold bothB
  cases p : rightB a b with
  | false =>
    refine Ev.congr (Ev.some_ _) fun k => ?_
    rw [if_neg (by decide)]
    rfl
  | true =>
    cases p2 : rightB a' b' with
    | false =>
      refine Ev.congr (Ev.some_ _) fun k => ?_
      rw [if_pos rfl, if_neg (by decide)]
      rfl
    | true =>
      have h1 := (wf_of_right p).one
      have h2 := (wf_of_right p2).one
      refine Ev.congr (Ev.some_ _) fun k => ?_
      rw [if_pos rfl, if_pos rfl, if_pos (by omega), if_pos (by omega), Bool.true_and, Bool.true_and]
      apply congrArg some
      by_cases q : (rd_L1 a 0).length = (rd_L1 a' 0).length
      · rw [decide_eq_true q, q]; simp
      · rw [decide_eq_false q]; simp; omega
theorem both_wf {a : List (List Int)} {b : List Bool} {a' : List (List Int)} {b' : List Bool} (h : bothB a b a' b' = true) : Wf a b a.length (rd_L1 a 0).length ∧ Wf a' b' a'.length (rd_L1 a 0).length := by
  unfold bothB at h
  simp only [Bool.and_eq_true, decide_eq_true_eq] at h
  refine ⟨wf_of_right h.1.1, ?_⟩
  rw [h.2]
  exact wf_of_right h.1.2
theorem ev_refApart (a : List (List Int)) (b : List Bool) (a' : List (List Int)) (b' : List Bool) : Ev (fun k => scansionref13_Apart.f k a b a' b') (apartRes a b a' b') := by
  refine Ev.bind (ev_both a b a' b') ?_
  unfold apartRes
  cases p : bothB a b a' b' with
  | false =>
    rw [if_neg (by decide)]
    refine Ev.congr (Ev.some_ _) fun k => ?_
    rw [if_neg (by decide)]
  | true =>
    rw [if_pos rfl]
    obtain ⟨hw, hw'⟩ := both_wf p
    refine Ev.congr (apart_l0 hw hw' (a.length * a'.length + 1) [(0, 0)] [[]] 0 [(⟨0, 0, (-1), 0⟩ : S57)] ⟨rfl, rfl, fun j hj => ?_, fun j hj => ?_⟩ (QOk.start hw.one hw'.one) (by simp) (by omega)) fun k => ?_
    · obtain rfl : j = 0 := by simpa using hj
      exact ⟨rfl, rfl⟩
    · obtain rfl : j = 0 := by simpa using hj
      exact .inl ⟨by decide, rfl⟩
    · rw [if_pos rfl]
      rfl
end Go.Proofs.Ytadhjjfodpmelaa.Pure
