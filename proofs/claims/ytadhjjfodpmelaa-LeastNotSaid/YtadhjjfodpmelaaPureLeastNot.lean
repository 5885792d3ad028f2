/- For all states: where Final is turned, the fewest states lead as they did. -/
import Derived.Test.YtadhjjfodpmelaaPrint15
import Derived.Test.YtadhjjfodpmelaaLawK
-- NEEDS scansionlaw13_LeastNot
namespace Go.Proofs.Ytadhjjfodpmelaa.Pure
open Go.RowKit Go.Proofs.Ytadhjjfodpmelaa.Print Go.Proofs.YtadhjjfodpmelaaW.PrintWords Go.Proofs.YtadhjjfodpmelaaW.PrintLast
set_option linter.unusedVariables false

theorem fin_not {b : List Bool} {i : Nat} (h : i < b.length) : fin (b.map (fun x => !x)) i = !(fin b i) := by
  unfold fin rdOf
  rw [Int.toNat_natCast, List.getD_eq_getElem?_getD, List.getD_eq_getElem?_getD, List.getElem?_map, List.getElem?_eq_getElem h]
  rfl
theorem right_not (a : List (List Int)) (b : List Bool) : rightB a (b.map (fun x => !x)) = rightB a b := by
  unfold rightB
  rw [List.length_map]
theorem D_not {a : List (List Int)} {b : List Bool} {n m : Nat} (hw : Wf a b n m) : ∀ (r i k : Nat), i < n → k < n → (D a (b.map (fun x => !x)) m r i k ↔ D a b m r i k)
  | 0, i, k, hi, hk => by
    unfold D
    rw [fin_not (by rw [hw.blen]; exact hi), fin_not (by rw [hw.blen]; exact hk)]
    cases fin b i <;> cases fin b k <;> simp
  | r + 1, i, k, hi, hk => by
    show D a (b.map (fun x => !x)) m r i k ∨ (∃ c, c < m ∧ D a (b.map (fun x => !x)) m r (nx a i c) (nx a k c)) ↔ D a b m r i k ∨ (∃ c, c < m ∧ D a b m r (nx a i c) (nx a k c))
    rw [D_not hw r i k hi hk]
    refine or_congr_right ⟨fun ⟨c, hc, h⟩ => ⟨c, hc, (D_not hw r _ _ (hw.nx hi hc).1 (hw.nx hk hc).1).1 h⟩, fun ⟨c, hc, h⟩ => ⟨c, hc, (D_not hw r _ _ (hw.nx hi hc).1 (hw.nx hk hc).1).2 h⟩⟩
/-- Where Final is turned. -/
theorem least_turned (a : List (List Int)) (b : List Bool) : ∃ x y e, least_Least.f a b = some (x, y, e) ∧ least_Least.f a (b.map (fun x => !x)) = some (x, y.map (fun x => !x), e) := by
  cases q : rightB a b with
  | false => exact ⟨[], [], 1, least_not q, least_not ((right_not a b).trans q)⟩
  | true =>
    have hw := wf_of_right q
    obtain ⟨k1, h1, h2, h3⟩ := least_right q
    obtain ⟨k2, h4, h5, h6⟩ := least_right ((right_not a b).trans q)
    refine ⟨_, _, _, h1, ?_⟩
    have := leastGo_kinds hw (fun x => !x) (fun i hi => fin_not (by rw [hw.blen]; exact hi)) (k1 := k1) (k2 := k2) (fun i k hi hk => by
      rw [h3 i k hi hk, h6 i k hi hk]
      refine not_congr ⟨fun ⟨r, h⟩ => ⟨r, (D_not hw r i k hi hk).2 h⟩, fun ⟨r, h⟩ => ⟨r, (D_not hw r i k hi hk).1 h⟩⟩) (a.length + 1) [] [] [0] (ord_zero hw.one)
    rw [h4]
    show some ((leastGo a (b.map (fun x => !x)) k2 (a.length + 1) [] ([].map (fun x => !x)) [0]).1, (leastGo a (b.map (fun x => !x)) k2 (a.length + 1) [] ([].map (fun x => !x)) [0]).2, (0 : Int)) = _
    rw [this]
    rfl

theorem not_l1 (x : List (List Int)) (y : List Bool) (h1 : x.length ≤ 5001) (h2 : y.length = x.length) (h3 : ∀ r ∈ x, r.length ≤ 200) : ∀ (c i : Nat), i + c = y.length → Ev (fun k => scansionlaw13_LeastNot.l1 k i x y x (y.map (fun x => !x))) true
  | 0, i, hi => by
    have hs := ev_sameR x y h1 h2 h3
    rw [decide_eq_true ⟨rfl, rfl⟩] at hs
    refine Ev.succ (g := fun k => (scansionref12_Same.f k x y x y).bind fun t274 => (some t274)) (Ev.bind hs (Ev.some_ true)) fun k => ?_
    rw [scansionlaw13_LeastNot.l1, if_neg (by omega)]
  | c + 1, i, hi => by
    have e : rdOf false (y.map (fun x => !x)) (i : Int) = !(rdOf false y (i : Int)) := fin_not (by omega)
    refine Ev.succ (not_l1 x y h1 h2 h3 c (i + 1) (by omega)) fun k => ?_
    rw [scansionlaw13_LeastNot.l1, if_pos (by omega), if_pos (by omega), if_pos (by rw [List.length_map]; omega), e, if_neg (by cases rdOf false y (i : Int) <;> simp), wrap_succ (by omega)]
theorem not_l0 (a : List (List Int)) (b : List Bool) (hb : b.length ≤ 25) : ∀ (c i : Nat), i + c = b.length → Ev (fun k => scansionlaw13_LeastNot.l0 k i a b a ((b.take i).map (fun x => !x))) true
  | 0, i, hi => by
    obtain rfl : i = b.length := hi
    rw [List.take_length]
    obtain ⟨x, y, e, h1, h2⟩ := least_turned a b
    obtain ⟨s1, s2, s3⟩ := least_sizes h1
    have s1 : x.length ≤ 5001 := s1
    have s2 : y.length = x.length := s2
    have h3 := not_l1 x y s1 s2 s3 y.length 0 (by omega)
    by_cases q : e = 0
    · refine Ev.succ (g := fun k => scansionlaw13_LeastNot.j2 k e e (e != 0) x y x (y.map (fun x => !x))) (Ev.succ h3 fun k => ?_) fun k => ?_
      · rw [q, scansionlaw13_LeastNot.j2, if_neg (by decide), if_pos (by rw [List.length_map])]
        rfl
      · rw [scansionlaw13_LeastNot.l0, if_neg (by omega), h1, Option.bind_some, h2, Option.bind_some, if_pos q]
    · refine Ev.succ (g := fun k => scansionlaw13_LeastNot.j2 k e e true x y x (y.map (fun x => !x))) (Ev.succ (Ev.some_ true) fun k => ?_) fun k => ?_
      · rw [scansionlaw13_LeastNot.j2, if_pos rfl, beq_self_eq_true]
      · rw [scansionlaw13_LeastNot.l0, if_neg (by omega), h1, Option.bind_some, h2, Option.bind_some, if_neg q]
  | c + 1, i, hi => by
    have e : (b.take (i + 1)).map (fun x => !x) = (b.take i).map (fun x => !x) ++ [!(rdOf false b (i : Int))] := by
      rw [List.take_succ_eq_append_getElem (by omega), List.map_append]
      unfold rdOf
      rw [Int.toNat_natCast, List.getD_eq_getElem?_getD, List.getElem?_eq_getElem (by omega : i < b.length)]
      rfl
    have ih := not_l0 a b hb c (i + 1) (by omega)
    rw [e] at ih
    refine Ev.succ ih fun k => ?_
    rw [scansionlaw13_LeastNot.l0, if_pos (by omega), if_pos (by omega), if_pos (by rw [List.length_map, List.length_take]; omega), wrap_succ (by omega)]

theorem LeastNot (a : List (List Int)) (b : List Bool) (ha : a.length ≤ maxLen) : ∃ k, scansionlaw13_LeastNot.f k a b = some true := by
  have h : Ev (fun k => scansionlaw13_LeastNot.f k a b) true := by
    refine Ev.congr (g := fun k => (scansionref12_Few.f k a b 25).bind fun t230 => scansionlaw13_LeastNot.j0 k true (!t230) a b) (Ev.bind (ev_few a b 25 ha) ?_) fun k => ?_
    · cases q : fewB a b 25 with
      | true =>
        have hb : b.length ≤ 25 := by
          unfold fewB at q
          simp only [Bool.and_eq_true, decide_eq_true_eq] at q
          omega
        refine Ev.succ (not_l0 a b hb b.length 0 (by omega)) fun k => ?_
        rw [scansionlaw13_LeastNot.j0, if_neg (by decide)]
        rfl
      | false =>
        refine Ev.succ (Ev.some_ true) fun k => ?_
        rw [scansionlaw13_LeastNot.j0, if_pos (by decide)]
    · unfold scansionlaw13_LeastNot.f
      rw [awake_f, Option.bind_some]
      rfl
  obtain ⟨K, hK⟩ := h
  exact ⟨K, hK K (Nat.le_refl _)⟩
end Go.Proofs.Ytadhjjfodpmelaa.Pure
