/- For all states: the fewest of the fewest are these; two tell the same just if their fewest are the same. -/
import Derived.Test.YtadhjjfodpmelaaPrint25
import Derived.Test.YtadhjjfodpmelaaLawT
-- NEEDS scansionlaw13_LeastAgain
namespace Go.Proofs.Ytadhjjfodpmelaa.Pure
open Go.RowKit Go.Proofs.Ytadhjjfodpmelaa.Print Go.Proofs.YtadhjjfodpmelaaW.PrintWords Go.Proofs.YtadhjjfodpmelaaW.PrintLast
set_option linter.unusedVariables false

/-- What is known of the fewest states of states that are right. -/
theorem least_all {a : List (List Int)} {b : List Bool} (h : rightB a b = true) : ∃ x y, least_Least.f a b = some (x, y, 0) ∧ rightB x y = true ∧ (rd_L1 x 0).length = (rd_L1 a 0).length ∧ x.length ≤ a.length ∧ (∃ R, Bis a b x y a.length x.length (rd_L1 a 0).length R) ∧ least_Least.f x y = some (x, y, 0) := by
  have hw := wf_of_right h
  obtain ⟨kind, h1, h2, h3⟩ := least_right h
  obtain ⟨s1, s2, s3, R, s4⟩ := least_spec hw h3
  refine ⟨_, _, h1, s1, s2, s3, ⟨R, s4⟩, ?_⟩
  have hw2 := wf_of_right s1
  obtain ⟨kind2, g1, g2, g3⟩ := least_right s1
  rw [s2] at hw2 g3
  have e := least_same hw hw2 s4 h3 g3
  rw [g1, ← e]
/-- Alike just if the fewest are the same. -/
theorem alike_iff {a : List (List Int)} {b : List Bool} {a' : List (List Int)} {b' : List Bool} (h : bothB a b a' b' = true) {x x' : List (List Int)} {y y' : List Bool} (hx : least_Least.f a b = some (x, y, 0)) (hx' : least_Least.f a' b' = some (x', y', 0)) : (!(apartOf a b a' b').2) = decide (x = x' ∧ y = y') := by
  unfold bothB at h
  simp only [Bool.and_eq_true, decide_eq_true_eq] at h
  have hw := wf_of_right h.1.1
  have hw' := wf_of_right h.1.2
  rw [← h.2] at hw'
  have hs := apart_spec hw hw' rfl
  obtain ⟨kind, h1, _, h3⟩ := least_right h.1.1
  obtain ⟨kind', h4, _, h6⟩ := least_right h.1.2
  rw [← h.2] at h6
  cases q : (apartOf a b a' b').2 with
  | false =>
    obtain ⟨R, hR⟩ := bis_of_false hw hw' hs q
    have e := least_same hw hw' hR h3 h6
    rw [h1] at hx
    rw [h4, ← e] at hx'
    have e1 := Option.some.inj hx
    have e2 := Option.some.inj hx'
    rw [e1] at e2
    have e3 : x = x' := congrArg Prod.fst e2
    have e4 : y = y' := congrArg (fun p => p.2.1) e2
    rw [decide_eq_true ⟨e3, e4⟩]
    rfl
  | true =>
    rw [decide_eq_false]
    · rfl
    · rintro ⟨rfl, rfl⟩
      obtain ⟨x1, y1, a1, a2, a3, _, ⟨R, a5⟩, _⟩ := least_all h.1.1
      obtain ⟨x2, y2, b1, b2, b3, _, ⟨R', b5⟩, _⟩ := least_all h.1.2
      rw [hx] at a1
      rw [hx'] at b1
      have e1 := Option.some.inj a1
      have e2 := Option.some.inj b1
      obtain rfl : x = x1 := congrArg Prod.fst e1
      obtain rfl : y = y1 := congrArg (fun p => p.2.1) e1
      obtain rfl : x = x2 := congrArg Prod.fst e2
      obtain rfl : y = y2 := congrArg (fun p => p.2.1) e2
      rw [← h.2] at b5
      have hwx := wf_of_right a2
      rw [a3] at hwx
      rcases hs with ⟨e, _⟩ | ⟨_, w1, w2, _⟩
      · rw [q] at e; cases e
      · exact w2 ((a5.word hw hwx w1).trans (b5.word hw' hwx w1).symm)

theorem LeastAgain (a : List (List Int)) (b : List Bool) (a' : List (List Int)) (b' : List Bool) (ha : a.length ≤ maxLen) (ha' : a'.length ≤ maxLen) : ∃ k, scansionlaw13_LeastAgain.f k a b a' b' = some true := by
  have h : Ev (fun k => scansionlaw13_LeastAgain.f k a b a' b') true := by
    refine Ev.congr (g := fun k => (scansionref12_Few.f k a b 20).bind fun t377 => ((scansionref12_Few.f k a' b' 20).bind fun t378 => (if t377 = true then (scansionlaw13_LeastAgain.j0 k true (!t378) a b a' b') else (scansionlaw13_LeastAgain.j0 k true true a b a' b')))) (Ev.bind (ev_few a b 20 ha) (Ev.bind (ev_few a' b' 20 ha') ?_)) fun k => ?_
    · have hno : Ev (fun k => scansionlaw13_LeastAgain.j0 k true true a b a' b') true := Ev.succ (Ev.some_ true) fun k => by rw [scansionlaw13_LeastAgain.j0, if_pos rfl]
      cases q : fewB a b 20 with
      | false => exact Ev.congr hno fun k => by rw [if_neg (by decide)]
      | true =>
        cases q2 : fewB a' b' 20 with
        | false => exact Ev.congr hno fun k => by rw [if_pos rfl]; rfl
        | true =>
          refine Ev.congr (g := fun k => scansionlaw13_LeastAgain.j0 k true false a b a' b') ?_ fun k => by rw [if_pos rfl]; rfl
          have hskip : ∀ u v x y, Ev (fun k => scansionlaw13_LeastAgain.j1 k true a b a' b' u v x y) true := fun u v x y => Ev.succ (Ev.some_ true) fun k => by rw [scansionlaw13_LeastAgain.j1, if_pos rfl]
          cases p : rightB a b with
          | false =>
            have h1 := least_not p
            cases p2 : rightB a' b' with
            | false => exact Ev.succ (hskip [] [] [] []) fun k => by rw [scansionlaw13_LeastAgain.j0, if_neg (by decide), h1, Option.bind_some, least_not p2, Option.bind_some, if_neg (by decide)]
            | true =>
              obtain ⟨x', y', b1, _⟩ := least_all p2
              exact Ev.succ (hskip [] [] x' y') fun k => by rw [scansionlaw13_LeastAgain.j0, if_neg (by decide), h1, Option.bind_some, b1, Option.bind_some, if_neg (by decide)]
          | true =>
            obtain ⟨x, y, a1, a2, a3, _, _, a6⟩ := least_all p
            cases p2 : rightB a' b' with
            | false => exact Ev.succ (hskip x y [] []) fun k => by rw [scansionlaw13_LeastAgain.j0, if_neg (by decide), a1, Option.bind_some, least_not p2, Option.bind_some, if_pos rfl]; rfl
            | true =>
              obtain ⟨x', y', b1, b2, b3, _, _, _⟩ := least_all p2
              obtain ⟨z1, z2, z3⟩ := least_sizes a1
              have z1 : x.length ≤ 5001 := z1
              have z2 : y.length = x.length := z2
              have hs1 := ev_sameR x y z1 z2 z3
              rw [decide_eq_true ⟨rfl, rfl⟩] at hs1
              have hs2 := ev_sameR x' y' z1 z2 z3
              have hr := ev_right x y
              rw [a2] at hr
              have hend : Ev (fun k => (scansionref12_Right.f k x y).bind fun t407 => (some t407)) true := Ev.bind hr (Ev.some_ true)
              obtain ⟨al, hal, hal2⟩ : ∃ al, least_Alike.f a b a' b' = some al ∧ (al.2 = 0 → al.1 = decide (x = x' ∧ y = y')) := by
                unfold least_Alike.f least_Apart.f apartRes
                rw [Option.bind_some]
                cases r : bothB a b a' b' with
                | false =>
                  rw [if_neg (show ¬ (false = true) by decide), if_neg (show ¬ ((1 : Int) = 0) by decide)]
                  exact ⟨_, rfl, fun e => by cases e⟩
                | true =>
                  rw [if_pos rfl, if_pos rfl]
                  exact ⟨_, rfl, fun _ => alike_iff r a1 b1⟩
              refine Ev.succ (g := fun k => scansionlaw13_LeastAgain.j1 k false a b a' b' x y x' y') (Ev.succ (g := fun k => (scansionref12_Same.f k x y x y).bind fun t403 => ((scansionref12_Same.f k x y x' y').bind fun t406 => (if t403 = true then (if al.2 = 0 then (if (al.1 == t406) = true then ((scansionref12_Right.f k x y).bind fun t407 => (some t407)) else (some false)) else ((scansionref12_Right.f k x y).bind fun t408 => (some t408))) else (some false)))) (Ev.bind hs1 (Ev.bind hs2 ?_)) fun k => ?_) fun k => ?_
              · by_cases e : al.2 = 0
                · refine Ev.congr hend fun k => ?_
                  rw [if_pos rfl, if_pos e, hal2 e, if_pos (beq_self_eq_true _)]
                · refine Ev.congr hend fun k => ?_
                  rw [if_pos rfl, if_neg e]
              · rw [scansionlaw13_LeastAgain.j1, if_neg (by decide), a6, Option.bind_some, hal]
                rfl
              · rw [scansionlaw13_LeastAgain.j0, if_neg (by decide), a1, Option.bind_some, b1, Option.bind_some, if_pos rfl]
                rfl
    · unfold scansionlaw13_LeastAgain.f
      rw [awake_f, Option.bind_some]
      rfl
  obtain ⟨K, hK⟩ := h
  exact ⟨K, hK K (Nat.le_refl _)⟩
end Go.Proofs.Ytadhjjfodpmelaa.Pure
