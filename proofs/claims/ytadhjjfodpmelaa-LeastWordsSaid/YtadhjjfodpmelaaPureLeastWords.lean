/- For all states and classes: a word ends in a final state of the fewest just if it does so in those that they were made of. -/
import Derived.Test.YtadhjjfodpmelaaPrint26
import Derived.Test.YtadhjjfodpmelaaLawT
import Derived.Test.YtadhjjfodpmelaaLawR
-- NEEDS scansionlaw13_LeastWords
namespace Go.Proofs.Ytadhjjfodpmelaa.Pure
open Go.RowKit Go.Proofs.Ytadhjjfodpmelaa.Print Go.Proofs.YtadhjjfodpmelaaW.PrintWords Go.Proofs.YtadhjjfodpmelaaW.PrintLast
set_option linter.unusedVariables false

theorem LeastWords (a : List (List Int)) (b : List Bool) (u : List Int) (ha : a.length ≤ maxLen) (hu : u.length ≤ maxLen) : ∃ k, scansionlaw13_LeastWords.f k a b u = some true := by
  have h : Ev (fun k => scansionlaw13_LeastWords.f k a b u) true := by
    refine Ev.congr (g := fun k => (scansionref12_Few.f k a b 25).bind fun t171 => (if t171 = true then (scansionlaw13_LeastWords.j0 k u true (decide ((u.length : Int) > 100)) a b) else (scansionlaw13_LeastWords.j0 k u true true a b))) (Ev.bind (ev_few a b 25 ha) ?_) fun k => ?_
    · have hno : Ev (fun k => scansionlaw13_LeastWords.j0 k u true true a b) true := Ev.succ (Ev.some_ true) fun k => by rw [scansionlaw13_LeastWords.j0, if_pos rfl]
      cases q : fewB a b 25 with
      | false => exact Ev.congr hno fun k => by rw [if_neg (by decide)]
      | true =>
        refine Ev.congr (g := fun k => scansionlaw13_LeastWords.j0 k u true (decide ((u.length : Int) > 100)) a b) ?_ fun k => by rw [if_pos rfl]
        by_cases h100 : (u.length : Int) > 100
        · rw [decide_eq_true h100]; exact hno
        · rw [decide_eq_false h100]
          have hul : u.length < 9223372036854775807 := by omega
          cases p : rightB a b with
          | false => exact Ev.succ (Ev.some_ true) fun k => by rw [scansionlaw13_LeastWords.j0, if_neg (by decide), least_not p, Option.bind_some, if_neg (by decide)]; rfl
          | true =>
            have hw := wf_of_right p
            obtain ⟨kind, h1, h2, h3⟩ := least_right p
            obtain ⟨s1, s2, s3, R, s4⟩ := least_spec hw h3
            obtain ⟨x, y, hxy⟩ : ∃ x y, Print.leastOf a b kind = (x, y) := ⟨_, _, rfl⟩
            rw [hxy] at h1 s1 s2 s3 s4
            have s1 : rightB x y = true := s1
            have s2 : (rd_L1 x 0).length = (rd_L1 a 0).length := s2
            have s3 : x.length ≤ a.length := s3
            have s4 : Bis a b x y a.length x.length (rd_L1 a 0).length R := s4
            have hwx := wf_of_right s1
            rw [s2] at hwx
            have r1 := ev_run p u hul
            have r2 := ev_run s1 u hul
            rw [s2] at r2
            have hlx : least_Least.f a b = some (x, y, 0) := h1
            by_cases hwo : wordB (rd_L1 a 0).length u = true
            · rw [if_pos hwo] at r1 r2
              have hok := wordB_iff.1 hwo
              have hword := s4.word hw hwx hok
              obtain ⟨t, t1, t2⟩ := runI_lt hw u 0 hok hw.one
              obtain ⟨t', t3, t4⟩ := runI_lt hwx u 0 hok hwx.one
              have t2 : runI a 0 u = t := t2
              have t4 : runI x 0 u = t' := t4
              rw [t2] at r1 hword
              rw [t4] at r2 hword
              have hb := hw.blen
              have hby := hwx.blen
              obtain ⟨al, hal, hal1, hal2⟩ : ∃ al, least_Alike.f a b x y = some al ∧ al.1 = true ∧ al.2 = 0 := by
                have hboth : bothB a b x y = true := by unfold bothB; rw [p, s1, s2, decide_eq_true rfl]; rfl
                have hf : (apartOf a b x y).2 = false := by
                  rcases apart_spec hw hwx rfl with ⟨e, _⟩ | ⟨_, w1, w2, _⟩
                  · exact e
                  · exact absurd (s4.word hw hwx w1) w2
                unfold least_Alike.f least_Apart.f apartRes
                rw [Option.bind_some, if_pos hboth, if_pos rfl, hf]
                exact ⟨_, rfl, rfl, rfl⟩
              refine Ev.succ (g := fun k => (scansionref12_Run.f k a b 0 u).bind fun bt180 => ((scansionref12_Run.f k x y 0 u).bind fun bt182 => (if bt180.2 = 0 then (if bt182.2 = 0 then ((least_Alike.f a b x y).bind fun bt184 => (if 0 ≤ bt180.1 then (if bt180.1 < (b.length : Int) then (if 0 ≤ bt182.1 then (if bt182.1 < (y.length : Int) then (if ((rdOf false b bt180.1) == (rdOf false y bt182.1)) = true then (if bt184.1 = true then (if bt184.2 = 0 then (some (decide ((x.length : Int) ≤ (a.length : Int)))) else (some false)) else (some false)) else (some false)) else (none)) else (none)) else (none)) else (none))) else (some (bt180.2 == bt182.2))) else (some (bt180.2 == bt182.2)))))
                (Ev.bind r1 (Ev.bind r2 (Ev.congr (Ev.some_ true) fun k => ?_))) fun k => ?_
              · rw [if_pos rfl, if_pos rfl, hal, Option.bind_some, if_pos (by show (0 : Int) ≤ (t : Int); omega), if_pos (by show (t : Int) < _; omega), if_pos (by show (0 : Int) ≤ (t' : Int); omega), if_pos (by show (t' : Int) < _; omega), hword, if_pos (beq_self_eq_true _), if_pos hal1, if_pos hal2, decide_eq_true (by omega)]
              · rw [scansionlaw13_LeastWords.j0, if_neg (by decide), hlx, Option.bind_some, if_pos rfl]
            · rw [if_neg hwo] at r1 r2
              refine Ev.succ (g := fun k => (scansionref12_Run.f k a b 0 u).bind fun bt180 => ((scansionref12_Run.f k x y 0 u).bind fun bt182 => (if bt180.2 = 0 then (if bt182.2 = 0 then ((least_Alike.f a b x y).bind fun bt184 => (if 0 ≤ bt180.1 then (if bt180.1 < (b.length : Int) then (if 0 ≤ bt182.1 then (if bt182.1 < (y.length : Int) then (if ((rdOf false b bt180.1) == (rdOf false y bt182.1)) = true then (if bt184.1 = true then (if bt184.2 = 0 then (some (decide ((x.length : Int) ≤ (a.length : Int)))) else (some false)) else (some false)) else (some false)) else (none)) else (none)) else (none)) else (none))) else (some (bt180.2 == bt182.2))) else (some (bt180.2 == bt182.2)))))
                (Ev.bind r1 (Ev.bind r2 (Ev.congr (Ev.some_ true) fun k => ?_))) fun k => ?_
              · rw [if_neg (by decide)]; rfl
              · rw [scansionlaw13_LeastWords.j0, if_neg (by decide), hlx, Option.bind_some, if_pos rfl]
    · unfold scansionlaw13_LeastWords.f
      rw [awake_f, Option.bind_some]
      rfl
  obtain ⟨K, hK⟩ := h
  exact ⟨K, hK K (Nat.le_refl _)⟩
end Go.Proofs.Ytadhjjfodpmelaa.Pure
