/- For all states: whether two tell the same, and the word, are as the reference says. -/
import Derived.Test.YtadhjjfodpmelaaPrint23
import Derived.Test.YtadhjjfodpmelaaLawA
import Derived.Test.YtadhjjfodpmelaaAwakeF
-- NEEDS scansionlaw13_LeastApart
namespace Go.Proofs.Ytadhjjfodpmelaa.Pure
open Go.RowKit Go.Proofs.Ytadhjjfodpmelaa.Print Go.Proofs.YtadhjjfodpmelaaW.PrintWords Go.Proofs.YtadhjjfodpmelaaW.PrintLast
set_option linter.unusedVariables false

theorem apart_len (a : List (List Int)) (b : List Bool) (a' : List (List Int)) (b' : List Bool) : (apartRes a b a' b').1.length ≤ 25000000 := by
  unfold apartRes
  cases p : bothB a b a' b' with
  | false => rw [if_neg (by decide)]; simp
  | true =>
    rw [if_pos rfl]
    obtain ⟨hw, hw'⟩ := both_wf p
    have hnn : a.length * a'.length ≤ 25000000 := Nat.le_trans (Nat.mul_le_mul hw.most hw'.most) (by decide)
    have go : ∀ (c : Nat) (q : List (Int × Int)) (ws : List (List Int)) (i : Nat), QOk a.length a'.length q ws → (apGo a b a' b' (rd_L1 a 0).length c q ws i).1.length ≤ 25000000 := by
      intro c
      induction c with
      | zero => intro q ws i _; rw [apGo]; simp
      | succ c ih =>
        intro q ws i hq
        rw [apGo]
        by_cases hlt : i < q.length
        · rw [if_pos hlt]
          split
          · have h1 := hq.short i (ws.getD i []) (by rw [List.getD_eq_getElem?_getD, List.getElem?_eq_getElem (by rw [hq.len]; exact hlt)]; rfl)
            have h2 := hq.size
            show (ws.getD i []).length ≤ _
            omega
          · exact ih _ _ _ (apRow_QOk hw hw' hq hlt _ (Nat.le_refl _))
        · rw [if_neg hlt]; simp
    exact go _ _ _ _ (QOk.start hw.one hw'.one)
theorem few_len {a : List (List Int)} {b : List Bool} {m : Int} (h : fewB a b m = true) : (a.length : Int) ≤ m ∧ (b.length : Int) ≤ m := by
  unfold fewB at h
  simp only [Bool.and_eq_true, decide_eq_true_eq] at h
  exact ⟨h.1.1, h.1.2⟩

theorem LeastApart (a : List (List Int)) (b : List Bool) (a' : List (List Int)) (b' : List Bool) (ha : a.length ≤ maxLen) (ha' : a'.length ≤ maxLen) : ∃ k, scansionlaw13_LeastApart.f k a b a' b' = some true := by
  have h : Ev (fun k => scansionlaw13_LeastApart.f k a b a' b') true := by
    refine Ev.congr (g := fun k => (scansionref12_Few.f k a b 20).bind fun t340 => ((scansionref12_Few.f k a' b' 20).bind fun t341 => (if t340 = true then (scansionlaw13_LeastApart.j0 k true (!t341) a b a' b') else (scansionlaw13_LeastApart.j0 k true true a b a' b')))) (Ev.bind (ev_few a b 20 ha) (Ev.bind (ev_few a' b' 20 ha') ?_)) fun k => ?_
    · have hno : Ev (fun k => scansionlaw13_LeastApart.j0 k true true a b a' b') true := Ev.succ (Ev.some_ true) fun k => by rw [scansionlaw13_LeastApart.j0, if_pos rfl]
      cases q : fewB a b 20 with
      | false => exact Ev.congr hno fun k => by rw [if_neg (by decide)]
      | true =>
        cases q2 : fewB a' b' 20 with
        | false => exact Ev.congr hno fun k => by rw [if_pos rfl]; rfl
        | true =>
          obtain ⟨r, hr⟩ : ∃ r, apartRes a b a' b' = r := ⟨_, rfl⟩
          have hlen := apart_len a b a' b'
          have hap : least_Apart.f a b a' b' = some r := by unfold least_Apart.f; rw [hr]
          have href := ev_refApart a b a' b'
          rw [hr] at hlen href
          have hsame := ev_sameInts r.1 r.1 (by omega)
          rw [decide_eq_true rfl] at hsame
          refine Ev.congr (g := fun k => scansionlaw13_LeastApart.j0 k true false a b a' b') ?_ fun k => by rw [if_pos rfl]; rfl
          obtain ⟨al, hal⟩ : ∃ al, least_Alike.f a b a' b' = some al ∧ al.2 = r.2.2 ∧ al.1 = (if r.2.2 = 0 then !r.2.1 else false) := by
            unfold least_Alike.f
            rw [hap, Option.bind_some]
            by_cases e : r.2.2 = 0
            · rw [if_pos e]; exact ⟨_, rfl, rfl, by rw [if_pos e]⟩
            · rw [if_neg e]; exact ⟨_, rfl, rfl, by rw [if_neg e]⟩
          refine Ev.succ (g := fun k => (scansionref13_Apart.f k a b a' b').bind fun bt347 => ((scansionref01_SameInts.f k r.1 bt347.1).bind fun t354 => (if t354 = true then (if (r.2.1 == bt347.2.1) = true then (if r.2.2 = bt347.2.2 then (if al.2 = bt347.2.2 then (if bt347.2.2 = 0 then (some (al.1 == (!bt347.2.1))) else (some (al.1 == false))) else (some false)) else (some false)) else (some false)) else (some false)))) (Ev.bind href (Ev.bind hsame ?_)) fun k => ?_
          · refine Ev.congr (Ev.some_ true) fun k => ?_
            rw [if_pos rfl, if_pos (beq_self_eq_true _), if_pos rfl, if_pos hal.2.1, hal.2.2]
            by_cases e : r.2.2 = 0
            · rw [if_pos e, if_pos e, beq_self_eq_true]
            · rw [if_neg e, if_neg e]; rfl
          · rw [scansionlaw13_LeastApart.j0, if_neg (by decide), hap, Option.bind_some, hal.1]; rfl
    · unfold scansionlaw13_LeastApart.f
      rw [awake_f, Option.bind_some]
      rfl
  obtain ⟨K, hK⟩ := h
  exact ⟨K, hK K (Nat.le_refl _)⟩
end Go.Proofs.Ytadhjjfodpmelaa.Pure
