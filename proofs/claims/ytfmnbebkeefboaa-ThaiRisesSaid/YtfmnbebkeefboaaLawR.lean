/- The law ThaiRises: the places rise from 0 to the end; between two there is a word, or no word begins. -/
import Derived.Test.YtfmnbebkeefboaaLawC
import Derived.Test.YtfmnbebkeefboaaPrint21
-- NEEDS scansionlaw20_ThaiRises
namespace Go.Proofs.Ytfmnbebkeefboaa.Pure
open Go.RowKit Go.Proofs.Ytfmnbebkeefboaa.Print Go.Proofs.YtfmnbebkeefboaaW.PrintWords Go.Proofs.YtfmnbebkeefboaaW.PrintLast
set_option linter.unusedVariables false
set_option linter.unusedSimpArgs false

def isW (p q : Int) (x : S31) : Bool := decide (x.f0 = p) && (x.f1 == q)
def isB (p q : Int) (x : S31) : Bool := decide (x.f0 ≥ p) && decide (x.f0 < q)
/-- One word more. -/
theorem rises_step {l : List S31} {P : List Int} {i j : Nat} {x : S31} (hl : l.length ≤ 60) (hi : i + 1 < P.length) (hP : P.length ≤ 6000) (hj : j < l.length) (hx : rd_T31 l (j : Int) = x) (w b : Bool) (k : Nat) :
    scansionlaw20_ThaiRises.l1 (k + 1) l P ((i + 1 : Nat) : Int) w b (j : Int) = scansionlaw20_ThaiRises.l1 k l P ((i + 1 : Nat) : Int) (w || isW (rd P (i : Int)) (rd P ((i + 1 : Nat) : Int)) x) (b || isB (rd P (i : Int)) (rd P ((i + 1 : Nat) : Int)) x) ((j + 1 : Nat) : Int) := by
  have hw1 : wrap64 (((i + 1 : Nat) : Int) - 1) = (i : Int) := by unfold wrap64; omega
  rw [scansionlaw20_ThaiRises.l1, if_pos (show (j : Int) < (l.length : Int) by omega), hw1, hx, wrap_succ (show j < 9223372036854775807 by omega)]
  have g1 : 0 ≤ (j : Int) := by omega
  have g2 : 0 ≤ (i : Int) := by omega
  have g3 : (i : Int) < (P.length : Int) := by omega
  have g4 : 0 ≤ ((i + 1 : Nat) : Int) := by omega
  have g5 : ((i + 1 : Nat) : Int) < (P.length : Int) := by omega
  generalize rd P (i : Int) = p
  generalize rd P ((i + 1 : Nat) : Int) = q
  unfold isW isB
  cases w with
  | true =>
    rw [if_pos rfl, Bool.true_or]
    cases b with
    | true => rw [if_pos rfl, Bool.true_or]
    | false =>
      rw [if_neg (by simp), if_pos g1, if_pos g2, if_pos g3, Bool.false_or]
      by_cases a : x.f0 ≥ p
      · rw [if_pos a, if_pos g4, if_pos g5, decide_eq_true a, Bool.true_and]
      · rw [if_neg a, decide_eq_false a, Bool.false_and]
  | false =>
    rw [if_neg (by simp), if_pos g1, if_pos g2, if_pos g3, Bool.false_or]
    by_cases a0 : x.f0 = p
    · rw [if_pos a0, if_pos g4, if_pos g5, decide_eq_true a0, Bool.true_and]
      cases b with
      | true => rw [if_pos rfl, Bool.true_or]
      | false =>
        rw [if_neg (by simp), Bool.false_or]
        by_cases a : x.f0 ≥ p
        · rw [if_pos a, decide_eq_true a, Bool.true_and]
        · rw [if_neg a, decide_eq_false a, Bool.false_and]
    · rw [if_neg a0, decide_eq_false a0, Bool.false_and]
      cases b with
      | true => rw [if_pos rfl, Bool.true_or]
      | false =>
        rw [if_neg (by simp), Bool.false_or]
        by_cases a : x.f0 ≥ p
        · rw [if_pos a, if_pos g4, if_pos g5, decide_eq_true a, Bool.true_and]
        · rw [if_neg a, decide_eq_false a, Bool.false_and]
theorem ev_rises_l1 {l : List S31} (hl : l.length ≤ 60) {P : List Int} {i : Nat} (hi : i + 1 < P.length) (hP : P.length ≤ 6000) (hlt : rd P (i : Int) < rd P ((i + 1 : Nat) : Int)) (hnext : Ev (fun k => scansionlaw20_ThaiRises.l0 k l P ((i + 2 : Nat) : Int)) true) : ∀ (c j : Nat) (w b : Bool), j + c = l.length →
    ((w || (l.drop j).any (isW (rd P (i : Int)) (rd P ((i + 1 : Nat) : Int)))) = true ∨ (b || (l.drop j).any (isB (rd P (i : Int)) (rd P ((i + 1 : Nat) : Int)))) = false) → Ev (fun k => scansionlaw20_ThaiRises.l1 k l P ((i + 1 : Nat) : Int) w b (j : Int)) true
  | 0, j, w, b, h, hc => by
    obtain rfl : j = l.length := by omega
    rw [List.drop_length, List.any_nil, List.any_nil, Bool.or_false, Bool.or_false] at hc
    have hw1 : wrap64 (((i + 1 : Nat) : Int) - 1) = (i : Int) := by unfold wrap64; omega
    have hw2 : wrap64 (((i + 1 : Nat) : Int) + 1) = ((i + 2 : Nat) : Int) := by unfold wrap64; omega
    refine hnext.succ fun k => ?_
    rw [scansionlaw20_ThaiRises.l1, if_neg (by omega), if_pos (by omega), if_pos (by omega), hw1, if_pos (by omega), if_pos (by omega), if_neg (by omega), hw2]
    cases w with
    | true => rw [if_pos rfl]
    | false =>
      rw [if_neg (by simp)]
      rcases hc with hc | hc
      · cases hc
      · rw [hc, if_neg (by simp)]
  | c + 1, j, w, b, h, hc => by
    have hj : j < l.length := by omega
    obtain ⟨x, hx⟩ : ∃ x, rd_T31 l (j : Int) = x := ⟨_, rfl⟩
    rw [drop31 hj, hx, List.any_cons, List.any_cons, ← Bool.or_assoc, ← Bool.or_assoc] at hc
    exact (ev_rises_l1 hl hi hP hlt hnext c (j + 1) _ _ (by omega) hc).succ fun k => rises_step hl hi hP hj hx w b k
theorem ev_rises_l0 {n : Int} {l : List S31} (hl : l.length ≤ 60) (hok : okT n l = true) {P : List Int} (hw : Way (toL l) n P) (hP : P.length ≤ 6000) : ∀ (c i : Nat), i + c = P.length → 1 ≤ i → Ev (fun k => scansionlaw20_ThaiRises.l0 k l P (i : Int)) true
  | 0, i, h, h1 => by
    refine (Ev.some_ true).succ fun k => ?_
    rw [scansionlaw20_ThaiRises.l0, if_neg (by omega)]
  | c + 1, i, h, h1 => by
    obtain ⟨i, rfl⟩ : ∃ m, i = m + 1 := ⟨i - 1, by omega⟩
    have ih := ev_rises_l0 hl hok hw hP c (i + 2) (by omega) (by omega)
    obtain ⟨s1, s2, s3⟩ := hw.step i (by omega)
    have hnx := nextP_in (okT_fwd hok) s2
    have hwd := next_word hok ⟨s1, s2⟩
    rw [← s3] at hnx hwd
    have h2 := ev_rises_l1 hl (i := i) (by omega) hP hnx.1 ih l.length 0 false false (by omega) (by
      rw [List.drop_zero, Bool.false_or, Bool.false_or]
      rcases hwd with ⟨x, hx, e1, e2⟩ | hno
      · exact .inl (List.any_eq_true.2 ⟨x, hx, by unfold isW; rw [decide_eq_true e1, e2]; simp⟩)
      · refine .inr ?_
        cases q : l.any (isB (rd P (i : Int)) (rd P ((i + 1 : Nat) : Int))) with
        | false => rfl
        | true =>
          obtain ⟨x, hx, hb⟩ := List.any_eq_true.1 q
          unfold isB at hb
          simp at hb
          exact absurd ⟨hb.1, by simpa using hb.2⟩ (hno x hx))
    refine h2.succ fun k => ?_
    rw [scansionlaw20_ThaiRises.l0, if_pos (by omega)]
    rfl
theorem ThaiRises (n : Int) (l : List S31) : ∃ k, scansionlaw20_ThaiRises.f k n l = some true := by
  have h0 : Ev (fun k => scansionlaw20_ThaiRises.j0 k n l true (!fewB n l)) true := by
    cases q : fewB n l with
    | false => exact (Ev.some_ true).succ fun k => by rw [scansionlaw20_ThaiRises.j0, if_pos (by rfl)]
    | true =>
      have hl := few_len q
      cases hok : okT n l with
      | false =>
        have e : partsR n l = ([], 1) := by unfold partsR; rw [hok]; rfl
        refine (Ev.some_ true).succ fun k => ?_
        rw [scansionlaw20_ThaiRises.j0, if_neg (by simp)]
        unfold thai_Parts.f
        rw [e, Option.bind_some, if_neg (by decide), if_pos rfl]
        rfl
      | true =>
        obtain ⟨e, hw⟩ := partsR_way hok
        have hlen := partsR_len n l
        rw [e] at hlen
        obtain ⟨P, hP⟩ : ∃ P, 0 :: partsL (toL l) n n.toNat 0 = P := ⟨_, rfl⟩
        have hfirst : rd P 0 = 0 := by rw [← hP]; rfl
        rw [hP] at e hw hlen
        simp only at hlen
        have h := ev_rises_l0 hl.1 hok hw (by omega) (P.length - 1) 1 (by have := hw.ne; omega) (by omega)
        have hj1 : Ev (fun k => scansionlaw20_ThaiRises.j1 k l P false) true := h.succ fun k => by rw [scansionlaw20_ThaiRises.j1, if_neg (by simp)]; rfl
        refine hj1.succ fun k => ?_
        have hwr : wrap64 ((P.length : Int) - 1) = (P.length : Int) - 1 := by unfold wrap64; omega
        have hne := hw.ne
        rw [scansionlaw20_ThaiRises.j0, if_neg (by simp)]
        unfold thai_Parts.f
        rw [e, Option.bind_some]
        simp only
        rw [if_pos trivial, if_neg (by omega), if_pos (by omega), if_pos hfirst, hwr, if_pos (by omega), if_pos (by omega), hw.last]
        simp
  have h1 : Ev (fun k => scansionlaw20_ThaiRises.f k n l) true := by
    refine (ev_awake.bind (g := fun k t => (scansionlaw20_few.f n l).bind fun t273 => (if t = true then (scansionlaw20_ThaiRises.j0 k n l t (!t273)) else (scansionlaw20_ThaiRises.j0 k n l t true))) (h0.congr fun k => ?_)).congr fun k => by rw [scansionlaw20_ThaiRises.f]
    rw [few_is, Option.bind_some, if_pos rfl]
  obtain ⟨K, hK⟩ := h1
  exact ⟨K, hK K (Nat.le_refl _)⟩
end Go.Proofs.Ytfmnbebkeefboaa.Pure
