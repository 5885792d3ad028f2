/- The reference's Cost answers as the program's does. -/
import Derived.Test.YtckpjppbkfcaaaaRefC
namespace Go.Proofs.Ytckpjppbkfcaaaa.Pure
open Go.RowKit Go.Proofs.Ytckpjppbkfcaaaa.Print Go.Proofs.YtckpjppbkfcaaaaW.PrintWords Go.Proofs.YtckpjppbkfcaaaaW.PrintLast
set_option linter.unusedVariables false
set_option linter.unusedSimpArgs false

def sumR (mo : Int) (o : Option Int) : Int × Bool := match o with
  | none => (0, false)
  | some s => (min s mo, true)
def cJ (N : Nat) (l : List S36) (p mo : Int) (ps : List Int) (s i : Int) (k : Nat) (v : Int) : Option (Int × Bool) :=
  if v < 0 then (some (0, false)) else (scansionref19_Cost.l0 k N l p mo ps (mn (wrap64 (s + v)) mo) (wrap64 (i + 1)))
section
variable {N : Nat} {p mo : Int} {l : List S36} {ps : List Int}
theorem ev_cost_l0 (hN : N ≤ 5000) (hln : l.length ≤ 100000) (hl : l.all (wordOk N) = true) (hp : 0 ≤ p) (hmo : 0 ≤ mo ∧ mo ≤ 1099511627776) (hS : Print.Spec N (finCE N p l).1 (finCE N p l).2) (hps : ps.length < 9223372036854775807) :
    ∀ (c i j : Nat) (s : Int), i + c = ps.length → j + 1 = i → (0 ≤ rd ps (j : Int) ∧ rd ps (j : Int) ≤ N ∧ 0 ≤ s ∧ s ≤ rd ps (j : Int) * 1048576) → Ev (fun k => scansionref19_Cost.l0 k N l p mo ps (min s mo) (i : Int)) (sumR mo (sumI (finCE N p l).1 (rd ps (j : Int)) (ps.drop i) s)) := by
  intro c
  induction c with
  | zero =>
    intro i j s hi hj hb
    obtain rfl : i = ps.length := by omega
    rw [List.drop_length, sumI]
    refine (Ev.some_ _).succ fun k => ?_
    rw [scansionref19_Cost.l0, if_neg (by omega), mn_min]
    unfold sumR
    rw [show min (min s mo) mo = min s mo by omega]
  | succ c ih =>
    intro i j s hi hj hb
    have hlt : i < ps.length := by omega
    rw [drop_cons hlt, sumI]
    have ihn := ih (i + 1) i
    generalize hbv : rd ps (i : Int) = b at *
    generalize hav : rd ps (j : Int) = a at *
    have hw : wrap64 ((i : Int) - 1) = (j : Int) := by clear hb ihn ih; unfold wrap64; omega
    have g1 : (i : Int) < (ps.length : Int) := by omega
    have g2 : 0 ≤ (i : Int) := by omega
    have g3 : 0 ≤ (j : Int) := by omega
    have g4 : (j : Int) < (ps.length : Int) := by omega
    by_cases q1 : b ≤ a
    · have hn : (finCE N p l).1 (a, b) = none := by
        cases q : (finCE N p l).1 (a, b) with
        | none => rfl
        | some c => have := hS.place _ _ _ q; omega
      rw [hn]
      have hj2 : Ev (fun k => scansionref19_Cost.j2 k N l p mo ps (min s mo) (i : Int) true) (0, false) := (Ev.some_ _).succ fun k => by rw [scansionref19_Cost.j2, if_pos rfl]
      exact hj2.succ fun k => by rw [scansionref19_Cost.l0, hw, hbv, hav, if_pos g1, if_pos g2, if_pos g3, if_pos g4, if_pos q1]
    · by_cases q2 : b > (N : Int)
      · have hn : (finCE N p l).1 (a, b) = none := by
          cases q : (finCE N p l).1 (a, b) with
          | none => rfl
          | some c => have := hS.place _ _ _ q; omega
        rw [hn]
        have hj2 : Ev (fun k => scansionref19_Cost.j2 k N l p mo ps (min s mo) (i : Int) true) (0, false) := (Ev.some_ _).succ fun k => by rw [scansionref19_Cost.j2, if_pos rfl]
        exact hj2.succ fun k => by rw [scansionref19_Cost.l0, hw, hbv, hav, if_pos g1, if_pos g2, if_pos g3, if_pos g4, if_neg q1, decide_eq_true q2]
      · have hab : 0 ≤ a ∧ a < (N : Int) := by omega
        have hpv := piece_is hl hp (i := a) (j := b) hab
        have hev := ev_piece l p a b hln ⟨by omega, by omega⟩
        rw [hpv.2]
        have hJ : Ev (fun k => cJ N l p mo ps (min s mo) i k (refPiece l p a b)) (sumR mo (match optOf (refPiece l p a b) with
          | none => none
          | some c => sumI (finCE N p l).1 b (ps.drop (i + 1)) (s + c))) := by
          by_cases q3 : refPiece l p a b < 0
          · have e : optOf (refPiece l p a b) = none := by unfold optOf; rw [if_pos q3]
            rw [e]
            exact (Ev.some_ _).congr fun k => by unfold cJ; rw [if_pos q3]; rfl
          · have e : optOf (refPiece l p a b) = some (refPiece l p a b) := by unfold optOf; rw [if_neg q3]
            rw [e]
            rw [e] at hpv
            have hco := hS.cost _ _ _ hpv.2
            have ih2 := ihn (s + refPiece l p a b) (by omega) rfl (by omega)
            refine ih2.congr fun k => ?_
            unfold cJ
            have hs1 : wrap64 (min s mo + refPiece l p a b) = min s mo + refPiece l p a b := by unfold wrap64; omega
            rw [if_neg q3, hs1, mn_min, wrap_succ (by omega), show min (min s mo + refPiece l p a b) mo = min (s + refPiece l p a b) mo by omega]
        have hj2 := (hev.bind (g := fun k v => cJ N l p mo ps (min s mo) i k v) hJ)
        have hj3 : Ev (fun k => scansionref19_Cost.j2 k N l p mo ps (min s mo) (i : Int) false) _ := hj2.succ fun k => by
          rw [scansionref19_Cost.j2, if_neg (by simp), hw, hbv, hav, if_pos g3, if_pos g4, if_pos g2, if_pos g1]
          rfl
        exact hj3.succ fun k => by rw [scansionref19_Cost.l0, hw, hbv, hav, if_pos g1, if_pos g2, if_pos g3, if_pos g4, if_neg q1, decide_eq_false q2]
end
theorem ev_refCost (n p mo : Int) (l : List S36) (ps : List Int) (hps : ps.length < 9223372036854775807) : Ev (fun k => scansionref19_Cost.f k n l p mo ps) (costR n p mo l ps) := by
  have hr := ev_right n p mo l
  have jt : Ev (fun k => scansionref19_Cost.j0 k n l p mo ps true) (0, false) := (Ev.some_ _).succ fun k => by rw [scansionref19_Cost.j0, if_pos rfl]
  have fin : ∀ r b, Ev (fun k => scansionref19_Right.f k n l p mo) b → Ev (fun k => (if b = true then (if (ps.length : Int) = 0 then (scansionref19_Cost.j0 k n l p mo ps true) else (if 0 < (ps.length : Int) then (if (rd ps 0) = 0 then (if 0 ≤ (wrap64 ((ps.length : Int) - 1)) then (if (wrap64 ((ps.length : Int) - 1)) < (ps.length : Int) then (scansionref19_Cost.j0 k n l p mo ps ((rd ps (wrap64 ((ps.length : Int) - 1))) != n)) else (none)) else (none)) else (scansionref19_Cost.j0 k n l p mo ps true)) else (none))) else (scansionref19_Cost.j0 k n l p mo ps true))) r → Ev (fun k => scansionref19_Cost.f k n l p mo ps) r := fun r b h1 h2 =>
    (h1.bind (g := fun k b => (if b = true then (if (ps.length : Int) = 0 then (scansionref19_Cost.j0 k n l p mo ps true) else (if 0 < (ps.length : Int) then (if (rd ps 0) = 0 then (if 0 ≤ (wrap64 ((ps.length : Int) - 1)) then (if (wrap64 ((ps.length : Int) - 1)) < (ps.length : Int) then (scansionref19_Cost.j0 k n l p mo ps ((rd ps (wrap64 ((ps.length : Int) - 1))) != n)) else (none)) else (none)) else (scansionref19_Cost.j0 k n l p mo ps true)) else (none))) else (scansionref19_Cost.j0 k n l p mo ps true))) h2).congr fun k => by rw [scansionref19_Cost.f]
  cases hok : okRun n p mo l with
  | false =>
    rw [hok] at hr
    refine fin _ _ hr ?_
    have e : costR n p mo l ps = (0, false) := by unfold costR; rw [hok]; rfl
    rw [e]
    exact jt.congr fun k => by rw [if_neg (by simp)]
  | true =>
    rw [hok] at hr
    refine fin _ _ hr ?_
    have hok2 := hok
    unfold okRun at hok2
    rw [Bool.and_eq_true] at hok2
    obtain ⟨N, rfl, hN⟩ := limOk_nat hok2.1
    have hlm := hok2.1
    unfold limOk at hlm
    simp only [Bool.and_eq_true, decide_eq_true_eq] at hlm
    have hpp := inN_is hlm.2.1
    have hmm := inN_is hlm.2.2.1
    have hS := fin_spec hok2.1 hok2.2
    unfold costR
    rw [hok, Bool.true_and]
    by_cases q0 : ps = []
    · subst q0
      rw [show endsOk N [] = false by simp [endsOk]]
      exact jt.congr fun k => by rw [if_pos rfl, if_pos (show ((([] : List Int).length : Nat) : Int) = 0 from rfl)]
    · have hl0 : 0 < ps.length := List.length_pos_iff.2 q0
      have g0 : ¬ (ps.length : Int) = 0 := by omega
      have g1 : 0 < (ps.length : Int) := by omega
      by_cases q1 : rd ps 0 = 0
      · have hw : wrap64 ((ps.length : Int) - 1) = (ps.length : Int) - 1 := by unfold wrap64; omega
        have g2 : 0 ≤ (ps.length : Int) - 1 := by omega
        have g3 : (ps.length : Int) - 1 < (ps.length : Int) := by omega
        by_cases q2 : rd ps ((ps.length : Int) - 1) = N
        · rw [show endsOk N ps = true by simp [endsOk, q0, q1, q2], if_pos rfl]
          have h := ev_cost_l0 (ps := ps) hN (limOk_len hok2.1) hok2.2 hpp.1 hmm hS hps (ps.length - 1) 1 0 0 (by omega) rfl (by rw [show ((0 : Nat) : Int) = 0 from rfl, q1]; omega)
          rw [show ((0 : Nat) : Int) = 0 from rfl, q1, show min 0 mo = 0 by omega, show ((1 : Nat) : Int) = 1 from rfl] at h
          rw [Int.toNat_natCast]
          have hj : Ev (fun k => scansionref19_Cost.j0 k N l p mo ps false) _ := h.succ fun k => by rw [scansionref19_Cost.j0, if_neg (by simp)]
          exact hj.congr fun k => by rw [if_pos rfl, if_neg g0, if_pos g1, if_pos q1, hw, if_pos g2, if_pos g3, q2, show ((N : Int) != (N : Int)) = false by simp]
        · rw [show endsOk N ps = false by simp [endsOk, q2]]
          exact jt.congr fun k => by rw [if_pos rfl, if_neg g0, if_pos g1, if_pos q1, hw, if_pos g2, if_pos g3, show (rd ps ((ps.length : Int) - 1) != (N : Int)) = true by simpa using q2]
      · rw [show endsOk N ps = false by simp [endsOk, q1]]
        exact jt.congr fun k => by rw [if_pos rfl, if_neg g0, if_pos g1, if_neg q1]
end Go.Proofs.Ytckpjppbkfcaaaa.Pure
