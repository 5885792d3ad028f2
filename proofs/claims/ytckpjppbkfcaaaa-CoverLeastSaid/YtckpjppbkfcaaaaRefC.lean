/- The reference's Best, and Cost, answer as the program's do. -/
import Derived.Test.YtckpjppbkfcaaaaPrint17
import Derived.Test.YtckpjppbkfcaaaaPrint20
import Derived.Test.YtckpjppbkfcaaaaRefB
-- NEEDS scansionref19_Best scansionref19_Cost
namespace Go.Proofs.Ytckpjppbkfcaaaa.Pure
open Go.RowKit Go.Proofs.Ytckpjppbkfcaaaa.Print Go.Proofs.YtckpjppbkfcaaaaW.PrintWords Go.Proofs.YtckpjppbkfcaaaaW.PrintLast
set_option linter.unusedVariables false
set_option linter.unusedSimpArgs false

theorem wrap_small {v : Int} (h0 : 0 ≤ v) (h1 : v ≤ 6000000000) : wrap64 v = v := by unfold wrap64; omega
theorem mul_small {N j : Nat} {v : Int} (hN : N ≤ 5000) (h : 0 ≤ v ∧ v ≤ ((N - j : Nat) : Int) * 1048576) : wrap64 v = v := wrap_small h.1 (by omega)
section
variable {N : Nat} {C : Costs} {E : Nat → List Int} {xs : List Int} {cap : Bool} {a : Nat}
/-- The least place to which the way may lead. -/
theorem nextF_is (hS : Print.Spec N C E) (hB : Best N C 0 xs) (ha : a < N) : goes cap C xs a (nextF cap C E xs a : Nat) = true ∧ ∀ x : Int, (∃ c, C ((a : Int), x) = some c) → goes cap C xs a x = true → (nextF cap C E xs a : Int) ≤ x := by
  obtain ⟨y0, hy0, hg0⟩ := goes_ex (cap := cap) hS hB ha
  unfold nextF
  cases q : (E a).find? (goes cap C xs a) with
  | none => rw [List.find?_eq_none] at q; exact absurd hg0 (q y0 hy0)
  | some y =>
    have hy := List.mem_of_find?_eq_some q
    obtain ⟨c, hc⟩ := (hS.ends a y ha).1 hy
    have hp := hS.place _ _ _ hc
    have e : ((((some y).getD 0).toNat : Nat) : Int) = y := by show ((y.toNat : Nat) : Int) = y; omega
    rw [e]
    refine ⟨List.find?_some q, fun x hx hg => ?_⟩
    have hxm := (hS.ends a x ha).2 hx
    rw [List.find?_eq_some_iff_append] at q
    obtain ⟨_, us, vs, he, hno⟩ := q
    rw [he] at hxm
    have hinc := hS.inc a ha
    rw [he, List.pairwise_append] at hinc
    rw [List.mem_append] at hxm
    rcases hxm with hxm | hxm
    · have := hno x hxm
      rw [hg] at this; cases this
    · rcases List.mem_cons.1 hxm with rfl | hxm
      · omega
      · have := (List.pairwise_cons.1 hinc.2.1).1 x hxm
        omega
theorem nextF_cap (hS : Print.Spec N C E) (hB : Best N C 0 xs) (ha : a < N) : nextF true C E xs a = a + 1 := by
  have h1 := (nextF_mem (cap := true) hS hB ha).2.1
  have h2 := (nextF_is (cap := true) hS hB ha).2 ((a : Int) + 1) (hS.one a ha) (goesT rfl)
  omega
end
theorem upTo_path (N : Nat) {nx : Nat → Nat} (hnx : ∀ a, a < N → nx a = a + 1) : ∀ (c a : Nat), a + c = N → upTo c (a + 1) = pathL nx N N a
  | 0, a, h => by rw [pathL_end (by omega)]; rfl
  | c + 1, a, h => by
    rw [pathL_step (fun b hb => by rw [hnx b hb]; omega) (by omega), hnx a (by omega), ← upTo_path N hnx c (a + 1) (by omega)]
    rfl
/-- With enough rounds it answers as Best does. -/
def EvR (n p mo : Int) (l : List S36) (f : Nat → Option (List Int × Int × Int)) : Prop := ∃ r, ResI n p mo l r ∧ Ev f r
theorem EvR.succ {n p mo : Int} {l : List S36} {f g : Nat → Option (List Int × Int × Int)} (h : EvR n p mo l g) (e : ∀ k, f (k + 1) = g k) : EvR n p mo l f := by
  obtain ⟨r, h1, h2⟩ := h
  exact ⟨r, h1, h2.succ e⟩
section
variable {N : Nat} {p mo : Int} {l : List S36}
def bB (N : Nat) (l : List S36) (p : Int) (xs out : List Int) (a t : Int) (k : Nat) (v : Int) : Option (List Int × Int × Int) :=
  if 0 ≤ t then (if t < (xs.length : Int) then (if 0 ≤ a then (if a < (xs.length : Int) then (if (wrap64 (v + (rd xs t))) = (rd xs a) then (if out.length < 17592186044416 then (scansionref19_Best.l2 k N l p xs (out ++ [t]) t) else (none)) else (scansionref19_Best.l3 k N l p xs out a (wrap64 (t + 1)))) else (none)) else (none)) else (none)) else (none)
def bA (N : Nat) (l : List S36) (p : Int) (xs out : List Int) (a t : Int) (k : Nat) (v : Int) : Option (List Int × Int × Int) :=
  if v < 0 then (scansionref19_Best.l3 k N l p xs out a (wrap64 (t + 1))) else ((scansionref19_piece.f k l p a t).bind fun v => bB N l p xs out a t k v)
theorem l3_eq (N : Nat) (l : List S36) (p : Int) (xs out : List Int) (a t : Int) (k : Nat) : scansionref19_Best.l3 (k + 1) N l p xs out a t = (scansionref19_piece.f k l p a t).bind fun v => bA N l p xs out a t k v := by rw [scansionref19_Best.l3]; rfl
theorem ev_l3 (hN : N ≤ 5000) (hln : l.length ≤ 100000) (hl : l.all (wordOk N) = true) (hp : 0 ≤ p) (hS : Print.Spec N (finCE N p l).1 (finCE N p l).2) {xs : List Int} (hB : Best N (finCE N p l).1 0 xs) {a : Nat} (ha : a < N) {out : List Int} (hout : out.length ≤ 5001) {r : List Int × Int × Int} :
    ∀ (c t : Nat), t + c = nextF false (finCE N p l).1 (finCE N p l).2 xs a → a < t → Ev (fun k => scansionref19_Best.l2 k N l p xs (out ++ [((nextF false (finCE N p l).1 (finCE N p l).2 xs a : Nat) : Int)]) ((nextF false (finCE N p l).1 (finCE N p l).2 xs a : Nat) : Int)) r → Ev (fun k => scansionref19_Best.l3 k N l p xs out (a : Int) (t : Int)) r := by
  intro c
  have hm := nextF_mem (cap := false) hS hB ha
  have hi := nextF_is (cap := false) hS hB ha
  have hlen := hB.len
  induction c with
  | zero =>
    intro t ht hat h2
    obtain rfl : t = nextF false (finCE N p l).1 (finCE N p l).2 xs a := by omega
    generalize nextF false (finCE N p l).1 (finCE N p l).2 xs a = t at *
    obtain ⟨cc, hcc⟩ := (hS.ends a t ha).1 hm.1
    have hco := hS.cost _ _ _ hcc
    have hpv := (piece_is hl hp (i := (a : Int)) (j := (t : Int)) ⟨by omega, by omega⟩).1
    have hpc : refPiece l p a t = cc := by rw [← hpv]; unfold pieceV; rw [hcc]; rfl
    have hg := hi.1
    have hsum := hB.up.sum (j := a) hS ha hcc
    unfold goes at hg
    rw [Bool.false_or, hpv, hpc] at hg
    have he := of_decide_eq_true hg
    have hev := ev_piece l p a t hln ⟨by omega, by omega⟩
    rw [hpc] at hev
    have hBB : Ev (fun k => bB N l p xs out a t k cc) r := h2.congr fun k => by
      have hw : wrap64 (cc + rd xs (t : Int)) = cc + rd xs (t : Int) := mul_small hN hsum
      unfold bB
      rw [if_pos (by omega), if_pos (by omega), if_pos (by omega), if_pos (by omega), hw, if_pos he, if_pos (by omega)]
    have hAA : Ev (fun k => bA N l p xs out a t k cc) r := (hev.bind (g := fun k v => bB N l p xs out a t k v) hBB).congr fun k => by unfold bA; rw [if_neg (by omega)]
    exact (hev.bind (g := fun k v => bA N l p xs out a t k v) hAA).succ fun k => l3_eq ..
  | succ c ih =>
    intro t ht hat h2
    have ih' := ih (t + 1) (by omega) (by omega) h2
    have htN : t < N := by omega
    have hpv := (piece_is hl hp (i := (a : Int)) (j := (t : Int)) ⟨by omega, by omega⟩)
    have hev := ev_piece l p a t hln ⟨by omega, by omega⟩
    by_cases q : refPiece l p a t < 0
    · have hAA : Ev (fun k => bA N l p xs out a t k (refPiece l p a t)) r := ih'.congr fun k => by unfold bA; rw [if_pos q, wrap_succ (by omega)]
      exact (hev.bind (g := fun k v => bA N l p xs out a t k v) hAA).succ fun k => l3_eq ..
    · have hcc : (finCE N p l).1 ((a : Int), (t : Int)) = some (refPiece l p a t) := by rw [hpv.2]; unfold optOf; rw [if_neg q]
      have hsum := hB.up.sum (j := a) hS ha hcc
      have hno : ¬ refPiece l p a t + rd xs (t : Int) = rd xs (a : Int) := fun he => by
        have := hi.2 (t : Int) ⟨_, hcc⟩ (by unfold goes; rw [hpv.1, he]; simp)
        omega
      have hBB : Ev (fun k => bB N l p xs out a t k (refPiece l p a t)) r := ih'.congr fun k => by
        have hw : wrap64 (refPiece l p a t + rd xs (t : Int)) = refPiece l p a t + rd xs (t : Int) := mul_small hN hsum
        unfold bB
        rw [if_pos (by omega), if_pos (by omega), if_pos (by omega), if_pos (by omega), hw, if_neg hno, wrap_succ (by omega)]
      have hAA : Ev (fun k => bA N l p xs out a t k (refPiece l p a t)) r := (hev.bind (g := fun k v => bB N l p xs out a t k v) hBB).congr fun k => by unfold bA; rw [if_neg q]
      exact (hev.bind (g := fun k v => bA N l p xs out a t k v) hAA).succ fun k => l3_eq ..
theorem ev_l2 (hN : N ≤ 5000) (hln : l.length ≤ 100000) (hl : l.all (wordOk N) = true) (hp : 0 ≤ p) (hS : Print.Spec N (finCE N p l).1 (finCE N p l).2) {xs : List Int} (hB : Best N (finCE N p l).1 0 xs) :
    ∀ (d a : Nat) (out : List Int), N - a ≤ d → a ≤ N → out.length ≤ a + 1 → Ev (fun k => scansionref19_Best.l2 k N l p xs out (a : Int)) (out ++ pathL (nextF false (finCE N p l).1 (finCE N p l).2 xs) N N a, rd xs 0, 0)
  | 0, a, out, hd, ha, hout => by
    have hlen := hB.len
    obtain rfl : a = N := by omega
    rw [pathL_end (Nat.le_refl _), List.append_nil]
    refine (Ev.some_ _).succ fun k => ?_
    rw [scansionref19_Best.l2, if_neg (by omega), if_pos (by omega)]
  | d + 1, a, out, hd, ha, hout => by
    have hlen := hB.len
    by_cases q : a < N
    · have hm := nextF_mem (cap := false) hS hB q
      have ih := ev_l2 hN hln hl hp hS hB d (nextF false (finCE N p l).1 (finCE N p l).2 xs a) (out ++ [((nextF false (finCE N p l).1 (finCE N p l).2 xs a : Nat) : Int)]) (by omega) (by omega) (by rw [List.length_append, List.length_singleton]; omega)
      rw [pathL_step (fun b hb => (nextF_mem (cap := false) hS hB hb).2) q]
      rw [List.append_assoc, List.singleton_append] at ih
      have h3 := ev_l3 hN hln hl hp hS hB q (out := out) (by omega) (nextF false (finCE N p l).1 (finCE N p l).2 xs a - (a + 1)) (a + 1) (by omega) (by omega) ih
      refine h3.succ fun k => ?_
      rw [scansionref19_Best.l2, if_pos (by omega), wrap_succ (by omega)]
    · obtain rfl : a = N := by omega
      rw [pathL_end (Nat.le_refl _), List.append_nil]
      refine (Ev.some_ _).succ fun k => ?_
      rw [scansionref19_Best.l2, if_neg (by omega), if_pos (by omega)]
theorem ev_l1 (hN : N ≤ 5000) (hln : l.length ≤ 100000) (hl : l.all (wordOk N) = true) (hp : 0 ≤ p) (hS : Print.Spec N (finCE N p l).1 (finCE N p l).2) {j : Nat} (hj : j < N)
    (hnext : ∀ xs, Best N (finCE N p l).1 j xs → EvR N p mo l (fun k => scansionref19_Best.l0 k N l p mo xs ((j : Int) - 1))) :
    ∀ (c t : Nat) (xs : List Int), t + c = l.length → PartR N (finCE N p l).1 l j t xs → EvR N p mo l (fun k => scansionref19_Best.l1 k N l p mo xs (j : Int) (t : Int))
  | 0, t, xs, ht, h => by
    obtain rfl : t = l.length := by omega
    refine (hnext xs (h.done hS hl hp hj)).succ fun k => ?_
    have hw : wrap64 ((j : Int) - 1) = (j : Int) - 1 := by unfold wrap64; omega
    rw [scansionref19_Best.l1, if_neg (by omega), hw]
  | c + 1, t, xs, ht, h => by
    have htl : t < l.length := by omega
    have hlen := h.best.len
    by_cases q : (rd_T36 l (t : Int)).f0 = (j : Int)
    · obtain ⟨hnx, hs⟩ := h.next hS hl hp hj htl q
      have hw := wordOk_is (List.all_eq_true.1 hl _ (rd_T36_mem htl))
      obtain ⟨x, hx⟩ : ∃ x, rd_T36 l (t : Int) = x := ⟨_, rfl⟩
      rw [hx] at q hw hs hnx
      have hwr : wrap64 (x.f2 + rd xs x.f1) = x.f2 + rd xs x.f1 := mul_small hN hs
      refine (ev_l1 hN hln hl hp hS hj hnext c (t + 1) _ (by omega) hnx).succ fun k => ?_
      rw [scansionref19_Best.l1, hx, if_pos (by omega), if_pos (by omega), if_pos q, if_pos (by omega), if_pos (by omega), if_pos (by omega), if_pos (by omega), hwr, mn_min, wrap_succ (by omega), Int.toNat_natCast]
    · refine (ev_l1 hN hln hl hp hS hj hnext c (t + 1) _ (by omega) (h.skip htl q)).succ fun k => ?_
      rw [scansionref19_Best.l1, if_pos (by omega), if_pos (by omega), if_neg q, wrap_succ (by omega)]
def bC (N : Nat) (l : List S36) (p mo : Int) (xs : List Int) (i : Int) (k : Nat) (v : Int) : Option (List Int × Int × Int) :=
  if 0 ≤ (wrap64 (i + 1)) then (if (wrap64 (i + 1)) < (xs.length : Int) then (if 0 ≤ i then (if i < (xs.length : Int) then (scansionref19_Best.l1 k N l p mo (xs.set i.toNat (wrap64 (v + (rd xs (wrap64 (i + 1)))))) i 0) else (none)) else (none)) else (none)) else (none)
theorem ev_l0_zero (hok : okRun N p mo l = true) (hN : N ≤ 5000) (hln : l.length ≤ 100000) (hl : l.all (wordOk N) = true) (hp : 0 ≤ p) (hS : Print.Spec N (finCE N p l).1 (finCE N p l).2) (xs : List Int) (hB : Best N (finCE N p l).1 0 xs) : EvR N p mo l (fun k => scansionref19_Best.l0 k N l p mo xs (-1)) := by
  have hlen : 0 < (xs.length : Int) := by have := hB.len; omega
  by_cases q : mo ≤ rd xs 0
  · have hs : Ev (fun k => (scansionref19_singles.f k N).bind fun t258 => (some (t258, mo, 0) : Option (List Int × Int × Int))) (upTo (N + 1) 0, mo, 0) := (ev_singles N hN).bind (g := fun _ t => some (t, mo, 0)) (Ev.some_ _)
    have e : upTo (N + 1) 0 = 0 :: pathL (nextF true (finCE N p l).1 (finCE N p l).2 xs) N N 0 := by
      rw [← upTo_path N (fun a ha => nextF_cap hS hB ha) N 0 (by omega)]
      rfl
    have hres : ResI N p mo l (upTo (N + 1) 0, mo, 0) := by
      refine .inr ⟨hok, N, rfl, xs, hB, ?_⟩
      rw [decide_eq_true q, e, show min (rd xs 0) mo = mo by omega]
    have hq : rd xs 0 ≥ mo := q
    refine ⟨(upTo (N + 1) 0, mo, 0), hres, hs.succ fun k => ?_⟩
    rw [scansionref19_Best.l0, if_neg (by decide), if_pos hlen, if_pos hq]
  · have h2 := ev_l2 hN hln hl hp hS hB N 0 [0] (by omega) (by omega) (by simp)
    rw [show ((0 : Nat) : Int) = 0 from rfl, List.singleton_append] at h2
    have hres : ResI N p mo l (0 :: pathL (nextF false (finCE N p l).1 (finCE N p l).2 xs) N N 0, rd xs 0, 0) := by
      refine .inr ⟨hok, N, rfl, xs, hB, ?_⟩
      rw [decide_eq_false q, show min (rd xs 0) mo = rd xs 0 by omega]
    refine ⟨_, hres, h2.succ fun k => ?_⟩
    rw [scansionref19_Best.l0, if_neg (by decide), if_pos hlen, if_neg q]
theorem ev_l0_succ (hN : N ≤ 5000) (hln : l.length ≤ 100000) (hl : l.all (wordOk N) = true) (hp : 0 ≤ p) (hS : Print.Spec N (finCE N p l).1 (finCE N p l).2) {j : Nat} (hjN : j < N)
    (hnext : ∀ xs, Best N (finCE N p l).1 j xs → EvR N p mo l (fun k => scansionref19_Best.l0 k N l p mo xs ((j : Int) - 1))) (xs : List Int) (hB : Best N (finCE N p l).1 (j + 1) xs) : EvR N p mo l (fun k => scansionref19_Best.l0 k N l p mo xs (j : Int)) := by
  obtain ⟨c, hc⟩ := hS.one j hjN
  have hsum := hB.sum hS hjN hc
  have hpv := (piece_is hl hp (i := (j : Int)) (j := (j : Int) + 1) ⟨by omega, by omega⟩).1
  have hpc : refPiece l p j ((j : Int) + 1) = c := by rw [← hpv]; unfold pieceV; rw [hc]; rfl
  have hev := ev_piece l p j ((j : Int) + 1) hln ⟨by omega, by omega⟩
  rw [hpc] at hev
  have hw1 : wrap64 ((j : Int) + 1) = (j : Int) + 1 := by clear hsum; unfold wrap64; omega
  have hw2 : wrap64 (c + rd xs ((j : Int) + 1)) = c + rd xs ((j : Int) + 1) := mul_small hN hsum
  obtain ⟨r, hr, h1⟩ := ev_l1 hN hln hl hp hS hjN hnext l.length 0 _ (Nat.zero_add _) (PartR.first (l := l) hS hB hjN hc)
  rw [show ((0 : Nat) : Int) = 0 from rfl] at h1
  have hlen := hB.len
  have g1 : 0 ≤ (j : Int) + 1 := by omega
  have g2 : (j : Int) + 1 < (xs.length : Int) := by omega
  have g3 : 0 ≤ (j : Int) := by omega
  have g4 : (j : Int) < (xs.length : Int) := by omega
  have hCC : Ev (fun k => bC N l p mo xs j k c) r := h1.congr fun k => by
    unfold bC
    rw [hw1, if_pos g1, if_pos g2, if_pos g3, if_pos g4, hw2, Int.toNat_natCast]
  have hj0 : (j : Int) ≥ 0 := g3
  refine ⟨r, hr, (hev.bind (g := fun k v => bC N l p mo xs j k v) hCC).succ fun k => ?_⟩
  rw [scansionref19_Best.l0, if_pos hj0, hw1]
  unfold bC
  rw [hw1]
theorem ev_l0 (hok : okRun N p mo l = true) (hN : N ≤ 5000) (hln : l.length ≤ 100000) (hl : l.all (wordOk N) = true) (hp : 0 ≤ p) (hS : Print.Spec N (finCE N p l).1 (finCE N p l).2) (j : Nat) : j ≤ N → ∀ (xs : List Int), Best N (finCE N p l).1 j xs → EvR N p mo l (fun k => scansionref19_Best.l0 k N l p mo xs ((j : Int) - 1)) := by
  induction j with
  | zero => intro _ xs hB; exact ev_l0_zero hok hN hln hl hp hS xs hB
  | succ j ih =>
    intro hj xs hB
    rw [show ((j + 1 : Nat) : Int) - 1 = (j : Int) by omega]
    exact ev_l0_succ hN hln hl hp hS (by omega) (ih (by omega)) xs hB
end
theorem ev_best (n p mo : Int) (l : List S36) : EvR n p mo l (fun k => scansionref19_Best.f k n l p mo) := by
  have hr := ev_right n p mo l
  cases hok : okRun n p mo l with
  | false =>
    rw [hok] at hr
    refine ⟨([], 0, 1), .inl ⟨hok, rfl⟩, ?_⟩
    exact (hr.bind (g := fun k t244 => (if t244 = true then (if 0 ≤ (wrap64 (n + 1)) then (if (wrap64 (n + 1) : Int).toNat ≤ 35184372088832 then (scansionref19_Best.l0 k n l p mo (List.replicate (wrap64 (n + 1) : Int).toNat 0) (wrap64 (n - 1))) else (none)) else (none)) else (some (([] : List Int), 0, 1)))) ((Ev.some_ _).congr fun k => by rw [if_neg (by simp)])).congr fun k => by rw [scansionref19_Best.f]
  | true =>
    rw [hok] at hr
    have hok2 := hok
    unfold okRun at hok2
    rw [Bool.and_eq_true] at hok2
    obtain ⟨N, rfl, hN⟩ := limOk_nat hok2.1
    have hlm := hok2.1
    unfold limOk at hlm
    simp only [Bool.and_eq_true, decide_eq_true_eq] at hlm
    have hpp := inN_is hlm.2.1
    have hS := fin_spec hok2.1 hok2.2
    obtain ⟨r, h1, h2⟩ := ev_l0 hok hN (limOk_len hok2.1) hok2.2 hpp.1 hS N (Nat.le_refl N) _ (Best.start N _)
    refine ⟨r, h1, ?_⟩
    have hw1 : wrap64 ((N : Int) + 1) = ((N + 1 : Nat) : Int) := wrap_succ (by omega)
    have hw2 : wrap64 ((N : Int) - 1) = (N : Int) - 1 := by unfold wrap64; omega
    exact (hr.bind (g := fun k t244 => (if t244 = true then (if 0 ≤ (wrap64 ((N : Int) + 1)) then (if (wrap64 ((N : Int) + 1) : Int).toNat ≤ 35184372088832 then (scansionref19_Best.l0 k N l p mo (List.replicate (wrap64 ((N : Int) + 1) : Int).toNat 0) (wrap64 ((N : Int) - 1))) else (none)) else (none)) else (some (([] : List Int), 0, 1)))) (h2.congr fun k => by rw [if_pos rfl, hw1, hw2, Int.toNat_natCast, if_pos (by omega), if_pos (by omega)])).congr fun k => by rw [scansionref19_Best.f]
theorem bestR_res (n p mo : Int) (l : List S36) : ResI n p mo l (bestR n p mo l) := by
  obtain ⟨r, h, _⟩ := ev_best n p mo l
  rw [bestR_is h]; exact h
theorem ev_refBest (n p mo : Int) (l : List S36) : Ev (fun k => scansionref19_Best.f k n l p mo) (bestR n p mo l) := by
  obtain ⟨r, h, h2⟩ := ev_best n p mo l
  rw [bestR_is h]; exact h2
end Go.Proofs.Ytckpjppbkfcaaaa.Pure
