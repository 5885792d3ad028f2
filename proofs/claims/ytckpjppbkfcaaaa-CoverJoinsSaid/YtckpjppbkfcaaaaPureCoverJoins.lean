/- CoverJoins' function answers true. -/
import Derived.Test.YtckpjppbkfcaaaaPureJoins
import Derived.Test.YtckpjppbkfcaaaaPrint24
namespace Go.Proofs.Ytckpjppbkfcaaaa.Pure
open Go.RowKit Go.Maps Go.Proofs.Ytckpjppbkfcaaaa.Print Go.Proofs.YtckpjppbkfcaaaaW.PrintWords Go.Proofs.YtckpjppbkfcaaaaW.PrintLast
set_option linter.unusedVariables false
set_option linter.unusedSimpArgs false

theorem wordOk_mk {N : Int} {x : S36} (h0 : 0 ≤ x.f0) (h1 : x.f1 ≤ N) (h2 : x.f0 < x.f1) (h3 : 0 ≤ x.f2) (h4 : x.f2 ≤ 1048576) : wordOk N x = true := by
  unfold wordOk inN
  simp only [Bool.and_eq_true, decide_eq_true_eq]
  exact ⟨h0, h1, h2, h3, h4⟩
theorem all_snoc {f : S36 → Bool} {l : List S36} {x : S36} (h : l.all f = true) (hx : f x = true) : (l ++ [x]).all f = true := by
  rw [List.all_append, h]; simp [hx]
section
variable {n m : Nat} {one two all : List S36} {t : Nat}
theorem Parted.keep (h : Parted n m one two all t) : Parted n m one two all (t + 1) :=
  ⟨by have := h.l1; omega, by have := h.l2; omega, by have := h.l3; omega, h.ok1, h.ok2, h.ok3, h.low, h.high⟩
theorem Parted.left (h : Parted n m one two all t) (x : S36) (h0 : 0 ≤ x.f0) (h1 : x.f1 ≤ n) (h2 : x.f0 < x.f1) (h3 : 0 ≤ x.f2) (h4 : x.f2 ≤ 1048576) : Parted n m (one ++ [x]) two (all ++ [x]) (t + 1) := by
  refine ⟨?_, ?_, ?_, all_snoc h.ok1 (wordOk_mk h0 h1 h2 h3 h4), h.ok2, all_snoc h.ok3 (wordOk_mk h0 (by omega) h2 h3 h4), fun i j hi => ?_, fun i j hi => ?_⟩
  · have := h.l1; simp only [List.length_append, List.length_singleton]; omega
  · have := h.l2; omega
  · have := h.l3; simp only [List.length_append, List.length_singleton]; omega
  · simp only [mwF_append, mwF, h.low i j hi]
  · simp only [mwF_append, mwF]
    rw [if_neg (fun e => by have := e.1; omega)]
    exact h.high i j hi
theorem Parted.right (h : Parted n m one two all t) (x : S36) (h0 : (n : Int) ≤ x.f0) (h1 : x.f1 ≤ (n : Int) + m) (h2 : x.f0 < x.f1) (h3 : 0 ≤ x.f2) (h4 : x.f2 ≤ 1048576) : Parted n m one (two ++ [⟨x.f0 - n, x.f1 - n, x.f2⟩]) (all ++ [x]) (t + 1) := by
  refine ⟨?_, ?_, ?_, h.ok1, all_snoc h.ok2 (wordOk_mk (by simp only; omega) (by simp only; omega) (by simp only; omega) h3 h4), all_snoc h.ok3 (wordOk_mk (by omega) (by omega) h2 h3 h4), fun i j hi => ?_, fun i j hi => ?_⟩
  · have := h.l1; omega
  · have := h.l2; simp only [List.length_append, List.length_singleton]; omega
  · have := h.l3; simp only [List.length_append, List.length_singleton]; omega
  · simp only [mwF_append, mwF]
    rw [if_neg (fun e => by have := e.1; omega)]
    exact h.low i j hi
  · simp only [mwF_append, mwF, h.high i j hi]
    generalize mwF i (j - n) two (-1) = a
    by_cases q : x.f0 = (n : Int) + i ∧ x.f1 = j ∧ (a < 0 ∨ x.f2 < a)
    · rw [if_pos q, if_pos ⟨by omega, by omega, q.2.2⟩]
    · rw [if_neg q, if_neg (fun e => q ⟨by omega, by omega, e.2.2⟩)]
end
theorem ev_joins_l1 (n : Nat) (hn : n ≤ 60) (b w : List Int) (hb : ∀ x ∈ b, 0 ≤ x ∧ x ≤ 60) (hl : b.length ≤ 1000) (hw : w.length ≤ 1000) : ∀ (c i : Nat) (acc : List Int), i + c = b.length → acc.length + c ≤ 2000 →
    Ev (fun k => scansionlaw19_CoverJoins.l1 k n acc b w i) (decide (w = acc ++ (b.drop i).map (fun x => (n : Int) + x)))
  | 0, i, acc, h, ha => by
    rw [List.drop_eq_nil_of_le (by omega), List.map_nil, List.append_nil]
    refine Ev.succ (Ev.bind (g := fun _ t => some t) (ev_sameInts w acc (by omega)) (Ev.some_ _)) fun k => ?_
    rw [scansionlaw19_CoverJoins.l1, if_neg (by omega)]
  | c + 1, i, acc, h, ha => by
    have hi : i < b.length := by omega
    have hr : rd b (i : Int) = b[i] := by
      unfold rd
      rw [Int.toNat_natCast, List.getD_eq_getElem?_getD, List.getElem?_eq_getElem hi, Option.getD_some]
    have hx := hb b[i] (List.getElem_mem hi)
    have hwr : wrap64 ((n : Int) + b[i]) = (n : Int) + b[i] := wrap_small (by omega) (by omega)
    have ih := ev_joins_l1 n hn b w hb hl hw c (i + 1) (acc ++ [(n : Int) + b[i]]) (by omega) (by simp only [List.length_append, List.length_singleton]; omega)
    rw [List.drop_eq_getElem_cons hi, List.map_cons]
    rw [List.append_assoc, List.singleton_append] at ih
    refine Ev.succ ih fun k => ?_
    rw [scansionlaw19_CoverJoins.l1, if_pos (by omega), if_pos (by omega), if_pos (by omega), hr, hwr, wrap_succ (by omega)]
theorem ev_joins_end {n m : Nat} (hn : n ≤ 60) (hm : m ≤ 60) {l one two all : List S36} (ht : l.length ≤ 100) (h : Parted n m one two all l.length) : Ev (fun k => scansionlaw19_CoverJoins.l0 k n m l one two all (l.length : Int)) true := by
  obtain ⟨u, v, c, d, r1, r2, r3, hc, hd, hu, hv, hvb⟩ := joins_law hn hm ht h
  have g := ev_joins_l1 n hn (0 :: v) (0 :: (u ++ v.map (fun x => (n : Int) + x))) (fun x hx => by
    rcases List.mem_cons.1 hx with rfl | hx
    · omega
    · have := hvb x hx; omega) (by simp only [List.length_cons]; omega) (by simp only [List.length_cons, List.length_append, List.length_map]; omega) v.length 1 (0 :: u) (by simp only [List.length_cons]; omega) (by simp only [List.length_cons]; omega)
  rw [List.drop_succ_cons, List.drop_zero, List.cons_append, decide_eq_true rfl] at g
  have g2 : Ev (fun k => scansionlaw19_CoverJoins.j3 k n (0 :: u) (0 :: v) (0 :: (u ++ v.map (fun x => (n : Int) + x))) false) true := g.succ fun k => by
    rw [scansionlaw19_CoverJoins.j3, if_neg (by simp)]
    rfl
  refine g2.succ fun k => ?_
  have e0 : wrap64 ((n : Int) + m) = ((n + m : Nat) : Int) := by rw [wrap_small (by omega) (by omega)]; omega
  have e1 : wrap64 (c + d) = c + d := wrap_small (by omega) (by omega)
  rw [scansionlaw19_CoverJoins.l0, if_neg (by omega)]
  unfold cover_Best.f
  rw [e0, r1, r2, r3]
  simp only [Option.bind_some]
  rw [if_pos trivial, if_pos trivial, if_pos trivial, e1, if_pos rfl, if_neg (by simp only [List.length_cons]; omega)]
  have e2 : (((0 :: v).length : Int) == 0) = false := by
    rw [beq_eq_false_iff_ne]
    simp only [List.length_cons]
    omega
  rw [e2]
theorem ev_joins_l0 {n m : Nat} (hn : n ≤ 60) (hm : m ≤ 60) {l : List S36} (ht : l.length ≤ 100) : ∀ (c t : Nat) (one two all : List S36), t + c = l.length → Parted n m one two all t → Ev (fun k => scansionlaw19_CoverJoins.l0 k n m l one two all (t : Int)) true
  | 0, t, one, two, all, h, hp => by
    obtain rfl : t = l.length := by omega
    exact ev_joins_end hn hm ht hp
  | c + 1, t, one, two, all, h, hp => by
    obtain ⟨x, hx⟩ : ∃ x, rd_T36 l (t : Int) = x := ⟨_, rfl⟩
    have ih := fun one two all => ev_joins_l0 hn hm ht c (t + 1) one two all (by omega)
    have hs : wrap64 ((t : Int) + 1) = ((t + 1 : Nat) : Int) := wrap_succ (by omega)
    have hnm : wrap64 ((n : Int) + m) = (n : Int) + m := wrap_small (by omega) (by omega)
    have skip : Ev (fun k => scansionlaw19_CoverJoins.j2 k n m l one two all t true x.f0 x.f1 x.f2) true := (ih one two all hp.keep).succ fun k => by
      rw [scansionlaw19_CoverJoins.j2, if_pos rfl, hs]
    have take : 0 ≤ x.f0 → x.f0 < x.f1 → 0 ≤ x.f2 → x.f2 ≤ 1048576 → Ev (fun k => scansionlaw19_CoverJoins.j2 k n m l one two all t false x.f0 x.f1 x.f2) true := fun h0 h2 h3 h4 => by
      have l1 := hp.l1
      have l2 := hp.l2
      have l3 := hp.l3
      by_cases q : x.f1 ≤ (n : Int)
      · refine (ih _ _ _ (hp.left x h0 q h2 h3 h4)).succ fun k => ?_
        rw [scansionlaw19_CoverJoins.j2, if_neg (by simp), if_pos q, if_pos (by omega), Option.bind_some, if_pos (by omega), Option.bind_some, if_neg (by omega), hs]
      · by_cases q2 : x.f0 ≥ (n : Int)
        · by_cases q3 : x.f1 ≤ (n : Int) + m
          · refine (ih _ _ _ (hp.right x q2 q3 h2 h3 h4)).succ fun k => ?_
            have w1 : wrap64 (x.f0 - n) = x.f0 - n := wrap_small (by omega) (by omega)
            have w2 : wrap64 (x.f1 - n) = x.f1 - n := wrap_small (by omega) (by omega)
            rw [scansionlaw19_CoverJoins.j2, if_neg (by simp), if_neg q, if_pos q2, hnm, if_pos q3, if_pos (by omega), if_pos (by omega), hs, w1, w2]
          · refine (ih _ _ _ hp.keep).succ fun k => ?_
            rw [scansionlaw19_CoverJoins.j2, if_neg (by simp), if_neg q, if_pos q2, hnm, if_neg q3, hs]
        · refine (ih _ _ _ hp.keep).succ fun k => ?_
          rw [scansionlaw19_CoverJoins.j2, if_neg (by simp), if_neg q, if_neg q2, hs]
    by_cases q1 : x.f0 < 0
    · refine skip.succ fun k => ?_
      rw [scansionlaw19_CoverJoins.l0, if_pos (by omega), if_pos (by omega), hx, if_pos q1]
    by_cases q2 : x.f0 ≥ x.f1
    · refine skip.succ fun k => ?_
      rw [scansionlaw19_CoverJoins.l0, if_pos (by omega), if_pos (by omega), hx, if_neg q1, if_pos q2]
    by_cases q3 : x.f2 < 0
    · refine skip.succ fun k => ?_
      rw [scansionlaw19_CoverJoins.l0, if_pos (by omega), if_pos (by omega), hx, if_neg q1, if_neg q2, if_pos q3]
    by_cases q4 : x.f2 > 1048576
    · refine skip.succ fun k => ?_
      rw [scansionlaw19_CoverJoins.l0, if_pos (by omega), if_pos (by omega), hx, if_neg q1, if_neg q2, if_neg q3, decide_eq_true q4]
    · refine (take (by omega) (by omega) (by omega) (by omega)).succ fun k => ?_
      rw [scansionlaw19_CoverJoins.l0, if_pos (by omega), if_pos (by omega), hx, if_neg q1, if_neg q2, if_neg q3, decide_eq_false q4]
theorem parted_nil (n m : Nat) : Parted n m [] [] [] 0 := ⟨Nat.le_refl _, Nat.le_refl _, Nat.le_refl _, rfl, rfl, rfl, fun _ _ _ => rfl, fun _ _ _ => rfl⟩
theorem CoverJoins (n m : Int) (l : List S36) : ∃ k, scansionlaw19_CoverJoins.f k n m l = some true := by
  have fin : Ev (fun k => scansionlaw19_CoverJoins.f k n m l) true := by
    have jt : Ev (fun k => scansionlaw19_CoverJoins.j0 k n m l true true) true := (Ev.some_ true).succ fun k => by rw [scansionlaw19_CoverJoins.j0, if_pos rfl]
    by_cases h1 : n < 0
    · refine jt.congr fun k => ?_
      unfold scansionlaw19_CoverJoins.f
      rw [awake_true, Option.bind_some, if_pos rfl, if_pos h1]
    by_cases h2 : n > 60
    · refine jt.congr fun k => ?_
      unfold scansionlaw19_CoverJoins.f
      rw [awake_true, Option.bind_some, if_pos rfl, if_neg h1, if_pos h2]
    by_cases h3 : m < 0
    · refine jt.congr fun k => ?_
      unfold scansionlaw19_CoverJoins.f
      rw [awake_true, Option.bind_some, if_pos rfl, if_neg h1, if_neg h2, if_pos h3]
    by_cases h4 : m > 60
    · refine jt.congr fun k => ?_
      unfold scansionlaw19_CoverJoins.f
      rw [awake_true, Option.bind_some, if_pos rfl, if_neg h1, if_neg h2, if_neg h3, if_pos h4]
    by_cases h5 : (l.length : Int) > 100
    · refine jt.congr fun k => ?_
      unfold scansionlaw19_CoverJoins.f
      rw [awake_true, Option.bind_some, if_pos rfl, if_neg h1, if_neg h2, if_neg h3, if_neg h4, decide_eq_true h5]
    obtain ⟨N, rfl⟩ : ∃ N : Nat, n = N := ⟨n.toNat, by omega⟩
    obtain ⟨M, rfl⟩ : ∃ M : Nat, m = M := ⟨m.toNat, by omega⟩
    have g := ev_joins_l0 (n := N) (m := M) (by omega) (by omega) (l := l) (by omega) l.length 0 [] [] [] (by omega) (parted_nil N M)
    have g2 : Ev (fun k => scansionlaw19_CoverJoins.j0 k N M l true false) true := g.succ fun k => by
      rw [scansionlaw19_CoverJoins.j0, if_neg (by simp)]
      rfl
    refine g2.congr fun k => ?_
    unfold scansionlaw19_CoverJoins.f
    rw [awake_true, Option.bind_some, if_pos rfl, if_neg h1, if_neg h2, if_neg h3, if_neg h4, decide_eq_false h5]
  obtain ⟨K, hK⟩ := fin
  exact ⟨K, hK K (Nat.le_refl _)⟩
end Go.Proofs.Ytckpjppbkfcaaaa.Pure
