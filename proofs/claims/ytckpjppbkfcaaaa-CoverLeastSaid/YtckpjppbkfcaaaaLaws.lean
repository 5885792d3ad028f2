/- The laws' first lines; the laws CoverBest and CoverCosts. -/
import Derived.Test.YtckpjppbkfcaaaaPrint13
import Derived.Test.YtckpjppbkfcaaaaRefD
-- NEEDS scansionlaw19_awake
namespace Go.Proofs.Ytckpjppbkfcaaaa.Pure
open Go.RowKit Go.Maps Go.Proofs.Ytckpjppbkfcaaaa.Print Go.Proofs.YtckpjppbkfcaaaaW.PrintWords Go.Proofs.YtckpjppbkfcaaaaW.PrintLast
set_option linter.unusedVariables false
set_option linter.unusedSimpArgs false

theorem rd_ext {l l' : List Int} (hl : l.length = l'.length) (h : ∀ i : Nat, i < l.length → rd l i = rd l' i) : l = l' := by
  refine List.ext_getElem hl fun i h1 h2 => ?_
  have := h i h1
  unfold rd at this
  rwa [Int.toNat_natCast, List.getD_eq_getElem?_getD, List.getD_eq_getElem?_getD, List.getElem?_eq_getElem h1, List.getElem?_eq_getElem h2, Option.getD_some, Option.getD_some] at this
theorem ev_sameInts (l l' : List Int) (hl : l.length < 9223372036854775807) : Ev (fun k => scansionref01_SameInts.f k l l') (decide (l = l')) := by
  have go : l.length = l'.length → ∀ (c i : Nat), i + c = l.length → (∀ j : Nat, j < i → rd l j = rd l' j) → Ev (fun k => scansionref01_SameInts.l0 k l l' i) (decide (l = l')) := by
    intro he c
    induction c with
    | zero =>
      intro i hi hj
      rw [decide_eq_true (rd_ext he fun j h => hj j (by omega))]
      refine Ev.succ (Ev.some_ true) fun k => ?_
      rw [scansionref01_SameInts.l0, if_neg (by omega)]
    | succ c ih =>
      intro i hi hj
      by_cases q : rd l i = rd l' i
      · refine Ev.succ (ih (i + 1) (by omega) (fun j h => ?_)) fun k => ?_
        · by_cases e : j = i
          · rw [e]; exact q
          · exact hj j (by omega)
        · rw [scansionref01_SameInts.l0, if_pos (by omega), if_pos (by omega), if_pos (by omega), if_pos q, wrap_succ (by omega)]
      · rw [decide_eq_false (fun e => q (by rw [e]))]
        refine Ev.succ (Ev.some_ false) fun k => ?_
        rw [scansionref01_SameInts.l0, if_pos (by omega), if_pos (by omega), if_pos (by omega), if_neg q]
  by_cases q : l.length = l'.length
  · refine Ev.congr (go q l.length 0 (by omega) (fun j h => absurd h (by omega))) fun k => ?_
    rw [scansionref01_SameInts.f, if_pos (by omega)]
    rfl
  · rw [decide_eq_false (fun e => q (by rw [e]))]
    refine Ev.congr (Ev.some_ false) fun k => ?_
    rw [scansionref01_SameInts.f, if_neg (by omega)]
theorem same_calls (A0 : Option Addr) (c0 : Nat) (l0 : List Int) (A1 : Option Addr) (c1 : Nat) (l1 : List Int) (w : World) (hr0 : Kd.C (Kd.int .i64) w A0 l0.length l0) (hc0 : l0.length ≤ c0) (hr1 : Kd.C (Kd.int .i64) w A1 l1.length l1) (hc1 : l1.length ≤ c1) (hl : l0.length < 9223372036854775807) :
    Calls Try.prog 12 #[.slice A0 l0.length c0, .slice A1 l1.length c1] w fun e w' => e = .returned (.bool (decide (l0 = l1))) ∧ Below w.heap.size w w' := by
  obtain ⟨K, hK⟩ := ev_sameInts l0 l1 hl
  exact (scansionref01_SameInts.calls K A0 c0 l0 A1 c1 l1 _ w hr0 hc0 hr1 hc1 (hK K (Nat.le_refl _))).mono fun e w' h => ⟨h.1, h.2.below⟩
theorem leO_up {β : Type} {f : Nat → Option β} (hm : ∀ k, LeO (f k) (f (k + 1))) {K : Nat} {r : β} (h : f K = some r) : Ev f r := by
  refine ⟨K, fun k hk => ?_⟩
  obtain ⟨d, rfl⟩ : ∃ d, k = K + d := ⟨k - K, by omega⟩
  clear hk
  induction d with
  | zero => exact h
  | succ d ih => exact hm (K + d) r ih
theorem bestR_awake : bestR 2 5 100 [(⟨0, 2, 3⟩ : S36)] = ([0, 2], 3, 0) := by
  have h := ev_refBest 2 5 100 [(⟨0, 2, 3⟩ : S36)]
  have h2 : Ev (fun k => scansionref19_Best.f k 2 [(⟨0, 2, 3⟩ : S36)] 5 100) ([0, 2], 3, 0) := leO_up (K := 20) (fun k => scansionref19_Best.mono _ _ _ _ k) (by decide +kernel)
  exact h.unique h2
theorem awake_true : scansionlaw19_awake.f = some true := by
  unfold scansionlaw19_awake.f cover_Best.f
  rw [bestR_awake]
  decide +kernel
theorem awake_calls (w : World) : Calls Try.prog 9 #[] w fun e w' => e = .returned (.bool true) ∧ Below w.heap.size w w' := scansionlaw19_awake.calls true w awake_true
theorem refBest_calls (n : Int) (A : Option Addr) (c : Nat) (l : List S36) (p mo : Int) (w : World) (hr : Kd.C k36 w A l.length l) (hc : l.length ≤ c) :
    Calls Try.prog 11 #[.int .i64 n, .slice A l.length c, .int .i64 p, .int .i64 mo] w fun e w' => ∃ v : Value, e = .returned (.tuple #[v, .int .i64 (bestR n p mo l).2.1, .int .i64 (bestR n p mo l).2.2]) ∧ Kd.R (Kd.int .i64) 3 w' w.heap.size (fun _ => True) v (bestR n p mo l).1 ∧ Below w.heap.size w w' := by
  obtain ⟨K, hK⟩ := ev_refBest n p mo l
  exact scansionref19_Best.calls K n A c l p mo _ _ _ w hr hc (hK K (Nat.le_refl _))
theorem ourBest_calls (n : Int) (A : Option Addr) (c : Nat) (l : List S36) (p mo : Int) (w : World) (hr : Kd.C k36 w A l.length l) (hc : l.length ≤ c) :
    Calls Try.prog 10 #[.int .i64 n, .slice A l.length c, .int .i64 p, .int .i64 mo] w fun e w' => ∃ v : Value, e = .returned (.tuple #[v, .int .i64 (bestR n p mo l).2.1, .int .i64 (bestR n p mo l).2.2]) ∧ Kd.R (Kd.int .i64) 3 w' w.heap.size (fun _ => True) v (bestR n p mo l).1 ∧ Below w.heap.size w w' :=
  cover_Best.calls n A c l p mo _ _ _ w hr hc rfl
theorem bestR_len (n p mo : Int) (l : List S36) : (bestR n p mo l).1.length ≤ 5001 := by
  rcases bestR_res n p mo l with ⟨_, e⟩ | ⟨hok, N, rfl, xs, hB, e⟩
  · rw [e]; simp
  · rw [e]
    unfold okRun at hok
    rw [Bool.and_eq_true] at hok
    obtain ⟨M, hM, hM2⟩ := limOk_nat hok.1
    have := pathL_len (nx := nextF (decide (mo ≤ rd xs 0)) (finCE N p l).1 (finCE N p l).2 xs) (N := N) N 0
    simp only [List.length_cons]
    omega
set_option maxHeartbeats 16000000 in
set_option maxRecDepth 100000 in
theorem coverBest_calls (n : Int) (A : Option Addr) (c : Nat) (l : List S36) (x0 x1 : Int) (W : World) (hr : Kd.C k36 W A l.length l) (hc : l.length ≤ c) :
    Calls Try.prog 3 #[.int .i64 n, .slice A l.length c, .agg #[.int .i64 x0, .int .i64 x1]] W fun e w' => e = .returned (.bool true) ∧ Below W.heap.size W w' := by
  have HR := Aside0.mk (Kd.C_below hr (below_alloc (Below.refl W.heap.size W) (.cells #[.int .i64 x0, .int .i64 x1] 23)))
  have HC := Aside0.mk hc
  have HB0 := Aside0.mk (below_alloc (Below.refl W.heap.size W) (.cells #[.int .i64 x0, .int .i64 x1] 23))
  have HX0 := Aside0.mk (blk_new W (.cells #[.int .i64 x0, .int .i64 x1] 23))
  clear hr hc
  go_enter Try.func3, Try.ntmps3
  go_wp2_with fail
  refine (awake_calls _).mono ?_
  rintro e W1 ⟨rfl, hb⟩
  have HR1 := Aside0.mk (Kd.C_below HR.out hb)
  have HB1 := Aside0.mk (below_step HB0.out hb)
  have HX1 := Aside0.mk (blk_below HX0.out hb)
  clear hb
  by_cases h1 : (l.length : Int) > 300
  · have h1n : (300 < l.length) = True := eq_true (by omega)
    go_wp2_with fail
    go_ret
    exact ⟨rfl, HB1.out⟩
  have h1n : (300 < l.length) = False := eq_false (by omega)
  by_cases h2 : n > 120 ∧ n ≤ 5000
  · have h3 : n > 120 := h2.1
    have h4 : n ≤ 5000 := h2.2
    clear h2
    go_wp2_with fail
    go_ret
    exact ⟨rfl, HB1.out⟩
  have key : Aside0 (∀ r, bestR n x0 x1 l = r → bestR n x0 x1 l = r) := ⟨fun r h => h⟩
  have x0c := (blk_cell HX1.out 0).trans rfl
  have x1c := (blk_cell HX1.out 1).trans rfl
  obtain ⟨r, hr⟩ : ∃ r, bestR n x0 x1 l = r := ⟨_, rfl⟩
  have HRL := Aside0.mk (show r.1.length ≤ 5001 by rw [← hr]; exact bestR_len n x0 x1 l)
  have HO := Aside0.mk (fun w h1 h2 => hr ▸ ourBest_calls n A c l x0 x1 w h1 h2)
  have HF := Aside0.mk (fun w h1 h2 => hr ▸ refBest_calls n A c l x0 x1 w h1 h2)
  obtain ⟨r1, r2, r3⟩ := r
  clear hr key
  have rest : n ≤ 120 ∨ ¬ n ≤ 5000 := by omega
  clear h2
  have body : Aside0 True := ⟨trivial⟩
  rcases rest with h5 | h5
  · have h6 : ¬ n > 120 := by omega
    go_wp2_with fail
    refine (HO.out W1 HR1.out HC.out).mono ?_
    rintro e W2 ⟨v2, rfl, hv2, hb2⟩
    have HR2 := Aside0.mk (Kd.C_below HR1.out hb2)
    have HB2 := Aside0.mk (below_step HB1.out hb2)
    have HX2 := Aside0.mk (blk_below HX1.out hb2)
    have HV2 := Aside0.mk hv2
    clear hv2 hb2 x0c x1c
    have x0c := (blk_cell HX2.out 0).trans rfl
    have x1c := (blk_cell HX2.out 1).trans rfl
    go_wp2_with fail
    refine (HF.out W2 HR2.out HC.out).mono ?_
    rintro e W3 ⟨v3, rfl, hv3, hb3⟩
    have HB3 := Aside0.mk (below_step HB2.out hb3)
    have HV2b := Aside0.mk (Kd.R_below HV2.out hb3)
    have HV3 := Aside0.mk hv3
    clear hv3 hb3 x0c x1c HV2
    obtain ⟨A2, c2, e2⟩ := Kd.R_slice HV2b.out
    subst e2
    obtain ⟨A3, c3, e3⟩ := Kd.R_slice HV3.out
    subst e3
    go_wp2_with fail
    refine (same_calls A2 c2 r1 A3 c3 r1 W3 (Kd.R_reads' HV2b.out).2.2 (Kd.R_reads' HV2b.out).2.1 (Kd.R_reads' HV3.out).2.2 (Kd.R_reads' HV3.out).2.1 (Nat.lt_of_le_of_lt HRL.out (by decide))).mono ?_
    rintro e W4 ⟨rfl, hb4⟩
    rw [decide_eq_true rfl]
    have HB4 := Aside0.mk (below_step HB3.out hb4)
    clear hb4
    go_wp2_with fail
    go_ret
    exact ⟨by simp, HB4.out⟩
  · have h6 : n > 120 := by omega
    go_wp2_with fail
    refine (HO.out W1 HR1.out HC.out).mono ?_
    rintro e W2 ⟨v2, rfl, hv2, hb2⟩
    have HR2 := Aside0.mk (Kd.C_below HR1.out hb2)
    have HB2 := Aside0.mk (below_step HB1.out hb2)
    have HX2 := Aside0.mk (blk_below HX1.out hb2)
    have HV2 := Aside0.mk hv2
    clear hv2 hb2 x0c x1c
    have x0c := (blk_cell HX2.out 0).trans rfl
    have x1c := (blk_cell HX2.out 1).trans rfl
    go_wp2_with fail
    refine (HF.out W2 HR2.out HC.out).mono ?_
    rintro e W3 ⟨v3, rfl, hv3, hb3⟩
    have HB3 := Aside0.mk (below_step HB2.out hb3)
    have HV2b := Aside0.mk (Kd.R_below HV2.out hb3)
    have HV3 := Aside0.mk hv3
    clear hv3 hb3 x0c x1c HV2
    obtain ⟨A2, c2, e2⟩ := Kd.R_slice HV2b.out
    subst e2
    obtain ⟨A3, c3, e3⟩ := Kd.R_slice HV3.out
    subst e3
    go_wp2_with fail
    refine (same_calls A2 c2 r1 A3 c3 r1 W3 (Kd.R_reads' HV2b.out).2.2 (Kd.R_reads' HV2b.out).2.1 (Kd.R_reads' HV3.out).2.2 (Kd.R_reads' HV3.out).2.1 (Nat.lt_of_le_of_lt HRL.out (by decide))).mono ?_
    rintro e W4 ⟨rfl, hb4⟩
    rw [decide_eq_true rfl]
    have HB4 := Aside0.mk (below_step HB3.out hb4)
    clear hb4
    go_wp2_with fail
    go_ret
    exact ⟨by simp, HB4.out⟩
end Go.Proofs.Ytckpjppbkfcaaaa.Pure
