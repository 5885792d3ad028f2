/- The law CoverSingles. -/
import Derived.Test.YtckpjppbkfcaaaaPureSingles
import Derived.Test.YtckpjppbkfcaaaaSteps
namespace Go.Proofs.Ytckpjppbkfcaaaa.Pure
open Go.RowKit Go.Maps Go.Proofs.Ytckpjppbkfcaaaa.Print Go.Proofs.YtckpjppbkfcaaaaW.PrintWords Go.Proofs.YtckpjppbkfcaaaaW.PrintLast Go.Proofs.YtckpjppbkfcaaaaW.PrintMore
set_option linter.unusedVariables false
set_option linter.unusedSimpArgs false

theorem upTo_bound : ∀ (c a : Nat) (z : Int), z ∈ upTo c a → 0 ≤ z ∧ z ≤ a + c
  | 0, a, z, h => by cases h
  | c + 1, a, z, h => by
    rw [upTo, List.mem_cons] at h
    rcases h with rfl | h
    · omega
    · have := upTo_bound c (a + 1) z h
      omega
theorem wf64 {n : Int} (h : -9223372036854775808 ≤ n ∧ n ≤ 9223372036854775807) : (Lit.int .i64 n).wf = true := by
  simp [Lit.wf, IntKind.min, IntKind.max, IntKind.signed, IntKind.bits]
  omega
set_option maxHeartbeats 16000000 in
set_option maxRecDepth 100000 in
theorem coverSingles_calls (n : Int) (A : Option Addr) (c : Nat) (l : List S36) (x0 x1 : Int) (W : World) (hr : Kd.C k36 W A l.length l) (hc : l.length ≤ c) :
    Calls Try.prog 8 #[.int .i64 n, .slice A l.length c, .agg #[.int .i64 x0, .int .i64 x1]] W fun e w' => e = .returned (.bool true) ∧ Below W.heap.size W w' := by
  have HR := Aside0.mk (Kd.C_below hr (below_alloc (Below.refl W.heap.size W) (.cells #[.int .i64 x0, .int .i64 x1] 23)))
  have HC := Aside0.mk hc
  have HB0 := Aside0.mk (below_alloc (Below.refl W.heap.size W) (.cells #[.int .i64 x0, .int .i64 x1] 23))
  have HX0 := Aside0.mk (blk_new W (.cells #[.int .i64 x0, .int .i64 x1] 23))
  clear hr hc
  go_enter Try.func8, Try.ntmps8
  go_wp2_with fail
  refine (awake_calls _).mono ?_
  rintro e W1 ⟨rfl, hb⟩
  have HR1 := Aside0.mk (Kd.C_below HR.out hb)
  have HB := Aside0.mk (below_step HB0.out hb)
  have HX1 := Aside0.mk (blk_below HX0.out hb)
  clear hb
  by_cases h1 : (l.length : Int) > 300
  · have h1n : (300 < l.length) = True := eq_true (by omega)
    go_wp2_with fail
    go_ret
    exact ⟨rfl, HB.out⟩
  have h1n : (300 < l.length) = False := eq_false (by omega)
  by_cases h2 : n < 0
  · have h2b : decide (n < 0) = true := decide_eq_true h2
    go_wp2_with fail
    go_ret
    exact ⟨rfl, HB.out⟩
  have h2b : decide (n < 0) = false := decide_eq_false h2
  by_cases h3 : n > 120
  · have h3b : decide (120 < n) = true := decide_eq_true h3
    go_wp2_with fail
    go_ret
    exact ⟨rfl, HB.out⟩
  have h3b : decide (120 < n) = false := decide_eq_false h3
  obtain ⟨N, hN⟩ : ∃ N : Nat, n = N := ⟨n.toNat, by omega⟩
  have HN := Aside0.mk hN
  have hN120 : N ≤ 120 := by omega
  have HN120 := Aside0.mk hN120
  obtain ⟨k, hk⟩ := ev_singles_l0 N (by omega) (N + 1) 0 [] (by omega) rfl
  obtain ⟨r, hrr⟩ : ∃ r, ([] : List Int) ++ upTo (N + 1) 0 = r := ⟨_, rfl⟩
  have H' := Aside0.mk (show scansionref19_singles.l0 k n [] 0 = some r by rw [hN, ← hrr]; exact hk k (Nat.le_refl _))
  have HRR := Aside0.mk hrr
  clear hk hrr hN120 hN
  go_wp2_with fail
  have HB1 := Aside0.mk HB.out
  clear HB
  have HB := Aside0.mk (Below.refl W1.heap.size W1)
  go_loopg [8, 9] k (fun kq v3 v4 w' => ∃ (x3_1 : List Int) (x4_1 : Int), v4 = .int .i64 x4_1 ∧ Aside0 (scansionref19_singles.l0 kq n x3_1 x4_1 = some r) ∧ Aside0 (kq ≤ k) ∧ Aside0 (Kd.R (Kd.int .i64) 3 w' W1.heap.size (fun _ => True) v3 x3_1) ∧ Aside0 (Below W1.heap.size W1 w'))
  case atStart => exact ⟨(([] : List Int)), (0), rfl, H', ⟨Nat.le_refl _⟩, ⟨Kd.R_nil _ _ _ _ _⟩, ⟨by repeat (first | (with_reducible first | exact HB.out | apply below_alloc | apply pw_below_drewN | apply below_drew1) | exact HB.out)⟩⟩
  case round =>
    clear H'
    obtain ⟨x3_1, x4_1, rfl, HA, HK1, HO_3, HB⟩ := hrel
    cases gk with
    | zero => exact absurd HA.out (by simp [scansionref19_singles.l0])
    | succ k1 =>
      have H := HA.out
      clear HA
      simp only [scansionref19_singles.l0] at H
      by_cases c2 : x4_1 ≤ n
      · rw [if_pos c2] at H
        have c2b0 : decide (x4_1 ≤ n) = true := decide_eq_true c2
        clear c2
        by_cases c3 : x3_1.length < 17592186044416
        · rw [if_pos c3] at H
          have LMc3 := Aside0.mk c3
          clear c3
          obtain ⟨y241, hy241⟩ : ∃ y_ : List Int, y_ = (x3_1 ++ [x4_1]) := ⟨_, rfl⟩
          replace H : (scansionref19_singles.l0 k1 n y241 (wrap64 (x4_1 + 1))) = some r := by rw [hy241]; exact H
          have Ny241 := Aside0.mk hy241
          clear hy241
          have H' := Aside0.mk H
          clear H
          go_wp2_with (first | ((with_reducible refine gate_builtin (b := .append) (xs := #[.tmp 42, .tmp 44]) rfl ?_); at_builtin; refine Kd.R_append (Kd.int .i64) (w0 := W1) W1.heap.size rfl (.tmp 42) (.tmp 44) 25 3 (.int .i64 0) 8 rfl Try.underlying25 info3 rfl (by decide) (by omega) u8 x3_1 x4_1 [.int .i64 x4_1] (fun _ => True) (fun _ => False) rfl rfl ?aP (fun _ hk => hk.elim) ?aF ?aO ?aB ?aS ?aL ?_; (case aP => exact rfl); (case aB => exact (by repeat (first | (with_reducible first | exact HB.out | apply below_alloc | apply pw_below_drewN | apply below_drew1) | exact HB.out))); (case aF => exact (fun _ _ => trivial)); (case aO => exact (by (with_reducible repeat (first | apply Kd.R_alloc | apply Kd.R_drewN | apply Kd.R_drew)); exact HO_3.out)); (case aS => exact (below_size (by repeat (first | (with_reducible first | exact HB.out | apply below_alloc | apply pw_below_drewN | apply below_drew1) | exact HB.out)))); (case aL => have := LMc3.out; omega); intro v242 w4 ho hb hg hat; rw [← Ny241.out] at ho; have n0_ := Aside0.mk (hb); have n1_ := Aside0.mk (ho); clear HB; clear HO_3; have HB := n0_; have HO243 := n1_; clear n0_ n1_; clear ho hb hg hat))
          go_roundg k1
          case measure => have := HK1.out; omega
          case rel => exact ⟨(y241), (wrap64 (x4_1 + 1)), (by first | rfl | (simp; done) | (simp [*]; done)), H', ⟨by have := HK1.out; omega⟩, ⟨by (with_reducible repeat (first | apply Kd.R_alloc | apply Kd.R_drewN | apply Kd.R_drew)); exact HO243.out⟩, ⟨by repeat (first | (with_reducible first | exact HB.out | apply below_alloc | apply pw_below_drewN | apply below_drew1) | exact HB.out)⟩⟩
        · rw [if_neg c3] at H
          exact absurd H (by simp)
      · rw [if_neg c2] at H
        have c2b0 : decide (x4_1 ≤ n) = false := decide_eq_false c2
        clear c2
        obtain rfl := Option.some.inj H
        clear H
        have HRw := Aside0.mk (Kd.C_below HR1.out HB.out)
        have HXw := Aside0.mk (blk_below HX1.out HB.out)
        have HBw := Aside0.mk (below_step HB1.out HB.out)
        obtain ⟨A8, c8, e8⟩ := Kd.R_slice HO_3.out
        subst e8
        have er : x3_1 = 0 :: upTo N 1 := by rw [← HRR.out]; rfl
        have hlen : x3_1.length ≤ 200 := by rw [er, List.length_cons, (upTo_last N 0).1]; have := HN120.out; omega
        have HL := Aside0.mk hlen
        obtain ⟨L1, L2⟩ := singles_law N x0 x1 l
        rw [← er, ← HN.out] at L1 L2
        have HS1 := Aside0.mk L1
        have HS2 := Aside0.mk L2
        have HWF : Aside0 (∀ z ∈ x3_1, (Lit.int .i64 z).wf = true) := ⟨fun z hz => by
          rw [er] at hz
          have hb := upTo_bound (N + 1) 0 z hz
          have := HN120.out
          exact Go.Proofs.Ytckpjppbkfcaaaa.Pure.wf64 (by omega)⟩
        clear er hlen L1 L2 HRR
        have x0c := (blk_cell HXw.out 0).trans rfl
        have x1c := (blk_cell HXw.out 1).trans rfl
        go_wp2_with fail
        refine (ourBest_calls n A c l x0 x1 wr HRw.out HC.out).mono ?_
        rintro e W2 ⟨v2, rfl, hv2, hb2⟩
        have HR2 := Aside0.mk (Kd.C_below HRw.out hb2)
        have HB2 := Aside0.mk (below_step HBw.out hb2)
        have HX2 := Aside0.mk (blk_below HXw.out hb2)
        have HO2 := Aside0.mk (Kd.R_below HO_3.out hb2)
        have HV2 := Aside0.mk hv2
        clear hv2 hb2 x0c x1c HO_3
        have x0c := (blk_cell HX2.out 0).trans rfl
        have x1c := (blk_cell HX2.out 1).trans rfl
        have HLB := Aside0.mk (bestR_len n x0 x1 l)
        obtain ⟨b, hbb⟩ : ∃ b, bestR n x0 x1 l = b := ⟨_, rfl⟩
        rw [hbb] at HV2 HS1 HS2 HLB
        try rw [hbb]
        clear hbb
        obtain ⟨b1, b2, b3⟩ := b
        simp only at HV2 HLB ⊢
        go_wp2_with fail
        refine (cost_calls n x0 x1 A c l A8 c8 x3_1 W2 HR2.out HC.out (Kd.R_reads' HO2.out).2.2 (Kd.R_reads' HO2.out).2.1 HWF.out (by have := HL.out; omega)).mono ?_
        rintro e W3 ⟨hb3, rfl⟩
        have HB3 := Aside0.mk (below_step HB2.out hb3)
        have HX3 := Aside0.mk (blk_below HX2.out hb3)
        have HO3 := Aside0.mk (Kd.R_below HO2.out hb3)
        have HV3 := Aside0.mk (Kd.R_below HV2.out hb3)
        clear hb3 x0c x1c HO2 HV2
        have x0c := (blk_cell HX3.out 0).trans rfl
        have x1c := (blk_cell HX3.out 1).trans rfl
        obtain ⟨d, hdd⟩ : ∃ d, costR n x0 x1 l x3_1 = d := ⟨_, rfl⟩
        rw [hdd] at HS1 HS2
        try rw [hdd]
        clear hdd
        obtain ⟨d1, d2⟩ := d
        cases hok : okRun n x0 x1 l with
        | false =>
          obtain ⟨q1, q2⟩ := HS1.out hok
          cases q1
          simp only at q2
          subst q2
          go_wp2_with fail
          go_ret
          exact ⟨by simp, HB3.out⟩
        | true =>
          obtain ⟨q1, q2, q3, q4, q5⟩ := HS2.out hok
          simp only at q1 q2 q3 q5
          subst q1 q2
          have HQ4 := Aside0.mk q4
          have HQ5 := Aside0.mk q5
          have q3b : decide (b2 ≤ d1) = true := decide_eq_true q3
          clear q4 q5 q3
          go_wp2_with fail
          have hnil : Kd.C k36 W3 none ([] : List S36).length [] := ⟨rfl, by simp, fun h => absurd h (Nat.lt_irrefl 0)⟩
          refine (ourBest_calls n none 0 [] x0 x1 W3 hnil (Nat.le_refl _)).mono ?_
          rw [HQ4.out]
          rintro e W4 ⟨v4, rfl, hv4, hb4⟩
          have HB4 := Aside0.mk (below_step HB3.out hb4)
          have HX4 := Aside0.mk (blk_below HX3.out hb4)
          have HO4 := Aside0.mk (Kd.R_below HO3.out hb4)
          have HV4 := Aside0.mk (Kd.R_below HV3.out hb4)
          have HU4 := Aside0.mk hv4
          clear hb4 hv4 x0c x1c HO3 HV3
          have x0c := (blk_cell HX4.out 0).trans rfl
          have x1c := (blk_cell HX4.out 1).trans rfl
          obtain ⟨A2, c2, e2⟩ := Kd.R_slice HV4.out
          subst e2
          obtain ⟨A3, c3, e3⟩ := Kd.R_slice HU4.out
          subst e3
          have hx0 : 0 ≤ x0 ∧ x0 ≤ 1048576 := by
            unfold okRun at hok
            rw [Bool.and_eq_true] at hok
            have h9 := hok.1
            unfold limOk at h9
            simp only [Bool.and_eq_true, decide_eq_true_eq] at h9
            exact inN_is h9.2.1
          have hw : wrap64 (n * x0) = n * x0 := by
            have g1 : 0 ≤ n * x0 := Int.mul_nonneg (by omega) hx0.1
            have g2 : n * x0 ≤ 120 * 1048576 := Int.mul_le_mul (by omega) hx0.2 hx0.1 (by omega)
            exact wrap_small g1 (by omega)
          clear hx0 hok
          go_wp2_with fail
          refine (same_calls A3 c3 x3_1 A8 c8 x3_1 W4 (Kd.R_reads' HU4.out).2.2 (Kd.R_reads' HU4.out).2.1 (Kd.R_reads' HO4.out).2.2 (Kd.R_reads' HO4.out).2.1 (by have := HL.out; omega)).mono ?_
          rintro e W5 ⟨rfl, hb5⟩
          rw [decide_eq_true rfl]
          have HB5 := Aside0.mk (below_step HB4.out hb5)
          have HX5 := Aside0.mk (blk_below HX4.out hb5)
          have HO5 := Aside0.mk (Kd.R_below HO4.out hb5)
          have HV5 := Aside0.mk (Kd.R_below HV4.out hb5)
          clear hb5 x0c x1c
          have x0c := (blk_cell HX5.out 0).trans rfl
          have x1c := (blk_cell HX5.out 1).trans rfl
          by_cases q : b2 < x1
          · have qb : decide (b2 < x1) = true := decide_eq_true q
            clear q
            go_wp2_with fail
            go_ret
            exact ⟨by simp, HB5.out⟩
          · have qb : decide (b2 < x1) = false := decide_eq_false q
            have e9 := HQ5.out.resolve_left q
            subst e9
            clear q
            go_wp2_with fail
            refine (same_calls A2 c2 _ A8 c8 _ W5 (Kd.R_reads' HV5.out).2.2 (Kd.R_reads' HV5.out).2.1 (Kd.R_reads' HO5.out).2.2 (Kd.R_reads' HO5.out).2.1 (by have := HL.out; omega)).mono ?_
            rintro e W6 ⟨rfl, hb6⟩
            rw [decide_eq_true rfl]
            have HB6 := Aside0.mk (below_step HB5.out hb6)
            have HX6 := Aside0.mk (blk_below HX5.out hb6)
            clear hb6 x0c x1c
            have x0c := (blk_cell HX6.out 0).trans rfl
            have x1c := (blk_cell HX6.out 1).trans rfl
            go_wp2_with fail
            go_ret
            exact ⟨by simp, HB6.out⟩
end Go.Proofs.Ytckpjppbkfcaaaa.Pure
