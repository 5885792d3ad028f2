/- The law CoverLeast. -/
import Derived.Test.YtckpjppbkfcaaaaPureLeast
import Derived.Test.YtckpjppbkfcaaaaSteps
import Derived.Test.YtckpjppbkfcaaaaPrint21
import Derived.Test.YtckpjppbkfcaaaaPrint22
-- NEEDS scansionref19_All scansionref19_Less
namespace Go.Proofs.Ytckpjppbkfcaaaa.Pure
open Go.RowKit Go.Maps Go.Proofs.Ytckpjppbkfcaaaa.Print Go.Proofs.YtckpjppbkfcaaaaW.PrintWords Go.Proofs.YtckpjppbkfcaaaaW.PrintLast Go.Proofs.YtckpjppbkfcaaaaW.PrintMore
set_option linter.unusedVariables false
set_option linter.unusedSimpArgs false

def least4_T14 : Bool × List (List Nat × List Nat) := (true, [([], []), ([], []), ([], []), ([2], [2]), ([], []), ([4], [4]), ([], []), ([], []), ([6, 7], [6, 7]), ([8], [8]), ([0, 1, 3, 5, 9], [0, 1, 3, 5, 9]), ([10], [10]), ([11], [11]), ([11], [11]), ([12, 10, 0, 1, 2, 3, 4, 5, 6, 7, 8, 9, 10, 11, 12], [12]), ([13, 14, 0, 1, 2, 3, 4, 5, 6, 7, 8, 9, 10, 11, 12, 13, 14], [13])])
def least4_B14 : List Nat := [0, 0, 0, 4, 0, 16, 0, 0, 192, 448, 1023, 2047, 4095, 4095, 8191, 32767]
theorem least4_tab14 : rtab .any (opsOf Try.f4 14) = least4_T14 := by kernel_rfl
theorem least4_bits14 : waitsOk least4_T14.2 least4_B14 = true := by kernel_rfl
theorem lt_cell {W : World} {p : Addr} {v : Value} (h : W.cell? p = some v) : p.block < W.heap.size := by
  rcases Nat.lt_or_ge p.block W.heap.size with q | q
  · exact q
  · unfold World.cell? at h
    rw [Array.getElem?_eq_none (by omega)] at h
    simp at h
theorem ev_less_l0 (a b : List Int) (ha : a.length < 9223372036854775807) : ∀ (c i : Nat), i + c = a.length → i ≤ b.length → Ev (fun k => scansionref19_Less.l0 k a b (i : Int)) (lessL (a.drop i) (b.drop i))
  | 0, i, h, hb => by
    obtain rfl : i = a.length := by omega
    have e : lessL (a.drop a.length) (b.drop a.length) = decide ((a.length : Int) < (b.length : Int)) := by
      rw [List.drop_length]
      cases q : b.drop a.length with
      | nil =>
        have := congrArg List.length q
        simp at this
        rw [decide_eq_false (by omega)]; rfl
      | cons x r =>
        have := congrArg List.length q
        simp at this
        rw [decide_eq_true (by omega)]; rfl
    rw [e]
    have hj : Ev (fun k => scansionref19_Less.j1 k a b (a.length : Int) false) (decide ((a.length : Int) < (b.length : Int))) := (Ev.some_ _).succ fun k => by rw [scansionref19_Less.j1, if_neg (by simp)]
    exact hj.succ fun k => by rw [scansionref19_Less.l0, if_neg (by omega)]
  | c + 1, i, h, hb => by
    have hi : i < a.length := by omega
    by_cases q : i < b.length
    · rw [drop_cons hi, drop_cons q, lessL]
      have hj : Ev (fun k => scansionref19_Less.j1 k a b (i : Int) true) (if rd a (i : Int) = rd b (i : Int) then lessL (a.drop (i + 1)) (b.drop (i + 1)) else decide (rd a (i : Int) < rd b (i : Int))) := by
        by_cases e : rd a (i : Int) = rd b (i : Int)
        · rw [if_pos e]
          refine (ev_less_l0 a b ha c (i + 1) (by omega) (by omega)).succ fun k => ?_
          rw [scansionref19_Less.j1, if_pos rfl, if_pos (by omega), if_pos (by omega), if_pos (by omega), if_pos e, wrap_succ (by omega)]
        · rw [if_neg e]
          refine (Ev.some_ _).succ fun k => ?_
          rw [scansionref19_Less.j1, if_pos rfl, if_pos (by omega), if_pos (by omega), if_pos (by omega), if_neg e]
      refine hj.succ fun k => ?_
      rw [scansionref19_Less.l0, if_pos (by omega), decide_eq_true (by omega)]
    · have e : lessL (a.drop i) (b.drop i) = decide ((a.length : Int) < (b.length : Int)) := by
        rw [decide_eq_false (by omega), List.drop_eq_nil_of_le (show b.length ≤ i by omega), drop_cons hi]
        rfl
      rw [e]
      have hj : Ev (fun k => scansionref19_Less.j1 k a b (i : Int) false) (decide ((a.length : Int) < (b.length : Int))) := (Ev.some_ _).succ fun k => by rw [scansionref19_Less.j1, if_neg (by simp)]
      exact hj.succ fun k => by rw [scansionref19_Less.l0, if_pos (by omega), decide_eq_false (by omega)]
theorem less_calls (A0 : Option Addr) (c0 : Nat) (l0 : List Int) (A1 : Option Addr) (c1 : Nat) (l1 : List Int) (w : World) (hr0 : Kd.C (Kd.int .i64) w A0 l0.length l0) (hc0 : l0.length ≤ c0) (hr1 : Kd.C (Kd.int .i64) w A1 l1.length l1) (hc1 : l1.length ≤ c1) (hl : l0.length < 9223372036854775807) :
    Calls Try.prog 15 #[.slice A0 l0.length c0, .slice A1 l1.length c1] w fun e w' => e = .returned (.bool (lessL l0 l1)) ∧ Below w.heap.size w w' := by
  obtain ⟨K, hK⟩ := ev_less_l0 l0 l1 hl l0.length 0 (by omega) (by omega)
  exact (scansionref19_Less.calls K A0 c0 l0 A1 c1 l1 _ w hr0 hc0 hr1 hc1 (hK K (Nat.le_refl _))).mono fun e w' h => ⟨h.1, h.2.below⟩
theorem refCost_calls (n p mo : Int) (A : Option Addr) (c : Nat) (l : List S36) (A4 : Option Addr) (c4 : Nat) (ps : List Int) (w : World) (hr : Kd.C k36 w A l.length l) (hc : l.length ≤ c) (hr4 : Kd.C (Kd.int .i64) w A4 ps.length ps) (hc4 : ps.length ≤ c4) (hl : ps.length < 9223372036854775807) :
    Calls Try.prog 13 #[.int .i64 n, .slice A l.length c, .int .i64 p, .int .i64 mo, .slice A4 ps.length c4] w fun e w' => e = .returned (.tuple #[.int .i64 (costR n p mo l ps).1, .bool (costR n p mo l ps).2]) ∧ Below w.heap.size w w' := by
  obtain ⟨K, hK⟩ := ev_refCost n p mo l ps hl
  exact scansionref19_Cost.calls K n A c l p mo A4 c4 ps _ _ w hr hc hr4 hc4 (hK K (Nat.le_refl _))
theorem all_small : ∀ N : Fin 9, ((scansionref19_All.f 100 ((N.val : Nat) : Int)).any fun r => decide (r.length ≤ 1000) && r.all fun q => decide (q.length ≤ 1000)) = true := by decide +kernel
theorem all_is {N : Nat} (h : N ≤ 8) : ∃ r, scansionref19_All.f 100 (N : Int) = some r ∧ r.length ≤ 1000 ∧ ∀ q ∈ r, q.length ≤ 1000 := by
  have h1 := all_small ⟨N, by omega⟩
  cases q : scansionref19_All.f 100 (N : Int) with
  | none => simp only [q] at h1; cases h1
  | some r =>
    simp only [q, Option.any_some, Bool.and_eq_true, decide_eq_true_eq, List.all_eq_true] at h1
    exact ⟨r, rfl, h1.1, h1.2⟩
theorem rd_L3_mem {l : List (List Int)} {i : Int} (h0 : 0 ≤ i) (h1 : i < l.length) : rd_L3 l i ∈ l := by
  have h : i.toNat < l.length := by omega
  unfold rd_L3
  rw [List.getD_eq_getElem?_getD, List.getElem?_eq_getElem h]
  exact List.getElem_mem h
set_option maxHeartbeats 16000000 in
set_option maxRecDepth 100000 in
theorem coverLeast_calls (n : Int) (A : Option Addr) (c : Nat) (l : List S36) (x0 x1 : Int) (W : World) (hr : Kd.C k36 W A l.length l) (hc : l.length ≤ c) :
    Calls Try.prog 4 #[.int .i64 n, .slice A l.length c, .agg #[.int .i64 x0, .int .i64 x1]] W fun e w' => e = .returned (.bool true) ∧ Below W.heap.size W w' := by
  have HR := Aside0.mk (Kd.C_below hr (below_alloc (Below.refl W.heap.size W) (.cells #[.int .i64 x0, .int .i64 x1] 23)))
  have HC := Aside0.mk hc
  have HB0 := Aside0.mk (below_alloc (Below.refl W.heap.size W) (.cells #[.int .i64 x0, .int .i64 x1] 23))
  have HX0 := Aside0.mk (blk_new W (.cells #[.int .i64 x0, .int .i64 x1] 23))
  clear hr hc
  go_enter Try.func4, Try.ntmps4
  go_wp2_with fail
  refine (awake_calls _).mono ?_
  rintro e W1 ⟨rfl, hb⟩
  have HR1 := Aside0.mk (Kd.C_below HR.out hb)
  have HB := Aside0.mk (below_step HB0.out hb)
  have HX1 := Aside0.mk (blk_below HX0.out hb)
  clear hb
  by_cases h2 : n < 0
  · have h2b : decide (n < 0) = true := decide_eq_true h2
    go_wp2_with fail
    go_ret
    exact ⟨rfl, HB.out⟩
  have h2b : decide (n < 0) = false := decide_eq_false h2
  by_cases h3 : n > 8
  · have h3b : decide (8 < n) = true := decide_eq_true h3
    go_wp2_with fail
    go_ret
    exact ⟨rfl, HB.out⟩
  have h3b : decide (8 < n) = false := decide_eq_false h3
  by_cases h1 : (l.length : Int) > 60
  · have h1n : (60 < l.length) = True := eq_true (by omega)
    go_wp2_with fail
    go_ret
    exact ⟨rfl, HB.out⟩
  have h1n : (60 < l.length) = False := eq_false (by omega)
  obtain ⟨N, hN⟩ : ∃ N : Nat, n = N := ⟨n.toNat, by omega⟩
  obtain ⟨all, hall, hlen, hlens⟩ := all_is (show N ≤ 8 by omega)
  rw [← hN] at hall
  have HA := Aside0.mk hall
  have HAL := Aside0.mk hlen
  have HAQ := Aside0.mk hlens
  clear hall hlen hlens
  obtain ⟨L1, L2⟩ := least_law N x0 x1 l
  rw [← hN] at L1 L2
  have HS1 := Aside0.mk L1
  have HS2 := Aside0.mk L2
  clear L1 L2 hN
  have x0c := (blk_cell HX1.out 0).trans rfl
  have x1c := (blk_cell HX1.out 1).trans rfl
  go_wp2_with fail
  refine (ourBest_calls n A c l x0 x1 W1 HR1.out HC.out).mono ?_
  cases hok : okRun n x0 x1 l with
  | false =>
    rw [HS1.out hok]
    rintro e W2 ⟨v2, rfl, hv2, hb2⟩
    have HB2 := Aside0.mk (below_step HB.out hb2)
    obtain ⟨A2, c2, e2⟩ := Kd.R_slice hv2
    subst e2
    clear hv2 hb2
    go_wp2_with fail
    go_ret
    exact ⟨by simp, HB2.out⟩
  | true =>
    obtain ⟨q1, q2, q3⟩ := HS2.out hok
    have HBL := Aside0.mk (bestR_len n x0 x1 l)
    obtain ⟨b, hbb⟩ : ∃ b, bestR n x0 x1 l = b := ⟨_, rfl⟩
    rw [hbb] at q1 q2 q3 HBL
    rw [hbb]
    clear hbb HS1 HS2 hok
    obtain ⟨b1, b2, b3⟩ := b
    simp only at q1 q2 q3 HBL
    subst q1
    rintro e W2 ⟨v2, rfl, hv2, hb2⟩
    have HR2 := Aside0.mk (Kd.C_below HR1.out hb2)
    have HB2 := Aside0.mk (below_step HB.out hb2)
    have HX2 := Aside0.mk (blk_below HX1.out hb2)
    obtain ⟨A2, c2, e2⟩ := Kd.R_slice hv2
    subst e2
    have HV2 := Aside0.mk hv2
    clear hv2 hb2 x0c x1c
    have HQ2 := Aside0.mk q2
    have HQ3 := Aside0.mk q3
    clear q2 q3
    have x0c := (blk_cell HX2.out 0).trans rfl
    have x1c := (blk_cell HX2.out 1).trans rfl
    go_wp2_with fail
    refine (refCost_calls n x0 x1 A c l A2 c2 b1 W2 HR2.out HC.out (Kd.R_reads' HV2.out).2.2 (Kd.R_reads' HV2.out).2.1 (by have := HBL.out; omega)).mono ?_
    rw [HQ2.out]
    rintro e W3 ⟨rfl, hb3⟩
    have HR3 := Aside0.mk (Kd.C_below HR2.out hb3)
    have HB3 := Aside0.mk (below_step HB2.out hb3)
    have HX3 := Aside0.mk (blk_below HX2.out hb3)
    have HV3 := Aside0.mk (Kd.R_below HV2.out hb3)
    clear hb3 x0c x1c HV2
    have bb : (b2 != b2) = false := by simp
    go_wp2_with fail
    refine (scansionref19_All.calls 100 n all W3 HA.out).mono ?_
    rintro e W4 ⟨v4, rfl, hv4, hb4⟩
    have HR4 := Aside0.mk (Kd.C_below HR3.out hb4)
    have HB4 := Aside0.mk (below_step HB3.out hb4)
    have HX4 := Aside0.mk (blk_below HX3.out hb4)
    have HV4 := Aside0.mk (Kd.R_below HV3.out hb4)
    obtain ⟨A4, c4, e4, hl4, hC4⟩ := Kd.N_reads hv4
    subst e4
    have HC4 := Aside0.mk hC4
    clear hv4 hb4 hl4 hC4 HV3
    go_wp2_with fail
    go_loopg [14] all.length (fun kq v14 w' => ∃ x14 : Int, v14 = .int .i64 x14 ∧ Aside0 (0 ≤ x14 ∧ x14 + kq = all.length) ∧ Aside0 (Below W4.heap.size W4 w'))
    case atStart => exact ⟨0, rfl, ⟨⟨by omega, by omega⟩⟩, ⟨Below.refl _ _⟩⟩
    case round =>
      obtain ⟨x14, rfl, HI, HBr⟩ := hrel
      have HRr := Aside0.mk (Kd.C_below HR4.out HBr.out)
      have HXr := Aside0.mk (blk_below HX4.out HBr.out)
      have HVr := Aside0.mk (Kd.R_below HV4.out HBr.out)
      have HCr := Aside0.mk (Kd.C_below HC4.out HBr.out)
      have HBw := Aside0.mk (below_step HB4.out HBr.out)
      by_cases q : x14 < (all.length : Int)
      · have qb : decide (x14 < (all.length : Int)) = true := decide_eq_true q
        have p0 : 0 ≤ x14 := HI.out.1
        obtain ⟨ad, Ai, ci, ead, hx, hl, hi⟩ := at_L3 HCr.out x14 p0 q
        have HQL := Aside0.mk (HAQ.out _ (rd_L3_mem p0 q))
        have HLi := Aside0.mk hl
        have HIi := Aside0.mk hi
        have HP := Aside0.mk p0
        have HQ := Aside0.mk q
        cases ead
        clear hl hi
        replace p0 := eq_true p0
        replace q := eq_true q
        have x0c := (blk_cell HXr.out 0).trans rfl
        have x1c := (blk_cell HXr.out 1).trans rfl
        obtain ⟨k1, hk1⟩ : ∃ k1, gk = k1 + 1 := ⟨gk - 1, by have := HI.out; have := HQ.out; omega⟩
        subst hk1
        have HQ5 := Aside0.mk (show (costR n x0 x1 l (rd_L3 all x14)).2 = true → b2 ≤ (costR n x0 x1 l (rd_L3 all x14)).1 ∧ ((costR n x0 x1 l (rd_L3 all x14)).1 = b2 → lessL (rd_L3 all x14) b1 = false) from fun h => HQ3.out _ h)
        have HCALL := Aside0.mk (fun (w : World) (hb : Below wr.heap.size wr w) => refCost_calls n x0 x1 A c l Ai ci (rd_L3 all x14) w (Kd.C_below HRr.out hb) HC.out (Kd.C_below HIi.out hb) HLi.out (by have := HQL.out; omega))
        obtain ⟨d, hdd⟩ : ∃ d, costR n x0 x1 l (rd_L3 all x14) = d := ⟨_, rfl⟩
        rw [hdd] at HQ5 HCALL
        clear hdd
        obtain ⟨d1, d2⟩ := d
        go_upto_region 14 with fail
        have HD6 := Aside0.mk (below_drew (Below.refl wr.heap.size wr))
        have HX6 := Aside0.mk (blk_below HXr.out HD6.out)
        have hx6 : wr.drew.cell? (ad.add x14.toNat) = some (.slice Ai (rd_L3 all x14).length ci) := hx
        refine wp_region_noPanic ?_
        refine start_ (n := 16) (S := fun w' => w'.cell? ⟨W.heap.size, 0, none⟩ = some (.int .i64 x0) ∧ w'.cell? ⟨W.heap.size, 1, none⟩ = some (.int .i64 x1) ∧ w'.cell? (ad.add x14.toNat) = some (.slice Ai (rd_L3 all x14).length ci)) (ds := []) #[false, false, false, false, false, false, false, false, false, false, false, false, false, false, false, false] (by kernel_rfl) rfl rfl ⟨(blk_cell HX6.out 0).trans rfl, (blk_cell HX6.out 1).trans rfl, hx6⟩ (fun hHeld => ?_); refine with_tabW least4_tab14 least4_bits14 (fun HT_ HW_ => ?_)
        obtain ⟨W6, hW6⟩ : ∃ w, wr.drew = w := ⟨_, rfl⟩
        rw [hW6] at HD6 HX6 hHeld ⊢
        rw [hW6] at hx6
        clear hW6
        refine pure_ (i := 0) (N := some 81) (v := ?_) (a' := ?_) #[true, false, false, false, false, false, false, false, false, false, false, false, false, false, false, false] rfl rfl (any_of HT_.out (by kernel_rfl)) (fun _ _ _ h => h) (Or.inl ⟨by rfl, ?_⟩) ?_ ?_
        rotate_left
        · intro w'
          go_simp
          with_reducible rfl
        rotate_left
        · simp only [Act.put, List.setIfInBounds_toArray, List.set_cons_zero, List.set_cons_succ, i64_w, i32_w]
          rfl
        refine pure_ (i := 1) (N := some 82) (v := ?_) (a' := ?_) #[true, true, false, false, false, false, false, false, false, false, false, false, false, false, false, false] rfl rfl (any_of HT_.out (by kernel_rfl)) (fun _ _ _ h => h) (Or.inl ⟨by rfl, ?_⟩) ?_ ?_
        rotate_left
        · intro w'
          go_simp
          with_reducible rfl
        rotate_left
        · simp only [Act.put, List.setIfInBounds_toArray, List.set_cons_zero, List.set_cons_succ, i64_w, i32_w]
          rfl
        refine pure_ (i := 2) (N := some 83) (v := ?_) (a' := ?_) #[true, true, true, false, false, false, false, false, false, false, false, false, false, false, false, false] rfl rfl (any_of HT_.out (by kernel_rfl)) (fun _ _ _ h => h) (Or.inl ⟨by rfl, ?_⟩) ?_ ?_
        rotate_left
        · intro w'
          go_simp
          with_reducible rfl
        rotate_left
        · simp only [Act.put, List.setIfInBounds_toArray, List.set_cons_zero, List.set_cons_succ, i64_w, i32_w]
          rfl
        refine take_ (i := 3) (N := some 84) (v := ?_) (a' := ?_) #[true, true, true, true, false, false, false, false, false, false, false, false, false, false, false, false] rfl rfl (take_ofW HT_.out HW_.out (by kernel_rfl)) (fun _ _ _ h => h) (Or.inl ⟨by rfl, ?_⟩) hHeld ?_ ?_
        rotate_left
        · rintro w' ⟨s0, s1, s2⟩
          go_simp
          with_reducible rfl
        rotate_left
        · simp only [Act.put, List.setIfInBounds_toArray, List.set_cons_zero, List.set_cons_succ, i64_w, i32_w]
          rfl
        refine pure_ (i := 4) (N := some 85) (v := ?_) (a' := ?_) #[true, true, true, true, true, false, false, false, false, false, false, false, false, false, false, false] rfl rfl (any_of HT_.out (by kernel_rfl)) (fun _ _ _ h => h) (Or.inl ⟨by rfl, ?_⟩) ?_ ?_
        rotate_left
        · intro w'
          go_simp
          with_reducible rfl
        rotate_left
        · simp only [Act.put, List.setIfInBounds_toArray, List.set_cons_zero, List.set_cons_succ, i64_w, i32_w]
          rfl
        refine take_ (i := 5) (N := some 86) (v := ?_) (a' := ?_) #[true, true, true, true, true, true, false, false, false, false, false, false, false, false, false, false] rfl rfl (take_ofW HT_.out HW_.out (by kernel_rfl)) (fun _ _ _ h => h) (Or.inl ⟨by rfl, ?_⟩) hHeld ?_ ?_
        rotate_left
        · rintro w' ⟨s0, s1, s2⟩
          go_simp
          with_reducible rfl
        rotate_left
        · simp only [Act.put, List.setIfInBounds_toArray, List.set_cons_zero, List.set_cons_succ, i64_w, i32_w]
          rfl
        refine pure_ (i := 6) (N := some 87) (v := ?_) (a' := ?_) #[true, true, true, true, true, true, true, false, false, false, false, false, false, false, false, false] rfl rfl (any_of HT_.out (by kernel_rfl)) (fun _ _ _ h => h) (Or.inl ⟨by rfl, ?_⟩) ?_ ?_
        rotate_left
        · intro w'
          go_simp
          with_reducible rfl
        rotate_left
        · simp only [Act.put, List.setIfInBounds_toArray, List.set_cons_zero, List.set_cons_succ, i64_w, i32_w]
          rfl
        refine pure_ (i := 7) (N := some 88) (v := ?_) (a' := ?_) #[true, true, true, true, true, true, true, true, false, false, false, false, false, false, false, false] rfl rfl (any_of HT_.out (by kernel_rfl)) (fun _ _ _ h => h) (Or.inl ⟨by rfl, ?_⟩) ?_ ?_
        rotate_left
        · intro w'
          go_simp
          with_reducible rfl
        rotate_left
        · simp only [Act.put, List.setIfInBounds_toArray, List.set_cons_zero, List.set_cons_succ, i64_w, i32_w]
          rfl
        refine pure_ (i := 8) (N := some 89) (v := ?_) (a' := ?_) #[true, true, true, true, true, true, true, true, true, false, false, false, false, false, false, false] rfl rfl (any_of HT_.out (by kernel_rfl)) (fun _ _ _ h => h) (Or.inl ⟨by rfl, ?_⟩) ?_ ?_
        rotate_left
        · intro w'
          go_simp
          with_reducible rfl
        rotate_left
        · simp only [Act.put, List.setIfInBounds_toArray, List.set_cons_zero, List.set_cons_succ, i64_w, i32_w]
          rfl
        refine take_ (i := 9) (N := some 90) (v := ?_) (a' := ?_) #[true, true, true, true, true, true, true, true, true, true, false, false, false, false, false, false] rfl rfl (take_ofW HT_.out HW_.out (by kernel_rfl)) (fun _ _ _ h => h) (Or.inl ⟨by rfl, ?_⟩) hHeld ?_ ?_
        rotate_left
        · rintro w' ⟨s0, s1, s2⟩
          go_simp
          with_reducible rfl
        rotate_left
        · simp only [Act.put, List.setIfInBounds_toArray, List.set_cons_zero, List.set_cons_succ, i64_w, i32_w]
          rfl
        refine one_ (i := 10) (N := some 91) #[true, true, true, true, true, true, true, true, true, true, true, false, false, false, false, false] rfl rfl (one_of HT_.out (by kernel_rfl)) (by decide) (fun K hK => ?_)
        refine goes_ Try.func13 (by kernel_rfl) rfl #[.int .i64 n, .slice A l.length c, .int .i64 x0, .int .i64 x1, .slice Ai (rd_L3 all x14).length ci] (by rfl) rfl rfl (by (try simp only [List.map_toArray, List.map_cons, List.map_nil]); first | done | rfl) ?_
        refine (HCALL.out W6 HD6.out).mono ?_
        rintro e W5 ⟨rfl, hb5⟩
        have HB5 := Aside0.mk (below_step HD6.out hb5)
        refine ⟨_, rfl, ?_⟩
        refine hK.out _ _ ⟨(blk_cell (blk_below HX6.out hb5) 0).trans rfl, (blk_cell (blk_below HX6.out hb5) 1).trans rfl, (hb5.cell (lt_cell hx6)).trans hx6⟩ (fun hHeld => ?_)
        clear hb5
        clear hK K
        refine norm_ (a' := ?_) ?_ ?_
        rotate_left
        · show Act.put _ (some 91) _ = _
          simp only [Act.put, List.setIfInBounds_toArray, List.set_cons_zero, List.set_cons_succ, i64_w, i32_w]
          rfl
        refine pure_ (i := 11) (N := some 80) (v := ?_) (a' := ?_) #[true, true, true, true, true, true, true, true, true, true, true, true, false, false, false, false] rfl rfl (any_of HT_.out (by kernel_rfl)) (fun _ _ _ h => h) (Or.inl ⟨by rfl, ?_⟩) ?_ ?_
        rotate_left
        · intro w'
          go_simp
          with_reducible rfl
        rotate_left
        · simp only [Act.put, List.setIfInBounds_toArray, List.set_cons_zero, List.set_cons_succ, i64_w, i32_w]
          rfl
        refine pure_ (i := 12) (N := some 92) (v := ?_) (a' := ?_) #[true, true, true, true, true, true, true, true, true, true, true, true, true, false, false, false] rfl rfl (any_of HT_.out (by kernel_rfl)) (fun _ _ _ h => h) (Or.inl ⟨by rfl, ?_⟩) ?_ ?_
        rotate_left
        · intro w'
          go_simp
          with_reducible rfl
        rotate_left
        · simp only [Act.put, List.setIfInBounds_toArray, List.set_cons_zero, List.set_cons_succ, i64_w, i32_w]
          rfl
        refine pure_ (i := 13) (N := some 93) (v := ?_) (a' := ?_) #[true, true, true, true, true, true, true, true, true, true, true, true, true, true, false, false] rfl rfl (any_of HT_.out (by kernel_rfl)) (fun _ _ _ h => h) (Or.inl ⟨by rfl, ?_⟩) ?_ ?_
        rotate_left
        · intro w'
          go_simp
          with_reducible rfl
        rotate_left
        · simp only [Act.put, List.setIfInBounds_toArray, List.set_cons_zero, List.set_cons_succ, i64_w, i32_w]
          rfl
        refine pure_ (i := 14) (N := some 15) (v := ?_) (a' := ?_) #[true, true, true, true, true, true, true, true, true, true, true, true, true, true, true, false] rfl rfl (any_of HT_.out (by kernel_rfl)) (fun _ _ _ h => h) (Or.inl ⟨by rfl, ?_⟩) ?_ ?_
        rotate_left
        · intro w'
          go_simp
          with_reducible rfl
        rotate_left
        · simp only [Act.put, List.setIfInBounds_toArray, List.set_cons_zero, List.set_cons_succ, i64_w, i32_w]
          rfl
        refine pure_ (i := 15) (N := some 16) (v := ?_) (a' := ?_) #[true, true, true, true, true, true, true, true, true, true, true, true, true, true, true, true] rfl rfl (any_of HT_.out (by kernel_rfl)) (fun _ _ _ h => h) (Or.inl ⟨by rfl, ?_⟩) ?_ ?_
        rotate_left
        · intro w'
          go_simp
          with_reducible rfl
        rotate_left
        · simp only [Act.put, List.setIfInBounds_toArray, List.set_cons_zero, List.set_cons_succ, i64_w, i32_w]
          rfl
        refine done_ (done_of HT_.out (by kernel_rfl)) ?_
        refine NoPanic.normal ?_
        clear HT_ HW_ hHeld
        have HX5 := Aside0.mk (Kd.C_below HCr.out HB5.out)
        have HV5 := Aside0.mk (Kd.R_below HVr.out HB5.out)
        have HBr5 := Aside0.mk (below_step HBr.out HB5.out)
        clear x0c x1c hx hx6
        have hwr : wrap64 (x14 + 1) = x14 + 1 := by have := HI.out; have := HAL.out; unfold wrap64; omega
        cases d2 with
        | false =>
          go_wp2_with fail
          go_roundg k1
          case measure => omega
          case rel => exact ⟨x14 + 1, (by first | rfl | (simp [*]; done)), ⟨by have := HI.out; omega⟩, ⟨HBr5.out⟩⟩
        | true =>
          obtain ⟨g1, g2⟩ := HQ5.out rfl
          simp only at g1 g2
          have g1b : decide (d1 < b2) = false := decide_eq_false (by omega)
          clear g1
          by_cases g3 : d1 = b2
          · have g3b : (d1 == b2) = true := beq_iff_eq.mpr g3
            have HG := Aside0.mk (g2 g3)
            clear g2 g3
            obtain ⟨ad', Ai', ci', ead', hx', hl', hi'⟩ := at_L3 HX5.out x14 HP.out HQ.out
            obtain rfl : ad = ad' := (by injection ead')
            have HLi' := Aside0.mk hl'
            have HIi' := Aside0.mk hi'
            clear hl' hi'
            go_wp2_with fail
            refine (less_calls Ai' ci' (rd_L3 all x14) A2 c2 b1 W5 HIi'.out HLi'.out (Kd.R_reads' HV5.out).2.2 (Kd.R_reads' HV5.out).2.1 (by have := HQL.out; omega)).mono ?_
            rw [HG.out]
            rintro e W6 ⟨rfl, hb6⟩
            have HBr6 := Aside0.mk (below_step HBr5.out hb6)
            clear hb6 hx'
            go_wp2_with fail
            go_roundg k1
            case measure => omega
            case rel => exact ⟨x14 + 1, (by first | rfl | (simp [*]; done)), ⟨by have := HI.out; omega⟩, ⟨HBr6.out⟩⟩
          · have g3b : (d1 == b2) = false := beq_eq_false_iff_ne.mpr g3
            clear g2 g3
            go_wp2_with fail
            go_roundg k1
            case measure => omega
            case rel => exact ⟨x14 + 1, (by first | rfl | (simp [*]; done)), ⟨by have := HI.out; omega⟩, ⟨HBr5.out⟩⟩
      · have qb : decide (x14 < (all.length : Int)) = false := decide_eq_false q
        go_wp2_with fail
        go_ret
        exact ⟨rfl, HBw.out⟩
end Go.Proofs.Ytckpjppbkfcaaaa.Pure
