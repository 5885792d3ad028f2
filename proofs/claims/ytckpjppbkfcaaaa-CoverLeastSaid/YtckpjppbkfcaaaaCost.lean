/- cover.Cost: what pieces cost. -/
import Derived.Test.YtckpjppbkfcaaaaBest
namespace Go.Proofs.Ytckpjppbkfcaaaa.Print
open Go.RowKit Go.Maps Go.Proofs.YtckpjppbkfcaaaaW.PrintWords Go.Proofs.YtckpjppbkfcaaaaW.PrintLast Go.Proofs.YtckpjppbkfcaaaaW.PrintMore
set_option linter.unusedVariables false
set_option linter.unusedSimpArgs false

def cost_T8 : Bool × List (List Nat × List Nat) := (true, [([], []), ([], []), ([], []), ([2], [2]), ([1, 3], [1, 3]), ([4], [4]), ([], []), ([], []), ([6, 7], [6, 7]), ([8], [8]), ([0, 5, 9], [0, 5, 9]), ([10, 10, 0, 1, 2, 3, 4, 5, 6, 7, 8, 9, 10], [10])])
def cost_B8 : List Nat := [0, 0, 0, 4, 14, 30, 0, 0, 192, 448, 1023, 2047]
theorem cost_tab8 : rtab .any (opsOf Try.f16 8) = cost_T8 := by kernel_rfl
theorem cost_bits8 : waitsOk cost_T8.2 cost_B8 = true := by kernel_rfl
/-- The pieces' costs from place i on, if all are pieces. -/
def sumI (C : Costs) : Int → List Int → Int → Option Int
  | _, [], s => some s
  | a, b :: r, s => match C (a, b) with
    | none => none
    | some c => sumI C b r (s + c)
/-- May the places be the ends of a run? -/
def endsOk (n : Int) (ps : List Int) : Bool := decide (ps ≠ []) && (decide (rd ps 0 = 0) && decide (rd ps ((ps.length : Int) - 1) = n))
def costR (n p mo : Int) (l : List S36) (ps : List Int) : Int × Bool :=
  if okRun n p mo l && endsOk n ps then
    match sumI (finCE n.toNat p l).1 0 (ps.drop 1) 0 with
    | none => (0, false)
    | some s => (min s mo, true)
  else (0, false)
structure CostPost (r : Int × Bool) (W : World) (e : Ending) (w' : World) : Prop where
  below : Below W.heap.size W w'
  is : e = .returned (.tuple #[.int .i64 r.1, .bool r.2])
theorem drop_cons {ps : List Int} {i : Nat} (h : i < ps.length) : ps.drop i = rd ps (i : Int) :: ps.drop (i + 1) := by
  rw [List.drop_eq_getElem_cons h]
  unfold rd
  rw [Int.toNat_natCast, List.getD_eq_getElem?_getD, List.getElem?_eq_getElem h]; rfl
set_option maxHeartbeats 16000000 in
set_option maxRecDepth 100000 in
theorem cost_calls (n p mo : Int) (A : Option Addr) (c : Nat) (l : List S36) (B : Option Addr) (d : Nat) (ps : List Int) (W : World) (hr : Kd.C k36 W A l.length l) (hc : l.length ≤ c) (hp : Kd.C (Kd.int .i64) W B ps.length ps) (hd : ps.length ≤ d) (hwf : ∀ z ∈ ps, (Lit.int .i64 z).wf = true) (hpl : ps.length ≤ 9223372036854775807) :
    Calls Try.prog 16 #[.int .i64 n, .slice A l.length c, .int .i64 p, .int .i64 mo, .slice B ps.length d] W (CostPost (costR n p mo l ps) W) := by
  obtain ⟨res, hres⟩ : ∃ res, costR n p mo l ps = res := ⟨_, rfl⟩
  rw [hres]
  have HRES := Aside0.mk hres
  clear hres
  cases hlim : limOk n p mo l.length with
  | false =>
    have HM := Aside0.mk (made_lim n p mo A c l W hlim)
    obtain rfl : ((0 : Int), false) = res := by rw [← HRES.out]; unfold costR okRun; rw [hlim]; rfl
    clear hr hc hlim hp hd hwf hpl
    go_enter Try.func16, Try.ntmps16
    go_wp2_with fail
    refine HM.out.mono ?_
    rintro e W1 ⟨rfl, hb⟩
    have HB := Aside0.mk hb
    clear hb
    go_wp2_with fail
    go_ret2
    exact ⟨HB.out, rfl⟩
  | true =>
    obtain ⟨N, hn, hN⟩ := limOk_nat hlim
    subst hn
    have HM := Aside0.mk (made_calls N p mo A c l W hr hc hlim)
    have HLM := Aside0.mk hlim
    have HN := Aside0.mk hN
    have HPC := Aside0.mk hp
    have HWF := Aside0.mk hwf
    have HPL := Aside0.mk hpl
    obtain ⟨n, hn⟩ : ∃ n : Int, (N : Int) = n := ⟨_, rfl⟩
    have HNN := Aside0.mk hn
    rw [hn] at HM HRES HLM ⊢
    clear hr hc hlim hn hN hp hd hwf hpl
    go_enter Try.func16, Try.ntmps16
    go_wp2_with fail
    refine HM.out.mono ?_
    rintro e W1 ⟨hb, hcase⟩
    have HB := Aside0.mk hb
    rcases hcase with ⟨hno, rfl⟩ | ⟨hyes, RB, MB, EB, vs, rfl, hi⟩
    · rw [HNN.out] at hno
      obtain rfl : ((0 : Int), false) = res := by rw [← HRES.out]; unfold costR okRun; rw [HLM.out, hno]; rfl
      clear hb hno HM
      go_wp2_with fail
      go_ret2
      exact ⟨HB.out, rfl⟩
    · have HS := Aside0.mk (fin_spec (by rw [HNN.out]; exact HLM.out) hyes)
      have HI1 := Aside0.mk (show RunI W.heap.size RB MB EB N p mo (N + 1) (finCE N p l).1 vs (finCE N p l).2 W1 from hi)
      have HOK := Aside0.mk (show okRun n p mo l = true by unfold okRun; rw [HLM.out, ← HNN.out, hyes]; rfl)
      have HFN := Aside0.mk (show (finCE n.toNat p l).1 = (finCE N p l).1 by rw [← HNN.out, Int.toNat_natCast])
      obtain ⟨C, hC⟩ : ∃ C, (finCE N p l).1 = C := ⟨_, rfl⟩
      obtain ⟨E, hE⟩ : ∃ E, (finCE N p l).2 = E := ⟨_, rfl⟩
      rw [hC, hE] at HS HI1
      rw [hC] at HFN
      clear hb hyes HM hi hC hE
      have HNO := Aside0.mk (show endsOk n ps = false → ((0 : Int), false) = res from fun h => by rw [← HRES.out]; unfold costR; rw [HOK.out, h]; rfl)
      have HYES := Aside0.mk (show endsOk n ps = true → (match sumI C 0 (ps.drop 1) 0 with
        | none => (0, false)
        | some s => (min s mo, true)) = res from fun h => by rw [← HRES.out]; unfold costR; rw [HOK.out, h, HFN.out]; rfl)
      by_cases q0 : ps.length = 0
      · obtain rfl : ps = [] := List.length_eq_zero_iff.1 q0
        obtain rfl := HNO.out (by simp [endsOk])
        go_wp2_with fail
        go_ret2
        exact ⟨HB.out, rfl⟩
      have HL := Aside0.mk (show 0 < ps.length by omega)
      have HCB := Aside0.mk (Kd.C_below HPC.out HB.out)
      have h0i : (0 : Int) < (ps.length : Int) := by omega
      have h0n : (0 < ps.length) = True := eq_true (by omega)
      have q0i : ¬ ((ps.length : Int) = 0) := by omega
      obtain ⟨ad, eb, hx0⟩ := Kd.at_int HCB.out 0 (by omega) h0i
      rw [show (0 : Int).toNat = 0 from rfl] at hx0
      rw [show ad.add 0 = ad from rfl] at hx0
      subst eb
      by_cases q1 : rd ps 0 = 0
      · obtain ⟨m, hm⟩ : ∃ m : Nat, m + 1 = ps.length := ⟨ps.length - 1, by omega⟩
        have hwm : wrap64 ((ps.length : Int) - 1) = (m : Int) := by unfold wrap64; have := HPL.out; omega
        have hml : (m : Int) < (ps.length : Int) := by omega
        have hmn : (m < ps.length) = True := eq_true (by omega)
        obtain ⟨ad', eb, hxm⟩ := Kd.at_int HCB.out (m : Int) (by omega) hml
        obtain rfl : ad = ad' := Option.some.inj eb
        rw [Int.toNat_natCast] at hxm
        have HMM := Aside0.mk (show rd ps (m : Int) = rd ps ((ps.length : Int) - 1) by rw [show ((ps.length : Int) - 1) = (m : Int) by omega])
        rw [q1] at hx0
        by_cases q2 : rd ps (m : Int) = n
        · have HY := Aside0.mk (HYES.out (by unfold endsOk; rw [← HMM.out]; simp [q1, q2, List.ne_nil_of_length_pos HL.out]))
          rw [q2] at hxm
          clear eb
          go_wp2_with fail
          go_loopg [14, 15] (ps.length + 1) (fun gg s14 s15 wr => ∃ (j i : Nat) (s : Int), s14 = .int .i64 s ∧ s15 = .int .i64 i ∧ j + 1 = i ∧ i ≤ ps.length ∧ ps.length - i < gg ∧ Aside0 (sumI C 0 (ps.drop 1) 0 = sumI C (rd ps (j : Int)) (ps.drop i) s) ∧ Aside0 (0 ≤ rd ps (j : Int) ∧ rd ps (j : Int) ≤ (N : Int) ∧ 0 ≤ s ∧ s ≤ rd ps (j : Int) * 1048576) ∧ Aside0 (Below W1.heap.size W1 wr))
          case atStart => exact ⟨0, 1, 0, rfl, rfl, rfl, by omega, by omega, ⟨by rw [show (((0 : Nat)) : Int) = 0 from rfl, q1]⟩, ⟨by rw [show (((0 : Nat)) : Int) = 0 from rfl, q1]; omega⟩, ⟨Below.refl _ _⟩⟩
          case round =>
            clear hx0 hxm hwm hml hmn hm q0 q0i h0i h0n q2 q1
            obtain ⟨j, i, s, rfl, rfl, hji, hi, hgk, HSU, HBD, HBI⟩ := hrel
            by_cases hlt : i < ps.length
            · have hltz : (i : Int) < (ps.length : Int) := by omega
              have hjz : (j : Int) < (ps.length : Int) := by omega
              have hjn : (j < ps.length) = True := eq_true (by omega)
              have hin : (i < ps.length) = True := eq_true (by omega)
              have hwj : wrap64 ((i : Int) - 1) = (j : Int) := by unfold wrap64; have := HPL.out; omega
              have HDR := Aside0.mk (drop_cons hlt)
              have HJI := Aside0.mk hji
              have HLT := Aside0.mk hlt
              have HW8 := Aside0.mk (Kd.C_below HCB.out (below_step HBI.out (below_drew (Below.refl wr.heap.size wr))))
              obtain ⟨adi, ei, hxi⟩ := Kd.at_int HW8.out (i : Int) (by omega) hltz
              obtain rfl : ad = adi := Option.some.inj ei
              obtain ⟨adj, ej, hxj⟩ := Kd.at_int HW8.out (j : Int) (by omega) hjz
              obtain rfl : ad = adj := Option.some.inj ej
              rw [Int.toNat_natCast] at hxi hxj
              have HSM := Aside0.mk (show SmallP (rd ps (j : Int), rd ps (i : Int)) from ⟨HWF.out _ (rd_mem (by omega)), HWF.out _ (rd_mem hlt)⟩)
              obtain ⟨b, hb⟩ : ∃ b, rd ps (i : Int) = b := ⟨_, rfl⟩
              obtain ⟨a, ha⟩ : ∃ a, rd ps (j : Int) = a := ⟨_, rfl⟩
              rw [hb] at hxi HSM HDR
              rw [ha] at hxj HSM HSU HBD
              have HBV := Aside0.mk hb
              have HXI := Aside0.mk hxi
              have HXJ := Aside0.mk hxj
              clear hb ha hxi hxj ei ej hji hlt
              rw [HDR.out] at HSU
              go_upto_region 8 with fail
              have HB8 := Aside0.mk (below_step HBI.out (below_drew (Below.refl _ _)))
              clear HBI
              cases hcc : C (a, b) with
              | none =>
                have HPV := Aside0.mk (show pieceV C (a, b) = -1 by unfold pieceV; rw [hcc]; rfl)
                obtain rfl : ((0 : Int), false) = res := by have h := HY.out; rw [HSU.out, sumI, hcc] at h; exact h
                clear hcc
                refine wp_region_noPanic ?_
                refine start_ (n := 12) (S := fun w' => w'.cell? (ad.add j) = some (.int .i64 a) ∧ w'.cell? (ad.add i) = some (.int .i64 b)) (ds := []) #[false, false, false, false, false, false, false, false, false, false, false, false] (by kernel_rfl) rfl rfl ⟨HXJ.out, HXI.out⟩ (fun hHeld => ?_); refine with_tabW cost_tab8 cost_bits8 (fun HT_ HW_ => ?_)
                obtain ⟨W8, hW_⟩ : ∃ w, wr.drew = w := ⟨_, rfl⟩
                rw [hW_] at HB8 hHeld ⊢
                clear hW_
                refine pure_ (i := 0) (N := some 54) (v := ?_) (a' := ?_) #[true, false, false, false, false, false, false, false, false, false, false, false] rfl rfl (any_of HT_.out (by kernel_rfl)) (fun _ _ _ h => h) (Or.inl ⟨by rfl, ?_⟩) ?_ ?_
                rotate_left
                · intro w'
                  go_simp
                  with_reducible rfl
                rotate_left
                · simp only [Act.put, List.setIfInBounds_toArray, List.set_cons_zero, List.set_cons_succ, i64_w, i32_w]
                  rfl
                refine pure_ (i := 1) (N := some 55) (v := ?_) (a' := ?_) #[true, true, false, false, false, false, false, false, false, false, false, false] rfl rfl (any_of HT_.out (by kernel_rfl)) (fun _ _ _ h => h) (Or.inl ⟨by rfl, ?_⟩) ?_ ?_
                rotate_left
                · intro w'
                  go_simp
                  with_reducible rfl
                rotate_left
                · simp only [Act.put, List.setIfInBounds_toArray, List.set_cons_zero, List.set_cons_succ, i64_w, i32_w]
                  rfl
                refine pure_ (i := 2) (N := some 56) (v := ?_) (a' := ?_) #[true, true, true, false, false, false, false, false, false, false, false, false] rfl rfl (any_of HT_.out (by kernel_rfl)) (fun _ _ _ h => h) (Or.inl ⟨by rfl, ?_⟩) ?_ ?_
                rotate_left
                · intro w'
                  go_simp
                  with_reducible rfl
                rotate_left
                · simp only [Act.put, List.setIfInBounds_toArray, List.set_cons_zero, List.set_cons_succ, i64_w, i32_w]
                  rfl
                refine pure_ (i := 3) (N := some 57) (v := ?_) (a' := ?_) #[true, true, true, true, false, false, false, false, false, false, false, false] rfl rfl (any_of HT_.out (by kernel_rfl)) (fun _ _ _ h => h) (Or.inl ⟨by rfl, ?_⟩) ?_ ?_
                rotate_left
                · intro w'
                  go_simp
                  with_reducible rfl
                rotate_left
                · simp only [Act.put, List.setIfInBounds_toArray, List.set_cons_zero, List.set_cons_succ, i64_w, i32_w]
                  rfl
                refine pure_ (i := 4) (N := some 58) (v := ?_) (a' := ?_) #[true, true, true, true, true, false, false, false, false, false, false, false] rfl rfl (any_of HT_.out (by kernel_rfl)) (fun _ _ _ h => h) (Or.inl ⟨by rfl, ?_⟩) ?_ ?_
                rotate_left
                · intro w'
                  go_simp
                  with_reducible rfl
                rotate_left
                · simp only [Act.put, List.setIfInBounds_toArray, List.set_cons_zero, List.set_cons_succ, i64_w, i32_w]
                  rfl
                refine take_ (i := 5) (N := some 59) (v := ?_) (a' := ?_) #[true, true, true, true, true, true, false, false, false, false, false, false] rfl rfl (take_ofW HT_.out HW_.out (by kernel_rfl)) (fun _ _ _ h => h) (Or.inl ⟨by rfl, ?_⟩) hHeld ?_ ?_
                rotate_left
                · rintro w' ⟨s0, s1⟩
                  go_simp
                  with_reducible rfl
                rotate_left
                · simp only [Act.put, List.setIfInBounds_toArray, List.set_cons_zero, List.set_cons_succ, i64_w, i32_w]
                  rfl
                refine pure_ (i := 6) (N := some 60) (v := ?_) (a' := ?_) #[true, true, true, true, true, true, true, false, false, false, false, false] rfl rfl (any_of HT_.out (by kernel_rfl)) (fun _ _ _ h => h) (Or.inl ⟨by rfl, ?_⟩) ?_ ?_
                rotate_left
                · intro w'
                  go_simp
                  with_reducible rfl
                rotate_left
                · simp only [Act.put, List.setIfInBounds_toArray, List.set_cons_zero, List.set_cons_succ, i64_w, i32_w]
                  rfl
                refine pure_ (i := 7) (N := some 61) (v := ?_) (a' := ?_) #[true, true, true, true, true, true, true, true, false, false, false, false] rfl rfl (any_of HT_.out (by kernel_rfl)) (fun _ _ _ h => h) (Or.inl ⟨by rfl, ?_⟩) ?_ ?_
                rotate_left
                · intro w'
                  go_simp
                  with_reducible rfl
                rotate_left
                · simp only [Act.put, List.setIfInBounds_toArray, List.set_cons_zero, List.set_cons_succ, i64_w, i32_w]
                  rfl
                refine pure_ (i := 8) (N := some 62) (v := ?_) (a' := ?_) #[true, true, true, true, true, true, true, true, true, false, false, false] rfl rfl (any_of HT_.out (by kernel_rfl)) (fun _ _ _ h => h) (Or.inl ⟨by rfl, ?_⟩) ?_ ?_
                rotate_left
                · intro w'
                  go_simp
                  with_reducible rfl
                rotate_left
                · simp only [Act.put, List.setIfInBounds_toArray, List.set_cons_zero, List.set_cons_succ, i64_w, i32_w]
                  rfl
                refine take_ (i := 9) (N := some 63) (v := ?_) (a' := ?_) #[true, true, true, true, true, true, true, true, true, true, false, false] rfl rfl (take_ofW HT_.out HW_.out (by kernel_rfl)) (fun _ _ _ h => h) (Or.inl ⟨by rfl, ?_⟩) hHeld ?_ ?_
                rotate_left
                · rintro w' ⟨s0, s1⟩
                  go_simp
                  with_reducible rfl
                rotate_left
                · simp only [Act.put, List.setIfInBounds_toArray, List.set_cons_zero, List.set_cons_succ, i64_w, i32_w]
                  rfl
                refine one_ (i := 10) (N := some 64) #[true, true, true, true, true, true, true, true, true, true, true, false] rfl rfl (one_of HT_.out (by kernel_rfl)) (by decide) (fun K hK => ?_)
                refine goes_ Try.func19 (by kernel_rfl) rfl #[.pointer (some ⟨RB, 0, none⟩), .int .i64 a, .int .i64 b] (by rfl) rfl rfl (by (try simp only [List.map_toArray, List.map_cons, List.map_nil]); first | done | rfl) ?_
                refine (piece_calls _ _ W8 (HI1.out.later HB8.out) HSM.out).mono ?_
                rintro e w_ ⟨rfl, hw⟩
                replace hw := hw.symm
                subst hw
                refine ⟨_, rfl, ?_⟩
                rw [HPV.out]
                refine hK.out _ _ hHeld (fun hHeld => ?_)
                clear hK K
                refine norm_ (a' := ?_) ?_ ?_
                rotate_left
                · show Act.put _ (some 64) _ = _
                  simp only [Act.put, List.setIfInBounds_toArray, List.set_cons_zero, List.set_cons_succ, i64_w, i32_w]
                  rfl
                refine pure_ (i := 11) (N := some 16) (v := ?_) (a' := ?_) #[true, true, true, true, true, true, true, true, true, true, true, true] rfl rfl (any_of HT_.out (by kernel_rfl)) (fun _ _ _ h => h) (Or.inl ⟨by rfl, ?_⟩) ?_ ?_
                rotate_left
                · intro w'
                  go_simp
                  with_reducible rfl
                rotate_left
                · simp only [Act.put, List.setIfInBounds_toArray, List.set_cons_zero, List.set_cons_succ, i64_w, i32_w]
                  rfl
                refine done_ (done_of HT_.out (by kernel_rfl)) ?_
                refine NoPanic.normal ?_
                clear HT_ HW_ hHeld
                go_wp2_with fail
                go_ret2
                exact ⟨below_step HB.out HB8.out, rfl⟩
              | some c1 =>
                have HPV := Aside0.mk (show pieceV C (a, b) = c1 by unfold pieceV; rw [hcc]; rfl)
                have hco := HS.out.cost _ _ _ hcc
                have hpl := HS.out.place _ _ _ hcc
                have hsb := HBD.out
                have hbd2 : s + c1 ≤ b * 1048576 := by omega
                have hws : wrap64 (s + c1) = s + c1 := by unfold wrap64; have := HN.out; omega
                have hcn : ¬ c1 = -1 := by omega
                have HBD2 := Aside0.mk (show 0 ≤ b ∧ b ≤ (N : Int) ∧ 0 ≤ s + c1 ∧ s + c1 ≤ b * 1048576 by omega)
                have HSU2 := Aside0.mk (show sumI C 0 (ps.drop 1) 0 = sumI C b (ps.drop (i + 1)) (s + c1) by rw [HSU.out, sumI, hcc])
                clear hcc hco hpl hsb hbd2
                refine wp_region_noPanic ?_
                refine start_ (n := 12) (S := fun w' => w'.cell? (ad.add j) = some (.int .i64 a) ∧ w'.cell? (ad.add i) = some (.int .i64 b)) (ds := []) #[false, false, false, false, false, false, false, false, false, false, false, false] (by kernel_rfl) rfl rfl ⟨HXJ.out, HXI.out⟩ (fun hHeld => ?_); refine with_tabW cost_tab8 cost_bits8 (fun HT_ HW_ => ?_)
                obtain ⟨W8, hW_⟩ : ∃ w, wr.drew = w := ⟨_, rfl⟩
                rw [hW_] at HB8 hHeld ⊢
                clear hW_
                refine pure_ (i := 0) (N := some 54) (v := ?_) (a' := ?_) #[true, false, false, false, false, false, false, false, false, false, false, false] rfl rfl (any_of HT_.out (by kernel_rfl)) (fun _ _ _ h => h) (Or.inl ⟨by rfl, ?_⟩) ?_ ?_
                rotate_left
                · intro w'
                  go_simp
                  with_reducible rfl
                rotate_left
                · simp only [Act.put, List.setIfInBounds_toArray, List.set_cons_zero, List.set_cons_succ, i64_w, i32_w]
                  rfl
                refine pure_ (i := 1) (N := some 55) (v := ?_) (a' := ?_) #[true, true, false, false, false, false, false, false, false, false, false, false] rfl rfl (any_of HT_.out (by kernel_rfl)) (fun _ _ _ h => h) (Or.inl ⟨by rfl, ?_⟩) ?_ ?_
                rotate_left
                · intro w'
                  go_simp
                  with_reducible rfl
                rotate_left
                · simp only [Act.put, List.setIfInBounds_toArray, List.set_cons_zero, List.set_cons_succ, i64_w, i32_w]
                  rfl
                refine pure_ (i := 2) (N := some 56) (v := ?_) (a' := ?_) #[true, true, true, false, false, false, false, false, false, false, false, false] rfl rfl (any_of HT_.out (by kernel_rfl)) (fun _ _ _ h => h) (Or.inl ⟨by rfl, ?_⟩) ?_ ?_
                rotate_left
                · intro w'
                  go_simp
                  with_reducible rfl
                rotate_left
                · simp only [Act.put, List.setIfInBounds_toArray, List.set_cons_zero, List.set_cons_succ, i64_w, i32_w]
                  rfl
                refine pure_ (i := 3) (N := some 57) (v := ?_) (a' := ?_) #[true, true, true, true, false, false, false, false, false, false, false, false] rfl rfl (any_of HT_.out (by kernel_rfl)) (fun _ _ _ h => h) (Or.inl ⟨by rfl, ?_⟩) ?_ ?_
                rotate_left
                · intro w'
                  go_simp
                  with_reducible rfl
                rotate_left
                · simp only [Act.put, List.setIfInBounds_toArray, List.set_cons_zero, List.set_cons_succ, i64_w, i32_w]
                  rfl
                refine pure_ (i := 4) (N := some 58) (v := ?_) (a' := ?_) #[true, true, true, true, true, false, false, false, false, false, false, false] rfl rfl (any_of HT_.out (by kernel_rfl)) (fun _ _ _ h => h) (Or.inl ⟨by rfl, ?_⟩) ?_ ?_
                rotate_left
                · intro w'
                  go_simp
                  with_reducible rfl
                rotate_left
                · simp only [Act.put, List.setIfInBounds_toArray, List.set_cons_zero, List.set_cons_succ, i64_w, i32_w]
                  rfl
                refine take_ (i := 5) (N := some 59) (v := ?_) (a' := ?_) #[true, true, true, true, true, true, false, false, false, false, false, false] rfl rfl (take_ofW HT_.out HW_.out (by kernel_rfl)) (fun _ _ _ h => h) (Or.inl ⟨by rfl, ?_⟩) hHeld ?_ ?_
                rotate_left
                · rintro w' ⟨s0, s1⟩
                  go_simp
                  with_reducible rfl
                rotate_left
                · simp only [Act.put, List.setIfInBounds_toArray, List.set_cons_zero, List.set_cons_succ, i64_w, i32_w]
                  rfl
                refine pure_ (i := 6) (N := some 60) (v := ?_) (a' := ?_) #[true, true, true, true, true, true, true, false, false, false, false, false] rfl rfl (any_of HT_.out (by kernel_rfl)) (fun _ _ _ h => h) (Or.inl ⟨by rfl, ?_⟩) ?_ ?_
                rotate_left
                · intro w'
                  go_simp
                  with_reducible rfl
                rotate_left
                · simp only [Act.put, List.setIfInBounds_toArray, List.set_cons_zero, List.set_cons_succ, i64_w, i32_w]
                  rfl
                refine pure_ (i := 7) (N := some 61) (v := ?_) (a' := ?_) #[true, true, true, true, true, true, true, true, false, false, false, false] rfl rfl (any_of HT_.out (by kernel_rfl)) (fun _ _ _ h => h) (Or.inl ⟨by rfl, ?_⟩) ?_ ?_
                rotate_left
                · intro w'
                  go_simp
                  with_reducible rfl
                rotate_left
                · simp only [Act.put, List.setIfInBounds_toArray, List.set_cons_zero, List.set_cons_succ, i64_w, i32_w]
                  rfl
                refine pure_ (i := 8) (N := some 62) (v := ?_) (a' := ?_) #[true, true, true, true, true, true, true, true, true, false, false, false] rfl rfl (any_of HT_.out (by kernel_rfl)) (fun _ _ _ h => h) (Or.inl ⟨by rfl, ?_⟩) ?_ ?_
                rotate_left
                · intro w'
                  go_simp
                  with_reducible rfl
                rotate_left
                · simp only [Act.put, List.setIfInBounds_toArray, List.set_cons_zero, List.set_cons_succ, i64_w, i32_w]
                  rfl
                refine take_ (i := 9) (N := some 63) (v := ?_) (a' := ?_) #[true, true, true, true, true, true, true, true, true, true, false, false] rfl rfl (take_ofW HT_.out HW_.out (by kernel_rfl)) (fun _ _ _ h => h) (Or.inl ⟨by rfl, ?_⟩) hHeld ?_ ?_
                rotate_left
                · rintro w' ⟨s0, s1⟩
                  go_simp
                  with_reducible rfl
                rotate_left
                · simp only [Act.put, List.setIfInBounds_toArray, List.set_cons_zero, List.set_cons_succ, i64_w, i32_w]
                  rfl
                refine one_ (i := 10) (N := some 64) #[true, true, true, true, true, true, true, true, true, true, true, false] rfl rfl (one_of HT_.out (by kernel_rfl)) (by decide) (fun K hK => ?_)
                refine goes_ Try.func19 (by kernel_rfl) rfl #[.pointer (some ⟨RB, 0, none⟩), .int .i64 a, .int .i64 b] (by rfl) rfl rfl (by (try simp only [List.map_toArray, List.map_cons, List.map_nil]); first | done | rfl) ?_
                refine (piece_calls _ _ W8 (HI1.out.later HB8.out) HSM.out).mono ?_
                rintro e w_ ⟨rfl, hw⟩
                replace hw := hw.symm
                subst hw
                refine ⟨_, rfl, ?_⟩
                rw [HPV.out]
                refine hK.out _ _ hHeld (fun hHeld => ?_)
                clear hK K
                refine norm_ (a' := ?_) ?_ ?_
                rotate_left
                · show Act.put _ (some 64) _ = _
                  simp only [Act.put, List.setIfInBounds_toArray, List.set_cons_zero, List.set_cons_succ, i64_w, i32_w]
                  rfl
                refine pure_ (i := 11) (N := some 16) (v := ?_) (a' := ?_) #[true, true, true, true, true, true, true, true, true, true, true, true] rfl rfl (any_of HT_.out (by kernel_rfl)) (fun _ _ _ h => h) (Or.inl ⟨by rfl, ?_⟩) ?_ ?_
                rotate_left
                · intro w'
                  go_simp
                  with_reducible rfl
                rotate_left
                · simp only [Act.put, List.setIfInBounds_toArray, List.set_cons_zero, List.set_cons_succ, i64_w, i32_w]
                  rfl
                refine done_ (done_of HT_.out (by kernel_rfl)) ?_
                refine NoPanic.normal ?_
                clear HT_ HW_ hHeld
                go_wp2_with fail
                go_roundg (gk - 1)
                case measure => omega
                case rel => exact ⟨i, i + 1, s + c1, by first | rfl | rw [hws], by have := HPL.out; have := HLT.out; first | rfl | rw [wrap_succ (by omega)], rfl, by have := HLT.out; omega, by have := HLT.out; omega, ⟨by rw [HBV.out]; exact HSU2.out⟩, ⟨by rw [HBV.out]; exact HBD2.out⟩, HB8⟩
            · obtain rfl : i = ps.length := by omega
              have hltz : ¬ (ps.length : Int) < (ps.length : Int) := by omega
              obtain rfl : (min s mo, true) = res := by have h := HY.out; rw [HSU.out, List.drop_length, sumI] at h; exact h
              clear hlt
              go_wp2_with fail
              go_ret2
              exact ⟨below_step HB.out HBI.out, rfl⟩
        · obtain rfl := HNO.out (by unfold endsOk; rw [← HMM.out]; simp [q2])
          have q2b : (rd ps (m : Int) != n) = true := by simpa using q2
          clear eb
          go_wp2_with fail
          go_ret2
          exact ⟨HB.out, rfl⟩
      · obtain rfl := HNO.out (by simp [endsOk, q1])
        go_wp2_with fail
        go_ret2
        exact ⟨HB.out, rfl⟩
end Go.Proofs.Ytckpjppbkfcaaaa.Print
