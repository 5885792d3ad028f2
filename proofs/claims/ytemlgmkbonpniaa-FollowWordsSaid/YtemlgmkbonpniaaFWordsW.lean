/- The walk of scansionlaw11.FollowWords. -/
import Derived.Test.YtemlgmkbonpniaaGEndsM
import Derived.Test.YtemlgmkbonpniaaGWords
import Derived.Test.YtemlgmkbonpniaaFAwakeM
import Derived.Test.YtemlgmkbonpniaaPrint26
import Derived.Test.YtemlgmkbonpniaaPrint33
namespace Go.Proofs.Ytemlgmkbonpniaa.Print
open Go.RowKit Go.Maps Go.Proofs.YtemlgmkbonpniaaW.PrintWords Go.Proofs.YtemlgmkbonpniaaW.PrintLast Go.Proofs.YtemlgmkbonpniaaW.PrintMore
set_option linter.unusedVariables false
set_option linter.unusedSimpArgs false
def fwt_T12 : Bool × List (List Nat × List Nat) := (true, [([], []), ([], []), ([], []), ([], []), ([2, 3], [2, 3]), ([4], [4]), ([0, 1, 5], [0, 1, 5]), ([6, 6, 0, 1, 2, 3, 4, 5, 6], [1, 6])])
def fwt_B12 : List Nat := [0, 0, 0, 0, 12, 28, 63, 127]
theorem fwt_tab12 : rtab .any (opsOf Try.f7 12) = fwt_T12 := by kernel_rfl
theorem fwt_bits12 : waitsOk fwt_T12.2 fwt_B12 = true := by kernel_rfl
def fwe_T13 : Bool × List (List Nat × List Nat) := (true, [([], []), ([], []), ([0, 1], [0, 1]), ([], []), ([], []), ([3, 4, 2], [3, 4]), ([2, 5], [2, 5]), ([6, 5, 0, 1, 2, 3, 4, 5, 6], [6])])
def fwe_B13 : List Nat := [0, 0, 3, 0, 0, 31, 63, 127]
theorem fwe_tab13 : rtab .any (opsOf Try.f7 13) = fwe_T13 := by kernel_rfl
theorem fwe_bits13 : waitsOk fwe_T13.2 fwe_B13 = true := by kernel_rfl
theorem few_w (x : S24) (hz : Lens x) (word : List Int) : ∃ b, Evs (fun k => scansionlaw11_few.f k x.f0 x.f1 x.f2 word) b ∧ (b = true → siz x < 120 ∧ word.length ≤ 30) := by
  obtain ⟨t, ⟨K, hK⟩, h1, h2⟩ := nodes_f x hz 120 40 (by decide) (by decide) (by decide)
  by_cases q : t < 120
  · refine ⟨decide ((word.length : Int) ≤ 30), ⟨K, fun k hk => ?_⟩, fun h => ⟨by rw [← h2 q]; exact q, by have := of_decide_eq_true h; omega⟩⟩
    show scansionlaw11_few.f k _ _ _ _ = _
    have h3 : scansionref08_Nodes.f k x.f0 x.f1 x.f2 120 40 = some (t : Int) := hK k hk
    unfold scansionlaw11_few.f
    rw [h3, Option.bind_some, if_pos (by omega)]
  · refine ⟨false, ⟨K, fun k hk => ?_⟩, fun h => by cases h⟩
    show scansionlaw11_few.f k _ _ _ _ = _
    have h3 : scansionref08_Nodes.f k x.f0 x.f1 x.f2 120 40 = some (t : Int) := hK k hk
    unfold scansionlaw11_few.f
    rw [h3, Option.bind_some, if_neg (by omega)]
theorem build_err (x : S24) : (buildR x).2.2.2.2.2 = 0 ∨ (buildR x).2.2.2.2.2 = 1 ∨ (buildR x).2.2.2.2.2 = 3 := by
  unfold buildR
  split
  · exact .inr (.inl rfl)
  · split
    · exact .inr (.inr rfl)
    · exact .inl rfl
theorem atR_fold (r : Bt) (word : List Int) : atR r word = word.foldl (xAt r false) [0] := by
  unfold atR
  have : xAt r false = fun a s => stepR r.2.1 r.2.2.1 r.2.2.2.2.1 a s := funext fun a => funext fun s => by unfold xAt; rw [if_neg (by decide)]
  rw [this]
theorem rd_mem_ {l : List Int} {i : Nat} (h : i < l.length) : rd l (i : Int) ∈ l := rd_mem h
set_option maxHeartbeats 16000000 in
set_option maxRecDepth 100000 in
theorem followWords_calls (x : S24) (W : World) (A : Option Addr) (c : Nat) (Aw : Option Addr) (cw : Nat) (word : List Int) (hC : Kd.C k24 W A x.f2.length x.f2) (hc : x.f2.length ≤ c) (hCw : Kd.C (Kd.int .u64) W Aw word.length word) (hcw : word.length ≤ cw) (hU : ∀ s ∈ word, 0 ≤ s ∧ s < 18446744073709551616) :
    Calls Try.prog 7 #[.agg #[.int .i64 x.f0, .int .i64 x.f1, .slice A x.f2.length c], .slice Aw word.length cw] W fun e w' => e = .returned (.bool true) ∧ Below W.heap.size W w' := by
  have HC := Aside0.mk hC
  have HCC := Aside0.mk hc
  have HCW := Aside0.mk hCw
  have HCWL := Aside0.mk hcw
  have HU := Aside0.mk hU
  obtain ⟨b, ⟨K1, hK1⟩, hb⟩ := few_w x (lens_of x hC) word
  have HND := Aside0.mk (hK1 K1 (Nat.le_refl _))
  have HBT := Aside0.mk hb
  clear hC hc hCw hcw hU hK1 hb
  go_enter Try.func7, Try.ntmps7
  go_upto_region 1 with fail
  have HB1 := Aside0.mk (below_alloc (Below.refl W.heap.size W) (.cells #[.int .i64 x.f0, .int .i64 x.f1, .slice A x.f2.length c] 24))
  have HNB1 := Aside0.mk (blk_new W (.cells #[.int .i64 x.f0, .int .i64 x.f1, .slice A x.f2.length c] 24))
  obtain ⟨NB, hNB⟩ : ∃ n, W.heap.size = n := ⟨_, rfl⟩
  obtain ⟨W1, hW1⟩ : ∃ w, W.alloc (.cells #[.int .i64 x.f0, .int .i64 x.f1, .slice A x.f2.length c] 24) = w := ⟨_, rfl⟩
  rw [hNB] at HNB1
  rw [hW1] at HB1 HNB1
  rw [hW1]
  rw [hNB]
  clear hNB hW1
  go_upto_region 2 with (go_at_call 16; refine (fawake_calls W1).mono ?_; rintro e W2 ⟨rfl, hb⟩; have HB2 := Aside0.mk (HB1.out.trans (hb.mono HB1.out.size)); have HNB2 := Aside0.mk (blk_below HNB1.out hb); clear hb)
  clear HB1 HNB1
  have n0 := (blk_cell HNB2.out 0).trans rfl
  have n1 := (blk_cell HNB2.out 1).trans rfl
  have n2 := (blk_cell HNB2.out 2).trans rfl
  go_upto_region 3 with (go_at_call 21; refine (scansionlaw11_few.calls K1 x.f0 x.f1 A c x.f2 Aw cw word b W2 (Kd.C_below HC.out HB2.out) HCC.out (Kd.C_below HCW.out HB2.out) HCWL.out HND.out).mono ?_; rintro e W3 ⟨rfl, hb⟩; have HB3 := Aside0.mk (HB2.out.trans (hb.mono HB2.out.size)); have HNB3 := Aside0.mk (blk_below HNB2.out hb); clear hb n0 n1 n2)
  clear HB2 HNB2
  cases b with
  | false =>
    go_wp2_with fail
    go_ret
    exact ⟨rfl, HB3.out⟩
  | true =>
    have HFEW := Aside0.mk (HBT.out rfl)
    go_upto_region 5 with fail
    obtain ⟨r, hr⟩ : ∃ r, r = buildR x := ⟨_, rfl⟩
    have HRX := Aside0.mk hr
    have HCM := Aside0.mk (show cnt x ≤ 1000000 by have h1 := cnt_siz x; have h2 := HFEW.out.1; omega)
    have HRB := Aside0.mk (show follow_Build.f x.f0 x.f1 x.f2 = some (r.1, r.2.1, r.2.2.1, r.2.2.2.1, r.2.2.2.2.1, r.2.2.2.2.2) by unfold follow_Build.f; rw [s24_eta, if_pos HCM.out, ← hr])
    clear hr
    have n0 := (blk_cell HNB3.out 0).trans rfl
    have n1 := (blk_cell HNB3.out 1).trans rfl
    have n2 := (blk_cell HNB3.out 2).trans rfl
    go_upto_region 6 with (go_at_call 18; refine (follow_Build.calls x.f0 x.f1 A c x.f2 r.1 r.2.1 r.2.2.1 r.2.2.2.1 r.2.2.2.2.1 r.2.2.2.2.2 W3 (Kd.C_below HC.out HB3.out) HCC.out HRB.out).mono ?_; rintro e W4 ⟨u1, u2, u3, u4, rfl, ho1, ho2, ho3, ho4, hb⟩; have HB4 := Aside0.mk (HB3.out.trans (hb.mono HB3.out.size)); have HNB4 := Aside0.mk (blk_below HNB3.out hb); obtain ⟨A1, c1, rfl⟩ := Kd.R_slice ho1; obtain ⟨A2, c2, rfl⟩ := Kd.R_slice ho2; obtain ⟨A3, c3, rfl⟩ := Kd.R_slice ho3; obtain ⟨A4, c4, rfl⟩ := Kd.R_slice ho4; have HO1 := Aside0.mk (Kd.R_lower ho1 HB3.out.size); have HO2 := Aside0.mk (Kd.R_lower ho2 HB3.out.size); have HO3 := Aside0.mk (Kd.R_lower ho3 HB3.out.size); have HO4 := Aside0.mk (Kd.R_lower ho4 HB3.out.size); clear ho1 ho2 ho3 ho4 hb n0 n1 n2)
    clear HB3 HNB3 
    have hbn := below_alloc (Below.refl W4.heap.size W4) (.cells #[.bool r.1, .slice A1 r.2.1.length c1, .slice A2 r.2.2.1.length c2, .slice A3 r.2.2.2.1.length c3, .slice A4 r.2.2.2.2.1.length c4] 30)
    have HAB1 := Aside0.mk (show AutoC W.heap.size W4.heap.size r (.slice A1 r.2.1.length c1) (.slice A2 r.2.2.1.length c2) (.slice A3 r.2.2.2.1.length c3) (.slice A4 r.2.2.2.2.1.length c4) (W4.alloc (.cells #[.bool r.1, .slice A1 r.2.1.length c1, .slice A2 r.2.2.1.length c2, .slice A3 r.2.2.2.1.length c3, .slice A4 r.2.2.2.2.1.length c4] 30)) from ⟨blk_new _ _, Kd.R_below HO1.out hbn, Kd.R_below HO2.out hbn, Kd.R_below HO3.out hbn, Kd.R_below HO4.out hbn⟩)
    have HBn := Aside0.mk (HB4.out.trans (hbn.mono HB4.out.size))
    have HNBn := Aside0.mk (blk_below HNB4.out hbn)
    clear hbn HO1 HO2 HO3 HO4 HB4 HNB4
    obtain ⟨B1, hB1⟩ : ∃ n, W4.heap.size = n := ⟨_, rfl⟩
    obtain ⟨W5, hW5⟩ : ∃ w, W4.alloc (.cells #[.bool r.1, .slice A1 r.2.1.length c1, .slice A2 r.2.2.1.length c2, .slice A3 r.2.2.2.1.length c3, .slice A4 r.2.2.2.2.1.length c4] 30) = w := ⟨_, rfl⟩
    rw [hB1, hW5] at HAB1
    rw [hW5] at HBn HNBn 
    rw [hW5]
    rw [hB1]
    clear hB1 hW5
    have HB4 := Aside0.mk HBn.out
    have HNB4 := Aside0.mk HNBn.out
    clear HBn HNBn
    have HER := Aside0.mk (show r.2.2.2.2.2 = 0 ∨ r.2.2.2.2.2 = 1 ∨ r.2.2.2.2.2 = 3 by rw [HRX.out]; exact build_err x)
    by_cases qe : r.2.2.2.2.2 = 0
    case neg =>
      have f1 : (r.2.2.2.2.2 != 0) = true := bne_iff_ne.2 qe
      by_cases q1 : r.2.2.2.2.2 = 1
      · have f2 : (r.2.2.2.2.2 == 1) = true := beq_iff_eq.2 q1
        clear q1 qe
        go_wp2_with fail
        go_ret
        exact ⟨by simp, HB4.out⟩
      · have f2 : (r.2.2.2.2.2 == 1) = false := beq_eq_false_iff_ne.2 q1
        have f3 : (r.2.2.2.2.2 == 3) = true := beq_iff_eq.2 (by have := HER.out; omega)
        clear q1 qe
        go_wp2_with fail
        go_ret
        exact ⟨by simp, HB4.out⟩
    case pos =>
      have HAU := Aside0.mk (show Auto r by rw [HRX.out]; exact (build_auto x (by rw [← HRX.out]; exact qe)).1)
      have HRR := Aside0.mk (show rightN x = true from (build_auto x (by rw [← HRX.out]; exact qe)).2.1)
      have HTL := Aside0.mk (show Tell x r by rw [HRX.out]; exact build_tell x (by rw [← HRX.out]; exact qe))
      have f1 : (r.2.2.2.2.2 != 0) = false := bne_eq_false_iff_eq.2 qe
      clear qe HER
      go_upto_region 9 with (go_at_call 25; refine (follow_Begin.calls [0] W5 rfl).mono ?_; rintro e W6 ⟨v0, rfl, ho, hb⟩; obtain ⟨A9, c9, rfl⟩ := Kd.R_slice ho; have HB6 := Aside0.mk (HB4.out.trans (hb.mono HB4.out.size)); have HA6 := Aside0.mk (HAB1.out.later hb); have HO9 := Aside0.mk (Kd.R_lower ho HB4.out.size); have HN6 := Aside0.mk (blk_below HNB4.out hb); clear ho hb)
      clear f1 HAB1 HB4 HNB4
      go_wp2_with fail
      go_loopg [9, 10] word.length (fun kq v9 v10 w' => ∃ (i : Nat) (A10 : Option Addr) (c10 : Nat), v9 = .slice A10 (atR r (word.take i)).length c10 ∧ v10 = .int .i64 (i : Int) ∧ Aside0 (i + kq = word.length) ∧ Aside0 (Below W.heap.size W w') ∧ Aside0 (AutoC W.heap.size B1 r (.slice A1 r.2.1.length c1) (.slice A2 r.2.2.1.length c2) (.slice A3 r.2.2.2.1.length c3) (.slice A4 r.2.2.2.2.1.length c4) w') ∧ Aside0 (Kd.R (Kd.int .i64) 3 w' W.heap.size (fun _ => True) (.slice A10 (atR r (word.take i)).length c10) (atR r (word.take i))) ∧ Aside0 (w'.heap[NB]? = some (.cells #[.int .i64 x.f0, .int .i64 x.f1, .slice A x.f2.length c] 24 (0, 0))))
      case atStart => exact ⟨0, A9, c9, rfl, rfl, ⟨Nat.zero_add _⟩, HB6, HA6, HO9, HN6⟩
      case round =>
        clear HB6 HA6 HO9 HN6
        obtain ⟨i, A10, c10, rfl, rfl, HK, HB, HA, HP, HN⟩ := hrel
        have HIL := Aside0.mk (show i ≤ word.length by have := HK.out; omega)
        have HG := Aside0.mk (at_good HAU.out word i HIL.out)
        obtain ⟨a, hA⟩ : ∃ a, a = atR r (word.take i) := ⟨_, rfl⟩
        have HAD := Aside0.mk hA
        rw [← hA] at HP HG
        rw [← hA]
        clear hA
        have HOK := Aside0.mk (auto_ok HAU.out HG.out.1 HG.out.2)
        by_cases q0 : gk = 0
        case pos =>
          have f1 : ¬ (i : Int) < (word.length : Int) := by have := HK.out; omega
          have f2 : decide ((i : Int) < (word.length : Int)) = false := decide_eq_false f1
          have f3 : ¬ i < word.length := by omega
          have HEQ := Aside0.mk (show a = word.foldl (xAt r false) [0] by rw [HAD.out, List.take_of_length_le (by omega), atR_fold])
          have HEF := Aside0.mk (show follow_End.f r.1 r.2.1 r.2.2.1 r.2.2.2.1 r.2.2.2.2.1 a = some (endR r.1 r.2.2.2.1 a) by unfold follow_End.f; rw [if_pos ⟨by have := HAU.out.last.len; have := HAU.out.m; omega, by have := HG.out.2; omega⟩])
          have HWL := Aside0.mk (show (endR r.1 r.2.2.2.1 a = true ↔ rightN x = true ∧ WayN (hitM word) x 0 word.length) from by rw [HEQ.out]; exact (words_law HRR.out HTL.out word HU.out false).trans ⟨fun ⟨i0, h1, h2⟩ => ⟨HRR.out, by rcases h1 with h | h; cases h; rw [h] at h2; exact h2⟩, fun h => ⟨0, .inr rfl, h.2⟩⟩)
          clear q0
          go_upto_region 13 with fail
          clear f1 f2 f3
          have hbd := below_drew (Below.refl wr.heap.size wr)
          have HBq := Aside0.mk (HB.out.trans (hbd.mono HB.out.size))
          have HAq := Aside0.mk (HA.out.later hbd)
          have HPq := Aside0.mk (Kd.R_below HP.out hbd)
          have HNq := Aside0.mk (blk_below HN.out hbd)
          clear hbd
          clear HB HA HP HN
          have HB := Aside0.mk HBq.out
          have HA := Aside0.mk HAq.out
          have HP := Aside0.mk HPq.out
          have HN := Aside0.mk HNq.out
          clear HBq HAq HPq HNq
          refine wp_region_noPanic ?_
          refine start_ (n := 8) (S := fun w' => w'.cell? ⟨B1, 0, none⟩ = some (.bool r.1) ∧ w'.cell? ⟨B1, 1, none⟩ = some (.slice A1 r.2.1.length c1) ∧ w'.cell? ⟨B1, 2, none⟩ = some (.slice A2 r.2.2.1.length c2) ∧ w'.cell? ⟨B1, 3, none⟩ = some (.slice A3 r.2.2.2.1.length c3) ∧ w'.cell? ⟨B1, 4, none⟩ = some (.slice A4 r.2.2.2.2.1.length c4) ∧ w'.cell? ⟨NB, 0, none⟩ = some (.int .i64 x.f0) ∧ w'.cell? ⟨NB, 1, none⟩ = some (.int .i64 x.f1) ∧ w'.cell? ⟨NB, 2, none⟩ = some (.slice A x.f2.length c)) (ds := []) #[false, false, false, false, false, false, false, false] (by kernel_rfl) rfl rfl ⟨HA.out.cells.1, HA.out.cells.2.1, HA.out.cells.2.2.1, HA.out.cells.2.2.2.1, HA.out.cells.2.2.2.2, (blk_cell HN.out 0).trans rfl, (blk_cell HN.out 1).trans rfl, (blk_cell HN.out 2).trans rfl⟩ (fun hHeld => ?_); refine with_tabW fwe_tab13 fwe_bits13 (fun HT_ HW_ => ?_)
          obtain ⟨W9, hW9⟩ : ∃ w, wr.drew = w := ⟨_, rfl⟩
          rw [hW9] at HB HA HP HN hHeld ⊢
          clear hW9
          refine take_ (i := 0) (N := some 49) (v := ?_) (a' := ?_) #[true, false, false, false, false, false, false, false] rfl rfl (take_ofW HT_.out HW_.out (by kernel_rfl)) (fun _ _ _ h => h) (Or.inl ⟨by rfl, ?_⟩) hHeld ?_ ?_
          rotate_left
          · rintro w' ⟨s0, s1, s2, s3, s4, s5, s6, s7⟩
            go_simp
            with_reducible rfl
          rotate_left
          · simp only [Act.put, List.setIfInBounds_toArray, List.set_cons_zero, List.set_cons_succ, i64_w, i32_w]
            rfl
          refine pure_ (i := 1) (N := some 50) (v := ?_) (a' := ?_) #[true, true, false, false, false, false, false, false] rfl rfl (any_of HT_.out (by kernel_rfl)) (fun _ _ _ h => h) (Or.inl ⟨by rfl, ?_⟩) ?_ ?_
          rotate_left
          · intro w'
            go_simp
            with_reducible rfl
          rotate_left
          · simp only [Act.put, List.setIfInBounds_toArray, List.set_cons_zero, List.set_cons_succ, i64_w, i32_w]
            rfl
          refine take_ (i := 3) (N := some 52) (v := ?_) (a' := ?_) #[true, true, false, true, false, false, false, false] rfl rfl (take_ofW HT_.out HW_.out (by kernel_rfl)) (fun _ _ _ h => h) (Or.inl ⟨by rfl, ?_⟩) hHeld ?_ ?_
          rotate_left
          · rintro w' ⟨s0, s1, s2, s3, s4, s5, s6, s7⟩
            go_simp
            with_reducible rfl
          rotate_left
          · simp only [Act.put, List.setIfInBounds_toArray, List.set_cons_zero, List.set_cons_succ, i64_w, i32_w]
            rfl
          refine pure_ (i := 4) (N := some 53) (v := ?_) (a' := ?_) #[true, true, false, true, true, false, false, false] rfl rfl (any_of HT_.out (by kernel_rfl)) (fun _ _ _ h => h) (Or.inl ⟨by rfl, ?_⟩) ?_ ?_
          rotate_left
          · intro w'
            go_simp
            with_reducible rfl
          rotate_left
          · simp only [Act.put, List.setIfInBounds_toArray, List.set_cons_zero, List.set_cons_succ, i64_w, i32_w]
            rfl
          refine one_ (i := 2) (N := some 51) #[true, true, true, true, true, false, false, false] rfl rfl (one_of HT_.out (by kernel_rfl)) (by decide) (fun K hK => ?_)
          refine goes_ Try.func26 (by kernel_rfl) rfl #[.agg #[.bool r.1, .slice A1 r.2.1.length c1, .slice A2 r.2.2.1.length c2, .slice A3 r.2.2.2.1.length c3, .slice A4 r.2.2.2.2.1.length c4], .slice A10 a.length c10] (by rfl) rfl rfl (by (try simp only [List.map_toArray, List.map_cons, List.map_nil]); first | done | rfl) ?_
          refine (follow_End.calls r.1 A1 c1 r.2.1 A2 c2 r.2.2.1 A3 c3 r.2.2.2.1 A4 c4 r.2.2.2.2.1 A10 c10 a _ W9 (Kd.R_reads' HA.out.r1).2.2 (Kd.R_reads' HA.out.r1).2.1 (Kd.R_reads' HA.out.r2).2.2 (Kd.R_reads' HA.out.r2).2.1 (Kd.R_reads' HA.out.r3).2.2 (Kd.R_reads' HA.out.r3).2.1 (Kd.R_reads' HA.out.r4).2.2 (Kd.R_reads' HA.out.r4).2.1 (Kd.R_reads' HP.out).2.2 (Kd.R_reads' HP.out).2.1 HEF.out).mono ?_
          rintro e_ W10 ⟨rfl, hb⟩
          have HBq := Aside0.mk (HB.out.trans (hb.mono HB.out.size))
          have HAq := Aside0.mk (HA.out.later hb)
          have HPq := Aside0.mk (Kd.R_below HP.out hb)
          have HNq := Aside0.mk (blk_below HN.out hb)
          clear hb
          refine ⟨_, rfl, ?_⟩
          refine hK.out _ _ ⟨HAq.out.cells.1, HAq.out.cells.2.1, HAq.out.cells.2.2.1, HAq.out.cells.2.2.2.1, HAq.out.cells.2.2.2.2, (blk_cell HNq.out 0).trans rfl, (blk_cell HNq.out 1).trans rfl, (blk_cell HNq.out 2).trans rfl⟩ (fun hHeld => ?_)
          clear HB HA HP HN
          have HB := Aside0.mk HBq.out
          have HA := Aside0.mk HAq.out
          have HP := Aside0.mk HPq.out
          have HN := Aside0.mk HNq.out
          clear HBq HAq HPq HNq
          clear hK K
          refine norm_ (a' := ?_) ?_ ?_
          rotate_left
          · show Act.put _ (some 51) _ = _
            simp only [Act.put, List.setIfInBounds_toArray, List.set_cons_zero, List.set_cons_succ, i64_w, i32_w]
            rfl
          refine one_ (i := 5) (N := some 54) #[true, true, true, true, true, true, false, false] rfl rfl (one_of HT_.out (by kernel_rfl)) (by decide) (fun K hK => ?_)
          refine goes_ Try.func22 (by kernel_rfl) rfl #[.agg #[.int .i64 x.f0, .int .i64 x.f1, .slice A x.f2.length c], .slice Aw word.length cw] (by rfl) rfl rfl (by (try simp only [List.map_toArray, List.map_cons, List.map_nil]); first | done | rfl) ?_
          refine (whole_calls x W10 A c Aw cw word (Kd.C_below HC.out HB.out) HCC.out (Kd.C_below HCW.out HB.out) HCWL.out (by have := HFEW.out.2; omega) _ HWL.out).mono ?_
          rintro e_ W11 ⟨rfl, hb⟩
          have HBq := Aside0.mk (HB.out.trans (hb.mono HB.out.size))
          have HAq := Aside0.mk (HA.out.later hb)
          have HPq := Aside0.mk (Kd.R_below HP.out hb)
          have HNq := Aside0.mk (blk_below HN.out hb)
          clear hb
          refine ⟨_, rfl, ?_⟩
          refine hK.out _ _ ⟨HAq.out.cells.1, HAq.out.cells.2.1, HAq.out.cells.2.2.1, HAq.out.cells.2.2.2.1, HAq.out.cells.2.2.2.2, (blk_cell HNq.out 0).trans rfl, (blk_cell HNq.out 1).trans rfl, (blk_cell HNq.out 2).trans rfl⟩ (fun hHeld => ?_)
          clear HB HA HP HN
          have HB := Aside0.mk HBq.out
          have HA := Aside0.mk HAq.out
          have HP := Aside0.mk HPq.out
          have HN := Aside0.mk HNq.out
          clear HBq HAq HPq HNq
          clear hK K
          refine norm_ (a' := ?_) ?_ ?_
          rotate_left
          · show Act.put _ (some 54) _ = _
            simp only [Act.put, List.setIfInBounds_toArray, List.set_cons_zero, List.set_cons_succ, i64_w, i32_w]
            rfl
          refine pure_ (i := 6) (N := some 55) (v := ?_) (a' := ?_) #[true, true, true, true, true, true, true, false] rfl rfl (any_of HT_.out (by kernel_rfl)) (fun _ _ _ h => h) (Or.inl ⟨by rfl, ?_⟩) ?_ ?_
          rotate_left
          · intro w'
            go_simp
            with_reducible rfl
          rotate_left
          · simp only [Act.put, List.setIfInBounds_toArray, List.set_cons_zero, List.set_cons_succ, i64_w, i32_w]
            rfl
          refine pure_ (i := 7) (N := some 4) (v := ?_) (a' := ?_) #[true, true, true, true, true, true, true, true] rfl rfl (any_of HT_.out (by kernel_rfl)) (fun _ _ _ h => h) (Or.inl ⟨by rfl, ?_⟩) ?_ ?_
          rotate_left
          · intro w'
            go_simp
            with_reducible rfl
          rotate_left
          · simp only [Act.put, List.setIfInBounds_toArray, List.set_cons_zero, List.set_cons_succ, i64_w, i32_w]
            rfl
          refine done_ (done_of HT_.out (by kernel_rfl)) ?_
          refine NoPanic.normal ?_
          clear HT_ HW_ hHeld
          go_wp2_with fail
          go_ret
          exact ⟨by simp, HB.out⟩
        case neg =>
          have HQ := Aside0.mk q0
          clear q0
          have q1 : i < word.length := by have := HK.out; have := HQ.out; omega
          have HSL := Aside0.mk q1
          obtain ⟨adw, eA, hx⟩ := Kd.at_int (Kd.C_below HCW.out HB.out) (i : Int) (Int.natCast_nonneg i) (by omega)
          rw [Int.toNat_natCast] at hx
          subst eA
          obtain ⟨z, hz⟩ : ∃ z, z = rd word (i : Int) := ⟨_, rfl⟩
          rw [← hz] at hx
          have HZD := Aside0.mk hz
          have HW := Aside0.mk hx
          clear hx hz q1
          obtain ⟨a2, ha2⟩ : ∃ a2, a2 = stepR r.2.1 r.2.2.1 r.2.2.2.2.1 a z := ⟨_, rfl⟩
          have HA2 := Aside0.mk ha2
          have HSF := Aside0.mk (show follow_Step.f r.1 r.2.1 r.2.2.1 r.2.2.2.1 r.2.2.2.2.1 a z = some a2 by unfold follow_Step.f; rw [if_pos HOK.out, ← ha2])
          clear ha2
          have f1 : (i : Int) < (word.length : Int) := by have := HSL.out; omega
          have f2 : decide ((i : Int) < (word.length : Int)) = true := decide_eq_true f1
          have f3 : i < word.length := HSL.out
          have f4 : (0 : Int) ≤ (i : Int) := Int.natCast_nonneg i
          go_upto_region 12 with fail
          have hbd := below_drew (Below.refl wr.heap.size wr)
          have HBq := Aside0.mk (HB.out.trans (hbd.mono HB.out.size))
          have HAq := Aside0.mk (HA.out.later hbd)
          have HPq := Aside0.mk (Kd.R_below HP.out hbd)
          have HNq := Aside0.mk (blk_below HN.out hbd)
          have HWq := Aside0.mk (cell_keep hbd HW.out)
          clear hbd
          clear HB HA HP HN HW
          have HB := Aside0.mk HBq.out
          have HA := Aside0.mk HAq.out
          have HP := Aside0.mk HPq.out
          have HN := Aside0.mk HNq.out
          have HW := Aside0.mk HWq.out
          clear HBq HAq HPq HNq HWq
          refine wp_region_noPanic ?_
          refine start_ (n := 8) (S := fun w' => w'.cell? ⟨B1, 0, none⟩ = some (.bool r.1) ∧ w'.cell? ⟨B1, 1, none⟩ = some (.slice A1 r.2.1.length c1) ∧ w'.cell? ⟨B1, 2, none⟩ = some (.slice A2 r.2.2.1.length c2) ∧ w'.cell? ⟨B1, 3, none⟩ = some (.slice A3 r.2.2.2.1.length c3) ∧ w'.cell? ⟨B1, 4, none⟩ = some (.slice A4 r.2.2.2.2.1.length c4) ∧ w'.cell? (adw.add i) = some (.int .u64 z)) (ds := []) #[false, false, false, false, false, false, false, false] (by kernel_rfl) rfl rfl ⟨HA.out.cells.1, HA.out.cells.2.1, HA.out.cells.2.2.1, HA.out.cells.2.2.2.1, HA.out.cells.2.2.2.2, HW.out⟩ (fun hHeld => ?_); refine with_tabW fwt_tab12 fwt_bits12 (fun HT_ HW_ => ?_)
          obtain ⟨W9, hW9⟩ : ∃ w, wr.drew = w := ⟨_, rfl⟩
          rw [hW9] at HB HA HP HN hHeld HW ⊢
          clear hW9
          refine take_ (i := 0) (N := some 42) (v := ?_) (a' := ?_) #[true, false, false, false, false, false, false, false] rfl rfl (take_ofW HT_.out HW_.out (by kernel_rfl)) (fun _ _ _ h => h) (Or.inl ⟨by rfl, ?_⟩) hHeld ?_ ?_
          rotate_left
          · rintro w' ⟨s0, s1, s2, s3, s4, s5⟩
            go_simp
            with_reducible rfl
          rotate_left
          · simp only [Act.put, List.setIfInBounds_toArray, List.set_cons_zero, List.set_cons_succ, i64_w, i32_w]
            rfl
          refine pure_ (i := 1) (N := some 43) (v := ?_) (a' := ?_) #[true, true, false, false, false, false, false, false] rfl rfl (any_of HT_.out (by kernel_rfl)) (fun _ _ _ h => h) (Or.inl ⟨by rfl, ?_⟩) ?_ ?_
          rotate_left
          · intro w'
            go_simp
            with_reducible rfl
          rotate_left
          · simp only [Act.put, List.setIfInBounds_toArray, List.set_cons_zero, List.set_cons_succ, i64_w, i32_w]
            rfl
          refine pure_ (i := 2) (N := some 44) (v := ?_) (a' := ?_) #[true, true, true, false, false, false, false, false] rfl rfl (any_of HT_.out (by kernel_rfl)) (fun _ _ _ h => h) (Or.inl ⟨by rfl, ?_⟩) ?_ ?_
          rotate_left
          · intro w'
            go_simp
            with_reducible rfl
          rotate_left
          · simp only [Act.put, List.setIfInBounds_toArray, List.set_cons_zero, List.set_cons_succ, i64_w, i32_w]
            rfl
          refine pure_ (i := 3) (N := some 45) (v := ?_) (a' := ?_) #[true, true, true, true, false, false, false, false] rfl rfl (any_of HT_.out (by kernel_rfl)) (fun _ _ _ h => h) (Or.inl ⟨by rfl, ?_⟩) ?_ ?_
          rotate_left
          · intro w'
            go_simp
            with_reducible rfl
          rotate_left
          · simp only [Act.put, List.setIfInBounds_toArray, List.set_cons_zero, List.set_cons_succ, i64_w, i32_w]
            rfl
          refine pure_ (i := 4) (N := some 46) (v := ?_) (a' := ?_) #[true, true, true, true, true, false, false, false] rfl rfl (any_of HT_.out (by kernel_rfl)) (fun _ _ _ h => h) (Or.inl ⟨by rfl, ?_⟩) ?_ ?_
          rotate_left
          · intro w'
            go_simp
            with_reducible rfl
          rotate_left
          · simp only [Act.put, List.setIfInBounds_toArray, List.set_cons_zero, List.set_cons_succ, i64_w, i32_w]
            rfl
          refine take_ (i := 5) (N := some 47) (v := ?_) (a' := ?_) #[true, true, true, true, true, true, false, false] rfl rfl (take_ofW HT_.out HW_.out (by kernel_rfl)) (fun _ _ _ h => h) (Or.inl ⟨by rfl, ?_⟩) hHeld ?_ ?_
          rotate_left
          · rintro w' ⟨s0, s1, s2, s3, s4, s5⟩
            go_simp
            with_reducible rfl
          rotate_left
          · simp only [Act.put, List.setIfInBounds_toArray, List.set_cons_zero, List.set_cons_succ, i64_w, i32_w]
            rfl
          refine one_ (i := 6) (N := some 48) #[true, true, true, true, true, true, true, false] rfl rfl (one_of HT_.out (by kernel_rfl)) (by decide) (fun K hK => ?_)
          refine goes_ Try.func28 (by kernel_rfl) rfl #[.agg #[.bool r.1, .slice A1 r.2.1.length c1, .slice A2 r.2.2.1.length c2, .slice A3 r.2.2.2.1.length c3, .slice A4 r.2.2.2.2.1.length c4], .slice A10 a.length c10, .int .u64 z] (by rfl) rfl rfl (by (try simp only [List.map_toArray, List.map_cons, List.map_nil]); first | done | rfl) ?_
          refine (follow_Step.calls r.1 A1 c1 r.2.1 A2 c2 r.2.2.1 A3 c3 r.2.2.2.1 A4 c4 r.2.2.2.2.1 A10 c10 a z a2 W9 (Kd.R_reads' HA.out.r1).2.2 (Kd.R_reads' HA.out.r1).2.1 (Kd.R_reads' HA.out.r2).2.2 (Kd.R_reads' HA.out.r2).2.1 (Kd.R_reads' HA.out.r3).2.2 (Kd.R_reads' HA.out.r3).2.1 (Kd.R_reads' HA.out.r4).2.2 (Kd.R_reads' HA.out.r4).2.1 (Kd.R_reads' HP.out).2.2 (Kd.R_reads' HP.out).2.1 HSF.out).mono ?_
          rintro e_ W10 ⟨v0, rfl, ho, hb⟩
          have HBq := Aside0.mk (HB.out.trans (hb.mono HB.out.size))
          have HAq := Aside0.mk (HA.out.later hb)
          have HPq := Aside0.mk (Kd.R_below HP.out hb)
          have HNq := Aside0.mk (blk_below HN.out hb)
          have HWq := Aside0.mk (cell_keep hb HW.out)
          obtain ⟨A21, c21, rfl⟩ := Kd.R_slice ho
          have HN1 := Aside0.mk (Kd.R_lower ho HB.out.size)
          clear ho
          clear hb
          refine ⟨_, rfl, ?_⟩
          refine hK.out _ _ ⟨HAq.out.cells.1, HAq.out.cells.2.1, HAq.out.cells.2.2.1, HAq.out.cells.2.2.2.1, HAq.out.cells.2.2.2.2, HWq.out⟩ (fun hHeld => ?_)
          clear HB HA HP HN HW
          have HB := Aside0.mk HBq.out
          have HA := Aside0.mk HAq.out
          have HP := Aside0.mk HPq.out
          have HN := Aside0.mk HNq.out
          have HW := Aside0.mk HWq.out
          clear HBq HAq HPq HNq HWq
          clear hK K
          refine norm_ (a' := ?_) ?_ ?_
          rotate_left
          · show Act.put _ (some 48) _ = _
            simp only [Act.put, List.setIfInBounds_toArray, List.set_cons_zero, List.set_cons_succ, i64_w, i32_w]
            rfl
          refine pure_ (i := 7) (N := some 9) (v := ?_) (a' := ?_) #[true, true, true, true, true, true, true, true] rfl rfl (any_of HT_.out (by kernel_rfl)) (fun _ _ _ h => h) (Or.inl ⟨by rfl, ?_⟩) ?_ ?_
          rotate_left
          · intro w'
            go_simp
            with_reducible rfl
          rotate_left
          · simp only [Act.put, List.setIfInBounds_toArray, List.set_cons_zero, List.set_cons_succ, i64_w, i32_w]
            rfl
          refine done_ (done_of HT_.out (by kernel_rfl)) ?_
          refine NoPanic.normal ?_
          clear HT_ HW_ hHeld
          go_wp2_with fail
          have HW2 := Aside0.mk (show wrap64 ((i : Int) + 1) = ((i + 1 : Nat) : Int) by have := HIL.out; have := HFEW.out.2; unfold wrap64; omega)
          have HTK := Aside0.mk (show atR r (word.take (i + 1)) = a2 by rw [atR_step HSL.out, ← HAD.out, ← HZD.out, HA2.out])
          go_roundg (gk - 1)
          case measure => have := HQ.out; omega
          case rel => exact ⟨i + 1, A21, c21, by rw [HTK.out], by rw [← HW2.out], ⟨by have := HK.out; have := HQ.out; omega⟩, HB, HA, ⟨by rw [HTK.out]; exact HN1.out⟩, HN⟩
end Go.Proofs.Ytemlgmkbonpniaa.Print
