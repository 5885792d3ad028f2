/- For all states and classes: the word that tells two apart does so, and no shorter one. -/
import Derived.Test.YtadhjjfodpmelaaPrint12
import Derived.Test.YtadhjjfodpmelaaPrint18
import Derived.Test.YtadhjjfodpmelaaPrint6
import Derived.Test.YtadhjjfodpmelaaPrint7
import Derived.Test.YtadhjjfodpmelaaLawT
import Derived.Test.YtadhjjfodpmelaaLawR
-- NEEDS scansionref12_Few scansionref12_Run scansionref01_SameInts scansionlaw13_awake
namespace Go.Proofs.Ytadhjjfodpmelaa.Pure
open Go.RowKit Go.Proofs.Ytadhjjfodpmelaa.Print Go.Proofs.YtadhjjfodpmelaaW.PrintWords Go.Proofs.YtadhjjfodpmelaaW.PrintLast Go.Proofs.YtadhjjfodpmelaaW.PrintMore
set_option linter.unusedVariables false
set_option linter.unusedSimpArgs false

def witness_T16 : Bool × List (List Nat × List Nat) := (true, [([], []), ([0], [0]), ([], []), ([1, 2], [1, 2]), ([3], [3]), ([], []), ([5], [5]), ([], []), ([6, 7], [6, 7]), ([8], [8]), ([4, 9], [4, 9]), ([10, 0, 1, 2, 3, 4, 5, 6, 7, 8, 9, 10], [10])])
def witness_B16 : List Nat := [0, 1, 0, 7, 15, 0, 32, 0, 224, 480, 1023, 2047]
theorem witness_tab16 : rtab .any (opsOf Try.f5 16) = witness_T16 := by kernel_rfl
theorem witness_bits16 : waitsOk witness_T16.2 witness_B16 = true := by kernel_rfl

theorem bothB_parts {a : List (List Int)} {b : List Bool} {a' : List (List Int)} {b' : List Bool} (h : bothB a b a' b' = true) : rightB a b = true ∧ rightB a' b' = true ∧ (rd_L1 a 0).length = (rd_L1 a' 0).length := by
  unfold bothB at h
  simp only [Bool.and_eq_true, decide_eq_true_eq] at h
  exact ⟨h.1.1, h.1.2, h.2⟩
theorem apart_short {a : List (List Int)} {b : List Bool} {a' : List (List Int)} {b' : List Bool} {m : Nat} (hw : Wf a b a.length m) (hw' : Wf a' b' a'.length m) (hm : (rd_L1 a 0).length = m) : (apartOf a b a' b').1.length ≤ 25000000 := by
  have hnn : a.length * a'.length ≤ 25000000 := Nat.le_trans (Nat.mul_le_mul hw.most hw'.most) (by decide)
  have go : ∀ (c : Nat) (q : List (Int × Int)) (ws : List (List Int)) (i : Nat), QOk a.length a'.length q ws → (apGo a b a' b' m c q ws i).1.length ≤ 25000000 := by
    intro c
    induction c with
    | zero => intro q ws i _; rw [apGo]; simp
    | succ c ih =>
      intro q ws i hq
      rw [apGo]
      by_cases hlt : i < q.length
      · rw [if_pos hlt]
        have hsh : (ws.getD i []).length ≤ i := hq.short i _ (by rw [List.getD_eq_getElem?_getD, List.getElem?_eq_getElem (by rw [hq.len]; exact hlt)]; rfl)
        have hsz := hq.size
        split
        · show (ws.getD i []).length ≤ _
          omega
        · exact ih _ _ _ (apRow_ok hq (fun c hc => apY_lo hw hw' (hq.lo _ (gd_mem (d := (0, 0)) hlt)) hc) (by omega) m (Nat.le_refl _))
      · rw [if_neg hlt]; simp
  unfold apartOf
  rw [hm]
  exact go _ _ _ _ (QOk.start hw.one hw'.one)
theorem apart_same {a : List (List Int)} {b : List Bool} {a' : List (List Int)} {b' : List Bool} {m : Nat} (hw : Wf a b a.length m) (hw' : Wf a' b' a'.length m) {r : List Int × Bool} (h : ApSpec a b a' b' a.length a'.length m r) (hr : r.2 = false) : ∀ u, WordOk m u → rdOf false b (runI a 0 u) = rdOf false b' (runI a' 0 u) := by
  obtain ⟨R, hR⟩ := bis_of_false hw hw' h hr
  exact fun u hu => hR.word hw hw' hu
theorem apart_word {a : List (List Int)} {b : List Bool} {a' : List (List Int)} {b' : List Bool} {n n' m : Nat} {wd : List Int} (h : ApSpec a b a' b' n n' m (wd, true)) : WordOk m wd ∧ rdOf false b (runI a 0 wd) ≠ rdOf false b' (runI a' 0 wd) ∧ ∀ u, WordOk m u → u.length < wd.length → rdOf false b (runI a 0 u) = rdOf false b' (runI a' 0 u) := by
  rcases h with ⟨e, _⟩ | ⟨_, h1, h2, h3⟩
  · cases e
  · exact ⟨h1, h2, h3⟩

set_option maxRecDepth 100000 in
set_option maxHeartbeats 16000000 in
theorem witness_calls (A0 : Option Addr) (c0 : Nat) (a : List (List Int)) (A1 : Option Addr) (c1 : Nat) (b : List Bool) (A2 : Option Addr) (c2 : Nat) (a' : List (List Int)) (A3 : Option Addr) (c3 : Nat) (b' : List Bool) (A4 : Option Addr) (c4 : Nat) (u : List Int) (w : World)
    (hr0 : Kd.C (Kd.slice 3 (Kd.int .i64)) w A0 a.length a) (hc0 : a.length ≤ c0) (hr1 : Kd.C Kd.bool w A1 b.length b) (hc1 : b.length ≤ c1) (hr2 : Kd.C (Kd.slice 3 (Kd.int .i64)) w A2 a'.length a') (hc2 : a'.length ≤ c2) (hr3 : Kd.C Kd.bool w A3 b'.length b') (hc3 : b'.length ≤ c3) (hr4 : Kd.C (Kd.int .i64) w A4 u.length u) (hc4 : u.length ≤ c4)
    (ha : a.length ≤ maxLen) (ha' : a'.length ≤ maxLen) :
    Calls Try.prog 5 #[.agg #[.slice A0 a.length c0, .slice A1 b.length c1], .agg #[.slice A2 a'.length c2, .slice A3 b'.length c3], .slice A4 u.length c4] w fun e w' => e = .returned (.bool true) ∧ Below w.heap.size w w' := by
  have HR0 := Aside0.mk hr0
  have HR1 := Aside0.mk hr1
  have HR2 := Aside0.mk hr2
  have HR3 := Aside0.mk hr3
  have HR4 := Aside0.mk hr4
  have HC0 := Aside0.mk hc0
  have HC1 := Aside0.mk hc1
  have HC2 := Aside0.mk hc2
  have HC3 := Aside0.mk hc3
  have HC4 := Aside0.mk hc4
  have B0 := Aside0.mk (Boxes.made w (.slice A0 a.length c0) (.slice A1 b.length c1) (.slice A2 a'.length c2) (.slice A3 b'.length c3))
  obtain ⟨K1, hK1⟩ := ev_few a b 20 ha
  obtain ⟨K2, hK2⟩ := ev_few a' b' 20 ha'
  have HK1 := Aside0.mk (hK1 K1 (Nat.le_refl _))
  have HK2 := Aside0.mk (hK2 K2 (Nat.le_refl _))
  clear hr0 hr1 hr2 hr3 hr4 hc0 hc1 hc2 hc3 hc4 hK1 hK2 ha ha'
  go_enter Try.func5, Try.ntmps5
  go_wp2_with fail
  refine (scansionlaw13_awake.calls true _ awake_f).mono ?_
  rintro e W1 ⟨rfl, hb⟩
  have B1 := Aside0.mk (B0.out.later hb)
  clear hb B0
  have z0 := B1.out.cells.1
  have z1 := B1.out.cells.2.1
  go_wp2_with fail
  refine (scansionref12_Few.calls K1 A0 c0 a A1 c1 b 20 (fewB a b 20) W1 (Kd.C_below HR0.out B1.out.below) HC0.out (Kd.C_below HR1.out B1.out.below) HC1.out HK1.out).mono ?_
  rintro e W2 ⟨rfl, hb⟩
  have B2 := Aside0.mk (B1.out.later hb)
  clear hb B1 z0 z1
  have z0 := B2.out.cells.2.2.1
  have z1 := B2.out.cells.2.2.2
  go_wp2_with fail
  refine (scansionref12_Few.calls K2 A2 c2 a' A3 c3 b' 20 (fewB a' b' 20) W2 (Kd.C_below HR2.out B2.out.below) HC2.out (Kd.C_below HR3.out B2.out.below) HC3.out HK2.out).mono ?_
  rintro e W3 ⟨rfl, hb⟩
  have B3 := Aside0.mk (B2.out.later hb)
  clear hb B2 z0 z1 HK1 HK2
  cases q1 : fewB a b 20 with
  | false =>
    clear q1
    go_wp2_with fail
    go_ret
    exact ⟨rfl, B3.out.below⟩
  | true =>
    clear q1
    cases q2 : fewB a' b' 20 with
    | false =>
      clear q2
      go_wp2_with fail
      go_ret
      exact ⟨rfl, B3.out.below⟩
    | true =>
      clear q2
      by_cases h30 : (u.length : Int) > 30
      · have h30b : decide ((u.length : Int) > 30) = true := decide_eq_true h30
        go_wp2_with fail
        go_ret
        exact ⟨rfl, B3.out.below⟩
      · have h30b : decide ((u.length : Int) > 30) = false := decide_eq_false h30
        have HUL := Aside0.mk (show u.length ≤ 30 by omega)
        have z0 := B3.out.cells.1
        have z1 := B3.out.cells.2.1
        have z2 := B3.out.cells.2.2.1
        have z3 := B3.out.cells.2.2.2
        go_wp2_with fail
        clear h30 h30b z0 z1 z2 z3
        refine (least_Apart.calls A0 c0 a A1 c1 b A2 c2 a' A3 c3 b' (apartRes a b a' b').1 (apartRes a b a' b').2.1 (apartRes a b a' b').2.2 W3 (Kd.C_below HR0.out B3.out.below) HC0.out (Kd.C_below HR1.out B3.out.below) HC1.out (Kd.C_below HR2.out B3.out.below) HC2.out (Kd.C_below HR3.out B3.out.below) HC3.out rfl).mono ?_
        rintro e W5 ⟨vw, rfl, hvw, hb⟩
        have HVW := Aside0.mk (Kd.R_lower hvw B3.out.below.size)
        have B5 := Aside0.mk (B3.out.later hb)
        clear hvw hb B3
        cases hbo : bothB a b a' b' with
        | false =>
          have e0 : apartRes a b a' b' = ([], false, 1) := by unfold apartRes; rw [hbo, if_neg (by decide)]
          rw [e0]
          clear hbo e0 HVW
          go_wp2_with fail
          go_ret
          exact ⟨rfl, B5.out.below⟩
        | true =>
          have e0 : apartRes a b a' b' = ((apartOf a b a' b').1, (apartOf a b a' b').2, 0) := by unfold apartRes; rw [hbo, if_pos rfl]
          have hpp := bothB_parts hbo
          have HPA := Aside0.mk hpp.1
          have HPB := Aside0.mk hpp.2.1
          have HM := Aside0.mk hpp.2.2
          have HWA := Aside0.mk (wf_of_right hpp.1)
          have HWB := Aside0.mk (show Wf a' b' a'.length (rd_L1 a 0).length by rw [hpp.2.2]; exact wf_of_right hpp.2.1)
          have HSP0 := Aside0.mk (apart_spec HWA.out HWB.out rfl)
          have HWL0 := Aside0.mk (apart_short HWA.out HWB.out rfl)
          rw [e0] at HVW ⊢
          clear hbo e0 hpp
          obtain ⟨rr, hrr⟩ : ∃ r, apartOf a b a' b' = r := ⟨_, rfl⟩
          rw [hrr] at HVW HSP0 HWL0 ⊢
          clear hrr
          obtain ⟨wd, is⟩ := rr
          have HVW2 := Aside0.mk (show Kd.R (Kd.int .i64) 3 W5 w.heap.size (fun _ => True) vw wd from HVW.out)
          have HWL := Aside0.mk (show wd.length ≤ 25000000 from HWL0.out)
          clear HVW HWL0
          obtain ⟨AW, cW, rfl⟩ := Kd.R_slice HVW2.out
          have HWR := HVW2
          clear HVW2
          have HWC := Aside0.mk (Kd.R_reads' HWR.out).2.1
          cases is with
          | false =>
            have HSP := Aside0.mk (apart_same HWA.out HWB.out HSP0.out rfl)
            clear HSP0
            obtain ⟨K3, hK3⟩ := ev_run HPA.out u (by have := HUL.out; have := HWL.out; omega)
            obtain ⟨K4, hK4⟩ := ev_run HPB.out u (by have := HUL.out; have := HWL.out; omega)
            have hK3 := hK3 K3 (Nat.le_refl _)
            have hK4 := hK4 K4 (Nat.le_refl _)
            rw [← HM.out] at hK4
            by_cases hwo : wordB (rd_L1 a 0).length u = true
            · rw [if_pos hwo] at hK3 hK4
              have HOK := Aside0.mk (wordB_iff.1 hwo)
              have HEQ := Aside0.mk (HSP.out u HOK.out)
              have HK3 := Aside0.mk hK3
              have HK4 := Aside0.mk hK4
              clear hK3 hK4 hwo
              have z0 := B5.out.cells.1
              have z1 := B5.out.cells.2.1
              go_wp2_with fail
              refine (scansionref12_Run.calls K3 A0 c0 a A1 c1 b 0 A4 c4 u (runI a 0 u) 0 W5 (Kd.C_below HR0.out B5.out.below) HC0.out (Kd.C_below HR1.out B5.out.below) HC1.out (Kd.C_below HR4.out B5.out.below) HC4.out HK3.out).mono ?_
              rintro e W6 ⟨rfl, hb⟩
              have B6 := Aside0.mk (B5.out.later hb)
              clear hb z0 z1
              have z0 := B6.out.cells.2.2.1
              have z1 := B6.out.cells.2.2.2
              go_wp2_with fail
              refine (scansionref12_Run.calls K4 A2 c2 a' A3 c3 b' 0 A4 c4 u (runI a' 0 u) 0 W6 (Kd.C_below HR2.out B6.out.below) HC2.out (Kd.C_below HR3.out B6.out.below) HC3.out (Kd.C_below HR4.out B6.out.below) HC4.out HK4.out).mono ?_
              rintro e W7 ⟨rfl, hb⟩
              have B7 := Aside0.mk (B6.out.later hb)
              clear hb z0 z1
              obtain ⟨t, t1, t2⟩ := runI_lt HWA.out u 0 HOK.out HWA.out.one
              obtain ⟨t', t3, t4⟩ := runI_lt HWB.out u 0 HOK.out HWB.out.one
              have t2 : runI a 0 u = t := t2
              have t4 : runI a' 0 u = t' := t4
              rw [t2, t4] at HEQ ⊢
              obtain ⟨adf, ef, hxf⟩ := Kd.at_bool HR1.out (t : Int) (by omega) (by have := HWA.out.blen; omega)
              obtain ⟨adg, eg, hxg⟩ := Kd.at_bool HR3.out (t' : Int) (by omega) (by have := HWB.out.blen; omega)
              rw [Int.toNat_natCast] at hxf hxg
              subst ef
              subst eg
              obtain ⟨q1, hq1⟩ : ∃ v, rdOf false b t = v := ⟨_, rfl⟩
              obtain ⟨q2, hq2⟩ : ∃ v, rdOf false b' t' = v := ⟨_, rfl⟩
              rw [hq1] at hxf HEQ
              rw [hq2] at hxg HEQ
              have HFA := Aside0.mk (And.intro hxf hxg)
              have gf := eq_true (show t < b.length by have := HWA.out.blen; omega)
              have gg := eq_true (show t' < b'.length by have := HWB.out.blen; omega)
              have hne : (q1 != q2) = false := by rw [HEQ.out]; simp
              have hne2 : (!(q1 == q2)) = false := hne
              clear hxf hxg hq1 hq2 t1 t2 t3 t4 HK3 HK4
              go_upto_region 16 with fail
              have B8 := Aside0.mk (B7.out.later (below_drew (Below.refl _ _)))
              refine wp_region_noPanic ?_
              refine start_ (n := 12) (S := fun w' => (w'.cell? ⟨w.heap.size, 0, none⟩ = some (.slice A0 a.length c0) ∧ w'.cell? ⟨w.heap.size, 1, none⟩ = some (.slice (some adf) b.length c1) ∧ w'.cell? ⟨w.heap.size + 1, 0, none⟩ = some (.slice A2 a'.length c2) ∧ w'.cell? ⟨w.heap.size + 1, 1, none⟩ = some (.slice (some adg) b'.length c3)) ∧ w'.cell? (adf.add t) = some (.bool q1) ∧ w'.cell? (adg.add t') = some (.bool q2)) (ds := []) #[false, false, false, false, false, false, false, false, false, false, false, false] (by kernel_rfl) rfl rfl ⟨B8.out.cells, (B8.out.below.cell (World.block_lt_of_cell? w _ HFA.out.1)).trans HFA.out.1, (B8.out.below.cell (World.block_lt_of_cell? w _ HFA.out.2)).trans HFA.out.2⟩ (fun hHeld => ?_); refine with_tabW witness_tab16 witness_bits16 (fun HT_ HW_ => ?_)
              generalize W7.drew = W8 at *
              refine pure_ (i := 0) (N := some 87) (v := ?_) (a' := ?_) #[true, false, false, false, false, false, false, false, false, false, false, false] rfl rfl (any_of HT_.out (by kernel_rfl)) (fun _ _ _ h => h) (Or.inl ⟨by rfl, ?_⟩) ?_ ?_
              rotate_left
              · intro w'
                go_simp
                with_reducible rfl
              rotate_left
              · simp only [Act.put, List.setIfInBounds_toArray, List.set_cons_zero, List.set_cons_succ, i64_w, i32_w]
                rfl
              refine take_ (i := 1) (N := some 88) (v := ?_) (a' := ?_) #[true, true, false, false, false, false, false, false, false, false, false, false] rfl rfl (take_ofW HT_.out HW_.out (by kernel_rfl)) (fun _ _ _ h => h) (Or.inl ⟨by rfl, ?_⟩) hHeld ?_ ?_
              rotate_left
              · rintro w' ⟨⟨s0, s1, s2, s3⟩, s4, s5⟩
                go_simp
                with_reducible rfl
              rotate_left
              · simp only [Act.put, List.setIfInBounds_toArray, List.set_cons_zero, List.set_cons_succ, i64_w, i32_w]
                rfl
              refine pure_ (i := 2) (N := some 89) (v := ?_) (a' := ?_) #[true, true, true, false, false, false, false, false, false, false, false, false] rfl rfl (any_of HT_.out (by kernel_rfl)) (fun _ _ _ h => h) (Or.inl ⟨by rfl, ?_⟩) ?_ ?_
              rotate_left
              · intro w'
                go_simp
                with_reducible rfl
              rotate_left
              · simp only [Act.put, List.setIfInBounds_toArray, List.set_cons_zero, List.set_cons_succ, i64_w, i32_w]
                rfl
              refine pure_ (i := 3) (N := some 90) (v := ?_) (a' := ?_) #[true, true, true, true, false, false, false, false, false, false, false, false] rfl rfl (any_of HT_.out (by kernel_rfl)) (fun _ _ _ h => h) (Or.inl ⟨by rfl, ?_⟩) ?_ ?_
              rotate_left
              · intro w'
                go_simp
                with_reducible rfl
              rotate_left
              · simp only [Act.put, List.setIfInBounds_toArray, List.set_cons_zero, List.set_cons_succ, i64_w, i32_w]
                rfl
              refine take_ (i := 4) (N := some 91) (v := ?_) (a' := ?_) #[true, true, true, true, true, false, false, false, false, false, false, false] rfl rfl (take_ofW HT_.out HW_.out (by kernel_rfl)) (fun _ _ _ h => h) (Or.inl ⟨by rfl, ?_⟩) hHeld ?_ ?_
              rotate_left
              · rintro w' ⟨⟨s0, s1, s2, s3⟩, s4, s5⟩
                go_simp
                with_reducible rfl
              rotate_left
              · simp only [Act.put, List.setIfInBounds_toArray, List.set_cons_zero, List.set_cons_succ, i64_w, i32_w]
                rfl
              refine pure_ (i := 5) (N := some 92) (v := ?_) (a' := ?_) #[true, true, true, true, true, true, false, false, false, false, false, false] rfl rfl (any_of HT_.out (by kernel_rfl)) (fun _ _ _ h => h) (Or.inl ⟨by rfl, ?_⟩) ?_ ?_
              rotate_left
              · intro w'
                go_simp
                with_reducible rfl
              rotate_left
              · simp only [Act.put, List.setIfInBounds_toArray, List.set_cons_zero, List.set_cons_succ, i64_w, i32_w]
                rfl
              refine take_ (i := 6) (N := some 93) (v := ?_) (a' := ?_) #[true, true, true, true, true, true, true, false, false, false, false, false] rfl rfl (take_ofW HT_.out HW_.out (by kernel_rfl)) (fun _ _ _ h => h) (Or.inl ⟨by rfl, ?_⟩) hHeld ?_ ?_
              rotate_left
              · rintro w' ⟨⟨s0, s1, s2, s3⟩, s4, s5⟩
                go_simp
                with_reducible rfl
              rotate_left
              · simp only [Act.put, List.setIfInBounds_toArray, List.set_cons_zero, List.set_cons_succ, i64_w, i32_w]
                rfl
              refine pure_ (i := 7) (N := some 94) (v := ?_) (a' := ?_) #[true, true, true, true, true, true, true, true, false, false, false, false] rfl rfl (any_of HT_.out (by kernel_rfl)) (fun _ _ _ h => h) (Or.inl ⟨by rfl, ?_⟩) ?_ ?_
              rotate_left
              · intro w'
                go_simp
                with_reducible rfl
              rotate_left
              · simp only [Act.put, List.setIfInBounds_toArray, List.set_cons_zero, List.set_cons_succ, i64_w, i32_w]
                rfl
              refine pure_ (i := 8) (N := some 95) (v := ?_) (a' := ?_) #[true, true, true, true, true, true, true, true, true, false, false, false] rfl rfl (any_of HT_.out (by kernel_rfl)) (fun _ _ _ h => h) (Or.inl ⟨by rfl, ?_⟩) ?_ ?_
              rotate_left
              · intro w'
                go_simp
                with_reducible rfl
              rotate_left
              · simp only [Act.put, List.setIfInBounds_toArray, List.set_cons_zero, List.set_cons_succ, i64_w, i32_w]
                rfl
              refine take_ (i := 9) (N := some 96) (v := ?_) (a' := ?_) #[true, true, true, true, true, true, true, true, true, true, false, false] rfl rfl (take_ofW HT_.out HW_.out (by kernel_rfl)) (fun _ _ _ h => h) (Or.inl ⟨by rfl, ?_⟩) hHeld ?_ ?_
              rotate_left
              · rintro w' ⟨⟨s0, s1, s2, s3⟩, s4, s5⟩
                go_simp
                with_reducible rfl
              rotate_left
              · simp only [Act.put, List.setIfInBounds_toArray, List.set_cons_zero, List.set_cons_succ, i64_w, i32_w]
                rfl
              refine pure_ (i := 10) (N := some 97) (v := ?_) (a' := ?_) #[true, true, true, true, true, true, true, true, true, true, true, false] rfl rfl (any_of HT_.out (by kernel_rfl)) (fun _ _ _ h => h) (Or.inl ⟨by rfl, ?_⟩) ?_ ?_
              rotate_left
              · intro w'
                go_simp
                with_reducible rfl
              rotate_left
              · simp only [Act.put, List.setIfInBounds_toArray, List.set_cons_zero, List.set_cons_succ, i64_w, i32_w]
                rfl
              refine pure_ (i := 11) (N := some 18) (v := ?_) (a' := ?_) #[true, true, true, true, true, true, true, true, true, true, true, true] rfl rfl (any_of HT_.out (by kernel_rfl)) (fun _ _ _ h => h) (Or.inl ⟨by rfl, ?_⟩) ?_ ?_
              rotate_left
              · intro w'
                go_simp
                with_reducible rfl
              rotate_left
              · simp only [Act.put, List.setIfInBounds_toArray, List.set_cons_zero, List.set_cons_succ, i64_w, i32_w]
                rfl
              refine done_ (done_of HT_.out (by kernel_rfl)) ?_
              refine NoPanic.normal ?_
              clear HT_ HW_ hHeld hne hne2 gf gg HFA
              go_wp2_with fail
              go_ret
              exact ⟨rfl, B8.out.below⟩
            · rw [if_neg hwo] at hK3 hK4
              have HK3 := Aside0.mk hK3
              have HK4 := Aside0.mk hK4
              clear hK3 hK4 hwo
              have z0 := B5.out.cells.1
              have z1 := B5.out.cells.2.1
              go_wp2_with fail
              refine (scansionref12_Run.calls K3 A0 c0 a A1 c1 b 0 A4 c4 u 0 1 W5 (Kd.C_below HR0.out B5.out.below) HC0.out (Kd.C_below HR1.out B5.out.below) HC1.out (Kd.C_below HR4.out B5.out.below) HC4.out HK3.out).mono ?_
              rintro e W6 ⟨rfl, hb⟩
              have B6 := Aside0.mk (B5.out.later hb)
              clear hb z0 z1
              have z0 := B6.out.cells.2.2.1
              have z1 := B6.out.cells.2.2.2
              go_wp2_with fail
              refine (scansionref12_Run.calls K4 A2 c2 a' A3 c3 b' 0 A4 c4 u 0 1 W6 (Kd.C_below HR2.out B6.out.below) HC2.out (Kd.C_below HR3.out B6.out.below) HC3.out (Kd.C_below HR4.out B6.out.below) HC4.out HK4.out).mono ?_
              rintro e W7 ⟨rfl, hb⟩
              have B7 := Aside0.mk (B6.out.later hb)
              clear hb z0 z1
              go_wp2_with fail
              go_ret
              exact ⟨rfl, B7.out.below⟩
          | true =>
            have HSP := Aside0.mk (apart_word HSP0.out)
            clear HSP0
            by_cases hlt : u.length < wd.length
            · have HLT := Aside0.mk hlt
              have hltz : decide ((u.length : Int) < (wd.length : Int)) = true := decide_eq_true (by omega)
              have hltn : decide (u.length < wd.length) = true := decide_eq_true hlt
              have hltp := eq_true hlt
              clear hlt
              obtain ⟨K3, hK3⟩ := ev_run HPA.out u (by have := HUL.out; have := HWL.out; omega)
              obtain ⟨K4, hK4⟩ := ev_run HPB.out u (by have := HUL.out; have := HWL.out; omega)
              have hK3 := hK3 K3 (Nat.le_refl _)
              have hK4 := hK4 K4 (Nat.le_refl _)
              rw [← HM.out] at hK4
              by_cases hwo : wordB (rd_L1 a 0).length u = true
              · rw [if_pos hwo] at hK3 hK4
                have HOK := Aside0.mk (wordB_iff.1 hwo)
                have HEQ := Aside0.mk (HSP.out.2.2 u HOK.out HLT.out)
                have HK3 := Aside0.mk hK3
                have HK4 := Aside0.mk hK4
                clear hK3 hK4 hwo
                have z0 := B5.out.cells.1
                have z1 := B5.out.cells.2.1
                go_wp2_with fail
                refine (scansionref12_Run.calls K3 A0 c0 a A1 c1 b 0 A4 c4 u (runI a 0 u) 0 W5 (Kd.C_below HR0.out B5.out.below) HC0.out (Kd.C_below HR1.out B5.out.below) HC1.out (Kd.C_below HR4.out B5.out.below) HC4.out HK3.out).mono ?_
                rintro e W6 ⟨rfl, hb⟩
                have B6 := Aside0.mk (B5.out.later hb)
                clear hb z0 z1
                have z0 := B6.out.cells.2.2.1
                have z1 := B6.out.cells.2.2.2
                go_wp2_with fail
                refine (scansionref12_Run.calls K4 A2 c2 a' A3 c3 b' 0 A4 c4 u (runI a' 0 u) 0 W6 (Kd.C_below HR2.out B6.out.below) HC2.out (Kd.C_below HR3.out B6.out.below) HC3.out (Kd.C_below HR4.out B6.out.below) HC4.out HK4.out).mono ?_
                rintro e W7 ⟨rfl, hb⟩
                have B7 := Aside0.mk (B6.out.later hb)
                clear hb z0 z1
                obtain ⟨t, t1, t2⟩ := runI_lt HWA.out u 0 HOK.out HWA.out.one
                obtain ⟨t', t3, t4⟩ := runI_lt HWB.out u 0 HOK.out HWB.out.one
                have t2 : runI a 0 u = t := t2
                have t4 : runI a' 0 u = t' := t4
                rw [t2, t4] at HEQ ⊢
                obtain ⟨adf, ef, hxf⟩ := Kd.at_bool HR1.out (t : Int) (by omega) (by have := HWA.out.blen; omega)
                obtain ⟨adg, eg, hxg⟩ := Kd.at_bool HR3.out (t' : Int) (by omega) (by have := HWB.out.blen; omega)
                rw [Int.toNat_natCast] at hxf hxg
                subst ef
                subst eg
                obtain ⟨q1, hq1⟩ : ∃ v, rdOf false b t = v := ⟨_, rfl⟩
                obtain ⟨q2, hq2⟩ : ∃ v, rdOf false b' t' = v := ⟨_, rfl⟩
                rw [hq1] at hxf HEQ
                rw [hq2] at hxg HEQ
                have HFA := Aside0.mk (And.intro hxf hxg)
                have gf := eq_true (show t < b.length by have := HWA.out.blen; omega)
                have gg := eq_true (show t' < b'.length by have := HWB.out.blen; omega)
                have hne : (q1 != q2) = false := by rw [HEQ.out]; simp
                have hne2 : (!(q1 == q2)) = false := hne
                clear hxf hxg hq1 hq2 t1 t2 t3 t4 HK3 HK4
                go_upto_region 16 with fail
                have B8 := Aside0.mk (B7.out.later (below_drew (Below.refl _ _)))
                refine wp_region_noPanic ?_
                refine start_ (n := 12) (S := fun w' => (w'.cell? ⟨w.heap.size, 0, none⟩ = some (.slice A0 a.length c0) ∧ w'.cell? ⟨w.heap.size, 1, none⟩ = some (.slice (some adf) b.length c1) ∧ w'.cell? ⟨w.heap.size + 1, 0, none⟩ = some (.slice A2 a'.length c2) ∧ w'.cell? ⟨w.heap.size + 1, 1, none⟩ = some (.slice (some adg) b'.length c3)) ∧ w'.cell? (adf.add t) = some (.bool q1) ∧ w'.cell? (adg.add t') = some (.bool q2)) (ds := []) #[false, false, false, false, false, false, false, false, false, false, false, false] (by kernel_rfl) rfl rfl ⟨B8.out.cells, (B8.out.below.cell (World.block_lt_of_cell? w _ HFA.out.1)).trans HFA.out.1, (B8.out.below.cell (World.block_lt_of_cell? w _ HFA.out.2)).trans HFA.out.2⟩ (fun hHeld => ?_); refine with_tabW witness_tab16 witness_bits16 (fun HT_ HW_ => ?_)
                generalize W7.drew = W8 at *
                refine pure_ (i := 0) (N := some 87) (v := ?_) (a' := ?_) #[true, false, false, false, false, false, false, false, false, false, false, false] rfl rfl (any_of HT_.out (by kernel_rfl)) (fun _ _ _ h => h) (Or.inl ⟨by rfl, ?_⟩) ?_ ?_
                rotate_left
                · intro w'
                  go_simp
                  with_reducible rfl
                rotate_left
                · simp only [Act.put, List.setIfInBounds_toArray, List.set_cons_zero, List.set_cons_succ, i64_w, i32_w]
                  rfl
                refine take_ (i := 1) (N := some 88) (v := ?_) (a' := ?_) #[true, true, false, false, false, false, false, false, false, false, false, false] rfl rfl (take_ofW HT_.out HW_.out (by kernel_rfl)) (fun _ _ _ h => h) (Or.inl ⟨by rfl, ?_⟩) hHeld ?_ ?_
                rotate_left
                · rintro w' ⟨⟨s0, s1, s2, s3⟩, s4, s5⟩
                  go_simp
                  with_reducible rfl
                rotate_left
                · simp only [Act.put, List.setIfInBounds_toArray, List.set_cons_zero, List.set_cons_succ, i64_w, i32_w]
                  rfl
                refine pure_ (i := 2) (N := some 89) (v := ?_) (a' := ?_) #[true, true, true, false, false, false, false, false, false, false, false, false] rfl rfl (any_of HT_.out (by kernel_rfl)) (fun _ _ _ h => h) (Or.inl ⟨by rfl, ?_⟩) ?_ ?_
                rotate_left
                · intro w'
                  go_simp
                  with_reducible rfl
                rotate_left
                · simp only [Act.put, List.setIfInBounds_toArray, List.set_cons_zero, List.set_cons_succ, i64_w, i32_w]
                  rfl
                refine pure_ (i := 3) (N := some 90) (v := ?_) (a' := ?_) #[true, true, true, true, false, false, false, false, false, false, false, false] rfl rfl (any_of HT_.out (by kernel_rfl)) (fun _ _ _ h => h) (Or.inl ⟨by rfl, ?_⟩) ?_ ?_
                rotate_left
                · intro w'
                  go_simp
                  with_reducible rfl
                rotate_left
                · simp only [Act.put, List.setIfInBounds_toArray, List.set_cons_zero, List.set_cons_succ, i64_w, i32_w]
                  rfl
                refine take_ (i := 4) (N := some 91) (v := ?_) (a' := ?_) #[true, true, true, true, true, false, false, false, false, false, false, false] rfl rfl (take_ofW HT_.out HW_.out (by kernel_rfl)) (fun _ _ _ h => h) (Or.inl ⟨by rfl, ?_⟩) hHeld ?_ ?_
                rotate_left
                · rintro w' ⟨⟨s0, s1, s2, s3⟩, s4, s5⟩
                  go_simp
                  with_reducible rfl
                rotate_left
                · simp only [Act.put, List.setIfInBounds_toArray, List.set_cons_zero, List.set_cons_succ, i64_w, i32_w]
                  rfl
                refine pure_ (i := 5) (N := some 92) (v := ?_) (a' := ?_) #[true, true, true, true, true, true, false, false, false, false, false, false] rfl rfl (any_of HT_.out (by kernel_rfl)) (fun _ _ _ h => h) (Or.inl ⟨by rfl, ?_⟩) ?_ ?_
                rotate_left
                · intro w'
                  go_simp
                  with_reducible rfl
                rotate_left
                · simp only [Act.put, List.setIfInBounds_toArray, List.set_cons_zero, List.set_cons_succ, i64_w, i32_w]
                  rfl
                refine take_ (i := 6) (N := some 93) (v := ?_) (a' := ?_) #[true, true, true, true, true, true, true, false, false, false, false, false] rfl rfl (take_ofW HT_.out HW_.out (by kernel_rfl)) (fun _ _ _ h => h) (Or.inl ⟨by rfl, ?_⟩) hHeld ?_ ?_
                rotate_left
                · rintro w' ⟨⟨s0, s1, s2, s3⟩, s4, s5⟩
                  go_simp
                  with_reducible rfl
                rotate_left
                · simp only [Act.put, List.setIfInBounds_toArray, List.set_cons_zero, List.set_cons_succ, i64_w, i32_w]
                  rfl
                refine pure_ (i := 7) (N := some 94) (v := ?_) (a' := ?_) #[true, true, true, true, true, true, true, true, false, false, false, false] rfl rfl (any_of HT_.out (by kernel_rfl)) (fun _ _ _ h => h) (Or.inl ⟨by rfl, ?_⟩) ?_ ?_
                rotate_left
                · intro w'
                  go_simp
                  with_reducible rfl
                rotate_left
                · simp only [Act.put, List.setIfInBounds_toArray, List.set_cons_zero, List.set_cons_succ, i64_w, i32_w]
                  rfl
                refine pure_ (i := 8) (N := some 95) (v := ?_) (a' := ?_) #[true, true, true, true, true, true, true, true, true, false, false, false] rfl rfl (any_of HT_.out (by kernel_rfl)) (fun _ _ _ h => h) (Or.inl ⟨by rfl, ?_⟩) ?_ ?_
                rotate_left
                · intro w'
                  go_simp
                  with_reducible rfl
                rotate_left
                · simp only [Act.put, List.setIfInBounds_toArray, List.set_cons_zero, List.set_cons_succ, i64_w, i32_w]
                  rfl
                refine take_ (i := 9) (N := some 96) (v := ?_) (a' := ?_) #[true, true, true, true, true, true, true, true, true, true, false, false] rfl rfl (take_ofW HT_.out HW_.out (by kernel_rfl)) (fun _ _ _ h => h) (Or.inl ⟨by rfl, ?_⟩) hHeld ?_ ?_
                rotate_left
                · rintro w' ⟨⟨s0, s1, s2, s3⟩, s4, s5⟩
                  go_simp
                  with_reducible rfl
                rotate_left
                · simp only [Act.put, List.setIfInBounds_toArray, List.set_cons_zero, List.set_cons_succ, i64_w, i32_w]
                  rfl
                refine pure_ (i := 10) (N := some 97) (v := ?_) (a' := ?_) #[true, true, true, true, true, true, true, true, true, true, true, false] rfl rfl (any_of HT_.out (by kernel_rfl)) (fun _ _ _ h => h) (Or.inl ⟨by rfl, ?_⟩) ?_ ?_
                rotate_left
                · intro w'
                  go_simp
                  with_reducible rfl
                rotate_left
                · simp only [Act.put, List.setIfInBounds_toArray, List.set_cons_zero, List.set_cons_succ, i64_w, i32_w]
                  rfl
                refine pure_ (i := 11) (N := some 18) (v := ?_) (a' := ?_) #[true, true, true, true, true, true, true, true, true, true, true, true] rfl rfl (any_of HT_.out (by kernel_rfl)) (fun _ _ _ h => h) (Or.inl ⟨by rfl, ?_⟩) ?_ ?_
                rotate_left
                · intro w'
                  go_simp
                  with_reducible rfl
                rotate_left
                · simp only [Act.put, List.setIfInBounds_toArray, List.set_cons_zero, List.set_cons_succ, i64_w, i32_w]
                  rfl
                refine done_ (done_of HT_.out (by kernel_rfl)) ?_
                refine NoPanic.normal ?_
                clear HT_ HW_ hHeld hne hne2 gf gg HFA
                have hlne : ((u.length : Int) == (wd.length : Int)) = false := beq_eq_false_iff_ne.2 (by have := HLT.out; omega)
                go_wp2_with fail
                go_ret
                exact ⟨rfl, B8.out.below⟩
              · rw [if_neg hwo] at hK3 hK4
                have HK3 := Aside0.mk hK3
                have HK4 := Aside0.mk hK4
                clear hK3 hK4 hwo
                have z0 := B5.out.cells.1
                have z1 := B5.out.cells.2.1
                go_wp2_with fail
                refine (scansionref12_Run.calls K3 A0 c0 a A1 c1 b 0 A4 c4 u 0 1 W5 (Kd.C_below HR0.out B5.out.below) HC0.out (Kd.C_below HR1.out B5.out.below) HC1.out (Kd.C_below HR4.out B5.out.below) HC4.out HK3.out).mono ?_
                rintro e W6 ⟨rfl, hb⟩
                have B6 := Aside0.mk (B5.out.later hb)
                clear hb z0 z1
                have z0 := B6.out.cells.2.2.1
                have z1 := B6.out.cells.2.2.2
                go_wp2_with fail
                refine (scansionref12_Run.calls K4 A2 c2 a' A3 c3 b' 0 A4 c4 u 0 1 W6 (Kd.C_below HR2.out B6.out.below) HC2.out (Kd.C_below HR3.out B6.out.below) HC3.out (Kd.C_below HR4.out B6.out.below) HC4.out HK4.out).mono ?_
                rintro e W7 ⟨rfl, hb⟩
                have B7 := Aside0.mk (B6.out.later hb)
                clear hb z0 z1
                go_wp2_with fail
                go_ret
                exact ⟨rfl, B7.out.below⟩
            · have hltz : decide ((u.length : Int) < (wd.length : Int)) = false := decide_eq_false (by omega)
              have hltn : decide (u.length < wd.length) = false := decide_eq_false hlt
              have hltp := eq_false hlt
              have HBW5 := Aside0.mk (Below.refl W5.heap.size W5)
              obtain ⟨K5, hK5⟩ := ev_sameInts wd wd (by have := HWL.out; omega)
              have HK5 := Aside0.mk (hK5 K5 (Nat.le_refl _))
              rw [decide_eq_true rfl] at HK5
              clear hlt hK5
              obtain ⟨K3, hK3⟩ := ev_run HPA.out wd (by have := HUL.out; have := HWL.out; omega)
              obtain ⟨K4, hK4⟩ := ev_run HPB.out wd (by have := HUL.out; have := HWL.out; omega)
              have hK3 := hK3 K3 (Nat.le_refl _)
              have hK4 := hK4 K4 (Nat.le_refl _)
              rw [← HM.out] at hK4
              have HOK := Aside0.mk HSP.out.1
              rw [if_pos (wordB_iff.2 HOK.out)] at hK3 hK4
              have HEQ := Aside0.mk HSP.out.2.1
              have HK3 := Aside0.mk hK3
              have HK4 := Aside0.mk hK4
              clear hK3 hK4
              have z0 := B5.out.cells.1
              have z1 := B5.out.cells.2.1
              go_wp2_with fail
              refine (scansionref12_Run.calls K3 A0 c0 a A1 c1 b 0 AW cW wd (runI a 0 wd) 0 W5 (Kd.C_below HR0.out B5.out.below) HC0.out (Kd.C_below HR1.out B5.out.below) HC1.out (Kd.C_below (Kd.R_reads' HWR.out).2.2 HBW5.out) HWC.out HK3.out).mono ?_
              rintro e W6 ⟨rfl, hb⟩
              have B6 := Aside0.mk (B5.out.later hb)
              have HBW6 := Aside0.mk (below_step HBW5.out hb)
              clear hb z0 z1
              have z0 := B6.out.cells.2.2.1
              have z1 := B6.out.cells.2.2.2
              go_wp2_with fail
              refine (scansionref12_Run.calls K4 A2 c2 a' A3 c3 b' 0 AW cW wd (runI a' 0 wd) 0 W6 (Kd.C_below HR2.out B6.out.below) HC2.out (Kd.C_below HR3.out B6.out.below) HC3.out (Kd.C_below (Kd.R_reads' HWR.out).2.2 HBW6.out) HWC.out HK4.out).mono ?_
              rintro e W7 ⟨rfl, hb⟩
              have B7 := Aside0.mk (B6.out.later hb)
              have HBW7 := Aside0.mk (below_step HBW6.out hb)
              clear hb z0 z1
              obtain ⟨t, t1, t2⟩ := runI_lt HWA.out wd 0 HOK.out HWA.out.one
              obtain ⟨t', t3, t4⟩ := runI_lt HWB.out wd 0 HOK.out HWB.out.one
              have t2 : runI a 0 wd = t := t2
              have t4 : runI a' 0 wd = t' := t4
              rw [t2, t4] at HEQ ⊢
              obtain ⟨adf, ef, hxf⟩ := Kd.at_bool HR1.out (t : Int) (by omega) (by have := HWA.out.blen; omega)
              obtain ⟨adg, eg, hxg⟩ := Kd.at_bool HR3.out (t' : Int) (by omega) (by have := HWB.out.blen; omega)
              rw [Int.toNat_natCast] at hxf hxg
              subst ef
              subst eg
              obtain ⟨q1, hq1⟩ : ∃ v, rdOf false b t = v := ⟨_, rfl⟩
              obtain ⟨q2, hq2⟩ : ∃ v, rdOf false b' t' = v := ⟨_, rfl⟩
              rw [hq1] at hxf HEQ
              rw [hq2] at hxg HEQ
              have HFA := Aside0.mk (And.intro hxf hxg)
              have gf := eq_true (show t < b.length by have := HWA.out.blen; omega)
              have gg := eq_true (show t' < b'.length by have := HWB.out.blen; omega)
              have hne : (q1 != q2) = true := bne_iff_ne.2 HEQ.out
              have hne2 : (!(q1 == q2)) = true := hne
              clear hxf hxg hq1 hq2 t1 t2 t3 t4 HK3 HK4
              go_upto_region 16 with fail
              have B8 := Aside0.mk (B7.out.later (below_drew (Below.refl _ _)))
              have HBW8 := Aside0.mk (below_drew HBW7.out)
              refine wp_region_noPanic ?_
              refine start_ (n := 12) (S := fun w' => (w'.cell? ⟨w.heap.size, 0, none⟩ = some (.slice A0 a.length c0) ∧ w'.cell? ⟨w.heap.size, 1, none⟩ = some (.slice (some adf) b.length c1) ∧ w'.cell? ⟨w.heap.size + 1, 0, none⟩ = some (.slice A2 a'.length c2) ∧ w'.cell? ⟨w.heap.size + 1, 1, none⟩ = some (.slice (some adg) b'.length c3)) ∧ w'.cell? (adf.add t) = some (.bool q1) ∧ w'.cell? (adg.add t') = some (.bool q2)) (ds := []) #[false, false, false, false, false, false, false, false, false, false, false, false] (by kernel_rfl) rfl rfl ⟨B8.out.cells, (B8.out.below.cell (World.block_lt_of_cell? w _ HFA.out.1)).trans HFA.out.1, (B8.out.below.cell (World.block_lt_of_cell? w _ HFA.out.2)).trans HFA.out.2⟩ (fun hHeld => ?_); refine with_tabW witness_tab16 witness_bits16 (fun HT_ HW_ => ?_)
              generalize W7.drew = W8 at *
              refine pure_ (i := 0) (N := some 87) (v := ?_) (a' := ?_) #[true, false, false, false, false, false, false, false, false, false, false, false] rfl rfl (any_of HT_.out (by kernel_rfl)) (fun _ _ _ h => h) (Or.inl ⟨by rfl, ?_⟩) ?_ ?_
              rotate_left
              · intro w'
                go_simp
                with_reducible rfl
              rotate_left
              · simp only [Act.put, List.setIfInBounds_toArray, List.set_cons_zero, List.set_cons_succ, i64_w, i32_w]
                rfl
              refine take_ (i := 1) (N := some 88) (v := ?_) (a' := ?_) #[true, true, false, false, false, false, false, false, false, false, false, false] rfl rfl (take_ofW HT_.out HW_.out (by kernel_rfl)) (fun _ _ _ h => h) (Or.inl ⟨by rfl, ?_⟩) hHeld ?_ ?_
              rotate_left
              · rintro w' ⟨⟨s0, s1, s2, s3⟩, s4, s5⟩
                go_simp
                with_reducible rfl
              rotate_left
              · simp only [Act.put, List.setIfInBounds_toArray, List.set_cons_zero, List.set_cons_succ, i64_w, i32_w]
                rfl
              refine pure_ (i := 2) (N := some 89) (v := ?_) (a' := ?_) #[true, true, true, false, false, false, false, false, false, false, false, false] rfl rfl (any_of HT_.out (by kernel_rfl)) (fun _ _ _ h => h) (Or.inl ⟨by rfl, ?_⟩) ?_ ?_
              rotate_left
              · intro w'
                go_simp
                with_reducible rfl
              rotate_left
              · simp only [Act.put, List.setIfInBounds_toArray, List.set_cons_zero, List.set_cons_succ, i64_w, i32_w]
                rfl
              refine pure_ (i := 3) (N := some 90) (v := ?_) (a' := ?_) #[true, true, true, true, false, false, false, false, false, false, false, false] rfl rfl (any_of HT_.out (by kernel_rfl)) (fun _ _ _ h => h) (Or.inl ⟨by rfl, ?_⟩) ?_ ?_
              rotate_left
              · intro w'
                go_simp
                with_reducible rfl
              rotate_left
              · simp only [Act.put, List.setIfInBounds_toArray, List.set_cons_zero, List.set_cons_succ, i64_w, i32_w]
                rfl
              refine take_ (i := 4) (N := some 91) (v := ?_) (a' := ?_) #[true, true, true, true, true, false, false, false, false, false, false, false] rfl rfl (take_ofW HT_.out HW_.out (by kernel_rfl)) (fun _ _ _ h => h) (Or.inl ⟨by rfl, ?_⟩) hHeld ?_ ?_
              rotate_left
              · rintro w' ⟨⟨s0, s1, s2, s3⟩, s4, s5⟩
                go_simp
                with_reducible rfl
              rotate_left
              · simp only [Act.put, List.setIfInBounds_toArray, List.set_cons_zero, List.set_cons_succ, i64_w, i32_w]
                rfl
              refine pure_ (i := 5) (N := some 92) (v := ?_) (a' := ?_) #[true, true, true, true, true, true, false, false, false, false, false, false] rfl rfl (any_of HT_.out (by kernel_rfl)) (fun _ _ _ h => h) (Or.inl ⟨by rfl, ?_⟩) ?_ ?_
              rotate_left
              · intro w'
                go_simp
                with_reducible rfl
              rotate_left
              · simp only [Act.put, List.setIfInBounds_toArray, List.set_cons_zero, List.set_cons_succ, i64_w, i32_w]
                rfl
              refine take_ (i := 6) (N := some 93) (v := ?_) (a' := ?_) #[true, true, true, true, true, true, true, false, false, false, false, false] rfl rfl (take_ofW HT_.out HW_.out (by kernel_rfl)) (fun _ _ _ h => h) (Or.inl ⟨by rfl, ?_⟩) hHeld ?_ ?_
              rotate_left
              · rintro w' ⟨⟨s0, s1, s2, s3⟩, s4, s5⟩
                go_simp
                with_reducible rfl
              rotate_left
              · simp only [Act.put, List.setIfInBounds_toArray, List.set_cons_zero, List.set_cons_succ, i64_w, i32_w]
                rfl
              refine pure_ (i := 7) (N := some 94) (v := ?_) (a' := ?_) #[true, true, true, true, true, true, true, true, false, false, false, false] rfl rfl (any_of HT_.out (by kernel_rfl)) (fun _ _ _ h => h) (Or.inl ⟨by rfl, ?_⟩) ?_ ?_
              rotate_left
              · intro w'
                go_simp
                with_reducible rfl
              rotate_left
              · simp only [Act.put, List.setIfInBounds_toArray, List.set_cons_zero, List.set_cons_succ, i64_w, i32_w]
                rfl
              refine pure_ (i := 8) (N := some 95) (v := ?_) (a' := ?_) #[true, true, true, true, true, true, true, true, true, false, false, false] rfl rfl (any_of HT_.out (by kernel_rfl)) (fun _ _ _ h => h) (Or.inl ⟨by rfl, ?_⟩) ?_ ?_
              rotate_left
              · intro w'
                go_simp
                with_reducible rfl
              rotate_left
              · simp only [Act.put, List.setIfInBounds_toArray, List.set_cons_zero, List.set_cons_succ, i64_w, i32_w]
                rfl
              refine take_ (i := 9) (N := some 96) (v := ?_) (a' := ?_) #[true, true, true, true, true, true, true, true, true, true, false, false] rfl rfl (take_ofW HT_.out HW_.out (by kernel_rfl)) (fun _ _ _ h => h) (Or.inl ⟨by rfl, ?_⟩) hHeld ?_ ?_
              rotate_left
              · rintro w' ⟨⟨s0, s1, s2, s3⟩, s4, s5⟩
                go_simp
                with_reducible rfl
              rotate_left
              · simp only [Act.put, List.setIfInBounds_toArray, List.set_cons_zero, List.set_cons_succ, i64_w, i32_w]
                rfl
              refine pure_ (i := 10) (N := some 97) (v := ?_) (a' := ?_) #[true, true, true, true, true, true, true, true, true, true, true, false] rfl rfl (any_of HT_.out (by kernel_rfl)) (fun _ _ _ h => h) (Or.inl ⟨by rfl, ?_⟩) ?_ ?_
              rotate_left
              · intro w'
                go_simp
                with_reducible rfl
              rotate_left
              · simp only [Act.put, List.setIfInBounds_toArray, List.set_cons_zero, List.set_cons_succ, i64_w, i32_w]
                rfl
              refine pure_ (i := 11) (N := some 18) (v := ?_) (a' := ?_) #[true, true, true, true, true, true, true, true, true, true, true, true] rfl rfl (any_of HT_.out (by kernel_rfl)) (fun _ _ _ h => h) (Or.inl ⟨by rfl, ?_⟩) ?_ ?_
              rotate_left
              · intro w'
                go_simp
                with_reducible rfl
              rotate_left
              · simp only [Act.put, List.setIfInBounds_toArray, List.set_cons_zero, List.set_cons_succ, i64_w, i32_w]
                rfl
              refine done_ (done_of HT_.out (by kernel_rfl)) ?_
              refine NoPanic.normal ?_
              clear HT_ HW_ hHeld hne hne2 gf gg HFA
              have HSI := Aside0.mk (show scansionref01_SameInts.f K5 wd wd = some true from HK5.out)
              go_wp2_with fail
              refine (scansionref01_SameInts.calls K5 AW cW wd AW cW wd true W8 (Kd.C_below (Kd.R_reads' HWR.out).2.2 HBW8.out) HWC.out (Kd.C_below (Kd.R_reads' HWR.out).2.2 HBW8.out) HWC.out HSI.out).mono ?_
              rintro e W9 ⟨rfl, hd⟩
              have B9 := Aside0.mk (B8.out.later hd.below)
              clear hd
              go_wp2_with fail
              go_ret
              exact ⟨rfl, B9.out.below⟩
end Go.Proofs.Ytadhjjfodpmelaa.Pure
