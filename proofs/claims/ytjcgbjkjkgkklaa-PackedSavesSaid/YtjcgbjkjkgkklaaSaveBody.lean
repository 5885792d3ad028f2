/- packed.Save, walked by hand where the states are right. -/
import Derived.Test.YtjcgbjkjkgkklaaSaveR
namespace Go.Proofs.Ytjcgbjkjkgkklaa.Print
open Go.RowKit Go.Shelf Go.Proofs.YtjcgbjkjkgkklaaW.PrintWords Go.Proofs.YtjcgbjkjkgkklaaW.PrintLast Go.Proofs.YtjcgbjkjkgkklaaW.PrintMore
attribute [local go_sem] Oper.semAt_some
set_option linter.unusedVariables false
set_option linter.unusedSimpArgs false

set_option maxRecDepth 100000 in
set_option maxHeartbeats 8000000 in
theorem save_good (A0_0 : Option Addr) (c0_0 : Nat) (l0_0 : List (List Int)) (A0_1 : Option Addr) (c0_1 : Nat) (l0_1 : List Bool) (w : World) (hr0_0 : Kd.C (Kd.slice 3 (Kd.int .i64)) w A0_0 l0_0.length l0_0) (hc0_0 : l0_0.length ≤ c0_0) (hr0_1 : Kd.C Kd.bool w A0_1 l0_1.length l0_1) (hc0_1 : l0_1.length ≤ c0_1) (hg : rightB l0_0 l0_1 = true) :
    Calls Try.prog 11 #[.agg #[.slice A0_0 l0_0.length c0_0, .slice A0_1 l0_1.length c0_1]] w fun e w' => ∃ v0_ : Value, e = .returned (.tuple #[v0_, .int .i64 0]) ∧ Kd.R (Kd.int .u8) 5 w' w.heap.size (fun _ => True) v0_ (saveOf l0_0 l0_1) ∧ Below w.heap.size w w' := by
  have hgB := Aside0.mk hg
  have hge : 0 < l0_0.length := by
    unfold rightB at hg
    simp only [Bool.and_eq_true, decide_eq_true_eq] at hg
    exact hg.1.1.1.1.1
  obtain ⟨ad0, A1, c1, e0, ha0, hl1, hr1⟩ := at_L2 (Kd.C_alloc hr0_0 (.cells #[.slice A0_0 l0_0.length c0_0, .slice A0_1 l0_1.length c0_1] 25)) 0 (by omega) (by omega)
  subst e0
  rw [show (0 : Int).toNat = 0 from rfl, show ad0.add 0 = ad0 from by simp [Addr.add]] at ha0
  have HM := Aside0.mk (Kd.C_max hr1)
  have hal : ad0.block < w.heap.size + 1 := by have := cell_lt ha0; simpa using this
  have HAL := Aside0.mk hal
  have HA0 := Aside0.mk ha0
  have HX0 := Aside0.mk (show (w.alloc (.cells #[.slice (some ad0) l0_0.length c0_0, .slice A0_1 l0_1.length c0_1] 25)).cell? ⟨w.heap.size, 0, none⟩ = some (.slice (some ad0) l0_0.length c0_0) from (blk_cell (World.alloc_heap_new w _) 0).trans rfl)
  have HX01 := Aside0.mk (show (w.alloc (.cells #[.slice (some ad0) l0_0.length c0_0, .slice A0_1 l0_1.length c0_1] 25)).cell? ⟨w.heap.size, 1, none⟩ = some (.slice A0_1 l0_1.length c0_1) from (blk_cell (World.alloc_heap_new w _) 1).trans rfl)
  have hle1 : l0_1.length = l0_0.length := by
    unfold rightB at hg
    simp only [Bool.and_eq_true, decide_eq_true_eq] at hg
    exact hg.1.1.1.2
  have HLE1 := Aside0.mk hle1
  clear ha0 hl1 hr1 hal hle1
  have HR0 := Aside0.mk hr0_0
  have HR1 := Aside0.mk hr0_1
  have HRT := Aside0.mk (subset_Right.calls (some ad0) c0_0 l0_0 A0_1 c0_1 l0_1 true (w.alloc (.cells #[.slice (some ad0) l0_0.length c0_0, .slice A0_1 l0_1.length c0_1] 25)) (Kd.C_alloc hr0_0 _) hc0_0 (Kd.C_alloc hr0_1 _) hc0_1 (by unfold subset_Right.f; rw [hg]))
  clear hr0_0 hr0_1
  have hrows : ∀ j : Nat, j < l0_0.length → (rd_L2 l0_0 j).length ≤ 200 := fun j hj => right_row hg j hj
  have HN5 := Aside0.mk (right_len hg)
  have HLEN := Aside0.mk (fun (j : Nat) (hj : j ≤ l0_0.length) => show (headOf l0_0 ++ rowsUp l0_0 l0_1 j).length ≤ 22 + j * 4001 by
    have h1 := rowsUp_len l0_0 l0_1 hrows j hj
    have h2 := numOf_len l0_0.length
    have h3 := numOf_len (rd_L2 l0_0 0).length
    unfold headOf
    simp only [List.length_append, List.length_cons, List.length_nil]
    omega)
  have HROW := Aside0.mk hrows
  clear hrows
  refine (callsIn_wide (n := 5)).1 ?_
  refine callsIn_of_wp_marks Try.func11 rfl trivial ?_ rfl
  simp only [Try.ntmps11, List.size_toArray, List.length_cons, List.length_nil, Nat.reduceAdd, Nat.reduceSub, Array.replicate_succ, Array.replicate_zero, List.push_toArray, List.append_toArray, List.nil_append, List.cons_append]
  refine wpIn_wide.2 ?_
  go_wp2_with fail
  refine HRT.out.mono ?_
  rintro e w1 ⟨rfl, hb1⟩
  have hbx := (hb1.block w.heap.size (by simp)).trans (World.alloc_heap_new w _)
  have hcv := Go.Lib.run_convert_bytes_const (P := Try.prog) w1 28 5 #[.int .u8 83, .int .u8 68] 2 2 Try.underlying28 Try.underlying5
  have hcv' : (convert 28 28 (.slice (some ⟨w1.heap.size, 0, none⟩) 2 2)).run Try.prog (w1.alloc (.cells #[.int .u8 83, .int .u8 68] 5)) = .ok (.slice (some ⟨w1.heap.size, 0, none⟩) 2 2) (w1.alloc (.cells #[.int .u8 83, .int .u8 68] 5 (2, 3))) := hcv
  have hB1 : Below (w.heap.size + 1) (w.alloc (.cells #[.slice (some ad0) l0_0.length c0_0, .slice A0_1 l0_1.length c0_1] 25)) (w1.alloc (.cells #[.int .u8 83, .int .u8 68] 5 (2, 3))) := (hb1.mono (by simp)).alloc (by have := hb1.size; simp at this; omega) _
  have hx0 : (w1.alloc (.cells #[.int .u8 83, .int .u8 68] 5 (2, 3))).cell? ⟨w.heap.size, 0, none⟩ = some (.slice (some ad0) l0_0.length c0_0) := by
    rw [hB1.cell (p := ⟨w.heap.size, 0, none⟩) (by simp)]; exact (blk_cell (World.alloc_heap_new w _) 0).trans rfl
  have HB1 := Aside0.mk hB1
  have HBX := Aside0.mk hbx
  clear hb1 hcv hB1 hbx
  go_wp2_with fail
  refine (packed_Number.calls 12 (l0_0.length : Int) (numOf l0_0.length) _ (number_k _ (by have := Kd.C_max HR0.out; omega))).mono ?_
  rintro e w2 ⟨v18, rfl, ho, hb2⟩
  obtain ⟨A18, c18, rfl⟩ := Kd.R_slice ho
  have hnl := numGo_pos 9 (mx (l0_0.length : Int) 0)
  have hnp : 0 < (numOf l0_0.length).length := hnl
  have hn10 := numOf_len l0_0.length
  obtain ⟨ad18, e18, hnews⟩ := news_of_C (Kd.R_reads' ho).2.2 hnp
  subst e18
  have hmk := (hb2.block w1.heap.size (by simp)).trans (World.alloc_heap_new w1 _)
  have hB2 : Below (w.heap.size + 1) (w.alloc (.cells #[.slice (some ad0) l0_0.length c0_0, .slice A0_1 l0_1.length c0_1] 25)) w2 := HB1.out.trans (hb2.mono (by have := HB1.out.size; simp at this ⊢; omega))
  have hs2 : w.heap.size + 1 ≤ w2.heap.size := by have := hB2.size; simpa using this
  have hB2' := Aside0.mk hB2
  have HMK := Aside0.mk hmk
  have HNW := Aside0.mk hnews
  obtain ⟨i0, hi, hz0, hz1, hz2⟩ := info_parts info5
  have HI0 := Aside0.mk hi
  clear hb2 hB2 hmk hnews ho HB1 hx0 hcv'
  go_wp2_with (at_builtin; refine wpList_append_arg _ rfl _ _ 28 rfl 5 i0 (.int .u8 0) 1 1 Try.underlying28 hi hz0 hz1 hz2 rfl (by decide) w1.heap.size 0 2 2 [.int .u8 83, .int .u8 68] rfl rfl ?holds ad18 (numOf l0_0.length).length c18 (encs (Value.int .u8) (numOf l0_0.length)) rfl ?hn HNW.out ?h1c ?spare ?b1 ?b2 ?room ?grow; (case hn => simp [encs]); (case h1c => intro u hu; simp [encs] at hu; obtain ⟨x, _, rfl⟩ := hu; rfl); (case spare => intro q; exfalso; omega); (case b1 => unfold maxLen; omega); (case b2 => omega); (case room => intro q; exfalso; omega); (case holds => intro j u hj; have hjj := HMK.out; match j, hj with | 0, hj => (cases hj; simp [World.cell?, hjj]) | 1, hj => (cases hj; simp [World.cell?, hjj]) | j + 2, hj => simp at hj); intro _ v19 w3 hown3 hgrow3; obtain ⟨A19, c19, rfl⟩ := own_form hown3)
  have hnc := encs_append (Value.int .u8) [83, 68] (numOf l0_0.length)
  have hown3' : w3.ownsRow (w.heap.size + 1) 5 1 (.slice A19 (2 + (numOf l0_0.length).length) c19) ([83, 68] ++ numOf l0_0.length).length (encs (Value.int .u8) ([83, 68] ++ numOf l0_0.length)) := by
    rw [show ([83, 68] ++ numOf l0_0.length : List Int).length = 2 + (numOf l0_0.length).length from by simp; omega]
    rw [hnc]; exact own_lower hown3 hs2
  have hB3 := hB2'.out.grown hgrow3 (by omega) (fun _ e => by cases e)
  have hs3 := hB3.size
  have HO3 := Aside0.mk hown3'
  have HB3 := Aside0.mk hB3
  clear hown3 hown3' hnc hgrow3 hB3 HMK HNW
  have HX4 : Aside0 (Boxed (w3.alloc (.cells #[.slice A19 (2 + (numOf l0_0.length).length) c19] 28)).drew w3.heap.size 28 (.slice A19 (2 + (numOf l0_0.length).length) c19)) := ⟨Boxed.new w3 28 _⟩
  have HO4 := Aside0.mk (own_drew (HO3.out.alloc (.cells #[.slice A19 (2 + (numOf l0_0.length).length) c19] 28)))
  have HB4 := Aside0.mk (below_drew1 (HB3.out.alloc (Nat.le_trans (by simp) HB3.out.size) (.cells #[.slice A19 (2 + (numOf l0_0.length).length) c19] 28)))
  have HS4 : Aside0 (w.heap.size + 1 ≤ (w3.alloc (.cells #[.slice A19 (2 + (numOf l0_0.length).length) c19] 28)).drew.heap.size) := ⟨by have := HB3.out.size; simp at this ⊢; omega⟩
  refine wp_region_noPanic ?_
  refine start_ (n := 9) (S := fun w' => w'.cell? ⟨w3.heap.size, 0, none⟩ = some (.slice A19 (2 + (numOf l0_0.length).length) c19) ∧ w'.frozen? ⟨w3.heap.size, 0, none⟩ = false ∧ w'.cell? ⟨w.heap.size, 0, none⟩ = some (.slice (some ad0) l0_0.length c0_0) ∧ w'.cell? ad0 = some (.slice A1 (rd_L2 l0_0 0).length c1)) (ds := [8]) #[false, false, false, false, false, false, false, false, false] (by kernel_rfl) rfl rfl ⟨Boxed.cell HX4.out, Boxed.frozen HX4.out, (HB4.out.cell (p := ⟨w.heap.size, 0, none⟩) (Nat.lt_succ_self _)).trans HX0.out, (HB4.out.cell (p := ad0) HAL.out).trans HA0.out⟩ (fun hHeld => ?_); refine with_tabW save_tab4 save_bits4 (fun HT_ HW_ => ?_)
  refine take_ (i := 0) (N := some 20) (v := ?_) (a' := ?_) #[true, false, false, false, false, false, false, false, false] rfl rfl (take_ofW HT_.out HW_.out (by kernel_rfl)) (fun _ _ _ h => h) (Or.inl ⟨by rfl, ?_⟩) hHeld ?_ ?_
  rotate_left
  · rintro w' ⟨s0, s1, s2, s3⟩
    go_simp
    with_reducible rfl
  rotate_left
  · simp only [Act.put, List.setIfInBounds_toArray, List.set_cons_zero, List.set_cons_succ, i64_w, i32_w]
    rfl
  refine pure_ (i := 1) (N := some 21) (v := ?_) (a' := ?_) #[true, true, false, false, false, false, false, false, false] rfl rfl (any_of HT_.out (by kernel_rfl)) (fun _ _ _ h => h) (Or.inl ⟨by rfl, ?_⟩) ?_ ?_
  rotate_left
  · intro w'
    go_simp
    with_reducible rfl
  rotate_left
  · simp only [Act.put, List.setIfInBounds_toArray, List.set_cons_zero, List.set_cons_succ, i64_w, i32_w]
    rfl
  refine take_ (i := 2) (N := some 22) (v := ?_) (a' := ?_) #[true, true, true, false, false, false, false, false, false] rfl rfl (take_ofW HT_.out HW_.out (by kernel_rfl)) (fun _ _ _ h => h) (Or.inl ⟨by rfl, ?_⟩) hHeld ?_ ?_
  rotate_left
  · rintro w' ⟨s0, s1, s2, s3⟩
    go_simp
    with_reducible rfl
  rotate_left
  · simp only [Act.put, List.setIfInBounds_toArray, List.set_cons_zero, List.set_cons_succ, i64_w, i32_w]
    rfl
  refine pure_ (i := 3) (N := some 23) (v := ?_) (a' := ?_) #[true, true, true, true, false, false, false, false, false] rfl rfl (any_of HT_.out (by kernel_rfl)) (fun _ _ _ h => h) (Or.inl ⟨by rfl, ?_⟩) ?_ ?_
  rotate_left
  · intro w'
    go_simp
    with_reducible rfl
  rotate_left
  · simp only [Act.put, List.setIfInBounds_toArray, List.set_cons_zero, List.set_cons_succ, i64_w, i32_w]
    rfl
  refine take_ (i := 4) (N := some 24) (v := ?_) (a' := ?_) #[true, true, true, true, true, false, false, false, false] rfl rfl (take_ofW HT_.out HW_.out (by kernel_rfl)) (fun _ _ _ h => h) (Or.inl ⟨by rfl, ?_⟩) hHeld ?_ ?_
  rotate_left
  · rintro w' ⟨s0, s1, s2, s3⟩
    go_simp
    with_reducible rfl
  rotate_left
  · simp only [Act.put, List.setIfInBounds_toArray, List.set_cons_zero, List.set_cons_succ, i64_w, i32_w]
    rfl
  refine pure_ (i := 5) (N := some 25) (v := ?_) (a' := ?_) #[true, true, true, true, true, true, false, false, false] rfl rfl (any_of HT_.out (by kernel_rfl)) (fun _ _ _ h => h) (Or.inl ⟨by rfl, ?_⟩) ?_ ?_
  rotate_left
  · intro w'
    go_simp
    with_reducible rfl
  rotate_left
  · simp only [Act.put, List.setIfInBounds_toArray, List.set_cons_zero, List.set_cons_succ, i64_w, i32_w]
    rfl
  refine one_ (i := 6) (N := some 26) #[true, true, true, true, true, true, true, false, false] rfl rfl (one_of HT_.out (by kernel_rfl)) (by decide) (fun K hK => ?_)
  refine goes_ Try.func15 (by kernel_rfl) rfl #[.int .i64 (rd_L2 l0_0 0).length] (by rfl) rfl rfl (by first | rfl | (try simp only [List.map_toArray, List.map_cons, List.map_nil]; rfl)) ?_
  refine (packed_Number.calls 12 ((rd_L2 l0_0 0).length : Int) (numOf (rd_L2 l0_0 0).length) _ (number_k _ (by have := HM.out; omega))).mono ?_
  rintro e w5 ⟨v26, rfl, ho26, hb5⟩
  obtain ⟨A26, c26, rfl⟩ := Kd.R_slice ho26
  refine ⟨_, rfl, ?_⟩
  obtain ⟨ad26, e26, hnews26⟩ := news_of_C (Kd.R_reads' ho26).2.2 (numGo_pos 9 _)
  subst e26
  have HN26 := Aside0.mk hnews26
  have HO5 := Aside0.mk (pw_own_below HO4.out hb5)
  have HB5 := Aside0.mk (HB4.out.trans (hb5.mono HS4.out))
  have HX5 := Aside0.mk ((hb5.block _ (Boxed.lt HX4.out)).trans HX4.out)
  have HS5 := Aside0.mk (Nat.le_trans HS4.out hb5.size)
  clear ho26 hb5 hnews26
  refine hK.out _ _ ⟨Boxed.cell HX5.out, Boxed.frozen HX5.out, (HB5.out.cell (p := ⟨w.heap.size, 0, none⟩) (Nat.lt_succ_self _)).trans HX0.out, (HB5.out.cell (p := ad0) HAL.out).trans HA0.out⟩ (fun hHeld => ?_)
  clear hK K
  refine norm_ (a' := ?_) ?_ ?_
  rotate_left
  · show Act.put _ (some 26) _ = _
    simp only [Act.put, List.setIfInBounds_toArray, List.set_cons_zero, List.set_cons_succ, i64_w, i32_w]
    rfl
  refine one_ (i := 7) (N := some 27) #[true, true, true, true, true, true, true, true, false] rfl rfl (one_of HT_.out (by kernel_rfl)) (by decide) (fun K hK => ?_)
  refine app_step (by rfl) (.tmp 20) (.tmp 26) 28 rfl (w.heap.size + 1) 5 i0 (.int .u8 0) 1 1 Try.underlying28 hi hz0 hz1 hz2 rfl (by decide) _ _ _ rfl HO5.out ad26 _ c26 _ rfl (by simp [encs]) HN26.out (by intro u hu; simp [encs] at hu; obtain ⟨x, _, rfl⟩ := hu; rfl) (by have := numOf_len (rd_L2 l0_0 0).length; unfold maxLen; simp; omega) (by have := numOf_len (rd_L2 l0_0 0).length; simp; omega) HS5.out ?_
  intro v27 w6 hown6 hgrow6
  obtain ⟨A27, c27, rfl⟩ := own_form hown6
  have HO6 := Aside0.mk hown6
  have HB6 := Aside0.mk (HB5.out.grown hgrow6 HS5.out (own_base HO5.out))
  have HX6 := Aside0.mk (Boxed.kept HX5.out hgrow6 (Boxed.not_row HX5.out (by decide) HO5.out))
  have HS6 := Aside0.mk (Nat.le_trans HS5.out hgrow6.size)
  clear hown6 hgrow6
  refine hK.out _ _ ⟨Boxed.cell HX6.out, Boxed.frozen HX6.out, (HB6.out.cell (p := ⟨w.heap.size, 0, none⟩) (Nat.lt_succ_self _)).trans HX0.out, (HB6.out.cell (p := ad0) HAL.out).trans HA0.out⟩ (fun hHeld => ?_)
  clear hK K
  refine norm_ (a' := ?_) ?_ ?_
  rotate_left
  · show Act.put _ (some 27) _ = _
    simp only [Act.put, List.setIfInBounds_toArray, List.set_cons_zero, List.set_cons_succ, i64_w, i32_w]
    rfl
  refine last_ (i := 8) (N := none) #[true, true, true, true, true, true, true, true, true] rfl rfl (one_of HT_.out (by kernel_rfl)) (by decide) (fun K hK => ?_)
  refine step_list rfl (by rfl) ?_
  have hc6 := Boxed.cell HX6.out
  have hf6 := Boxed.frozen HX6.out
  unfold Oper.wp
  go_simp
  refine hK.out _ _ ?_
  clear hK K
  refine done_ (done_of HT_.out (by kernel_rfl)) ?_
  have hs6 := HX6.out.lt
  have hcB : w.heap.size + 1 ≤ w3.heap.size := by have := HB3.out.size; simpa using this
  obtain ⟨v27, hv27⟩ : ∃ v : Value, .slice A27 ((numOf l0_0.length).length + 1 + 1 + (numOf (rd_L2 l0_0 0).length).length) c27 = v := ⟨_, rfl⟩
  have HV27 := Aside0.mk hv27
  have hO7 := HO6.out.kept (grownBy_setCell' w6 w3.heap.size (.slice A27 ((numOf l0_0.length).length + 1 + 1 + (numOf (rd_L2 l0_0 0).length).length) c27)) (.inr (HX6.out.not_row (by decide) HO6.out).symm)
  have hX7 := Boxed.set (.slice A27 ((numOf l0_0.length).length + 1 + 1 + (numOf (rd_L2 l0_0 0).length).length) c27) HX6.out
  have hB7 := HB6.out.setCell (p := ⟨w3.heap.size, 0, none⟩) hcB (.slice A27 ((numOf l0_0.length).length + 1 + 1 + (numOf (rd_L2 l0_0 0).length).length) c27)
  have e7 : (Value.slice A27 (([83, 68] ++ numOf l0_0.length).length + (numOf (rd_L2 l0_0 0).length).length) c27) = v27 := by rw [← hv27]; congr 1
  rw [hv27] at hO7 hX7 hB7 ⊢
  rw [e7, ← encs_append] at hO7
  generalize w6.setCell ⟨w3.heap.size, 0, none⟩ v27 = w7 at *
  have hO8 : w7.ownsRow (w.heap.size + 1) 5 1 v27 ([83, 68] ++ numOf l0_0.length ++ numOf (rd_L2 l0_0 0).length).length (encs (Value.int .u8) ([83, 68] ++ numOf l0_0.length ++ numOf (rd_L2 l0_0 0).length)) := by
    rw [List.length_append]; exact hO7
  have HO7 := Aside0.mk hO8
  have HX7 := Aside0.mk hX7
  have HB7 := Aside0.mk hB7
  obtain ⟨cB, hcB'⟩ : ∃ c, w3.heap.size = c := ⟨_, rfl⟩
  have HCB := Aside0.mk hcB
  rw [hcB'] at HX7 HCB ⊢
  have hx0 := (HB7.out.cell (p := ⟨w.heap.size, 0, none⟩) (Nat.lt_succ_self _)).trans HX0.out
  try clear hO8
  try clear hO7
  try clear hX7
  try clear hB7
  try clear e7
  try clear HX6
  try clear HO6
  try clear HB6
  try clear HS6
  try clear HX5
  try clear HO5
  try clear HB5
  try clear HS5
  try clear HX4
  try clear HO4
  try clear HB4
  try clear HS4
  try clear HO3
  try clear HB3
  try clear HN26
  try clear hHeld
  try clear HT_
  try clear HW_
  try clear hB2'
  try clear HRT
  try clear hcB
  try clear hcB'
  try clear hnp
  try clear hnl
  try clear hn10
  try clear hs2
  try clear hs3
  try clear hs6
  try clear HV27
  try clear hv27
  refine NoPanic.normal ?_
  go_wp2_with fail
  refine wp_loop_ghost_k (fun gk a' wr => ∃ (i : Nat) (ds : List Nat) (v : Value) (u0 u5 u6 u7 u8 u9 u10 u11 u12 u13 u14 u15 u16 u17 u18 u19 u20 u21 u22 u23 u24 u25 u26 u27 u28 u32 u33 u34 u35 u36 u37 u38 u39 u40 u41 u42 u43 u44 u45 u46 u47 u48 u49 u50 u51 u52 u53 u54 u55 u56 u57 : Value), i ≤ l0_0.length ∧ l0_0.length - i < gk ∧ a' = { tmps := #[u0, .pointer (some ⟨w.heap.size, 0, none⟩), .slice none 0 0, .int .i64 0, .pointer (some ⟨cB, 0, none⟩), u5, u6, u7, u8, u9, u10, u11, u12, u13, u14, u15, u16, u17, u18, u19, u20, u21, u22, u23, u24, u25, u26, u27, u28, .slice (some ad0) l0_0.length c0_0, .int .i64 l0_0.length, .int .i64 i, u32, u33, u34, u35, u36, u37, u38, u39, u40, u41, u42, u43, u44, u45, u46, u47, u48, u49, u50, u51, u52, u53, u54, u55, u56, u57], defers := ds.map markOf } ∧ Aside0 (Boxed wr cB 28 v) ∧ Aside0 (wr.ownsRow (w.heap.size + 1) 5 1 v (headOf l0_0 ++ rowsUp l0_0 l0_1 i).length (encs (Value.int .u8) (headOf l0_0 ++ rowsUp l0_0 l0_1 i))) ∧ Aside0 (Below (w.heap.size + 1) (w.alloc (.cells #[.slice (some ad0) l0_0.length c0_0, .slice A0_1 l0_1.length c0_1] 25)) wr) ∧ Aside0 (Marks wr ds) ∧ Aside0 (∀ D ∈ ds, w.heap.size + 1 ≤ D)) (l0_0.length + 1) ⟨0, [], v27, _, _, _, _, _, _, _, _, _, _, _, _, _, _, _, _, _, _, _, _, _, _, _, _, _, _, _, _, _, _, _, _, _, _, _, _, _, _, _, _, _, _, _, _, _, _, _, _, _, _, _, by omega, by omega, rfl, HX7, ⟨by have := HO7.out; simpa [headOf, rowsUp] using this⟩, HB7, ⟨Marks.nil _⟩, ⟨by simp⟩⟩ ?_
  clear HX7 HO7 HB7 hx0
  intro gk a' wr hinv J K' hJ hK'
  obtain ⟨i, ds, v, u0, u5, u6, u7, u8, u9, u10, u11, u12, u13, u14, u15, u16, u17, u18, u19, u20, u21, u22, u23, u24, u25, u26, u27, u28, u32, u33, u34, u35, u36, u37, u38, u39, u40, u41, u42, u43, u44, u45, u46, u47, u48, u49, u50, u51, u52, u53, u54, u55, u56, u57, hi, hgk, rfl, HX, HO, HB, HMK, HDS⟩ := hinv
  by_cases hlt : i < l0_0.length
  · have hltz : (i : Int) < (l0_0.length : Int) := by omega
    obtain ⟨ad9, A9, c9, e9, hx9', hl9, hr9⟩ := at_L2 (Kd.C_alloc HR0.out (.cells #[.slice (some ad0) l0_0.length c0_0, .slice A0_1 l0_1.length c0_1] 25)) (i : Int) (by omega) hltz
    obtain rfl : ad0 = ad9 := by injection e9
    rw [Int.toNat_natCast] at hx9'
    have hx9 := (HB.out.cell (by have := cell_lt hx9'; simpa using this)).trans hx9'
    clear hx9'
    have hbx0 := (HB.out.cell (p := ⟨w.heap.size, 0, none⟩) (Nat.lt_succ_self _)).trans HX0.out
    have HR9 := Aside0.mk hr9
    clear hr9
    have hbx1 := (HB.out.cell (p := ⟨w.heap.size, 1, none⟩) (Nat.lt_succ_self _)).trans HX01.out
    obtain ⟨adb, eb, hxb⟩ := at_bool_ (Kd.C_below (Kd.C_alloc HR1.out (.cells #[.slice (some ad0) l0_0.length c0_0, .slice A0_1 l0_1.length c0_1] 25)) (by simpa using HB.out)) i (by have := HLE1.out; omega)
    subst eb
    have hltb : (i : Int) < (l0_1.length : Int) := by have := HLE1.out; omega
    have hxl : (headOf l0_0 ++ rowsUp l0_0 l0_1 i).length ≤ 22 + i * 4001 := HLEN.out i (by omega)
    have hi5 : i ≤ 5000 := by have := HN5.out; omega
    have hcx := Boxed.cell HX.out
    have hfx := Boxed.frozen HX.out
    have HZ := Aside0.mk (show w.heap.size + 1 ≤ wr.heap.size by have := HB.out.size; simpa using this)
    cases hfin : l0_1.getD i false with
    | false =>
      rw [hfin] at hxb
      clear hg
      go_wp2_with (first | (go_at_call 22; refine (runs_call _ _ _ _).mono ?_; rintro e w9 ⟨rfl, rfl⟩) | (at_builtin; refine wpList_append_own _ rfl _ _ 28 rfl (w.heap.size + 1) 5 i0 (.int .u8 0) 1 1 Try.underlying28 HI0.out hz0 hz1 hz2 rfl (by decide) v _ _ rfl (HO.out.alloc _) ⟨wr.heap.size, 0, none⟩ 1 1 [.int .u8 0] rfl rfl ?c1 ?c2 ?c3 ?c4 ?c5 ?_; (case c1 => exact cell_one_new wr (.int .u8 0) 5); (case c2 => simp [Value.oneCell']); (case c3 => unfold maxLen; omega); (case c4 => omega); (case c5 => have := HZ.out; simp; omega); intro v' w8 hown8 hgrow8 _; obtain ⟨A8, c8, rfl⟩ := own_form hown8; obtain ⟨hv1, hv2, hr2, hk2, hb2⟩ := HX.out.appended (by decide) HO.out HZ.out HCB.out hown8 hgrow8; have hc1 := hv1.cell; have hf1 := hv1.frozen))
      clear hown8 hgrow8 hv1 hc1 hf1 e9 hbx1 hbx0 hxb hltb
      obtain ⟨v8, hv8⟩ : ∃ v : Value, .slice A8 ((headOf l0_0).length + (rowsUp l0_0 l0_1 i).length + 1) c8 = v := ⟨_, rfl⟩
      have hr8 : (w8.setCell { block := cB, off := 0 } (Value.slice A8 ((headOf l0_0).length + (rowsUp l0_0 l0_1 i).length + 1) c8)).ownsRow (w.heap.size + 1) 5 1 (Value.slice A8 ((headOf l0_0).length + (rowsUp l0_0 l0_1 i).length + 1) c8) (headOf l0_0 ++ rowsUp l0_0 l0_1 i ++ [0]).length (encs (Value.int .u8) (headOf l0_0 ++ rowsUp l0_0 l0_1 i ++ [0])) := by
        simpa [encs, Nat.add_assoc] using hr2
      clear hr2
      rw [List.length_append] at hv2 hk2 hb2
      rw [hv8] at hv2 hr8 hk2 hb2 ⊢
      obtain ⟨W8, hW8⟩ : ∃ W, w8.setCell { block := cB, off := 0 } v8 = W := ⟨_, rfl⟩
      have hs8 : w8.heap.size = W8.heap.size := by rw [← hW8]; simp
      rw [hW8] at hv2 hr8 hk2 hb2
      rw [hs8, hW8]
      clear hW8 hs8 hv8
      obtain ⟨X8, hX8⟩ : ∃ X, headOf l0_0 ++ rowsUp l0_0 l0_1 i ++ [0] = X := ⟨_, rfl⟩
      have hx8l : X8.length ≤ 23 + i * 4001 := by rw [← hX8]; simp at hxl ⊢; omega
      rw [hX8] at hr8
      have HEX := Aside0.mk (show X8 ++ flatN (runsOf (rd_L2 l0_0 i)) = headOf l0_0 ++ rowsUp l0_0 l0_1 (i + 1) by rw [← hX8, rowsUp_succ, hfin, flatN_of (runs_fit (row_fit hgB.out i hlt) (by have := HROW.out i hlt; omega))]; simp [rowBytes])
      clear hX8
      obtain ⟨w00, hw00⟩ : ∃ W, w.alloc (.cells #[.slice (some ad0) l0_0.length c0_0, .slice (some adb) l0_1.length c0_1] 25) = W := ⟨_, rfl⟩
      have hs00 : w00.heap.size = w.heap.size + 1 := by rw [← hw00]; simp
      have hR00 := HR9.out
      have hB00 := HB.out
      rw [hw00] at hR00 hB00
      have hs8 : w.heap.size + 1 ≤ W8.heap.size := Nat.le_trans HZ.out hb2.size
      have hB8 := hB00.trans hb2
      obtain ⟨W9, hW9⟩ : ∃ W, W8.alloc (.cells #[.slice A9 (rd_L2 l0_0 i).length c9] 43) = W := ⟨_, rfl⟩
      have hs9 : W9.heap.size = W8.heap.size + 1 := by rw [← hW9]; simp
      have hB9 : Below (w.heap.size + 1) w00 W9 := by rw [← hW9]; exact hB8.alloc hs8 _
      have hcell9 : W9.cell? ⟨W8.heap.size, 0, none⟩ = some (.slice A9 (rd_L2 l0_0 i).length c9) := by rw [← hW9]; exact (blk_cell (World.alloc_heap_new W8 _) 0).trans rfl
      have hk9 : KeepsOthers wr W9 := by rw [← hW9]; exact hk2.trans (KeepsOthers.alloc _ _)
      have hv9 : Boxed W9 cB 28 v8 := by rw [← hW9]; exact hv2.alloc _
      have hr9 : W9.ownsRow (w.heap.size + 1) 5 1 v8 X8.length (encs (Value.int .u8) X8) := by rw [← hW9]; exact hr8.alloc _
      have hM9 := HMK.out.keeps hk9
      have hN9 : Boxed W9 W8.heap.size 43 (.slice A9 (rd_L2 l0_0 i).length c9) := by rw [← hW9]; exact Boxed.new W8 43 _
      rw [hW9]
      clear hW9 hv2 hr8 hk2 hb2
      have hrl : (rd_L2 l0_0 i).length ≤ 200 := HROW.out i hlt
      have hB9' : Below w00.heap.size w00 W9 := by rw [hs00]; exact hB9
      have hstops := runs_stops 4 (by omega) W8.heap.size A9 c9 (rd_L2 l0_0 i) (by omega) (row_fit hgB.out i hlt) w00 W9 hB9' hR00 hcell9 (by omega)
      refine (wpIn_wide (n := 5)).1 ?_
      refine wpIn_rangeFunc_ownH rfl (by omega) (gf := 32) (lb := #[.pointer (some ⟨W8.heap.size, 0, none⟩)]) rfl trivial (enters_of Try.func32 (by kernel_rfl) rfl)
        hstops kpR_t (kpR_b (by omega) (by omega)) (Below.refl _ _) (fun _ => rfl)
        (fun pre W => (∃ z, Boxed W cB 28 z ∧ W.ownsRow (w.heap.size + 1) 5 1 z (X8 ++ flatN pre).length (encs (Value.int .u8) (X8 ++ flatN pre)) ∧ True) ∧ Below (w.heap.size + 1) w00 W ∧ Marks W ds ∧ Boxed W W8.heap.size 43 (.slice A9 (rd_L2 l0_0 i).length c9))
        (fun _ _ _ => False)
        (OwnFrom.and (Own.from (holdsRow_own (w.heap.size + 1) cB 28 5 1 (fun pre => (X8 ++ flatN pre).length) (fun pre => encs (Value.int .u8) (X8 ++ flatN pre)) (fun _ _ => True)) _) (OwnFrom.and (ownFrom_below (by omega) (by omega)) (OwnFrom.and (marks_own hM9.lt) (Own.from (boxed_own _ _ _) _))))
        (fun _ _ _ _ _ hs _ _ => hs)
        ⟨⟨_, hv9, by simpa [flatN] using hr9, trivial⟩, hB9, hM9, hN9⟩
        (fun x a' W => a' = { tmps := #[u0, .pointer (some ⟨w.heap.size, 0, none⟩), .slice none 0 0, .int .i64 0, .pointer (some ⟨cB, 0, none⟩), .int .i64 i, .slice A9 (rd_L2 l0_0 i).length c9, .int .u8 0, .int .i64 (cl x.1), .int .i64 (cl x.2), u10, u11, u12, u13, u14, u15, u16, u17, u18, u19, u20, u21, u22, u23, u24, u25, u26, u27, u28, .slice (some ad0) l0_0.length c0_0, .int .i64 l0_0.length, .int .i64 i, .bool true, .int .i64 i, .pointer (some (ad0.add i)), .slice A9 (rd_L2 l0_0 i).length c9, .pointer (some ⟨w.heap.size, 1, none⟩), .slice (some adb) l0_1.length c0_1, .int .i64 i, .pointer (some (adb.add i)), .bool false, v, .int .u8 0, .slice (some ⟨wr.heap.size, 0, none⟩) 1 1, v8, .slice A9 (rd_L2 l0_0 i).length c9, .func (.func 32) #[] #[.pointer (some ⟨W8.heap.size, 0, none⟩)], .int .i64 (cl x.1), .int .i64 (cl x.2), u49, u50, u51, u52, u53, u54, u55, u56, u57], defers := [] })
        (fun x a' _ X Y row hs hg hr => hs)
        ?assign ?body ?done ?stop
      case assign =>
        clear hstops hv9 hr9
        rintro l pre x W K ⟨⟨z, hz, hzr, _⟩, hB1, hM1, hN1⟩ hK
        dsimp only
        gi_wp2
        exact hK _ _ (KeepsFrom.refl _ _) ⟨Below.refl _ _, rfl⟩ ⟨⟨z, hz, hzr, trivial⟩, hB1, hM1, hN1⟩ rfl
      case body =>
        clear hstops hv9 hr9
        rintro l pre x a' W hl ⟨r, hr⟩ ⟨⟨v2, hz, hzr, _⟩, hB1, hM1, hN1⟩ rfl hlt2
        have hsz := hB1.size
        have HLW := Aside0.mk (flatN_le hx8l hrl hi5 hlt2)
        have YX20 := Aside0.mk (show Boxed W.drew cB 28 v2 from hz)
        have YN20 := Aside0.mk (show Boxed W.drew W8.heap.size 43 (.slice A9 (rd_L2 l0_0 i).length c9) from hN1)
        have YO20 := Aside0.mk (own_drew hzr)
        have YB20 := Aside0.mk (Below.refl (w.heap.size + 1) W).drew
        have YS20 : Aside0 (w.heap.size + 1 ≤ W.drew.heap.size) := ⟨by simp; omega⟩
        have YK20 := Aside0.mk (KeepsOthers.drew W)
        have HB1 := Aside0.mk hB1
        clear hz hzr hB1
        refine wpIn_block ?_
        refine startIn_ (n := 8) (by simp) (fun _ _ h => h) (S := fun w' => w'.cell? ⟨cB, 0, none⟩ = some v2 ∧ w'.frozen? ⟨cB, 0, none⟩ = false) (ds := [7]) #[false, false, false, false, false, false, false, false] (by kernel_rfl) rfl rfl ⟨Boxed.cell YX20.out, Boxed.frozen YX20.out⟩ (fun hHeld => ?_); refine with_tabW save_tab15 save_bits15 (fun HT_ HW_ => ?_)
        refine take_ (i := 0) (N := some 49) (v := ?_) (a' := ?_) #[true, false, false, false, false, false, false, false] rfl rfl (take_ofW HT_.out HW_.out (by kernel_rfl)) (fun _ _ _ h => h) (Or.inl ⟨by rfl, ?_⟩) hHeld ?_ ?_
        rotate_left
        · rintro w' ⟨s0, s1⟩
          go_simp
          with_reducible rfl
        rotate_left
        · simp only [Act.put, List.setIfInBounds_toArray, List.set_cons_zero, List.set_cons_succ, i64_w, i32_w]
          rfl
        refine pure_ (i := 1) (N := some 50) (v := ?_) (a' := ?_) #[true, true, false, false, false, false, false, false] rfl rfl (any_of HT_.out (by kernel_rfl)) (fun _ _ _ h => h) (Or.inl ⟨by rfl, ?_⟩) ?_ ?_
        rotate_left
        · intro w'
          go_simp
          with_reducible rfl
        rotate_left
        · simp only [Act.put, List.setIfInBounds_toArray, List.set_cons_zero, List.set_cons_succ, i64_w, i32_w]
          rfl
        refine pure_ (i := 4) (N := some 53) (v := ?_) (a' := ?_) #[true, true, false, false, true, false, false, false] rfl rfl (any_of HT_.out (by kernel_rfl)) (fun _ _ _ h => h) (Or.inl ⟨by rfl, ?_⟩) ?_ ?_
        rotate_left
        · intro w'
          go_simp
          with_reducible rfl
        rotate_left
        · simp only [Act.put, List.setIfInBounds_toArray, List.set_cons_zero, List.set_cons_succ, i64_w, i32_w]
          rfl
        refine one_ (i := 2) (N := some 51) #[true, true, true, false, true, false, false, false] rfl rfl (one_of HT_.out (by kernel_rfl)) (by decide) (fun K hK => ?_)
        refine goes_ Try.func15 (by kernel_rfl) rfl #[.int .i64 (cl x.1)] (by rfl) rfl rfl (by first | rfl | (try simp only [List.map_toArray, List.map_cons, List.map_nil]; rfl)) ?_
        refine (packed_Number.calls 12 (cl x.1) (numOf (cl x.1)) _ (number_k _ (cl_lt _))).mono ?_
        rintro e W21 ⟨vn21, rfl, hn21, hb21⟩
        obtain ⟨An21, cn21, rfl⟩ := Kd.R_slice hn21
        refine ⟨_, rfl, ?_⟩
        obtain ⟨adn21, en21, hnw21⟩ := news_of_C (Kd.R_reads' hn21).2.2 (numGo_pos 9 _)
        subst en21
        have NW21 := Aside0.mk hnw21
        have YO21 := Aside0.mk (pw_own_below YO20.out hb21)
        have YB21 := Aside0.mk (YB20.out.trans (hb21.mono YS20.out))
        have YX21 := Aside0.mk ((hb21.block _ (Boxed.lt YX20.out)).trans YX20.out)
        have YS21 := Aside0.mk (Nat.le_trans YS20.out hb21.size)
        have YK21 := Aside0.mk (YK20.out.trans (keepsOthers_below hb21))
        have YN21 := Aside0.mk ((hb21.block _ (Boxed.lt YN20.out)).trans YN20.out)
        clear hn21 hb21 hnw21
        refine hK.out _ _ ⟨Boxed.cell YX21.out, Boxed.frozen YX21.out⟩ (fun hHeld => ?_)
        clear hK K
        refine norm_ (a' := ?_) ?_ ?_
        rotate_left
        · show Act.put _ (some 51) _ = _
          simp only [Act.put, List.setIfInBounds_toArray, List.set_cons_zero, List.set_cons_succ, i64_w, i32_w]
          rfl
        refine one_ (i := 3) (N := some 52) #[true, true, true, true, true, false, false, false] rfl rfl (one_of HT_.out (by kernel_rfl)) (by decide) (fun K hK => ?_)
        refine app_step (by rfl) (.tmp 49) (.tmp 51) 28 rfl (w.heap.size + 1) 5 i0 (.int .u8 0) 1 1 Try.underlying28 HI0.out hz0 hz1 hz2 rfl (by decide) _ _ _ rfl YO21.out adn21 _ cn21 _ rfl (by simp [encs]) NW21.out (by intro u hu; simp [encs] at hu; obtain ⟨x, _, rfl⟩ := hu; rfl) (by have h1 := numOf_len (cl x.1); have h2 := numOf_len (cl x.2); have h3 := HLW.out; unfold maxLen; omega) (by have h1 := numOf_len (cl x.1); have h2 := numOf_len (cl x.2); have h3 := HLW.out; omega) YS21.out ?_
        intro va22 W22 hown22 hgrow22
        have YO22 := Aside0.mk hown22
        have YB22 := Aside0.mk (YB21.out.grown hgrow22 YS21.out (own_base YO21.out))
        have YX22 := Aside0.mk (Boxed.kept YX21.out hgrow22 (Boxed.not_row YX21.out (by decide) YO21.out))
        have YS22 := Aside0.mk (Nat.le_trans YS21.out hgrow22.size)
        have YK22 := Aside0.mk (YK21.out.trans (own_keeps YO21.out hgrow22))
        have YN22 := Aside0.mk (Boxed.kept YN21.out hgrow22 (Boxed.not_row YN21.out (by decide) YO21.out))
        clear hown22 hgrow22
        refine hK.out _ _ ⟨Boxed.cell YX22.out, Boxed.frozen YX22.out⟩ (fun hHeld => ?_)
        clear hK K
        refine norm_ (a' := ?_) ?_ ?_
        rotate_left
        · show Act.put _ (some 52) _ = _
          simp only [Act.put, List.setIfInBounds_toArray, List.set_cons_zero, List.set_cons_succ, i64_w, i32_w]
          rfl
        refine one_ (i := 5) (N := some 54) #[true, true, true, true, true, true, false, false] rfl rfl (one_of HT_.out (by kernel_rfl)) (by decide) (fun K hK => ?_)
        refine goes_ Try.func15 (by kernel_rfl) rfl #[.int .i64 (cl x.2)] (by rfl) rfl rfl (by first | rfl | (try simp only [List.map_toArray, List.map_cons, List.map_nil]; rfl)) ?_
        refine (packed_Number.calls 12 (cl x.2) (numOf (cl x.2)) _ (number_k _ (cl_lt _))).mono ?_
        rintro e W23 ⟨vn23, rfl, hn23, hb23⟩
        obtain ⟨An23, cn23, rfl⟩ := Kd.R_slice hn23
        refine ⟨_, rfl, ?_⟩
        obtain ⟨adn23, en23, hnw23⟩ := news_of_C (Kd.R_reads' hn23).2.2 (numGo_pos 9 _)
        subst en23
        have NW23 := Aside0.mk hnw23
        have YO23 := Aside0.mk (pw_own_below YO22.out hb23)
        have YB23 := Aside0.mk (YB22.out.trans (hb23.mono YS22.out))
        have YX23 := Aside0.mk ((hb23.block _ (Boxed.lt YX22.out)).trans YX22.out)
        have YS23 := Aside0.mk (Nat.le_trans YS22.out hb23.size)
        have YK23 := Aside0.mk (YK22.out.trans (keepsOthers_below hb23))
        have YN23 := Aside0.mk ((hb23.block _ (Boxed.lt YN22.out)).trans YN22.out)
        clear hn23 hb23 hnw23
        refine hK.out _ _ ⟨Boxed.cell YX23.out, Boxed.frozen YX23.out⟩ (fun hHeld => ?_)
        clear hK K
        refine norm_ (a' := ?_) ?_ ?_
        rotate_left
        · show Act.put _ (some 54) _ = _
          simp only [Act.put, List.setIfInBounds_toArray, List.set_cons_zero, List.set_cons_succ, i64_w, i32_w]
          rfl
        refine one_ (i := 6) (N := some 55) #[true, true, true, true, true, true, true, false] rfl rfl (one_of HT_.out (by kernel_rfl)) (by decide) (fun K hK => ?_)
        refine app_step (by rfl) (.tmp 52) (.tmp 54) 28 rfl (w.heap.size + 1) 5 i0 (.int .u8 0) 1 1 Try.underlying28 HI0.out hz0 hz1 hz2 rfl (by decide) _ _ _ rfl YO23.out adn23 _ cn23 _ rfl (by simp [encs]) NW23.out (by intro u hu; simp [encs] at hu; obtain ⟨x, _, rfl⟩ := hu; rfl) (by have h1 := numOf_len (cl x.1); have h2 := numOf_len (cl x.2); have h3 := HLW.out; unfold maxLen; omega) (by have h1 := numOf_len (cl x.1); have h2 := numOf_len (cl x.2); have h3 := HLW.out; omega) YS23.out ?_
        intro va24 W24 hown24 hgrow24
        rw [List.length_append] at hown24
        obtain ⟨Aa24, ca24, rfl⟩ := own_form hown24
        have YO24 := Aside0.mk hown24
        have YB24 := Aside0.mk (YB23.out.grown hgrow24 YS23.out (own_base YO23.out))
        have YX24 := Aside0.mk (Boxed.kept YX23.out hgrow24 (Boxed.not_row YX23.out (by decide) YO23.out))
        have YS24 := Aside0.mk (Nat.le_trans YS23.out hgrow24.size)
        have YK24 := Aside0.mk (YK23.out.trans (own_keeps YO23.out hgrow24))
        have YN24 := Aside0.mk (Boxed.kept YN23.out hgrow24 (Boxed.not_row YN23.out (by decide) YO23.out))
        clear hown24 hgrow24
        refine hK.out _ _ ⟨Boxed.cell YX24.out, Boxed.frozen YX24.out⟩ (fun hHeld => ?_)
        clear hK K
        refine norm_ (a' := ?_) ?_ ?_
        rotate_left
        · show Act.put _ (some 55) _ = _
          simp only [Act.put, List.setIfInBounds_toArray, List.set_cons_zero, List.set_cons_succ, i64_w, i32_w]
          rfl
        refine last_ (i := 7) (N := none) #[true, true, true, true, true, true, true, true] rfl rfl (one_of HT_.out (by kernel_rfl)) (by decide) (fun K hK => ?_)
        refine step_list rfl (by rfl) ?_
        have hc6 := Boxed.cell YX24.out
        have hf6 := Boxed.frozen YX24.out
        unfold Oper.wp
        go_simp
        refine hK.out _ _ ?_
        clear hK K
        refine done_ (done_of HT_.out (by kernel_rfl)) ?_
        have hO := YO24.out.kept (grownBy_setCell' W24 cB (.slice Aa24 (X8.length + (flatN pre).length + (numOf (cl x.1)).length + (numOf (cl x.2)).length) ca24)) (.inr (YX24.out.not_row (by decide) YO24.out).symm)
        have hN := boxed_other YN24.out YX24.out (by decide) (.slice Aa24 (X8.length + (flatN pre).length + (numOf (cl x.1)).length + (numOf (cl x.2)).length) ca24)
        refine ⟨(YK24.out.trans (KeepsOthers.setCell _ _ _)).from _, ⟨by rw [hs00]; exact YB24.out.setCell (p := ⟨cB, 0, none⟩) HCB.out (.slice Aa24 (X8.length + (flatN pre).length + (numOf (cl x.1)).length + (numOf (cl x.2)).length) ca24), hN.cell.trans hN1.cell.symm⟩, ⟨_, Boxed.set (.slice Aa24 (X8.length + (flatN pre).length + (numOf (cl x.1)).length + (numOf (cl x.2)).length) ca24) YX24.out, ?_, trivial⟩, HB1.out.trans (YB24.out.setCell (p := ⟨cB, 0, none⟩) HCB.out (.slice Aa24 (X8.length + (flatN pre).length + (numOf (cl x.1)).length + (numOf (cl x.2)).length) ca24)), hM1.keeps (YK24.out.trans (KeepsOthers.setCell _ _ _)), hN⟩
        simpa [flatN_snoc, encs, Nat.add_assoc] using hO
      case done =>
        clear hstops hv9 hr9
        rintro D ys W hD rfl ⟨⟨z, hz, hzr, _⟩, hB1, hM1, _⟩ hK
        have HZ1 := Aside0.mk hz
        have HZ2 := Aside0.mk hzr
        have HZ3 := Aside0.mk hB1
        have HZ4 := Aside0.mk hM1
        clear hz hzr hB1 hM1
        go_wp2_with fail
        have e1 : ((i : Int) + 1) = ((i + 1 : Nat) : Int) := by omega
        rw [e1]
        refine Handed.intro (gk - 1) (by omega) (hJ _ _ _ ⟨i + 1, D :: ds, z, _, _, _, _, _, _, _, _, _, _, _, _, _, _, _, _, _, _, _, _, _, _, _, _, _, _, _, _, _, _, _, _, _, _, _, _, _, _, _, _, _, _, _, _, _, _, _, _, _, _, _, by omega, by omega, rfl, HZ1, ⟨?_⟩, ⟨by rw [hw00]; exact HZ3.out⟩, ⟨HZ4.out.cons hK (fun hm => ?_)⟩, ⟨fun E hE => ?_⟩⟩)
        · rw [← HEX.out]; exact HZ2.out
        · have := hM9.lt D hm; omega
        · rcases List.mem_cons.1 hE with rfl | hE
          · omega
          · exact HDS.out E hE
      case stop =>
        rintro D c pre W _ _ h _
        exact h.elim
    | true =>
      rw [hfin] at hxb
      clear hg
      go_wp2_with (first | (go_at_call 22; refine (runs_call _ _ _ _).mono ?_; rintro e w9 ⟨rfl, rfl⟩) | (at_builtin; refine wpList_append_own _ rfl _ _ 28 rfl (w.heap.size + 1) 5 i0 (.int .u8 0) 1 1 Try.underlying28 HI0.out hz0 hz1 hz2 rfl (by decide) v _ _ rfl (HO.out.alloc _) ⟨wr.heap.size, 0, none⟩ 1 1 [.int .u8 1] rfl rfl ?c1 ?c2 ?c3 ?c4 ?c5 ?_; (case c1 => exact cell_one_new wr (.int .u8 1) 5); (case c2 => simp [Value.oneCell']); (case c3 => unfold maxLen; omega); (case c4 => omega); (case c5 => have := HZ.out; simp; omega); intro v' w8 hown8 hgrow8 _; obtain ⟨A8, c8, rfl⟩ := own_form hown8; obtain ⟨hv1, hv2, hr2, hk2, hb2⟩ := HX.out.appended (by decide) HO.out HZ.out HCB.out hown8 hgrow8; have hc1 := hv1.cell; have hf1 := hv1.frozen))
      clear hown8 hgrow8 hv1 hc1 hf1 e9 hbx1 hbx0 hxb hltb
      obtain ⟨v8, hv8⟩ : ∃ v : Value, .slice A8 ((headOf l0_0).length + (rowsUp l0_0 l0_1 i).length + 1) c8 = v := ⟨_, rfl⟩
      have hr8 : (w8.setCell { block := cB, off := 0 } (Value.slice A8 ((headOf l0_0).length + (rowsUp l0_0 l0_1 i).length + 1) c8)).ownsRow (w.heap.size + 1) 5 1 (Value.slice A8 ((headOf l0_0).length + (rowsUp l0_0 l0_1 i).length + 1) c8) (headOf l0_0 ++ rowsUp l0_0 l0_1 i ++ [1]).length (encs (Value.int .u8) (headOf l0_0 ++ rowsUp l0_0 l0_1 i ++ [1])) := by
        simpa [encs, Nat.add_assoc] using hr2
      clear hr2
      rw [List.length_append] at hv2 hk2 hb2
      rw [hv8] at hv2 hr8 hk2 hb2 ⊢
      obtain ⟨W8, hW8⟩ : ∃ W, w8.setCell { block := cB, off := 0 } v8 = W := ⟨_, rfl⟩
      have hs8 : w8.heap.size = W8.heap.size := by rw [← hW8]; simp
      rw [hW8] at hv2 hr8 hk2 hb2
      rw [hs8, hW8]
      clear hW8 hs8 hv8
      obtain ⟨X8, hX8⟩ : ∃ X, headOf l0_0 ++ rowsUp l0_0 l0_1 i ++ [1] = X := ⟨_, rfl⟩
      have hx8l : X8.length ≤ 23 + i * 4001 := by rw [← hX8]; simp at hxl ⊢; omega
      rw [hX8] at hr8
      have HEX := Aside0.mk (show X8 ++ flatN (runsOf (rd_L2 l0_0 i)) = headOf l0_0 ++ rowsUp l0_0 l0_1 (i + 1) by rw [← hX8, rowsUp_succ, hfin, flatN_of (runs_fit (row_fit hgB.out i hlt) (by have := HROW.out i hlt; omega))]; simp [rowBytes])
      clear hX8
      obtain ⟨w00, hw00⟩ : ∃ W, w.alloc (.cells #[.slice (some ad0) l0_0.length c0_0, .slice (some adb) l0_1.length c0_1] 25) = W := ⟨_, rfl⟩
      have hs00 : w00.heap.size = w.heap.size + 1 := by rw [← hw00]; simp
      have hR00 := HR9.out
      have hB00 := HB.out
      rw [hw00] at hR00 hB00
      have hs8 : w.heap.size + 1 ≤ W8.heap.size := Nat.le_trans HZ.out hb2.size
      have hB8 := hB00.trans hb2
      obtain ⟨W9, hW9⟩ : ∃ W, W8.alloc (.cells #[.slice A9 (rd_L2 l0_0 i).length c9] 43) = W := ⟨_, rfl⟩
      have hs9 : W9.heap.size = W8.heap.size + 1 := by rw [← hW9]; simp
      have hB9 : Below (w.heap.size + 1) w00 W9 := by rw [← hW9]; exact hB8.alloc hs8 _
      have hcell9 : W9.cell? ⟨W8.heap.size, 0, none⟩ = some (.slice A9 (rd_L2 l0_0 i).length c9) := by rw [← hW9]; exact (blk_cell (World.alloc_heap_new W8 _) 0).trans rfl
      have hk9 : KeepsOthers wr W9 := by rw [← hW9]; exact hk2.trans (KeepsOthers.alloc _ _)
      have hv9 : Boxed W9 cB 28 v8 := by rw [← hW9]; exact hv2.alloc _
      have hr9 : W9.ownsRow (w.heap.size + 1) 5 1 v8 X8.length (encs (Value.int .u8) X8) := by rw [← hW9]; exact hr8.alloc _
      have hM9 := HMK.out.keeps hk9
      have hN9 : Boxed W9 W8.heap.size 43 (.slice A9 (rd_L2 l0_0 i).length c9) := by rw [← hW9]; exact Boxed.new W8 43 _
      rw [hW9]
      clear hW9 hv2 hr8 hk2 hb2
      have hrl : (rd_L2 l0_0 i).length ≤ 200 := HROW.out i hlt
      have hB9' : Below w00.heap.size w00 W9 := by rw [hs00]; exact hB9
      have hstops := runs_stops 4 (by omega) W8.heap.size A9 c9 (rd_L2 l0_0 i) (by omega) (row_fit hgB.out i hlt) w00 W9 hB9' hR00 hcell9 (by omega)
      refine (wpIn_wide (n := 5)).1 ?_
      refine wpIn_rangeFunc_ownH rfl (by omega) (gf := 32) (lb := #[.pointer (some ⟨W8.heap.size, 0, none⟩)]) rfl trivial (enters_of Try.func32 (by kernel_rfl) rfl)
        hstops kpR_t (kpR_b (by omega) (by omega)) (Below.refl _ _) (fun _ => rfl)
        (fun pre W => (∃ z, Boxed W cB 28 z ∧ W.ownsRow (w.heap.size + 1) 5 1 z (X8 ++ flatN pre).length (encs (Value.int .u8) (X8 ++ flatN pre)) ∧ True) ∧ Below (w.heap.size + 1) w00 W ∧ Marks W ds ∧ Boxed W W8.heap.size 43 (.slice A9 (rd_L2 l0_0 i).length c9))
        (fun _ _ _ => False)
        (OwnFrom.and (Own.from (holdsRow_own (w.heap.size + 1) cB 28 5 1 (fun pre => (X8 ++ flatN pre).length) (fun pre => encs (Value.int .u8) (X8 ++ flatN pre)) (fun _ _ => True)) _) (OwnFrom.and (ownFrom_below (by omega) (by omega)) (OwnFrom.and (marks_own hM9.lt) (Own.from (boxed_own _ _ _) _))))
        (fun _ _ _ _ _ hs _ _ => hs)
        ⟨⟨_, hv9, by simpa [flatN] using hr9, trivial⟩, hB9, hM9, hN9⟩
        (fun x a' W => a' = { tmps := #[u0, .pointer (some ⟨w.heap.size, 0, none⟩), .slice none 0 0, .int .i64 0, .pointer (some ⟨cB, 0, none⟩), .int .i64 i, .slice A9 (rd_L2 l0_0 i).length c9, .int .u8 1, .int .i64 (cl x.1), .int .i64 (cl x.2), u10, u11, u12, u13, u14, u15, u16, u17, u18, u19, u20, u21, u22, u23, u24, u25, u26, u27, u28, .slice (some ad0) l0_0.length c0_0, .int .i64 l0_0.length, .int .i64 i, .bool true, .int .i64 i, .pointer (some (ad0.add i)), .slice A9 (rd_L2 l0_0 i).length c9, .pointer (some ⟨w.heap.size, 1, none⟩), .slice (some adb) l0_1.length c0_1, .int .i64 i, .pointer (some (adb.add i)), .bool true, v, .int .u8 1, .slice (some ⟨wr.heap.size, 0, none⟩) 1 1, v8, .slice A9 (rd_L2 l0_0 i).length c9, .func (.func 32) #[] #[.pointer (some ⟨W8.heap.size, 0, none⟩)], .int .i64 (cl x.1), .int .i64 (cl x.2), u49, u50, u51, u52, u53, u54, u55, u56, u57], defers := [] })
        (fun x a' _ X Y row hs hg hr => hs)
        ?assign ?body ?done ?stop
      case assign =>
        clear hstops hv9 hr9
        rintro l pre x W K ⟨⟨z, hz, hzr, _⟩, hB1, hM1, hN1⟩ hK
        dsimp only
        gi_wp2
        exact hK _ _ (KeepsFrom.refl _ _) ⟨Below.refl _ _, rfl⟩ ⟨⟨z, hz, hzr, trivial⟩, hB1, hM1, hN1⟩ rfl
      case body =>
        clear hstops hv9 hr9
        rintro l pre x a' W hl ⟨r, hr⟩ ⟨⟨v2, hz, hzr, _⟩, hB1, hM1, hN1⟩ rfl hlt2
        have hsz := hB1.size
        have HLW := Aside0.mk (flatN_le hx8l hrl hi5 hlt2)
        have YX20 := Aside0.mk (show Boxed W.drew cB 28 v2 from hz)
        have YN20 := Aside0.mk (show Boxed W.drew W8.heap.size 43 (.slice A9 (rd_L2 l0_0 i).length c9) from hN1)
        have YO20 := Aside0.mk (own_drew hzr)
        have YB20 := Aside0.mk (Below.refl (w.heap.size + 1) W).drew
        have YS20 : Aside0 (w.heap.size + 1 ≤ W.drew.heap.size) := ⟨by simp; omega⟩
        have YK20 := Aside0.mk (KeepsOthers.drew W)
        have HB1 := Aside0.mk hB1
        clear hz hzr hB1
        refine wpIn_block ?_
        refine startIn_ (n := 8) (by simp) (fun _ _ h => h) (S := fun w' => w'.cell? ⟨cB, 0, none⟩ = some v2 ∧ w'.frozen? ⟨cB, 0, none⟩ = false) (ds := [7]) #[false, false, false, false, false, false, false, false] (by kernel_rfl) rfl rfl ⟨Boxed.cell YX20.out, Boxed.frozen YX20.out⟩ (fun hHeld => ?_); refine with_tabW save_tab15 save_bits15 (fun HT_ HW_ => ?_)
        refine take_ (i := 0) (N := some 49) (v := ?_) (a' := ?_) #[true, false, false, false, false, false, false, false] rfl rfl (take_ofW HT_.out HW_.out (by kernel_rfl)) (fun _ _ _ h => h) (Or.inl ⟨by rfl, ?_⟩) hHeld ?_ ?_
        rotate_left
        · rintro w' ⟨s0, s1⟩
          go_simp
          with_reducible rfl
        rotate_left
        · simp only [Act.put, List.setIfInBounds_toArray, List.set_cons_zero, List.set_cons_succ, i64_w, i32_w]
          rfl
        refine pure_ (i := 1) (N := some 50) (v := ?_) (a' := ?_) #[true, true, false, false, false, false, false, false] rfl rfl (any_of HT_.out (by kernel_rfl)) (fun _ _ _ h => h) (Or.inl ⟨by rfl, ?_⟩) ?_ ?_
        rotate_left
        · intro w'
          go_simp
          with_reducible rfl
        rotate_left
        · simp only [Act.put, List.setIfInBounds_toArray, List.set_cons_zero, List.set_cons_succ, i64_w, i32_w]
          rfl
        refine pure_ (i := 4) (N := some 53) (v := ?_) (a' := ?_) #[true, true, false, false, true, false, false, false] rfl rfl (any_of HT_.out (by kernel_rfl)) (fun _ _ _ h => h) (Or.inl ⟨by rfl, ?_⟩) ?_ ?_
        rotate_left
        · intro w'
          go_simp
          with_reducible rfl
        rotate_left
        · simp only [Act.put, List.setIfInBounds_toArray, List.set_cons_zero, List.set_cons_succ, i64_w, i32_w]
          rfl
        refine one_ (i := 2) (N := some 51) #[true, true, true, false, true, false, false, false] rfl rfl (one_of HT_.out (by kernel_rfl)) (by decide) (fun K hK => ?_)
        refine goes_ Try.func15 (by kernel_rfl) rfl #[.int .i64 (cl x.1)] (by rfl) rfl rfl (by first | rfl | (try simp only [List.map_toArray, List.map_cons, List.map_nil]; rfl)) ?_
        refine (packed_Number.calls 12 (cl x.1) (numOf (cl x.1)) _ (number_k _ (cl_lt _))).mono ?_
        rintro e W21 ⟨vn21, rfl, hn21, hb21⟩
        obtain ⟨An21, cn21, rfl⟩ := Kd.R_slice hn21
        refine ⟨_, rfl, ?_⟩
        obtain ⟨adn21, en21, hnw21⟩ := news_of_C (Kd.R_reads' hn21).2.2 (numGo_pos 9 _)
        subst en21
        have NW21 := Aside0.mk hnw21
        have YO21 := Aside0.mk (pw_own_below YO20.out hb21)
        have YB21 := Aside0.mk (YB20.out.trans (hb21.mono YS20.out))
        have YX21 := Aside0.mk ((hb21.block _ (Boxed.lt YX20.out)).trans YX20.out)
        have YS21 := Aside0.mk (Nat.le_trans YS20.out hb21.size)
        have YK21 := Aside0.mk (YK20.out.trans (keepsOthers_below hb21))
        have YN21 := Aside0.mk ((hb21.block _ (Boxed.lt YN20.out)).trans YN20.out)
        clear hn21 hb21 hnw21
        refine hK.out _ _ ⟨Boxed.cell YX21.out, Boxed.frozen YX21.out⟩ (fun hHeld => ?_)
        clear hK K
        refine norm_ (a' := ?_) ?_ ?_
        rotate_left
        · show Act.put _ (some 51) _ = _
          simp only [Act.put, List.setIfInBounds_toArray, List.set_cons_zero, List.set_cons_succ, i64_w, i32_w]
          rfl
        refine one_ (i := 3) (N := some 52) #[true, true, true, true, true, false, false, false] rfl rfl (one_of HT_.out (by kernel_rfl)) (by decide) (fun K hK => ?_)
        refine app_step (by rfl) (.tmp 49) (.tmp 51) 28 rfl (w.heap.size + 1) 5 i0 (.int .u8 0) 1 1 Try.underlying28 HI0.out hz0 hz1 hz2 rfl (by decide) _ _ _ rfl YO21.out adn21 _ cn21 _ rfl (by simp [encs]) NW21.out (by intro u hu; simp [encs] at hu; obtain ⟨x, _, rfl⟩ := hu; rfl) (by have h1 := numOf_len (cl x.1); have h2 := numOf_len (cl x.2); have h3 := HLW.out; unfold maxLen; omega) (by have h1 := numOf_len (cl x.1); have h2 := numOf_len (cl x.2); have h3 := HLW.out; omega) YS21.out ?_
        intro va22 W22 hown22 hgrow22
        have YO22 := Aside0.mk hown22
        have YB22 := Aside0.mk (YB21.out.grown hgrow22 YS21.out (own_base YO21.out))
        have YX22 := Aside0.mk (Boxed.kept YX21.out hgrow22 (Boxed.not_row YX21.out (by decide) YO21.out))
        have YS22 := Aside0.mk (Nat.le_trans YS21.out hgrow22.size)
        have YK22 := Aside0.mk (YK21.out.trans (own_keeps YO21.out hgrow22))
        have YN22 := Aside0.mk (Boxed.kept YN21.out hgrow22 (Boxed.not_row YN21.out (by decide) YO21.out))
        clear hown22 hgrow22
        refine hK.out _ _ ⟨Boxed.cell YX22.out, Boxed.frozen YX22.out⟩ (fun hHeld => ?_)
        clear hK K
        refine norm_ (a' := ?_) ?_ ?_
        rotate_left
        · show Act.put _ (some 52) _ = _
          simp only [Act.put, List.setIfInBounds_toArray, List.set_cons_zero, List.set_cons_succ, i64_w, i32_w]
          rfl
        refine one_ (i := 5) (N := some 54) #[true, true, true, true, true, true, false, false] rfl rfl (one_of HT_.out (by kernel_rfl)) (by decide) (fun K hK => ?_)
        refine goes_ Try.func15 (by kernel_rfl) rfl #[.int .i64 (cl x.2)] (by rfl) rfl rfl (by first | rfl | (try simp only [List.map_toArray, List.map_cons, List.map_nil]; rfl)) ?_
        refine (packed_Number.calls 12 (cl x.2) (numOf (cl x.2)) _ (number_k _ (cl_lt _))).mono ?_
        rintro e W23 ⟨vn23, rfl, hn23, hb23⟩
        obtain ⟨An23, cn23, rfl⟩ := Kd.R_slice hn23
        refine ⟨_, rfl, ?_⟩
        obtain ⟨adn23, en23, hnw23⟩ := news_of_C (Kd.R_reads' hn23).2.2 (numGo_pos 9 _)
        subst en23
        have NW23 := Aside0.mk hnw23
        have YO23 := Aside0.mk (pw_own_below YO22.out hb23)
        have YB23 := Aside0.mk (YB22.out.trans (hb23.mono YS22.out))
        have YX23 := Aside0.mk ((hb23.block _ (Boxed.lt YX22.out)).trans YX22.out)
        have YS23 := Aside0.mk (Nat.le_trans YS22.out hb23.size)
        have YK23 := Aside0.mk (YK22.out.trans (keepsOthers_below hb23))
        have YN23 := Aside0.mk ((hb23.block _ (Boxed.lt YN22.out)).trans YN22.out)
        clear hn23 hb23 hnw23
        refine hK.out _ _ ⟨Boxed.cell YX23.out, Boxed.frozen YX23.out⟩ (fun hHeld => ?_)
        clear hK K
        refine norm_ (a' := ?_) ?_ ?_
        rotate_left
        · show Act.put _ (some 54) _ = _
          simp only [Act.put, List.setIfInBounds_toArray, List.set_cons_zero, List.set_cons_succ, i64_w, i32_w]
          rfl
        refine one_ (i := 6) (N := some 55) #[true, true, true, true, true, true, true, false] rfl rfl (one_of HT_.out (by kernel_rfl)) (by decide) (fun K hK => ?_)
        refine app_step (by rfl) (.tmp 52) (.tmp 54) 28 rfl (w.heap.size + 1) 5 i0 (.int .u8 0) 1 1 Try.underlying28 HI0.out hz0 hz1 hz2 rfl (by decide) _ _ _ rfl YO23.out adn23 _ cn23 _ rfl (by simp [encs]) NW23.out (by intro u hu; simp [encs] at hu; obtain ⟨x, _, rfl⟩ := hu; rfl) (by have h1 := numOf_len (cl x.1); have h2 := numOf_len (cl x.2); have h3 := HLW.out; unfold maxLen; omega) (by have h1 := numOf_len (cl x.1); have h2 := numOf_len (cl x.2); have h3 := HLW.out; omega) YS23.out ?_
        intro va24 W24 hown24 hgrow24
        rw [List.length_append] at hown24
        obtain ⟨Aa24, ca24, rfl⟩ := own_form hown24
        have YO24 := Aside0.mk hown24
        have YB24 := Aside0.mk (YB23.out.grown hgrow24 YS23.out (own_base YO23.out))
        have YX24 := Aside0.mk (Boxed.kept YX23.out hgrow24 (Boxed.not_row YX23.out (by decide) YO23.out))
        have YS24 := Aside0.mk (Nat.le_trans YS23.out hgrow24.size)
        have YK24 := Aside0.mk (YK23.out.trans (own_keeps YO23.out hgrow24))
        have YN24 := Aside0.mk (Boxed.kept YN23.out hgrow24 (Boxed.not_row YN23.out (by decide) YO23.out))
        clear hown24 hgrow24
        refine hK.out _ _ ⟨Boxed.cell YX24.out, Boxed.frozen YX24.out⟩ (fun hHeld => ?_)
        clear hK K
        refine norm_ (a' := ?_) ?_ ?_
        rotate_left
        · show Act.put _ (some 55) _ = _
          simp only [Act.put, List.setIfInBounds_toArray, List.set_cons_zero, List.set_cons_succ, i64_w, i32_w]
          rfl
        refine last_ (i := 7) (N := none) #[true, true, true, true, true, true, true, true] rfl rfl (one_of HT_.out (by kernel_rfl)) (by decide) (fun K hK => ?_)
        refine step_list rfl (by rfl) ?_
        have hc6 := Boxed.cell YX24.out
        have hf6 := Boxed.frozen YX24.out
        unfold Oper.wp
        go_simp
        refine hK.out _ _ ?_
        clear hK K
        refine done_ (done_of HT_.out (by kernel_rfl)) ?_
        have hO := YO24.out.kept (grownBy_setCell' W24 cB (.slice Aa24 (X8.length + (flatN pre).length + (numOf (cl x.1)).length + (numOf (cl x.2)).length) ca24)) (.inr (YX24.out.not_row (by decide) YO24.out).symm)
        have hN := boxed_other YN24.out YX24.out (by decide) (.slice Aa24 (X8.length + (flatN pre).length + (numOf (cl x.1)).length + (numOf (cl x.2)).length) ca24)
        refine ⟨(YK24.out.trans (KeepsOthers.setCell _ _ _)).from _, ⟨by rw [hs00]; exact YB24.out.setCell (p := ⟨cB, 0, none⟩) HCB.out (.slice Aa24 (X8.length + (flatN pre).length + (numOf (cl x.1)).length + (numOf (cl x.2)).length) ca24), hN.cell.trans hN1.cell.symm⟩, ⟨_, Boxed.set (.slice Aa24 (X8.length + (flatN pre).length + (numOf (cl x.1)).length + (numOf (cl x.2)).length) ca24) YX24.out, ?_, trivial⟩, HB1.out.trans (YB24.out.setCell (p := ⟨cB, 0, none⟩) HCB.out (.slice Aa24 (X8.length + (flatN pre).length + (numOf (cl x.1)).length + (numOf (cl x.2)).length) ca24)), hM1.keeps (YK24.out.trans (KeepsOthers.setCell _ _ _)), hN⟩
        simpa [flatN_snoc, encs, Nat.add_assoc] using hO
      case done =>
        clear hstops hv9 hr9
        rintro D ys W hD rfl ⟨⟨z, hz, hzr, _⟩, hB1, hM1, _⟩ hK
        have HZ1 := Aside0.mk hz
        have HZ2 := Aside0.mk hzr
        have HZ3 := Aside0.mk hB1
        have HZ4 := Aside0.mk hM1
        clear hz hzr hB1 hM1
        go_wp2_with fail
        have e1 : ((i : Int) + 1) = ((i + 1 : Nat) : Int) := by omega
        rw [e1]
        refine Handed.intro (gk - 1) (by omega) (hJ _ _ _ ⟨i + 1, D :: ds, z, _, _, _, _, _, _, _, _, _, _, _, _, _, _, _, _, _, _, _, _, _, _, _, _, _, _, _, _, _, _, _, _, _, _, _, _, _, _, _, _, _, _, _, _, _, _, _, _, _, _, _, by omega, by omega, rfl, HZ1, ⟨?_⟩, ⟨by rw [hw00]; exact HZ3.out⟩, ⟨HZ4.out.cons hK (fun hm => ?_)⟩, ⟨fun E hE => ?_⟩⟩)
        · rw [← HEX.out]; exact HZ2.out
        · have := hM9.lt D hm; omega
        · rcases List.mem_cons.1 hE with rfl | hE
          · omega
          · exact HDS.out E hE
      case stop =>
        rintro D c pre W _ _ h _
        exact h.elim
  · obtain rfl : i = l0_0.length := by omega
    have hltz : ¬ ((l0_0.length : Nat) : Int) < (l0_0.length : Int) := by omega
    have hcx := Boxed.cell HX.out
    have hfx := Boxed.frozen HX.out
    clear hg
    go_wp2_with fail
    refine save_leaves (w0 := w.alloc (.cells #[.slice (some ad0) l0_0.length c0_0, .slice A0_1 l0_1.length c0_1] 25)) (v := v) (xs := saveOf l0_0 l0_1) (n₀ := w.heap.size + 1) (by simp) HDS.out HMK.out ?_ HB.out rfl rfl (fun W' h1 h2 => ⟨v, rfl, Kd.R_lower h1 (by omega), ((Below.refl _ w).alloc (Nat.le_refl _) _).trans (h2.mono (by simp))⟩)
    have := HO.out
    simpa [saveOf, headOf] using this
end Go.Proofs.Ytjcgbjkjkgkklaa.Print
