/- (*Cache).behind: the key stands last. -/
import Derived.Test.YtjpbcmfppmiagaaCacheA
import Derived.Test.YtjpbcmfppmiagaaSteps
namespace Go.Proofs.Ytjpbcmfppmiagaa.Print
open Go.RowKit Go.Maps Go.Proofs.YtjpbcmfppmiagaaW.PrintWords Go.Proofs.YtjpbcmfppmiagaaW.PrintLast Go.Proofs.YtjpbcmfppmiagaaW.PrintMore
set_option linter.unusedVariables false
set_option linter.unusedSimpArgs false

def behind_T1 : Bool × List (List Nat × List Nat) := (true, [([], []), ([], []), ([1], [1]), ([2], [2]), ([3], [3]), ([], []), ([4, 5], [4, 5]), ([], []), ([7], [7]), ([6, 8, 6], [6, 8]), ([0, 0, 1, 2, 3, 4, 5, 6, 7, 8, 9], [0]), ([10, 0, 1, 2, 3, 4, 5, 6, 7, 8, 9], [10]), ([11, 9, 9, 0, 1, 2, 3, 4, 5, 6, 7, 8, 9], [9, 11])])
def behind_B1 : List Nat := [0, 0, 2, 6, 14, 0, 62, 0, 128, 510, 1023, 2047, 4095]
theorem behind_tab1 : rtab .any (opsOf Try.f22 1) = behind_T1 := by kernel_rfl
theorem behind_bits1 : waitsOk behind_T1.2 behind_B1 = true := by kernel_rfl
theorem bl_new {W : World} {base bl : Nat} {v : Value} {xs : List ByteArray} (h : W.heap.size ≤ bl) (hR : Kd.R Kd.string 9 W base (fun _ => True) v xs) : some bl ≠ v.ownBlock := fun e => by
  have := Kd.R_lt hR bl e.symm
  omega
set_option maxHeartbeats 16000000 in
set_option maxRecDepth 100000 in
theorem behind_calls (ok : Nat → Prop) (base CB MB : Nat) (vO : Value) (most : Int) (m : Lists) (o : List ByteArray) (h nt : Int) (W : World) (key : ByteArray) (hi : CInv ok base CB MB vO most m o h nt W) (hb : base ≤ W.heap.size) (hl : o.length ≤ 100000) :
    Calls Try.prog 22 #[.pointer (some ⟨CB, 0, none⟩), .string key] W fun e w' => e = .returned (.tuple #[]) ∧ ∃ vO', CInv ok base CB MB vO' most m (notKey key o ++ [key]) h nt w' ∧ Turn base CB MB W w' := by
  have HI := Aside0.mk hi
  have HS := Aside0.mk hb
  have HLO := Aside0.mk (show o.length ≤ 1000000000000 by omega)
  have HLN := Aside0.mk (show (notKey key o).length ≤ 100000 from Nat.le_trans (List.length_filter_le _ _) hl)
  obtain ⟨iS, hiS, hzS, hsS, hbS⟩ := info_parts info9
  have HK0 := Aside0.mk (blk_new W (.cells #[.string key] 9))
  have HI0 := Aside0.mk (hi.later (below_alloc (Below.refl _ _) (.cells #[.string key] 9)))
  have HT0 := Aside0.mk (Turn.of_below (base := base) (CB := CB) (MB := MB) (below_alloc (Below.refl W.heap.size W) (.cells #[.string key] 9)))
  have HKO := Aside0.mk (show some W.heap.size ≠ vO.ownBlock from bl_new (Nat.le_refl _) hi.ord)
  clear hi hb hl
  go_enter Try.func22, Try.ntmps22
  go_upto_region 1 with fail
  have HB1 := Aside0.mk (blk_drew HI0.out.blk)
  have HK1 := Aside0.mk (blk_drew HK0.out)
  have HM1 := Aside0.mk (HI0.out.map.below (below_drew (Below.refl _ _)))
  have HO1 := Aside0.mk (Kd.R_drew HI0.out.ord)
  have HT1 := Aside0.mk (HT0.out.trans (Turn.of_below (below_drew (Below.refl _ _))))
  obtain ⟨KB, hKB⟩ : ∃ n, W.heap.size = n := ⟨_, rfl⟩
  rw [hKB] at HK1 HKO ⊢
  clear hKB HK0 HI0 HT0
  generalize W.alloc (.cells #[.string key] 9) = W0 at *
  refine wp_region_noPanic ?_
  refine start_ (n := 13) (S := fun w' => w'.cell? ⟨CB, 2, none⟩ = some vO ∧ w'.cell? ⟨KB, 0, none⟩ = some (.string key)) (ds := [12]) #[false, false, false, false, false, false, false, false, false, false, false, false, false] (by kernel_rfl) rfl rfl ⟨(blk_cell HB1.out 2).trans rfl, (blk_cell HK1.out 0).trans rfl⟩ (fun hHeld => ?_); refine with_tabW behind_tab1 behind_bits1 (fun HT_ HW_ => ?_)
  generalize W0.drew = W1 at *
  refine pure_ (i := 0) (N := some 4) (v := ?_) (a' := ?_) #[true, false, false, false, false, false, false, false, false, false, false, false, false] rfl rfl (any_of HT_.out (by kernel_rfl)) (fun _ _ _ h => h) (Or.inl ⟨by rfl, ?_⟩) ?_ ?_
  rotate_left
  · intro w'
    go_simp
    with_reducible rfl
  rotate_left
  · simp only [Act.put, List.setIfInBounds_toArray, List.set_cons_zero, List.set_cons_succ, i64_w, i32_w]
    rfl
  refine pure_ (i := 1) (N := some 5) (v := ?_) (a' := ?_) #[true, true, false, false, false, false, false, false, false, false, false, false, false] rfl rfl (any_of HT_.out (by kernel_rfl)) (fun _ _ _ h => h) (Or.inl ⟨by rfl, ?_⟩) ?_ ?_
  rotate_left
  · intro w'
    go_simp
    with_reducible rfl
  rotate_left
  · simp only [Act.put, List.setIfInBounds_toArray, List.set_cons_zero, List.set_cons_succ, i64_w, i32_w]
    rfl
  refine pure_ (i := 2) (N := some 6) (v := ?_) (a' := ?_) #[true, true, true, false, false, false, false, false, false, false, false, false, false] rfl rfl (any_of HT_.out (by kernel_rfl)) (fun _ _ _ h => h) (Or.inl ⟨by rfl, ?_⟩) ?_ ?_
  rotate_left
  · intro w'
    go_simp
    with_reducible rfl
  rotate_left
  · simp only [Act.put, List.setIfInBounds_toArray, List.set_cons_zero, List.set_cons_succ, i64_w, i32_w]
    rfl
  refine pure_ (i := 3) (N := some 7) (v := ?_) (a' := ?_) #[true, true, true, true, false, false, false, false, false, false, false, false, false] rfl rfl (any_of HT_.out (by kernel_rfl)) (fun _ _ _ h => h) (Or.inl ⟨by rfl, ?_⟩) ?_ ?_
  rotate_left
  · intro w'
    go_simp
    with_reducible rfl
  rotate_left
  · simp only [Act.put, List.setIfInBounds_toArray, List.set_cons_zero, List.set_cons_succ, i64_w, i32_w]
    rfl
  refine take_ (i := 4) (N := some 8) (v := ?_) (a' := ?_) #[true, true, true, true, true, false, false, false, false, false, false, false, false] rfl rfl (take_ofW HT_.out HW_.out (by kernel_rfl)) (fun _ _ _ h => h) (Or.inl ⟨by rfl, ?_⟩) hHeld ?_ ?_
  rotate_left
  · rintro w' ⟨s0, s1⟩
    go_simp
    with_reducible rfl
  rotate_left
  · simp only [Act.put, List.setIfInBounds_toArray, List.set_cons_zero, List.set_cons_succ, i64_w, i32_w]
    rfl
  refine pure_ (i := 5) (N := some 9) (v := ?_) (a' := ?_) #[true, true, true, true, true, true, false, false, false, false, false, false, false] rfl rfl (any_of HT_.out (by kernel_rfl)) (fun _ _ _ h => h) (Or.inl ⟨by rfl, ?_⟩) ?_ ?_
  rotate_left
  · intro w'
    go_simp
    with_reducible rfl
  rotate_left
  · simp only [Act.put, List.setIfInBounds_toArray, List.set_cons_zero, List.set_cons_succ, i64_w, i32_w]
    rfl
  refine take_ (i := 7) (N := some 11) (v := ?_) (a' := ?_) #[true, true, true, true, true, true, false, true, false, false, false, false, false] rfl rfl (take_ofW HT_.out HW_.out (by kernel_rfl)) (fun _ _ _ h => h) (Or.inl ⟨by rfl, ?_⟩) hHeld ?_ ?_
  rotate_left
  · rintro w' ⟨s0, s1⟩
    go_simp
    with_reducible rfl
  rotate_left
  · simp only [Act.put, List.setIfInBounds_toArray, List.set_cons_zero, List.set_cons_succ, i64_w, i32_w]
    rfl
  refine two_ (i := 6) (j := 8) (Ni := some 10) (Nj := some 12) #[true, true, true, true, true, true, true, true, false, false, false, false, false] #[true, true, true, true, true, true, false, true, true, false, false, false, false] rfl rfl rfl rfl (two_of HT_.out (by kernel_rfl)) (by decide) (by decide) (fun K hK => ?_) (fun K hK => ?_)
  · refine goes_ Try.func25 (by kernel_rfl) rfl #[vO, .func (.func 32) #[] #[.pointer (some ⟨KB, 0, none⟩)]] (by rfl) rfl rfl (by (try simp only [List.map_toArray, List.map_cons, List.map_nil]); first | done | rfl) ?_
    refine (delete_calls 32 (fun args w => enters_ Try.func32 (by kernel_rfl) rfl args w) key KB (isKey32 key KB) W1 base vO o HO1.out (blk_lt HK1.out) ((blk_cell HK1.out 0).trans rfl) HKO.out HLO.out).mono ?_
    rintro e W2 ⟨v2, rfl, hR, hg, hv⟩
    refine ⟨_, rfl, ?_⟩
    have HB2 := Aside0.mk (blk_grown HB1.out hg (Kd.R_ne HO1.out HB1.out (by decide)))
    have HK2 := Aside0.mk (blk_grown HK1.out hg HKO.out)
    have HM2 := Aside0.mk (HM1.out.ordGrown HO1.out hg)
    have HT2 := Aside0.mk (HT1.out.trans (Turn.of_ord HO1.out hg))
    have HV2 := Aside0.mk hR
    have HKV := Aside0.mk (show some KB ≠ v2.ownBlock by rw [hv]; exact HKO.out)
    clear hR hg hv
    refine hK.out _ _ ⟨(blk_cell HB2.out 2).trans rfl, (blk_cell HK2.out 0).trans rfl⟩ (fun hHeld => ?_)
    clear hK K
    refine norm_ (a' := ?_) ?_ ?_
    rotate_left
    · show Act.put _ (some 10) _ = _
      simp only [Act.put, List.setIfInBounds_toArray, List.set_cons_zero, List.set_cons_succ, i64_w, i32_w]
      rfl
    refine one_ (i := 8) (N := some 12) #[true, true, true, true, true, true, true, true, true, false, false, false, false] rfl rfl (one_of HT_.out (by kernel_rfl)) (by decide) (fun K hK => ?_)
    refine step_list rfl (by rfl) ?_
    unfold Oper.wp
    go_simp
    have HL3 := Aside0.mk (blk_new W2 (.cells #[Value.string key] 9))
    have HB3 := Aside0.mk (blk_alloc HB2.out (.cells #[Value.string key] 9))
    have HK3 := Aside0.mk (blk_alloc HK2.out (.cells #[Value.string key] 9))
    have HM3 := Aside0.mk (HM2.out.below (below_alloc (Below.refl _ _) (.cells #[Value.string key] 9)))
    have HT3 := Aside0.mk (HT2.out.trans (Turn.of_below (below_alloc (Below.refl _ _) (.cells #[Value.string key] 9))))
    have HV3 := Aside0.mk (Kd.R_alloc HV2.out (.cells #[Value.string key] 9))
    refine hK.out _ _ ⟨(blk_cell HB3.out 2).trans rfl, (blk_cell HK3.out 0).trans rfl⟩ (fun hHeld => ?_)
    clear hK K
    obtain ⟨bl, hbl⟩ : ∃ n, W2.heap.size = n := ⟨_, rfl⟩
    rw [hbl] at HL3 ⊢
    clear hbl
    generalize W2.alloc (.cells #[Value.string key] 9) = W3 at *
    refine one_ (i := 9) (N := some 13) #[true, true, true, true, true, true, true, true, true, true, false, false, false] rfl rfl (one_of HT_.out (by kernel_rfl)) (by decide) (fun K hK => ?_)
    refine R_app_step Kd.string base (by rfl) (.tmp 10) (.tmp 12) 22 9 iS (.string ⟨#[]⟩) 16 rfl Try.underlying22 hiS hzS hsS hbS rfl (by decide) _ (notKey key o) key [.string key] (fun _ => True) (fun _ => False) rfl ⟨bl, 0, none⟩ rfl (cell_one HL3.out) rfl (fun k hk => hk.elim) (fun _ _ => trivial) HV3.out (Nat.le_trans HS.out HT3.out.size) (by have := HLN.out; unfold maxLen; omega) (by have := HLN.out; omega) ?_
    intro v3 W8 hR8 hg8 _
    obtain ⟨A8, c8, e8⟩ := Kd.R_slice hR8
    obtain ⟨n8, hn8⟩ : ∃ n, (notKey key o ++ [key]).length = n := ⟨_, rfl⟩
    rw [hn8] at e8
    subst e8
    clear hn8
    have HB8 := Aside0.mk (blk_grown HB3.out hg8 (Kd.R_ne HV3.out HB3.out (by decide)))
    have HM8 := Aside0.mk (HM3.out.ordGrown HV3.out hg8)
    have HT8 := Aside0.mk (HT3.out.trans (Turn.of_ord HV3.out hg8))
    have HV8 := Aside0.mk hR8
    have HK8 := Aside0.mk (blk_grown HK3.out hg8 HKV.out)
    clear hR8 hg8
    refine hK.out _ _ ⟨(blk_cell HB8.out 2).trans rfl, (blk_cell HK8.out 0).trans rfl⟩ (fun hHeld => ?_)
    clear hK K
    refine norm_ (a' := ?_) ?_ ?_
    rotate_left
    · show Act.put _ (some 13) _ = _
      simp only [Act.put, List.setIfInBounds_toArray, List.set_cons_zero, List.set_cons_succ, i64_w, i32_w]
      rfl
    refine pure_ (i := 10) (N := some 14) (v := ?_) (a' := ?_) #[true, true, true, true, true, true, true, true, true, true, true, false, false] rfl rfl (any_of HT_.out (by kernel_rfl)) (fun _ _ _ h => h) (Or.inl ⟨by rfl, ?_⟩) ?_ ?_
    rotate_left
    · intro w'
      go_simp
      with_reducible rfl
    rotate_left
    · simp only [Act.put, List.setIfInBounds_toArray, List.set_cons_zero, List.set_cons_succ, i64_w, i32_w]
      rfl
    refine pure_ (i := 11) (N := some 15) (v := ?_) (a' := ?_) #[true, true, true, true, true, true, true, true, true, true, true, true, false] rfl rfl (any_of HT_.out (by kernel_rfl)) (fun _ _ _ h => h) (Or.inl ⟨by rfl, ?_⟩) ?_ ?_
    rotate_left
    · intro w'
      go_simp
      with_reducible rfl
    rotate_left
    · simp only [Act.put, List.setIfInBounds_toArray, List.set_cons_zero, List.set_cons_succ, i64_w, i32_w]
      rfl
    refine last_ (i := 12) (N := none) #[true, true, true, true, true, true, true, true, true, true, true, true, true] rfl rfl (one_of HT_.out (by kernel_rfl)) (by decide) (fun K hK => ?_)
    refine step_list rfl (by rfl) ?_
    have z0 := (blk_cell HB8.out 2).trans rfl
    have z1 := blk_frozen HB8.out 2
    unfold Oper.wp
    go_simp
    refine hK.out _ _ ?_
    clear hK K z0 z1
    refine done_ (done_of HT_.out (by kernel_rfl)) ?_
    refine NoPanic.normal ?_
    clear HT_ HW_ hHeld
    try go_wp2_with fail
    go_end0
    have HF := CInv.setOrd HB8.out HM8.out HV8.out HI.out.hC HI.out.hM
    exact ⟨rfl, _, HF, HT8.out.trans (Turn.of_cache (grownBy_set _ _ _ _))⟩
  · refine step_list rfl (by rfl) ?_
    unfold Oper.wp
    go_simp
    have HL2 := Aside0.mk (blk_new W1 (.cells #[Value.string key] 9))
    have HB2 := Aside0.mk (blk_alloc HB1.out (.cells #[Value.string key] 9))
    have HK2 := Aside0.mk (blk_alloc HK1.out (.cells #[Value.string key] 9))
    have HM2 := Aside0.mk (HM1.out.below (below_alloc (Below.refl _ _) (.cells #[Value.string key] 9)))
    have HT2 := Aside0.mk (HT1.out.trans (Turn.of_below (below_alloc (Below.refl _ _) (.cells #[Value.string key] 9))))
    have HO2 := Aside0.mk (Kd.R_alloc HO1.out (.cells #[Value.string key] 9))
    refine hK.out _ _ ⟨(blk_cell HB2.out 2).trans rfl, (blk_cell HK2.out 0).trans rfl⟩ (fun hHeld => ?_)
    clear hK K
    obtain ⟨bl, hbl⟩ : ∃ n, W1.heap.size = n := ⟨_, rfl⟩
    have HBL := Aside0.mk (show W1.heap.size ≤ bl by omega)
    rw [hbl] at HL2 ⊢
    clear hbl
    generalize W1.alloc (.cells #[Value.string key] 9) = W2 at *
    refine one_ (i := 6) (N := some 10) #[true, true, true, true, true, true, true, true, true, false, false, false, false] rfl rfl (one_of HT_.out (by kernel_rfl)) (by decide) (fun K hK => ?_)
    refine goes_ Try.func25 (by kernel_rfl) rfl #[vO, .func (.func 32) #[] #[.pointer (some ⟨KB, 0, none⟩)]] (by rfl) rfl rfl (by (try simp only [List.map_toArray, List.map_cons, List.map_nil]); first | done | rfl) ?_
    refine (delete_calls 32 (fun args w => enters_ Try.func32 (by kernel_rfl) rfl args w) key KB (isKey32 key KB) W2 base vO o HO2.out (blk_lt HK2.out) ((blk_cell HK2.out 0).trans rfl) HKO.out HLO.out).mono ?_
    rintro e W3 ⟨v2, rfl, hR, hg, hv⟩
    refine ⟨_, rfl, ?_⟩
    have HB3 := Aside0.mk (blk_grown HB2.out hg (Kd.R_ne HO2.out HB2.out (by decide)))
    have HK3 := Aside0.mk (blk_grown HK2.out hg HKO.out)
    have HM3 := Aside0.mk (HM2.out.ordGrown HO2.out hg)
    have HT3 := Aside0.mk (HT2.out.trans (Turn.of_ord HO2.out hg))
    have HV3 := Aside0.mk hR
    have HKV := Aside0.mk (show some KB ≠ v2.ownBlock by rw [hv]; exact HKO.out)
    have HL3 := Aside0.mk (blk_grown HL2.out hg (bl_new HBL.out HO1.out))
    clear hR hg hv
    refine hK.out _ _ ⟨(blk_cell HB3.out 2).trans rfl, (blk_cell HK3.out 0).trans rfl⟩ (fun hHeld => ?_)
    clear hK K
    refine norm_ (a' := ?_) ?_ ?_
    rotate_left
    · show Act.put _ (some 10) _ = _
      simp only [Act.put, List.setIfInBounds_toArray, List.set_cons_zero, List.set_cons_succ, i64_w, i32_w]
      rfl
    refine one_ (i := 9) (N := some 13) #[true, true, true, true, true, true, true, true, true, true, false, false, false] rfl rfl (one_of HT_.out (by kernel_rfl)) (by decide) (fun K hK => ?_)
    refine R_app_step Kd.string base (by rfl) (.tmp 10) (.tmp 12) 22 9 iS (.string ⟨#[]⟩) 16 rfl Try.underlying22 hiS hzS hsS hbS rfl (by decide) _ (notKey key o) key [.string key] (fun _ => True) (fun _ => False) rfl ⟨bl, 0, none⟩ rfl (cell_one HL3.out) rfl (fun k hk => hk.elim) (fun _ _ => trivial) HV3.out (Nat.le_trans HS.out HT3.out.size) (by have := HLN.out; unfold maxLen; omega) (by have := HLN.out; omega) ?_
    intro v3 W8 hR8 hg8 _
    obtain ⟨A8, c8, e8⟩ := Kd.R_slice hR8
    obtain ⟨n8, hn8⟩ : ∃ n, (notKey key o ++ [key]).length = n := ⟨_, rfl⟩
    rw [hn8] at e8
    subst e8
    clear hn8
    have HB8 := Aside0.mk (blk_grown HB3.out hg8 (Kd.R_ne HV3.out HB3.out (by decide)))
    have HM8 := Aside0.mk (HM3.out.ordGrown HV3.out hg8)
    have HT8 := Aside0.mk (HT3.out.trans (Turn.of_ord HV3.out hg8))
    have HV8 := Aside0.mk hR8
    have HK8 := Aside0.mk (blk_grown HK3.out hg8 HKV.out)
    clear hR8 hg8
    refine hK.out _ _ ⟨(blk_cell HB8.out 2).trans rfl, (blk_cell HK8.out 0).trans rfl⟩ (fun hHeld => ?_)
    clear hK K
    refine norm_ (a' := ?_) ?_ ?_
    rotate_left
    · show Act.put _ (some 13) _ = _
      simp only [Act.put, List.setIfInBounds_toArray, List.set_cons_zero, List.set_cons_succ, i64_w, i32_w]
      rfl
    refine pure_ (i := 10) (N := some 14) (v := ?_) (a' := ?_) #[true, true, true, true, true, true, true, true, true, true, true, false, false] rfl rfl (any_of HT_.out (by kernel_rfl)) (fun _ _ _ h => h) (Or.inl ⟨by rfl, ?_⟩) ?_ ?_
    rotate_left
    · intro w'
      go_simp
      with_reducible rfl
    rotate_left
    · simp only [Act.put, List.setIfInBounds_toArray, List.set_cons_zero, List.set_cons_succ, i64_w, i32_w]
      rfl
    refine pure_ (i := 11) (N := some 15) (v := ?_) (a' := ?_) #[true, true, true, true, true, true, true, true, true, true, true, true, false] rfl rfl (any_of HT_.out (by kernel_rfl)) (fun _ _ _ h => h) (Or.inl ⟨by rfl, ?_⟩) ?_ ?_
    rotate_left
    · intro w'
      go_simp
      with_reducible rfl
    rotate_left
    · simp only [Act.put, List.setIfInBounds_toArray, List.set_cons_zero, List.set_cons_succ, i64_w, i32_w]
      rfl
    refine last_ (i := 12) (N := none) #[true, true, true, true, true, true, true, true, true, true, true, true, true] rfl rfl (one_of HT_.out (by kernel_rfl)) (by decide) (fun K hK => ?_)
    refine step_list rfl (by rfl) ?_
    have z0 := (blk_cell HB8.out 2).trans rfl
    have z1 := blk_frozen HB8.out 2
    unfold Oper.wp
    go_simp
    refine hK.out _ _ ?_
    clear hK K z0 z1
    refine done_ (done_of HT_.out (by kernel_rfl)) ?_
    refine NoPanic.normal ?_
    clear HT_ HW_ hHeld
    try go_wp2_with fail
    go_end0
    have HF := CInv.setOrd HB8.out HM8.out HV8.out HI.out.hC HI.out.hM
    exact ⟨rfl, _, HF, HT8.out.trans (Turn.of_cache (grownBy_set _ _ _ _))⟩
end Go.Proofs.Ytjpbcmfppmiagaa.Print
