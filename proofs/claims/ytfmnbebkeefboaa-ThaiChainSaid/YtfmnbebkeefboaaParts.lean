/- thai.Parts: the words of a run. -/
import Derived.Test.YtfmnbebkeefboaaReach
namespace Go.Proofs.Ytfmnbebkeefboaa.Print
open Go.RowKit Go.Maps Go.Proofs.YtfmnbebkeefboaaW.PrintWords Go.Proofs.YtfmnbebkeefboaaW.PrintLast Go.Proofs.YtfmnbebkeefboaaW.PrintMore
set_option linter.unusedVariables false
set_option linter.unusedSimpArgs false

def better_T1 : Bool × List (List Nat × List Nat) := (true, [([], []), ([], []), ([0, 1], [0, 1]), ([], []), ([], []), ([3, 4, 2], [3, 4]), ([2, 5, 5], [2, 5]), ([], []), ([], []), ([7, 8, 6], [7, 8]), ([6, 9], [6, 9]), ([10, 9], [10]), ([11, 11, 0, 1, 2, 3, 4, 5, 6, 7, 8, 9, 10, 11], [11])])
def better_B1 : List Nat := [0, 0, 3, 0, 0, 31, 63, 0, 0, 511, 1023, 2047, 4095]
theorem better_tab1 : rtab .any (opsOf Try.f17 1) = better_T1 := by kernel_rfl
theorem better_bits1 : waitsOk better_T1.2 better_B1 = true := by kernel_rfl
/-! ### which word is better -/
def orI (a b : Int) : Int := if a = 0 then b else a
set_option maxHeartbeats 16000000 in
set_option maxRecDepth 100000 in
theorem or_calls (a b : Int) (B : Nat) (W : World) (hB : W.heap[B]? = some (.cells #[.int .i64 a, .int .i64 b] 3 (0, 0))) : Calls Try.prog 18 #[.slice (some ⟨B, 0, none⟩) 2 2] W fun e w' => e = .returned (.int .i64 (orI a b)) ∧ w' = W := by
  have c0 := (blk_cell hB 0).trans rfl
  have c1 := (blk_cell hB 1).trans rfl
  clear hB
  go_enter Try.func18, Try.ntmps18
  go_wp2_with fail
  go_loopg [8] 2 (fun kq v8 w' => w' = W ∧ ((kq = 2 ∧ v8 = .int .i64 0) ∨ (kq = 1 ∧ v8 = .int .i64 1 ∧ Aside0 (a = 0)) ∨ (kq = 0 ∧ v8 = .int .i64 2 ∧ Aside0 (a = 0) ∧ Aside0 (b = 0))))
  case atStart => exact ⟨rfl, .inl ⟨rfl, rfl⟩⟩
  case round =>
    obtain ⟨rfl, ⟨rfl, rfl⟩ | ⟨rfl, rfl, HA⟩ | ⟨rfl, rfl, HA, HB⟩⟩ := hrel
    · by_cases q : a = 0
      · have HA := Aside0.mk q
        have qb : (a != 0) = false := bne_eq_false_iff_eq.2 q
        clear q
        go_wp2_with fail
        go_roundg 1
        case measure => omega
        case rel => exact ⟨rfl, .inr (.inl ⟨rfl, rfl, HA⟩)⟩
      · have HA := Aside0.mk (show orI a b = a by unfold orI; rw [if_neg q])
        have qb : (a != 0) = true := bne_iff_ne.2 q
        clear q
        go_wp2_with fail
        go_ret
        rw [HA.out]
        exact ⟨rfl, rfl⟩
    · by_cases q : b = 0
      · have HB := Aside0.mk q
        have qb : (b != 0) = false := bne_eq_false_iff_eq.2 q
        clear q
        go_wp2_with fail
        go_roundg 0
        case measure => omega
        case rel => exact ⟨rfl, .inr (.inr ⟨rfl, rfl, HA, HB⟩)⟩
      · have HB := Aside0.mk (show orI a b = b by unfold orI; rw [if_pos HA.out])
        have qb : (b != 0) = true := bne_iff_ne.2 q
        clear q
        go_wp2_with fail
        go_ret
        rw [HB.out]
        exact ⟨rfl, rfl⟩
    · go_wp2_with fail
      go_ret
      refine ⟨?_, rfl⟩
      unfold orI
      rw [if_pos HA.out, HB.out]
      rfl
/-- How two places compare: by how far two words lead, then by themselves. -/
def betterF (T : Int → List Int) (a b : Int) : Int := orI (Lib.compareInt (reachT T 2 a) (reachT T 2 b)) (Lib.compareInt a b)
set_option maxHeartbeats 16000000 in
set_option maxRecDepth 100000 in
theorem better_calls (base MB PB : Nat) (T : Int → List Int) (hT : InRun T) (a b : Int) (W : World) (ha : 0 ≤ a ∧ a ≤ 5000) (hb : 0 ≤ b ∧ b ≤ 5000) (hE : EndsI base MB 100000 T W) {t : Nat} (hP : W.heap[PB]? = some (.cells #[.map (some MB)] t (0, 0))) :
    Calls Try.prog 17 #[.int .i64 a, .int .i64 b, .pointer (some ⟨PB, 0, none⟩)] W fun e w' => e = .returned (.int .i64 (betterF T a b)) ∧ Below W.heap.size W w' := by
  have HE := Aside0.mk hE
  have HP := Aside0.mk hP
  have HCA := Aside0.mk (fun (w : World) (h : EndsI base MB 100000 T w) => reach_calls base MB T hT 2 2 a w rfl (by omega) ha h)
  have HCB := Aside0.mk (fun (w : World) (h : EndsI base MB 100000 T w) => reach_calls base MB T hT 2 2 b w rfl (by omega) hb h)
  clear ha hb hE hP
  obtain ⟨ra, hra⟩ : ∃ r, reachT T 2 a = r := ⟨_, rfl⟩
  obtain ⟨rb, hrb⟩ : ∃ r, reachT T 2 b = r := ⟨_, rfl⟩
  have HRS := Aside0.mk (show betterF T a b = orI (Lib.compareInt ra rb) (Lib.compareInt a b) by unfold betterF; rw [hra, hrb])
  rw [hra] at HCA
  rw [hrb] at HCB
  clear hra hrb
  obtain ⟨c1, hc1⟩ : ∃ c, Lib.compareInt ra rb = c := ⟨_, rfl⟩
  obtain ⟨c2, hc2⟩ : ∃ c, Lib.compareInt a b = c := ⟨_, rfl⟩
  rw [hc1, hc2] at HRS
  have HC1 := Aside0.mk (fun w => Try.cmp_Compare_int ra rb w)
  have HC2 := Aside0.mk (fun w => Try.cmp_Compare_int a b w)
  rw [hc1] at HC1
  rw [hc2] at HC2
  clear hc1 hc2
  go_enter Try.func17, Try.ntmps17
  go_upto_region 1 with fail
  have HB2 := Aside0.mk (below_drew (Below.refl W.heap.size W))
  refine wp_region_noPanic ?_
  refine start_ (n := 13) (S := fun w' => w'.cell? ⟨PB, 0, none⟩ = some (.map (some MB))) (ds := []) #[false, false, false, false, false, false, false, false, false, false, false, false, false] (by kernel_rfl) rfl rfl ((blk_cell (blk_below HP.out HB2.out) 0).trans rfl) (fun hHeld => ?_); refine with_tabW better_tab1 better_bits1 (fun HT_ HW_ => ?_)
  obtain ⟨W2, hW2⟩ : ∃ w, W.drew = w := ⟨_, rfl⟩
  rw [hW2] at HB2 hHeld ⊢
  clear hW2
  refine take_ (i := 0) (N := some 6) (v := ?_) (a' := ?_) #[true, false, false, false, false, false, false, false, false, false, false, false, false] rfl rfl (take_ofW HT_.out HW_.out (by kernel_rfl)) (fun _ _ _ h => h) (Or.inl ⟨by rfl, ?_⟩) hHeld ?_ ?_
  rotate_left
  · rintro w' s0
    go_simp
    with_reducible rfl
  rotate_left
  · simp only [Act.put, List.setIfInBounds_toArray, List.set_cons_zero, List.set_cons_succ, i64_w, i32_w]
    rfl
  refine pure_ (i := 1) (N := some 7) (v := ?_) (a' := ?_) #[true, true, false, false, false, false, false, false, false, false, false, false, false] rfl rfl (any_of HT_.out (by kernel_rfl)) (fun _ _ _ h => h) (Or.inl ⟨by rfl, ?_⟩) ?_ ?_
  rotate_left
  · intro w'
    go_simp
    with_reducible rfl
  rotate_left
  · simp only [Act.put, List.setIfInBounds_toArray, List.set_cons_zero, List.set_cons_succ, i64_w, i32_w]
    rfl
  refine take_ (i := 3) (N := some 9) (v := ?_) (a' := ?_) #[true, true, false, true, false, false, false, false, false, false, false, false, false] rfl rfl (take_ofW HT_.out HW_.out (by kernel_rfl)) (fun _ _ _ h => h) (Or.inl ⟨by rfl, ?_⟩) hHeld ?_ ?_
  rotate_left
  · rintro w' s0
    go_simp
    with_reducible rfl
  rotate_left
  · simp only [Act.put, List.setIfInBounds_toArray, List.set_cons_zero, List.set_cons_succ, i64_w, i32_w]
    rfl
  refine pure_ (i := 4) (N := some 10) (v := ?_) (a' := ?_) #[true, true, false, true, true, false, false, false, false, false, false, false, false] rfl rfl (any_of HT_.out (by kernel_rfl)) (fun _ _ _ h => h) (Or.inl ⟨by rfl, ?_⟩) ?_ ?_
  rotate_left
  · intro w'
    go_simp
    with_reducible rfl
  rotate_left
  · simp only [Act.put, List.setIfInBounds_toArray, List.set_cons_zero, List.set_cons_succ, i64_w, i32_w]
    rfl
  refine pure_ (i := 7) (N := some 13) (v := ?_) (a' := ?_) #[true, true, false, true, true, false, false, true, false, false, false, false, false] rfl rfl (any_of HT_.out (by kernel_rfl)) (fun _ _ _ h => h) (Or.inl ⟨by rfl, ?_⟩) ?_ ?_
  rotate_left
  · intro w'
    go_simp
    with_reducible rfl
  rotate_left
  · simp only [Act.put, List.setIfInBounds_toArray, List.set_cons_zero, List.set_cons_succ, i64_w, i32_w]
    rfl
  refine pure_ (i := 8) (N := some 14) (v := ?_) (a' := ?_) #[true, true, false, true, true, false, false, true, true, false, false, false, false] rfl rfl (any_of HT_.out (by kernel_rfl)) (fun _ _ _ h => h) (Or.inl ⟨by rfl, ?_⟩) ?_ ?_
  rotate_left
  · intro w'
    go_simp
    with_reducible rfl
  rotate_left
  · simp only [Act.put, List.setIfInBounds_toArray, List.set_cons_zero, List.set_cons_succ, i64_w, i32_w]
    rfl
  refine one_ (i := 2) (N := some 8) #[true, true, true, true, true, false, false, true, true, false, false, false, false] rfl rfl (one_of HT_.out (by kernel_rfl)) (by decide) (fun K hK => ?_)
  refine goes_ Try.func20 (by kernel_rfl) rfl #[.map (some MB), .int .i64 a, .int .i64 2] (by rfl) rfl rfl (by (try simp only [List.map_toArray, List.map_cons, List.map_nil]); first | done | rfl) ?_
  refine (HCA.out W2 (HE.out.later HB2.out)).mono ?_
  rintro e W3 ⟨rfl, hb_⟩
  have HB3 := Aside0.mk (below_step HB2.out hb_)
  clear hb_
  refine ⟨_, rfl, ?_⟩
  refine hK.out _ _ ((blk_cell (blk_below HP.out HB3.out) 0).trans rfl) (fun hHeld => ?_)
  clear hK K
  refine norm_ (a' := ?_) ?_ ?_
  rotate_left
  · show Act.put _ (some 8) _ = _
    simp only [Act.put, List.setIfInBounds_toArray, List.set_cons_zero, List.set_cons_succ, i64_w, i32_w]
    rfl
  refine one_ (i := 5) (N := some 11) #[true, true, true, true, true, true, false, true, true, false, false, false, false] rfl rfl (one_of HT_.out (by kernel_rfl)) (by decide) (fun K hK => ?_)
  refine goes_ Try.func20 (by kernel_rfl) rfl #[.map (some MB), .int .i64 b, .int .i64 2] (by rfl) rfl rfl (by (try simp only [List.map_toArray, List.map_cons, List.map_nil]); first | done | rfl) ?_
  refine (HCB.out W3 (HE.out.later HB3.out)).mono ?_
  rintro e W4 ⟨rfl, hb_⟩
  have HB4 := Aside0.mk (below_step HB3.out hb_)
  clear hb_
  refine ⟨_, rfl, ?_⟩
  refine hK.out _ _ ((blk_cell (blk_below HP.out HB4.out) 0).trans rfl) (fun hHeld => ?_)
  clear hK K
  refine norm_ (a' := ?_) ?_ ?_
  rotate_left
  · show Act.put _ (some 11) _ = _
    simp only [Act.put, List.setIfInBounds_toArray, List.set_cons_zero, List.set_cons_succ, i64_w, i32_w]
    rfl
  refine one_ (i := 6) (N := some 12) #[true, true, true, true, true, true, true, true, true, false, false, false, false] rfl rfl (one_of HT_.out (by kernel_rfl)) (by decide) (fun K hK => ?_)
  refine goes_ Try.func19 (by kernel_rfl) rfl #[.int .i64 ra, .int .i64 rb] (by rfl) rfl rfl (by (try simp only [List.map_toArray, List.map_cons, List.map_nil]); first | done | rfl) ?_
  refine (HC1.out W4).mono ?_
  rintro e w_ ⟨rfl, hw⟩
  replace hw := hw.symm
  subst hw
  refine ⟨_, rfl, ?_⟩
  refine hK.out _ _ ((blk_cell (blk_below HP.out HB4.out) 0).trans rfl) (fun hHeld => ?_)
  clear hK K
  refine norm_ (a' := ?_) ?_ ?_
  rotate_left
  · show Act.put _ (some 12) _ = _
    simp only [Act.put, List.setIfInBounds_toArray, List.set_cons_zero, List.set_cons_succ, i64_w, i32_w]
    rfl
  refine one_ (i := 9) (N := some 15) #[true, true, true, true, true, true, true, true, true, true, false, false, false] rfl rfl (one_of HT_.out (by kernel_rfl)) (by decide) (fun K hK => ?_)
  refine goes_ Try.func19 (by kernel_rfl) rfl #[.int .i64 a, .int .i64 b] (by rfl) rfl rfl (by (try simp only [List.map_toArray, List.map_cons, List.map_nil]); first | done | rfl) ?_
  refine (HC2.out W4).mono ?_
  rintro e w_ ⟨rfl, hw⟩
  replace hw := hw.symm
  subst hw
  refine ⟨_, rfl, ?_⟩
  refine hK.out _ _ ((blk_cell (blk_below HP.out HB4.out) 0).trans rfl) (fun hHeld => ?_)
  clear hK K
  refine norm_ (a' := ?_) ?_ ?_
  rotate_left
  · show Act.put _ (some 15) _ = _
    simp only [Act.put, List.setIfInBounds_toArray, List.set_cons_zero, List.set_cons_succ, i64_w, i32_w]
    rfl
  refine one_ (i := 10) (N := some 16) #[true, true, true, true, true, true, true, true, true, true, true, false, false] rfl rfl (one_of HT_.out (by kernel_rfl)) (by decide) (fun K hK => ?_)
  refine step_list rfl (by rfl) ?_
  unfold Oper.wp
  go_simp
  have HB5 := Aside0.mk (below_alloc HB4.out (.cells #[.int .i64 c1, .int .i64 c2] 3))
  have HBX := Aside0.mk (blk_new W4 (.cells #[.int .i64 c1, .int .i64 c2] 3))
  refine hK.out _ _ ((blk_cell (blk_below HP.out HB5.out) 0).trans rfl) (fun hHeld => ?_)
  clear hK K
  obtain ⟨BX, hBX⟩ : ∃ n, W4.heap.size = n := ⟨_, rfl⟩
  rw [hBX] at HBX ⊢
  clear hBX
  generalize W4.alloc (.cells #[.int .i64 c1, .int .i64 c2] 3) = W5 at *
  refine one_ (i := 11) (N := some 17) #[true, true, true, true, true, true, true, true, true, true, true, true, false] rfl rfl (one_of HT_.out (by kernel_rfl)) (by decide) (fun K hK => ?_)
  refine goes_ Try.func18 (by kernel_rfl) rfl #[.slice (some ⟨BX, 0, none⟩) 2 2] (by rfl) rfl rfl (by (try simp only [List.map_toArray, List.map_cons, List.map_nil]); first | done | rfl) ?_
  refine (or_calls c1 c2 BX W5 HBX.out).mono ?_
  rintro e w_ ⟨rfl, hw⟩
  replace hw := hw.symm
  subst hw
  have HB7 := Aside0.mk HB5.out
  refine ⟨_, rfl, ?_⟩
  refine hK.out _ _ ((blk_cell (blk_below HP.out HB5.out) 0).trans rfl) (fun hHeld => ?_)
  clear hK K
  refine norm_ (a' := ?_) ?_ ?_
  rotate_left
  · show Act.put _ (some 17) _ = _
    simp only [Act.put, List.setIfInBounds_toArray, List.set_cons_zero, List.set_cons_succ, i64_w, i32_w]
    rfl
  refine pure_ (i := 12) (N := some 5) (v := ?_) (a' := ?_) #[true, true, true, true, true, true, true, true, true, true, true, true, true] rfl rfl (any_of HT_.out (by kernel_rfl)) (fun _ _ _ h => h) (Or.inl ⟨by rfl, ?_⟩) ?_ ?_
  rotate_left
  · intro w'
    go_simp
    with_reducible rfl
  rotate_left
  · simp only [Act.put, List.setIfInBounds_toArray, List.set_cons_zero, List.set_cons_succ, i64_w, i32_w]
    rfl
  refine done_ (done_of HT_.out (by kernel_rfl)) ?_
  refine NoPanic.normal ?_
  clear HT_ HW_ hHeld
  go_wp2_with fail
  go_ret
  rw [HRS.out]
  exact ⟨rfl, HB7.out⟩
/-! ### the best of a row -/
def pickM (T : Int → List Int) : Int → List Int → Int
  | m, [] => m
  | m, t :: r => pickM T (if 0 < betterF T t m then t else m) r
set_option maxHeartbeats 16000000 in
set_option maxRecDepth 100000 in
theorem max_calls (base MB PB : Nat) (T : Int → List Int) (hT : InRun T) (W : World) (hE : EndsI base MB 100000 T W) {t : Nat} (hP : W.heap[PB]? = some (.cells #[.map (some MB)] t (0, 0))) (b0 : Nat) (A : Option Addr) (c : Nat) (m : Int) (xs : List Int) (hR : Kd.R (Kd.int .i64) 3 W b0 (fun _ => True) (.slice A (m :: xs).length c) (m :: xs)) (hxl : (m :: xs).length ≤ 100000) (hx : ∀ t ∈ m :: xs, 0 ≤ t ∧ t ≤ 5000) :
    Calls Try.prog 21 #[.slice A (m :: xs).length c, .func (.func 17) #[] #[.pointer (some ⟨PB, 0, none⟩)]] W fun e w' => e = .returned (.int .i64 (pickM T m xs)) ∧ Below W.heap.size W w' := by
  have eg := fun args w => enters_ Try.func17 (by kernel_rfl) rfl args w
  have HE := Aside0.mk hE
  have HP := Aside0.mk hP
  have HT := Aside0.mk hT
  have HR := Aside0.mk hR
  obtain ⟨ys, hys⟩ : ∃ ys, m :: xs = ys := ⟨_, rfl⟩
  have HYS := Aside0.mk hys
  rw [hys] at HR hxl hx ⊢
  have HXL := Aside0.mk hxl
  have HX := Aside0.mk hx
  have hn : 1 ≤ ys.length := by rw [← hys]; simp
  have HN := Aside0.mk hn
  obtain ⟨go, cap, cur, e0, _⟩ := own_form HR.out (fun e => by rw [e] at hn; simp at hn)
  injection e0 with e1 _ e3
  subst e1
  subst e3
  have n1 : ¬ (ys.length : Int) < 1 := by omega
  have n2 : ¬ ys.length < 1 := by omega
  have n3 : (0 < ys.length) = True := eq_true (by omega)
  have c0 : W.cell? ⟨go, 0, none⟩ = some (.int .i64 m) := by
    have h := (R_cellg HR.out 0 (by omega)).1
    rw [show rd ys ((0 : Nat) : Int) = m by rw [← hys]; rfl] at h
    exact h
  clear hE hP hT hR hys hxl hx hn
  go_enter Try.func21, Try.ntmps21
  go_wp2_with fail
  go_loopg [5, 6] ys.length (fun kq v5 v6 w' => ∃ (i : Nat) (b : Int), v5 = .int .i64 b ∧ v6 = .int .i64 i ∧ Aside0 (i + kq = ys.length + 1 ∧ 1 ≤ i ∧ i ≤ ys.length) ∧ Aside0 (0 ≤ b ∧ b ≤ 5000) ∧ Aside0 (pickM T b (ys.drop i) = pickM T m xs) ∧ Aside0 (Below W.heap.size W w'))
  case atStart => exact ⟨1, m, rfl, rfl, ⟨by have := HN.out; omega⟩, ⟨HX.out m (by rw [← HYS.out]; exact List.mem_cons_self ..)⟩, ⟨by rw [← HYS.out]; rfl⟩, ⟨Below.refl _ _⟩⟩
  case round =>
    clear c0
    obtain ⟨i, b, rfl, rfl, HG, HBB, HPK, HB⟩ := hrel
    by_cases q : i < ys.length
    · have qb : decide ((i : Int) < (ys.length : Int)) = true := decide_eq_true (by omega)
      have q1 : ((i : Int) < (ys.length : Int)) = True := eq_true (by omega)
      have q2 : (i < ys.length) = True := eq_true q
      have HRr := Aside0.mk (Kd.R_below HR.out HB.out)
      have hx := (R_cellg HRr.out i q).1
      have HQ := Aside0.mk q
      have HTI := Aside0.mk (HX.out _ (rdI_mem q))
      have HDR := Aside0.mk (show ys.drop i = rd ys (i : Int) :: ys.drop (i + 1) from rdI_drop q)
      have HNX := Aside0.mk (fun (W1 : World) (hb : Below wr.heap.size wr W1) => (R_cellg (Kd.R_below HRr.out hb) i q).1)
      obtain ⟨t, ht⟩ : ∃ t, rd ys (i : Int) = t := ⟨_, rfl⟩
      rw [ht] at hx HTI HDR HNX
      have HP2 := Aside0.mk (show pickM T (if 0 < betterF T t b then t else b) (ys.drop (i + 1)) = pickM T m xs by have h := HPK.out; rw [HDR.out, pickM] at h; exact h)
      clear ht q
      go_wp2_with fail
      refine (better_calls base MB PB T HT.out t b wr HTI.out HBB.out (HE.out.later HB.out) (blk_below HP.out HB.out)).mono ?_
      rintro e W1 ⟨rfl, hb1⟩
      have hx1 := HNX.out W1 hb1
      have HB1 := Aside0.mk (below_step HB.out hb1)
      clear hb1 hx HNX
      by_cases qq : 0 < betterF T t b
      · rw [if_pos qq] at HP2
        obtain ⟨rr, hrr⟩ : ∃ r, betterF T t b = r := ⟨_, rfl⟩
        rw [hrr] at qq ⊢
        clear hrr
        have qqb : decide (0 < rr) = true := decide_eq_true qq
        clear qq
        go_wp2_with fail
        go_roundg (gk - 1)
        case measure => have := HQ.out; have := HG.out; omega
        case rel => exact ⟨i + 1, t, rfl, (by first | rfl | (rw [wrap_succ (by have := HQ.out; have := HXL.out; omega)])), ⟨by have := HQ.out; have := HG.out; omega⟩, HTI, HP2, HB1⟩
      · rw [if_neg qq] at HP2
        obtain ⟨rr, hrr⟩ : ∃ r, betterF T t b = r := ⟨_, rfl⟩
        rw [hrr] at qq ⊢
        clear hrr
        have qqb : decide (0 < rr) = false := decide_eq_false qq
        clear qq
        go_wp2_with fail
        go_roundg (gk - 1)
        case measure => have := HQ.out; have := HG.out; omega
        case rel => exact ⟨i + 1, b, rfl, (by first | rfl | (rw [wrap_succ (by have := HQ.out; have := HXL.out; omega)])), ⟨by have := HQ.out; have := HG.out; omega⟩, HBB, HP2, HB1⟩
    · obtain rfl : i = ys.length := by have := HG.out; omega
      have qb : decide ((ys.length : Int) < (ys.length : Int)) = false := decide_eq_false (by omega)
      rw [List.drop_length, pickM] at HPK
      go_wp2_with fail
      go_ret
      exact ⟨by rw [← HPK.out]; rfl, HB.out⟩
end Go.Proofs.Ytfmnbebkeefboaa.Print
