/- The reference's New, Resize, Keys. -/
import Derived.Test.YtjpbcmfppmiagaaKeptD
namespace Go.Proofs.Ytjpbcmfppmiagaa.Print
open Go.RowKit Go.Maps Go.Proofs.YtjpbcmfppmiagaaW.PrintWords Go.Proofs.YtjpbcmfppmiagaaW.PrintLast Go.Proofs.YtjpbcmfppmiagaaW.PrintMore
set_option linter.unusedVariables false
set_option linter.unusedSimpArgs false

def rres_T5 : Bool × List (List Nat × List Nat) := (true, [([], []), ([], []), ([1], [1]), ([2], [2]), ([3], [3]), ([], []), ([5], [5]), ([6], [6]), ([7], [7]), ([8], [8]), ([], []), ([9, 10], [9, 10]), ([4, 11], [4, 11]), ([0, 0, 1, 2, 3, 4, 5, 6, 7, 8, 9, 10, 11, 12], [0]), ([13, 0, 1, 2, 3, 4, 5, 6, 7, 8, 9, 10, 11, 12], [13]), ([14, 12, 0, 1, 2, 3, 4, 5, 6, 7, 8, 9, 10, 11, 12], [12, 14])])
def rres_B5 : List Nat := [0, 0, 2, 6, 14, 0, 32, 96, 224, 480, 0, 2016, 4094, 8191, 16383, 32767]
theorem rres_tab5 : rtab .any (opsOf Try.f31 5) = rres_T5 := by kernel_rfl
theorem rres_bits5 : waitsOk rres_T5.2 rres_B5 = true := by kernel_rfl
theorem rnew_bad (n : Int) (W : World) (hn : rightN n = false) : Calls Try.prog 16 #[.int .i64 n] W fun e w' => e = .returned (.tuple #[.pointer none, .int .i64 1]) ∧ Below W.heap.size W w' := by
  have hn2 : ¬ (0 ≤ n ∧ n ≤ 1000) := of_decide_eq_false hn
  clear hn
  go_enter Try.func16, Try.ntmps16
  by_cases q : n < 0
  · have qb : decide (n < 0) = true := decide_eq_true q
    go_wp2_with fail
    go_ret2
    exact ⟨rfl, Below.refl _ _⟩
  · have qb : decide (n < 0) = false := decide_eq_false q
    have qc : decide (1000 < n) = true := decide_eq_true (by omega)
    go_wp2_with fail
    go_ret2
    exact ⟨rfl, Below.refl _ _⟩
theorem rnew_good (n : Int) (W : World) (base : Nat) (hn : rightN n = true) : Calls Try.prog 16 #[.int .i64 n] W fun e w' => ∃ RB, e = .returned (.tuple #[.pointer (some ⟨RB, 0, none⟩), .int .i64 0]) ∧ RInv base RB none 0 n [] 0 0 w' ∧ Below W.heap.size W w' ∧ W.heap.size ≤ RB := by
  have hn2 : 0 ≤ n ∧ n ≤ 1000 := of_decide_eq_true hn
  have qb : decide (n < 0) = false := decide_eq_false (by omega)
  have qc : decide (1000 < n) = false := decide_eq_false (by omega)
  clear hn hn2
  go_enter Try.func16, Try.ntmps16
  go_wp2_with fail
  go_ret2
  exact ⟨_, rfl, ⟨blk_new W (.cells #[.int .i64 n, .slice none 0 0, .int .i64 0, .int .i64 0] 55), Kept.nil _ _⟩, below_alloc (Below.refl _ _) _, Nat.le_refl _⟩
theorem rresize_bad (n : Int) (ad : Option Addr) (W : World) (hn : rightN n = false) : Calls Try.prog 31 #[.pointer ad, .int .i64 n] W fun e w' => e = .returned (.int .i64 1) ∧ Below W.heap.size W w' := by
  have hn2 : ¬ (0 ≤ n ∧ n ≤ 1000) := of_decide_eq_false hn
  clear hn
  go_enter Try.func31, Try.ntmps31
  by_cases q : n < 0
  · have qb : decide (n < 0) = true := decide_eq_true q
    go_wp2_with fail
    go_ret
    exact ⟨rfl, Below.refl _ _⟩
  · have qb : decide (n < 0) = false := decide_eq_false q
    have qc : decide (1000 < n) = true := decide_eq_true (by omega)
    go_wp2_with fail
    go_ret
    exact ⟨rfl, Below.refl _ _⟩
/-- The last n. -/
def lastK (n : Nat) (ks : List S65) : List S65 := ks.drop (ks.length - n)
set_option maxHeartbeats 16000000 in
set_option maxRecDepth 100000 in
theorem rresize_good (base RB : Nat) (A : Option Addr) (c : Nat) (most : Int) (ks : List S65) (h nt : Int) (W : World) (n : Nat) (hi : RInv base RB A c most ks h nt W) (hb : base ≤ W.heap.size) (hl : ks.length ≤ 100000) (hn : rightN n = true) :
    Calls Try.prog 31 #[.pointer (some ⟨RB, 0, none⟩), .int .i64 n] W fun e w' => e = .returned (.int .i64 0) ∧ (∃ A' c', RInv base RB A' c' n (lastK n ks) h nt w') ∧ W.grownBy w' (some RB) := by
  have hn2 : 0 ≤ (n : Int) ∧ (n : Int) ≤ 1000 := of_decide_eq_true hn
  have qb : decide ((n : Int) < 0) = false := decide_eq_false (by omega)
  have qc : decide (1000 < (n : Int)) = false := decide_eq_false (by omega)
  have qd : (1000 < n) = False := eq_false (by omega)
  have HI := Aside0.mk hi
  have HS := Aside0.mk hb
  have HL := Aside0.mk hl
  have HN := Aside0.mk hn2
  have c0 := hi.cells.1
  have f0 := blk_frozen hi.blk 0
  have c1 := hi.cells.2.1
  clear hi hb hl hn hn2
  have HI1 := Aside0.mk (HI.out.field 0 (.int .i64 n) (most' := n) rfl)
  have HG1 := Aside0.mk (grownBy_set W RB 0 (.int .i64 n))
  have z1 := HI1.out.cells.2.1
  by_cases q : n < ks.length
  · have q2 : decide ((n : Int) < (ks.length : Int)) = true := decide_eq_true (by omega)
    have q3 : (n < ks.length) = True := eq_true q
    have HQ := Aside0.mk q
    go_enter Try.func31, Try.ntmps31
    go_upto_region 5 with fail
    generalize W.setCell ⟨RB, 0, none⟩ (.int .i64 n) = W1 at *
    have hq := HQ.out
    obtain ⟨ad, ead, _⟩ := HI1.out.row.row.2.2 (by omega)
    subst ead
    clear c0 f0 c1 z1
    have HI2 := Aside0.mk (HI1.out.later (below_drew (Below.refl _ _)))
    have HG2 := Aside0.mk (HG1.out.trans (grownBy_below (below_drew (Below.refl W1.heap.size W1)) (some RB)))
    refine wp_region_noPanic ?_
    refine start_ (n := 16) (S := fun w' => w'.cell? ⟨RB, 1, none⟩ = some (.slice (some ad) ks.length c)) (ds := [15]) #[false, false, false, false, false, false, false, false, false, false, false, false, false, false, false, false] (by kernel_rfl) rfl rfl ((blk_cell HI2.out.blk 1).trans rfl) (fun hHeld => ?_); refine with_tabW rres_tab5 rres_bits5 (fun HT_ HW_ => ?_)
    obtain ⟨W2, hW2⟩ : ∃ w, W1.drew = w := ⟨_, rfl⟩
    rw [hW2] at HI2 HG2 hHeld ⊢
    clear hW2 hq
    obtain ⟨j, hj⟩ : ∃ j : Nat, ks.length - n = j := ⟨_, rfl⟩
    have HJ := Aside0.mk hj
    clear hj
    have hj1 : (j ≤ ks.length) = True := eq_true (by have := HJ.out; omega)
    have hj2 : (0 ≤ (j : Int) ∧ (j : Int) ≤ (ks.length : Int)) = True := eq_true (by have := HJ.out; omega)
    have hwr : wrap64 ((ks.length : Int) - (n : Int)) = (j : Int) := by have := HJ.out; have := HQ.out; have := HL.out; clear hj1 hj2; unfold wrap64; omega
    refine pure_ (i := 0) (N := some 22) (v := ?_) (a' := ?_) #[true, false, false, false, false, false, false, false, false, false, false, false, false, false, false, false] rfl rfl (any_of HT_.out (by kernel_rfl)) (fun _ _ _ h => h) (Or.inl ⟨by rfl, ?_⟩) ?_ ?_
    rotate_left
    · intro w'
      go_simp
      with_reducible rfl
    rotate_left
    · simp only [Act.put, List.setIfInBounds_toArray, List.set_cons_zero, List.set_cons_succ, i64_w, i32_w]
      rfl
    refine pure_ (i := 1) (N := some 23) (v := ?_) (a' := ?_) #[true, true, false, false, false, false, false, false, false, false, false, false, false, false, false, false] rfl rfl (any_of HT_.out (by kernel_rfl)) (fun _ _ _ h => h) (Or.inl ⟨by rfl, ?_⟩) ?_ ?_
    rotate_left
    · intro w'
      go_simp
      with_reducible rfl
    rotate_left
    · simp only [Act.put, List.setIfInBounds_toArray, List.set_cons_zero, List.set_cons_succ, i64_w, i32_w]
      rfl
    refine pure_ (i := 2) (N := some 24) (v := ?_) (a' := ?_) #[true, true, true, false, false, false, false, false, false, false, false, false, false, false, false, false] rfl rfl (any_of HT_.out (by kernel_rfl)) (fun _ _ _ h => h) (Or.inl ⟨by rfl, ?_⟩) ?_ ?_
    rotate_left
    · intro w'
      go_simp
      with_reducible rfl
    rotate_left
    · simp only [Act.put, List.setIfInBounds_toArray, List.set_cons_zero, List.set_cons_succ, i64_w, i32_w]
      rfl
    refine pure_ (i := 3) (N := some 25) (v := ?_) (a' := ?_) #[true, true, true, true, false, false, false, false, false, false, false, false, false, false, false, false] rfl rfl (any_of HT_.out (by kernel_rfl)) (fun _ _ _ h => h) (Or.inl ⟨by rfl, ?_⟩) ?_ ?_
    rotate_left
    · intro w'
      go_simp
      with_reducible rfl
    rotate_left
    · simp only [Act.put, List.setIfInBounds_toArray, List.set_cons_zero, List.set_cons_succ, i64_w, i32_w]
      rfl
    refine take_ (i := 4) (N := some 26) (v := ?_) (a' := ?_) #[true, true, true, true, true, false, false, false, false, false, false, false, false, false, false, false] rfl rfl (take_ofW HT_.out HW_.out (by kernel_rfl)) (fun _ _ _ h => h) (Or.inl ⟨by rfl, ?_⟩) hHeld ?_ ?_
    rotate_left
    · rintro w' s0
      go_simp
      with_reducible rfl
    rotate_left
    · simp only [Act.put, List.setIfInBounds_toArray, List.set_cons_zero, List.set_cons_succ, i64_w, i32_w]
      rfl
    refine pure_ (i := 5) (N := some 27) (v := ?_) (a' := ?_) #[true, true, true, true, true, true, false, false, false, false, false, false, false, false, false, false] rfl rfl (any_of HT_.out (by kernel_rfl)) (fun _ _ _ h => h) (Or.inl ⟨by rfl, ?_⟩) ?_ ?_
    rotate_left
    · intro w'
      go_simp
      with_reducible rfl
    rotate_left
    · simp only [Act.put, List.setIfInBounds_toArray, List.set_cons_zero, List.set_cons_succ, i64_w, i32_w]
      rfl
    refine pure_ (i := 6) (N := some 28) (v := ?_) (a' := ?_) #[true, true, true, true, true, true, true, false, false, false, false, false, false, false, false, false] rfl rfl (any_of HT_.out (by kernel_rfl)) (fun _ _ _ h => h) (Or.inl ⟨by rfl, ?_⟩) ?_ ?_
    rotate_left
    · intro w'
      go_simp
      with_reducible rfl
    rotate_left
    · simp only [Act.put, List.setIfInBounds_toArray, List.set_cons_zero, List.set_cons_succ, i64_w, i32_w]
      rfl
    refine pure_ (i := 7) (N := some 29) (v := ?_) (a' := ?_) #[true, true, true, true, true, true, true, true, false, false, false, false, false, false, false, false] rfl rfl (any_of HT_.out (by kernel_rfl)) (fun _ _ _ h => h) (Or.inl ⟨by rfl, ?_⟩) ?_ ?_
    rotate_left
    · intro w'
      go_simp
      with_reducible rfl
    rotate_left
    · simp only [Act.put, List.setIfInBounds_toArray, List.set_cons_zero, List.set_cons_succ, i64_w, i32_w]
      rfl
    refine take_ (i := 8) (N := some 30) (v := ?_) (a' := ?_) #[true, true, true, true, true, true, true, true, true, false, false, false, false, false, false, false] rfl rfl (take_ofW HT_.out HW_.out (by kernel_rfl)) (fun _ _ _ h => h) (Or.inl ⟨by rfl, ?_⟩) hHeld ?_ ?_
    rotate_left
    · rintro w' s0
      go_simp
      with_reducible rfl
    rotate_left
    · simp only [Act.put, List.setIfInBounds_toArray, List.set_cons_zero, List.set_cons_succ, i64_w, i32_w]
      rfl
    refine pure_ (i := 9) (N := some 31) (v := ?_) (a' := ?_) #[true, true, true, true, true, true, true, true, true, true, false, false, false, false, false, false] rfl rfl (any_of HT_.out (by kernel_rfl)) (fun _ _ _ h => h) (Or.inl ⟨by rfl, ?_⟩) ?_ ?_
    rotate_left
    · intro w'
      go_simp
      with_reducible rfl
    rotate_left
    · simp only [Act.put, List.setIfInBounds_toArray, List.set_cons_zero, List.set_cons_succ, i64_w, i32_w]
      rfl
    refine pure_ (i := 10) (N := some 32) (v := ?_) (a' := ?_) #[true, true, true, true, true, true, true, true, true, true, true, false, false, false, false, false] rfl rfl (any_of HT_.out (by kernel_rfl)) (fun _ _ _ h => h) (Or.inl ⟨by rfl, ?_⟩) ?_ ?_
    rotate_left
    · intro w'
      go_simp
      with_reducible rfl
    rotate_left
    · simp only [Act.put, List.setIfInBounds_toArray, List.set_cons_zero, List.set_cons_succ, i64_w, i32_w]
      rfl
    refine pure_ (i := 11) (N := some 33) (v := ?_) (a' := ?_) #[true, true, true, true, true, true, true, true, true, true, true, true, false, false, false, false] rfl rfl (any_of HT_.out (by kernel_rfl)) (fun _ _ _ h => h) (Or.inl ⟨by rfl, ?_⟩) ?_ ?_
    rotate_left
    · intro w'
      go_simp
      with_reducible rfl
    rotate_left
    · simp only [Act.put, List.setIfInBounds_toArray, List.set_cons_zero, List.set_cons_succ, i64_w, i32_w]
      rfl
    refine pure_ (i := 12) (N := some 34) (v := ?_) (a' := ?_) #[true, true, true, true, true, true, true, true, true, true, true, true, true, false, false, false] rfl rfl (any_of HT_.out (by kernel_rfl)) (fun _ _ _ h => h) (Or.inl ⟨by rfl, ?_⟩) ?_ ?_
    rotate_left
    · intro w'
      go_simp
      with_reducible rfl
    rotate_left
    · simp only [Act.put, List.setIfInBounds_toArray, List.set_cons_zero, List.set_cons_succ, i64_w, i32_w]
      rfl
    refine pure_ (i := 13) (N := some 35) (v := ?_) (a' := ?_) #[true, true, true, true, true, true, true, true, true, true, true, true, true, true, false, false] rfl rfl (any_of HT_.out (by kernel_rfl)) (fun _ _ _ h => h) (Or.inl ⟨by rfl, ?_⟩) ?_ ?_
    rotate_left
    · intro w'
      go_simp
      with_reducible rfl
    rotate_left
    · simp only [Act.put, List.setIfInBounds_toArray, List.set_cons_zero, List.set_cons_succ, i64_w, i32_w]
      rfl
    refine pure_ (i := 14) (N := some 36) (v := ?_) (a' := ?_) #[true, true, true, true, true, true, true, true, true, true, true, true, true, true, true, false] rfl rfl (any_of HT_.out (by kernel_rfl)) (fun _ _ _ h => h) (Or.inl ⟨by rfl, ?_⟩) ?_ ?_
    rotate_left
    · intro w'
      go_simp
      with_reducible rfl
    rotate_left
    · simp only [Act.put, List.setIfInBounds_toArray, List.set_cons_zero, List.set_cons_succ, i64_w, i32_w]
      rfl
    clear hj1 hj2
    obtain ⟨ax, hax⟩ : ∃ ax, cutA (some ad) c j = ax := ⟨_, rfl⟩
    rw [show (if c = j then some ad else some (ad.add (j * 2))) = ax from hax]
    have HK := Aside0.mk (show Kept W2 base ax (c - j) (lastK n ks) by rw [← hax, show lastK n ks = ks.drop j by unfold lastK; rw [HJ.out]]; exact HI2.out.row.drop (by have := HJ.out; omega))
    rw [show ks.length - j = (lastK n ks).length by unfold lastK; rw [List.length_drop]; have := HJ.out; omega]
    clear hax
    have z1 := (blk_cell HI2.out.blk 1).trans rfl
    have f1 := blk_frozen HI2.out.blk 1
    refine last_ (i := 15) (N := none) #[true, true, true, true, true, true, true, true, true, true, true, true, true, true, true, true] rfl rfl (one_of HT_.out (by kernel_rfl)) (by decide) (fun K hK => ?_)
    refine step_list rfl (by rfl) ?_
    unfold Oper.wp
    go_simp
    refine hK.out _ _ ?_
    clear hK K z1 f1
    refine done_ (done_of HT_.out (by kernel_rfl)) ?_
    refine NoPanic.normal ?_
    clear HT_ HW_ hHeld
    go_wp2_with fail
    go_ret
    exact ⟨rfl, ⟨ax, c - j, RInv.setRow HI2.out.blk HK.out⟩, HG2.out.trans (grownBy_set _ _ _ _)⟩
  · have q2 : decide ((n : Int) < (ks.length : Int)) = false := decide_eq_false (by omega)
    have q3 : (n < ks.length) = False := eq_false q
    have HQ := Aside0.mk (show lastK n ks = ks by unfold lastK; rw [show ks.length - n = 0 by omega, List.drop_zero])
    clear q
    go_enter Try.func31, Try.ntmps31
    go_wp2_with fail
    go_ret
    exact ⟨rfl, ⟨A, c, by rw [HQ.out]; exact HI1.out⟩, HG1.out⟩
set_option maxHeartbeats 16000000 in
set_option maxRecDepth 100000 in
theorem rkeys_calls (base RB : Nat) (A : Option Addr) (c : Nat) (most : Int) (ks : List S65) (h nt : Int) (W : World) (hi : RInv base RB A c most ks h nt W) (hl : ks.length ≤ 100000) :
    Calls Try.prog 19 #[.pointer (some ⟨RB, 0, none⟩)] W fun e w' => ∃ u, e = .returned u ∧ Kd.R Kd.string 9 w' W.heap.size (fun _ => True) u (ks.map S65.f0) ∧ Below W.heap.size W w' := by
  have HI := Aside0.mk hi
  have HL := Aside0.mk hl
  clear hi hl
  go_enter Try.func19, Try.ntmps19
  go_wp2_with fail
  go_loopg [3, 4] ks.length (fun kq v3 v4 w' => ∃ i : Nat, v4 = .int .i64 i ∧ Aside0 (i + kq = ks.length) ∧ Aside0 (Kd.R Kd.string 9 w' W.heap.size (fun _ => True) v3 ((ks.take i).map S65.f0)) ∧ Aside0 (Below W.heap.size W w'))
  case atStart => exact ⟨0, rfl, ⟨by omega⟩, ⟨Kd.R_nil _ _ _ _ _⟩, ⟨Below.refl _ _⟩⟩
  case round =>
    obtain ⟨i, rfl, HG, HO, HB⟩ := hrel
    have HIr := Aside0.mk (HI.out.later HB.out)
    have c1 := HIr.out.cells.2.1
    by_cases q : i < ks.length
    · have qb : decide ((i : Int) < (ks.length : Int)) = true := decide_eq_true (by omega)
      have q1 : ((i : Int) < (ks.length : Int)) = True := eq_true (by omega)
      have q2 : (i < ks.length) = True := eq_true q
      obtain ⟨ad, A1, c1', ead, hx0, _, _, _⟩ := at_T65 HIr.out.row.reads (i : Int) (by omega) (by omega)
      rw [Int.toNat_natCast] at hx0
      subst ead
      have HQ := Aside0.mk q
      have HX := Aside0.mk (show (ks.take i).map S65.f0 ++ [(rd_T65 ks (i : Int)).f0] = (ks.take (i + 1)).map S65.f0 by rw [List.take_succ_eq_append_getElem q, ← rd65 q, List.map_append]; rfl)
      obtain ⟨s, hs⟩ : ∃ s, (rd_T65 ks (i : Int)).f0 = s := ⟨_, rfl⟩
      rw [hs] at hx0 HX
      clear hs q
      go_wp2_with (at_builtin; go_loud (refine Kd.R_append Kd.string (w0 := W) W.heap.size rfl (.tmp 14) (.tmp 23) 22 9 (.string ⟨#[]⟩) 16 rfl Try.underlying22 info9 rfl (by decide) (by omega) _ ((ks.take i).map S65.f0) s [.string s] (fun _ => True) (fun _ => False) rfl rfl rfl (fun k hk => hk.elim) (fun k hk => trivial) HO.out HB.out HB.out.size (by rw [List.length_map, List.length_take]; have := HL.out; omega) ?_; intro v9 w9 hR9 hB9 hg9 hat9; have HO9 := Aside0.mk hR9; have HB9 := Aside0.mk hB9; clear hR9 hB9 hg9 hat9))
      go_roundg (gk - 1)
      case measure => have := HQ.out; have := HG.out; omega
      case rel => exact ⟨i + 1, (by first | rfl | (rw [wrap_succ (by have := HQ.out; have := HL.out; omega)])), ⟨by have := HQ.out; have := HG.out; omega⟩, ⟨by rw [← HX.out]; exact HO9.out⟩, HB9⟩
    · obtain rfl : i = ks.length := by have := HG.out; omega
      have qb : decide ((ks.length : Int) < (ks.length : Int)) = false := decide_eq_false (by omega)
      go_wp2_with fail
      go_ret
      rw [List.take_length] at HO
      exact ⟨_, rfl, HO.out, HB.out⟩
end Go.Proofs.Ytjpbcmfppmiagaa.Print
