/- thai.ends: where words end, by the places where they begin. -/
import Derived.Test.YtfmnbebkeefboaaEndsA
namespace Go.Proofs.Ytfmnbebkeefboaa.Print
open Go.RowKit Go.Maps Go.Proofs.YtfmnbebkeefboaaW.PrintWords Go.Proofs.YtfmnbebkeefboaaW.PrintLast Go.Proofs.YtfmnbebkeefboaaW.PrintMore
set_option linter.unusedVariables false
set_option linter.unusedSimpArgs false

def ends_T9 : Bool × List (List Nat × List Nat) := (true, [([], []), ([], []), ([1], [1]), ([], []), ([], []), ([4], [4]), ([3, 5], [3, 5]), ([], []), ([7], [7]), ([8], [8]), ([6, 9], [6, 9]), ([0, 2, 10, 10, 0, 1, 2, 3, 4, 5, 6, 7, 8, 9, 10], [0, 2, 10])])
def ends_B9 : List Nat := [0, 0, 2, 0, 0, 16, 56, 0, 128, 384, 1016, 2047]
theorem ends_tab9 : rtab .any (opsOf Try.f16 9) = ends_T9 := by kernel_rfl
theorem ends_bits9 : waitsOk ends_T9.2 ends_B9 = true := by kernel_rfl
/-! ### what ends comes to -/
def limT (n : Int) (k : Nat) : Bool := decide (0 ≤ n ∧ n ≤ 5000) && decide (k ≤ 100000)
def spanOk (n : Int) (x : S31) : Bool := decide (0 ≤ x.f0) && (decide (x.f1 ≤ n) && decide (x.f0 < x.f1))
def okT (n : Int) (l : List S31) : Bool := limT n l.length && l.all (spanOk n)
/-- To which places the words lead that begin at a place. -/
def toL (l : List S31) (a : Int) : List Int := (l.filter fun x => decide (x.f0 = a)).map (·.f1)
theorem spanOk_is {n : Int} {x : S31} (h : spanOk n x = true) : 0 ≤ x.f0 ∧ x.f1 ≤ n ∧ x.f0 < x.f1 := by
  unfold spanOk at h
  simpa using h
theorem limT_is {n : Int} {k : Nat} (h : limT n k = true) : 0 ≤ n ∧ n ≤ 5000 ∧ k ≤ 100000 := by
  unfold limT at h
  simp at h
  omega
theorem toL_add (l : List S31) (x : S31) (a : Int) : toL (l ++ [x]) a = if x.f0 = a then toL l a ++ [x.f1] else toL l a := by
  unfold toL
  rw [List.filter_append]
  by_cases e : x.f0 = a
  · rw [if_pos e, List.filter_cons_of_pos (by simpa using e)]; simp
  · rw [if_neg e, List.filter_cons_of_neg (by simpa using e)]; simp
theorem rd31 {l : List S31} {i : Nat} (h : i < l.length) : rd_T31 l (i : Int) = l[i] := by
  unfold rd_T31
  rw [Int.toNat_natCast, List.getD_eq_getElem?_getD, List.getElem?_eq_getElem h]
  rfl
theorem toL_next {l : List S31} {i : Nat} (h : i < l.length) (a : Int) : toL (l.take (i + 1)) a = if (rd_T31 l (i : Int)).f0 = a then toL (l.take i) a ++ [(rd_T31 l (i : Int)).f1] else toL (l.take i) a := by
  rw [List.take_succ_eq_append_getElem h, ← rd31 h, toL_add]
theorem wrap_succ {i : Nat} (h : i < 9223372036854775807) : wrap64 ((i : Int) + 1) = ((i + 1 : Nat) : Int) := by unfold wrap64; omega
theorem cell_keep {W W' : World} {p : Addr} {v : Value} (hb : Below W.heap.size W W') (h : W.cell? p = some v) : W'.cell? p = some v := (hb.cell (World.block_lt_of_cell? W _ h)).trans h
/-- What ends answers where the limits are kept. -/
structure EndsPost (n : Int) (l : List S31) (W : World) (e : Ending) (w' : World) : Prop where
  below : Below W.heap.size W w'
  is : (l.all (spanOk n) = false ∧ e = .returned (.tuple #[.map none, .bool false])) ∨ (l.all (spanOk n) = true ∧ ∃ MB, e = .returned (.tuple #[.map (some MB), .bool true]) ∧ EndsI W.heap.size MB 100000 (toL l) w')
theorem below_of_none {W W' : World} (h : W.grownBy W' none) : Below W.heap.size W W' := ⟨h.os, h.tape, h.output, h.size, fun k hk => h.block k hk (by simp)⟩
theorem Iter.notCells {W : World} {B r cnt : Nat} (hi : Iter W B r cnt) (cs : Array Value) : W.heap[r]? ≠ some (.cells cs 3 (0, 0)) := by
  obtain ⟨es, clock, since, seen, c0, h1, h2, _⟩ := hi
  rw [h2]
  intro e
  cases e
theorem all_false {n : Int} {l : List S31} {x : S31} (hx : x ∈ l) (h : spanOk n x = false) : l.all (spanOk n) = false := by
  cases q : l.all (spanOk n) with
  | false => rfl
  | true => have := List.all_eq_true.1 q x hx; rw [h] at this; cases this
set_option maxHeartbeats 16000000 in
set_option maxRecDepth 100000 in
theorem ends_lim (n : Int) (A : Option Addr) (c : Nat) (l : List S31) (W : World) (h : limT n l.length = false) : Calls Try.prog 16 #[.int .i64 n, .slice A l.length c] W fun e w' => e = .returned (.tuple #[.map none, .bool false]) ∧ Below W.heap.size W w' := by
  have h2 : ¬ (0 ≤ n ∧ n ≤ 5000 ∧ l.length ≤ 100000) := fun q => by
    unfold limT at h
    rw [decide_eq_true (show 0 ≤ n ∧ n ≤ 5000 from ⟨q.1, q.2.1⟩), decide_eq_true q.2.2] at h
    cases h
  clear h
  go_enter Try.func16, Try.ntmps16
  by_cases q0 : n < 0
  · have qb : decide (n < 0) = true := decide_eq_true q0
    go_wp2_with fail
    go_ret2
    exact ⟨rfl, Below.refl _ _⟩
  have qb : decide (n < 0) = false := decide_eq_false q0
  by_cases q1 : n > 5000
  · have qc : decide (5000 < n) = true := decide_eq_true q1
    go_wp2_with fail
    go_ret2
    exact ⟨rfl, Below.refl _ _⟩
  have qc : decide (5000 < n) = false := decide_eq_false q1
  have qd : (100000 < l.length) = True := eq_true (by omega)
  go_wp2_with fail
  go_ret2
  exact ⟨rfl, Below.refl _ _⟩
set_option maxHeartbeats 16000000 in
set_option maxRecDepth 100000 in
theorem ends_good (n : Int) (A : Option Addr) (c : Nat) (l : List S31) (W : World) (hr : Kd.C k31 W A l.length l) (h : limT n l.length = true) : Calls Try.prog 16 #[.int .i64 n, .slice A l.length c] W fun e w' => EndsPost n l W e w' := by
  have hl := limT_is h
  have qb : decide (n < 0) = false := decide_eq_false (by omega)
  have qc : decide (5000 < n) = false := decide_eq_false (by omega)
  have qd : decide (100000 < (l.length : Int)) = false := decide_eq_false (by omega)
  have hmm := @run_makeMap Try.prog
  have HR := Aside0.mk hr
  have HL := Aside0.mk hl
  clear hr h hl
  have HE0 := Aside0.mk (show EndsG W.heap.size W.heap.size 0 (fun _ => []) (fun _ => none) (W.alloc (.map #[] 0)) from ⟨MapK.made W, fun k => by simp, fun k v e => (by cases e), fun k k' v v' e => (by cases e), Nat.le_refl _⟩)
  have HB0 := Aside0.mk (below_alloc (Below.refl W.heap.size W) (.map #[] 0))
  go_enter Try.func16, Try.ntmps16
  go_wp2_with fail
  go_loopg [25] l.length (fun kq v25 w' => ∃ i : Nat, v25 = .int .i64 i ∧ Aside0 (i + kq = l.length) ∧ Aside0 (∀ x ∈ l.take i, spanOk n x = true) ∧ Aside0 (∃ g, EndsG W.heap.size W.heap.size i (toL (l.take i)) g w') ∧ Aside0 (Below W.heap.size W w'))
  case atStart => exact ⟨0, rfl, ⟨by omega⟩, ⟨by simp⟩, ⟨_, HE0.out⟩, HB0⟩
  case round =>
    obtain ⟨i, rfl, HG, HP, HE, HB⟩ := hrel
    by_cases q : i < l.length
    · have qe : decide ((i : Int) < (l.length : Int)) = true := decide_eq_true (by omega)
      have q1 : ((i : Int) < (l.length : Int)) = True := eq_true (by omega)
      have q2 : (i < l.length) = True := eq_true q
      obtain ⟨ad, ead, hx0, hx1, hx2⟩ := at_T31 (Kd.C_below HR.out HB.out) (i : Int) (by omega) (by omega)
      rw [Int.toNat_natCast] at hx0 hx1 hx2
      subst ead
      have HQ := Aside0.mk q
      have HNX := Aside0.mk (fun a => toL_next (l := l) q a)
      have HTK := Aside0.mk (show l.take (i + 1) = l.take i ++ [rd_T31 l (i : Int)] by rw [rd31 q, List.take_succ_eq_append_getElem q])
      have HMM := Aside0.mk (show rd_T31 l (i : Int) ∈ l by rw [rd31 q]; exact List.getElem_mem q)
      obtain ⟨x, hx⟩ : ∃ x, rd_T31 l (i : Int) = x := ⟨_, rfl⟩
      rw [hx] at hx0 hx1 hx2 HNX HTK HMM
      clear hx q
      obtain ⟨f0, f1, f2⟩ := x
      simp only at hx0 hx1 hx2
      have HS1 := Aside0.mk (blk_new wr (.cells #[.int .i64 f0, .int .i64 f1, .int .i64 f2] 31))
      have HB1 := Aside0.mk (below_alloc HB.out (.cells #[.int .i64 f0, .int .i64 f1, .int .i64 f2] 31))
      by_cases g0 : f0 < 0
      · have HF := Aside0.mk (show l.all (spanOk n) = false from all_false HMM.out (by unfold spanOk; simp; omega))
        have g0b : decide (f0 < 0) = true := decide_eq_true g0
        clear g0
        go_wp2_with fail
        go_ret2
        exact ⟨HB1.out, .inl ⟨HF.out, rfl⟩⟩
      have g0b : decide (f0 < 0) = false := decide_eq_false g0
      by_cases g1 : f1 > n
      · have HF := Aside0.mk (show l.all (spanOk n) = false from all_false HMM.out (by unfold spanOk; simp; omega))
        have g1b : decide (n < f1) = true := decide_eq_true g1
        clear g0 g1
        go_wp2_with fail
        go_ret2
        exact ⟨HB1.out, .inl ⟨HF.out, rfl⟩⟩
      have g1b : decide (n < f1) = false := decide_eq_false g1
      by_cases g2 : f1 ≤ f0
      · have HF := Aside0.mk (show l.all (spanOk n) = false from all_false HMM.out (by unfold spanOk; simp; omega))
        have g2b : decide (f1 ≤ f0) = true := decide_eq_true g2
        clear g0 g1 g2
        go_wp2_with fail
        go_ret2
        exact ⟨HB1.out, .inl ⟨HF.out, rfl⟩⟩
      have g2b : decide (f1 ≤ f0) = false := decide_eq_false g2
      have HOK := Aside0.mk (show spanOk n (⟨f0, f1, f2⟩ : S31) = true by unfold spanOk; simp; omega)
      have HSM := Aside0.mk (show Small f0 from small_of (by have := HL.out; omega))
      have HP5 := Aside0.mk (show ∀ y ∈ l.take (i + 1), spanOk n y = true by
        rw [HTK.out]
        intro y hy
        rcases List.mem_append.1 hy with hy | hy
        · exact HP.out y hy
        · rw [List.mem_singleton] at hy; rw [hy]; exact HOK.out)
      clear g0 g1 g2
      obtain ⟨g, hg⟩ := HE.out
      have HE1 := Aside0.mk ((hg.later (below_alloc (Below.refl wr.heap.size wr) (.cells #[.int .i64 f0, .int .i64 f1, .int .i64 f2] 31))).weak (Nat.le_succ i))
      have hxl0 := hg.get f0
      clear hg
      obtain ⟨A0, c0, xs, hv, hR, hxl, hm⟩ := hxl0
      have HV := Aside0.mk hv
      have HR1 := Aside0.mk (Kd.R_below hR (below_alloc (Below.refl wr.heap.size wr) (.cells #[.int .i64 f0, .int .i64 f1, .int .i64 f2] 31)))
      have HXL := Aside0.mk hxl
      have HM := Aside0.mk hm
      clear hv hR hxl hm HE
      obtain ⟨iI, hiI, hzI, hsI, hbI⟩ := info_parts infoI
      go_upto_region 9 with fail
      obtain ⟨SB, hSB⟩ : ∃ x, wr.heap.size = x := ⟨_, rfl⟩
      rw [hSB] at HS1 ⊢
      clear hSB hx0 hx1 hx2
      generalize wr.alloc (.cells #[.int .i64 f0, .int .i64 f1, .int .i64 f2] 31) = W1 at *
      have HE2 := Aside0.mk (HE1.out.later (below_drew (Below.refl _ _)))
      have HS2 := Aside0.mk (blk_drew HS1.out)
      have HR2 := Aside0.mk (Kd.R_drew HR1.out)
      have HB2 := Aside0.mk (below_step HB1.out (below_drew (Below.refl W1.heap.size W1)))
      refine wp_region_noPanic ?_
      refine start_ (n := 12) (S := fun w' => w'.cell? ⟨SB, 0, none⟩ = some (.int .i64 f0) ∧ w'.cell? ⟨SB, 1, none⟩ = some (.int .i64 f1) ∧ (Instr.lookup 37 (.map (some W.heap.size)) (.int .i64 f0) false).run Try.prog w' = .ok (.slice A0 xs.length c0) w') (ds := [11]) #[false, false, false, false, false, false, false, false, false, false, false, false] (by kernel_rfl) rfl rfl ⟨(blk_cell HS2.out 0).trans rfl, (blk_cell HS2.out 1).trans rfl, look_row HE2.out.map HSM.out HV.out⟩ (fun hHeld => ?_); refine with_tabW ends_tab9 ends_bits9 (fun HT_ HW_ => ?_)
      obtain ⟨W2, hW2⟩ : ∃ w, W1.drew = w := ⟨_, rfl⟩
      rw [hW2] at HE2 HS2 HR2 HB2 hHeld ⊢
      clear hW2 HE1 HS1 HR1 HB1
      refine pure_ (i := 0) (N := some 45) (v := ?_) (a' := ?_) #[true, false, false, false, false, false, false, false, false, false, false, false] rfl rfl (any_of HT_.out (by kernel_rfl)) (fun _ _ _ h => h) (Or.inl ⟨by rfl, ?_⟩) ?_ ?_
      rotate_left
      · intro w'
        go_simp
        with_reducible rfl
      rotate_left
      · simp only [Act.put, List.setIfInBounds_toArray, List.set_cons_zero, List.set_cons_succ, i64_w, i32_w]
        rfl
      refine pure_ (i := 1) (N := some 46) (v := ?_) (a' := ?_) #[true, true, false, false, false, false, false, false, false, false, false, false] rfl rfl (any_of HT_.out (by kernel_rfl)) (fun _ _ _ h => h) (Or.inl ⟨by rfl, ?_⟩) ?_ ?_
      rotate_left
      · intro w'
        go_simp
        with_reducible rfl
      rotate_left
      · simp only [Act.put, List.setIfInBounds_toArray, List.set_cons_zero, List.set_cons_succ, i64_w, i32_w]
        rfl
      refine take_ (i := 2) (N := some 47) (v := ?_) (a' := ?_) #[true, true, true, false, false, false, false, false, false, false, false, false] rfl rfl (take_ofW HT_.out HW_.out (by kernel_rfl)) (fun _ _ _ h => h) (Or.inl ⟨by rfl, ?_⟩) hHeld ?_ ?_
      rotate_left
      · rintro w' ⟨s0, s1, s2⟩
        go_simp
        with_reducible rfl
      rotate_left
      · simp only [Act.put, List.setIfInBounds_toArray, List.set_cons_zero, List.set_cons_succ, i64_w, i32_w]
        rfl
      refine pure_ (i := 3) (N := some 48) (v := ?_) (a' := ?_) #[true, true, true, true, false, false, false, false, false, false, false, false] rfl rfl (any_of HT_.out (by kernel_rfl)) (fun _ _ _ h => h) (Or.inl ⟨by rfl, ?_⟩) ?_ ?_
      rotate_left
      · intro w'
        go_simp
        with_reducible rfl
      rotate_left
      · simp only [Act.put, List.setIfInBounds_toArray, List.set_cons_zero, List.set_cons_succ, i64_w, i32_w]
        rfl
      refine pure_ (i := 4) (N := some 49) (v := ?_) (a' := ?_) #[true, true, true, true, true, false, false, false, false, false, false, false] rfl rfl (any_of HT_.out (by kernel_rfl)) (fun _ _ _ h => h) (Or.inl ⟨by rfl, ?_⟩) ?_ ?_
      rotate_left
      · intro w'
        go_simp
        with_reducible rfl
      rotate_left
      · simp only [Act.put, List.setIfInBounds_toArray, List.set_cons_zero, List.set_cons_succ, i64_w, i32_w]
        rfl
      refine take_ (i := 5) (N := some 50) (v := ?_) (a' := ?_) #[true, true, true, true, true, true, false, false, false, false, false, false] rfl rfl (take_ofW HT_.out HW_.out (by kernel_rfl)) (fun _ _ _ h => h) (Or.inl ⟨by rfl, ?_⟩) hHeld ?_ ?_
      rotate_left
      · rintro w' ⟨s0, s1, s2⟩
        go_simp
        with_reducible rfl
      rotate_left
      · simp only [Act.put, List.setIfInBounds_toArray, List.set_cons_zero, List.set_cons_succ, i64_w, i32_w]
        rfl
      refine take_ (i := 6) (N := some 51) (v := ?_) (a' := ?_) #[true, true, true, true, true, true, true, false, false, false, false, false] rfl rfl (take_ofW HT_.out HW_.out (by kernel_rfl)) (fun _ _ _ h => h) (Or.inl ⟨by rfl, ?_⟩) hHeld ?_ ?_
      rotate_left
      · rintro w' ⟨s0, s1, s2⟩
        go_simp
        with_reducible rfl
      rotate_left
      · simp only [Act.put, List.setIfInBounds_toArray, List.set_cons_zero, List.set_cons_succ, i64_w, i32_w]
        rfl
      refine pure_ (i := 7) (N := some 52) (v := ?_) (a' := ?_) #[true, true, true, true, true, true, true, true, false, false, false, false] rfl rfl (any_of HT_.out (by kernel_rfl)) (fun _ _ _ h => h) (Or.inl ⟨by rfl, ?_⟩) ?_ ?_
      rotate_left
      · intro w'
        go_simp
        with_reducible rfl
      rotate_left
      · simp only [Act.put, List.setIfInBounds_toArray, List.set_cons_zero, List.set_cons_succ, i64_w, i32_w]
        rfl
      refine take_ (i := 8) (N := some 53) (v := ?_) (a' := ?_) #[true, true, true, true, true, true, true, true, true, false, false, false] rfl rfl (take_ofW HT_.out HW_.out (by kernel_rfl)) (fun _ _ _ h => h) (Or.inl ⟨by rfl, ?_⟩) hHeld ?_ ?_
      rotate_left
      · rintro w' ⟨s0, s1, s2⟩
        go_simp
        with_reducible rfl
      rotate_left
      · simp only [Act.put, List.setIfInBounds_toArray, List.set_cons_zero, List.set_cons_succ, i64_w, i32_w]
        rfl
      refine one_ (i := 9) (N := some 54) #[true, true, true, true, true, true, true, true, true, true, false, false] rfl rfl (one_of HT_.out (by kernel_rfl)) (by decide) (fun K hK => ?_)
      refine step_list rfl (by rfl) ?_
      unfold Oper.wp
      go_simp
      have HBb := Aside0.mk (below_alloc (Below.refl W2.heap.size W2) (.cells #[.int .i64 f1] 3))
      have HBX := Aside0.mk (blk_new W2 (.cells #[.int .i64 f1] 3))
      have HE3 := Aside0.mk (HE2.out.later HBb.out)
      have HS3 := Aside0.mk (blk_below HS2.out HBb.out)
      have HR3 := Aside0.mk (Kd.R_below HR2.out HBb.out)
      have HB3 := Aside0.mk (below_step HB2.out HBb.out)
      refine hK.out _ _ ⟨(blk_cell HS3.out 0).trans rfl, (blk_cell HS3.out 1).trans rfl, look_row HE3.out.map HSM.out HV.out⟩ (fun hHeld => ?_)
      clear hK K HE2 HS2 HR2 HB2 HBb
      obtain ⟨BX, hBX⟩ : ∃ n, W2.heap.size = n := ⟨_, rfl⟩
      rw [hBX] at HBX ⊢
      clear hBX
      generalize W2.alloc (.cells #[.int .i64 f1] 3) = W3 at *
      refine one_ (i := 10) (N := some 55) #[true, true, true, true, true, true, true, true, true, true, true, false] rfl rfl (one_of HT_.out (by kernel_rfl)) (by decide) (fun K hK => ?_)
      refine R_app_step (Kd.int .i64) (W := W3) W.heap.size (by rfl) (.tmp 51) (.tmp 54) 25 3 iI (.int .i64 0) 8 rfl Try.underlying25 hiI hzI hsI hbI rfl (by decide) (.slice A0 xs.length c0) xs f1 [.int .i64 f1] (fun _ => True) (fun _ => False) rfl ⟨BX, 0, none⟩ rfl (cell_one HBX.out) rfl (fun _ hk => hk.elim) (fun _ _ => trivial) HR3.out HB3.out.size (by have := HXL.out; have := HQ.out; have := HL.out; simp only [maxLen]; omega) (by have := HXL.out; have := HQ.out; have := HL.out; omega) ?_
      intro v4 W4 hR4 hg4 hat4
      have HS4 := Aside0.mk (blk_grown HS3.out hg4 (Kd.R_ne HR3.out HS3.out (by decide)))
      have HM4 := Aside0.mk (HE3.out.mapTurn HV.out hg4)
      have HB4 := Aside0.mk (HB3.out.grown hg4 HB3.out.size (fun k hk => Kd.R_base HR3.out k hk))
      obtain ⟨W5, g5, hrun, hE5, hgr5, _⟩ := HE3.out.put HSM.out HB3.out.size HV.out hg4 hat4 hR4 (by rw [List.length_append]; have := HXL.out; simp; omega) (by simp)
      have HE5 := Aside0.mk (hE5.congr (T' := toL (l.take (i + 1))) (fun j t => by
        rw [HNX.out j]
        unfold setT
        by_cases e : j = f0
        · subst e; rw [if_pos rfl, if_pos rfl, List.mem_append, List.mem_append, HM.out]
        · rw [if_neg e, if_neg (fun h => e h.symm)]))
      have HB5 := Aside0.mk (HB4.out.grown hgr5 HB4.out.size (fun k hk => by obtain rfl := Option.some.inj hk; exact Nat.le_refl _))
      refine hK.out _ _ ⟨(blk_cell HS4.out 0).trans rfl, (blk_cell HS4.out 1).trans rfl, look_row HM4.out HSM.out HV.out⟩ (fun hHeld => ?_)
      clear hK K
      refine norm_ (a' := ?_) ?_ ?_
      rotate_left
      · show Act.put _ (some 55) _ = _
        simp only [Act.put, List.setIfInBounds_toArray, List.set_cons_zero, List.set_cons_succ, i64_w, i32_w]
        rfl
      clear hR4 hg4 hat4 hE5 hgr5
      refine last_ (i := 11) (N := none) #[true, true, true, true, true, true, true, true, true, true, true, true] rfl rfl (one_of HT_.out (by kernel_rfl)) (by decide) (fun K hK => ?_)
      refine step_list rfl (by rfl) ?_
      unfold Oper.wp
      go_simp
      refine hK.out _ _ ?_
      clear hK K hrun
      refine done_ (done_of HT_.out (by kernel_rfl)) ?_
      refine NoPanic.normal ?_
      clear HT_ HW_ hHeld
      go_wp2_with fail
      go_roundg (gk - 1)
      case measure => have := HQ.out; have := HG.out; omega
      case rel => exact ⟨i + 1, (by first | rfl | (rw [wrap_succ (by have := HQ.out; have := HL.out; omega)])), ⟨by have := HQ.out; have := HG.out; omega⟩, HP5, ⟨_, HE5.out⟩, HB5⟩
    · obtain rfl : i = l.length := by have := HG.out; omega
      have qe : decide ((l.length : Int) < (l.length : Int)) = false := decide_eq_false (by omega)
      rw [List.take_length] at HE HP
      have HALL := Aside0.mk (show l.all (spanOk n) = true from List.all_eq_true.2 HP.out)
      obtain ⟨g, hg⟩ := HE.out
      obtain ⟨Wi, cnt, hrange, hit, hgr, hsz⟩ := hg.map.range Try.underlying37
      have HEi := Aside0.mk (show EndsI W.heap.size W.heap.size 100000 (toL l) Wi from ⟨g, (hg.weak (show l.length ≤ 100000 from HL.out.2.2)).later (below_of_none hgr)⟩)
      have HIT := Aside0.mk hit
      have HBi := Aside0.mk (below_step HB.out (below_of_none hgr))
      have HRB := Aside0.mk HB.out.size
      clear hg hit hgr hsz HE
      go_wp2_with fail
      clear hrange HB
      obtain ⟨RB, hRB⟩ : ∃ x, wr.heap.size = x := ⟨_, rfl⟩
      rw [hRB] at HIT HRB ⊢
      clear hRB
      go_loopg [9] cnt (fun kq _ w' => ∃ ct, ct ≤ kq ∧ Aside0 (Iter w' W.heap.size RB ct) ∧ Aside0 (EndsI W.heap.size W.heap.size 100000 (toL l) w') ∧ Aside0 (Below W.heap.size W w'))
      case atStart => exact ⟨cnt, Nat.le_refl _, HIT, HEi, HBi⟩
      case round =>
        clear HIT HEi HBi
        obtain ⟨ct, hct, HIT, HE, HB⟩ := hrel
        obtain ⟨g, hg⟩ := HE.out
        rcases hg.map.next HIT.out 0 with hdone | ⟨x, v, W1, ct1, hgx, hxk, hnext, hit1, hlt, hgr1, hsz1, hen⟩
        · clear hg
          go_wp2_with fail
          go_ret2
          exact ⟨HB.out, .inr ⟨HALL.out, _, rfl, HE.out⟩⟩
        · have HE1 := Aside0.mk (hg.other hgr1 HIT.out.ne (HIT.out.notCells))
          have HIT1 := Aside0.mk hit1
          have HB1 := Aside0.mk (HB.out.grown hgr1 HB.out.size (fun k hk => by obtain rfl := Option.some.inj hk; exact HRB.out))
          have HGX := Aside0.mk hgx
          have HXK := Aside0.mk hxk
          have HLT := Aside0.mk (Nat.lt_of_lt_of_le hlt hct)
          obtain ⟨xs, hR, hxl, hm⟩ := HE1.out.row x v hgx
          have HXN := Aside0.mk (HE1.out.ne_nil hgx hm)
          obtain ⟨A1, c1, e1⟩ := Kd.R_slice hR
          subst e1
          have HR1 := Aside0.mk hR
          have HXL := Aside0.mk hxl
          have HM := Aside0.mk hm
          clear hg hgx hxk hit1 hgr1 hsz1 hR hxl hm hlt hct HIT HE HB
          go_wp2_with fail
          refine (sort_calls W1 W.heap.size (fun _ => True) (.slice A1 xs.length c1) xs HR1.out HXN.out (by have := HXL.out; omega)).mono ?_
          rintro e W2 ⟨rfl, hR2, hg2⟩
          have HR2 := Aside0.mk hR2
          have HG2 := Aside0.mk hg2
          clear hR2 hg2 hnext hen
          have HSN := Aside0.mk (show sortI xs ≠ [] from fun e => HXN.out (by have h1 := sortI_len xs; rw [e] at h1; exact List.length_eq_zero_iff.1 h1.symm))
          go_wp2_with fail
          refine (compact_calls W2 W.heap.size (fun _ => True) (.slice A1 xs.length c1) (sortI xs) HR2.out HSN.out (by rw [sortI_len]; have := HXL.out; omega)).mono ?_
          rintro e W3 ⟨v3, rfl, hR3, ho3, hg3⟩
          have hg13 := HG2.out.trans hg3
          have HM3 := Aside0.mk (HE1.out.mapTurn (.inl HGX.out) hg13)
          have HIT3 := Aside0.mk (show Iter W3 W.heap.size RB ct1 from HIT1.out.move (hg13.block _ HE1.out.map.lt (fun e => by
            obtain ⟨cs, hcs⟩ := Kd.R_typed HR1.out _ e.symm
            exact HE1.out.map.ne hcs rfl)) (hg13.block _ HIT1.out.lt (fun e => by
            obtain ⟨cs, hcs⟩ := Kd.R_typed HR1.out _ e.symm
            exact HIT1.out.notCells cs hcs)))
          have HB3 := Aside0.mk (HB1.out.grown hg13 HB1.out.size (fun k hk => Kd.R_base HR1.out k hk))
          obtain ⟨W4, g4, hrun, hE4, hgr4, hit4⟩ := HE1.out.put HXK.out HB1.out.size (.inl HGX.out) hg13 (.inl ho3) hR3 (Nat.le_trans (compact_len _) (by rw [sortI_len]; exact HXL.out)) (fun e => HSN.out (by
            rw [List.eq_nil_iff_forall_not_mem] at e ⊢
            exact fun t ht => e t (compact_mem.2 ht)))
          have HE4 := Aside0.mk (show EndsI W.heap.size W.heap.size 100000 (toL l) W4 from ⟨g4, hE4.congr (fun j t => by
            unfold setT
            by_cases e : j = x
            · subst e; rw [if_pos rfl, compact_mem, sortI_mem]; exact HM.out t
            · rw [if_neg e])⟩)
          have HIT4 := Aside0.mk (hit4 (by rw [HGX.out]; simp) RB ct1 HIT3.out)
          have HB4 := Aside0.mk (HB3.out.grown hgr4 HB3.out.size (fun k hk => by obtain rfl := Option.some.inj hk; exact Nat.le_refl _))
          clear hR3 ho3 hg3 hg13 hE4 hgr4 hit4
          go_wp2_with fail
          go_roundg (gk - 1)
          case measure => have := HLT.out; omega
          case rel => exact ⟨ct1, by have := HLT.out; omega, HIT4, HE4, HB4⟩
end Go.Proofs.Ytfmnbebkeefboaa.Print
