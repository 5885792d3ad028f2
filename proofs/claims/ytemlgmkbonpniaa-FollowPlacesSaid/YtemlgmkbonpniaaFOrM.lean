/- The closure of follow.built: behind places others may stand. · follow's part.then. · follow's part.or. -/
import Derived.Test.YtemlgmkbonpniaaFMk
import Derived.Test.YtemlgmkbonpniaaFWithM
import Derived.Shelf.Abstract
namespace Go.Proofs.Ytemlgmkbonpniaa.Print
open Go.RowKit Go.Maps Go.Proofs.YtemlgmkbonpniaaW.PrintWords Go.Proofs.YtemlgmkbonpniaaW.PrintLast Go.Proofs.YtemlgmkbonpniaaW.PrintMore
set_option linter.unusedVariables false
set_option linter.unusedSimpArgs false
namespace F
def note_T3 : Bool × List (List Nat × List Nat) := (true, [([], []), ([0], [0]), ([1], [1]), ([2], [2]), ([], []), ([4], [4]), ([], []), ([6], [6]), ([7], [7]), ([8], [8]), ([], []), ([10], [10]), ([9, 11], [9, 11]), ([12], [12]), ([], []), ([13, 14], [13, 14]), ([3, 5, 0, 1, 2, 3, 4, 5, 6, 7, 8, 9, 10, 11, 12, 13, 14, 15], [3, 5]), ([16, 15, 15, 0, 1, 2, 3, 4, 5, 6, 7, 8, 9, 10, 11, 12, 13, 14, 15], [15, 16])])
def note_B3 : List Nat := [0, 1, 3, 7, 0, 16, 0, 64, 192, 448, 0, 1024, 4032, 8128, 0, 32704, 65535, 131071]
theorem note_tab3 : rtab .any (opsOf Try.f72 3) = note_T3 := by kernel_rfl
theorem note_bits3 : waitsOk note_T3.2 note_B3 = true := by kernel_rfl
theorem fboth_calls (A : Option Addr) (c : Nat) (a : List Int) (B : Option Addr) (d : Nat) (b : List Int) (W : World) (hA : Kd.C (Kd.int .i64) W A a.length a) (hc : a.length ≤ c) (hB : Kd.C (Kd.int .i64) W B b.length b) (hd : b.length ≤ d) (hl : a.length + b.length < 1000000) (hr : a.Pairwise (· < ·)) :
  Calls Try.prog 59 #[.slice A a.length c, .slice B b.length d] W fun e w' => ∃ A' c', e = .returned (.slice A' (bothR a b).length c') ∧ Below W.heap.size W w' ∧ Came W w' A c a A' c' (bothR a b) := by
 have h := fwith_calls A c a B d b W hA hc hB hd hl
 rw [withR_is hr] at h
 refine h.mono ?_
 rintro e w' ⟨A', c', rfl, hb, ho⟩
 exact ⟨A', c', rfl, hb, .inr ho⟩
/-- The closure's box. -/
def Pbox (W : World) (PB MB : Nat) : Prop := W.heap[PB]? = some (.cells #[.pointer (some ⟨MB, 0, none⟩)] 71 (0, 0))
theorem Pbox.cell {W : World} {PB MB : Nat} (h : Pbox W PB MB) : W.cell? ⟨PB, 0, none⟩ = some (.pointer (some ⟨MB, 0, none⟩)) := (blk_cell h 0).trans rfl
theorem Pbox.later {W W' : World} {PB MB : Nat} (h : Pbox W PB MB) (hb : Below W.heap.size W W') : Pbox W' PB MB := blk_below h hb
theorem Pbox.turn {W W' : World} {PB MB b0 : Nat} {vS vS' : Value} (h : Pbox W PB MB) (t : Tn b0 vS vS' W W') : Pbox W' PB MB := (t.blk PB _ 71 h (by decide) (by decide) (by decide)).trans h
set_option maxHeartbeats 16000000 in
set_option maxRecDepth 100000 in
theorem note_calls {b0 MB PB N : Nat} {sets : List Int} {fol : List (List Int)} {vS vF : Value} {W : World} (L : Option Addr) (c : Nat) (last : List Int) (F : Option Addr) (d : Nat) (first : List Int)
  (hm : Mk b0 MB sets fol vS vF W) (hp : Pbox W PB MB) (hL : RowI b0 vS W (.slice L last.length c) last) (hF : RowI b0 vS W (.slice F first.length d) first)
  (hr : ∀ t ∈ last, 1 ≤ t ∧ t ≤ (fol.length : Int)) (hg : ∀ l ∈ fol, Good N l) (hgf : Good N first) (hN : N ≤ 300) (hfl : fol.length ≤ 300) (hb0 : b0 ≤ W.heap.size) (hll : last.length ≤ 300) :
  Calls Try.prog 72 #[.slice L last.length c, .slice F first.length d, .pointer (some ⟨PB, 0, none⟩)] W fun e W' => e = .returned (.tuple #[]) ∧ Mk b0 MB sets (afterR fol last first) vS vF W' ∧ Tn b0 vS vS W W' := by
 have HM := Aside0.mk hm
 have HP0 := Aside0.mk hp
 have HL := Aside0.mk hL
 have HF := Aside0.mk hF
 have HR := Aside0.mk hr
 have HG := Aside0.mk hg
 have HGF := Aside0.mk hgf
 have HN := Aside0.mk hN
 have HFL := Aside0.mk hfl
 have HB0 := Aside0.mk hb0
 have HLL := Aside0.mk hll
 clear hm hp hL hF hr hg hgf hN hfl hb0 hll
 go_enter Try.func72, Try.ntmps72
 go_wp2
 go_loopg [9] last.length (fun kq v6 w' => ∃ i : Nat, v6 = .int .i64 (i : Int) ∧ Aside0 (i + kq = last.length) ∧ Aside0 (Mk b0 MB sets (afterR fol (last.take i) first) vS vF w') ∧ Aside0 (Tn b0 vS vS W w'))
 case atStart => exact ⟨0, rfl, ⟨Nat.zero_add _⟩, ⟨HM.out⟩, ⟨Tn.refl _ _ _⟩⟩
 case round =>
  obtain ⟨i, rfl, HK, HM1, HT1⟩ := hrel
  by_cases q : gk = 0
  ·have f1 : ¬ i < last.length := by have := HK.out; omega
   have f2 : decide ((i : Int) < (last.length : Int)) = false := decide_eq_false (by omega)
   have HE := Aside0.mk (show last.take i = last from List.take_of_length_le (by omega))
   clear q
   go_wp2_with fail
   go_end0
   have h1 := HM1.out
   rw [HE.out] at h1
   exact ⟨rfl, h1, HT1.out⟩
  ·have HIL := Aside0.mk (show i < last.length by have := HK.out; omega)
   have HQ := Aside0.mk q
   clear q
   obtain ⟨fq, hfq⟩ : ∃ x, x = afterR fol (last.take i) first := ⟨_, rfl⟩
   have HFQ := Aside0.mk hfq
   have HFQL := Aside0.mk (show fq.length = fol.length by rw [hfq, afterR_len])
   have HFQG := Aside0.mk (show ∀ l ∈ fq, Good N l by rw [hfq]; exact afterR_good HG.out HGF.out)
   rw [← hfq] at HM1
   clear hfq
   obtain ⟨t, ht⟩ : ∃ t, t = rd last i := ⟨_, rfl⟩
   have HRT := Aside0.mk (show 1 ≤ t ∧ t ≤ (fol.length : Int) by rw [ht]; exact HR.out _ (rd_mem HIL.out))
   obtain ⟨j, hj⟩ : ∃ j : Nat, j = (t - 1).toNat := ⟨_, rfl⟩
   have HJ := Aside0.mk hj
   have HJL := Aside0.mk (show j < fq.length by rw [hj, HFQL.out]; have := HRT.out; omega)
   clear hj
   obtain ⟨g, cap, hvF, hgb, hglt, cells, hgc⟩ := Kd.R_form HM1.out.fol (by have := HJL.out; omega)
   subst hvF
   have HGB := Aside0.mk hgb
   have HGC := Aside0.mk hgc
   clear hgb hglt hgc
   obtain ⟨A1, c1, hcell, hrow⟩ := fol_get HM1.out.fol j HJL.out
   obtain ⟨x, hx⟩ : ∃ x, x = fq.getD j [] := ⟨_, rfl⟩
   rw [← hx] at hcell hrow
   have HX := Aside0.mk hx
   rw [add_at] at hcell
   have HCELL := Aside0.mk hcell
   have HROW := Aside0.mk hrow
   have HXG := Aside0.mk (show Good N x by rw [hx]; exact getD_good HFQG.out j)
   clear hcell hrow hx
   have HL1 := Aside0.mk (HT1.out.rows _ _ HL.out)
   have HF1 := Aside0.mk (HT1.out.rows _ _ HF.out)
   obtain ⟨adL, eL, hl0⟩ := Kd.at_int (Kd.R_reads' HL1.out).2.2 (i : Int) (Int.natCast_nonneg i) (by have := HIL.out; omega)
   rw [Int.toNat_natCast, ← ht] at hl0
   subst eL
   have HTD := Aside0.mk ht
   have HP1 := Aside0.mk (HP0.out.turn HT1.out)
   clear ht
   have HQ0 := Aside0.mk (show (0 : Int) ≤ (i : Int) from Int.natCast_nonneg i)
   have f1 : i < last.length := HIL.out
   have f2 : decide ((i : Int) < (last.length : Int)) = true := decide_eq_true (by omega)
   have f3 : (0 : Int) ≤ (i : Int) := HQ0.out
   go_upto_region 3 with fail
   clear hl0 f1 f2 f3
   have HB1 := Aside0.mk (Nat.le_trans HB0.out HT1.out.below.size)
   have HM2 := Aside0.mk (HM1.out.later (below_drew (Below.refl _ _)))
   have HT2 := Aside0.mk (HT1.out.trans (Tn.later (below_drew (Below.refl _ _)) HB1.out))
   have HP2 := Aside0.mk (HP1.out.later (below_drew (Below.refl wr.heap.size wr)))
   have HCELL2 := Aside0.mk (cell_keep (below_drew (Below.refl wr.heap.size wr)) HCELL.out)
   have HGC2 := Aside0.mk (blk_below HGC.out (below_drew (Below.refl wr.heap.size wr)))
   have HR2 := Aside0.mk (Kd.R_below HROW.out (below_drew (Below.refl wr.heap.size wr)))
   have HF2 := Aside0.mk (Kd.R_below HF1.out (below_drew (Below.refl wr.heap.size wr)))
   have HB2 := Aside0.mk (show b0 ≤ wr.drew.heap.size from HB1.out)
   refine wp_region_noPanic ?_
   refine start_ (n := 18) (S := fun w' => w'.cell? ⟨MB, 4, none⟩ = some (.slice (some ⟨g, 0, none⟩) fq.length cap) ∧ w'.cell? ⟨PB, 0, none⟩ = some (.pointer (some ⟨MB, 0, none⟩)) ∧ w'.cell? ⟨g, j, none⟩ = some (.slice A1 x.length c1)) (ds := [17]) #[false, false, false, false, false, false, false, false, false, false, false, false, false, false, false, false, false, false] (by kernel_rfl) rfl rfl ⟨HM2.out.cells.2, HP2.out.cell, HCELL2.out⟩ (fun hHeld => ?_); refine with_tabW note_tab3 note_bits3 (fun HT_ HW_ => ?_)
   obtain ⟨W2, hW2⟩ : ∃ w, wr.drew = w := ⟨_, rfl⟩
   rw [hW2] at HM2 HT2 HR2 HF2 HGC2 HB2 HP2 hHeld ⊢
   clear hW2 HM1 HT1 HB1 HP1 HCELL2
   have hwr : wrap64 (t - 1) = (j : Int) := by have := HRT.out; have := HJ.out; have := HFL.out; unfold wrap64; omega
   have f3 : j < fq.length := HJL.out
   have hadd := add_at g j
   refine take_ (i := 0) (N := some 13) (v := ?_) (a' := ?_) #[true, false, false, false, false, false, false, false, false, false, false, false, false, false, false, false, false, false] rfl rfl (take_ofW HT_.out HW_.out (by kernel_rfl)) (fun _ _ _ h => h) (Or.inl ⟨by rfl, ?_⟩) hHeld ?_ ?_
   rotate_left
   ·rintro w' ⟨s0, s1, s2⟩
    go_simp
    with_reducible rfl
   rotate_left
   ·simp only [Act.put, List.setIfInBounds_toArray, List.set_cons_zero, List.set_cons_succ, i64_w, i32_w]
    rfl
   refine pure_ (i := 1) (N := some 14) (v := ?_) (a' := ?_) #[true, true, false, false, false, false, false, false, false, false, false, false, false, false, false, false, false, false] rfl rfl (any_of HT_.out (by kernel_rfl)) (fun _ _ _ h => h) (Or.inl ⟨by rfl, ?_⟩) ?_ ?_
   rotate_left
   ·intro w'
    go_simp
    with_reducible rfl
   rotate_left
   ·simp only [Act.put, List.setIfInBounds_toArray, List.set_cons_zero, List.set_cons_succ, i64_w, i32_w]
    rfl
   refine pure_ (i := 2) (N := some 15) (v := ?_) (a' := ?_) #[true, true, true, false, false, false, false, false, false, false, false, false, false, false, false, false, false, false] rfl rfl (any_of HT_.out (by kernel_rfl)) (fun _ _ _ h => h) (Or.inl ⟨by rfl, ?_⟩) ?_ ?_
   rotate_left
   ·intro w'
    go_simp
    with_reducible rfl
   rotate_left
   ·simp only [Act.put, List.setIfInBounds_toArray, List.set_cons_zero, List.set_cons_succ, i64_w, i32_w]
    rfl
   refine take_ (i := 3) (N := some 16) (v := ?_) (a' := ?_) #[true, true, true, true, false, false, false, false, false, false, false, false, false, false, false, false, false, false] rfl rfl (take_ofW HT_.out HW_.out (by kernel_rfl)) (fun _ _ _ h => h) (Or.inl ⟨by rfl, ?_⟩) hHeld ?_ ?_
   rotate_left
   ·rintro w' ⟨s0, s1, s2⟩
    go_simp
    with_reducible rfl
   rotate_left
   ·simp only [Act.put, List.setIfInBounds_toArray, List.set_cons_zero, List.set_cons_succ, i64_w, i32_w]
    rfl
   refine pure_ (i := 4) (N := some 17) (v := ?_) (a' := ?_) #[true, true, true, true, true, false, false, false, false, false, false, false, false, false, false, false, false, false] rfl rfl (any_of HT_.out (by kernel_rfl)) (fun _ _ _ h => h) (Or.inl ⟨by rfl, ?_⟩) ?_ ?_
   rotate_left
   ·intro w'
    go_simp
    with_reducible rfl
   rotate_left
   ·simp only [Act.put, List.setIfInBounds_toArray, List.set_cons_zero, List.set_cons_succ, i64_w, i32_w]
    rfl
   refine pure_ (i := 5) (N := some 18) (v := ?_) (a' := ?_) #[true, true, true, true, true, true, false, false, false, false, false, false, false, false, false, false, false, false] rfl rfl (any_of HT_.out (by kernel_rfl)) (fun _ _ _ h => h) (Or.inl ⟨by rfl, ?_⟩) ?_ ?_
   rotate_left
   ·intro w'
    go_simp
    with_reducible rfl
   rotate_left
   ·simp only [Act.put, List.setIfInBounds_toArray, List.set_cons_zero, List.set_cons_succ, i64_w, i32_w]
    rfl
   refine take_ (i := 6) (N := some 19) (v := ?_) (a' := ?_) #[true, true, true, true, true, true, true, false, false, false, false, false, false, false, false, false, false, false] rfl rfl (take_ofW HT_.out HW_.out (by kernel_rfl)) (fun _ _ _ h => h) (Or.inl ⟨by rfl, ?_⟩) hHeld ?_ ?_
   rotate_left
   ·rintro w' ⟨s0, s1, s2⟩
    go_simp
    with_reducible rfl
   rotate_left
   ·simp only [Act.put, List.setIfInBounds_toArray, List.set_cons_zero, List.set_cons_succ, i64_w, i32_w]
    rfl
   refine pure_ (i := 7) (N := some 20) (v := ?_) (a' := ?_) #[true, true, true, true, true, true, true, true, false, false, false, false, false, false, false, false, false, false] rfl rfl (any_of HT_.out (by kernel_rfl)) (fun _ _ _ h => h) (Or.inl ⟨by rfl, ?_⟩) ?_ ?_
   rotate_left
   ·intro w'
    go_simp
    with_reducible rfl
   rotate_left
   ·simp only [Act.put, List.setIfInBounds_toArray, List.set_cons_zero, List.set_cons_succ, i64_w, i32_w]
    rfl
   refine pure_ (i := 8) (N := some 21) (v := ?_) (a' := ?_) #[true, true, true, true, true, true, true, true, true, false, false, false, false, false, false, false, false, false] rfl rfl (any_of HT_.out (by kernel_rfl)) (fun _ _ _ h => h) (Or.inl ⟨by rfl, ?_⟩) ?_ ?_
   rotate_left
   ·intro w'
    go_simp
    with_reducible rfl
   rotate_left
   ·simp only [Act.put, List.setIfInBounds_toArray, List.set_cons_zero, List.set_cons_succ, i64_w, i32_w]
    rfl
   refine take_ (i := 9) (N := some 22) (v := ?_) (a' := ?_) #[true, true, true, true, true, true, true, true, true, true, false, false, false, false, false, false, false, false] rfl rfl (take_ofW HT_.out HW_.out (by kernel_rfl)) (fun _ _ _ h => h) (Or.inl ⟨by rfl, ?_⟩) hHeld ?_ ?_
   rotate_left
   ·rintro w' ⟨s0, s1, s2⟩
    go_simp
    with_reducible rfl
   rotate_left
   ·simp only [Act.put, List.setIfInBounds_toArray, List.set_cons_zero, List.set_cons_succ, i64_w, i32_w]
    rfl
   refine pure_ (i := 10) (N := some 23) (v := ?_) (a' := ?_) #[true, true, true, true, true, true, true, true, true, true, true, false, false, false, false, false, false, false] rfl rfl (any_of HT_.out (by kernel_rfl)) (fun _ _ _ h => h) (Or.inl ⟨by rfl, ?_⟩) ?_ ?_
   rotate_left
   ·intro w'
    go_simp
    with_reducible rfl
   rotate_left
   ·simp only [Act.put, List.setIfInBounds_toArray, List.set_cons_zero, List.set_cons_succ, i64_w, i32_w]
    rfl
   refine pure_ (i := 11) (N := some 24) (v := ?_) (a' := ?_) #[true, true, true, true, true, true, true, true, true, true, true, true, false, false, false, false, false, false] rfl rfl (any_of HT_.out (by kernel_rfl)) (fun _ _ _ h => h) (Or.inl ⟨by rfl, ?_⟩) ?_ ?_
   rotate_left
   ·intro w'
    go_simp
    with_reducible rfl
   rotate_left
   ·simp only [Act.put, List.setIfInBounds_toArray, List.set_cons_zero, List.set_cons_succ, i64_w, i32_w]
    rfl
   refine pure_ (i := 12) (N := some 25) (v := ?_) (a' := ?_) #[true, true, true, true, true, true, true, true, true, true, true, true, true, false, false, false, false, false] rfl rfl (any_of HT_.out (by kernel_rfl)) (fun _ _ _ h => h) (Or.inl ⟨by rfl, ?_⟩) ?_ ?_
   rotate_left
   ·intro w'
    go_simp
    with_reducible rfl
   rotate_left
   ·simp only [Act.put, List.setIfInBounds_toArray, List.set_cons_zero, List.set_cons_succ, i64_w, i32_w]
    rfl
   refine take_ (i := 13) (N := some 26) (v := ?_) (a' := ?_) #[true, true, true, true, true, true, true, true, true, true, true, true, true, true, false, false, false, false] rfl rfl (take_ofW HT_.out HW_.out (by kernel_rfl)) (fun _ _ _ h => h) (Or.inl ⟨by rfl, ?_⟩) hHeld ?_ ?_
   rotate_left
   ·rintro w' ⟨s0, s1, s2⟩
    go_simp
    with_reducible rfl
   rotate_left
   ·simp only [Act.put, List.setIfInBounds_toArray, List.set_cons_zero, List.set_cons_succ, i64_w, i32_w]
    rfl
   refine pure_ (i := 14) (N := some 27) (v := ?_) (a' := ?_) #[true, true, true, true, true, true, true, true, true, true, true, true, true, true, true, false, false, false] rfl rfl (any_of HT_.out (by kernel_rfl)) (fun _ _ _ h => h) (Or.inl ⟨by rfl, ?_⟩) ?_ ?_
   rotate_left
   ·intro w'
    go_simp
    with_reducible rfl
   rotate_left
   ·simp only [Act.put, List.setIfInBounds_toArray, List.set_cons_zero, List.set_cons_succ, i64_w, i32_w]
    rfl
   refine one_ (i := 15) (N := some 28) #[true, true, true, true, true, true, true, true, true, true, true, true, true, true, true, true, false, false] rfl rfl (one_of HT_.out (by kernel_rfl)) (by decide) (fun K hK => ?_)
   refine goes_ Try.func59 (by kernel_rfl) rfl #[.slice A1 x.length c1, .slice F first.length d] (by rfl) rfl rfl (by (try simp only [List.map_toArray, List.map_cons, List.map_nil]); first | done | rfl) ?_
   refine (fboth_calls A1 c1 x F d first W2 (Kd.R_reads' HR2.out).2.2 (Kd.R_reads' HR2.out).2.1 (Kd.R_reads' HF2.out).2.2 (Kd.R_reads' HF2.out).2.1 (by have := HXG.out.len; have := HGF.out.len; have := HN.out; omega) HXG.out.1).mono ?_
   rintro e W3 ⟨A2, c2, rfl, hb, hcm⟩
   have HBB := Aside0.mk hb
   have HM3 := Aside0.mk (HM2.out.later hb)
   have HT3 := Aside0.mk (HT2.out.trans (Tn.later hb HB2.out))
   have HGC3 := Aside0.mk (blk_below HGC2.out hb)
   have HX3 := Aside0.mk (came_rowI hcm HR2.out HM2.out hb HB2.out)
   refine ⟨_, rfl, ?_⟩
   clear hb hcm
   refine hK.out _ _ ⟨cell_keep HBB.out hHeld.1, cell_keep HBB.out hHeld.2.1, cell_keep HBB.out hHeld.2.2⟩ (fun hHeld => ?_)
   clear hK K
   refine norm_ (a' := ?_) ?_ ?_
   rotate_left
   ·show Act.put _ (some 28) _ = _
    simp only [Act.put, List.setIfInBounds_toArray, List.set_cons_zero, List.set_cons_succ, i64_w, i32_w]
    rfl
   refine pure_ (i := 16) (N := some 29) (v := ?_) (a' := ?_) #[true, true, true, true, true, true, true, true, true, true, true, true, true, true, true, true, true, false] rfl rfl (any_of HT_.out (by kernel_rfl)) (fun _ _ _ h => h) (Or.inl ⟨by rfl, ?_⟩) ?_ ?_
   rotate_left
   ·intro w'
    go_simp
    with_reducible rfl
   rotate_left
   ·simp only [Act.put, List.setIfInBounds_toArray, List.set_cons_zero, List.set_cons_succ, i64_w, i32_w]
    rfl
   obtain ⟨z0, z1, z2⟩ := hHeld
   have z3 := blk_frozen HGC3.out j
   refine last_ (i := 17) (N := none) #[true, true, true, true, true, true, true, true, true, true, true, true, true, true, true, true, true, true] rfl rfl (one_of HT_.out (by kernel_rfl)) (by decide) (fun K hK => ?_)
   refine step_list rfl (by rfl) ?_
   unfold Oper.wp
   go_simp
   refine hK.out _ _ ?_
   clear hK K z0 z1 z2 z3
   refine done_ (done_of HT_.out (by kernel_rfl)) ?_
   refine NoPanic.normal ?_
   clear HT_ HW_ hHeld
   clear hadd hwr
   have HP := Aside0.mk (HM3.out.put HGC3.out HGB.out HJL.out HX3.out)
   go_wp2_with fail
   go_roundg (gk - 1)
   case measure => have := HQ.out; omega
   case rel => exact ⟨i + 1, by rw [show wrap64 ((i : Int) + 1) = ((i + 1 : Nat) : Int) by have := HIL.out; have := HLL.out; unfold wrap64; omega], ⟨by have := HK.out; have := HQ.out; omega⟩, ⟨by rw [afterR_step HIL.out, ← HFQ.out, ← HTD.out, ← HJ.out, ← HX.out]; exact HP.out.1⟩, ⟨HT3.out.trans HP.out.2⟩⟩
end F
end Go.Proofs.Ytemlgmkbonpniaa.Print

namespace Go.Proofs.Ytemlgmkbonpniaa.Print
open Go.Shelf Go.RowKit Go.Maps Go.Proofs.YtemlgmkbonpniaaW.PrintWords Go.Proofs.YtemlgmkbonpniaaW.PrintLast Go.Proofs.YtemlgmkbonpniaaW.PrintMore
set_option linter.unusedVariables false
set_option linter.unusedSimpArgs false
namespace F
theorem below_set {b0 k : Nat} {W W' : World} (h : Below b0 W W') (hk : b0 ≤ k) (i : Nat) (u : Value) : Below b0 W (W'.setCell ⟨k, i, none⟩ u) := h.trans ⟨rfl, rfl, rfl, by simp, fun j hj => Below.heap_setCell _ _ _ j (by show j ≠ k; omega)⟩
structure ThS (b0 MB XB YB RB : Nat) (vS : Value) (W : World) (st : St) (vF : Value) (e y : Ed) (v1 v2 u1 u2 : Value) (W' : World) : Prop where
 mm : Mk b0 MB st.sets st.fol vS vF W'
 tn : Tn b0 vS vS W W'
 f1 : RowI b0 vS W' v1 e.first
 f2 : RowI b0 vS W' v2 e.last
 g1 : RowI b0 vS W' u1 y.first
 g2 : RowI b0 vS W' u2 y.last
 ex : Edge W' XB e.null v1 v2
 ey : Edge W' YB y.null u1 u2
 er : Edge W' RB false nilV nilV
 rb : W.heap.size ≤ RB
 ow : b0 ≤ W.heap.size
section
variable {b0 MB XB YB RB OB : Nat} {vS vF vF' v1 v2 u1 u2 a1 a2 : Value} {W W' W2 : World} {st st' : St} {e y : Ed} {b : Bool}
theorem ThS.later (h : ThS b0 MB XB YB RB vS W st vF e y v1 v2 u1 u2 W') (hb : Below W'.heap.size W' W2) : ThS b0 MB XB YB RB vS W st vF e y v1 v2 u1 u2 W2 :=
 ⟨h.mm.later hb, h.tn.trans (Tn.later hb (Nat.le_trans h.ow h.tn.below.size)), Kd.R_below h.f1 hb, Kd.R_below h.f2 hb, Kd.R_below h.g1 hb, Kd.R_below h.g2 hb, h.ex.later hb, h.ey.later hb, h.er.later hb, h.rb, h.ow⟩
theorem ThS.turn (h : ThS b0 MB XB YB RB vS W st vF e y v1 v2 u1 u2 W') (hm : Mk b0 MB st'.sets st'.fol vS vF' W2) (ht : Tn b0 vS vS W' W2) : ThS b0 MB XB YB RB vS W st' vF' e y v1 v2 u1 u2 W2 :=
 ⟨hm, h.tn.trans ht, ht.rows _ _ h.f1, ht.rows _ _ h.f2, ht.rows _ _ h.g1, ht.rows _ _ h.g2, h.ex.turn ht, h.ey.turn ht, h.er.turn ht, h.rb, h.ow⟩
theorem ThS.far (h : ThS b0 MB XB YB RB vS W st vF e y v1 v2 u1 u2 W') (hk : Edge W' OB b a1 a2) (hne : OB ≠ XB ∧ OB ≠ YB ∧ OB ≠ RB) (hx : W.heap.size ≤ OB) (i : Nat) (u : Value) : ThS b0 MB XB YB RB vS W st vF e y v1 v2 u1 u2 (W'.setCell ⟨OB, i, none⟩ u) := by
 have how := h.ow
 unfold Edge at hk
 exact ⟨h.mm.far hk (by decide) (by decide) (by decide) i u, ⟨below_set h.tn.below (by omega) i u, fun v xs hr => RowI.far (h.tn.rows v xs hr) hk (by decide) i u, fun k cs t hc e1 e2 e3 => (Below.heap_setCell _ _ _ k (by have := blk_lt hc; show k ≠ OB; omega)).trans (h.tn.blk k cs t hc e1 e2 e3)⟩, RowI.far h.f1 hk (by decide) i u, RowI.far h.f2 hk (by decide) i u, RowI.far h.g1 hk (by decide) i u, RowI.far h.g2 hk (by decide) i u, h.ex.far hne.1 i u, h.ey.far hne.2.1 i u, h.er.far hne.2.2 i u, h.rb, h.ow⟩
end
set_option maxHeartbeats 16000000 in
set_option maxRecDepth 100000 in
theorem then_calls {b0 MB PB N : Nat} {W : World} {vS vF0 : Value} (r : St × Ed) (e : Ed) (L1 L2 M1 M2 : Option Addr) (k1 k2 d1 d2 : Nat) (hm : Mk b0 MB r.1.sets r.1.fol vS vF0 W) (hp : Pbox W PB MB) (hf1 : RowI b0 vS W (.slice L1 e.first.length k1) e.first) (hf2 : RowI b0 vS W (.slice L2 e.last.length k2) e.last) (hg1 : RowI b0 vS W (.slice M1 r.2.first.length d1) r.2.first) (hg2 : RowI b0 vS W (.slice M2 r.2.last.length d2) r.2.last)
  (hfit : Fit r.1) (hge : GoodE r.1.sets.length e) (hgr : GoodE r.1.sets.length r.2) (hN : r.1.sets.length ≤ 300) (hb0 : b0 ≤ W.heap.size) :
  Calls Try.prog 73 #[.agg #[.bool e.null, .slice L1 e.first.length k1, .slice L2 e.last.length k2], .agg #[.bool r.2.null, .slice M1 r.2.first.length d1, .slice M2 r.2.last.length d2], .func (.func 72) #[] #[.pointer (some ⟨PB, 0, none⟩)]] W (NodePost b0 MB vS W (catOne r e)) := by
 have eg : ∀ args w, (callFunc 72 args).run Try.prog w = .ok (.enter 72 args) w := enters_of Try.func72 (by kernel_rfl) rfl
 have HGE := Aside0.mk hge
 have HGR := Aside0.mk hgr
 have HFIT := Aside0.mk hfit
 have HN := Aside0.mk hN
 have HLB := Aside0.mk (show e.first.length ≤ 300 ∧ e.last.length ≤ 300 ∧ r.2.first.length ≤ 300 ∧ r.2.last.length ≤ 300 ∧ r.1.fol.length ≤ 300 by
  have h1 := hge.first.len
  have h2 := hge.last.len
  have h3 := hgr.first.len
  have h4 := hgr.last.len
  have h5 := hfit.len
  omega)
 have HM := Aside0.mk hm
 have HP := Aside0.mk hp
 have HF1 := Aside0.mk hf1
 have HF2 := Aside0.mk hf2
 have HG1 := Aside0.mk hg1
 have HG2 := Aside0.mk hg2
 have HB0 := Aside0.mk hb0
 clear hm hp hf1 hf2 hg1 hg2 hfit hge hgr hN hb0
 go_enter Try.func73, Try.ntmps73
 go_upto_region 1 with fail
 have b1 := below_alloc (Below.refl W.heap.size W) (.cells #[.bool e.null, .slice L1 e.first.length k1, .slice L2 e.last.length k2] 69)
 have b2 := below_alloc (Below.refl _ (W.alloc (.cells #[.bool e.null, .slice L1 e.first.length k1, .slice L2 e.last.length k2] 69))) (.cells #[.bool r.2.null, .slice M1 r.2.first.length d1, .slice M2 r.2.last.length d2] 69)
 have b3 := below_alloc (Below.refl _ ((W.alloc (.cells #[.bool e.null, .slice L1 e.first.length k1, .slice L2 e.last.length k2] 69)).alloc (.cells #[.bool r.2.null, .slice M1 r.2.first.length d1, .slice M2 r.2.last.length d2] 69))) (.cells #[.bool false, nilV, nilV] 69)
 have s1 : (W.alloc (.cells #[.bool e.null, .slice L1 e.first.length k1, .slice L2 e.last.length k2] 69)).heap.size = W.heap.size + 1 := Array.size_push _
 have s2 : ((W.alloc (.cells #[.bool e.null, .slice L1 e.first.length k1, .slice L2 e.last.length k2] 69)).alloc (.cells #[.bool r.2.null, .slice M1 r.2.first.length d1, .slice M2 r.2.last.length d2] 69)).heap.size = W.heap.size + 1 + 1 := (Array.size_push _).trans (by rw [s1])
 have b23 := b2.trans (b3.mono (by rw [s1, s2]; omega))
 have bw := b1.trans (b23.mono (by rw [s1]; omega))
 have HS0 := Aside0.mk (show ThS b0 MB W.heap.size (W.heap.size + 1) (W.heap.size + 1 + 1) vS W r.1 vF0 e r.2 (.slice L1 e.first.length k1) (.slice L2 e.last.length k2) (.slice M1 r.2.first.length d1) (.slice M2 r.2.last.length d2) (((W.alloc (.cells #[.bool e.null, .slice L1 e.first.length k1, .slice L2 e.last.length k2] 69)).alloc (.cells #[.bool r.2.null, .slice M1 r.2.first.length d1, .slice M2 r.2.last.length d2] 69)).alloc (.cells #[.bool false, nilV, nilV] 69)) from
  ⟨HM.out.later bw, Tn.later bw HB0.out, Kd.R_below HF1.out bw, Kd.R_below HF2.out bw, Kd.R_below HG1.out bw, Kd.R_below HG2.out bw, blk_below (blk_new W _) b23, by rw [← s1]; exact blk_below (blk_new _ _) b3, by rw [← s2]; exact blk_new _ _, by omega, HB0.out⟩)
 have HP1 := Aside0.mk (HP.out.later bw)
 clear b1 b2 b3 s1 s2 b23 bw HP
 obtain ⟨RB, hRB⟩ : ∃ n, W.heap.size + 1 + 1 = n := ⟨_, rfl⟩
 obtain ⟨YB, hYB⟩ : ∃ n, W.heap.size + 1 = n := ⟨_, rfl⟩
 obtain ⟨XB, hXB⟩ : ∃ n, W.heap.size = n := ⟨_, rfl⟩
 obtain ⟨W1, hW1⟩ : ∃ w, ((W.alloc (.cells #[.bool e.null, .slice L1 e.first.length k1, .slice L2 e.last.length k2] 69)).alloc (.cells #[.bool r.2.null, .slice M1 r.2.first.length d1, .slice M2 r.2.last.length d2] 69)).alloc (.cells #[.bool false, nilV, nilV] 69) = w := ⟨_, rfl⟩
 rw [hRB, hYB, hXB, hW1] at HS0
 rw [hW1] at HP1
 rw [hW1]
 rw [hRB, hYB, hXB]
 clear hRB hYB hXB hW1
 have z0 := (HS0.out).ex.cells.1
 have z1 := (HS0.out).ex.cells.2.1
 have z2 := (HS0.out).ex.cells.2.2
 have z3 := (HS0.out).ey.cells.1
 have z4 := (HS0.out).ey.cells.2.1
 have z5 := (HS0.out).ey.cells.2.2
 go_wp2_with fail
 refine (note_calls (N := r.1.sets.length) L2 k2 e.last M1 d1 r.2.first HS0.out.mm HP1.out HS0.out.f2 HS0.out.g1 (fun t ht => by have h1 := HGE.out.last.2 t ht; have h3 := HFIT.out.len; omega) HFIT.out.good HGR.out.first (by have := HN.out; omega) (by have := HLB.out; omega) (Nat.le_trans HS0.out.ow HS0.out.tn.below.size) (by have := HLB.out; omega)).mono ?_
 rintro E W2 ⟨rfl, hm2, ht2⟩
 obtain ⟨vF, hvF⟩ : ∃ v, v = vF0 := ⟨_, rfl⟩
 rw [← hvF] at hm2
 have HS2 := Aside0.mk (ThS.turn (st' := (⟨r.1.sets, afterR r.1.fol e.last r.2.first⟩ : St)) HS0.out hm2 ht2)
 clear hm2 ht2 hvF HS0 HP1 HM HF1 HF2 HG1 HG2
 clear z0 z1 z2 z3 z4 z5
 cases hbo : e.null
 case false =>
  have HBO := Aside0.mk hbo
  have z0 := (HS2.out).ex.cells.1
  have z1 := (HS2.out).ex.cells.2.1
  have z2 := (HS2.out).ex.cells.2.2
  have z3 := (HS2.out).ey.cells.1
  have z4 := (HS2.out).ey.cells.2.1
  have z5 := (HS2.out).ey.cells.2.2
  rw [hbo] at z0
  go_upto_region 3 with fail
  clear z0 z1 z2 z3 z4 z5
  have HNE := Aside0.mk (show W2.heap.size ≠ XB ∧ W2.heap.size ≠ YB ∧ W2.heap.size ≠ RB ∧ W.heap.size ≤ W2.heap.size from ⟨by have := blk_lt HS2.out.ex; omega, by have := blk_lt HS2.out.ey; omega, by have := blk_lt HS2.out.er; omega, HS2.out.tn.below.size⟩)
  have HO3 := Aside0.mk (show Edge _ W2.heap.size false (.slice L1 e.first.length k1) (.slice M2 r.2.last.length d2) from blk_new W2 (.cells #[.bool false, (.slice L1 e.first.length k1), (.slice M2 r.2.last.length d2)] 69))
  have HS3 := Aside0.mk (HS2.out.later (below_alloc (Below.refl _ W2) (.cells #[.bool false, (.slice L1 e.first.length k1), (.slice M2 r.2.last.length d2)] 69)))
  obtain ⟨OB, hOB⟩ : ∃ n, W2.heap.size = n := ⟨_, rfl⟩
  rw [hOB] at HNE HO3
  rw [hOB]
  clear hOB
  obtain ⟨W3, hW3⟩ : ∃ w, W2.alloc (.cells #[.bool false, (.slice L1 e.first.length k1), (.slice M2 r.2.last.length d2)] 69) = w := ⟨_, rfl⟩
  rw [hW3] at HO3 HS3
  rw [hW3]
  clear hW3 HS2
  have z0 := (HS3.out).ex.cells.1
  have z1 := (HS3.out).ex.cells.2.1
  have z2 := (HS3.out).ex.cells.2.2
  have z3 := (HS3.out).ey.cells.1
  have z4 := (HS3.out).ey.cells.2.1
  have z5 := (HS3.out).ey.cells.2.2
  rw [hbo] at z0
  clear hbo
  have o0 := (HO3.out).frozen 0
  have o1 := (HO3.out).frozen 1
  have o2 := (HO3.out).frozen 2
  have o3 := (HO3.out).cells.1
  have o4 := (HO3.out).cells.2.1
  have o5 := (HO3.out).cells.2.2
  go_upto_region 5 with fail
  clear o0 o1 o2 o3 o4 o5
  clear z0 z1 z2 z3 z4 z5
  have HA1 := Aside0.mk HS3.out.f1
  cases hby : r.2.null
  case false =>
   have HBY := Aside0.mk hby
   have z0 := (HS3.out).ex.cells.1
   have z1 := (HS3.out).ex.cells.2.1
   have z2 := (HS3.out).ex.cells.2.2
   have z3 := (HS3.out).ey.cells.1
   have z4 := (HS3.out).ey.cells.2.1
   have z5 := (HS3.out).ey.cells.2.2
   rw [hby] at z3
   clear hby
   have o0 := (HO3.out).frozen 0
   have o1 := (HO3.out).frozen 1
   have o2 := (HO3.out).frozen 2
   have o3 := (HO3.out).cells.1
   have o4 := (HO3.out).cells.2.1
   have o5 := (HO3.out).cells.2.2
   go_upto_region 7 with fail
   clear o0 o1 o2 o3 o4 o5
   clear z0 z1 z2 z3 z4 z5
   have HA2 := Aside0.mk HS3.out.g2
   have t0 := (HO3.out).cells.1
   have t1 := (HO3.out).cells.2.1
   have t2 := (HO3.out).cells.2.2
   have y0 := HS3.out.er.cells.1
   have y1 := HS3.out.er.cells.2.1
   have y2 := HS3.out.er.cells.2.2
   have y3 := HS3.out.er.frozen 0
   have y4 := HS3.out.er.frozen 1
   have y5 := HS3.out.er.frozen 2
   go_wp2_with fail
   clear t0 t1 t2 y0 y1 y2 y3 y4 y5
   have he : catOne r e = (⟨r.1.sets, afterR r.1.fol e.last r.2.first⟩, ⟨false, e.first, r.2.last⟩) := by unfold catOne; rw [HBO.out, HBY.out]; rfl
   have HFI := Aside0.mk (Fin_.all (show Fin_ b0 MB RB vS W (⟨r.1.sets, afterR r.1.fol e.last r.2.first⟩ : St) vS vF (.slice L1 e.first.length k1) (.slice M2 r.2.last.length d2) (e.first) (r.2.last) W3 false nilV nilV from ⟨HS3.out.er, HS3.out.mm, HS3.out.tn, HA1.out, HA2.out, HS3.out.rb, HS3.out.ow⟩) false)
   obtain ⟨W9, hW9⟩ : ∃ w, ((W3.setCell ⟨RB, 0, none⟩ (.bool false)).setCell ⟨RB, 1, none⟩ (.slice L1 e.first.length k1)).setCell ⟨RB, 2, none⟩ (.slice M2 r.2.last.length d2) = w := ⟨_, rfl⟩
   rw [hW9] at HFI ⊢
   clear hW9
   refine bodyPost_ret (results_cell_row rfl _ _ RB 69 #[.bool false, (.slice L1 e.first.length k1), (.slice M2 r.2.last.length d2)] (0, 0) _ rfl HFI.out.er Try.underlying69 rfl (by kernel_rfl)) rfl ?_
   rw [he]
   exact HFI.out.post (r := (⟨r.1.sets, afterR r.1.fol e.last r.2.first⟩, ⟨false, e.first, r.2.last⟩))
  case true =>
   have HBY := Aside0.mk hby
   have z0 := (HS3.out).ex.cells.1
   have z1 := (HS3.out).ex.cells.2.1
   have z2 := (HS3.out).ex.cells.2.2
   have z3 := (HS3.out).ey.cells.1
   have z4 := (HS3.out).ey.cells.2.1
   have z5 := (HS3.out).ey.cells.2.2
   rw [hby] at z3
   clear hby
   have o0 := (HO3.out).frozen 0
   have o1 := (HO3.out).frozen 1
   have o2 := (HO3.out).frozen 2
   have o3 := (HO3.out).cells.1
   have o4 := (HO3.out).cells.2.1
   have o5 := (HO3.out).cells.2.2
   go_upto_region 7 with (go_at_call 59; refine (fboth_calls L2 k2 e.last M2 d2 r.2.last W3 (Kd.R_reads' HS3.out.f2).2.2 (Kd.R_reads' HS3.out.f2).2.1 (Kd.R_reads' HS3.out.g2).2.2 (Kd.R_reads' HS3.out.g2).2.1 (by have := HLB.out; omega) HGE.out.last.1).mono ?_; rintro E W7 ⟨A7, c7, rfl, hb7, hcm7⟩; have HS7 := Aside0.mk (HS3.out.later hb7); have HA2 := Aside0.mk (came_rowI hcm7 HS3.out.f2 HS3.out.mm hb7 (Nat.le_trans HS3.out.ow HS3.out.tn.below.size)); have HO7 := Aside0.mk (HO3.out.later hb7); have HA7 := Aside0.mk (Kd.R_below HA1.out hb7); clear o0 o1 o2 o3 o4 o5 z0 z1 z2 z3 z4 z5; have o0 := (HO7.out).frozen 0; have o1 := (HO7.out).frozen 1; have o2 := (HO7.out).frozen 2; have o3 := (HO7.out).cells.1; have o4 := (HO7.out).cells.2.1; have o5 := (HO7.out).cells.2.2; clear hb7 hcm7)
   clear o0 o1 o2 o3 o4 o5
   have HS8 := Aside0.mk (HS7.out.far HO7.out (by have := HNE.out; omega) HNE.out.2.2.2 2 (.slice A7 (bothR e.last r.2.last).length c7))
   have HA8 := Aside0.mk (RowI.far HA2.out HO7.out (by decide) 2 (.slice A7 (bothR e.last r.2.last).length c7))
   have HA9 := Aside0.mk (RowI.far HA7.out HO7.out (by decide) 2 (.slice A7 (bothR e.last r.2.last).length c7))
   have HO8 := Aside0.mk (show Edge _ OB _ _ (.slice A7 (bothR e.last r.2.last).length c7) from blk_put HO7.out 2 (.slice A7 (bothR e.last r.2.last).length c7) rfl)
   obtain ⟨W8, hW8⟩ : ∃ w, W7.setCell ⟨OB, 2, none⟩ (.slice A7 (bothR e.last r.2.last).length c7) = w := ⟨_, rfl⟩
   rw [hW8] at HS8 HA8 HA9 HO8
   rw [hW8]
   clear hW8 HA1 HA2 HA7
   have HA1 := HA9
   have HA2 := HA8
   have t0 := (HO8.out).cells.1
   have t1 := (HO8.out).cells.2.1
   have t2 := (HO8.out).cells.2.2
   have y0 := HS8.out.er.cells.1
   have y1 := HS8.out.er.cells.2.1
   have y2 := HS8.out.er.cells.2.2
   have y3 := HS8.out.er.frozen 0
   have y4 := HS8.out.er.frozen 1
   have y5 := HS8.out.er.frozen 2
   go_wp2_with fail
   clear t0 t1 t2 y0 y1 y2 y3 y4 y5
   have he : catOne r e = (⟨r.1.sets, afterR r.1.fol e.last r.2.first⟩, ⟨false, e.first, bothR e.last r.2.last⟩) := by unfold catOne; rw [HBO.out, HBY.out]; rfl
   have HFI := Aside0.mk (Fin_.all (show Fin_ b0 MB RB vS W (⟨r.1.sets, afterR r.1.fol e.last r.2.first⟩ : St) vS vF (.slice L1 e.first.length k1) (.slice A7 (bothR e.last r.2.last).length c7) (e.first) (bothR e.last r.2.last) W8 false nilV nilV from ⟨HS8.out.er, HS8.out.mm, HS8.out.tn, HA1.out, HA2.out, HS8.out.rb, HS8.out.ow⟩) false)
   obtain ⟨W9, hW9⟩ : ∃ w, ((W8.setCell ⟨RB, 0, none⟩ (.bool false)).setCell ⟨RB, 1, none⟩ (.slice L1 e.first.length k1)).setCell ⟨RB, 2, none⟩ (.slice A7 (bothR e.last r.2.last).length c7) = w := ⟨_, rfl⟩
   rw [hW9] at HFI ⊢
   clear hW9
   refine bodyPost_ret (results_cell_row rfl _ _ RB 69 #[.bool false, (.slice L1 e.first.length k1), (.slice A7 (bothR e.last r.2.last).length c7)] (0, 0) _ rfl HFI.out.er Try.underlying69 rfl (by kernel_rfl)) rfl ?_
   rw [he]
   exact HFI.out.post (r := (⟨r.1.sets, afterR r.1.fol e.last r.2.first⟩, ⟨false, e.first, bothR e.last r.2.last⟩))
 case true =>
  have HBO := Aside0.mk hbo
  have z0 := (HS2.out).ex.cells.1
  have z1 := (HS2.out).ex.cells.2.1
  have z2 := (HS2.out).ex.cells.2.2
  have z3 := (HS2.out).ey.cells.1
  have z4 := (HS2.out).ey.cells.2.1
  have z5 := (HS2.out).ey.cells.2.2
  rw [hbo] at z0
  go_upto_region 3 with fail
  clear z0 z1 z2 z3 z4 z5
  have HNE := Aside0.mk (show W2.heap.size ≠ XB ∧ W2.heap.size ≠ YB ∧ W2.heap.size ≠ RB ∧ W.heap.size ≤ W2.heap.size from ⟨by have := blk_lt HS2.out.ex; omega, by have := blk_lt HS2.out.ey; omega, by have := blk_lt HS2.out.er; omega, HS2.out.tn.below.size⟩)
  have HO3 := Aside0.mk (show Edge _ W2.heap.size r.2.null (.slice L1 e.first.length k1) (.slice M2 r.2.last.length d2) from blk_new W2 (.cells #[.bool r.2.null, (.slice L1 e.first.length k1), (.slice M2 r.2.last.length d2)] 69))
  have HS3 := Aside0.mk (HS2.out.later (below_alloc (Below.refl _ W2) (.cells #[.bool r.2.null, (.slice L1 e.first.length k1), (.slice M2 r.2.last.length d2)] 69)))
  obtain ⟨OB, hOB⟩ : ∃ n, W2.heap.size = n := ⟨_, rfl⟩
  rw [hOB] at HNE HO3
  rw [hOB]
  clear hOB
  obtain ⟨W3, hW3⟩ : ∃ w, W2.alloc (.cells #[.bool r.2.null, (.slice L1 e.first.length k1), (.slice M2 r.2.last.length d2)] 69) = w := ⟨_, rfl⟩
  rw [hW3] at HO3 HS3
  rw [hW3]
  clear hW3 HS2
  have z0 := (HS3.out).ex.cells.1
  have z1 := (HS3.out).ex.cells.2.1
  have z2 := (HS3.out).ex.cells.2.2
  have z3 := (HS3.out).ey.cells.1
  have z4 := (HS3.out).ey.cells.2.1
  have z5 := (HS3.out).ey.cells.2.2
  rw [hbo] at z0
  clear hbo
  have o0 := (HO3.out).frozen 0
  have o1 := (HO3.out).frozen 1
  have o2 := (HO3.out).frozen 2
  have o3 := (HO3.out).cells.1
  have o4 := (HO3.out).cells.2.1
  have o5 := (HO3.out).cells.2.2
  go_upto_region 5 with (go_at_call 59; refine (fboth_calls L1 k1 e.first M1 d1 r.2.first W3 (Kd.R_reads' HS3.out.f1).2.2 (Kd.R_reads' HS3.out.f1).2.1 (Kd.R_reads' HS3.out.g1).2.2 (Kd.R_reads' HS3.out.g1).2.1 (by have := HLB.out; omega) HGE.out.first.1).mono ?_; rintro E W4 ⟨A5, c5, rfl, hb5, hcm5⟩; have HS4 := Aside0.mk (HS3.out.later hb5); have HV4 := Aside0.mk (came_rowI hcm5 HS3.out.f1 HS3.out.mm hb5 (Nat.le_trans HS3.out.ow HS3.out.tn.below.size)); have HO4 := Aside0.mk (HO3.out.later hb5); clear o0 o1 o2 o3 o4 o5 z0 z1 z2 z3 z4 z5; have o0 := (HO4.out).frozen 0; have o1 := (HO4.out).frozen 1; have o2 := (HO4.out).frozen 2; have o3 := (HO4.out).cells.1; have o4 := (HO4.out).cells.2.1; have o5 := (HO4.out).cells.2.2; clear hb5 hcm5)
  clear o0 o1 o2 o3 o4 o5
  have HS5 := Aside0.mk (HS4.out.far HO4.out (by have := HNE.out; omega) HNE.out.2.2.2 1 (.slice A5 (bothR e.first r.2.first).length c5))
  have HA1 := Aside0.mk (RowI.far HV4.out HO4.out (by decide) 1 (.slice A5 (bothR e.first r.2.first).length c5))
  have HO5 := Aside0.mk (show Edge _ OB _ (.slice A5 (bothR e.first r.2.first).length c5) _ from blk_put HO4.out 1 (.slice A5 (bothR e.first r.2.first).length c5) rfl)
  obtain ⟨W5, hW5⟩ : ∃ w, W4.setCell ⟨OB, 1, none⟩ (.slice A5 (bothR e.first r.2.first).length c5) = w := ⟨_, rfl⟩
  rw [hW5] at HS5 HA1 HO5
  rw [hW5]
  clear hW5 HS4 HO4 HV4 HS3 HO3
  cases hby : r.2.null
  case false =>
   have HBY := Aside0.mk hby
   have z0 := (HS5.out).ex.cells.1
   have z1 := (HS5.out).ex.cells.2.1
   have z2 := (HS5.out).ex.cells.2.2
   have z3 := (HS5.out).ey.cells.1
   have z4 := (HS5.out).ey.cells.2.1
   have z5 := (HS5.out).ey.cells.2.2
   rw [hby] at z3
   clear hby
   have o0 := (HO5.out).frozen 0
   have o1 := (HO5.out).frozen 1
   have o2 := (HO5.out).frozen 2
   have o3 := (HO5.out).cells.1
   have o4 := (HO5.out).cells.2.1
   have o5 := (HO5.out).cells.2.2
   go_upto_region 7 with fail
   clear o0 o1 o2 o3 o4 o5
   clear z0 z1 z2 z3 z4 z5
   have HA2 := Aside0.mk HS5.out.g2
   have t0 := (HO5.out).cells.1
   have t1 := (HO5.out).cells.2.1
   have t2 := (HO5.out).cells.2.2
   have y0 := HS5.out.er.cells.1
   have y1 := HS5.out.er.cells.2.1
   have y2 := HS5.out.er.cells.2.2
   have y3 := HS5.out.er.frozen 0
   have y4 := HS5.out.er.frozen 1
   have y5 := HS5.out.er.frozen 2
   go_wp2_with fail
   clear t0 t1 t2 y0 y1 y2 y3 y4 y5
   have he : catOne r e = (⟨r.1.sets, afterR r.1.fol e.last r.2.first⟩, ⟨r.2.null, bothR e.first r.2.first, r.2.last⟩) := by unfold catOne; rw [HBO.out, HBY.out]; rfl
   have HFI := Aside0.mk (Fin_.all (show Fin_ b0 MB RB vS W (⟨r.1.sets, afterR r.1.fol e.last r.2.first⟩ : St) vS vF (.slice A5 (bothR e.first r.2.first).length c5) (.slice M2 r.2.last.length d2) (bothR e.first r.2.first) (r.2.last) W5 false nilV nilV from ⟨HS5.out.er, HS5.out.mm, HS5.out.tn, HA1.out, HA2.out, HS5.out.rb, HS5.out.ow⟩) r.2.null)
   obtain ⟨W9, hW9⟩ : ∃ w, ((W5.setCell ⟨RB, 0, none⟩ (.bool r.2.null)).setCell ⟨RB, 1, none⟩ (.slice A5 (bothR e.first r.2.first).length c5)).setCell ⟨RB, 2, none⟩ (.slice M2 r.2.last.length d2) = w := ⟨_, rfl⟩
   rw [hW9] at HFI ⊢
   clear hW9
   refine bodyPost_ret (results_cell_row rfl _ _ RB 69 #[.bool r.2.null, (.slice A5 (bothR e.first r.2.first).length c5), (.slice M2 r.2.last.length d2)] (0, 0) _ rfl HFI.out.er Try.underlying69 rfl (by kernel_rfl)) rfl ?_
   rw [he]
   exact HFI.out.post (r := (⟨r.1.sets, afterR r.1.fol e.last r.2.first⟩, ⟨r.2.null, bothR e.first r.2.first, r.2.last⟩))
  case true =>
   have HBY := Aside0.mk hby
   have z0 := (HS5.out).ex.cells.1
   have z1 := (HS5.out).ex.cells.2.1
   have z2 := (HS5.out).ex.cells.2.2
   have z3 := (HS5.out).ey.cells.1
   have z4 := (HS5.out).ey.cells.2.1
   have z5 := (HS5.out).ey.cells.2.2
   rw [hby] at z3
   clear hby
   have o0 := (HO5.out).frozen 0
   have o1 := (HO5.out).frozen 1
   have o2 := (HO5.out).frozen 2
   have o3 := (HO5.out).cells.1
   have o4 := (HO5.out).cells.2.1
   have o5 := (HO5.out).cells.2.2
   go_upto_region 7 with (go_at_call 59; refine (fboth_calls L2 k2 e.last M2 d2 r.2.last W5 (Kd.R_reads' HS5.out.f2).2.2 (Kd.R_reads' HS5.out.f2).2.1 (Kd.R_reads' HS5.out.g2).2.2 (Kd.R_reads' HS5.out.g2).2.1 (by have := HLB.out; omega) HGE.out.last.1).mono ?_; rintro E W7 ⟨A7, c7, rfl, hb7, hcm7⟩; have HS7 := Aside0.mk (HS5.out.later hb7); have HA2 := Aside0.mk (came_rowI hcm7 HS5.out.f2 HS5.out.mm hb7 (Nat.le_trans HS5.out.ow HS5.out.tn.below.size)); have HO7 := Aside0.mk (HO5.out.later hb7); have HA7 := Aside0.mk (Kd.R_below HA1.out hb7); clear o0 o1 o2 o3 o4 o5 z0 z1 z2 z3 z4 z5; have o0 := (HO7.out).frozen 0; have o1 := (HO7.out).frozen 1; have o2 := (HO7.out).frozen 2; have o3 := (HO7.out).cells.1; have o4 := (HO7.out).cells.2.1; have o5 := (HO7.out).cells.2.2; clear hb7 hcm7)
   clear o0 o1 o2 o3 o4 o5
   have HS8 := Aside0.mk (HS7.out.far HO7.out (by have := HNE.out; omega) HNE.out.2.2.2 2 (.slice A7 (bothR e.last r.2.last).length c7))
   have HA8 := Aside0.mk (RowI.far HA2.out HO7.out (by decide) 2 (.slice A7 (bothR e.last r.2.last).length c7))
   have HA9 := Aside0.mk (RowI.far HA7.out HO7.out (by decide) 2 (.slice A7 (bothR e.last r.2.last).length c7))
   have HO8 := Aside0.mk (show Edge _ OB _ _ (.slice A7 (bothR e.last r.2.last).length c7) from blk_put HO7.out 2 (.slice A7 (bothR e.last r.2.last).length c7) rfl)
   obtain ⟨W8, hW8⟩ : ∃ w, W7.setCell ⟨OB, 2, none⟩ (.slice A7 (bothR e.last r.2.last).length c7) = w := ⟨_, rfl⟩
   rw [hW8] at HS8 HA8 HA9 HO8
   rw [hW8]
   clear hW8 HA1 HA2 HA7
   have HA1 := HA9
   have HA2 := HA8
   have t0 := (HO8.out).cells.1
   have t1 := (HO8.out).cells.2.1
   have t2 := (HO8.out).cells.2.2
   have y0 := HS8.out.er.cells.1
   have y1 := HS8.out.er.cells.2.1
   have y2 := HS8.out.er.cells.2.2
   have y3 := HS8.out.er.frozen 0
   have y4 := HS8.out.er.frozen 1
   have y5 := HS8.out.er.frozen 2
   go_wp2_with fail
   clear t0 t1 t2 y0 y1 y2 y3 y4 y5
   have he : catOne r e = (⟨r.1.sets, afterR r.1.fol e.last r.2.first⟩, ⟨r.2.null, bothR e.first r.2.first, bothR e.last r.2.last⟩) := by unfold catOne; rw [HBO.out, HBY.out]; rfl
   have HFI := Aside0.mk (Fin_.all (show Fin_ b0 MB RB vS W (⟨r.1.sets, afterR r.1.fol e.last r.2.first⟩ : St) vS vF (.slice A5 (bothR e.first r.2.first).length c5) (.slice A7 (bothR e.last r.2.last).length c7) (bothR e.first r.2.first) (bothR e.last r.2.last) W8 false nilV nilV from ⟨HS8.out.er, HS8.out.mm, HS8.out.tn, HA1.out, HA2.out, HS8.out.rb, HS8.out.ow⟩) r.2.null)
   obtain ⟨W9, hW9⟩ : ∃ w, ((W8.setCell ⟨RB, 0, none⟩ (.bool r.2.null)).setCell ⟨RB, 1, none⟩ (.slice A5 (bothR e.first r.2.first).length c5)).setCell ⟨RB, 2, none⟩ (.slice A7 (bothR e.last r.2.last).length c7) = w := ⟨_, rfl⟩
   rw [hW9] at HFI ⊢
   clear hW9
   refine bodyPost_ret (results_cell_row rfl _ _ RB 69 #[.bool r.2.null, (.slice A5 (bothR e.first r.2.first).length c5), (.slice A7 (bothR e.last r.2.last).length c7)] (0, 0) _ rfl HFI.out.er Try.underlying69 rfl (by kernel_rfl)) rfl ?_
   rw [he]
   exact HFI.out.post (r := (⟨r.1.sets, afterR r.1.fol e.last r.2.first⟩, ⟨r.2.null, bothR e.first r.2.first, bothR e.last r.2.last⟩))
end F
end Go.Proofs.Ytemlgmkbonpniaa.Print

namespace Go.Proofs.Ytemlgmkbonpniaa.Print
open Go.Shelf Go.RowKit Go.Maps Go.Proofs.YtemlgmkbonpniaaW.PrintWords Go.Proofs.YtemlgmkbonpniaaW.PrintLast Go.Proofs.YtemlgmkbonpniaaW.PrintMore
set_option linter.unusedVariables false
set_option linter.unusedSimpArgs false
namespace F
def or_T1 : Bool × List (List Nat × List Nat) := (true, [([], []), ([0], [0]), ([1], [1]), ([2], [2]), ([3, 2], [2, 3]), ([2, 4], [2, 4]), ([], []), ([6], [6]), ([], []), ([8], [8]), ([7, 9, 2], [7, 9]), ([], []), ([11], [11]), ([], []), ([13], [13]), ([12, 14, 10], [12, 14]), ([5, 10, 15], [5, 10, 15]), ([16, 15, 0, 1, 2, 3, 4, 5, 6, 7, 8, 9, 10, 11, 12, 13, 14, 15, 16], [16])])
def or_B1 : List Nat := [0, 1, 3, 7, 15, 31, 0, 64, 0, 256, 967, 0, 2048, 0, 8192, 32711, 65535, 131071]
theorem or_tab1 : rtab .any (opsOf Try.f74 1) = or_T1 := by kernel_rfl
theorem or_bits1 : waitsOk or_T1.2 or_B1 = true := by kernel_rfl
set_option maxHeartbeats 16000000 in
set_option maxRecDepth 100000 in
theorem or_calls {W : World} (e y : Ed) (L1 L2 M1 M2 : Option Addr) (k1 k2 d1 d2 : Nat) (hf1 : Kd.C (Kd.int .i64) W L1 e.first.length e.first) (hf2 : Kd.C (Kd.int .i64) W L2 e.last.length e.last) (hg1 : Kd.C (Kd.int .i64) W M1 y.first.length y.first) (hg2 : Kd.C (Kd.int .i64) W M2 y.last.length y.last)
  (hk : e.first.length ≤ k1 ∧ e.last.length ≤ k2 ∧ y.first.length ≤ d1 ∧ y.last.length ≤ d2) (hl : e.first.length ≤ 300 ∧ e.last.length ≤ 300 ∧ y.first.length ≤ 300 ∧ y.last.length ≤ 300) (hr : e.first.Pairwise (· < ·) ∧ e.last.Pairwise (· < ·)) :
  Calls Try.prog 74 #[.agg #[.bool e.null, .slice L1 e.first.length k1, .slice L2 e.last.length k2], .agg #[.bool y.null, .slice M1 y.first.length d1, .slice M2 y.last.length d2]] W fun E W' => ∃ v1 v2, E = .returned (.agg #[.bool (e.null || y.null), v1, v2]) ∧ Below W.heap.size W W' ∧ Kd.R (Kd.int .i64) 3 W' W.heap.size (fun _ => True) v1 (bothR e.first y.first) ∧ Kd.R (Kd.int .i64) 3 W' W.heap.size (fun _ => True) v2 (bothR e.last y.last) := by
 have HK0 := Aside0.mk hk
 have HL := Aside0.mk hl
 have HRI := Aside0.mk hr
 have HF1 := Aside0.mk hf1
 have HF2 := Aside0.mk hf2
 have HG1 := Aside0.mk hg1
 have HG2 := Aside0.mk hg2
 clear hf1 hf2 hg1 hg2 hk hl hr
 go_enter Try.func74, Try.ntmps74
 go_upto_region 1 with fail
 have b1 := below_alloc (Below.refl W.heap.size W) (.cells #[.bool e.null, .slice L1 e.first.length k1, .slice L2 e.last.length k2] 69)
 have b2 := below_alloc (Below.refl _ (W.alloc (.cells #[.bool e.null, .slice L1 e.first.length k1, .slice L2 e.last.length k2] 69))) (.cells #[.bool y.null, .slice M1 y.first.length d1, .slice M2 y.last.length d2] 69)
 have b3 := below_alloc (Below.refl _ ((W.alloc (.cells #[.bool e.null, .slice L1 e.first.length k1, .slice L2 e.last.length k2] 69)).alloc (.cells #[.bool y.null, .slice M1 y.first.length d1, .slice M2 y.last.length d2] 69))) (.cells #[.bool false, nilV, nilV] 69)
 have s1 : (W.alloc (.cells #[.bool e.null, .slice L1 e.first.length k1, .slice L2 e.last.length k2] 69)).heap.size = W.heap.size + 1 := Array.size_push _
 have s2 : ((W.alloc (.cells #[.bool e.null, .slice L1 e.first.length k1, .slice L2 e.last.length k2] 69)).alloc (.cells #[.bool y.null, .slice M1 y.first.length d1, .slice M2 y.last.length d2] 69)).heap.size = W.heap.size + 1 + 1 := (Array.size_push _).trans (by rw [s1])
 have b23 := b2.trans (b3.mono (by rw [s1, s2]; omega))
 have bw := b1.trans (b23.mono (by rw [s1]; omega))
 have HX := Aside0.mk (show Edge (((W.alloc (.cells #[.bool e.null, .slice L1 e.first.length k1, .slice L2 e.last.length k2] 69)).alloc (.cells #[.bool y.null, .slice M1 y.first.length d1, .slice M2 y.last.length d2] 69)).alloc (.cells #[.bool false, nilV, nilV] 69)) W.heap.size e.null _ _ from blk_below (blk_new W _) b23)
 have HY := Aside0.mk (show Edge (((W.alloc (.cells #[.bool e.null, .slice L1 e.first.length k1, .slice L2 e.last.length k2] 69)).alloc (.cells #[.bool y.null, .slice M1 y.first.length d1, .slice M2 y.last.length d2] 69)).alloc (.cells #[.bool false, nilV, nilV] 69)) (W.heap.size + 1) y.null _ _ by rw [← s1]; exact blk_below (blk_new _ _) b3)
 have HR := Aside0.mk (show Edge (((W.alloc (.cells #[.bool e.null, .slice L1 e.first.length k1, .slice L2 e.last.length k2] 69)).alloc (.cells #[.bool y.null, .slice M1 y.first.length d1, .slice M2 y.last.length d2] 69)).alloc (.cells #[.bool false, nilV, nilV] 69)) (W.heap.size + 1 + 1) false nilV nilV by rw [← s2]; exact blk_new _ _)
 have HBW := Aside0.mk bw
 have HRB := Aside0.mk (show W.heap.size ≤ W.heap.size + 1 + 1 by omega)
 clear b1 b2 b3 s1 s2 b23 bw
 obtain ⟨RB, hRB⟩ : ∃ n, W.heap.size + 1 + 1 = n := ⟨_, rfl⟩
 obtain ⟨YB, hYB⟩ : ∃ n, W.heap.size + 1 = n := ⟨_, rfl⟩
 obtain ⟨XB, hXB⟩ : ∃ n, W.heap.size = n := ⟨_, rfl⟩
 obtain ⟨W1, hW1⟩ : ∃ w, ((W.alloc (.cells #[.bool e.null, .slice L1 e.first.length k1, .slice L2 e.last.length k2] 69)).alloc (.cells #[.bool y.null, .slice M1 y.first.length d1, .slice M2 y.last.length d2] 69)).alloc (.cells #[.bool false, nilV, nilV] 69) = w := ⟨_, rfl⟩
 rw [hRB, hW1] at HR
 rw [hYB, hW1] at HY
 rw [hXB, hW1] at HX
 rw [hRB] at HRB
 rw [hW1] at HBW
 rw [hW1]
 rw [hRB, hYB, hXB]
 clear hRB hYB hXB hW1
 cases hbo : e.null
 case false =>
  have HBO := Aside0.mk hbo
  rw [hbo] at HX
  clear hbo
  have HX1 := Aside0.mk (HX.out.later (below_drew (Below.refl W1.heap.size W1)))
  have HY1 := Aside0.mk (HY.out.later (below_drew (Below.refl W1.heap.size W1)))
  have HR1 := Aside0.mk (HR.out.later (below_drew (Below.refl W1.heap.size W1)))
  have HB1 := Aside0.mk (HBW.out.trans ((below_drew (Below.refl W1.heap.size W1)).mono HBW.out.size))
  refine wp_region_noPanic ?_
  refine start_ (n := 18) (S := fun w' => w'.cell? ⟨XB, 0, none⟩ = some (.bool false) ∧ w'.cell? ⟨XB, 1, none⟩ = some (.slice L1 e.first.length k1) ∧ w'.cell? ⟨XB, 2, none⟩ = some (.slice L2 e.last.length k2) ∧ w'.cell? ⟨YB, 0, none⟩ = some (.bool y.null) ∧ w'.cell? ⟨YB, 1, none⟩ = some (.slice M1 y.first.length d1) ∧ w'.cell? ⟨YB, 2, none⟩ = some (.slice M2 y.last.length d2)) (ds := [17]) #[false, false, false, false, false, false, false, false, false, false, false, false, false, false, false, false, false, false] (by kernel_rfl) rfl rfl ⟨HX1.out.cells.1, HX1.out.cells.2.1, HX1.out.cells.2.2, HY1.out.cells.1, HY1.out.cells.2.1, HY1.out.cells.2.2⟩ (fun hHeld => ?_); refine with_tabW or_tab1 or_bits1 (fun HT_ HW_ => ?_)
  obtain ⟨W2, hW2⟩ : ∃ w, W1.drew = w := ⟨_, rfl⟩
  rw [hW2] at HX1 HY1 HR1 HB1 hHeld ⊢
  clear hW2 HX HY HR HBW
  refine pure_ (i := 0) (N := some 5) (v := ?_) (a' := ?_) #[true, false, false, false, false, false, false, false, false, false, false, false, false, false, false, false, false, false] rfl rfl (any_of HT_.out (by kernel_rfl)) (fun _ _ _ h => h) (Or.inl ⟨by rfl, ?_⟩) ?_ ?_
  rotate_left
  ·intro w'
   go_simp
   with_reducible rfl
  rotate_left
  ·simp only [Act.put, List.setIfInBounds_toArray, List.set_cons_zero, List.set_cons_succ, i64_w, i32_w]
   rfl
  refine take_ (i := 1) (N := some 6) (v := ?_) (a' := ?_) #[true, true, false, false, false, false, false, false, false, false, false, false, false, false, false, false, false, false] rfl rfl (take_ofW HT_.out HW_.out (by kernel_rfl)) (fun _ _ _ h => h) (Or.inl ⟨by rfl, ?_⟩) hHeld ?_ ?_
  rotate_left
  ·rintro w' ⟨s0, s1, s2, s3, s4, s5⟩
   go_simp
   with_reducible rfl
  rotate_left
  ·simp only [Act.put, List.setIfInBounds_toArray, List.set_cons_zero, List.set_cons_succ, i64_w, i32_w]
   rfl
  refine pure_ (i := 2) (N := some 7) (v := ?_) (a' := ?_) #[true, true, true, false, false, false, false, false, false, false, false, false, false, false, false, false, false, false] rfl rfl (any_of HT_.out (by kernel_rfl)) (fun _ _ _ h => h) (Or.inl ⟨by rfl, ?_⟩) ?_ ?_
  rotate_left
  ·intro w'
   go_simp
   with_reducible rfl
  rotate_left
  ·simp only [Act.put, List.setIfInBounds_toArray, List.set_cons_zero, List.set_cons_succ, i64_w, i32_w]
   rfl
  refine pure_ (i := 3) (N := some 8) (v := ?_) (a' := ?_) #[true, true, true, true, false, false, false, false, false, false, false, false, false, false, false, false, false, false] rfl rfl (any_of HT_.out (by kernel_rfl)) (fun _ _ _ h => h) (Or.inl ⟨by rfl, ?_⟩) ?_ ?_
  rotate_left
  ·intro w'
   go_simp
   with_reducible rfl
  rotate_left
  ·simp only [Act.put, List.setIfInBounds_toArray, List.set_cons_zero, List.set_cons_succ, i64_w, i32_w]
   rfl
  refine take_ (i := 4) (N := some 9) (v := ?_) (a' := ?_) #[true, true, true, true, true, false, false, false, false, false, false, false, false, false, false, false, false, false] rfl rfl (take_ofW HT_.out HW_.out (by kernel_rfl)) (fun _ _ _ h => h) (Or.inl ⟨by rfl, ?_⟩) hHeld ?_ ?_
  rotate_left
  ·rintro w' ⟨s0, s1, s2, s3, s4, s5⟩
   go_simp
   with_reducible rfl
  rotate_left
  ·simp only [Act.put, List.setIfInBounds_toArray, List.set_cons_zero, List.set_cons_succ, i64_w, i32_w]
   rfl
  refine pure_ (i := 5) (N := some 10) (v := ?_) (a' := ?_) #[true, true, true, true, true, true, false, false, false, false, false, false, false, false, false, false, false, false] rfl rfl (any_of HT_.out (by kernel_rfl)) (fun _ _ _ h => h) (Or.inl ⟨by rfl, ?_⟩) ?_ ?_
  rotate_left
  ·intro w'
   go_simp
   with_reducible rfl
  rotate_left
  ·simp only [Act.put, List.setIfInBounds_toArray, List.set_cons_zero, List.set_cons_succ, i64_w, i32_w]
   rfl
  refine pure_ (i := 6) (N := some 11) (v := ?_) (a' := ?_) #[true, true, true, true, true, true, true, false, false, false, false, false, false, false, false, false, false, false] rfl rfl (any_of HT_.out (by kernel_rfl)) (fun _ _ _ h => h) (Or.inl ⟨by rfl, ?_⟩) ?_ ?_
  rotate_left
  ·intro w'
   go_simp
   with_reducible rfl
  rotate_left
  ·simp only [Act.put, List.setIfInBounds_toArray, List.set_cons_zero, List.set_cons_succ, i64_w, i32_w]
   rfl
  refine take_ (i := 7) (N := some 12) (v := ?_) (a' := ?_) #[true, true, true, true, true, true, true, true, false, false, false, false, false, false, false, false, false, false] rfl rfl (take_ofW HT_.out HW_.out (by kernel_rfl)) (fun _ _ _ h => h) (Or.inl ⟨by rfl, ?_⟩) hHeld ?_ ?_
  rotate_left
  ·rintro w' ⟨s0, s1, s2, s3, s4, s5⟩
   go_simp
   with_reducible rfl
  rotate_left
  ·simp only [Act.put, List.setIfInBounds_toArray, List.set_cons_zero, List.set_cons_succ, i64_w, i32_w]
   rfl
  refine pure_ (i := 8) (N := some 13) (v := ?_) (a' := ?_) #[true, true, true, true, true, true, true, true, true, false, false, false, false, false, false, false, false, false] rfl rfl (any_of HT_.out (by kernel_rfl)) (fun _ _ _ h => h) (Or.inl ⟨by rfl, ?_⟩) ?_ ?_
  rotate_left
  ·intro w'
   go_simp
   with_reducible rfl
  rotate_left
  ·simp only [Act.put, List.setIfInBounds_toArray, List.set_cons_zero, List.set_cons_succ, i64_w, i32_w]
   rfl
  refine take_ (i := 9) (N := some 14) (v := ?_) (a' := ?_) #[true, true, true, true, true, true, true, true, true, true, false, false, false, false, false, false, false, false] rfl rfl (take_ofW HT_.out HW_.out (by kernel_rfl)) (fun _ _ _ h => h) (Or.inl ⟨by rfl, ?_⟩) hHeld ?_ ?_
  rotate_left
  ·rintro w' ⟨s0, s1, s2, s3, s4, s5⟩
   go_simp
   with_reducible rfl
  rotate_left
  ·simp only [Act.put, List.setIfInBounds_toArray, List.set_cons_zero, List.set_cons_succ, i64_w, i32_w]
   rfl
  refine pure_ (i := 11) (N := some 16) (v := ?_) (a' := ?_) #[true, true, true, true, true, true, true, true, true, true, false, true, false, false, false, false, false, false] rfl rfl (any_of HT_.out (by kernel_rfl)) (fun _ _ _ h => h) (Or.inl ⟨by rfl, ?_⟩) ?_ ?_
  rotate_left
  ·intro w'
   go_simp
   with_reducible rfl
  rotate_left
  ·simp only [Act.put, List.setIfInBounds_toArray, List.set_cons_zero, List.set_cons_succ, i64_w, i32_w]
   rfl
  refine take_ (i := 12) (N := some 17) (v := ?_) (a' := ?_) #[true, true, true, true, true, true, true, true, true, true, false, true, true, false, false, false, false, false] rfl rfl (take_ofW HT_.out HW_.out (by kernel_rfl)) (fun _ _ _ h => h) (Or.inl ⟨by rfl, ?_⟩) hHeld ?_ ?_
  rotate_left
  ·rintro w' ⟨s0, s1, s2, s3, s4, s5⟩
   go_simp
   with_reducible rfl
  rotate_left
  ·simp only [Act.put, List.setIfInBounds_toArray, List.set_cons_zero, List.set_cons_succ, i64_w, i32_w]
   rfl
  refine pure_ (i := 13) (N := some 18) (v := ?_) (a' := ?_) #[true, true, true, true, true, true, true, true, true, true, false, true, true, true, false, false, false, false] rfl rfl (any_of HT_.out (by kernel_rfl)) (fun _ _ _ h => h) (Or.inl ⟨by rfl, ?_⟩) ?_ ?_
  rotate_left
  ·intro w'
   go_simp
   with_reducible rfl
  rotate_left
  ·simp only [Act.put, List.setIfInBounds_toArray, List.set_cons_zero, List.set_cons_succ, i64_w, i32_w]
   rfl
  refine take_ (i := 14) (N := some 19) (v := ?_) (a' := ?_) #[true, true, true, true, true, true, true, true, true, true, false, true, true, true, true, false, false, false] rfl rfl (take_ofW HT_.out HW_.out (by kernel_rfl)) (fun _ _ _ h => h) (Or.inl ⟨by rfl, ?_⟩) hHeld ?_ ?_
  rotate_left
  ·rintro w' ⟨s0, s1, s2, s3, s4, s5⟩
   go_simp
   with_reducible rfl
  rotate_left
  ·simp only [Act.put, List.setIfInBounds_toArray, List.set_cons_zero, List.set_cons_succ, i64_w, i32_w]
   rfl
  refine one_ (i := 10) (N := some 15) #[true, true, true, true, true, true, true, true, true, true, true, true, true, true, true, false, false, false] rfl rfl (one_of HT_.out (by kernel_rfl)) (by decide) (fun K hK => ?_)
  refine goes_ Try.func59 (by kernel_rfl) rfl #[.slice L1 e.first.length k1, .slice M1 y.first.length d1] (by rfl) rfl rfl (by (try simp only [List.map_toArray, List.map_cons, List.map_nil]); first | done | rfl) ?_
  have hwi := withR_is (a := e.first) (b := y.first) HRI.out.1
  have hwc := fwith_calls L1 k1 (e.first) M1 d1 (y.first) W2 (Kd.C_below HF1.out HB1.out) (by have := HK0.out; omega) (Kd.C_below HG1.out HB1.out) (by have := HK0.out; omega) (by have := HL.out; omega)
  rw [hwi] at hwc
  clear hwi
  refine hwc.mono ?_
  clear hwc
  rintro e_ W3 ⟨A1, c1, rfl, hb, hcm⟩
  have HBB := Aside0.mk hb
  have HB2 := Aside0.mk (HB1.out.trans (hb.mono HB1.out.size))
  have HV1 := Aside0.mk (Kd.R_lower hcm HB1.out.size)
  have HR2 := Aside0.mk (HR1.out.later hb)
  refine ⟨_, rfl, ?_⟩
  clear hb hcm
  refine hK.out _ _ ⟨cell_keep HBB.out hHeld.1, cell_keep HBB.out hHeld.2.1, cell_keep HBB.out hHeld.2.2.1, cell_keep HBB.out hHeld.2.2.2.1, cell_keep HBB.out hHeld.2.2.2.2.1, cell_keep HBB.out hHeld.2.2.2.2.2⟩ (fun hHeld => ?_)
  clear hK K HBB
  refine norm_ (a' := ?_) ?_ ?_
  rotate_left
  ·show Act.put _ (some 15) _ = _
   simp only [Act.put, List.setIfInBounds_toArray, List.set_cons_zero, List.set_cons_succ, i64_w, i32_w]
   rfl
  refine one_ (i := 15) (N := some 20) #[true, true, true, true, true, true, true, true, true, true, true, true, true, true, true, true, false, false] rfl rfl (one_of HT_.out (by kernel_rfl)) (by decide) (fun K hK => ?_)
  refine goes_ Try.func59 (by kernel_rfl) rfl #[.slice L2 e.last.length k2, .slice M2 y.last.length d2] (by rfl) rfl rfl (by (try simp only [List.map_toArray, List.map_cons, List.map_nil]); first | done | rfl) ?_
  have hwi := withR_is (a := e.last) (b := y.last) HRI.out.2
  have hwc := fwith_calls L2 k2 (e.last) M2 d2 (y.last) W3 (Kd.C_below HF2.out HB2.out) (by have := HK0.out; omega) (Kd.C_below HG2.out HB2.out) (by have := HK0.out; omega) (by have := HL.out; omega)
  rw [hwi] at hwc
  clear hwi
  refine hwc.mono ?_
  clear hwc
  rintro e_ W4 ⟨A2, c2, rfl, hb, hcm⟩
  have HBB := Aside0.mk hb
  have HB3 := Aside0.mk (HB2.out.trans (hb.mono HB2.out.size))
  have HV2 := Aside0.mk (Kd.R_lower hcm HB2.out.size)
  have HR3 := Aside0.mk (HR2.out.later hb)
  have HV1' := Aside0.mk (Kd.R_below HV1.out hb)
  refine ⟨_, rfl, ?_⟩
  clear hb hcm
  refine hK.out _ _ ⟨cell_keep HBB.out hHeld.1, cell_keep HBB.out hHeld.2.1, cell_keep HBB.out hHeld.2.2.1, cell_keep HBB.out hHeld.2.2.2.1, cell_keep HBB.out hHeld.2.2.2.2.1, cell_keep HBB.out hHeld.2.2.2.2.2⟩ (fun hHeld => ?_)
  clear hK K HBB
  refine norm_ (a' := ?_) ?_ ?_
  rotate_left
  ·show Act.put _ (some 20) _ = _
   simp only [Act.put, List.setIfInBounds_toArray, List.set_cons_zero, List.set_cons_succ, i64_w, i32_w]
   rfl
  refine pure_ (i := 16) (N := some 21) (v := ?_) (a' := ?_) #[true, true, true, true, true, true, true, true, true, true, true, true, true, true, true, true, true, false] rfl rfl (any_of HT_.out (by kernel_rfl)) (fun _ _ _ h => h) (Or.inl ⟨by rfl, ?_⟩) ?_ ?_
  rotate_left
  ·intro w'
   go_simp
   with_reducible rfl
  rotate_left
  ·simp only [Act.put, List.setIfInBounds_toArray, List.set_cons_zero, List.set_cons_succ, i64_w, i32_w]
   rfl
  have y0 := HR3.out.cells.1
  have y1 := HR3.out.cells.2.1
  have y2 := HR3.out.cells.2.2
  have y3 := HR3.out.frozen 0
  have y4 := HR3.out.frozen 1
  have y5 := HR3.out.frozen 2
  refine last_ (i := 17) (N := none) #[true, true, true, true, true, true, true, true, true, true, true, true, true, true, true, true, true, true] rfl rfl (one_of HT_.out (by kernel_rfl)) (by decide) (fun K hK => ?_)
  refine step_list rfl (by rfl) ?_
  unfold Oper.wp
  go_simp
  refine hK.out _ _ ?_
  clear hK K y0 y1 y2 y3 y4 y5
  refine done_ (done_of HT_.out (by kernel_rfl)) ?_
  refine NoPanic.normal ?_
  clear HT_ HW_ hHeld
  go_wp2_with fail
  have HRW := Aside0.mk (show Edge (((W4.setCell ⟨RB, 0, none⟩ (.bool y.null)).setCell ⟨RB, 1, none⟩ (.slice A1 (bothR e.first y.first).length c1)).setCell ⟨RB, 2, none⟩ (.slice A2 (bothR e.last y.last).length c2)) RB y.null (.slice A1 (bothR e.first y.first).length c1) (.slice A2 (bothR e.last y.last).length c2) from blk_put (blk_put (blk_put HR3.out 0 (.bool y.null) rfl) 1 (.slice A1 (bothR e.first y.first).length c1) rfl) 2 (.slice A2 (bothR e.last y.last).length c2) rfl)
  have HBF := Aside0.mk (below_set (below_set (below_set HB3.out HRB.out 0 (.bool y.null)) HRB.out 1 (.slice A1 (bothR e.first y.first).length c1)) HRB.out 2 (.slice A2 (bothR e.last y.last).length c2))
  have HO1 := Aside0.mk (Kd.R_set (Kd.R_set (Kd.R_set HV1'.out HR3.out (fun q hq => by simp [Kd.int, Kd.scalar] at hq; omega) 0 (.bool y.null)) (blk_put HR3.out 0 (.bool y.null) rfl) (fun q hq => by simp [Kd.int, Kd.scalar] at hq; omega) 1 (.slice A1 (bothR e.first y.first).length c1)) (blk_put (blk_put HR3.out 0 (.bool y.null) rfl) 1 (.slice A1 (bothR e.first y.first).length c1) rfl) (fun q hq => by simp [Kd.int, Kd.scalar] at hq; omega) 2 (.slice A2 (bothR e.last y.last).length c2))
  have HO2 := Aside0.mk (Kd.R_set (Kd.R_set (Kd.R_set HV2.out HR3.out (fun q hq => by simp [Kd.int, Kd.scalar] at hq; omega) 0 (.bool y.null)) (blk_put HR3.out 0 (.bool y.null) rfl) (fun q hq => by simp [Kd.int, Kd.scalar] at hq; omega) 1 (.slice A1 (bothR e.first y.first).length c1)) (blk_put (blk_put HR3.out 0 (.bool y.null) rfl) 1 (.slice A1 (bothR e.first y.first).length c1) rfl) (fun q hq => by simp [Kd.int, Kd.scalar] at hq; omega) 2 (.slice A2 (bothR e.last y.last).length c2))
  obtain ⟨W9, hW9⟩ : ∃ w, ((W4.setCell ⟨RB, 0, none⟩ (.bool y.null)).setCell ⟨RB, 1, none⟩ (.slice A1 (bothR e.first y.first).length c1)).setCell ⟨RB, 2, none⟩ (.slice A2 (bothR e.last y.last).length c2) = w := ⟨_, rfl⟩
  rw [hW9] at HRW HBF HO1 HO2
  rw [hW9]
  clear hW9
  refine bodyPost_ret (results_cell_row rfl _ _ RB 69 #[.bool y.null, (.slice A1 (bothR e.first y.first).length c1), (.slice A2 (bothR e.last y.last).length c2)] (0, 0) _ rfl HRW.out Try.underlying69 rfl (by kernel_rfl)) rfl ?_
  rw [HBO.out]
  exact ⟨(.slice A1 (bothR e.first y.first).length c1), (.slice A2 (bothR e.last y.last).length c2), rfl, HBF.out, HO1.out, HO2.out⟩
 case true =>
  have HBO := Aside0.mk hbo
  rw [hbo] at HX
  clear hbo
  have HX1 := Aside0.mk (HX.out.later (below_drew (Below.refl W1.heap.size W1)))
  have HY1 := Aside0.mk (HY.out.later (below_drew (Below.refl W1.heap.size W1)))
  have HR1 := Aside0.mk (HR.out.later (below_drew (Below.refl W1.heap.size W1)))
  have HB1 := Aside0.mk (HBW.out.trans ((below_drew (Below.refl W1.heap.size W1)).mono HBW.out.size))
  refine wp_region_noPanic ?_
  refine start_ (n := 18) (S := fun w' => w'.cell? ⟨XB, 0, none⟩ = some (.bool true) ∧ w'.cell? ⟨XB, 1, none⟩ = some (.slice L1 e.first.length k1) ∧ w'.cell? ⟨XB, 2, none⟩ = some (.slice L2 e.last.length k2) ∧ w'.cell? ⟨YB, 0, none⟩ = some (.bool y.null) ∧ w'.cell? ⟨YB, 1, none⟩ = some (.slice M1 y.first.length d1) ∧ w'.cell? ⟨YB, 2, none⟩ = some (.slice M2 y.last.length d2)) (ds := [17]) #[false, false, false, false, false, false, false, false, false, false, false, false, false, false, false, false, false, false] (by kernel_rfl) rfl rfl ⟨HX1.out.cells.1, HX1.out.cells.2.1, HX1.out.cells.2.2, HY1.out.cells.1, HY1.out.cells.2.1, HY1.out.cells.2.2⟩ (fun hHeld => ?_); refine with_tabW or_tab1 or_bits1 (fun HT_ HW_ => ?_)
  obtain ⟨W2, hW2⟩ : ∃ w, W1.drew = w := ⟨_, rfl⟩
  rw [hW2] at HX1 HY1 HR1 HB1 hHeld ⊢
  clear hW2 HX HY HR HBW
  refine pure_ (i := 0) (N := some 5) (v := ?_) (a' := ?_) #[true, false, false, false, false, false, false, false, false, false, false, false, false, false, false, false, false, false] rfl rfl (any_of HT_.out (by kernel_rfl)) (fun _ _ _ h => h) (Or.inl ⟨by rfl, ?_⟩) ?_ ?_
  rotate_left
  ·intro w'
   go_simp
   with_reducible rfl
  rotate_left
  ·simp only [Act.put, List.setIfInBounds_toArray, List.set_cons_zero, List.set_cons_succ, i64_w, i32_w]
   rfl
  refine take_ (i := 1) (N := some 6) (v := ?_) (a' := ?_) #[true, true, false, false, false, false, false, false, false, false, false, false, false, false, false, false, false, false] rfl rfl (take_ofW HT_.out HW_.out (by kernel_rfl)) (fun _ _ _ h => h) (Or.inl ⟨by rfl, ?_⟩) hHeld ?_ ?_
  rotate_left
  ·rintro w' ⟨s0, s1, s2, s3, s4, s5⟩
   go_simp
   with_reducible rfl
  rotate_left
  ·simp only [Act.put, List.setIfInBounds_toArray, List.set_cons_zero, List.set_cons_succ, i64_w, i32_w]
   rfl
  refine pure_ (i := 2) (N := some 7) (v := ?_) (a' := ?_) #[true, true, true, false, false, false, false, false, false, false, false, false, false, false, false, false, false, false] rfl rfl (any_of HT_.out (by kernel_rfl)) (fun _ _ _ h => h) (Or.inl ⟨by rfl, ?_⟩) ?_ ?_
  rotate_left
  ·intro w'
   go_simp
   with_reducible rfl
  rotate_left
  ·simp only [Act.put, List.setIfInBounds_toArray, List.set_cons_zero, List.set_cons_succ, i64_w, i32_w]
   rfl
  refine pure_ (i := 3) (N := some 8) (v := undef) (a' := ?_) #[true, true, true, true, false, false, false, false, false, false, false, false, false, false, false, false, false, false] rfl rfl (any_of HT_.out (by kernel_rfl)) (fun _ _ _ h => h) (Or.inr ⟨by rfl, rfl⟩) ?_ ?_
  rotate_left
  ·simp only [Act.put, List.setIfInBounds_toArray, List.set_cons_zero, List.set_cons_succ, i64_w, i32_w]
   rfl
  refine pure_ (i := 4) (N := some 9) (v := undef) (a' := ?_) #[true, true, true, true, true, false, false, false, false, false, false, false, false, false, false, false, false, false] rfl rfl (any_of HT_.out (by kernel_rfl)) (fun _ _ _ h => h) (Or.inr ⟨by rfl, rfl⟩) ?_ ?_
  rotate_left
  ·simp only [Act.put, List.setIfInBounds_toArray, List.set_cons_zero, List.set_cons_succ, i64_w, i32_w]
   rfl
  refine pure_ (i := 5) (N := some 10) (v := ?_) (a' := ?_) #[true, true, true, true, true, true, false, false, false, false, false, false, false, false, false, false, false, false] rfl rfl (any_of HT_.out (by kernel_rfl)) (fun _ _ _ h => h) (Or.inl ⟨by rfl, ?_⟩) ?_ ?_
  rotate_left
  ·intro w'
   go_simp
   with_reducible rfl
  rotate_left
  ·simp only [Act.put, List.setIfInBounds_toArray, List.set_cons_zero, List.set_cons_succ, i64_w, i32_w]
   rfl
  refine pure_ (i := 6) (N := some 11) (v := ?_) (a' := ?_) #[true, true, true, true, true, true, true, false, false, false, false, false, false, false, false, false, false, false] rfl rfl (any_of HT_.out (by kernel_rfl)) (fun _ _ _ h => h) (Or.inl ⟨by rfl, ?_⟩) ?_ ?_
  rotate_left
  ·intro w'
   go_simp
   with_reducible rfl
  rotate_left
  ·simp only [Act.put, List.setIfInBounds_toArray, List.set_cons_zero, List.set_cons_succ, i64_w, i32_w]
   rfl
  refine take_ (i := 7) (N := some 12) (v := ?_) (a' := ?_) #[true, true, true, true, true, true, true, true, false, false, false, false, false, false, false, false, false, false] rfl rfl (take_ofW HT_.out HW_.out (by kernel_rfl)) (fun _ _ _ h => h) (Or.inl ⟨by rfl, ?_⟩) hHeld ?_ ?_
  rotate_left
  ·rintro w' ⟨s0, s1, s2, s3, s4, s5⟩
   go_simp
   with_reducible rfl
  rotate_left
  ·simp only [Act.put, List.setIfInBounds_toArray, List.set_cons_zero, List.set_cons_succ, i64_w, i32_w]
   rfl
  refine pure_ (i := 8) (N := some 13) (v := ?_) (a' := ?_) #[true, true, true, true, true, true, true, true, true, false, false, false, false, false, false, false, false, false] rfl rfl (any_of HT_.out (by kernel_rfl)) (fun _ _ _ h => h) (Or.inl ⟨by rfl, ?_⟩) ?_ ?_
  rotate_left
  ·intro w'
   go_simp
   with_reducible rfl
  rotate_left
  ·simp only [Act.put, List.setIfInBounds_toArray, List.set_cons_zero, List.set_cons_succ, i64_w, i32_w]
   rfl
  refine take_ (i := 9) (N := some 14) (v := ?_) (a' := ?_) #[true, true, true, true, true, true, true, true, true, true, false, false, false, false, false, false, false, false] rfl rfl (take_ofW HT_.out HW_.out (by kernel_rfl)) (fun _ _ _ h => h) (Or.inl ⟨by rfl, ?_⟩) hHeld ?_ ?_
  rotate_left
  ·rintro w' ⟨s0, s1, s2, s3, s4, s5⟩
   go_simp
   with_reducible rfl
  rotate_left
  ·simp only [Act.put, List.setIfInBounds_toArray, List.set_cons_zero, List.set_cons_succ, i64_w, i32_w]
   rfl
  refine pure_ (i := 11) (N := some 16) (v := ?_) (a' := ?_) #[true, true, true, true, true, true, true, true, true, true, false, true, false, false, false, false, false, false] rfl rfl (any_of HT_.out (by kernel_rfl)) (fun _ _ _ h => h) (Or.inl ⟨by rfl, ?_⟩) ?_ ?_
  rotate_left
  ·intro w'
   go_simp
   with_reducible rfl
  rotate_left
  ·simp only [Act.put, List.setIfInBounds_toArray, List.set_cons_zero, List.set_cons_succ, i64_w, i32_w]
   rfl
  refine take_ (i := 12) (N := some 17) (v := ?_) (a' := ?_) #[true, true, true, true, true, true, true, true, true, true, false, true, true, false, false, false, false, false] rfl rfl (take_ofW HT_.out HW_.out (by kernel_rfl)) (fun _ _ _ h => h) (Or.inl ⟨by rfl, ?_⟩) hHeld ?_ ?_
  rotate_left
  ·rintro w' ⟨s0, s1, s2, s3, s4, s5⟩
   go_simp
   with_reducible rfl
  rotate_left
  ·simp only [Act.put, List.setIfInBounds_toArray, List.set_cons_zero, List.set_cons_succ, i64_w, i32_w]
   rfl
  refine pure_ (i := 13) (N := some 18) (v := ?_) (a' := ?_) #[true, true, true, true, true, true, true, true, true, true, false, true, true, true, false, false, false, false] rfl rfl (any_of HT_.out (by kernel_rfl)) (fun _ _ _ h => h) (Or.inl ⟨by rfl, ?_⟩) ?_ ?_
  rotate_left
  ·intro w'
   go_simp
   with_reducible rfl
  rotate_left
  ·simp only [Act.put, List.setIfInBounds_toArray, List.set_cons_zero, List.set_cons_succ, i64_w, i32_w]
   rfl
  refine take_ (i := 14) (N := some 19) (v := ?_) (a' := ?_) #[true, true, true, true, true, true, true, true, true, true, false, true, true, true, true, false, false, false] rfl rfl (take_ofW HT_.out HW_.out (by kernel_rfl)) (fun _ _ _ h => h) (Or.inl ⟨by rfl, ?_⟩) hHeld ?_ ?_
  rotate_left
  ·rintro w' ⟨s0, s1, s2, s3, s4, s5⟩
   go_simp
   with_reducible rfl
  rotate_left
  ·simp only [Act.put, List.setIfInBounds_toArray, List.set_cons_zero, List.set_cons_succ, i64_w, i32_w]
   rfl
  refine one_ (i := 10) (N := some 15) #[true, true, true, true, true, true, true, true, true, true, true, true, true, true, true, false, false, false] rfl rfl (one_of HT_.out (by kernel_rfl)) (by decide) (fun K hK => ?_)
  refine goes_ Try.func59 (by kernel_rfl) rfl #[.slice L1 e.first.length k1, .slice M1 y.first.length d1] (by rfl) rfl rfl (by (try simp only [List.map_toArray, List.map_cons, List.map_nil]); first | done | rfl) ?_
  have hwi := withR_is (a := e.first) (b := y.first) HRI.out.1
  have hwc := fwith_calls L1 k1 (e.first) M1 d1 (y.first) W2 (Kd.C_below HF1.out HB1.out) (by have := HK0.out; omega) (Kd.C_below HG1.out HB1.out) (by have := HK0.out; omega) (by have := HL.out; omega)
  rw [hwi] at hwc
  clear hwi
  refine hwc.mono ?_
  clear hwc
  rintro e_ W3 ⟨A1, c1, rfl, hb, hcm⟩
  have HBB := Aside0.mk hb
  have HB2 := Aside0.mk (HB1.out.trans (hb.mono HB1.out.size))
  have HV1 := Aside0.mk (Kd.R_lower hcm HB1.out.size)
  have HR2 := Aside0.mk (HR1.out.later hb)
  refine ⟨_, rfl, ?_⟩
  clear hb hcm
  refine hK.out _ _ ⟨cell_keep HBB.out hHeld.1, cell_keep HBB.out hHeld.2.1, cell_keep HBB.out hHeld.2.2.1, cell_keep HBB.out hHeld.2.2.2.1, cell_keep HBB.out hHeld.2.2.2.2.1, cell_keep HBB.out hHeld.2.2.2.2.2⟩ (fun hHeld => ?_)
  clear hK K HBB
  refine norm_ (a' := ?_) ?_ ?_
  rotate_left
  ·show Act.put _ (some 15) _ = _
   simp only [Act.put, List.setIfInBounds_toArray, List.set_cons_zero, List.set_cons_succ, i64_w, i32_w]
   rfl
  refine one_ (i := 15) (N := some 20) #[true, true, true, true, true, true, true, true, true, true, true, true, true, true, true, true, false, false] rfl rfl (one_of HT_.out (by kernel_rfl)) (by decide) (fun K hK => ?_)
  refine goes_ Try.func59 (by kernel_rfl) rfl #[.slice L2 e.last.length k2, .slice M2 y.last.length d2] (by rfl) rfl rfl (by (try simp only [List.map_toArray, List.map_cons, List.map_nil]); first | done | rfl) ?_
  have hwi := withR_is (a := e.last) (b := y.last) HRI.out.2
  have hwc := fwith_calls L2 k2 (e.last) M2 d2 (y.last) W3 (Kd.C_below HF2.out HB2.out) (by have := HK0.out; omega) (Kd.C_below HG2.out HB2.out) (by have := HK0.out; omega) (by have := HL.out; omega)
  rw [hwi] at hwc
  clear hwi
  refine hwc.mono ?_
  clear hwc
  rintro e_ W4 ⟨A2, c2, rfl, hb, hcm⟩
  have HBB := Aside0.mk hb
  have HB3 := Aside0.mk (HB2.out.trans (hb.mono HB2.out.size))
  have HV2 := Aside0.mk (Kd.R_lower hcm HB2.out.size)
  have HR3 := Aside0.mk (HR2.out.later hb)
  have HV1' := Aside0.mk (Kd.R_below HV1.out hb)
  refine ⟨_, rfl, ?_⟩
  clear hb hcm
  refine hK.out _ _ ⟨cell_keep HBB.out hHeld.1, cell_keep HBB.out hHeld.2.1, cell_keep HBB.out hHeld.2.2.1, cell_keep HBB.out hHeld.2.2.2.1, cell_keep HBB.out hHeld.2.2.2.2.1, cell_keep HBB.out hHeld.2.2.2.2.2⟩ (fun hHeld => ?_)
  clear hK K HBB
  refine norm_ (a' := ?_) ?_ ?_
  rotate_left
  ·show Act.put _ (some 20) _ = _
   simp only [Act.put, List.setIfInBounds_toArray, List.set_cons_zero, List.set_cons_succ, i64_w, i32_w]
   rfl
  refine pure_ (i := 16) (N := some 21) (v := ?_) (a' := ?_) #[true, true, true, true, true, true, true, true, true, true, true, true, true, true, true, true, true, false] rfl rfl (any_of HT_.out (by kernel_rfl)) (fun _ _ _ h => h) (Or.inl ⟨by rfl, ?_⟩) ?_ ?_
  rotate_left
  ·intro w'
   go_simp
   with_reducible rfl
  rotate_left
  ·simp only [Act.put, List.setIfInBounds_toArray, List.set_cons_zero, List.set_cons_succ, i64_w, i32_w]
   rfl
  have y0 := HR3.out.cells.1
  have y1 := HR3.out.cells.2.1
  have y2 := HR3.out.cells.2.2
  have y3 := HR3.out.frozen 0
  have y4 := HR3.out.frozen 1
  have y5 := HR3.out.frozen 2
  refine last_ (i := 17) (N := none) #[true, true, true, true, true, true, true, true, true, true, true, true, true, true, true, true, true, true] rfl rfl (one_of HT_.out (by kernel_rfl)) (by decide) (fun K hK => ?_)
  refine step_list rfl (by rfl) ?_
  unfold Oper.wp
  go_simp
  refine hK.out _ _ ?_
  clear hK K y0 y1 y2 y3 y4 y5
  refine done_ (done_of HT_.out (by kernel_rfl)) ?_
  refine NoPanic.normal ?_
  clear HT_ HW_ hHeld
  go_wp2_with fail
  have HRW := Aside0.mk (show Edge (((W4.setCell ⟨RB, 0, none⟩ (.bool true)).setCell ⟨RB, 1, none⟩ (.slice A1 (bothR e.first y.first).length c1)).setCell ⟨RB, 2, none⟩ (.slice A2 (bothR e.last y.last).length c2)) RB true (.slice A1 (bothR e.first y.first).length c1) (.slice A2 (bothR e.last y.last).length c2) from blk_put (blk_put (blk_put HR3.out 0 (.bool true) rfl) 1 (.slice A1 (bothR e.first y.first).length c1) rfl) 2 (.slice A2 (bothR e.last y.last).length c2) rfl)
  have HBF := Aside0.mk (below_set (below_set (below_set HB3.out HRB.out 0 (.bool true)) HRB.out 1 (.slice A1 (bothR e.first y.first).length c1)) HRB.out 2 (.slice A2 (bothR e.last y.last).length c2))
  have HO1 := Aside0.mk (Kd.R_set (Kd.R_set (Kd.R_set HV1'.out HR3.out (fun q hq => by simp [Kd.int, Kd.scalar] at hq; omega) 0 (.bool true)) (blk_put HR3.out 0 (.bool true) rfl) (fun q hq => by simp [Kd.int, Kd.scalar] at hq; omega) 1 (.slice A1 (bothR e.first y.first).length c1)) (blk_put (blk_put HR3.out 0 (.bool true) rfl) 1 (.slice A1 (bothR e.first y.first).length c1) rfl) (fun q hq => by simp [Kd.int, Kd.scalar] at hq; omega) 2 (.slice A2 (bothR e.last y.last).length c2))
  have HO2 := Aside0.mk (Kd.R_set (Kd.R_set (Kd.R_set HV2.out HR3.out (fun q hq => by simp [Kd.int, Kd.scalar] at hq; omega) 0 (.bool true)) (blk_put HR3.out 0 (.bool true) rfl) (fun q hq => by simp [Kd.int, Kd.scalar] at hq; omega) 1 (.slice A1 (bothR e.first y.first).length c1)) (blk_put (blk_put HR3.out 0 (.bool true) rfl) 1 (.slice A1 (bothR e.first y.first).length c1) rfl) (fun q hq => by simp [Kd.int, Kd.scalar] at hq; omega) 2 (.slice A2 (bothR e.last y.last).length c2))
  obtain ⟨W9, hW9⟩ : ∃ w, ((W4.setCell ⟨RB, 0, none⟩ (.bool true)).setCell ⟨RB, 1, none⟩ (.slice A1 (bothR e.first y.first).length c1)).setCell ⟨RB, 2, none⟩ (.slice A2 (bothR e.last y.last).length c2) = w := ⟨_, rfl⟩
  rw [hW9] at HRW HBF HO1 HO2
  rw [hW9]
  clear hW9
  refine bodyPost_ret (results_cell_row rfl _ _ RB 69 #[.bool true, (.slice A1 (bothR e.first y.first).length c1), (.slice A2 (bothR e.last y.last).length c2)] (0, 0) _ rfl HRW.out Try.underlying69 rfl (by kernel_rfl)) rfl ?_
  rw [HBO.out]
  exact ⟨(.slice A1 (bothR e.first y.first).length c1), (.slice A2 (bothR e.last y.last).length c2), rfl, HBF.out, HO1.out, HO2.out⟩
end F
end Go.Proofs.Ytemlgmkbonpniaa.Print
