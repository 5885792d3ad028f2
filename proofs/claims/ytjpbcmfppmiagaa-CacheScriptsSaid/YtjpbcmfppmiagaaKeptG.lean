/- The reference's Get. -/
import Derived.Test.YtjpbcmfppmiagaaKeptP
namespace Go.Proofs.Ytjpbcmfppmiagaa.Print
open Go.RowKit Go.Maps Go.Proofs.YtjpbcmfppmiagaaW.PrintWords Go.Proofs.YtjpbcmfppmiagaaW.PrintLast Go.Proofs.YtjpbcmfppmiagaaW.PrintMore
set_option linter.unusedVariables false
set_option linter.unusedSimpArgs false

def rget_T7 : Bool × List (List Nat × List Nat) := (true, [([], []), ([], []), ([], []), ([2], [2]), ([3], [3]), ([4], [4]), ([1, 5], [1, 5]), ([], []), ([7], [7]), ([6, 8, 6], [6, 8]), ([0, 0, 1, 2, 3, 4, 5, 6, 7, 8, 9], [0]), ([10, 0, 1, 2, 3, 4, 5, 6, 7, 8, 9], [10]), ([11, 9, 9, 0, 1, 2, 3, 4, 5, 6, 7, 8, 9], [9, 11])])
def rget_B7 : List Nat := [0, 0, 0, 4, 12, 28, 62, 0, 128, 510, 1023, 2047, 4095]
theorem rget_tab7 : rtab .any (opsOf Try.f28 7) = rget_T7 := by kernel_rfl
theorem rget_bits7 : waitsOk rget_T7.2 rget_B7 = true := by kernel_rfl
theorem Kept.at_ {W : World} {base c : Nat} {A : Option Addr} {ks : List S65} (hk : Kept W base A c ks) {i : Nat} (hi : i < ks.length) : ∃ ad A1 c1, A = some ad ∧ W.cell? (ad.add (i * 2)) = some (.string (rd_T65 ks (i : Int)).f0) ∧ W.cell? ⟨(ad.add (i * 2)).block, (ad.add (i * 2)).off + 1, none⟩ = some (.slice A1 (rd_T65 ks (i : Int)).f1.length c1) ∧ (Kd.int .i64).R 3 W base (fun _ => True) (.slice A1 (rd_T65 ks (i : Int)).f1.length c1) (rd_T65 ks (i : Int)).f1 := by
  obtain ⟨ad, cs, e, hs, hM, hc⟩ := hk.row.get_ z65 (i : Int) (by omega) (by omega)
  obtain ⟨v1, rfl, hR⟩ := k65_openM hM
  obtain ⟨A1, c1, e1⟩ := Kd.R_slice hR
  subst e1
  rw [Int.toNat_natCast] at hc
  exact ⟨ad, A1, c1, e, hc 0 _ rfl, by rw [← add_field _ _ 1 (by omega)]; exact hc 1 _ rfl, hR⟩
theorem R_ref {W W' : World} {base RB : Nat} {cs : Array Value} {v : Value} {l : List Int} (hb : W.heap[RB]? = some (.cells cs 55 (0, 0))) (hR : (Kd.int .i64).R 3 W base (fun _ => True) v l) (hg : W.grownBy W' (some RB)) : (Kd.int .i64).R 3 W' base (fun _ => True) v l :=
  Kd.R_grown2 hR rfl hg (fun k hk he => by
    injection hk with hk
    subst hk
    exact Kd.R_ne hR hb (by decide) he)
theorem cell_two {W : World} {g t : Nat} {u v : Value} (h : W.heap[g]? = some (.cells #[u, v] t (0, 0))) : ∀ j x, [u, v][j]? = some x → W.cell? ((⟨g, 0, none⟩ : Addr).add j) = some x := by
  intro j x hj
  match j, hj with
  | 0, hj => cases hj; exact (blk_cell h 0).trans rfl
  | 1, hj => cases hj; exact (blk_cell h 1).trans rfl
  | j + 2, hj => simp at hj
/-- The list that is kept for the key. -/
def lookK (key : ByteArray) : List S65 → Option (List Int)
  | [] => none
  | x :: r => if x.f0 = key then some x.f1 else lookK key r
def PastL (key : ByteArray) (ks : List S65) (i : Nat) : Prop := lookK key ks = lookK key (ks.drop i)
theorem PastL.next {key : ByteArray} {ks : List S65} {i : Nat} (h : PastL key ks i) (hi : i < ks.length) (hn : (rd_T65 ks (i : Int)).f0 ≠ key) : PastL key ks (i + 1) := by
  unfold PastL at h ⊢
  rw [drop65 hi, lookK, if_neg hn] at h
  exact h
theorem PastL.hit {key : ByteArray} {ks : List S65} {i : Nat} (h : PastL key ks i) (hi : i < ks.length) (hn : (rd_T65 ks (i : Int)).f0 = key) : lookK key ks = some (rd_T65 ks (i : Int)).f1 := by
  unfold PastL at h
  rw [drop65 hi, lookK, if_pos hn] at h
  exact h
theorem PastL.end_ {key : ByteArray} {ks : List S65} (h : PastL key ks ks.length) : lookK key ks = none := by
  unfold PastL at h
  rw [List.drop_length] at h
  exact h
set_option maxHeartbeats 16000000 in
set_option maxRecDepth 100000 in
theorem rmiss_calls (base RB : Nat) (A : Option Addr) (c : Nat) (most : Int) (ks : List S65) (h nt : Int) (W : World) (key : ByteArray) (hi : RInv base RB A c most ks h nt W) (hl : ks.length ≤ 10000) (hm : lookK key ks = none) :
    Calls Try.prog 28 #[.pointer (some ⟨RB, 0, none⟩), .string key] W fun e w' => e = .returned (.tuple #[.slice none 0 0, .bool false]) ∧ RInv base RB A c most ks h (wrap64 (nt + 1)) w' ∧ W.grownBy w' (some RB) := by
  have HI := Aside0.mk hi
  have HL := Aside0.mk hl
  have HM := Aside0.mk hm
  have c1 := hi.cells.2.1
  have c3 := hi.cells.2.2.2
  have f3 := blk_frozen hi.blk 3
  clear hi hl hm
  go_enter Try.func28, Try.ntmps28
  go_wp2_with fail
  go_loopg [6] ks.length (fun kq v6 w' => ∃ i : Nat, v6 = .int .i64 i ∧ w' = W ∧ Aside0 (i + kq = ks.length) ∧ Aside0 (PastL key ks i))
  case atStart => exact ⟨0, rfl, rfl, ⟨by omega⟩, ⟨by unfold PastL; rw [List.drop_zero]⟩⟩
  case round =>
    obtain ⟨i, rfl, rfl, HG, HP⟩ := hrel
    by_cases q : i < ks.length
    · have qb : decide ((i : Int) < (ks.length : Int)) = true := decide_eq_true (by omega)
      have q1 : ((i : Int) < (ks.length : Int)) = True := eq_true (by omega)
      have q2 : (i < ks.length) = True := eq_true q
      obtain ⟨ad, A1, c1', ead, hx0, _, _, _⟩ := at_T65 HI.out.row.reads (i : Int) (by omega) (by omega)
      rw [Int.toNat_natCast] at hx0
      subst ead
      have HQ := Aside0.mk q
      by_cases e : (rd_T65 ks (i : Int)).f0 = key
      · have h9 := HP.out.hit q e
        rw [HM.out] at h9
        cases h9
      · have HP2 := Aside0.mk (HP.out.next q e)
        obtain ⟨s, hs⟩ : ∃ s, (rd_T65 ks (i : Int)).f0 = s := ⟨_, rfl⟩
        rw [hs] at hx0 e
        have eb : (s.toList == key.toList) = false := by rw [eq_key]; exact decide_eq_false e
        clear hs q
        go_wp2_with fail
        go_roundg (gk - 1)
        case measure => have := HQ.out; have := HG.out; omega
        case rel => exact ⟨i + 1, (by first | rfl | (rw [wrap_succ (by have := HQ.out; have := HL.out; omega)])), rfl, ⟨by have := HQ.out; have := HG.out; omega⟩, HP2⟩
    · obtain rfl : i = ks.length := by have := HG.out; omega
      have qb : decide ((ks.length : Int) < (ks.length : Int)) = false := decide_eq_false (by omega)
      go_wp2_with fail
      go_ret2
      exact ⟨rfl, HI.out.field 3 (.int .i64 (wrap64 (nt + 1))) rfl, grownBy_set _ _ _ _⟩
set_option maxHeartbeats 16000000 in
set_option maxRecDepth 100000 in
theorem rhit_calls (base RB : Nat) (A : Option Addr) (c : Nat) (most : Int) (ks : List S65) (h nt : Int) (W : World) (key : ByteArray) (l : List Int) (hi : RInv base RB A c most ks h nt W) (hb : base ≤ W.heap.size) (hl : ks.length ≤ 10000) (hm : lookK key ks = some l) :
    Calls Try.prog 28 #[.pointer (some ⟨RB, 0, none⟩), .string key] W fun e w' => ∃ Au cu, e = .returned (.tuple #[.slice Au l.length cu, .bool true]) ∧ (∃ A' c', RInv base RB A' c' most (addK' key l ks) (wrap64 (h + 1)) nt w') ∧ W.grownBy w' (some RB) ∧ l.length ≤ cu ∧ Kd.C (Kd.int .i64) w' Au l.length l := by
  have HI := Aside0.mk hi
  have HS := Aside0.mk hb
  have HL := Aside0.mk hl
  have HM := Aside0.mk hm
  have c1 := hi.cells.2.1
  clear hi hl hm hb
  go_enter Try.func28, Try.ntmps28
  go_wp2_with fail
  go_loopg [6] ks.length (fun kq v6 w' => ∃ i : Nat, v6 = .int .i64 i ∧ w' = W ∧ Aside0 (i + kq = ks.length) ∧ Aside0 (PastL key ks i))
  case atStart => exact ⟨0, rfl, rfl, ⟨by omega⟩, ⟨by unfold PastL; rw [List.drop_zero]⟩⟩
  case round =>
    obtain ⟨i, rfl, rfl, HG, HP⟩ := hrel
    by_cases q : i < ks.length
    · have qb : decide ((i : Int) < (ks.length : Int)) = true := decide_eq_true (by omega)
      have q1 : ((i : Int) < (ks.length : Int)) = True := eq_true (by omega)
      have q2 : (i < ks.length) = True := eq_true q
      obtain ⟨ad, Ai, ci, ead, hx0, hx1, hxR⟩ := HI.out.row.at_ q
      subst ead
      have HQ := Aside0.mk q
      by_cases e : (rd_T65 ks (i : Int)).f0 = key
      · have h9 := HP.out.hit q e
        rw [HM.out] at h9
        have e9 := Option.some.inj h9
        rw [e] at hx0
        rw [← e9] at hx1 hxR
        have HXR := Aside0.mk hxR
        clear h9 e9 e hxR
        go_wp2_with fail
        have HB2 := Aside0.mk (below_alloc (Below.refl wr.heap.size wr) (.cells #[.string key, .slice Ai l.length ci] 65))
        have HX2 := Aside0.mk (blk_new wr (.cells #[.string key, .slice Ai l.length ci] 65))
        have HI2 := Aside0.mk (HI.out.later HB2.out)
        have HR2 := Aside0.mk (Kd.R_below HXR.out HB2.out)
        have HS2 := Aside0.mk (Nat.le_trans HS.out HB2.out.size)
        obtain ⟨XB, hXB⟩ : ∃ n, wr.heap.size = n := ⟨_, rfl⟩
        rw [hXB] at HX2 ⊢
        clear hXB HXR hx0 hx1
        have HG2 := Aside0.mk (grownBy_below HB2.out (some RB))
        clear HB2
        generalize wr.alloc (.cells #[.string key, .slice Ai l.length ci] 65) = W2 at *
        refine (rdrop_calls base RB (some ad) c most ks h nt W2 key HI2.out HS2.out (by have := HL.out; omega)).mono ?_
        rintro e W3 ⟨rfl, ⟨A3, c3, hi3⟩, hg3⟩
        have hne : XB ≠ RB := by
          rintro rfl
          have h2 := HX2.out
          rw [HI2.out.blk] at h2
          cases h2
        have HNE := Aside0.mk hne
        have HX3 := Aside0.mk (blk_grown HX2.out hg3 (fun e => hne (by injection e)))
        have HR3 := Aside0.mk (R_ref HI2.out.blk HR2.out hg3)
        have HG3 := Aside0.mk (HG2.out.trans hg3)
        have HS3 := Aside0.mk (Nat.le_trans HS2.out hg3.size)
        have HDL := Aside0.mk (show (dropK key ks).length ≤ 10000 from Nat.le_trans (dropK_len key ks) HL.out)
        obtain ⟨ds, hds⟩ : ∃ ds, dropK key ks = ds := ⟨_, rfl⟩
        rw [hds] at hi3 HDL
        have HDS := Aside0.mk (show addK' key l ks = ds ++ [⟨key, l⟩] by unfold addK'; rw [hds])
        have HI3 := Aside0.mk hi3
        clear hi3 hg3 hne hds HX2 HR2 HG2 HI2 HS2
        obtain ⟨i65, hi65, hz65, hs65, hb65⟩ := info_parts info65
        go_upto_region 7 with fail
        have HI4 := Aside0.mk (HI3.out.later (below_drew (Below.refl _ _)))
        have HX4 := Aside0.mk (blk_drew HX3.out)
        have HR4 := Aside0.mk (Kd.R_drew HR3.out)
        have HG4 := Aside0.mk (HG3.out.trans (grownBy_below (below_drew (Below.refl W3.heap.size W3)) (some RB)))
        have HS4 := Aside0.mk (show base ≤ W3.drew.heap.size from HS3.out)
        refine wp_region_noPanic ?_
        refine start_ (n := 13) (S := fun w' => w'.cell? ⟨RB, 1, none⟩ = some (.slice A3 ds.length c3) ∧ w'.cell? ⟨XB, 0, none⟩ = some (.string key) ∧ w'.cell? ⟨XB, 1, none⟩ = some (.slice Ai l.length ci)) (ds := [12]) #[false, false, false, false, false, false, false, false, false, false, false, false, false] (by kernel_rfl) rfl rfl ⟨(blk_cell HI4.out.blk 1).trans rfl, (blk_cell HX4.out 0).trans rfl, (blk_cell HX4.out 1).trans rfl⟩ (fun hHeld => ?_); refine with_tabW rget_tab7 rget_bits7 (fun HT_ HW_ => ?_)
        obtain ⟨W4, hW4⟩ : ∃ w, W3.drew = w := ⟨_, rfl⟩
        rw [hW4] at HI4 HX4 HR4 HG4 HS4 hHeld ⊢
        clear hW4 HX3 HR3 HG3 HI3
        have HBa := Aside0.mk (Below.refl W4.heap.size W4)
        refine pure_ (i := 0) (N := some 37) (v := ?_) (a' := ?_) #[true, false, false, false, false, false, false, false, false, false, false, false, false] rfl rfl (any_of HT_.out (by kernel_rfl)) (fun _ _ _ h => h) (Or.inl ⟨by rfl, ?_⟩) ?_ ?_
        rotate_left
        · intro w'
          go_simp
          with_reducible rfl
        rotate_left
        · simp only [Act.put, List.setIfInBounds_toArray, List.set_cons_zero, List.set_cons_succ, i64_w, i32_w]
          rfl
        refine pure_ (i := 2) (N := some 39) (v := ?_) (a' := ?_) #[true, false, true, false, false, false, false, false, false, false, false, false, false] rfl rfl (any_of HT_.out (by kernel_rfl)) (fun _ _ _ h => h) (Or.inl ⟨by rfl, ?_⟩) ?_ ?_
        rotate_left
        · intro w'
          go_simp
          with_reducible rfl
        rotate_left
        · simp only [Act.put, List.setIfInBounds_toArray, List.set_cons_zero, List.set_cons_succ, i64_w, i32_w]
          rfl
        refine pure_ (i := 3) (N := some 40) (v := ?_) (a' := ?_) #[true, false, true, true, false, false, false, false, false, false, false, false, false] rfl rfl (any_of HT_.out (by kernel_rfl)) (fun _ _ _ h => h) (Or.inl ⟨by rfl, ?_⟩) ?_ ?_
        rotate_left
        · intro w'
          go_simp
          with_reducible rfl
        rotate_left
        · simp only [Act.put, List.setIfInBounds_toArray, List.set_cons_zero, List.set_cons_succ, i64_w, i32_w]
          rfl
        refine pure_ (i := 4) (N := some 41) (v := ?_) (a' := ?_) #[true, false, true, true, true, false, false, false, false, false, false, false, false] rfl rfl (any_of HT_.out (by kernel_rfl)) (fun _ _ _ h => h) (Or.inl ⟨by rfl, ?_⟩) ?_ ?_
        rotate_left
        · intro w'
          go_simp
          with_reducible rfl
        rotate_left
        · simp only [Act.put, List.setIfInBounds_toArray, List.set_cons_zero, List.set_cons_succ, i64_w, i32_w]
          rfl
        refine take_ (i := 5) (N := some 42) (v := ?_) (a' := ?_) #[true, false, true, true, true, true, false, false, false, false, false, false, false] rfl rfl (take_ofW HT_.out HW_.out (by kernel_rfl)) (fun _ _ _ h => h) (Or.inl ⟨by rfl, ?_⟩) hHeld ?_ ?_
        rotate_left
        · rintro w' ⟨s0, s1, s2⟩
          go_simp
          with_reducible rfl
        rotate_left
        · simp only [Act.put, List.setIfInBounds_toArray, List.set_cons_zero, List.set_cons_succ, i64_w, i32_w]
          rfl
        refine take_ (i := 7) (N := some 44) (v := ?_) (a' := ?_) #[true, false, true, true, true, true, false, true, false, false, false, false, false] rfl rfl (take_ofW HT_.out HW_.out (by kernel_rfl)) (fun _ _ _ h => h) (Or.inl ⟨by rfl, ?_⟩) hHeld ?_ ?_
        rotate_left
        · rintro w' ⟨s0, s1, s2⟩
          go_simp
          with_reducible rfl
        rotate_left
        · simp only [Act.put, List.setIfInBounds_toArray, List.set_cons_zero, List.set_cons_succ, i64_w, i32_w]
          rfl
        refine two_ (i := 1) (j := 8) (Ni := some 38) (Nj := some 45) #[true, true, true, true, true, true, false, true, false, false, false, false, false] #[true, false, true, true, true, true, false, true, true, false, false, false, false] rfl rfl rfl rfl (two_of HT_.out (by kernel_rfl)) (by decide) (by decide) (fun K hK => ?_) (fun K hK => ?_)
        · refine step_list rfl (by rfl) ?_
          unfold Oper.wp
          go_simp
          have HBb := Aside0.mk (below_alloc HBa.out (.cells #[] 65))
          have HE := Aside0.mk (R_empty W4 (Nat.le_trans HS4.out HBa.out.size))
          refine hK.out _ _ ⟨(blk_cell (HI4.out.later HBb.out).blk 1).trans rfl, (blk_cell (blk_below HX4.out HBb.out) 0).trans rfl, (blk_cell (blk_below HX4.out HBb.out) 1).trans rfl⟩ (fun hHeld => ?_)
          clear hK K
          obtain ⟨EB, hEB⟩ : ∃ n, W4.heap.size = n := ⟨_, rfl⟩
          have HEB := Aside0.mk (show W4.heap.size ≤ EB by rw [← hEB]; exact HBa.out.size)
          have HEL := Aside0.mk (show W4.heap.size < (W4.alloc (.cells #[] 65)).heap.size from Kd.R_lt HE.out _ rfl)
          rw [hEB] at HE HEL ⊢
          clear hEB
          generalize W4.alloc (.cells #[] 65) = Wb at *
          refine two_ (i := 6) (j := 8) (Ni := some 43) (Nj := some 45) #[true, true, true, true, true, true, true, true, false, false, false, false, false] #[true, true, true, true, true, true, false, true, true, false, false, false, false] rfl rfl rfl rfl (two_of HT_.out (by kernel_rfl)) (by decide) (by decide) (fun K hK => ?_) (fun K hK => ?_)
          · refine Kd.R_append_rows_step k65 (w0 := Wb) base (by rfl) (.tmp 38) (.tmp 42) 53 65 (.agg #[.string ⟨#[]⟩, .slice none 0 0]) 40 rfl Try.underlying53 info65 rfl (by decide) (by omega) (.slice (some ⟨EB, 0, none⟩) 0 0) [] ds A3 ds.length c3 (fun _ => True) (fun k => some k ≠ (.slice (some ⟨EB, 0, none⟩) 0 0 : Value).ownBlock) rfl rfl HE.out (HI4.out.row.below HBb.out).row (fun _ _ hM => M_apart HE.out hM) (fun _ hk => ⟨trivial, hk⟩) (fun _ _ => trivial) (Below.refl _ _) (Nat.le_trans HS4.out HBb.out.size) (by simp only [List.length_nil]; have := HDL.out; omega) ?_
            intro v6 Wc hR6 _ hg6 hat6
            have HBc := Aside0.mk (HBb.out.grown hg6 HBb.out.size (fun k hk => by obtain rfl := Option.some.inj hk; exact HEB.out))
            have HF := Aside0.mk (own_new (v := (.slice (some ⟨EB, 0, none⟩) 0 0)) (N := W4.heap.size) (fun k hk => by obtain rfl := Option.some.inj hk; exact HEB.out) HBb.out.size hat6)
            have HE6 := Aside0.mk (show Kd.R k65 65 Wc base (fun _ => True) v6 ds from hR6)
            refine hK.out _ _ ⟨(blk_cell (HI4.out.later HBc.out).blk 1).trans rfl, (blk_cell (blk_below HX4.out HBc.out) 0).trans rfl, (blk_cell (blk_below HX4.out HBc.out) 1).trans rfl⟩ (fun hHeld => ?_)
            clear hK K
            refine norm_ (a' := ?_) ?_ ?_
            rotate_left
            · show Act.put _ (some 43) _ = _
              simp only [Act.put, List.setIfInBounds_toArray, List.set_cons_zero, List.set_cons_succ, i64_w, i32_w]
              rfl
            clear hR6 hg6 hat6 HE
            refine one_ (i := 8) (N := some 45) #[true, true, true, true, true, true, true, true, true, false, false, false, false] rfl rfl (one_of HT_.out (by kernel_rfl)) (by decide) (fun K hK => ?_)
            refine step_list rfl (by rfl) ?_
            unfold Oper.wp
            go_simp
            have HBd := Aside0.mk (below_alloc HBc.out (.cells #[.string key, .slice Ai l.length ci] 65))
            have HBX := Aside0.mk (blk_new Wc (.cells #[.string key, .slice Ai l.length ci] 65))
            refine hK.out _ _ ⟨(blk_cell (HI4.out.later HBd.out).blk 1).trans rfl, (blk_cell (blk_below HX4.out HBd.out) 0).trans rfl, (blk_cell (blk_below HX4.out HBd.out) 1).trans rfl⟩ (fun hHeld => ?_)
            clear hK K
            obtain ⟨BX, hBX⟩ : ∃ n, Wc.heap.size = n := ⟨_, rfl⟩
            have HE6 := Aside0.mk (Kd.R_below HE6.out (below_alloc (Below.refl Wc.heap.size Wc) (.cells #[.string key, .slice Ai l.length ci] 65)))
            rw [hBX] at HBX ⊢
            clear hBX
            generalize Wc.alloc (.cells #[.string key, .slice Ai l.length ci] 65) = Wd at *
            refine one_ (i := 9) (N := some 46) #[true, true, true, true, true, true, true, true, true, true, false, false, false] rfl rfl (one_of HT_.out (by kernel_rfl)) (by decide) (fun K hK => ?_)
            refine R_app_step k65 (W := Wd) base (by rfl) (.tmp 43) (.tmp 45) 53 65 i65 (.agg #[.string ⟨#[]⟩, .slice none 0 0]) 40 rfl Try.underlying53 hi65 hz65 hs65 hb65 rfl (by decide) v6 ds ⟨key, l⟩ [.string key, .slice Ai l.length ci] (fun _ => True) (fun k => some k ≠ v6.ownBlock) rfl ⟨BX, 0, none⟩ rfl (cell_two HBX.out) (M_apart HE6.out (k65_mkM Wd base (fun _ => True) ⟨key, l⟩ (Kd.R_below HR4.out HBd.out))) (fun _ hk => ⟨trivial, hk⟩) (fun _ _ => trivial) HE6.out (Nat.le_trans HS4.out HBd.out.size) (by have := HDL.out; simp only [maxLen]; omega) (by have := HDL.out; omega) ?_
            intro v9 W9 hR9 hg9 hat9
            have HB9 := Aside0.mk (HBd.out.grown hg9 HBd.out.size (fun k hk => HF.out k hk))
            have HE9 := Aside0.mk (show Kd.R k65 65 W9 base (fun _ => True) v9 (addK' key l ks) by rw [HDS.out]; exact hR9)
            refine hK.out _ _ ⟨(blk_cell (HI4.out.later HB9.out).blk 1).trans rfl, (blk_cell (blk_below HX4.out HB9.out) 0).trans rfl, (blk_cell (blk_below HX4.out HB9.out) 1).trans rfl⟩ (fun hHeld => ?_)
            clear hK K
            refine norm_ (a' := ?_) ?_ ?_
            rotate_left
            · show Act.put _ (some 46) _ = _
              simp only [Act.put, List.setIfInBounds_toArray, List.set_cons_zero, List.set_cons_succ, i64_w, i32_w]
              rfl
            clear hR9 hg9 hat9 HE6 HF HBX
            refine pure_ (i := 10) (N := some 47) (v := ?_) (a' := ?_) #[true, true, true, true, true, true, true, true, true, true, true, false, false] rfl rfl (any_of HT_.out (by kernel_rfl)) (fun _ _ _ h => h) (Or.inl ⟨by rfl, ?_⟩) ?_ ?_
            rotate_left
            · intro w'
              go_simp
              with_reducible rfl
            rotate_left
            · simp only [Act.put, List.setIfInBounds_toArray, List.set_cons_zero, List.set_cons_succ, i64_w, i32_w]
              rfl
            refine pure_ (i := 11) (N := some 48) (v := ?_) (a' := ?_) #[true, true, true, true, true, true, true, true, true, true, true, true, false] rfl rfl (any_of HT_.out (by kernel_rfl)) (fun _ _ _ h => h) (Or.inl ⟨by rfl, ?_⟩) ?_ ?_
            rotate_left
            · intro w'
              go_simp
              with_reducible rfl
            rotate_left
            · simp only [Act.put, List.setIfInBounds_toArray, List.set_cons_zero, List.set_cons_succ, i64_w, i32_w]
              rfl
            have HI9 := Aside0.mk (HI4.out.later HB9.out)
            obtain ⟨A5, c5, e5, hk5⟩ := Kept.of_R HE9.out
            subst e5
            have HK5 := Aside0.mk hk5
            clear hk5
            have z1 := (blk_cell HI9.out.blk 1).trans rfl
            have f1 := blk_frozen HI9.out.blk 1
            refine last_ (i := 12) (N := none) #[true, true, true, true, true, true, true, true, true, true, true, true, true] rfl rfl (one_of HT_.out (by kernel_rfl)) (by decide) (fun K hK => ?_)
            refine step_list rfl (by rfl) ?_
            unfold Oper.wp
            go_simp
            refine hK.out _ _ ?_
            clear hK K z1 f1
            refine done_ (done_of HT_.out (by kernel_rfl)) ?_
            refine NoPanic.normal ?_
            clear HT_ HW_ hHeld
            have HI10 := Aside0.mk (RInv.setRow (W := W9) HI9.out.blk HK5.out)
            have HG10 := Aside0.mk (HG4.out.trans ((grownBy_below HB9.out (some RB)).trans (grownBy_set W9 RB 1 (.slice A5 (addK' key l ks).length c5))))
            have HR10 := Aside0.mk (R_ref HI9.out.blk (Kd.R_below HR4.out HB9.out) (grownBy_set W9 RB 1 (.slice A5 (addK' key l ks).length c5)))
            have HX10 := Aside0.mk (blk_grown (blk_below HX4.out HB9.out) (grownBy_set W9 RB 1 (.slice A5 (addK' key l ks).length c5)) (fun e => HNE.out (by injection e)))
            generalize W9.setCell ⟨RB, 1, none⟩ (.slice A5 (addK' key l ks).length c5) = W10 at *
            have z2 := HI10.out.cells.2.2.1
            have f2 := blk_frozen HI10.out.blk 2
            have HX11 := Aside0.mk (blk_grown HX10.out (grownBy_set W10 RB 2 (.int .i64 (wrap64 (h + 1)))) (fun e => HNE.out (by injection e)))
            have x1 := (blk_cell HX11.out 1).trans rfl
            go_wp2_with fail
            go_ret2
            have hR11 := R_ref HI10.out.blk HR10.out (grownBy_set W10 RB 2 (.int .i64 (wrap64 (h + 1))))
            exact ⟨Ai, ci, rfl, ⟨A5, c5, HI10.out.field 2 (.int .i64 (wrap64 (h + 1))) rfl⟩, HG10.out.trans (grownBy_set _ _ _ _), (Kd.R_reads' hR11).2.1, (Kd.R_reads' hR11).2.2⟩
          · refine step_list rfl (by rfl) ?_
            unfold Oper.wp
            go_simp
            have HBc := Aside0.mk (below_alloc HBb.out (.cells #[.string key, .slice Ai l.length ci] 65))
            have HBX := Aside0.mk (blk_new Wb (.cells #[.string key, .slice Ai l.length ci] 65))
            refine hK.out _ _ ⟨(blk_cell (HI4.out.later HBc.out).blk 1).trans rfl, (blk_cell (blk_below HX4.out HBc.out) 0).trans rfl, (blk_cell (blk_below HX4.out HBc.out) 1).trans rfl⟩ (fun hHeld => ?_)
            clear hK K
            obtain ⟨BX, hBX⟩ : ∃ n, Wb.heap.size = n := ⟨_, rfl⟩
            have HE := Aside0.mk (Kd.R_below HE.out (below_alloc (Below.refl Wb.heap.size Wb) (.cells #[.string key, .slice Ai l.length ci] 65)))
            have HBE := Aside0.mk (show BX ≠ EB from fun e => by have h1 := HEL.out; omega)
            rw [hBX] at HBX ⊢
            clear hBX
            generalize Wb.alloc (.cells #[.string key, .slice Ai l.length ci] 65) = Wc at *
            refine one_ (i := 6) (N := some 43) #[true, true, true, true, true, true, true, true, true, false, false, false, false] rfl rfl (one_of HT_.out (by kernel_rfl)) (by decide) (fun K hK => ?_)
            refine Kd.R_append_rows_step k65 (w0 := Wc) base (by rfl) (.tmp 38) (.tmp 42) 53 65 (.agg #[.string ⟨#[]⟩, .slice none 0 0]) 40 rfl Try.underlying53 info65 rfl (by decide) (by omega) (.slice (some ⟨EB, 0, none⟩) 0 0) [] ds A3 ds.length c3 (fun _ => True) (fun k => some k ≠ (.slice (some ⟨EB, 0, none⟩) 0 0 : Value).ownBlock) rfl rfl HE.out (HI4.out.row.below HBc.out).row (fun _ _ hM => M_apart HE.out hM) (fun _ hk => ⟨trivial, hk⟩) (fun _ _ => trivial) (Below.refl _ _) (Nat.le_trans HS4.out HBc.out.size) (by simp only [List.length_nil]; have := HDL.out; omega) ?_
            intro v6 Wd hR6 _ hg6 hat6
            have HBd := Aside0.mk (HBc.out.grown hg6 HBc.out.size (fun k hk => by obtain rfl := Option.some.inj hk; exact HEB.out))
            have HF := Aside0.mk (own_new (v := (.slice (some ⟨EB, 0, none⟩) 0 0)) (N := W4.heap.size) (fun k hk => by obtain rfl := Option.some.inj hk; exact HEB.out) HBc.out.size hat6)
            have HBX := Aside0.mk (blk_grown HBX.out hg6 (fun e => by injection e with e; exact HBE.out e))
            have HE6 := Aside0.mk (show Kd.R k65 65 Wd base (fun _ => True) v6 ds from hR6)
            refine hK.out _ _ ⟨(blk_cell (HI4.out.later HBd.out).blk 1).trans rfl, (blk_cell (blk_below HX4.out HBd.out) 0).trans rfl, (blk_cell (blk_below HX4.out HBd.out) 1).trans rfl⟩ (fun hHeld => ?_)
            clear hK K
            refine norm_ (a' := ?_) ?_ ?_
            rotate_left
            · show Act.put _ (some 43) _ = _
              simp only [Act.put, List.setIfInBounds_toArray, List.set_cons_zero, List.set_cons_succ, i64_w, i32_w]
              rfl
            clear hR6 hg6 hat6 HE
            refine one_ (i := 9) (N := some 46) #[true, true, true, true, true, true, true, true, true, true, false, false, false] rfl rfl (one_of HT_.out (by kernel_rfl)) (by decide) (fun K hK => ?_)
            refine R_app_step k65 (W := Wd) base (by rfl) (.tmp 43) (.tmp 45) 53 65 i65 (.agg #[.string ⟨#[]⟩, .slice none 0 0]) 40 rfl Try.underlying53 hi65 hz65 hs65 hb65 rfl (by decide) v6 ds ⟨key, l⟩ [.string key, .slice Ai l.length ci] (fun _ => True) (fun k => some k ≠ v6.ownBlock) rfl ⟨BX, 0, none⟩ rfl (cell_two HBX.out) (M_apart HE6.out (k65_mkM Wd base (fun _ => True) ⟨key, l⟩ (Kd.R_below HR4.out HBd.out))) (fun _ hk => ⟨trivial, hk⟩) (fun _ _ => trivial) HE6.out (Nat.le_trans HS4.out HBd.out.size) (by have := HDL.out; simp only [maxLen]; omega) (by have := HDL.out; omega) ?_
            intro v9 W9 hR9 hg9 hat9
            have HB9 := Aside0.mk (HBd.out.grown hg9 HBd.out.size (fun k hk => HF.out k hk))
            have HE9 := Aside0.mk (show Kd.R k65 65 W9 base (fun _ => True) v9 (addK' key l ks) by rw [HDS.out]; exact hR9)
            refine hK.out _ _ ⟨(blk_cell (HI4.out.later HB9.out).blk 1).trans rfl, (blk_cell (blk_below HX4.out HB9.out) 0).trans rfl, (blk_cell (blk_below HX4.out HB9.out) 1).trans rfl⟩ (fun hHeld => ?_)
            clear hK K
            refine norm_ (a' := ?_) ?_ ?_
            rotate_left
            · show Act.put _ (some 46) _ = _
              simp only [Act.put, List.setIfInBounds_toArray, List.set_cons_zero, List.set_cons_succ, i64_w, i32_w]
              rfl
            clear hR9 hg9 hat9 HE6 HF HBX
            refine pure_ (i := 10) (N := some 47) (v := ?_) (a' := ?_) #[true, true, true, true, true, true, true, true, true, true, true, false, false] rfl rfl (any_of HT_.out (by kernel_rfl)) (fun _ _ _ h => h) (Or.inl ⟨by rfl, ?_⟩) ?_ ?_
            rotate_left
            · intro w'
              go_simp
              with_reducible rfl
            rotate_left
            · simp only [Act.put, List.setIfInBounds_toArray, List.set_cons_zero, List.set_cons_succ, i64_w, i32_w]
              rfl
            refine pure_ (i := 11) (N := some 48) (v := ?_) (a' := ?_) #[true, true, true, true, true, true, true, true, true, true, true, true, false] rfl rfl (any_of HT_.out (by kernel_rfl)) (fun _ _ _ h => h) (Or.inl ⟨by rfl, ?_⟩) ?_ ?_
            rotate_left
            · intro w'
              go_simp
              with_reducible rfl
            rotate_left
            · simp only [Act.put, List.setIfInBounds_toArray, List.set_cons_zero, List.set_cons_succ, i64_w, i32_w]
              rfl
            have HI9 := Aside0.mk (HI4.out.later HB9.out)
            obtain ⟨A5, c5, e5, hk5⟩ := Kept.of_R HE9.out
            subst e5
            have HK5 := Aside0.mk hk5
            clear hk5
            have z1 := (blk_cell HI9.out.blk 1).trans rfl
            have f1 := blk_frozen HI9.out.blk 1
            refine last_ (i := 12) (N := none) #[true, true, true, true, true, true, true, true, true, true, true, true, true] rfl rfl (one_of HT_.out (by kernel_rfl)) (by decide) (fun K hK => ?_)
            refine step_list rfl (by rfl) ?_
            unfold Oper.wp
            go_simp
            refine hK.out _ _ ?_
            clear hK K z1 f1
            refine done_ (done_of HT_.out (by kernel_rfl)) ?_
            refine NoPanic.normal ?_
            clear HT_ HW_ hHeld
            have HI10 := Aside0.mk (RInv.setRow (W := W9) HI9.out.blk HK5.out)
            have HG10 := Aside0.mk (HG4.out.trans ((grownBy_below HB9.out (some RB)).trans (grownBy_set W9 RB 1 (.slice A5 (addK' key l ks).length c5))))
            have HR10 := Aside0.mk (R_ref HI9.out.blk (Kd.R_below HR4.out HB9.out) (grownBy_set W9 RB 1 (.slice A5 (addK' key l ks).length c5)))
            have HX10 := Aside0.mk (blk_grown (blk_below HX4.out HB9.out) (grownBy_set W9 RB 1 (.slice A5 (addK' key l ks).length c5)) (fun e => HNE.out (by injection e)))
            generalize W9.setCell ⟨RB, 1, none⟩ (.slice A5 (addK' key l ks).length c5) = W10 at *
            have z2 := HI10.out.cells.2.2.1
            have f2 := blk_frozen HI10.out.blk 2
            have HX11 := Aside0.mk (blk_grown HX10.out (grownBy_set W10 RB 2 (.int .i64 (wrap64 (h + 1)))) (fun e => HNE.out (by injection e)))
            have x1 := (blk_cell HX11.out 1).trans rfl
            go_wp2_with fail
            go_ret2
            have hR11 := R_ref HI10.out.blk HR10.out (grownBy_set W10 RB 2 (.int .i64 (wrap64 (h + 1))))
            exact ⟨Ai, ci, rfl, ⟨A5, c5, HI10.out.field 2 (.int .i64 (wrap64 (h + 1))) rfl⟩, HG10.out.trans (grownBy_set _ _ _ _), (Kd.R_reads' hR11).2.1, (Kd.R_reads' hR11).2.2⟩
        · refine step_list rfl (by rfl) ?_
          unfold Oper.wp
          go_simp
          have HBb := Aside0.mk (below_alloc HBa.out (.cells #[.string key, .slice Ai l.length ci] 65))
          have HBX := Aside0.mk (blk_new W4 (.cells #[.string key, .slice Ai l.length ci] 65))
          refine hK.out _ _ ⟨(blk_cell (HI4.out.later HBb.out).blk 1).trans rfl, (blk_cell (blk_below HX4.out HBb.out) 0).trans rfl, (blk_cell (blk_below HX4.out HBb.out) 1).trans rfl⟩ (fun hHeld => ?_)
          clear hK K
          obtain ⟨BX, hBX⟩ : ∃ n, W4.heap.size = n := ⟨_, rfl⟩
          rw [hBX] at HBX ⊢
          clear hBX
          generalize W4.alloc (.cells #[.string key, .slice Ai l.length ci] 65) = Wb at *
          refine one_ (i := 1) (N := some 38) #[true, true, true, true, true, true, false, true, true, false, false, false, false] rfl rfl (one_of HT_.out (by kernel_rfl)) (by decide) (fun K hK => ?_)
          refine step_list rfl (by rfl) ?_
          unfold Oper.wp
          go_simp
          have HBc := Aside0.mk (below_alloc HBb.out (.cells #[] 65))
          have HE := Aside0.mk (R_empty Wb (Nat.le_trans HS4.out HBb.out.size))
          refine hK.out _ _ ⟨(blk_cell (HI4.out.later HBc.out).blk 1).trans rfl, (blk_cell (blk_below HX4.out HBc.out) 0).trans rfl, (blk_cell (blk_below HX4.out HBc.out) 1).trans rfl⟩ (fun hHeld => ?_)
          clear hK K
          obtain ⟨EB, hEB⟩ : ∃ n, Wb.heap.size = n := ⟨_, rfl⟩
          have HEB := Aside0.mk (show W4.heap.size ≤ EB by rw [← hEB]; exact HBb.out.size)
          have HBE := Aside0.mk (show BX ≠ EB from fun e => by have h1 := blk_lt HBX.out; omega)
          have HEL := Aside0.mk (show Wb.heap.size < (Wb.alloc (.cells #[] 65)).heap.size from Kd.R_lt HE.out _ rfl)
          rw [hEB] at HE HEL ⊢
          clear hEB
          have HBX := Aside0.mk (blk_below HBX.out (below_alloc (Below.refl Wb.heap.size Wb) (.cells #[] 65)))
          generalize Wb.alloc (.cells #[] 65) = Wc at *
          refine one_ (i := 6) (N := some 43) #[true, true, true, true, true, true, true, true, true, false, false, false, false] rfl rfl (one_of HT_.out (by kernel_rfl)) (by decide) (fun K hK => ?_)
          refine Kd.R_append_rows_step k65 (w0 := Wc) base (by rfl) (.tmp 38) (.tmp 42) 53 65 (.agg #[.string ⟨#[]⟩, .slice none 0 0]) 40 rfl Try.underlying53 info65 rfl (by decide) (by omega) (.slice (some ⟨EB, 0, none⟩) 0 0) [] ds A3 ds.length c3 (fun _ => True) (fun k => some k ≠ (.slice (some ⟨EB, 0, none⟩) 0 0 : Value).ownBlock) rfl rfl HE.out (HI4.out.row.below HBc.out).row (fun _ _ hM => M_apart HE.out hM) (fun _ hk => ⟨trivial, hk⟩) (fun _ _ => trivial) (Below.refl _ _) (Nat.le_trans HS4.out HBc.out.size) (by simp only [List.length_nil]; have := HDL.out; omega) ?_
          intro v6 Wd hR6 _ hg6 hat6
          have HBd := Aside0.mk (HBc.out.grown hg6 HBc.out.size (fun k hk => by obtain rfl := Option.some.inj hk; exact HEB.out))
          have HF := Aside0.mk (own_new (v := (.slice (some ⟨EB, 0, none⟩) 0 0)) (N := W4.heap.size) (fun k hk => by obtain rfl := Option.some.inj hk; exact HEB.out) HBc.out.size hat6)
          have HBX := Aside0.mk (blk_grown HBX.out hg6 (fun e => by injection e with e; exact HBE.out e))
          have HE6 := Aside0.mk (show Kd.R k65 65 Wd base (fun _ => True) v6 ds from hR6)
          refine hK.out _ _ ⟨(blk_cell (HI4.out.later HBd.out).blk 1).trans rfl, (blk_cell (blk_below HX4.out HBd.out) 0).trans rfl, (blk_cell (blk_below HX4.out HBd.out) 1).trans rfl⟩ (fun hHeld => ?_)
          clear hK K
          refine norm_ (a' := ?_) ?_ ?_
          rotate_left
          · show Act.put _ (some 43) _ = _
            simp only [Act.put, List.setIfInBounds_toArray, List.set_cons_zero, List.set_cons_succ, i64_w, i32_w]
            rfl
          clear hR6 hg6 hat6 HE
          refine one_ (i := 9) (N := some 46) #[true, true, true, true, true, true, true, true, true, true, false, false, false] rfl rfl (one_of HT_.out (by kernel_rfl)) (by decide) (fun K hK => ?_)
          refine R_app_step k65 (W := Wd) base (by rfl) (.tmp 43) (.tmp 45) 53 65 i65 (.agg #[.string ⟨#[]⟩, .slice none 0 0]) 40 rfl Try.underlying53 hi65 hz65 hs65 hb65 rfl (by decide) v6 ds ⟨key, l⟩ [.string key, .slice Ai l.length ci] (fun _ => True) (fun k => some k ≠ v6.ownBlock) rfl ⟨BX, 0, none⟩ rfl (cell_two HBX.out) (M_apart HE6.out (k65_mkM Wd base (fun _ => True) ⟨key, l⟩ (Kd.R_below HR4.out HBd.out))) (fun _ hk => ⟨trivial, hk⟩) (fun _ _ => trivial) HE6.out (Nat.le_trans HS4.out HBd.out.size) (by have := HDL.out; simp only [maxLen]; omega) (by have := HDL.out; omega) ?_
          intro v9 W9 hR9 hg9 hat9
          have HB9 := Aside0.mk (HBd.out.grown hg9 HBd.out.size (fun k hk => HF.out k hk))
          have HE9 := Aside0.mk (show Kd.R k65 65 W9 base (fun _ => True) v9 (addK' key l ks) by rw [HDS.out]; exact hR9)
          refine hK.out _ _ ⟨(blk_cell (HI4.out.later HB9.out).blk 1).trans rfl, (blk_cell (blk_below HX4.out HB9.out) 0).trans rfl, (blk_cell (blk_below HX4.out HB9.out) 1).trans rfl⟩ (fun hHeld => ?_)
          clear hK K
          refine norm_ (a' := ?_) ?_ ?_
          rotate_left
          · show Act.put _ (some 46) _ = _
            simp only [Act.put, List.setIfInBounds_toArray, List.set_cons_zero, List.set_cons_succ, i64_w, i32_w]
            rfl
          clear hR9 hg9 hat9 HE6 HF HBX
          refine pure_ (i := 10) (N := some 47) (v := ?_) (a' := ?_) #[true, true, true, true, true, true, true, true, true, true, true, false, false] rfl rfl (any_of HT_.out (by kernel_rfl)) (fun _ _ _ h => h) (Or.inl ⟨by rfl, ?_⟩) ?_ ?_
          rotate_left
          · intro w'
            go_simp
            with_reducible rfl
          rotate_left
          · simp only [Act.put, List.setIfInBounds_toArray, List.set_cons_zero, List.set_cons_succ, i64_w, i32_w]
            rfl
          refine pure_ (i := 11) (N := some 48) (v := ?_) (a' := ?_) #[true, true, true, true, true, true, true, true, true, true, true, true, false] rfl rfl (any_of HT_.out (by kernel_rfl)) (fun _ _ _ h => h) (Or.inl ⟨by rfl, ?_⟩) ?_ ?_
          rotate_left
          · intro w'
            go_simp
            with_reducible rfl
          rotate_left
          · simp only [Act.put, List.setIfInBounds_toArray, List.set_cons_zero, List.set_cons_succ, i64_w, i32_w]
            rfl
          have HI9 := Aside0.mk (HI4.out.later HB9.out)
          obtain ⟨A5, c5, e5, hk5⟩ := Kept.of_R HE9.out
          subst e5
          have HK5 := Aside0.mk hk5
          clear hk5
          have z1 := (blk_cell HI9.out.blk 1).trans rfl
          have f1 := blk_frozen HI9.out.blk 1
          refine last_ (i := 12) (N := none) #[true, true, true, true, true, true, true, true, true, true, true, true, true] rfl rfl (one_of HT_.out (by kernel_rfl)) (by decide) (fun K hK => ?_)
          refine step_list rfl (by rfl) ?_
          unfold Oper.wp
          go_simp
          refine hK.out _ _ ?_
          clear hK K z1 f1
          refine done_ (done_of HT_.out (by kernel_rfl)) ?_
          refine NoPanic.normal ?_
          clear HT_ HW_ hHeld
          have HI10 := Aside0.mk (RInv.setRow (W := W9) HI9.out.blk HK5.out)
          have HG10 := Aside0.mk (HG4.out.trans ((grownBy_below HB9.out (some RB)).trans (grownBy_set W9 RB 1 (.slice A5 (addK' key l ks).length c5))))
          have HR10 := Aside0.mk (R_ref HI9.out.blk (Kd.R_below HR4.out HB9.out) (grownBy_set W9 RB 1 (.slice A5 (addK' key l ks).length c5)))
          have HX10 := Aside0.mk (blk_grown (blk_below HX4.out HB9.out) (grownBy_set W9 RB 1 (.slice A5 (addK' key l ks).length c5)) (fun e => HNE.out (by injection e)))
          generalize W9.setCell ⟨RB, 1, none⟩ (.slice A5 (addK' key l ks).length c5) = W10 at *
          have z2 := HI10.out.cells.2.2.1
          have f2 := blk_frozen HI10.out.blk 2
          have HX11 := Aside0.mk (blk_grown HX10.out (grownBy_set W10 RB 2 (.int .i64 (wrap64 (h + 1)))) (fun e => HNE.out (by injection e)))
          have x1 := (blk_cell HX11.out 1).trans rfl
          go_wp2_with fail
          go_ret2
          have hR11 := R_ref HI10.out.blk HR10.out (grownBy_set W10 RB 2 (.int .i64 (wrap64 (h + 1))))
          exact ⟨Ai, ci, rfl, ⟨A5, c5, HI10.out.field 2 (.int .i64 (wrap64 (h + 1))) rfl⟩, HG10.out.trans (grownBy_set _ _ _ _), (Kd.R_reads' hR11).2.1, (Kd.R_reads' hR11).2.2⟩
      · have HP2 := Aside0.mk (HP.out.next q e)
        obtain ⟨s, hs⟩ : ∃ s, (rd_T65 ks (i : Int)).f0 = s := ⟨_, rfl⟩
        rw [hs] at hx0 e
        have eb : (s.toList == key.toList) = false := by rw [eq_key]; exact decide_eq_false e
        clear hs q
        go_wp2_with fail
        go_roundg (gk - 1)
        case measure => have := HQ.out; have := HG.out; omega
        case rel => exact ⟨i + 1, (by first | rfl | (rw [wrap_succ (by have := HQ.out; have := HL.out; omega)])), rfl, ⟨by have := HQ.out; have := HG.out; omega⟩, HP2⟩
    · obtain rfl : i = ks.length := by have := HG.out; omega
      have h9 := HP.out.end_
      rw [HM.out] at h9
      cases h9
end Go.Proofs.Ytjpbcmfppmiagaa.Print
