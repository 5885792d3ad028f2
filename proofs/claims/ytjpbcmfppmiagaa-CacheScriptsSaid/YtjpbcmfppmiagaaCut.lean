/- (*Cache).cut: no more keys than there may be. -/
import Derived.Test.YtjpbcmfppmiagaaCacheC
import Derived.Test.YtjpbcmfppmiagaaSteps
namespace Go.Proofs.Ytjpbcmfppmiagaa.Print
open Go.RowKit Go.Maps Go.Proofs.YtjpbcmfppmiagaaW.PrintWords Go.Proofs.YtjpbcmfppmiagaaW.PrintLast Go.Proofs.YtjpbcmfppmiagaaW.PrintMore
set_option linter.unusedVariables false
set_option linter.unusedSimpArgs false

def cut_T3 : Bool × List (List Nat × List Nat) := (true, [([], []), ([0], [0]), ([1], [1]), ([2], [2]), ([3], [3]), ([], []), ([5], [5]), ([6], [6]), ([7], [7]), ([4, 8], [4, 8])])
def cut_B3 : List Nat := [0, 1, 3, 7, 15, 0, 32, 96, 224, 511]
theorem cut_tab3 : rtab .any (opsOf Try.f23 3) = cut_T3 := by kernel_rfl
theorem cut_bits3 : waitsOk cut_T3.2 cut_B3 = true := by kernel_rfl
def cut_T4 : Bool × List (List Nat × List Nat) := (true, [([], []), ([0], [0]), ([1], [1]), ([2], [2]), ([], []), ([4], [4]), ([5], [5]), ([6], [6]), ([7], [7]), ([8], [8]), ([3, 9], [3, 9])])
def cut_B4 : List Nat := [0, 1, 3, 7, 0, 16, 48, 112, 240, 496, 1023]
theorem cut_tab4 : rtab .any (opsOf Try.f23 4) = cut_T4 := by kernel_rfl
theorem cut_bits4 : waitsOk cut_T4.2 cut_B4 = true := by kernel_rfl
theorem C_tail {w : World} {g n : Nat} {k : ByteArray} {l : List ByteArray} (h : Kd.string.C w (some ⟨g, 0, none⟩) n (k :: l)) : Kd.string.C w (some ⟨g, 1, none⟩) l.length l := by
  obtain ⟨h1, h2, h3⟩ := h
  have hn : n = l.length + 1 := by rw [← h1]; rfl
  refine ⟨rfl, by omega, fun _ => ⟨⟨g, 1, none⟩, rfl, fun j p hj => ?_⟩⟩
  obtain ⟨ad, e, hc⟩ := h3 (by omega)
  obtain rfl := (Option.some.inj e).symm
  obtain ⟨c, c1, c2, c3⟩ := hc (j + 1) p (by simpa using hj)
  refine ⟨c, c1, c2, fun i u hi => ?_⟩
  have := c3 i u hi
  have e2 : (⟨g, 0, none⟩ : Addr).add ((j + 1) * Kd.string.sz + i) = (⟨g, 1, none⟩ : Addr).add (j * Kd.string.sz + i) := by
    have hs : Kd.string.sz = 1 := rfl
    rw [hs, Nat.mul_one, Nat.mul_one]
    have e0 : ∀ a b : Nat, (⟨g, a, none⟩ : Addr).add b = ⟨g, a + b, none⟩ := fun a b => by cases b <;> rfl
    rw [e0, e0]
    congr 1
    omega
  rw [e2] at this
  exact this
set_option maxHeartbeats 16000000 in
set_option maxRecDepth 100000 in
theorem cut_calls (ok : Nat → Prop) (base CB MB : Nat) (vO : Value) (most : Int) (m : Lists) (o : List ByteArray) (h nt : Int) (W : World) (hi : CInv ok base CB MB vO most m o h nt W) (hb : base ≤ W.heap.size) (hl : o.length ≤ 100000) (hs : ∀ k ∈ o, k.size ≤ maxLen) (hmost : 0 ≤ most) :
    Calls Try.prog 23 #[.pointer (some ⟨CB, 0, none⟩)] W fun e w' => e = .returned (.tuple #[]) ∧ ∃ vO', CInv ok base CB MB vO' most (cutAll most m o).1 (cutAll most m o).2 h nt w' ∧ Turn base CB MB W w' := by
  have HI := Aside0.mk hi
  have HS := Aside0.mk hb
  have c0 := hi.cells.1
  have c1 := hi.cells.2.1
  obtain ⟨fin, hfin⟩ : ∃ r, cutAll most m o = r := ⟨_, rfl⟩
  rw [hfin]
  have HFN := Aside0.mk hfin
  have HSZ := Aside0.mk hs
  have HLN := Aside0.mk hl
  have HMO := Aside0.mk hmost
  clear hi hb hfin hs hl hmost
  have key : ∃ W1 m1 o1 v1, (most = 0 → W1 = W1) ∧ True := ⟨W, m, o, vO, fun _ => rfl, trivial⟩
  clear key
  by_cases h0 : most = 0
  · have h0b : (most == 0) = true := beq_iff_eq.2 h0
    obtain ⟨W1, hrun, hi1, ht1⟩ := HI.out.clear 0
    have HI1 := Aside0.mk hi1
    have HT1 := Aside0.mk ht1
    have z2 := (blk_cell hi1.blk 2).trans rfl
    have f2 := blk_frozen hi1.blk 2
    have HI2 := Aside0.mk (CInv.setOrd (v := .slice none 0 0) (o := []) hi1.blk hi1.map (Kd.R_nil _ _ _ _ _) hi1.hC hi1.hM)
    have HF := Aside0.mk (show fin = (fun _ => none, []) by rw [← HFN.out]; unfold cutAll; rw [if_pos h0])
    have H0 := Aside0.mk h0
    have HT2 := Aside0.mk (HT1.out.trans (Turn.of_cache (grownBy_set W1 CB 2 (.slice none 0 0))))
    have HCF := Aside0.mk (show cutF most (fun _ => none) [] = fin by rw [HF.out]; rfl)
    clear hi1 ht1 h0 HI1 HT1 HSZ HLN
    go_enter Try.func23, Try.ntmps23
    go_wp2_with fail
    clear hrun z2 f2 c0 c1
    generalize W1.setCell ⟨CB, 2, none⟩ (.slice none 0 0) = W2 at *
    go_loopg [14] 100001 (fun gk _ wr => ∃ (m2 : Lists) (o2 : List ByteArray) (v2 : Value), Aside0 (CInv ok base CB MB v2 most m2 o2 h nt wr) ∧ Aside0 (Turn base CB MB W wr) ∧ Aside0 (cutF most m2 o2 = fin) ∧ Aside0 (∀ k ∈ o2, k.size ≤ maxLen) ∧ Aside0 (o2.length ≤ 100000) ∧ o2.length < gk)
    case atStart => exact ⟨fun _ => none, [], (.slice none 0 0), HI2, HT2, HCF, ⟨fun k hk => by simp at hk⟩, ⟨by simp⟩, by simp⟩
    case round =>
      clear HI2 HT2 HCF 
      obtain ⟨m2, o2, v2, HC, HT, HCF, HSZ, HLN, hgk⟩ := hrel
      obtain ⟨AO, cO, rfl⟩ := Kd.R_slice HC.out.ord
      go_upto_region 3 with fail
      have HC3 := Aside0.mk (HC.out.later (below_drew (Below.refl _ _)))
      have HT3 := Aside0.mk (HT.out.trans (Turn.of_below (below_drew (Below.refl _ _))))
      clear HC HT
      refine wp_region_noPanic ?_
      refine start_ (n := 10) (S := fun w' => w'.cell? ⟨CB, 0, none⟩ = some (.int .i64 most) ∧ w'.cell? ⟨CB, 2, none⟩ = some (.slice AO o2.length cO)) (ds := []) #[false, false, false, false, false, false, false, false, false, false] (by kernel_rfl) rfl rfl ⟨(blk_cell HC3.out.blk 0).trans rfl, (blk_cell HC3.out.blk 2).trans rfl⟩ (fun hHeld => ?_); refine with_tabW cut_tab3 cut_bits3 (fun HT_ HW_ => ?_)
      generalize wr.drew = W3 at *
      refine pure_ (i := 0) (N := some 14) (v := ?_) (a' := ?_) #[true, false, false, false, false, false, false, false, false, false] rfl rfl (any_of HT_.out (by kernel_rfl)) (fun _ _ _ h => h) (Or.inl ⟨by rfl, ?_⟩) ?_ ?_
      rotate_left
      · intro w'
        go_simp
        with_reducible rfl
      rotate_left
      · simp only [Act.put, List.setIfInBounds_toArray, List.set_cons_zero, List.set_cons_succ, i64_w, i32_w]
        rfl
      refine pure_ (i := 1) (N := some 15) (v := ?_) (a' := ?_) #[true, true, false, false, false, false, false, false, false, false] rfl rfl (any_of HT_.out (by kernel_rfl)) (fun _ _ _ h => h) (Or.inl ⟨by rfl, ?_⟩) ?_ ?_
      rotate_left
      · intro w'
        go_simp
        with_reducible rfl
      rotate_left
      · simp only [Act.put, List.setIfInBounds_toArray, List.set_cons_zero, List.set_cons_succ, i64_w, i32_w]
        rfl
      refine pure_ (i := 2) (N := some 16) (v := ?_) (a' := ?_) #[true, true, true, false, false, false, false, false, false, false] rfl rfl (any_of HT_.out (by kernel_rfl)) (fun _ _ _ h => h) (Or.inl ⟨by rfl, ?_⟩) ?_ ?_
      rotate_left
      · intro w'
        go_simp
        with_reducible rfl
      rotate_left
      · simp only [Act.put, List.setIfInBounds_toArray, List.set_cons_zero, List.set_cons_succ, i64_w, i32_w]
        rfl
      refine take_ (i := 3) (N := some 17) (v := ?_) (a' := ?_) #[true, true, true, true, false, false, false, false, false, false] rfl rfl (take_ofW HT_.out HW_.out (by kernel_rfl)) (fun _ _ _ h => h) (Or.inl ⟨by rfl, ?_⟩) hHeld ?_ ?_
      rotate_left
      · rintro w' ⟨s0, s1⟩
        go_simp
        with_reducible rfl
      rotate_left
      · simp only [Act.put, List.setIfInBounds_toArray, List.set_cons_zero, List.set_cons_succ, i64_w, i32_w]
        rfl
      refine pure_ (i := 4) (N := some 18) (v := ?_) (a' := ?_) #[true, true, true, true, true, false, false, false, false, false] rfl rfl (any_of HT_.out (by kernel_rfl)) (fun _ _ _ h => h) (Or.inl ⟨by rfl, ?_⟩) ?_ ?_
      rotate_left
      · intro w'
        go_simp
        with_reducible rfl
      rotate_left
      · simp only [Act.put, List.setIfInBounds_toArray, List.set_cons_zero, List.set_cons_succ, i64_w, i32_w]
        rfl
      refine pure_ (i := 5) (N := some 19) (v := ?_) (a' := ?_) #[true, true, true, true, true, true, false, false, false, false] rfl rfl (any_of HT_.out (by kernel_rfl)) (fun _ _ _ h => h) (Or.inl ⟨by rfl, ?_⟩) ?_ ?_
      rotate_left
      · intro w'
        go_simp
        with_reducible rfl
      rotate_left
      · simp only [Act.put, List.setIfInBounds_toArray, List.set_cons_zero, List.set_cons_succ, i64_w, i32_w]
        rfl
      refine pure_ (i := 6) (N := some 20) (v := ?_) (a' := ?_) #[true, true, true, true, true, true, true, false, false, false] rfl rfl (any_of HT_.out (by kernel_rfl)) (fun _ _ _ h => h) (Or.inl ⟨by rfl, ?_⟩) ?_ ?_
      rotate_left
      · intro w'
        go_simp
        with_reducible rfl
      rotate_left
      · simp only [Act.put, List.setIfInBounds_toArray, List.set_cons_zero, List.set_cons_succ, i64_w, i32_w]
        rfl
      refine pure_ (i := 7) (N := some 21) (v := ?_) (a' := ?_) #[true, true, true, true, true, true, true, true, false, false] rfl rfl (any_of HT_.out (by kernel_rfl)) (fun _ _ _ h => h) (Or.inl ⟨by rfl, ?_⟩) ?_ ?_
      rotate_left
      · intro w'
        go_simp
        with_reducible rfl
      rotate_left
      · simp only [Act.put, List.setIfInBounds_toArray, List.set_cons_zero, List.set_cons_succ, i64_w, i32_w]
        rfl
      refine take_ (i := 8) (N := some 22) (v := ?_) (a' := ?_) #[true, true, true, true, true, true, true, true, true, false] rfl rfl (take_ofW HT_.out HW_.out (by kernel_rfl)) (fun _ _ _ h => h) (Or.inl ⟨by rfl, ?_⟩) hHeld ?_ ?_
      rotate_left
      · rintro w' ⟨s0, s1⟩
        go_simp
        with_reducible rfl
      rotate_left
      · simp only [Act.put, List.setIfInBounds_toArray, List.set_cons_zero, List.set_cons_succ, i64_w, i32_w]
        rfl
      refine pure_ (i := 9) (N := some 23) (v := ?_) (a' := ?_) #[true, true, true, true, true, true, true, true, true, true] rfl rfl (any_of HT_.out (by kernel_rfl)) (fun _ _ _ h => h) (Or.inl ⟨by rfl, ?_⟩) ?_ ?_
      rotate_left
      · intro w'
        go_simp
        with_reducible rfl
      rotate_left
      · simp only [Act.put, List.setIfInBounds_toArray, List.set_cons_zero, List.set_cons_succ, i64_w, i32_w]
        rfl
      refine done_ (done_of HT_.out (by kernel_rfl)) ?_
      refine NoPanic.normal ?_
      clear HT_ HW_ hHeld
      by_cases hgt : (o2.length : Int) > most
      · have hgtb : decide ((o2.length : Int) > most) = true := decide_eq_true hgt
        cases o2 with
        | nil => have := HMO.out; simp at hgt; omega
        | cons k0 o3 =>
          have HCF2 := Aside0.mk (show cutF most (setL m2 k0 none) o3 = fin by have h := HCF.out; rw [cutF, if_pos hgt] at h; exact h)
          obtain ⟨go, cap, e0, _, _, _⟩ := Kd.R_form HC3.out.ord (by simp)
          injection e0 with e1 _ e3
          subst e1
          subst e3
          have HKS := Aside0.mk (HSZ.out k0 (List.mem_cons_self ..))
          have HRD := Aside0.mk (Kd.R_reads' HC3.out.ord)
          have hkc : W3.cell? ⟨go, 0, none⟩ = some (.string k0) := (Kd.R_celln ByteArray.empty HC3.out.ord 0 (by omega) (by simp)).1
          have gl := eq_true (show 0 < (k0 :: o3).length by simp)
          go_upto_region 4 with fail
          have HC4 := Aside0.mk (HC3.out.later (below_drew (Below.refl _ _)))
          have HK4 := Aside0.mk (show W3.drew.cell? ⟨go, 0, none⟩ = some (.string k0) from hkc)
          have HT4 := Aside0.mk (HT3.out.trans (Turn.of_below (below_drew (Below.refl _ _))))
          clear HC3 HT3 hkc
          refine wp_region_noPanic ?_
          refine start_ (n := 11) (S := fun w' => w'.cell? ⟨CB, 1, none⟩ = some (.map (some MB)) ∧ w'.cell? ⟨CB, 2, none⟩ = some (.slice (some ⟨go, 0, none⟩) (k0 :: o3).length cO) ∧ w'.cell? ⟨go, 0, none⟩ = some (.string k0)) (ds := [10]) #[false, false, false, false, false, false, false, false, false, false, false] (by kernel_rfl) rfl rfl ⟨(blk_cell HC4.out.blk 1).trans rfl, (blk_cell HC4.out.blk 2).trans rfl, HK4.out⟩ (fun hHeld => ?_); refine with_tabW cut_tab4 cut_bits4 (fun HT_ HW_ => ?_)
          generalize W3.drew = W4 at *
          refine pure_ (i := 0) (N := some 24) (v := ?_) (a' := ?_) #[true, false, false, false, false, false, false, false, false, false, false] rfl rfl (any_of HT_.out (by kernel_rfl)) (fun _ _ _ h => h) (Or.inl ⟨by rfl, ?_⟩) ?_ ?_
          rotate_left
          · intro w'
            go_simp
            with_reducible rfl
          rotate_left
          · simp only [Act.put, List.setIfInBounds_toArray, List.set_cons_zero, List.set_cons_succ, i64_w, i32_w]
            rfl
          refine pure_ (i := 1) (N := some 25) (v := ?_) (a' := ?_) #[true, true, false, false, false, false, false, false, false, false, false] rfl rfl (any_of HT_.out (by kernel_rfl)) (fun _ _ _ h => h) (Or.inl ⟨by rfl, ?_⟩) ?_ ?_
          rotate_left
          · intro w'
            go_simp
            with_reducible rfl
          rotate_left
          · simp only [Act.put, List.setIfInBounds_toArray, List.set_cons_zero, List.set_cons_succ, i64_w, i32_w]
            rfl
          refine pure_ (i := 2) (N := some 26) (v := ?_) (a' := ?_) #[true, true, true, false, false, false, false, false, false, false, false] rfl rfl (any_of HT_.out (by kernel_rfl)) (fun _ _ _ h => h) (Or.inl ⟨by rfl, ?_⟩) ?_ ?_
          rotate_left
          · intro w'
            go_simp
            with_reducible rfl
          rotate_left
          · simp only [Act.put, List.setIfInBounds_toArray, List.set_cons_zero, List.set_cons_succ, i64_w, i32_w]
            rfl
          refine take_ (i := 3) (N := some 27) (v := ?_) (a' := ?_) #[true, true, true, true, false, false, false, false, false, false, false] rfl rfl (take_ofW HT_.out HW_.out (by kernel_rfl)) (fun _ _ _ h => h) (Or.inl ⟨by rfl, ?_⟩) hHeld ?_ ?_
          rotate_left
          · rintro w' ⟨s0, s1, s2⟩
            go_simp
            with_reducible rfl
          rotate_left
          · simp only [Act.put, List.setIfInBounds_toArray, List.set_cons_zero, List.set_cons_succ, i64_w, i32_w]
            rfl
          refine pure_ (i := 4) (N := some 28) (v := ?_) (a' := ?_) #[true, true, true, true, true, false, false, false, false, false, false] rfl rfl (any_of HT_.out (by kernel_rfl)) (fun _ _ _ h => h) (Or.inl ⟨by rfl, ?_⟩) ?_ ?_
          rotate_left
          · intro w'
            go_simp
            with_reducible rfl
          rotate_left
          · simp only [Act.put, List.setIfInBounds_toArray, List.set_cons_zero, List.set_cons_succ, i64_w, i32_w]
            rfl
          refine pure_ (i := 5) (N := some 29) (v := ?_) (a' := ?_) #[true, true, true, true, true, true, false, false, false, false, false] rfl rfl (any_of HT_.out (by kernel_rfl)) (fun _ _ _ h => h) (Or.inl ⟨by rfl, ?_⟩) ?_ ?_
          rotate_left
          · intro w'
            go_simp
            with_reducible rfl
          rotate_left
          · simp only [Act.put, List.setIfInBounds_toArray, List.set_cons_zero, List.set_cons_succ, i64_w, i32_w]
            rfl
          refine pure_ (i := 6) (N := some 30) (v := ?_) (a' := ?_) #[true, true, true, true, true, true, true, false, false, false, false] rfl rfl (any_of HT_.out (by kernel_rfl)) (fun _ _ _ h => h) (Or.inl ⟨by rfl, ?_⟩) ?_ ?_
          rotate_left
          · intro w'
            go_simp
            with_reducible rfl
          rotate_left
          · simp only [Act.put, List.setIfInBounds_toArray, List.set_cons_zero, List.set_cons_succ, i64_w, i32_w]
            rfl
          refine take_ (i := 7) (N := some 31) (v := ?_) (a' := ?_) #[true, true, true, true, true, true, true, true, false, false, false] rfl rfl (take_ofW HT_.out HW_.out (by kernel_rfl)) (fun _ _ _ h => h) (Or.inl ⟨by rfl, ?_⟩) hHeld ?_ ?_
          rotate_left
          · rintro w' ⟨s0, s1, s2⟩
            go_simp
            with_reducible rfl
          rotate_left
          · simp only [Act.put, List.setIfInBounds_toArray, List.set_cons_zero, List.set_cons_succ, i64_w, i32_w]
            rfl
          refine pure_ (i := 8) (N := some 32) (v := ?_) (a' := ?_) #[true, true, true, true, true, true, true, true, true, false, false] rfl rfl (any_of HT_.out (by kernel_rfl)) (fun _ _ _ h => h) (Or.inl ⟨by rfl, ?_⟩) ?_ ?_
          rotate_left
          · intro w'
            go_simp
            with_reducible rfl
          rotate_left
          · simp only [Act.put, List.setIfInBounds_toArray, List.set_cons_zero, List.set_cons_succ, i64_w, i32_w]
            rfl
          refine take_ (i := 9) (N := some 33) (v := ?_) (a' := ?_) #[true, true, true, true, true, true, true, true, true, true, false] rfl rfl (take_ofW HT_.out HW_.out (by kernel_rfl)) (fun _ _ _ h => h) (Or.inl ⟨by rfl, ?_⟩) hHeld ?_ ?_
          rotate_left
          · rintro w' ⟨s0, s1, s2⟩
            go_simp
            with_reducible rfl
          rotate_left
          · simp only [Act.put, List.setIfInBounds_toArray, List.set_cons_zero, List.set_cons_succ, i64_w, i32_w]
            rfl
          obtain ⟨W5, hdel, hi5, ht5⟩ := HC4.out.delete HKS.out 0
          refine last_ (i := 10) (N := none) #[true, true, true, true, true, true, true, true, true, true, true] rfl rfl (one_of HT_.out (by kernel_rfl)) (by decide) (fun K hK => ?_)
          refine step_list rfl (by rfl) ?_
          unfold Oper.wp
          go_simp
          refine hK.out _ _ ?_
          clear hK K hdel
          refine done_ (done_of HT_.out (by kernel_rfl)) ?_
          refine NoPanic.normal ?_
          clear HT_ HW_ hHeld
          have HT5 := Aside0.mk (HT4.out.trans ht5)
          have HC5 := Aside0.mk hi5
          clear hi5 ht5 HC4 HT4 HK4
          have HLE := Aside0.mk (show o3.length ≤ 100000 by have := HLN.out; simp at this; omega)
          have HCAP := HRD.out.2.1
          by_cases hcap : cO = 1
          · subst hcap
            have h3 : o3 = [] := by
              simpa using HCAP
            subst h3
            have z2 := (blk_cell HC5.out.blk 2).trans rfl
            have f2 := blk_frozen HC5.out.blk 2
            go_wp2_with fail
            refine (cloneS_calls W5 (some ⟨go, 0, none⟩) 0 [] ⟨rfl, by simp, fun h => absurd h (by simp)⟩ (by simp)).mono ?_
            rintro e W6 ⟨u, rfl, hu, hb⟩
            have HC6 := Aside0.mk (HC5.out.later hb)
            have HT6 := Aside0.mk (HT5.out.trans (Turn.of_below hb))
            have HU := Aside0.mk (Kd.R_lower hu (Nat.le_trans HS.out HT5.out.size))
            obtain ⟨Au, cu, rfl⟩ := Kd.R_slice hu
            clear hu hb HC5 HT5 z2 f2
            have z2 := (blk_cell HC6.out.blk 2).trans rfl
            have f2 := blk_frozen HC6.out.blk 2
            go_wp2_with fail
            go_roundg (gk - 1)
            case measure => omega
            case rel => exact ⟨_, _, _, ⟨CInv.setOrd HC6.out.blk HC6.out.map HU.out HC6.out.hC HC6.out.hM⟩, ⟨HT6.out.trans (Turn.of_cache (grownBy_set _ _ _ _))⟩, HCF2, ⟨fun k hk => HSZ.out k (List.mem_cons_of_mem _ hk)⟩, HLE, by simp at hgk ⊢; omega⟩
          · have h1c := eq_true (show 1 < cO by have := HRD.out.2.1; simp at this; omega)
            have z2 := (blk_cell HC5.out.blk 2).trans rfl
            have f2 := blk_frozen HC5.out.blk 2
            have hcap2 : ¬ (cO - 1 = 0) := by have := HRD.out.2.1; simp at this; omega
            go_wp2_with fail
            refine (cloneS_calls W5 (some ⟨go, 1, none⟩) (cO - 1) o3 (C_tail (Kd.R_reads' HC5.out.ord).2.2) (by have := HLE.out; omega)).mono ?_
            rintro e W6 ⟨u, rfl, hu, hb⟩
            have HC6 := Aside0.mk (HC5.out.later hb)
            have HT6 := Aside0.mk (HT5.out.trans (Turn.of_below hb))
            have HU := Aside0.mk (Kd.R_lower hu (Nat.le_trans HS.out HT5.out.size))
            obtain ⟨Au, cu, rfl⟩ := Kd.R_slice hu
            clear hu hb HC5 HT5 z2 f2
            have z2 := (blk_cell HC6.out.blk 2).trans rfl
            have f2 := blk_frozen HC6.out.blk 2
            go_wp2_with fail
            go_roundg (gk - 1)
            case measure => omega
            case rel => exact ⟨_, _, _, ⟨CInv.setOrd HC6.out.blk HC6.out.map HU.out HC6.out.hC HC6.out.hM⟩, ⟨HT6.out.trans (Turn.of_cache (grownBy_set _ _ _ _))⟩, HCF2, ⟨fun k hk => HSZ.out k (List.mem_cons_of_mem _ hk)⟩, HLE, by simp at hgk ⊢; omega⟩
      · have hgtb : decide ((o2.length : Int) > most) = false := decide_eq_false hgt
        have HRES := Aside0.mk (show fin = (m2, o2) by
          have h := HCF.out
          cases o2 with
          | nil => exact h.symm
          | cons k0 o3 => rw [cutF, if_neg hgt] at h; exact h.symm)
        go_wp2_with fail
        go_end0
        rw [HRES.out]
        exact ⟨rfl, ⟨_, HC3.out⟩, HT3.out⟩
  · have h0b : (most == 0) = false := beq_eq_false_iff_ne.2 h0
    have HCF := Aside0.mk (show cutF most m o = fin by rw [← HFN.out]; unfold cutAll; rw [if_neg h0])
    have HT2 := Aside0.mk (Turn.refl (base := base) (CB := CB) (MB := MB) W)
    clear h0
    go_enter Try.func23, Try.ntmps23
    go_wp2_with fail
    clear c0 c1
    go_loopg [14] 100001 (fun gk _ wr => ∃ (m2 : Lists) (o2 : List ByteArray) (v2 : Value), Aside0 (CInv ok base CB MB v2 most m2 o2 h nt wr) ∧ Aside0 (Turn base CB MB W wr) ∧ Aside0 (cutF most m2 o2 = fin) ∧ Aside0 (∀ k ∈ o2, k.size ≤ maxLen) ∧ Aside0 (o2.length ≤ 100000) ∧ o2.length < gk)
    case atStart => exact ⟨m, o, vO, HI, HT2, HCF, HSZ, HLN, by have := HLN.out; omega⟩
    case round =>
      clear HT2 HCF HSZ HLN
      obtain ⟨m2, o2, v2, HC, HT, HCF, HSZ, HLN, hgk⟩ := hrel
      obtain ⟨AO, cO, rfl⟩ := Kd.R_slice HC.out.ord
      go_upto_region 3 with fail
      have HC3 := Aside0.mk (HC.out.later (below_drew (Below.refl _ _)))
      have HT3 := Aside0.mk (HT.out.trans (Turn.of_below (below_drew (Below.refl _ _))))
      clear HC HT
      refine wp_region_noPanic ?_
      refine start_ (n := 10) (S := fun w' => w'.cell? ⟨CB, 0, none⟩ = some (.int .i64 most) ∧ w'.cell? ⟨CB, 2, none⟩ = some (.slice AO o2.length cO)) (ds := []) #[false, false, false, false, false, false, false, false, false, false] (by kernel_rfl) rfl rfl ⟨(blk_cell HC3.out.blk 0).trans rfl, (blk_cell HC3.out.blk 2).trans rfl⟩ (fun hHeld => ?_); refine with_tabW cut_tab3 cut_bits3 (fun HT_ HW_ => ?_)
      generalize wr.drew = W3 at *
      refine pure_ (i := 0) (N := some 14) (v := ?_) (a' := ?_) #[true, false, false, false, false, false, false, false, false, false] rfl rfl (any_of HT_.out (by kernel_rfl)) (fun _ _ _ h => h) (Or.inl ⟨by rfl, ?_⟩) ?_ ?_
      rotate_left
      · intro w'
        go_simp
        with_reducible rfl
      rotate_left
      · simp only [Act.put, List.setIfInBounds_toArray, List.set_cons_zero, List.set_cons_succ, i64_w, i32_w]
        rfl
      refine pure_ (i := 1) (N := some 15) (v := ?_) (a' := ?_) #[true, true, false, false, false, false, false, false, false, false] rfl rfl (any_of HT_.out (by kernel_rfl)) (fun _ _ _ h => h) (Or.inl ⟨by rfl, ?_⟩) ?_ ?_
      rotate_left
      · intro w'
        go_simp
        with_reducible rfl
      rotate_left
      · simp only [Act.put, List.setIfInBounds_toArray, List.set_cons_zero, List.set_cons_succ, i64_w, i32_w]
        rfl
      refine pure_ (i := 2) (N := some 16) (v := ?_) (a' := ?_) #[true, true, true, false, false, false, false, false, false, false] rfl rfl (any_of HT_.out (by kernel_rfl)) (fun _ _ _ h => h) (Or.inl ⟨by rfl, ?_⟩) ?_ ?_
      rotate_left
      · intro w'
        go_simp
        with_reducible rfl
      rotate_left
      · simp only [Act.put, List.setIfInBounds_toArray, List.set_cons_zero, List.set_cons_succ, i64_w, i32_w]
        rfl
      refine take_ (i := 3) (N := some 17) (v := ?_) (a' := ?_) #[true, true, true, true, false, false, false, false, false, false] rfl rfl (take_ofW HT_.out HW_.out (by kernel_rfl)) (fun _ _ _ h => h) (Or.inl ⟨by rfl, ?_⟩) hHeld ?_ ?_
      rotate_left
      · rintro w' ⟨s0, s1⟩
        go_simp
        with_reducible rfl
      rotate_left
      · simp only [Act.put, List.setIfInBounds_toArray, List.set_cons_zero, List.set_cons_succ, i64_w, i32_w]
        rfl
      refine pure_ (i := 4) (N := some 18) (v := ?_) (a' := ?_) #[true, true, true, true, true, false, false, false, false, false] rfl rfl (any_of HT_.out (by kernel_rfl)) (fun _ _ _ h => h) (Or.inl ⟨by rfl, ?_⟩) ?_ ?_
      rotate_left
      · intro w'
        go_simp
        with_reducible rfl
      rotate_left
      · simp only [Act.put, List.setIfInBounds_toArray, List.set_cons_zero, List.set_cons_succ, i64_w, i32_w]
        rfl
      refine pure_ (i := 5) (N := some 19) (v := ?_) (a' := ?_) #[true, true, true, true, true, true, false, false, false, false] rfl rfl (any_of HT_.out (by kernel_rfl)) (fun _ _ _ h => h) (Or.inl ⟨by rfl, ?_⟩) ?_ ?_
      rotate_left
      · intro w'
        go_simp
        with_reducible rfl
      rotate_left
      · simp only [Act.put, List.setIfInBounds_toArray, List.set_cons_zero, List.set_cons_succ, i64_w, i32_w]
        rfl
      refine pure_ (i := 6) (N := some 20) (v := ?_) (a' := ?_) #[true, true, true, true, true, true, true, false, false, false] rfl rfl (any_of HT_.out (by kernel_rfl)) (fun _ _ _ h => h) (Or.inl ⟨by rfl, ?_⟩) ?_ ?_
      rotate_left
      · intro w'
        go_simp
        with_reducible rfl
      rotate_left
      · simp only [Act.put, List.setIfInBounds_toArray, List.set_cons_zero, List.set_cons_succ, i64_w, i32_w]
        rfl
      refine pure_ (i := 7) (N := some 21) (v := ?_) (a' := ?_) #[true, true, true, true, true, true, true, true, false, false] rfl rfl (any_of HT_.out (by kernel_rfl)) (fun _ _ _ h => h) (Or.inl ⟨by rfl, ?_⟩) ?_ ?_
      rotate_left
      · intro w'
        go_simp
        with_reducible rfl
      rotate_left
      · simp only [Act.put, List.setIfInBounds_toArray, List.set_cons_zero, List.set_cons_succ, i64_w, i32_w]
        rfl
      refine take_ (i := 8) (N := some 22) (v := ?_) (a' := ?_) #[true, true, true, true, true, true, true, true, true, false] rfl rfl (take_ofW HT_.out HW_.out (by kernel_rfl)) (fun _ _ _ h => h) (Or.inl ⟨by rfl, ?_⟩) hHeld ?_ ?_
      rotate_left
      · rintro w' ⟨s0, s1⟩
        go_simp
        with_reducible rfl
      rotate_left
      · simp only [Act.put, List.setIfInBounds_toArray, List.set_cons_zero, List.set_cons_succ, i64_w, i32_w]
        rfl
      refine pure_ (i := 9) (N := some 23) (v := ?_) (a' := ?_) #[true, true, true, true, true, true, true, true, true, true] rfl rfl (any_of HT_.out (by kernel_rfl)) (fun _ _ _ h => h) (Or.inl ⟨by rfl, ?_⟩) ?_ ?_
      rotate_left
      · intro w'
        go_simp
        with_reducible rfl
      rotate_left
      · simp only [Act.put, List.setIfInBounds_toArray, List.set_cons_zero, List.set_cons_succ, i64_w, i32_w]
        rfl
      refine done_ (done_of HT_.out (by kernel_rfl)) ?_
      refine NoPanic.normal ?_
      clear HT_ HW_ hHeld
      by_cases hgt : (o2.length : Int) > most
      · have hgtb : decide ((o2.length : Int) > most) = true := decide_eq_true hgt
        cases o2 with
        | nil => have := HMO.out; simp at hgt; omega
        | cons k0 o3 =>
          have HCF2 := Aside0.mk (show cutF most (setL m2 k0 none) o3 = fin by have h := HCF.out; rw [cutF, if_pos hgt] at h; exact h)
          obtain ⟨go, cap, e0, _, _, _⟩ := Kd.R_form HC3.out.ord (by simp)
          injection e0 with e1 _ e3
          subst e1
          subst e3
          have HKS := Aside0.mk (HSZ.out k0 (List.mem_cons_self ..))
          have HRD := Aside0.mk (Kd.R_reads' HC3.out.ord)
          have hkc : W3.cell? ⟨go, 0, none⟩ = some (.string k0) := (Kd.R_celln ByteArray.empty HC3.out.ord 0 (by omega) (by simp)).1
          have gl := eq_true (show 0 < (k0 :: o3).length by simp)
          go_upto_region 4 with fail
          have HC4 := Aside0.mk (HC3.out.later (below_drew (Below.refl _ _)))
          have HK4 := Aside0.mk (show W3.drew.cell? ⟨go, 0, none⟩ = some (.string k0) from hkc)
          have HT4 := Aside0.mk (HT3.out.trans (Turn.of_below (below_drew (Below.refl _ _))))
          clear HC3 HT3 hkc
          refine wp_region_noPanic ?_
          refine start_ (n := 11) (S := fun w' => w'.cell? ⟨CB, 1, none⟩ = some (.map (some MB)) ∧ w'.cell? ⟨CB, 2, none⟩ = some (.slice (some ⟨go, 0, none⟩) (k0 :: o3).length cO) ∧ w'.cell? ⟨go, 0, none⟩ = some (.string k0)) (ds := [10]) #[false, false, false, false, false, false, false, false, false, false, false] (by kernel_rfl) rfl rfl ⟨(blk_cell HC4.out.blk 1).trans rfl, (blk_cell HC4.out.blk 2).trans rfl, HK4.out⟩ (fun hHeld => ?_); refine with_tabW cut_tab4 cut_bits4 (fun HT_ HW_ => ?_)
          generalize W3.drew = W4 at *
          refine pure_ (i := 0) (N := some 24) (v := ?_) (a' := ?_) #[true, false, false, false, false, false, false, false, false, false, false] rfl rfl (any_of HT_.out (by kernel_rfl)) (fun _ _ _ h => h) (Or.inl ⟨by rfl, ?_⟩) ?_ ?_
          rotate_left
          · intro w'
            go_simp
            with_reducible rfl
          rotate_left
          · simp only [Act.put, List.setIfInBounds_toArray, List.set_cons_zero, List.set_cons_succ, i64_w, i32_w]
            rfl
          refine pure_ (i := 1) (N := some 25) (v := ?_) (a' := ?_) #[true, true, false, false, false, false, false, false, false, false, false] rfl rfl (any_of HT_.out (by kernel_rfl)) (fun _ _ _ h => h) (Or.inl ⟨by rfl, ?_⟩) ?_ ?_
          rotate_left
          · intro w'
            go_simp
            with_reducible rfl
          rotate_left
          · simp only [Act.put, List.setIfInBounds_toArray, List.set_cons_zero, List.set_cons_succ, i64_w, i32_w]
            rfl
          refine pure_ (i := 2) (N := some 26) (v := ?_) (a' := ?_) #[true, true, true, false, false, false, false, false, false, false, false] rfl rfl (any_of HT_.out (by kernel_rfl)) (fun _ _ _ h => h) (Or.inl ⟨by rfl, ?_⟩) ?_ ?_
          rotate_left
          · intro w'
            go_simp
            with_reducible rfl
          rotate_left
          · simp only [Act.put, List.setIfInBounds_toArray, List.set_cons_zero, List.set_cons_succ, i64_w, i32_w]
            rfl
          refine take_ (i := 3) (N := some 27) (v := ?_) (a' := ?_) #[true, true, true, true, false, false, false, false, false, false, false] rfl rfl (take_ofW HT_.out HW_.out (by kernel_rfl)) (fun _ _ _ h => h) (Or.inl ⟨by rfl, ?_⟩) hHeld ?_ ?_
          rotate_left
          · rintro w' ⟨s0, s1, s2⟩
            go_simp
            with_reducible rfl
          rotate_left
          · simp only [Act.put, List.setIfInBounds_toArray, List.set_cons_zero, List.set_cons_succ, i64_w, i32_w]
            rfl
          refine pure_ (i := 4) (N := some 28) (v := ?_) (a' := ?_) #[true, true, true, true, true, false, false, false, false, false, false] rfl rfl (any_of HT_.out (by kernel_rfl)) (fun _ _ _ h => h) (Or.inl ⟨by rfl, ?_⟩) ?_ ?_
          rotate_left
          · intro w'
            go_simp
            with_reducible rfl
          rotate_left
          · simp only [Act.put, List.setIfInBounds_toArray, List.set_cons_zero, List.set_cons_succ, i64_w, i32_w]
            rfl
          refine pure_ (i := 5) (N := some 29) (v := ?_) (a' := ?_) #[true, true, true, true, true, true, false, false, false, false, false] rfl rfl (any_of HT_.out (by kernel_rfl)) (fun _ _ _ h => h) (Or.inl ⟨by rfl, ?_⟩) ?_ ?_
          rotate_left
          · intro w'
            go_simp
            with_reducible rfl
          rotate_left
          · simp only [Act.put, List.setIfInBounds_toArray, List.set_cons_zero, List.set_cons_succ, i64_w, i32_w]
            rfl
          refine pure_ (i := 6) (N := some 30) (v := ?_) (a' := ?_) #[true, true, true, true, true, true, true, false, false, false, false] rfl rfl (any_of HT_.out (by kernel_rfl)) (fun _ _ _ h => h) (Or.inl ⟨by rfl, ?_⟩) ?_ ?_
          rotate_left
          · intro w'
            go_simp
            with_reducible rfl
          rotate_left
          · simp only [Act.put, List.setIfInBounds_toArray, List.set_cons_zero, List.set_cons_succ, i64_w, i32_w]
            rfl
          refine take_ (i := 7) (N := some 31) (v := ?_) (a' := ?_) #[true, true, true, true, true, true, true, true, false, false, false] rfl rfl (take_ofW HT_.out HW_.out (by kernel_rfl)) (fun _ _ _ h => h) (Or.inl ⟨by rfl, ?_⟩) hHeld ?_ ?_
          rotate_left
          · rintro w' ⟨s0, s1, s2⟩
            go_simp
            with_reducible rfl
          rotate_left
          · simp only [Act.put, List.setIfInBounds_toArray, List.set_cons_zero, List.set_cons_succ, i64_w, i32_w]
            rfl
          refine pure_ (i := 8) (N := some 32) (v := ?_) (a' := ?_) #[true, true, true, true, true, true, true, true, true, false, false] rfl rfl (any_of HT_.out (by kernel_rfl)) (fun _ _ _ h => h) (Or.inl ⟨by rfl, ?_⟩) ?_ ?_
          rotate_left
          · intro w'
            go_simp
            with_reducible rfl
          rotate_left
          · simp only [Act.put, List.setIfInBounds_toArray, List.set_cons_zero, List.set_cons_succ, i64_w, i32_w]
            rfl
          refine take_ (i := 9) (N := some 33) (v := ?_) (a' := ?_) #[true, true, true, true, true, true, true, true, true, true, false] rfl rfl (take_ofW HT_.out HW_.out (by kernel_rfl)) (fun _ _ _ h => h) (Or.inl ⟨by rfl, ?_⟩) hHeld ?_ ?_
          rotate_left
          · rintro w' ⟨s0, s1, s2⟩
            go_simp
            with_reducible rfl
          rotate_left
          · simp only [Act.put, List.setIfInBounds_toArray, List.set_cons_zero, List.set_cons_succ, i64_w, i32_w]
            rfl
          obtain ⟨W5, hdel, hi5, ht5⟩ := HC4.out.delete HKS.out 0
          refine last_ (i := 10) (N := none) #[true, true, true, true, true, true, true, true, true, true, true] rfl rfl (one_of HT_.out (by kernel_rfl)) (by decide) (fun K hK => ?_)
          refine step_list rfl (by rfl) ?_
          unfold Oper.wp
          go_simp
          refine hK.out _ _ ?_
          clear hK K hdel
          refine done_ (done_of HT_.out (by kernel_rfl)) ?_
          refine NoPanic.normal ?_
          clear HT_ HW_ hHeld
          have HT5 := Aside0.mk (HT4.out.trans ht5)
          have HC5 := Aside0.mk hi5
          clear hi5 ht5 HC4 HT4 HK4
          have HLE := Aside0.mk (show o3.length ≤ 100000 by have := HLN.out; simp at this; omega)
          have HCAP := HRD.out.2.1
          by_cases hcap : cO = 1
          · subst hcap
            have h3 : o3 = [] := by
              simpa using HCAP
            subst h3
            have z2 := (blk_cell HC5.out.blk 2).trans rfl
            have f2 := blk_frozen HC5.out.blk 2
            go_wp2_with fail
            refine (cloneS_calls W5 (some ⟨go, 0, none⟩) 0 [] ⟨rfl, by simp, fun h => absurd h (by simp)⟩ (by simp)).mono ?_
            rintro e W6 ⟨u, rfl, hu, hb⟩
            have HC6 := Aside0.mk (HC5.out.later hb)
            have HT6 := Aside0.mk (HT5.out.trans (Turn.of_below hb))
            have HU := Aside0.mk (Kd.R_lower hu (Nat.le_trans HS.out HT5.out.size))
            obtain ⟨Au, cu, rfl⟩ := Kd.R_slice hu
            clear hu hb HC5 HT5 z2 f2
            have z2 := (blk_cell HC6.out.blk 2).trans rfl
            have f2 := blk_frozen HC6.out.blk 2
            go_wp2_with fail
            go_roundg (gk - 1)
            case measure => omega
            case rel => exact ⟨_, _, _, ⟨CInv.setOrd HC6.out.blk HC6.out.map HU.out HC6.out.hC HC6.out.hM⟩, ⟨HT6.out.trans (Turn.of_cache (grownBy_set _ _ _ _))⟩, HCF2, ⟨fun k hk => HSZ.out k (List.mem_cons_of_mem _ hk)⟩, HLE, by simp at hgk ⊢; omega⟩
          · have h1c := eq_true (show 1 < cO by have := HRD.out.2.1; simp at this; omega)
            have z2 := (blk_cell HC5.out.blk 2).trans rfl
            have f2 := blk_frozen HC5.out.blk 2
            have hcap2 : ¬ (cO - 1 = 0) := by have := HRD.out.2.1; simp at this; omega
            go_wp2_with fail
            refine (cloneS_calls W5 (some ⟨go, 1, none⟩) (cO - 1) o3 (C_tail (Kd.R_reads' HC5.out.ord).2.2) (by have := HLE.out; omega)).mono ?_
            rintro e W6 ⟨u, rfl, hu, hb⟩
            have HC6 := Aside0.mk (HC5.out.later hb)
            have HT6 := Aside0.mk (HT5.out.trans (Turn.of_below hb))
            have HU := Aside0.mk (Kd.R_lower hu (Nat.le_trans HS.out HT5.out.size))
            obtain ⟨Au, cu, rfl⟩ := Kd.R_slice hu
            clear hu hb HC5 HT5 z2 f2
            have z2 := (blk_cell HC6.out.blk 2).trans rfl
            have f2 := blk_frozen HC6.out.blk 2
            go_wp2_with fail
            go_roundg (gk - 1)
            case measure => omega
            case rel => exact ⟨_, _, _, ⟨CInv.setOrd HC6.out.blk HC6.out.map HU.out HC6.out.hC HC6.out.hM⟩, ⟨HT6.out.trans (Turn.of_cache (grownBy_set _ _ _ _))⟩, HCF2, ⟨fun k hk => HSZ.out k (List.mem_cons_of_mem _ hk)⟩, HLE, by simp at hgk ⊢; omega⟩
      · have hgtb : decide ((o2.length : Int) > most) = false := decide_eq_false hgt
        have HRES := Aside0.mk (show fin = (m2, o2) by
          have h := HCF.out
          cases o2 with
          | nil => exact h.symm
          | cons k0 o3 => rw [cutF, if_neg hgt] at h; exact h.symm)
        go_wp2_with fail
        go_end0
        rw [HRES.out]
        exact ⟨rfl, ⟨_, HC3.out⟩, HT3.out⟩
end Go.Proofs.Ytjpbcmfppmiagaa.Print
