/- For all keys: they stand in a cache as they were put in, or got, last (the law's walk). -/
import Derived.Test.YtjpbcmfppmiagaaOrd
namespace Go.Proofs.Ytjpbcmfppmiagaa.Print
open Go.RowKit Go.Maps Go.Proofs.YtjpbcmfppmiagaaW.PrintWords Go.Proofs.YtjpbcmfppmiagaaW.PrintLast Go.Proofs.YtjpbcmfppmiagaaW.PrintMore
set_option linter.unusedVariables false
set_option linter.unusedSimpArgs false

def order_T21 : Bool × List (List Nat × List Nat) := (true, [([], []), ([0], [0]), ([1], [1]), ([2], [2]), ([3, 2], [2, 3]), ([4, 2, 2], [2, 4]), ([5], [5]), ([5], [5]), ([5], [5]), ([7, 8, 5], [5, 7, 8]), ([9, 5], [5, 9]), ([6, 10, 5], [5, 6, 10]), ([5], [5]), ([5], [5]), ([5], [5]), ([14, 5], [5, 14]), ([13, 15, 5], [5, 13, 15]), ([16, 5], [5, 16]), ([12, 17, 5], [5, 12, 17]), ([11, 18, 5], [5, 11, 18]), ([5, 19, 2], [2, 5, 19]), ([2, 20], [2, 20])])
def order_B21 : List Nat := [0, 1, 3, 7, 15, 31, 63, 63, 63, 447, 959, 2047, 63, 63, 63, 16447, 57407, 122943, 258111, 524287, 1048575, 2097151]
theorem order_tab21 : rtab .any (opsOf Try.f5 21) = order_T21 := by kernel_rfl
theorem order_bits21 : waitsOk order_T21.2 order_B21 = true := by kernel_rfl
theorem map_cell {W : World} {B : Nat} {g : ByteArray → Option Value} {p : Addr} {u : Value} (hG : MapG W B g) (h : W.cell? p = some u) (e : some p.block = some B) : False := by
  obtain ⟨es, c, f, h1, _⟩ := hG
  injection e with e
  unfold World.cell? at h
  rw [e, h1] at h
  simp at h
theorem C_grown {W W' : World} {A : Option Addr} {xs : List ByteArray} {B : Nat} {g : ByteArray → Option Value} (h : Kd.C Kd.string W A xs.length xs) (hG : MapG W B g) (hg : W.grownBy W' (some B)) : Kd.C Kd.string W' A xs.length xs :=
  ⟨h.1, h.2.1, fun hn => by
    obtain ⟨ad, e, hc⟩ := h.2.2 hn
    refine ⟨ad, e, fun j p hj => ?_⟩
    obtain ⟨c, hs, hr, hcell⟩ := hc j p hj
    exact ⟨c, hs, hr, fun i u hu => (hg.cell (hcell i u hu) (fun e => map_cell hG (hcell i u hu) e))⟩⟩
theorem zero3 (w : World) : (zeroValue 3).run Try.prog w = .ok (.int .i64 0) w := by kernel_rfl
set_option maxHeartbeats 16000000 in
set_option maxRecDepth 100000 in
theorem order_calls (A : Option Addr) (c : Nat) (l : List ByteArray) (W : World) (hr : Kd.C Kd.string W A l.length l) (hc : l.length ≤ c) (hs : ∀ k ∈ l, k.size ≤ maxLen) :
    Calls Try.prog 5 #[.slice A l.length c] W fun e w' => e = .returned (.bool true) ∧ Below W.heap.size W w' := by
  have HR := Aside0.mk hr
  have HC := Aside0.mk hc
  have HS := Aside0.mk hs
  clear hr hc hs
  go_enter Try.func5, Try.ntmps5
  go_wp2_with fail
  refine (awake_calls _).mono ?_
  rintro e W1 ⟨rfl, hb⟩
  have HB1 := Aside0.mk hb
  clear hb
  have hmm := @run_makeMap Try.prog
  go_wp2_with fail
  refine (new_good (fun _ => True) 1000 W1 W.heap.size HB1.out.size rfl).mono ?_
  rintro e W2 ⟨CB, MB, rfl, hi, hb, hC, hM⟩
  have HI2 := Aside0.mk hi
  have HB2 := Aside0.mk (below_step HB1.out hb)
  clear hi hb hC hM HB1
  by_cases h5 : (l.length : Int) > 200
  · have h5b : decide ((l.length : Int) > 200) = true := decide_eq_true h5
    go_wp2_with fail
    go_ret
    exact ⟨rfl, HB2.out⟩
  have h5b : decide ((l.length : Int) > 200) = false := decide_eq_false h5
  have HL := Aside0.mk (show l.length ≤ 200 by omega)
  clear h5
  go_wp2_with fail
  have HXC := Aside0.mk (fun (w' : World) (hb : Below W.heap.size W w') (i : Nat) (hlt : i < l.length) => (Kd.at_string (Kd.C_below HR.out hb) (i : Int) (by omega) (by omega)))
  go_loopg [6] l.length (fun gg s6 wr => ∃ (i hn : Nat) (m : Lists) (o : List ByteArray) (vO : Value), s6 = .int .i64 i ∧ i ≤ l.length ∧ l.length - i ≤ gg ∧ Aside0 (Ord l i m o) ∧ Aside0 (hn + o.length = i) ∧ Aside0 (∀ k ∈ o, k.size ≤ maxLen) ∧ Aside0 (CInv (fun _ => True) W.heap.size CB MB vO 1000 m o hn o.length wr) ∧ Aside0 (Below W.heap.size W wr))
  case atStart => exact ⟨0, 0, noLists, [], _, rfl, by omega, by omega, Aside0.mk (Ord.start l), Aside0.mk rfl, Aside0.mk (by simp), HI2, HB2⟩
  case round =>
    clear HI2 HB2
    obtain ⟨i, hn, m, o, vO, rfl, hi, hg, HOR, HSUM, HSZ, HI, HB⟩ := hrel
    have HOL := Aside0.mk (show o.length ≤ 200 by have := HOR.out.len; have := HL.out; omega)
    by_cases hlt : i < l.length
    · have hltz : (i : Int) < (l.length : Int) := by omega
      obtain ⟨ad, e1, hx0⟩ := HXC.out wr HB.out i hlt
      subst e1
      rw [Int.toNat_natCast] at hx0
      have HLT := Aside0.mk hlt
      have HXS := Aside0.mk (rd_size HS.out hlt)
      obtain ⟨x, hx⟩ : ∃ x, rdOf ByteArray.empty l (i : Int) = x := ⟨_, rfl⟩
      have HX := Aside0.mk hx
      rw [hx] at hx0 HXS
      clear hx
      by_cases hm : x ∈ o
      · have HM := Aside0.mk hm
        obtain ⟨v, hv⟩ : ∃ v, m x = some v := by
          cases q : m x with
          | some v => exact ⟨v, rfl⟩
          | none => exact absurd hm ((HOR.out.is x).1 q)
        have HV := Aside0.mk hv
        clear hm hv
        go_wp2_with fail
        refine (hit_calls (fun _ => True) W.heap.size CB MB vO 1000 m o hn o.length wr x v HI.out HB.out.size (by have := HOL.out; omega) HXS.out HV.out (by have := HOR.out.one x v HV.out; omega)).mono ?_
        rintro e W6 ⟨u, rfl, ⟨v6, hi6⟩, ht6, hu⟩
        obtain ⟨Au, cu, rfl⟩ := Kd.R_slice hu
        have HOR6 := Aside0.mk (HOR.out.hit HX.out HM.out)
        have HSZ6 := Aside0.mk (notKey_size HXS.out HSZ.out)
        have HB6 := Aside0.mk (HB.out.trans (ht6.below HI.out.hC HI.out.hM HB.out.size))
        rw [wrap_succ (by have := HSUM.out; have := HL.out; omega), ← moved_len HOR.out.nod HM.out] at hi6
        have HI6 := Aside0.mk hi6
        have HSUM6 := Aside0.mk (show hn + 1 + (notKey x o ++ [x]).length = i + 1 by rw [moved_len HOR.out.nod HM.out]; have := HSUM.out; omega)
        clear hi6 ht6 hu HI HB HOR HSUM HSZ HOL HV HM
        go_wp2_with fail
        go_roundg (l.length - (i + 1))
        case measure => omega
        case rel => exact ⟨i + 1, hn + 1, m, _, v6, by have := HL.out; rw [wrap_succ (by omega)], by omega, by omega, HOR6, HSUM6, HSZ6, HI6, HB6⟩
      · have HM := Aside0.mk hm
        have HV := Aside0.mk ((HOR.out.is x).2 hm)
        clear hm
        go_wp2_with fail
        refine (miss_calls (fun _ => True) W.heap.size CB MB vO 1000 m o hn o.length wr x HI.out HXS.out HV.out).mono ?_
        rintro e W5 ⟨rfl, hi5, ht5⟩
        have HB5 := Aside0.mk (HB.out.trans (ht5.below HI.out.hC HI.out.hM HB.out.size))
        rw [wrap_succ (by have := HOL.out; omega)] at hi5
        have HI5 := Aside0.mk hi5
        clear hi5 ht5 HI HB
        obtain ⟨ad', e2, hx5⟩ := HXC.out W5 HB5.out i HLT.out
        obtain rfl : ad = ad' := Option.some.inj e2
        rw [Int.toNat_natCast, HX.out] at hx5
        clear e2
        go_wp2_with fail
        clear hx5
        have HR5 := Aside0.mk (R_one (W := W5) (base := W.heap.size) (i : Int) HB5.out.size)
        have HI6 := Aside0.mk (HI5.out.later (below_alloc (Below.refl _ _) (.cells #[.int .i64 i] 3)))
        have HB6 := Aside0.mk (below_alloc HB5.out (.cells #[.int .i64 i] 3))
        clear HI5 HB5
        generalize W5.alloc (.cells #[.int .i64 i] 3) = W6 at *
        refine (put_calls (fun _ => True) W.heap.size CB MB vO 1000 m o hn _ W6 x _ _ [(i : Int)] HI6.out HB6.out.size (by have := HOL.out; omega) HSZ.out (by omega) HXS.out (Kd.R_reads' HR5.out).2.2 (fun _ _ => trivial) (by simp)).mono ?_
        rintro e W7 ⟨rfl, v7, hi7, ht7⟩
        rw [cutAll_id _ (by omega) (by rw [new_len HM.out]; have := HOL.out; omega), ← new_len HM.out] at hi7
        have HOR7 := Aside0.mk (HOR.out.put HX.out HM.out (v := [(i : Int)]) (by simp))
        have HSZ7 := Aside0.mk (notKey_size HXS.out HSZ.out)
        have HB7 := Aside0.mk (HB6.out.trans (ht7.below HI6.out.hC HI6.out.hM HB6.out.size))
        have HI7 := Aside0.mk hi7
        have HSUM7 := Aside0.mk (show hn + (notKey x o ++ [x]).length = i + 1 by rw [new_len HM.out]; have := HSUM.out; omega)
        clear hi7 ht7 HI6 HB6 HOR HSUM HSZ HOL HV HM HR5
        go_wp2_with fail
        go_roundg (l.length - (i + 1))
        case measure => omega
        case rel => exact ⟨i + 1, hn, _, _, v7, by have := HL.out; rw [wrap_succ (by omega)], by omega, by omega, HOR7, HSUM7, HSZ7, HI7, HB7⟩
    · obtain rfl : i = l.length := by omega
      have hltz : ¬ (l.length : Int) < (l.length : Int) := by omega
      go_wp2_with fail
      clear hltz hlt
      refine (keys_calls (fun _ => True) W.heap.size CB MB vO 1000 m o hn o.length wr HI.out (by have := HOL.out; omega)).mono ?_
      rintro e W5 ⟨u, rfl, hu, hb⟩
      obtain ⟨AK, cK, rfl⟩ := Kd.R_slice hu
      have HK5 := Aside0.mk (Kd.R_reads' hu).2.2
      have HI5 := Aside0.mk (HI.out.later hb)
      have HB5 := Aside0.mk (below_step HB.out hb)
      clear hu hb HI HB
      go_wp2_with fail
      have HI6 := Aside0.mk (HI5.out.later (below_alloc (Below.refl _ _) (.map #[] 0)))
      have HB6 := Aside0.mk (below_alloc HB5.out (.map #[] 0))
      have HK6 := Aside0.mk (show Kd.C Kd.string (W5.alloc (.map #[] 0)) AK o.length o from Kd.C_below HK5.out (below_alloc (Below.refl _ _) _))
      have HG6 := Aside0.mk (show MapG (W5.alloc (.map #[] 0)) W5.heap.size (lastV l 0) by rw [lastV_zero]; exact MapG.made W5)
      have HNE := Aside0.mk (show W5.heap.size ≠ MB from fun e => by have := HI5.out.map.lt; omega)
      have HOB := Aside0.mk HB5.out.size
      clear HI5 HB5 HK5
      obtain ⟨OB, hOB⟩ : ∃ n, W5.heap.size = n := ⟨_, rfl⟩
      rw [hOB] at HG6 HNE HOB ⊢
      clear hOB
      generalize W5.alloc (.map #[] 0) = W6 at *
      clear hmm
      go_loopg [11] l.length (fun gg s11 wr => ∃ (i : Nat), s11 = .int .i64 i ∧ i ≤ l.length ∧ l.length - i ≤ gg ∧ Aside0 (CInv (fun _ => True) W.heap.size CB MB vO 1000 m o hn o.length wr) ∧ Aside0 (MapG wr OB (lastV l i)) ∧ Aside0 (Below W.heap.size W wr) ∧ Aside0 (Kd.C Kd.string wr AK o.length o))
      case atStart => exact ⟨0, rfl, by omega, by omega, HI6, HG6, HB6, HK6⟩
      case round =>
        clear HI6 HG6 HB6 HK6
        obtain ⟨i, rfl, hi, hg, HI, HG, HB, HK⟩ := hrel
        by_cases hlt : i < l.length
        · have hltz : (i : Int) < (l.length : Int) := by omega
          obtain ⟨ad, e1, hx0⟩ := HXC.out wr HB.out i hlt
          subst e1
          rw [Int.toNat_natCast] at hx0
          have HXS := Aside0.mk (rd_size HS.out hlt)
          obtain ⟨x, hx⟩ : ∃ x, rdOf ByteArray.empty l (i : Int) = x := ⟨_, rfl⟩
          have HX := Aside0.mk hx
          rw [hx] at hx0 HXS
          clear hx
          obtain ⟨W7, hput, hg7, hgr7⟩ := HG.out.putT Try.underlying37 HXS.out (.int .i64 i)
          rw [lastV_add l i HX.out] at hg7
          have HI7 := Aside0.mk (HI.out.other HG.out HNE.out hgr7)
          have HG7 := Aside0.mk hg7
          have HB7 := Aside0.mk (HB.out.grown hgr7 HB.out.size (fun k hk => by obtain rfl := Option.some.inj hk; exact HOB.out))
          have HK7 := Aside0.mk (C_grown HK.out HG.out hgr7)
          clear hg7 hgr7 HI HG HB HK
          go_wp2_with fail
          go_roundg (l.length - (i + 1))
          case measure => omega
          case rel => exact ⟨i + 1, by have := HL.out; rw [wrap_succ (by omega)], by omega, by omega, HI7, HG7, HB7, HK7⟩
        · obtain rfl : i = l.length := by omega
          have hltz : ¬ (l.length : Int) < (l.length : Int) := by omega
          clear hltz hlt hg hi
          go_wp2_with fail
          go_loopg [12] o.length (fun gg s12 wr => ∃ (j : Nat), s12 = .int .i64 j ∧ j ≤ o.length ∧ o.length - j ≤ gg ∧ Aside0 (CInv (fun _ => True) W.heap.size CB MB vO 1000 m o hn o.length wr) ∧ Aside0 (MapG wr OB (lastV l l.length)) ∧ Aside0 (Below W.heap.size W wr) ∧ Aside0 (Kd.C Kd.string wr AK o.length o))
          case atStart => exact ⟨0, rfl, by omega, by omega, HI, HG, HB, HK⟩
          case round =>
            clear HI HG HB HK
            obtain ⟨j, rfl, hj, hgj, HI, HG, HB, HK⟩ := hrel
            by_cases hltj : j < o.length
            · have hltjz : (j : Int) < (o.length : Int) := by omega
              obtain ⟨ad, e1, hx0⟩ := Kd.at_string HK.out (j : Int) (by omega) hltjz
              subst e1
              rw [Int.toNat_natCast] at hx0
              obtain ⟨p, hp, hpl⟩ := HOR.out.at_ hltj
              have HXS := Aside0.mk (rd_size HSZ.out hltj)
              obtain ⟨x, hx⟩ : ∃ x, rdOf ByteArray.empty o (j : Int) = x := ⟨_, rfl⟩
              have HX := Aside0.mk hx
              rw [hx] at hx0 HXS hp
              clear hx
              obtain ⟨hl1, hl2⟩ := HG.out.hitT Try.underlying37 HXS.out (v := .int .i64 p) (by unfold lastV; rw [hp]; rfl)
              have HL2 := Aside0.mk hl2
              clear hl2
              go_upto_region 21 with fail
              have HI1 := Aside0.mk (HI.out.later (below_drew (Below.refl _ _)))
              have HG1 := Aside0.mk (HG.out.move (W' := wr.drew) rfl)
              have HB1 := Aside0.mk (below_step HB.out (below_drew (Below.refl _ _)))
              have HK1 := Aside0.mk (Kd.C_below HK.out (below_drew (Below.refl _ _)))
              have HX1 := Aside0.mk (show wr.drew.cell? (ad.add j) = some (.string x) from hx0)
              have HL1 := Aside0.mk (HG1.out.hitT Try.underlying37 HXS.out (v := .int .i64 p) (by unfold lastV; rw [hp]; rfl)).2
              have HLT := Aside0.mk hltj
              clear hl1 hx0 HL2 HI HG HB HK
              rcases Nat.eq_zero_or_pos j with h0 | h0
              · have hd0 : (0 < j) = False := eq_false (by omega)
                clear h0
                refine wp_region_noPanic ?_
                refine start_ (n := 22) (S := fun w' => w'.cell? (ad.add j) = some (.string x) ∧ w'.cell? (ad.add j) = some (.string x) ∧ (Instr.lookup 37 (.map (some OB)) (.string x) false).run Try.prog w' = .ok (.int .i64 p) w' ∧ (Instr.lookup 37 (.map (some OB)) (.string x) false).run Try.prog w' = .ok (.int .i64 p) w') (ds := []) #[false, false, false, false, false, false, false, false, false, false, false, false, false, false, false, false, false, false, false, false, false, false] (by kernel_rfl) rfl rfl ⟨HX1.out, HX1.out, HL1.out, HL1.out⟩ (fun hHeld => ?_); refine with_tabW order_tab21 order_bits21 (fun HT_ HW_ => ?_)
                obtain ⟨W1, hW1⟩ : ∃ w, wr.drew = w := ⟨_, rfl⟩
                rw [hW1] at HI1 HG1 HB1 HK1 hHeld ⊢
                clear hW1
                refine pure_ (i := 0) (N := some 97) (v := ?_) (a' := ?_) #[true, false, false, false, false, false, false, false, false, false, false, false, false, false, false, false, false, false, false, false, false, false] rfl rfl (any_of HT_.out (by kernel_rfl)) (fun _ _ _ h => h) (Or.inl ⟨by rfl, ?_⟩) ?_ ?_
                rotate_left
                · intro w'
                  go_simp
                  with_reducible rfl
                rotate_left
                · simp only [Act.put, List.setIfInBounds_toArray, List.set_cons_zero, List.set_cons_succ, i64_w, i32_w]
                  rfl
                refine pure_ (i := 1) (N := some 98) (v := ?_) (a' := ?_) #[true, true, false, false, false, false, false, false, false, false, false, false, false, false, false, false, false, false, false, false, false, false] rfl rfl (any_of HT_.out (by kernel_rfl)) (fun _ _ _ h => h) (Or.inl ⟨by rfl, ?_⟩) ?_ ?_
                rotate_left
                · intro w'
                  go_simp
                  with_reducible rfl
                rotate_left
                · simp only [Act.put, List.setIfInBounds_toArray, List.set_cons_zero, List.set_cons_succ, i64_w, i32_w]
                  rfl
                refine pure_ (i := 2) (N := some 99) (v := ?_) (a' := ?_) #[true, true, true, false, false, false, false, false, false, false, false, false, false, false, false, false, false, false, false, false, false, false] rfl rfl (any_of HT_.out (by kernel_rfl)) (fun _ _ _ h => h) (Or.inl ⟨by rfl, ?_⟩) ?_ ?_
                rotate_left
                · intro w'
                  go_simp
                  with_reducible rfl
                rotate_left
                · simp only [Act.put, List.setIfInBounds_toArray, List.set_cons_zero, List.set_cons_succ, i64_w, i32_w]
                  rfl
                refine pure_ (i := 3) (N := some 100) (v := ?_) (a' := ?_) #[true, true, true, true, false, false, false, false, false, false, false, false, false, false, false, false, false, false, false, false, false, false] rfl rfl (any_of HT_.out (by kernel_rfl)) (fun _ _ _ h => h) (Or.inl ⟨by rfl, ?_⟩) ?_ ?_
                rotate_left
                · intro w'
                  go_simp
                  with_reducible rfl
                rotate_left
                · simp only [Act.put, List.setIfInBounds_toArray, List.set_cons_zero, List.set_cons_succ, i64_w, i32_w]
                  rfl
                refine pure_ (i := 4) (N := some 101) (v := ?_) (a' := ?_) #[true, true, true, true, true, false, false, false, false, false, false, false, false, false, false, false, false, false, false, false, false, false] rfl rfl (any_of HT_.out (by kernel_rfl)) (fun _ _ _ h => h) (Or.inl ⟨by rfl, ?_⟩) ?_ ?_
                rotate_left
                · intro w'
                  go_simp
                  with_reducible rfl
                rotate_left
                · simp only [Act.put, List.setIfInBounds_toArray, List.set_cons_zero, List.set_cons_succ, i64_w, i32_w]
                  rfl
                refine pure_ (i := 5) (N := some 102) (v := ?_) (a' := ?_) #[true, true, true, true, true, true, false, false, false, false, false, false, false, false, false, false, false, false, false, false, false, false] rfl rfl (any_of HT_.out (by kernel_rfl)) (fun _ _ _ h => h) (Or.inl ⟨by rfl, ?_⟩) ?_ ?_
                rotate_left
                · intro w'
                  go_simp
                  with_reducible rfl
                rotate_left
                · simp only [Act.put, List.setIfInBounds_toArray, List.set_cons_zero, List.set_cons_succ, i64_w, i32_w]
                  rfl
                refine pure_ (i := 6) (N := some 103) (v := undef) (a' := ?_) #[true, true, true, true, true, true, true, false, false, false, false, false, false, false, false, false, false, false, false, false, false, false] rfl rfl (any_of HT_.out (by kernel_rfl)) (fun _ _ _ h => h) (Or.inr ⟨by rfl, rfl⟩) ?_ ?_
                rotate_left
                · simp only [Act.put, List.setIfInBounds_toArray, List.set_cons_zero, List.set_cons_succ, i64_w, i32_w]
                  rfl
                refine pure_ (i := 7) (N := some 104) (v := undef) (a' := ?_) #[true, true, true, true, true, true, true, true, false, false, false, false, false, false, false, false, false, false, false, false, false, false] rfl rfl (any_of HT_.out (by kernel_rfl)) (fun _ _ _ h => h) (Or.inr ⟨by rfl, rfl⟩) ?_ ?_
                rotate_left
                · simp only [Act.put, List.setIfInBounds_toArray, List.set_cons_zero, List.set_cons_succ, i64_w, i32_w]
                  rfl
                refine pure_ (i := 8) (N := some 105) (v := undef) (a' := ?_) #[true, true, true, true, true, true, true, true, true, false, false, false, false, false, false, false, false, false, false, false, false, false] rfl rfl (any_of HT_.out (by kernel_rfl)) (fun _ _ _ h => h) (Or.inr ⟨by rfl, rfl⟩) ?_ ?_
                rotate_left
                · simp only [Act.put, List.setIfInBounds_toArray, List.set_cons_zero, List.set_cons_succ, i64_w, i32_w]
                  rfl
                refine pure_ (i := 9) (N := some 106) (v := undef) (a' := ?_) #[true, true, true, true, true, true, true, true, true, true, false, false, false, false, false, false, false, false, false, false, false, false] rfl rfl (any_of HT_.out (by kernel_rfl)) (fun _ _ _ h => h) (Or.inr ⟨by rfl, rfl⟩) ?_ ?_
                rotate_left
                · simp only [Act.put, List.setIfInBounds_toArray, List.set_cons_zero, List.set_cons_succ, i64_w, i32_w]
                  rfl
                refine pure_ (i := 10) (N := some 107) (v := undef) (a' := ?_) #[true, true, true, true, true, true, true, true, true, true, true, false, false, false, false, false, false, false, false, false, false, false] rfl rfl (any_of HT_.out (by kernel_rfl)) (fun _ _ _ h => h) (Or.inr ⟨by rfl, rfl⟩) ?_ ?_
                rotate_left
                · simp only [Act.put, List.setIfInBounds_toArray, List.set_cons_zero, List.set_cons_succ, i64_w, i32_w]
                  rfl
                refine pure_ (i := 11) (N := some 108) (v := undef) (a' := ?_) #[true, true, true, true, true, true, true, true, true, true, true, true, false, false, false, false, false, false, false, false, false, false] rfl rfl (any_of HT_.out (by kernel_rfl)) (fun _ _ _ h => h) (Or.inr ⟨by rfl, rfl⟩) ?_ ?_
                rotate_left
                · simp only [Act.put, List.setIfInBounds_toArray, List.set_cons_zero, List.set_cons_succ, i64_w, i32_w]
                  rfl
                refine pure_ (i := 12) (N := some 109) (v := undef) (a' := ?_) #[true, true, true, true, true, true, true, true, true, true, true, true, true, false, false, false, false, false, false, false, false, false] rfl rfl (any_of HT_.out (by kernel_rfl)) (fun _ _ _ h => h) (Or.inr ⟨by rfl, rfl⟩) ?_ ?_
                rotate_left
                · simp only [Act.put, List.setIfInBounds_toArray, List.set_cons_zero, List.set_cons_succ, i64_w, i32_w]
                  rfl
                refine pure_ (i := 13) (N := some 110) (v := undef) (a' := ?_) #[true, true, true, true, true, true, true, true, true, true, true, true, true, true, false, false, false, false, false, false, false, false] rfl rfl (any_of HT_.out (by kernel_rfl)) (fun _ _ _ h => h) (Or.inr ⟨by rfl, rfl⟩) ?_ ?_
                rotate_left
                · simp only [Act.put, List.setIfInBounds_toArray, List.set_cons_zero, List.set_cons_succ, i64_w, i32_w]
                  rfl
                refine pure_ (i := 14) (N := some 111) (v := undef) (a' := ?_) #[true, true, true, true, true, true, true, true, true, true, true, true, true, true, true, false, false, false, false, false, false, false] rfl rfl (any_of HT_.out (by kernel_rfl)) (fun _ _ _ h => h) (Or.inr ⟨by rfl, rfl⟩) ?_ ?_
                rotate_left
                · simp only [Act.put, List.setIfInBounds_toArray, List.set_cons_zero, List.set_cons_succ, i64_w, i32_w]
                  rfl
                refine pure_ (i := 15) (N := some 112) (v := undef) (a' := ?_) #[true, true, true, true, true, true, true, true, true, true, true, true, true, true, true, true, false, false, false, false, false, false] rfl rfl (any_of HT_.out (by kernel_rfl)) (fun _ _ _ h => h) (Or.inr ⟨by rfl, rfl⟩) ?_ ?_
                rotate_left
                · simp only [Act.put, List.setIfInBounds_toArray, List.set_cons_zero, List.set_cons_succ, i64_w, i32_w]
                  rfl
                refine pure_ (i := 16) (N := some 113) (v := undef) (a' := ?_) #[true, true, true, true, true, true, true, true, true, true, true, true, true, true, true, true, true, false, false, false, false, false] rfl rfl (any_of HT_.out (by kernel_rfl)) (fun _ _ _ h => h) (Or.inr ⟨by rfl, rfl⟩) ?_ ?_
                rotate_left
                · simp only [Act.put, List.setIfInBounds_toArray, List.set_cons_zero, List.set_cons_succ, i64_w, i32_w]
                  rfl
                refine pure_ (i := 17) (N := some 114) (v := undef) (a' := ?_) #[true, true, true, true, true, true, true, true, true, true, true, true, true, true, true, true, true, true, false, false, false, false] rfl rfl (any_of HT_.out (by kernel_rfl)) (fun _ _ _ h => h) (Or.inr ⟨by rfl, rfl⟩) ?_ ?_
                rotate_left
                · simp only [Act.put, List.setIfInBounds_toArray, List.set_cons_zero, List.set_cons_succ, i64_w, i32_w]
                  rfl
                refine pure_ (i := 18) (N := some 115) (v := undef) (a' := ?_) #[true, true, true, true, true, true, true, true, true, true, true, true, true, true, true, true, true, true, true, false, false, false] rfl rfl (any_of HT_.out (by kernel_rfl)) (fun _ _ _ h => h) (Or.inr ⟨by rfl, rfl⟩) ?_ ?_
                rotate_left
                · simp only [Act.put, List.setIfInBounds_toArray, List.set_cons_zero, List.set_cons_succ, i64_w, i32_w]
                  rfl
                refine pure_ (i := 19) (N := some 116) (v := undef) (a' := ?_) #[true, true, true, true, true, true, true, true, true, true, true, true, true, true, true, true, true, true, true, true, false, false] rfl rfl (any_of HT_.out (by kernel_rfl)) (fun _ _ _ h => h) (Or.inr ⟨by rfl, rfl⟩) ?_ ?_
                rotate_left
                · simp only [Act.put, List.setIfInBounds_toArray, List.set_cons_zero, List.set_cons_succ, i64_w, i32_w]
                  rfl
                refine pure_ (i := 20) (N := some 117) (v := ?_) (a' := ?_) #[true, true, true, true, true, true, true, true, true, true, true, true, true, true, true, true, true, true, true, true, true, false] rfl rfl (any_of HT_.out (by kernel_rfl)) (fun _ _ _ h => h) (Or.inl ⟨by rfl, ?_⟩) ?_ ?_
                rotate_left
                · intro w'
                  go_simp
                  with_reducible rfl
                rotate_left
                · simp only [Act.put, List.setIfInBounds_toArray, List.set_cons_zero, List.set_cons_succ, i64_w, i32_w]
                  rfl
                refine pure_ (i := 21) (N := some 118) (v := ?_) (a' := ?_) #[true, true, true, true, true, true, true, true, true, true, true, true, true, true, true, true, true, true, true, true, true, true] rfl rfl (any_of HT_.out (by kernel_rfl)) (fun _ _ _ h => h) (Or.inl ⟨by rfl, ?_⟩) ?_ ?_
                rotate_left
                · intro w'
                  go_simp
                  with_reducible rfl
                rotate_left
                · simp only [Act.put, List.setIfInBounds_toArray, List.set_cons_zero, List.set_cons_succ, i64_w, i32_w]
                  rfl
                refine done_ (done_of HT_.out (by kernel_rfl)) ?_
                refine NoPanic.normal ?_
                clear HT_ HW_ hHeld
                go_wp2_with fail
                go_roundg (o.length - (j + 1))
                case measure => omega
                case rel => exact ⟨j + 1, by have := HOL.out; rw [wrap_succ (by omega)], by omega, by omega, HI1, HG1, HB1, HK1⟩
              · have hd0 : (0 < j) = True := eq_true (by omega)
                obtain ⟨k, hk⟩ : ∃ k, k + 1 = j := ⟨j - 1, by omega⟩
                have hw : wrap64 ((j : Int) - 1) = (k : Int) := by unfold wrap64; have := HOL.out; omega
                have hk0 : (0 : Int) ≤ (k : Int) := by omega
                have hk1 : (k : Int) < (o.length : Int) := by omega
                obtain ⟨ad', e2, hy0⟩ := Kd.at_string HK1.out (k : Int) hk0 hk1
                obtain rfl : ad = ad' := Option.some.inj e2
                rw [Int.toNat_natCast] at hy0
                obtain ⟨p', q', hp1, hq1, hpq⟩ := HOR.out.step (j := k) (by omega)
                have HYS := Aside0.mk (rd_size HSZ.out (i := k) (by omega))
                rw [hk, HX.out, hp] at hq1
                obtain rfl : p = q' := Option.some.inj hq1
                obtain ⟨y, hy⟩ : ∃ y, rdOf ByteArray.empty o (k : Int) = y := ⟨_, rfl⟩
                rw [hy] at hy0 HYS hp1
                have HK0 := Aside0.mk hk
                have HY1 := Aside0.mk (show wr.drew.cell? (ad.add k) = some (.string y) from hy0)
                have HM1 := Aside0.mk (HG1.out.hitT Try.underlying37 HYS.out (v := .int .i64 p') (by unfold lastV; rw [hp1]; rfl)).2
                have hle : (p ≤ p') = False := eq_false (by omega)
                have hkl : (k < o.length) = True := eq_true (by omega)
                clear h0 hk hy hy0 e2 hp1 hq1 hpq
                refine wp_region_noPanic ?_
                refine start_ (n := 22) (S := fun w' => w'.cell? (ad.add j) = some (.string x) ∧ w'.cell? (ad.add k) = some (.string y) ∧ (Instr.lookup 37 (.map (some OB)) (.string x) false).run Try.prog w' = .ok (.int .i64 p) w' ∧ (Instr.lookup 37 (.map (some OB)) (.string y) false).run Try.prog w' = .ok (.int .i64 p') w') (ds := []) #[false, false, false, false, false, false, false, false, false, false, false, false, false, false, false, false, false, false, false, false, false, false] (by kernel_rfl) rfl rfl ⟨HX1.out, HY1.out, HL1.out, HM1.out⟩ (fun hHeld => ?_); refine with_tabW order_tab21 order_bits21 (fun HT_ HW_ => ?_)
                obtain ⟨W1, hW1⟩ : ∃ w, wr.drew = w := ⟨_, rfl⟩
                rw [hW1] at HI1 HG1 HB1 HK1 hHeld ⊢
                clear hW1
                refine pure_ (i := 0) (N := some 97) (v := ?_) (a' := ?_) #[true, false, false, false, false, false, false, false, false, false, false, false, false, false, false, false, false, false, false, false, false, false] rfl rfl (any_of HT_.out (by kernel_rfl)) (fun _ _ _ h => h) (Or.inl ⟨by rfl, ?_⟩) ?_ ?_
                rotate_left
                · intro w'
                  go_simp
                  with_reducible rfl
                rotate_left
                · simp only [Act.put, List.setIfInBounds_toArray, List.set_cons_zero, List.set_cons_succ, i64_w, i32_w]
                  rfl
                refine pure_ (i := 1) (N := some 98) (v := ?_) (a' := ?_) #[true, true, false, false, false, false, false, false, false, false, false, false, false, false, false, false, false, false, false, false, false, false] rfl rfl (any_of HT_.out (by kernel_rfl)) (fun _ _ _ h => h) (Or.inl ⟨by rfl, ?_⟩) ?_ ?_
                rotate_left
                · intro w'
                  go_simp
                  with_reducible rfl
                rotate_left
                · simp only [Act.put, List.setIfInBounds_toArray, List.set_cons_zero, List.set_cons_succ, i64_w, i32_w]
                  rfl
                refine pure_ (i := 2) (N := some 99) (v := ?_) (a' := ?_) #[true, true, true, false, false, false, false, false, false, false, false, false, false, false, false, false, false, false, false, false, false, false] rfl rfl (any_of HT_.out (by kernel_rfl)) (fun _ _ _ h => h) (Or.inl ⟨by rfl, ?_⟩) ?_ ?_
                rotate_left
                · intro w'
                  go_simp
                  with_reducible rfl
                rotate_left
                · simp only [Act.put, List.setIfInBounds_toArray, List.set_cons_zero, List.set_cons_succ, i64_w, i32_w]
                  rfl
                refine pure_ (i := 3) (N := some 100) (v := ?_) (a' := ?_) #[true, true, true, true, false, false, false, false, false, false, false, false, false, false, false, false, false, false, false, false, false, false] rfl rfl (any_of HT_.out (by kernel_rfl)) (fun _ _ _ h => h) (Or.inl ⟨by rfl, ?_⟩) ?_ ?_
                rotate_left
                · intro w'
                  go_simp
                  with_reducible rfl
                rotate_left
                · simp only [Act.put, List.setIfInBounds_toArray, List.set_cons_zero, List.set_cons_succ, i64_w, i32_w]
                  rfl
                refine pure_ (i := 4) (N := some 101) (v := ?_) (a' := ?_) #[true, true, true, true, true, false, false, false, false, false, false, false, false, false, false, false, false, false, false, false, false, false] rfl rfl (any_of HT_.out (by kernel_rfl)) (fun _ _ _ h => h) (Or.inl ⟨by rfl, ?_⟩) ?_ ?_
                rotate_left
                · intro w'
                  go_simp
                  with_reducible rfl
                rotate_left
                · simp only [Act.put, List.setIfInBounds_toArray, List.set_cons_zero, List.set_cons_succ, i64_w, i32_w]
                  rfl
                refine pure_ (i := 5) (N := some 102) (v := ?_) (a' := ?_) #[true, true, true, true, true, true, false, false, false, false, false, false, false, false, false, false, false, false, false, false, false, false] rfl rfl (any_of HT_.out (by kernel_rfl)) (fun _ _ _ h => h) (Or.inl ⟨by rfl, ?_⟩) ?_ ?_
                rotate_left
                · intro w'
                  go_simp
                  with_reducible rfl
                rotate_left
                · simp only [Act.put, List.setIfInBounds_toArray, List.set_cons_zero, List.set_cons_succ, i64_w, i32_w]
                  rfl
                refine pure_ (i := 6) (N := some 103) (v := ?_) (a' := ?_) #[true, true, true, true, true, true, true, false, false, false, false, false, false, false, false, false, false, false, false, false, false, false] rfl rfl (any_of HT_.out (by kernel_rfl)) (fun _ _ _ h => h) (Or.inl ⟨by rfl, ?_⟩) ?_ ?_
                rotate_left
                · intro w'
                  go_simp
                  with_reducible rfl
                rotate_left
                · simp only [Act.put, List.setIfInBounds_toArray, List.set_cons_zero, List.set_cons_succ, i64_w, i32_w]
                  rfl
                refine pure_ (i := 7) (N := some 104) (v := ?_) (a' := ?_) #[true, true, true, true, true, true, true, true, false, false, false, false, false, false, false, false, false, false, false, false, false, false] rfl rfl (any_of HT_.out (by kernel_rfl)) (fun _ _ _ h => h) (Or.inl ⟨by rfl, ?_⟩) ?_ ?_
                rotate_left
                · intro w'
                  go_simp
                  with_reducible rfl
                rotate_left
                · simp only [Act.put, List.setIfInBounds_toArray, List.set_cons_zero, List.set_cons_succ, i64_w, i32_w]
                  rfl
                refine pure_ (i := 8) (N := some 105) (v := ?_) (a' := ?_) #[true, true, true, true, true, true, true, true, true, false, false, false, false, false, false, false, false, false, false, false, false, false] rfl rfl (any_of HT_.out (by kernel_rfl)) (fun _ _ _ h => h) (Or.inl ⟨by rfl, ?_⟩) ?_ ?_
                rotate_left
                · intro w'
                  go_simp
                  with_reducible rfl
                rotate_left
                · simp only [Act.put, List.setIfInBounds_toArray, List.set_cons_zero, List.set_cons_succ, i64_w, i32_w]
                  rfl
                refine pure_ (i := 9) (N := some 106) (v := ?_) (a' := ?_) #[true, true, true, true, true, true, true, true, true, true, false, false, false, false, false, false, false, false, false, false, false, false] rfl rfl (any_of HT_.out (by kernel_rfl)) (fun _ _ _ h => h) (Or.inl ⟨by rfl, ?_⟩) ?_ ?_
                rotate_left
                · intro w'
                  go_simp
                  with_reducible rfl
                rotate_left
                · simp only [Act.put, List.setIfInBounds_toArray, List.set_cons_zero, List.set_cons_succ, i64_w, i32_w]
                  rfl
                refine take_ (i := 10) (N := some 107) (v := ?_) (a' := ?_) #[true, true, true, true, true, true, true, true, true, true, true, false, false, false, false, false, false, false, false, false, false, false] rfl rfl (take_ofW HT_.out HW_.out (by kernel_rfl)) (fun _ _ _ h => h) (Or.inl ⟨by rfl, ?_⟩) hHeld ?_ ?_
                rotate_left
                · rintro w' ⟨s0, s1, s2, s3⟩
                  go_simp
                  with_reducible rfl
                rotate_left
                · simp only [Act.put, List.setIfInBounds_toArray, List.set_cons_zero, List.set_cons_succ, i64_w, i32_w]
                  rfl
                refine take_ (i := 11) (N := some 108) (v := ?_) (a' := ?_) #[true, true, true, true, true, true, true, true, true, true, true, true, false, false, false, false, false, false, false, false, false, false] rfl rfl (take_ofW HT_.out HW_.out (by kernel_rfl)) (fun _ _ _ h => h) (Or.inl ⟨by rfl, ?_⟩) hHeld ?_ ?_
                rotate_left
                · rintro w' ⟨s0, s1, s2, s3⟩
                  go_simp
                  with_reducible rfl
                rotate_left
                · simp only [Act.put, List.setIfInBounds_toArray, List.set_cons_zero, List.set_cons_succ, i64_w, i32_w]
                  rfl
                refine pure_ (i := 12) (N := some 109) (v := ?_) (a' := ?_) #[true, true, true, true, true, true, true, true, true, true, true, true, true, false, false, false, false, false, false, false, false, false] rfl rfl (any_of HT_.out (by kernel_rfl)) (fun _ _ _ h => h) (Or.inl ⟨by rfl, ?_⟩) ?_ ?_
                rotate_left
                · intro w'
                  go_simp
                  with_reducible rfl
                rotate_left
                · simp only [Act.put, List.setIfInBounds_toArray, List.set_cons_zero, List.set_cons_succ, i64_w, i32_w]
                  rfl
                refine pure_ (i := 13) (N := some 110) (v := ?_) (a' := ?_) #[true, true, true, true, true, true, true, true, true, true, true, true, true, true, false, false, false, false, false, false, false, false] rfl rfl (any_of HT_.out (by kernel_rfl)) (fun _ _ _ h => h) (Or.inl ⟨by rfl, ?_⟩) ?_ ?_
                rotate_left
                · intro w'
                  go_simp
                  with_reducible rfl
                rotate_left
                · simp only [Act.put, List.setIfInBounds_toArray, List.set_cons_zero, List.set_cons_succ, i64_w, i32_w]
                  rfl
                refine pure_ (i := 14) (N := some 111) (v := ?_) (a' := ?_) #[true, true, true, true, true, true, true, true, true, true, true, true, true, true, true, false, false, false, false, false, false, false] rfl rfl (any_of HT_.out (by kernel_rfl)) (fun _ _ _ h => h) (Or.inl ⟨by rfl, ?_⟩) ?_ ?_
                rotate_left
                · intro w'
                  go_simp
                  with_reducible rfl
                rotate_left
                · simp only [Act.put, List.setIfInBounds_toArray, List.set_cons_zero, List.set_cons_succ, i64_w, i32_w]
                  rfl
                refine pure_ (i := 15) (N := some 112) (v := ?_) (a' := ?_) #[true, true, true, true, true, true, true, true, true, true, true, true, true, true, true, true, false, false, false, false, false, false] rfl rfl (any_of HT_.out (by kernel_rfl)) (fun _ _ _ h => h) (Or.inl ⟨by rfl, ?_⟩) ?_ ?_
                rotate_left
                · intro w'
                  go_simp
                  with_reducible rfl
                rotate_left
                · simp only [Act.put, List.setIfInBounds_toArray, List.set_cons_zero, List.set_cons_succ, i64_w, i32_w]
                  rfl
                refine pure_ (i := 16) (N := some 113) (v := ?_) (a' := ?_) #[true, true, true, true, true, true, true, true, true, true, true, true, true, true, true, true, true, false, false, false, false, false] rfl rfl (any_of HT_.out (by kernel_rfl)) (fun _ _ _ h => h) (Or.inl ⟨by rfl, ?_⟩) ?_ ?_
                rotate_left
                · intro w'
                  go_simp
                  with_reducible rfl
                rotate_left
                · simp only [Act.put, List.setIfInBounds_toArray, List.set_cons_zero, List.set_cons_succ, i64_w, i32_w]
                  rfl
                refine take_ (i := 17) (N := some 114) (v := ?_) (a' := ?_) #[true, true, true, true, true, true, true, true, true, true, true, true, true, true, true, true, true, true, false, false, false, false] rfl rfl (take_ofW HT_.out HW_.out (by kernel_rfl)) (fun _ _ _ h => h) (Or.inl ⟨by rfl, ?_⟩) hHeld ?_ ?_
                rotate_left
                · rintro w' ⟨s0, s1, s2, s3⟩
                  go_simp
                  with_reducible rfl
                rotate_left
                · simp only [Act.put, List.setIfInBounds_toArray, List.set_cons_zero, List.set_cons_succ, i64_w, i32_w]
                  rfl
                refine take_ (i := 18) (N := some 115) (v := ?_) (a' := ?_) #[true, true, true, true, true, true, true, true, true, true, true, true, true, true, true, true, true, true, true, false, false, false] rfl rfl (take_ofW HT_.out HW_.out (by kernel_rfl)) (fun _ _ _ h => h) (Or.inl ⟨by rfl, ?_⟩) hHeld ?_ ?_
                rotate_left
                · rintro w' ⟨s0, s1, s2, s3⟩
                  go_simp
                  with_reducible rfl
                rotate_left
                · simp only [Act.put, List.setIfInBounds_toArray, List.set_cons_zero, List.set_cons_succ, i64_w, i32_w]
                  rfl
                refine pure_ (i := 19) (N := some 116) (v := ?_) (a' := ?_) #[true, true, true, true, true, true, true, true, true, true, true, true, true, true, true, true, true, true, true, true, false, false] rfl rfl (any_of HT_.out (by kernel_rfl)) (fun _ _ _ h => h) (Or.inl ⟨by rfl, ?_⟩) ?_ ?_
                rotate_left
                · intro w'
                  go_simp
                  with_reducible rfl
                rotate_left
                · simp only [Act.put, List.setIfInBounds_toArray, List.set_cons_zero, List.set_cons_succ, i64_w, i32_w]
                  rfl
                refine pure_ (i := 20) (N := some 117) (v := ?_) (a' := ?_) #[true, true, true, true, true, true, true, true, true, true, true, true, true, true, true, true, true, true, true, true, true, false] rfl rfl (any_of HT_.out (by kernel_rfl)) (fun _ _ _ h => h) (Or.inl ⟨by rfl, ?_⟩) ?_ ?_
                rotate_left
                · intro w'
                  go_simp
                  with_reducible rfl
                rotate_left
                · simp only [Act.put, List.setIfInBounds_toArray, List.set_cons_zero, List.set_cons_succ, i64_w, i32_w]
                  rfl
                refine pure_ (i := 21) (N := some 118) (v := ?_) (a' := ?_) #[true, true, true, true, true, true, true, true, true, true, true, true, true, true, true, true, true, true, true, true, true, true] rfl rfl (any_of HT_.out (by kernel_rfl)) (fun _ _ _ h => h) (Or.inl ⟨by rfl, ?_⟩) ?_ ?_
                rotate_left
                · intro w'
                  go_simp
                  with_reducible rfl
                rotate_left
                · simp only [Act.put, List.setIfInBounds_toArray, List.set_cons_zero, List.set_cons_succ, i64_w, i32_w]
                  rfl
                refine done_ (done_of HT_.out (by kernel_rfl)) ?_
                refine NoPanic.normal ?_
                clear HT_ HW_ hHeld
                go_wp2_with fail
                go_roundg (o.length - (j + 1))
                case measure => omega
                case rel => exact ⟨j + 1, by have := HOL.out; rw [wrap_succ (by omega)], by omega, by omega, HI1, HG1, HB1, HK1⟩
            · obtain rfl : j = o.length := by omega
              have hltjz : ¬ (o.length : Int) < (o.length : Int) := by omega
              clear hltj hgj hj
              go_wp2_with fail
              refine (counts_calls (fun _ => True) W.heap.size CB MB vO 1000 m o hn o.length wr HI.out).mono ?_
              rintro e W7 ⟨rfl, hb⟩
              have HG7 := Aside0.mk (HG.out.move (hb.block _ HG.out.lt))
              have HB7 := Aside0.mk (below_step HB.out hb)
              have hlen := HG7.out.len Try.underlying37 HOR.out.nod (lastV_is l l.length HOR.out)
              have hsum : wrap64 ((hn : Int) + (o.length : Int)) = (l.length : Int) := by unfold wrap64; have := HSUM.out; have := HL.out; omega
              clear hb HG HB HI
              go_wp2_with fail
              go_ret
              exact ⟨by rfl, HB7.out⟩
end Go.Proofs.Ytjpbcmfppmiagaa.Print
