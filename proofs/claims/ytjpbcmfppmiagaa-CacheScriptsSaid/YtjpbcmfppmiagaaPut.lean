/- (*Cache).Put, Get. -/
import Derived.Test.YtjpbcmfppmiagaaBehind
import Derived.Test.YtjpbcmfppmiagaaCut
namespace Go.Proofs.Ytjpbcmfppmiagaa.Print
open Go.RowKit Go.Maps Go.Proofs.YtjpbcmfppmiagaaW.PrintWords Go.Proofs.YtjpbcmfppmiagaaW.PrintLast Go.Proofs.YtjpbcmfppmiagaaW.PrintMore
set_option linter.unusedVariables false
set_option linter.unusedSimpArgs false

def put_T0 : Bool × List (List Nat × List Nat) := (true, [([], []), ([0], [0]), ([1], [1]), ([2], [2]), ([], []), ([], []), ([5], [5]), ([3, 4, 6, 6, 0, 1, 2, 3, 4, 5, 6], [3, 4, 6])])
def put_B0 : List Nat := [0, 1, 3, 7, 0, 0, 32, 127]
theorem put_tab0 : rtab .any (opsOf Try.f10 0) = put_T0 := by kernel_rfl
theorem put_bits0 : waitsOk put_T0.2 put_B0 = true := by kernel_rfl
theorem notKey_len (key : ByteArray) (o : List ByteArray) : (notKey key o ++ [key]).length ≤ o.length + 1 := by
  rw [List.length_append]
  have : (notKey key o).length ≤ o.length := List.length_filter_le _ _
  simp only [List.length_singleton]
  omega
theorem notKey_size {key : ByteArray} {o : List ByteArray} (hk : key.size ≤ maxLen) (hs : ∀ k ∈ o, k.size ≤ maxLen) : ∀ k ∈ notKey key o ++ [key], k.size ≤ maxLen := fun k hk' => by
  rcases List.mem_append.1 hk' with h | h
  · exact hs k (List.mem_filter.1 h).1
  · rw [List.mem_singleton] at h; rw [h]; exact hk
set_option maxHeartbeats 16000000 in
set_option maxRecDepth 100000 in
theorem put_calls (ok : Nat → Prop) (base CB MB : Nat) (vO : Value) (most : Int) (m : Lists) (o : List ByteArray) (h nt : Int) (W : World) (key : ByteArray) (A : Option Addr) (c : Nat) (l : List Int) (hi : CInv ok base CB MB vO most m o h nt W) (hb : base ≤ W.heap.size) (hl : o.length ≤ 99999) (hs : ∀ k ∈ o, k.size ≤ maxLen) (hmost : 0 ≤ most) (hk : key.size ≤ maxLen)
    (hr : Kd.C (Kd.int .i64) W A l.length l) (hok : ∀ k, W.heap.size ≤ k → ok k) (hll : l.length ≤ 17592186043904) :
    Calls Try.prog 10 #[.pointer (some ⟨CB, 0, none⟩), .string key, .slice A l.length c] W fun e w' => e = .returned (.tuple #[]) ∧ ∃ vO', CInv ok base CB MB vO' most (cutAll most (setL m key (some l)) (notKey key o ++ [key])).1 (cutAll most (setL m key (some l)) (notKey key o ++ [key])).2 h nt w' ∧ Turn base CB MB W w' := by
  have HI := Aside0.mk hi
  have HS := Aside0.mk hb
  have HR := Aside0.mk hr
  have HLL := Aside0.mk hll
  have HLN := Aside0.mk hl
  have HSZ := Aside0.mk hs
  have HKS := Aside0.mk hk
  have HMO := Aside0.mk hmost
  have HOK := Aside0.mk hok
  clear hi hb hr hll hl hs hk hmost hok
  go_enter Try.func10, Try.ntmps10
  go_upto_region 0 with fail
  have HC1 := Aside0.mk (HI.out.later (below_drew (Below.refl _ _)))
  have HT1 := Aside0.mk (Turn.of_below (base := base) (CB := CB) (MB := MB) (below_drew (Below.refl W.heap.size W)))
  have HR1 := Aside0.mk (show Kd.C (Kd.int .i64) W.drew A l.length l from Kd.C_below HR.out (below_drew (Below.refl _ _)))
  refine wp_region_noPanic ?_
  refine start_ (n := 8) (S := fun w' => w'.cell? ⟨CB, 1, none⟩ = some (.map (some MB))) (ds := [7]) #[false, false, false, false, false, false, false, false] (by kernel_rfl) rfl rfl ((blk_cell HC1.out.blk 1).trans rfl) (fun hHeld => ?_); refine with_tabW put_tab0 put_bits0 (fun HT_ HW_ => ?_)
  obtain ⟨W1, hW1⟩ : ∃ w, W.drew = w := ⟨_, rfl⟩
  rw [hW1] at HC1 HT1 HR1 hHeld ⊢
  clear hW1
  refine pure_ (i := 0) (N := some 6) (v := ?_) (a' := ?_) #[true, false, false, false, false, false, false, false] rfl rfl (any_of HT_.out (by kernel_rfl)) (fun _ _ _ h => h) (Or.inl ⟨by rfl, ?_⟩) ?_ ?_
  rotate_left
  · intro w'
    go_simp
    with_reducible rfl
  rotate_left
  · simp only [Act.put, List.setIfInBounds_toArray, List.set_cons_zero, List.set_cons_succ, i64_w, i32_w]
    rfl
  refine pure_ (i := 1) (N := some 7) (v := ?_) (a' := ?_) #[true, true, false, false, false, false, false, false] rfl rfl (any_of HT_.out (by kernel_rfl)) (fun _ _ _ h => h) (Or.inl ⟨by rfl, ?_⟩) ?_ ?_
  rotate_left
  · intro w'
    go_simp
    with_reducible rfl
  rotate_left
  · simp only [Act.put, List.setIfInBounds_toArray, List.set_cons_zero, List.set_cons_succ, i64_w, i32_w]
    rfl
  refine pure_ (i := 2) (N := some 8) (v := ?_) (a' := ?_) #[true, true, true, false, false, false, false, false] rfl rfl (any_of HT_.out (by kernel_rfl)) (fun _ _ _ h => h) (Or.inl ⟨by rfl, ?_⟩) ?_ ?_
  rotate_left
  · intro w'
    go_simp
    with_reducible rfl
  rotate_left
  · simp only [Act.put, List.setIfInBounds_toArray, List.set_cons_zero, List.set_cons_succ, i64_w, i32_w]
    rfl
  refine take_ (i := 3) (N := some 9) (v := ?_) (a' := ?_) #[true, true, true, true, false, false, false, false] rfl rfl (take_ofW HT_.out HW_.out (by kernel_rfl)) (fun _ _ _ h => h) (Or.inl ⟨by rfl, ?_⟩) hHeld ?_ ?_
  rotate_left
  · rintro w' s0
    go_simp
    with_reducible rfl
  rotate_left
  · simp only [Act.put, List.setIfInBounds_toArray, List.set_cons_zero, List.set_cons_succ, i64_w, i32_w]
    rfl
  refine pure_ (i := 4) (N := some 10) (v := ?_) (a' := ?_) #[true, true, true, true, true, false, false, false] rfl rfl (any_of HT_.out (by kernel_rfl)) (fun _ _ _ h => h) (Or.inl ⟨by rfl, ?_⟩) ?_ ?_
  rotate_left
  · intro w'
    go_simp
    with_reducible rfl
  rotate_left
  · simp only [Act.put, List.setIfInBounds_toArray, List.set_cons_zero, List.set_cons_succ, i64_w, i32_w]
    rfl
  refine pure_ (i := 5) (N := some 11) (v := ?_) (a' := ?_) #[true, true, true, true, true, true, false, false] rfl rfl (any_of HT_.out (by kernel_rfl)) (fun _ _ _ h => h) (Or.inl ⟨by rfl, ?_⟩) ?_ ?_
  rotate_left
  · intro w'
    go_simp
    with_reducible rfl
  rotate_left
  · simp only [Act.put, List.setIfInBounds_toArray, List.set_cons_zero, List.set_cons_succ, i64_w, i32_w]
    rfl
  refine one_ (i := 6) (N := some 12) #[true, true, true, true, true, true, true, false] rfl rfl (one_of HT_.out (by kernel_rfl)) (by decide) (fun K hK => ?_)
  refine goes_ Try.func21 (by kernel_rfl) rfl #[.slice A l.length c] (by rfl) rfl rfl (by (try simp only [List.map_toArray, List.map_cons, List.map_nil]); first | done | rfl) ?_
  refine (clone_calls W1 A c l HR1.out HLL.out).mono ?_
  rintro e W2 ⟨u, rfl, hu, hb⟩
  refine ⟨_, rfl, ?_⟩
  have HC2 := Aside0.mk (HC1.out.later hb)
  have HT2 := Aside0.mk (HT1.out.trans (Turn.of_below hb))
  have HU := Aside0.mk (show Kd.R (Kd.int .i64) 3 W2 base ok u l from Kd.R_lower (Kd.R_mono (Kd.R_tight rfl hu) (fun k h => HOK.out k (Nat.le_trans HT1.out.size (Kd.R_base hu k h.symm)))) (Nat.le_trans HS.out HT1.out.size))
  clear hu hb
  refine hK.out _ _ ((blk_cell HC2.out.blk 1).trans rfl) (fun hHeld => ?_)
  clear hK K
  refine norm_ (a' := ?_) ?_ ?_
  rotate_left
  · show Act.put _ (some 12) _ = _
    simp only [Act.put, List.setIfInBounds_toArray, List.set_cons_zero, List.set_cons_succ, i64_w, i32_w]
    rfl
  obtain ⟨W3, hput, hi3, ht3⟩ := HC2.out.put HKS.out HU.out
  refine last_ (i := 7) (N := none) #[true, true, true, true, true, true, true, true] rfl rfl (one_of HT_.out (by kernel_rfl)) (by decide) (fun K hK => ?_)
  refine step_list rfl (by rfl) ?_
  unfold Oper.wp
  go_simp
  refine hK.out _ _ ?_
  clear hK K hput
  have HC3 := Aside0.mk hi3
  have HT3 := Aside0.mk (HT2.out.trans ht3)
  clear hi3 ht3 HC2 HT2 HU
  refine done_ (done_of HT_.out (by kernel_rfl)) ?_
  refine NoPanic.normal ?_
  clear HT_ HW_ hHeld
  go_wp2_with fail
  refine (behind_calls ok base CB MB vO most _ o h nt W3 key HC3.out (Nat.le_trans HS.out HT3.out.size) (by have := HLN.out; omega)).mono ?_
  rintro e W4 ⟨rfl, v4, hi4, ht4⟩
  have HC4 := Aside0.mk hi4
  have HT4 := Aside0.mk (HT3.out.trans ht4)
  clear hi4 ht4 HC3 HT3
  go_wp2_with fail
  refine (cut_calls ok base CB MB v4 most _ _ h nt W4 HC4.out (Nat.le_trans HS.out HT4.out.size) (by have := notKey_len key o; have := HLN.out; omega) (notKey_size HKS.out HSZ.out) HMO.out).mono ?_
  rintro e W5 ⟨rfl, v5, hi5, ht5⟩
  have HC5 := Aside0.mk hi5
  have HT5 := Aside0.mk (HT4.out.trans ht5)
  clear hi5 ht5 HC4 HT4
  go_wp2_with fail
  go_end0
  first | exact ⟨rfl, _, HC5.out, HT5.out⟩ | exact ⟨rfl, ⟨_, HC5.out⟩, HT5.out⟩

/-- What Get answers with. -/
theorem miss_calls (ok : Nat → Prop) (base CB MB : Nat) (vO : Value) (most : Int) (m : Lists) (o : List ByteArray) (h nt : Int) (W : World) (key : ByteArray) (hi : CInv ok base CB MB vO most m o h nt W) (hk : key.size ≤ maxLen) (hm : m key = none) :
    Calls Try.prog 11 #[.pointer (some ⟨CB, 0, none⟩), .string key] W fun e w' => e = .returned (.tuple #[.slice none 0 0, .bool false]) ∧ CInv ok base CB MB vO most m o h (wrap64 (nt + 1)) w' ∧ Turn base CB MB W w' := by
  have HI := Aside0.mk hi
  have hrun := hi.miss hk hm
  have c1 := hi.cells.2.1
  have c4 := hi.cells.2.2.2.2
  have f4 := blk_frozen hi.blk 4
  clear hi hk hm
  go_enter Try.func11, Try.ntmps11
  go_wp2_with fail
  go_ret2
  exact ⟨rfl, HI.out.field 4 (.int .i64 (wrap64 (nt + 1))) rfl, Turn.of_cache (grownBy_set _ _ _ _)⟩
theorem hit_calls (ok : Nat → Prop) (base CB MB : Nat) (vO : Value) (most : Int) (m : Lists) (o : List ByteArray) (h nt : Int) (W : World) (key : ByteArray) (l : List Int) (hi : CInv ok base CB MB vO most m o h nt W) (hb : base ≤ W.heap.size) (hl : o.length ≤ 99999) (hk : key.size ≤ maxLen) (hm : m key = some l) (hll : l.length ≤ 17592186043904) :
    Calls Try.prog 11 #[.pointer (some ⟨CB, 0, none⟩), .string key] W fun e w' => ∃ u, e = .returned (.tuple #[u, .bool true]) ∧ (∃ vO', CInv ok base CB MB vO' most m (notKey key o ++ [key]) (wrap64 (h + 1)) nt w') ∧ Turn base CB MB W w' ∧ Kd.R (Kd.int .i64) 3 w' base (fun k => W.heap.size ≤ k) u l := by
  have HI := Aside0.mk hi
  obtain ⟨v, hrun, hv⟩ := hi.hit hk hm
  have HV := Aside0.mk hv
  have HS := Aside0.mk hb
  have HLN := Aside0.mk hl
  have HLL := Aside0.mk hll
  have c1 := hi.cells.2.1
  have c3 := hi.cells.2.2.2.1
  have f3 := blk_frozen hi.blk 3
  have HM := Aside0.mk hm
  clear hi hk hm hv hb hl hll
  obtain ⟨Av, cv, rfl⟩ := Kd.R_slice HV.out
  go_enter Try.func11, Try.ntmps11
  go_wp2_with fail
  have HC1 := Aside0.mk (HI.out.field 3 (.int .i64 (wrap64 (h + 1))) (h' := wrap64 (h + 1)) rfl)
  have HT1 := Aside0.mk (Turn.of_cache (base := base) (CB := CB) (MB := MB) (grownBy_set W CB 3 (.int .i64 (wrap64 (h + 1)))))
  have HV1 := Aside0.mk (show Kd.R (Kd.int .i64) 3 (W.setCell ⟨CB, 3, none⟩ (.int .i64 (wrap64 (h + 1)))) base ok (.slice Av l.length cv) l from Kd.R_grown2 HV.out rfl (grownBy_set _ _ _ _) (fun k hk he => by injection hk with hk; subst hk; exact Kd.R_ne HV.out HI.out.blk (by decide) he))
  generalize W.setCell ⟨CB, 3, none⟩ (.int .i64 (wrap64 (h + 1))) = W1 at *
  refine (behind_calls ok base CB MB vO most m o (wrap64 (h + 1)) nt W1 key HC1.out (Nat.le_trans HS.out HT1.out.size) (by have := HLN.out; omega)).mono ?_
  rintro e W2 ⟨rfl, v2, hi2, ht2⟩
  have HC2 := Aside0.mk hi2
  have HT2 := Aside0.mk (HT1.out.trans ht2)
  have HV2 := Aside0.mk (show Kd.R (Kd.int .i64) 3 W2 base ok (.slice Av l.length cv) l from Kd.R_mono (Kd.R_step (Kd.R_tight rfl HV1.out) (fun j hj hlt => by
    obtain ⟨cs, hcs⟩ := Kd.R_typed HV1.out j hj.symm
    exact ht2.block j hlt (fun e => by subst e; rw [HC1.out.blk] at hcs; cases hcs) (HC1.out.map.ne hcs) (fun _ cs' e => by rw [hcs] at e; cases e))) (fun k h => HV1.out.1 k h.symm))
  clear hi2 ht2 HC1 HT1 HV1
  go_wp2_with fail
  refine (clone_calls W2 Av cv l (Kd.R_reads' HV2.out).2.2 HLL.out).mono ?_
  rintro e W3 ⟨u, rfl, hu, hb3⟩
  have HC3 := Aside0.mk (HC2.out.later hb3)
  have HT3 := Aside0.mk (HT2.out.trans (Turn.of_below hb3))
  have HU := Aside0.mk (show Kd.R (Kd.int .i64) 3 W3 base (fun k => W.heap.size ≤ k) u l from Kd.R_lower (Kd.R_mono (Kd.R_tight rfl hu) (fun k h => Nat.le_trans HT2.out.size (Kd.R_base hu k h.symm))) (Nat.le_trans HS.out HT2.out.size))
  clear hu hb3 HC2 HT2 HV2
  go_wp2_with fail
  go_ret2
  exact ⟨u, rfl, ⟨_, HC3.out⟩, HT3.out, HU.out⟩
end Go.Proofs.Ytjpbcmfppmiagaa.Print
