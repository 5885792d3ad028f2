/- (*Cache).Keys, Counts, Resize, Drop. -/
import Derived.Test.YtjpbcmfppmiagaaMapT
namespace Go.Proofs.Ytjpbcmfppmiagaa.Print
open Go.RowKit Go.Maps Go.Proofs.YtjpbcmfppmiagaaW.PrintWords Go.Proofs.YtjpbcmfppmiagaaW.PrintLast Go.Proofs.YtjpbcmfppmiagaaW.PrintMore
set_option linter.unusedVariables false
set_option linter.unusedSimpArgs false

def counts_T1 : Bool × List (List Nat × List Nat) := (true, [([], []), ([0], [0]), ([1], [1]), ([2], [2]), ([], []), ([4], [4]), ([5], [5]), ([6], [6]), ([3, 0, 1, 2, 3], [3]), ([7, 8, 0, 1, 2, 3, 4, 5, 6, 7, 8], [7])])
def counts_B1 : List Nat := [0, 1, 3, 7, 0, 16, 48, 112, 15, 511]
theorem counts_tab1 : rtab .any (opsOf Try.f14 1) = counts_T1 := by kernel_rfl
theorem counts_bits1 : waitsOk counts_T1.2 counts_B1 = true := by kernel_rfl
def drop_T1 : Bool × List (List Nat × List Nat) := (true, [([], []), ([0], [0]), ([1], [1]), ([2], [2]), ([], []), ([3, 4], [3, 4]), ([5], [5]), ([6], [6]), ([6], [6]), ([7, 0, 1, 2, 3, 4, 5, 6, 7], [7]), ([8, 9, 0, 1, 2, 3, 4, 5, 6, 7, 8, 9], [8])])
def drop_B1 : List Nat := [0, 1, 3, 7, 0, 31, 63, 127, 127, 255, 1023]
theorem drop_tab1 : rtab .any (opsOf Try.f15 1) = drop_T1 := by kernel_rfl
theorem drop_bits1 : waitsOk drop_T1.2 drop_B1 = true := by kernel_rfl
def drop_T2 : Bool × List (List Nat × List Nat) := (true, [([], []), ([0], [0]), ([1], [1]), ([2], [2]), ([], []), ([3, 4], [3, 4])])
def drop_B2 : List Nat := [0, 1, 3, 7, 0, 31]
theorem drop_tab2 : rtab .any (opsOf Try.f15 2) = drop_T2 := by kernel_rfl
theorem drop_bits2 : waitsOk drop_T2.2 drop_B2 = true := by kernel_rfl
section
variable {ok : Nat → Prop} {base CB MB : Nat} {W W' : World} {vO v : Value} {most h nt : Int} {m m' : Lists} {o : List ByteArray} {k : ByteArray} {l : List Int}
theorem CInv.deleteG (hi : CInv ok base CB MB vO most m o h nt W) (hk : k.size ≤ maxLen) (ty : TypeId) :
    ∃ W', (Builtin.delete_ #[43, 9] ty #[.map (some MB), .string k]).run Try.prog W = .ok (.tuple #[]) W' ∧ CInv ok base CB MB vO most (setL m k none) o h nt W' ∧ W.grownBy W' (some MB) := by
  obtain ⟨g, g1, g2, g3⟩ := hi.map
  obtain ⟨W', h1, h2, h3⟩ := g1.delete hk ty
  exact ⟨W', h1, hi.mapTurn (hi.map.erase g1 g2 g3 h2 h3) h3, h3⟩
theorem CInv.look (hi : CInv ok base CB MB vO most m o h nt W) (hk : k.size ≤ maxLen) : ∃ A n c, (Instr.lookup 43 (.map (some MB)) (.string k) true).run Try.prog W = .ok (.tuple #[.slice A n c, .bool (m k).isSome]) W := by
  cases q : m k with
  | none => exact ⟨_, _, _, hi.miss hk q⟩
  | some l =>
    obtain ⟨v, h1, h2⟩ := hi.hit hk q
    obtain ⟨A, c, rfl⟩ := Kd.R_slice h2
    exact ⟨_, _, _, h1⟩
end
set_option maxHeartbeats 16000000 in
set_option maxRecDepth 100000 in
theorem keys_calls (ok : Nat → Prop) (base CB MB : Nat) (vO : Value) (most : Int) (m : Lists) (o : List ByteArray) (h nt : Int) (W : World) (hi : CInv ok base CB MB vO most m o h nt W) (hl : o.length ≤ 100000) :
    Calls Try.prog 13 #[.pointer (some ⟨CB, 0, none⟩)] W fun e w' => ∃ u, e = .returned u ∧ Kd.R Kd.string 9 w' W.heap.size (fun _ => True) u o ∧ Below W.heap.size W w' := by
  obtain ⟨A, c, rfl⟩ := Kd.R_slice hi.ord
  have HI := Aside0.mk hi
  have HL := Aside0.mk hl
  have c2 := hi.cells.2.2.1
  clear hi hl
  go_enter Try.func13, Try.ntmps13
  go_wp2_with fail
  refine (cloneS_calls W A c o (Kd.R_reads' HI.out.ord).2.2 (by have := HL.out; omega)).mono ?_
  rintro e W1 ⟨u, rfl, hu, hb⟩
  have HU := Aside0.mk hu
  have HB := Aside0.mk hb
  obtain ⟨Au, cu, rfl⟩ := Kd.R_slice hu
  clear hu hb
  go_wp2_with fail
  go_ret
  exact ⟨_, rfl, HU.out, HB.out⟩
set_option maxHeartbeats 16000000 in
set_option maxRecDepth 100000 in
theorem counts_calls (ok : Nat → Prop) (base CB MB : Nat) (vO : Value) (most : Int) (m : Lists) (o : List ByteArray) (h nt : Int) (W : World) (hi : CInv ok base CB MB vO most m o h nt W) :
    Calls Try.prog 14 #[.pointer (some ⟨CB, 0, none⟩)] W fun e w' => e = .returned (.tuple #[.int .i64 h, .int .i64 nt]) ∧ Below W.heap.size W w' := by
  have HI := Aside0.mk hi
  clear hi
  go_enter Try.func14, Try.ntmps14
  go_upto_region 1 with fail
  have HC1 := Aside0.mk (HI.out.later (below_drew (Below.refl _ _)))
  have HB1 := Aside0.mk (below_drew (Below.refl W.heap.size W))
  refine wp_region_noPanic ?_
  refine start_ (n := 10) (S := fun w' => w'.cell? ⟨CB, 3, none⟩ = some (.int .i64 h) ∧ w'.cell? ⟨CB, 4, none⟩ = some (.int .i64 nt)) (ds := []) #[false, false, false, false, false, false, false, false, false, false] (by kernel_rfl) rfl rfl ⟨(blk_cell HC1.out.blk 3).trans rfl, (blk_cell HC1.out.blk 4).trans rfl⟩ (fun hHeld => ?_); refine with_tabW counts_tab1 counts_bits1 (fun HT_ HW_ => ?_)
  obtain ⟨W1, hW1⟩ : ∃ w, W.drew = w := ⟨_, rfl⟩
  rw [hW1] at HC1 HB1 hHeld ⊢
  clear hW1
  refine pure_ (i := 0) (N := some 4) (v := ?_) (a' := ?_) #[true, false, false, false, false, false, false, false, false, false] rfl rfl (any_of HT_.out (by kernel_rfl)) (fun _ _ _ h => h) (Or.inl ⟨by rfl, ?_⟩) ?_ ?_
  rotate_left
  · intro w'
    go_simp
    with_reducible rfl
  rotate_left
  · simp only [Act.put, List.setIfInBounds_toArray, List.set_cons_zero, List.set_cons_succ, i64_w, i32_w]
    rfl
  refine pure_ (i := 1) (N := some 5) (v := ?_) (a' := ?_) #[true, true, false, false, false, false, false, false, false, false] rfl rfl (any_of HT_.out (by kernel_rfl)) (fun _ _ _ h => h) (Or.inl ⟨by rfl, ?_⟩) ?_ ?_
  rotate_left
  · intro w'
    go_simp
    with_reducible rfl
  rotate_left
  · simp only [Act.put, List.setIfInBounds_toArray, List.set_cons_zero, List.set_cons_succ, i64_w, i32_w]
    rfl
  refine pure_ (i := 2) (N := some 6) (v := ?_) (a' := ?_) #[true, true, true, false, false, false, false, false, false, false] rfl rfl (any_of HT_.out (by kernel_rfl)) (fun _ _ _ h => h) (Or.inl ⟨by rfl, ?_⟩) ?_ ?_
  rotate_left
  · intro w'
    go_simp
    with_reducible rfl
  rotate_left
  · simp only [Act.put, List.setIfInBounds_toArray, List.set_cons_zero, List.set_cons_succ, i64_w, i32_w]
    rfl
  refine take_ (i := 3) (N := some 7) (v := ?_) (a' := ?_) #[true, true, true, true, false, false, false, false, false, false] rfl rfl (take_ofW HT_.out HW_.out (by kernel_rfl)) (fun _ _ _ h => h) (Or.inl ⟨by rfl, ?_⟩) hHeld ?_ ?_
  rotate_left
  · rintro w' ⟨s0, s1⟩
    go_simp
    with_reducible rfl
  rotate_left
  · simp only [Act.put, List.setIfInBounds_toArray, List.set_cons_zero, List.set_cons_succ, i64_w, i32_w]
    rfl
  refine pure_ (i := 4) (N := some 8) (v := ?_) (a' := ?_) #[true, true, true, true, true, false, false, false, false, false] rfl rfl (any_of HT_.out (by kernel_rfl)) (fun _ _ _ h => h) (Or.inl ⟨by rfl, ?_⟩) ?_ ?_
  rotate_left
  · intro w'
    go_simp
    with_reducible rfl
  rotate_left
  · simp only [Act.put, List.setIfInBounds_toArray, List.set_cons_zero, List.set_cons_succ, i64_w, i32_w]
    rfl
  refine pure_ (i := 5) (N := some 9) (v := ?_) (a' := ?_) #[true, true, true, true, true, true, false, false, false, false] rfl rfl (any_of HT_.out (by kernel_rfl)) (fun _ _ _ h => h) (Or.inl ⟨by rfl, ?_⟩) ?_ ?_
  rotate_left
  · intro w'
    go_simp
    with_reducible rfl
  rotate_left
  · simp only [Act.put, List.setIfInBounds_toArray, List.set_cons_zero, List.set_cons_succ, i64_w, i32_w]
    rfl
  refine pure_ (i := 6) (N := some 10) (v := ?_) (a' := ?_) #[true, true, true, true, true, true, true, false, false, false] rfl rfl (any_of HT_.out (by kernel_rfl)) (fun _ _ _ h => h) (Or.inl ⟨by rfl, ?_⟩) ?_ ?_
  rotate_left
  · intro w'
    go_simp
    with_reducible rfl
  rotate_left
  · simp only [Act.put, List.setIfInBounds_toArray, List.set_cons_zero, List.set_cons_succ, i64_w, i32_w]
    rfl
  refine take_ (i := 7) (N := some 11) (v := ?_) (a' := ?_) #[true, true, true, true, true, true, true, true, false, false] rfl rfl (take_ofW HT_.out HW_.out (by kernel_rfl)) (fun _ _ _ h => h) (Or.inl ⟨by rfl, ?_⟩) hHeld ?_ ?_
  rotate_left
  · rintro w' ⟨s0, s1⟩
    go_simp
    with_reducible rfl
  rotate_left
  · simp only [Act.put, List.setIfInBounds_toArray, List.set_cons_zero, List.set_cons_succ, i64_w, i32_w]
    rfl
  refine pure_ (i := 8) (N := some 2) (v := ?_) (a' := ?_) #[true, true, true, true, true, true, true, true, true, false] rfl rfl (any_of HT_.out (by kernel_rfl)) (fun _ _ _ h => h) (Or.inl ⟨by rfl, ?_⟩) ?_ ?_
  rotate_left
  · intro w'
    go_simp
    with_reducible rfl
  rotate_left
  · simp only [Act.put, List.setIfInBounds_toArray, List.set_cons_zero, List.set_cons_succ, i64_w, i32_w]
    rfl
  refine pure_ (i := 9) (N := some 3) (v := ?_) (a' := ?_) #[true, true, true, true, true, true, true, true, true, true] rfl rfl (any_of HT_.out (by kernel_rfl)) (fun _ _ _ h => h) (Or.inl ⟨by rfl, ?_⟩) ?_ ?_
  rotate_left
  · intro w'
    go_simp
    with_reducible rfl
  rotate_left
  · simp only [Act.put, List.setIfInBounds_toArray, List.set_cons_zero, List.set_cons_succ, i64_w, i32_w]
    rfl
  refine done_ (done_of HT_.out (by kernel_rfl)) ?_
  refine NoPanic.normal ?_
  clear HT_ HW_ hHeld
  go_wp2_with fail
  go_ret2
  exact ⟨rfl, HB1.out⟩
set_option maxHeartbeats 16000000 in
set_option maxRecDepth 100000 in
theorem resize_bad (n : Int) (ad : Option Addr) (W : World) (hn : rightN n = false) : Calls Try.prog 30 #[.pointer ad, .int .i64 n] W fun e w' => e = .returned (.int .i64 1) ∧ Below W.heap.size W w' := by
  have HR := Aside0.mk (right_calls n W)
  rw [hn] at HR
  clear hn
  go_enter Try.func30, Try.ntmps30
  go_wp2_with fail
  refine HR.out.mono ?_
  rintro e W1 ⟨rfl, hb⟩
  have HB := Aside0.mk hb
  clear hb
  go_wp2_with fail
  go_ret
  exact ⟨rfl, HB.out⟩
set_option maxHeartbeats 16000000 in
set_option maxRecDepth 100000 in
theorem resize_good (ok : Nat → Prop) (base CB MB : Nat) (vO : Value) (most : Int) (m : Lists) (o : List ByteArray) (h nt : Int) (W : World) (n : Int) (hi : CInv ok base CB MB vO most m o h nt W) (hb : base ≤ W.heap.size) (hl : o.length ≤ 100000) (hs : ∀ k ∈ o, k.size ≤ maxLen) (hn : rightN n = true) :
    Calls Try.prog 30 #[.pointer (some ⟨CB, 0, none⟩), .int .i64 n] W fun e w' => e = .returned (.int .i64 0) ∧ (∃ vO', CInv ok base CB MB vO' n (cutAll n m o).1 (cutAll n m o).2 h nt w') ∧ Turn base CB MB W w' := by
  have HR := Aside0.mk (right_calls n W)
  have HN := Aside0.mk (show 0 ≤ n from (of_decide_eq_true hn).1)
  rw [hn] at HR
  have HI := Aside0.mk hi
  have HS := Aside0.mk hb
  have HL := Aside0.mk hl
  have HSZ := Aside0.mk hs
  clear hn hi hb hl hs
  go_enter Try.func30, Try.ntmps30
  go_wp2_with fail
  refine HR.out.mono ?_
  rintro e W1 ⟨rfl, hb⟩
  have HI1 := Aside0.mk (HI.out.later hb)
  have HT1 := Aside0.mk (Turn.of_below (base := base) (CB := CB) (MB := MB) hb)
  clear hb
  have c0 := HI1.out.cells.1
  have f0 := blk_frozen HI1.out.blk 0
  go_wp2_with fail
  have HI2 := Aside0.mk (HI1.out.field 0 (.int .i64 n) (most' := n) rfl)
  have HT2 := Aside0.mk (HT1.out.trans (Turn.of_cache (base := base) (CB := CB) (MB := MB) (grownBy_set W1 CB 0 (.int .i64 n))))
  generalize W1.setCell ⟨CB, 0, none⟩ (.int .i64 n) = W2 at *
  clear c0 f0
  refine (cut_calls ok base CB MB vO n m o h nt W2 HI2.out (Nat.le_trans HS.out HT2.out.size) HL.out HSZ.out HN.out).mono ?_
  rintro e W3 ⟨rfl, v3, hi3, ht3⟩
  have HI3 := Aside0.mk hi3
  have HT3 := Aside0.mk (HT2.out.trans ht3)
  clear hi3 ht3
  go_wp2_with fail
  go_ret
  exact ⟨rfl, ⟨_, HI3.out⟩, HT3.out⟩
set_option maxHeartbeats 16000000 in
set_option maxRecDepth 100000 in
theorem drop_calls (ok : Nat → Prop) (base CB MB : Nat) (vO : Value) (most : Int) (m : Lists) (o : List ByteArray) (h nt : Int) (W : World) (key : ByteArray) (hi : CInv ok base CB MB vO most m o h nt W) (hb : base ≤ W.heap.size) (hl : o.length ≤ 100000) (hk : key.size ≤ maxLen) :
    Calls Try.prog 15 #[.pointer (some ⟨CB, 0, none⟩), .string key] W fun e w' => e = .returned (.bool (m key).isSome) ∧ (∃ vO', CInv ok base CB MB vO' most (setL m key none) (notKey key o) h nt w') ∧ Turn base CB MB W w' := by
  have HI := Aside0.mk hi
  have HS := Aside0.mk hb
  have HLO := Aside0.mk (show o.length ≤ 1000000000000 by omega)
  have HKS := Aside0.mk hk
  have HK0 := Aside0.mk (blk_new W (.cells #[.string key] 9))
  have HI0 := Aside0.mk (hi.later (below_alloc (Below.refl _ _) (.cells #[.string key] 9)))
  have HT0 := Aside0.mk (Turn.of_below (base := base) (CB := CB) (MB := MB) (below_alloc (Below.refl W.heap.size W) (.cells #[.string key] 9)))
  have HKO := Aside0.mk (show some W.heap.size ≠ vO.ownBlock from bl_new (Nat.le_refl _) hi.ord)
  clear hi hb hl hk
  go_enter Try.func15, Try.ntmps15
  go_upto_region 1 with fail
  have HC1 := Aside0.mk (HI0.out.later (below_drew (Below.refl _ _)))
  have HK1 := Aside0.mk (blk_drew HK0.out)
  have HT1 := Aside0.mk (HT0.out.trans (Turn.of_below (below_drew (Below.refl _ _))))
  obtain ⟨KB, hKB⟩ : ∃ n, W.heap.size = n := ⟨_, rfl⟩
  rw [hKB] at HK1 HKO ⊢
  clear hKB HK0 HI0 HT0
  generalize W.alloc (.cells #[.string key] 9) = W0 at *
  obtain ⟨Ax, nx, cx, hlook⟩ := HC1.out.look HKS.out
  obtain ⟨bx, hbx⟩ : ∃ b, (m key).isSome = b := ⟨_, rfl⟩
  rw [hbx] at hlook
  have HBX := Aside0.mk hbx
  have HLK := Aside0.mk hlook
  clear hlook hbx
  refine wp_region_noPanic ?_
  refine start_ (n := 11) (S := fun w' => w'.cell? ⟨CB, 1, none⟩ = some (.map (some MB)) ∧ w'.cell? ⟨KB, 0, none⟩ = some (.string key) ∧ (Instr.lookup 43 (.map (some MB)) (.string key) true).run Try.prog w' = .ok (.tuple #[.slice Ax nx cx, .bool bx]) w') (ds := []) #[false, false, false, false, false, false, false, false, false, false, false] (by kernel_rfl) rfl rfl ⟨(blk_cell HC1.out.blk 1).trans rfl, (blk_cell HK1.out 0).trans rfl, HLK.out⟩ (fun hHeld => ?_); refine with_tabW drop_tab1 drop_bits1 (fun HT_ HW_ => ?_)
  generalize W0.drew = W1 at *
  refine pure_ (i := 0) (N := some 8) (v := ?_) (a' := ?_) #[true, false, false, false, false, false, false, false, false, false, false] rfl rfl (any_of HT_.out (by kernel_rfl)) (fun _ _ _ h => h) (Or.inl ⟨by rfl, ?_⟩) ?_ ?_
  rotate_left
  · intro w'
    go_simp
    with_reducible rfl
  rotate_left
  · simp only [Act.put, List.setIfInBounds_toArray, List.set_cons_zero, List.set_cons_succ, i64_w, i32_w]
    rfl
  refine pure_ (i := 1) (N := some 9) (v := ?_) (a' := ?_) #[true, true, false, false, false, false, false, false, false, false, false] rfl rfl (any_of HT_.out (by kernel_rfl)) (fun _ _ _ h => h) (Or.inl ⟨by rfl, ?_⟩) ?_ ?_
  rotate_left
  · intro w'
    go_simp
    with_reducible rfl
  rotate_left
  · simp only [Act.put, List.setIfInBounds_toArray, List.set_cons_zero, List.set_cons_succ, i64_w, i32_w]
    rfl
  refine pure_ (i := 2) (N := some 10) (v := ?_) (a' := ?_) #[true, true, true, false, false, false, false, false, false, false, false] rfl rfl (any_of HT_.out (by kernel_rfl)) (fun _ _ _ h => h) (Or.inl ⟨by rfl, ?_⟩) ?_ ?_
  rotate_left
  · intro w'
    go_simp
    with_reducible rfl
  rotate_left
  · simp only [Act.put, List.setIfInBounds_toArray, List.set_cons_zero, List.set_cons_succ, i64_w, i32_w]
    rfl
  refine take_ (i := 3) (N := some 11) (v := ?_) (a' := ?_) #[true, true, true, true, false, false, false, false, false, false, false] rfl rfl (take_ofW HT_.out HW_.out (by kernel_rfl)) (fun _ _ _ h => h) (Or.inl ⟨by rfl, ?_⟩) hHeld ?_ ?_
  rotate_left
  · rintro w' ⟨s0, s1, s2⟩
    go_simp
    with_reducible rfl
  rotate_left
  · simp only [Act.put, List.setIfInBounds_toArray, List.set_cons_zero, List.set_cons_succ, i64_w, i32_w]
    rfl
  refine take_ (i := 4) (N := some 12) (v := ?_) (a' := ?_) #[true, true, true, true, true, false, false, false, false, false, false] rfl rfl (take_ofW HT_.out HW_.out (by kernel_rfl)) (fun _ _ _ h => h) (Or.inl ⟨by rfl, ?_⟩) hHeld ?_ ?_
  rotate_left
  · rintro w' ⟨s0, s1, s2⟩
    go_simp
    with_reducible rfl
  rotate_left
  · simp only [Act.put, List.setIfInBounds_toArray, List.set_cons_zero, List.set_cons_succ, i64_w, i32_w]
    rfl
  refine take_ (i := 5) (N := some 13) (v := ?_) (a' := ?_) #[true, true, true, true, true, true, false, false, false, false, false] rfl rfl (take_ofW HT_.out HW_.out (by kernel_rfl)) (fun _ _ _ h => h) (Or.inl ⟨by rfl, ?_⟩) hHeld ?_ ?_
  rotate_left
  · rintro w' ⟨s0, s1, s2⟩
    go_simp
    with_reducible rfl
  rotate_left
  · simp only [Act.put, List.setIfInBounds_toArray, List.set_cons_zero, List.set_cons_succ, i64_w, i32_w]
    rfl
  refine pure_ (i := 6) (N := some 7) (v := ?_) (a' := ?_) #[true, true, true, true, true, true, true, false, false, false, false] rfl rfl (any_of HT_.out (by kernel_rfl)) (fun _ _ _ h => h) (Or.inl ⟨by rfl, ?_⟩) ?_ ?_
  rotate_left
  · intro w'
    go_simp
    with_reducible rfl
  rotate_left
  · simp only [Act.put, List.setIfInBounds_toArray, List.set_cons_zero, List.set_cons_succ, i64_w, i32_w]
    rfl
  refine pure_ (i := 7) (N := some 14) (v := ?_) (a' := ?_) #[true, true, true, true, true, true, true, true, false, false, false] rfl rfl (any_of HT_.out (by kernel_rfl)) (fun _ _ _ h => h) (Or.inl ⟨by rfl, ?_⟩) ?_ ?_
  rotate_left
  · intro w'
    go_simp
    with_reducible rfl
  rotate_left
  · simp only [Act.put, List.setIfInBounds_toArray, List.set_cons_zero, List.set_cons_succ, i64_w, i32_w]
    rfl
  refine pure_ (i := 8) (N := some 15) (v := ?_) (a' := ?_) #[true, true, true, true, true, true, true, true, true, false, false] rfl rfl (any_of HT_.out (by kernel_rfl)) (fun _ _ _ h => h) (Or.inl ⟨by rfl, ?_⟩) ?_ ?_
  rotate_left
  · intro w'
    go_simp
    with_reducible rfl
  rotate_left
  · simp only [Act.put, List.setIfInBounds_toArray, List.set_cons_zero, List.set_cons_succ, i64_w, i32_w]
    rfl
  refine pure_ (i := 9) (N := some 5) (v := ?_) (a' := ?_) #[true, true, true, true, true, true, true, true, true, true, false] rfl rfl (any_of HT_.out (by kernel_rfl)) (fun _ _ _ h => h) (Or.inl ⟨by rfl, ?_⟩) ?_ ?_
  rotate_left
  · intro w'
    go_simp
    with_reducible rfl
  rotate_left
  · simp only [Act.put, List.setIfInBounds_toArray, List.set_cons_zero, List.set_cons_succ, i64_w, i32_w]
    rfl
  refine pure_ (i := 10) (N := some 6) (v := ?_) (a' := ?_) #[true, true, true, true, true, true, true, true, true, true, true] rfl rfl (any_of HT_.out (by kernel_rfl)) (fun _ _ _ h => h) (Or.inl ⟨by rfl, ?_⟩) ?_ ?_
  rotate_left
  · intro w'
    go_simp
    with_reducible rfl
  rotate_left
  · simp only [Act.put, List.setIfInBounds_toArray, List.set_cons_zero, List.set_cons_succ, i64_w, i32_w]
    rfl
  refine done_ (done_of HT_.out (by kernel_rfl)) ?_
  refine NoPanic.normal ?_
  clear HT_ HW_ hHeld
  go_upto_region 2 with fail
  have HC2 := Aside0.mk (HC1.out.later (below_drew (Below.refl _ _)))
  have HK2 := Aside0.mk (blk_drew HK1.out)
  have HT2 := Aside0.mk (HT1.out.trans (Turn.of_below (below_drew (Below.refl _ _))))
  clear HC1 HK1 HT1 HLK
  refine wp_region_noPanic ?_
  refine start_ (n := 6) (S := fun w' => w'.cell? ⟨CB, 1, none⟩ = some (.map (some MB)) ∧ w'.cell? ⟨KB, 0, none⟩ = some (.string key)) (ds := [5]) #[false, false, false, false, false, false] (by kernel_rfl) rfl rfl ⟨(blk_cell HC2.out.blk 1).trans rfl, (blk_cell HK2.out 0).trans rfl⟩ (fun hHeld => ?_); refine with_tabW drop_tab2 drop_bits2 (fun HT_ HW_ => ?_)
  generalize W1.drew = W2 at *
  refine pure_ (i := 0) (N := some 16) (v := ?_) (a' := ?_) #[true, false, false, false, false, false] rfl rfl (any_of HT_.out (by kernel_rfl)) (fun _ _ _ h => h) (Or.inl ⟨by rfl, ?_⟩) ?_ ?_
  rotate_left
  · intro w'
    go_simp
    with_reducible rfl
  rotate_left
  · simp only [Act.put, List.setIfInBounds_toArray, List.set_cons_zero, List.set_cons_succ, i64_w, i32_w]
    rfl
  refine pure_ (i := 1) (N := some 17) (v := ?_) (a' := ?_) #[true, true, false, false, false, false] rfl rfl (any_of HT_.out (by kernel_rfl)) (fun _ _ _ h => h) (Or.inl ⟨by rfl, ?_⟩) ?_ ?_
  rotate_left
  · intro w'
    go_simp
    with_reducible rfl
  rotate_left
  · simp only [Act.put, List.setIfInBounds_toArray, List.set_cons_zero, List.set_cons_succ, i64_w, i32_w]
    rfl
  refine pure_ (i := 2) (N := some 18) (v := ?_) (a' := ?_) #[true, true, true, false, false, false] rfl rfl (any_of HT_.out (by kernel_rfl)) (fun _ _ _ h => h) (Or.inl ⟨by rfl, ?_⟩) ?_ ?_
  rotate_left
  · intro w'
    go_simp
    with_reducible rfl
  rotate_left
  · simp only [Act.put, List.setIfInBounds_toArray, List.set_cons_zero, List.set_cons_succ, i64_w, i32_w]
    rfl
  refine take_ (i := 3) (N := some 19) (v := ?_) (a' := ?_) #[true, true, true, true, false, false] rfl rfl (take_ofW HT_.out HW_.out (by kernel_rfl)) (fun _ _ _ h => h) (Or.inl ⟨by rfl, ?_⟩) hHeld ?_ ?_
  rotate_left
  · rintro w' ⟨s0, s1⟩
    go_simp
    with_reducible rfl
  rotate_left
  · simp only [Act.put, List.setIfInBounds_toArray, List.set_cons_zero, List.set_cons_succ, i64_w, i32_w]
    rfl
  refine take_ (i := 4) (N := some 20) (v := ?_) (a' := ?_) #[true, true, true, true, true, false] rfl rfl (take_ofW HT_.out HW_.out (by kernel_rfl)) (fun _ _ _ h => h) (Or.inl ⟨by rfl, ?_⟩) hHeld ?_ ?_
  rotate_left
  · rintro w' ⟨s0, s1⟩
    go_simp
    with_reducible rfl
  rotate_left
  · simp only [Act.put, List.setIfInBounds_toArray, List.set_cons_zero, List.set_cons_succ, i64_w, i32_w]
    rfl
  obtain ⟨W3, hdel, hi3, hg3⟩ := HC2.out.deleteG HKS.out 0
  refine last_ (i := 5) (N := none) #[true, true, true, true, true, true] rfl rfl (one_of HT_.out (by kernel_rfl)) (by decide) (fun K hK => ?_)
  refine step_list rfl (by rfl) ?_
  unfold Oper.wp
  go_simp
  refine hK.out _ _ ?_
  clear hK K hdel
  have HK3 := Aside0.mk (blk_grown HK2.out hg3 (fun e => HC2.out.map.ne HK2.out (by injection e)))
  have HT3 := Aside0.mk (HT2.out.trans (Turn.of_map hg3))
  have HC3 := Aside0.mk hi3
  clear hi3 hg3
  refine done_ (done_of HT_.out (by kernel_rfl)) ?_
  refine NoPanic.normal ?_
  clear HT_ HW_ hHeld
  obtain ⟨AO, cO, rfl⟩ := Kd.R_slice HC3.out.ord
  have c2 := HC3.out.cells.2.2.1
  go_wp2_with fail
  refine (delete_calls 26 (fun args w => enters_ Try.func26 (by kernel_rfl) rfl args w) key KB (isKey26 key KB) W3 base (.slice AO o.length cO) o HC3.out.ord (blk_lt HK3.out) ((blk_cell HK3.out 0).trans rfl) HKO.out HLO.out).mono ?_
  rintro e W4 ⟨v4, rfl, hR, hg, hv⟩
  have HB4 := Aside0.mk (blk_grown HC3.out.blk hg (Kd.R_ne HC3.out.ord HC3.out.blk (by decide)))
  have HM4 := Aside0.mk (HC3.out.map.ordGrown HC3.out.ord hg)
  have HT4 := Aside0.mk (HT3.out.trans (Turn.of_ord HC3.out.ord hg))
  have HV4 := Aside0.mk hR
  obtain ⟨A4, c4, e4⟩ := Kd.R_slice hR
  obtain ⟨n4, hn4⟩ : ∃ n, (notKey key o).length = n := ⟨_, rfl⟩
  rw [hn4] at e4
  subst e4
  clear hn4 hR hg hv c2 HC3 HK3 HT3 HC2 HK2 HT2
  have z0 := (blk_cell HB4.out 2).trans rfl
  have z1 := blk_frozen HB4.out 2
  go_wp2_with fail
  clear z0 z1
  go_ret
  rw [HBX.out]
  exact ⟨rfl, ⟨_, CInv.setOrd HB4.out HM4.out HV4.out HI.out.hC HI.out.hM⟩, HT4.out.trans (Turn.of_cache (grownBy_set _ _ _ _))⟩
end Go.Proofs.Ytjpbcmfppmiagaa.Print
