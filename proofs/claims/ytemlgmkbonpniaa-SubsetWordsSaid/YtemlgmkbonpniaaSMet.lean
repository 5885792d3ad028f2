/- subset.Build's closure met: the number of places that are told as a state. -/
import Derived.Test.YtemlgmkbonpniaaSKey
import Derived.Test.YtemlgmkbonpniaaMapK
import Derived.Test.YtemlgmkbonpniaaRCatM
namespace Go.Proofs.Ytemlgmkbonpniaa.Print
open Go.RowKit Go.Maps Go.Proofs.YtemlgmkbonpniaaW.PrintWords Go.Proofs.YtemlgmkbonpniaaW.PrintLast Go.Proofs.YtemlgmkbonpniaaW.PrintMore
set_option linter.unusedVariables false
set_option linter.unusedSimpArgs false
def met_T5 : Bool × List (List Nat × List Nat) := (true, [([], []), ([], []), ([], []), ([], []), ([], []), ([4], [4]), ([3, 5], [3, 5]), ([0, 1, 2, 6, 0, 1, 2, 6], [0, 1, 2]), ([6, 7, 0, 1, 2, 3, 4, 5, 6, 7], [6])])
def met_B5 : List Nat := [0, 0, 0, 0, 0, 16, 56, 127, 255]
theorem met_tab5 : rtab .any (opsOf Try.f60 5) = met_T5 := by kernel_rfl
theorem met_bits5 : waitsOk met_T5.2 met_B5 = true := by kernel_rfl

theorem keyS : KeyK 9 Value.string (fun s => s.size ≤ maxLen) := ⟨string_keyed Try.underlying9, fun s hs => ⟨_, Go.WideMaps.keyOf_string_mk Try.underlying9 hs⟩, fun x y h => by injection h⟩
theorem zero3 (w : World) : (zeroValue 3).run Try.prog w = .ok (.int .i64 0) w := by kernel_rfl
def Small (l : List Int) : Prop := ∀ x ∈ l, 0 ≤ x ∧ x < 65536
def stR (sts : List (List Int)) (i : Nat) : List Int := sts.getD i []
/-- The map tells of each state where it is. -/
def MapsTo (g : ByteArray → Option Value) (sts : List (List Int)) : Prop := ∀ s v, g s = some v ↔ ∃ i : Nat, i < sts.length ∧ keyB (stR sts i) = s ∧ v = .int .i64 (i : Int)
/-- Which state it is; a new one stands behind all. -/
def metR (sts : List (List Int)) (x : List Int) : Nat × List (List Int) := if x ∈ sts then (sts.idxOf x, sts) else (sts.length, sts ++ [x])
theorem stR_snoc (sts : List (List Int)) (x : List Int) (i : Nat) (h : i < sts.length + 1) : stR (sts ++ [x]) i = if i < sts.length then stR sts i else x := by
 unfold stR
 rw [List.getD_eq_getElem?_getD, List.getD_eq_getElem?_getD]
 by_cases q : i < sts.length
 ·rw [if_pos q, List.getElem?_append_left q]
 ·rw [if_neg q, List.getElem?_append_right (by omega), show i - sts.length = 0 by omega]; rfl
theorem stR_mem {sts : List (List Int)} {i : Nat} (h : i < sts.length) : stR sts i ∈ sts := by
 unfold stR
 rw [List.getD_eq_getElem?_getD, List.getElem?_eq_getElem h]
 exact List.getElem_mem _
theorem stR_idx {sts : List (List Int)} {x : List Int} (h : x ∈ sts) : sts.idxOf x < sts.length ∧ stR sts (sts.idxOf x) = x := by
 have h1 := List.idxOf_lt_length_of_mem h
 refine ⟨h1, ?_⟩
 unfold stR
 rw [List.getD_eq_getElem?_getD, List.getElem?_eq_getElem h1]
 exact List.getElem_idxOf h1
theorem maps_hit {g : ByteArray → Option Value} {sts : List (List Int)} (h : MapsTo g sts) {x : List Int} (hx : x ∈ sts) : g (keyB x) = some (.int .i64 ((sts.idxOf x : Nat) : Int)) :=
 (h _ _).2 ⟨_, (stR_idx hx).1, by rw [(stR_idx hx).2], rfl⟩
theorem maps_miss {g : ByteArray → Option Value} {sts : List (List Int)} (h : MapsTo g sts) {x : List Int} (hs : ∀ l ∈ sts, Small l) (hs2 : Small x) (hx : x ∉ sts) : g (keyB x) = none := by
 cases e : g (keyB x) with
 | none => rfl
 | some v =>
  obtain ⟨i, hi, he, _⟩ := (h _ _).1 e
  have := keyB_inj (hs _ (stR_mem hi)) hs2 he
  exact absurd (by rw [← this]; exact stR_mem hi) hx
theorem maps_new {g g' : ByteArray → Option Value} {sts : List (List Int)} (h : MapsTo g sts) {x : List Int} (hn : g (keyB x) = none) (e1 : g' (keyB x) = some (.int .i64 (sts.length : Int))) (e2 : ∀ s, s ≠ keyB x → g' s = g s) : MapsTo g' (sts ++ [x]) := by
 intro s v
 by_cases q : s = keyB x
 ·rw [q, e1]
  constructor
  ·intro hv
   refine ⟨sts.length, by simp, ?_, (Option.some.inj hv).symm⟩
   rw [stR_snoc _ _ _ (by omega), if_neg (by omega)]
  ·rintro ⟨i, hi, he, rfl⟩
   rw [List.length_append, List.length_singleton] at hi
   rw [stR_snoc _ _ _ hi] at he
   by_cases q2 : i < sts.length
   ·rw [if_pos q2] at he
    have := (h (keyB x) _).2 ⟨i, q2, he, rfl⟩
    rw [hn] at this; cases this
   ·rw [show i = sts.length by omega]
 ·rw [e2 s q, h]
  constructor
  ·rintro ⟨i, hi, he, hv⟩
   exact ⟨i, by rw [List.length_append]; omega, by rw [stR_snoc _ _ _ (by omega), if_pos hi]; exact he, hv⟩
  ·rintro ⟨i, hi, he, hv⟩
   rw [List.length_append, List.length_singleton] at hi
   rw [stR_snoc _ _ _ hi] at he
   by_cases q2 : i < sts.length
   ·rw [if_pos q2] at he; exact ⟨i, q2, he, hv⟩
   ·rw [if_neg q2] at he; exact absurd he.symm q
/-! ### memory -/
structure MetI (b0 KB MP SB : Nat) (sts m : List (List Int)) (vs vc : Value) (okS : Nat → Prop) (W : World) : Prop where
 kb : W.heap[KB]? = some (.cells #[.map (some MP)] 84 (0, 0))
 map : ∃ g, MapK Value.string (fun s => s.size ≤ maxLen) W MP g ∧ MapsTo g m
 sb : W.heap[SB]? = some (.cells #[vc] 28 (0, 0))
 rows : Kd.R kL 27 W b0 okS vs sts
 lo : b0 ≤ KB ∧ b0 ≤ MP ∧ b0 ≤ SB
/-- What is kept but for some blocks. -/
structure MetK (S : Nat → Prop) (W W' : World) : Prop where
 os : W'.os = W.os
 tape : W'.tape = W.tape
 output : W'.output = W.output
 size : W.heap.size ≤ W'.heap.size
 block : ∀ k, k < W.heap.size → ¬ S k → W'.heap[k]? = W.heap[k]?
def MetS (MP SB : Nat) (vs : Value) (k : Nat) : Prop := k = MP ∨ k = SB ∨ some k = vs.ownBlock
section
variable {b0 KB MP SB : Nat} {sts m : List (List Int)} {vs vc v1 : Value} {okS : Nat → Prop} {W W' W2 : World} {S : Nat → Prop}
theorem MetK.of_below (h : Below W.heap.size W W') : MetK S W W' := ⟨h.os, h.tape, h.output, h.size, fun k hk _ => h.block k hk⟩
theorem MetK.trans (h : MetK S W W') (h2 : MetK S W' W2) : MetK S W W2 := ⟨h2.os.trans h.os, h2.tape.trans h.tape, h2.output.trans h.output, Nat.le_trans h.size h2.size, fun k hk hn => (h2.block k (Nat.lt_of_lt_of_le hk h.size) hn).trans (h.block k hk hn)⟩
theorem MetK.of_grown (h : W.grownBy W' vs.ownBlock) : MetK (MetS MP SB vs) W W' := ⟨h.1, h.2, h.3, h.4, fun k hk hn => h.block k hk (fun e => hn (.inr (.inr e)))⟩
theorem MetK.of_map (h : W.grownBy W' (some MP)) : MetK (MetS MP SB vs) W W' := ⟨h.1, h.2, h.3, h.4, fun k hk hn => h.block k hk (fun e => hn (.inl (Option.some.inj e)))⟩
theorem MetK.of_set (j : Nat) (u : Value) : MetK (MetS MP SB vs) W (W.setCell ⟨SB, j, none⟩ u) := ⟨rfl, rfl, rfl, by simp [World.setCell], fun k hk hn => Below.heap_setCell _ _ _ k (fun e => hn (.inr (.inl e)))⟩
theorem MetK.below (h : MetK S W W') (hb : ∀ k, S k → b0 ≤ k) (h0 : b0 ≤ W.heap.size) : Below b0 W W' := ⟨h.os, h.tape, h.output, h.size, fun k hk => h.block k (by omega) (fun hs => by have := hb k hs; omega)⟩
theorem MetK.R {α : Type} {d : Kd α} {e b : Nat} {v : Value} {xs : List α} {ok : Nat → Prop} (h : MetK S W W') (hR : d.R e W b ok v xs) (hs : ∀ k, ok k → ¬ S k) : d.R e W' b ok v xs := Kd.R_step hR (fun k hk hlt => h.block k hlt (hs k hk))
theorem MetI.below (h : MetI b0 KB MP SB sts m vs vc okS W) (hb : Below W.heap.size W W') : MetI b0 KB MP SB sts m vs vc okS W' := by
 obtain ⟨g, hg, hm⟩ := h.map
 exact ⟨blk_below h.kb hb, ⟨g, hg.move (hb.block MP hg.lt), hm⟩, blk_below h.sb hb, Kd.R_below h.rows hb, h.lo⟩
theorem MetI.rows_ {sts' : List (List Int)} (h : MetI b0 KB MP SB sts m vs vs okS W) (hg : W.grownBy W' vs.ownBlock) (hR : Kd.R kL 27 W' b0 okS v1 sts') : MetI b0 KB MP SB sts' m v1 vs okS W' := by
 obtain ⟨g, hm, hmt⟩ := h.map
 refine ⟨blk_grown h.kb hg (Kd.R_ne h.rows h.kb (by decide)), ⟨g, hm.move (hg.block MP hm.lt (fun e => ?_)), hmt⟩, blk_grown h.sb hg (Kd.R_ne h.rows h.sb (by decide)), hR, h.lo⟩
 obtain ⟨cs, hc⟩ := Kd.R_typed h.rows MP e.symm
 exact hm.ne hc rfl
theorem R_map {α : Type} {d : Kd α} {e b : Nat} {v : Value} {xs : List α} {ok : Nat → Prop} {es : Array MapEntry} {ck : Nat} (h : d.R e W b ok v xs) (hm : W.heap[MP]? = some (.map es ck)) (hg : W.grownBy W' (some MP)) : d.R e W' b ok v xs :=
 Kd.R_mono (Kd.R_step (Kd.R_bound h) (fun k hk hlt => hg.block k hlt (fun e => by
  obtain ⟨_, _, _, q, _, cs, hc⟩ := hk
  rw [Option.some.inj e, hm] at hc
  cases hc))) (fun k hk => hk.1)
theorem MetI.put (K : KeyK 9 Value.string (fun s => s.size ≤ maxLen)) (ht : Try.prog.underlying 84 = some (.map 9 3)) {x : List Int} (h : MetI b0 KB MP SB (sts ++ [x]) sts v1 vc okS W) (hx : (keyB x).size ≤ maxLen ∧ ∀ g, MapsTo g sts → g (keyB x) = none) (n : Int) (hn : n = (sts.length : Int) := by rfl) :
  ∃ W', (Instr.mapUpdate 84 (.map (some MP)) (.string (keyB x)) (.int .i64 n)).run Try.prog W = .ok () W' ∧ MetI b0 KB MP SB (sts ++ [x]) (sts ++ [x]) v1 vc okS W' ∧ W.grownBy W' (some MP) := by
 obtain ⟨g, hm, hmt⟩ := h.map
 obtain ⟨es, ck, f, hes, _⟩ := id hm
 obtain ⟨W', h1, ⟨g', h2, h3⟩, h4⟩ := hm.put K ht hx.1 (.int .i64 n)
 refine ⟨W', h1, ⟨blk_grown h.kb h4 (fun e => hm.ne h.kb (Option.some.inj e)), ⟨g', h2, maps_new hmt (hx.2 g hmt) ((h3 _).trans (by rw [if_pos rfl, hn])) (fun s hs => (h3 s).trans (if_neg hs))⟩, blk_grown h.sb h4 (fun e => hm.ne h.sb (Option.some.inj e)), R_map h.rows hes h4, h.lo⟩, h4⟩
theorem MetI.store (h : MetI b0 KB MP SB sts m vs vc okS W) : MetI b0 KB MP SB sts m vs vs okS (W.setCell ⟨SB, 0, none⟩ vs) := by
 obtain ⟨g, hm, hmt⟩ := h.map
 exact ⟨blk_far h.kb (blk_ne h.kb h.sb (by decide)) vs, ⟨g, hm.move (Below.heap_setCell _ _ _ MP (fun e => hm.ne h.sb e.symm)), hmt⟩, blk_put h.sb 0 vs rfl, Kd.R_set h.rows h.sb (fun q hq => by simp [kL, Kd.slice, Kd.int, Kd.scalar] at hq; omega) 0 vs, h.lo⟩
end
set_option maxHeartbeats 16000000 in
set_option maxRecDepth 100000 in
theorem met_calls {b0 KB MP SB : Nat} (sts : List (List Int)) (AS : Option Addr) (cS : Nat) (okS okX : Nat → Prop) (A : Option Addr) (c : Nat) (x : List Int) (W : World)
  (h : MetI b0 KB MP SB sts sts (.slice AS sts.length cS) (.slice AS sts.length cS) okS W) (hsm : ∀ l ∈ sts, Small l) (hx : Small x) (hR : Kd.R (Kd.int .i64) 3 W b0 okX (.slice A x.length c) x) (hox : ∀ k, okX k → okS k) (hon : ∀ k, okX k → some k ≠ (.slice AS sts.length cS : Value).ownBlock) (hfr : ∀ k, W.heap.size ≤ k → okS k) (hln : sts.length < 1000000) (hxl : x.length < 1000000) (h0 : b0 ≤ W.heap.size) :
  Calls Try.prog 60 #[.slice A x.length c, .pointer (some ⟨KB, 0, none⟩), .pointer (some ⟨SB, 0, none⟩)] W fun e w' => ∃ A' c', e = .returned (.int .i64 ((metR sts x).1 : Int)) ∧ MetI b0 KB MP SB (metR sts x).2 (metR sts x).2 (.slice A' (metR sts x).2.length c') (.slice A' (metR sts x).2.length c') okS w' ∧ ((.slice A' (metR sts x).2.length c' : Value).ownBlock = (.slice AS sts.length cS : Value).ownBlock ∨ ∃ b, (.slice A' (metR sts x).2.length c' : Value).ownBlock = some b ∧ W.heap.size ≤ b) ∧ MetK (MetS MP SB (.slice AS sts.length cS)) W w' := by
 have HI := Aside0.mk h
 have HX := Aside0.mk hR
 have HOX := Aside0.mk hox
 have HON := Aside0.mk hon
 have HFR := Aside0.mk hfr
 have HLN := Aside0.mk hln
 have HXL := Aside0.mk hxl
 have HB0 := Aside0.mk h0
 have HKZ := Aside0.mk (show (keyB x).size ≤ maxLen by
  have h1 := bytesB_len x
  have h2 : (keyB x).size = (bytesB x).length := by unfold keyB strOfNums; simp [ByteArray.size]
  rw [h2, h1]
  simp only [maxLen]
  omega)
 have HSZ := Aside0.mk (show x ∉ sts → (keyB x).size ≤ maxLen ∧ ∀ g, MapsTo g sts → g (keyB x) = none from fun hn => ⟨HKZ.out, fun g hg => maps_miss hg hsm hx hn⟩)
 clear h hR hox hon hfr hln hxl h0 hsm hx
 go_enter Try.func60, Try.ntmps60
 go_upto_region 2 with (go_at_call 61; refine (key_calls W A c x (Kd.R_reads' HX.out).2.2 HXL.out).mono ?_; rintro e W2 ⟨rfl, hb⟩; have HI2 := Aside0.mk (HI.out.below hb); have HX2 := Aside0.mk (Kd.R_below HX.out hb); have HK2 := Aside0.mk (MetK.of_below (S := MetS MP SB (.slice AS sts.length cS)) hb); clear hb)
 clear HI HX
 obtain ⟨g, hm, hmt⟩ := HI2.out.map
 have HM := Aside0.mk hm
 have HMT := Aside0.mk hmt
 clear hm hmt
 have n0 := (blk_cell HI2.out.kb 0).trans rfl
 have n1 := (blk_cell HI2.out.sb 0).trans rfl
 by_cases q : x ∈ sts
 ·have HE := Aside0.mk (show metR sts x = (sts.idxOf x, sts) from if_pos q)
  have hl := (HM.out.hit keyS Try.underlying84 HKZ.out (maps_hit HMT.out q)).1
  clear q
  go_wp2_with fail
  go_ret
  rw [HE.out]
  exact ⟨AS, cS, rfl, HI2.out, .inl rfl, HK2.out⟩
 ·have HE := Aside0.mk (show metR sts x = (sts.length, sts ++ [x]) from if_neg q)
  have HSZ := Aside0.mk (HSZ.out q)
  have hl := (HM.out.miss keyS Try.underlying84 zero3 HKZ.out (HSZ.out.2 g HMT.out)).1
  clear q
  go_upto_region 5 with fail
  clear hl n0 n1 HM HMT
  obtain ⟨i27, hi27, hz27, hs27, hb27⟩ := info_parts info27
  have HI3 := Aside0.mk (HI2.out.below (below_drew (Below.refl W2.heap.size W2)))
  have HK3 := Aside0.mk (HK2.out.trans (MetK.of_below (S := MetS MP SB (.slice AS sts.length cS)) (below_drew (Below.refl W2.heap.size W2))))
  have HX3 := Aside0.mk (Kd.R_below HX2.out (below_drew (Below.refl W2.heap.size W2)))
  clear HI2 HK2 HX2
  refine wp_region_noPanic ?_
  refine start_ (n := 9) (S := fun w' => w'.cell? ⟨KB, 0, none⟩ = some (.map (some MP)) ∧ w'.cell? ⟨SB, 0, none⟩ = some (.slice AS sts.length cS)) (ds := [8]) #[false, false, false, false, false, false, false, false, false] (by kernel_rfl) rfl rfl ⟨(blk_cell HI3.out.kb 0).trans rfl, (blk_cell HI3.out.sb 0).trans rfl⟩ (fun hHeld => ?_); refine with_tabW met_tab5 met_bits5 (fun HT_ HW_ => ?_)
  obtain ⟨W3, hW3⟩ : ∃ w, W2.drew = w := ⟨_, rfl⟩
  rw [hW3] at HI3 HK3 HX3 hHeld ⊢
  clear hW3
  refine take_ (i := 0) (N := some 20) (v := ?_) (a' := ?_) #[true, false, false, false, false, false, false, false, false] rfl rfl (take_ofW HT_.out HW_.out (by kernel_rfl)) (fun _ _ _ h => h) (Or.inl ⟨by rfl, ?_⟩) hHeld ?_ ?_
  rotate_left
  ·rintro w' ⟨s0, s1⟩
   go_simp
   with_reducible rfl
  rotate_left
  ·simp only [Act.put, List.setIfInBounds_toArray, List.set_cons_zero, List.set_cons_succ, i64_w, i32_w]
   rfl
  refine pure_ (i := 1) (N := some 21) (v := ?_) (a' := ?_) #[true, true, false, false, false, false, false, false, false] rfl rfl (any_of HT_.out (by kernel_rfl)) (fun _ _ _ h => h) (Or.inl ⟨by rfl, ?_⟩) ?_ ?_
  rotate_left
  ·intro w'
   go_simp
   with_reducible rfl
  rotate_left
  ·simp only [Act.put, List.setIfInBounds_toArray, List.set_cons_zero, List.set_cons_succ, i64_w, i32_w]
   rfl
  refine pure_ (i := 2) (N := some 22) (v := ?_) (a' := ?_) #[true, true, true, false, false, false, false, false, false] rfl rfl (any_of HT_.out (by kernel_rfl)) (fun _ _ _ h => h) (Or.inl ⟨by rfl, ?_⟩) ?_ ?_
  rotate_left
  ·intro w'
   go_simp
   with_reducible rfl
  rotate_left
  ·simp only [Act.put, List.setIfInBounds_toArray, List.set_cons_zero, List.set_cons_succ, i64_w, i32_w]
   rfl
  refine take_ (i := 3) (N := some 23) (v := ?_) (a' := ?_) #[true, true, true, true, false, false, false, false, false] rfl rfl (take_ofW HT_.out HW_.out (by kernel_rfl)) (fun _ _ _ h => h) (Or.inl ⟨by rfl, ?_⟩) hHeld ?_ ?_
  rotate_left
  ·rintro w' ⟨s0, s1⟩
   go_simp
   with_reducible rfl
  rotate_left
  ·simp only [Act.put, List.setIfInBounds_toArray, List.set_cons_zero, List.set_cons_succ, i64_w, i32_w]
   rfl
  refine pure_ (i := 4) (N := some 24) (v := ?_) (a' := ?_) #[true, true, true, true, true, false, false, false, false] rfl rfl (any_of HT_.out (by kernel_rfl)) (fun _ _ _ h => h) (Or.inl ⟨by rfl, ?_⟩) ?_ ?_
  rotate_left
  ·intro w'
   go_simp
   with_reducible rfl
  rotate_left
  ·simp only [Act.put, List.setIfInBounds_toArray, List.set_cons_zero, List.set_cons_succ, i64_w, i32_w]
   rfl
  refine one_ (i := 5) (N := some 25) #[true, true, true, true, true, true, false, false, false] rfl rfl (one_of HT_.out (by kernel_rfl)) (by decide) (fun K hK => ?_)
  refine step_list rfl (by rfl) ?_
  unfold Oper.wp
  go_simp
  have hb := below_alloc (Below.refl W3.heap.size W3) (.cells #[.slice A x.length c] 27)
  have HX := Aside0.mk (blk_new W3 (.cells #[.slice A x.length c] 27))
  have HI4 := Aside0.mk (HI3.out.below hb)
  have HK4 := Aside0.mk (HK3.out.trans (MetK.of_below hb))
  have HX4 := Aside0.mk (Kd.R_below HX3.out hb)
  refine hK.out _ _ ⟨(blk_cell HI4.out.kb 0).trans rfl, (blk_cell HI4.out.sb 0).trans rfl⟩ (fun hHeld => ?_)
  clear hK K hb HI3 HK3 HX3
  obtain ⟨BX, hBX⟩ : ∃ n, W3.heap.size = n := ⟨_, rfl⟩
  rw [hBX] at HX ⊢
  clear hBX
  obtain ⟨W4, hW4⟩ : ∃ w, W3.alloc (.cells #[.slice A x.length c] 27) = w := ⟨_, rfl⟩
  rw [hW4] at HX HI4 HK4 HX4 hHeld ⊢
  clear hW4
  refine one_ (i := 6) (N := some 26) #[true, true, true, true, true, true, true, false, false] rfl rfl (one_of HT_.out (by kernel_rfl)) (by decide) (fun K hK => ?_)
  refine R_app_step kL (W := W4) b0 (by rfl) (.tmp 23) (.tmp 25) 28 27 i27 (.slice none 0 0) 24 rfl Try.underlying28 hi27 hz27 hs27 hb27 rfl (by decide) (.slice AS sts.length cS) sts x [.slice A x.length c] okS okX rfl ⟨BX, 0, none⟩ rfl (cell_one HX.out) ⟨_, rfl, HX4.out⟩ (fun k hk => ⟨HOX.out k hk, HON.out k hk⟩) (fun k hk => HFR.out k (Nat.le_trans HK4.out.size hk)) HI4.out.rows (Nat.le_trans HB0.out HK4.out.size) (by have := HLN.out; simp only [maxLen]; omega) (by have := HLN.out; omega) ?_
  intro v6 W5 hR6 hg6 hat6
  have HI5 := Aside0.mk (HI4.out.rows_ hg6 hR6)
  have HK5 := Aside0.mk (HK4.out.trans (MetK.of_grown hg6))
  obtain ⟨A6, c6, rfl⟩ := Kd.R_slice hR6
  have HAT := Aside0.mk (show (.slice A6 (sts ++ [x]).length c6 : Value).ownBlock = (.slice AS sts.length cS : Value).ownBlock ∨ ∃ b, (.slice A6 (sts ++ [x]).length c6 : Value).ownBlock = some b ∧ W.heap.size ≤ b from hat6.imp id (fun ⟨b, e, h⟩ => ⟨b, e, Nat.le_trans HK4.out.size h⟩))
  refine hK.out _ _ ⟨(blk_cell HI5.out.kb 0).trans rfl, (blk_cell HI5.out.sb 0).trans rfl⟩ (fun hHeld => ?_)
  clear hK K
  refine norm_ (a' := ?_) ?_ ?_
  rotate_left
  ·show Act.put _ (some 26) _ = _
   simp only [Act.put, List.setIfInBounds_toArray, List.set_cons_zero, List.set_cons_succ, i64_w, i32_w]
   rfl
  clear hR6 hg6 hat6 HI4 HK4 HX4 HX
  obtain ⟨W6, hput, hmg, hgr⟩ := HI5.out.put keyS Try.underlying84 HSZ.out (sts.length : Int)
  refine one_ (i := 7) (N := none) #[true, true, true, true, true, true, true, true, false] rfl rfl (one_of HT_.out (by kernel_rfl)) (by decide) (fun K hK => ?_)
  refine step_list rfl (by rfl) ?_
  unfold Oper.wp
  go_simp
  have HI6 := Aside0.mk hmg
  have HK6 := Aside0.mk (HK5.out.trans (MetK.of_map hgr))
  refine hK.out _ _ ⟨(blk_cell HI6.out.kb 0).trans rfl, (blk_cell HI6.out.sb 0).trans rfl⟩ (fun hHeld => ?_)
  clear hK K hput hmg hgr HI5 HK5
  have z1 := (blk_cell HI6.out.sb 0).trans rfl
  have z2 := blk_frozen HI6.out.sb 0
  refine last_ (i := 8) (N := none) #[true, true, true, true, true, true, true, true, true] rfl rfl (one_of HT_.out (by kernel_rfl)) (by decide) (fun K hK => ?_)
  refine step_list rfl (by rfl) ?_
  unfold Oper.wp
  go_simp
  refine hK.out _ _ ?_
  clear hK K z1 z2
  refine done_ (done_of HT_.out (by kernel_rfl)) ?_
  refine NoPanic.normal ?_
  clear HT_ HW_ hHeld
  have HI7 := Aside0.mk HI6.out.store
  have HK7 := Aside0.mk (HK6.out.trans (MetK.of_set 0 (.slice A6 (sts ++ [x]).length c6)))
  have hll : (sts ++ [x]).length = sts.length + 1 := by simp
  obtain ⟨W7, hW7⟩ : ∃ w, W6.setCell ⟨SB, 0, none⟩ (.slice A6 (sts ++ [x]).length c6) = w := ⟨_, rfl⟩
  rw [hW7] at HI7 HK7
  try rw [hll] at hW7
  first | rw [hW7] | skip
  clear hW7 hll HI6 HK6
  go_wp2_with fail
  go_ret
  rw [HE.out]
  exact ⟨A6, c6, rfl, HI7.out, HAT.out, HK7.out⟩
end Go.Proofs.Ytemlgmkbonpniaa.Print
