/- The reference's Put. -/
import Derived.Test.YtjpbcmfppmiagaaKeptN
namespace Go.Proofs.Ytjpbcmfppmiagaa.Print
open Go.RowKit Go.Maps Go.Proofs.YtjpbcmfppmiagaaW.PrintWords Go.Proofs.YtjpbcmfppmiagaaW.PrintLast Go.Proofs.YtjpbcmfppmiagaaW.PrintMore
set_option linter.unusedVariables false
set_option linter.unusedSimpArgs false

theorem info3 : (Try.prog.info? 3).map (fun i => (i.zero, i.size, i.bytes)) = some (some (.int .i64 0), 1, 8) := by kernel_rfl
def rput_T2 : Bool × List (List Nat × List Nat) := (true, [([], []), ([0], [0]), ([1], [1]), ([2], [2]), ([3], [3]), ([], []), ([5], [5]), ([6], [6]), ([7], [7]), ([4, 8], [4, 8])])
def rput_B2 : List Nat := [0, 1, 3, 7, 15, 0, 32, 96, 224, 511]
theorem rput_tab2 : rtab .any (opsOf Try.f27 2) = rput_T2 := by kernel_rfl
theorem rput_bits2 : waitsOk rput_T2.2 rput_B2 = true := by kernel_rfl
theorem R_empty3 {base : Nat} (W : World) (h : base ≤ W.heap.size) : Kd.R (Kd.int .i64) 3 (W.alloc (.cells #[] 3)) base (fun _ => True) (.slice (some ⟨W.heap.size, 0, none⟩) 0 0) [] :=
  ⟨fun _ _ => trivial, [], World.ownsRow_lit (base := base) (e := 3) (size := 1) W #[] 0 h (by decide) rfl, Reps.none _ _⟩
theorem dropK_len (key : ByteArray) : ∀ ks : List S65, (dropK key ks).length ≤ ks.length
  | [] => Nat.le_refl _
  | x :: r => by
    rw [dropK]
    split
    · simp
    · have := dropK_len key r
      simp only [List.length_cons]
      omega
theorem own_new {v v1 : Value} {N n : Nat} (h : ∀ k, v.ownBlock = some k → N ≤ k) (hn : N ≤ n) (hat : v1.ownBlock = v.ownBlock ∨ ∃ b, v1.ownBlock = some b ∧ n ≤ b) : ∀ k, v1.ownBlock = some k → N ≤ k := fun k hk => by
  rcases hat with e | ⟨b, e, hb⟩
  · rw [e] at hk; exact h k hk
  · rw [e] at hk
    obtain rfl := Option.some.inj hk
    exact Nat.le_trans hn hb
/-- What is kept behind a put. -/
def addK' (key : ByteArray) (l : List Int) (ks : List S65) : List S65 := dropK key ks ++ [⟨key, l⟩]
def putK (most : Int) (key : ByteArray) (l : List Int) (ks : List S65) : List S65 := if ((addK' key l ks).length : Int) > most then (addK' key l ks).drop 1 else addK' key l ks
set_option maxHeartbeats 16000000 in
set_option maxRecDepth 100000 in
theorem rput_calls (base RB : Nat) (A : Option Addr) (c : Nat) (most : Int) (ks : List S65) (h nt : Int) (W : World) (key : ByteArray) (A0 : Option Addr) (c0 : Nat) (l : List Int) (hi : RInv base RB A c most ks h nt W) (hb : base ≤ W.heap.size) (hl : ks.length ≤ 10000) (W0 : World) (hB : Below W0.heap.size W0 W) (hRB : W0.heap.size ≤ RB) (hr : Kd.C (Kd.int .i64) W0 A0 l.length l) (hll : l.length ≤ 17592186043904) :
    Calls Try.prog 27 #[.pointer (some ⟨RB, 0, none⟩), .string key, .slice A0 l.length c0] W fun e w' => e = .returned (.tuple #[]) ∧ (∃ A' c', RInv base RB A' c' most (putK most key l ks) h nt w') ∧ W.grownBy w' (some RB) := by
  have HI := Aside0.mk hi
  have HS := Aside0.mk hb
  have HL := Aside0.mk hl
  have HR := Aside0.mk hr
  have HLL := Aside0.mk hll
  have HB0 := Aside0.mk hB
  have HRB := Aside0.mk hRB
  clear hi hb hl hr hll hB hRB
  go_enter Try.func27, Try.ntmps27
  go_wp2_with fail
  refine (rdrop_calls base RB A c most ks h nt W key HI.out HS.out (by have := HL.out; omega)).mono ?_
  rintro e W1 ⟨rfl, ⟨A1, c1, hi1⟩, hg1⟩
  have HI1 := Aside0.mk hi1
  have HG1 := Aside0.mk hg1
  have HS1 := Aside0.mk (Nat.le_trans HS.out hg1.size)
  have HR1 := Aside0.mk (show Kd.C (Kd.int .i64) W1 A0 l.length l from Kd.C_below HR.out (HB0.out.grown hg1 HB0.out.size (fun k hk => by obtain rfl := Option.some.inj hk; exact HRB.out)))
  have HDL := Aside0.mk (show (dropK key ks).length ≤ 10000 from Nat.le_trans (dropK_len key ks) HL.out)
  obtain ⟨ds, hds⟩ : ∃ ds, dropK key ks = ds := ⟨_, rfl⟩
  rw [hds] at HI1 HDL
  have HDS := Aside0.mk hds
  clear hi1 hg1 hds
  have HB2 := Aside0.mk (below_alloc (Below.refl W1.heap.size W1) (.cells #[] 65))
  have HE2 := Aside0.mk (R_empty W1 HS1.out)
  have HI2 := Aside0.mk (HI1.out.later HB2.out)
  have z1 := HI2.out.cells.2.1
  go_wp2_with (first | ((with_reducible refine gate_builtin (b := .append) (xs := #[.tmp 10, .tmp 14]) rfl ?_); at_builtin; refine Kd.R_append_rows k65 (w0 := W1) base rfl (.tmp 10) (.tmp 14) 53 65 (.agg #[.string ⟨#[]⟩, .slice none 0 0]) 40 rfl Try.underlying53 info65 rfl (by decide) (by omega) (.slice (some ⟨W1.heap.size, 0, none⟩) 0 0) [] ds A1 ds.length c1 (fun _ => True) (fun k => some k ≠ (.slice (some ⟨W1.heap.size, 0, none⟩) 0 0 : Value).ownBlock) rfl rfl HE2.out HI2.out.row.row (fun _ _ hM => M_apart HE2.out hM) (fun _ hk => ⟨trivial, hk⟩) (fun _ _ => trivial) (HB2.out.mono HS1.out) (Nat.le_trans HS1.out HB2.out.size) (by have := HDL.out; simp only [List.length_nil]; omega) ?_; intro v3 W3 hR3 _ hg3 hat3; have HB3 := Aside0.mk (HB2.out.grown hg3 HB2.out.size (fun k hk => by obtain rfl := Option.some.inj hk; exact Nat.le_refl _)); have HE3 := Aside0.mk (show Kd.R k65 65 W3 base (fun _ => True) v3 ds from hR3); have HF3 := Aside0.mk (own_new (v := (.slice (some ⟨W1.heap.size, 0, none⟩) 0 0)) (N := W1.heap.size) (fun k hk => by obtain rfl := Option.some.inj hk; exact Nat.le_refl _) HB2.out.size hat3); have HS3 := Aside0.mk (Nat.le_trans HS1.out HB3.out.size); have HB4 := Aside0.mk (below_alloc HB3.out (.cells #[] 3)); have HE4 := Aside0.mk (R_empty3 W3 HS3.out); clear hR3 hg3 hat3 z1) | ((with_reducible refine gate_builtin (b := .append) (xs := #[.tmp 17, .tmp 18]) rfl ?_); at_builtin; refine Kd.R_append_rows (Kd.int .i64) (w0 := W1) base rfl (.tmp 17) (.tmp 18) 29 3 (.int .i64 0) 8 rfl Try.underlying29 info3 rfl (by decide) (by omega) (.slice (some ⟨W3.heap.size, 0, none⟩) 0 0) [] l A0 l.length c0 (fun _ => True) (fun _ => False) rfl rfl HE4.out (Kd.C_below HR1.out HB4.out) (fun _ _ h => h) (fun _ hk => hk.elim) (fun _ _ => trivial) (HB4.out.mono HS1.out) (Nat.le_trans HS1.out HB4.out.size) (by have := HLL.out; simp only [List.length_nil]; omega) ?_; intro v5 W5 hR5 _ hg5 hat5; have HB5 := Aside0.mk (HB4.out.grown hg5 HB4.out.size (fun k hk => by obtain rfl := Option.some.inj hk; exact HB3.out.size)); have hR5b : Kd.R (Kd.int .i64) 3 W5 base (fun _ => True) v5 l := hR5; obtain ⟨A5, c5, e5⟩ := Kd.R_slice hR5b; subst e5; have HE5 := Aside0.mk hR5b; have HK5 := Aside0.mk (show Kd.R k65 65 W5 base (fun _ => True) v3 ds from Kd.R_below HE3.out ((below_alloc (Below.refl W3.heap.size W3) (.cells #[] 3)).grown hg5 (below_alloc (Below.refl W3.heap.size W3) (.cells #[] 3)).size (fun k hk => by obtain rfl := Option.some.inj hk; exact Nat.le_refl _))); clear hR5 hR5b hg5 hat5) | ((with_reducible refine gate_builtin (b := .append) (xs := #[.tmp 15, .tmp 21]) rfl ?_); at_builtin; refine Kd.R_append k65 (w0 := W1) base rfl (.tmp 15) (.tmp 21) 53 65 (.agg #[.string ⟨#[]⟩, .slice none 0 0]) 40 rfl Try.underlying53 info65 rfl (by decide) (by omega) v3 ds ⟨key, l⟩ [.string key, .slice A5 l.length c5] (fun _ => True) (fun k => some k ≠ v3.ownBlock) rfl rfl (M_apart HK5.out (k65_mkM W5 base (fun _ => True) ⟨key, l⟩ HE5.out)) (fun _ hk => ⟨trivial, hk⟩) (fun _ _ => trivial) HK5.out (HB5.out.mono HS1.out) (Nat.le_trans HS1.out HB5.out.size) (by have := HDL.out; omega) ?_; intro v6 W6 hR6 _ hg6 hat6; have HB6 := Aside0.mk (HB5.out.grown hg6 HB5.out.size (fun k hk => HF3.out k hk)); obtain ⟨A6, c6, e6, hk6⟩ := Kept.of_R (show Kd.R k65 65 W6 base (fun _ => True) v6 (addK' key l ks) by unfold addK'; rw [HDS.out]; exact hR6); subst e6; have HK6 := Aside0.mk hk6; have HI6 := Aside0.mk (HI1.out.later HB6.out); have z1 := HI6.out.cells.2.1; have f1 := blk_frozen HI6.out.blk 1; clear hR6 hg6 hat6 hk6))
  have HI7 := Aside0.mk (RInv.setRow (W := W6) HI6.out.blk HK6.out)
  have HG7 := Aside0.mk (HG1.out.trans ((grownBy_below HB6.out (some RB)).trans (grownBy_set W6 RB 1 (.slice A6 (addK' key l ks).length c6))))
  obtain ⟨qs, hqs⟩ : ∃ qs, addK' key l ks = qs := ⟨_, rfl⟩
  have HQN := Aside0.mk (show 1 ≤ qs.length by rw [← hqs]; unfold addK'; rw [List.length_append]; simp)
  have HPK := Aside0.mk (show putK most key l ks = if (qs.length : Int) > most then qs.drop 1 else qs by unfold putK; rw [hqs])
  rw [hqs] at HI7 HG7 ⊢
  clear hqs HK6 HI6 HB6 z1 f1
  generalize W6.setCell ⟨RB, 1, none⟩ (.slice A6 qs.length c6) = W7 at *
  have HI8 := Aside0.mk (HI7.out.later (below_drew (Below.refl _ _)))
  have HG8 := Aside0.mk (HG7.out.trans (grownBy_below (below_drew (Below.refl W7.heap.size W7)) (some RB)))
  refine wp_region_noPanic ?_
  refine start_ (n := 10) (S := fun w' => w'.cell? ⟨RB, 1, none⟩ = some (.slice A6 qs.length c6) ∧ w'.cell? ⟨RB, 0, none⟩ = some (.int .i64 most)) (ds := []) #[false, false, false, false, false, false, false, false, false, false] (by kernel_rfl) rfl rfl ⟨(blk_cell HI8.out.blk 1).trans rfl, (blk_cell HI8.out.blk 0).trans rfl⟩ (fun hHeld => ?_); refine with_tabW rput_tab2 rput_bits2 (fun HT_ HW_ => ?_)
  obtain ⟨W8, hW8⟩ : ∃ w, W7.drew = w := ⟨_, rfl⟩
  rw [hW8] at HI8 HG8 hHeld ⊢
  clear hW8
  refine pure_ (i := 0) (N := some 25) (v := ?_) (a' := ?_) #[true, false, false, false, false, false, false, false, false, false] rfl rfl (any_of HT_.out (by kernel_rfl)) (fun _ _ _ h => h) (Or.inl ⟨by rfl, ?_⟩) ?_ ?_
  rotate_left
  · intro w'
    go_simp
    with_reducible rfl
  rotate_left
  · simp only [Act.put, List.setIfInBounds_toArray, List.set_cons_zero, List.set_cons_succ, i64_w, i32_w]
    rfl
  refine pure_ (i := 1) (N := some 26) (v := ?_) (a' := ?_) #[true, true, false, false, false, false, false, false, false, false] rfl rfl (any_of HT_.out (by kernel_rfl)) (fun _ _ _ h => h) (Or.inl ⟨by rfl, ?_⟩) ?_ ?_
  rotate_left
  · intro w'
    go_simp
    with_reducible rfl
  rotate_left
  · simp only [Act.put, List.setIfInBounds_toArray, List.set_cons_zero, List.set_cons_succ, i64_w, i32_w]
    rfl
  refine pure_ (i := 2) (N := some 27) (v := ?_) (a' := ?_) #[true, true, true, false, false, false, false, false, false, false] rfl rfl (any_of HT_.out (by kernel_rfl)) (fun _ _ _ h => h) (Or.inl ⟨by rfl, ?_⟩) ?_ ?_
  rotate_left
  · intro w'
    go_simp
    with_reducible rfl
  rotate_left
  · simp only [Act.put, List.setIfInBounds_toArray, List.set_cons_zero, List.set_cons_succ, i64_w, i32_w]
    rfl
  refine take_ (i := 3) (N := some 28) (v := ?_) (a' := ?_) #[true, true, true, true, false, false, false, false, false, false] rfl rfl (take_ofW HT_.out HW_.out (by kernel_rfl)) (fun _ _ _ h => h) (Or.inl ⟨by rfl, ?_⟩) hHeld ?_ ?_
  rotate_left
  · rintro w' ⟨s0, s1⟩
    go_simp
    with_reducible rfl
  rotate_left
  · simp only [Act.put, List.setIfInBounds_toArray, List.set_cons_zero, List.set_cons_succ, i64_w, i32_w]
    rfl
  refine pure_ (i := 4) (N := some 29) (v := ?_) (a' := ?_) #[true, true, true, true, true, false, false, false, false, false] rfl rfl (any_of HT_.out (by kernel_rfl)) (fun _ _ _ h => h) (Or.inl ⟨by rfl, ?_⟩) ?_ ?_
  rotate_left
  · intro w'
    go_simp
    with_reducible rfl
  rotate_left
  · simp only [Act.put, List.setIfInBounds_toArray, List.set_cons_zero, List.set_cons_succ, i64_w, i32_w]
    rfl
  refine pure_ (i := 5) (N := some 30) (v := ?_) (a' := ?_) #[true, true, true, true, true, true, false, false, false, false] rfl rfl (any_of HT_.out (by kernel_rfl)) (fun _ _ _ h => h) (Or.inl ⟨by rfl, ?_⟩) ?_ ?_
  rotate_left
  · intro w'
    go_simp
    with_reducible rfl
  rotate_left
  · simp only [Act.put, List.setIfInBounds_toArray, List.set_cons_zero, List.set_cons_succ, i64_w, i32_w]
    rfl
  refine pure_ (i := 6) (N := some 31) (v := ?_) (a' := ?_) #[true, true, true, true, true, true, true, false, false, false] rfl rfl (any_of HT_.out (by kernel_rfl)) (fun _ _ _ h => h) (Or.inl ⟨by rfl, ?_⟩) ?_ ?_
  rotate_left
  · intro w'
    go_simp
    with_reducible rfl
  rotate_left
  · simp only [Act.put, List.setIfInBounds_toArray, List.set_cons_zero, List.set_cons_succ, i64_w, i32_w]
    rfl
  refine pure_ (i := 7) (N := some 32) (v := ?_) (a' := ?_) #[true, true, true, true, true, true, true, true, false, false] rfl rfl (any_of HT_.out (by kernel_rfl)) (fun _ _ _ h => h) (Or.inl ⟨by rfl, ?_⟩) ?_ ?_
  rotate_left
  · intro w'
    go_simp
    with_reducible rfl
  rotate_left
  · simp only [Act.put, List.setIfInBounds_toArray, List.set_cons_zero, List.set_cons_succ, i64_w, i32_w]
    rfl
  refine take_ (i := 8) (N := some 33) (v := ?_) (a' := ?_) #[true, true, true, true, true, true, true, true, true, false] rfl rfl (take_ofW HT_.out HW_.out (by kernel_rfl)) (fun _ _ _ h => h) (Or.inl ⟨by rfl, ?_⟩) hHeld ?_ ?_
  rotate_left
  · rintro w' ⟨s0, s1⟩
    go_simp
    with_reducible rfl
  rotate_left
  · simp only [Act.put, List.setIfInBounds_toArray, List.set_cons_zero, List.set_cons_succ, i64_w, i32_w]
    rfl
  refine pure_ (i := 9) (N := some 34) (v := ?_) (a' := ?_) #[true, true, true, true, true, true, true, true, true, true] rfl rfl (any_of HT_.out (by kernel_rfl)) (fun _ _ _ h => h) (Or.inl ⟨by rfl, ?_⟩) ?_ ?_
  rotate_left
  · intro w'
    go_simp
    with_reducible rfl
  rotate_left
  · simp only [Act.put, List.setIfInBounds_toArray, List.set_cons_zero, List.set_cons_succ, i64_w, i32_w]
    rfl
  refine done_ (done_of HT_.out (by kernel_rfl)) ?_
  refine NoPanic.normal ?_
  clear HT_ HW_ hHeld
  obtain ⟨ad, ead, _⟩ := HI8.out.row.row.2.2 (by have := HQN.out; omega)
  subst ead
  by_cases q : (qs.length : Int) > most
  · have qb : decide (most < (qs.length : Int)) = true := decide_eq_true q
    rw [qb]
    have h1 : (1 ≤ qs.length) = True := eq_true HQN.out
    have h2 : (0 < qs.length) = True := eq_true (by have := HQN.out; omega)
    have h3 : ((1 : Int) ≤ (qs.length : Int)) = True := eq_true (by have := HQN.out; omega)
    have z1 := (blk_cell HI8.out.blk 1).trans rfl
    have f1 := blk_frozen HI8.out.blk 1
    have HPK2 := Aside0.mk (show putK most key l ks = qs.drop 1 by rw [HPK.out, if_pos q])
    have HKD := Aside0.mk (HI8.out.row.drop (i := 1) HQN.out)
    clear q
    by_cases hc : c6 = 1
    · subst hc
      go_wp2_with fail
      go_end0
      have hset := RInv.setRow (W := W8) HI8.out.blk HKD.out
      rw [List.length_drop] at hset
      exact ⟨rfl, ⟨_, _, by rw [HPK2.out]; exact hset⟩, HG8.out.trans (grownBy_set _ _ _ _)⟩
    · have hc2 : ¬ (c6 - 1 = 0) := by have := HI8.out.row.cap; have := HQN.out; omega
      have HAX := Aside0.mk (show cutA (some ad) c6 1 = some (ad.add 2) by unfold cutA; rw [if_neg hc]; rfl)
      go_wp2_with fail
      go_end0
      have hset := RInv.setRow (W := W8) HI8.out.blk HKD.out
      rw [List.length_drop, HAX.out] at hset
      exact ⟨rfl, ⟨_, _, by rw [HPK2.out]; exact hset⟩, HG8.out.trans (grownBy_set _ _ _ _)⟩
  · have qb : decide (most < (qs.length : Int)) = false := decide_eq_false q
    rw [qb]
    have HPK2 := Aside0.mk (show putK most key l ks = qs by rw [HPK.out, if_neg q])
    clear q
    go_wp2_with fail
    go_end0
    exact ⟨rfl, ⟨_, _, by rw [HPK2.out]; exact HI8.out⟩, HG8.out⟩
end Go.Proofs.Ytjpbcmfppmiagaa.Print
