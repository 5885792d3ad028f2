/- The reference's Drop. -/
import Derived.Test.YtjpbcmfppmiagaaKeptA
namespace Go.Proofs.Ytjpbcmfppmiagaa.Print
open Go.RowKit Go.Maps Go.Proofs.YtjpbcmfppmiagaaW.PrintWords Go.Proofs.YtjpbcmfppmiagaaW.PrintLast Go.Proofs.YtjpbcmfppmiagaaW.PrintMore
set_option linter.unusedVariables false
set_option linter.unusedSimpArgs false

theorem info65 : (Try.prog.info? 65).map (fun i => (i.zero, i.size, i.bytes)) = some (some (.agg #[.string ⟨#[]⟩, .slice none 0 0]), k65.sz, 40) := by kernel_rfl
def rdrop_T5 : Bool × List (List Nat × List Nat) := (true, [([], []), ([], []), ([], []), ([2], [2]), ([3], [3]), ([4], [4]), ([], []), ([5, 6], [5, 6]), ([1, 7], [1, 7]), ([], []), ([9], [9]), ([10], [10]), ([11], [11]), ([], []), ([13], [13]), ([12, 14], [12, 14]), ([8, 15, 8], [8, 15]), ([0, 0, 1, 2, 3, 4, 5, 6, 7, 8, 9, 10, 11, 12, 13, 14, 15, 16], [0]), ([17, 0, 1, 2, 3, 4, 5, 6, 7, 8, 9, 10, 11, 12, 13, 14, 15, 16], [17]), ([18, 16, 16, 0, 1, 2, 3, 4, 5, 6, 7, 8, 9, 10, 11, 12, 13, 14, 15, 16], [16, 18])])
def rdrop_B5 : List Nat := [0, 0, 0, 4, 12, 28, 0, 124, 254, 0, 512, 1536, 3584, 0, 8192, 32256, 65534, 131071, 262143, 524287]
theorem rdrop_tab5 : rtab .any (opsOf Try.f29 5) = rdrop_T5 := by kernel_rfl
theorem rdrop_bits5 : waitsOk rdrop_T5.2 rdrop_B5 = true := by kernel_rfl
theorem M_apart {W : World} {base : Nat} {ok : Nat → Prop} {v : Value} {xs : List S65} (hR : Kd.R k65 65 W base ok v xs) {x : S65} {cs : List Value} (hM : k65.M W base (fun _ => True) x cs) : k65.M W base (fun k => some k ≠ v.ownBlock) x cs := by
  cases q : v.ownBlock with
  | none => exact k65.M_mono (fun _ _ => by simp) hM
  | some g =>
    obtain ⟨cs', hc⟩ := Kd.R_typed hR g q
    refine k65.M_mono (fun k hk => ?_) (Kd.M_types hM hc (fun q hq => ?_))
    · intro e
      injection e with e
      exact hk.2 e
    · have hq3 : q = 3 := by simpa [k65, Kd.iso, Kd.pair, Kd.string, Kd.scalar, Kd.slice, Kd.int] using hq
      subst hq3
      decide
/-- What is kept, but for the key's. -/
def dropK (key : ByteArray) : List S65 → List S65
  | [] => []
  | x :: r => if x.f0 = key then r else x :: dropK key r
def hasK (key : ByteArray) : List S65 → Bool
  | [] => false
  | x :: r => if x.f0 = key then true else hasK key r
theorem rd65 {ks : List S65} {i : Nat} (h : i < ks.length) : rd_T65 ks (i : Int) = ks[i] := by
  unfold rd_T65
  rw [Int.toNat_natCast, List.getD_eq_getElem?_getD, List.getElem?_eq_getElem h]
  rfl
theorem drop65 {ks : List S65} {i : Nat} (h : i < ks.length) : ks.drop i = rd_T65 ks (i : Int) :: ks.drop (i + 1) := by
  rw [List.drop_eq_getElem_cons h, rd65 h]
/-- No key ahead of i is the key. -/
def Past (key : ByteArray) (ks : List S65) (i : Nat) : Prop := dropK key ks = ks.take i ++ dropK key (ks.drop i) ∧ hasK key ks = hasK key (ks.drop i)
theorem Past.start (key : ByteArray) (ks : List S65) : Past key ks 0 := ⟨by simp, by simp⟩
theorem Past.next {key : ByteArray} {ks : List S65} {i : Nat} (h : Past key ks i) (hi : i < ks.length) (hn : (rd_T65 ks (i : Int)).f0 ≠ key) : Past key ks (i + 1) := by
  obtain ⟨h1, h2⟩ := h
  rw [drop65 hi, dropK, if_neg hn] at h1
  rw [drop65 hi, hasK, if_neg hn] at h2
  refine ⟨?_, h2⟩
  rw [h1, List.take_succ_eq_append_getElem hi, ← rd65 hi, List.append_assoc, List.singleton_append]
theorem Past.hit {key : ByteArray} {ks : List S65} {i : Nat} (h : Past key ks i) (hi : i < ks.length) (hn : (rd_T65 ks (i : Int)).f0 = key) : dropK key ks = ks.take i ++ ks.drop (i + 1) ∧ hasK key ks = true := by
  obtain ⟨h1, h2⟩ := h
  rw [drop65 hi, dropK, if_pos hn] at h1
  rw [drop65 hi, hasK, if_pos hn] at h2
  exact ⟨h1, h2⟩
theorem Past.end_ {key : ByteArray} {ks : List S65} (h : Past key ks ks.length) : dropK key ks = ks ∧ hasK key ks = false := by
  obtain ⟨h1, h2⟩ := h
  rw [List.drop_length] at h1 h2
  exact ⟨by rw [h1, List.take_length]; simp [dropK], h2⟩
set_option maxHeartbeats 16000000 in
set_option maxRecDepth 100000 in
theorem rdrop_calls (base RB : Nat) (A : Option Addr) (c : Nat) (most : Int) (ks : List S65) (h nt : Int) (W : World) (key : ByteArray) (hi : RInv base RB A c most ks h nt W) (hb : base ≤ W.heap.size) (hl : ks.length ≤ 100000) :
    Calls Try.prog 29 #[.pointer (some ⟨RB, 0, none⟩), .string key] W fun e w' => e = .returned (.bool (hasK key ks)) ∧ (∃ A' c', RInv base RB A' c' most (dropK key ks) h nt w') ∧ W.grownBy w' (some RB) := by
  have HI := Aside0.mk hi
  have HS := Aside0.mk hb
  have HL := Aside0.mk hl
  have c1 := hi.cells.2.1
  clear hi hb hl
  go_enter Try.func29, Try.ntmps29
  go_wp2_with fail
  go_loopg [5] ks.length (fun kq v5 w' => ∃ i : Nat, v5 = .int .i64 i ∧ w' = W ∧ Aside0 (i + kq = ks.length) ∧ Aside0 (Past key ks i))
  case atStart => exact ⟨0, rfl, rfl, ⟨by omega⟩, ⟨Past.start key ks⟩⟩
  case round =>
    obtain ⟨i, rfl, rfl, HG, HP⟩ := hrel
    by_cases q : i < ks.length
    · have qb : decide ((i : Int) < (ks.length : Int)) = true := decide_eq_true (by omega)
      have q1 : ((i : Int) < (ks.length : Int)) = True := eq_true (by omega)
      have q2 : (i < ks.length) = True := eq_true q
      obtain ⟨ad, A1, c1', ead, hx0, _, _, _⟩ := at_T65 HI.out.row.reads (i : Int) (by omega) (by omega)
      rw [Int.toNat_natCast] at hx0
      subst ead
      have HQ := Aside0.mk q
      by_cases e : (rd_T65 ks (i : Int)).f0 = key
      · obtain ⟨d1, d2⟩ := HP.out.hit q e
        have HD := Aside0.mk d1
        have HD2 := Aside0.mk d2
        rw [e] at hx0
        clear d1 d2 e q
        go_upto_region 5 with fail
        have HI1 := Aside0.mk (HI.out.later (below_drew (Below.refl _ _)))
        have HG1 := Aside0.mk (grownBy_below (below_drew (Below.refl wr.heap.size wr)) (some RB))
        have HSZ1 := Aside0.mk (show base ≤ wr.drew.heap.size from HS.out)
        refine wp_region_noPanic ?_
        refine start_ (n := 20) (S := fun w' => w'.cell? ⟨RB, 1, none⟩ = some (.slice (some ad) ks.length c)) (ds := [19]) #[false, false, false, false, false, false, false, false, false, false, false, false, false, false, false, false, false, false, false, false] (by kernel_rfl) rfl rfl ((blk_cell HI1.out.blk 1).trans rfl) (fun hHeld => ?_); refine with_tabW rdrop_tab5 rdrop_bits5 (fun HT_ HW_ => ?_)
        obtain ⟨W1, hW1⟩ : ∃ w, wr.drew = w := ⟨_, rfl⟩
        rw [hW1] at HI1 HG1 HSZ1 hHeld ⊢
        clear hW1
        have hcut : (0 ≤ (i : Int) + 1 ∧ (i : Int) + 1 ≤ (ks.length : Int)) = True := eq_true (by have := HQ.out; omega)
        have htk : (i ≤ c) = True := eq_true (by have := HQ.out; have := HI1.out.row.cap; omega)
        have hwr : wrap64 ((i : Int) + 1) = (i : Int) + 1 := by have := HQ.out; have := HL.out; clear hcut htk; unfold wrap64; omega
        refine pure_ (i := 0) (N := some 25) (v := ?_) (a' := ?_) #[true, false, false, false, false, false, false, false, false, false, false, false, false, false, false, false, false, false, false, false] rfl rfl (any_of HT_.out (by kernel_rfl)) (fun _ _ _ h => h) (Or.inl ⟨by rfl, ?_⟩) ?_ ?_
        rotate_left
        · intro w'
          go_simp
          with_reducible rfl
        rotate_left
        · simp only [Act.put, List.setIfInBounds_toArray, List.set_cons_zero, List.set_cons_succ, i64_w, i32_w]
          rfl
        refine pure_ (i := 2) (N := some 27) (v := ?_) (a' := ?_) #[true, false, true, false, false, false, false, false, false, false, false, false, false, false, false, false, false, false, false, false] rfl rfl (any_of HT_.out (by kernel_rfl)) (fun _ _ _ h => h) (Or.inl ⟨by rfl, ?_⟩) ?_ ?_
        rotate_left
        · intro w'
          go_simp
          with_reducible rfl
        rotate_left
        · simp only [Act.put, List.setIfInBounds_toArray, List.set_cons_zero, List.set_cons_succ, i64_w, i32_w]
          rfl
        refine pure_ (i := 3) (N := some 28) (v := ?_) (a' := ?_) #[true, false, true, true, false, false, false, false, false, false, false, false, false, false, false, false, false, false, false, false] rfl rfl (any_of HT_.out (by kernel_rfl)) (fun _ _ _ h => h) (Or.inl ⟨by rfl, ?_⟩) ?_ ?_
        rotate_left
        · intro w'
          go_simp
          with_reducible rfl
        rotate_left
        · simp only [Act.put, List.setIfInBounds_toArray, List.set_cons_zero, List.set_cons_succ, i64_w, i32_w]
          rfl
        refine pure_ (i := 4) (N := some 29) (v := ?_) (a' := ?_) #[true, false, true, true, true, false, false, false, false, false, false, false, false, false, false, false, false, false, false, false] rfl rfl (any_of HT_.out (by kernel_rfl)) (fun _ _ _ h => h) (Or.inl ⟨by rfl, ?_⟩) ?_ ?_
        rotate_left
        · intro w'
          go_simp
          with_reducible rfl
        rotate_left
        · simp only [Act.put, List.setIfInBounds_toArray, List.set_cons_zero, List.set_cons_succ, i64_w, i32_w]
          rfl
        refine take_ (i := 5) (N := some 30) (v := ?_) (a' := ?_) #[true, false, true, true, true, true, false, false, false, false, false, false, false, false, false, false, false, false, false, false] rfl rfl (take_ofW HT_.out HW_.out (by kernel_rfl)) (fun _ _ _ h => h) (Or.inl ⟨by rfl, ?_⟩) hHeld ?_ ?_
        rotate_left
        · rintro w' s0
          go_simp
          with_reducible rfl
        rotate_left
        · simp only [Act.put, List.setIfInBounds_toArray, List.set_cons_zero, List.set_cons_succ, i64_w, i32_w]
          rfl
        refine pure_ (i := 6) (N := some 31) (v := ?_) (a' := ?_) #[true, false, true, true, true, true, true, false, false, false, false, false, false, false, false, false, false, false, false, false] rfl rfl (any_of HT_.out (by kernel_rfl)) (fun _ _ _ h => h) (Or.inl ⟨by rfl, ?_⟩) ?_ ?_
        rotate_left
        · intro w'
          go_simp
          with_reducible rfl
        rotate_left
        · simp only [Act.put, List.setIfInBounds_toArray, List.set_cons_zero, List.set_cons_succ, i64_w, i32_w]
          rfl
        refine pure_ (i := 7) (N := some 32) (v := ?_) (a' := ?_) #[true, false, true, true, true, true, true, true, false, false, false, false, false, false, false, false, false, false, false, false] rfl rfl (any_of HT_.out (by kernel_rfl)) (fun _ _ _ h => h) (Or.inl ⟨by rfl, ?_⟩) ?_ ?_
        rotate_left
        · intro w'
          go_simp
          with_reducible rfl
        rotate_left
        · simp only [Act.put, List.setIfInBounds_toArray, List.set_cons_zero, List.set_cons_succ, i64_w, i32_w]
          rfl
        refine pure_ (i := 9) (N := some 34) (v := ?_) (a' := ?_) #[true, false, true, true, true, true, true, true, false, true, false, false, false, false, false, false, false, false, false, false] rfl rfl (any_of HT_.out (by kernel_rfl)) (fun _ _ _ h => h) (Or.inl ⟨by rfl, ?_⟩) ?_ ?_
        rotate_left
        · intro w'
          go_simp
          with_reducible rfl
        rotate_left
        · simp only [Act.put, List.setIfInBounds_toArray, List.set_cons_zero, List.set_cons_succ, i64_w, i32_w]
          rfl
        refine pure_ (i := 10) (N := some 35) (v := ?_) (a' := ?_) #[true, false, true, true, true, true, true, true, false, true, true, false, false, false, false, false, false, false, false, false] rfl rfl (any_of HT_.out (by kernel_rfl)) (fun _ _ _ h => h) (Or.inl ⟨by rfl, ?_⟩) ?_ ?_
        rotate_left
        · intro w'
          go_simp
          with_reducible rfl
        rotate_left
        · simp only [Act.put, List.setIfInBounds_toArray, List.set_cons_zero, List.set_cons_succ, i64_w, i32_w]
          rfl
        refine pure_ (i := 11) (N := some 36) (v := ?_) (a' := ?_) #[true, false, true, true, true, true, true, true, false, true, true, true, false, false, false, false, false, false, false, false] rfl rfl (any_of HT_.out (by kernel_rfl)) (fun _ _ _ h => h) (Or.inl ⟨by rfl, ?_⟩) ?_ ?_
        rotate_left
        · intro w'
          go_simp
          with_reducible rfl
        rotate_left
        · simp only [Act.put, List.setIfInBounds_toArray, List.set_cons_zero, List.set_cons_succ, i64_w, i32_w]
          rfl
        refine take_ (i := 12) (N := some 37) (v := ?_) (a' := ?_) #[true, false, true, true, true, true, true, true, false, true, true, true, true, false, false, false, false, false, false, false] rfl rfl (take_ofW HT_.out HW_.out (by kernel_rfl)) (fun _ _ _ h => h) (Or.inl ⟨by rfl, ?_⟩) hHeld ?_ ?_
        rotate_left
        · rintro w' s0
          go_simp
          with_reducible rfl
        rotate_left
        · simp only [Act.put, List.setIfInBounds_toArray, List.set_cons_zero, List.set_cons_succ, i64_w, i32_w]
          rfl
        refine pure_ (i := 13) (N := some 38) (v := ?_) (a' := ?_) #[true, false, true, true, true, true, true, true, false, true, true, true, true, true, false, false, false, false, false, false] rfl rfl (any_of HT_.out (by kernel_rfl)) (fun _ _ _ h => h) (Or.inl ⟨by rfl, ?_⟩) ?_ ?_
        rotate_left
        · intro w'
          go_simp
          with_reducible rfl
        rotate_left
        · simp only [Act.put, List.setIfInBounds_toArray, List.set_cons_zero, List.set_cons_succ, i64_w, i32_w]
          rfl
        refine pure_ (i := 14) (N := some 39) (v := ?_) (a' := ?_) #[true, false, true, true, true, true, true, true, false, true, true, true, true, true, true, false, false, false, false, false] rfl rfl (any_of HT_.out (by kernel_rfl)) (fun _ _ _ h => h) (Or.inl ⟨by rfl, ?_⟩) ?_ ?_
        rotate_left
        · intro w'
          go_simp
          with_reducible rfl
        rotate_left
        · simp only [Act.put, List.setIfInBounds_toArray, List.set_cons_zero, List.set_cons_succ, i64_w, i32_w]
          rfl
        refine pure_ (i := 15) (N := some 40) (v := ?_) (a' := ?_) #[true, false, true, true, true, true, true, true, false, true, true, true, true, true, true, true, false, false, false, false] rfl rfl (any_of HT_.out (by kernel_rfl)) (fun _ _ _ h => h) (Or.inl ⟨by rfl, ?_⟩) ?_ ?_
        rotate_left
        · intro w'
          go_simp
          with_reducible rfl
        rotate_left
        · simp only [Act.put, List.setIfInBounds_toArray, List.set_cons_zero, List.set_cons_succ, i64_w, i32_w]
          rfl
        clear hcut htk
        obtain ⟨ax, hax⟩ : ∃ ax, cutA (some ad) c (i + 1) = ax := ⟨_, rfl⟩
        rw [show (if c = i + 1 then some ad else some (ad.add ((i + 1) * 2))) = ax from hax]
        have HAX := Aside0.mk hax
        clear hax
        refine one_ (i := 1) (N := some 26) #[true, true, true, true, true, true, true, true, false, true, true, true, true, true, true, true, false, false, false, false] rfl rfl (one_of HT_.out (by kernel_rfl)) (by decide) (fun K hK => ?_)
        refine step_list rfl (by rfl) ?_
        unfold Oper.wp
        go_simp
        have HB2 := Aside0.mk (below_alloc (Below.refl W1.heap.size W1) (.cells #[] 65))
        have HE2 := Aside0.mk (R_empty W1 HSZ1.out)
        refine hK.out _ _ ((blk_cell (HI1.out.later HB2.out).blk 1).trans rfl) (fun hHeld => ?_)
        clear hK K
        obtain ⟨EB, hEB⟩ : ∃ n, W1.heap.size = n := ⟨_, rfl⟩
        have HEB := Aside0.mk (Nat.le_of_eq hEB)
        rw [hEB] at HE2 ⊢
        clear hEB
        generalize W1.alloc (.cells #[] 65) = W2 at *
        refine one_ (i := 8) (N := some 33) #[true, true, true, true, true, true, true, true, true, true, true, true, true, true, true, true, false, false, false, false] rfl rfl (one_of HT_.out (by kernel_rfl)) (by decide) (fun K hK => ?_)
        refine Kd.R_append_rows_step k65 (w0 := W2) base (by rfl) (.tmp 26) (.tmp 32) 53 65 (.agg #[.string ⟨#[]⟩, .slice none 0 0]) 40 rfl Try.underlying53 info65 rfl (by decide) (by omega) (.slice (some ⟨EB, 0, none⟩) 0 0) [] (ks.take i) (some ad) i c (fun _ => True) (fun k => some k ≠ ((.slice (some ⟨EB, 0, none⟩) 0 0) : Value).ownBlock) rfl rfl HE2.out ((HI1.out.row.below HB2.out).take (by have := HQ.out; omega)) (fun _ _ hM => M_apart HE2.out hM) (fun _ hk => ⟨trivial, hk⟩) (fun _ _ => trivial) (Below.refl _ _) (Nat.le_trans HSZ1.out HB2.out.size) (by simp only [List.length_append, List.length_take, List.length_nil]; have := HL.out; have := HQ.out; omega) ?_
        intro v3 W3 hR3 _ hg3 hat3
        have HB3 := Aside0.mk (HB2.out.grown hg3 HB2.out.size (fun k hk => by obtain rfl := Option.some.inj hk; exact HEB.out))
        have HE3 := Aside0.mk hR3
        have HF3 := Aside0.mk (show ∀ k, v3.ownBlock = some k → W1.heap.size ≤ k from fun k hk => by
          rcases hat3 with e | ⟨b, e, hb⟩
          · rw [e] at hk; obtain rfl := Option.some.inj hk; exact HEB.out
          · rw [e] at hk; obtain rfl := Option.some.inj hk; exact Nat.le_trans HB2.out.size hb)
        refine hK.out _ _ ((blk_cell (HI1.out.later HB3.out).blk 1).trans rfl) (fun hHeld => ?_)
        clear hK K
        refine norm_ (a' := ?_) ?_ ?_
        rotate_left
        · show Act.put _ (some 33) _ = _
          simp only [Act.put, List.setIfInBounds_toArray, List.set_cons_zero, List.set_cons_succ, i64_w, i32_w]
          rfl
        clear hR3 hg3 hat3 HE2 HB2 HEB
        refine one_ (i := 16) (N := some 41) #[true, true, true, true, true, true, true, true, true, true, true, true, true, true, true, true, true, false, false, false] rfl rfl (one_of HT_.out (by kernel_rfl)) (by decide) (fun K hK => ?_)
        refine Kd.R_append_rows_step k65 (w0 := W3) base (by rfl) (.tmp 33) (.tmp 40) 53 65 (.agg #[.string ⟨#[]⟩, .slice none 0 0]) 40 rfl Try.underlying53 info65 rfl (by decide) (by omega) v3 ([] ++ ks.take i) (ks.drop (i + 1)) ax (ks.length - (i + 1)) (c - (i + 1)) (fun _ => True) (fun k => some k ≠ (v3 : Value).ownBlock) rfl rfl HE3.out (by rw [← HAX.out]; exact (HI1.out.row.below HB3.out).dropRow (by have := HQ.out; omega)) (fun _ _ hM => M_apart HE3.out hM) (fun _ hk => ⟨trivial, hk⟩) (fun _ _ => trivial) (Below.refl _ _) (Nat.le_trans HSZ1.out HB3.out.size) (by simp only [List.length_append, List.length_take, List.length_nil]; have := HL.out; have := HQ.out; omega) ?_
        intro v4 W4 hR4 _ hg4 hat4
        have HB4 := Aside0.mk (HB3.out.grown hg4 HB3.out.size (fun k hk => HF3.out k hk))
        have HE4 := Aside0.mk (show Kd.R k65 65 W4 base (fun _ => True) v4 (dropK key ks) by rw [HD.out]; exact hR4)
        refine hK.out _ _ ((blk_cell (HI1.out.later HB4.out).blk 1).trans rfl) (fun hHeld => ?_)
        clear hK K
        refine norm_ (a' := ?_) ?_ ?_
        rotate_left
        · show Act.put _ (some 41) _ = _
          simp only [Act.put, List.setIfInBounds_toArray, List.set_cons_zero, List.set_cons_succ, i64_w, i32_w]
          rfl
        clear hR4 hg4 hat4 HE3 HB3 HF3
        refine pure_ (i := 17) (N := some 42) (v := ?_) (a' := ?_) #[true, true, true, true, true, true, true, true, true, true, true, true, true, true, true, true, true, true, false, false] rfl rfl (any_of HT_.out (by kernel_rfl)) (fun _ _ _ h => h) (Or.inl ⟨by rfl, ?_⟩) ?_ ?_
        rotate_left
        · intro w'
          go_simp
          with_reducible rfl
        rotate_left
        · simp only [Act.put, List.setIfInBounds_toArray, List.set_cons_zero, List.set_cons_succ, i64_w, i32_w]
          rfl
        refine pure_ (i := 18) (N := some 43) (v := ?_) (a' := ?_) #[true, true, true, true, true, true, true, true, true, true, true, true, true, true, true, true, true, true, true, false] rfl rfl (any_of HT_.out (by kernel_rfl)) (fun _ _ _ h => h) (Or.inl ⟨by rfl, ?_⟩) ?_ ?_
        rotate_left
        · intro w'
          go_simp
          with_reducible rfl
        rotate_left
        · simp only [Act.put, List.setIfInBounds_toArray, List.set_cons_zero, List.set_cons_succ, i64_w, i32_w]
          rfl
        have HI4 := Aside0.mk (HI1.out.later HB4.out)
        obtain ⟨A5, c5, e5, hk5⟩ := Kept.of_R HE4.out
        subst e5
        have HK5 := Aside0.mk hk5
        clear hk5
        have z1 := (blk_cell HI4.out.blk 1).trans rfl
        have f1 := blk_frozen HI4.out.blk 1
        refine last_ (i := 19) (N := none) #[true, true, true, true, true, true, true, true, true, true, true, true, true, true, true, true, true, true, true, true] rfl rfl (one_of HT_.out (by kernel_rfl)) (by decide) (fun K hK => ?_)
        refine step_list rfl (by rfl) ?_
        unfold Oper.wp
        go_simp
        refine hK.out _ _ ?_
        clear hK K z1 f1
        refine done_ (done_of HT_.out (by kernel_rfl)) ?_
        refine NoPanic.normal ?_
        clear HT_ HW_ hHeld
        go_wp2_with fail
        go_ret
        exact ⟨by rw [HD2.out]; rfl, ⟨A5, c5, RInv.setRow HI4.out.blk HK5.out⟩, HG1.out.trans ((grownBy_below HB4.out _).trans (grownBy_set _ _ _ _))⟩
      · have HP2 := Aside0.mk (HP.out.next q e)
        obtain ⟨s, hs⟩ : ∃ s, (rd_T65 ks (i : Int)).f0 = s := ⟨_, rfl⟩
        rw [hs] at hx0 e
        have eb : (s.toList == key.toList) = false := by rw [eq_key]; exact decide_eq_false e
        clear hs q
        go_wp2_with fail
        go_roundg (gk - 1)
        case measure => have := HQ.out; have := HG.out; omega
        case rel => exact ⟨i + 1, (by first | rfl | (rw [wrap_succ (by have := HQ.out; have := HL.out; omega)])), rfl, ⟨by have := HQ.out; have := HG.out; omega⟩, HP2⟩
    · obtain rfl : i = ks.length := by have := HG.out; omega
      have qb : decide ((ks.length : Int) < (ks.length : Int)) = false := decide_eq_false (by omega)
      obtain ⟨d1, d2⟩ := HP.out.end_
      go_wp2_with fail
      go_ret
      exact ⟨by rw [d2]; rfl, ⟨A, c, by rw [d1]; exact HI.out⟩, World.grownBy.refl _ _⟩
end Go.Proofs.Ytjpbcmfppmiagaa.Print
