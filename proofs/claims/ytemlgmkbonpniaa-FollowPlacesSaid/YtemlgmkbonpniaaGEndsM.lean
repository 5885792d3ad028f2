/- scansionref10.ends: what it answers are the ends of the ways of a word. · scansionref10.Whole and Suffix: whether there is a way for the word. -/
import Derived.Test.YtemlgmkbonpniaaGMarksM
import Derived.Test.YtemlgmkbonpniaaRRight
namespace Go.Proofs.Ytemlgmkbonpniaa.Print
open Go.RowKit Go.Maps Go.Proofs.YtemlgmkbonpniaaW.PrintWords Go.Proofs.YtemlgmkbonpniaaW.PrintLast Go.Proofs.YtemlgmkbonpniaaW.PrintMore
set_option linter.unusedVariables false
set_option linter.unusedSimpArgs false
def gen_T21 : Bool × List (List Nat × List Nat) := (true, [([], []), ([], []), ([1], [1]), ([], []), ([], []), ([3, 4], [3, 4]), ([5], [5]), ([6], [6]), ([7], [7]), ([7], [7]), ([8, 9, 7], [7, 8, 9]), ([10, 7], [7, 10]), ([7], [7]), ([12, 7], [7, 12]), ([13, 7], [7, 13]), ([11, 14, 7], [7, 11, 14]), ([15, 7], [7, 15]), ([16, 7], [7, 16]), ([7, 17], [7, 17]), ([0, 2, 0, 1, 2, 3, 4, 5, 6, 7, 8, 9, 10, 11, 12, 13, 14, 15, 16, 17, 18], [0, 2]), ([19, 18, 7, 0, 1, 2, 3, 4, 5, 6, 7, 8, 9, 10, 11, 12, 13, 14, 15, 16, 17, 18], [18, 19])])
def gen_B21 : List Nat := [0, 0, 2, 0, 0, 24, 56, 120, 248, 248, 1016, 2040, 248, 4344, 12536, 32760, 65528, 131064, 262136, 524287, 1048575]
theorem gen_tab21 : rtab .any (opsOf Try.f52 21) = gen_T21 := by kernel_rfl
theorem gen_bits21 : waitsOk gen_T21.2 gen_B21 = true := by kernel_rfl
theorem Tells.congr {word : List Int} {P Q : Nat → Prop} {a : List Bool} (h : Tells word P a) (hq : ∀ j, P j ↔ Q j) : Tells word Q a := ⟨h.1, fun j => (h.2 j).trans (hq j)⟩
theorem wayC_snoc (M : Nat → Int → Prop) (x : S24) : ∀ (l : List S24) (i j : Nat), WayC M (l ++ [x]) i j ↔ ∃ m, WayC M l i m ∧ WayN M x m j := by
  intro l
  induction l with
  | nil =>
    intro i j
    rw [List.nil_append, WayC]
    constructor
    · rintro ⟨m, h1, h2⟩; rw [WayC] at h2; subst h2; exact ⟨i, by rw [WayC], h1⟩
    · rintro ⟨m, h1, h2⟩; rw [WayC] at h1; subst h1; exact ⟨j, h2, by rw [WayC]⟩
  | cons y l ih =>
    intro i j
    rw [List.cons_append, WayC]
    constructor
    · rintro ⟨m, h1, h2⟩
      obtain ⟨n, h3, h4⟩ := (ih m j).1 h2
      exact ⟨n, by rw [WayC]; exact ⟨m, h1, h3⟩, h4⟩
    · rintro ⟨n, h1, h2⟩
      rw [WayC] at h1
      obtain ⟨m, h3, h4⟩ := h1
      exact ⟨m, h3, (ih m j).2 ⟨n, h4, h2⟩⟩
theorem wayA_snoc (M : Nat → Int → Prop) (x : S24) : ∀ (l : List S24) (i j : Nat), WayA M (l ++ [x]) i j ↔ WayA M l i j ∨ WayN M x i j := by
  intro l
  induction l with
  | nil => intro i j; rw [List.nil_append, WayA, WayA]; simp [WayA]
  | cons y l ih => intro i j; rw [List.cons_append, WayA, WayA, ih i j, or_assoc]
def leafG (word : List Int) (at_ : List Bool) (s : Int) (j : Nat) : Bool := decide (0 < j) && (at_.getD (j - 1) false && (bitN (rd word ((j - 1 : Nat) : Int)) s == 1))
theorem leaf_tells {word : List Int} {at_ acc : List Bool} {s : Int} {kids : List S24} (hl : acc.length = word.length + 1) (hf : Fill (leafG word at_ s) (word.length + 1) acc) : Tells word (fun j => ∃ i, on at_ i ∧ WayN (hitM word) ⟨1, s, kids⟩ i j) acc := by
  refine ⟨hl, fun j => ?_⟩
  unfold on
  rw [hf j]
  unfold leafG
  constructor
  · intro h
    simp only [Bool.and_eq_true, decide_eq_true_eq, beq_iff_eq] at h
    obtain ⟨g1, g2, g3, g4⟩ := h
    exact ⟨j - 1, g3, by rw [WayN, if_pos rfl]; exact ⟨by omega, by omega, g4⟩⟩
  · rintro ⟨i, h3, h4⟩
    rw [WayN, if_pos rfl] at h4
    obtain ⟨rfl, h5, h6⟩ := h4
    simp only [Bool.and_eq_true, decide_eq_true_eq, beq_iff_eq, Nat.add_sub_cancel]
    exact ⟨by omega, by omega, h3, h6⟩
theorem none_tells {word : List Int} {at_ : List Bool} (x : S24) (h : ¬ ∃ j, on at_ j) : Tells word (fun j => ∃ i, on at_ i ∧ WayN (hitM word) x i j) (List.replicate (word.length + 1) false) := by
  refine ⟨List.length_replicate, fun j => ⟨fun hj => ?_, fun ⟨i, hi, _⟩ => absurd ⟨i, hi⟩ h⟩⟩
  have h0 := fill_zero (fun _ => true) (word.length + 1) j
  unfold on at hj
  rw [h0, decide_eq_false (Nat.not_lt_zero j), Bool.false_and] at hj
  cases hj
/-- What ends answers. -/
def EPost (W : World) (word : List Int) (P : Nat → Prop) (e : Ending) (w' : World) : Prop := ∃ (A' : Option Addr) (c' : Nat) (out : List Bool), e = .returned (.slice A' out.length c') ∧ Kd.C Kd.bool w' A' out.length out ∧ out.length ≤ c' ∧ Tells word P out ∧ Below W.heap.size W w'
def EndsOK (x : S24) : Prop := rightN x = true → ∀ (W : World) (A : Option Addr) (c : Nat) (Aw : Option Addr) (cw : Nat) (word : List Int) (Aa : Option Addr) (ca : Nat) (at_ : List Bool), Kd.C k24 W A x.f2.length x.f2 → x.f2.length ≤ c → Kd.C (Kd.int .u64) W Aw word.length word → word.length ≤ cw → word.length ≤ 100000 → Kd.C Kd.bool W Aa at_.length at_ → at_.length ≤ ca → at_.length = word.length + 1 →
  Calls Try.prog 52 #[.agg #[.int .i64 x.f0, .int .i64 x.f1, .slice A x.f2.length c], .slice Aw word.length cw, .slice Aa at_.length ca] W (EPost W word (fun j => ∃ i, on at_ i ∧ WayN (hitM word) x i j))
theorem leaf_valT {word : List Int} {at_ : List Bool} {s z y : Int} (hz : 0 ≤ z) (hu : true = rdOf false at_ z) (hy : y = rd word z) : (Go.bits .and .u64 (y / 2 ^ min s.toNat 64) 1 == 1) = leafG word at_ s (z.toNat + 1) := by
  unfold leafG
  rw [decide_eq_true (Nat.succ_pos _), Nat.add_sub_cancel, show at_.getD z.toNat false = true from hu.symm, Int.toNat_of_nonneg hz, ← hy, Bool.true_and, Bool.true_and]
  rfl
theorem leaf_valF {word : List Int} {at_ : List Bool} {s z : Int} (hz : 0 ≤ z) (hu : false = rdOf false at_ z) : false = leafG word at_ s (z.toNat + 1) := by
  unfold leafG
  rw [Nat.add_sub_cancel, show at_.getD z.toNat false = false from hu.symm, Bool.false_and, Bool.and_false]
set_option maxHeartbeats 16000000 in
set_option maxRecDepth 100000 in
theorem re_k1 (s : Int) (kids : List S24) (hok : ∀ y ∈ kids, EndsOK y) : EndsOK ⟨1, s, kids⟩ := by
  intro hr W A c Aw cw word Aa ca at_ hC hc hCw hcw hwl hCa hca hla
  replace hC : Kd.C k24 W A kids.length kids := hC
  replace hc : kids.length ≤ c := hc
  show Calls Try.prog 52 #[.agg #[.int .i64 1, .int .i64 s, .slice A kids.length c], .slice Aw word.length cw, .slice Aa at_.length ca] W (EPost W word (fun j => ∃ i, on at_ i ∧ WayN (hitM word) ⟨1, s, kids⟩ i j))
  have HC := Aside0.mk hC
  have HCC := Aside0.mk hc
  have HCW := Aside0.mk hCw
  have HCWL := Aside0.mk hcw
  have HWL := Aside0.mk hwl
  have HCA := Aside0.mk hCa
  have HCAL := Aside0.mk hca
  have HLA := Aside0.mk hla
  have HOK := Aside0.mk hok
  have HLL := Aside0.mk (hC.2.1 : kids.length ≤ 9223372036854775807)
  have HS := Aside0.mk (show 0 ≤ s ∧ s ≤ 63 by rw [rightN, if_pos rfl, Bool.and_eq_true, Bool.and_eq_true, decide_eq_true_eq, decide_eq_true_eq] at hr; exact ⟨hr.1.2, hr.2⟩)
  obtain ⟨p, hp⟩ : ∃ p : Bool, p = true ↔ ∃ j, on at_ j := ⟨@decide _ (Classical.propDecidable _), @decide_eq_true_iff _ (Classical.propDecidable _)⟩
  obtain ⟨KS, hKS⟩ := some_f at_ (by omega) p hp
  have HSO := Aside0.mk (hKS KS (Nat.le_refl _))
  have HPP := Aside0.mk hp
  have HWR := Aside0.mk (show wrap64 ((word.length : Int) + 1) = ((word.length + 1 : Nat) : Int) by unfold wrap64; omega)
  clear hC hc hCw hcw hwl hCa hca hla hok hr hp hKS
  go_enter Try.func52, Try.ntmps52
  go_upto_region 1 with fail
  have HB1 := Aside0.mk (below_alloc (Below.refl W.heap.size W) (.cells #[.int .i64 1, .int .i64 s, .slice A kids.length c] 24))
  have HNB1 := Aside0.mk (blk_new W (.cells #[.int .i64 1, .int .i64 s, .slice A kids.length c] 24))
  obtain ⟨NB, hNB⟩ : ∃ n, W.heap.size = n := ⟨_, rfl⟩
  rw [hNB] at HNB1
  obtain ⟨W1, hW1⟩ : ∃ w, W.alloc (.cells #[.int .i64 1, .int .i64 s, .slice A kids.length c] 24) = w := ⟨_, rfl⟩
  rw [hW1] at HB1 HNB1
  rw [hW1]
  rw [hNB]
  clear hNB hW1
  go_upto_region 2 with ((with_reducible refine gate_dst (N := 17) rfl ?_); refine Kd.R_make Kd.bool _ 4 rfl (N := 17) rfl 45 _ _ rfl (wrap64 ((word.length : Int) + 1)) rfl rfl Try.underlying45 (.bool false) 1 info4 rfl (by decide) (by omega) false (ok := fun _ => True) (okp := fun _ => True) rfl (fun _ hk => hk) trivial (by rw [HWR.out]; omega) (Nat.le_trans (Nat.mul_le_mul_right _ (show (wrap64 ((word.length : Int) + 1)).toNat ≤ 281474976710656 by rw [HWR.out]; have := HWL.out; omega)) (by omega)) (Below.refl _ _) (Nat.le_refl _) ?_; intro v W2 ho hb hg_ hnew_; rw [HWR.out, Int.toNat_natCast] at ho; obtain ⟨OB, oc, e0, gb, gl, gc⟩ := Kd.R_form ho (by rw [List.length_replicate]; omega); rw [List.length_replicate] at e0; subst e0; have HB2 := Aside0.mk (HB1.out.trans (hb.mono HB1.out.size)); have HNB2 := Aside0.mk (blk_below HNB1.out hb); have HO2 := Aside0.mk (Kd.R_lower ho HB1.out.size); have HOB := Aside0.mk (Nat.le_trans HB1.out.size gb); have HOG := Aside0.mk gc; clear ho hb hg_ hnew_ gb gl gc)
  clear HB1 HNB1
  cases p with
  | false =>
    have HNO := Aside0.mk (fun h => Bool.noConfusion (HPP.out.2 h) : ¬ ∃ j, on at_ j)
    go_wp2_with (go_at_call 78; refine (scansionref10_some.calls KS Aa ca at_ false W2 (Kd.C_below HCA.out HB2.out) HCAL.out HSO.out).mono ?_; rintro e W3 ⟨rfl, hdr⟩; have hb := hdr.below; have HB3 := Aside0.mk (HB2.out.trans (hb.mono HB2.out.size)); have HO3 := Aside0.mk (Kd.R_below HO2.out hb); clear hb hdr)
    go_ret
    exact ⟨some ⟨OB, 0, none⟩, oc, List.replicate (word.length + 1) false, by rw [List.length_replicate]; rfl, (Kd.R_reads' HO3.out).2.2, by rw [List.length_replicate]; exact (Kd.R_reads' HO3.out).2.1, none_tells _ HNO.out, HB3.out⟩
  | true =>
  go_upto_region 4 with (go_at_call 78; refine (scansionref10_some.calls KS Aa ca at_ true W2 (Kd.C_below HCA.out HB2.out) HCAL.out HSO.out).mono ?_; rintro e W3 ⟨rfl, hdr⟩; have hb := hdr.below; have HB3 := Aside0.mk (HB2.out.trans (hb.mono HB2.out.size)); have HNB3 := Aside0.mk (blk_below HNB2.out hb); have HO3 := Aside0.mk (Kd.R_below HO2.out hb); clear hb hdr)
  clear HB2 HNB2 HO2
  have n0 := (blk_cell HNB3.out 0).trans rfl
  have n1 := (blk_cell HNB3.out 1).trans rfl
  have n2 := (blk_cell HNB3.out 2).trans rfl
  have HGL := Aside0.mk (show Fill (leafG word at_ s) (0 + 1) (List.replicate (word.length + 1) false) from fill_skip (fill_zero _ _) rfl)
  go_wp2_with fail
  clear n0 n1 n2
  go_loopg [8] word.length (fun kq v8 w' => ∃ (z : Int) (acc : List Bool), v8 = .int .i64 z ∧ Aside0 (0 ≤ z ∧ z + kq = word.length) ∧ Aside0 (acc.length = word.length + 1 ∧ Fill (leafG word at_ s) (z.toNat + 1) acc) ∧ Aside0 (Kd.R Kd.bool 4 w' W.heap.size (fun _ => True) (.slice (some ⟨OB, 0, none⟩) (word.length + 1) oc) acc) ∧ Aside0 (w'.heap[NB]? = some (.cells #[.int .i64 1, .int .i64 s, .slice A kids.length c] 24 (0, 0))) ∧ Aside0 (Below W.heap.size W w'))
  case atStart => exact ⟨0, List.replicate (word.length + 1) false, rfl, ⟨by omega, by omega⟩, ⟨List.length_replicate, HGL.out⟩, HO3, HNB3, HB3⟩
  case round =>
    clear HO3 HNB3 HB3 HGL
    obtain ⟨z, acc, rfl, HZ, HF, HO, HN, HB⟩ := hrel
    by_cases q0 : gk = 0
    · have f1 : ¬ z < (word.length : Int) := by have := HZ.out; omega
      have f2 : decide (z < (word.length : Int)) = false := decide_eq_false f1
      have HT := Aside0.mk (leaf_tells (kids := kids) HF.out.1 (by have := HZ.out; have := HF.out.2; rw [show z.toNat + 1 = word.length + 1 by omega] at this; exact this))
      clear q0
      go_wp2_with fail
      go_ret
      exact ⟨some ⟨OB, 0, none⟩, oc, acc, by rw [HF.out.1]; rfl, (Kd.R_reads' HO.out).2.2, by rw [HF.out.1]; exact (Kd.R_reads' HO.out).2.1, HT.out, HB.out⟩
    · have HQ := Aside0.mk q0
      clear q0
      have f1 : z < (word.length : Int) := by have := HZ.out; have := HQ.out; omega
      have f2 : decide (z < (word.length : Int)) = true := decide_eq_true f1
      have f3 : (0 : Int) ≤ z := HZ.out.1
      have f4 : z < (at_.length : Int) := by have := HLA.out; omega
      have f5 : decide (z < (at_.length : Int)) = true := decide_eq_true f4
      have f6 : wrap64 (z + 1) = z + 1 := by have := HWL.out; unfold wrap64; omega
      have f7 : z + 1 < (word.length : Int) + 1 := by omega
      have f8 : (0 : Int) ≤ z + 1 := by omega
      have f9 : IntKind.u64.wrap s = s := by have := HS.out; simp [IntKind.wrap, IntKind.bits, IntKind.signed]; omega
      have f10 : (0 : Int) ≤ s := HS.out.1
      obtain ⟨ada, eA, hxa⟩ := Kd.at_bool HCA.out z f3 f4
      obtain ⟨adw, eW, hxw⟩ := Kd.at_int HCW.out z f3 f1
      subst eA eW
      obtain ⟨y, hy⟩ : ∃ y, y = rd word z := ⟨_, rfl⟩
      rw [← hy] at hxw
      have HY := Aside0.mk hy
      obtain ⟨u, hu⟩ : ∃ u, u = rdOf false at_ z := ⟨_, rfl⟩
      rw [← hu] at hxa
      have HUU := Aside0.mk hu
      clear hy hu
      go_upto_region 21 with fail
      cases u
      case true =>
        have hbd := below_drew (Below.refl wr.heap.size wr)
        have HB' := Aside0.mk (HB.out.trans (hbd.mono HB.out.size))
        have HN' := Aside0.mk (blk_below HN.out hbd)
        have HO' := Aside0.mk (Kd.R_below HO.out hbd)
        clear hbd HB HN HO
        have HCA2 := Aside0.mk ((HB'.out.cell (World.block_lt_of_cell? W _ hxa)).trans hxa)
        have HCW2 := Aside0.mk ((HB'.out.cell (World.block_lt_of_cell? W _ hxw)).trans hxw)
        clear hxa hxw
        refine wp_region_noPanic ?_
        refine start_ (n := 21) (S := fun w' => w'.cell? ⟨NB, 0, none⟩ = some (.int .i64 1) ∧ w'.cell? ⟨NB, 1, none⟩ = some (.int .i64 s) ∧ w'.cell? ⟨NB, 2, none⟩ = some (.slice A kids.length c) ∧ w'.cell? (ada.add z.toNat) = some (.bool true) ∧ w'.cell? (adw.add z.toNat) = some (.int .u64 y)) (ds := [20]) #[false, false, false, false, false, false, false, false, false, false, false, false, false, false, false, false, false, false, false, false, false] (by kernel_rfl) rfl rfl ⟨(blk_cell HN'.out 0).trans rfl, (blk_cell HN'.out 1).trans rfl, (blk_cell HN'.out 2).trans rfl, HCA2.out, HCW2.out⟩ (fun hHeld => ?_); refine with_tabW gen_tab21 gen_bits21 (fun HT_ HW_ => ?_)
        obtain ⟨W5, hW5⟩ : ∃ w, wr.drew = w := ⟨_, rfl⟩
        rw [hW5] at HB' HN' HO' HCA2 HCW2 hHeld ⊢
        clear hW5
        refine pure_ (i := 0) (N := some 81) (v := ?_) (a' := ?_) #[true, false, false, false, false, false, false, false, false, false, false, false, false, false, false, false, false, false, false, false, false] rfl rfl (any_of HT_.out (by kernel_rfl)) (fun _ _ _ h => h) (Or.inl ⟨by rfl, ?_⟩) ?_ ?_
        rotate_left
        · intro w'
          go_simp
          with_reducible rfl
        rotate_left
        · simp only [Act.put, List.setIfInBounds_toArray, List.set_cons_zero, List.set_cons_succ, i64_w, i32_w]
          rfl
        refine pure_ (i := 1) (N := some 82) (v := ?_) (a' := ?_) #[true, true, false, false, false, false, false, false, false, false, false, false, false, false, false, false, false, false, false, false, false] rfl rfl (any_of HT_.out (by kernel_rfl)) (fun _ _ _ h => h) (Or.inl ⟨by rfl, ?_⟩) ?_ ?_
        rotate_left
        · intro w'
          go_simp
          with_reducible rfl
        rotate_left
        · simp only [Act.put, List.setIfInBounds_toArray, List.set_cons_zero, List.set_cons_succ, i64_w, i32_w]
          rfl
        refine pure_ (i := 2) (N := some 83) (v := ?_) (a' := ?_) #[true, true, true, false, false, false, false, false, false, false, false, false, false, false, false, false, false, false, false, false, false] rfl rfl (any_of HT_.out (by kernel_rfl)) (fun _ _ _ h => h) (Or.inl ⟨by rfl, ?_⟩) ?_ ?_
        rotate_left
        · intro w'
          go_simp
          with_reducible rfl
        rotate_left
        · simp only [Act.put, List.setIfInBounds_toArray, List.set_cons_zero, List.set_cons_succ, i64_w, i32_w]
          rfl
        refine pure_ (i := 3) (N := some 84) (v := ?_) (a' := ?_) #[true, true, true, true, false, false, false, false, false, false, false, false, false, false, false, false, false, false, false, false, false] rfl rfl (any_of HT_.out (by kernel_rfl)) (fun _ _ _ h => h) (Or.inl ⟨by rfl, ?_⟩) ?_ ?_
        rotate_left
        · intro w'
          go_simp
          with_reducible rfl
        rotate_left
        · simp only [Act.put, List.setIfInBounds_toArray, List.set_cons_zero, List.set_cons_succ, i64_w, i32_w]
          rfl
        refine pure_ (i := 4) (N := some 85) (v := ?_) (a' := ?_) #[true, true, true, true, true, false, false, false, false, false, false, false, false, false, false, false, false, false, false, false, false] rfl rfl (any_of HT_.out (by kernel_rfl)) (fun _ _ _ h => h) (Or.inl ⟨by rfl, ?_⟩) ?_ ?_
        rotate_left
        · intro w'
          go_simp
          with_reducible rfl
        rotate_left
        · simp only [Act.put, List.setIfInBounds_toArray, List.set_cons_zero, List.set_cons_succ, i64_w, i32_w]
          rfl
        refine pure_ (i := 5) (N := some 86) (v := ?_) (a' := ?_) #[true, true, true, true, true, true, false, false, false, false, false, false, false, false, false, false, false, false, false, false, false] rfl rfl (any_of HT_.out (by kernel_rfl)) (fun _ _ _ h => h) (Or.inl ⟨by rfl, ?_⟩) ?_ ?_
        rotate_left
        · intro w'
          go_simp
          with_reducible rfl
        rotate_left
        · simp only [Act.put, List.setIfInBounds_toArray, List.set_cons_zero, List.set_cons_succ, i64_w, i32_w]
          rfl
        refine take_ (i := 6) (N := some 87) (v := ?_) (a' := ?_) #[true, true, true, true, true, true, true, false, false, false, false, false, false, false, false, false, false, false, false, false, false] rfl rfl (take_ofW HT_.out HW_.out (by kernel_rfl)) (fun _ _ _ h => h) (Or.inl ⟨by rfl, ?_⟩) hHeld ?_ ?_
        rotate_left
        · rintro w' ⟨s0, s1, s2, s3, s4⟩
          go_simp
          with_reducible rfl
        rotate_left
        · simp only [Act.put, List.setIfInBounds_toArray, List.set_cons_zero, List.set_cons_succ, i64_w, i32_w]
          rfl
        refine pure_ (i := 7) (N := some 88) (v := ?_) (a' := ?_) #[true, true, true, true, true, true, true, true, false, false, false, false, false, false, false, false, false, false, false, false, false] rfl rfl (any_of HT_.out (by kernel_rfl)) (fun _ _ _ h => h) (Or.inl ⟨by rfl, ?_⟩) ?_ ?_
        rotate_left
        · intro w'
          go_simp
          with_reducible rfl
        rotate_left
        · simp only [Act.put, List.setIfInBounds_toArray, List.set_cons_zero, List.set_cons_succ, i64_w, i32_w]
          rfl
        refine pure_ (i := 8) (N := some 89) (v := ?_) (a' := ?_) #[true, true, true, true, true, true, true, true, true, false, false, false, false, false, false, false, false, false, false, false, false] rfl rfl (any_of HT_.out (by kernel_rfl)) (fun _ _ _ h => h) (Or.inl ⟨by rfl, ?_⟩) ?_ ?_
        rotate_left
        · intro w'
          go_simp
          with_reducible rfl
        rotate_left
        · simp only [Act.put, List.setIfInBounds_toArray, List.set_cons_zero, List.set_cons_succ, i64_w, i32_w]
          rfl
        refine pure_ (i := 9) (N := some 90) (v := ?_) (a' := ?_) #[true, true, true, true, true, true, true, true, true, true, false, false, false, false, false, false, false, false, false, false, false] rfl rfl (any_of HT_.out (by kernel_rfl)) (fun _ _ _ h => h) (Or.inl ⟨by rfl, ?_⟩) ?_ ?_
        rotate_left
        · intro w'
          go_simp
          with_reducible rfl
        rotate_left
        · simp only [Act.put, List.setIfInBounds_toArray, List.set_cons_zero, List.set_cons_succ, i64_w, i32_w]
          rfl
        refine pure_ (i := 10) (N := some 91) (v := ?_) (a' := ?_) #[true, true, true, true, true, true, true, true, true, true, true, false, false, false, false, false, false, false, false, false, false] rfl rfl (any_of HT_.out (by kernel_rfl)) (fun _ _ _ h => h) (Or.inl ⟨by rfl, ?_⟩) ?_ ?_
        rotate_left
        · intro w'
          go_simp
          with_reducible rfl
        rotate_left
        · simp only [Act.put, List.setIfInBounds_toArray, List.set_cons_zero, List.set_cons_succ, i64_w, i32_w]
          rfl
        refine pure_ (i := 12) (N := some 93) (v := ?_) (a' := ?_) #[true, true, true, true, true, true, true, true, true, true, true, false, true, false, false, false, false, false, false, false, false] rfl rfl (any_of HT_.out (by kernel_rfl)) (fun _ _ _ h => h) (Or.inl ⟨by rfl, ?_⟩) ?_ ?_
        rotate_left
        · intro w'
          go_simp
          with_reducible rfl
        rotate_left
        · simp only [Act.put, List.setIfInBounds_toArray, List.set_cons_zero, List.set_cons_succ, i64_w, i32_w]
          rfl
        refine take_ (i := 11) (N := some 92) (v := ?_) (a' := ?_) #[true, true, true, true, true, true, true, true, true, true, true, true, true, false, false, false, false, false, false, false, false] rfl rfl (take_ofW HT_.out HW_.out (by kernel_rfl)) (fun _ _ _ h => h) (Or.inl ⟨by rfl, ?_⟩) hHeld ?_ ?_
        rotate_left
        · rintro w' ⟨s0, s1, s2, s3, s4⟩
          go_simp
          with_reducible rfl
        rotate_left
        · simp only [Act.put, List.setIfInBounds_toArray, List.set_cons_zero, List.set_cons_succ, i64_w, i32_w]
          rfl
        refine take_ (i := 13) (N := some 94) (v := ?_) (a' := ?_) #[true, true, true, true, true, true, true, true, true, true, true, true, true, true, false, false, false, false, false, false, false] rfl rfl (take_ofW HT_.out HW_.out (by kernel_rfl)) (fun _ _ _ h => h) (Or.inl ⟨by rfl, ?_⟩) hHeld ?_ ?_
        rotate_left
        · rintro w' ⟨s0, s1, s2, s3, s4⟩
          go_simp
          with_reducible rfl
        rotate_left
        · simp only [Act.put, List.setIfInBounds_toArray, List.set_cons_zero, List.set_cons_succ, i64_w, i32_w]
          rfl
        refine pure_ (i := 14) (N := some 95) (v := ?_) (a' := ?_) #[true, true, true, true, true, true, true, true, true, true, true, true, true, true, true, false, false, false, false, false, false] rfl rfl (any_of HT_.out (by kernel_rfl)) (fun _ _ _ h => h) (Or.inl ⟨by rfl, ?_⟩) ?_ ?_
        rotate_left
        · intro w'
          go_simp
          with_reducible rfl
        rotate_left
        · simp only [Act.put, List.setIfInBounds_toArray, List.set_cons_zero, List.set_cons_succ, i64_w, i32_w]
          rfl
        refine pure_ (i := 15) (N := some 96) (v := ?_) (a' := ?_) #[true, true, true, true, true, true, true, true, true, true, true, true, true, true, true, true, false, false, false, false, false] rfl rfl (any_of HT_.out (by kernel_rfl)) (fun _ _ _ h => h) (Or.inl ⟨by rfl, ?_⟩) ?_ ?_
        rotate_left
        · intro w'
          go_simp
          with_reducible rfl
        rotate_left
        · simp only [Act.put, List.setIfInBounds_toArray, List.set_cons_zero, List.set_cons_succ, i64_w, i32_w]
          rfl
        refine pure_ (i := 16) (N := some 97) (v := ?_) (a' := ?_) #[true, true, true, true, true, true, true, true, true, true, true, true, true, true, true, true, true, false, false, false, false] rfl rfl (any_of HT_.out (by kernel_rfl)) (fun _ _ _ h => h) (Or.inl ⟨by rfl, ?_⟩) ?_ ?_
        rotate_left
        · intro w'
          go_simp
          with_reducible rfl
        rotate_left
        · simp only [Act.put, List.setIfInBounds_toArray, List.set_cons_zero, List.set_cons_succ, i64_w, i32_w]
          rfl
        refine pure_ (i := 17) (N := some 98) (v := ?_) (a' := ?_) #[true, true, true, true, true, true, true, true, true, true, true, true, true, true, true, true, true, true, false, false, false] rfl rfl (any_of HT_.out (by kernel_rfl)) (fun _ _ _ h => h) (Or.inl ⟨by rfl, ?_⟩) ?_ ?_
        rotate_left
        · intro w'
          go_simp
          with_reducible rfl
        rotate_left
        · simp only [Act.put, List.setIfInBounds_toArray, List.set_cons_zero, List.set_cons_succ, i64_w, i32_w]
          rfl
        refine pure_ (i := 18) (N := some 99) (v := ?_) (a' := ?_) #[true, true, true, true, true, true, true, true, true, true, true, true, true, true, true, true, true, true, true, false, false] rfl rfl (any_of HT_.out (by kernel_rfl)) (fun _ _ _ h => h) (Or.inl ⟨by rfl, ?_⟩) ?_ ?_
        rotate_left
        · intro w'
          go_simp
          with_reducible rfl
        rotate_left
        · simp only [Act.put, List.setIfInBounds_toArray, List.set_cons_zero, List.set_cons_succ, i64_w, i32_w]
          rfl
        obtain ⟨hx5, hf5⟩ := Kd.R_celln false HO'.out (z + 1) (by omega) (by have := HZ.out; omega)
        have HP5 := Aside0.mk (Kd.R_putg HO'.out (z + 1) (Go.bits .and .u64 (y / 2 ^ min s.toNat 64) 1 == 1))
        refine pure_ (i := 19) (N := some 100) (v := ?_) (a' := ?_) #[true, true, true, true, true, true, true, true, true, true, true, true, true, true, true, true, true, true, true, true, false] rfl rfl (any_of HT_.out (by kernel_rfl)) (fun _ _ _ h => h) (Or.inl ⟨by rfl, ?_⟩) ?_ ?_
        rotate_left
        · intro w'
          go_simp
          with_reducible rfl
        rotate_left
        · simp only [Act.put, List.setIfInBounds_toArray, List.set_cons_zero, List.set_cons_succ, i64_w, i32_w]
          rfl
        refine last_ (i := 20) (N := none) #[true, true, true, true, true, true, true, true, true, true, true, true, true, true, true, true, true, true, true, true, true] rfl rfl (one_of HT_.out (by kernel_rfl)) (by decide) (fun K hK => ?_)
        refine step_list rfl (by rfl) ?_
        unfold Oper.wp
        go_simp
        refine hK.out _ _ ?_
        clear hK K
        refine done_ (done_of HT_.out (by kernel_rfl)) ?_
        refine NoPanic.normal ?_
        clear HT_ HW_ hHeld
        have hgr := HP5.out.2
        obtain ⟨W6, hW6⟩ : ∃ w, W5.setCell ⟨OB, (z + 1).toNat, none⟩ (.bool (Go.bits .and .u64 (y / 2 ^ min s.toNat 64) 1 == 1)) = w := ⟨_, rfl⟩
        have HP6 := Aside0.mk HP5.out.1
        rw [hW6] at HP6 hgr
        rw [hW6]
        have HB6 := Aside0.mk (show Below W.heap.size W W6 by rw [← hW6]; exact below_set HB'.out HOB.out)
        have HN6 := Aside0.mk (blk_grown HN'.out hgr (Kd.R_ne HO'.out HN'.out (by decide)))
        clear hgr hW6 HP5 HB' HN' HO' hx5 hf5
        go_wp2_with fail
        go_roundg (gk - 1)
        case measure => have := HQ.out; omega
        case rel => exact ⟨z + 1, acc.set (z + 1).toNat (Go.bits .and .u64 (y / 2 ^ min s.toNat 64) 1 == 1), by rw [f6], ⟨by have := HZ.out; omega, by have := HZ.out; have := HQ.out; omega⟩, ⟨by rw [List.length_set]; exact HF.out.1, by have h := fill_set HF.out.2 (by have := HF.out.1; have := HZ.out; omega) (v := (Go.bits .and .u64 (y / 2 ^ min s.toNat 64) 1 == 1)) (leaf_valT HZ.out.1 HUU.out HY.out); rw [show z.toNat + 1 = (z + 1).toNat by have := HZ.out.1; omega] at h; exact h⟩, HP6, HN6, HB6⟩
      case false =>
        have hbd := below_drew (Below.refl wr.heap.size wr)
        have HB' := Aside0.mk (HB.out.trans (hbd.mono HB.out.size))
        have HN' := Aside0.mk (blk_below HN.out hbd)
        have HO' := Aside0.mk (Kd.R_below HO.out hbd)
        clear hbd HB HN HO
        have HCA2 := Aside0.mk ((HB'.out.cell (World.block_lt_of_cell? W _ hxa)).trans hxa)
        have HCW2 := Aside0.mk ((HB'.out.cell (World.block_lt_of_cell? W _ hxw)).trans hxw)
        clear hxa hxw
        refine wp_region_noPanic ?_
        refine start_ (n := 21) (S := fun w' => w'.cell? ⟨NB, 0, none⟩ = some (.int .i64 1) ∧ w'.cell? ⟨NB, 1, none⟩ = some (.int .i64 s) ∧ w'.cell? ⟨NB, 2, none⟩ = some (.slice A kids.length c) ∧ w'.cell? (ada.add z.toNat) = some (.bool false) ∧ w'.cell? (adw.add z.toNat) = some (.int .u64 y)) (ds := [20]) #[false, false, false, false, false, false, false, false, false, false, false, false, false, false, false, false, false, false, false, false, false] (by kernel_rfl) rfl rfl ⟨(blk_cell HN'.out 0).trans rfl, (blk_cell HN'.out 1).trans rfl, (blk_cell HN'.out 2).trans rfl, HCA2.out, HCW2.out⟩ (fun hHeld => ?_); refine with_tabW gen_tab21 gen_bits21 (fun HT_ HW_ => ?_)
        obtain ⟨W5, hW5⟩ : ∃ w, wr.drew = w := ⟨_, rfl⟩
        rw [hW5] at HB' HN' HO' HCA2 HCW2 hHeld ⊢
        clear hW5
        refine pure_ (i := 0) (N := some 81) (v := ?_) (a' := ?_) #[true, false, false, false, false, false, false, false, false, false, false, false, false, false, false, false, false, false, false, false, false] rfl rfl (any_of HT_.out (by kernel_rfl)) (fun _ _ _ h => h) (Or.inl ⟨by rfl, ?_⟩) ?_ ?_
        rotate_left
        · intro w'
          go_simp
          with_reducible rfl
        rotate_left
        · simp only [Act.put, List.setIfInBounds_toArray, List.set_cons_zero, List.set_cons_succ, i64_w, i32_w]
          rfl
        refine pure_ (i := 1) (N := some 82) (v := ?_) (a' := ?_) #[true, true, false, false, false, false, false, false, false, false, false, false, false, false, false, false, false, false, false, false, false] rfl rfl (any_of HT_.out (by kernel_rfl)) (fun _ _ _ h => h) (Or.inl ⟨by rfl, ?_⟩) ?_ ?_
        rotate_left
        · intro w'
          go_simp
          with_reducible rfl
        rotate_left
        · simp only [Act.put, List.setIfInBounds_toArray, List.set_cons_zero, List.set_cons_succ, i64_w, i32_w]
          rfl
        refine pure_ (i := 2) (N := some 83) (v := ?_) (a' := ?_) #[true, true, true, false, false, false, false, false, false, false, false, false, false, false, false, false, false, false, false, false, false] rfl rfl (any_of HT_.out (by kernel_rfl)) (fun _ _ _ h => h) (Or.inl ⟨by rfl, ?_⟩) ?_ ?_
        rotate_left
        · intro w'
          go_simp
          with_reducible rfl
        rotate_left
        · simp only [Act.put, List.setIfInBounds_toArray, List.set_cons_zero, List.set_cons_succ, i64_w, i32_w]
          rfl
        refine pure_ (i := 3) (N := some 84) (v := ?_) (a' := ?_) #[true, true, true, true, false, false, false, false, false, false, false, false, false, false, false, false, false, false, false, false, false] rfl rfl (any_of HT_.out (by kernel_rfl)) (fun _ _ _ h => h) (Or.inl ⟨by rfl, ?_⟩) ?_ ?_
        rotate_left
        · intro w'
          go_simp
          with_reducible rfl
        rotate_left
        · simp only [Act.put, List.setIfInBounds_toArray, List.set_cons_zero, List.set_cons_succ, i64_w, i32_w]
          rfl
        refine pure_ (i := 4) (N := some 85) (v := ?_) (a' := ?_) #[true, true, true, true, true, false, false, false, false, false, false, false, false, false, false, false, false, false, false, false, false] rfl rfl (any_of HT_.out (by kernel_rfl)) (fun _ _ _ h => h) (Or.inl ⟨by rfl, ?_⟩) ?_ ?_
        rotate_left
        · intro w'
          go_simp
          with_reducible rfl
        rotate_left
        · simp only [Act.put, List.setIfInBounds_toArray, List.set_cons_zero, List.set_cons_succ, i64_w, i32_w]
          rfl
        refine pure_ (i := 5) (N := some 86) (v := ?_) (a' := ?_) #[true, true, true, true, true, true, false, false, false, false, false, false, false, false, false, false, false, false, false, false, false] rfl rfl (any_of HT_.out (by kernel_rfl)) (fun _ _ _ h => h) (Or.inl ⟨by rfl, ?_⟩) ?_ ?_
        rotate_left
        · intro w'
          go_simp
          with_reducible rfl
        rotate_left
        · simp only [Act.put, List.setIfInBounds_toArray, List.set_cons_zero, List.set_cons_succ, i64_w, i32_w]
          rfl
        refine take_ (i := 6) (N := some 87) (v := ?_) (a' := ?_) #[true, true, true, true, true, true, true, false, false, false, false, false, false, false, false, false, false, false, false, false, false] rfl rfl (take_ofW HT_.out HW_.out (by kernel_rfl)) (fun _ _ _ h => h) (Or.inl ⟨by rfl, ?_⟩) hHeld ?_ ?_
        rotate_left
        · rintro w' ⟨s0, s1, s2, s3, s4⟩
          go_simp
          with_reducible rfl
        rotate_left
        · simp only [Act.put, List.setIfInBounds_toArray, List.set_cons_zero, List.set_cons_succ, i64_w, i32_w]
          rfl
        refine pure_ (i := 7) (N := some 88) (v := ?_) (a' := ?_) #[true, true, true, true, true, true, true, true, false, false, false, false, false, false, false, false, false, false, false, false, false] rfl rfl (any_of HT_.out (by kernel_rfl)) (fun _ _ _ h => h) (Or.inl ⟨by rfl, ?_⟩) ?_ ?_
        rotate_left
        · intro w'
          go_simp
          with_reducible rfl
        rotate_left
        · simp only [Act.put, List.setIfInBounds_toArray, List.set_cons_zero, List.set_cons_succ, i64_w, i32_w]
          rfl
        refine pure_ (i := 8) (N := some 89) (v := undef) (a' := ?_) #[true, true, true, true, true, true, true, true, true, false, false, false, false, false, false, false, false, false, false, false, false] rfl rfl (any_of HT_.out (by kernel_rfl)) (fun _ _ _ h => h) (Or.inr ⟨by rfl, rfl⟩) ?_ ?_
        rotate_left
        · simp only [Act.put, List.setIfInBounds_toArray, List.set_cons_zero, List.set_cons_succ, i64_w, i32_w]
          rfl
        refine pure_ (i := 9) (N := some 90) (v := undef) (a' := ?_) #[true, true, true, true, true, true, true, true, true, true, false, false, false, false, false, false, false, false, false, false, false] rfl rfl (any_of HT_.out (by kernel_rfl)) (fun _ _ _ h => h) (Or.inr ⟨by rfl, rfl⟩) ?_ ?_
        rotate_left
        · simp only [Act.put, List.setIfInBounds_toArray, List.set_cons_zero, List.set_cons_succ, i64_w, i32_w]
          rfl
        refine pure_ (i := 10) (N := some 91) (v := undef) (a' := ?_) #[true, true, true, true, true, true, true, true, true, true, true, false, false, false, false, false, false, false, false, false, false] rfl rfl (any_of HT_.out (by kernel_rfl)) (fun _ _ _ h => h) (Or.inr ⟨by rfl, rfl⟩) ?_ ?_
        rotate_left
        · simp only [Act.put, List.setIfInBounds_toArray, List.set_cons_zero, List.set_cons_succ, i64_w, i32_w]
          rfl
        refine pure_ (i := 12) (N := some 93) (v := undef) (a' := ?_) #[true, true, true, true, true, true, true, true, true, true, true, false, true, false, false, false, false, false, false, false, false] rfl rfl (any_of HT_.out (by kernel_rfl)) (fun _ _ _ h => h) (Or.inr ⟨by rfl, rfl⟩) ?_ ?_
        rotate_left
        · simp only [Act.put, List.setIfInBounds_toArray, List.set_cons_zero, List.set_cons_succ, i64_w, i32_w]
          rfl
        refine pure_ (i := 11) (N := some 92) (v := undef) (a' := ?_) #[true, true, true, true, true, true, true, true, true, true, true, true, true, false, false, false, false, false, false, false, false] rfl rfl (any_of HT_.out (by kernel_rfl)) (fun _ _ _ h => h) (Or.inr ⟨by rfl, rfl⟩) ?_ ?_
        rotate_left
        · simp only [Act.put, List.setIfInBounds_toArray, List.set_cons_zero, List.set_cons_succ, i64_w, i32_w]
          rfl
        refine pure_ (i := 13) (N := some 94) (v := undef) (a' := ?_) #[true, true, true, true, true, true, true, true, true, true, true, true, true, true, false, false, false, false, false, false, false] rfl rfl (any_of HT_.out (by kernel_rfl)) (fun _ _ _ h => h) (Or.inr ⟨by rfl, rfl⟩) ?_ ?_
        rotate_left
        · simp only [Act.put, List.setIfInBounds_toArray, List.set_cons_zero, List.set_cons_succ, i64_w, i32_w]
          rfl
        refine pure_ (i := 14) (N := some 95) (v := undef) (a' := ?_) #[true, true, true, true, true, true, true, true, true, true, true, true, true, true, true, false, false, false, false, false, false] rfl rfl (any_of HT_.out (by kernel_rfl)) (fun _ _ _ h => h) (Or.inr ⟨by rfl, rfl⟩) ?_ ?_
        rotate_left
        · simp only [Act.put, List.setIfInBounds_toArray, List.set_cons_zero, List.set_cons_succ, i64_w, i32_w]
          rfl
        refine pure_ (i := 15) (N := some 96) (v := undef) (a' := ?_) #[true, true, true, true, true, true, true, true, true, true, true, true, true, true, true, true, false, false, false, false, false] rfl rfl (any_of HT_.out (by kernel_rfl)) (fun _ _ _ h => h) (Or.inr ⟨by rfl, rfl⟩) ?_ ?_
        rotate_left
        · simp only [Act.put, List.setIfInBounds_toArray, List.set_cons_zero, List.set_cons_succ, i64_w, i32_w]
          rfl
        refine pure_ (i := 16) (N := some 97) (v := undef) (a' := ?_) #[true, true, true, true, true, true, true, true, true, true, true, true, true, true, true, true, true, false, false, false, false] rfl rfl (any_of HT_.out (by kernel_rfl)) (fun _ _ _ h => h) (Or.inr ⟨by rfl, rfl⟩) ?_ ?_
        rotate_left
        · simp only [Act.put, List.setIfInBounds_toArray, List.set_cons_zero, List.set_cons_succ, i64_w, i32_w]
          rfl
        refine pure_ (i := 17) (N := some 98) (v := undef) (a' := ?_) #[true, true, true, true, true, true, true, true, true, true, true, true, true, true, true, true, true, true, false, false, false] rfl rfl (any_of HT_.out (by kernel_rfl)) (fun _ _ _ h => h) (Or.inr ⟨by rfl, rfl⟩) ?_ ?_
        rotate_left
        · simp only [Act.put, List.setIfInBounds_toArray, List.set_cons_zero, List.set_cons_succ, i64_w, i32_w]
          rfl
        refine pure_ (i := 18) (N := some 99) (v := ?_) (a' := ?_) #[true, true, true, true, true, true, true, true, true, true, true, true, true, true, true, true, true, true, true, false, false] rfl rfl (any_of HT_.out (by kernel_rfl)) (fun _ _ _ h => h) (Or.inl ⟨by rfl, ?_⟩) ?_ ?_
        rotate_left
        · intro w'
          go_simp
          with_reducible rfl
        rotate_left
        · simp only [Act.put, List.setIfInBounds_toArray, List.set_cons_zero, List.set_cons_succ, i64_w, i32_w]
          rfl
        obtain ⟨hx5, hf5⟩ := Kd.R_celln false HO'.out (z + 1) (by omega) (by have := HZ.out; omega)
        have HP5 := Aside0.mk (Kd.R_putg HO'.out (z + 1) false)
        refine pure_ (i := 19) (N := some 100) (v := ?_) (a' := ?_) #[true, true, true, true, true, true, true, true, true, true, true, true, true, true, true, true, true, true, true, true, false] rfl rfl (any_of HT_.out (by kernel_rfl)) (fun _ _ _ h => h) (Or.inl ⟨by rfl, ?_⟩) ?_ ?_
        rotate_left
        · intro w'
          go_simp
          with_reducible rfl
        rotate_left
        · simp only [Act.put, List.setIfInBounds_toArray, List.set_cons_zero, List.set_cons_succ, i64_w, i32_w]
          rfl
        refine last_ (i := 20) (N := none) #[true, true, true, true, true, true, true, true, true, true, true, true, true, true, true, true, true, true, true, true, true] rfl rfl (one_of HT_.out (by kernel_rfl)) (by decide) (fun K hK => ?_)
        refine step_list rfl (by rfl) ?_
        unfold Oper.wp
        go_simp
        refine hK.out _ _ ?_
        clear hK K
        refine done_ (done_of HT_.out (by kernel_rfl)) ?_
        refine NoPanic.normal ?_
        clear HT_ HW_ hHeld
        have hgr := HP5.out.2
        obtain ⟨W6, hW6⟩ : ∃ w, W5.setCell ⟨OB, (z + 1).toNat, none⟩ (.bool false) = w := ⟨_, rfl⟩
        have HP6 := Aside0.mk HP5.out.1
        rw [hW6] at HP6 hgr
        rw [hW6]
        have HB6 := Aside0.mk (show Below W.heap.size W W6 by rw [← hW6]; exact below_set HB'.out HOB.out)
        have HN6 := Aside0.mk (blk_grown HN'.out hgr (Kd.R_ne HO'.out HN'.out (by decide)))
        clear hgr hW6 HP5 HB' HN' HO' hx5 hf5
        go_wp2_with fail
        go_roundg (gk - 1)
        case measure => have := HQ.out; omega
        case rel => exact ⟨z + 1, acc.set (z + 1).toNat false, by rw [f6], ⟨by have := HZ.out; omega, by have := HZ.out; have := HQ.out; omega⟩, ⟨by rw [List.length_set]; exact HF.out.1, by have h := fill_set HF.out.2 (by have := HF.out.1; have := HZ.out; omega) (v := false) (leaf_valF HZ.out.1 HUU.out); rw [show z.toNat + 1 = (z + 1).toNat by have := HZ.out.1; omega] at h; exact h⟩, HP6, HN6, HB6⟩
theorem star_next {word : List Int} {x : S24} {P : Nat → Prop} {out fresh next fr out' : List Bool} (hI : StarI word x P out fresh) (hn : Tells word (fun j => ∃ i, on fresh i ∧ WayN (hitM word) x i j) next) (hf1 : fr.length = word.length + 1) (hfr : ∀ j, on fr j ↔ on next j ∧ ¬ on out j) (ho' : out'.length = word.length + 1) (ho2 : ∀ j, on out' j ↔ on out j ∨ on next j) : StarI word x P out' fr ∧ ((∃ j, on fr j) → offs out' < offs out) := by
  obtain ⟨hn1, hn2⟩ := hn
  refine ⟨⟨ho', hf1, fun j h => (ho2 j).2 (.inr ((hfr j).1 h).1), fun j h => ?_, fun i h => (ho2 i).2 (.inl (hI.all i h)), fun i j hi hnf hw => ?_⟩, fun ⟨j, hj⟩ => ?_⟩
  · rcases (ho2 j).1 h with h | h
    · exact hI.sub j h
    · obtain ⟨i, h1, h2⟩ := (hn2 j).1 h
      obtain ⟨i0, h3, h4⟩ := hI.sub i (hI.fo i h1)
      exact ⟨i0, h3, .more h4 h2⟩
  · by_cases q : on out i
    · by_cases q2 : on fresh i
      · exact (ho2 j).2 (.inr ((hn2 j).2 ⟨i, q2, hw⟩))
      · exact (ho2 j).2 (.inl (hI.cl i j q q2 hw))
    · exact absurd ((hfr i).2 ⟨((ho2 i).1 hi).resolve_left q, q⟩) hnf
  · exact (offs_lt out out' (by rw [hI.ol, ho']) (fun j h => (ho2 j).2 (.inl h))).2 ⟨j, (ho2 j).2 (.inr ((hfr j).1 hj).1), ((hfr j).1 hj).2⟩
theorem fill_fresh {out next fr : List Bool} {n : Nat} (hl : fr.length = n) (hn : next.length = n) (hf : Fill (fun j => next.getD j false && !(out.getD j false)) n fr) (j : Nat) : on fr j ↔ on next j ∧ ¬ on out j := by
  unfold on
  rw [hf j]
  by_cases q : j < n
  · rw [decide_eq_true q, Bool.true_and, Bool.and_eq_true, Bool.not_eq_true', ← Bool.not_eq_true]
  · rw [decide_eq_false q, Bool.false_and]
    exact ⟨fun h => (by cases h), fun h => absurd (on_lt h.1) (by omega)⟩
set_option maxHeartbeats 16000000 in
set_option maxRecDepth 100000 in
theorem re_k0 (s : Int) (kids : List S24) (hok : ∀ y ∈ kids, EndsOK y) : EndsOK ⟨0, s, kids⟩ := by
  intro hr W A c Aw cw word Aa ca at_ hC hc hCw hcw hwl hCa hca hla
  replace hC : Kd.C k24 W A kids.length kids := hC
  replace hc : kids.length ≤ c := hc
  show Calls Try.prog 52 #[.agg #[.int .i64 0, .int .i64 s, .slice A kids.length c], .slice Aw word.length cw, .slice Aa at_.length ca] W (EPost W word (fun j => ∃ i, on at_ i ∧ WayN (hitM word) ⟨0, s, kids⟩ i j))
  have HC := Aside0.mk hC
  have HCC := Aside0.mk hc
  have HCW := Aside0.mk hCw
  have HCWL := Aside0.mk hcw
  have HWL := Aside0.mk hwl
  have HCA := Aside0.mk hCa
  have HCAL := Aside0.mk hca
  have HLA := Aside0.mk hla
  have HOK := Aside0.mk hok
  have HLL := Aside0.mk (hC.2.1 : kids.length ≤ 9223372036854775807)
  have HRL := Aside0.mk (show rightL kids = true by rw [rightN, if_neg (by decide), if_pos rfl] at hr; exact hr)
  obtain ⟨p, hp⟩ : ∃ p : Bool, p = true ↔ ∃ j, on at_ j := ⟨@decide _ (Classical.propDecidable _), @decide_eq_true_iff _ (Classical.propDecidable _)⟩
  obtain ⟨KS, hKS⟩ := some_f at_ (by omega) p hp
  have HSO := Aside0.mk (hKS KS (Nat.le_refl _))
  have HPP := Aside0.mk hp
  have HWR := Aside0.mk (show wrap64 ((word.length : Int) + 1) = ((word.length + 1 : Nat) : Int) by unfold wrap64; omega)
  clear hC hc hCw hcw hwl hCa hca hla hok hr hp hKS
  go_enter Try.func52, Try.ntmps52
  go_upto_region 1 with fail
  have HB1 := Aside0.mk (below_alloc (Below.refl W.heap.size W) (.cells #[.int .i64 0, .int .i64 s, .slice A kids.length c] 24))
  have HNB1 := Aside0.mk (blk_new W (.cells #[.int .i64 0, .int .i64 s, .slice A kids.length c] 24))
  obtain ⟨NB, hNB⟩ : ∃ n, W.heap.size = n := ⟨_, rfl⟩
  rw [hNB] at HNB1
  obtain ⟨W1, hW1⟩ : ∃ w, W.alloc (.cells #[.int .i64 0, .int .i64 s, .slice A kids.length c] 24) = w := ⟨_, rfl⟩
  rw [hW1] at HB1 HNB1
  rw [hW1]
  rw [hNB]
  clear hNB hW1
  go_upto_region 2 with ((with_reducible refine gate_dst (N := 17) rfl ?_); refine Kd.R_make Kd.bool _ 4 rfl (N := 17) rfl 45 _ _ rfl (wrap64 ((word.length : Int) + 1)) rfl rfl Try.underlying45 (.bool false) 1 info4 rfl (by decide) (by omega) false (ok := fun _ => True) (okp := fun _ => True) rfl (fun _ hk => hk) trivial (by rw [HWR.out]; omega) (Nat.le_trans (Nat.mul_le_mul_right _ (show (wrap64 ((word.length : Int) + 1)).toNat ≤ 281474976710656 by rw [HWR.out]; have := HWL.out; omega)) (by omega)) (Below.refl _ _) (Nat.le_refl _) ?_; intro v W2 ho hb hg_ hnew_; rw [HWR.out, Int.toNat_natCast] at ho; obtain ⟨OB, oc, e0, gb, gl, gc⟩ := Kd.R_form ho (by rw [List.length_replicate]; omega); rw [List.length_replicate] at e0; subst e0; have HB2 := Aside0.mk (HB1.out.trans (hb.mono HB1.out.size)); have HNB2 := Aside0.mk (blk_below HNB1.out hb); have HO2 := Aside0.mk (Kd.R_lower ho HB1.out.size); have HOB := Aside0.mk (Nat.le_trans HB1.out.size gb); have HOG := Aside0.mk gc; clear ho hb hg_ hnew_ gb gl gc)
  clear HB1 HNB1
  cases p with
  | false =>
    have HNO := Aside0.mk (fun h => Bool.noConfusion (HPP.out.2 h) : ¬ ∃ j, on at_ j)
    go_wp2_with (go_at_call 78; refine (scansionref10_some.calls KS Aa ca at_ false W2 (Kd.C_below HCA.out HB2.out) HCAL.out HSO.out).mono ?_; rintro e W3 ⟨rfl, hdr⟩; have hb := hdr.below; have HB3 := Aside0.mk (HB2.out.trans (hb.mono HB2.out.size)); have HO3 := Aside0.mk (Kd.R_below HO2.out hb); clear hb hdr)
    go_ret
    exact ⟨some ⟨OB, 0, none⟩, oc, List.replicate (word.length + 1) false, by rw [List.length_replicate]; rfl, (Kd.R_reads' HO3.out).2.2, by rw [List.length_replicate]; exact (Kd.R_reads' HO3.out).2.1, none_tells _ HNO.out, HB3.out⟩
  | true =>
  go_upto_region 4 with (go_at_call 78; refine (scansionref10_some.calls KS Aa ca at_ true W2 (Kd.C_below HCA.out HB2.out) HCAL.out HSO.out).mono ?_; rintro e W3 ⟨rfl, hdr⟩; have hb := hdr.below; have HB3 := Aside0.mk (HB2.out.trans (hb.mono HB2.out.size)); have HNB3 := Aside0.mk (blk_below HNB2.out hb); have HO3 := Aside0.mk (Kd.R_below HO2.out hb); clear hb hdr)
  clear HB2 HNB2 HO2
  have n0 := (blk_cell HNB3.out 0).trans rfl
  have n1 := (blk_cell HNB3.out 1).trans rfl
  have n2 := (blk_cell HNB3.out 2).trans rfl
  go_wp2_with fail
  clear n0 n1 n2
  go_loopg [7, 9] kids.length (fun kq v7 v9 w' => ∃ (i : Nat) (A7 : Option Addr) (c7 : Nat) (acc : List Bool), v7 = .slice A7 acc.length c7 ∧ v9 = .int .i64 (i : Int) ∧ Aside0 (i + kq = kids.length) ∧ Aside0 (Kd.C Kd.bool w' A7 acc.length acc ∧ acc.length ≤ c7) ∧ Aside0 (Tells word (fun j => ∃ i0, on at_ i0 ∧ WayC (hitM word) (kids.take i) i0 j) acc) ∧ Aside0 (w'.heap[NB]? = some (.cells #[.int .i64 0, .int .i64 s, .slice A kids.length c] 24 (0, 0))) ∧ Aside0 (Below W.heap.size W w'))
  case atStart => exact ⟨0, Aa, ca, at_, rfl, rfl, ⟨Nat.zero_add _⟩, ⟨Kd.C_below HCA.out HB3.out, HCAL.out⟩, ⟨HLA.out, fun j => by rw [List.take_zero]; exact ⟨fun h => ⟨j, h, by rw [WayC]⟩, fun ⟨i0, h1, h2⟩ => by rw [WayC] at h2; rw [← h2]; exact h1⟩⟩, HNB3, HB3⟩
  case round =>
    clear HO3 HNB3 HB3
    obtain ⟨i, A7, c7, acc, rfl, rfl, HK, HC7, HT, HN, HB⟩ := hrel
    have n0 := (blk_cell HN.out 0).trans rfl
    have n1 := (blk_cell HN.out 1).trans rfl
    have n2 := (blk_cell HN.out 2).trans rfl
    by_cases q0 : gk = 0
    · have f1 : ¬ (i : Int) < (kids.length : Int) := by have := HK.out; omega
      have f2 : decide ((i : Int) < (kids.length : Int)) = false := decide_eq_false f1
      have f3 : ¬ i < kids.length := by omega
      have HFIN := Aside0.mk (show Tells word (fun j => ∃ i, on at_ i ∧ WayN (hitM word) ⟨0, s, kids⟩ i j) acc from Tells.congr HT.out (fun j => by rw [List.take_of_length_le (by omega)]; rw [show WayN (hitM word) ⟨0, s, kids⟩ = WayC (hitM word) kids from funext fun i => funext fun j => by rw [WayN, if_neg (by decide), if_pos rfl]]))
      clear q0
      go_wp2_with fail
      go_ret
      exact ⟨A7, c7, acc, rfl, HC7.out.1, HC7.out.2, HFIN.out, HB.out⟩
    · have HQ := Aside0.mk q0
      clear q0
      have HIL := Aside0.mk (show i < kids.length by have := HK.out; have := HQ.out; omega)
      obtain ⟨ad, A2, c2, eA, hx0, hx1, hx2, hl2, hg2⟩ := at_T24 (Kd.C_below HC.out HB.out) (i : Int) (Int.natCast_nonneg i) (by have := HIL.out; omega)
      rw [Int.toNat_natCast] at hx0 hx1 hx2
      obtain ⟨x, hx⟩ : ∃ x, x = rd_T24 kids (i : Int) := ⟨_, rfl⟩
      rw [← hx] at hx0 hx1 hx2 hl2 hg2
      have HXX := Aside0.mk (hx.trans (rdT24_get HIL.out))
      have HMEM := Aside0.mk (show x ∈ kids by rw [HXX.out]; exact List.getElem_mem _)
      have HTK := Aside0.mk (show kids.take (i + 1) = kids.take i ++ [x] by rw [HXX.out]; exact List.take_succ_eq_append_getElem HIL.out)
      have HW2 := Aside0.mk (show wrap64 ((i : Int) + 1) = ((i + 1 : Nat) : Int) by have := HIL.out; have := HLL.out; unfold wrap64; omega)
      subst eA
      have HNODE := Aside0.mk (HOK.out x HMEM.out (rightL_mem HRL.out x HMEM.out) wr A2 c2 Aw cw word A7 c7 acc hg2 hl2 (Kd.C_below HCW.out HB.out) HCWL.out HWL.out HC7.out.1 HC7.out.2 HT.out.1)
      clear hx hl2 hg2
      have f1 : (i : Int) < (kids.length : Int) := by have := HIL.out; omega
      have f2 : decide ((i : Int) < (kids.length : Int)) = true := decide_eq_true f1
      have f3 : i < kids.length := HIL.out
      have f4 : (0 : Int) ≤ (i : Int) := Int.natCast_nonneg i
      go_upto_region 26 with (go_at_call 52; refine HNODE.out.mono ?_; rintro e W4 ⟨A9, c9, o1, rfl, hC9, hc9, hT9, hb⟩; have HC9 := Aside0.mk (And.intro hC9 hc9); have HT9 := Aside0.mk hT9; have HB4 := Aside0.mk (HB.out.trans (hb.mono HB.out.size)); have HN4 := Aside0.mk (blk_below HN.out hb); clear hb hx0 hx1 hx2 n0 n1 n2 hC9 hc9 hT9)
      go_wp2_with fail
      go_roundg (gk - 1)
      case measure => have := HQ.out; omega
      case rel =>
        refine ⟨i + 1, A9, c9, o1, rfl, by rw [← HW2.out], ⟨by have := HK.out; have := HQ.out; omega⟩, HC9, ⟨HT9.out.congr (fun j => ?_)⟩, HN4, HB4⟩
        rw [HTK.out]
        constructor
        · rintro ⟨m, h1, h2⟩
          obtain ⟨i0, h3, h4⟩ := (HT.out.2 m).1 h1
          exact ⟨i0, h3, (wayC_snoc _ _ _ _ _).2 ⟨m, h4, h2⟩⟩
        · rintro ⟨i0, h3, h4⟩
          obtain ⟨m, h5, h6⟩ := (wayC_snoc _ _ _ _ _).1 h4
          exact ⟨m, (HT.out.2 m).2 ⟨i0, h3, h5⟩, h6⟩
set_option maxHeartbeats 16000000 in
set_option maxRecDepth 100000 in
theorem re_k2 (s : Int) (kids : List S24) (hok : ∀ y ∈ kids, EndsOK y) : EndsOK ⟨2, s, kids⟩ := by
  intro hr W A c Aw cw word Aa ca at_ hC hc hCw hcw hwl hCa hca hla
  replace hC : Kd.C k24 W A kids.length kids := hC
  replace hc : kids.length ≤ c := hc
  show Calls Try.prog 52 #[.agg #[.int .i64 2, .int .i64 s, .slice A kids.length c], .slice Aw word.length cw, .slice Aa at_.length ca] W (EPost W word (fun j => ∃ i, on at_ i ∧ WayN (hitM word) ⟨2, s, kids⟩ i j))
  have HC := Aside0.mk hC
  have HCC := Aside0.mk hc
  have HCW := Aside0.mk hCw
  have HCWL := Aside0.mk hcw
  have HWL := Aside0.mk hwl
  have HCA := Aside0.mk hCa
  have HCAL := Aside0.mk hca
  have HLA := Aside0.mk hla
  have HOK := Aside0.mk hok
  have HLL := Aside0.mk (hC.2.1 : kids.length ≤ 9223372036854775807)
  have HRL := Aside0.mk (show rightL kids = true by rw [rightN, if_neg (by decide), if_neg (by decide), if_pos rfl, Bool.and_eq_true] at hr; exact hr.2)
  obtain ⟨p, hp⟩ : ∃ p : Bool, p = true ↔ ∃ j, on at_ j := ⟨@decide _ (Classical.propDecidable _), @decide_eq_true_iff _ (Classical.propDecidable _)⟩
  obtain ⟨KS, hKS⟩ := some_f at_ (by omega) p hp
  have HSO := Aside0.mk (hKS KS (Nat.le_refl _))
  have HPP := Aside0.mk hp
  have HWR := Aside0.mk (show wrap64 ((word.length : Int) + 1) = ((word.length + 1 : Nat) : Int) by unfold wrap64; omega)
  clear hC hc hCw hcw hwl hCa hca hla hok hr hp hKS
  go_enter Try.func52, Try.ntmps52
  go_upto_region 1 with fail
  have HB1 := Aside0.mk (below_alloc (Below.refl W.heap.size W) (.cells #[.int .i64 2, .int .i64 s, .slice A kids.length c] 24))
  have HNB1 := Aside0.mk (blk_new W (.cells #[.int .i64 2, .int .i64 s, .slice A kids.length c] 24))
  obtain ⟨NB, hNB⟩ : ∃ n, W.heap.size = n := ⟨_, rfl⟩
  rw [hNB] at HNB1
  obtain ⟨W1, hW1⟩ : ∃ w, W.alloc (.cells #[.int .i64 2, .int .i64 s, .slice A kids.length c] 24) = w := ⟨_, rfl⟩
  rw [hW1] at HB1 HNB1
  rw [hW1]
  rw [hNB]
  clear hNB hW1
  go_upto_region 2 with ((with_reducible refine gate_dst (N := 17) rfl ?_); refine Kd.R_make Kd.bool _ 4 rfl (N := 17) rfl 45 _ _ rfl (wrap64 ((word.length : Int) + 1)) rfl rfl Try.underlying45 (.bool false) 1 info4 rfl (by decide) (by omega) false (ok := fun _ => True) (okp := fun _ => True) rfl (fun _ hk => hk) trivial (by rw [HWR.out]; omega) (Nat.le_trans (Nat.mul_le_mul_right _ (show (wrap64 ((word.length : Int) + 1)).toNat ≤ 281474976710656 by rw [HWR.out]; have := HWL.out; omega)) (by omega)) (Below.refl _ _) (Nat.le_refl _) ?_; intro v W2 ho hb hg_ hnew_; rw [HWR.out, Int.toNat_natCast] at ho; obtain ⟨OB, oc, e0, gb, gl, gc⟩ := Kd.R_form ho (by rw [List.length_replicate]; omega); rw [List.length_replicate] at e0; subst e0; have HB2 := Aside0.mk (HB1.out.trans (hb.mono HB1.out.size)); have HNB2 := Aside0.mk (blk_below HNB1.out hb); have HO2 := Aside0.mk (Kd.R_lower ho HB1.out.size); have HOB := Aside0.mk (Nat.le_trans HB1.out.size gb); have HOG := Aside0.mk gc; clear ho hb hg_ hnew_ gb gl gc)
  clear HB1 HNB1
  cases p with
  | false =>
    have HNO := Aside0.mk (fun h => Bool.noConfusion (HPP.out.2 h) : ¬ ∃ j, on at_ j)
    go_wp2_with (go_at_call 78; refine (scansionref10_some.calls KS Aa ca at_ false W2 (Kd.C_below HCA.out HB2.out) HCAL.out HSO.out).mono ?_; rintro e W3 ⟨rfl, hdr⟩; have hb := hdr.below; have HB3 := Aside0.mk (HB2.out.trans (hb.mono HB2.out.size)); have HO3 := Aside0.mk (Kd.R_below HO2.out hb); clear hb hdr)
    go_ret
    exact ⟨some ⟨OB, 0, none⟩, oc, List.replicate (word.length + 1) false, by rw [List.length_replicate]; rfl, (Kd.R_reads' HO3.out).2.2, by rw [List.length_replicate]; exact (Kd.R_reads' HO3.out).2.1, none_tells _ HNO.out, HB3.out⟩
  | true =>
  go_upto_region 4 with (go_at_call 78; refine (scansionref10_some.calls KS Aa ca at_ true W2 (Kd.C_below HCA.out HB2.out) HCAL.out HSO.out).mono ?_; rintro e W3 ⟨rfl, hdr⟩; have hb := hdr.below; have HB3 := Aside0.mk (HB2.out.trans (hb.mono HB2.out.size)); have HNB3 := Aside0.mk (blk_below HNB2.out hb); have HO3 := Aside0.mk (Kd.R_below HO2.out hb); clear hb hdr)
  clear HB2 HNB2 HO2
  have n0 := (blk_cell HNB3.out 0).trans rfl
  have n1 := (blk_cell HNB3.out 1).trans rfl
  have n2 := (blk_cell HNB3.out 2).trans rfl
  go_wp2_with fail
  clear n0 n1 n2
  go_loopg [7, 10] kids.length (fun kq v7 v10 w' => ∃ (i : Nat) (A7 : Option Addr) (c7 : Nat) (acc : List Bool), v7 = .slice A7 acc.length c7 ∧ v10 = .int .i64 (i : Int) ∧ Aside0 (i + kq = kids.length) ∧ Aside0 (Kd.C Kd.bool w' A7 acc.length acc ∧ acc.length ≤ c7) ∧ Aside0 (Tells word (fun j => ∃ i0, on at_ i0 ∧ WayA (hitM word) (kids.take i) i0 j) acc) ∧ Aside0 (w'.heap[NB]? = some (.cells #[.int .i64 2, .int .i64 s, .slice A kids.length c] 24 (0, 0))) ∧ Aside0 (Below W.heap.size W w'))
  case atStart => exact ⟨0, some ⟨OB, 0, none⟩, oc, List.replicate (word.length + 1) false, by rw [List.length_replicate], rfl, ⟨Nat.zero_add _⟩, ⟨(Kd.R_reads' HO3.out).2.2, by rw [List.length_replicate]; exact (Kd.R_reads' HO3.out).2.1⟩, ⟨List.length_replicate, fun j => ⟨fun hj => absurd (on_lt hj) (fun _ => by
      have h0 := fill_zero (fun _ => true) (word.length + 1) j
      unfold on at hj
      rw [h0, decide_eq_false (Nat.not_lt_zero j), Bool.false_and] at hj
      cases hj), fun ⟨i0, h1, h2⟩ => by rw [List.take_zero, WayA] at h2; exact h2.elim⟩⟩, HNB3, HB3⟩
  case round =>
    clear HO3 HNB3 HB3
    obtain ⟨i, A7, c7, acc, rfl, rfl, HK, HC7, HT, HN, HB⟩ := hrel
    have n0 := (blk_cell HN.out 0).trans rfl
    have n1 := (blk_cell HN.out 1).trans rfl
    have n2 := (blk_cell HN.out 2).trans rfl
    by_cases q0 : gk = 0
    · have f1 : ¬ (i : Int) < (kids.length : Int) := by have := HK.out; omega
      have f2 : decide ((i : Int) < (kids.length : Int)) = false := decide_eq_false f1
      have f3 : ¬ i < kids.length := by omega
      have HFIN := Aside0.mk (show Tells word (fun j => ∃ i, on at_ i ∧ WayN (hitM word) ⟨2, s, kids⟩ i j) acc from Tells.congr HT.out (fun j => by rw [List.take_of_length_le (by omega)]; rw [show WayN (hitM word) ⟨2, s, kids⟩ = WayA (hitM word) kids from funext fun i => funext fun j => by rw [WayN, if_neg (by decide), if_neg (by decide), if_pos rfl]]))
      clear q0
      go_wp2_with fail
      go_ret
      exact ⟨A7, c7, acc, rfl, HC7.out.1, HC7.out.2, HFIN.out, HB.out⟩
    · have HQ := Aside0.mk q0
      clear q0
      have HIL := Aside0.mk (show i < kids.length by have := HK.out; have := HQ.out; omega)
      obtain ⟨ad, A2, c2, eA, hx0, hx1, hx2, hl2, hg2⟩ := at_T24 (Kd.C_below HC.out HB.out) (i : Int) (Int.natCast_nonneg i) (by have := HIL.out; omega)
      rw [Int.toNat_natCast] at hx0 hx1 hx2
      obtain ⟨x, hx⟩ : ∃ x, x = rd_T24 kids (i : Int) := ⟨_, rfl⟩
      rw [← hx] at hx0 hx1 hx2 hl2 hg2
      have HXX := Aside0.mk (hx.trans (rdT24_get HIL.out))
      have HMEM := Aside0.mk (show x ∈ kids by rw [HXX.out]; exact List.getElem_mem _)
      have HTK := Aside0.mk (show kids.take (i + 1) = kids.take i ++ [x] by rw [HXX.out]; exact List.take_succ_eq_append_getElem HIL.out)
      have HW2 := Aside0.mk (show wrap64 ((i : Int) + 1) = ((i + 1 : Nat) : Int) by have := HIL.out; have := HLL.out; unfold wrap64; omega)
      subst eA
      have HNODE := Aside0.mk (HOK.out x HMEM.out (rightL_mem HRL.out x HMEM.out) wr A2 c2 Aw cw word Aa ca at_ hg2 hl2 (Kd.C_below HCW.out HB.out) HCWL.out HWL.out (Kd.C_below HCA.out HB.out) HCAL.out HLA.out)
      clear hx hl2 hg2
      have f1 : (i : Int) < (kids.length : Int) := by have := HIL.out; omega
      have f2 : decide ((i : Int) < (kids.length : Int)) = true := decide_eq_true f1
      have f3 : i < kids.length := HIL.out
      have f4 : (0 : Int) ≤ (i : Int) := Int.natCast_nonneg i
      go_upto_region 31 with (first | (go_at_call 52; refine HNODE.out.mono ?_; rintro e W4 ⟨A9, c9, o1, rfl, hC9, hc9, hT9, hb⟩; have HC9 := Aside0.mk (And.intro hC9 hc9); have HT9 := Aside0.mk hT9; have HB4 := Aside0.mk (HB.out.trans (hb.mono HB.out.size)); have HN4 := Aside0.mk (blk_below HN.out hb); have HCX := Aside0.mk (Kd.C_below HC7.out.1 hb); obtain ⟨o2, ⟨KE, hKE⟩, he1, he2⟩ := either_f acc o1 (by have := HT9.out.1; have := HT.out.1; omega) (by have := HT.out.1; have := HWL.out; omega); have HKE := Aside0.mk (hKE KE (Nat.le_refl _)); have HE1 := Aside0.mk he1; have HE2 := Aside0.mk he2; clear hb hx0 hx1 hx2 n0 n1 n2 hC9 hc9 hT9 hKE he1 he2) | (go_at_call 79; refine (scansionref10_either.calls KE A7 c7 acc A9 c9 o1 o2 W4 HCX.out HC7.out.2 HC9.out.1 HC9.out.2 HKE.out).mono ?_; rintro e W5 ⟨v5, rfl, ho, hb⟩; obtain ⟨A5, c5, rfl⟩ := Kd.R_slice ho; have HC5 := Aside0.mk (And.intro (Kd.R_reads' ho).2.2 (Kd.R_reads' ho).2.1); have HB5 := Aside0.mk (HB4.out.trans (hb.mono HB4.out.size)); have HN5 := Aside0.mk (blk_below HN4.out hb); clear hb ho))
      go_wp2_with fail
      go_roundg (gk - 1)
      case measure => have := HQ.out; omega
      case rel =>
        refine ⟨i + 1, A5, c5, o2, rfl, by rw [← HW2.out], ⟨by have := HK.out; have := HQ.out; omega⟩, HC5, ⟨by rw [HE1.out, HT.out.1], fun j => ?_⟩, HN5, HB5⟩
        rw [HTK.out, HE2.out j, HT.out.2 j, HT9.out.2 j]
        constructor
        · rintro (⟨i0, h1, h2⟩ | ⟨i0, h1, h2⟩)
          · exact ⟨i0, h1, (wayA_snoc _ _ _ _ _).2 (.inl h2)⟩
          · exact ⟨i0, h1, (wayA_snoc _ _ _ _ _).2 (.inr h2)⟩
        · rintro ⟨i0, h1, h2⟩
          rcases (wayA_snoc _ _ _ _ _).1 h2 with h2 | h2
          · exact .inl ⟨i0, h1, h2⟩
          · exact .inr ⟨i0, h1, h2⟩
set_option maxHeartbeats 16000000 in
set_option maxRecDepth 100000 in
theorem re_k5 (s : Int) (kids : List S24) (hok : ∀ y ∈ kids, EndsOK y) : EndsOK ⟨5, s, kids⟩ := by
  intro hr W A c Aw cw word Aa ca at_ hC hc hCw hcw hwl hCa hca hla
  replace hC : Kd.C k24 W A kids.length kids := hC
  replace hc : kids.length ≤ c := hc
  show Calls Try.prog 52 #[.agg #[.int .i64 5, .int .i64 s, .slice A kids.length c], .slice Aw word.length cw, .slice Aa at_.length ca] W (EPost W word (fun j => ∃ i, on at_ i ∧ WayN (hitM word) ⟨5, s, kids⟩ i j))
  have HC := Aside0.mk hC
  have HCC := Aside0.mk hc
  have HCW := Aside0.mk hCw
  have HCWL := Aside0.mk hcw
  have HWL := Aside0.mk hwl
  have HCA := Aside0.mk hCa
  have HCAL := Aside0.mk hca
  have HLA := Aside0.mk hla
  have HOK := Aside0.mk hok
  have HLL := Aside0.mk (hC.2.1 : kids.length ≤ 9223372036854775807)
  have hr1 : kids.length = 1 ∧ rightL kids = true := by rw [rightN, if_neg (by decide), if_neg (by decide), if_neg (by decide), if_pos (by decide), Bool.and_eq_true, decide_eq_true_eq] at hr; exact hr
  obtain ⟨x, hkx⟩ : ∃ x, kids = [x] := by
    match kids, hr1.1 with
    | [x], _ => exact ⟨x, rfl⟩
  have HKX := Aside0.mk hkx
  have HRX := Aside0.mk (rightL_mem hr1.2 x (by rw [hkx]; exact List.mem_cons_self))
  have HK1 := Aside0.mk hr1.1
  clear hr1 hkx
  obtain ⟨p, hp⟩ : ∃ p : Bool, p = true ↔ ∃ j, on at_ j := ⟨@decide _ (Classical.propDecidable _), @decide_eq_true_iff _ (Classical.propDecidable _)⟩
  obtain ⟨KS, hKS⟩ := some_f at_ (by omega) p hp
  have HSO := Aside0.mk (hKS KS (Nat.le_refl _))
  have HPP := Aside0.mk hp
  have HWR := Aside0.mk (show wrap64 ((word.length : Int) + 1) = ((word.length + 1 : Nat) : Int) by unfold wrap64; omega)
  clear hC hc hCw hcw hwl hCa hca hla hok hr hp hKS
  go_enter Try.func52, Try.ntmps52
  go_upto_region 1 with fail
  have HB1 := Aside0.mk (below_alloc (Below.refl W.heap.size W) (.cells #[.int .i64 5, .int .i64 s, .slice A kids.length c] 24))
  have HNB1 := Aside0.mk (blk_new W (.cells #[.int .i64 5, .int .i64 s, .slice A kids.length c] 24))
  obtain ⟨NB, hNB⟩ : ∃ n, W.heap.size = n := ⟨_, rfl⟩
  rw [hNB] at HNB1
  obtain ⟨W1, hW1⟩ : ∃ w, W.alloc (.cells #[.int .i64 5, .int .i64 s, .slice A kids.length c] 24) = w := ⟨_, rfl⟩
  rw [hW1] at HB1 HNB1
  rw [hW1]
  rw [hNB]
  clear hNB hW1
  go_upto_region 2 with ((with_reducible refine gate_dst (N := 17) rfl ?_); refine Kd.R_make Kd.bool _ 4 rfl (N := 17) rfl 45 _ _ rfl (wrap64 ((word.length : Int) + 1)) rfl rfl Try.underlying45 (.bool false) 1 info4 rfl (by decide) (by omega) false (ok := fun _ => True) (okp := fun _ => True) rfl (fun _ hk => hk) trivial (by rw [HWR.out]; omega) (Nat.le_trans (Nat.mul_le_mul_right _ (show (wrap64 ((word.length : Int) + 1)).toNat ≤ 281474976710656 by rw [HWR.out]; have := HWL.out; omega)) (by omega)) (Below.refl _ _) (Nat.le_refl _) ?_; intro v W2 ho hb hg_ hnew_; rw [HWR.out, Int.toNat_natCast] at ho; obtain ⟨OB, oc, e0, gb, gl, gc⟩ := Kd.R_form ho (by rw [List.length_replicate]; omega); rw [List.length_replicate] at e0; subst e0; have HB2 := Aside0.mk (HB1.out.trans (hb.mono HB1.out.size)); have HNB2 := Aside0.mk (blk_below HNB1.out hb); have HO2 := Aside0.mk (Kd.R_lower ho HB1.out.size); have HOB := Aside0.mk (Nat.le_trans HB1.out.size gb); have HOG := Aside0.mk gc; clear ho hb hg_ hnew_ gb gl gc)
  clear HB1 HNB1
  cases p with
  | false =>
    have HNO := Aside0.mk (fun h => Bool.noConfusion (HPP.out.2 h) : ¬ ∃ j, on at_ j)
    go_wp2_with (go_at_call 78; refine (scansionref10_some.calls KS Aa ca at_ false W2 (Kd.C_below HCA.out HB2.out) HCAL.out HSO.out).mono ?_; rintro e W3 ⟨rfl, hdr⟩; have hb := hdr.below; have HB3 := Aside0.mk (HB2.out.trans (hb.mono HB2.out.size)); have HO3 := Aside0.mk (Kd.R_below HO2.out hb); clear hb hdr)
    go_ret
    exact ⟨some ⟨OB, 0, none⟩, oc, List.replicate (word.length + 1) false, by rw [List.length_replicate]; rfl, (Kd.R_reads' HO3.out).2.2, by rw [List.length_replicate]; exact (Kd.R_reads' HO3.out).2.1, none_tells _ HNO.out, HB3.out⟩
  | true =>
  go_upto_region 4 with (go_at_call 78; refine (scansionref10_some.calls KS Aa ca at_ true W2 (Kd.C_below HCA.out HB2.out) HCAL.out HSO.out).mono ?_; rintro e W3 ⟨rfl, hdr⟩; have hb := hdr.below; have HB3 := Aside0.mk (HB2.out.trans (hb.mono HB2.out.size)); have HNB3 := Aside0.mk (blk_below HNB2.out hb); have HO3 := Aside0.mk (Kd.R_below HO2.out hb); clear hb hdr)
  clear HB2 HNB2 HO2
  have n0 := (blk_cell HNB3.out 0).trans rfl
  have n1 := (blk_cell HNB3.out 1).trans rfl
  have n2 := (blk_cell HNB3.out 2).trans rfl
  obtain ⟨ad, A2, c2, eA, hx0, hx1, hx2, hl2, hg2⟩ := at_T24 HC.out 0 (by omega) (by have := HK1.out; omega)
  rw [show rd_T24 kids 0 = x by rw [HKX.out]; rfl] at hx0 hx1 hx2 hl2 hg2
  subst eA
  have HX0 := Aside0.mk hx0
  have HX1 := Aside0.mk hx1
  have HX2 := Aside0.mk hx2
  have HGX := Aside0.mk hg2
  have HLX := Aside0.mk hl2
  clear hx0 hx1 hx2 hg2 hl2
  have HB := Aside0.mk HB3.out
  have HN := Aside0.mk HNB3.out
  clear HB3 HNB3
  have hx0 : W3.cell? ad = some (.int .i64 x.f0) := cell_keep HB.out HX0.out
  have hx1 : W3.cell? ⟨ad.block, ad.off + 1, none⟩ = some (.int .i64 x.f1) := cell_keep HB.out HX1.out
  have hx2 : W3.cell? ⟨ad.block, ad.off + 2, none⟩ = some (.slice A2 x.f2.length c2) := cell_keep HB.out HX2.out
  have HNODE := Aside0.mk (HOK.out x (by rw [HKX.out]; exact List.mem_cons_self) HRX.out W3 A2 c2 Aw cw word Aa ca at_ (Kd.C_below HGX.out HB.out) HLX.out (Kd.C_below HCW.out HB.out) HCWL.out HWL.out (Kd.C_below HCA.out HB.out) HCAL.out HLA.out)
  have HW1 := Aside0.mk (show ∀ i j, WayN (hitM word) x i j ↔ Way1 (hitM word) kids i j from fun i j => by rw [HKX.out, Way1])
  have f1 : (0 : Int) < (kids.length : Int) := by have := HK1.out; omega
  have f2 : decide ((0 : Int) < (kids.length : Int)) = true := decide_eq_true f1
  have f3 : 0 < kids.length := by omega
  go_wp2_with (first | (go_at_call 52; refine HNODE.out.mono ?_; rintro e W4 ⟨A9, c9, o1, rfl, hC9, hc9, hT9, hb⟩; have HC9 := Aside0.mk (And.intro hC9 hc9); have HT9 := Aside0.mk hT9; have HB4 := Aside0.mk (HB.out.trans (hb.mono HB.out.size)); have HN4 := Aside0.mk (blk_below HN.out hb); have HCX := Aside0.mk (Kd.C_below (And.intro (Kd.C_below HCA.out HB.out) HCAL.out).1 hb); obtain ⟨o2, ⟨KE, hKE⟩, he1, he2⟩ := either_f at_ o1 (by have := HT9.out.1; have := HLA.out; omega) (by have := HLA.out; have := HWL.out; omega); have HKE := Aside0.mk (hKE KE (Nat.le_refl _)); have HE1 := Aside0.mk he1; have HE2 := Aside0.mk he2; clear hb hx0 hx1 hx2 n0 n1 n2 hC9 hc9 hT9 hKE he1 he2) | (go_at_call 79; refine (scansionref10_either.calls KE Aa ca at_ A9 c9 o1 o2 W4 HCX.out (And.intro (Kd.C_below HCA.out HB.out) HCAL.out).2 HC9.out.1 HC9.out.2 HKE.out).mono ?_; rintro e W5 ⟨v5, rfl, ho, hb⟩; obtain ⟨A5, c5, rfl⟩ := Kd.R_slice ho; have HC5 := Aside0.mk (And.intro (Kd.R_reads' ho).2.2 (Kd.R_reads' ho).2.1); have HB5 := Aside0.mk (HB4.out.trans (hb.mono HB4.out.size)); have HN5 := Aside0.mk (blk_below HN4.out hb); clear hb ho))
  go_ret
  refine ⟨A5, c5, o2, rfl, HC5.out.1, HC5.out.2, ⟨by rw [HE1.out, HLA.out], fun j => ?_⟩, HB5.out⟩
  rw [HE2.out j, HT9.out.2 j]
  constructor
  · rintro (h | ⟨i, h1, h2⟩)
    · exact ⟨j, h, by rw [WayN, if_neg (by decide), if_neg (by decide), if_neg (by decide), if_neg (by decide), if_neg (by decide)]; exact .inl rfl⟩
    · exact ⟨i, h1, by rw [WayN, if_neg (by decide), if_neg (by decide), if_neg (by decide), if_neg (by decide), if_neg (by decide)]; exact .inr ((HW1.out i j).1 h2)⟩
  · rintro ⟨i, h1, h2⟩
    rw [WayN, if_neg (by decide), if_neg (by decide), if_neg (by decide), if_neg (by decide), if_neg (by decide)] at h2
    rcases h2 with rfl | h2
    · exact .inl h1
    · exact .inr ⟨i, h1, (HW1.out i j).2 h2⟩
set_option maxHeartbeats 16000000 in
set_option maxRecDepth 100000 in
theorem re_k4 (s : Int) (kids : List S24) (hok : ∀ y ∈ kids, EndsOK y) : EndsOK ⟨4, s, kids⟩ := by
  intro hr W A c Aw cw word Aa ca at_ hC hc hCw hcw hwl hCa hca hla
  replace hC : Kd.C k24 W A kids.length kids := hC
  replace hc : kids.length ≤ c := hc
  show Calls Try.prog 52 #[.agg #[.int .i64 4, .int .i64 s, .slice A kids.length c], .slice Aw word.length cw, .slice Aa at_.length ca] W (EPost W word (fun j => ∃ i, on at_ i ∧ WayN (hitM word) ⟨4, s, kids⟩ i j))
  have HC := Aside0.mk hC
  have HCC := Aside0.mk hc
  have HCW := Aside0.mk hCw
  have HCWL := Aside0.mk hcw
  have HWL := Aside0.mk hwl
  have HCA := Aside0.mk hCa
  have HCAL := Aside0.mk hca
  have HLA := Aside0.mk hla
  have HOK := Aside0.mk hok
  have HLL := Aside0.mk (hC.2.1 : kids.length ≤ 9223372036854775807)
  have hr1 : kids.length = 1 ∧ rightL kids = true := by rw [rightN, if_neg (by decide), if_neg (by decide), if_neg (by decide), if_pos (by decide), Bool.and_eq_true, decide_eq_true_eq] at hr; exact hr
  obtain ⟨x, hkx⟩ : ∃ x, kids = [x] := by
    match kids, hr1.1 with
    | [x], _ => exact ⟨x, rfl⟩
  have HKX := Aside0.mk hkx
  have HRX := Aside0.mk (rightL_mem hr1.2 x (by rw [hkx]; exact List.mem_cons_self))
  have HK1 := Aside0.mk hr1.1
  clear hr1 hkx
  obtain ⟨p, hp⟩ : ∃ p : Bool, p = true ↔ ∃ j, on at_ j := ⟨@decide _ (Classical.propDecidable _), @decide_eq_true_iff _ (Classical.propDecidable _)⟩
  obtain ⟨KS, hKS⟩ := some_f at_ (by omega) p hp
  have HSO := Aside0.mk (hKS KS (Nat.le_refl _))
  have HPP := Aside0.mk hp
  have HWR := Aside0.mk (show wrap64 ((word.length : Int) + 1) = ((word.length + 1 : Nat) : Int) by unfold wrap64; omega)
  clear hC hc hCw hcw hwl hCa hca hla hok hr hp hKS
  go_enter Try.func52, Try.ntmps52
  go_upto_region 1 with fail
  have HB1 := Aside0.mk (below_alloc (Below.refl W.heap.size W) (.cells #[.int .i64 4, .int .i64 s, .slice A kids.length c] 24))
  have HNB1 := Aside0.mk (blk_new W (.cells #[.int .i64 4, .int .i64 s, .slice A kids.length c] 24))
  obtain ⟨NB, hNB⟩ : ∃ n, W.heap.size = n := ⟨_, rfl⟩
  rw [hNB] at HNB1
  obtain ⟨W1, hW1⟩ : ∃ w, W.alloc (.cells #[.int .i64 4, .int .i64 s, .slice A kids.length c] 24) = w := ⟨_, rfl⟩
  rw [hW1] at HB1 HNB1
  rw [hW1]
  rw [hNB]
  clear hNB hW1
  go_upto_region 2 with ((with_reducible refine gate_dst (N := 17) rfl ?_); refine Kd.R_make Kd.bool _ 4 rfl (N := 17) rfl 45 _ _ rfl (wrap64 ((word.length : Int) + 1)) rfl rfl Try.underlying45 (.bool false) 1 info4 rfl (by decide) (by omega) false (ok := fun _ => True) (okp := fun _ => True) rfl (fun _ hk => hk) trivial (by rw [HWR.out]; omega) (Nat.le_trans (Nat.mul_le_mul_right _ (show (wrap64 ((word.length : Int) + 1)).toNat ≤ 281474976710656 by rw [HWR.out]; have := HWL.out; omega)) (by omega)) (Below.refl _ _) (Nat.le_refl _) ?_; intro v W2 ho hb hg_ hnew_; rw [HWR.out, Int.toNat_natCast] at ho; obtain ⟨OB, oc, e0, gb, gl, gc⟩ := Kd.R_form ho (by rw [List.length_replicate]; omega); rw [List.length_replicate] at e0; subst e0; have HB2 := Aside0.mk (HB1.out.trans (hb.mono HB1.out.size)); have HNB2 := Aside0.mk (blk_below HNB1.out hb); have HO2 := Aside0.mk (Kd.R_lower ho HB1.out.size); have HOB := Aside0.mk (Nat.le_trans HB1.out.size gb); have HOG := Aside0.mk gc; clear ho hb hg_ hnew_ gb gl gc)
  clear HB1 HNB1
  cases p with
  | false =>
    have HNO := Aside0.mk (fun h => Bool.noConfusion (HPP.out.2 h) : ¬ ∃ j, on at_ j)
    go_wp2_with (go_at_call 78; refine (scansionref10_some.calls KS Aa ca at_ false W2 (Kd.C_below HCA.out HB2.out) HCAL.out HSO.out).mono ?_; rintro e W3 ⟨rfl, hdr⟩; have hb := hdr.below; have HB3 := Aside0.mk (HB2.out.trans (hb.mono HB2.out.size)); have HO3 := Aside0.mk (Kd.R_below HO2.out hb); clear hb hdr)
    go_ret
    exact ⟨some ⟨OB, 0, none⟩, oc, List.replicate (word.length + 1) false, by rw [List.length_replicate]; rfl, (Kd.R_reads' HO3.out).2.2, by rw [List.length_replicate]; exact (Kd.R_reads' HO3.out).2.1, none_tells _ HNO.out, HB3.out⟩
  | true =>
  go_upto_region 4 with (go_at_call 78; refine (scansionref10_some.calls KS Aa ca at_ true W2 (Kd.C_below HCA.out HB2.out) HCAL.out HSO.out).mono ?_; rintro e W3 ⟨rfl, hdr⟩; have hb := hdr.below; have HB3 := Aside0.mk (HB2.out.trans (hb.mono HB2.out.size)); have HNB3 := Aside0.mk (blk_below HNB2.out hb); have HO3 := Aside0.mk (Kd.R_below HO2.out hb); clear hb hdr)
  clear HB2 HNB2 HO2
  have n0 := (blk_cell HNB3.out 0).trans rfl
  have n1 := (blk_cell HNB3.out 1).trans rfl
  have n2 := (blk_cell HNB3.out 2).trans rfl
  obtain ⟨ad, A2, c2, eA, hx0, hx1, hx2, hl2, hg2⟩ := at_T24 HC.out 0 (by omega) (by have := HK1.out; omega)
  rw [show rd_T24 kids 0 = x by rw [HKX.out]; rfl] at hx0 hx1 hx2 hl2 hg2
  subst eA
  have HX0 := Aside0.mk hx0
  have HX1 := Aside0.mk hx1
  have HX2 := Aside0.mk hx2
  have HGX := Aside0.mk hg2
  have HLX := Aside0.mk hl2
  clear hx0 hx1 hx2 hg2 hl2
  have HB := Aside0.mk HB3.out
  have HN := Aside0.mk HNB3.out
  clear HB3 HNB3
  have hx0 : W3.cell? ad = some (.int .i64 x.f0) := cell_keep HB.out HX0.out
  have hx1 : W3.cell? ⟨ad.block, ad.off + 1, none⟩ = some (.int .i64 x.f1) := cell_keep HB.out HX1.out
  have hx2 : W3.cell? ⟨ad.block, ad.off + 2, none⟩ = some (.slice A2 x.f2.length c2) := cell_keep HB.out HX2.out
  have HNODE := Aside0.mk (HOK.out x (by rw [HKX.out]; exact List.mem_cons_self) HRX.out W3 A2 c2 Aw cw word Aa ca at_ (Kd.C_below HGX.out HB.out) HLX.out (Kd.C_below HCW.out HB.out) HCWL.out HWL.out (Kd.C_below HCA.out HB.out) HCAL.out HLA.out)
  have HW1 := Aside0.mk (show ∀ i j, WayN (hitM word) x i j ↔ Way1 (hitM word) kids i j from fun i j => by rw [HKX.out, Way1])
  have f1 : (0 : Int) < (kids.length : Int) := by have := HK1.out; omega
  have f2 : decide ((0 : Int) < (kids.length : Int)) = true := decide_eq_true f1
  have f3 : 0 < kids.length := by omega
  go_upto_region 6 with (go_at_call 52; refine HNODE.out.mono ?_; rintro e W4 ⟨A9, c9, o1, rfl, hC9, hc9, hT9, hb⟩; have HC9 := Aside0.mk (And.intro hC9 hc9); have HT9 := Aside0.mk hT9; have HB4 := Aside0.mk (HB.out.trans (hb.mono HB.out.size)); have HN4 := Aside0.mk (blk_below HN.out hb); clear hb hx0 hx1 hx2 n0 n1 n2 hC9 hc9 hT9)
  clear HB HN HO3 HNODE
  have n0 := (blk_cell HN4.out 0).trans rfl
  have n1 := (blk_cell HN4.out 1).trans rfl
  have n2 := (blk_cell HN4.out 2).trans rfl
  go_upto_region 8 with fail
  obtain ⟨P, hP⟩ : ∃ P : Nat → Prop, P = fun j => ∃ i, on at_ i ∧ WayN (hitM word) x i j := ⟨_, rfl⟩
  have HT0 := Aside0.mk (show Tells word P o1 by rw [hP]; exact HT9.out)
  have HP := Aside0.mk (show ∀ j, P j ↔ ∃ i, on at_ i ∧ WayN (hitM word) x i j from fun j => by rw [hP])
  have HC0 := Aside0.mk HC9.out
  have HB0 := Aside0.mk HB4.out
  have HN0 := Aside0.mk HN4.out
  clear hP HC9 HB4 HN4 HT9 n0 n1 n2
  go_wp2_with fail
  go_loopg [7, 11] (offs o1 + 1) (fun kq v7 v11 w' => ∃ (A7 : Option Addr) (c7 : Nat) (out : List Bool) (A11 : Option Addr) (c11 : Nat) (fresh : List Bool), v7 = .slice A7 out.length c7 ∧ v11 = .slice A11 fresh.length c11 ∧ Aside0 (StarI word x P out fresh) ∧ Aside0 ((∃ j, on fresh j) → offs out < kq) ∧ Aside0 (Kd.C Kd.bool w' A7 out.length out ∧ out.length ≤ c7) ∧ Aside0 (Kd.C Kd.bool w' A11 fresh.length fresh ∧ fresh.length ≤ c11) ∧ Aside0 (w'.heap[NB]? = some (.cells #[.int .i64 4, .int .i64 s, .slice (some ad) kids.length c] 24 (0, 0))) ∧ Aside0 (Below W.heap.size W w'))
  case atStart => exact ⟨A9, c9, o1, A9, c9, o1, rfl, rfl, ⟨⟨HT0.out.1, HT0.out.1, fun j h => h, fun j h => ⟨j, (HT0.out.2 j).1 h, .refl _⟩, fun i h => (HT0.out.2 i).2 h, fun i j h1 h2 _ => absurd h1 h2⟩⟩, ⟨fun _ => Nat.lt_succ_self _⟩, HC0, HC0, HN0, HB0⟩
  case round =>
    clear HC0 HB0 HN0 HT0
    obtain ⟨A7, c7, out, A11, c11, fresh, rfl, rfl, HI, HM, HC7, HC11, HN, HB⟩ := hrel
    obtain ⟨q, hq⟩ : ∃ q : Bool, q = true ↔ ∃ j, on fresh j := ⟨@decide _ (Classical.propDecidable _), @decide_eq_true_iff _ (Classical.propDecidable _)⟩
    have HQQ := Aside0.mk hq
    obtain ⟨K2, hK2⟩ := some_f fresh (by have := HI.out.fl; have := HWL.out; omega) q hq
    have HS2 := Aside0.mk (hK2 K2 (Nat.le_refl _))
    have HLO := Aside0.mk HI.out.ol
    have HLF := Aside0.mk HI.out.fl
    clear hq hK2
    have n0 := (blk_cell HN.out 0).trans rfl
    have n1 := (blk_cell HN.out 1).trans rfl
    have n2 := (blk_cell HN.out 2).trans rfl
    have hx0 : wr.cell? ad = some (.int .i64 x.f0) := cell_keep HB.out HX0.out
    have hx1 : wr.cell? ⟨ad.block, ad.off + 1, none⟩ = some (.int .i64 x.f1) := cell_keep HB.out HX1.out
    have hx2 : wr.cell? ⟨ad.block, ad.off + 2, none⟩ = some (.slice A2 x.f2.length c2) := cell_keep HB.out HX2.out
    cases q with
    | false =>
      have HFIN := Aside0.mk (show Tells word (fun j => ∃ i, on at_ i ∧ WayN (hitM word) ⟨4, s, kids⟩ i j) out from Tells.congr (HI.out.fin word (fun j hj => by have := HQQ.out.2 ⟨j, hj⟩; cases this)) (fun j => by
        constructor
        · rintro ⟨m, h0, h3⟩
          obtain ⟨i, h1, h2⟩ := (HP.out m).1 h0
          exact ⟨i, h1, by rw [WayN, if_neg (by decide), if_neg (by decide), if_neg (by decide), if_neg (by decide), if_pos rfl]; exact ⟨m, (HW1.out _ _).1 h2, (Many.iff HW1.out _ _).1 h3⟩⟩
        · rintro ⟨i, h1, h2⟩
          rw [WayN, if_neg (by decide), if_neg (by decide), if_neg (by decide), if_neg (by decide), if_pos rfl] at h2
          obtain ⟨m, h3, h4⟩ := h2
          exact ⟨m, (HP.out m).2 ⟨i, h1, (HW1.out _ _).2 h3⟩, (Many.iff HW1.out _ _).2 h4⟩
        ))
      go_wp2_with (go_at_call 78; refine (scansionref10_some.calls K2 A11 c11 fresh false wr HC11.out.1 HC11.out.2 HS2.out).mono ?_; rintro e W6 ⟨rfl, hdr⟩; have hb := hdr.below; have HB6 := Aside0.mk (HB.out.trans (hb.mono HB.out.size)); have HC6 := Aside0.mk (Kd.C_below HC7.out.1 hb); clear hb hdr)
      go_ret
      exact ⟨A7, c7, out, rfl, HC6.out, HC7.out.2, HFIN.out, HB6.out⟩
    | true =>
    have HNE := Aside0.mk (HQQ.out.1 rfl)
    have HNODE2 := Aside0.mk (HOK.out x (by rw [HKX.out]; exact List.mem_cons_self) HRX.out)
    go_upto_region 11 with (first | (go_at_call 78; refine (scansionref10_some.calls K2 A11 c11 fresh true wr HC11.out.1 HC11.out.2 HS2.out).mono ?_; rintro e W6 ⟨rfl, hdr⟩; have hb := hdr.below; have HB6 := Aside0.mk (HB.out.trans (hb.mono HB.out.size)); have HN6 := Aside0.mk (blk_below HN.out hb); have HC76 := Aside0.mk (And.intro (Kd.C_below HC7.out.1 hb) HC7.out.2); have HC116 := Aside0.mk (And.intro (Kd.C_below HC11.out.1 hb) HC11.out.2); clear hb hdr hx0 hx1 hx2 n0 n1 n2; have n0 := (blk_cell HN6.out 0).trans rfl; have n1 := (blk_cell HN6.out 1).trans rfl; have n2 := (blk_cell HN6.out 2).trans rfl; have hx0 : W6.cell? ad = some (.int .i64 x.f0) := cell_keep HB6.out HX0.out; have hx1 : W6.cell? ⟨ad.block, ad.off + 1, none⟩ = some (.int .i64 x.f1) := cell_keep HB6.out HX1.out; have hx2 : W6.cell? ⟨ad.block, ad.off + 2, none⟩ = some (.slice A2 x.f2.length c2) := cell_keep HB6.out HX2.out) | (go_at_call 52; refine (HNODE2.out W6 A2 c2 Aw cw word A11 c11 fresh (Kd.C_below HGX.out HB6.out) HLX.out (Kd.C_below HCW.out HB6.out) HCWL.out HWL.out HC116.out.1 HC116.out.2 HLF.out).mono ?_; rintro e W7 ⟨A12, c12, nxt, rfl, hC12, hc12, hT12, hb⟩; have HC12 := Aside0.mk (And.intro hC12 hc12); have HT12 := Aside0.mk hT12; have HB7 := Aside0.mk (HB6.out.trans (hb.mono HB6.out.size)); have HN7 := Aside0.mk (blk_below HN6.out hb); have HC77 := Aside0.mk (And.intro (Kd.C_below HC76.out.1 hb) HC76.out.2); clear hb hx0 hx1 hx2 n0 n1 n2 hC12 hc12 hT12))
    clear HB HN HC7 HC11 HB6 HN6 HC76 HC116 HS2 HNODE2
    go_upto_region 12 with ((with_reducible refine gate_dst (N := 49) rfl ?_); refine Kd.R_make Kd.bool _ 4 rfl (N := 49) rfl 45 _ _ rfl (out.length : Int) rfl rfl Try.underlying45 (.bool false) 1 info4 rfl (by decide) (by omega) false (ok := fun _ => True) (okp := fun _ => True) rfl (fun _ hk => hk) trivial (by omega) (Nat.le_trans (Nat.mul_le_mul_right _ (show ((out.length : Int)).toNat ≤ 281474976710656 by have := HLO.out; have := HWL.out; omega)) (by omega)) (Below.refl _ _) (Nat.le_refl _) ?_; intro v W8 ho hb hg_ hnew_; rw [Int.toNat_natCast, HLO.out] at ho; obtain ⟨FB, fc, e0, gb, gl, gc⟩ := Kd.R_form ho (by rw [List.length_replicate]; omega); rw [List.length_replicate] at e0; subst e0; have HO8 := Aside0.mk ho; have HFB := Aside0.mk gb; have HB8 := Aside0.mk hb; clear ho hb hg_ hnew_ gb gl gc)
    obtain ⟨g1, hg1⟩ : ∃ g, gk = g := ⟨_, rfl⟩
    obtain ⟨o3, ⟨K3, hK3⟩, he1, he2⟩ := either_f out nxt (by rw [HLO.out, HT12.out.1]) (by have := HLO.out; have := HWL.out; omega)
    have HK3 := Aside0.mk (hK3 K3 (Nat.le_refl _))
    have HE3 := Aside0.mk (And.intro he1 he2)
    clear hK3 he1 he2
    go_wp2_with fail
    go_loopg [13] (word.length + 1) (fun kq v13 w' => ∃ (z : Int) (acc : List Bool), v13 = .int .i64 z ∧ Aside0 (0 ≤ z ∧ z + kq = (word.length + 1 : Nat)) ∧ Aside0 (acc.length = word.length + 1 ∧ Fill (fun j => nxt.getD j false && !(out.getD j false)) z.toNat acc) ∧ Aside0 (Kd.R Kd.bool 4 w' W7.heap.size (fun _ => True) (.slice (some ⟨FB, 0, none⟩) (word.length + 1) fc) acc) ∧ Aside0 (Below W7.heap.size W7 w'))
    case atStart => exact ⟨0, List.replicate (word.length + 1) false, rfl, ⟨by omega, by omega⟩, ⟨List.length_replicate, fill_zero _ _⟩, HO8, HB8⟩
    case round =>
      clear HO8 HB8
      obtain ⟨z, acc, rfl, HZ, HF, HO, HBm⟩ := hrel
      by_cases q0 : gk = 0
      · have f4 : ¬ z < (out.length : Int) := by have := HZ.out; have := HLO.out; omega
        have f5 : decide (z < (out.length : Int)) = false := decide_eq_false f4
        clear q0
        have HFF := Aside0.mk (show Fill (fun j => nxt.getD j false && !(out.getD j false)) (word.length + 1) acc by have h := HF.out.2; rw [show z.toNat = word.length + 1 by have := HZ.out; have := HLO.out; omega] at h; exact h)
        have HNX := Aside0.mk (star_next HI.out HT12.out HF.out.1 (fill_fresh HF.out.1 HT12.out.1 HFF.out) (by rw [HE3.out.1, HLO.out]) HE3.out.2)
        go_wp2_with (go_at_call 79; refine (scansionref10_either.calls K3 A7 c7 out A12 c12 nxt o3 wr (Kd.C_below HC77.out.1 HBm.out) HC77.out.2 (Kd.C_below HC12.out.1 HBm.out) HC12.out.2 HK3.out).mono ?_; rintro e W9 ⟨v9, rfl, ho, hb⟩; obtain ⟨A9', c9', rfl⟩ := Kd.R_slice ho; have HC9' := Aside0.mk (And.intro (Kd.R_reads' ho).2.2 (Kd.R_reads' ho).2.1); have HBW := Aside0.mk (HBm.out.trans (hb.mono HBm.out.size)); have HCF := Aside0.mk (Kd.C_below (Kd.R_reads' HO.out).2.2 hb); clear hb ho)
        go_roundg (g1 - 1)
        case measure => have := HM.out HNE.out; omega
        case rel => exact ⟨A9', c9', o3, some ⟨FB, 0, none⟩, fc, acc, rfl, by rw [HF.out.1], ⟨HNX.out.1⟩, ⟨fun h => by have h1 := HNX.out.2 h; have h2 := HM.out HNE.out; omega⟩, HC9', ⟨HCF.out, by rw [HF.out.1]; exact (Kd.R_reads' HO.out).2.1⟩, ⟨blk_below HN7.out HBW.out⟩, ⟨HB7.out.trans (HBW.out.mono HB7.out.size)⟩⟩
      · have HQ2 := Aside0.mk q0
        clear q0
        have f4 : z < (out.length : Int) := by have := HZ.out; have := HQ2.out; have := HLO.out; omega
        have f5 : decide (z < (out.length : Int)) = true := decide_eq_true f4
        have f6 : z < (nxt.length : Int) := by have := HT12.out.1; have := HLO.out; omega
        have f7 : decide (z < (nxt.length : Int)) = true := decide_eq_true f6
        have f8 : (0 : Int) ≤ z := HZ.out.1
        have f9 : z < (word.length : Int) + 1 := by have := HLO.out; omega
        have HW3 := Aside0.mk (show wrap64 (z + 1) = z + 1 by have := HWL.out; unfold wrap64; omega)
        obtain ⟨ado, eO, hxo⟩ := Kd.at_bool (Kd.C_below HC77.out.1 HBm.out) z f8 f4
        obtain ⟨adn, eN, hxn⟩ := Kd.at_bool (Kd.C_below HC12.out.1 HBm.out) z f8 f6
        subst eO eN
        obtain ⟨u, hu⟩ : ∃ u, u = rdOf false nxt z := ⟨_, rfl⟩
        rw [← hu] at hxn
        have HUN := Aside0.mk hu
        obtain ⟨u2, hu2⟩ : ∃ u, u = rdOf false out z := ⟨_, rfl⟩
        rw [← hu2] at hxo
        have HUO := Aside0.mk hu2
        clear hu hu2
        obtain ⟨hxf, hff⟩ := Kd.R_celln false HO.out z f8 (by have := HLO.out; omega)
        cases u
        case true =>
          have HP5 := Aside0.mk (Kd.R_putg HO.out z (!u2))
          go_wp2_with ((with_reducible refine gate_store (t := 4) (p := 69) rfl ?_); refine store_event (t := 4) (p := 69) (v := ?vo) (w1 := (wr.setCell ⟨FB, z.toNat, none⟩ (.bool (!u2)))) ?hg ?ho ?hn ?hr ?_; (case ho => rfl); (case hg => rfl); (case hn => rfl); (case hr => first | (go_simp; done) | (go_simp; rfl)); intro W9 hw; have HP9 := Aside0.mk (show Kd.R Kd.bool 4 W9 W7.heap.size (fun _ => True) (.slice (some ⟨FB, 0, none⟩) (word.length + 1) fc) (acc.set z.toNat (!u2)) by rw [hw]; exact HP5.out.1); have HB9 := Aside0.mk (show Below W7.heap.size W7 W9 by rw [hw]; exact below_set HBm.out HFB.out); clear hw hxf hff hxo hxn HP5)
          go_roundg (gk - 1)
          case measure => have := HQ2.out; omega
          case rel => exact ⟨z + 1, acc.set z.toNat (!u2), by rw [HW3.out], ⟨by have := HZ.out; omega, by have := HZ.out; have := HQ2.out; omega⟩, ⟨by rw [List.length_set]; exact HF.out.1, by have h := fill_set HF.out.2 (by have := HF.out.1; have := HZ.out; have := HQ2.out; omega) (v := (!u2)) (by show (!u2) = (nxt.getD z.toNat false && !(out.getD z.toNat false)); rw [show nxt.getD z.toNat false = true from HUN.out.symm, Bool.true_and, HUO.out]; rfl); rw [show z.toNat + 1 = (z + 1).toNat by have := HZ.out.1; omega] at h; exact h⟩, HP9, HB9⟩
        case false =>
          have HP5 := Aside0.mk (Kd.R_putg HO.out z false)
          go_wp2_with ((with_reducible refine gate_store (t := 4) (p := 69) rfl ?_); refine store_event (t := 4) (p := 69) (v := ?vo) (w1 := (wr.setCell ⟨FB, z.toNat, none⟩ (.bool false))) ?hg ?ho ?hn ?hr ?_; (case ho => rfl); (case hg => rfl); (case hn => rfl); (case hr => first | (go_simp; done) | (go_simp; rfl)); intro W9 hw; have HP9 := Aside0.mk (show Kd.R Kd.bool 4 W9 W7.heap.size (fun _ => True) (.slice (some ⟨FB, 0, none⟩) (word.length + 1) fc) (acc.set z.toNat false) by rw [hw]; exact HP5.out.1); have HB9 := Aside0.mk (show Below W7.heap.size W7 W9 by rw [hw]; exact below_set HBm.out HFB.out); clear hw hxf hff hxo hxn HP5)
          go_roundg (gk - 1)
          case measure => have := HQ2.out; omega
          case rel => exact ⟨z + 1, acc.set z.toNat false, by rw [HW3.out], ⟨by have := HZ.out; omega, by have := HZ.out; have := HQ2.out; omega⟩, ⟨by rw [List.length_set]; exact HF.out.1, by have h := fill_set HF.out.2 (by have := HF.out.1; have := HZ.out; have := HQ2.out; omega) (v := false) (by show false = (nxt.getD z.toNat false && !(out.getD z.toNat false)); rw [show nxt.getD z.toNat false = false from HUN.out.symm, Bool.false_and]); rw [show z.toNat + 1 = (z + 1).toNat by have := HZ.out.1; omega] at h; exact h⟩, HP9, HB9⟩
set_option maxHeartbeats 16000000 in
set_option maxRecDepth 100000 in
theorem re_k3 (s : Int) (kids : List S24) (hok : ∀ y ∈ kids, EndsOK y) : EndsOK ⟨3, s, kids⟩ := by
  intro hr W A c Aw cw word Aa ca at_ hC hc hCw hcw hwl hCa hca hla
  replace hC : Kd.C k24 W A kids.length kids := hC
  replace hc : kids.length ≤ c := hc
  show Calls Try.prog 52 #[.agg #[.int .i64 3, .int .i64 s, .slice A kids.length c], .slice Aw word.length cw, .slice Aa at_.length ca] W (EPost W word (fun j => ∃ i, on at_ i ∧ WayN (hitM word) ⟨3, s, kids⟩ i j))
  have HC := Aside0.mk hC
  have HCC := Aside0.mk hc
  have HCW := Aside0.mk hCw
  have HCWL := Aside0.mk hcw
  have HWL := Aside0.mk hwl
  have HCA := Aside0.mk hCa
  have HCAL := Aside0.mk hca
  have HLA := Aside0.mk hla
  have HOK := Aside0.mk hok
  have HLL := Aside0.mk (hC.2.1 : kids.length ≤ 9223372036854775807)
  have hr1 : kids.length = 1 ∧ rightL kids = true := by rw [rightN, if_neg (by decide), if_neg (by decide), if_neg (by decide), if_pos (by decide), Bool.and_eq_true, decide_eq_true_eq] at hr; exact hr
  obtain ⟨x, hkx⟩ : ∃ x, kids = [x] := by
    match kids, hr1.1 with
    | [x], _ => exact ⟨x, rfl⟩
  have HKX := Aside0.mk hkx
  have HRX := Aside0.mk (rightL_mem hr1.2 x (by rw [hkx]; exact List.mem_cons_self))
  have HK1 := Aside0.mk hr1.1
  clear hr1 hkx
  obtain ⟨p, hp⟩ : ∃ p : Bool, p = true ↔ ∃ j, on at_ j := ⟨@decide _ (Classical.propDecidable _), @decide_eq_true_iff _ (Classical.propDecidable _)⟩
  obtain ⟨KS, hKS⟩ := some_f at_ (by omega) p hp
  have HSO := Aside0.mk (hKS KS (Nat.le_refl _))
  have HPP := Aside0.mk hp
  have HWR := Aside0.mk (show wrap64 ((word.length : Int) + 1) = ((word.length + 1 : Nat) : Int) by unfold wrap64; omega)
  clear hC hc hCw hcw hwl hCa hca hla hok hr hp hKS
  go_enter Try.func52, Try.ntmps52
  go_upto_region 1 with fail
  have HB1 := Aside0.mk (below_alloc (Below.refl W.heap.size W) (.cells #[.int .i64 3, .int .i64 s, .slice A kids.length c] 24))
  have HNB1 := Aside0.mk (blk_new W (.cells #[.int .i64 3, .int .i64 s, .slice A kids.length c] 24))
  obtain ⟨NB, hNB⟩ : ∃ n, W.heap.size = n := ⟨_, rfl⟩
  rw [hNB] at HNB1
  obtain ⟨W1, hW1⟩ : ∃ w, W.alloc (.cells #[.int .i64 3, .int .i64 s, .slice A kids.length c] 24) = w := ⟨_, rfl⟩
  rw [hW1] at HB1 HNB1
  rw [hW1]
  rw [hNB]
  clear hNB hW1
  go_upto_region 2 with ((with_reducible refine gate_dst (N := 17) rfl ?_); refine Kd.R_make Kd.bool _ 4 rfl (N := 17) rfl 45 _ _ rfl (wrap64 ((word.length : Int) + 1)) rfl rfl Try.underlying45 (.bool false) 1 info4 rfl (by decide) (by omega) false (ok := fun _ => True) (okp := fun _ => True) rfl (fun _ hk => hk) trivial (by rw [HWR.out]; omega) (Nat.le_trans (Nat.mul_le_mul_right _ (show (wrap64 ((word.length : Int) + 1)).toNat ≤ 281474976710656 by rw [HWR.out]; have := HWL.out; omega)) (by omega)) (Below.refl _ _) (Nat.le_refl _) ?_; intro v W2 ho hb hg_ hnew_; rw [HWR.out, Int.toNat_natCast] at ho; obtain ⟨OB, oc, e0, gb, gl, gc⟩ := Kd.R_form ho (by rw [List.length_replicate]; omega); rw [List.length_replicate] at e0; subst e0; have HB2 := Aside0.mk (HB1.out.trans (hb.mono HB1.out.size)); have HNB2 := Aside0.mk (blk_below HNB1.out hb); have HO2 := Aside0.mk (Kd.R_lower ho HB1.out.size); have HOB := Aside0.mk (Nat.le_trans HB1.out.size gb); have HOG := Aside0.mk gc; clear ho hb hg_ hnew_ gb gl gc)
  clear HB1 HNB1
  cases p with
  | false =>
    have HNO := Aside0.mk (fun h => Bool.noConfusion (HPP.out.2 h) : ¬ ∃ j, on at_ j)
    go_wp2_with (go_at_call 78; refine (scansionref10_some.calls KS Aa ca at_ false W2 (Kd.C_below HCA.out HB2.out) HCAL.out HSO.out).mono ?_; rintro e W3 ⟨rfl, hdr⟩; have hb := hdr.below; have HB3 := Aside0.mk (HB2.out.trans (hb.mono HB2.out.size)); have HO3 := Aside0.mk (Kd.R_below HO2.out hb); clear hb hdr)
    go_ret
    exact ⟨some ⟨OB, 0, none⟩, oc, List.replicate (word.length + 1) false, by rw [List.length_replicate]; rfl, (Kd.R_reads' HO3.out).2.2, by rw [List.length_replicate]; exact (Kd.R_reads' HO3.out).2.1, none_tells _ HNO.out, HB3.out⟩
  | true =>
  go_upto_region 4 with (go_at_call 78; refine (scansionref10_some.calls KS Aa ca at_ true W2 (Kd.C_below HCA.out HB2.out) HCAL.out HSO.out).mono ?_; rintro e W3 ⟨rfl, hdr⟩; have hb := hdr.below; have HB3 := Aside0.mk (HB2.out.trans (hb.mono HB2.out.size)); have HNB3 := Aside0.mk (blk_below HNB2.out hb); have HO3 := Aside0.mk (Kd.R_below HO2.out hb); clear hb hdr)
  clear HB2 HNB2 HO2
  have n0 := (blk_cell HNB3.out 0).trans rfl
  have n1 := (blk_cell HNB3.out 1).trans rfl
  have n2 := (blk_cell HNB3.out 2).trans rfl
  obtain ⟨ad, A2, c2, eA, hx0, hx1, hx2, hl2, hg2⟩ := at_T24 HC.out 0 (by omega) (by have := HK1.out; omega)
  rw [show rd_T24 kids 0 = x by rw [HKX.out]; rfl] at hx0 hx1 hx2 hl2 hg2
  subst eA
  have HX0 := Aside0.mk hx0
  have HX1 := Aside0.mk hx1
  have HX2 := Aside0.mk hx2
  have HGX := Aside0.mk hg2
  have HLX := Aside0.mk hl2
  clear hx0 hx1 hx2 hg2 hl2
  have HB := Aside0.mk HB3.out
  have HN := Aside0.mk HNB3.out
  clear HB3 HNB3
  have hx0 : W3.cell? ad = some (.int .i64 x.f0) := cell_keep HB.out HX0.out
  have hx1 : W3.cell? ⟨ad.block, ad.off + 1, none⟩ = some (.int .i64 x.f1) := cell_keep HB.out HX1.out
  have hx2 : W3.cell? ⟨ad.block, ad.off + 2, none⟩ = some (.slice A2 x.f2.length c2) := cell_keep HB.out HX2.out
  have HNODE := Aside0.mk (HOK.out x (by rw [HKX.out]; exact List.mem_cons_self) HRX.out W3 A2 c2 Aw cw word Aa ca at_ (Kd.C_below HGX.out HB.out) HLX.out (Kd.C_below HCW.out HB.out) HCWL.out HWL.out (Kd.C_below HCA.out HB.out) HCAL.out HLA.out)
  have HW1 := Aside0.mk (show ∀ i j, WayN (hitM word) x i j ↔ Way1 (hitM word) kids i j from fun i j => by rw [HKX.out, Way1])
  have f1 : (0 : Int) < (kids.length : Int) := by have := HK1.out; omega
  have f2 : decide ((0 : Int) < (kids.length : Int)) = true := decide_eq_true f1
  have f3 : 0 < kids.length := by omega
  go_upto_region 6 with (go_at_call 52; refine HNODE.out.mono ?_; rintro e W4 ⟨A9, c9, o1, rfl, hC9, hc9, hT9, hb⟩; have HC9 := Aside0.mk (And.intro hC9 hc9); have HT9 := Aside0.mk hT9; have HB4 := Aside0.mk (HB.out.trans (hb.mono HB.out.size)); have HN4 := Aside0.mk (blk_below HN.out hb); clear hb hx0 hx1 hx2 n0 n1 n2 hC9 hc9 hT9)
  clear HB HN HO3 HNODE
  have n0 := (blk_cell HN4.out 0).trans rfl
  have n1 := (blk_cell HN4.out 1).trans rfl
  have n2 := (blk_cell HN4.out 2).trans rfl
  obtain ⟨o2, ⟨KE, hKE⟩, he1, he2⟩ := either_f o1 at_ (by have := HT9.out.1; have := HLA.out; omega) (by have := HT9.out.1; have := HWL.out; omega)
  have HKE := Aside0.mk (hKE KE (Nat.le_refl _))
  have HE1 := Aside0.mk he1
  have HE2 := Aside0.mk he2
  clear hKE he1 he2
  go_upto_region 8 with (go_at_call 79; refine (scansionref10_either.calls KE A9 c9 o1 Aa ca at_ o2 W4 HC9.out.1 HC9.out.2 (Kd.C_below HCA.out HB4.out) HCAL.out HKE.out).mono ?_; rintro e W5 ⟨v5, rfl, ho, hb⟩; obtain ⟨A5, c5, rfl⟩ := Kd.R_slice ho; have HC0 := Aside0.mk (And.intro (Kd.R_reads' ho).2.2 (Kd.R_reads' ho).2.1); have HB0 := Aside0.mk (HB4.out.trans (hb.mono HB4.out.size)); have HN0 := Aside0.mk (blk_below HN4.out hb); clear hb ho n0 n1 n2)
  obtain ⟨P, hP⟩ : ∃ P : Nat → Prop, P = fun j => (∃ i, on at_ i ∧ WayN (hitM word) x i j) ∨ on at_ j := ⟨_, rfl⟩
  have HP := Aside0.mk (show ∀ j, P j ↔ (∃ i, on at_ i ∧ WayN (hitM word) x i j) ∨ on at_ j from fun j => by rw [hP])
  have HT0 := Aside0.mk (show Tells word P o2 from ⟨by rw [HE1.out, HT9.out.1], fun j => by rw [HE2.out j, HT9.out.2 j, HP.out j]⟩)
  clear hP HC9 HB4 HN4 HT9
  go_wp2_with fail
  go_loopg [7, 11] (offs o2 + 1) (fun kq v7 v11 w' => ∃ (A7 : Option Addr) (c7 : Nat) (out : List Bool) (A11 : Option Addr) (c11 : Nat) (fresh : List Bool), v7 = .slice A7 out.length c7 ∧ v11 = .slice A11 fresh.length c11 ∧ Aside0 (StarI word x P out fresh) ∧ Aside0 ((∃ j, on fresh j) → offs out < kq) ∧ Aside0 (Kd.C Kd.bool w' A7 out.length out ∧ out.length ≤ c7) ∧ Aside0 (Kd.C Kd.bool w' A11 fresh.length fresh ∧ fresh.length ≤ c11) ∧ Aside0 (w'.heap[NB]? = some (.cells #[.int .i64 3, .int .i64 s, .slice (some ad) kids.length c] 24 (0, 0))) ∧ Aside0 (Below W.heap.size W w'))
  case atStart => exact ⟨A5, c5, o2, A5, c5, o2, rfl, rfl, ⟨⟨HT0.out.1, HT0.out.1, fun j h => h, fun j h => ⟨j, (HT0.out.2 j).1 h, .refl _⟩, fun i h => (HT0.out.2 i).2 h, fun i j h1 h2 _ => absurd h1 h2⟩⟩, ⟨fun _ => Nat.lt_succ_self _⟩, HC0, HC0, HN0, HB0⟩
  case round =>
    clear HC0 HB0 HN0 HT0
    obtain ⟨A7, c7, out, A11, c11, fresh, rfl, rfl, HI, HM, HC7, HC11, HN, HB⟩ := hrel
    obtain ⟨q, hq⟩ : ∃ q : Bool, q = true ↔ ∃ j, on fresh j := ⟨@decide _ (Classical.propDecidable _), @decide_eq_true_iff _ (Classical.propDecidable _)⟩
    have HQQ := Aside0.mk hq
    obtain ⟨K2, hK2⟩ := some_f fresh (by have := HI.out.fl; have := HWL.out; omega) q hq
    have HS2 := Aside0.mk (hK2 K2 (Nat.le_refl _))
    have HLO := Aside0.mk HI.out.ol
    have HLF := Aside0.mk HI.out.fl
    clear hq hK2
    have n0 := (blk_cell HN.out 0).trans rfl
    have n1 := (blk_cell HN.out 1).trans rfl
    have n2 := (blk_cell HN.out 2).trans rfl
    have hx0 : wr.cell? ad = some (.int .i64 x.f0) := cell_keep HB.out HX0.out
    have hx1 : wr.cell? ⟨ad.block, ad.off + 1, none⟩ = some (.int .i64 x.f1) := cell_keep HB.out HX1.out
    have hx2 : wr.cell? ⟨ad.block, ad.off + 2, none⟩ = some (.slice A2 x.f2.length c2) := cell_keep HB.out HX2.out
    cases q with
    | false =>
      have HFIN := Aside0.mk (show Tells word (fun j => ∃ i, on at_ i ∧ WayN (hitM word) ⟨3, s, kids⟩ i j) out from Tells.congr (HI.out.fin word (fun j hj => by have := HQQ.out.2 ⟨j, hj⟩; cases this)) (fun j => by
        constructor
        · rintro ⟨m, h0, h3⟩
          rcases (HP.out m).1 h0 with ⟨i, h1, h2⟩ | h0
          · exact ⟨i, h1, by rw [WayN, if_neg (by decide), if_neg (by decide), if_neg (by decide), if_pos rfl]; exact many_cons ((HW1.out _ _).1 h2) ((Many.iff HW1.out _ _).1 h3)⟩
          · exact ⟨m, h0, by rw [WayN, if_neg (by decide), if_neg (by decide), if_neg (by decide), if_pos rfl]; exact (Many.iff HW1.out _ _).1 h3⟩
        · rintro ⟨i, h1, h2⟩
          rw [WayN, if_neg (by decide), if_neg (by decide), if_neg (by decide), if_pos rfl] at h2
          exact ⟨i, (HP.out i).2 (.inr h1), (Many.iff HW1.out _ _).2 h2⟩
        ))
      go_wp2_with (go_at_call 78; refine (scansionref10_some.calls K2 A11 c11 fresh false wr HC11.out.1 HC11.out.2 HS2.out).mono ?_; rintro e W6 ⟨rfl, hdr⟩; have hb := hdr.below; have HB6 := Aside0.mk (HB.out.trans (hb.mono HB.out.size)); have HC6 := Aside0.mk (Kd.C_below HC7.out.1 hb); clear hb hdr)
      go_ret
      exact ⟨A7, c7, out, rfl, HC6.out, HC7.out.2, HFIN.out, HB6.out⟩
    | true =>
    have HNE := Aside0.mk (HQQ.out.1 rfl)
    have HNODE2 := Aside0.mk (HOK.out x (by rw [HKX.out]; exact List.mem_cons_self) HRX.out)
    go_upto_region 11 with (first | (go_at_call 78; refine (scansionref10_some.calls K2 A11 c11 fresh true wr HC11.out.1 HC11.out.2 HS2.out).mono ?_; rintro e W6 ⟨rfl, hdr⟩; have hb := hdr.below; have HB6 := Aside0.mk (HB.out.trans (hb.mono HB.out.size)); have HN6 := Aside0.mk (blk_below HN.out hb); have HC76 := Aside0.mk (And.intro (Kd.C_below HC7.out.1 hb) HC7.out.2); have HC116 := Aside0.mk (And.intro (Kd.C_below HC11.out.1 hb) HC11.out.2); clear hb hdr hx0 hx1 hx2 n0 n1 n2; have n0 := (blk_cell HN6.out 0).trans rfl; have n1 := (blk_cell HN6.out 1).trans rfl; have n2 := (blk_cell HN6.out 2).trans rfl; have hx0 : W6.cell? ad = some (.int .i64 x.f0) := cell_keep HB6.out HX0.out; have hx1 : W6.cell? ⟨ad.block, ad.off + 1, none⟩ = some (.int .i64 x.f1) := cell_keep HB6.out HX1.out; have hx2 : W6.cell? ⟨ad.block, ad.off + 2, none⟩ = some (.slice A2 x.f2.length c2) := cell_keep HB6.out HX2.out) | (go_at_call 52; refine (HNODE2.out W6 A2 c2 Aw cw word A11 c11 fresh (Kd.C_below HGX.out HB6.out) HLX.out (Kd.C_below HCW.out HB6.out) HCWL.out HWL.out HC116.out.1 HC116.out.2 HLF.out).mono ?_; rintro e W7 ⟨A12, c12, nxt, rfl, hC12, hc12, hT12, hb⟩; have HC12 := Aside0.mk (And.intro hC12 hc12); have HT12 := Aside0.mk hT12; have HB7 := Aside0.mk (HB6.out.trans (hb.mono HB6.out.size)); have HN7 := Aside0.mk (blk_below HN6.out hb); have HC77 := Aside0.mk (And.intro (Kd.C_below HC76.out.1 hb) HC76.out.2); clear hb hx0 hx1 hx2 n0 n1 n2 hC12 hc12 hT12))
    clear HB HN HC7 HC11 HB6 HN6 HC76 HC116 HS2 HNODE2
    go_upto_region 12 with ((with_reducible refine gate_dst (N := 49) rfl ?_); refine Kd.R_make Kd.bool _ 4 rfl (N := 49) rfl 45 _ _ rfl (out.length : Int) rfl rfl Try.underlying45 (.bool false) 1 info4 rfl (by decide) (by omega) false (ok := fun _ => True) (okp := fun _ => True) rfl (fun _ hk => hk) trivial (by omega) (Nat.le_trans (Nat.mul_le_mul_right _ (show ((out.length : Int)).toNat ≤ 281474976710656 by have := HLO.out; have := HWL.out; omega)) (by omega)) (Below.refl _ _) (Nat.le_refl _) ?_; intro v W8 ho hb hg_ hnew_; rw [Int.toNat_natCast, HLO.out] at ho; obtain ⟨FB, fc, e0, gb, gl, gc⟩ := Kd.R_form ho (by rw [List.length_replicate]; omega); rw [List.length_replicate] at e0; subst e0; have HO8 := Aside0.mk ho; have HFB := Aside0.mk gb; have HB8 := Aside0.mk hb; clear ho hb hg_ hnew_ gb gl gc)
    obtain ⟨g1, hg1⟩ : ∃ g, gk = g := ⟨_, rfl⟩
    obtain ⟨o3, ⟨K3, hK3⟩, he1, he2⟩ := either_f out nxt (by rw [HLO.out, HT12.out.1]) (by have := HLO.out; have := HWL.out; omega)
    have HK3 := Aside0.mk (hK3 K3 (Nat.le_refl _))
    have HE3 := Aside0.mk (And.intro he1 he2)
    clear hK3 he1 he2
    go_wp2_with fail
    go_loopg [13] (word.length + 1) (fun kq v13 w' => ∃ (z : Int) (acc : List Bool), v13 = .int .i64 z ∧ Aside0 (0 ≤ z ∧ z + kq = (word.length + 1 : Nat)) ∧ Aside0 (acc.length = word.length + 1 ∧ Fill (fun j => nxt.getD j false && !(out.getD j false)) z.toNat acc) ∧ Aside0 (Kd.R Kd.bool 4 w' W7.heap.size (fun _ => True) (.slice (some ⟨FB, 0, none⟩) (word.length + 1) fc) acc) ∧ Aside0 (Below W7.heap.size W7 w'))
    case atStart => exact ⟨0, List.replicate (word.length + 1) false, rfl, ⟨by omega, by omega⟩, ⟨List.length_replicate, fill_zero _ _⟩, HO8, HB8⟩
    case round =>
      clear HO8 HB8
      obtain ⟨z, acc, rfl, HZ, HF, HO, HBm⟩ := hrel
      by_cases q0 : gk = 0
      · have f4 : ¬ z < (out.length : Int) := by have := HZ.out; have := HLO.out; omega
        have f5 : decide (z < (out.length : Int)) = false := decide_eq_false f4
        clear q0
        have HFF := Aside0.mk (show Fill (fun j => nxt.getD j false && !(out.getD j false)) (word.length + 1) acc by have h := HF.out.2; rw [show z.toNat = word.length + 1 by have := HZ.out; have := HLO.out; omega] at h; exact h)
        have HNX := Aside0.mk (star_next HI.out HT12.out HF.out.1 (fill_fresh HF.out.1 HT12.out.1 HFF.out) (by rw [HE3.out.1, HLO.out]) HE3.out.2)
        go_wp2_with (go_at_call 79; refine (scansionref10_either.calls K3 A7 c7 out A12 c12 nxt o3 wr (Kd.C_below HC77.out.1 HBm.out) HC77.out.2 (Kd.C_below HC12.out.1 HBm.out) HC12.out.2 HK3.out).mono ?_; rintro e W9 ⟨v9, rfl, ho, hb⟩; obtain ⟨A9', c9', rfl⟩ := Kd.R_slice ho; have HC9' := Aside0.mk (And.intro (Kd.R_reads' ho).2.2 (Kd.R_reads' ho).2.1); have HBW := Aside0.mk (HBm.out.trans (hb.mono HBm.out.size)); have HCF := Aside0.mk (Kd.C_below (Kd.R_reads' HO.out).2.2 hb); clear hb ho)
        go_roundg (g1 - 1)
        case measure => have := HM.out HNE.out; omega
        case rel => exact ⟨A9', c9', o3, some ⟨FB, 0, none⟩, fc, acc, rfl, by rw [HF.out.1], ⟨HNX.out.1⟩, ⟨fun h => by have h1 := HNX.out.2 h; have h2 := HM.out HNE.out; omega⟩, HC9', ⟨HCF.out, by rw [HF.out.1]; exact (Kd.R_reads' HO.out).2.1⟩, ⟨blk_below HN7.out HBW.out⟩, ⟨HB7.out.trans (HBW.out.mono HB7.out.size)⟩⟩
      · have HQ2 := Aside0.mk q0
        clear q0
        have f4 : z < (out.length : Int) := by have := HZ.out; have := HQ2.out; have := HLO.out; omega
        have f5 : decide (z < (out.length : Int)) = true := decide_eq_true f4
        have f6 : z < (nxt.length : Int) := by have := HT12.out.1; have := HLO.out; omega
        have f7 : decide (z < (nxt.length : Int)) = true := decide_eq_true f6
        have f8 : (0 : Int) ≤ z := HZ.out.1
        have f9 : z < (word.length : Int) + 1 := by have := HLO.out; omega
        have HW3 := Aside0.mk (show wrap64 (z + 1) = z + 1 by have := HWL.out; unfold wrap64; omega)
        obtain ⟨ado, eO, hxo⟩ := Kd.at_bool (Kd.C_below HC77.out.1 HBm.out) z f8 f4
        obtain ⟨adn, eN, hxn⟩ := Kd.at_bool (Kd.C_below HC12.out.1 HBm.out) z f8 f6
        subst eO eN
        obtain ⟨u, hu⟩ : ∃ u, u = rdOf false nxt z := ⟨_, rfl⟩
        rw [← hu] at hxn
        have HUN := Aside0.mk hu
        obtain ⟨u2, hu2⟩ : ∃ u, u = rdOf false out z := ⟨_, rfl⟩
        rw [← hu2] at hxo
        have HUO := Aside0.mk hu2
        clear hu hu2
        obtain ⟨hxf, hff⟩ := Kd.R_celln false HO.out z f8 (by have := HLO.out; omega)
        cases u
        case true =>
          have HP5 := Aside0.mk (Kd.R_putg HO.out z (!u2))
          go_wp2_with ((with_reducible refine gate_store (t := 4) (p := 69) rfl ?_); refine store_event (t := 4) (p := 69) (v := ?vo) (w1 := (wr.setCell ⟨FB, z.toNat, none⟩ (.bool (!u2)))) ?hg ?ho ?hn ?hr ?_; (case ho => rfl); (case hg => rfl); (case hn => rfl); (case hr => first | (go_simp; done) | (go_simp; rfl)); intro W9 hw; have HP9 := Aside0.mk (show Kd.R Kd.bool 4 W9 W7.heap.size (fun _ => True) (.slice (some ⟨FB, 0, none⟩) (word.length + 1) fc) (acc.set z.toNat (!u2)) by rw [hw]; exact HP5.out.1); have HB9 := Aside0.mk (show Below W7.heap.size W7 W9 by rw [hw]; exact below_set HBm.out HFB.out); clear hw hxf hff hxo hxn HP5)
          go_roundg (gk - 1)
          case measure => have := HQ2.out; omega
          case rel => exact ⟨z + 1, acc.set z.toNat (!u2), by rw [HW3.out], ⟨by have := HZ.out; omega, by have := HZ.out; have := HQ2.out; omega⟩, ⟨by rw [List.length_set]; exact HF.out.1, by have h := fill_set HF.out.2 (by have := HF.out.1; have := HZ.out; have := HQ2.out; omega) (v := (!u2)) (by show (!u2) = (nxt.getD z.toNat false && !(out.getD z.toNat false)); rw [show nxt.getD z.toNat false = true from HUN.out.symm, Bool.true_and, HUO.out]; rfl); rw [show z.toNat + 1 = (z + 1).toNat by have := HZ.out.1; omega] at h; exact h⟩, HP9, HB9⟩
        case false =>
          have HP5 := Aside0.mk (Kd.R_putg HO.out z false)
          go_wp2_with ((with_reducible refine gate_store (t := 4) (p := 69) rfl ?_); refine store_event (t := 4) (p := 69) (v := ?vo) (w1 := (wr.setCell ⟨FB, z.toNat, none⟩ (.bool false))) ?hg ?ho ?hn ?hr ?_; (case ho => rfl); (case hg => rfl); (case hn => rfl); (case hr => first | (go_simp; done) | (go_simp; rfl)); intro W9 hw; have HP9 := Aside0.mk (show Kd.R Kd.bool 4 W9 W7.heap.size (fun _ => True) (.slice (some ⟨FB, 0, none⟩) (word.length + 1) fc) (acc.set z.toNat false) by rw [hw]; exact HP5.out.1); have HB9 := Aside0.mk (show Below W7.heap.size W7 W9 by rw [hw]; exact below_set HBm.out HFB.out); clear hw hxf hff hxo hxn HP5)
          go_roundg (gk - 1)
          case measure => have := HQ2.out; omega
          case rel => exact ⟨z + 1, acc.set z.toNat false, by rw [HW3.out], ⟨by have := HZ.out; omega, by have := HZ.out; have := HQ2.out; omega⟩, ⟨by rw [List.length_set]; exact HF.out.1, by have h := fill_set HF.out.2 (by have := HF.out.1; have := HZ.out; have := HQ2.out; omega) (v := false) (by show false = (nxt.getD z.toNat false && !(out.getD z.toNat false)); rw [show nxt.getD z.toNat false = false from HUN.out.symm, Bool.false_and]); rw [show z.toNat + 1 = (z + 1).toNat by have := HZ.out.1; omega] at h; exact h⟩, HP9, HB9⟩
theorem ends_ok : ∀ x, EndsOK x := by
  refine node_ind (P := EndsOK) (fun x hok => ?_)
  obtain ⟨k, s, kids⟩ := x
  replace hok : ∀ y ∈ kids, EndsOK y := hok
  by_cases q1 : k = 1
  · subst q1; exact re_k1 s kids hok
  by_cases q0 : k = 0
  · subst q0; exact re_k0 s kids hok
  by_cases q2 : k = 2
  · subst q2; exact re_k2 s kids hok
  by_cases q3 : k = 3
  · subst q3; exact re_k3 s kids hok
  by_cases q4 : k = 4
  · subst q4; exact re_k4 s kids hok
  by_cases q5 : k = 5
  · subst q5; exact re_k5 s kids hok
  · intro hr
    rw [rightN, if_neg q1, if_neg q0, if_neg q2, if_neg (by omega)] at hr
    cases hr
end Go.Proofs.Ytemlgmkbonpniaa.Print

namespace Go.Proofs.Ytemlgmkbonpniaa.Print
open Go.RowKit Go.Maps Go.Proofs.YtemlgmkbonpniaaW.PrintWords Go.Proofs.YtemlgmkbonpniaaW.PrintLast Go.Proofs.YtemlgmkbonpniaaW.PrintMore
set_option linter.unusedVariables false
set_option linter.unusedSimpArgs false
set_option maxHeartbeats 16000000 in
set_option maxRecDepth 100000 in
theorem whole_calls (x : S24) (W : World) (A : Option Addr) (c : Nat) (Aw : Option Addr) (cw : Nat) (word : List Int) (hC : Kd.C k24 W A x.f2.length x.f2) (hc : x.f2.length ≤ c) (hCw : Kd.C (Kd.int .u64) W Aw word.length word) (hcw : word.length ≤ cw) (hwl : word.length ≤ 100000) (b : Bool) (hb : b = true ↔ rightN x = true ∧ WayN (hitM word) x 0 word.length) :
    Calls Try.prog 22 #[.agg #[.int .i64 x.f0, .int .i64 x.f1, .slice A x.f2.length c], .slice Aw word.length cw] W fun e w' => e = .returned (.bool b) ∧ Below W.heap.size W w' := by
  have HC := Aside0.mk hC
  have HCC := Aside0.mk hc
  have HCW := Aside0.mk hCw
  have HCWL := Aside0.mk hcw
  have HWL := Aside0.mk hwl
  have HBB := Aside0.mk hb
  have HWR := Aside0.mk (show wrap64 ((word.length : Int) + 1) = ((word.length + 1 : Nat) : Int) by unfold wrap64; omega)
  obtain ⟨rr, hrr⟩ : ∃ rr, rr = rightN x := ⟨_, rfl⟩
  have HRR := Aside0.mk hrr
  have HRO := Aside0.mk (right_ok x)
  clear hC hc hCw hcw hwl hb hrr
  go_enter Try.func22, Try.ntmps22
  go_upto_region 1 with fail
  have HB1 := Aside0.mk (below_alloc (Below.refl W.heap.size W) (.cells #[.int .i64 x.f0, .int .i64 x.f1, .slice A x.f2.length c] 24))
  have HNB1 := Aside0.mk (blk_new W (.cells #[.int .i64 x.f0, .int .i64 x.f1, .slice A x.f2.length c] 24))
  obtain ⟨NB, hNB⟩ : ∃ n, W.heap.size = n := ⟨_, rfl⟩
  obtain ⟨W1, hW1⟩ : ∃ w, W.alloc (.cells #[.int .i64 x.f0, .int .i64 x.f1, .slice A x.f2.length c] 24) = w := ⟨_, rfl⟩
  rw [hNB] at HNB1
  rw [hW1] at HB1 HNB1
  rw [hW1]
  rw [hNB]
  clear hNB hW1
  have n0 := (blk_cell HNB1.out 0).trans rfl
  have n1 := (blk_cell HNB1.out 1).trans rfl
  have n2 := (blk_cell HNB1.out 2).trans rfl
  go_upto_region 2 with (go_at_call 49; refine (HRO.out W1 A c (Kd.C_below HC.out HB1.out) HCC.out).mono ?_; rw [← HRR.out]; rintro e W2 ⟨rfl, hb⟩; have HB2 := Aside0.mk (HB1.out.trans (hb.mono HB1.out.size)); have HNB2 := Aside0.mk (blk_below HNB1.out hb); clear hb n0 n1 n2)
  clear HB1 HNB1 HRO
  cases rr with
  | false =>
    have HF := Aside0.mk (show b = false by cases b with | false => rfl | true => exact absurd (HBB.out.1 rfl).1 (by rw [← HRR.out]; decide))
    go_wp2_with fail
    go_ret
    rw [HF.out]
    exact ⟨rfl, HB2.out⟩
  | true =>
  go_upto_region 5 with ((with_reducible refine gate_dst (N := 15) rfl ?_); refine Kd.R_make Kd.bool _ 4 rfl (N := 15) rfl 45 _ _ rfl (wrap64 ((word.length : Int) + 1)) rfl rfl Try.underlying45 (.bool false) 1 info4 rfl (by decide) (by omega) false (ok := fun _ => True) (okp := fun _ => True) rfl (fun _ hk => hk) trivial (by rw [HWR.out]; omega) (Nat.le_trans (Nat.mul_le_mul_right _ (show (wrap64 ((word.length : Int) + 1)).toNat ≤ 281474976710656 by rw [HWR.out]; have := HWL.out; omega)) (by omega)) (Below.refl _ _) (Nat.le_refl _) ?_; intro v W3 ho hb hg_ hnew_; rw [HWR.out, Int.toNat_natCast] at ho; obtain ⟨OB, oc, e0, gb, gl, gc⟩ := Kd.R_form ho (by rw [List.length_replicate]; omega); rw [List.length_replicate] at e0; subst e0; have HB3 := Aside0.mk (HB2.out.trans (hb.mono HB2.out.size)); have HNB3 := Aside0.mk (blk_below HNB2.out hb); have HO3 := Aside0.mk (Kd.R_lower ho HB2.out.size); have HOB := Aside0.mk (Nat.le_trans HB2.out.size gb); clear ho hb hg_ hnew_ gb gl gc)
  clear HB2 HNB2
  obtain ⟨hxf, hff⟩ := Kd.R_celln false HO3.out 0 (by omega) (by omega)
  replace hxf : W3.cell? ⟨OB, 0, none⟩ = some (.bool (rdOf false (List.replicate (word.length + 1) false) 0)) := hxf
  replace hff : W3.frozen? ⟨OB, 0, none⟩ = false := hff
  have HP5 := Aside0.mk (Kd.R_putg HO3.out 0 true)
  have f0 : (0 : Int) < (word.length : Int) + 1 := by omega
  have f00 : decide ((0 : Int) < (word.length : Int) + 1) = true := decide_eq_true f0
  go_upto_region 6 with ((with_reducible refine gate_store (t := 4) (p := 17) rfl ?_); refine store_event (t := 4) (p := 17) (v := ?vo) (w1 := (W3.setCell ⟨OB, 0, none⟩ (.bool true))) ?hg ?ho ?hn ?hr ?_; (case ho => rfl); (case hg => rfl); (case hn => rfl); (case hr => first | (go_simp; done) | (go_simp; rfl)); intro W5 hw; have HO5 := Aside0.mk (show Kd.R Kd.bool 4 W5 W.heap.size (fun _ => True) (.slice (some ⟨OB, 0, none⟩) (word.length + 1) oc) ((List.replicate (word.length + 1) false).set (0 : Int).toNat true) by rw [hw]; exact HP5.out.1); have HB5 := Aside0.mk (show Below W.heap.size W W5 by rw [hw]; exact below_set HB3.out HOB.out); have HN5 := Aside0.mk (show W5.heap[NB]? = some (.cells #[.int .i64 x.f0, .int .i64 x.f1, .slice A x.f2.length c] 24 (0, 0)) by rw [hw]; exact blk_grown HNB3.out HP5.out.2 (Kd.R_ne HO3.out HNB3.out (by decide))); clear hw HP5 hxf hff)
  clear HB3 HNB3 HO3 f0 f00
  have HL5 := Aside0.mk (show ((List.replicate (word.length + 1) false).set (0 : Int).toNat true).length = word.length + 1 by rw [List.length_set, List.length_replicate])
  obtain ⟨acc, hacc⟩ : ∃ acc, acc = (List.replicate (word.length + 1) false).set (0 : Int).toNat true := ⟨_, rfl⟩
  have HA5 := Aside0.mk (show ∀ i, on acc i ↔ i = 0 from fun i => by
    have hf := fill_set (g := fun _ => true) (fill_zero (fun _ => true) (word.length + 1)) (i := 0) (by rw [List.length_replicate]; omega) (v := true) rfl i
    unfold on
    rw [hacc, show (0 : Int).toNat = 0 from rfl, hf, Bool.and_true, decide_eq_true_eq]
    omega)
  rw [← hacc] at HL5 HO5
  have HO5 : Aside0 (Kd.R Kd.bool 4 W5 W.heap.size (fun _ => True) (.slice (some ⟨OB, 0, none⟩) acc.length oc) acc) := ⟨by rw [HL5.out]; exact HO5.out⟩
  have HLX := Aside0.mk HL5.out
  clear hacc
  have HEN := Aside0.mk (ends_ok x HRR.out.symm)
  have n0 := (blk_cell HN5.out 0).trans rfl
  have n1 := (blk_cell HN5.out 1).trans rfl
  have n2 := (blk_cell HN5.out 2).trans rfl
  go_upto_region 7 with (go_at_call 52; rw [← HL5.out]; refine (HEN.out W5 A c Aw cw word (some ⟨OB, 0, none⟩) oc acc (Kd.C_below HC.out HB5.out) HCC.out (Kd.C_below HCW.out HB5.out) HCWL.out HWL.out (Kd.R_reads' HO5.out).2.2 ((Kd.R_reads' HO5.out).2.1) HL5.out).mono ?_; rintro e W6 ⟨A6, c6, out, rfl, hC6, hc6, hT6, hb⟩; have HC6 := Aside0.mk (And.intro hC6 hc6); have HT6 := Aside0.mk hT6; have HB6 := Aside0.mk (HB5.out.trans (hb.mono HB5.out.size)); clear hb n0 n1 n2 hC6 hc6 hT6)
  have f1 : (word.length : Int) < (out.length : Int) := by have := HT6.out.1; omega
  have f2 : decide ((word.length : Int) < (out.length : Int)) = true := decide_eq_true f1
  have f3 : word.length < out.length := by omega
  have f4 : (0 : Int) ≤ (word.length : Int) := Int.natCast_nonneg _
  obtain ⟨ad, eA, hx⟩ := Kd.at_bool HC6.out.1 (word.length : Int) f4 f1
  rw [Int.toNat_natCast] at hx
  subst eA
  have hval : rdOf false out (word.length : Int) = b := Bool.eq_iff_iff.2 (Iff.trans (show on out word.length ↔ _ from HT6.out.2 word.length) (Iff.trans ⟨fun ⟨i, hi, hw⟩ => ⟨HRR.out.symm, by rw [(HA5.out i).1 hi] at hw; exact hw⟩, fun h => ⟨0, (HA5.out 0).2 rfl, h.2⟩⟩ HBB.out.symm))
  rw [hval] at hx
  clear hval
  go_wp2_with fail
  go_ret
  exact ⟨rfl, HB6.out⟩
set_option maxHeartbeats 16000000 in
set_option maxRecDepth 100000 in
theorem suffix_calls (x : S24) (W : World) (A : Option Addr) (c : Nat) (Aw : Option Addr) (cw : Nat) (word : List Int) (hC : Kd.C k24 W A x.f2.length x.f2) (hc : x.f2.length ≤ c) (hCw : Kd.C (Kd.int .u64) W Aw word.length word) (hcw : word.length ≤ cw) (hwl : word.length ≤ 100000) (b : Bool) (hb : b = true ↔ rightN x = true ∧ ∃ i, i ≤ word.length ∧ WayN (hitM word) x i word.length) :
    Calls Try.prog 42 #[.agg #[.int .i64 x.f0, .int .i64 x.f1, .slice A x.f2.length c], .slice Aw word.length cw] W fun e w' => e = .returned (.bool b) ∧ Below W.heap.size W w' := by
  have HC := Aside0.mk hC
  have HCC := Aside0.mk hc
  have HCW := Aside0.mk hCw
  have HCWL := Aside0.mk hcw
  have HWL := Aside0.mk hwl
  have HBB := Aside0.mk hb
  have HWR := Aside0.mk (show wrap64 ((word.length : Int) + 1) = ((word.length + 1 : Nat) : Int) by unfold wrap64; omega)
  obtain ⟨rr, hrr⟩ : ∃ rr, rr = rightN x := ⟨_, rfl⟩
  have HRR := Aside0.mk hrr
  have HRO := Aside0.mk (right_ok x)
  clear hC hc hCw hcw hwl hb hrr
  go_enter Try.func42, Try.ntmps42
  go_upto_region 1 with fail
  have HB1 := Aside0.mk (below_alloc (Below.refl W.heap.size W) (.cells #[.int .i64 x.f0, .int .i64 x.f1, .slice A x.f2.length c] 24))
  have HNB1 := Aside0.mk (blk_new W (.cells #[.int .i64 x.f0, .int .i64 x.f1, .slice A x.f2.length c] 24))
  obtain ⟨NB, hNB⟩ : ∃ n, W.heap.size = n := ⟨_, rfl⟩
  obtain ⟨W1, hW1⟩ : ∃ w, W.alloc (.cells #[.int .i64 x.f0, .int .i64 x.f1, .slice A x.f2.length c] 24) = w := ⟨_, rfl⟩
  rw [hNB] at HNB1
  rw [hW1] at HB1 HNB1
  rw [hW1]
  rw [hNB]
  clear hNB hW1
  have n0 := (blk_cell HNB1.out 0).trans rfl
  have n1 := (blk_cell HNB1.out 1).trans rfl
  have n2 := (blk_cell HNB1.out 2).trans rfl
  go_upto_region 2 with (go_at_call 49; refine (HRO.out W1 A c (Kd.C_below HC.out HB1.out) HCC.out).mono ?_; rw [← HRR.out]; rintro e W2 ⟨rfl, hb⟩; have HB2 := Aside0.mk (HB1.out.trans (hb.mono HB1.out.size)); have HNB2 := Aside0.mk (blk_below HNB1.out hb); clear hb n0 n1 n2)
  clear HB1 HNB1 HRO
  cases rr with
  | false =>
    have HF := Aside0.mk (show b = false by cases b with | false => rfl | true => exact absurd (HBB.out.1 rfl).1 (by rw [← HRR.out]; decide))
    go_wp2_with fail
    go_ret
    rw [HF.out]
    exact ⟨rfl, HB2.out⟩
  | true =>
  go_upto_region 5 with ((with_reducible refine gate_dst (N := 16) rfl ?_); refine Kd.R_make Kd.bool _ 4 rfl (N := 16) rfl 45 _ _ rfl (wrap64 ((word.length : Int) + 1)) rfl rfl Try.underlying45 (.bool false) 1 info4 rfl (by decide) (by omega) false (ok := fun _ => True) (okp := fun _ => True) rfl (fun _ hk => hk) trivial (by rw [HWR.out]; omega) (Nat.le_trans (Nat.mul_le_mul_right _ (show (wrap64 ((word.length : Int) + 1)).toNat ≤ 281474976710656 by rw [HWR.out]; have := HWL.out; omega)) (by omega)) (Below.refl _ _) (Nat.le_refl _) ?_; intro v W3 ho hb hg_ hnew_; rw [HWR.out, Int.toNat_natCast] at ho; obtain ⟨OB, oc, e0, gb, gl, gc⟩ := Kd.R_form ho (by rw [List.length_replicate]; omega); rw [List.length_replicate] at e0; subst e0; have HB3 := Aside0.mk (HB2.out.trans (hb.mono HB2.out.size)); have HNB3 := Aside0.mk (blk_below HNB2.out hb); have HO3 := Aside0.mk (Kd.R_lower ho HB2.out.size); have HOB := Aside0.mk (Nat.le_trans HB2.out.size gb); clear ho hb hg_ hnew_ gb gl gc)
  clear HB2 HNB2
  go_wp2_with fail
  go_loopg [7] (word.length + 1) (fun kq v7 w' => ∃ (z : Int) (acc : List Bool), v7 = .int .i64 z ∧ Aside0 (0 ≤ z ∧ z + kq = (word.length + 1 : Nat)) ∧ Aside0 (acc.length = word.length + 1 ∧ Fill (fun _ => true) z.toNat acc) ∧ Aside0 (Kd.R Kd.bool 4 w' W.heap.size (fun _ => True) (.slice (some ⟨OB, 0, none⟩) (word.length + 1) oc) acc) ∧ Aside0 (w'.heap[NB]? = some (.cells #[.int .i64 x.f0, .int .i64 x.f1, .slice A x.f2.length c] 24 (0, 0))) ∧ Aside0 (Below W.heap.size W w'))
  case atStart => exact ⟨0, List.replicate (word.length + 1) false, rfl, ⟨by omega, by omega⟩, ⟨List.length_replicate, fill_zero _ _⟩, HO3, HNB3, HB3⟩
  case round =>
  clear HO3 HNB3 HB3
  obtain ⟨z, acc, rfl, HZ, HF, HO3, HNB3, HB3⟩ := hrel
  by_cases q0 : gk = 0
  case neg =>
    have HQ := Aside0.mk q0
    clear q0
    have f1 : z ≤ (word.length : Int) := by have := HZ.out; have := HQ.out; omega
    have f2 : decide (z ≤ (word.length : Int)) = true := decide_eq_true f1
    have f3 : (0 : Int) ≤ z := HZ.out.1
    have f4 : z < (word.length : Int) + 1 := by omega
    have f5 : decide (z < (word.length : Int) + 1) = true := decide_eq_true f4
    have HW3 := Aside0.mk (show wrap64 (z + 1) = z + 1 by have := HWL.out; unfold wrap64; omega)
    obtain ⟨hxf, hff⟩ := Kd.R_celln false HO3.out z f3 (by omega)
    have HP5 := Aside0.mk (Kd.R_putg HO3.out z true)
    go_wp2_with ((with_reducible refine gate_store (t := 4) (p := 25) rfl ?_); refine store_event (t := 4) (p := 25) (v := ?vo) (w1 := (wr.setCell ⟨OB, z.toNat, none⟩ (.bool true))) ?hg ?ho ?hn ?hr ?_; (case ho => rfl); (case hg => rfl); (case hn => rfl); (case hr => first | (go_simp; done) | (go_simp; rfl)); intro W5 hw; have HO5 := Aside0.mk (show Kd.R Kd.bool 4 W5 W.heap.size (fun _ => True) (.slice (some ⟨OB, 0, none⟩) (word.length + 1) oc) (acc.set z.toNat true) by rw [hw]; exact HP5.out.1); have HB5 := Aside0.mk (show Below W.heap.size W W5 by rw [hw]; exact below_set HB3.out HOB.out); have HN5 := Aside0.mk (show W5.heap[NB]? = some (.cells #[.int .i64 x.f0, .int .i64 x.f1, .slice A x.f2.length c] 24 (0, 0)) by rw [hw]; exact blk_grown HNB3.out HP5.out.2 (Kd.R_ne HO3.out HNB3.out (by decide))); clear hw HP5 hxf hff)
    go_roundg (gk - 1)
    case measure => have := HQ.out; omega
    case rel => exact ⟨z + 1, acc.set z.toNat true, by rw [HW3.out], ⟨by have := HZ.out; omega, by have := HZ.out; have := HQ.out; omega⟩, ⟨by rw [List.length_set]; exact HF.out.1, by have h := fill_set HF.out.2 (by have := HF.out.1; have := HZ.out; have := HQ.out; omega) (v := true) rfl; rw [show z.toNat + 1 = (z + 1).toNat by have := HZ.out.1; omega] at h; exact h⟩, HO5, HN5, HB5⟩
  case pos =>
  have f5 : ¬ z ≤ (word.length : Int) := by have := HZ.out; omega
  have f6 : decide (z ≤ (word.length : Int)) = false := decide_eq_false f5
  clear q0
  have HL5 := Aside0.mk HF.out.1
  have HA5 := Aside0.mk (show ∀ i, on acc i ↔ i ≤ word.length from fun i => by
    unfold on
    rw [HF.out.2 i, Bool.and_true, decide_eq_true_eq]
    have := HZ.out
    omega)
  have HO5 : Aside0 (Kd.R Kd.bool 4 wr W.heap.size (fun _ => True) (.slice (some ⟨OB, 0, none⟩) acc.length oc) acc) := ⟨by rw [HL5.out]; exact HO3.out⟩
  have HEN := Aside0.mk (ends_ok x HRR.out.symm)
  have n0 := (blk_cell HNB3.out 0).trans rfl
  have n1 := (blk_cell HNB3.out 1).trans rfl
  have n2 := (blk_cell HNB3.out 2).trans rfl
  go_upto_region 10 with (go_at_call 52; rw [← HL5.out]; refine (HEN.out wr A c Aw cw word (some ⟨OB, 0, none⟩) oc acc (Kd.C_below HC.out HB3.out) HCC.out (Kd.C_below HCW.out HB3.out) HCWL.out HWL.out (Kd.R_reads' HO5.out).2.2 ((Kd.R_reads' HO5.out).2.1) HL5.out).mono ?_; rintro e W6 ⟨A6, c6, out, rfl, hC6, hc6, hT6, hb⟩; have HC6 := Aside0.mk (And.intro hC6 hc6); have HT6 := Aside0.mk hT6; have HB6 := Aside0.mk (HB3.out.trans (hb.mono HB3.out.size)); clear hb n0 n1 n2 hC6 hc6 hT6)
  have f1 : (word.length : Int) < (out.length : Int) := by have := HT6.out.1; omega
  have f2 : decide ((word.length : Int) < (out.length : Int)) = true := decide_eq_true f1
  have f3 : word.length < out.length := by omega
  have f4 : (0 : Int) ≤ (word.length : Int) := Int.natCast_nonneg _
  obtain ⟨ad, eA, hx⟩ := Kd.at_bool HC6.out.1 (word.length : Int) f4 f1
  rw [Int.toNat_natCast] at hx
  subst eA
  have hval : rdOf false out (word.length : Int) = b := Bool.eq_iff_iff.2 (Iff.trans (show on out word.length ↔ _ from HT6.out.2 word.length) (Iff.trans ⟨fun ⟨i, hi, hw⟩ => ⟨HRR.out.symm, i, (HA5.out i).1 hi, hw⟩, fun ⟨_, i, hi, hw⟩ => ⟨i, (HA5.out i).2 hi, hw⟩⟩ HBB.out.symm))
  rw [hval] at hx
  clear hval
  go_wp2_with fail
  go_ret
  exact ⟨rfl, HB6.out⟩
end Go.Proofs.Ytemlgmkbonpniaa.Print
