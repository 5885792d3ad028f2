/- least.Least, walked by hand. -/
import Derived.Test.YtadhjjfodpmelaaLeastA
import Derived.WalkMore
namespace Go.Proofs.Ytadhjjfodpmelaa.Print
open Go.RowKit Go.Shelf Go.Maps Go.Proofs.YtadhjjfodpmelaaW.PrintWords Go.Proofs.YtadhjjfodpmelaaW.PrintLast Go.Proofs.YtadhjjfodpmelaaW.PrintMore
set_option linter.unusedVariables false
set_option linter.unusedSimpArgs false

def least_T13 : Bool × List (List Nat × List Nat) := (true, [([], []), ([0], [0]), ([], []), ([], []), ([2, 3], [2, 3]), ([4], [4]), ([1, 5], [1, 5]), ([6], [6]), ([7], [7]), ([], [])])
def least_B13 : List Nat := [0, 1, 0, 0, 12, 28, 63, 127, 255, 0]
theorem least_tab13 : rtab .any (opsOf Try.f11 13) = least_T13 := by kernel_rfl
theorem least_bits13 : waitsOk least_T13.2 least_B13 = true := by kernel_rfl
def least_T18 : Bool × List (List Nat × List Nat) := (true, [([], []), ([0], [0]), ([], []), ([2], [2]), ([1, 3], [1, 3]), ([], []), ([5], [5]), ([], []), ([7], [7]), ([], []), ([], []), ([9, 10], [9, 10]), ([11], [11]), ([8, 12], [8, 12]), ([13], [13]), ([14], [14]), ([6, 15, 4], [6, 15]), ([0, 1, 2, 3, 4, 5, 6], []), ([17, 4, 16, 0, 1, 2, 3, 4, 5, 6], [4, 17]), ([0, 1, 2, 3, 4, 5, 6, 7, 8, 9, 10, 11, 12, 13, 14, 15, 16, 17, 18], []), ([19, 16, 18, 0, 1, 2, 3, 4, 5, 6, 7, 8, 9, 10, 11, 12, 13, 14, 15, 16, 17, 18], [16, 19])])
def least_B18 : List Nat := [0, 1, 0, 4, 15, 0, 32, 0, 128, 0, 0, 1536, 3584, 8064, 16256, 32640, 65535, 127, 262143, 524287, 1048575]
theorem least_tab18 : rtab .any (opsOf Try.f11 18) = least_T18 := by kernel_rfl
theorem least_bits18 : waitsOk least_T18.2 least_B18 = true := by kernel_rfl

theorem least_end {tmps : Array Value} {W : World} {R : Nat} {vN vF : Value} {e : Int} (h2 : tmps.getD 2 undef = .pointer (some ⟨R, 0, none⟩)) (h3 : tmps.getD 3 undef = .int .i64 e) (hR : W.heap[R]? = some (.cells #[vN, vF] 25 (0, 0))) :
  (results Try.f11 tmps).run Try.prog W = .ok (.tuple #[.agg #[vN, vF], .int .i64 e]) W := by
 have := results_ct (P := Try.prog) (fn := Try.f11) (p := 2) (u := 3) (ty := 25) rfl tmps W R 25 #[vN, vF] (0, 0) _ h2 hR Try.underlying25 rfl (by kernel_rfl)
 rw [h3] at this
 exact this
theorem S_set25 {α : Type} {d : Kd α} {W : World} {e g : Nat} {ok : Nat → Prop} {base : Nat} {v : Value} {xs : List α} {cs : Array Value} (h : Kd.S d e W base ok v xs) (hb : W.heap[g]? = some (.cells cs 25 (0, 0))) (ht : ∀ q, q ∈ e :: d.E → q ≠ 25) (j : Nat) (u : Value) : Kd.S d e (W.setCell ⟨g, j, none⟩ u) base ok v xs :=
 Kd.S_mono (Kd.S_grown (Kd.S_types h hb ht) (grownBy_set W g j u) (fun k hk e => hk.2 (by simpa using e))) (fun _ hk => hk.1)

/-- What least.Least answers with. -/
def LeastPost (r : List (List Int) × List Bool × Int) (w : World) (e : Ending) (w' : World) : Prop := ∃ v0_ v1_ : Value, e = .returned (.tuple #[.agg #[v0_, v1_], .int .i64 r.2.2]) ∧ Kd.S (Kd.slice 3 (Kd.int .i64)) 33 w' w.heap.size (fun _ => True) v0_ r.1 ∧ Kd.R Kd.bool 4 w' w.heap.size (fun _ => True) v1_ r.2.1 ∧ Below w.heap.size w w'
def leastRes (a : List (List Int)) (b : List Bool) (kind : List Int) : List (List Int) × List Bool × Int := if rightB a b = true then ((leastOf a b kind).1, (leastOf a b kind).2, 0) else ([], [], 1)

theorem least_bad {r : List (List Int) × List Bool × Int} {w W : World} {R : Nat} {a : Act} (hE : r = ([], [], 1)) (hX : W.heap[R]? = some (.cells #[.slice none 0 0, .slice none 0 0] 25 (0, 0))) (hRw : w.heap.size ≤ R) (hB : Below w.heap.size w W) (h2 : a.tmps.getD 2 undef = .pointer (some ⟨R, 0, none⟩)) (h3 : a.tmps.getD 3 undef = .int .i64 1) (hd : a.defers = []) :
  bodyPost Try.prog Try.f11 (LeastPost r w) .ret a ((W.setCell ⟨R, 0, none⟩ (.slice none 0 0)).setCell ⟨R, 1, none⟩ (.slice none 0 0)) := by
 have h := blk_put (blk_put hX 0 (.slice none 0 0) rfl) 1 (.slice none 0 0) rfl
 refine bodyPost_ret (least_end h2 h3 h) hd ⟨_, _, by rw [hE], ?_, ?_, (hB.setCell (p := ⟨R, 0, none⟩) hRw _).setCell (p := ⟨R, 1, none⟩) hRw _⟩
 ·rw [hE]; exact Kd.S_nil _ _ _ _ _
 ·rw [hE]; exact Kd.R_nil _ _ _ _ _
theorem least_ok {r : List (List Int) × List Bool × Int} {w W : World} {R : Nat} {a : Act} {vN vF : Value} {x : List (List Int)} {y : List Bool} (hE : r = (x, y, 0)) (hX : W.heap[R]? = some (.cells #[.slice none 0 0, .slice none 0 0] 25 (0, 0))) (hRw : w.heap.size ≤ R) (hB : Below w.heap.size w W)
  (hS : Kd.S (Kd.slice 3 (Kd.int .i64)) 33 W w.heap.size (fun _ => True) vN x) (hF : Kd.R Kd.bool 4 W w.heap.size (fun _ => True) vF y) (h2 : a.tmps.getD 2 undef = .pointer (some ⟨R, 0, none⟩)) (h3 : a.tmps.getD 3 undef = .int .i64 0) (hd : a.defers = []) :
  bodyPost Try.prog Try.f11 (LeastPost r w) .ret a ((W.setCell ⟨R, 0, none⟩ vN).setCell ⟨R, 1, none⟩ vF) := by
 have hX1 := blk_put hX 0 vN rfl
 have h := blk_put hX1 1 vF rfl
 refine bodyPost_ret (least_end h2 h3 h) hd ⟨_, _, by rw [hE], ?_, ?_, (hB.setCell (p := ⟨R, 0, none⟩) hRw _).setCell (p := ⟨R, 1, none⟩) hRw _⟩
 ·rw [hE]; exact S_set25 (S_set25 hS hX (by decide) _ _) hX1 (by decide) _ _
 ·rw [hE]; exact R_set25 (R_set25 hF hX (by decide) _ _) hX1 (by decide) _ _

set_option maxRecDepth 100000 in
set_option maxHeartbeats 16000000 in
theorem least_calls (A0_0 : Option Addr) (c0_0 : Nat) (a : List (List Int)) (A0_1 : Option Addr) (c0_1 : Nat) (b : List Bool) (w : World) (hr0_0 : Kd.C (Kd.slice 3 (Kd.int .i64)) w A0_0 a.length a) (hc0_0 : a.length ≤ c0_0) (hr0_1 : Kd.C Kd.bool w A0_1 b.length b) (hc0_1 : b.length ≤ c0_1)
  (K : Nat) (kind : List Int) (hres : rightB a b = true → classesGo a K (kindUp b b.length) 0 = some kind) :
  Calls Try.prog 11 #[.agg #[.slice A0_0 a.length c0_0, .slice A0_1 b.length c0_1]] w (LeastPost (leastRes a b kind) w) := by
 have HR0 := Aside0.mk hr0_0
 have HR1 := Aside0.mk hr0_1
 have HC0 := Aside0.mk hc0_0
 have HC1 := Aside0.mk hc0_1
 have HRES := Aside0.mk hres
 have HX0 := Aside0.mk (show (w.alloc (.cells #[.slice A0_0 a.length c0_0, .slice A0_1 b.length c0_1] 25)).heap[w.heap.size]? = some (.cells #[.slice A0_0 a.length c0_0, .slice A0_1 b.length c0_1] 25 (0, 0)) from blk_new w _)
 have HX1 := Aside0.mk (blk_alloc HX0.out (.cells #[.slice none 0 0, .slice none 0 0] 25))
 have HRR := Aside0.mk (blk_new (w.alloc (.cells #[.slice A0_0 a.length c0_0, .slice A0_1 b.length c0_1] 25)) (.cells #[.slice none 0 0, .slice none 0 0] 25))
 have HB1 := Aside0.mk (below_alloc (below_alloc (Below.refl w.heap.size w) (.cells #[.slice A0_0 a.length c0_0, .slice A0_1 b.length c0_1] 25)) (.cells #[.slice none 0 0, .slice none 0 0] 25))
 have hsz1 : (w.alloc (.cells #[.slice A0_0 a.length c0_0, .slice A0_1 b.length c0_1] 25)).heap.size = w.heap.size + 1 := by simp
 rw [hsz1] at HRR
 have x0 := (blk_cell HX1.out 0).trans rfl
 have x1 := (blk_cell HX1.out 1).trans rfl
 have HRT := Aside0.mk (subset_Right.calls A0_0 c0_0 a A0_1 c0_1 b (rightB a b) _ (Kd.C_below hr0_0 HB1.out) hc0_0 (Kd.C_below hr0_1 HB1.out) hc0_1 rfl)
 have hmm := @run_makeMap Try.prog
 clear hr0_0 hr0_1 hc0_0 hc0_1 hres hsz1
 go_enter Try.func11, Try.ntmps11
 go_wp2_with fail
 refine HRT.out.mono ?_
 rintro e w1 ⟨rfl, hb1⟩
 have HB2 := Aside0.mk (HB1.out.trans (hb1.mono HB1.out.size))
 have HX2 := Aside0.mk (blk_below HX1.out hb1)
 have HR2 := Aside0.mk (blk_below HRR.out hb1)
 clear hb1 x0 x1 HRT HB1 HX0 HX1 HRR
 obtain ⟨R, hR⟩ : ∃ R, w.heap.size + 1 = R := ⟨_, rfl⟩
 rw [hR] at HR2 ⊢
 have hRw : w.heap.size < R := by omega
 clear hR
 cases hg : rightB a b with
 | false =>
  have HE := Aside0.mk (show leastRes a b kind = ([], [], 1) by unfold leastRes; rw [if_neg (by rw [hg]; decide)])
  have r0 := (blk_cell HR2.out 0).trans rfl
  have rf0 := blk_frozen HR2.out 0
  have HR3 := Aside0.mk (blk_put HR2.out 0 (.slice none 0 0) rfl)
  have r1 := (blk_cell HR3.out 1).trans rfl
  have rf1 := blk_frozen HR3.out 1
  go_wp2_with fail
  try rw [Exit.noGoto_ret]
  exact least_bad HE.out HR2.out (by omega) HB2.out rfl rfl rfl
 | true =>
  have HG := Aside0.mk hg
  have HE := Aside0.mk (show leastRes a b kind = ((leastOf a b kind).1, (leastOf a b kind).2, 0) by unfold leastRes; rw [if_pos hg])
  have hcg := HRES.out hg
  have HCL := Aside0.mk (classes_calls A0_0 c0_0 a A0_1 c0_1 b w1 (Kd.C_below HR0.out HB2.out) HC0.out (Kd.C_below HR1.out HB2.out) HC1.out hg K kind hcg)
  have hlen : b.length = a.length ∧ 1 ≤ a.length ∧ a.length ≤ 5000 := by
   unfold rightB at hg
   simp only [Bool.and_eq_true, decide_eq_true_eq] at hg
   exact ⟨hg.1.1.1.2, hg.1.1.1.1.1, hg.1.1.1.1.2⟩
  have HLN := Aside0.mk hlen
  have HKW := Aside0.mk (kind_wf hcg)
  have x0 := (blk_cell HX2.out 0).trans rfl
  have x1 := (blk_cell HX2.out 1).trans rfl
  clear hcg hlen hg HRES
  go_wp2_with fail
  refine HCL.out.mono ?_
  rintro e w2 ⟨gg, rfl, hK, hb2⟩
  have HB3 := Aside0.mk (HB2.out.trans (hb2.mono HB2.out.size))
  have HX3 := Aside0.mk (blk_below HX2.out hb2)
  have HR3 := Aside0.mk (blk_below HR2.out hb2)
  have HK3 := Aside0.mk (Kd.R_lower hK HB2.out.size)
  have hn : kind.length = a.length := HKW.out.1
  have h5000 := HLN.out.2.2
  have hn1 := HLN.out.2.1
  have HWK := Aside0.mk (rd_wf h5000 HKW.out.2)
  clear hK hb2 HX2 HR2 HB2 HCL HKW x0 x1
  go_wp2_with fail
  have HL := Aside0.mk (LInv.start HB3.out HX3.out HR3.out hRw HK3.out)
  clear HB3 HX3 HR3 HK3
  obtain ⟨MB, hMB⟩ : ∃ m, w2.heap.size + 1 = m := ⟨_, rfl⟩
  obtain ⟨NB, hNB⟩ : ∃ m, w2.heap.size + 1 + 1 = m := ⟨_, rfl⟩
  obtain ⟨OB, hOB⟩ : ∃ m, w2.heap.size + 1 + 1 + 1 = m := ⟨_, rfl⟩
  obtain ⟨D, hD⟩ : ∃ m, w2.heap.size + 1 + 1 + 1 + 1 = m := ⟨_, rfl⟩
  obtain ⟨KB, hKB⟩ : ∃ m, w2.heap.size = m := ⟨_, rfl⟩
  rw [hD, hOB, hNB, hMB, hKB] at HL
  rw [hD, hOB, hNB, hMB, hKB]
  clear hD hOB hNB hMB hKB
  generalize (((((w2.alloc (Obj.cells #[Value.slice (some { block := gg, off := 0 }) a.length a.length] 33)).alloc (Obj.map #[] 0)).alloc (Obj.cells #[Value.map (some MB)] 44)).alloc (Obj.cells #[Value.slice none 0 0] 33)).alloc (Obj.cells #[Value.slice none 0 0, Value.slice none 0 0] 25)) = w3 at *
  refine (met_calls w.heap.size w kind [] gg a.length NB KB OB MB 0 (.slice none 0 0) w3 (by omega) h5000 (by simp) HL.out.nblk HL.out.kblk HL.out.oblk HL.out.kindR HL.out.ord HL.out.num HWK.out HL.out.apart HL.out.below HL.out.base (by have := HL.out.hM; omega) (by have := HL.out.hO; omega)).mono ?_
  rintro e w4 ⟨rfl, vO, h1, h2, h3, h4, h5, h6⟩
  have hO0 : metO kind [] ((0 : Nat) : Int) = [0] := by unfold metO; rw [if_neg (by simp)]; rfl
  rw [hO0] at h2 h3
  have HL4 := Aside0.mk (HL.out.met h1 h2 h3 h4 h5 h6)
  have HOK := Aside0.mk (show OrdOk a.length kind [0] from ⟨by simp, fun x hx => by simp at hx; omega⟩)
  have HFIN := Aside0.mk (show leastGo a b kind (a.length + 1) [] [] [0] = leastOf a b kind from rfl)
  clear h1 h2 h3 h4 h5 h6 hO0 HL
  obtain ⟨fin, hfin⟩ : ∃ r, leastOf a b kind = r := ⟨_, rfl⟩
  rw [hfin] at HE HFIN
  clear hfin
  go_wp2_with fail
  go_loopg [9] (a.length + 2) (fun gk v9 wr => ∃ (i k : Nat) (x : List (List Int)) (y : List Bool) (order : List Int) (vN vF vO : Value), v9 = .int .i64 i ∧ k < gk ∧ a.length < k + i ∧ i ≤ order.length ∧ Aside0 (x.length = i) ∧ Aside0 (y.length = i) ∧ Aside0 (leastGo a b kind k x y order = fin) ∧ Aside0 (OrdOk a.length kind order) ∧ Aside0 (LInv w R D KB NB OB MB gg a.length (.slice A0_0 a.length c0_0) (.slice A0_1 b.length c0_1) kind vN vF vO y order wr) ∧ Aside0 (Kd.S (Kd.slice 3 (Kd.int .i64)) 33 wr w.heap.size (fun k => Far OB KB vO k) vN x))
  case atStart => exact ⟨0, a.length + 1, [], [], [0], _, _, vO, rfl, by omega, by omega, by simp, ⟨rfl⟩, ⟨rfl⟩, HFIN, HOK, HL4, ⟨Kd.S_nil _ _ _ _ _⟩⟩
  case round =>
   clear HL4 HOK HFIN vO
   obtain ⟨i, k, x, y, order, vN, vF, vO, rfl, hk, hki, hio, HXL, HYL, HGO, HOK, HL, HS⟩ := hrel
   obtain ⟨AO, cO, rfl⟩ := Kd.R_slice HL.out.ord
   have o0 := (blk_cell HL.out.oblk 0).trans rfl
   have hol := HOK.out.len
   by_cases hlt : i < order.length
   ·have hltz : (i : Int) < (order.length : Int) := by omega
    obtain ⟨k, rfl⟩ : ∃ k', k = k' + 1 := ⟨k - 1, by omega⟩
    obtain ⟨go, rfl⟩ : ∃ go, AO = some ⟨go, 0, none⟩ := by
     obtain ⟨ad, e, _⟩ := Kd.at_int (Kd.R_reads' HL.out.ord).2.2 (i : Int) (by omega) hltz
     subst e
     obtain ⟨g, rfl⟩ := Kd.R_head HL.out.ord
     exact ⟨g, rfl⟩
    have hmem : rd order i ∈ order := by
     unfold rd
     rw [Int.toNat_natCast, List.getD_eq_getElem?_getD, List.getElem?_eq_getElem hlt]
     exact List.getElem_mem _
    obtain ⟨s, hs⟩ : ∃ s : Nat, rd order i = s := ⟨(rd order i).toNat, by have := HOK.out.2 _ hmem; omega⟩
    have hsn : s < a.length := by have := HOK.out.2 _ hmem; omega
    obtain ⟨oc, of0⟩ := R_cellg HL.out.ord i hlt
    rw [hs] at oc
    obtain ⟨adn, A9, c9, en, hx9, hl9, hr9⟩ := at_L1 HR0.out (s : Int) (by omega) (by omega)
    subst en
    rw [Int.toNat_natCast] at hx9
    replace hx9 := (HL.out.below.cell (World.block_lt_of_cell? w _ hx9)).trans hx9
    have hrow := row_ok HG.out s hsn
    obtain ⟨l, hl⟩ : ∃ l, rd_L1 a s = l := ⟨_, rfl⟩
    rw [hl] at hx9 hl9 hr9 hrow
    have HGO2 := Aside0.mk (show leastGo a b kind k (x ++ [(rowUp kind order l l.length).1]) (y ++ [rdOf false b s]) (rowUp kind order l l.length).2 = fin by
     have h := HGO.out
     rw [leastGo, HXL.out, if_pos hlt, hs, hl] at h
     exact h)
    have HR9 := Aside0.mk hr9
    have HROW := Aside0.mk hrow
    have hl200 := hrow.1
    have HSX := Aside0.mk (show Int.toNat (s : Int) = s by simp)
    have HSO := Aside0.mk hs
    clear hr9 hrow hmem hs hl HGO
    have ox := (blk_cell HL.out.xblk 0).trans rfl
    go_upto_region 13 with fail
    have L13 := Aside0.mk HL.out.drew
    have N13 := Aside0.mk (Kd.S_drew HS.out)
    clear HL HS o0 ox
    refine wp_region_noPanic ?_
    refine start_ (n := 10) (S := fun w' => w'.cell? ⟨w.heap.size, 0, none⟩ = some (.slice (some adn) a.length c0_0) ∧ w'.cell? ⟨OB, 0, none⟩ = some (.slice (some ⟨go, 0, none⟩) order.length cO) ∧ w'.cell? ⟨go, i, none⟩ = some (.int .i64 s) ∧ w'.cell? (adn.add s) = some (.slice A9 l.length c9)) (ds := []) #[false, false, false, false, false, false, false, false, false, false] (by kernel_rfl) rfl rfl ⟨(blk_cell L13.out.xblk 0).trans rfl, (blk_cell L13.out.oblk 0).trans rfl, oc, hx9⟩ (fun hHeld => ?_); refine with_tabW least_tab13 least_bits13 (fun HT_ HW_ => ?_)
    generalize wr.drew = W13 at *
    refine pure_ (i := 0) (N := some 29) (v := ?_) (a' := ?_) #[true, false, false, false, false, false, false, false, false, false] rfl rfl (any_of HT_.out (by kernel_rfl)) (fun _ _ _ h => h) (Or.inl ⟨by rfl, ?_⟩) ?_ ?_
    rotate_left
    ·intro w'
     go_simp
     with_reducible rfl
    rotate_left
    ·simp only [Act.put, List.setIfInBounds_toArray, List.set_cons_zero, List.set_cons_succ, i64_w, i32_w]
     rfl
    refine take_ (i := 1) (N := some 30) (v := ?_) (a' := ?_) #[true, true, false, false, false, false, false, false, false, false] rfl rfl (take_ofW HT_.out HW_.out (by kernel_rfl)) (fun _ _ _ h => h) (Or.inl ⟨by rfl, ?_⟩) hHeld ?_ ?_
    rotate_left
    ·rintro w' ⟨s0, s1, s2, s3⟩
     go_simp
     with_reducible rfl
    rotate_left
    ·simp only [Act.put, List.setIfInBounds_toArray, List.set_cons_zero, List.set_cons_succ, i64_w, i32_w]
     rfl
    refine take_ (i := 2) (N := some 31) (v := ?_) (a' := ?_) #[true, true, true, false, false, false, false, false, false, false] rfl rfl (take_ofW HT_.out HW_.out (by kernel_rfl)) (fun _ _ _ h => h) (Or.inl ⟨by rfl, ?_⟩) hHeld ?_ ?_
    rotate_left
    ·rintro w' ⟨s0, s1, s2, s3⟩
     go_simp
     with_reducible rfl
    rotate_left
    ·simp only [Act.put, List.setIfInBounds_toArray, List.set_cons_zero, List.set_cons_succ, i64_w, i32_w]
     rfl
    refine pure_ (i := 3) (N := some 32) (v := ?_) (a' := ?_) #[true, true, true, true, false, false, false, false, false, false] rfl rfl (any_of HT_.out (by kernel_rfl)) (fun _ _ _ h => h) (Or.inl ⟨by rfl, ?_⟩) ?_ ?_
    rotate_left
    ·intro w'
     go_simp
     with_reducible rfl
    rotate_left
    ·simp only [Act.put, List.setIfInBounds_toArray, List.set_cons_zero, List.set_cons_succ, i64_w, i32_w]
     rfl
    refine pure_ (i := 4) (N := some 33) (v := ?_) (a' := ?_) #[true, true, true, true, true, false, false, false, false, false] rfl rfl (any_of HT_.out (by kernel_rfl)) (fun _ _ _ h => h) (Or.inl ⟨by rfl, ?_⟩) ?_ ?_
    rotate_left
    ·intro w'
     go_simp
     with_reducible rfl
    rotate_left
    ·simp only [Act.put, List.setIfInBounds_toArray, List.set_cons_zero, List.set_cons_succ, i64_w, i32_w]
     rfl
    refine take_ (i := 5) (N := some 34) (v := ?_) (a' := ?_) #[true, true, true, true, true, true, false, false, false, false] rfl rfl (take_ofW HT_.out HW_.out (by kernel_rfl)) (fun _ _ _ h => h) (Or.inl ⟨by rfl, ?_⟩) hHeld ?_ ?_
    rotate_left
    ·rintro w' ⟨s0, s1, s2, s3⟩
     go_simp
     with_reducible rfl
    rotate_left
    ·simp only [Act.put, List.setIfInBounds_toArray, List.set_cons_zero, List.set_cons_succ, i64_w, i32_w]
     rfl
    refine pure_ (i := 6) (N := some 35) (v := ?_) (a' := ?_) #[true, true, true, true, true, true, true, false, false, false] rfl rfl (any_of HT_.out (by kernel_rfl)) (fun _ _ _ h => h) (Or.inl ⟨by rfl, ?_⟩) ?_ ?_
    rotate_left
    ·intro w'
     go_simp
     with_reducible rfl
    rotate_left
    ·simp only [Act.put, List.setIfInBounds_toArray, List.set_cons_zero, List.set_cons_succ, i64_w, i32_w]
     rfl
    refine take_ (i := 7) (N := some 36) (v := ?_) (a' := ?_) #[true, true, true, true, true, true, true, true, false, false] rfl rfl (take_ofW HT_.out HW_.out (by kernel_rfl)) (fun _ _ _ h => h) (Or.inl ⟨by rfl, ?_⟩) hHeld ?_ ?_
    rotate_left
    ·rintro w' ⟨s0, s1, s2, s3⟩
     go_simp
     with_reducible rfl
    rotate_left
    ·simp only [Act.put, List.setIfInBounds_toArray, List.set_cons_zero, List.set_cons_succ, i64_w, i32_w]
     rfl
    refine pure_ (i := 8) (N := some 37) (v := ?_) (a' := ?_) #[true, true, true, true, true, true, true, true, true, false] rfl rfl (any_of HT_.out (by kernel_rfl)) (fun _ _ _ h => h) (Or.inl ⟨by rfl, ?_⟩) ?_ ?_
    rotate_left
    ·intro w'
     go_simp
     with_reducible rfl
    rotate_left
    ·simp only [Act.put, List.setIfInBounds_toArray, List.set_cons_zero, List.set_cons_succ, i64_w, i32_w]
     rfl
    refine pure_ (i := 9) (N := some 38) (v := ?_) (a' := ?_) #[true, true, true, true, true, true, true, true, true, true] rfl rfl (any_of HT_.out (by kernel_rfl)) (fun _ _ _ h => h) (Or.inl ⟨by rfl, ?_⟩) ?_ ?_
    rotate_left
    ·intro w'
     go_simp
     with_reducible rfl
    rotate_left
    ·simp only [Act.put, List.setIfInBounds_toArray, List.set_cons_zero, List.set_cons_succ, i64_w, i32_w]
     rfl
    refine done_ (done_of HT_.out (by kernel_rfl)) ?_
    refine NoPanic.normal ?_
    clear HT_ HW_ hHeld oc of0 hx9
    go_wp2_with fail
    obtain ⟨g1, hg1⟩ : ∃ g, gk = g := ⟨_, rfl⟩
    go_loopg [10, 38] (l.length + 1) (fun gk2 v10 v38 wr2 => ∃ (j : Nat) (row ord2 : List Int) (vO2 : Value), v38 = .int .i64 j ∧ j ≤ l.length ∧ l.length - j < gk2 ∧ Aside0 (rowUp kind order l j = (row, ord2)) ∧ Aside0 (Kd.R (Kd.int .i64) 3 wr2 w.heap.size (fun k => k ≠ gg ∧ some k ≠ vO2.ownBlock) v10 row) ∧ Aside0 (LInv w R D KB NB OB MB gg a.length (.slice (some adn) a.length c0_0) (.slice A0_1 b.length c0_1) kind vN vF vO2 y ord2 wr2) ∧ Aside0 (Kd.S (Kd.slice 3 (Kd.int .i64)) 33 wr2 w.heap.size (fun k => Far OB KB vO2 k ∧ some k ≠ (v10 : Value).ownBlock) vN x))
    case atStart => exact ⟨0, [], order, _, rfl, by omega, by omega, ⟨rfl⟩, ⟨Kd.R_nil _ _ _ _ _⟩, L13, ⟨Kd.S_mono N13.out (fun _ hk => ⟨hk, by simp [Value.ownBlock]⟩)⟩⟩
    case round =>
     clear L13 N13
     obtain ⟨j, row, ord2, vO2, rfl, hj, hgj, HRU, HW, HL, HS⟩ := hrel
     obtain ⟨A10, c10, rfl⟩ := Kd.R_slice HW.out
     have HRL := Aside0.mk (show row.length = j by have := rowUp_len kind order l j; rw [HRU.out] at this; exact this)
     have HO2 := Aside0.mk (show OrdOk a.length kind ord2 by have := rowUp_ok HOK.out HROW.out.2 j hj; rw [HRU.out] at this; exact this)
     have hol2 := HO2.out.len
     by_cases hlt2 : j < l.length
     ·have hltz2 : (j : Int) < (l.length : Int) := by omega
      have hC := Kd.C_below HR9.out HL.out.below
      obtain ⟨ad9, eA9, hx9⟩ := Kd.at_int hC (j : Int) (by omega) hltz2
      have hsl : rd l j ∈ l := by
       unfold rd
       rw [Int.toNat_natCast, List.getD_eq_getElem?_getD, List.getElem?_eq_getElem hlt2]
       exact List.getElem_mem _
      have hs0 := HROW.out.2 _ hsl
      obtain ⟨s2, hs2⟩ : ∃ s2 : Nat, rd l j = s2 := ⟨(rd l j).toNat, by omega⟩
      have hs2n : s2 < a.length := by omega
      subst eA9
      rw [Int.toNat_natCast, hs2] at hx9
      have HRU2 := Aside0.mk (show rowUp kind order l (j + 1) = (row ++ [metV kind ord2 s2], metO kind ord2 s2) by rw [rowUp, HRU.out, hs2])
      clear hC hsl hs0 hs2
      go_wp2_with fail
      refine (met_calls w.heap.size w kind ord2 gg a.length NB KB OB MB s2 vO2 wr hs2n h5000 hol2 HL.out.nblk HL.out.kblk HL.out.oblk HL.out.kindR HL.out.ord HL.out.num HWK.out HL.out.apart HL.out.below HL.out.base (by have := HL.out.hM; omega) (by have := HL.out.hO; omega)).mono ?_
      rintro e w6 ⟨rfl, vO3, h1, h2, h3, h4, h5, h6⟩
      have HL6 := Aside0.mk (HL.out.met h1 h2 h3 h4 h5 h6)
      have HW6 := Aside0.mk (R_met HW.out HL.out.num HL.out.oblk h4 h6)
      have HS6 := Aside0.mk (S_met HS.out HL.out.num h4 h6)
      clear h1 h2 h3 h4 h5 h6 HL HW HS
      have hgw := HL6.out.gg_lt
      have HOL := Aside0.mk (Kd.R_lt HL6.out.ord)
      go_wp2_with (at_builtin; go_loud (refine Kd.R_append (Kd.int .i64) (w0 := w) w.heap.size rfl (.tmp 42) (.tmp 46) 33 3 (.int .i64 0) 8 rfl Try.underlying33 info3 rfl (by decide) (by omega) _ row (metV kind ord2 s2) [.int .i64 (metV kind ord2 s2)] (fun k => k ≠ gg ∧ some k ≠ vO3.ownBlock) (fun _ => False) rfl rfl rfl (fun k hk => hk.elim) (fun k hk => ⟨by omega, fun e => by have := HOL.out k e.symm; omega⟩) HW6.out HL6.out.below HL6.out.below.size (by have := HRL.out; omega) ?_; intro v11 w11 hR11 hB11 hg11 hat11; have HW8 := Aside0.mk hR11; have HL8 := Aside0.mk (HL6.out.row HW6.out hg11); have HS8 := Aside0.mk (Kd.S_after (ok := fun k => Far OB KB vO3 k) HS6.out hg11 hat11); clear hR11 hB11 hg11 hat11))
      go_roundg (gk - 1)
      case measure => omega
      case rel => exact ⟨j + 1, _, _, vO3, by go_num, by omega, by omega, HRU2, HW8, HL8, HS8⟩
     ·obtain rfl : j = l.length := by omega
      have hlt3 : ¬ ((l.length : Nat) : Int) < (l.length : Int) := by omega
      obtain ⟨rr, hrr⟩ := rowUp_pre kind order l l.length
      rw [HRU.out] at hrr
      have HI2 := Aside0.mk (show i < ord2.length by have h := rowUp_mono kind order l l.length; rw [HRU.out] at h; exact Nat.lt_of_lt_of_le hlt h)
      have HRS := Aside0.mk (show rd ord2 i = s by rw [show ord2 = order ++ rr from hrr, rd_pre hlt]; exact HSO.out)
      clear hrr
      obtain ⟨adb, eb, hxb⟩ := Kd.at_bool HR1.out (s : Int) (by omega) (by have := HLN.out.1; omega)
      rw [Int.toNat_natCast] at hxb
      obtain ⟨q, hq⟩ : ∃ q, rdOf false b s = q := ⟨_, rfl⟩
      rw [hq] at hxb
      have HGO3 := Aside0.mk (show leastGo a b kind k (x ++ [row]) (y ++ [q]) ord2 = fin by have h := HGO2.out; rw [HRU.out, hq] at h; exact h)
      clear hq
      have HQB := Aside0.mk hxb
      clear hxb
      subst eb
      obtain ⟨AO2, cO2, rfl⟩ := Kd.R_slice HL.out.ord
      have hi2 := HI2.out
      have hsb : s < b.length := by have := HLN.out.1; omega
      obtain ⟨go2, rfl⟩ : ∃ go, AO2 = some ⟨go, 0, none⟩ := by
       obtain ⟨ad, e, _⟩ := Kd.at_int (Kd.R_reads' HL.out.ord).2.2 (i : Int) (by omega) (by omega)
       subst e
       obtain ⟨g, rfl⟩ := Kd.R_head HL.out.ord
       exact ⟨g, rfl⟩
      obtain ⟨AN, cN, rfl⟩ := Kd.S_slice HS.out
      obtain ⟨AF, cF, rfl⟩ := Kd.R_slice HL.out.fin
      obtain ⟨iN, hiN, hzN, hsN, hbN⟩ := info_parts info33
      obtain ⟨iB, hiB, hzB, hsB, hbB⟩ := info_parts info4
      have HOLb := Aside0.mk hol2
      clear HGO2 HRU hol2
      go_upto_region 18 with fail
      have L18 := Aside0.mk HL.out.drew
      have N18 := Aside0.mk (Kd.S_drew HS.out)
      have R18 := Aside0.mk (Kd.R_drew HW.out)
      clear HL HS HW
      refine wp_region_noPanic ?_
      refine start_ (n := 21) (S := fun w' => w'.cell? ⟨D, 0, none⟩ = some (.slice AN x.length cN) ∧ w'.cell? ⟨D, 1, none⟩ = some (.slice AF y.length cF) ∧ w'.cell? ⟨w.heap.size, 1, none⟩ = some (.slice (some adb) b.length c0_1) ∧ w'.cell? ⟨OB, 0, none⟩ = some (.slice (some ⟨go2, 0, none⟩) ord2.length cO2) ∧ w'.cell? ⟨go2, i, none⟩ = some (.int .i64 s) ∧ w'.cell? (adb.add s) = some (.bool q)) (ds := [18, 20]) #[false, false, false, false, false, false, false, false, false, false, false, false, false, false, false, false, false, false, false, false, false] (by kernel_rfl) rfl rfl (L18.out.pre.held HI2.out HRS.out HQB.out) (fun hHeld => ?_); refine with_tabW least_tab18 least_bits18 (fun HT_ HW_ => ?_)
      generalize wr.drew = W18 at *
      refine pure_ (i := 0) (N := some 49) (v := ?_) (a' := ?_) #[true, false, false, false, false, false, false, false, false, false, false, false, false, false, false, false, false, false, false, false, false] rfl rfl (any_of HT_.out (by kernel_rfl)) (fun _ _ _ h => h) (Or.inl ⟨by rfl, ?_⟩) ?_ ?_
      rotate_left
      ·intro w'
       go_simp
       with_reducible rfl
      rotate_left
      ·simp only [Act.put, List.setIfInBounds_toArray, List.set_cons_zero, List.set_cons_succ, i64_w, i32_w]
       rfl
      refine take_ (i := 1) (N := some 50) (v := ?_) (a' := ?_) #[true, true, false, false, false, false, false, false, false, false, false, false, false, false, false, false, false, false, false, false, false] rfl rfl (take_ofW HT_.out HW_.out (by kernel_rfl)) (fun _ _ _ h => h) (Or.inl ⟨by rfl, ?_⟩) hHeld ?_ ?_
      rotate_left
      ·rintro w' ⟨s0, s1, s2, s3, s4, s5⟩
       go_simp
       with_reducible rfl
      rotate_left
      ·simp only [Act.put, List.setIfInBounds_toArray, List.set_cons_zero, List.set_cons_succ, i64_w, i32_w]
       rfl
      refine pure_ (i := 2) (N := some 51) (v := ?_) (a' := ?_) #[true, true, true, false, false, false, false, false, false, false, false, false, false, false, false, false, false, false, false, false, false] rfl rfl (any_of HT_.out (by kernel_rfl)) (fun _ _ _ h => h) (Or.inl ⟨by rfl, ?_⟩) ?_ ?_
      rotate_left
      ·intro w'
       go_simp
       with_reducible rfl
      rotate_left
      ·simp only [Act.put, List.setIfInBounds_toArray, List.set_cons_zero, List.set_cons_succ, i64_w, i32_w]
       rfl
      refine pure_ (i := 5) (N := some 54) (v := ?_) (a' := ?_) #[true, true, true, false, false, true, false, false, false, false, false, false, false, false, false, false, false, false, false, false, false] rfl rfl (any_of HT_.out (by kernel_rfl)) (fun _ _ _ h => h) (Or.inl ⟨by rfl, ?_⟩) ?_ ?_
      rotate_left
      ·intro w'
       go_simp
       with_reducible rfl
      rotate_left
      ·simp only [Act.put, List.setIfInBounds_toArray, List.set_cons_zero, List.set_cons_succ, i64_w, i32_w]
       rfl
      refine take_ (i := 6) (N := some 55) (v := ?_) (a' := ?_) #[true, true, true, false, false, true, true, false, false, false, false, false, false, false, false, false, false, false, false, false, false] rfl rfl (take_ofW HT_.out HW_.out (by kernel_rfl)) (fun _ _ _ h => h) (Or.inl ⟨by rfl, ?_⟩) hHeld ?_ ?_
      rotate_left
      ·rintro w' ⟨s0, s1, s2, s3, s4, s5⟩
       go_simp
       with_reducible rfl
      rotate_left
      ·simp only [Act.put, List.setIfInBounds_toArray, List.set_cons_zero, List.set_cons_succ, i64_w, i32_w]
       rfl
      refine pure_ (i := 7) (N := some 56) (v := ?_) (a' := ?_) #[true, true, true, false, false, true, true, true, false, false, false, false, false, false, false, false, false, false, false, false, false] rfl rfl (any_of HT_.out (by kernel_rfl)) (fun _ _ _ h => h) (Or.inl ⟨by rfl, ?_⟩) ?_ ?_
      rotate_left
      ·intro w'
       go_simp
       with_reducible rfl
      rotate_left
      ·simp only [Act.put, List.setIfInBounds_toArray, List.set_cons_zero, List.set_cons_succ, i64_w, i32_w]
       rfl
      refine take_ (i := 8) (N := some 57) (v := ?_) (a' := ?_) #[true, true, true, false, false, true, true, true, true, false, false, false, false, false, false, false, false, false, false, false, false] rfl rfl (take_ofW HT_.out HW_.out (by kernel_rfl)) (fun _ _ _ h => h) (Or.inl ⟨by rfl, ?_⟩) hHeld ?_ ?_
      rotate_left
      ·rintro w' ⟨s0, s1, s2, s3, s4, s5⟩
       go_simp
       with_reducible rfl
      rotate_left
      ·simp only [Act.put, List.setIfInBounds_toArray, List.set_cons_zero, List.set_cons_succ, i64_w, i32_w]
       rfl
      refine take_ (i := 9) (N := some 58) (v := ?_) (a' := ?_) #[true, true, true, false, false, true, true, true, true, true, false, false, false, false, false, false, false, false, false, false, false] rfl rfl (take_ofW HT_.out HW_.out (by kernel_rfl)) (fun _ _ _ h => h) (Or.inl ⟨by rfl, ?_⟩) hHeld ?_ ?_
      rotate_left
      ·rintro w' ⟨s0, s1, s2, s3, s4, s5⟩
       go_simp
       with_reducible rfl
      rotate_left
      ·simp only [Act.put, List.setIfInBounds_toArray, List.set_cons_zero, List.set_cons_succ, i64_w, i32_w]
       rfl
      refine pure_ (i := 10) (N := some 59) (v := ?_) (a' := ?_) #[true, true, true, false, false, true, true, true, true, true, true, false, false, false, false, false, false, false, false, false, false] rfl rfl (any_of HT_.out (by kernel_rfl)) (fun _ _ _ h => h) (Or.inl ⟨by rfl, ?_⟩) ?_ ?_
      rotate_left
      ·intro w'
       go_simp
       with_reducible rfl
      rotate_left
      ·simp only [Act.put, List.setIfInBounds_toArray, List.set_cons_zero, List.set_cons_succ, i64_w, i32_w]
       rfl
      refine pure_ (i := 11) (N := some 60) (v := ?_) (a' := ?_) #[true, true, true, false, false, true, true, true, true, true, true, true, false, false, false, false, false, false, false, false, false] rfl rfl (any_of HT_.out (by kernel_rfl)) (fun _ _ _ h => h) (Or.inl ⟨by rfl, ?_⟩) ?_ ?_
      rotate_left
      ·intro w'
       go_simp
       with_reducible rfl
      rotate_left
      ·simp only [Act.put, List.setIfInBounds_toArray, List.set_cons_zero, List.set_cons_succ, i64_w, i32_w]
       rfl
      refine take_ (i := 12) (N := some 61) (v := ?_) (a' := ?_) #[true, true, true, false, false, true, true, true, true, true, true, true, true, false, false, false, false, false, false, false, false] rfl rfl (take_ofW HT_.out HW_.out (by kernel_rfl)) (fun _ _ _ h => h) (Or.inl ⟨by rfl, ?_⟩) hHeld ?_ ?_
      rotate_left
      ·rintro w' ⟨s0, s1, s2, s3, s4, s5⟩
       go_simp
       with_reducible rfl
      rotate_left
      ·simp only [Act.put, List.setIfInBounds_toArray, List.set_cons_zero, List.set_cons_succ, i64_w, i32_w]
       rfl
      refine pure_ (i := 13) (N := some 62) (v := ?_) (a' := ?_) #[true, true, true, false, false, true, true, true, true, true, true, true, true, true, false, false, false, false, false, false, false] rfl rfl (any_of HT_.out (by kernel_rfl)) (fun _ _ _ h => h) (Or.inl ⟨by rfl, ?_⟩) ?_ ?_
      rotate_left
      ·intro w'
       go_simp
       with_reducible rfl
      rotate_left
      ·simp only [Act.put, List.setIfInBounds_toArray, List.set_cons_zero, List.set_cons_succ, i64_w, i32_w]
       rfl
      refine take_ (i := 14) (N := some 63) (v := ?_) (a' := ?_) #[true, true, true, false, false, true, true, true, true, true, true, true, true, true, true, false, false, false, false, false, false] rfl rfl (take_ofW HT_.out HW_.out (by kernel_rfl)) (fun _ _ _ h => h) (Or.inl ⟨by rfl, ?_⟩) hHeld ?_ ?_
      rotate_left
      ·rintro w' ⟨s0, s1, s2, s3, s4, s5⟩
       go_simp
       with_reducible rfl
      rotate_left
      ·simp only [Act.put, List.setIfInBounds_toArray, List.set_cons_zero, List.set_cons_succ, i64_w, i32_w]
       rfl
      refine two_ (i := 3) (j := 15) (Ni := some 52) (Nj := some 64) #[true, true, true, true, false, true, true, true, true, true, true, true, true, true, true, false, false, false, false, false, false] #[true, true, true, false, false, true, true, true, true, true, true, true, true, true, true, true, false, false, false, false, false] rfl rfl rfl rfl (two_of HT_.out (by kernel_rfl)) (by decide) (by decide) (fun K hK => ?_) (fun K hK => ?_)
      ·refine step_list rfl (by rfl) ?_
       unfold Oper.wp
       go_simp
       have L19 := Aside0.mk (L18.out.alloc (.cells #[(Value.slice A10 row.length c10)] 33))
       have N19 := Aside0.mk (Kd.S_alloc N18.out (.cells #[(Value.slice A10 row.length c10)] 33))
       have R19 := Aside0.mk (Kd.R_alloc R18.out (.cells #[(Value.slice A10 row.length c10)] 33))
       have X3_19 := Aside0.mk (blk_new W18 (.cells #[(Value.slice A10 row.length c10)] 33))
       refine hK.out _ _ (L19.out.pre.held HI2.out HRS.out HQB.out) (fun hHeld => ?_)
       clear hK K
       obtain ⟨b3_19, hb3_19⟩ : ∃ n, W18.heap.size = n := ⟨_, rfl⟩
       rw [hb3_19] at X3_19 ⊢
       clear hb3_19
       generalize W18.alloc (.cells #[(Value.slice A10 row.length c10)] 33) = W19 at *
       refine two_ (i := 4) (j := 15) (Ni := some 53) (Nj := some 64) #[true, true, true, true, true, true, true, true, true, true, true, true, true, true, true, false, false, false, false, false, false] #[true, true, true, true, false, true, true, true, true, true, true, true, true, true, true, true, false, false, false, false, false] rfl rfl rfl rfl (two_of HT_.out (by kernel_rfl)) (by decide) (by decide) (fun K hK => ?_) (fun K hK => ?_)
       ·refine S_app_step (Kd.slice 3 (Kd.int .i64)) w.heap.size (by rfl) (.tmp 50) (.tmp 52) 22 33 iN (.slice none 0 0) 24 rfl Try.underlying22 hiN hzN hsN hbN rfl (by decide) _ x row [(Value.slice A10 row.length c10)] (fun k_ => Far OB KB (.slice (some ⟨go2, 0, none⟩) ord2.length cO2) k_) (fun k_ => some k_ = ((Value.slice A10 row.length c10) : Value).ownBlock) rfl ⟨b3_19, 0, none⟩ rfl (cell_one X3_19.out) (Kd.M_row (Kd.R_tight rfl R19.out)) (L19.out.far_row R19.out N19.out) L19.out.far_new N19.out L19.out.below.size (by have := HXL.out; unfold maxLen; omega) (by have := HXL.out; omega) ?_
        intro vN2 W20 hS20 hg20 _
        obtain ⟨AN2, cN2, eN⟩ := Kd.S_slice hS20
        obtain ⟨nN, hnN⟩ : ∃ n, (x ++ [row]).length = n := ⟨_, rfl⟩
        rw [hnN] at eN
        subst eN
        clear hnN
        have L20 := Aside0.mk (L19.out.next N19.out (fun _ hk => ⟨hk.1.1, hk.1.2.1⟩) hg20)
        have N20 := Aside0.mk hS20
        clear hS20 hg20
        refine hK.out _ _ (L20.out.pre.held HI2.out HRS.out HQB.out) (fun hHeld => ?_)
        clear hK K
        refine norm_ (a' := ?_) ?_ ?_
        rotate_left
        ·show Act.put _ (some 53) _ = _
         simp only [Act.put, List.setIfInBounds_toArray, List.set_cons_zero, List.set_cons_succ, i64_w, i32_w]
         rfl
        refine pure_ (i := 17) (N := some 66) (v := ?_) (a' := ?_) #[true, true, true, true, true, true, true, true, true, true, true, true, true, true, true, false, false, true, false, false, false] rfl rfl (any_of HT_.out (by kernel_rfl)) (fun _ _ _ h => h) (Or.inl ⟨by rfl, ?_⟩) ?_ ?_
        rotate_left
        ·intro w'
         go_simp
         with_reducible rfl
        rotate_left
        ·simp only [Act.put, List.setIfInBounds_toArray, List.set_cons_zero, List.set_cons_succ, i64_w, i32_w]
         rfl
        refine one_ (i := 15) (N := some 64) #[true, true, true, true, true, true, true, true, true, true, true, true, true, true, true, true, false, true, false, false, false] rfl rfl (one_of HT_.out (by kernel_rfl)) (by decide) (fun K hK => ?_)
        refine step_list rfl (by rfl) ?_
        unfold Oper.wp
        go_simp
        have L21 := Aside0.mk (L20.out.alloc (.cells #[Value.bool q] 4))
        have N21 := Aside0.mk (Kd.S_alloc N20.out (.cells #[Value.bool q] 4))
        have X9_21 := Aside0.mk (blk_new W20 (.cells #[Value.bool q] 4))
        refine hK.out _ _ (L21.out.pre.held HI2.out HRS.out HQB.out) (fun hHeld => ?_)
        clear hK K
        obtain ⟨b15_21, hb15_21⟩ : ∃ n, W20.heap.size = n := ⟨_, rfl⟩
        rw [hb15_21] at X9_21 ⊢
        clear hb15_21
        generalize W20.alloc (.cells #[Value.bool q] 4) = W21 at *
        refine one_ (i := 16) (N := some 65) #[true, true, true, true, true, true, true, true, true, true, true, true, true, true, true, true, true, true, false, false, false] rfl rfl (one_of HT_.out (by kernel_rfl)) (by decide) (fun K hK => ?_)
        refine R_app_step Kd.bool w.heap.size (by rfl) (.tmp 55) (.tmp 64) 23 4 iB (.bool false) 1 rfl Try.underlying23 hiB hzB hsB hbB rfl (by decide) _ y q [.bool q] (fun _ => True) (fun _ => False) rfl ⟨b15_21, 0, none⟩ rfl (cell_one X9_21.out) rfl (fun k hk => hk.elim) (fun _ _ => trivial) L21.out.fin L21.out.below.size (by have := HYL.out; unfold maxLen; omega) (by have := HYL.out; omega) ?_
        intro vF2 W22 hF22 hg22 _
        obtain ⟨AF2, cF2, eF⟩ := Kd.R_slice hF22
        obtain ⟨nF, hnF⟩ : ∃ n, (y ++ [q]).length = n := ⟨_, rfl⟩
        rw [hnF] at eF
        subst eF
        clear hnF
        have N22 := Aside0.mk (Kd.S_over' N21.out (Kd.R_typed L21.out.fin) (by decide) hg22)
        have HF := Aside0.mk hF22
        have HGF := Aside0.mk hg22
        have LL := L21
        have HPF := Aside0.mk (L21.out.preF hg22)
        clear hF22 hg22
        refine hK.out _ _ (HPF.out.held HI2.out HRS.out HQB.out) (fun hHeld => ?_)
        clear hK K
        refine norm_ (a' := ?_) ?_ ?_
        rotate_left
        ·show Act.put _ (some 65) _ = _
         simp only [Act.put, List.setIfInBounds_toArray, List.set_cons_zero, List.set_cons_succ, i64_w, i32_w]
         rfl
        refine last_ (i := 18) (N := none) #[true, true, true, true, true, true, true, true, true, true, true, true, true, true, true, true, true, true, true, false, false] rfl rfl (one_of HT_.out (by kernel_rfl)) (by decide) (fun K hK => ?_)
        refine step_list rfl (by rfl) ?_
        have c0 := (blk_cell HPF.out.d 0).trans rfl
        have z0 := blk_frozen HPF.out.d 0
        have HDC := Aside0.mk (blk_put HPF.out.d 0 (.slice AN2 nN cN2) rfl)
        unfold Oper.wp
        go_simp
        refine hK.out _ _ ?_
        clear hK K c0 z0
        refine pure_ (i := 19) (N := some 67) (v := ?_) (a' := ?_) #[true, true, true, true, true, true, true, true, true, true, true, true, true, true, true, true, true, true, true, true, false] rfl rfl (any_of HT_.out (by kernel_rfl)) (fun _ _ _ h => h) (Or.inl ⟨by rfl, ?_⟩) ?_ ?_
        rotate_left
        ·intro w'
         go_simp
         with_reducible rfl
        rotate_left
        ·simp only [Act.put, List.setIfInBounds_toArray, List.set_cons_zero, List.set_cons_succ, i64_w, i32_w]
         rfl
        refine last_ (i := 20) (N := none) #[true, true, true, true, true, true, true, true, true, true, true, true, true, true, true, true, true, true, true, true, true] rfl rfl (one_of HT_.out (by kernel_rfl)) (by decide) (fun K hK => ?_)
        refine step_list rfl (by rfl) ?_
        have c1 := (blk_cell HDC.out 1).trans rfl
        have z1 := blk_frozen HDC.out 1
        unfold Oper.wp
        go_simp
        refine hK.out _ _ ?_
        clear hK K c1 z1
        refine done_ (done_of HT_.out (by kernel_rfl)) ?_
        refine NoPanic.normal ?_
        have HLF := Aside0.mk (LL.out.done (vN' := .slice AN2 nN cN2) HGF.out HF.out)
        have HSF := Aside0.mk (S_set25 (S_set25 N22.out HPF.out.d (by decide) 0 (.slice AN2 nN cN2)) HDC.out (by decide) 1 (.slice AF2 nF cF2))
        clear HT_ HW_
        go_wp2_with fail
        go_roundg (g1 - 1)
        case measure => omega
        case rel => exact ⟨i + 1, k, x ++ [row], y ++ [q], ord2, _, _, _, by go_num, by omega, by omega, by have := HI2.out; omega, ⟨by rw [List.length_append, HXL.out]; rfl⟩, ⟨by rw [List.length_append, HYL.out]; rfl⟩, HGO3, HO2, HLF, HSF⟩
       ·refine step_list rfl (by rfl) ?_
        unfold Oper.wp
        go_simp
        have L23 := Aside0.mk (L19.out.alloc (.cells #[Value.bool q] 4))
        have N23 := Aside0.mk (Kd.S_alloc N19.out (.cells #[Value.bool q] 4))
        have R23 := Aside0.mk (Kd.R_alloc R19.out (.cells #[Value.bool q] 4))
        have X9_23 := Aside0.mk (blk_new W19 (.cells #[Value.bool q] 4))
        have X3_23 := Aside0.mk (blk_alloc X3_19.out (.cells #[Value.bool q] 4))
        refine hK.out _ _ (L23.out.pre.held HI2.out HRS.out HQB.out) (fun hHeld => ?_)
        clear hK K
        obtain ⟨b15_23, hb15_23⟩ : ∃ n, W19.heap.size = n := ⟨_, rfl⟩
        rw [hb15_23] at X9_23 ⊢
        clear hb15_23
        generalize W19.alloc (.cells #[Value.bool q] 4) = W23 at *
        refine one_ (i := 4) (N := some 53) #[true, true, true, true, true, true, true, true, true, true, true, true, true, true, true, true, false, false, false, false, false] rfl rfl (one_of HT_.out (by kernel_rfl)) (by decide) (fun K hK => ?_)
        refine S_app_step (Kd.slice 3 (Kd.int .i64)) w.heap.size (by rfl) (.tmp 50) (.tmp 52) 22 33 iN (.slice none 0 0) 24 rfl Try.underlying22 hiN hzN hsN hbN rfl (by decide) _ x row [(Value.slice A10 row.length c10)] (fun k_ => Far OB KB (.slice (some ⟨go2, 0, none⟩) ord2.length cO2) k_) (fun k_ => some k_ = ((Value.slice A10 row.length c10) : Value).ownBlock) rfl ⟨b3_19, 0, none⟩ rfl (cell_one X3_23.out) (Kd.M_row (Kd.R_tight rfl R23.out)) (L23.out.far_row R23.out N23.out) L23.out.far_new N23.out L23.out.below.size (by have := HXL.out; unfold maxLen; omega) (by have := HXL.out; omega) ?_
        intro vN2 W24 hS24 hg24 _
        obtain ⟨AN2, cN2, eN⟩ := Kd.S_slice hS24
        obtain ⟨nN, hnN⟩ : ∃ n, (x ++ [row]).length = n := ⟨_, rfl⟩
        rw [hnN] at eN
        subst eN
        clear hnN
        have L24 := Aside0.mk (L23.out.next N23.out (fun _ hk => ⟨hk.1.1, hk.1.2.1⟩) hg24)
        have N24 := Aside0.mk hS24
        have X9_24 := Aside0.mk (blk_grown X9_23.out hg24 (Kd.S_ne N23.out X9_23.out (by decide)))
        clear hS24 hg24
        refine hK.out _ _ (L24.out.pre.held HI2.out HRS.out HQB.out) (fun hHeld => ?_)
        clear hK K
        refine norm_ (a' := ?_) ?_ ?_
        rotate_left
        ·show Act.put _ (some 53) _ = _
         simp only [Act.put, List.setIfInBounds_toArray, List.set_cons_zero, List.set_cons_succ, i64_w, i32_w]
         rfl
        refine pure_ (i := 17) (N := some 66) (v := ?_) (a' := ?_) #[true, true, true, true, true, true, true, true, true, true, true, true, true, true, true, true, false, true, false, false, false] rfl rfl (any_of HT_.out (by kernel_rfl)) (fun _ _ _ h => h) (Or.inl ⟨by rfl, ?_⟩) ?_ ?_
        rotate_left
        ·intro w'
         go_simp
         with_reducible rfl
        rotate_left
        ·simp only [Act.put, List.setIfInBounds_toArray, List.set_cons_zero, List.set_cons_succ, i64_w, i32_w]
         rfl
        refine one_ (i := 16) (N := some 65) #[true, true, true, true, true, true, true, true, true, true, true, true, true, true, true, true, true, true, false, false, false] rfl rfl (one_of HT_.out (by kernel_rfl)) (by decide) (fun K hK => ?_)
        refine R_app_step Kd.bool w.heap.size (by rfl) (.tmp 55) (.tmp 64) 23 4 iB (.bool false) 1 rfl Try.underlying23 hiB hzB hsB hbB rfl (by decide) _ y q [.bool q] (fun _ => True) (fun _ => False) rfl ⟨b15_23, 0, none⟩ rfl (cell_one X9_24.out) rfl (fun k hk => hk.elim) (fun _ _ => trivial) L24.out.fin L24.out.below.size (by have := HYL.out; unfold maxLen; omega) (by have := HYL.out; omega) ?_
        intro vF2 W25 hF25 hg25 _
        obtain ⟨AF2, cF2, eF⟩ := Kd.R_slice hF25
        obtain ⟨nF, hnF⟩ : ∃ n, (y ++ [q]).length = n := ⟨_, rfl⟩
        rw [hnF] at eF
        subst eF
        clear hnF
        have N25 := Aside0.mk (Kd.S_over' N24.out (Kd.R_typed L24.out.fin) (by decide) hg25)
        have HF := Aside0.mk hF25
        have HGF := Aside0.mk hg25
        have LL := L24
        have HPF := Aside0.mk (L24.out.preF hg25)
        clear hF25 hg25
        refine hK.out _ _ (HPF.out.held HI2.out HRS.out HQB.out) (fun hHeld => ?_)
        clear hK K
        refine norm_ (a' := ?_) ?_ ?_
        rotate_left
        ·show Act.put _ (some 65) _ = _
         simp only [Act.put, List.setIfInBounds_toArray, List.set_cons_zero, List.set_cons_succ, i64_w, i32_w]
         rfl
        refine last_ (i := 18) (N := none) #[true, true, true, true, true, true, true, true, true, true, true, true, true, true, true, true, true, true, true, false, false] rfl rfl (one_of HT_.out (by kernel_rfl)) (by decide) (fun K hK => ?_)
        refine step_list rfl (by rfl) ?_
        have c0 := (blk_cell HPF.out.d 0).trans rfl
        have z0 := blk_frozen HPF.out.d 0
        have HDC := Aside0.mk (blk_put HPF.out.d 0 (.slice AN2 nN cN2) rfl)
        unfold Oper.wp
        go_simp
        refine hK.out _ _ ?_
        clear hK K c0 z0
        refine pure_ (i := 19) (N := some 67) (v := ?_) (a' := ?_) #[true, true, true, true, true, true, true, true, true, true, true, true, true, true, true, true, true, true, true, true, false] rfl rfl (any_of HT_.out (by kernel_rfl)) (fun _ _ _ h => h) (Or.inl ⟨by rfl, ?_⟩) ?_ ?_
        rotate_left
        ·intro w'
         go_simp
         with_reducible rfl
        rotate_left
        ·simp only [Act.put, List.setIfInBounds_toArray, List.set_cons_zero, List.set_cons_succ, i64_w, i32_w]
         rfl
        refine last_ (i := 20) (N := none) #[true, true, true, true, true, true, true, true, true, true, true, true, true, true, true, true, true, true, true, true, true] rfl rfl (one_of HT_.out (by kernel_rfl)) (by decide) (fun K hK => ?_)
        refine step_list rfl (by rfl) ?_
        have c1 := (blk_cell HDC.out 1).trans rfl
        have z1 := blk_frozen HDC.out 1
        unfold Oper.wp
        go_simp
        refine hK.out _ _ ?_
        clear hK K c1 z1
        refine done_ (done_of HT_.out (by kernel_rfl)) ?_
        refine NoPanic.normal ?_
        have HLF := Aside0.mk (LL.out.done (vN' := .slice AN2 nN cN2) HGF.out HF.out)
        have HSF := Aside0.mk (S_set25 (S_set25 N25.out HPF.out.d (by decide) 0 (.slice AN2 nN cN2)) HDC.out (by decide) 1 (.slice AF2 nF cF2))
        clear HT_ HW_
        go_wp2_with fail
        go_roundg (g1 - 1)
        case measure => omega
        case rel => exact ⟨i + 1, k, x ++ [row], y ++ [q], ord2, _, _, _, by go_num, by omega, by omega, by have := HI2.out; omega, ⟨by rw [List.length_append, HXL.out]; rfl⟩, ⟨by rw [List.length_append, HYL.out]; rfl⟩, HGO3, HO2, HLF, HSF⟩
      ·refine step_list rfl (by rfl) ?_
       unfold Oper.wp
       go_simp
       have L26 := Aside0.mk (L18.out.alloc (.cells #[Value.bool q] 4))
       have N26 := Aside0.mk (Kd.S_alloc N18.out (.cells #[Value.bool q] 4))
       have R26 := Aside0.mk (Kd.R_alloc R18.out (.cells #[Value.bool q] 4))
       have X9_26 := Aside0.mk (blk_new W18 (.cells #[Value.bool q] 4))
       refine hK.out _ _ (L26.out.pre.held HI2.out HRS.out HQB.out) (fun hHeld => ?_)
       clear hK K
       obtain ⟨b15_26, hb15_26⟩ : ∃ n, W18.heap.size = n := ⟨_, rfl⟩
       rw [hb15_26] at X9_26 ⊢
       clear hb15_26
       generalize W18.alloc (.cells #[Value.bool q] 4) = W26 at *
       refine one_ (i := 3) (N := some 52) #[true, true, true, true, false, true, true, true, true, true, true, true, true, true, true, true, false, false, false, false, false] rfl rfl (one_of HT_.out (by kernel_rfl)) (by decide) (fun K hK => ?_)
       refine step_list rfl (by rfl) ?_
       unfold Oper.wp
       go_simp
       have L27 := Aside0.mk (L26.out.alloc (.cells #[(Value.slice A10 row.length c10)] 33))
       have N27 := Aside0.mk (Kd.S_alloc N26.out (.cells #[(Value.slice A10 row.length c10)] 33))
       have R27 := Aside0.mk (Kd.R_alloc R26.out (.cells #[(Value.slice A10 row.length c10)] 33))
       have X3_27 := Aside0.mk (blk_new W26 (.cells #[(Value.slice A10 row.length c10)] 33))
       have X9_27 := Aside0.mk (blk_alloc X9_26.out (.cells #[(Value.slice A10 row.length c10)] 33))
       refine hK.out _ _ (L27.out.pre.held HI2.out HRS.out HQB.out) (fun hHeld => ?_)
       clear hK K
       obtain ⟨b3_27, hb3_27⟩ : ∃ n, W26.heap.size = n := ⟨_, rfl⟩
       rw [hb3_27] at X3_27 ⊢
       clear hb3_27
       generalize W26.alloc (.cells #[(Value.slice A10 row.length c10)] 33) = W27 at *
       refine one_ (i := 4) (N := some 53) #[true, true, true, true, true, true, true, true, true, true, true, true, true, true, true, true, false, false, false, false, false] rfl rfl (one_of HT_.out (by kernel_rfl)) (by decide) (fun K hK => ?_)
       refine S_app_step (Kd.slice 3 (Kd.int .i64)) w.heap.size (by rfl) (.tmp 50) (.tmp 52) 22 33 iN (.slice none 0 0) 24 rfl Try.underlying22 hiN hzN hsN hbN rfl (by decide) _ x row [(Value.slice A10 row.length c10)] (fun k_ => Far OB KB (.slice (some ⟨go2, 0, none⟩) ord2.length cO2) k_) (fun k_ => some k_ = ((Value.slice A10 row.length c10) : Value).ownBlock) rfl ⟨b3_27, 0, none⟩ rfl (cell_one X3_27.out) (Kd.M_row (Kd.R_tight rfl R27.out)) (L27.out.far_row R27.out N27.out) L27.out.far_new N27.out L27.out.below.size (by have := HXL.out; unfold maxLen; omega) (by have := HXL.out; omega) ?_
       intro vN2 W28 hS28 hg28 _
       obtain ⟨AN2, cN2, eN⟩ := Kd.S_slice hS28
       obtain ⟨nN, hnN⟩ : ∃ n, (x ++ [row]).length = n := ⟨_, rfl⟩
       rw [hnN] at eN
       subst eN
       clear hnN
       have L28 := Aside0.mk (L27.out.next N27.out (fun _ hk => ⟨hk.1.1, hk.1.2.1⟩) hg28)
       have N28 := Aside0.mk hS28
       have X9_28 := Aside0.mk (blk_grown X9_27.out hg28 (Kd.S_ne N27.out X9_27.out (by decide)))
       clear hS28 hg28
       refine hK.out _ _ (L28.out.pre.held HI2.out HRS.out HQB.out) (fun hHeld => ?_)
       clear hK K
       refine norm_ (a' := ?_) ?_ ?_
       rotate_left
       ·show Act.put _ (some 53) _ = _
        simp only [Act.put, List.setIfInBounds_toArray, List.set_cons_zero, List.set_cons_succ, i64_w, i32_w]
        rfl
       refine pure_ (i := 17) (N := some 66) (v := ?_) (a' := ?_) #[true, true, true, true, true, true, true, true, true, true, true, true, true, true, true, true, false, true, false, false, false] rfl rfl (any_of HT_.out (by kernel_rfl)) (fun _ _ _ h => h) (Or.inl ⟨by rfl, ?_⟩) ?_ ?_
       rotate_left
       ·intro w'
        go_simp
        with_reducible rfl
       rotate_left
       ·simp only [Act.put, List.setIfInBounds_toArray, List.set_cons_zero, List.set_cons_succ, i64_w, i32_w]
        rfl
       refine one_ (i := 16) (N := some 65) #[true, true, true, true, true, true, true, true, true, true, true, true, true, true, true, true, true, true, false, false, false] rfl rfl (one_of HT_.out (by kernel_rfl)) (by decide) (fun K hK => ?_)
       refine R_app_step Kd.bool w.heap.size (by rfl) (.tmp 55) (.tmp 64) 23 4 iB (.bool false) 1 rfl Try.underlying23 hiB hzB hsB hbB rfl (by decide) _ y q [.bool q] (fun _ => True) (fun _ => False) rfl ⟨b15_26, 0, none⟩ rfl (cell_one X9_28.out) rfl (fun k hk => hk.elim) (fun _ _ => trivial) L28.out.fin L28.out.below.size (by have := HYL.out; unfold maxLen; omega) (by have := HYL.out; omega) ?_
       intro vF2 W29 hF29 hg29 _
       obtain ⟨AF2, cF2, eF⟩ := Kd.R_slice hF29
       obtain ⟨nF, hnF⟩ : ∃ n, (y ++ [q]).length = n := ⟨_, rfl⟩
       rw [hnF] at eF
       subst eF
       clear hnF
       have N29 := Aside0.mk (Kd.S_over' N28.out (Kd.R_typed L28.out.fin) (by decide) hg29)
       have HF := Aside0.mk hF29
       have HGF := Aside0.mk hg29
       have LL := L28
       have HPF := Aside0.mk (L28.out.preF hg29)
       clear hF29 hg29
       refine hK.out _ _ (HPF.out.held HI2.out HRS.out HQB.out) (fun hHeld => ?_)
       clear hK K
       refine norm_ (a' := ?_) ?_ ?_
       rotate_left
       ·show Act.put _ (some 65) _ = _
        simp only [Act.put, List.setIfInBounds_toArray, List.set_cons_zero, List.set_cons_succ, i64_w, i32_w]
        rfl
       refine last_ (i := 18) (N := none) #[true, true, true, true, true, true, true, true, true, true, true, true, true, true, true, true, true, true, true, false, false] rfl rfl (one_of HT_.out (by kernel_rfl)) (by decide) (fun K hK => ?_)
       refine step_list rfl (by rfl) ?_
       have c0 := (blk_cell HPF.out.d 0).trans rfl
       have z0 := blk_frozen HPF.out.d 0
       have HDC := Aside0.mk (blk_put HPF.out.d 0 (.slice AN2 nN cN2) rfl)
       unfold Oper.wp
       go_simp
       refine hK.out _ _ ?_
       clear hK K c0 z0
       refine pure_ (i := 19) (N := some 67) (v := ?_) (a' := ?_) #[true, true, true, true, true, true, true, true, true, true, true, true, true, true, true, true, true, true, true, true, false] rfl rfl (any_of HT_.out (by kernel_rfl)) (fun _ _ _ h => h) (Or.inl ⟨by rfl, ?_⟩) ?_ ?_
       rotate_left
       ·intro w'
        go_simp
        with_reducible rfl
       rotate_left
       ·simp only [Act.put, List.setIfInBounds_toArray, List.set_cons_zero, List.set_cons_succ, i64_w, i32_w]
        rfl
       refine last_ (i := 20) (N := none) #[true, true, true, true, true, true, true, true, true, true, true, true, true, true, true, true, true, true, true, true, true] rfl rfl (one_of HT_.out (by kernel_rfl)) (by decide) (fun K hK => ?_)
       refine step_list rfl (by rfl) ?_
       have c1 := (blk_cell HDC.out 1).trans rfl
       have z1 := blk_frozen HDC.out 1
       unfold Oper.wp
       go_simp
       refine hK.out _ _ ?_
       clear hK K c1 z1
       refine done_ (done_of HT_.out (by kernel_rfl)) ?_
       refine NoPanic.normal ?_
       have HLF := Aside0.mk (LL.out.done (vN' := .slice AN2 nN cN2) HGF.out HF.out)
       have HSF := Aside0.mk (S_set25 (S_set25 N29.out HPF.out.d (by decide) 0 (.slice AN2 nN cN2)) HDC.out (by decide) 1 (.slice AF2 nF cF2))
       clear HT_ HW_
       go_wp2_with fail
       go_roundg (g1 - 1)
       case measure => omega
       case rel => exact ⟨i + 1, k, x ++ [row], y ++ [q], ord2, _, _, _, by go_num, by omega, by omega, by have := HI2.out; omega, ⟨by rw [List.length_append, HXL.out]; rfl⟩, ⟨by rw [List.length_append, HYL.out]; rfl⟩, HGO3, HO2, HLF, HSF⟩
   ·have hio2 : i = order.length := by omega
    have hlt0 : ¬ (i : Int) < (order.length : Int) := by omega
    have HF2 := Aside0.mk (show fin = (x, y) by
     have h := HGO.out
     cases k with
     | zero => exact h.symm
     | succ k => rw [leastGo, HXL.out, if_neg hlt] at h; exact h.symm)
    have HOKr := Aside0.mk (show leastRes a b kind = (x, y, 0) by rw [HE.out, HF2.out])
    have HBX := Aside0.mk HL.out.below
    have HSX := Aside0.mk (Kd.S_mono HS.out (fun _ _ => trivial) : Kd.S (Kd.slice 3 (Kd.int .i64)) 33 wr w.heap.size (fun _ => True) vN x)
    have HFX := Aside0.mk HL.out.fin
    have HRX := Aside0.mk HL.out.res
    have HDX := Aside0.mk HL.out.dblk
    clear HF2 HGO HS HL HOK hio2
    obtain ⟨AN, cN, rfl⟩ := Kd.S_slice HSX.out
    obtain ⟨AF, cF, rfl⟩ := Kd.R_slice HFX.out
    have d0 := (blk_cell HDX.out 0).trans rfl
    have d1 := (blk_cell HDX.out 1).trans rfl
    have r0 := (blk_cell HRX.out 0).trans rfl
    have rf0 := blk_frozen HRX.out 0
    have HR5 := Aside0.mk (blk_put HRX.out 0 (.slice AN x.length cN) rfl)
    have r1 := (blk_cell HR5.out 1).trans rfl
    have rf1 := blk_frozen HR5.out 1
    go_wp2_with fail
    try rw [Exit.noGoto_ret]
    exact least_ok HOKr.out HRX.out (by omega) HBX.out HSX.out HFX.out rfl rfl rfl

/-- The contract: asked of states that are right, with rounds enough for their classes. -/
def least_Least.f (a : List (List Int)) (b : List Bool) : Option (List (List Int) × List Bool × Int) :=
 if rightB a b = true then (classesGo a (a.length + 2) (kindUp b b.length) 0).map (fun kind => ((leastOf a b kind).1, (leastOf a b kind).2, 0)) else some ([], [], 1)
theorem least_Least.calls (A0_0 : Option Addr) (c0_0 : Nat) (l0_0 : List (List Int)) (A0_1 : Option Addr) (c0_1 : Nat) (l0_1 : List Bool) (r1 : List (List Int)) (r2 : List Bool) (r3 : Int) (w : World) (hr0_0 : Kd.C (Kd.slice 3 (Kd.int .i64)) w A0_0 l0_0.length l0_0) (hc0_0 : l0_0.length ≤ c0_0) (hr0_1 : Kd.C Kd.bool w A0_1 l0_1.length l0_1) (hc0_1 : l0_1.length ≤ c0_1) (h : least_Least.f l0_0 l0_1 = some (r1, r2, r3)) :
  Calls Try.prog 11 #[.agg #[.slice A0_0 l0_0.length c0_0, .slice A0_1 l0_1.length c0_1]] w fun e w' => ∃ v0_ v1_ : Value, e = .returned (.tuple #[.agg #[v0_, v1_], .int .i64 r3]) ∧ Kd.S (Kd.slice 3 (Kd.int .i64)) 33 w' w.heap.size (fun _ => True) v0_ r1 ∧ Kd.R Kd.bool 4 w' w.heap.size (fun _ => True) v1_ r2 ∧ Below w.heap.size w w' := by
 unfold least_Least.f at h
 by_cases hg : rightB l0_0 l0_1 = true
 ·rw [if_pos hg] at h
  cases hk : classesGo l0_0 (l0_0.length + 2) (kindUp l0_1 l0_1.length) 0 with
  | none => rw [hk] at h; cases h
  | some kind =>
   rw [hk, Option.map_some] at h
   have h := Option.some.inj h
   have := least_calls A0_0 c0_0 l0_0 A0_1 c0_1 l0_1 w hr0_0 hc0_0 hr0_1 hc0_1 (l0_0.length + 2) kind (fun _ => hk)
   unfold LeastPost leastRes at this
   rw [if_pos hg, h] at this
   exact this
 ·rw [if_neg hg] at h
  have h := Option.some.inj h
  have := least_calls A0_0 c0_0 l0_0 A0_1 c0_1 l0_1 w hr0_0 hc0_0 hr0_1 hc0_1 0 [] (fun h => absurd h hg)
  unfold LeastPost leastRes at this
  rw [if_neg hg, h] at this
  exact this
end Go.Proofs.Ytadhjjfodpmelaa.Print
