/- subset.Build. -/
import Derived.Test.YtemlgmkbonpniaaSBS
import Derived.Test.YtemlgmkbonpniaaRBuild
import Derived.Test.YtemlgmkbonpniaaPrint33
namespace Go.Proofs.Ytemlgmkbonpniaa.Print
open Go.Shelf Go.RowKit Go.Maps Go.Proofs.YtemlgmkbonpniaaW.PrintWords Go.Proofs.YtemlgmkbonpniaaW.PrintLast Go.Proofs.YtemlgmkbonpniaaW.PrintMore
set_option linter.unusedVariables false
set_option linter.unusedSimpArgs false
def sba_T15 : Bool × List (List Nat × List Nat) := (true, [([], []), ([], []), ([], []), ([1, 2], [1, 2]), ([3], [3]), ([], []), ([0, 4, 5], [0, 4, 5]), ([6, 6, 0, 1, 2, 3, 4, 5, 6], [6])])
def sba_B15 : List Nat := [0, 0, 0, 6, 14, 0, 63, 127]
theorem sba_tab15 : rtab .any (opsOf Try.f32 15) = sba_T15 := by kernel_rfl
theorem sba_bits15 : waitsOk sba_T15.2 sba_B15 = true := by kernel_rfl
def sbb_T22 : Bool × List (List Nat × List Nat) := (true, [([], []), ([0], [0]), ([], []), ([2], [2]), ([1, 3], [1, 3]), ([], []), ([5], [5]), ([], []), ([], []), ([], []), ([8, 9], [8, 9]), ([10], [10]), ([7, 11, 4], [7, 11]), ([12], [12]), ([6, 13, 12], [6, 13]), ([0, 1, 2, 3, 4, 5, 6], []), ([15, 4, 14, 0, 1, 2, 3, 4, 5, 6], [4, 15]), ([0, 1, 2, 3, 4, 5, 6, 7, 8, 9, 10, 11, 12, 13, 14, 15, 16], []), ([17, 14, 16, 0, 1, 2, 3, 4, 5, 6, 7, 8, 9, 10, 11, 12, 13, 14, 15, 16], [14, 17])])
def sbb_B22 : List Nat := [0, 1, 0, 4, 15, 0, 32, 0, 0, 0, 768, 1792, 3999, 8095, 16383, 127, 65535, 131071, 262143]
theorem sbb_tab22 : rtab .any (opsOf Try.f32 22) = sbb_T22 := by kernel_rfl
theorem sbb_bits22 : waitsOk sbb_T22.2 sbb_B22 = true := by kernel_rfl
section
variable {W W' w0 : World} {RB b0 e NB DB KB MP SB : Nat} {u0 u1 a0 a1 v : Value} {α : Type} {d : Kd α} {ok : Nat → Prop} {xs : List α} {box : Array Value} {sts next : List (List Int)} {fin : List Bool} {row : List Int} {vs vn vf vr dn df : Value}
theorem blk2 (h : W.heap[RB]? = some (.cells #[a0, a1] 47 (0, 0))) : ((W.setCell ⟨RB, 0, none⟩ u0).setCell ⟨RB, 1, none⟩ u1).heap[RB]? = some (.cells #[u0, u1] 47 (0, 0)) := by
 have h1 : (W.setCell ⟨RB, 0, none⟩ u0).heap[RB]? = some (.cells #[u0, a1] 47 (0, 0)) := blk_put h 0 u0 rfl
 exact blk_put (cs' := #[u0, u1]) h1 1 u1 rfl
theorem below2 (h : b0 ≤ RB) : Below b0 W ((W.setCell ⟨RB, 0, none⟩ u0).setCell ⟨RB, 1, none⟩ u1) := by
 have one : ∀ (V : World) (i : Nat) (u : Value), Below b0 V (V.setCell ⟨RB, i, none⟩ u) := fun V i u => ⟨rfl, rfl, rfl, by simp [World.setCell], fun j hj => Below.heap_setCell _ _ _ j (by show j ≠ RB; omega)⟩
 exact (one _ _ _).trans (one _ _ _)
theorem R_set2 (h : d.R e W b0 ok v xs) (hb : W.heap[RB]? = some (.cells #[a0, a1] 47 (0, 0))) (ht : ∀ q, q ∈ e :: d.E → q ≠ 47) : d.R e ((W.setCell ⟨RB, 0, none⟩ u0).setCell ⟨RB, 1, none⟩ u1) b0 ok v xs :=
 Kd.R_set (Kd.R_set h hb ht 0 u0) (blk_put hb 0 u0 rfl) ht 1 u1
theorem rdL3_stR (sts : List (List Int)) (s : Nat) : rd_L3 sts (s : Int) = stR sts s := by unfold rd_L3 stR; rw [Int.toNat_natCast]
theorem SBW.fresh (h : SBW w0 NB RB DB KB MP SB box sts next fin row vs vn vf vr dn df W) {k : Nat} (hk : W.heap.size ≤ k) : (some k ≠ vn.ownBlock ∧ some k ≠ vr.ownBlock) ∧ some k ≠ vs.ownBlock :=
 ⟨⟨fun e => absurd (Kd.R_lt h.nx k e.symm) (by omega), fun e => absurd (Kd.R_lt h.ro k e.symm) (by omega)⟩, fun e => absurd (Kd.R_lt h.mi.rows k e.symm) (by omega)⟩
theorem SBW.rowFree (h : SBW w0 NB RB DB KB MP SB box sts next fin row vs vn vf vr dn df W) {k : Nat} (hk : some k = vr.ownBlock) : some k ≠ vs.ownBlock ∧ some k ≠ vn.ownBlock := by
 obtain ⟨cs, hc⟩ := Kd.R_typed h.ro k hk.symm
 exact ⟨Kd.R_ne h.mi.rows hc (by decide), Kd.R_ne h.nx hc (by decide)⟩
theorem grown_cell {p : Addr} {row : Option Nat} (hg : W.grownBy W' row) (h : p.block < W.heap.size ∧ some p.block ≠ row) : W'.cell? p = W.cell? p := by
 unfold World.cell?
 rw [hg.block p.block h.1 h.2]
theorem SBW.adFree {ad : Addr} {n c i : Nat} (h : SBW w0 NB RB DB KB MP SB box sts next fin row (.slice (some ad) n c) vn vf vr dn df W) : (ad.add i).block < W.heap.size ∧ some (ad.add i).block ≠ vn.ownBlock := by
 obtain ⟨g, rfl⟩ := Kd.R_head h.mi.rows
 have e : (Value.slice (some ⟨g, 0, none⟩) n c).ownBlock = some g := rfl
 have eb : ((⟨g, 0, none⟩ : Addr).add i).block = g := by cases i <;> rfl
 rw [eb]
 exact ⟨Kd.R_lt h.mi.rows g e, (h.mi.rows.1 g e).1⟩
theorem SBW.adFree2 {ad : Addr} {n c i : Nat} (h : SBW w0 NB RB DB KB MP SB box sts next fin row (.slice (some ad) n c) vn vf vr dn df W) : (ad.add i).block < W.heap.size ∧ some (ad.add i).block ≠ vf.ownBlock := by
 obtain ⟨g, rfl⟩ := Kd.R_head h.mi.rows
 have e : (Value.slice (some ⟨g, 0, none⟩) n c).ownBlock = some g := rfl
 obtain ⟨cs, hc⟩ := Kd.R_typed h.mi.rows g e
 have eb : ((⟨g, 0, none⟩ : Addr).add i).block = g := by cases i <;> rfl
 rw [eb]
 exact ⟨Kd.R_lt h.mi.rows g e, Kd.R_ne h.fi hc (by decide)⟩
theorem SBW.readRow {ad : Addr} {n c s ca : Nat} {Aa : Option Addr} {a : List Int} (h : SBW w0 NB RB DB KB MP SB box sts next fin row (.slice (some ad) n c) vn vf vr dn df W) (hs : s < sts.length) (ha : stR sts s = a) (hx : W.cell? (ad.add s) = some (.slice Aa a.length ca)) : Kd.C (Kd.int .i64) W Aa a.length a := by
 have hn := (Kd.R_reads' h.mi.rows).1
 obtain ⟨ad2, A2, c2, ea, hxa, hla, hia⟩ := at_L3 (Kd.R_reads' h.mi.rows).2.2 (s : Int) (Int.natCast_nonneg s) (by omega)
 rw [Int.toNat_natCast] at hxa
 rw [rdL3_stR, ha] at hxa hia
 injection ea with ea
 rw [← ea, hx] at hxa
 injection hxa with hxa
 injection hxa with h1 h2 h3
 rw [h1]
 exact hia
theorem rows_two {W : World} {A1 A2 : Option Addr} {c1 c2 b1 b2 : Nat} {x y : List Int} {ok1 ok2 : Nat → Prop} (h1 : Kd.R (Kd.int .i64) 3 W b1 ok1 (.slice A1 x.length c1) x) (h2 : Kd.R (Kd.int .i64) 3 W b2 ok2 (.slice A2 y.length c2) y) : RowsC (W.alloc (.cells #[.slice A1 x.length c1, .slice A2 y.length c2] 27)) W.heap.size [x, y] := by
 have hb := below_alloc (Below.refl W.heap.size W) (.cells #[.slice A1 x.length c1, .slice A2 y.length c2] 27)
 have hn := blk_new W (.cells #[.slice A1 x.length c1, .slice A2 y.length c2] 27)
 refine ⟨blk_lt hn, fun i hi => ?_⟩
 match i, hi with
 | 0, _ => exact ⟨A1, c1, (blk_cell hn 0).trans rfl, Kd.C_below (Kd.R_reads' h1).2.2 hb, (Kd.R_reads' h1).2.1⟩
 | 1, _ => exact ⟨A2, c2, (blk_cell hn 1).trans rfl, Kd.C_below (Kd.R_reads' h2).2.2 hb, (Kd.R_reads' h2).2.1⟩
theorem cat2_calls (y x : List Int) (hx : x = 0 :: y) (X : Nat) (W : World) (hX : RowsC W X [[0], y]) (hy : y.length ≤ 300) : Calls Try.prog 62 #[.slice (some ⟨X, 0, none⟩) 2 2] W fun e w' => ∃ A c, e = .returned (.slice A x.length c) ∧ Kd.R (Kd.int .i64) 3 w' W.heap.size (fun _ => True) (.slice A x.length c) x ∧ Below W.heap.size W w' := by
 have e : ([[0], y] : List (List Int)).flatten = x := by rw [hx]; simp
 have h := concatS_calls X 2 2 [[0], y] rfl W hX (by simp) (by rw [e, hx, List.length_cons]; omega)
 rw [e] at h
 exact h
/-- The closure met, among what Build keeps. -/
theorem met_sbw (sts : List (List Int)) (AS : Option Addr) (cS : Nat) (A : Option Addr) (c : Nat) (x : List Int) (h : SBW w0 NB RB DB KB MP SB box sts next fin row (.slice AS sts.length cS) vn vf vr dn df W) (N : Nat) (hN : ∀ k, N ≤ k → (some k ≠ vn.ownBlock ∧ some k ≠ vr.ownBlock) ∧ some k ≠ (.slice AS sts.length cS : Value).ownBlock) (hN1 : N ≤ W.heap.size) (hN0 : w0.heap.size ≤ N)
  (hR : Kd.R (Kd.int .i64) 3 W N (fun _ => True) (.slice A x.length c) x) (hsm : ∀ l ∈ sts, Small l) (hx : Small x) (hln : sts.length < 1000000) (hxl : x.length < 1000000) :
  Calls Try.prog 60 #[.slice A x.length c, .pointer (some ⟨KB, 0, none⟩), .pointer (some ⟨SB, 0, none⟩)] W fun e w' => ∃ A' c', e = .returned (.int .i64 ((metR sts x).1 : Int)) ∧ SBW w0 NB RB DB KB MP SB box (metR sts x).2 next fin row (.slice A' (metR sts x).2.length c') vn vf vr dn df w' := by
 refine (met_calls (b0 := w0.heap.size) sts AS cS _ (fun k => N ≤ k) A c x W h.mi hsm hx (Kd.R_lower (Kd.R_mono (Kd.R_bound hR) (fun k hk => hk.2.1)) hN0) (fun k hk => (hN k hk).1) (fun k hk => (hN k hk).2) (fun k hk => (h.fresh hk).1) hln hxl h.bw.size).mono ?_
 rintro e w' ⟨A', c', rfl, hm, hat, hk⟩
 exact ⟨A', c', rfl, h.met hm hat hk⟩
end
def SPost (W : World) (d : Dt) (e : Ending) (w' : World) : Prop := ∃ v0_ v1_ : Value, e = .returned (.tuple #[.agg #[v0_, v1_], .int .i64 d.2.2]) ∧ Kd.R (Kd.slice 3 (Kd.int .i64)) 27 w' W.heap.size (fun _ => True) v0_ d.1 ∧ Kd.R Kd.bool 4 w' W.heap.size (fun _ => True) v1_ d.2.1 ∧ Below W.heap.size W w'
set_option maxHeartbeats 32000000 in
set_option maxRecDepth 100000 in
theorem sbuild_calls (r : Bt) (hA : Auto r) (A1 A2 A3 A4 Am : Option Addr) (c1 c2 c3 c4 cm : Nat) (masks : List Int) (free : Bool) (lim : Int) (W : World) (h1 : Kd.C (Kd.int .i64) W A1 r.2.1.length r.2.1) (g1 : r.2.1.length ≤ c1) (h2 : Kd.C (Kd.int .i64) W A2 r.2.2.1.length r.2.2.1) (g2 : r.2.2.1.length ≤ c2) (h3 : Kd.C (Kd.int .i64) W A3 r.2.2.2.1.length r.2.2.2.1) (g3 : r.2.2.2.1.length ≤ c3) (h4 : Kd.C (Kd.slice 3 (Kd.int .i64)) W A4 r.2.2.2.2.1.length r.2.2.2.2.1) (g4 : r.2.2.2.2.1.length ≤ c4) (hm : Kd.C (Kd.int .u64) W Am masks.length masks) :
  Calls Try.prog 32 #[.agg #[.bool r.1, .slice A1 r.2.1.length c1, .slice A2 r.2.2.1.length c2, .slice A3 r.2.2.2.1.length c3, .slice A4 r.2.2.2.2.1.length c4], .slice Am masks.length cm, .bool free, .int .i64 lim] W (SPost W (subsetR r masks free lim)) := by
 have HA := Aside0.mk hA
 have H1 := Aside0.mk h1
 have H2 := Aside0.mk h2
 have H3 := Aside0.mk h3
 have H4 := Aside0.mk h4
 have G1 := Aside0.mk g1
 have G2 := Aside0.mk g2
 have G3 := Aside0.mk g3
 have G4 := Aside0.mk g4
 have HM := Aside0.mk hm
 clear hA h1 h2 h3 h4 g1 g2 g3 g4 hm
 go_enter Try.func32, Try.ntmps32
 go_upto_region 1 with fail
 have hsz : (W.alloc (.cells #[.bool r.1, .slice A1 r.2.1.length c1, .slice A2 r.2.2.1.length c2, .slice A3 r.2.2.2.1.length c3, .slice A4 r.2.2.2.2.1.length c4] 30)).heap.size = W.heap.size + 1 := Array.size_push _
 have HNB := Aside0.mk (blk_below (blk_new W (.cells #[.bool r.1, .slice A1 r.2.1.length c1, .slice A2 r.2.2.1.length c2, .slice A3 r.2.2.2.1.length c3, .slice A4 r.2.2.2.2.1.length c4] 30)) (below_alloc (Below.refl _ _) (.cells #[.slice none 0 0, .slice none 0 0] 47)))
 have HRB := Aside0.mk (blk_new (W.alloc (.cells #[.bool r.1, .slice A1 r.2.1.length c1, .slice A2 r.2.2.1.length c2, .slice A3 r.2.2.2.1.length c3, .slice A4 r.2.2.2.2.1.length c4] 30)) (.cells #[.slice none 0 0, .slice none 0 0] 47))
 rw [hsz] at HRB
 have HB2 := Aside0.mk (below_alloc (below_alloc (Below.refl W.heap.size W) (.cells #[.bool r.1, .slice A1 r.2.1.length c1, .slice A2 r.2.2.1.length c2, .slice A3 r.2.2.2.1.length c3, .slice A4 r.2.2.2.2.1.length c4] 30)) (.cells #[.slice none 0 0, .slice none 0 0] 47))
 have LRB := Aside0.mk (show W.heap.size ≤ W.heap.size + 1 from Nat.le_succ _)
 have LNB := Aside0.mk (Nat.le_refl W.heap.size)
 clear hsz
 obtain ⟨RB, hRB⟩ : ∃ n, W.heap.size + 1 = n := ⟨_, rfl⟩
 obtain ⟨NB, hNB⟩ : ∃ n, n = W.heap.size := ⟨_, rfl⟩
 obtain ⟨W2, hW2⟩ : ∃ w, (W.alloc (.cells #[.bool r.1, .slice A1 r.2.1.length c1, .slice A2 r.2.2.1.length c2, .slice A3 r.2.2.2.1.length c3, .slice A4 r.2.2.2.2.1.length c4] 30)).alloc (.cells #[.slice none 0 0, .slice none 0 0] 47) = w := ⟨_, rfl⟩
 rw [hW2, ← hNB] at HNB
 rw [hRB, hW2] at HRB
 rw [hW2] at HB2
 rw [hRB] at LRB
 replace LNB : Aside0 (W.heap.size ≤ NB) := ⟨by rw [hNB]; exact Nat.le_refl _⟩
 rw [hW2]
 rw [hRB, ← hNB]
 clear hRB hNB hW2
 by_cases q1 : masks.length < 1
 ·have f1 : (masks.length : Int) < 1 := by omega
  have f2 : decide ((masks.length : Int) < 1) = true := decide_eq_true f1
  have y0 := (blk_cell HRB.out 0).trans rfl
  have y1 := (blk_cell HRB.out 1).trans rfl
  have g0 := blk_frozen HRB.out 0
  have g1 := blk_frozen HRB.out 1
  go_wp2_with fail
  clear y0 y1 g0 g1
  refine bodyPost_ret (results_ct rfl _ _ RB 47 #[.slice none 0 0, .slice none 0 0] (0, 0) _ rfl (blk2 (u0 := .slice none 0 0) (u1 := .slice none 0 0) HRB.out) Try.underlying47 rfl (by kernel_rfl)) rfl ?_
  rw [show subsetR r masks free lim = ([], [], 1) from if_pos (.inl q1)]
  exact ⟨.slice none 0 0, .slice none 0 0, rfl, Kd.R_nil _ _ _ _ _, Kd.R_nil _ _ _ _ _, HB2.out.trans (below2 LRB.out)⟩
 have f1 : ¬ (masks.length : Int) < 1 := by omega
 have f2 : decide ((masks.length : Int) < 1) = false := decide_eq_false f1
 by_cases q2 : 200 < masks.length
 ·have g1 : (masks.length : Int) > 200 := by omega
  have g2 : decide ((masks.length : Int) > 200) = true := decide_eq_true g1
  have g3 : decide (200 < (masks.length : Int)) = true := decide_eq_true g1
  have y0 := (blk_cell HRB.out 0).trans rfl
  have y1 := (blk_cell HRB.out 1).trans rfl
  have g0 := blk_frozen HRB.out 0
  have g1 := blk_frozen HRB.out 1
  go_wp2_with fail
  clear y0 y1 g0 g1
  refine bodyPost_ret (results_ct rfl _ _ RB 47 #[.slice none 0 0, .slice none 0 0] (0, 0) _ rfl (blk2 (u0 := .slice none 0 0) (u1 := .slice none 0 0) HRB.out) Try.underlying47 rfl (by kernel_rfl)) rfl ?_
  rw [show subsetR r masks free lim = ([], [], 1) from if_pos (.inr (.inl q2))]
  exact ⟨.slice none 0 0, .slice none 0 0, rfl, Kd.R_nil _ _ _ _ _, Kd.R_nil _ _ _ _ _, HB2.out.trans (below2 LRB.out)⟩
 have e1 : ¬ (masks.length : Int) > 200 := by omega
 have e2 : decide ((masks.length : Int) > 200) = false := decide_eq_false e1
 have e3 : decide (200 < (masks.length : Int)) = false := decide_eq_false e1
 by_cases q3 : lim < 1
 ·have i1 : decide (lim < 1) = true := decide_eq_true q3
  have y0 := (blk_cell HRB.out 0).trans rfl
  have y1 := (blk_cell HRB.out 1).trans rfl
  have g0 := blk_frozen HRB.out 0
  have g1 := blk_frozen HRB.out 1
  go_wp2_with fail
  clear y0 y1 g0 g1
  refine bodyPost_ret (results_ct rfl _ _ RB 47 #[.slice none 0 0, .slice none 0 0] (0, 0) _ rfl (blk2 (u0 := .slice none 0 0) (u1 := .slice none 0 0) HRB.out) Try.underlying47 rfl (by kernel_rfl)) rfl ?_
  rw [show subsetR r masks free lim = ([], [], 1) from if_pos (.inr (.inr (.inl q3)))]
  exact ⟨.slice none 0 0, .slice none 0 0, rfl, Kd.R_nil _ _ _ _ _, Kd.R_nil _ _ _ _ _, HB2.out.trans (below2 LRB.out)⟩
 have i1 : decide (lim < 1) = false := decide_eq_false q3
 by_cases q4 : 5000 < lim
 ·have i2 : decide (lim > 5000) = true := decide_eq_true q4
  have i3 : decide (5000 < lim) = true := decide_eq_true q4
  have y0 := (blk_cell HRB.out 0).trans rfl
  have y1 := (blk_cell HRB.out 1).trans rfl
  have g0 := blk_frozen HRB.out 0
  have g1 := blk_frozen HRB.out 1
  go_wp2_with fail
  clear y0 y1 g0 g1
  refine bodyPost_ret (results_ct rfl _ _ RB 47 #[.slice none 0 0, .slice none 0 0] (0, 0) _ rfl (blk2 (u0 := .slice none 0 0) (u1 := .slice none 0 0) HRB.out) Try.underlying47 rfl (by kernel_rfl)) rfl ?_
  rw [show subsetR r masks free lim = ([], [], 1) from if_pos (.inr (.inr (.inr q4)))]
  exact ⟨.slice none 0 0, .slice none 0 0, rfl, Kd.R_nil _ _ _ _ _, Kd.R_nil _ _ _ _ _, HB2.out.trans (below2 LRB.out)⟩
 have i2 : decide (lim > 5000) = false := decide_eq_false q4
 have i3 : decide (5000 < lim) = false := decide_eq_false q4
 have HML := Aside0.mk (show 1 ≤ masks.length ∧ masks.length ≤ 200 by omega)
 have HLIM := Aside0.mk (show 1 ≤ lim ∧ lim ≤ 5000 by omega)
 have HRES := Aside0.mk (show subsetR r masks free lim = goD r free lim masks (lim.toNat + 1) 0 [[0]] [] [] from if_neg (by omega))
 go_upto_region 3 with fail
 clear f1 f2 e1 e2 e3 i1 i2 i3 q1 q2 q3 q4
 go_upto_region 4 with fail
 have hbn := below_alloc (Below.refl W2.heap.size W2) (.cells #[.slice none 0 0, .slice none 0 0] 47)
 have HB3 := Aside0.mk (HB2.out.trans (hbn.mono HB2.out.size))
 have HNB' := Aside0.mk (blk_below HNB.out hbn)
 have HRB' := Aside0.mk (blk_below HRB.out hbn)
 have HDB := Aside0.mk (blk_new W2 (.cells #[.slice none 0 0, .slice none 0 0] 47))
 have LDB := Aside0.mk (show W.heap.size ≤ W2.heap.size from HB2.out.size)
 have HNE0 := Aside0.mk (show RB ≠ W2.heap.size from Nat.ne_of_lt (blk_lt HRB.out))
 obtain ⟨DB, hDB⟩ : ∃ n, W2.heap.size = n := ⟨_, rfl⟩
 obtain ⟨W3, hW3⟩ : ∃ w, W2.alloc (.cells #[.slice none 0 0, .slice none 0 0] 47) = w := ⟨_, rfl⟩
 rw [hDB] at HDB LDB HNE0
 rw [hW3] at HB3 HDB HNB' HRB'
 rw [hW3]
 try rw [hDB]
 clear hDB hW3 hbn HB2 HNB HRB
 have HNB := Aside0.mk HNB'.out
 have HRB := Aside0.mk HRB'.out
 clear HNB' HRB'
 go_upto_region 5 with fail
 have hbn := below_alloc (Below.refl W3.heap.size W3) (.cells #[.slice none 0 0] 28)
 have HB4 := Aside0.mk (HB3.out.trans (hbn.mono HB3.out.size))
 have HNB' := Aside0.mk (blk_below HNB.out hbn)
 have HRB' := Aside0.mk (blk_below HRB.out hbn)
 have HDB' := Aside0.mk (blk_below HDB.out hbn)
 have HSB := Aside0.mk (blk_new W3 (.cells #[.slice none 0 0] 28))
 have LSB := Aside0.mk (show W.heap.size ≤ W3.heap.size from HB3.out.size)
 obtain ⟨SB, hSB⟩ : ∃ n, W3.heap.size = n := ⟨_, rfl⟩
 obtain ⟨W4, hW4⟩ : ∃ w, W3.alloc (.cells #[.slice none 0 0] 28) = w := ⟨_, rfl⟩
 rw [hSB] at HSB LSB
 rw [hW4] at HB4 HSB HNB' HRB' HDB'
 rw [hW4]
 try rw [hSB]
 clear hSB hW4 hbn HB3 HNB HRB HDB
 have HNB := Aside0.mk HNB'.out
 have HRB := Aside0.mk HRB'.out
 have HDB := Aside0.mk HDB'.out
 clear HNB' HRB' HDB'
 have hmm := @run_makeMap Try.prog
 go_upto_region 6 with fail
 clear hmm
 have hba := below_alloc (Below.refl W4.heap.size W4) (.map #[] 0)
 have hbb := below_alloc (Below.refl (W4.alloc (.map #[] 0)).heap.size (W4.alloc (.map #[] 0))) (.cells #[.map (some W4.heap.size)] 84)
 have hsz : (W4.alloc (.map #[] 0)).heap.size = W4.heap.size + 1 := Array.size_push _
 have hbn := hba.trans (hbb.mono hba.size)
 have HB5 := Aside0.mk (HB4.out.trans (hbn.mono HB4.out.size))
 have HNB' := Aside0.mk (blk_below HNB.out hbn)
 have HRB' := Aside0.mk (blk_below HRB.out hbn)
 have HDB' := Aside0.mk (blk_below HDB.out hbn)
 have HSB' := Aside0.mk (blk_below HSB.out hbn)
 have HMP := Aside0.mk ((MapK.made (enc := Value.string) (okK := fun s => s.size ≤ maxLen) W4).move (W' := (W4.alloc (.map #[] 0)).alloc (.cells #[.map (some W4.heap.size)] 84)) (hbb.block _ (by rw [hsz]; exact Nat.lt_succ_self _)))
 have HKB := Aside0.mk (blk_new (W4.alloc (.map #[] 0)) (.cells #[.map (some W4.heap.size)] 84))
 rw [hsz] at HKB
 have LKB := Aside0.mk (show W.heap.size ≤ W4.heap.size + 1 from Nat.le_trans HB4.out.size (Nat.le_succ _))
 have LMP := Aside0.mk (show W.heap.size ≤ W4.heap.size from HB4.out.size)
 obtain ⟨KB, hKB⟩ : ∃ n, W4.heap.size + 1 = n := ⟨_, rfl⟩
 obtain ⟨MP, hMP⟩ : ∃ n, W4.heap.size = n := ⟨_, rfl⟩
 obtain ⟨W5, hW5⟩ : ∃ w, (W4.alloc (.map #[] 0)).alloc (.cells #[.map (some W4.heap.size)] 84) = w := ⟨_, rfl⟩
 rw [hW5] at HB5 HNB' HRB' HDB' HSB' HMP HKB
 rw [hKB] at HKB LKB
 rw [hMP] at HMP HKB LMP
 rw [hW5]
 try rw [hKB]
 try rw [hMP]
 clear hKB hMP hW5 hba hbb hbn hsz HB4 HNB HRB HDB HSB
 have HS5 := Aside0.mk (show SBW W NB RB DB KB MP SB #[.bool r.1, .slice A1 r.2.1.length c1, .slice A2 r.2.2.1.length c2, .slice A3 r.2.2.2.1.length c3, .slice A4 r.2.2.2.2.1.length c4] [] [] [] [] nilV nilV nilV nilV nilV nilV W5 from ⟨HB5.out, HNB'.out, HRB'.out, HDB'.out, ⟨HKB.out, ⟨_, HMP.out, fun s v => ⟨(fun h => by cases h), fun ⟨i, hi, _⟩ => absurd hi (Nat.not_lt_zero i)⟩⟩, HSB'.out, Kd.R_nil _ _ _ _ _, ⟨LKB.out, LMP.out, LSB.out⟩⟩, Kd.R_nil _ _ _ _ _, Kd.R_nil _ _ _ _ _, Kd.R_nil _ _ _ _ _, ⟨LNB.out, LRB.out, LDB.out, HNE0.out⟩⟩)
 clear HB5 HNB' HRB' HDB' HSB' HMP HKB LNB LDB LSB LKB LMP HNE0
 have eg : ∀ args w, (callFunc 60 args).run Try.prog w = .ok (.enter 60 args) w := enters_of Try.func60 (by kernel_rfl) rfl
 go_wp2_with (go_at_call 25; refine (follow_Begin.calls [0] W5 rfl).mono ?_; rintro e W6 ⟨v0, rfl, ho, hb⟩; obtain ⟨A9, c9, rfl⟩ := Kd.R_slice ho; have HS6 := Aside0.mk (HS5.out.below hb); have HO9 := Aside0.mk ho; have HN9 := Aside0.mk (show ∀ k, W5.heap.size ≤ k → _ from fun k hk => HS5.out.fresh hk); have HSZ6 := Aside0.mk hb.size; clear ho hb)
 refine (met_sbw [] none 0 A9 c9 [0] HS6.out W5.heap.size HN9.out HSZ6.out HS5.out.bw.size HO9.out (fun l hl => by cases hl) (fun t ht => by rw [List.mem_singleton.1 ht]; omega) (by simp) (by simp)).mono ?_
 rintro e W7 ⟨AS0, cS0, rfl, hs7⟩
 have HS7 := Aside0.mk hs7
 rw [show metR [] [0] = (0, [[0]]) from rfl] at HS7
 clear hs7 HS5 HS6 HO9 HN9 HSZ6
 go_wp2_with fail
 go_loopg [14] (lim.toNat + 1) (fun kq v14 w' => ∃ (s : Nat) (sts next : List (List Int)) (fin : List Bool) (AS AN AF : Option Addr) (cS cN cF : Nat), v14 = .int .i64 (s : Int) ∧ Aside0 (SBW W NB RB DB KB MP SB #[.bool r.1, .slice A1 r.2.1.length c1, .slice A2 r.2.2.1.length c2, .slice A3 r.2.2.2.1.length c3, .slice A4 r.2.2.2.2.1.length c4] sts next fin [] (.slice AS sts.length cS) (.slice AN next.length cN) (.slice AF fin.length cF) nilV (.slice AN next.length cN) (.slice AF fin.length cF) w') ∧ Aside0 (StsOk r lim sts) ∧ Aside0 (goD r free lim masks kq s sts next fin = subsetR r masks free lim) ∧ Aside0 (s ≤ sts.length) ∧ Aside0 (s + kq = lim.toNat + 1) ∧ Aside0 (next.length = s ∧ fin.length = s))
 case atStart => exact ⟨0, [[0]], [], [], AS0, none, none, cS0, 0, 0, rfl, HS7, ⟨⟨by simp, by have := HLIM.out; simp; omega, fun l hl => by rw [List.mem_singleton.1 hl]; exact ⟨fun t ht => by rw [List.mem_singleton.1 ht]; omega, by simp⟩⟩⟩, ⟨HRES.out.symm⟩, ⟨Nat.zero_le _⟩, ⟨Nat.zero_add _⟩, ⟨rfl, rfl⟩⟩
 case round =>
  obtain ⟨s, sts, next, fin, AS, AN, AF, cS, cN, cF, rfl, HS, HOK, HG, HSL, HK, HNL⟩ := hrel
  obtain ⟨g1, hg1⟩ : ∃ g, gk = g + 1 := ⟨gk - 1, by have := HK.out; have := HSL.out; have := HOK.out.len; omega⟩
  subst hg1
  have n0 := (blk_cell HS.out.mi.sb 0).trans rfl
  by_cases q0 : s < sts.length
  case neg =>
   have f1 : ¬ (s : Int) < (sts.length : Int) := by omega
   have f2 : decide ((s : Int) < (sts.length : Int)) = false := decide_eq_false f1
   have HE := Aside0.mk (show subsetR r masks free lim = (next, fin, 0) by rw [← HG.out, goD, if_neg q0])
   clear q0
   have d0 := (blk_cell HS.out.db 0).trans rfl
   have d1 := (blk_cell HS.out.db 1).trans rfl
   have y0 := (blk_cell HS.out.rb 0).trans rfl
   have y1 := (blk_cell HS.out.rb 1).trans rfl
   have g0 := blk_frozen HS.out.rb 0
   have g2 := blk_frozen HS.out.rb 1
   have hne : RB ≠ DB := HS.out.lo.2.2.2
   have hne2 : DB ≠ RB := fun e => HS.out.lo.2.2.2 e.symm
   go_wp2_with fail
   clear d0 d1 y0 y1 g0 g2 n0 hne hne2
   refine bodyPost_ret (results_ct rfl _ _ RB 47 #[.slice AN next.length cN, .slice AF fin.length cF] (0, 0) _ rfl (blk2 (u0 := (.slice AN next.length cN)) (u1 := (.slice AF fin.length cF)) HS.out.rb) Try.underlying47 rfl (by kernel_rfl)) rfl ?_
   rw [HE.out]
   exact ⟨_, _, rfl, Kd.R_mono (R_set2 HS.out.nx HS.out.rb (fun q hq => by simp [kL, Kd.slice, Kd.int, Kd.scalar] at hq; omega)) (fun _ _ => trivial), R_set2 HS.out.fi HS.out.rb (fun q hq => by simp [Kd.bool, Kd.scalar] at hq; omega), HS.out.bw.trans (below2 HS.out.lo.2.1)⟩
  case pos =>
   have f1 : (s : Int) < (sts.length : Int) := by omega
   have f2 : decide ((s : Int) < (sts.length : Int)) = true := decide_eq_true f1
   have HSLT := Aside0.mk q0
   clear q0
   obtain ⟨a, ha⟩ : ∃ a, a = stR sts s := ⟨_, rfl⟩
   have HAO := Aside0.mk (show OkSt r a by rw [ha]; exact HOK.out.good _ (stR_mem HSLT.out))
   obtain ⟨rr, hrr⟩ : ∃ rr, rr = rowGo r free lim a masks sts [] := ⟨_, rfl⟩
   have HGR := Aside0.mk (show rr.elim ([], [], 8) (fun t => goD r free lim masks g1 (s + 1) t.1 (next ++ [t.2]) (fin ++ [endR r.1 r.2.2.2.1 a])) = subsetR r masks free lim by rw [← HG.out, goD, if_pos HSLT.out, ← ha, ← hrr]; cases rr <;> rfl)
   have HRR := Aside0.mk hrr.symm
   have HAE := Aside0.mk ha
   clear ha hrr HG
   go_wp2_with fail
   clear f1 f2 n0
   go_loopg [15, 49] masks.length (fun kq v15 v49 w' => ∃ (i : Nat) (st2 : List (List Int)) (row : List Int) (A2s AR : Option Addr) (c2s cR : Nat), v15 = .slice AR row.length cR ∧ v49 = .int .i64 (i : Int) ∧ Aside0 (SBW W NB RB DB KB MP SB #[.bool r.1, .slice A1 r.2.1.length c1, .slice A2 r.2.2.1.length c2, .slice A3 r.2.2.2.1.length c3, .slice A4 r.2.2.2.2.1.length c4] st2 next fin row (.slice A2s st2.length c2s) (.slice AN next.length cN) (.slice AF fin.length cF) (.slice AR row.length cR) (.slice AN next.length cN) (.slice AF fin.length cF) w') ∧ Aside0 (StsOk r lim st2) ∧ Aside0 (rowGo r free lim a (masks.drop i) st2 row = rr) ∧ Aside0 (s < st2.length ∧ stR st2 s = a) ∧ Aside0 (i + kq = masks.length) ∧ Aside0 (row.length = i))
   case atStart => exact ⟨0, sts, [], AS, none, cS, 0, rfl, rfl, HS, HOK, ⟨HRR.out⟩, ⟨HSLT.out, HAE.out.symm⟩, ⟨Nat.zero_add _⟩, ⟨rfl⟩⟩
   case round =>
    clear HS HOK HRR HAE HSLT
    obtain ⟨i, st2, row, A2s, AR, c2s, cR, rfl, rfl, HS, HOK, HRR, HST, HKI, HRL⟩ := hrel
    have HSL2 := Aside0.mk (show s < 5000 by have := HST.out.1; have := HOK.out.len; have := HLIM.out; omega)
    obtain ⟨ad, Aa, ca, ea, hxa, hla, hia⟩ := at_L3 (Kd.R_reads' HS.out.mi.rows).2.2 (s : Int) (Int.natCast_nonneg s) (by have := HST.out.1; omega)
    rw [Int.toNat_natCast] at hxa
    rw [rdL3_stR, HST.out.2] at hxa hla hia
    subst ea
    have HXA := Aside0.mk hxa
    have HLA := Aside0.mk hla
    have HIA := Aside0.mk hia
    clear hxa hla hia
    have f4 : (0 : Int) ≤ (s : Int) := Int.natCast_nonneg s
    have f5 : (s : Int) < (st2.length : Int) := by have := HST.out.1; omega
    by_cases q0 : gk = 0
    case pos =>
     have e1 : ¬ (i : Int) < (masks.length : Int) := by have := HKI.out; omega
     have e2 : decide ((i : Int) < (masks.length : Int)) = false := decide_eq_false e1
     have HRS := Aside0.mk (show rr = some (st2, row) by rw [← HRR.out, List.drop_eq_nil_of_le (by have := HKI.out; omega)]; rfl)
     have HG2 := Aside0.mk (show goD r free lim masks g1 (s + 1) st2 (next ++ [row]) (fin ++ [endR r.1 r.2.2.2.1 a]) = subsetR r masks free lim by rw [← HGR.out, HRS.out]; rfl)
     clear q0
     go_upto_region 22 with fail
     clear e1 e2
     have HEF := Aside0.mk (show follow_End.f r.1 r.2.1 r.2.2.1 r.2.2.2.1 r.2.2.2.2.1 a = some (endR r.1 r.2.2.2.1 a) by unfold follow_End.f; rw [if_pos ⟨by have := HA.out.last.len; have := HA.out.m; omega, by have := HAO.out.2; omega⟩])
     obtain ⟨i27, hi27, hz27, hs27, hb27⟩ := info_parts info27
     obtain ⟨i4, hi4, hz4, hs4, hb4⟩ := info_parts info4
     have hbd := below_drew (Below.refl wr.heap.size wr)
     have HS3 := Aside0.mk (HS.out.below hbd)
     have HX3 := Aside0.mk (cell_keep hbd HXA.out)
     have HI3 := Aside0.mk (Kd.C_below HIA.out hbd)
     clear hbd HS HXA HIA
     refine wp_region_noPanic ?_
     refine start_ (n := 19) (S := fun w' => w'.cell? ⟨NB, 0, none⟩ = some (.bool r.1) ∧ w'.cell? ⟨NB, 1, none⟩ = some (.slice A1 r.2.1.length c1) ∧ w'.cell? ⟨NB, 2, none⟩ = some (.slice A2 r.2.2.1.length c2) ∧ w'.cell? ⟨NB, 3, none⟩ = some (.slice A3 r.2.2.2.1.length c3) ∧ w'.cell? ⟨NB, 4, none⟩ = some (.slice A4 r.2.2.2.2.1.length c4) ∧ w'.cell? ⟨DB, 0, none⟩ = some (.slice AN next.length cN) ∧ w'.cell? ⟨DB, 1, none⟩ = some (.slice AF fin.length cF) ∧ w'.cell? ⟨SB, 0, none⟩ = some (.slice (some ad) st2.length c2s) ∧ w'.cell? (ad.add s) = some (.slice Aa a.length ca)) (ds := [16, 18]) #[false, false, false, false, false, false, false, false, false, false, false, false, false, false, false, false, false, false, false] (by kernel_rfl) rfl rfl ⟨(blk_cell HS3.out.nb 0).trans rfl, (blk_cell HS3.out.nb 1).trans rfl, (blk_cell HS3.out.nb 2).trans rfl, (blk_cell HS3.out.nb 3).trans rfl, (blk_cell HS3.out.nb 4).trans rfl, (blk_cell HS3.out.db 0).trans rfl, (blk_cell HS3.out.db 1).trans rfl, (blk_cell HS3.out.mi.sb 0).trans rfl, HX3.out⟩ (fun hHeld => ?_); refine with_tabW sbb_tab22 sbb_bits22 (fun HT_ HW_ => ?_)
     obtain ⟨W3, hW3⟩ : ∃ w, wr.drew = w := ⟨_, rfl⟩
     rw [hW3] at HS3 HX3 HI3 hHeld ⊢
     clear hW3
     refine pure_ (i := 0) (N := some 77) (v := ?_) (a' := ?_) #[true, false, false, false, false, false, false, false, false, false, false, false, false, false, false, false, false, false, false] rfl rfl (any_of HT_.out (by kernel_rfl)) (fun _ _ _ h => h) (Or.inl ⟨by rfl, ?_⟩) ?_ ?_
     rotate_left
     ·intro w'
      go_simp
      with_reducible rfl
     rotate_left
     ·simp only [Act.put, List.setIfInBounds_toArray, List.set_cons_zero, List.set_cons_succ, i64_w, i32_w]
      rfl
     refine take_ (i := 1) (N := some 78) (v := ?_) (a' := ?_) #[true, true, false, false, false, false, false, false, false, false, false, false, false, false, false, false, false, false, false] rfl rfl (take_ofW HT_.out HW_.out (by kernel_rfl)) (fun _ _ _ h => h) (Or.inl ⟨by rfl, ?_⟩) hHeld ?_ ?_
     rotate_left
     ·rintro w' ⟨s0, s1, s2, s3, s4, s5, s6, s7, s8⟩
      go_simp
      with_reducible rfl
     rotate_left
     ·simp only [Act.put, List.setIfInBounds_toArray, List.set_cons_zero, List.set_cons_succ, i64_w, i32_w]
      rfl
     refine pure_ (i := 2) (N := some 79) (v := ?_) (a' := ?_) #[true, true, true, false, false, false, false, false, false, false, false, false, false, false, false, false, false, false, false] rfl rfl (any_of HT_.out (by kernel_rfl)) (fun _ _ _ h => h) (Or.inl ⟨by rfl, ?_⟩) ?_ ?_
     rotate_left
     ·intro w'
      go_simp
      with_reducible rfl
     rotate_left
     ·simp only [Act.put, List.setIfInBounds_toArray, List.set_cons_zero, List.set_cons_succ, i64_w, i32_w]
      rfl
     refine pure_ (i := 5) (N := some 82) (v := ?_) (a' := ?_) #[true, true, true, false, false, true, false, false, false, false, false, false, false, false, false, false, false, false, false] rfl rfl (any_of HT_.out (by kernel_rfl)) (fun _ _ _ h => h) (Or.inl ⟨by rfl, ?_⟩) ?_ ?_
     rotate_left
     ·intro w'
      go_simp
      with_reducible rfl
     rotate_left
     ·simp only [Act.put, List.setIfInBounds_toArray, List.set_cons_zero, List.set_cons_succ, i64_w, i32_w]
      rfl
     refine take_ (i := 6) (N := some 83) (v := ?_) (a' := ?_) #[true, true, true, false, false, true, true, false, false, false, false, false, false, false, false, false, false, false, false] rfl rfl (take_ofW HT_.out HW_.out (by kernel_rfl)) (fun _ _ _ h => h) (Or.inl ⟨by rfl, ?_⟩) hHeld ?_ ?_
     rotate_left
     ·rintro w' ⟨s0, s1, s2, s3, s4, s5, s6, s7, s8⟩
      go_simp
      with_reducible rfl
     rotate_left
     ·simp only [Act.put, List.setIfInBounds_toArray, List.set_cons_zero, List.set_cons_succ, i64_w, i32_w]
      rfl
     refine take_ (i := 7) (N := some 84) (v := ?_) (a' := ?_) #[true, true, true, false, false, true, true, true, false, false, false, false, false, false, false, false, false, false, false] rfl rfl (take_ofW HT_.out HW_.out (by kernel_rfl)) (fun _ _ _ h => h) (Or.inl ⟨by rfl, ?_⟩) hHeld ?_ ?_
     rotate_left
     ·rintro w' ⟨s0, s1, s2, s3, s4, s5, s6, s7, s8⟩
      go_simp
      with_reducible rfl
     rotate_left
     ·simp only [Act.put, List.setIfInBounds_toArray, List.set_cons_zero, List.set_cons_succ, i64_w, i32_w]
      rfl
     refine take_ (i := 8) (N := some 85) (v := ?_) (a' := ?_) #[true, true, true, false, false, true, true, true, true, false, false, false, false, false, false, false, false, false, false] rfl rfl (take_ofW HT_.out HW_.out (by kernel_rfl)) (fun _ _ _ h => h) (Or.inl ⟨by rfl, ?_⟩) hHeld ?_ ?_
     rotate_left
     ·rintro w' ⟨s0, s1, s2, s3, s4, s5, s6, s7, s8⟩
      go_simp
      with_reducible rfl
     rotate_left
     ·simp only [Act.put, List.setIfInBounds_toArray, List.set_cons_zero, List.set_cons_succ, i64_w, i32_w]
      rfl
     refine pure_ (i := 9) (N := some 86) (v := ?_) (a' := ?_) #[true, true, true, false, false, true, true, true, true, true, false, false, false, false, false, false, false, false, false] rfl rfl (any_of HT_.out (by kernel_rfl)) (fun _ _ _ h => h) (Or.inl ⟨by rfl, ?_⟩) ?_ ?_
     rotate_left
     ·intro w'
      go_simp
      with_reducible rfl
     rotate_left
     ·simp only [Act.put, List.setIfInBounds_toArray, List.set_cons_zero, List.set_cons_succ, i64_w, i32_w]
      rfl
     refine pure_ (i := 10) (N := some 87) (v := ?_) (a' := ?_) #[true, true, true, false, false, true, true, true, true, true, true, false, false, false, false, false, false, false, false] rfl rfl (any_of HT_.out (by kernel_rfl)) (fun _ _ _ h => h) (Or.inl ⟨by rfl, ?_⟩) ?_ ?_
     rotate_left
     ·intro w'
      go_simp
      with_reducible rfl
     rotate_left
     ·simp only [Act.put, List.setIfInBounds_toArray, List.set_cons_zero, List.set_cons_succ, i64_w, i32_w]
      rfl
     refine take_ (i := 11) (N := some 88) (v := ?_) (a' := ?_) #[true, true, true, false, false, true, true, true, true, true, true, true, false, false, false, false, false, false, false] rfl rfl (take_ofW HT_.out HW_.out (by kernel_rfl)) (fun _ _ _ h => h) (Or.inl ⟨by rfl, ?_⟩) hHeld ?_ ?_
     rotate_left
     ·rintro w' ⟨s0, s1, s2, s3, s4, s5, s6, s7, s8⟩
      go_simp
      with_reducible rfl
     rotate_left
     ·simp only [Act.put, List.setIfInBounds_toArray, List.set_cons_zero, List.set_cons_succ, i64_w, i32_w]
      rfl
     refine one_ (i := 3) (N := some 80) #[true, true, true, true, false, true, true, true, true, true, true, true, false, false, false, false, false, false, false] rfl rfl (one_of HT_.out (by kernel_rfl)) (by decide) (fun K hK => ?_)
     refine step_list rfl (by rfl) ?_
     unfold Oper.wp
     go_simp
     have hb := below_alloc (Below.refl W3.heap.size W3) (.cells #[.slice AR row.length cR] 27)
     have HX := Aside0.mk (blk_new W3 (.cells #[.slice AR row.length cR] 27))
     have HS4 := Aside0.mk (HS3.out.below hb)
     have HX4 := Aside0.mk (cell_keep hb HX3.out)
     have HI4 := Aside0.mk (Kd.C_below HI3.out hb)
     refine hK.out _ _ ⟨(blk_cell HS4.out.nb 0).trans rfl, (blk_cell HS4.out.nb 1).trans rfl, (blk_cell HS4.out.nb 2).trans rfl, (blk_cell HS4.out.nb 3).trans rfl, (blk_cell HS4.out.nb 4).trans rfl, (blk_cell HS4.out.db 0).trans rfl, (blk_cell HS4.out.db 1).trans rfl, (blk_cell HS4.out.mi.sb 0).trans rfl, HX4.out⟩ (fun hHeld => ?_)
     clear hK K hb HS3 HX3 HI3
     obtain ⟨BX, hBX⟩ : ∃ n, W3.heap.size = n := ⟨_, rfl⟩
     rw [hBX] at HX ⊢
     clear hBX
     obtain ⟨W4, hW4⟩ : ∃ w, W3.alloc (.cells #[.slice AR row.length cR] 27) = w := ⟨_, rfl⟩
     rw [hW4] at HX HS4 HX4 HI4 hHeld ⊢
     clear hW4
     refine one_ (i := 4) (N := some 81) #[true, true, true, true, true, true, true, true, true, true, true, true, false, false, false, false, false, false, false] rfl rfl (one_of HT_.out (by kernel_rfl)) (by decide) (fun K hK => ?_)
     refine R_app_step kL (W := W4) W.heap.size (by rfl) (.tmp 78) (.tmp 80) 28 27 i27 (.slice none 0 0) 24 rfl Try.underlying28 hi27 hz27 hs27 hb27 rfl (by decide) (.slice AN next.length cN) next row [.slice AR row.length cR] (fun k => some k ≠ (.slice (some ad) st2.length c2s : Value).ownBlock) (fun k => some k = (.slice AR row.length cR : Value).ownBlock) rfl ⟨BX, 0, none⟩ rfl (cell_one HX.out) ⟨_, rfl, Kd.R_tight rfl HS4.out.ro⟩ (fun k hk => HS4.out.rowFree hk) (fun k hk e => absurd (Kd.R_lt HS4.out.mi.rows k e.symm) (by omega)) (Kd.R_mono HS4.out.nx (fun k hk => hk.1)) HS4.out.bw.size (by have := HNL.out; have := HSL2.out; simp only [maxLen]; omega) (by have := HNL.out; have := HSL2.out; omega) ?_
     intro v6 W5 hR6 hg6 hat6
     have HS5 := Aside0.mk (HS4.out.nextApp hg6 hat6 hR6)
     obtain ⟨A6, c6, rfl⟩ := Kd.R_slice hR6
     have HX5 := Aside0.mk (show W5.cell? (ad.add s) = _ from (grown_cell hg6 (HS4.out.adFree)).trans HX4.out)
     have HI5 := Aside0.mk (HS5.out.readRow (s := s) HST.out.1 HST.out.2 HX5.out)
     refine hK.out _ _ ⟨(blk_cell HS5.out.nb 0).trans rfl, (blk_cell HS5.out.nb 1).trans rfl, (blk_cell HS5.out.nb 2).trans rfl, (blk_cell HS5.out.nb 3).trans rfl, (blk_cell HS5.out.nb 4).trans rfl, (blk_cell HS5.out.db 0).trans rfl, (blk_cell HS5.out.db 1).trans rfl, (blk_cell HS5.out.mi.sb 0).trans rfl, HX5.out⟩ (fun hHeld => ?_)
     clear hK K
     refine norm_ (a' := ?_) ?_ ?_
     rotate_left
     ·show Act.put _ (some 81) _ = _
      simp only [Act.put, List.setIfInBounds_toArray, List.set_cons_zero, List.set_cons_succ, i64_w, i32_w]
      rfl
     clear hR6 hg6 hat6 HS4 HX4 HI4 HX
     refine pure_ (i := 15) (N := some 92) (v := ?_) (a' := ?_) #[true, true, true, true, true, true, true, true, true, true, true, true, false, false, false, true, false, false, false] rfl rfl (any_of HT_.out (by kernel_rfl)) (fun _ _ _ h => h) (Or.inl ⟨by rfl, ?_⟩) ?_ ?_
     rotate_left
     ·intro w'
      go_simp
      with_reducible rfl
     rotate_left
     ·simp only [Act.put, List.setIfInBounds_toArray, List.set_cons_zero, List.set_cons_succ, i64_w, i32_w]
      rfl
     refine one_ (i := 12) (N := some 89) #[true, true, true, true, true, true, true, true, true, true, true, true, true, false, false, true, false, false, false] rfl rfl (one_of HT_.out (by kernel_rfl)) (by decide) (fun K hK => ?_)
     refine goes_ Try.func26 (by kernel_rfl) rfl #[.agg #[.bool r.1, .slice A1 r.2.1.length c1, .slice A2 r.2.2.1.length c2, .slice A3 r.2.2.2.1.length c3, .slice A4 r.2.2.2.2.1.length c4], .slice Aa a.length ca] (by rfl) rfl rfl (by (try simp only [List.map_toArray, List.map_cons, List.map_nil]); first | done | rfl) ?_
     refine (follow_End.calls r.1 A1 c1 r.2.1 A2 c2 r.2.2.1 A3 c3 r.2.2.2.1 A4 c4 r.2.2.2.2.1 Aa ca a _ W5 (Kd.C_below H1.out HS5.out.bw) G1.out (Kd.C_below H2.out HS5.out.bw) G2.out (Kd.C_below H3.out HS5.out.bw) G3.out (Kd.C_below H4.out HS5.out.bw) G4.out HI5.out HLA.out HEF.out).mono ?_
     rintro e_ W6 ⟨rfl, hb⟩
     have HS6 := Aside0.mk (HS5.out.below hb)
     have HX6 := Aside0.mk (cell_keep hb HX5.out)
     have HI6 := Aside0.mk (Kd.C_below HI5.out hb)
     clear hb HS5 HX5 HI5
     refine ⟨_, rfl, ?_⟩
     refine hK.out _ _ ⟨(blk_cell HS6.out.nb 0).trans rfl, (blk_cell HS6.out.nb 1).trans rfl, (blk_cell HS6.out.nb 2).trans rfl, (blk_cell HS6.out.nb 3).trans rfl, (blk_cell HS6.out.nb 4).trans rfl, (blk_cell HS6.out.db 0).trans rfl, (blk_cell HS6.out.db 1).trans rfl, (blk_cell HS6.out.mi.sb 0).trans rfl, HX6.out⟩ (fun hHeld => ?_)
     clear hK K
     refine norm_ (a' := ?_) ?_ ?_
     rotate_left
     ·show Act.put _ (some 89) _ = _
      simp only [Act.put, List.setIfInBounds_toArray, List.set_cons_zero, List.set_cons_succ, i64_w, i32_w]
      rfl
     refine one_ (i := 13) (N := some 90) #[true, true, true, true, true, true, true, true, true, true, true, true, true, true, false, true, false, false, false] rfl rfl (one_of HT_.out (by kernel_rfl)) (by decide) (fun K hK => ?_)
     refine step_list rfl (by rfl) ?_
     unfold Oper.wp
     go_simp
     have hb := below_alloc (Below.refl W6.heap.size W6) (.cells #[.bool (endR r.1 r.2.2.2.1 a)] 4)
     have HX := Aside0.mk (blk_new W6 (.cells #[.bool (endR r.1 r.2.2.2.1 a)] 4))
     have HS7 := Aside0.mk (HS6.out.below hb)
     have HX7 := Aside0.mk (cell_keep hb HX6.out)
     have HI7 := Aside0.mk (Kd.C_below HI6.out hb)
     refine hK.out _ _ ⟨(blk_cell HS7.out.nb 0).trans rfl, (blk_cell HS7.out.nb 1).trans rfl, (blk_cell HS7.out.nb 2).trans rfl, (blk_cell HS7.out.nb 3).trans rfl, (blk_cell HS7.out.nb 4).trans rfl, (blk_cell HS7.out.db 0).trans rfl, (blk_cell HS7.out.db 1).trans rfl, (blk_cell HS7.out.mi.sb 0).trans rfl, HX7.out⟩ (fun hHeld => ?_)
     clear hK K hb HS6 HX6 HI6
     obtain ⟨BY, hBY⟩ : ∃ n, W6.heap.size = n := ⟨_, rfl⟩
     rw [hBY] at HX ⊢
     clear hBY
     obtain ⟨W7, hW7⟩ : ∃ w, W6.alloc (.cells #[.bool (endR r.1 r.2.2.2.1 a)] 4) = w := ⟨_, rfl⟩
     rw [hW7] at HX HS7 HX7 HI7 hHeld ⊢
     clear hW7
     refine one_ (i := 14) (N := some 91) #[true, true, true, true, true, true, true, true, true, true, true, true, true, true, true, true, false, false, false] rfl rfl (one_of HT_.out (by kernel_rfl)) (by decide) (fun K hK => ?_)
     refine R_app_step Kd.bool (W := W7) W.heap.size (by rfl) (.tmp 83) (.tmp 90) 45 4 i4 (.bool false) 1 rfl Try.underlying45 hi4 hz4 hs4 hb4 rfl (by decide) (.slice AF fin.length cF) fin (endR r.1 r.2.2.2.1 a) [.bool (endR r.1 r.2.2.2.1 a)] (fun _ => True) (fun _ => False) rfl ⟨BY, 0, none⟩ rfl (cell_one HX.out) rfl (fun _ hk => hk.elim) (fun _ _ => trivial) HS7.out.fi HS7.out.bw.size (by have := HNL.out; have := HSL2.out; simp only [maxLen]; omega) (by have := HNL.out; have := HSL2.out; omega) ?_
     intro v8 W8 hR8 hg8 hat8
     have HS8 := Aside0.mk (HS7.out.finApp hg8 hR8)
     obtain ⟨A8, c8, rfl⟩ := Kd.R_slice hR8
     have HX8 := Aside0.mk (show W8.cell? (ad.add s) = _ from (grown_cell hg8 (HS7.out.adFree2)).trans HX7.out)
     refine hK.out _ _ ⟨(blk_cell HS8.out.nb 0).trans rfl, (blk_cell HS8.out.nb 1).trans rfl, (blk_cell HS8.out.nb 2).trans rfl, (blk_cell HS8.out.nb 3).trans rfl, (blk_cell HS8.out.nb 4).trans rfl, (blk_cell HS8.out.db 0).trans rfl, (blk_cell HS8.out.db 1).trans rfl, (blk_cell HS8.out.mi.sb 0).trans rfl, HX8.out⟩ (fun hHeld => ?_)
     clear hK K
     refine norm_ (a' := ?_) ?_ ?_
     rotate_left
     ·show Act.put _ (some 91) _ = _
      simp only [Act.put, List.setIfInBounds_toArray, List.set_cons_zero, List.set_cons_succ, i64_w, i32_w]
      rfl
     clear hR8 hg8 hat8 HS7 HX7 HI7 HX
     have z1 := (blk_cell HS8.out.db 0).trans rfl
     have z2 := blk_frozen HS8.out.db 0
     refine last_ (i := 16) (N := none) #[true, true, true, true, true, true, true, true, true, true, true, true, true, true, true, true, true, false, false] rfl rfl (one_of HT_.out (by kernel_rfl)) (by decide) (fun K hK => ?_)
     refine step_list rfl (by rfl) ?_
     unfold Oper.wp
     go_simp
     have HS9 := Aside0.mk (HS8.out.put 0 (.slice A6 (next ++ [row]).length c6) (dn' := (.slice A6 (next ++ [row]).length c6)) (df' := (.slice AF fin.length cF)) rfl)
     refine hK.out _ _ ?_
     clear hK K z1 z2 HS8 HX8
     obtain ⟨W9, hW9⟩ : ∃ w, W8.setCell ⟨DB, 0, none⟩ (.slice A6 (next ++ [row]).length c6) = w := ⟨_, rfl⟩
     rw [hW9] at HS9
     have hl6 : (next ++ [row]).length = next.length + 1 := by simp
     rw [hl6] at hW9
     rw [hW9]
     clear hW9 hl6
     refine pure_ (i := 17) (N := some 93) (v := ?_) (a' := ?_) #[true, true, true, true, true, true, true, true, true, true, true, true, true, true, true, true, true, true, false] rfl rfl (any_of HT_.out (by kernel_rfl)) (fun _ _ _ h => h) (Or.inl ⟨by rfl, ?_⟩) ?_ ?_
     rotate_left
     ·intro w'
      go_simp
      with_reducible rfl
     rotate_left
     ·simp only [Act.put, List.setIfInBounds_toArray, List.set_cons_zero, List.set_cons_succ, i64_w, i32_w]
      rfl
     have z1 := (blk_cell HS9.out.db 1).trans rfl
     have z2 := blk_frozen HS9.out.db 1
     refine last_ (i := 18) (N := none) #[true, true, true, true, true, true, true, true, true, true, true, true, true, true, true, true, true, true, true] rfl rfl (one_of HT_.out (by kernel_rfl)) (by decide) (fun K hK => ?_)
     refine step_list rfl (by rfl) ?_
     unfold Oper.wp
     go_simp
     have HS10 := Aside0.mk (HS9.out.put 1 (.slice A8 (fin ++ [endR r.1 r.2.2.2.1 a]).length c8) (dn' := (.slice A6 (next ++ [row]).length c6)) (df' := (.slice A8 (fin ++ [endR r.1 r.2.2.2.1 a]).length c8)) rfl)
     refine hK.out _ _ ?_
     clear hK K z1 z2 HS9
     obtain ⟨W10, hW10⟩ : ∃ w, W9.setCell ⟨DB, 1, none⟩ (.slice A8 (fin ++ [endR r.1 r.2.2.2.1 a]).length c8) = w := ⟨_, rfl⟩
     rw [hW10] at HS10
     have hl6 : (fin ++ [endR r.1 r.2.2.2.1 a]).length = fin.length + 1 := by simp
     rw [hl6] at hW10
     rw [hW10]
     clear hW10 hl6
     refine done_ (done_of HT_.out (by kernel_rfl)) ?_
     refine NoPanic.normal ?_
     clear HT_ HW_
     have HW2 := Aside0.mk (show wrap64 ((s : Int) + 1) = ((s + 1 : Nat) : Int) by have := HSL2.out; unfold wrap64; omega)
     go_wp2_with fail
     go_roundg g1
     case measure => omega
     case rel => exact ⟨s + 1, st2, next ++ [row], fin ++ [endR r.1 r.2.2.2.1 a], some ad, A6, A8, c2s, c6, c8, by rw [← HW2.out], HS10, HOK, HG2, ⟨HST.out.1⟩, ⟨by have := HK.out; omega⟩, ⟨by rw [List.length_append, HNL.out.1]; rfl, by rw [List.length_append, HNL.out.2]; rfl⟩⟩
    case neg =>
     have HQ := Aside0.mk q0
     clear q0
     have HIL := Aside0.mk (show i < masks.length by have := HKI.out; have := HQ.out; omega)
     have e1 : (i : Int) < (masks.length : Int) := by have := HIL.out; omega
     have e2 : decide ((i : Int) < (masks.length : Int)) = true := decide_eq_true e1
     have e3 : (0 : Int) ≤ (i : Int) := Int.natCast_nonneg i
     obtain ⟨adm, eM, hxm⟩ := Kd.at_int (Kd.C_below HM.out HS.out.bw) (i : Int) (Int.natCast_nonneg i) (by have := HIL.out; omega)
     rw [Int.toNat_natCast] at hxm
     subst eM
     obtain ⟨m, hmm⟩ : ∃ m, m = rd masks (i : Int) := ⟨_, rfl⟩
     rw [← hmm] at hxm
     have HRR2 := Aside0.mk (show rowGo r free lim a (m :: masks.drop (i + 1)) st2 row = rr by rw [← HRR.out, List.drop_eq_getElem_cons HIL.out, show masks[i]'HIL.out = m by rw [hmm]; unfold rd; rw [Int.toNat_natCast, List.getD_eq_getElem?_getD, List.getElem?_eq_getElem HIL.out]; rfl])
     clear hmm HRR
     obtain ⟨y, hy⟩ : ∃ y, y = stepR r.2.1 r.2.2.1 r.2.2.2.2.1 a m := ⟨_, rfl⟩
     have HSF := Aside0.mk (show follow_Step.f r.1 r.2.1 r.2.2.1 r.2.2.2.1 r.2.2.2.2.1 a m = some y by unfold follow_Step.f; rw [if_pos (auto_ok HA.out HAO.out.1 HAO.out.2), ← hy])
     have HXO := Aside0.mk (show xOf r free a m = (if free = true then 0 :: y else y) by unfold xOf; rw [← hy])
     have HYL := Aside0.mk (show y.length ≤ 300 by rw [hy]; have h1 := (step_good HA.out (auto_ok HA.out HAO.out.1 HAO.out.2) m).len; have := HA.out.m; omega)
     have HXK := Aside0.mk (xOf_ok HA.out HAO.out free m)
     clear hy
     go_upto_region 15 with fail
     clear e1 e2 e3 hxm
     have hbd := below_drew (Below.refl wr.heap.size wr)
     have HS3 := Aside0.mk (HS.out.below hbd)
     have HX3 := Aside0.mk (cell_keep hbd HXA.out)
     have HI3 := Aside0.mk (Kd.C_below HIA.out hbd)
     clear hbd HS HXA HIA
     refine wp_region_noPanic ?_
     refine start_ (n := 8) (S := fun w' => w'.cell? ⟨NB, 0, none⟩ = some (.bool r.1) ∧ w'.cell? ⟨NB, 1, none⟩ = some (.slice A1 r.2.1.length c1) ∧ w'.cell? ⟨NB, 2, none⟩ = some (.slice A2 r.2.2.1.length c2) ∧ w'.cell? ⟨NB, 3, none⟩ = some (.slice A3 r.2.2.2.1.length c3) ∧ w'.cell? ⟨NB, 4, none⟩ = some (.slice A4 r.2.2.2.2.1.length c4) ∧ w'.cell? ⟨SB, 0, none⟩ = some (.slice (some ad) st2.length c2s) ∧ w'.cell? (ad.add s) = some (.slice Aa a.length ca)) (ds := []) #[false, false, false, false, false, false, false, false] (by kernel_rfl) rfl rfl ⟨(blk_cell HS3.out.nb 0).trans rfl, (blk_cell HS3.out.nb 1).trans rfl, (blk_cell HS3.out.nb 2).trans rfl, (blk_cell HS3.out.nb 3).trans rfl, (blk_cell HS3.out.nb 4).trans rfl, (blk_cell HS3.out.mi.sb 0).trans rfl, HX3.out⟩ (fun hHeld => ?_); refine with_tabW sba_tab15 sba_bits15 (fun HT_ HW_ => ?_)
     obtain ⟨W3, hW3⟩ : ∃ w, wr.drew = w := ⟨_, rfl⟩
     rw [hW3] at HS3 HX3 HI3 hHeld ⊢
     clear hW3
     refine take_ (i := 0) (N := some 53) (v := ?_) (a' := ?_) #[true, false, false, false, false, false, false, false] rfl rfl (take_ofW HT_.out HW_.out (by kernel_rfl)) (fun _ _ _ h => h) (Or.inl ⟨by rfl, ?_⟩) hHeld ?_ ?_
     rotate_left
     ·rintro w' ⟨s0, s1, s2, s3, s4, s5, s6⟩
      go_simp
      with_reducible rfl
     rotate_left
     ·simp only [Act.put, List.setIfInBounds_toArray, List.set_cons_zero, List.set_cons_succ, i64_w, i32_w]
      rfl
     refine take_ (i := 1) (N := some 54) (v := ?_) (a' := ?_) #[true, true, false, false, false, false, false, false] rfl rfl (take_ofW HT_.out HW_.out (by kernel_rfl)) (fun _ _ _ h => h) (Or.inl ⟨by rfl, ?_⟩) hHeld ?_ ?_
     rotate_left
     ·rintro w' ⟨s0, s1, s2, s3, s4, s5, s6⟩
      go_simp
      with_reducible rfl
     rotate_left
     ·simp only [Act.put, List.setIfInBounds_toArray, List.set_cons_zero, List.set_cons_succ, i64_w, i32_w]
      rfl
     refine pure_ (i := 2) (N := some 55) (v := ?_) (a' := ?_) #[true, true, true, false, false, false, false, false] rfl rfl (any_of HT_.out (by kernel_rfl)) (fun _ _ _ h => h) (Or.inl ⟨by rfl, ?_⟩) ?_ ?_
     rotate_left
     ·intro w'
      go_simp
      with_reducible rfl
     rotate_left
     ·simp only [Act.put, List.setIfInBounds_toArray, List.set_cons_zero, List.set_cons_succ, i64_w, i32_w]
      rfl
     refine pure_ (i := 3) (N := some 56) (v := ?_) (a' := ?_) #[true, true, true, true, false, false, false, false] rfl rfl (any_of HT_.out (by kernel_rfl)) (fun _ _ _ h => h) (Or.inl ⟨by rfl, ?_⟩) ?_ ?_
     rotate_left
     ·intro w'
      go_simp
      with_reducible rfl
     rotate_left
     ·simp only [Act.put, List.setIfInBounds_toArray, List.set_cons_zero, List.set_cons_succ, i64_w, i32_w]
      rfl
     refine take_ (i := 4) (N := some 57) (v := ?_) (a' := ?_) #[true, true, true, true, true, false, false, false] rfl rfl (take_ofW HT_.out HW_.out (by kernel_rfl)) (fun _ _ _ h => h) (Or.inl ⟨by rfl, ?_⟩) hHeld ?_ ?_
     rotate_left
     ·rintro w' ⟨s0, s1, s2, s3, s4, s5, s6⟩
      go_simp
      with_reducible rfl
     rotate_left
     ·simp only [Act.put, List.setIfInBounds_toArray, List.set_cons_zero, List.set_cons_succ, i64_w, i32_w]
      rfl
     refine pure_ (i := 5) (N := some 58) (v := ?_) (a' := ?_) #[true, true, true, true, true, true, false, false] rfl rfl (any_of HT_.out (by kernel_rfl)) (fun _ _ _ h => h) (Or.inl ⟨by rfl, ?_⟩) ?_ ?_
     rotate_left
     ·intro w'
      go_simp
      with_reducible rfl
     rotate_left
     ·simp only [Act.put, List.setIfInBounds_toArray, List.set_cons_zero, List.set_cons_succ, i64_w, i32_w]
      rfl
     refine one_ (i := 6) (N := some 59) #[true, true, true, true, true, true, true, false] rfl rfl (one_of HT_.out (by kernel_rfl)) (by decide) (fun K hK => ?_)
     refine goes_ Try.func28 (by kernel_rfl) rfl #[.agg #[.bool r.1, .slice A1 r.2.1.length c1, .slice A2 r.2.2.1.length c2, .slice A3 r.2.2.2.1.length c3, .slice A4 r.2.2.2.2.1.length c4], .slice Aa a.length ca, .int .u64 m] (by rfl) rfl rfl (by (try simp only [List.map_toArray, List.map_cons, List.map_nil]); first | done | rfl) ?_
     refine (follow_Step.calls r.1 A1 c1 r.2.1 A2 c2 r.2.2.1 A3 c3 r.2.2.2.1 A4 c4 r.2.2.2.2.1 Aa ca a m y W3 (Kd.C_below H1.out HS3.out.bw) G1.out (Kd.C_below H2.out HS3.out.bw) G2.out (Kd.C_below H3.out HS3.out.bw) G3.out (Kd.C_below H4.out HS3.out.bw) G4.out HI3.out HLA.out HSF.out).mono ?_
     rintro e_ W4 ⟨v0, rfl, ho, hb⟩
     have HS4 := Aside0.mk (HS3.out.below hb)
     have HX4 := Aside0.mk (cell_keep hb HX3.out)
     have HI4 := Aside0.mk (Kd.C_below HI3.out hb)
     obtain ⟨Ay, cy, rfl⟩ := Kd.R_slice ho
     have HOY := Aside0.mk ho
     have HFR := Aside0.mk (show ∀ k, W3.heap.size ≤ k → _ from fun k hk => HS3.out.fresh hk)
     have HZ := Aside0.mk hb.size
     have HZ0 := Aside0.mk HS3.out.bw.size
     refine ⟨_, rfl, ?_⟩
     refine hK.out _ _ ⟨(blk_cell HS4.out.nb 0).trans rfl, (blk_cell HS4.out.nb 1).trans rfl, (blk_cell HS4.out.nb 2).trans rfl, (blk_cell HS4.out.nb 3).trans rfl, (blk_cell HS4.out.nb 4).trans rfl, (blk_cell HS4.out.mi.sb 0).trans rfl, HX4.out⟩ (fun hHeld => ?_)
     clear hK K hb ho HS3 HX3 HI3
     refine norm_ (a' := ?_) ?_ ?_
     rotate_left
     ·show Act.put _ (some 59) _ = _
      simp only [Act.put, List.setIfInBounds_toArray, List.set_cons_zero, List.set_cons_succ, i64_w, i32_w]
      rfl
     refine pure_ (i := 7) (N := some 18) (v := ?_) (a' := ?_) #[true, true, true, true, true, true, true, true] rfl rfl (any_of HT_.out (by kernel_rfl)) (fun _ _ _ h => h) (Or.inl ⟨by rfl, ?_⟩) ?_ ?_
     rotate_left
     ·intro w'
      go_simp
      with_reducible rfl
     rotate_left
     ·simp only [Act.put, List.setIfInBounds_toArray, List.set_cons_zero, List.set_cons_succ, i64_w, i32_w]
      rfl
     refine done_ (done_of HT_.out (by kernel_rfl)) ?_
     refine NoPanic.normal ?_
     clear HT_ HW_ hHeld
     clear HX4 HI4
     obtain ⟨NZ, hNZ⟩ : ∃ n, W3.heap.size = n := ⟨_, rfl⟩
     rw [hNZ] at HOY HFR HZ HZ0
     clear hNZ
     cases free with
     | false =>
      have HXX := Aside0.mk (show xOf r false a m = y from HXO.out.trans (if_neg (by decide)))
      have HXS := Aside0.mk (show OkSt r y by rw [← HXX.out]; exact HXK.out)
      have HOY4 := Aside0.mk (show Kd.R (Kd.int .i64) 3 W4 NZ (fun _ => True) (.slice Ay y.length cy) y from HOY.out)
      have HSx := Aside0.mk HS4.out
      have HZx := Aside0.mk HZ.out
      clear HS4 HOY
      by_cases ql : lim < ((metR st2 y).2.length : Int)
      case pos =>
       have HQL := Aside0.mk ql
       clear ql
       go_wp2_with fail
       refine (met_sbw st2 (some ad) c2s Ay cy y HSx.out NZ HFR.out HZx.out HZ0.out HOY4.out (fun l hl => (HOK.out.good l hl).small HA.out) (HXS.out.small HA.out) (by have := HOK.out.len; have := HLIM.out; omega) (by have := HXS.out.2; omega)).mono ?_
       rintro e W8 ⟨Am2, cm2, rfl, hs8⟩
       have HS8 := Aside0.mk hs8
       clear hs8 HSx HZx HFR HZ HZ0 HOY4
       obtain ⟨mt, hmt⟩ : ∃ t, t = metR st2 y := ⟨_, rfl⟩
       rw [← hmt] at HS8 HQL
       rw [← hmt]
       have HMT := Aside0.mk hmt
       clear hmt
       have e1 : decide ((mt.2.length : Int) > lim) = true := decide_eq_true HQL.out
       have e2 : decide (lim < (mt.2.length : Int)) = true := decide_eq_true HQL.out
       have HE := Aside0.mk (show subsetR r masks false lim = ([], [], 8) by rw [← HGR.out, ← HRR2.out, rowGo, HXX.out, ← HMT.out, if_pos HQL.out]; rfl)
       go_wp2_with ((with_reducible refine gate_builtin (b := .append) (xs := #[.tmp 65, .tmp 69]) rfl ?_); at_builtin; refine Kd.R_append (Kd.int .i64) (w0 := W) W.heap.size rfl (.tmp 65) (.tmp 69) 27 3 (.int .i64 0) 8 rfl Try.underlying27 info3 rfl (by decide) (by omega) (.slice AR row.length cR) row (mt.1 : Int) [.int .i64 (mt.1 : Int)] (fun _ => True) (fun _ => False) rfl rfl ?aP (fun _ hk => hk.elim) ?aF ?aO ?aB ?aS ?aL ?_; (case aP => exact rfl); (case aB => exact HS8.out.bw); (case aF => exact (fun _ _ => trivial)); (case aO => exact HS8.out.ro); (case aS => exact HS8.out.bw.size); (case aL => have := HRL.out; have := HIL.out; have := HML.out; omega); intro v9 W9 ho hb hg hat; have HS9 := Aside0.mk (HS8.out.app hg hat ho); obtain ⟨A9, c9, rfl⟩ := Kd.R_slice ho; clear ho hb hg hat HS8; have z1 := (blk_cell HS9.out.mi.sb 0).trans rfl; have y0 := (blk_cell HS9.out.rb 0).trans rfl; have y1 := (blk_cell HS9.out.rb 1).trans rfl; have g0 := blk_frozen HS9.out.rb 0; have g1 := blk_frozen HS9.out.rb 1)
       clear z1 e1 e2
       clear y0 y1 g0 g1
       refine bodyPost_ret (results_ct rfl _ _ RB 47 #[.slice none 0 0, .slice none 0 0] (0, 0) _ rfl (blk2 (u0 := .slice none 0 0) (u1 := .slice none 0 0) HS9.out.rb) Try.underlying47 rfl (by kernel_rfl)) rfl ?_
       rw [HE.out]
       exact ⟨.slice none 0 0, .slice none 0 0, rfl, Kd.R_nil _ _ _ _ _, Kd.R_nil _ _ _ _ _, HS9.out.bw.trans (below2 HS9.out.lo.2.1)⟩
      case neg =>
       have HQL := Aside0.mk ql
       clear ql
       go_wp2_with fail
       refine (met_sbw st2 (some ad) c2s Ay cy y HSx.out NZ HFR.out HZx.out HZ0.out HOY4.out (fun l hl => (HOK.out.good l hl).small HA.out) (HXS.out.small HA.out) (by have := HOK.out.len; have := HLIM.out; omega) (by have := HXS.out.2; omega)).mono ?_
       rintro e W8 ⟨Am2, cm2, rfl, hs8⟩
       have HS8 := Aside0.mk hs8
       clear hs8 HSx HZx HFR HZ HZ0 HOY4
       obtain ⟨mt, hmt⟩ : ∃ t, t = metR st2 y := ⟨_, rfl⟩
       rw [← hmt] at HS8 HQL
       rw [← hmt]
       have HMT := Aside0.mk hmt
       clear hmt
       have e1 : decide ((mt.2.length : Int) > lim) = false := decide_eq_false (by have := HQL.out; omega)
       have e2 : decide (lim < (mt.2.length : Int)) = false := decide_eq_false (by have := HQL.out; omega)
       go_wp2_with ((with_reducible refine gate_builtin (b := .append) (xs := #[.tmp 65, .tmp 69]) rfl ?_); at_builtin; refine Kd.R_append (Kd.int .i64) (w0 := W) W.heap.size rfl (.tmp 65) (.tmp 69) 27 3 (.int .i64 0) 8 rfl Try.underlying27 info3 rfl (by decide) (by omega) (.slice AR row.length cR) row (mt.1 : Int) [.int .i64 (mt.1 : Int)] (fun _ => True) (fun _ => False) rfl rfl ?aP (fun _ hk => hk.elim) ?aF ?aO ?aB ?aS ?aL ?_; (case aP => exact rfl); (case aB => exact HS8.out.bw); (case aF => exact (fun _ _ => trivial)); (case aO => exact HS8.out.ro); (case aS => exact HS8.out.bw.size); (case aL => have := HRL.out; have := HIL.out; have := HML.out; omega); intro v9 W9 ho hb hg hat; have HS9 := Aside0.mk (HS8.out.app hg hat ho); obtain ⟨A9, c9, rfl⟩ := Kd.R_slice ho; clear ho hb hg hat HS8; have z1 := (blk_cell HS9.out.mi.sb 0).trans rfl)
       clear z1 e1 e2
       have HW2 := Aside0.mk (show wrap64 ((i : Int) + 1) = ((i + 1 : Nat) : Int) by have := HIL.out; have := HML.out; unfold wrap64; omega)
       go_roundg (gk - 1)
       case measure => have := HQ.out; omega
       case rel => exact ⟨i + 1, mt.2, row ++ [(mt.1 : Int)], Am2, A9, cm2, c9, by rw [List.length_append]; rfl, by rw [← HW2.out], HS9, ⟨by rw [HMT.out]; exact metR_ok HOK.out HXS.out (by rw [← HMT.out]; have := HQL.out; omega)⟩, ⟨by rw [← HRR2.out, rowGo, HXX.out, ← HMT.out, if_neg (by have := HQL.out; omega)]⟩, ⟨by rw [HMT.out]; exact Nat.lt_of_lt_of_le HST.out.1 (metR_len _ _).1, by rw [HMT.out, metR_old _ _ HST.out.1]; exact HST.out.2⟩, ⟨by have := HKI.out; have := HQ.out; omega⟩, ⟨by rw [List.length_append, HRL.out]; rfl⟩⟩
     | true =>
      have HXX := Aside0.mk (show xOf r true a m = 0 :: y from HXO.out.trans (if_pos rfl))
      have HXS := Aside0.mk (show OkSt r (0 :: y) by rw [← HXX.out]; exact HXK.out)
      obtain ⟨x, hx⟩ : ∃ x, x = 0 :: y := ⟨_, rfl⟩
      rw [← hx] at HXX HXS
      have HXE := Aside0.mk hx
      clear hx
      go_upto_region 18 with (first | (go_at_call 25; refine (follow_Begin.calls [0] W4 rfl).mono ?_; rintro e W5 ⟨v5, rfl, ho, hb⟩; obtain ⟨A5, c5, rfl⟩ := Kd.R_slice ho; have HS5 := Aside0.mk (HS4.out.below hb); have HO5 := Aside0.mk ho; have HY5 := Aside0.mk (Kd.R_below HOY.out hb); have HZ5 := Aside0.mk (Nat.le_trans HZ.out hb.size); clear ho hb) | (go_at_call 62; refine (cat2_calls y x HXE.out W5.heap.size (W5.alloc (.cells #[.slice A5 [(0 : Int)].length c5, .slice Ay y.length cy] 27)) (rows_two HO5.out HY5.out) HYL.out).mono ?_; rintro e W7 ⟨A7, c7, rfl, ho, hb⟩; have HS7 := Aside0.mk ((HS5.out.below (below_alloc (Below.refl _ _) (.cells #[.slice A5 [(0 : Int)].length c5, .slice Ay y.length cy] 27))).below hb); have hss := below_size (below_alloc (Below.refl W5.heap.size W5) (.cells #[.slice A5 [(0 : Int)].length c5, .slice Ay y.length cy] 27)); have HZ7 := Aside0.mk (Nat.le_trans HZ5.out (Nat.le_trans hss hb.size)); have HO7 := Aside0.mk (Kd.R_lower ho (Nat.le_trans HZ5.out hss)); clear ho hb hss))
      have HOY4 := Aside0.mk HO7.out
      have HSx := Aside0.mk HS7.out
      have HZx := Aside0.mk HZ7.out
      clear HS4 HOY HS5 HO5 HY5 HZ5 HS7 HO7 HZ7
      by_cases ql : lim < ((metR st2 x).2.length : Int)
      case pos =>
       have HQL := Aside0.mk ql
       clear ql
       go_wp2_with fail
       refine (met_sbw st2 (some ad) c2s A7 c7 x HSx.out NZ HFR.out HZx.out HZ0.out HOY4.out (fun l hl => (HOK.out.good l hl).small HA.out) (HXS.out.small HA.out) (by have := HOK.out.len; have := HLIM.out; omega) (by have := HXS.out.2; omega)).mono ?_
       rintro e W8 ⟨Am2, cm2, rfl, hs8⟩
       have HS8 := Aside0.mk hs8
       clear hs8 HSx HZx HFR HZ HZ0 HOY4
       obtain ⟨mt, hmt⟩ : ∃ t, t = metR st2 x := ⟨_, rfl⟩
       rw [← hmt] at HS8 HQL
       rw [← hmt]
       have HMT := Aside0.mk hmt
       clear hmt
       have e1 : decide ((mt.2.length : Int) > lim) = true := decide_eq_true HQL.out
       have e2 : decide (lim < (mt.2.length : Int)) = true := decide_eq_true HQL.out
       have HE := Aside0.mk (show subsetR r masks true lim = ([], [], 8) by rw [← HGR.out, ← HRR2.out, rowGo, HXX.out, ← HMT.out, if_pos HQL.out]; rfl)
       go_wp2_with ((with_reducible refine gate_builtin (b := .append) (xs := #[.tmp 65, .tmp 69]) rfl ?_); at_builtin; refine Kd.R_append (Kd.int .i64) (w0 := W) W.heap.size rfl (.tmp 65) (.tmp 69) 27 3 (.int .i64 0) 8 rfl Try.underlying27 info3 rfl (by decide) (by omega) (.slice AR row.length cR) row (mt.1 : Int) [.int .i64 (mt.1 : Int)] (fun _ => True) (fun _ => False) rfl rfl ?aP (fun _ hk => hk.elim) ?aF ?aO ?aB ?aS ?aL ?_; (case aP => exact rfl); (case aB => exact HS8.out.bw); (case aF => exact (fun _ _ => trivial)); (case aO => exact HS8.out.ro); (case aS => exact HS8.out.bw.size); (case aL => have := HRL.out; have := HIL.out; have := HML.out; omega); intro v9 W9 ho hb hg hat; have HS9 := Aside0.mk (HS8.out.app hg hat ho); obtain ⟨A9, c9, rfl⟩ := Kd.R_slice ho; clear ho hb hg hat HS8; have z1 := (blk_cell HS9.out.mi.sb 0).trans rfl; have y0 := (blk_cell HS9.out.rb 0).trans rfl; have y1 := (blk_cell HS9.out.rb 1).trans rfl; have g0 := blk_frozen HS9.out.rb 0; have g1 := blk_frozen HS9.out.rb 1)
       clear z1 e1 e2
       clear y0 y1 g0 g1
       refine bodyPost_ret (results_ct rfl _ _ RB 47 #[.slice none 0 0, .slice none 0 0] (0, 0) _ rfl (blk2 (u0 := .slice none 0 0) (u1 := .slice none 0 0) HS9.out.rb) Try.underlying47 rfl (by kernel_rfl)) rfl ?_
       rw [HE.out]
       exact ⟨.slice none 0 0, .slice none 0 0, rfl, Kd.R_nil _ _ _ _ _, Kd.R_nil _ _ _ _ _, HS9.out.bw.trans (below2 HS9.out.lo.2.1)⟩
      case neg =>
       have HQL := Aside0.mk ql
       clear ql
       go_wp2_with fail
       refine (met_sbw st2 (some ad) c2s A7 c7 x HSx.out NZ HFR.out HZx.out HZ0.out HOY4.out (fun l hl => (HOK.out.good l hl).small HA.out) (HXS.out.small HA.out) (by have := HOK.out.len; have := HLIM.out; omega) (by have := HXS.out.2; omega)).mono ?_
       rintro e W8 ⟨Am2, cm2, rfl, hs8⟩
       have HS8 := Aside0.mk hs8
       clear hs8 HSx HZx HFR HZ HZ0 HOY4
       obtain ⟨mt, hmt⟩ : ∃ t, t = metR st2 x := ⟨_, rfl⟩
       rw [← hmt] at HS8 HQL
       rw [← hmt]
       have HMT := Aside0.mk hmt
       clear hmt
       have e1 : decide ((mt.2.length : Int) > lim) = false := decide_eq_false (by have := HQL.out; omega)
       have e2 : decide (lim < (mt.2.length : Int)) = false := decide_eq_false (by have := HQL.out; omega)
       go_wp2_with ((with_reducible refine gate_builtin (b := .append) (xs := #[.tmp 65, .tmp 69]) rfl ?_); at_builtin; refine Kd.R_append (Kd.int .i64) (w0 := W) W.heap.size rfl (.tmp 65) (.tmp 69) 27 3 (.int .i64 0) 8 rfl Try.underlying27 info3 rfl (by decide) (by omega) (.slice AR row.length cR) row (mt.1 : Int) [.int .i64 (mt.1 : Int)] (fun _ => True) (fun _ => False) rfl rfl ?aP (fun _ hk => hk.elim) ?aF ?aO ?aB ?aS ?aL ?_; (case aP => exact rfl); (case aB => exact HS8.out.bw); (case aF => exact (fun _ _ => trivial)); (case aO => exact HS8.out.ro); (case aS => exact HS8.out.bw.size); (case aL => have := HRL.out; have := HIL.out; have := HML.out; omega); intro v9 W9 ho hb hg hat; have HS9 := Aside0.mk (HS8.out.app hg hat ho); obtain ⟨A9, c9, rfl⟩ := Kd.R_slice ho; clear ho hb hg hat HS8; have z1 := (blk_cell HS9.out.mi.sb 0).trans rfl)
       clear z1 e1 e2
       have HW2 := Aside0.mk (show wrap64 ((i : Int) + 1) = ((i + 1 : Nat) : Int) by have := HIL.out; have := HML.out; unfold wrap64; omega)
       go_roundg (gk - 1)
       case measure => have := HQ.out; omega
       case rel => exact ⟨i + 1, mt.2, row ++ [(mt.1 : Int)], Am2, A9, cm2, c9, by rw [List.length_append]; rfl, by rw [← HW2.out], HS9, ⟨by rw [HMT.out]; exact metR_ok HOK.out HXS.out (by rw [← HMT.out]; have := HQL.out; omega)⟩, ⟨by rw [← HRR2.out, rowGo, HXX.out, ← HMT.out, if_neg (by have := HQL.out; omega)]⟩, ⟨by rw [HMT.out]; exact Nat.lt_of_lt_of_le HST.out.1 (metR_len _ _).1, by rw [HMT.out, metR_old _ _ HST.out.1]; exact HST.out.2⟩, ⟨by have := HKI.out; have := HQ.out; omega⟩, ⟨by rw [List.length_append, HRL.out]; rfl⟩⟩
end Go.Proofs.Ytemlgmkbonpniaa.Print
