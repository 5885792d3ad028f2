/- The walk of scansionlaw11.FollowBuilds. -/
import Derived.Test.YtemlgmkbonpniaaFAwake
namespace Go.Proofs.Ytemlgmkbonpniaa.Print
open Go.RowKit Go.Maps Go.Proofs.YtemlgmkbonpniaaW.PrintWords Go.Proofs.YtemlgmkbonpniaaW.PrintLast Go.Proofs.YtemlgmkbonpniaaW.PrintMore
set_option linter.unusedVariables false
set_option linter.unusedSimpArgs false
theorem s24_eta (x : S24) : (⟨x.f0, x.f1, x.f2⟩ : S24) = x := by cases x; rfl
/-- What Build answers. -/
abbrev Bt := Bool × List Int × List Int × List Int × List (List Int) × Int
/-- An automaton in a variable. -/
structure AutoC (b0 B : Nat) (r : Bt) (v1 v2 v3 v4 : Value) (W : World) : Prop where
  blk : W.heap[B]? = some (.cells #[.bool r.1, v1, v2, v3, v4] 30 (0, 0))
  r1 : Kd.R (Kd.int .i64) 3 W b0 (fun _ => True) v1 r.2.1
  r2 : Kd.R (Kd.int .i64) 3 W b0 (fun _ => True) v2 r.2.2.1
  r3 : Kd.R (Kd.int .i64) 3 W b0 (fun _ => True) v3 r.2.2.2.1
  r4 : Kd.R (Kd.slice 3 (Kd.int .i64)) 27 W b0 (fun _ => True) v4 r.2.2.2.2.1
theorem AutoC.later {b0 B : Nat} {r : Bt} {v1 v2 v3 v4 : Value} {W W' : World} (h : AutoC b0 B r v1 v2 v3 v4 W) (hb : Below W.heap.size W W') : AutoC b0 B r v1 v2 v3 v4 W' :=
  ⟨blk_below h.blk hb, Kd.R_below h.r1 hb, Kd.R_below h.r2 hb, Kd.R_below h.r3 hb, Kd.R_below h.r4 hb⟩
theorem AutoC.cells {b0 B : Nat} {r : Bt} {v1 v2 v3 v4 : Value} {W : World} (h : AutoC b0 B r v1 v2 v3 v4 W) : W.cell? ⟨B, 0, none⟩ = some (.bool r.1) ∧ W.cell? ⟨B, 1, none⟩ = some v1 ∧ W.cell? ⟨B, 2, none⟩ = some v2 ∧ W.cell? ⟨B, 3, none⟩ = some v3 ∧ W.cell? ⟨B, 4, none⟩ = some v4 :=
  ⟨(blk_cell h.blk 0).trans rfl, (blk_cell h.blk 1).trans rfl, (blk_cell h.blk 2).trans rfl, (blk_cell h.blk 3).trans rfl, (blk_cell h.blk 4).trans rfl⟩
/-- The rows of what Build answers are short. -/
structure Short (r : Bt) : Prop where
  h1 : r.2.1.length ≤ 300
  h2 : r.2.2.1.length ≤ 300
  h3 : r.2.2.2.1.length ≤ 300
  h4 : r.2.2.2.2.1.length ≤ 300
  hr : ∀ l ∈ r.2.2.2.2.1, l.length ≤ 300
theorem build_short (x : S24) : Short (buildR x) := by
  unfold buildR
  split
  · exact ⟨Nat.zero_le _, Nat.zero_le _, Nat.zero_le _, Nat.zero_le _, fun l hl => by cases hl⟩
  · split
    · exact ⟨Nat.zero_le _, Nat.zero_le _, Nat.zero_le _, Nat.zero_le _, fun l hl => by cases hl⟩
    next h =>
      have hm := nodeR_made x ⟨[], []⟩ ⟨rfl, fun l hl => by cases hl⟩
      have h1 : (nodeR x ⟨[], []⟩).1.sets.length ≤ 300 := by have := hm.most; simp only [List.length_nil] at this; omega
      exact ⟨h1, Nat.le_trans hm.good.first.len h1, Nat.le_trans hm.good.last.len h1, by have := hm.fit.len; show (nodeR x ⟨[], []⟩).1.fol.length ≤ 300; omega, fun l hl => Nat.le_trans (hm.fit.good l hl).len h1⟩
set_option maxHeartbeats 16000000 in
set_option maxRecDepth 100000 in
theorem builds_calls (x : S24) (W : World) (A : Option Addr) (c : Nat) (hC : Kd.C k24 W A x.f2.length x.f2) (hc : x.f2.length ≤ c) :
    Calls Try.prog 3 #[.agg #[.int .i64 x.f0, .int .i64 x.f1, .slice A x.f2.length c]] W fun e w' => e = .returned (.bool true) ∧ Below W.heap.size W w' := by
  have HC := Aside0.mk hC
  have HCC := Aside0.mk hc
  obtain ⟨t, ⟨K1, hK1⟩, ht1, ht2⟩ := nodes_f x (lens_of x hC) 700 40 (by decide) (by decide) (by decide)
  have HND := Aside0.mk (hK1 K1 (Nat.le_refl _))
  have HTS := Aside0.mk ht2
  clear hC hc hK1 ht1 ht2
  go_enter Try.func3, Try.ntmps3
  go_upto_region 1 with fail
  have HB1 := Aside0.mk (below_alloc (Below.refl W.heap.size W) (.cells #[.int .i64 x.f0, .int .i64 x.f1, .slice A x.f2.length c] 24))
  have HNB1 := Aside0.mk (blk_new W (.cells #[.int .i64 x.f0, .int .i64 x.f1, .slice A x.f2.length c] 24))
  obtain ⟨NB, hNB⟩ : ∃ n, W.heap.size = n := ⟨_, rfl⟩
  obtain ⟨W1, hW1⟩ : ∃ w, W.alloc (.cells #[.int .i64 x.f0, .int .i64 x.f1, .slice A x.f2.length c] 24) = w := ⟨_, rfl⟩
  rw [hNB] at HNB1
  rw [hW1] at HB1 HNB1
  rw [hW1]
  rw [hNB]
  clear hNB hW1
  go_upto_region 2 with (go_at_call 16; refine (fawake_calls W1).mono ?_; rintro e W2 ⟨rfl, hb⟩; have HB2 := Aside0.mk (HB1.out.trans (hb.mono HB1.out.size)); have HNB2 := Aside0.mk (blk_below HNB1.out hb); clear hb)
  clear HB1 HNB1
  have n0 := (blk_cell HNB2.out 0).trans rfl
  have n1 := (blk_cell HNB2.out 1).trans rfl
  have n2 := (blk_cell HNB2.out 2).trans rfl
  by_cases q : t < 700
  · have HQ := Aside0.mk (HTS.out q)
    have f1 : decide ((t : Int) ≥ 700) = false := decide_eq_false (by omega)
    have f2 : decide (700 ≤ (t : Int)) = false := decide_eq_false (by omega)
    have HCM := Aside0.mk (show cnt x ≤ 1000000 by have h1 := cnt_siz x; have h2 := HTS.out q; omega)
    have f3 : ¬ 700 ≤ t := by omega
    clear q
    go_upto_region 4 with (go_at_call 17; refine (scansionref08_Nodes.calls K1 x.f0 x.f1 A c x.f2 700 40 _ W2 (Kd.C_below HC.out HB2.out) HCC.out HND.out).mono ?_; rintro e W3 ⟨rfl, hb⟩; have HB3 := Aside0.mk (HB2.out.trans (hb.mono HB2.out.size)); have HNB3 := Aside0.mk (blk_below HNB2.out hb); clear hb n0 n1 n2)
    clear f1 f2 f3 HB2 HNB2
    have n0 := (blk_cell HNB3.out 0).trans rfl
    have n1 := (blk_cell HNB3.out 1).trans rfl
    have n2 := (blk_cell HNB3.out 2).trans rfl
    obtain ⟨r, hr⟩ : ∃ r, r = buildR x := ⟨_, rfl⟩
    have HSH := Aside0.mk (show Short r by rw [hr]; exact build_short x)
    have HFB := Aside0.mk (show follow_Build.f x.f0 x.f1 x.f2 = some (r.1, r.2.1, r.2.2.1, r.2.2.2.1, r.2.2.2.2.1, r.2.2.2.2.2) by unfold follow_Build.f; rw [s24_eta, if_pos HCM.out, ← hr])
    have HRB := Aside0.mk (show scansionref11_Build.f x.f0 x.f1 x.f2 = some (r.1, r.2.1, r.2.2.1, r.2.2.2.1, r.2.2.2.2.1, r.2.2.2.2.2) by unfold scansionref11_Build.f; rw [s24_eta, ← hr])
    clear hr
    go_upto_region 5 with (go_at_call 18; refine (follow_Build.calls x.f0 x.f1 A c x.f2 r.1 r.2.1 r.2.2.1 r.2.2.2.1 r.2.2.2.2.1 r.2.2.2.2.2 W3 (Kd.C_below HC.out HB3.out) HCC.out HFB.out).mono ?_; rintro e W4 ⟨u1, u2, u3, u4, rfl, ho1, ho2, ho3, ho4, hb⟩; have HB4 := Aside0.mk (HB3.out.trans (hb.mono HB3.out.size)); have HNB4 := Aside0.mk (blk_below HNB3.out hb); obtain ⟨A1, c1, rfl⟩ := Kd.R_slice ho1; obtain ⟨A2, c2, rfl⟩ := Kd.R_slice ho2; obtain ⟨A3, c3, rfl⟩ := Kd.R_slice ho3; obtain ⟨A4, c4, rfl⟩ := Kd.R_slice ho4; have HO1 := Aside0.mk (Kd.R_lower ho1 HB3.out.size); have HO2 := Aside0.mk (Kd.R_lower ho2 HB3.out.size); have HO3 := Aside0.mk (Kd.R_lower ho3 HB3.out.size); have HO4 := Aside0.mk (Kd.R_lower ho4 HB3.out.size); clear ho1 ho2 ho3 ho4 hb n0 n1 n2)
    clear HB3 HNB3 
    have hbn := below_alloc (Below.refl W4.heap.size W4) (.cells #[.bool r.1, .slice A1 r.2.1.length c1, .slice A2 r.2.2.1.length c2, .slice A3 r.2.2.2.1.length c3, .slice A4 r.2.2.2.2.1.length c4] 30)
    have HAB1 := Aside0.mk (show AutoC W.heap.size W4.heap.size r (.slice A1 r.2.1.length c1) (.slice A2 r.2.2.1.length c2) (.slice A3 r.2.2.2.1.length c3) (.slice A4 r.2.2.2.2.1.length c4) (W4.alloc (.cells #[.bool r.1, .slice A1 r.2.1.length c1, .slice A2 r.2.2.1.length c2, .slice A3 r.2.2.2.1.length c3, .slice A4 r.2.2.2.2.1.length c4] 30)) from ⟨blk_new _ _, Kd.R_below HO1.out hbn, Kd.R_below HO2.out hbn, Kd.R_below HO3.out hbn, Kd.R_below HO4.out hbn⟩)
    have HBn := Aside0.mk (HB4.out.trans (hbn.mono HB4.out.size))
    have HNBn := Aside0.mk (blk_below HNB4.out hbn)
    clear hbn HO1 HO2 HO3 HO4 HB4 HNB4
    obtain ⟨B1, hB1⟩ : ∃ n, W4.heap.size = n := ⟨_, rfl⟩
    obtain ⟨W5, hW5⟩ : ∃ w, W4.alloc (.cells #[.bool r.1, .slice A1 r.2.1.length c1, .slice A2 r.2.2.1.length c2, .slice A3 r.2.2.2.1.length c3, .slice A4 r.2.2.2.2.1.length c4] 30) = w := ⟨_, rfl⟩
    rw [hB1, hW5] at HAB1
    rw [hW5] at HBn HNBn 
    rw [hW5]
    rw [hB1]
    clear hB1 hW5
    have HB4 := Aside0.mk HBn.out
    have HNB4 := Aside0.mk HNBn.out
    clear HBn HNBn
    have n0 := (blk_cell HNB4.out 0).trans rfl
    have n1 := (blk_cell HNB4.out 1).trans rfl
    have n2 := (blk_cell HNB4.out 2).trans rfl
    go_upto_region 6 with (go_at_call 19; refine (scansionref11_Build.calls x.f0 x.f1 A c x.f2 r.1 r.2.1 r.2.2.1 r.2.2.2.1 r.2.2.2.2.1 r.2.2.2.2.2 W5 (Kd.C_below HC.out HB4.out) HCC.out HRB.out).mono ?_; rintro e W6 ⟨u1, u2, u3, u4, rfl, ho1, ho2, ho3, ho4, hb⟩; have HB6 := Aside0.mk (HB4.out.trans (hb.mono HB4.out.size)); have HNB6 := Aside0.mk (blk_below HNB4.out hb); have HAB1' := Aside0.mk (HAB1.out.later hb); obtain ⟨A5, c5, rfl⟩ := Kd.R_slice ho1; obtain ⟨A6, c6, rfl⟩ := Kd.R_slice ho2; obtain ⟨A7, c7, rfl⟩ := Kd.R_slice ho3; obtain ⟨A8, c8, rfl⟩ := Kd.R_slice ho4; have HO1 := Aside0.mk (Kd.R_lower ho1 HB4.out.size); have HO2 := Aside0.mk (Kd.R_lower ho2 HB4.out.size); have HO3 := Aside0.mk (Kd.R_lower ho3 HB4.out.size); have HO4 := Aside0.mk (Kd.R_lower ho4 HB4.out.size); clear ho1 ho2 ho3 ho4 hb n0 n1 n2)
    clear HB4 HNB4 HAB1
    have hbn := below_alloc (Below.refl W6.heap.size W6) (.cells #[.bool r.1, .slice A5 r.2.1.length c5, .slice A6 r.2.2.1.length c6, .slice A7 r.2.2.2.1.length c7, .slice A8 r.2.2.2.2.1.length c8] 30)
    have HAB2 := Aside0.mk (show AutoC W.heap.size W6.heap.size r (.slice A5 r.2.1.length c5) (.slice A6 r.2.2.1.length c6) (.slice A7 r.2.2.2.1.length c7) (.slice A8 r.2.2.2.2.1.length c8) (W6.alloc (.cells #[.bool r.1, .slice A5 r.2.1.length c5, .slice A6 r.2.2.1.length c6, .slice A7 r.2.2.2.1.length c7, .slice A8 r.2.2.2.2.1.length c8] 30)) from ⟨blk_new _ _, Kd.R_below HO1.out hbn, Kd.R_below HO2.out hbn, Kd.R_below HO3.out hbn, Kd.R_below HO4.out hbn⟩)
    have HBn := Aside0.mk (HB6.out.trans (hbn.mono HB6.out.size))
    have HNBn := Aside0.mk (blk_below HNB6.out hbn)
    have HAB1 := Aside0.mk (HAB1'.out.later hbn)
    clear HAB1'
    clear hbn HO1 HO2 HO3 HO4 HB6 HNB6
    obtain ⟨B2, hB2⟩ : ∃ n, W6.heap.size = n := ⟨_, rfl⟩
    obtain ⟨W7, hW7⟩ : ∃ w, W6.alloc (.cells #[.bool r.1, .slice A5 r.2.1.length c5, .slice A6 r.2.2.1.length c6, .slice A7 r.2.2.2.1.length c7, .slice A8 r.2.2.2.2.1.length c8] 30) = w := ⟨_, rfl⟩
    rw [hB2, hW7] at HAB2
    rw [hW7] at HBn HNBn HAB1
    rw [hW7]
    rw [hB2]
    clear hB2 hW7
    have HB6 := Aside0.mk HBn.out
    have HNB6 := Aside0.mk HNBn.out
    clear HBn HNBn
    obtain ⟨KS, hKS⟩ := same_f r.1 r.2.1 r.2.2.1 r.2.2.2.1 r.2.2.2.2.1 (Nat.le_trans HSH.out.h1 (by decide)) (Nat.le_trans HSH.out.h2 (by decide)) (Nat.le_trans HSH.out.h3 (by decide)) (Nat.le_trans HSH.out.h4 (by decide)) (fun l hl => Nat.le_trans (HSH.out.hr l hl) (by decide))
    have HSM := Aside0.mk (hKS KS (Nat.le_refl _))
    clear hKS
    have z0 := HAB1.out.cells.1
    have z1 := HAB1.out.cells.2.1
    have z2 := HAB1.out.cells.2.2.1
    have z3 := HAB1.out.cells.2.2.2.1
    have z4 := HAB1.out.cells.2.2.2.2
    have y0 := HAB2.out.cells.1
    have y1 := HAB2.out.cells.2.1
    have y2 := HAB2.out.cells.2.2.1
    have y3 := HAB2.out.cells.2.2.2.1
    have y4 := HAB2.out.cells.2.2.2.2
    go_wp2_with (go_at_call 20; refine (scansionref11_Same.calls KS r.1 A1 c1 r.2.1 A2 c2 r.2.2.1 A3 c3 r.2.2.2.1 A4 c4 r.2.2.2.2.1 r.1 A5 c5 r.2.1 A6 c6 r.2.2.1 A7 c7 r.2.2.2.1 A8 c8 r.2.2.2.2.1 true W7 (Kd.R_reads' HAB1.out.r1).2.2 (Kd.R_reads' HAB1.out.r1).2.1 (Kd.R_reads' HAB1.out.r2).2.2 (Kd.R_reads' HAB1.out.r2).2.1 (Kd.R_reads' HAB1.out.r3).2.2 (Kd.R_reads' HAB1.out.r3).2.1 (Kd.R_reads' HAB1.out.r4).2.2 (Kd.R_reads' HAB1.out.r4).2.1 (Kd.R_reads' HAB2.out.r1).2.2 (Kd.R_reads' HAB2.out.r1).2.1 (Kd.R_reads' HAB2.out.r2).2.2 (Kd.R_reads' HAB2.out.r2).2.1 (Kd.R_reads' HAB2.out.r3).2.2 (Kd.R_reads' HAB2.out.r3).2.1 (Kd.R_reads' HAB2.out.r4).2.2 (Kd.R_reads' HAB2.out.r4).2.1 HSM.out).mono ?_; rintro e W8 ⟨rfl, hb⟩; have HB8 := Aside0.mk (HB6.out.trans (hb.mono HB6.out.size)); clear hb)
    go_ret
    exact ⟨by simp, HB8.out⟩
  · have f1 : decide ((t : Int) ≥ 700) = true := decide_eq_true (by omega)
    have f2 : decide (700 ≤ (t : Int)) = true := decide_eq_true (by omega)
    have f3 : 700 ≤ t := by omega
    clear q
    go_wp2_with (go_at_call 17; refine (scansionref08_Nodes.calls K1 x.f0 x.f1 A c x.f2 700 40 _ W2 (Kd.C_below HC.out HB2.out) HCC.out HND.out).mono ?_; rintro e W3 ⟨rfl, hb⟩; have HB3 := Aside0.mk (HB2.out.trans (hb.mono HB2.out.size)); clear hb n0 n1 n2)
    go_ret
    exact ⟨rfl, HB3.out⟩
end Go.Proofs.Ytemlgmkbonpniaa.Print
