/- The maker's node: what it does with cats and signs. · The maker's node: what it does with alternatives. · The maker's node: what it does with a set. -/
import Derived.Test.YtemlgmkbonpniaaRCatM
namespace Go.Proofs.Ytemlgmkbonpniaa.Print
open Go.RowKit Go.Maps Go.Proofs.YtemlgmkbonpniaaW.PrintWords Go.Proofs.YtemlgmkbonpniaaW.PrintLast Go.Proofs.YtemlgmkbonpniaaW.PrintMore
set_option linter.unusedVariables false
set_option linter.unusedSimpArgs false
structure NdS (w0 : World) (MB NB RB : Nat) (vS0 : Value) (W : World) (k s : Int) (kids : List S24) (A : Option Addr) (c : Nat) (st : St) (vS vF : Value) (W' : World) : Prop where
 mm : Mk w0.heap.size MB st.sets st.fol vS vF W'
 tn : Tn w0.heap.size vS0 vS W W'
 nb : W'.heap[NB]? = some (.cells #[.int .i64 k, .int .i64 s, .slice A kids.length c] 24 (0, 0))
 er : Edge W' RB false nilV nilV
 bw : Below w0.heap.size w0 W'
 rb : W.heap.size ≤ RB
 ow : w0.heap.size ≤ W.heap.size
section
variable {w0 W W' W2 : World} {MB NB RB XB : Nat} {vS0 vS vF vS' vF' v1 v2 v : Value} {k s : Int} {kids : List S24} {A : Option Addr} {c : Nat} {st st' : St} {b : Bool}
theorem NdS.later (h : NdS w0 MB NB RB vS0 W k s kids A c st vS vF W') (hb : Below W'.heap.size W' W2) : NdS w0 MB NB RB vS0 W k s kids A c st vS vF W2 :=
 ⟨h.mm.later hb, h.tn.trans (Tn.later hb h.bw.size), blk_below h.nb hb, h.er.later hb, h.bw.trans (hb.mono h.bw.size), h.rb, h.ow⟩
theorem NdS.turn (h : NdS w0 MB NB RB vS0 W k s kids A c st vS vF W') (hm : Mk w0.heap.size MB st'.sets st'.fol vS' vF' W2) (ht : Tn w0.heap.size vS vS' W' W2) : NdS w0 MB NB RB vS0 W k s kids A c st' vS' vF' W2 :=
 ⟨hm, h.tn.trans ht, (ht.blk NB _ 24 h.nb (by decide) (by decide) (by decide)).trans h.nb, h.er.turn ht, h.bw.trans ht.below, h.rb, h.ow⟩
/-- Another edge is written. -/
theorem NdS.far (h : NdS w0 MB NB RB vS0 W k s kids A c st vS vF W') (hk : Edge W' XB b v1 v2) (hne : RB ≠ XB) (hx : W.heap.size ≤ XB) (i : Nat) (u : Value) : NdS w0 MB NB RB vS0 W k s kids A c st vS vF (W'.setCell ⟨XB, i, none⟩ u) := by
 have how := h.ow
 unfold Edge at hk
 refine ⟨h.mm.far hk (by decide) (by decide) (by decide) i u, ⟨h.tn.below.trans ⟨rfl, rfl, rfl, by simp, fun j hj => Below.heap_setCell _ _ _ j (by show j ≠ XB; omega)⟩, fun v xs hr => RowI.far (h.tn.rows v xs hr) hk (by decide) i u, fun k cs t hc e1 e2 e3 => (Below.heap_setCell _ _ _ k (by have := blk_lt hc; show k ≠ XB; omega)).trans (h.tn.blk k cs t hc e1 e2 e3)⟩, blk_grown h.nb (grownBy_set _ _ _ _) (fun e => ?_), h.er.far (fun e => hne e.symm) i u, h.bw.trans ⟨rfl, rfl, rfl, by simp, fun j hj => Below.heap_setCell _ _ _ j (by show j ≠ XB; omega)⟩, h.rb, h.ow⟩
 injection e with e
 subst e
 have := h.nb
 rw [hk] at this
 cases this
end
set_option maxHeartbeats 16000000 in
set_option maxRecDepth 100000 in
theorem node_cat {w0 : World} {MB : Nat} (s : Int) (kids : List S24) (hok : ∀ y ∈ kids, NodeOK w0 MB y) : NodeOK w0 MB ⟨0, s, kids⟩ := by
 intro st vS vF W A c hf hn hm hb hC hc
 replace hC : Kd.C k24 w0 A kids.length kids := hC
 replace hc : kids.length ≤ c := hc
 show Calls Try.prog 51 #[.pointer (some ⟨MB, 0, none⟩), .agg #[.int .i64 0, .int .i64 s, .slice A kids.length c]] W _
 rw [show nodeR (⟨0, s, kids⟩ : S24) st = catR kids st ⟨true, [], []⟩ by rw [nodeR_eq]; rfl]
 replace hn : st.sets.length + cntL kids ≤ 300 := by rw [cnt] at hn; exact hn
 have HF := Aside0.mk hf
 have HN := Aside0.mk hn
 have HM := Aside0.mk hm
 have HB := Aside0.mk hb
 have HC := Aside0.mk hC
 have HCC := Aside0.mk hc
 have HOK := Aside0.mk hok
 clear hok hf hn hm hb hC hc
 go_enter Try.func51, Try.ntmps51
 go_upto_region 8 with fail
 have hsz : (W.alloc (.cells #[.int .i64 0, .int .i64 s, .slice A kids.length c] 24)).heap.size = W.heap.size + 1 := Array.size_push _
 have hbn : Below W.heap.size W ((W.alloc (.cells #[.int .i64 0, .int .i64 s, .slice A kids.length c] 24)).alloc (.cells #[.bool false, nilV, nilV] 77)) := below_alloc (below_alloc (Below.refl _ _) _) _
 have HS0 := Aside0.mk (show NdS w0 MB W.heap.size (W.heap.size + 1) vS W 0 s kids A c st vS vF ((W.alloc (.cells #[.int .i64 0, .int .i64 s, .slice A kids.length c] 24)).alloc (.cells #[.bool false, nilV, nilV] 77)) from
  ⟨HM.out.later hbn, Tn.later hbn HB.out.size, blk_below (blk_new W _) (below_alloc (Below.refl _ _) _), by rw [← hsz]; exact blk_new _ _, HB.out.trans (hbn.mono HB.out.size), by omega, HB.out.size⟩)
 clear hsz hbn
 obtain ⟨RB, hRB⟩ : ∃ n, W.heap.size + 1 = n := ⟨_, rfl⟩
 obtain ⟨NB, hNB⟩ : ∃ n, W.heap.size = n := ⟨_, rfl⟩
 obtain ⟨W1, hW1⟩ : ∃ w, (W.alloc (.cells #[.int .i64 0, .int .i64 s, .slice A kids.length c] 24)).alloc (.cells #[.bool false, nilV, nilV] 77) = w := ⟨_, rfl⟩
 rw [hRB, hNB, hW1] at HS0
 rw [hW1]
 rw [hRB, hNB]
 clear hRB hNB hW1
 obtain ⟨r, hr⟩ : ∃ r, r = catR kids st ⟨true, [], []⟩ := ⟨_, rfl⟩
 have hcat := Aside0.mk (cat_calls kids HOK.out st vS vF W1 A c HF.out HN.out HS0.out.mm HS0.out.bw HC.out HCC.out)
 rw [← hr] at hcat
 have HRR := Aside0.mk hr
 clear hr
 have n0 := (blk_cell HS0.out.nb 0).trans rfl
 have n2 := (blk_cell HS0.out.nb 2).trans rfl
 go_wp2_with (go_at_call 75; refine hcat.out.mono ?_; rintro e W2 ⟨vS2, vF2, u1, u2, rfl, hm2, hu1, hu2, ht2⟩; have HS2 := Aside0.mk (HS0.out.turn hm2 ht2); obtain ⟨M1, d1, rfl⟩ := Kd.R_slice hu1; obtain ⟨M2, d2, rfl⟩ := Kd.R_slice hu2; have HU1 := Aside0.mk hu1; have HU2 := Aside0.mk hu2; clear hm2 hu1 hu2 ht2 n0 n2; have y0 := HS2.out.er.cells.1; have y1 := HS2.out.er.cells.2.1; have y2 := HS2.out.er.cells.2.2; have y3 := HS2.out.er.frozen 0; have y4 := HS2.out.er.frozen 1; have y5 := HS2.out.er.frozen 2)
 have HFI := Aside0.mk (Fin_.all (show Fin_ w0.heap.size MB RB vS W r.1 vS2 vF2 (.slice M1 r.2.first.length d1) (.slice M2 r.2.last.length d2) r.2.first r.2.last W2 false nilV nilV from ⟨HS2.out.er, HS2.out.mm, HS2.out.tn, HU1.out, HU2.out, HS2.out.rb, HS2.out.ow⟩) r.2.null)
 clear y0 y1 y2 y3 y4 y5
 obtain ⟨W9, hW9⟩ : ∃ w, ((W2.setCell ⟨RB, 0, none⟩ (.bool r.2.null)).setCell ⟨RB, 1, none⟩ (.slice M1 r.2.first.length d1)).setCell ⟨RB, 2, none⟩ (.slice M2 r.2.last.length d2) = w := ⟨_, rfl⟩
 rw [hW9] at HFI ⊢
 clear hW9
 refine bodyPost_ret (results_cell_row rfl _ _ RB 77 #[.bool r.2.null, (.slice M1 r.2.first.length d1), (.slice M2 r.2.last.length d2)] (0, 0) _ rfl HFI.out.er Try.underlying77 rfl (by kernel_rfl)) rfl ?_
 rw [← HRR.out]
 exact HFI.out.post
set_option maxHeartbeats 16000000 in
set_option maxRecDepth 100000 in
theorem node_sign3 {w0 : World} {MB : Nat} (s : Int) (kids : List S24) (hok : ∀ y ∈ kids, NodeOK w0 MB y) (h1 : kids.length = 1) : NodeOK w0 MB ⟨3, s, kids⟩ := by
 intro st vS vF W A c hf hn hm hb hC hc
 replace hC : Kd.C k24 w0 A kids.length kids := hC
 replace hc : kids.length ≤ c := hc
 show Calls Try.prog 51 #[.pointer (some ⟨MB, 0, none⟩), .agg #[.int .i64 3, .int .i64 s, .slice A kids.length c]] W _
 have H1 := Aside0.mk h1
 clear h1
 rw [show nodeR (⟨3, s, kids⟩ : S24) st = signR 3 (oneR kids st) by rw [nodeR_eq]; rfl]
 replace hn : st.sets.length + cntL kids ≤ 300 := by rw [cnt] at hn; exact hn
 have HF := Aside0.mk hf
 have HN := Aside0.mk hn
 have HM := Aside0.mk hm
 have HB := Aside0.mk hb
 have HC := Aside0.mk hC
 have HCC := Aside0.mk hc
 have HOK := Aside0.mk hok
 clear hok hf hn hm hb hC hc
 go_enter Try.func51, Try.ntmps51
 go_upto_region 19 with fail
 have hsz : (W.alloc (.cells #[.int .i64 3, .int .i64 s, .slice A kids.length c] 24)).heap.size = W.heap.size + 1 := Array.size_push _
 have hbn : Below W.heap.size W ((W.alloc (.cells #[.int .i64 3, .int .i64 s, .slice A kids.length c] 24)).alloc (.cells #[.bool false, nilV, nilV] 77)) := below_alloc (below_alloc (Below.refl _ _) _) _
 have HS0 := Aside0.mk (show NdS w0 MB W.heap.size (W.heap.size + 1) vS W 3 s kids A c st vS vF ((W.alloc (.cells #[.int .i64 3, .int .i64 s, .slice A kids.length c] 24)).alloc (.cells #[.bool false, nilV, nilV] 77)) from
  ⟨HM.out.later hbn, Tn.later hbn HB.out.size, blk_below (blk_new W _) (below_alloc (Below.refl _ _) _), by rw [← hsz]; exact blk_new _ _, HB.out.trans (hbn.mono HB.out.size), by omega, HB.out.size⟩)
 clear hsz hbn
 obtain ⟨RB, hRB⟩ : ∃ n, W.heap.size + 1 = n := ⟨_, rfl⟩
 obtain ⟨NB, hNB⟩ : ∃ n, W.heap.size = n := ⟨_, rfl⟩
 obtain ⟨W1, hW1⟩ : ∃ w, (W.alloc (.cells #[.int .i64 3, .int .i64 s, .slice A kids.length c] 24)).alloc (.cells #[.bool false, nilV, nilV] 77) = w := ⟨_, rfl⟩
 rw [hRB, hNB, hW1] at HS0
 rw [hW1]
 rw [hRB, hNB]
 clear hRB hNB hW1
 obtain ⟨x, hk⟩ := List.length_eq_one_iff.1 H1.out
 have HK := Aside0.mk hk
 clear hk
 obtain ⟨ad, A2, c2, eA, hx0, hx1, hx2, hl2, hg2⟩ := at_T24 HC.out (0 : Int) (by decide) (by rw [H1.out]; decide)
 have hrd : rd_T24 kids (0 : Int) = x := by rw [HK.out]; rfl
 rw [hrd] at hx0 hx1 hx2 hl2 hg2
 clear hrd
 subst eA
 replace hx0 := cell_keep HS0.out.bw hx0
 replace hx1 := cell_keep HS0.out.bw hx1
 replace hx2 := cell_keep HS0.out.bw hx2
 replace hx0 : W1.cell? ad = some (.int .i64 x.f0) := hx0
 replace hx1 : W1.cell? ⟨ad.block, ad.off + 1, none⟩ = some (.int .i64 x.f1) := hx1
 replace hx2 : W1.cell? ⟨ad.block, ad.off + 2, none⟩ = some (.slice A2 x.f2.length c2) := hx2
 obtain ⟨q, hq⟩ : ∃ q, q = nodeR x st := ⟨_, rfl⟩
 have HMQ := Aside0.mk (show Made st q (cnt x) by rw [hq]; exact nodeR_made x st HF.out)
 have HCN := Aside0.mk (show cntL kids = cnt x by rw [HK.out, cntL, cntL]; rfl)
 have HNODE := Aside0.mk (HOK.out x (by rw [HK.out]; exact List.mem_cons_self) st vS vF W1 A2 c2 HF.out (by have := HCN.out; have := HN.out; omega) HS0.out.mm HS0.out.bw hg2 hl2)
 rw [← hq] at HNODE
 have HOQ := Aside0.mk (show oneR kids st = q by rw [HK.out, oneR, hq])
 clear hq hl2 hg2
 have HLB := Aside0.mk (show q.2.first.length ≤ 300 ∧ q.2.last.length ≤ 300 ∧ q.1.sets.length ≤ 300 by
  have h3 := HMQ.out.good.first.len
  have h4 := HMQ.out.good.last.len
  have h6 := HMQ.out.most
  have := HCN.out
  have := HN.out
  omega)
 have n2 := (blk_cell HS0.out.nb 2).trans rfl
 have p0 : 0 < kids.length := by rw [H1.out]; decide
 have p1 : decide ((0 : Int) < (kids.length : Int)) = true := decide_eq_true (by omega)
 go_upto_region 20 with (go_at_call 51; refine HNODE.out.mono ?_; rintro e W2 ⟨vS2, vF2, u1, u2, rfl, hm2, hu1, hu2, ht2⟩; have HS2 := Aside0.mk (HS0.out.turn hm2 ht2); obtain ⟨M1, d1, rfl⟩ := Kd.R_slice hu1; obtain ⟨M2, d2, rfl⟩ := Kd.R_slice hu2; have HU1 := Aside0.mk hu1; have HU2 := Aside0.mk hu2; clear hm2 hu1 hu2 ht2 hx0 hx1 hx2 n2)
 have hbn : Below W2.heap.size W2 (W2.alloc (.cells #[.bool q.2.null, .slice M1 q.2.first.length d1, .slice M2 q.2.last.length d2] 77)) := below_alloc (Below.refl _ _) _
 have HS3 := Aside0.mk (HS2.out.later hbn)
 have HV1 := Aside0.mk (Kd.R_below HU1.out hbn)
 have HV2 := Aside0.mk (Kd.R_below HU2.out hbn)
 have HX3 := Aside0.mk (show Edge _ W2.heap.size q.2.null _ _ from blk_new W2 (.cells #[.bool q.2.null, .slice M1 q.2.first.length d1, .slice M2 q.2.last.length d2] 77))
 have HXR := Aside0.mk (show RB ≠ W2.heap.size by have := blk_lt HS2.out.er; omega)
 have HXW := Aside0.mk (show W.heap.size ≤ W2.heap.size by have := HS2.out.tn.below.size; omega)
 clear hbn
 obtain ⟨XB, hXB⟩ : ∃ n, W2.heap.size = n := ⟨_, rfl⟩
 obtain ⟨W3, hW3⟩ : ∃ w, W2.alloc (.cells #[.bool q.2.null, .slice M1 q.2.first.length d1, .slice M2 q.2.last.length d2] 77) = w := ⟨_, rfl⟩
 rw [hXB] at HX3 HXR HXW
 rw [hW3] at HS3 HV1 HV2 HX3
 rw [hXB, hW3]
 clear hXB hW3 HS2 HU1 HU2
 have n0 := (blk_cell HS3.out.nb 0).trans rfl
 have x0 := (HX3.out).cells.1
 have x1 := (HX3.out).cells.2.1
 have x2 := (HX3.out).cells.2.2
 have x3 := (HX3.out).frozen 0
 go_upto_region 22 with (go_at_call 77; refine (after_calls (N := q.1.sets.length) M2 d2 q.2.last M1 d1 q.2.first HS3.out.mm HV2.out HV1.out (fun t ht => by have h1 := HMQ.out.good.last.2 t ht; have h3 := HMQ.out.fit.len; omega) HMQ.out.fit.good HMQ.out.good.first (by have := HLB.out; omega) (by have h1 := HMQ.out.fit.len; have := HLB.out; omega) HS3.out.bw.size (by have := HLB.out; omega)).mono ?_; rintro e W4 ⟨rfl, hm4, ht4⟩; have HS4 := Aside0.mk (NdS.turn (st' := ⟨q.1.sets, afterR q.1.fol q.2.last q.2.first⟩) HS3.out hm4 ht4); have HY1 := Aside0.mk (ht4.rows _ _ HV1.out); have HY2 := Aside0.mk (ht4.rows _ _ HV2.out); have HX4 := Aside0.mk (HX3.out.turn ht4); clear hm4 ht4)
 clear n0 x0 x1 x2 x3
 have n0 := (blk_cell HS4.out.nb 0).trans rfl
 have x0 := (HX4.out).cells.1
 have x1 := (HX4.out).cells.2.1
 have x2 := (HX4.out).cells.2.2
 have x3 := (HX4.out).frozen 0
 cases hb0 : q.2.null
 case false =>
  have HBN := Aside0.mk hb0
  rw [hb0] at x0
  clear hb0
  go_upto_region 23 with fail
  clear n0 x0 x1 x2 x3
  have HS5 := Aside0.mk (HS4.out.far HX4.out HXR.out HXW.out 0 (.bool true))
  have HX5 := Aside0.mk (show Edge _ XB true _ _ from blk_put HX4.out 0 (.bool true) rfl)
  have HZ1 := Aside0.mk (RowI.far HY1.out HX4.out (by decide) 0 (.bool true))
  have HZ2 := Aside0.mk (RowI.far HY2.out HX4.out (by decide) 0 (.bool true))
  obtain ⟨W5, hW5⟩ : ∃ w, W4.setCell ⟨XB, 0, none⟩ (.bool true) = w := ⟨_, rfl⟩
  rw [hW5] at HS5 HX5 HZ1 HZ2
  rw [hW5]
  clear hW5
  have x0 := (HX5.out).cells.1
  have x1 := (HX5.out).cells.2.1
  have x2 := (HX5.out).cells.2.2
  have x3 := (HX5.out).frozen 0
  have y0 := HS5.out.er.cells.1
  have y1 := HS5.out.er.cells.2.1
  have y2 := HS5.out.er.cells.2.2
  have y3 := HS5.out.er.frozen 0
  have y4 := HS5.out.er.frozen 1
  have y5 := HS5.out.er.frozen 2
  go_wp2_with fail
  have HFI := Aside0.mk (Fin_.all (show Fin_ w0.heap.size MB RB vS W ⟨q.1.sets, afterR q.1.fol q.2.last q.2.first⟩ vS2 vF2 (.slice M1 q.2.first.length d1) (.slice M2 q.2.last.length d2) q.2.first q.2.last W5 false nilV nilV from ⟨HS5.out.er, HS5.out.mm, HS5.out.tn, HZ1.out, HZ2.out, HS5.out.rb, HS5.out.ow⟩) true)
  clear x0 x1 x2 x3 y0 y1 y2 y3 y4 y5
  obtain ⟨W9, hW9⟩ : ∃ w, ((W5.setCell ⟨RB, 0, none⟩ (.bool true)).setCell ⟨RB, 1, none⟩ (.slice M1 q.2.first.length d1)).setCell ⟨RB, 2, none⟩ (.slice M2 q.2.last.length d2) = w := ⟨_, rfl⟩
  rw [hW9] at HFI ⊢
  clear hW9
  refine bodyPost_ret (results_cell_row rfl _ _ RB 77 #[.bool true, (.slice M1 q.2.first.length d1), (.slice M2 q.2.last.length d2)] (0, 0) _ rfl HFI.out.er Try.underlying77 rfl (by kernel_rfl)) rfl ?_
  rw [HOQ.out]
  rw [show signR 3 q = (⟨q.1.sets, afterR q.1.fol q.2.last q.2.first⟩, ⟨true, q.2.first, q.2.last⟩) by unfold signR; rw [HBN.out]; rfl]
  exact HFI.out.post (r := (⟨q.1.sets, afterR q.1.fol q.2.last q.2.first⟩, ⟨true, q.2.first, q.2.last⟩))
 case true =>
  have HBN := Aside0.mk hb0
  rw [hb0] at x0
  clear hb0
  go_upto_region 23 with fail
  clear n0 x0 x1 x2 x3
  have HS5 := Aside0.mk (HS4.out.far HX4.out HXR.out HXW.out 0 (.bool true))
  have HX5 := Aside0.mk (show Edge _ XB true _ _ from blk_put HX4.out 0 (.bool true) rfl)
  have HZ1 := Aside0.mk (RowI.far HY1.out HX4.out (by decide) 0 (.bool true))
  have HZ2 := Aside0.mk (RowI.far HY2.out HX4.out (by decide) 0 (.bool true))
  obtain ⟨W5, hW5⟩ : ∃ w, W4.setCell ⟨XB, 0, none⟩ (.bool true) = w := ⟨_, rfl⟩
  rw [hW5] at HS5 HX5 HZ1 HZ2
  rw [hW5]
  clear hW5
  have x0 := (HX5.out).cells.1
  have x1 := (HX5.out).cells.2.1
  have x2 := (HX5.out).cells.2.2
  have x3 := (HX5.out).frozen 0
  have y0 := HS5.out.er.cells.1
  have y1 := HS5.out.er.cells.2.1
  have y2 := HS5.out.er.cells.2.2
  have y3 := HS5.out.er.frozen 0
  have y4 := HS5.out.er.frozen 1
  have y5 := HS5.out.er.frozen 2
  go_wp2_with fail
  have HFI := Aside0.mk (Fin_.all (show Fin_ w0.heap.size MB RB vS W ⟨q.1.sets, afterR q.1.fol q.2.last q.2.first⟩ vS2 vF2 (.slice M1 q.2.first.length d1) (.slice M2 q.2.last.length d2) q.2.first q.2.last W5 false nilV nilV from ⟨HS5.out.er, HS5.out.mm, HS5.out.tn, HZ1.out, HZ2.out, HS5.out.rb, HS5.out.ow⟩) true)
  clear x0 x1 x2 x3 y0 y1 y2 y3 y4 y5
  obtain ⟨W9, hW9⟩ : ∃ w, ((W5.setCell ⟨RB, 0, none⟩ (.bool true)).setCell ⟨RB, 1, none⟩ (.slice M1 q.2.first.length d1)).setCell ⟨RB, 2, none⟩ (.slice M2 q.2.last.length d2) = w := ⟨_, rfl⟩
  rw [hW9] at HFI ⊢
  clear hW9
  refine bodyPost_ret (results_cell_row rfl _ _ RB 77 #[.bool true, (.slice M1 q.2.first.length d1), (.slice M2 q.2.last.length d2)] (0, 0) _ rfl HFI.out.er Try.underlying77 rfl (by kernel_rfl)) rfl ?_
  rw [HOQ.out]
  rw [show signR 3 q = (⟨q.1.sets, afterR q.1.fol q.2.last q.2.first⟩, ⟨true, q.2.first, q.2.last⟩) by unfold signR; rw [HBN.out]; rfl]
  exact HFI.out.post (r := (⟨q.1.sets, afterR q.1.fol q.2.last q.2.first⟩, ⟨true, q.2.first, q.2.last⟩))
set_option maxHeartbeats 16000000 in
set_option maxRecDepth 100000 in
theorem node_sign4 {w0 : World} {MB : Nat} (s : Int) (kids : List S24) (hok : ∀ y ∈ kids, NodeOK w0 MB y) (h1 : kids.length = 1) : NodeOK w0 MB ⟨4, s, kids⟩ := by
 intro st vS vF W A c hf hn hm hb hC hc
 replace hC : Kd.C k24 w0 A kids.length kids := hC
 replace hc : kids.length ≤ c := hc
 show Calls Try.prog 51 #[.pointer (some ⟨MB, 0, none⟩), .agg #[.int .i64 4, .int .i64 s, .slice A kids.length c]] W _
 have H1 := Aside0.mk h1
 clear h1
 rw [show nodeR (⟨4, s, kids⟩ : S24) st = signR 4 (oneR kids st) by rw [nodeR_eq]; rfl]
 replace hn : st.sets.length + cntL kids ≤ 300 := by rw [cnt] at hn; exact hn
 have HF := Aside0.mk hf
 have HN := Aside0.mk hn
 have HM := Aside0.mk hm
 have HB := Aside0.mk hb
 have HC := Aside0.mk hC
 have HCC := Aside0.mk hc
 have HOK := Aside0.mk hok
 clear hok hf hn hm hb hC hc
 go_enter Try.func51, Try.ntmps51
 go_upto_region 19 with fail
 have hsz : (W.alloc (.cells #[.int .i64 4, .int .i64 s, .slice A kids.length c] 24)).heap.size = W.heap.size + 1 := Array.size_push _
 have hbn : Below W.heap.size W ((W.alloc (.cells #[.int .i64 4, .int .i64 s, .slice A kids.length c] 24)).alloc (.cells #[.bool false, nilV, nilV] 77)) := below_alloc (below_alloc (Below.refl _ _) _) _
 have HS0 := Aside0.mk (show NdS w0 MB W.heap.size (W.heap.size + 1) vS W 4 s kids A c st vS vF ((W.alloc (.cells #[.int .i64 4, .int .i64 s, .slice A kids.length c] 24)).alloc (.cells #[.bool false, nilV, nilV] 77)) from
  ⟨HM.out.later hbn, Tn.later hbn HB.out.size, blk_below (blk_new W _) (below_alloc (Below.refl _ _) _), by rw [← hsz]; exact blk_new _ _, HB.out.trans (hbn.mono HB.out.size), by omega, HB.out.size⟩)
 clear hsz hbn
 obtain ⟨RB, hRB⟩ : ∃ n, W.heap.size + 1 = n := ⟨_, rfl⟩
 obtain ⟨NB, hNB⟩ : ∃ n, W.heap.size = n := ⟨_, rfl⟩
 obtain ⟨W1, hW1⟩ : ∃ w, (W.alloc (.cells #[.int .i64 4, .int .i64 s, .slice A kids.length c] 24)).alloc (.cells #[.bool false, nilV, nilV] 77) = w := ⟨_, rfl⟩
 rw [hRB, hNB, hW1] at HS0
 rw [hW1]
 rw [hRB, hNB]
 clear hRB hNB hW1
 obtain ⟨x, hk⟩ := List.length_eq_one_iff.1 H1.out
 have HK := Aside0.mk hk
 clear hk
 obtain ⟨ad, A2, c2, eA, hx0, hx1, hx2, hl2, hg2⟩ := at_T24 HC.out (0 : Int) (by decide) (by rw [H1.out]; decide)
 have hrd : rd_T24 kids (0 : Int) = x := by rw [HK.out]; rfl
 rw [hrd] at hx0 hx1 hx2 hl2 hg2
 clear hrd
 subst eA
 replace hx0 := cell_keep HS0.out.bw hx0
 replace hx1 := cell_keep HS0.out.bw hx1
 replace hx2 := cell_keep HS0.out.bw hx2
 replace hx0 : W1.cell? ad = some (.int .i64 x.f0) := hx0
 replace hx1 : W1.cell? ⟨ad.block, ad.off + 1, none⟩ = some (.int .i64 x.f1) := hx1
 replace hx2 : W1.cell? ⟨ad.block, ad.off + 2, none⟩ = some (.slice A2 x.f2.length c2) := hx2
 obtain ⟨q, hq⟩ : ∃ q, q = nodeR x st := ⟨_, rfl⟩
 have HMQ := Aside0.mk (show Made st q (cnt x) by rw [hq]; exact nodeR_made x st HF.out)
 have HCN := Aside0.mk (show cntL kids = cnt x by rw [HK.out, cntL, cntL]; rfl)
 have HNODE := Aside0.mk (HOK.out x (by rw [HK.out]; exact List.mem_cons_self) st vS vF W1 A2 c2 HF.out (by have := HCN.out; have := HN.out; omega) HS0.out.mm HS0.out.bw hg2 hl2)
 rw [← hq] at HNODE
 have HOQ := Aside0.mk (show oneR kids st = q by rw [HK.out, oneR, hq])
 clear hq hl2 hg2
 have HLB := Aside0.mk (show q.2.first.length ≤ 300 ∧ q.2.last.length ≤ 300 ∧ q.1.sets.length ≤ 300 by
  have h3 := HMQ.out.good.first.len
  have h4 := HMQ.out.good.last.len
  have h6 := HMQ.out.most
  have := HCN.out
  have := HN.out
  omega)
 have n2 := (blk_cell HS0.out.nb 2).trans rfl
 have p0 : 0 < kids.length := by rw [H1.out]; decide
 have p1 : decide ((0 : Int) < (kids.length : Int)) = true := decide_eq_true (by omega)
 go_upto_region 20 with (go_at_call 51; refine HNODE.out.mono ?_; rintro e W2 ⟨vS2, vF2, u1, u2, rfl, hm2, hu1, hu2, ht2⟩; have HS2 := Aside0.mk (HS0.out.turn hm2 ht2); obtain ⟨M1, d1, rfl⟩ := Kd.R_slice hu1; obtain ⟨M2, d2, rfl⟩ := Kd.R_slice hu2; have HU1 := Aside0.mk hu1; have HU2 := Aside0.mk hu2; clear hm2 hu1 hu2 ht2 hx0 hx1 hx2 n2)
 have hbn : Below W2.heap.size W2 (W2.alloc (.cells #[.bool q.2.null, .slice M1 q.2.first.length d1, .slice M2 q.2.last.length d2] 77)) := below_alloc (Below.refl _ _) _
 have HS3 := Aside0.mk (HS2.out.later hbn)
 have HV1 := Aside0.mk (Kd.R_below HU1.out hbn)
 have HV2 := Aside0.mk (Kd.R_below HU2.out hbn)
 have HX3 := Aside0.mk (show Edge _ W2.heap.size q.2.null _ _ from blk_new W2 (.cells #[.bool q.2.null, .slice M1 q.2.first.length d1, .slice M2 q.2.last.length d2] 77))
 have HXR := Aside0.mk (show RB ≠ W2.heap.size by have := blk_lt HS2.out.er; omega)
 have HXW := Aside0.mk (show W.heap.size ≤ W2.heap.size by have := HS2.out.tn.below.size; omega)
 clear hbn
 obtain ⟨XB, hXB⟩ : ∃ n, W2.heap.size = n := ⟨_, rfl⟩
 obtain ⟨W3, hW3⟩ : ∃ w, W2.alloc (.cells #[.bool q.2.null, .slice M1 q.2.first.length d1, .slice M2 q.2.last.length d2] 77) = w := ⟨_, rfl⟩
 rw [hXB] at HX3 HXR HXW
 rw [hW3] at HS3 HV1 HV2 HX3
 rw [hXB, hW3]
 clear hXB hW3 HS2 HU1 HU2
 have n0 := (blk_cell HS3.out.nb 0).trans rfl
 have x0 := (HX3.out).cells.1
 have x1 := (HX3.out).cells.2.1
 have x2 := (HX3.out).cells.2.2
 have x3 := (HX3.out).frozen 0
 go_upto_region 22 with (go_at_call 77; refine (after_calls (N := q.1.sets.length) M2 d2 q.2.last M1 d1 q.2.first HS3.out.mm HV2.out HV1.out (fun t ht => by have h1 := HMQ.out.good.last.2 t ht; have h3 := HMQ.out.fit.len; omega) HMQ.out.fit.good HMQ.out.good.first (by have := HLB.out; omega) (by have h1 := HMQ.out.fit.len; have := HLB.out; omega) HS3.out.bw.size (by have := HLB.out; omega)).mono ?_; rintro e W4 ⟨rfl, hm4, ht4⟩; have HS4 := Aside0.mk (NdS.turn (st' := ⟨q.1.sets, afterR q.1.fol q.2.last q.2.first⟩) HS3.out hm4 ht4); have HY1 := Aside0.mk (ht4.rows _ _ HV1.out); have HY2 := Aside0.mk (ht4.rows _ _ HV2.out); have HX4 := Aside0.mk (HX3.out.turn ht4); clear hm4 ht4)
 clear n0 x0 x1 x2 x3
 have n0 := (blk_cell HS4.out.nb 0).trans rfl
 have x0 := (HX4.out).cells.1
 have x1 := (HX4.out).cells.2.1
 have x2 := (HX4.out).cells.2.2
 have x3 := (HX4.out).frozen 0
 cases hb0 : q.2.null
 case false =>
  have HBN := Aside0.mk hb0
  rw [hb0] at x0
  clear hb0
  go_upto_region 23 with fail
  clear n0 x0 x1 x2 x3
  have HS5 := Aside0.mk (HS4.out.far HX4.out HXR.out HXW.out 0 (.bool false))
  have HX5 := Aside0.mk (show Edge _ XB false _ _ from blk_put HX4.out 0 (.bool false) rfl)
  have HZ1 := Aside0.mk (RowI.far HY1.out HX4.out (by decide) 0 (.bool false))
  have HZ2 := Aside0.mk (RowI.far HY2.out HX4.out (by decide) 0 (.bool false))
  obtain ⟨W5, hW5⟩ : ∃ w, W4.setCell ⟨XB, 0, none⟩ (.bool false) = w := ⟨_, rfl⟩
  rw [hW5] at HS5 HX5 HZ1 HZ2
  rw [hW5]
  clear hW5
  have x0 := (HX5.out).cells.1
  have x1 := (HX5.out).cells.2.1
  have x2 := (HX5.out).cells.2.2
  have x3 := (HX5.out).frozen 0
  have y0 := HS5.out.er.cells.1
  have y1 := HS5.out.er.cells.2.1
  have y2 := HS5.out.er.cells.2.2
  have y3 := HS5.out.er.frozen 0
  have y4 := HS5.out.er.frozen 1
  have y5 := HS5.out.er.frozen 2
  go_wp2_with fail
  have HFI := Aside0.mk (Fin_.all (show Fin_ w0.heap.size MB RB vS W ⟨q.1.sets, afterR q.1.fol q.2.last q.2.first⟩ vS2 vF2 (.slice M1 q.2.first.length d1) (.slice M2 q.2.last.length d2) q.2.first q.2.last W5 false nilV nilV from ⟨HS5.out.er, HS5.out.mm, HS5.out.tn, HZ1.out, HZ2.out, HS5.out.rb, HS5.out.ow⟩) false)
  clear x0 x1 x2 x3 y0 y1 y2 y3 y4 y5
  obtain ⟨W9, hW9⟩ : ∃ w, ((W5.setCell ⟨RB, 0, none⟩ (.bool false)).setCell ⟨RB, 1, none⟩ (.slice M1 q.2.first.length d1)).setCell ⟨RB, 2, none⟩ (.slice M2 q.2.last.length d2) = w := ⟨_, rfl⟩
  rw [hW9] at HFI ⊢
  clear hW9
  refine bodyPost_ret (results_cell_row rfl _ _ RB 77 #[.bool false, (.slice M1 q.2.first.length d1), (.slice M2 q.2.last.length d2)] (0, 0) _ rfl HFI.out.er Try.underlying77 rfl (by kernel_rfl)) rfl ?_
  rw [HOQ.out]
  rw [show signR 4 q = (⟨q.1.sets, afterR q.1.fol q.2.last q.2.first⟩, ⟨false, q.2.first, q.2.last⟩) by unfold signR; rw [HBN.out]; rfl]
  exact HFI.out.post (r := (⟨q.1.sets, afterR q.1.fol q.2.last q.2.first⟩, ⟨false, q.2.first, q.2.last⟩))
 case true =>
  have HBN := Aside0.mk hb0
  rw [hb0] at x0
  clear hb0
  go_upto_region 23 with fail
  clear n0 x0 x1 x2 x3
  have HS5 := Aside0.mk (HS4.out.far HX4.out HXR.out HXW.out 0 (.bool true))
  have HX5 := Aside0.mk (show Edge _ XB true _ _ from blk_put HX4.out 0 (.bool true) rfl)
  have HZ1 := Aside0.mk (RowI.far HY1.out HX4.out (by decide) 0 (.bool true))
  have HZ2 := Aside0.mk (RowI.far HY2.out HX4.out (by decide) 0 (.bool true))
  obtain ⟨W5, hW5⟩ : ∃ w, W4.setCell ⟨XB, 0, none⟩ (.bool true) = w := ⟨_, rfl⟩
  rw [hW5] at HS5 HX5 HZ1 HZ2
  rw [hW5]
  clear hW5
  have x0 := (HX5.out).cells.1
  have x1 := (HX5.out).cells.2.1
  have x2 := (HX5.out).cells.2.2
  have x3 := (HX5.out).frozen 0
  have y0 := HS5.out.er.cells.1
  have y1 := HS5.out.er.cells.2.1
  have y2 := HS5.out.er.cells.2.2
  have y3 := HS5.out.er.frozen 0
  have y4 := HS5.out.er.frozen 1
  have y5 := HS5.out.er.frozen 2
  go_wp2_with fail
  have HFI := Aside0.mk (Fin_.all (show Fin_ w0.heap.size MB RB vS W ⟨q.1.sets, afterR q.1.fol q.2.last q.2.first⟩ vS2 vF2 (.slice M1 q.2.first.length d1) (.slice M2 q.2.last.length d2) q.2.first q.2.last W5 false nilV nilV from ⟨HS5.out.er, HS5.out.mm, HS5.out.tn, HZ1.out, HZ2.out, HS5.out.rb, HS5.out.ow⟩) true)
  clear x0 x1 x2 x3 y0 y1 y2 y3 y4 y5
  obtain ⟨W9, hW9⟩ : ∃ w, ((W5.setCell ⟨RB, 0, none⟩ (.bool true)).setCell ⟨RB, 1, none⟩ (.slice M1 q.2.first.length d1)).setCell ⟨RB, 2, none⟩ (.slice M2 q.2.last.length d2) = w := ⟨_, rfl⟩
  rw [hW9] at HFI ⊢
  clear hW9
  refine bodyPost_ret (results_cell_row rfl _ _ RB 77 #[.bool true, (.slice M1 q.2.first.length d1), (.slice M2 q.2.last.length d2)] (0, 0) _ rfl HFI.out.er Try.underlying77 rfl (by kernel_rfl)) rfl ?_
  rw [HOQ.out]
  rw [show signR 4 q = (⟨q.1.sets, afterR q.1.fol q.2.last q.2.first⟩, ⟨true, q.2.first, q.2.last⟩) by unfold signR; rw [HBN.out]; rfl]
  exact HFI.out.post (r := (⟨q.1.sets, afterR q.1.fol q.2.last q.2.first⟩, ⟨true, q.2.first, q.2.last⟩))
set_option maxHeartbeats 16000000 in
set_option maxRecDepth 100000 in
theorem node_sign5 {w0 : World} {MB : Nat} (s : Int) (kids : List S24) (hok : ∀ y ∈ kids, NodeOK w0 MB y) (h1 : kids.length = 1) : NodeOK w0 MB ⟨5, s, kids⟩ := by
 intro st vS vF W A c hf hn hm hb hC hc
 replace hC : Kd.C k24 w0 A kids.length kids := hC
 replace hc : kids.length ≤ c := hc
 show Calls Try.prog 51 #[.pointer (some ⟨MB, 0, none⟩), .agg #[.int .i64 5, .int .i64 s, .slice A kids.length c]] W _
 have H1 := Aside0.mk h1
 clear h1
 rw [show nodeR (⟨5, s, kids⟩ : S24) st = signR 5 (oneR kids st) by rw [nodeR_eq]; rfl]
 replace hn : st.sets.length + cntL kids ≤ 300 := by rw [cnt] at hn; exact hn
 have HF := Aside0.mk hf
 have HN := Aside0.mk hn
 have HM := Aside0.mk hm
 have HB := Aside0.mk hb
 have HC := Aside0.mk hC
 have HCC := Aside0.mk hc
 have HOK := Aside0.mk hok
 clear hok hf hn hm hb hC hc
 go_enter Try.func51, Try.ntmps51
 go_upto_region 19 with fail
 have hsz : (W.alloc (.cells #[.int .i64 5, .int .i64 s, .slice A kids.length c] 24)).heap.size = W.heap.size + 1 := Array.size_push _
 have hbn : Below W.heap.size W ((W.alloc (.cells #[.int .i64 5, .int .i64 s, .slice A kids.length c] 24)).alloc (.cells #[.bool false, nilV, nilV] 77)) := below_alloc (below_alloc (Below.refl _ _) _) _
 have HS0 := Aside0.mk (show NdS w0 MB W.heap.size (W.heap.size + 1) vS W 5 s kids A c st vS vF ((W.alloc (.cells #[.int .i64 5, .int .i64 s, .slice A kids.length c] 24)).alloc (.cells #[.bool false, nilV, nilV] 77)) from
  ⟨HM.out.later hbn, Tn.later hbn HB.out.size, blk_below (blk_new W _) (below_alloc (Below.refl _ _) _), by rw [← hsz]; exact blk_new _ _, HB.out.trans (hbn.mono HB.out.size), by omega, HB.out.size⟩)
 clear hsz hbn
 obtain ⟨RB, hRB⟩ : ∃ n, W.heap.size + 1 = n := ⟨_, rfl⟩
 obtain ⟨NB, hNB⟩ : ∃ n, W.heap.size = n := ⟨_, rfl⟩
 obtain ⟨W1, hW1⟩ : ∃ w, (W.alloc (.cells #[.int .i64 5, .int .i64 s, .slice A kids.length c] 24)).alloc (.cells #[.bool false, nilV, nilV] 77) = w := ⟨_, rfl⟩
 rw [hRB, hNB, hW1] at HS0
 rw [hW1]
 rw [hRB, hNB]
 clear hRB hNB hW1
 obtain ⟨x, hk⟩ := List.length_eq_one_iff.1 H1.out
 have HK := Aside0.mk hk
 clear hk
 obtain ⟨ad, A2, c2, eA, hx0, hx1, hx2, hl2, hg2⟩ := at_T24 HC.out (0 : Int) (by decide) (by rw [H1.out]; decide)
 have hrd : rd_T24 kids (0 : Int) = x := by rw [HK.out]; rfl
 rw [hrd] at hx0 hx1 hx2 hl2 hg2
 clear hrd
 subst eA
 replace hx0 := cell_keep HS0.out.bw hx0
 replace hx1 := cell_keep HS0.out.bw hx1
 replace hx2 := cell_keep HS0.out.bw hx2
 replace hx0 : W1.cell? ad = some (.int .i64 x.f0) := hx0
 replace hx1 : W1.cell? ⟨ad.block, ad.off + 1, none⟩ = some (.int .i64 x.f1) := hx1
 replace hx2 : W1.cell? ⟨ad.block, ad.off + 2, none⟩ = some (.slice A2 x.f2.length c2) := hx2
 obtain ⟨q, hq⟩ : ∃ q, q = nodeR x st := ⟨_, rfl⟩
 have HMQ := Aside0.mk (show Made st q (cnt x) by rw [hq]; exact nodeR_made x st HF.out)
 have HCN := Aside0.mk (show cntL kids = cnt x by rw [HK.out, cntL, cntL]; rfl)
 have HNODE := Aside0.mk (HOK.out x (by rw [HK.out]; exact List.mem_cons_self) st vS vF W1 A2 c2 HF.out (by have := HCN.out; have := HN.out; omega) HS0.out.mm HS0.out.bw hg2 hl2)
 rw [← hq] at HNODE
 have HOQ := Aside0.mk (show oneR kids st = q by rw [HK.out, oneR, hq])
 clear hq hl2 hg2
 have HLB := Aside0.mk (show q.2.first.length ≤ 300 ∧ q.2.last.length ≤ 300 ∧ q.1.sets.length ≤ 300 by
  have h3 := HMQ.out.good.first.len
  have h4 := HMQ.out.good.last.len
  have h6 := HMQ.out.most
  have := HCN.out
  have := HN.out
  omega)
 have n2 := (blk_cell HS0.out.nb 2).trans rfl
 have p0 : 0 < kids.length := by rw [H1.out]; decide
 have p1 : decide ((0 : Int) < (kids.length : Int)) = true := decide_eq_true (by omega)
 go_upto_region 20 with (go_at_call 51; refine HNODE.out.mono ?_; rintro e W2 ⟨vS2, vF2, u1, u2, rfl, hm2, hu1, hu2, ht2⟩; have HS2 := Aside0.mk (HS0.out.turn hm2 ht2); obtain ⟨M1, d1, rfl⟩ := Kd.R_slice hu1; obtain ⟨M2, d2, rfl⟩ := Kd.R_slice hu2; have HU1 := Aside0.mk hu1; have HU2 := Aside0.mk hu2; clear hm2 hu1 hu2 ht2 hx0 hx1 hx2 n2)
 have hbn : Below W2.heap.size W2 (W2.alloc (.cells #[.bool q.2.null, .slice M1 q.2.first.length d1, .slice M2 q.2.last.length d2] 77)) := below_alloc (Below.refl _ _) _
 have HS3 := Aside0.mk (HS2.out.later hbn)
 have HV1 := Aside0.mk (Kd.R_below HU1.out hbn)
 have HV2 := Aside0.mk (Kd.R_below HU2.out hbn)
 have HX3 := Aside0.mk (show Edge _ W2.heap.size q.2.null _ _ from blk_new W2 (.cells #[.bool q.2.null, .slice M1 q.2.first.length d1, .slice M2 q.2.last.length d2] 77))
 have HXR := Aside0.mk (show RB ≠ W2.heap.size by have := blk_lt HS2.out.er; omega)
 have HXW := Aside0.mk (show W.heap.size ≤ W2.heap.size by have := HS2.out.tn.below.size; omega)
 clear hbn
 obtain ⟨XB, hXB⟩ : ∃ n, W2.heap.size = n := ⟨_, rfl⟩
 obtain ⟨W3, hW3⟩ : ∃ w, W2.alloc (.cells #[.bool q.2.null, .slice M1 q.2.first.length d1, .slice M2 q.2.last.length d2] 77) = w := ⟨_, rfl⟩
 rw [hXB] at HX3 HXR HXW
 rw [hW3] at HS3 HV1 HV2 HX3
 rw [hXB, hW3]
 clear hXB hW3 HS2 HU1 HU2
 have n0 := (blk_cell HS3.out.nb 0).trans rfl
 have x0 := (HX3.out).cells.1
 have x1 := (HX3.out).cells.2.1
 have x2 := (HX3.out).cells.2.2
 have x3 := (HX3.out).frozen 0
 cases hb0 : q.2.null
 case false =>
  have HBN := Aside0.mk hb0
  rw [hb0] at x0
  clear hb0
  go_upto_region 23 with fail
  clear n0 x0 x1 x2 x3
  have HS5 := Aside0.mk (HS3.out.far HX3.out HXR.out HXW.out 0 (.bool true))
  have HX5 := Aside0.mk (show Edge _ XB true _ _ from blk_put HX3.out 0 (.bool true) rfl)
  have HZ1 := Aside0.mk (RowI.far HV1.out HX3.out (by decide) 0 (.bool true))
  have HZ2 := Aside0.mk (RowI.far HV2.out HX3.out (by decide) 0 (.bool true))
  obtain ⟨W5, hW5⟩ : ∃ w, W3.setCell ⟨XB, 0, none⟩ (.bool true) = w := ⟨_, rfl⟩
  rw [hW5] at HS5 HX5 HZ1 HZ2
  rw [hW5]
  clear hW5
  have x0 := (HX5.out).cells.1
  have x1 := (HX5.out).cells.2.1
  have x2 := (HX5.out).cells.2.2
  have x3 := (HX5.out).frozen 0
  have y0 := HS5.out.er.cells.1
  have y1 := HS5.out.er.cells.2.1
  have y2 := HS5.out.er.cells.2.2
  have y3 := HS5.out.er.frozen 0
  have y4 := HS5.out.er.frozen 1
  have y5 := HS5.out.er.frozen 2
  go_wp2_with fail
  have HFI := Aside0.mk (Fin_.all (show Fin_ w0.heap.size MB RB vS W ⟨q.1.sets, q.1.fol⟩ vS2 vF2 (.slice M1 q.2.first.length d1) (.slice M2 q.2.last.length d2) q.2.first q.2.last W5 false nilV nilV from ⟨HS5.out.er, HS5.out.mm, HS5.out.tn, HZ1.out, HZ2.out, HS5.out.rb, HS5.out.ow⟩) true)
  clear x0 x1 x2 x3 y0 y1 y2 y3 y4 y5
  obtain ⟨W9, hW9⟩ : ∃ w, ((W5.setCell ⟨RB, 0, none⟩ (.bool true)).setCell ⟨RB, 1, none⟩ (.slice M1 q.2.first.length d1)).setCell ⟨RB, 2, none⟩ (.slice M2 q.2.last.length d2) = w := ⟨_, rfl⟩
  rw [hW9] at HFI ⊢
  clear hW9
  refine bodyPost_ret (results_cell_row rfl _ _ RB 77 #[.bool true, (.slice M1 q.2.first.length d1), (.slice M2 q.2.last.length d2)] (0, 0) _ rfl HFI.out.er Try.underlying77 rfl (by kernel_rfl)) rfl ?_
  rw [HOQ.out]
  rw [show signR 5 q = (⟨q.1.sets, q.1.fol⟩, ⟨true, q.2.first, q.2.last⟩) by unfold signR; rw [HBN.out]; rfl]
  exact HFI.out.post (r := (⟨q.1.sets, q.1.fol⟩, ⟨true, q.2.first, q.2.last⟩))
 case true =>
  have HBN := Aside0.mk hb0
  rw [hb0] at x0
  clear hb0
  go_upto_region 23 with fail
  clear n0 x0 x1 x2 x3
  have HS5 := Aside0.mk (HS3.out.far HX3.out HXR.out HXW.out 0 (.bool true))
  have HX5 := Aside0.mk (show Edge _ XB true _ _ from blk_put HX3.out 0 (.bool true) rfl)
  have HZ1 := Aside0.mk (RowI.far HV1.out HX3.out (by decide) 0 (.bool true))
  have HZ2 := Aside0.mk (RowI.far HV2.out HX3.out (by decide) 0 (.bool true))
  obtain ⟨W5, hW5⟩ : ∃ w, W3.setCell ⟨XB, 0, none⟩ (.bool true) = w := ⟨_, rfl⟩
  rw [hW5] at HS5 HX5 HZ1 HZ2
  rw [hW5]
  clear hW5
  have x0 := (HX5.out).cells.1
  have x1 := (HX5.out).cells.2.1
  have x2 := (HX5.out).cells.2.2
  have x3 := (HX5.out).frozen 0
  have y0 := HS5.out.er.cells.1
  have y1 := HS5.out.er.cells.2.1
  have y2 := HS5.out.er.cells.2.2
  have y3 := HS5.out.er.frozen 0
  have y4 := HS5.out.er.frozen 1
  have y5 := HS5.out.er.frozen 2
  go_wp2_with fail
  have HFI := Aside0.mk (Fin_.all (show Fin_ w0.heap.size MB RB vS W ⟨q.1.sets, q.1.fol⟩ vS2 vF2 (.slice M1 q.2.first.length d1) (.slice M2 q.2.last.length d2) q.2.first q.2.last W5 false nilV nilV from ⟨HS5.out.er, HS5.out.mm, HS5.out.tn, HZ1.out, HZ2.out, HS5.out.rb, HS5.out.ow⟩) true)
  clear x0 x1 x2 x3 y0 y1 y2 y3 y4 y5
  obtain ⟨W9, hW9⟩ : ∃ w, ((W5.setCell ⟨RB, 0, none⟩ (.bool true)).setCell ⟨RB, 1, none⟩ (.slice M1 q.2.first.length d1)).setCell ⟨RB, 2, none⟩ (.slice M2 q.2.last.length d2) = w := ⟨_, rfl⟩
  rw [hW9] at HFI ⊢
  clear hW9
  refine bodyPost_ret (results_cell_row rfl _ _ RB 77 #[.bool true, (.slice M1 q.2.first.length d1), (.slice M2 q.2.last.length d2)] (0, 0) _ rfl HFI.out.er Try.underlying77 rfl (by kernel_rfl)) rfl ?_
  rw [HOQ.out]
  rw [show signR 5 q = (⟨q.1.sets, q.1.fol⟩, ⟨true, q.2.first, q.2.last⟩) by unfold signR; rw [HBN.out]; rfl]
  exact HFI.out.post (r := (⟨q.1.sets, q.1.fol⟩, ⟨true, q.2.first, q.2.last⟩))
end Go.Proofs.Ytemlgmkbonpniaa.Print

namespace Go.Proofs.Ytemlgmkbonpniaa.Print
open Go.RowKit Go.Maps Go.Proofs.YtemlgmkbonpniaaW.PrintWords Go.Proofs.YtemlgmkbonpniaaW.PrintLast Go.Proofs.YtemlgmkbonpniaaW.PrintMore
set_option linter.unusedVariables false
set_option linter.unusedSimpArgs false
theorem nb_set {W : World} {NB OB : Nat} {b : Bool} {v1 v2 : Value} {cs : Array Value} (h : W.heap[NB]? = some (.cells cs 24 (0, 0))) (hk : Edge W OB b v1 v2) (i : Nat) (u : Value) : (W.setCell ⟨OB, i, none⟩ u).heap[NB]? = some (.cells cs 24 (0, 0)) := by
 refine blk_grown h (grownBy_set _ _ _ _) (fun e => ?_)
 injection e with e
 subst e
 unfold Edge at hk
 rw [hk] at h
 cases h
set_option maxHeartbeats 16000000 in
set_option maxRecDepth 100000 in
theorem node_alt {w0 : World} {MB : Nat} (s : Int) (kids : List S24) (hok : ∀ y ∈ kids, NodeOK w0 MB y) : NodeOK w0 MB ⟨2, s, kids⟩ := by
 intro st vS vF W A c hf hn hm hb hC hc
 replace hC : Kd.C k24 w0 A kids.length kids := hC
 replace hc : kids.length ≤ c := hc
 show Calls Try.prog 51 #[.pointer (some ⟨MB, 0, none⟩), .agg #[.int .i64 2, .int .i64 s, .slice A kids.length c]] W _
 rw [show nodeR (⟨2, s, kids⟩ : S24) st = altR kids st ⟨false, [], []⟩ by rw [nodeR_eq]; rfl]
 replace hn : st.sets.length + cntL kids ≤ 300 := by rw [cnt] at hn; exact hn
 have HLL := Aside0.mk (hC.2.1 : kids.length ≤ 9223372036854775807)
 have HF := Aside0.mk hf
 have HN := Aside0.mk hn
 have HM := Aside0.mk hm
 have HB := Aside0.mk hb
 have HC := Aside0.mk hC
 have HCC := Aside0.mk hc
 have HOK := Aside0.mk hok
 clear hok hf hn hm hb hC hc
 go_enter Try.func51, Try.ntmps51
 go_upto_region 10 with fail
 have hsz : (W.alloc (.cells #[.int .i64 2, .int .i64 s, .slice A kids.length c] 24)).heap.size = W.heap.size + 1 := Array.size_push _
 have hbn : Below W.heap.size W ((W.alloc (.cells #[.int .i64 2, .int .i64 s, .slice A kids.length c] 24)).alloc (.cells #[.bool false, nilV, nilV] 77)) := below_alloc (below_alloc (Below.refl _ _) _) _
 have HS0 := Aside0.mk (show NdS w0 MB W.heap.size (W.heap.size + 1) vS W 2 s kids A c st vS vF ((W.alloc (.cells #[.int .i64 2, .int .i64 s, .slice A kids.length c] 24)).alloc (.cells #[.bool false, nilV, nilV] 77)) from
  ⟨HM.out.later hbn, Tn.later hbn HB.out.size, blk_below (blk_new W _) (below_alloc (Below.refl _ _) _), by rw [← hsz]; exact blk_new _ _, HB.out.trans (hbn.mono HB.out.size), by omega, HB.out.size⟩)
 clear hsz hbn
 obtain ⟨RB, hRB⟩ : ∃ n, W.heap.size + 1 = n := ⟨_, rfl⟩
 obtain ⟨NB, hNB⟩ : ∃ n, W.heap.size = n := ⟨_, rfl⟩
 obtain ⟨W1, hW1⟩ : ∃ w, (W.alloc (.cells #[.int .i64 2, .int .i64 s, .slice A kids.length c] 24)).alloc (.cells #[.bool false, nilV, nilV] 77) = w := ⟨_, rfl⟩
 rw [hRB, hNB, hW1] at HS0
 rw [hW1]
 rw [hRB, hNB]
 clear hRB hNB hW1
 go_wp2_with fail
 have hbn : Below W1.heap.size W1 (W1.alloc (.cells #[.bool false, nilV, nilV] 77)) := below_alloc (Below.refl _ _) _
 have HS1 := Aside0.mk (show CatS w0 MB W1.heap.size RB vS W st vS vF ⟨false, [], []⟩ nilV nilV (W1.alloc (.cells #[.bool false, nilV, nilV] 77)) from
  ⟨HS0.out.mm.later hbn, Kd.R_nil _ _ _ _ _, Kd.R_nil _ _ _ _ _, HS0.out.tn.trans (Tn.later hbn HS0.out.bw.size), blk_new _ _, HS0.out.er.later hbn, HS0.out.bw.trans (hbn.mono HS0.out.bw.size), by have := blk_lt HS0.out.er; omega, HS0.out.tn.below.size, HS0.out.rb, HS0.out.ow⟩)
 have HNB1 := Aside0.mk (blk_below HS0.out.nb hbn)
 clear hbn HS0
 obtain ⟨OB, hOB⟩ : ∃ n, W1.heap.size = n := ⟨_, rfl⟩
 rw [hOB] at HS1
 rw [hOB]
 clear hOB
 go_loopg [7] kids.length (fun kq v7 w' => ∃ (i : Nat) (r : St × Ed) (vS1 vF1 v1 v2 : Value), v7 = .int .i64 (i : Int) ∧ Aside0 (i + kq = kids.length) ∧ Aside0 (r = altR (kids.take i) st ⟨false, [], []⟩) ∧ Aside0 (CatS w0 MB OB RB vS W r.1 vS1 vF1 r.2 v1 v2 w') ∧ Aside0 (w'.heap[NB]? = some (.cells #[.int .i64 2, .int .i64 s, .slice A kids.length c] 24 (0, 0))))
 case atStart => exact ⟨0, (st, ⟨false, [], []⟩), vS, vF, nilV, nilV, rfl, ⟨Nat.zero_add _⟩, ⟨by rw [List.take_zero, altR]⟩, HS1, HNB1⟩
 case round =>
  clear HS1 HNB1
  obtain ⟨i, r, vS1, vF1, v1, v2, rfl, HK, HRR, HS, HNB⟩ := hrel
  have n2 := (blk_cell HNB.out 2).trans rfl
  obtain ⟨L1, k1, rfl⟩ := Kd.R_slice HS.out.f1
  obtain ⟨L2, k2, rfl⟩ := Kd.R_slice HS.out.f2
  by_cases q0 : gk = 0
  ·have f1 : ¬ i < kids.length := by have := HK.out; omega
   have f2 : decide ((i : Int) < (kids.length : Int)) = false := decide_eq_false (by omega)
   have HE := Aside0.mk (show r = altR kids st ⟨false, [], []⟩ by rw [HRR.out, List.take_of_length_le (by omega)])
   clear q0
   have z0 := HS.out.eo.cells.1
   have z1 := HS.out.eo.cells.2.1
   have z2 := HS.out.eo.cells.2.2
   have y0 := HS.out.er.cells.1
   have y1 := HS.out.er.cells.2.1
   have y2 := HS.out.er.cells.2.2
   have y3 := HS.out.er.frozen 0
   have y4 := HS.out.er.frozen 1
   have y5 := HS.out.er.frozen 2
   go_wp2_with fail
   have HFI := Aside0.mk (Fin_.all (show Fin_ w0.heap.size MB RB vS W r.1 vS1 vF1 (.slice L1 r.2.first.length k1) (.slice L2 r.2.last.length k2) r.2.first r.2.last wr false nilV nilV from ⟨HS.out.er, HS.out.mm, HS.out.tn, HS.out.f1, HS.out.f2, HS.out.rb, HS.out.ow⟩) r.2.null)
   clear z0 z1 z2 y0 y1 y2 y3 y4 y5
   obtain ⟨W9, hW9⟩ : ∃ w, ((wr.setCell ⟨RB, 0, none⟩ (.bool r.2.null)).setCell ⟨RB, 1, none⟩ (.slice L1 r.2.first.length k1)).setCell ⟨RB, 2, none⟩ (.slice L2 r.2.last.length k2) = w := ⟨_, rfl⟩
   rw [hW9] at HFI ⊢
   clear hW9
   refine bodyPost_ret (results_cell_row rfl _ _ RB 77 #[.bool r.2.null, (.slice L1 r.2.first.length k1), (.slice L2 r.2.last.length k2)] (0, 0) _ rfl HFI.out.er Try.underlying77 rfl (by kernel_rfl)) rfl ?_
   rw [← HE.out]
   exact HFI.out.post
  ·have HQ := Aside0.mk q0
   clear q0
   have HIL := Aside0.mk (show i < kids.length by have := HK.out; have := HQ.out; omega)
   obtain ⟨ad, A2, c2, eA, hx0, hx1, hx2, hl2, hg2⟩ := at_T24 HC.out (i : Int) (Int.natCast_nonneg i) (by have := HIL.out; omega)
   rw [Int.toNat_natCast] at hx0 hx1 hx2
   obtain ⟨x, hx⟩ : ∃ x, x = rd_T24 kids (i : Int) := ⟨_, rfl⟩
   rw [← hx] at hx0 hx1 hx2 hl2 hg2
   have HXX := Aside0.mk hx
   have HMEM := Aside0.mk (show x ∈ kids by rw [hx, rd_get HIL.out]; exact List.getElem_mem _)
   have HCNT := Aside0.mk (show cntL (kids.take i) + cnt x ≤ cntL kids by rw [hx]; exact cnt_rd HIL.out)
   subst eA
   replace hx0 := cell_keep HS.out.bw hx0
   replace hx1 := cell_keep HS.out.bw hx1
   replace hx2 := cell_keep HS.out.bw hx2
   have HMR := Aside0.mk (show Made st r (cntL (kids.take i)) by rw [HRR.out]; exact altR_made _ _ _ HF.out ⟨good_nil _, good_nil _⟩)
   obtain ⟨q, hq⟩ : ∃ q, q = nodeR x r.1 := ⟨_, rfl⟩
   have HMQ := Aside0.mk (show Made r.1 q (cnt x) by rw [hq]; exact nodeR_made x r.1 HMR.out.fit)
   have HNODE := Aside0.mk (HOK.out x HMEM.out r.1 vS1 vF1 wr A2 c2 HMR.out.fit (by have := HMR.out.most; have := HCNT.out; have := HN.out; omega) HS.out.mm HS.out.bw hg2 hl2)
   rw [← hq] at HNODE
   have HQQ := Aside0.mk hq
   have HLB := Aside0.mk (show r.2.first.length ≤ 300 ∧ r.2.last.length ≤ 300 ∧ q.2.first.length ≤ 300 ∧ q.2.last.length ≤ 300 ∧ q.1.sets.length ≤ 300 by
    have h1 := HMR.out.good.first.len
    have h2 := HMR.out.good.last.len
    have h3 := HMQ.out.good.first.len
    have h4 := HMQ.out.good.last.len
    have h5 := HMR.out.most
    have h6 := HMQ.out.most
    have := HCNT.out
    have := HN.out
    omega)
   clear hq hx hl2 hg2
   have f1 : i < kids.length := HIL.out
   have f2 : decide ((i : Int) < (kids.length : Int)) = true := decide_eq_true (by omega)
   have f3 : 0 ≤ (i : Int) := Int.natCast_nonneg i
   go_upto_region 15 with (go_at_call 51; refine HNODE.out.mono ?_; rintro e W2 ⟨vS2, vF2, u1, u2, rfl, hm2, hu1, hu2, ht2⟩; have HM2 := Aside0.mk hm2; have HT2 := Aside0.mk ht2; have HNB2 := Aside0.mk ((ht2.blk NB _ 24 HNB.out (by decide) (by decide) (by decide)).trans HNB.out); obtain ⟨M1, d1, rfl⟩ := Kd.R_slice hu1; obtain ⟨M2, d2, rfl⟩ := Kd.R_slice hu2; have HU1 := Aside0.mk hu1; have HU2 := Aside0.mk hu2; clear hm2 hu1 hu2 ht2 hx0 hx1 hx2 n2)
   have hbn : Below W2.heap.size W2 (W2.alloc (.cells #[.bool q.2.null, .slice M1 q.2.first.length d1, .slice M2 q.2.last.length d2] 77)) := below_alloc (Below.refl _ _) _
   have HS2 := Aside0.mk (HS.out.turn HM2.out HT2.out)
   have HI3 := Aside0.mk (show CatI w0 MB OB RB W2.heap.size vS W q.1 vS2 vF2 r.2 (.slice L1 r.2.first.length k1) (.slice L2 r.2.last.length k2) q.2 (.slice M1 q.2.first.length d1) (.slice M2 q.2.last.length d2) (W2.alloc (.cells #[.bool q.2.null, .slice M1 q.2.first.length d1, .slice M2 q.2.last.length d2] 77)) from
    ⟨HS2.out.later hbn, Kd.R_below HU1.out hbn, Kd.R_below HU2.out hbn, blk_new _ _, by have := blk_lt HS2.out.eo; omega⟩)
   have HNB3 := Aside0.mk (blk_below HNB2.out hbn)
   clear hbn HS2 HM2 HT2 HU1 HU2 HS
   obtain ⟨XB, hXB⟩ : ∃ n, W2.heap.size = n := ⟨_, rfl⟩
   obtain ⟨W3, hW3⟩ : ∃ w, W2.alloc (.cells #[.bool q.2.null, .slice M1 q.2.first.length d1, .slice M2 q.2.last.length d2] 77) = w := ⟨_, rfl⟩
   rw [hXB, hW3] at HI3
   rw [hW3] at HNB3
   rw [hXB, hW3]
   clear hXB hW3
   cases hbo : r.2.null
   case false =>
    have HBO := Aside0.mk hbo
    have z0 := (HI3.out).s.eo.cells.1
    have z1 := (HI3.out).s.eo.cells.2.1
    have z2 := (HI3.out).s.eo.cells.2.2
    have z3 := (HI3.out).ex.cells.1
    have z4 := (HI3.out).ex.cells.2.1
    have z5 := (HI3.out).ex.cells.2.2
    have z6 := (HI3.out).s.eo.frozen 0
    have z7 := (HI3.out).s.eo.frozen 1
    have z8 := (HI3.out).s.eo.frozen 2
    rw [hbo] at z0
    clear hbo
    go_upto_region 16 with fail
    clear z0 z1 z2 z3 z4 z5 z6 z7 z8
    have HI4 := Aside0.mk (HI3.out.set 0 (.bool q.2.null) ⟨q.2.null, r.2.first, r.2.last⟩ _ _ rfl HI3.out.s.f1 HI3.out.s.f2)
    have HNB4 := Aside0.mk (nb_set HNB3.out HI3.out.s.eo 0 (.bool q.2.null))
    obtain ⟨W4, hW4⟩ : ∃ w, W3.setCell ⟨OB, 0, none⟩ (.bool q.2.null) = w := ⟨_, rfl⟩
    rw [hW4] at HI4 HNB4
    rw [hW4]
    clear hW4
    have z0 := (HI4.out).s.eo.cells.1
    have z1 := (HI4.out).s.eo.cells.2.1
    have z2 := (HI4.out).s.eo.cells.2.2
    have z3 := (HI4.out).ex.cells.1
    have z4 := (HI4.out).ex.cells.2.1
    have z5 := (HI4.out).ex.cells.2.2
    have z6 := (HI4.out).s.eo.frozen 0
    have z7 := (HI4.out).s.eo.frozen 1
    have z8 := (HI4.out).s.eo.frozen 2
    go_upto_region 17 with (go_at_call 76; refine (both_calls L1 k1 r.2.first M1 d1 q.2.first W4 (Kd.R_reads' HI4.out.s.f1).2.2 (Kd.R_reads' HI4.out.s.f1).2.1 (Kd.R_reads' HI4.out.g1).2.2 (Kd.R_reads' HI4.out.g1).2.1 (by have := HLB.out; omega)).mono ?_; rintro e W5 ⟨A5, c5, rfl, hb5, hcm5⟩; have HI5 := Aside0.mk (HI4.out.later hb5); have HNB5 := Aside0.mk (blk_below HNB4.out hb5); have HV5 := Aside0.mk (Came.rowI hcm5 HI4.out.s.f1 HI4.out.s.mm hb5 HI4.out.s.bw.size); clear z0 z1 z2 z3 z4 z5 z6 z7 z8; have z0 := (HI5.out).s.eo.cells.1; have z1 := (HI5.out).s.eo.cells.2.1; have z2 := (HI5.out).s.eo.cells.2.2; have z3 := (HI5.out).ex.cells.1; have z4 := (HI5.out).ex.cells.2.1; have z5 := (HI5.out).ex.cells.2.2; have z6 := (HI5.out).s.eo.frozen 0; have z7 := (HI5.out).s.eo.frozen 1; have z8 := (HI5.out).s.eo.frozen 2; clear hb5 hcm5)
    clear z0 z1 z2 z3 z4 z5 z6 z7 z8
    have HI6 := Aside0.mk (HI5.out.set 1 (.slice A5 (bothR r.2.first q.2.first).length c5) ⟨q.2.null, bothR r.2.first q.2.first, r.2.last⟩ _ _ rfl HV5.out HI5.out.s.f2)
    have HNB6 := Aside0.mk (nb_set HNB5.out HI5.out.s.eo 1 (.slice A5 (bothR r.2.first q.2.first).length c5))
    obtain ⟨W6, hW6⟩ : ∃ w, W5.setCell ⟨OB, 1, none⟩ (.slice A5 (bothR r.2.first q.2.first).length c5) = w := ⟨_, rfl⟩
    rw [hW6] at HI6 HNB6
    rw [hW6]
    clear hW6
    have z0 := (HI6.out).s.eo.cells.1
    have z1 := (HI6.out).s.eo.cells.2.1
    have z2 := (HI6.out).s.eo.cells.2.2
    have z3 := (HI6.out).ex.cells.1
    have z4 := (HI6.out).ex.cells.2.1
    have z5 := (HI6.out).ex.cells.2.2
    have z6 := (HI6.out).s.eo.frozen 0
    have z7 := (HI6.out).s.eo.frozen 1
    have z8 := (HI6.out).s.eo.frozen 2
    go_wp2_with (go_at_call 76; refine (both_calls L2 k2 r.2.last M2 d2 q.2.last W6 (Kd.R_reads' HI6.out.s.f2).2.2 (Kd.R_reads' HI6.out.s.f2).2.1 (Kd.R_reads' HI6.out.g2).2.2 (Kd.R_reads' HI6.out.g2).2.1 (by have := HLB.out; omega)).mono ?_; rintro e W7 ⟨A7, c7, rfl, hb7, hcm7⟩; have HI7 := Aside0.mk (HI6.out.later hb7); have HNB7 := Aside0.mk (blk_below HNB6.out hb7); have HV7 := Aside0.mk (Came.rowI hcm7 HI6.out.s.f2 HI6.out.s.mm hb7 HI6.out.s.bw.size); clear z0 z1 z2 z3 z4 z5 z6 z7 z8; have z0 := (HI7.out).s.eo.cells.1; have z1 := (HI7.out).s.eo.cells.2.1; have z2 := (HI7.out).s.eo.cells.2.2; have z3 := (HI7.out).ex.cells.1; have z4 := (HI7.out).ex.cells.2.1; have z5 := (HI7.out).ex.cells.2.2; have z6 := (HI7.out).s.eo.frozen 0; have z7 := (HI7.out).s.eo.frozen 1; have z8 := (HI7.out).s.eo.frozen 2; clear hb7 hcm7)
    clear z0 z1 z2 z3 z4 z5 z6 z7 z8
    have HI8 := Aside0.mk (HI7.out.set 2 (.slice A7 (bothR r.2.last q.2.last).length c7) ⟨q.2.null, bothR r.2.first q.2.first, bothR r.2.last q.2.last⟩ _ _ rfl HI7.out.s.f1 HV7.out)
    have HNB8 := Aside0.mk (nb_set HNB7.out HI7.out.s.eo 2 (.slice A7 (bothR r.2.last q.2.last).length c7))
    go_roundg (gk - 1)
    case measure => have := HQ.out; omega
    case rel =>
     refine ⟨i + 1, altOne q r.2, vS2, vF2, (.slice A5 (bothR r.2.first q.2.first).length c5), (.slice A7 (bothR r.2.last q.2.last).length c7), by rw [show wrap64 ((i : Int) + 1) = ((i + 1 : Nat) : Int) by have := HIL.out; have := HLL.out; unfold wrap64; omega], ⟨by have := HK.out; have := HQ.out; omega⟩, ⟨by rw [take_rd HIL.out, altR_snoc, ← HRR.out, ← HXX.out, ← HQQ.out]⟩, ⟨?_⟩, HNB8⟩
     have he : altOne q r.2 = (q.1, ⟨q.2.null, bothR r.2.first q.2.first, bothR r.2.last q.2.last⟩) := by unfold altOne; rw [HBO.out]; rfl
     rw [he]
     exact HI8.out.s
   case true =>
    have HBO := Aside0.mk hbo
    have z0 := (HI3.out).s.eo.cells.1
    have z1 := (HI3.out).s.eo.cells.2.1
    have z2 := (HI3.out).s.eo.cells.2.2
    have z3 := (HI3.out).ex.cells.1
    have z4 := (HI3.out).ex.cells.2.1
    have z5 := (HI3.out).ex.cells.2.2
    have z6 := (HI3.out).s.eo.frozen 0
    have z7 := (HI3.out).s.eo.frozen 1
    have z8 := (HI3.out).s.eo.frozen 2
    rw [hbo] at z0
    clear hbo
    go_upto_region 16 with fail
    clear z0 z1 z2 z3 z4 z5 z6 z7 z8
    have HI4 := Aside0.mk (HI3.out.set 0 (.bool true) ⟨true, r.2.first, r.2.last⟩ _ _ rfl HI3.out.s.f1 HI3.out.s.f2)
    have HNB4 := Aside0.mk (nb_set HNB3.out HI3.out.s.eo 0 (.bool true))
    obtain ⟨W4, hW4⟩ : ∃ w, W3.setCell ⟨OB, 0, none⟩ (.bool true) = w := ⟨_, rfl⟩
    rw [hW4] at HI4 HNB4
    rw [hW4]
    clear hW4
    have z0 := (HI4.out).s.eo.cells.1
    have z1 := (HI4.out).s.eo.cells.2.1
    have z2 := (HI4.out).s.eo.cells.2.2
    have z3 := (HI4.out).ex.cells.1
    have z4 := (HI4.out).ex.cells.2.1
    have z5 := (HI4.out).ex.cells.2.2
    have z6 := (HI4.out).s.eo.frozen 0
    have z7 := (HI4.out).s.eo.frozen 1
    have z8 := (HI4.out).s.eo.frozen 2
    go_upto_region 17 with (go_at_call 76; refine (both_calls L1 k1 r.2.first M1 d1 q.2.first W4 (Kd.R_reads' HI4.out.s.f1).2.2 (Kd.R_reads' HI4.out.s.f1).2.1 (Kd.R_reads' HI4.out.g1).2.2 (Kd.R_reads' HI4.out.g1).2.1 (by have := HLB.out; omega)).mono ?_; rintro e W5 ⟨A5, c5, rfl, hb5, hcm5⟩; have HI5 := Aside0.mk (HI4.out.later hb5); have HNB5 := Aside0.mk (blk_below HNB4.out hb5); have HV5 := Aside0.mk (Came.rowI hcm5 HI4.out.s.f1 HI4.out.s.mm hb5 HI4.out.s.bw.size); clear z0 z1 z2 z3 z4 z5 z6 z7 z8; have z0 := (HI5.out).s.eo.cells.1; have z1 := (HI5.out).s.eo.cells.2.1; have z2 := (HI5.out).s.eo.cells.2.2; have z3 := (HI5.out).ex.cells.1; have z4 := (HI5.out).ex.cells.2.1; have z5 := (HI5.out).ex.cells.2.2; have z6 := (HI5.out).s.eo.frozen 0; have z7 := (HI5.out).s.eo.frozen 1; have z8 := (HI5.out).s.eo.frozen 2; clear hb5 hcm5)
    clear z0 z1 z2 z3 z4 z5 z6 z7 z8
    have HI6 := Aside0.mk (HI5.out.set 1 (.slice A5 (bothR r.2.first q.2.first).length c5) ⟨true, bothR r.2.first q.2.first, r.2.last⟩ _ _ rfl HV5.out HI5.out.s.f2)
    have HNB6 := Aside0.mk (nb_set HNB5.out HI5.out.s.eo 1 (.slice A5 (bothR r.2.first q.2.first).length c5))
    obtain ⟨W6, hW6⟩ : ∃ w, W5.setCell ⟨OB, 1, none⟩ (.slice A5 (bothR r.2.first q.2.first).length c5) = w := ⟨_, rfl⟩
    rw [hW6] at HI6 HNB6
    rw [hW6]
    clear hW6
    have z0 := (HI6.out).s.eo.cells.1
    have z1 := (HI6.out).s.eo.cells.2.1
    have z2 := (HI6.out).s.eo.cells.2.2
    have z3 := (HI6.out).ex.cells.1
    have z4 := (HI6.out).ex.cells.2.1
    have z5 := (HI6.out).ex.cells.2.2
    have z6 := (HI6.out).s.eo.frozen 0
    have z7 := (HI6.out).s.eo.frozen 1
    have z8 := (HI6.out).s.eo.frozen 2
    go_wp2_with (go_at_call 76; refine (both_calls L2 k2 r.2.last M2 d2 q.2.last W6 (Kd.R_reads' HI6.out.s.f2).2.2 (Kd.R_reads' HI6.out.s.f2).2.1 (Kd.R_reads' HI6.out.g2).2.2 (Kd.R_reads' HI6.out.g2).2.1 (by have := HLB.out; omega)).mono ?_; rintro e W7 ⟨A7, c7, rfl, hb7, hcm7⟩; have HI7 := Aside0.mk (HI6.out.later hb7); have HNB7 := Aside0.mk (blk_below HNB6.out hb7); have HV7 := Aside0.mk (Came.rowI hcm7 HI6.out.s.f2 HI6.out.s.mm hb7 HI6.out.s.bw.size); clear z0 z1 z2 z3 z4 z5 z6 z7 z8; have z0 := (HI7.out).s.eo.cells.1; have z1 := (HI7.out).s.eo.cells.2.1; have z2 := (HI7.out).s.eo.cells.2.2; have z3 := (HI7.out).ex.cells.1; have z4 := (HI7.out).ex.cells.2.1; have z5 := (HI7.out).ex.cells.2.2; have z6 := (HI7.out).s.eo.frozen 0; have z7 := (HI7.out).s.eo.frozen 1; have z8 := (HI7.out).s.eo.frozen 2; clear hb7 hcm7)
    clear z0 z1 z2 z3 z4 z5 z6 z7 z8
    have HI8 := Aside0.mk (HI7.out.set 2 (.slice A7 (bothR r.2.last q.2.last).length c7) ⟨true, bothR r.2.first q.2.first, bothR r.2.last q.2.last⟩ _ _ rfl HI7.out.s.f1 HV7.out)
    have HNB8 := Aside0.mk (nb_set HNB7.out HI7.out.s.eo 2 (.slice A7 (bothR r.2.last q.2.last).length c7))
    go_roundg (gk - 1)
    case measure => have := HQ.out; omega
    case rel =>
     refine ⟨i + 1, altOne q r.2, vS2, vF2, (.slice A5 (bothR r.2.first q.2.first).length c5), (.slice A7 (bothR r.2.last q.2.last).length c7), by rw [show wrap64 ((i : Int) + 1) = ((i + 1 : Nat) : Int) by have := HIL.out; have := HLL.out; unfold wrap64; omega], ⟨by have := HK.out; have := HQ.out; omega⟩, ⟨by rw [take_rd HIL.out, altR_snoc, ← HRR.out, ← HXX.out, ← HQQ.out]⟩, ⟨?_⟩, HNB8⟩
     have he : altOne q r.2 = (q.1, ⟨true, bothR r.2.first q.2.first, bothR r.2.last q.2.last⟩) := by unfold altOne; rw [HBO.out]; rfl
     rw [he]
     exact HI8.out.s
end Go.Proofs.Ytemlgmkbonpniaa.Print

namespace Go.Proofs.Ytemlgmkbonpniaa.Print
open Go.RowKit Go.Maps Go.Proofs.YtemlgmkbonpniaaW.PrintWords Go.Proofs.YtemlgmkbonpniaaW.PrintLast Go.Proofs.YtemlgmkbonpniaaW.PrintMore
set_option linter.unusedVariables false
set_option linter.unusedSimpArgs false
def leaf_T3 : Bool × List (List Nat × List Nat) := (true, [([], []), ([], []), ([1], [1]), ([2], [2]), ([3], [3]), ([], []), ([5], [5]), ([6], [6]), ([4, 7], [4, 7]), ([0, 0, 1, 2, 3, 4, 5, 6, 7, 8], [0]), ([9, 0, 1, 2, 3, 4, 5, 6, 7, 8], [9]), ([10, 8, 8, 0, 1, 2, 3, 4, 5, 6, 7, 8], [8, 10])])
def leaf_B3 : List Nat := [0, 0, 2, 6, 14, 0, 32, 96, 254, 511, 1023, 2047]
theorem leaf_tab3 : rtab .any (opsOf Try.f51 3) = leaf_T3 := by kernel_rfl
theorem leaf_bits3 : waitsOk leaf_T3.2 leaf_B3 = true := by kernel_rfl

section
variable {W W1 : World} {b0 MB : Nat} {sets sets' : List Int} {fol fol' : List (List Int)} {vS vF v1 : Value}
/-- The sets have grown. -/
theorem Mk.newSets (h : Mk b0 MB sets fol vS vF W) (hg : W.grownBy W1 vS.ownBlock) (hat : v1.ownBlock = vS.ownBlock ∨ ∃ b, v1.ownBlock = some b ∧ W.heap.size ≤ b) (hR : Kd.R (Kd.int .i64) 3 W1 b0 (fun _ => True) v1 sets') (h0 : b0 ≤ W.heap.size) :
  Mk b0 MB sets' fol v1 vF (W1.setCell ⟨MB, 0, none⟩ v1) ∧ Tn b0 vS v1 W (W1.setCell ⟨MB, 0, none⟩ v1) := by
 have hb1 := blk_grown h.blk hg (Kd.R_ne h.sets h.blk (by decide))
 have hM := h.hM
 have hrow : ∀ v xs, RowI b0 vS W v xs → RowI b0 v1 W1 v xs := fun v xs hr =>
  Kd.R_mono (Kd.R_after (ok := fun _ => True) (Kd.R_mono hr (fun k hk => ⟨trivial, hk⟩)) hg hat) (fun k hk => hk.2)
 refine ⟨⟨blk_put hb1 0 v1 rfl, Kd.R_set hR hb1 (fun q hq => by simp [Kd.int, Kd.scalar] at hq; omega) 0 v1, ?_, hM⟩, ⟨?_, fun v xs hr => RowI.far (hrow v xs hr) hb1 (by decide) 0 v1, fun k cs t hk h3 _ h75 => ?_⟩⟩
 ·refine Kd.R_set ?_ hb1 (fun q hq => by simp [kL, Kd.slice, Kd.int, Kd.scalar] at hq; omega) 0 v1
  exact Kd.R_mono (Kd.R_after (ok := fun _ => True) (Kd.R_mono h.fol (fun k hk => ⟨trivial, hk⟩)) hg hat) (fun k hk => hk.2)
 ·exact (Below.grown (Below.refl b0 W) hg h0 (fun k hk => Kd.R_base h.sets k hk)).trans ⟨rfl, rfl, rfl, by simp, fun j hj => Below.heap_setCell _ _ _ j (by show j ≠ MB; omega)⟩
 ·refine (Below.heap_setCell _ _ _ k (fun e => ?_)).trans (hg.block k (blk_lt hk) (fun e => ?_))
  ·replace e : k = MB := e
   subst e
   rw [h.blk] at hk
   cases hk
   exact h75 rfl
  ·obtain ⟨cs', hc⟩ := Kd.R_typed h.sets k e.symm
   rw [hk] at hc
   cases hc
   exact h3 rfl
/-- What follows has grown. -/
theorem Mk.newFol (h : Mk b0 MB sets fol vS vF W) (hg : W.grownBy W1 vF.ownBlock) (hR : Kd.R kL 27 W1 b0 (fun k => some k ≠ vS.ownBlock) v1 fol') (h0 : b0 ≤ W.heap.size) :
  Mk b0 MB sets fol' vS v1 (W1.setCell ⟨MB, 1, none⟩ v1) ∧ Tn b0 vS vS W (W1.setCell ⟨MB, 1, none⟩ v1) := by
 have hb1 := blk_grown h.blk hg (Kd.R_ne h.fol h.blk (by decide))
 have hM := h.hM
 have hrow : ∀ (ok : Nat → Prop) v xs, Kd.R (Kd.int .i64) 3 W b0 ok v xs → Kd.R (Kd.int .i64) 3 W1 b0 ok v xs := fun ok v xs hr =>
  Kd.R_mono (Kd.R_step (Kd.R_bound hr) (fun k hk hlt => hg.block k hlt (fun e => by
   obtain ⟨_, _, _, q, hq, cs, hc⟩ := hk
   obtain ⟨cs', hc'⟩ := Kd.R_typed h.fol k e.symm
   have hq3 : q = 3 := by simpa [Kd.int, Kd.scalar] using hq
   rw [hc] at hc'
   cases hc'
   omega))) (fun k hk => hk.1)
 refine ⟨⟨blk_put hb1 1 v1 rfl, Kd.R_set (hrow _ _ _ h.sets) hb1 (fun q hq => by simp [Kd.int, Kd.scalar] at hq; omega) 1 v1, Kd.R_set hR hb1 (fun q hq => by simp [kL, Kd.slice, Kd.int, Kd.scalar] at hq; omega) 1 v1, hM⟩, ⟨?_, fun v xs hr => RowI.far (hrow _ v xs hr) hb1 (by decide) 1 v1, fun k cs t hk _ h27 h75 => ?_⟩⟩
 ·exact (Below.grown (Below.refl b0 W) hg h0 (fun k hk => Kd.R_base h.fol k hk)).trans ⟨rfl, rfl, rfl, by simp, fun j hj => Below.heap_setCell _ _ _ j (by show j ≠ MB; omega)⟩
 ·refine (Below.heap_setCell _ _ _ k (fun e => ?_)).trans (hg.block k (blk_lt hk) (fun e => ?_))
  ·replace e : k = MB := e
   subst e
   rw [h.blk] at hk
   cases hk
   exact h75 rfl
  ·obtain ⟨cs', hc⟩ := Kd.R_typed h.fol k e.symm
   rw [hk] at hc
   cases hc
   exact h27 rfl
theorem rowI_lit (k : Int) (h : Kd.R (Kd.int .i64) 3 W b0 (fun _ => True) vS sets) (h0 : b0 ≤ W.heap.size) : RowI b0 vS (W.alloc (.cells #[.int .i64 k] 3)) (.slice (some ⟨W.heap.size, 0, none⟩) [k].length 1) [k] :=
 Kd.R_of_own (h1 := fun _ => rfl) (enc := Value.int .i64) (xs := [k]) (World.ownsRow_lit (base := b0) (e := 3) (size := 1) W #[.int .i64 k] 1 h0 (by decide) rfl) (fun j hj e => by
  have hlt := Kd.R_lt h j e.symm
  injection hj with hj
  subst hj
  exact Nat.lt_irrefl _ hlt)
end
set_option maxHeartbeats 16000000 in
set_option maxRecDepth 100000 in
theorem node_leaf {w0 : World} {MB : Nat} (s : Int) (kids : List S24) : NodeOK w0 MB ⟨1, s, kids⟩ := by
 intro st vS vF W A c hf hn hm hb hC hc
 replace hC : Kd.C k24 w0 A kids.length kids := hC
 replace hc : kids.length ≤ c := hc
 show Calls Try.prog 51 #[.pointer (some ⟨MB, 0, none⟩), .agg #[.int .i64 1, .int .i64 s, .slice A kids.length c]] W _
 have hok : True := trivial
 rw [show nodeR (⟨1, s, kids⟩ : S24) st = leafR s st by rw [nodeR_eq]; rfl]
 replace hn : st.sets.length + 1 ≤ 300 := by rw [cnt] at hn; exact hn
 obtain ⟨AS, cS, rfl⟩ := Kd.R_slice hm.sets
 obtain ⟨AF, cF, rfl⟩ := Kd.R_slice hm.fol
 have HF := Aside0.mk hf
 have HN := Aside0.mk hn
 have HM := Aside0.mk hm
 have HB := Aside0.mk hb
 have HC := Aside0.mk hC
 have HCC := Aside0.mk hc
 have HOK := Aside0.mk hok
 clear hok hf hn hm hb hC hc
 go_enter Try.func51, Try.ntmps51
 go_upto_region 3 with fail
 have hsz : (W.alloc (.cells #[.int .i64 1, .int .i64 s, .slice A kids.length c] 24)).heap.size = W.heap.size + 1 := Array.size_push _
 have hbn : Below W.heap.size W ((W.alloc (.cells #[.int .i64 1, .int .i64 s, .slice A kids.length c] 24)).alloc (.cells #[.bool false, nilV, nilV] 77)) := below_alloc (below_alloc (Below.refl _ _) _) _
 have HS0 := Aside0.mk (show NdS w0 MB W.heap.size (W.heap.size + 1) (.slice AS st.sets.length cS) W 1 s kids A c st (.slice AS st.sets.length cS) (.slice AF st.fol.length cF) ((W.alloc (.cells #[.int .i64 1, .int .i64 s, .slice A kids.length c] 24)).alloc (.cells #[.bool false, nilV, nilV] 77)) from
  ⟨HM.out.later hbn, Tn.later hbn HB.out.size, blk_below (blk_new W _) (below_alloc (Below.refl _ _) _), by rw [← hsz]; exact blk_new _ _, HB.out.trans (hbn.mono HB.out.size), by omega, HB.out.size⟩)
 clear hsz hbn
 obtain ⟨RB, hRB⟩ : ∃ n, W.heap.size + 1 = n := ⟨_, rfl⟩
 obtain ⟨NB, hNB⟩ : ∃ n, W.heap.size = n := ⟨_, rfl⟩
 obtain ⟨W1, hW1⟩ : ∃ w, (W.alloc (.cells #[.int .i64 1, .int .i64 s, .slice A kids.length c] 24)).alloc (.cells #[.bool false, nilV, nilV] 77) = w := ⟨_, rfl⟩
 rw [hRB, hNB, hW1] at HS0
 rw [hW1]
 rw [hRB, hNB]
 clear hRB hNB hW1
 obtain ⟨i3, hi3, hz3, hs3, hb3⟩ := info_parts info3
 have HS1 := Aside0.mk (HS0.out.later (below_drew (Below.refl W1.heap.size W1)))
 clear HS0
 refine wp_region_noPanic ?_
 refine start_ (n := 12) (S := fun w' => w'.cell? ⟨MB, 0, none⟩ = some (.slice AS st.sets.length cS) ∧ w'.cell? ⟨NB, 1, none⟩ = some (.int .i64 s)) (ds := [11]) #[false, false, false, false, false, false, false, false, false, false, false, false] (by kernel_rfl) rfl rfl ⟨HS1.out.mm.cells.1, (blk_cell HS1.out.nb 1).trans rfl⟩ (fun hHeld => ?_); refine with_tabW leaf_tab3 leaf_bits3 (fun HT_ HW_ => ?_)
 obtain ⟨W2, hW2⟩ : ∃ w, W1.drew = w := ⟨_, rfl⟩
 rw [hW2] at HS1 hHeld ⊢
 clear hW2
 refine pure_ (i := 0) (N := some 14) (v := ?_) (a' := ?_) #[true, false, false, false, false, false, false, false, false, false, false, false] rfl rfl (any_of HT_.out (by kernel_rfl)) (fun _ _ _ h => h) (Or.inl ⟨by rfl, ?_⟩) ?_ ?_
 rotate_left
 ·intro w'
  go_simp
  with_reducible rfl
 rotate_left
 ·simp only [Act.put, List.setIfInBounds_toArray, List.set_cons_zero, List.set_cons_succ, i64_w, i32_w]
  rfl
 refine pure_ (i := 1) (N := some 15) (v := ?_) (a' := ?_) #[true, true, false, false, false, false, false, false, false, false, false, false] rfl rfl (any_of HT_.out (by kernel_rfl)) (fun _ _ _ h => h) (Or.inl ⟨by rfl, ?_⟩) ?_ ?_
 rotate_left
 ·intro w'
  go_simp
  with_reducible rfl
 rotate_left
 ·simp only [Act.put, List.setIfInBounds_toArray, List.set_cons_zero, List.set_cons_succ, i64_w, i32_w]
  rfl
 refine pure_ (i := 2) (N := some 16) (v := ?_) (a' := ?_) #[true, true, true, false, false, false, false, false, false, false, false, false] rfl rfl (any_of HT_.out (by kernel_rfl)) (fun _ _ _ h => h) (Or.inl ⟨by rfl, ?_⟩) ?_ ?_
 rotate_left
 ·intro w'
  go_simp
  with_reducible rfl
 rotate_left
 ·simp only [Act.put, List.setIfInBounds_toArray, List.set_cons_zero, List.set_cons_succ, i64_w, i32_w]
  rfl
 refine pure_ (i := 3) (N := some 17) (v := ?_) (a' := ?_) #[true, true, true, true, false, false, false, false, false, false, false, false] rfl rfl (any_of HT_.out (by kernel_rfl)) (fun _ _ _ h => h) (Or.inl ⟨by rfl, ?_⟩) ?_ ?_
 rotate_left
 ·intro w'
  go_simp
  with_reducible rfl
 rotate_left
 ·simp only [Act.put, List.setIfInBounds_toArray, List.set_cons_zero, List.set_cons_succ, i64_w, i32_w]
  rfl
 refine take_ (i := 4) (N := some 18) (v := ?_) (a' := ?_) #[true, true, true, true, true, false, false, false, false, false, false, false] rfl rfl (take_ofW HT_.out HW_.out (by kernel_rfl)) (fun _ _ _ h => h) (Or.inl ⟨by rfl, ?_⟩) hHeld ?_ ?_
 rotate_left
 ·rintro w' ⟨s0, s1⟩
  go_simp
  with_reducible rfl
 rotate_left
 ·simp only [Act.put, List.setIfInBounds_toArray, List.set_cons_zero, List.set_cons_succ, i64_w, i32_w]
  rfl
 refine pure_ (i := 5) (N := some 19) (v := ?_) (a' := ?_) #[true, true, true, true, true, true, false, false, false, false, false, false] rfl rfl (any_of HT_.out (by kernel_rfl)) (fun _ _ _ h => h) (Or.inl ⟨by rfl, ?_⟩) ?_ ?_
 rotate_left
 ·intro w'
  go_simp
  with_reducible rfl
 rotate_left
 ·simp only [Act.put, List.setIfInBounds_toArray, List.set_cons_zero, List.set_cons_succ, i64_w, i32_w]
  rfl
 refine take_ (i := 6) (N := some 20) (v := ?_) (a' := ?_) #[true, true, true, true, true, true, true, false, false, false, false, false] rfl rfl (take_ofW HT_.out HW_.out (by kernel_rfl)) (fun _ _ _ h => h) (Or.inl ⟨by rfl, ?_⟩) hHeld ?_ ?_
 rotate_left
 ·rintro w' ⟨s0, s1⟩
  go_simp
  with_reducible rfl
 rotate_left
 ·simp only [Act.put, List.setIfInBounds_toArray, List.set_cons_zero, List.set_cons_succ, i64_w, i32_w]
  rfl
 refine one_ (i := 7) (N := some 21) #[true, true, true, true, true, true, true, true, false, false, false, false] rfl rfl (one_of HT_.out (by kernel_rfl)) (by decide) (fun K hK => ?_)
 refine step_list rfl (by rfl) ?_
 unfold Oper.wp
 go_simp
 have HBb := Aside0.mk (below_alloc (Below.refl W2.heap.size W2) (.cells #[.int .i64 s] 3))
 have HBX := Aside0.mk (blk_new W2 (.cells #[.int .i64 s] 3))
 have HS3 := Aside0.mk (HS1.out.later HBb.out)
 refine hK.out _ _ ⟨HS3.out.mm.cells.1, (blk_cell HS3.out.nb 1).trans rfl⟩ (fun hHeld => ?_)
 clear hK K HS1 HBb
 obtain ⟨BX, hBX⟩ : ∃ n, W2.heap.size = n := ⟨_, rfl⟩
 rw [hBX] at HBX ⊢
 clear hBX
 generalize W2.alloc (.cells #[.int .i64 s] 3) = W3 at *
 refine one_ (i := 8) (N := some 22) #[true, true, true, true, true, true, true, true, true, false, false, false] rfl rfl (one_of HT_.out (by kernel_rfl)) (by decide) (fun K hK => ?_)
 refine R_app_step (Kd.int .i64) (W := W3) w0.heap.size (by rfl) (.tmp 18) (.tmp 21) 27 3 i3 (.int .i64 0) 8 rfl Try.underlying27 hi3 hz3 hs3 hb3 rfl (by decide) (.slice AS st.sets.length cS) st.sets s [.int .i64 s] (fun _ => True) (fun _ => False) rfl ⟨BX, 0, none⟩ rfl (cell_one HBX.out) rfl (fun _ hk => hk.elim) (fun _ _ => trivial) HS3.out.mm.sets HS3.out.bw.size (by have := HN.out; simp only [maxLen]; omega) (by have := HN.out; omega) ?_
 intro v4 W4 hR4 hg4 hat4
 have HM4 := Aside0.mk (HS3.out.mm.newSets hg4 hat4 hR4 HS3.out.bw.size)
 have HNB4 := Aside0.mk ((hg4.block NB (blk_lt HS3.out.nb) (fun e => by obtain ⟨cs, hc⟩ := Kd.R_typed HS3.out.mm.sets NB e.symm; rw [HS3.out.nb] at hc; cases hc)).trans HS3.out.nb)
 have HBK4 := Aside0.mk (show W4.heap[MB]? = _ from blk_grown HS3.out.mm.blk hg4 (Kd.R_ne HS3.out.mm.sets HS3.out.mm.blk (by decide)))
 obtain ⟨A4, c4, rfl⟩ := Kd.R_slice hR4
 refine hK.out _ _ ⟨(blk_cell HBK4.out 0).trans rfl, (blk_cell HNB4.out 1).trans rfl⟩ (fun hHeld => ?_)
 clear hK K
 refine norm_ (a' := ?_) ?_ ?_
 rotate_left
 ·show Act.put _ (some 22) _ = _
  simp only [Act.put, List.setIfInBounds_toArray, List.set_cons_zero, List.set_cons_succ, i64_w, i32_w]
  rfl
 clear hR4 hg4 hat4
 refine pure_ (i := 9) (N := some 23) (v := ?_) (a' := ?_) #[true, true, true, true, true, true, true, true, true, true, false, false] rfl rfl (any_of HT_.out (by kernel_rfl)) (fun _ _ _ h => h) (Or.inl ⟨by rfl, ?_⟩) ?_ ?_
 rotate_left
 ·intro w'
  go_simp
  with_reducible rfl
 rotate_left
 ·simp only [Act.put, List.setIfInBounds_toArray, List.set_cons_zero, List.set_cons_succ, i64_w, i32_w]
  rfl
 refine pure_ (i := 10) (N := some 24) (v := ?_) (a' := ?_) #[true, true, true, true, true, true, true, true, true, true, true, false] rfl rfl (any_of HT_.out (by kernel_rfl)) (fun _ _ _ h => h) (Or.inl ⟨by rfl, ?_⟩) ?_ ?_
 rotate_left
 ·intro w'
  go_simp
  with_reducible rfl
 rotate_left
 ·simp only [Act.put, List.setIfInBounds_toArray, List.set_cons_zero, List.set_cons_succ, i64_w, i32_w]
  rfl
 have z1 := (blk_cell HBK4.out 0).trans rfl
 have z2 := blk_frozen HBK4.out 0
 refine last_ (i := 11) (N := none) #[true, true, true, true, true, true, true, true, true, true, true, true] rfl rfl (one_of HT_.out (by kernel_rfl)) (by decide) (fun K hK => ?_)
 refine step_list rfl (by rfl) ?_
 unfold Oper.wp
 go_simp
 refine hK.out _ _ ?_
 clear hK K z1 z2
 refine done_ (done_of HT_.out (by kernel_rfl)) ?_
 refine NoPanic.normal ?_
 clear HT_ HW_ hHeld
 rw [show (st.sets ++ [s]).length = st.sets.length + 1 by simp] at HM4
 have HS5 := Aside0.mk (NdS.turn (st' := ⟨st.sets ++ [s], st.fol⟩) HS3.out HM4.out.1 HM4.out.2)
 obtain ⟨W5, hW5⟩ : ∃ w, W4.setCell ⟨MB, 0, none⟩ (.slice A4 (st.sets.length + 1) c4) = w := ⟨_, rfl⟩
 rw [hW5] at HS5
 rw [hW5]
 clear hW5 HM4 HNB4 HBK4 HBX HS3
 have z1 := HS5.out.mm.cells.2
 go_upto_region 5 with ((with_reducible refine gate_builtin (b := .append) (xs := #[.tmp 29, .tmp 30]) rfl ?_); at_builtin; refine Kd.R_append kL (w0 := w0) w0.heap.size rfl (.tmp 29) (.tmp 30) 28 27 (.slice none 0 0) 24 rfl Try.underlying28 info27 rfl (by decide) (by omega) (.slice AF st.fol.length cF) st.fol [] [.slice none 0 0] (fun k => some k ≠ (.slice A4 (st.sets.length + 1) c4 : Value).ownBlock) (fun _ => False) rfl rfl ?aP (fun _ hk => hk.elim) ?aF ?aO ?aB ?aS ?aL ?_; (case aP => exact ⟨_, rfl, Kd.R_nil _ _ _ _ _⟩); (case aB => exact HS5.out.bw); (case aF => exact fun k hk e => by have := Kd.R_lt HS5.out.mm.sets k e.symm; omega); (case aO => exact HS5.out.mm.fol); (case aS => exact HS5.out.bw.size); (case aL => have := HF.out.len; have := HN.out; omega); intro v6 W6 hR6 hb6 hg6 hat6; have HM6 := Aside0.mk (HS5.out.mm.newFol hg6 hR6 HS5.out.bw.size); have HBK6 := Aside0.mk (show W6.heap[MB]? = _ from blk_grown HS5.out.mm.blk hg6 (Kd.R_ne HS5.out.mm.fol HS5.out.mm.blk (by decide))); obtain ⟨A6, c6, rfl⟩ := Kd.R_slice hR6; clear hR6 hb6 hg6 hat6 z1; have z1 := (blk_cell HBK6.out 1).trans rfl; have z2 := blk_frozen HBK6.out 1)
 clear z1 z2
 have hfl : (st.fol ++ [([] : List Int)]).length = st.fol.length + 1 := by simp
 rw [hfl] at HM6
 clear hfl
 have HS7 := Aside0.mk (NdS.turn (st' := ⟨st.sets ++ [s], st.fol ++ [[]]⟩) HS5.out HM6.out.1 HM6.out.2)
 obtain ⟨W7, hW7⟩ : ∃ w, W6.setCell ⟨MB, 1, none⟩ (.slice A6 (st.fol.length + 1) c6) = w := ⟨_, rfl⟩
 rw [hW7] at HS7
 rw [hW7]
 clear hW7 HM6 HBK6 HS5
 have z1 := HS7.out.mm.cells.1
 go_upto_region 6 with fail
 clear z1
 obtain ⟨n, hn⟩ : ∃ n : Nat, n = st.sets.length + 1 := ⟨_, rfl⟩
 have hl : (st.sets.length : Int) + 1 = (n : Int) := by omega
 have HNN := Aside0.mk hn
 clear hn
 have HA8 := Aside0.mk (rowI_lit (W := W7) (n : Int) HS7.out.mm.sets HS7.out.bw.size)
 have HS8 := Aside0.mk (HS7.out.later (below_alloc (Below.refl W7.heap.size W7) (.cells #[.int .i64 (n : Int)] 3)))
 have HA9 := Aside0.mk (rowI_lit (W := W7.alloc (.cells #[.int .i64 (n : Int)] 3)) (n : Int) HS8.out.mm.sets HS8.out.bw.size)
 have HS9 := Aside0.mk (HS8.out.later (below_alloc (Below.refl _ _) (.cells #[.int .i64 (n : Int)] 3)))
 have HA10 := Aside0.mk (Kd.R_below HA8.out (below_alloc (Below.refl _ _) (.cells #[.int .i64 (n : Int)] 3)))
 have y0 := HS9.out.er.cells.1
 have y1 := HS9.out.er.cells.2.1
 have y2 := HS9.out.er.cells.2.2
 have y3 := HS9.out.er.frozen 0
 have y4 := HS9.out.er.frozen 1
 have y5 := HS9.out.er.frozen 2
 go_wp2_with fail
 clear y0 y1 y2 y3 y4 y5
 have hsz : (W7.alloc (.cells #[.int .i64 (n : Int)] 3)).heap.size = W7.heap.size + 1 := Array.size_push _
 rw [hsz] at HA9
 clear hsz
 have HFI := Aside0.mk (Fin_.all (show Fin_ w0.heap.size MB RB (.slice AS st.sets.length cS) W ⟨st.sets ++ [s], st.fol ++ [[]]⟩ (.slice A4 (st.sets.length + 1) c4) (.slice A6 (st.fol.length + 1) c6) (.slice (some ⟨W7.heap.size, 0, none⟩) 1 1) (.slice (some ⟨W7.heap.size + 1, 0, none⟩) 1 1) [(n : Int)] [(n : Int)] ((W7.alloc (.cells #[.int .i64 (n : Int)] 3)).alloc (.cells #[.int .i64 (n : Int)] 3)) false nilV nilV from ⟨HS9.out.er, HS9.out.mm, HS9.out.tn, HA10.out, HA9.out, HS9.out.rb, HS9.out.ow⟩) false)
 obtain ⟨W9, hW9⟩ : ∃ w, ((((W7.alloc (.cells #[.int .i64 (n : Int)] 3)).alloc (.cells #[.int .i64 (n : Int)] 3)).setCell ⟨RB, 0, none⟩ (.bool false)).setCell ⟨RB, 1, none⟩ (.slice (some ⟨W7.heap.size, 0, none⟩) 1 1)).setCell ⟨RB, 2, none⟩ (.slice (some ⟨W7.heap.size + 1, 0, none⟩) 1 1) = w := ⟨_, rfl⟩
 rw [hW9] at HFI ⊢
 clear hW9
 refine bodyPost_ret (results_cell_row rfl _ _ RB 77 #[.bool false, (.slice (some ⟨W7.heap.size, 0, none⟩) 1 1), (.slice (some ⟨W7.heap.size + 1, 0, none⟩) 1 1)] (0, 0) _ rfl HFI.out.er Try.underlying77 rfl (by kernel_rfl)) rfl ?_
 have hq : leafR s st = (⟨st.sets ++ [s], st.fol ++ [[]]⟩, ⟨false, [(n : Int)], [(n : Int)]⟩) := by rw [HNN.out]; rfl
 rw [hq]
 exact HFI.out.post (r := (⟨st.sets ++ [s], st.fol ++ [[]]⟩, ⟨false, [(n : Int)], [(n : Int)]⟩))
end Go.Proofs.Ytemlgmkbonpniaa.Print
