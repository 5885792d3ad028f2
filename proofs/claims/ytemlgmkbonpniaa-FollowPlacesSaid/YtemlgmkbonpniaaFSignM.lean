/- follow.built: what it does with cats and alternatives. · follow.built: what it does with the signs. -/
import Derived.Test.YtemlgmkbonpniaaFOrM
namespace Go.Proofs.Ytemlgmkbonpniaa.Print
open Go.Shelf Go.RowKit Go.Maps Go.Proofs.YtemlgmkbonpniaaW.PrintWords Go.Proofs.YtemlgmkbonpniaaW.PrintLast Go.Proofs.YtemlgmkbonpniaaW.PrintMore
set_option linter.unusedVariables false
set_option linter.unusedSimpArgs false
namespace F
def bcat_T12 : Bool × List (List Nat × List Nat) := (true, [([], []), ([], []), ([], []), ([1, 2], [1, 2]), ([], []), ([0, 3, 4, 3], [0, 3, 4]), ([5, 5, 0, 1, 2, 3, 4, 5], [5])])
def bcat_B12 : List Nat := [0, 0, 0, 6, 0, 31, 63]
theorem bcat_tab12 : rtab .any (opsOf Try.f48 12) = bcat_T12 := by kernel_rfl
theorem bcat_bits12 : waitsOk bcat_T12.2 bcat_B12 = true := by kernel_rfl
def balt_T20 : Bool × List (List Nat × List Nat) := (true, [([], []), ([], []), ([], []), ([1, 2], [1, 2]), ([0, 3, 3], [0, 3]), ([4, 4, 0, 1, 2, 3, 4], [4])])
def balt_B20 : List Nat := [0, 0, 0, 6, 15, 31]
theorem balt_tab20 : rtab .any (opsOf Try.f48 20) = balt_T20 := by kernel_rfl
theorem balt_bits20 : waitsOk balt_T20.2 balt_B20 = true := by kernel_rfl
structure BdS (w0 : World) (MB PB NB RB : Nat) (vS0 : Value) (W : World) (k s : Int) (kids : List S24) (A : Option Addr) (c : Nat) (st : St) (vS vF : Value) (W' : World) : Prop where
 nd : NdS w0 MB NB RB vS0 W k s kids A c st vS vF W'
 pb : Pbox W' PB MB
structure BcS (w0 : World) (MB PB NB OB RB : Nat) (vS0 : Value) (W : World) (k s : Int) (kids : List S24) (A : Option Addr) (c : Nat) (st : St) (vS vF : Value) (o : Ed) (v1 v2 : Value) (W' : World) : Prop where
 cs : CatS w0 MB OB RB vS0 W st vS vF o v1 v2 W'
 nb : W'.heap[NB]? = some (.cells #[.int .i64 k, .int .i64 s, .slice A kids.length c] 24 (0, 0))
 pb : Pbox W' PB MB
theorem pb_set {W : World} {PB MB OB : Nat} {b : Bool} {v1 v2 : Value} (h : Pbox W PB MB) (hk : Edge W OB b v1 v2) (i : Nat) (u : Value) : Pbox (W.setCell ⟨OB, i, none⟩ u) PB MB := by
 unfold Pbox at h ⊢
 refine blk_grown h (grownBy_set _ _ _ _) (fun e => ?_)
 injection e with e
 subst e
 unfold Edge at hk
 rw [hk] at h
 cases h
section
variable {w0 W W' W2 : World} {MB PB NB OB RB XN : Nat} {vS0 vS vF vS' vF' v1 v2 : Value} {k s : Int} {kids : List S24} {A : Option Addr} {c : Nat} {st st' : St} {o : Ed} {b : Bool}
theorem BdS.later (h : BdS w0 MB PB NB RB vS0 W k s kids A c st vS vF W') (hb : Below W'.heap.size W' W2) : BdS w0 MB PB NB RB vS0 W k s kids A c st vS vF W2 := ⟨h.nd.later hb, h.pb.later hb⟩
theorem BdS.turn (h : BdS w0 MB PB NB RB vS0 W k s kids A c st vS vF W') (hm : Mk w0.heap.size MB st'.sets st'.fol vS' vF' W2) (ht : Tn w0.heap.size vS vS' W' W2) : BdS w0 MB PB NB RB vS0 W k s kids A c st' vS' vF' W2 := ⟨h.nd.turn hm ht, h.pb.turn ht⟩
theorem BcS.later (h : BcS w0 MB PB NB OB RB vS0 W k s kids A c st vS vF o v1 v2 W') (hb : Below W'.heap.size W' W2) : BcS w0 MB PB NB OB RB vS0 W k s kids A c st vS vF o v1 v2 W2 := ⟨h.cs.later hb, blk_below h.nb hb, h.pb.later hb⟩
theorem BcS.turn (h : BcS w0 MB PB NB OB RB vS0 W k s kids A c st vS vF o v1 v2 W') (hm : Mk w0.heap.size MB st'.sets st'.fol vS' vF' W2) (ht : Tn w0.heap.size vS vS' W' W2) : BcS w0 MB PB NB OB RB vS0 W k s kids A c st' vS' vF' o v1 v2 W2 :=
 ⟨h.cs.turn hm ht, (ht.blk NB _ 24 h.nb (by decide) (by decide) (by decide)).trans h.nb, h.pb.turn ht⟩
/-- The variable that is summed up is written whole. -/
theorem BcS.put (h : BcS w0 MB PB NB OB RB vS0 W k s kids A c st vS vF o v1 v2 W') (o' : Ed) (u1 u2 : Value) (h1 : RowI w0.heap.size vS W' u1 o'.first) (h2 : RowI w0.heap.size vS W' u2 o'.last) :
  BcS w0 MB PB NB OB RB vS0 W k s kids A c st vS vF o' u1 u2 (((W'.setCell ⟨OB, 0, none⟩ (.bool o'.null)).setCell ⟨OB, 1, none⟩ u1).setCell ⟨OB, 2, none⟩ u2) := by
 have one : ∀ {o : Ed} {v1 v2 : Value} {W' : World} (h : BcS w0 MB PB NB OB RB vS0 W k s kids A c st vS vF o v1 v2 W') (i : Nat) (u : Value) (o2 : Ed) (w1 w2 : Value) (e : (#[.bool o.null, v1, v2] : Array Value).setIfInBounds i u = #[.bool o2.null, w1, w2]) (h1 : RowI w0.heap.size vS W' w1 o2.first) (h2 : RowI w0.heap.size vS W' w2 o2.last), BcS w0 MB PB NB OB RB vS0 W k s kids A c st vS vF o2 w1 w2 (W'.setCell ⟨OB, i, none⟩ u) := fun {o v1 v2 W'} h i u o2 w1 w2 e h1 h2 => by
  have hk := h.cs.eo
  have hob := h.cs.ob
  have how := h.cs.ow
  refine ⟨⟨h.cs.mm.far hk (by decide) (by decide) (by decide) i u, RowI.far h1 hk (by decide) i u, RowI.far h2 hk (by decide) i u, ⟨below_set h.cs.tn.below (by omega) i u, fun v xs hr => RowI.far (h.cs.tn.rows v xs hr) hk (by decide) i u, fun k cs t hc e1 e2 e3 => (Below.heap_setCell _ _ _ k (by have := blk_lt hc; show k ≠ OB; omega)).trans (h.cs.tn.blk k cs t hc e1 e2 e3)⟩, blk_put hk i u e, h.cs.er.far h.cs.ne i u, below_set h.cs.bw (by omega) i u, h.cs.ne, h.cs.ob, h.cs.rb, h.cs.ow⟩, nb_set h.nb hk i u, pb_set h.pb hk i u⟩
 have hk := h.cs.eo
 have a := one h 0 (.bool o'.null) ⟨o'.null, o.first, o.last⟩ v1 v2 rfl h.cs.f1 h.cs.f2
 have b := one a 1 u1 ⟨o'.null, o'.first, o.last⟩ u1 v2 rfl (RowI.far h1 hk (by decide) 0 (.bool o'.null)) a.cs.f2
 exact one b 2 u2 o' u1 u2 rfl b.cs.f1 (RowI.far (RowI.far h2 hk (by decide) 0 (.bool o'.null)) a.cs.eo (by decide) 1 u1)
/-- A node's variable. -/
def Nbox (W : World) (XN : Nat) (x : S24) (A2 : Option Addr) (c2 : Nat) : Prop := W.heap[XN]? = some (.cells #[.int .i64 x.f0, .int .i64 x.f1, .slice A2 x.f2.length c2] 24 (0, 0))
theorem Nbox.cells {x : S24} {A2 : Option Addr} {c2 : Nat} (h : Nbox W XN x A2 c2) : W.cell? ⟨XN, 0, none⟩ = some (.int .i64 x.f0) ∧ W.cell? ⟨XN, 1, none⟩ = some (.int .i64 x.f1) ∧ W.cell? ⟨XN, 2, none⟩ = some (.slice A2 x.f2.length c2) := ⟨(blk_cell h 0).trans rfl, (blk_cell h 1).trans rfl, (blk_cell h 2).trans rfl⟩
theorem Nbox.later {x : S24} {A2 : Option Addr} {c2 : Nat} (h : Nbox W XN x A2 c2) (hb : Below W.heap.size W W2) : Nbox W2 XN x A2 c2 := blk_below h hb
theorem Nbox.turn {b0 : Nat} {x : S24} {A2 : Option Addr} {c2 : Nat} (h : Nbox W XN x A2 c2) (t : Tn b0 vS vS' W W2) : Nbox W2 XN x A2 c2 := (t.blk XN _ 24 h (by decide) (by decide) (by decide)).trans h
end
/-- A row that is new at a world is none of the sets'. -/
theorem rowI_new {b0 MB : Nat} {sets : List Int} {fol : List (List Int)} {vS vF v : Value} {W W' : World} {l : List Int} (h : Kd.R (Kd.int .i64) 3 W' W.heap.size (fun _ => True) v l) (hm : Mk b0 MB sets fol vS vF W) (h0 : b0 ≤ W.heap.size) : RowI b0 vS W' v l :=
 Kd.R_mono (Kd.R_lower (Kd.R_bound h) h0) (fun k hk e => by have := Kd.R_lt hm.sets k e.symm; have := hk.2.1; omega)
set_option maxHeartbeats 16000000 in
set_option maxRecDepth 100000 in
theorem node_cat {w0 : World} {MB : Nat} (s : Int) (kids : List S24) (hok : ∀ y ∈ kids, NodeOK w0 MB y) : NodeOK w0 MB ⟨0, s, kids⟩ := by
 intro st vS vF W A c hf hn hm hb hC hc
 replace hC : Kd.C k24 w0 A kids.length kids := hC
 replace hc : kids.length ≤ c := hc
 show Calls Try.prog 48 #[.pointer (some ⟨MB, 0, none⟩), .agg #[.int .i64 0, .int .i64 s, .slice A kids.length c]] W _
 rw [show nodeR (⟨0, s, kids⟩ : S24) st = catR kids st ⟨true, [], []⟩ by rw [nodeR_eq]; rfl]
 replace hn : st.sets.length + cntL kids ≤ 300 := by rw [cnt] at hn; exact hn
 have HLL := Aside0.mk (hC.2.1 : kids.length ≤ 9223372036854775807)
 have HF := Aside0.mk hf
 have HN := Aside0.mk hn
 have HM := Aside0.mk hm
 have HB := Aside0.mk hb
 have HC := Aside0.mk hC
 have HCC := Aside0.mk hc
 have HOK := Aside0.mk hok
 clear hok hf hn hm hb hC hc
 go_enter Try.func48, Try.ntmps48
 go_upto_region 8 with fail
 have b1 := below_alloc (Below.refl W.heap.size W) (.cells #[.pointer (some ⟨MB, 0, none⟩)] 71)
 have b2 := below_alloc (Below.refl _ (W.alloc (.cells #[.pointer (some ⟨MB, 0, none⟩)] 71))) (.cells #[.int .i64 0, .int .i64 s, .slice A kids.length c] 24)
 have b3 := below_alloc (Below.refl _ ((W.alloc (.cells #[.pointer (some ⟨MB, 0, none⟩)] 71)).alloc (.cells #[.int .i64 0, .int .i64 s, .slice A kids.length c] 24))) (.cells #[.bool false, nilV, nilV] 69)
 have s1 : (W.alloc (.cells #[.pointer (some ⟨MB, 0, none⟩)] 71)).heap.size = W.heap.size + 1 := Array.size_push _
 have s2 : ((W.alloc (.cells #[.pointer (some ⟨MB, 0, none⟩)] 71)).alloc (.cells #[.int .i64 0, .int .i64 s, .slice A kids.length c] 24)).heap.size = W.heap.size + 1 + 1 := (Array.size_push _).trans (by rw [s1])
 have b23 := b2.trans (b3.mono (by rw [s1, s2]; omega))
 have bw := b1.trans (b23.mono (by rw [s1]; omega))
 have HS0 := Aside0.mk (show BdS w0 MB W.heap.size (W.heap.size + 1) (W.heap.size + 1 + 1) vS W 0 s kids A c st vS vF (((W.alloc (.cells #[.pointer (some ⟨MB, 0, none⟩)] 71)).alloc (.cells #[.int .i64 0, .int .i64 s, .slice A kids.length c] 24)).alloc (.cells #[.bool false, nilV, nilV] 69)) from
  ⟨⟨HM.out.later bw, Tn.later bw HB.out.size, by rw [← s1]; exact blk_below (blk_new _ _) b3, by rw [← s2]; exact blk_new _ _, HB.out.trans (bw.mono HB.out.size), by omega, HB.out.size⟩, blk_below (blk_new W _) b23⟩)
 clear b1 b2 b3 s1 s2 b23 bw
 obtain ⟨RB, hRB⟩ : ∃ n, W.heap.size + 1 + 1 = n := ⟨_, rfl⟩
 obtain ⟨NB, hNB⟩ : ∃ n, W.heap.size + 1 = n := ⟨_, rfl⟩
 obtain ⟨PB, hPB⟩ : ∃ n, W.heap.size = n := ⟨_, rfl⟩
 obtain ⟨W1, hW1⟩ : ∃ w, ((W.alloc (.cells #[.pointer (some ⟨MB, 0, none⟩)] 71)).alloc (.cells #[.int .i64 0, .int .i64 s, .slice A kids.length c] 24)).alloc (.cells #[.bool false, nilV, nilV] 69) = w := ⟨_, rfl⟩
 rw [hRB, hNB, hPB, hW1] at HS0
 rw [hW1]
 rw [hRB, hNB, hPB]
 clear hRB hNB hPB hW1
 go_upto_region 9 with fail
 have hbn : Below W1.heap.size W1 (W1.alloc (.cells #[.bool true, nilV, nilV] 69)) := below_alloc (Below.refl _ _) _
 have HS1 := Aside0.mk (show BcS w0 MB PB NB W1.heap.size RB vS W 0 s kids A c st vS vF ⟨true, [], []⟩ nilV nilV (W1.alloc (.cells #[.bool true, nilV, nilV] 69)) from
  ⟨⟨HS0.out.nd.mm.later hbn, Kd.R_nil _ _ _ _ _, Kd.R_nil _ _ _ _ _, HS0.out.nd.tn.trans (Tn.later hbn HS0.out.nd.bw.size), blk_new _ _, HS0.out.nd.er.later hbn, HS0.out.nd.bw.trans (hbn.mono HS0.out.nd.bw.size), by have := blk_lt HS0.out.nd.er; omega, HS0.out.nd.tn.below.size, HS0.out.nd.rb, HS0.out.nd.ow⟩, blk_below HS0.out.nd.nb hbn, HS0.out.pb.later hbn⟩)
 clear hbn HS0
 obtain ⟨OB, hOB⟩ : ∃ n, W1.heap.size = n := ⟨_, rfl⟩
 obtain ⟨W2, hW2⟩ : ∃ w, W1.alloc (.cells #[.bool true, nilV, nilV] 69) = w := ⟨_, rfl⟩
 rw [hOB, hW2] at HS1
 rw [hW2]
 rw [hOB]
 clear hOB hW2
 have n2 := (blk_cell HS1.out.nb 2).trans rfl
 go_wp2_with fail
 clear n2
 go_loopg [54] kids.length (fun kq v54 w' => ∃ (i : Nat) (r : St × Ed) (vS1 vF1 v1 v2 : Value), v54 = .int .i64 (i : Int) ∧ Aside0 (i + kq = kids.length) ∧ Aside0 (r = catR (kids.take i) st ⟨true, [], []⟩) ∧ Aside0 (BcS w0 MB PB NB OB RB vS W 0 s kids A c r.1 vS1 vF1 r.2 v1 v2 w'))
 case atStart => exact ⟨0, (st, ⟨true, [], []⟩), vS, vF, nilV, nilV, rfl, ⟨Nat.zero_add _⟩, ⟨by rw [List.take_zero, catR]⟩, HS1⟩
 case round =>
  clear HS1
  obtain ⟨i, r, vS1, vF1, v1, v2, rfl, HK, HRR, HS⟩ := hrel
  obtain ⟨L1, k1, rfl⟩ := Kd.R_slice HS.out.cs.f1
  obtain ⟨L2, k2, rfl⟩ := Kd.R_slice HS.out.cs.f2
  by_cases q0 : gk = 0
  ·have f1 : ¬ i < kids.length := by have := HK.out; omega
   have f2 : decide ((i : Int) < (kids.length : Int)) = false := decide_eq_false (by omega)
   have HE := Aside0.mk (show r = catR kids st ⟨true, [], []⟩ by rw [HRR.out, List.take_of_length_le (by omega)])
   clear q0
   have z0 := HS.out.cs.eo.cells.1
   have z1 := HS.out.cs.eo.cells.2.1
   have z2 := HS.out.cs.eo.cells.2.2
   have y0 := HS.out.cs.er.cells.1
   have y1 := HS.out.cs.er.cells.2.1
   have y2 := HS.out.cs.er.cells.2.2
   have y3 := HS.out.cs.er.frozen 0
   have y4 := HS.out.cs.er.frozen 1
   have y5 := HS.out.cs.er.frozen 2
   go_wp2_with fail
   have HFI := Aside0.mk (Fin_.all (show Fin_ w0.heap.size MB RB vS W r.1 vS1 vF1 (.slice L1 r.2.first.length k1) (.slice L2 r.2.last.length k2) r.2.first r.2.last wr false nilV nilV from ⟨HS.out.cs.er, HS.out.cs.mm, HS.out.cs.tn, HS.out.cs.f1, HS.out.cs.f2, HS.out.cs.rb, HS.out.cs.ow⟩) r.2.null)
   clear z0 z1 z2 y0 y1 y2 y3 y4 y5
   obtain ⟨W9, hW9⟩ : ∃ w, ((wr.setCell ⟨RB, 0, none⟩ (.bool r.2.null)).setCell ⟨RB, 1, none⟩ (.slice L1 r.2.first.length k1)).setCell ⟨RB, 2, none⟩ (.slice L2 r.2.last.length k2) = w := ⟨_, rfl⟩
   rw [hW9] at HFI ⊢
   clear hW9
   refine bodyPost_ret (results_cell_row rfl _ _ RB 69 #[.bool r.2.null, (.slice L1 r.2.first.length k1), (.slice L2 r.2.last.length k2)] (0, 0) _ rfl HFI.out.er Try.underlying69 rfl (by kernel_rfl)) rfl ?_
   rw [← HE.out]
   exact HFI.out.post
  ·have HQ := Aside0.mk q0
   clear q0
   have HIL := Aside0.mk (show i < kids.length by have := HK.out; have := HQ.out; omega)
   obtain ⟨ad, A2, c2, eA, hx0, hx1, hx2, hl2, hg2⟩ := at_T24 HC.out (i : Int) (Int.natCast_nonneg i) (by have := HIL.out; omega)
   rw [Int.toNat_natCast] at hx0 hx1 hx2
   obtain ⟨x, hx⟩ : ∃ x, x = rd_T24 kids (i : Int) := ⟨_, rfl⟩
   rw [← hx] at hx0 hx1 hx2 hl2 hg2
   have HXX := Aside0.mk hx
   have HMEM := Aside0.mk (show x ∈ kids by rw [hx, rd_get HIL.out]; exact List.getElem_mem _)
   have HCNT := Aside0.mk (show cntL (kids.take i) + cnt x ≤ cntL kids by rw [hx]; exact cnt_rd HIL.out)
   subst eA
   replace hx0 := cell_keep HS.out.cs.bw hx0
   replace hx1 := cell_keep HS.out.cs.bw hx1
   replace hx2 := cell_keep HS.out.cs.bw hx2
   have HMR := Aside0.mk (show Made st r (cntL (kids.take i)) by rw [HRR.out]; exact catR_made _ _ _ HF.out ⟨good_nil _, good_nil _⟩)
   obtain ⟨q, hq⟩ : ∃ q, q = nodeR x r.1 := ⟨_, rfl⟩
   have HMQ := Aside0.mk (show Made r.1 q (cnt x) by rw [hq]; exact nodeR_made x r.1 HMR.out.fit)
   have HQQ := Aside0.mk hq
   have HLB := Aside0.mk (show r.2.first.length ≤ 300 ∧ r.2.last.length ≤ 300 ∧ q.2.first.length ≤ 300 ∧ q.2.last.length ≤ 300 ∧ q.1.sets.length ≤ 300 by
    have h1 := HMR.out.good.first.len
    have h2 := HMR.out.good.last.len
    have h3 := HMQ.out.good.first.len
    have h4 := HMQ.out.good.last.len
    have h5 := HMR.out.most
    have h6 := HMQ.out.most
    have := HCNT.out
    have := HN.out
    omega)
   have HG2 := Aside0.mk hg2
   have HL2 := Aside0.mk hl2
   clear hq hx hl2 hg2
   have f1 : i < kids.length := HIL.out
   have f2 : decide ((i : Int) < (kids.length : Int)) = true := decide_eq_true (by omega)
   have f3 : 0 ≤ (i : Int) := Int.natCast_nonneg i
   go_upto_region 12 with fail
   clear hx0 hx1 hx2 f1 f2 f3
   have hbn : Below wr.heap.size wr (wr.alloc (.cells #[.int .i64 x.f0, .int .i64 x.f1, .slice A2 x.f2.length c2] 24)) := below_alloc (Below.refl _ _) _
   have HS2 := Aside0.mk (HS.out.later hbn)
   have HX2 := Aside0.mk (show Nbox _ wr.heap.size x A2 c2 from blk_new wr (.cells #[.int .i64 x.f0, .int .i64 x.f1, .slice A2 x.f2.length c2] 24))
   obtain ⟨XN, hXN⟩ : ∃ n, wr.heap.size = n := ⟨_, rfl⟩
   obtain ⟨W3, hW3⟩ : ∃ w, wr.alloc (.cells #[.int .i64 x.f0, .int .i64 x.f1, .slice A2 x.f2.length c2] 24) = w := ⟨_, rfl⟩
   rw [hXN] at HX2
   rw [hW3] at HS2 HX2
   rw [hW3]
   rw [hXN]
   clear hXN hW3 hbn HS
   have HS3 := Aside0.mk (HS2.out.later (below_drew (Below.refl W3.heap.size W3)))
   have HX3 := Aside0.mk (HX2.out.later (below_drew (Below.refl W3.heap.size W3)))
   refine wp_region_noPanic ?_
   refine start_ (n := 7) (S := fun w' => w'.cell? ⟨OB, 0, none⟩ = some (.bool r.2.null) ∧ w'.cell? ⟨OB, 1, none⟩ = some (.slice L1 r.2.first.length k1) ∧ w'.cell? ⟨OB, 2, none⟩ = some (.slice L2 r.2.last.length k2) ∧ w'.cell? ⟨PB, 0, none⟩ = some (.pointer (some ⟨MB, 0, none⟩)) ∧ w'.cell? ⟨XN, 0, none⟩ = some (.int .i64 x.f0) ∧ w'.cell? ⟨XN, 1, none⟩ = some (.int .i64 x.f1) ∧ w'.cell? ⟨XN, 2, none⟩ = some (.slice A2 x.f2.length c2)) (ds := [6]) #[false, false, false, false, false, false, false] (by kernel_rfl) rfl rfl ⟨HS3.out.cs.eo.cells.1, HS3.out.cs.eo.cells.2.1, HS3.out.cs.eo.cells.2.2, HS3.out.pb.cell, HX3.out.cells.1, HX3.out.cells.2.1, HX3.out.cells.2.2⟩ (fun hHeld => ?_); refine with_tabW bcat_tab12 bcat_bits12 (fun HT_ HW_ => ?_)
   obtain ⟨W4, hW4⟩ : ∃ w, W3.drew = w := ⟨_, rfl⟩
   rw [hW4] at HS3 HX3 hHeld ⊢
   clear hW4 HS2 HX2
   refine take_ (i := 0) (N := some 58) (v := ?_) (a' := ?_) #[true, false, false, false, false, false, false] rfl rfl (take_ofW HT_.out HW_.out (by kernel_rfl)) (fun _ _ _ h => h) (Or.inl ⟨by rfl, ?_⟩) hHeld ?_ ?_
   rotate_left
   ·rintro w' ⟨s0, s1, s2, s3, s4, s5, s6⟩
    go_simp
    with_reducible rfl
   rotate_left
   ·simp only [Act.put, List.setIfInBounds_toArray, List.set_cons_zero, List.set_cons_succ, i64_w, i32_w]
    rfl
   refine take_ (i := 1) (N := some 59) (v := ?_) (a' := ?_) #[true, true, false, false, false, false, false] rfl rfl (take_ofW HT_.out HW_.out (by kernel_rfl)) (fun _ _ _ h => h) (Or.inl ⟨by rfl, ?_⟩) hHeld ?_ ?_
   rotate_left
   ·rintro w' ⟨s0, s1, s2, s3, s4, s5, s6⟩
    go_simp
    with_reducible rfl
   rotate_left
   ·simp only [Act.put, List.setIfInBounds_toArray, List.set_cons_zero, List.set_cons_succ, i64_w, i32_w]
    rfl
   refine take_ (i := 2) (N := some 60) (v := ?_) (a' := ?_) #[true, true, true, false, false, false, false] rfl rfl (take_ofW HT_.out HW_.out (by kernel_rfl)) (fun _ _ _ h => h) (Or.inl ⟨by rfl, ?_⟩) hHeld ?_ ?_
   rotate_left
   ·rintro w' ⟨s0, s1, s2, s3, s4, s5, s6⟩
    go_simp
    with_reducible rfl
   rotate_left
   ·simp only [Act.put, List.setIfInBounds_toArray, List.set_cons_zero, List.set_cons_succ, i64_w, i32_w]
    rfl
   refine pure_ (i := 4) (N := some 62) (v := ?_) (a' := ?_) #[true, true, true, false, true, false, false] rfl rfl (any_of HT_.out (by kernel_rfl)) (fun _ _ _ h => h) (Or.inl ⟨by rfl, ?_⟩) ?_ ?_
   rotate_left
   ·intro w'
    go_simp
    with_reducible rfl
   rotate_left
   ·simp only [Act.put, List.setIfInBounds_toArray, List.set_cons_zero, List.set_cons_succ, i64_w, i32_w]
    rfl
   refine one_ (i := 3) (N := some 61) #[true, true, true, true, true, false, false] rfl rfl (one_of HT_.out (by kernel_rfl)) (by decide) (fun K hK => ?_)
   refine goes_ Try.func48 (by kernel_rfl) rfl #[.pointer (some ⟨MB, 0, none⟩), .agg #[.int .i64 x.f0, .int .i64 x.f1, .slice A2 x.f2.length c2]] (by rfl) rfl rfl (by (try simp only [List.map_toArray, List.map_cons, List.map_nil]); first | done | rfl) ?_
   have hnode := HOK.out x HMEM.out r.1 vS1 vF1 W4 A2 c2 HMR.out.fit (by have := HMR.out.most; have := HCNT.out; have := HN.out; omega) HS3.out.cs.mm HS3.out.cs.bw HG2.out HL2.out
   rw [← HQQ.out] at hnode
   refine hnode.mono ?_
   clear hnode
   rintro e_ W5 ⟨vS2, vF2, u1, u2, rfl, hm2, hu1, hu2, ht2⟩
   have HS5 := Aside0.mk (HS3.out.turn hm2 ht2)
   have HX5 := Aside0.mk (HX3.out.turn ht2)
   obtain ⟨M1, d1, rfl⟩ := Kd.R_slice hu1
   obtain ⟨M2, d2, rfl⟩ := Kd.R_slice hu2
   have HU1 := Aside0.mk hu1
   have HU2 := Aside0.mk hu2
   clear hm2 hu1 hu2 ht2
   refine ⟨_, rfl, ?_⟩
   refine hK.out _ _ ⟨HS5.out.cs.eo.cells.1, HS5.out.cs.eo.cells.2.1, HS5.out.cs.eo.cells.2.2, HS5.out.pb.cell, HX5.out.cells.1, HX5.out.cells.2.1, HX5.out.cells.2.2⟩ (fun hHeld => ?_)
   clear hK K HS3 HX3
   refine norm_ (a' := ?_) ?_ ?_
   rotate_left
   ·show Act.put _ (some 61) _ = _
    simp only [Act.put, List.setIfInBounds_toArray, List.set_cons_zero, List.set_cons_succ, i64_w, i32_w]
    rfl
   refine one_ (i := 5) (N := some 63) #[true, true, true, true, true, true, false] rfl rfl (one_of HT_.out (by kernel_rfl)) (by decide) (fun K hK => ?_)
   refine goes_ Try.func73 (by kernel_rfl) rfl #[.agg #[.bool r.2.null, .slice L1 r.2.first.length k1, .slice L2 r.2.last.length k2], .agg #[.bool q.2.null, .slice M1 q.2.first.length d1, .slice M2 q.2.last.length d2], .func (.func 72) #[] #[.pointer (some ⟨PB, 0, none⟩)]] (by rfl) rfl rfl (by (try simp only [List.map_toArray, List.map_cons, List.map_nil]); first | done | rfl) ?_
   have hth := (then_calls (N := 0) q r.2 L1 L2 M1 M2 k1 k2 d1 d2 HS5.out.cs.mm HS5.out.pb HS5.out.cs.f1 HS5.out.cs.f2 HU1.out HU2.out HMQ.out.fit (HMR.out.good.mono HMQ.out.up) HMQ.out.good (by have := HLB.out; omega) HS5.out.cs.bw.size)
   obtain ⟨nq, hnq⟩ : ∃ n, n = catOne q r.2 := ⟨_, rfl⟩
   rw [← hnq] at hth
   have HNQ := Aside0.mk hnq
   clear hnq
   refine hth.mono ?_
   clear hth
   rintro e_ W6 ⟨vS3, vF3, t1, t2, rfl, hm3, hu1, hu2, ht3⟩
   obtain ⟨T1, j1, rfl⟩ := Kd.R_slice hu1
   obtain ⟨T2, j2, rfl⟩ := Kd.R_slice hu2
   have HS6 := Aside0.mk (HS5.out.turn hm3 ht3)
   have HX6 := Aside0.mk (HX5.out.turn ht3)
   have HT1 := Aside0.mk hu1
   have HT2 := Aside0.mk hu2
   clear hm3 hu1 hu2 ht3
   refine ⟨_, rfl, ?_⟩
   refine hK.out _ _ ⟨HS6.out.cs.eo.cells.1, HS6.out.cs.eo.cells.2.1, HS6.out.cs.eo.cells.2.2, HS6.out.pb.cell, HX6.out.cells.1, HX6.out.cells.2.1, HX6.out.cells.2.2⟩ (fun hHeld => ?_)
   clear hK K HS5 HX5 HU1 HU2
   refine norm_ (a' := ?_) ?_ ?_
   rotate_left
   ·show Act.put _ (some 63) _ = _
    simp only [Act.put, List.setIfInBounds_toArray, List.set_cons_zero, List.set_cons_succ, i64_w, i32_w]
    rfl
   have y0 := HS6.out.cs.eo.cells.1
   have y1 := HS6.out.cs.eo.cells.2.1
   have y2 := HS6.out.cs.eo.cells.2.2
   have y3 := HS6.out.cs.eo.frozen 0
   have y4 := HS6.out.cs.eo.frozen 1
   have y5 := HS6.out.cs.eo.frozen 2
   refine last_ (i := 6) (N := none) #[true, true, true, true, true, true, true] rfl rfl (one_of HT_.out (by kernel_rfl)) (by decide) (fun K hK => ?_)
   refine step_list rfl (by rfl) ?_
   unfold Oper.wp
   go_simp
   refine hK.out _ _ ?_
   clear hK K y0 y1 y2 y3 y4 y5
   refine done_ (done_of HT_.out (by kernel_rfl)) ?_
   refine NoPanic.normal ?_
   clear HT_ HW_ hHeld
   have HS7 := Aside0.mk (HS6.out.put (nq).2 _ _ HT1.out HT2.out)
   go_wp2_with fail
   go_roundg (gk - 1)
   case measure => have := HQ.out; omega
   case rel => exact ⟨i + 1, nq, vS3, vF3, _, _, by rw [show wrap64 ((i : Int) + 1) = ((i + 1 : Nat) : Int) by have := HIL.out; have := HLL.out; unfold wrap64; omega], ⟨by have := HK.out; have := HQ.out; omega⟩, ⟨by rw [HNQ.out, take_rd HIL.out, catR_snoc, ← HRR.out, ← HXX.out, ← HQQ.out]⟩, HS7⟩
set_option maxHeartbeats 16000000 in
set_option maxRecDepth 100000 in
theorem node_alt {w0 : World} {MB : Nat} (s : Int) (kids : List S24) (hok : ∀ y ∈ kids, NodeOK w0 MB y) : NodeOK w0 MB ⟨2, s, kids⟩ := by
 intro st vS vF W A c hf hn hm hb hC hc
 replace hC : Kd.C k24 w0 A kids.length kids := hC
 replace hc : kids.length ≤ c := hc
 show Calls Try.prog 48 #[.pointer (some ⟨MB, 0, none⟩), .agg #[.int .i64 2, .int .i64 s, .slice A kids.length c]] W _
 rw [show nodeR (⟨2, s, kids⟩ : S24) st = altR kids st ⟨false, [], []⟩ by rw [nodeR_eq]; rfl]
 replace hn : st.sets.length + cntL kids ≤ 300 := by rw [cnt] at hn; exact hn
 have HLL := Aside0.mk (hC.2.1 : kids.length ≤ 9223372036854775807)
 have HF := Aside0.mk hf
 have HN := Aside0.mk hn
 have HM := Aside0.mk hm
 have HB := Aside0.mk hb
 have HC := Aside0.mk hC
 have HCC := Aside0.mk hc
 have HOK := Aside0.mk hok
 clear hok hf hn hm hb hC hc
 go_enter Try.func48, Try.ntmps48
 go_upto_region 16 with fail
 have b1 := below_alloc (Below.refl W.heap.size W) (.cells #[.pointer (some ⟨MB, 0, none⟩)] 71)
 have b2 := below_alloc (Below.refl _ (W.alloc (.cells #[.pointer (some ⟨MB, 0, none⟩)] 71))) (.cells #[.int .i64 2, .int .i64 s, .slice A kids.length c] 24)
 have b3 := below_alloc (Below.refl _ ((W.alloc (.cells #[.pointer (some ⟨MB, 0, none⟩)] 71)).alloc (.cells #[.int .i64 2, .int .i64 s, .slice A kids.length c] 24))) (.cells #[.bool false, nilV, nilV] 69)
 have s1 : (W.alloc (.cells #[.pointer (some ⟨MB, 0, none⟩)] 71)).heap.size = W.heap.size + 1 := Array.size_push _
 have s2 : ((W.alloc (.cells #[.pointer (some ⟨MB, 0, none⟩)] 71)).alloc (.cells #[.int .i64 2, .int .i64 s, .slice A kids.length c] 24)).heap.size = W.heap.size + 1 + 1 := (Array.size_push _).trans (by rw [s1])
 have b23 := b2.trans (b3.mono (by rw [s1, s2]; omega))
 have bw := b1.trans (b23.mono (by rw [s1]; omega))
 have HS0 := Aside0.mk (show BdS w0 MB W.heap.size (W.heap.size + 1) (W.heap.size + 1 + 1) vS W 2 s kids A c st vS vF (((W.alloc (.cells #[.pointer (some ⟨MB, 0, none⟩)] 71)).alloc (.cells #[.int .i64 2, .int .i64 s, .slice A kids.length c] 24)).alloc (.cells #[.bool false, nilV, nilV] 69)) from
  ⟨⟨HM.out.later bw, Tn.later bw HB.out.size, by rw [← s1]; exact blk_below (blk_new _ _) b3, by rw [← s2]; exact blk_new _ _, HB.out.trans (bw.mono HB.out.size), by omega, HB.out.size⟩, blk_below (blk_new W _) b23⟩)
 clear b1 b2 b3 s1 s2 b23 bw
 obtain ⟨RB, hRB⟩ : ∃ n, W.heap.size + 1 + 1 = n := ⟨_, rfl⟩
 obtain ⟨NB, hNB⟩ : ∃ n, W.heap.size + 1 = n := ⟨_, rfl⟩
 obtain ⟨PB, hPB⟩ : ∃ n, W.heap.size = n := ⟨_, rfl⟩
 obtain ⟨W1, hW1⟩ : ∃ w, ((W.alloc (.cells #[.pointer (some ⟨MB, 0, none⟩)] 71)).alloc (.cells #[.int .i64 2, .int .i64 s, .slice A kids.length c] 24)).alloc (.cells #[.bool false, nilV, nilV] 69) = w := ⟨_, rfl⟩
 rw [hRB, hNB, hPB, hW1] at HS0
 rw [hW1]
 rw [hRB, hNB, hPB]
 clear hRB hNB hPB hW1
 go_upto_region 17 with fail
 have hbn : Below W1.heap.size W1 (W1.alloc (.cells #[.bool false, nilV, nilV] 69)) := below_alloc (Below.refl _ _) _
 have HS1 := Aside0.mk (show BcS w0 MB PB NB W1.heap.size RB vS W 2 s kids A c st vS vF ⟨false, [], []⟩ nilV nilV (W1.alloc (.cells #[.bool false, nilV, nilV] 69)) from
  ⟨⟨HS0.out.nd.mm.later hbn, Kd.R_nil _ _ _ _ _, Kd.R_nil _ _ _ _ _, HS0.out.nd.tn.trans (Tn.later hbn HS0.out.nd.bw.size), blk_new _ _, HS0.out.nd.er.later hbn, HS0.out.nd.bw.trans (hbn.mono HS0.out.nd.bw.size), by have := blk_lt HS0.out.nd.er; omega, HS0.out.nd.tn.below.size, HS0.out.nd.rb, HS0.out.nd.ow⟩, blk_below HS0.out.nd.nb hbn, HS0.out.pb.later hbn⟩)
 clear hbn HS0
 obtain ⟨OB, hOB⟩ : ∃ n, W1.heap.size = n := ⟨_, rfl⟩
 obtain ⟨W2, hW2⟩ : ∃ w, W1.alloc (.cells #[.bool false, nilV, nilV] 69) = w := ⟨_, rfl⟩
 rw [hOB, hW2] at HS1
 rw [hW2]
 rw [hOB]
 clear hOB hW2
 have n2 := (blk_cell HS1.out.nb 2).trans rfl
 go_wp2_with fail
 clear n2
 go_loopg [71] kids.length (fun kq v54 w' => ∃ (i : Nat) (r : St × Ed) (vS1 vF1 v1 v2 : Value), v54 = .int .i64 (i : Int) ∧ Aside0 (i + kq = kids.length) ∧ Aside0 (r = altR (kids.take i) st ⟨false, [], []⟩) ∧ Aside0 (BcS w0 MB PB NB OB RB vS W 2 s kids A c r.1 vS1 vF1 r.2 v1 v2 w'))
 case atStart => exact ⟨0, (st, ⟨false, [], []⟩), vS, vF, nilV, nilV, rfl, ⟨Nat.zero_add _⟩, ⟨by rw [List.take_zero, altR]⟩, HS1⟩
 case round =>
  clear HS1
  obtain ⟨i, r, vS1, vF1, v1, v2, rfl, HK, HRR, HS⟩ := hrel
  obtain ⟨L1, k1, rfl⟩ := Kd.R_slice HS.out.cs.f1
  obtain ⟨L2, k2, rfl⟩ := Kd.R_slice HS.out.cs.f2
  by_cases q0 : gk = 0
  ·have f1 : ¬ i < kids.length := by have := HK.out; omega
   have f2 : decide ((i : Int) < (kids.length : Int)) = false := decide_eq_false (by omega)
   have HE := Aside0.mk (show r = altR kids st ⟨false, [], []⟩ by rw [HRR.out, List.take_of_length_le (by omega)])
   clear q0
   have z0 := HS.out.cs.eo.cells.1
   have z1 := HS.out.cs.eo.cells.2.1
   have z2 := HS.out.cs.eo.cells.2.2
   have y0 := HS.out.cs.er.cells.1
   have y1 := HS.out.cs.er.cells.2.1
   have y2 := HS.out.cs.er.cells.2.2
   have y3 := HS.out.cs.er.frozen 0
   have y4 := HS.out.cs.er.frozen 1
   have y5 := HS.out.cs.er.frozen 2
   go_wp2_with fail
   have HFI := Aside0.mk (Fin_.all (show Fin_ w0.heap.size MB RB vS W r.1 vS1 vF1 (.slice L1 r.2.first.length k1) (.slice L2 r.2.last.length k2) r.2.first r.2.last wr false nilV nilV from ⟨HS.out.cs.er, HS.out.cs.mm, HS.out.cs.tn, HS.out.cs.f1, HS.out.cs.f2, HS.out.cs.rb, HS.out.cs.ow⟩) r.2.null)
   clear z0 z1 z2 y0 y1 y2 y3 y4 y5
   obtain ⟨W9, hW9⟩ : ∃ w, ((wr.setCell ⟨RB, 0, none⟩ (.bool r.2.null)).setCell ⟨RB, 1, none⟩ (.slice L1 r.2.first.length k1)).setCell ⟨RB, 2, none⟩ (.slice L2 r.2.last.length k2) = w := ⟨_, rfl⟩
   rw [hW9] at HFI ⊢
   clear hW9
   refine bodyPost_ret (results_cell_row rfl _ _ RB 69 #[.bool r.2.null, (.slice L1 r.2.first.length k1), (.slice L2 r.2.last.length k2)] (0, 0) _ rfl HFI.out.er Try.underlying69 rfl (by kernel_rfl)) rfl ?_
   rw [← HE.out]
   exact HFI.out.post
  ·have HQ := Aside0.mk q0
   clear q0
   have HIL := Aside0.mk (show i < kids.length by have := HK.out; have := HQ.out; omega)
   obtain ⟨ad, A2, c2, eA, hx0, hx1, hx2, hl2, hg2⟩ := at_T24 HC.out (i : Int) (Int.natCast_nonneg i) (by have := HIL.out; omega)
   rw [Int.toNat_natCast] at hx0 hx1 hx2
   obtain ⟨x, hx⟩ : ∃ x, x = rd_T24 kids (i : Int) := ⟨_, rfl⟩
   rw [← hx] at hx0 hx1 hx2 hl2 hg2
   have HXX := Aside0.mk hx
   have HMEM := Aside0.mk (show x ∈ kids by rw [hx, rd_get HIL.out]; exact List.getElem_mem _)
   have HCNT := Aside0.mk (show cntL (kids.take i) + cnt x ≤ cntL kids by rw [hx]; exact cnt_rd HIL.out)
   subst eA
   replace hx0 := cell_keep HS.out.cs.bw hx0
   replace hx1 := cell_keep HS.out.cs.bw hx1
   replace hx2 := cell_keep HS.out.cs.bw hx2
   have HMR := Aside0.mk (show Made st r (cntL (kids.take i)) by rw [HRR.out]; exact altR_made _ _ _ HF.out ⟨good_nil _, good_nil _⟩)
   obtain ⟨q, hq⟩ : ∃ q, q = nodeR x r.1 := ⟨_, rfl⟩
   have HMQ := Aside0.mk (show Made r.1 q (cnt x) by rw [hq]; exact nodeR_made x r.1 HMR.out.fit)
   have HQQ := Aside0.mk hq
   have HLB := Aside0.mk (show r.2.first.length ≤ 300 ∧ r.2.last.length ≤ 300 ∧ q.2.first.length ≤ 300 ∧ q.2.last.length ≤ 300 ∧ q.1.sets.length ≤ 300 by
    have h1 := HMR.out.good.first.len
    have h2 := HMR.out.good.last.len
    have h3 := HMQ.out.good.first.len
    have h4 := HMQ.out.good.last.len
    have h5 := HMR.out.most
    have h6 := HMQ.out.most
    have := HCNT.out
    have := HN.out
    omega)
   have HG2 := Aside0.mk hg2
   have HL2 := Aside0.mk hl2
   clear hq hx hl2 hg2
   have f1 : i < kids.length := HIL.out
   have f2 : decide ((i : Int) < (kids.length : Int)) = true := decide_eq_true (by omega)
   have f3 : 0 ≤ (i : Int) := Int.natCast_nonneg i
   go_upto_region 20 with fail
   clear hx0 hx1 hx2 f1 f2 f3
   have hbn : Below wr.heap.size wr (wr.alloc (.cells #[.int .i64 x.f0, .int .i64 x.f1, .slice A2 x.f2.length c2] 24)) := below_alloc (Below.refl _ _) _
   have HS2 := Aside0.mk (HS.out.later hbn)
   have HX2 := Aside0.mk (show Nbox _ wr.heap.size x A2 c2 from blk_new wr (.cells #[.int .i64 x.f0, .int .i64 x.f1, .slice A2 x.f2.length c2] 24))
   obtain ⟨XN, hXN⟩ : ∃ n, wr.heap.size = n := ⟨_, rfl⟩
   obtain ⟨W3, hW3⟩ : ∃ w, wr.alloc (.cells #[.int .i64 x.f0, .int .i64 x.f1, .slice A2 x.f2.length c2] 24) = w := ⟨_, rfl⟩
   rw [hXN] at HX2
   rw [hW3] at HS2 HX2
   rw [hW3]
   rw [hXN]
   clear hXN hW3 hbn HS
   have HS3 := Aside0.mk (HS2.out.later (below_drew (Below.refl W3.heap.size W3)))
   have HX3 := Aside0.mk (HX2.out.later (below_drew (Below.refl W3.heap.size W3)))
   refine wp_region_noPanic ?_
   refine start_ (n := 6) (S := fun w' => w'.cell? ⟨OB, 0, none⟩ = some (.bool r.2.null) ∧ w'.cell? ⟨OB, 1, none⟩ = some (.slice L1 r.2.first.length k1) ∧ w'.cell? ⟨OB, 2, none⟩ = some (.slice L2 r.2.last.length k2) ∧ w'.cell? ⟨PB, 0, none⟩ = some (.pointer (some ⟨MB, 0, none⟩)) ∧ w'.cell? ⟨XN, 0, none⟩ = some (.int .i64 x.f0) ∧ w'.cell? ⟨XN, 1, none⟩ = some (.int .i64 x.f1) ∧ w'.cell? ⟨XN, 2, none⟩ = some (.slice A2 x.f2.length c2)) (ds := [5]) #[false, false, false, false, false, false] (by kernel_rfl) rfl rfl ⟨HS3.out.cs.eo.cells.1, HS3.out.cs.eo.cells.2.1, HS3.out.cs.eo.cells.2.2, HS3.out.pb.cell, HX3.out.cells.1, HX3.out.cells.2.1, HX3.out.cells.2.2⟩ (fun hHeld => ?_); refine with_tabW balt_tab20 balt_bits20 (fun HT_ HW_ => ?_)
   obtain ⟨W4, hW4⟩ : ∃ w, W3.drew = w := ⟨_, rfl⟩
   rw [hW4] at HS3 HX3 hHeld ⊢
   clear hW4 HS2 HX2
   refine take_ (i := 0) (N := some 75) (v := ?_) (a' := ?_) #[true, false, false, false, false, false] rfl rfl (take_ofW HT_.out HW_.out (by kernel_rfl)) (fun _ _ _ h => h) (Or.inl ⟨by rfl, ?_⟩) hHeld ?_ ?_
   rotate_left
   ·rintro w' ⟨s0, s1, s2, s3, s4, s5, s6⟩
    go_simp
    with_reducible rfl
   rotate_left
   ·simp only [Act.put, List.setIfInBounds_toArray, List.set_cons_zero, List.set_cons_succ, i64_w, i32_w]
    rfl
   refine take_ (i := 1) (N := some 76) (v := ?_) (a' := ?_) #[true, true, false, false, false, false] rfl rfl (take_ofW HT_.out HW_.out (by kernel_rfl)) (fun _ _ _ h => h) (Or.inl ⟨by rfl, ?_⟩) hHeld ?_ ?_
   rotate_left
   ·rintro w' ⟨s0, s1, s2, s3, s4, s5, s6⟩
    go_simp
    with_reducible rfl
   rotate_left
   ·simp only [Act.put, List.setIfInBounds_toArray, List.set_cons_zero, List.set_cons_succ, i64_w, i32_w]
    rfl
   refine take_ (i := 2) (N := some 77) (v := ?_) (a' := ?_) #[true, true, true, false, false, false] rfl rfl (take_ofW HT_.out HW_.out (by kernel_rfl)) (fun _ _ _ h => h) (Or.inl ⟨by rfl, ?_⟩) hHeld ?_ ?_
   rotate_left
   ·rintro w' ⟨s0, s1, s2, s3, s4, s5, s6⟩
    go_simp
    with_reducible rfl
   rotate_left
   ·simp only [Act.put, List.setIfInBounds_toArray, List.set_cons_zero, List.set_cons_succ, i64_w, i32_w]
    rfl
   refine one_ (i := 3) (N := some 78) #[true, true, true, true, false, false] rfl rfl (one_of HT_.out (by kernel_rfl)) (by decide) (fun K hK => ?_)
   refine goes_ Try.func48 (by kernel_rfl) rfl #[.pointer (some ⟨MB, 0, none⟩), .agg #[.int .i64 x.f0, .int .i64 x.f1, .slice A2 x.f2.length c2]] (by rfl) rfl rfl (by (try simp only [List.map_toArray, List.map_cons, List.map_nil]); first | done | rfl) ?_
   have hnode := HOK.out x HMEM.out r.1 vS1 vF1 W4 A2 c2 HMR.out.fit (by have := HMR.out.most; have := HCNT.out; have := HN.out; omega) HS3.out.cs.mm HS3.out.cs.bw HG2.out HL2.out
   rw [← HQQ.out] at hnode
   refine hnode.mono ?_
   clear hnode
   rintro e_ W5 ⟨vS2, vF2, u1, u2, rfl, hm2, hu1, hu2, ht2⟩
   have HS5 := Aside0.mk (HS3.out.turn hm2 ht2)
   have HX5 := Aside0.mk (HX3.out.turn ht2)
   obtain ⟨M1, d1, rfl⟩ := Kd.R_slice hu1
   obtain ⟨M2, d2, rfl⟩ := Kd.R_slice hu2
   have HU1 := Aside0.mk hu1
   have HU2 := Aside0.mk hu2
   clear hm2 hu1 hu2 ht2
   refine ⟨_, rfl, ?_⟩
   refine hK.out _ _ ⟨HS5.out.cs.eo.cells.1, HS5.out.cs.eo.cells.2.1, HS5.out.cs.eo.cells.2.2, HS5.out.pb.cell, HX5.out.cells.1, HX5.out.cells.2.1, HX5.out.cells.2.2⟩ (fun hHeld => ?_)
   clear hK K HS3 HX3
   refine norm_ (a' := ?_) ?_ ?_
   rotate_left
   ·show Act.put _ (some 78) _ = _
    simp only [Act.put, List.setIfInBounds_toArray, List.set_cons_zero, List.set_cons_succ, i64_w, i32_w]
    rfl
   refine one_ (i := 4) (N := some 79) #[true, true, true, true, true, false] rfl rfl (one_of HT_.out (by kernel_rfl)) (by decide) (fun K hK => ?_)
   refine goes_ Try.func74 (by kernel_rfl) rfl #[.agg #[.bool r.2.null, .slice L1 r.2.first.length k1, .slice L2 r.2.last.length k2], .agg #[.bool q.2.null, .slice M1 q.2.first.length d1, .slice M2 q.2.last.length d2]] (by rfl) rfl rfl (by (try simp only [List.map_toArray, List.map_cons, List.map_nil]); first | done | rfl) ?_
   refine (or_calls (W := W5) r.2 q.2 L1 L2 M1 M2 k1 k2 d1 d2 (Kd.R_reads' HS5.out.cs.f1).2.2 (Kd.R_reads' HS5.out.cs.f2).2.2 (Kd.R_reads' HU1.out).2.2 (Kd.R_reads' HU2.out).2.2 ⟨(Kd.R_reads' HS5.out.cs.f1).2.1, (Kd.R_reads' HS5.out.cs.f2).2.1, (Kd.R_reads' HU1.out).2.1, (Kd.R_reads' HU2.out).2.1⟩ ⟨HLB.out.1, HLB.out.2.1, HLB.out.2.2.1, HLB.out.2.2.2.1⟩ ⟨HMR.out.good.first.1, HMR.out.good.last.1⟩).mono ?_
   rintro e_ W6 ⟨t1, t2, rfl, hb6, ho1, ho2⟩
   obtain ⟨T1, j1, rfl⟩ := Kd.R_slice ho1
   obtain ⟨T2, j2, rfl⟩ := Kd.R_slice ho2
   have HT1 := Aside0.mk (rowI_new ho1 HS5.out.cs.mm HS5.out.cs.bw.size)
   have HT2 := Aside0.mk (rowI_new ho2 HS5.out.cs.mm HS5.out.cs.bw.size)
   have HS6 := Aside0.mk (HS5.out.later hb6)
   have HX6 := Aside0.mk (HX5.out.later hb6)
   clear hb6 ho1 ho2
   refine ⟨_, rfl, ?_⟩
   refine hK.out _ _ ⟨HS6.out.cs.eo.cells.1, HS6.out.cs.eo.cells.2.1, HS6.out.cs.eo.cells.2.2, HS6.out.pb.cell, HX6.out.cells.1, HX6.out.cells.2.1, HX6.out.cells.2.2⟩ (fun hHeld => ?_)
   clear hK K HS5 HX5 HU1 HU2
   refine norm_ (a' := ?_) ?_ ?_
   rotate_left
   ·show Act.put _ (some 79) _ = _
    simp only [Act.put, List.setIfInBounds_toArray, List.set_cons_zero, List.set_cons_succ, i64_w, i32_w]
    rfl
   have y0 := HS6.out.cs.eo.cells.1
   have y1 := HS6.out.cs.eo.cells.2.1
   have y2 := HS6.out.cs.eo.cells.2.2
   have y3 := HS6.out.cs.eo.frozen 0
   have y4 := HS6.out.cs.eo.frozen 1
   have y5 := HS6.out.cs.eo.frozen 2
   refine last_ (i := 5) (N := none) #[true, true, true, true, true, true] rfl rfl (one_of HT_.out (by kernel_rfl)) (by decide) (fun K hK => ?_)
   refine step_list rfl (by rfl) ?_
   unfold Oper.wp
   go_simp
   refine hK.out _ _ ?_
   clear hK K y0 y1 y2 y3 y4 y5
   refine done_ (done_of HT_.out (by kernel_rfl)) ?_
   refine NoPanic.normal ?_
   clear HT_ HW_ hHeld
   have HS7 := Aside0.mk (HS6.out.put (altOne q r.2).2 _ _ HT1.out HT2.out)
   go_wp2_with fail
   go_roundg (gk - 1)
   case measure => have := HQ.out; omega
   case rel => exact ⟨i + 1, altOne q r.2, vS2, vF2, _, _, by rw [show wrap64 ((i : Int) + 1) = ((i + 1 : Nat) : Int) by have := HIL.out; have := HLL.out; unfold wrap64; omega], ⟨by have := HK.out; have := HQ.out; omega⟩, ⟨by rw [take_rd HIL.out, altR_snoc, ← HRR.out, ← HXX.out, ← HQQ.out]⟩, HS7⟩
end F
end Go.Proofs.Ytemlgmkbonpniaa.Print

namespace Go.Proofs.Ytemlgmkbonpniaa.Print
open Go.Shelf Go.RowKit Go.Maps Go.Proofs.YtemlgmkbonpniaaW.PrintWords Go.Proofs.YtemlgmkbonpniaaW.PrintLast Go.Proofs.YtemlgmkbonpniaaW.PrintMore
set_option linter.unusedVariables false
set_option linter.unusedSimpArgs false
namespace F
def bsg_T23 : Bool × List (List Nat × List Nat) := (true, [([], []), ([], []), ([1], [1]), ([2], [2]), ([3], [3]), ([0, 4], [0, 4]), ([], []), ([6, 5, 5, 0, 1, 2, 3, 4, 5, 6], [5, 6])])
def bsg_B23 : List Nat := [0, 0, 2, 6, 14, 31, 0, 127]
theorem bsg_tab23 : rtab .any (opsOf Try.f48 23) = bsg_T23 := by kernel_rfl
theorem bsg_bits23 : waitsOk bsg_T23.2 bsg_B23 = true := by kernel_rfl
/-- A part's variable is written whole. -/
theorem part_put {w0 : World} {MB PB NB RB XB : Nat} {vS0 vS vF u1 u2 : Value} {W W' : World} {k s : Int} {kids : List S24} {A : Option Addr} {c : Nat} {st : St} {l1 l2 : List Int} (hx : Edge W' XB false nilV nilV) (h : BdS w0 MB PB NB RB vS0 W k s kids A c st vS vF W') (hne : RB ≠ XB) (hw : W.heap.size ≤ XB)
  (h1 : RowI w0.heap.size vS W' u1 l1) (h2 : RowI w0.heap.size vS W' u2 l2) (b : Bool) : Edge (((W'.setCell ⟨XB, 0, none⟩ (.bool b)).setCell ⟨XB, 1, none⟩ u1).setCell ⟨XB, 2, none⟩ u2) XB b u1 u2 ∧ BdS w0 MB PB NB RB vS0 W k s kids A c st vS vF (((W'.setCell ⟨XB, 0, none⟩ (.bool b)).setCell ⟨XB, 1, none⟩ u1).setCell ⟨XB, 2, none⟩ u2) ∧
   RowI w0.heap.size vS (((W'.setCell ⟨XB, 0, none⟩ (.bool b)).setCell ⟨XB, 1, none⟩ u1).setCell ⟨XB, 2, none⟩ u2) u1 l1 ∧ RowI w0.heap.size vS (((W'.setCell ⟨XB, 0, none⟩ (.bool b)).setCell ⟨XB, 1, none⟩ u1).setCell ⟨XB, 2, none⟩ u2) u2 l2 := by
 have e1 : Edge (W'.setCell ⟨XB, 0, none⟩ (.bool b)) XB b nilV nilV := blk_put hx 0 (.bool b) rfl
 have e2 : Edge ((W'.setCell ⟨XB, 0, none⟩ (.bool b)).setCell ⟨XB, 1, none⟩ u1) XB b u1 nilV := blk_put e1 1 u1 rfl
 exact ⟨blk_put e2 2 u2 rfl, ⟨((h.nd.far hx hne hw 0 (.bool b)).far e1 hne hw 1 u1).far e2 hne hw 2 u2, pb_set (pb_set (pb_set h.pb hx 0 (.bool b)) e1 1 u1) e2 2 u2⟩,
  RowI.far (RowI.far (RowI.far h1 hx (by decide) 0 (.bool b)) e1 (by decide) 1 u1) e2 (by decide) 2 u2, RowI.far (RowI.far (RowI.far h2 hx (by decide) 0 (.bool b)) e1 (by decide) 1 u1) e2 (by decide) 2 u2⟩
set_option maxHeartbeats 16000000 in
set_option maxRecDepth 100000 in
theorem node_sign3 {w0 : World} {MB : Nat} (s : Int) (kids : List S24) (hok : ∀ y ∈ kids, NodeOK w0 MB y) (h1 : kids.length = 1) : NodeOK w0 MB ⟨3, s, kids⟩ := by
 intro st vS vF W A c hf hn hm hb hC hc
 replace hC : Kd.C k24 w0 A kids.length kids := hC
 replace hc : kids.length ≤ c := hc
 show Calls Try.prog 48 #[.pointer (some ⟨MB, 0, none⟩), .agg #[.int .i64 3, .int .i64 s, .slice A kids.length c]] W _
 have H1 := Aside0.mk h1
 clear h1
 rw [show nodeR (⟨3, s, kids⟩ : S24) st = signR 3 (oneR kids st) by rw [nodeR_eq]; rfl]
 replace hn : st.sets.length + cntL kids ≤ 300 := by rw [cnt] at hn; exact hn
 have HF := Aside0.mk hf
 have HN := Aside0.mk hn
 have HM := Aside0.mk hm
 have HB := Aside0.mk hb
 have HC := Aside0.mk hC
 have HCC := Aside0.mk hc
 have HOK := Aside0.mk hok
 clear hok hf hn hm hb hC hc
 go_enter Try.func48, Try.ntmps48
 go_upto_region 23 with fail
 have b1 := below_alloc (Below.refl W.heap.size W) (.cells #[.pointer (some ⟨MB, 0, none⟩)] 71)
 have b2 := below_alloc (Below.refl _ (W.alloc (.cells #[.pointer (some ⟨MB, 0, none⟩)] 71))) (.cells #[.int .i64 3, .int .i64 s, .slice A kids.length c] 24)
 have b3 := below_alloc (Below.refl _ ((W.alloc (.cells #[.pointer (some ⟨MB, 0, none⟩)] 71)).alloc (.cells #[.int .i64 3, .int .i64 s, .slice A kids.length c] 24))) (.cells #[.bool false, nilV, nilV] 69)
 have s1 : (W.alloc (.cells #[.pointer (some ⟨MB, 0, none⟩)] 71)).heap.size = W.heap.size + 1 := Array.size_push _
 have s2 : ((W.alloc (.cells #[.pointer (some ⟨MB, 0, none⟩)] 71)).alloc (.cells #[.int .i64 3, .int .i64 s, .slice A kids.length c] 24)).heap.size = W.heap.size + 1 + 1 := (Array.size_push _).trans (by rw [s1])
 have b23 := b2.trans (b3.mono (by rw [s1, s2]; omega))
 have bw := b1.trans (b23.mono (by rw [s1]; omega))
 have HS0 := Aside0.mk (show BdS w0 MB W.heap.size (W.heap.size + 1) (W.heap.size + 1 + 1) vS W 3 s kids A c st vS vF (((W.alloc (.cells #[.pointer (some ⟨MB, 0, none⟩)] 71)).alloc (.cells #[.int .i64 3, .int .i64 s, .slice A kids.length c] 24)).alloc (.cells #[.bool false, nilV, nilV] 69)) from
  ⟨⟨HM.out.later bw, Tn.later bw HB.out.size, by rw [← s1]; exact blk_below (blk_new _ _) b3, by rw [← s2]; exact blk_new _ _, HB.out.trans (bw.mono HB.out.size), by omega, HB.out.size⟩, blk_below (blk_new W _) b23⟩)
 clear b1 b2 b3 s1 s2 b23 bw
 obtain ⟨RB, hRB⟩ : ∃ n, W.heap.size + 1 + 1 = n := ⟨_, rfl⟩
 obtain ⟨NB, hNB⟩ : ∃ n, W.heap.size + 1 = n := ⟨_, rfl⟩
 obtain ⟨PB, hPB⟩ : ∃ n, W.heap.size = n := ⟨_, rfl⟩
 obtain ⟨W1, hW1⟩ : ∃ w, ((W.alloc (.cells #[.pointer (some ⟨MB, 0, none⟩)] 71)).alloc (.cells #[.int .i64 3, .int .i64 s, .slice A kids.length c] 24)).alloc (.cells #[.bool false, nilV, nilV] 69) = w := ⟨_, rfl⟩
 rw [hRB, hNB, hPB, hW1] at HS0
 rw [hW1]
 rw [hRB, hNB, hPB]
 clear hRB hNB hPB hW1
 obtain ⟨x, hk⟩ := List.length_eq_one_iff.1 H1.out
 have HK := Aside0.mk hk
 clear hk
 obtain ⟨ad, A2, c2, eA, hx0, hx1, hx2, hl2, hg2⟩ := at_T24 HC.out (0 : Int) (by decide) (by rw [H1.out]; decide)
 have hrd : rd_T24 kids (0 : Int) = x := by rw [HK.out]; rfl
 rw [hrd] at hx0 hx1 hx2 hl2 hg2
 clear hrd
 subst eA
 have HW0 := Aside0.mk HS0.out.nd.bw
 have HX0 := Aside0.mk (show w0.cell? ad = some (.int .i64 x.f0) from hx0)
 have HX1 := Aside0.mk (show w0.cell? ⟨ad.block, ad.off + 1, none⟩ = some (.int .i64 x.f1) from hx1)
 have HX2 := Aside0.mk (show w0.cell? ⟨ad.block, ad.off + 2, none⟩ = some (.slice A2 x.f2.length c2) from hx2)
 obtain ⟨q, hq⟩ : ∃ q, q = nodeR x st := ⟨_, rfl⟩
 have HMQ := Aside0.mk (show Made st q (cnt x) by rw [hq]; exact nodeR_made x st HF.out)
 have HCN := Aside0.mk (show cntL kids = cnt x by rw [HK.out, cntL, cntL]; rfl)
 have HOQ := Aside0.mk (show oneR kids st = q by rw [HK.out, oneR, hq])
 have HQQ := Aside0.mk hq
 have HXM := Aside0.mk (show x ∈ kids by rw [HK.out]; exact List.mem_cons_self)
 have HG2 := Aside0.mk hg2
 have HL2 := Aside0.mk hl2
 clear hq hl2 hg2 hx0 hx1 hx2
 have HLB := Aside0.mk (show q.2.first.length ≤ 300 ∧ q.2.last.length ≤ 300 ∧ q.1.sets.length ≤ 300 by
  have h3 := HMQ.out.good.first.len
  have h4 := HMQ.out.good.last.len
  have h6 := HMQ.out.most
  have := HCN.out
  have := HN.out
  omega)
 have p0 : 0 < kids.length := by rw [H1.out]; decide
 have p1 : decide ((0 : Int) < (kids.length : Int)) = true := decide_eq_true (by omega)
 have HS1 := Aside0.mk (HS0.out.later (below_drew (Below.refl W1.heap.size W1)))
 refine wp_region_noPanic ?_
 refine start_ (n := 8) (S := fun w' => w'.cell? ⟨PB, 0, none⟩ = some (.pointer (some ⟨MB, 0, none⟩)) ∧ w'.cell? ⟨NB, 2, none⟩ = some (.slice (some ad) kids.length c) ∧ w'.cell? ad = some (.int .i64 x.f0) ∧ w'.cell? ⟨ad.block, ad.off + 1, none⟩ = some (.int .i64 x.f1) ∧ w'.cell? ⟨ad.block, ad.off + 2, none⟩ = some (.slice A2 x.f2.length c2)) (ds := [7]) #[false, false, false, false, false, false, false, false] (by kernel_rfl) rfl rfl ⟨HS1.out.pb.cell, (blk_cell HS1.out.nd.nb 2).trans rfl, cell_keep HS1.out.nd.bw HX0.out, cell_keep HS1.out.nd.bw HX1.out, cell_keep HS1.out.nd.bw HX2.out⟩ (fun hHeld => ?_); refine with_tabW bsg_tab23 bsg_bits23 (fun HT_ HW_ => ?_)
 obtain ⟨W2, hW2⟩ : ∃ w, W1.drew = w := ⟨_, rfl⟩
 rw [hW2] at HS1 hHeld ⊢
 clear hW2 HS0
 refine take_ (i := 0) (N := some 82) (v := ?_) (a' := ?_) #[true, false, false, false, false, false, false, false] rfl rfl (take_ofW HT_.out HW_.out (by kernel_rfl)) (fun _ _ _ h => h) (Or.inl ⟨by rfl, ?_⟩) hHeld ?_ ?_
 rotate_left
 ·rintro w' ⟨s0, s1, s2, s3, s4⟩
  go_simp
  with_reducible rfl
 rotate_left
 ·simp only [Act.put, List.setIfInBounds_toArray, List.set_cons_zero, List.set_cons_succ, i64_w, i32_w]
  rfl
 refine pure_ (i := 1) (N := some 83) (v := ?_) (a' := ?_) #[true, true, false, false, false, false, false, false] rfl rfl (any_of HT_.out (by kernel_rfl)) (fun _ _ _ h => h) (Or.inl ⟨by rfl, ?_⟩) ?_ ?_
 rotate_left
 ·intro w'
  go_simp
  with_reducible rfl
 rotate_left
 ·simp only [Act.put, List.setIfInBounds_toArray, List.set_cons_zero, List.set_cons_succ, i64_w, i32_w]
  rfl
 refine take_ (i := 2) (N := some 84) (v := ?_) (a' := ?_) #[true, true, true, false, false, false, false, false] rfl rfl (take_ofW HT_.out HW_.out (by kernel_rfl)) (fun _ _ _ h => h) (Or.inl ⟨by rfl, ?_⟩) hHeld ?_ ?_
 rotate_left
 ·rintro w' ⟨s0, s1, s2, s3, s4⟩
  go_simp
  with_reducible rfl
 rotate_left
 ·simp only [Act.put, List.setIfInBounds_toArray, List.set_cons_zero, List.set_cons_succ, i64_w, i32_w]
  rfl
 refine pure_ (i := 3) (N := some 85) (v := ?_) (a' := ?_) #[true, true, true, true, false, false, false, false] rfl rfl (any_of HT_.out (by kernel_rfl)) (fun _ _ _ h => h) (Or.inl ⟨by rfl, ?_⟩) ?_ ?_
 rotate_left
 ·intro w'
  go_simp
  with_reducible rfl
 rotate_left
 ·simp only [Act.put, List.setIfInBounds_toArray, List.set_cons_zero, List.set_cons_succ, i64_w, i32_w]
  rfl
 refine take_ (i := 4) (N := some 86) (v := ?_) (a' := ?_) #[true, true, true, true, true, false, false, false] rfl rfl (take_ofW HT_.out HW_.out (by kernel_rfl)) (fun _ _ _ h => h) (Or.inl ⟨by rfl, ?_⟩) hHeld ?_ ?_
 rotate_left
 ·rintro w' ⟨s0, s1, s2, s3, s4⟩
  go_simp
  with_reducible rfl
 rotate_left
 ·simp only [Act.put, List.setIfInBounds_toArray, List.set_cons_zero, List.set_cons_succ, i64_w, i32_w]
  rfl
 refine two_ (i := 5) (j := 6) (Ni := some 87) (Nj := some 13) #[true, true, true, true, true, true, false, false] #[true, true, true, true, true, false, true, false] rfl rfl rfl rfl (two_of HT_.out (by kernel_rfl)) (by decide) (by decide) (fun K hK => ?_) (fun K hK => ?_)
 ·refine goes_ Try.func48 (by kernel_rfl) rfl #[.pointer (some ⟨MB, 0, none⟩), .agg #[.int .i64 x.f0, .int .i64 x.f1, .slice A2 x.f2.length c2]] (by rfl) rfl rfl (by (try simp only [List.map_toArray, List.map_cons, List.map_nil]); first | done | rfl) ?_
  have hnode := HOK.out x HXM.out st vS vF W2 A2 c2 HF.out (by have := HCN.out; have := HN.out; omega) HS1.out.nd.mm HS1.out.nd.bw HG2.out HL2.out
  rw [← HQQ.out] at hnode
  refine hnode.mono ?_
  clear hnode
  rintro e_ W3 ⟨vS2, vF2, u1, u2, rfl, hm2, hu1, hu2, ht2⟩
  have HS3 := Aside0.mk (HS1.out.turn hm2 ht2)
  obtain ⟨M1, d1, rfl⟩ := Kd.R_slice hu1
  obtain ⟨M2, d2, rfl⟩ := Kd.R_slice hu2
  have HU1 := Aside0.mk hu1
  have HU2 := Aside0.mk hu2
  clear hm2 hu1 hu2 ht2
  refine ⟨_, rfl, ?_⟩
  refine hK.out _ _ ⟨HS3.out.pb.cell, (blk_cell HS3.out.nd.nb 2).trans rfl, cell_keep HS3.out.nd.bw HX0.out, cell_keep HS3.out.nd.bw HX1.out, cell_keep HS3.out.nd.bw HX2.out⟩ (fun hHeld => ?_)
  clear hK K HS1
  refine norm_ (a' := ?_) ?_ ?_
  rotate_left
  ·show Act.put _ (some 87) _ = _
   simp only [Act.put, List.setIfInBounds_toArray, List.set_cons_zero, List.set_cons_succ, i64_w, i32_w]
   rfl
  refine one_ (i := 6) (N := some 13) #[true, true, true, true, true, true, true, false] rfl rfl (one_of HT_.out (by kernel_rfl)) (by decide) (fun K hK => ?_)
  refine step_list rfl (by rfl) ?_
  unfold Oper.wp
  go_simp
  have HBb := Aside0.mk (below_alloc (Below.refl W3.heap.size W3) (.cells #[.bool false, nilV, nilV] 69))
  have HXA := Aside0.mk (show Edge _ W3.heap.size false nilV nilV from blk_new W3 (.cells #[.bool false, nilV, nilV] 69))
  have HS4 := Aside0.mk (HS3.out.later HBb.out)
  have HXR := Aside0.mk (show RB ≠ W3.heap.size by have := blk_lt HS3.out.nd.er; omega)
  have HXW := Aside0.mk (show W.heap.size ≤ W3.heap.size by have := HS3.out.nd.tn.below.size; omega)
  have HU1' := Aside0.mk (Kd.R_below HU1.out HBb.out)
  have HU2' := Aside0.mk (Kd.R_below HU2.out HBb.out)
  refine hK.out _ _ ⟨HS4.out.pb.cell, (blk_cell HS4.out.nd.nb 2).trans rfl, cell_keep HS4.out.nd.bw HX0.out, cell_keep HS4.out.nd.bw HX1.out, cell_keep HS4.out.nd.bw HX2.out⟩ (fun hHeld => ?_)
  clear hK K HS3 HBb HU1 HU2
  obtain ⟨XB, hXB⟩ : ∃ n, W3.heap.size = n := ⟨_, rfl⟩
  rw [hXB] at HXA HXR HXW
  rw [hXB]
  clear hXB
  generalize W3.alloc (.cells #[.bool false, nilV, nilV] 69) = W4 at *
  have HU1 := Aside0.mk HU1'.out
  have HU2 := Aside0.mk HU2'.out
  clear HU1' HU2'
  have y0 := HXA.out.cells.1
  have y1 := HXA.out.cells.2.1
  have y2 := HXA.out.cells.2.2
  have y3 := HXA.out.frozen 0
  have y4 := HXA.out.frozen 1
  have y5 := HXA.out.frozen 2
  refine last_ (i := 7) (N := none) #[true, true, true, true, true, true, true, true] rfl rfl (one_of HT_.out (by kernel_rfl)) (by decide) (fun K hK => ?_)
  refine step_list rfl (by rfl) ?_
  unfold Oper.wp
  go_simp
  refine hK.out _ _ ?_
  clear hK K y0 y1 y2 y3 y4 y5
  refine done_ (done_of HT_.out (by kernel_rfl)) ?_
  refine NoPanic.normal ?_
  clear HT_ HW_ hHeld
  have HP1 := Aside0.mk (part_put HXA.out HS4.out HXR.out HXW.out HU1.out HU2.out q.2.null)
  clear HXA HS4 HU1 HU2
  obtain ⟨W5, hW5⟩ : ∃ w, ((W4.setCell ⟨XB, 0, none⟩ (.bool q.2.null)).setCell ⟨XB, 1, none⟩ (.slice M1 q.2.first.length d1)).setCell ⟨XB, 2, none⟩ (.slice M2 q.2.last.length d2) = w := ⟨_, rfl⟩
  rw [hW5] at HP1
  rw [hW5]
  clear hW5
  have HX5 := Aside0.mk HP1.out.1
  have HS5 := Aside0.mk HP1.out.2.1
  have HV1 := Aside0.mk HP1.out.2.2.1
  have HV2 := Aside0.mk HP1.out.2.2.2
  clear HP1
  have n0 := (blk_cell HS5.out.nd.nb 0).trans rfl
  have x0 := (HX5.out).cells.1
  have x1 := (HX5.out).cells.2.1
  have x2 := (HX5.out).cells.2.2
  have x3 := (HX5.out).frozen 0
  go_wp2_with fail
  refine (note_calls (N := q.1.sets.length) M2 d2 q.2.last M1 d1 q.2.first HS5.out.nd.mm HS5.out.pb HV2.out HV1.out (fun t ht => by have h1 := HMQ.out.good.last.2 t ht; have h3 := HMQ.out.fit.len; omega) HMQ.out.fit.good HMQ.out.good.first (by have := HLB.out; omega) (by have h1 := HMQ.out.fit.len; have := HLB.out; omega) HS5.out.nd.bw.size (by have := HLB.out; omega)).mono ?_
  rintro e_ Wn ⟨rfl, hm4, ht4⟩
  have HSn := Aside0.mk (BdS.turn (st' := ⟨q.1.sets, afterR q.1.fol q.2.last q.2.first⟩) HS5.out hm4 ht4)
  have HY1 := Aside0.mk (ht4.rows _ _ HV1.out)
  have HY2 := Aside0.mk (ht4.rows _ _ HV2.out)
  have HXn := Aside0.mk (HX5.out.turn ht4)
  clear hm4 ht4 n0 x0 x1 x2 x3
  have n0 := (blk_cell HSn.out.nd.nb 0).trans rfl
  have x0 := (HXn.out).cells.1
  have x1 := (HXn.out).cells.2.1
  have x2 := (HXn.out).cells.2.2
  have x3 := (HXn.out).frozen 0
  cases hb0 : q.2.null
  case false =>
   have HBN := Aside0.mk hb0
   rw [hb0] at x0
   clear hb0
   go_upto_region 27 with fail
   clear n0 x0 x1 x2 x3
   have HS6 := Aside0.mk (HSn.out.nd.far HXn.out HXR.out HXW.out 0 (.bool true))
   have HX6 := Aside0.mk (show Edge _ XB true _ _ from blk_put HXn.out 0 (.bool true) rfl)
   have HZ1 := Aside0.mk (RowI.far HY1.out HXn.out (by decide) 0 (.bool true))
   have HZ2 := Aside0.mk (RowI.far HY2.out HXn.out (by decide) 0 (.bool true))
   obtain ⟨W6, hW6⟩ : ∃ w, Wn.setCell ⟨XB, 0, none⟩ (.bool true) = w := ⟨_, rfl⟩
   rw [hW6] at HS6 HX6 HZ1 HZ2
   rw [hW6]
   clear hW6
   have x0 := (HX6.out).cells.1
   have x1 := (HX6.out).cells.2.1
   have x2 := (HX6.out).cells.2.2
   have x3 := (HX6.out).frozen 0
   have y0 := HS6.out.er.cells.1
   have y1 := HS6.out.er.cells.2.1
   have y2 := HS6.out.er.cells.2.2
   have y3 := HS6.out.er.frozen 0
   have y4 := HS6.out.er.frozen 1
   have y5 := HS6.out.er.frozen 2
   go_wp2_with fail
   have HFI := Aside0.mk (Fin_.all (show Fin_ w0.heap.size MB RB vS W ⟨q.1.sets, afterR q.1.fol q.2.last q.2.first⟩ vS2 vF2 (.slice M1 q.2.first.length d1) (.slice M2 q.2.last.length d2) q.2.first q.2.last W6 false nilV nilV from ⟨HS6.out.er, HS6.out.mm, HS6.out.tn, HZ1.out, HZ2.out, HS6.out.rb, HS6.out.ow⟩) true)
   clear x0 x1 x2 x3 y0 y1 y2 y3 y4 y5
   obtain ⟨W9, hW9⟩ : ∃ w, ((W6.setCell ⟨RB, 0, none⟩ (.bool true)).setCell ⟨RB, 1, none⟩ (.slice M1 q.2.first.length d1)).setCell ⟨RB, 2, none⟩ (.slice M2 q.2.last.length d2) = w := ⟨_, rfl⟩
   rw [hW9] at HFI ⊢
   clear hW9
   refine bodyPost_ret (results_cell_row rfl _ _ RB 69 #[.bool true, (.slice M1 q.2.first.length d1), (.slice M2 q.2.last.length d2)] (0, 0) _ rfl HFI.out.er Try.underlying69 rfl (by kernel_rfl)) rfl ?_
   rw [HOQ.out]
   rw [show signR 3 q = (⟨q.1.sets, afterR q.1.fol q.2.last q.2.first⟩, ⟨true, q.2.first, q.2.last⟩) by unfold signR; rw [HBN.out]; rfl]
   exact HFI.out.post (r := (⟨q.1.sets, afterR q.1.fol q.2.last q.2.first⟩, ⟨true, q.2.first, q.2.last⟩))
  case true =>
   have HBN := Aside0.mk hb0
   rw [hb0] at x0
   clear hb0
   go_upto_region 27 with fail
   clear n0 x0 x1 x2 x3
   have HS6 := Aside0.mk (HSn.out.nd.far HXn.out HXR.out HXW.out 0 (.bool true))
   have HX6 := Aside0.mk (show Edge _ XB true _ _ from blk_put HXn.out 0 (.bool true) rfl)
   have HZ1 := Aside0.mk (RowI.far HY1.out HXn.out (by decide) 0 (.bool true))
   have HZ2 := Aside0.mk (RowI.far HY2.out HXn.out (by decide) 0 (.bool true))
   obtain ⟨W6, hW6⟩ : ∃ w, Wn.setCell ⟨XB, 0, none⟩ (.bool true) = w := ⟨_, rfl⟩
   rw [hW6] at HS6 HX6 HZ1 HZ2
   rw [hW6]
   clear hW6
   have x0 := (HX6.out).cells.1
   have x1 := (HX6.out).cells.2.1
   have x2 := (HX6.out).cells.2.2
   have x3 := (HX6.out).frozen 0
   have y0 := HS6.out.er.cells.1
   have y1 := HS6.out.er.cells.2.1
   have y2 := HS6.out.er.cells.2.2
   have y3 := HS6.out.er.frozen 0
   have y4 := HS6.out.er.frozen 1
   have y5 := HS6.out.er.frozen 2
   go_wp2_with fail
   have HFI := Aside0.mk (Fin_.all (show Fin_ w0.heap.size MB RB vS W ⟨q.1.sets, afterR q.1.fol q.2.last q.2.first⟩ vS2 vF2 (.slice M1 q.2.first.length d1) (.slice M2 q.2.last.length d2) q.2.first q.2.last W6 false nilV nilV from ⟨HS6.out.er, HS6.out.mm, HS6.out.tn, HZ1.out, HZ2.out, HS6.out.rb, HS6.out.ow⟩) true)
   clear x0 x1 x2 x3 y0 y1 y2 y3 y4 y5
   obtain ⟨W9, hW9⟩ : ∃ w, ((W6.setCell ⟨RB, 0, none⟩ (.bool true)).setCell ⟨RB, 1, none⟩ (.slice M1 q.2.first.length d1)).setCell ⟨RB, 2, none⟩ (.slice M2 q.2.last.length d2) = w := ⟨_, rfl⟩
   rw [hW9] at HFI ⊢
   clear hW9
   refine bodyPost_ret (results_cell_row rfl _ _ RB 69 #[.bool true, (.slice M1 q.2.first.length d1), (.slice M2 q.2.last.length d2)] (0, 0) _ rfl HFI.out.er Try.underlying69 rfl (by kernel_rfl)) rfl ?_
   rw [HOQ.out]
   rw [show signR 3 q = (⟨q.1.sets, afterR q.1.fol q.2.last q.2.first⟩, ⟨true, q.2.first, q.2.last⟩) by unfold signR; rw [HBN.out]; rfl]
   exact HFI.out.post (r := (⟨q.1.sets, afterR q.1.fol q.2.last q.2.first⟩, ⟨true, q.2.first, q.2.last⟩))
 ·refine step_list rfl (by rfl) ?_
  unfold Oper.wp
  go_simp
  have HBb := Aside0.mk (below_alloc (Below.refl W2.heap.size W2) (.cells #[.bool false, nilV, nilV] 69))
  have HXA := Aside0.mk (show Edge _ W2.heap.size false nilV nilV from blk_new W2 (.cells #[.bool false, nilV, nilV] 69))
  have HS3 := Aside0.mk (HS1.out.later HBb.out)
  have HXR := Aside0.mk (show RB ≠ W2.heap.size by have := blk_lt HS1.out.nd.er; omega)
  have HXW := Aside0.mk (show W.heap.size ≤ W2.heap.size by have := HS1.out.nd.tn.below.size; omega)
  refine hK.out _ _ ⟨HS3.out.pb.cell, (blk_cell HS3.out.nd.nb 2).trans rfl, cell_keep HS3.out.nd.bw HX0.out, cell_keep HS3.out.nd.bw HX1.out, cell_keep HS3.out.nd.bw HX2.out⟩ (fun hHeld => ?_)
  clear hK K HS1 HBb
  obtain ⟨XB, hXB⟩ : ∃ n, W2.heap.size = n := ⟨_, rfl⟩
  rw [hXB] at HXA HXR HXW
  rw [hXB]
  clear hXB
  generalize W2.alloc (.cells #[.bool false, nilV, nilV] 69) = W3 at *
  refine one_ (i := 5) (N := some 87) #[true, true, true, true, true, true, true, false] rfl rfl (one_of HT_.out (by kernel_rfl)) (by decide) (fun K hK => ?_)
  refine goes_ Try.func48 (by kernel_rfl) rfl #[.pointer (some ⟨MB, 0, none⟩), .agg #[.int .i64 x.f0, .int .i64 x.f1, .slice A2 x.f2.length c2]] (by rfl) rfl rfl (by (try simp only [List.map_toArray, List.map_cons, List.map_nil]); first | done | rfl) ?_
  have hnode := HOK.out x HXM.out st vS vF W3 A2 c2 HF.out (by have := HCN.out; have := HN.out; omega) HS3.out.nd.mm HS3.out.nd.bw HG2.out HL2.out
  rw [← HQQ.out] at hnode
  refine hnode.mono ?_
  clear hnode
  rintro e_ W4 ⟨vS2, vF2, u1, u2, rfl, hm2, hu1, hu2, ht2⟩
  have HS4 := Aside0.mk (HS3.out.turn hm2 ht2)
  obtain ⟨M1, d1, rfl⟩ := Kd.R_slice hu1
  obtain ⟨M2, d2, rfl⟩ := Kd.R_slice hu2
  have HU1 := Aside0.mk hu1
  have HU2 := Aside0.mk hu2
  have HXA' := Aside0.mk (HXA.out.turn ht2)
  clear hm2 hu1 hu2 ht2
  refine ⟨_, rfl, ?_⟩
  refine hK.out _ _ ⟨HS4.out.pb.cell, (blk_cell HS4.out.nd.nb 2).trans rfl, cell_keep HS4.out.nd.bw HX0.out, cell_keep HS4.out.nd.bw HX1.out, cell_keep HS4.out.nd.bw HX2.out⟩ (fun hHeld => ?_)
  clear hK K HS3 HXA
  refine norm_ (a' := ?_) ?_ ?_
  rotate_left
  ·show Act.put _ (some 87) _ = _
   simp only [Act.put, List.setIfInBounds_toArray, List.set_cons_zero, List.set_cons_succ, i64_w, i32_w]
   rfl
  have HXA := Aside0.mk HXA'.out
  clear HXA'
  have y0 := HXA.out.cells.1
  have y1 := HXA.out.cells.2.1
  have y2 := HXA.out.cells.2.2
  have y3 := HXA.out.frozen 0
  have y4 := HXA.out.frozen 1
  have y5 := HXA.out.frozen 2
  refine last_ (i := 7) (N := none) #[true, true, true, true, true, true, true, true] rfl rfl (one_of HT_.out (by kernel_rfl)) (by decide) (fun K hK => ?_)
  refine step_list rfl (by rfl) ?_
  unfold Oper.wp
  go_simp
  refine hK.out _ _ ?_
  clear hK K y0 y1 y2 y3 y4 y5
  refine done_ (done_of HT_.out (by kernel_rfl)) ?_
  refine NoPanic.normal ?_
  clear HT_ HW_ hHeld
  have HP1 := Aside0.mk (part_put HXA.out HS4.out HXR.out HXW.out HU1.out HU2.out q.2.null)
  clear HXA HS4 HU1 HU2
  obtain ⟨W5, hW5⟩ : ∃ w, ((W4.setCell ⟨XB, 0, none⟩ (.bool q.2.null)).setCell ⟨XB, 1, none⟩ (.slice M1 q.2.first.length d1)).setCell ⟨XB, 2, none⟩ (.slice M2 q.2.last.length d2) = w := ⟨_, rfl⟩
  rw [hW5] at HP1
  rw [hW5]
  clear hW5
  have HX5 := Aside0.mk HP1.out.1
  have HS5 := Aside0.mk HP1.out.2.1
  have HV1 := Aside0.mk HP1.out.2.2.1
  have HV2 := Aside0.mk HP1.out.2.2.2
  clear HP1
  have n0 := (blk_cell HS5.out.nd.nb 0).trans rfl
  have x0 := (HX5.out).cells.1
  have x1 := (HX5.out).cells.2.1
  have x2 := (HX5.out).cells.2.2
  have x3 := (HX5.out).frozen 0
  go_wp2_with fail
  refine (note_calls (N := q.1.sets.length) M2 d2 q.2.last M1 d1 q.2.first HS5.out.nd.mm HS5.out.pb HV2.out HV1.out (fun t ht => by have h1 := HMQ.out.good.last.2 t ht; have h3 := HMQ.out.fit.len; omega) HMQ.out.fit.good HMQ.out.good.first (by have := HLB.out; omega) (by have h1 := HMQ.out.fit.len; have := HLB.out; omega) HS5.out.nd.bw.size (by have := HLB.out; omega)).mono ?_
  rintro e_ Wn ⟨rfl, hm4, ht4⟩
  have HSn := Aside0.mk (BdS.turn (st' := ⟨q.1.sets, afterR q.1.fol q.2.last q.2.first⟩) HS5.out hm4 ht4)
  have HY1 := Aside0.mk (ht4.rows _ _ HV1.out)
  have HY2 := Aside0.mk (ht4.rows _ _ HV2.out)
  have HXn := Aside0.mk (HX5.out.turn ht4)
  clear hm4 ht4 n0 x0 x1 x2 x3
  have n0 := (blk_cell HSn.out.nd.nb 0).trans rfl
  have x0 := (HXn.out).cells.1
  have x1 := (HXn.out).cells.2.1
  have x2 := (HXn.out).cells.2.2
  have x3 := (HXn.out).frozen 0
  cases hb0 : q.2.null
  case false =>
   have HBN := Aside0.mk hb0
   rw [hb0] at x0
   clear hb0
   go_upto_region 27 with fail
   clear n0 x0 x1 x2 x3
   have HS6 := Aside0.mk (HSn.out.nd.far HXn.out HXR.out HXW.out 0 (.bool true))
   have HX6 := Aside0.mk (show Edge _ XB true _ _ from blk_put HXn.out 0 (.bool true) rfl)
   have HZ1 := Aside0.mk (RowI.far HY1.out HXn.out (by decide) 0 (.bool true))
   have HZ2 := Aside0.mk (RowI.far HY2.out HXn.out (by decide) 0 (.bool true))
   obtain ⟨W6, hW6⟩ : ∃ w, Wn.setCell ⟨XB, 0, none⟩ (.bool true) = w := ⟨_, rfl⟩
   rw [hW6] at HS6 HX6 HZ1 HZ2
   rw [hW6]
   clear hW6
   have x0 := (HX6.out).cells.1
   have x1 := (HX6.out).cells.2.1
   have x2 := (HX6.out).cells.2.2
   have x3 := (HX6.out).frozen 0
   have y0 := HS6.out.er.cells.1
   have y1 := HS6.out.er.cells.2.1
   have y2 := HS6.out.er.cells.2.2
   have y3 := HS6.out.er.frozen 0
   have y4 := HS6.out.er.frozen 1
   have y5 := HS6.out.er.frozen 2
   go_wp2_with fail
   have HFI := Aside0.mk (Fin_.all (show Fin_ w0.heap.size MB RB vS W ⟨q.1.sets, afterR q.1.fol q.2.last q.2.first⟩ vS2 vF2 (.slice M1 q.2.first.length d1) (.slice M2 q.2.last.length d2) q.2.first q.2.last W6 false nilV nilV from ⟨HS6.out.er, HS6.out.mm, HS6.out.tn, HZ1.out, HZ2.out, HS6.out.rb, HS6.out.ow⟩) true)
   clear x0 x1 x2 x3 y0 y1 y2 y3 y4 y5
   obtain ⟨W9, hW9⟩ : ∃ w, ((W6.setCell ⟨RB, 0, none⟩ (.bool true)).setCell ⟨RB, 1, none⟩ (.slice M1 q.2.first.length d1)).setCell ⟨RB, 2, none⟩ (.slice M2 q.2.last.length d2) = w := ⟨_, rfl⟩
   rw [hW9] at HFI ⊢
   clear hW9
   refine bodyPost_ret (results_cell_row rfl _ _ RB 69 #[.bool true, (.slice M1 q.2.first.length d1), (.slice M2 q.2.last.length d2)] (0, 0) _ rfl HFI.out.er Try.underlying69 rfl (by kernel_rfl)) rfl ?_
   rw [HOQ.out]
   rw [show signR 3 q = (⟨q.1.sets, afterR q.1.fol q.2.last q.2.first⟩, ⟨true, q.2.first, q.2.last⟩) by unfold signR; rw [HBN.out]; rfl]
   exact HFI.out.post (r := (⟨q.1.sets, afterR q.1.fol q.2.last q.2.first⟩, ⟨true, q.2.first, q.2.last⟩))
  case true =>
   have HBN := Aside0.mk hb0
   rw [hb0] at x0
   clear hb0
   go_upto_region 27 with fail
   clear n0 x0 x1 x2 x3
   have HS6 := Aside0.mk (HSn.out.nd.far HXn.out HXR.out HXW.out 0 (.bool true))
   have HX6 := Aside0.mk (show Edge _ XB true _ _ from blk_put HXn.out 0 (.bool true) rfl)
   have HZ1 := Aside0.mk (RowI.far HY1.out HXn.out (by decide) 0 (.bool true))
   have HZ2 := Aside0.mk (RowI.far HY2.out HXn.out (by decide) 0 (.bool true))
   obtain ⟨W6, hW6⟩ : ∃ w, Wn.setCell ⟨XB, 0, none⟩ (.bool true) = w := ⟨_, rfl⟩
   rw [hW6] at HS6 HX6 HZ1 HZ2
   rw [hW6]
   clear hW6
   have x0 := (HX6.out).cells.1
   have x1 := (HX6.out).cells.2.1
   have x2 := (HX6.out).cells.2.2
   have x3 := (HX6.out).frozen 0
   have y0 := HS6.out.er.cells.1
   have y1 := HS6.out.er.cells.2.1
   have y2 := HS6.out.er.cells.2.2
   have y3 := HS6.out.er.frozen 0
   have y4 := HS6.out.er.frozen 1
   have y5 := HS6.out.er.frozen 2
   go_wp2_with fail
   have HFI := Aside0.mk (Fin_.all (show Fin_ w0.heap.size MB RB vS W ⟨q.1.sets, afterR q.1.fol q.2.last q.2.first⟩ vS2 vF2 (.slice M1 q.2.first.length d1) (.slice M2 q.2.last.length d2) q.2.first q.2.last W6 false nilV nilV from ⟨HS6.out.er, HS6.out.mm, HS6.out.tn, HZ1.out, HZ2.out, HS6.out.rb, HS6.out.ow⟩) true)
   clear x0 x1 x2 x3 y0 y1 y2 y3 y4 y5
   obtain ⟨W9, hW9⟩ : ∃ w, ((W6.setCell ⟨RB, 0, none⟩ (.bool true)).setCell ⟨RB, 1, none⟩ (.slice M1 q.2.first.length d1)).setCell ⟨RB, 2, none⟩ (.slice M2 q.2.last.length d2) = w := ⟨_, rfl⟩
   rw [hW9] at HFI ⊢
   clear hW9
   refine bodyPost_ret (results_cell_row rfl _ _ RB 69 #[.bool true, (.slice M1 q.2.first.length d1), (.slice M2 q.2.last.length d2)] (0, 0) _ rfl HFI.out.er Try.underlying69 rfl (by kernel_rfl)) rfl ?_
   rw [HOQ.out]
   rw [show signR 3 q = (⟨q.1.sets, afterR q.1.fol q.2.last q.2.first⟩, ⟨true, q.2.first, q.2.last⟩) by unfold signR; rw [HBN.out]; rfl]
   exact HFI.out.post (r := (⟨q.1.sets, afterR q.1.fol q.2.last q.2.first⟩, ⟨true, q.2.first, q.2.last⟩))
set_option maxHeartbeats 16000000 in
set_option maxRecDepth 100000 in
theorem node_sign4 {w0 : World} {MB : Nat} (s : Int) (kids : List S24) (hok : ∀ y ∈ kids, NodeOK w0 MB y) (h1 : kids.length = 1) : NodeOK w0 MB ⟨4, s, kids⟩ := by
 intro st vS vF W A c hf hn hm hb hC hc
 replace hC : Kd.C k24 w0 A kids.length kids := hC
 replace hc : kids.length ≤ c := hc
 show Calls Try.prog 48 #[.pointer (some ⟨MB, 0, none⟩), .agg #[.int .i64 4, .int .i64 s, .slice A kids.length c]] W _
 have H1 := Aside0.mk h1
 clear h1
 rw [show nodeR (⟨4, s, kids⟩ : S24) st = signR 4 (oneR kids st) by rw [nodeR_eq]; rfl]
 replace hn : st.sets.length + cntL kids ≤ 300 := by rw [cnt] at hn; exact hn
 have HF := Aside0.mk hf
 have HN := Aside0.mk hn
 have HM := Aside0.mk hm
 have HB := Aside0.mk hb
 have HC := Aside0.mk hC
 have HCC := Aside0.mk hc
 have HOK := Aside0.mk hok
 clear hok hf hn hm hb hC hc
 go_enter Try.func48, Try.ntmps48
 go_upto_region 23 with fail
 have b1 := below_alloc (Below.refl W.heap.size W) (.cells #[.pointer (some ⟨MB, 0, none⟩)] 71)
 have b2 := below_alloc (Below.refl _ (W.alloc (.cells #[.pointer (some ⟨MB, 0, none⟩)] 71))) (.cells #[.int .i64 4, .int .i64 s, .slice A kids.length c] 24)
 have b3 := below_alloc (Below.refl _ ((W.alloc (.cells #[.pointer (some ⟨MB, 0, none⟩)] 71)).alloc (.cells #[.int .i64 4, .int .i64 s, .slice A kids.length c] 24))) (.cells #[.bool false, nilV, nilV] 69)
 have s1 : (W.alloc (.cells #[.pointer (some ⟨MB, 0, none⟩)] 71)).heap.size = W.heap.size + 1 := Array.size_push _
 have s2 : ((W.alloc (.cells #[.pointer (some ⟨MB, 0, none⟩)] 71)).alloc (.cells #[.int .i64 4, .int .i64 s, .slice A kids.length c] 24)).heap.size = W.heap.size + 1 + 1 := (Array.size_push _).trans (by rw [s1])
 have b23 := b2.trans (b3.mono (by rw [s1, s2]; omega))
 have bw := b1.trans (b23.mono (by rw [s1]; omega))
 have HS0 := Aside0.mk (show BdS w0 MB W.heap.size (W.heap.size + 1) (W.heap.size + 1 + 1) vS W 4 s kids A c st vS vF (((W.alloc (.cells #[.pointer (some ⟨MB, 0, none⟩)] 71)).alloc (.cells #[.int .i64 4, .int .i64 s, .slice A kids.length c] 24)).alloc (.cells #[.bool false, nilV, nilV] 69)) from
  ⟨⟨HM.out.later bw, Tn.later bw HB.out.size, by rw [← s1]; exact blk_below (blk_new _ _) b3, by rw [← s2]; exact blk_new _ _, HB.out.trans (bw.mono HB.out.size), by omega, HB.out.size⟩, blk_below (blk_new W _) b23⟩)
 clear b1 b2 b3 s1 s2 b23 bw
 obtain ⟨RB, hRB⟩ : ∃ n, W.heap.size + 1 + 1 = n := ⟨_, rfl⟩
 obtain ⟨NB, hNB⟩ : ∃ n, W.heap.size + 1 = n := ⟨_, rfl⟩
 obtain ⟨PB, hPB⟩ : ∃ n, W.heap.size = n := ⟨_, rfl⟩
 obtain ⟨W1, hW1⟩ : ∃ w, ((W.alloc (.cells #[.pointer (some ⟨MB, 0, none⟩)] 71)).alloc (.cells #[.int .i64 4, .int .i64 s, .slice A kids.length c] 24)).alloc (.cells #[.bool false, nilV, nilV] 69) = w := ⟨_, rfl⟩
 rw [hRB, hNB, hPB, hW1] at HS0
 rw [hW1]
 rw [hRB, hNB, hPB]
 clear hRB hNB hPB hW1
 obtain ⟨x, hk⟩ := List.length_eq_one_iff.1 H1.out
 have HK := Aside0.mk hk
 clear hk
 obtain ⟨ad, A2, c2, eA, hx0, hx1, hx2, hl2, hg2⟩ := at_T24 HC.out (0 : Int) (by decide) (by rw [H1.out]; decide)
 have hrd : rd_T24 kids (0 : Int) = x := by rw [HK.out]; rfl
 rw [hrd] at hx0 hx1 hx2 hl2 hg2
 clear hrd
 subst eA
 have HW0 := Aside0.mk HS0.out.nd.bw
 have HX0 := Aside0.mk (show w0.cell? ad = some (.int .i64 x.f0) from hx0)
 have HX1 := Aside0.mk (show w0.cell? ⟨ad.block, ad.off + 1, none⟩ = some (.int .i64 x.f1) from hx1)
 have HX2 := Aside0.mk (show w0.cell? ⟨ad.block, ad.off + 2, none⟩ = some (.slice A2 x.f2.length c2) from hx2)
 obtain ⟨q, hq⟩ : ∃ q, q = nodeR x st := ⟨_, rfl⟩
 have HMQ := Aside0.mk (show Made st q (cnt x) by rw [hq]; exact nodeR_made x st HF.out)
 have HCN := Aside0.mk (show cntL kids = cnt x by rw [HK.out, cntL, cntL]; rfl)
 have HOQ := Aside0.mk (show oneR kids st = q by rw [HK.out, oneR, hq])
 have HQQ := Aside0.mk hq
 have HXM := Aside0.mk (show x ∈ kids by rw [HK.out]; exact List.mem_cons_self)
 have HG2 := Aside0.mk hg2
 have HL2 := Aside0.mk hl2
 clear hq hl2 hg2 hx0 hx1 hx2
 have HLB := Aside0.mk (show q.2.first.length ≤ 300 ∧ q.2.last.length ≤ 300 ∧ q.1.sets.length ≤ 300 by
  have h3 := HMQ.out.good.first.len
  have h4 := HMQ.out.good.last.len
  have h6 := HMQ.out.most
  have := HCN.out
  have := HN.out
  omega)
 have p0 : 0 < kids.length := by rw [H1.out]; decide
 have p1 : decide ((0 : Int) < (kids.length : Int)) = true := decide_eq_true (by omega)
 have HS1 := Aside0.mk (HS0.out.later (below_drew (Below.refl W1.heap.size W1)))
 refine wp_region_noPanic ?_
 refine start_ (n := 8) (S := fun w' => w'.cell? ⟨PB, 0, none⟩ = some (.pointer (some ⟨MB, 0, none⟩)) ∧ w'.cell? ⟨NB, 2, none⟩ = some (.slice (some ad) kids.length c) ∧ w'.cell? ad = some (.int .i64 x.f0) ∧ w'.cell? ⟨ad.block, ad.off + 1, none⟩ = some (.int .i64 x.f1) ∧ w'.cell? ⟨ad.block, ad.off + 2, none⟩ = some (.slice A2 x.f2.length c2)) (ds := [7]) #[false, false, false, false, false, false, false, false] (by kernel_rfl) rfl rfl ⟨HS1.out.pb.cell, (blk_cell HS1.out.nd.nb 2).trans rfl, cell_keep HS1.out.nd.bw HX0.out, cell_keep HS1.out.nd.bw HX1.out, cell_keep HS1.out.nd.bw HX2.out⟩ (fun hHeld => ?_); refine with_tabW bsg_tab23 bsg_bits23 (fun HT_ HW_ => ?_)
 obtain ⟨W2, hW2⟩ : ∃ w, W1.drew = w := ⟨_, rfl⟩
 rw [hW2] at HS1 hHeld ⊢
 clear hW2 HS0
 refine take_ (i := 0) (N := some 82) (v := ?_) (a' := ?_) #[true, false, false, false, false, false, false, false] rfl rfl (take_ofW HT_.out HW_.out (by kernel_rfl)) (fun _ _ _ h => h) (Or.inl ⟨by rfl, ?_⟩) hHeld ?_ ?_
 rotate_left
 ·rintro w' ⟨s0, s1, s2, s3, s4⟩
  go_simp
  with_reducible rfl
 rotate_left
 ·simp only [Act.put, List.setIfInBounds_toArray, List.set_cons_zero, List.set_cons_succ, i64_w, i32_w]
  rfl
 refine pure_ (i := 1) (N := some 83) (v := ?_) (a' := ?_) #[true, true, false, false, false, false, false, false] rfl rfl (any_of HT_.out (by kernel_rfl)) (fun _ _ _ h => h) (Or.inl ⟨by rfl, ?_⟩) ?_ ?_
 rotate_left
 ·intro w'
  go_simp
  with_reducible rfl
 rotate_left
 ·simp only [Act.put, List.setIfInBounds_toArray, List.set_cons_zero, List.set_cons_succ, i64_w, i32_w]
  rfl
 refine take_ (i := 2) (N := some 84) (v := ?_) (a' := ?_) #[true, true, true, false, false, false, false, false] rfl rfl (take_ofW HT_.out HW_.out (by kernel_rfl)) (fun _ _ _ h => h) (Or.inl ⟨by rfl, ?_⟩) hHeld ?_ ?_
 rotate_left
 ·rintro w' ⟨s0, s1, s2, s3, s4⟩
  go_simp
  with_reducible rfl
 rotate_left
 ·simp only [Act.put, List.setIfInBounds_toArray, List.set_cons_zero, List.set_cons_succ, i64_w, i32_w]
  rfl
 refine pure_ (i := 3) (N := some 85) (v := ?_) (a' := ?_) #[true, true, true, true, false, false, false, false] rfl rfl (any_of HT_.out (by kernel_rfl)) (fun _ _ _ h => h) (Or.inl ⟨by rfl, ?_⟩) ?_ ?_
 rotate_left
 ·intro w'
  go_simp
  with_reducible rfl
 rotate_left
 ·simp only [Act.put, List.setIfInBounds_toArray, List.set_cons_zero, List.set_cons_succ, i64_w, i32_w]
  rfl
 refine take_ (i := 4) (N := some 86) (v := ?_) (a' := ?_) #[true, true, true, true, true, false, false, false] rfl rfl (take_ofW HT_.out HW_.out (by kernel_rfl)) (fun _ _ _ h => h) (Or.inl ⟨by rfl, ?_⟩) hHeld ?_ ?_
 rotate_left
 ·rintro w' ⟨s0, s1, s2, s3, s4⟩
  go_simp
  with_reducible rfl
 rotate_left
 ·simp only [Act.put, List.setIfInBounds_toArray, List.set_cons_zero, List.set_cons_succ, i64_w, i32_w]
  rfl
 refine two_ (i := 5) (j := 6) (Ni := some 87) (Nj := some 13) #[true, true, true, true, true, true, false, false] #[true, true, true, true, true, false, true, false] rfl rfl rfl rfl (two_of HT_.out (by kernel_rfl)) (by decide) (by decide) (fun K hK => ?_) (fun K hK => ?_)
 ·refine goes_ Try.func48 (by kernel_rfl) rfl #[.pointer (some ⟨MB, 0, none⟩), .agg #[.int .i64 x.f0, .int .i64 x.f1, .slice A2 x.f2.length c2]] (by rfl) rfl rfl (by (try simp only [List.map_toArray, List.map_cons, List.map_nil]); first | done | rfl) ?_
  have hnode := HOK.out x HXM.out st vS vF W2 A2 c2 HF.out (by have := HCN.out; have := HN.out; omega) HS1.out.nd.mm HS1.out.nd.bw HG2.out HL2.out
  rw [← HQQ.out] at hnode
  refine hnode.mono ?_
  clear hnode
  rintro e_ W3 ⟨vS2, vF2, u1, u2, rfl, hm2, hu1, hu2, ht2⟩
  have HS3 := Aside0.mk (HS1.out.turn hm2 ht2)
  obtain ⟨M1, d1, rfl⟩ := Kd.R_slice hu1
  obtain ⟨M2, d2, rfl⟩ := Kd.R_slice hu2
  have HU1 := Aside0.mk hu1
  have HU2 := Aside0.mk hu2
  clear hm2 hu1 hu2 ht2
  refine ⟨_, rfl, ?_⟩
  refine hK.out _ _ ⟨HS3.out.pb.cell, (blk_cell HS3.out.nd.nb 2).trans rfl, cell_keep HS3.out.nd.bw HX0.out, cell_keep HS3.out.nd.bw HX1.out, cell_keep HS3.out.nd.bw HX2.out⟩ (fun hHeld => ?_)
  clear hK K HS1
  refine norm_ (a' := ?_) ?_ ?_
  rotate_left
  ·show Act.put _ (some 87) _ = _
   simp only [Act.put, List.setIfInBounds_toArray, List.set_cons_zero, List.set_cons_succ, i64_w, i32_w]
   rfl
  refine one_ (i := 6) (N := some 13) #[true, true, true, true, true, true, true, false] rfl rfl (one_of HT_.out (by kernel_rfl)) (by decide) (fun K hK => ?_)
  refine step_list rfl (by rfl) ?_
  unfold Oper.wp
  go_simp
  have HBb := Aside0.mk (below_alloc (Below.refl W3.heap.size W3) (.cells #[.bool false, nilV, nilV] 69))
  have HXA := Aside0.mk (show Edge _ W3.heap.size false nilV nilV from blk_new W3 (.cells #[.bool false, nilV, nilV] 69))
  have HS4 := Aside0.mk (HS3.out.later HBb.out)
  have HXR := Aside0.mk (show RB ≠ W3.heap.size by have := blk_lt HS3.out.nd.er; omega)
  have HXW := Aside0.mk (show W.heap.size ≤ W3.heap.size by have := HS3.out.nd.tn.below.size; omega)
  have HU1' := Aside0.mk (Kd.R_below HU1.out HBb.out)
  have HU2' := Aside0.mk (Kd.R_below HU2.out HBb.out)
  refine hK.out _ _ ⟨HS4.out.pb.cell, (blk_cell HS4.out.nd.nb 2).trans rfl, cell_keep HS4.out.nd.bw HX0.out, cell_keep HS4.out.nd.bw HX1.out, cell_keep HS4.out.nd.bw HX2.out⟩ (fun hHeld => ?_)
  clear hK K HS3 HBb HU1 HU2
  obtain ⟨XB, hXB⟩ : ∃ n, W3.heap.size = n := ⟨_, rfl⟩
  rw [hXB] at HXA HXR HXW
  rw [hXB]
  clear hXB
  generalize W3.alloc (.cells #[.bool false, nilV, nilV] 69) = W4 at *
  have HU1 := Aside0.mk HU1'.out
  have HU2 := Aside0.mk HU2'.out
  clear HU1' HU2'
  have y0 := HXA.out.cells.1
  have y1 := HXA.out.cells.2.1
  have y2 := HXA.out.cells.2.2
  have y3 := HXA.out.frozen 0
  have y4 := HXA.out.frozen 1
  have y5 := HXA.out.frozen 2
  refine last_ (i := 7) (N := none) #[true, true, true, true, true, true, true, true] rfl rfl (one_of HT_.out (by kernel_rfl)) (by decide) (fun K hK => ?_)
  refine step_list rfl (by rfl) ?_
  unfold Oper.wp
  go_simp
  refine hK.out _ _ ?_
  clear hK K y0 y1 y2 y3 y4 y5
  refine done_ (done_of HT_.out (by kernel_rfl)) ?_
  refine NoPanic.normal ?_
  clear HT_ HW_ hHeld
  have HP1 := Aside0.mk (part_put HXA.out HS4.out HXR.out HXW.out HU1.out HU2.out q.2.null)
  clear HXA HS4 HU1 HU2
  obtain ⟨W5, hW5⟩ : ∃ w, ((W4.setCell ⟨XB, 0, none⟩ (.bool q.2.null)).setCell ⟨XB, 1, none⟩ (.slice M1 q.2.first.length d1)).setCell ⟨XB, 2, none⟩ (.slice M2 q.2.last.length d2) = w := ⟨_, rfl⟩
  rw [hW5] at HP1
  rw [hW5]
  clear hW5
  have HX5 := Aside0.mk HP1.out.1
  have HS5 := Aside0.mk HP1.out.2.1
  have HV1 := Aside0.mk HP1.out.2.2.1
  have HV2 := Aside0.mk HP1.out.2.2.2
  clear HP1
  have n0 := (blk_cell HS5.out.nd.nb 0).trans rfl
  have x0 := (HX5.out).cells.1
  have x1 := (HX5.out).cells.2.1
  have x2 := (HX5.out).cells.2.2
  have x3 := (HX5.out).frozen 0
  go_wp2_with fail
  refine (note_calls (N := q.1.sets.length) M2 d2 q.2.last M1 d1 q.2.first HS5.out.nd.mm HS5.out.pb HV2.out HV1.out (fun t ht => by have h1 := HMQ.out.good.last.2 t ht; have h3 := HMQ.out.fit.len; omega) HMQ.out.fit.good HMQ.out.good.first (by have := HLB.out; omega) (by have h1 := HMQ.out.fit.len; have := HLB.out; omega) HS5.out.nd.bw.size (by have := HLB.out; omega)).mono ?_
  rintro e_ Wn ⟨rfl, hm4, ht4⟩
  have HSn := Aside0.mk (BdS.turn (st' := ⟨q.1.sets, afterR q.1.fol q.2.last q.2.first⟩) HS5.out hm4 ht4)
  have HY1 := Aside0.mk (ht4.rows _ _ HV1.out)
  have HY2 := Aside0.mk (ht4.rows _ _ HV2.out)
  have HXn := Aside0.mk (HX5.out.turn ht4)
  clear hm4 ht4 n0 x0 x1 x2 x3
  have n0 := (blk_cell HSn.out.nd.nb 0).trans rfl
  have x0 := (HXn.out).cells.1
  have x1 := (HXn.out).cells.2.1
  have x2 := (HXn.out).cells.2.2
  have x3 := (HXn.out).frozen 0
  cases hb0 : q.2.null
  case false =>
   have HBN := Aside0.mk hb0
   rw [hb0] at x0
   clear hb0
   go_upto_region 27 with fail
   clear n0 x0 x1 x2 x3
   have HS6 := Aside0.mk (HSn.out.nd.far HXn.out HXR.out HXW.out 0 (.bool false))
   have HX6 := Aside0.mk (show Edge _ XB false _ _ from blk_put HXn.out 0 (.bool false) rfl)
   have HZ1 := Aside0.mk (RowI.far HY1.out HXn.out (by decide) 0 (.bool false))
   have HZ2 := Aside0.mk (RowI.far HY2.out HXn.out (by decide) 0 (.bool false))
   obtain ⟨W6, hW6⟩ : ∃ w, Wn.setCell ⟨XB, 0, none⟩ (.bool false) = w := ⟨_, rfl⟩
   rw [hW6] at HS6 HX6 HZ1 HZ2
   rw [hW6]
   clear hW6
   have x0 := (HX6.out).cells.1
   have x1 := (HX6.out).cells.2.1
   have x2 := (HX6.out).cells.2.2
   have x3 := (HX6.out).frozen 0
   have y0 := HS6.out.er.cells.1
   have y1 := HS6.out.er.cells.2.1
   have y2 := HS6.out.er.cells.2.2
   have y3 := HS6.out.er.frozen 0
   have y4 := HS6.out.er.frozen 1
   have y5 := HS6.out.er.frozen 2
   go_wp2_with fail
   have HFI := Aside0.mk (Fin_.all (show Fin_ w0.heap.size MB RB vS W ⟨q.1.sets, afterR q.1.fol q.2.last q.2.first⟩ vS2 vF2 (.slice M1 q.2.first.length d1) (.slice M2 q.2.last.length d2) q.2.first q.2.last W6 false nilV nilV from ⟨HS6.out.er, HS6.out.mm, HS6.out.tn, HZ1.out, HZ2.out, HS6.out.rb, HS6.out.ow⟩) false)
   clear x0 x1 x2 x3 y0 y1 y2 y3 y4 y5
   obtain ⟨W9, hW9⟩ : ∃ w, ((W6.setCell ⟨RB, 0, none⟩ (.bool false)).setCell ⟨RB, 1, none⟩ (.slice M1 q.2.first.length d1)).setCell ⟨RB, 2, none⟩ (.slice M2 q.2.last.length d2) = w := ⟨_, rfl⟩
   rw [hW9] at HFI ⊢
   clear hW9
   refine bodyPost_ret (results_cell_row rfl _ _ RB 69 #[.bool false, (.slice M1 q.2.first.length d1), (.slice M2 q.2.last.length d2)] (0, 0) _ rfl HFI.out.er Try.underlying69 rfl (by kernel_rfl)) rfl ?_
   rw [HOQ.out]
   rw [show signR 4 q = (⟨q.1.sets, afterR q.1.fol q.2.last q.2.first⟩, ⟨false, q.2.first, q.2.last⟩) by unfold signR; rw [HBN.out]; rfl]
   exact HFI.out.post (r := (⟨q.1.sets, afterR q.1.fol q.2.last q.2.first⟩, ⟨false, q.2.first, q.2.last⟩))
  case true =>
   have HBN := Aside0.mk hb0
   rw [hb0] at x0
   clear hb0
   go_upto_region 27 with fail
   clear n0 x0 x1 x2 x3
   have HS6 := Aside0.mk (HSn.out.nd.far HXn.out HXR.out HXW.out 0 (.bool true))
   have HX6 := Aside0.mk (show Edge _ XB true _ _ from blk_put HXn.out 0 (.bool true) rfl)
   have HZ1 := Aside0.mk (RowI.far HY1.out HXn.out (by decide) 0 (.bool true))
   have HZ2 := Aside0.mk (RowI.far HY2.out HXn.out (by decide) 0 (.bool true))
   obtain ⟨W6, hW6⟩ : ∃ w, Wn.setCell ⟨XB, 0, none⟩ (.bool true) = w := ⟨_, rfl⟩
   rw [hW6] at HS6 HX6 HZ1 HZ2
   rw [hW6]
   clear hW6
   have x0 := (HX6.out).cells.1
   have x1 := (HX6.out).cells.2.1
   have x2 := (HX6.out).cells.2.2
   have x3 := (HX6.out).frozen 0
   have y0 := HS6.out.er.cells.1
   have y1 := HS6.out.er.cells.2.1
   have y2 := HS6.out.er.cells.2.2
   have y3 := HS6.out.er.frozen 0
   have y4 := HS6.out.er.frozen 1
   have y5 := HS6.out.er.frozen 2
   go_wp2_with fail
   have HFI := Aside0.mk (Fin_.all (show Fin_ w0.heap.size MB RB vS W ⟨q.1.sets, afterR q.1.fol q.2.last q.2.first⟩ vS2 vF2 (.slice M1 q.2.first.length d1) (.slice M2 q.2.last.length d2) q.2.first q.2.last W6 false nilV nilV from ⟨HS6.out.er, HS6.out.mm, HS6.out.tn, HZ1.out, HZ2.out, HS6.out.rb, HS6.out.ow⟩) true)
   clear x0 x1 x2 x3 y0 y1 y2 y3 y4 y5
   obtain ⟨W9, hW9⟩ : ∃ w, ((W6.setCell ⟨RB, 0, none⟩ (.bool true)).setCell ⟨RB, 1, none⟩ (.slice M1 q.2.first.length d1)).setCell ⟨RB, 2, none⟩ (.slice M2 q.2.last.length d2) = w := ⟨_, rfl⟩
   rw [hW9] at HFI ⊢
   clear hW9
   refine bodyPost_ret (results_cell_row rfl _ _ RB 69 #[.bool true, (.slice M1 q.2.first.length d1), (.slice M2 q.2.last.length d2)] (0, 0) _ rfl HFI.out.er Try.underlying69 rfl (by kernel_rfl)) rfl ?_
   rw [HOQ.out]
   rw [show signR 4 q = (⟨q.1.sets, afterR q.1.fol q.2.last q.2.first⟩, ⟨true, q.2.first, q.2.last⟩) by unfold signR; rw [HBN.out]; rfl]
   exact HFI.out.post (r := (⟨q.1.sets, afterR q.1.fol q.2.last q.2.first⟩, ⟨true, q.2.first, q.2.last⟩))
 ·refine step_list rfl (by rfl) ?_
  unfold Oper.wp
  go_simp
  have HBb := Aside0.mk (below_alloc (Below.refl W2.heap.size W2) (.cells #[.bool false, nilV, nilV] 69))
  have HXA := Aside0.mk (show Edge _ W2.heap.size false nilV nilV from blk_new W2 (.cells #[.bool false, nilV, nilV] 69))
  have HS3 := Aside0.mk (HS1.out.later HBb.out)
  have HXR := Aside0.mk (show RB ≠ W2.heap.size by have := blk_lt HS1.out.nd.er; omega)
  have HXW := Aside0.mk (show W.heap.size ≤ W2.heap.size by have := HS1.out.nd.tn.below.size; omega)
  refine hK.out _ _ ⟨HS3.out.pb.cell, (blk_cell HS3.out.nd.nb 2).trans rfl, cell_keep HS3.out.nd.bw HX0.out, cell_keep HS3.out.nd.bw HX1.out, cell_keep HS3.out.nd.bw HX2.out⟩ (fun hHeld => ?_)
  clear hK K HS1 HBb
  obtain ⟨XB, hXB⟩ : ∃ n, W2.heap.size = n := ⟨_, rfl⟩
  rw [hXB] at HXA HXR HXW
  rw [hXB]
  clear hXB
  generalize W2.alloc (.cells #[.bool false, nilV, nilV] 69) = W3 at *
  refine one_ (i := 5) (N := some 87) #[true, true, true, true, true, true, true, false] rfl rfl (one_of HT_.out (by kernel_rfl)) (by decide) (fun K hK => ?_)
  refine goes_ Try.func48 (by kernel_rfl) rfl #[.pointer (some ⟨MB, 0, none⟩), .agg #[.int .i64 x.f0, .int .i64 x.f1, .slice A2 x.f2.length c2]] (by rfl) rfl rfl (by (try simp only [List.map_toArray, List.map_cons, List.map_nil]); first | done | rfl) ?_
  have hnode := HOK.out x HXM.out st vS vF W3 A2 c2 HF.out (by have := HCN.out; have := HN.out; omega) HS3.out.nd.mm HS3.out.nd.bw HG2.out HL2.out
  rw [← HQQ.out] at hnode
  refine hnode.mono ?_
  clear hnode
  rintro e_ W4 ⟨vS2, vF2, u1, u2, rfl, hm2, hu1, hu2, ht2⟩
  have HS4 := Aside0.mk (HS3.out.turn hm2 ht2)
  obtain ⟨M1, d1, rfl⟩ := Kd.R_slice hu1
  obtain ⟨M2, d2, rfl⟩ := Kd.R_slice hu2
  have HU1 := Aside0.mk hu1
  have HU2 := Aside0.mk hu2
  have HXA' := Aside0.mk (HXA.out.turn ht2)
  clear hm2 hu1 hu2 ht2
  refine ⟨_, rfl, ?_⟩
  refine hK.out _ _ ⟨HS4.out.pb.cell, (blk_cell HS4.out.nd.nb 2).trans rfl, cell_keep HS4.out.nd.bw HX0.out, cell_keep HS4.out.nd.bw HX1.out, cell_keep HS4.out.nd.bw HX2.out⟩ (fun hHeld => ?_)
  clear hK K HS3 HXA
  refine norm_ (a' := ?_) ?_ ?_
  rotate_left
  ·show Act.put _ (some 87) _ = _
   simp only [Act.put, List.setIfInBounds_toArray, List.set_cons_zero, List.set_cons_succ, i64_w, i32_w]
   rfl
  have HXA := Aside0.mk HXA'.out
  clear HXA'
  have y0 := HXA.out.cells.1
  have y1 := HXA.out.cells.2.1
  have y2 := HXA.out.cells.2.2
  have y3 := HXA.out.frozen 0
  have y4 := HXA.out.frozen 1
  have y5 := HXA.out.frozen 2
  refine last_ (i := 7) (N := none) #[true, true, true, true, true, true, true, true] rfl rfl (one_of HT_.out (by kernel_rfl)) (by decide) (fun K hK => ?_)
  refine step_list rfl (by rfl) ?_
  unfold Oper.wp
  go_simp
  refine hK.out _ _ ?_
  clear hK K y0 y1 y2 y3 y4 y5
  refine done_ (done_of HT_.out (by kernel_rfl)) ?_
  refine NoPanic.normal ?_
  clear HT_ HW_ hHeld
  have HP1 := Aside0.mk (part_put HXA.out HS4.out HXR.out HXW.out HU1.out HU2.out q.2.null)
  clear HXA HS4 HU1 HU2
  obtain ⟨W5, hW5⟩ : ∃ w, ((W4.setCell ⟨XB, 0, none⟩ (.bool q.2.null)).setCell ⟨XB, 1, none⟩ (.slice M1 q.2.first.length d1)).setCell ⟨XB, 2, none⟩ (.slice M2 q.2.last.length d2) = w := ⟨_, rfl⟩
  rw [hW5] at HP1
  rw [hW5]
  clear hW5
  have HX5 := Aside0.mk HP1.out.1
  have HS5 := Aside0.mk HP1.out.2.1
  have HV1 := Aside0.mk HP1.out.2.2.1
  have HV2 := Aside0.mk HP1.out.2.2.2
  clear HP1
  have n0 := (blk_cell HS5.out.nd.nb 0).trans rfl
  have x0 := (HX5.out).cells.1
  have x1 := (HX5.out).cells.2.1
  have x2 := (HX5.out).cells.2.2
  have x3 := (HX5.out).frozen 0
  go_wp2_with fail
  refine (note_calls (N := q.1.sets.length) M2 d2 q.2.last M1 d1 q.2.first HS5.out.nd.mm HS5.out.pb HV2.out HV1.out (fun t ht => by have h1 := HMQ.out.good.last.2 t ht; have h3 := HMQ.out.fit.len; omega) HMQ.out.fit.good HMQ.out.good.first (by have := HLB.out; omega) (by have h1 := HMQ.out.fit.len; have := HLB.out; omega) HS5.out.nd.bw.size (by have := HLB.out; omega)).mono ?_
  rintro e_ Wn ⟨rfl, hm4, ht4⟩
  have HSn := Aside0.mk (BdS.turn (st' := ⟨q.1.sets, afterR q.1.fol q.2.last q.2.first⟩) HS5.out hm4 ht4)
  have HY1 := Aside0.mk (ht4.rows _ _ HV1.out)
  have HY2 := Aside0.mk (ht4.rows _ _ HV2.out)
  have HXn := Aside0.mk (HX5.out.turn ht4)
  clear hm4 ht4 n0 x0 x1 x2 x3
  have n0 := (blk_cell HSn.out.nd.nb 0).trans rfl
  have x0 := (HXn.out).cells.1
  have x1 := (HXn.out).cells.2.1
  have x2 := (HXn.out).cells.2.2
  have x3 := (HXn.out).frozen 0
  cases hb0 : q.2.null
  case false =>
   have HBN := Aside0.mk hb0
   rw [hb0] at x0
   clear hb0
   go_upto_region 27 with fail
   clear n0 x0 x1 x2 x3
   have HS6 := Aside0.mk (HSn.out.nd.far HXn.out HXR.out HXW.out 0 (.bool false))
   have HX6 := Aside0.mk (show Edge _ XB false _ _ from blk_put HXn.out 0 (.bool false) rfl)
   have HZ1 := Aside0.mk (RowI.far HY1.out HXn.out (by decide) 0 (.bool false))
   have HZ2 := Aside0.mk (RowI.far HY2.out HXn.out (by decide) 0 (.bool false))
   obtain ⟨W6, hW6⟩ : ∃ w, Wn.setCell ⟨XB, 0, none⟩ (.bool false) = w := ⟨_, rfl⟩
   rw [hW6] at HS6 HX6 HZ1 HZ2
   rw [hW6]
   clear hW6
   have x0 := (HX6.out).cells.1
   have x1 := (HX6.out).cells.2.1
   have x2 := (HX6.out).cells.2.2
   have x3 := (HX6.out).frozen 0
   have y0 := HS6.out.er.cells.1
   have y1 := HS6.out.er.cells.2.1
   have y2 := HS6.out.er.cells.2.2
   have y3 := HS6.out.er.frozen 0
   have y4 := HS6.out.er.frozen 1
   have y5 := HS6.out.er.frozen 2
   go_wp2_with fail
   have HFI := Aside0.mk (Fin_.all (show Fin_ w0.heap.size MB RB vS W ⟨q.1.sets, afterR q.1.fol q.2.last q.2.first⟩ vS2 vF2 (.slice M1 q.2.first.length d1) (.slice M2 q.2.last.length d2) q.2.first q.2.last W6 false nilV nilV from ⟨HS6.out.er, HS6.out.mm, HS6.out.tn, HZ1.out, HZ2.out, HS6.out.rb, HS6.out.ow⟩) false)
   clear x0 x1 x2 x3 y0 y1 y2 y3 y4 y5
   obtain ⟨W9, hW9⟩ : ∃ w, ((W6.setCell ⟨RB, 0, none⟩ (.bool false)).setCell ⟨RB, 1, none⟩ (.slice M1 q.2.first.length d1)).setCell ⟨RB, 2, none⟩ (.slice M2 q.2.last.length d2) = w := ⟨_, rfl⟩
   rw [hW9] at HFI ⊢
   clear hW9
   refine bodyPost_ret (results_cell_row rfl _ _ RB 69 #[.bool false, (.slice M1 q.2.first.length d1), (.slice M2 q.2.last.length d2)] (0, 0) _ rfl HFI.out.er Try.underlying69 rfl (by kernel_rfl)) rfl ?_
   rw [HOQ.out]
   rw [show signR 4 q = (⟨q.1.sets, afterR q.1.fol q.2.last q.2.first⟩, ⟨false, q.2.first, q.2.last⟩) by unfold signR; rw [HBN.out]; rfl]
   exact HFI.out.post (r := (⟨q.1.sets, afterR q.1.fol q.2.last q.2.first⟩, ⟨false, q.2.first, q.2.last⟩))
  case true =>
   have HBN := Aside0.mk hb0
   rw [hb0] at x0
   clear hb0
   go_upto_region 27 with fail
   clear n0 x0 x1 x2 x3
   have HS6 := Aside0.mk (HSn.out.nd.far HXn.out HXR.out HXW.out 0 (.bool true))
   have HX6 := Aside0.mk (show Edge _ XB true _ _ from blk_put HXn.out 0 (.bool true) rfl)
   have HZ1 := Aside0.mk (RowI.far HY1.out HXn.out (by decide) 0 (.bool true))
   have HZ2 := Aside0.mk (RowI.far HY2.out HXn.out (by decide) 0 (.bool true))
   obtain ⟨W6, hW6⟩ : ∃ w, Wn.setCell ⟨XB, 0, none⟩ (.bool true) = w := ⟨_, rfl⟩
   rw [hW6] at HS6 HX6 HZ1 HZ2
   rw [hW6]
   clear hW6
   have x0 := (HX6.out).cells.1
   have x1 := (HX6.out).cells.2.1
   have x2 := (HX6.out).cells.2.2
   have x3 := (HX6.out).frozen 0
   have y0 := HS6.out.er.cells.1
   have y1 := HS6.out.er.cells.2.1
   have y2 := HS6.out.er.cells.2.2
   have y3 := HS6.out.er.frozen 0
   have y4 := HS6.out.er.frozen 1
   have y5 := HS6.out.er.frozen 2
   go_wp2_with fail
   have HFI := Aside0.mk (Fin_.all (show Fin_ w0.heap.size MB RB vS W ⟨q.1.sets, afterR q.1.fol q.2.last q.2.first⟩ vS2 vF2 (.slice M1 q.2.first.length d1) (.slice M2 q.2.last.length d2) q.2.first q.2.last W6 false nilV nilV from ⟨HS6.out.er, HS6.out.mm, HS6.out.tn, HZ1.out, HZ2.out, HS6.out.rb, HS6.out.ow⟩) true)
   clear x0 x1 x2 x3 y0 y1 y2 y3 y4 y5
   obtain ⟨W9, hW9⟩ : ∃ w, ((W6.setCell ⟨RB, 0, none⟩ (.bool true)).setCell ⟨RB, 1, none⟩ (.slice M1 q.2.first.length d1)).setCell ⟨RB, 2, none⟩ (.slice M2 q.2.last.length d2) = w := ⟨_, rfl⟩
   rw [hW9] at HFI ⊢
   clear hW9
   refine bodyPost_ret (results_cell_row rfl _ _ RB 69 #[.bool true, (.slice M1 q.2.first.length d1), (.slice M2 q.2.last.length d2)] (0, 0) _ rfl HFI.out.er Try.underlying69 rfl (by kernel_rfl)) rfl ?_
   rw [HOQ.out]
   rw [show signR 4 q = (⟨q.1.sets, afterR q.1.fol q.2.last q.2.first⟩, ⟨true, q.2.first, q.2.last⟩) by unfold signR; rw [HBN.out]; rfl]
   exact HFI.out.post (r := (⟨q.1.sets, afterR q.1.fol q.2.last q.2.first⟩, ⟨true, q.2.first, q.2.last⟩))
set_option maxHeartbeats 16000000 in
set_option maxRecDepth 100000 in
theorem node_sign5 {w0 : World} {MB : Nat} (s : Int) (kids : List S24) (hok : ∀ y ∈ kids, NodeOK w0 MB y) (h1 : kids.length = 1) : NodeOK w0 MB ⟨5, s, kids⟩ := by
 intro st vS vF W A c hf hn hm hb hC hc
 replace hC : Kd.C k24 w0 A kids.length kids := hC
 replace hc : kids.length ≤ c := hc
 show Calls Try.prog 48 #[.pointer (some ⟨MB, 0, none⟩), .agg #[.int .i64 5, .int .i64 s, .slice A kids.length c]] W _
 have H1 := Aside0.mk h1
 clear h1
 rw [show nodeR (⟨5, s, kids⟩ : S24) st = signR 5 (oneR kids st) by rw [nodeR_eq]; rfl]
 replace hn : st.sets.length + cntL kids ≤ 300 := by rw [cnt] at hn; exact hn
 have HF := Aside0.mk hf
 have HN := Aside0.mk hn
 have HM := Aside0.mk hm
 have HB := Aside0.mk hb
 have HC := Aside0.mk hC
 have HCC := Aside0.mk hc
 have HOK := Aside0.mk hok
 clear hok hf hn hm hb hC hc
 go_enter Try.func48, Try.ntmps48
 go_upto_region 23 with fail
 have b1 := below_alloc (Below.refl W.heap.size W) (.cells #[.pointer (some ⟨MB, 0, none⟩)] 71)
 have b2 := below_alloc (Below.refl _ (W.alloc (.cells #[.pointer (some ⟨MB, 0, none⟩)] 71))) (.cells #[.int .i64 5, .int .i64 s, .slice A kids.length c] 24)
 have b3 := below_alloc (Below.refl _ ((W.alloc (.cells #[.pointer (some ⟨MB, 0, none⟩)] 71)).alloc (.cells #[.int .i64 5, .int .i64 s, .slice A kids.length c] 24))) (.cells #[.bool false, nilV, nilV] 69)
 have s1 : (W.alloc (.cells #[.pointer (some ⟨MB, 0, none⟩)] 71)).heap.size = W.heap.size + 1 := Array.size_push _
 have s2 : ((W.alloc (.cells #[.pointer (some ⟨MB, 0, none⟩)] 71)).alloc (.cells #[.int .i64 5, .int .i64 s, .slice A kids.length c] 24)).heap.size = W.heap.size + 1 + 1 := (Array.size_push _).trans (by rw [s1])
 have b23 := b2.trans (b3.mono (by rw [s1, s2]; omega))
 have bw := b1.trans (b23.mono (by rw [s1]; omega))
 have HS0 := Aside0.mk (show BdS w0 MB W.heap.size (W.heap.size + 1) (W.heap.size + 1 + 1) vS W 5 s kids A c st vS vF (((W.alloc (.cells #[.pointer (some ⟨MB, 0, none⟩)] 71)).alloc (.cells #[.int .i64 5, .int .i64 s, .slice A kids.length c] 24)).alloc (.cells #[.bool false, nilV, nilV] 69)) from
  ⟨⟨HM.out.later bw, Tn.later bw HB.out.size, by rw [← s1]; exact blk_below (blk_new _ _) b3, by rw [← s2]; exact blk_new _ _, HB.out.trans (bw.mono HB.out.size), by omega, HB.out.size⟩, blk_below (blk_new W _) b23⟩)
 clear b1 b2 b3 s1 s2 b23 bw
 obtain ⟨RB, hRB⟩ : ∃ n, W.heap.size + 1 + 1 = n := ⟨_, rfl⟩
 obtain ⟨NB, hNB⟩ : ∃ n, W.heap.size + 1 = n := ⟨_, rfl⟩
 obtain ⟨PB, hPB⟩ : ∃ n, W.heap.size = n := ⟨_, rfl⟩
 obtain ⟨W1, hW1⟩ : ∃ w, ((W.alloc (.cells #[.pointer (some ⟨MB, 0, none⟩)] 71)).alloc (.cells #[.int .i64 5, .int .i64 s, .slice A kids.length c] 24)).alloc (.cells #[.bool false, nilV, nilV] 69) = w := ⟨_, rfl⟩
 rw [hRB, hNB, hPB, hW1] at HS0
 rw [hW1]
 rw [hRB, hNB, hPB]
 clear hRB hNB hPB hW1
 obtain ⟨x, hk⟩ := List.length_eq_one_iff.1 H1.out
 have HK := Aside0.mk hk
 clear hk
 obtain ⟨ad, A2, c2, eA, hx0, hx1, hx2, hl2, hg2⟩ := at_T24 HC.out (0 : Int) (by decide) (by rw [H1.out]; decide)
 have hrd : rd_T24 kids (0 : Int) = x := by rw [HK.out]; rfl
 rw [hrd] at hx0 hx1 hx2 hl2 hg2
 clear hrd
 subst eA
 have HW0 := Aside0.mk HS0.out.nd.bw
 have HX0 := Aside0.mk (show w0.cell? ad = some (.int .i64 x.f0) from hx0)
 have HX1 := Aside0.mk (show w0.cell? ⟨ad.block, ad.off + 1, none⟩ = some (.int .i64 x.f1) from hx1)
 have HX2 := Aside0.mk (show w0.cell? ⟨ad.block, ad.off + 2, none⟩ = some (.slice A2 x.f2.length c2) from hx2)
 obtain ⟨q, hq⟩ : ∃ q, q = nodeR x st := ⟨_, rfl⟩
 have HMQ := Aside0.mk (show Made st q (cnt x) by rw [hq]; exact nodeR_made x st HF.out)
 have HCN := Aside0.mk (show cntL kids = cnt x by rw [HK.out, cntL, cntL]; rfl)
 have HOQ := Aside0.mk (show oneR kids st = q by rw [HK.out, oneR, hq])
 have HQQ := Aside0.mk hq
 have HXM := Aside0.mk (show x ∈ kids by rw [HK.out]; exact List.mem_cons_self)
 have HG2 := Aside0.mk hg2
 have HL2 := Aside0.mk hl2
 clear hq hl2 hg2 hx0 hx1 hx2
 have HLB := Aside0.mk (show q.2.first.length ≤ 300 ∧ q.2.last.length ≤ 300 ∧ q.1.sets.length ≤ 300 by
  have h3 := HMQ.out.good.first.len
  have h4 := HMQ.out.good.last.len
  have h6 := HMQ.out.most
  have := HCN.out
  have := HN.out
  omega)
 have p0 : 0 < kids.length := by rw [H1.out]; decide
 have p1 : decide ((0 : Int) < (kids.length : Int)) = true := decide_eq_true (by omega)
 have HS1 := Aside0.mk (HS0.out.later (below_drew (Below.refl W1.heap.size W1)))
 refine wp_region_noPanic ?_
 refine start_ (n := 8) (S := fun w' => w'.cell? ⟨PB, 0, none⟩ = some (.pointer (some ⟨MB, 0, none⟩)) ∧ w'.cell? ⟨NB, 2, none⟩ = some (.slice (some ad) kids.length c) ∧ w'.cell? ad = some (.int .i64 x.f0) ∧ w'.cell? ⟨ad.block, ad.off + 1, none⟩ = some (.int .i64 x.f1) ∧ w'.cell? ⟨ad.block, ad.off + 2, none⟩ = some (.slice A2 x.f2.length c2)) (ds := [7]) #[false, false, false, false, false, false, false, false] (by kernel_rfl) rfl rfl ⟨HS1.out.pb.cell, (blk_cell HS1.out.nd.nb 2).trans rfl, cell_keep HS1.out.nd.bw HX0.out, cell_keep HS1.out.nd.bw HX1.out, cell_keep HS1.out.nd.bw HX2.out⟩ (fun hHeld => ?_); refine with_tabW bsg_tab23 bsg_bits23 (fun HT_ HW_ => ?_)
 obtain ⟨W2, hW2⟩ : ∃ w, W1.drew = w := ⟨_, rfl⟩
 rw [hW2] at HS1 hHeld ⊢
 clear hW2 HS0
 refine take_ (i := 0) (N := some 82) (v := ?_) (a' := ?_) #[true, false, false, false, false, false, false, false] rfl rfl (take_ofW HT_.out HW_.out (by kernel_rfl)) (fun _ _ _ h => h) (Or.inl ⟨by rfl, ?_⟩) hHeld ?_ ?_
 rotate_left
 ·rintro w' ⟨s0, s1, s2, s3, s4⟩
  go_simp
  with_reducible rfl
 rotate_left
 ·simp only [Act.put, List.setIfInBounds_toArray, List.set_cons_zero, List.set_cons_succ, i64_w, i32_w]
  rfl
 refine pure_ (i := 1) (N := some 83) (v := ?_) (a' := ?_) #[true, true, false, false, false, false, false, false] rfl rfl (any_of HT_.out (by kernel_rfl)) (fun _ _ _ h => h) (Or.inl ⟨by rfl, ?_⟩) ?_ ?_
 rotate_left
 ·intro w'
  go_simp
  with_reducible rfl
 rotate_left
 ·simp only [Act.put, List.setIfInBounds_toArray, List.set_cons_zero, List.set_cons_succ, i64_w, i32_w]
  rfl
 refine take_ (i := 2) (N := some 84) (v := ?_) (a' := ?_) #[true, true, true, false, false, false, false, false] rfl rfl (take_ofW HT_.out HW_.out (by kernel_rfl)) (fun _ _ _ h => h) (Or.inl ⟨by rfl, ?_⟩) hHeld ?_ ?_
 rotate_left
 ·rintro w' ⟨s0, s1, s2, s3, s4⟩
  go_simp
  with_reducible rfl
 rotate_left
 ·simp only [Act.put, List.setIfInBounds_toArray, List.set_cons_zero, List.set_cons_succ, i64_w, i32_w]
  rfl
 refine pure_ (i := 3) (N := some 85) (v := ?_) (a' := ?_) #[true, true, true, true, false, false, false, false] rfl rfl (any_of HT_.out (by kernel_rfl)) (fun _ _ _ h => h) (Or.inl ⟨by rfl, ?_⟩) ?_ ?_
 rotate_left
 ·intro w'
  go_simp
  with_reducible rfl
 rotate_left
 ·simp only [Act.put, List.setIfInBounds_toArray, List.set_cons_zero, List.set_cons_succ, i64_w, i32_w]
  rfl
 refine take_ (i := 4) (N := some 86) (v := ?_) (a' := ?_) #[true, true, true, true, true, false, false, false] rfl rfl (take_ofW HT_.out HW_.out (by kernel_rfl)) (fun _ _ _ h => h) (Or.inl ⟨by rfl, ?_⟩) hHeld ?_ ?_
 rotate_left
 ·rintro w' ⟨s0, s1, s2, s3, s4⟩
  go_simp
  with_reducible rfl
 rotate_left
 ·simp only [Act.put, List.setIfInBounds_toArray, List.set_cons_zero, List.set_cons_succ, i64_w, i32_w]
  rfl
 refine two_ (i := 5) (j := 6) (Ni := some 87) (Nj := some 13) #[true, true, true, true, true, true, false, false] #[true, true, true, true, true, false, true, false] rfl rfl rfl rfl (two_of HT_.out (by kernel_rfl)) (by decide) (by decide) (fun K hK => ?_) (fun K hK => ?_)
 ·refine goes_ Try.func48 (by kernel_rfl) rfl #[.pointer (some ⟨MB, 0, none⟩), .agg #[.int .i64 x.f0, .int .i64 x.f1, .slice A2 x.f2.length c2]] (by rfl) rfl rfl (by (try simp only [List.map_toArray, List.map_cons, List.map_nil]); first | done | rfl) ?_
  have hnode := HOK.out x HXM.out st vS vF W2 A2 c2 HF.out (by have := HCN.out; have := HN.out; omega) HS1.out.nd.mm HS1.out.nd.bw HG2.out HL2.out
  rw [← HQQ.out] at hnode
  refine hnode.mono ?_
  clear hnode
  rintro e_ W3 ⟨vS2, vF2, u1, u2, rfl, hm2, hu1, hu2, ht2⟩
  have HS3 := Aside0.mk (HS1.out.turn hm2 ht2)
  obtain ⟨M1, d1, rfl⟩ := Kd.R_slice hu1
  obtain ⟨M2, d2, rfl⟩ := Kd.R_slice hu2
  have HU1 := Aside0.mk hu1
  have HU2 := Aside0.mk hu2
  clear hm2 hu1 hu2 ht2
  refine ⟨_, rfl, ?_⟩
  refine hK.out _ _ ⟨HS3.out.pb.cell, (blk_cell HS3.out.nd.nb 2).trans rfl, cell_keep HS3.out.nd.bw HX0.out, cell_keep HS3.out.nd.bw HX1.out, cell_keep HS3.out.nd.bw HX2.out⟩ (fun hHeld => ?_)
  clear hK K HS1
  refine norm_ (a' := ?_) ?_ ?_
  rotate_left
  ·show Act.put _ (some 87) _ = _
   simp only [Act.put, List.setIfInBounds_toArray, List.set_cons_zero, List.set_cons_succ, i64_w, i32_w]
   rfl
  refine one_ (i := 6) (N := some 13) #[true, true, true, true, true, true, true, false] rfl rfl (one_of HT_.out (by kernel_rfl)) (by decide) (fun K hK => ?_)
  refine step_list rfl (by rfl) ?_
  unfold Oper.wp
  go_simp
  have HBb := Aside0.mk (below_alloc (Below.refl W3.heap.size W3) (.cells #[.bool false, nilV, nilV] 69))
  have HXA := Aside0.mk (show Edge _ W3.heap.size false nilV nilV from blk_new W3 (.cells #[.bool false, nilV, nilV] 69))
  have HS4 := Aside0.mk (HS3.out.later HBb.out)
  have HXR := Aside0.mk (show RB ≠ W3.heap.size by have := blk_lt HS3.out.nd.er; omega)
  have HXW := Aside0.mk (show W.heap.size ≤ W3.heap.size by have := HS3.out.nd.tn.below.size; omega)
  have HU1' := Aside0.mk (Kd.R_below HU1.out HBb.out)
  have HU2' := Aside0.mk (Kd.R_below HU2.out HBb.out)
  refine hK.out _ _ ⟨HS4.out.pb.cell, (blk_cell HS4.out.nd.nb 2).trans rfl, cell_keep HS4.out.nd.bw HX0.out, cell_keep HS4.out.nd.bw HX1.out, cell_keep HS4.out.nd.bw HX2.out⟩ (fun hHeld => ?_)
  clear hK K HS3 HBb HU1 HU2
  obtain ⟨XB, hXB⟩ : ∃ n, W3.heap.size = n := ⟨_, rfl⟩
  rw [hXB] at HXA HXR HXW
  rw [hXB]
  clear hXB
  generalize W3.alloc (.cells #[.bool false, nilV, nilV] 69) = W4 at *
  have HU1 := Aside0.mk HU1'.out
  have HU2 := Aside0.mk HU2'.out
  clear HU1' HU2'
  have y0 := HXA.out.cells.1
  have y1 := HXA.out.cells.2.1
  have y2 := HXA.out.cells.2.2
  have y3 := HXA.out.frozen 0
  have y4 := HXA.out.frozen 1
  have y5 := HXA.out.frozen 2
  refine last_ (i := 7) (N := none) #[true, true, true, true, true, true, true, true] rfl rfl (one_of HT_.out (by kernel_rfl)) (by decide) (fun K hK => ?_)
  refine step_list rfl (by rfl) ?_
  unfold Oper.wp
  go_simp
  refine hK.out _ _ ?_
  clear hK K y0 y1 y2 y3 y4 y5
  refine done_ (done_of HT_.out (by kernel_rfl)) ?_
  refine NoPanic.normal ?_
  clear HT_ HW_ hHeld
  have HP1 := Aside0.mk (part_put HXA.out HS4.out HXR.out HXW.out HU1.out HU2.out q.2.null)
  clear HXA HS4 HU1 HU2
  obtain ⟨W5, hW5⟩ : ∃ w, ((W4.setCell ⟨XB, 0, none⟩ (.bool q.2.null)).setCell ⟨XB, 1, none⟩ (.slice M1 q.2.first.length d1)).setCell ⟨XB, 2, none⟩ (.slice M2 q.2.last.length d2) = w := ⟨_, rfl⟩
  rw [hW5] at HP1
  rw [hW5]
  clear hW5
  have HX5 := Aside0.mk HP1.out.1
  have HS5 := Aside0.mk HP1.out.2.1
  have HV1 := Aside0.mk HP1.out.2.2.1
  have HV2 := Aside0.mk HP1.out.2.2.2
  clear HP1
  have n0 := (blk_cell HS5.out.nd.nb 0).trans rfl
  have x0 := (HX5.out).cells.1
  have x1 := (HX5.out).cells.2.1
  have x2 := (HX5.out).cells.2.2
  have x3 := (HX5.out).frozen 0
  cases hb0 : q.2.null
  case false =>
   have HBN := Aside0.mk hb0
   rw [hb0] at x0
   clear hb0
   go_upto_region 27 with fail
   clear n0 x0 x1 x2 x3
   have HS6 := Aside0.mk (HS5.out.nd.far HX5.out HXR.out HXW.out 0 (.bool true))
   have HX6 := Aside0.mk (show Edge _ XB true _ _ from blk_put HX5.out 0 (.bool true) rfl)
   have HZ1 := Aside0.mk (RowI.far HV1.out HX5.out (by decide) 0 (.bool true))
   have HZ2 := Aside0.mk (RowI.far HV2.out HX5.out (by decide) 0 (.bool true))
   obtain ⟨W6, hW6⟩ : ∃ w, W5.setCell ⟨XB, 0, none⟩ (.bool true) = w := ⟨_, rfl⟩
   rw [hW6] at HS6 HX6 HZ1 HZ2
   rw [hW6]
   clear hW6
   have x0 := (HX6.out).cells.1
   have x1 := (HX6.out).cells.2.1
   have x2 := (HX6.out).cells.2.2
   have x3 := (HX6.out).frozen 0
   have y0 := HS6.out.er.cells.1
   have y1 := HS6.out.er.cells.2.1
   have y2 := HS6.out.er.cells.2.2
   have y3 := HS6.out.er.frozen 0
   have y4 := HS6.out.er.frozen 1
   have y5 := HS6.out.er.frozen 2
   go_wp2_with fail
   have HFI := Aside0.mk (Fin_.all (show Fin_ w0.heap.size MB RB vS W ⟨q.1.sets, q.1.fol⟩ vS2 vF2 (.slice M1 q.2.first.length d1) (.slice M2 q.2.last.length d2) q.2.first q.2.last W6 false nilV nilV from ⟨HS6.out.er, HS6.out.mm, HS6.out.tn, HZ1.out, HZ2.out, HS6.out.rb, HS6.out.ow⟩) true)
   clear x0 x1 x2 x3 y0 y1 y2 y3 y4 y5
   obtain ⟨W9, hW9⟩ : ∃ w, ((W6.setCell ⟨RB, 0, none⟩ (.bool true)).setCell ⟨RB, 1, none⟩ (.slice M1 q.2.first.length d1)).setCell ⟨RB, 2, none⟩ (.slice M2 q.2.last.length d2) = w := ⟨_, rfl⟩
   rw [hW9] at HFI ⊢
   clear hW9
   refine bodyPost_ret (results_cell_row rfl _ _ RB 69 #[.bool true, (.slice M1 q.2.first.length d1), (.slice M2 q.2.last.length d2)] (0, 0) _ rfl HFI.out.er Try.underlying69 rfl (by kernel_rfl)) rfl ?_
   rw [HOQ.out]
   rw [show signR 5 q = (⟨q.1.sets, q.1.fol⟩, ⟨true, q.2.first, q.2.last⟩) by unfold signR; rw [HBN.out]; rfl]
   exact HFI.out.post (r := (⟨q.1.sets, q.1.fol⟩, ⟨true, q.2.first, q.2.last⟩))
  case true =>
   have HBN := Aside0.mk hb0
   rw [hb0] at x0
   clear hb0
   go_upto_region 27 with fail
   clear n0 x0 x1 x2 x3
   have HS6 := Aside0.mk (HS5.out.nd.far HX5.out HXR.out HXW.out 0 (.bool true))
   have HX6 := Aside0.mk (show Edge _ XB true _ _ from blk_put HX5.out 0 (.bool true) rfl)
   have HZ1 := Aside0.mk (RowI.far HV1.out HX5.out (by decide) 0 (.bool true))
   have HZ2 := Aside0.mk (RowI.far HV2.out HX5.out (by decide) 0 (.bool true))
   obtain ⟨W6, hW6⟩ : ∃ w, W5.setCell ⟨XB, 0, none⟩ (.bool true) = w := ⟨_, rfl⟩
   rw [hW6] at HS6 HX6 HZ1 HZ2
   rw [hW6]
   clear hW6
   have x0 := (HX6.out).cells.1
   have x1 := (HX6.out).cells.2.1
   have x2 := (HX6.out).cells.2.2
   have x3 := (HX6.out).frozen 0
   have y0 := HS6.out.er.cells.1
   have y1 := HS6.out.er.cells.2.1
   have y2 := HS6.out.er.cells.2.2
   have y3 := HS6.out.er.frozen 0
   have y4 := HS6.out.er.frozen 1
   have y5 := HS6.out.er.frozen 2
   go_wp2_with fail
   have HFI := Aside0.mk (Fin_.all (show Fin_ w0.heap.size MB RB vS W ⟨q.1.sets, q.1.fol⟩ vS2 vF2 (.slice M1 q.2.first.length d1) (.slice M2 q.2.last.length d2) q.2.first q.2.last W6 false nilV nilV from ⟨HS6.out.er, HS6.out.mm, HS6.out.tn, HZ1.out, HZ2.out, HS6.out.rb, HS6.out.ow⟩) true)
   clear x0 x1 x2 x3 y0 y1 y2 y3 y4 y5
   obtain ⟨W9, hW9⟩ : ∃ w, ((W6.setCell ⟨RB, 0, none⟩ (.bool true)).setCell ⟨RB, 1, none⟩ (.slice M1 q.2.first.length d1)).setCell ⟨RB, 2, none⟩ (.slice M2 q.2.last.length d2) = w := ⟨_, rfl⟩
   rw [hW9] at HFI ⊢
   clear hW9
   refine bodyPost_ret (results_cell_row rfl _ _ RB 69 #[.bool true, (.slice M1 q.2.first.length d1), (.slice M2 q.2.last.length d2)] (0, 0) _ rfl HFI.out.er Try.underlying69 rfl (by kernel_rfl)) rfl ?_
   rw [HOQ.out]
   rw [show signR 5 q = (⟨q.1.sets, q.1.fol⟩, ⟨true, q.2.first, q.2.last⟩) by unfold signR; rw [HBN.out]; rfl]
   exact HFI.out.post (r := (⟨q.1.sets, q.1.fol⟩, ⟨true, q.2.first, q.2.last⟩))
 ·refine step_list rfl (by rfl) ?_
  unfold Oper.wp
  go_simp
  have HBb := Aside0.mk (below_alloc (Below.refl W2.heap.size W2) (.cells #[.bool false, nilV, nilV] 69))
  have HXA := Aside0.mk (show Edge _ W2.heap.size false nilV nilV from blk_new W2 (.cells #[.bool false, nilV, nilV] 69))
  have HS3 := Aside0.mk (HS1.out.later HBb.out)
  have HXR := Aside0.mk (show RB ≠ W2.heap.size by have := blk_lt HS1.out.nd.er; omega)
  have HXW := Aside0.mk (show W.heap.size ≤ W2.heap.size by have := HS1.out.nd.tn.below.size; omega)
  refine hK.out _ _ ⟨HS3.out.pb.cell, (blk_cell HS3.out.nd.nb 2).trans rfl, cell_keep HS3.out.nd.bw HX0.out, cell_keep HS3.out.nd.bw HX1.out, cell_keep HS3.out.nd.bw HX2.out⟩ (fun hHeld => ?_)
  clear hK K HS1 HBb
  obtain ⟨XB, hXB⟩ : ∃ n, W2.heap.size = n := ⟨_, rfl⟩
  rw [hXB] at HXA HXR HXW
  rw [hXB]
  clear hXB
  generalize W2.alloc (.cells #[.bool false, nilV, nilV] 69) = W3 at *
  refine one_ (i := 5) (N := some 87) #[true, true, true, true, true, true, true, false] rfl rfl (one_of HT_.out (by kernel_rfl)) (by decide) (fun K hK => ?_)
  refine goes_ Try.func48 (by kernel_rfl) rfl #[.pointer (some ⟨MB, 0, none⟩), .agg #[.int .i64 x.f0, .int .i64 x.f1, .slice A2 x.f2.length c2]] (by rfl) rfl rfl (by (try simp only [List.map_toArray, List.map_cons, List.map_nil]); first | done | rfl) ?_
  have hnode := HOK.out x HXM.out st vS vF W3 A2 c2 HF.out (by have := HCN.out; have := HN.out; omega) HS3.out.nd.mm HS3.out.nd.bw HG2.out HL2.out
  rw [← HQQ.out] at hnode
  refine hnode.mono ?_
  clear hnode
  rintro e_ W4 ⟨vS2, vF2, u1, u2, rfl, hm2, hu1, hu2, ht2⟩
  have HS4 := Aside0.mk (HS3.out.turn hm2 ht2)
  obtain ⟨M1, d1, rfl⟩ := Kd.R_slice hu1
  obtain ⟨M2, d2, rfl⟩ := Kd.R_slice hu2
  have HU1 := Aside0.mk hu1
  have HU2 := Aside0.mk hu2
  have HXA' := Aside0.mk (HXA.out.turn ht2)
  clear hm2 hu1 hu2 ht2
  refine ⟨_, rfl, ?_⟩
  refine hK.out _ _ ⟨HS4.out.pb.cell, (blk_cell HS4.out.nd.nb 2).trans rfl, cell_keep HS4.out.nd.bw HX0.out, cell_keep HS4.out.nd.bw HX1.out, cell_keep HS4.out.nd.bw HX2.out⟩ (fun hHeld => ?_)
  clear hK K HS3 HXA
  refine norm_ (a' := ?_) ?_ ?_
  rotate_left
  ·show Act.put _ (some 87) _ = _
   simp only [Act.put, List.setIfInBounds_toArray, List.set_cons_zero, List.set_cons_succ, i64_w, i32_w]
   rfl
  have HXA := Aside0.mk HXA'.out
  clear HXA'
  have y0 := HXA.out.cells.1
  have y1 := HXA.out.cells.2.1
  have y2 := HXA.out.cells.2.2
  have y3 := HXA.out.frozen 0
  have y4 := HXA.out.frozen 1
  have y5 := HXA.out.frozen 2
  refine last_ (i := 7) (N := none) #[true, true, true, true, true, true, true, true] rfl rfl (one_of HT_.out (by kernel_rfl)) (by decide) (fun K hK => ?_)
  refine step_list rfl (by rfl) ?_
  unfold Oper.wp
  go_simp
  refine hK.out _ _ ?_
  clear hK K y0 y1 y2 y3 y4 y5
  refine done_ (done_of HT_.out (by kernel_rfl)) ?_
  refine NoPanic.normal ?_
  clear HT_ HW_ hHeld
  have HP1 := Aside0.mk (part_put HXA.out HS4.out HXR.out HXW.out HU1.out HU2.out q.2.null)
  clear HXA HS4 HU1 HU2
  obtain ⟨W5, hW5⟩ : ∃ w, ((W4.setCell ⟨XB, 0, none⟩ (.bool q.2.null)).setCell ⟨XB, 1, none⟩ (.slice M1 q.2.first.length d1)).setCell ⟨XB, 2, none⟩ (.slice M2 q.2.last.length d2) = w := ⟨_, rfl⟩
  rw [hW5] at HP1
  rw [hW5]
  clear hW5
  have HX5 := Aside0.mk HP1.out.1
  have HS5 := Aside0.mk HP1.out.2.1
  have HV1 := Aside0.mk HP1.out.2.2.1
  have HV2 := Aside0.mk HP1.out.2.2.2
  clear HP1
  have n0 := (blk_cell HS5.out.nd.nb 0).trans rfl
  have x0 := (HX5.out).cells.1
  have x1 := (HX5.out).cells.2.1
  have x2 := (HX5.out).cells.2.2
  have x3 := (HX5.out).frozen 0
  cases hb0 : q.2.null
  case false =>
   have HBN := Aside0.mk hb0
   rw [hb0] at x0
   clear hb0
   go_upto_region 27 with fail
   clear n0 x0 x1 x2 x3
   have HS6 := Aside0.mk (HS5.out.nd.far HX5.out HXR.out HXW.out 0 (.bool true))
   have HX6 := Aside0.mk (show Edge _ XB true _ _ from blk_put HX5.out 0 (.bool true) rfl)
   have HZ1 := Aside0.mk (RowI.far HV1.out HX5.out (by decide) 0 (.bool true))
   have HZ2 := Aside0.mk (RowI.far HV2.out HX5.out (by decide) 0 (.bool true))
   obtain ⟨W6, hW6⟩ : ∃ w, W5.setCell ⟨XB, 0, none⟩ (.bool true) = w := ⟨_, rfl⟩
   rw [hW6] at HS6 HX6 HZ1 HZ2
   rw [hW6]
   clear hW6
   have x0 := (HX6.out).cells.1
   have x1 := (HX6.out).cells.2.1
   have x2 := (HX6.out).cells.2.2
   have x3 := (HX6.out).frozen 0
   have y0 := HS6.out.er.cells.1
   have y1 := HS6.out.er.cells.2.1
   have y2 := HS6.out.er.cells.2.2
   have y3 := HS6.out.er.frozen 0
   have y4 := HS6.out.er.frozen 1
   have y5 := HS6.out.er.frozen 2
   go_wp2_with fail
   have HFI := Aside0.mk (Fin_.all (show Fin_ w0.heap.size MB RB vS W ⟨q.1.sets, q.1.fol⟩ vS2 vF2 (.slice M1 q.2.first.length d1) (.slice M2 q.2.last.length d2) q.2.first q.2.last W6 false nilV nilV from ⟨HS6.out.er, HS6.out.mm, HS6.out.tn, HZ1.out, HZ2.out, HS6.out.rb, HS6.out.ow⟩) true)
   clear x0 x1 x2 x3 y0 y1 y2 y3 y4 y5
   obtain ⟨W9, hW9⟩ : ∃ w, ((W6.setCell ⟨RB, 0, none⟩ (.bool true)).setCell ⟨RB, 1, none⟩ (.slice M1 q.2.first.length d1)).setCell ⟨RB, 2, none⟩ (.slice M2 q.2.last.length d2) = w := ⟨_, rfl⟩
   rw [hW9] at HFI ⊢
   clear hW9
   refine bodyPost_ret (results_cell_row rfl _ _ RB 69 #[.bool true, (.slice M1 q.2.first.length d1), (.slice M2 q.2.last.length d2)] (0, 0) _ rfl HFI.out.er Try.underlying69 rfl (by kernel_rfl)) rfl ?_
   rw [HOQ.out]
   rw [show signR 5 q = (⟨q.1.sets, q.1.fol⟩, ⟨true, q.2.first, q.2.last⟩) by unfold signR; rw [HBN.out]; rfl]
   exact HFI.out.post (r := (⟨q.1.sets, q.1.fol⟩, ⟨true, q.2.first, q.2.last⟩))
  case true =>
   have HBN := Aside0.mk hb0
   rw [hb0] at x0
   clear hb0
   go_upto_region 27 with fail
   clear n0 x0 x1 x2 x3
   have HS6 := Aside0.mk (HS5.out.nd.far HX5.out HXR.out HXW.out 0 (.bool true))
   have HX6 := Aside0.mk (show Edge _ XB true _ _ from blk_put HX5.out 0 (.bool true) rfl)
   have HZ1 := Aside0.mk (RowI.far HV1.out HX5.out (by decide) 0 (.bool true))
   have HZ2 := Aside0.mk (RowI.far HV2.out HX5.out (by decide) 0 (.bool true))
   obtain ⟨W6, hW6⟩ : ∃ w, W5.setCell ⟨XB, 0, none⟩ (.bool true) = w := ⟨_, rfl⟩
   rw [hW6] at HS6 HX6 HZ1 HZ2
   rw [hW6]
   clear hW6
   have x0 := (HX6.out).cells.1
   have x1 := (HX6.out).cells.2.1
   have x2 := (HX6.out).cells.2.2
   have x3 := (HX6.out).frozen 0
   have y0 := HS6.out.er.cells.1
   have y1 := HS6.out.er.cells.2.1
   have y2 := HS6.out.er.cells.2.2
   have y3 := HS6.out.er.frozen 0
   have y4 := HS6.out.er.frozen 1
   have y5 := HS6.out.er.frozen 2
   go_wp2_with fail
   have HFI := Aside0.mk (Fin_.all (show Fin_ w0.heap.size MB RB vS W ⟨q.1.sets, q.1.fol⟩ vS2 vF2 (.slice M1 q.2.first.length d1) (.slice M2 q.2.last.length d2) q.2.first q.2.last W6 false nilV nilV from ⟨HS6.out.er, HS6.out.mm, HS6.out.tn, HZ1.out, HZ2.out, HS6.out.rb, HS6.out.ow⟩) true)
   clear x0 x1 x2 x3 y0 y1 y2 y3 y4 y5
   obtain ⟨W9, hW9⟩ : ∃ w, ((W6.setCell ⟨RB, 0, none⟩ (.bool true)).setCell ⟨RB, 1, none⟩ (.slice M1 q.2.first.length d1)).setCell ⟨RB, 2, none⟩ (.slice M2 q.2.last.length d2) = w := ⟨_, rfl⟩
   rw [hW9] at HFI ⊢
   clear hW9
   refine bodyPost_ret (results_cell_row rfl _ _ RB 69 #[.bool true, (.slice M1 q.2.first.length d1), (.slice M2 q.2.last.length d2)] (0, 0) _ rfl HFI.out.er Try.underlying69 rfl (by kernel_rfl)) rfl ?_
   rw [HOQ.out]
   rw [show signR 5 q = (⟨q.1.sets, q.1.fol⟩, ⟨true, q.2.first, q.2.last⟩) by unfold signR; rw [HBN.out]; rfl]
   exact HFI.out.post (r := (⟨q.1.sets, q.1.fol⟩, ⟨true, q.2.first, q.2.last⟩))
end F
end Go.Proofs.Ytemlgmkbonpniaa.Print
