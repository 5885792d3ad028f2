/- follow.built: what it does with a set. -/
import Derived.Test.YtemlgmkbonpniaaFSignM
namespace Go.Proofs.Ytemlgmkbonpniaa.Print
open Go.Shelf Go.RowKit Go.Maps Go.Proofs.YtemlgmkbonpniaaW.PrintWords Go.Proofs.YtemlgmkbonpniaaW.PrintLast Go.Proofs.YtemlgmkbonpniaaW.PrintMore
set_option linter.unusedVariables false
set_option linter.unusedSimpArgs false
namespace F
def blf_T4 : Bool × List (List Nat × List Nat) := (true, [([], []), ([], []), ([], []), ([2], [2]), ([3], [3]), ([4], [4]), ([], []), ([6], [6]), ([7], [7]), ([5, 8], [5, 8]), ([], []), ([10], [10]), ([11], [11]), ([12], [12]), ([], []), ([13, 14, 9], [13, 14]), ([0, 0, 2, 3, 4, 5, 6, 7, 8, 9, 13, 15], [0]), ([16, 0, 2, 3, 4, 5, 6, 7, 8, 9, 13, 15], [16]), ([17, 9, 15, 0, 2, 3, 4, 5, 6, 7, 8, 9, 13, 15], [9, 17]), ([1, 0, 1, 2, 3, 4, 5, 6, 7, 8, 9, 10, 11, 12, 13, 14, 15, 16, 17, 18], [1]), ([19, 0, 1, 2, 3, 4, 5, 6, 7, 8, 9, 10, 11, 12, 13, 14, 15, 16, 17, 18], [19]), ([20, 15, 18, 0, 1, 2, 3, 4, 5, 6, 7, 8, 9, 10, 11, 12, 13, 14, 15, 16, 17, 18], [15, 20])])
def blf_B4 : List Nat := [0, 0, 0, 4, 12, 28, 0, 64, 192, 508, 0, 1024, 3072, 7168, 0, 32764, 65533, 131069, 262141, 524287, 1048575, 2097151]
theorem blf_tab4 : rtab .any (opsOf Try.f48 4) = blf_T4 := by kernel_rfl
theorem blf_bits4 : waitsOk blf_T4.2 blf_B4 = true := by kernel_rfl
/-- The automaton between two stores: c1, c4 stand in its cells, v1, v2 are the rows that are to stand there. -/
structure MdS (w0 : World) (MB PB NB RB : Nat) (vS0 : Value) (W : World) (s : Int) (kids : List S24) (A : Option Addr) (c : Nat) (c1 c4 v1 v2 : Value) (sets : List Int) (fol : List (List Int)) (W' : World) : Prop where
 blk : W'.heap[MB]? = some (.cells #[.bool false, c1, nilV, nilV, c4] 30 (0, 0))
 sets : Kd.R (Kd.int .i64) 3 W' w0.heap.size (fun _ => True) v1 sets
 fol : Kd.R kL 27 W' w0.heap.size (fun k => some k ≠ v1.ownBlock) v2 fol
 hM : w0.heap.size ≤ MB
 tn : Tn w0.heap.size vS0 v1 W W'
 nb : W'.heap[NB]? = some (.cells #[.int .i64 1, .int .i64 s, .slice A kids.length c] 24 (0, 0))
 pb : Pbox W' PB MB
 er : Edge W' RB false nilV nilV
 bw : Below w0.heap.size w0 W'
 rb : W.heap.size ≤ RB
 ow : w0.heap.size ≤ W.heap.size
section
variable {w0 W W' W2 : World} {MB PB NB RB : Nat} {vS0 c1 c4 v1 v2 v : Value} {s : Int} {kids : List S24} {A : Option Addr} {c : Nat} {sets sets' : List Int} {fol fol' : List (List Int)} {st : St}
theorem MdS.of {vS vF : Value} (h : BdS w0 MB PB NB RB vS0 W 1 s kids A c st vS vF W') : MdS w0 MB PB NB RB vS0 W s kids A c vS vF vS vF st.sets st.fol W' :=
 ⟨h.nd.mm.blk, h.nd.mm.sets, h.nd.mm.fol, h.nd.mm.hM, h.nd.tn, h.nd.nb, h.pb, h.nd.er, h.nd.bw, h.nd.rb, h.nd.ow⟩
theorem MdS.cells (h : MdS w0 MB PB NB RB vS0 W s kids A c c1 c4 v1 v2 sets fol W') : W'.cell? ⟨MB, 1, none⟩ = some c1 ∧ W'.cell? ⟨MB, 4, none⟩ = some c4 ∧ W'.cell? ⟨NB, 1, none⟩ = some (.int .i64 s) ∧ W'.cell? ⟨PB, 0, none⟩ = some (.pointer (some ⟨MB, 0, none⟩)) :=
 ⟨(blk_cell h.blk 1).trans rfl, (blk_cell h.blk 4).trans rfl, (blk_cell h.nb 1).trans rfl, h.pb.cell⟩
theorem MdS.later (h : MdS w0 MB PB NB RB vS0 W s kids A c c1 c4 v1 v2 sets fol W') (hb : Below W'.heap.size W' W2) : MdS w0 MB PB NB RB vS0 W s kids A c c1 c4 v1 v2 sets fol W2 :=
 ⟨blk_below h.blk hb, Kd.R_below h.sets hb, Kd.R_below h.fol hb, h.hM, h.tn.trans (Tn.later hb h.bw.size), blk_below h.nb hb, h.pb.later hb, h.er.later hb, h.bw.trans (hb.mono h.bw.size), h.rb, h.ow⟩
theorem MdS.done (h : MdS w0 MB PB NB RB vS0 W s kids A c v1 v2 v1 v2 st.sets st.fol W') : BdS w0 MB PB NB RB vS0 W 1 s kids A c st v1 v2 W' :=
 ⟨⟨⟨h.blk, h.sets, h.fol, h.hM⟩, h.tn, h.nb, h.er, h.bw, h.rb, h.ow⟩, h.pb⟩
theorem blk_off {b k t : Nat} {cs : Array Value} {u : Value} {xs : List Int} {ok : Nat → Prop} (hR : Kd.R (Kd.int .i64) 3 W' b ok u xs) (hk : W'.heap[k]? = some (.cells cs t (0, 0))) (ht : t ≠ 3) (hg : W'.grownBy W2 u.ownBlock) : W2.heap[k]? = some (.cells cs t (0, 0)) := by
 refine (hg.block k (blk_lt hk) (fun e => ?_)).trans hk
 obtain ⟨cs', hc⟩ := Kd.R_typed hR k e.symm
 rw [hk] at hc
 cases hc
 exact ht rfl
theorem blk_offF {b k t : Nat} {cs : Array Value} {u : Value} {xs : List (List Int)} {ok : Nat → Prop} (hR : Kd.R kL 27 W' b ok u xs) (hk : W'.heap[k]? = some (.cells cs t (0, 0))) (ht : t ≠ 27) (hg : W'.grownBy W2 u.ownBlock) : W2.heap[k]? = some (.cells cs t (0, 0)) := by
 refine (hg.block k (blk_lt hk) (fun e => ?_)).trans hk
 obtain ⟨cs', hc⟩ := Kd.R_typed hR k e.symm
 rw [hk] at hc
 cases hc
 exact ht rfl
/-- The sets have grown. -/
theorem MdS.app1 (h : MdS w0 MB PB NB RB vS0 W s kids A c c1 c4 v1 v2 sets fol W') (hg : W'.grownBy W2 v1.ownBlock) (hat : v.ownBlock = v1.ownBlock ∨ ∃ b, v.ownBlock = some b ∧ W'.heap.size ≤ b) (hR : Kd.R (Kd.int .i64) 3 W2 w0.heap.size (fun _ => True) v sets') : MdS w0 MB PB NB RB vS0 W s kids A c c1 c4 v v2 sets' fol W2 := by
 have hrow : ∀ u xs, RowI w0.heap.size v1 W' u xs → RowI w0.heap.size v W2 u xs := fun u xs hr =>
  Kd.R_mono (Kd.R_after (ok := fun _ => True) (Kd.R_mono hr (fun k hk => ⟨trivial, hk⟩)) hg hat) (fun k hk => hk.2)
 have hbg := Below.grown (Below.refl w0.heap.size W') hg h.bw.size (fun k hk => Kd.R_base h.sets k hk)
 exact ⟨blk_off h.sets h.blk (by decide) hg, hR, Kd.R_mono (Kd.R_after (ok := fun _ => True) (Kd.R_mono h.fol (fun k hk => ⟨trivial, hk⟩)) hg hat) (fun k hk => hk.2), h.hM,
  h.tn.trans ⟨hbg, hrow, fun k cs t hk h3 _ _ => (blk_off h.sets hk h3 hg).trans hk.symm⟩, blk_off h.sets h.nb (by decide) hg, blk_off h.sets h.pb (by decide) hg, blk_off h.sets h.er (by decide) hg, h.bw.trans hbg, h.rb, h.ow⟩
/-- What follows has grown. -/
theorem MdS.app2 (h : MdS w0 MB PB NB RB vS0 W s kids A c c1 c4 v1 v2 sets fol W') (hg : W'.grownBy W2 v2.ownBlock) (hR : Kd.R kL 27 W2 w0.heap.size (fun k => some k ≠ v1.ownBlock) v fol') : MdS w0 MB PB NB RB vS0 W s kids A c c1 c4 v1 v sets fol' W2 := by
 have hrow : ∀ (ok : Nat → Prop) u xs, Kd.R (Kd.int .i64) 3 W' w0.heap.size ok u xs → Kd.R (Kd.int .i64) 3 W2 w0.heap.size ok u xs := fun ok u xs hr =>
  Kd.R_mono (Kd.R_step (Kd.R_bound hr) (fun k hk hlt => hg.block k hlt (fun e => by
   obtain ⟨_, _, _, q, hq, cs, hc⟩ := hk
   obtain ⟨cs', hc'⟩ := Kd.R_typed h.fol k e.symm
   have hq3 : q = 3 := by simpa [Kd.int, Kd.scalar] using hq
   rw [hc] at hc'
   cases hc'
   omega))) (fun k hk => hk.1)
 have hbg := Below.grown (Below.refl w0.heap.size W') hg h.bw.size (fun k hk => Kd.R_base h.fol k hk)
 exact ⟨blk_offF h.fol h.blk (by decide) hg, hrow _ _ _ h.sets, hR, h.hM, h.tn.trans ⟨hbg, fun u xs hr => hrow _ u xs hr, fun k cs t hk _ h27 _ => (blk_offF h.fol hk h27 hg).trans hk.symm⟩, blk_offF h.fol h.nb (by decide) hg, blk_offF h.fol h.pb (by decide) hg, blk_offF h.fol h.er (by decide) hg, h.bw.trans hbg, h.rb, h.ow⟩
/-- A cell of the automaton is written. -/
theorem MdS.put (h : MdS w0 MB PB NB RB vS0 W s kids A c c1 c4 v1 v2 sets fol W') (i : Nat) (u c1' c4' : Value) (e : (#[.bool false, c1, nilV, nilV, c4] : Array Value).setIfInBounds i u = #[.bool false, c1', nilV, nilV, c4']) : MdS w0 MB PB NB RB vS0 W s kids A c c1' c4' v1 v2 sets fol (W'.setCell ⟨MB, i, none⟩ u) := by
 have hM := h.hM
 have hrow : ∀ u2 xs, RowI w0.heap.size v1 W' u2 xs → RowI w0.heap.size v1 (W'.setCell ⟨MB, i, none⟩ u) u2 xs := fun u2 xs hr => RowI.far hr h.blk (by decide) i u
 have far : ∀ {k t : Nat} {cs : Array Value}, W'.heap[k]? = some (.cells cs t (0, 0)) → t ≠ 30 → (W'.setCell ⟨MB, i, none⟩ u).heap[k]? = some (.cells cs t (0, 0)) := fun {k t cs} hk ht => (Below.heap_setCell _ _ _ k (fun e => by
  replace e : k = MB := e
  subst e
  rw [h.blk] at hk
  cases hk
  exact ht rfl)).trans hk
 exact ⟨blk_put h.blk i u e, Kd.R_set h.sets h.blk (fun q hq => by simp [Kd.int, Kd.scalar] at hq; omega) i u, Kd.R_set h.fol h.blk (fun q hq => by simp [kL, Kd.slice, Kd.int, Kd.scalar] at hq; omega) i u, hM,
  h.tn.trans ⟨below_set (Below.refl _ _) hM i u, hrow, fun k cs t hk _ _ h30 => (far hk h30).trans hk.symm⟩, far h.nb (by decide), far h.pb (by decide), far h.er (by decide), below_set h.bw hM i u, h.rb, h.ow⟩
end
set_option maxHeartbeats 16000000 in
set_option maxRecDepth 100000 in
theorem node_leaf {w0 : World} {MB : Nat} (s : Int) (kids : List S24) : NodeOK w0 MB ⟨1, s, kids⟩ := by
 intro st vS vF W A c hf hn hm hb hC hc
 replace hC : Kd.C k24 w0 A kids.length kids := hC
 replace hc : kids.length ≤ c := hc
 show Calls Try.prog 48 #[.pointer (some ⟨MB, 0, none⟩), .agg #[.int .i64 1, .int .i64 s, .slice A kids.length c]] W _
 have hok : True := trivial
 rw [show nodeR (⟨1, s, kids⟩ : S24) st = leafR s st by rw [nodeR_eq]; rfl]
 replace hn : st.sets.length + 1 ≤ 300 := by rw [cnt] at hn; exact hn
 obtain ⟨AS, cS, rfl⟩ := Kd.R_slice hm.sets
 obtain ⟨AF, cF, rfl⟩ := Kd.R_slice hm.fol
 have HF := Aside0.mk hf
 have HN := Aside0.mk hn
 have HM := Aside0.mk hm
 have HB := Aside0.mk hb
 have HC := Aside0.mk hC
 have HCC := Aside0.mk hc
 have HOK := Aside0.mk hok
 clear hok hf hn hm hb hC hc
 go_enter Try.func48, Try.ntmps48
 go_upto_region 4 with fail
 have b1 := below_alloc (Below.refl W.heap.size W) (.cells #[.pointer (some ⟨MB, 0, none⟩)] 71)
 have b2 := below_alloc (Below.refl _ (W.alloc (.cells #[.pointer (some ⟨MB, 0, none⟩)] 71))) (.cells #[.int .i64 1, .int .i64 s, .slice A kids.length c] 24)
 have b3 := below_alloc (Below.refl _ ((W.alloc (.cells #[.pointer (some ⟨MB, 0, none⟩)] 71)).alloc (.cells #[.int .i64 1, .int .i64 s, .slice A kids.length c] 24))) (.cells #[.bool false, nilV, nilV] 69)
 have s1 : (W.alloc (.cells #[.pointer (some ⟨MB, 0, none⟩)] 71)).heap.size = W.heap.size + 1 := Array.size_push _
 have s2 : ((W.alloc (.cells #[.pointer (some ⟨MB, 0, none⟩)] 71)).alloc (.cells #[.int .i64 1, .int .i64 s, .slice A kids.length c] 24)).heap.size = W.heap.size + 1 + 1 := (Array.size_push _).trans (by rw [s1])
 have b23 := b2.trans (b3.mono (by rw [s1, s2]; omega))
 have bw := b1.trans (b23.mono (by rw [s1]; omega))
 have HS0 := Aside0.mk (show BdS w0 MB W.heap.size (W.heap.size + 1) (W.heap.size + 1 + 1) (.slice AS st.sets.length cS) W 1 s kids A c st (.slice AS st.sets.length cS) (.slice AF st.fol.length cF) (((W.alloc (.cells #[.pointer (some ⟨MB, 0, none⟩)] 71)).alloc (.cells #[.int .i64 1, .int .i64 s, .slice A kids.length c] 24)).alloc (.cells #[.bool false, nilV, nilV] 69)) from
  ⟨⟨HM.out.later bw, Tn.later bw HB.out.size, by rw [← s1]; exact blk_below (blk_new _ _) b3, by rw [← s2]; exact blk_new _ _, HB.out.trans (bw.mono HB.out.size), by omega, HB.out.size⟩, blk_below (blk_new W _) b23⟩)
 clear b1 b2 b3 s1 s2 b23 bw
 obtain ⟨RB, hRB⟩ : ∃ n, W.heap.size + 1 + 1 = n := ⟨_, rfl⟩
 obtain ⟨NB, hNB⟩ : ∃ n, W.heap.size + 1 = n := ⟨_, rfl⟩
 obtain ⟨PB, hPB⟩ : ∃ n, W.heap.size = n := ⟨_, rfl⟩
 obtain ⟨W1, hW1⟩ : ∃ w, ((W.alloc (.cells #[.pointer (some ⟨MB, 0, none⟩)] 71)).alloc (.cells #[.int .i64 1, .int .i64 s, .slice A kids.length c] 24)).alloc (.cells #[.bool false, nilV, nilV] 69) = w := ⟨_, rfl⟩
 rw [hRB, hNB, hPB, hW1] at HS0
 rw [hW1]
 rw [hRB, hNB, hPB]
 clear hRB hNB hPB hW1
 obtain ⟨i3, hi3, hz3, hs3, hb3⟩ := info_parts info3
 obtain ⟨i27, hi27, hz27, hs27, hb27⟩ := info_parts info27
 have HFL := Aside0.mk (show st.fol.length = st.sets.length from HF.out.len)
 have HS := Aside0.mk (MdS.of (HS0.out.later (below_drew (Below.refl W1.heap.size W1))))
 clear HS0
 refine wp_region_noPanic ?_
 refine start_ (n := 22) (S := fun w' => w'.cell? ⟨MB, 4, none⟩ = some (.slice AF st.fol.length cF) ∧ w'.cell? ⟨NB, 1, none⟩ = some (.int .i64 s) ∧ w'.cell? ⟨PB, 0, none⟩ = some (.pointer (some ⟨MB, 0, none⟩))) (ds := [21]) #[false, false, false, false, false, false, false, false, false, false, false, false, false, false, false, false, false, false, false, false, false, false] (by kernel_rfl) rfl rfl ⟨HS.out.cells.2.1, HS.out.cells.2.2.1, HS.out.cells.2.2.2⟩ (fun hHeld => ?_); refine with_tabW blf_tab4 blf_bits4 (fun HT_ HW_ => ?_)
 obtain ⟨W2, hW2⟩ : ∃ w, W1.drew = w := ⟨_, rfl⟩
 rw [hW2] at HS hHeld ⊢
 clear hW2
 refine take_ (i := 0) (N := some 19) (v := ?_) (a' := ?_) #[true, false, false, false, false, false, false, false, false, false, false, false, false, false, false, false, false, false, false, false, false, false] rfl rfl (take_ofW HT_.out HW_.out (by kernel_rfl)) (fun _ _ _ h => h) (Or.inl ⟨by rfl, ?_⟩) hHeld ?_ ?_
 rotate_left
 ·rintro w' ⟨s0, s1, s2⟩
  go_simp
  with_reducible rfl
 rotate_left
 ·simp only [Act.put, List.setIfInBounds_toArray, List.set_cons_zero, List.set_cons_succ, i64_w, i32_w]
  rfl
 refine take_ (i := 1) (N := some 20) (v := ?_) (a' := ?_) #[true, true, false, false, false, false, false, false, false, false, false, false, false, false, false, false, false, false, false, false, false, false] rfl rfl (take_ofW HT_.out HW_.out (by kernel_rfl)) (fun _ _ _ h => h) (Or.inl ⟨by rfl, ?_⟩) hHeld ?_ ?_
 rotate_left
 ·rintro w' ⟨s0, s1, s2⟩
  go_simp
  with_reducible rfl
 rotate_left
 ·simp only [Act.put, List.setIfInBounds_toArray, List.set_cons_zero, List.set_cons_succ, i64_w, i32_w]
  rfl
 refine take_ (i := 2) (N := some 21) (v := ?_) (a' := ?_) #[true, true, true, false, false, false, false, false, false, false, false, false, false, false, false, false, false, false, false, false, false, false] rfl rfl (take_ofW HT_.out HW_.out (by kernel_rfl)) (fun _ _ _ h => h) (Or.inl ⟨by rfl, ?_⟩) hHeld ?_ ?_
 rotate_left
 ·rintro w' ⟨s0, s1, s2⟩
  go_simp
  with_reducible rfl
 rotate_left
 ·simp only [Act.put, List.setIfInBounds_toArray, List.set_cons_zero, List.set_cons_succ, i64_w, i32_w]
  rfl
 refine pure_ (i := 3) (N := some 22) (v := ?_) (a' := ?_) #[true, true, true, true, false, false, false, false, false, false, false, false, false, false, false, false, false, false, false, false, false, false] rfl rfl (any_of HT_.out (by kernel_rfl)) (fun _ _ _ h => h) (Or.inl ⟨by rfl, ?_⟩) ?_ ?_
 rotate_left
 ·intro w'
  go_simp
  with_reducible rfl
 rotate_left
 ·simp only [Act.put, List.setIfInBounds_toArray, List.set_cons_zero, List.set_cons_succ, i64_w, i32_w]
  rfl
 refine pure_ (i := 4) (N := some 23) (v := ?_) (a' := ?_) #[true, true, true, true, true, false, false, false, false, false, false, false, false, false, false, false, false, false, false, false, false, false] rfl rfl (any_of HT_.out (by kernel_rfl)) (fun _ _ _ h => h) (Or.inl ⟨by rfl, ?_⟩) ?_ ?_
 rotate_left
 ·intro w'
  go_simp
  with_reducible rfl
 rotate_left
 ·simp only [Act.put, List.setIfInBounds_toArray, List.set_cons_zero, List.set_cons_succ, i64_w, i32_w]
  rfl
 refine pure_ (i := 6) (N := some 25) (v := ?_) (a' := ?_) #[true, true, true, true, true, false, true, false, false, false, false, false, false, false, false, false, false, false, false, false, false, false] rfl rfl (any_of HT_.out (by kernel_rfl)) (fun _ _ _ h => h) (Or.inl ⟨by rfl, ?_⟩) ?_ ?_
 rotate_left
 ·intro w'
  go_simp
  with_reducible rfl
 rotate_left
 ·simp only [Act.put, List.setIfInBounds_toArray, List.set_cons_zero, List.set_cons_succ, i64_w, i32_w]
  rfl
 refine take_ (i := 7) (N := some 26) (v := ?_) (a' := ?_) #[true, true, true, true, true, false, true, true, false, false, false, false, false, false, false, false, false, false, false, false, false, false] rfl rfl (take_ofW HT_.out HW_.out (by kernel_rfl)) (fun _ _ _ h => h) (Or.inl ⟨by rfl, ?_⟩) hHeld ?_ ?_
 rotate_left
 ·rintro w' ⟨s0, s1, s2⟩
  go_simp
  with_reducible rfl
 rotate_left
 ·simp only [Act.put, List.setIfInBounds_toArray, List.set_cons_zero, List.set_cons_succ, i64_w, i32_w]
  rfl
 refine take_ (i := 10) (N := some 29) (v := ?_) (a' := ?_) #[true, true, true, true, true, false, true, true, false, false, true, false, false, false, false, false, false, false, false, false, false, false] rfl rfl (take_ofW HT_.out HW_.out (by kernel_rfl)) (fun _ _ _ h => h) (Or.inl ⟨by rfl, ?_⟩) hHeld ?_ ?_
 rotate_left
 ·rintro w' ⟨s0, s1, s2⟩
  go_simp
  with_reducible rfl
 rotate_left
 ·simp only [Act.put, List.setIfInBounds_toArray, List.set_cons_zero, List.set_cons_succ, i64_w, i32_w]
  rfl
 refine pure_ (i := 11) (N := some 30) (v := ?_) (a' := ?_) #[true, true, true, true, true, false, true, true, false, false, true, true, false, false, false, false, false, false, false, false, false, false] rfl rfl (any_of HT_.out (by kernel_rfl)) (fun _ _ _ h => h) (Or.inl ⟨by rfl, ?_⟩) ?_ ?_
 rotate_left
 ·intro w'
  go_simp
  with_reducible rfl
 rotate_left
 ·simp only [Act.put, List.setIfInBounds_toArray, List.set_cons_zero, List.set_cons_succ, i64_w, i32_w]
  rfl
 refine pure_ (i := 12) (N := some 31) (v := ?_) (a' := ?_) #[true, true, true, true, true, false, true, true, false, false, true, true, true, false, false, false, false, false, false, false, false, false] rfl rfl (any_of HT_.out (by kernel_rfl)) (fun _ _ _ h => h) (Or.inl ⟨by rfl, ?_⟩) ?_ ?_
 rotate_left
 ·intro w'
  go_simp
  with_reducible rfl
 rotate_left
 ·simp only [Act.put, List.setIfInBounds_toArray, List.set_cons_zero, List.set_cons_succ, i64_w, i32_w]
  rfl
 refine take_ (i := 13) (N := some 32) (v := ?_) (a' := ?_) #[true, true, true, true, true, false, true, true, false, false, true, true, true, true, false, false, false, false, false, false, false, false] rfl rfl (take_ofW HT_.out HW_.out (by kernel_rfl)) (fun _ _ _ h => h) (Or.inl ⟨by rfl, ?_⟩) hHeld ?_ ?_
 rotate_left
 ·rintro w' ⟨s0, s1, s2⟩
  go_simp
  with_reducible rfl
 rotate_left
 ·simp only [Act.put, List.setIfInBounds_toArray, List.set_cons_zero, List.set_cons_succ, i64_w, i32_w]
  rfl
 refine join_ (σ := Nat × Nat × Option Addr × Nat × Option Addr × Nat) 6 #[true, true, true, true, true, true, true, true, true, true, true, true, true, true, true, true, false, false, false, false, false, false] (fun q_ => [(24, (.slice AS st.sets.length cS)), (27, .slice (some ⟨q_.1, 0, none⟩) 1 1), (33, .slice (some ⟨q_.2.1, 0, none⟩) 1 1), (28, (.slice q_.2.2.1 (st.sets ++ [s]).length q_.2.2.2.1)), (34, (.slice q_.2.2.2.2.1 (st.fol ++ [([] : List Int)]).length q_.2.2.2.2.2))]) (fun q_ w' => MdS w0 MB PB NB RB (.slice AS st.sets.length cS) W s kids A c (.slice AS st.sets.length cS) (.slice AF st.fol.length cF) (.slice q_.2.2.1 (st.sets ++ [s]).length q_.2.2.2.1) (.slice q_.2.2.2.2.1 (st.fol ++ [([] : List Int)]).length q_.2.2.2.2.2) (st.sets ++ [s]) (st.fol ++ [[]]) w') ?_ (fun hJ => ?_)
 ·rintro ⟨BX, BY, A4, c4, A6, c6⟩ W6 HS'
  clear HS
  have HS := Aside0.mk HS'
  clear HS' hHeld
  refine norm_ (a' := ?_) ?_ ?_
  rotate_left
  ·show putAll _ _ = _
   simp only [putAll, Act.put, List.setIfInBounds_toArray, List.set_cons_zero, List.set_cons_succ, i64_w, i32_w]
   rfl
  refine pure_ (i := 16) (N := some 35) (v := ?_) (a' := ?_) #[true, true, true, true, true, true, true, true, true, true, true, true, true, true, true, true, true, false, false, false, false, false] rfl rfl (any_of HT_.out (by kernel_rfl)) (fun _ _ _ h => h) (Or.inl ⟨by rfl, ?_⟩) ?_ ?_
  rotate_left
  ·intro w'
   go_simp
   with_reducible rfl
  rotate_left
  ·simp only [Act.put, List.setIfInBounds_toArray, List.set_cons_zero, List.set_cons_succ, i64_w, i32_w]
   rfl
  refine pure_ (i := 17) (N := some 36) (v := ?_) (a' := ?_) #[true, true, true, true, true, true, true, true, true, true, true, true, true, true, true, true, true, true, false, false, false, false] rfl rfl (any_of HT_.out (by kernel_rfl)) (fun _ _ _ h => h) (Or.inl ⟨by rfl, ?_⟩) ?_ ?_
  rotate_left
  ·intro w'
   go_simp
   with_reducible rfl
  rotate_left
  ·simp only [Act.put, List.setIfInBounds_toArray, List.set_cons_zero, List.set_cons_succ, i64_w, i32_w]
   rfl
  have hl4 : (st.sets ++ [s]).length = st.sets.length + 1 := by simp
  have hl6 : (st.fol ++ [([] : List Int)]).length = st.fol.length + 1 := by simp
  rw [hl4, hl6] at HS
  clear hl4 hl6
  have z1 := HS.out.cells.1
  have z2 := blk_frozen HS.out.blk 1
  have z3 := HS.out.cells.2.1
  have z4 := blk_frozen HS.out.blk 4
  refine one_ (i := 18) (N := none) #[true, true, true, true, true, true, true, true, true, true, true, true, true, true, true, true, true, true, true, false, false, false] rfl rfl (one_of HT_.out (by kernel_rfl)) (by decide) (fun K hK => ?_)
  refine step_list rfl (by rfl) ?_
  unfold Oper.wp
  go_simp
  have HS' := Aside0.mk (HS.out.put 1 (.slice A4 (st.sets.length + 1) c4) (.slice A4 (st.sets.length + 1) c4) (.slice AF st.fol.length cF) rfl)
  refine hK.out _ _ ⟨HS'.out.cells.2.1, HS'.out.cells.2.2.1, HS'.out.cells.2.2.2⟩ (fun hHeld => ?_)
  clear hK K HS z1 z2 z3 z4
  have HS := Aside0.mk HS'.out
  clear HS'
  obtain ⟨Wa, hWa⟩ : ∃ x, W6.setCell ⟨MB, 1, none⟩ (.slice A4 (st.sets.length + 1) c4) = x := ⟨_, rfl⟩
  rw [hWa] at HS hHeld ⊢
  clear hWa
  refine pure_ (i := 19) (N := some 37) (v := ?_) (a' := ?_) #[true, true, true, true, true, true, true, true, true, true, true, true, true, true, true, true, true, true, true, true, false, false] rfl rfl (any_of HT_.out (by kernel_rfl)) (fun _ _ _ h => h) (Or.inl ⟨by rfl, ?_⟩) ?_ ?_
  rotate_left
  ·intro w'
   go_simp
   with_reducible rfl
  rotate_left
  ·simp only [Act.put, List.setIfInBounds_toArray, List.set_cons_zero, List.set_cons_succ, i64_w, i32_w]
   rfl
  refine pure_ (i := 20) (N := some 38) (v := ?_) (a' := ?_) #[true, true, true, true, true, true, true, true, true, true, true, true, true, true, true, true, true, true, true, true, true, false] rfl rfl (any_of HT_.out (by kernel_rfl)) (fun _ _ _ h => h) (Or.inl ⟨by rfl, ?_⟩) ?_ ?_
  rotate_left
  ·intro w'
   go_simp
   with_reducible rfl
  rotate_left
  ·simp only [Act.put, List.setIfInBounds_toArray, List.set_cons_zero, List.set_cons_succ, i64_w, i32_w]
   rfl
  have z1 := HS.out.cells.1
  have z2 := blk_frozen HS.out.blk 1
  have z3 := HS.out.cells.2.1
  have z4 := blk_frozen HS.out.blk 4
  refine last_ (i := 21) (N := none) #[true, true, true, true, true, true, true, true, true, true, true, true, true, true, true, true, true, true, true, true, true, true] rfl rfl (one_of HT_.out (by kernel_rfl)) (by decide) (fun K hK => ?_)
  refine step_list rfl (by rfl) ?_
  unfold Oper.wp
  go_simp
  refine hK.out _ _ ?_
  clear hK K z1 z2 z3 z4
  refine done_ (done_of HT_.out (by kernel_rfl)) ?_
  refine NoPanic.normal ?_
  clear HT_ HW_ hHeld
  have HS' := Aside0.mk (MdS.done (st := ⟨st.sets ++ [s], st.fol ++ [[]]⟩) (HS.out.put 4 (.slice A6 (st.fol.length + 1) c6) (.slice A4 (st.sets.length + 1) c4) (.slice A6 (st.fol.length + 1) c6) rfl))
  clear HS
  obtain ⟨W7, hW7⟩ : ∃ x, Wa.setCell ⟨MB, 4, none⟩ (.slice A6 (st.fol.length + 1) c6) = x := ⟨_, rfl⟩
  rw [hW7] at HS'
  rw [hW7]
  clear hW7
  have z1 := HS'.out.nd.mm.cells.1
  have z2 := HS'.out.pb.cell
  go_upto_region 6 with fail
  clear z1 z2
  obtain ⟨n, hn⟩ : ∃ n : Nat, n = st.sets.length + 1 := ⟨_, rfl⟩
  have hl : (st.sets.length : Int) + 1 = (n : Int) := by omega
  have HNN := Aside0.mk hn
  clear hn
  have HA8 := Aside0.mk (rowI_lit (W := W7) (n : Int) HS'.out.nd.mm.sets HS'.out.nd.bw.size)
  have HS8 := Aside0.mk (HS'.out.later (below_alloc (Below.refl W7.heap.size W7) (.cells #[.int .i64 (n : Int)] 3)))
  have y0 := HS8.out.nd.er.cells.1
  have y1 := HS8.out.nd.er.cells.2.1
  have y2 := HS8.out.nd.er.cells.2.2
  have y3 := HS8.out.nd.er.frozen 0
  have y4 := HS8.out.nd.er.frozen 1
  have y5 := HS8.out.nd.er.frozen 2
  go_wp2_with fail
  clear y0 y1 y2 y3 y4 y5
  have HFI := Aside0.mk (Fin_.all (show Fin_ w0.heap.size MB RB (.slice AS st.sets.length cS) W ⟨st.sets ++ [s], st.fol ++ [[]]⟩ (.slice A4 (st.sets.length + 1) c4) (.slice A6 (st.fol.length + 1) c6) (.slice (some ⟨W7.heap.size, 0, none⟩) 1 1) (.slice (some ⟨W7.heap.size, 0, none⟩) 1 1) [(n : Int)] [(n : Int)] (W7.alloc (.cells #[.int .i64 (n : Int)] 3)) false nilV nilV from ⟨HS8.out.nd.er, HS8.out.nd.mm, HS8.out.nd.tn, HA8.out, HA8.out, HS8.out.nd.rb, HS8.out.nd.ow⟩) false)
  obtain ⟨W9, hW9⟩ : ∃ w, (((W7.alloc (.cells #[.int .i64 (n : Int)] 3)).setCell ⟨RB, 0, none⟩ (.bool false)).setCell ⟨RB, 1, none⟩ (.slice (some ⟨W7.heap.size, 0, none⟩) 1 1)).setCell ⟨RB, 2, none⟩ (.slice (some ⟨W7.heap.size, 0, none⟩) 1 1) = w := ⟨_, rfl⟩
  rw [hW9] at HFI ⊢
  clear hW9
  refine bodyPost_ret (results_cell_row rfl _ _ RB 69 #[.bool false, (.slice (some ⟨W7.heap.size, 0, none⟩) 1 1), (.slice (some ⟨W7.heap.size, 0, none⟩) 1 1)] (0, 0) _ rfl HFI.out.er Try.underlying69 rfl (by kernel_rfl)) rfl ?_
  have hq : leafR s st = (⟨st.sets ++ [s], st.fol ++ [[]]⟩, ⟨false, [(n : Int)], [(n : Int)]⟩) := by rw [HNN.out]; rfl
  rw [hq]
  exact HFI.out.post (r := (⟨st.sets ++ [s], st.fol ++ [[]]⟩, ⟨false, [(n : Int)], [(n : Int)]⟩))
 refine three_ (i := 5) (j := 8) (k := 14) (Ni := some 24) (Nj := some 27) (Nk := some 33) #[true, true, true, true, true, true, true, true, false, false, true, true, true, true, false, false, false, false, false, false, false, false] #[true, true, true, true, true, false, true, true, true, false, true, true, true, true, false, false, false, false, false, false, false, false] #[true, true, true, true, true, false, true, true, false, false, true, true, true, true, true, false, false, false, false, false, false, false] rfl rfl rfl rfl rfl rfl (three_of HT_.out (by kernel_rfl)) (by decide) (by decide) (by decide) (fun K hK => ?_) (fun K hK => ?_) (fun K hK => ?_)
 ·have z1 := HS.out.cells.1
  refine step_list rfl (by rfl) ?_
  unfold Oper.wp
  go_simp
  refine hK.out _ _ ⟨HS.out.cells.2.1, HS.out.cells.2.2.1, HS.out.cells.2.2.2⟩ (fun hHeld => ?_)
  clear z1 hK K
  refine two_ (i := 8) (j := 14) (Ni := some 27) (Nj := some 33) #[true, true, true, true, true, true, true, true, true, false, true, true, true, true, false, false, false, false, false, false, false, false] #[true, true, true, true, true, true, true, true, false, false, true, true, true, true, true, false, false, false, false, false, false, false] rfl rfl rfl rfl (two_of HT_.out (by kernel_rfl)) (by decide) (by decide) (fun K hK => ?_) (fun K hK => ?_)
  ·refine step_list rfl (by rfl) ?_
   unfold Oper.wp
   go_simp
   have HBb := Aside0.mk (below_alloc (Below.refl W2.heap.size W2) (.cells #[.int .i64 s] 3))
   have HBX := Aside0.mk (blk_new W2 (.cells #[.int .i64 s] 3))
   have HS' := Aside0.mk (HS.out.later HBb.out)
   refine hK.out _ _ ⟨HS'.out.cells.2.1, HS'.out.cells.2.2.1, HS'.out.cells.2.2.2⟩ (fun hHeld => ?_)
   clear hK K HS HBb
   have HS := Aside0.mk HS'.out
   clear HS'
   obtain ⟨BX, hBX⟩ : ∃ n, W2.heap.size = n := ⟨_, rfl⟩
   rw [hBX] at HBX ⊢
   clear hBX
   generalize W2.alloc (.cells #[.int .i64 s] 3) = W3 at *
   refine two_ (i := 9) (j := 14) (Ni := some 28) (Nj := some 33) #[true, true, true, true, true, true, true, true, true, true, true, true, true, true, false, false, false, false, false, false, false, false] #[true, true, true, true, true, true, true, true, true, false, true, true, true, true, true, false, false, false, false, false, false, false] rfl rfl rfl rfl (two_of HT_.out (by kernel_rfl)) (by decide) (by decide) (fun K hK => ?_) (fun K hK => ?_)
   ·refine R_app_step (Kd.int .i64) (W := W3) w0.heap.size (by rfl) (.tmp 24) (.tmp 27) 27 3 i3 (.int .i64 0) 8 rfl Try.underlying27 hi3 hz3 hs3 hb3 rfl (by decide) (.slice AS st.sets.length cS) st.sets s [.int .i64 s] (fun _ => True) (fun _ => False) rfl ⟨BX, 0, none⟩ rfl (cell_one HBX.out) rfl (fun _ hk => hk.elim) (fun _ _ => trivial) HS.out.sets HS.out.bw.size (by have := HN.out; simp only [maxLen]; omega) (by have := HN.out; omega) ?_
    intro v4 W4 hR4 hg4 hat4
    obtain ⟨A4, c4, rfl⟩ := Kd.R_slice hR4
    have HS' := Aside0.mk (HS.out.app1 hg4 hat4 hR4)
    refine hK.out _ _ ⟨HS'.out.cells.2.1, HS'.out.cells.2.2.1, HS'.out.cells.2.2.2⟩ (fun hHeld => ?_)
    clear hR4 hg4 hat4 HS HBX
    have HS := Aside0.mk HS'.out
    clear HS'
    clear hK K
    refine norm_ (a' := ?_) ?_ ?_
    rotate_left
    ·show Act.put _ (some 28) _ = _
     simp only [Act.put, List.setIfInBounds_toArray, List.set_cons_zero, List.set_cons_succ, i64_w, i32_w]
     rfl
    refine one_ (i := 14) (N := some 33) #[true, true, true, true, true, true, true, true, true, true, true, true, true, true, true, false, false, false, false, false, false, false] rfl rfl (one_of HT_.out (by kernel_rfl)) (by decide) (fun K hK => ?_)
    refine step_list rfl (by rfl) ?_
    unfold Oper.wp
    go_simp
    have HBb := Aside0.mk (below_alloc (Below.refl W4.heap.size W4) (.cells #[nilV] 27))
    have HBY := Aside0.mk (blk_new W4 (.cells #[nilV] 27))
    have HS' := Aside0.mk (HS.out.later HBb.out)
    refine hK.out _ _ ⟨HS'.out.cells.2.1, HS'.out.cells.2.2.1, HS'.out.cells.2.2.2⟩ (fun hHeld => ?_)
    clear hK K HS HBb
    have HS := Aside0.mk HS'.out
    clear HS'
    obtain ⟨BY, hBY⟩ : ∃ n, W4.heap.size = n := ⟨_, rfl⟩
    rw [hBY] at HBY ⊢
    clear hBY
    generalize W4.alloc (.cells #[nilV] 27) = W5 at *
    refine one_ (i := 15) (N := some 34) #[true, true, true, true, true, true, true, true, true, true, true, true, true, true, true, true, false, false, false, false, false, false] rfl rfl (one_of HT_.out (by kernel_rfl)) (by decide) (fun K hK => ?_)
    refine R_app_step kL (W := W5) w0.heap.size (by rfl) (.tmp 32) (.tmp 33) 28 27 i27 (.slice none 0 0) 24 rfl Try.underlying28 hi27 hz27 hs27 hb27 rfl (by decide) (.slice AF st.fol.length cF) st.fol [] [nilV] (fun k => some k ≠ (.slice A4 (st.sets ++ [s]).length c4 : Value).ownBlock) (fun _ => False) rfl ⟨BY, 0, none⟩ rfl (cell_one HBY.out) ⟨_, rfl, Kd.R_nil _ _ _ _ _⟩ (fun _ hk => hk.elim) (fun k hk e => by have := Kd.R_lt HS.out.sets k e.symm; omega) HS.out.fol HS.out.bw.size (by have := HN.out; have := HFL.out; simp only [maxLen]; omega) (by have := HN.out; have := HFL.out; omega) ?_
    intro v6 W6 hR6 hg6 hat6
    obtain ⟨A6, c6, rfl⟩ := Kd.R_slice hR6
    have HS' := Aside0.mk (HS.out.app2 hg6 hR6)
    refine hK.out _ _ ⟨HS'.out.cells.2.1, HS'.out.cells.2.2.1, HS'.out.cells.2.2.2⟩ (fun hHeld => ?_)
    clear hR6 hg6 hat6 HS HBY
    have HS := Aside0.mk HS'.out
    clear HS'
    clear hK K
    refine norm_ (a' := ?_) ?_ ?_
    rotate_left
    ·show Act.put _ (some 34) _ = _
     simp only [Act.put, List.setIfInBounds_toArray, List.set_cons_zero, List.set_cons_succ, i64_w, i32_w]
     rfl
    have hj := hJ (BX, BY, A4, c4, A6, c6) _ HS.out
    refine norm_ ?_ hj
    first | rfl | (simp only [putAll, Act.put, List.setIfInBounds_toArray, List.set_cons_zero, List.set_cons_succ, i64_w, i32_w]; done) | (simp only [putAll, Act.put, List.setIfInBounds_toArray, List.set_cons_zero, List.set_cons_succ, i64_w, i32_w]; rfl) | (simp only [putAll, Act.put, List.setIfInBounds_toArray, List.set_cons_zero, List.set_cons_succ, i64_w, i32_w, List.length_append, List.length_cons, List.length_nil]; done) | (simp only [putAll, Act.put, List.setIfInBounds_toArray, List.set_cons_zero, List.set_cons_succ, i64_w, i32_w, List.length_append, List.length_cons, List.length_nil]; rfl)
   ·refine step_list rfl (by rfl) ?_
    unfold Oper.wp
    go_simp
    have HBb := Aside0.mk (below_alloc (Below.refl W3.heap.size W3) (.cells #[nilV] 27))
    have HBY := Aside0.mk (blk_new W3 (.cells #[nilV] 27))
    have HS' := Aside0.mk (HS.out.later HBb.out)
    have HBX' := Aside0.mk (blk_below HBX.out HBb.out)
    refine hK.out _ _ ⟨HS'.out.cells.2.1, HS'.out.cells.2.2.1, HS'.out.cells.2.2.2⟩ (fun hHeld => ?_)
    clear hK K HS HBb HBX
    have HS := Aside0.mk HS'.out
    clear HS'
    have HBX := Aside0.mk HBX'.out
    clear HBX'
    obtain ⟨BY, hBY⟩ : ∃ n, W3.heap.size = n := ⟨_, rfl⟩
    rw [hBY] at HBY ⊢
    clear hBY
    generalize W3.alloc (.cells #[nilV] 27) = W4 at *
    refine one_ (i := 9) (N := some 28) #[true, true, true, true, true, true, true, true, true, true, true, true, true, true, true, false, false, false, false, false, false, false] rfl rfl (one_of HT_.out (by kernel_rfl)) (by decide) (fun K hK => ?_)
    refine R_app_step (Kd.int .i64) (W := W4) w0.heap.size (by rfl) (.tmp 24) (.tmp 27) 27 3 i3 (.int .i64 0) 8 rfl Try.underlying27 hi3 hz3 hs3 hb3 rfl (by decide) (.slice AS st.sets.length cS) st.sets s [.int .i64 s] (fun _ => True) (fun _ => False) rfl ⟨BX, 0, none⟩ rfl (cell_one HBX.out) rfl (fun _ hk => hk.elim) (fun _ _ => trivial) HS.out.sets HS.out.bw.size (by have := HN.out; simp only [maxLen]; omega) (by have := HN.out; omega) ?_
    intro v4 W5 hR4 hg4 hat4
    obtain ⟨A4, c4, rfl⟩ := Kd.R_slice hR4
    have HBY' := Aside0.mk (blk_off HS.out.sets HBY.out (by decide) hg4)
    have HS' := Aside0.mk (HS.out.app1 hg4 hat4 hR4)
    refine hK.out _ _ ⟨HS'.out.cells.2.1, HS'.out.cells.2.2.1, HS'.out.cells.2.2.2⟩ (fun hHeld => ?_)
    clear hR4 hg4 hat4 HS HBX HBY
    have HS := Aside0.mk HS'.out
    clear HS'
    have HBY := Aside0.mk HBY'.out
    clear HBY'
    clear hK K
    refine norm_ (a' := ?_) ?_ ?_
    rotate_left
    ·show Act.put _ (some 28) _ = _
     simp only [Act.put, List.setIfInBounds_toArray, List.set_cons_zero, List.set_cons_succ, i64_w, i32_w]
     rfl
    refine one_ (i := 15) (N := some 34) #[true, true, true, true, true, true, true, true, true, true, true, true, true, true, true, true, false, false, false, false, false, false] rfl rfl (one_of HT_.out (by kernel_rfl)) (by decide) (fun K hK => ?_)
    refine R_app_step kL (W := W5) w0.heap.size (by rfl) (.tmp 32) (.tmp 33) 28 27 i27 (.slice none 0 0) 24 rfl Try.underlying28 hi27 hz27 hs27 hb27 rfl (by decide) (.slice AF st.fol.length cF) st.fol [] [nilV] (fun k => some k ≠ (.slice A4 (st.sets ++ [s]).length c4 : Value).ownBlock) (fun _ => False) rfl ⟨BY, 0, none⟩ rfl (cell_one HBY.out) ⟨_, rfl, Kd.R_nil _ _ _ _ _⟩ (fun _ hk => hk.elim) (fun k hk e => by have := Kd.R_lt HS.out.sets k e.symm; omega) HS.out.fol HS.out.bw.size (by have := HN.out; have := HFL.out; simp only [maxLen]; omega) (by have := HN.out; have := HFL.out; omega) ?_
    intro v6 W6 hR6 hg6 hat6
    obtain ⟨A6, c6, rfl⟩ := Kd.R_slice hR6
    have HS' := Aside0.mk (HS.out.app2 hg6 hR6)
    refine hK.out _ _ ⟨HS'.out.cells.2.1, HS'.out.cells.2.2.1, HS'.out.cells.2.2.2⟩ (fun hHeld => ?_)
    clear hR6 hg6 hat6 HS HBY
    have HS := Aside0.mk HS'.out
    clear HS'
    clear hK K
    refine norm_ (a' := ?_) ?_ ?_
    rotate_left
    ·show Act.put _ (some 34) _ = _
     simp only [Act.put, List.setIfInBounds_toArray, List.set_cons_zero, List.set_cons_succ, i64_w, i32_w]
     rfl
    have hj := hJ (BX, BY, A4, c4, A6, c6) _ HS.out
    refine norm_ ?_ hj
    first | rfl | (simp only [putAll, Act.put, List.setIfInBounds_toArray, List.set_cons_zero, List.set_cons_succ, i64_w, i32_w]; done) | (simp only [putAll, Act.put, List.setIfInBounds_toArray, List.set_cons_zero, List.set_cons_succ, i64_w, i32_w]; rfl) | (simp only [putAll, Act.put, List.setIfInBounds_toArray, List.set_cons_zero, List.set_cons_succ, i64_w, i32_w, List.length_append, List.length_cons, List.length_nil]; done) | (simp only [putAll, Act.put, List.setIfInBounds_toArray, List.set_cons_zero, List.set_cons_succ, i64_w, i32_w, List.length_append, List.length_cons, List.length_nil]; rfl)
  ·refine step_list rfl (by rfl) ?_
   unfold Oper.wp
   go_simp
   have HBb := Aside0.mk (below_alloc (Below.refl W2.heap.size W2) (.cells #[nilV] 27))
   have HBY := Aside0.mk (blk_new W2 (.cells #[nilV] 27))
   have HS' := Aside0.mk (HS.out.later HBb.out)
   refine hK.out _ _ ⟨HS'.out.cells.2.1, HS'.out.cells.2.2.1, HS'.out.cells.2.2.2⟩ (fun hHeld => ?_)
   clear hK K HS HBb
   have HS := Aside0.mk HS'.out
   clear HS'
   obtain ⟨BY, hBY⟩ : ∃ n, W2.heap.size = n := ⟨_, rfl⟩
   rw [hBY] at HBY ⊢
   clear hBY
   generalize W2.alloc (.cells #[nilV] 27) = W3 at *
   refine one_ (i := 8) (N := some 27) #[true, true, true, true, true, true, true, true, true, false, true, true, true, true, true, false, false, false, false, false, false, false] rfl rfl (one_of HT_.out (by kernel_rfl)) (by decide) (fun K hK => ?_)
   refine step_list rfl (by rfl) ?_
   unfold Oper.wp
   go_simp
   have HBb := Aside0.mk (below_alloc (Below.refl W3.heap.size W3) (.cells #[.int .i64 s] 3))
   have HBX := Aside0.mk (blk_new W3 (.cells #[.int .i64 s] 3))
   have HS' := Aside0.mk (HS.out.later HBb.out)
   have HBY' := Aside0.mk (blk_below HBY.out HBb.out)
   refine hK.out _ _ ⟨HS'.out.cells.2.1, HS'.out.cells.2.2.1, HS'.out.cells.2.2.2⟩ (fun hHeld => ?_)
   clear hK K HS HBb HBY
   have HS := Aside0.mk HS'.out
   clear HS'
   have HBY := Aside0.mk HBY'.out
   clear HBY'
   obtain ⟨BX, hBX⟩ : ∃ n, W3.heap.size = n := ⟨_, rfl⟩
   rw [hBX] at HBX ⊢
   clear hBX
   generalize W3.alloc (.cells #[.int .i64 s] 3) = W4 at *
   refine one_ (i := 9) (N := some 28) #[true, true, true, true, true, true, true, true, true, true, true, true, true, true, true, false, false, false, false, false, false, false] rfl rfl (one_of HT_.out (by kernel_rfl)) (by decide) (fun K hK => ?_)
   refine R_app_step (Kd.int .i64) (W := W4) w0.heap.size (by rfl) (.tmp 24) (.tmp 27) 27 3 i3 (.int .i64 0) 8 rfl Try.underlying27 hi3 hz3 hs3 hb3 rfl (by decide) (.slice AS st.sets.length cS) st.sets s [.int .i64 s] (fun _ => True) (fun _ => False) rfl ⟨BX, 0, none⟩ rfl (cell_one HBX.out) rfl (fun _ hk => hk.elim) (fun _ _ => trivial) HS.out.sets HS.out.bw.size (by have := HN.out; simp only [maxLen]; omega) (by have := HN.out; omega) ?_
   intro v4 W5 hR4 hg4 hat4
   obtain ⟨A4, c4, rfl⟩ := Kd.R_slice hR4
   have HBY' := Aside0.mk (blk_off HS.out.sets HBY.out (by decide) hg4)
   have HS' := Aside0.mk (HS.out.app1 hg4 hat4 hR4)
   refine hK.out _ _ ⟨HS'.out.cells.2.1, HS'.out.cells.2.2.1, HS'.out.cells.2.2.2⟩ (fun hHeld => ?_)
   clear hR4 hg4 hat4 HS HBX HBY
   have HS := Aside0.mk HS'.out
   clear HS'
   have HBY := Aside0.mk HBY'.out
   clear HBY'
   clear hK K
   refine norm_ (a' := ?_) ?_ ?_
   rotate_left
   ·show Act.put _ (some 28) _ = _
    simp only [Act.put, List.setIfInBounds_toArray, List.set_cons_zero, List.set_cons_succ, i64_w, i32_w]
    rfl
   refine one_ (i := 15) (N := some 34) #[true, true, true, true, true, true, true, true, true, true, true, true, true, true, true, true, false, false, false, false, false, false] rfl rfl (one_of HT_.out (by kernel_rfl)) (by decide) (fun K hK => ?_)
   refine R_app_step kL (W := W5) w0.heap.size (by rfl) (.tmp 32) (.tmp 33) 28 27 i27 (.slice none 0 0) 24 rfl Try.underlying28 hi27 hz27 hs27 hb27 rfl (by decide) (.slice AF st.fol.length cF) st.fol [] [nilV] (fun k => some k ≠ (.slice A4 (st.sets ++ [s]).length c4 : Value).ownBlock) (fun _ => False) rfl ⟨BY, 0, none⟩ rfl (cell_one HBY.out) ⟨_, rfl, Kd.R_nil _ _ _ _ _⟩ (fun _ hk => hk.elim) (fun k hk e => by have := Kd.R_lt HS.out.sets k e.symm; omega) HS.out.fol HS.out.bw.size (by have := HN.out; have := HFL.out; simp only [maxLen]; omega) (by have := HN.out; have := HFL.out; omega) ?_
   intro v6 W6 hR6 hg6 hat6
   obtain ⟨A6, c6, rfl⟩ := Kd.R_slice hR6
   have HS' := Aside0.mk (HS.out.app2 hg6 hR6)
   refine hK.out _ _ ⟨HS'.out.cells.2.1, HS'.out.cells.2.2.1, HS'.out.cells.2.2.2⟩ (fun hHeld => ?_)
   clear hR6 hg6 hat6 HS HBY
   have HS := Aside0.mk HS'.out
   clear HS'
   clear hK K
   refine norm_ (a' := ?_) ?_ ?_
   rotate_left
   ·show Act.put _ (some 34) _ = _
    simp only [Act.put, List.setIfInBounds_toArray, List.set_cons_zero, List.set_cons_succ, i64_w, i32_w]
    rfl
   have hj := hJ (BX, BY, A4, c4, A6, c6) _ HS.out
   refine norm_ ?_ hj
   first | rfl | (simp only [putAll, Act.put, List.setIfInBounds_toArray, List.set_cons_zero, List.set_cons_succ, i64_w, i32_w]; done) | (simp only [putAll, Act.put, List.setIfInBounds_toArray, List.set_cons_zero, List.set_cons_succ, i64_w, i32_w]; rfl) | (simp only [putAll, Act.put, List.setIfInBounds_toArray, List.set_cons_zero, List.set_cons_succ, i64_w, i32_w, List.length_append, List.length_cons, List.length_nil]; done) | (simp only [putAll, Act.put, List.setIfInBounds_toArray, List.set_cons_zero, List.set_cons_succ, i64_w, i32_w, List.length_append, List.length_cons, List.length_nil]; rfl)
 ·refine step_list rfl (by rfl) ?_
  unfold Oper.wp
  go_simp
  have HBb := Aside0.mk (below_alloc (Below.refl W2.heap.size W2) (.cells #[.int .i64 s] 3))
  have HBX := Aside0.mk (blk_new W2 (.cells #[.int .i64 s] 3))
  have HS' := Aside0.mk (HS.out.later HBb.out)
  refine hK.out _ _ ⟨HS'.out.cells.2.1, HS'.out.cells.2.2.1, HS'.out.cells.2.2.2⟩ (fun hHeld => ?_)
  clear hK K HS HBb
  have HS := Aside0.mk HS'.out
  clear HS'
  obtain ⟨BX, hBX⟩ : ∃ n, W2.heap.size = n := ⟨_, rfl⟩
  rw [hBX] at HBX ⊢
  clear hBX
  generalize W2.alloc (.cells #[.int .i64 s] 3) = W3 at *
  refine two_ (i := 5) (j := 14) (Ni := some 24) (Nj := some 33) #[true, true, true, true, true, true, true, true, true, false, true, true, true, true, false, false, false, false, false, false, false, false] #[true, true, true, true, true, false, true, true, true, false, true, true, true, true, true, false, false, false, false, false, false, false] rfl rfl rfl rfl (two_of HT_.out (by kernel_rfl)) (by decide) (by decide) (fun K hK => ?_) (fun K hK => ?_)
  ·have z1 := HS.out.cells.1
   refine step_list rfl (by rfl) ?_
   unfold Oper.wp
   go_simp
   refine hK.out _ _ ⟨HS.out.cells.2.1, HS.out.cells.2.2.1, HS.out.cells.2.2.2⟩ (fun hHeld => ?_)
   clear z1 hK K
   refine two_ (i := 9) (j := 14) (Ni := some 28) (Nj := some 33) #[true, true, true, true, true, true, true, true, true, true, true, true, true, true, false, false, false, false, false, false, false, false] #[true, true, true, true, true, true, true, true, true, false, true, true, true, true, true, false, false, false, false, false, false, false] rfl rfl rfl rfl (two_of HT_.out (by kernel_rfl)) (by decide) (by decide) (fun K hK => ?_) (fun K hK => ?_)
   ·refine R_app_step (Kd.int .i64) (W := W3) w0.heap.size (by rfl) (.tmp 24) (.tmp 27) 27 3 i3 (.int .i64 0) 8 rfl Try.underlying27 hi3 hz3 hs3 hb3 rfl (by decide) (.slice AS st.sets.length cS) st.sets s [.int .i64 s] (fun _ => True) (fun _ => False) rfl ⟨BX, 0, none⟩ rfl (cell_one HBX.out) rfl (fun _ hk => hk.elim) (fun _ _ => trivial) HS.out.sets HS.out.bw.size (by have := HN.out; simp only [maxLen]; omega) (by have := HN.out; omega) ?_
    intro v4 W4 hR4 hg4 hat4
    obtain ⟨A4, c4, rfl⟩ := Kd.R_slice hR4
    have HS' := Aside0.mk (HS.out.app1 hg4 hat4 hR4)
    refine hK.out _ _ ⟨HS'.out.cells.2.1, HS'.out.cells.2.2.1, HS'.out.cells.2.2.2⟩ (fun hHeld => ?_)
    clear hR4 hg4 hat4 HS HBX
    have HS := Aside0.mk HS'.out
    clear HS'
    clear hK K
    refine norm_ (a' := ?_) ?_ ?_
    rotate_left
    ·show Act.put _ (some 28) _ = _
     simp only [Act.put, List.setIfInBounds_toArray, List.set_cons_zero, List.set_cons_succ, i64_w, i32_w]
     rfl
    refine one_ (i := 14) (N := some 33) #[true, true, true, true, true, true, true, true, true, true, true, true, true, true, true, false, false, false, false, false, false, false] rfl rfl (one_of HT_.out (by kernel_rfl)) (by decide) (fun K hK => ?_)
    refine step_list rfl (by rfl) ?_
    unfold Oper.wp
    go_simp
    have HBb := Aside0.mk (below_alloc (Below.refl W4.heap.size W4) (.cells #[nilV] 27))
    have HBY := Aside0.mk (blk_new W4 (.cells #[nilV] 27))
    have HS' := Aside0.mk (HS.out.later HBb.out)
    refine hK.out _ _ ⟨HS'.out.cells.2.1, HS'.out.cells.2.2.1, HS'.out.cells.2.2.2⟩ (fun hHeld => ?_)
    clear hK K HS HBb
    have HS := Aside0.mk HS'.out
    clear HS'
    obtain ⟨BY, hBY⟩ : ∃ n, W4.heap.size = n := ⟨_, rfl⟩
    rw [hBY] at HBY ⊢
    clear hBY
    generalize W4.alloc (.cells #[nilV] 27) = W5 at *
    refine one_ (i := 15) (N := some 34) #[true, true, true, true, true, true, true, true, true, true, true, true, true, true, true, true, false, false, false, false, false, false] rfl rfl (one_of HT_.out (by kernel_rfl)) (by decide) (fun K hK => ?_)
    refine R_app_step kL (W := W5) w0.heap.size (by rfl) (.tmp 32) (.tmp 33) 28 27 i27 (.slice none 0 0) 24 rfl Try.underlying28 hi27 hz27 hs27 hb27 rfl (by decide) (.slice AF st.fol.length cF) st.fol [] [nilV] (fun k => some k ≠ (.slice A4 (st.sets ++ [s]).length c4 : Value).ownBlock) (fun _ => False) rfl ⟨BY, 0, none⟩ rfl (cell_one HBY.out) ⟨_, rfl, Kd.R_nil _ _ _ _ _⟩ (fun _ hk => hk.elim) (fun k hk e => by have := Kd.R_lt HS.out.sets k e.symm; omega) HS.out.fol HS.out.bw.size (by have := HN.out; have := HFL.out; simp only [maxLen]; omega) (by have := HN.out; have := HFL.out; omega) ?_
    intro v6 W6 hR6 hg6 hat6
    obtain ⟨A6, c6, rfl⟩ := Kd.R_slice hR6
    have HS' := Aside0.mk (HS.out.app2 hg6 hR6)
    refine hK.out _ _ ⟨HS'.out.cells.2.1, HS'.out.cells.2.2.1, HS'.out.cells.2.2.2⟩ (fun hHeld => ?_)
    clear hR6 hg6 hat6 HS HBY
    have HS := Aside0.mk HS'.out
    clear HS'
    clear hK K
    refine norm_ (a' := ?_) ?_ ?_
    rotate_left
    ·show Act.put _ (some 34) _ = _
     simp only [Act.put, List.setIfInBounds_toArray, List.set_cons_zero, List.set_cons_succ, i64_w, i32_w]
     rfl
    have hj := hJ (BX, BY, A4, c4, A6, c6) _ HS.out
    refine norm_ ?_ hj
    first | rfl | (simp only [putAll, Act.put, List.setIfInBounds_toArray, List.set_cons_zero, List.set_cons_succ, i64_w, i32_w]; done) | (simp only [putAll, Act.put, List.setIfInBounds_toArray, List.set_cons_zero, List.set_cons_succ, i64_w, i32_w]; rfl) | (simp only [putAll, Act.put, List.setIfInBounds_toArray, List.set_cons_zero, List.set_cons_succ, i64_w, i32_w, List.length_append, List.length_cons, List.length_nil]; done) | (simp only [putAll, Act.put, List.setIfInBounds_toArray, List.set_cons_zero, List.set_cons_succ, i64_w, i32_w, List.length_append, List.length_cons, List.length_nil]; rfl)
   ·refine step_list rfl (by rfl) ?_
    unfold Oper.wp
    go_simp
    have HBb := Aside0.mk (below_alloc (Below.refl W3.heap.size W3) (.cells #[nilV] 27))
    have HBY := Aside0.mk (blk_new W3 (.cells #[nilV] 27))
    have HS' := Aside0.mk (HS.out.later HBb.out)
    have HBX' := Aside0.mk (blk_below HBX.out HBb.out)
    refine hK.out _ _ ⟨HS'.out.cells.2.1, HS'.out.cells.2.2.1, HS'.out.cells.2.2.2⟩ (fun hHeld => ?_)
    clear hK K HS HBb HBX
    have HS := Aside0.mk HS'.out
    clear HS'
    have HBX := Aside0.mk HBX'.out
    clear HBX'
    obtain ⟨BY, hBY⟩ : ∃ n, W3.heap.size = n := ⟨_, rfl⟩
    rw [hBY] at HBY ⊢
    clear hBY
    generalize W3.alloc (.cells #[nilV] 27) = W4 at *
    refine one_ (i := 9) (N := some 28) #[true, true, true, true, true, true, true, true, true, true, true, true, true, true, true, false, false, false, false, false, false, false] rfl rfl (one_of HT_.out (by kernel_rfl)) (by decide) (fun K hK => ?_)
    refine R_app_step (Kd.int .i64) (W := W4) w0.heap.size (by rfl) (.tmp 24) (.tmp 27) 27 3 i3 (.int .i64 0) 8 rfl Try.underlying27 hi3 hz3 hs3 hb3 rfl (by decide) (.slice AS st.sets.length cS) st.sets s [.int .i64 s] (fun _ => True) (fun _ => False) rfl ⟨BX, 0, none⟩ rfl (cell_one HBX.out) rfl (fun _ hk => hk.elim) (fun _ _ => trivial) HS.out.sets HS.out.bw.size (by have := HN.out; simp only [maxLen]; omega) (by have := HN.out; omega) ?_
    intro v4 W5 hR4 hg4 hat4
    obtain ⟨A4, c4, rfl⟩ := Kd.R_slice hR4
    have HBY' := Aside0.mk (blk_off HS.out.sets HBY.out (by decide) hg4)
    have HS' := Aside0.mk (HS.out.app1 hg4 hat4 hR4)
    refine hK.out _ _ ⟨HS'.out.cells.2.1, HS'.out.cells.2.2.1, HS'.out.cells.2.2.2⟩ (fun hHeld => ?_)
    clear hR4 hg4 hat4 HS HBX HBY
    have HS := Aside0.mk HS'.out
    clear HS'
    have HBY := Aside0.mk HBY'.out
    clear HBY'
    clear hK K
    refine norm_ (a' := ?_) ?_ ?_
    rotate_left
    ·show Act.put _ (some 28) _ = _
     simp only [Act.put, List.setIfInBounds_toArray, List.set_cons_zero, List.set_cons_succ, i64_w, i32_w]
     rfl
    refine one_ (i := 15) (N := some 34) #[true, true, true, true, true, true, true, true, true, true, true, true, true, true, true, true, false, false, false, false, false, false] rfl rfl (one_of HT_.out (by kernel_rfl)) (by decide) (fun K hK => ?_)
    refine R_app_step kL (W := W5) w0.heap.size (by rfl) (.tmp 32) (.tmp 33) 28 27 i27 (.slice none 0 0) 24 rfl Try.underlying28 hi27 hz27 hs27 hb27 rfl (by decide) (.slice AF st.fol.length cF) st.fol [] [nilV] (fun k => some k ≠ (.slice A4 (st.sets ++ [s]).length c4 : Value).ownBlock) (fun _ => False) rfl ⟨BY, 0, none⟩ rfl (cell_one HBY.out) ⟨_, rfl, Kd.R_nil _ _ _ _ _⟩ (fun _ hk => hk.elim) (fun k hk e => by have := Kd.R_lt HS.out.sets k e.symm; omega) HS.out.fol HS.out.bw.size (by have := HN.out; have := HFL.out; simp only [maxLen]; omega) (by have := HN.out; have := HFL.out; omega) ?_
    intro v6 W6 hR6 hg6 hat6
    obtain ⟨A6, c6, rfl⟩ := Kd.R_slice hR6
    have HS' := Aside0.mk (HS.out.app2 hg6 hR6)
    refine hK.out _ _ ⟨HS'.out.cells.2.1, HS'.out.cells.2.2.1, HS'.out.cells.2.2.2⟩ (fun hHeld => ?_)
    clear hR6 hg6 hat6 HS HBY
    have HS := Aside0.mk HS'.out
    clear HS'
    clear hK K
    refine norm_ (a' := ?_) ?_ ?_
    rotate_left
    ·show Act.put _ (some 34) _ = _
     simp only [Act.put, List.setIfInBounds_toArray, List.set_cons_zero, List.set_cons_succ, i64_w, i32_w]
     rfl
    have hj := hJ (BX, BY, A4, c4, A6, c6) _ HS.out
    refine norm_ ?_ hj
    first | rfl | (simp only [putAll, Act.put, List.setIfInBounds_toArray, List.set_cons_zero, List.set_cons_succ, i64_w, i32_w]; done) | (simp only [putAll, Act.put, List.setIfInBounds_toArray, List.set_cons_zero, List.set_cons_succ, i64_w, i32_w]; rfl) | (simp only [putAll, Act.put, List.setIfInBounds_toArray, List.set_cons_zero, List.set_cons_succ, i64_w, i32_w, List.length_append, List.length_cons, List.length_nil]; done) | (simp only [putAll, Act.put, List.setIfInBounds_toArray, List.set_cons_zero, List.set_cons_succ, i64_w, i32_w, List.length_append, List.length_cons, List.length_nil]; rfl)
  ·refine step_list rfl (by rfl) ?_
   unfold Oper.wp
   go_simp
   have HBb := Aside0.mk (below_alloc (Below.refl W3.heap.size W3) (.cells #[nilV] 27))
   have HBY := Aside0.mk (blk_new W3 (.cells #[nilV] 27))
   have HS' := Aside0.mk (HS.out.later HBb.out)
   have HBX' := Aside0.mk (blk_below HBX.out HBb.out)
   refine hK.out _ _ ⟨HS'.out.cells.2.1, HS'.out.cells.2.2.1, HS'.out.cells.2.2.2⟩ (fun hHeld => ?_)
   clear hK K HS HBb HBX
   have HS := Aside0.mk HS'.out
   clear HS'
   have HBX := Aside0.mk HBX'.out
   clear HBX'
   obtain ⟨BY, hBY⟩ : ∃ n, W3.heap.size = n := ⟨_, rfl⟩
   rw [hBY] at HBY ⊢
   clear hBY
   generalize W3.alloc (.cells #[nilV] 27) = W4 at *
   refine one_ (i := 5) (N := some 24) #[true, true, true, true, true, true, true, true, true, false, true, true, true, true, true, false, false, false, false, false, false, false] rfl rfl (one_of HT_.out (by kernel_rfl)) (by decide) (fun K hK => ?_)
   have z1 := HS.out.cells.1
   refine step_list rfl (by rfl) ?_
   unfold Oper.wp
   go_simp
   refine hK.out _ _ ⟨HS.out.cells.2.1, HS.out.cells.2.2.1, HS.out.cells.2.2.2⟩ (fun hHeld => ?_)
   clear z1 hK K
   refine one_ (i := 9) (N := some 28) #[true, true, true, true, true, true, true, true, true, true, true, true, true, true, true, false, false, false, false, false, false, false] rfl rfl (one_of HT_.out (by kernel_rfl)) (by decide) (fun K hK => ?_)
   refine R_app_step (Kd.int .i64) (W := W4) w0.heap.size (by rfl) (.tmp 24) (.tmp 27) 27 3 i3 (.int .i64 0) 8 rfl Try.underlying27 hi3 hz3 hs3 hb3 rfl (by decide) (.slice AS st.sets.length cS) st.sets s [.int .i64 s] (fun _ => True) (fun _ => False) rfl ⟨BX, 0, none⟩ rfl (cell_one HBX.out) rfl (fun _ hk => hk.elim) (fun _ _ => trivial) HS.out.sets HS.out.bw.size (by have := HN.out; simp only [maxLen]; omega) (by have := HN.out; omega) ?_
   intro v4 W5 hR4 hg4 hat4
   obtain ⟨A4, c4, rfl⟩ := Kd.R_slice hR4
   have HBY' := Aside0.mk (blk_off HS.out.sets HBY.out (by decide) hg4)
   have HS' := Aside0.mk (HS.out.app1 hg4 hat4 hR4)
   refine hK.out _ _ ⟨HS'.out.cells.2.1, HS'.out.cells.2.2.1, HS'.out.cells.2.2.2⟩ (fun hHeld => ?_)
   clear hR4 hg4 hat4 HS HBX HBY
   have HS := Aside0.mk HS'.out
   clear HS'
   have HBY := Aside0.mk HBY'.out
   clear HBY'
   clear hK K
   refine norm_ (a' := ?_) ?_ ?_
   rotate_left
   ·show Act.put _ (some 28) _ = _
    simp only [Act.put, List.setIfInBounds_toArray, List.set_cons_zero, List.set_cons_succ, i64_w, i32_w]
    rfl
   refine one_ (i := 15) (N := some 34) #[true, true, true, true, true, true, true, true, true, true, true, true, true, true, true, true, false, false, false, false, false, false] rfl rfl (one_of HT_.out (by kernel_rfl)) (by decide) (fun K hK => ?_)
   refine R_app_step kL (W := W5) w0.heap.size (by rfl) (.tmp 32) (.tmp 33) 28 27 i27 (.slice none 0 0) 24 rfl Try.underlying28 hi27 hz27 hs27 hb27 rfl (by decide) (.slice AF st.fol.length cF) st.fol [] [nilV] (fun k => some k ≠ (.slice A4 (st.sets ++ [s]).length c4 : Value).ownBlock) (fun _ => False) rfl ⟨BY, 0, none⟩ rfl (cell_one HBY.out) ⟨_, rfl, Kd.R_nil _ _ _ _ _⟩ (fun _ hk => hk.elim) (fun k hk e => by have := Kd.R_lt HS.out.sets k e.symm; omega) HS.out.fol HS.out.bw.size (by have := HN.out; have := HFL.out; simp only [maxLen]; omega) (by have := HN.out; have := HFL.out; omega) ?_
   intro v6 W6 hR6 hg6 hat6
   obtain ⟨A6, c6, rfl⟩ := Kd.R_slice hR6
   have HS' := Aside0.mk (HS.out.app2 hg6 hR6)
   refine hK.out _ _ ⟨HS'.out.cells.2.1, HS'.out.cells.2.2.1, HS'.out.cells.2.2.2⟩ (fun hHeld => ?_)
   clear hR6 hg6 hat6 HS HBY
   have HS := Aside0.mk HS'.out
   clear HS'
   clear hK K
   refine norm_ (a' := ?_) ?_ ?_
   rotate_left
   ·show Act.put _ (some 34) _ = _
    simp only [Act.put, List.setIfInBounds_toArray, List.set_cons_zero, List.set_cons_succ, i64_w, i32_w]
    rfl
   have hj := hJ (BX, BY, A4, c4, A6, c6) _ HS.out
   refine norm_ ?_ hj
   first | rfl | (simp only [putAll, Act.put, List.setIfInBounds_toArray, List.set_cons_zero, List.set_cons_succ, i64_w, i32_w]; done) | (simp only [putAll, Act.put, List.setIfInBounds_toArray, List.set_cons_zero, List.set_cons_succ, i64_w, i32_w]; rfl) | (simp only [putAll, Act.put, List.setIfInBounds_toArray, List.set_cons_zero, List.set_cons_succ, i64_w, i32_w, List.length_append, List.length_cons, List.length_nil]; done) | (simp only [putAll, Act.put, List.setIfInBounds_toArray, List.set_cons_zero, List.set_cons_succ, i64_w, i32_w, List.length_append, List.length_cons, List.length_nil]; rfl)
 ·refine step_list rfl (by rfl) ?_
  unfold Oper.wp
  go_simp
  have HBb := Aside0.mk (below_alloc (Below.refl W2.heap.size W2) (.cells #[nilV] 27))
  have HBY := Aside0.mk (blk_new W2 (.cells #[nilV] 27))
  have HS' := Aside0.mk (HS.out.later HBb.out)
  refine hK.out _ _ ⟨HS'.out.cells.2.1, HS'.out.cells.2.2.1, HS'.out.cells.2.2.2⟩ (fun hHeld => ?_)
  clear hK K HS HBb
  have HS := Aside0.mk HS'.out
  clear HS'
  obtain ⟨BY, hBY⟩ : ∃ n, W2.heap.size = n := ⟨_, rfl⟩
  rw [hBY] at HBY ⊢
  clear hBY
  generalize W2.alloc (.cells #[nilV] 27) = W3 at *
  refine two_ (i := 5) (j := 8) (Ni := some 24) (Nj := some 27) #[true, true, true, true, true, true, true, true, false, false, true, true, true, true, true, false, false, false, false, false, false, false] #[true, true, true, true, true, false, true, true, true, false, true, true, true, true, true, false, false, false, false, false, false, false] rfl rfl rfl rfl (two_of HT_.out (by kernel_rfl)) (by decide) (by decide) (fun K hK => ?_) (fun K hK => ?_)
  ·have z1 := HS.out.cells.1
   refine step_list rfl (by rfl) ?_
   unfold Oper.wp
   go_simp
   refine hK.out _ _ ⟨HS.out.cells.2.1, HS.out.cells.2.2.1, HS.out.cells.2.2.2⟩ (fun hHeld => ?_)
   clear z1 hK K
   refine one_ (i := 8) (N := some 27) #[true, true, true, true, true, true, true, true, true, false, true, true, true, true, true, false, false, false, false, false, false, false] rfl rfl (one_of HT_.out (by kernel_rfl)) (by decide) (fun K hK => ?_)
   refine step_list rfl (by rfl) ?_
   unfold Oper.wp
   go_simp
   have HBb := Aside0.mk (below_alloc (Below.refl W3.heap.size W3) (.cells #[.int .i64 s] 3))
   have HBX := Aside0.mk (blk_new W3 (.cells #[.int .i64 s] 3))
   have HS' := Aside0.mk (HS.out.later HBb.out)
   have HBY' := Aside0.mk (blk_below HBY.out HBb.out)
   refine hK.out _ _ ⟨HS'.out.cells.2.1, HS'.out.cells.2.2.1, HS'.out.cells.2.2.2⟩ (fun hHeld => ?_)
   clear hK K HS HBb HBY
   have HS := Aside0.mk HS'.out
   clear HS'
   have HBY := Aside0.mk HBY'.out
   clear HBY'
   obtain ⟨BX, hBX⟩ : ∃ n, W3.heap.size = n := ⟨_, rfl⟩
   rw [hBX] at HBX ⊢
   clear hBX
   generalize W3.alloc (.cells #[.int .i64 s] 3) = W4 at *
   refine one_ (i := 9) (N := some 28) #[true, true, true, true, true, true, true, true, true, true, true, true, true, true, true, false, false, false, false, false, false, false] rfl rfl (one_of HT_.out (by kernel_rfl)) (by decide) (fun K hK => ?_)
   refine R_app_step (Kd.int .i64) (W := W4) w0.heap.size (by rfl) (.tmp 24) (.tmp 27) 27 3 i3 (.int .i64 0) 8 rfl Try.underlying27 hi3 hz3 hs3 hb3 rfl (by decide) (.slice AS st.sets.length cS) st.sets s [.int .i64 s] (fun _ => True) (fun _ => False) rfl ⟨BX, 0, none⟩ rfl (cell_one HBX.out) rfl (fun _ hk => hk.elim) (fun _ _ => trivial) HS.out.sets HS.out.bw.size (by have := HN.out; simp only [maxLen]; omega) (by have := HN.out; omega) ?_
   intro v4 W5 hR4 hg4 hat4
   obtain ⟨A4, c4, rfl⟩ := Kd.R_slice hR4
   have HBY' := Aside0.mk (blk_off HS.out.sets HBY.out (by decide) hg4)
   have HS' := Aside0.mk (HS.out.app1 hg4 hat4 hR4)
   refine hK.out _ _ ⟨HS'.out.cells.2.1, HS'.out.cells.2.2.1, HS'.out.cells.2.2.2⟩ (fun hHeld => ?_)
   clear hR4 hg4 hat4 HS HBX HBY
   have HS := Aside0.mk HS'.out
   clear HS'
   have HBY := Aside0.mk HBY'.out
   clear HBY'
   clear hK K
   refine norm_ (a' := ?_) ?_ ?_
   rotate_left
   ·show Act.put _ (some 28) _ = _
    simp only [Act.put, List.setIfInBounds_toArray, List.set_cons_zero, List.set_cons_succ, i64_w, i32_w]
    rfl
   refine one_ (i := 15) (N := some 34) #[true, true, true, true, true, true, true, true, true, true, true, true, true, true, true, true, false, false, false, false, false, false] rfl rfl (one_of HT_.out (by kernel_rfl)) (by decide) (fun K hK => ?_)
   refine R_app_step kL (W := W5) w0.heap.size (by rfl) (.tmp 32) (.tmp 33) 28 27 i27 (.slice none 0 0) 24 rfl Try.underlying28 hi27 hz27 hs27 hb27 rfl (by decide) (.slice AF st.fol.length cF) st.fol [] [nilV] (fun k => some k ≠ (.slice A4 (st.sets ++ [s]).length c4 : Value).ownBlock) (fun _ => False) rfl ⟨BY, 0, none⟩ rfl (cell_one HBY.out) ⟨_, rfl, Kd.R_nil _ _ _ _ _⟩ (fun _ hk => hk.elim) (fun k hk e => by have := Kd.R_lt HS.out.sets k e.symm; omega) HS.out.fol HS.out.bw.size (by have := HN.out; have := HFL.out; simp only [maxLen]; omega) (by have := HN.out; have := HFL.out; omega) ?_
   intro v6 W6 hR6 hg6 hat6
   obtain ⟨A6, c6, rfl⟩ := Kd.R_slice hR6
   have HS' := Aside0.mk (HS.out.app2 hg6 hR6)
   refine hK.out _ _ ⟨HS'.out.cells.2.1, HS'.out.cells.2.2.1, HS'.out.cells.2.2.2⟩ (fun hHeld => ?_)
   clear hR6 hg6 hat6 HS HBY
   have HS := Aside0.mk HS'.out
   clear HS'
   clear hK K
   refine norm_ (a' := ?_) ?_ ?_
   rotate_left
   ·show Act.put _ (some 34) _ = _
    simp only [Act.put, List.setIfInBounds_toArray, List.set_cons_zero, List.set_cons_succ, i64_w, i32_w]
    rfl
   have hj := hJ (BX, BY, A4, c4, A6, c6) _ HS.out
   refine norm_ ?_ hj
   first | rfl | (simp only [putAll, Act.put, List.setIfInBounds_toArray, List.set_cons_zero, List.set_cons_succ, i64_w, i32_w]; done) | (simp only [putAll, Act.put, List.setIfInBounds_toArray, List.set_cons_zero, List.set_cons_succ, i64_w, i32_w]; rfl) | (simp only [putAll, Act.put, List.setIfInBounds_toArray, List.set_cons_zero, List.set_cons_succ, i64_w, i32_w, List.length_append, List.length_cons, List.length_nil]; done) | (simp only [putAll, Act.put, List.setIfInBounds_toArray, List.set_cons_zero, List.set_cons_succ, i64_w, i32_w, List.length_append, List.length_cons, List.length_nil]; rfl)
  ·refine step_list rfl (by rfl) ?_
   unfold Oper.wp
   go_simp
   have HBb := Aside0.mk (below_alloc (Below.refl W3.heap.size W3) (.cells #[.int .i64 s] 3))
   have HBX := Aside0.mk (blk_new W3 (.cells #[.int .i64 s] 3))
   have HS' := Aside0.mk (HS.out.later HBb.out)
   have HBY' := Aside0.mk (blk_below HBY.out HBb.out)
   refine hK.out _ _ ⟨HS'.out.cells.2.1, HS'.out.cells.2.2.1, HS'.out.cells.2.2.2⟩ (fun hHeld => ?_)
   clear hK K HS HBb HBY
   have HS := Aside0.mk HS'.out
   clear HS'
   have HBY := Aside0.mk HBY'.out
   clear HBY'
   obtain ⟨BX, hBX⟩ : ∃ n, W3.heap.size = n := ⟨_, rfl⟩
   rw [hBX] at HBX ⊢
   clear hBX
   generalize W3.alloc (.cells #[.int .i64 s] 3) = W4 at *
   refine one_ (i := 5) (N := some 24) #[true, true, true, true, true, true, true, true, true, false, true, true, true, true, true, false, false, false, false, false, false, false] rfl rfl (one_of HT_.out (by kernel_rfl)) (by decide) (fun K hK => ?_)
   have z1 := HS.out.cells.1
   refine step_list rfl (by rfl) ?_
   unfold Oper.wp
   go_simp
   refine hK.out _ _ ⟨HS.out.cells.2.1, HS.out.cells.2.2.1, HS.out.cells.2.2.2⟩ (fun hHeld => ?_)
   clear z1 hK K
   refine one_ (i := 9) (N := some 28) #[true, true, true, true, true, true, true, true, true, true, true, true, true, true, true, false, false, false, false, false, false, false] rfl rfl (one_of HT_.out (by kernel_rfl)) (by decide) (fun K hK => ?_)
   refine R_app_step (Kd.int .i64) (W := W4) w0.heap.size (by rfl) (.tmp 24) (.tmp 27) 27 3 i3 (.int .i64 0) 8 rfl Try.underlying27 hi3 hz3 hs3 hb3 rfl (by decide) (.slice AS st.sets.length cS) st.sets s [.int .i64 s] (fun _ => True) (fun _ => False) rfl ⟨BX, 0, none⟩ rfl (cell_one HBX.out) rfl (fun _ hk => hk.elim) (fun _ _ => trivial) HS.out.sets HS.out.bw.size (by have := HN.out; simp only [maxLen]; omega) (by have := HN.out; omega) ?_
   intro v4 W5 hR4 hg4 hat4
   obtain ⟨A4, c4, rfl⟩ := Kd.R_slice hR4
   have HBY' := Aside0.mk (blk_off HS.out.sets HBY.out (by decide) hg4)
   have HS' := Aside0.mk (HS.out.app1 hg4 hat4 hR4)
   refine hK.out _ _ ⟨HS'.out.cells.2.1, HS'.out.cells.2.2.1, HS'.out.cells.2.2.2⟩ (fun hHeld => ?_)
   clear hR4 hg4 hat4 HS HBX HBY
   have HS := Aside0.mk HS'.out
   clear HS'
   have HBY := Aside0.mk HBY'.out
   clear HBY'
   clear hK K
   refine norm_ (a' := ?_) ?_ ?_
   rotate_left
   ·show Act.put _ (some 28) _ = _
    simp only [Act.put, List.setIfInBounds_toArray, List.set_cons_zero, List.set_cons_succ, i64_w, i32_w]
    rfl
   refine one_ (i := 15) (N := some 34) #[true, true, true, true, true, true, true, true, true, true, true, true, true, true, true, true, false, false, false, false, false, false] rfl rfl (one_of HT_.out (by kernel_rfl)) (by decide) (fun K hK => ?_)
   refine R_app_step kL (W := W5) w0.heap.size (by rfl) (.tmp 32) (.tmp 33) 28 27 i27 (.slice none 0 0) 24 rfl Try.underlying28 hi27 hz27 hs27 hb27 rfl (by decide) (.slice AF st.fol.length cF) st.fol [] [nilV] (fun k => some k ≠ (.slice A4 (st.sets ++ [s]).length c4 : Value).ownBlock) (fun _ => False) rfl ⟨BY, 0, none⟩ rfl (cell_one HBY.out) ⟨_, rfl, Kd.R_nil _ _ _ _ _⟩ (fun _ hk => hk.elim) (fun k hk e => by have := Kd.R_lt HS.out.sets k e.symm; omega) HS.out.fol HS.out.bw.size (by have := HN.out; have := HFL.out; simp only [maxLen]; omega) (by have := HN.out; have := HFL.out; omega) ?_
   intro v6 W6 hR6 hg6 hat6
   obtain ⟨A6, c6, rfl⟩ := Kd.R_slice hR6
   have HS' := Aside0.mk (HS.out.app2 hg6 hR6)
   refine hK.out _ _ ⟨HS'.out.cells.2.1, HS'.out.cells.2.2.1, HS'.out.cells.2.2.2⟩ (fun hHeld => ?_)
   clear hR6 hg6 hat6 HS HBY
   have HS := Aside0.mk HS'.out
   clear HS'
   clear hK K
   refine norm_ (a' := ?_) ?_ ?_
   rotate_left
   ·show Act.put _ (some 34) _ = _
    simp only [Act.put, List.setIfInBounds_toArray, List.set_cons_zero, List.set_cons_succ, i64_w, i32_w]
    rfl
   have hj := hJ (BX, BY, A4, c4, A6, c6) _ HS.out
   refine norm_ ?_ hj
   first | rfl | (simp only [putAll, Act.put, List.setIfInBounds_toArray, List.set_cons_zero, List.set_cons_succ, i64_w, i32_w]; done) | (simp only [putAll, Act.put, List.setIfInBounds_toArray, List.set_cons_zero, List.set_cons_succ, i64_w, i32_w]; rfl) | (simp only [putAll, Act.put, List.setIfInBounds_toArray, List.set_cons_zero, List.set_cons_succ, i64_w, i32_w, List.length_append, List.length_cons, List.length_nil]; done) | (simp only [putAll, Act.put, List.setIfInBounds_toArray, List.set_cons_zero, List.set_cons_succ, i64_w, i32_w, List.length_append, List.length_cons, List.length_nil]; rfl)
end F
end Go.Proofs.Ytemlgmkbonpniaa.Print
