/- What follow.built has in memory. -/
import Derived.Test.YtemlgmkbonpniaaRBuild
import Derived.Test.YtemlgmkbonpniaaRPlaces
namespace Go.Proofs.Ytemlgmkbonpniaa.Print
open Go.RowKit Go.Maps Go.Proofs.YtemlgmkbonpniaaW.PrintWords Go.Proofs.YtemlgmkbonpniaaW.PrintLast Go.Proofs.YtemlgmkbonpniaaW.PrintMore
set_option linter.unusedVariables false
set_option linter.unusedSimpArgs false
namespace F
structure Mk (b0 MB : Nat) (sets : List Int) (fol : List (List Int)) (vS vF : Value) (W : World) : Prop where
 blk : W.heap[MB]? = some (.cells #[.bool false, vS, nilV, nilV, vF] 30 (0, 0))
 sets : Kd.R (Kd.int .i64) 3 W b0 (fun _ => True) vS sets
 fol : Kd.R kL 27 W b0 (fun k => some k ≠ vS.ownBlock) vF fol
 hM : b0 ≤ MB
/-- What a call of the maker's turns. -/
structure Tn (b0 : Nat) (vS vS' : Value) (W W' : World) : Prop where
 below : Below b0 W W'
 rows : ∀ v xs, RowI b0 vS W v xs → RowI b0 vS' W' v xs
 blk : ∀ (k : Nat) (cs : Array Value) (t : Nat), W.heap[k]? = some (.cells cs t (0, 0)) → t ≠ 3 → t ≠ 27 → t ≠ 30 → W'.heap[k]? = W.heap[k]?
section
variable {b0 MB g : Nat} {sets : List Int} {fol : List (List Int)} {vS vS' vS2 vF v : Value} {W W' W2 : World} {xs : List Int}
theorem Tn.refl (b0 : Nat) (vS : Value) (W : World) : Tn b0 vS vS W W := ⟨Below.refl _ _, fun _ _ h => h, fun _ _ _ _ _ _ _ => rfl⟩
theorem Tn.trans (h : Tn b0 vS vS' W W') (k : Tn b0 vS' vS2 W' W2) : Tn b0 vS vS2 W W2 :=
 ⟨h.below.trans k.below, fun v xs hr => k.rows v xs (h.rows v xs hr), fun j cs t hj h1 h2 h3 => (k.blk j cs t ((h.blk j cs t hj h1 h2 h3).trans hj) h1 h2 h3).trans (h.blk j cs t hj h1 h2 h3)⟩
theorem Tn.later (hb : Below W.heap.size W W') (h0 : b0 ≤ W.heap.size) : Tn b0 vS vS W W' :=
 ⟨hb.mono h0, fun _ _ h => Kd.R_below h hb, fun k cs t hk _ _ _ => hb.block k (blk_lt hk)⟩
theorem Mk.later (h : Mk b0 MB sets fol vS vF W) (hb : Below W.heap.size W W') : Mk b0 MB sets fol vS vF W' := ⟨blk_below h.blk hb, Kd.R_below h.sets hb, Kd.R_below h.fol hb, h.hM⟩
theorem Mk.cells (h : Mk b0 MB sets fol vS vF W) : W.cell? ⟨MB, 1, none⟩ = some vS ∧ W.cell? ⟨MB, 4, none⟩ = some vF := ⟨(blk_cell h.blk 1).trans rfl, (blk_cell h.blk 4).trans rfl⟩
end
theorem Mk.put {b0 MB g n cap j : Nat} {sets : List Int} {fol : List (List Int)} {vS v : Value} {W : World} {cells : Array Value} {x : List Int} (h : Mk b0 MB sets fol vS (.slice (some ⟨g, 0, none⟩) n cap) W) (hg : W.heap[g]? = some (.cells cells 27 (0, 0))) (hgb : b0 ≤ g) (hj : j < fol.length) (hx : RowI b0 vS W v x) :
  Mk b0 MB sets (fol.set j x) vS (.slice (some ⟨g, 0, none⟩) n cap) (W.setCell ⟨g, j, none⟩ v) ∧ Tn b0 vS vS W (W.setCell ⟨g, j, none⟩ v) := by
 have hgr := grownBy_set W g j v
 have e27 : ∀ (d : Kd Int), d.E = [] → ∀ q, q ∈ 3 :: d.E → q ≠ 27 := fun d hd q hq => by rw [hd] at hq; simp at hq; omega
 refine ⟨⟨blk_grown h.blk hgr (fun e => ?_), Kd.R_set h.sets hg (e27 _ rfl) j v, R_seti h.fol hj hx, h.hM⟩, ⟨⟨rfl, rfl, rfl, by simp, fun k hk => Below.heap_setCell _ _ _ k (by show k ≠ g; omega)⟩, fun u xs hu => Kd.R_set hu hg (e27 _ rfl) j v, fun k cs t hk h1 h2 h3 => Below.heap_setCell _ _ _ k (fun e => ?_)⟩⟩
 ·injection e with e
  subst e
  have := h.blk
  rw [hg] at this
  cases this
 ·replace e : k = g := e
  subst e
  rw [hg] at hk
  cases hk
  exact h2 rfl
theorem came_rowI {b0 MB : Nat} {sets : List Int} {fol : List (List Int)} {vS vF : Value} {W W' : World} {A A' : Option Addr} {c c' : Nat} {l l' : List Int} (h : Came W W' A c l A' c' l') (hR : RowI b0 vS W (.slice A l.length c) l) (hm : Mk b0 MB sets fol vS vF W) (hb : Below W.heap.size W W') (h0 : b0 ≤ W.heap.size) : RowI b0 vS W' (.slice A' l'.length c') l' := by
 rcases h with ⟨rfl, rfl, rfl⟩ | h
 ·exact Kd.R_below hR hb
 ·exact Kd.R_mono (Kd.R_lower (Kd.R_bound h) h0) (fun k hk e => by have := Kd.R_lt hm.sets k e.symm; have := hk.2.1; omega)
section
variable {W W1 : World} {b0 MB : Nat} {sets sets' : List Int} {fol fol' : List (List Int)} {vS vF v1 : Value}
/-- The sets have grown. -/
theorem Mk.newSets (h : Mk b0 MB sets fol vS vF W) (hg : W.grownBy W1 vS.ownBlock) (hat : v1.ownBlock = vS.ownBlock ∨ ∃ b, v1.ownBlock = some b ∧ W.heap.size ≤ b) (hR : Kd.R (Kd.int .i64) 3 W1 b0 (fun _ => True) v1 sets') (h0 : b0 ≤ W.heap.size) :
  Mk b0 MB sets' fol v1 vF (W1.setCell ⟨MB, 1, none⟩ v1) ∧ Tn b0 vS v1 W (W1.setCell ⟨MB, 1, none⟩ v1) := by
 have hb1 := blk_grown h.blk hg (Kd.R_ne h.sets h.blk (by decide))
 have hM := h.hM
 have hrow : ∀ v xs, RowI b0 vS W v xs → RowI b0 v1 W1 v xs := fun v xs hr =>
  Kd.R_mono (Kd.R_after (ok := fun _ => True) (Kd.R_mono hr (fun k hk => ⟨trivial, hk⟩)) hg hat) (fun k hk => hk.2)
 refine ⟨⟨blk_put hb1 1 v1 rfl, Kd.R_set hR hb1 (fun q hq => by simp [Kd.int, Kd.scalar] at hq; omega) 1 v1, ?_, hM⟩, ⟨?_, fun v xs hr => RowI.far (hrow v xs hr) hb1 (by decide) 1 v1, fun k cs t hk h3 _ h30 => ?_⟩⟩
 ·refine Kd.R_set ?_ hb1 (fun q hq => by simp [kL, Kd.slice, Kd.int, Kd.scalar] at hq; omega) 1 v1
  exact Kd.R_mono (Kd.R_after (ok := fun _ => True) (Kd.R_mono h.fol (fun k hk => ⟨trivial, hk⟩)) hg hat) (fun k hk => hk.2)
 ·exact (Below.grown (Below.refl b0 W) hg h0 (fun k hk => Kd.R_base h.sets k hk)).trans ⟨rfl, rfl, rfl, by simp, fun j hj => Below.heap_setCell _ _ _ j (by show j ≠ MB; omega)⟩
 ·refine (Below.heap_setCell _ _ _ k (fun e => ?_)).trans (hg.block k (blk_lt hk) (fun e => ?_))
  ·replace e : k = MB := e
   subst e
   rw [h.blk] at hk
   cases hk
   exact h30 rfl
  ·obtain ⟨cs', hc⟩ := Kd.R_typed h.sets k e.symm
   rw [hk] at hc
   cases hc
   exact h3 rfl
/-- What follows has grown. -/
theorem Mk.newFol (h : Mk b0 MB sets fol vS vF W) (hg : W.grownBy W1 vF.ownBlock) (hR : Kd.R kL 27 W1 b0 (fun k => some k ≠ vS.ownBlock) v1 fol') (h0 : b0 ≤ W.heap.size) :
  Mk b0 MB sets fol' vS v1 (W1.setCell ⟨MB, 4, none⟩ v1) ∧ Tn b0 vS vS W (W1.setCell ⟨MB, 4, none⟩ v1) := by
 have hb1 := blk_grown h.blk hg (Kd.R_ne h.fol h.blk (by decide))
 have hM := h.hM
 have hrow : ∀ (ok : Nat → Prop) v xs, Kd.R (Kd.int .i64) 3 W b0 ok v xs → Kd.R (Kd.int .i64) 3 W1 b0 ok v xs := fun ok v xs hr =>
  Kd.R_mono (Kd.R_step (Kd.R_bound hr) (fun k hk hlt => hg.block k hlt (fun e => by
   obtain ⟨_, _, _, q, hq, cs, hc⟩ := hk
   obtain ⟨cs', hc'⟩ := Kd.R_typed h.fol k e.symm
   have hq3 : q = 3 := by simpa [Kd.int, Kd.scalar] using hq
   rw [hc] at hc'
   cases hc'
   omega))) (fun k hk => hk.1)
 refine ⟨⟨blk_put hb1 4 v1 rfl, Kd.R_set (hrow _ _ _ h.sets) hb1 (fun q hq => by simp [Kd.int, Kd.scalar] at hq; omega) 4 v1, Kd.R_set hR hb1 (fun q hq => by simp [kL, Kd.slice, Kd.int, Kd.scalar] at hq; omega) 4 v1, hM⟩, ⟨?_, fun v xs hr => RowI.far (hrow _ v xs hr) hb1 (by decide) 4 v1, fun k cs t hk _ h27 h30 => ?_⟩⟩
 ·exact (Below.grown (Below.refl b0 W) hg h0 (fun k hk => Kd.R_base h.fol k hk)).trans ⟨rfl, rfl, rfl, by simp, fun j hj => Below.heap_setCell _ _ _ j (by show j ≠ MB; omega)⟩
 ·refine (Below.heap_setCell _ _ _ k (fun e => ?_)).trans (hg.block k (blk_lt hk) (fun e => ?_))
  ·replace e : k = MB := e
   subst e
   rw [h.blk] at hk
   cases hk
   exact h30 rfl
  ·obtain ⟨cs', hc⟩ := Kd.R_typed h.fol k e.symm
   rw [hk] at hc
   cases hc
   exact h27 rfl
end
/-- What a part's call leaves behind. -/
def NodePost (b0 MB : Nat) (vS : Value) (W : World) (r : St × Ed) (e : Ending) (W' : World) : Prop :=
 ∃ vS' vF' v1 v2, e = .returned (.agg #[.bool r.2.null, v1, v2]) ∧ Mk b0 MB r.1.sets r.1.fol vS' vF' W' ∧ RowI b0 vS' W' v1 r.2.first ∧ RowI b0 vS' W' v2 r.2.last ∧ Tn b0 vS vS' W W'
def NodeOK (w0 : World) (MB : Nat) (x : S24) : Prop := ∀ (st : St) (vS vF : Value) (W : World) (A : Option Addr) (c : Nat), Fit st → st.sets.length + cnt x ≤ 300 → Mk w0.heap.size MB st.sets st.fol vS vF W → Below w0.heap.size w0 W → Kd.C k24 w0 A x.f2.length x.f2 → x.f2.length ≤ c →
 Calls Try.prog 48 #[.pointer (some ⟨MB, 0, none⟩), .agg #[.int .i64 x.f0, .int .i64 x.f1, .slice A x.f2.length c]] W (NodePost w0.heap.size MB vS W (nodeR x st))
/-- A variable of kind edge. -/
def Edge (W : World) (g : Nat) (b : Bool) (v1 v2 : Value) : Prop := W.heap[g]? = some (.cells #[.bool b, v1, v2] 69 (0, 0))
section
variable {W W' : World} {g : Nat} {b : Bool} {v1 v2 : Value}
theorem Edge.cells (h : Edge W g b v1 v2) : W.cell? ⟨g, 0, none⟩ = some (.bool b) ∧ W.cell? ⟨g, 1, none⟩ = some v1 ∧ W.cell? ⟨g, 2, none⟩ = some v2 := ⟨(blk_cell h 0).trans rfl, (blk_cell h 1).trans rfl, (blk_cell h 2).trans rfl⟩
theorem Edge.frozen (h : Edge W g b v1 v2) (i : Nat) : W.frozen? ⟨g, i, none⟩ = false := blk_frozen h i
theorem Edge.turn {b0 : Nat} {vS vS' : Value} (h : Edge W g b v1 v2) (t : Tn b0 vS vS' W W') : Edge W' g b v1 v2 := (t.blk g _ 69 h (by decide) (by decide) (by decide)).trans h
theorem Edge.later (h : Edge W g b v1 v2) (hb : Below W.heap.size W W') : Edge W' g b v1 v2 := blk_below h hb
/-- A block of kind t is written: it is none of the maker's, none of its rows. -/
theorem Mk.far {b0 MB k t : Nat} {sets : List Int} {fol : List (List Int)} {vS vF : Value} {cs : Array Value} (h : Mk b0 MB sets fol vS vF W) (hk : W.heap[k]? = some (.cells cs t (0, 0))) (h3 : t ≠ 3) (h27 : t ≠ 27) (h30 : t ≠ 30) (i : Nat) (u : Value) : Mk b0 MB sets fol vS vF (W.setCell ⟨k, i, none⟩ u) :=
 ⟨blk_grown h.blk (grownBy_set W k i u) (fun e => by
   injection e with e
   subst e
   have := h.blk
   rw [hk] at this
   cases this
   exact h30 rfl), Kd.R_set h.sets hk (fun q hq => by simp [Kd.int, Kd.scalar] at hq; omega) i u, Kd.R_set h.fol hk (fun q hq => by simp [kL, Kd.slice, Kd.int, Kd.scalar] at hq; omega) i u, h.hM⟩
theorem RowI.far {b0 k t : Nat} {vS v : Value} {xs : List Int} {cs : Array Value} (h : RowI b0 vS W v xs) (hk : W.heap[k]? = some (.cells cs t (0, 0))) (h3 : t ≠ 3) (i : Nat) (u : Value) : RowI b0 vS (W.setCell ⟨k, i, none⟩ u) v xs :=
 Kd.R_set h hk (fun q hq => by simp [Kd.int, Kd.scalar] at hq; omega) i u
theorem Edge.far {k : Nat} (h : Edge W g b v1 v2) (hk : k ≠ g) (i : Nat) (u : Value) : Edge (W.setCell ⟨k, i, none⟩ u) g b v1 v2 := (Below.heap_setCell W ⟨k, i, none⟩ u g (fun e => hk e.symm)).trans h
end
structure CatS (w0 : World) (MB OB RB : Nat) (vS0 : Value) (W : World) (st : St) (vS vF : Value) (o : Ed) (v1 v2 : Value) (W' : World) : Prop where
 mm : Mk w0.heap.size MB st.sets st.fol vS vF W'
 f1 : RowI w0.heap.size vS W' v1 o.first
 f2 : RowI w0.heap.size vS W' v2 o.last
 tn : Tn w0.heap.size vS0 vS W W'
 eo : Edge W' OB o.null v1 v2
 er : Edge W' RB false nilV nilV
 bw : Below w0.heap.size w0 W'
 ne : OB ≠ RB
 ob : W.heap.size ≤ OB
 rb : W.heap.size ≤ RB
 ow : w0.heap.size ≤ W.heap.size
structure CatI (w0 : World) (MB OB RB XB : Nat) (vS0 : Value) (W : World) (st : St) (vS vF : Value) (o : Ed) (v1 v2 : Value) (x : Ed) (u1 u2 : Value) (W' : World) : Prop where
 s : CatS w0 MB OB RB vS0 W st vS vF o v1 v2 W'
 g1 : RowI w0.heap.size vS W' u1 x.first
 g2 : RowI w0.heap.size vS W' u2 x.last
 ex : Edge W' XB x.null u1 u2
 nx : OB ≠ XB
section
variable {w0 W W' W2 : World} {MB OB RB XB : Nat} {vS0 vS vF vS' vF' v1 v2 u1 u2 v : Value} {st st' : St} {o x : Ed} {l : List Int} {b : Bool}
theorem CatS.later (h : CatS w0 MB OB RB vS0 W st vS vF o v1 v2 W') (hb : Below W'.heap.size W' W2) : CatS w0 MB OB RB vS0 W st vS vF o v1 v2 W2 :=
 ⟨h.mm.later hb, Kd.R_below h.f1 hb, Kd.R_below h.f2 hb, h.tn.trans (Tn.later hb h.bw.size), h.eo.later hb, h.er.later hb, h.bw.trans (hb.mono h.bw.size), h.ne, h.ob, h.rb, h.ow⟩
theorem CatS.turn (h : CatS w0 MB OB RB vS0 W st vS vF o v1 v2 W') (hm : Mk w0.heap.size MB st'.sets st'.fol vS' vF' W2) (ht : Tn w0.heap.size vS vS' W' W2) : CatS w0 MB OB RB vS0 W st' vS' vF' o v1 v2 W2 :=
 ⟨hm, ht.rows _ _ h.f1, ht.rows _ _ h.f2, h.tn.trans ht, h.eo.turn ht, h.er.turn ht, h.bw.trans ht.below, h.ne, h.ob, h.rb, h.ow⟩
theorem CatI.later (h : CatI w0 MB OB RB XB vS0 W st vS vF o v1 v2 x u1 u2 W') (hb : Below W'.heap.size W' W2) : CatI w0 MB OB RB XB vS0 W st vS vF o v1 v2 x u1 u2 W2 :=
 ⟨h.s.later hb, Kd.R_below h.g1 hb, Kd.R_below h.g2 hb, h.ex.later hb, h.nx⟩
theorem CatI.turn (h : CatI w0 MB OB RB XB vS0 W st vS vF o v1 v2 x u1 u2 W') (hm : Mk w0.heap.size MB st'.sets st'.fol vS' vF' W2) (ht : Tn w0.heap.size vS vS' W' W2) : CatI w0 MB OB RB XB vS0 W st' vS' vF' o v1 v2 x u1 u2 W2 :=
 ⟨h.s.turn hm ht, ht.rows _ _ h.g1, ht.rows _ _ h.g2, h.ex.turn ht, h.nx⟩
theorem CatI.set (h : CatI w0 MB OB RB XB vS0 W st vS vF o v1 v2 x u1 u2 W') (i : Nat) (u : Value) (o' : Ed) (v1' v2' : Value) (e : (#[.bool o.null, v1, v2] : Array Value).setIfInBounds i u = #[.bool o'.null, v1', v2'])
  (h1 : RowI w0.heap.size vS W' v1' o'.first) (h2 : RowI w0.heap.size vS W' v2' o'.last) : CatI w0 MB OB RB XB vS0 W st vS vF o' v1' v2' x u1 u2 (W'.setCell ⟨OB, i, none⟩ u) := by
 have hk := h.s.eo
 have hob := h.s.ob
 have how := h.s.ow
 unfold Edge at hk
 refine ⟨⟨h.s.mm.far hk (by decide) (by decide) (by decide) i u, RowI.far h1 hk (by decide) i u, RowI.far h2 hk (by decide) i u, ⟨h.s.tn.below.trans ⟨rfl, rfl, rfl, by simp, fun j hj => Below.heap_setCell _ _ _ j (by show j ≠ OB; omega)⟩, fun v xs hr => RowI.far (h.s.tn.rows v xs hr) hk (by decide) i u, fun k cs t hc e1 e2 e3 => (Below.heap_setCell _ _ _ k (by have := blk_lt hc; show k ≠ OB; omega)).trans (h.s.tn.blk k cs t hc e1 e2 e3)⟩, blk_put hk i u e, h.s.er.far h.s.ne i u, h.s.bw.trans ⟨rfl, rfl, rfl, by simp, fun j hj => Below.heap_setCell _ _ _ j (by show j ≠ OB; omega)⟩, h.s.ne, h.s.ob, h.s.rb, h.s.ow⟩, RowI.far h.g1 hk (by decide) i u, RowI.far h.g2 hk (by decide) i u, h.ex.far h.nx i u, h.nx⟩
end
/-- The variable in which the answer stands is written. -/
structure Fin_ (b0 MB RB : Nat) (vS0 : Value) (W : World) (st : St) (vS vF : Value) (v1 v2 : Value) (l1 l2 : List Int) (W' : World) (b : Bool) (a1 a2 : Value) : Prop where
 er : Edge W' RB b a1 a2
 mm : Mk b0 MB st.sets st.fol vS vF W'
 tn : Tn b0 vS0 vS W W'
 f1 : RowI b0 vS W' v1 l1
 f2 : RowI b0 vS W' v2 l2
 rb : W.heap.size ≤ RB
 ow : b0 ≤ W.heap.size
theorem Fin_.set {b0 MB RB : Nat} {vS0 : Value} {W : World} {st : St} {vS vF v1 v2 : Value} {l1 l2 : List Int} {W' : World} {b : Bool} {a1 a2 : Value} (h : Fin_ b0 MB RB vS0 W st vS vF v1 v2 l1 l2 W' b a1 a2) (i : Nat) (u : Value) (b' : Bool) (a1' a2' : Value)
  (e : (#[.bool b, a1, a2] : Array Value).setIfInBounds i u = #[.bool b', a1', a2']) : Fin_ b0 MB RB vS0 W st vS vF v1 v2 l1 l2 (W'.setCell ⟨RB, i, none⟩ u) b' a1' a2' := by
 have hk := h.er
 have hob := h.rb
 have how := h.ow
 unfold Edge at hk
 exact ⟨blk_put hk i u e, h.mm.far hk (by decide) (by decide) (by decide) i u, ⟨h.tn.below.trans ⟨rfl, rfl, rfl, by simp, fun j hj => Below.heap_setCell _ _ _ j (by show j ≠ RB; omega)⟩, fun v xs hr => RowI.far (h.tn.rows v xs hr) hk (by decide) i u, fun k cs t hc e1 e2 e3 => (Below.heap_setCell _ _ _ k (by have := blk_lt hc; show k ≠ RB; omega)).trans (h.tn.blk k cs t hc e1 e2 e3)⟩, RowI.far h.f1 hk (by decide) i u, RowI.far h.f2 hk (by decide) i u, h.rb, h.ow⟩
/-- All three cells. -/
theorem Fin_.all {b0 MB RB : Nat} {vS0 : Value} {W : World} {st : St} {vS vF v1 v2 : Value} {l1 l2 : List Int} {W' : World} {b : Bool} {a1 a2 : Value} (h : Fin_ b0 MB RB vS0 W st vS vF v1 v2 l1 l2 W' b a1 a2) (b' : Bool) :
  Fin_ b0 MB RB vS0 W st vS vF v1 v2 l1 l2 (((W'.setCell ⟨RB, 0, none⟩ (.bool b')).setCell ⟨RB, 1, none⟩ v1).setCell ⟨RB, 2, none⟩ v2) b' v1 v2 :=
 ((h.set 0 (.bool b') b' a1 a2 rfl).set 1 v1 b' v1 a2 rfl).set 2 v2 b' v1 v2 rfl
theorem Fin_.post {b0 MB RB : Nat} {vS0 : Value} {W : World} {r : St × Ed} {vS vF v1 v2 : Value} {W' : World} (h : Fin_ b0 MB RB vS0 W r.1 vS vF v1 v2 r.2.first r.2.last W' r.2.null v1 v2) : NodePost b0 MB vS0 W r (.returned (.agg #[.bool r.2.null, v1, v2])) W' :=
 ⟨vS, vF, v1, v2, rfl, h.mm, h.f1, h.f2, h.tn⟩
structure NdS (w0 : World) (MB NB RB : Nat) (vS0 : Value) (W : World) (k s : Int) (kids : List S24) (A : Option Addr) (c : Nat) (st : St) (vS vF : Value) (W' : World) : Prop where
 mm : Mk w0.heap.size MB st.sets st.fol vS vF W'
 tn : Tn w0.heap.size vS0 vS W W'
 nb : W'.heap[NB]? = some (.cells #[.int .i64 k, .int .i64 s, .slice A kids.length c] 24 (0, 0))
 er : Edge W' RB false nilV nilV
 bw : Below w0.heap.size w0 W'
 rb : W.heap.size ≤ RB
 ow : w0.heap.size ≤ W.heap.size
section
variable {w0 W W' W2 : World} {MB NB RB XB : Nat} {vS0 vS vF vS' vF' v1 v2 v : Value} {k s : Int} {kids : List S24} {A : Option Addr} {c : Nat} {st st' : St} {b : Bool}
theorem NdS.later (h : NdS w0 MB NB RB vS0 W k s kids A c st vS vF W') (hb : Below W'.heap.size W' W2) : NdS w0 MB NB RB vS0 W k s kids A c st vS vF W2 :=
 ⟨h.mm.later hb, h.tn.trans (Tn.later hb h.bw.size), blk_below h.nb hb, h.er.later hb, h.bw.trans (hb.mono h.bw.size), h.rb, h.ow⟩
theorem NdS.turn (h : NdS w0 MB NB RB vS0 W k s kids A c st vS vF W') (hm : Mk w0.heap.size MB st'.sets st'.fol vS' vF' W2) (ht : Tn w0.heap.size vS vS' W' W2) : NdS w0 MB NB RB vS0 W k s kids A c st' vS' vF' W2 :=
 ⟨hm, h.tn.trans ht, (ht.blk NB _ 24 h.nb (by decide) (by decide) (by decide)).trans h.nb, h.er.turn ht, h.bw.trans ht.below, h.rb, h.ow⟩
/-- Another edge is written. -/
theorem NdS.far (h : NdS w0 MB NB RB vS0 W k s kids A c st vS vF W') (hk : Edge W' XB b v1 v2) (hne : RB ≠ XB) (hx : W.heap.size ≤ XB) (i : Nat) (u : Value) : NdS w0 MB NB RB vS0 W k s kids A c st vS vF (W'.setCell ⟨XB, i, none⟩ u) := by
 have how := h.ow
 unfold Edge at hk
 refine ⟨h.mm.far hk (by decide) (by decide) (by decide) i u, ⟨h.tn.below.trans ⟨rfl, rfl, rfl, by simp, fun j hj => Below.heap_setCell _ _ _ j (by show j ≠ XB; omega)⟩, fun v xs hr => RowI.far (h.tn.rows v xs hr) hk (by decide) i u, fun k cs t hc e1 e2 e3 => (Below.heap_setCell _ _ _ k (by have := blk_lt hc; show k ≠ XB; omega)).trans (h.tn.blk k cs t hc e1 e2 e3)⟩, blk_grown h.nb (grownBy_set _ _ _ _) (fun e => ?_), h.er.far (fun e => hne e.symm) i u, h.bw.trans ⟨rfl, rfl, rfl, by simp, fun j hj => Below.heap_setCell _ _ _ j (by show j ≠ XB; omega)⟩, h.rb, h.ow⟩
 injection e with e
 subst e
 have := h.nb
 rw [hk] at this
 cases this
end
theorem nb_set {W : World} {NB OB : Nat} {b : Bool} {v1 v2 : Value} {cs : Array Value} (h : W.heap[NB]? = some (.cells cs 24 (0, 0))) (hk : Edge W OB b v1 v2) (i : Nat) (u : Value) : (W.setCell ⟨OB, i, none⟩ u).heap[NB]? = some (.cells cs 24 (0, 0)) := by
 refine blk_grown h (grownBy_set _ _ _ _) (fun e => ?_)
 injection e with e
 subst e
 unfold Edge at hk
 rw [hk] at h
 cases h
end F
end Go.Proofs.Ytemlgmkbonpniaa.Print
