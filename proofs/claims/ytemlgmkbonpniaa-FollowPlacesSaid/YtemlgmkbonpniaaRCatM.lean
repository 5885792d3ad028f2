/- The reference's parts as plain functions. · The maker's cat. · The maker's cat: the walk. -/
import Derived.Test.YtemlgmkbonpniaaRAftM
namespace Go.Proofs.Ytemlgmkbonpniaa.Print
open Go.RowKit Go.Maps Go.Proofs.YtemlgmkbonpniaaW.PrintWords Go.Proofs.YtemlgmkbonpniaaW.PrintLast Go.Proofs.YtemlgmkbonpniaaW.PrintMore
set_option linter.unusedVariables false
set_option linter.unusedSimpArgs false

structure St where
 sets : List Int
 fol : List (List Int)
structure Ed where
 null : Bool
 first : List Int
 last : List Int
def leafR (s : Int) (st : St) : St × Ed := (⟨st.sets ++ [s], st.fol ++ [[]]⟩, ⟨false, [((st.sets.length + 1 : Nat) : Int)], [((st.sets.length + 1 : Nat) : Int)]⟩)
def catOne (r : St × Ed) (e : Ed) : St × Ed :=
 (⟨r.1.sets, afterR r.1.fol e.last r.2.first⟩, ⟨e.null && r.2.null, if e.null then bothR e.first r.2.first else e.first, if r.2.null then bothR e.last r.2.last else r.2.last⟩)
def altOne (r : St × Ed) (e : Ed) : St × Ed := (r.1, ⟨e.null || r.2.null, bothR e.first r.2.first, bothR e.last r.2.last⟩)
def signR (k : Int) (r : St × Ed) : St × Ed := (⟨r.1.sets, if k = 5 then r.1.fol else afterR r.1.fol r.2.last r.2.first⟩, ⟨r.2.null || decide (k ≠ 4), r.2.first, r.2.last⟩)
mutual
def nodeR : S24 → St → St × Ed
 | ⟨k, s, kids⟩, st =>
  if k = 1 then leafR s st
  else if k = 0 then catR kids st ⟨true, [], []⟩
  else if k = 2 then altR kids st ⟨false, [], []⟩
  else signR k (oneR kids st)
def oneR : List S24 → St → St × Ed
 | [], st => (st, ⟨false, [], []⟩)
 | x :: _, st => nodeR x st
def catR : List S24 → St → Ed → St × Ed
 | [], st, e => (st, e)
 | x :: l, st, e => catR l (catOne (nodeR x st) e).1 (catOne (nodeR x st) e).2
def altR : List S24 → St → Ed → St × Ed
 | [], st, e => (st, e)
 | x :: l, st, e => altR l (altOne (nodeR x st) e).1 (altOne (nodeR x st) e).2
end
mutual
/-- How many places. -/
def cnt : S24 → Nat
 | ⟨k, _, kids⟩ => if k = 1 then 1 else cntL kids
def cntL : List S24 → Nat
 | [] => 0
 | x :: l => cnt x + cntL l
end
mutual
def rightN : S24 → Bool
 | ⟨k, s, kids⟩ =>
  if k = 1 then kids.isEmpty && decide (0 ≤ s) && decide (s ≤ 63)
  else if k = 0 then rightL kids
  else if k = 2 then !kids.isEmpty && rightL kids
  else if k = 3 ∨ k = 4 ∨ k = 5 then decide (kids.length = 1) && rightL kids
  else false
def rightL : List S24 → Bool
 | [] => true
 | x :: l => rightN x && rightL l
end
theorem nodeR_eq (x : S24) (st : St) : nodeR x st = if x.f0 = 1 then leafR x.f1 st else if x.f0 = 0 then catR x.f2 st ⟨true, [], []⟩ else if x.f0 = 2 then altR x.f2 st ⟨false, [], []⟩ else signR x.f0 (oneR x.f2 st) := by
 cases x
 rw [nodeR]
theorem catR_snoc (l : List S24) (x : S24) : ∀ st e, catR (l ++ [x]) st e = catOne (nodeR x (catR l st e).1) (catR l st e).2 := by
 induction l with
 | nil => intro st e; rw [List.nil_append, catR, catR, catR]
 | cons y l ih => intro st e; rw [List.cons_append, catR, ih, catR]
theorem altR_snoc (l : List S24) (x : S24) : ∀ st e, altR (l ++ [x]) st e = altOne (nodeR x (altR l st e).1) (altR l st e).2 := by
 induction l with
 | nil => intro st e; rw [List.nil_append, altR, altR, altR]
 | cons y l ih => intro st e; rw [List.cons_append, altR, ih, altR]
theorem cntL_snoc (l : List S24) (x : S24) : cntL (l ++ [x]) = cntL l + cnt x := by
 induction l with
 | nil => rw [List.nil_append, cntL, cntL, cntL]; omega
 | cons y l ih => rw [List.cons_append, cntL, ih, cntL]; omega
theorem cntL_take (l : List S24) (i : Nat) : cntL (l.take i) ≤ cntL l := by
 induction l generalizing i with
 | nil => rw [List.take_nil]; exact Nat.le_refl _
 | cons y l ih =>
  cases i with
  | zero => rw [List.take_zero, cntL]; exact Nat.zero_le _
  | succ i => rw [List.take_succ_cons, cntL, cntL]; have := ih i; omega
theorem rightL_mem {l : List S24} (h : rightL l = true) : ∀ x ∈ l, rightN x = true := by
 induction l with
 | nil => intro x hx; cases hx
 | cons y l ih =>
  rw [rightL, Bool.and_eq_true] at h
  intro x hx
  rcases List.mem_cons.1 hx with rfl | hx
  ·exact h.1
  ·exact ih h.2 x hx
theorem node_ind {P : S24 → Prop} (h : ∀ x, (∀ y ∈ x.f2, P y) → P x) : ∀ x, P x := by
 have key : ∀ (n : Nat) (x : S24), SizeOf.sizeOf x ≤ n → P x := by
  intro n
  induction n with
  | zero => intro x hx; cases x; simp at hx
  | succ n ih =>
   intro x hx
   refine h x (fun y hy => ih y ?_)
   have h1 := List.sizeOf_lt_of_mem hy
   cases x
   simp at hx h1
   omega
 exact fun x => key _ x (Nat.le_refl _)

structure Fit (st : St) : Prop where
 len : st.fol.length = st.sets.length
 good : ∀ l ∈ st.fol, Good st.sets.length l
structure GoodE (N : Nat) (e : Ed) : Prop where
 first : Good N e.first
 last : Good N e.last
theorem GoodE.mono {N M : Nat} {e : Ed} (h : GoodE N e) (hn : N ≤ M) : GoodE M e := ⟨h.first.mono hn, h.last.mono hn⟩
/-- What a part makes of a state that fits. -/
structure Made (st : St) (r : St × Ed) (n : Nat) : Prop where
 fit : Fit r.1
 good : GoodE r.1.sets.length r.2
 up : st.sets.length ≤ r.1.sets.length
 most : r.1.sets.length ≤ st.sets.length + n
theorem leafR_made {st : St} (s : Int) (h : Fit st) : Made st (leafR s st) 1 := by
 have e : (st.sets ++ [s]).length = st.sets.length + 1 := by simp
 refine ⟨⟨by show (st.fol ++ [[]]).length = (st.sets ++ [s]).length; rw [e, List.length_append, h.len]; rfl, fun l hl => ?_⟩, ⟨?_, ?_⟩, by show _ ≤ (st.sets ++ [s]).length; omega, by show (st.sets ++ [s]).length ≤ _; omega⟩
 ·show Good (st.sets ++ [s]).length l
  rw [e]
  rcases List.mem_append.1 hl with hl | hl
  ·exact (h.good l hl).mono (by omega)
  ·rw [List.mem_singleton.1 hl]; exact good_nil _
 ·show Good (st.sets ++ [s]).length _
  rw [e]; exact good_one (by omega)
 ·show Good (st.sets ++ [s]).length _
  rw [e]; exact good_one (by omega)
theorem catOne_made {st st0 : St} {r : St × Ed} {e : Ed} {n m : Nat} (h : Made st r n) (h0 : st0.sets.length ≤ st.sets.length) (h1 : st.sets.length ≤ st0.sets.length + m) (he : GoodE st.sets.length e) : Made st0 (catOne r e) (m + n) := by
 have he2 := he.mono h.up
 refine ⟨⟨by show (afterR _ _ _).length = r.1.sets.length; rw [afterR_len, h.fit.len], afterR_good h.fit.good h.good.first⟩, ⟨?_, ?_⟩, Nat.le_trans h0 h.up, by have := h.most; show r.1.sets.length ≤ _; omega⟩
 ·show Good r.1.sets.length (if e.null then _ else _)
  split
  ·exact bothR_good he2.first h.good.first
  ·exact he2.first
 ·show Good r.1.sets.length (if r.2.null then _ else _)
  split
  ·exact bothR_good he2.last h.good.last
  ·exact h.good.last
theorem altOne_made {st st0 : St} {r : St × Ed} {e : Ed} {n m : Nat} (h : Made st r n) (h0 : st0.sets.length ≤ st.sets.length) (h1 : st.sets.length ≤ st0.sets.length + m) (he : GoodE st.sets.length e) : Made st0 (altOne r e) (m + n) := by
 have he2 := he.mono h.up
 exact ⟨h.fit, ⟨bothR_good he2.first h.good.first, bothR_good he2.last h.good.last⟩, Nat.le_trans h0 h.up, by have := h.most; show r.1.sets.length ≤ _; omega⟩
theorem fold_made {one : St × Ed → Ed → St × Ed} (hone : ∀ {st st0 : St} {r : St × Ed} {e : Ed} {n m : Nat}, Made st r n → st0.sets.length ≤ st.sets.length → st.sets.length ≤ st0.sets.length + m → GoodE st.sets.length e → Made st0 (one r e) (m + n))
  {f : List S24 → St → Ed → St × Ed} (h0 : ∀ st e, f [] st e = (st, e)) (h1 : ∀ l x st e, f (l ++ [x]) st e = one (nodeR x (f l st e).1) (f l st e).2)
  (l : List S24) (ih : ∀ y ∈ l, ∀ st, Fit st → Made st (nodeR y st) (cnt y)) (st : St) (e : Ed) (hf : Fit st) (he : GoodE st.sets.length e) : Made st (f l st e) (cntL l) := by
 have key : ∀ i, i ≤ l.length → Made st (f (l.take i) st e) (cntL (l.take i)) := by
  intro i
  induction i with
  | zero => intro _; rw [List.take_zero, h0, cntL]; exact ⟨hf, he, Nat.le_refl _, Nat.le_refl _⟩
  | succ i ihi =>
   intro hi
   have hm := ihi (by omega)
   have hlt : i < l.length := by omega
   rw [List.take_succ_eq_append_getElem hlt, h1, cntL_snoc]
   exact hone (ih _ (List.getElem_mem hlt) _ hm.fit) hm.up hm.most hm.good
 have := key l.length (Nat.le_refl _)
 rwa [List.take_length] at this
theorem nodeR_made : ∀ (x : S24) (st : St), Fit st → Made st (nodeR x st) (cnt x) := by
 refine node_ind (P := fun x => ∀ (st : St), Fit st → Made st (nodeR x st) (cnt x)) (fun x ih st hf => ?_)
 rw [nodeR_eq]
 obtain ⟨k, s, kids⟩ := x
 rw [cnt]
 show Made st (if k = 1 then leafR s st else if k = 0 then catR kids st ⟨true, [], []⟩ else if k = 2 then altR kids st ⟨false, [], []⟩ else signR k (oneR kids st)) (if k = 1 then 1 else cntL kids)
 by_cases q1 : k = 1
 ·rw [if_pos q1, if_pos q1]; exact leafR_made s hf
 rw [if_neg q1, if_neg q1]
 by_cases q0 : k = 0
 ·rw [if_pos q0]; exact fold_made catOne_made (fun _ _ => by rw [catR]) (fun l x st e => catR_snoc l x st e) kids ih st _ hf ⟨good_nil _, good_nil _⟩
 rw [if_neg q0]
 by_cases q2 : k = 2
 ·rw [if_pos q2]; exact fold_made altOne_made (fun _ _ => by rw [altR]) (fun l x st e => altR_snoc l x st e) kids ih st _ hf ⟨good_nil _, good_nil _⟩
 rw [if_neg q2]
 have h1 : Made st (oneR kids st) (cntL kids) := by
  cases kids with
  | nil => rw [oneR, cntL]; exact ⟨hf, ⟨good_nil _, good_nil _⟩, Nat.le_refl _, Nat.le_refl _⟩
  | cons y l =>
   rw [oneR, cntL]
   have := ih y List.mem_cons_self st hf
   exact ⟨this.fit, this.good, this.up, by have := this.most; omega⟩
 refine ⟨⟨?_, ?_⟩, ⟨h1.good.first, h1.good.last⟩, h1.up, h1.most⟩
 ·show (if k = 5 then _ else _ : List (List Int)).length = (oneR kids st).1.sets.length
  split
  ·exact h1.fit.len
  ·rw [afterR_len]; exact h1.fit.len
 ·show ∀ l ∈ (if k = 5 then _ else _ : List (List Int)), Good (oneR kids st).1.sets.length l
  split
  ·exact h1.fit.good
  ·exact afterR_good h1.fit.good h1.good.first
theorem catR_made (l : List S24) (st : St) (e : Ed) (hf : Fit st) (he : GoodE st.sets.length e) : Made st (catR l st e) (cntL l) :=
 fold_made catOne_made (fun _ _ => by rw [catR]) (fun l x st e => catR_snoc l x st e) l (fun y _ => nodeR_made y) st e hf he
theorem altR_made (l : List S24) (st : St) (e : Ed) (hf : Fit st) (he : GoodE st.sets.length e) : Made st (altR l st e) (cntL l) :=
 fold_made altOne_made (fun _ _ => by rw [altR]) (fun l x st e => altR_snoc l x st e) l (fun y _ => nodeR_made y) st e hf he
end Go.Proofs.Ytemlgmkbonpniaa.Print

namespace Go.Proofs.Ytemlgmkbonpniaa.Print
open Go.RowKit Go.Maps Go.Proofs.YtemlgmkbonpniaaW.PrintWords Go.Proofs.YtemlgmkbonpniaaW.PrintLast Go.Proofs.YtemlgmkbonpniaaW.PrintMore
set_option linter.unusedVariables false
set_option linter.unusedSimpArgs false
/-- What a part's call leaves behind. -/
def NodePost (b0 MB : Nat) (vS : Value) (W : World) (r : St × Ed) (e : Ending) (W' : World) : Prop :=
 ∃ vS' vF' v1 v2, e = .returned (.agg #[.bool r.2.null, v1, v2]) ∧ Mk b0 MB r.1.sets r.1.fol vS' vF' W' ∧ RowI b0 vS' W' v1 r.2.first ∧ RowI b0 vS' W' v2 r.2.last ∧ Tn b0 vS vS' W W'
def NodeOK (w0 : World) (MB : Nat) (x : S24) : Prop := ∀ (st : St) (vS vF : Value) (W : World) (A : Option Addr) (c : Nat), Fit st → st.sets.length + cnt x ≤ 300 → Mk w0.heap.size MB st.sets st.fol vS vF W → Below w0.heap.size w0 W → Kd.C k24 w0 A x.f2.length x.f2 → x.f2.length ≤ c →
 Calls Try.prog 51 #[.pointer (some ⟨MB, 0, none⟩), .agg #[.int .i64 x.f0, .int .i64 x.f1, .slice A x.f2.length c]] W (NodePost w0.heap.size MB vS W (nodeR x st))
/-- A variable of kind edge. -/
def Edge (W : World) (g : Nat) (b : Bool) (v1 v2 : Value) : Prop := W.heap[g]? = some (.cells #[.bool b, v1, v2] 77 (0, 0))
section
variable {W W' : World} {g : Nat} {b : Bool} {v1 v2 : Value}
theorem Edge.cells (h : Edge W g b v1 v2) : W.cell? ⟨g, 0, none⟩ = some (.bool b) ∧ W.cell? ⟨g, 1, none⟩ = some v1 ∧ W.cell? ⟨g, 2, none⟩ = some v2 := ⟨(blk_cell h 0).trans rfl, (blk_cell h 1).trans rfl, (blk_cell h 2).trans rfl⟩
theorem Edge.frozen (h : Edge W g b v1 v2) (i : Nat) : W.frozen? ⟨g, i, none⟩ = false := blk_frozen h i
theorem Edge.turn {b0 : Nat} {vS vS' : Value} (h : Edge W g b v1 v2) (t : Tn b0 vS vS' W W') : Edge W' g b v1 v2 := (t.blk g _ 77 h (by decide) (by decide) (by decide)).trans h
theorem Edge.later (h : Edge W g b v1 v2) (hb : Below W.heap.size W W') : Edge W' g b v1 v2 := blk_below h hb
/-- A block of kind t is written: it is none of the maker's, none of its rows. -/
theorem Mk.far {b0 MB k t : Nat} {sets : List Int} {fol : List (List Int)} {vS vF : Value} {cs : Array Value} (h : Mk b0 MB sets fol vS vF W) (hk : W.heap[k]? = some (.cells cs t (0, 0))) (h3 : t ≠ 3) (h27 : t ≠ 27) (h75 : t ≠ 75) (i : Nat) (u : Value) : Mk b0 MB sets fol vS vF (W.setCell ⟨k, i, none⟩ u) :=
 ⟨blk_grown h.blk (grownBy_set W k i u) (fun e => by
   injection e with e
   subst e
   have := h.blk
   rw [hk] at this
   cases this
   exact h75 rfl), Kd.R_set h.sets hk (fun q hq => by simp [Kd.int, Kd.scalar] at hq; omega) i u, Kd.R_set h.fol hk (fun q hq => by simp [kL, Kd.slice, Kd.int, Kd.scalar] at hq; omega) i u, h.hM⟩
theorem RowI.far {b0 k t : Nat} {vS v : Value} {xs : List Int} {cs : Array Value} (h : RowI b0 vS W v xs) (hk : W.heap[k]? = some (.cells cs t (0, 0))) (h3 : t ≠ 3) (i : Nat) (u : Value) : RowI b0 vS (W.setCell ⟨k, i, none⟩ u) v xs :=
 Kd.R_set h hk (fun q hq => by simp [Kd.int, Kd.scalar] at hq; omega) i u
theorem Edge.far {k : Nat} (h : Edge W g b v1 v2) (hk : k ≠ g) (i : Nat) (u : Value) : Edge (W.setCell ⟨k, i, none⟩ u) g b v1 v2 := (Below.heap_setCell W ⟨k, i, none⟩ u g (fun e => hk e.symm)).trans h
end
abbrev nilV : Value := .slice none 0 0
structure CatS (w0 : World) (MB OB RB : Nat) (vS0 : Value) (W : World) (st : St) (vS vF : Value) (o : Ed) (v1 v2 : Value) (W' : World) : Prop where
 mm : Mk w0.heap.size MB st.sets st.fol vS vF W'
 f1 : RowI w0.heap.size vS W' v1 o.first
 f2 : RowI w0.heap.size vS W' v2 o.last
 tn : Tn w0.heap.size vS0 vS W W'
 eo : Edge W' OB o.null v1 v2
 er : Edge W' RB false nilV nilV
 bw : Below w0.heap.size w0 W'
 ne : OB ≠ RB
 ob : W.heap.size ≤ OB
 rb : W.heap.size ≤ RB
 ow : w0.heap.size ≤ W.heap.size
structure CatI (w0 : World) (MB OB RB XB : Nat) (vS0 : Value) (W : World) (st : St) (vS vF : Value) (o : Ed) (v1 v2 : Value) (x : Ed) (u1 u2 : Value) (W' : World) : Prop where
 s : CatS w0 MB OB RB vS0 W st vS vF o v1 v2 W'
 g1 : RowI w0.heap.size vS W' u1 x.first
 g2 : RowI w0.heap.size vS W' u2 x.last
 ex : Edge W' XB x.null u1 u2
 nx : OB ≠ XB
section
variable {w0 W W' W2 : World} {MB OB RB XB : Nat} {vS0 vS vF vS' vF' v1 v2 u1 u2 v : Value} {st st' : St} {o x : Ed} {l : List Int} {b : Bool}
theorem CatS.later (h : CatS w0 MB OB RB vS0 W st vS vF o v1 v2 W') (hb : Below W'.heap.size W' W2) : CatS w0 MB OB RB vS0 W st vS vF o v1 v2 W2 :=
 ⟨h.mm.later hb, Kd.R_below h.f1 hb, Kd.R_below h.f2 hb, h.tn.trans (Tn.later hb h.bw.size), h.eo.later hb, h.er.later hb, h.bw.trans (hb.mono h.bw.size), h.ne, h.ob, h.rb, h.ow⟩
theorem CatS.turn (h : CatS w0 MB OB RB vS0 W st vS vF o v1 v2 W') (hm : Mk w0.heap.size MB st'.sets st'.fol vS' vF' W2) (ht : Tn w0.heap.size vS vS' W' W2) : CatS w0 MB OB RB vS0 W st' vS' vF' o v1 v2 W2 :=
 ⟨hm, ht.rows _ _ h.f1, ht.rows _ _ h.f2, h.tn.trans ht, h.eo.turn ht, h.er.turn ht, h.bw.trans ht.below, h.ne, h.ob, h.rb, h.ow⟩
theorem CatI.later (h : CatI w0 MB OB RB XB vS0 W st vS vF o v1 v2 x u1 u2 W') (hb : Below W'.heap.size W' W2) : CatI w0 MB OB RB XB vS0 W st vS vF o v1 v2 x u1 u2 W2 :=
 ⟨h.s.later hb, Kd.R_below h.g1 hb, Kd.R_below h.g2 hb, h.ex.later hb, h.nx⟩
theorem CatI.turn (h : CatI w0 MB OB RB XB vS0 W st vS vF o v1 v2 x u1 u2 W') (hm : Mk w0.heap.size MB st'.sets st'.fol vS' vF' W2) (ht : Tn w0.heap.size vS vS' W' W2) : CatI w0 MB OB RB XB vS0 W st' vS' vF' o v1 v2 x u1 u2 W2 :=
 ⟨h.s.turn hm ht, ht.rows _ _ h.g1, ht.rows _ _ h.g2, h.ex.turn ht, h.nx⟩
theorem CatI.set (h : CatI w0 MB OB RB XB vS0 W st vS vF o v1 v2 x u1 u2 W') (i : Nat) (u : Value) (o' : Ed) (v1' v2' : Value) (e : (#[.bool o.null, v1, v2] : Array Value).setIfInBounds i u = #[.bool o'.null, v1', v2'])
  (h1 : RowI w0.heap.size vS W' v1' o'.first) (h2 : RowI w0.heap.size vS W' v2' o'.last) : CatI w0 MB OB RB XB vS0 W st vS vF o' v1' v2' x u1 u2 (W'.setCell ⟨OB, i, none⟩ u) := by
 have hk := h.s.eo
 have hob := h.s.ob
 have how := h.s.ow
 unfold Edge at hk
 refine ⟨⟨h.s.mm.far hk (by decide) (by decide) (by decide) i u, RowI.far h1 hk (by decide) i u, RowI.far h2 hk (by decide) i u, ⟨h.s.tn.below.trans ⟨rfl, rfl, rfl, by simp, fun j hj => Below.heap_setCell _ _ _ j (by show j ≠ OB; omega)⟩, fun v xs hr => RowI.far (h.s.tn.rows v xs hr) hk (by decide) i u, fun k cs t hc e1 e2 e3 => (Below.heap_setCell _ _ _ k (by have := blk_lt hc; show k ≠ OB; omega)).trans (h.s.tn.blk k cs t hc e1 e2 e3)⟩, blk_put hk i u e, h.s.er.far h.s.ne i u, h.s.bw.trans ⟨rfl, rfl, rfl, by simp, fun j hj => Below.heap_setCell _ _ _ j (by show j ≠ OB; omega)⟩, h.s.ne, h.s.ob, h.s.rb, h.s.ow⟩, RowI.far h.g1 hk (by decide) i u, RowI.far h.g2 hk (by decide) i u, h.ex.far h.nx i u, h.nx⟩
end
end Go.Proofs.Ytemlgmkbonpniaa.Print

namespace Go.Proofs.Ytemlgmkbonpniaa.Print
open Go.RowKit Go.Maps Go.Proofs.YtemlgmkbonpniaaW.PrintWords Go.Proofs.YtemlgmkbonpniaaW.PrintLast Go.Proofs.YtemlgmkbonpniaaW.PrintMore
set_option linter.unusedVariables false
set_option linter.unusedSimpArgs false
theorem rd_get {l : List S24} {i : Nat} (h : i < l.length) : rd_T24 l (i : Int) = l[i] := by
 unfold rd_T24
 rw [Int.toNat_natCast, List.getD_eq_getElem?_getD, List.getElem?_eq_getElem h]
 rfl
theorem take_rd {l : List S24} {i : Nat} (h : i < l.length) : l.take (i + 1) = l.take i ++ [rd_T24 l (i : Int)] := by rw [rd_get h, List.take_succ_eq_append_getElem h]
theorem cnt_rd {l : List S24} {i : Nat} (h : i < l.length) : cntL (l.take i) + cnt (rd_T24 l (i : Int)) ≤ cntL l := by
 have h1 := cntL_take l (i + 1)
 rw [take_rd h, cntL_snoc] at h1
 exact h1
/-- The variable in which the answer stands is written. -/
structure Fin_ (b0 MB RB : Nat) (vS0 : Value) (W : World) (st : St) (vS vF : Value) (v1 v2 : Value) (l1 l2 : List Int) (W' : World) (b : Bool) (a1 a2 : Value) : Prop where
 er : Edge W' RB b a1 a2
 mm : Mk b0 MB st.sets st.fol vS vF W'
 tn : Tn b0 vS0 vS W W'
 f1 : RowI b0 vS W' v1 l1
 f2 : RowI b0 vS W' v2 l2
 rb : W.heap.size ≤ RB
 ow : b0 ≤ W.heap.size
theorem Fin_.set {b0 MB RB : Nat} {vS0 : Value} {W : World} {st : St} {vS vF v1 v2 : Value} {l1 l2 : List Int} {W' : World} {b : Bool} {a1 a2 : Value} (h : Fin_ b0 MB RB vS0 W st vS vF v1 v2 l1 l2 W' b a1 a2) (i : Nat) (u : Value) (b' : Bool) (a1' a2' : Value)
  (e : (#[.bool b, a1, a2] : Array Value).setIfInBounds i u = #[.bool b', a1', a2']) : Fin_ b0 MB RB vS0 W st vS vF v1 v2 l1 l2 (W'.setCell ⟨RB, i, none⟩ u) b' a1' a2' := by
 have hk := h.er
 have hob := h.rb
 have how := h.ow
 unfold Edge at hk
 exact ⟨blk_put hk i u e, h.mm.far hk (by decide) (by decide) (by decide) i u, ⟨h.tn.below.trans ⟨rfl, rfl, rfl, by simp, fun j hj => Below.heap_setCell _ _ _ j (by show j ≠ RB; omega)⟩, fun v xs hr => RowI.far (h.tn.rows v xs hr) hk (by decide) i u, fun k cs t hc e1 e2 e3 => (Below.heap_setCell _ _ _ k (by have := blk_lt hc; show k ≠ RB; omega)).trans (h.tn.blk k cs t hc e1 e2 e3)⟩, RowI.far h.f1 hk (by decide) i u, RowI.far h.f2 hk (by decide) i u, h.rb, h.ow⟩
/-- All three cells. -/
theorem Fin_.all {b0 MB RB : Nat} {vS0 : Value} {W : World} {st : St} {vS vF v1 v2 : Value} {l1 l2 : List Int} {W' : World} {b : Bool} {a1 a2 : Value} (h : Fin_ b0 MB RB vS0 W st vS vF v1 v2 l1 l2 W' b a1 a2) (b' : Bool) :
  Fin_ b0 MB RB vS0 W st vS vF v1 v2 l1 l2 (((W'.setCell ⟨RB, 0, none⟩ (.bool b')).setCell ⟨RB, 1, none⟩ v1).setCell ⟨RB, 2, none⟩ v2) b' v1 v2 :=
 ((h.set 0 (.bool b') b' a1 a2 rfl).set 1 v1 b' v1 a2 rfl).set 2 v2 b' v1 v2 rfl
theorem Fin_.post {b0 MB RB : Nat} {vS0 : Value} {W : World} {r : St × Ed} {vS vF v1 v2 : Value} {W' : World} (h : Fin_ b0 MB RB vS0 W r.1 vS vF v1 v2 r.2.first r.2.last W' r.2.null v1 v2) : NodePost b0 MB vS0 W r (.returned (.agg #[.bool r.2.null, v1, v2])) W' :=
 ⟨vS, vF, v1, v2, rfl, h.mm, h.f1, h.f2, h.tn⟩
set_option maxHeartbeats 16000000 in
set_option maxRecDepth 100000 in
theorem cat_calls {w0 : World} {MB : Nat} (l : List S24) (hok : ∀ x ∈ l, NodeOK w0 MB x) (st : St) (vS vF : Value) (W : World) (A : Option Addr) (c : Nat) (hf : Fit st) (hn : st.sets.length + cntL l ≤ 300) (hm : Mk w0.heap.size MB st.sets st.fol vS vF W) (hb : Below w0.heap.size w0 W) (hC : Kd.C k24 w0 A l.length l) (hc : l.length ≤ c) :
  Calls Try.prog 75 #[.pointer (some ⟨MB, 0, none⟩), .slice A l.length c] W (NodePost w0.heap.size MB vS W (catR l st ⟨true, [], []⟩)) := by
 have HOK := Aside0.mk hok
 have HF := Aside0.mk hf
 have HN := Aside0.mk hn
 have HM := Aside0.mk hm
 have HB := Aside0.mk hb
 have HC := Aside0.mk hC
 have HCC := Aside0.mk hc
 have HLL := Aside0.mk (hC.2.1 : l.length ≤ 9223372036854775807)
 clear hok hf hn hm hb hC hc
 go_enter Try.func75, Try.ntmps75
 go_wp2_with fail
 have hsz : (W.alloc (.cells #[.bool false, nilV, nilV] 77)).heap.size = W.heap.size + 1 := Array.size_push _
 have hbn : Below W.heap.size W ((W.alloc (.cells #[.bool false, nilV, nilV] 77)).alloc (.cells #[.bool true, nilV, nilV] 77)) := below_alloc (below_alloc (Below.refl _ _) _) _
 have HS0 := Aside0.mk (show CatS w0 MB (W.heap.size + 1) W.heap.size vS W st vS vF ⟨true, [], []⟩ nilV nilV ((W.alloc (.cells #[.bool false, nilV, nilV] 77)).alloc (.cells #[.bool true, nilV, nilV] 77)) from
  ⟨HM.out.later hbn, Kd.R_nil _ _ _ _ _, Kd.R_nil _ _ _ _ _, Tn.later hbn HB.out.size, by rw [← hsz]; exact blk_new _ _, blk_below (blk_new W _) (below_alloc (Below.refl _ _) _), HB.out.trans (hbn.mono HB.out.size), by omega, by omega, Nat.le_refl _, HB.out.size⟩)
 clear hsz hbn
 obtain ⟨OB, hOB⟩ : ∃ n, W.heap.size + 1 = n := ⟨_, rfl⟩
 obtain ⟨RB, hRB⟩ : ∃ n, W.heap.size = n := ⟨_, rfl⟩
 rw [hOB, hRB] at HS0
 rw [hOB, hRB]
 clear hOB hRB
 go_loopg [6] l.length (fun kq v6 w' => ∃ (i : Nat) (r : St × Ed) (vS1 vF1 v1 v2 : Value), v6 = .int .i64 (i : Int) ∧ Aside0 (i + kq = l.length) ∧ Aside0 (r = catR (l.take i) st ⟨true, [], []⟩) ∧ Aside0 (CatS w0 MB OB RB vS W r.1 vS1 vF1 r.2 v1 v2 w'))
 case atStart => exact ⟨0, (st, ⟨true, [], []⟩), vS, vF, nilV, nilV, rfl, ⟨Nat.zero_add _⟩, ⟨by rw [List.take_zero, catR]⟩, HS0⟩
 case round =>
  clear HS0
  obtain ⟨i, r, vS1, vF1, v1, v2, rfl, HK, HRR, HS⟩ := hrel
  by_cases q0 : gk = 0
  ·have f1 : ¬ i < l.length := by have := HK.out; omega
   have f2 : decide ((i : Int) < (l.length : Int)) = false := decide_eq_false (by omega)
   have HE := Aside0.mk (show r = catR l st ⟨true, [], []⟩ by rw [HRR.out, List.take_of_length_le (by omega)])
   clear q0
   obtain ⟨L1, k1, rfl⟩ := Kd.R_slice HS.out.f1
   obtain ⟨L2, k2, rfl⟩ := Kd.R_slice HS.out.f2
   have z0 := HS.out.eo.cells.1
   have z1 := HS.out.eo.cells.2.1
   have z2 := HS.out.eo.cells.2.2
   have y0 := HS.out.er.cells.1
   have y1 := HS.out.er.cells.2.1
   have y2 := HS.out.er.cells.2.2
   have y3 := HS.out.er.frozen 0
   have y4 := HS.out.er.frozen 1
   have y5 := HS.out.er.frozen 2
   go_wp2_with fail
   have HFI := Aside0.mk (Fin_.all (show Fin_ w0.heap.size MB RB vS W r.1 vS1 vF1 (.slice L1 r.2.first.length k1) (.slice L2 r.2.last.length k2) r.2.first r.2.last wr false nilV nilV from ⟨HS.out.er, HS.out.mm, HS.out.tn, HS.out.f1, HS.out.f2, HS.out.rb, HS.out.ow⟩) r.2.null)
   clear z0 z1 z2 y0 y1 y2 y3 y4 y5
   obtain ⟨W9, hW9⟩ : ∃ w, ((wr.setCell ⟨RB, 0, none⟩ (.bool r.2.null)).setCell ⟨RB, 1, none⟩ (.slice L1 r.2.first.length k1)).setCell ⟨RB, 2, none⟩ (.slice L2 r.2.last.length k2) = w := ⟨_, rfl⟩
   rw [hW9] at HFI ⊢
   clear hW9
   refine bodyPost_ret (results_cell_row rfl _ _ RB 77 #[.bool r.2.null, .slice L1 r.2.first.length k1, .slice L2 r.2.last.length k2] (0, 0) _ rfl HFI.out.er Try.underlying77 rfl (by kernel_rfl)) rfl ?_
   rw [← HE.out]
   exact HFI.out.post
  ·have HQ := Aside0.mk q0
   clear q0
   have HIL := Aside0.mk (show i < l.length by have := HK.out; have := HQ.out; omega)
   obtain ⟨ad, A2, c2, eA, hx0, hx1, hx2, hl2, hg2⟩ := at_T24 HC.out (i : Int) (Int.natCast_nonneg i) (by have := HIL.out; omega)
   rw [Int.toNat_natCast] at hx0 hx1 hx2
   obtain ⟨x, hx⟩ : ∃ x, x = rd_T24 l (i : Int) := ⟨_, rfl⟩
   rw [← hx] at hx0 hx1 hx2 hl2 hg2
   have HXX := Aside0.mk hx
   have HMEM := Aside0.mk (show x ∈ l by rw [hx, rd_get HIL.out]; exact List.getElem_mem _)
   have HCNT := Aside0.mk (show cntL (l.take i) + cnt x ≤ cntL l by rw [hx]; exact cnt_rd HIL.out)
   subst eA
   replace hx0 := cell_keep HS.out.bw hx0
   replace hx1 := cell_keep HS.out.bw hx1
   replace hx2 := cell_keep HS.out.bw hx2
   have HMR := Aside0.mk (show Made st r (cntL (l.take i)) by rw [HRR.out]; exact catR_made _ _ _ HF.out ⟨good_nil _, good_nil _⟩)
   obtain ⟨q, hq⟩ : ∃ q, q = nodeR x r.1 := ⟨_, rfl⟩
   have HMQ := Aside0.mk (show Made r.1 q (cnt x) by rw [hq]; exact nodeR_made x r.1 HMR.out.fit)
   have HNODE := Aside0.mk (HOK.out x HMEM.out r.1 vS1 vF1 wr A2 c2 HMR.out.fit (by have := HMR.out.most; have := HCNT.out; have := HN.out; omega) HS.out.mm HS.out.bw hg2 hl2)
   rw [← hq] at HNODE
   have HQQ := Aside0.mk hq
   have HLB := Aside0.mk (show r.2.first.length ≤ 300 ∧ r.2.last.length ≤ 300 ∧ q.2.first.length ≤ 300 ∧ q.2.last.length ≤ 300 ∧ q.1.sets.length ≤ 300 by
    have h1 := HMR.out.good.first.len
    have h2 := HMR.out.good.last.len
    have h3 := HMQ.out.good.first.len
    have h4 := HMQ.out.good.last.len
    have h5 := HMR.out.most
    have h6 := HMQ.out.most
    have := HCNT.out
    have := HN.out
    omega)
   clear hq hx hl2 hg2
   obtain ⟨L1, k1, rfl⟩ := Kd.R_slice HS.out.f1
   obtain ⟨L2, k2, rfl⟩ := Kd.R_slice HS.out.f2
   have f1 : i < l.length := HIL.out
   have f2 : decide ((i : Int) < (l.length : Int)) = true := decide_eq_true (by omega)
   have f3 : 0 ≤ (i : Int) := Int.natCast_nonneg i
   go_upto_region 6 with (go_at_call 51; refine HNODE.out.mono ?_; rintro e W2 ⟨vS2, vF2, u1, u2, rfl, hm2, hu1, hu2, ht2⟩; have HM2 := Aside0.mk hm2; have HT2 := Aside0.mk ht2; obtain ⟨M1, d1, rfl⟩ := Kd.R_slice hu1; obtain ⟨M2, d2, rfl⟩ := Kd.R_slice hu2; have HU1 := Aside0.mk hu1; have HU2 := Aside0.mk hu2; clear hm2 hu1 hu2 ht2 hx0 hx1 hx2)
   have hbn : Below W2.heap.size W2 (W2.alloc (.cells #[.bool q.2.null, .slice M1 q.2.first.length d1, .slice M2 q.2.last.length d2] 77)) := below_alloc (Below.refl _ _) _
   have HS2 := Aside0.mk (HS.out.turn HM2.out HT2.out)
   have HI3 := Aside0.mk (show CatI w0 MB OB RB W2.heap.size vS W q.1 vS2 vF2 r.2 (.slice L1 r.2.first.length k1) (.slice L2 r.2.last.length k2) q.2 (.slice M1 q.2.first.length d1) (.slice M2 q.2.last.length d2) (W2.alloc (.cells #[.bool q.2.null, .slice M1 q.2.first.length d1, .slice M2 q.2.last.length d2] 77)) from
    ⟨HS2.out.later hbn, Kd.R_below HU1.out hbn, Kd.R_below HU2.out hbn, blk_new _ _, by have := blk_lt HS2.out.eo; omega⟩)
   clear hbn HS2 HM2 HT2 HU1 HU2 HS
   obtain ⟨XB, hXB⟩ : ∃ n, W2.heap.size = n := ⟨_, rfl⟩
   obtain ⟨W3, hW3⟩ : ∃ w, W2.alloc (.cells #[.bool q.2.null, .slice M1 q.2.first.length d1, .slice M2 q.2.last.length d2] 77) = w := ⟨_, rfl⟩
   rw [hXB, hW3] at HI3
   rw [hXB, hW3]
   clear hXB hW3
   have z0 := (HI3.out).s.eo.cells.1
   have z1 := (HI3.out).s.eo.cells.2.1
   have z2 := (HI3.out).s.eo.cells.2.2
   have z3 := (HI3.out).ex.cells.1
   have z4 := (HI3.out).ex.cells.2.1
   have z5 := (HI3.out).ex.cells.2.2
   have z6 := (HI3.out).s.eo.frozen 0
   have z7 := (HI3.out).s.eo.frozen 1
   have z8 := (HI3.out).s.eo.frozen 2
   go_upto_region 7 with (go_at_call 77; refine (after_calls (N := q.1.sets.length) L2 k2 r.2.last M1 d1 q.2.first HI3.out.s.mm HI3.out.s.f2 HI3.out.g1 (fun t ht => by have h1 := HMR.out.good.last.2 t ht; have h2 := HMQ.out.up; have h3 := HMQ.out.fit.len; omega) HMQ.out.fit.good HMQ.out.good.first (by have := HLB.out; omega) (by have h1 := HMQ.out.fit.len; have := HLB.out; omega) HI3.out.s.bw.size (by have := HLB.out; omega)).mono ?_; rintro e W4 ⟨rfl, hm4, ht4⟩; have HI4 := Aside0.mk (CatI.turn (st' := ⟨q.1.sets, afterR q.1.fol r.2.last q.2.first⟩) HI3.out hm4 ht4); clear hm4 ht4)
   clear z0 z1 z2 z3 z4 z5 z6 z7 z8
   clear HI3
   cases hbo : r.2.null
   case false =>
    have HBO := Aside0.mk hbo
    have z0 := (HI4.out).s.eo.cells.1
    have z1 := (HI4.out).s.eo.cells.2.1
    have z2 := (HI4.out).s.eo.cells.2.2
    have z3 := (HI4.out).ex.cells.1
    have z4 := (HI4.out).ex.cells.2.1
    have z5 := (HI4.out).ex.cells.2.2
    have z6 := (HI4.out).s.eo.frozen 0
    have z7 := (HI4.out).s.eo.frozen 1
    have z8 := (HI4.out).s.eo.frozen 2
    rw [hbo] at z0
    clear hbo
    go_upto_region 9 with fail
    clear z0 z1 z2 z3 z4 z5 z6 z7 z8
    cases hbx : q.2.null
    case false =>
     have HBX := Aside0.mk hbx
     have z0 := (HI4.out).s.eo.cells.1
     have z1 := (HI4.out).s.eo.cells.2.1
     have z2 := (HI4.out).s.eo.cells.2.2
     have z3 := (HI4.out).ex.cells.1
     have z4 := (HI4.out).ex.cells.2.1
     have z5 := (HI4.out).ex.cells.2.2
     have z6 := (HI4.out).s.eo.frozen 0
     have z7 := (HI4.out).s.eo.frozen 1
     have z8 := (HI4.out).s.eo.frozen 2
     rw [hbx] at z3
     rw [HBO.out] at z0
     clear hbx
     go_upto_region 12 with fail
     clear z0 z1 z2 z3 z4 z5 z6 z7 z8
     have HI8 := Aside0.mk (HI4.out.set 2 (.slice M2 q.2.last.length d2) ⟨r.2.null, r.2.first, q.2.last⟩ _ _ rfl HI4.out.s.f1 HI4.out.g2)
     obtain ⟨W8, hW8⟩ : ∃ w, W4.setCell ⟨OB, 2, none⟩ (.slice M2 q.2.last.length d2) = w := ⟨_, rfl⟩
     rw [hW8] at HI8 ⊢
     clear hW8
     have z0 := (HI8.out).s.eo.cells.1
     have z1 := (HI8.out).s.eo.cells.2.1
     have z2 := (HI8.out).s.eo.cells.2.2
     have z3 := (HI8.out).ex.cells.1
     have z4 := (HI8.out).ex.cells.2.1
     have z5 := (HI8.out).ex.cells.2.2
     have z6 := (HI8.out).s.eo.frozen 0
     have z7 := (HI8.out).s.eo.frozen 1
     have z8 := (HI8.out).s.eo.frozen 2
     rw [HBX.out] at z3
     rw [show (⟨r.2.null, r.2.first, q.2.last⟩ : Ed).null = false from HBO.out] at z0
     go_wp2_with fail
     clear z0 z1 z2 z3 z4 z5 z6 z7 z8
     have HI9 := Aside0.mk (HI8.out.set 0 (.bool false) ⟨false, r.2.first, q.2.last⟩ _ _ rfl HI8.out.s.f1 HI8.out.s.f2)
     go_roundg (gk - 1)
     case measure => have := HQ.out; omega
     case rel =>
      refine ⟨i + 1, catOne q r.2, vS2, vF2, (.slice L1 r.2.first.length k1), (.slice M2 q.2.last.length d2), by rw [show wrap64 ((i : Int) + 1) = ((i + 1 : Nat) : Int) by have := HIL.out; have := HLL.out; unfold wrap64; omega], ⟨by have := HK.out; have := HQ.out; omega⟩, ⟨by rw [take_rd HIL.out, catR_snoc, ← HRR.out, ← HXX.out, ← HQQ.out]⟩, ⟨?_⟩⟩
      have he : catOne q r.2 = (⟨q.1.sets, afterR q.1.fol r.2.last q.2.first⟩, ⟨false, r.2.first, q.2.last⟩) := by unfold catOne; rw [HBX.out, HBO.out]; rfl
      rw [he]
      exact HI9.out.s
    case true =>
     have HBX := Aside0.mk hbx
     have z0 := (HI4.out).s.eo.cells.1
     have z1 := (HI4.out).s.eo.cells.2.1
     have z2 := (HI4.out).s.eo.cells.2.2
     have z3 := (HI4.out).ex.cells.1
     have z4 := (HI4.out).ex.cells.2.1
     have z5 := (HI4.out).ex.cells.2.2
     have z6 := (HI4.out).s.eo.frozen 0
     have z7 := (HI4.out).s.eo.frozen 1
     have z8 := (HI4.out).s.eo.frozen 2
     rw [hbx] at z3
     rw [HBO.out] at z0
     clear hbx
     go_upto_region 12 with (go_at_call 76; refine (both_calls L2 k2 r.2.last M2 d2 q.2.last W4 (Kd.R_reads' HI4.out.s.f2).2.2 (Kd.R_reads' HI4.out.s.f2).2.1 (Kd.R_reads' HI4.out.g2).2.2 (Kd.R_reads' HI4.out.g2).2.1 (by have := HLB.out; omega)).mono ?_; rintro e W7 ⟨A7, c7, rfl, hb7, hcm7⟩; have HI7 := Aside0.mk (HI4.out.later hb7); have HV7 := Aside0.mk (Came.rowI hcm7 HI4.out.s.f2 HI4.out.s.mm hb7 HI4.out.s.bw.size); clear z0 z1 z2 z3 z4 z5 z6 z7 z8; have z0 := (HI7.out).s.eo.cells.1; have z1 := (HI7.out).s.eo.cells.2.1; have z2 := (HI7.out).s.eo.cells.2.2; have z3 := (HI7.out).ex.cells.1; have z4 := (HI7.out).ex.cells.2.1; have z5 := (HI7.out).ex.cells.2.2; have z6 := (HI7.out).s.eo.frozen 0; have z7 := (HI7.out).s.eo.frozen 1; have z8 := (HI7.out).s.eo.frozen 2; rw [HBX.out] at z3; rw [HBO.out] at z0; clear hb7 hcm7)
     clear z0 z1 z2 z3 z4 z5 z6 z7 z8
     have HI8 := Aside0.mk (HI7.out.set 2 (.slice A7 (bothR r.2.last q.2.last).length c7) ⟨r.2.null, r.2.first, bothR r.2.last q.2.last⟩ _ _ rfl HI7.out.s.f1 HV7.out)
     obtain ⟨W8, hW8⟩ : ∃ w, W7.setCell ⟨OB, 2, none⟩ (.slice A7 (bothR r.2.last q.2.last).length c7) = w := ⟨_, rfl⟩
     rw [hW8] at HI8 ⊢
     clear hW8
     have z0 := (HI8.out).s.eo.cells.1
     have z1 := (HI8.out).s.eo.cells.2.1
     have z2 := (HI8.out).s.eo.cells.2.2
     have z3 := (HI8.out).ex.cells.1
     have z4 := (HI8.out).ex.cells.2.1
     have z5 := (HI8.out).ex.cells.2.2
     have z6 := (HI8.out).s.eo.frozen 0
     have z7 := (HI8.out).s.eo.frozen 1
     have z8 := (HI8.out).s.eo.frozen 2
     rw [HBX.out] at z3
     rw [show (⟨r.2.null, r.2.first, bothR r.2.last q.2.last⟩ : Ed).null = false from HBO.out] at z0
     go_wp2_with fail
     clear z0 z1 z2 z3 z4 z5 z6 z7 z8
     have HI9 := Aside0.mk (HI8.out.set 0 (.bool false) ⟨false, r.2.first, bothR r.2.last q.2.last⟩ _ _ rfl HI8.out.s.f1 HI8.out.s.f2)
     go_roundg (gk - 1)
     case measure => have := HQ.out; omega
     case rel =>
      refine ⟨i + 1, catOne q r.2, vS2, vF2, (.slice L1 r.2.first.length k1), (.slice A7 (bothR r.2.last q.2.last).length c7), by rw [show wrap64 ((i : Int) + 1) = ((i + 1 : Nat) : Int) by have := HIL.out; have := HLL.out; unfold wrap64; omega], ⟨by have := HK.out; have := HQ.out; omega⟩, ⟨by rw [take_rd HIL.out, catR_snoc, ← HRR.out, ← HXX.out, ← HQQ.out]⟩, ⟨?_⟩⟩
      have he : catOne q r.2 = (⟨q.1.sets, afterR q.1.fol r.2.last q.2.first⟩, ⟨false, r.2.first, bothR r.2.last q.2.last⟩) := by unfold catOne; rw [HBX.out, HBO.out]; rfl
      rw [he]
      exact HI9.out.s
   case true =>
    have HBO := Aside0.mk hbo
    have z0 := (HI4.out).s.eo.cells.1
    have z1 := (HI4.out).s.eo.cells.2.1
    have z2 := (HI4.out).s.eo.cells.2.2
    have z3 := (HI4.out).ex.cells.1
    have z4 := (HI4.out).ex.cells.2.1
    have z5 := (HI4.out).ex.cells.2.2
    have z6 := (HI4.out).s.eo.frozen 0
    have z7 := (HI4.out).s.eo.frozen 1
    have z8 := (HI4.out).s.eo.frozen 2
    rw [hbo] at z0
    clear hbo
    go_upto_region 9 with (go_at_call 76; refine (both_calls L1 k1 r.2.first M1 d1 q.2.first W4 (Kd.R_reads' HI4.out.s.f1).2.2 (Kd.R_reads' HI4.out.s.f1).2.1 (Kd.R_reads' HI4.out.g1).2.2 (Kd.R_reads' HI4.out.g1).2.1 (by have := HLB.out; omega)).mono ?_; rintro e W5 ⟨A5, c5, rfl, hb5, hcm5⟩; have HI5 := Aside0.mk (HI4.out.later hb5); have HV5 := Aside0.mk (Came.rowI hcm5 HI4.out.s.f1 HI4.out.s.mm hb5 HI4.out.s.bw.size); clear z0 z1 z2 z3 z4 z5 z6 z7 z8; have z0 := (HI5.out).s.eo.cells.1; have z1 := (HI5.out).s.eo.cells.2.1; have z2 := (HI5.out).s.eo.cells.2.2; have z3 := (HI5.out).ex.cells.1; have z4 := (HI5.out).ex.cells.2.1; have z5 := (HI5.out).ex.cells.2.2; have z6 := (HI5.out).s.eo.frozen 0; have z7 := (HI5.out).s.eo.frozen 1; have z8 := (HI5.out).s.eo.frozen 2; rw [HBO.out] at z0; clear hb5 hcm5)
    clear z0 z1 z2 z3 z4 z5 z6 z7 z8
    have HI6 := Aside0.mk (HI5.out.set 1 (.slice A5 (bothR r.2.first q.2.first).length c5) ⟨r.2.null, bothR r.2.first q.2.first, r.2.last⟩ _ _ rfl HV5.out HI5.out.s.f2)
    obtain ⟨W6, hW6⟩ : ∃ w, W5.setCell ⟨OB, 1, none⟩ (.slice A5 (bothR r.2.first q.2.first).length c5) = w := ⟨_, rfl⟩
    rw [hW6] at HI6 ⊢
    clear hW6
    cases hbx : q.2.null
    case false =>
     have HBX := Aside0.mk hbx
     have z0 := (HI6.out).s.eo.cells.1
     have z1 := (HI6.out).s.eo.cells.2.1
     have z2 := (HI6.out).s.eo.cells.2.2
     have z3 := (HI6.out).ex.cells.1
     have z4 := (HI6.out).ex.cells.2.1
     have z5 := (HI6.out).ex.cells.2.2
     have z6 := (HI6.out).s.eo.frozen 0
     have z7 := (HI6.out).s.eo.frozen 1
     have z8 := (HI6.out).s.eo.frozen 2
     rw [hbx] at z3
     rw [HBO.out] at z0
     clear hbx
     go_upto_region 12 with fail
     clear z0 z1 z2 z3 z4 z5 z6 z7 z8
     have HI8 := Aside0.mk (HI6.out.set 2 (.slice M2 q.2.last.length d2) ⟨r.2.null, bothR r.2.first q.2.first, q.2.last⟩ _ _ rfl HI6.out.s.f1 HI6.out.g2)
     obtain ⟨W8, hW8⟩ : ∃ w, W6.setCell ⟨OB, 2, none⟩ (.slice M2 q.2.last.length d2) = w := ⟨_, rfl⟩
     rw [hW8] at HI8 ⊢
     clear hW8
     have z0 := (HI8.out).s.eo.cells.1
     have z1 := (HI8.out).s.eo.cells.2.1
     have z2 := (HI8.out).s.eo.cells.2.2
     have z3 := (HI8.out).ex.cells.1
     have z4 := (HI8.out).ex.cells.2.1
     have z5 := (HI8.out).ex.cells.2.2
     have z6 := (HI8.out).s.eo.frozen 0
     have z7 := (HI8.out).s.eo.frozen 1
     have z8 := (HI8.out).s.eo.frozen 2
     rw [HBX.out] at z3
     rw [show (⟨r.2.null, bothR r.2.first q.2.first, q.2.last⟩ : Ed).null = true from HBO.out] at z0
     go_wp2_with fail
     clear z0 z1 z2 z3 z4 z5 z6 z7 z8
     have HI9 := Aside0.mk (HI8.out.set 0 (.bool false) ⟨false, bothR r.2.first q.2.first, q.2.last⟩ _ _ rfl HI8.out.s.f1 HI8.out.s.f2)
     go_roundg (gk - 1)
     case measure => have := HQ.out; omega
     case rel =>
      refine ⟨i + 1, catOne q r.2, vS2, vF2, (.slice A5 (bothR r.2.first q.2.first).length c5), (.slice M2 q.2.last.length d2), by rw [show wrap64 ((i : Int) + 1) = ((i + 1 : Nat) : Int) by have := HIL.out; have := HLL.out; unfold wrap64; omega], ⟨by have := HK.out; have := HQ.out; omega⟩, ⟨by rw [take_rd HIL.out, catR_snoc, ← HRR.out, ← HXX.out, ← HQQ.out]⟩, ⟨?_⟩⟩
      have he : catOne q r.2 = (⟨q.1.sets, afterR q.1.fol r.2.last q.2.first⟩, ⟨false, bothR r.2.first q.2.first, q.2.last⟩) := by unfold catOne; rw [HBX.out, HBO.out]; rfl
      rw [he]
      exact HI9.out.s
    case true =>
     have HBX := Aside0.mk hbx
     have z0 := (HI6.out).s.eo.cells.1
     have z1 := (HI6.out).s.eo.cells.2.1
     have z2 := (HI6.out).s.eo.cells.2.2
     have z3 := (HI6.out).ex.cells.1
     have z4 := (HI6.out).ex.cells.2.1
     have z5 := (HI6.out).ex.cells.2.2
     have z6 := (HI6.out).s.eo.frozen 0
     have z7 := (HI6.out).s.eo.frozen 1
     have z8 := (HI6.out).s.eo.frozen 2
     rw [hbx] at z3
     rw [HBO.out] at z0
     clear hbx
     go_upto_region 12 with (go_at_call 76; refine (both_calls L2 k2 r.2.last M2 d2 q.2.last W6 (Kd.R_reads' HI6.out.s.f2).2.2 (Kd.R_reads' HI6.out.s.f2).2.1 (Kd.R_reads' HI6.out.g2).2.2 (Kd.R_reads' HI6.out.g2).2.1 (by have := HLB.out; omega)).mono ?_; rintro e W7 ⟨A7, c7, rfl, hb7, hcm7⟩; have HI7 := Aside0.mk (HI6.out.later hb7); have HV7 := Aside0.mk (Came.rowI hcm7 HI6.out.s.f2 HI6.out.s.mm hb7 HI6.out.s.bw.size); clear z0 z1 z2 z3 z4 z5 z6 z7 z8; have z0 := (HI7.out).s.eo.cells.1; have z1 := (HI7.out).s.eo.cells.2.1; have z2 := (HI7.out).s.eo.cells.2.2; have z3 := (HI7.out).ex.cells.1; have z4 := (HI7.out).ex.cells.2.1; have z5 := (HI7.out).ex.cells.2.2; have z6 := (HI7.out).s.eo.frozen 0; have z7 := (HI7.out).s.eo.frozen 1; have z8 := (HI7.out).s.eo.frozen 2; rw [HBX.out] at z3; rw [HBO.out] at z0; clear hb7 hcm7)
     clear z0 z1 z2 z3 z4 z5 z6 z7 z8
     have HI8 := Aside0.mk (HI7.out.set 2 (.slice A7 (bothR r.2.last q.2.last).length c7) ⟨r.2.null, bothR r.2.first q.2.first, bothR r.2.last q.2.last⟩ _ _ rfl HI7.out.s.f1 HV7.out)
     obtain ⟨W8, hW8⟩ : ∃ w, W7.setCell ⟨OB, 2, none⟩ (.slice A7 (bothR r.2.last q.2.last).length c7) = w := ⟨_, rfl⟩
     rw [hW8] at HI8 ⊢
     clear hW8
     have z0 := (HI8.out).s.eo.cells.1
     have z1 := (HI8.out).s.eo.cells.2.1
     have z2 := (HI8.out).s.eo.cells.2.2
     have z3 := (HI8.out).ex.cells.1
     have z4 := (HI8.out).ex.cells.2.1
     have z5 := (HI8.out).ex.cells.2.2
     have z6 := (HI8.out).s.eo.frozen 0
     have z7 := (HI8.out).s.eo.frozen 1
     have z8 := (HI8.out).s.eo.frozen 2
     rw [HBX.out] at z3
     rw [show (⟨r.2.null, bothR r.2.first q.2.first, bothR r.2.last q.2.last⟩ : Ed).null = true from HBO.out] at z0
     go_wp2_with fail
     clear z0 z1 z2 z3 z4 z5 z6 z7 z8
     have HI9 := Aside0.mk (HI8.out.set 0 (.bool true) ⟨true, bothR r.2.first q.2.first, bothR r.2.last q.2.last⟩ _ _ rfl HI8.out.s.f1 HI8.out.s.f2)
     go_roundg (gk - 1)
     case measure => have := HQ.out; omega
     case rel =>
      refine ⟨i + 1, catOne q r.2, vS2, vF2, (.slice A5 (bothR r.2.first q.2.first).length c5), (.slice A7 (bothR r.2.last q.2.last).length c7), by rw [show wrap64 ((i : Int) + 1) = ((i + 1 : Nat) : Int) by have := HIL.out; have := HLL.out; unfold wrap64; omega], ⟨by have := HK.out; have := HQ.out; omega⟩, ⟨by rw [take_rd HIL.out, catR_snoc, ← HRR.out, ← HXX.out, ← HQQ.out]⟩, ⟨?_⟩⟩
      have he : catOne q r.2 = (⟨q.1.sets, afterR q.1.fol r.2.last q.2.first⟩, ⟨true, bothR r.2.first q.2.first, bothR r.2.last q.2.last⟩) := by unfold catOne; rw [HBX.out, HBO.out]; rfl
      rw [he]
      exact HI9.out.s
end Go.Proofs.Ytemlgmkbonpniaa.Print
