/- What a cache is in memory: the block behind the pointer, the map, the order; what its methods come to. -/
import Derived.Test.YtjpbcmfppmiagaaDel
namespace Go.Proofs.Ytjpbcmfppmiagaa.Print
open Go.RowKit Go.Maps Go.Proofs.YtjpbcmfppmiagaaW.PrintWords Go.Proofs.YtjpbcmfppmiagaaW.PrintLast Go.Proofs.YtjpbcmfppmiagaaW.PrintMore
set_option linter.unusedVariables false
set_option linter.unusedSimpArgs false

theorem grownBy_set (W : World) (b j : Nat) (v : Value) : W.grownBy (W.setCell ⟨b, j, none⟩ v) (some b) :=
  ⟨rfl, rfl, rfl, by simp, fun k _ hk => Below.heap_setCell _ _ _ k (fun e => hk (by rw [e]))⟩
abbrev Lists := ByteArray → Option (List Int)
def setL (m : Lists) (k : ByteArray) (l : Option (List Int)) : Lists := fun s => if s = k then l else m s
/-- The map's lists: m tells of each key. -/
def MapL (ok : Nat → Prop) (W : World) (base MB : Nat) (m : Lists) : Prop := ∃ g, MapG W MB g ∧ (∀ k, g k = none ↔ m k = none) ∧ ∀ k v l, g k = some v → m k = some l → Kd.R (Kd.int .i64) 3 W base ok v l
structure CInv (ok : Nat → Prop) (base CB MB : Nat) (vO : Value) (most : Int) (m : Lists) (o : List ByteArray) (h nt : Int) (W : World) : Prop where
  blk : W.heap[CB]? = some (.cells #[.int .i64 most, .map (some MB), vO, .int .i64 h, .int .i64 nt] 58 (0, 0))
  map : MapL ok W base MB m
  ord : Kd.R Kd.string 9 W base (fun _ => True) vO o
  hC : base ≤ CB
  hM : base ≤ MB
/-- What a method may turn: the cache's block, its map, rows of strings that are the call's own. -/
structure Turn (base CB MB : Nat) (W W' : World) : Prop where
  os : W'.os = W.os
  tape : W'.tape = W.tape
  output : W'.output = W.output
  size : W.heap.size ≤ W'.heap.size
  block : ∀ k, k < W.heap.size → k ≠ CB → k ≠ MB → (base ≤ k → ∀ cs, W.heap[k]? ≠ some (.cells cs 9 (0, 0))) → W'.heap[k]? = W.heap[k]?

section
variable {ok : Nat → Prop} {base CB MB : Nat} {W W' W'' : World} {vO vO' v : Value} {most h nt : Int} {m : Lists} {o o' : List ByteArray}
theorem Turn.refl (W : World) : Turn base CB MB W W := ⟨rfl, rfl, rfl, Nat.le_refl _, fun _ _ _ _ _ => rfl⟩
theorem Turn.trans (a : Turn base CB MB W W') (b : Turn base CB MB W' W'') : Turn base CB MB W W'' :=
  ⟨b.os.trans a.os, b.tape.trans a.tape, b.output.trans a.output, Nat.le_trans a.size b.size, fun k hk h1 h2 h3 => by
    have e := a.block k hk h1 h2 h3
    exact (b.block k (Nat.lt_of_lt_of_le hk a.size) h1 h2 (fun hb cs => by rw [e]; exact h3 hb cs)).trans e⟩
theorem Turn.of_below (hb : Below W.heap.size W W') : Turn base CB MB W W' := ⟨hb.os, hb.tape, hb.output, hb.size, fun k hk _ _ _ => hb.block k hk⟩
theorem Turn.of_map (hg : W.grownBy W' (some MB)) : Turn base CB MB W W' := ⟨hg.os, hg.tape, hg.output, hg.size, fun k hk _ h2 _ => hg.block k hk (fun e => h2 (by injection e))⟩
theorem Turn.of_cache (hg : W.grownBy W' (some CB)) : Turn base CB MB W W' := ⟨hg.os, hg.tape, hg.output, hg.size, fun k hk h1 _ _ => hg.block k hk (fun e => h1 (by injection e))⟩
theorem Turn.of_ord {xs : List ByteArray} (hR : Kd.R Kd.string 9 W base (fun _ => True) v xs) (hg : W.grownBy W' v.ownBlock) : Turn base CB MB W W' :=
  ⟨hg.os, hg.tape, hg.output, hg.size, fun k hk _ _ h3 => hg.block k hk (fun e => by
    obtain ⟨cs, hcs⟩ := Kd.R_typed hR k e.symm
    exact h3 (Kd.R_base hR k e.symm) cs hcs)⟩
theorem Turn.below (h : Turn base CB MB W W') (hC : base ≤ CB) (hM : base ≤ MB) (hs : base ≤ W.heap.size) : Below base W W' := ⟨h.os, h.tape, h.output, h.size, fun k hk => h.block k (by omega) (by omega) (by omega) (fun hb => absurd hb (by omega))⟩
/-- Blocks of another kind are kept. -/
theorem Turn.cells {k t : Nat} {cs : Array Value} (h : Turn base CB MB W W') (hk : W.heap[k]? = some (.cells cs t (0, 0))) (ht : t ≠ 9) (h1 : k ≠ CB) (h2 : k ≠ MB) : W'.heap[k]? = some (.cells cs t (0, 0)) :=
  (h.block k (blk_lt hk) h1 h2 (fun _ cs' e => by rw [hk] at e; injection e with e; injection e with _ e; exact ht e)).trans hk

theorem MapL.lt (hm : MapL ok W base MB m) : MB < W.heap.size := by obtain ⟨g, h1, _⟩ := hm; exact h1.lt
theorem MapL.ne {k t : Nat} {cs : Array Value} (hm : MapL ok W base MB m) (hk : W.heap[k]? = some (.cells cs t (0, 0))) : k ≠ MB := by obtain ⟨g, h1, _⟩ := hm; exact h1.ne hk
/-- What turns neither the map nor a row of numbers. -/
theorem MapL.kept (hm : MapL ok W base MB m) (h1 : W'.heap[MB]? = W.heap[MB]?) (h2 : ∀ (k : Nat) (cs : Array Value), W.heap[k]? = some (Obj.cells cs 3 (0, 0)) → W'.heap[k]? = W.heap[k]?) : MapL ok W' base MB m := by
  obtain ⟨g, g1, g2, g3⟩ := hm
  refine ⟨g, g1.move h1, g2, fun k v l e1 e2 => ?_⟩
  have hR := g3 k v l e1 e2
  refine Kd.R_mono (Kd.R_step (Kd.R_tight rfl hR) (fun j hj _ => ?_)) (fun k h => hR.1 k h.symm)
  obtain ⟨cs, hcs⟩ := Kd.R_typed hR j hj.symm
  exact h2 j cs hcs
theorem MapL.below (hm : MapL ok W base MB m) (hb : Below W.heap.size W W') : MapL ok W' base MB m := hm.kept (hb.block _ hm.lt) (fun k cs hk => hb.block k (blk_lt hk))
theorem MapL.grown {k t : Nat} {cs : Array Value} (hm : MapL ok W base MB m) (hk : W.heap[k]? = some (.cells cs t (0, 0))) (ht : t ≠ 3) (hg : W.grownBy W' (some k)) : MapL ok W' base MB m :=
  hm.kept (hg.block _ hm.lt (fun e => hm.ne hk (by injection e with e; exact e.symm))) (fun j cs' hj => hg.block j (blk_lt hj) (fun e => by injection e with e; subst e; rw [hj] at hk; injection hk with hk; injection hk with _ hk; exact ht hk.symm))
theorem MapL.ordGrown {xs : List ByteArray} (hm : MapL ok W base MB m) (hR : Kd.R Kd.string 9 W base (fun _ => True) v xs) (hg : W.grownBy W' v.ownBlock) : MapL ok W' base MB m := by
  cases q : v.ownBlock with
  | none => rw [q] at hg; exact hm.kept (hg.block _ hm.lt (by simp)) (fun j cs hj => hg.block j (blk_lt hj) (by simp))
  | some k =>
    rw [q] at hg
    obtain ⟨cs, hcs⟩ := Kd.R_typed hR k q
    exact hm.grown hcs (by decide) hg
theorem MapL.set (hm : MapL ok W base MB m) {k : ByteArray} {l : List Int} {g : ByteArray → Option Value} (hg0 : MapG W MB g) (hgm : ∀ k, g k = none ↔ m k = none) (hgv : ∀ k v l, g k = some v → m k = some l → Kd.R (Kd.int .i64) 3 W base ok v l) (hv : Kd.R (Kd.int .i64) 3 W base ok v l)
    (hn : MapG W' MB (fun s => if s = k then some v else g s)) (hg : W.grownBy W' (some MB)) : MapL ok W' base MB (setL m k (some l)) := by
  have keep : ∀ (u : Value) (x : List Int), Kd.R (Kd.int .i64) 3 W base ok u x → Kd.R (Kd.int .i64) 3 W' base ok u x := fun u x hR => Kd.R_grown2 hR rfl hg (fun j hj he => by
    injection hj with hj
    subst hj
    obtain ⟨cs, hcs⟩ := Kd.R_typed hR _ he.symm
    exact hg0.ne hcs rfl)
  refine ⟨_, hn, fun s => ?_, fun s u x e1 e2 => ?_⟩
  · unfold setL
    by_cases e : s = k
    · simp [e]
    · simp [e, hgm]
  · unfold setL at e2
    by_cases e : s = k
    · rw [if_pos e] at e1 e2
      obtain rfl := Option.some.inj e1
      obtain rfl := Option.some.inj e2
      exact keep _ _ hv
    · rw [if_neg e] at e1 e2
      exact keep _ _ (hgv s u x e1 e2)
theorem MapL.erase (hm : MapL ok W base MB m) {k : ByteArray} {g : ByteArray → Option Value} (hg0 : MapG W MB g) (hgm : ∀ k, g k = none ↔ m k = none) (hgv : ∀ k v l, g k = some v → m k = some l → Kd.R (Kd.int .i64) 3 W base ok v l)
    (hn : MapG W' MB (fun s => if s = k then none else g s)) (hg : W.grownBy W' (some MB)) : MapL ok W' base MB (setL m k none) := by
  refine ⟨_, hn, fun s => ?_, fun s u x e1 e2 => ?_⟩
  · unfold setL
    by_cases e : s = k
    · simp [e]
    · simp [e, hgm]
  · unfold setL at e2
    by_cases e : s = k
    · rw [if_pos e] at e1; cases e1
    · rw [if_neg e] at e1 e2
      have hR := hgv s u x e1 e2
      exact Kd.R_grown2 hR rfl hg (fun j hj he => by
        injection hj with hj
        subst hj
        obtain ⟨cs, hcs⟩ := Kd.R_typed hR _ he.symm
        exact hg0.ne hcs rfl)
theorem CInv.later (hi : CInv ok base CB MB vO most m o h nt W) (hb : Below W.heap.size W W') : CInv ok base CB MB vO most m o h nt W' := ⟨blk_below hi.blk hb, hi.map.below hb, Kd.R_below hi.ord hb, hi.hC, hi.hM⟩
/-- A field other than the order is set. -/
theorem CInv.field (hi : CInv ok base CB MB vO most m o h nt W) (j : Nat) (u : Value) {most' h' nt' : Int} (e : (#[.int .i64 most, .map (some MB), vO, .int .i64 h, .int .i64 nt] : Array Value).setIfInBounds j u = #[.int .i64 most', .map (some MB), vO, .int .i64 h', .int .i64 nt']) : CInv ok base CB MB vO most' m o h' nt' (W.setCell ⟨CB, j, none⟩ u) := by
  have hg := grownBy_set W CB j u
  refine ⟨blk_put hi.blk j u e, hi.map.grown hi.blk (by decide) hg, Kd.R_grown2 hi.ord rfl hg (fun k hk he => ?_), hi.hC, hi.hM⟩
  injection hk with hk
  subst hk
  exact Kd.R_ne hi.ord hi.blk (by decide) he
/-- The order is set. -/
theorem CInv.setOrd {vS : Value} (hb : W.heap[CB]? = some (.cells #[.int .i64 most, .map (some MB), vS, .int .i64 h, .int .i64 nt] 58 (0, 0))) (hm : MapL ok W base MB m) (ho : Kd.R Kd.string 9 W base (fun _ => True) v o) (hC : base ≤ CB) (hM : base ≤ MB) : CInv ok base CB MB v most m o h nt (W.setCell ⟨CB, 2, none⟩ v) := by
  have hg := grownBy_set W CB 2 v
  refine ⟨blk_put hb 2 v rfl, hm.grown hb (by decide) hg, Kd.R_grown2 ho rfl hg (fun k hk he => ?_), hC, hM⟩
  injection hk with hk
  subst hk
  exact Kd.R_ne ho hb (by decide) he
theorem CInv.cells (hi : CInv ok base CB MB vO most m o h nt W) : W.cell? ⟨CB, 0, none⟩ = some (.int .i64 most) ∧ W.cell? ⟨CB, 1, none⟩ = some (.map (some MB)) ∧ W.cell? ⟨CB, 2, none⟩ = some vO ∧ W.cell? ⟨CB, 3, none⟩ = some (.int .i64 h) ∧ W.cell? ⟨CB, 4, none⟩ = some (.int .i64 nt) :=
  ⟨(blk_cell hi.blk 0).trans rfl, (blk_cell hi.blk 1).trans rfl, (blk_cell hi.blk 2).trans rfl, (blk_cell hi.blk 3).trans rfl, (blk_cell hi.blk 4).trans rfl⟩
end
end Go.Proofs.Ytjpbcmfppmiagaa.Print
