/- subset.Build as plain functions, and what it keeps in memory. -/
import Derived.Test.YtemlgmkbonpniaaSMet
import Derived.Test.YtemlgmkbonpniaaSCon
import Derived.Test.YtemlgmkbonpniaaFAutoM
namespace Go.Proofs.Ytemlgmkbonpniaa.Print
open Go.RowKit Go.Maps Go.Proofs.YtemlgmkbonpniaaW.PrintWords Go.Proofs.YtemlgmkbonpniaaW.PrintLast Go.Proofs.YtemlgmkbonpniaaW.PrintMore
set_option linter.unusedVariables false
set_option linter.unusedSimpArgs false
abbrev Dt := List (List Int) × List Bool × Int
/-- The places behind a sign; free, a word may begin there too. -/
def xOf (r : Bt) (free : Bool) (a : List Int) (m : Int) : List Int := if free = true then 0 :: stepR r.2.1 r.2.2.1 r.2.2.2.2.1 a m else stepR r.2.1 r.2.2.1 r.2.2.2.2.1 a m
def rowGo (r : Bt) (free : Bool) (lim : Int) (a : List Int) : List Int → List (List Int) → List Int → Option (List (List Int) × List Int)
  | [], sts, row => some (sts, row)
  | m :: ms, sts, row => if lim < ((metR sts (xOf r free a m)).2.length : Int) then none else rowGo r free lim a ms (metR sts (xOf r free a m)).2 (row ++ [((metR sts (xOf r free a m)).1 : Int)])
def goD (r : Bt) (free : Bool) (lim : Int) (masks : List Int) : Nat → Nat → List (List Int) → List (List Int) → List Bool → Dt
  | 0, _, _, _, _ => ([], [], 8)
  | k + 1, s, sts, next, fin => if s < sts.length then (match rowGo r free lim (stR sts s) masks sts [] with
    | none => ([], [], 8)
    | some t => goD r free lim masks k (s + 1) t.1 (next ++ [t.2]) (fin ++ [endR r.1 r.2.2.2.1 (stR sts s)])) else (next, fin, 0)
/-- What subset.Build answers. -/
def subsetR (r : Bt) (masks : List Int) (free : Bool) (lim : Int) : Dt :=
  if masks.length < 1 ∨ 200 < masks.length ∨ lim < 1 ∨ 5000 < lim then ([], [], 1) else goD r free lim masks (lim.toNat + 1) 0 [[0]] [] []
/-! ### states that may be -/
def OkSt (r : Bt) (l : List Int) : Prop := (∀ t ∈ l, 0 ≤ t ∧ t ≤ (r.2.1.length : Int)) ∧ l.length ≤ 301
structure StsOk (r : Bt) (lim : Int) (sts : List (List Int)) : Prop where
  nd : sts.Nodup
  len : (sts.length : Int) ≤ lim
  good : ∀ l ∈ sts, OkSt r l
theorem OkSt.small {r : Bt} (hA : Auto r) {l : List Int} (h : OkSt r l) : Small l := fun t ht => by have h1 := h.1 t ht; have h2 := hA.m; omega
theorem xOf_ok {r : Bt} (hA : Auto r) {a : List Int} (h : OkSt r a) (free : Bool) (m : Int) : OkSt r (xOf r free a m) := by
  have hg := step_good hA (auto_ok hA h.1 h.2) m
  have hl := hg.len
  have hm := hA.m
  unfold xOf
  split
  · refine ⟨fun t ht => ?_, by rw [List.length_cons]; omega⟩
    rcases List.mem_cons.1 ht with rfl | ht
    · omega
    · have := hg.2 t ht; omega
  · exact ⟨fun t ht => by have := hg.2 t ht; omega, by omega⟩
theorem metR_len (sts : List (List Int)) (x : List Int) : sts.length ≤ (metR sts x).2.length ∧ (metR sts x).2.length ≤ sts.length + 1 := by
  unfold metR
  split
  · exact ⟨Nat.le_refl _, Nat.le_succ _⟩
  · show sts.length ≤ (sts ++ [x]).length ∧ (sts ++ [x]).length ≤ _; rw [List.length_append]; exact ⟨Nat.le_add_right _ _, Nat.le_refl _⟩
theorem metR_old (sts : List (List Int)) (x : List Int) {i : Nat} (h : i < sts.length) : stR (metR sts x).2 i = stR sts i := by
  unfold metR
  split
  · rfl
  · show stR (sts ++ [x]) i = _; rw [stR_snoc _ _ _ (by omega), if_pos h]
theorem metR_lt (sts : List (List Int)) (x : List Int) : (metR sts x).1 < (metR sts x).2.length := by
  unfold metR
  split
  next h => exact (stR_idx h).1
  · show sts.length < (sts ++ [x]).length; simp
theorem metR_is (sts : List (List Int)) (x : List Int) : stR (metR sts x).2 (metR sts x).1 = x := by
  unfold metR
  split
  next h => exact (stR_idx h).2
  · show stR (sts ++ [x]) sts.length = _; rw [stR_snoc _ _ _ (by omega), if_neg (by omega)]
theorem metR_ok {r : Bt} {lim : Int} {sts : List (List Int)} (h : StsOk r lim sts) {x : List Int} (hx : OkSt r x) (hl : ((metR sts x).2.length : Int) ≤ lim) : StsOk r lim (metR sts x).2 := by
  refine ⟨?_, hl, ?_⟩
  · unfold metR
    split
    · exact h.nd
    next hn =>
      show (sts ++ [x]).Nodup
      rw [List.nodup_append]
      exact ⟨h.nd, by simp, fun a ha b hb e => hn (by rw [List.mem_singleton] at hb; rw [← hb, ← e]; exact ha)⟩
  · unfold metR
    split
    · exact h.good
    · intro l hl
      rcases List.mem_append.1 hl with hl | hl
      · exact h.good l hl
      · rw [List.mem_singleton.1 hl]; exact hx
/-! ### memory -/
structure SBW (w0 : World) (NB RB DB KB MP SB : Nat) (box : Array Value) (sts next : List (List Int)) (fin : List Bool) (row : List Int) (vs vn vf vr dn df : Value) (W : World) : Prop where
  bw : Below w0.heap.size w0 W
  nb : W.heap[NB]? = some (.cells box 30 (0, 0))
  rb : W.heap[RB]? = some (.cells #[nilV, nilV] 47 (0, 0))
  db : W.heap[DB]? = some (.cells #[dn, df] 47 (0, 0))
  mi : MetI w0.heap.size KB MP SB sts sts vs vs (fun k => some k ≠ vn.ownBlock ∧ some k ≠ vr.ownBlock) W
  nx : Kd.R kL 27 W w0.heap.size (fun k => some k ≠ vs.ownBlock ∧ some k ≠ vr.ownBlock) vn next
  fi : Kd.R Kd.bool 4 W w0.heap.size (fun _ => True) vf fin
  ro : Kd.R (Kd.int .i64) 3 W w0.heap.size (fun _ => True) vr row
  lo : w0.heap.size ≤ NB ∧ w0.heap.size ≤ RB ∧ w0.heap.size ≤ DB ∧ RB ≠ DB
section
variable {w0 W W' : World} {NB RB DB KB MP SB : Nat} {box : Array Value} {sts next sts' next' : List (List Int)} {fin fin' : List Bool} {row row' : List Int} {vs vn vf vr dn df v1 : Value}
theorem SBW.below (h : SBW w0 NB RB DB KB MP SB box sts next fin row vs vn vf vr dn df W) (hb : Below W.heap.size W W') : SBW w0 NB RB DB KB MP SB box sts next fin row vs vn vf vr dn df W' :=
  ⟨h.bw.trans (hb.mono h.bw.size), blk_below h.nb hb, blk_below h.rb hb, blk_below h.db hb, h.mi.below hb, Kd.R_below h.nx hb, Kd.R_below h.fi hb, Kd.R_below h.ro hb, h.lo⟩
theorem met_off {okS : Nat → Prop} {b0 : Nat} (h : MetI b0 KB MP SB sts sts vs vs okS W) {k t : Nat} {cs : Array Value} (hk : W.heap[k]? = some (.cells cs t (0, 0))) (h28 : t ≠ 28) (h27 : t ≠ 27) : ¬ MetS MP SB vs k := by
  rintro (e | e | e)
  · obtain ⟨g, hm, _⟩ := h.map; exact hm.ne hk e
  · exact blk_ne hk h.sb h28 e
  · exact Kd.R_ne h.rows hk (fun e => h27 e.symm) e
theorem SBW.met (h : SBW w0 NB RB DB KB MP SB box sts next fin row vs vn vf vr dn df W) (hm : MetI w0.heap.size KB MP SB sts' sts' v1 v1 (fun k => some k ≠ vn.ownBlock ∧ some k ≠ vr.ownBlock) W') (hat : v1.ownBlock = vs.ownBlock ∨ ∃ b, v1.ownBlock = some b ∧ W.heap.size ≤ b) (hk : MetK (MetS MP SB vs) W W') :
    SBW w0 NB RB DB KB MP SB box sts' next fin row v1 vn vf vr dn df W' := by
  have hlow : ∀ k, MetS MP SB vs k → w0.heap.size ≤ k := by
    rintro k (e | e | e)
    · rw [e]; exact h.mi.lo.2.1
    · rw [e]; exact h.mi.lo.2.2
    · exact Kd.R_base h.mi.rows k e.symm
  refine ⟨h.bw.trans (hk.below hlow h.bw.size), (hk.block NB (blk_lt h.nb) (met_off h.mi h.nb (by decide) (by decide))).trans h.nb, (hk.block RB (blk_lt h.rb) (met_off h.mi h.rb (by decide) (by decide))).trans h.rb, (hk.block DB (blk_lt h.db) (met_off h.mi h.db (by decide) (by decide))).trans h.db, hm, ?_, ?_, ?_, h.lo⟩
  · have e28 : ∀ q, q ∈ 27 :: kL.E → q ≠ 28 := fun q hq => by simp [kL, Kd.slice, Kd.int, Kd.scalar] at hq; omega
    refine Kd.R_mono (hk.R (Kd.R_bound h.nx) (fun k hk => ?_)) (fun k hk => ⟨?_, hk.1.2⟩)
    · rintro (e | e | e)
      · obtain ⟨_, _, _, q, hq, cs, hc⟩ := hk; obtain ⟨g, hm, _⟩ := h.mi.map; exact hm.ne hc e
      · obtain ⟨_, _, _, q, hq, cs, hc⟩ := hk; exact blk_ne hc h.mi.sb (e28 q hq) e
      · exact hk.1.1 e
    · rcases hat with e | ⟨b, e, hb⟩
      · rw [e]; exact hk.1.1
      · rw [e]; intro e2; have := Option.some.inj e2; have := hk.2.2.1; omega
  · refine Kd.R_mono (hk.R (Kd.R_bound h.fi) (fun k hk => ?_)) (fun k hk => trivial)
    obtain ⟨_, _, _, q, hq, cs, hc⟩ := hk
    exact met_off h.mi hc (by simp [Kd.bool, Kd.scalar] at hq; omega) (by simp [Kd.bool, Kd.scalar] at hq; omega)
  · refine Kd.R_mono (hk.R (Kd.R_bound h.ro) (fun k hk => ?_)) (fun k hk => trivial)
    obtain ⟨_, _, _, q, hq, cs, hc⟩ := hk
    exact met_off h.mi hc (by simp [Kd.int, Kd.scalar] at hq; omega) (by simp [Kd.int, Kd.scalar] at hq; omega)
theorem MetI.grow {ok ok' : Nat → Prop} {b0 : Nat} {v : Value} (h : MetI b0 KB MP SB sts sts vs vs ok W) (hg : W.grownBy W' v.ownBlock) (hty : ∀ k, v.ownBlock = some k → ∃ q cs, q ≠ 84 ∧ q ≠ 28 ∧ W.heap[k]? = some (.cells cs q (0, 0))) (hR : Kd.R kL 27 W' b0 ok' vs sts) : MetI b0 KB MP SB sts sts vs vs ok' W' := by
  obtain ⟨g, hm, hmt⟩ := h.map
  refine ⟨blk_grown h.kb hg (fun e => ?_), ⟨g, hm.move (hg.block MP hm.lt (fun e => ?_)), hmt⟩, blk_grown h.sb hg (fun e => ?_), hR, h.lo⟩
  · obtain ⟨q, cs, h1, _, h2⟩ := hty _ e.symm; rw [h.kb] at h2; cases h2; exact h1 rfl
  · obtain ⟨q, cs, _, _, h2⟩ := hty _ e.symm; exact hm.ne h2 rfl
  · obtain ⟨q, cs, _, h1, h2⟩ := hty _ e.symm; rw [h.sb] at h2; cases h2; exact h1 rfl
theorem MetI.mono {ok ok' : Nat → Prop} {b0 : Nat} (h : MetI b0 KB MP SB sts sts vs vs ok W) (hok : ∀ k, ok k → ok' k) : MetI b0 KB MP SB sts sts vs vs ok' W := ⟨h.kb, h.map, h.sb, Kd.R_mono h.rows hok, h.lo⟩
/-- The row has grown. -/
theorem SBW.app (h : SBW w0 NB RB DB KB MP SB box sts next fin row vs vn vf vr dn df W) (hg : W.grownBy W' vr.ownBlock) (hat : v1.ownBlock = vr.ownBlock ∨ ∃ b, v1.ownBlock = some b ∧ W.heap.size ≤ b) (hR : Kd.R (Kd.int .i64) 3 W' w0.heap.size (fun _ => True) v1 row') :
    SBW w0 NB RB DB KB MP SB box sts next fin row' vs vn vf v1 dn df W' :=
  ⟨h.bw.trans (Below.grown (Below.refl _ W) hg h.bw.size (fun k hk => Kd.R_base h.ro k hk)), blk_grown h.nb hg (Kd.R_ne h.ro h.nb (by decide)), blk_grown h.rb hg (Kd.R_ne h.ro h.rb (by decide)), blk_grown h.db hg (Kd.R_ne h.ro h.db (by decide)),
   h.mi.grow hg (fun k hk => by obtain ⟨cs, hc⟩ := Kd.R_typed h.ro k hk; exact ⟨3, cs, by decide, by decide, hc⟩) (Kd.R_after h.mi.rows hg hat), Kd.R_after h.nx hg hat, Kd.R_over' h.fi (Kd.R_typed h.ro) (fun q hq => by simp [Kd.bool, Kd.scalar] at hq; omega) hg, hR, h.lo⟩
/-- A row is put to what has been made; a new one is begun. -/
theorem SBW.nextApp (h : SBW w0 NB RB DB KB MP SB box sts next fin row vs vn vf vr dn df W) (hg : W.grownBy W' vn.ownBlock) (hat : v1.ownBlock = vn.ownBlock ∨ ∃ b, v1.ownBlock = some b ∧ W.heap.size ≤ b) (hR : Kd.R kL 27 W' w0.heap.size (fun k => some k ≠ vs.ownBlock) v1 next') :
    SBW w0 NB RB DB KB MP SB box sts next' fin [] vs v1 vf nilV dn df W' :=
  ⟨h.bw.trans (Below.grown (Below.refl _ W) hg h.bw.size (fun k hk => Kd.R_base h.nx k hk)), blk_grown h.nb hg (Kd.R_ne h.nx h.nb (by decide)), blk_grown h.rb hg (Kd.R_ne h.nx h.rb (by decide)), blk_grown h.db hg (Kd.R_ne h.nx h.db (by decide)),
   h.mi.grow hg (fun k hk => by obtain ⟨cs, hc⟩ := Kd.R_typed h.nx k hk; exact ⟨27, cs, by decide, by decide, hc⟩) (Kd.R_mono (Kd.R_after (ok := fun _ => True) (Kd.R_mono h.mi.rows (fun k hk => ⟨trivial, hk.1⟩)) hg hat) (fun k hk => ⟨hk.2, by simp [nilV, Value.ownBlock]⟩)),
   Kd.R_mono hR (fun k hk => ⟨hk, by simp [nilV, Value.ownBlock]⟩), Kd.R_over' h.fi (Kd.R_typed h.nx) (fun q hq => by simp [Kd.bool, Kd.scalar] at hq; omega) hg, Kd.R_nil _ _ _ _ _, h.lo⟩
theorem SBW.finApp (h : SBW w0 NB RB DB KB MP SB box sts next fin row vs vn vf vr dn df W) (hg : W.grownBy W' vf.ownBlock) (hR : Kd.R Kd.bool 4 W' w0.heap.size (fun _ => True) v1 fin') :
    SBW w0 NB RB DB KB MP SB box sts next fin' row vs vn v1 vr dn df W' :=
  ⟨h.bw.trans (Below.grown (Below.refl _ W) hg h.bw.size (fun k hk => Kd.R_base h.fi k hk)), blk_grown h.nb hg (Kd.R_ne h.fi h.nb (by decide)), blk_grown h.rb hg (Kd.R_ne h.fi h.rb (by decide)), blk_grown h.db hg (Kd.R_ne h.fi h.db (by decide)),
   h.mi.grow hg (fun k hk => by obtain ⟨cs, hc⟩ := Kd.R_typed h.fi k hk; exact ⟨4, cs, by decide, by decide, hc⟩) (Kd.R_over' h.mi.rows (Kd.R_typed h.fi) (fun q hq => by simp [kL, Kd.slice, Kd.int, Kd.scalar] at hq; omega) hg),
   Kd.R_over' h.nx (Kd.R_typed h.fi) (fun q hq => by simp [kL, Kd.slice, Kd.int, Kd.scalar] at hq; omega) hg, hR, Kd.R_over' h.ro (Kd.R_typed h.fi) (fun q hq => by simp [Kd.int, Kd.scalar] at hq; omega) hg, h.lo⟩
/-- A cell of a block of kind 47 is written. -/
theorem SBW.put {dn' df' : Value} (h : SBW w0 NB RB DB KB MP SB box sts next fin row vs vn vf vr dn df W) (i : Nat) (u : Value) (e : (#[dn, df] : Array Value).setIfInBounds i u = #[dn', df']) : SBW w0 NB RB DB KB MP SB box sts next fin row vs vn vf vr dn' df' (W.setCell ⟨DB, i, none⟩ u) := by
  have hl := h.lo.2.2.1
  have e27 : ∀ q, q ∈ 27 :: kL.E → q ≠ 47 := fun q hq => by simp [kL, Kd.slice, Kd.int, Kd.scalar] at hq; omega
  obtain ⟨g, hm, hmt⟩ := h.mi.map
  exact ⟨h.bw.trans ⟨rfl, rfl, rfl, by simp [World.setCell], fun j hj => Below.heap_setCell _ _ _ j (by show j ≠ DB; omega)⟩, blk_far h.nb (blk_ne h.nb h.db (by decide)) u, blk_far h.rb h.lo.2.2.2 u, blk_put h.db i u e,
    ⟨blk_far h.mi.kb (blk_ne h.mi.kb h.db (by decide)) u, ⟨g, hm.move (Below.heap_setCell _ _ _ MP (fun e => hm.ne h.db e.symm)), hmt⟩, blk_far h.mi.sb (blk_ne h.mi.sb h.db (by decide)) u, Kd.R_set h.mi.rows h.db e27 i u, h.mi.lo⟩,
    Kd.R_set h.nx h.db e27 i u, Kd.R_set h.fi h.db (fun q hq => by simp [Kd.bool, Kd.scalar] at hq; omega) i u, Kd.R_set h.ro h.db (fun q hq => by simp [Kd.int, Kd.scalar] at hq; omega) i u, h.lo⟩
end
end Go.Proofs.Ytemlgmkbonpniaa.Print
