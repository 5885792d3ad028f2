/- What least.Least comes to, as plain functions; what its loops keep. -/
import Derived.Test.YtadhjjfodpmelaaMet
namespace Go.Proofs.Ytadhjjfodpmelaa.Print
open Go.RowKit Go.Shelf Go.Maps Go.Proofs.YtadhjjfodpmelaaW.PrintWords Go.Proofs.YtadhjjfodpmelaaW.PrintLast Go.Proofs.YtadhjjfodpmelaaW.PrintMore
set_option linter.unusedVariables false
set_option linter.unusedSimpArgs false

/-- The first j numbers of a row of the fewest states, and the order of meeting behind them. -/
def rowUp (kind order l : List Int) : Nat → List Int × List Int
  | 0 => ([], order)
  | j + 1 => ((rowUp kind order l j).1 ++ [metV kind (rowUp kind order l j).2 (rd l j)], metO kind (rowUp kind order l j).2 (rd l j))
/-- The rows: the states are met from the first one on. -/
def leastGo (a : List (List Int)) (b : List Bool) (kind : List Int) : Nat → List (List Int) → List Bool → List Int → List (List Int) × List Bool
  | 0, x, y, o => (x, y)
  | k + 1, x, y, o => if x.length < o.length then leastGo a b kind k (x ++ [(rowUp kind o (rd_L1 a (rd o x.length)) (rd_L1 a (rd o x.length)).length).1]) (y ++ [rdOf false b (rd o x.length)]) (rowUp kind o (rd_L1 a (rd o x.length)) (rd_L1 a (rd o x.length)).length).2 else (x, y)
def leastOf (a : List (List Int)) (b : List Bool) (kind : List Int) : List (List Int) × List Bool := leastGo a b kind (a.length + 1) [] [] [0]

/-- What is known of the order: states of n kinds, no two of one kind. -/
def OrdOk (n : Nat) (kind order : List Int) : Prop := (order.map (rd kind)).Nodup ∧ ∀ x ∈ order, 0 ≤ x ∧ x < n
theorem OrdOk.len {n : Nat} {kind order : List Int} (h : OrdOk n kind order) : order.length ≤ n := by
  have h1 : order.Nodup := by
    have := h.1
    unfold List.Nodup at this ⊢
    rw [List.pairwise_map] at this
    exact this.imp (fun hab e => hab (by rw [e]))
  have h2 : order ⊆ (List.range n).map (fun i : Nat => (i : Int)) := fun x hx => List.mem_map.2 ⟨x.toNat, List.mem_range.2 (by have := h.2 x hx; omega), by have := h.2 x hx; omega⟩
  have := List.Nodup.length_le_of_subset h1 h2
  rwa [List.length_map, List.length_range] at this
theorem OrdOk.met {n : Nat} {kind order : List Int} {s : Int} (h : OrdOk n kind order) (hs : 0 ≤ s ∧ s < n) : OrdOk n kind (metO kind order s) := by
  unfold metO
  by_cases q : rd kind s ∈ order.map (rd kind)
  · rw [if_pos q]; exact h
  · rw [if_neg q]
    refine ⟨?_, fun x hx => ?_⟩
    · rw [List.map_append, List.nodup_append]
      exact ⟨h.1, by simp, fun x hx y hy => by simp at hy; subst hy; exact fun e => q (e ▸ hx)⟩
    · rcases List.mem_append.1 hx with hx | hx
      · exact h.2 x hx
      · simp at hx; subst hx; exact hs
theorem metO_len {kind order : List Int} {s : Int} : order.length ≤ (metO kind order s).length := by
  unfold metO
  split
  · exact Nat.le_refl _
  · rw [List.length_append]; omega
theorem rowUp_len (kind order l : List Int) : ∀ j, (rowUp kind order l j).1.length = j
  | 0 => rfl
  | j + 1 => by rw [rowUp, List.length_append, rowUp_len kind order l j]; rfl
theorem rowUp_ok {n : Nat} {kind order l : List Int} (h : OrdOk n kind order) (hl : ∀ x ∈ l, 0 ≤ x ∧ x < n) : ∀ j, j ≤ l.length → OrdOk n kind (rowUp kind order l j).2
  | 0, _ => h
  | j + 1, hj => by
    rw [rowUp]
    refine (rowUp_ok h hl j (by omega)).met (hl _ ?_)
    unfold rd
    rw [Int.toNat_natCast, List.getD_eq_getElem?_getD, List.getElem?_eq_getElem (by omega)]
    exact List.getElem_mem _
theorem rowUp_mono (kind order l : List Int) : ∀ j, order.length ≤ (rowUp kind order l j).2.length
  | 0 => Nat.le_refl _
  | j + 1 => Nat.le_trans (rowUp_mono kind order l j) (by rw [rowUp]; exact metO_len)

theorem kind_wf {a : List (List Int)} {K : Nat} {kind res : List Int} {many : Int} (h : classesGo a K kind many = some res) : res.length = a.length ∧ ∀ x ∈ res, 0 ≤ x ∧ x < a.length := by
  have hup : ∀ (kind : List Int) (i : Nat), ∀ x ∈ (roundUp kind a i).2, 0 ≤ x ∧ x < i := by
    intro kind i
    induction i with
    | zero => intro x hx; simp [roundUp] at hx
    | succ i ih =>
      intro x hx
      have hlen := (roundUp_len kind a i).2.1
      rw [roundUp] at hx
      by_cases q : keyU kind i (rd_L1 a i) ∈ (roundUp kind a i).1
      · rw [if_pos q] at hx
        rcases List.mem_append.1 hx with hx | hx
        · have := ih x hx; omega
        · have := List.idxOf_lt_length_of_mem q
          simp at hx; omega
      · rw [if_neg q] at hx
        rcases List.mem_append.1 hx with hx | hx
        · have := ih x hx; omega
        · simp at hx; omega
  induction K generalizing kind many with
  | zero => simp [classesGo] at h
  | succ K ih =>
    rw [classesGo] at h
    by_cases q : ((roundUp kind a a.length).1.length : Int) = many
    · rw [if_pos q] at h
      obtain rfl := Option.some.inj h
      exact ⟨(roundUp_len kind a a.length).1, hup kind a.length⟩
    · rw [if_neg q] at h
      exact ih h
theorem rd_wf {n : Nat} {kind : List Int} (hn : n ≤ 5000) (h : ∀ x ∈ kind, 0 ≤ x ∧ x < n) (x : Int) : (Lit.int .i64 (rd kind x)).wf = true := by
  have : rd kind x = 0 ∨ rd kind x ∈ kind := by
    unfold rd
    rw [List.getD_eq_getElem?_getD]
    cases q : kind[x.toNat]? with
    | none => exact .inl rfl
    | some y => exact .inr (List.mem_of_getElem? q)
  have h2 : 0 ≤ rd kind x ∧ rd kind x ≤ 5000 := by
    rcases this with e | e
    · rw [e]; omega
    · have := h _ e; omega
  exact WalkArith.wf_i64 (by omega)

/-- What the loops of Least keep: the places of the argument, of the result, of the boxes, of the map. -/
structure LInv (w : World) (R D KB NB OB MB gg n : Nat) (u0 u1 : Value) (kind : List Int) (vN vF vO : Value) (b : List Bool) (order : List Int) (W : World) : Prop where
  below : Below w.heap.size w W
  xblk : W.heap[w.heap.size]? = some (.cells #[u0, u1] 25 (0, 0))
  res : W.heap[R]? = some (.cells #[.slice none 0 0, .slice none 0 0] 25 (0, 0))
  dblk : W.heap[D]? = some (.cells #[vN, vF] 25 (0, 0))
  kblk : W.heap[KB]? = some (.cells #[.slice (some ⟨gg, 0, none⟩) n n] 33 (0, 0))
  nblk : W.heap[NB]? = some (.cells #[.map (some MB)] 44 (0, 0))
  oblk : W.heap[OB]? = some (.cells #[vO] 33 (0, 0))
  kindR : Kd.R (Kd.int .i64) 3 W w.heap.size (fun _ => True) (.slice (some ⟨gg, 0, none⟩) n n) kind
  ord : Kd.R (Kd.int .i64) 3 W w.heap.size (fun _ => True) vO order
  fin : Kd.R Kd.bool 4 W w.heap.size (fun _ => True) vF b
  num : NumMap intLit Try.prog 3 3 W MB (order.map (rd kind))
  apart : some gg ≠ vO.ownBlock
  hR : w.heap.size < R
  hD : w.heap.size < D
  hDR : D ≠ R
  hK : w.heap.size < KB
  hN : w.heap.size < NB
  hO : w.heap.size < OB
  hM : w.heap.size < MB
  hKO : KB ≠ OB

theorem num_ne {κ : Type} {lit : κ → Lit} {P : Program} {K E : TypeId} {W : World} {B g t : Nat} {cs : Array Value} {ks : List κ} (h : NumMap lit P K E W B ks) (hg : W.heap[g]? = some (.cells cs t (0, 0))) : g ≠ B := by
  obtain ⟨D, h1, _⟩ := h
  exact map_ne h1 hg
section
variable {w W W' : World} {R D KB NB OB MB gg n : Nat} {u0 u1 : Value} {kind : List Int} {vN vF vO vO' v : Value} {b : List Bool} {order order' : List Int}

theorem LInv.gg_typed (h : LInv w R D KB NB OB MB gg n u0 u1 kind vN vF vO b order W) : ∃ cells, W.heap[gg]? = some (.cells cells 3 (0, 0)) := Kd.R_typed h.kindR gg rfl
theorem LInv.gg_lt (h : LInv w R D KB NB OB MB gg n u0 u1 kind vN vF vO b order W) : gg < W.heap.size := Kd.R_lt h.kindR gg rfl
theorem LInv.base (h : LInv w R D KB NB OB MB gg n u0 u1 kind vN vF vO b order W) : w.heap.size ≤ W.heap.size := h.below.size

/-- A call of the closure. -/
theorem LInv.met (h : LInv w R D KB NB OB MB gg n u0 u1 kind vN vF vO b order W) (h1 : W'.heap[OB]? = some (.cells #[vO'] 33 (0, 0))) (h2 : Kd.R (Kd.int .i64) 3 W' w.heap.size (fun _ => True) vO' order') (h3 : NumMap intLit Try.prog 3 3 W' MB (order'.map (rd kind)))
    (h4 : Kept W W' (fun k => k = MB ∨ k = OB ∨ some k = vO.ownBlock)) (h5 : Below w.heap.size w W') (h6 : vO'.ownBlock = vO.ownBlock ∨ ∃ b, vO'.ownBlock = some b ∧ W.heap.size ≤ b) : LInv w R D KB NB OB MB gg n u0 u1 kind vN vF vO' b order' W' := by
  have keep : ∀ {g t : Nat} {cs : Array Value}, W.heap[g]? = some (.cells cs t (0, 0)) → g ≠ OB → some g ≠ vO.ownBlock → W'.heap[g]? = some (.cells cs t (0, 0)) := fun hg n1 n2 => (h4.2 _ (blk_lt hg) (by rintro (e | e | e); exact num_ne h.num hg e; exact n1 e; exact n2 e)).trans hg
  obtain ⟨cg, hcg⟩ := h.gg_typed
  have hgg : gg < W.heap.size := h.gg_lt
  refine ⟨h5, keep h.xblk (by have := h.hO; omega) (Kd.R_ne h.ord h.xblk (by decide)), keep h.res (blk_ne h.res h.oblk (by decide)) (Kd.R_ne h.ord h.res (by decide)), keep h.dblk (blk_ne h.dblk h.oblk (by decide)) (Kd.R_ne h.ord h.dblk (by decide)), keep h.kblk h.hKO (Kd.R_ne h.ord h.kblk (by decide)),
    keep h.nblk (blk_ne h.nblk h.oblk (by decide)) (Kd.R_ne h.ord h.nblk (by decide)), h1, ?_, h2, ?_, h3, ?_, h.hR, h.hD, h.hDR, h.hK, h.hN, h.hO, h.hM, h.hKO⟩
  · refine Kd.R_mono (Kd.R_step (Kd.R_tight rfl h.kindR) (fun k hk hlt => h4.2 k hlt ?_)) (fun _ _ => trivial)
    have hk : k = gg := by injection hk
    subst hk
    rintro (e | e | e)
    · exact num_ne h.num hcg e
    · exact blk_ne hcg h.oblk (by decide) e
    · exact h.apart e
  · refine Kd.R_mono (Kd.R_step (Kd.R_tight rfl h.fin) (fun k hk hlt => h4.2 k hlt ?_)) (fun _ _ => trivial)
    obtain ⟨cf, hcf⟩ := Kd.R_typed h.fin k hk.symm
    rintro (e | e | e)
    · exact num_ne h.num hcf e
    · exact blk_ne hcf h.oblk (by decide) e
    · exact Kd.R_ne h.ord hcf (by decide) e
  · rcases h6 with e | ⟨k, e, hk⟩
    · rw [e]; exact h.apart
    · rw [e]; exact fun he => by injection he with he; omega
theorem LInv.alloc (h : LInv w R D KB NB OB MB gg n u0 u1 kind vN vF vO b order W) (o : Obj) : LInv w R D KB NB OB MB gg n u0 u1 kind vN vF vO b order (W.alloc o) :=
  ⟨below_alloc h.below o, blk_alloc h.xblk o, blk_alloc h.res o, blk_alloc h.dblk o, blk_alloc h.kblk o, blk_alloc h.nblk o, blk_alloc h.oblk o, Kd.R_alloc h.kindR o, Kd.R_alloc h.ord o, Kd.R_alloc h.fin o, h.num.alloc o, h.apart, h.hR, h.hD, h.hDR, h.hK, h.hN, h.hO, h.hM, h.hKO⟩
theorem LInv.drew (h : LInv w R D KB NB OB MB gg n u0 u1 kind vN vF vO b order W) : LInv w R D KB NB OB MB gg n u0 u1 kind vN vF vO b order W.drew :=
  ⟨below_drew1 h.below, blk_drew h.xblk, blk_drew h.res, blk_drew h.dblk, blk_drew h.kblk, blk_drew h.nblk, blk_drew h.oblk, Kd.R_drew h.kindR, Kd.R_drew h.ord, Kd.R_drew h.fin, h.num.kept (row := none) (grown_of_below (below_drew1 (Below.refl _ _)) none) (by simp), h.apart, h.hR, h.hD, h.hDR, h.hK, h.hN, h.hO, h.hM, h.hKO⟩
/-- A row of the call's own, other than these, has grown. -/
theorem LInv.grow {row : Option Nat} (h : LInv w R D KB NB OB MB gg n u0 u1 kind vN vF vO b order W) (hg : W.grownBy W' row) (hb : ∀ k, row = some k → w.heap.size ≤ k) (ht : ∀ k, row = some k → ∃ cs t, W.heap[k]? = some (.cells cs t (0, 0)) ∧ t ≠ 25 ∧ t ≠ 44 ∧ t ≠ 4 ∧ (t = 3 → k ≠ gg ∧ some k ≠ vO.ownBlock) ∧ (t = 33 → k ≠ KB ∧ k ≠ OB)) :
    LInv w R D KB NB OB MB gg n u0 u1 kind vN vF vO b order W' := by
  have ne : ∀ {g t : Nat} {cs : Array Value}, W.heap[g]? = some (.cells cs t (0, 0)) → t = 25 ∨ t = 44 ∨ t = 4 → some g ≠ row := fun hg ht' e => by
    obtain ⟨cs', t', h1, h2, h3, h4, _⟩ := ht _ e.symm
    rw [hg] at h1; injection h1 with h1; injection h1 with _ h1
    subst h1; rcases ht' with e | e | e
    · exact h2 e
    · exact h3 e
    · exact h4 e
  have ne3 : ∀ {g : Nat} {cs : Array Value}, W.heap[g]? = some (.cells cs 3 (0, 0)) → g = gg ∨ some g = vO.ownBlock → some g ≠ row := fun hg hq e => by
    obtain ⟨cs', t', h1, h2, h3, h4, h5, _⟩ := ht _ e.symm
    rw [hg] at h1; injection h1 with h1; injection h1 with _ h1
    subst h1
    rcases hq with q | q
    · exact (h5 rfl).1 q
    · exact (h5 rfl).2 q
  have ne33 : ∀ {g : Nat} {cs : Array Value}, W.heap[g]? = some (.cells cs 33 (0, 0)) → g = KB ∨ g = OB → some g ≠ row := fun hg hq e => by
    obtain ⟨cs', t', h1, h2, h3, h4, _, h5⟩ := ht _ e.symm
    rw [hg] at h1; injection h1 with h1; injection h1 with _ h1
    subst h1
    rcases hq with q | q
    · exact (h5 rfl).1 q
    · exact (h5 rfl).2 q
  obtain ⟨cg, hcg⟩ := h.gg_typed
  refine ⟨h.below.grown hg h.below.size hb, blk_grown h.xblk hg (ne h.xblk (.inl rfl)), blk_grown h.res hg (ne h.res (.inl rfl)), blk_grown h.dblk hg (ne h.dblk (.inl rfl)), blk_grown h.kblk hg (ne33 h.kblk (.inl rfl)), blk_grown h.nblk hg (ne h.nblk (.inr (.inl rfl))), blk_grown h.oblk hg (ne33 h.oblk (.inr rfl)),
    Kd.R_mono (Kd.R_grown (Kd.R_tight rfl h.kindR) hg (fun k hk => ?_)) (fun _ _ => trivial), Kd.R_mono (Kd.R_grown (Kd.R_tight rfl h.ord) hg (fun k hk => ?_)) (fun _ _ => trivial), Kd.R_mono (Kd.R_grown (Kd.R_tight rfl h.fin) hg (fun k hk => ?_)) (fun _ _ => trivial), h.num.kept hg (fun e => ?_),
    h.apart, h.hR, h.hD, h.hDR, h.hK, h.hN, h.hO, h.hM, h.hKO⟩
  · have hk : k = gg := by injection hk
    subst hk
    exact ne3 hcg (.inl rfl)
  · obtain ⟨cs, hcs⟩ := Kd.R_typed h.ord k hk.symm
    exact ne3 hcs (.inr hk)
  · obtain ⟨cs, hcs⟩ := Kd.R_typed h.fin k hk.symm
    exact ne hcs (.inr (.inr rfl))
  · obtain ⟨cs, t, hcs, _⟩ := ht _ e.symm
    exact num_ne h.num hcs rfl
/-- The row of numbers has grown. -/
theorem LInv.row {xs : List Int} (h : LInv w R D KB NB OB MB gg n u0 u1 kind vN vF vO b order W) (hv : Kd.R (Kd.int .i64) 3 W w.heap.size (fun k => k ≠ gg ∧ some k ≠ vO.ownBlock) v xs) (hg : W.grownBy W' v.ownBlock) : LInv w R D KB NB OB MB gg n u0 u1 kind vN vF vO b order W' :=
  h.grow hg (fun k e => Kd.R_base hv k e) (fun k e => by
    obtain ⟨cs, hcs⟩ := Kd.R_typed hv k e
    exact ⟨cs, 3, hcs, by decide, by decide, by decide, fun _ => hv.1 k e, fun e => by cases e⟩)
/-- The row of rows has grown. -/
theorem LInv.next {xs : List (List Int)} {ok : Nat → Prop} (h : LInv w R D KB NB OB MB gg n u0 u1 kind vN vF vO b order W) (hv : Kd.S (Kd.slice 3 (Kd.int .i64)) 33 W w.heap.size ok v xs) (hok : ∀ k, ok k → k ≠ OB ∧ k ≠ KB) (hg : W.grownBy W' v.ownBlock) : LInv w R D KB NB OB MB gg n u0 u1 kind vN vF vO b order W' :=
  h.grow hg (fun k e => Kd.S_base hv k e) (fun k e => by
    obtain ⟨cs, hcs⟩ := Kd.S_typed hv k e
    have := hok k ((Kd.S_R hv).1 k e)
    exact ⟨cs, 33, hcs, by decide, by decide, by decide, (fun e => by cases e), fun _ => ⟨this.2, this.1⟩⟩)
theorem R_set25 {α : Type} {d : Kd α} {e g : Nat} {ok : Nat → Prop} {base : Nat} {xs : List α} {cs : Array Value} (h : d.R e W base ok v xs) (hb : W.heap[g]? = some (.cells cs 25 (0, 0))) (ht : ∀ q, q ∈ e :: d.E → q ≠ 25) (j : Nat) (u : Value) : d.R e (W.setCell ⟨g, j, none⟩ u) base ok v xs :=
  Kd.R_mono (Kd.R_grown (Kd.R_types h hb ht) (grownBy_set W g j u) (fun k hk e => hk.2 (by simpa using e))) (fun _ hk => hk.1)
/-- The whole round's end: the bools have grown, both are stored. -/
theorem LInv.done {vN' vF' : Value} {b' : List Bool} (h : LInv w R D KB NB OB MB gg n u0 u1 kind vN vF vO b order W) (hg : W.grownBy W' vF.ownBlock) (hF : Kd.R Kd.bool 4 W' w.heap.size (fun _ => True) vF' b') :
    LInv w R D KB NB OB MB gg n u0 u1 kind vN' vF' vO b' order ((W'.setCell ⟨D, 0, none⟩ vN').setCell ⟨D, 1, none⟩ vF') := by
  have ne : ∀ {g t : Nat} {cs : Array Value}, W.heap[g]? = some (.cells cs t (0, 0)) → t ≠ 4 → some g ≠ vF.ownBlock := fun hg ht => Kd.R_ne h.fin hg (fun e => ht e.symm)
  have hd := blk_grown h.dblk hg (ne h.dblk (by decide))
  have hd1 := blk_put hd 0 vN' rfl
  have hx := blk_grown h.xblk hg (ne h.xblk (by decide))
  have hr := blk_grown h.res hg (ne h.res (by decide))
  have hk := blk_grown h.kblk hg (ne h.kblk (by decide))
  have hn := blk_grown h.nblk hg (ne h.nblk (by decide))
  have ho := blk_grown h.oblk hg (ne h.oblk (by decide))
  have far : ∀ {g t : Nat} {cs : Array Value}, W'.heap[g]? = some (.cells cs t (0, 0)) → g ≠ D → ((W'.setCell ⟨D, 0, none⟩ vN').setCell ⟨D, 1, none⟩ vF').heap[g]? = some (.cells cs t (0, 0)) := fun hg hne => blk_far (p := ⟨D, 1, none⟩) (blk_far (p := ⟨D, 0, none⟩) hg hne _) hne _
  have two : ∀ {α : Type} {d : Kd α} {e : Nat} {ok : Nat → Prop} {v : Value} {xs : List α}, d.R e W' w.heap.size ok v xs → (∀ q, q ∈ e :: d.E → q ≠ 25) → d.R e ((W'.setCell ⟨D, 0, none⟩ vN').setCell ⟨D, 1, none⟩ vF') w.heap.size ok v xs := fun hh ht => R_set25 (R_set25 hh hd ht 0 _) hd1 ht 1 _
  have hnum : NumMap intLit Try.prog 3 3 W' MB (order.map (rd kind)) := h.num.kept hg (fun e => by
    obtain ⟨cs, hcs⟩ := Kd.R_typed h.fin MB e.symm
    exact num_ne h.num hcs rfl)
  have hDM : D ≠ MB := num_ne hnum hd
  refine ⟨((h.below.grown hg h.below.size (fun k e => Kd.R_base h.fin k e)).setCell (p := ⟨D, 0, none⟩) (by have := h.hD; show w.heap.size ≤ D; omega) _).setCell (p := ⟨D, 1, none⟩) (by have := h.hD; show w.heap.size ≤ D; omega) _,
    far hx (by have := h.hD; omega), far hr (Ne.symm h.hDR), blk_put hd1 1 vF' rfl, far hk (blk_ne hk hd (by decide)), far hn (blk_ne hn hd (by decide)), far ho (blk_ne ho hd (by decide)),
    two (Kd.R_over' h.kindR (Kd.R_typed h.fin) (by decide) hg) (by decide), two (Kd.R_over' h.ord (Kd.R_typed h.fin) (by decide) hg) (by decide), two hF (by decide),
    (hnum.kept (grownBy_set W' D 0 vN') (fun e => hDM (by injection e with e; exact e.symm))).kept (grownBy_set _ D 1 vF') (fun e => hDM (by injection e with e; exact e.symm)), h.apart, h.hR, h.hD, h.hDR, h.hK, h.hN, h.hO, h.hM, h.hKO⟩

/-- Apart from what the closure writes. -/
def Far (OB KB : Nat) (vO : Value) (k : Nat) : Prop := k ≠ OB ∧ k ≠ KB ∧ some k ≠ vO.ownBlock
/-- The rows behind a call of the closure. -/
theorem S_met {α : Type} {d : Kd α} {e base : Nat} {xs : List α} {ok : Nat → Prop} (h : Kd.S d e W base (fun k => Far OB KB vO k ∧ ok k) v xs) (hn : NumMap intLit Try.prog 3 3 W MB order) (h4 : Kept W W' (fun k => k = MB ∨ k = OB ∨ some k = vO.ownBlock)) (h6 : vO'.ownBlock = vO.ownBlock ∨ ∃ b, vO'.ownBlock = some b ∧ W.heap.size ≤ b) :
    Kd.S d e W' base (fun k => Far OB KB vO' k ∧ ok k) v xs := by
  refine Kd.S_mono (Kd.S_step (Kd.S_bound h) (fun k hk hlt => h4.2 k hlt ?_)) (fun k hk => ⟨⟨hk.1.1.1, hk.1.1.2.1, ?_⟩, hk.1.2⟩)
  · obtain ⟨⟨⟨h1, h2, h3⟩, _⟩, _, _, q, _, cs, hcs⟩ := hk
    rintro (e | e | e)
    · exact num_ne hn hcs e
    · exact h1 e
    · exact h3 e
  · rcases h6 with e | ⟨b, e, hb⟩
    · rw [e]; exact hk.1.1.2.2
    · rw [e]; intro e2; injection e2 with e2; have := hk.2.2.1; omega
theorem R_met {base : Nat} {xs : List Int} (h : Kd.R (Kd.int .i64) 3 W base (fun k => k ≠ gg ∧ some k ≠ vO.ownBlock) v xs) (hn : NumMap intLit Try.prog 3 3 W MB order) (ho : W.heap[OB]? = some (.cells #[vO] 33 (0, 0))) (h4 : Kept W W' (fun k => k = MB ∨ k = OB ∨ some k = vO.ownBlock)) (h6 : vO'.ownBlock = vO.ownBlock ∨ ∃ b, vO'.ownBlock = some b ∧ W.heap.size ≤ b) :
    Kd.R (Kd.int .i64) 3 W' base (fun k => k ≠ gg ∧ some k ≠ vO'.ownBlock) v xs := by
  refine Kd.R_mono (Kd.R_step (Kd.R_tight2 rfl h) (fun k hk hlt => h4.2 k hlt ?_)) (fun k hk => ⟨hk.2.1, ?_⟩)
  · obtain ⟨cs, hcs⟩ := Kd.R_typed h k hk.1.symm
    rintro (e | e | e)
    · exact num_ne hn hcs e
    · exact blk_ne hcs ho (by decide) e
    · exact hk.2.2 e
  · rcases h6 with e | ⟨b, e, hb⟩
    · rw [e]; exact hk.2.2
    · rw [e]; intro e2; injection e2 with e2; have := Kd.R_lt h k hk.1.symm; omega

/-- The boxes are made. -/
theorem LInv.start (hB : Below w.heap.size w W) (hX : W.heap[w.heap.size]? = some (.cells #[u0, u1] 25 (0, 0))) (hR : W.heap[R]? = some (.cells #[.slice none 0 0, .slice none 0 0] 25 (0, 0))) (hRw : w.heap.size < R) (hK : Kd.R (Kd.int .i64) 3 W w.heap.size (fun _ => True) (.slice (some ⟨gg, 0, none⟩) n n) kind) :
    LInv w R (W.heap.size + 1 + 1 + 1 + 1) W.heap.size (W.heap.size + 1 + 1) (W.heap.size + 1 + 1 + 1) (W.heap.size + 1) gg n u0 u1 kind (.slice none 0 0) (.slice none 0 0) (.slice none 0 0) [] []
      (((((W.alloc (.cells #[.slice (some ⟨gg, 0, none⟩) n n] 33)).alloc (.map #[] 0)).alloc (.cells #[.map (some (W.heap.size + 1))] 44)).alloc (.cells #[.slice none 0 0] 33)).alloc (.cells #[.slice none 0 0, .slice none 0 0] 25)) := by
  have h1 := blk_lt hX
  have h2 := blk_lt hR
  have s1 : (W.alloc (.cells #[.slice (some ⟨gg, 0, none⟩) n n] 33)).heap.size = W.heap.size + 1 := by simp
  have s2 : ((W.alloc (.cells #[.slice (some ⟨gg, 0, none⟩) n n] 33)).alloc (.map #[] 0)).heap.size = W.heap.size + 1 + 1 := by simp
  have s3 : (((W.alloc (.cells #[.slice (some ⟨gg, 0, none⟩) n n] 33)).alloc (.map #[] 0)).alloc (.cells #[.map (some (W.heap.size + 1))] 44)).heap.size = W.heap.size + 1 + 1 + 1 := by simp
  have s4 : ((((W.alloc (.cells #[.slice (some ⟨gg, 0, none⟩) n n] 33)).alloc (.map #[] 0)).alloc (.cells #[.map (some (W.heap.size + 1))] 44)).alloc (.cells #[.slice none 0 0] 33)).heap.size = W.heap.size + 1 + 1 + 1 + 1 := by simp
  have k0 := blk_new W (.cells #[.slice (some ⟨gg, 0, none⟩) n n] 33)
  have m0 := NumMap.made (κ := Int) (W.alloc (.cells #[.slice (some ⟨gg, 0, none⟩) n n] 33)) intLit Try.prog 3 3
  have n0 := blk_new ((W.alloc (.cells #[.slice (some ⟨gg, 0, none⟩) n n] 33)).alloc (.map #[] 0)) (.cells #[.map (some (W.heap.size + 1))] 44)
  have o0 := blk_new (((W.alloc (.cells #[.slice (some ⟨gg, 0, none⟩) n n] 33)).alloc (.map #[] 0)).alloc (.cells #[.map (some (W.heap.size + 1))] 44)) (.cells #[.slice none 0 0] 33)
  have d0 := blk_new ((((W.alloc (.cells #[.slice (some ⟨gg, 0, none⟩) n n] 33)).alloc (.map #[] 0)).alloc (.cells #[.map (some (W.heap.size + 1))] 44)).alloc (.cells #[.slice none 0 0] 33)) (.cells #[.slice none 0 0, .slice none 0 0] 25)
  rw [s1] at m0
  rw [s2] at n0
  rw [s3] at o0
  rw [s4] at d0
  exact ⟨below_alloc (below_alloc (below_alloc (below_alloc (below_alloc hB _) _) _) _) _, blk_alloc (blk_alloc (blk_alloc (blk_alloc (blk_alloc hX _) _) _) _) _, blk_alloc (blk_alloc (blk_alloc (blk_alloc (blk_alloc hR _) _) _) _) _, d0, blk_alloc (blk_alloc (blk_alloc (blk_alloc k0 _) _) _) _,
    blk_alloc (blk_alloc n0 _) _, blk_alloc o0 _, Kd.R_alloc (Kd.R_alloc (Kd.R_alloc (Kd.R_alloc (Kd.R_alloc hK _) _) _) _) _, Kd.R_nil _ _ _ _ _, Kd.R_nil _ _ _ _ _, ((m0.alloc _).alloc _).alloc _, by simp [Value.ownBlock], hRw, by omega, by omega, by omega, by omega, by omega, by omega, by omega⟩
end
/-- The order behind a row begins with the order ahead of it. -/
theorem metO_pre (kind order : List Int) (s : Int) : ∃ r, metO kind order s = order ++ r := by
  unfold metO
  split
  · exact ⟨[], (List.append_nil _).symm⟩
  · exact ⟨_, rfl⟩
theorem rowUp_pre (kind order l : List Int) : ∀ j, ∃ r, (rowUp kind order l j).2 = order ++ r
  | 0 => ⟨[], (List.append_nil _).symm⟩
  | j + 1 => by
    obtain ⟨r, hr⟩ := rowUp_pre kind order l j
    obtain ⟨q, hq⟩ := metO_pre kind (rowUp kind order l j).2 (rd l j)
    exact ⟨r ++ q, by rw [rowUp]; show metO kind _ _ = _; rw [hq, hr, List.append_assoc]⟩
theorem rd_pre {order r : List Int} {i : Nat} (h : i < order.length) : rd (order ++ r) i = rd order i := by
  unfold rd
  rw [Int.toNat_natCast, List.getD_eq_getElem?_getD, List.getD_eq_getElem?_getD, List.getElem?_append_left h]

/-- What a round's end reads. -/
structure Pre (w : World) (D OB : Nat) (u0 u1 vN vF vO : Value) (order : List Int) (W : World) : Prop where
  d : W.heap[D]? = some (.cells #[vN, vF] 25 (0, 0))
  x : W.heap[w.heap.size]? = some (.cells #[u0, u1] 25 (0, 0))
  o : W.heap[OB]? = some (.cells #[vO] 33 (0, 0))
  r : Kd.R (Kd.int .i64) 3 W w.heap.size (fun _ => True) vO order
  b : Below w.heap.size w W
theorem Pre.held {w W : World} {D OB go2 cO2 nN cN nF cF i s nb cb : Nat} {u0 : Value} {AN AF : Option Addr} {adb : Addr} {order : List Int} {q : Bool} (h : Pre w D OB u0 (.slice (some adb) nb cb) (.slice AN nN cN) (.slice AF nF cF) (.slice (some ⟨go2, 0, none⟩) order.length cO2) order W) (hi : i < order.length) (hs : rd order i = s) (hb : w.cell? (adb.add s) = some (.bool q)) :
    W.cell? ⟨D, 0, none⟩ = some (.slice AN nN cN) ∧ W.cell? ⟨D, 1, none⟩ = some (.slice AF nF cF) ∧ W.cell? ⟨w.heap.size, 1, none⟩ = some (.slice (some adb) nb cb) ∧ W.cell? ⟨OB, 0, none⟩ = some (.slice (some ⟨go2, 0, none⟩) order.length cO2) ∧ W.cell? ⟨go2, i, none⟩ = some (.int .i64 s) ∧ W.cell? (adb.add s) = some (.bool q) :=
  ⟨(blk_cell h.d 0).trans rfl, (blk_cell h.d 1).trans rfl, (blk_cell h.x 1).trans rfl, (blk_cell h.o 0).trans rfl, by rw [← hs]; exact (R_cellg h.r i hi).1, (h.b.cell (World.block_lt_of_cell? w _ hb)).trans hb⟩
section
variable {w W W' : World} {R D KB NB OB MB gg n : Nat} {u0 u1 : Value} {kind : List Int} {vN vF vO vO' v : Value} {b : List Bool} {order order' : List Int}
theorem LInv.pre (h : LInv w R D KB NB OB MB gg n u0 u1 kind vN vF vO b order W) : Pre w D OB u0 u1 vN vF vO order W := ⟨h.dblk, h.xblk, h.oblk, h.ord, h.below⟩
theorem LInv.preF (h : LInv w R D KB NB OB MB gg n u0 u1 kind vN vF vO b order W) (hg : W.grownBy W' vF.ownBlock) : Pre w D OB u0 u1 vN vF vO order W' := by
  have ne : ∀ {g t : Nat} {cs : Array Value}, W.heap[g]? = some (.cells cs t (0, 0)) → t ≠ 4 → some g ≠ vF.ownBlock := fun hg ht => Kd.R_ne h.fin hg (fun e => ht e.symm)
  exact ⟨blk_grown h.dblk hg (ne h.dblk (by decide)), blk_grown h.xblk hg (ne h.xblk (by decide)), blk_grown h.oblk hg (ne h.oblk (by decide)), Kd.R_over' h.ord (Kd.R_typed h.fin) (by decide) hg, h.below.grown hg h.below.size (fun k e => Kd.R_base h.fin k e)⟩
theorem LInv.far_row {xs : List Int} {ys : List (List Int)} {ok : Nat → Prop} (h : LInv w R D KB NB OB MB gg n u0 u1 kind vN vF vO b order W) (hv : Kd.R (Kd.int .i64) 3 W w.heap.size (fun k => k ≠ gg ∧ some k ≠ vO.ownBlock) v xs) (hN : Kd.S (Kd.slice 3 (Kd.int .i64)) 33 W w.heap.size ok vN ys) : ∀ k, some k = v.ownBlock → Far OB KB vO k ∧ some k ≠ vN.ownBlock := by
  intro k hk
  obtain ⟨cs, hcs⟩ := Kd.R_typed hv k hk.symm
  refine ⟨⟨blk_ne hcs h.oblk (by decide), blk_ne hcs h.kblk (by decide), (hv.1 k hk.symm).2⟩, fun e => ?_⟩
  obtain ⟨cs', hcs'⟩ := Kd.S_typed hN k e.symm
  exact blk_ne hcs hcs' (by decide) rfl
theorem LInv.far_new (h : LInv w R D KB NB OB MB gg n u0 u1 kind vN vF vO b order W) : ∀ k, W.heap.size ≤ k → Far OB KB vO k := fun k hk =>
  ⟨by have := blk_lt h.oblk; omega, by have := blk_lt h.kblk; omega, fun e => by have := Kd.R_lt h.ord k e.symm; omega⟩
end

theorem S_app_step {α : Type} (d : Kd α) {P : Program} {ops : Array Oper} {o : Oper} {a : Act} {W : World} {Q : Exit → Act → World → Prop} {Kc : Act → World → Prop} (base : Nat) (hw : Region.wanted o (yielded ops a.tmps) = true) (s x : Operand) (t e : TypeId) (i : TypeInfo) (z : Value) (bytes : Nat)
    (ho : o.op = .call { callee := .builtin .append, args := #[s, x], argTypes := #[t, t] })
    (ht : P.underlying t = some (.slice e)) (hi : P.info? e = some i) (hz : i.zero = some z) (hsize : i.size = d.sz) (hby : i.bytes = bytes) (hzs : z.cells.size = d.sz) (hsz : 0 < d.sz)
    (v : Value) (xs : List α) (p : α) (cs : List Value) (ok okp : Nat → Prop) (hs : a.eval s = v) (ad : Addr) (hx : a.eval x = .slice (some ad) 1 1) (hcells : ∀ j u, cs[j]? = some u → W.cell? (ad.add j) = some u) (hp : d.M W base okp p cs)
    (hokp : ∀ k, okp k → ok k ∧ some k ≠ v.ownBlock) (hfresh : ∀ k, W.heap.size ≤ k → ok k) (HO : Kd.S d e W base (fun k => ok k ∧ ¬ okp k) v xs) (hbase : base ≤ W.heap.size) (h63 : xs.length + 1 ≤ maxLen) (hl : (xs.length + 1) * bytes ≤ 140737488355328)
    (h : ∀ v1 w1, Kd.S d e w1 base ok v1 (xs ++ [p]) → W.grownBy w1 v.ownBlock → (v1.ownBlock = v.ownBlock ∨ ∃ b, v1.ownBlock = some b ∧ W.heap.size ≤ b) → Kc (a.put o.dst v1) w1) :
    if Region.wanted o (yielded ops a.tmps) = true then Oper.wp P o a W Kc Q else Kc (a.put o.dst undef) W := by
  obtain ⟨f, hf, hR⟩ := Kd.S_tag HO xs.length okp (fun _ hk h2 => h2.2 hk)
  refine R_app_step (Kd.tag f d) base hw s x t e i z bytes ho ht hi hz hsize hby hzs hsz v xs.zipIdx (p, xs.length) cs ok okp hs ad hx hcells (d.M_mono (fun k hk => ⟨hk, hf k hk⟩) hp) hokp hfresh (Kd.R_mono hR (fun _ hk => hk.1)) hbase (by rw [List.length_zipIdx]; exact h63) (by rw [List.length_zipIdx]; exact hl) ?_
  intro v1 w1 hr
  rw [← Kd.zip_snoc] at hr
  exact h v1 w1 ⟨f, hr⟩
end Go.Proofs.Ytadhjjfodpmelaa.Print
