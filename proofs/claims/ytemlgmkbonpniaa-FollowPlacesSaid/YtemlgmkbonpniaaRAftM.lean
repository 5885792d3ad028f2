/- The reference's maker in memory. · The maker's after. -/
import Derived.Test.YtemlgmkbonpniaaRBothM
namespace Go.Proofs.Ytemlgmkbonpniaa.Print
open Go.RowKit Go.Maps Go.Proofs.YtemlgmkbonpniaaW.PrintWords Go.Proofs.YtemlgmkbonpniaaW.PrintLast Go.Proofs.YtemlgmkbonpniaaW.PrintMore
set_option linter.unusedVariables false
set_option linter.unusedSimpArgs false

/-! ### rising rows -/
def Good (N : Nat) (l : List Int) : Prop := l.Pairwise (· < ·) ∧ ∀ t ∈ l, 1 ≤ t ∧ t ≤ (N : Int)
theorem rise_len : ∀ (l : List Int) (a b : Int), l.Pairwise (· < ·) → (∀ t ∈ l, a < t ∧ t ≤ b) → l.length ≤ (b - a).toNat := by
 intro l
 induction l with
 | nil => intro a b _ _; exact Nat.zero_le _
 | cons x l ih =>
  intro a b hp hb
  obtain ⟨h1, h2⟩ := List.pairwise_cons.1 hp
  have h3 := ih x b h2 (fun t ht => ⟨h1 t ht, (hb t (List.mem_cons_of_mem _ ht)).2⟩)
  have h4 := hb x List.mem_cons_self
  simp only [List.length_cons]
  omega
theorem Good.len {N : Nat} {l : List Int} (h : Good N l) : l.length ≤ N := by
 have := rise_len l 0 N h.1 (fun t ht => by have := h.2 t ht; omega)
 omega
theorem Good.mono {N M : Nat} {l : List Int} (h : Good N l) (hn : N ≤ M) : Good M l := ⟨h.1, fun t ht => by have := h.2 t ht; omega⟩
theorem good_nil (N : Nat) : Good N [] := ⟨List.Pairwise.nil, fun t ht => by cases ht⟩
theorem good_one {N : Nat} (h : 1 ≤ N) : Good N [(N : Int)] := ⟨List.pairwise_singleton _ _, fun t ht => by rw [List.mem_singleton.1 ht]; omega⟩
theorem putR_cons (x : Int) (l : List Int) (n : Int) : putR (x :: l) n = if x < n then x :: putR l n else if x = n then x :: l else n :: x :: l := by
 by_cases q : x < n
 ·have hl : lo (x :: l) n = lo l n + 1 := by unfold lo; rw [List.takeWhile_cons, if_pos (decide_eq_true q)]; rfl
  rw [if_pos q]
  have hr : rd (x :: l) ((lo l n + 1 : Nat) : Int) = rd l (lo l n) := by unfold rd; rw [Int.toNat_natCast, Int.toNat_natCast]; rfl
  unfold putR
  rw [hl, hr]
  by_cases e : lo l n < l.length ∧ rd l (lo l n) = n
  ·rw [if_pos e, if_pos ⟨by have := e.1; simp only [List.length_cons]; omega, e.2⟩]
  ·rw [if_neg e, if_neg (fun h => e ⟨by have := h.1; simp only [List.length_cons] at this; omega, h.2⟩)]
   rfl
 ·have hl : lo (x :: l) n = 0 := by unfold lo; rw [List.takeWhile_cons, if_neg (by simpa using q)]; rfl
  rw [if_neg q]
  have hr : rd (x :: l) ((0 : Nat) : Int) = x := rfl
  unfold putR
  rw [hl, hr]
  by_cases e : x = n
  ·rw [if_pos e, if_pos ⟨by simp, e⟩]
  ·rw [if_neg e, if_neg (fun h => e h.2)]
   rfl
theorem putR_nil (n : Int) : putR [] n = [n] := rfl
theorem putR_mem {l : List Int} {n t : Int} : t ∈ putR l n ↔ t ∈ l ∨ t = n := by
 induction l with
 | nil => rw [putR_nil]; simp
 | cons x l ih =>
  rw [putR_cons]
  split
  ·rw [List.mem_cons, ih, List.mem_cons, or_assoc]
  ·split
   next e => rw [List.mem_cons, e]; constructor <;> (intro h; rcases h with h | h <;> simp_all)
   next e => simp only [List.mem_cons]; constructor <;> (intro h; rcases h with h | h | h <;> simp_all)
theorem putR_rise {l : List Int} {n : Int} (h : l.Pairwise (· < ·)) : (putR l n).Pairwise (· < ·) := by
 induction l with
 | nil => exact List.pairwise_singleton _ _
 | cons x l ih =>
  obtain ⟨h1, h2⟩ := List.pairwise_cons.1 h
  rw [putR_cons]
  split
  next q =>
   refine List.pairwise_cons.2 ⟨fun t ht => ?_, ih h2⟩
   rcases putR_mem.1 ht with ht | rfl
   ·exact h1 t ht
   ·exact q
  next q =>
   split
   ·exact h
   next e =>
    refine List.pairwise_cons.2 ⟨fun t ht => ?_, h⟩
    rcases List.mem_cons.1 ht with rfl | ht
    ·omega
    ·have := h1 t ht; omega
theorem bothR_mem {a b : List Int} {t : Int} : t ∈ bothR a b ↔ t ∈ a ∨ t ∈ b := by
 unfold bothR
 induction b generalizing a with
 | nil => simp
 | cons x b ih => rw [List.foldl_cons, ih, putR_mem, List.mem_cons, or_assoc]
theorem bothR_rise {a b : List Int} (h : a.Pairwise (· < ·)) : (bothR a b).Pairwise (· < ·) := by
 unfold bothR
 induction b generalizing a with
 | nil => exact h
 | cons x b ih => exact ih (putR_rise h)
theorem bothR_good {N : Nat} {a b : List Int} (ha : Good N a) (hb : Good N b) : Good N (bothR a b) :=
 ⟨bothR_rise ha.1, fun t ht => (bothR_mem.1 ht).elim (ha.2 t) (hb.2 t)⟩

/-! ### what follows -/
def afterR (fol : List (List Int)) (last first : List Int) : List (List Int) := last.foldl (fun f t => f.set (t - 1).toNat (bothR (f.getD (t - 1).toNat []) first)) fol
theorem afterR_len (fol : List (List Int)) (last first : List Int) : (afterR fol last first).length = fol.length := by
 unfold afterR
 induction last generalizing fol with
 | nil => rfl
 | cons t l ih => rw [List.foldl_cons, ih, List.length_set]
theorem afterR_step {fol : List (List Int)} {last first : List Int} {i : Nat} (h : i < last.length) : afterR fol (last.take (i + 1)) first = (afterR fol (last.take i) first).set (rd last i - 1).toNat (bothR ((afterR fol (last.take i) first).getD (rd last i - 1).toNat []) first) := by
 unfold afterR
 rw [List.take_add_one, List.foldl_append]
 have : last[i]? = some (rd last i) := by
  unfold rd
  rw [Int.toNat_natCast, List.getD_eq_getElem?_getD, List.getElem?_eq_getElem h]
  rfl
 rw [this]
 rfl
theorem getD_good {N : Nat} {fol : List (List Int)} (h : ∀ l ∈ fol, Good N l) (i : Nat) : Good N (fol.getD i []) := by
 rw [List.getD_eq_getElem?_getD]
 cases q : fol[i]? with
 | none => exact good_nil N
 | some l => exact h l (List.mem_of_getElem? q)
theorem afterR_good {N : Nat} {fol : List (List Int)} {last first : List Int} (h : ∀ l ∈ fol, Good N l) (hf : Good N first) : ∀ l ∈ afterR fol last first, Good N l := by
 unfold afterR
 induction last generalizing fol with
 | nil => exact h
 | cons t l ih =>
  refine ih (fun x hx => ?_)
  rcases List.mem_or_eq_of_mem_set hx with hx | rfl
  ·exact h x hx
  ·exact bothR_good (getD_good h _) hf

theorem drop_take_one {α : Type} {l : List α} {i : Nat} (h : i < l.length) : (l.drop i).take 1 = [l[i]] := by rw [List.drop_eq_getElem_cons h]; rfl
/-! ### the maker -/
/-- A row that is only read; it is not the one that the sets stand in. -/
abbrev RowI (b0 : Nat) (vS : Value) (W : World) (v : Value) (xs : List Int) : Prop := Kd.R (Kd.int .i64) 3 W b0 (fun k => some k ≠ vS.ownBlock) v xs
abbrev kL : Kd (List Int) := Kd.slice 3 (Kd.int .i64)
structure Mk (b0 MB : Nat) (sets : List Int) (fol : List (List Int)) (vS vF : Value) (W : World) : Prop where
 blk : W.heap[MB]? = some (.cells #[vS, vF] 75 (0, 0))
 sets : Kd.R (Kd.int .i64) 3 W b0 (fun _ => True) vS sets
 fol : Kd.R kL 27 W b0 (fun k => some k ≠ vS.ownBlock) vF fol
 hM : b0 ≤ MB
/-- What a call of the maker's turns. -/
structure Tn (b0 : Nat) (vS vS' : Value) (W W' : World) : Prop where
 below : Below b0 W W'
 rows : ∀ v xs, RowI b0 vS W v xs → RowI b0 vS' W' v xs
 blk : ∀ (k : Nat) (cs : Array Value) (t : Nat), W.heap[k]? = some (.cells cs t (0, 0)) → t ≠ 3 → t ≠ 27 → t ≠ 75 → W'.heap[k]? = W.heap[k]?
section
variable {b0 MB g : Nat} {sets : List Int} {fol : List (List Int)} {vS vS' vS2 vF v : Value} {W W' W2 : World} {xs : List Int}
theorem Tn.refl (b0 : Nat) (vS : Value) (W : World) : Tn b0 vS vS W W := ⟨Below.refl _ _, fun _ _ h => h, fun _ _ _ _ _ _ _ => rfl⟩
theorem Tn.trans (h : Tn b0 vS vS' W W') (k : Tn b0 vS' vS2 W' W2) : Tn b0 vS vS2 W W2 :=
 ⟨h.below.trans k.below, fun v xs hr => k.rows v xs (h.rows v xs hr), fun j cs t hj h1 h2 h3 => (k.blk j cs t ((h.blk j cs t hj h1 h2 h3).trans hj) h1 h2 h3).trans (h.blk j cs t hj h1 h2 h3)⟩
theorem Tn.later (hb : Below W.heap.size W W') (h0 : b0 ≤ W.heap.size) : Tn b0 vS vS W W' :=
 ⟨hb.mono h0, fun _ _ h => Kd.R_below h hb, fun k cs t hk _ _ _ => hb.block k (blk_lt hk)⟩
theorem Mk.later (h : Mk b0 MB sets fol vS vF W) (hb : Below W.heap.size W W') : Mk b0 MB sets fol vS vF W' := ⟨blk_below h.blk hb, Kd.R_below h.sets hb, Kd.R_below h.fol hb, h.hM⟩
theorem Mk.cells (h : Mk b0 MB sets fol vS vF W) : W.cell? ⟨MB, 0, none⟩ = some vS ∧ W.cell? ⟨MB, 1, none⟩ = some vF := ⟨(blk_cell h.blk 0).trans rfl, (blk_cell h.blk 1).trans rfl⟩
theorem grownBy_set (W : World) (b j : Nat) (v : Value) : W.grownBy (W.setCell ⟨b, j, none⟩ v) (some b) :=
 ⟨rfl, rfl, rfl, by simp, fun k _ hk => Below.heap_setCell _ _ _ k (fun e => hk (by rw [e]))⟩
/-- A row of rows: element i is another row now. -/
theorem R_seti {ok : Nat → Prop} {n cap i : Nat} {x : List Int} (h : Kd.R kL 27 W b0 ok (.slice (some ⟨g, 0, none⟩) n cap) fol) (hi : i < fol.length) (hx : Kd.R (Kd.int .i64) 3 W b0 ok v x) : Kd.R kL 27 (W.setCell ⟨g, i, none⟩ v) b0 ok (.slice (some ⟨g, 0, none⟩) n cap) (fol.set i x) := by
 obtain ⟨h0, inner, ⟨hl, hv⟩, hr1, hr2⟩ := h
 rcases hv with ⟨e, _⟩ | ⟨g', cap', cur, e, hg, hb, h1, h2, h3, h4⟩
 ·cases e
 ·injection e with e1 e2 e3
  injection e1 with e1
  injection e1 with e1
  subst e1 e3
  have hbx : (W.setCell ⟨g, i, none⟩ v).heap[g]? = some (.cells (cur.setIfInBounds i v) 27 (0, 0)) := blk_put hb i v rfl
  have hgr := grownBy_set W g i v
  have hlen : inner.length = fol.length := by rw [hl]; show fol.length * 1 = _; omega
  refine ⟨h0, inner.set i v, ⟨by rw [List.length_set, List.length_set]; exact hl, .inr ⟨g, cap, cur.setIfInBounds i v, by rw [List.length_set, ← e2], hg, hbx, by rw [List.length_set]; exact h1, h2, by rw [Array.size_setIfInBounds]; exact h3, ?_⟩⟩, by rw [List.length_set, List.length_set]; exact hr1, fun j p hj => ?_⟩
  ·rw [List.length_set, ← h4, Array.toList_setIfInBounds, List.take_set]
  ·rw [List.getElem?_set] at hj
   by_cases q : i = j
   ·subst q
    rw [if_pos rfl, if_pos hi] at hj
    obtain rfl := Option.some.inj hj
    have e5 : ((inner.set i v).drop (i * 1)).take 1 = [v] := by
     rw [Nat.mul_one, drop_take_one (by rw [List.length_set]; omega)]
     simp
    show kL.M _ _ _ _ (((inner.set i v).drop (i * 1)).take 1)
    rw [e5]
    refine ⟨v, rfl, Kd.R_mono (Kd.R_step (Kd.R_bound hx) (fun k hk hlt => hgr.block k hlt (fun e => ?_))) (fun k hk => ⟨hk.1, fun e => ?_⟩)⟩ <;>
    ·obtain ⟨_, _, _, q, hq, cs, hc⟩ := hk
     have hq3 : q = 3 := by simpa [Kd.int, Kd.scalar] using hq
     simp only [Value.ownBlock, Option.some.injEq] at e
     subst e
     rw [hb] at hc
     cases hc
     omega
   ·rw [if_neg q] at hj
    have hM := hr2 j p hj
    have hjl : j < fol.length := (List.getElem?_eq_some_iff.1 hj).1
    have e5 : ((inner.set i v).drop (j * 1)).take 1 = (inner.drop (j * 1)).take 1 := by
     rw [Nat.mul_one, drop_take_one (by rw [List.length_set]; omega), drop_take_one (by omega), List.getElem_set_ne q]
    show kL.M _ _ _ _ (((inner.set i v).drop (j * 1)).take 1)
    rw [e5]
    exact Kd.M_step hM (fun k hk hlt => hgr.block k hlt (fun e => hk.2 e))
end
end Go.Proofs.Ytemlgmkbonpniaa.Print

namespace Go.Proofs.Ytemlgmkbonpniaa.Print
open Go.RowKit Go.Maps Go.Proofs.YtemlgmkbonpniaaW.PrintWords Go.Proofs.YtemlgmkbonpniaaW.PrintLast Go.Proofs.YtemlgmkbonpniaaW.PrintMore
set_option linter.unusedVariables false
set_option linter.unusedSimpArgs false
def aft_T3 : Bool × List (List Nat × List Nat) := (true, [([], []), ([0], [0]), ([1], [1]), ([2], [2]), ([], []), ([], []), ([4, 5], [4, 5]), ([6], [6]), ([7], [7]), ([], []), ([9], [9]), ([10], [10]), ([11], [11]), ([], []), ([], []), ([13, 14], [13, 14]), ([15], [15]), ([16], [16]), ([12, 17], [12, 17]), ([18], [18]), ([], []), ([19, 20], [19, 20]), ([3, 8, 0, 1, 2, 3, 4, 5, 6, 7, 8, 9, 10, 11, 12, 13, 14, 15, 16, 17, 18, 19, 20, 21], [3, 8]), ([22, 21, 21, 0, 1, 2, 3, 4, 5, 6, 7, 8, 9, 10, 11, 12, 13, 14, 15, 16, 17, 18, 19, 20, 21], [21, 22])])
def aft_B3 : List Nat := [0, 1, 3, 7, 0, 0, 48, 112, 240, 0, 512, 1536, 3584, 0, 0, 24576, 57344, 122880, 261632, 523776, 0, 2096640, 4194303, 8388607]
theorem aft_tab3 : rtab .any (opsOf Try.f77 3) = aft_T3 := by kernel_rfl
theorem aft_bits3 : waitsOk aft_T3.2 aft_B3 = true := by kernel_rfl
theorem rd_mem {l : List Int} {i : Nat} (h : i < l.length) : rd l i ∈ l := by
 unfold rd
 rw [Int.toNat_natCast, List.getD_eq_getElem?_getD, List.getElem?_eq_getElem h]
 exact List.getElem_mem h
/-- A row of rows that is read: element i. -/
theorem fol_get {b0 g n cap : Nat} {vS : Value} {W : World} {fol : List (List Int)} (h : Kd.R kL 27 W b0 (fun k => some k ≠ vS.ownBlock) (.slice (some ⟨g, 0, none⟩) n cap) fol) (j : Nat) (hj : j < n) :
  ∃ A c, W.cell? ((⟨g, 0, none⟩ : Addr).add j) = some (.slice A (fol.getD j []).length c) ∧ RowI b0 vS W (.slice A (fol.getD j []).length c) (fol.getD j []) := by
 obtain ⟨c, hc, ⟨v, rfl, hv⟩, hcell⟩ := Kd.R_getA h [] (j : Int) (by omega) (by omega)
 rw [Int.toNat_natCast] at hv hcell
 obtain ⟨A, d, rfl⟩ := Kd.R_slice hv
 refine ⟨A, d, ?_, Kd.R_mono hv (fun k hk => hk.1)⟩
 have := hcell 0 _ rfl
 rwa [Nat.add_zero, show j * kL.sz = j from Nat.mul_one j] at this
theorem add_at (g j : Nat) : (⟨g, 0, none⟩ : Addr).add j = ⟨g, j, none⟩ := by
 cases j with
 | zero => rfl
 | succ j => show Addr.mk _ (0 + (j + 1)) _ = _; rw [Nat.zero_add]
theorem Mk.put {b0 MB g n cap j : Nat} {sets : List Int} {fol : List (List Int)} {vS v : Value} {W : World} {cells : Array Value} {x : List Int} (h : Mk b0 MB sets fol vS (.slice (some ⟨g, 0, none⟩) n cap) W) (hg : W.heap[g]? = some (.cells cells 27 (0, 0))) (hgb : b0 ≤ g) (hj : j < fol.length) (hx : RowI b0 vS W v x) :
  Mk b0 MB sets (fol.set j x) vS (.slice (some ⟨g, 0, none⟩) n cap) (W.setCell ⟨g, j, none⟩ v) ∧ Tn b0 vS vS W (W.setCell ⟨g, j, none⟩ v) := by
 have hgr := grownBy_set W g j v
 have e27 : ∀ (d : Kd Int), d.E = [] → ∀ q, q ∈ 3 :: d.E → q ≠ 27 := fun d hd q hq => by rw [hd] at hq; simp at hq; omega
 refine ⟨⟨blk_grown h.blk hgr (fun e => ?_), Kd.R_set h.sets hg (e27 _ rfl) j v, R_seti h.fol hj hx, h.hM⟩, ⟨⟨rfl, rfl, rfl, by simp, fun k hk => Below.heap_setCell _ _ _ k (by show k ≠ g; omega)⟩, fun u xs hu => Kd.R_set hu hg (e27 _ rfl) j v, fun k cs t hk h1 h2 h3 => Below.heap_setCell _ _ _ k (fun e => ?_)⟩⟩
 ·injection e with e
  subst e
  have := h.blk
  rw [hg] at this
  cases this
 ·replace e : k = g := e
  subst e
  rw [hg] at hk
  cases hk
  exact h2 rfl
theorem cell_keep {W W' : World} {p : Addr} {v : Value} (hb : Below W.heap.size W W') (h : W.cell? p = some v) : W'.cell? p = some v := (hb.cell (World.block_lt_of_cell? W _ h)).trans h
theorem Came.rowI {b0 MB : Nat} {sets : List Int} {fol : List (List Int)} {vS vF : Value} {W W' : World} {A A' : Option Addr} {c c' : Nat} {l l' : List Int} (h : Came W W' A c l A' c' l') (hR : RowI b0 vS W (.slice A l.length c) l) (hm : Mk b0 MB sets fol vS vF W) (hb : Below W.heap.size W W') (h0 : b0 ≤ W.heap.size) : RowI b0 vS W' (.slice A' l'.length c') l' := by
 rcases h with ⟨rfl, rfl, rfl⟩ | h
 ·exact Kd.R_below hR hb
 ·exact Kd.R_mono (Kd.R_lower (Kd.R_bound h) h0) (fun k hk e => by have := Kd.R_lt hm.sets k e.symm; have := hk.2.1; omega)
set_option maxHeartbeats 16000000 in
set_option maxRecDepth 100000 in
theorem after_calls {b0 MB N : Nat} {sets : List Int} {fol : List (List Int)} {vS vF : Value} {W : World} (L : Option Addr) (c : Nat) (last : List Int) (F : Option Addr) (d : Nat) (first : List Int)
  (hm : Mk b0 MB sets fol vS vF W) (hL : RowI b0 vS W (.slice L last.length c) last) (hF : RowI b0 vS W (.slice F first.length d) first)
  (hr : ∀ t ∈ last, 1 ≤ t ∧ t ≤ (fol.length : Int)) (hg : ∀ l ∈ fol, Good N l) (hgf : Good N first) (hN : N ≤ 300) (hfl : fol.length ≤ 300) (hb0 : b0 ≤ W.heap.size) (hll : last.length ≤ 300) :
  Calls Try.prog 77 #[.pointer (some ⟨MB, 0, none⟩), .slice L last.length c, .slice F first.length d] W fun e W' => e = .returned (.tuple #[]) ∧ Mk b0 MB sets (afterR fol last first) vS vF W' ∧ Tn b0 vS vS W W' := by
 have HM := Aside0.mk hm
 have HL := Aside0.mk hL
 have HF := Aside0.mk hF
 have HR := Aside0.mk hr
 have HG := Aside0.mk hg
 have HGF := Aside0.mk hgf
 have HN := Aside0.mk hN
 have HFL := Aside0.mk hfl
 have HB0 := Aside0.mk hb0
 have HLL := Aside0.mk hll
 clear hm hL hF hr hg hgf hN hfl hb0 hll
 go_enter Try.func77, Try.ntmps77
 go_wp2
 go_loopg [6] last.length (fun kq v6 w' => ∃ i : Nat, v6 = .int .i64 (i : Int) ∧ Aside0 (i + kq = last.length) ∧ Aside0 (Mk b0 MB sets (afterR fol (last.take i) first) vS vF w') ∧ Aside0 (Tn b0 vS vS W w'))
 case atStart => exact ⟨0, rfl, ⟨Nat.zero_add _⟩, ⟨HM.out⟩, ⟨Tn.refl _ _ _⟩⟩
 case round =>
  obtain ⟨i, rfl, HK, HM1, HT1⟩ := hrel
  by_cases q : gk = 0
  ·have f1 : ¬ i < last.length := by have := HK.out; omega
   have f2 : decide ((i : Int) < (last.length : Int)) = false := decide_eq_false (by omega)
   have HE := Aside0.mk (show last.take i = last from List.take_of_length_le (by omega))
   clear q
   go_wp2_with fail
   go_end0
   have h1 := HM1.out
   rw [HE.out] at h1
   exact ⟨rfl, h1, HT1.out⟩
  ·have HIL := Aside0.mk (show i < last.length by have := HK.out; omega)
   have HQ := Aside0.mk q
   clear q
   obtain ⟨fq, hfq⟩ : ∃ x, x = afterR fol (last.take i) first := ⟨_, rfl⟩
   have HFQ := Aside0.mk hfq
   have HFQL := Aside0.mk (show fq.length = fol.length by rw [hfq, afterR_len])
   have HFQG := Aside0.mk (show ∀ l ∈ fq, Good N l by rw [hfq]; exact afterR_good HG.out HGF.out)
   rw [← hfq] at HM1
   clear hfq
   obtain ⟨t, ht⟩ : ∃ t, t = rd last i := ⟨_, rfl⟩
   have HRT := Aside0.mk (show 1 ≤ t ∧ t ≤ (fol.length : Int) by rw [ht]; exact HR.out _ (rd_mem HIL.out))
   obtain ⟨j, hj⟩ : ∃ j : Nat, j = (t - 1).toNat := ⟨_, rfl⟩
   have HJ := Aside0.mk hj
   have HJL := Aside0.mk (show j < fq.length by rw [hj, HFQL.out]; have := HRT.out; omega)
   clear hj
   obtain ⟨g, cap, hvF, hgb, hglt, cells, hgc⟩ := Kd.R_form HM1.out.fol (by have := HJL.out; omega)
   subst hvF
   have HGB := Aside0.mk hgb
   have HGC := Aside0.mk hgc
   clear hgb hglt hgc
   obtain ⟨A1, c1, hcell, hrow⟩ := fol_get HM1.out.fol j HJL.out
   obtain ⟨x, hx⟩ : ∃ x, x = fq.getD j [] := ⟨_, rfl⟩
   rw [← hx] at hcell hrow
   have HX := Aside0.mk hx
   rw [add_at] at hcell
   have HCELL := Aside0.mk hcell
   have HROW := Aside0.mk hrow
   have HXG := Aside0.mk (show Good N x by rw [hx]; exact getD_good HFQG.out j)
   clear hcell hrow hx
   have HL1 := Aside0.mk (HT1.out.rows _ _ HL.out)
   have HF1 := Aside0.mk (HT1.out.rows _ _ HF.out)
   obtain ⟨adL, eL, hl0⟩ := Kd.at_int (Kd.R_reads' HL1.out).2.2 (i : Int) (Int.natCast_nonneg i) (by have := HIL.out; omega)
   rw [Int.toNat_natCast, ← ht] at hl0
   subst eL
   have HLC := Aside0.mk hl0
   have HTD := Aside0.mk ht
   clear hl0 ht
   have HQ0 := Aside0.mk (show (0 : Int) ≤ (i : Int) from Int.natCast_nonneg i)
   have f1 : i < last.length := HIL.out
   have f2 : decide ((i : Int) < (last.length : Int)) = true := decide_eq_true (by omega)
   go_upto_region 3 with fail
   have HB1 := Aside0.mk (Nat.le_trans HB0.out HT1.out.below.size)
   have HM2 := Aside0.mk (HM1.out.later (below_drew (Below.refl _ _)))
   have HT2 := Aside0.mk (HT1.out.trans (Tn.later (below_drew (Below.refl _ _)) HB1.out))
   have HLC2 := Aside0.mk (cell_keep (below_drew (Below.refl wr.heap.size wr)) HLC.out)
   have HCELL2 := Aside0.mk (cell_keep (below_drew (Below.refl wr.heap.size wr)) HCELL.out)
   have HGC2 := Aside0.mk (blk_below HGC.out (below_drew (Below.refl wr.heap.size wr)))
   have HR2 := Aside0.mk (Kd.R_below HROW.out (below_drew (Below.refl wr.heap.size wr)))
   have HF2 := Aside0.mk (Kd.R_below HF1.out (below_drew (Below.refl wr.heap.size wr)))
   have HB2 := Aside0.mk (show b0 ≤ wr.drew.heap.size from HB1.out)
   refine wp_region_noPanic ?_
   refine start_ (n := 24) (S := fun w' => w'.cell? ⟨MB, 1, none⟩ = some (.slice (some ⟨g, 0, none⟩) fq.length cap) ∧ w'.cell? (adL.add i) = some (.int .i64 t) ∧ w'.cell? ⟨g, j, none⟩ = some (.slice A1 x.length c1)) (ds := [23]) #[false, false, false, false, false, false, false, false, false, false, false, false, false, false, false, false, false, false, false, false, false, false, false, false] (by kernel_rfl) rfl rfl ⟨HM2.out.cells.2, HLC2.out, HCELL2.out⟩ (fun hHeld => ?_); refine with_tabW aft_tab3 aft_bits3 (fun HT_ HW_ => ?_)
   obtain ⟨W2, hW2⟩ : ∃ w, wr.drew = w := ⟨_, rfl⟩
   rw [hW2] at HM2 HT2 HR2 HF2 HGC2 HB2 hHeld ⊢
   clear hW2 HM1 HT1 HB1 HLC2 HCELL2
   have hwr : wrap64 (t - 1) = (j : Int) := by have := HRT.out; have := HJ.out; have := HFL.out; unfold wrap64; omega
   have f3 : j < fq.length := HJL.out
   have hadd := add_at g j
   refine pure_ (i := 0) (N := some 13) (v := ?_) (a' := ?_) #[true, false, false, false, false, false, false, false, false, false, false, false, false, false, false, false, false, false, false, false, false, false, false, false] rfl rfl (any_of HT_.out (by kernel_rfl)) (fun _ _ _ h => h) (Or.inl ⟨by rfl, ?_⟩) ?_ ?_
   rotate_left
   ·intro w'
    go_simp
    with_reducible rfl
   rotate_left
   ·simp only [Act.put, List.setIfInBounds_toArray, List.set_cons_zero, List.set_cons_succ, i64_w, i32_w]
    rfl
   refine pure_ (i := 1) (N := some 14) (v := ?_) (a' := ?_) #[true, true, false, false, false, false, false, false, false, false, false, false, false, false, false, false, false, false, false, false, false, false, false, false] rfl rfl (any_of HT_.out (by kernel_rfl)) (fun _ _ _ h => h) (Or.inl ⟨by rfl, ?_⟩) ?_ ?_
   rotate_left
   ·intro w'
    go_simp
    with_reducible rfl
   rotate_left
   ·simp only [Act.put, List.setIfInBounds_toArray, List.set_cons_zero, List.set_cons_succ, i64_w, i32_w]
    rfl
   refine pure_ (i := 2) (N := some 15) (v := ?_) (a' := ?_) #[true, true, true, false, false, false, false, false, false, false, false, false, false, false, false, false, false, false, false, false, false, false, false, false] rfl rfl (any_of HT_.out (by kernel_rfl)) (fun _ _ _ h => h) (Or.inl ⟨by rfl, ?_⟩) ?_ ?_
   rotate_left
   ·intro w'
    go_simp
    with_reducible rfl
   rotate_left
   ·simp only [Act.put, List.setIfInBounds_toArray, List.set_cons_zero, List.set_cons_succ, i64_w, i32_w]
    rfl
   refine take_ (i := 3) (N := some 16) (v := ?_) (a' := ?_) #[true, true, true, true, false, false, false, false, false, false, false, false, false, false, false, false, false, false, false, false, false, false, false, false] rfl rfl (take_ofW HT_.out HW_.out (by kernel_rfl)) (fun _ _ _ h => h) (Or.inl ⟨by rfl, ?_⟩) hHeld ?_ ?_
   rotate_left
   ·rintro w' ⟨s0, s1, s2⟩
    go_simp
    with_reducible rfl
   rotate_left
   ·simp only [Act.put, List.setIfInBounds_toArray, List.set_cons_zero, List.set_cons_succ, i64_w, i32_w]
    rfl
   refine pure_ (i := 4) (N := some 17) (v := ?_) (a' := ?_) #[true, true, true, true, true, false, false, false, false, false, false, false, false, false, false, false, false, false, false, false, false, false, false, false] rfl rfl (any_of HT_.out (by kernel_rfl)) (fun _ _ _ h => h) (Or.inl ⟨by rfl, ?_⟩) ?_ ?_
   rotate_left
   ·intro w'
    go_simp
    with_reducible rfl
   rotate_left
   ·simp only [Act.put, List.setIfInBounds_toArray, List.set_cons_zero, List.set_cons_succ, i64_w, i32_w]
    rfl
   refine pure_ (i := 5) (N := some 18) (v := ?_) (a' := ?_) #[true, true, true, true, true, true, false, false, false, false, false, false, false, false, false, false, false, false, false, false, false, false, false, false] rfl rfl (any_of HT_.out (by kernel_rfl)) (fun _ _ _ h => h) (Or.inl ⟨by rfl, ?_⟩) ?_ ?_
   rotate_left
   ·intro w'
    go_simp
    with_reducible rfl
   rotate_left
   ·simp only [Act.put, List.setIfInBounds_toArray, List.set_cons_zero, List.set_cons_succ, i64_w, i32_w]
    rfl
   refine pure_ (i := 6) (N := some 19) (v := ?_) (a' := ?_) #[true, true, true, true, true, true, true, false, false, false, false, false, false, false, false, false, false, false, false, false, false, false, false, false] rfl rfl (any_of HT_.out (by kernel_rfl)) (fun _ _ _ h => h) (Or.inl ⟨by rfl, ?_⟩) ?_ ?_
   rotate_left
   ·intro w'
    go_simp
    with_reducible rfl
   rotate_left
   ·simp only [Act.put, List.setIfInBounds_toArray, List.set_cons_zero, List.set_cons_succ, i64_w, i32_w]
    rfl
   refine take_ (i := 7) (N := some 20) (v := ?_) (a' := ?_) #[true, true, true, true, true, true, true, true, false, false, false, false, false, false, false, false, false, false, false, false, false, false, false, false] rfl rfl (take_ofW HT_.out HW_.out (by kernel_rfl)) (fun _ _ _ h => h) (Or.inl ⟨by rfl, ?_⟩) hHeld ?_ ?_
   rotate_left
   ·rintro w' ⟨s0, s1, s2⟩
    go_simp
    with_reducible rfl
   rotate_left
   ·simp only [Act.put, List.setIfInBounds_toArray, List.set_cons_zero, List.set_cons_succ, i64_w, i32_w]
    rfl
   refine pure_ (i := 8) (N := some 21) (v := ?_) (a' := ?_) #[true, true, true, true, true, true, true, true, true, false, false, false, false, false, false, false, false, false, false, false, false, false, false, false] rfl rfl (any_of HT_.out (by kernel_rfl)) (fun _ _ _ h => h) (Or.inl ⟨by rfl, ?_⟩) ?_ ?_
   rotate_left
   ·intro w'
    go_simp
    with_reducible rfl
   rotate_left
   ·simp only [Act.put, List.setIfInBounds_toArray, List.set_cons_zero, List.set_cons_succ, i64_w, i32_w]
    rfl
   refine pure_ (i := 9) (N := some 22) (v := ?_) (a' := ?_) #[true, true, true, true, true, true, true, true, true, true, false, false, false, false, false, false, false, false, false, false, false, false, false, false] rfl rfl (any_of HT_.out (by kernel_rfl)) (fun _ _ _ h => h) (Or.inl ⟨by rfl, ?_⟩) ?_ ?_
   rotate_left
   ·intro w'
    go_simp
    with_reducible rfl
   rotate_left
   ·simp only [Act.put, List.setIfInBounds_toArray, List.set_cons_zero, List.set_cons_succ, i64_w, i32_w]
    rfl
   refine pure_ (i := 10) (N := some 23) (v := ?_) (a' := ?_) #[true, true, true, true, true, true, true, true, true, true, true, false, false, false, false, false, false, false, false, false, false, false, false, false] rfl rfl (any_of HT_.out (by kernel_rfl)) (fun _ _ _ h => h) (Or.inl ⟨by rfl, ?_⟩) ?_ ?_
   rotate_left
   ·intro w'
    go_simp
    with_reducible rfl
   rotate_left
   ·simp only [Act.put, List.setIfInBounds_toArray, List.set_cons_zero, List.set_cons_succ, i64_w, i32_w]
    rfl
   refine pure_ (i := 11) (N := some 24) (v := ?_) (a' := ?_) #[true, true, true, true, true, true, true, true, true, true, true, true, false, false, false, false, false, false, false, false, false, false, false, false] rfl rfl (any_of HT_.out (by kernel_rfl)) (fun _ _ _ h => h) (Or.inl ⟨by rfl, ?_⟩) ?_ ?_
   rotate_left
   ·intro w'
    go_simp
    with_reducible rfl
   rotate_left
   ·simp only [Act.put, List.setIfInBounds_toArray, List.set_cons_zero, List.set_cons_succ, i64_w, i32_w]
    rfl
   refine take_ (i := 12) (N := some 25) (v := ?_) (a' := ?_) #[true, true, true, true, true, true, true, true, true, true, true, true, true, false, false, false, false, false, false, false, false, false, false, false] rfl rfl (take_ofW HT_.out HW_.out (by kernel_rfl)) (fun _ _ _ h => h) (Or.inl ⟨by rfl, ?_⟩) hHeld ?_ ?_
   rotate_left
   ·rintro w' ⟨s0, s1, s2⟩
    go_simp
    with_reducible rfl
   rotate_left
   ·simp only [Act.put, List.setIfInBounds_toArray, List.set_cons_zero, List.set_cons_succ, i64_w, i32_w]
    rfl
   refine pure_ (i := 13) (N := some 26) (v := ?_) (a' := ?_) #[true, true, true, true, true, true, true, true, true, true, true, true, true, true, false, false, false, false, false, false, false, false, false, false] rfl rfl (any_of HT_.out (by kernel_rfl)) (fun _ _ _ h => h) (Or.inl ⟨by rfl, ?_⟩) ?_ ?_
   rotate_left
   ·intro w'
    go_simp
    with_reducible rfl
   rotate_left
   ·simp only [Act.put, List.setIfInBounds_toArray, List.set_cons_zero, List.set_cons_succ, i64_w, i32_w]
    rfl
   refine pure_ (i := 14) (N := some 27) (v := ?_) (a' := ?_) #[true, true, true, true, true, true, true, true, true, true, true, true, true, true, true, false, false, false, false, false, false, false, false, false] rfl rfl (any_of HT_.out (by kernel_rfl)) (fun _ _ _ h => h) (Or.inl ⟨by rfl, ?_⟩) ?_ ?_
   rotate_left
   ·intro w'
    go_simp
    with_reducible rfl
   rotate_left
   ·simp only [Act.put, List.setIfInBounds_toArray, List.set_cons_zero, List.set_cons_succ, i64_w, i32_w]
    rfl
   refine pure_ (i := 15) (N := some 28) (v := ?_) (a' := ?_) #[true, true, true, true, true, true, true, true, true, true, true, true, true, true, true, true, false, false, false, false, false, false, false, false] rfl rfl (any_of HT_.out (by kernel_rfl)) (fun _ _ _ h => h) (Or.inl ⟨by rfl, ?_⟩) ?_ ?_
   rotate_left
   ·intro w'
    go_simp
    with_reducible rfl
   rotate_left
   ·simp only [Act.put, List.setIfInBounds_toArray, List.set_cons_zero, List.set_cons_succ, i64_w, i32_w]
    rfl
   refine take_ (i := 16) (N := some 29) (v := ?_) (a' := ?_) #[true, true, true, true, true, true, true, true, true, true, true, true, true, true, true, true, true, false, false, false, false, false, false, false] rfl rfl (take_ofW HT_.out HW_.out (by kernel_rfl)) (fun _ _ _ h => h) (Or.inl ⟨by rfl, ?_⟩) hHeld ?_ ?_
   rotate_left
   ·rintro w' ⟨s0, s1, s2⟩
    go_simp
    with_reducible rfl
   rotate_left
   ·simp only [Act.put, List.setIfInBounds_toArray, List.set_cons_zero, List.set_cons_succ, i64_w, i32_w]
    rfl
   refine pure_ (i := 17) (N := some 30) (v := ?_) (a' := ?_) #[true, true, true, true, true, true, true, true, true, true, true, true, true, true, true, true, true, true, false, false, false, false, false, false] rfl rfl (any_of HT_.out (by kernel_rfl)) (fun _ _ _ h => h) (Or.inl ⟨by rfl, ?_⟩) ?_ ?_
   rotate_left
   ·intro w'
    go_simp
    with_reducible rfl
   rotate_left
   ·simp only [Act.put, List.setIfInBounds_toArray, List.set_cons_zero, List.set_cons_succ, i64_w, i32_w]
    rfl
   refine pure_ (i := 18) (N := some 31) (v := ?_) (a' := ?_) #[true, true, true, true, true, true, true, true, true, true, true, true, true, true, true, true, true, true, true, false, false, false, false, false] rfl rfl (any_of HT_.out (by kernel_rfl)) (fun _ _ _ h => h) (Or.inl ⟨by rfl, ?_⟩) ?_ ?_
   rotate_left
   ·intro w'
    go_simp
    with_reducible rfl
   rotate_left
   ·simp only [Act.put, List.setIfInBounds_toArray, List.set_cons_zero, List.set_cons_succ, i64_w, i32_w]
    rfl
   refine take_ (i := 19) (N := some 32) (v := ?_) (a' := ?_) #[true, true, true, true, true, true, true, true, true, true, true, true, true, true, true, true, true, true, true, true, false, false, false, false] rfl rfl (take_ofW HT_.out HW_.out (by kernel_rfl)) (fun _ _ _ h => h) (Or.inl ⟨by rfl, ?_⟩) hHeld ?_ ?_
   rotate_left
   ·rintro w' ⟨s0, s1, s2⟩
    go_simp
    with_reducible rfl
   rotate_left
   ·simp only [Act.put, List.setIfInBounds_toArray, List.set_cons_zero, List.set_cons_succ, i64_w, i32_w]
    rfl
   refine pure_ (i := 20) (N := some 33) (v := ?_) (a' := ?_) #[true, true, true, true, true, true, true, true, true, true, true, true, true, true, true, true, true, true, true, true, true, false, false, false] rfl rfl (any_of HT_.out (by kernel_rfl)) (fun _ _ _ h => h) (Or.inl ⟨by rfl, ?_⟩) ?_ ?_
   rotate_left
   ·intro w'
    go_simp
    with_reducible rfl
   rotate_left
   ·simp only [Act.put, List.setIfInBounds_toArray, List.set_cons_zero, List.set_cons_succ, i64_w, i32_w]
    rfl
   refine one_ (i := 21) (N := some 34) #[true, true, true, true, true, true, true, true, true, true, true, true, true, true, true, true, true, true, true, true, true, true, false, false] rfl rfl (one_of HT_.out (by kernel_rfl)) (by decide) (fun K hK => ?_)
   refine goes_ Try.func76 (by kernel_rfl) rfl #[.slice A1 x.length c1, .slice F first.length d] (by rfl) rfl rfl (by (try simp only [List.map_toArray, List.map_cons, List.map_nil]); first | done | rfl) ?_
   refine (both_calls A1 c1 x F d first W2 (Kd.R_reads' HR2.out).2.2 (Kd.R_reads' HR2.out).2.1 (Kd.R_reads' HF2.out).2.2 (Kd.R_reads' HF2.out).2.1 (by have := HXG.out.len; have := HGF.out.len; have := HN.out; omega)).mono ?_
   rintro e W3 ⟨A2, c2, rfl, hb, hcm⟩
   have HBB := Aside0.mk hb
   have HM3 := Aside0.mk (HM2.out.later hb)
   have HT3 := Aside0.mk (HT2.out.trans (Tn.later hb HB2.out))
   have HGC3 := Aside0.mk (blk_below HGC2.out hb)
   have HX3 := Aside0.mk (Came.rowI hcm HR2.out HM2.out hb HB2.out)
   refine ⟨_, rfl, ?_⟩
   clear hb hcm
   refine hK.out _ _ ⟨cell_keep HBB.out hHeld.1, cell_keep HBB.out hHeld.2.1, cell_keep HBB.out hHeld.2.2⟩ (fun hHeld => ?_)
   clear hK K
   refine norm_ (a' := ?_) ?_ ?_
   rotate_left
   ·show Act.put _ (some 34) _ = _
    simp only [Act.put, List.setIfInBounds_toArray, List.set_cons_zero, List.set_cons_succ, i64_w, i32_w]
    rfl
   refine pure_ (i := 22) (N := some 35) (v := ?_) (a' := ?_) #[true, true, true, true, true, true, true, true, true, true, true, true, true, true, true, true, true, true, true, true, true, true, true, false] rfl rfl (any_of HT_.out (by kernel_rfl)) (fun _ _ _ h => h) (Or.inl ⟨by rfl, ?_⟩) ?_ ?_
   rotate_left
   ·intro w'
    go_simp
    with_reducible rfl
   rotate_left
   ·simp only [Act.put, List.setIfInBounds_toArray, List.set_cons_zero, List.set_cons_succ, i64_w, i32_w]
    rfl
   obtain ⟨z0, z1, z2⟩ := hHeld
   have z3 := blk_frozen HGC3.out j
   refine last_ (i := 23) (N := none) #[true, true, true, true, true, true, true, true, true, true, true, true, true, true, true, true, true, true, true, true, true, true, true, true] rfl rfl (one_of HT_.out (by kernel_rfl)) (by decide) (fun K hK => ?_)
   refine step_list rfl (by rfl) ?_
   unfold Oper.wp
   go_simp
   refine hK.out _ _ ?_
   clear hK K z0 z1 z2 z3
   refine done_ (done_of HT_.out (by kernel_rfl)) ?_
   refine NoPanic.normal ?_
   clear HT_ HW_ hHeld
   clear hadd hwr
   have HP := Aside0.mk (HM3.out.put HGC3.out HGB.out HJL.out HX3.out)
   go_wp2_with fail
   go_roundg (gk - 1)
   case measure => have := HQ.out; omega
   case rel => exact ⟨i + 1, by rw [show wrap64 ((i : Int) + 1) = ((i + 1 : Nat) : Int) by have := HIL.out; have := HLL.out; unfold wrap64; omega], ⟨by have := HK.out; have := HQ.out; omega⟩, ⟨by rw [afterR_step HIL.out, ← HFQ.out, ← HTD.out, ← HJ.out, ← HX.out]; exact HP.out.1⟩, ⟨HT3.out.trans HP.out.2⟩⟩
end Go.Proofs.Ytemlgmkbonpniaa.Print
