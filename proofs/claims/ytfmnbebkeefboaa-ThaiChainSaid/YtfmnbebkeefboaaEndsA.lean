/- What the words' ends are in memory: a map of rows of numbers; what sorting and compacting do to a row. -/
import Derived.Test.YtfmnbebkeefboaaMapR
import Derived.Test.YtfmnbebkeefboaaSteps
import Derived.Test.YtfmnbebkeefboaaShelf
import Derived.Sort.OwnSortedInts
import Derived.Lib.SlicesCompact
import Derived.Lib.RowBridge
namespace Go.Proofs.Ytfmnbebkeefboaa.Print
open Go.RowKit Go.Maps Go.Sort Go.Proofs.YtfmnbebkeefboaaW.PrintWords Go.Proofs.YtfmnbebkeefboaaW.PrintLast Go.Proofs.YtfmnbebkeefboaaW.PrintMore
set_option linter.unusedVariables false
set_option linter.unusedSimpArgs false

def Small (k : Int) : Prop := (Lit.int .i64 k).wf = true
theorem small_of {k : Int} (h : -9223372036854775808 ≤ k ∧ k ≤ 9223372036854775807) : Small k := by
  unfold Small
  simp [Lit.wf, IntKind.min, IntKind.max, IntKind.signed, IntKind.bits]
  omega
theorem law3 : Keyed Try.prog 3 := int_keyed Try.underlying3
theorem keyI : KeyK 3 (Value.int .i64) Small := ⟨law3, fun x h => ⟨_, keyOf_int_mk Try.underlying3 h⟩, fun x y h => by injection h⟩
theorem zeroS (w : World) : (zeroValue 25).run Try.prog w = .ok (.slice none 0 0) w := by kernel_rfl
theorem infoI : (Try.prog.info? 3).map (fun i => (i.zero, i.size, i.bytes)) = some (some (.int .i64 0), 1, 8) := by kernel_rfl

/-! ### sorting, compacting a row of numbers -/
def sortI (xs : List Int) : List Int := xs.mergeSort fun x y => decide (x ≤ y)
theorem sortI_perm (xs : List Int) : (sortI xs).Perm xs := List.mergeSort_perm ..
theorem sortI_len (xs : List Int) : (sortI xs).length = xs.length := (sortI_perm xs).length_eq
theorem sortI_mem {xs : List Int} {x : Int} : x ∈ sortI xs ↔ x ∈ xs := (sortI_perm xs).mem_iff
theorem compact_mem {zs : List Int} {t : Int} : t ∈ Lib.compact zs ↔ t ∈ zs := by
  unfold Lib.compact Lib.compactUpTo
  constructor
  · intro h
    obtain ⟨j, hj, rfl⟩ := List.mem_map.1 h
    have hj2 := List.mem_range.1 (List.mem_filter.1 hj).1
    have : zs.toArray[j]! = zs[j] := by simp [hj2]
    rw [this]
    exact List.getElem_mem hj2
  · intro h
    obtain ⟨j, hj, rfl⟩ := List.mem_iff_getElem.1 h
    have key : ∀ j (hj : j < zs.length), zs[j] ∈ ((List.range zs.length).filter (Lib.keeps zs.toArray)).map (zs.toArray[·]!) := by
      intro j
      induction j with
      | zero =>
        intro hj
        refine List.mem_map.2 ⟨0, List.mem_filter.2 ⟨List.mem_range.2 hj, by simp [Lib.keeps]⟩, by simp [hj]⟩
      | succ j ih =>
        intro hj
        by_cases e : zs[j + 1] = zs[j]
        · rw [e]; exact ih (by omega)
        · refine List.mem_map.2 ⟨j + 1, List.mem_filter.2 ⟨List.mem_range.2 hj, ?_⟩, by simp [hj]⟩
          have h1 : zs.toArray[j + 1]! = zs[j + 1] := by simp [hj]
          have h2 : zs.toArray[j]! = zs[j] := by simp [show j < zs.length by omega]
          unfold Lib.keeps
          rw [decide_eq_true_eq]
          right
          rw [h1, Nat.add_sub_cancel, h2]
          exact e
    exact key j hj
theorem compact_len (zs : List Int) : (Lib.compact zs).length ≤ zs.length := Lib.compact_length_le zs
theorem own_form {W : World} {base : Nat} {ok : Nat → Prop} {v : Value} {xs : List Int} (h : Kd.R (Kd.int .i64) 3 W base ok v xs) (hn : xs ≠ []) : ∃ g cap cur, v = .slice (some ⟨g, 0, none⟩) xs.length cap ∧ base ≤ g ∧ W.heap[g]? = some (.cells cur 3 (0, 0)) ∧ xs.length ≤ cap ∧ cap ≤ maxLen ∧ cur.size = cap * 1 ∧ cur.toList.take xs.length = xs.map (Value.int .i64) := by
  have ho := Kd.own_of_R h
  obtain ⟨hlen, hv⟩ := ho
  rcases hv with ⟨_, hn2⟩ | ⟨g, cap, cur, rfl, hg, hb, h1, h2, h3, h4⟩
  · exact absurd (List.length_eq_zero_iff.1 hn2) hn
  · rw [Nat.mul_one] at h4
    exact ⟨g, cap, cur, rfl, hg, hb, h1, h2, h3, h4⟩
theorem sort_calls (W : World) (base : Nat) (ok : Nat → Prop) (v : Value) (xs : List Int) (h : Kd.R (Kd.int .i64) 3 W base ok v xs) (hn : xs ≠ []) (hl : xs.length < 4611686018427387904) :
    Calls Try.prog 25 #[v] W fun e w' => e = .returned (.tuple #[]) ∧ Kd.R (Kd.int .i64) 3 w' base ok v (sortI xs) ∧ W.grownBy w' v.ownBlock := by
  obtain ⟨g, cap, cur, rfl, hg, hb, h1, h2, h3, h4⟩ := own_form h hn
  refine (Try.slices_Sort_int g 0 cap xs W (holds_of_blockI hb h4) (blk_lt hb) hl).mono ?_
  rintro e w' ⟨rfl, n, os, rfl⟩
  have hsz := sortI_len xs
  have ho2 := ownsRow_sortedI (n := n) (os := os) (w := W) (base := base) hsz hg hb h1 h2 h3
  refine ⟨rfl, ?_, grownBy_sortedI _⟩
  have := Kd.R_of_own (h1 := fun _ => rfl) (enc := Value.int .i64) (ok := ok) (xs := sortI xs) (by rw [hsz]; exact ho2) h.1
  exact this
theorem grow_none (w : World) : grow w #[] = w := by unfold grow; simp
theorem compact_calls (W : World) (base : Nat) (ok : Nat → Prop) (v : Value) (xs : List Int) (h : Kd.R (Kd.int .i64) 3 W base ok v xs) (hn : xs ≠ []) (hl : xs.length < 4611686018427387904) :
    Calls Try.prog 26 #[v] W fun e w' => ∃ v', e = .returned v' ∧ Kd.R (Kd.int .i64) 3 w' base ok v' (Lib.compact xs) ∧ v'.ownBlock = v.ownBlock ∧ W.grownBy w' v.ownBlock := by
  obtain ⟨g, cap, cur, rfl, hg, hb, h1, h2, h3, h4⟩ := own_form h hn
  refine (Try.slices_Compact_int g 0 cap xs W (holds_of_blockI hb h4) (by omega) h1).mono ?_
  rintro e w' ⟨rfl, q, rfl⟩
  have hcl := compact_len xs
  have hgr := grownBy_sortedI (w := W) (g := g) (n := q) (os := #[]) (Lib.compact xs ++ List.replicate (xs.length - (Lib.compact xs).length) 0).toArray
  have hbl := heap_sortedI (n := q) (os := #[]) (Lib.compact xs ++ List.replicate (xs.length - (Lib.compact xs).length) 0).toArray hb
  rw [grow_none] at hgr hbl
  refine ⟨_, rfl, ?_, rfl, hgr⟩
  have ht := take_putCellsI cur (Lib.compact xs ++ List.replicate (xs.length - (Lib.compact xs).length) 0) (by simp; omega)
  have hlen : (Lib.compact xs ++ List.replicate (xs.length - (Lib.compact xs).length) 0).length = xs.length := by simp; omega
  refine Kd.R_of_own (h1 := fun _ => rfl) (enc := Value.int .i64) (ok := ok) (xs := Lib.compact xs) ⟨by simp [encs], .inr ⟨g, cap, _, rfl, hg, hbl, by omega, h2, by simp [putCells, h3], ?_⟩⟩ h.1
  rw [Nat.mul_one]
  have h5 := congrArg (List.take (Lib.compact xs).length) ht
  rw [List.take_take, hlen, Nat.min_eq_left hcl, List.map_append, List.take_left' (by simp)] at h5
  exact h5
theorem R_cellg {W : World} {e base g n cap : Nat} {ok : Nat → Prop} {xs : List Int} (h : Kd.R (Kd.int .i64) e W base ok (.slice (some ⟨g, 0, none⟩) n cap) xs) (i : Nat) (hi : i < n) : W.cell? ⟨g, i, none⟩ = some (.int .i64 (rd xs i)) ∧ W.frozen? ⟨g, i, none⟩ = false := by
  obtain ⟨rfl, _⟩ := Kd.R_reads' h
  have := Kd.R_cell (0 : Int) h (i : Int) (by omega) (by omega)
  rw [Int.toNat_natCast] at this
  exact this

/-! ### the map of the rows -/
def setT (T : Int → List Int) (k : Int) (xs : List Int) : Int → List Int := fun j => if j = k then xs else T j
/-- What the words lead to from each place, as the map that block MB holds tells it (g: the rows). -/
structure EndsG (base MB len : Nat) (T : Int → List Int) (g : Int → Option Value) (W : World) : Prop where
  map : MapK (Value.int .i64) Small W MB g
  none_ : ∀ k, g k = none ↔ T k = []
  row : ∀ k v, g k = some v → ∃ xs, Kd.R (Kd.int .i64) 3 W base (fun _ => True) v xs ∧ xs.length ≤ len ∧ ∀ t, t ∈ xs ↔ t ∈ T k
  apart : ∀ k k' v v', g k = some v → g k' = some v' → k ≠ k' → v.ownBlock ≠ v'.ownBlock
  hM : base ≤ MB
def EndsI (base MB len : Nat) (T : Int → List Int) (W : World) : Prop := ∃ g, EndsG base MB len T g W
section
variable {base MB len : Nat} {T : Int → List Int} {g : Int → Option Value} {W W' W1 : World} {k : Int} {v v1 : Value} {xs : List Int}
theorem EndsG.ne_nil (h : EndsG base MB len T g W) (hv : g k = some v) {xs : List Int} (hm : ∀ t, t ∈ xs ↔ t ∈ T k) : xs ≠ [] := by
  rintro rfl
  have h1 : T k = [] := by
    cases q : T k with
    | nil => rfl
    | cons t r => have := (hm t).2 (by rw [q]; exact List.mem_cons_self ..); cases this
  rw [(h.none_ k).2 h1] at hv
  cases hv
theorem EndsG.later (h : EndsG base MB len T g W) (hb : Below W.heap.size W W') : EndsG base MB len T g W' :=
  ⟨h.map.move (hb.block _ h.map.lt), h.none_, fun k v hv => by
    obtain ⟨xs, h1, h2⟩ := h.row k v hv
    exact ⟨xs, Kd.R_below h1 hb, h2⟩, h.apart, h.hM⟩
theorem EndsI.later (h : EndsI base MB len T W) (hb : Below W.heap.size W W') : EndsI base MB len T W' := by
  obtain ⟨g, h⟩ := h
  exact ⟨g, h.later hb⟩
theorem EndsI.lt (h : EndsI base MB len T W) : MB < W.heap.size := by obtain ⟨g, h⟩ := h; exact h.map.lt
theorem EndsG.weak (h : EndsG base MB len T g W) {len' : Nat} (hl : len ≤ len') : EndsG base MB len' T g W :=
  ⟨h.map, h.none_, fun k v hv => by
    obtain ⟨xs, a, b, c⟩ := h.row k v hv
    exact ⟨xs, a, Nat.le_trans b hl, c⟩, h.apart, h.hM⟩
/-- Another block, that is none of the rows, is written. -/
theorem EndsG.other (h : EndsG base MB len T g W) {b : Nat} (hg : W.grownBy W' (some b)) (h1 : b ≠ MB) (h2 : ∀ cs, W.heap[b]? ≠ some (.cells cs 3 (0, 0))) : EndsG base MB len T g W' :=
  ⟨h.map.move (hg.block _ h.map.lt (fun e => h1 (by injection e with e; exact e.symm))), h.none_, fun k v hv => by
    obtain ⟨xs, a, c⟩ := h.row k v hv
    refine ⟨xs, Kd.R_mono (Kd.R_step (Kd.R_tight rfl a) (fun j hj hlt => hg.block j hlt (fun e => ?_))) (fun _ _ => trivial), c⟩
    injection e with e
    subst e
    obtain ⟨cs, hcs⟩ := Kd.R_typed a j hj.symm
    exact h2 cs hcs, h.apart, h.hM⟩
/-- A row is told, or none. -/
theorem EndsG.look (h : EndsG base MB len T g W) (hk : Small k) :
    (T k = [] ∧ g k = none ∧ (Instr.lookup 37 (.map (some MB)) (.int .i64 k) true).run Try.prog W = .ok (.tuple #[.slice none 0 0, .bool false]) W ∧ (Instr.lookup 37 (.map (some MB)) (.int .i64 k) false).run Try.prog W = .ok (.slice none 0 0) W) ∨
    ∃ A c xs, xs ≠ [] ∧ xs.length ≤ len ∧ (∀ t, t ∈ xs ↔ t ∈ T k) ∧ g k = some (.slice A xs.length c) ∧ Kd.R (Kd.int .i64) 3 W base (fun _ => True) (.slice A xs.length c) xs ∧ (Instr.lookup 37 (.map (some MB)) (.int .i64 k) true).run Try.prog W = .ok (.tuple #[.slice A xs.length c, .bool true]) W ∧ (Instr.lookup 37 (.map (some MB)) (.int .i64 k) false).run Try.prog W = .ok (.slice A xs.length c) W := by
  cases q : g k with
  | none =>
    have hm := h.map.miss keyI Try.underlying37 zeroS hk q
    exact .inl ⟨(h.none_ k).1 q, rfl, hm.1, hm.2⟩
  | some v =>
    obtain ⟨xs, h1, h2, h3⟩ := h.row k v q
    obtain ⟨A, c, rfl⟩ := Kd.R_slice h1
    have hm := h.map.hit keyI Try.underlying37 hk q
    exact .inr ⟨A, c, xs, h.ne_nil q h3, h2, h3, rfl, h1, hm.1, hm.2⟩
/-- A row, or the empty one where there is none. -/
theorem EndsG.get (h : EndsG base MB len T g W) (k : Int) : ∃ A c xs, (g k = some (.slice A xs.length c) ∨ g k = none ∧ (.slice A xs.length c : Value) = .slice none 0 0) ∧ Kd.R (Kd.int .i64) 3 W base (fun _ => True) (.slice A xs.length c) xs ∧ xs.length ≤ len ∧ ∀ t, t ∈ xs ↔ t ∈ T k := by
  cases q : g k with
  | none =>
    have e := (h.none_ k).1 q
    exact ⟨none, 0, [], .inr ⟨rfl, rfl⟩, Kd.R_nil _ _ _ _ _, Nat.zero_le _, by rw [e]; simp⟩
  | some v =>
    obtain ⟨xs, h1, h2, h3⟩ := h.row k v q
    obtain ⟨A, c, rfl⟩ := Kd.R_slice h1
    exact ⟨A, c, xs, .inl rfl, h1, h2, h3⟩
theorem look_row (hm : MapK (Value.int .i64) Small W MB g) (hk : Small k) (hv : g k = some v ∨ g k = none ∧ v = .slice none 0 0) : (Instr.lookup 37 (.map (some MB)) (.int .i64 k) false).run Try.prog W = .ok v W := by
  rcases hv with hv | ⟨hv, rfl⟩
  · exact (hm.hit keyI Try.underlying37 hk hv).2
  · exact (hm.miss keyI Try.underlying37 zeroS hk hv).2
theorem EndsG.mapTurn (h : EndsG base MB len T g W) (hv : g k = some v ∨ g k = none ∧ v = .slice none 0 0) (hg : W.grownBy W1 v.ownBlock) : MapK (Value.int .i64) Small W1 MB g := by
  refine h.map.move (hg.block _ h.map.lt (fun e => ?_))
  rcases hv with hv | ⟨_, rfl⟩
  · obtain ⟨ys, a, _⟩ := h.row k v hv
    obtain ⟨cs, hcs⟩ := Kd.R_typed a MB e.symm
    exact h.map.ne hcs rfl
  · cases e
/-- A row has been turned, and is put. -/
theorem EndsG.put (h : EndsG base MB len T g W) (hk : Small k) (hb : base ≤ W.heap.size) (hv : g k = some v ∨ g k = none ∧ v = .slice none 0 0) (hg : W.grownBy W1 v.ownBlock) (hat : v1.ownBlock = v.ownBlock ∨ ∃ b, v1.ownBlock = some b ∧ W.heap.size ≤ b)
    (hR : Kd.R (Kd.int .i64) 3 W1 base (fun _ => True) v1 xs) (hl : xs.length ≤ len) (hn : xs ≠ []) : ∃ W2 g2, (Instr.mapUpdate 37 (.map (some MB)) (.int .i64 k) v1).run Try.prog W1 = .ok () W2 ∧ EndsG base MB len (setT T k xs) g2 W2 ∧ W1.grownBy W2 (some MB) ∧ (g k ≠ none → ∀ r cnt, Iter W1 MB r cnt → Iter W2 MB r cnt) := by
  have hne : v.ownBlock ≠ some MB := fun e => by
    rcases hv with hv | ⟨_, rfl⟩
    · obtain ⟨ys, a, _⟩ := h.row k v hv
      obtain ⟨cs, hcs⟩ := Kd.R_typed a MB e
      exact h.map.ne hcs rfl
    · cases e
  have hm1 : MapK (Value.int .i64) Small W1 MB g := h.map.move (hg.block _ h.map.lt (fun e => hne e.symm))
  obtain ⟨W2, hrun, ⟨g2, hm2, hg2⟩, hgr, hit⟩ := hm1.put keyI Try.underlying37 hk v1
  have hk2 : g2 k = some v1 := by rw [hg2]; simp
  have ho2 : ∀ j, j ≠ k → g2 j = g j := fun j hj => by rw [hg2]; simp [hj]
  have keep : ∀ {u : Value} {ys : List Int}, Kd.R (Kd.int .i64) 3 W1 base (fun _ => True) u ys → Kd.R (Kd.int .i64) 3 W2 base (fun _ => True) u ys := fun {u ys} a =>
    Kd.R_mono (Kd.R_step (Kd.R_tight rfl a) (fun j hj hlt => hgr.block j hlt (fun e => by
      injection e with e
      subst e
      obtain ⟨cs, hcs⟩ := Kd.R_typed a j hj.symm
      exact hm1.ne hcs rfl))) (fun _ _ => trivial)
  have far : ∀ j u, g j = some u → j ≠ k → u.ownBlock ≠ v.ownBlock ∨ v.ownBlock = none := fun j u hu hj => by
    rcases hv with hv | ⟨_, rfl⟩
    · exact .inl (h.apart j k u v hu hv hj)
    · exact .inr rfl
  have small : ∀ j u, g j = some u → ∀ b, u.ownBlock = some b → b < W.heap.size := fun j u hu b hb => by
    obtain ⟨ys, a, _⟩ := h.row j u hu
    exact Kd.R_lt a b hb
  have far1 : ∀ j u, g j = some u → j ≠ k → u.ownBlock ≠ v1.ownBlock := fun j u hu hj e => by
    obtain ⟨ys, a, _, hm⟩ := h.row j u hu
    obtain ⟨gb, cap, cur, rfl, _⟩ := own_form a (h.ne_nil hu hm)
    rcases hat with e1 | ⟨b, e1, hle⟩
    · rw [e1] at e
      rcases far j _ hu hj with q | q
      · exact q e
      · rw [q] at e; cases e
    · rw [e1] at e
      have := small j _ hu b e
      omega
  refine ⟨W2, g2, hrun, ⟨hm2, fun j => ?_, fun j u hu => ?_, fun j j' u u' hu hu' hj => ?_, h.hM⟩, hgr, hit⟩
  · unfold setT
    by_cases e : j = k
    · rw [if_pos e, e, hk2]
      exact ⟨fun h => (by cases h), fun h => absurd h hn⟩
    · rw [if_neg e, ho2 j e]; exact h.none_ j
  · by_cases e : j = k
    · subst e
      rw [hk2] at hu
      obtain rfl := Option.some.inj hu
      exact ⟨xs, keep hR, hl, fun t => by unfold setT; rw [if_pos rfl]⟩
    · rw [ho2 j e] at hu
      obtain ⟨ys, a, b, c⟩ := h.row j u hu
      refine ⟨ys, keep (Kd.R_mono (Kd.R_step (Kd.R_tight rfl a) (fun i hi hlt => hg.block i hlt (fun e2 => ?_))) (fun _ _ => trivial)), b, fun t => by unfold setT; rw [if_neg e]; exact c t⟩
      rcases far j u hu e with q | q
      · exact q (hi.symm.trans e2)
      · rw [q] at e2; cases e2
  · by_cases e : j = k
    · subst e
      rw [hk2] at hu
      obtain rfl := Option.some.inj hu
      rw [ho2 j' (fun h => hj h.symm)] at hu'
      exact fun e => far1 j' u' hu' (fun h => hj h.symm) e.symm
    · rw [ho2 j e] at hu
      by_cases e' : j' = k
      · subst e'
        rw [hk2] at hu'
        obtain rfl := Option.some.inj hu'
        exact far1 j u hu e
      · rw [ho2 j' e'] at hu'
        exact h.apart j j' u u' hu hu' hj
/-- Only which ends there are plays a part. -/
theorem EndsG.congr {T' : Int → List Int} (h : EndsG base MB len T g W) (e : ∀ j t, t ∈ T j ↔ t ∈ T' j) : EndsG base MB len T' g W :=
  ⟨h.map, fun k => (h.none_ k).trans (by
    rw [List.eq_nil_iff_forall_not_mem, List.eq_nil_iff_forall_not_mem]
    exact ⟨fun h t ht => h t ((e k t).2 ht), fun h t ht => h t ((e k t).1 ht)⟩), fun k v hv => by
    obtain ⟨xs, a, b, c⟩ := h.row k v hv
    exact ⟨xs, a, b, fun t => (c t).trans (e k t)⟩, h.apart, h.hM⟩
end
end Go.Proofs.Ytfmnbebkeefboaa.Print
