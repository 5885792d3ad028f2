/- What a run of package cover is in memory: its block, the map of costs, the rows of ends; what sorting does to a row. -/
import Derived.Test.YtckpjppbkfcaaaaMapK
import Derived.Test.YtckpjppbkfcaaaaSteps
import Derived.Test.YtckpjppbkfcaaaaShelf
import Derived.Sort.OwnSortedInts
namespace Go.Proofs.Ytckpjppbkfcaaaa.Print
open Go.RowKit Go.Maps Go.Sort Go.Proofs.YtckpjppbkfcaaaaW.PrintWords Go.Proofs.YtckpjppbkfcaaaaW.PrintLast Go.Proofs.YtckpjppbkfcaaaaW.PrintMore
set_option linter.unusedVariables false
set_option linter.unusedSimpArgs false

theorem laid23 : laidOutB Try.prog = true := by kernel_rfl
theorem row23 : 23 < Try.prog.types.size := of_decide_eq_true (by kernel_rfl)
theorem wide23 : (match Try.prog.underlying 23 with | some (.array _ _) | some (.struct _) => true | _ => false) = true := by rw [Try.underlying23]
theorem law23 : Keyed Try.prog 23 := Keyed.of_law (deep_law_laid laid23 (m := 2) (by omega) row23 (by kernel_rfl) wide23)
theorem arr23 : Go.WideMaps.ArrKey Try.prog 23 3 2 := ⟨Try.underlying23, by kernel_rfl, by kernel_rfl, by kernel_rfl⟩
theorem size23 : ∃ m, Try.prog.types.size = m + 1 := by
  have h := row23
  exact ⟨Try.prog.types.size - 1, by omega⟩
theorem keyP : KeyK 23 pairV SmallP := ⟨law23, fun p h => ⟨_, Go.WideMaps.keyOf_pair arr23 Try.underlying3 size23 h.1 h.2⟩, pairV_inj⟩
theorem zeroI (w : World) : (zeroValue 3).run Try.prog w = .ok (.int .i64 0) w := by kernel_rfl
theorem infoI : (Try.prog.info? 3).map (fun i => (i.zero, i.size, i.bytes)) = some (some (.int .i64 0), 1, 8) := by kernel_rfl

theorem grownBy_set (W : World) (b j : Nat) (v : Value) : W.grownBy (W.setCell ⟨b, j, none⟩ v) (some b) :=
  ⟨rfl, rfl, rfl, by simp, fun k _ hk => Below.heap_setCell _ _ _ k (fun e => hk (by rw [e]))⟩

/-! ### sorting a row of numbers -/
def sortI (xs : List Int) : List Int := xs.mergeSort fun x y => decide (x ≤ y)
theorem sortI_perm (xs : List Int) : (sortI xs).Perm xs := List.mergeSort_perm ..
theorem sortI_len (xs : List Int) : (sortI xs).length = xs.length := (sortI_perm xs).length_eq
theorem sortI_mem {xs : List Int} {x : Int} : x ∈ sortI xs ↔ x ∈ xs := (sortI_perm xs).mem_iff
theorem sortI_sorted (xs : List Int) : (sortI xs).Pairwise (· ≤ ·) := by
  have := List.pairwise_mergeSort (le := fun (x y : Int) => decide (x ≤ y)) (fun a b c h1 h2 => by simp at *; omega) (fun a b => by simp; omega) xs
  exact this.imp (by simp)
theorem sortI_strict {xs : List Int} (h : xs.Nodup) : (sortI xs).Pairwise (· < ·) := by
  have h1 := sortI_sorted xs
  have h2 : (sortI xs).Nodup := (sortI_perm xs).nodup_iff.2 h
  exact (h1.and h2).imp (fun ⟨a, b⟩ => by omega)
theorem sort_calls (W : World) (base : Nat) (ok : Nat → Prop) (v : Value) (xs : List Int) (h : Kd.R (Kd.int .i64) 3 W base ok v xs) (hl : xs.length < 4611686018427387904) :
    Calls Try.prog 24 #[v] W fun e w' => e = .returned (.tuple #[]) ∧ Kd.R (Kd.int .i64) 3 w' base ok v (sortI xs) ∧ W.grownBy w' v.ownBlock := by
  rcases Nat.eq_zero_or_pos xs.length with q | q
  · obtain rfl : xs = [] := List.length_eq_zero_iff.1 q
    obtain ⟨A, c, rfl⟩ := Kd.R_slice h
    refine (Try.slices_Sort_int_none A c W).mono ?_
    rintro e w' ⟨rfl, rfl⟩
    exact ⟨rfl, by simpa [sortI] using h, rfl, rfl, rfl, Nat.le_refl _, fun _ _ _ => rfl⟩
  · have ho := Kd.own_of_R h
    obtain ⟨hlen, hv⟩ := ho
    rcases hv with ⟨_, hn⟩ | ⟨g, cap, cur, rfl, hg, hb, h1, h2, h3, h4⟩
    · omega
    · rw [Nat.mul_one] at h4
      refine (Try.slices_Sort_int g 0 cap xs W (holds_of_blockI hb h4) (blk_lt hb) hl).mono ?_
      rintro e w' ⟨rfl, n, os, rfl⟩
      have hsz := sortI_len xs
      have ho2 := ownsRow_sortedI (n := n) (os := os) (w := W) (base := base) hsz hg hb h1 h2 h3
      refine ⟨rfl, ?_, grownBy_sortedI _⟩
      have := Kd.R_of_own (h1 := fun _ => rfl) (enc := Value.int .i64) (ok := ok) (xs := sortI xs) (by rw [hsz]; exact ho2) h.1
      exact this

/-! ### rows of numbers that a row holds -/
def setE (E : Nat → List Int) (i : Nat) (l : List Int) : Nat → List Int := fun j => if j = i then l else E j
structure Rows (W : World) (base EB : Nat) (vs : List Value) (E : Nat → List Int) : Prop where
  blk : W.heap[EB]? = some (.cells vs.toArray 25 (0, 0))
  row : ∀ (i : Nat) (v : Value), vs[i]? = some v → Kd.R (Kd.int .i64) 3 W base (fun _ => True) v (E i)
  apart : ∀ (i j : Nat) (v u : Value), vs[i]? = some v → vs[j]? = some u → i ≠ j → ∀ k, v.ownBlock = some k → u.ownBlock ≠ some k
section
variable {W W' W1 : World} {base EB : Nat} {vs : List Value} {E : Nat → List Int} {v v1 : Value} {i : Nat} {xs : List Int}
theorem Rows.later (h : Rows W base EB vs E) (hb : Below W.heap.size W W') : Rows W' base EB vs E := ⟨blk_below h.blk hb, fun i v hv => Kd.R_below (h.row i v hv) hb, h.apart⟩
/-- A block of another kind is written. -/
theorem Rows.other (h : Rows W base EB vs E) {k : Nat} (hg : W.grownBy W' (some k)) (h1 : EB ≠ k) (h2 : ∀ cs, W.heap[k]? ≠ some (.cells cs 3 (0, 0))) : Rows W' base EB vs E :=
  ⟨blk_grown h.blk hg (fun e => h1 (by injection e)), fun i v hv => Kd.R_grown2 (h.row i v hv) rfl hg (fun k' hk he => by
    injection hk with hk
    subst hk
    obtain ⟨cs, hcs⟩ := Kd.R_typed (h.row i v hv) _ he.symm
    exact h2 cs hcs), h.apart⟩
theorem Rows.cell (h : Rows W base EB vs E) (hv : vs[i]? = some v) : W.cell? ⟨EB, i, none⟩ = some v := by
  refine (blk_cell h.blk i).trans ?_
  simpa using hv
/-- A row has been written; what it is now is put in its place. -/
theorem Rows.put (h : Rows W base EB vs E) (hv : vs[i]? = some v) (hg : W.grownBy W1 v.ownBlock) (hat : v1.ownBlock = v.ownBlock ∨ ∃ b, v1.ownBlock = some b ∧ W.heap.size ≤ b) (hR : Kd.R (Kd.int .i64) 3 W1 base (fun _ => True) v1 xs) :
    Rows (W1.setCell ⟨EB, i, none⟩ v1) base EB (vs.set i v1) (setE E i xs) ∧ W1.heap[EB]? = some (.cells vs.toArray 25 (0, 0)) := by
  have hEB : W1.heap[EB]? = some (.cells vs.toArray 25 (0, 0)) := blk_grown h.blk hg (Kd.R_ne (h.row i v hv) h.blk (by decide))
  have hgs := grownBy_set W1 EB i v1
  have hil : i < vs.length := (List.getElem?_eq_some_iff.1 hv).1
  refine ⟨⟨?_, fun j u hu => ?_, fun j k u u' hu hu' hne b hb => ?_⟩, hEB⟩
  · refine blk_put hEB i v1 ?_
    apply Array.ext'
    simp
  · rw [List.getElem?_set] at hu
    unfold setE
    by_cases e : i = j
    · subst e
      rw [if_pos rfl, if_pos hil] at hu
      obtain rfl := Option.some.inj hu
      rw [if_pos rfl]
      exact Kd.R_grown2 hR rfl hgs (fun k hk he => by
        injection hk with hk
        subst hk
        exact Kd.R_ne hR hEB (by decide) he)
    · rw [if_neg e] at hu
      rw [if_neg (fun h => e h.symm)]
      have hr := h.row j u hu
      have hr1 : Kd.R (Kd.int .i64) 3 W1 base (fun _ => True) u (E j) := Kd.R_grown2 hr rfl hg (fun k hk he => h.apart i j v u hv hu e k hk he.symm)
      exact Kd.R_grown2 hr1 rfl hgs (fun k hk he => by
        injection hk with hk
        subst hk
        exact Kd.R_ne hr1 hEB (by decide) he)
  · have old : ∀ j u, vs[j]? = some u → i ≠ j → ∀ b, u.ownBlock = some b → v1.ownBlock ≠ some b := fun j u hu e b hb he => by
      rcases hat with q | ⟨b', q, hq⟩
      · rw [q] at he; exact h.apart i j v u hv hu e b he hb
      · have := Kd.R_lt (h.row j u hu) b hb
        rw [q] at he
        have := Option.some.inj he
        omega
    rw [List.getElem?_set] at hu hu'
    by_cases e : i = j
    · subst e
      rw [if_pos rfl, if_pos hil] at hu
      obtain rfl := Option.some.inj hu
      rw [if_neg (fun h => hne h)] at hu'
      exact fun he => old k u' hu' (fun h => hne h) b he hb
    · rw [if_neg e] at hu
      by_cases e2 : i = k
      · subst e2
        rw [if_pos rfl, if_pos hil] at hu'
        obtain rfl := Option.some.inj hu'
        exact old j u hu e b hb
      · rw [if_neg e2] at hu'
        exact h.apart j k u u' hu hu' hne b hb
/-- A row has been written in its place. -/
theorem Rows.turn (h : Rows W base EB vs E) (hv : vs[i]? = some v) (hg : W.grownBy W1 v.ownBlock) (hR : Kd.R (Kd.int .i64) 3 W1 base (fun _ => True) v xs) : Rows W1 base EB vs (setE E i xs) := by
  refine ⟨blk_grown h.blk hg (Kd.R_ne (h.row i v hv) h.blk (by decide)), fun j u hu => ?_, h.apart⟩
  unfold setE
  by_cases e : j = i
  · subst e
    rw [hv] at hu
    obtain rfl := Option.some.inj hu
    rw [if_pos rfl]; exact hR
  · rw [if_neg e]
    exact Kd.R_grown2 (h.row j u hu) rfl hg (fun k hk he => h.apart i j v u hv hu (fun h => e h.symm) k hk he.symm)
end

/-! ### a run -/
abbrev Costs := Int × Int → Option Int
def setC (C : Costs) (p : Int × Int) (c : Int) : Costs := fun q => if q = p then some c else C q
structure RunI (base RB MB EB : Nat) (n p mo : Int) (k : Nat) (C : Costs) (vs : List Value) (E : Nat → List Int) (W : World) : Prop where
  blk : W.heap[RB]? = some (.cells #[.int .i64 n, .int .i64 p, .int .i64 mo, .map (some MB), .slice (some ⟨EB, 0, none⟩) k k] 47 (0, 0))
  map : ∃ g, MapK pairV SmallP W MB g ∧ ∀ q, g q = (C q).map (.int .i64)
  rows : Rows W base EB vs E
  len : vs.length = k
  hR : base ≤ RB
  hM : base ≤ MB
  hE : base ≤ EB
section
variable {base RB MB EB : Nat} {n p mo : Int} {k : Nat} {C : Costs} {vs : List Value} {E : Nat → List Int} {W W' W1 : World} {v v1 : Value} {i : Nat} {xs : List Int}
theorem RunI.later (h : RunI base RB MB EB n p mo k C vs E W) (hb : Below W.heap.size W W') : RunI base RB MB EB n p mo k C vs E W' := by
  obtain ⟨g, g1, g2⟩ := h.map
  exact ⟨blk_below h.blk hb, ⟨g, g1.move (hb.block _ g1.lt), g2⟩, h.rows.later hb, h.len, h.hR, h.hM, h.hE⟩
theorem RunI.neM (h : RunI base RB MB EB n p mo k C vs E W) : RB ≠ MB ∧ EB ≠ MB ∧ RB ≠ EB := by
  obtain ⟨g, g1, g2⟩ := h.map
  refine ⟨g1.ne h.blk, g1.ne h.rows.blk, ?_⟩
  rintro rfl
  have := h.blk
  rw [h.rows.blk] at this
  cases this
theorem RunI.cells (h : RunI base RB MB EB n p mo k C vs E W) : W.cell? ⟨RB, 0, none⟩ = some (.int .i64 n) ∧ W.cell? ⟨RB, 1, none⟩ = some (.int .i64 p) ∧ W.cell? ⟨RB, 2, none⟩ = some (.int .i64 mo) ∧ W.cell? ⟨RB, 3, none⟩ = some (.map (some MB)) ∧ W.cell? ⟨RB, 4, none⟩ = some (.slice (some ⟨EB, 0, none⟩) k k) :=
  ⟨(blk_cell h.blk 0).trans rfl, (blk_cell h.blk 1).trans rfl, (blk_cell h.blk 2).trans rfl, (blk_cell h.blk 3).trans rfl, (blk_cell h.blk 4).trans rfl⟩
theorem RunI.hit (h : RunI base RB MB EB n p mo k C vs E W) {q : Int × Int} (hq : SmallP q) {c : Int} (hc : C q = some c) : (Instr.lookup 45 (.map (some MB)) (pairV q) true).run Try.prog W = .ok (.tuple #[.int .i64 c, .bool true]) W := by
  obtain ⟨g, g1, g2⟩ := h.map
  exact (g1.hit keyP Try.underlying45 hq (v := .int .i64 c) (by rw [g2, hc]; rfl)).1
theorem RunI.miss (h : RunI base RB MB EB n p mo k C vs E W) {q : Int × Int} (hq : SmallP q) (hc : C q = none) : (Instr.lookup 45 (.map (some MB)) (pairV q) true).run Try.prog W = .ok (.tuple #[.int .i64 0, .bool false]) W := by
  obtain ⟨g, g1, g2⟩ := h.map
  exact (g1.miss keyP Try.underlying45 zeroI hq (by rw [g2, hc]; rfl)).1
theorem RunI.setC (h : RunI base RB MB EB n p mo k C vs E W) {q : Int × Int} (hq : SmallP q) (c : Int) : ∃ W', (Instr.mapUpdate 45 (.map (some MB)) (pairV q) (.int .i64 c)).run Try.prog W = .ok () W' ∧ RunI base RB MB EB n p mo k (setC C q c) vs E W' ∧ W.grownBy W' (some MB) := by
  obtain ⟨g, g1, g2⟩ := h.map
  obtain ⟨W', e1, ⟨g', e2, e3⟩, e4⟩ := g1.put keyP Try.underlying45 hq (.int .i64 c)
  have hn := h.neM
  refine ⟨W', e1, ⟨blk_grown h.blk e4 (fun e => hn.1 (Option.some.inj e)), ⟨g', e2, fun s => ?_⟩, h.rows.other e4 hn.2.1 (fun cs e => g1.ne e rfl), h.len, h.hR, h.hM, h.hE⟩, e4⟩
  rw [e3]
  unfold Print.setC
  by_cases e : s = q
  · rw [if_pos e, if_pos e]; rfl
  · rw [if_neg e, if_neg e]; exact g2 s
theorem RunI.put (h : RunI base RB MB EB n p mo k C vs E W) (hv : vs[i]? = some v) (hg : W.grownBy W1 v.ownBlock) (hat : v1.ownBlock = v.ownBlock ∨ ∃ b, v1.ownBlock = some b ∧ W.heap.size ≤ b) (hR : Kd.R (Kd.int .i64) 3 W1 base (fun _ => True) v1 xs) :
    RunI base RB MB EB n p mo k C (vs.set i v1) (setE E i xs) (W1.setCell ⟨EB, i, none⟩ v1) ∧ W1.heap[EB]? = some (.cells vs.toArray 25 (0, 0)) := by
  obtain ⟨r1, r2⟩ := h.rows.put hv hg hat hR
  obtain ⟨g, g1, g2⟩ := h.map
  have hn := h.neM
  have hgs := grownBy_set W1 EB i v1
  have hb1 := blk_grown h.blk hg (Kd.R_ne (h.rows.row i v hv) h.blk (by decide))
  refine ⟨⟨blk_grown hb1 hgs (fun e => hn.2.2 (Option.some.inj e)), ⟨g, (g1.move (hg.block _ g1.lt (fun e => ?_))).move ?_, g2⟩, r1, by rw [List.length_set]; exact h.len, h.hR, h.hM, h.hE⟩, r2⟩
  · obtain ⟨cs, hcs⟩ := Kd.R_typed (h.rows.row i v hv) _ e.symm
    exact g1.ne hcs rfl
  · exact Below.heap_setCell _ _ _ _ (fun e => hn.2.1 e.symm)
theorem RunI.turn (h : RunI base RB MB EB n p mo k C vs E W) (hv : vs[i]? = some v) (hg : W.grownBy W1 v.ownBlock) (hR : Kd.R (Kd.int .i64) 3 W1 base (fun _ => True) v xs) : RunI base RB MB EB n p mo k C vs (setE E i xs) W1 := by
  obtain ⟨g, g1, g2⟩ := h.map
  refine ⟨blk_grown h.blk hg (Kd.R_ne (h.rows.row i v hv) h.blk (by decide)), ⟨g, g1.move (hg.block _ g1.lt (fun e => ?_)), g2⟩, h.rows.turn hv hg hR, h.len, h.hR, h.hM, h.hE⟩
  obtain ⟨cs, hcs⟩ := Kd.R_typed (h.rows.row i v hv) _ e.symm
  exact g1.ne hcs rfl
end
end Go.Proofs.Ytckpjppbkfcaaaa.Print
