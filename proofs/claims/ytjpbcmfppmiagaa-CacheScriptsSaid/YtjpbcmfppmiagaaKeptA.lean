/- The reference's cache in memory: the block behind the pointer, the row of what is kept; what its methods come to. -/
import Derived.Test.YtjpbcmfppmiagaaMeth
import Derived.Test.YtjpbcmfppmiagaaPut
namespace Go.Proofs.Ytjpbcmfppmiagaa.Print
open Go.RowKit Go.Maps Go.Proofs.YtjpbcmfppmiagaaW.PrintWords Go.Proofs.YtjpbcmfppmiagaaW.PrintLast Go.Proofs.YtjpbcmfppmiagaaW.PrintMore
set_option linter.unusedVariables false
set_option linter.unusedSimpArgs false

structure Kept (W : World) (base : Nat) (A : Option Addr) (c : Nat) (ks : List S65) : Prop where
  cap : ks.length ≤ c
  row : ReadsRow (k65.M W base (fun _ => True)) 2 W A ks.length ks
  typ : ∀ ad, A = some ad → ∃ cs, W.heap[ad.block]? = some (.cells cs 65 (0, 0))
theorem cell_same {W W' : World} {p : Addr} (h : W'.heap[p.block]? = W.heap[p.block]?) : W'.cell? p = W.cell? p := by
  unfold World.cell?
  rw [h]
theorem add_block (a : Addr) (n : Nat) : (a.add n).block = a.block := by cases n <;> rfl
theorem add_zero' (a : Addr) : a.add 0 = a := rfl
theorem add_add' (a : Addr) (i j : Nat) : (a.add i).add j = a.add (i + j) := by
  cases i with
  | zero => rw [Nat.zero_add]; rfl
  | succ i =>
    cases j with
    | zero => rfl
    | succ j => show Addr.mk _ (a.off + (i + 1) + (j + 1)) _ = Addr.mk _ (a.off + (i + 1 + (j + 1))) _; congr 1; omega
def cutA (A : Option Addr) (c i : Nat) : Option Addr := if c = i then A else A.map (·.add (i * 2))
section
variable {ok : Nat → Prop} {base b0 CB MB c : Nat} {W W' : World} {A : Option Addr} {ks : List S65} {vO : Value} {most h nt : Int} {m : Lists} {o : List ByteArray}
theorem Kept.kept (hk : Kept W base A c ks) (hm : ∀ (k t : Nat) (cs : Array Value), t = 65 ∨ t = 3 → W.heap[k]? = some (.cells cs t (0, 0)) → W'.heap[k]? = W.heap[k]?) : Kept W' base A c ks := by
  have hM : ∀ x cs, k65.M W base (fun _ => True) x cs → k65.M W' base (fun _ => True) x cs := fun x cs hx =>
    k65.M_mono (fun _ _ => trivial) (k65.M_move (fun k hk => by
      obtain ⟨_, _, _, q, hq, cs', hc⟩ := hk
      have hq3 : q = 3 := by simpa [k65, Kd.iso, Kd.pair, Kd.string, Kd.scalar, Kd.slice, Kd.int] using hq
      exact hm k q cs' (.inr hq3) hc) (k65.M_bound hx))
  refine ⟨hk.cap, ⟨hk.row.1, hk.row.2.1, fun hn => ?_⟩, fun ad e => ?_⟩
  · obtain ⟨ad, e, hc⟩ := hk.row.2.2 hn
    obtain ⟨bs, hb⟩ := hk.typ ad e
    refine ⟨ad, e, fun j p hj => ?_⟩
    obtain ⟨cs, c1, c2, c3⟩ := hc j p hj
    refine ⟨cs, c1, hM _ _ c2, fun i u hu => ?_⟩
    rw [cell_same (W := W) (by rw [add_block]; exact hm _ 65 bs (.inl rfl) hb)]
    exact c3 i u hu
  · obtain ⟨bs, hb⟩ := hk.typ ad e
    exact ⟨bs, (hm _ 65 bs (.inl rfl) hb).trans hb⟩
theorem Kept.reads (hk : Kept W base A c ks) : Kd.C k65 W A ks.length ks := hk.row.imp_ (Below.refl _ _) (fun _ _ hp => k65.K_of_M hp)
theorem Kept.below (hk : Kept W base A c ks) (hb : Below W.heap.size W W') : Kept W' base A c ks := hk.kept fun k t cs _ hk => hb.block k (blk_lt hk)
theorem Kept.turn (hk : Kept W base A c ks) (ht : Turn b0 CB MB W W') (hi : CInv ok b0 CB MB vO most m o h nt W) : Kept W' base A c ks := hk.kept fun k t cs q hk =>
  ht.block k (blk_lt hk) (fun e => by
    subst e
    have h2 := hi.blk
    rw [hk] at h2
    rcases q with rfl | rfl <;> cases h2) (hi.map.ne hk) (fun _ cs' e => by
    rw [hk] at e
    rcases q with rfl | rfl <;> cases e)
theorem Kept.grown {g t0 : Nat} {cs0 : Array Value} (hk : Kept W base A c ks) (hb : W.heap[g]? = some (.cells cs0 t0 (0, 0))) (h1 : t0 ≠ 65) (h2 : t0 ≠ 3) (hg : W.grownBy W' (some g)) : Kept W' base A c ks := hk.kept fun k t cs q hk =>
  hg.block k (blk_lt hk) (fun e => by
    injection e with e
    subst e
    rw [hk] at hb
    cases hb
    omega)
theorem Kept.nil (W : World) (base : Nat) : Kept W base none 0 [] := ⟨Nat.le_refl _, ⟨rfl, by simp, fun h => absurd h (by simp)⟩, fun _ e => (by cases e)⟩
theorem Kept.take (hk : Kept W base A c ks) {i : Nat} (hi : i ≤ ks.length) : ReadsRow (k65.M W base (fun _ => True)) 2 W A i (ks.take i) := by
  refine ⟨by rw [List.length_take]; omega, by have := hk.row.2.1; omega, fun hn => ?_⟩
  obtain ⟨ad, e, hc⟩ := hk.row.2.2 (by omega)
  refine ⟨ad, e, fun j p hj => hc j p ?_⟩
  rw [List.getElem?_take] at hj
  split at hj
  · exact hj
  · cases hj
theorem Kept.drop (hk : Kept W base A c ks) {i : Nat} (hi : i ≤ ks.length) : Kept W base (cutA A c i) (c - i) (ks.drop i) := by
  refine ⟨by rw [List.length_drop]; have := hk.cap; omega, ⟨rfl, by rw [List.length_drop]; have := hk.row.2.1; omega, fun hn => ?_⟩, fun ad e => ?_⟩
  · rw [List.length_drop] at hn
    obtain ⟨ad, e, hc⟩ := hk.row.2.2 (by omega)
    have hne : ¬ c = i := by have := hk.cap; omega
    refine ⟨ad.add (i * 2), by unfold cutA; rw [if_neg hne, e]; rfl, fun j p hj => ?_⟩
    rw [List.getElem?_drop] at hj
    obtain ⟨cs, c1, c2, c3⟩ := hc (i + j) p hj
    refine ⟨cs, c1, c2, fun t u hu => ?_⟩
    have := c3 t u hu
    rw [add_add', show i * 2 + (j * 2 + t) = (i + j) * 2 + t by omega]
    exact this
  · unfold cutA at e
    by_cases q : c = i
    · rw [if_pos q] at e; exact hk.typ ad e
    · rw [if_neg q] at e
      cases A with
      | none => cases e
      | some a =>
        obtain rfl := (Option.some.inj e).symm
        show ∃ cs, W.heap[(a.add (i * 2)).block]? = _
        rw [add_block]
        exact hk.typ a rfl
theorem Kept.dropRow (hk : Kept W base A c ks) {i : Nat} (hi : i ≤ ks.length) : ReadsRow (k65.M W base (fun _ => True)) 2 W (cutA A c i) (ks.length - i) (ks.drop i) := by
  have h1 := (hk.drop hi).row
  rwa [List.length_drop] at h1
theorem R_empty (W : World) (h : base ≤ W.heap.size) : Kd.R k65 65 (W.alloc (.cells #[] 65)) base (fun _ => True) (.slice (some ⟨W.heap.size, 0, none⟩) 0 0) [] :=
  ⟨fun _ _ => trivial, [], World.ownsRow_lit (base := base) (e := 65) (size := 2) W #[] 0 h (by decide) rfl, Reps.none _ _⟩
theorem Kept.of_R {v : Value} (hR : Kd.R k65 65 W base (fun _ => True) v ks) : ∃ A c, v = .slice A ks.length c ∧ Kept W base A c ks := by
  obtain ⟨h0, inner, hown, hr⟩ := hR
  obtain ⟨A, c, e, hrd⟩ := own_reads_row hown (hr.imp_ (fun _ _ hp => k65.M_mono (fun _ _ => trivial) hp)) rfl
  refine ⟨A, c, e, ?_, hrd, fun ad ea => ?_⟩
  · subst e
    rcases hown.2 with ⟨h1, h2⟩ | ⟨g, cap, cur, h1, _, _, h2, _⟩
    · injection h1 with _ _ h3
      omega
    · injection h1 with _ _ h3
      omega
  · subst e ea
    rcases hown.2 with ⟨h1, h2⟩ | ⟨g, cap, cur, h1, _, hh, _⟩
    · injection h1 with h3; cases h3
    · injection h1 with h3
      obtain rfl := Option.some.inj h3
      exact ⟨cur, hh⟩
end
structure RInv (base RB : Nat) (A : Option Addr) (c : Nat) (most : Int) (ks : List S65) (h nt : Int) (W : World) : Prop where
  blk : W.heap[RB]? = some (.cells #[.int .i64 most, .slice A ks.length c, .int .i64 h, .int .i64 nt] 55 (0, 0))
  row : Kept W base A c ks
section
variable {ok : Nat → Prop} {base b0 CB MB RB c c' : Nat} {W W' : World} {A A' : Option Addr} {ks ks' : List S65} {vO : Value} {most most' h h' nt nt' : Int} {m : Lists} {o : List ByteArray}
theorem RInv.later (hr : RInv base RB A c most ks h nt W) (hb : Below W.heap.size W W') : RInv base RB A c most ks h nt W' := ⟨blk_below hr.blk hb, hr.row.below hb⟩
theorem RInv.ne (hr : RInv base RB A c most ks h nt W) (hi : CInv ok b0 CB MB vO most' m o h' nt' W) : RB ≠ CB := by
  rintro rfl
  have h2 := hi.blk
  rw [hr.blk] at h2
  cases h2
theorem RInv.turn (hr : RInv base RB A c most ks h nt W) (ht : Turn b0 CB MB W W') (hi : CInv ok b0 CB MB vO most' m o h' nt' W) : RInv base RB A c most ks h nt W' :=
  ⟨ht.cells hr.blk (by decide) (hr.ne hi) (hi.map.ne hr.blk), hr.row.turn ht hi⟩
/-- The program's cache is kept by what the reference turns. -/
theorem CInv.ref (hi : CInv ok b0 CB MB vO most m o h nt W) {cs : Array Value} (hb : W.heap[RB]? = some (.cells cs 55 (0, 0))) (hg : W.grownBy W' (some RB)) : CInv ok b0 CB MB vO most m o h nt W' := by
  refine ⟨blk_grown hi.blk hg (fun e => ?_), hi.map.grown hb (by decide) hg, Kd.R_grown2 hi.ord rfl hg (fun k hk he => ?_), hi.hC, hi.hM⟩
  · injection e with e
    subst e
    have h2 := hi.blk
    rw [hb] at h2
    cases h2
  · injection hk with hk
    subst hk
    exact Kd.R_ne hi.ord hb (by decide) he
theorem grownBy_below (hb : Below W.heap.size W W') (r : Option Nat) : W.grownBy W' r := ⟨hb.os, hb.tape, hb.output, hb.size, fun k hk _ => hb.block k hk⟩
/-- The row is set. -/
theorem RInv.setRow (hb : W.heap[RB]? = some (.cells #[.int .i64 most, .slice A ks.length c, .int .i64 h, .int .i64 nt] 55 (0, 0))) (hk : Kept W base A' c' ks') : RInv base RB A' c' most ks' h nt (W.setCell ⟨RB, 1, none⟩ (.slice A' ks'.length c')) :=
  ⟨blk_put hb 1 _ rfl, hk.grown hb (by decide) (by decide) (grownBy_set _ _ _ _)⟩
theorem RInv.field (hr : RInv base RB A c most ks h nt W) (j : Nat) (u : Value) (e : (#[.int .i64 most, .slice A ks.length c, .int .i64 h, .int .i64 nt] : Array Value).setIfInBounds j u = #[.int .i64 most', .slice A ks.length c, .int .i64 h', .int .i64 nt']) : RInv base RB A c most' ks h' nt' (W.setCell ⟨RB, j, none⟩ u) :=
  ⟨blk_put hr.blk j u e, hr.row.grown hr.blk (by decide) (by decide) (grownBy_set _ _ _ _)⟩
theorem RInv.cells (hr : RInv base RB A c most ks h nt W) : W.cell? ⟨RB, 0, none⟩ = some (.int .i64 most) ∧ W.cell? ⟨RB, 1, none⟩ = some (.slice A ks.length c) ∧ W.cell? ⟨RB, 2, none⟩ = some (.int .i64 h) ∧ W.cell? ⟨RB, 3, none⟩ = some (.int .i64 nt) :=
  ⟨(blk_cell hr.blk 0).trans rfl, (blk_cell hr.blk 1).trans rfl, (blk_cell hr.blk 2).trans rfl, (blk_cell hr.blk 3).trans rfl⟩
end
theorem run_cut (W : World) (A : Option Addr) (n c i : Nat) (h1 : i ≤ n) (h2 : n ≤ c) : (Instr.slice 53 (.slice A n c) (some (.int .i64 (i : Int))) none none).run Try.prog W = .ok (.slice (cutA A c i) (n - i) (c - i)) W := by
  have q1 : (i : Int) ≤ n := by omega
  have q2 : ¬ (n : Int) < i := by omega
  unfold cutA
  go_simp
theorem run_take (W : World) (A : Option Addr) (n c i : Nat) (h1 : i ≤ n) (h2 : n ≤ c) : (Instr.slice 53 (.slice A n c) none (some (.int .i64 (i : Int))) none).run Try.prog W = .ok (.slice A i c) W := by
  have q1 : (i : Int) ≤ c := by omega
  have q2 : ¬ (c : Int) < i := by omega
  go_simp
end Go.Proofs.Ytjpbcmfppmiagaa.Print
