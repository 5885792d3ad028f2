/- Two lists of numbers, or of strings, are the same: what the references' comparisons answer. What a call keeps of rows that are not the cache's. -/
import Derived.Test.YtjpbcmfppmiagaaPrint2
import Derived.Test.YtjpbcmfppmiagaaPrint4
import Derived.Test.YtjpbcmfppmiagaaNew
-- NEEDS scansionref01_SameInts scansionref21_Same
namespace Go.Proofs.Ytjpbcmfppmiagaa.Print
open Go.RowKit Go.Maps Go.Proofs.YtjpbcmfppmiagaaW.PrintWords Go.Proofs.YtjpbcmfppmiagaaW.PrintLast Go.Proofs.YtjpbcmfppmiagaaW.PrintMore
set_option linter.unusedVariables false
set_option linter.unusedSimpArgs false

/-- With enough rounds it answers r. -/
def Ev {β : Type} (f : Nat → Option β) (r : β) : Prop := ∃ K, ∀ k, K ≤ k → f k = some r
theorem Ev.some_ {β : Type} (r : β) : Ev (fun _ => some r) r := ⟨0, fun _ _ => rfl⟩
theorem Ev.succ {β : Type} {f g : Nat → Option β} {r : β} (h : Ev g r) (e : ∀ k, f (k + 1) = g k) : Ev f r := by
  obtain ⟨K, h⟩ := h
  refine ⟨K + 1, fun k hk => ?_⟩
  obtain ⟨k, rfl⟩ : ∃ m, k = m + 1 := ⟨k - 1, by omega⟩
  rw [e]; exact h k (by omega)
theorem Ev.congr {β : Type} {f g : Nat → Option β} {r : β} (h : Ev g r) (e : ∀ k, f k = g k) : Ev f r := by
  obtain ⟨K, h⟩ := h
  exact ⟨K, fun k hk => (e k).trans (h k hk)⟩
theorem wrap_succ {i : Nat} (h : i < 9223372036854775807) : wrap64 ((i : Int) + 1) = ((i + 1 : Nat) : Int) := by unfold wrap64; omega
theorem rd_ext {l l' : List Int} (hl : l.length = l'.length) (h : ∀ i : Nat, i < l.length → rd l i = rd l' i) : l = l' := by
  refine List.ext_getElem hl fun i h1 h2 => ?_
  have := h i h1
  unfold rd at this
  rwa [Int.toNat_natCast, List.getD_eq_getElem?_getD, List.getD_eq_getElem?_getD, List.getElem?_eq_getElem h1, List.getElem?_eq_getElem h2, Option.getD_some, Option.getD_some] at this
theorem ev_sameInts (l l' : List Int) (hl : l.length < 9223372036854775807) : Ev (fun k => scansionref01_SameInts.f k l l') (decide (l = l')) := by
  have go : l.length = l'.length → ∀ (c i : Nat), i + c = l.length → (∀ j : Nat, j < i → rd l j = rd l' j) → Ev (fun k => scansionref01_SameInts.l0 k l l' i) (decide (l = l')) := by
    intro he c
    induction c with
    | zero =>
      intro i hi hj
      rw [decide_eq_true (rd_ext he fun j h => hj j (by omega))]
      refine Ev.succ (Ev.some_ true) fun k => ?_
      rw [scansionref01_SameInts.l0, if_neg (by omega)]
    | succ c ih =>
      intro i hi hj
      by_cases q : rd l i = rd l' i
      · refine Ev.succ (ih (i + 1) (by omega) (fun j h => ?_)) fun k => ?_
        · by_cases e : j = i
          · rw [e]; exact q
          · exact hj j (by omega)
        · rw [scansionref01_SameInts.l0, if_pos (by omega), if_pos (by omega), if_pos (by omega), if_pos q, wrap_succ (by omega)]
      · rw [decide_eq_false (fun e => q (by rw [e]))]
        refine Ev.succ (Ev.some_ false) fun k => ?_
        rw [scansionref01_SameInts.l0, if_pos (by omega), if_pos (by omega), if_pos (by omega), if_neg q]
  by_cases q : l.length = l'.length
  · refine Ev.congr (go q l.length 0 (by omega) (fun j h => absurd h (by omega))) fun k => ?_
    rw [scansionref01_SameInts.f, if_pos (by omega)]
    rfl
  · rw [decide_eq_false (fun e => q (by rw [e]))]
    refine Ev.congr (Ev.some_ false) fun k => ?_
    rw [scansionref01_SameInts.f, if_neg (by omega)]
theorem same_calls (A0 : Option Addr) (c0 : Nat) (l0 : List Int) (A1 : Option Addr) (c1 : Nat) (l1 : List Int) (w : World) (hr0 : Kd.C (Kd.int .i64) w A0 l0.length l0) (hc0 : l0.length ≤ c0) (hr1 : Kd.C (Kd.int .i64) w A1 l1.length l1) (hc1 : l1.length ≤ c1) (hl : l0.length < 9223372036854775807) :
    Calls Try.prog 12 #[.slice A0 l0.length c0, .slice A1 l1.length c1] w fun e w' => e = .returned (.bool (decide (l0 = l1))) ∧ Below w.heap.size w w' := by
  obtain ⟨K, hK⟩ := ev_sameInts l0 l1 hl
  exact (scansionref01_SameInts.calls K A0 c0 l0 A1 c1 l1 _ w hr0 hc0 hr1 hc1 (hK K (Nat.le_refl _))).mono fun e w' h => ⟨h.1, h.2.below⟩

section
variable {ok ok' : Nat → Prop} {base CB MB : Nat} {W W' : World} {vO v : Value} {most h nt : Int} {m m' : Lists} {o : List ByteArray} {xs : List Int}
/-- A cache that has no lists: any blocks. -/
theorem CInv.none_ (hi : CInv ok base CB MB vO most noLists o h nt W) : CInv ok' base CB MB vO most noLists o h nt W := by
  obtain ⟨g, g1, g2, g3⟩ := hi.map
  exact ⟨hi.blk, ⟨g, g1, g2, fun k v l _ e => by cases e⟩, hi.ord, hi.hC, hi.hM⟩
theorem CInv.bound (hi : CInv ok base CB MB vO most m o h nt W) : CInv (fun k => ok k ∧ k < W.heap.size) base CB MB vO most m o h nt W := by
  obtain ⟨g, g1, g2, g3⟩ := hi.map
  refine ⟨hi.blk, ⟨g, g1, g2, fun k v l e1 e2 => ?_⟩, hi.ord, hi.hC, hi.hM⟩
  have hR := g3 k v l e1 e2
  exact Kd.R_mono (Kd.R_tight rfl hR) (fun k h => ⟨hR.1 k h.symm, Kd.R_lt hR k h.symm⟩)
theorem CInv.mono (hi : CInv ok base CB MB vO most m o h nt W) (hok : ∀ k, ok k → ok' k) : CInv ok' base CB MB vO most m o h nt W := by
  obtain ⟨g, g1, g2, g3⟩ := hi.map
  exact ⟨hi.blk, ⟨g, g1, g2, fun k v l e1 e2 => Kd.R_mono (g3 k v l e1 e2) hok⟩, hi.ord, hi.hC, hi.hM⟩
/-- A block of numbers that is none of the lists is written. -/
theorem CInv.mine (hi : CInv ok base CB MB vO most m o h nt W) {g : Nat} {cs : Array Value} (hb : W.heap[g]? = some (.cells cs 3 (0, 0))) (hok : ∀ k, ok k → k ≠ g) (hg : W.grownBy W' (some g)) : CInv ok base CB MB vO most m o h nt W' := by
  have n1 : CB ≠ g := by
    rintro rfl
    have := hi.blk; rw [hb] at this; cases this
  refine ⟨blk_grown hi.blk hg (fun e => n1 (by injection e)), ?_, Kd.R_grown2 hi.ord rfl hg (fun k hk he => ?_), hi.hC, hi.hM⟩
  · obtain ⟨f, g1, g2, g3⟩ := hi.map
    refine ⟨f, g1.move (hg.block _ g1.lt (fun e => g1.ne hb (by injection e with e; exact e.symm))), g2, fun k v l e1 e2 => Kd.R_grown (g3 k v l e1 e2) hg (fun j hj he => hok j hj (by injection he))⟩
  · injection hk with hk
    subst hk
    exact Kd.R_ne hi.ord hb (by decide) he
/-- A row of numbers that is not the cache's is kept by a call. -/
theorem Turn.row {b : Nat} {okv : Nat → Prop} (ht : Turn base CB MB W W') (hi : CInv ok base CB MB vO most m o h nt W) (hR : Kd.R (Kd.int .i64) 3 W b okv v xs) : Kd.R (Kd.int .i64) 3 W' b okv v xs :=
  Kd.R_mono (Kd.R_step (Kd.R_tight rfl hR) (fun j hj hlt => by
    obtain ⟨cs, hcs⟩ := Kd.R_typed hR j hj.symm
    exact ht.block j hlt (fun e => by subst e; have := hi.blk; rw [hcs] at this; cases this) (hi.map.ne hcs) (fun _ cs' e => by rw [hcs] at e; cases e))) (fun k h => hR.1 k h.symm)
end
end Go.Proofs.Ytjpbcmfppmiagaa.Print
