/- For all lists and numbers of classes: states that lead to one state by all classes have a row of two numbers each. -/
import Derived.Test.YtjcgbjkjkgkklaaPrint23
import Derived.Test.YtjcgbjkjkgkklaaAwake
import Derived.Test.YtjcgbjkjkgkklaaLawM
import Derived.Test.YtjcgbjkjkgkklaaLoad
-- NEEDS scansionlaw14_PackedRuns
namespace Go.Proofs.Ytjcgbjkjkgkklaa.Pure
open Go.RowKit Go.Proofs.Ytjcgbjkjkgkklaa.Print Go.Proofs.YtjcgbjkjkgkklaaW.PrintWords Go.Proofs.YtjcgbjkjkgkklaaW.PrintLast
set_option linter.unusedVariables false
set_option linter.unusedSimpArgs false

def rowsOf (l : List Int) (c i : Nat) : List (List Int) := (List.range i).map fun (j : Nat) => List.replicate c (rd l j)
def finsOf (i : Nat) : List Bool := (List.range i).map fun (j : Nat) => Int.tmod (j : Int) 2 == 0

theorem numOf_small {n : Int} (h0 : 0 ≤ n) (h1 : n < 128) : (numOf n).length = 1 := by
  unfold numOf numGo
  rw [show mx n 0 = n from by unfold mx; split <;> omega, if_neg (by omega)]
  rfl

theorem runs_const (c : Nat) (hc : 0 < c) (x : Int) : runsOf (List.replicate c x) = [((c : Int), x)] := by
  obtain ⟨d, rfl⟩ : ∃ d, c = d + 1 := ⟨c - 1, by omega⟩
  rw [runs_rle]
  have := rle_replicate x [] (fun y hy => by simp at hy) d
  simpa [rle] using this

theorem bytes_len (l : List Int) (c : Nat) (hc : 0 < c) (hc1 : c ≤ 100) (h : ∀ x ∈ l, 0 ≤ x ∧ x < 128) : ∀ i, i ≤ l.length → (rowsUp (rowsOf l c l.length) (finsOf l.length) i).length = 3 * i
  | 0, _ => by simp [rowsUp]
  | i + 1, hi => by
    rw [rowsUp_succ, List.length_append, bytes_len l c hc hc1 h i (by omega)]
    have e : rd_L2 (rowsOf l c l.length) i = List.replicate c (rd l i) := by
      unfold rd_L2 rowsOf
      rw [Int.toNat_natCast, List.getD_eq_getElem?_getD, List.getElem?_map, List.getElem?_range (by omega)]
      rfl
    have hx : 0 ≤ rd l i ∧ rd l i < 128 := h _ (by unfold rd; rw [Int.toNat_natCast, List.getD_eq_getElem?_getD, List.getElem?_eq_getElem (by omega), Option.getD_some]; exact List.getElem_mem _)
    rw [e]
    unfold rowBytes
    rw [runs_const c hc, List.length_cons, List.flatMap_cons, List.flatMap_nil, List.append_nil, List.length_append, numOf_small (by omega) (by omega), numOf_small hx.1 hx.2]
    omega

theorem ev_runs_end (l : List Int) (c : Nat) (hc : 0 < c) (hc1 : c ≤ 100) (h1 : 1 ≤ l.length) (h2 : l.length ≤ 100) (h : ∀ x ∈ l, 0 ≤ x ∧ x < l.length) : Ev (fun k => scansionlaw14_PackedRuns.l0 k l c l.length (rowsOf l c l.length) (finsOf l.length)) true := by
  have hal : (rowsOf l c l.length).length = l.length := by simp [rowsOf]
  have hbl : (finsOf l.length).length = l.length := by simp [finsOf]
  have hrow : ∀ r ∈ rowsOf l c l.length, (r.length = c) ∧ ∀ x ∈ r, 0 ≤ x ∧ x < l.length := by
    intro r hr
    obtain ⟨j, hj, rfl⟩ := List.mem_map.1 hr
    have hjl := List.mem_range.1 hj
    refine ⟨by simp, fun x hx => ?_⟩
    rw [(List.mem_replicate.1 hx).2]
    exact h _ (by unfold rd; rw [Int.toNat_natCast, List.getD_eq_getElem?_getD, List.getElem?_eq_getElem hjl, Option.getD_some]; exact List.getElem_mem _)
  have h0 : rd_L2 (rowsOf l c l.length) 0 = List.replicate c (rd l 0) := by
    unfold rd_L2 rowsOf
    rw [Int.toNat_zero, List.getD_eq_getElem?_getD, List.getElem?_map, List.getElem?_range (by omega)]
    rfl
  have hR : rightB (rowsOf l c l.length) (finsOf l.length) = true := by
    rw [rightB_iff, hal, hbl, h0, List.length_replicate]
    refine ⟨h1, by omega, rfl, by omega, by omega, fun r hr => ⟨by rw [(hrow r hr).1], fun x hx => (hrow r hr).2 x hx⟩⟩
  have hlen : (saveOf (rowsOf l c l.length) (finsOf l.length)).length = 4 + 3 * l.length := by
    unfold saveOf
    rw [List.length_append, List.length_append, List.length_append, hal, bytes_len l c hc hc1 (fun x hx => by have := h x hx; omega) l.length (Nat.le_refl _), h0, List.length_replicate, numOf_small (by omega) (by omega), numOf_small (by omega) (by omega)]
    simp only [List.length_cons, List.length_nil]
  refine Ev.succ (Ev.some_ true) fun k => ?_
  have hs : packed_Save.f (rowsOf l c l.length) (finsOf l.length) = some (saveOf (rowsOf l c l.length) (finsOf l.length), 0) := by unfold packed_Save.f; rw [if_pos hR]
  have hL : packed_Load.f (saveOf (rowsOf l c l.length) (finsOf l.length)) = some (rowsOf l c l.length, finsOf l.length, 0) := by unfold packed_Load.f; rw [if_pos (saveOf_byte _ _ hR), load_save _ _ hR]
  rw [scansionlaw14_PackedRuns.l0, if_neg (by omega), hs, Option.bind_some, hL, Option.bind_some, if_pos rfl, if_pos rfl, w64 (x := 3 * (l.length : Int)) (by omega) (by omega), w64 (by omega) (by omega), if_pos (by rw [hlen]; omega), hal, beq_self_eq_true]

theorem ev_runs_l1 (l : List Int) (c : Nat) (hc1 : c ≤ 100) (i : Nat) (hi : i < l.length) (h2 : l.length ≤ 100) {r : Bool} (a : List (List Int)) (b : List Bool) (ha : a.length ≤ 100) (hb : b.length ≤ 100)
    (h : Ev (fun k => scansionlaw14_PackedRuns.l0 k l c ((i + 1 : Nat) : Int) (a ++ [List.replicate c (rd l i)]) (b ++ [Int.tmod (i : Int) 2 == 0])) r) : ∀ (n j : Nat), j + n = c → Ev (fun k => scansionlaw14_PackedRuns.l1 k l c i (List.replicate j (rd l i)) j a b) r
  | 0, j, hj => by
    obtain rfl : j = c := by omega
    refine Ev.succ h fun k => ?_
    rw [scansionlaw14_PackedRuns.l1, if_neg (by omega), if_pos (by omega), if_pos (by omega), wrap_succ (by omega)]
  | n + 1, j, hj => by
    refine Ev.succ (ev_runs_l1 l c hc1 i hi h2 a b ha hb h n (j + 1) (by omega)) fun k => ?_
    rw [scansionlaw14_PackedRuns.l1, if_pos (by omega), if_pos (by omega), if_pos (by omega), if_pos (by rw [List.length_replicate]; omega), wrap_succ (by omega), ← List.replicate_succ']

theorem ev_runs_l0 (l : List Int) (c : Nat) (hc : 0 < c) (hc1 : c ≤ 100) (h1 : 1 ≤ l.length) (h2 : l.length ≤ 100) : ∀ (n i : Nat), i + n = l.length → (∀ j : Nat, j < i → 0 ≤ rd l j ∧ rd l j < l.length) → Ev (fun k => scansionlaw14_PackedRuns.l0 k l c i (rowsOf l c i) (finsOf i)) true
  | 0, i, hi, h => by
    obtain rfl : i = l.length := by omega
    refine ev_runs_end l c hc hc1 h1 h2 fun x hx => ?_
    obtain ⟨j, hj, rfl⟩ := List.getElem_of_mem hx
    have := h j hj
    unfold rd at this
    rw [Int.toNat_natCast, List.getD_eq_getElem?_getD, List.getElem?_eq_getElem hj, Option.getD_some] at this
    exact this
  | n + 1, i, hi, h => by
    by_cases q : 0 ≤ rd l i ∧ rd l i < l.length
    · have ih := ev_runs_l0 l c hc hc1 h1 h2 n (i + 1) (by omega) (fun j hj => by
        rcases Nat.lt_or_ge j i with hji | hji
        · exact h j hji
        · rw [show j = i from by omega]; exact q)
      have e1 : rowsOf l c (i + 1) = rowsOf l c i ++ [List.replicate c (rd l i)] := by unfold rowsOf; rw [List.range_succ, List.map_append]; rfl
      have e2 : finsOf (i + 1) = finsOf i ++ [Int.tmod (i : Int) 2 == 0] := by unfold finsOf; rw [List.range_succ, List.map_append]; rfl
      rw [e1, e2] at ih
      have := ev_runs_l1 l c hc1 i (by omega) h2 (rowsOf l c i) (finsOf i) (by simp [rowsOf]; omega) (by simp [finsOf]; omega) ih c 0 (by omega)
      refine Ev.succ (g := fun k => scansionlaw14_PackedRuns.j2 k l c i false (rowsOf l c i) (finsOf i)) (Ev.succ this fun k => ?_) fun k => ?_
      · rw [scansionlaw14_PackedRuns.j2, if_neg (by decide)]; rfl
      · rw [scansionlaw14_PackedRuns.l0, if_pos (by omega), if_pos (by omega), if_neg (by omega), decide_eq_false (by omega)]
    · refine Ev.succ (g := fun k => scansionlaw14_PackedRuns.j2 k l c i true (rowsOf l c i) (finsOf i)) (Ev.succ (Ev.some_ true) fun k => ?_) fun k => ?_
      · rw [scansionlaw14_PackedRuns.j2, if_pos rfl]
      · rw [scansionlaw14_PackedRuns.l0, if_pos (by omega), if_pos (by omega)]
        by_cases q1 : rd l i < 0
        · rw [if_pos q1]
        · rw [if_neg q1, decide_eq_true (by omega)]

theorem PackedRuns : scansionlaw14_PackedRuns.Pure := by
  intro l c hl h1 hwf hcw
  have h : Ev (fun k => scansionlaw14_PackedRuns.f k l c) true := by
    unfold scansionlaw14_PackedRuns.f
    refine Ev.bind ⟨12, awake_k⟩ ?_
    have bad : Ev (fun k => scansionlaw14_PackedRuns.j0 k l c true true) true := Ev.succ (Ev.some_ true) fun k => by rw [scansionlaw14_PackedRuns.j0, if_pos rfl]
    by_cases g1 : (l.length : Int) < 1
    · refine Ev.congr bad fun k => ?_
      rw [if_pos rfl, if_pos g1]
    by_cases g2 : (l.length : Int) > 100
    · refine Ev.congr bad fun k => ?_
      rw [if_pos rfl, if_neg g1, if_pos g2]
    by_cases g3 : c < 1
    · refine Ev.congr bad fun k => ?_
      rw [if_pos rfl, if_neg g1, if_neg g2, if_pos g3]
    by_cases g4 : c > 100
    · refine Ev.congr bad fun k => ?_
      rw [if_pos rfl, if_neg g1, if_neg g2, if_neg g3, decide_eq_true g4]
    obtain ⟨m, rfl⟩ : ∃ m : Nat, c = (m : Int) := ⟨c.toNat, by omega⟩
    refine Ev.succ (ev_runs_l0 l m (by omega) (by omega) (by omega) (by omega) l.length 0 (by omega) (fun j hj => by omega)) fun k => ?_
    rw [if_pos rfl, if_neg g1, if_neg g2, if_neg g3, decide_eq_false g4, scansionlaw14_PackedRuns.j0, if_neg (by decide)]
    rfl
  obtain ⟨K, hK⟩ := h
  exact ⟨K, hK K (Nat.le_refl _)⟩
end Go.Proofs.Ytjcgbjkjkgkklaa.Pure
