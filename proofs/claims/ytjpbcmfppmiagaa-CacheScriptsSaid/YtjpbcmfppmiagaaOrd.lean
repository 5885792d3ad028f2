/- Keys in the order of the last place where each stands in a list: what gets and puts keep of it. -/
import Derived.Test.YtjpbcmfppmiagaaMeth
import Derived.Test.YtjpbcmfppmiagaaLastsW
namespace Go.Proofs.Ytjpbcmfppmiagaa.Print
open Go.RowKit Go.Maps Go.Proofs.YtjpbcmfppmiagaaW.PrintWords Go.Proofs.YtjpbcmfppmiagaaW.PrintLast Go.Proofs.YtjpbcmfppmiagaaW.PrintMore
set_option linter.unusedVariables false
set_option linter.unusedSimpArgs false

/-- The last place ahead of i where a key stands. -/
def lastI (l : List ByteArray) : Nat → ByteArray → Option Nat
  | 0, _ => none
  | i + 1, s => if s = rdOf ByteArray.empty l (i : Int) then some i else lastI l i s
def lastV (l : List ByteArray) (i : Nat) : ByteArray → Option Value := fun s => (lastI l i s).map fun j => .int .i64 (j : Int)
theorem lastV_zero (l : List ByteArray) : lastV l 0 = fun _ => none := rfl
theorem lastV_add (l : List ByteArray) (i : Nat) {x : ByteArray} (hx : rdOf ByteArray.empty l (i : Int) = x) : (fun s => if s = x then some (.int .i64 (i : Int)) else lastV l i s) = lastV l (i + 1) := by
  funext s
  unfold lastV
  rw [lastI, hx]
  by_cases e : s = x
  · rw [if_pos e, if_pos e]; rfl
  · rw [if_neg e, if_neg e]
theorem lastI_lt (l : List ByteArray) : ∀ (i : Nat) {s : ByteArray} {j : Nat}, lastI l i s = some j → j < i
  | 0, s, j, h => by cases h
  | i + 1, s, j, h => by
    rw [lastI] at h
    split at h
    · cases h; omega
    · have := lastI_lt l i h; omega
def lastN (l : List ByteArray) (i : Nat) (s : ByteArray) : Nat := (lastI l i s).getD 0
structure Ord (l : List ByteArray) (i : Nat) (m : Lists) (o : List ByteArray) : Prop where
  mem : ∀ k, k ∈ o ↔ lastI l i k ≠ none
  is : ∀ k, m k = none ↔ k ∉ o
  one : ∀ k v, m k = some v → v.length = 1
  inc : o.Pairwise fun a b => lastN l i a < lastN l i b
  len : o.length ≤ i
section
variable {l : List ByteArray} {i : Nat} {m : Lists} {o : List ByteArray} {x : ByteArray}
theorem Ord.nod (h : Ord l i m o) : o.Nodup := h.inc.imp fun {a b} e => by rintro rfl; omega
theorem Ord.start (l : List ByteArray) : Ord l 0 noLists [] := ⟨by simp [lastI], by simp [noLists], fun k v e => by simp [noLists] at e, List.Pairwise.nil, by simp⟩
theorem notKey_out (h : x ∉ o) : notKey x o = o := by
  unfold notKey
  rw [List.filter_eq_self]
  intro a ha
  have : a ≠ x := by rintro rfl; exact h ha
  simpa using this
theorem new_len (h : x ∉ o) : (notKey x o ++ [x]).length = o.length + 1 := by rw [notKey_out h]; simp
theorem moved_len (hn : o.Nodup) (h : x ∈ o) : (notKey x o ++ [x]).length = o.length := by
  refine List.Perm.length_eq ((List.perm_ext_iff_of_nodup ?_ hn).2 fun k => ?_)
  · rw [List.nodup_append]
    exact ⟨notKey_nodup hn, by simp, fun a ha b hb => by rw [List.mem_singleton] at hb; rw [hb]; exact (notKey_mem.1 ha).2⟩
  · rw [List.mem_append, List.mem_singleton, notKey_mem]
    by_cases e : k = x
    · subst e; simp [h]
    · simp [e]
theorem Ord.turn (h : Ord l i m o) (hx : rdOf ByteArray.empty l (i : Int) = x) :
    (∀ k, k ∈ notKey x o ++ [x] ↔ lastI l (i + 1) k ≠ none) ∧ (notKey x o ++ [x]).Pairwise fun a b => lastN l (i + 1) a < lastN l (i + 1) b := by
  refine ⟨fun k => ?_, ?_⟩
  · rw [lastI, hx, List.mem_append, List.mem_singleton, notKey_mem, h.mem]
    by_cases e : k = x <;> simp [e]
  · have keep : ∀ k ∈ notKey x o, lastN l (i + 1) k = lastN l i k := fun k hk => by
      unfold lastN
      rw [lastI, hx, if_neg (notKey_mem.1 hk).2]
    rw [List.pairwise_append]
    refine ⟨?_, by simp, fun a ha b hb => ?_⟩
    · have hp : (notKey x o).Pairwise fun a b => lastN l i a < lastN l i b := h.inc.sublist List.filter_sublist
      exact hp.imp_of_mem fun ha hb e => by rw [keep _ ha, keep _ hb]; exact e
    · rw [List.mem_singleton] at hb
      rw [keep a ha, hb]
      have e1 : lastN l (i + 1) x = i := by unfold lastN; rw [lastI, hx, if_pos rfl]; rfl
      rw [e1]
      have hm := (h.mem a).1 (notKey_mem.1 ha).1
      unfold lastN
      cases q : lastI l i a with
      | none => exact absurd q hm
      | some j => exact lastI_lt l i q
theorem Ord.hit (h : Ord l i m o) (hx : rdOf ByteArray.empty l (i : Int) = x) (hm : x ∈ o) : Ord l (i + 1) m (notKey x o ++ [x]) := by
  obtain ⟨t1, t2⟩ := h.turn hx
  refine ⟨t1, fun k => ?_, h.one, t2, by rw [moved_len h.nod hm]; have := h.len; omega⟩
  rw [h.is, List.mem_append, List.mem_singleton, notKey_mem]
  by_cases e : k = x
  · subst e; simp [hm]
  · simp [e]
theorem Ord.put (h : Ord l i m o) (hx : rdOf ByteArray.empty l (i : Int) = x) (hm : x ∉ o) {v : List Int} (hv : v.length = 1) : Ord l (i + 1) (setL m x (some v)) (notKey x o ++ [x]) := by
  obtain ⟨t1, t2⟩ := h.turn hx
  refine ⟨t1, fun k => ?_, fun k u e => ?_, t2, by rw [new_len hm]; have := h.len; omega⟩
  · unfold setL
    rw [List.mem_append, List.mem_singleton, notKey_mem]
    by_cases e : k = x
    · simp [e]
    · simp [e, h.is]
  · unfold setL at e
    split at e
    · cases e; exact hv
    · exact h.one k u e
/-- The keys at two places that follow each other. -/
theorem Ord.step (h : Ord l i m o) {j : Nat} (hj : j + 1 < o.length) : ∃ p q, lastI l i (rdOf ByteArray.empty o (j : Int)) = some p ∧ lastI l i (rdOf ByteArray.empty o ((j + 1 : Nat) : Int)) = some q ∧ p < q := by
  have e : ∀ (n : Nat) (hn : n < o.length), rdOf ByteArray.empty o (n : Int) = o[n] := fun n hn => by
    unfold rdOf
    rw [Int.toNat_natCast, List.getD_eq_getElem?_getD, List.getElem?_eq_getElem hn]; rfl
  rw [e j (by omega), e (j + 1) hj]
  have h1 := (h.mem _).1 (List.getElem_mem (by omega : j < o.length))
  have h2 := (h.mem _).1 (List.getElem_mem hj)
  have h3 := List.pairwise_iff_getElem.1 h.inc j (j + 1) (by omega) hj (by omega)
  unfold lastN at h3
  cases p1 : lastI l i o[j] with
  | none => exact absurd p1 h1
  | some p =>
    cases q1 : lastI l i o[j + 1] with
    | none => exact absurd q1 h2
    | some q => rw [p1, q1] at h3; exact ⟨p, q, rfl, rfl, h3⟩
theorem Ord.at_ (h : Ord l i m o) {j : Nat} (hj : j < o.length) : ∃ p, lastI l i (rdOf ByteArray.empty o (j : Int)) = some p ∧ p < i := by
  unfold rdOf
  rw [Int.toNat_natCast, List.getD_eq_getElem?_getD, List.getElem?_eq_getElem hj, Option.getD_some]
  have h1 := (h.mem _).1 (List.getElem_mem hj)
  cases p1 : lastI l i o[j] with
  | none => exact absurd p1 h1
  | some p => exact ⟨p, rfl, lastI_lt l i p1⟩
theorem lastV_is (l : List ByteArray) (i : Nat) (h : Ord l i m o) (k : ByteArray) : k ∈ o ↔ lastV l i k ≠ none := by
  rw [h.mem]
  unfold lastV
  cases lastI l i k <;> simp
end
end Go.Proofs.Ytjpbcmfppmiagaa.Print
