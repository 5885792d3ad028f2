/- For every size, key and keys: a key is there as long as fewer others than there may be were put in since. -/
import Derived.Test.YtjpbcmfppmiagaaMapT
namespace Go.Proofs.Ytjpbcmfppmiagaa.Print
open Go.RowKit Go.Maps Go.Proofs.YtjpbcmfppmiagaaW.PrintWords Go.Proofs.YtjpbcmfppmiagaaW.PrintLast Go.Proofs.YtjpbcmfppmiagaaW.PrintMore
set_option linter.unusedVariables false
set_option linter.unusedSimpArgs false

/-! ### what cut does -/
theorem cutF_len {most : Int} (h0 : 0 ≤ most) : ∀ (o : List ByteArray) (m : Lists), ((cutF most m o).2.length : Int) ≤ most
  | [], m => by simpa [cutF] using h0
  | k :: o, m => by
    rw [cutF]
    by_cases q : ((k :: o).length : Int) > most
    · rw [if_pos q]; exact cutF_len h0 o _
    · rw [if_neg q]; simp only; omega
theorem cutF_mem {most : Int} {k : ByteArray} : ∀ (o : List ByteArray) (m : Lists), k ∈ (cutF most m o).2 → k ∈ o
  | [], m, h => by simp [cutF] at h
  | x :: o, m, h => by
    rw [cutF] at h
    by_cases q : ((x :: o).length : Int) > most
    · rw [if_pos q] at h; exact List.mem_cons_of_mem _ (cutF_mem o _ h)
    · rw [if_neg q] at h; exact h
theorem cutF_none {most : Int} {k : ByteArray} : ∀ (o : List ByteArray) (m : Lists), m k = none → (cutF most m o).1 k = none
  | [], m, h => by simpa [cutF] using h
  | x :: o, m, h => by
    rw [cutF]
    by_cases q : ((x :: o).length : Int) > most
    · rw [if_pos q]; exact cutF_none o _ (by unfold setL; split; rfl; exact h)
    · rw [if_neg q]; exact h
theorem cutF_id {most : Int} {o : List ByteArray} (m : Lists) (h : (o.length : Int) ≤ most) : cutF most m o = (m, o) := by
  cases o with
  | nil => rw [cutF]
  | cons x o => rw [cutF, if_neg (by omega)]
theorem cutAll_len {most : Int} (h0 : 0 ≤ most) (o : List ByteArray) (m : Lists) : ((cutAll most m o).2.length : Int) ≤ most := by
  unfold cutAll
  by_cases q : most = 0
  · rw [if_pos q]; simpa using h0
  · rw [if_neg q]; exact cutF_len h0 o m
theorem cutAll_mem {most : Int} {k : ByteArray} {o : List ByteArray} {m : Lists} (h : k ∈ (cutAll most m o).2) : k ∈ o := by
  unfold cutAll at h
  by_cases q : most = 0
  · rw [if_pos q] at h; cases h
  · rw [if_neg q] at h; exact cutF_mem o m h
theorem cutAll_none {most : Int} {k : ByteArray} {o : List ByteArray} {m : Lists} (h : m k = none) : (cutAll most m o).1 k = none := by
  unfold cutAll
  by_cases q : most = 0
  · rw [if_pos q]
  · rw [if_neg q]; exact cutF_none o m h
theorem cutAll_id {most : Int} {o : List ByteArray} (m : Lists) (h0 : most ≠ 0) (h : (o.length : Int) ≤ most) : cutAll most m o = (m, o) := by
  unfold cutAll
  rw [if_neg h0, cutF_id m h]

/-! ### the key and the others -/
theorem notKey_cons_ne {x key : ByteArray} (h : key ≠ x) (r : List ByteArray) : notKey x (key :: r) = key :: notKey x r := by
  unfold notKey
  rw [List.filter_cons_of_pos (by simpa using h)]
theorem notKey_mem {x k : ByteArray} {o : List ByteArray} : k ∈ notKey x o ↔ k ∈ o ∧ k ≠ x := by
  unfold notKey
  rw [List.mem_filter]
  simp
theorem notKey_nodup {x : ByteArray} {o : List ByteArray} (h : o.Nodup) : (notKey x o).Nodup := h.sublist List.filter_sublist
open Classical in
/-- Which keys: each once. -/
noncomputable def addK (ks : List ByteArray) (x : ByteArray) : List ByteArray := if x ∈ ks then ks else ks ++ [x]
theorem addK_nodup {ks : List ByteArray} {x : ByteArray} (h : ks.Nodup) : (addK ks x).Nodup := by
  unfold addK
  split
  · exact h
  · rename_i q
    rw [List.nodup_append]
    exact ⟨h, by simp, fun a ha b hb => by rw [List.mem_singleton] at hb; rw [hb]; rintro rfl; exact q ha⟩
theorem addK_mem {ks : List ByteArray} {x k : ByteArray} : k ∈ addK ks x ↔ k ∈ ks ∨ k = x := by
  unfold addK
  split
  · rename_i q
    exact ⟨.inl, fun h => h.elim id fun e => e ▸ q⟩
  · rw [List.mem_append, List.mem_singleton]
theorem addK_len (ks : List ByteArray) (x : ByteArray) : ks.length ≤ (addK ks x).length ∧ (addK ks x).length ≤ ks.length + 1 := by
  unfold addK
  split
  · omega
  · rw [List.length_append]; simp
structure Last (most : Int) (key : ByteArray) (v : List Int) (ks : List ByteArray) (m : Lists) (o : List ByteArray) : Prop where
  nod : ks.Nodup
  len : (o.length : Int) ≤ most
  pos : 0 ≤ most
  is : (m key = none ∧ most ≤ ks.length) ∨ (m key = some v ∧ (ks.length : Int) < most ∧ ∃ r, o = key :: r ∧ r.Nodup ∧ ∀ k, k ∈ r ↔ k ∈ ks)
theorem Last.start {most : Int} (h0 : 0 ≤ most) (key : ByteArray) (v : List Int) (m : Lists) : Last most key v [] (cutAll most (setL m key (some v)) (notKey key [] ++ [key])).1 (cutAll most (setL m key (some v)) (notKey key [] ++ [key])).2 := by
  refine ⟨by simp, cutAll_len h0 _ _, h0, ?_⟩
  by_cases q : most = 0
  · refine .inl ⟨?_, by simp [q]⟩
    unfold cutAll
    rw [if_pos q]
  · rw [cut_one most _ _ (by omega)]
    exact .inr ⟨setL_same _ _ _, by simp; omega, [], rfl, by simp, by simp⟩
theorem Last.step {most : Int} {key : ByteArray} {v : List Int} {ks : List ByteArray} {m : Lists} {o : List ByteArray} (h : Last most key v ks m o) {x : ByteArray} (hx : x ≠ key) (l : List Int) :
    Last most key v (addK ks x) (cutAll most (setL m x (some l)) (notKey x o ++ [x])).1 (cutAll most (setL m x (some l)) (notKey x o ++ [x])).2 := by
  obtain ⟨hn, hl, h0, his⟩ := h
  have hal := addK_len ks x
  refine ⟨addK_nodup hn, cutAll_len h0 _ _, h0, ?_⟩
  rcases his with ⟨h1, h2⟩ | ⟨h1, h2, r, rfl, h3, h4⟩
  · exact .inl ⟨cutAll_none (by unfold setL; rw [if_neg (fun e => hx e.symm)]; exact h1), by omega⟩
  · have hq : most ≠ 0 := by omega
    have hlen : (notKey x r ++ [x]).length = (addK ks x).length := by
      refine List.Perm.length_eq ((List.perm_ext_iff_of_nodup ?_ (addK_nodup hn)).2 fun k => ?_)
      · rw [List.nodup_append]
        exact ⟨notKey_nodup h3, by simp, fun a ha b hb => by rw [List.mem_singleton] at hb; rw [hb]; exact (notKey_mem.1 ha).2⟩
      · rw [List.mem_append, List.mem_singleton, notKey_mem, h4, addK_mem]
        by_cases e : k = x <;> simp [e]
    rw [notKey_cons_ne (fun e => hx e.symm), List.cons_append]
    by_cases q : ((addK ks x).length : Int) < most
    · rw [cutAll_id _ hq (by simp only [List.length_cons, hlen]; omega)]
      refine .inr ⟨by show setL m x (some l) key = _; unfold setL; rw [if_neg (fun e => hx e.symm)]; exact h1, q, _, rfl, ?_, fun k => ?_⟩
      · rw [List.nodup_append]
        exact ⟨notKey_nodup h3, by simp, fun a ha b hb => by rw [List.mem_singleton] at hb; rw [hb]; exact (notKey_mem.1 ha).2⟩
      · rw [List.mem_append, List.mem_singleton, notKey_mem, h4, addK_mem]
        by_cases e : k = x <;> simp [e]
    · refine .inl ⟨?_, by omega⟩
      unfold cutAll
      rw [if_neg hq, cutF, if_pos (by simp only [List.length_cons, hlen]; omega)]
      refine cutF_none _ _ ?_
      unfold setL
      rw [if_pos rfl]
theorem Last.sizes {most : Int} {x : ByteArray} {m : Lists} {o : List ByteArray} (hs : ∀ k ∈ o, k.size ≤ maxLen) (hx : x.size ≤ maxLen) : ∀ k ∈ (cutAll most m (notKey x o ++ [x])).2, k.size ≤ maxLen := fun k hk => notKey_size hx hs k (cutAll_mem hk)
end Go.Proofs.Ytjpbcmfppmiagaa.Print
