/- The cache and the reference's: what they keep is the same (the plain law). -/
import Derived.Test.YtjpbcmfppmiagaaKeptG
import Derived.Test.YtjpbcmfppmiagaaTells
namespace Go.Proofs.Ytjpbcmfppmiagaa.Print
open Go.RowKit Go.Maps Go.Proofs.YtjpbcmfppmiagaaW.PrintWords Go.Proofs.YtjpbcmfppmiagaaW.PrintLast Go.Proofs.YtjpbcmfppmiagaaW.PrintMore
set_option linter.unusedVariables false
set_option linter.unusedSimpArgs false

/-- What the reference keeps: the keys in order, with their lists. -/
def keptOf (m : Lists) (o : List ByteArray) : List S65 := o.map fun k => ⟨k, (m k).getD []⟩
section
variable {most : Int} {m m' : Lists} {o : List ByteArray} {x : ByteArray} {l : List Int}
theorem keptOf_len : (keptOf m o).length = o.length := List.length_map ..
theorem keptOf_keys : (keptOf m o).map S65.f0 = o := by
  unfold keptOf
  rw [List.map_map]
  exact List.map_id'' (fun _ => rfl) o
theorem keptOf_congr (h : ∀ k ∈ o, m k = m' k) : keptOf m o = keptOf m' o := by
  unfold keptOf
  refine List.map_congr_left fun k hk => ?_
  rw [h k hk]
theorem dropK_kept (m : Lists) (x : ByteArray) : ∀ {o : List ByteArray}, o.Nodup → dropK x (keptOf m o) = keptOf m (notKey x o)
  | [], _ => rfl
  | k :: o, h => by
    rw [List.nodup_cons] at h
    show (if k = x then keptOf m o else (⟨k, (m k).getD []⟩ : S65) :: dropK x (keptOf m o)) = _
    by_cases e : k = x
    · subst e
      have e2 : notKey k (k :: o) = o := by
        have h1 : notKey k (k :: o) = notKey k o := by unfold notKey; rw [List.filter_cons_of_neg (by simp)]
        rw [h1, notKey_out h.1]
      rw [if_pos rfl, e2]
    · rw [if_neg e, notKey_cons_ne e, dropK_kept m x h.2]
      rfl
theorem hasK_kept (m : Lists) (x : ByteArray) : ∀ o : List ByteArray, hasK x (keptOf m o) = true ↔ x ∈ o
  | [] => by simp [keptOf, hasK]
  | k :: o => by
    show (if k = x then true else hasK x (keptOf m o)) = true ↔ _
    by_cases e : k = x
    · subst e; simp
    · rw [if_neg e, hasK_kept m x o, List.mem_cons]
      constructor
      · exact .inr
      · exact fun h => h.elim (fun h => absurd h.symm e) id
theorem lookK_kept (m : Lists) (x : ByteArray) : ∀ o : List ByteArray, (x ∈ o → lookK x (keptOf m o) = some ((m x).getD [])) ∧ (x ∉ o → lookK x (keptOf m o) = none)
  | [] => by simp [keptOf, lookK]
  | k :: o => by
    have ih := lookK_kept m x o
    show (x ∈ k :: o → (if k = x then some ((m k).getD []) else lookK x (keptOf m o)) = _) ∧ (x ∉ k :: o → (if k = x then some ((m k).getD []) else lookK x (keptOf m o)) = _)
    by_cases e : k = x
    · subst e; simp
    · rw [if_neg e, List.mem_cons]
      exact ⟨fun h => ih.1 (h.resolve_left fun h => e h.symm), fun h => ih.2 fun h' => h (.inr h')⟩
theorem cutF_last (n : Nat) : ∀ (o : List ByteArray) (m : Lists), o.Nodup → keptOf (cutF n m o).1 (cutF n m o).2 = lastK n (keptOf m o)
  | [], m, _ => by simp [cutF, keptOf, lastK]
  | k :: o, m, h => by
    rw [List.nodup_cons] at h
    rw [cutF]
    unfold lastK
    rw [keptOf_len]
    by_cases q : ((k :: o).length : Int) > n
    · rw [if_pos q, cutF_last n o _ h.2]
      unfold lastK
      rw [keptOf_len, keptOf_congr (m := setL m k none) (m' := m) (fun j hj => by unfold setL; rw [if_neg (fun e : j = k => h.1 (by rw [← e]; exact hj))])]
      simp only [List.length_cons] at q ⊢
      rw [show o.length + 1 - n = (o.length - n) + 1 by omega]
      rfl
    · rw [if_neg q]
      simp only [List.length_cons] at q ⊢
      rw [show o.length + 1 - n = 0 by omega]
      rfl
theorem cutAll_last (n : Nat) (hn : o.Nodup) : keptOf (cutAll n m o).1 (cutAll n m o).2 = lastK n (keptOf m o) := by
  unfold cutAll
  by_cases q : (n : Int) = 0
  · rw [if_pos q]
    unfold lastK
    rw [show n = 0 by omega, Nat.sub_zero, List.drop_length]
    rfl
  · rw [if_neg q]; exact cutF_last n o m hn
theorem added_kept (hn : o.Nodup) : addK' x l (keptOf m o) = keptOf (setL m x (some l)) (notKey x o ++ [x]) := by
  unfold addK'
  rw [dropK_kept m x hn]
  unfold keptOf
  rw [List.map_append, List.map_cons, List.map_nil, setL_same]
  have := keptOf_congr (m := m) (m' := setL m x (some l)) (o := notKey x o) (fun k hk => by unfold setL; rw [if_neg (notKey_mem.1 hk).2])
  unfold keptOf at this
  rw [this]
  rfl
theorem put_kept (h : CS most m o) (h0 : 0 ≤ most) : putK most x l (keptOf m o) = keptOf (cutAll most (setL m x (some l)) (notKey x o ++ [x])).1 (cutAll most (setL m x (some l)) (notKey x o ++ [x])).2 := by
  obtain ⟨n, rfl⟩ : ∃ n : Nat, most = n := ⟨most.toNat, by omega⟩
  rw [cutAll_last n (nodup_behind h.nod)]
  unfold putK lastK
  rw [added_kept h.nod, keptOf_len]
  have h1 := notKey_len x o
  have h2 := h.len
  by_cases q : ((notKey x o ++ [x]).length : Int) > n
  · rw [if_pos q, show (notKey x o ++ [x]).length - n = 1 by omega]
  · rw [if_neg q, show (notKey x o ++ [x]).length - n = 0 by omega, List.drop_zero]
theorem hit_kept (h : CS most m o) (hm : m x = some l) : addK' x l (keptOf m o) = keptOf m (notKey x o ++ [x]) := by
  rw [added_kept h.nod]
  refine keptOf_congr fun k _ => ?_
  unfold setL
  by_cases e : k = x
  · rw [if_pos e, e, hm]
  · rw [if_neg e]
theorem drop_kept (h : CS most m o) : dropK x (keptOf m o) = keptOf (setL m x none) (notKey x o) ∧ hasK x (keptOf m o) = (m x).isSome := by
  refine ⟨?_, ?_⟩
  · rw [dropK_kept m x h.nod]
    exact keptOf_congr fun k hk => by unfold setL; rw [if_neg (notKey_mem.1 hk).2]
  · have h1 := hasK_kept m x o
    have h2 := h.is x
    cases q : m x with
    | none =>
      have : x ∉ o := h2.1 q
      cases r : hasK x (keptOf m o) with
      | false => rfl
      | true => exact absurd (h1.1 r) this
    | some v =>
      have : x ∈ o := by
        cases Classical.em (x ∈ o) with
        | inl h => exact h
        | inr h => have := h2.2 h; rw [q] at this; cases this
      rw [h1.2 this]; rfl
theorem look_kept (h : CS most m o) : lookK x (keptOf m o) = m x := by
  have h2 := h.is x
  by_cases q : x ∈ o
  · rw [(lookK_kept m x o).1 q]
    cases r : m x with
    | none => exact absurd q (h2.1 r)
    | some v => rfl
  · rw [(lookK_kept m x o).2 q, h2.2 q]
theorem CS.cut (h : CS most m o) {n : Int} (h0 : 0 ≤ n) : CS n (cutAll n m o).1 (cutAll n m o).2 := by
  obtain ⟨h1, h2, h3⟩ := cutAll_keep h0 h.nod h.is
  exact ⟨h1, h2, cutAll_len h0 _ _, fun k hk => h.sz k (cutAll_mem hk), fun k l e => h.ll k l (h3 k l e)⟩
end
end Go.Proofs.Ytjpbcmfppmiagaa.Print
