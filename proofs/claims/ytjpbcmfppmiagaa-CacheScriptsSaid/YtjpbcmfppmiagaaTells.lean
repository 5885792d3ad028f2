/- A step of a cache's script as a value; what is kept between the steps: the cache's lists are those that were put in last. -/
import Derived.Test.YtjpbcmfppmiagaaOrd
namespace Go.Proofs.Ytjpbcmfppmiagaa.Print
open Go.RowKit Go.Maps Go.Proofs.YtjpbcmfppmiagaaW.PrintWords Go.Proofs.YtjpbcmfppmiagaaW.PrintLast Go.Proofs.YtjpbcmfppmiagaaW.PrintMore
set_option linter.unusedVariables false
set_option linter.unusedSimpArgs false

structure S45 where
  f0 : Int
  f1 : Int
  f2 : ByteArray
  f3 : List Int
def z45 : S45 := ⟨0, 0, ⟨#[]⟩, []⟩
def k45 : Kd S45 := Kd.iso (Kd.pair (Kd.int .i64) (Kd.pair (Kd.int .i64) (Kd.pair Kd.string (Kd.slice 3 (Kd.int .i64))))) (fun x : S45 => (x.f0, x.f1, x.f2, x.f3))
theorem k45_open {w : World} {x : S45} {cs : List Value} (h : k45.K w x cs) : ∃ A c, cs = [.int .i64 x.f0, .int .i64 x.f1, .string x.f2, .slice A x.f3.length c] ∧ x.f3.length ≤ c ∧ (Kd.int .i64).C w A x.f3.length x.f3 := by
  obtain ⟨_, _, rfl, rfl, ⟨_, _, rfl, rfl, ⟨_, _, rfl, rfl, ⟨A, c, rfl, l1, g1⟩⟩⟩⟩ := h
  exact ⟨A, c, rfl, l1, g1⟩
def rd_T45 (xs : List S45) (i : Int) : S45 := xs.getD i.toNat z45
theorem at_T45 {w : World} {A : Option Addr} {n : Nat} {xs : List S45} (h : Kd.C k45 w A n xs) (i : Int) (h0 : 0 ≤ i) (h1 : i < n) : ∃ ad A1 c1, A = some ad ∧ w.cell? (ad.add (i.toNat * 4)) = some (.int .i64 (rd_T45 xs i).f0) ∧ w.cell? ⟨(ad.add (i.toNat * 4)).block, (ad.add (i.toNat * 4)).off + 1, none⟩ = some (.int .i64 (rd_T45 xs i).f1) ∧ w.cell? ⟨(ad.add (i.toNat * 4)).block, (ad.add (i.toNat * 4)).off + 2, none⟩ = some (.string (rd_T45 xs i).f2) ∧ w.cell? ⟨(ad.add (i.toNat * 4)).block, (ad.add (i.toNat * 4)).off + 3, none⟩ = some (.slice A1 (rd_T45 xs i).f3.length c1) ∧ (rd_T45 xs i).f3.length ≤ c1 ∧ (Kd.int .i64).C w A1 (rd_T45 xs i).f3.length (rd_T45 xs i).f3 := by
  obtain ⟨ad, c, e, _, hK, hc0⟩ := Kd.C_get h z45 i h0 h1
  have hc : ∀ j u, c[j]? = some u → w.cell? (ad.add (i.toNat * 4 + j)) = some u := hc0
  obtain ⟨A1, c1, rfl, l1, g1⟩ := k45_open hK
  exact ⟨ad, A1, c1, e, hc 0 _ rfl, by rw [← add_field _ _ 1 (by omega)]; exact hc 1 _ rfl, by rw [← add_field _ _ 2 (by omega)]; exact hc 2 _ rfl, by rw [← add_field _ _ 3 (by omega)]; exact hc 3 _ rfl, l1, g1⟩

/-- What is kept of a cache's lists and their order. -/
structure CS (most : Int) (m : Lists) (o : List ByteArray) : Prop where
  nod : o.Nodup
  is : ∀ k, m k = none ↔ k ∉ o
  len : (o.length : Int) ≤ most
  sz : ∀ k ∈ o, k.size ≤ maxLen
  ll : ∀ k l, m k = some l → l.length ≤ 17592186043904
section
variable {most : Int} {m : Lists} {o : List ByteArray} {x : ByteArray} {l : List Int}
theorem CS.start (h : 0 ≤ most) : CS most noLists [] := ⟨by simp, by simp [noLists], by simpa using h, by simp, by simp [noLists]⟩
theorem CS.zero (h : CS 0 m o) (k : ByteArray) : m k = none := by
  have : o = [] := by
    have := h.len
    exact List.length_eq_zero_iff.1 (by omega)
  rw [h.is, this]; simp
theorem nodup_behind (h : o.Nodup) : (notKey x o ++ [x]).Nodup := by
  rw [List.nodup_append]
  exact ⟨notKey_nodup h, by simp, fun a ha b hb => by rw [List.mem_singleton] at hb; rw [hb]; exact (notKey_mem.1 ha).2⟩
theorem CS.hit (h : CS most m o) (hx : x ∈ o) : CS most m (notKey x o ++ [x]) := by
  refine ⟨nodup_behind h.nod, fun k => ?_, by rw [moved_len h.nod hx]; exact h.len, notKey_size (h.sz x hx) h.sz, h.ll⟩
  rw [h.is, List.mem_append, List.mem_singleton, notKey_mem]
  by_cases e : k = x
  · subst e; simp [hx]
  · simp [e]
theorem CS.drop (h : CS most m o) : CS most (setL m x none) (notKey x o) := by
  refine ⟨notKey_nodup h.nod, fun k => ?_, ?_, fun k hk => h.sz k (notKey_mem.1 hk).1, fun k l e => ?_⟩
  · unfold setL
    rw [notKey_mem]
    by_cases e : k = x
    · simp [e]
    · simp [e, h.is]
  · have : (notKey x o).length ≤ o.length := List.length_filter_le _ _
    have := h.len
    omega
  · unfold setL at e
    split at e
    · cases e
    · exact h.ll k l e
/-- What a cut leaves: an end of the order, and the lists of what stands there. -/
theorem cutF_keep {most : Int} : ∀ (o : List ByteArray) (m : Lists), o.Nodup → (∀ k, m k = none ↔ k ∉ o) → (cutF most m o).2.Nodup ∧ (∀ k, (cutF most m o).1 k = none ↔ k ∉ (cutF most m o).2) ∧ ∀ k l, (cutF most m o).1 k = some l → m k = some l
  | [], m, hn, his => by rw [cutF]; exact ⟨hn, his, fun _ _ h => h⟩
  | x :: o, m, hn, his => by
    rw [cutF]
    by_cases q : ((x :: o).length : Int) > most
    · rw [if_pos q]
      rw [List.nodup_cons] at hn
      obtain ⟨h1, h2, h3⟩ := cutF_keep o (setL m x none) hn.2 (fun k => by
        unfold setL
        by_cases e : k = x
        · subst e; simp [hn.1]
        · rw [if_neg e, his]; simp [e])
      refine ⟨h1, h2, fun k l e => ?_⟩
      have := h3 k l e
      unfold setL at this
      split at this
      · cases this
      · exact this
    · rw [if_neg q]; exact ⟨hn, his, fun _ _ h => h⟩
theorem cutAll_keep (h0 : 0 ≤ most) (hn : o.Nodup) (his : ∀ k, m k = none ↔ k ∉ o) : (cutAll most m o).2.Nodup ∧ (∀ k, (cutAll most m o).1 k = none ↔ k ∉ (cutAll most m o).2) ∧ ∀ k l, (cutAll most m o).1 k = some l → m k = some l := by
  unfold cutAll
  by_cases q : most = 0
  · rw [if_pos q]; exact ⟨by simp, by simp, by simp⟩
  · rw [if_neg q]; exact cutF_keep o m hn his
theorem setL_is (h : ∀ k, m k = none ↔ k ∉ o) (k : ByteArray) : setL m x (some l) k = none ↔ k ∉ notKey x o ++ [x] := by
  unfold setL
  rw [List.mem_append, List.mem_singleton, notKey_mem]
  by_cases e : k = x
  · simp [e]
  · simp [e, h]
theorem CS.put (h0 : 0 ≤ most) (h : CS most m o) (hx : x.size ≤ maxLen) (hl : l.length ≤ 17592186043904) : CS most (cutAll most (setL m x (some l)) (notKey x o ++ [x])).1 (cutAll most (setL m x (some l)) (notKey x o ++ [x])).2 := by
  obtain ⟨h1, h2, h3⟩ := cutAll_keep h0 (nodup_behind (x := x) h.nod) (setL_is (x := x) (l := l) h.is)
  refine ⟨h1, h2, cutAll_len h0 _ _, Last.sizes h.sz hx, fun k l' e => ?_⟩
  have := h3 k l' e
  unfold setL at this
  split at this
  · cases this; exact hl
  · exact h.ll k l' this
/-- The lists that are there are those that were put in last. -/
theorem tells_put {L : Lists} (h0 : 0 ≤ most) (h : CS most m o) (hL : ∀ k l, m k = some l → L k = some l) : ∀ k l', (cutAll most (setL m x (some l)) (notKey x o ++ [x])).1 k = some l' → setL L x (some l) k = some l' := fun k l' e => by
  have := (cutAll_keep h0 (nodup_behind (x := x) h.nod) (setL_is (x := x) (l := l) h.is)).2.2 k l' e
  unfold setL at this ⊢
  split
  · rename_i q; rw [if_pos q] at this; exact this
  · rename_i q; rw [if_neg q] at this; exact hL k l' this
end
/-- What the map of the last lists holds: slices that the steps bring. -/
def LastS (W : World) (g : ByteArray → Option Value) (L : Lists) : Prop := (∀ k, g k = none ↔ L k = none) ∧ ∀ k v l, g k = some v → L k = some l → ∃ A c, v = .slice A l.length c ∧ l.length ≤ c ∧ Kd.C (Kd.int .i64) W A l.length l ∧ l.length ≤ 17592186043904
theorem LastS.start (W : World) : LastS W (fun _ => none) noLists := ⟨fun k => by simp [noLists], fun k v l e => by cases e⟩
theorem LastS.put {W : World} {g : ByteArray → Option Value} {L : Lists} {x : ByteArray} {A : Option Addr} {c : Nat} {l : List Int} (h : LastS W g L) (hc : l.length ≤ c) (hC : Kd.C (Kd.int .i64) W A l.length l) (hl : l.length ≤ 17592186043904) : LastS W (fun s => if s = x then some (.slice A l.length c) else g s) (setL L x (some l)) := by
  refine ⟨fun k => ?_, fun k v l' e1 e2 => ?_⟩
  · unfold setL
    by_cases e : k = x
    · simp [e]
    · simp [e, h.1]
  · unfold setL at e2
    by_cases e : k = x
    · simp only [if_pos e] at e1 e2
      obtain rfl := Option.some.inj e1
      obtain rfl := Option.some.inj e2
      exact ⟨A, c, rfl, hc, hC, hl⟩
    · simp only [if_neg e] at e1 e2
      exact h.2 k v l' e1 e2
/-- What a look-up of a key answers, known or not. -/
theorem LastS.get {W : World} {g : ByteArray → Option Value} {L : Lists} (h : LastS W g L) (k : ByteArray) : ∃ A c l, (g k = some (.slice A l.length c) ∧ L k = some l ∨ g k = none ∧ L k = none ∧ A = none ∧ c = 0 ∧ l = []) ∧ l.length ≤ c ∧ Kd.C (Kd.int .i64) W A l.length l ∧ l.length ≤ 17592186043904 := by
  cases q : L k with
  | none => exact ⟨none, 0, [], .inr ⟨(h.1 k).2 q, rfl, rfl, rfl, rfl⟩, Nat.le_refl _, C_none _ _, by simp⟩
  | some l =>
    cases p : g k with
    | none => rw [(h.1 k).1 p] at q; cases q
    | some v =>
      obtain ⟨A, c, rfl, h1, h2, h3⟩ := h.2 k v l p q
      exact ⟨A, c, l, .inl ⟨rfl, rfl⟩, h1, h2, h3⟩
end Go.Proofs.Ytjpbcmfppmiagaa.Print
