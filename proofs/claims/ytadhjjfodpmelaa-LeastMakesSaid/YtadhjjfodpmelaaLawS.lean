/- The reference's table of what is told apart: true just where a word tells two states apart. -/
import Derived.Test.YtadhjjfodpmelaaPrint10
import Derived.Test.YtadhjjfodpmelaaPrint11
import Derived.Test.YtadhjjfodpmelaaPrint9
import Derived.Test.YtadhjjfodpmelaaLawC
-- NEEDS scansionref13_split scansionref13_place scansionref13_Least
namespace Go.Proofs.Ytadhjjfodpmelaa.Pure
open Go.RowKit Go.Proofs.Ytadhjjfodpmelaa.Print Go.Proofs.YtadhjjfodpmelaaW.PrintWords Go.Proofs.YtadhjjfodpmelaaW.PrintLast
set_option linter.unusedVariables false
set_option linter.unusedSimpArgs false

/-- With enough rounds it answers something of which Q is true. -/
def EvP {β : Type} (f : Nat → Option β) (Q : β → Prop) : Prop := ∃ r, Ev f r ∧ Q r
theorem EvP.succ {β : Type} {f g : Nat → Option β} {Q : β → Prop} (h : EvP g Q) (e : ∀ k, f (k + 1) = g k) : EvP f Q := by
  obtain ⟨r, h, q⟩ := h
  exact ⟨r, h.succ e, q⟩
theorem EvP.congr {β : Type} {f g : Nat → Option β} {Q : β → Prop} (h : EvP g Q) (e : ∀ k, f k = g k) : EvP f Q := by
  obtain ⟨r, h, q⟩ := h
  exact ⟨r, h.congr e, q⟩

def at2 (S : List (List Bool)) (i k : Nat) : Bool := rdOf false (rd_L4 S i) k
theorem rdL4_set {S : List (List Bool)} {i j : Nat} {row : List Bool} (h : i < S.length) : rd_L4 (S.set i row) j = if j = i then row else rd_L4 S j := by
  unfold rd_L4
  rw [Int.toNat_natCast, List.getD_eq_getElem?_getD, List.getD_eq_getElem?_getD, List.getElem?_set]
  by_cases e : j = i
  · rw [if_pos e, if_pos e.symm, if_pos h]; rfl
  · rw [if_neg e, if_neg (fun h => e h.symm)]
theorem rdOf_set {l : List Bool} {k j : Nat} {v : Bool} (h : k < l.length) : rdOf false (l.set k v) j = if j = k then v else rdOf false l j := by
  unfold rdOf
  rw [Int.toNat_natCast, List.getD_eq_getElem?_getD, List.getD_eq_getElem?_getD, List.getElem?_set]
  by_cases e : j = k
  · rw [if_pos e, if_pos e.symm, if_pos h]; rfl
  · rw [if_neg e, if_neg (fun h => e h.symm)]

section
variable {a : List (List Int)} {b : List Bool} {n m : Nat} {Q : List (List Bool) → Prop}

/-! ### the start -/
structure Inv0 (b : List Bool) (n : Nat) (S : List (List Bool)) (i : Nat) : Prop where
  len : S.length = n
  rows : ∀ j, j < i → (rd_L4 S j).length = n ∧ ∀ k, k < n → at2 S j k = (fin b j != fin b k)
structure Inv1 (b : List Bool) (n : Nat) (S : List (List Bool)) (i k : Nat) : Prop where
  inv : Inv0 b n S i
  row : (rd_L4 S i).length = n
  ok : ∀ l, l < k → at2 S i l = (fin b i != fin b l)
theorem split_l1 (hw : Wf a b n m) {i : Nat} (hi : i < n) (hc : ∀ S', Inv1 b n S' i n → EvP (fun K => scansionref13_split.l0 K n S' ((i + 1 : Nat) : Int) a b) Q) : ∀ (c k : Nat) (S : List (List Bool)), k + c = n → Inv1 b n S i k → EvP (fun K => scansionref13_split.l1 K n S i k a b) Q
  | 0, k, S, hk, h => by
    obtain rfl : k = n := hk
    refine EvP.succ (hc S h) fun K => ?_
    rw [scansionref13_split.l1, if_neg (by omega), wrap_succ (by have := hw.most; omega)]
  | c + 1, k, S, hk, h => by
    have h1 := h.inv.len
    have h2 := h.row
    have h3 := hw.blen
    have hs : Inv1 b n (S.set i ((rd_L4 S i).set k (fin b i != fin b k))) i (k + 1) := by
      refine ⟨⟨by rw [List.length_set]; exact h1, fun j hj => ?_⟩, ?_, fun l hl => ?_⟩
      · unfold at2
        rw [rdL4_set (by omega), if_neg (by omega)]
        exact h.inv.rows j hj
      · rw [rdL4_set (by omega), if_pos rfl, List.length_set]; exact h2
      · unfold at2
        rw [rdL4_set (by omega), if_pos rfl, rdOf_set (by omega)]
        by_cases e : l = k
        · rw [if_pos e, e]
        · rw [if_neg e]; exact h.ok l (by omega)
    refine EvP.succ (split_l1 hw hi hc c (k + 1) _ (by omega) hs) fun K => ?_
    rw [scansionref13_split.l1, if_pos (by omega), if_pos (by omega), if_pos (by omega), if_pos (by omega), if_pos (by omega), if_pos (by omega), if_pos (by omega), wrap_succ (by have := hw.most; omega), Int.toNat_natCast, Int.toNat_natCast]
    rfl
theorem split_l0 (hw : Wf a b n m) (hc : ∀ S', Inv0 b n S' n → EvP (fun K => scansionref13_split.l2 K n S' ((0 : Nat) : Int) a b) Q) : ∀ (c i : Nat) (S : List (List Bool)), i + c = n → Inv0 b n S i → EvP (fun K => scansionref13_split.l0 K n S i a b) Q
  | 0, i, S, hi, h => by
    obtain rfl : i = n := hi
    refine EvP.succ (hc S h) fun K => ?_
    rw [scansionref13_split.l0, if_neg (by omega)]
    rfl
  | c + 1, i, S, hi, h => by
    have h1 := h.len
    have := hw.most
    refine EvP.succ (split_l1 hw (i := i) (by omega) (fun S' hS => split_l0 hw hc c (i + 1) S' (by omega) ⟨hS.inv.len, fun j hj => ?_⟩) n 0 (S.set i (List.replicate n false)) (by omega) ⟨⟨by rw [List.length_set]; exact h1, fun j hj => ?_⟩, ?_, fun l hl => absurd hl (by omega)⟩) fun K => ?_
    · by_cases e : j = i
      · subst e; exact ⟨hS.row, hS.ok⟩
      · exact hS.inv.rows j (by omega)
    · unfold at2
      rw [rdL4_set (by omega), if_neg (by omega)]
      exact h.rows j hj
    · rw [rdL4_set (by omega), if_pos rfl, List.length_replicate]
    · rw [scansionref13_split.l0, if_pos (by omega), if_pos (by omega), if_pos (by omega), if_pos (by omega), if_pos (by omega), Int.toNat_natCast, Int.toNat_natCast]
      rfl

/-! ### the rounds -/
structure Sh (a : List (List Int)) (b : List Bool) (n m : Nat) (S : List (List Bool)) : Prop where
  len : S.length = n
  row : ∀ i, i < n → (rd_L4 S i).length = n
  ok : ∀ i k, i < n → k < n → at2 S i k = true → Told a b m i k
def Mono (n : Nat) (S S' : List (List Bool)) : Prop := ∀ i k, i < n → k < n → at2 S i k = true → at2 S' i k = true
theorem Mono.refl (S : List (List Bool)) : Mono n S S := fun _ _ _ _ h => h
theorem Mono.trans {S S' S'' : List (List Bool)} (h : Mono n S S') (h' : Mono n S' S'') : Mono n S S'' := fun i k hi hk q => h' i k hi hk (h i k hi hk q)
theorem Told.step {i k c : Nat} (hc : c < m) (h : Told a b m (nx a i c) (nx a k c)) : Told a b m i k := by
  obtain ⟨r, h⟩ := h
  exact ⟨r + 1, .inr ⟨c, hc, h⟩⟩
theorem set_ok {S : List (List Bool)} {i k : Nat} {v : Bool} (h : Sh a b n m S) (hi : i < n) (hk : k < n) (hv : v = true → Told a b m i k) (hm : at2 S i k = true → v = true) :
    Sh a b n m (S.set i ((rd_L4 S i).set k v)) ∧ Mono n S (S.set i ((rd_L4 S i).set k v)) ∧ at2 (S.set i ((rd_L4 S i).set k v)) i k = v := by
  have h1 := h.len
  have h2 := h.row i hi
  have e : ∀ j l, at2 (S.set i ((rd_L4 S i).set k v)) j l = if j = i ∧ l = k then v else at2 S j l := by
    intro j l
    unfold at2
    rw [rdL4_set (by omega)]
    by_cases e : j = i
    · rw [if_pos e, rdOf_set (by omega)]
      by_cases e2 : l = k
      · rw [if_pos e2, if_pos ⟨e, e2⟩]
      · rw [if_neg e2, if_neg (fun h => e2 h.2), e]
    · rw [if_neg e, if_neg (fun h => e h.1)]
  refine ⟨⟨by rw [List.length_set]; exact h1, fun j hj => ?_, fun j l hj hl hq => ?_⟩, fun j l hj hl hq => ?_, ?_⟩
  · rw [rdL4_set (by omega)]
    split
    · rw [List.length_set]; exact h2
    · exact h.row j hj
  · rw [e] at hq
    by_cases q : j = i ∧ l = k
    · rw [if_pos q] at hq
      rw [q.1, q.2]
      exact hv hq
    · rw [if_neg q] at hq
      exact h.ok j l hj hl hq
  · rw [e]
    by_cases q : j = i ∧ l = k
    · rw [if_pos q]
      rw [q.1, q.2] at hq
      exact hm hq
    · rw [if_neg q]; exact hq
  · rw [e, if_pos ⟨rfl, rfl⟩]

theorem split_l5 (hw : Wf a b n m) {t i k : Nat} (hi : i < n) (hk : k < n) : ∀ (c j : Nat) (S : List (List Bool)), j + c = m → Sh a b n m S →
    (∀ S', Sh a b n m S' → Mono n S S' → (∀ c, j ≤ c → c < m → at2 S (nx a i c) (nx a k c) = true → at2 S' i k = true) → EvP (fun K => scansionref13_split.l4 K n S' t i ((k + 1 : Nat) : Int) a b) Q) → EvP (fun K => scansionref13_split.l5 K n S t i k j a b) Q
  | 0, j, S, hj, h, hc => by
    have h1 := h.len
    have h2 := h.row i hi
    have h3 := hw.row i hi
    have h4 := hw.len
    refine EvP.succ (hc S h (Mono.refl S) fun c h1 h2 => absurd h1 (by omega)) fun K => ?_
    rw [scansionref13_split.l5, if_pos (by omega), if_pos (by omega), if_neg (by omega), wrap_succ (by have := hw.most; omega)]
  | c + 1, j, S, hj, h, hc => by
    have h1 := h.len
    have h2 := h.row i hi
    have h3 := hw.row i hi
    have h4 := hw.len
    have h5 := hw.row k hk
    obtain ⟨n1, e1⟩ := hw.nx hi (c := j) (by omega)
    obtain ⟨n2, e2⟩ := hw.nx hk (c := j) (by omega)
    have h6 := h.row _ n1
    by_cases q : at2 S i k = true
    · obtain ⟨s1, s2, s3⟩ := set_ok h hi hk (v := true) (fun _ => h.ok i k hi hk q) (fun _ => rfl)
      refine EvP.succ (split_l5 hw hi hk c (j + 1) _ (by omega) s1 fun S' hS hm hd => hc S' hS (s2.trans hm) fun c' hc1 hc2 hq => hm i k hi hk s3) fun K => ?_
      rw [scansionref13_split.l5, if_pos (by omega), if_pos (by omega), if_pos (by omega), if_pos (by omega), if_pos (by omega), if_pos (by omega), if_pos (show rdOf false (rd_L4 S i) k = true from q), wrap_succ (by have := hw.m2; omega), Int.toNat_natCast, Int.toNat_natCast]
    · obtain ⟨s1, s2, s3⟩ := set_ok h hi hk (v := at2 S (nx a i j) (nx a k j)) (fun hv => Told.step (by omega) (h.ok _ _ n1 n2 hv)) (fun h => absurd h q)
      refine EvP.succ (split_l5 hw hi hk c (j + 1) _ (by omega) s1 fun S' hS hm hd => hc S' hS (s2.trans hm) fun c' hc1 hc2 hq => ?_) fun K => ?_
      · by_cases e : c' = j
        · subst e
          exact hm i k hi hk (s3.trans hq)
        · exact hd c' (by omega) hc2 (s2 _ _ (hw.nx hi hc2).1 (hw.nx hk hc2).1 hq)
      · rw [scansionref13_split.l5, if_pos (by omega), if_pos (by omega), if_pos (by omega), if_pos (by omega), if_pos (by omega), if_pos (by omega), if_neg (show ¬ rdOf false (rd_L4 S i) k = true from q), if_pos (by omega), e1, e2, if_pos (by omega), if_pos (by omega), if_pos (by omega), if_pos (by omega), if_pos (by omega), if_pos (by omega), wrap_succ (by have := hw.m2; omega), Int.toNat_natCast, Int.toNat_natCast]
        rfl
theorem split_l4 (hw : Wf a b n m) {t i : Nat} (hi : i < n) : ∀ (c k : Nat) (S : List (List Bool)), k + c = n → Sh a b n m S →
    (∀ S', Sh a b n m S' → Mono n S S' → (∀ k', k ≤ k' → k' < n → ∀ c, c < m → at2 S (nx a i c) (nx a k' c) = true → at2 S' i k' = true) → EvP (fun K => scansionref13_split.l3 K n S' t ((i + 1 : Nat) : Int) a b) Q) → EvP (fun K => scansionref13_split.l4 K n S t i k a b) Q
  | 0, k, S, hk, h, hc => by
    refine EvP.succ (hc S h (Mono.refl S) fun k' h1 h2 => absurd h1 (by omega)) fun K => ?_
    rw [scansionref13_split.l4, if_neg (by omega), wrap_succ (by have := hw.most; omega)]
  | c + 1, k, S, hk, h, hc => by
    refine EvP.succ (split_l5 hw hi (show k < n by omega) m 0 S (by omega) h fun S' hS hm hd => split_l4 hw hi c (k + 1) S' (by omega) hS fun S'' hS' hm' hd' => hc S'' hS' (hm.trans hm') fun k' h1 h2 c' hc' hq => ?_) fun K => ?_
    · by_cases e : k' = k
      · subst e
        exact hm' i k' hi h2 (hd c' (by omega) hc' hq)
      · exact hd' k' (by omega) h2 c' hc' (hm _ _ (hw.nx hi hc').1 (hw.nx h2 hc').1 hq)
    · rw [scansionref13_split.l4, if_pos (by omega)]
      rfl
theorem split_l3 (hw : Wf a b n m) {t : Nat} (ht : t < n) : ∀ (c i : Nat) (S : List (List Bool)), i + c = n → Sh a b n m S →
    (∀ S', Sh a b n m S' → Mono n S S' → (∀ i', i ≤ i' → i' < n → ∀ k', k' < n → ∀ c, c < m → at2 S (nx a i' c) (nx a k' c) = true → at2 S' i' k' = true) → EvP (fun K => scansionref13_split.l2 K n S' ((t + 1 : Nat) : Int) a b) Q) → EvP (fun K => scansionref13_split.l3 K n S t i a b) Q
  | 0, i, S, hi, h, hc => by
    refine EvP.succ (hc S h (Mono.refl S) fun i' h1 h2 => absurd h1 (by omega)) fun K => ?_
    rw [scansionref13_split.l3, if_neg (by omega), wrap_succ (by have := hw.most; omega)]
  | c + 1, i, S, hi, h, hc => by
    refine EvP.succ (split_l4 hw (show i < n by omega) n 0 S (by omega) h fun S' hS hm hd => split_l3 hw ht c (i + 1) S' (by omega) hS fun S'' hS' hm' hd' => hc S'' hS' (hm.trans hm') fun i' h1 h2 k' hk' c' hc' hq => ?_) fun K => ?_
    · by_cases e : i' = i
      · subst e
        exact hm' i' k' h2 hk' (hd k' (by omega) hk' c' hc' hq)
      · exact hd' i' (by omega) h2 k' hk' c' hc' (hm _ _ (hw.nx h2 hc').1 (hw.nx hk' hc').1 hq)
    · rw [scansionref13_split.l3, if_pos (by omega)]
      rfl
theorem split_l2 (hw : Wf a b n m) (hc : ∀ S', Sh a b n m S' → (∀ i k, i < n → k < n → D a b m n i k → at2 S' i k = true) → Q S') : ∀ (c t : Nat) (S : List (List Bool)), t + c = n → Sh a b n m S → (∀ i k, i < n → k < n → D a b m t i k → at2 S i k = true) → EvP (fun K => scansionref13_split.l2 K n S t a b) Q
  | 0, t, S, ht, h, hd => by
    obtain rfl : t = n := ht
    refine EvP.succ ⟨S, Ev.some_ S, hc S h hd⟩ fun K => ?_
    rw [scansionref13_split.l2, if_neg (by omega)]
  | c + 1, t, S, ht, h, hd => by
    refine EvP.succ (split_l3 hw (show t < n by omega) n 0 S (by omega) h fun S' hS hm hd' => split_l2 hw hc c (t + 1) S' (by omega) hS fun i k hi hk hq => ?_) fun K => ?_
    · rcases hq with hq | ⟨c', hc', hq⟩
      · exact hm i k hi hk (hd i k hi hk hq)
      · exact hd' i (by omega) hi k hk c' hc' (hd _ _ (hw.nx hi hc').1 (hw.nx hk hc').1 hq)
    · rw [scansionref13_split.l2, if_pos (by omega)]
      rfl
end
/-- The reference's table. -/
theorem split_ev {a : List (List Int)} {b : List Bool} {n m : Nat} (hw : Wf a b n m) : EvP (fun K => scansionref13_split.f K a b) fun S => S.length = n ∧ (∀ i, i < n → (rd_L4 S i).length = n) ∧ ∀ i k, i < n → k < n → (at2 S i k = true ↔ Told a b m i k) := by
  obtain ⟨kind, _, _, _, hn⟩ := classes_spec hw
  have h1 := hw.len
  have h2 := hw.most
  refine EvP.congr (split_l0 hw (fun S hS => split_l2 hw (fun S' hS' hd => ⟨hS'.len, hS'.row, fun i k hi hk => ⟨hS'.ok i k hi hk, fun ht => hd i k hi hk (hn i k hi hk ht)⟩⟩) n 0 S (by omega) ⟨hS.len, fun i hi => (hS.rows i hi).1, fun i k hi hk hq => ⟨0, ?_⟩⟩ fun i k hi hk hq => ?_) n 0 (List.replicate n []) (by omega) ⟨List.length_replicate, fun j hj => absurd hj (by omega)⟩) fun K => ?_
  · rw [(hS.rows i hi).2 k hk] at hq
    simpa [D] using hq
  · rw [(hS.rows i hi).2 k hk]
    simpa [D] using hq
  · rw [scansionref13_split.f, if_pos (by omega), if_pos (by omega), h1, Int.toNat_natCast]
    rfl
end Go.Proofs.Ytadhjjfodpmelaa.Pure
