/- The word that least.Apart tells: it tells the two apart, and none is shorter; where there is none they tell the same. -/
import Derived.Test.YtadhjjfodpmelaaLawB
import Derived.Test.YtadhjjfodpmelaaApart
namespace Go.Proofs.Ytadhjjfodpmelaa.Pure
open Go.RowKit Go.Proofs.Ytadhjjfodpmelaa.Print Go.Proofs.YtadhjjfodpmelaaW.PrintWords Go.Proofs.YtadhjjfodpmelaaW.PrintLast
set_option linter.unusedVariables false
set_option linter.unusedSimpArgs false

theorem gd_pre {α : Type} {l r : List α} {d : α} {i : Nat} (h : i < l.length) : (l ++ r).getD i d = l.getD i d := by
  rw [List.getD_eq_getElem?_getD, List.getD_eq_getElem?_getD, List.getElem?_append_left h]
theorem gd_end {α : Type} {l : List α} {x d : α} {i : Nat} (h : i = l.length) : (l ++ [x]).getD i d = x := by
  subst h
  rw [List.getD_eq_getElem?_getD, List.getElem?_concat_length]
  rfl
theorem gd_mem {α : Type} {l : List α} {d : α} {i : Nat} (h : i < l.length) : l.getD i d ∈ l := by
  rw [List.getD_eq_getElem?_getD, List.getElem?_eq_getElem h]
  exact List.getElem_mem h

structure ApMid (a a' : List (List Int)) (n n' m : Nat) (q : List (Int × Int)) (ws : List (List Int)) (i : Nat) : Prop where
  ok : QOk n n' q ws
  head : 0 < q.length ∧ q.getD 0 (0, 0) = (0, 0) ∧ ws.getD 0 [] = []
  word : ∀ j, j < q.length → WordOk m (ws.getD j []) ∧ runI a 0 (ws.getD j []) = (q.getD j (0, 0)).1 ∧ runI a' 0 (ws.getD j []) = (q.getD j (0, 0)).2
  mono : ∀ j k, j ≤ k → k < q.length → (ws.getD j []).length ≤ (ws.getD k []).length
  near : ∀ j, j < q.length → i < q.length → (ws.getD j []).length ≤ (ws.getD i []).length + 1
section
variable {a a' : List (List Int)} {b b' : List Bool} {n n' m : Nat}
theorem apY_lo (hw : Wf a b n m) (hw' : Wf a' b' n' m) {x : Int × Int} (hx : (0 ≤ x.1 ∧ x.1 < n) ∧ 0 ≤ x.2 ∧ x.2 < n') {c : Nat} (hc : c < m) : (0 ≤ (apY a a' x c).1 ∧ (apY a a' x c).1 < n) ∧ 0 ≤ (apY a a' x c).2 ∧ (apY a a' x c).2 < n' := by
  have h1 := hw.lo x.1.toNat (by omega) (rd (rd_L1 a x.1.toNat) c) (rd_mem (by rw [hw.row _ (by omega)]; exact hc))
  have h2 := hw'.lo x.2.toNat (by omega) (rd (rd_L1 a' x.2.toNat) c) (rd_mem (by rw [hw'.row _ (by omega)]; exact hc))
  rw [Int.toNat_of_nonneg hx.1.1] at h1
  rw [Int.toNat_of_nonneg hx.2.1] at h2
  exact ⟨h1, h2⟩
theorem ApMid.snoc (hw : Wf a b n m) (hw' : Wf a' b' n' m) {q : List (Int × Int)} {ws : List (List Int)} {i c : Nat} (h : ApMid a a' n n' m q ws i) (hi : i < q.length) (hc : c < m) (hn : apY a a' (q.getD i (0, 0)) c ∉ q) : ApMid a a' n n' m (q ++ [apY a a' (q.getD i (0, 0)) c]) (ws ++ [ws.getD i [] ++ [(c : Int)]]) i := by
  have hwl := h.ok.len
  have hlo := apY_lo hw hw' (h.ok.lo _ (gd_mem (d := (0, 0)) hi)) hc
  have hsh : (ws.getD i []).length ≤ i := h.ok.short i _ (by rw [List.getD_eq_getElem?_getD, List.getElem?_eq_getElem (by omega)]; rfl)
  have old : ∀ j, j < q.length → (ws ++ [ws.getD i [] ++ [(c : Int)]]).getD j [] = ws.getD j [] := fun j hj => gd_pre (by omega)
  have new : (ws ++ [ws.getD i [] ++ [(c : Int)]]).getD q.length [] = ws.getD i [] ++ [(c : Int)] := gd_end (by omega)
  refine ⟨h.ok.snoc hlo hn (by rw [List.length_append, List.length_singleton]; omega), ⟨by rw [List.length_append]; omega, by rw [gd_pre h.head.1]; exact h.head.2.1, by rw [gd_pre (by have := h.head.1; omega)]; exact h.head.2.2⟩, fun j hj => ?_, fun j k hjk hk => ?_, fun j hj _ => ?_⟩
  · rw [List.length_append, List.length_singleton] at hj
    by_cases e : j = q.length
    · subst e
      obtain ⟨w1, w2, w3⟩ := h.word i hi
      rw [new, gd_end rfl, runI_snoc, runI_snoc, w2, w3]
      refine ⟨fun x hx => ?_, rfl, rfl⟩
      rcases List.mem_append.1 hx with hx | hx
      · exact w1 x hx
      · rw [List.mem_singleton] at hx; omega
    · rw [old j (by omega), gd_pre (by omega)]
      exact h.word j (by omega)
  · rw [List.length_append, List.length_singleton] at hk
    by_cases e : k = q.length
    · subst e
      rw [new, List.length_append, List.length_singleton]
      by_cases e2 : j = q.length
      · rw [e2, new, List.length_append, List.length_singleton]; exact Nat.le_refl _
      · rw [old j (by omega)]
        exact h.near j (by omega) hi
    · rw [old j (by omega), old k (by omega)]
      exact h.mono j k hjk (by omega)
  · rw [List.length_append, List.length_singleton] at hj
    rw [old i hi]
    by_cases e : j = q.length
    · subst e
      rw [new, List.length_append, List.length_singleton]; exact Nat.le_refl _
    · rw [old j (by omega)]
      exact h.near j (by omega) hi
/-- The pairs to which x leads are met. -/
theorem apRow_mid (hw : Wf a b n m) (hw' : Wf a' b' n' m) {q : List (Int × Int)} {ws : List (List Int)} {i : Nat} (h : ApMid a a' n n' m q ws i) (hi : i < q.length) : ∀ j, j ≤ m → ApMid a a' n n' m (apRow a a' (q.getD i (0, 0)) (ws.getD i []) q ws j).1 (apRow a a' (q.getD i (0, 0)) (ws.getD i []) q ws j).2 i ∧
    ∀ c, c < j → ∃ k, k < (apRow a a' (q.getD i (0, 0)) (ws.getD i []) q ws j).1.length ∧ (apRow a a' (q.getD i (0, 0)) (ws.getD i []) q ws j).1.getD k (0, 0) = apY a a' (q.getD i (0, 0)) c ∧ ((apRow a a' (q.getD i (0, 0)) (ws.getD i []) q ws j).2.getD k []).length ≤ (ws.getD i []).length + 1
  | 0, _ => ⟨h, fun c hc => absurd hc (by omega)⟩
  | j + 1, hj => by
    obtain ⟨h1, h2⟩ := apRow_mid hw hw' h hi j (by omega)
    obtain ⟨r, s, hr, hs⟩ := apRow_pre a a' (q.getD i (0, 0)) (ws.getD i []) q ws j
    have hqi : (apRow a a' (q.getD i (0, 0)) (ws.getD i []) q ws j).1.getD i (0, 0) = q.getD i (0, 0) := by rw [hr, gd_pre hi]
    have hwi : (apRow a a' (q.getD i (0, 0)) (ws.getD i []) q ws j).2.getD i [] = ws.getD i [] := by rw [hs, gd_pre (by rw [h.ok.len]; exact hi)]
    have hil : i < (apRow a a' (q.getD i (0, 0)) (ws.getD i []) q ws j).1.length := by rw [hr, List.length_append]; omega
    rw [apRow]
    by_cases hin : apY a a' (q.getD i (0, 0)) j ∈ (apRow a a' (q.getD i (0, 0)) (ws.getD i []) q ws j).1
    · rw [if_pos hin]
      refine ⟨h1, fun c hc => ?_⟩
      by_cases e : c = j
      · subst e
        obtain ⟨k, hk, he⟩ := List.getElem_of_mem hin
        refine ⟨k, hk, by rw [List.getD_eq_getElem?_getD, List.getElem?_eq_getElem hk]; exact he, ?_⟩
        have := h1.near k hk hil
        rwa [hwi] at this
      · exact h2 c (by omega)
    · rw [if_neg hin]
      have hsn := ApMid.snoc hw hw' h1 hil (c := j) (by omega) (by rw [hqi]; exact hin)
      rw [hqi, hwi] at hsn
      refine ⟨hsn, fun c hc => ?_⟩
      have hl2 := h1.ok.len
      by_cases e : c = j
      · subst e
        refine ⟨(apRow a a' (q.getD i (0, 0)) (ws.getD i []) q ws c).1.length, by rw [List.length_append]; simp, gd_end rfl, ?_⟩
        show (((apRow a a' (q.getD i (0, 0)) (ws.getD i []) q ws c).2 ++ [_]).getD _ []).length ≤ _
        rw [gd_end (by omega), List.length_append, List.length_singleton]
        exact Nat.le_refl _
      · obtain ⟨k, k1, k2, k3⟩ := h2 c (by omega)
        refine ⟨k, by rw [List.length_append]; omega, by rw [gd_pre k1]; exact k2, ?_⟩
        show (((apRow a a' (q.getD i (0, 0)) (ws.getD i []) q ws j).2 ++ [_]).getD _ []).length ≤ _
        rw [gd_pre (by omega)]; exact k3

def Same (b b' : List Bool) (p : Int × Int) : Prop := rdOf false b p.1 = rdOf false b' p.2
def Done (a a' : List (List Int)) (b b' : List Bool) (m : Nat) (q : List (Int × Int)) (ws : List (List Int)) (i : Nat) : Prop :=
  ∀ j, j < i → Same b b' (q.getD j (0, 0)) ∧ ∀ c, c < m → ∃ k, k < q.length ∧ q.getD k (0, 0) = apY a a' (q.getD j (0, 0)) c ∧ (ws.getD k []).length ≤ (ws.getD j []).length + 1
/-- What the search tells. -/
def ApSpec (a : List (List Int)) (b : List Bool) (a' : List (List Int)) (b' : List Bool) (n n' m : Nat) (r : List Int × Bool) : Prop :=
  (r.2 = false ∧ ∃ q : List (Int × Int), (0, 0) ∈ q ∧ ∀ p ∈ q, ((0 ≤ p.1 ∧ p.1 < n) ∧ 0 ≤ p.2 ∧ p.2 < n') ∧ Same b b' p ∧ ∀ c, c < m → apY a a' p c ∈ q) ∨
  (r.2 = true ∧ WordOk m r.1 ∧ rdOf false b (runI a 0 r.1) ≠ rdOf false b' (runI a' 0 r.1) ∧ ∀ u, WordOk m u → u.length < r.1.length → rdOf false b (runI a 0 u) = rdOf false b' (runI a' 0 u))
theorem reach {q : List (Int × Int)} {ws : List (List Int)} {i : Nat} (h : ApMid a a' n n' m q ws i) (hd : Done a a' b b' m q ws i) (hi : i < q.length) : ∀ (N : Nat) (u : List Int), u.length = N → WordOk m u → u.length < (ws.getD i []).length → ∃ k, k < i ∧ q.getD k (0, 0) = (runI a 0 u, runI a' 0 u) ∧ (ws.getD k []).length ≤ u.length
  | 0, u, hN, hu, hl => by
    obtain rfl := List.length_eq_zero_iff.1 hN
    refine ⟨0, ?_, h.head.2.1, by rw [h.head.2.2]; simp⟩
    rcases Nat.eq_zero_or_pos i with e | e
    · rw [e, h.head.2.2] at hl; simp at hl
    · exact e
  | N + 1, u, hN, hu, hl => by
    rcases List.eq_nil_or_concat u with e | ⟨v, d, e⟩
    · rw [e] at hN; simp at hN
    · rw [List.concat_eq_append] at e
      subst e
      rw [List.length_append, List.length_singleton] at hN hl
      obtain ⟨k, k1, k2, k3⟩ := reach h hd hi N v (by omega) (fun x hx => hu x (List.mem_append_left _ hx)) (by omega)
      have hd0 := hu d (List.mem_append_right _ (List.mem_singleton.2 rfl))
      obtain ⟨c, rfl⟩ : ∃ c : Nat, d = c := ⟨d.toNat, by omega⟩
      obtain ⟨k', e1, e2, e3⟩ := (hd k k1).2 c (by omega)
      rw [k2] at e2
      refine ⟨k', ?_, by rw [e2, runI_snoc, runI_snoc]; rfl, by rw [List.length_append, List.length_singleton]; omega⟩
      apply Classical.byContradiction
      intro hn
      have := h.mono i k' (by omega) e1
      omega
theorem apGo_spec (hw : Wf a b n m) (hw' : Wf a' b' n' m) : ∀ (K : Nat) (q : List (Int × Int)) (ws : List (List Int)) (i : Nat), ApMid a a' n n' m q ws i → Done a a' b b' m q ws i → i ≤ q.length → n * n' < K + i → ApSpec a b a' b' n n' m (apGo a b a' b' m K q ws i)
  | 0, q, ws, i, h, hd, hi, hK => by
    have := h.ok.size
    omega
  | K + 1, q, ws, i, h, hd, hi, hK => by
    rw [apGo]
    by_cases hlt : i < q.length
    · rw [if_pos hlt]
      by_cases hne : rdOf false b (q.getD i (0, 0)).1 ≠ rdOf false b' (q.getD i (0, 0)).2
      · rw [if_pos hne]
        obtain ⟨w1, w2, w3⟩ := h.word i hlt
        refine .inr ⟨rfl, w1, ?_, fun u hu hl => ?_⟩
        · show rdOf false b (runI a 0 (ws.getD i [])) ≠ rdOf false b' (runI a' 0 (ws.getD i []))
          rw [w2, w3]; exact hne
        · obtain ⟨k, k1, k2, _⟩ := reach h hd hlt u.length u rfl hu hl
          have := (hd k k1).1
          rw [k2] at this
          exact this
      · rw [if_neg hne]
        obtain ⟨h1, h2⟩ := apRow_mid hw hw' h hlt m (Nat.le_refl _)
        obtain ⟨r, s, hr, hs⟩ := apRow_pre a a' (q.getD i (0, 0)) (ws.getD i []) q ws m
        have hql : q.length ≤ (apRow a a' (q.getD i (0, 0)) (ws.getD i []) q ws m).1.length := by rw [hr, List.length_append]; omega
        have gq : ∀ j, j < q.length → (apRow a a' (q.getD i (0, 0)) (ws.getD i []) q ws m).1.getD j (0, 0) = q.getD j (0, 0) := fun j hj => by rw [hr, gd_pre hj]
        have gw : ∀ j, j < q.length → (apRow a a' (q.getD i (0, 0)) (ws.getD i []) q ws m).2.getD j [] = ws.getD j [] := fun j hj => by rw [hs, gd_pre (by rw [h.ok.len]; exact hj)]
        refine apGo_spec hw hw' K _ _ (i + 1) ⟨h1.ok, h1.head, h1.word, h1.mono, fun j hj hi2 => ?_⟩ (fun j hj => ?_) (by omega) (by omega)
        · have e1 := h1.near j hj (by omega)
          have e2 := h1.mono i (i + 1) (by omega) hi2
          omega
        · rw [gq j (by omega), gw j (by omega)]
          by_cases e : j = i
          · subst e
            exact ⟨Classical.byContradiction fun hs => hne hs, h2⟩
          · obtain ⟨d1, d2⟩ := hd j (by omega)
            refine ⟨d1, fun c hc => ?_⟩
            obtain ⟨k, k1, k2, k3⟩ := d2 c hc
            exact ⟨k, by omega, by rw [gq k k1]; exact k2, by rw [gw k k1]; exact k3⟩
    · rw [if_neg hlt]
      refine .inl ⟨rfl, q, by rw [← h.head.2.1]; exact gd_mem h.head.1, fun p hp => ⟨h.ok.lo p hp, ?_⟩⟩
      obtain ⟨j, hj, rfl⟩ := List.getElem_of_mem hp
      have e : q.getD j (0, 0) = q[j] := by rw [List.getD_eq_getElem?_getD, List.getElem?_eq_getElem hj]; rfl
      obtain ⟨d1, d2⟩ := hd j (by omega)
      rw [e] at d1 d2
      refine ⟨d1, fun c hc => ?_⟩
      obtain ⟨k, k1, k2, _⟩ := d2 c hc
      rw [← k2]
      exact gd_mem k1
theorem apart_spec {m : Nat} (hw : Wf a b a.length m) (hw' : Wf a' b' a'.length m) (hm : (rd_L1 a 0).length = m) : ApSpec a b a' b' a.length a'.length m (apartOf a b a' b') := by
  unfold apartOf
  rw [hm]
  refine apGo_spec hw hw' _ _ _ 0 ⟨QOk.start hw.one hw'.one, ⟨by simp, rfl, rfl⟩, fun j hj => ?_, fun j k hjk hk => ?_, fun j hj _ => ?_⟩ (fun j hj => absurd hj (by omega)) (by simp) (by omega)
  · obtain rfl : j = 0 := by simpa using hj
    exact ⟨fun c hc => by simp at hc, rfl, rfl⟩
  · obtain rfl : k = 0 := by simpa using hk
    obtain rfl : j = 0 := by omega
    exact Nat.le_refl _
  · obtain rfl : j = 0 := by simpa using hj
    simp
/-- No word tells them apart: they are alike, state by state. -/
theorem bis_of_false (hw : Wf a b n m) (hw' : Wf a' b' n' m) {r : List Int × Bool} (h : ApSpec a b a' b' n n' m r) (hr : r.2 = false) : ∃ R, Bis a b a' b' n n' m R := by
  rcases h with ⟨_, q, h0, hq⟩ | ⟨e, _⟩
  · refine ⟨fun s s' => ((s : Int), (s' : Int)) ∈ q, h0, fun s s' hs => ?_, fun s s' hs => (hq _ hs).2.1, fun s s' c hs hc => ?_⟩
    · have := (hq _ hs).1
      have h1 : (s : Int) < n := this.1.2
      have h2 : (s' : Int) < n' := this.2.2
      omega
    · have h1 := (hq _ hs).1
      have h2 : (s : Int) < n := h1.1.2
      have h3 : (s' : Int) < n' := h1.2.2
      have := (hq _ hs).2.2 c hc
      unfold apY at this
      rwa [(hw.nx (i := s) (by omega) hc).2, (hw'.nx (i := s') (by omega) hc).2] at this
  · rw [hr] at e; cases e
theorem Bis.word {R : Nat → Nat → Prop} (hw : Wf a b n m) (hw' : Wf a' b' n' m) (h : Bis a b a' b' n n' m R) {w : List Int} (hu : WordOk m w) : rdOf false b (runI a 0 w) = rdOf false b' (runI a' 0 w) := by
  obtain ⟨t, t', e1, e2, e3⟩ := h.run hw hw' w 0 0 hu h.zero
  rw [show (0 : Int) = ((0 : Nat) : Int) from rfl, e1, e2]
  exact h.finals t t' e3
end
end Go.Proofs.Ytadhjjfodpmelaa.Pure
