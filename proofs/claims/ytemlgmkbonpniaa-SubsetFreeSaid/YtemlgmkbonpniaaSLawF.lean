/- Plain law: what the states of subset.Build are, and where running through classes leads; free, more is reached. -/
import Derived.Test.YtemlgmkbonpniaaSLawR
import Derived.Test.YtemlgmkbonpniaaSLawMM
namespace Go.Proofs.Ytemlgmkbonpniaa.Print
open Go.RowKit Go.Maps Go.Proofs.YtemlgmkbonpniaaW.PrintWords Go.Proofs.YtemlgmkbonpniaaW.PrintLast Go.Proofs.YtemlgmkbonpniaaW.PrintMore
set_option linter.unusedVariables false
set_option linter.unusedSimpArgs false
section
variable (r : Bt) (masks : List Int) (free : Bool)
/-- A row tells of each sign which state is behind it. -/
def RowS (sts : List (List Int)) (p : Nat) (row : List Int) : Prop := row.length = masks.length ∧ ∀ j : Nat, j < masks.length → ∃ q : Nat, rd row (j : Int) = (q : Int) ∧ q < sts.length ∧ stR sts q = xOf r free (stR sts p) (rd masks (j : Int))
theorem RowS.grow {sts sts' : List (List Int)} {p : Nat} {row : List Int} (h : RowS r masks free sts p row) (hp : p < sts.length) (hl : sts.length ≤ sts'.length) (he : ∀ i, i < sts.length → stR sts' i = stR sts i) : RowS r masks free sts' p row := by
  refine ⟨h.1, fun j hj => ?_⟩
  obtain ⟨q, h1, h2, h3⟩ := h.2 j hj
  exact ⟨q, h1, by omega, by rw [he q h2, he p hp]; exact h3⟩
theorem rd_cons_zero (x : Int) (l : List Int) : rd (x :: l) ((0 : Nat) : Int) = x := rfl
theorem rd_cons_succ (x : Int) (l : List Int) (j : Nat) : rd (x :: l) ((j + 1 : Nat) : Int) = rd l (j : Int) := by
  unfold rd
  rw [Int.toNat_natCast, Int.toNat_natCast, List.getD_cons_succ]
theorem rowGo_sem (lim : Int) (a : List Int) : ∀ (ms : List Int) (sts : List (List Int)) (row : List Int) (t : List (List Int) × List Int), rowGo r free lim a ms sts row = some t →
    ∃ tl, t.2 = row ++ tl ∧ tl.length = ms.length ∧ sts.length ≤ t.1.length ∧ (∀ i, i < sts.length → stR t.1 i = stR sts i) ∧ ∀ j : Nat, j < ms.length → ∃ q : Nat, rd tl (j : Int) = (q : Int) ∧ q < t.1.length ∧ stR t.1 q = xOf r free a (rd ms (j : Int)) := by
  intro ms
  induction ms with
  | nil =>
    intro sts row t h
    rw [rowGo] at h
    rw [← Option.some.inj h]
    exact ⟨[], (List.append_nil _).symm, rfl, Nat.le_refl _, fun i _ => rfl, fun j hj => absurd hj (Nat.not_lt_zero j)⟩
  | cons m ms ih =>
    intro sts row t h
    rw [rowGo] at h
    split at h
    · cases h
    next hlim =>
      obtain ⟨tl, h1, h2, h3, h4, h5⟩ := ih _ _ _ h
      have hl := (metR_len sts (xOf r free a m)).1
      have hlt := metR_lt sts (xOf r free a m)
      refine ⟨((metR sts (xOf r free a m)).1 : Int) :: tl, by rw [h1, List.append_assoc]; rfl, by rw [List.length_cons, List.length_cons, h2], by omega, fun i hi => by rw [h4 i (by omega), metR_old sts _ hi], fun j hj => ?_⟩
      cases j with
      | zero => exact ⟨(metR sts (xOf r free a m)).1, rfl, by omega, by rw [h4 _ hlt, metR_is]; rfl⟩
      | succ j =>
        rw [List.length_cons] at hj
        obtain ⟨q, e1, e2, e3⟩ := h5 j (by omega)
        exact ⟨q, by rw [rd_cons_succ]; exact e1, e2, by rw [rd_cons_succ]; exact e3⟩
/-- The states. -/
structure DS (fs N : List (List Int)) (F : List Bool) : Prop where
  len : fs.length = N.length
  fl : F.length = N.length
  row : ∀ p, p < N.length → RowS r masks free fs p (stR N p)
  fin : ∀ p, p < N.length → F.getD p false = endR r.1 r.2.2.2.1 (stR fs p)
theorem getD_snoc {α : Type} (l : List α) (x d : α) (p : Nat) : (l ++ [x]).getD p d = if p < l.length then l.getD p d else if p = l.length then x else d := by
  rw [List.getD_eq_getElem?_getD, List.getD_eq_getElem?_getD]
  by_cases q : p < l.length
  · rw [if_pos q, List.getElem?_append_left q]
  · rw [if_neg q, List.getElem?_append_right (by omega)]
    by_cases q2 : p = l.length
    · rw [if_pos q2, q2, Nat.sub_self]; rfl
    · rw [if_neg q2, List.getElem?_eq_none (by simp; omega)]; rfl
theorem goD_sem (lim : Int) : ∀ (k s : Nat) (sts next : List (List Int)) (fin : List Bool) (N : List (List Int)) (F : List Bool), goD r free lim masks k s sts next fin = (N, F, 0) → s ≤ sts.length → next.length = s → fin.length = s →
    (∀ p, p < s → RowS r masks free sts p (stR next p) ∧ fin.getD p false = endR r.1 r.2.2.2.1 (stR sts p)) → ∃ fs, (∀ i, i < sts.length → stR fs i = stR sts i) ∧ sts.length ≤ fs.length ∧ DS r masks free fs N F := by
  intro k
  induction k with
  | zero => intro s sts next fin N F h _ _ _ _; rw [goD] at h; have := (Prod.mk.inj (Prod.mk.inj h).2).2; cases this
  | succ k ih =>
    intro s sts next fin N F h hs hn hf hi
    rw [goD] at h
    split at h
    next hlt =>
      cases e : rowGo r free lim (stR sts s) masks sts [] with
      | none => rw [e] at h; have := (Prod.mk.inj (Prod.mk.inj h).2).2; cases this
      | some t =>
        rw [e] at h
        obtain ⟨tl, h1, h2, h3, h4, h5⟩ := rowGo_sem _ _ _ _ _ _ _ _ e
        rw [List.nil_append] at h1
        obtain ⟨fs, g1, g2, g3⟩ := ih (s + 1) t.1 (next ++ [t.2]) (fin ++ [endR r.1 r.2.2.2.1 (stR sts s)]) N F h (by omega) (by rw [List.length_append, hn]; rfl) (by rw [List.length_append, hf]; rfl) (fun p hp => by
          have e1 : stR (next ++ [t.2]) p = if p < s then stR next p else t.2 := by
            unfold stR
            rw [getD_snoc, hn]
            by_cases q : p < s
            · rw [if_pos q, if_pos q]
            · rw [if_neg q, if_neg q, if_pos (by omega)]
          have e2 : (fin ++ [endR r.1 r.2.2.2.1 (stR sts s)]).getD p false = if p < s then fin.getD p false else endR r.1 r.2.2.2.1 (stR sts s) := by
            rw [getD_snoc, hf]
            by_cases q : p < s
            · rw [if_pos q, if_pos q]
            · rw [if_neg q, if_neg q, if_pos (by omega)]
          rw [e1, e2, h4 p (by omega)]
          by_cases q : p < s
          · rw [if_pos q, if_pos q]
            exact ⟨RowS.grow r masks free (hi p q).1 (by omega) h3 h4, (hi p q).2⟩
          · obtain rfl : p = s := by omega
            rw [if_neg q, if_neg q]
            refine ⟨⟨by rw [h1]; exact h2, fun j hj => ?_⟩, rfl⟩
            obtain ⟨q', f1, f2, f3⟩ := h5 j hj
            exact ⟨q', by rw [h1]; exact f1, f2, by rw [h4 p hlt]; exact f3⟩)
        exact ⟨fs, fun i hi => by rw [g1 i (by omega), h4 i hi], by omega, g3⟩
    next hge =>
      obtain ⟨e1, e2⟩ := Prod.mk.inj h
      obtain ⟨e2, _⟩ := Prod.mk.inj e2
      subst e1 e2
      have hsl : sts.length = next.length := by omega
      exact ⟨sts, fun i _ => rfl, Nat.le_refl _, hsl, by omega, fun p hp => (hi p (by omega)).1, fun p hp => (hi p (by omega)).2⟩
theorem subsetR_sem (lim : Int) {N : List (List Int)} {F : List Bool} (h : subsetR r masks free lim = (N, F, 0)) : ∃ fs, DS r masks free fs N F ∧ stR fs 0 = [0] := by
  unfold subsetR at h
  split at h
  · have := (Prod.mk.inj (Prod.mk.inj h).2).2; cases this
  · obtain ⟨fs, g1, g2, g3⟩ := goD_sem r masks free lim _ 0 [[0]] [] [] N F h (by simp) rfl rfl (fun p hp => absurd hp (Nat.not_lt_zero p))
    exact ⟨fs, g3, g1 0 (by simp)⟩
/-- Where one stands behind classes. -/
def behind (st : List Int) (cl : List Int) : List Int := cl.foldl (fun a c => xOf r free a (rd masks c)) st
theorem run_sem {fs N : List (List Int)} {F : List Bool} (h : DS r masks free fs N F) : ∀ (cl : List Int) (a : Nat), a < N.length → (∀ c ∈ cl, 0 ≤ c ∧ c < (masks.length : Int)) → ∃ b : Nat, runGo N (a : Int) cl = ((b : Int), 0) ∧ b < N.length ∧ stR fs b = behind r masks free (stR fs a) cl := by
  intro cl
  induction cl with
  | nil => intro a ha _; exact ⟨a, by rw [runGo], ha, rfl⟩
  | cons c cl ih =>
    intro a ha hc
    obtain ⟨c1, c2⟩ := hc c List.mem_cons_self
    have h0 : (rd_L3 N 0).length = masks.length := (h.row 0 (by omega)).1
    obtain ⟨q, e1, e2, e3⟩ := (h.row a ha).2 c.toNat (by omega)
    rw [show ((c.toNat : Nat) : Int) = c by omega] at e1 e3
    have hl := h.len
    obtain ⟨b, g1, g2, g3⟩ := ih q (by omega) (fun c hc' => hc c (List.mem_cons_of_mem _ hc'))
    refine ⟨b, ?_, g2, ?_⟩
    · rw [runGo, if_neg (by omega), show rd_L3 N (a : Int) = stR N a from rfl, e1]
      exact g1
    · rw [g3, e3]; rfl
theorem runD_sem {fs N : List (List Int)} {F : List Bool} (h : DS r masks free fs N F) (hR : rightD N F = true) (h0 : stR fs 0 = [0]) (cl : List Int) (hc : ∀ c ∈ cl, 0 ≤ c ∧ c < (masks.length : Int)) : ∃ b : Nat, runD N F 0 cl = ((b : Int), 0) ∧ b < N.length ∧ F.getD b false = endR r.1 r.2.2.2.1 (behind r masks free [0] cl) := by
  have hn := ((rightD_iff N F).1 hR).n1
  obtain ⟨b, g1, g2, g3⟩ := run_sem r masks free h cl 0 (by omega) hc
  refine ⟨b, ?_, g2, ?_⟩
  · unfold runD
    rw [if_neg (by rintro (h | h | h); rw [hR] at h; cases h; omega; omega)]
    exact g1
  · rw [h.fin b g2, g3, h0]
end
/-! ### free, more is reached -/
theorem stepR_mem {r : Bt} {a : List Int} {m q : Int} : q ∈ stepR r.2.1 r.2.2.1 r.2.2.2.2.1 a m ↔ q ∈ allR r.2.2.1 r.2.2.2.2.1 a ∧ oddN r.2.1 m q = false := by
  unfold stepR withR
  rw [List.mem_filter, compact_mem, sortI_mem, List.append_nil, Bool.not_eq_true']
theorem allR_mono {first : List Int} {fol : List (List Int)} {a b : List Int} (h : ∀ t ∈ a, t ∈ b) : ∀ q ∈ allR first fol a, q ∈ allR first fol b := by
  intro q hq
  unfold allR at hq ⊢
  rw [List.mem_flatten] at hq ⊢
  obtain ⟨l, hl, hq⟩ := hq
  obtain ⟨t, ht, rfl⟩ := List.mem_map.1 hl
  exact ⟨_, List.mem_map.2 ⟨t, h t ht, rfl⟩, hq⟩
theorem xOf_mono (r : Bt) {a b : List Int} (h : ∀ t ∈ a, t ∈ b) (m : Int) : ∀ t ∈ xOf r false a m, t ∈ xOf r true b m := by
  intro t ht
  unfold xOf at ht ⊢
  rw [if_neg (by decide)] at ht
  rw [if_pos rfl]
  rw [stepR_mem] at ht
  exact List.mem_cons_of_mem _ (stepR_mem.2 ⟨allR_mono h t ht.1, ht.2⟩)
theorem behind_mono (r : Bt) (masks : List Int) : ∀ (cl : List Int) (a b : List Int), (∀ t ∈ a, t ∈ b) → ∀ t ∈ behind r masks false a cl, t ∈ behind r masks true b cl := by
  intro cl
  induction cl with
  | nil => intro a b h; exact h
  | cons c cl ih => intro a b h; exact ih _ _ (xOf_mono r h _)
theorem behind_zero (r : Bt) (masks : List Int) : ∀ (cl : List Int) (a : List Int), 0 ∈ a → 0 ∈ behind r masks true a cl := by
  intro cl
  induction cl with
  | nil => intro a h; exact h
  | cons c cl ih =>
    intro a h
    refine ih _ (show 0 ∈ xOf r true a (rd masks c) from ?_)
    unfold xOf
    rw [if_pos rfl]
    exact List.mem_cons_self
theorem behind_append (r : Bt) (masks : List Int) (free : Bool) (x y a : List Int) : behind r masks free a (x ++ y) = behind r masks free (behind r masks free a x) y := by
  unfold behind
  rw [List.foldl_append]
theorem endR_mono (nl : Bool) (last : List Int) {a b : List Int} (h : ∀ t ∈ a, t ∈ b) (he : endR nl last a = true) : endR nl last b = true := by
  unfold endR at he ⊢
  rw [List.any_eq_true] at he ⊢
  obtain ⟨t, ht, hp⟩ := he
  exact ⟨t, h t ht, hp⟩
theorem free_law (r : Bt) (masks ahead cl : List Int) : (!endR r.1 r.2.2.2.1 (behind r masks false [0] cl) || endR r.1 r.2.2.2.1 (behind r masks true [0] (ahead ++ cl))) = true := by
  cases e : endR r.1 r.2.2.2.1 (behind r masks false [0] cl) with
  | false => rfl
  | true =>
    have h0 : ∀ t ∈ ([0] : List Int), t ∈ behind r masks true [0] ahead := fun t ht => by
      rw [List.mem_singleton.1 ht]
      exact behind_zero r masks ahead [0] List.mem_cons_self
    have h := endR_mono r.1 r.2.2.2.1 (behind_mono r masks cl _ _ h0) e
    rw [behind_append, h]
    rfl
end Go.Proofs.Ytemlgmkbonpniaa.Print
