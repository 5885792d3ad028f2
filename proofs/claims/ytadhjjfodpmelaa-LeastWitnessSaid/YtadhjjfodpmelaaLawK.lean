/- What least.Least tells: its sizes; it hangs on which states are of one kind alone. -/
import Derived.Test.YtadhjjfodpmelaaLawC
import Derived.Test.YtadhjjfodpmelaaLeast
import Derived.Test.YtadhjjfodpmelaaAwakeF
namespace Go.Proofs.Ytadhjjfodpmelaa.Pure
open Go.RowKit Go.Proofs.Ytadhjjfodpmelaa.Print Go.Proofs.YtadhjjfodpmelaaW.PrintWords Go.Proofs.YtadhjjfodpmelaaW.PrintLast
set_option linter.unusedVariables false
set_option linter.unusedSimpArgs false

/-- The numbers tell only which states are of one kind. -/
theorem metO_kinds {k1 k2 o : List Int} {s : Int} (h : ∀ x ∈ o, (rd k1 x = rd k1 s ↔ rd k2 x = rd k2 s)) : metO k1 o s = metO k2 o s ∧ metV k1 o s = metV k2 o s := by
  have hm : rd k1 s ∈ o.map (rd k1) ↔ rd k2 s ∈ o.map (rd k2) := by
    rw [List.mem_map, List.mem_map]
    exact ⟨fun ⟨x, hx, e⟩ => ⟨x, hx, (h x hx).1 e⟩, fun ⟨x, hx, e⟩ => ⟨x, hx, (h x hx).2 e⟩⟩
  have hi : (o.map (rd k1)).idxOf (rd k1 s) = (o.map (rd k2)).idxOf (rd k2 s) := by
    clear hm
    induction o with
    | nil => rfl
    | cons y o ih =>
      have ih := ih (fun x hx => h x (List.mem_cons_of_mem _ hx))
      have hy := h y (List.mem_cons_self ..)
      rw [List.map_cons, List.map_cons, List.idxOf_cons, List.idxOf_cons, ih]
      by_cases q : rd k1 y = rd k1 s
      · rw [beq_iff_eq.2 q, beq_iff_eq.2 (hy.1 q)]
      · rw [beq_eq_false_iff_ne.2 q, beq_eq_false_iff_ne.2 (fun e => q (hy.2 e))]
  unfold metO metV
  by_cases q : rd k1 s ∈ o.map (rd k1)
  · rw [if_pos q, if_pos (hm.1 q), if_pos q, if_pos (hm.1 q), hi]; exact ⟨rfl, rfl⟩
  · rw [if_neg q, if_neg (fun e => q (hm.2 e)), if_neg q, if_neg (fun e => q (hm.2 e))]; exact ⟨rfl, rfl⟩

/-- What least.Least tells of states that are right. -/
theorem least_right {a : List (List Int)} {b : List Bool} (h : rightB a b = true) : ∃ kind, least_Least.f a b = some ((Print.leastOf a b kind).1, (Print.leastOf a b kind).2, 0) ∧ kind.length = a.length ∧ (∀ i k, i < a.length → k < a.length → (rd kind i = rd kind k ↔ ¬ Told a b (rd_L1 a 0).length i k)) := by
  obtain ⟨kind, h1, h2, h3, _⟩ := classes_spec (wf_of_right h)
  refine ⟨kind, ?_, h2, h3⟩
  unfold least_Least.f
  rw [if_pos h, h1, Option.map_some]
theorem ord_zero {n : Nat} {kind : List Int} (h : 1 ≤ n) : OrdOk n kind [0] := ⟨by simp, fun x hx => by simp at hx; subst hx; omega⟩
theorem least_not {a : List (List Int)} {b : List Bool} (h : rightB a b = false) : least_Least.f a b = some ([], [], 1) := by
  unfold least_Least.f
  rw [if_neg (by rw [h]; decide)]
/-- The sizes of what least.Least tells. -/
theorem leastGo_len (a : List (List Int)) (b : List Bool) (kind : List Int) : ∀ (k : Nat) (x : List (List Int)) (y : List Bool) (o : List Int), y.length = x.length → (leastGo a b kind k x y o).1.length ≤ x.length + k ∧ (leastGo a b kind k x y o).2.length = (leastGo a b kind k x y o).1.length
  | 0, x, y, o, h => by rw [leastGo]; exact ⟨Nat.le_refl _, h⟩
  | k + 1, x, y, o, h => by
    rw [leastGo]
    split
    · have := leastGo_len a b kind k (x ++ [(rowUp kind o (rd_L1 a (rd o x.length)) (rd_L1 a (rd o x.length)).length).1]) (y ++ [rdOf false b (rd o x.length)]) (rowUp kind o (rd_L1 a (rd o x.length)) (rd_L1 a (rd o x.length)).length).2 (by rw [List.length_append, List.length_append, h]; rfl)
      rw [List.length_append] at this
      exact ⟨by have h1 := this.1; simp only [List.length_singleton] at h1; omega, this.2⟩
    · exact ⟨by simp, h⟩
theorem leastGo_rows (a : List (List Int)) (b : List Bool) (kind : List Int) {M : Nat} (hM : ∀ i : Int, (rd_L1 a i).length ≤ M) : ∀ (k : Nat) (x : List (List Int)) (y : List Bool) (o : List Int), (∀ r ∈ x, r.length ≤ M) → ∀ r ∈ (leastGo a b kind k x y o).1, r.length ≤ M
  | 0, x, y, o, h => by rw [leastGo]; exact h
  | k + 1, x, y, o, h => by
    rw [leastGo]
    split
    · refine leastGo_rows a b kind hM k _ _ _ fun r hr => ?_
      rcases List.mem_append.1 hr with hr | hr
      · exact h r hr
      · rw [List.mem_singleton] at hr
        subst hr
        rw [rowUp_len]
        exact hM _
    · exact h
theorem rows_le {a : List (List Int)} {b : List Bool} {n m : Nat} (hw : Wf a b n m) (i : Int) : (rd_L1 a i).length ≤ 200 := by
  have hm := hw.m2
  by_cases q : i.toNat < n
  · have : rd_L1 a i = rd_L1 a (i.toNat : Nat) := by unfold rd_L1; rw [Int.toNat_natCast]
    rw [this, hw.row _ q]; exact hm
  · have hl := hw.len
    unfold rd_L1
    rw [List.getD_eq_getElem?_getD, List.getElem?_eq_none (by omega)]
    simp
theorem least_sizes {a : List (List Int)} {b : List Bool} {r : List (List Int) × List Bool × Int} (h : least_Least.f a b = some r) : r.1.length ≤ 5001 ∧ r.2.1.length = r.1.length ∧ ∀ x ∈ r.1, x.length ≤ 200 := by
  cases q : rightB a b with
  | false =>
    rw [least_not q] at h
    obtain rfl := Option.some.inj h
    exact ⟨by simp, rfl, fun x hx => by simp at hx⟩
  | true =>
    have hw := wf_of_right q
    obtain ⟨kind, h1, _⟩ := least_right q
    rw [h1] at h
    obtain rfl := Option.some.inj h
    have := leastGo_len a b kind (a.length + 1) [] [] [0] rfl
    have hm := hw.most
    exact ⟨by have h2 := this.1; show (leastGo a b kind (a.length + 1) [] [] [0]).1.length ≤ 5001; simp only [List.length_nil] at h2; omega, this.2, leastGo_rows a b kind (rows_le hw) _ _ _ _ (fun r hr => by simp at hr)⟩

theorem rowUp_kinds {n : Nat} {k1 k2 o l : List Int} (h : ∀ i k, i < n → k < n → (rd k1 i = rd k1 k ↔ rd k2 i = rd k2 k)) (ho : OrdOk n k1 o) (hl : ∀ x ∈ l, 0 ≤ x ∧ x < n) : ∀ j, j ≤ l.length → rowUp k1 o l j = rowUp k2 o l j
  | 0, _ => rfl
  | j + 1, hj => by
    have ih := rowUp_kinds h ho hl j (by omega)
    have hok := rowUp_ok ho hl j (by omega)
    have hs := hl _ (rd_mem (show j < l.length by omega))
    obtain ⟨e1, e2⟩ := metO_kinds (k1 := k1) (k2 := k2) (o := (rowUp k1 o l j).2) (s := rd l j) fun x hx => by
      have hx := hok.2 x hx
      have := h x.toNat (rd l j).toNat (by omega) (by omega)
      rwa [Int.toNat_of_nonneg hx.1, Int.toNat_of_nonneg hs.1] at this
    rw [rowUp, rowUp, e1, e2, ih]
theorem leastGo_kinds {a : List (List Int)} {b b2 : List Bool} {n m : Nat} (hw : Wf a b n m) (g : Bool → Bool) (hb : ∀ i, i < n → fin b2 i = g (fin b i)) {k1 k2 : List Int} (h : ∀ i k, i < n → k < n → (rd k1 i = rd k1 k ↔ rd k2 i = rd k2 k)) :
    ∀ (K : Nat) (x : List (List Int)) (y : List Bool) (o : List Int), OrdOk n k1 o → leastGo a b2 k2 K x (y.map g) o = ((leastGo a b k1 K x y o).1, (leastGo a b k1 K x y o).2.map g)
  | 0, x, y, o, ho => by rw [leastGo, leastGo]
  | K + 1, x, y, o, ho => by
    rw [leastGo, leastGo]
    by_cases q : x.length < o.length
    · rw [if_pos q, if_pos q]
      have hx := ho.2 _ (rd_mem q)
      obtain ⟨s, hs⟩ : ∃ s : Nat, rd o x.length = s := ⟨(rd o x.length).toNat, by omega⟩
      rw [hs]
      have hl := hw.lo s (by omega)
      have e := rowUp_kinds h ho hl _ (Nat.le_refl _)
      have hok := rowUp_ok ho hl _ (Nat.le_refl _)
      have ih := leastGo_kinds hw g hb h K (x ++ [(rowUp k1 o (rd_L1 a s) (rd_L1 a s).length).1]) (y ++ [rdOf false b s]) _ hok
      have hbs : rdOf false b2 s = g (rdOf false b s) := hb s (by omega)
      rw [← ih, List.map_append, ← e, hbs]
      rfl
    · rw [if_neg q, if_neg q]

end Go.Proofs.Ytadhjjfodpmelaa.Pure
