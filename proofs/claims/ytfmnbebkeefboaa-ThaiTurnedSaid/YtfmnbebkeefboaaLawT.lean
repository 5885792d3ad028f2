/- The law ThaiTurned: in which order words are told, and how often, plays no part. -/
import Derived.Test.YtfmnbebkeefboaaLawB
import Derived.Test.YtfmnbebkeefboaaPrint23
-- NEEDS scansionlaw20_ThaiTurned
namespace Go.Proofs.Ytfmnbebkeefboaa.Pure
open Go.RowKit Go.Proofs.Ytfmnbebkeefboaa.Print Go.Proofs.YtfmnbebkeefboaaW.PrintWords Go.Proofs.YtfmnbebkeefboaaW.PrintLast
set_option linter.unusedVariables false
set_option linter.unusedSimpArgs false

section
variable {T T' : Int → List Int} (h : ∀ a t, t ∈ T a ↔ t ∈ T' a)
include h
theorem nil_congr (a : Int) : T a = [] ↔ T' a = [] := by
  rw [List.eq_nil_iff_forall_not_mem, List.eq_nil_iff_forall_not_mem]
  exact ⟨fun q t ht => q t ((h a t).2 ht), fun q t ht => q t ((h a t).1 ht)⟩
theorem reach_congr : ∀ (k : Nat) (a : Int), Print.reachT T k a = Print.reachT T' k a
  | 0, a => rfl
  | k + 1, a => by
    rw [Print.reachT, Print.reachT, show Print.reachT T k = Print.reachT T' k from funext (reach_congr k)]
    exact top_congr _ _ (h a)
theorem gt_congr (a b : Int) : Gt T a b ↔ Gt T' a b := by
  unfold Gt
  rw [reach_congr h, reach_congr h]
theorem best_congr (a : Int) : bestT T a = bestT T' a := by
  by_cases q : T a = []
  · have q' := (nil_congr h a).1 q
    unfold bestT
    rw [q, q']
  · have q' : T' a ≠ [] := fun e => q ((nil_congr h a).2 e)
    obtain ⟨h1, h2⟩ := bestT_is q'
    exact (bestT_is q).one (T := T) ⟨h1, fun t ht hg => h2 t ht ((gt_congr h _ _).1 hg)⟩ (h a)
theorem skip_congr (n : Int) : ∀ (f : Nat) (a : Int), skipT T n f a = skipT T' n f a
  | 0, a => rfl
  | f + 1, a => by
    rw [skipT, skipT, skip_congr n f]
    by_cases q : a < n ∧ T a = []
    · rw [if_pos q, if_pos ⟨q.1, (nil_congr h a).1 q.2⟩]
    · rw [if_neg q, if_neg (fun e => q ⟨e.1, (nil_congr h a).2 e.2⟩)]
theorem next_congr (n a : Int) : nextP T n a = nextP T' n a := by
  unfold nextP
  by_cases q : T a = []
  · rw [if_pos q, if_pos ((nil_congr h a).1 q), skip_congr h]
  · rw [if_neg q, if_neg (fun e => q ((nil_congr h a).2 e)), best_congr h]
theorem parts_congr (n : Int) : ∀ (f : Nat) (a : Int), partsL T n f a = partsL T' n f a
  | 0, a => rfl
  | f + 1, a => by rw [partsL, partsL, next_congr h, parts_congr n f]
end
/-- Only which words there are plays a part. -/
theorem partsR_congr (n : Int) {l l' : List S31} (hl : l.length ≤ 1000) (hl' : l'.length ≤ 1000) (h1 : ∀ x ∈ l', ∃ y ∈ l, y.f0 = x.f0 ∧ y.f1 = x.f1) (h2 : ∀ y ∈ l, ∃ x ∈ l', y.f0 = x.f0 ∧ y.f1 = x.f1) : partsR n l = partsR n l' := by
  have mem : ∀ a t, t ∈ toL l a ↔ t ∈ toL l' a := fun a t => by
    unfold toL
    rw [List.mem_map, List.mem_map]
    constructor
    · rintro ⟨y, hy, rfl⟩
      obtain ⟨hy1, hy2⟩ := List.mem_filter.1 hy
      obtain ⟨x, hx, e1, e2⟩ := h2 y hy1
      exact ⟨x, List.mem_filter.2 ⟨hx, by rw [← e1]; exact hy2⟩, e2.symm⟩
    · rintro ⟨x, hx, rfl⟩
      obtain ⟨hx1, hx2⟩ := List.mem_filter.1 hx
      obtain ⟨y, hy, e1, e2⟩ := h1 x hx1
      exact ⟨y, List.mem_filter.2 ⟨hy, by rw [e1]; exact hx2⟩, e2⟩
  have ok : okT n l = okT n l' := by
    unfold okT limT
    rw [decide_eq_true (show l.length ≤ 100000 by omega), decide_eq_true (show l'.length ≤ 100000 by omega)]
    congr 1
    rw [Bool.eq_iff_iff, List.all_eq_true, List.all_eq_true]
    have sp : ∀ {x y : S31}, y.f0 = x.f0 → y.f1 = x.f1 → spanOk n x = spanOk n y := fun e1 e2 => by unfold spanOk; rw [e1, e2]
    constructor
    · intro q x hx
      obtain ⟨y, hy, e1, e2⟩ := h1 x hx
      rw [sp e1 e2]; exact q y hy
    · intro q y hy
      obtain ⟨x, hx, e1, e2⟩ := h2 y hy
      rw [← sp e1 e2]; exact q x hx
  unfold partsR
  rw [ok, parts_congr mem]
theorem ev_turned (n : Int) (l : List S31) (hl : l.length ≤ 60) : ∀ (c : Nat) (u : List S31), c ≤ l.length → l.length / 2 ≤ u.length → u.length + c ≤ 200 → (∀ x ∈ u.drop (l.length / 2), ∃ y ∈ l, y.f0 = x.f0 ∧ y.f1 = x.f1) → (∀ y ∈ l, y ∈ l.take c ∨ ∃ x ∈ u.drop (l.length / 2), y.f0 = x.f0 ∧ y.f1 = x.f1) →
    Ev (fun k => scansionlaw20_ThaiTurned.l0 k n l u ((c : Int) - 1)) true
  | 0, u, hc, hu, hs, h1, h2 => by
    have hd : (wrap64 ((l.length : Int) / 2)) = ((l.length / 2 : Nat) : Int) := by unfold wrap64; omega
    have he := partsR_congr n (l := l) (l' := u.drop (l.length / 2)) (by omega) (by rw [List.length_drop]; omega) h1 (fun y hy => by
      rcases h2 y hy with h | h
      · simp at h
      · exact h)
    have hsm := ev_sameInts (partsR n l).1 (partsR n l).1 (by have := partsR_len n l; omega)
    rw [decide_eq_true rfl] at hsm
    have h3 : Ev (fun k => (scansionref01_SameInts.f k (partsR n l).1 (partsR n l).1).bind fun t => (some t : Option Bool)) true := hsm.bind (g := fun _ t => some t) (Ev.some_ true)
    refine h3.succ fun k => ?_
    rw [scansionlaw20_ThaiTurned.l0, if_neg (by omega), hd]
    unfold thai_Parts.f
    rw [Option.bind_some, if_pos (by omega), if_pos (by omega), Int.toNat_natCast, ← he, Option.bind_some, if_pos rfl]
  | c + 1, u, hc, hu, hs, h1, h2 => by
    have hi : c < l.length := by omega
    obtain ⟨x, hx⟩ : ∃ x, rd_T31 l (c : Int) = x := ⟨_, rfl⟩
    have htk : l.take (c + 1) = l.take c ++ [x] := by rw [List.take_succ_eq_append_getElem hi, ← rd31 hi, hx]
    have hxm : x ∈ l := by rw [← hx, rd31 hi]; exact List.getElem_mem hi
    have hdr : ∀ z : S31, (u ++ [z]).drop (l.length / 2) = u.drop (l.length / 2) ++ [z] := fun z => List.drop_append_of_le_length hu
    have ih := ev_turned n l hl c (u ++ [(⟨x.f0, x.f1, Go.bits .xor .i64 x.f2 1⟩ : S31)]) (by omega) (by rw [List.length_append]; omega) (by rw [List.length_append, List.length_singleton]; omega) (fun z hz => by
      rw [hdr, List.mem_append, List.mem_singleton] at hz
      rcases hz with hz | rfl
      · exact h1 z hz
      · exact ⟨x, hxm, rfl, rfl⟩) (fun y hy => by
      rw [hdr]
      rcases h2 y hy with h | ⟨z, hz, e⟩
      · rw [htk, List.mem_append, List.mem_singleton] at h
        rcases h with h | rfl
        · exact .inl h
        · exact .inr ⟨_, List.mem_append.2 (.inr (List.mem_singleton.2 rfl)), rfl, rfl⟩
      · exact .inr ⟨z, List.mem_append.2 (.inl hz), e⟩)
    refine ih.succ fun k => ?_
    have e1 : (((c + 1 : Nat) : Int) - 1) = (c : Int) := by omega
    have hw : wrap64 ((c : Int) - 1) = (c : Int) - 1 := by unfold wrap64; omega
    rw [e1, scansionlaw20_ThaiTurned.l0, if_pos (by omega), if_pos (by omega), if_pos (by omega), if_pos (by omega), hx, hw]
theorem ThaiTurned (n : Int) (l : List S31) : ∃ k, scansionlaw20_ThaiTurned.f k n l = some true := by
  have h0 : Ev (fun k => scansionlaw20_ThaiTurned.j0 k n l true (!fewB n l)) true := by
    cases q : fewB n l with
    | false => exact (Ev.some_ true).succ fun k => by rw [scansionlaw20_ThaiTurned.j0, if_pos (by rfl)]
    | true =>
      have hl := few_len q
      have h := ev_turned n l hl.1 l.length l (Nat.le_refl _) (by omega) (by omega) (fun x hx => ⟨x, List.mem_of_mem_drop hx, rfl, rfl⟩) (fun y hy => .inl (by rw [List.take_length]; exact hy))
      refine h.succ fun k => ?_
      have hw : wrap64 ((l.length : Int) - 1) = (l.length : Int) - 1 := by unfold wrap64; omega
      rw [scansionlaw20_ThaiTurned.j0, if_neg (by simp), Option.bind_some, if_pos (by simp; omega), List.nil_append, hw]
  have h1 : Ev (fun k => scansionlaw20_ThaiTurned.f k n l) true := by
    refine (ev_awake.bind (g := fun k t => (scansionlaw20_few.f n l).bind fun t273 => (if t = true then (scansionlaw20_ThaiTurned.j0 k n l t (!t273)) else (scansionlaw20_ThaiTurned.j0 k n l t true))) (h0.congr fun k => ?_)).congr fun k => by rw [scansionlaw20_ThaiTurned.f]
    rw [few_is, Option.bind_some, if_pos rfl]
  obtain ⟨K, hK⟩ := h1
  exact ⟨K, hK K (Nat.le_refl _)⟩
end Go.Proofs.Ytfmnbebkeefboaa.Pure
