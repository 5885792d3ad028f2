/- The reference's fewest states are those of least.Least. -/
import Derived.Test.YtadhjjfodpmelaaPrint10
import Derived.Test.YtadhjjfodpmelaaPrint11
import Derived.Test.YtadhjjfodpmelaaLawS
import Derived.Test.YtadhjjfodpmelaaLawK
-- NEEDS scansionref13_place scansionref13_Least
namespace Go.Proofs.Ytadhjjfodpmelaa.Pure
open Go.RowKit Go.Proofs.Ytadhjjfodpmelaa.Print Go.Proofs.YtadhjjfodpmelaaW.PrintWords Go.Proofs.YtadhjjfodpmelaaW.PrintLast
set_option linter.unusedVariables false
set_option linter.unusedSimpArgs false

section
variable {a : List (List Int)} {b : List Bool} {n m : Nat} {S : List (List Bool)} {kind : List Int}

structure Tab (a : List (List Int)) (b : List Bool) (n m : Nat) (S : List (List Bool)) (kind : List Int) : Prop where
  len : S.length = n
  row : ∀ i, i < n → (rd_L4 S i).length = n
  ok : ∀ i k, i < n → k < n → (at2 S i k = true ↔ rd kind i ≠ rd kind k)

theorem place_l0 (hw : Wf a b n m) (ht : Tab a b n m S kind) {o : List Int} (ho : OrdOk n kind o) {s : Int} (hs : 0 ≤ s ∧ s < n) : ∀ (c i : Nat), i + c = o.length →
    Ev (fun k => scansionref13_place.l0 k S o s i) (if rd kind s ∈ (o.drop i).map (rd kind) then ((i + ((o.drop i).map (rd kind)).idxOf (rd kind s) : Nat) : Int) else -1)
  | 0, i, hi => by
    rw [List.drop_eq_nil_of_le (by omega), if_neg (by simp)]
    refine Ev.succ (Ev.some_ (-1)) fun k => ?_
    rw [scansionref13_place.l0, if_neg (by omega)]
  | c + 1, i, hi => by
    have hol := ho.len
    have hlen := ht.len
    have hm := hw.most
    have hx := ho.2 _ (rd_mem (show i < o.length by omega))
    obtain ⟨x, hxe⟩ : ∃ x : Nat, rd o i = x := ⟨(rd o i).toNat, by omega⟩
    obtain ⟨t, rfl⟩ : ∃ t : Nat, s = t := ⟨s.toNat, by omega⟩
    have hrow := ht.row x (by omega)
    have hok : rdOf false (rd_L4 S x) t = true ↔ rd kind (x : Int) ≠ rd kind (t : Int) := ht.ok x t (by omega) (by omega)
    have ih := place_l0 hw ht ho hs c (i + 1) (by omega)
    rw [rd_nat o i (by omega), List.map_cons, hxe]
    by_cases q : rd kind (x : Int) = rd kind (t : Int)
    · rw [if_pos (by rw [q]; exact List.mem_cons_self ..), q, List.idxOf_cons_self, Nat.add_zero]
      refine Ev.succ (Ev.some_ (i : Int)) fun k => ?_
      rw [scansionref13_place.l0, if_pos (by omega), if_pos (by omega), hxe, if_pos (by omega), if_pos (by omega), if_pos (by omega), if_pos (by omega), if_neg (fun h => hok.1 h q)]
    · have e : (if rd kind (t : Int) ∈ rd kind (x : Int) :: (o.drop (i + 1)).map (rd kind) then ((i + (rd kind (x : Int) :: (o.drop (i + 1)).map (rd kind)).idxOf (rd kind (t : Int)) : Nat) : Int) else -1) =
          (if rd kind (t : Int) ∈ (o.drop (i + 1)).map (rd kind) then ((i + 1 + ((o.drop (i + 1)).map (rd kind)).idxOf (rd kind (t : Int)) : Nat) : Int) else -1) := by
        by_cases p : rd kind (t : Int) ∈ (o.drop (i + 1)).map (rd kind)
        · rw [if_pos p, if_pos (List.mem_cons_of_mem _ p), List.idxOf_cons, beq_eq_false_iff_ne.2 q, cond_false]
          omega
        · rw [if_neg p, if_neg (fun h => (List.mem_cons.1 h).elim (fun e => q e.symm) p)]
      rw [e]
      refine Ev.succ ih fun k => ?_
      rw [scansionref13_place.l0, if_pos (by omega), if_pos (by omega), hxe, if_pos (by omega), if_pos (by omega), if_pos (by omega), if_pos (by omega), if_pos (hok.2 q), wrap_succ (by omega)]

theorem rowUp_rd {kind o l : List Int} {j i : Nat} (h : i < o.length) : rd (rowUp kind o l j).2 i = rd o i := by
  obtain ⟨r, hr⟩ := rowUp_pre kind o l j
  rw [hr, rd_pre h]
theorem least_l1 (hw : Wf a b n m) (ht : Tab a b n m S kind) {o : List Int} (ho : OrdOk n kind o) {i : Nat} (hi : i < o.length) {X : List (List Int)} {Y : List Bool} (hX : X.length = i) (hY : Y.length = i) {r : List (List Int) × List Bool × Int}
    (hc : Ev (fun k => scansionref13_Least.l0 k S (rowUp kind o (rd_L1 a (rd o i)) m).2 ((i + 1 : Nat) : Int) a b (X ++ [(rowUp kind o (rd_L1 a (rd o i)) m).1]) (Y ++ [rdOf false b (rd o i)])) r) :
    ∀ (c j : Nat), j + c = m → Ev (fun k => scansionref13_Least.l1 k S (rowUp kind o (rd_L1 a (rd o i)) j).2 i (rowUp kind o (rd_L1 a (rd o i)) j).1 j a b X Y) r := by
  have hol := ho.len
  have hm := hw.most
  have hm2 := hw.m2
  have hl := hw.len
  have hb := hw.blen
  have h1 := hw.one
  have hx := ho.2 _ (rd_mem hi)
  obtain ⟨x, hxe⟩ : ∃ x : Nat, rd o i = x := ⟨(rd o i).toNat, by omega⟩
  have h0 : (rd_L1 a 0).length = m := hw.row 0 (by omega)
  have hxr := hw.row x (by omega)
  have hup : ∀ j, j ≤ m → OrdOk n kind (rowUp kind o (rd_L1 a (rd o i)) j).2 := fun j hj => rowUp_ok ho (by rw [hxe]; exact hw.lo x (by omega)) j (by rw [hxe, hxr]; exact hj)
  intro c
  induction c with
  | zero =>
    intro j hj
    obtain rfl : j = m := hj
    have hi2 : i < (rowUp kind o (rd_L1 a (rd o i)) j).2.length := Nat.lt_of_lt_of_le hi (rowUp_mono kind o _ j)
    refine Ev.succ hc fun k => ?_
    rw [scansionref13_Least.l1, if_pos (by omega), if_neg (by omega), if_pos (by omega), if_pos (by omega), if_pos (by omega), rowUp_rd hi, if_pos (by omega), if_pos (by omega), if_pos (by omega), wrap_succ (by omega)]
  | succ c ih =>
    intro j hj
    have hi2 : i < (rowUp kind o (rd_L1 a (rd o i)) j).2.length := Nat.lt_of_lt_of_le hi (rowUp_mono kind o _ j)
    have hoj := hup j (by omega)
    have holj := hoj.len
    have hrl := rowUp_len kind o (rd_L1 a (rd o i)) j
    have hs : 0 ≤ rd (rd_L1 a (rd o i)) j ∧ rd (rd_L1 a (rd o i)) j < n := by
      rw [hxe]
      exact hw.lo x (by omega) _ (rd_mem (by omega))
    have hp := place_l0 hw ht hoj hs (rowUp kind o (rd_L1 a (rd o i)) j).2.length 0 (by omega)
    rw [List.drop_zero, Nat.zero_add] at hp
    refine Ev.succ (g := fun k => (scansionref13_place.f k S (rowUp kind o (rd_L1 a (rd o i)) j).2 (rd (rd_L1 a (rd o i)) j)).bind fun t201 => (if t201 < 0 then (if (rowUp kind o (rd_L1 a (rd o i)) j).2.length < 17592186044416 then (if (rowUp kind o (rd_L1 a (rd o i)) j).1.length < 17592186044416 then (scansionref13_Least.l1 k S ((rowUp kind o (rd_L1 a (rd o i)) j).2 ++ [rd (rd_L1 a (rd o i)) j]) i ((rowUp kind o (rd_L1 a (rd o i)) j).1 ++ [((rowUp kind o (rd_L1 a (rd o i)) j).2.length : Int)]) (wrap64 ((j : Int) + 1)) a b X Y) else (none)) else (none)) else (if (rowUp kind o (rd_L1 a (rd o i)) j).1.length < 17592186044416 then (scansionref13_Least.l1 k S (rowUp kind o (rd_L1 a (rd o i)) j).2 i ((rowUp kind o (rd_L1 a (rd o i)) j).1 ++ [t201]) (wrap64 ((j : Int) + 1)) a b X Y) else (none)))) (Ev.bind hp ?_) fun k => ?_
    · have ih := ih (j + 1) (by omega)
      rw [rowUp] at ih
      by_cases q : rd kind (rd (rd_L1 a (rd o i)) j) ∈ (rowUp kind o (rd_L1 a (rd o i)) j).2.map (rd kind)
      · rw [if_pos q]
        have e1 : metV kind (rowUp kind o (rd_L1 a (rd o i)) j).2 (rd (rd_L1 a (rd o i)) j) = (((rowUp kind o (rd_L1 a (rd o i)) j).2.map (rd kind)).idxOf (rd kind (rd (rd_L1 a (rd o i)) j)) : Int) := by unfold metV; rw [if_pos q]
        have e2 : metO kind (rowUp kind o (rd_L1 a (rd o i)) j).2 (rd (rd_L1 a (rd o i)) j) = (rowUp kind o (rd_L1 a (rd o i)) j).2 := by unfold metO; rw [if_pos q]
        rw [e1, e2] at ih
        refine Ev.congr ih fun k => ?_
        rw [if_neg (by omega), if_pos (by omega), wrap_succ (by omega)]
      · rw [if_neg q]
        have e1 : metV kind (rowUp kind o (rd_L1 a (rd o i)) j).2 (rd (rd_L1 a (rd o i)) j) = ((rowUp kind o (rd_L1 a (rd o i)) j).2.length : Int) := by unfold metV; rw [if_neg q]
        have e2 : metO kind (rowUp kind o (rd_L1 a (rd o i)) j).2 (rd (rd_L1 a (rd o i)) j) = (rowUp kind o (rd_L1 a (rd o i)) j).2 ++ [rd (rd_L1 a (rd o i)) j] := by unfold metO; rw [if_neg q]
        rw [e1, e2] at ih
        refine Ev.congr ih fun k => ?_
        rw [if_pos (by omega), if_pos (by omega), if_pos (by omega), wrap_succ (by omega)]
    · have hr1 : rd (rowUp kind o (rd_L1 a (rd o i)) j).2 i = rd o i := rowUp_rd hi
      have hxr2 : (rd_L1 a (rd o i)).length = m := by rw [hxe]; exact hxr
      rw [scansionref13_Least.l1, if_pos (by omega), if_pos (by omega), if_pos (by omega), if_pos (by omega), hr1, if_pos (by omega), if_pos (by omega), if_pos (by omega), if_pos (by omega)]
theorem least_l0 (hw : Wf a b n m) (ht : Tab a b n m S kind) : ∀ (c : Nat) (X : List (List Int)) (Y : List Bool) (o : List Int), OrdOk n kind o → Y.length = X.length → X.length ≤ o.length → n + 1 ≤ X.length + c →
    Ev (fun k => scansionref13_Least.l0 k S o X.length a b X Y) ((leastGo a b kind c X Y o).1, (leastGo a b kind c X Y o).2, 0)
  | 0, X, Y, o, ho, hY, hX, hc => by
    have := ho.len
    omega
  | c + 1, X, Y, o, ho, hY, hX, hc => by
    have hol := ho.len
    rw [leastGo]
    by_cases q : X.length < o.length
    · rw [if_pos q]
      have hx := ho.2 _ (rd_mem q)
      obtain ⟨x, hxe⟩ : ∃ x : Nat, rd o X.length = x := ⟨(rd o X.length).toNat, by omega⟩
      have hxr : (rd_L1 a (rd o X.length)).length = m := by rw [hxe]; exact hw.row x (by omega)
      rw [hxr]
      have hup : OrdOk n kind (rowUp kind o (rd_L1 a (rd o X.length)) m).2 := rowUp_ok ho (by rw [hxe]; exact hw.lo x (by omega)) m (by omega)
      have hmo := rowUp_mono kind o (rd_L1 a (rd o X.length)) m
      have ih := least_l0 hw ht c (X ++ [(rowUp kind o (rd_L1 a (rd o X.length)) m).1]) (Y ++ [rdOf false b (rd o X.length)]) _ hup (by rw [List.length_append, List.length_append, hY]; rfl) (by rw [List.length_append]; show X.length + 1 ≤ _; omega) (by rw [List.length_append]; show n + 1 ≤ X.length + 1 + c; omega)
      rw [List.length_append] at ih
      refine Ev.succ (least_l1 hw ht ho q rfl hY ih m 0 (by omega)) fun k => ?_
      rw [scansionref13_Least.l0, if_pos (by omega)]
      rfl
    · rw [if_neg q]
      refine Ev.succ (Ev.some_ _) fun k => ?_
      rw [scansionref13_Least.l0, if_neg (by omega)]

end

theorem ev_refLeast (a : List (List Int)) (b : List Bool) : ∃ r, least_Least.f a b = some r ∧ Ev (fun k => scansionref13_Least.f k a b) r := by
  have hr := ev_right a b
  cases q : rightB a b with
  | false =>
    refine ⟨_, least_not q, ?_⟩
    rw [q] at hr
    refine Ev.bind hr (Ev.congr (Ev.some_ _) fun k => ?_)
    rw [if_neg (by decide)]
  | true =>
    obtain ⟨kind, h1, h2, h3⟩ := least_right q
    have hw := wf_of_right q
    obtain ⟨S, hS, s1, s2, s3⟩ := split_ev hw
    refine ⟨_, h1, ?_⟩
    rw [q] at hr
    refine Ev.bind hr (Ev.congr (g := fun k => (scansionref13_split.f k a b).bind fun t190 => (scansionref13_Least.l0 k t190 (([0] : List Int)) 0 a b ([] : List (List Int)) ([] : List Bool))) (Ev.bind hS ?_) fun k => ?_)
    · exact least_l0 hw ⟨s1, s2, fun i k hi hk => by rw [s3 i k hi hk, ne_eq, h3 i k hi hk, Classical.not_not]⟩ (a.length + 1) [] [] [0] (ord_zero hw.one) rfl (by simp) (by simp)
    · rw [if_pos rfl]
end Go.Proofs.Ytadhjjfodpmelaa.Pure
