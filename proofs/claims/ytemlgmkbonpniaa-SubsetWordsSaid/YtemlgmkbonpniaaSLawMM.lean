/- Plain laws of chapter 12: states that may be. · Plain law: the states of subset.Build are met one behind the other; SubsetMet. -/
import Derived.Test.YtemlgmkbonpniaaPrint0
import Derived.Test.YtemlgmkbonpniaaPrint18
import Derived.Test.YtemlgmkbonpniaaSRight
import Derived.Test.YtemlgmkbonpniaaFLawA
import Derived.Test.YtemlgmkbonpniaaSBuild
-- Written by a program of this session (wip/sp.py) out of the translation.
namespace Go.Proofs.Ytemlgmkbonpniaa.Print
open Go.RowKit Go.Proofs.YtemlgmkbonpniaaW.PrintWords Go.Proofs.YtemlgmkbonpniaaW.PrintLast Go.Proofs.YtemlgmkbonpniaaW.PrintMore
attribute [local go_sem] max2_int min2_int max_two min_two max_three min_three max_four min_four   -- for this text's walks alone
set_option linter.unusedVariables false
set_option linter.unusedSimpArgs false

/-! ### scansionlaw12_few: function 31 -/
def scansionlaw12_few.f (k : Nat) (a0_0 : Int) (a0_1 : Int) (l0_2 : List (S24)) (l1 : List Int) : Option (Bool) := (scansionref08_Nodes.f k a0_0 a0_1 l0_2 25 10).bind fun t664 => (if t664 < 25 then (some (decide ((l1.length : Int) ≤ 12))) else (some false))
theorem scansionlaw12_few.mono : ∀ a0 a1 a2 a3 k, LeO (scansionlaw12_few.f k a0 a1 a2 a3) (scansionlaw12_few.f (k + 1) a0 a1 a2 a3) := by
 intro a0 a1 a2 a3 k
 unfold scansionlaw12_few.f
 repeat' first
   | (with_reducible exact scansionref08_Nodes.mono _ _ _ _ _ _)
   | (with_reducible exact LeO.refl _)
   | (with_reducible exact LeO.none _)
   | (with_reducible refine LeO.ite ?_ ?_)
   | (with_reducible refine LeO.bind ?_ (fun _ => ?_))
   | exact scansionref08_Nodes.mono _ _ _ _ _ _
   | exact LeO.none _
   | refine LeO.ite ?_ ?_
   | refine LeO.bind ?_ (fun _ => ?_)
set_option maxHeartbeats 8000000 in
set_option maxRecDepth 100000 in
theorem scansionlaw12_few.calls (k : Nat) (a0_0 : Int) (a0_1 : Int) (A0_2 : Option Addr) (c0_2 : Nat) (l0_2 : List (S24)) (A1 : Option Addr) (c1 : Nat) (l1 : List Int) (r : Bool) (w : World) (hr0_2 : Kd.C k24 w A0_2 l0_2.length l0_2) (hc0_2 : l0_2.length ≤ c0_2) (hr1 : Kd.C (Kd.int .u64) w A1 l1.length l1) (hc1 : l1.length ≤ c1) (h : scansionlaw12_few.f k a0_0 a0_1 l0_2 l1 = some r) :
  Calls Try.prog 31 #[.agg #[.int .i64 a0_0, .int .i64 a0_1, .slice A0_2 l0_2.length c0_2], .slice A1 l1.length c1] w fun e w' => e = .returned (.bool r) ∧ Below w.heap.size w w' := by
 have hu24 := Try.underlying24
 have HR0_2 := Aside0.mk hr0_2
 have HC0_2 := Aside0.mk hc0_2
 clear hr0_2 hc0_2
 have HR1 := Aside0.mk hr1
 have HC1 := Aside0.mk hc1
 clear hr1 hc1
 have HB := Aside0.mk (Below.refl w.heap.size w)
 have H : ((scansionref08_Nodes.f k a0_0 a0_1 l0_2 25 10).bind fun t664 => (if t664 < 25 then (some (decide ((l1.length : Int) ≤ 12))) else (some false))) = some r := h
 clear h
 replace H := Option.bind_eq_some_iff.mp H
 obtain ⟨t664, A30, H⟩ := H
 replace H : (if t664 < 25 then (some (decide ((l1.length : Int) ≤ 12))) else (some false)) = some r := H
 have A3 := Aside0.mk A30
 clear A30
 by_cases c4 : t664 < 25
 ·rw [if_pos c4] at H
  have c4b0 : decide (t664 < 25) = true := decide_eq_true c4
  clear c4
  obtain rfl := Option.some.inj H
  go_enter Try.func31, Try.ntmps31
  go_wp2_with (first | ((with_reducible refine gate_dst (N := 2) rfl ?_); (try (refine gate_guard (by rfl) ?_; dsimp only)); refine box_event ?hg (N := 2) ?hd (cs := #[.int .i64 a0_0, .int .i64 a0_1, .slice A0_2 l0_2.length c0_2]) (t := 24) ?hr ?_; (case hd => rfl); (case hg => rfl); (case hr => first | (go_simp; done) | (go_simp; rfl)); intro gb663 hg w5 hbox hb; have n0_ := Aside0.mk (below_step (by repeat (first | (with_reducible first | exact HB.out | apply below_alloc | apply pw_below_drewN | apply below_drew1) | exact HB.out)) hb); have n1_ := Aside0.mk (hbox); have n2_ := Aside0.mk ((by rw [hg]; exact (below_size (by repeat (first | (with_reducible first | exact HB.out | apply below_alloc | apply pw_below_drewN | apply below_drew1) | exact HB.out))) : w.heap.size ≤ gb663)); have n3_ := Aside0.mk ((by rw [hg]; exact (below_size (by repeat (first | (with_reducible first | exact HB.out | apply below_alloc | apply pw_below_drewN | apply below_drew1) | exact HB.out))) : w.heap.size ≤ gb663)); clear HB; have HB := n0_; have BK663 := n1_; have GW663 := n2_; have GE663 := n3_; clear n0_ n1_ n2_ n3_; clear hb hbox hg; have hcz6_0 : w5.cell? ⟨gb663, 0, none⟩ = some (.int .i64 a0_0) := (blk_cell BK663.out 0).trans rfl; have hcz6_1 : w5.cell? ⟨gb663, 1, none⟩ = some (.int .i64 a0_1) := (blk_cell BK663.out 1).trans rfl; have hcz6_2 : w5.cell? ⟨gb663, 2, none⟩ = some (.slice A0_2 l0_2.length c0_2) := (blk_cell BK663.out 2).trans rfl; have hfz6_0 := blk_frozen BK663.out 0; have hfz6_1 := blk_frozen BK663.out 1; have hfz6_2 := blk_frozen BK663.out 2) | ((with_reducible refine gate_callee (f := 17) rfl ?_); refine goesL_ (some 6) rfl rfl Try.func17 (by kernel_rfl) rfl #[.agg #[.int .i64 a0_0, .int .i64 a0_1, .slice A0_2 l0_2.length c0_2], .int .i64 25, .int .i64 10] rfl (by (try simp only [List.map_toArray, List.map_cons, List.map_nil]); first | done | rfl | (simp only [List.length_drop, List.length_take]; rfl)) ?_; (with_reducible refine (scansionref08_Nodes.calls k a0_0 a0_1 _ _ l0_2 25 10 t664 _ ?side1 ?side2 A3.out).mono ?_); (case side1 => repeat (first | exact (Kd.C_below HR0_2.out HB.out) | (with_reducible refine Kd.C_alloc ?_ _) | (with_reducible refine Kd.C_drewN ?_ _) | (with_reducible refine Kd.C_drew ?_))); (case side2 => exact HC0_2.out); rintro e w7 ⟨rfl, hb⟩; refine ⟨_, rfl, ?_⟩; have n0_ := Aside0.mk (blk_below (g := gb663) (o := .cells #[.int .i64 a0_0, .int .i64 a0_1, .slice A0_2 l0_2.length c0_2] 24 (0, 0)) (by (with_reducible repeat (first | refine blk_drewN ?_ _ | refine blk_drew ?_ | refine blk_alloc ?_ _)); exact BK663.out) hb); have n1_ := Aside0.mk (below_step (by repeat (first | (with_reducible first | exact HB.out | apply below_alloc | apply pw_below_drewN | apply below_drew1 | refine below_set ?_ GE663.out) | exact HB.out)) hb); clear BK663; clear HB; have BK663 := n0_; have HB := n1_; clear n0_ n1_; (try clear hb); (try clear hb2); (try clear hk); (try clear hi)))
  go_ret
  exact ⟨by first | rfl | (simp [errW_none, errW_some] <;> rfl) | (simp [*, errW_none, errW_some] <;> rfl), by repeat (first | (with_reducible first | exact HB.out | apply below_alloc | apply pw_below_drewN | apply below_drew1 | refine below_set ?_ GE663.out) | exact HB.out)⟩
 ·rw [if_neg c4] at H
  have c4b0 : decide (t664 < 25) = false := decide_eq_false c4
  clear c4
  obtain rfl := Option.some.inj H
  go_enter Try.func31, Try.ntmps31
  go_wp2_with (first | ((with_reducible refine gate_dst (N := 2) rfl ?_); (try (refine gate_guard (by rfl) ?_; dsimp only)); refine box_event ?hg (N := 2) ?hd (cs := #[.int .i64 a0_0, .int .i64 a0_1, .slice A0_2 l0_2.length c0_2]) (t := 24) ?hr ?_; (case hd => rfl); (case hg => rfl); (case hr => first | (go_simp; done) | (go_simp; rfl)); intro gb663 hg w8 hbox hb; have n0_ := Aside0.mk (below_step (by repeat (first | (with_reducible first | exact HB.out | apply below_alloc | apply pw_below_drewN | apply below_drew1) | exact HB.out)) hb); have n1_ := Aside0.mk (hbox); have n2_ := Aside0.mk ((by rw [hg]; exact (below_size (by repeat (first | (with_reducible first | exact HB.out | apply below_alloc | apply pw_below_drewN | apply below_drew1) | exact HB.out))) : w.heap.size ≤ gb663)); have n3_ := Aside0.mk ((by rw [hg]; exact (below_size (by repeat (first | (with_reducible first | exact HB.out | apply below_alloc | apply pw_below_drewN | apply below_drew1) | exact HB.out))) : w.heap.size ≤ gb663)); clear HB; have HB := n0_; have BK663 := n1_; have GW663 := n2_; have GE663 := n3_; clear n0_ n1_ n2_ n3_; clear hb hbox hg; have hcz9_0 : w8.cell? ⟨gb663, 0, none⟩ = some (.int .i64 a0_0) := (blk_cell BK663.out 0).trans rfl; have hcz9_1 : w8.cell? ⟨gb663, 1, none⟩ = some (.int .i64 a0_1) := (blk_cell BK663.out 1).trans rfl; have hcz9_2 : w8.cell? ⟨gb663, 2, none⟩ = some (.slice A0_2 l0_2.length c0_2) := (blk_cell BK663.out 2).trans rfl; have hfz9_0 := blk_frozen BK663.out 0; have hfz9_1 := blk_frozen BK663.out 1; have hfz9_2 := blk_frozen BK663.out 2) | ((with_reducible refine gate_callee (f := 17) rfl ?_); refine goesL_ (some 6) rfl rfl Try.func17 (by kernel_rfl) rfl #[.agg #[.int .i64 a0_0, .int .i64 a0_1, .slice A0_2 l0_2.length c0_2], .int .i64 25, .int .i64 10] rfl (by (try simp only [List.map_toArray, List.map_cons, List.map_nil]); first | done | rfl | (simp only [List.length_drop, List.length_take]; rfl)) ?_; (with_reducible refine (scansionref08_Nodes.calls k a0_0 a0_1 _ _ l0_2 25 10 t664 _ ?side1 ?side2 A3.out).mono ?_); (case side1 => repeat (first | exact (Kd.C_below HR0_2.out HB.out) | (with_reducible refine Kd.C_alloc ?_ _) | (with_reducible refine Kd.C_drewN ?_ _) | (with_reducible refine Kd.C_drew ?_))); (case side2 => exact HC0_2.out); rintro e w10 ⟨rfl, hb⟩; refine ⟨_, rfl, ?_⟩; have n0_ := Aside0.mk (blk_below (g := gb663) (o := .cells #[.int .i64 a0_0, .int .i64 a0_1, .slice A0_2 l0_2.length c0_2] 24 (0, 0)) (by (with_reducible repeat (first | refine blk_drewN ?_ _ | refine blk_drew ?_ | refine blk_alloc ?_ _)); exact BK663.out) hb); have n1_ := Aside0.mk (below_step (by repeat (first | (with_reducible first | exact HB.out | apply below_alloc | apply pw_below_drewN | apply below_drew1 | refine below_set ?_ GE663.out) | exact HB.out)) hb); clear BK663; clear HB; have BK663 := n0_; have HB := n1_; clear n0_ n1_; (try clear hb); (try clear hb2); (try clear hk); (try clear hi)))
  go_ret
  exact ⟨by first | rfl | (simp [errW_none, errW_some] <;> rfl) | (simp [*, errW_none, errW_some] <;> rfl), by repeat (first | (with_reducible first | exact HB.out | apply below_alloc | apply pw_below_drewN | apply below_drew1 | refine below_set ?_ GE663.out) | exact HB.out)⟩

end Go.Proofs.Ytemlgmkbonpniaa.Print

namespace Go.Proofs.Ytemlgmkbonpniaa.Print
open Go.RowKit Go.Maps Go.Proofs.YtemlgmkbonpniaaW.PrintWords Go.Proofs.YtemlgmkbonpniaaW.PrintLast Go.Proofs.YtemlgmkbonpniaaW.PrintMore
set_option linter.unusedVariables false
set_option linter.unusedSimpArgs false
/-- States that may be. -/
structure RightP (nx : List (List Int)) (fin : List Bool) : Prop where
 n1 : 1 ≤ nx.length
 n2 : nx.length ≤ 5000
 fl : fin.length = nx.length
 c1 : 1 ≤ (rd_L3 nx 0).length
 c2 : (rd_L3 nx 0).length ≤ 200
 row : ∀ r ∈ nx, r.length = (rd_L3 nx 0).length ∧ ∀ s ∈ r, 0 ≤ s ∧ s < (nx.length : Int)
theorem bad_iff (n c : Nat) (r : List Int) : SR.badS n c r = false ↔ r.length = c ∧ ∀ s ∈ r, 0 ≤ s ∧ s < (n : Int) := by
 unfold SR.badS SR.oddS
 rw [Bool.or_eq_false_iff, decide_eq_false_iff_not, List.any_eq_false]
 constructor
 ·rintro ⟨h1, h2⟩
  refine ⟨Classical.not_not.1 h1, fun s hs => ?_⟩
  have := h2 s hs
  simp at this
  omega
 ·rintro ⟨h1, h2⟩
  refine ⟨fun h => h h1, fun s hs => ?_⟩
  have := h2 s hs
  simp
  omega
theorem rightD_iff (nx : List (List Int)) (fin : List Bool) : rightD nx fin = true ↔ RightP nx fin := by
 unfold rightD
 simp only [Bool.and_eq_true, decide_eq_true_eq, Bool.not_eq_true', List.any_eq_false, Bool.not_eq_true]
 constructor
 ·rintro ⟨⟨⟨⟨⟨h1, h2⟩, h3⟩, h4⟩, h5⟩, h6⟩
  exact ⟨h1, h2, h3, h4, h5, fun r hr => (bad_iff _ _ _).1 (h6 r hr)⟩
 ·intro h
  exact ⟨⟨⟨⟨⟨h.n1, h.n2⟩, h.fl⟩, h.c1⟩, h.c2⟩, fun r hr => (bad_iff _ _ _).2 (h.row r hr)⟩
theorem row_at {nx : List (List Int)} {a : Int} (h0 : 0 ≤ a) (h1 : a < (nx.length : Int)) : rd_L3 nx a ∈ nx := by
 unfold rd_L3
 rw [List.getD_eq_getElem?_getD, List.getElem?_eq_getElem (by omega)]
 exact List.getElem_mem _
theorem rd_at {l : List Int} {c : Int} (h0 : 0 ≤ c) (h1 : c < (l.length : Int)) : rd l c ∈ l := by
 unfold rd
 rw [List.getD_eq_getElem?_getD, List.getElem?_eq_getElem (by omega)]
 exact List.getElem_mem _
theorem RightP.next {nx : List (List Int)} {fin : List Bool} (h : RightP nx fin) {a c : Int} (h0 : 0 ≤ a) (h1 : a < (nx.length : Int)) (h2 : 0 ≤ c) (h3 : c < ((rd_L3 nx 0).length : Int)) : c < ((rd_L3 nx a).length : Int) ∧ 0 ≤ rd (rd_L3 nx a) c ∧ rd (rd_L3 nx a) c < (nx.length : Int) := by
 obtain ⟨e1, e2⟩ := h.row _ (row_at h0 h1)
 have h4 : c < ((rd_L3 nx a).length : Int) := by omega
 exact ⟨h4, e2 _ (rd_at h2 h4)⟩
theorem drop_rd {l : List Int} {i : Nat} (h : i < l.length) : l.drop i = rd l (i : Int) :: l.drop (i + 1) := by
 unfold rd
 rw [List.drop_eq_getElem_cons h, Int.toNat_natCast, List.getD_eq_getElem?_getD, List.getElem?_eq_getElem h]
 rfl
end Go.Proofs.Ytemlgmkbonpniaa.Print

namespace Go.Proofs.Ytemlgmkbonpniaa.Print
open Go.RowKit Go.Maps Go.Proofs.YtemlgmkbonpniaaW.PrintWords Go.Proofs.YtemlgmkbonpniaaW.PrintLast Go.Proofs.YtemlgmkbonpniaaW.PrintMore
set_option linter.unusedVariables false
set_option linter.unusedSimpArgs false
def seenRow : Int → List Int → Option Int
  | n, [] => some n
  | n, x :: l => if x > n then none else if x = n then seenRow (n + 1) l else seenRow n l
def seenAll : Int → List (List Int) → Option Int
  | n, [] => some n
  | n, r :: l => (seenRow n r).bind fun m => seenAll m l
theorem seenRow_le : ∀ (l : List Int) (n m : Int), seenRow n l = some m → n ≤ m := by
  intro l
  induction l with
  | nil => intro n m h; rw [seenRow] at h; have := Option.some.inj h; omega
  | cons x l ih =>
    intro n m h
    rw [seenRow] at h
    split at h
    · cases h
    · split at h
      · have := ih _ _ h; omega
      · exact ih _ _ h
theorem seenAll_le : ∀ (l : List (List Int)) (n m : Int), seenAll n l = some m → n ≤ m := by
  intro l
  induction l with
  | nil => intro n m h; rw [seenAll] at h; have := Option.some.inj h; omega
  | cons x l ih =>
    intro n m h
    rw [seenAll] at h
    cases e : seenRow n x with
    | none => rw [e] at h; cases h
    | some a =>
      rw [e, Option.bind_some] at h
      have := seenRow_le _ _ _ e
      have := ih _ _ h
      omega
theorem metR_step (sts : List (List Int)) (x : List Int) : ((metR sts x).1 < sts.length ∧ (metR sts x).2.length = sts.length) ∨ ((metR sts x).1 = sts.length ∧ (metR sts x).2.length = sts.length + 1) := by
  unfold metR
  split
  next h => exact .inl ⟨(stR_idx h).1, rfl⟩
  · exact .inr ⟨rfl, by show (sts ++ [x]).length = _; simp⟩
theorem rowGo_law (r : Bt) (free : Bool) (lim : Int) (a : List Int) : ∀ (ms : List Int) (sts : List (List Int)) (row : List Int) (t : List (List Int) × List Int), rowGo r free lim a ms sts row = some t →
    ∃ tl, t.2 = row ++ tl ∧ tl.length = ms.length ∧ seenRow sts.length tl = some (t.1.length : Int) ∧ (∀ x ∈ tl, 0 ≤ x ∧ x < (t.1.length : Int)) ∧ sts.length ≤ t.1.length ∧ ((sts.length : Int) ≤ lim → (t.1.length : Int) ≤ lim) := by
  intro ms
  induction ms with
  | nil =>
    intro sts row t h
    rw [rowGo] at h
    rw [← Option.some.inj h]
    exact ⟨[], (List.append_nil _).symm, rfl, by rw [seenRow], (fun x hx => by cases hx), Nat.le_refl _, fun h => h⟩
  | cons m ms ih =>
    intro sts row t h
    rw [rowGo] at h
    split at h
    · cases h
    next hlim =>
      obtain ⟨tl, h1, h2, h3, h4, h5, h6⟩ := ih _ _ _ h
      have hs := metR_step sts (xOf r free a m)
      refine ⟨((metR sts (xOf r free a m)).1 : Int) :: tl, by rw [h1, List.append_assoc]; rfl, by rw [List.length_cons, List.length_cons, h2], ?_, fun x hx => ?_, by omega, fun _ => h6 (by omega)⟩
      · rw [seenRow, if_neg (by omega)]
        rcases hs with ⟨a1, a2⟩ | ⟨a1, a2⟩
        · rw [if_neg (by omega), ← a2]; exact h3
        · rw [if_pos (by omega), show (sts.length : Int) + 1 = ((metR sts (xOf r free a m)).2.length : Int) by omega]; exact h3
      · rcases List.mem_cons.1 hx with rfl | hx
        · omega
        · exact h4 x hx
theorem goD_law (r : Bt) (free : Bool) (lim : Int) (masks : List Int) : ∀ (k s : Nat) (sts next : List (List Int)) (fin : List Bool), s ≤ sts.length → (sts.length : Int) ≤ lim →
    goD r free lim masks k s sts next fin = ([], [], 8) ∨ ∃ T G, goD r free lim masks k s sts next fin = (next ++ T, fin ++ G, 0) ∧ G.length = T.length ∧ seenAll sts.length T = some ((s + T.length : Nat) : Int) ∧ sts.length ≤ s + T.length ∧ ((s + T.length : Nat) : Int) ≤ lim ∧ ∀ q ∈ T, q.length = masks.length ∧ ∀ x ∈ q, 0 ≤ x ∧ x < ((s + T.length : Nat) : Int) := by
  intro k
  induction k with
  | zero => intro s sts next fin _ _; exact .inl (by rw [goD])
  | succ k ih =>
    intro s sts next fin hs hl
    rw [goD]
    split
    next hlt =>
      cases e : rowGo r free lim (stR sts s) masks sts [] with
      | none => exact .inl rfl
      | some t =>
        obtain ⟨tl, h1, h2, h3, h4, h5, h6⟩ := rowGo_law _ _ _ _ _ _ _ _ e
        rcases ih (s + 1) t.1 (next ++ [t.2]) (fin ++ [endR r.1 r.2.2.2.1 (stR sts s)]) (by omega) (h6 hl) with h | ⟨T, G, g1, g2, g3, g4, g5, g6⟩
        · exact .inl h
        · have hT : ((s + (t.2 :: T).length : Nat) : Int) = ((s + 1 + T.length : Nat) : Int) := by rw [List.length_cons]; omega
          refine .inr ⟨t.2 :: T, endR r.1 r.2.2.2.1 (stR sts s) :: G, ?_, by rw [List.length_cons, List.length_cons, g2], ?_, by rw [List.length_cons]; omega, by rw [hT]; exact g5, fun q hq => ?_⟩
          · show goD r free lim masks k (s + 1) t.1 (next ++ [t.2]) (fin ++ [endR r.1 r.2.2.2.1 (stR sts s)]) = _
            rw [g1, List.append_assoc, List.append_assoc]; rfl
          · rw [hT, seenAll, h1, List.nil_append, h3, Option.bind_some]; exact g3
          · rw [hT]
            rcases List.mem_cons.1 hq with rfl | hq
            · rw [h1, List.nil_append]
              exact ⟨h2, fun x hx => ⟨(h4 x hx).1, by have := (h4 x hx).2; omega⟩⟩
            · exact g6 q hq
    next hge =>
      refine .inr ⟨[], [], by rw [List.append_nil, List.append_nil], rfl, ?_, by simp; omega, ?_, fun q hq => by cases hq⟩
      · rw [seenAll]; congr 1; simp; omega
      · simp; omega
theorem rightD_goD {T : List (List Int)} {G : List Bool} {c : Nat} (hc : 1 ≤ c) (hc2 : c ≤ 200) (h1 : 1 ≤ T.length) (h2 : T.length ≤ 5000) (hg : G.length = T.length) (h : ∀ q ∈ T, q.length = c ∧ ∀ x ∈ q, 0 ≤ x ∧ x < (T.length : Int)) : rightD T G = true := by
  have h0 : (rd_L3 T 0).length = c := (h _ (row_at (by omega) (by omega))).1
  exact (rightD_iff T G).2 ⟨h1, h2, hg, by omega, by omega, fun q hq => ⟨by rw [h0]; exact (h q hq).1, (h q hq).2⟩⟩
/-- What subset.Build answers. -/
theorem subsetR_law (r : Bt) (masks : List Int) (free : Bool) (lim : Int) (h1 : 1 ≤ masks.length) (h2 : masks.length ≤ 200) (h3 : 1 ≤ lim) (h4 : lim ≤ 5000) :
    subsetR r masks free lim = ([], [], 8) ∨ ∃ T G, subsetR r masks free lim = (T, G, 0) ∧ rightD T G = true ∧ seenAll 1 T = some (T.length : Int) ∧ (T.length : Int) ≤ lim := by
  unfold subsetR
  rw [if_neg (by omega)]
  rcases goD_law r free lim masks (lim.toNat + 1) 0 [[0]] [] [] (by simp) (by simpa using h3) with h | ⟨T, G, g1, g2, g3, g4, g5, g6⟩
  · exact .inl h
  · rw [Nat.zero_add] at g3 g4 g5 g6
    simp only [List.length_singleton] at g4
    refine .inr ⟨T, G, by rw [g1]; rfl, rightD_goD h1 h2 g4 (by omega) g2 g6, ?_, g5⟩
    exact g3
theorem subsetR_small {r : Bt} (masks : List Int) (free : Bool) (lim : Int) {N : List (List Int)} {F : List Bool} {e : Int} (h : subsetR r masks free lim = (N, F, e)) : N.length ≤ 1000000 ∧ F.length ≤ 1000000 ∧ ∀ q ∈ N, q.length ≤ 1000000 := by
  have hz : ∀ e', ([], [], e') = (N, F, e) → N.length ≤ 1000000 ∧ F.length ≤ 1000000 ∧ ∀ q ∈ N, q.length ≤ 1000000 := fun e' h => by
    obtain ⟨h1, h2⟩ := Prod.mk.inj h
    obtain ⟨h2, _⟩ := Prod.mk.inj h2
    subst h1 h2
    exact ⟨by simp, by simp, fun q hq => by cases hq⟩
  by_cases q : masks.length < 1 ∨ 200 < masks.length ∨ lim < 1 ∨ 5000 < lim
  · have h1 := h
    unfold subsetR at h1
    rw [if_pos q] at h1
    exact hz _ h1
  · rcases subsetR_law r masks free lim (by omega) (by omega) (by omega) (by omega) with h1 | ⟨T, G, h1, hR, _, _⟩
    · rw [h] at h1; exact hz _ h1.symm
    · rw [h] at h1
      obtain ⟨e1, e2⟩ := Prod.mk.inj h1
      obtain ⟨e2, _⟩ := Prod.mk.inj e2
      subst e1 e2
      have hP := (rightD_iff N F).1 hR
      exact ⟨by have := hP.n2; omega, by have := hP.n2; have := hP.fl; omega, fun q hq => by rw [(hP.row q hq).1]; have := hP.c2; omega⟩
theorem subsetR_err {r : Bt} {free : Bool} {N : List (List Int)} {F : List Bool} {e : Int} {masks : List Int} (h : subsetR r masks free 100 = (N, F, e)) (h1 : 1 ≤ masks.length := by decide) (h2 : masks.length ≤ 200 := by decide) : e = 0 ∨ e = 8 := by
  rcases subsetR_law r masks free 100 h1 h2 (by omega) (by omega) with g | ⟨T, G, g, _⟩
  · rw [h] at g; exact .inr (Prod.mk.inj (Prod.mk.inj g).2).2
  · rw [h] at g; exact .inl (Prod.mk.inj (Prod.mk.inj g).2).2
theorem subsetR_right {r : Bt} {free : Bool} {N : List (List Int)} {F : List Bool} {masks : List Int} (h : subsetR r masks free 100 = (N, F, 0)) (h1 : 1 ≤ masks.length := by decide) (h2 : masks.length ≤ 200 := by decide) : rightD N F = true := by
  rcases subsetR_law r masks free 100 h1 h2 (by omega) (by omega) with g | ⟨T, G, g, hR, _⟩
  · rw [h] at g; have := (Prod.mk.inj (Prod.mk.inj g).2).2; cases this
  · rw [h] at g
    obtain ⟨e1, e2⟩ := Prod.mk.inj g
    obtain ⟨e2, _⟩ := Prod.mk.inj e2
    subst e1 e2
    exact hR
/-! ### the law's loop -/
theorem few_is (x : S24) (hz : Lens x) (masks : List Int) : ∃ b, Evs (fun k => scansionlaw12_few.f k x.f0 x.f1 x.f2 masks) b ∧ (b = true → siz x < 25 ∧ masks.length ≤ 12) := by
  obtain ⟨t, ⟨K, hK⟩, hd, hlow⟩ := nodes_f x hz 25 10 (by omega) (by omega) (by omega)
  by_cases q : t < 25
  · refine ⟨decide ((masks.length : Int) ≤ 12), ⟨K, fun k hk => ?_⟩, fun h => ⟨by rw [← hlow q]; exact q, by have := of_decide_eq_true h; omega⟩⟩
    · show scansionlaw12_few.f k _ _ _ _ = _
      have h3 : scansionref08_Nodes.f k x.f0 x.f1 x.f2 25 10 = some (t : Int) := hK k hk
      unfold scansionlaw12_few.f
      rw [h3, Option.bind_some, if_pos (by omega)]
  · refine ⟨false, ⟨K, fun k hk => ?_⟩, fun h => by cases h⟩
    show scansionlaw12_few.f k _ _ _ _ = _
    have h3 : scansionref08_Nodes.f k x.f0 x.f1 x.f2 25 10 = some (t : Int) := hK k hk
    unfold scansionlaw12_few.f
    rw [h3, Option.bind_some, if_neg (by omega)]
end Go.Proofs.Ytemlgmkbonpniaa.Print
