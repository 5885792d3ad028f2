/- Plain laws of chapter 11: counting nodes, comparing rows; small literals. -/
import Derived.Test.YtemlgmkbonpniaaRBuild
import Derived.Test.YtemlgmkbonpniaaPrint16
import Derived.Test.YtemlgmkbonpniaaPrint18
namespace Go.Proofs.Ytemlgmkbonpniaa.Print
open Go.RowKit Go.Maps Go.Proofs.YtemlgmkbonpniaaW.PrintWords Go.Proofs.YtemlgmkbonpniaaW.PrintLast Go.Proofs.YtemlgmkbonpniaaW.PrintMore
set_option linter.unusedVariables false
set_option linter.unusedSimpArgs false
mutual
/-- How many nodes. -/
def siz : S24 → Nat
 | ⟨_, _, kids⟩ => 1 + sizL kids
def sizL : List S24 → Nat
 | [] => 0
 | x :: l => siz x + sizL l
end
theorem cnt_siz : ∀ x, cnt x ≤ siz x := by
 refine node_ind (P := fun x => cnt x ≤ siz x) (fun x ih => ?_)
 obtain ⟨a, b, kids⟩ := x
 have key : ∀ l : List S24, (∀ y ∈ l, cnt y ≤ siz y) → cntL l ≤ sizL l := by
  intro l
  induction l with
  | nil => intro _; rw [cntL, sizL]; exact Nat.le_refl _
  | cons y l ihl =>
   intro h
   rw [cntL, sizL]
   have h1 := h y List.mem_cons_self
   have h2 := ihl (fun z hz => h z (List.mem_cons_of_mem _ hz))
   omega
 have h := key kids ih
 rw [cnt, siz]
 split <;> omega
theorem nodes_l0 (kids : List S24) (hl : kids.length ≤ 9223372036854775807) (a b : Int) (M D : Nat) (hM : M ≤ 1000) (hD : D ≤ 1000)
  (ih : ∀ y ∈ kids, ∀ M' D' : Nat, 1 ≤ M' → M' ≤ 1000 → D' ≤ 1000 → ∃ t : Nat, Evs (fun k => scansionref08_Nodes.f k y.f0 y.f1 y.f2 (M' : Int) (D' : Int)) (t : Int) ∧ t ≤ M' ∧ (t < M' → t = siz y)) :
  ∀ (n i c : Nat), i + n = kids.length → c ≤ M → ∃ t : Nat, Evs (fun k => scansionref08_Nodes.l0 k (M : Int) (D : Int) (c : Int) (i : Int) a b kids) (t : Int) ∧ t ≤ M ∧ (t < M → t = c + sizL (kids.drop i)) := by
 intro n
 induction n with
 | zero =>
  intro i c hi hc
  refine ⟨c, ⟨1, fun k hk => ?_⟩, hc, fun _ => by rw [List.drop_eq_nil_of_le (by omega), sizL, Nat.add_zero]⟩
  obtain ⟨k, rfl⟩ : ∃ j, k = j + 1 := ⟨k - 1, by omega⟩
  show scansionref08_Nodes.l0 (k + 1) _ _ _ _ _ _ _ = _
  rw [scansionref08_Nodes.l0, if_neg (by omega)]
  unfold mn
  rw [if_neg (by omega)]
 | succ n ihn =>
  intro i c hi hc
  have hil : i < kids.length := by omega
  have g1 : (i : Int) < (kids.length : Int) := by omega
  by_cases q : c = M
  ·refine ⟨M, ⟨1, fun k hk => ?_⟩, Nat.le_refl _, fun h => absurd h (Nat.lt_irrefl _)⟩
   obtain ⟨k, rfl⟩ : ∃ j, k = j + 1 := ⟨k - 1, by omega⟩
   show scansionref08_Nodes.l0 (k + 1) _ _ _ _ _ _ _ = _
   rw [scansionref08_Nodes.l0, if_pos g1, if_pos (by omega)]
  ·by_cases q2 : D = 0
   ·refine ⟨M, ⟨1, fun k hk => ?_⟩, Nat.le_refl _, fun h => absurd h (Nat.lt_irrefl _)⟩
    obtain ⟨k, rfl⟩ : ∃ j, k = j + 1 := ⟨k - 1, by omega⟩
    show scansionref08_Nodes.l0 (k + 1) _ _ _ _ _ _ _ = _
    rw [scansionref08_Nodes.l0, if_pos g1, if_neg (by omega), if_pos (by omega)]
   ·obtain ⟨p, ⟨K1, hK1⟩, hp1, hp2⟩ := ih kids[i] (List.getElem_mem hil) (M - c) (D - 1) (by omega) (by omega) (by omega)
    obtain ⟨t, ⟨K2, hK2⟩, ht1, ht2⟩ := ihn (i + 1) (c + p) (by omega) (by omega)
    refine ⟨t, ⟨K1 + K2 + 1, fun k hk => ?_⟩, ht1, fun h => ?_⟩
    ·obtain ⟨k, rfl⟩ : ∃ j, k = j + 1 := ⟨k - 1, by omega⟩
     show scansionref08_Nodes.l0 (k + 1) _ _ _ _ _ _ _ = _
     have hk1 : scansionref08_Nodes.f k kids[i].f0 kids[i].f1 kids[i].f2 ((M - c : Nat) : Int) ((D - 1 : Nat) : Int) = _ := hK1 k (by omega)
     have hk2 : scansionref08_Nodes.l0 k _ _ _ _ _ _ _ = _ := hK2 k (by omega)
     have e1 : wrap64 ((M : Int) - (c : Int)) = ((M - c : Nat) : Int) := by unfold wrap64; omega
     have e4 : wrap64 ((D : Int) - 1) = ((D - 1 : Nat) : Int) := by clear e1; unfold wrap64; omega
     have e2 : wrap64 ((c : Int) + (p : Int)) = ((c + p : Nat) : Int) := by clear e1 e4; unfold wrap64; omega
     have e3 : wrap64 ((i : Int) + 1) = ((i + 1 : Nat) : Int) := by clear e1 e2 e4; unfold wrap64; omega
     rw [scansionref08_Nodes.l0, if_pos g1, if_neg (by clear e1 e2 e3 e4; omega), if_neg (by clear e1 e2 e3 e4; omega), if_pos (by clear e1 e2 e3 e4; omega), rd_get hil, e1, e4, hk1]
     show scansionref08_Nodes.l0 k _ _ _ _ _ _ _ = _
     rw [e2, e3, hk2]
    ·have h1 := ht2 h
     have h2 : p = siz kids[i] := hp2 (by omega)
     rw [h1, List.drop_eq_getElem_cons hil, sizL, ← h2]
     omega
theorem nodes_f : ∀ (x : S24), Lens x → ∀ M D : Nat, 1 ≤ M → M ≤ 1000 → D ≤ 1000 → ∃ t : Nat, Evs (fun k => scansionref08_Nodes.f k x.f0 x.f1 x.f2 (M : Int) (D : Int)) (t : Int) ∧ t ≤ M ∧ (t < M → t = siz x) := by
 refine node_ind (P := fun x => Lens x → ∀ M D : Nat, 1 ≤ M → M ≤ 1000 → D ≤ 1000 → ∃ t : Nat, Evs (fun k => scansionref08_Nodes.f k x.f0 x.f1 x.f2 (M : Int) (D : Int)) (t : Int) ∧ t ≤ M ∧ (t < M → t = siz x)) (fun x ih hz M D h1 h2 h3 => ?_)
 obtain ⟨_, hzl, hzk⟩ := hz
 obtain ⟨a, b, kids⟩ := x
 obtain ⟨t, ⟨K, hK⟩, ht1, ht2⟩ := nodes_l0 kids hzl a b M D h2 h3 (fun y hy M' D' e1 e2 e3 => ih y hy (hzk y hy) M' D' e1 e2 e3) kids.length 0 1 (by omega) h1
 refine ⟨t, ⟨K + 1, fun k hk => ?_⟩, ht1, fun h => ?_⟩
 ·obtain ⟨k, rfl⟩ : ∃ j, k = j + 1 := ⟨k - 1, by omega⟩
  show scansionref08_Nodes.f (k + 1) a b kids _ _ = _
  rw [scansionref08_Nodes.f]
  exact hK k (by omega)
 ·rw [ht2 h, List.drop_zero, siz]
/-! ### comparing -/
theorem sameInts_l0 (l : List Int) (hl : l.length ≤ 1000000) : ∀ (n i : Nat), i + n = l.length → Evs (fun k => scansionref01_SameInts.l0 k l l (i : Int)) true := by
 intro n
 induction n with
 | zero =>
  intro i hi
  refine ⟨1, fun k hk => ?_⟩
  obtain ⟨k, rfl⟩ : ∃ j, k = j + 1 := ⟨k - 1, by omega⟩
  show scansionref01_SameInts.l0 (k + 1) _ _ _ = _
  rw [scansionref01_SameInts.l0, if_neg (by omega)]
 | succ n ihn =>
  intro i hi
  obtain ⟨K, hK⟩ := ihn (i + 1) (by omega)
  refine ⟨K + 1, fun k hk => ?_⟩
  obtain ⟨k, rfl⟩ : ∃ j, k = j + 1 := ⟨k - 1, by omega⟩
  show scansionref01_SameInts.l0 (k + 1) _ _ _ = _
  have g : (i : Int) < (l.length : Int) := by omega
  rw [scansionref01_SameInts.l0, if_pos g, if_pos (by omega), if_pos g, if_pos rfl, show wrap64 ((i : Int) + 1) = ((i + 1 : Nat) : Int) by unfold wrap64; omega]
  exact hK k (by omega)
theorem sameInts_f (l : List Int) (hl : l.length ≤ 1000000) : Evs (fun k => scansionref01_SameInts.f k l l) true := by
 obtain ⟨K, hK⟩ := sameInts_l0 l hl l.length 0 (by omega)
 refine ⟨K, fun k hk => ?_⟩
 show scansionref01_SameInts.f k l l = _
 unfold scansionref01_SameInts.f
 rw [if_pos rfl]
 exact hK k hk
theorem rdL3_get {l : List (List Int)} {i : Nat} (h : i < l.length) : rd_L3 l (i : Int) = l[i] := by
 unfold rd_L3
 rw [Int.toNat_natCast, List.getD_eq_getElem?_getD, List.getElem?_eq_getElem h]
 rfl
/-! ### awake -/
theorem build_star : buildR ⟨3, 0, [⟨0, 0, [⟨1, 0, []⟩, ⟨1, 1, []⟩]⟩]⟩ = (true, [0, 1], [1], [2], [[2], [1]], 0) := by
 simp [buildR, rightN, rightL, cnt, cntL, nodeR, oneR, catR, leafR, catOne, signR, afterR, bothR, putR, lo, rd]
theorem cnt_star : cnt ⟨3, 0, [⟨0, 0, [⟨1, 0, []⟩, ⟨1, 1, []⟩]⟩]⟩ = 2 := by simp [cnt, cntL]
theorem s24_eta (x : S24) : (⟨x.f0, x.f1, x.f2⟩ : S24) = x := by cases x; rfl
/-- What Build answers. -/
abbrev Bt := Bool × List Int × List Int × List Int × List (List Int) × Int
/-- An automaton in a variable. -/
structure AutoC (b0 B : Nat) (r : Bt) (v1 v2 v3 v4 : Value) (W : World) : Prop where
 blk : W.heap[B]? = some (.cells #[.bool r.1, v1, v2, v3, v4] 30 (0, 0))
 r1 : Kd.R (Kd.int .i64) 3 W b0 (fun _ => True) v1 r.2.1
 r2 : Kd.R (Kd.int .i64) 3 W b0 (fun _ => True) v2 r.2.2.1
 r3 : Kd.R (Kd.int .i64) 3 W b0 (fun _ => True) v3 r.2.2.2.1
 r4 : Kd.R (Kd.slice 3 (Kd.int .i64)) 27 W b0 (fun _ => True) v4 r.2.2.2.2.1
theorem AutoC.later {b0 B : Nat} {r : Bt} {v1 v2 v3 v4 : Value} {W W' : World} (h : AutoC b0 B r v1 v2 v3 v4 W) (hb : Below W.heap.size W W') : AutoC b0 B r v1 v2 v3 v4 W' :=
 ⟨blk_below h.blk hb, Kd.R_below h.r1 hb, Kd.R_below h.r2 hb, Kd.R_below h.r3 hb, Kd.R_below h.r4 hb⟩
theorem AutoC.cells {b0 B : Nat} {r : Bt} {v1 v2 v3 v4 : Value} {W : World} (h : AutoC b0 B r v1 v2 v3 v4 W) : W.cell? ⟨B, 0, none⟩ = some (.bool r.1) ∧ W.cell? ⟨B, 1, none⟩ = some v1 ∧ W.cell? ⟨B, 2, none⟩ = some v2 ∧ W.cell? ⟨B, 3, none⟩ = some v3 ∧ W.cell? ⟨B, 4, none⟩ = some v4 :=
 ⟨(blk_cell h.blk 0).trans rfl, (blk_cell h.blk 1).trans rfl, (blk_cell h.blk 2).trans rfl, (blk_cell h.blk 3).trans rfl, (blk_cell h.blk 4).trans rfl⟩
theorem two_nodes {W : World} {X : Nat} (h : W.heap[X]? = some (.cells #[.int .i64 1, .int .i64 0, nilV, .int .i64 1, .int .i64 1, nilV] 24 (0, 0))) : Kd.C k24 W (some ⟨X, 0, none⟩) 2 [(⟨1, 0, []⟩ : S24), ⟨1, 1, []⟩] := by
 refine ⟨rfl, by simp, fun _ => ⟨⟨X, 0, none⟩, rfl, fun j p hp => ?_⟩⟩
 match j, hp with
 | 0, hp =>
  obtain rfl := Option.some.inj hp
  refine ⟨[.int .i64 1, .int .i64 0, nilV], rfl, k24_mk W ⟨1, 0, []⟩ (A2 := none) (c2 := 0) (Nat.le_refl _) ⟨rfl, by simp, fun h => absurd h (Nat.lt_irrefl 0)⟩, fun i u hu => ?_⟩
  match i, hu with
  | 0, hu => cases hu; exact (blk_cell h 0).trans rfl
  | 1, hu => cases hu; exact (blk_cell h 1).trans rfl
  | 2, hu => cases hu; exact (blk_cell h 2).trans rfl
 | 1, hp =>
  obtain rfl := Option.some.inj hp
  refine ⟨[.int .i64 1, .int .i64 1, nilV], rfl, k24_mk W ⟨1, 1, []⟩ (A2 := none) (c2 := 0) (Nat.le_refl _) ⟨rfl, by simp, fun h => absurd h (Nat.lt_irrefl 0)⟩, fun i u hu => ?_⟩
  match i, hu with
  | 0, hu => cases hu; exact (blk_cell h 3).trans rfl
  | 1, hu => cases hu; exact (blk_cell h 4).trans rfl
  | 2, hu => cases hu; exact (blk_cell h 5).trans rfl
theorem one_node {W : World} {X A : Option Addr} {Y : Nat} {l : List S24} {c : Nat} (h : W.heap[Y]? = some (.cells #[.int .i64 0, .int .i64 0, .slice A l.length c] 24 (0, 0))) (hc : l.length ≤ c) (hC : Kd.C k24 W A l.length l) : Kd.C k24 W (some ⟨Y, 0, none⟩) 1 [⟨0, 0, l⟩] := by
 refine ⟨rfl, by simp, fun _ => ⟨⟨Y, 0, none⟩, rfl, fun j p hp => ?_⟩⟩
 match j, hp with
 | 0, hp =>
  obtain rfl := Option.some.inj hp
  refine ⟨[.int .i64 0, .int .i64 0, .slice A l.length c], rfl, k24_mk W ⟨0, 0, l⟩ hc hC, fun i u hu => ?_⟩
  match i, hu with
  | 0, hu => cases hu; exact (blk_cell h 0).trans rfl
  | 1, hu => cases hu; exact (blk_cell h 1).trans rfl
  | 2, hu => cases hu; exact (blk_cell h 2).trans rfl
theorem row_lit {W : World} (k : Int) : Kd.C (Kd.int .i64) (W.alloc (.cells #[.int .i64 k] 3)) (some ⟨W.heap.size, 0, none⟩) 1 [k] := by
 have h := blk_new W (.cells #[.int .i64 k] 3)
 refine ⟨rfl, by simp, fun _ => ⟨⟨W.heap.size, 0, none⟩, rfl, fun j p hp => ?_⟩⟩
 match j, hp with
 | 0, hp =>
  obtain rfl := Option.some.inj hp
  refine ⟨[.int .i64 k], rfl, rfl, fun i u hu => ?_⟩
  match i, hu with
  | 0, hu => cases hu; exact (blk_cell h 0).trans rfl
end Go.Proofs.Ytemlgmkbonpniaa.Print
