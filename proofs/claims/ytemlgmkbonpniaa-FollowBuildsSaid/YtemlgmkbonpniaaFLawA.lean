/- Plain laws of chapter 11: counting nodes, comparing rows, awake. -/
import Derived.Test.YtemlgmkbonpniaaFBuild
import Derived.Test.YtemlgmkbonpniaaPrint16
import Derived.Test.YtemlgmkbonpniaaPrint18
import Derived.Test.YtemlgmkbonpniaaPrint24
namespace Go.Proofs.Ytemlgmkbonpniaa.Print
open Go.RowKit Go.Maps Go.Proofs.YtemlgmkbonpniaaW.PrintWords Go.Proofs.YtemlgmkbonpniaaW.PrintLast Go.Proofs.YtemlgmkbonpniaaW.PrintMore
set_option linter.unusedVariables false
set_option linter.unusedSimpArgs false
mutual
/-- How many nodes. -/
def siz : S24 → Nat
  | ⟨_, _, kids⟩ => 1 + sizL kids
def sizL : List S24 → Nat
  | [] => 0
  | x :: l => siz x + sizL l
end
theorem cnt_siz : ∀ x, cnt x ≤ siz x := by
  refine node_ind (P := fun x => cnt x ≤ siz x) (fun x ih => ?_)
  obtain ⟨a, b, kids⟩ := x
  have key : ∀ l : List S24, (∀ y ∈ l, cnt y ≤ siz y) → cntL l ≤ sizL l := by
    intro l
    induction l with
    | nil => intro _; rw [cntL, sizL]; exact Nat.le_refl _
    | cons y l ihl =>
      intro h
      rw [cntL, sizL]
      have h1 := h y List.mem_cons_self
      have h2 := ihl (fun z hz => h z (List.mem_cons_of_mem _ hz))
      omega
  have h := key kids ih
  rw [cnt, siz]
  split <;> omega
theorem nodes_l0 (kids : List S24) (hl : kids.length ≤ 9223372036854775807) (a b : Int) (M D : Nat) (hM : M ≤ 1000) (hD : D ≤ 1000)
    (ih : ∀ y ∈ kids, ∀ M' D' : Nat, 1 ≤ M' → M' ≤ 1000 → D' ≤ 1000 → ∃ t : Nat, Evs (fun k => scansionref08_Nodes.f k y.f0 y.f1 y.f2 (M' : Int) (D' : Int)) (t : Int) ∧ t ≤ M' ∧ (t < M' → t = siz y)) :
    ∀ (n i c : Nat), i + n = kids.length → c ≤ M → ∃ t : Nat, Evs (fun k => scansionref08_Nodes.l0 k (M : Int) (D : Int) (c : Int) (i : Int) a b kids) (t : Int) ∧ t ≤ M ∧ (t < M → t = c + sizL (kids.drop i)) := by
  intro n
  induction n with
  | zero =>
    intro i c hi hc
    refine ⟨c, ⟨1, fun k hk => ?_⟩, hc, fun _ => by rw [List.drop_eq_nil_of_le (by omega), sizL, Nat.add_zero]⟩
    obtain ⟨k, rfl⟩ : ∃ j, k = j + 1 := ⟨k - 1, by omega⟩
    show scansionref08_Nodes.l0 (k + 1) _ _ _ _ _ _ _ = _
    rw [scansionref08_Nodes.l0, if_neg (by omega)]
    unfold mn
    rw [if_neg (by omega)]
  | succ n ihn =>
    intro i c hi hc
    have hil : i < kids.length := by omega
    have g1 : (i : Int) < (kids.length : Int) := by omega
    by_cases q : c = M
    · refine ⟨M, ⟨1, fun k hk => ?_⟩, Nat.le_refl _, fun h => absurd h (Nat.lt_irrefl _)⟩
      obtain ⟨k, rfl⟩ : ∃ j, k = j + 1 := ⟨k - 1, by omega⟩
      show scansionref08_Nodes.l0 (k + 1) _ _ _ _ _ _ _ = _
      rw [scansionref08_Nodes.l0, if_pos g1, if_pos (by omega)]
    · by_cases q2 : D = 0
      · refine ⟨M, ⟨1, fun k hk => ?_⟩, Nat.le_refl _, fun h => absurd h (Nat.lt_irrefl _)⟩
        obtain ⟨k, rfl⟩ : ∃ j, k = j + 1 := ⟨k - 1, by omega⟩
        show scansionref08_Nodes.l0 (k + 1) _ _ _ _ _ _ _ = _
        rw [scansionref08_Nodes.l0, if_pos g1, if_neg (by omega), if_pos (by omega)]
      · obtain ⟨p, ⟨K1, hK1⟩, hp1, hp2⟩ := ih kids[i] (List.getElem_mem hil) (M - c) (D - 1) (by omega) (by omega) (by omega)
        obtain ⟨t, ⟨K2, hK2⟩, ht1, ht2⟩ := ihn (i + 1) (c + p) (by omega) (by omega)
        refine ⟨t, ⟨K1 + K2 + 1, fun k hk => ?_⟩, ht1, fun h => ?_⟩
        · obtain ⟨k, rfl⟩ : ∃ j, k = j + 1 := ⟨k - 1, by omega⟩
          show scansionref08_Nodes.l0 (k + 1) _ _ _ _ _ _ _ = _
          have hk1 : scansionref08_Nodes.f k kids[i].f0 kids[i].f1 kids[i].f2 ((M - c : Nat) : Int) ((D - 1 : Nat) : Int) = _ := hK1 k (by omega)
          have hk2 : scansionref08_Nodes.l0 k _ _ _ _ _ _ _ = _ := hK2 k (by omega)
          have e1 : wrap64 ((M : Int) - (c : Int)) = ((M - c : Nat) : Int) := by unfold wrap64; omega
          have e4 : wrap64 ((D : Int) - 1) = ((D - 1 : Nat) : Int) := by clear e1; unfold wrap64; omega
          have e2 : wrap64 ((c : Int) + (p : Int)) = ((c + p : Nat) : Int) := by clear e1 e4; unfold wrap64; omega
          have e3 : wrap64 ((i : Int) + 1) = ((i + 1 : Nat) : Int) := by clear e1 e2 e4; unfold wrap64; omega
          rw [scansionref08_Nodes.l0, if_pos g1, if_neg (by clear e1 e2 e3 e4; omega), if_neg (by clear e1 e2 e3 e4; omega), if_pos (by clear e1 e2 e3 e4; omega), rd_get hil, e1, e4, hk1]
          show scansionref08_Nodes.l0 k _ _ _ _ _ _ _ = _
          rw [e2, e3, hk2]
        · have h1 := ht2 h
          have h2 : p = siz kids[i] := hp2 (by omega)
          rw [h1, List.drop_eq_getElem_cons hil, sizL, ← h2]
          omega
theorem nodes_f : ∀ (x : S24), Lens x → ∀ M D : Nat, 1 ≤ M → M ≤ 1000 → D ≤ 1000 → ∃ t : Nat, Evs (fun k => scansionref08_Nodes.f k x.f0 x.f1 x.f2 (M : Int) (D : Int)) (t : Int) ∧ t ≤ M ∧ (t < M → t = siz x) := by
  refine node_ind (P := fun x => Lens x → ∀ M D : Nat, 1 ≤ M → M ≤ 1000 → D ≤ 1000 → ∃ t : Nat, Evs (fun k => scansionref08_Nodes.f k x.f0 x.f1 x.f2 (M : Int) (D : Int)) (t : Int) ∧ t ≤ M ∧ (t < M → t = siz x)) (fun x ih hz M D h1 h2 h3 => ?_)
  obtain ⟨_, hzl, hzk⟩ := hz
  obtain ⟨a, b, kids⟩ := x
  obtain ⟨t, ⟨K, hK⟩, ht1, ht2⟩ := nodes_l0 kids hzl a b M D h2 h3 (fun y hy M' D' e1 e2 e3 => ih y hy (hzk y hy) M' D' e1 e2 e3) kids.length 0 1 (by omega) h1
  refine ⟨t, ⟨K + 1, fun k hk => ?_⟩, ht1, fun h => ?_⟩
  · obtain ⟨k, rfl⟩ : ∃ j, k = j + 1 := ⟨k - 1, by omega⟩
    show scansionref08_Nodes.f (k + 1) a b kids _ _ = _
    rw [scansionref08_Nodes.f]
    exact hK k (by omega)
  · rw [ht2 h, List.drop_zero, siz]
/-! ### comparing -/
theorem sameInts_l0 (l : List Int) (hl : l.length ≤ 1000000) : ∀ (n i : Nat), i + n = l.length → Evs (fun k => scansionref01_SameInts.l0 k l l (i : Int)) true := by
  intro n
  induction n with
  | zero =>
    intro i hi
    refine ⟨1, fun k hk => ?_⟩
    obtain ⟨k, rfl⟩ : ∃ j, k = j + 1 := ⟨k - 1, by omega⟩
    show scansionref01_SameInts.l0 (k + 1) _ _ _ = _
    rw [scansionref01_SameInts.l0, if_neg (by omega)]
  | succ n ihn =>
    intro i hi
    obtain ⟨K, hK⟩ := ihn (i + 1) (by omega)
    refine ⟨K + 1, fun k hk => ?_⟩
    obtain ⟨k, rfl⟩ : ∃ j, k = j + 1 := ⟨k - 1, by omega⟩
    show scansionref01_SameInts.l0 (k + 1) _ _ _ = _
    have g : (i : Int) < (l.length : Int) := by omega
    rw [scansionref01_SameInts.l0, if_pos g, if_pos (by omega), if_pos g, if_pos rfl, show wrap64 ((i : Int) + 1) = ((i + 1 : Nat) : Int) by unfold wrap64; omega]
    exact hK k (by omega)
theorem sameInts_f (l : List Int) (hl : l.length ≤ 1000000) : Evs (fun k => scansionref01_SameInts.f k l l) true := by
  obtain ⟨K, hK⟩ := sameInts_l0 l hl l.length 0 (by omega)
  refine ⟨K, fun k hk => ?_⟩
  show scansionref01_SameInts.f k l l = _
  unfold scansionref01_SameInts.f
  rw [if_pos rfl]
  exact hK k hk
theorem rdL3_get {l : List (List Int)} {i : Nat} (h : i < l.length) : rd_L3 l (i : Int) = l[i] := by
  unfold rd_L3
  rw [Int.toNat_natCast, List.getD_eq_getElem?_getD, List.getElem?_eq_getElem h]
  rfl
theorem same_l0 (b : Bool) (l1 l2 l3 : List Int) (l : List (List Int)) (hl : l.length ≤ 1000000) (hr : ∀ r ∈ l, r.length ≤ 1000000) : ∀ (n i : Nat), i + n = l.length → Evs (fun k => scansionref11_Same.l0 k (i : Int) b l1 l2 l3 l b l1 l2 l3 l) true := by
  intro n
  induction n with
  | zero =>
    intro i hi
    refine ⟨1, fun k hk => ?_⟩
    obtain ⟨k, rfl⟩ : ∃ j, k = j + 1 := ⟨k - 1, by omega⟩
    show scansionref11_Same.l0 (k + 1) _ _ _ _ _ _ _ _ _ _ _ = _
    rw [scansionref11_Same.l0, if_neg (by omega)]
  | succ n ihn =>
    intro i hi
    have hil : i < l.length := by omega
    obtain ⟨K, hK⟩ := ihn (i + 1) (by omega)
    obtain ⟨K2, hK2⟩ := sameInts_f l[i] (hr _ (List.getElem_mem hil))
    refine ⟨K + K2 + 1, fun k hk => ?_⟩
    obtain ⟨k, rfl⟩ : ∃ j, k = j + 1 := ⟨k - 1, by omega⟩
    show scansionref11_Same.l0 (k + 1) _ _ _ _ _ _ _ _ _ _ _ = _
    have g : (i : Int) < (l.length : Int) := by omega
    have h2 : scansionref01_SameInts.f k l[i] l[i] = some true := hK2 k (by omega)
    rw [scansionref11_Same.l0, if_pos g, if_pos (by omega), if_pos g, rdL3_get hil, h2, Option.bind_some, if_pos rfl, show wrap64 ((i : Int) + 1) = ((i + 1 : Nat) : Int) by unfold wrap64; omega]
    exact hK k (by omega)
theorem same_f (b : Bool) (l1 l2 l3 : List Int) (l : List (List Int)) (h1 : l1.length ≤ 1000000) (h2 : l2.length ≤ 1000000) (h3 : l3.length ≤ 1000000) (hl : l.length ≤ 1000000) (hr : ∀ r ∈ l, r.length ≤ 1000000) : Evs (fun k => scansionref11_Same.f k b l1 l2 l3 l b l1 l2 l3 l) true := by
  obtain ⟨K, hK⟩ := same_l0 b l1 l2 l3 l hl hr l.length 0 (by omega)
  obtain ⟨K1, hK1⟩ := sameInts_f l1 h1
  obtain ⟨K2, hK2⟩ := sameInts_f l2 h2
  obtain ⟨K3, hK3⟩ := sameInts_f l3 h3
  refine ⟨K + K1 + K2 + K3 + 1, fun k hk => ?_⟩
  obtain ⟨k, rfl⟩ : ∃ j, k = j + 1 := ⟨k - 1, by omega⟩
  show scansionref11_Same.f (k + 1) _ _ _ _ _ _ _ _ _ _ = _
  have e1 : scansionref01_SameInts.f (k + 1) l1 l1 = some true := hK1 _ (by omega)
  have e2 : scansionref01_SameInts.f (k + 1) l2 l2 = some true := hK2 _ (by omega)
  have e3 : scansionref01_SameInts.f (k + 1) l3 l3 = some true := hK3 _ (by omega)
  unfold scansionref11_Same.f
  rw [e1, e2, e3]
  show (if (b != b) = true then _ else if true = true then if true = true then if true = true then _ else _ else _ else _) = _
  rw [if_neg (by simp), if_pos rfl, if_pos rfl, if_pos rfl, scansionref11_Same.j0, if_neg (by simp)]
  exact hK k (by omega)
/-! ### awake -/
theorem build_star : buildR ⟨3, 0, [⟨0, 0, [⟨1, 0, []⟩, ⟨1, 1, []⟩]⟩]⟩ = (true, [0, 1], [1], [2], [[2], [1]], 0) := by
  simp [buildR, rightN, rightL, cnt, cntL, nodeR, oneR, catR, leafR, catOne, signR, afterR, bothR, putR, lo, rd]
theorem cnt_star : cnt ⟨3, 0, [⟨0, 0, [⟨1, 0, []⟩, ⟨1, 1, []⟩]⟩]⟩ = 2 := by simp [cnt, cntL]
end Go.Proofs.Ytemlgmkbonpniaa.Print
