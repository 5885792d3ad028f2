/- The law ThaiChain: where words are a chain without others, they are taken, each; what is behind the last one is one part. -/
import Derived.Test.YtfmnbebkeefboaaLawC
import Derived.Test.YtfmnbebkeefboaaPrint22
-- NEEDS scansionlaw20_ThaiChain
namespace Go.Proofs.Ytfmnbebkeefboaa.Pure
open Go.RowKit Go.Proofs.Ytfmnbebkeefboaa.Print Go.Proofs.YtfmnbebkeefboaaW.PrintWords Go.Proofs.YtfmnbebkeefboaaW.PrintLast
set_option linter.unusedVariables false
set_option linter.unusedSimpArgs false

/-- Words one behind the other, and their places. -/
def chL : Int → List Int → List S31
  | _, [] => []
  | p, d :: r => ⟨p, p + d, 0⟩ :: chL (p + d) r
def chW : Int → List Int → List Int
  | _, [] => []
  | p, d :: r => (p + d) :: chW (p + d) r
def chE : Int → List Int → Int
  | p, [] => p
  | p, d :: r => chE (p + d) r
def Fine (ds : List Int) : Prop := ∀ d ∈ ds, 1 ≤ d ∧ d ≤ 50
theorem chE_le : ∀ (ds : List Int) (p : Int), Fine ds → p + ds.length ≤ chE p ds ∧ chE p ds ≤ p + 50 * ds.length
  | [], p, _ => by simp [chE]
  | d :: r, p, h => by
    have h1 := h d (List.mem_cons_self ..)
    have h2 := chE_le r (p + d) (fun e he => h e (List.mem_cons_of_mem _ he))
    rw [chE, List.length_cons]
    omega
theorem chL_in : ∀ (ds : List Int) (p : Int), Fine ds → ∀ x ∈ chL p ds, p ≤ x.f0 ∧ x.f0 < x.f1 ∧ x.f1 ≤ chE p ds
  | [], p, _, x, hx => by cases hx
  | d :: r, p, h, x, hx => by
    have h1 := h d (List.mem_cons_self ..)
    have hr : Fine r := fun e he => h e (List.mem_cons_of_mem _ he)
    have h2 := chE_le r (p + d) hr
    rw [chL, List.mem_cons] at hx
    rw [chE]
    rcases hx with rfl | hx
    · refine ⟨Int.le_refl _, by simp only; omega, by simp only; omega⟩
    · have := chL_in r (p + d) hr x hx
      omega
theorem chL_len : ∀ (ds : List Int) (p : Int), (chL p ds).length = ds.length
  | [], p => rfl
  | d :: r, p => by rw [chL, List.length_cons, chL_len r, List.length_cons]
theorem chW_len : ∀ (ds : List Int) (p : Int), (chW p ds).length = ds.length
  | [], p => rfl
  | d :: r, p => by rw [chW, List.length_cons, chW_len r, List.length_cons]
theorem toL_none {l : List S31} {a : Int} (h : ∀ x ∈ l, x.f0 ≠ a) : toL l a = [] := by
  rw [List.eq_nil_iff_forall_not_mem]
  intro t ht
  obtain ⟨x, hx, e, _⟩ := toL_mem.1 ht
  exact h x hx e
theorem toL_append (l m : List S31) (a : Int) : toL (l ++ m) a = toL l a ++ toL m a := by
  unfold toL
  rw [List.filter_append, List.map_append]
theorem skipT_end {T : Int → List Int} {n : Int} : ∀ (f : Nat) (a : Int), n - a ≤ f → a ≤ n → (∀ b, a ≤ b → T b = []) → skipT T n f a = n
  | 0, a, h, h1, _ => by rw [skipT]; omega
  | f + 1, a, h, h1, h2 => by
    rw [skipT]
    by_cases q : a < n
    · rw [if_pos ⟨q, h2 a (Int.le_refl _)⟩]
      exact skipT_end f (a + 1) (by omega) (by omega) (fun b hb => h2 b (by omega))
    · rw [if_neg (fun h => q h.1)]; omega
/-- The parts of a chain. -/
theorem chain_parts {N : Int} {l : List S31} : ∀ (ds : List Int) (p : Int) (pre : List S31) (f : Nat), l = pre ++ chL p ds → Fine ds → (∀ x ∈ pre, x.f0 < p) → chE p ds ≤ N → N - p ≤ f → partsL (toL l) N f p = chW p ds ++ (if chE p ds < N then [N] else [])
  | [], p, pre, f, hl, hd, hp, hN, hf => by
    rw [chE] at hN ⊢
    have hnone : ∀ b, p ≤ b → toL l b = [] := fun b hb => toL_none fun x hx => by
      rw [hl, chL, List.append_nil] at hx
      have := hp x hx
      omega
    by_cases q : p < N
    · obtain ⟨f, rfl⟩ : ∃ g, f = g + 1 := ⟨f - 1, by omega⟩
      have hnx : nextP (toL l) N p = N := by
        unfold nextP
        rw [if_pos (hnone p (Int.le_refl _))]
        exact skipT_end (N - p).toNat (p + 1) (by omega) (by omega) (fun b hb => hnone b (by omega))
      rw [partsL, if_pos q, hnx, if_pos q, chW, List.nil_append]
      cases f with
      | zero => rfl
      | succ f => rw [partsL, if_neg (by omega)]
    · rw [if_neg q, chW]
      cases f with
      | zero => rfl
      | succ f => rw [partsL, if_neg q]; rfl
  | d :: r, p, pre, f, hl, hd, hp, hN, hf => by
    have h1 := hd d (List.mem_cons_self ..)
    have hr : Fine r := fun e he => hd e (List.mem_cons_of_mem _ he)
    have h2 := chE_le r (p + d) hr
    rw [chE] at hN ⊢
    obtain ⟨f, rfl⟩ : ∃ g, f = g + 1 := ⟨f - 1, by omega⟩
    have hT : toL l p = [p + d] := by
      rw [hl, toL_append, toL_none (fun x hx => by have := hp x hx; omega), chL, toL_cons, if_pos rfl, toL_none (fun x hx => by have := chL_in r (p + d) hr x hx; omega)]
      rfl
    have hnx : nextP (toL l) N p = p + d := by
      unfold nextP bestT
      rw [hT, if_neg (by simp)]
      rfl
    have ih := chain_parts (N := N) (l := l) r (p + d) (pre ++ [(⟨p, p + d, 0⟩ : S31)]) f (by rw [hl, chL, List.append_assoc]; rfl) hr (fun x hx => by
      rw [List.mem_append, List.mem_singleton] at hx
      rcases hx with hx | rfl
      · have := hp x hx; omega
      · simp only; omega) hN (by omega)
    rw [partsL, if_pos (by omega), hnx, ih, chW]
    rfl
theorem chain_law (ds : List Int) (hd : Fine ds) (hl : ds.length ≤ 40) (rest : Int) (h0 : 0 ≤ rest ∧ rest ≤ 100) : partsR (chE 0 ds + rest) (chL 0 ds) = (0 :: (chW 0 ds ++ (if 0 < rest then [chE 0 ds + rest] else [])), 0) := by
  have h1 := chE_le ds 0 hd
  have hlen := chL_len ds 0
  have hok : okT (chE 0 ds + rest) (chL 0 ds) = true := by
    unfold okT limT
    rw [decide_eq_true (by omega), decide_eq_true (by omega), Bool.and_self, Bool.true_and, List.all_eq_true]
    intro x hx
    have := chL_in ds 0 hd x hx
    unfold spanOk
    simp
    omega
  unfold partsR
  rw [hok, if_pos rfl, chain_parts (N := chE 0 ds + rest) (l := chL 0 ds) ds 0 [] (chE 0 ds + rest).toNat rfl hd (fun x hx => by cases hx) (by omega) (by omega)]
  by_cases q : 0 < rest
  · rw [if_pos q, if_pos (by omega)]
  · rw [if_neg q, if_neg (by omega)]
theorem chE_snoc : ∀ (ds : List Int) (p d : Int), chE p (ds ++ [d]) = chE p ds + d ∧ chL p (ds ++ [d]) = chL p ds ++ [(⟨chE p ds, chE p ds + d, 0⟩ : S31)] ∧ chW p (ds ++ [d]) = chW p ds ++ [chE p ds + d]
  | [], p, d => ⟨rfl, rfl, rfl⟩
  | e :: r, p, d => by
    obtain ⟨h1, h2, h3⟩ := chE_snoc r (p + e) d
    refine ⟨?_, ?_, ?_⟩
    · rw [List.cons_append, chE, chE, h1]
    · rw [List.cons_append, chL, chL, h2, chE]; rfl
    · rw [List.cons_append, chW, chW, h3, chE]; rfl
theorem ev_chain (ds : List Int) (hl : ds.length ≤ 40) (rest : Int) (h0 : 0 ≤ rest ∧ rest ≤ 100) : ∀ (c i : Nat), i + c = ds.length → Fine (ds.take i) → Ev (fun k => scansionlaw20_ThaiChain.l0 k ds rest (chE 0 (ds.take i)) (chL 0 (ds.take i)) (0 :: chW 0 (ds.take i)) (i : Int)) true
  | 0, i, h, hf => by
    obtain rfl : i = ds.length := by omega
    rw [List.take_length] at hf ⊢
    have h1 := chE_le ds 0 hf
    have hlw := chW_len ds 0
    have hw : wrap64 (chE 0 ds + rest) = chE 0 ds + rest := by unfold wrap64; omega
    have hc := chain_law ds hf hl rest h0
    by_cases q : rest > 0
    · rw [if_pos (show 0 < rest from q)] at hc
      have hs := ev_sameInts (0 :: (chW 0 ds ++ [chE 0 ds + rest])) ((0 :: chW 0 ds) ++ [chE 0 ds + rest]) (by simp; omega)
      rw [decide_eq_true (show 0 :: (chW 0 ds ++ [chE 0 ds + rest]) = 0 :: chW 0 ds ++ [chE 0 ds + rest] from rfl)] at hs
      have h3 : Ev (fun k => (scansionref01_SameInts.f k (0 :: (chW 0 ds ++ [chE 0 ds + rest])) ((0 :: chW 0 ds) ++ [chE 0 ds + rest])).bind fun t => (some t : Option Bool)) true := hs.bind (g := fun _ t => some t) (Ev.some_ true)
      refine h3.succ fun k => ?_
      rw [scansionlaw20_ThaiChain.l0, if_neg (by omega), if_pos q, hw, if_pos (by simp; omega)]
      unfold thai_Parts.f
      rw [hc, Option.bind_some, if_pos rfl]
    · rw [if_neg (show ¬ 0 < rest from q), List.append_nil] at hc
      have hs := ev_sameInts (0 :: chW 0 ds) (0 :: chW 0 ds) (by simp; omega)
      rw [decide_eq_true rfl] at hs
      have h3 : Ev (fun k => (scansionref01_SameInts.f k (0 :: chW 0 ds) (0 :: chW 0 ds)).bind fun t => (some t : Option Bool)) true := hs.bind (g := fun _ t => some t) (Ev.some_ true)
      refine h3.succ fun k => ?_
      rw [scansionlaw20_ThaiChain.l0, if_neg (by omega), if_neg q, hw]
      unfold thai_Parts.f
      rw [hc, Option.bind_some, if_pos rfl]
  | c + 1, i, h, hf => by
    have hi : i < ds.length := by omega
    obtain ⟨d, hd⟩ : ∃ d, rd ds (i : Int) = d := ⟨_, rfl⟩
    by_cases q1 : d < 1
    · refine (Ev.some_ true).succ fun k => ?_
      rw [scansionlaw20_ThaiChain.l0, if_pos (by omega), if_pos (by omega), hd, if_pos q1]
    by_cases q2 : d > 50
    · refine (Ev.some_ true).succ fun k => ?_
      rw [scansionlaw20_ThaiChain.l0, if_pos (by omega), if_pos (by omega), hd, if_neg q1, if_pos q2]
    have htk : ds.take (i + 1) = ds.take i ++ [d] := by rw [List.take_succ_eq_append_getElem hi, ← hd, rdI_nat hi]
    have ih := ev_chain ds hl rest h0 c (i + 1) (by omega) (fun e he => by
      rw [htk, List.mem_append, List.mem_singleton] at he
      rcases he with he | rfl
      · exact hf e he
      · omega)
    have h1 := chE_le (ds.take i) 0 hf
    have hlt : (ds.take i).length ≤ 40 := by rw [List.length_take]; omega
    have hlw := chW_len (ds.take i) 0
    have hll := chL_len (ds.take i) 0
    obtain ⟨s1, s2, s3⟩ := chE_snoc (ds.take i) 0 d
    rw [htk, s1, s2, s3] at ih
    have hw : wrap64 (chE 0 (ds.take i) + d) = chE 0 (ds.take i) + d := by unfold wrap64; omega
    refine ih.succ fun k => ?_
    rw [scansionlaw20_ThaiChain.l0, if_pos (by omega), if_pos (by omega), hd, if_neg q1, if_neg q2, if_pos (by omega), if_pos (by simp; omega), hw, wrap_succ (by omega)]
    rfl
theorem ThaiChain : scansionlaw20_ThaiChain.Pure := by
  intro l0 a1 _ _ _ _
  have h1 : Ev (fun k => scansionlaw20_ThaiChain.f k l0 a1) true := by
    have jt : Ev (fun k => scansionlaw20_ThaiChain.j0 k l0 a1 true true) true := (Ev.some_ true).succ fun k => by rw [scansionlaw20_ThaiChain.j0, if_pos rfl]
    have fin : Ev (fun k => (if (l0.length : Int) > 40 then (scansionlaw20_ThaiChain.j0 k l0 a1 true true) else (if a1 < 0 then (scansionlaw20_ThaiChain.j0 k l0 a1 true true) else (scansionlaw20_ThaiChain.j0 k l0 a1 true (decide (a1 > 100)))))) true := by
      by_cases g0 : (l0.length : Int) > 40
      · exact jt.congr fun k => by rw [if_pos g0]
      by_cases g1 : a1 < 0
      · exact jt.congr fun k => by rw [if_neg g0, if_pos g1]
      by_cases g2 : a1 > 100
      · exact jt.congr fun k => by rw [if_neg g0, if_neg g1, decide_eq_true g2]
      have h := ev_chain l0 (by omega) a1 (by omega) l0.length 0 (by omega) (fun e he => by simp at he)
      have hj : Ev (fun k => scansionlaw20_ThaiChain.j0 k l0 a1 true false) true := h.succ fun k => by rw [scansionlaw20_ThaiChain.j0, if_neg (by simp)]; rfl
      exact hj.congr fun k => by rw [if_neg g0, if_neg g1, decide_eq_false g2]
    exact (ev_awake.bind (g := fun k t => if t = true then (if (l0.length : Int) > 40 then (scansionlaw20_ThaiChain.j0 k l0 a1 t true) else (if a1 < 0 then (scansionlaw20_ThaiChain.j0 k l0 a1 t true) else (scansionlaw20_ThaiChain.j0 k l0 a1 t (decide (a1 > 100))))) else (scansionlaw20_ThaiChain.j0 k l0 a1 t true)) (fin.congr fun k => by rw [if_pos rfl])).congr fun k => by rw [scansionlaw20_ThaiChain.f]
  obtain ⟨K, hK⟩ := h1
  exact ⟨K, hK K (Nat.le_refl _)⟩
end Go.Proofs.Ytfmnbebkeefboaa.Pure
