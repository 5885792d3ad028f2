/- Plain law: the states of subset.Build are met one behind the other; SubsetMet. -/
import Derived.Test.YtemlgmkbonpniaaSLawR
import Derived.Test.YtemlgmkbonpniaaSBuild
import Derived.Test.YtemlgmkbonpniaaPrint47
namespace Go.Proofs.Ytemlgmkbonpniaa.Print
open Go.RowKit Go.Maps Go.Proofs.YtemlgmkbonpniaaW.PrintWords Go.Proofs.YtemlgmkbonpniaaW.PrintLast Go.Proofs.YtemlgmkbonpniaaW.PrintMore
set_option linter.unusedVariables false
set_option linter.unusedSimpArgs false
def seenRow : Int → List Int → Option Int
 | n, [] => some n
 | n, x :: l => if x > n then none else if x = n then seenRow (n + 1) l else seenRow n l
def seenAll : Int → List (List Int) → Option Int
 | n, [] => some n
 | n, r :: l => (seenRow n r).bind fun m => seenAll m l
theorem seenRow_le : ∀ (l : List Int) (n m : Int), seenRow n l = some m → n ≤ m := by
 intro l
 induction l with
 | nil => intro n m h; rw [seenRow] at h; have := Option.some.inj h; omega
 | cons x l ih =>
  intro n m h
  rw [seenRow] at h
  split at h
  ·cases h
  ·split at h
   ·have := ih _ _ h; omega
   ·exact ih _ _ h
theorem seenAll_le : ∀ (l : List (List Int)) (n m : Int), seenAll n l = some m → n ≤ m := by
 intro l
 induction l with
 | nil => intro n m h; rw [seenAll] at h; have := Option.some.inj h; omega
 | cons x l ih =>
  intro n m h
  rw [seenAll] at h
  cases e : seenRow n x with
  | none => rw [e] at h; cases h
  | some a =>
   rw [e, Option.bind_some] at h
   have := seenRow_le _ _ _ e
   have := ih _ _ h
   omega
theorem metR_step (sts : List (List Int)) (x : List Int) : ((metR sts x).1 < sts.length ∧ (metR sts x).2.length = sts.length) ∨ ((metR sts x).1 = sts.length ∧ (metR sts x).2.length = sts.length + 1) := by
 unfold metR
 split
 next h => exact .inl ⟨(stR_idx h).1, rfl⟩
 ·exact .inr ⟨rfl, by show (sts ++ [x]).length = _; simp⟩
theorem rowGo_law (r : Bt) (free : Bool) (lim : Int) (a : List Int) : ∀ (ms : List Int) (sts : List (List Int)) (row : List Int) (t : List (List Int) × List Int), rowGo r free lim a ms sts row = some t →
  ∃ tl, t.2 = row ++ tl ∧ tl.length = ms.length ∧ seenRow sts.length tl = some (t.1.length : Int) ∧ (∀ x ∈ tl, 0 ≤ x ∧ x < (t.1.length : Int)) ∧ sts.length ≤ t.1.length ∧ ((sts.length : Int) ≤ lim → (t.1.length : Int) ≤ lim) := by
 intro ms
 induction ms with
 | nil =>
  intro sts row t h
  rw [rowGo] at h
  rw [← Option.some.inj h]
  exact ⟨[], (List.append_nil _).symm, rfl, by rw [seenRow], (fun x hx => by cases hx), Nat.le_refl _, fun h => h⟩
 | cons m ms ih =>
  intro sts row t h
  rw [rowGo] at h
  split at h
  ·cases h
  next hlim =>
   obtain ⟨tl, h1, h2, h3, h4, h5, h6⟩ := ih _ _ _ h
   have hs := metR_step sts (xOf r free a m)
   refine ⟨((metR sts (xOf r free a m)).1 : Int) :: tl, by rw [h1, List.append_assoc]; rfl, by rw [List.length_cons, List.length_cons, h2], ?_, fun x hx => ?_, by omega, fun _ => h6 (by omega)⟩
   ·rw [seenRow, if_neg (by omega)]
    rcases hs with ⟨a1, a2⟩ | ⟨a1, a2⟩
    ·rw [if_neg (by omega), ← a2]; exact h3
    ·rw [if_pos (by omega), show (sts.length : Int) + 1 = ((metR sts (xOf r free a m)).2.length : Int) by omega]; exact h3
   ·rcases List.mem_cons.1 hx with rfl | hx
    ·omega
    ·exact h4 x hx
theorem goD_law (r : Bt) (free : Bool) (lim : Int) (masks : List Int) : ∀ (k s : Nat) (sts next : List (List Int)) (fin : List Bool), s ≤ sts.length → (sts.length : Int) ≤ lim →
  goD r free lim masks k s sts next fin = ([], [], 8) ∨ ∃ T G, goD r free lim masks k s sts next fin = (next ++ T, fin ++ G, 0) ∧ G.length = T.length ∧ seenAll sts.length T = some ((s + T.length : Nat) : Int) ∧ sts.length ≤ s + T.length ∧ ((s + T.length : Nat) : Int) ≤ lim ∧ ∀ q ∈ T, q.length = masks.length ∧ ∀ x ∈ q, 0 ≤ x ∧ x < ((s + T.length : Nat) : Int) := by
 intro k
 induction k with
 | zero => intro s sts next fin _ _; exact .inl (by rw [goD])
 | succ k ih =>
  intro s sts next fin hs hl
  rw [goD]
  split
  next hlt =>
   cases e : rowGo r free lim (stR sts s) masks sts [] with
   | none => exact .inl rfl
   | some t =>
    obtain ⟨tl, h1, h2, h3, h4, h5, h6⟩ := rowGo_law _ _ _ _ _ _ _ _ e
    rcases ih (s + 1) t.1 (next ++ [t.2]) (fin ++ [endR r.1 r.2.2.2.1 (stR sts s)]) (by omega) (h6 hl) with h | ⟨T, G, g1, g2, g3, g4, g5, g6⟩
    ·exact .inl h
    ·have hT : ((s + (t.2 :: T).length : Nat) : Int) = ((s + 1 + T.length : Nat) : Int) := by rw [List.length_cons]; omega
     refine .inr ⟨t.2 :: T, endR r.1 r.2.2.2.1 (stR sts s) :: G, ?_, by rw [List.length_cons, List.length_cons, g2], ?_, by rw [List.length_cons]; omega, by rw [hT]; exact g5, fun q hq => ?_⟩
     ·show goD r free lim masks k (s + 1) t.1 (next ++ [t.2]) (fin ++ [endR r.1 r.2.2.2.1 (stR sts s)]) = _
      rw [g1, List.append_assoc, List.append_assoc]; rfl
     ·rw [hT, seenAll, h1, List.nil_append, h3, Option.bind_some]; exact g3
     ·rw [hT]
      rcases List.mem_cons.1 hq with rfl | hq
      ·rw [h1, List.nil_append]
       exact ⟨h2, fun x hx => ⟨(h4 x hx).1, by have := (h4 x hx).2; omega⟩⟩
      ·exact g6 q hq
  next hge =>
   refine .inr ⟨[], [], by rw [List.append_nil, List.append_nil], rfl, ?_, by simp; omega, ?_, fun q hq => by cases hq⟩
   ·rw [seenAll]; congr 1; simp; omega
   ·simp; omega
theorem rightD_goD {T : List (List Int)} {G : List Bool} {c : Nat} (hc : 1 ≤ c) (hc2 : c ≤ 200) (h1 : 1 ≤ T.length) (h2 : T.length ≤ 5000) (hg : G.length = T.length) (h : ∀ q ∈ T, q.length = c ∧ ∀ x ∈ q, 0 ≤ x ∧ x < (T.length : Int)) : rightD T G = true := by
 have h0 : (rd_L3 T 0).length = c := (h _ (row_at (by omega) (by omega))).1
 exact (rightD_iff T G).2 ⟨h1, h2, hg, by omega, by omega, fun q hq => ⟨by rw [h0]; exact (h q hq).1, (h q hq).2⟩⟩
/-- What subset.Build answers. -/
theorem subsetR_law (r : Bt) (masks : List Int) (free : Bool) (lim : Int) (h1 : 1 ≤ masks.length) (h2 : masks.length ≤ 200) (h3 : 1 ≤ lim) (h4 : lim ≤ 5000) :
  subsetR r masks free lim = ([], [], 8) ∨ ∃ T G, subsetR r masks free lim = (T, G, 0) ∧ rightD T G = true ∧ seenAll 1 T = some (T.length : Int) ∧ (T.length : Int) ≤ lim := by
 unfold subsetR
 rw [if_neg (by omega)]
 rcases goD_law r free lim masks (lim.toNat + 1) 0 [[0]] [] [] (by simp) (by simpa using h3) with h | ⟨T, G, g1, g2, g3, g4, g5, g6⟩
 ·exact .inl h
 ·rw [Nat.zero_add] at g3 g4 g5 g6
  simp only [List.length_singleton] at g4
  refine .inr ⟨T, G, by rw [g1]; rfl, rightD_goD h1 h2 g4 (by omega) g2 g6, ?_, g5⟩
  exact g3
/-! ### the law's loop -/
theorem few_is (x : S24) (hz : Lens x) (masks : List Int) : ∃ b, Evs (fun k => scansionlaw12_few.f k x.f0 x.f1 x.f2 masks) b ∧ (b = true → siz x < 25 ∧ masks.length ≤ 12) := by
 obtain ⟨t, ⟨K, hK⟩, hd, hlow⟩ := nodes_f x hz 25 10 (by omega) (by omega) (by omega)
 by_cases q : t < 25
 ·refine ⟨decide ((masks.length : Int) ≤ 12), ⟨K, fun k hk => ?_⟩, fun h => ⟨by rw [← hlow q]; exact q, by have := of_decide_eq_true h; omega⟩⟩
  ·show scansionlaw12_few.f k _ _ _ _ = _
   have h3 : scansionref08_Nodes.f k x.f0 x.f1 x.f2 25 10 = some (t : Int) := hK k hk
   unfold scansionlaw12_few.f
   rw [h3, Option.bind_some, if_pos (by omega)]
 ·refine ⟨false, ⟨K, fun k hk => ?_⟩, fun h => by cases h⟩
  show scansionlaw12_few.f k _ _ _ _ = _
  have h3 : scansionref08_Nodes.f k x.f0 x.f1 x.f2 25 10 = some (t : Int) := hK k hk
  unfold scansionlaw12_few.f
  rw [h3, Option.bind_some, if_neg (by omega)]
end Go.Proofs.Ytemlgmkbonpniaa.Print
