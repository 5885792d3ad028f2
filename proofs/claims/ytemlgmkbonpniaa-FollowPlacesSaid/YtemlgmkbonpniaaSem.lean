/- What the places of an expression are, as a law of its own: which come first, which last, which follow. -/
import Derived.Test.YtemlgmkbonpniaaRCatM
namespace Go.Proofs.Ytemlgmkbonpniaa.Print
open Go.RowKit Go.Maps Go.Proofs.YtemlgmkbonpniaaW.PrintWords Go.Proofs.YtemlgmkbonpniaaW.PrintLast Go.Proofs.YtemlgmkbonpniaaW.PrintMore
set_option linter.unusedVariables false
set_option linter.unusedSimpArgs false
mutual
/-- The empty word. -/
def eps : S24 → Bool
 | ⟨k, _, kids⟩ => if k = 1 then false else if k = 0 then epsC kids else if k = 2 then epsA kids else eps1 kids || decide (k ≠ 4)
def epsC : List S24 → Bool
 | [] => true
 | x :: l => eps x && epsC l
def epsA : List S24 → Bool
 | [] => false
 | x :: l => eps x || epsA l
def eps1 : List S24 → Bool
 | [] => false
 | x :: _ => eps x
end
mutual
/-- Place q comes first (o: the places ahead of the expression's). -/
def fstP : S24 → Int → Int → Prop
 | ⟨k, _, kids⟩, o, q => if k = 1 then q = o + 1 else if k = 0 then fstC kids o q else if k = 2 then fstA kids o q else fst1 kids o q
def fstC : List S24 → Int → Int → Prop
 | [], _, _ => False
 | x :: l, o, q => fstP x o q ∨ (eps x = true ∧ fstC l (o + cnt x) q)
def fstA : List S24 → Int → Int → Prop
 | [], _, _ => False
 | x :: l, o, q => fstP x o q ∨ fstA l (o + cnt x) q
def fst1 : List S24 → Int → Int → Prop
 | [], _, _ => False
 | x :: _, o, q => fstP x o q
end
mutual
/-- Place p comes last. -/
def lstP : S24 → Int → Int → Prop
 | ⟨k, _, kids⟩, o, p => if k = 1 then p = o + 1 else if k = 0 then lstC kids o p else if k = 2 then lstA kids o p else lst1 kids o p
def lstC : List S24 → Int → Int → Prop
 | [], _, _ => False
 | x :: l, o, p => lstC l (o + cnt x) p ∨ (epsC l = true ∧ lstP x o p)
def lstA : List S24 → Int → Int → Prop
 | [], _, _ => False
 | x :: l, o, p => lstP x o p ∨ lstA l (o + cnt x) p
def lst1 : List S24 → Int → Int → Prop
 | [], _, _ => False
 | x :: _, o, p => lstP x o p
end
mutual
/-- Place q may stand behind place p. -/
def folP : S24 → Int → Int → Int → Prop
 | ⟨k, _, kids⟩, o, p, q => if k = 1 then False else if k = 0 then folC kids o p q else if k = 2 then folA kids o p q else fol1 kids o p q ∨ (k ≠ 5 ∧ lst1 kids o p ∧ fst1 kids o q)
def folC : List S24 → Int → Int → Int → Prop
 | [], _, _, _ => False
 | x :: l, o, p, q => folP x o p q ∨ folC l (o + cnt x) p q ∨ (lstP x o p ∧ fstC l (o + cnt x) q)
def folA : List S24 → Int → Int → Int → Prop
 | [], _, _, _ => False
 | x :: l, o, p, q => folP x o p q ∨ folA l (o + cnt x) p q
def fol1 : List S24 → Int → Int → Int → Prop
 | [], _, _, _ => False
 | x :: _, o, p, q => folP x o p q
end
mutual
/-- The sets, in their order. -/
def leavesN : S24 → List Int
 | ⟨k, s, kids⟩ => if k = 1 then [s] else leavesL kids
def leavesL : List S24 → List Int
 | [] => []
 | x :: l => leavesN x ++ leavesL l
end
theorem leaves_len : ∀ x, (leavesN x).length = cnt x := by
 refine node_ind (P := fun x => (leavesN x).length = cnt x) (fun x ih => ?_)
 obtain ⟨a, b, kids⟩ := x
 have key : ∀ l : List S24, (∀ y ∈ l, (leavesN y).length = cnt y) → (leavesL l).length = cntL l := by
  intro l
  induction l with
  | nil => intro _; rw [leavesL, cntL]; rfl
  | cons y l ihl =>
   intro h
   rw [leavesL, cntL, List.length_append, h y List.mem_cons_self, ihl (fun z hz => h z (List.mem_cons_of_mem _ hz))]
 have h := key kids ih
 rw [leavesN, cnt]
 split
 ·rfl
 ·exact h
/-- What a part does to a state. -/
structure Sem (n : Nat) (lv : List Int) (e : Bool) (F L : Int → Prop) (R : Int → Int → Prop) (st : St) (r : St × Ed) : Prop where
 sets : r.1.sets = st.sets ++ lv
 nul : r.2.null = e
 fst : ∀ q, q ∈ r.2.first ↔ F q
 lst : ∀ p, p ∈ r.2.last ↔ L p
 fol : ∀ p q, 1 ≤ p → (q ∈ r.1.fol.getD (p - 1).toNat [] ↔ q ∈ st.fol.getD (p - 1).toNat [] ∨ R p q)
def SemN (x : S24) : Prop := ∀ st, Fit st → Sem (cnt x) (leavesN x) (eps x) (fstP x st.sets.length) (lstP x st.sets.length) (folP x st.sets.length) st (nodeR x st)
theorem getD_set' (l : List (List Int)) (i j : Nat) (v : List Int) (h : i < l.length) : (l.set i v).getD j [] = if i = j then v else l.getD j [] := by
 rw [List.getD_eq_getElem?_getD, List.getD_eq_getElem?_getD, List.getElem?_set]
 by_cases q : i = j
 ·subst q
  rw [if_pos rfl, if_pos h, if_pos rfl]
  rfl
 ·rw [if_neg q, if_neg q]
/-- What is behind places now. -/
theorem after_mem (last first : List Int) : ∀ (fol : List (List Int)) (p q : Int), 1 ≤ p → (∀ t ∈ last, 1 ≤ t ∧ t ≤ (fol.length : Int)) → (q ∈ (afterR fol last first).getD (p - 1).toNat [] ↔ q ∈ fol.getD (p - 1).toNat [] ∨ (p ∈ last ∧ q ∈ first)) := by
 unfold afterR
 induction last with
 | nil => intro fol p q _ _; simp
 | cons t l ih =>
  intro fol p q hp ht
  have h1 := ht t List.mem_cons_self
  rw [List.foldl_cons, ih _ p q hp (fun u hu => by rw [List.length_set]; exact ht u (List.mem_cons_of_mem _ hu)), getD_set' _ _ _ _ (by omega)]
  by_cases e : (t - 1).toNat = (p - 1).toNat
  ·have et : p = t := by omega
   subst et
   rw [if_pos rfl, bothR_mem]
   simp only [List.mem_cons, true_or, true_and]
   constructor
   ·rintro ((h | h) | ⟨_, h⟩)
    ·exact .inl h
    ·exact .inr h
    ·exact .inr h
   ·rintro (h | h)
    ·exact .inl (.inl h)
    ·exact .inl (.inr h)
  ·have et : p ≠ t := fun h => e (by rw [h])
   rw [if_neg e]
   simp only [List.mem_cons, et, false_or]
theorem leaf_sem (s : Int) (kids : List S24) : SemN ⟨1, s, kids⟩ := by
 intro st hf
 rw [show nodeR (⟨1, s, kids⟩ : S24) st = leafR s st by rw [nodeR_eq]; rfl]
 refine ⟨?_, ?_, fun q => ?_, fun p => ?_, fun p q hp => ?_⟩
 ·rw [leavesN, if_pos rfl]; rfl
 ·rw [eps, if_pos rfl]; rfl
 ·show q ∈ [((st.sets.length + 1 : Nat) : Int)] ↔ fstP _ _ _
  rw [fstP, if_pos rfl, List.mem_singleton]
  omega
 ·show p ∈ [((st.sets.length + 1 : Nat) : Int)] ↔ lstP _ _ _
  rw [lstP, if_pos rfl, List.mem_singleton]
  omega
 ·show q ∈ (st.fol ++ [[]]).getD (p - 1).toNat [] ↔ q ∈ st.fol.getD (p - 1).toNat [] ∨ folP _ _ _ _
  rw [folP, if_pos rfl, or_false, List.getD_eq_getElem?_getD, List.getD_eq_getElem?_getD]
  by_cases h : (p - 1).toNat < st.fol.length
  ·rw [List.getElem?_append_left h]
  ·rw [List.getElem?_append_right (by omega), List.getElem?_eq_none (l := st.fol) (by omega)]
   by_cases h2 : (p - 1).toNat - st.fol.length = 0
   ·rw [h2]; simp
   ·rw [List.getElem?_eq_none (by simp; omega)]
/-- Behind parts others stand: a part that ends with e has been there. -/
theorem cat_sem (l : List S24) (hl : ∀ y ∈ l, SemN y) : ∀ (st : St) (e : Ed), Fit st → GoodE st.sets.length e →
  Sem (cntL l) (leavesL l) (e.null && epsC l) (fun q => q ∈ e.first ∨ (e.null = true ∧ fstC l st.sets.length q)) (fun p => lstC l st.sets.length p ∨ (epsC l = true ∧ p ∈ e.last)) (fun p q => folC l st.sets.length p q ∨ (p ∈ e.last ∧ fstC l st.sets.length q)) st (catR l st e) := by
 induction l with
 | nil =>
  intro st e hf he
  rw [catR]
  refine ⟨by rw [leavesL, List.append_nil], by rw [epsC, Bool.and_true], fun q => ?_, fun p => ?_, fun p q hp => ?_⟩
  ·show q ∈ e.first ↔ q ∈ e.first ∨ (e.null = true ∧ fstC [] _ q)
   rw [fstC, and_false, or_false]
  ·show p ∈ e.last ↔ lstC [] _ p ∨ (epsC [] = true ∧ p ∈ e.last)
   rw [lstC, epsC, false_or]
   exact ⟨fun h => ⟨rfl, h⟩, fun h => h.2⟩
  ·show _ ↔ _ ∨ (folC [] _ p q ∨ (p ∈ e.last ∧ fstC [] _ q))
   rw [folC, fstC, and_false, or_false, or_false]
 | cons x l ih =>
  intro st e hf he
  have hx := hl x List.mem_cons_self st hf
  have hmx := nodeR_made x st hf
  have hone := catOne_made (st0 := st) (m := 0) hmx (Nat.le_refl _) (Nat.le_refl _) he
  obtain ⟨r, hr⟩ : ∃ r, r = nodeR x st := ⟨_, rfl⟩
  rw [← hr] at hx hmx hone
  have hlen : r.1.sets.length = st.sets.length + cnt x := by rw [hx.sets, List.length_append, leaves_len]
  have h2 := ih (fun y hy => hl y (List.mem_cons_of_mem _ hy)) (catOne r e).1 (catOne r e).2 hone.fit hone.good
  have hs : ((catOne r e).1.sets.length : Int) = (st.sets.length : Int) + cnt x := by show ((r.1.sets.length : Nat) : Int) = _; omega
  rw [hs] at h2
  rw [catR, ← hr]
  have hF : ∀ q, q ∈ (catOne r e).2.first ↔ q ∈ e.first ∨ (e.null = true ∧ fstP x st.sets.length q) := fun q => by
   show q ∈ (if e.null then bothR e.first r.2.first else e.first) ↔ _
   cases e.null
   ·simp
   ·simp only [if_true, bothR_mem, hx.fst, true_and]
  have hL : ∀ p, p ∈ (catOne r e).2.last ↔ lstP x st.sets.length p ∨ (eps x = true ∧ p ∈ e.last) := fun p => by
   show p ∈ (if r.2.null then bothR e.last r.2.last else r.2.last) ↔ _
   rw [hx.nul]
   cases eps x
   ·simp [hx.lst]
   ·simp only [if_true, bothR_mem, hx.lst, true_and]; exact or_comm
  have hN : (catOne r e).2.null = (e.null && eps x) := by show (e.null && r.2.null) = _; rw [hx.nul]
  have hR : ∀ p q, 1 ≤ p → (q ∈ (catOne r e).1.fol.getD (p - 1).toNat [] ↔ q ∈ st.fol.getD (p - 1).toNat [] ∨ folP x st.sets.length p q ∨ (p ∈ e.last ∧ fstP x st.sets.length q)) := fun p q hp => by
   show q ∈ (afterR r.1.fol e.last r.2.first).getD _ _ ↔ _
   rw [after_mem _ _ _ _ _ hp (fun t ht => by have h3 := he.last.2 t ht; have h4 := hmx.fit.len; omega), hx.fol p q hp, hx.fst, or_assoc]
  refine ⟨?_, ?_, fun q => ?_, fun p => ?_, fun p q hp => ?_⟩
  ·rw [h2.sets]
   show r.1.sets ++ leavesL l = _
   rw [hx.sets, leavesL, List.append_assoc]
  ·rw [h2.nul, hN, epsC, Bool.and_assoc]
  ·rw [h2.fst, hF, hN, fstC, Bool.and_eq_true]
   constructor
   ·rintro ((h | ⟨h, h'⟩) | ⟨⟨h, h'⟩, h3⟩)
    ·exact .inl h
    ·exact .inr ⟨h, .inl h'⟩
    ·exact .inr ⟨h, .inr ⟨h', h3⟩⟩
   ·rintro (h | ⟨h, (h' | ⟨h', h3⟩)⟩)
    ·exact .inl (.inl h)
    ·exact .inl (.inr ⟨h, h'⟩)
    ·exact .inr ⟨⟨h, h'⟩, h3⟩
  ·rw [h2.lst, hL, lstC, epsC, Bool.and_eq_true]
   constructor
   ·rintro (h | ⟨h, (h' | ⟨h', h3⟩)⟩)
    ·exact .inl (.inl h)
    ·exact .inl (.inr ⟨h, h'⟩)
    ·exact .inr ⟨⟨h', h⟩, h3⟩
   ·rintro ((h | ⟨h, h'⟩) | ⟨⟨h, h'⟩, h3⟩)
    ·exact .inl h
    ·exact .inr ⟨h, .inl h'⟩
    ·exact .inr ⟨h', .inr ⟨h, h3⟩⟩
  ·rw [h2.fol p q hp, hR p q hp, hL, folC, fstC]
   constructor
   ·rintro ((h | h | ⟨h, h'⟩) | (h | ⟨(h | ⟨h, h'⟩), h3⟩))
    ·exact .inl h
    ·exact .inr (.inl (.inl h))
    ·exact .inr (.inr ⟨h, .inl h'⟩)
    ·exact .inr (.inl (.inr (.inl h)))
    ·exact .inr (.inl (.inr (.inr ⟨h, h3⟩)))
    ·exact .inr (.inr ⟨h', .inr ⟨h, h3⟩⟩)
   ·rintro (h | ((h | h | ⟨h, h'⟩) | ⟨h, (h' | ⟨h', h3⟩)⟩))
    ·exact .inl (.inl h)
    ·exact .inl (.inr (.inl h))
    ·exact .inr (.inl h)
    ·exact .inr (.inr ⟨.inl h, h'⟩)
    ·exact .inl (.inr (.inr ⟨h, h'⟩))
    ·exact .inr (.inr ⟨.inr ⟨h', h⟩, h3⟩)
theorem alt_sem (l : List S24) (hl : ∀ y ∈ l, SemN y) : ∀ (st : St) (e : Ed), Fit st → GoodE st.sets.length e →
  Sem (cntL l) (leavesL l) (e.null || epsA l) (fun q => q ∈ e.first ∨ fstA l st.sets.length q) (fun p => p ∈ e.last ∨ lstA l st.sets.length p) (folA l st.sets.length) st (altR l st e) := by
 induction l with
 | nil =>
  intro st e hf he
  rw [altR]
  refine ⟨by rw [leavesL, List.append_nil], by rw [epsA, Bool.or_false], fun q => ?_, fun p => ?_, fun p q hp => ?_⟩
  ·show q ∈ e.first ↔ q ∈ e.first ∨ fstA [] _ q
   rw [fstA, or_false]
  ·show p ∈ e.last ↔ p ∈ e.last ∨ lstA [] _ p
   rw [lstA, or_false]
  ·rw [folA, or_false]
 | cons x l ih =>
  intro st e hf he
  have hx := hl x List.mem_cons_self st hf
  have hmx := nodeR_made x st hf
  have hone := altOne_made (st0 := st) (m := 0) hmx (Nat.le_refl _) (Nat.le_refl _) he
  obtain ⟨r, hr⟩ : ∃ r, r = nodeR x st := ⟨_, rfl⟩
  rw [← hr] at hx hmx hone
  have hlen : r.1.sets.length = st.sets.length + cnt x := by rw [hx.sets, List.length_append, leaves_len]
  have h2 := ih (fun y hy => hl y (List.mem_cons_of_mem _ hy)) (altOne r e).1 (altOne r e).2 hone.fit hone.good
  have hs : ((altOne r e).1.sets.length : Int) = (st.sets.length : Int) + cnt x := by show ((r.1.sets.length : Nat) : Int) = _; omega
  rw [hs] at h2
  rw [altR, ← hr]
  refine ⟨?_, ?_, fun q => ?_, fun p => ?_, fun p q hp => ?_⟩
  ·rw [h2.sets]
   show r.1.sets ++ leavesL l = _
   rw [hx.sets, leavesL, List.append_assoc]
  ·rw [h2.nul]
   show ((e.null || r.2.null) || epsA l) = _
   rw [hx.nul, epsA, Bool.or_assoc]
  ·rw [h2.fst]
   show q ∈ bothR e.first r.2.first ∨ _ ↔ _
   rw [bothR_mem, hx.fst, fstA, or_assoc]
  ·rw [h2.lst]
   show p ∈ bothR e.last r.2.last ∨ _ ↔ _
   rw [bothR_mem, hx.lst, lstA, or_assoc]
  ·rw [h2.fol p q hp]
   show q ∈ r.1.fol.getD _ _ ∨ _ ↔ _
   rw [hx.fol p q hp, folA, or_assoc]
theorem node_sem : ∀ x, rightN x = true → SemN x := by
 refine node_ind (P := fun x => rightN x = true → SemN x) (fun x ih hr => ?_)
 obtain ⟨k, s, kids⟩ := x
 replace ih : ∀ y ∈ kids, rightN y = true → SemN y := ih
 rw [rightN] at hr
 by_cases q1 : k = 1
 ·subst q1; exact leaf_sem s kids
 rw [if_neg q1] at hr
 by_cases q0 : k = 0
 ·subst q0
  rw [if_pos rfl] at hr
  intro st hf
  have h := cat_sem kids (fun y hy => ih y hy (rightL_mem hr y hy)) st ⟨true, [], []⟩ hf ⟨good_nil _, good_nil _⟩
  rw [show nodeR (⟨0, s, kids⟩ : S24) st = catR kids st ⟨true, [], []⟩ by rw [nodeR_eq]; rfl]
  refine ⟨?_, ?_, fun q => ?_, fun p => ?_, fun p q hp => ?_⟩
  ·rw [h.sets, leavesN, if_neg (by decide)]
  ·rw [h.nul, eps, if_neg (by decide), if_pos rfl, Bool.true_and]
  ·rw [h.fst, fstP, if_neg (by decide), if_pos rfl]; simp
  ·rw [h.lst, lstP, if_neg (by decide), if_pos rfl]; simp
  ·rw [h.fol p q hp, folP, if_neg (by decide), if_pos rfl]; simp
 rw [if_neg q0] at hr
 by_cases q2 : k = 2
 ·subst q2
  rw [if_pos rfl, Bool.and_eq_true] at hr
  intro st hf
  have h := alt_sem kids (fun y hy => ih y hy (rightL_mem hr.2 y hy)) st ⟨false, [], []⟩ hf ⟨good_nil _, good_nil _⟩
  rw [show nodeR (⟨2, s, kids⟩ : S24) st = altR kids st ⟨false, [], []⟩ by rw [nodeR_eq]; rfl]
  refine ⟨?_, ?_, fun q => ?_, fun p => ?_, fun p q hp => ?_⟩
  ·rw [h.sets, leavesN, if_neg (by decide)]
  ·rw [h.nul, eps, if_neg (by decide), if_neg (by decide), if_pos rfl, Bool.false_or]
  ·rw [h.fst, fstP, if_neg (by decide), if_neg (by decide), if_pos rfl]; simp
  ·rw [h.lst, lstP, if_neg (by decide), if_neg (by decide), if_pos rfl]; simp
  ·rw [h.fol p q hp, folP, if_neg (by decide), if_neg (by decide), if_pos rfl]
 rw [if_neg q2] at hr
 by_cases q3 : k = 3 ∨ k = 4 ∨ k = 5
 ·rw [if_pos q3, Bool.and_eq_true] at hr
  obtain ⟨x, rfl⟩ := List.length_eq_one_iff.1 (of_decide_eq_true hr.1)
  have hx := ih x List.mem_cons_self (rightL_mem hr.2 x List.mem_cons_self)
  intro st hf
  have h := hx st hf
  have hm := nodeR_made x st hf
  rw [show nodeR (⟨k, s, [x]⟩ : S24) st = signR k (nodeR x st) by rw [nodeR_eq]; show (if k = 1 then _ else if k = 0 then _ else if k = 2 then _ else _) = _; rw [if_neg q1, if_neg q0, if_neg q2, oneR]]
  obtain ⟨r, hr'⟩ : ∃ r, r = nodeR x st := ⟨_, rfl⟩
  rw [← hr'] at h hm ⊢
  have ec : cnt ⟨k, s, [x]⟩ = cnt x := by rw [cnt, if_neg q1, cntL, cntL]; rfl
  refine ⟨?_, ?_, fun q => ?_, fun p => ?_, fun p q hp => ?_⟩
  ·show r.1.sets = _
   rw [h.sets, leavesN, if_neg q1, leavesL, leavesL, List.append_nil]
  ·show (r.2.null || decide (k ≠ 4)) = _
   rw [h.nul, eps, if_neg q1, if_neg q0, if_neg q2, eps1]
  ·show q ∈ r.2.first ↔ _
   rw [h.fst, fstP, if_neg q1, if_neg q0, if_neg q2, fst1]
  ·show p ∈ r.2.last ↔ _
   rw [h.lst, lstP, if_neg q1, if_neg q0, if_neg q2, lst1]
  ·show q ∈ (if k = 5 then r.1.fol else afterR r.1.fol r.2.last r.2.first).getD _ _ ↔ _
   rw [folP, if_neg q1, if_neg q0, if_neg q2, fol1, lst1, fst1]
   by_cases q5 : k = 5
   ·rw [if_pos q5, h.fol p q hp]
    simp [q5]
   ·rw [if_neg q5, after_mem _ _ _ _ _ hp (fun t ht => by have h3 := hm.good.last.2 t ht; have h4 := hm.fit.len; omega), h.fol p q hp, h.lst, h.fst]
    simp only [ne_eq, q5, not_false_eq_true, true_and, or_assoc]
 ·rw [if_neg q3] at hr; cases hr
end Go.Proofs.Ytemlgmkbonpniaa.Print
