/- Plain law: a word's ways through an expression are the ways from place to place. · Marked places of a word. -/
import Derived.Test.YtemlgmkbonpniaaSem
import Derived.Test.YtemlgmkbonpniaaPrint0
import Derived.Test.YtemlgmkbonpniaaFStepM
namespace Go.Proofs.Ytemlgmkbonpniaa.Print
set_option linter.unusedVariables false
set_option linter.unusedSimpArgs false
section
variable (M : Nat → Int → Prop)
/-- As often as one likes. -/
inductive Many (W : Nat → Nat → Prop) : Nat → Nat → Prop
  | refl (i : Nat) : Many W i i
  | more {i j k : Nat} : Many W i j → W j k → Many W i k
theorem Many.mono {W W' : Nat → Nat → Prop} (h : ∀ i j, W i j → W' i j) {i j : Nat} (hm : Many W i j) : Many W' i j := by
  induction hm with
  | refl => exact .refl _
  | more _ hw ih => exact .more ih (h _ _ hw)
theorem Many.iff {W W' : Nat → Nat → Prop} (h : ∀ i j, W i j ↔ W' i j) (i j : Nat) : Many W i j ↔ Many W' i j := ⟨Many.mono fun i j => (h i j).1, Many.mono fun i j => (h i j).2⟩
mutual
/-- The signs from i to j are a word of the expression. -/
def WayN : S24 → Nat → Nat → Prop
  | ⟨k, s, kids⟩, i, j => if k = 1 then j = i + 1 ∧ M i s else if k = 0 then WayC kids i j else if k = 2 then WayA kids i j else if k = 3 then Many (Way1 kids) i j else if k = 4 then ∃ m, Way1 kids i m ∧ Many (Way1 kids) m j else i = j ∨ Way1 kids i j
def WayC : List S24 → Nat → Nat → Prop
  | [], i, j => i = j
  | x :: l, i, j => ∃ m, WayN x i m ∧ WayC l m j
def WayA : List S24 → Nat → Nat → Prop
  | [], _, _ => False
  | x :: l, i, j => WayN x i j ∨ WayA l i j
def Way1 : List S24 → Nat → Nat → Prop
  | [], _, _ => False
  | x :: _, i, j => WayN x i j
end
variable (S : Int → Int)
/-- From place to place. -/
inductive Go (F : Int → Prop) (R : Int → Int → Prop) (i : Nat) : Int → Nat → Prop
  | one {q : Int} : F q → M i (S q) → Go F R i q (i + 1)
  | more {p q : Int} {j : Nat} : Go F R i p j → R p q → M j (S q) → Go F R i q (j + 1)
theorem Go.lt {F : Int → Prop} {R : Int → Int → Prop} {i j : Nat} {p : Int} (h : Go M S F R i p j) : i < j := by
  induction h with
  | one => omega
  | more _ _ _ ih => omega
theorem Go.mono {F F' : Int → Prop} {R R' : Int → Int → Prop} (hF : ∀ q, F q → F' q) (hR : ∀ p q, R p q → R' p q) {i j : Nat} {p : Int} (h : Go M S F R i p j) : Go M S F' R' i p j := by
  induction h with
  | one h1 h2 => exact .one (hF _ h1) h2
  | more _ h2 h3 ih => exact .more ih (hR _ _ h2) h3
theorem Go.inn {F : Int → Prop} {R : Int → Int → Prop} {P : Int → Prop} (hF : ∀ q, F q → P q) (hR : ∀ p q, R p q → P q) {i j : Nat} {p : Int} (h : Go M S F R i p j) : P p := by
  cases h with
  | one h1 _ => exact hF _ h1
  | more _ h2 _ => exact hR _ _ h2
/-- A way is a way from place to place. -/
def Loc (W : Nat → Nat → Prop) (e : Bool) (F L : Int → Prop) (R : Int → Int → Prop) : Prop := ∀ i j, W i j ↔ (i = j ∧ e = true) ∨ ∃ p, Go M S F R i p j ∧ L p
theorem Loc.congr {W W' : Nat → Nat → Prop} {e e' : Bool} {F F' L L' : Int → Prop} {R R' : Int → Int → Prop} (h : Loc M S W e F L R) (hW : ∀ i j, W i j ↔ W' i j) (he : e = e') (hF : ∀ q, F q ↔ F' q) (hL : ∀ q, L q ↔ L' q) (hR : ∀ p q, R p q ↔ R' p q) : Loc M S W' e' F' L' R' := by
  have e1 : F = F' := funext fun q => propext (hF q)
  have e2 : L = L' := funext fun q => propext (hL q)
  have e3 : R = R' := funext fun p => funext fun q => propext (hR p q)
  subst he e1 e2 e3
  exact fun i j => (hW i j).symm.trans (h i j)
theorem loc_leaf {o s : Int} (hs : S (o + 1) = s) : Loc M S (fun i j => j = i + 1 ∧ M i s) false (fun q => q = o + 1) (fun p => p = o + 1) (fun _ _ => False) := by
  intro i j
  constructor
  · rintro ⟨rfl, h⟩
    exact .inr ⟨o + 1, .one rfl (by rw [hs]; exact h), rfl⟩
  · rintro (⟨_, h⟩ | ⟨p, hg, hp⟩)
    · cases h
    · cases hg with
      | one h1 h2 => subst h1; rw [hs] at h2; exact ⟨rfl, h2⟩
      | more _ h2 _ => exact h2.elim
/-- Two behind each other. -/
theorem loc_cat {W1 W2 : Nat → Nat → Prop} {e1 e2 : Bool} {F1 F2 L1 L2 : Int → Prop} {R1 R2 : Int → Int → Prop} {P1 P2 : Int → Prop}
    (h1 : Loc M S W1 e1 F1 L1 R1) (h2 : Loc M S W2 e2 F2 L2 R2) (hd : ∀ q, P1 q → P2 q → False)
    (f1 : ∀ q, F1 q → P1 q) (l1 : ∀ q, L1 q → P1 q) (r1 : ∀ p q, R1 p q → P1 p ∧ P1 q) (f2 : ∀ q, F2 q → P2 q) (l2 : ∀ q, L2 q → P2 q) (r2 : ∀ p q, R2 p q → P2 p ∧ P2 q) :
    Loc M S (fun i j => ∃ m, W1 i m ∧ W2 m j) (e1 && e2) (fun q => F1 q ∨ (e1 = true ∧ F2 q)) (fun p => L2 p ∨ (e2 = true ∧ L1 p)) (fun p q => R1 p q ∨ R2 p q ∨ (L1 p ∧ F2 q)) := by
  intro i j
  have key : ∀ p j, Go M S (fun q => F1 q ∨ (e1 = true ∧ F2 q)) (fun p q => R1 p q ∨ R2 p q ∨ (L1 p ∧ F2 q)) i p j → (P1 p ∧ Go M S F1 R1 i p j) ∨ (P2 p ∧ ∃ m, W1 i m ∧ Go M S F2 R2 m p j) := by
    intro p j h
    induction h with
    | one hf hm =>
      rcases hf with hf | ⟨he, hf⟩
      · exact .inl ⟨f1 _ hf, .one hf hm⟩
      · exact .inr ⟨f2 _ hf, i, (h1 i i).2 (.inl ⟨rfl, he⟩), .one hf hm⟩
    | @more p q j hg hr hm ih =>
      rcases ih with ⟨hp, hg1⟩ | ⟨hp, m, hw, hg2⟩
      · rcases hr with hr | hr | ⟨hl, hf⟩
        · exact .inl ⟨(r1 _ _ hr).2, .more hg1 hr hm⟩
        · exact (hd _ hp (r2 _ _ hr).1).elim
        · exact .inr ⟨f2 _ hf, j, (h1 i j).2 (.inr ⟨p, hg1, hl⟩), .one hf hm⟩
      · rcases hr with hr | hr | ⟨hl, hf⟩
        · exact (hd _ (r1 _ _ hr).1 hp).elim
        · exact .inr ⟨(r2 _ _ hr).2, m, hw, .more hg2 hr hm⟩
        · exact (hd _ (l1 _ hl) hp).elim
  -- a way of the second part behind a way of the first one
  have join : ∀ m p j, W1 i m → Go M S F2 R2 m p j → Go M S (fun q => F1 q ∨ (e1 = true ∧ F2 q)) (fun p q => R1 p q ∨ R2 p q ∨ (L1 p ∧ F2 q)) i p j := by
    intro m p j hw hg
    induction hg with
    | one hf hm =>
      rcases (h1 i m).1 hw with ⟨rfl, he⟩ | ⟨p, hg1, hl⟩
      · exact .one (.inr ⟨he, hf⟩) hm
      · exact .more (Go.mono M S (fun q h => .inl h) (fun p q h => .inl h) hg1) (.inr (.inr ⟨hl, hf⟩)) hm
    | more _ hr hm ih => exact .more ih (.inr (.inl hr)) hm
  constructor
  · rintro ⟨m, hw1, hw2⟩
    rcases (h2 m j).1 hw2 with ⟨rfl, he2⟩ | ⟨p, hg, hl⟩
    · rcases (h1 i m).1 hw1 with ⟨rfl, he1⟩ | ⟨p, hg, hl⟩
      · exact .inl ⟨rfl, by rw [he1, he2]; rfl⟩
      · exact .inr ⟨p, Go.mono M S (fun q h => .inl h) (fun p q h => .inl h) hg, .inr ⟨he2, hl⟩⟩
    · exact .inr ⟨p, join m p j hw1 hg, .inl hl⟩
  · rintro (⟨rfl, he⟩ | ⟨p, hg, hl⟩)
    · rw [Bool.and_eq_true] at he
      exact ⟨i, (h1 i i).2 (.inl ⟨rfl, he.1⟩), (h2 i i).2 (.inl ⟨rfl, he.2⟩)⟩
    · rcases key p j hg with ⟨hp, hg1⟩ | ⟨hp, m, hw, hg2⟩
      · rcases hl with hl | ⟨he, hl⟩
        · exact (hd _ hp (l2 _ hl)).elim
        · exact ⟨j, (h1 i j).2 (.inr ⟨p, hg1, hl⟩), (h2 j j).2 (.inl ⟨rfl, he⟩)⟩
      · rcases hl with hl | ⟨he, hl⟩
        · exact ⟨m, hw, (h2 m j).2 (.inr ⟨p, hg2, hl⟩)⟩
        · exact (hd _ (l1 _ hl) hp).elim
/-- One or the other. -/
theorem loc_alt {W1 W2 : Nat → Nat → Prop} {e1 e2 : Bool} {F1 F2 L1 L2 : Int → Prop} {R1 R2 : Int → Int → Prop} {P1 P2 : Int → Prop}
    (h1 : Loc M S W1 e1 F1 L1 R1) (h2 : Loc M S W2 e2 F2 L2 R2) (hd : ∀ q, P1 q → P2 q → False)
    (f1 : ∀ q, F1 q → P1 q) (l1 : ∀ q, L1 q → P1 q) (r1 : ∀ p q, R1 p q → P1 p ∧ P1 q) (f2 : ∀ q, F2 q → P2 q) (l2 : ∀ q, L2 q → P2 q) (r2 : ∀ p q, R2 p q → P2 p ∧ P2 q) :
    Loc M S (fun i j => W1 i j ∨ W2 i j) (e1 || e2) (fun q => F1 q ∨ F2 q) (fun p => L1 p ∨ L2 p) (fun p q => R1 p q ∨ R2 p q) := by
  intro i j
  have key : ∀ p j, Go M S (fun q => F1 q ∨ F2 q) (fun p q => R1 p q ∨ R2 p q) i p j → (P1 p ∧ Go M S F1 R1 i p j) ∨ (P2 p ∧ Go M S F2 R2 i p j) := by
    intro p j h
    induction h with
    | one hf hm =>
      rcases hf with hf | hf
      · exact .inl ⟨f1 _ hf, .one hf hm⟩
      · exact .inr ⟨f2 _ hf, .one hf hm⟩
    | more hg hr hm ih =>
      rcases ih with ⟨hp, hg1⟩ | ⟨hp, hg2⟩
      · rcases hr with hr | hr
        · exact .inl ⟨(r1 _ _ hr).2, .more hg1 hr hm⟩
        · exact (hd _ hp (r2 _ _ hr).1).elim
      · rcases hr with hr | hr
        · exact (hd _ (r1 _ _ hr).1 hp).elim
        · exact .inr ⟨(r2 _ _ hr).2, .more hg2 hr hm⟩
  constructor
  · rintro (h | h)
    · rcases (h1 i j).1 h with ⟨rfl, he⟩ | ⟨p, hg, hl⟩
      · exact .inl ⟨rfl, by rw [he]; rfl⟩
      · exact .inr ⟨p, Go.mono M S (fun q h => .inl h) (fun p q h => .inl h) hg, .inl hl⟩
    · rcases (h2 i j).1 h with ⟨rfl, he⟩ | ⟨p, hg, hl⟩
      · exact .inl ⟨rfl, by rw [he, Bool.or_true]⟩
      · exact .inr ⟨p, Go.mono M S (fun q h => .inr h) (fun p q h => .inr h) hg, .inr hl⟩
  · rintro (⟨rfl, he⟩ | ⟨p, hg, hl⟩)
    · rw [Bool.or_eq_true] at he
      rcases he with he | he
      · exact .inl ((h1 i i).2 (.inl ⟨rfl, he⟩))
      · exact .inr ((h2 i i).2 (.inl ⟨rfl, he⟩))
    · rcases key p j hg with ⟨hp, hg1⟩ | ⟨hp, hg2⟩
      · rcases hl with hl | hl
        · exact .inl ((h1 i j).2 (.inr ⟨p, hg1, hl⟩))
        · exact (hd _ hp (l2 _ hl)).elim
      · rcases hl with hl | hl
        · exact (hd _ (l1 _ hl) hp).elim
        · exact .inr ((h2 i j).2 (.inr ⟨p, hg2, hl⟩))
section
variable {W : Nat → Nat → Prop} {e : Bool} {F L : Int → Prop} {R : Int → Int → Prop}
theorem many_join (h : Loc M S W e F L R) {i m : Nat} (hw : Many W i m) : ∀ p j, Go M S F R m p j → Go M S F (fun p q => R p q ∨ (L p ∧ F q)) i p j := by
  induction hw with
  | refl => exact fun p j hg => Go.mono M S (fun q h => h) (fun p q h => .inl h) hg
  | @more a b hm hw ih =>
    intro p j hg
    rcases (h a b).1 hw with ⟨rfl, he⟩ | ⟨p0, hg0, hl⟩
    · exact ih p j hg
    · induction hg with
      | one hf hM => exact .more (ih p0 _ hg0) (.inr ⟨hl, hf⟩) hM
      | more _ hr hM ih2 => exact .more ih2 (.inl hr) hM
theorem many_part (h : Loc M S W e F L R) {i : Nat} : ∀ p j, Go M S F (fun p q => R p q ∨ (L p ∧ F q)) i p j → ∃ m, Many W i m ∧ Go M S F R m p j := by
  intro p j hg
  induction hg with
  | one hf hM => exact ⟨i, .refl _, .one hf hM⟩
  | @more p q j hg hr hM ih =>
    obtain ⟨m, hm, hg1⟩ := ih
    rcases hr with hr | ⟨hl, hf⟩
    · exact ⟨m, hm, .more hg1 hr hM⟩
    · exact ⟨j, .more hm ((h m j).2 (.inr ⟨p, hg1, hl⟩)), .one hf hM⟩
theorem many_last {i j : Nat} (hm : Many W i j) : i = j ∨ ∃ b, Many W i b ∧ W b j := by
  cases hm with
  | refl => exact .inl rfl
  | more h1 h2 => exact .inr ⟨_, h1, h2⟩
theorem many_go (h : Loc M S W e F L R) {i j : Nat} (hm : Many W i j) : i = j ∨ ∃ p, Go M S F (fun p q => R p q ∨ (L p ∧ F q)) i p j ∧ L p := by
  induction hm with
  | refl => exact .inl rfl
  | @more a b hm hw ih =>
    rcases (h a b).1 hw with ⟨rfl, he⟩ | ⟨p, hg, hl⟩
    · exact ih
    · exact .inr ⟨p, many_join M S h hm p _ hg, hl⟩
theorem loc_star (h : Loc M S W e F L R) : Loc M S (Many W) true F L (fun p q => R p q ∨ (L p ∧ F q)) := by
  intro i j
  constructor
  · intro hm
    rcases many_go M S h hm with rfl | h1
    · exact .inl ⟨rfl, rfl⟩
    · exact .inr h1
  · rintro (⟨rfl, _⟩ | ⟨p, hg, hl⟩)
    · exact .refl _
    · obtain ⟨m, hm, hg1⟩ := many_part M S h p j hg
      exact .more hm ((h m j).2 (.inr ⟨p, hg1, hl⟩))
theorem many_head {i j : Nat} (hm : Many W i j) : i = j ∨ ∃ m, W i m ∧ Many W m j := by
  induction hm with
  | refl => exact .inl rfl
  | more hm hw ih =>
    rcases ih with rfl | ⟨m, h1, h2⟩
    · exact .inr ⟨_, hw, .refl _⟩
    · exact .inr ⟨m, h1, .more h2 hw⟩
theorem many_cons {i j k : Nat} (hw : W i j) (hm : Many W j k) : Many W i k := by
  induction hm with
  | refl => exact .more (.refl _) hw
  | more _ h ih => exact .more ih h
theorem loc_plus (h : Loc M S W e F L R) : Loc M S (fun i j => ∃ m, W i m ∧ Many W m j) e F L (fun p q => R p q ∨ (L p ∧ F q)) := by
  intro i j
  constructor
  · rintro ⟨m, hw, hm⟩
    rcases ((loc_star M S h) i j).1 (many_cons hw hm) with ⟨rfl, _⟩ | h1
    · -- the way from i to i
      by_cases he : e = true
      · exact .inl ⟨rfl, he⟩
      · rcases (h i m).1 hw with ⟨_, h2⟩ | ⟨p, hg, hl⟩
        · exact (he h2).elim
        · have h3 := hg.lt
          have h4 : ∀ a b, Many W a b → a ≤ b := by
            intro a b hab
            induction hab with
            | refl => exact Nat.le_refl _
            | @more b c _ hw ih =>
              rcases (h b c).1 hw with ⟨rfl, _⟩ | ⟨p, hg, _⟩
              · exact ih
              · have := hg.lt; omega
          have := h4 _ _ hm
          omega
    · exact .inr h1
  · rintro (⟨rfl, he⟩ | ⟨p, hg, hl⟩)
    · exact ⟨i, (h i i).2 (.inl ⟨rfl, he⟩), .refl _⟩
    · obtain ⟨m, hm, hg1⟩ := many_part M S h p j hg
      have hw := (h m j).2 (.inr ⟨p, hg1, hl⟩)
      rcases many_head hm with rfl | ⟨a, h1, h2⟩
      · exact ⟨j, hw, .refl _⟩
      · exact ⟨a, h1, .more h2 hw⟩
theorem loc_opt (h : Loc M S W e F L R) : Loc M S (fun i j => i = j ∨ W i j) true F L R := by
  intro i j
  constructor
  · rintro (rfl | hw)
    · exact .inl ⟨rfl, rfl⟩
    · rcases (h i j).1 hw with ⟨rfl, _⟩ | h1
      · exact .inl ⟨rfl, rfl⟩
      · exact .inr h1
  · rintro (⟨rfl, _⟩ | h1)
    · exact .inl rfl
    · exact .inr ((h i j).2 (.inr h1))
end
/-! ### where the places lie -/
/-- All places of an expression that begins at o. -/
structure In (o : Int) (n : Nat) (F L : Int → Prop) (R : Int → Int → Prop) : Prop where
  f : ∀ q, F q → o < q ∧ q ≤ o + n
  l : ∀ q, L q → o < q ∧ q ≤ o + n
  r : ∀ p q, R p q → (o < p ∧ p ≤ o + n) ∧ (o < q ∧ q ≤ o + n)
def InN (x : S24) : Prop := ∀ o, In o (cnt x) (fstP x o) (lstP x o) (folP x o)
theorem in_cat (l : List S24) (h : ∀ y ∈ l, InN y) : ∀ o, In o (cntL l) (fstC l o) (lstC l o) (folC l o) := by
  induction l with
  | nil => intro o; exact ⟨fun q h => by rw [fstC] at h; exact h.elim, fun q h => by rw [lstC] at h; exact h.elim, fun p q h => by rw [folC] at h; exact h.elim⟩
  | cons x l ih =>
    intro o
    have h1 := h x List.mem_cons_self o
    have h2 := ih (fun y hy => h y (List.mem_cons_of_mem _ hy)) (o + cnt x)
    refine ⟨fun q hq => ?_, fun q hq => ?_, fun p q hq => ?_⟩ <;> rw [cntL]
    · rw [fstC] at hq
      rcases hq with hq | ⟨_, hq⟩
      · have := h1.f q hq; omega
      · have := h2.f q hq; omega
    · rw [lstC] at hq
      rcases hq with hq | ⟨_, hq⟩
      · have := h2.l q hq; omega
      · have := h1.l q hq; omega
    · rw [folC] at hq
      rcases hq with hq | hq | ⟨h3, h4⟩
      · have := h1.r p q hq; omega
      · have := h2.r p q hq; omega
      · have := h1.l p h3; have := h2.f q h4; omega
theorem in_alt (l : List S24) (h : ∀ y ∈ l, InN y) : ∀ o, In o (cntL l) (fstA l o) (lstA l o) (folA l o) := by
  induction l with
  | nil => intro o; exact ⟨fun q h => by rw [fstA] at h; exact h.elim, fun q h => by rw [lstA] at h; exact h.elim, fun p q h => by rw [folA] at h; exact h.elim⟩
  | cons x l ih =>
    intro o
    have h1 := h x List.mem_cons_self o
    have h2 := ih (fun y hy => h y (List.mem_cons_of_mem _ hy)) (o + cnt x)
    refine ⟨fun q hq => ?_, fun q hq => ?_, fun p q hq => ?_⟩ <;> rw [cntL]
    · rw [fstA] at hq
      rcases hq with hq | hq
      · have := h1.f q hq; omega
      · have := h2.f q hq; omega
    · rw [lstA] at hq
      rcases hq with hq | hq
      · have := h1.l q hq; omega
      · have := h2.l q hq; omega
    · rw [folA] at hq
      rcases hq with hq | hq
      · have := h1.r p q hq; omega
      · have := h2.r p q hq; omega
theorem in_all : ∀ x, InN x := by
  refine node_ind (P := InN) (fun x ih o => ?_)
  obtain ⟨k, s, kids⟩ := x
  replace ih : ∀ y ∈ kids, InN y := ih
  have e0 := cnt.eq_1 k s kids
  by_cases q1 : k = 1
  · refine ⟨fun q hq => ?_, fun q hq => ?_, fun p q hq => ?_⟩
    · rw [fstP, if_pos q1] at hq; rw [e0, if_pos q1]; omega
    · rw [lstP, if_pos q1] at hq; rw [e0, if_pos q1]; omega
    · rw [folP, if_pos q1] at hq; exact hq.elim
  by_cases q0 : k = 0
  · have h := in_cat kids ih o
    refine ⟨fun q hq => ?_, fun q hq => ?_, fun p q hq => ?_⟩ <;> rw [e0, if_neg q1]
    · rw [fstP, if_neg q1, if_pos q0] at hq; exact h.f q hq
    · rw [lstP, if_neg q1, if_pos q0] at hq; exact h.l q hq
    · rw [folP, if_neg q1, if_pos q0] at hq; exact h.r p q hq
  by_cases q2 : k = 2
  · have h := in_alt kids ih o
    refine ⟨fun q hq => ?_, fun q hq => ?_, fun p q hq => ?_⟩ <;> rw [e0, if_neg q1]
    · rw [fstP, if_neg q1, if_neg q0, if_pos q2] at hq; exact h.f q hq
    · rw [lstP, if_neg q1, if_neg q0, if_pos q2] at hq; exact h.l q hq
    · rw [folP, if_neg q1, if_neg q0, if_pos q2] at hq; exact h.r p q hq
  have hf1 : ∀ q, fst1 kids o q → o < q ∧ q ≤ o + cntL kids := by
    intro q hq
    match kids, ih, hq with
    | [], _, hq => rw [fst1] at hq; exact hq.elim
    | x :: l, ih, hq => rw [fst1] at hq; rw [cntL]; have := (ih x List.mem_cons_self o).f q hq; omega
  have hl1 : ∀ q, lst1 kids o q → o < q ∧ q ≤ o + cntL kids := by
    intro q hq
    match kids, ih, hq with
    | [], _, hq => rw [lst1] at hq; exact hq.elim
    | x :: l, ih, hq => rw [lst1] at hq; rw [cntL]; have := (ih x List.mem_cons_self o).l q hq; omega
  have hr1 : ∀ p q, fol1 kids o p q → (o < p ∧ p ≤ o + cntL kids) ∧ (o < q ∧ q ≤ o + cntL kids) := by
    intro p q hq
    match kids, ih, hq with
    | [], _, hq => rw [fol1] at hq; exact hq.elim
    | x :: l, ih, hq => rw [fol1] at hq; rw [cntL]; have := (ih x List.mem_cons_self o).r p q hq; omega
  refine ⟨fun q hq => ?_, fun q hq => ?_, fun p q hq => ?_⟩ <;> rw [e0, if_neg q1]
  · rw [fstP, if_neg q1, if_neg q0, if_neg q2] at hq; exact hf1 q hq
  · rw [lstP, if_neg q1, if_neg q0, if_neg q2] at hq; exact hl1 q hq
  · rw [folP, if_neg q1, if_neg q0, if_neg q2] at hq
    rcases hq with hq | ⟨_, h3, h4⟩
    · exact hr1 p q hq
    · exact ⟨hl1 p h3, hf1 q h4⟩
/-! ### the law -/
/-- The places bear the sets. -/
def Bears (o : Int) (lv : List Int) : Prop := ∀ t : Nat, t < lv.length → S (o + 1 + t) = lv.getD t 0
theorem bears_app {o : Int} {a b : List Int} (h : Bears S o (a ++ b)) : Bears S o a ∧ Bears S (o + a.length) b := by
  constructor
  · intro t ht
    rw [h t (by rw [List.length_append]; omega), List.getD_eq_getElem?_getD, List.getElem?_append_left ht, List.getD_eq_getElem?_getD]
  · intro t ht
    have h1 := h (a.length + t) (by rw [List.length_append]; omega)
    rw [List.getD_eq_getElem?_getD, List.getElem?_append_right (by omega), Nat.add_sub_cancel_left, ← List.getD_eq_getElem?_getD] at h1
    rw [← h1]
    exact congrArg S (by omega)
def GluN (x : S24) : Prop := rightN x = true → ∀ o, Bears S o (leavesN x) → Loc M S (WayN M x) (eps x) (fstP x o) (lstP x o) (folP x o)
theorem glu_cat (l : List S24) (h : ∀ y ∈ l, GluN M S y) (hr : rightL l = true) : ∀ o, Bears S o (leavesL l) → Loc M S (WayC M l) (epsC l) (fstC l o) (lstC l o) (folC l o) := by
  induction l with
  | nil =>
    intro o _ i j
    rw [WayC]
    constructor
    · intro h; exact .inl ⟨h, by rw [epsC]⟩
    · rintro (⟨h, _⟩ | ⟨p, _, hl⟩)
      · exact h
      · rw [lstC] at hl; exact hl.elim
  | cons x l ih =>
    intro o hb
    rw [leavesL] at hb
    obtain ⟨hb1, hb2⟩ := bears_app S hb
    rw [leaves_len] at hb2
    rw [rightL, Bool.and_eq_true] at hr
    have h1 := h x List.mem_cons_self hr.1 o hb1
    have h2 := ih (fun y hy => h y (List.mem_cons_of_mem _ hy)) hr.2 (o + cnt x) hb2
    have i1 := in_all x o
    have i2 := in_cat l (fun y _ => in_all y) (o + cnt x)
    refine Loc.congr M S (loc_cat M S (P1 := fun q => o < q ∧ q ≤ o + cnt x) (P2 := fun q => o + cnt x < q ∧ q ≤ o + cnt x + cntL l) h1 h2 (fun q a b => by omega) i1.f i1.l i1.r i2.f i2.l i2.r) ?_ ?_ ?_ ?_ ?_
    · intro i j; rw [WayC]
    · rw [epsC]
    · intro q; rw [fstC]
    · intro q; rw [lstC]
    · intro p q; rw [folC]
theorem glu_alt (l : List S24) (h : ∀ y ∈ l, GluN M S y) (hr : rightL l = true) : ∀ o, Bears S o (leavesL l) → Loc M S (WayA M l) (epsA l) (fstA l o) (lstA l o) (folA l o) := by
  induction l with
  | nil =>
    intro o _ i j
    rw [WayA]
    constructor
    · intro h; exact h.elim
    · rintro (⟨_, h⟩ | ⟨p, _, hl⟩)
      · rw [epsA] at h; cases h
      · rw [lstA] at hl; exact hl.elim
  | cons x l ih =>
    intro o hb
    rw [leavesL] at hb
    obtain ⟨hb1, hb2⟩ := bears_app S hb
    rw [leaves_len] at hb2
    rw [rightL, Bool.and_eq_true] at hr
    have h1 := h x List.mem_cons_self hr.1 o hb1
    have h2 := ih (fun y hy => h y (List.mem_cons_of_mem _ hy)) hr.2 (o + cnt x) hb2
    have i1 := in_all x o
    have i2 := in_alt l (fun y _ => in_all y) (o + cnt x)
    refine Loc.congr M S (loc_alt M S (P1 := fun q => o < q ∧ q ≤ o + cnt x) (P2 := fun q => o + cnt x < q ∧ q ≤ o + cnt x + cntL l) h1 h2 (fun q a b => by omega) i1.f i1.l i1.r i2.f i2.l i2.r) ?_ ?_ ?_ ?_ ?_
    · intro i j; rw [WayA]
    · rw [epsA]
    · intro q; rw [fstA]
    · intro q; rw [lstA]
    · intro p q; rw [folA]
theorem glu : ∀ x, GluN M S x := by
  refine node_ind (P := GluN M S) (fun x ih hr o hb => ?_)
  obtain ⟨k, s, kids⟩ := x
  replace ih : ∀ y ∈ kids, GluN M S y := ih
  rw [rightN] at hr
  rw [leavesN] at hb
  by_cases q1 : k = 1
  · rw [if_pos q1] at hb
    have hs : S (o + 1) = s := by
      have := hb 0 (by simp)
      rw [← show o + 1 + ((0 : Nat) : Int) = o + 1 by omega]
      exact this
    refine Loc.congr M S (loc_leaf M S hs) ?_ ?_ ?_ ?_ ?_
    · intro i j; rw [WayN, if_pos q1]
    · rw [eps, if_pos q1]
    · intro q; rw [fstP, if_pos q1]
    · intro q; rw [lstP, if_pos q1]
    · intro p q; rw [folP, if_pos q1]
  rw [if_neg q1] at hb hr
  by_cases q0 : k = 0
  · rw [if_pos q0] at hr
    refine Loc.congr M S (glu_cat M S kids ih hr o hb) ?_ ?_ ?_ ?_ ?_
    · intro i j; rw [WayN, if_neg q1, if_pos q0]
    · rw [eps, if_neg q1, if_pos q0]
    · intro q; rw [fstP, if_neg q1, if_pos q0]
    · intro q; rw [lstP, if_neg q1, if_pos q0]
    · intro p q; rw [folP, if_neg q1, if_pos q0]
  rw [if_neg q0] at hr
  by_cases q2 : k = 2
  · rw [if_pos q2, Bool.and_eq_true] at hr
    refine Loc.congr M S (glu_alt M S kids ih hr.2 o hb) ?_ ?_ ?_ ?_ ?_
    · intro i j; rw [WayN, if_neg q1, if_neg q0, if_pos q2]
    · rw [eps, if_neg q1, if_neg q0, if_pos q2]
    · intro q; rw [fstP, if_neg q1, if_neg q0, if_pos q2]
    · intro q; rw [lstP, if_neg q1, if_neg q0, if_pos q2]
    · intro p q; rw [folP, if_neg q1, if_neg q0, if_pos q2]
  rw [if_neg q2] at hr
  by_cases q3 : k = 3 ∨ k = 4 ∨ k = 5
  · rw [if_pos q3, Bool.and_eq_true, decide_eq_true_eq] at hr
    obtain ⟨x, rfl⟩ : ∃ x, kids = [x] := by
      match kids, hr.1 with
      | [x], _ => exact ⟨x, rfl⟩
    have hrx : rightN x = true := rightL_mem hr.2 x List.mem_cons_self
    have hbx : Bears S o (leavesN x) := by
      have := hb
      rw [leavesL] at this
      exact (bears_app S this).1
    have h := ih x List.mem_cons_self hrx o hbx
    have w1 : ∀ i j, WayN M x i j ↔ Way1 M [x] i j := fun i j => by rw [Way1]
    by_cases q5 : k = 5
    · refine Loc.congr M S (loc_opt M S h) ?_ ?_ ?_ ?_ ?_
      · intro i j; rw [WayN, if_neg q1, if_neg q0, if_neg q2, if_neg (by omega), if_neg (by omega), Way1]
      · rw [eps, if_neg q1, if_neg q0, if_neg q2, decide_eq_true (by omega), Bool.or_true]
      · intro q; rw [fstP, if_neg q1, if_neg q0, if_neg q2, fst1]
      · intro q; rw [lstP, if_neg q1, if_neg q0, if_neg q2, lst1]
      · intro p q; rw [folP, if_neg q1, if_neg q0, if_neg q2, fol1]
        exact ⟨fun h => .inl h, fun h => h.elim (fun h => h) (fun h => absurd q5 h.1)⟩
    by_cases q4 : k = 4
    · refine Loc.congr M S (loc_plus M S h) ?_ ?_ ?_ ?_ ?_
      · intro i j; rw [WayN, if_neg q1, if_neg q0, if_neg q2, if_neg (by omega), if_pos q4]
        exact ⟨fun ⟨m, a, b⟩ => ⟨m, (w1 _ _).1 a, (Many.iff w1 _ _).1 b⟩, fun ⟨m, a, b⟩ => ⟨m, (w1 _ _).2 a, (Many.iff w1 _ _).2 b⟩⟩
      · rw [eps, if_neg q1, if_neg q0, if_neg q2, decide_eq_false (by omega), Bool.or_false, eps1]
      · intro q; rw [fstP, if_neg q1, if_neg q0, if_neg q2, fst1]
      · intro q; rw [lstP, if_neg q1, if_neg q0, if_neg q2, lst1]
      · intro p q; rw [folP, if_neg q1, if_neg q0, if_neg q2, fol1, lst1, fst1]
        exact ⟨fun h => h.imp_right fun h => ⟨q5, h⟩, fun h => h.imp_right fun h => h.2⟩
    · have q3 : k = 3 := by omega
      refine Loc.congr M S (loc_star M S h) ?_ ?_ ?_ ?_ ?_
      · intro i j; rw [WayN, if_neg q1, if_neg q0, if_neg q2, if_pos q3]
        exact Many.iff w1 _ _
      · rw [eps, if_neg q1, if_neg q0, if_neg q2, decide_eq_true (by omega), Bool.or_true]
      · intro q; rw [fstP, if_neg q1, if_neg q0, if_neg q2, fst1]
      · intro q; rw [lstP, if_neg q1, if_neg q0, if_neg q2, lst1]
      · intro p q; rw [folP, if_neg q1, if_neg q0, if_neg q2, fol1, lst1, fst1]
        exact ⟨fun h => h.imp_right fun h => ⟨q5, h⟩, fun h => h.imp_right fun h => h.2⟩
  · rw [if_neg q3] at hr; cases hr
end
end Go.Proofs.Ytemlgmkbonpniaa.Print

-- Written by a program of this session (wip/sp.py) out of the translation.
namespace Go.Proofs.Ytemlgmkbonpniaa.Print
open Go.RowKit Go.Proofs.YtemlgmkbonpniaaW.PrintWords Go.Proofs.YtemlgmkbonpniaaW.PrintLast Go.Proofs.YtemlgmkbonpniaaW.PrintMore
attribute [local go_sem] max2_int min2_int max_two min_two max_three min_three max_four min_four   -- for this text's walks alone
set_option linter.unusedVariables false
set_option linter.unusedSimpArgs false

/-! ### scansionref10_some: function 78 -/
def scansionref10_some.l0 : Nat → List Bool → Bool → Int → Option (Bool)
  | 0, _, _, _ => none
  | k + 1, x0, x3, x4 => if x4 < (x0.length : Int) then (if x3 = true then (scansionref10_some.l0 k x0 true (wrap64 (x4 + 1))) else (if 0 ≤ x4 then (scansionref10_some.l0 k x0 (rdOf false x0 x4) (wrap64 (x4 + 1))) else (none))) else (some x3)
def scansionref10_some.f (k : Nat) (l0 : List Bool) : Option (Bool) := scansionref10_some.l0 k l0 false 0
theorem scansionref10_some.mono_l : ∀ k, (∀ y0 y1 y2, LeO (scansionref10_some.l0 k y0 y1 y2) (scansionref10_some.l0 (k + 1) y0 y1 y2))
  | 0 => fun _ _ _ r h => by simp [scansionref10_some.l0] at h
  | k + 1 => by
    have ih0 := scansionref10_some.mono_l k
    · intro y0 y1 y2
      unfold scansionref10_some.l0
      repeat' first
      | (with_reducible exact ih0 _ _ _)
      | (with_reducible exact LeO.refl _)
      | (with_reducible exact LeO.none _)
      | (with_reducible refine LeO.ite ?_ ?_)
      | (with_reducible refine LeO.bind ?_ (fun _ => ?_))
      | exact ih0 _ _ _
      | exact LeO.none _
      | refine LeO.ite ?_ ?_
      | refine LeO.bind ?_ (fun _ => ?_)
theorem scansionref10_some.mono : ∀ a0 k, LeO (scansionref10_some.f k a0) (scansionref10_some.f (k + 1) a0) := by
  intro a0 k
  have ih0 := scansionref10_some.mono_l k
  unfold scansionref10_some.f
  repeat' first
      | (with_reducible exact ih0 _ _ _)
      | (with_reducible exact LeO.refl _)
      | (with_reducible exact LeO.none _)
      | (with_reducible refine LeO.ite ?_ ?_)
      | (with_reducible refine LeO.bind ?_ (fun _ => ?_))
      | exact ih0 _ _ _
      | exact LeO.none _
      | refine LeO.ite ?_ ?_
      | refine LeO.bind ?_ (fun _ => ?_)
set_option maxHeartbeats 8000000 in
set_option maxRecDepth 100000 in
theorem scansionref10_some.calls (k : Nat) (A0 : Option Addr) (c0 : Nat) (l0 : List Bool) (r : Bool) (w : World) (hr0 : Kd.C Kd.bool w A0 l0.length l0) (hc0 : l0.length ≤ c0) (h : scansionref10_some.f k l0 = some r) :
    Calls Try.prog 78 #[.slice A0 l0.length c0] w fun e w' => e = .returned (.bool r) ∧ Drawn0 w w' := by
  have HR0 := Aside0.mk hr0
  have HC0 := Aside0.mk hc0
  clear hr0 hc0
  have H : (scansionref10_some.l0 k l0 false 0) = some r := h
  clear h
  have H' := Aside0.mk H
  clear H
  go_enter Try.func78, Try.ntmps78
  go_wp2
  go_loopg [3, 4] k (fun kq v3 v4 w' => ∃ (x3_1 : Bool) (x4_1 : Int), v3 = .bool x3_1 ∧ v4 = .int .i64 x4_1 ∧ Aside0 (scansionref10_some.l0 kq l0 x3_1 x4_1 = some r) ∧ Aside0 (kq ≤ k) ∧ Drawn0 w w')
  case atStart => exact ⟨(false), (0), (by first | rfl | (simp; done) | (simp [*]; done)), (by first | rfl | (simp; done) | (simp [*]; done)), H', ⟨Nat.le_refl _⟩, by repeat (first | exact Drawn0.refl _ | apply Drawn0.step)⟩
  case round =>
    clear H'
    obtain ⟨x3_1, x4_1, rfl, rfl, HA, HK1, ⟨m1, rfl⟩⟩ := hrel
    cases gk with
    | zero => exact absurd HA.out (by simp [scansionref10_some.l0])
    | succ k1 =>
      have H := HA.out
      clear HA
      simp only [scansionref10_some.l0] at H
      by_cases c2 : x4_1 < (l0.length : Int)
      · rw [if_pos c2] at H
        have c2b0 : decide (x4_1 < (l0.length : Int)) = true := decide_eq_true c2
        clear c2
        by_cases c3 : x3_1 = true
        · subst c3
          have H1 : (scansionref10_some.l0 k1 l0 true (wrap64 (x4_1 + 1))) = some r := by rw [if_pos rfl] at H; exact H
          clear H
          have H := H1
          clear H1
          have H' := Aside0.mk H
          clear H
          go_wp2
          go_roundg k1
          case measure => have := HK1.out; omega
          case rel => exact ⟨(true), (wrap64 (x4_1 + 1)), (by first | rfl | (simp; done) | (simp [*]; done)), (by first | rfl | (simp; done) | (simp [*]; done)), H', ⟨by have := HK1.out; omega⟩, by repeat (first | exact Drawn0.refl _ | apply Drawn0.step)⟩
        · replace c3 := Bool.eq_false_iff.mpr c3
          subst c3
          have H1 : (if 0 ≤ x4_1 then (scansionref10_some.l0 k1 l0 (rdOf false l0 x4_1) (wrap64 (x4_1 + 1))) else (none)) = some r := by rw [if_neg (show ¬ (false = true) by decide)] at H; exact H
          clear H
          have H := H1
          clear H1
          by_cases c4 : 0 ≤ x4_1
          · rw [if_pos c4] at H
            have c4b0 : decide (0 ≤ x4_1) = true := decide_eq_true c4
            clear c4
            have H' := Aside0.mk H
            clear H
            have p382 : 0 ≤ (x4_1 : Int) := of_decide_eq_true (by first | (with_reducible assumption) | assumption)
            have q382 : x4_1 < (l0.length : Int) := of_decide_eq_true (by first | (with_reducible assumption) | assumption)
            obtain ⟨ad382, e382, hx382_0⟩ := Kd.at_bool HR0.out x4_1 p382 q382
            cases e382
            replace p382 := eq_true p382
            replace q382 := eq_true q382
            go_wp2
            go_roundg k1
            case measure => have := HK1.out; omega
            case rel => exact ⟨(rdOf false l0 x4_1), (wrap64 (x4_1 + 1)), (by first | rfl | (simp; done) | (simp [*]; done)), (by first | rfl | (simp; done) | (simp [*]; done)), H', ⟨by have := HK1.out; omega⟩, by repeat (first | exact Drawn0.refl _ | apply Drawn0.step)⟩
          · rw [if_neg c4] at H
            exact absurd H (by simp)
      · rw [if_neg c2] at H
        have c2b0 : decide (x4_1 < (l0.length : Int)) = false := decide_eq_false c2
        clear c2
        obtain rfl := Option.some.inj H
        go_wp2
        go_ret
        exact ⟨by first | rfl | (simp; done) | (simp [*]; done), by repeat (first | exact Drawn0.refl _ | apply Drawn0.step)⟩

end Go.Proofs.Ytemlgmkbonpniaa.Print

-- Written by a program of this session (wip/sp.py) out of the translation.
namespace Go.Proofs.Ytemlgmkbonpniaa.Print
open Go.RowKit Go.Proofs.YtemlgmkbonpniaaW.PrintWords Go.Proofs.YtemlgmkbonpniaaW.PrintLast Go.Proofs.YtemlgmkbonpniaaW.PrintMore
attribute [local go_sem] max2_int min2_int max_two min_two max_three min_three max_four min_four   -- for this text's walks alone
set_option linter.unusedVariables false
set_option linter.unusedSimpArgs false

/-! ### scansionref10_either: function 79 -/
def scansionref10_either.l0 : Nat → List Bool → List Bool → List Bool → Int → Option (List Bool)
  | 0, _, _, _, _ => none
  | k + 1, x0, x1, x5, x6 => if x6 < (x0.length : Int) then (if 0 ≤ x6 then (if rdOf false x0 x6 = true then (if x6 < (x5.length : Int) then (scansionref10_either.l0 k x0 x1 (x5.set (x6 : Int).toNat true) (wrap64 (x6 + 1))) else (none)) else (if x6 < (x1.length : Int) then (if x6 < (x5.length : Int) then (scansionref10_either.l0 k x0 x1 (x5.set (x6 : Int).toNat (rdOf false x1 x6)) (wrap64 (x6 + 1))) else (none)) else (none))) else (none)) else (some x5)
def scansionref10_either.f (k : Nat) (l0 : List Bool) (l1 : List Bool) : Option (List Bool) := if 0 ≤ (l0.length : Int) then (if ((l0.length : Int) : Int).toNat ≤ 281474976710656 then (scansionref10_either.l0 k l0 l1 (List.replicate ((l0.length : Int) : Int).toNat false) 0) else (none)) else (none)
theorem scansionref10_either.mono_l : ∀ k, (∀ y0 y1 y2 y3, LeO (scansionref10_either.l0 k y0 y1 y2 y3) (scansionref10_either.l0 (k + 1) y0 y1 y2 y3))
  | 0 => fun _ _ _ _ r h => by simp [scansionref10_either.l0] at h
  | k + 1 => by
    have ih0 := scansionref10_either.mono_l k
    · intro y0 y1 y2 y3
      unfold scansionref10_either.l0
      repeat' first
      | (with_reducible exact ih0 _ _ _ _)
      | (with_reducible exact LeO.refl _)
      | (with_reducible exact LeO.none _)
      | (with_reducible refine LeO.ite ?_ ?_)
      | (with_reducible refine LeO.bind ?_ (fun _ => ?_))
      | exact ih0 _ _ _ _
      | exact LeO.none _
      | refine LeO.ite ?_ ?_
      | refine LeO.bind ?_ (fun _ => ?_)
theorem scansionref10_either.mono : ∀ a0 a1 k, LeO (scansionref10_either.f k a0 a1) (scansionref10_either.f (k + 1) a0 a1) := by
  intro a0 a1 k
  have ih0 := scansionref10_either.mono_l k
  unfold scansionref10_either.f
  repeat' first
      | (with_reducible exact ih0 _ _ _ _)
      | (with_reducible exact LeO.refl _)
      | (with_reducible exact LeO.none _)
      | (with_reducible refine LeO.ite ?_ ?_)
      | (with_reducible refine LeO.bind ?_ (fun _ => ?_))
      | exact ih0 _ _ _ _
      | exact LeO.none _
      | refine LeO.ite ?_ ?_
      | refine LeO.bind ?_ (fun _ => ?_)
set_option maxHeartbeats 8000000 in
set_option maxRecDepth 100000 in
theorem scansionref10_either.calls (k : Nat) (A0 : Option Addr) (c0 : Nat) (l0 : List Bool) (A1 : Option Addr) (c1 : Nat) (l1 : List Bool) (r : List Bool) (w : World) (hr0 : Kd.C Kd.bool w A0 l0.length l0) (hc0 : l0.length ≤ c0) (hr1 : Kd.C Kd.bool w A1 l1.length l1) (hc1 : l1.length ≤ c1) (h : scansionref10_either.f k l0 l1 = some r) :
    Calls Try.prog 79 #[.slice A0 l0.length c0, .slice A1 l1.length c1] w fun e w' => ∃ v0_ : Value, e = .returned (v0_) ∧ Kd.R Kd.bool 4 w' w.heap.size (fun _ => True) v0_ r ∧ Below w.heap.size w w' := by
  have HR0 := Aside0.mk hr0
  have HC0 := Aside0.mk hc0
  clear hr0 hc0
  have HR1 := Aside0.mk hr1
  have HC1 := Aside0.mk hc1
  clear hr1 hc1
  have HB := Aside0.mk (Below.refl w.heap.size w)
  have H : (if 0 ≤ (l0.length : Int) then (if ((l0.length : Int) : Int).toNat ≤ 281474976710656 then (scansionref10_either.l0 k l0 l1 (List.replicate ((l0.length : Int) : Int).toNat false) 0) else (none)) else (none)) = some r := h
  clear h
  by_cases c3 : 0 ≤ (l0.length : Int)
  · rw [if_pos c3] at H
    have c3b0 := eq_true c3
    have c3b1 : decide (0 ≤ (l0.length : Int)) = true := decide_eq_true c3
    clear c3
    by_cases c4 : ((l0.length : Int) : Int).toNat ≤ 281474976710656
    · rw [if_pos c4] at H
      have c4b0 := eq_true c4
      have c4b1 : decide (((l0.length : Int) : Int).toNat ≤ 281474976710656) = true := decide_eq_true c4
      clear c4
      obtain ⟨y383, hy383⟩ : ∃ y_ : List Bool, y_ = (List.replicate ((l0.length : Int) : Int).toNat false) := ⟨_, rfl⟩
      replace H : (scansionref10_either.l0 k l0 l1 y383 0) = some r := by first | (rw [hy383]; with_reducible exact H) | (have H2_ := (Option.bind_some _ _).symm.trans H; rw [hy383]; with_reducible exact H2_) | (have H2_ := (Option.bind_some _ _).symm.trans H; with_reducible exact H2_) | with_reducible exact H | (rw [hy383]; exact H) | exact H
      have Ny383 := Aside0.mk hy383
      clear hy383
      have H' := Aside0.mk H
      clear H
      go_enter Try.func79, Try.ntmps79
      go_wp2_with (first | ((with_reducible refine gate_dst (N := 9) rfl ?_); refine Kd.R_make Kd.bool _ 4 rfl (N := 9) rfl 45 _ _ rfl (l0.length : Int) rfl rfl Try.underlying45 (.bool false) 1 info4 rfl (by decide) (by omega) false (ok := fun _ => True) (okp := fun _ => True) rfl (fun _ hk => hk) trivial (of_decide_eq_true (by first | (with_reducible assumption) | assumption)) (Nat.le_trans (Nat.mul_le_mul_right _ (of_decide_eq_true (by first | (with_reducible assumption) | assumption) : (l0.length : Int).toNat ≤ 281474976710656)) (by omega)) (Below.refl _ _) (Nat.le_refl _) ?_; intro v384 w5 ho6 hb hg_ hnew_; clear hg_ hnew_; (first | rw [← Ny383.out] at ho6 | (simp only [Int.reduceToNat] at ho6; rw [← Ny383.out] at ho6)); have n0_ := Aside0.mk (Kd.R_lower ho6 (below_size (by repeat (first | (with_reducible first | exact HB.out | apply below_alloc | apply pw_below_drewN | apply below_drew1) | exact HB.out)))); have n1_ := Aside0.mk (below_step (by repeat (first | (with_reducible first | exact HB.out | apply below_alloc | apply pw_below_drewN | apply below_drew1) | exact HB.out)) hb); clear HB; have HO385 := n0_; have HB := n1_; clear n0_ n1_; clear hb ho6))
      go_loopg [6] k (fun kq v6 w' => ∃ (x5_1 : List Bool) (x6_1 : Int), v6 = .int .i64 x6_1 ∧ Aside0 (scansionref10_either.l0 kq l0 l1 x5_1 x6_1 = some r) ∧ Aside0 (kq ≤ k) ∧ Aside0 (Kd.R Kd.bool 4 w' w.heap.size (fun _ => True) v384 x5_1) ∧ Aside0 (Below w.heap.size w w'))
      case atStart => exact ⟨(y383), (0), (by first | rfl | (simp; done) | (simp [*]; done)), H', ⟨Nat.le_refl _⟩, ⟨by (with_reducible repeat (first | apply Kd.R_alloc | apply Kd.R_drewN | apply Kd.R_drew)); exact HO385.out⟩, ⟨by repeat (first | (with_reducible first | exact HB.out | apply below_alloc | apply pw_below_drewN | apply below_drew1) | exact HB.out)⟩⟩
      case round =>
        clear H'
        try clear c1
        try clear p2
        try clear c3
        try clear c3b0
        try clear c3b1
        try clear c4
        try clear c4b0
        try clear c4b1
        obtain ⟨x5_1, x6_1, rfl, HA, HK1, HO_5, HB⟩ := hrel
        cases gk with
        | zero => exact absurd HA.out (by simp [scansionref10_either.l0])
        | succ k1 =>
          have H := HA.out
          clear HA
          simp only [scansionref10_either.l0] at H
          by_cases c7 : x6_1 < (l0.length : Int)
          · rw [if_pos c7] at H
            have c7b0 : decide (x6_1 < (l0.length : Int)) = true := decide_eq_true c7
            clear c7
            by_cases c8 : 0 ≤ x6_1
            · rw [if_pos c8] at H
              have c8b0 : decide (0 ≤ x6_1) = true := decide_eq_true c8
              clear c8
              obtain ⟨bq9, hbq9⟩ : ∃ b_ : Bool, b_ = (rdOf false l0 x6_1) := ⟨_, rfl⟩
              replace H : (if bq9 = true then (if x6_1 < (x5_1.length : Int) then (scansionref10_either.l0 k1 l0 l1 (x5_1.set (x6_1 : Int).toNat true) (wrap64 (x6_1 + 1))) else (none)) else (if x6_1 < (l1.length : Int) then (if x6_1 < (x5_1.length : Int) then (scansionref10_either.l0 k1 l0 l1 (x5_1.set (x6_1 : Int).toNat (rdOf false l1 x6_1)) (wrap64 (x6_1 + 1))) else (none)) else (none))) = some r := by rw [← hbq9] at H; exact H
              have Nbq9 := Aside0.mk hbq9
              clear hbq9
              by_cases c10 : bq9 = true
              · subst c10
                have H1 : (if x6_1 < (x5_1.length : Int) then (scansionref10_either.l0 k1 l0 l1 (x5_1.set (x6_1 : Int).toNat true) (wrap64 (x6_1 + 1))) else (none)) = some r := by rw [if_pos rfl] at H; exact H
                clear H
                have H := H1
                clear H1
                by_cases c11 : x6_1 < (x5_1.length : Int)
                · rw [if_pos c11] at H
                  have c11b0 : decide (x6_1 < (x5_1.length : Int)) = true := decide_eq_true c11
                  clear c11
                  obtain ⟨y387, hy387⟩ : ∃ y_ : List Bool, y_ = (x5_1.set (x6_1 : Int).toNat true) := ⟨_, rfl⟩
                  replace H : (scansionref10_either.l0 k1 l0 l1 y387 (wrap64 (x6_1 + 1))) = some r := by first | (rw [hy387]; with_reducible exact H) | (have H2_ := (Option.bind_some _ _).symm.trans H; rw [hy387]; with_reducible exact H2_) | (have H2_ := (Option.bind_some _ _).symm.trans H; with_reducible exact H2_) | with_reducible exact H | (rw [hy387]; exact H) | exact H
                  have Ny387 := Aside0.mk hy387
                  clear hy387
                  have H' := Aside0.mk H
                  clear H
                  have p386 : 0 ≤ (x6_1 : Int) := of_decide_eq_true (by first | (with_reducible assumption) | assumption)
                  have q386 : x6_1 < (l0.length : Int) := of_decide_eq_true (by first | (with_reducible assumption) | assumption)
                  obtain ⟨ad386, e386, hx386_0⟩ := Kd.at_bool HR0.out x6_1 p386 q386
                  (try rw [← Nbq9.out] at hx386_0)
                  cases e386
                  replace hx386_0 := (HB.out.cell (World.block_lt_of_cell? w _ hx386_0)).trans hx386_0
                  replace p386 := eq_true p386
                  replace q386 := eq_true q386
                  have p12 : 0 ≤ (x6_1 : Int) := of_decide_eq_true (by first | (with_reducible assumption) | assumption)
                  have q12 : (x6_1 : Int) < ((x5_1.length : Int) : Int) := of_decide_eq_true (by first | (with_reducible assumption) | assumption)
                  obtain ⟨go12, co12, eo12, gb12, gl12, cl12, HG12⟩ := Kd.R_form HO_5.out (by omega)
                  (first | cases eo12 | (injection eo12 with ea_ en_ ec_; (first | subst ea_ | (injection ea_ with ea_; subst ea_)); subst ec_; clear en_))
                  have GB12 := Aside0.mk gb12
                  have GG12 := Aside0.mk HG12
                  clear gb12 gl12 HG12
                  obtain ⟨hx12_0, hf12_0⟩ := Kd.R_celln false HO_5.out (x6_1 : Int) p12 q12
                  replace p12 := eq_true p12
                  replace q12 := eq_true q12
                  have HP13 := Kd.R_putg HO_5.out (x6_1 : Int) true
                  go_wp2_with (first | ((with_reducible refine gate_store (t := 4) (p := 28) rfl ?_); refine store_event (t := 4) (p := 28) (v := ?vo_w14) (w1 := (wr.setCell ⟨go12, (x6_1 : Int).toNat, none⟩ (.bool true))) ?hg ?ho ?hn ?hr ?_; (case ho => rfl); (case hg => rfl); (case hn => rfl); (case hr => first | (go_simp; done) | (go_simp; rfl)); intro w14 hw; have hg : wr.grownBy w14 (some go12) := (by rw [hw]; exact HP13.2); have hp_ : Kd.R Kd.bool 4 w14 w.heap.size (fun _ => True) (.slice (some ⟨go12, 0, none⟩) x5_1.length co12) y387 := (by rw [hw, Ny387.out]; exact HP13.1); clear HP13; have n0_ := Aside0.mk (hp_); have n1_ := Aside0.mk ((by rw [hw]; exact below_set (HB.out) GB12.out : Below w.heap.size w w14)); clear HO_5; clear HB; have HO_5 := n0_; have HB := n1_; clear n0_ n1_; clear hg hw hp_))
                  go_roundg k1
                  case measure => have := HK1.out; omega
                  case rel => exact ⟨(y387), (wrap64 (x6_1 + 1)), (by first | rfl | (simp; done) | (simp [*]; done)), H', ⟨by have := HK1.out; omega⟩, ⟨by (with_reducible repeat (first | apply Kd.R_alloc | apply Kd.R_drewN | apply Kd.R_drew)); exact HO_5.out⟩, ⟨by repeat (first | (with_reducible first | exact HB.out | apply below_alloc | apply pw_below_drewN | apply below_drew1) | exact HB.out)⟩⟩
                · rw [if_neg c11] at H
                  exact absurd H (by simp)
              · replace c10 := Bool.eq_false_iff.mpr c10
                subst c10
                have H1 : (if x6_1 < (l1.length : Int) then (if x6_1 < (x5_1.length : Int) then (scansionref10_either.l0 k1 l0 l1 (x5_1.set (x6_1 : Int).toNat (rdOf false l1 x6_1)) (wrap64 (x6_1 + 1))) else (none)) else (none)) = some r := by rw [if_neg (show ¬ (false = true) by decide)] at H; exact H
                clear H
                have H := H1
                clear H1
                by_cases c15 : x6_1 < (l1.length : Int)
                · rw [if_pos c15] at H
                  have c15b0 : decide (x6_1 < (l1.length : Int)) = true := decide_eq_true c15
                  clear c15
                  by_cases c16 : x6_1 < (x5_1.length : Int)
                  · rw [if_pos c16] at H
                    have c16b0 : decide (x6_1 < (x5_1.length : Int)) = true := decide_eq_true c16
                    clear c16
                    obtain ⟨y389, hy389⟩ : ∃ y_ : List Bool, y_ = (x5_1.set (x6_1 : Int).toNat (rdOf false l1 x6_1)) := ⟨_, rfl⟩
                    replace H : (scansionref10_either.l0 k1 l0 l1 y389 (wrap64 (x6_1 + 1))) = some r := by first | (rw [hy389]; with_reducible exact H) | (have H2_ := (Option.bind_some _ _).symm.trans H; rw [hy389]; with_reducible exact H2_) | (have H2_ := (Option.bind_some _ _).symm.trans H; with_reducible exact H2_) | with_reducible exact H | (rw [hy389]; exact H) | exact H
                    have Ny389 := Aside0.mk hy389
                    clear hy389
                    have H' := Aside0.mk H
                    clear H
                    have p386 : 0 ≤ (x6_1 : Int) := of_decide_eq_true (by first | (with_reducible assumption) | assumption)
                    have q386 : x6_1 < (l0.length : Int) := of_decide_eq_true (by first | (with_reducible assumption) | assumption)
                    obtain ⟨ad386, e386, hx386_0⟩ := Kd.at_bool HR0.out x6_1 p386 q386
                    (try rw [← Nbq9.out] at hx386_0)
                    cases e386
                    replace hx386_0 := (HB.out.cell (World.block_lt_of_cell? w _ hx386_0)).trans hx386_0
                    replace p386 := eq_true p386
                    replace q386 := eq_true q386
                    have p388 : 0 ≤ (x6_1 : Int) := of_decide_eq_true (by first | (with_reducible assumption) | assumption)
                    have q388 : x6_1 < (l1.length : Int) := of_decide_eq_true (by first | (with_reducible assumption) | assumption)
                    obtain ⟨ad388, e388, hx388_0⟩ := Kd.at_bool HR1.out x6_1 p388 q388
                    (try rw [← Nbq9.out] at hx388_0)
                    cases e388
                    replace hx388_0 := (HB.out.cell (World.block_lt_of_cell? w _ hx388_0)).trans hx388_0
                    replace p388 := eq_true p388
                    replace q388 := eq_true q388
                    have p17 : 0 ≤ (x6_1 : Int) := of_decide_eq_true (by first | (with_reducible assumption) | assumption)
                    have q17 : (x6_1 : Int) < ((x5_1.length : Int) : Int) := of_decide_eq_true (by first | (with_reducible assumption) | assumption)
                    obtain ⟨go17, co17, eo17, gb17, gl17, cl17, HG17⟩ := Kd.R_form HO_5.out (by omega)
                    (first | cases eo17 | (injection eo17 with ea_ en_ ec_; (first | subst ea_ | (injection ea_ with ea_; subst ea_)); subst ec_; clear en_))
                    have GB17 := Aside0.mk gb17
                    have GG17 := Aside0.mk HG17
                    clear gb17 gl17 HG17
                    obtain ⟨hx17_0, hf17_0⟩ := Kd.R_celln false HO_5.out (x6_1 : Int) p17 q17
                    replace p17 := eq_true p17
                    replace q17 := eq_true q17
                    have HP18 := Kd.R_putg HO_5.out (x6_1 : Int) (rdOf false l1 x6_1)
                    go_wp2_with (first | ((with_reducible refine gate_store (t := 4) (p := 28) rfl ?_); refine store_event (t := 4) (p := 28) (v := ?vo_w19) (w1 := (wr.setCell ⟨go17, (x6_1 : Int).toNat, none⟩ (.bool (rdOf false l1 x6_1)))) ?hg ?ho ?hn ?hr ?_; (case ho => rfl); (case hg => rfl); (case hn => rfl); (case hr => first | (go_simp; done) | (go_simp; rfl)); intro w19 hw; have hg : wr.grownBy w19 (some go17) := (by rw [hw]; exact HP18.2); have hp_ : Kd.R Kd.bool 4 w19 w.heap.size (fun _ => True) (.slice (some ⟨go17, 0, none⟩) x5_1.length co17) y389 := (by rw [hw, Ny389.out]; exact HP18.1); clear HP18; have n0_ := Aside0.mk (hp_); have n1_ := Aside0.mk ((by rw [hw]; exact below_set (HB.out) GB17.out : Below w.heap.size w w19)); clear HO_5; clear HB; have HO_5 := n0_; have HB := n1_; clear n0_ n1_; clear hg hw hp_))
                    go_roundg k1
                    case measure => have := HK1.out; omega
                    case rel => exact ⟨(y389), (wrap64 (x6_1 + 1)), (by first | rfl | (simp; done) | (simp [*]; done)), H', ⟨by have := HK1.out; omega⟩, ⟨by (with_reducible repeat (first | apply Kd.R_alloc | apply Kd.R_drewN | apply Kd.R_drew)); exact HO_5.out⟩, ⟨by repeat (first | (with_reducible first | exact HB.out | apply below_alloc | apply pw_below_drewN | apply below_drew1) | exact HB.out)⟩⟩
                  · rw [if_neg c16] at H
                    exact absurd H (by simp)
                · rw [if_neg c15] at H
                  exact absurd H (by simp)
            · rw [if_neg c8] at H
              exact absurd H (by simp)
          · rw [if_neg c7] at H
            have c7b0 : decide (x6_1 < (l0.length : Int)) = false := decide_eq_false c7
            clear c7
            obtain rfl := Option.some.inj H
            go_wp2
            go_ret
            exact ⟨_, by first | rfl | (simp [errW_none, errW_some] <;> rfl) | (simp [*, errW_none, errW_some] <;> rfl), by (with_reducible repeat (first | apply Kd.R_alloc | apply Kd.R_drewN | apply Kd.R_drew)); exact HO_5.out, by repeat (first | (with_reducible first | exact HB.out | apply below_alloc | apply pw_below_drewN | apply below_drew1) | exact HB.out)⟩
    · rw [if_neg c4] at H
      exact absurd H (by simp)
  · rw [if_neg c3] at H
    exact absurd H (by simp)

end Go.Proofs.Ytemlgmkbonpniaa.Print

namespace Go.Proofs.Ytemlgmkbonpniaa.Print
open Go.RowKit Go.Maps Go.Proofs.YtemlgmkbonpniaaW.PrintWords Go.Proofs.YtemlgmkbonpniaaW.PrintLast Go.Proofs.YtemlgmkbonpniaaW.PrintMore
set_option linter.unusedVariables false
set_option linter.unusedSimpArgs false
/-- The sign at i is one of the set. -/
def hitM (word : List Int) (i : Nat) (s : Int) : Prop := i < word.length ∧ bitN (rd word (i : Int)) s = 1
/-- A place is marked. -/
def on (a : List Bool) (j : Nat) : Prop := a.getD j false = true
theorem on_lt {a : List Bool} {j : Nat} (h : on a j) : j < a.length := by
  unfold on at h
  rw [List.getD_eq_getElem?_getD] at h
  by_cases q : j < a.length
  · exact q
  · rw [List.getElem?_eq_none (by omega)] at h; cases h
theorem on_ext {a b : List Bool} (hl : a.length = b.length) (h : ∀ j, on a j ↔ on b j) : a = b := by
  refine List.ext_getElem hl (fun j h1 h2 => ?_)
  have h3 := h j
  unfold on at h3
  rw [List.getD_eq_getElem?_getD, List.getD_eq_getElem?_getD, List.getElem?_eq_getElem h1, List.getElem?_eq_getElem h2] at h3
  exact Bool.eq_iff_iff.2 h3
/-- A list while it is written from ahead. -/
def Fill (g : Nat → Bool) (i : Nat) (a : List Bool) : Prop := ∀ j, a.getD j false = (decide (j < i) && g j)
theorem fill_zero (g : Nat → Bool) (n : Nat) : Fill g 0 (List.replicate n false) := by
  intro j
  rw [List.getD_eq_getElem?_getD, decide_eq_false (Nat.not_lt_zero j), Bool.false_and]
  by_cases q : j < n
  · rw [List.getElem?_replicate, if_pos q]; rfl
  · rw [List.getElem?_replicate, if_neg q]; rfl
theorem fill_set {g : Nat → Bool} {i : Nat} {a : List Bool} (h : Fill g i a) (hi : i < a.length) {v : Bool} (hv : v = g i) : Fill g (i + 1) (a.set i v) := by
  intro j
  have hj := h j
  rw [List.getD_eq_getElem?_getD] at hj ⊢
  rw [List.getElem?_set]
  by_cases q : i = j
  · subst q
    rw [if_pos rfl, if_pos hi, decide_eq_true (by omega), Bool.true_and, hv]; rfl
  · rw [if_neg q, hj]
    by_cases q2 : j < i
    · rw [decide_eq_true q2, decide_eq_true (by omega)]
    · rw [decide_eq_false q2, decide_eq_false (by omega)]
theorem fill_skip {g : Nat → Bool} {i : Nat} {a : List Bool} (h : Fill g i a) (hi : g i = false) : Fill g (i + 1) a := by
  intro j
  rw [h j]
  by_cases q : j = i
  · subst q; rw [hi, Bool.and_false, Bool.and_false]
  · by_cases q2 : j < i
    · rw [decide_eq_true q2, decide_eq_true (by omega)]
    · rw [decide_eq_false q2, decide_eq_false (by omega)]
/-! ### some, either -/
theorem some_l0 (a : List Bool) (hl : a.length ≤ 1000000) : ∀ (n i : Nat) (b : Bool), i + n = a.length → ∀ p : Bool, (p = true ↔ b = true ∨ ∃ j, i ≤ j ∧ on a j) → Evs (fun k => scansionref10_some.l0 k a b (i : Int)) p := by
  intro n
  induction n with
  | zero =>
    intro i b hi p hp
    refine ⟨1, fun k hk => ?_⟩
    obtain ⟨k, rfl⟩ : ∃ j, k = j + 1 := ⟨k - 1, by omega⟩
    show scansionref10_some.l0 (k + 1) _ _ _ = _
    rw [scansionref10_some.l0, if_neg (by omega)]
    refine congrArg some (Bool.eq_iff_iff.2 ⟨fun h => hp.2 (.inl h), fun h => (hp.1 h).elim id (fun ⟨j, h1, h2⟩ => ?_)⟩)
    have := on_lt h2
    omega
  | succ n ih =>
    intro i b hi p hp
    have hw : wrap64 ((i : Int) + 1) = ((i + 1 : Nat) : Int) := by unfold wrap64; omega
    cases b with
    | true =>
      obtain ⟨K, hK⟩ := ih (i + 1) true (by omega) p ⟨fun h => .inl rfl, fun _ => hp.2 (.inl rfl)⟩
      refine ⟨K + 1, fun k hk => ?_⟩
      obtain ⟨k, rfl⟩ : ∃ j, k = j + 1 := ⟨k - 1, by omega⟩
      show scansionref10_some.l0 (k + 1) _ _ _ = _
      have hk1 : scansionref10_some.l0 k _ _ _ = _ := hK k (by omega)
      rw [scansionref10_some.l0, if_pos (by omega), if_pos rfl, hw, hk1]
    | false =>
      obtain ⟨K, hK⟩ := ih (i + 1) (rdOf false a (i : Int)) (by omega) p (hp.trans ⟨fun h => by
        rcases h with h | ⟨j, h1, h2⟩
        · cases h
        · by_cases q : j = i
          · subst q; exact .inl h2
          · exact .inr ⟨j, by omega, h2⟩, fun h => by
        rcases h with h | ⟨j, h1, h2⟩
        · exact .inr ⟨i, Nat.le_refl _, h⟩
        · exact .inr ⟨j, by omega, h2⟩⟩)
      refine ⟨K + 1, fun k hk => ?_⟩
      obtain ⟨k, rfl⟩ : ∃ j, k = j + 1 := ⟨k - 1, by omega⟩
      show scansionref10_some.l0 (k + 1) _ _ _ = _
      have hk1 : scansionref10_some.l0 k _ _ _ = _ := hK k (by omega)
      rw [scansionref10_some.l0, if_pos (by omega), if_neg (by decide), if_pos (by omega), hw, hk1]
theorem some_f (a : List Bool) (hl : a.length ≤ 1000000) (p : Bool) (hp : p = true ↔ ∃ j, on a j) : Evs (fun k => scansionref10_some.f k a) p :=
  some_l0 a hl a.length 0 false (by omega) p (hp.trans ⟨fun ⟨j, h⟩ => .inr ⟨j, Nat.zero_le _, h⟩, fun h => h.elim (fun h => by cases h) (fun ⟨j, _, h⟩ => ⟨j, h⟩)⟩)
theorem either_l0 (a b : List Bool) (hab : a.length = b.length) (hl : a.length ≤ 1000000) : ∀ (n i : Nat) (acc : List Bool), i + n = a.length → acc.length = a.length → Fill (fun j => a.getD j false || b.getD j false) i acc → ∃ out, Evs (fun k => scansionref10_either.l0 k a b acc (i : Int)) out ∧ out.length = a.length ∧ Fill (fun j => a.getD j false || b.getD j false) a.length out := by
  intro n
  induction n with
  | zero =>
    intro i acc hi hacc hf
    obtain rfl : i = a.length := by omega
    refine ⟨acc, ⟨1, fun k hk => ?_⟩, hacc, hf⟩
    obtain ⟨k, rfl⟩ : ∃ j, k = j + 1 := ⟨k - 1, by omega⟩
    show scansionref10_either.l0 (k + 1) _ _ _ _ = _
    rw [scansionref10_either.l0, if_neg (by omega)]
  | succ n ih =>
    intro i acc hi hacc hf
    have hw : wrap64 ((i : Int) + 1) = ((i + 1 : Nat) : Int) := by unfold wrap64; omega
    by_cases q : rdOf false a (i : Int) = true
    · obtain ⟨out, ⟨K, hK⟩, h1, h2⟩ := ih (i + 1) (acc.set i true) (by omega) (by rw [List.length_set]; exact hacc) (fill_set hf (by omega) (by rw [show a.getD i false = true from q]; rfl))
      refine ⟨out, ⟨K + 1, fun k hk => ?_⟩, h1, h2⟩
      obtain ⟨k, rfl⟩ : ∃ j, k = j + 1 := ⟨k - 1, by omega⟩
      show scansionref10_either.l0 (k + 1) _ _ _ _ = _
      have hk1 : scansionref10_either.l0 k _ _ _ _ = _ := hK k (by omega)
      rw [scansionref10_either.l0, if_pos (by omega), if_pos (by omega), if_pos q, if_pos (by omega), hw, Int.toNat_natCast, hk1]
    · obtain ⟨out, ⟨K, hK⟩, h1, h2⟩ := ih (i + 1) (acc.set i (rdOf false b (i : Int))) (by omega) (by rw [List.length_set]; exact hacc) (fill_set hf (by omega) (by
        have q' : a.getD i false = false := by
          have h : ¬ a.getD i false = true := q
          revert h; cases a.getD i false <;> simp
        rw [q']; rfl))
      refine ⟨out, ⟨K + 1, fun k hk => ?_⟩, h1, h2⟩
      obtain ⟨k, rfl⟩ : ∃ j, k = j + 1 := ⟨k - 1, by omega⟩
      show scansionref10_either.l0 (k + 1) _ _ _ _ = _
      have hk1 : scansionref10_either.l0 k _ _ _ _ = _ := hK k (by omega)
      rw [scansionref10_either.l0, if_pos (by omega), if_pos (by omega), if_neg q, if_pos (by omega), if_pos (by omega), hw, Int.toNat_natCast, hk1]
theorem either_f (a b : List Bool) (hab : a.length = b.length) (hl : a.length ≤ 1000000) : ∃ out, Evs (fun k => scansionref10_either.f k a b) out ∧ out.length = a.length ∧ ∀ j, on out j ↔ on a j ∨ on b j := by
  obtain ⟨out, ⟨K, hK⟩, h1, h2⟩ := either_l0 a b hab hl a.length 0 (List.replicate a.length false) (by omega) List.length_replicate (fill_zero _ _)
  refine ⟨out, ⟨K, fun k hk => ?_⟩, h1, fun j => ?_⟩
  · show scansionref10_either.f k _ _ = _
    unfold scansionref10_either.f
    rw [if_pos (by omega), if_pos (by omega), Int.toNat_natCast]
    exact hK k hk
  · unfold on
    rw [h2 j]
    by_cases q : j < a.length
    · rw [decide_eq_true q, Bool.true_and, Bool.or_eq_true]
    · rw [decide_eq_false q, Bool.false_and]
      constructor
      · intro h; cases h
      · rintro (h | h)
        · exact absurd (on_lt h) q
        · exact absurd (on_lt h) (by omega)
/-! ### ends -/
section
variable (word : List Int)
/-- Marks of a word tell of P. -/
def Tells (P : Nat → Prop) (a : List Bool) : Prop := a.length = word.length + 1 ∧ ∀ j, on a j ↔ P j
theorem rdT24_get {l : List S24} {i : Nat} (h : i < l.length) : rd_T24 l (i : Int) = l[i] := by
  unfold rd_T24
  rw [Int.toNat_natCast, List.getD_eq_getElem?_getD, List.getElem?_eq_getElem h]
  rfl
end
/-! ### again and again -/
/-- How many places are not marked. -/
def offs (a : List Bool) : Nat := (a.filter fun b => !b).length
theorem offs_t (a : List Bool) : offs (true :: a) = offs a := by simp [offs]
theorem offs_f (a : List Bool) : offs (false :: a) = offs a + 1 := by simp [offs]
theorem offs_lt : ∀ (a b : List Bool), a.length = b.length → (∀ j, on a j → on b j) → (offs b ≤ offs a) ∧ ((∃ j, on b j ∧ ¬ on a j) → offs b < offs a) := by
  intro a
  induction a with
  | nil =>
    intro b hl _
    have : b = [] := List.length_eq_zero_iff.1 hl.symm
    subst this
    exact ⟨Nat.le_refl _, fun ⟨j, h, _⟩ => absurd (on_lt h) (Nat.not_lt_zero j)⟩
  | cons x a ih =>
    intro b hl h
    match b, hl with
    | y :: b, hl =>
      have h2 : ∀ j, on a j → on b j := fun j hj => h (j + 1) hj
      obtain ⟨i1, i2⟩ := ih b (by simpa using hl) h2
      have h0 : x = true → y = true := fun hx => h 0 hx
      have hex : (∃ j, on (y :: b) j ∧ ¬ on (x :: a) j) → (y = true ∧ x = false) ∨ ∃ j, on b j ∧ ¬ on a j := by
        rintro ⟨j, g1, g2⟩
        cases j with
        | zero =>
          refine .inl ⟨g1, ?_⟩
          have : ¬ x = true := g2
          revert this; cases x <;> simp
        | succ j => exact .inr ⟨j, g1, g2⟩
      cases x with
      | true =>
        obtain rfl := h0 rfl
        rw [offs_t, offs_t]
        refine ⟨i1, fun hj => i2 ?_⟩
        rcases hex hj with ⟨_, h⟩ | h
        · cases h
        · exact h
      | false =>
        cases y with
        | true => rw [offs_t, offs_f]; exact ⟨by omega, fun _ => by omega⟩
        | false =>
          rw [offs_f, offs_f]
          refine ⟨by omega, fun hj => ?_⟩
          rcases hex hj with ⟨h, _⟩ | h
          · cases h
          · have := i2 h; omega
theorem mk_on (n : Nat) (g : Nat → Bool) : ∃ l : List Bool, l.length = n ∧ ∀ j, on l j ↔ j < n ∧ g j = true := by
  refine ⟨(List.range n).map g, by simp, fun j => ?_⟩
  unfold on
  rw [List.getD_eq_getElem?_getD]
  by_cases q : j < n
  · rw [List.getElem?_map, List.getElem?_range q]
    exact ⟨fun h => ⟨q, h⟩, fun h => h.2⟩
  · rw [List.getElem?_eq_none (by simp; omega)]
    exact ⟨fun h => (by cases h), fun h => absurd h.1 q⟩
section
variable (word : List Int)
/-- What is marked, and what is fresh of it. -/
structure StarI (x : S24) (P : Nat → Prop) (out fresh : List Bool) : Prop where
  ol : out.length = word.length + 1
  fl : fresh.length = word.length + 1
  fo : ∀ j, on fresh j → on out j
  sub : ∀ j, on out j → ∃ i, P i ∧ Many (WayN (hitM word) x) i j
  all : ∀ i, P i → on out i
  cl : ∀ i j, on out i → ¬ on fresh i → WayN (hitM word) x i j → on out j
theorem StarI.fin {x : S24} {P : Nat → Prop} {out fresh : List Bool} (h : StarI word x P out fresh) (hn : ∀ j, ¬ on fresh j) : Tells word (fun j => ∃ i, P i ∧ Many (WayN (hitM word) x) i j) out := by
  refine ⟨h.ol, fun j => ⟨h.sub j, ?_⟩⟩
  rintro ⟨i, hi, hm⟩
  have h0 := h.all i hi
  clear hi
  induction hm with
  | refl => exact h0
  | more _ hw ih => exact h.cl _ _ ih (hn _) hw
end
end Go.Proofs.Ytemlgmkbonpniaa.Print
