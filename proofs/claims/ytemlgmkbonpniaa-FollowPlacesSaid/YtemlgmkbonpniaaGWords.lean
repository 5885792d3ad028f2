/- Plain law: the places behind a word, and whether it may end, tell whether it is one of the expression's. -/
import Derived.Test.YtemlgmkbonpniaaGMarksM
import Derived.Test.YtemlgmkbonpniaaFAutoM
import Derived.Lib.Zigzag
namespace Go.Proofs.Ytemlgmkbonpniaa.Print
open Go.RowKit Go.Maps Go.Proofs.YtemlgmkbonpniaaW.PrintWords Go.Proofs.YtemlgmkbonpniaaW.PrintLast Go.Proofs.YtemlgmkbonpniaaW.PrintMore
set_option linter.unusedVariables false
set_option linter.unusedSimpArgs false
theorem bit_two {sign s : Int} (h : 0 ≤ sign ∧ sign < 18446744073709551616) : bitN sign s = 0 ∨ bitN sign s = 1 := by
  unfold bitN shr
  have h1 : 0 ≤ sign / 2 ^ min s.toNat IntKind.u64.bits := Int.ediv_nonneg h.1 (Int.le_of_lt (Int.pow_pos (by decide)))
  have h2 : sign / 2 ^ min s.toNat IntKind.u64.bits < 18446744073709551616 := Int.lt_of_le_of_lt (Int.ediv_le_self _ h.1) h.2
  rw [Lib.u64_and1 _ h1 h2]
  omega
theorem allR_mem_iff {first : List Int} {fol : List (List Int)} {at_ : List Int} {q : Int} : q ∈ allR first fol at_ ↔ (0 ∈ at_ ∧ q ∈ first) ∨ ∃ t ∈ at_, t ≠ 0 ∧ q ∈ fol.getD (t - 1).toNat [] := by
  unfold allR
  rw [List.mem_flatten]
  constructor
  · rintro ⟨l, hl, hq⟩
    obtain ⟨t, ht, rfl⟩ := List.mem_map.1 hl
    unfold rowOf at hq
    split at hq
    next e => subst e; exact .inl ⟨ht, hq⟩
    next e => exact .inr ⟨t, ht, e, hq⟩
  · rintro (⟨h, hq⟩ | ⟨t, ht, e, hq⟩)
    · exact ⟨_, List.mem_map.2 ⟨0, h, rfl⟩, by unfold rowOf; rw [if_pos rfl]; exact hq⟩
    · exact ⟨_, List.mem_map.2 ⟨t, ht, rfl⟩, by unfold rowOf; rw [if_neg e]; exact hq⟩
theorem step_iff {r : Bt} {a : List Int} {m q : Int} (hm : 0 ≤ m ∧ m < 18446744073709551616) : q ∈ stepR r.2.1 r.2.2.1 r.2.2.2.2.1 a m ↔ q ∈ allR r.2.2.1 r.2.2.2.2.1 a ∧ bitN m (rd r.2.1 (q - 1)) = 1 := by
  unfold stepR withR
  rw [List.mem_filter, compact_mem, sortI_mem, List.append_nil, Bool.not_eq_true']
  unfold oddN
  rw [beq_eq_false_iff_ne]
  have := bit_two (s := rd r.2.1 (q - 1)) hm
  constructor
  · rintro ⟨h1, h2⟩; exact ⟨h1, by omega⟩
  · rintro ⟨h1, h2⟩; exact ⟨h1, by omega⟩
/-- What Build tells of the places. -/
structure Tell (x : S24) (r : Bt) : Prop where
  sets : r.2.1 = leavesN x
  nul : r.1 = eps x
  fst : ∀ q, q ∈ r.2.2.1 ↔ fstP x 0 q
  lst : ∀ p, p ∈ r.2.2.2.1 ↔ lstP x 0 p
  fol : ∀ p q, 1 ≤ p → (q ∈ r.2.2.2.2.1.getD (p - 1).toNat [] ↔ folP x 0 p q)
theorem build_tell (x : S24) (h : (buildR x).2.2.2.2.2 = 0) : Tell x (buildR x) := by
  have hb := h
  unfold buildR at hb
  split at hb
  · cases hb
  next hr =>
    split at hb
    · cases hb
    next hc =>
      have hr' : rightN x = true := by revert hr; cases rightN x <;> simp
      have hs := node_sem x hr' ⟨[], []⟩ ⟨rfl, fun l hl => by cases hl⟩
      have he : buildR x = ((nodeR x ⟨[], []⟩).2.null, (nodeR x ⟨[], []⟩).1.sets, (nodeR x ⟨[], []⟩).2.first, (nodeR x ⟨[], []⟩).2.last, (nodeR x ⟨[], []⟩).1.fol, 0) := by unfold buildR; rw [if_neg hr, if_neg hc]
      rw [he]
      refine ⟨by rw [hs.sets, List.nil_append], hs.nul, hs.fst, hs.lst, fun p q hp => (hs.fol p q hp).trans ⟨fun h => h.elim (fun h => ?_) id, .inr⟩⟩
      rw [List.getD_eq_getElem?_getD, List.getElem?_nil] at h
      cases h
section
variable {x : S24} {r : Bt} (hr : rightN x = true) (hT : Tell x r) (word : List Int) (hU : ∀ s ∈ word, 0 ≤ s ∧ s < 18446744073709551616)
/-- The set of a place. -/
def setOf (r : Bt) (q : Int) : Int := rd r.2.1 (q - 1)
include hT in
theorem bears_all : Bears (setOf r) 0 (leavesN x) := by
  intro t ht
  unfold setOf rd
  rw [hT.sets, show (0 + 1 + (t : Int) - 1).toNat = t by omega]
include hr hT in
theorem glu_all : Loc (hitM word) (setOf r) (WayN (hitM word) x) (eps x) (fstP x 0) (lstP x 0) (folP x 0) := glu (hitM word) (setOf r) x hr 0 (bears_all hT)
/-- Where one stands behind the first signs of a word; free, it may begin anywhere. -/
def Stands (x : S24) (r : Bt) (word : List Int) (free : Bool) (i : Nat) (q : Int) : Prop := (q = 0 ∧ (free = true ∨ i = 0)) ∨ ∃ i0, (free = true ∨ i0 = 0) ∧ Go (hitM word) (setOf r) (fstP x 0) (folP x 0) i0 q i
def xAt (r : Bt) (free : Bool) (a : List Int) (m : Int) : List Int := if free = true then 0 :: stepR r.2.1 r.2.2.1 r.2.2.2.2.1 a m else stepR r.2.1 r.2.2.1 r.2.2.2.2.1 a m
omit hU hr in
theorem go_pos {i0 i : Nat} {q : Int} (h : Go (hitM word) (setOf r) (fstP x 0) (folP x 0) i0 q i) : 1 ≤ q := by
  have hi := in_all x 0
  exact Go.inn (hitM word) (setOf r) (P := fun q => 1 ≤ q) (fun q hq => by have := hi.f q hq; omega) (fun p q hq => by have := hi.r p q hq; omega) h
include hT hU in
theorem stands_step (free : Bool) {i : Nat} (hi : i < word.length) {a : List Int} (ha : ∀ q, q ∈ a ↔ Stands x r word free i q) : ∀ q, q ∈ xAt r free a (rd word (i : Int)) ↔ Stands x r word free (i + 1) q := by
  have hz : 0 ∈ a ↔ (free = true ∨ i = 0) := by
    rw [ha 0]
    constructor
    · rintro (h | ⟨i0, _, h⟩)
      · exact h.2
      · have := go_pos word h; omega
    · intro h; exact .inl ⟨rfl, h⟩
  have hm : 0 ≤ rd word (i : Int) ∧ rd word (i : Int) < 18446744073709551616 := hU _ (rd_mem hi)
  have hi0 := in_all x 0
  have key : ∀ q, q ∈ stepR r.2.1 r.2.2.1 r.2.2.2.2.1 a (rd word (i : Int)) ↔ ∃ i0, (free = true ∨ i0 = 0) ∧ Go (hitM word) (setOf r) (fstP x 0) (folP x 0) i0 q (i + 1) := by
    intro q
    rw [step_iff hm, allR_mem_iff]
    constructor
    · rintro ⟨h1, h2⟩
      have hh : hitM word i (setOf r q) := ⟨hi, h2⟩
      rcases h1 with ⟨h0, hq⟩ | ⟨t, ht, ht0, hq⟩
      · exact ⟨i, hz.1 h0, .one ((hT.fst q).1 hq) hh⟩
      · rcases (ha t).1 ht with h | ⟨i0, g0, hg⟩
        · exact absurd h.1 ht0
        · exact ⟨i0, g0, .more hg ((hT.fol t q (go_pos word hg)).1 hq) hh⟩
    · rintro ⟨i0, g0, hg⟩
      cases hg with
      | one hf hh => exact ⟨.inl ⟨hz.2 g0, (hT.fst q).2 hf⟩, hh.2⟩
      | @more p _ _ hg hf hh =>
        have hp := go_pos word hg
        exact ⟨.inr ⟨p, (ha p).2 (.inr ⟨i0, g0, hg⟩), by omega, (hT.fol p q hp).2 hf⟩, hh.2⟩
  intro q
  unfold xAt Stands
  cases free with
  | true =>
    rw [if_pos rfl, List.mem_cons, key q]
    exact ⟨fun h => h.elim (fun h => .inl ⟨h, .inl rfl⟩) .inr, fun h => h.elim (fun h => .inl h.1) .inr⟩
  | false =>
    rw [if_neg (by decide), key q]
    exact ⟨.inr, fun h => h.elim (fun h => by have := h.2; rcases this with h | h; cases h; omega) id⟩
include hr hT in
theorem stands_end (free : Bool) {a : List Int} (ha : ∀ q, q ∈ a ↔ Stands x r word free word.length q) : endR r.1 r.2.2.2.1 a = true ↔ ∃ i0, (free = true ∨ i0 = 0) ∧ WayN (hitM word) x i0 word.length := by
  have hL := glu_all hr hT word
  have hi0 := in_all x 0
  unfold endR
  rw [List.any_eq_true]
  constructor
  · rintro ⟨t, ht, he⟩
    unfold endP at he
    rw [Bool.or_eq_true, Bool.and_eq_true, decide_eq_true_eq, decide_eq_true_eq] at he
    rcases (ha t).1 ht with ⟨h0, h1⟩ | ⟨i0, g0, hg⟩
    · subst h0
      rcases he with ⟨_, he⟩ | he
      · exact ⟨word.length, h1, (hL _ _).2 (.inl ⟨rfl, by rw [← hT.nul]; exact he⟩)⟩
      · have := hi0.l 0 ((hT.lst 0).1 he); omega
    · rcases he with ⟨he, _⟩ | he
      · have := go_pos word hg; omega
      · exact ⟨i0, g0, (hL _ _).2 (.inr ⟨t, hg, (hT.lst t).1 he⟩)⟩
  · rintro ⟨i0, g0, hw⟩
    rcases (hL _ _).1 hw with ⟨h1, h2⟩ | ⟨p, hg, hl⟩
    · refine ⟨0, (ha 0).2 (.inl ⟨rfl, by rw [← h1]; exact g0⟩), ?_⟩
      unfold endP
      rw [hT.nul, h2]; simp
    · refine ⟨p, (ha p).2 (.inr ⟨i0, g0, hg⟩), ?_⟩
      unfold endP
      rw [decide_eq_true ((hT.lst p).2 hl), Bool.or_true]
include hT hU in
theorem stands_all (free : Bool) : ∀ (i : Nat), i ≤ word.length → ∀ q, q ∈ (word.take i).foldl (xAt r free) [0] ↔ Stands x r word free i q := by
  intro i
  induction i with
  | zero =>
    intro _ q
    rw [List.take_zero]
    unfold Stands
    constructor
    · intro h; exact .inl ⟨List.mem_singleton.1 h, .inr rfl⟩
    · rintro (h | ⟨i0, _, hg⟩)
      · rw [h.1]; exact List.mem_singleton.2 rfl
      · have := Go.lt _ _ hg; omega
  | succ i ih =>
    intro hi q
    rw [take_one (by omega), List.foldl_append]
    exact stands_step hT word hU free (by omega) (ih (by omega)) q
include hr hT hU in
/-- The states tell of the words. -/
theorem words_law (free : Bool) : endR r.1 r.2.2.2.1 (word.foldl (xAt r free) [0]) = true ↔ ∃ i0, (free = true ∨ i0 = 0) ∧ WayN (hitM word) x i0 word.length := by
  have h := stands_all hT word hU free word.length (Nat.le_refl _)
  rw [List.take_length] at h
  exact stands_end hr hT word free h
include hr in
theorem way_le (hT : Tell x r) {i j : Nat} (h : WayN (hitM word) x i j) : i ≤ j := by
  rcases (glu_all hr hT word i j).1 h with ⟨h, _⟩ | ⟨p, hg, _⟩
  · omega
  · have := Go.lt _ _ hg; omega
end
end Go.Proofs.Ytemlgmkbonpniaa.Print
