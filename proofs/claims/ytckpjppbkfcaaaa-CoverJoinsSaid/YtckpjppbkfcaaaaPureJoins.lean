/- Two runs, one behind the other, that no word spans: the plain law. -/
import Derived.Test.YtckpjppbkfcaaaaPureMore
namespace Go.Proofs.Ytckpjppbkfcaaaa.Pure
open Go.RowKit Go.Maps Go.Proofs.Ytckpjppbkfcaaaa.Print Go.Proofs.YtckpjppbkfcaaaaW.PrintWords Go.Proofs.YtckpjppbkfcaaaaW.PrintLast
set_option linter.unusedVariables false
set_option linter.unusedSimpArgs false

section
variable {n m : Nat} {C C1 C2 : Costs} {E E1 E2 : Nat → List Int} {xs ys zs : List Int}
structure Joined (n m : Nat) (C C1 C2 : Costs) : Prop where
  low : ∀ i j : Int, 0 ≤ i → i < n → C (i, j) = C1 (i, j)
  high : ∀ i j : Int, 0 ≤ i → i < m → C ((n : Int) + i, j) = C2 (i, j - n)
theorem joined_high (hS2 : Print.Spec m C2 E2) (hJ : Joined n m C C1 C2) (h : Best (n + m) C 0 zs) (h2 : Best m C2 0 ys) : ∀ d i : Nat, i + d = m → rd zs ((n : Int) + i) = rd ys (i : Int) := by
  intro d
  induction d using Nat.strongRecOn with
  | ind d ih =>
    intro i hi
    have ec : (n : Int) + (i : Int) = ((n + i : Nat) : Int) := by omega
    by_cases e : d = 0
    · obtain rfl : i = m := by omega
      rw [h2.last, ec]
      exact h.last
    · have hi2 : i < m := by omega
      have same : ∀ x c, C2 ((i : Int), x) = some c → rd zs ((n : Int) + x) = rd ys x := fun x c hc => by
        have hp := hS2.place _ _ _ hc
        obtain ⟨f, rfl⟩ : ∃ f : Nat, x = f := ⟨x.toNat, by omega⟩
        exact ih (m - f) (by omega) f (by omega)
      obtain ⟨x, c, hc, e1⟩ := h.is (n + i) (by omega) (by omega)
      rw [← ec] at hc e1
      obtain ⟨y, d', hd, e2⟩ := h2.is i (by omega) hi2
      have hc2 : C2 ((i : Int), x - n) = some c := by rw [← hJ.high i x (by omega) (by omega)]; exact hc
      have hd' : C ((n : Int) + i, (n : Int) + y) = some d' := by rw [hJ.high i _ (by omega) (by omega), show (n : Int) + y - n = y by omega]; exact hd
      have l1 := h.le (n + i) (by omega) (by omega) ((n : Int) + y) d' (by rw [← ec]; exact hd')
      have l2 := h2.le i (by omega) hi2 (x - n) c hc2
      have s1 := same y d' hd
      have s2 := same (x - n) c hc2
      rw [show (n : Int) + (x - n) = x by omega] at s2
      rw [← ec] at l1
      omega
theorem joined_low (hS1 : Print.Spec n C1 E1) (hS2 : Print.Spec m C2 E2) (hJ : Joined n m C C1 C2) (h : Best (n + m) C 0 zs) (h1 : Best n C1 0 xs) (h2 : Best m C2 0 ys) : ∀ d i : Nat, i + d = n → rd zs (i : Int) = rd xs (i : Int) + rd ys 0 := by
  intro d
  induction d using Nat.strongRecOn with
  | ind d ih =>
    intro i hi
    by_cases e : d = 0
    · obtain rfl : i = n := by omega
      have := joined_high hS2 hJ h h2 m 0 (by omega)
      rw [h1.last]
      simp only [Int.natCast_zero, Int.add_zero, Int.cast_ofNat_Int] at this
      omega
    · have hi2 : i < n := by omega
      have same : ∀ x c, C1 ((i : Int), x) = some c → rd zs x = rd xs x + rd ys 0 := fun x c hc => by
        have hp := hS1.place _ _ _ hc
        obtain ⟨f, rfl⟩ : ∃ f : Nat, x = f := ⟨x.toNat, by omega⟩
        exact ih (n - f) (by omega) f (by omega)
      obtain ⟨x, c, hc, e1⟩ := h.is i (by omega) (by omega)
      obtain ⟨y, d', hd, e2⟩ := h1.is i (by omega) hi2
      have hc2 : C1 ((i : Int), x) = some c := by rw [← hJ.low i x (by omega) (by omega)]; exact hc
      have hd' : C ((i : Int), y) = some d' := by rw [hJ.low i _ (by omega) (by omega)]; exact hd
      have l1 := h.le i (by omega) (by omega) y d' hd'
      have l2 := h1.le i (by omega) hi2 x c hc2
      have s1 := same y d' hd
      have s2 := same x c hc2
      omega
theorem next_high (hS : Print.Spec (n + m) C E) (hS2 : Print.Spec m C2 E2) (hJ : Joined n m C C1 C2) (h : Best (n + m) C 0 zs) (h2 : Best m C2 0 ys) {i : Nat} (hi : i < m) : nextF false C E zs (n + i) = n + nextF false C2 E2 ys i := by
  have ec : ((n + i : Nat) : Int) = (n : Int) + (i : Int) := by omega
  have G : ∀ x c, C2 ((i : Int), x) = some c → goes false C zs (n + i) ((n : Int) + x) = goes false C2 ys i x := fun x c hc => by
    have hp := hS2.place _ _ _ hc
    obtain ⟨f, rfl⟩ : ∃ f : Nat, x = f := ⟨x.toNat, by omega⟩
    unfold goes pieceV
    rw [ec, hJ.high i _ (by omega) (by omega), show (n : Int) + (f : Int) - n = f by omega, joined_high hS2 hJ h h2 (m - f) f (by omega), joined_high hS2 hJ h h2 (m - i) i (by omega)]
  obtain ⟨p1, p2⟩ := nextF_is (cap := false) hS h (a := n + i) (by omega)
  obtain ⟨q1, q2⟩ := nextF_is (cap := false) hS2 h2 hi
  obtain ⟨c, hc⟩ := (hS.ends (n + i) _ (by omega)).1 (nextF_mem (cap := false) hS h (a := n + i) (by omega)).1
  obtain ⟨d, hd⟩ := (hS2.ends i _ hi).1 (nextF_mem (cap := false) hS2 h2 hi).1
  generalize nextF false C E zs (n + i) = p at *
  generalize nextF false C2 E2 ys i = q at *
  rw [ec, hJ.high i _ (by omega) (by omega)] at hc
  have g1 := G _ c hc
  rw [show (n : Int) + ((p : Int) - n) = p by omega, p1] at g1
  have a1 := q2 _ ⟨c, hc⟩ g1.symm
  have g2 := G _ d hd
  rw [q1] at g2
  have a2 := p2 ((n : Int) + q) ⟨d, by rw [ec, hJ.high i _ (by omega) (by omega), show (n : Int) + (q : Int) - n = q by omega]; exact hd⟩ g2
  omega
theorem next_low (hS : Print.Spec (n + m) C E) (hS1 : Print.Spec n C1 E1) (hS2 : Print.Spec m C2 E2) (hJ : Joined n m C C1 C2) (h : Best (n + m) C 0 zs) (h1 : Best n C1 0 xs) (h2 : Best m C2 0 ys) {i : Nat} (hi : i < n) : nextF false C E zs i = nextF false C1 E1 xs i := by
  have G : ∀ x c, C1 ((i : Int), x) = some c → goes false C zs i x = goes false C1 xs i x := fun x c hc => by
    have hp := hS1.place _ _ _ hc
    obtain ⟨f, rfl⟩ : ∃ f : Nat, x = f := ⟨x.toNat, by omega⟩
    unfold goes pieceV
    rw [hJ.low i _ (by omega) (by omega), joined_low hS1 hS2 hJ h h1 h2 (n - f) f (by omega), joined_low hS1 hS2 hJ h h1 h2 (n - i) i (by omega)]
    congr 1
    exact decide_eq_decide.2 (by omega)
  obtain ⟨p1, p2⟩ := nextF_is (cap := false) hS h (a := i) (by omega)
  obtain ⟨q1, q2⟩ := nextF_is (cap := false) hS1 h1 hi
  obtain ⟨c, hc⟩ := (hS.ends i _ (by omega)).1 (nextF_mem (cap := false) hS h (a := i) (by omega)).1
  obtain ⟨d, hd⟩ := (hS1.ends i _ hi).1 (nextF_mem (cap := false) hS1 h1 hi).1
  generalize nextF false C E zs i = p at *
  generalize nextF false C1 E1 xs i = q at *
  rw [hJ.low i _ (by omega) (by omega)] at hc
  have g1 := G _ c hc
  rw [p1] at g1
  have a1 := q2 _ ⟨c, hc⟩ g1.symm
  have g2 := G _ d hd
  rw [q1] at g2
  have a2 := p2 (q : Int) ⟨d, by rw [hJ.low i _ (by omega) (by omega)]; exact hd⟩ g2
  omega
theorem path_join {nx nx1 nx2 : Nat → Nat} (h : ∀ a, a < n + m → a < nx a ∧ nx a ≤ n + m) (h1 : ∀ a, a < n → a < nx1 a ∧ nx1 a ≤ n) (h2 : ∀ a, a < m → a < nx2 a ∧ nx2 a ≤ m) (hl : ∀ a, a < n → nx a = nx1 a) (hh : ∀ a, a < m → nx (n + a) = n + nx2 a) :
    pathL nx (n + m) (n + m) 0 = pathL nx1 n n 0 ++ (pathL nx2 m m 0).map (fun x => (n : Int) + x) := by
  have high : ∀ d i : Nat, i + d = m → pathL nx (n + m) (n + m) (n + i) = (pathL nx2 m m i).map (fun x => (n : Int) + x) := by
    intro d
    induction d using Nat.strongRecOn with
    | ind d ih =>
      intro i hi
      by_cases e : d = 0
      · rw [pathL_end (by omega), pathL_end (by omega)]; rfl
      · have g := h2 i (by omega)
        rw [pathL_step h (by omega), pathL_step h2 (by omega), List.map_cons, hh i (by omega), ih (m - nx2 i) (by omega) (nx2 i) (by omega), Int.natCast_add]
  have low : ∀ d i : Nat, i + d = n → pathL nx (n + m) (n + m) i = pathL nx1 n n i ++ (pathL nx2 m m 0).map (fun x => (n : Int) + x) := by
    intro d
    induction d using Nat.strongRecOn with
    | ind d ih =>
      intro i hi
      by_cases e : d = 0
      · obtain rfl : i = n := by omega
        rw [pathL_end (nx := nx1) (Nat.le_refl _), List.nil_append]
        exact high m 0 (by omega)
      · have g := h1 i (by omega)
        rw [pathL_step h (by omega), pathL_step h1 (by omega), hl i (by omega), ih (n - nx1 i) (by omega) (nx1 i) (by omega), List.cons_append]
  exact low n 0 (by omega)
theorem pathL_bound {nx : Nat → Nat} {N : Nat} (h : ∀ a, a < N → a < nx a ∧ nx a ≤ N) : ∀ (f a : Nat) (x : Int), x ∈ pathL nx N f a → 0 ≤ x ∧ x ≤ N
  | 0, a, x, hx => by rw [pathL] at hx; cases hx
  | f + 1, a, x, hx => by
    rw [pathL] at hx
    by_cases q : a < N
    · rw [if_pos q, List.mem_cons] at hx
      have := h a q
      rcases hx with rfl | hx
      · omega
      · exact pathL_bound h f _ x hx
    · rw [if_neg q] at hx; cases hx
end
/-- The words of the first t, parted. -/
structure Parted (n m : Nat) (one two all : List S36) (t : Nat) : Prop where
  l1 : one.length ≤ t
  l2 : two.length ≤ t
  l3 : all.length ≤ 2 * t
  ok1 : one.all (wordOk n) = true
  ok2 : two.all (wordOk m) = true
  ok3 : all.all (wordOk ((n + m : Nat) : Int)) = true
  low : ∀ i j : Int, i < n → mwF i j all (-1) = mwF i j one (-1)
  high : ∀ i j : Int, 0 ≤ i → mwF ((n : Int) + i) j all (-1) = mwF i (j - n) two (-1)
theorem joins_law {n m : Nat} (hn : n ≤ 60) (hm : m ≤ 60) {one two all : List S36} {t : Nat} (ht : t ≤ 100) (h : Parted n m one two all t) :
    ∃ u v c d, bestR n 7 1099511627776 one = (0 :: u, c, 0) ∧ bestR m 7 1099511627776 two = (0 :: v, d, 0) ∧ bestR ((n + m : Nat) : Int) 7 1099511627776 all = (0 :: (u ++ v.map (fun x => (n : Int) + x)), c + d, 0) ∧ (0 ≤ c ∧ c ≤ 1000000000) ∧ (0 ≤ d ∧ d ≤ 1000000000) ∧ u.length ≤ 60 ∧ v.length ≤ 60 ∧ ∀ x ∈ v, 0 ≤ x ∧ x ≤ (m : Int) := by
  have lim : ∀ (N : Nat) (l : List S36), N ≤ 120 → l.length ≤ 200 → limOk N 7 1099511627776 l.length = true := fun N l hp hl => by
    unfold limOk inN
    simp only [Bool.and_eq_true, decide_eq_true_eq]
    refine ⟨by omega, by omega, by omega, by omega⟩
  have get : ∀ (N : Nat) (l : List S36), N ≤ 120 → l.length ≤ 200 → l.all (wordOk N) = true → Print.Spec N (finCE N 7 l).1 (finCE N 7 l).2 ∧ ∃ xs, Best N (finCE N 7 l).1 0 xs ∧ bestR N 7 1099511627776 l = (0 :: pathL (nextF false (finCE N 7 l).1 (finCE N 7 l).2 xs) N N 0, rd xs 0, 0) ∧ 0 ≤ rd xs 0 ∧ rd xs 0 ≤ (N : Int) * 1048576 := fun N l hN hl ho => by
    refine ⟨fin_spec (lim N l hN hl) ho, ?_⟩
    have ok : okRun N 7 1099511627776 l = true := by unfold okRun; rw [lim N l hN hl, ho]; rfl
    rcases bestR_res N 7 1099511627776 l with ⟨h1, h2⟩ | ⟨h1, N', h2, xs, h3, h4⟩
    · rw [ok] at h1; cases h1
    · obtain rfl : N = N' := by omega
      have hlow := h3.low 0 (by omega)
      simp only [Int.cast_ofNat_Int, Nat.sub_zero] at hlow
      have hb : ¬ (1099511627776 ≤ rd xs 0) := by omega
      refine ⟨xs, h3, ?_, hlow.1, hlow.2⟩
      rw [h4, decide_eq_false hb, Int.min_eq_left (by omega)]
  obtain ⟨S1, xs, B1, r1, b1⟩ := get n one (by omega) (by have := h.l1; omega) h.ok1
  obtain ⟨S2, ys, B2, r2, b2⟩ := get m two (by omega) (by have := h.l2; omega) h.ok2
  obtain ⟨S3, zs, B3, r3, b3⟩ := get (n + m) all (by omega) (by have := h.l3; omega) h.ok3
  have J : Joined n m (finCE (n + m) 7 all).1 (finCE n 7 one).1 (finCE m 7 two).1 := by
    constructor
    · intro i j h0 hi
      rw [(piece_is h.ok3 (by omega) ⟨h0, by omega⟩).2, (piece_is h.ok1 (by omega) ⟨h0, hi⟩).2]
      unfold refPiece
      rw [h.low i j hi]
    · intro i j h0 hi
      rw [(piece_is h.ok3 (by omega) ⟨by omega, by omega⟩).2, (piece_is h.ok2 (by omega) ⟨h0, hi⟩).2]
      unfold refPiece
      rw [h.high i j h0]
      congr 1
      by_cases q0 : mwF i (j - n) two (-1) < 0
      · by_cases q : j = (n : Int) + i + 1
        · rw [if_pos ⟨q0, q⟩, if_pos ⟨q0, by omega⟩]
        · rw [if_neg (fun h => q h.2), if_neg (fun h => q (by omega))]
      · rw [if_neg (fun h => q0 h.1), if_neg (fun h => q0 h.1)]
  have x1 : ∀ a, a < n → a < nextF false (finCE n 7 one).1 (finCE n 7 one).2 xs a ∧ nextF false (finCE n 7 one).1 (finCE n 7 one).2 xs a ≤ n := fun a ha => (nextF_mem S1 B1 ha).2
  have x2 : ∀ a, a < m → a < nextF false (finCE m 7 two).1 (finCE m 7 two).2 ys a ∧ nextF false (finCE m 7 two).1 (finCE m 7 two).2 ys a ≤ m := fun a ha => (nextF_mem S2 B2 ha).2
  have x3 : ∀ a, a < n + m → a < nextF false (finCE (n + m) 7 all).1 (finCE (n + m) 7 all).2 zs a ∧ nextF false (finCE (n + m) 7 all).1 (finCE (n + m) 7 all).2 zs a ≤ n + m := fun a ha => (nextF_mem S3 B3 ha).2
  have e0 := joined_low S1 S2 J B3 B1 B2 n 0 (by omega)
  refine ⟨_, _, _, _, r1, r2, ?_, ⟨b1.1, by omega⟩, ⟨b2.1, by omega⟩, ?_, ?_, fun x hx => pathL_bound x2 _ _ x hx⟩
  · rw [r3, path_join x3 x1 x2 (fun a ha => next_low S3 S1 S2 J B3 B1 B2 ha) (fun a ha => next_high S3 S2 J B3 B2 ha)]
    rw [show rd zs 0 = rd xs 0 + rd ys 0 from e0]
  · have := pathL_len (nx := nextF false (finCE n 7 one).1 (finCE n 7 one).2 xs) (N := n) n 0; omega
  · have := pathL_len (nx := nextF false (finCE m 7 two).1 (finCE m 7 two).2 ys) (N := m) m 0; omega
end Go.Proofs.Ytckpjppbkfcaaaa.Pure
