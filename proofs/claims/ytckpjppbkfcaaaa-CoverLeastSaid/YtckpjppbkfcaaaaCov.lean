/- (*run).piece, (*run).least: what a piece costs; the least costs from each place to the end. -/
import Derived.Test.YtckpjppbkfcaaaaMade
namespace Go.Proofs.Ytckpjppbkfcaaaa.Print
open Go.RowKit Go.Maps Go.Proofs.YtckpjppbkfcaaaaW.PrintWords Go.Proofs.YtckpjppbkfcaaaaW.PrintLast Go.Proofs.YtckpjppbkfcaaaaW.PrintMore
set_option linter.unusedVariables false
set_option linter.unusedSimpArgs false

def least_T5 : Bool × List (List Nat × List Nat) := (true, [([], []), ([], []), ([], []), ([], []), ([], []), ([4], [4]), ([2, 3, 5], [2, 3, 5]), ([], []), ([], []), ([8], [8]), ([7, 9], [7, 9]), ([10], [10]), ([6, 11], [6, 11]), ([0, 1, 0, 1, 2, 3, 4, 5, 6, 7, 8, 9, 10, 11, 12], [0, 1]), ([13, 12, 6, 0, 1, 2, 3, 4, 5, 6, 7, 8, 9, 10, 11, 12], [12, 13])])
def least_B5 : List Nat := [0, 0, 0, 0, 0, 16, 60, 0, 0, 256, 896, 1920, 4092, 8191, 16383]
theorem least_tab5 : rtab .any (opsOf Try.f18 5) = least_T5 := by kernel_rfl
theorem least_bits5 : waitsOk least_T5.2 least_B5 = true := by kernel_rfl
def least_T9 : Bool × List (List Nat × List Nat) := (true, [([], []), ([], []), ([], []), ([], []), ([2, 3], [2, 3]), ([4], [4]), ([], []), ([], []), ([], []), ([6, 7, 8], [6, 7, 8]), ([], []), ([], []), ([10, 11], [10, 11]), ([12], [12]), ([9, 13], [9, 13]), ([5, 14], [5, 14]), ([0, 1, 0, 1, 2, 3, 4, 5, 6, 7, 8, 9, 10, 11, 12, 13, 14, 15], [0, 1]), ([16, 15, 9, 0, 1, 2, 3, 4, 5, 6, 7, 8, 9, 10, 11, 12, 13, 14, 15], [15, 16])])
def least_B9 : List Nat := [0, 0, 0, 0, 12, 28, 0, 0, 0, 448, 0, 0, 3072, 7168, 16320, 32764, 65535, 131071]
theorem least_tab9 : rtab .any (opsOf Try.f18 9) = least_T9 := by kernel_rfl
theorem least_bits9 : waitsOk least_T9.2 least_B9 = true := by kernel_rfl
/-- What a piece costs; -1: it is none. -/
def pieceV (C : Costs) (q : Int × Int) : Int := (C q).getD (-1)
set_option maxHeartbeats 4000000 in
set_option maxRecDepth 100000 in
theorem piece_calls {base RB MB EB : Nat} {n p mo : Int} {k : Nat} {C : Costs} {vs : List Value} {E : Nat → List Int} (a b : Int) (W : World) (hi : RunI base RB MB EB n p mo k C vs E W) (hs : SmallP (a, b)) :
    Calls Try.prog 19 #[.pointer (some ⟨RB, 0, none⟩), .int .i64 a, .int .i64 b] W fun e w' => e = .returned (.int .i64 (pieceV C (a, b))) ∧ w' = W := by
  have c3 := hi.cells.2.2.2.1
  cases hc : C (a, b) with
  | none =>
    have hlook := hi.miss hs hc
    unfold pairV at hlook
    have e : pieceV C (a, b) = -1 := by unfold pieceV; rw [hc]; rfl
    rw [e]
    clear e hi hs hc
    go_enter Try.func19, Try.ntmps19
    go_wp2_with fail
    go_ret
    exact ⟨rfl, rfl⟩
  | some c =>
    have hlook := hi.hit hs hc
    unfold pairV at hlook
    have e : pieceV C (a, b) = c := by unfold pieceV; rw [hc]; rfl
    rw [e]
    clear e hi hs hc
    go_enter Try.func19, Try.ntmps19
    go_wp2_with fail
    go_ret
    exact ⟨rfl, rfl⟩

/-! ### what a run says of its words -/
structure Spec (N : Nat) (C : Costs) (E : Nat → List Int) : Prop where
  one : ∀ i : Nat, i < N → ∃ c, C ((i : Int), (i : Int) + 1) = some c
  cost : ∀ i j c, C (i, j) = some c → 0 ≤ c ∧ c ≤ 1048576
  place : ∀ i j c, C (i, j) = some c → 0 ≤ i ∧ i < j ∧ j ≤ N
  ends : ∀ (i : Nat) (x : Int), i < N → (x ∈ E i ↔ ∃ c, C ((i : Int), x) = some c)
  inc : ∀ i : Nat, i < N → (E i).Pairwise (· < ·)
  len : ∀ i : Nat, (E i).length ≤ 100001

/-! ### least -/
/-- The least costs stand from place j on. -/
structure Best (N : Nat) (C : Costs) (j : Nat) (xs : List Int) : Prop where
  len : xs.length = N + 1
  last : rd xs (N : Int) = 0
  low : ∀ i : Nat, i ≤ N → 0 ≤ rd xs (i : Int) ∧ rd xs (i : Int) ≤ ((N - i : Nat) : Int) * 1048576
  le : ∀ i : Nat, j ≤ i → i < N → ∀ x c, C ((i : Int), x) = some c → rd xs (i : Int) ≤ c + rd xs x
  is : ∀ i : Nat, j ≤ i → i < N → ∃ x c, C ((i : Int), x) = some c ∧ rd xs (i : Int) = c + rd xs x
/-- .. at place j, where the first t ends have been looked at. -/
structure Part (N : Nat) (C : Costs) (E : Nat → List Int) (j t : Nat) (xs : List Int) : Prop where
  best : Best N C (j + 1) xs
  one : ∀ c, C ((j : Int), (j : Int) + 1) = some c → rd xs (j : Int) ≤ c + rd xs ((j : Int) + 1)
  le : ∀ x, x ∈ (E j).take t → ∀ c, C ((j : Int), x) = some c → rd xs (j : Int) ≤ c + rd xs x
  is : ∃ x c, C ((j : Int), x) = some c ∧ rd xs (j : Int) = c + rd xs x
theorem rd_set {xs : List Int} {i : Nat} {y : Int} {z : Int} (hi : i < xs.length) (hz : 0 ≤ z) : rd (xs.set i y) z = if z = (i : Int) then y else rd xs z := by
  unfold rd
  rw [List.getD_eq_getElem?_getD, List.getElem?_set]
  by_cases e : z = (i : Int)
  · subst e
    rw [Int.toNat_natCast, if_pos rfl, if_pos hi, if_pos rfl]; rfl
  · rw [if_neg (by omega), if_neg e, List.getD_eq_getElem?_getD]
theorem Best.start (N : Nat) (C : Costs) : Best N C N (List.replicate (N + 1) 0) := by
  have h : ∀ z : Int, rd (List.replicate (N + 1) 0) z = 0 := fun z => by
    unfold rd
    rw [List.getD_eq_getElem?_getD, List.getElem?_replicate]
    split <;> rfl
  refine ⟨by simp, h _, fun i hi => ⟨by rw [h]; omega, by rw [h]; have : (0 : Int) ≤ ((N - i : Nat) : Int) := by omega
                                                          exact Int.mul_nonneg this (by omega)⟩, fun i h1 h2 => by omega, fun i h1 h2 => by omega⟩
section
variable {N : Nat} {C : Costs} {E : Nat → List Int} {j t : Nat} {xs : List Int}
theorem mul_step {j N : Nat} (h : j < N) : ((N - j : Nat) : Int) * 1048576 = ((N - (j + 1) : Nat) : Int) * 1048576 + 1048576 := by
  have : ((N - j : Nat) : Int) = ((N - (j + 1) : Nat) : Int) + 1 := by omega
  rw [this, Int.add_mul]; omega
theorem mul_mono {a b : Nat} (h : a ≤ b) : (a : Int) * 1048576 ≤ (b : Int) * 1048576 := by omega
/-- What a piece and the rest come to. -/
theorem Best.sum (hS : Spec N C E) (h : Best N C (j + 1) xs) (hj : j < N) {x c : Int} (hc : C ((j : Int), x) = some c) : 0 ≤ c + rd xs x ∧ c + rd xs x ≤ ((N - j : Nat) : Int) * 1048576 := by
  obtain ⟨p1, p2, p3⟩ := hS.place _ _ _ hc
  obtain ⟨c1, c2⟩ := hS.cost _ _ _ hc
  obtain ⟨f, rfl⟩ : ∃ f : Nat, x = f := ⟨x.toNat, by omega⟩
  have := h.low f (by omega)
  have h2 := mul_step hj
  have h3 := mul_mono (show N - f ≤ N - (j + 1) by omega)
  omega
theorem Best.setAt (hS : Spec N C E) (h : Best N C (j + 1) xs) (hj : j < N) {x c : Int} (hc : C ((j : Int), x) = some c) : Best N C (j + 1) (xs.set j (c + rd xs x)) := by
  have hl := h.len
  have hsum := h.sum hS hj hc
  have keep : ∀ z : Int, 0 ≤ z → z ≠ (j : Int) → rd (xs.set j (c + rd xs x)) z = rd xs z := fun z h0 hz => by rw [rd_set (by omega) h0, if_neg hz]
  refine ⟨by rw [List.length_set]; exact hl, by rw [keep _ (by omega) (by omega)]; exact h.last, fun i hi => ?_, fun i h1 h2 y d hd => ?_, fun i h1 h2 => ?_⟩
  · by_cases e : i = j
    · subst e
      rw [rd_set (by omega) (by omega), if_pos rfl]; exact hsum
    · rw [keep _ (by omega) (by omega)]; exact h.low i hi
  · have := hS.place _ _ _ hd
    rw [keep _ (by omega) (by omega), keep _ (by omega) (by omega)]
    exact h.le i h1 h2 y d hd
  · obtain ⟨y, d, hd, e⟩ := h.is i h1 h2
    have := hS.place _ _ _ hd
    refine ⟨y, d, hd, ?_⟩
    rw [keep _ (by omega) (by omega), keep _ (by omega) (by omega)]
    exact e
/-- The first piece. -/
theorem Part.first (hS : Spec N C E) (h : Best N C (j + 1) xs) (hj : j < N) {c : Int} (hc : C ((j : Int), (j : Int) + 1) = some c) : Part N C E j 0 (xs.set j (c + rd xs ((j : Int) + 1))) := by
  have hl := h.len
  have e1 : rd (xs.set j (c + rd xs ((j : Int) + 1))) (j : Int) = c + rd xs ((j : Int) + 1) := by rw [rd_set (by omega) (by omega), if_pos rfl]
  have e2 : rd (xs.set j (c + rd xs ((j : Int) + 1))) ((j : Int) + 1) = rd xs ((j : Int) + 1) := by rw [rd_set (by omega) (by omega), if_neg (by omega)]
  refine ⟨h.setAt hS hj hc, fun d hd => ?_, fun x hx => by simp at hx, ⟨_, c, hc, by rw [e1, e2]⟩⟩
  rw [hc] at hd
  obtain rfl := Option.some.inj hd
  rw [e1, e2]; omega
/-- One end more. -/
theorem Part.next (hS : Spec N C E) (h : Part N C E j t xs) (hj : j < N) (ht : t < (E j).length) {x c : Int} (hx : rd (E j) (t : Int) = x) (hc : C ((j : Int), x) = some c) :
    Part N C E j (t + 1) (xs.set j (if c + rd xs x < rd xs (j : Int) then c + rd xs x else rd xs (j : Int))) := by
  have hl := h.best.len
  have hxm : (E j).take (t + 1) = (E j).take t ++ [x] := by
    rw [List.take_succ_eq_append_getElem ht]
    unfold rd at hx
    rw [Int.toNat_natCast, List.getD_eq_getElem?_getD, List.getElem?_eq_getElem ht, Option.getD_some] at hx
    rw [hx]
  have hp := hS.place _ _ _ hc
  by_cases q : c + rd xs x < rd xs (j : Int)
  · rw [if_pos q]
    have e1 : rd (xs.set j (c + rd xs x)) (j : Int) = c + rd xs x := by rw [rd_set (by omega) (by omega), if_pos rfl]
    have e2 : ∀ z : Int, (j : Int) < z → rd (xs.set j (c + rd xs x)) z = rd xs z := fun z hz => by rw [rd_set (by omega) (by omega), if_neg (by omega)]
    refine ⟨h.best.setAt hS hj hc, fun d hd => ?_, fun y hy d hd => ?_, ⟨x, c, hc, by rw [e1, e2 _ (by omega)]⟩⟩
    · have := h.one d hd
      rw [e1, e2 _ (by omega)]; omega
    · have hp2 := hS.place _ _ _ hd
      rw [e1, e2 _ (by omega)]
      rw [hxm, List.mem_append, List.mem_singleton] at hy
      rcases hy with hy | rfl
      · have := h.le y hy d hd; omega
      · rw [hc] at hd
        obtain rfl := Option.some.inj hd
        omega
  · rw [if_neg q]
    have e0 : xs.set j (rd xs (j : Int)) = xs := by
      apply List.ext_getElem?
      intro i
      rw [List.getElem?_set]
      by_cases e : j = i
      · subst e
        rw [if_pos rfl, if_pos (by omega)]
        unfold rd
        rw [Int.toNat_natCast, List.getD_eq_getElem?_getD, List.getElem?_eq_getElem (by omega)]; rfl
      · rw [if_neg e]
    rw [e0]
    refine ⟨h.best, h.one, fun y hy d hd => ?_, h.is⟩
    rw [hxm, List.mem_append, List.mem_singleton] at hy
    rcases hy with hy | rfl
    · exact h.le y hy d hd
    · rw [hc] at hd
      obtain rfl := Option.some.inj hd
      omega
theorem Part.done (hS : Spec N C E) (h : Part N C E j (E j).length xs) (hj : j < N) : Best N C j xs := by
  refine ⟨h.best.len, h.best.last, h.best.low, fun i h1 h2 x c hc => ?_, fun i h1 h2 => ?_⟩
  · by_cases e : i = j
    · subst e
      exact h.le x (by rw [List.take_length]; exact (hS.ends i x hj).2 ⟨c, hc⟩) c hc
    · exact h.best.le i (by omega) h2 x c hc
  · by_cases e : i = j
    · subst e; exact h.is
    · exact h.best.is i (by omega) h2
end
theorem R_cellg {W : World} {e base g n cap : Nat} {ok : Nat → Prop} {xs : List Int} (h : Kd.R (Kd.int .i64) e W base ok (.slice (some ⟨g, 0, none⟩) n cap) xs) (i : Nat) (hi : i < n) : W.cell? ⟨g, i, none⟩ = some (.int .i64 (rd xs i)) ∧ W.frozen? ⟨g, i, none⟩ = false := by
  obtain ⟨rfl, _⟩ := Kd.R_reads' h
  have := Kd.R_cell (0 : Int) h (i : Int) (by omega) (by omega)
  rw [Int.toNat_natCast] at this
  exact this
theorem R_putN {W : World} {e base g n cap : Nat} {ok : Nat → Prop} {xs : List Int} (h : Kd.R (Kd.int .i64) e W base ok (.slice (some ⟨g, 0, none⟩) n cap) xs) (i : Nat) (x : Int) : Kd.R (Kd.int .i64) e (W.setCell ⟨g, i, none⟩ (.int .i64 x)) base ok (.slice (some ⟨g, 0, none⟩) n cap) (xs.set i x) := by
  have := Kd.R_putn h (i : Int) x
  rw [Int.toNat_natCast] at this
  exact this

theorem spec_small {N : Nat} {C : Costs} {E : Nat → List Int} (hS : Spec N C E) (hN : N ≤ 5000) {a b c : Int} (h : C (a, b) = some c) : SmallP (a, b) := by
  obtain ⟨p1, p2, p3⟩ := hS.place _ _ _ h
  exact ⟨WalkArith.wf_i64 (by omega), WalkArith.wf_i64 (by omega)⟩
theorem vs_get {vs : List Value} {k f : Nat} (h : vs.length = k) (hf : f < k) : ∃ v, vs[f]? = some v := ⟨_, List.getElem?_eq_getElem (by omega)⟩
theorem rd_mem {l : List Int} {i : Nat} (hi : i < l.length) : rd l (i : Int) ∈ l := by
  unfold rd
  rw [Int.toNat_natCast, List.getD_eq_getElem?_getD, List.getElem?_eq_getElem hi]
  exact List.getElem_mem hi
/-- What least comes to. -/
structure LeastPost (N : Nat) (C : Costs) (W : World) (e : Ending) (w' : World) : Prop where
  below : Below W.heap.size W w'
  is : ∃ g xs, e = .returned (.slice (some ⟨g, 0, none⟩) (N + 1) (N + 1)) ∧ Kd.R (Kd.int .i64) 3 w' W.heap.size (fun _ => True) (.slice (some ⟨g, 0, none⟩) (N + 1) (N + 1)) xs ∧ Best N C 0 xs
set_option maxHeartbeats 16000000 in
set_option maxRecDepth 100000 in
theorem least_calls {base RB MB EB : Nat} {p mo : Int} {C : Costs} {vs : List Value} {E : Nat → List Int} (N : Nat) (W : World) (hN : N ≤ 5000) (hi : RunI base RB MB EB N p mo (N + 1) C vs E W) (hS : Spec N C E) :
    Calls Try.prog 18 #[.pointer (some ⟨RB, 0, none⟩)] W (LeastPost N C W) := by
  have HN := Aside0.mk hN
  have HS := Aside0.mk hS
  obtain ⟨n, hn⟩ : ∃ n : Int, (N : Int) = n := ⟨_, rfl⟩
  rw [hn] at hi
  obtain ⟨k, hk⟩ : ∃ k, N + 1 = k := ⟨_, rfl⟩
  rw [hk] at hi
  have hwk : wrap64 (n + 1) = (k : Int) := by unfold wrap64; omega
  have hwn : wrap64 (n - 1) = n - 1 := by unfold wrap64; omega
  have hmk := fun W => run_make_row' (P := Try.prog) 25 3 (.int .i64 0) 8 Try.underlying25 info3 rfl .i64 .i64 k (by omega) (by omega) W
  have HI := Aside0.mk hi
  have HNN := Aside0.mk hn
  have HK := Aside0.mk hk
  have c0 := hi.cells.1
  have c0b := (hi.later (below_alloc (Below.refl W.heap.size W) (.cells (madeCells #[.int .i64 0] k) 3))).cells.1
  clear hN hS hn hk hi
  go_enter Try.func18, Try.ntmps18
  go_wp2_with fail
  have HO0 := Aside0.mk (show Kd.R (Kd.int .i64) 3 (W.alloc (.cells (madeCells #[.int .i64 0] k) 3)) W.heap.size (fun _ => True) (.slice (some ⟨W.heap.size, 0, none⟩) k k) (List.replicate k 0) from by
    have h := own_made_of' (enc := Value.int .i64) (d := (0 : Int)) W W.heap.size 3 k (Nat.le_refl _) (by have := HK.out; have := HN.out; omega)
    have e : (List.replicate k (0 : Int)).length = k := by simp
    refine Kd.R_of_own (h1 := fun _ => rfl) h (fun _ _ => trivial))
  have HB0 := Aside0.mk (below_alloc (Below.refl W.heap.size W) (.cells (madeCells #[.int .i64 0] k) 3))
  have HG := Aside0.mk (Nat.le_refl W.heap.size)
  obtain ⟨g, hg⟩ : ∃ g, W.heap.size = g := ⟨_, rfl⟩
  rw [show (Value.slice (some ⟨W.heap.size, 0, none⟩) k k) = .slice (some ⟨g, 0, none⟩) k k by rw [hg]] at HO0 ⊢
  have HGW := Aside0.mk (show W.heap.size ≤ g by omega)
  clear HG hg
  generalize W.alloc (.cells (madeCells #[.int .i64 0] k) 3) = W1 at *
  clear hmk c0 c0b
  go_loopg [4] (N + 1) (fun gg s4 wr => ∃ (j : Nat) (xs : List Int), s4 = .int .i64 ((j : Int) - 1) ∧ j ≤ N ∧ j < gg ∧ Aside0 (Kd.R (Kd.int .i64) 3 wr W.heap.size (fun _ => True) (.slice (some ⟨g, 0, none⟩) k k) xs) ∧ Aside0 (Best N C j xs) ∧ Aside0 (Below W.heap.size W wr))
  case atStart => exact ⟨N, _, by rw [HNN.out, hwn], by omega, by omega, HO0, ⟨by rw [← HK.out]; exact Best.start N C⟩, HB0⟩
  case round =>
    clear HO0 HB0 hwk hwn
    obtain ⟨j, xs, hs4, hj, hgk, HO, HBE, HB⟩ := hrel
    cases j with
    | zero =>
      obtain ⟨z, hz⟩ : ∃ z : Int, ((0 : Nat) : Int) - 1 = z := ⟨_, rfl⟩
      rw [hz] at hs4
      subst hs4
      have hzn : z < 0 := by omega
      clear hz
      go_wp2_with fail
      go_ret
      refine ⟨HB.out, g, xs, ?_, ?_, HBE.out⟩
      · rw [HK.out]; rfl
      · rw [HK.out]; exact HO.out
    | succ i =>
      have hz : (((i + 1 : Nat) : Int) - 1) = (i : Int) := by omega
      rw [hz] at hs4
      subst hs4
      clear hz
      obtain ⟨g1, hg1⟩ : ∃ x, gk = x := ⟨_, rfl⟩
      have HG1 := Aside0.mk hg1
      have HJ := Aside0.mk (show i < N by omega)
      have HGK := Aside0.mk (show i + 1 < g1 by omega)
      obtain ⟨i1, hi1⟩ : ∃ i1 : Nat, i + 1 = i1 := ⟨_, rfl⟩
      have hwi : wrap64 ((i : Int) + 1) = (i1 : Int) := by unfold wrap64; have := HN.out; omega
      obtain ⟨c, hc⟩ := HS.out.one i HJ.out
      have he1 : ((i : Int) + 1) = (i1 : Int) := by omega
      have HSUM := Aside0.mk (HBE.out.sum HS.out HJ.out hc)
      have HPA := Aside0.mk (Part.first HS.out HBE.out HJ.out hc)
      have HSM := Aside0.mk (spec_small HS.out HN.out hc)
      have HPV := Aside0.mk (show pieceV C ((i : Int), (i : Int) + 1) = c by unfold pieceV; rw [hc]; rfl)
      rw [he1] at HSUM HPA HSM HPV
      have hws : wrap64 (c + rd xs (i1 : Int)) = c + rd xs (i1 : Int) := by
        have h1 := HSUM.out
        have h2 := HN.out
        unfold wrap64
        omega
      have hik : (i : Int) < (k : Int) := by have := HK.out; omega
      have hik2 : (i < k) = True := eq_true (by have := HK.out; omega)
      have hi1k : (i1 : Int) < (k : Int) := by have := HK.out; omega
      have hi1k2 : (i1 < k) = True := eq_true (by have := HK.out; omega)
      have HIK := Aside0.mk (show i < k ∧ i1 < k by have := HK.out; omega)
      clear hg1 hgk hj hi1 he1 hc
      go_upto_region 5 with fail
      have HO5 := Aside0.mk (Kd.R_drew HO.out)
      have HB5 := Aside0.mk (below_step HB.out (below_drew (Below.refl _ _)))
      clear HO HB
      refine wp_region_noPanic ?_
      refine start_ (n := 15) (S := fun w' => w'.cell? ⟨g, i1, none⟩ = some (.int .i64 (rd xs (i1 : Int)))) (ds := [14]) #[false, false, false, false, false, false, false, false, false, false, false, false, false, false, false] (by kernel_rfl) rfl rfl (R_cellg HO5.out i1 HIK.out.2).1 (fun hHeld => ?_); refine with_tabW least_tab5 least_bits5 (fun HT_ HW_ => ?_)
      obtain ⟨W5, hW_⟩ : ∃ w, wr.drew = w := ⟨_, rfl⟩
      rw [hW_] at HO5 HB5 hHeld ⊢
      clear hW_
      refine pure_ (i := 0) (N := some 22) (v := ?_) (a' := ?_) #[true, false, false, false, false, false, false, false, false, false, false, false, false, false, false] rfl rfl (any_of HT_.out (by kernel_rfl)) (fun _ _ _ h => h) (Or.inl ⟨by rfl, ?_⟩) ?_ ?_
      rotate_left
      · intro w'
        go_simp
        with_reducible rfl
      rotate_left
      · simp only [Act.put, List.setIfInBounds_toArray, List.set_cons_zero, List.set_cons_succ, i64_w, i32_w]
        rfl
      refine pure_ (i := 1) (N := some 23) (v := ?_) (a' := ?_) #[true, true, false, false, false, false, false, false, false, false, false, false, false, false, false] rfl rfl (any_of HT_.out (by kernel_rfl)) (fun _ _ _ h => h) (Or.inl ⟨by rfl, ?_⟩) ?_ ?_
      rotate_left
      · intro w'
        go_simp
        with_reducible rfl
      rotate_left
      · simp only [Act.put, List.setIfInBounds_toArray, List.set_cons_zero, List.set_cons_succ, i64_w, i32_w]
        rfl
      refine pure_ (i := 2) (N := some 24) (v := ?_) (a' := ?_) #[true, true, true, false, false, false, false, false, false, false, false, false, false, false, false] rfl rfl (any_of HT_.out (by kernel_rfl)) (fun _ _ _ h => h) (Or.inl ⟨by rfl, ?_⟩) ?_ ?_
      rotate_left
      · intro w'
        go_simp
        with_reducible rfl
      rotate_left
      · simp only [Act.put, List.setIfInBounds_toArray, List.set_cons_zero, List.set_cons_succ, i64_w, i32_w]
        rfl
      refine pure_ (i := 3) (N := some 25) (v := ?_) (a' := ?_) #[true, true, true, true, false, false, false, false, false, false, false, false, false, false, false] rfl rfl (any_of HT_.out (by kernel_rfl)) (fun _ _ _ h => h) (Or.inl ⟨by rfl, ?_⟩) ?_ ?_
      rotate_left
      · intro w'
        go_simp
        with_reducible rfl
      rotate_left
      · simp only [Act.put, List.setIfInBounds_toArray, List.set_cons_zero, List.set_cons_succ, i64_w, i32_w]
        rfl
      refine pure_ (i := 4) (N := some 26) (v := ?_) (a' := ?_) #[true, true, true, true, true, false, false, false, false, false, false, false, false, false, false] rfl rfl (any_of HT_.out (by kernel_rfl)) (fun _ _ _ h => h) (Or.inl ⟨by rfl, ?_⟩) ?_ ?_
      rotate_left
      · intro w'
        go_simp
        with_reducible rfl
      rotate_left
      · simp only [Act.put, List.setIfInBounds_toArray, List.set_cons_zero, List.set_cons_succ, i64_w, i32_w]
        rfl
      refine pure_ (i := 5) (N := some 27) (v := ?_) (a' := ?_) #[true, true, true, true, true, true, false, false, false, false, false, false, false, false, false] rfl rfl (any_of HT_.out (by kernel_rfl)) (fun _ _ _ h => h) (Or.inl ⟨by rfl, ?_⟩) ?_ ?_
      rotate_left
      · intro w'
        go_simp
        with_reducible rfl
      rotate_left
      · simp only [Act.put, List.setIfInBounds_toArray, List.set_cons_zero, List.set_cons_succ, i64_w, i32_w]
        rfl
      refine pure_ (i := 7) (N := some 29) (v := ?_) (a' := ?_) #[true, true, true, true, true, true, false, true, false, false, false, false, false, false, false] rfl rfl (any_of HT_.out (by kernel_rfl)) (fun _ _ _ h => h) (Or.inl ⟨by rfl, ?_⟩) ?_ ?_
      rotate_left
      · intro w'
        go_simp
        with_reducible rfl
      rotate_left
      · simp only [Act.put, List.setIfInBounds_toArray, List.set_cons_zero, List.set_cons_succ, i64_w, i32_w]
        rfl
      refine pure_ (i := 8) (N := some 30) (v := ?_) (a' := ?_) #[true, true, true, true, true, true, false, true, true, false, false, false, false, false, false] rfl rfl (any_of HT_.out (by kernel_rfl)) (fun _ _ _ h => h) (Or.inl ⟨by rfl, ?_⟩) ?_ ?_
      rotate_left
      · intro w'
        go_simp
        with_reducible rfl
      rotate_left
      · simp only [Act.put, List.setIfInBounds_toArray, List.set_cons_zero, List.set_cons_succ, i64_w, i32_w]
        rfl
      refine pure_ (i := 9) (N := some 31) (v := ?_) (a' := ?_) #[true, true, true, true, true, true, false, true, true, true, false, false, false, false, false] rfl rfl (any_of HT_.out (by kernel_rfl)) (fun _ _ _ h => h) (Or.inl ⟨by rfl, ?_⟩) ?_ ?_
      rotate_left
      · intro w'
        go_simp
        with_reducible rfl
      rotate_left
      · simp only [Act.put, List.setIfInBounds_toArray, List.set_cons_zero, List.set_cons_succ, i64_w, i32_w]
        rfl
      refine pure_ (i := 10) (N := some 32) (v := ?_) (a' := ?_) #[true, true, true, true, true, true, false, true, true, true, true, false, false, false, false] rfl rfl (any_of HT_.out (by kernel_rfl)) (fun _ _ _ h => h) (Or.inl ⟨by rfl, ?_⟩) ?_ ?_
      rotate_left
      · intro w'
        go_simp
        with_reducible rfl
      rotate_left
      · simp only [Act.put, List.setIfInBounds_toArray, List.set_cons_zero, List.set_cons_succ, i64_w, i32_w]
        rfl
      refine take_ (i := 11) (N := some 33) (v := ?_) (a' := ?_) #[true, true, true, true, true, true, false, true, true, true, true, true, false, false, false] rfl rfl (take_ofW HT_.out HW_.out (by kernel_rfl)) (fun _ _ _ h => h) (Or.inl ⟨by rfl, ?_⟩) hHeld ?_ ?_
      rotate_left
      · rintro w' s0
        go_simp
        with_reducible rfl
      rotate_left
      · simp only [Act.put, List.setIfInBounds_toArray, List.set_cons_zero, List.set_cons_succ, i64_w, i32_w]
        rfl
      refine one_ (i := 6) (N := some 28) #[true, true, true, true, true, true, true, true, true, true, true, true, false, false, false] rfl rfl (one_of HT_.out (by kernel_rfl)) (by decide) (fun K hK => ?_)
      refine goes_ Try.func19 (by kernel_rfl) rfl #[.pointer (some ⟨RB, 0, none⟩), .int .i64 i, .int .i64 (wrap64 ((i : Int) + 1))] (by rfl) rfl rfl (by (try simp only [List.map_toArray, List.map_cons, List.map_nil]); first | done | rfl) ?_
      try rw [hwi]
      refine (piece_calls _ _ W5 (HI.out.later HB5.out) HSM.out).mono ?_
      rintro e w_ ⟨rfl, hw⟩
      replace hw := hw.symm
      subst hw
      refine ⟨_, rfl, ?_⟩
      rw [HPV.out]
      refine hK.out _ _ (R_cellg HO5.out i1 HIK.out.2).1 (fun hHeld => ?_)
      clear hK K
      refine norm_ (a' := ?_) ?_ ?_
      rotate_left
      · show Act.put _ (some 28) _ = _
        simp only [Act.put, List.setIfInBounds_toArray, List.set_cons_zero, List.set_cons_succ, i64_w, i32_w]
        rfl
      refine pure_ (i := 12) (N := some 34) (v := ?_) (a' := ?_) #[true, true, true, true, true, true, true, true, true, true, true, true, true, false, false] rfl rfl (any_of HT_.out (by kernel_rfl)) (fun _ _ _ h => h) (Or.inl ⟨by rfl, ?_⟩) ?_ ?_
      rotate_left
      · intro w'
        go_simp
        with_reducible rfl
      rotate_left
      · simp only [Act.put, List.setIfInBounds_toArray, List.set_cons_zero, List.set_cons_succ, i64_w, i32_w]
        rfl
      refine pure_ (i := 13) (N := some 35) (v := ?_) (a' := ?_) #[true, true, true, true, true, true, true, true, true, true, true, true, true, true, false] rfl rfl (any_of HT_.out (by kernel_rfl)) (fun _ _ _ h => h) (Or.inl ⟨by rfl, ?_⟩) ?_ ?_
      rotate_left
      · intro w'
        go_simp
        with_reducible rfl
      rotate_left
      · simp only [Act.put, List.setIfInBounds_toArray, List.set_cons_zero, List.set_cons_succ, i64_w, i32_w]
        rfl
      refine last_ (i := 14) (N := none) #[true, true, true, true, true, true, true, true, true, true, true, true, true, true, true] rfl rfl (one_of HT_.out (by kernel_rfl)) (by decide) (fun K hK => ?_)
      refine step_list rfl (by rfl) ?_
      have z0 := (R_cellg HO5.out i HIK.out.1).1
      have z1 := (R_cellg HO5.out i HIK.out.1).2
      unfold Oper.wp
      go_simp
      refine hK.out _ _ ?_
      clear hK K z0 z1
      refine done_ (done_of HT_.out (by kernel_rfl)) ?_
      refine NoPanic.normal ?_
      clear HT_ HW_ hHeld
      have HO6 := Aside0.mk (R_putN HO5.out i (c + rd xs (i1 : Int)))
      have HB6 := Aside0.mk (HB5.out.setCell (p := ⟨g, i, none⟩) HGW.out (.int .i64 (c + rd xs (i1 : Int))))
      clear HO5 HB5 HSUM HBE hws
      generalize W5.setCell ⟨g, i, none⟩ (.int .i64 (c + rd xs (i1 : Int))) = W6 at *
      have HI6 := Aside0.mk (HI.out.later HB6.out)
      obtain ⟨v, hv⟩ := vs_get HI.out.len HIK.out.1
      have HRV := Aside0.mk (HI.out.rows.row i v hv)
      obtain ⟨Av, cv, ev⟩ := Kd.R_slice HRV.out
      subst ev
      have d4 := HI6.out.cells.2.2.2.2
      have ec := HI6.out.rows.cell hv
      have HV := Aside0.mk hv
      clear hv
      obtain ⟨xs0, hxs0⟩ : ∃ y, xs.set i (c + rd xs (i1 : Int)) = y := ⟨_, rfl⟩
      rw [hxs0] at HO6 HPA
      clear hxs0 HPV HSM
      go_wp2_with fail
      go_loopg [44] ((E i).length + 1) (fun gg s44 wr => ∃ (t : Nat) (xs : List Int), s44 = .int .i64 t ∧ t ≤ (E i).length ∧ (E i).length - t < gg ∧ Aside0 (Kd.R (Kd.int .i64) 3 wr W.heap.size (fun _ => True) (.slice (some ⟨g, 0, none⟩) k k) xs) ∧ Aside0 (Part N C E i t xs) ∧ Aside0 (Below W.heap.size W wr))
      case atStart => exact ⟨0, xs0, rfl, by omega, by omega, HO6, HPA, HB6⟩
      case round =>
        clear HO6 HPA HB6 HI6 d4 ec
        obtain ⟨t, xs, rfl, ht, hgk, HO, HPA, HB⟩ := hrel
        by_cases hlt : t < (E i).length
        · have hltz : (t : Int) < ((E i).length : Int) := by omega
          obtain ⟨ad, ea, hx0⟩ := Kd.at_int (Kd.C_below (Kd.R_reads' HRV.out).2.2 HB.out) (t : Int) (by omega) hltz
          rw [Int.toNat_natCast] at hx0
          obtain ⟨c', hc'⟩ := (HS.out.ends i _ HJ.out).1 (rd_mem hlt)
          have hpl := HS.out.place _ _ _ hc'
          have HNX := Aside0.mk (fun x (e : rd (E i) (t : Int) = x) (hx : C ((i : Int), x) = some c') => HPA.out.next HS.out HJ.out hlt e hx)
          have HSUM := Aside0.mk (HPA.out.best.sum HS.out HJ.out hc')
          have HLT := Aside0.mk hlt
          obtain ⟨f, hf⟩ : ∃ f : Nat, rd (E i) (t : Int) = (f : Int) := ⟨(rd (E i) (t : Int)).toNat, by omega⟩
          rw [hf] at hx0 hc' hpl HSUM
          have HNX2 := Aside0.mk (HNX.out _ hf hc')
          have HSM := Aside0.mk (spec_small HS.out HN.out hc')
          have HPV := Aside0.mk (show pieceV C ((i : Int), (f : Int)) = c' by unfold pieceV; rw [hc']; rfl)
          have hws : wrap64 (c' + rd xs (f : Int)) = c' + rd xs (f : Int) := by
            have h1 := HSUM.out
            have h2 := HN.out
            unfold wrap64
            omega
          have HFK := Aside0.mk (show f < k by have := HK.out; omega)
          have hfk : (f : Int) < (k : Int) := by have := HFK.out; omega
          have hfk2 : (f < k) = True := eq_true HFK.out
          subst ea
          clear hf hc' hpl hlt HNX HSUM
          go_upto_region 9 with fail
          have HO8 := Aside0.mk (Kd.R_drew HO.out)
          have HB8 := Aside0.mk (below_step HB.out (below_drew (Below.refl _ _)))
          clear HO HB hx0
          refine wp_region_noPanic ?_
          refine start_ (n := 18) (S := fun w' => w'.cell? ⟨g, i, none⟩ = some (.int .i64 (rd xs (i : Int))) ∧ w'.cell? ⟨g, f, none⟩ = some (.int .i64 (rd xs (f : Int)))) (ds := [17]) #[false, false, false, false, false, false, false, false, false, false, false, false, false, false, false, false, false, false] (by kernel_rfl) rfl rfl ⟨(R_cellg HO8.out i HIK.out.1).1, (R_cellg HO8.out f HFK.out).1⟩ (fun hHeld => ?_); refine with_tabW least_tab9 least_bits9 (fun HT_ HW_ => ?_)
          obtain ⟨W8, hW_⟩ : ∃ w, wr.drew = w := ⟨_, rfl⟩
          rw [hW_] at HO8 HB8 hHeld ⊢
          clear hW_
          refine pure_ (i := 0) (N := some 48) (v := ?_) (a' := ?_) #[true, false, false, false, false, false, false, false, false, false, false, false, false, false, false, false, false, false] rfl rfl (any_of HT_.out (by kernel_rfl)) (fun _ _ _ h => h) (Or.inl ⟨by rfl, ?_⟩) ?_ ?_
          rotate_left
          · intro w'
            go_simp
            with_reducible rfl
          rotate_left
          · simp only [Act.put, List.setIfInBounds_toArray, List.set_cons_zero, List.set_cons_succ, i64_w, i32_w]
            rfl
          refine pure_ (i := 1) (N := some 49) (v := ?_) (a' := ?_) #[true, true, false, false, false, false, false, false, false, false, false, false, false, false, false, false, false, false] rfl rfl (any_of HT_.out (by kernel_rfl)) (fun _ _ _ h => h) (Or.inl ⟨by rfl, ?_⟩) ?_ ?_
          rotate_left
          · intro w'
            go_simp
            with_reducible rfl
          rotate_left
          · simp only [Act.put, List.setIfInBounds_toArray, List.set_cons_zero, List.set_cons_succ, i64_w, i32_w]
            rfl
          refine pure_ (i := 2) (N := some 50) (v := ?_) (a' := ?_) #[true, true, true, false, false, false, false, false, false, false, false, false, false, false, false, false, false, false] rfl rfl (any_of HT_.out (by kernel_rfl)) (fun _ _ _ h => h) (Or.inl ⟨by rfl, ?_⟩) ?_ ?_
          rotate_left
          · intro w'
            go_simp
            with_reducible rfl
          rotate_left
          · simp only [Act.put, List.setIfInBounds_toArray, List.set_cons_zero, List.set_cons_succ, i64_w, i32_w]
            rfl
          refine pure_ (i := 3) (N := some 51) (v := ?_) (a' := ?_) #[true, true, true, true, false, false, false, false, false, false, false, false, false, false, false, false, false, false] rfl rfl (any_of HT_.out (by kernel_rfl)) (fun _ _ _ h => h) (Or.inl ⟨by rfl, ?_⟩) ?_ ?_
          rotate_left
          · intro w'
            go_simp
            with_reducible rfl
          rotate_left
          · simp only [Act.put, List.setIfInBounds_toArray, List.set_cons_zero, List.set_cons_succ, i64_w, i32_w]
            rfl
          refine pure_ (i := 4) (N := some 52) (v := ?_) (a' := ?_) #[true, true, true, true, true, false, false, false, false, false, false, false, false, false, false, false, false, false] rfl rfl (any_of HT_.out (by kernel_rfl)) (fun _ _ _ h => h) (Or.inl ⟨by rfl, ?_⟩) ?_ ?_
          rotate_left
          · intro w'
            go_simp
            with_reducible rfl
          rotate_left
          · simp only [Act.put, List.setIfInBounds_toArray, List.set_cons_zero, List.set_cons_succ, i64_w, i32_w]
            rfl
          refine take_ (i := 5) (N := some 53) (v := ?_) (a' := ?_) #[true, true, true, true, true, true, false, false, false, false, false, false, false, false, false, false, false, false] rfl rfl (take_ofW HT_.out HW_.out (by kernel_rfl)) (fun _ _ _ h => h) (Or.inl ⟨by rfl, ?_⟩) hHeld ?_ ?_
          rotate_left
          · rintro w' ⟨s0, s1⟩
            go_simp
            with_reducible rfl
          rotate_left
          · simp only [Act.put, List.setIfInBounds_toArray, List.set_cons_zero, List.set_cons_succ, i64_w, i32_w]
            rfl
          refine pure_ (i := 6) (N := some 54) (v := ?_) (a' := ?_) #[true, true, true, true, true, true, true, false, false, false, false, false, false, false, false, false, false, false] rfl rfl (any_of HT_.out (by kernel_rfl)) (fun _ _ _ h => h) (Or.inl ⟨by rfl, ?_⟩) ?_ ?_
          rotate_left
          · intro w'
            go_simp
            with_reducible rfl
          rotate_left
          · simp only [Act.put, List.setIfInBounds_toArray, List.set_cons_zero, List.set_cons_succ, i64_w, i32_w]
            rfl
          refine pure_ (i := 7) (N := some 55) (v := ?_) (a' := ?_) #[true, true, true, true, true, true, true, true, false, false, false, false, false, false, false, false, false, false] rfl rfl (any_of HT_.out (by kernel_rfl)) (fun _ _ _ h => h) (Or.inl ⟨by rfl, ?_⟩) ?_ ?_
          rotate_left
          · intro w'
            go_simp
            with_reducible rfl
          rotate_left
          · simp only [Act.put, List.setIfInBounds_toArray, List.set_cons_zero, List.set_cons_succ, i64_w, i32_w]
            rfl
          refine pure_ (i := 8) (N := some 56) (v := ?_) (a' := ?_) #[true, true, true, true, true, true, true, true, true, false, false, false, false, false, false, false, false, false] rfl rfl (any_of HT_.out (by kernel_rfl)) (fun _ _ _ h => h) (Or.inl ⟨by rfl, ?_⟩) ?_ ?_
          rotate_left
          · intro w'
            go_simp
            with_reducible rfl
          rotate_left
          · simp only [Act.put, List.setIfInBounds_toArray, List.set_cons_zero, List.set_cons_succ, i64_w, i32_w]
            rfl
          refine pure_ (i := 10) (N := some 58) (v := ?_) (a' := ?_) #[true, true, true, true, true, true, true, true, true, false, true, false, false, false, false, false, false, false] rfl rfl (any_of HT_.out (by kernel_rfl)) (fun _ _ _ h => h) (Or.inl ⟨by rfl, ?_⟩) ?_ ?_
          rotate_left
          · intro w'
            go_simp
            with_reducible rfl
          rotate_left
          · simp only [Act.put, List.setIfInBounds_toArray, List.set_cons_zero, List.set_cons_succ, i64_w, i32_w]
            rfl
          refine pure_ (i := 11) (N := some 59) (v := ?_) (a' := ?_) #[true, true, true, true, true, true, true, true, true, false, true, true, false, false, false, false, false, false] rfl rfl (any_of HT_.out (by kernel_rfl)) (fun _ _ _ h => h) (Or.inl ⟨by rfl, ?_⟩) ?_ ?_
          rotate_left
          · intro w'
            go_simp
            with_reducible rfl
          rotate_left
          · simp only [Act.put, List.setIfInBounds_toArray, List.set_cons_zero, List.set_cons_succ, i64_w, i32_w]
            rfl
          refine pure_ (i := 12) (N := some 60) (v := ?_) (a' := ?_) #[true, true, true, true, true, true, true, true, true, false, true, true, true, false, false, false, false, false] rfl rfl (any_of HT_.out (by kernel_rfl)) (fun _ _ _ h => h) (Or.inl ⟨by rfl, ?_⟩) ?_ ?_
          rotate_left
          · intro w'
            go_simp
            with_reducible rfl
          rotate_left
          · simp only [Act.put, List.setIfInBounds_toArray, List.set_cons_zero, List.set_cons_succ, i64_w, i32_w]
            rfl
          refine take_ (i := 13) (N := some 61) (v := ?_) (a' := ?_) #[true, true, true, true, true, true, true, true, true, false, true, true, true, true, false, false, false, false] rfl rfl (take_ofW HT_.out HW_.out (by kernel_rfl)) (fun _ _ _ h => h) (Or.inl ⟨by rfl, ?_⟩) hHeld ?_ ?_
          rotate_left
          · rintro w' ⟨s0, s1⟩
            go_simp
            with_reducible rfl
          rotate_left
          · simp only [Act.put, List.setIfInBounds_toArray, List.set_cons_zero, List.set_cons_succ, i64_w, i32_w]
            rfl
          refine one_ (i := 9) (N := some 57) #[true, true, true, true, true, true, true, true, true, true, true, true, true, true, false, false, false, false] rfl rfl (one_of HT_.out (by kernel_rfl)) (by decide) (fun K hK => ?_)
          refine goes_ Try.func19 (by kernel_rfl) rfl #[.pointer (some ⟨RB, 0, none⟩), .int .i64 i, .int .i64 f] (by rfl) rfl rfl (by (try simp only [List.map_toArray, List.map_cons, List.map_nil]); first | done | rfl) ?_
          try rw [hwi]
          refine (piece_calls _ _ W8 (HI.out.later HB8.out) HSM.out).mono ?_
          rintro e w_ ⟨rfl, hw⟩
          replace hw := hw.symm
          subst hw
          refine ⟨_, rfl, ?_⟩
          rw [HPV.out]
          refine hK.out _ _ ⟨(R_cellg HO8.out i HIK.out.1).1, (R_cellg HO8.out f HFK.out).1⟩ (fun hHeld => ?_)
          clear hK K
          refine norm_ (a' := ?_) ?_ ?_
          rotate_left
          · show Act.put _ (some 57) _ = _
            simp only [Act.put, List.setIfInBounds_toArray, List.set_cons_zero, List.set_cons_succ, i64_w, i32_w]
            rfl
          refine pure_ (i := 14) (N := some 62) (v := ?_) (a' := ?_) #[true, true, true, true, true, true, true, true, true, true, true, true, true, true, true, false, false, false] rfl rfl (any_of HT_.out (by kernel_rfl)) (fun _ _ _ h => h) (Or.inl ⟨by rfl, ?_⟩) ?_ ?_
          rotate_left
          · intro w'
            go_simp
            with_reducible rfl
          rotate_left
          · simp only [Act.put, List.setIfInBounds_toArray, List.set_cons_zero, List.set_cons_succ, i64_w, i32_w]
            rfl
          refine pure_ (i := 15) (N := some 63) (v := ?_) (a' := ?_) #[true, true, true, true, true, true, true, true, true, true, true, true, true, true, true, true, false, false] rfl rfl (any_of HT_.out (by kernel_rfl)) (fun _ _ _ h => h) (Or.inl ⟨by rfl, ?_⟩) ?_ ?_
          rotate_left
          · intro w'
            go_simp
            with_reducible rfl
          rotate_left
          · simp only [Act.put, List.setIfInBounds_toArray, List.set_cons_zero, List.set_cons_succ, i64_w, i32_w]
            rfl
          refine pure_ (i := 16) (N := some 64) (v := ?_) (a' := ?_) #[true, true, true, true, true, true, true, true, true, true, true, true, true, true, true, true, true, false] rfl rfl (any_of HT_.out (by kernel_rfl)) (fun _ _ _ h => h) (Or.inl ⟨by rfl, ?_⟩) ?_ ?_
          rotate_left
          · intro w'
            go_simp
            with_reducible rfl
          rotate_left
          · simp only [Act.put, List.setIfInBounds_toArray, List.set_cons_zero, List.set_cons_succ, i64_w, i32_w]
            rfl
          refine last_ (i := 17) (N := none) #[true, true, true, true, true, true, true, true, true, true, true, true, true, true, true, true, true, true] rfl rfl (one_of HT_.out (by kernel_rfl)) (by decide) (fun K hK => ?_)
          refine step_list rfl (by rfl) ?_
          have z0 := (R_cellg HO8.out i HIK.out.1).1
          have z1 := (R_cellg HO8.out i HIK.out.1).2
          unfold Oper.wp
          go_simp
          refine hK.out _ _ ?_
          clear hK K z0 z1
          refine done_ (done_of HT_.out (by kernel_rfl)) ?_
          refine NoPanic.normal ?_
          clear HT_ HW_ hHeld
          obtain ⟨y, hy⟩ : ∃ y, min (rd xs (i : Int)) (c' + rd xs (f : Int)) = y := ⟨_, rfl⟩
          have hy2 : (if c' + rd xs (f : Int) < rd xs (i : Int) then c' + rd xs (f : Int) else rd xs (i : Int)) = y := by
            rw [← hy]
            split <;> omega
          rw [hy2] at HNX2
          rw [hy]
          clear hy2
          have HO9 := Aside0.mk (R_putN HO8.out i y)
          have HB9 := Aside0.mk (HB8.out.setCell (p := ⟨g, i, none⟩) HGW.out (.int .i64 y))
          clear HO8 HB8 hy hws HPA
          go_wp2_with fail
          go_roundg (gk - 1)
          case measure => omega
          case rel => exact ⟨t + 1, _, by have := HS.out.len i; have := HLT.out; first | rfl | rw [wrap_succ (by omega)], by have := HLT.out; omega, by have := HLT.out; omega, HO9, HNX2, HB9⟩
        · obtain rfl : t = (E i).length := by omega
          have hltz : ¬ ((E i).length : Int) < ((E i).length : Int) := by omega
          have HBN := Aside0.mk (HPA.out.done HS.out HJ.out)
          have hwm : wrap64 ((i : Int) - 1) = (i : Int) - 1 := by unfold wrap64; have := HJ.out; have := HN.out; omega
          clear hlt
          go_wp2_with fail
          go_roundg (g1 - 1)
          case measure => have := HGK.out; have := HG1.out; omega
          case rel => exact ⟨i, xs, rfl, by have := HJ.out; omega, by have := HGK.out; omega, HO, HBN, HB⟩
end Go.Proofs.Ytckpjppbkfcaaaa.Print
