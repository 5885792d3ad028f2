/- cover.made: a run out of its words, or none. -/
import Derived.Test.YtckpjppbkfcaaaaCovA
import Derived.Test.YtckpjppbkfcaaaaPrint1
-- NEEDS cover_within
namespace Go.Proofs.Ytckpjppbkfcaaaa.Print
open Go.RowKit Go.Maps Go.Sort Go.Proofs.YtckpjppbkfcaaaaW.PrintWords Go.Proofs.YtckpjppbkfcaaaaW.PrintLast Go.Proofs.YtckpjppbkfcaaaaW.PrintMore
set_option linter.unusedVariables false
set_option linter.unusedSimpArgs false

def made_T10 : Bool × List (List Nat × List Nat) := (true, [([], []), ([0], [0]), ([1], [1]), ([2], [2]), ([], []), ([3, 4], [3, 4]), ([5], [5]), ([6], [6]), ([6], [6]), ([7, 0, 1, 2, 3, 4, 5, 6, 7], [7]), ([8, 9, 0, 1, 2, 3, 4, 5, 6, 7, 8, 9], [8])])
def made_B10 : List Nat := [0, 1, 3, 7, 0, 31, 63, 127, 127, 255, 1023]
theorem made_tab10 : rtab .any (opsOf Try.f17 10) = made_T10 := by kernel_rfl
theorem made_bits10 : waitsOk made_T10.2 made_B10 = true := by kernel_rfl
def made_T12 : Bool × List (List Nat × List Nat) := (true, [([], []), ([0], [0]), ([1], [1]), ([2], [2]), ([], []), ([4], [4]), ([], []), ([6], [6]), ([7], [7]), ([8], [8]), ([], []), ([10], [10]), ([9, 11], [9, 11]), ([12], [12]), ([], []), ([14], [14]), ([15], [15]), ([13, 16], [13, 16]), ([3, 5, 0, 1, 2, 3, 4, 5, 6, 7, 8, 9, 10, 11, 12, 13, 14, 15, 16, 17], [3, 5]), ([18, 17, 17, 0, 1, 2, 3, 4, 5, 6, 7, 8, 9, 10, 11, 12, 13, 14, 15, 16, 17], [17, 18])])
def made_B12 : List Nat := [0, 1, 3, 7, 0, 16, 0, 64, 192, 448, 0, 1024, 4032, 8128, 0, 16384, 49152, 131008, 262143, 524287]
theorem made_tab12 : rtab .any (opsOf Try.f17 12) = made_T12 := by kernel_rfl
theorem made_bits12 : waitsOk made_T12.2 made_B12 = true := by kernel_rfl
def made_T14 : Bool × List (List Nat × List Nat) := (true, [([], []), ([0], [0]), ([1], [1]), ([2], [2]), ([], []), ([], []), ([5], [5]), ([3, 4, 6, 0, 1, 2, 3, 4, 5, 6], [3, 4, 6])])
def made_B14 : List Nat := [0, 1, 3, 7, 0, 0, 32, 127]
theorem made_tab14 : rtab .any (opsOf Try.f17 14) = made_T14 := by kernel_rfl
theorem made_bits14 : waitsOk made_T14.2 made_B14 = true := by kernel_rfl
def made_T22 : Bool × List (List Nat × List Nat) := (true, [([], []), ([0], [0]), ([1], [1]), ([2], [2]), ([], []), ([], []), ([5], [5]), ([6], [6]), ([7], [7]), ([], []), ([8, 9], [8, 9]), ([10], [10]), ([], []), ([12], [12]), ([13], [13]), ([11, 14], [11, 14]), ([3, 4, 0, 1, 2, 3, 4, 5, 6, 7, 8, 9, 10, 11, 12, 13, 14, 15], [3, 4]), ([16, 15, 15, 0, 1, 2, 3, 4, 5, 6, 7, 8, 9, 10, 11, 12, 13, 14, 15], [15, 16])])
def made_B22 : List Nat := [0, 1, 3, 7, 0, 0, 32, 96, 224, 0, 992, 2016, 0, 4096, 12288, 32736, 65535, 131071]
theorem made_tab22 : rtab .any (opsOf Try.f17 22) = made_T22 := by kernel_rfl
theorem made_bits22 : waitsOk made_T22.2 made_B22 = true := by kernel_rfl
def inN (n lo hi : Int) : Bool := decide (lo ≤ n ∧ n ≤ hi)
theorem within_calls (n lo hi : Int) (W : World) : Calls Try.prog 23 #[.int .i64 n, .int .i64 lo, .int .i64 hi] W fun e w' => e = .returned (.bool (inN n lo hi)) ∧ w' = W := by
  by_cases h1 : n ≥ lo
  · by_cases h2 : n ≤ hi
    · have e : inN n lo hi = true := decide_eq_true ⟨h1, h2⟩
      have d1 : decide (n ≥ lo) = true := decide_eq_true h1
      have d2 : decide (n ≤ hi) = true := decide_eq_true h2
      rw [e]
      clear e
      go_enter Try.func23, Try.ntmps23
      go_wp2_with fail
      go_ret
      exact ⟨rfl, rfl⟩
    · have e : inN n lo hi = false := decide_eq_false (fun h => h2 h.2)
      have d1 : decide (n ≥ lo) = true := decide_eq_true h1
      have d2 : decide (n ≤ hi) = false := decide_eq_false h2
      rw [e]
      clear e
      go_enter Try.func23, Try.ntmps23
      go_wp2_with fail
      go_ret
      exact ⟨rfl, rfl⟩
  · have e : inN n lo hi = false := decide_eq_false (fun h => h1 h.1)
    have d1 : decide (n ≥ lo) = false := decide_eq_false h1
    rw [e]
    clear e
    go_enter Try.func23, Try.ntmps23
    go_wp2_with fail
    go_ret
    exact ⟨rfl, rfl⟩

theorem inN_is {n lo hi : Int} (h : inN n lo hi = true) : lo ≤ n ∧ n ≤ hi := by unfold inN at h; exact of_decide_eq_true h
theorem within_in {n lo hi : Int} (h : inN n lo hi = true) (w : World) : Calls Try.prog 23 #[.int .i64 n, .int .i64 lo, .int .i64 hi] w fun e w' => e = .returned (.bool true) ∧ w' = w := by
  have := within_calls n lo hi w
  rw [h] at this
  exact this
/-! ### what made comes to -/
def limOk (n p mo : Int) (k : Nat) : Bool := inN n 0 5000 && (inN p 0 1048576 && (inN mo 0 1099511627776 && decide (k ≤ 100000)))
def wordOk (n : Int) (x : S36) : Bool := decide (0 ≤ x.f0) && (decide (x.f1 ≤ n) && (decide (x.f0 < x.f1) && inN x.f2 0 1048576))
def stepC (C : Costs) (x : S36) : Costs := match C (x.f0, x.f1) with
  | none => setC C (x.f0, x.f1) x.f2
  | some c => if x.f2 < c then setC C (x.f0, x.f1) x.f2 else C
def stepE (C : Costs) (E : Nat → List Int) (x : S36) : Nat → List Int := match C (x.f0, x.f1) with
  | none => setE E x.f0.toNat (E x.f0.toNat ++ [x.f1])
  | some _ => E
def wordsCE (l : List S36) : Costs × (Nat → List Int) := l.foldl (fun s x => (stepC s.1 x, stepE s.1 s.2 x)) (fun _ => none, fun _ => [])
def singC (p : Int) (C : Costs) (i : Nat) : Costs := match C ((i : Int), (i : Int) + 1) with
  | none => setC C ((i : Int), (i : Int) + 1) p
  | some _ => C
def singE (C : Costs) (E : Nat → List Int) (i : Nat) : Nat → List Int := match C ((i : Int), (i : Int) + 1) with
  | none => setE E i (sortI (E i ++ [(i : Int) + 1]))
  | some _ => setE E i (sortI (E i))
def singCE (p : Int) : Nat → Costs × (Nat → List Int) → Costs × (Nat → List Int)
  | 0, s => s
  | i + 1, s => (singC p (singCE p i s).1 i, singE (singCE p i s).1 (singCE p i s).2 i)
theorem wordsCE_add (l : List S36) (i : Nat) (hi : i < l.length) : wordsCE (l.take (i + 1)) = (stepC (wordsCE (l.take i)).1 (rd_T36 l i), stepE (wordsCE (l.take i)).1 (wordsCE (l.take i)).2 (rd_T36 l i)) := by
  unfold wordsCE
  rw [List.take_succ_eq_append_getElem hi, List.foldl_append]
  have e : rd_T36 l i = l[i] := by
    unfold rd_T36
    rw [Int.toNat_natCast, List.getD_eq_getElem?_getD, List.getElem?_eq_getElem hi]; rfl
  rw [e]; rfl
theorem rd_T36_mem {l : List S36} {i : Nat} (hi : i < l.length) : rd_T36 l (i : Int) ∈ l := by
  unfold rd_T36
  rw [Int.toNat_natCast, List.getD_eq_getElem?_getD, List.getElem?_eq_getElem hi]
  exact List.getElem_mem hi
theorem wrap_succ {i : Nat} (h : i < 9223372036854775807) : wrap64 ((i : Int) + 1) = ((i + 1 : Nat) : Int) := by unfold wrap64; omega
theorem cell_keep {W W' : World} {p : Addr} {v : Value} (hb : Below W.heap.size W W') (h : W.cell? p = some v) : W'.cell? p = some v := (hb.cell (World.block_lt_of_cell? W _ h)).trans h
/-- The rows that make made. -/
theorem Rows.made (W : World) (base k : Nat) (hb : base ≤ W.heap.size) : Rows (W.alloc (.cells (madeCells #[.slice none 0 0] k) 25)) base W.heap.size (List.replicate k (.slice none 0 0)) (fun _ => []) := by
  refine ⟨?_, fun i v hv => ?_, fun i j v u hv _ _ b hb => ?_⟩
  · have := blk_new W (.cells (madeCells #[.slice none 0 0] k) 25)
    rw [show (List.replicate k (Value.slice none 0 0)).toArray = madeCells #[.slice none 0 0] k from ?_]
    · exact this
    · refine Array.ext (by simp [size_madeCells]) fun i h1 h2 => ?_
      have e0 : i % 1 = 0 := Nat.mod_one i
      simp [madeCells, e0]
  · rw [List.getElem?_replicate] at hv
    split at hv
    · obtain rfl := Option.some.inj hv
      exact Kd.R_nil _ _ _ _ _
    · cases hv
  · rw [List.getElem?_replicate] at hv
    split at hv
    · obtain rfl := Option.some.inj hv
      simp [Value.ownBlock] at hb
    · cases hv

set_option maxHeartbeats 16000000 in
set_option maxRecDepth 100000 in
theorem made_lim (n p mo : Int) (A : Option Addr) (c : Nat) (l : List S36) (W : World) (h : limOk n p mo l.length = false) : Calls Try.prog 17 #[.int .i64 n, .slice A l.length c, .int .i64 p, .int .i64 mo] W fun e w' => e = .returned (.tuple #[.pointer none, .bool false]) ∧ Below W.heap.size W w' := by
  unfold limOk at h
  cases e1 : inN n 0 5000 with
  | false =>
    clear h
    go_enter Try.func17, Try.ntmps17
    go_wp2_with (go_at_call 23; refine (within_calls _ _ _ _).mono ?_; rintro e w' ⟨rfl, rfl⟩)
    go_ret2
    exact ⟨rfl, Below.refl _ _⟩
  | true =>
    cases e2 : inN p 0 1048576 with
    | false =>
      clear h
      go_enter Try.func17, Try.ntmps17
      go_wp2_with (go_at_call 23; refine (within_calls _ _ _ _).mono ?_; rintro e w' ⟨rfl, rfl⟩)
      go_ret2
      exact ⟨rfl, Below.refl _ _⟩
    | true =>
      cases e3 : inN mo 0 1099511627776 with
      | false =>
        clear h
        go_enter Try.func17, Try.ntmps17
        go_wp2_with (go_at_call 23; refine (within_calls _ _ _ _).mono ?_; rintro e w' ⟨rfl, rfl⟩)
        go_ret2
        exact ⟨rfl, Below.refl _ _⟩
      | true =>
        have h4 : (l.length : Int) > 100000 := by rw [e1, e2, e3] at h; simp at h; omega
        clear h
        go_enter Try.func17, Try.ntmps17
        go_wp2_with (go_at_call 23; refine (within_calls _ _ _ _).mono ?_; rintro e w' ⟨rfl, rfl⟩)
        go_ret2
        exact ⟨rfl, Below.refl _ _⟩
theorem setE_len {E : Nat → List Int} {i : Nat} {l : List Int} {j m : Nat} (h : (E j).length ≤ m) (hl : l.length ≤ m) : (setE E i l j).length ≤ m := by
  unfold setE; split <;> assumption
theorem wordsE_len (l : List S36) (j : Nat) : ∀ i, i ≤ l.length → ((wordsCE (l.take i)).2 j).length ≤ i
  | 0, _ => by simp [wordsCE]
  | i + 1, h => by
    have ih := wordsE_len l j i (by omega)
    have ih2 := wordsE_len l (rd_T36 l i).f0.toNat i (by omega)
    rw [wordsCE_add l i (by omega)]
    show ((stepE _ _ _) j).length ≤ i + 1
    unfold stepE
    cases (wordsCE (l.take i)).1 ((rd_T36 l i).f0, (rd_T36 l i).f1) with
    | none => exact setE_len (by omega) (by rw [List.length_append]; simp; omega)
    | some c => show ((wordsCE (l.take i)).2 j).length ≤ i + 1; omega
theorem vs_at {vs : List Value} {k f : Nat} (h : vs.length = k) (hf : f < k) : ∃ v, vs[f]? = some v := ⟨_, List.getElem?_eq_getElem (by omega)⟩

theorem RunI.made (W : World) (n p mo : Int) (k : Nat) : ∃ RB MB EB, W.heap.size = MB ∧ W.heap.size + 1 = EB ∧ W.heap.size + 1 + 1 = RB ∧ RunI W.heap.size RB MB EB n p mo k (fun _ => none) (List.replicate k (.slice none 0 0)) (fun _ => [])
    (((W.alloc (.map #[] 0)).alloc (.cells (madeCells #[.slice none 0 0] k) 25)).alloc (.cells #[.int .i64 n, .int .i64 p, .int .i64 mo, .map (some W.heap.size), .slice (some ⟨W.heap.size + 1, 0, none⟩) k k] 47)) := by
  have s1 : (W.alloc (.map #[] 0)).heap.size = W.heap.size + 1 := by simp
  have s2 : ((W.alloc (.map #[] 0)).alloc (.cells (madeCells #[.slice none 0 0] k) 25)).heap.size = W.heap.size + 1 + 1 := by simp
  have hm1 : MapK pairV SmallP ((W.alloc (.map #[] 0)).alloc (.cells (madeCells #[.slice none 0 0] k) 25)) W.heap.size (fun _ => none) := (MapK.made W).move (Below.heap_alloc _ _ _ (by omega))
  refine ⟨_, _, _, rfl, rfl, rfl, ?_, ⟨_, hm1.move (Below.heap_alloc _ _ _ (by omega)), fun q => rfl⟩, ?_, by simp, by omega, by omega, by omega⟩
  · have := blk_new ((W.alloc (.map #[] 0)).alloc (.cells (madeCells #[.slice none 0 0] k) 25)) (.cells #[.int .i64 n, .int .i64 p, .int .i64 mo, .map (some W.heap.size), .slice (some ⟨W.heap.size + 1, 0, none⟩) k k] 47)
    rw [s2] at this
    exact this
  · have := Rows.made (W.alloc (.map #[] 0)) W.heap.size k (by omega)
    rw [s1] at this
    exact this.later (below_alloc (Below.refl _ _) _)
theorem singE_same (p : Int) (s : Costs × (Nat → List Int)) {j : Nat} : ∀ {i : Nat}, i ≤ j → (singCE p i s).2 j = s.2 j
  | 0, _ => rfl
  | i + 1, h => by
    rw [← singE_same p s (show i ≤ j by omega)]
    show singE (singCE p i s).1 (singCE p i s).2 i j = _
    unfold singE
    cases (singCE p i s).1 ((i : Int), (i : Int) + 1) with
    | none => show setE _ _ _ j = _; unfold setE; rw [if_neg (by omega)]
    | some c => show setE _ _ _ j = _; unfold setE; rw [if_neg (by omega)]
theorem setE_setE (E : Nat → List Int) (i : Nat) (l l' : List Int) : setE (setE E i l) i l' = setE E i l' := by
  funext j
  unfold setE
  split <;> rfl
theorem setE_self (E : Nat → List Int) (i : Nat) (l : List Int) : setE E i l i = l := by unfold setE; rw [if_pos rfl]
structure MadePost (N : Nat) (p mo : Int) (l : List S36) (W : World) (e : Ending) (w' : World) : Prop where
  below : Below W.heap.size W w'
  is : (l.all (wordOk N) = false ∧ e = .returned (.tuple #[.pointer none, .bool false])) ∨
      (l.all (wordOk N) = true ∧ ∃ RB MB EB vs, e = .returned (.tuple #[.pointer (some ⟨RB, 0, none⟩), .bool true]) ∧ RunI W.heap.size RB MB EB N p mo (N + 1) (singCE p N (wordsCE l)).1 vs (singCE p N (wordsCE l)).2 w')
set_option maxHeartbeats 16000000 in
set_option maxRecDepth 100000 in
theorem made_calls (N : Nat) (p mo : Int) (A : Option Addr) (c : Nat) (l : List S36) (W : World) (hr : Kd.C k36 W A l.length l) (hc : l.length ≤ c) (h : limOk N p mo l.length = true) :
    Calls Try.prog 17 #[.int .i64 N, .slice A l.length c, .int .i64 p, .int .i64 mo] W (MadePost N p mo l W) := by
  have HR := Aside0.mk hr
  have HCC := Aside0.mk hc
  obtain ⟨n, hn⟩ : ∃ n : Int, (N : Int) = n := ⟨_, rfl⟩
  rw [hn] at h ⊢
  unfold limOk at h
  simp only [Bool.and_eq_true, decide_eq_true_eq] at h
  obtain ⟨e1, e2, e3, hl⟩ := h
  have hN : N ≤ 5000 := by have := inN_is e1; omega
  have HN := Aside0.mk hN
  have HL := Aside0.mk hl
  have HP := Aside0.mk (inN_is e2)
  have h5 : ¬ ((l.length : Int) > 100000) := by omega
  have h6 : (100000 < l.length) = False := eq_false (by omega)
  obtain ⟨k, hk⟩ : ∃ k, N + 1 = k := ⟨_, rfl⟩
  have hwk : wrap64 (n + 1) = (k : Int) := by unfold wrap64; omega
  have hmk := fun W => run_make_row' (P := Try.prog) 33 25 (.slice none 0 0) 24 Try.underlying33 info25 rfl .i64 .i64 k (by omega) (by omega) W
  have hmm := @run_makeMap Try.prog
  have HK := Aside0.mk hk
  have HNN := Aside0.mk hn
  clear hr hc hl hk hn hN
  go_enter Try.func17, Try.ntmps17
  go_wp2_with (go_at_call 23; refine (within_calls _ _ _ _).mono ?_; rintro e w' ⟨rfl, hw⟩; replace hw := hw.symm; subst hw)
  have HB0 := Aside0.mk (below_alloc (below_alloc (below_alloc (Below.refl W.heap.size W) (.map #[] 0)) (.cells (madeCells #[.slice none 0 0] k) 25)) (.cells #[.int .i64 n, .int .i64 p, .int .i64 mo, .map (some W.heap.size), .slice (some ⟨W.heap.size + 1, 0, none⟩) k k] 47))
  obtain ⟨RB, MB, EB, r1, r2, r3, hi0⟩ := RunI.made W n p mo k
  have HI0 := Aside0.mk hi0
  have r1' : Value.map (some W.heap.size) = .map (some MB) := by rw [r1]
  clear hi0
  rw [r3]
  rw [r1', r2] at HI0 HB0 ⊢
  clear r1 r2 r3 r1'
  generalize ((W.alloc (.map #[] 0)).alloc (.cells (madeCells #[.slice none 0 0] k) 25)).alloc (.cells #[.int .i64 n, .int .i64 p, .int .i64 mo, .map (some MB), .slice (some ⟨EB, 0, none⟩) k k] 47) = W1 at *
  clear hmk hmm hwk
  go_loopg [48] (l.length + 1) (fun gg s48 wr => ∃ (i : Nat) (vs : List Value), s48 = .int .i64 i ∧ i ≤ l.length ∧ l.length - i < gg ∧ Aside0 ((l.take i).all (wordOk n) = true) ∧ Aside0 (RunI W.heap.size RB MB EB n p mo k (wordsCE (l.take i)).1 vs (wordsCE (l.take i)).2 wr) ∧ Aside0 (Below W.heap.size W wr))
  case atStart => exact ⟨0, _, rfl, by omega, by omega, ⟨by simp⟩, HI0, HB0⟩
  case round =>
    clear HI0 HB0
    obtain ⟨i, vs, rfl, hi, hgk, HOK, HI, HB⟩ := hrel
    by_cases hlt : i < l.length
    · have hltz : (i : Int) < (l.length : Int) := by omega
      obtain ⟨ad, ea, hx0, hx1, hx2⟩ := at_T36 (Kd.C_below HR.out HB.out) (i : Int) (by omega) hltz
      subst ea
      rw [Int.toNat_natCast] at hx0 hx1 hx2
      have HADD := Aside0.mk (wordsCE_add l i hlt)
      have HADO := Aside0.mk (show (l.take (i + 1)).all (wordOk n) = wordOk n (rd_T36 l i) by rw [List.take_succ_eq_append_getElem hlt, List.all_append, HOK.out]; simp [rd_T36, List.getD_eq_getElem?_getD, List.getElem?_eq_getElem hlt])
      have HELN := Aside0.mk (fun j => wordsE_len l j i hi)
      have HALL := Aside0.mk (show wordOk n (rd_T36 l i) = false → l.all (wordOk n) = false from fun h => by
        cases q : l.all (wordOk n) with
        | false => rfl
        | true => rw [List.all_eq_true] at q; rw [q _ (rd_T36_mem hlt)] at h; cases h)
      have HLT := Aside0.mk hlt
      obtain ⟨x, hx⟩ : ∃ x, rd_T36 l (i : Int) = x := ⟨_, rfl⟩
      rw [hx] at hx0 hx1 hx2 HADD HADO HALL
      obtain ⟨C, hC⟩ : ∃ C, (wordsCE (l.take i)).1 = C := ⟨_, rfl⟩
      obtain ⟨E, hE⟩ : ∃ E, (wordsCE (l.take i)).2 = E := ⟨_, rfl⟩
      rw [hC, hE] at HI HADD
      rw [hE] at HELN
      clear hx hC hE HOK hlt
      obtain ⟨x0, x1, x2⟩ := x
      simp only at hx0 hx1 hx2
      have HI2 := Aside0.mk (HI.out.later (below_alloc (Below.refl _ _) (.cells #[.int .i64 x0, .int .i64 x1, .int .i64 x2] 36)))
      have HX2 := Aside0.mk (blk_new wr (.cells #[.int .i64 x0, .int .i64 x1, .int .i64 x2] 36))
      have HB2 := Aside0.mk (below_alloc HB.out (.cells #[.int .i64 x0, .int .i64 x1, .int .i64 x2] 36))
      have HEX := Aside0.mk (show EB ≠ wr.heap.size from fun e => by have := blk_lt HI.out.rows.blk; omega)
      by_cases n0 : x0 < 0
      · have HBAD := Aside0.mk (HALL.out (by simp [wordOk, n0]; omega))
        go_wp2_with fail
        go_ret2
        exact ⟨HB2.out, .inl ⟨by rw [HNN.out]; exact HBAD.out, rfl⟩⟩
      by_cases n1 : x1 > n
      · have HBAD := Aside0.mk (HALL.out (by simp [wordOk]; omega))
        go_wp2_with fail
        go_ret2
        exact ⟨HB2.out, .inl ⟨by rw [HNN.out]; exact HBAD.out, rfl⟩⟩
      by_cases n2 : x0 ≥ x1
      · have HBAD := Aside0.mk (HALL.out (by simp [wordOk]; omega))
        go_wp2_with fail
        go_ret2
        exact ⟨HB2.out, .inl ⟨by rw [HNN.out]; exact HBAD.out, rfl⟩⟩
      cases e4 : inN x2 0 1048576 with
      | false =>
        have HBAD := Aside0.mk (HALL.out (by simp [wordOk, e4]))
        go_wp2_with (go_at_call 23; refine (within_calls _ _ _ _).mono ?_; rintro e w' ⟨rfl, hw⟩; replace hw := hw.symm; subst hw)
        go_ret2
        exact ⟨HB2.out, .inl ⟨by rw [HNN.out]; exact HBAD.out, rfl⟩⟩
      | true =>
        go_upto_region 10 with (go_at_call 23; refine (within_calls _ _ _ _).mono ?_; rintro e w' ⟨rfl, hw⟩; replace hw := hw.symm; subst hw)
        have HWOK := Aside0.mk (show wordOk n ⟨x0, x1, x2⟩ = true by simp [wordOk, e4]; omega)
        obtain ⟨f, rfl⟩ : ∃ f : Nat, x0 = f := ⟨x0.toNat, by omega⟩
        have HI3 := Aside0.mk (HI2.out.later (below_alloc (Below.refl _ _) (.cells #[.int .i64 f, .int .i64 x1] 23)))
        have HX3 := Aside0.mk (blk_alloc HX2.out (.cells #[.int .i64 f, .int .i64 x1] 23))
        have HK3 := Aside0.mk (blk_new (wr.alloc (.cells #[.int .i64 f, .int .i64 x1, .int .i64 x2] 36)) (.cells #[.int .i64 f, .int .i64 x1] 23))
        have HB3 := Aside0.mk (below_alloc HB2.out (.cells #[.int .i64 f, .int .i64 x1] 23))
        have hs : (wr.alloc (.cells #[.int .i64 f, .int .i64 x1, .int .i64 x2] 36)).heap.size = wr.heap.size + 1 := by simp
        rw [hs] at HK3
        obtain ⟨KB, hKB⟩ : ∃ x, wr.heap.size + 1 = x := ⟨_, rfl⟩
        rw [hKB] at HK3 ⊢
        obtain ⟨XB, hXB⟩ : ∃ x, wr.heap.size = x := ⟨_, rfl⟩
        rw [hXB] at HX3 ⊢
        clear hs hKB hXB HI2 HX2 HB2 HI HB HEX hx0 hx1 hx2
        generalize (wr.alloc (.cells #[.int .i64 f, .int .i64 x1, .int .i64 x2] 36)).alloc (.cells #[.int .i64 f, .int .i64 x1] 23) = W3 at *
        have HI4 := Aside0.mk (HI3.out.later (below_drew (Below.refl _ _)))
        have HX4 := Aside0.mk (blk_drew HX3.out)
        have HK4 := Aside0.mk (blk_drew HK3.out)
        have HB4 := Aside0.mk (below_step HB3.out (below_drew (Below.refl _ _)))
        clear HI3 HX3 HK3 HB3
        have HFN := Aside0.mk (show 0 ≤ (f : Int) ∧ x1 ≤ n ∧ (f : Int) < x1 from ⟨by omega, n1, n2⟩)
        have HSM := Aside0.mk (show SmallP ((f : Int), x1) from ⟨WalkArith.wf_i64 (by have := HFN.out; have := HN.out; have := HNN.out; omega), WalkArith.wf_i64 (by have := HFN.out; have := HN.out; have := HNN.out; omega)⟩)
        have HFK := Aside0.mk (show f < k by have := HFN.out; have := HNN.out; have := HK.out; omega)
        obtain ⟨cv, b, hlook, hcase⟩ : ∃ (cv : Int) (b : Bool), (Instr.lookup 45 (.map (some MB)) (.agg #[.int .i64 f, .int .i64 x1]) true).run Try.prog W3.drew = .ok (.tuple #[.int .i64 cv, .bool b]) W3.drew ∧ ((b = false ∧ C ((f : Int), x1) = none) ∨ (b = true ∧ C ((f : Int), x1) = some cv)) := by
          cases q : C ((f : Int), x1) with
          | none => exact ⟨0, false, HI4.out.miss HSM.out q, .inl ⟨rfl, rfl⟩⟩
          | some cv => exact ⟨cv, true, HI4.out.hit HSM.out q, .inr ⟨rfl, rfl⟩⟩
        have HLK := Aside0.mk hlook
        have HCS := Aside0.mk hcase
        clear hlook hcase n0 n1 n2
        refine wp_region_noPanic ?_
        refine start_ (n := 11) (S := fun w' => w'.cell? ⟨RB, 3, none⟩ = some (.map (some MB)) ∧ w'.cell? ⟨KB, 0, none⟩ = some (.int .i64 f) ∧ w'.cell? ⟨KB, 1, none⟩ = some (.int .i64 x1) ∧ (Instr.lookup 45 (.map (some MB)) (.agg #[.int .i64 f, .int .i64 x1]) true).run Try.prog w' = .ok (.tuple #[.int .i64 cv, .bool b]) w') (ds := []) #[false, false, false, false, false, false, false, false, false, false, false] (by kernel_rfl) rfl rfl ⟨HI4.out.cells.2.2.2.1, (blk_cell HK4.out 0).trans rfl, (blk_cell HK4.out 1).trans rfl, HLK.out⟩ (fun hHeld => ?_); refine with_tabW made_tab10 made_bits10 (fun HT_ HW_ => ?_)
        obtain ⟨W4, hW_⟩ : ∃ w, W3.drew = w := ⟨_, rfl⟩
        rw [hW_] at HI4 HX4 HK4 HB4 hHeld ⊢
        clear hW_
        clear HLK
        refine pure_ (i := 0) (N := some 80) (v := ?_) (a' := ?_) #[true, false, false, false, false, false, false, false, false, false, false] rfl rfl (any_of HT_.out (by kernel_rfl)) (fun _ _ _ h => h) (Or.inl ⟨by rfl, ?_⟩) ?_ ?_
        rotate_left
        · intro w'
          go_simp
          with_reducible rfl
        rotate_left
        · simp only [Act.put, List.setIfInBounds_toArray, List.set_cons_zero, List.set_cons_succ, i64_w, i32_w]
          rfl
        refine pure_ (i := 1) (N := some 81) (v := ?_) (a' := ?_) #[true, true, false, false, false, false, false, false, false, false, false] rfl rfl (any_of HT_.out (by kernel_rfl)) (fun _ _ _ h => h) (Or.inl ⟨by rfl, ?_⟩) ?_ ?_
        rotate_left
        · intro w'
          go_simp
          with_reducible rfl
        rotate_left
        · simp only [Act.put, List.setIfInBounds_toArray, List.set_cons_zero, List.set_cons_succ, i64_w, i32_w]
          rfl
        refine pure_ (i := 2) (N := some 82) (v := ?_) (a' := ?_) #[true, true, true, false, false, false, false, false, false, false, false] rfl rfl (any_of HT_.out (by kernel_rfl)) (fun _ _ _ h => h) (Or.inl ⟨by rfl, ?_⟩) ?_ ?_
        rotate_left
        · intro w'
          go_simp
          with_reducible rfl
        rotate_left
        · simp only [Act.put, List.setIfInBounds_toArray, List.set_cons_zero, List.set_cons_succ, i64_w, i32_w]
          rfl
        refine take_ (i := 3) (N := some 83) (v := ?_) (a' := ?_) #[true, true, true, true, false, false, false, false, false, false, false] rfl rfl (take_ofW HT_.out HW_.out (by kernel_rfl)) (fun _ _ _ h => h) (Or.inl ⟨by rfl, ?_⟩) hHeld ?_ ?_
        rotate_left
        · rintro w' ⟨s0, s1, s2, s3⟩
          go_simp
          with_reducible rfl
        rotate_left
        · simp only [Act.put, List.setIfInBounds_toArray, List.set_cons_zero, List.set_cons_succ, i64_w, i32_w]
          rfl
        refine take_ (i := 4) (N := some 84) (v := ?_) (a' := ?_) #[true, true, true, true, true, false, false, false, false, false, false] rfl rfl (take_ofW HT_.out HW_.out (by kernel_rfl)) (fun _ _ _ h => h) (Or.inl ⟨by rfl, ?_⟩) hHeld ?_ ?_
        rotate_left
        · rintro w' ⟨s0, s1, s2, s3⟩
          go_simp
          with_reducible rfl
        rotate_left
        · simp only [Act.put, List.setIfInBounds_toArray, List.set_cons_zero, List.set_cons_succ, i64_w, i32_w]
          rfl
        refine take_ (i := 5) (N := some 85) (v := ?_) (a' := ?_) #[true, true, true, true, true, true, false, false, false, false, false] rfl rfl (take_ofW HT_.out HW_.out (by kernel_rfl)) (fun _ _ _ h => h) (Or.inl ⟨by rfl, ?_⟩) hHeld ?_ ?_
        rotate_left
        · rintro w' ⟨s0, s1, s2, s3⟩
          go_simp
          with_reducible rfl
        rotate_left
        · simp only [Act.put, List.setIfInBounds_toArray, List.set_cons_zero, List.set_cons_succ, i64_w, i32_w]
          rfl
        refine pure_ (i := 6) (N := some 79) (v := ?_) (a' := ?_) #[true, true, true, true, true, true, true, false, false, false, false] rfl rfl (any_of HT_.out (by kernel_rfl)) (fun _ _ _ h => h) (Or.inl ⟨by rfl, ?_⟩) ?_ ?_
        rotate_left
        · intro w'
          go_simp
          with_reducible rfl
        rotate_left
        · simp only [Act.put, List.setIfInBounds_toArray, List.set_cons_zero, List.set_cons_succ, i64_w, i32_w]
          rfl
        refine pure_ (i := 7) (N := some 86) (v := ?_) (a' := ?_) #[true, true, true, true, true, true, true, true, false, false, false] rfl rfl (any_of HT_.out (by kernel_rfl)) (fun _ _ _ h => h) (Or.inl ⟨by rfl, ?_⟩) ?_ ?_
        rotate_left
        · intro w'
          go_simp
          with_reducible rfl
        rotate_left
        · simp only [Act.put, List.setIfInBounds_toArray, List.set_cons_zero, List.set_cons_succ, i64_w, i32_w]
          rfl
        refine pure_ (i := 8) (N := some 87) (v := ?_) (a' := ?_) #[true, true, true, true, true, true, true, true, true, false, false] rfl rfl (any_of HT_.out (by kernel_rfl)) (fun _ _ _ h => h) (Or.inl ⟨by rfl, ?_⟩) ?_ ?_
        rotate_left
        · intro w'
          go_simp
          with_reducible rfl
        rotate_left
        · simp only [Act.put, List.setIfInBounds_toArray, List.set_cons_zero, List.set_cons_succ, i64_w, i32_w]
          rfl
        refine pure_ (i := 9) (N := some 14) (v := ?_) (a' := ?_) #[true, true, true, true, true, true, true, true, true, true, false] rfl rfl (any_of HT_.out (by kernel_rfl)) (fun _ _ _ h => h) (Or.inl ⟨by rfl, ?_⟩) ?_ ?_
        rotate_left
        · intro w'
          go_simp
          with_reducible rfl
        rotate_left
        · simp only [Act.put, List.setIfInBounds_toArray, List.set_cons_zero, List.set_cons_succ, i64_w, i32_w]
          rfl
        refine pure_ (i := 10) (N := some 15) (v := ?_) (a' := ?_) #[true, true, true, true, true, true, true, true, true, true, true] rfl rfl (any_of HT_.out (by kernel_rfl)) (fun _ _ _ h => h) (Or.inl ⟨by rfl, ?_⟩) ?_ ?_
        rotate_left
        · intro w'
          go_simp
          with_reducible rfl
        rotate_left
        · simp only [Act.put, List.setIfInBounds_toArray, List.set_cons_zero, List.set_cons_succ, i64_w, i32_w]
          rfl
        refine done_ (done_of HT_.out (by kernel_rfl)) ?_
        refine NoPanic.normal ?_
        clear HT_ HW_ hHeld
        have HADD2 := Aside0.mk (show b = false → wordsCE (l.take (i + 1)) = (setC C ((f : Int), x1) x2, setE E f (E f ++ [x1])) from fun h => by
          rw [HADD.out]
          rcases HCS.out with ⟨_, q⟩ | ⟨q, _⟩
          · unfold stepC stepE
            simp only [q]
            rfl
          · rw [h] at q; cases q)
        have HADD3 := Aside0.mk (show b = true → wordsCE (l.take (i + 1)) = (if x2 < cv then setC C ((f : Int), x1) x2 else C, E) from fun h => by
          rw [HADD.out]
          rcases HCS.out with ⟨q, _⟩ | ⟨_, q⟩
          · rw [h] at q; cases q
          · unfold stepC stepE
            simp only [q])
        cases b with
        | false =>
          go_upto_region 12 with fail
          have HI5 := Aside0.mk (HI4.out.later (below_drew (Below.refl _ _)))
          have HX5 := Aside0.mk (blk_drew HX4.out)
          have HK5 := Aside0.mk (blk_drew HK4.out)
          have HB5 := Aside0.mk (below_step HB4.out (below_drew (Below.refl _ _)))
          clear HI4 HX4 HK4 HB4
          obtain ⟨v, hv⟩ := vs_at HI5.out.len HFK.out
          have HV := Aside0.mk hv
          clear hv
          have hfk : (f : Int) < (k : Int) := by have := HFK.out; omega
          have hfk2 : (f < k) = True := eq_true HFK.out
          obtain ⟨iS, hiS, hzS, hsS, hbS⟩ := info_parts infoI
          have HEF := Aside0.mk (HELN.out f)
          refine wp_region_noPanic ?_
          refine start_ (n := 20) (S := fun w' => w'.cell? ⟨RB, 4, none⟩ = some (.slice (some ⟨EB, 0, none⟩) k k) ∧ w'.cell? ⟨XB, 0, none⟩ = some (.int .i64 f) ∧ w'.cell? ⟨XB, 1, none⟩ = some (.int .i64 x1) ∧ w'.cell? ⟨EB, f, none⟩ = some v) (ds := [19]) #[false, false, false, false, false, false, false, false, false, false, false, false, false, false, false, false, false, false, false, false] (by kernel_rfl) rfl rfl ⟨HI5.out.cells.2.2.2.2, (blk_cell HX5.out 0).trans rfl, (blk_cell HX5.out 1).trans rfl, HI5.out.rows.cell HV.out⟩ (fun hHeld => ?_); refine with_tabW made_tab12 made_bits12 (fun HT_ HW_ => ?_)
          obtain ⟨W5, hW_⟩ : ∃ w, W4.drew = w := ⟨_, rfl⟩
          rw [hW_] at HI5 HX5 HK5 HB5 hHeld ⊢
          clear hW_
          refine pure_ (i := 0) (N := some 90) (v := ?_) (a' := ?_) #[true, false, false, false, false, false, false, false, false, false, false, false, false, false, false, false, false, false, false, false] rfl rfl (any_of HT_.out (by kernel_rfl)) (fun _ _ _ h => h) (Or.inl ⟨by rfl, ?_⟩) ?_ ?_
          rotate_left
          · intro w'
            go_simp
            with_reducible rfl
          rotate_left
          · simp only [Act.put, List.setIfInBounds_toArray, List.set_cons_zero, List.set_cons_succ, i64_w, i32_w]
            rfl
          refine pure_ (i := 1) (N := some 91) (v := ?_) (a' := ?_) #[true, true, false, false, false, false, false, false, false, false, false, false, false, false, false, false, false, false, false, false] rfl rfl (any_of HT_.out (by kernel_rfl)) (fun _ _ _ h => h) (Or.inl ⟨by rfl, ?_⟩) ?_ ?_
          rotate_left
          · intro w'
            go_simp
            with_reducible rfl
          rotate_left
          · simp only [Act.put, List.setIfInBounds_toArray, List.set_cons_zero, List.set_cons_succ, i64_w, i32_w]
            rfl
          refine pure_ (i := 2) (N := some 92) (v := ?_) (a' := ?_) #[true, true, true, false, false, false, false, false, false, false, false, false, false, false, false, false, false, false, false, false] rfl rfl (any_of HT_.out (by kernel_rfl)) (fun _ _ _ h => h) (Or.inl ⟨by rfl, ?_⟩) ?_ ?_
          rotate_left
          · intro w'
            go_simp
            with_reducible rfl
          rotate_left
          · simp only [Act.put, List.setIfInBounds_toArray, List.set_cons_zero, List.set_cons_succ, i64_w, i32_w]
            rfl
          refine take_ (i := 3) (N := some 93) (v := ?_) (a' := ?_) #[true, true, true, true, false, false, false, false, false, false, false, false, false, false, false, false, false, false, false, false] rfl rfl (take_ofW HT_.out HW_.out (by kernel_rfl)) (fun _ _ _ h => h) (Or.inl ⟨by rfl, ?_⟩) hHeld ?_ ?_
          rotate_left
          · rintro w' ⟨s0, s1, s2, s3⟩
            go_simp
            with_reducible rfl
          rotate_left
          · simp only [Act.put, List.setIfInBounds_toArray, List.set_cons_zero, List.set_cons_succ, i64_w, i32_w]
            rfl
          refine pure_ (i := 4) (N := some 94) (v := ?_) (a' := ?_) #[true, true, true, true, true, false, false, false, false, false, false, false, false, false, false, false, false, false, false, false] rfl rfl (any_of HT_.out (by kernel_rfl)) (fun _ _ _ h => h) (Or.inl ⟨by rfl, ?_⟩) ?_ ?_
          rotate_left
          · intro w'
            go_simp
            with_reducible rfl
          rotate_left
          · simp only [Act.put, List.setIfInBounds_toArray, List.set_cons_zero, List.set_cons_succ, i64_w, i32_w]
            rfl
          refine take_ (i := 5) (N := some 95) (v := ?_) (a' := ?_) #[true, true, true, true, true, true, false, false, false, false, false, false, false, false, false, false, false, false, false, false] rfl rfl (take_ofW HT_.out HW_.out (by kernel_rfl)) (fun _ _ _ h => h) (Or.inl ⟨by rfl, ?_⟩) hHeld ?_ ?_
          rotate_left
          · rintro w' ⟨s0, s1, s2, s3⟩
            go_simp
            with_reducible rfl
          rotate_left
          · simp only [Act.put, List.setIfInBounds_toArray, List.set_cons_zero, List.set_cons_succ, i64_w, i32_w]
            rfl
          refine pure_ (i := 6) (N := some 96) (v := ?_) (a' := ?_) #[true, true, true, true, true, true, true, false, false, false, false, false, false, false, false, false, false, false, false, false] rfl rfl (any_of HT_.out (by kernel_rfl)) (fun _ _ _ h => h) (Or.inl ⟨by rfl, ?_⟩) ?_ ?_
          rotate_left
          · intro w'
            go_simp
            with_reducible rfl
          rotate_left
          · simp only [Act.put, List.setIfInBounds_toArray, List.set_cons_zero, List.set_cons_succ, i64_w, i32_w]
            rfl
          refine pure_ (i := 7) (N := some 97) (v := ?_) (a' := ?_) #[true, true, true, true, true, true, true, true, false, false, false, false, false, false, false, false, false, false, false, false] rfl rfl (any_of HT_.out (by kernel_rfl)) (fun _ _ _ h => h) (Or.inl ⟨by rfl, ?_⟩) ?_ ?_
          rotate_left
          · intro w'
            go_simp
            with_reducible rfl
          rotate_left
          · simp only [Act.put, List.setIfInBounds_toArray, List.set_cons_zero, List.set_cons_succ, i64_w, i32_w]
            rfl
          refine pure_ (i := 8) (N := some 98) (v := ?_) (a' := ?_) #[true, true, true, true, true, true, true, true, true, false, false, false, false, false, false, false, false, false, false, false] rfl rfl (any_of HT_.out (by kernel_rfl)) (fun _ _ _ h => h) (Or.inl ⟨by rfl, ?_⟩) ?_ ?_
          rotate_left
          · intro w'
            go_simp
            with_reducible rfl
          rotate_left
          · simp only [Act.put, List.setIfInBounds_toArray, List.set_cons_zero, List.set_cons_succ, i64_w, i32_w]
            rfl
          refine take_ (i := 9) (N := some 99) (v := ?_) (a' := ?_) #[true, true, true, true, true, true, true, true, true, true, false, false, false, false, false, false, false, false, false, false] rfl rfl (take_ofW HT_.out HW_.out (by kernel_rfl)) (fun _ _ _ h => h) (Or.inl ⟨by rfl, ?_⟩) hHeld ?_ ?_
          rotate_left
          · rintro w' ⟨s0, s1, s2, s3⟩
            go_simp
            with_reducible rfl
          rotate_left
          · simp only [Act.put, List.setIfInBounds_toArray, List.set_cons_zero, List.set_cons_succ, i64_w, i32_w]
            rfl
          refine pure_ (i := 10) (N := some 100) (v := ?_) (a' := ?_) #[true, true, true, true, true, true, true, true, true, true, true, false, false, false, false, false, false, false, false, false] rfl rfl (any_of HT_.out (by kernel_rfl)) (fun _ _ _ h => h) (Or.inl ⟨by rfl, ?_⟩) ?_ ?_
          rotate_left
          · intro w'
            go_simp
            with_reducible rfl
          rotate_left
          · simp only [Act.put, List.setIfInBounds_toArray, List.set_cons_zero, List.set_cons_succ, i64_w, i32_w]
            rfl
          refine take_ (i := 11) (N := some 101) (v := ?_) (a' := ?_) #[true, true, true, true, true, true, true, true, true, true, true, true, false, false, false, false, false, false, false, false] rfl rfl (take_ofW HT_.out HW_.out (by kernel_rfl)) (fun _ _ _ h => h) (Or.inl ⟨by rfl, ?_⟩) hHeld ?_ ?_
          rotate_left
          · rintro w' ⟨s0, s1, s2, s3⟩
            go_simp
            with_reducible rfl
          rotate_left
          · simp only [Act.put, List.setIfInBounds_toArray, List.set_cons_zero, List.set_cons_succ, i64_w, i32_w]
            rfl
          refine pure_ (i := 12) (N := some 102) (v := ?_) (a' := ?_) #[true, true, true, true, true, true, true, true, true, true, true, true, true, false, false, false, false, false, false, false] rfl rfl (any_of HT_.out (by kernel_rfl)) (fun _ _ _ h => h) (Or.inl ⟨by rfl, ?_⟩) ?_ ?_
          rotate_left
          · intro w'
            go_simp
            with_reducible rfl
          rotate_left
          · simp only [Act.put, List.setIfInBounds_toArray, List.set_cons_zero, List.set_cons_succ, i64_w, i32_w]
            rfl
          refine take_ (i := 13) (N := some 103) (v := ?_) (a' := ?_) #[true, true, true, true, true, true, true, true, true, true, true, true, true, true, false, false, false, false, false, false] rfl rfl (take_ofW HT_.out HW_.out (by kernel_rfl)) (fun _ _ _ h => h) (Or.inl ⟨by rfl, ?_⟩) hHeld ?_ ?_
          rotate_left
          · rintro w' ⟨s0, s1, s2, s3⟩
            go_simp
            with_reducible rfl
          rotate_left
          · simp only [Act.put, List.setIfInBounds_toArray, List.set_cons_zero, List.set_cons_succ, i64_w, i32_w]
            rfl
          refine pure_ (i := 14) (N := some 104) (v := ?_) (a' := ?_) #[true, true, true, true, true, true, true, true, true, true, true, true, true, true, true, false, false, false, false, false] rfl rfl (any_of HT_.out (by kernel_rfl)) (fun _ _ _ h => h) (Or.inl ⟨by rfl, ?_⟩) ?_ ?_
          rotate_left
          · intro w'
            go_simp
            with_reducible rfl
          rotate_left
          · simp only [Act.put, List.setIfInBounds_toArray, List.set_cons_zero, List.set_cons_succ, i64_w, i32_w]
            rfl
          refine take_ (i := 15) (N := some 105) (v := ?_) (a' := ?_) #[true, true, true, true, true, true, true, true, true, true, true, true, true, true, true, true, false, false, false, false] rfl rfl (take_ofW HT_.out HW_.out (by kernel_rfl)) (fun _ _ _ h => h) (Or.inl ⟨by rfl, ?_⟩) hHeld ?_ ?_
          rotate_left
          · rintro w' ⟨s0, s1, s2, s3⟩
            go_simp
            with_reducible rfl
          rotate_left
          · simp only [Act.put, List.setIfInBounds_toArray, List.set_cons_zero, List.set_cons_succ, i64_w, i32_w]
            rfl
          refine one_ (i := 16) (N := some 106) #[true, true, true, true, true, true, true, true, true, true, true, true, true, true, true, true, true, false, false, false] rfl rfl (one_of HT_.out (by kernel_rfl)) (by decide) (fun K hK => ?_)
          refine step_list rfl (by rfl) ?_
          unfold Oper.wp
          go_simp
          have HL6 := Aside0.mk (blk_new W5 (.cells #[Value.int .i64 x1] 3))
          have HI6 := Aside0.mk (HI5.out.later (below_alloc (Below.refl _ _) (.cells #[Value.int .i64 x1] 3)))
          have HX6 := Aside0.mk (blk_alloc HX5.out (.cells #[Value.int .i64 x1] 3))
          have HK6 := Aside0.mk (blk_alloc HK5.out (.cells #[Value.int .i64 x1] 3))
          have HB6 := Aside0.mk (below_alloc HB5.out (.cells #[Value.int .i64 x1] 3))
          refine hK.out _ _ ⟨HI6.out.cells.2.2.2.2, (blk_cell HX6.out 0).trans rfl, (blk_cell HX6.out 1).trans rfl, HI6.out.rows.cell HV.out⟩ (fun hHeld => ?_)
          clear hK K
          obtain ⟨bl, hbl⟩ : ∃ n, W5.heap.size = n := ⟨_, rfl⟩
          rw [hbl] at HL6 ⊢
          clear hbl
          generalize W5.alloc (.cells #[Value.int .i64 x1] 3) = W6 at *
          refine one_ (i := 17) (N := some 107) #[true, true, true, true, true, true, true, true, true, true, true, true, true, true, true, true, true, true, false, false] rfl rfl (one_of HT_.out (by kernel_rfl)) (by decide) (fun K hK => ?_)
          refine R_app_step (Kd.int .i64) W.heap.size (by rfl) (.tmp 103) (.tmp 106) 25 3 iS (.int .i64 0) 8 rfl Try.underlying25 hiS hzS hsS hbS rfl (by decide) v (E f) x1 [.int .i64 x1] (fun _ => True) (fun _ => False) rfl ⟨bl, 0, none⟩ rfl (cell_one HL6.out) rfl (fun k hk => hk.elim) (fun _ _ => trivial) (HI6.out.rows.row f v HV.out) HB6.out.size (by have := HEF.out; have := HLT.out; have := HL.out; unfold maxLen; omega) (by have := HEF.out; have := HLT.out; have := HL.out; omega) ?_
          intro v1 W7 hR7 hg7 hat7
          obtain ⟨A7, c7, e7⟩ := Kd.R_slice hR7
          obtain ⟨n7, hn7⟩ : ∃ n, (E f ++ [x1]).length = n := ⟨_, rfl⟩
          rw [hn7] at e7
          subst e7
          clear hn7
          have HX7 := Aside0.mk (blk_grown HX6.out hg7 (Kd.R_ne (HI6.out.rows.row f v HV.out) HX6.out (by decide)))
          have HK7 := Aside0.mk (blk_grown HK6.out hg7 (Kd.R_ne (HI6.out.rows.row f v HV.out) HK6.out (by decide)))
          obtain ⟨hi8, hEB⟩ := HI6.out.put HV.out hg7 hat7 hR7
          have HI8 := Aside0.mk hi8
          have HEBC := Aside0.mk hEB
          have HX8 := Aside0.mk (blk_grown HX7.out (grownBy_set W7 EB f (.slice A7 n7 c7)) (fun e => by have e := Option.some.inj e; subst e; have := HX7.out; rw [hEB] at this; cases this))
          have HK8 := Aside0.mk (blk_grown HK7.out (grownBy_set W7 EB f (.slice A7 n7 c7)) (fun e => by have e := Option.some.inj e; subst e; have := HK7.out; rw [hEB] at this; cases this))
          have HB8 := Aside0.mk ((HB6.out.grown hg7 HB6.out.size (fun k e => Kd.R_base (HI6.out.rows.row f v HV.out) k e)).grown (grownBy_set W7 EB f (.slice A7 n7 c7)) (Nat.le_trans HB6.out.size hg7.size) (fun k e => by have e := Option.some.inj e; subst e; exact HI6.out.hE))
          have HR7 := Aside0.mk (blk_grown HI6.out.blk hg7 (Kd.R_ne (HI6.out.rows.row f v HV.out) HI6.out.blk (by decide)))
          clear hi8 hEB hR7 hg7 hat7
          refine hK.out _ _ ⟨(blk_cell HR7.out 4).trans rfl, (blk_cell HX7.out 0).trans rfl, (blk_cell HX7.out 1).trans rfl, (blk_cell HEBC.out f).trans (by simpa using HV.out)⟩ (fun hHeld => ?_)
          clear hK K
          refine norm_ (a' := ?_) ?_ ?_
          rotate_left
          · show Act.put _ (some 107) _ = _
            simp only [Act.put, List.setIfInBounds_toArray, List.set_cons_zero, List.set_cons_succ, i64_w, i32_w]
            rfl
          refine pure_ (i := 18) (N := some 108) (v := ?_) (a' := ?_) #[true, true, true, true, true, true, true, true, true, true, true, true, true, true, true, true, true, true, true, false] rfl rfl (any_of HT_.out (by kernel_rfl)) (fun _ _ _ h => h) (Or.inl ⟨by rfl, ?_⟩) ?_ ?_
          rotate_left
          · intro w'
            go_simp
            with_reducible rfl
          rotate_left
          · simp only [Act.put, List.setIfInBounds_toArray, List.set_cons_zero, List.set_cons_succ, i64_w, i32_w]
            rfl
          refine last_ (i := 19) (N := none) #[true, true, true, true, true, true, true, true, true, true, true, true, true, true, true, true, true, true, true, true] rfl rfl (one_of HT_.out (by kernel_rfl)) (by decide) (fun K hK => ?_)
          refine step_list rfl (by rfl) ?_
          have z0 := (blk_cell HEBC.out f).trans (show _ = some v by simpa using HV.out)
          have z1 := blk_frozen HEBC.out f
          unfold Oper.wp
          go_simp
          refine hK.out _ _ ?_
          clear hK K z0 z1 HEBC HX7 HK7 HR7 HL6 HI6 HX6 HK6 HB6 HI5 HX5 HK5 HB5
          refine done_ (done_of HT_.out (by kernel_rfl)) ?_
          refine NoPanic.normal ?_
          clear HT_ HW_ hHeld
          generalize W7.setCell ⟨EB, f, none⟩ (.slice A7 n7 c7) = W8 at *
          go_upto_region 14 with fail
          have HI9 := Aside0.mk (HI8.out.later (below_drew (Below.refl _ _)))
          have HX9 := Aside0.mk (blk_drew HX8.out)
          have HK9 := Aside0.mk (blk_drew HK8.out)
          have HB9 := Aside0.mk (below_step HB8.out (below_drew (Below.refl _ _)))
          clear HI8 HX8 HK8 HB8
          refine wp_region_noPanic ?_
          refine start_ (n := 8) (S := fun w' => w'.cell? ⟨RB, 3, none⟩ = some (.map (some MB)) ∧ w'.cell? ⟨KB, 0, none⟩ = some (.int .i64 f) ∧ w'.cell? ⟨KB, 1, none⟩ = some (.int .i64 x1) ∧ w'.cell? ⟨XB, 2, none⟩ = some (.int .i64 x2)) (ds := [7]) #[false, false, false, false, false, false, false, false] (by kernel_rfl) rfl rfl ⟨HI9.out.cells.2.2.2.1, (blk_cell HK9.out 0).trans rfl, (blk_cell HK9.out 1).trans rfl, (blk_cell HX9.out 2).trans rfl⟩ (fun hHeld => ?_); refine with_tabW made_tab14 made_bits14 (fun HT_ HW_ => ?_)
          obtain ⟨W9, hW_⟩ : ∃ w, W8.drew = w := ⟨_, rfl⟩
          rw [hW_] at HI9 HX9 HK9 HB9 hHeld ⊢
          clear hW_
          refine pure_ (i := 0) (N := some 117) (v := ?_) (a' := ?_) #[true, false, false, false, false, false, false, false] rfl rfl (any_of HT_.out (by kernel_rfl)) (fun _ _ _ h => h) (Or.inl ⟨by rfl, ?_⟩) ?_ ?_
          rotate_left
          · intro w'
            go_simp
            with_reducible rfl
          rotate_left
          · simp only [Act.put, List.setIfInBounds_toArray, List.set_cons_zero, List.set_cons_succ, i64_w, i32_w]
            rfl
          refine pure_ (i := 1) (N := some 118) (v := ?_) (a' := ?_) #[true, true, false, false, false, false, false, false] rfl rfl (any_of HT_.out (by kernel_rfl)) (fun _ _ _ h => h) (Or.inl ⟨by rfl, ?_⟩) ?_ ?_
          rotate_left
          · intro w'
            go_simp
            with_reducible rfl
          rotate_left
          · simp only [Act.put, List.setIfInBounds_toArray, List.set_cons_zero, List.set_cons_succ, i64_w, i32_w]
            rfl
          refine pure_ (i := 2) (N := some 119) (v := ?_) (a' := ?_) #[true, true, true, false, false, false, false, false] rfl rfl (any_of HT_.out (by kernel_rfl)) (fun _ _ _ h => h) (Or.inl ⟨by rfl, ?_⟩) ?_ ?_
          rotate_left
          · intro w'
            go_simp
            with_reducible rfl
          rotate_left
          · simp only [Act.put, List.setIfInBounds_toArray, List.set_cons_zero, List.set_cons_succ, i64_w, i32_w]
            rfl
          refine take_ (i := 3) (N := some 120) (v := ?_) (a' := ?_) #[true, true, true, true, false, false, false, false] rfl rfl (take_ofW HT_.out HW_.out (by kernel_rfl)) (fun _ _ _ h => h) (Or.inl ⟨by rfl, ?_⟩) hHeld ?_ ?_
          rotate_left
          · rintro w' ⟨s0, s1, s2, s3⟩
            go_simp
            with_reducible rfl
          rotate_left
          · simp only [Act.put, List.setIfInBounds_toArray, List.set_cons_zero, List.set_cons_succ, i64_w, i32_w]
            rfl
          refine take_ (i := 4) (N := some 121) (v := ?_) (a' := ?_) #[true, true, true, true, true, false, false, false] rfl rfl (take_ofW HT_.out HW_.out (by kernel_rfl)) (fun _ _ _ h => h) (Or.inl ⟨by rfl, ?_⟩) hHeld ?_ ?_
          rotate_left
          · rintro w' ⟨s0, s1, s2, s3⟩
            go_simp
            with_reducible rfl
          rotate_left
          · simp only [Act.put, List.setIfInBounds_toArray, List.set_cons_zero, List.set_cons_succ, i64_w, i32_w]
            rfl
          refine pure_ (i := 5) (N := some 122) (v := ?_) (a' := ?_) #[true, true, true, true, true, true, false, false] rfl rfl (any_of HT_.out (by kernel_rfl)) (fun _ _ _ h => h) (Or.inl ⟨by rfl, ?_⟩) ?_ ?_
          rotate_left
          · intro w'
            go_simp
            with_reducible rfl
          rotate_left
          · simp only [Act.put, List.setIfInBounds_toArray, List.set_cons_zero, List.set_cons_succ, i64_w, i32_w]
            rfl
          refine take_ (i := 6) (N := some 123) (v := ?_) (a' := ?_) #[true, true, true, true, true, true, true, false] rfl rfl (take_ofW HT_.out HW_.out (by kernel_rfl)) (fun _ _ _ h => h) (Or.inl ⟨by rfl, ?_⟩) hHeld ?_ ?_
          rotate_left
          · rintro w' ⟨s0, s1, s2, s3⟩
            go_simp
            with_reducible rfl
          rotate_left
          · simp only [Act.put, List.setIfInBounds_toArray, List.set_cons_zero, List.set_cons_succ, i64_w, i32_w]
            rfl
          obtain ⟨W10, hput, hi10, hg10⟩ := HI9.out.setC HSM.out x2
          unfold pairV at hput
          have HI10 := Aside0.mk hi10
          have HB10 := Aside0.mk (HB9.out.grown hg10 HB9.out.size (fun k e => by have e := Option.some.inj e; subst e; exact HI9.out.hM))
          clear hi10 hg10
          refine last_ (i := 7) (N := none) #[true, true, true, true, true, true, true, true] rfl rfl (one_of HT_.out (by kernel_rfl)) (by decide) (fun K hK => ?_)
          refine step_list rfl (by rfl) ?_
          unfold Oper.wp
          go_simp
          refine hK.out _ _ ?_
          clear hK K hput HI9 HX9 HK9 HB9
          refine done_ (done_of HT_.out (by kernel_rfl)) ?_
          refine NoPanic.normal ?_
          clear HT_ HW_ hHeld
          go_wp2_with fail
          go_roundg (gk - 1)
          case measure => omega
          case rel => exact ⟨i + 1, vs.set f (.slice A7 n7 c7), by have := HLT.out; have := HL.out; first | rfl | rw [wrap_succ (by omega)], by have := HLT.out; omega, by have := HLT.out; omega, ⟨by rw [HADO.out]; exact HWOK.out⟩, ⟨by rw [HADD2.out (by simp)]; exact HI10.out⟩, HB10⟩
        | true =>
          have zx2 := (blk_cell HX4.out 2).trans rfl
          by_cases hlc : x2 < cv
          · go_upto_region 14 with fail
            have HI9 := Aside0.mk (HI4.out.later (below_drew (Below.refl _ _)))
            have HX9 := Aside0.mk (blk_drew HX4.out)
            have HK9 := Aside0.mk (blk_drew HK4.out)
            have HB9 := Aside0.mk (below_step HB4.out (below_drew (Below.refl _ _)))
            clear HI4 HX4 HK4 HB4
            refine wp_region_noPanic ?_
            refine start_ (n := 8) (S := fun w' => w'.cell? ⟨RB, 3, none⟩ = some (.map (some MB)) ∧ w'.cell? ⟨KB, 0, none⟩ = some (.int .i64 f) ∧ w'.cell? ⟨KB, 1, none⟩ = some (.int .i64 x1) ∧ w'.cell? ⟨XB, 2, none⟩ = some (.int .i64 x2)) (ds := [7]) #[false, false, false, false, false, false, false, false] (by kernel_rfl) rfl rfl ⟨HI9.out.cells.2.2.2.1, (blk_cell HK9.out 0).trans rfl, (blk_cell HK9.out 1).trans rfl, (blk_cell HX9.out 2).trans rfl⟩ (fun hHeld => ?_); refine with_tabW made_tab14 made_bits14 (fun HT_ HW_ => ?_)
            obtain ⟨W9, hW_⟩ : ∃ w, W4.drew = w := ⟨_, rfl⟩
            rw [hW_] at HI9 HX9 HK9 HB9 hHeld ⊢
            clear hW_
            refine pure_ (i := 0) (N := some 117) (v := ?_) (a' := ?_) #[true, false, false, false, false, false, false, false] rfl rfl (any_of HT_.out (by kernel_rfl)) (fun _ _ _ h => h) (Or.inl ⟨by rfl, ?_⟩) ?_ ?_
            rotate_left
            · intro w'
              go_simp
              with_reducible rfl
            rotate_left
            · simp only [Act.put, List.setIfInBounds_toArray, List.set_cons_zero, List.set_cons_succ, i64_w, i32_w]
              rfl
            refine pure_ (i := 1) (N := some 118) (v := ?_) (a' := ?_) #[true, true, false, false, false, false, false, false] rfl rfl (any_of HT_.out (by kernel_rfl)) (fun _ _ _ h => h) (Or.inl ⟨by rfl, ?_⟩) ?_ ?_
            rotate_left
            · intro w'
              go_simp
              with_reducible rfl
            rotate_left
            · simp only [Act.put, List.setIfInBounds_toArray, List.set_cons_zero, List.set_cons_succ, i64_w, i32_w]
              rfl
            refine pure_ (i := 2) (N := some 119) (v := ?_) (a' := ?_) #[true, true, true, false, false, false, false, false] rfl rfl (any_of HT_.out (by kernel_rfl)) (fun _ _ _ h => h) (Or.inl ⟨by rfl, ?_⟩) ?_ ?_
            rotate_left
            · intro w'
              go_simp
              with_reducible rfl
            rotate_left
            · simp only [Act.put, List.setIfInBounds_toArray, List.set_cons_zero, List.set_cons_succ, i64_w, i32_w]
              rfl
            refine take_ (i := 3) (N := some 120) (v := ?_) (a' := ?_) #[true, true, true, true, false, false, false, false] rfl rfl (take_ofW HT_.out HW_.out (by kernel_rfl)) (fun _ _ _ h => h) (Or.inl ⟨by rfl, ?_⟩) hHeld ?_ ?_
            rotate_left
            · rintro w' ⟨s0, s1, s2, s3⟩
              go_simp
              with_reducible rfl
            rotate_left
            · simp only [Act.put, List.setIfInBounds_toArray, List.set_cons_zero, List.set_cons_succ, i64_w, i32_w]
              rfl
            refine take_ (i := 4) (N := some 121) (v := ?_) (a' := ?_) #[true, true, true, true, true, false, false, false] rfl rfl (take_ofW HT_.out HW_.out (by kernel_rfl)) (fun _ _ _ h => h) (Or.inl ⟨by rfl, ?_⟩) hHeld ?_ ?_
            rotate_left
            · rintro w' ⟨s0, s1, s2, s3⟩
              go_simp
              with_reducible rfl
            rotate_left
            · simp only [Act.put, List.setIfInBounds_toArray, List.set_cons_zero, List.set_cons_succ, i64_w, i32_w]
              rfl
            refine pure_ (i := 5) (N := some 122) (v := ?_) (a' := ?_) #[true, true, true, true, true, true, false, false] rfl rfl (any_of HT_.out (by kernel_rfl)) (fun _ _ _ h => h) (Or.inl ⟨by rfl, ?_⟩) ?_ ?_
            rotate_left
            · intro w'
              go_simp
              with_reducible rfl
            rotate_left
            · simp only [Act.put, List.setIfInBounds_toArray, List.set_cons_zero, List.set_cons_succ, i64_w, i32_w]
              rfl
            refine take_ (i := 6) (N := some 123) (v := ?_) (a' := ?_) #[true, true, true, true, true, true, true, false] rfl rfl (take_ofW HT_.out HW_.out (by kernel_rfl)) (fun _ _ _ h => h) (Or.inl ⟨by rfl, ?_⟩) hHeld ?_ ?_
            rotate_left
            · rintro w' ⟨s0, s1, s2, s3⟩
              go_simp
              with_reducible rfl
            rotate_left
            · simp only [Act.put, List.setIfInBounds_toArray, List.set_cons_zero, List.set_cons_succ, i64_w, i32_w]
              rfl
            obtain ⟨W10, hput, hi10, hg10⟩ := HI9.out.setC HSM.out x2
            unfold pairV at hput
            have HI10 := Aside0.mk hi10
            have HB10 := Aside0.mk (HB9.out.grown hg10 HB9.out.size (fun k e => by have e := Option.some.inj e; subst e; exact HI9.out.hM))
            clear hi10 hg10
            refine last_ (i := 7) (N := none) #[true, true, true, true, true, true, true, true] rfl rfl (one_of HT_.out (by kernel_rfl)) (by decide) (fun K hK => ?_)
            refine step_list rfl (by rfl) ?_
            unfold Oper.wp
            go_simp
            refine hK.out _ _ ?_
            clear hK K hput HI9 HX9 HK9 HB9
            refine done_ (done_of HT_.out (by kernel_rfl)) ?_
            refine NoPanic.normal ?_
            clear HT_ HW_ hHeld
            go_wp2_with fail
            go_roundg (gk - 1)
            case measure => omega
            case rel => exact ⟨i + 1, vs, by have := HLT.out; have := HL.out; first | rfl | rw [wrap_succ (by omega)], by have := HLT.out; omega, by have := HLT.out; omega, ⟨by rw [HADO.out]; exact HWOK.out⟩, ⟨by rw [HADD3.out (by simp), if_pos (by omega)]; exact HI10.out⟩, HB10⟩
          · go_wp2_with fail
            go_roundg (gk - 1)
            case measure => omega
            case rel => exact ⟨i + 1, vs, by have := HLT.out; have := HL.out; first | rfl | rw [wrap_succ (by omega)], by have := HLT.out; omega, by have := HLT.out; omega, ⟨by rw [HADO.out]; exact HWOK.out⟩, ⟨by rw [HADD3.out (by simp), if_neg (by omega)]; exact HI4.out⟩, HB4⟩
    · obtain rfl : i = l.length := by omega
      have hltz : ¬ (l.length : Int) < (l.length : Int) := by omega
      rw [List.take_length] at HOK HI
      have HEL := Aside0.mk (fun j => by have := wordsE_len l j l.length (Nat.le_refl _); rw [List.take_length] at this; exact this)
      obtain ⟨CE, hCE⟩ : ∃ CE, wordsCE l = CE := ⟨_, rfl⟩
      rw [hCE] at HI HEL
      have HCE := Aside0.mk hCE
      clear hCE hlt
      go_wp2_with fail
      go_loopg [126] (N + 1) (fun gg s126 wr => ∃ (i : Nat) (vs : List Value), s126 = .int .i64 i ∧ i ≤ N ∧ N - i < gg ∧ Aside0 (RunI W.heap.size RB MB EB n p mo k (singCE p i CE).1 vs (singCE p i CE).2 wr) ∧ Aside0 (Below W.heap.size W wr))
      case atStart => exact ⟨0, vs, rfl, by omega, by omega, HI, HB⟩
      case round =>
        clear HI HB hgk hi
        obtain ⟨i, vs, rfl, hi, hgk, HI, HB⟩ := hrel
        by_cases hlt : i < N
        · have hlti : (i : Int) < n := by have := HNN.out; omega
          have hwi : wrap64 ((i : Int) + 1) = (i : Int) + 1 := by unfold wrap64; have := HN.out; omega
          have HLT := Aside0.mk hlt
          have HSM := Aside0.mk (show SmallP ((i : Int), (i : Int) + 1) from ⟨WalkArith.wf_i64 (by have := HN.out; omega), WalkArith.wf_i64 (by have := HN.out; omega)⟩)
          have HFK := Aside0.mk (show i < k by have := HK.out; omega)
          have hfk : (i : Int) < (k : Int) := by have := HFK.out; omega
          have hfk2 : (i < k) = True := eq_true HFK.out
          obtain ⟨v, hv⟩ := vs_at HI.out.len HFK.out
          have HV := Aside0.mk hv
          have HEI := Aside0.mk (show ((singCE p i CE).2 i).length ≤ 100000 by rw [singE_same p CE (Nat.le_refl i)]; exact Nat.le_trans (HEL.out i) HL.out)
          have HS1 := Aside0.mk (show singCE p (i + 1) CE = (singC p (singCE p i CE).1 i, singE (singCE p i CE).1 (singCE p i CE).2 i) from rfl)
          obtain ⟨C, hC⟩ : ∃ C, (singCE p i CE).1 = C := ⟨_, rfl⟩
          obtain ⟨E, hE⟩ : ∃ E, (singCE p i CE).2 = E := ⟨_, rfl⟩
          rw [hC, hE] at HI HS1
          rw [hE] at HEI
          clear hC hE hv hlt
          have c3 := HI.out.cells.2.2.2.1
          cases hcc : C ((i : Int), (i : Int) + 1) with
          | none =>
            have hlook := HI.out.miss HSM.out hcc
            unfold pairV at hlook
            have HCC2 := Aside0.mk hcc
            clear hcc
            obtain ⟨W3, hput, hi3, hg3⟩ := HI.out.setC HSM.out p
            unfold pairV at hput
            have HI3 := Aside0.mk hi3
            have HB3 := Aside0.mk (HB.out.grown hg3 HB.out.size (fun k e => by have e := Option.some.inj e; subst e; exact HI.out.hM))
            clear hi3 hg3
            go_upto_region 22 with fail
            have HI5 := Aside0.mk (HI3.out.later (below_drew (Below.refl _ _)))
            have HB5 := Aside0.mk (below_step HB3.out (below_drew (Below.refl _ _)))
            clear HI3 HB3 HI HB c3 hput hlook
            obtain ⟨iS, hiS, hzS, hsS, hbS⟩ := info_parts infoI
            refine wp_region_noPanic ?_
            refine start_ (n := 18) (S := fun w' => w'.cell? ⟨RB, 4, none⟩ = some (.slice (some ⟨EB, 0, none⟩) k k) ∧ w'.cell? ⟨EB, i, none⟩ = some v) (ds := [17]) #[false, false, false, false, false, false, false, false, false, false, false, false, false, false, false, false, false, false] (by kernel_rfl) rfl rfl ⟨HI5.out.cells.2.2.2.2, HI5.out.rows.cell HV.out⟩ (fun hHeld => ?_); refine with_tabW made_tab22 made_bits22 (fun HT_ HW_ => ?_)
            obtain ⟨W5, hW_⟩ : ∃ w, W3.drew = w := ⟨_, rfl⟩
            rw [hW_] at HI5 HB5 hHeld ⊢
            clear hW_
            refine pure_ (i := 0) (N := some 152) (v := ?_) (a' := ?_) #[true, false, false, false, false, false, false, false, false, false, false, false, false, false, false, false, false, false] rfl rfl (any_of HT_.out (by kernel_rfl)) (fun _ _ _ h => h) (Or.inl ⟨by rfl, ?_⟩) ?_ ?_
            rotate_left
            · intro w'
              go_simp
              with_reducible rfl
            rotate_left
            · simp only [Act.put, List.setIfInBounds_toArray, List.set_cons_zero, List.set_cons_succ, i64_w, i32_w]
              rfl
            refine pure_ (i := 1) (N := some 153) (v := ?_) (a' := ?_) #[true, true, false, false, false, false, false, false, false, false, false, false, false, false, false, false, false, false] rfl rfl (any_of HT_.out (by kernel_rfl)) (fun _ _ _ h => h) (Or.inl ⟨by rfl, ?_⟩) ?_ ?_
            rotate_left
            · intro w'
              go_simp
              with_reducible rfl
            rotate_left
            · simp only [Act.put, List.setIfInBounds_toArray, List.set_cons_zero, List.set_cons_succ, i64_w, i32_w]
              rfl
            refine pure_ (i := 2) (N := some 154) (v := ?_) (a' := ?_) #[true, true, true, false, false, false, false, false, false, false, false, false, false, false, false, false, false, false] rfl rfl (any_of HT_.out (by kernel_rfl)) (fun _ _ _ h => h) (Or.inl ⟨by rfl, ?_⟩) ?_ ?_
            rotate_left
            · intro w'
              go_simp
              with_reducible rfl
            rotate_left
            · simp only [Act.put, List.setIfInBounds_toArray, List.set_cons_zero, List.set_cons_succ, i64_w, i32_w]
              rfl
            refine take_ (i := 3) (N := some 155) (v := ?_) (a' := ?_) #[true, true, true, true, false, false, false, false, false, false, false, false, false, false, false, false, false, false] rfl rfl (take_ofW HT_.out HW_.out (by kernel_rfl)) (fun _ _ _ h => h) (Or.inl ⟨by rfl, ?_⟩) hHeld ?_ ?_
            rotate_left
            · rintro w' ⟨s0, s1⟩
              go_simp
              with_reducible rfl
            rotate_left
            · simp only [Act.put, List.setIfInBounds_toArray, List.set_cons_zero, List.set_cons_succ, i64_w, i32_w]
              rfl
            refine pure_ (i := 4) (N := some 156) (v := ?_) (a' := ?_) #[true, true, true, true, true, false, false, false, false, false, false, false, false, false, false, false, false, false] rfl rfl (any_of HT_.out (by kernel_rfl)) (fun _ _ _ h => h) (Or.inl ⟨by rfl, ?_⟩) ?_ ?_
            rotate_left
            · intro w'
              go_simp
              with_reducible rfl
            rotate_left
            · simp only [Act.put, List.setIfInBounds_toArray, List.set_cons_zero, List.set_cons_succ, i64_w, i32_w]
              rfl
            refine pure_ (i := 5) (N := some 157) (v := ?_) (a' := ?_) #[true, true, true, true, true, true, false, false, false, false, false, false, false, false, false, false, false, false] rfl rfl (any_of HT_.out (by kernel_rfl)) (fun _ _ _ h => h) (Or.inl ⟨by rfl, ?_⟩) ?_ ?_
            rotate_left
            · intro w'
              go_simp
              with_reducible rfl
            rotate_left
            · simp only [Act.put, List.setIfInBounds_toArray, List.set_cons_zero, List.set_cons_succ, i64_w, i32_w]
              rfl
            refine pure_ (i := 6) (N := some 158) (v := ?_) (a' := ?_) #[true, true, true, true, true, true, true, false, false, false, false, false, false, false, false, false, false, false] rfl rfl (any_of HT_.out (by kernel_rfl)) (fun _ _ _ h => h) (Or.inl ⟨by rfl, ?_⟩) ?_ ?_
            rotate_left
            · intro w'
              go_simp
              with_reducible rfl
            rotate_left
            · simp only [Act.put, List.setIfInBounds_toArray, List.set_cons_zero, List.set_cons_succ, i64_w, i32_w]
              rfl
            refine pure_ (i := 7) (N := some 159) (v := ?_) (a' := ?_) #[true, true, true, true, true, true, true, true, false, false, false, false, false, false, false, false, false, false] rfl rfl (any_of HT_.out (by kernel_rfl)) (fun _ _ _ h => h) (Or.inl ⟨by rfl, ?_⟩) ?_ ?_
            rotate_left
            · intro w'
              go_simp
              with_reducible rfl
            rotate_left
            · simp only [Act.put, List.setIfInBounds_toArray, List.set_cons_zero, List.set_cons_succ, i64_w, i32_w]
              rfl
            refine take_ (i := 8) (N := some 160) (v := ?_) (a' := ?_) #[true, true, true, true, true, true, true, true, true, false, false, false, false, false, false, false, false, false] rfl rfl (take_ofW HT_.out HW_.out (by kernel_rfl)) (fun _ _ _ h => h) (Or.inl ⟨by rfl, ?_⟩) hHeld ?_ ?_
            rotate_left
            · rintro w' ⟨s0, s1⟩
              go_simp
              with_reducible rfl
            rotate_left
            · simp only [Act.put, List.setIfInBounds_toArray, List.set_cons_zero, List.set_cons_succ, i64_w, i32_w]
              rfl
            refine pure_ (i := 9) (N := some 161) (v := ?_) (a' := ?_) #[true, true, true, true, true, true, true, true, true, true, false, false, false, false, false, false, false, false] rfl rfl (any_of HT_.out (by kernel_rfl)) (fun _ _ _ h => h) (Or.inl ⟨by rfl, ?_⟩) ?_ ?_
            rotate_left
            · intro w'
              go_simp
              with_reducible rfl
            rotate_left
            · simp only [Act.put, List.setIfInBounds_toArray, List.set_cons_zero, List.set_cons_succ, i64_w, i32_w]
              rfl
            refine pure_ (i := 10) (N := some 162) (v := ?_) (a' := ?_) #[true, true, true, true, true, true, true, true, true, true, true, false, false, false, false, false, false, false] rfl rfl (any_of HT_.out (by kernel_rfl)) (fun _ _ _ h => h) (Or.inl ⟨by rfl, ?_⟩) ?_ ?_
            rotate_left
            · intro w'
              go_simp
              with_reducible rfl
            rotate_left
            · simp only [Act.put, List.setIfInBounds_toArray, List.set_cons_zero, List.set_cons_succ, i64_w, i32_w]
              rfl
            refine take_ (i := 11) (N := some 163) (v := ?_) (a' := ?_) #[true, true, true, true, true, true, true, true, true, true, true, true, false, false, false, false, false, false] rfl rfl (take_ofW HT_.out HW_.out (by kernel_rfl)) (fun _ _ _ h => h) (Or.inl ⟨by rfl, ?_⟩) hHeld ?_ ?_
            rotate_left
            · rintro w' ⟨s0, s1⟩
              go_simp
              with_reducible rfl
            rotate_left
            · simp only [Act.put, List.setIfInBounds_toArray, List.set_cons_zero, List.set_cons_succ, i64_w, i32_w]
              rfl
            refine pure_ (i := 12) (N := some 164) (v := ?_) (a' := ?_) #[true, true, true, true, true, true, true, true, true, true, true, true, true, false, false, false, false, false] rfl rfl (any_of HT_.out (by kernel_rfl)) (fun _ _ _ h => h) (Or.inl ⟨by rfl, ?_⟩) ?_ ?_
            rotate_left
            · intro w'
              go_simp
              with_reducible rfl
            rotate_left
            · simp only [Act.put, List.setIfInBounds_toArray, List.set_cons_zero, List.set_cons_succ, i64_w, i32_w]
              rfl
            refine pure_ (i := 13) (N := some 165) (v := ?_) (a' := ?_) #[true, true, true, true, true, true, true, true, true, true, true, true, true, true, false, false, false, false] rfl rfl (any_of HT_.out (by kernel_rfl)) (fun _ _ _ h => h) (Or.inl ⟨by rfl, ?_⟩) ?_ ?_
            rotate_left
            · intro w'
              go_simp
              with_reducible rfl
            rotate_left
            · simp only [Act.put, List.setIfInBounds_toArray, List.set_cons_zero, List.set_cons_succ, i64_w, i32_w]
              rfl
            refine one_ (i := 14) (N := some 166) #[true, true, true, true, true, true, true, true, true, true, true, true, true, true, true, false, false, false] rfl rfl (one_of HT_.out (by kernel_rfl)) (by decide) (fun K hK => ?_)
            refine step_list rfl (by rfl) ?_
            unfold Oper.wp
            go_simp
            have HL6 := Aside0.mk (blk_new W5 (.cells #[Value.int .i64 ((i : Int) + 1)] 3))
            have HI6 := Aside0.mk (HI5.out.later (below_alloc (Below.refl _ _) (.cells #[Value.int .i64 ((i : Int) + 1)] 3)))
            have HB6 := Aside0.mk (below_alloc HB5.out (.cells #[Value.int .i64 ((i : Int) + 1)] 3))
            refine hK.out _ _ ⟨HI6.out.cells.2.2.2.2, HI6.out.rows.cell HV.out⟩ (fun hHeld => ?_)
            clear hK K
            obtain ⟨bl, hbl⟩ : ∃ n, W5.heap.size = n := ⟨_, rfl⟩
            rw [hbl] at HL6 ⊢
            clear hbl
            generalize W5.alloc (.cells #[Value.int .i64 ((i : Int) + 1)] 3) = W6 at *
            refine one_ (i := 15) (N := some 167) #[true, true, true, true, true, true, true, true, true, true, true, true, true, true, true, true, false, false] rfl rfl (one_of HT_.out (by kernel_rfl)) (by decide) (fun K hK => ?_)
            refine R_app_step (Kd.int .i64) W.heap.size (by rfl) (.tmp 163) (.tmp 166) 25 3 iS (.int .i64 0) 8 rfl Try.underlying25 hiS hzS hsS hbS rfl (by decide) v (E i) ((i : Int) + 1) [.int .i64 ((i : Int) + 1)] (fun _ => True) (fun _ => False) rfl ⟨bl, 0, none⟩ rfl (cell_one HL6.out) rfl (fun k hk => hk.elim) (fun _ _ => trivial) (HI6.out.rows.row i v HV.out) HB6.out.size (by have := HEI.out; unfold maxLen; omega) (by have := HEI.out; omega) ?_
            intro v1 W7 hR7 hg7 hat7
            obtain ⟨A7, c7, e7⟩ := Kd.R_slice hR7
            obtain ⟨n7, hn7⟩ : ∃ n, (E i ++ [(i : Int) + 1]).length = n := ⟨_, rfl⟩
            rw [hn7] at e7
            subst e7
            clear hn7
            obtain ⟨hi8, hEB⟩ := HI6.out.put HV.out hg7 hat7 hR7
            have HI8 := Aside0.mk hi8
            have HEBC := Aside0.mk hEB
            have HB8 := Aside0.mk ((HB6.out.grown hg7 HB6.out.size (fun k e => Kd.R_base (HI6.out.rows.row i v HV.out) k e)).grown (grownBy_set W7 EB i (.slice A7 n7 c7)) (Nat.le_trans HB6.out.size hg7.size) (fun k e => by have e := Option.some.inj e; subst e; exact HI6.out.hE))
            have HR7 := Aside0.mk (blk_grown HI6.out.blk hg7 (Kd.R_ne (HI6.out.rows.row i v HV.out) HI6.out.blk (by decide)))
            clear hi8 hEB hR7 hg7 hat7
            refine hK.out _ _ ⟨(blk_cell HR7.out 4).trans rfl, (blk_cell HEBC.out i).trans (by simpa using HV.out)⟩ (fun hHeld => ?_)
            clear hK K
            refine norm_ (a' := ?_) ?_ ?_
            rotate_left
            · show Act.put _ (some 167) _ = _
              simp only [Act.put, List.setIfInBounds_toArray, List.set_cons_zero, List.set_cons_succ, i64_w, i32_w]
              rfl
            refine pure_ (i := 16) (N := some 168) (v := ?_) (a' := ?_) #[true, true, true, true, true, true, true, true, true, true, true, true, true, true, true, true, true, false] rfl rfl (any_of HT_.out (by kernel_rfl)) (fun _ _ _ h => h) (Or.inl ⟨by rfl, ?_⟩) ?_ ?_
            rotate_left
            · intro w'
              go_simp
              with_reducible rfl
            rotate_left
            · simp only [Act.put, List.setIfInBounds_toArray, List.set_cons_zero, List.set_cons_succ, i64_w, i32_w]
              rfl
            refine last_ (i := 17) (N := none) #[true, true, true, true, true, true, true, true, true, true, true, true, true, true, true, true, true, true] rfl rfl (one_of HT_.out (by kernel_rfl)) (by decide) (fun K hK => ?_)
            refine step_list rfl (by rfl) ?_
            have z0 := (blk_cell HEBC.out i).trans (show _ = some v by simpa using HV.out)
            have z1 := blk_frozen HEBC.out i
            unfold Oper.wp
            go_simp
            refine hK.out _ _ ?_
            clear hK K z0 z1 HEBC HR7 HL6 HI6 HB6 HI5 HB5
            refine done_ (done_of HT_.out (by kernel_rfl)) ?_
            refine NoPanic.normal ?_
            clear HT_ HW_ hHeld
            generalize W7.setCell ⟨EB, i, none⟩ (.slice A7 n7 c7) = W8 at *
            have HVN := Aside0.mk (show (vs.set i (.slice A7 n7 c7))[i]? = some (.slice A7 n7 c7) by rw [List.getElem?_set, if_pos rfl, if_pos (List.getElem?_eq_some_iff.1 HV.out).1])
            have d4 := HI8.out.cells.2.2.2.2
            have ev := HI8.out.rows.cell HVN.out
            go_wp2_with fail
            refine (sort_calls W8 W.heap.size (fun _ => True) (.slice A7 n7 c7) _ (HI8.out.rows.row i _ HVN.out) (by unfold setE; rw [if_pos rfl, List.length_append]; have := HEI.out; simp only [List.length_singleton]; omega)).mono ?_
            rintro e W9 ⟨rfl, hR9, hg9⟩
            have HI9 := Aside0.mk (HI8.out.turn HVN.out hg9 hR9)
            have HB9 := Aside0.mk (HB8.out.grown hg9 HB8.out.size (fun k e => Kd.R_base (HI8.out.rows.row i _ HVN.out) k e))
            clear hR9 hg9 HI8 HB8 d4 ev
            rw [setE_self, setE_setE] at HI9
            go_wp2_with fail
            go_roundg (gk - 1)
            case measure => have := HLT.out; omega
            case rel => exact ⟨i + 1, vs.set i (.slice A7 n7 c7), by first | rfl | rw [wrap_succ (by have := HN.out; omega)], by have := HLT.out; omega, by have := HLT.out; omega, ⟨by rw [HS1.out]; unfold singC singE; simp only [HCC2.out]; exact HI9.out⟩, HB9⟩
          | some c1 =>
            have hlook := HI.out.hit HSM.out hcc
            unfold pairV at hlook
            have HCC2 := Aside0.mk hcc
            clear hcc
            have d4 := HI.out.cells.2.2.2.2
            have ev := HI.out.rows.cell HV.out
            have HRV := Aside0.mk (HI.out.rows.row i _ HV.out)
            obtain ⟨A7, c7, e7⟩ := Kd.R_slice HRV.out
            obtain ⟨n7, hn7⟩ : ∃ n, (E i).length = n := ⟨_, rfl⟩
            rw [hn7] at e7
            subst e7
            clear hn7
            go_wp2_with fail
            refine (sort_calls wr W.heap.size (fun _ => True) (.slice A7 n7 c7) _ HRV.out (by have := HEI.out; omega)).mono ?_
            rintro e W9 ⟨rfl, hR9, hg9⟩
            have HI9 := Aside0.mk (HI.out.turn HV.out hg9 hR9)
            have HB9 := Aside0.mk (HB.out.grown hg9 HB.out.size (fun k e => Kd.R_base HRV.out k e))
            clear hR9 hg9 HI HB d4 ev HRV c3 hlook
            go_wp2_with fail
            go_roundg (gk - 1)
            case measure => have := HLT.out; omega
            case rel => exact ⟨i + 1, vs, by first | rfl | rw [wrap_succ (by have := HN.out; omega)], by have := HLT.out; omega, by have := HLT.out; omega, ⟨by rw [HS1.out]; unfold singC singE; simp only [HCC2.out]; exact HI9.out⟩, HB9⟩
        · obtain rfl : i = N := by omega
          have hlti : ¬ (i : Int) < n := by have := HNN.out; omega
          go_wp2_with fail
          go_ret2
          refine ⟨HB.out, .inr ⟨by rw [HNN.out]; exact HOK.out, RB, MB, EB, vs, rfl, ?_⟩⟩
          rw [HCE.out, HK.out, HNN.out]
          exact HI.out
end Go.Proofs.Ytckpjppbkfcaaaa.Print
