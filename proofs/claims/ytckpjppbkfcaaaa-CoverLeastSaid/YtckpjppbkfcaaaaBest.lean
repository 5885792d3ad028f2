/- cover.Best: the cheapest partition of a run. -/
import Derived.Test.YtckpjppbkfcaaaaCovP
namespace Go.Proofs.Ytckpjppbkfcaaaa.Print
open Go.RowKit Go.Maps Go.Proofs.YtckpjppbkfcaaaaW.PrintWords Go.Proofs.YtckpjppbkfcaaaaW.PrintLast Go.Proofs.YtckpjppbkfcaaaaW.PrintMore
set_option linter.unusedVariables false
set_option linter.unusedSimpArgs false

def best_T12 : Bool × List (List Nat × List Nat) := (true, [([], []), ([0], [0]), ([1], [1]), ([1], [1]), ([1], [1]), ([2, 3, 4, 1, 1], [1, 2, 3, 4]), ([1], [1]), ([1], [1]), ([6, 7, 1], [1, 6, 7]), ([8, 1], [1, 8]), ([5, 9, 1], [1, 5, 9]), ([1], [1]), ([1], [1]), ([11, 12, 1], [1, 11, 12]), ([13, 1], [1, 13]), ([10, 14, 1], [1, 10, 14]), ([1, 15], [1, 15])])
def best_B12 : List Nat := [0, 1, 3, 3, 3, 31, 3, 3, 195, 451, 1023, 3, 3, 6147, 14339, 32767, 65535]
theorem best_tab12 : rtab .any (opsOf Try.f10 12) = best_T12 := by kernel_rfl
theorem best_bits12 : waitsOk best_T12.2 best_B12 = true := by kernel_rfl
def best_T15 : Bool × List (List Nat × List Nat) := (true, [([], []), ([], []), ([1], [1]), ([2], [2]), ([], []), ([3, 4], [3, 4]), ([0, 0], [0]), ([5, 6, 0, 1, 2, 3, 4, 5, 6], [5]), ([7, 0, 1, 2, 3, 4, 5, 6, 7], [])])
def best_B15 : List Nat := [0, 0, 2, 6, 0, 30, 1, 127, 255]
theorem best_tab15 : rtab .any (opsOf Try.f10 15) = best_T15 := by kernel_rfl
theorem best_bits15 : waitsOk best_T15.2 best_B15 = true := by kernel_rfl
/-! ### the way through the places -/
/-- May the way lead from a to x? -/
def goes (cap : Bool) (C : Costs) (xs : List Int) (a : Nat) (x : Int) : Bool := cap || decide (pieceV C ((a : Int), x) + rd xs x = rd xs (a : Int))
def nextF (cap : Bool) (C : Costs) (E : Nat → List Int) (xs : List Int) (a : Nat) : Nat := (((E a).find? (goes cap C xs a)).getD 0).toNat
/-- The places behind a. -/
def pathL (nx : Nat → Nat) (N : Nat) : Nat → Nat → List Int
  | 0, _ => []
  | f + 1, a => if a < N then (nx a : Int) :: pathL nx N f (nx a) else []
theorem pathL_end {nx : Nat → Nat} {N a : Nat} (h : N ≤ a) : ∀ f, pathL nx N f a = []
  | 0 => rfl
  | f + 1 => by rw [pathL, if_neg (by omega)]
theorem pathL_fuel {nx : Nat → Nat} {N : Nat} (hnx : ∀ a, a < N → a < nx a ∧ nx a ≤ N) : ∀ (f g a : Nat), N - a ≤ f → N - a ≤ g → pathL nx N f a = pathL nx N g a
  | f, g, a, hf, hg => by
    by_cases ha : a < N
    · obtain ⟨f, rfl⟩ : ∃ k, f = k + 1 := ⟨f - 1, by omega⟩
      obtain ⟨g, rfl⟩ : ∃ k, g = k + 1 := ⟨g - 1, by omega⟩
      have := hnx a ha
      rw [pathL, pathL, if_pos ha, if_pos ha, pathL_fuel hnx f g (nx a) (by omega) (by omega)]
    · rw [pathL_end (by omega), pathL_end (by omega)]
theorem pathL_step {nx : Nat → Nat} {N a : Nat} (hnx : ∀ a, a < N → a < nx a ∧ nx a ≤ N) (ha : a < N) : pathL nx N N a = (nx a : Int) :: pathL nx N N (nx a) := by
  obtain ⟨f, hf⟩ : ∃ f, N = f + 1 := ⟨N - 1, by omega⟩
  have := hnx a ha
  rw [show pathL nx N N a = pathL nx N (f + 1) a by rw [← hf], pathL, if_pos ha, pathL_fuel hnx f N (nx a) (by omega) (by omega)]
theorem pathL_len {nx : Nat → Nat} {N : Nat} : ∀ (f a : Nat), (pathL nx N f a).length ≤ f
  | 0, _ => by simp [pathL]
  | f + 1, a => by
    rw [pathL]
    split
    · have := pathL_len (nx := nx) (N := N) f (nx a); simp; omega
    · simp
section
variable {N : Nat} {C : Costs} {E : Nat → List Int} {xs : List Int} {cap : Bool} {a t : Nat}
theorem goes_ex (hS : Spec N C E) (hB : Best N C 0 xs) (ha : a < N) : ∃ x ∈ E a, goes cap C xs a x = true := by
  obtain ⟨x, c, hc, e⟩ := hB.is a (by omega) ha
  refine ⟨x, (hS.ends a x ha).2 ⟨c, hc⟩, ?_⟩
  unfold goes pieceV
  rw [hc, e]
  simp
theorem nextF_mem (hS : Spec N C E) (hB : Best N C 0 xs) (ha : a < N) : ((nextF cap C E xs a : Nat) : Int) ∈ E a ∧ a < nextF cap C E xs a ∧ nextF cap C E xs a ≤ N := by
  obtain ⟨x, hx, hg⟩ := goes_ex (cap := cap) hS hB ha
  unfold nextF
  cases q : (E a).find? (goes cap C xs a) with
  | none => rw [List.find?_eq_none] at q; exact absurd hg (q x hx)
  | some y =>
    have hy := List.mem_of_find?_eq_some q
    obtain ⟨c, hc⟩ := (hS.ends a y ha).1 hy
    have hp := hS.place _ _ _ hc
    have e : ((((some y).getD 0).toNat : Nat) : Int) = y := by show ((y.toNat : Nat) : Int) = y; omega
    rw [e]
    refine ⟨hy, ?_, ?_⟩
    · show a < y.toNat; omega
    · show y.toNat ≤ N; omega
theorem nextF_at (ht : t < (E a).length) (hno : ∀ s : Nat, s < t → goes cap C xs a (rd (E a) (s : Int)) = false) (hg : goes cap C xs a (rd (E a) (t : Int)) = true) {f : Nat} (hf : rd (E a) (t : Int) = f) : nextF cap C E xs a = f := by
  have e : (E a).find? (goes cap C xs a) = some (rd (E a) (t : Int)) := by
    have er : ∀ s : Nat, (hs : s < (E a).length) → rd (E a) (s : Int) = (E a)[s] := fun s hs => by
      unfold rd
      rw [Int.toNat_natCast, List.getD_eq_getElem?_getD, List.getElem?_eq_getElem hs]; rfl
    rw [List.find?_eq_some_iff_getElem]
    refine ⟨hg, t, ht, (er t ht).symm, fun s hs => ?_⟩
    have := hno s hs
    rw [er s (by omega)] at this
    rw [this]; rfl
  unfold nextF
  rw [e, hf]; rfl
end
/-! ### what Best comes to -/
def okRun (n p mo : Int) (l : List S36) : Bool := limOk n p mo l.length && l.all (wordOk n)
/-- The answer: the places, the costs, the error. -/
def ResI (n p mo : Int) (l : List S36) (r : List Int × Int × Int) : Prop :=
  (okRun n p mo l = false ∧ r = ([], 0, 1)) ∨ (okRun n p mo l = true ∧ ∃ N : Nat, n = N ∧ ∃ xs, Best N (finCE N p l).1 0 xs ∧
    r = (0 :: pathL (nextF (decide (mo ≤ rd xs 0)) (finCE N p l).1 (finCE N p l).2 xs) N N 0, min (rd xs 0) mo, 0))
structure BestPost (n p mo : Int) (l : List S36) (W : World) (e : Ending) (w' : World) : Prop where
  below : Below W.heap.size W w'
  is : ∃ r v, ResI n p mo l r ∧ e = .returned (.tuple #[v, .int .i64 r.2.1, .int .i64 r.2.2]) ∧ Kd.R (Kd.int .i64) 3 w' W.heap.size (fun _ => True) v r.1
theorem limOk_nat {n p mo : Int} {k : Nat} (h : limOk n p mo k = true) : ∃ N : Nat, n = N ∧ N ≤ 5000 := by
  unfold limOk at h
  simp only [Bool.and_eq_true, decide_eq_true_eq] at h
  have := inN_is h.1
  exact ⟨n.toNat, by omega, by omega⟩
theorem limOk_len {n p mo : Int} {k : Nat} (h : limOk n p mo k = true) : k ≤ 100000 := by
  unfold limOk at h
  simp only [Bool.and_eq_true, decide_eq_true_eq] at h
  exact h.2.2.2
theorem goesT {cap : Bool} {C : Costs} {xs : List Int} {a : Nat} {x : Int} (h : cap = true) : goes cap C xs a x = true := by unfold goes; rw [h]; rfl
theorem Best.up {N j : Nat} {C : Costs} {xs : List Int} (h : Best N C 0 xs) : Best N C j xs := ⟨h.len, h.last, h.low, fun i _ h2 => h.le i (by omega) h2, fun i _ h2 => h.is i (by omega) h2⟩
theorem R_lit1 {W : World} {base : Nat} (x : Int) (h : base ≤ W.heap.size) : Kd.R (Kd.int .i64) 3 (W.alloc (.cells #[.int .i64 x] 3)) base (fun _ => True) (.slice (some ⟨W.heap.size, 0, none⟩) 1 1) [x] := by
  refine ⟨fun _ _ => trivial, [.int .i64 x], ?_, ?_⟩
  · have h2 := World.ownsRow_lit (base := base) (e := 3) (size := (Kd.int .i64).sz) W #[.int .i64 x] 1 h (by decide) rfl
    simpa using h2
  · exact Reps.one (show Kd.M (Kd.int .i64) _ _ _ x [.int .i64 x] from rfl) (Reps.none _ _)
set_option maxHeartbeats 16000000 in
set_option maxRecDepth 100000 in
theorem best_calls (n p mo : Int) (A : Option Addr) (c : Nat) (l : List S36) (W : World) (hr : Kd.C k36 W A l.length l) (hc : l.length ≤ c) :
    Calls Try.prog 10 #[.int .i64 n, .slice A l.length c, .int .i64 p, .int .i64 mo] W (BestPost n p mo l W) := by
  cases hlim : limOk n p mo l.length with
  | false =>
    have HM := Aside0.mk (made_lim n p mo A c l W hlim)
    have HRES := Aside0.mk (show ResI n p mo l ([], 0, 1) from .inl ⟨by unfold okRun; rw [hlim]; rfl, rfl⟩)
    clear hr hc hlim
    go_enter Try.func10, Try.ntmps10
    go_wp2_with fail
    go_step3
    go_wp2_with fail
    refine HM.out.mono ?_
    rintro e W1 ⟨rfl, hb⟩
    have HB := Aside0.mk hb
    clear hb
    go_wp2_with fail
    go_ret3
    exact ⟨HB.out, _, _, HRES.out, rfl, Kd.R_nil _ _ _ _ _⟩
  | true =>
    obtain ⟨N, hn, hN⟩ := limOk_nat hlim
    subst hn
    have HM := Aside0.mk (made_calls N p mo A c l W hr hc hlim)
    have HLM := Aside0.mk hlim
    have HN := Aside0.mk hN
    have HP := Aside0.mk (show 0 ≤ mo from by
      unfold limOk at hlim
      simp only [Bool.and_eq_true, decide_eq_true_eq] at hlim
      exact (inN_is hlim.2.2.1).1)
    obtain ⟨n, hn⟩ : ∃ n : Int, (N : Int) = n := ⟨_, rfl⟩
    have HNN := Aside0.mk hn
    rw [hn] at HM ⊢
    clear hr hc hlim hn hN
    go_enter Try.func10, Try.ntmps10
    go_wp2_with fail
    go_step3
    go_wp2_with fail
    refine HM.out.mono ?_
    rintro e W1 ⟨hb, hcase⟩
    have HB := Aside0.mk hb
    rcases hcase with ⟨hno, rfl⟩ | ⟨hyes, RB, MB, EB, vs, rfl, hi⟩
    · have HRES := Aside0.mk (show ResI n p mo l ([], 0, 1) from .inl ⟨by unfold okRun; rw [← HNN.out, HLM.out, hno]; rfl, rfl⟩)
      clear hb hno HM
      go_wp2_with fail
      go_ret3
      exact ⟨HB.out, _, _, HRES.out, rfl, Kd.R_nil _ _ _ _ _⟩
    · have HS := Aside0.mk (fin_spec HLM.out hyes)
      have HYES := Aside0.mk hyes
      have HI1 := Aside0.mk (show RunI W.heap.size RB MB EB N p mo (N + 1) (finCE N p l).1 vs (finCE N p l).2 W1 from hi)
      have HRI := Aside0.mk (fun r (h : ∃ xs, Best N (finCE N p l).1 0 xs ∧ r = (0 :: pathL (nextF (decide (mo ≤ rd xs 0)) (finCE N p l).1 (finCE N p l).2 xs) N N 0, min (rd xs 0) mo, (0 : Int))) => (show ResI n p mo l r from .inr ⟨by unfold okRun; rw [← HNN.out, HLM.out, HYES.out]; rfl, N, HNN.out.symm, h⟩))
      obtain ⟨C, hC⟩ : ∃ C, (finCE N p l).1 = C := ⟨_, rfl⟩
      obtain ⟨E, hE⟩ : ∃ E, (finCE N p l).2 = E := ⟨_, rfl⟩
      rw [hC, hE] at HS HI1 HRI
      clear hb hyes HM hi hC hE HYES
      obtain ⟨k, hk⟩ : ∃ k, N + 1 = k := ⟨_, rfl⟩
      have HK := Aside0.mk hk
      clear hk
      go_wp2_with fail
      refine (least_calls N W1 HN.out HI1.out HS.out).mono ?_
      rintro e W2 ⟨hb2, g, xs, rfl, hx2, hbest⟩
      have HB2 := Aside0.mk (below_step HB.out hb2)
      have HI2 := Aside0.mk (HI1.out.later hb2)
      have HX2 := Aside0.mk (Kd.R_lower hx2 HB.out.size)
      have HBE := Aside0.mk hbest
      clear hb2 hx2 hbest HI1 HB
      have hx0 := (R_cellg HX2.out 0 (by omega)).1
      have hx0b := (R_cellg (Kd.R_alloc HX2.out (.cells #[.int .i64 0] 3)) 0 (by omega)).1
      rw [show ((0 : Nat) : Int) = 0 from rfl] at hx0 hx0b
      rw [HK.out] at HI2 HX2 ⊢
      have hk0 : (0 < k) = True := eq_true (by have := HK.out; omega)
      have hk0i : (0 : Int) < (k : Int) := by have := HK.out; omega
      obtain ⟨x0, hx0e⟩ : ∃ x0, rd xs 0 = x0 := ⟨_, rfl⟩
      rw [hx0e] at hx0 hx0b
      have HX0 := Aside0.mk hx0e
      clear hx0e
      go_wp2_with fail
      go_step3
      go_wp2_with fail
      have HO3 := Aside0.mk (R_lit1 (W := W2) (base := W2.heap.size) 0 (Nat.le_refl _))
      have HB3 := Aside0.mk (below_alloc (Below.refl W2.heap.size W2) (.cells #[.int .i64 0] 3))
      generalize Value.slice (some ⟨W2.heap.size, 0, none⟩) 1 1 = v0 at *
      generalize W2.alloc (.cells #[.int .i64 0] 3) = W3 at *
      obtain ⟨cap, hcap⟩ : ∃ cap, decide (mo ≤ x0) = cap := ⟨_, rfl⟩
      rw [hcap]
      have HCAP := Aside0.mk hcap
      clear hcap hx0 hx0b hk0 hk0i
      cases cap with
      | true =>
        have HNX := Aside0.mk (fun a (ha : a < N) => (nextF_mem (cap := true) HS.out HBE.out ha))
        go_loopg [14, 16] (N + 1) (fun gg s14 s16 wr => ∃ (a : Nat) (out : List Int), s16 = .int .i64 a ∧ a ≤ N ∧ N - a < gg ∧ Aside0 (Kd.R (Kd.int .i64) 3 wr W2.heap.size (fun _ => True) s14 out) ∧ Aside0 (out ++ pathL (nextF true C E xs) N N a = 0 :: pathL (nextF true C E xs) N N 0) ∧ Aside0 (out.length ≤ a + 1) ∧ Aside0 (Below W2.heap.size W2 wr))
        case atStart => exact ⟨0, [0], rfl, by omega, by omega, HO3, ⟨rfl⟩, ⟨by simp⟩, HB3⟩
        case round =>
          clear HO3 HB3
          obtain ⟨a, out, rfl, ha, hgk, HO, HPT, HOL, HB3⟩ := hrel
          by_cases hlt : a < N
          · have hltz : (a : Int) < n := by have := HNN.out; omega
            obtain ⟨g1, hg1⟩ : ∃ x, gk = x := ⟨_, rfl⟩
            have HG1 := Aside0.mk hg1
            have HGK := Aside0.mk (show N - a < g1 by omega)
            have HA := Aside0.mk hlt
            have HAK := Aside0.mk (show a < k by have := HK.out; omega)
            have hak : (a : Int) < (k : Int) := by have := HAK.out; omega
            have hak2 : (a < k) = True := eq_true HAK.out
            have HIr := HI2.out.later HB3.out
            obtain ⟨v, hv⟩ := vs_get HI2.out.len HAK.out
            have HRV := Aside0.mk (HI2.out.rows.row a v hv)
            obtain ⟨Av, cv, ev⟩ := Kd.R_slice HRV.out
            subst ev
            have d4 := HIr.cells.2.2.2.2
            have ec := HIr.rows.cell hv
            clear hv hg1 hgk ha hlt HIr
            go_wp2_with fail
            go_loopg [14, 16, 48] ((E a).length + 1) (fun gg q14 q16 s48 wr => ∃ (t : Nat), q16 = .int .i64 a ∧ s48 = .int .i64 t ∧ t ≤ (E a).length ∧ (E a).length - t < gg ∧ Aside0 (∀ s : Nat, s < t → goes true C xs a (rd (E a) (s : Int)) = false) ∧ Aside0 (Kd.R (Kd.int .i64) 3 wr W2.heap.size (fun _ => True) q14 out) ∧ Aside0 (Below W2.heap.size W2 wr))
            case atStart => exact ⟨0, rfl, rfl, by omega, by omega, ⟨fun s hs => by omega⟩, HO, HB3⟩
            case round =>
              clear HO HB3 d4 ec
              obtain ⟨t, rfl, rfl, ht, hgk, HNO, HO, HB⟩ := hrel
              by_cases hlt : t < (E a).length
              · have hltz : (t : Int) < ((E a).length : Int) := by omega
                obtain ⟨ad, ea, hx0⟩ := Kd.at_int (Kd.C_below (Kd.R_reads' HRV.out).2.2 HB.out) (t : Int) (by omega) hltz
                rw [Int.toNat_natCast] at hx0
                obtain ⟨c', hc'⟩ := (HS.out.ends a _ HA.out).1 (rd_mem hlt)
                have hpl := HS.out.place _ _ _ hc'
                have HAT := Aside0.mk (fun f (hg : goes true C xs a (rd (E a) (t : Int)) = true) (hf : rd (E a) (t : Int) = (f : Nat)) => nextF_at hlt HNO.out hg hf)
                have HSUM := Aside0.mk (HBE.out.up.sum HS.out HA.out hc')
                have HLT := Aside0.mk hlt
                obtain ⟨f, hf⟩ : ∃ f : Nat, rd (E a) (t : Int) = (f : Int) := ⟨(rd (E a) (t : Int)).toNat, by omega⟩
                have HF := Aside0.mk hf
                rw [hf] at hx0 hc' hpl HSUM HAT
                have HAT2 := Aside0.mk (fun hg => HAT.out f hg rfl)
                have HSM := Aside0.mk (spec_small HS.out HN.out hc')
                have HPV := Aside0.mk (show pieceV C ((a : Int), (f : Int)) = c' by unfold pieceV; rw [hc']; rfl)
                have hws : wrap64 (c' + rd xs (f : Int)) = c' + rd xs (f : Int) := by
                  have h1 := HSUM.out
                  have h2 := HN.out
                  unfold wrap64
                  omega
                have HFK := Aside0.mk (show f < k by have := HK.out; omega)
                have HFP := Aside0.mk hpl
                have hfk : (f : Int) < (k : Int) := by have := HFK.out; omega
                have hfk2 : (f < k) = True := eq_true HFK.out
                subst ea
                clear hf hc' hpl hlt HAT HSUM
                have HYES := Aside0.mk (show goes true C xs a (f : Int) = true → pathL (nextF true C E xs) N N a = (f : Int) :: pathL (nextF true C E xs) N N f from fun hg => by
                  have e := HAT2.out hg
                  rw [pathL_step (fun a ha => (HNX.out a ha).2) HA.out, e])
                go_upto_region 12 with fail
                have HO8 := Aside0.mk (Kd.R_drew HO.out)
                have HB8 := Aside0.mk (below_step HB.out (below_drew (Below.refl _ _)))
                clear HO HB hx0
                have HGO := Aside0.mk (HYES.out (goesT rfl))
                refine wp_region_noPanic ?_
                refine start_ (n := 17) (S := fun _ => True) (ds := []) #[false, false, false, false, false, false, false, false, false, false, false, false, false, false, false, false, false] (by kernel_rfl) rfl rfl trivial (fun hHeld => ?_); refine with_tabW best_tab12 best_bits12 (fun HT_ HW_ => ?_)
                obtain ⟨W8, hW_⟩ : ∃ w, wr.drew = w := ⟨_, rfl⟩
                rw [hW_] at HO8 HB8 ⊢
                clear hW_
                refine pure_ (i := 0) (N := some 52) (v := ?_) (a' := ?_) #[true, false, false, false, false, false, false, false, false, false, false, false, false, false, false, false, false] rfl rfl (any_of HT_.out (by kernel_rfl)) (fun _ _ _ h => h) (Or.inl ⟨by rfl, ?_⟩) ?_ ?_
                rotate_left
                · intro w'
                  go_simp
                  with_reducible rfl
                rotate_left
                · simp only [Act.put, List.setIfInBounds_toArray, List.set_cons_zero, List.set_cons_succ, i64_w, i32_w]
                  rfl
                refine pure_ (i := 1) (N := some 53) (v := ?_) (a' := ?_) #[true, true, false, false, false, false, false, false, false, false, false, false, false, false, false, false, false] rfl rfl (any_of HT_.out (by kernel_rfl)) (fun _ _ _ h => h) (Or.inl ⟨by rfl, ?_⟩) ?_ ?_
                rotate_left
                · intro w'
                  go_simp
                  with_reducible rfl
                rotate_left
                · simp only [Act.put, List.setIfInBounds_toArray, List.set_cons_zero, List.set_cons_succ, i64_w, i32_w]
                  rfl
                refine pure_ (i := 2) (N := some 54) (v := undef) (a' := ?_) #[true, true, true, false, false, false, false, false, false, false, false, false, false, false, false, false, false] rfl rfl (any_of HT_.out (by kernel_rfl)) (fun _ _ _ h => h) (Or.inr ⟨by rfl, rfl⟩) ?_ ?_
                rotate_left
                · simp only [Act.put, List.setIfInBounds_toArray, List.set_cons_zero, List.set_cons_succ, i64_w, i32_w]
                  rfl
                refine pure_ (i := 3) (N := some 55) (v := undef) (a' := ?_) #[true, true, true, true, false, false, false, false, false, false, false, false, false, false, false, false, false] rfl rfl (any_of HT_.out (by kernel_rfl)) (fun _ _ _ h => h) (Or.inr ⟨by rfl, rfl⟩) ?_ ?_
                rotate_left
                · simp only [Act.put, List.setIfInBounds_toArray, List.set_cons_zero, List.set_cons_succ, i64_w, i32_w]
                  rfl
                refine pure_ (i := 4) (N := some 56) (v := undef) (a' := ?_) #[true, true, true, true, true, false, false, false, false, false, false, false, false, false, false, false, false] rfl rfl (any_of HT_.out (by kernel_rfl)) (fun _ _ _ h => h) (Or.inr ⟨by rfl, rfl⟩) ?_ ?_
                rotate_left
                · simp only [Act.put, List.setIfInBounds_toArray, List.set_cons_zero, List.set_cons_succ, i64_w, i32_w]
                  rfl
                refine pure_ (i := 5) (N := some 57) (v := undef) (a' := ?_) #[true, true, true, true, true, true, false, false, false, false, false, false, false, false, false, false, false] rfl rfl (any_of HT_.out (by kernel_rfl)) (fun _ _ _ h => h) (Or.inr ⟨by rfl, rfl⟩) ?_ ?_
                rotate_left
                · simp only [Act.put, List.setIfInBounds_toArray, List.set_cons_zero, List.set_cons_succ, i64_w, i32_w]
                  rfl
                refine pure_ (i := 6) (N := some 58) (v := undef) (a' := ?_) #[true, true, true, true, true, true, true, false, false, false, false, false, false, false, false, false, false] rfl rfl (any_of HT_.out (by kernel_rfl)) (fun _ _ _ h => h) (Or.inr ⟨by rfl, rfl⟩) ?_ ?_
                rotate_left
                · simp only [Act.put, List.setIfInBounds_toArray, List.set_cons_zero, List.set_cons_succ, i64_w, i32_w]
                  rfl
                refine pure_ (i := 7) (N := some 59) (v := undef) (a' := ?_) #[true, true, true, true, true, true, true, true, false, false, false, false, false, false, false, false, false] rfl rfl (any_of HT_.out (by kernel_rfl)) (fun _ _ _ h => h) (Or.inr ⟨by rfl, rfl⟩) ?_ ?_
                rotate_left
                · simp only [Act.put, List.setIfInBounds_toArray, List.set_cons_zero, List.set_cons_succ, i64_w, i32_w]
                  rfl
                refine pure_ (i := 8) (N := some 60) (v := undef) (a' := ?_) #[true, true, true, true, true, true, true, true, true, false, false, false, false, false, false, false, false] rfl rfl (any_of HT_.out (by kernel_rfl)) (fun _ _ _ h => h) (Or.inr ⟨by rfl, rfl⟩) ?_ ?_
                rotate_left
                · simp only [Act.put, List.setIfInBounds_toArray, List.set_cons_zero, List.set_cons_succ, i64_w, i32_w]
                  rfl
                refine pure_ (i := 9) (N := some 61) (v := undef) (a' := ?_) #[true, true, true, true, true, true, true, true, true, true, false, false, false, false, false, false, false] rfl rfl (any_of HT_.out (by kernel_rfl)) (fun _ _ _ h => h) (Or.inr ⟨by rfl, rfl⟩) ?_ ?_
                rotate_left
                · simp only [Act.put, List.setIfInBounds_toArray, List.set_cons_zero, List.set_cons_succ, i64_w, i32_w]
                  rfl
                refine pure_ (i := 10) (N := some 62) (v := undef) (a' := ?_) #[true, true, true, true, true, true, true, true, true, true, true, false, false, false, false, false, false] rfl rfl (any_of HT_.out (by kernel_rfl)) (fun _ _ _ h => h) (Or.inr ⟨by rfl, rfl⟩) ?_ ?_
                rotate_left
                · simp only [Act.put, List.setIfInBounds_toArray, List.set_cons_zero, List.set_cons_succ, i64_w, i32_w]
                  rfl
                refine pure_ (i := 11) (N := some 63) (v := undef) (a' := ?_) #[true, true, true, true, true, true, true, true, true, true, true, true, false, false, false, false, false] rfl rfl (any_of HT_.out (by kernel_rfl)) (fun _ _ _ h => h) (Or.inr ⟨by rfl, rfl⟩) ?_ ?_
                rotate_left
                · simp only [Act.put, List.setIfInBounds_toArray, List.set_cons_zero, List.set_cons_succ, i64_w, i32_w]
                  rfl
                refine pure_ (i := 12) (N := some 64) (v := undef) (a' := ?_) #[true, true, true, true, true, true, true, true, true, true, true, true, true, false, false, false, false] rfl rfl (any_of HT_.out (by kernel_rfl)) (fun _ _ _ h => h) (Or.inr ⟨by rfl, rfl⟩) ?_ ?_
                rotate_left
                · simp only [Act.put, List.setIfInBounds_toArray, List.set_cons_zero, List.set_cons_succ, i64_w, i32_w]
                  rfl
                refine pure_ (i := 13) (N := some 65) (v := undef) (a' := ?_) #[true, true, true, true, true, true, true, true, true, true, true, true, true, true, false, false, false] rfl rfl (any_of HT_.out (by kernel_rfl)) (fun _ _ _ h => h) (Or.inr ⟨by rfl, rfl⟩) ?_ ?_
                rotate_left
                · simp only [Act.put, List.setIfInBounds_toArray, List.set_cons_zero, List.set_cons_succ, i64_w, i32_w]
                  rfl
                refine pure_ (i := 14) (N := some 66) (v := undef) (a' := ?_) #[true, true, true, true, true, true, true, true, true, true, true, true, true, true, true, false, false] rfl rfl (any_of HT_.out (by kernel_rfl)) (fun _ _ _ h => h) (Or.inr ⟨by rfl, rfl⟩) ?_ ?_
                rotate_left
                · simp only [Act.put, List.setIfInBounds_toArray, List.set_cons_zero, List.set_cons_succ, i64_w, i32_w]
                  rfl
                refine pure_ (i := 15) (N := some 67) (v := undef) (a' := ?_) #[true, true, true, true, true, true, true, true, true, true, true, true, true, true, true, true, false] rfl rfl (any_of HT_.out (by kernel_rfl)) (fun _ _ _ h => h) (Or.inr ⟨by rfl, rfl⟩) ?_ ?_
                rotate_left
                · simp only [Act.put, List.setIfInBounds_toArray, List.set_cons_zero, List.set_cons_succ, i64_w, i32_w]
                  rfl
                refine pure_ (i := 16) (N := some 68) (v := ?_) (a' := ?_) #[true, true, true, true, true, true, true, true, true, true, true, true, true, true, true, true, true] rfl rfl (any_of HT_.out (by kernel_rfl)) (fun _ _ _ h => h) (Or.inl ⟨by rfl, ?_⟩) ?_ ?_
                rotate_left
                · intro w'
                  go_simp
                  with_reducible rfl
                rotate_left
                · simp only [Act.put, List.setIfInBounds_toArray, List.set_cons_zero, List.set_cons_succ, i64_w, i32_w]
                  rfl
                refine done_ (done_of HT_.out (by kernel_rfl)) ?_
                refine NoPanic.normal ?_
                clear HT_ HW_ hHeld
                go_wp2_with (at_builtin; go_loud (refine Kd.R_append (Kd.int .i64) (w0 := W2) W2.heap.size rfl (.tmp 69) (.tmp 71) 25 3 (.int .i64 0) 8 rfl Try.underlying25 info3 rfl (by decide) (by omega) _ out (f : Int) [.int .i64 f] (fun _ => True) (fun _ => False) rfl rfl rfl (fun k hk => hk.elim) (fun k hk => trivial) HO8.out HB8.out HB8.out.size (by have := HOL.out; have := HA.out; have := HN.out; omega) ?_; intro v11 w11 hR11 hB11 hg11 hat11; have HO13 := Aside0.mk hR11; have HB13 := Aside0.mk hB11; clear hR11 hB11 hg11 hat11))
                go_roundg (g1 - 1)
                case measure => have := HGK.out; have := HG1.out; omega
                case rel => exact ⟨f, out ++ [(f : Int)], rfl, by have := HFP.out; omega, by have := HFP.out; have := HGK.out; omega, HO13, ⟨by rw [List.append_assoc, List.singleton_append, ← HGO.out]; exact HPT.out⟩, ⟨by rw [List.length_append, List.length_singleton]; have := HOL.out; have := HFP.out; omega⟩, HB13⟩
              · have hno : False := by
                  obtain ⟨x, hx, hg⟩ := goes_ex (cap := true) HS.out HBE.out HA.out
                  obtain ⟨s, hs, e⟩ := List.getElem_of_mem hx
                  have h1 := HNO.out s (by omega)
                  unfold rd at h1
                  rw [Int.toNat_natCast, List.getD_eq_getElem?_getD, List.getElem?_eq_getElem hs, Option.getD_some, e, hg] at h1
                  cases h1
                exact hno.elim
          · obtain rfl : a = N := by omega
            have hltz : ¬ (a : Int) < n := by have := HNN.out; omega
            have HPE := Aside0.mk (show out = 0 :: pathL (nextF true C E xs) a a 0 by have h := HPT.out; rw [pathL_end (Nat.le_refl _), List.append_nil] at h; exact h)
            clear hlt
            go_upto_region 15 with fail
            have HO9 := Aside0.mk (Kd.R_drew HO.out)
            have HB9 := Aside0.mk (below_step HB3.out (below_drew (Below.refl _ _)))
            clear HO HB3
            refine wp_region_noPanic ?_
            refine start_ (n := 9) (S := fun w' => w'.cell? ⟨g, 0, none⟩ = some (.int .i64 x0)) (ds := []) #[false, false, false, false, false, false, false, false, false] (by kernel_rfl) rfl rfl (by have h := (R_cellg (Kd.R_below HX2.out HB9.out) 0 (by have := HK.out; omega)).1; rw [show ((0 : Nat) : Int) = 0 from rfl, HX0.out] at h; exact h) (fun hHeld => ?_); refine with_tabW best_tab15 best_bits15 (fun HT_ HW_ => ?_)
            obtain ⟨W9, hW_⟩ : ∃ w, wr.drew = w := ⟨_, rfl⟩
            rw [hW_] at HO9 HB9 hHeld ⊢
            clear hW_
            have hk0 : (0 < k) = True := eq_true (by have := HK.out; omega)
            have hk0i : (0 : Int) < (k : Int) := by have := HK.out; omega
            refine pure_ (i := 0) (N := some 75) (v := ?_) (a' := ?_) #[true, false, false, false, false, false, false, false, false] rfl rfl (any_of HT_.out (by kernel_rfl)) (fun _ _ _ h => h) (Or.inl ⟨by rfl, ?_⟩) ?_ ?_
            rotate_left
            · intro w'
              go_simp
              with_reducible rfl
            rotate_left
            · simp only [Act.put, List.setIfInBounds_toArray, List.set_cons_zero, List.set_cons_succ, i64_w, i32_w]
              rfl
            refine pure_ (i := 1) (N := some 76) (v := ?_) (a' := ?_) #[true, true, false, false, false, false, false, false, false] rfl rfl (any_of HT_.out (by kernel_rfl)) (fun _ _ _ h => h) (Or.inl ⟨by rfl, ?_⟩) ?_ ?_
            rotate_left
            · intro w'
              go_simp
              with_reducible rfl
            rotate_left
            · simp only [Act.put, List.setIfInBounds_toArray, List.set_cons_zero, List.set_cons_succ, i64_w, i32_w]
              rfl
            refine pure_ (i := 2) (N := some 77) (v := ?_) (a' := ?_) #[true, true, true, false, false, false, false, false, false] rfl rfl (any_of HT_.out (by kernel_rfl)) (fun _ _ _ h => h) (Or.inl ⟨by rfl, ?_⟩) ?_ ?_
            rotate_left
            · intro w'
              go_simp
              with_reducible rfl
            rotate_left
            · simp only [Act.put, List.setIfInBounds_toArray, List.set_cons_zero, List.set_cons_succ, i64_w, i32_w]
              rfl
            refine take_ (i := 3) (N := some 78) (v := ?_) (a' := ?_) #[true, true, true, true, false, false, false, false, false] rfl rfl (take_ofW HT_.out HW_.out (by kernel_rfl)) (fun _ _ _ h => h) (Or.inl ⟨by rfl, ?_⟩) hHeld ?_ ?_
            rotate_left
            · rintro w' s0
              go_simp
              with_reducible rfl
            rotate_left
            · simp only [Act.put, List.setIfInBounds_toArray, List.set_cons_zero, List.set_cons_succ, i64_w, i32_w]
              rfl
            refine pure_ (i := 4) (N := some 79) (v := ?_) (a' := ?_) #[true, true, true, true, true, false, false, false, false] rfl rfl (any_of HT_.out (by kernel_rfl)) (fun _ _ _ h => h) (Or.inl ⟨by rfl, ?_⟩) ?_ ?_
            rotate_left
            · intro w'
              go_simp
              with_reducible rfl
            rotate_left
            · simp only [Act.put, List.setIfInBounds_toArray, List.set_cons_zero, List.set_cons_succ, i64_w, i32_w]
              rfl
            refine pure_ (i := 5) (N := some 80) (v := ?_) (a' := ?_) #[true, true, true, true, true, true, false, false, false] rfl rfl (any_of HT_.out (by kernel_rfl)) (fun _ _ _ h => h) (Or.inl ⟨by rfl, ?_⟩) ?_ ?_
            rotate_left
            · intro w'
              go_simp
              with_reducible rfl
            rotate_left
            · simp only [Act.put, List.setIfInBounds_toArray, List.set_cons_zero, List.set_cons_succ, i64_w, i32_w]
              rfl
            refine pure_ (i := 6) (N := some 8) (v := ?_) (a' := ?_) #[true, true, true, true, true, true, true, false, false] rfl rfl (any_of HT_.out (by kernel_rfl)) (fun _ _ _ h => h) (Or.inl ⟨by rfl, ?_⟩) ?_ ?_
            rotate_left
            · intro w'
              go_simp
              with_reducible rfl
            rotate_left
            · simp only [Act.put, List.setIfInBounds_toArray, List.set_cons_zero, List.set_cons_succ, i64_w, i32_w]
              rfl
            refine pure_ (i := 7) (N := some 9) (v := ?_) (a' := ?_) #[true, true, true, true, true, true, true, true, false] rfl rfl (any_of HT_.out (by kernel_rfl)) (fun _ _ _ h => h) (Or.inl ⟨by rfl, ?_⟩) ?_ ?_
            rotate_left
            · intro w'
              go_simp
              with_reducible rfl
            rotate_left
            · simp only [Act.put, List.setIfInBounds_toArray, List.set_cons_zero, List.set_cons_succ, i64_w, i32_w]
              rfl
            refine pure_ (i := 8) (N := some 10) (v := ?_) (a' := ?_) #[true, true, true, true, true, true, true, true, true] rfl rfl (any_of HT_.out (by kernel_rfl)) (fun _ _ _ h => h) (Or.inl ⟨by rfl, ?_⟩) ?_ ?_
            rotate_left
            · intro w'
              go_simp
              with_reducible rfl
            rotate_left
            · simp only [Act.put, List.setIfInBounds_toArray, List.set_cons_zero, List.set_cons_succ, i64_w, i32_w]
              rfl
            refine done_ (done_of HT_.out (by kernel_rfl)) ?_
            refine NoPanic.normal ?_
            clear HT_ HW_ hHeld
            go_wp2_with fail
            go_ret3
            refine ⟨HB2.out.trans (HB9.out.mono HB2.out.size), _, ?v, HRI.out _ ⟨xs, HBE.out, rfl⟩, ?e, ?r⟩
            case e => rw [HX0.out]; rfl
            case r =>
              rw [HX0.out, HCAP.out, ← HPE.out]
              exact Kd.R_lower HO9.out HB2.out.size
      | false =>
        have HNX := Aside0.mk (fun a (ha : a < N) => (nextF_mem (cap := false) HS.out HBE.out ha))
        go_loopg [14, 16] (N + 1) (fun gg s14 s16 wr => ∃ (a : Nat) (out : List Int), s16 = .int .i64 a ∧ a ≤ N ∧ N - a < gg ∧ Aside0 (Kd.R (Kd.int .i64) 3 wr W2.heap.size (fun _ => True) s14 out) ∧ Aside0 (out ++ pathL (nextF false C E xs) N N a = 0 :: pathL (nextF false C E xs) N N 0) ∧ Aside0 (out.length ≤ a + 1) ∧ Aside0 (Below W2.heap.size W2 wr))
        case atStart => exact ⟨0, [0], rfl, by omega, by omega, HO3, ⟨rfl⟩, ⟨by simp⟩, HB3⟩
        case round =>
          clear HO3 HB3
          obtain ⟨a, out, rfl, ha, hgk, HO, HPT, HOL, HB3⟩ := hrel
          by_cases hlt : a < N
          · have hltz : (a : Int) < n := by have := HNN.out; omega
            obtain ⟨g1, hg1⟩ : ∃ x, gk = x := ⟨_, rfl⟩
            have HG1 := Aside0.mk hg1
            have HGK := Aside0.mk (show N - a < g1 by omega)
            have HA := Aside0.mk hlt
            have HAK := Aside0.mk (show a < k by have := HK.out; omega)
            have hak : (a : Int) < (k : Int) := by have := HAK.out; omega
            have hak2 : (a < k) = True := eq_true HAK.out
            have HIr := HI2.out.later HB3.out
            obtain ⟨v, hv⟩ := vs_get HI2.out.len HAK.out
            have HRV := Aside0.mk (HI2.out.rows.row a v hv)
            obtain ⟨Av, cv, ev⟩ := Kd.R_slice HRV.out
            subst ev
            have d4 := HIr.cells.2.2.2.2
            have ec := HIr.rows.cell hv
            clear hv hg1 hgk ha hlt HIr
            go_wp2_with fail
            go_loopg [14, 16, 48] ((E a).length + 1) (fun gg q14 q16 s48 wr => ∃ (t : Nat), q16 = .int .i64 a ∧ s48 = .int .i64 t ∧ t ≤ (E a).length ∧ (E a).length - t < gg ∧ Aside0 (∀ s : Nat, s < t → goes false C xs a (rd (E a) (s : Int)) = false) ∧ Aside0 (Kd.R (Kd.int .i64) 3 wr W2.heap.size (fun _ => True) q14 out) ∧ Aside0 (Below W2.heap.size W2 wr))
            case atStart => exact ⟨0, rfl, rfl, by omega, by omega, ⟨fun s hs => by omega⟩, HO, HB3⟩
            case round =>
              clear HO HB3 d4 ec
              obtain ⟨t, rfl, rfl, ht, hgk, HNO, HO, HB⟩ := hrel
              by_cases hlt : t < (E a).length
              · have hltz : (t : Int) < ((E a).length : Int) := by omega
                obtain ⟨ad, ea, hx0⟩ := Kd.at_int (Kd.C_below (Kd.R_reads' HRV.out).2.2 HB.out) (t : Int) (by omega) hltz
                rw [Int.toNat_natCast] at hx0
                obtain ⟨c', hc'⟩ := (HS.out.ends a _ HA.out).1 (rd_mem hlt)
                have hpl := HS.out.place _ _ _ hc'
                have HAT := Aside0.mk (fun f (hg : goes false C xs a (rd (E a) (t : Int)) = true) (hf : rd (E a) (t : Int) = (f : Nat)) => nextF_at hlt HNO.out hg hf)
                have HSUM := Aside0.mk (HBE.out.up.sum HS.out HA.out hc')
                have HLT := Aside0.mk hlt
                obtain ⟨f, hf⟩ : ∃ f : Nat, rd (E a) (t : Int) = (f : Int) := ⟨(rd (E a) (t : Int)).toNat, by omega⟩
                have HF := Aside0.mk hf
                rw [hf] at hx0 hc' hpl HSUM HAT
                have HAT2 := Aside0.mk (fun hg => HAT.out f hg rfl)
                have HSM := Aside0.mk (spec_small HS.out HN.out hc')
                have HPV := Aside0.mk (show pieceV C ((a : Int), (f : Int)) = c' by unfold pieceV; rw [hc']; rfl)
                have hws : wrap64 (c' + rd xs (f : Int)) = c' + rd xs (f : Int) := by
                  have h1 := HSUM.out
                  have h2 := HN.out
                  unfold wrap64
                  omega
                have HFK := Aside0.mk (show f < k by have := HK.out; omega)
                have HFP := Aside0.mk hpl
                have hfk : (f : Int) < (k : Int) := by have := HFK.out; omega
                have hfk2 : (f < k) = True := eq_true HFK.out
                subst ea
                clear hf hc' hpl hlt HAT HSUM
                have HYES := Aside0.mk (show goes false C xs a (f : Int) = true → pathL (nextF false C E xs) N N a = (f : Int) :: pathL (nextF false C E xs) N N f from fun hg => by
                  have e := HAT2.out hg
                  rw [pathL_step (fun a ha => (HNX.out a ha).2) HA.out, e])
                go_upto_region 12 with fail
                have HO8 := Aside0.mk (Kd.R_drew HO.out)
                have HB8 := Aside0.mk (below_step HB.out (below_drew (Below.refl _ _)))
                clear HO HB hx0
                have HGV := Aside0.mk (show goes false C xs a (f : Int) = decide (c' + rd xs (f : Int) = rd xs (a : Int)) by unfold goes; rw [HPV.out]; rfl)
                by_cases heq : c' + rd xs (f : Int) = rd xs (a : Int)
                · have HGO := Aside0.mk (HYES.out (by rw [HGV.out]; exact decide_eq_true heq))
                  have hws2 : wrap64 (rd xs (a : Int)) = rd xs (a : Int) := by rw [← heq]; exact hws
                  refine wp_region_noPanic ?_
                  refine start_ (n := 17) (S := fun w' => w'.cell? ⟨g, f, none⟩ = some (.int .i64 (rd xs (f : Int))) ∧ w'.cell? ⟨g, a, none⟩ = some (.int .i64 (rd xs (a : Int)))) (ds := []) #[false, false, false, false, false, false, false, false, false, false, false, false, false, false, false, false, false] (by kernel_rfl) rfl rfl ⟨(R_cellg (Kd.R_below HX2.out HB8.out) f HFK.out).1, (R_cellg (Kd.R_below HX2.out HB8.out) a HAK.out).1⟩ (fun hHeld => ?_); refine with_tabW best_tab12 best_bits12 (fun HT_ HW_ => ?_)
                  obtain ⟨W8, hW_⟩ : ∃ w, wr.drew = w := ⟨_, rfl⟩
                  rw [hW_] at HO8 HB8 hHeld ⊢
                  clear hW_
                  refine pure_ (i := 0) (N := some 52) (v := ?_) (a' := ?_) #[true, false, false, false, false, false, false, false, false, false, false, false, false, false, false, false, false] rfl rfl (any_of HT_.out (by kernel_rfl)) (fun _ _ _ h => h) (Or.inl ⟨by rfl, ?_⟩) ?_ ?_
                  rotate_left
                  · intro w'
                    go_simp
                    with_reducible rfl
                  rotate_left
                  · simp only [Act.put, List.setIfInBounds_toArray, List.set_cons_zero, List.set_cons_succ, i64_w, i32_w]
                    rfl
                  refine pure_ (i := 1) (N := some 53) (v := ?_) (a' := ?_) #[true, true, false, false, false, false, false, false, false, false, false, false, false, false, false, false, false] rfl rfl (any_of HT_.out (by kernel_rfl)) (fun _ _ _ h => h) (Or.inl ⟨by rfl, ?_⟩) ?_ ?_
                  rotate_left
                  · intro w'
                    go_simp
                    with_reducible rfl
                  rotate_left
                  · simp only [Act.put, List.setIfInBounds_toArray, List.set_cons_zero, List.set_cons_succ, i64_w, i32_w]
                    rfl
                  refine pure_ (i := 2) (N := some 54) (v := ?_) (a' := ?_) #[true, true, true, false, false, false, false, false, false, false, false, false, false, false, false, false, false] rfl rfl (any_of HT_.out (by kernel_rfl)) (fun _ _ _ h => h) (Or.inl ⟨by rfl, ?_⟩) ?_ ?_
                  rotate_left
                  · intro w'
                    go_simp
                    with_reducible rfl
                  rotate_left
                  · simp only [Act.put, List.setIfInBounds_toArray, List.set_cons_zero, List.set_cons_succ, i64_w, i32_w]
                    rfl
                  refine pure_ (i := 3) (N := some 55) (v := ?_) (a' := ?_) #[true, true, true, true, false, false, false, false, false, false, false, false, false, false, false, false, false] rfl rfl (any_of HT_.out (by kernel_rfl)) (fun _ _ _ h => h) (Or.inl ⟨by rfl, ?_⟩) ?_ ?_
                  rotate_left
                  · intro w'
                    go_simp
                    with_reducible rfl
                  rotate_left
                  · simp only [Act.put, List.setIfInBounds_toArray, List.set_cons_zero, List.set_cons_succ, i64_w, i32_w]
                    rfl
                  refine pure_ (i := 4) (N := some 56) (v := ?_) (a' := ?_) #[true, true, true, true, true, false, false, false, false, false, false, false, false, false, false, false, false] rfl rfl (any_of HT_.out (by kernel_rfl)) (fun _ _ _ h => h) (Or.inl ⟨by rfl, ?_⟩) ?_ ?_
                  rotate_left
                  · intro w'
                    go_simp
                    with_reducible rfl
                  rotate_left
                  · simp only [Act.put, List.setIfInBounds_toArray, List.set_cons_zero, List.set_cons_succ, i64_w, i32_w]
                    rfl
                  refine pure_ (i := 6) (N := some 58) (v := ?_) (a' := ?_) #[true, true, true, true, true, false, true, false, false, false, false, false, false, false, false, false, false] rfl rfl (any_of HT_.out (by kernel_rfl)) (fun _ _ _ h => h) (Or.inl ⟨by rfl, ?_⟩) ?_ ?_
                  rotate_left
                  · intro w'
                    go_simp
                    with_reducible rfl
                  rotate_left
                  · simp only [Act.put, List.setIfInBounds_toArray, List.set_cons_zero, List.set_cons_succ, i64_w, i32_w]
                    rfl
                  refine pure_ (i := 7) (N := some 59) (v := ?_) (a' := ?_) #[true, true, true, true, true, false, true, true, false, false, false, false, false, false, false, false, false] rfl rfl (any_of HT_.out (by kernel_rfl)) (fun _ _ _ h => h) (Or.inl ⟨by rfl, ?_⟩) ?_ ?_
                  rotate_left
                  · intro w'
                    go_simp
                    with_reducible rfl
                  rotate_left
                  · simp only [Act.put, List.setIfInBounds_toArray, List.set_cons_zero, List.set_cons_succ, i64_w, i32_w]
                    rfl
                  refine pure_ (i := 8) (N := some 60) (v := ?_) (a' := ?_) #[true, true, true, true, true, false, true, true, true, false, false, false, false, false, false, false, false] rfl rfl (any_of HT_.out (by kernel_rfl)) (fun _ _ _ h => h) (Or.inl ⟨by rfl, ?_⟩) ?_ ?_
                  rotate_left
                  · intro w'
                    go_simp
                    with_reducible rfl
                  rotate_left
                  · simp only [Act.put, List.setIfInBounds_toArray, List.set_cons_zero, List.set_cons_succ, i64_w, i32_w]
                    rfl
                  refine take_ (i := 9) (N := some 61) (v := ?_) (a' := ?_) #[true, true, true, true, true, false, true, true, true, true, false, false, false, false, false, false, false] rfl rfl (take_ofW HT_.out HW_.out (by kernel_rfl)) (fun _ _ _ h => h) (Or.inl ⟨by rfl, ?_⟩) hHeld ?_ ?_
                  rotate_left
                  · rintro w' ⟨s0, s1⟩
                    go_simp
                    with_reducible rfl
                  rotate_left
                  · simp only [Act.put, List.setIfInBounds_toArray, List.set_cons_zero, List.set_cons_succ, i64_w, i32_w]
                    rfl
                  refine pure_ (i := 11) (N := some 63) (v := ?_) (a' := ?_) #[true, true, true, true, true, false, true, true, true, true, false, true, false, false, false, false, false] rfl rfl (any_of HT_.out (by kernel_rfl)) (fun _ _ _ h => h) (Or.inl ⟨by rfl, ?_⟩) ?_ ?_
                  rotate_left
                  · intro w'
                    go_simp
                    with_reducible rfl
                  rotate_left
                  · simp only [Act.put, List.setIfInBounds_toArray, List.set_cons_zero, List.set_cons_succ, i64_w, i32_w]
                    rfl
                  refine pure_ (i := 12) (N := some 64) (v := ?_) (a' := ?_) #[true, true, true, true, true, false, true, true, true, true, false, true, true, false, false, false, false] rfl rfl (any_of HT_.out (by kernel_rfl)) (fun _ _ _ h => h) (Or.inl ⟨by rfl, ?_⟩) ?_ ?_
                  rotate_left
                  · intro w'
                    go_simp
                    with_reducible rfl
                  rotate_left
                  · simp only [Act.put, List.setIfInBounds_toArray, List.set_cons_zero, List.set_cons_succ, i64_w, i32_w]
                    rfl
                  refine pure_ (i := 13) (N := some 65) (v := ?_) (a' := ?_) #[true, true, true, true, true, false, true, true, true, true, false, true, true, true, false, false, false] rfl rfl (any_of HT_.out (by kernel_rfl)) (fun _ _ _ h => h) (Or.inl ⟨by rfl, ?_⟩) ?_ ?_
                  rotate_left
                  · intro w'
                    go_simp
                    with_reducible rfl
                  rotate_left
                  · simp only [Act.put, List.setIfInBounds_toArray, List.set_cons_zero, List.set_cons_succ, i64_w, i32_w]
                    rfl
                  refine take_ (i := 14) (N := some 66) (v := ?_) (a' := ?_) #[true, true, true, true, true, false, true, true, true, true, false, true, true, true, true, false, false] rfl rfl (take_ofW HT_.out HW_.out (by kernel_rfl)) (fun _ _ _ h => h) (Or.inl ⟨by rfl, ?_⟩) hHeld ?_ ?_
                  rotate_left
                  · rintro w' ⟨s0, s1⟩
                    go_simp
                    with_reducible rfl
                  rotate_left
                  · simp only [Act.put, List.setIfInBounds_toArray, List.set_cons_zero, List.set_cons_succ, i64_w, i32_w]
                    rfl
                  refine one_ (i := 5) (N := some 57) #[true, true, true, true, true, true, true, true, true, true, false, true, true, true, true, false, false] rfl rfl (one_of HT_.out (by kernel_rfl)) (by decide) (fun K hK => ?_)
                  refine goes_ Try.func19 (by kernel_rfl) rfl #[.pointer (some ⟨RB, 0, none⟩), .int .i64 a, .int .i64 f] (by rfl) rfl rfl (by (try simp only [List.map_toArray, List.map_cons, List.map_nil]); first | done | rfl) ?_
                  refine (piece_calls _ _ W8 (HI2.out.later HB8.out) HSM.out).mono ?_
                  rintro e w_ ⟨rfl, hw⟩
                  replace hw := hw.symm
                  subst hw
                  refine ⟨_, rfl, ?_⟩
                  rw [HPV.out]
                  refine hK.out _ _ ⟨(R_cellg (Kd.R_below HX2.out HB8.out) f HFK.out).1, (R_cellg (Kd.R_below HX2.out HB8.out) a HAK.out).1⟩ (fun hHeld => ?_)
                  clear hK K
                  refine norm_ (a' := ?_) ?_ ?_
                  rotate_left
                  · show Act.put _ (some 57) _ = _
                    simp only [Act.put, List.setIfInBounds_toArray, List.set_cons_zero, List.set_cons_succ, i64_w, i32_w]
                    rfl
                  refine pure_ (i := 10) (N := some 62) (v := ?_) (a' := ?_) #[true, true, true, true, true, true, true, true, true, true, true, true, true, true, true, false, false] rfl rfl (any_of HT_.out (by kernel_rfl)) (fun _ _ _ h => h) (Or.inl ⟨by rfl, ?_⟩) ?_ ?_
                  rotate_left
                  · intro w'
                    go_simp
                    with_reducible rfl
                  rotate_left
                  · simp only [Act.put, List.setIfInBounds_toArray, List.set_cons_zero, List.set_cons_succ, i64_w, i32_w]
                    rfl
                  refine pure_ (i := 15) (N := some 67) (v := ?_) (a' := ?_) #[true, true, true, true, true, true, true, true, true, true, true, true, true, true, true, true, false] rfl rfl (any_of HT_.out (by kernel_rfl)) (fun _ _ _ h => h) (Or.inl ⟨by rfl, ?_⟩) ?_ ?_
                  rotate_left
                  · intro w'
                    go_simp
                    with_reducible rfl
                  rotate_left
                  · simp only [Act.put, List.setIfInBounds_toArray, List.set_cons_zero, List.set_cons_succ, i64_w, i32_w]
                    rfl
                  refine pure_ (i := 16) (N := some 68) (v := ?_) (a' := ?_) #[true, true, true, true, true, true, true, true, true, true, true, true, true, true, true, true, true] rfl rfl (any_of HT_.out (by kernel_rfl)) (fun _ _ _ h => h) (Or.inl ⟨by rfl, ?_⟩) ?_ ?_
                  rotate_left
                  · intro w'
                    go_simp
                    with_reducible rfl
                  rotate_left
                  · simp only [Act.put, List.setIfInBounds_toArray, List.set_cons_zero, List.set_cons_succ, i64_w, i32_w]
                    rfl
                  refine done_ (done_of HT_.out (by kernel_rfl)) ?_
                  refine NoPanic.normal ?_
                  clear HT_ HW_ hHeld
                  go_wp2_with (at_builtin; go_loud (refine Kd.R_append (Kd.int .i64) (w0 := W2) W2.heap.size rfl (.tmp 69) (.tmp 71) 25 3 (.int .i64 0) 8 rfl Try.underlying25 info3 rfl (by decide) (by omega) _ out (f : Int) [.int .i64 f] (fun _ => True) (fun _ => False) rfl rfl rfl (fun k hk => hk.elim) (fun k hk => trivial) HO8.out HB8.out HB8.out.size (by have := HOL.out; have := HA.out; have := HN.out; omega) ?_; intro v11 w11 hR11 hB11 hg11 hat11; have HO13 := Aside0.mk hR11; have HB13 := Aside0.mk hB11; clear hR11 hB11 hg11 hat11))
                  go_roundg (g1 - 1)
                  case measure => have := HGK.out; have := HG1.out; omega
                  case rel => exact ⟨f, out ++ [(f : Int)], rfl, by have := HFP.out; omega, by have := HFP.out; have := HGK.out; omega, HO13, ⟨by rw [List.append_assoc, List.singleton_append, ← HGO.out]; exact HPT.out⟩, ⟨by rw [List.length_append, List.length_singleton]; have := HOL.out; have := HFP.out; omega⟩, HB13⟩
                · have HNG := Aside0.mk (show goes false C xs a (f : Int) = false by rw [HGV.out]; exact decide_eq_false heq)
                  have HNO2 := Aside0.mk (show ∀ s : Nat, s < t + 1 → goes false C xs a (rd (E a) (s : Int)) = false from fun s hs => by
                    by_cases e : s = t
                    · rw [e, HF.out]; exact HNG.out
                    · exact HNO.out s (by omega))
                  refine wp_region_noPanic ?_
                  refine start_ (n := 17) (S := fun w' => w'.cell? ⟨g, f, none⟩ = some (.int .i64 (rd xs (f : Int))) ∧ w'.cell? ⟨g, a, none⟩ = some (.int .i64 (rd xs (a : Int)))) (ds := []) #[false, false, false, false, false, false, false, false, false, false, false, false, false, false, false, false, false] (by kernel_rfl) rfl rfl ⟨(R_cellg (Kd.R_below HX2.out HB8.out) f HFK.out).1, (R_cellg (Kd.R_below HX2.out HB8.out) a HAK.out).1⟩ (fun hHeld => ?_); refine with_tabW best_tab12 best_bits12 (fun HT_ HW_ => ?_)
                  obtain ⟨W8, hW_⟩ : ∃ w, wr.drew = w := ⟨_, rfl⟩
                  rw [hW_] at HO8 HB8 hHeld ⊢
                  clear hW_
                  refine pure_ (i := 0) (N := some 52) (v := ?_) (a' := ?_) #[true, false, false, false, false, false, false, false, false, false, false, false, false, false, false, false, false] rfl rfl (any_of HT_.out (by kernel_rfl)) (fun _ _ _ h => h) (Or.inl ⟨by rfl, ?_⟩) ?_ ?_
                  rotate_left
                  · intro w'
                    go_simp
                    with_reducible rfl
                  rotate_left
                  · simp only [Act.put, List.setIfInBounds_toArray, List.set_cons_zero, List.set_cons_succ, i64_w, i32_w]
                    rfl
                  refine pure_ (i := 1) (N := some 53) (v := ?_) (a' := ?_) #[true, true, false, false, false, false, false, false, false, false, false, false, false, false, false, false, false] rfl rfl (any_of HT_.out (by kernel_rfl)) (fun _ _ _ h => h) (Or.inl ⟨by rfl, ?_⟩) ?_ ?_
                  rotate_left
                  · intro w'
                    go_simp
                    with_reducible rfl
                  rotate_left
                  · simp only [Act.put, List.setIfInBounds_toArray, List.set_cons_zero, List.set_cons_succ, i64_w, i32_w]
                    rfl
                  refine pure_ (i := 2) (N := some 54) (v := ?_) (a' := ?_) #[true, true, true, false, false, false, false, false, false, false, false, false, false, false, false, false, false] rfl rfl (any_of HT_.out (by kernel_rfl)) (fun _ _ _ h => h) (Or.inl ⟨by rfl, ?_⟩) ?_ ?_
                  rotate_left
                  · intro w'
                    go_simp
                    with_reducible rfl
                  rotate_left
                  · simp only [Act.put, List.setIfInBounds_toArray, List.set_cons_zero, List.set_cons_succ, i64_w, i32_w]
                    rfl
                  refine pure_ (i := 3) (N := some 55) (v := ?_) (a' := ?_) #[true, true, true, true, false, false, false, false, false, false, false, false, false, false, false, false, false] rfl rfl (any_of HT_.out (by kernel_rfl)) (fun _ _ _ h => h) (Or.inl ⟨by rfl, ?_⟩) ?_ ?_
                  rotate_left
                  · intro w'
                    go_simp
                    with_reducible rfl
                  rotate_left
                  · simp only [Act.put, List.setIfInBounds_toArray, List.set_cons_zero, List.set_cons_succ, i64_w, i32_w]
                    rfl
                  refine pure_ (i := 4) (N := some 56) (v := ?_) (a' := ?_) #[true, true, true, true, true, false, false, false, false, false, false, false, false, false, false, false, false] rfl rfl (any_of HT_.out (by kernel_rfl)) (fun _ _ _ h => h) (Or.inl ⟨by rfl, ?_⟩) ?_ ?_
                  rotate_left
                  · intro w'
                    go_simp
                    with_reducible rfl
                  rotate_left
                  · simp only [Act.put, List.setIfInBounds_toArray, List.set_cons_zero, List.set_cons_succ, i64_w, i32_w]
                    rfl
                  refine pure_ (i := 6) (N := some 58) (v := ?_) (a' := ?_) #[true, true, true, true, true, false, true, false, false, false, false, false, false, false, false, false, false] rfl rfl (any_of HT_.out (by kernel_rfl)) (fun _ _ _ h => h) (Or.inl ⟨by rfl, ?_⟩) ?_ ?_
                  rotate_left
                  · intro w'
                    go_simp
                    with_reducible rfl
                  rotate_left
                  · simp only [Act.put, List.setIfInBounds_toArray, List.set_cons_zero, List.set_cons_succ, i64_w, i32_w]
                    rfl
                  refine pure_ (i := 7) (N := some 59) (v := ?_) (a' := ?_) #[true, true, true, true, true, false, true, true, false, false, false, false, false, false, false, false, false] rfl rfl (any_of HT_.out (by kernel_rfl)) (fun _ _ _ h => h) (Or.inl ⟨by rfl, ?_⟩) ?_ ?_
                  rotate_left
                  · intro w'
                    go_simp
                    with_reducible rfl
                  rotate_left
                  · simp only [Act.put, List.setIfInBounds_toArray, List.set_cons_zero, List.set_cons_succ, i64_w, i32_w]
                    rfl
                  refine pure_ (i := 8) (N := some 60) (v := ?_) (a' := ?_) #[true, true, true, true, true, false, true, true, true, false, false, false, false, false, false, false, false] rfl rfl (any_of HT_.out (by kernel_rfl)) (fun _ _ _ h => h) (Or.inl ⟨by rfl, ?_⟩) ?_ ?_
                  rotate_left
                  · intro w'
                    go_simp
                    with_reducible rfl
                  rotate_left
                  · simp only [Act.put, List.setIfInBounds_toArray, List.set_cons_zero, List.set_cons_succ, i64_w, i32_w]
                    rfl
                  refine take_ (i := 9) (N := some 61) (v := ?_) (a' := ?_) #[true, true, true, true, true, false, true, true, true, true, false, false, false, false, false, false, false] rfl rfl (take_ofW HT_.out HW_.out (by kernel_rfl)) (fun _ _ _ h => h) (Or.inl ⟨by rfl, ?_⟩) hHeld ?_ ?_
                  rotate_left
                  · rintro w' ⟨s0, s1⟩
                    go_simp
                    with_reducible rfl
                  rotate_left
                  · simp only [Act.put, List.setIfInBounds_toArray, List.set_cons_zero, List.set_cons_succ, i64_w, i32_w]
                    rfl
                  refine pure_ (i := 11) (N := some 63) (v := ?_) (a' := ?_) #[true, true, true, true, true, false, true, true, true, true, false, true, false, false, false, false, false] rfl rfl (any_of HT_.out (by kernel_rfl)) (fun _ _ _ h => h) (Or.inl ⟨by rfl, ?_⟩) ?_ ?_
                  rotate_left
                  · intro w'
                    go_simp
                    with_reducible rfl
                  rotate_left
                  · simp only [Act.put, List.setIfInBounds_toArray, List.set_cons_zero, List.set_cons_succ, i64_w, i32_w]
                    rfl
                  refine pure_ (i := 12) (N := some 64) (v := ?_) (a' := ?_) #[true, true, true, true, true, false, true, true, true, true, false, true, true, false, false, false, false] rfl rfl (any_of HT_.out (by kernel_rfl)) (fun _ _ _ h => h) (Or.inl ⟨by rfl, ?_⟩) ?_ ?_
                  rotate_left
                  · intro w'
                    go_simp
                    with_reducible rfl
                  rotate_left
                  · simp only [Act.put, List.setIfInBounds_toArray, List.set_cons_zero, List.set_cons_succ, i64_w, i32_w]
                    rfl
                  refine pure_ (i := 13) (N := some 65) (v := ?_) (a' := ?_) #[true, true, true, true, true, false, true, true, true, true, false, true, true, true, false, false, false] rfl rfl (any_of HT_.out (by kernel_rfl)) (fun _ _ _ h => h) (Or.inl ⟨by rfl, ?_⟩) ?_ ?_
                  rotate_left
                  · intro w'
                    go_simp
                    with_reducible rfl
                  rotate_left
                  · simp only [Act.put, List.setIfInBounds_toArray, List.set_cons_zero, List.set_cons_succ, i64_w, i32_w]
                    rfl
                  refine take_ (i := 14) (N := some 66) (v := ?_) (a' := ?_) #[true, true, true, true, true, false, true, true, true, true, false, true, true, true, true, false, false] rfl rfl (take_ofW HT_.out HW_.out (by kernel_rfl)) (fun _ _ _ h => h) (Or.inl ⟨by rfl, ?_⟩) hHeld ?_ ?_
                  rotate_left
                  · rintro w' ⟨s0, s1⟩
                    go_simp
                    with_reducible rfl
                  rotate_left
                  · simp only [Act.put, List.setIfInBounds_toArray, List.set_cons_zero, List.set_cons_succ, i64_w, i32_w]
                    rfl
                  refine one_ (i := 5) (N := some 57) #[true, true, true, true, true, true, true, true, true, true, false, true, true, true, true, false, false] rfl rfl (one_of HT_.out (by kernel_rfl)) (by decide) (fun K hK => ?_)
                  refine goes_ Try.func19 (by kernel_rfl) rfl #[.pointer (some ⟨RB, 0, none⟩), .int .i64 a, .int .i64 f] (by rfl) rfl rfl (by (try simp only [List.map_toArray, List.map_cons, List.map_nil]); first | done | rfl) ?_
                  refine (piece_calls _ _ W8 (HI2.out.later HB8.out) HSM.out).mono ?_
                  rintro e w_ ⟨rfl, hw⟩
                  replace hw := hw.symm
                  subst hw
                  refine ⟨_, rfl, ?_⟩
                  rw [HPV.out]
                  refine hK.out _ _ ⟨(R_cellg (Kd.R_below HX2.out HB8.out) f HFK.out).1, (R_cellg (Kd.R_below HX2.out HB8.out) a HAK.out).1⟩ (fun hHeld => ?_)
                  clear hK K
                  refine norm_ (a' := ?_) ?_ ?_
                  rotate_left
                  · show Act.put _ (some 57) _ = _
                    simp only [Act.put, List.setIfInBounds_toArray, List.set_cons_zero, List.set_cons_succ, i64_w, i32_w]
                    rfl
                  refine pure_ (i := 10) (N := some 62) (v := ?_) (a' := ?_) #[true, true, true, true, true, true, true, true, true, true, true, true, true, true, true, false, false] rfl rfl (any_of HT_.out (by kernel_rfl)) (fun _ _ _ h => h) (Or.inl ⟨by rfl, ?_⟩) ?_ ?_
                  rotate_left
                  · intro w'
                    go_simp
                    with_reducible rfl
                  rotate_left
                  · simp only [Act.put, List.setIfInBounds_toArray, List.set_cons_zero, List.set_cons_succ, i64_w, i32_w]
                    rfl
                  refine pure_ (i := 15) (N := some 67) (v := ?_) (a' := ?_) #[true, true, true, true, true, true, true, true, true, true, true, true, true, true, true, true, false] rfl rfl (any_of HT_.out (by kernel_rfl)) (fun _ _ _ h => h) (Or.inl ⟨by rfl, ?_⟩) ?_ ?_
                  rotate_left
                  · intro w'
                    go_simp
                    with_reducible rfl
                  rotate_left
                  · simp only [Act.put, List.setIfInBounds_toArray, List.set_cons_zero, List.set_cons_succ, i64_w, i32_w]
                    rfl
                  refine pure_ (i := 16) (N := some 68) (v := ?_) (a' := ?_) #[true, true, true, true, true, true, true, true, true, true, true, true, true, true, true, true, true] rfl rfl (any_of HT_.out (by kernel_rfl)) (fun _ _ _ h => h) (Or.inl ⟨by rfl, ?_⟩) ?_ ?_
                  rotate_left
                  · intro w'
                    go_simp
                    with_reducible rfl
                  rotate_left
                  · simp only [Act.put, List.setIfInBounds_toArray, List.set_cons_zero, List.set_cons_succ, i64_w, i32_w]
                    rfl
                  refine done_ (done_of HT_.out (by kernel_rfl)) ?_
                  refine NoPanic.normal ?_
                  clear HT_ HW_ hHeld
                  go_wp2_with fail
                  go_roundg (gk - 1)
                  case measure => omega
                  case rel => exact ⟨t + 1, rfl, by have := HS.out.len a; have := HLT.out; first | rfl | rw [wrap_succ (by omega)], by have := HLT.out; omega, by have := HLT.out; omega, HNO2, HO8, HB8⟩
              · have hno : False := by
                  obtain ⟨x, hx, hg⟩ := goes_ex (cap := false) HS.out HBE.out HA.out
                  obtain ⟨s, hs, e⟩ := List.getElem_of_mem hx
                  have h1 := HNO.out s (by omega)
                  unfold rd at h1
                  rw [Int.toNat_natCast, List.getD_eq_getElem?_getD, List.getElem?_eq_getElem hs, Option.getD_some, e, hg] at h1
                  cases h1
                exact hno.elim
          · obtain rfl : a = N := by omega
            have hltz : ¬ (a : Int) < n := by have := HNN.out; omega
            have HPE := Aside0.mk (show out = 0 :: pathL (nextF false C E xs) a a 0 by have h := HPT.out; rw [pathL_end (Nat.le_refl _), List.append_nil] at h; exact h)
            clear hlt
            go_upto_region 15 with fail
            have HO9 := Aside0.mk (Kd.R_drew HO.out)
            have HB9 := Aside0.mk (below_step HB3.out (below_drew (Below.refl _ _)))
            clear HO HB3
            refine wp_region_noPanic ?_
            refine start_ (n := 9) (S := fun w' => w'.cell? ⟨g, 0, none⟩ = some (.int .i64 x0)) (ds := []) #[false, false, false, false, false, false, false, false, false] (by kernel_rfl) rfl rfl (by have h := (R_cellg (Kd.R_below HX2.out HB9.out) 0 (by have := HK.out; omega)).1; rw [show ((0 : Nat) : Int) = 0 from rfl, HX0.out] at h; exact h) (fun hHeld => ?_); refine with_tabW best_tab15 best_bits15 (fun HT_ HW_ => ?_)
            obtain ⟨W9, hW_⟩ : ∃ w, wr.drew = w := ⟨_, rfl⟩
            rw [hW_] at HO9 HB9 hHeld ⊢
            clear hW_
            have hk0 : (0 < k) = True := eq_true (by have := HK.out; omega)
            have hk0i : (0 : Int) < (k : Int) := by have := HK.out; omega
            refine pure_ (i := 0) (N := some 75) (v := ?_) (a' := ?_) #[true, false, false, false, false, false, false, false, false] rfl rfl (any_of HT_.out (by kernel_rfl)) (fun _ _ _ h => h) (Or.inl ⟨by rfl, ?_⟩) ?_ ?_
            rotate_left
            · intro w'
              go_simp
              with_reducible rfl
            rotate_left
            · simp only [Act.put, List.setIfInBounds_toArray, List.set_cons_zero, List.set_cons_succ, i64_w, i32_w]
              rfl
            refine pure_ (i := 1) (N := some 76) (v := ?_) (a' := ?_) #[true, true, false, false, false, false, false, false, false] rfl rfl (any_of HT_.out (by kernel_rfl)) (fun _ _ _ h => h) (Or.inl ⟨by rfl, ?_⟩) ?_ ?_
            rotate_left
            · intro w'
              go_simp
              with_reducible rfl
            rotate_left
            · simp only [Act.put, List.setIfInBounds_toArray, List.set_cons_zero, List.set_cons_succ, i64_w, i32_w]
              rfl
            refine pure_ (i := 2) (N := some 77) (v := ?_) (a' := ?_) #[true, true, true, false, false, false, false, false, false] rfl rfl (any_of HT_.out (by kernel_rfl)) (fun _ _ _ h => h) (Or.inl ⟨by rfl, ?_⟩) ?_ ?_
            rotate_left
            · intro w'
              go_simp
              with_reducible rfl
            rotate_left
            · simp only [Act.put, List.setIfInBounds_toArray, List.set_cons_zero, List.set_cons_succ, i64_w, i32_w]
              rfl
            refine take_ (i := 3) (N := some 78) (v := ?_) (a' := ?_) #[true, true, true, true, false, false, false, false, false] rfl rfl (take_ofW HT_.out HW_.out (by kernel_rfl)) (fun _ _ _ h => h) (Or.inl ⟨by rfl, ?_⟩) hHeld ?_ ?_
            rotate_left
            · rintro w' s0
              go_simp
              with_reducible rfl
            rotate_left
            · simp only [Act.put, List.setIfInBounds_toArray, List.set_cons_zero, List.set_cons_succ, i64_w, i32_w]
              rfl
            refine pure_ (i := 4) (N := some 79) (v := ?_) (a' := ?_) #[true, true, true, true, true, false, false, false, false] rfl rfl (any_of HT_.out (by kernel_rfl)) (fun _ _ _ h => h) (Or.inl ⟨by rfl, ?_⟩) ?_ ?_
            rotate_left
            · intro w'
              go_simp
              with_reducible rfl
            rotate_left
            · simp only [Act.put, List.setIfInBounds_toArray, List.set_cons_zero, List.set_cons_succ, i64_w, i32_w]
              rfl
            refine pure_ (i := 5) (N := some 80) (v := ?_) (a' := ?_) #[true, true, true, true, true, true, false, false, false] rfl rfl (any_of HT_.out (by kernel_rfl)) (fun _ _ _ h => h) (Or.inl ⟨by rfl, ?_⟩) ?_ ?_
            rotate_left
            · intro w'
              go_simp
              with_reducible rfl
            rotate_left
            · simp only [Act.put, List.setIfInBounds_toArray, List.set_cons_zero, List.set_cons_succ, i64_w, i32_w]
              rfl
            refine pure_ (i := 6) (N := some 8) (v := ?_) (a' := ?_) #[true, true, true, true, true, true, true, false, false] rfl rfl (any_of HT_.out (by kernel_rfl)) (fun _ _ _ h => h) (Or.inl ⟨by rfl, ?_⟩) ?_ ?_
            rotate_left
            · intro w'
              go_simp
              with_reducible rfl
            rotate_left
            · simp only [Act.put, List.setIfInBounds_toArray, List.set_cons_zero, List.set_cons_succ, i64_w, i32_w]
              rfl
            refine pure_ (i := 7) (N := some 9) (v := ?_) (a' := ?_) #[true, true, true, true, true, true, true, true, false] rfl rfl (any_of HT_.out (by kernel_rfl)) (fun _ _ _ h => h) (Or.inl ⟨by rfl, ?_⟩) ?_ ?_
            rotate_left
            · intro w'
              go_simp
              with_reducible rfl
            rotate_left
            · simp only [Act.put, List.setIfInBounds_toArray, List.set_cons_zero, List.set_cons_succ, i64_w, i32_w]
              rfl
            refine pure_ (i := 8) (N := some 10) (v := ?_) (a' := ?_) #[true, true, true, true, true, true, true, true, true] rfl rfl (any_of HT_.out (by kernel_rfl)) (fun _ _ _ h => h) (Or.inl ⟨by rfl, ?_⟩) ?_ ?_
            rotate_left
            · intro w'
              go_simp
              with_reducible rfl
            rotate_left
            · simp only [Act.put, List.setIfInBounds_toArray, List.set_cons_zero, List.set_cons_succ, i64_w, i32_w]
              rfl
            refine done_ (done_of HT_.out (by kernel_rfl)) ?_
            refine NoPanic.normal ?_
            clear HT_ HW_ hHeld
            go_wp2_with fail
            go_ret3
            refine ⟨HB2.out.trans (HB9.out.mono HB2.out.size), _, ?v2, HRI.out _ ⟨xs, HBE.out, rfl⟩, ?e2, ?r2⟩
            case e2 => rw [HX0.out]; rfl
            case r2 =>
              rw [HX0.out, HCAP.out, ← HPE.out]
              exact Kd.R_lower HO9.out HB2.out.size
end Go.Proofs.Ytckpjppbkfcaaaa.Print
