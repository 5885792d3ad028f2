/- thai.reach, Reach: how far words lead. -/
import Derived.Test.YtfmnbebkeefboaaEnds
namespace Go.Proofs.Ytfmnbebkeefboaa.Print
open Go.RowKit Go.Maps Go.Proofs.YtfmnbebkeefboaaW.PrintWords Go.Proofs.YtfmnbebkeefboaaW.PrintLast Go.Proofs.YtfmnbebkeefboaaW.PrintMore
set_option linter.unusedVariables false
set_option linter.unusedSimpArgs false

/-- The greatest of a number and of what g tells of a list's numbers. -/
def top (g : Int → Int) : Int → List Int → Int
  | m, [] => m
  | m, t :: r => top g (max m (g t)) r
theorem top_is (g : Int → Int) : ∀ (xs : List Int) (m : Int), m ≤ top g m xs ∧ (∀ t ∈ xs, g t ≤ top g m xs) ∧ (top g m xs = m ∨ ∃ t ∈ xs, top g m xs = g t)
  | [], m => ⟨Int.le_refl _, by simp, .inl rfl⟩
  | t :: r, m => by
    obtain ⟨h1, h2, h3⟩ := top_is g r (max m (g t))
    rw [top]
    refine ⟨by omega, fun u hu => ?_, ?_⟩
    · rcases List.mem_cons.1 hu with rfl | hu
      · omega
      · exact h2 u hu
    · rcases h3 with h3 | ⟨u, hu, h3⟩
      · by_cases q : m ≤ g t
        · exact .inr ⟨t, List.mem_cons_self .., by omega⟩
        · exact .inl (by omega)
      · exact .inr ⟨u, List.mem_cons_of_mem _ hu, h3⟩
/-- Only which numbers there are plays a part. -/
theorem top_congr (g : Int → Int) (m : Int) {xs ys : List Int} (h : ∀ t, t ∈ xs ↔ t ∈ ys) : top g m xs = top g m ys := by
  obtain ⟨a1, a2, a3⟩ := top_is g xs m
  obtain ⟨b1, b2, b3⟩ := top_is g ys m
  have h1 : top g m xs ≤ top g m ys := by
    rcases a3 with e | ⟨t, ht, e⟩
    · omega
    · have := b2 t ((h t).1 ht); omega
  have h2 : top g m ys ≤ top g m xs := by
    rcases b3 with e | ⟨t, ht, e⟩
    · omega
    · have := a2 t ((h t).2 ht); omega
  omega
theorem rdI_nat {xs : List Int} {i : Nat} (h : i < xs.length) : rd xs (i : Int) = xs[i] := by
  unfold rd
  rw [Int.toNat_natCast, List.getD_eq_getElem?_getD, List.getElem?_eq_getElem h]
  rfl
theorem rdI_mem {xs : List Int} {i : Nat} (h : i < xs.length) : rd xs (i : Int) ∈ xs := by rw [rdI_nat h]; exact List.getElem_mem h
theorem rdI_drop {xs : List Int} {i : Nat} (h : i < xs.length) : xs.drop i = rd xs (i : Int) :: xs.drop (i + 1) := by rw [List.drop_eq_getElem_cons h, rdI_nat h]
/-- How far at most k words lead from a place. -/
def reachT (T : Int → List Int) : Nat → Int → Int
  | 0, a => a
  | k + 1, a => top (reachT T k) a (T a)
/-- All places lie in a run. -/
def InRun (T : Int → List Int) : Prop := ∀ a t, t ∈ T a → 0 ≤ t ∧ t ≤ 5000
theorem reachT_in {T : Int → List Int} (h : InRun T) : ∀ (k : Nat) (a : Int), 0 ≤ a ∧ a ≤ 5000 → 0 ≤ reachT T k a ∧ reachT T k a ≤ 5000
  | 0, a, ha => ha
  | k + 1, a, ha => by
    rw [reachT]
    rcases (top_is (reachT T k) (T a) a).2.2 with e | ⟨t, ht, e⟩
    · rw [e]; exact ha
    · rw [e]; exact reachT_in h k t (h a t ht)
set_option maxHeartbeats 16000000 in
set_option maxRecDepth 100000 in
theorem reach_calls (base MB : Nat) (T : Int → List Int) (hT : InRun T) : ∀ (k : Nat) (w : Int) (a : Int) (W : World), w = k → k ≤ 1000 → 0 ≤ a ∧ a ≤ 5000 → EndsI base MB 100000 T W →
    Calls Try.prog 20 #[.map (some MB), .int .i64 a, .int .i64 w] W fun e w' => e = .returned (.int .i64 (reachT T k a)) ∧ Below W.heap.size W w'
  | 0, w, a, W, hw, hk, ha, hE => by
    have hw0 : (w == 0) = true := beq_iff_eq.2 hw
    clear hw
    go_enter Try.func20, Try.ntmps20
    go_wp2_with fail
    go_ret
    exact ⟨rfl, Below.refl _ _⟩
  | k + 1, w, a, W, hw, hk, ha, hE => by
    have HE := Aside0.mk hE
    have HA := Aside0.mk ha
    have HREC := Aside0.mk (reach_calls base MB T hT k)
    have HT := Aside0.mk hT
    obtain ⟨g, hg⟩ := hE
    obtain ⟨A, c, xs, hv, hR, hxl, hm⟩ := hg.get a
    have hlook := look_row hg.map (small_of (by omega)) hv
    have HR := Aside0.mk hR
    have HXL := Aside0.mk hxl
    have HM := Aside0.mk hm
    have HRES := Aside0.mk (show top (reachT T k) a xs = reachT T (k + 1) a by rw [reachT]; exact top_congr _ _ hm)
    clear hg hv hR hxl hm ha hT
    have hk0 : (w == 0) = false := beq_eq_false_iff_ne.2 (by omega)
    obtain ⟨w1, hw1⟩ : ∃ w1, w1 = w - 1 := ⟨_, rfl⟩
    have hk1 : wrap64 (w - 1) = w1 := by rw [hw1]; unfold wrap64; omega
    have HW1 := Aside0.mk (show w1 = (k : Int) by omega)
    have HK := Aside0.mk (show k ≤ 1000 by omega)
    clear hw hk hw1
    go_enter Try.func20, Try.ntmps20
    go_wp2_with fail
    go_loopg [7, 18] xs.length (fun kq v7 v18 w' => ∃ (i : Nat) (m : Int), v7 = .int .i64 m ∧ v18 = .int .i64 i ∧ Aside0 (i + kq = xs.length) ∧ Aside0 (top (reachT T k) m (xs.drop i) = reachT T (k + 1) a) ∧ Aside0 (Below W.heap.size W w'))
    case atStart => exact ⟨0, a, rfl, rfl, ⟨by omega⟩, ⟨by rw [List.drop_zero]; exact HRES.out⟩, ⟨Below.refl _ _⟩⟩
    case round =>
      obtain ⟨i, m, rfl, rfl, HG, HP, HB⟩ := hrel
      by_cases q : i < xs.length
      · have qb : decide ((i : Int) < (xs.length : Int)) = true := decide_eq_true (by omega)
        have q1 : ((i : Int) < (xs.length : Int)) = True := eq_true (by omega)
        have q2 : (i < xs.length) = True := eq_true q
        have HRr := Aside0.mk (Kd.R_below HR.out HB.out)
        obtain ⟨go, cap, cur, e0, _⟩ := own_form HRr.out (fun e => by rw [e] at q; simp at q)
        injection e0 with e1 _ e3
        subst e1
        subst e3
        have hx := (R_cellg HRr.out i q).1
        have HQ := Aside0.mk q
        have HTI := Aside0.mk (show 0 ≤ rd xs (i : Int) ∧ rd xs (i : Int) ≤ 5000 from HT.out a _ ((HM.out _).1 (rdI_mem q)))
        have HDR := Aside0.mk (show xs.drop i = rd xs (i : Int) :: xs.drop (i + 1) from rdI_drop q)
        obtain ⟨t, ht⟩ : ∃ t, rd xs (i : Int) = t := ⟨_, rfl⟩
        rw [ht] at hx HTI HDR
        have HP2 := Aside0.mk (show top (reachT T k) (max m (reachT T k t)) (xs.drop (i + 1)) = reachT T (k + 1) a by have h := HP.out; rw [HDR.out, top] at h; exact h)
        clear ht q
        go_wp2_with fail
        refine (HREC.out w1 t wr HW1.out HK.out HTI.out (HE.out.later HB.out)).mono ?_
        rintro e W1 ⟨rfl, hb1⟩
        have HB1 := Aside0.mk (below_step HB.out hb1)
        clear hb1 hx
        obtain ⟨rr, hrr⟩ : ∃ r, reachT T k t = r := ⟨_, rfl⟩
        rw [hrr] at HP2 ⊢
        clear hrr
        go_wp2_with fail
        go_roundg (gk - 1)
        case measure => have := HQ.out; have := HG.out; omega
        case rel => exact ⟨i + 1, max m rr, (by first | rfl | (simp; done)), (by first | rfl | (rw [wrap_succ (by have := HQ.out; have := HXL.out; omega)])), ⟨by have := HQ.out; have := HG.out; omega⟩, HP2, HB1⟩
      · obtain rfl : i = xs.length := by have := HG.out; omega
        have qb : decide ((xs.length : Int) < (xs.length : Int)) = false := decide_eq_false (by omega)
        rw [List.drop_length, top] at HP
        go_wp2_with fail
        go_ret
        exact ⟨by rw [← HP.out]; rfl, HB.out⟩
/-! ### Reach -/
structure EndsAll (n : Int) (l : List S31) (W : World) (e : Ending) (w' : World) : Prop where
  below : Below W.heap.size W w'
  is : (okT n l = false ∧ e = .returned (.tuple #[.map none, .bool false])) ∨ (okT n l = true ∧ ∃ MB, e = .returned (.tuple #[.map (some MB), .bool true]) ∧ EndsI W.heap.size MB 100000 (toL l) w')
theorem ends_calls (n : Int) (A : Option Addr) (c : Nat) (l : List S31) (W : World) (hr : Kd.C k31 W A l.length l) : Calls Try.prog 16 #[.int .i64 n, .slice A l.length c] W fun e w' => EndsAll n l W e w' := by
  cases h : limT n l.length with
  | false =>
    refine (ends_lim n A c l W h).mono fun e w' ⟨he, hb⟩ => ⟨hb, .inl ⟨by unfold okT; rw [h, Bool.false_and], he⟩⟩
  | true =>
    refine (ends_good n A c l W hr h).mono fun e w' ⟨hb, hp⟩ => ⟨hb, ?_⟩
    unfold okT
    rw [h, Bool.true_and]
    exact hp
theorem okT_in {n : Int} {l : List S31} (h : okT n l = true) : 0 ≤ n ∧ n ≤ 5000 ∧ InRun (toL l) := by
  unfold okT at h
  rw [Bool.and_eq_true] at h
  have h1 := limT_is h.1
  refine ⟨h1.1, h1.2.1, fun a t ht => ?_⟩
  unfold toL at ht
  obtain ⟨x, hx, rfl⟩ := List.mem_map.1 ht
  have := spanOk_is (List.all_eq_true.1 h.2 x (List.mem_filter.1 hx).1)
  omega
/-- What Reach answers. -/
def reachR (n : Int) (l : List S31) (a w : Int) : Int × Int := if okT n l && decide (0 ≤ a ∧ a ≤ n ∧ 0 ≤ w ∧ w ≤ 3) then (reachT (toL l) w.toNat a, 0) else (0, 1)
set_option maxHeartbeats 16000000 in
set_option maxRecDepth 100000 in
theorem thaiReach_calls (n a w : Int) (A : Option Addr) (c : Nat) (l : List S31) (W : World) (hr : Kd.C k31 W A l.length l) :
    Calls Try.prog 14 #[.int .i64 n, .slice A l.length c, .int .i64 a, .int .i64 w] W fun e w' => e = .returned (.tuple #[.int .i64 (reachR n l a w).1, .int .i64 (reachR n l a w).2]) ∧ Below W.heap.size W w' := by
  have HE := Aside0.mk (ends_calls n A c l W hr)
  clear hr
  obtain ⟨r, hr⟩ : ∃ r, reachR n l a w = r := ⟨_, rfl⟩
  rw [hr]
  have HR := Aside0.mk hr
  clear hr
  go_enter Try.func14, Try.ntmps14
  go_wp2_with fail
  refine HE.out.mono ?_
  rintro e W1 ⟨hb, ⟨ho, rfl⟩ | ⟨ho, MB, rfl, hi⟩⟩
  · have HB := Aside0.mk hb
    have HF := Aside0.mk (show r = (0, 1) by rw [← HR.out]; unfold reachR; rw [ho]; rfl)
    clear hb ho
    go_wp2_with fail
    go_ret2
    rw [HF.out]
    exact ⟨rfl, HB.out⟩
  · have HB := Aside0.mk hb
    have HI := Aside0.mk hi
    have HO := Aside0.mk ho
    clear hb ho hi
    by_cases q : 0 ≤ a ∧ a ≤ n ∧ 0 ≤ w ∧ w ≤ 3
    · have q0 : decide (a < 0) = false := decide_eq_false (by omega)
      have q1 : decide (n < a) = false := decide_eq_false (by omega)
      have q2 : decide (w < 0) = false := decide_eq_false (by omega)
      have q3 : decide (3 < w) = false := decide_eq_false (by omega)
      have HF := Aside0.mk (show r = (reachT (toL l) w.toNat a, 0) by rw [← HR.out]; unfold reachR; rw [HO.out, decide_eq_true q]; rfl)
      have HQ := Aside0.mk q
      clear q
      go_wp2_with fail
      refine (reach_calls W.heap.size MB (toL l) (okT_in HO.out).2.2 w.toNat w a W1 (by have := HQ.out; omega) (by have := HQ.out; omega) (by have := HQ.out; have := okT_in HO.out; omega) HI.out).mono ?_
      rintro e W2 ⟨rfl, hb2⟩
      have HB2 := Aside0.mk (below_step HB.out hb2)
      clear hb2
      obtain ⟨rr, hrr⟩ : ∃ x, reachT (toL l) w.toNat a = x := ⟨_, rfl⟩
      rw [hrr] at HF ⊢
      clear hrr
      go_wp2_with fail
      go_ret2
      rw [HF.out]
      exact ⟨rfl, HB2.out⟩
    · have HF := Aside0.mk (show r = (0, 1) by rw [← HR.out]; unfold reachR; rw [HO.out, decide_eq_false q]; rfl)
      by_cases g0 : a < 0
      · have q0 : decide (a < 0) = true := decide_eq_true g0
        clear q g0
        go_wp2_with fail
        go_ret2
        rw [HF.out]
        exact ⟨rfl, HB.out⟩
      have q0 : decide (a < 0) = false := decide_eq_false g0
      by_cases g1 : a > n
      · have q1 : decide (n < a) = true := decide_eq_true g1
        clear q g0 g1
        go_wp2_with fail
        go_ret2
        rw [HF.out]
        exact ⟨rfl, HB.out⟩
      have q1 : decide (n < a) = false := decide_eq_false g1
      by_cases g2 : w < 0
      · have q2 : decide (w < 0) = true := decide_eq_true g2
        clear q g0 g1 g2
        go_wp2_with fail
        go_ret2
        rw [HF.out]
        exact ⟨rfl, HB.out⟩
      have q2 : decide (w < 0) = false := decide_eq_false g2
      have q3 : decide (3 < w) = true := decide_eq_true (by omega)
      clear q g0 g1 g2
      go_wp2_with fail
      go_ret2
      rw [HF.out]
      exact ⟨rfl, HB.out⟩
end Go.Proofs.Ytfmnbebkeefboaa.Print
