/- The contract of subset.Right (its two closures, slices.ContainsFunc and slices.IndexFunc walked by hand). -/
import Derived.Test.YtadhjjfodpmelaaPrint0
import Derived.Shelf.Abstract
import Derived.Laws.EntriesVeiled
namespace Go.Proofs.Ytadhjjfodpmelaa.Print
open Go.RowKit Go.Shelf Go.Proofs.YtadhjjfodpmelaaW.PrintWords Go.Proofs.YtadhjjfodpmelaaW.PrintLast Go.Proofs.YtadhjjfodpmelaaW.PrintMore
set_option linter.unusedVariables false
set_option linter.unusedSimpArgs false

/-- Not a state's number. -/
def odd (n s : Int) : Bool := decide (s < 0) || decide (n ≤ s)
/-- Not a row of so many classes. -/
def badRow (n m : Int) (row : List Int) : Bool := ((row.length : Int) != m) || row.any (odd n)
/-- The place of the first one; -1: there is none. -/
def idxFn {α : Type} (p : α → Bool) : Int → List α → Int
  | _, [] => -1
  | i, x :: xs => if p x = true then i else idxFn p (i + 1) xs

theorem idxFn_any {α : Type} (p : α → Bool) : ∀ (xs : List α) (i : Int), 0 ≤ i → decide (0 ≤ idxFn p i xs) = xs.any p
  | [], i, h => rfl
  | x :: xs, i, h => by
    unfold idxFn
    by_cases q : p x = true
    · rw [if_pos q, decide_eq_true h, List.any_cons, q]; rfl
    · rw [if_neg q, idxFn_any p xs (i + 1) (by omega), List.any_cons, Bool.eq_false_iff.mpr q]; rfl

def rightB (a : List (List Int)) (b : List Bool) : Bool :=
  decide (1 ≤ a.length) && decide (a.length ≤ 5000) && decide (b.length = a.length) && decide (1 ≤ (rd_L1 a 0).length) && decide ((rd_L1 a 0).length ≤ 200) && !(a.any (badRow a.length (rd_L1 a 0).length))
def subset_Right.f (a : List (List Int)) (b : List Bool) : Option Bool := some (rightB a b)

theorem odd_calls (x n : Int) (B : Nat) (W : World) (hc : W.cell? ⟨B, 0, none⟩ = some (.int .i64 n)) :
    Calls Try.prog 28 #[.int .i64 x, .pointer (some ⟨B, 0, none⟩)] W fun e w' => e = .returned (.bool (odd n x)) ∧ Below W.heap.size W w' := by
  go_enter Try.func28, Try.ntmps28
  by_cases h : x < 0
  · have h1 : decide (x < 0) = true := decide_eq_true h
    have h2 : odd n x = true := by unfold odd; rw [h1]; rfl
    rw [h2]
    clear h h2
    go_wp2_with fail
    go_ret
    exact ⟨rfl, Below.refl _ W⟩
  · have h1 : decide (x < 0) = false := decide_eq_false h
    have h2 : odd n x = decide (n ≤ x) := by unfold odd; rw [h1]; rfl
    rw [h2]
    clear h h2
    go_wp2_with fail
    go_ret
    exact ⟨rfl, Below.refl _ W⟩

theorem drop_cons_rdn (l : List Int) (k : Nat) (h : k < l.length) : l.drop k = rd l (k : Int) :: l.drop (k + 1) := by
  rw [List.drop_eq_getElem_cons h]
  simp [rd, List.getD_eq_getElem?_getD, List.getElem?_eq_getElem h]

theorem drop_cons_L1 (l : List (List Int)) (k : Nat) (h : k < l.length) : l.drop k = rd_L1 l (k : Int) :: l.drop (k + 1) := by
  rw [List.drop_eq_getElem_cons h]
  simp [rd_L1, List.getD_eq_getElem?_getD, List.getElem?_eq_getElem h]

set_option maxHeartbeats 8000000 in
set_option maxRecDepth 100000 in
theorem indexOdd_calls (A0 : Option Addr) (c0 : Nat) (l0 : List Int) (n : Int) (B : Nat) (w : World) (hr0 : Kd.C (Kd.int .i64) w A0 l0.length l0) (hB : B < w.heap.size) (hc : w.cell? ⟨B, 0, none⟩ = some (.int .i64 n)) :
    Calls Try.prog 33 #[.slice A0 l0.length c0, .func (.func 28) #[] #[.pointer (some ⟨B, 0, none⟩)]] w fun e w' => e = .returned (.int .i64 (idxFn (odd n) 0 l0)) ∧ Below w.heap.size w w' := by
  have eg : ∀ args w, (callFunc 28 args).run Try.prog w = .ok (.enter 28 args) w := enters_of Try.func28 (by kernel_rfl) rfl
  have hl := Kd.C_max hr0
  have HR := Aside0.mk hr0
  have HC := Aside0.mk hc
  clear hr0 hc
  go_enter Try.func33, Try.ntmps33
  go_wp2_with fail
  go_loopg [5, 8] l0.length (fun gg _ v8 wr => ∃ k : Nat, k ≤ l0.length ∧ l0.length - k ≤ gg ∧ v8 = .int .i64 k ∧ Aside0 (Below w.heap.size w wr) ∧ Aside0 (idxFn (odd n) 0 l0 = idxFn (odd n) k (l0.drop k)))
  case atStart => exact ⟨0, Nat.zero_le _, by omega, rfl, ⟨Below.refl _ w⟩, ⟨by simp⟩⟩
  case round =>
    obtain ⟨k, hk, hg, rfl, HB, HE⟩ := hrel
    by_cases hlt : k < l0.length
    · have hltz : (k : Int) < (l0.length : Int) := by omega
      obtain ⟨ad, e1, hx0⟩ := Kd.at_int (Kd.C_below HR.out HB.out) (k : Int) (by omega) hltz
      subst e1
      simp only [Int.toNat_natCast] at hx0
      have hcell := odd_calls (rd l0 k) n B wr ((HB.out.cell (p := ⟨B, 0, none⟩) hB).trans HC.out)
      have HF := Aside0.mk hcell
      have HD := Aside0.mk (drop_cons_rdn l0 k hlt)
      clear hcell
      cases he : odd n (rd l0 k) with
      | true =>
        rw [he] at HF
        have HH := Aside0.mk he
        clear he
        go_wp2_with fail
        refine HF.out.mono ?_
        rintro e w' ⟨rfl, hb'⟩
        go_wp2_with fail
        go_ret
        refine ⟨?_, HB.out.trans (hb'.mono HB.out.size)⟩
        rw [HE.out, HD.out, idxFn, if_pos HH.out]
        rfl
      | false =>
        rw [he] at HF
        have HH := Aside0.mk he
        clear he
        go_wp2_with fail
        refine HF.out.mono ?_
        rintro e w' ⟨rfl, hb'⟩
        go_wp2_with fail
        go_roundg (l0.length - (k + 1))
        case measure => omega
        case rel => exact ⟨k + 1, by omega, by omega, by go_num, ⟨HB.out.trans (hb'.mono HB.out.size)⟩, ⟨by rw [HE.out, HD.out, idxFn, if_neg (by rw [HH.out]; decide)]; simp⟩⟩
    · have hke : k = l0.length := by omega
      have HK := Aside0.mk hke
      clear hke
      have hltz : ¬ (k : Int) < (l0.length : Int) := by omega
      go_wp2_with fail
      go_ret
      refine ⟨?_, HB.out⟩
      rw [HE.out, HK.out, List.drop_length]
      rfl

set_option maxHeartbeats 8000000 in
theorem containsOdd_calls (A0 : Option Addr) (c0 : Nat) (l0 : List Int) (n : Int) (B : Nat) (w : World) (hr0 : Kd.C (Kd.int .i64) w A0 l0.length l0) (hB : B < w.heap.size) (hc : w.cell? ⟨B, 0, none⟩ = some (.int .i64 n)) :
    Calls Try.prog 30 #[.slice A0 l0.length c0, .func (.func 28) #[] #[.pointer (some ⟨B, 0, none⟩)]] w fun e w' => e = .returned (.bool (l0.any (odd n))) ∧ Below w.heap.size w w' := by
  have HF := Aside0.mk (indexOdd_calls A0 c0 l0 n B w hr0 hB hc)
  have HE := Aside0.mk (idxFn_any (odd n) l0 0 (by omega))
  clear hr0 hc
  go_enter Try.func30, Try.ntmps30
  go_wp2_with fail
  refine HF.out.mono ?_
  rintro e w' ⟨rfl, hb'⟩
  go_wp2_with fail
  go_ret
  exact ⟨by rw [← HE.out]; rfl, hb'⟩

set_option maxHeartbeats 8000000 in
theorem bad_calls (A0 : Option Addr) (c0 : Nat) (l0 : List Int) (m n : Int) (B1 B2 B3 : Nat) (w : World) (hr0 : Kd.C (Kd.int .i64) w A0 l0.length l0) (hB1 : B1 < w.heap.size)
    (h1 : w.cell? ⟨B1, 0, none⟩ = some (.int .i64 n)) (h2 : w.cell? ⟨B2, 0, none⟩ = some (.int .i64 m)) (h3 : w.cell? ⟨B3, 0, none⟩ = some (.func (.func 28) #[] #[.pointer (some ⟨B1, 0, none⟩)])) :
    Calls Try.prog 29 #[.slice A0 l0.length c0, .pointer (some ⟨B2, 0, none⟩), .pointer (some ⟨B3, 0, none⟩)] w fun e w' => e = .returned (.bool (badRow n m l0)) ∧ Below w.heap.size w w' := by
  have HF := Aside0.mk (containsOdd_calls A0 c0 l0 n B1 w hr0 hB1 h1)
  have hl := Kd.C_max hr0
  clear hr0
  cases hm : ((l0.length : Int) != m) with
  | true =>
    have e1 : badRow n m l0 = true := by unfold badRow; rw [hm]; rfl
    rw [e1]
    clear e1
    go_enter Try.func29, Try.ntmps29
    go_wp2_with fail
    go_ret
    exact ⟨rfl, Below.refl _ w⟩
  | false =>
    have e1 : badRow n m l0 = l0.any (odd n) := by unfold badRow; rw [hm]; rfl
    rw [e1]
    clear e1
    go_enter Try.func29, Try.ntmps29
    go_wp2_with fail
    refine HF.out.mono ?_
    rintro e w' ⟨rfl, hb'⟩
    go_wp2_with fail
    go_ret
    exact ⟨rfl, hb'⟩

set_option maxHeartbeats 8000000 in
set_option maxRecDepth 100000 in
theorem indexBad_calls (A0 : Option Addr) (c0 : Nat) (l0 : List (List Int)) (m n : Int) (B1 B2 B3 : Nat) (w : World) (hr0 : Kd.C (Kd.slice 3 (Kd.int .i64)) w A0 l0.length l0) (hB1 : B1 < w.heap.size) (hB2 : B2 < w.heap.size) (hB3 : B3 < w.heap.size)
    (h1 : w.cell? ⟨B1, 0, none⟩ = some (.int .i64 n)) (h2 : w.cell? ⟨B2, 0, none⟩ = some (.int .i64 m)) (h3 : w.cell? ⟨B3, 0, none⟩ = some (.func (.func 28) #[] #[.pointer (some ⟨B1, 0, none⟩)])) :
    Calls Try.prog 34 #[.slice A0 l0.length c0, .func (.func 29) #[] #[.pointer (some ⟨B2, 0, none⟩), .pointer (some ⟨B3, 0, none⟩)]] w fun e w' => e = .returned (.int .i64 (idxFn (badRow n m) 0 l0)) ∧ Below w.heap.size w w' := by
  have eg : ∀ args w, (callFunc 29 args).run Try.prog w = .ok (.enter 29 args) w := enters_of Try.func29 (by kernel_rfl) rfl
  have hl := Kd.C_max hr0
  have HR := Aside0.mk hr0
  have H1 := Aside0.mk h1
  have H2 := Aside0.mk h2
  have H3 := Aside0.mk h3
  clear hr0 h1 h2 h3
  go_enter Try.func34, Try.ntmps34
  go_wp2_with fail
  go_loopg [5, 8] l0.length (fun gg _ v8 wr => ∃ k : Nat, k ≤ l0.length ∧ l0.length - k ≤ gg ∧ v8 = .int .i64 k ∧ Aside0 (Below w.heap.size w wr) ∧ Aside0 (idxFn (badRow n m) 0 l0 = idxFn (badRow n m) k (l0.drop k)))
  case atStart => exact ⟨0, Nat.zero_le _, by omega, rfl, ⟨Below.refl _ w⟩, ⟨by simp⟩⟩
  case round =>
    obtain ⟨k, hk, hg, rfl, HB, HE⟩ := hrel
    by_cases hlt : k < l0.length
    · have hltz : (k : Int) < (l0.length : Int) := by omega
      obtain ⟨ad, A1, c1, e1, hx0, hl1, hr1⟩ := at_L1 (Kd.C_below HR.out HB.out) (k : Int) (by omega) hltz
      subst e1
      simp only [Int.toNat_natCast] at hx0
      have hcell := bad_calls A1 c1 (rd_L1 l0 k) m n B1 B2 B3 wr hr1 (Nat.lt_of_lt_of_le hB1 HB.out.size) ((HB.out.cell (p := ⟨B1, 0, none⟩) hB1).trans H1.out) ((HB.out.cell (p := ⟨B2, 0, none⟩) hB2).trans H2.out) ((HB.out.cell (p := ⟨B3, 0, none⟩) hB3).trans H3.out)
      have HF := Aside0.mk hcell
      have HD := Aside0.mk (drop_cons_L1 l0 k hlt)
      clear hcell hr1 hl1
      cases he : badRow n m (rd_L1 l0 k) with
      | true =>
        rw [he] at HF
        have HH := Aside0.mk he
        clear he
        go_wp2_with fail
        refine HF.out.mono ?_
        rintro e w' ⟨rfl, hb'⟩
        go_wp2_with fail
        go_ret
        refine ⟨?_, HB.out.trans (hb'.mono HB.out.size)⟩
        rw [HE.out, HD.out, idxFn, if_pos HH.out]
        rfl
      | false =>
        rw [he] at HF
        have HH := Aside0.mk he
        clear he
        go_wp2_with fail
        refine HF.out.mono ?_
        rintro e w' ⟨rfl, hb'⟩
        go_wp2_with fail
        go_roundg (l0.length - (k + 1))
        case measure => omega
        case rel => exact ⟨k + 1, by omega, by omega, by go_num, ⟨HB.out.trans (hb'.mono HB.out.size)⟩, ⟨by rw [HE.out, HD.out, idxFn, if_neg (by rw [HH.out]; decide)]; simp⟩⟩
    · have hke : k = l0.length := by omega
      have HK := Aside0.mk hke
      clear hke
      have hltz : ¬ (k : Int) < (l0.length : Int) := by omega
      go_wp2_with fail
      go_ret
      refine ⟨?_, HB.out⟩
      rw [HE.out, HK.out, List.drop_length]
      rfl

set_option maxHeartbeats 8000000 in
theorem containsBad_calls (A0 : Option Addr) (c0 : Nat) (l0 : List (List Int)) (m n : Int) (B1 B2 B3 : Nat) (w : World) (hr0 : Kd.C (Kd.slice 3 (Kd.int .i64)) w A0 l0.length l0) (hB1 : B1 < w.heap.size) (hB2 : B2 < w.heap.size) (hB3 : B3 < w.heap.size)
    (h1 : w.cell? ⟨B1, 0, none⟩ = some (.int .i64 n)) (h2 : w.cell? ⟨B2, 0, none⟩ = some (.int .i64 m)) (h3 : w.cell? ⟨B3, 0, none⟩ = some (.func (.func 28) #[] #[.pointer (some ⟨B1, 0, none⟩)])) :
    Calls Try.prog 31 #[.slice A0 l0.length c0, .func (.func 29) #[] #[.pointer (some ⟨B2, 0, none⟩), .pointer (some ⟨B3, 0, none⟩)]] w fun e w' => e = .returned (.bool (l0.any (badRow n m))) ∧ Below w.heap.size w w' := by
  have HF := Aside0.mk (indexBad_calls A0 c0 l0 m n B1 B2 B3 w hr0 hB1 hB2 hB3 h1 h2 h3)
  have HE := Aside0.mk (idxFn_any (badRow n m) l0 0 (by omega))
  clear hr0 h1 h2 h3
  go_enter Try.func31, Try.ntmps31
  go_wp2_with fail
  refine HF.out.mono ?_
  rintro e w' ⟨rfl, hb'⟩
  go_wp2_with fail
  go_ret
  exact ⟨by rw [← HE.out]; rfl, hb'⟩

set_option maxHeartbeats 8000000 in
set_option maxRecDepth 100000 in
theorem subset_Right.calls (A0_0 : Option Addr) (c0_0 : Nat) (l0_0 : List (List Int)) (A0_1 : Option Addr) (c0_1 : Nat) (l0_1 : List Bool) (r : Bool) (w : World) (hr0_0 : Kd.C (Kd.slice 3 (Kd.int .i64)) w A0_0 l0_0.length l0_0) (hc0_0 : l0_0.length ≤ c0_0) (hr0_1 : Kd.C Kd.bool w A0_1 l0_1.length l0_1) (hc0_1 : l0_1.length ≤ c0_1) (h : subset_Right.f l0_0 l0_1 = some r) :
    Calls Try.prog 20 #[.agg #[.slice A0_0 l0_0.length c0_0, .slice A0_1 l0_1.length c0_1]] w fun e w' => e = .returned (.bool r) ∧ Below w.heap.size w w' := by
  obtain rfl := Option.some.inj h
  clear h hc0_0 hc0_1
  have hl0 := Kd.C_max hr0_0
  have hl1 := Kd.C_max hr0_1
  have HR := Aside0.mk hr0_0
  clear hr0_0 hr0_1
  by_cases g1 : l0_0.length < 1
  · have e : rightB l0_0 l0_1 = false := by unfold rightB; rw [decide_eq_false (by omega)]; simp
    rw [e]; clear e
    have b1 : (l0_0.length : Int) < 1 := by omega
    go_enter Try.func20, Try.ntmps20
    go_wp2_with fail
    go_ret
    exact ⟨rfl, ((Below.refl _ w).alloc (Nat.le_refl _) _).alloc (by simp) _⟩
  have b1 : ¬ (l0_0.length : Int) < 1 := by omega
  by_cases g2 : 5000 < l0_0.length
  · have e : rightB l0_0 l0_1 = false := by unfold rightB; rw [decide_eq_false (show ¬ l0_0.length ≤ 5000 by omega)]; simp
    rw [e]; clear e
    have b2 : 5000 < (l0_0.length : Int) := by omega
    go_enter Try.func20, Try.ntmps20
    go_wp2_with fail
    go_ret
    exact ⟨rfl, ((Below.refl _ w).alloc (Nat.le_refl _) _).alloc (by simp) _⟩
  have b2 : ¬ 5000 < (l0_0.length : Int) := by omega
  by_cases g3 : l0_1.length = l0_0.length
  · have b3 : ((l0_1.length : Int) != (l0_0.length : Int)) = false := by rw [g3]; simp
    obtain ⟨ad, A1, c1, e1, hx0, hl2, hr1⟩ := at_L1 (Kd.C_alloc (Kd.C_alloc HR.out (.cells #[.slice A0_0 l0_0.length c0_0, .slice A0_1 l0_1.length c0_1] 25)) (.cells #[.int .i64 l0_0.length] 3)) 0 (by omega) (by omega)
    subst e1
    rw [show (0 : Int).toNat = 0 from rfl, show ad.add 0 = ad from by simp [Addr.add]] at hx0
    have hl3 := Kd.C_max hr1
    have e0 : rightB l0_0 l0_1 = (decide (1 ≤ (rd_L1 l0_0 0).length) && decide ((rd_L1 l0_0 0).length ≤ 200) && !(l0_0.any (badRow l0_0.length (rd_L1 l0_0 0).length))) := by
      unfold rightB; rw [decide_eq_true (show 1 ≤ l0_0.length by omega), decide_eq_true (show l0_0.length ≤ 5000 by omega), decide_eq_true g3]; simp
    rw [e0]
    clear e0 hr1 hl2 g3
    generalize (rd_L1 l0_0 0).length = m at *
    by_cases g4 : m < 1
    · have e : (decide (1 ≤ m) && decide (m ≤ 200) && !(l0_0.any (badRow l0_0.length m))) = false := by rw [decide_eq_false (by omega)]; simp
      rw [e]; clear e
      have b4 : (m : Int) < 1 := by omega
      go_enter Try.func20, Try.ntmps20
      go_wp2_with fail
      go_ret
      exact ⟨rfl, ((((Below.refl _ w).alloc (Nat.le_refl _) _).alloc (by simp) _).alloc (by simp; omega) _).alloc (by simp; omega) _⟩
    have b4 : ¬ (m : Int) < 1 := by omega
    by_cases g5 : 200 < m
    · have e : (decide (1 ≤ m) && decide (m ≤ 200) && !(l0_0.any (badRow l0_0.length m))) = false := by rw [decide_eq_false (show ¬ m ≤ 200 by omega)]; simp
      rw [e]; clear e
      have b5 : 200 < (m : Int) := by omega
      go_enter Try.func20, Try.ntmps20
      go_wp2_with fail
      go_ret
      exact ⟨rfl, ((((Below.refl _ w).alloc (Nat.le_refl _) _).alloc (by simp) _).alloc (by simp; omega) _).alloc (by simp; omega) _⟩
    have b5 : ¬ 200 < (m : Int) := by omega
    have e : (decide (1 ≤ m) && decide (m ≤ 200) && !(l0_0.any (badRow l0_0.length m))) = !(l0_0.any (badRow l0_0.length m)) := by rw [decide_eq_true (show 1 ≤ m by omega), decide_eq_true (show m ≤ 200 by omega)]; simp
    rw [e]; clear e g4 g5
    go_enter Try.func20, Try.ntmps20
    go_wp2_with fail
    refine (containsBad_calls (some ad) c0_0 l0_0 m l0_0.length (w.heap.size + 1) (w.heap.size + 2) (w.heap.size + 3) _ ?p1 ?p2 ?p3 ?p4 ?p5 ?p6 ?p7).mono ?_
    case p1 => exact Kd.C_alloc (Kd.C_alloc (Kd.C_alloc (Kd.C_alloc HR.out _) _) _) _
    case p2 => simp
    case p3 => simp
    case p4 => simp
    case p5 => go_simp
    case p6 => go_simp
    case p7 => go_simp
    rintro e w' ⟨rfl, hb⟩
    go_wp2_with fail
    go_ret
    exact ⟨rfl, (((((Below.refl _ w).alloc (Nat.le_refl _) _).alloc (by simp) _).alloc (by simp; omega) _).alloc (by simp; omega) _).trans (hb.mono (by simp; omega))⟩
  · have b3 : ((l0_1.length : Int) != (l0_0.length : Int)) = true := by simp; omega
    have e : rightB l0_0 l0_1 = false := by unfold rightB; rw [decide_eq_false g3]; simp
    rw [e]; clear e g3
    go_enter Try.func20, Try.ntmps20
    go_wp2_with fail
    go_ret
    exact ⟨rfl, ((Below.refl _ w).alloc (Nat.le_refl _) _).alloc (by simp) _⟩

#print axioms subset_Right.calls
end Go.Proofs.Ytadhjjfodpmelaa.Print
