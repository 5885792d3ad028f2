/- The contract of utf.Index (the closure and slices.IndexFunc at api.Unit walked by hand): it returns idxF of the units and the offset; no condition beyond the print's own. -/
import Derived.Test.YtefomeabnlecoaaPrint0
import Derived.Shelf.Abstract
namespace Go.Proofs.Ytefomeabnlecoaa.Print
open Go.RowKit Go.Shelf Go.Proofs.YtefomeabnlecoaaW.PrintWords Go.Proofs.YtefomeabnlecoaaW.PrintLast Go.Proofs.YtefomeabnlecoaaW.PrintMore
set_option linter.unusedVariables false
set_option linter.unusedSimpArgs false

/-- The place of the first unit from place i on that begins at a; -1: there is none. -/
def idxFrom (a : Int) : Int → List S35 → Int
  | _, [] => -1
  | i, u :: us => if u.f1 = a then i else idxFrom a (i + 1) us

/-- Where the last unit ends. -/
def endOf (l : List S35) : Int := if 0 < l.length then wrap64 ((rd_T35 l ((l.length : Int) - 1)).f1 + (rd_T35 l ((l.length : Int) - 1)).f2) else 0

def utf_Index.f (l : List S35) (a : Int) : Option Int := some (if a = endOf l then (l.length : Int) else idxFrom a 0 l)

set_option maxHeartbeats 8000000 in
/-- The closure. -/
theorem idx_closure (x0 x1 x2 : Int) (x3 : Bool) (B : Nat) (a : Int) (W : World) (hB : B < W.heap.size) (hc : W.cell? ⟨B, 0, none⟩ = some (.int .i64 a)) :
    Calls Try.prog 31 #[.agg #[.int .i64 x0, .int .i64 x1, .int .i64 x2, .bool x3], .pointer (some ⟨B, 0, none⟩)] W fun e w' => e = .returned (.bool (x1 == a)) ∧ Below W.heap.size W w' := by
  have hne : B ≠ W.heap.size := by omega
  go_enter Try.func31, Try.ntmps31
  go_wp2
  go_ret
  exact ⟨rfl, (Below.refl _ W).alloc (Nat.le_refl _) _⟩

theorem drop_cons_rd (l : List S35) (k : Nat) (h : k < l.length) : l.drop k = rd_T35 l (k : Int) :: l.drop (k + 1) := by
  rw [List.drop_eq_getElem_cons h]
  simp [rd_T35, List.getD_eq_getElem?_getD, List.getElem?_eq_getElem h]

set_option maxHeartbeats 8000000 in
set_option maxRecDepth 100000 in
theorem indexFunc_calls (A0 : Option Addr) (c0 : Nat) (l0 : List S35) (a : Int) (B : Nat) (w : World) (hr0 : Kd.C k35 w A0 l0.length l0) (hl : l0.length ≤ 9223372036854775807) (hB : B < w.heap.size) (hc : w.cell? ⟨B, 0, none⟩ = some (.int .i64 a)) :
    Calls Try.prog 30 #[.slice A0 l0.length c0, .func (.func 31) #[] #[.pointer (some ⟨B, 0, none⟩)]] w fun e w' => e = .returned (.int .i64 (idxFrom a 0 l0)) ∧ Below w.heap.size w w' := by
  have eg : ∀ args w, (callFunc 31 args).run Try.prog w = .ok (.enter 31 args) w := enters_of Try.func31 (by kernel_rfl) rfl
  have HR := Aside0.mk hr0
  have HC := Aside0.mk hc
  clear hr0 hc
  go_enter Try.func30, Try.ntmps30
  go_wp2
  go_loopg [5, 8] l0.length (fun gg _ v8 wr => ∃ k : Nat, k ≤ l0.length ∧ l0.length - k ≤ gg ∧ v8 = .int .i64 k ∧ Aside0 (Below w.heap.size w wr) ∧ Aside0 (idxFrom a 0 l0 = idxFrom a k (l0.drop k)))
  case atStart => exact ⟨0, Nat.zero_le _, by omega, rfl, ⟨Below.refl _ w⟩, ⟨by simp⟩⟩
  case round =>
    obtain ⟨k, hk, hg, rfl, HB, HE⟩ := hrel
    by_cases hlt : k < l0.length
    · have hltz : (k : Int) < (l0.length : Int) := by omega
      obtain ⟨ad, e1, hx0, hx1, hx2, hx3⟩ := at_T35 (Kd.C_below HR.out HB.out) k (by omega) hltz
      subst e1
      simp only [Int.toNat_natCast] at hx0 hx1 hx2 hx3
      have hcell := idx_closure (rd_T35 l0 k).f0 (rd_T35 l0 k).f1 (rd_T35 l0 k).f2 (rd_T35 l0 k).f3 B a wr (Nat.lt_of_lt_of_le hB HB.out.size) ((HB.out.cell (p := ⟨B, 0, none⟩) hB).trans HC.out)
      have HF := Aside0.mk hcell
      have HD := Aside0.mk (drop_cons_rd l0 k hlt)
      clear hcell
      by_cases he : (rd_T35 l0 k).f1 = a
      · have he1 : ((rd_T35 l0 k).f1 == a) = true := beq_iff_eq.mpr he
        have HH := Aside0.mk he
        clear he
        go_wp2_with fail
        refine HF.out.mono ?_
        rintro e w' ⟨rfl, hb'⟩
        go_wp2_with fail
        go_ret
        refine ⟨?_, HB.out.trans (hb'.mono HB.out.size)⟩
        rw [HE.out, HD.out, idxFrom, if_pos HH.out]
        rfl
      · have he1 : ((rd_T35 l0 k).f1 == a) = false := beq_eq_false_iff_ne.mpr he
        have HH := Aside0.mk he
        clear he
        go_wp2_with fail
        refine HF.out.mono ?_
        rintro e w' ⟨rfl, hb'⟩
        go_wp2_with fail
        go_roundg (l0.length - (k + 1))
        case measure => omega
        case rel => exact ⟨k + 1, by omega, by omega, by go_num, ⟨HB.out.trans (hb'.mono HB.out.size)⟩, ⟨by rw [HE.out, HD.out, idxFrom, if_neg HH.out]; simp⟩⟩
    · have hke : k = l0.length := by omega
      have HK := Aside0.mk hke
      clear hke
      have hltz : ¬ (k : Int) < (l0.length : Int) := by omega
      go_wp2_with fail
      go_ret
      refine ⟨?_, HB.out⟩
      rw [HE.out, HK.out, List.drop_length]
      rfl

set_option maxHeartbeats 8000000 in
set_option maxRecDepth 100000 in
/-- Where there is a unit, and the offset is where the last one ends. -/
theorem index_end (ad : Addr) (c0 : Nat) (l0 : List S35) (a1 e1 : Int) (w : World) (hl : l0.length ≤ 9223372036854775807) (h0 : 1 ≤ l0.length) (x y : Int)
    (hx1 : (w.alloc (.cells #[.int .i64 a1] 3)).cell? ⟨(ad.add ((l0.length - 1) * 4)).block, (ad.add ((l0.length - 1) * 4)).off + 1, none⟩ = some (.int .i64 x))
    (hx2 : (w.alloc (.cells #[.int .i64 a1] 3)).cell? ⟨(ad.add ((l0.length - 1) * 4)).block, (ad.add ((l0.length - 1) * 4)).off + 2, none⟩ = some (.int .i64 y))
    (he1 : (a1 == wrap64 (x + y)) = true) :
    Calls Try.prog 15 #[.slice (some ad) l0.length c0, .int .i64 a1] w fun e w' => e = .returned (.int .i64 (l0.length : Int)) ∧ Below w.heap.size w w' := by
  have b1 : (1 : Int) ≤ (l0.length : Int) := by omega
  have b3 : decide ((0 : Int) < (l0.length : Int)) = true := decide_eq_true (by omega)
  go_enter Try.func15, Try.ntmps15
  go_wp2_with fail
  go_quiet (fail)
  go_wp2_with fail
  go_ret
  exact ⟨rfl, pw_below_drewN ((Below.refl _ w).alloc (Nat.le_refl _) _) _⟩

set_option maxHeartbeats 8000000 in
set_option maxRecDepth 100000 in
/-- Where there is a unit, and the offset is not where the last one ends. -/
theorem index_some (ad : Addr) (c0 : Nat) (l0 : List S35) (a1 e1 : Int) (w : World) (hl : l0.length ≤ 9223372036854775807) (h0 : 1 ≤ l0.length) (x y r : Int)
    (hx1 : (w.alloc (.cells #[.int .i64 a1] 3)).cell? ⟨(ad.add ((l0.length - 1) * 4)).block, (ad.add ((l0.length - 1) * 4)).off + 1, none⟩ = some (.int .i64 x))
    (hx2 : (w.alloc (.cells #[.int .i64 a1] 3)).cell? ⟨(ad.add ((l0.length - 1) * 4)).block, (ad.add ((l0.length - 1) * 4)).off + 2, none⟩ = some (.int .i64 y))
    (he1 : (a1 == wrap64 (x + y)) = false)
    (HN : Aside0 (∀ n, Calls Try.prog 30 #[.slice (some ad) l0.length c0, .func (.func 31) #[] #[.pointer (some ⟨w.heap.size, 0, none⟩)]] ((w.alloc (.cells #[.int .i64 a1] 3)).drewN n) fun e w' => e = .returned (.int .i64 r) ∧ Below (w.heap.size + 1) ((w.alloc (.cells #[.int .i64 a1] 3)).drewN n) w')) :
    Calls Try.prog 15 #[.slice (some ad) l0.length c0, .int .i64 a1] w fun e w' => e = .returned (.int .i64 r) ∧ Below w.heap.size w w' := by
  have b1 : (1 : Int) ≤ (l0.length : Int) := by omega
  have b3 : decide ((0 : Int) < (l0.length : Int)) = true := decide_eq_true (by omega)
  go_enter Try.func15, Try.ntmps15
  go_wp2_with fail
  go_quiet (fail)
  go_wp2_with fail
  refine (HN.out _).mono ?_
  rintro e w' ⟨rfl, hb⟩
  go_wp2_with fail
  go_ret
  exact ⟨rfl, (pw_below_drewN ((Below.refl _ w).alloc (Nat.le_refl _) _) _).trans (hb.mono (by omega))⟩

set_option maxHeartbeats 8000000 in
set_option maxRecDepth 100000 in
/-- Where there is no unit. -/
theorem index_none (A0 : Option Addr) (c0 : Nat) (a1 r : Int) (w : World)
    (HN : Aside0 (Calls Try.prog 30 #[.slice A0 0 c0, .func (.func 31) #[] #[.pointer (some ⟨w.heap.size, 0, none⟩)]] (w.alloc (.cells #[.int .i64 a1] 3)) fun e w' => e = .returned (.int .i64 r) ∧ Below (w.heap.size + 1) (w.alloc (.cells #[.int .i64 a1] 3)) w'))
    (he : (a1 == 0) = false) :
    Calls Try.prog 15 #[.slice A0 0 c0, .int .i64 a1] w fun e w' => e = .returned (.int .i64 r) ∧ Below w.heap.size w w' := by
  go_enter Try.func15, Try.ntmps15
  go_wp2_with fail
  refine HN.out.mono ?_
  rintro e w' ⟨rfl, hb⟩
  go_wp2_with fail
  go_ret
  exact ⟨rfl, ((Below.refl _ w).alloc (Nat.le_refl _) _).trans (hb.mono (by omega))⟩

set_option maxHeartbeats 8000000 in
theorem index_zero (A0 : Option Addr) (c0 : Nat) (w : World) :
    Calls Try.prog 15 #[.slice A0 0 c0, .int .i64 0] w fun e w' => e = .returned (.int .i64 0) ∧ Below w.heap.size w w' := by
  go_enter Try.func15, Try.ntmps15
  go_wp2_with fail
  go_ret
  exact ⟨rfl, (Below.refl _ w).alloc (Nat.le_refl _) _⟩

theorem utf_Index.calls (A0 : Option Addr) (c0 : Nat) (l0 : List (S35)) (a1 : Int) (r : Int) (w : World) (hr0 : Kd.C k35 w A0 l0.length l0) (hc0 : l0.length ≤ c0) (h : utf_Index.f l0 a1 = some r) :
    Calls Try.prog 15 #[.slice A0 l0.length c0, .int .i64 a1] w fun e w' => e = .returned (.int .i64 r) ∧ Below w.heap.size w w' := by
  obtain rfl := Option.some.inj h
  clear h
  have hl := Kd.C_max hr0
  have hn : ∀ n, Calls Try.prog 30 #[.slice A0 l0.length c0, .func (.func 31) #[] #[.pointer (some ⟨w.heap.size, 0, none⟩)]] ((w.alloc (.cells #[.int .i64 a1] 3)).drewN n) fun e w' => e = .returned (.int .i64 (idxFrom a1 0 l0)) ∧ Below (w.heap.size + 1) ((w.alloc (.cells #[.int .i64 a1] 3)).drewN n) w' := fun n => by
    have := indexFunc_calls A0 c0 l0 a1 w.heap.size ((w.alloc (.cells #[.int .i64 a1] 3)).drewN n) (Kd.C_drewN (Kd.C_alloc hr0 _) n) hl (by simp) (by simp)
    refine this.mono ?_
    rintro e w' ⟨rfl, hb⟩
    exact ⟨rfl, by simpa using hb⟩
  by_cases h0 : 0 < l0.length
  · obtain ⟨ad, e1, hx0, hx1, hx2, hx3⟩ := at_T35 (Kd.C_alloc hr0 (.cells #[.int .i64 a1] 3)) ((l0.length : Int) - 1) (by omega) (by omega)
    subst e1
    have hE : endOf l0 = wrap64 ((rd_T35 l0 ((l0.length : Int) - 1)).f1 + (rd_T35 l0 ((l0.length : Int) - 1)).f2) := by unfold endOf; rw [if_pos h0]
    have e2 : ((l0.length : Int) - 1).toNat = l0.length - 1 := by omega
    rw [e2] at hx0 hx1 hx2 hx3
    by_cases he : a1 = endOf l0
    · rw [if_pos he]
      exact index_end ad c0 l0 a1 0 w hl h0 _ _ hx1 hx2 (by rw [← hE]; exact beq_iff_eq.mpr he)
    · rw [if_neg he]
      exact index_some ad c0 l0 a1 0 w hl h0 _ _ _ hx1 hx2 (by rw [← hE]; exact beq_eq_false_iff_ne.mpr he) ⟨hn⟩
  · obtain rfl : l0 = [] := List.eq_nil_of_length_eq_zero (by omega)
    have hE : endOf [] = 0 := rfl
    rw [hE]
    by_cases he : a1 = 0
    · rw [if_pos he]
      subst he
      exact index_zero A0 c0 w
    · rw [if_neg he]
      exact index_none A0 c0 a1 _ w ⟨hn 0⟩ (beq_eq_false_iff_ne.mpr he)

#print axioms utf_Index.calls
end Go.Proofs.Ytefomeabnlecoaa.Print
