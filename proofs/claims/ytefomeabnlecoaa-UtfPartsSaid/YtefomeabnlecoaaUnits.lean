/- The contract of utf.units: its iterator yields just 'units' of the bytes, one behind the other, or a part of them where a round says 'no more'. -/
import Derived.Test.YtefomeabnlecoaaU0
import Derived.RangeFuncNested
import Derived.RangeFuncBound
import Derived.RangeFuncCalls
import Derived.RangeFuncLeaves
import Derived.Shelf.Abstract
import Derived.WalkKit
import Derived.OwnWalkIn
import Derived.TacticsInMore
import Derived.LoopNIn
import Derived.LoopIn
import Derived.Sort.LoopGhostIn
import Derived.Sort.CutIn
import Derived.Sort.QuietIn
import Derived.WalkMore
namespace Go.Proofs.Ytefomeabnlecoaa.Print
open Go.RowKit Go.Shelf Go.Proofs.YtefomeabnlecoaaW.PrintWords Go.Proofs.YtefomeabnlecoaaW.PrintLast Go.Proofs.YtefomeabnlecoaaW.PrintMore
attribute [local go_sem] Oper.semAt_some
set_option linter.unusedVariables false
set_option linter.unusedSimpArgs false

/-- A unit as a value. -/
def enc35 (x : S35) : Value := .agg #[.int .i64 x.f0, .int .i64 x.f1, .int .i64 x.f2, .bool x.f3]

theorem scope_in {n : Nat} {P : Program} {Q : Exit → Act → World → Prop} {a : Act} {w : World} {c : Code} (h : c.wpIn Fence.wide n P (Exit.noGoto Q) a w) : (Code.scope c).wpIn Fence.wide n P Q a w :=
  wpIn_wide.2 (wp_scope_straight (wpIn_wide.1 h))

theorem fn_wide {f : Nat} {p : Prop} (h : p) : Fence.wide.fn f ∧ p := ⟨trivial, h⟩
theorem and31 (x : Int) (h0 : 0 ≤ x) (h1 : x ≤ 255) : Go.bits .and .i64 x 31 = x % 32 := bits_mask .i64 63 (by decide) (fun n a b => by rw [IntKind.wrap_i64]; omega) 5 (by decide) x h0 (by omega)
theorem and15 (x : Int) (h0 : 0 ≤ x) (h1 : x ≤ 255) : Go.bits .and .i64 x 15 = x % 16 := bits_mask .i64 63 (by decide) (fun n a b => by rw [IntKind.wrap_i64]; omega) 4 (by decide) x h0 (by omega)
theorem and7 (x : Int) (h0 : 0 ≤ x) (h1 : x ≤ 255) : Go.bits .and .i64 x 7 = x % 8 := bits_mask .i64 63 (by decide) (fun n a b => by rw [IntKind.wrap_i64]; omega) 3 (by decide) x h0 (by omega)

theorem mask_yes (x : Int) (h0 : 0 ≤ x) (h1 : x ≤ 255) (h : 128 ≤ x ∧ x < 192) : (Go.bits .and .u8 x 192 != 128) = false := by
  have k : ∀ y : Fin 256, 128 ≤ (y.val : Int) → (y.val : Int) < 192 → (Go.bits .and .u8 (y.val : Int) 192 != 128) = false := by decide +kernel
  have := k ⟨x.toNat, by omega⟩ (by simp; omega) (by simp; omega)
  simpa [show max x 0 = x from by omega] using this
theorem mask_no (x : Int) (h0 : 0 ≤ x) (h1 : x ≤ 255) (h : ¬ (128 ≤ x ∧ x < 192)) : (Go.bits .and .u8 x 192 != 128) = true := by
  have k : ∀ y : Fin 256, ¬ (128 ≤ (y.val : Int) ∧ (y.val : Int) < 192) → (Go.bits .and .u8 (y.val : Int) 192 != 128) = true := by decide +kernel
  have := k ⟨x.toNat, by omega⟩ (by simp; omega)
  simpa [show max x 0 = x from by omega] using this
theorem or_low (r y : Int) (h0 : 0 ≤ r) (h1 : r ≤ 67108863) (h2 : 0 ≤ y) (h3 : y < 64) : Go.bits .or .i64 (r * 64) y = r * 64 + y :=
  bits_join .i64 63 (by decide) (fun n a b => by rw [IntKind.wrap_i64]; omega) 6 (r * 64) y (by omega) (by omega) (by omega) h2 (by omega) (by omega)

theorem u_right (a : Int) (w : World) : Calls Try.prog 26 #[.int .i64 a] w fun e w' => e = .returned (.bool (cp a)) ∧ w = w' := by
  by_cases h0 : 0 ≤ a
  · have b0 : decide (0 ≤ a) = true := decide_eq_true h0
    by_cases h1 : a ≤ 1114111
    · have b1 : decide (a ≤ 1114111) = true := decide_eq_true h1
      by_cases h2 : a < 55296
      · have b2 : decide (a < 55296) = true := decide_eq_true h2
        have hc : cp a = true := by unfold cp; rw [decide_eq_true_eq]; omega
        rw [hc]
        go_enter Try.func26, Try.ntmps26
        go_wp2
        go_ret
        exact ⟨rfl, rfl⟩
      · have b2 : decide (a < 55296) = false := decide_eq_false h2
        have hc : cp a = decide (57343 < a) := by unfold cp; rw [Bool.eq_iff_iff]; simp only [decide_eq_true_eq]; omega
        rw [hc]
        go_enter Try.func26, Try.ntmps26
        go_wp2
        go_ret
        exact ⟨rfl, rfl⟩
    · have b1 : decide (a ≤ 1114111) = false := decide_eq_false h1
      have hc : cp a = false := by unfold cp; rw [decide_eq_false_iff_not]; omega
      rw [hc]
      go_enter Try.func26, Try.ntmps26
      go_wp2
      go_ret
      exact ⟨rfl, rfl⟩
  · have b0 : decide (0 ≤ a) = false := decide_eq_false h0
    have hc : cp a = false := by unfold cp; rw [decide_eq_false_iff_not]; omega
    rw [hc]
    go_enter Try.func26, Try.ntmps26
    go_wp2
    go_ret
    exact ⟨rfl, rfl⟩

theorem u_width (a : Int) (w : World) : Calls Try.prog 34 #[.int .i64 a] w fun e w' => e = .returned (.int .i64 (wid a)) ∧ w = w' := by
  unfold wid
  by_cases h0 : a < 128
  · rw [if_pos h0]
    go_enter Try.func34, Try.ntmps34
    go_wp2
    go_ret
    exact ⟨rfl, rfl⟩
  rw [if_neg h0]
  by_cases h1 : a < 2048
  · rw [if_pos h1]
    go_enter Try.func34, Try.ntmps34
    go_wp2
    go_ret
    exact ⟨rfl, rfl⟩
  rw [if_neg h1]
  by_cases h2 : a < 65536
  · rw [if_pos h2]
    go_enter Try.func34, Try.ntmps34
    go_wp2
    go_ret
    exact ⟨rfl, rfl⟩
  rw [if_neg h2]
  go_enter Try.func34, Try.ntmps34
  go_wp2
  go_ret
  exact ⟨rfl, rfl⟩

set_option maxRecDepth 100000 in
set_option maxHeartbeats 4000000 in
theorem units1_in (n : Nat) (hn : 1 ≤ n) (lp Bn : Nat) (A : Option Addr) (c : Nat) (l : List Int) (hby : ∀ i : Int, 0 ≤ i → i < l.length → 0 ≤ rd l i ∧ rd l i ≤ 255) (w0 : World) (hl : l.length ≤ 9223372036854775807)
    (hr : Kd.C (Kd.int .u8) w0 A l.length l) (J Jx : List S35 → World → Prop) (hJd : ∀ pre W m, J pre W → J pre (World.drewN W m))
    (hY : ∀ pre x W, J pre W → pre.length < (units l).length → YieldAt Fence.wide (n - 1) Try.prog lp #[enc35 x] W fun e W' =>
      (e = .returned (.bool true) ∧ J (pre ++ [x]) W' ∧ Below w0.heap.size W W' ∧ W'.cell? ⟨Bn, 0, none⟩ = W.cell? ⟨Bn, 0, none⟩) ∨ (e = .returned (.bool false) ∧ Jx (pre ++ [x]) W'))
    (W : World) (hW : Below w0.heap.size w0 W) (hBn : W.cell? ⟨Bn, 0, none⟩ = some (.slice A l.length c)) (h0 : J [] W) :
    CallsIn Fence.wide n Try.prog 37 #[.func (.yield lp) #[] #[], .pointer (some ⟨Bn, 0, none⟩)] W fun e W' => (∃ v, e = .returned v) ∧
      ((∃ ys, ys = units l ∧ J ys W') ∨ (∃ pre, pre <+: units l ∧ Jx pre W')) := by
  have HR := Aside0.mk hr
  have HBN := Aside0.mk hBn
  have HW := Aside0.mk hW
  have HBY := Aside0.mk hby
  have HY := Aside0.mk hY
  have HJ0 := Aside0.mk h0
  clear hr hBn hW hby hY h0
  refine callsIn_of_wp Try.func37 rfl trivial ?_ rfl
  simp only [Try.ntmps37, List.size_toArray, List.length_cons, List.length_nil, Nat.reduceAdd, Nat.reduceSub, Array.replicate_succ, Array.replicate_zero, List.push_toArray, List.append_toArray, List.nil_append, List.cons_append]
  gi_wp2
  refine scope_in ?_
  gi_wp2
  refine wpIn_label ?_
  gi_wp2
  gi_loopg [3] (l.length + 1) (fun gk v3 wr => ∃ (at_ : Int) (pre : List S35), v3 = .int .i64 at_ ∧ 0 ≤ at_ ∧ at_ ≤ l.length ∧ (l.length : Int) - at_ < gk ∧ Aside0 (units l = pre ++ unitsFrom l (gk - 1) at_) ∧ Aside0 (J pre wr) ∧ Aside0 (Below w0.heap.size w0 wr) ∧ Aside0 (wr.cell? ⟨Bn, 0, none⟩ = some (.slice A l.length c)))
  case atStart => exact ⟨0, [], rfl, by omega, by omega, by omega, ⟨rfl⟩, HJ0, HW, HBN⟩
  case round =>
    obtain ⟨at_, pre, rfl, ha0, ha1, hgk, HU, HJ, HB, HCB⟩ := hrel
    obtain ⟨wo, rfl⟩ : ∃ wo : World, wo = wr := ⟨_, rfl⟩
    obtain ⟨gko, rfl⟩ : ∃ g : Nat, g = gk := ⟨_, rfl⟩
    have hcb : wo.cell? ⟨Bn, 0, none⟩ = some (.slice A l.length c) := HCB.out
    by_cases hlt : at_ < l.length
    · obtain ⟨ad, e1, hc⟩ := Kd.at_int (Kd.C_below HR.out (HB.out)) at_ ha0 hlt
      subst e1
      obtain ⟨hc0, hc1⟩ := HBY.out at_ ha0 hlt
      gi_wp2_with fail
      gi_quiet (fail)
      gi_step
      gi_step
      gi_step
      gi_cut [4, 5] from 8 (fun s4 s5 wx => s4 = .int .i64 (lead (rd l at_)).1 ∧ s5 = .int .i64 (lead (rd l at_)).2 ∧ wx = wo.drewN nq)
      case first =>
        have e31 := and31 (rd l at_) hc0 hc1
        have e15 := and15 (rd l at_) hc0 hc1
        have e7 := and7 (rd l at_) hc0 hc1
        by_cases k1 : rd l at_ < 128
        · have b1 : decide (rd l at_ < 128) = true := decide_eq_true k1
          have E := Aside0.mk (show lead (rd l at_) = (1, rd l at_) by unfold lead; rw [if_pos k1])
          clear e31 e15 e7
          gi_wp2_with fail
          gi_meet
          case rel => exact ⟨by rw [E.out], by rw [E.out], rfl⟩
        have b1 : decide (rd l at_ < 128) = false := decide_eq_false k1
        by_cases k2 : 194 ≤ rd l at_ ∧ rd l at_ < 224
        · have b2 : decide (194 ≤ rd l at_) = true := decide_eq_true k2.1
          have b3 : decide (rd l at_ < 224) = true := decide_eq_true k2.2
          have E := Aside0.mk (show lead (rd l at_) = (2, rd l at_ % 32) by unfold lead; rw [if_neg k1, if_pos k2])
          clear e15 e7 k1 k2
          gi_wp2_with fail
          gi_meet
          case rel => exact ⟨by rw [E.out], by rw [E.out], rfl⟩
        by_cases k3 : 224 ≤ rd l at_ ∧ rd l at_ < 240
        · have b2 : decide (194 ≤ rd l at_) = true := decide_eq_true (by omega)
          have b3 : decide (rd l at_ < 224) = false := decide_eq_false (by omega)
          have b4 : decide (224 ≤ rd l at_) = true := decide_eq_true k3.1
          have b5 : decide (rd l at_ < 240) = true := decide_eq_true k3.2
          have E := Aside0.mk (show lead (rd l at_) = (3, rd l at_ % 16) by unfold lead; rw [if_neg k1, if_neg k2, if_pos k3])
          clear e31 e7 k1 k2 k3
          gi_wp2_with fail
          gi_meet
          case rel => exact ⟨by rw [E.out], by rw [E.out], rfl⟩
        by_cases k4 : 240 ≤ rd l at_ ∧ rd l at_ < 245
        · have b2 : decide (194 ≤ rd l at_) = true := decide_eq_true (by omega)
          have b3 : decide (rd l at_ < 224) = false := decide_eq_false (by omega)
          have b4 : decide (224 ≤ rd l at_) = true := decide_eq_true (by omega)
          have b5 : decide (rd l at_ < 240) = false := decide_eq_false (by omega)
          have b6 : decide (240 ≤ rd l at_) = true := decide_eq_true k4.1
          have b7 : decide (rd l at_ < 245) = true := decide_eq_true k4.2
          have E := Aside0.mk (show lead (rd l at_) = (4, rd l at_ % 8) by unfold lead; rw [if_neg k1, if_neg k2, if_neg k3, if_pos k4])
          clear e31 e15 k1 k2 k3 k4
          gi_wp2_with fail
          gi_meet
          case rel => exact ⟨by rw [E.out], by rw [E.out], rfl⟩
        have E := Aside0.mk (show lead (rd l at_) = (0, rd l at_) by unfold lead; rw [if_neg k1, if_neg k2, if_neg k3, if_neg k4])
        clear e31 e15 e7
        by_cases k5 : rd l at_ < 194
        · have b2 : decide (194 ≤ rd l at_) = false := decide_eq_false (by omega)
          have b4 : decide (224 ≤ rd l at_) = false := decide_eq_false (by omega)
          have b6 : decide (240 ≤ rd l at_) = false := decide_eq_false (by omega)
          clear k1 k2 k3 k4 k5
          gi_wp2_with fail
          gi_meet
          case rel => exact ⟨by rw [E.out], by rw [E.out], rfl⟩
        · have b2 : decide (194 ≤ rd l at_) = true := decide_eq_true (by omega)
          have b3 : decide (rd l at_ < 224) = false := decide_eq_false (by omega)
          have b4 : decide (224 ≤ rd l at_) = true := decide_eq_true (by omega)
          have b5 : decide (rd l at_ < 240) = false := decide_eq_false (by omega)
          have b6 : decide (240 ≤ rd l at_) = true := decide_eq_true (by omega)
          have b7 : decide (rd l at_ < 245) = false := decide_eq_false (by omega)
          clear k1 k2 k3 k4 k5
          gi_wp2_with fail
          gi_meet
          case rel => exact ⟨by rw [E.out], by rw [E.out], rfl⟩
      case rest =>
        obtain ⟨rfl, rfl, rfl⟩ := hcut
        have hcb2 : (wo.drewN nq).cell? ⟨Bn, 0, none⟩ = some (.slice (some ad) l.length c) := by simpa using hcb
        have hlb := lead_bounds _ hc0 hc1
        gi_step
        gi_step
        gi_cut [4] from 6 (fun s4 wx => s4 = .int .i64 (if (lead (rd l at_)).1 > (l.length : Int) - at_ then 0 else (lead (rd l at_)).1) ∧ wx = wo.drewN nq)
        case first =>
          by_cases hn2 : (lead (rd l at_)).1 > (l.length : Int) - at_
          · have b1 : decide ((l.length : Int) - at_ < (lead (rd l at_)).1) = true := decide_eq_true hn2
            have E := Aside0.mk hn2
            clear hn2
            gi_wp2_with fail
            gi_meet
            case rel => exact ⟨by rw [if_pos E.out], rfl⟩
          · have b1 : decide ((l.length : Int) - at_ < (lead (rd l at_)).1) = false := decide_eq_false hn2
            have E := Aside0.mk hn2
            clear hn2
            gi_wp2_with fail
            gi_meet
            case rel => exact ⟨by rw [if_neg (by have := E.out; omega)], rfl⟩
        case rest =>
          obtain ⟨rfl, rfl⟩ := hcut
          obtain ⟨n2, hn2⟩ : ∃ n2, (if (lead (rd l at_)).1 > (l.length : Int) - at_ then 0 else (lead (rd l at_)).1) = n2 := ⟨_, rfl⟩
          have hnb : n2 ≤ 4 ∧ 0 ≤ n2 ∧ n2 ≤ (l.length : Int) - at_ := by rw [← hn2]; split <;> omega
          rw [hn2]
          have HS := Aside0.mk (show goes l at_ 4 1 n2 (lead (rd l at_)).2 = scanned l at_ by unfold scanned; simp only [hn2])
          clear hn2
          obtain ⟨hn4, hn0, hnl⟩ := hnb
          obtain ⟨hl0, hl4, hr0, hr255⟩ := hlb
          clear hl0 hl4
          gi_step
          gi_step
          gi_cut [4, 5] from 6 (fun s4 s5 wx => s4 = .int .i64 (scanned l at_).1 ∧ s5 = .int .i64 (scanned l at_).2 ∧ wx = wo.drewN nq)
          case first =>
            gi_wp2_with fail
            gi_loopg [4, 5, 7] 4 (fun gk4 v4 v5 v7 wx => ∃ i n r : Int, v4 = .int .i64 n ∧ v5 = .int .i64 r ∧ v7 = .int .i64 i ∧ 1 ≤ i ∧ n ≤ 4 ∧ n ≤ (l.length : Int) - at_ ∧ 0 ≤ r ∧ i + gk4 = 5 ∧ Aside0 (i = 1 ∧ r ≤ 255 ∨ i = 2 ∧ r ≤ 16383 ∨ i = 3 ∧ r ≤ 1048575 ∨ i = 4 ∧ r ≤ 67108863) ∧ Aside0 (goes l at_ gk4 i n r = scanned l at_) ∧ wx = wo.drewN nq)
            case atStart => exact ⟨1, n2, _, rfl, rfl, rfl, by omega, hn4, hnl, hr0, by omega, ⟨.inl ⟨rfl, hr255⟩⟩, HS, rfl⟩
            case round =>
              obtain ⟨i, n3, r, rfl, rfl, rfl, hi1, hn4', hnl', hr0', hig, HRB, HG, rfl⟩ := hrel
              cases gk with
              | zero => exact absurd HRB.out (by omega)
              | succ k1 =>
                by_cases hin : i < n3
                · obtain ⟨ad2, e2, hc2⟩ := Kd.at_int (Kd.C_drewN (Kd.C_below HR.out HB.out) nq) (at_ + i) (by omega) (by omega)
                  obtain rfl : ad = ad2 := by injection e2
                  obtain ⟨hd0, hd1⟩ := HBY.out (at_ + i) (by omega) (by omega)
                  have e6 := Aside0.mk (show Go.bits .and .u8 (rd l (at_ + i)) 63 = rd l (at_ + i) % 64 from u8_and63 _ hd0 (by omega))
                  have hrb : r ≤ 67108863 := by have := HRB.out; omega
                  have hai : 0 ≤ at_ + i := by omega
                  have hai2 : at_ + i < (l.length : Int) := by omega
                  have hk1 : i + k1 = 4 := by omega
                  have hrb64 : wrap64 (r * 64) = r * 64 := by unfold wrap64; omega
                  by_cases hm : 128 ≤ rd l (at_ + i) ∧ rd l (at_ + i) < 192
                  · have em : (Go.bits .and .u8 (rd l (at_ + i)) 192 != 128) = false := mask_yes _ hd0 hd1 hm
                    have G := Aside0.mk (show goes l at_ k1 (i + 1) n3 (r * 64 + rd l (at_ + i) % 64) = scanned l at_ by rw [← HG.out, goes, if_pos hin, if_pos hm])
                    have er := or_low r (rd l (at_ + i) % 64) hr0' (by omega) (by omega) (by omega)
                    have e6' := e6.out
                    clear HG hm
                    gi_wp2_with fail
                    gi_roundg k1
                    case measure => omega
                    case rel => exact ⟨i + 1, n3, r * 64 + rd l (at_ + i) % 64, rfl, rfl, rfl, by omega, hn4', hnl', by omega, by omega, ⟨by have := HRB.out; omega⟩, G, rfl⟩
                  · have em : (Go.bits .and .u8 (rd l (at_ + i)) 192 != 128) = true := mask_no _ hd0 hd1 hm
                    have G := Aside0.mk (show (0, r) = scanned l at_ by rw [← HG.out, goes, if_pos hin, if_neg hm])
                    clear HG hm
                    gi_wp2_with fail
                    gi_meet
                    case rel => exact ⟨by rw [← G.out], by rw [← G.out], rfl⟩
                · have G := Aside0.mk (show (n3, r) = scanned l at_ by rw [← HG.out, goes, if_neg hin])
                  clear HG
                  gi_wp2_with fail
                  gi_meet
                  case rel => exact ⟨by rw [← G.out], by rw [← G.out], rfl⟩
          case rest => 
            obtain ⟨rfl, rfl, rfl⟩ := hcut
            have hsn := scanned_n l at_ hc0 hc1 hlt
            clear HS hr0 hr255 hn4 hn0 hnl
            obtain ⟨K, rfl⟩ : ∃ K, gko = K + 2 := ⟨gko - 2, by omega⟩
            have HU2 := Aside0.mk (show units l = (pre ++ [unitAt l at_]) ++ unitsFrom l K (at_ + (unitAt l at_).f2) by
              have := HU.out
              rw [show K + 2 - 1 = K + 1 from rfl, unitsFrom, if_pos hlt] at this
              rw [this]; simp)
            have hlen : pre.length < (units l).length := by rw [HU2.out]; simp
            have HB2 : Aside0 (Below w0.heap.size w0 (wo.drewN nq)) := ⟨pw_below_drewN HB.out nq⟩
            have hYY := HY.out pre (unitAt l at_) (wo.drewN nq) (hJd _ _ _ HJ.out) hlen
            clear HU hlen
            by_cases hbad : (scanned l at_).1 = 0 ∨ cp (scanned l at_).2 = false ∨ wid (scanned l at_).2 ≠ (scanned l at_).1
            · have HX := Aside0.mk (show unitAt l at_ = ⟨65533, at_, 1, true⟩ by unfold unitAt; simp only; rw [if_pos hbad])
              rw [HX.out] at hYY
              obtain ⟨fn, tmps, assign, body, hy, hR⟩ := hYY
              dsimp only [enc35] at hy
              have HRR := Aside0.mk hR
              clear hR
              by_cases hz : (scanned l at_).1 = 0
              · have bz : ((scanned l at_).1 == 0) = true := beq_iff_eq.mpr hz
                have HZ := Aside0.mk hz
                clear hz hbad
                gi_wp2_with (first | (with_reducible refine fn_wide ?_) | (gi_at_call 26; refine (callsIn_wide.2 (u_right _ _)).mono ?_; rintro e w' ⟨rfl, rfl⟩) | (gi_at_call 34; refine (callsIn_wide.2 (u_width _ _)).mono ?_; rintro e w' ⟨rfl, rfl⟩))
                refine HRR.out.mono ?_
                rintro e W' (⟨rfl, hJ', hk, hkc⟩ | ⟨rfl, hJx'⟩)
                · have HKC := Aside0.mk hkc
                  clear hkc
                  gi_wp2_with fail
                  gi_roundg (K + 1)
                  case measure => omega
                  case rel => exact ⟨at_ + 1, pre ++ [(⟨65533, at_, 1, true⟩ : S35)], rfl, by omega, by omega, by omega, ⟨by have := HU2.out; rw [HX.out] at this; exact this⟩, ⟨hJ'⟩, ⟨HB2.out.trans hk⟩, ⟨HKC.out.trans HCB.out⟩⟩
                · gi_wp2_with fail
                  rw [Exit.noGoto_ret]
                  refine bodyPost_ret (results_none rfl _ _ _) rfl ?_
                  exact ⟨⟨_, rfl⟩, .inr ⟨_, ⟨_, by have := HU2.out; rw [HX.out] at this; exact this.symm⟩, hJx'⟩⟩
              · have bz : ((scanned l at_).1 == 0) = false := beq_eq_false_iff_ne.mpr hz
                by_cases hcp : cp (scanned l at_).2 = true
                · have bw : (wid (scanned l at_).2 != (scanned l at_).1) = true := bne_iff_ne.mpr (by rcases hbad with h | h | h; exact absurd h hz; rw [hcp] at h; exact absurd h (by decide); exact h)
                  clear hz hbad
                  gi_wp2_with (first | (with_reducible refine fn_wide ?_) | (gi_at_call 26; refine (callsIn_wide.2 (u_right _ _)).mono ?_; rintro e w' ⟨rfl, rfl⟩) | (gi_at_call 34; refine (callsIn_wide.2 (u_width _ _)).mono ?_; rintro e w' ⟨rfl, rfl⟩))
                  refine HRR.out.mono ?_
                  rintro e W' (⟨rfl, hJ', hk, hkc⟩ | ⟨rfl, hJx'⟩)
                  · have HKC := Aside0.mk hkc
                    clear hkc
                    gi_wp2_with fail
                    gi_roundg (K + 1)
                    case measure => omega
                    case rel => exact ⟨at_ + 1, pre ++ [(⟨65533, at_, 1, true⟩ : S35)], rfl, by omega, by omega, by omega, ⟨by have := HU2.out; rw [HX.out] at this; exact this⟩, ⟨hJ'⟩, ⟨HB2.out.trans hk⟩, ⟨HKC.out.trans HCB.out⟩⟩
                  · gi_wp2_with fail
                    rw [Exit.noGoto_ret]
                    refine bodyPost_ret (results_none rfl _ _ _) rfl ?_
                    exact ⟨⟨_, rfl⟩, .inr ⟨_, ⟨_, by have := HU2.out; rw [HX.out] at this; exact this.symm⟩, hJx'⟩⟩
                · replace hcp := Bool.eq_false_iff.mpr hcp
                  clear hz hbad
                  gi_wp2_with (first | (with_reducible refine fn_wide ?_) | (gi_at_call 26; refine (callsIn_wide.2 (u_right _ _)).mono ?_; rintro e w' ⟨rfl, rfl⟩) | (gi_at_call 34; refine (callsIn_wide.2 (u_width _ _)).mono ?_; rintro e w' ⟨rfl, rfl⟩))
                  refine HRR.out.mono ?_
                  rintro e W' (⟨rfl, hJ', hk, hkc⟩ | ⟨rfl, hJx'⟩)
                  · have HKC := Aside0.mk hkc
                    clear hkc
                    gi_wp2_with fail
                    gi_roundg (K + 1)
                    case measure => omega
                    case rel => exact ⟨at_ + 1, pre ++ [(⟨65533, at_, 1, true⟩ : S35)], rfl, by omega, by omega, by omega, ⟨by have := HU2.out; rw [HX.out] at this; exact this⟩, ⟨hJ'⟩, ⟨HB2.out.trans hk⟩, ⟨HKC.out.trans HCB.out⟩⟩
                  · gi_wp2_with fail
                    rw [Exit.noGoto_ret]
                    refine bodyPost_ret (results_none rfl _ _ _) rfl ?_
                    exact ⟨⟨_, rfl⟩, .inr ⟨_, ⟨_, by have := HU2.out; rw [HX.out] at this; exact this.symm⟩, hJx'⟩⟩
            · have hgood : (scanned l at_).1 ≠ 0 ∧ cp (scanned l at_).2 = true ∧ wid (scanned l at_).2 = (scanned l at_).1 := by
                refine ⟨fun h => hbad (.inl h), ?_, ?_⟩
                · cases h : cp (scanned l at_).2 with
                  | true => rfl
                  | false => exact absurd (.inr (.inl h)) hbad
                · exact Classical.byContradiction fun h => hbad (.inr (.inr h))
              have HX := Aside0.mk (show unitAt l at_ = ⟨(scanned l at_).2, at_, (scanned l at_).1, false⟩ by unfold unitAt; simp only; rw [if_neg hbad])
              rw [HX.out] at hYY
              obtain ⟨fn, tmps, assign, body, hy, hR⟩ := hYY
              dsimp only [enc35] at hy
              have HRR := Aside0.mk hR
              clear hR
              have bz : ((scanned l at_).1 == 0) = false := beq_eq_false_iff_ne.mpr hgood.1
              have hcp := hgood.2.1
              have bw : (wid (scanned l at_).2 != (scanned l at_).1) = false := bne_eq_false_iff_eq.mpr hgood.2.2
              have hs1 : 1 ≤ (scanned l at_).1 := by have := hgood.1; omega
              clear hgood hbad
              gi_wp2_with (first | (with_reducible refine fn_wide ?_) | (gi_at_call 26; refine (callsIn_wide.2 (u_right _ _)).mono ?_; rintro e w' ⟨rfl, rfl⟩) | (gi_at_call 34; refine (callsIn_wide.2 (u_width _ _)).mono ?_; rintro e w' ⟨rfl, rfl⟩))
              refine HRR.out.mono ?_
              rintro e W' (⟨rfl, hJ', hk, hkc⟩ | ⟨rfl, hJx'⟩)
              · have HKC := Aside0.mk hkc
                clear hkc
                gi_wp2_with fail
                gi_roundg (K + 1)
                case measure => omega
                case rel => exact ⟨at_ + (scanned l at_).1, pre ++ [(⟨(scanned l at_).2, at_, (scanned l at_).1, false⟩ : S35)], rfl, by omega, by omega, by omega, ⟨by have := HU2.out; rw [HX.out] at this; exact this⟩, ⟨hJ'⟩, ⟨HB2.out.trans hk⟩, ⟨HKC.out.trans HCB.out⟩⟩
              · gi_wp2_with fail
                rw [Exit.noGoto_ret]
                refine bodyPost_ret (results_none rfl _ _ _) rfl ?_
                exact ⟨⟨_, rfl⟩, .inr ⟨_, ⟨_, by have := HU2.out; rw [HX.out] at this; exact this.symm⟩, hJx'⟩⟩
    · gi_wp2_with fail
      go_end0
      refine ⟨⟨_, rfl⟩, .inl ⟨_, rfl, ?_⟩⟩
      have := HU.out
      have hE : unitsFrom l (gko - 1) at_ = [] := by
        cases hk : gko - 1 with
        | zero => rfl
        | succ k => rw [unitsFrom, if_neg (by omega)]
      rw [hE, List.append_nil] at this
      rw [this]
      exact HJ.out
end Go.Proofs.Ytefomeabnlecoaa.Print
