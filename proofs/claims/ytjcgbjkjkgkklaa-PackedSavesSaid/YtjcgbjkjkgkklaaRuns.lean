/- The contract of packed.runs: its iterator yields a row's runs, one behind the other. -/
import Derived.Test.YtjcgbjkjkgkklaaPrint0
import Derived.RangeFuncNested
import Derived.RangeFuncBound
import Derived.RangeFuncCalls
import Derived.RangeFuncLeaves
import Derived.Shelf.Abstract
import Derived.WalkKit
import Derived.OwnWalkIn
import Derived.TacticsInMore
import Derived.LoopNIn
import Derived.LoopIn
import Derived.Sort.LoopGhostIn
import Derived.Sort.CutIn
import Derived.Sort.QuietIn
import Derived.WalkMore
namespace Go.Proofs.Ytjcgbjkjkgkklaa.Print
open Go.RowKit Go.Shelf Go.Proofs.YtjcgbjkjkgkklaaW.PrintWords Go.Proofs.YtjcgbjkjkgkklaaW.PrintLast Go.Proofs.YtjcgbjkjkgkklaaW.PrintMore
attribute [local go_sem] Oper.semAt_some
set_option linter.unusedVariables false
set_option linter.unusedSimpArgs false

/-- The runs of a row: how many, and of which state; from_: where the run began, i: where it is read. -/
def runsGo (row : List Int) : Nat → Nat → Nat → List (Int × Int)
  | 0, _, _ => []
  | k + 1, from_, i => if i ≤ row.length then (if i < row.length ∧ rd row i = rd row from_ then runsGo row k from_ (i + 1) else ((i : Int) - from_, rd row from_) :: runsGo row k i (i + 1)) else []
def runsOf (row : List Int) : List (Int × Int) := runsGo row row.length 0 1

theorem fn_wide {f : Nat} {p : Prop} (h : p) : Fence.wide.fn f ∧ p := ⟨trivial, h⟩

theorem runs_call (A : Option Addr) (n c : Nat) (w : World) :
    Calls Try.prog 22 #[.slice A n c] w fun e w' => e = .returned (.func (.func 32) #[] #[.pointer (some ⟨w.heap.size, 0, none⟩)]) ∧ w' = w.alloc (.cells #[.slice A n c] 43) := by
  go_enter Try.func22, Try.ntmps22
  go_wp2
  go_ret
  exact ⟨rfl, rfl⟩

set_option maxRecDepth 100000 in
set_option maxHeartbeats 4000000 in
theorem runs1_in (n : Nat) (hn : 1 ≤ n) (lp Bn : Nat) (A : Option Addr) (c : Nat) (l : List Int) (w0 : World) (hl : l.length ≤ 9223372036854775806)
    (hr : Kd.C (Kd.int .i64) w0 A l.length l) (J Jx : List (Int × Int) → World → Prop) (hJd : ∀ pre W m, J pre W → J pre (World.drewN W m))
    (hY : ∀ pre (x : Int × Int) W, J pre W → pre.length < (runsOf l).length → pre ++ [x] <+: runsOf l → YieldAt Fence.wide (n - 1) Try.prog lp #[.int .i64 x.1, .int .i64 x.2] W fun e W' =>
      (e = .returned (.bool true) ∧ J (pre ++ [x]) W' ∧ Below w0.heap.size W W' ∧ W'.cell? ⟨Bn, 0, none⟩ = W.cell? ⟨Bn, 0, none⟩) ∨ (e = .returned (.bool false) ∧ Jx (pre ++ [x]) W'))
    (W : World) (hW : Below w0.heap.size w0 W) (hBn : W.cell? ⟨Bn, 0, none⟩ = some (.slice A l.length c)) (h0 : J [] W) :
    CallsIn Fence.wide n Try.prog 32 #[.func (.yield lp) #[] #[], .pointer (some ⟨Bn, 0, none⟩)] W fun e W' => (∃ v, e = .returned v) ∧
      ((∃ ys, ys = runsOf l ∧ J ys W') ∨ (∃ pre, pre <+: runsOf l ∧ Jx pre W')) := by
  have HR := Aside0.mk hr
  have HBN := Aside0.mk hBn
  have HW := Aside0.mk hW
  have HY := Aside0.mk hY
  have HJ0 := Aside0.mk h0
  clear hr hBn hW hY h0
  refine callsIn_of_wp Try.func32 rfl trivial ?_ rfl
  simp only [Try.ntmps32, List.size_toArray, List.length_cons, List.length_nil, Nat.reduceAdd, Nat.reduceSub, Array.replicate_succ, Array.replicate_zero, List.push_toArray, List.append_toArray, List.nil_append, List.cons_append]
  gi_wp2
  gi_loopg [3, 4] (l.length + 1) (fun gk v3 v4 wr => ∃ (fr i : Nat) (pre : List (Int × Int)), v3 = .int .i64 fr ∧ v4 = .int .i64 i ∧ fr < i ∧ i ≤ l.length + 1 ∧ i + gk = l.length + 2 ∧ Aside0 (runsOf l = pre ++ runsGo l (l.length + 1 - i) fr i) ∧ Aside0 (J pre wr) ∧ Aside0 (Below w0.heap.size w0 wr) ∧ Aside0 (wr.cell? ⟨Bn, 0, none⟩ = some (.slice A l.length c)))
  case atStart => exact ⟨0, 1, [], rfl, rfl, by omega, by omega, by omega, ⟨by simp [runsOf]⟩, HJ0, HW, HBN⟩
  case round =>
    obtain ⟨fr, i, pre, rfl, rfl, hfi, hi, hgk, HU, HJ, HB, HCB⟩ := hrel
    obtain ⟨wo, rfl⟩ : ∃ wo : World, wo = wr := ⟨_, rfl⟩
    have hcb : wo.cell? ⟨Bn, 0, none⟩ = some (.slice A l.length c) := HCB.out
    by_cases hle : i ≤ l.length
    · have hlez : (i : Int) ≤ (l.length : Int) := by omega
      obtain ⟨ad, e1, hc⟩ := Kd.at_int (Kd.C_below HR.out (HB.out)) (fr : Int) (by omega) (by omega)
      subst e1
      have hcd : ∀ m, (wo.drewN m).cell? (ad.add fr) = some (.int .i64 (rd l fr)) := fun m => by simpa using hc
      have HC := Aside0.mk hc
      rw [Int.toNat_natCast] at hc
      obtain ⟨K, hK⟩ : ∃ K, l.length + 1 - i = K + 1 := ⟨l.length - i, by omega⟩
      rw [hK] at HU
      by_cases heq : i < l.length ∧ rd l i = rd l fr
      · have HU2 := Aside0.mk (show runsOf l = pre ++ runsGo l K fr (i + 1) by rw [HU.out, runsGo, if_pos hle, if_pos heq])
        obtain ⟨h1, h2⟩ := heq
        have h1z : (i : Int) < (l.length : Int) := by omega
        obtain ⟨ad2, e2, hc2⟩ := Kd.at_int (Kd.C_below HR.out (HB.out)) (i : Int) (by omega) h1z
        obtain rfl : ad = ad2 := by injection e2
        rw [Int.toNat_natCast, h2] at hc2
        clear HU h2
        have hb := beq_self_eq_true (rd l fr)
        gi_wp2_with fail
        gi_quiet (fail)
        gi_wp2_with fail
        gi_roundg (gk - 1)
        case measure => omega
        case rel => exact ⟨fr, i + 1, pre, rfl, by go_num, by omega, by omega, by omega, ⟨by rw [HU2.out, show l.length + 1 - (i + 1) = K from by omega]⟩, ⟨hJd _ _ _ HJ.out⟩, ⟨pw_below_drewN HB.out _⟩, ⟨by simpa using HCB.out⟩⟩
      · have HU2 := Aside0.mk (show runsOf l = (pre ++ [((i : Int) - fr, rd l fr)]) ++ runsGo l K i (i + 1) by rw [HU.out, runsGo, if_pos hle, if_neg heq]; simp)
        have hlen : pre.length < (runsOf l).length := by rw [HU2.out]; simp
        clear HU
        by_cases h1 : i < l.length
        · have h1z : (i : Int) < (l.length : Int) := by omega
          have h2 : rd l i ≠ rd l fr := fun e => heq ⟨h1, e⟩
          have hb : (rd l i == rd l fr) = false := beq_eq_false_iff_ne.mpr h2
          obtain ⟨ad2, e2, hc2⟩ := Kd.at_int (Kd.C_below HR.out (HB.out)) (i : Int) (by omega) h1z
          obtain rfl : ad = ad2 := by injection e2
          rw [Int.toNat_natCast] at hc2
          clear h2 heq
          gi_wp2_with fail
          gi_quiet (fail)
          have hYY := HY.out pre ((i : Int) - fr, rd l fr) (wo.drewN nq) (hJd _ _ _ HJ.out) hlen ⟨_, HU2.out.symm⟩
          obtain ⟨fn, tmps, assign, body, hy, hR⟩ := hYY
          dsimp only at hy
          have HRR := Aside0.mk hR
          clear hR
          have hc3 := hcd nq
          have hcb3 : (wo.drewN nq).cell? ⟨Bn, 0, none⟩ = some (.slice (some ad) l.length c) := by simpa using hcb
          clear hc hcb hc2
          gi_wp2_with ((with_reducible refine fn_wide ?_))
          refine HRR.out.mono ?_
          rintro e W' (⟨rfl, hJ', hk, hkc⟩ | ⟨rfl, hJx'⟩)
          · have HKC := Aside0.mk hkc
            clear hkc
            gi_wp2_with fail
            gi_roundg (gk - 1)
            case measure => omega
            case rel => exact ⟨i, i + 1, _, rfl, by go_num, by omega, by omega, by omega, ⟨by rw [HU2.out, show l.length + 1 - (i + 1) = K from by omega]⟩, ⟨hJ'⟩, ⟨(pw_below_drewN HB.out _).trans hk⟩, ⟨HKC.out.trans hcb3⟩⟩
          · gi_wp2_with fail
            refine bodyPost_ret (results_none rfl _ _ _) rfl ?_
            exact ⟨⟨_, rfl⟩, .inr ⟨_, ⟨_, HU2.out.symm⟩, hJx'⟩⟩
        · have h1z : ¬ (i : Int) < (l.length : Int) := by omega
          clear heq
          gi_wp2_with fail
          gi_quiet (fail)
          have hYY := HY.out pre ((i : Int) - fr, rd l fr) (wo.drewN nq) (hJd _ _ _ HJ.out) hlen ⟨_, HU2.out.symm⟩
          obtain ⟨fn, tmps, assign, body, hy, hR⟩ := hYY
          dsimp only at hy
          have HRR := Aside0.mk hR
          clear hR
          have hc3 := hcd nq
          have hcb3 : (wo.drewN nq).cell? ⟨Bn, 0, none⟩ = some (.slice (some ad) l.length c) := by simpa using hcb
          clear hc hcb
          gi_wp2_with ((with_reducible refine fn_wide ?_))
          refine HRR.out.mono ?_
          rintro e W' (⟨rfl, hJ', hk, hkc⟩ | ⟨rfl, hJx'⟩)
          · have HKC := Aside0.mk hkc
            clear hkc
            gi_wp2_with fail
            gi_roundg (gk - 1)
            case measure => omega
            case rel => exact ⟨i, i + 1, _, rfl, by go_num, by omega, by omega, by omega, ⟨by rw [HU2.out, show l.length + 1 - (i + 1) = K from by omega]⟩, ⟨hJ'⟩, ⟨(pw_below_drewN HB.out _).trans hk⟩, ⟨HKC.out.trans hcb3⟩⟩
          · gi_wp2_with fail
            refine bodyPost_ret (results_none rfl _ _ _) rfl ?_
            exact ⟨⟨_, rfl⟩, .inr ⟨_, ⟨_, HU2.out.symm⟩, hJx'⟩⟩
    · have hlez : ¬ (i : Int) ≤ (l.length : Int) := by omega
      have hE : runsGo l (l.length + 1 - i) fr i = [] := by rw [show l.length + 1 - i = 0 from by omega]; rfl
      have HU2 := Aside0.mk (show runsOf l = pre by rw [HU.out, hE, List.append_nil])
      clear hE HU
      gi_wp2_with fail
      go_end0
      exact ⟨⟨_, rfl⟩, .inl (by rw [HU2.out]; exact HJ.out)⟩
end Go.Proofs.Ytjcgbjkjkgkklaa.Print
