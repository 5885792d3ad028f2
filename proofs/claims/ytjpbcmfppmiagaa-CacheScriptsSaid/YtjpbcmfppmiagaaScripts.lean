/- For every script: a cache of any size does any steps as the document says (the law's walk). -/
import Derived.Test.YtjpbcmfppmiagaaStep
import Derived.Test.YtjpbcmfppmiagaaTellsW
import Derived.Test.YtjpbcmfppmiagaaPrint4
-- NEEDS scansionref21_Same
namespace Go.Proofs.Ytjpbcmfppmiagaa.Print
open Go.RowKit Go.Maps Go.Proofs.YtjpbcmfppmiagaaW.PrintWords Go.Proofs.YtjpbcmfppmiagaaW.PrintLast Go.Proofs.YtjpbcmfppmiagaaW.PrintMore
set_option linter.unusedVariables false
set_option linter.unusedSimpArgs false

theorem ev_sameS (l : List ByteArray) (hl : l.length < 9223372036854775807) : ∀ (c i : Nat), i + c = l.length → Ev (fun k => scansionref21_Same.l0 k l l (i : Int)) true
  | 0, i, h => by
    refine (Ev.some_ true).succ fun k => ?_
    rw [scansionref21_Same.l0, if_neg (by omega)]
  | c + 1, i, h => by
    refine (ev_sameS l hl c (i + 1) (by omega)).succ fun k => ?_
    rw [scansionref21_Same.l0, if_pos (by omega), if_pos (by omega), if_pos (by omega), if_pos rfl, wrap_succ (by omega)]
theorem sameS_calls (A0 : Option Addr) (c0 : Nat) (l : List ByteArray) (A1 : Option Addr) (c1 : Nat) (w : World) (hr0 : Kd.C Kd.string w A0 l.length l) (hc0 : l.length ≤ c0) (hr1 : Kd.C Kd.string w A1 l.length l) (hc1 : l.length ≤ c1) (hl : l.length < 9223372036854775807) :
    Calls Try.prog 18 #[.slice A0 l.length c0, .slice A1 l.length c1] w fun e w' => e = .returned (.bool true) ∧ Below w.heap.size w w' := by
  obtain ⟨K, hK⟩ := ev_sameS l hl l.length 0 (by omega)
  refine (scansionref21_Same.calls K A0 c0 l A1 c1 l true w hr0 hc0 hr1 hc1 ?_).mono fun e w' h => ⟨h.1, h.2.below⟩
  unfold scansionref21_Same.f
  rw [if_pos rfl]
  exact hK K (Nat.le_refl _)
set_option maxHeartbeats 16000000 in
set_option maxRecDepth 100000 in
theorem scripts_calls (most : Int) (A : Option Addr) (c : Nat) (l : List S45) (W : World) (hr : Kd.C k45 W A l.length l) (hc : l.length ≤ c) (hg : ∀ x ∈ l, x.f2.size ≤ maxLen ∧ x.f3.length ≤ 17592186043904) (hln : l.length ≤ 9223372036854775807) :
    Calls Try.prog 7 #[.int .i64 most, .slice A l.length c] W fun e w' => e = .returned (.bool true) ∧ Below W.heap.size W w' := by
  have HR := Aside0.mk hr
  have HC := Aside0.mk hc
  have HG := Aside0.mk hg
  have HLN := Aside0.mk hln
  clear hr hc hg hln
  go_enter Try.func7, Try.ntmps7
  go_wp2_with fail
  refine (awake_calls _).mono ?_
  rintro e W1 ⟨rfl, hb⟩
  have HB1 := Aside0.mk hb
  clear hb
  cases hrt : rightN most with
  | false =>
    have HN := Aside0.mk (new_bad most W1 hrt)
    have HRT := Aside0.mk hrt
    clear hrt
    go_wp2_with fail
    refine HN.out.mono ?_
    rintro e W2 ⟨rfl, hb⟩
    have HB2 := Aside0.mk (below_step HB1.out hb)
    clear hb
    go_wp2_with fail
    refine (rnew_bad most W2 HRT.out).mono ?_
    rintro e W3 ⟨rfl, hb⟩
    have HB3 := Aside0.mk (below_step HB2.out hb)
    clear hb
    go_wp2_with fail
    go_loopg [10] 1 (fun gg s10 wr => s10 = .int .i64 0 ∧ wr = W3)
    case atStart => exact ⟨rfl, rfl⟩
    case round =>
      obtain ⟨rfl, rfl⟩ := hrel
      by_cases q : 0 < l.length
      · have q1 : ((0 : Int) < (l.length : Int)) = True := eq_true (by omega)
        have q2 : (0 < l.length) = True := eq_true q
        go_wp2_with fail
        go_ret
        exact ⟨rfl, HB3.out⟩
      · have q1 : ((0 : Int) < (l.length : Int)) = False := eq_false (by omega)
        have q2 : (0 < l.length) = False := eq_false q
        go_wp2_with fail
        go_ret
        exact ⟨rfl, HB3.out⟩
  | true =>
    have HN := Aside0.mk (new_good (fun _ => True) most W1 W.heap.size HB1.out.size hrt)
    have HMO := Aside0.mk (show 0 ≤ most ∧ most ≤ 1000 from of_decide_eq_true hrt)
    have HRT := Aside0.mk hrt
    clear hrt
    go_wp2_with fail
    refine HN.out.mono ?_
    rintro e W2 ⟨CB, MB, rfl, hi, hb, hC, hM⟩
    have HI2 := Aside0.mk hi
    have HB2 := Aside0.mk (below_step HB1.out hb)
    clear hi hb hC hM HB1 HN
    go_wp2_with fail
    refine (rnew_good most W2 W.heap.size HRT.out).mono ?_
    rintro e W3 ⟨RB, rfl, hr, hb, hRB⟩
    have HF := Aside0.mk (show AllAlike W CB MB RB W3 from ⟨_, _, _, most, noLists, [], 0, 0, HI2.out.later hb, hr, CS.start HMO.out.1, HMO.out, below_step HB2.out hb, Nat.le_trans HB2.out.size hRB⟩)
    clear hr hb hRB HI2 HB2
    go_wp2_with fail
    go_loopg [10] 150 (fun gg s10 wr => ∃ i : Nat, s10 = .int .i64 i ∧ i ≤ l.length ∧ i ≤ 150 ∧ 150 - i ≤ gg ∧ Aside0 (AllAlike W CB MB RB wr))
    case atStart => exact ⟨0, rfl, by omega, by omega, by omega, HF⟩
    case round =>
      clear HF
      obtain ⟨i, rfl, hi, hi2, hg, HF⟩ := hrel
      obtain ⟨vO, A2, c2, mo, m, o, h, nt, hb⟩ := HF.out
      have HB := Aside0.mk hb
      clear hb HF
      by_cases hlt : i < l.length
      · have hltz : (i : Int) < (l.length : Int) := by omega
        by_cases h150 : i < 150
        · have h150z : ((i : Int) < 150) = True := eq_true (by omega)
          have h150n : (i < 150) = True := eq_true h150
          obtain ⟨ad, A1, c1, e1, hx0, hx1, hx2, hx3, hxc, hxC⟩ := at_T45 HR.out (i : Int) (by omega) hltz
          subst e1
          rw [Int.toNat_natCast] at hx0 hx1 hx2 hx3
          have hxg := HG.out _ (rd_T45_mem hlt)
          obtain ⟨x, hx⟩ : ∃ x, rd_T45 l (i : Int) = x := ⟨_, rfl⟩
          rw [hx] at hx0 hx1 hx2 hx3 hxc hxC hxg
          clear hx
          have hx0 := cell_keep HB.out.bel hx0
          have hx1 := cell_keep HB.out.bel hx1
          have hx2 := cell_keep HB.out.bel hx2
          have hx3 := cell_keep HB.out.bel hx3
          obtain ⟨do_, num, key, lst⟩ := x
          simp only at hx0 hx1 hx2 hx3 hxc hxC hxg
          have HXC := Aside0.mk hxC
          have HXG := Aside0.mk hxg
          have HLT := Aside0.mk hlt
          have H150 := Aside0.mk h150
          clear hxc hxC hxg
          go_wp2_with fail
          refine (step_calls W CB MB RB wr vO A2 c2 mo m o h nt do_ num key A1 c1 lst HB.out HXG.out.1 HXG.out.2 HXC.out).mono ?_
          rintro e W4 ⟨rfl, vO4, A4, c4, mo4, m4, o4, h4, nt4, hb4⟩
          have HB4 := Aside0.mk hb4
          clear hb4 HB hx0 hx1 hx2 hx3 HXC HXG
          go_wp2_with fail
          refine (keys_calls (fun _ => True) W.heap.size CB MB vO4 mo4 m4 o4 h4 nt4 W4 HB4.out.ours (by have := HB4.out.small; omega)).mono ?_
          rintro e W5 ⟨u5, rfl, hu5, hb5⟩
          obtain ⟨AK, cK, rfl⟩ := Kd.R_slice hu5
          have HU5 := Aside0.mk hu5
          have HB5 := Aside0.mk (HB4.out.later hb5)
          clear hu5 hb5 HB4
          go_wp2_with fail
          refine (rkeys_calls W.heap.size RB A4 c4 mo4 (keptOf m4 o4) h4 nt4 W5 HB5.out.ref (by have := HB5.out.small; omega)).mono ?_
          rw [keptOf_keys]
          rintro e W6 ⟨u6, rfl, hu6, hb6⟩
          obtain ⟨AR, cR, rfl⟩ := Kd.R_slice hu6
          have HU6 := Aside0.mk hu6
          have HU5b := Aside0.mk (Kd.R_below HU5.out hb6)
          have HB6 := Aside0.mk (HB5.out.later hb6)
          clear hu6 hb6 HB5 HU5
          go_wp2_with fail
          refine (sameS_calls AK cK o4 AR cR W6 (Kd.R_reads' HU5b.out).2.2 (Kd.R_reads' HU5b.out).2.1 (Kd.R_reads' HU6.out).2.2 (Kd.R_reads' HU6.out).2.1 (by have := HB6.out.small; omega)).mono ?_
          rintro e W7 ⟨rfl, hb7⟩
          have HB7 := Aside0.mk (HB6.out.later hb7)
          clear hb7 HB6 HU5b HU6
          go_wp2_with fail
          refine (counts_calls (fun _ => True) W.heap.size CB MB vO4 mo4 m4 o4 h4 nt4 W7 HB7.out.ours).mono ?_
          rintro e W8 ⟨rfl, hb8⟩
          have HB8 := Aside0.mk (HB7.out.later hb8)
          clear hb8 HB7
          have z2 := HB8.out.ref.cells.2.2.1
          have z3 := HB8.out.ref.cells.2.2.2
          have b2 : (h4 != h4) = false := by simp
          have b3 : (nt4 != nt4) = false := by simp
          go_wp2_with fail
          go_roundg (150 - (i + 1))
          case measure => have := H150.out; omega
          case rel => exact ⟨i + 1, by first | rfl | rw [wrap_succ (by have := H150.out; omega)], by have := HLT.out; omega, by have := H150.out; omega, by omega, ⟨_, _, _, _, _, _, _, _, HB8.out⟩⟩
        · obtain rfl : i = 150 := by omega
          go_wp2_with fail
          go_ret
          exact ⟨rfl, HB.out.bel⟩
      · obtain rfl : i = l.length := by omega
        have hltz : ¬ (l.length : Int) < (l.length : Int) := by omega
        go_wp2_with fail
        go_ret
        exact ⟨rfl, HB.out.bel⟩
end Go.Proofs.Ytjpbcmfppmiagaa.Print
