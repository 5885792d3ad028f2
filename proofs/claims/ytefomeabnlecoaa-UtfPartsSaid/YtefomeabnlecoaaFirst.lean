/- The contract of the reference's first(b), walked by hand with the ways of its switch joined: the verdict on the code point that it reckons. -/
import Derived.Test.YtefomeabnlecoaaPrint5
import Derived.Test.YtefomeabnlecoaaLawB
import Derived.Test.YtefomeabnlecoaaUnits
import Derived.WalkMore
-- NEEDS scansionref01_Encode scansionref01_low
namespace Go.Proofs.Ytefomeabnlecoaa.Print
open Go.RowKit Go.Shelf Go.Proofs.YtefomeabnlecoaaW.PrintWords Go.Proofs.YtefomeabnlecoaaW.PrintLast Go.Proofs.YtefomeabnlecoaaW.PrintMore
set_option linter.unusedVariables false
set_option linter.unusedSimpArgs false

/-- The code point that the reference reckons, and of how many bytes. -/
def cand (s : List Int) : Int × Nat :=
  if rd s 0 < 128 then (rd s 0, 1)
  else if rd s 0 ≥ 192 ∧ rd s 0 < 224 ∧ 2 ≤ s.length then ((rd s 0 - 192) * 64 + rd s 1 % 64, 2)
  else if rd s 0 ≥ 224 ∧ rd s 0 < 240 ∧ 3 ≤ s.length then ((rd s 0 - 224) * 4096 + rd s 1 % 64 * 64 + rd s 2 % 64, 3)
  else if rd s 0 ≥ 240 ∧ rd s 0 < 248 ∧ 4 ≤ s.length then ((rd s 0 - 240) * 262144 + rd s 1 % 64 * 4096 + rd s 2 % 64 * 64 + rd s 3 % 64, 4)
  else (-1, 1)

def verdict (s : List Int) (r : Int) (m : Nat) : Int × Int × Int × Bool := if cp r = true ∧ Pure.bytesOf r = s.take m then (r, 0, (m : Int), false) else (65533, 0, 1, true)

theorem cand_le (s : List Int) (h0 : 0 < s.length) : (cand s).2 ≤ s.length ∧ 1 ≤ (cand s).2 := by
  unfold cand
  split
  · exact ⟨h0, Nat.le_refl 1⟩
  split
  · rename_i h; exact ⟨h.2.2, by show 1 ≤ _; omega⟩
  split
  · rename_i h; exact ⟨h.2.2, by show 1 ≤ _; omega⟩
  split
  · rename_i h; exact ⟨h.2.2, by show 1 ≤ _; omega⟩
  · exact ⟨h0, Nat.le_refl 1⟩

theorem u_low (x : Int) (h0 : 0 ≤ x) (h1 : x ≤ 255) (w : World) : Calls Try.prog 35 #[.int .u8 x] w fun e w' => e = .returned (.int .i64 (x % 64)) ∧ w' = w := by
  go_enter Try.func35, Try.ntmps35
  go_wp2
  go_ret
  exact ⟨rfl, rfl⟩

theorem cells_at (s : List Int) {w : World} {A : Option Addr} (hr : Kd.C (Kd.int .u8) w A s.length s) (h0 : 0 < s.length) : ∃ ad, A = some ad ∧ ∀ k : Nat, k < s.length → w.cell? (ad.add k) = some (.int .u8 (rd s k)) := by
  obtain ⟨ad, e, hc⟩ := Kd.at_int hr 0 (by omega) (by omega)
  refine ⟨ad, e, fun k hk => ?_⟩
  obtain ⟨ad', e', hc'⟩ := Kd.at_int hr k (by omega) (by omega)
  obtain rfl : ad = ad' := by rw [e] at e'; injection e'
  simpa using hc'

theorem Try.info5' : (Try.prog.info? 5).map (fun i => (i.zero, i.size, i.bytes)) = some (some (.int .u8 0), 1, 1) := by kernel_rfl
theorem box9 {w w9 : World} {nd : Nat} (hb : Below ((w.alloc (.cells #[.int .i64 0, .int .i64 0, .int .i64 0, .bool false] 35)).drewN nd).heap.size ((w.alloc (.cells #[.int .i64 0, .int .i64 0, .int .i64 0, .bool false] 35)).drewN nd) w9) :
    w9.heap[w.heap.size]? = some (.cells #[.int .i64 0, .int .i64 0, .int .i64 0, .bool false] 35 (0, 0)) :=
  (hb.block w.heap.size (by simp)).trans (blk_drewN (World.alloc_heap_new w _) nd)
theorem box_cells {w : World} {g : Nat} {a b c d : Value} {t : Nat} (h : w.heap[g]? = some (.cells #[a, b, c, d] t (0, 0))) :
    w.cell? ⟨g, 0, none⟩ = some a ∧ w.cell? ⟨g, 1, none⟩ = some b ∧ w.cell? ⟨g, 2, none⟩ = some c ∧ w.cell? ⟨g, 3, none⟩ = some d ∧ w.frozen? ⟨g, 0, none⟩ = false ∧ w.frozen? ⟨g, 1, none⟩ = false ∧ w.frozen? ⟨g, 2, none⟩ = false ∧ w.frozen? ⟨g, 3, none⟩ = false := by
  refine ⟨?_, ?_, ?_, ?_, ?_, ?_, ?_, ?_⟩ <;> simp [World.cell?, World.frozen?, h]
theorem box_put {w : World} {g : Nat} {a b c d : Value} {t : Nat} (h : w.heap[g]? = some (.cells #[a, b, c, d] t (0, 0))) (a' b' c' d' : Value) :
    ((((w.setCell ⟨g, 0, none⟩ a').setCell ⟨g, 1, none⟩ b').setCell ⟨g, 2, none⟩ c').setCell ⟨g, 3, none⟩ d').heap[g]? = some (.cells #[a', b', c', d'] t (0, 0)) :=
  blk_put (cs := #[a', b', c', d]) (blk_put (cs := #[a', b', c, d]) (blk_put (cs := #[a', b, c, d]) (blk_put (cs := #[a, b, c, d]) h 0 _ rfl) 1 _ rfl) 2 _ rfl) 3 _ rfl
theorem box_below {w w9 : World} (h : Below w.heap.size w w9) (a' b' c' d' : Value) : Below w.heap.size w ((((w9.setCell ⟨w.heap.size, 0, none⟩ a').setCell ⟨w.heap.size, 1, none⟩ b').setCell ⟨w.heap.size, 2, none⟩ c').setCell ⟨w.heap.size, 3, none⟩ d') :=
  (((h.setCell (p := ⟨w.heap.size, 0, none⟩) (Nat.le_refl _) _).setCell (p := ⟨w.heap.size, 1, none⟩) (Nat.le_refl _) _).setCell (p := ⟨w.heap.size, 2, none⟩) (Nat.le_refl _) _).setCell (p := ⟨w.heap.size, 3, none⟩) (Nat.le_refl _) _

set_option maxRecDepth 100000 in
set_option maxHeartbeats 4000000 in
theorem first_calls (A0 : Option Addr) (c0 : Nat) (l0 : List Int) (w : World) (hr0 : Kd.C (Kd.int .u8) w A0 l0.length l0) (hc0 : l0.length ≤ c0) (hs : Pure.IsBytes l0) (h0 : 0 < l0.length) :
    Calls Try.prog 29 #[.slice A0 l0.length c0] w fun e w' => e = .returned (.agg #[.int .i64 (verdict l0 (cand l0).1 (cand l0).2).1, .int .i64 (verdict l0 (cand l0).1 (cand l0).2).2.1, .int .i64 (verdict l0 (cand l0).1 (cand l0).2).2.2.1, .bool (verdict l0 (cand l0).1 (cand l0).2).2.2.2]) ∧ Below w.heap.size w w' := by
  have hl := Kd.C_max hr0
  obtain ⟨r, m, hrm⟩ : ∃ r m, cand l0 = (r, m) := ⟨_, _, rfl⟩
  have HRM := Aside0.mk hrm
  rw [hrm]
  obtain ⟨V1, V2, V3, V4, hV⟩ : ∃ V1 V2 V3 V4, verdict l0 r m = (V1, V2, V3, V4) := ⟨_, _, _, _, rfl⟩
  have HV := Aside0.mk hV
  simp only [hV]
  clear hrm hV
  obtain ⟨ad, rfl, hcell⟩ := cells_at l0 (Kd.C_alloc hr0 (.cells #[.int .i64 0, .int .i64 0, .int .i64 0, .bool false] 35)) h0
  have HC := Aside0.mk hcell
  have hx0 := hcell 0 h0
  rw [Addr.add_zero'] at hx0
  have hx0' : (w.alloc (.cells #[.int .i64 0, .int .i64 0, .int .i64 0, .bool false] 35)).cell? ad = some (.int .u8 (rd l0 0)) := hx0
  clear hx0
  have HR := Aside0.mk (Kd.C_alloc hr0 (.cells #[.int .i64 0, .int .i64 0, .int .i64 0, .bool false] 35))
  obtain ⟨b00, b01⟩ := Pure.rd_byte hs 0
  obtain ⟨b10, b11⟩ := Pure.rd_byte hs 1
  obtain ⟨b20, b21⟩ := Pure.rd_byte hs 2
  obtain ⟨b30, b31⟩ := Pure.rd_byte hs 3
  clear hcell hr0
  have q0 : (0 < l0.length) = True := eq_true h0
  go_enter Try.func29, Try.ntmps29
  go_upto_block 0 with fail
  go_cut [3, 4] from 6 to 96 (fun s3 s4 wc => s3 = .int .i64 r ∧ s4 = .int .i64 (m : Int) ∧ ∃ n, wc = (w.alloc (.cells #[.int .i64 0, .int .i64 0, .int .i64 0, .bool false] 35)).drewN n)
  case first =>
    by_cases k1 : rd l0 0 < 128
    · have E := Aside0.mk (show cand l0 = (rd l0 0, 1) by unfold cand; rw [if_pos k1])
      have b1 : decide (rd l0 0 < 128) = true := decide_eq_true k1
      clear k1
      go_wp2_with fail
      go_meet
      case rel => exact ⟨by rw [(Prod.mk.inj (HRM.out.symm.trans E.out)).1], by rw [(Prod.mk.inj (HRM.out.symm.trans E.out)).2]; rfl, 0, rfl⟩
    have b1 : decide (rd l0 0 < 128) = false := decide_eq_false k1
    by_cases k2 : rd l0 0 ≥ 192 ∧ rd l0 0 < 224 ∧ 2 ≤ l0.length
    · have E := Aside0.mk (show cand l0 = ((rd l0 0 - 192) * 64 + rd l0 1 % 64, 2) by unfold cand; rw [if_neg k1, if_pos k2])
      have hx1 : (w.alloc (.cells #[.int .i64 0, .int .i64 0, .int .i64 0, .bool false] 35)).cell? ⟨ad.block, ad.off + 1, none⟩ = some (.int .u8 (rd l0 1)) := HC.out 1 (by omega)
      have b2 : decide (192 ≤ rd l0 0) = true := decide_eq_true k2.1
      have b3 : decide (rd l0 0 < 224) = true := decide_eq_true k2.2.1
      have b4 : decide (2 ≤ (l0.length : Int)) = true := decide_eq_true (by omega)
      have b5 : 2 ≤ l0.length := k2.2.2
      have hw1 : 0 ≤ rd l0 0 - 192 ∧ rd l0 0 - 192 ≤ 63 := ⟨by omega, by omega⟩
      obtain ⟨hw1, hw2⟩ := hw1
      clear k1 k2 q0
      go_wp2_with (go_at_call 35; refine (u_low _ (by omega) (by omega) _).mono ?_; rintro e w' ⟨rfl, rfl⟩)
      go_meet
      case rel => exact ⟨by rw [(Prod.mk.inj (HRM.out.symm.trans E.out)).1], by rw [(Prod.mk.inj (HRM.out.symm.trans E.out)).2]; rfl, 0, rfl⟩
    by_cases k3 : rd l0 0 ≥ 224 ∧ rd l0 0 < 240 ∧ 3 ≤ l0.length
    · have E := Aside0.mk (show cand l0 = ((rd l0 0 - 224) * 4096 + rd l0 1 % 64 * 64 + rd l0 2 % 64, 3) by unfold cand; rw [if_neg k1, if_neg k2, if_pos k3])
      have hx1 : (w.alloc (.cells #[.int .i64 0, .int .i64 0, .int .i64 0, .bool false] 35)).cell? ⟨ad.block, ad.off + 1, none⟩ = some (.int .u8 (rd l0 1)) := HC.out 1 (by omega)
      have hx2 : (w.alloc (.cells #[.int .i64 0, .int .i64 0, .int .i64 0, .bool false] 35)).cell? ⟨ad.block, ad.off + 2, none⟩ = some (.int .u8 (rd l0 2)) := HC.out 2 (by omega)
      have b2 : decide (192 ≤ rd l0 0) = true := decide_eq_true (by omega)
      have b3 : decide (rd l0 0 < 224) = false := decide_eq_false (by omega)
      have b4 : decide (224 ≤ rd l0 0) = true := decide_eq_true k3.1
      have b6 : decide (rd l0 0 < 240) = true := decide_eq_true k3.2.1
      have b7 : decide (3 ≤ (l0.length : Int)) = true := decide_eq_true (by omega)
      have b5 : 3 ≤ l0.length := k3.2.2
      have hw1 : 0 ≤ rd l0 0 - 224 ∧ rd l0 0 - 224 ≤ 31 := ⟨by omega, by omega⟩
      obtain ⟨hw1, hw2⟩ := hw1
      clear k1 k2 k3 q0
      go_wp2_with fail
      go_quiet ((go_at_call 35; exact Calls.quiet_of_same (u_low _ (by omega) (by omega) _)))
      go_wp2_with fail
      go_meet
      case rel => exact ⟨by rw [(Prod.mk.inj (HRM.out.symm.trans E.out)).1], by rw [(Prod.mk.inj (HRM.out.symm.trans E.out)).2]; rfl, _, rfl⟩
    by_cases k4 : rd l0 0 ≥ 240 ∧ rd l0 0 < 248 ∧ 4 ≤ l0.length
    · have E := Aside0.mk (show cand l0 = ((rd l0 0 - 240) * 262144 + rd l0 1 % 64 * 4096 + rd l0 2 % 64 * 64 + rd l0 3 % 64, 4) by unfold cand; rw [if_neg k1, if_neg k2, if_neg k3, if_pos k4])
      have hx1 : (w.alloc (.cells #[.int .i64 0, .int .i64 0, .int .i64 0, .bool false] 35)).cell? ⟨ad.block, ad.off + 1, none⟩ = some (.int .u8 (rd l0 1)) := HC.out 1 (by omega)
      have hx2 : (w.alloc (.cells #[.int .i64 0, .int .i64 0, .int .i64 0, .bool false] 35)).cell? ⟨ad.block, ad.off + 2, none⟩ = some (.int .u8 (rd l0 2)) := HC.out 2 (by omega)
      have hx3 : (w.alloc (.cells #[.int .i64 0, .int .i64 0, .int .i64 0, .bool false] 35)).cell? ⟨ad.block, ad.off + 3, none⟩ = some (.int .u8 (rd l0 3)) := HC.out 3 (by omega)
      have b2 : decide (192 ≤ rd l0 0) = true := decide_eq_true (by omega)
      have b3 : decide (rd l0 0 < 224) = false := decide_eq_false (by omega)
      have b4 : decide (224 ≤ rd l0 0) = true := decide_eq_true (by omega)
      have b6 : decide (rd l0 0 < 240) = false := decide_eq_false (by omega)
      have b8 : decide (240 ≤ rd l0 0) = true := decide_eq_true k4.1
      have b9 : decide (rd l0 0 < 248) = true := decide_eq_true k4.2.1
      have b7 : decide (4 ≤ (l0.length : Int)) = true := decide_eq_true (by omega)
      have b5 : 4 ≤ l0.length := k4.2.2
      have hw1 : 0 ≤ rd l0 0 - 240 ∧ rd l0 0 - 240 ≤ 15 := ⟨by omega, by omega⟩
      obtain ⟨hw1, hw2⟩ := hw1
      clear k1 k2 k3 k4 q0
      go_wp2_with fail
      go_quiet ((go_at_call 35; exact Calls.quiet_of_same (u_low _ (by omega) (by omega) _)))
      go_wp2_with fail
      go_meet
      case rel => exact ⟨by rw [(Prod.mk.inj (HRM.out.symm.trans E.out)).1], by rw [(Prod.mk.inj (HRM.out.symm.trans E.out)).2]; rfl, _, rfl⟩
    have E := Aside0.mk (show cand l0 = (-1, 1) by unfold cand; rw [if_neg k1, if_neg k2, if_neg k3, if_neg k4])
    by_cases m1 : rd l0 0 < 192
    · have b2 : decide (192 ≤ rd l0 0) = false := decide_eq_false (by omega)
      have b4 : decide (224 ≤ rd l0 0) = false := decide_eq_false (by omega)
      have b8 : decide (240 ≤ rd l0 0) = false := decide_eq_false (by omega)
      clear k1 k2 k3 k4 m1 q0
      go_wp2_with fail
      go_meet
      case rel => exact ⟨by rw [(Prod.mk.inj (HRM.out.symm.trans E.out)).1], by rw [(Prod.mk.inj (HRM.out.symm.trans E.out)).2]; rfl, 0, rfl⟩
    have b2 : decide (192 ≤ rd l0 0) = true := decide_eq_true (by omega)
    by_cases m2 : rd l0 0 < 224
    · have b3 : decide (rd l0 0 < 224) = true := decide_eq_true m2
      have b4 : decide (224 ≤ rd l0 0) = false := decide_eq_false (by omega)
      have b8 : decide (240 ≤ rd l0 0) = false := decide_eq_false (by omega)
      have b7 : decide (2 ≤ (l0.length : Int)) = false := decide_eq_false (by omega)
      clear k1 k2 k3 k4 m1 m2 q0
      go_wp2_with fail
      go_meet
      case rel => exact ⟨by rw [(Prod.mk.inj (HRM.out.symm.trans E.out)).1], by rw [(Prod.mk.inj (HRM.out.symm.trans E.out)).2]; rfl, 0, rfl⟩
    have b3 : decide (rd l0 0 < 224) = false := decide_eq_false m2
    have b4 : decide (224 ≤ rd l0 0) = true := decide_eq_true (by omega)
    by_cases m3 : rd l0 0 < 240
    · have b6 : decide (rd l0 0 < 240) = true := decide_eq_true m3
      have b8 : decide (240 ≤ rd l0 0) = false := decide_eq_false (by omega)
      have b7 : decide (3 ≤ (l0.length : Int)) = false := decide_eq_false (by omega)
      clear k1 k2 k3 k4 m1 m2 m3 q0
      go_wp2_with fail
      go_meet
      case rel => exact ⟨by rw [(Prod.mk.inj (HRM.out.symm.trans E.out)).1], by rw [(Prod.mk.inj (HRM.out.symm.trans E.out)).2]; rfl, 0, rfl⟩
    have b6 : decide (rd l0 0 < 240) = false := decide_eq_false m3
    have b8 : decide (240 ≤ rd l0 0) = true := decide_eq_true (by omega)
    by_cases m4 : rd l0 0 < 248
    · have b9 : decide (rd l0 0 < 248) = true := decide_eq_true m4
      have b7 : decide (4 ≤ (l0.length : Int)) = false := decide_eq_false (by omega)
      clear k1 k2 k3 k4 m1 m2 m3 m4 q0
      go_wp2_with fail
      go_meet
      case rel => exact ⟨by rw [(Prod.mk.inj (HRM.out.symm.trans E.out)).1], by rw [(Prod.mk.inj (HRM.out.symm.trans E.out)).2]; rfl, 0, rfl⟩
    · have b9 : decide (rd l0 0 < 248) = false := decide_eq_false m4
      clear k1 k2 k3 k4 m1 m2 m3 m4 q0
      go_wp2_with fail
      go_meet
      case rel => exact ⟨by rw [(Prod.mk.inj (HRM.out.symm.trans E.out)).1], by rw [(Prod.mk.inj (HRM.out.symm.trans E.out)).2]; rfl, 0, rfl⟩
  case rest =>
    obtain ⟨rfl, rfl, nd, rfl⟩ := hcut
    obtain ⟨hm1, hm2⟩ : m ≤ l0.length ∧ 1 ≤ m := by have := cand_le l0 h0; rw [HRM.out] at this; exact this
    have hE := Pure.refEncode_is r
    cases hcp : cp r with
    | false =>
      obtain ⟨v1, v2, v3, v4⟩ : V1 = 65533 ∧ V2 = 0 ∧ V3 = 1 ∧ V4 = true := by
        have := HV.out
        unfold verdict at this
        rw [if_neg (by rw [hcp]; simp)] at this
        simp only [Prod.mk.injEq] at this
        exact ⟨this.1.symm, this.2.1.symm, this.2.2.1.symm, this.2.2.2.symm⟩
      have V := Aside0.mk (show V1 = 65533 ∧ V2 = 0 ∧ V3 = 1 ∧ V4 = true from ⟨v1, v2, v3, v4⟩)
      clear v1 v2 v3 v4
      rw [hcp, if_neg (by decide)] at hE
      have A := Aside0.mk hE
      clear hE hcp
      go_wp2_with (go_at_call 13; refine (scansionref01_Encode.calls r [] 1 _ A.out).mono ?_; rintro e w9 ⟨v9, rfl, ho0, hb⟩)
      have hblk := box9 hb
      have hB9 : Below w.heap.size w w9 := (pw_below_drewN ((Below.refl _ w).alloc (Nat.le_refl _) _) nd).trans (hb.mono (by simp))
      obtain ⟨c0', c1', c2', c3', f0', f1', f2', f3'⟩ := box_cells hblk
      have HBLK := Aside0.mk hblk
      have HB9 := Aside0.mk hB9
      clear hblk hb hB9 ho0
      go_quiet (fail)
      go_wp2_with fail
      refine bodyPost_ret (results_cell_row rfl _ _ w.heap.size 35 #[.int .i64 65533, .int .i64 0, .int .i64 1, .bool true] (0, 0) _ rfl (box_put (blk_drewN HBLK.out _) _ _ _ _) Try.underlying35 rfl (by kernel_rfl)) rfl ?_
      obtain ⟨v1, v2, v3, v4⟩ := V.out
      exact ⟨by rw [v1, v2, v3, v4], box_below (pw_below_drewN HB9.out _) _ _ _ _⟩
    | true =>
      rw [hcp, if_pos rfl] at hE
      have A := Aside0.mk hE
      clear hE
      by_cases ht : Pure.bytesOf r = l0.take m
      · obtain ⟨v1, v2, v3, v4⟩ : V1 = r ∧ V2 = 0 ∧ V3 = (m : Int) ∧ V4 = false := by
          have := HV.out
          unfold verdict at this
          rw [if_pos ⟨hcp, ht⟩] at this
          simp only [Prod.mk.injEq] at this
          exact ⟨this.1.symm, this.2.1.symm, this.2.2.1.symm, this.2.2.2.symm⟩
        have V := Aside0.mk (show V1 = r ∧ V2 = 0 ∧ V3 = (m : Int) ∧ V4 = false from ⟨v1, v2, v3, v4⟩)
        have T := Aside0.mk (show ((strOfNums (Pure.bytesOf r)).toList != (strOfNums (l0.take m)).toList) = false by rw [ht]; simp)
        clear v1 v2 v3 v4 hcp ht
        go_wp2_with (go_at_call 13; refine (scansionref01_Encode.calls r _ 0 _ A.out).mono ?_; rintro e w9 ⟨v9, rfl, ho0, hb⟩)
        have hblk := box9 hb
        have hB9 : Below w.heap.size w w9 := (pw_below_drewN ((Below.refl _ w).alloc (Nat.le_refl _) _) nd).trans (hb.mono (by simp))
        obtain ⟨c0', c1', c2', c3', f0', f1', f2', f3'⟩ := box_cells hblk
        have HBLK := Aside0.mk hblk
        have HB9 := Aside0.mk hB9
        obtain ⟨A9, cc9, rfl, hl9, hr9⟩ := Kd.R_reads ho0
        have hc1 := fun k => Kd.C_string (c := cc9) (dst := 9) Try.underlying23 Try.underlying5 Try.underlying9 (Kd.C_drewN hr9 k)
        obtain ⟨i015, hi015, _, hsz15, _⟩ := info_parts Try.info5'
        obtain ⟨hcut, hA15, hC15⟩ := print_take_of (P := Try.prog) (Value.int .u8) 0 23 5 .i64 Try.underlying23 hi015 hsz15 (some ad) c0 l0 (m : Int) (by omega) (by omega) hc0
        have hrt : Kd.C (Kd.int .u8) w9 (some ad) (l0.take (m : Int).toNat).length (l0.take (m : Int).toNat) := Kd.C_of_reads (h1 := fun _ => rfl) (hA15 _ (Kd.reads_of_C (Kd.C_below (Kd.C_drewN HR.out nd) hb)))
        have hc2 := fun k => Kd.C_string (c := c0) (dst := 9) Try.underlying23 Try.underlying5 Try.underlying9 (Kd.C_drewN hrt k)
        simp only [Int.toNat_natCast] at hcut hc2
        have hlt : (l0.take m).length = m := by rw [List.length_take]; omega
        rw [hlt] at hcut hc2
        have hT := T.out
        have hT2 : ((strOfNums (Pure.bytesOf r)).toList == (strOfNums (l0.take m)).toList) = true := by rw [beq_iff_eq]; exact bne_eq_false_iff_eq.mp hT
        clear hblk hb hB9 ho0 hA15 hC15 hi015 hsz15 hr9 hrt hl9 hlt
        go_quiet (fail)
        go_wp2_with fail
        refine bodyPost_ret (results_cell_row rfl _ _ w.heap.size 35 #[.int .i64 r, .int .i64 0, .int .i64 (m : Int), .bool false] (0, 0) _ rfl (box_put (blk_drewN HBLK.out _) _ _ _ _) Try.underlying35 rfl (by kernel_rfl)) rfl ?_
        obtain ⟨v1, v2, v3, v4⟩ := V.out
        exact ⟨by rw [v1, v2, v3, v4], box_below (pw_below_drewN HB9.out _) _ _ _ _⟩
      · obtain ⟨v1, v2, v3, v4⟩ : V1 = 65533 ∧ V2 = 0 ∧ V3 = 1 ∧ V4 = true := by
          have := HV.out
          unfold verdict at this
          rw [if_neg (fun q => ht q.2)] at this
          simp only [Prod.mk.injEq] at this
          exact ⟨this.1.symm, this.2.1.symm, this.2.2.1.symm, this.2.2.2.symm⟩
        have V := Aside0.mk (show V1 = 65533 ∧ V2 = 0 ∧ V3 = 1 ∧ V4 = true from ⟨v1, v2, v3, v4⟩)
        have T := Aside0.mk (show ((strOfNums (Pure.bytesOf r)).toList != (strOfNums (l0.take m)).toList) = true by
          rw [bne_iff_ne]; exact fun q => ht (Pure.text_inj (Pure.bytesOf_bytes hcp) (hs.take m) q))
        clear v1 v2 v3 v4 hcp ht
        go_wp2_with (go_at_call 13; refine (scansionref01_Encode.calls r _ 0 _ A.out).mono ?_; rintro e w9 ⟨v9, rfl, ho0, hb⟩)
        have hblk := box9 hb
        have hB9 : Below w.heap.size w w9 := (pw_below_drewN ((Below.refl _ w).alloc (Nat.le_refl _) _) nd).trans (hb.mono (by simp))
        obtain ⟨c0', c1', c2', c3', f0', f1', f2', f3'⟩ := box_cells hblk
        have HBLK := Aside0.mk hblk
        have HB9 := Aside0.mk hB9
        obtain ⟨A9, cc9, rfl, hl9, hr9⟩ := Kd.R_reads ho0
        have hc1 := fun k => Kd.C_string (c := cc9) (dst := 9) Try.underlying23 Try.underlying5 Try.underlying9 (Kd.C_drewN hr9 k)
        obtain ⟨i015, hi015, _, hsz15, _⟩ := info_parts Try.info5'
        obtain ⟨hcut, hA15, hC15⟩ := print_take_of (P := Try.prog) (Value.int .u8) 0 23 5 .i64 Try.underlying23 hi015 hsz15 (some ad) c0 l0 (m : Int) (by omega) (by omega) hc0
        have hrt : Kd.C (Kd.int .u8) w9 (some ad) (l0.take (m : Int).toNat).length (l0.take (m : Int).toNat) := Kd.C_of_reads (h1 := fun _ => rfl) (hA15 _ (Kd.reads_of_C (Kd.C_below (Kd.C_drewN HR.out nd) hb)))
        have hc2 := fun k => Kd.C_string (c := c0) (dst := 9) Try.underlying23 Try.underlying5 Try.underlying9 (Kd.C_drewN hrt k)
        simp only [Int.toNat_natCast] at hcut hc2
        have hlt : (l0.take m).length = m := by rw [List.length_take]; omega
        rw [hlt] at hcut hc2
        have hT := T.out
        have hT2 : ((strOfNums (Pure.bytesOf r)).toList == (strOfNums (l0.take m)).toList) = false := by rw [beq_eq_false_iff_ne]; exact bne_iff_ne.mp hT
        clear hblk hb hB9 ho0 hA15 hC15 hi015 hsz15 hr9 hrt hl9 hlt
        go_quiet (fail)
        go_wp2_with fail
        refine bodyPost_ret (results_cell_row rfl _ _ w.heap.size 35 #[.int .i64 65533, .int .i64 0, .int .i64 1, .bool true] (0, 0) _ rfl (box_put (blk_drewN HBLK.out _) _ _ _ _) Try.underlying35 rfl (by kernel_rfl)) rfl ?_
        obtain ⟨v1, v2, v3, v4⟩ := V.out
        exact ⟨by rw [v1, v2, v3, v4], box_below (pw_below_drewN HB9.out _) _ _ _ _⟩

/-- What the reference's first(b) comes to: asked of bytes, one at least. -/
def scansionref01_first.f (l : List Int) : Option (Int × Int × Int × Bool) := if (∀ x ∈ l, 0 ≤ x ∧ x ≤ 255) ∧ 0 < l.length then some (verdict l (cand l).1 (cand l).2) else none

theorem scansionref01_first.calls (A0 : Option Addr) (c0 : Nat) (l0 : List Int) (r1 : Int) (r2 : Int) (r3 : Int) (r4 : Bool) (w : World) (hr0 : Kd.C (Kd.int .u8) w A0 l0.length l0) (hc0 : l0.length ≤ c0) (h : scansionref01_first.f l0 = some (r1, r2, r3, r4)) :
    Calls Try.prog 29 #[.slice A0 l0.length c0] w fun e w' => e = .returned (.agg #[.int .i64 r1, .int .i64 r2, .int .i64 r3, .bool r4]) ∧ Below w.heap.size w w' := by
  unfold scansionref01_first.f at h
  by_cases hc : (∀ x ∈ l0, 0 ≤ x ∧ x ≤ 255) ∧ 0 < l0.length
  · rw [if_pos hc] at h
    have hv := Option.some.inj h
    have := first_calls A0 c0 l0 w hr0 hc0 hc.1 hc.2
    rw [hv] at this
    exact this
  · rw [if_neg hc] at h; cases h

#print axioms scansionref01_first.calls
end Go.Proofs.Ytefomeabnlecoaa.Print
