/- For every key and all numbers: what is kept in a cache is apart from what was handed in, and from what is told. -/
import Derived.Test.YtjpbcmfppmiagaaSame
namespace Go.Proofs.Ytjpbcmfppmiagaa.Print
open Go.RowKit Go.Maps Go.Proofs.YtjpbcmfppmiagaaW.PrintWords Go.Proofs.YtjpbcmfppmiagaaW.PrintLast Go.Proofs.YtjpbcmfppmiagaaW.PrintMore
set_option linter.unusedVariables false
set_option linter.unusedSimpArgs false

set_option maxHeartbeats 8000000 in
set_option maxRecDepth 100000 in
theorem own_calls (key : ByteArray) (A : Option Addr) (c : Nat) (l : List Int) (W : World) (hk : key.size ≤ maxLen) (hr : Kd.C (Kd.int .i64) W A l.length l) (hc : l.length ≤ c) :
    Calls Try.prog 4 #[.string key, .slice A l.length c] W fun e w' => e = .returned (.bool true) ∧ Below W.heap.size W w' := by
  have HR := Aside0.mk hr
  have HC := Aside0.mk hc
  have HK := Aside0.mk hk
  clear hr hc hk
  go_enter Try.func4, Try.ntmps4
  go_wp2_with fail
  refine (awake_calls _).mono ?_
  rintro e W1 ⟨rfl, hb⟩
  have HB1 := Aside0.mk hb
  clear hb
  go_wp2_with fail
  refine (new_good (fun _ => True) 3 W1 W.heap.size HB1.out.size rfl).mono ?_
  rintro e W2 ⟨CB, MB, rfl, hi, hb, hC, hM⟩
  have HI2 := Aside0.mk hi
  have HB2 := Aside0.mk (HB1.out.trans (hb.mono HB1.out.size))
  clear hi hb hC hM HB1
  by_cases h5 : (l.length : Int) > 500
  · have h5b : decide ((l.length : Int) > 500) = true := decide_eq_true h5
    go_wp2_with fail
    go_ret
    exact ⟨rfl, HB2.out⟩
  have h5b : decide ((l.length : Int) > 500) = false := decide_eq_false h5
  have HL := Aside0.mk (show l.length ≤ 500 by omega)
  clear h5
  go_wp2_with (first | ((with_reducible refine gate_dst (N := 41) rfl ?_); refine Kd.R_lit (Kd.int .i64) (w0 := W2) W2.heap.size 3 ?hg (N := 41) ?hd (xs := ([] : List Int)) (inner := []) (ok := fun k => W2.heap.size ≤ k) (okp := fun _ => False) ?hr ?hp (fun _ hk => hk.elim) ?hf (by repeat (first | exact Below.refl _ _ | apply below_alloc | apply pw_below_drewN | apply below_drew1)) ?hb (by simp) ?_; (case hd => rfl); (case hg => rfl); (case hr => first | (go_simp; done) | (go_simp; rfl)); (case hp => exact Reps.none _ _); (case hf => exact Nat.le_refl _); (case hb => exact Nat.le_refl _); intro v1 w1 ho1 hb1 hg1 hn1) | ((with_reducible refine gate_builtin (b := .append) (xs := #[.tmp 41, .tmp 42]) rfl ?_); at_builtin; go_loud (refine Kd.R_append_rows (Kd.int .i64) (w0 := W2) W2.heap.size rfl (.tmp 41) (.tmp 42) 29 3 (.int .i64 0) 8 rfl Try.underlying29 infoI rfl (by decide) (by omega) v1 [] l _ _ _ (fun k => W2.heap.size ≤ k) (fun _ => False) rfl rfl ho1 ?aR (fun _ _ h => h) (fun _ h => h.elim) (fun k hk => Nat.le_trans hb1.size hk) hb1 hb1.size (by have := HL.out; simp; omega) ?_; (case aR => exact Kd.C_below HR.out (HB2.out.trans (hb1.mono HB2.out.size))); intro v2 w2 ho2 hb2 _ _)))
  obtain ⟨Am, cm, rfl⟩ := Kd.R_slice ho2
  have HM := Aside0.mk (show Kd.R (Kd.int .i64) 3 w2 W2.heap.size (fun _ => True) (.slice Am l.length cm) l from Kd.R_mono ho2 (fun _ _ => trivial))
  have HI3 := Aside0.mk ((HI2.out.later hb2).none_ (ok' := fun k => w2.heap.size ≤ k))
  have HB3 := Aside0.mk (HB2.out.trans (hb2.mono HB2.out.size))
  clear ho1 hb1 hg1 hn1 ho2 hb2 HI2
  generalize w2 = W3 at *
  refine (put_calls (fun k => W3.heap.size ≤ k) W.heap.size CB MB _ 3 noLists [] 0 0 W3 key Am cm l HI3.out HB3.out.size (by simp) (fun k hk => by simp at hk) (by omega) HK.out (Kd.R_reads' HM.out).2.2 (fun k h => h) (by have := HL.out; omega)).mono ?_
  rintro e W4 ⟨rfl, v4, hi4, ht4⟩
  rw [cut_one 3 _ _ (by omega)] at hi4
  have HM4 := Aside0.mk (ht4.row HI3.out HM.out)
  have HI4 := Aside0.mk hi4
  have HB4 := Aside0.mk (HB3.out.trans (ht4.below HI3.out.hC HI3.out.hM HB3.out.size))
  have HLM := Aside0.mk (Kd.R_lt HM.out)
  clear hi4 ht4 HI3 HM HB3
  go_wp2_with fail
  go_loopg [9] l.length (fun gg s9 wr => ∃ (i : Nat) (xs : List Int), s9 = .int .i64 i ∧ i ≤ l.length ∧ l.length - i ≤ gg ∧ Aside0 (Kd.R (Kd.int .i64) 3 wr W2.heap.size (fun _ => True) (.slice Am l.length cm) xs) ∧ Aside0 (CInv (fun k => W3.heap.size ≤ k) W.heap.size CB MB v4 3 (setL noLists key (some l)) [key] 0 0 wr) ∧ Aside0 (Below W.heap.size W wr))
  case atStart => exact ⟨0, l, rfl, by omega, by omega, HM4, HI4, HB4⟩
  case round =>
    clear HM4 HI4 HB4
    obtain ⟨i, xs, rfl, hi, hg, HM, HI, HB⟩ := hrel
    by_cases hlt : i < l.length
    · have hltz : (i : Int) < (l.length : Int) := by omega
      obtain ⟨g, cap, e0, hgb, _, cs, hcs⟩ := Kd.R_form HM.out (by rw [← (Kd.R_reads' HM.out).1]; omega)
      injection e0 with e1 _ e3
      subst e1
      subst e3
      obtain ⟨ci, fi⟩ := Kd.R_celln 0 HM.out (i : Int) (by omega) (by omega)
      rw [Int.toNat_natCast] at ci fi
      have HM2 := Aside0.mk (fun z => (Kd.R_putn HM.out (i : Int) z))
      have HI2 := Aside0.mk (fun (z : Value) => HI.out.mine hcs (fun k hk e => by have := HLM.out g rfl; omega) (grownBy_set wr g i z))
      have HB2 := Aside0.mk (fun (z : Value) => HB.out.setCell (p := ⟨g, i, none⟩) (Nat.le_trans HB2.out.size hgb) z)
      rw [Int.toNat_natCast] at HM2
      clear hcs hgb HM HI HB
      go_wp2_with fail
      go_roundg (l.length - (i + 1))
      case measure => omega
      case rel => exact ⟨i + 1, _, by have := HL.out; rw [wrap_succ (by omega)], by omega, by omega, Aside0.mk (HM2.out _), Aside0.mk (HI2.out _), Aside0.mk (HB2.out _)⟩
    · obtain rfl : i = l.length := by omega
      have hltz : ¬ (l.length : Int) < (l.length : Int) := by omega
      go_wp2_with fail
      have HI6 := Aside0.mk HI.out.bound
      have HB6 := HB
      have HS6 := Aside0.mk (Below.refl wr.heap.size wr).size
      clear HM HI HB HLM
      generalize wr = W6 at *
      refine (hit_calls _ W.heap.size CB MB v4 3 _ _ 0 0 W6 key l HI6.out HB6.out.size (by simp) HK.out (setL_same _ _ _) (by have := HL.out; omega)).mono ?_
      rintro e W7 ⟨u, rfl, ⟨v7, hi7⟩, ht7, hu⟩
      have HB7 := Aside0.mk (HB6.out.trans (ht7.below HI6.out.hC HI6.out.hM HB6.out.size))
      have HI7 := Aside0.mk hi7
      have HU7 := Aside0.mk hu
      obtain ⟨Au, cu, rfl⟩ := Kd.R_slice hu
      clear hi7 ht7 hu HI6 HB6 HS6
      go_wp2_with fail
      refine (same_calls Au cu l A c l W7 (Kd.R_reads' HU7.out).2.2 (Kd.R_reads' HU7.out).2.1 (Kd.C_below HR.out HB7.out) HC.out (by have := HL.out; omega)).mono ?_
      rintro e W8 ⟨rfl, hb⟩
      rw [decide_eq_true rfl]
      have HB8 := Aside0.mk (below_step HB7.out hb)
      have HI8 := Aside0.mk (HI7.out.later hb)
      have HU8 := Aside0.mk (Kd.R_below HU7.out hb)
      clear hb HB7 HI7 HU7
      go_wp2_with fail
      go_loopg [13] l.length (fun gg s13 wr => ∃ (i : Nat) (xs : List Int), s13 = .int .i64 i ∧ i ≤ l.length ∧ l.length - i ≤ gg ∧ Aside0 (Kd.R (Kd.int .i64) 3 wr W.heap.size (fun k => W6.heap.size ≤ k) (.slice Au l.length cu) xs) ∧ Aside0 (CInv (fun k => W3.heap.size ≤ k ∧ k < W6.heap.size) W.heap.size CB MB v7 3 (setL noLists key (some l)) (notKey key [key] ++ [key]) (wrap64 (0 + 1)) 0 wr) ∧ Aside0 (Below W.heap.size W wr))
      case atStart => exact ⟨0, l, rfl, by omega, by omega, HU8, HI8, HB8⟩
      case round =>
        clear HU8 HI8 HB8
        obtain ⟨i, xs, rfl, hi, hg, HM, HI, HB⟩ := hrel
        by_cases hlt : i < l.length
        · have hltz : (i : Int) < (l.length : Int) := by omega
          obtain ⟨g, cap, e0, hgb, _, cs, hcs⟩ := Kd.R_form HM.out (by rw [← (Kd.R_reads' HM.out).1]; omega)
          injection e0 with e1 _ e3
          subst e1
          subst e3
          obtain ⟨ci, fi⟩ := Kd.R_celln 0 HM.out (i : Int) (by omega) (by omega)
          rw [Int.toNat_natCast] at ci fi
          have HM2 := Aside0.mk (fun z => (Kd.R_putn HM.out (i : Int) z))
          have HGO := HM.out.1 g rfl
          have HI2 := Aside0.mk (fun (z : Value) => HI.out.mine hcs (fun k hk e => by omega) (grownBy_set wr g i z))
          have HB2 := Aside0.mk (fun (z : Value) => HB.out.setCell (p := ⟨g, i, none⟩) hgb z)
          rw [Int.toNat_natCast] at HM2
          clear hcs hgb HM HI HB HGO
          go_wp2_with fail
          go_roundg (l.length - (i + 1))
          case measure => omega
          case rel => exact ⟨i + 1, _, by have := HL.out; rw [wrap_succ (by omega)], by omega, by omega, Aside0.mk (HM2.out _), Aside0.mk (HI2.out _), Aside0.mk (HB2.out _)⟩
        · obtain rfl : i = l.length := by omega
          have hltz : ¬ (l.length : Int) < (l.length : Int) := by omega
          go_wp2_with fail
          refine (hit_calls _ W.heap.size CB MB v7 3 _ _ _ 0 wr key l HI.out HB.out.size (by simp [notKey]) HK.out (setL_same _ _ _) (by have := HL.out; omega)).mono ?_
          rintro e W9 ⟨u, rfl, ⟨v9, hi9⟩, ht9, hu⟩
          have HB9 := Aside0.mk (HB.out.trans (ht9.below HI.out.hC HI.out.hM HB.out.size))
          have HU9 := Aside0.mk hu
          obtain ⟨Ab, cb, rfl⟩ := Kd.R_slice hu
          clear hi9 ht9 hu HI HB HM
          go_wp2_with fail
          refine (same_calls Ab cb l A c l W9 (Kd.R_reads' HU9.out).2.2 (Kd.R_reads' HU9.out).2.1 (Kd.C_below HR.out HB9.out) HC.out (by have := HL.out; omega)).mono ?_
          rintro e W10 ⟨rfl, hb⟩
          rw [decide_eq_true rfl]
          have HB10 := Aside0.mk (below_step HB9.out hb)
          clear hb HB9 HU9
          go_wp2_with fail
          go_ret
          exact ⟨rfl, HB10.out⟩
end Go.Proofs.Ytjpbcmfppmiagaa.Print
