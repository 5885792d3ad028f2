/- scansionref11.put and .both in memory: what comes in is only read; what comes out is it, or a new row. · scansionref11.both in memory. -/
import Derived.Test.YtemlgmkbonpniaaSteps
namespace Go.Proofs.Ytemlgmkbonpniaa.Print
open Go.RowKit Go.Maps Go.Proofs.YtemlgmkbonpniaaW.PrintWords Go.Proofs.YtemlgmkbonpniaaW.PrintLast Go.Proofs.YtemlgmkbonpniaaW.PrintMore
set_option linter.unusedVariables false
set_option linter.unusedSimpArgs false

def lo (l : List Int) (n : Int) : Nat := (l.takeWhile fun x => decide (x < n)).length
def putR (l : List Int) (n : Int) : List Int := if lo l n < l.length ∧ rd l (lo l n) = n then l else l.take (lo l n) ++ [n] ++ l.drop (lo l n)
theorem lo_le (l : List Int) (n : Int) : lo l n ≤ l.length := by
 unfold lo
 induction l with
 | nil => exact Nat.le_refl _
 | cons x l ih =>
  rw [List.takeWhile_cons]
  split
  ·simp only [List.length_cons]; omega
  ·exact Nat.zero_le _
theorem lo_lt : ∀ (l : List Int) (n : Int) (i : Nat), i < lo l n → rd l i < n := by
 intro l n
 unfold lo rd
 induction l with
 | nil => intro i h; exact absurd h (by simp)
 | cons x l ih =>
  intro i h
  rw [List.takeWhile_cons] at h
  split at h
  next q =>
   cases i with
   | zero => simpa using q
   | succ i =>
    have := ih i (by simpa using h)
    simpa using this
  next q => exact absurd h (by simp)
theorem lo_ge : ∀ (l : List Int) (n : Int), lo l n < l.length → ¬ rd l (lo l n) < n := by
 intro l n
 unfold lo rd
 induction l with
 | nil => intro h; exact absurd h (by simp)
 | cons x l ih =>
  intro h
  rw [List.takeWhile_cons] at h ⊢
  split
  next q =>
   rw [if_pos q] at h
   have := ih (by simpa using h)
   simpa using this
  next q => simpa using q
theorem putR_same {l : List Int} {n : Int} (h : lo l n < l.length ∧ rd l (lo l n) = n) : putR l n = l := by unfold putR; rw [if_pos h]
theorem putR_ne {l : List Int} {n : Int} (h : ¬ (lo l n < l.length ∧ rd l (lo l n) = n)) : putR l n = l.take (lo l n) ++ [n] ++ l.drop (lo l n) := by unfold putR; rw [if_neg h]
theorem putR_len (l : List Int) (n : Int) : (putR l n).length ≤ l.length + 1 := by
 unfold putR
 split
 ·omega
 ·have := lo_le l n
  simp only [List.length_append, List.length_take, List.length_drop, List.length_cons, List.length_nil]
  omega
/-- A row of numbers that came out: it is the one that came in, or a new one. -/
def Came (W W' : World) (A : Option Addr) (c : Nat) (l : List Int) (A' : Option Addr) (c' : Nat) (l' : List Int) : Prop :=
 (A' = A ∧ c' = c ∧ l' = l) ∨ Kd.R (Kd.int .i64) 3 W' W.heap.size (fun _ => True) (.slice A' l'.length c') l'
set_option maxHeartbeats 16000000 in
set_option maxRecDepth 100000 in
theorem put_calls (A : Option Addr) (c : Nat) (l : List Int) (n : Int) (W : World) (hC : Kd.C (Kd.int .i64) W A l.length l) (hc : l.length ≤ c) (hl : l.length < 1000000) :
  Calls Try.prog 93 #[.slice A l.length c, .int .i64 n] W fun e w' => ∃ A' c', e = .returned (.slice A' (putR l n).length c') ∧ Below W.heap.size W w' ∧ Came W w' A c l A' c' (putR l n) := by
 have HC := Aside0.mk hC
 have HRM := Aside0.mk hc
 have HL := Aside0.mk hl
 clear hC hc hl
 go_enter Try.func93, Try.ntmps93
 go_wp2
 go_loopg [5] (lo l n) (fun kq v5 w' => ∃ i : Nat, v5 = .int .i64 (i : Int) ∧ w' = W ∧ Aside0 (i + kq = lo l n))
 case atStart => exact ⟨0, rfl, rfl, ⟨Nat.zero_add _⟩⟩
 case round =>
  obtain ⟨i, rfl, rfl, HA⟩ := hrel
  have HLO := Aside0.mk (lo_le l n)
  by_cases q : gk = 0
  ·have NLO := Aside0.mk (show i = lo l n by have := HA.out; omega)
   have HI := Aside0.mk (show (i : Int) ≤ (l.length : Int) by have := HA.out; have := HLO.out; omega)
   have HIN := Aside0.mk (show ((i : Nat) : Int).toNat ≤ l.length by have := HI.out; omega)
   obtain ⟨yt, hyt⟩ : ∃ y, y = l.take ((i : Nat) : Int).toNat := ⟨_, rfl⟩
   obtain ⟨yd, hyd⟩ : ∃ y, y = l.drop ((i : Nat) : Int).toNat := ⟨_, rfl⟩
   have NYT := Aside0.mk hyt
   have NYD := Aside0.mk hyd
   have NYL := Aside0.mk (show yt.length = ((i : Nat) : Int).toNat by rw [hyt, List.length_take]; have := HIN.out; omega)
   have NYM := Aside0.mk (show yt.length ≤ l.length by rw [NYL.out]; exact HIN.out)
   have NYE := Aside0.mk (show yd.length = l.length - ((i : Nat) : Int).toNat by rw [hyd, List.length_drop])
   have NYN := Aside0.mk (show yd.length ≤ l.length by rw [NYE.out]; omega)
   clear hyt hyd
   clear q
   by_cases b : i < l.length
   ·have p0 : 0 ≤ (i : Int) := Int.natCast_nonneg i
    have p1 : (i : Int) < (l.length : Int) := by omega
    obtain ⟨ad, eA, hx⟩ := Kd.at_int HC.out (i : Int) p0 p1
    rw [Int.toNat_natCast] at hx
    subst eA
    have f1 : decide ((i : Int) < (l.length : Int)) = true := decide_eq_true p1
    have f2 : decide (rd l (i : Int) < n) = false := decide_eq_false (by rw [NLO.out]; exact lo_ge l n (by rw [← NLO.out]; exact b))
    clear b
    replace p0 := eq_true p0
    replace p1 := eq_true p1
    by_cases e : rd l (i : Int) = n
    ·have hsame := Aside0.mk (putR_same (l := l) (n := n) (by rw [← NLO.out]; exact ⟨by have := of_eq_true p1; omega, e⟩))
     have f3 : (rd l (i : Int) == n) = true := beq_iff_eq.2 e
     clear e
     go_wp2_with fail
     go_ret
     refine ⟨some ad, c, ?_, Below.refl _ _, .inl ⟨rfl, rfl, hsame.out⟩⟩
     rw [hsame.out]; rfl
    ·have hne : ¬ (lo l n < l.length ∧ rd l (lo l n) = n) := fun h => e (by rw [NLO.out]; exact h.2)
     have f3 : (rd l (i : Int) == n) = false := beq_eq_false_iff_ne.2 e
     clear e
     have NI0 := Aside0.mk hne
     clear hne
     go_wp2_with (first | ((with_reducible refine gate_dst (N := 34) rfl ?_); refine Kd.R_lit (Kd.int .i64) _ 3 ?hg (N := 34) ?hd (xs := ([] : List Int)) (inner := []) (ok := fun _ => True) (okp := fun _ => True) ?hr ?hp (fun _ hk => hk) trivial (Below.refl _ _) (Nat.le_refl _) (by simp) ?_; (case hd => rfl); (case hg => rfl); (case hr => first | (go_simp; done) | (go_simp; rfl)); (case hp => exact (Reps.none _ _)); intro v0 w0 ho0 hb0 hg_ hnew_; clear hg_ hnew_; have HO0 := Aside0.mk ho0; have HB := Aside0.mk hb0; clear hb0 ho0; obtain ⟨i0, hi0, _, hsz0, _⟩ := info_parts info3; have hcut := cut_to (P := Try.prog) 27 3 .i64 Try.underlying27 hi0 (some ad) l.length c (i : Int) (Int.natCast_nonneg i) HI.out HRM.out; have hr := Kd.C_take (m := ((i : Nat) : Int).toNat) (Kd.C_below HC.out HB.out) HIN.out; rw [← NYT.out] at hr; rw [← NYL.out] at hcut; have HR0 := Aside0.mk hr; clear hr hi0 hsz0) | ((with_reducible refine gate_builtin (b := .append) (xs := #[.tmp 34, .tmp 37]) rfl ?_); at_builtin; refine Kd.R_append_rows (Kd.int .i64) (w0 := wr) wr.heap.size rfl (.tmp 34) (.tmp 37) 27 3 (.int .i64 0) 8 rfl Try.underlying27 info3 rfl (by decide) (by omega) v0 [] yt _ _ _ (fun _ => True) (fun _ => False) rfl rfl ?aO ?aR (fun _ _ h => h) (fun _ h => h.elim) ?aF ?aB ?aS ?aL ?_; (case aR => exact (by (with_reducible repeat (first | refine Kd.C_alloc ?_ _ | refine Kd.C_drewN ?_ _ | refine Kd.C_drew ?_)); exact HR0.out)); (case aB => exact (by repeat (first | (with_reducible first | exact HB.out | apply below_alloc | apply pw_below_drewN | apply below_drew1) | exact HB.out))); (case aF => exact (fun _ _ => trivial)); (case aO => exact (by (with_reducible repeat (first | apply Kd.R_alloc | apply Kd.R_drewN | apply Kd.R_drew)); exact HO0.out)); (case aS => exact below_size (by repeat (first | (with_reducible first | exact HB.out | apply below_alloc | apply pw_below_drewN | apply below_drew1) | exact HB.out))); (case aL => have := HL.out; have := NYM.out; simp; omega); intro v1 w1 ho hb hg hat; clear hg hat; replace ho : Kd.R (Kd.int .i64) 3 w1 wr.heap.size (fun _ => True) v1 yt := ho; have HO1 := Aside0.mk ho; clear HB; have HB := Aside0.mk hb; clear hb ho) | ((with_reducible refine gate_builtin (b := .append) (xs := #[.tmp 39, .tmp 41]) rfl ?_); at_builtin; refine Kd.R_append (Kd.int .i64) (w0 := wr) wr.heap.size rfl (.tmp 39) (.tmp 41) 27 3 (.int .i64 0) 8 rfl Try.underlying27 info3 rfl (by decide) (by omega) v1 yt n [.int .i64 n] (fun _ => True) (fun _ => False) rfl rfl ?aP (fun _ hk => hk.elim) ?aF ?aO ?aB ?aS ?aL ?_; (case aP => exact rfl); (case aB => exact (by repeat (first | (with_reducible first | exact HB.out | apply below_alloc | apply pw_below_drewN | apply below_drew1) | exact HB.out))); (case aF => exact (fun _ _ => trivial)); (case aO => exact (by (with_reducible repeat (first | apply Kd.R_alloc | apply Kd.R_drewN | apply Kd.R_drew)); exact HO1.out)); (case aS => exact below_size (by repeat (first | (with_reducible first | exact HB.out | apply below_alloc | apply pw_below_drewN | apply below_drew1) | exact HB.out))); (case aL => have := HL.out; have := NYM.out; omega); intro v2 w2 ho hb hg hat; clear hg hat; have HO2 := Aside0.mk ho; clear HB; have HB := Aside0.mk hb; clear hb ho; obtain ⟨i2, hi2, _, hsz2, _⟩ := info_parts info3; have hcut2 := cut_from (P := Try.prog) 27 3 .i64 Try.underlying27 hi2 1 hsz2 (some ad) l.length c (i : Int) (Int.natCast_nonneg i) HI.out; have hr := Kd.C_drop (m := ((i : Nat) : Int).toNat) (c := c) (Kd.C_below HC.out HB.out) HIN.out HRM.out; obtain ⟨A2, hA2⟩ : ∃ A1, A1 = (if c = ((i : Nat) : Int).toNat then (some ad) else (some ad : Option Addr).map (·.add (((i : Nat) : Int).toNat * 1))) := ⟨_, rfl⟩; obtain ⟨c2, hc2⟩ : ∃ c1, c1 = c - ((i : Nat) : Int).toNat := ⟨_, rfl⟩; rw [← NYD.out] at hr; replace hr : Kd.C (Kd.int .i64) _ A2 yd.length yd := (by rw [hA2]; exact hr); rw [← NYE.out, ← hA2, ← hc2] at hcut2; have HR2 := Aside0.mk hr; clear hr hi2 hsz2 hc2 hA2) | ((with_reducible refine gate_builtin (b := .append) (xs := #[.tmp 43, .tmp 46]) rfl ?_); at_builtin; refine Kd.R_append_rows (Kd.int .i64) (w0 := wr) wr.heap.size rfl (.tmp 43) (.tmp 46) 27 3 (.int .i64 0) 8 rfl Try.underlying27 info3 rfl (by decide) (by omega) v2 (yt ++ [n]) yd _ _ _ (fun _ => True) (fun _ => False) rfl rfl ?aO ?aR (fun _ _ h => h) (fun _ h => h.elim) ?aF ?aB ?aS ?aL ?_; (case aR => exact (by (with_reducible repeat (first | refine Kd.C_alloc ?_ _ | refine Kd.C_drewN ?_ _ | refine Kd.C_drew ?_)); exact HR2.out)); (case aB => exact (by repeat (first | (with_reducible first | exact HB.out | apply below_alloc | apply pw_below_drewN | apply below_drew1) | exact HB.out))); (case aF => exact (fun _ _ => trivial)); (case aO => exact (by (with_reducible repeat (first | apply Kd.R_alloc | apply Kd.R_drewN | apply Kd.R_drew)); exact HO2.out)); (case aS => exact below_size (by repeat (first | (with_reducible first | exact HB.out | apply below_alloc | apply pw_below_drewN | apply below_drew1) | exact HB.out))); (case aL => have := HL.out; have := NYM.out; have := NYN.out; simp; omega); intro v3 w3 ho hb hg hat; clear hg hat; have HO3 := Aside0.mk ho; clear HB; have HB := Aside0.mk hb; clear hb ho))
     go_ret
     have hput : putR l n = yt ++ [n] ++ yd := by
      rw [NYT.out, NYD.out, Int.toNat_natCast, putR_ne NI0.out, NLO.out]
     have hR := HO3.out
     obtain ⟨A3, c3, rfl⟩ := Kd.R_slice hR
     rw [← hput] at hR ⊢
     exact ⟨A3, c3, rfl, HB.out, .inr hR⟩
   ·have f1 : decide ((i : Int) < (l.length : Int)) = false := decide_eq_false (by omega)
    have hne : ¬ (lo l n < l.length ∧ rd l (lo l n) = n) := fun h => b (by rw [NLO.out]; exact h.1)
    have NI0 := Aside0.mk hne
    clear hne
    go_wp2_with (first | ((with_reducible refine gate_dst (N := 34) rfl ?_); refine Kd.R_lit (Kd.int .i64) _ 3 ?hg (N := 34) ?hd (xs := ([] : List Int)) (inner := []) (ok := fun _ => True) (okp := fun _ => True) ?hr ?hp (fun _ hk => hk) trivial (Below.refl _ _) (Nat.le_refl _) (by simp) ?_; (case hd => rfl); (case hg => rfl); (case hr => first | (go_simp; done) | (go_simp; rfl)); (case hp => exact (Reps.none _ _)); intro v0 w0 ho0 hb0 hg_ hnew_; clear hg_ hnew_; have HO0 := Aside0.mk ho0; have HB := Aside0.mk hb0; clear hb0 ho0; obtain ⟨i0, hi0, _, hsz0, _⟩ := info_parts info3; have hcut := cut_to (P := Try.prog) 27 3 .i64 Try.underlying27 hi0 A l.length c (i : Int) (Int.natCast_nonneg i) HI.out HRM.out; have hr := Kd.C_take (m := ((i : Nat) : Int).toNat) (Kd.C_below HC.out HB.out) HIN.out; rw [← NYT.out] at hr; rw [← NYL.out] at hcut; have HR0 := Aside0.mk hr; clear hr hi0 hsz0) | ((with_reducible refine gate_builtin (b := .append) (xs := #[.tmp 34, .tmp 37]) rfl ?_); at_builtin; refine Kd.R_append_rows (Kd.int .i64) (w0 := wr) wr.heap.size rfl (.tmp 34) (.tmp 37) 27 3 (.int .i64 0) 8 rfl Try.underlying27 info3 rfl (by decide) (by omega) v0 [] yt _ _ _ (fun _ => True) (fun _ => False) rfl rfl ?aO ?aR (fun _ _ h => h) (fun _ h => h.elim) ?aF ?aB ?aS ?aL ?_; (case aR => exact (by (with_reducible repeat (first | refine Kd.C_alloc ?_ _ | refine Kd.C_drewN ?_ _ | refine Kd.C_drew ?_)); exact HR0.out)); (case aB => exact (by repeat (first | (with_reducible first | exact HB.out | apply below_alloc | apply pw_below_drewN | apply below_drew1) | exact HB.out))); (case aF => exact (fun _ _ => trivial)); (case aO => exact (by (with_reducible repeat (first | apply Kd.R_alloc | apply Kd.R_drewN | apply Kd.R_drew)); exact HO0.out)); (case aS => exact below_size (by repeat (first | (with_reducible first | exact HB.out | apply below_alloc | apply pw_below_drewN | apply below_drew1) | exact HB.out))); (case aL => have := HL.out; have := NYM.out; simp; omega); intro v1 w1 ho hb hg hat; clear hg hat; replace ho : Kd.R (Kd.int .i64) 3 w1 wr.heap.size (fun _ => True) v1 yt := ho; have HO1 := Aside0.mk ho; clear HB; have HB := Aside0.mk hb; clear hb ho) | ((with_reducible refine gate_builtin (b := .append) (xs := #[.tmp 39, .tmp 41]) rfl ?_); at_builtin; refine Kd.R_append (Kd.int .i64) (w0 := wr) wr.heap.size rfl (.tmp 39) (.tmp 41) 27 3 (.int .i64 0) 8 rfl Try.underlying27 info3 rfl (by decide) (by omega) v1 yt n [.int .i64 n] (fun _ => True) (fun _ => False) rfl rfl ?aP (fun _ hk => hk.elim) ?aF ?aO ?aB ?aS ?aL ?_; (case aP => exact rfl); (case aB => exact (by repeat (first | (with_reducible first | exact HB.out | apply below_alloc | apply pw_below_drewN | apply below_drew1) | exact HB.out))); (case aF => exact (fun _ _ => trivial)); (case aO => exact (by (with_reducible repeat (first | apply Kd.R_alloc | apply Kd.R_drewN | apply Kd.R_drew)); exact HO1.out)); (case aS => exact below_size (by repeat (first | (with_reducible first | exact HB.out | apply below_alloc | apply pw_below_drewN | apply below_drew1) | exact HB.out))); (case aL => have := HL.out; have := NYM.out; omega); intro v2 w2 ho hb hg hat; clear hg hat; have HO2 := Aside0.mk ho; clear HB; have HB := Aside0.mk hb; clear hb ho; obtain ⟨i2, hi2, _, hsz2, _⟩ := info_parts info3; have hcut2 := cut_from (P := Try.prog) 27 3 .i64 Try.underlying27 hi2 1 hsz2 A l.length c (i : Int) (Int.natCast_nonneg i) HI.out; have hr := Kd.C_drop (m := ((i : Nat) : Int).toNat) (c := c) (Kd.C_below HC.out HB.out) HIN.out HRM.out; obtain ⟨A2, hA2⟩ : ∃ A1, A1 = (if c = ((i : Nat) : Int).toNat then A else A.map (·.add (((i : Nat) : Int).toNat * 1))) := ⟨_, rfl⟩; obtain ⟨c2, hc2⟩ : ∃ c1, c1 = c - ((i : Nat) : Int).toNat := ⟨_, rfl⟩; rw [← NYD.out] at hr; replace hr : Kd.C (Kd.int .i64) _ A2 yd.length yd := (by rw [hA2]; exact hr); rw [← NYE.out, ← hA2, ← hc2] at hcut2; have HR2 := Aside0.mk hr; clear hr hi2 hsz2 hc2 hA2) | ((with_reducible refine gate_builtin (b := .append) (xs := #[.tmp 43, .tmp 46]) rfl ?_); at_builtin; refine Kd.R_append_rows (Kd.int .i64) (w0 := wr) wr.heap.size rfl (.tmp 43) (.tmp 46) 27 3 (.int .i64 0) 8 rfl Try.underlying27 info3 rfl (by decide) (by omega) v2 (yt ++ [n]) yd _ _ _ (fun _ => True) (fun _ => False) rfl rfl ?aO ?aR (fun _ _ h => h) (fun _ h => h.elim) ?aF ?aB ?aS ?aL ?_; (case aR => exact (by (with_reducible repeat (first | refine Kd.C_alloc ?_ _ | refine Kd.C_drewN ?_ _ | refine Kd.C_drew ?_)); exact HR2.out)); (case aB => exact (by repeat (first | (with_reducible first | exact HB.out | apply below_alloc | apply pw_below_drewN | apply below_drew1) | exact HB.out))); (case aF => exact (fun _ _ => trivial)); (case aO => exact (by (with_reducible repeat (first | apply Kd.R_alloc | apply Kd.R_drewN | apply Kd.R_drew)); exact HO2.out)); (case aS => exact below_size (by repeat (first | (with_reducible first | exact HB.out | apply below_alloc | apply pw_below_drewN | apply below_drew1) | exact HB.out))); (case aL => have := HL.out; have := NYM.out; have := NYN.out; simp; omega); intro v3 w3 ho hb hg hat; clear hg hat; have HO3 := Aside0.mk ho; clear HB; have HB := Aside0.mk hb; clear hb ho))
    go_ret
    have hput : putR l n = yt ++ [n] ++ yd := by
     rw [NYT.out, NYD.out, Int.toNat_natCast, putR_ne NI0.out, NLO.out]
    have hR := HO3.out
    obtain ⟨A3, c3, rfl⟩ := Kd.R_slice hR
    rw [← hput] at hR ⊢
    exact ⟨A3, c3, rfl, HB.out, .inr hR⟩
  ·have b := lo_lt l n i (by have := HA.out; omega)
   have p0 : 0 ≤ (i : Int) := Int.natCast_nonneg i
   have p1 : (i : Int) < (l.length : Int) := by have := HA.out; have := HLO.out; omega
   obtain ⟨ad, eA, hx⟩ := Kd.at_int HC.out (i : Int) p0 p1
   rw [Int.toNat_natCast] at hx
   subst eA
   have f1 : decide ((i : Int) < (l.length : Int)) = true := decide_eq_true p1
   have f2 : decide (rd l (i : Int) < n) = true := decide_eq_true b
   have hw : wrap64 ((i : Int) + 1) = ((i + 1 : Nat) : Int) := (by have := HL.out; have := of_decide_eq_true f1; unfold wrap64; omega)
   have HW := Aside0.mk hw
   have HQ := Aside0.mk q
   clear hw b q
   replace p0 := eq_true p0
   replace p1 := eq_true p1
   go_wp2_with fail
   go_roundg (gk - 1)
   case measure => have := HQ.out; omega
   case rel => exact ⟨i + 1, by rw [← HW.out], rfl, ⟨by have := HA.out; have := HQ.out; omega⟩⟩
end Go.Proofs.Ytemlgmkbonpniaa.Print

namespace Go.Proofs.Ytemlgmkbonpniaa.Print
open Go.RowKit Go.Maps Go.Proofs.YtemlgmkbonpniaaW.PrintWords Go.Proofs.YtemlgmkbonpniaaW.PrintLast Go.Proofs.YtemlgmkbonpniaaW.PrintMore
set_option linter.unusedVariables false
set_option linter.unusedSimpArgs false

def bothR (a b : List Int) : List Int := b.foldl putR a
theorem bothR_len (a b : List Int) : (bothR a b).length ≤ a.length + b.length := by
 unfold bothR
 induction b generalizing a with
 | nil => exact Nat.le_refl _
 | cons x b ih =>
  have h1 := ih (putR a x)
  have h2 := putR_len a x
  simp only [List.foldl_cons, List.length_cons]
  omega
theorem bothR_step {a b : List Int} {i : Nat} (h : i < b.length) : bothR a (b.take (i + 1)) = putR (bothR a (b.take i)) (rd b i) := by
 unfold bothR
 rw [List.take_add_one, List.foldl_append]
 have : b[i]? = some (rd b i) := by
  unfold rd
  rw [Int.toNat_natCast, List.getD_eq_getElem?_getD, List.getElem?_eq_getElem h]
  rfl
 rw [this]
 rfl
/-- What a row that came out is: read, wherever nothing old has turned. -/
theorem Came.reads {W W' : World} {A A' : Option Addr} {c c' : Nat} {l l' : List Int} (h : Came W W' A c l A' c' l') (hC : Kd.C (Kd.int .i64) W A l.length l) (hc : l.length ≤ c) (hb : Below W.heap.size W W') : Kd.C (Kd.int .i64) W' A' l'.length l' ∧ l'.length ≤ c' := by
 rcases h with ⟨rfl, rfl, rfl⟩ | h
 ·exact ⟨Kd.C_below hC hb, hc⟩
 ·have := Kd.R_reads' h
  exact ⟨this.2.2, this.2.1⟩
theorem Came.step {W W1 W2 : World} {A A1 A2 : Option Addr} {c c1 c2 : Nat} {l l1 l2 : List Int} (h1 : Came W W1 A c l A1 c1 l1) (h2 : Came W1 W2 A1 c1 l1 A2 c2 l2) (hb1 : Below W.heap.size W W1) (hb2 : Below W1.heap.size W1 W2) : Came W W2 A c l A2 c2 l2 := by
 rcases h2 with ⟨rfl, rfl, rfl⟩ | h2
 ·rcases h1 with h1 | h1
  ·exact .inl h1
  ·exact .inr (Kd.R_below h1 hb2)
 ·exact .inr (Kd.R_lower h2 hb1.size)
set_option maxHeartbeats 16000000 in
set_option maxRecDepth 100000 in
theorem both_calls (A : Option Addr) (c : Nat) (a : List Int) (B : Option Addr) (d : Nat) (b : List Int) (W : World) (hA : Kd.C (Kd.int .i64) W A a.length a) (hc : a.length ≤ c) (hB : Kd.C (Kd.int .i64) W B b.length b) (hd : b.length ≤ d) (hl : a.length + b.length < 1000000) :
  Calls Try.prog 76 #[.slice A a.length c, .slice B b.length d] W fun e w' => ∃ A' c', e = .returned (.slice A' (bothR a b).length c') ∧ Below W.heap.size W w' ∧ Came W w' A c a A' c' (bothR a b) := by
 have HA := Aside0.mk hA
 have HCA := Aside0.mk hc
 have HB := Aside0.mk hB
 have HDB := Aside0.mk hd
 have HL := Aside0.mk hl
 clear hA hB hc hd hl
 go_enter Try.func76, Try.ntmps76
 go_wp2
 go_loopg [0, 5] b.length (fun kq v0 v5 w' => ∃ (i : Nat) (A1 : Option Addr) (c1 : Nat) (x : List Int), v0 = .slice A1 x.length c1 ∧ v5 = .int .i64 (i : Int) ∧ Aside0 (x = bothR a (b.take i)) ∧ Aside0 (i + kq = b.length) ∧ Aside0 (Below W.heap.size W w') ∧ Aside0 (Came W w' A c a A1 c1 x))
 case atStart => exact ⟨0, A, c, a, rfl, rfl, ⟨rfl⟩, ⟨Nat.zero_add _⟩, ⟨Below.refl _ _⟩, ⟨.inl ⟨rfl, rfl, rfl⟩⟩⟩
 case round =>
  obtain ⟨i, A1, c1, x, rfl, rfl, HX, HK, HW, HCM⟩ := hrel
  by_cases q : gk = 0
  ·have f1 : ¬ i < b.length := by have := HK.out; omega
   have f2 : decide ((i : Int) < (b.length : Int)) = false := decide_eq_false (by omega)
   have HE := Aside0.mk (show x = bothR a b by rw [HX.out, List.take_of_length_le (by omega)])
   clear q
   go_wp2_with fail
   go_ret
   rw [← HE.out]
   exact ⟨A1, c1, rfl, HW.out, HCM.out⟩
  ·have p0 : 0 ≤ (i : Int) := Int.natCast_nonneg i
   have p1 : (i : Int) < (b.length : Int) := by have := HK.out; omega
   obtain ⟨ad, eA, hx⟩ := Kd.at_int (Kd.C_below HB.out HW.out) (i : Int) p0 p1
   rw [Int.toNat_natCast] at hx
   subst eA
   have f1 : decide ((i : Int) < (b.length : Int)) = true := decide_eq_true p1
   have HIL := Aside0.mk (show i < b.length by omega)
   have HXL := Aside0.mk (show x.length < 1000000 by
    have h1 := bothR_len a (b.take i)
    rw [← HX.out, List.length_take] at h1
    have := HL.out
    omega)
   have HRD := Aside0.mk (Came.reads HCM.out HA.out HCA.out HW.out)
   have HQ := Aside0.mk q
   have HWR := Aside0.mk (show wrap64 ((i : Int) + 1) = ((i + 1 : Nat) : Int) by have := HL.out; unfold wrap64; omega)
   clear q
   replace p0 := eq_true p0
   replace p1 := eq_true p1
   go_wp2_with (go_at_call 93; refine (put_calls A1 c1 x (rd b (i : Int)) wr HRD.out.1 HRD.out.2 HXL.out).mono ?_; rintro e w' ⟨A2, c2, rfl, hb, hcm⟩; have HB2 := Aside0.mk hb; have HC2 := Aside0.mk hcm; clear hb hcm)
   go_roundg (gk - 1)
   case measure => have := HQ.out; omega
   case rel => exact ⟨i + 1, A2, c2, putR x (rd b (i : Int)), rfl, by rw [← HWR.out], ⟨by rw [bothR_step HIL.out, ← HX.out]⟩, ⟨by have := HK.out; have := HQ.out; omega⟩, ⟨HW.out.trans (HB2.out.mono HW.out.size)⟩, ⟨HCM.out.step HC2.out HW.out HB2.out⟩⟩
end Go.Proofs.Ytemlgmkbonpniaa.Print
