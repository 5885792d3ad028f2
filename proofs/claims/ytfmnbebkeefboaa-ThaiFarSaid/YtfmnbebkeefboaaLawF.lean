/- The law ThaiFar: no word that begins at a place leads, with two behind it, further than the one that is taken. -/
import Derived.Test.YtfmnbebkeefboaaLawC
import Derived.Test.YtfmnbebkeefboaaPrint27
-- NEEDS scansionlaw20_ThaiFar
namespace Go.Proofs.Ytfmnbebkeefboaa.Pure
open Go.RowKit Go.Proofs.Ytfmnbebkeefboaa.Print Go.Proofs.YtfmnbebkeefboaaW.PrintWords Go.Proofs.YtfmnbebkeefboaaW.PrintLast
set_option linter.unusedVariables false
set_option linter.unusedSimpArgs false

theorem ev_far_l1 {n : Int} {l : List S31} (hl : l.length ≤ 60) (hok : okT n l = true) {P : List Int} (hw : Way (toL l) n P) {i : Nat} (hi : i + 1 < P.length) (hP : P.length ≤ 6000) (hnext : Ev (fun k => scansionlaw20_ThaiFar.l0 k n l P ((i + 1 : Nat) : Int)) true) : ∀ (c j : Nat), j + c = l.length → Ev (fun k => scansionlaw20_ThaiFar.l1 k n l P (i : Int) (j : Int)) true
  | 0, j, h => by
    refine hnext.succ fun k => ?_
    rw [scansionlaw20_ThaiFar.l1, if_neg (by omega), wrap_succ (by omega)]
  | c + 1, j, h => by
    have ih := ev_far_l1 hl hok hw hi hP hnext c (j + 1) (by omega)
    have hj : j < l.length := by omega
    obtain ⟨x, hx⟩ : ∃ x, rd_T31 l (j : Int) = x := ⟨_, rfl⟩
    have hxm : x ∈ l := by rw [← hx, rd31 hj]; exact List.getElem_mem hj
    have hin := okT_in hok
    obtain ⟨s1, s2, s3⟩ := hw.step i hi
    by_cases e : x.f0 = rd P (i : Int)
    · have htop := next_top (n := n) hxm e
      have hnx := nextP_in (okT_fwd hok) s2
      have hx1 := okT_fwd hok x.f0 x.f1 (toL_mem.2 ⟨x, hxm, rfl, rfl⟩)
      have r1 : reachR n l x.f1 2 = (Print.reachT (toL l) 2 x.f1, 0) := by
        unfold reachR
        rw [hok, decide_eq_true (by omega)]
        rfl
      have r2 : reachR n l (nextP (toL l) n (rd P (i : Int))) 2 = (Print.reachT (toL l) 2 (nextP (toL l) n (rd P (i : Int))), 0) := by
        unfold reachR
        rw [hok, decide_eq_true (by omega)]
        rfl
      unfold Gt at htop
      refine ih.succ fun k => ?_
      rw [scansionlaw20_ThaiFar.l1, if_pos (by omega), if_pos (by omega), if_pos (by omega), if_pos (by omega), hx, if_pos e, wrap_succ (by omega), wrap_succ (by omega)]
      unfold thai_Reach.f
      rw [r1, Option.bind_some, if_pos (by omega), if_pos (by omega), s3, r2, Option.bind_some]
      simp only
      rw [if_pos trivial, if_pos trivial, if_neg (by omega)]
      by_cases g : Print.reachT (toL l) 2 x.f1 = Print.reachT (toL l) 2 (nextP (toL l) n (rd P (i : Int)))
      · rw [if_pos g, if_neg (by omega)]
      · rw [if_neg g]
    · refine ih.succ fun k => ?_
      rw [scansionlaw20_ThaiFar.l1, if_pos (by omega), if_pos (by omega), if_pos (by omega), if_pos (by omega), hx, if_neg e, wrap_succ (by omega)]
theorem ev_far_l0 {n : Int} {l : List S31} (hl : l.length ≤ 60) (hok : okT n l = true) {P : List Int} (hw : Way (toL l) n P) (hP : P.length ≤ 6000) : ∀ (c i : Nat), i + c = P.length → Ev (fun k => scansionlaw20_ThaiFar.l0 k n l P (i : Int)) true
  | 0, i, h => by
    refine (Ev.some_ true).succ fun k => ?_
    have hwr : wrap64 ((P.length : Int) - 1) = (P.length : Int) - 1 := by unfold wrap64; omega
    rw [scansionlaw20_ThaiFar.l0, hwr, if_neg (by omega)]
  | c + 1, i, h => by
    have hwr : wrap64 ((P.length : Int) - 1) = (P.length : Int) - 1 := by unfold wrap64; omega
    have ih := ev_far_l0 hl hok hw hP c (i + 1) (by omega)
    by_cases q : i + 1 < P.length
    · have h1 := ev_far_l1 hl hok hw q hP ih l.length 0 (by omega)
      refine h1.succ fun k => ?_
      rw [scansionlaw20_ThaiFar.l0, hwr, if_pos (by omega)]
      rfl
    · refine (Ev.some_ true).succ fun k => ?_
      rw [scansionlaw20_ThaiFar.l0, hwr, if_neg (by omega)]
theorem ThaiFar (n : Int) (l : List S31) : ∃ k, scansionlaw20_ThaiFar.f k n l = some true := by
  have h0 : Ev (fun k => scansionlaw20_ThaiFar.j0 k n l true (!fewB n l)) true := by
    cases q : fewB n l with
    | false => exact (Ev.some_ true).succ fun k => by rw [scansionlaw20_ThaiFar.j0, if_pos (by rfl)]
    | true =>
      have hl := few_len q
      cases hok : okT n l with
      | false =>
        have e : partsR n l = ([], 1) := by unfold partsR; rw [hok]; rfl
        refine (Ev.some_ true).succ fun k => ?_
        rw [scansionlaw20_ThaiFar.j0, if_neg (by simp)]
        unfold thai_Parts.f
        rw [e, Option.bind_some, if_neg (by decide)]
        rfl
      | true =>
        obtain ⟨e, hw⟩ := partsR_way hok
        have hlen := partsR_len n l
        rw [e] at hlen
        have h := ev_far_l0 hl.1 hok hw (by simp only at hlen; omega) (0 :: partsL (toL l) n n.toNat 0).length 0 (by omega)
        refine h.succ fun k => ?_
        rw [scansionlaw20_ThaiFar.j0, if_neg (by simp)]
        unfold thai_Parts.f
        rw [e, Option.bind_some, if_pos rfl]
        rfl
  have h1 : Ev (fun k => scansionlaw20_ThaiFar.f k n l) true := by
    refine (ev_awake.bind (g := fun k t => (scansionlaw20_few.f n l).bind fun t273 => (if t = true then (scansionlaw20_ThaiFar.j0 k n l t (!t273)) else (scansionlaw20_ThaiFar.j0 k n l t true))) (h0.congr fun k => ?_)).congr fun k => by rw [scansionlaw20_ThaiFar.f]
    rw [few_is, Option.bind_some, if_pos rfl]
  obtain ⟨K, hK⟩ := h1
  exact ⟨K, hK K (Nat.le_refl _)⟩
end Go.Proofs.Ytfmnbebkeefboaa.Pure
