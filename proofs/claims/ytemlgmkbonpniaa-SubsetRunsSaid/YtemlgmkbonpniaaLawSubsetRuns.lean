/- The row of scansion's law SubsetRuns: for every input that it may be called with it answers true, and nothing that was there is changed. -/
import Derived.Test.YtemlgmkbonpniaaRows
import Derived.Test.YtemlgmkbonpniaaSLawS
import Derived.Test.YtemlgmkbonpniaaOpnM
import Derived.WalkKit
import Derived.ProofKit
import Derived.OpenShut
import Derived.ShutString
import Derived.ChangeOld
import Derived.Below
import Derived.SizedLaws
import Derived.Test.YtemlgmkbonpniaaWSized
namespace Go.Proofs.Ytemlgmkbonpniaa.subsetRuns
open Go.ChangeShapes Go.WideShapes Go.ChangeAt Go.RowKit Go.Proofs.YtemlgmkbonpniaaW.PrintWords
open Go.ChangeMaps (open_string shut_string)
set_option linter.unusedVariables false
theorem own : ownKnob Try.prog.godebug = none := by kernel_rfl
theorem laidOut : laidOutB Try.prog = true := by kernel_rfl
theorem opens47 : Open.Opens Try.prog Print.k47 47 (fun x : Print.S47 => ((x.f0.length ≤ maxLen ∧ x.f0.length * Try.prog.bytesOf 27 ≤ reachBytes) ∧ ∀ r ∈ x.f0, (r.length ≤ maxLen ∧ r.length * Try.prog.bytesOf 3 ≤ reachBytes) ∧ ∀ z ∈ r, (Lit.int .i64 z).wf = true) ∧ ((x.f1.length ≤ maxLen ∧ x.f1.length * Try.prog.bytesOf 4 ≤ reachBytes) ∧ ∀ b ∈ x.f1, True)) := Open.opens_iso (Open.opens_struct Try.underlying47 (by kernel_rfl) (Open.opensF_cons rfl rfl (Open.opens_slice (e' := 27) (by kernel_rfl) Try.underlying28 (Open.opens_slice (e' := 3) (by kernel_rfl) Try.underlying27 (Open.opens_int (k := .i64) (by kernel_rfl) Try.underlying3))) (Open.opensF_one rfl (Open.opens_slice (e' := 4) (by kernel_rfl) Try.underlying45 (Open.opens_bool (by kernel_rfl) Try.underlying4)))))
  (fun x : Print.S47 => (x.f0, x.f1)) (fun p => ⟨p.1, p.2⟩) (fun _ => rfl)
theorem form47 {w : World} {x : Print.S47} {cs : Array Value} (h : Print.k47.K w x cs.toList) : ∃ A0 c0 A1 c1, cs = #[.slice A0 x.f0.length c0, .slice A1 x.f1.length c1] ∧ x.f0.length ≤ c0 ∧ (Kd.slice 3 (Kd.int .i64)).C w A0 x.f0.length x.f0 ∧ x.f1.length ≤ c1 ∧ Kd.bool.C w A1 x.f1.length x.f1 := by
  obtain ⟨A0, c0, A1, c1, hcs, r⟩ := Print.k47_open h
  exact ⟨A0, c0, A1, c1, by cases cs; simp_all, r⟩
theorem small (n : Nat) (h : n ≤ maxLen) : n ≤ 9223372036854775807 := by simp only [maxLen] at h; omega
set_option maxRecDepth 100000 in
theorem lifted (os : Os) (started : os.Started) (H : Type) (enc : TypeId × Value → H) :
    ReturnsInHanded {} Try.checked os 10 .any (Rows.subsetRunsSpec.pre6 enc Try.prog Try.f10 Rows.subsetRunsRow.domain false) (Rows.subsetRunsSpec.post enc Try.prog Try.f10 false true false false) := by
  refine returnsInHanded_of_change_sized (C := Try.checked) own started (by kernel_rfl) Try.func10
    (ChangeSpec.witness6 (enc := enc) (C := Try.checked) false ⟨#[], #[.agg #[.slice none 0 0, .slice none 0 0], .int .i64 0, .slice none 0 0], []⟩ 8 (by kernel_rfl) (by kernel_rfl) (by kernel_rfl) (by kernel_rfl)) ?_
  intro W base args ds gs before hval0 hW hcnd hsz0 _
  have hsz : (DataW.weightsEach Try.prog (Try.f10.params.toList ++ Rows.subsetRunsSpec.plain.varTypes Try.prog) (ds ++ gs)).all (· ≤ reachBytes) = true := hsz0
  have hval : ∀ (j : Nat) t v, Try.f10.params[j]? = some t → args[j]? = some v → Value.okWide Try.prog W .any base t v := hval0
  have hW' := hW
  obtain ⟨p, q, hA0, hV, rfl, hfz, hnd⟩ := hW
  have hA : DataW.TrodAll enc Try.prog W 0 (fun _ => true) true Try.f10.params.toList args.toList ds p := hA0
  rw [Try.params10] at hA hval hsz
  obtain ⟨v0, vs0, d0, ds0, p0, q0, hargs, rfl, rfl, h0, r0⟩ := trodAll_cons hA
  obtain ⟨v1, vs1, d1, ds1, p1, q1, rfl, rfl, rfl, h1, r1⟩ := trodAll_cons r0
  obtain ⟨v2, vs2, d2, ds2, p2, q2, rfl, rfl, rfl, h2, r2⟩ := trodAll_cons r1
  obtain ⟨rfl, rfl, rfl⟩ := trodAll_nil r2
  obtain rfl : args = #[v0, v1, v2] := by cases args; simp_all
  obtain ⟨rfl, rfl⟩ := trodVars_none hV
  have k0 := h0
  have lt0 : ∀ x ∈ p0, x.block < W.heap.size := by obtain ⟨m, hm⟩ := k0; exact DataW.trod_lt m _ _ _ hm
  obtain ⟨x0, cs0, rfl, K0, G0⟩ := Open.arg_struct (j := 0) hsz (ht := rfl) (hd := rfl) Try.underlying47 opens47 (hval 0 47 v0 rfl rfl) h0
  obtain ⟨a1, rfl, rfl, rfl, w1⟩ := open_int Try.underlying3 (hval 1 3 v1 rfl rfl) h1
  have k2 := h2
  have lt2 : ∀ x ∈ p2, x.block < W.heap.size := by obtain ⟨m, hm⟩ := k2; exact DataW.trod_lt m _ _ _ hm
  obtain ⟨l2, A2, c2, rfl, lc2, hr2, G2⟩ := Open.arg_slice (e' := 0) (j := 2) hsz (ht := rfl) (hd := rfl) Try.underlying27 (by kernel_rfl) (Open.opens_int (k := .i64) (by kernel_rfl) Try.underlying3) (hval 2 27 v2 rfl rfl) h2
  clear hA0 hval0 hsz0 hsz
  obtain ⟨A0, c0, B1, d1, rfl, l0, g0, m1, e1⟩ := form47 K0
  obtain ⟨k, hk⟩ := Print.pure_runs x0.f0 x0.f1 a1 l2 (small _ G0.1.1.1)
  refine (Print.scansionlaw12_SubsetRuns.calls k A0 c0 x0.f0 B1 d1 x0.f1 a1 A2 c2 l2 true W g0 l0 e1 m1 hr2 lc2 hk).mono fun e W' ⟨he, bel⟩ => ?_
  subst he
  exact ⟨_, rfl, _, _, _, [], _, [], hW', trodAll_mk1 (shut_bool Try.underlying4 _), (trodAll_cons_mk (Below.trod laidOut (by kernel_rfl) (of_decide_eq_true (by kernel_rfl)) k0 bel lt0) (trodAll_cons_mk (shut_int Try.underlying3 w1) (trodAll_cons_mk (Below.trod laidOut (by kernel_rfl) (of_decide_eq_true (by kernel_rfl)) k2 bel lt2) trodAll_mk0))), rfl, bel.frame _, fun h => by cases h⟩
theorem over : Rows.subsetRunsRow.holds Try.pinned (OpenSpec.ofChange Rows.subsetRunsSpec) :=
  OpenClaim.holds_of_wide 10 Try.f10 rfl rfl rfl rfl rfl rfl rfl ⟨rfl, rfl, rfl, rfl, rfl⟩ rfl rfl rfl rfl rfl (by kernel_rfl) Try.func10 (by kernel_rfl)
    (of_decide_eq_true (by kernel_rfl)) (by unfold Func.isWrapper; first | (rw [if_pos (by decide +kernel)]; kernel_rfl) | (rw [if_neg (by decide +kernel)]; exact ⟨rfl, rfl⟩))
    (fun os started H enc _ => lifted os started H enc)
theorem proved : Rows.SubsetRunsSaid := over
#print axioms proved
end Go.Proofs.Ytemlgmkbonpniaa.subsetRuns
namespace Go.Proofs.Ytemlgmkbonpniaa
/-- The row, under a short name, for the claim. -/
theorem subsetRuns_holds : Rows.SubsetRunsSaid := subsetRuns.proved
end Go.Proofs.Ytemlgmkbonpniaa
