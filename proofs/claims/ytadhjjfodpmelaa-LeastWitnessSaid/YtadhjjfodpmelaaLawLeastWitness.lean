/- The row of scansion's law LeastWitness: for every input that it may be called with it answers true, and nothing that was there is changed. -/
import Derived.Test.YtadhjjfodpmelaaRows
import Derived.Test.YtadhjjfodpmelaaPureLeastWitness
import Derived.WalkKit
import Derived.ProofKit
import Derived.OpenShut
import Derived.ShutString
import Derived.ChangeOld
import Derived.Below
import Derived.SizedLaws
import Derived.Test.YtadhjjfodpmelaaWSized
import Derived.Test.YtadhjjfodpmelaaOpen
namespace Go.Proofs.Ytadhjjfodpmelaa.leastWitness
open Go.ChangeShapes Go.WideShapes Go.ChangeAt Go.RowKit Go.Proofs.YtadhjjfodpmelaaW.PrintWords
open Go.ChangeMaps (open_string shut_string)
set_option linter.unusedVariables false
theorem own : ownKnob Try.prog.godebug = none := by kernel_rfl
theorem laidOut : laidOutB Try.prog = true := by kernel_rfl
theorem opens25 : Open.Opens Try.prog Print.k25 25 (fun x : Print.S25 => (x.f0.length ≤ maxLen ∧ ∀ r ∈ x.f0, (r.length ≤ maxLen ∧ ∀ z ∈ r, (Lit.int .i64 z).wf = true)) ∧ (x.f1.length ≤ maxLen ∧ ∀ b ∈ x.f1, True)) :=
  Open.opens_iso (Open.opens_struct2 Try.underlying25 rfl rfl (by kernel_rfl) (Open.opens_slice (by kernel_rfl) Try.underlying22 (Open.opens_slice (by kernel_rfl) Try.underlying33 (Open.opens_int (by kernel_rfl) Try.underlying3))) (Open.opens_slice (by kernel_rfl) Try.underlying23 (Open.opens_bool (by kernel_rfl) Try.underlying4)))
    (fun x : Print.S25 => (x.f0, x.f1)) (fun p => ⟨p.1, p.2⟩) (fun _ => rfl)
theorem form25 {w : World} {x : Print.S25} {cs : Array Value} (h : Print.k25.K w x cs.toList) : ∃ A0 c0 A1 c1, cs = #[.slice A0 x.f0.length c0, .slice A1 x.f1.length c1] ∧ x.f0.length ≤ c0 ∧ (Kd.slice 3 (Kd.int .i64)).C w A0 x.f0.length x.f0 ∧ x.f1.length ≤ c1 ∧ Kd.bool.C w A1 x.f1.length x.f1 := by
  obtain ⟨A0, c0, A1, c1, hcs, r⟩ := Print.k25_open h
  exact ⟨A0, c0, A1, c1, by cases cs; simp_all, r⟩
set_option maxRecDepth 100000 in
theorem lifted (os : Os) (started : os.Started) (H : Type) (enc : TypeId × Value → H) :
    ReturnsInHanded {} Try.checked os 5 .any (Rows.leastWitnessSpec.pre6 enc Try.prog Try.f5 Rows.leastWitnessRow.domain false) (Rows.leastWitnessSpec.post enc Try.prog Try.f5 false true false false) := by
  refine returnsInHanded_of_change_sized (C := Try.checked) own started (by kernel_rfl) Try.func5
    (ChangeSpec.witness6 (enc := enc) (C := Try.checked) false ⟨#[], #[.agg #[.slice none 0 0, .slice none 0 0], .agg #[.slice none 0 0, .slice none 0 0], .slice none 0 0], []⟩ 8 (by kernel_rfl) (by kernel_rfl) (by kernel_rfl) (by kernel_rfl)) ?_
  intro W base args ds gs before hval0 hW hcnd hsz0 _
  have hsz : (DataW.weightsEach Try.prog (Try.f5.params.toList ++ Rows.leastWitnessSpec.plain.varTypes Try.prog) (ds ++ gs)).all (· ≤ reachBytes) = true := hsz0
  have hval : ∀ (j : Nat) t v, Try.f5.params[j]? = some t → args[j]? = some v → Value.okWide Try.prog W .any base t v := hval0
  have hW' := hW
  obtain ⟨p, q, hA0, hV, rfl, hfz, hnd⟩ := hW
  have hA : DataW.TrodAll enc Try.prog W 0 (fun _ => true) true Try.f5.params.toList args.toList ds p := hA0
  rw [Try.params5] at hA hval hsz
  obtain ⟨v0, vs0, d0, ds0, p0, q0, hargs, rfl, rfl, h0, r0⟩ := trodAll_cons hA
  obtain ⟨v1, vs1, d1, ds1, p1, q1, rfl, rfl, rfl, h1, r1⟩ := trodAll_cons r0
  obtain ⟨v2, vs2, d2, ds2, p2, q2, rfl, rfl, rfl, h2, r2⟩ := trodAll_cons r1
  obtain ⟨rfl, rfl, rfl⟩ := trodAll_nil r2
  obtain rfl : args = #[v0, v1, v2] := by cases args; simp_all
  obtain ⟨rfl, rfl⟩ := trodVars_none hV
  have k0 := h0
  have lt0 : ∀ x ∈ p0, x.block < W.heap.size := by obtain ⟨m, hm⟩ := k0; exact DataW.trod_lt m _ _ _ hm
  obtain ⟨x0, cs0, rfl, K0, G0⟩ := Open.arg_struct Try.underlying25 opens25 (hval 0 25 v0 rfl rfl) h0
  have k1 := h1
  have lt1 : ∀ x ∈ p1, x.block < W.heap.size := by obtain ⟨m, hm⟩ := k1; exact DataW.trod_lt m _ _ _ hm
  obtain ⟨x1, cs1, rfl, K1, G1⟩ := Open.arg_struct Try.underlying25 opens25 (hval 1 25 v1 rfl rfl) h1
  have k2 := h2
  have lt2 : ∀ x ∈ p2, x.block < W.heap.size := by obtain ⟨m, hm⟩ := k2; exact DataW.trod_lt m _ _ _ hm
  obtain ⟨l2, A2, c2, rfl, lc2, hr2, G2⟩ := Open.arg_slice (e' := 0) Try.underlying33 (by kernel_rfl) (Open.opens_int (k := .i64) (by kernel_rfl) Try.underlying3) (hval 2 33 v2 rfl rfl) h2
  clear hA0 hval0 hsz0 hsz
  obtain ⟨A0, c0, B1, d1, rfl, l0, g0, m1, e1⟩ := form25 K0
  obtain ⟨A2', c2', A3, c3, rfl, m2, e2, m3, e3⟩ := form25 K1
  refine (Pure.witness_calls A0 c0 x0.f0 B1 d1 x0.f1 A2' c2' x1.f0 A3 c3 x1.f1 A2 c2 l2 W g0 l0 e1 m1 e2 m2 e3 m3 hr2 lc2 G0.1.1 G1.1.1).mono fun e W' ⟨he, bel⟩ => ?_
  subst he
  exact ⟨_, rfl, _, _, _, [], _, [], hW', trodAll_mk1 (shut_bool Try.underlying4 _), (trodAll_cons_mk (Below.trod laidOut (by kernel_rfl) (of_decide_eq_true (by kernel_rfl)) k0 bel lt0) (trodAll_cons_mk (Below.trod laidOut (by kernel_rfl) (of_decide_eq_true (by kernel_rfl)) k1 bel lt1) (trodAll_cons_mk (Below.trod laidOut (by kernel_rfl) (of_decide_eq_true (by kernel_rfl)) k2 bel lt2) trodAll_mk0))), rfl, bel.frame _, fun h => by cases h⟩
theorem over : Rows.leastWitnessRow.holds Try.pinned (OpenSpec.ofChange Rows.leastWitnessSpec) :=
  OpenClaim.holds_of_wide 5 Try.f5 rfl rfl rfl rfl rfl rfl rfl ⟨rfl, rfl, rfl, rfl, rfl⟩ rfl rfl rfl rfl rfl (by kernel_rfl) Try.func5 (by kernel_rfl)
    (of_decide_eq_true (by kernel_rfl)) (by unfold Func.isWrapper; first | (rw [if_pos (by decide +kernel)]; kernel_rfl) | (rw [if_neg (by decide +kernel)]; exact ⟨rfl, rfl⟩))
    (fun os started H enc _ => lifted os started H enc)
theorem proved : Rows.LeastWitnessSaid := over
#print axioms proved
end Go.Proofs.Ytadhjjfodpmelaa.leastWitness
namespace Go.Proofs.Ytadhjjfodpmelaa
/-- The row, under a short name, for the claim. -/
theorem leastWitness_holds : Rows.LeastWitnessSaid := leastWitness.proved
end Go.Proofs.Ytadhjjfodpmelaa
