/- The row of scansion's law CacheScripts: for every input that it may be called with it answers true, and nothing that was there is changed. -/
import Derived.Test.YtjpbcmfppmiagaaRows
import Derived.Test.YtjpbcmfppmiagaaScripts
import Derived.WalkKit
import Derived.ProofKit
import Derived.OpenShut
import Derived.ShutString
import Derived.ChangeOld
import Derived.Below
import Derived.SizedLaws
import Derived.Test.YtjpbcmfppmiagaaWSized
import Derived.Test.YtjpbcmfppmiagaaOpen2
namespace Go.Proofs.Ytjpbcmfppmiagaa.cacheScripts
open Go.ChangeShapes Go.WideShapes Go.ChangeAt Go.RowKit Go.Proofs.YtjpbcmfppmiagaaW.PrintWords
open Go.ChangeMaps (open_string shut_string)
set_option linter.unusedVariables false
theorem own : ownKnob Try.prog.godebug = none := by kernel_rfl
theorem laidOut : laidOutB Try.prog = true := by kernel_rfl
theorem opens45 : Open.Opens Try.prog Print.k45 45 (fun x : Print.S45 => (Lit.int .i64 x.f0).wf = true ∧ (Lit.int .i64 x.f1).wf = true ∧ x.f2.size ≤ maxLen ∧ ((x.f3.length ≤ maxLen ∧ x.f3.length * Try.prog.bytesOf 3 ≤ reachBytes) ∧ ∀ z ∈ x.f3, (Lit.int .i64 z).wf = true)) :=
  Open.opens_iso (Open.opens_struct Try.underlying45 (by kernel_rfl) (Open.opensF_cons rfl rfl (Open.opens_int (by kernel_rfl) Try.underlying3) (Open.opensF_cons rfl rfl (Open.opens_int (by kernel_rfl) Try.underlying3) (Open.opensF_cons rfl rfl (Open.opens_string (by kernel_rfl) Try.underlying9) (Open.opensF_one rfl (Open.opens_slice (by kernel_rfl) Try.underlying29 (Open.opens_int (by kernel_rfl) Try.underlying3)))))))
    (fun x : Print.S45 => (x.f0, x.f1, x.f2, x.f3)) (fun p => ⟨p.1, p.2.1, p.2.2.1, p.2.2.2⟩) (fun _ => rfl)
theorem bytes3 : Try.prog.bytesOf 3 = 8 := by kernel_rfl
set_option maxRecDepth 100000 in
theorem lifted (os : Os) (started : os.Started) (H : Type) (enc : TypeId × Value → H) :
    ReturnsInHanded {} Try.checked os 7 .any (Rows.cacheScriptsSpec.pre6 enc Try.prog Try.f7 Rows.cacheScriptsRow.domain false) (Rows.cacheScriptsSpec.post enc Try.prog Try.f7 false true false false) := by
  refine returnsInHanded_of_change_sized (C := Try.checked) own started (by kernel_rfl) Try.func7
    (ChangeSpec.witness6 (enc := enc) (C := Try.checked) false ⟨#[], #[.int .i64 0, .slice none 0 0], []⟩ 8 (by kernel_rfl) (by kernel_rfl) (by kernel_rfl) (by kernel_rfl)) ?_
  intro W base args ds gs before hval0 hW hcnd hsz0 _
  have hsz : (DataW.weightsEach Try.prog (Try.f7.params.toList ++ Rows.cacheScriptsSpec.plain.varTypes Try.prog) (ds ++ gs)).all (· ≤ reachBytes) = true := hsz0
  have hval : ∀ (j : Nat) t v, Try.f7.params[j]? = some t → args[j]? = some v → Value.okWide Try.prog W .any base t v := hval0
  have hW' := hW
  obtain ⟨p, q, hA0, hV, rfl, hfz, hnd⟩ := hW
  have hA : DataW.TrodAll enc Try.prog W 0 (fun _ => true) true Try.f7.params.toList args.toList ds p := hA0
  rw [Try.params7] at hA hval hsz
  obtain ⟨v0, vs0, d0, ds0, p0, q0, hargs, rfl, rfl, h0, r0⟩ := trodAll_cons hA
  obtain ⟨v1, vs1, d1, ds1, p1, q1, rfl, rfl, rfl, h1, r1⟩ := trodAll_cons r0
  obtain ⟨rfl, rfl, rfl⟩ := trodAll_nil r1
  obtain rfl : args = #[v0, v1] := by cases args; simp_all
  obtain ⟨rfl, rfl⟩ := trodVars_none hV
  obtain ⟨a0, rfl, rfl, rfl, w0⟩ := open_int Try.underlying3 (hval 0 3 v0 rfl rfl) h0
  have k1 := h1
  have lt1 : ∀ x ∈ p1, x.block < W.heap.size := by obtain ⟨m, hm⟩ := k1; exact DataW.trod_lt m _ _ _ hm
  obtain ⟨l1, A1, c1, rfl, lc1, hr1, G1⟩ := Open.arg_slice (e' := 0) (j := 1) hsz (ht := rfl) (hd := rfl) Try.underlying42 (by kernel_rfl) opens45 (hval 1 42 v1 rfl rfl) h1
  clear hA0 hval0 hsz0 hsz
  have HG1 : ∀ x ∈ l1, x.f2.size ≤ maxLen ∧ x.f3.length ≤ 17592186043904 := fun x hx => ⟨(G1.2 x hx).2.2.1, by have := (G1.2 x hx).2.2.2.1.2; rw [bytes3] at this; unfold reachBytes at this; omega⟩
  refine (Print.scripts_calls a0 A1 c1 l1 W hr1 lc1 HG1 (by have := G1.1.1; unfold maxLen at this; omega)).mono fun e W' ⟨he, bel⟩ => ?_
  subst he
  exact ⟨_, rfl, _, _, _, [], _, [], hW', trodAll_mk1 (shut_bool Try.underlying4 _), (trodAll_cons_mk (shut_int Try.underlying3 w0) (trodAll_cons_mk (Below.trod laidOut (by kernel_rfl) (of_decide_eq_true (by kernel_rfl)) k1 bel lt1) trodAll_mk0)), rfl, bel.frame _, fun h => by cases h⟩
theorem over : Rows.cacheScriptsRow.holds Try.pinned (OpenSpec.ofChange Rows.cacheScriptsSpec) :=
  OpenClaim.holds_of_wide 7 Try.f7 rfl rfl rfl rfl rfl rfl rfl ⟨rfl, rfl, rfl, rfl, rfl⟩ rfl rfl rfl rfl rfl (by kernel_rfl) Try.func7 (by kernel_rfl)
    (of_decide_eq_true (by kernel_rfl)) (by unfold Func.isWrapper; first | (rw [if_pos (by decide +kernel)]; kernel_rfl) | (rw [if_neg (by decide +kernel)]; exact ⟨rfl, rfl⟩))
    (fun os started H enc _ => lifted os started H enc)
theorem proved : Rows.CacheScriptsSaid := over
#print axioms proved
end Go.Proofs.Ytjpbcmfppmiagaa.cacheScripts
namespace Go.Proofs.Ytjpbcmfppmiagaa
/-- The row, under a short name, for the claim. -/
theorem cacheScripts_holds : Rows.CacheScriptsSaid := cacheScripts.proved
end Go.Proofs.Ytjpbcmfppmiagaa
