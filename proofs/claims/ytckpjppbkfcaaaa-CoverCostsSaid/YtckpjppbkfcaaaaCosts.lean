/- The law CoverCosts. -/
import Derived.Test.YtckpjppbkfcaaaaLaws
namespace Go.Proofs.Ytckpjppbkfcaaaa.Pure
open Go.RowKit Go.Maps Go.Proofs.Ytckpjppbkfcaaaa.Print Go.Proofs.YtckpjppbkfcaaaaW.PrintWords Go.Proofs.YtckpjppbkfcaaaaW.PrintLast
set_option linter.unusedVariables false
set_option linter.unusedSimpArgs false

set_option maxHeartbeats 16000000 in
set_option maxRecDepth 100000 in
theorem coverCosts_calls (n p mo : Int) (A : Option Addr) (c : Nat) (l : List S36) (B : Option Addr) (d : Nat) (ps : List Int) (W : World) (hr : Kd.C k36 W A l.length l) (hc : l.length ≤ c) (hp : Kd.C (Kd.int .i64) W B ps.length ps) (hd : ps.length ≤ d) (hwf : ∀ z ∈ ps, (Lit.int .i64 z).wf = true) (hpl : ps.length ≤ 9000000000000000000) :
    Calls Try.prog 7 #[.agg #[.int .i64 n, .int .i64 p, .int .i64 mo], .slice A l.length c, .slice B ps.length d] W fun e w' => e = .returned (.bool true) ∧ Below W.heap.size W w' := by
  have HR := Aside0.mk (Kd.C_below hr (below_alloc (Below.refl W.heap.size W) (.cells #[.int .i64 n, .int .i64 p, .int .i64 mo] 39)))
  have HP := Aside0.mk (Kd.C_below hp (below_alloc (Below.refl W.heap.size W) (.cells #[.int .i64 n, .int .i64 p, .int .i64 mo] 39)))
  have HC := Aside0.mk hc
  have HD := Aside0.mk hd
  have HWF := Aside0.mk hwf
  have HPL := Aside0.mk hpl
  have HB0 := Aside0.mk (below_alloc (Below.refl W.heap.size W) (.cells #[.int .i64 n, .int .i64 p, .int .i64 mo] 39))
  have HX0 := Aside0.mk (blk_new W (.cells #[.int .i64 n, .int .i64 p, .int .i64 mo] 39))
  clear hr hc hp hd hwf hpl
  go_enter Try.func7, Try.ntmps7
  go_wp2_with fail
  refine (awake_calls _).mono ?_
  rintro e W1 ⟨rfl, hb⟩
  have HR1 := Aside0.mk (Kd.C_below HR.out hb)
  have HP1 := Aside0.mk (Kd.C_below HP.out hb)
  have HB1 := Aside0.mk (below_step HB0.out hb)
  have HX1 := Aside0.mk (blk_below HX0.out hb)
  clear hb
  have x0c := (blk_cell HX1.out 0).trans rfl
  have x1c := (blk_cell HX1.out 1).trans rfl
  have x2c := (blk_cell HX1.out 2).trans rfl
  by_cases h1 : (l.length : Int) > 300
  · have h1n : (300 < l.length) = True := eq_true (by omega)
    go_wp2_with fail
    go_ret
    exact ⟨rfl, HB1.out⟩
  have h1n : (300 < l.length) = False := eq_false (by omega)
  by_cases h7 : (ps.length : Int) > 200
  · have h7n : (200 < ps.length) = True := eq_true (by omega)
    go_wp2_with fail
    go_ret
    exact ⟨rfl, HB1.out⟩
  have h7n : (200 < ps.length) = False := eq_false (by omega)
  by_cases h2 : n > 120 ∧ n ≤ 5000
  · have h3 : n > 120 := h2.1
    have h4 : n ≤ 5000 := h2.2
    clear h2
    go_wp2_with fail
    go_ret
    exact ⟨rfl, HB1.out⟩
  have rest : n ≤ 120 ∨ ¬ n ≤ 5000 := by omega
  clear h2
  rcases rest with h5 | h5
  · have h6 : ¬ n > 120 := by omega
    go_wp2_with fail
    refine (cost_calls n p mo A c l B d ps W1 HR1.out HC.out HP1.out HD.out HWF.out (by have := HPL.out; omega)).mono ?_
    rintro e W2 ⟨hb2, rfl⟩
    have HR2 := Aside0.mk (Kd.C_below HR1.out hb2)
    have HP2 := Aside0.mk (Kd.C_below HP1.out hb2)
    have HB2 := Aside0.mk (below_step HB1.out hb2)
    have HX2 := Aside0.mk (blk_below HX1.out hb2)
    clear hb2 x0c x1c x2c
    have x0c := (blk_cell HX2.out 0).trans rfl
    have x1c := (blk_cell HX2.out 1).trans rfl
    have x2c := (blk_cell HX2.out 2).trans rfl
    obtain ⟨K, hK⟩ := ev_refCost n p mo l ps (by have := HPL.out; omega)
    have HK := Aside0.mk (hK K (Nat.le_refl _))
    clear hK
    obtain ⟨r, hr⟩ : ∃ r, costR n p mo l ps = r := ⟨_, rfl⟩
    rw [hr] at HK ⊢
    clear hr
    obtain ⟨r1, r2⟩ := r
    go_wp2_with fail
    refine (scansionref19_Cost.calls K n A c l p mo B d ps r1 r2 W2 HR2.out HC.out HP2.out HD.out HK.out).mono ?_
    rintro e W3 ⟨rfl, hb3⟩
    have HB3 := Aside0.mk (below_step HB2.out hb3)
    clear hb3 x0c x1c x2c
    go_wp2_with fail
    go_ret
    exact ⟨by simp, HB3.out⟩
  · have h6 : n > 120 := by omega
    go_wp2_with fail
    refine (cost_calls n p mo A c l B d ps W1 HR1.out HC.out HP1.out HD.out HWF.out (by have := HPL.out; omega)).mono ?_
    rintro e W2 ⟨hb2, rfl⟩
    have HR2 := Aside0.mk (Kd.C_below HR1.out hb2)
    have HP2 := Aside0.mk (Kd.C_below HP1.out hb2)
    have HB2 := Aside0.mk (below_step HB1.out hb2)
    have HX2 := Aside0.mk (blk_below HX1.out hb2)
    clear hb2 x0c x1c x2c
    have x0c := (blk_cell HX2.out 0).trans rfl
    have x1c := (blk_cell HX2.out 1).trans rfl
    have x2c := (blk_cell HX2.out 2).trans rfl
    obtain ⟨K, hK⟩ := ev_refCost n p mo l ps (by have := HPL.out; omega)
    have HK := Aside0.mk (hK K (Nat.le_refl _))
    clear hK
    obtain ⟨r, hr⟩ : ∃ r, costR n p mo l ps = r := ⟨_, rfl⟩
    rw [hr] at HK ⊢
    clear hr
    obtain ⟨r1, r2⟩ := r
    go_wp2_with fail
    refine (scansionref19_Cost.calls K n A c l p mo B d ps r1 r2 W2 HR2.out HC.out HP2.out HD.out HK.out).mono ?_
    rintro e W3 ⟨rfl, hb3⟩
    have HB3 := Aside0.mk (below_step HB2.out hb3)
    clear hb3 x0c x1c x2c
    go_wp2_with fail
    go_ret
    exact ⟨by simp, HB3.out⟩
end Go.Proofs.Ytckpjppbkfcaaaa.Pure
