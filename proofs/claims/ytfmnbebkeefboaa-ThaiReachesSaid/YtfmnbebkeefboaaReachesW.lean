/- The law ThaiReaches: how far any words lead from any place. -/
import Derived.Test.YtfmnbebkeefboaaLawB
import Derived.Test.YtfmnbebkeefboaaPrint26
-- NEEDS scansionref20_Reach
namespace Go.Proofs.Ytfmnbebkeefboaa.Pure
open Go.RowKit Go.Maps Go.Proofs.Ytfmnbebkeefboaa.Print Go.Proofs.YtfmnbebkeefboaaW.PrintWords Go.Proofs.YtfmnbebkeefboaaW.PrintLast Go.Proofs.YtfmnbebkeefboaaW.PrintMore
set_option linter.unusedVariables false
set_option linter.unusedSimpArgs false

theorem ev_Reach (n : Int) (l : List S31) (hl : l.length ≤ 100000) (a w : Int) : Ev (fun k => scansionref20_Reach.f k n l a w) (reachR n l a w) := by
  have hr := ev_right n l hl
  have fin : ∀ b r, Ev (fun k => scansionref20_right.f k n l) b → Ev (fun k => (if b = true then (if a < 0 then (some (0, 1)) else (if a > n then (some (0, 1)) else (if w < 0 then (some (0, 1)) else (if w > 3 then (some (0, 1)) else ((scansionref20_reach.f k l a w).bind fun t364 => (some (t364, 0))))))) else (some ((0, 1) : Int × Int)))) r → Ev (fun k => scansionref20_Reach.f k n l a w) r := fun b r h1 h2 =>
    (h1.bind (g := fun k b => (if b = true then (if a < 0 then (some (0, 1)) else (if a > n then (some (0, 1)) else (if w < 0 then (some (0, 1)) else (if w > 3 then (some (0, 1)) else ((scansionref20_reach.f k l a w).bind fun t364 => (some (t364, 0))))))) else (some ((0, 1) : Int × Int)))) h2).congr fun k => by rw [scansionref20_Reach.f]
  unfold reachR
  cases hok : okT n l with
  | false =>
    rw [hok] at hr
    refine fin _ _ hr ((Ev.some_ _).congr fun k => ?_)
    rw [if_neg (by simp), Bool.false_and, if_neg (by simp)]
  | true =>
    rw [hok] at hr
    by_cases q : 0 ≤ a ∧ a ≤ n ∧ 0 ≤ w ∧ w ≤ 3
    · rw [decide_eq_true q, Bool.and_self, if_pos rfl]
      obtain ⟨v, rfl⟩ : ∃ v : Nat, w = v := ⟨w.toNat, by omega⟩
      have hv := (ev_reach l hl v a (by omega)).bind (g := fun _ t => (some (t, 0) : Option (Int × Int))) (Ev.some_ _)
      rw [Int.toNat_natCast]
      refine fin _ _ hr (hv.congr fun k => ?_)
      rw [if_pos rfl, if_neg (by omega), if_neg (by omega), if_neg (by omega), if_neg (by omega)]
    · rw [decide_eq_false q, Bool.and_false, if_neg (by simp)]
      refine fin _ _ hr ((Ev.some_ _).congr fun k => ?_)
      rw [if_pos rfl]
      by_cases g0 : a < 0
      · rw [if_pos g0]
      rw [if_neg g0]
      by_cases g1 : a > n
      · rw [if_pos g1]
      rw [if_neg g1]
      by_cases g2 : w < 0
      · rw [if_pos g2]
      rw [if_neg g2, if_pos (show w > 3 by omega)]
theorem awake_calls (w : World) : Calls Try.prog 9 #[] w fun e w' => e = .returned (.bool true) ∧ Below w.heap.size w w' := by
  obtain ⟨K, hK⟩ := ev_awake
  exact scansionlaw20_awake.calls K true w (hK K (Nat.le_refl _))
theorem few_calls (n : Int) (A : Option Addr) (c : Nat) (l : List S31) (w : World) (hr : Kd.C k31 w A l.length l) (hc : l.length ≤ c) : Calls Try.prog 10 #[.int .i64 n, .slice A l.length c] w fun e w' => e = .returned (.bool (fewB n l)) ∧ Below w.heap.size w w' :=
  (scansionlaw20_few.calls n A c l (fewB n l) w hr hc (few_is n l)).mono fun e w' h => ⟨h.1, h.2.below⟩
theorem refReach_calls (n : Int) (A : Option Addr) (c : Nat) (l : List S31) (a v : Int) (w : World) (hr : Kd.C k31 w A l.length l) (hc : l.length ≤ c) (hl : l.length ≤ 100000) :
    Calls Try.prog 15 #[.int .i64 n, .slice A l.length c, .int .i64 a, .int .i64 v] w fun e w' => e = .returned (.tuple #[.int .i64 (reachR n l a v).1, .int .i64 (reachR n l a v).2]) ∧ Below w.heap.size w w' := by
  obtain ⟨K, hK⟩ := ev_Reach n l hl a v
  exact scansionref20_Reach.calls K n A c l a v _ _ w hr hc (hK K (Nat.le_refl _))
set_option maxHeartbeats 16000000 in
set_option maxRecDepth 100000 in
theorem thaiReaches_calls (n : Int) (A : Option Addr) (c : Nat) (l : List S31) (x0 x1 : Int) (W : World) (hr : Kd.C k31 W A l.length l) (hc : l.length ≤ c) :
    Calls Try.prog 7 #[.int .i64 n, .slice A l.length c, .agg #[.int .i64 x0, .int .i64 x1]] W fun e w' => e = .returned (.bool true) ∧ Below W.heap.size W w' := by
  have HR := Aside0.mk (Kd.C_below hr (below_alloc (Below.refl W.heap.size W) (.cells #[.int .i64 x0, .int .i64 x1] 33)))
  have HC := Aside0.mk hc
  have HB0 := Aside0.mk (below_alloc (Below.refl W.heap.size W) (.cells #[.int .i64 x0, .int .i64 x1] 33))
  have HX0 := Aside0.mk (blk_new W (.cells #[.int .i64 x0, .int .i64 x1] 33))
  clear hr hc
  go_enter Try.func7, Try.ntmps7
  go_wp2_with fail
  refine (awake_calls _).mono ?_
  rintro e W1 ⟨rfl, hb⟩
  have HR1 := Aside0.mk (Kd.C_below HR.out hb)
  have HB1 := Aside0.mk (below_step HB0.out hb)
  have HX1 := Aside0.mk (blk_below HX0.out hb)
  clear hb
  go_wp2_with fail
  refine (few_calls n A c l W1 HR1.out HC.out).mono ?_
  cases hf : fewB n l with
  | false =>
    rintro e W2 ⟨rfl, hb⟩
    have HB2 := Aside0.mk (below_step HB1.out hb)
    clear hb hf
    go_wp2_with fail
    go_ret
    exact ⟨rfl, HB2.out⟩
  | true =>
    have HL := Aside0.mk (few_len hf)
    rintro e W2 ⟨rfl, hb⟩
    have HR2 := Aside0.mk (Kd.C_below HR1.out hb)
    have HB2 := Aside0.mk (below_step HB1.out hb)
    have HX2 := Aside0.mk (blk_below HX1.out hb)
    clear hb hf
    have x0c := (blk_cell HX2.out 0).trans rfl
    have x1c := (blk_cell HX2.out 1).trans rfl
    have HC1 := Aside0.mk (thaiReach_calls n x0 x1 A c l W2 HR2.out)
    have HC2 := Aside0.mk (fun w h => refReach_calls n A c l x0 x1 w h HC.out (by have := HL.out; omega))
    obtain ⟨r, hrr⟩ : ∃ r, reachR n l x0 x1 = r := ⟨_, rfl⟩
    rw [hrr] at HC1 HC2
    clear hrr
    obtain ⟨r1, r2⟩ := r
    have b1 : (r1 == r1) = true := by simp
    have b2 : (r2 == r2) = true := by simp
    go_wp2_with fail
    refine HC1.out.mono ?_
    rintro e W3 ⟨rfl, hb⟩
    have HR3 := Aside0.mk (Kd.C_below HR2.out hb)
    have HB3 := Aside0.mk (below_step HB2.out hb)
    have HX3 := Aside0.mk (blk_below HX2.out hb)
    clear hb x0c x1c
    have x0c := (blk_cell HX3.out 0).trans rfl
    have x1c := (blk_cell HX3.out 1).trans rfl
    go_wp2_with fail
    refine (HC2.out W3 HR3.out).mono ?_
    rintro e W4 ⟨rfl, hb⟩
    have HB4 := Aside0.mk (below_step HB3.out hb)
    clear hb x0c x1c
    go_wp2_with fail
    go_ret
    exact ⟨by simp, HB4.out⟩
end Go.Proofs.Ytfmnbebkeefboaa.Pure
