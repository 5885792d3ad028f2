/- cache.New; the rows' first lines (awake). -/
import Derived.Test.YtjpbcmfppmiagaaPut
namespace Go.Proofs.Ytjpbcmfppmiagaa.Print
open Go.RowKit Go.Maps Go.Proofs.YtjpbcmfppmiagaaW.PrintWords Go.Proofs.YtjpbcmfppmiagaaW.PrintLast Go.Proofs.YtjpbcmfppmiagaaW.PrintMore
set_option linter.unusedVariables false
set_option linter.unusedSimpArgs false

def rightN (n : Int) : Bool := decide (0 ≤ n ∧ n ≤ 1000)
theorem right_calls (n : Int) (W : World) : Calls Try.prog 20 #[.int .i64 n] W fun e w' => e = .returned (.bool (rightN n)) ∧ Below W.heap.size W w' := by
  by_cases h1 : n ≥ 0
  · by_cases h2 : n ≤ 1000
    · have e : rightN n = true := decide_eq_true ⟨h1, h2⟩
      have d1 : decide (n ≥ 0) = true := decide_eq_true h1
      have d2 : decide (n ≤ 1000) = true := decide_eq_true h2
      rw [e]
      clear e
      go_enter Try.func20, Try.ntmps20
      go_wp2_with fail
      go_ret
      exact ⟨rfl, Below.refl _ _⟩
    · have e : rightN n = false := decide_eq_false (fun h => h2 h.2)
      have d1 : decide (n ≥ 0) = true := decide_eq_true h1
      have d2 : decide (n ≤ 1000) = false := decide_eq_false h2
      rw [e]
      clear e
      go_enter Try.func20, Try.ntmps20
      go_wp2_with fail
      go_ret
      exact ⟨rfl, Below.refl _ _⟩
  · have e : rightN n = false := decide_eq_false (fun h => h1 h.1)
    have d1 : decide (n ≥ 0) = false := decide_eq_false h1
    rw [e]
    clear e
    go_enter Try.func20, Try.ntmps20
    go_wp2_with fail
    go_ret
    exact ⟨rfl, Below.refl _ _⟩
def noLists : Lists := fun _ => none
theorem new_bad (n : Int) (W : World) (hn : rightN n = false) : Calls Try.prog 9 #[.int .i64 n] W fun e w' => e = .returned (.tuple #[.pointer none, .int .i64 1]) ∧ Below W.heap.size W w' := by
  have HR := Aside0.mk (right_calls n W)
  rw [hn] at HR
  clear hn
  go_enter Try.func9, Try.ntmps9
  go_wp2_with fail
  refine HR.out.mono ?_
  rintro e W1 ⟨rfl, hb⟩
  have HB := Aside0.mk hb
  clear hb
  go_wp2_with fail
  go_ret2
  exact ⟨rfl, HB.out⟩
theorem new_good (ok : Nat → Prop) (n : Int) (W : World) (base : Nat) (hb : base ≤ W.heap.size) (hn : rightN n = true) : Calls Try.prog 9 #[.int .i64 n] W fun e w' => ∃ CB MB, e = .returned (.tuple #[.pointer (some ⟨CB, 0, none⟩), .int .i64 0]) ∧ CInv ok base CB MB (.slice none 0 0) n noLists [] 0 0 w' ∧ Below W.heap.size W w' ∧ W.heap.size ≤ CB ∧ W.heap.size ≤ MB := by
  have HR := Aside0.mk (right_calls n W)
  rw [hn] at HR
  have hmm := @run_makeMap Try.prog
  have HS := Aside0.mk hb
  clear hn hb
  go_enter Try.func9, Try.ntmps9
  go_wp2_with fail
  refine HR.out.mono ?_
  rintro e W1 ⟨rfl, hb⟩
  have HB := Aside0.mk hb
  clear hb
  go_wp2_with fail
  go_ret2
  have hs := HB.out.size
  have hs0 := HS.out
  have hblk := blk_new (W1.alloc (.map #[] 0)) (.cells #[.int .i64 n, .map (some W1.heap.size), .slice none 0 0, .int .i64 0, .int .i64 0] 58)
  have hsz : (W1.alloc (.map #[] 0)).heap.size = W1.heap.size + 1 := by simp
  rw [hsz] at hblk
  have hm := (MapG.made W1).move (Below.heap_alloc (W1.alloc (.map #[] 0)) (.cells #[.int .i64 n, .map (some W1.heap.size), .slice none 0 0, .int .i64 0, .int .i64 0] 58) W1.heap.size (by rw [hsz]; omega))
  exact ⟨_, _, rfl, ⟨hblk, ⟨_, hm, fun k => by simp [noLists], fun k v l e => by simp at e⟩, Kd.R_nil _ _ _ _ _, by omega, by omega⟩, below_alloc (below_alloc HB.out _) _, by omega, by omega⟩

theorem R_one {W : World} {base : Nat} (x : Int) (h : base ≤ W.heap.size) : Kd.R (Kd.int .i64) 3 (W.alloc (.cells #[.int .i64 x] 3)) base (fun _ => True) (.slice (some ⟨W.heap.size, 0, none⟩) 1 1) [x] := by
  refine ⟨fun _ _ => trivial, [.int .i64 x], ?_, ?_⟩
  · have h2 := World.ownsRow_lit (base := base) (e := 3) (size := (Kd.int .i64).sz) W #[.int .i64 x] 1 h (by decide) rfl
    simpa using h2
  · exact Reps.one (show Kd.M (Kd.int .i64) _ _ _ x [.int .i64 x] from rfl) (Reps.none _ _)
theorem cut_one (most : Int) (m : Lists) (k : ByteArray) (h : 1 ≤ most) : cutAll most m (notKey k [] ++ [k]) = (m, [k]) := by
  unfold cutAll
  rw [if_neg (by omega)]
  show cutF most m [k] = _
  rw [cutF, if_neg (by simp; omega)]
theorem setL_same (m : Lists) (k : ByteArray) (l : Option (List Int)) : setL m k l k = l := by unfold setL; rw [if_pos rfl]
/-- awake answers true. -/
theorem awake_calls (W : World) : Calls Try.prog 8 #[] W fun e w' => e = .returned (.bool true) ∧ Below W.heap.size W w' := by
  have HN := Aside0.mk (new_good (fun _ => True) 2 W W.heap.size (Nat.le_refl _) rfl)
  have hs1 : (⟨#[97]⟩ : ByteArray).size ≤ maxLen := by decide
  go_enter Try.func8, Try.ntmps8
  go_wp2_with fail
  refine HN.out.mono ?_
  rintro e W1 ⟨CB, MB, rfl, hi, hb, hC, hM⟩
  have HI := Aside0.mk hi
  have HB := Aside0.mk hb
  have HCM := Aside0.mk (And.intro hC hM)
  clear hi hb hC hM
  go_wp2_with fail
  have hsz1 := HB.out.size
  have HI1 := Aside0.mk (HI.out.later (below_alloc (Below.refl _ _) (.cells #[.int .i64 7] 3)))
  have HB1 := Aside0.mk (below_alloc HB.out (.cells #[.int .i64 7] 3))
  have HR1 := Aside0.mk (R_one (W := W1) (base := W.heap.size) 7 hsz1)
  generalize W1.alloc (.cells #[.int .i64 7] 3) = W2 at *
  refine (put_calls (fun _ => True) W.heap.size CB MB _ 2 noLists [] 0 0 W2 ⟨#[97]⟩ _ _ [7] HI1.out HB1.out.size (by simp) (fun k hk => by simp at hk) (by omega) hs1 (Kd.R_reads' HR1.out).2.2 (fun _ _ => trivial) (by simp)).mono ?_
  rintro e W3 ⟨rfl, v3, hi3, ht3⟩
  rw [cut_one 2 _ _ (by omega)] at hi3
  have HI3 := Aside0.mk hi3
  have HB3 := Aside0.mk (HB1.out.trans (ht3.below HI.out.hC HI.out.hM HB1.out.size))
  clear hi3 ht3 HI HI1 HB1 HR1 HB
  go_wp2_with fail
  refine (hit_calls (fun _ => True) W.heap.size CB MB v3 2 _ _ 0 0 W3 ⟨#[97]⟩ [7] HI3.out HB3.out.size (by simp) hs1 (setL_same _ _ _) (by simp)).mono ?_
  rintro e W4 ⟨u, rfl, ⟨v4, hi4⟩, ht4, hu⟩
  have HB4 := Aside0.mk (HB3.out.trans (ht4.below HI3.out.hC HI3.out.hM HB3.out.size))
  have HU := Aside0.mk hu
  obtain ⟨g, cap, rfl, _, _, _⟩ := Kd.R_form hu (by simp)
  have hc : W4.cell? ⟨g, 0, none⟩ = some (.int .i64 7) := (Kd.R_celln 0 hu 0 (by omega) (by simp)).1
  clear hi4 ht4 hu HI3 HB3
  go_wp2_with fail
  go_ret
  exact ⟨by rfl, HB4.out⟩
end Go.Proofs.Ytjpbcmfppmiagaa.Print
