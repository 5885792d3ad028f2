/- The contracts of utf.Runes and utf.Valid: the code points of the units alone; whether no unit is bad. -/
import Derived.Test.YtefomeabnlecoaaCollect
namespace Go.Proofs.Ytefomeabnlecoaa.Print
open Go.RowKit Go.Shelf Go.Proofs.YtefomeabnlecoaaW.PrintWords Go.Proofs.YtefomeabnlecoaaW.PrintLast Go.Proofs.YtefomeabnlecoaaW.PrintMore
attribute [local go_sem] Oper.semAt_some
set_option linter.unusedVariables false
set_option linter.unusedSimpArgs false

def runesOf (xs : List S35) : List Int := xs.map fun x => x.f0
def vals (xs : List Int) : List Value := xs.map (Value.int .i64)
theorem Try.info3' : (Try.prog.info? 3).map (fun i => (i.zero, i.size, i.bytes)) = some (some (.int .i64 0), 1, 8) := by kernel_rfl

set_option maxRecDepth 100000 in
set_option maxHeartbeats 4000000 in
theorem runes_calls (A : Option Addr) (c : Nat) (l : List Int) (hby : ∀ i : Int, 0 ≤ i → i < l.length → 0 ≤ rd l i ∧ rd l i ≤ 255) (w : World) (hN : (units l).length * 32 ≤ 140737488355328)
    (hr : Kd.C (Kd.int .u8) w A l.length l) :
    Calls Try.prog 20 #[.slice A l.length c] w fun e w' => ∃ v : Value, e = .returned v ∧ w'.ownsRow w.heap.size 3 1 v (runesOf (units l)).length (vals (runesOf (units l))) ∧ Below w.heap.size w w' := by
  obtain ⟨i0, hi, hz0, hz1, hz2⟩ := info_parts Try.info3'
  have hmax : (units l).length ≤ maxLen := by unfold maxLen; omega
  have HR := Aside0.mk hr
  have HBY := Aside0.mk hby
  clear hr hby
  refine (callsIn_wide (n := 5)).1 ?_
  refine callsIn_of_wp_marks Try.func20 rfl trivial ?_ rfl
  simp only [Try.ntmps20, List.size_toArray, List.length_cons, List.length_nil, Nat.reduceAdd, Nat.reduceSub, Array.replicate_succ, Array.replicate_zero, List.push_toArray, List.append_toArray, List.nil_append, List.cons_append]
  gi_wp2_with (first | (with_reducible refine fn_wide ?_) | (gi_at_call 33; refine (callsIn_wide.2 (units_call _ _ _ _)).mono ?_; rintro e w' ⟨rfl, rfl⟩))
  have hs : ((w.alloc (.cells #[.slice none 0 0] 36)).alloc (.cells #[.slice A l.length c] 23)).heap.size = w.heap.size + 2 := by simp
  have bS := (Boxed.new w 36 (.slice none 0 0)).alloc (.cells #[.slice A l.length c] 23)
  have bN := Boxed.new (w.alloc (.cells #[.slice none 0 0] 36)) 23 (.slice A l.length c)
  rw [World.size_alloc] at bN
  have hB0 : Below w.heap.size w ((w.alloc (.cells #[.slice none 0 0] 36)).alloc (.cells #[.slice A l.length c] 23)) := ((Below.refl _ w).alloc (Nat.le_refl _) _).alloc (by simp) _
  have hstops := units_stops 4 (by omega) (w.heap.size + 1) A c l HBY.out w ((w.alloc (.cells #[.slice none 0 0] 36)).alloc (.cells #[.slice A l.length c] 23)) hB0 HR.out bN.cell (by omega)
  obtain ⟨W0, hW0⟩ : ∃ W0, (w.alloc (.cells #[.slice none 0 0] 36)).alloc (.cells #[.slice A l.length c] 23) = W0 := ⟨_, rfl⟩
  rw [hW0] at hs bS bN hB0 hstops ⊢
  clear hW0
  refine wpIn_rangeFunc_ownH rfl (by omega) (gf := 37) (lb := #[.pointer (some ⟨w.heap.size + 1, 0, none⟩)]) rfl trivial (enters_of Try.func37 (by kernel_rfl) rfl)
    hstops kpU_t (kpU_b (by omega) (by omega)) (Below.refl _ _) (fun _ => rfl)
    (fun pre W => ((∃ v, Boxed W w.heap.size 36 v ∧ W.ownsRow w.heap.size 3 1 v (runesOf pre).length (vals (runesOf pre)) ∧ True) ∧ Boxed W (w.heap.size + 1) 23 (.slice A l.length c)) ∧ Below w.heap.size w W)
    (fun _ _ _ => False)
    (OwnFrom.and (OwnFrom.and (Own.from (holdsRow_own w.heap.size w.heap.size 36 3 1 (fun pre => (runesOf pre).length) (fun pre => vals (runesOf pre)) (fun _ _ => True)) _) (Own.from (boxed_own _ _ _) _)) (ownFrom_below (Nat.le_refl _) (by omega)))
    (fun _ _ _ _ _ hs _ _ => hs)
    ⟨⟨⟨_, bS, World.ownsRow_nil _ _ _ _, trivial⟩, bN⟩, hB0⟩
    (fun x a' W => ∃ Bx, w.heap.size + 1 < Bx ∧ Unit4 W Bx x ∧ a' = { tmps := #[.slice A l.length c, undef, .slice none 0 0, .pointer (some ⟨w.heap.size, 0, none⟩), .pointer (some ⟨Bx, 0, none⟩), .slice A l.length c, .func (.func 37) #[] #[.pointer (some ⟨w.heap.size + 1, 0, none⟩)], .agg #[.int .i64 x.f0, .int .i64 x.f1, .int .i64 x.f2, .bool x.f3], undef, undef, undef, undef, undef, undef], defers := [] })
    (fun x a' _ X Y row hs hg hr => by obtain ⟨Bx, h1, h2, h3⟩ := hs; exact ⟨Bx, h1, Unit4.own Bx x () X Y row h2 hg (fun r e => (hr r e).2), h3⟩)
    ?assign ?body ?done ?stop
  case assign =>
    rintro l2 pre x W K ⟨⟨⟨v, hv, hrow, _⟩, hbn⟩, hB1⟩ hK
    dsimp only [enc35]
    gi_wp2
    have hkw : Below w.heap.size W (W.alloc (.cells #[.int .i64 x.f0, .int .i64 x.f1, .int .i64 x.f2, .bool x.f3] 35)) := (Below.refl _ W).alloc hB1.size _
    exact hK _ _ ((KeepsOthers.alloc _ _).from _) ⟨hkw, (hbn.alloc _).cell.trans hbn.cell.symm⟩ ⟨⟨⟨v, hv.alloc _, hrow.alloc _, trivial⟩, hbn.alloc _⟩, hB1.alloc hB1.size _⟩ ⟨W.heap.size, hbn.lt, Unit4.new W x, rfl⟩
  case body =>
    rintro l2 pre x a' W hl ⟨r, hr⟩ ⟨⟨⟨v, hv, hrow, _⟩, hbn⟩, hB1⟩ ⟨Bx, hBx, bX, rfl⟩ hlt
    have hc := hv.cell
    obtain ⟨x0, x1, x2, x3⟩ := bX.cells
    have hsz := hB1.size
    have hsw := hv.lt
    have hpl : (runesOf pre).length = pre.length := by simp [runesOf]
    clear bX
    have HPL := Aside0.mk hpl
    have b1 : (runesOf pre).length + 1 ≤ maxLen := by omega
    have b2 : ((runesOf pre).length + 1) * 8 ≤ 140737488355328 := by omega
    clear hpl
    gi_wp2_with (gi_at_builtin; refine wpListIn_append_own _ rfl _ _ 36 rfl w.heap.size 3 i0 (.int .i64 0) 1 8 Try.underlying36 hi hz0 hz1 hz2 rfl (by decide) _ _ _ rfl (hrow.alloc _) ⟨W.heap.size, 0, none⟩ 1 1 [.int .i64 x.f0] rfl rfl (cell_one_new _ _ _) (by simp [Value.oneCell']) b1 b2 (by simp; omega) ?_; intro v' w1 hown' hgrow _; obtain ⟨g', cap', rfl⟩ := ownsRow_succ hown'; obtain ⟨hv1, hv2, hr2, hk2, hb2⟩ := hv.appended (by decide) hrow hsz (Nat.le_refl _) hown' hgrow; have hc1 := hv1.cell; have hf1 := hv1.frozen; have hbn1 : Boxed _ (w.heap.size + 1) 23 _ := ((hbn.alloc _).kept hgrow (hbn.not_row (by decide) hrow)).other (B' := w.heap.size) (by omega) (.slice (some ⟨g', 0, none⟩) ((runesOf pre).length + 1) cap'))
    exact ⟨hk2.from _, ⟨hb2, hbn1.cell.trans hbn.cell.symm⟩, ⟨⟨_, hv2, by simpa [runesOf, vals] using hr2, trivial⟩, hbn1⟩, hB1.trans hb2⟩
  case done =>
    rintro D ys W hD rfl ⟨⟨⟨v, hv, hrow, _⟩, hbn⟩, hB1⟩ hK
    have hc := hv.cell
    gi_wp2_with fail
    refine ⟨by simp, .inl ⟨_, _, rfl, run_takeDeferred hK, ?_⟩⟩
    exact ⟨_, results_tmp rfl _ _ _, v, rfl, ownsRow_putObj hrow _ hK rfl, hB1.trans (belowK_b (w := w) (Nat.le_refl _) W D _ _ (by omega) hK rfl rfl)⟩
  case stop =>
    rintro D c pre W _ _ h _
    exact h.elim

theorem encs_vals (xs : List Int) : vals xs = encs (Value.int .i64) xs := rfl

def utf_Runes.f (l : List Int) : Option (List Int) := if (∀ i : Nat, i < l.length → 0 ≤ rd l i ∧ rd l i ≤ 255) ∧ (units l).length * 32 ≤ 140737488355328 then some (runesOf (units l)) else none

theorem utf_Runes.calls (A0 : Option Addr) (c0 : Nat) (l0 : List Int) (r : List Int) (w : World) (hr0 : Kd.C (Kd.int .u8) w A0 l0.length l0) (hc0 : l0.length ≤ c0) (h : utf_Runes.f l0 = some r) :
    Calls Try.prog 20 #[.slice A0 l0.length c0] w fun e w' => ∃ v0_ : Value, e = .returned (v0_) ∧ Kd.R (Kd.int .i64) 3 w' w.heap.size (fun _ => True) v0_ r ∧ Below w.heap.size w w' := by
  unfold utf_Runes.f at h
  by_cases hc : (∀ i : Nat, i < l0.length → 0 ≤ rd l0 i ∧ rd l0 i ≤ 255) ∧ (units l0).length * 32 ≤ 140737488355328
  · rw [if_pos hc] at h
    obtain rfl := Option.some.inj h
    refine (runes_calls A0 c0 l0 (bytes_at hc.1) w hc.2 hr0).mono ?_
    rintro e w' ⟨v, rfl, ho, hb⟩
    exact ⟨v, rfl, Kd.R_of_own (enc := Value.int .i64) (h1 := fun _ => rfl) ho (fun _ _ => trivial), hb⟩
  · rw [if_neg hc] at h; cases h

/-- Whether no unit is bad. -/
def noBad (xs : List S35) : Bool := xs.all fun x => !x.f3
theorem noBad_yes {xs : List S35} (h : ∀ y ∈ xs, y.f3 = false) : noBad xs = true := by
  unfold noBad; rw [List.all_eq_true]; intro y hy; rw [h y hy]; rfl
theorem noBad_no {xs : List S35} (h : ∃ y ∈ xs, y.f3 = true) : noBad xs = false := by
  obtain ⟨y, hy, h⟩ := h
  unfold noBad; rw [List.all_eq_false]; exact ⟨y, hy, by rw [h]; decide⟩

set_option maxRecDepth 100000 in
set_option maxHeartbeats 4000000 in
theorem valid_calls (A : Option Addr) (c : Nat) (l : List Int) (hby : ∀ i : Int, 0 ≤ i → i < l.length → 0 ≤ rd l i ∧ rd l i ≤ 255) (w : World) (hr : Kd.C (Kd.int .u8) w A l.length l) :
    Calls Try.prog 24 #[.slice A l.length c] w fun e w' => e = .returned (.bool (noBad (units l))) ∧ Below w.heap.size w w' := by
  have HR := Aside0.mk hr
  have HBY := Aside0.mk hby
  clear hr hby
  refine (callsIn_wide (n := 5)).1 ?_
  refine callsIn_of_wp_marks Try.func24 rfl trivial ?_ rfl
  simp only [Try.ntmps24, List.size_toArray, List.length_cons, List.length_nil, Nat.reduceAdd, Nat.reduceSub, Array.replicate_succ, Array.replicate_zero, List.push_toArray, List.append_toArray, List.nil_append, List.cons_append]
  gi_wp2_with (first | (with_reducible refine fn_wide ?_) | (gi_at_call 33; refine (callsIn_wide.2 (units_call _ _ _ _)).mono ?_; rintro e w' ⟨rfl, rfl⟩))
  have hs : ((w.alloc (.cells #[.bool false] 4)).alloc (.cells #[.slice A l.length c] 23)).heap.size = w.heap.size + 2 := by simp
  have bS := (Boxed.new w 4 (.bool false)).alloc (.cells #[.slice A l.length c] 23)
  have bN := Boxed.new (w.alloc (.cells #[.bool false] 4)) 23 (.slice A l.length c)
  rw [World.size_alloc] at bN
  have hB0 : Below w.heap.size w ((w.alloc (.cells #[.bool false] 4)).alloc (.cells #[.slice A l.length c] 23)) := ((Below.refl _ w).alloc (Nat.le_refl _) _).alloc (by simp) _
  have hstops := units_stops 4 (by omega) (w.heap.size + 1) A c l HBY.out w ((w.alloc (.cells #[.bool false] 4)).alloc (.cells #[.slice A l.length c] 23)) hB0 HR.out bN.cell (by omega)
  obtain ⟨W0, hW0⟩ : ∃ W0, (w.alloc (.cells #[.bool false] 4)).alloc (.cells #[.slice A l.length c] 23) = W0 := ⟨_, rfl⟩
  rw [hW0] at hs bS bN hB0 hstops ⊢
  clear hW0
  refine wpIn_rangeFunc_ownH rfl (by omega) (gf := 37) (lb := #[.pointer (some ⟨w.heap.size + 1, 0, none⟩)]) rfl trivial (enters_of Try.func37 (by kernel_rfl) rfl)
    hstops kpU_t (kpU_b (by omega) (by omega)) (Below.refl _ _) (fun _ => rfl)
    (fun pre W => (((∀ y ∈ pre, y.f3 = false) ∧ Boxed W w.heap.size 4 (.bool false)) ∧ Boxed W (w.heap.size + 1) 23 (.slice A l.length c)) ∧ Below w.heap.size w W)
    (fun c pre W => ((c = .ret ∧ ∃ y ∈ pre, y.f3 = true) ∧ Boxed W w.heap.size 4 (.bool false)) ∧ Below w.heap.size w W)
    (OwnFrom.and (OwnFrom.and (OwnFrom.and (ownFrom_pure _ _) (Own.from (boxed_own _ _ _) _)) (Own.from (boxed_own _ _ _) _)) (ownFrom_below (Nat.le_refl _) (by omega)))
    (fun c => OwnFrom.and (OwnFrom.and (ownFrom_pure _ _) (Own.from (boxed_own _ _ _) _)) (ownFrom_below (Nat.le_refl _) (by omega)))
    ⟨⟨⟨by simp, bS⟩, bN⟩, hB0⟩
    (fun x a' W => ∃ Bx, w.heap.size + 1 < Bx ∧ Unit4 W Bx x ∧ a' = { tmps := #[.slice A l.length c, undef, .pointer (some ⟨w.heap.size, 0, none⟩), .pointer (some ⟨Bx, 0, none⟩), .slice A l.length c, .func (.func 37) #[] #[.pointer (some ⟨w.heap.size + 1, 0, none⟩)], .agg #[.int .i64 x.f0, .int .i64 x.f1, .int .i64 x.f2, .bool x.f3], undef, undef], defers := [] })
    (fun x a' _ X Y row hs hg hr => by obtain ⟨Bx, h1, h2, h3⟩ := hs; exact ⟨Bx, h1, Unit4.own Bx x () X Y row h2 hg (fun r e => (hr r e).2), h3⟩)
    ?assign ?body ?done ?stop
  case assign =>
    rintro l2 pre x W K ⟨⟨⟨hp, hv⟩, hbn⟩, hB1⟩ hK
    dsimp only [enc35]
    gi_wp2
    have hkw : Below w.heap.size W (W.alloc (.cells #[.int .i64 x.f0, .int .i64 x.f1, .int .i64 x.f2, .bool x.f3] 35)) := (Below.refl _ W).alloc hB1.size _
    exact hK _ _ ((KeepsOthers.alloc _ _).from _) ⟨hkw, (hbn.alloc _).cell.trans hbn.cell.symm⟩ ⟨⟨⟨hp, hv.alloc _⟩, hbn.alloc _⟩, hB1.alloc hB1.size _⟩ ⟨W.heap.size, hbn.lt, Unit4.new W x, rfl⟩
  case body =>
    rintro l2 pre x a' W hl ⟨r, hr⟩ ⟨⟨⟨hp, hv⟩, hbn⟩, hB1⟩ ⟨Bx, hBx, bX, rfl⟩ hlt
    have hc := hv.cell
    have hf := hv.frozen
    obtain ⟨x0, x1, x2, x3⟩ := bX.cells
    have hsz := hB1.size
    have HP := Aside0.mk hp
    clear bX hp
    cases hx : x.f3 with
    | true =>
      rw [hx] at x3
      have HX := Aside0.mk hx
      clear hx
      gi_wp2_with fail
      exact ⟨(KeepsOthers.setCell _ _ _).from _, ⟨⟨rfl, x, by simp, HX.out⟩, hv.set _⟩, hB1.setCell (p := ⟨w.heap.size, 0, none⟩) (Nat.le_refl _) _⟩
    | false =>
      rw [hx] at x3
      have HX := Aside0.mk hx
      clear hx
      gi_wp2_with fail
      exact ⟨KeepsFrom.refl _ _, ⟨Below.refl _ _, rfl⟩, ⟨⟨fun y hy => (List.mem_append.1 hy).elim (HP.out y) (fun e => by simp at e; rw [e]; exact HX.out), hv⟩, hbn⟩, hB1⟩
  case done =>
    rintro D ys W hD rfl ⟨⟨⟨hp, hv⟩, hbn⟩, hB1⟩ hK
    have hc := hv.cell
    have hf := hv.frozen
    have HP := Aside0.mk hp
    clear hp
    gi_wp2_with fail
    have hK' := (KeepsOthers.setCell W ⟨w.heap.size, 0, none⟩ (.bool true)).same D _ hK rfl
    refine ⟨by simp, .inl ⟨_, _, rfl, run_takeDeferred hK', ?_⟩⟩
    have hc5 := ((hv.set (.bool true)).kept (grownBy_putObj' _ D (.deferred none)) (by intro e; injection e with e; omega)).cell
    refine ⟨.bool true, ?_, by rw [noBad_yes HP.out], (hB1.setCell (p := ⟨w.heap.size, 0, none⟩) (Nat.le_refl _) _).trans (belowK_b (w := w) (Nat.le_refl _) _ D _ _ (by omega) hK' rfl rfl)⟩
    simp [results, Try.f24, go_sem, hc5]
  case stop =>
    rintro D c pre W hD hpre ⟨⟨⟨rfl, y, hy, hy3⟩, hv⟩, hB1⟩ hK
    have hc := hv.cell
    have HY := Aside0.mk hy3
    clear hy3
    gi_wp2_with fail
    refine ⟨by simp, .inl ⟨_, _, rfl, run_takeDeferred hK, ?_⟩⟩
    have hc5 := (hv.kept (grownBy_putObj' _ D (.deferred none)) (by intro e; injection e with e; omega)).cell
    refine ⟨.bool false, ?_, by rw [noBad_no ⟨y, hpre.subset hy, HY.out⟩], hB1.trans (belowK_b (w := w) (Nat.le_refl _) W D _ _ (by omega) hK rfl rfl)⟩
    simp [results, Try.f24, go_sem, hc5]

def utf_Valid.f (l : List Int) : Option Bool := if (∀ i : Nat, i < l.length → 0 ≤ rd l i ∧ rd l i ≤ 255) then some (noBad (units l)) else none

theorem utf_Valid.calls (A0 : Option Addr) (c0 : Nat) (l0 : List Int) (r : Bool) (w : World) (hr0 : Kd.C (Kd.int .u8) w A0 l0.length l0) (hc0 : l0.length ≤ c0) (h : utf_Valid.f l0 = some r) :
    Calls Try.prog 24 #[.slice A0 l0.length c0] w fun e w' => e = .returned (.bool r) ∧ Below w.heap.size w w' := by
  unfold utf_Valid.f at h
  by_cases hc : (∀ i : Nat, i < l0.length → 0 ≤ rd l0 i ∧ rd l0 i ≤ 255)
  · rw [if_pos hc] at h
    obtain rfl := Option.some.inj h
    exact valid_calls A0 c0 l0 (bytes_at hc) w hr0
  · rw [if_neg hc] at h; cases h

#print axioms utf_Runes.calls
#print axioms utf_Valid.calls
end Go.Proofs.Ytefomeabnlecoaa.Print
