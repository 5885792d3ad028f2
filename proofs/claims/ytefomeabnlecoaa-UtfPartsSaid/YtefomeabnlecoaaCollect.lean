/- The contracts of utf.units, slices.AppendSeq and slices.Collect at api.Unit, and of utf.Decode: the units of bytes, in new memory. -/
import Derived.Test.YtefomeabnlecoaaUnits
namespace Go.Proofs.Ytefomeabnlecoaa.Print
open Go.RowKit Go.Shelf Go.Proofs.YtefomeabnlecoaaW.PrintWords Go.Proofs.YtefomeabnlecoaaW.PrintLast Go.Proofs.YtefomeabnlecoaaW.PrintMore
attribute [local go_sem] Oper.semAt_some
set_option linter.unusedVariables false
set_option linter.unusedSimpArgs false

theorem units_call (A : Option Addr) (n c : Nat) (w : World) :
    Calls Try.prog 33 #[.slice A n c] w fun e w' => e = .returned (.func (.func 37) #[] #[.pointer (some ⟨w.heap.size, 0, none⟩)]) ∧ w' = w.alloc (.cells #[.slice A n c] 23) := by
  go_enter Try.func33, Try.ntmps33
  go_wp2
  go_ret
  exact ⟨rfl, rfl⟩

/-- What a round must keep: what lay below n₀, and the variable that the iterator has captured. -/
def KpU (n₀ Bn : Nat) (W W' : World) : Prop := Below n₀ W W' ∧ W'.cell? ⟨Bn, 0, none⟩ = W.cell? ⟨Bn, 0, none⟩
theorem kpU_t {n₀ Bn : Nat} {A B C : World} (h : KpU n₀ Bn A B) (k : KpU n₀ Bn B C) : KpU n₀ Bn A C := ⟨h.1.trans k.1, k.2.trans h.2⟩
theorem kpU_b {n₀ Bn : Nat} {w : World} (h0 : n₀ ≤ w.heap.size) (hB : Bn < w.heap.size) : ∀ (W : World) (l : Nat) (o o' : Obj), w.heap.size ≤ l → W.heap[l]? = some o → o.isCells = false → o.isWalk = false → KpU n₀ Bn W (W.putObj l o') :=
  fun W l o o' hl ho h1 h2 => ⟨belowK_b (w := w) h0 W l o o' hl ho h1 h2, World.cell?_of_block (World.putObj_heap_other (by dsimp only; omega))⟩

/-- The iterator of units(b), for every loop over it. -/
theorem units_stops (n : Nat) (hn : 1 ≤ n) (Bn : Nat) (A : Option Addr) (c : Nat) (l : List Int) (hby : ∀ i : Int, 0 ≤ i → i < l.length → 0 ≤ rd l i ∧ rd l i ≤ 255) (w0 w : World) (h0w : Below w0.heap.size w0 w)
    (hr : Kd.C (Kd.int .u8) w0 A l.length l) (hBn : w.cell? ⟨Bn, 0, none⟩ = some (.slice A l.length c)) (hB : Bn < w.heap.size) :
    SeqStopsK Fence.wide n Try.prog 37 #[.pointer (some ⟨Bn, 0, none⟩)] (fun x : S35 => #[enc35 x]) (KpU w0.heap.size Bn) (fun ys => ys = units l) (fun pre => pre <+: units l) (units l).length w :=
  fun lp J Jx W hW hJ hJx hY h0 => units1_in n hn lp Bn A c l hby w0 (Kd.C_max hr) hr J Jx
    (fun pre W' m hp => hJ pre W' (W'.drewN m) none hp ⟨rfl, rfl, rfl, Nat.le_refl _, fun _ _ _ => rfl⟩ (fun r e => by cases e)) hY W (h0w.trans (hW.mono h0w.size)) ((hW.cell (p := ⟨Bn, 0, none⟩) hB).trans hBn) h0

/-- A unit's cells. -/
def cells35 (x : S35) : List Value := [.int .i64 x.f0, .int .i64 x.f1, .int .i64 x.f2, .bool x.f3]
def flat35 (xs : List S35) : List Value := xs.flatMap cells35
theorem flat35_snoc (xs : List S35) (x : S35) : flat35 (xs ++ [x]) = flat35 xs ++ cells35 x := by simp [flat35]

theorem reps35' (w : World) (base : Nat) (ok : Nat → Prop) : ∀ (ys xs : List S35), Reps (k35.M w base ok) k35.sz xs (flat35 xs) → Reps (k35.M w base ok) k35.sz (xs ++ ys) (flat35 (xs ++ ys))
  | [], xs, h => by simpa using h
  | y :: ys, xs, h => by
    have := reps35' w base ok ys (xs ++ [y]) (by rw [flat35_snoc]; exact Reps.snoc h (k35_mkM w base ok y) rfl)
    simpa using this
theorem reps35 (w : World) (base : Nat) (ok : Nat → Prop) (xs : List S35) : Reps (k35.M w base ok) k35.sz xs (flat35 xs) := by
  simpa using reps35' w base ok xs [] (Reps.none _ _)

theorem R35_of_own {w : World} {base : Nat} {v : Value} {xs : List S35} (h : w.ownsRow base 35 4 v xs.length (flat35 xs)) : Kd.R k35 35 w base (fun _ => True) v xs :=
  ⟨fun _ _ => trivial, _, h, reps35 _ _ _ _⟩

/-- A block that holds a unit. -/
def Unit4 (W : World) (B : Nat) (x : S35) : Prop := W.heap[B]? = some (.cells (cells35 x).toArray 35 (0, 0))
theorem Unit4.lt {W : World} {B : Nat} {x : S35} (h : Unit4 W B x) : B < W.heap.size := (Array.getElem?_eq_some_iff.1 h).1
theorem Unit4.own (B : Nat) (x : S35) : Own (fun (_ : Unit) W => Unit4 W B x) := fun s X Y row hs hg hrow =>
  (hg.block B (Unit4.lt hs) (fun e' => by obtain ⟨o, ho, hc⟩ := hrow B e'.symm; rw [show X.heap[B]? = _ from hs] at ho; cases ho; cases hc)).trans hs
theorem Unit4.new (W : World) (x : S35) : Unit4 (W.alloc (.cells (cells35 x).toArray 35)) W.heap.size x := World.alloc_heap_new W _
theorem Unit4.cells {W : World} {B : Nat} {x : S35} (h : Unit4 W B x) : W.cell? ⟨B, 0, none⟩ = some (.int .i64 x.f0) ∧ W.cell? ⟨B, 1, none⟩ = some (.int .i64 x.f1) ∧ W.cell? ⟨B, 2, none⟩ = some (.int .i64 x.f2) ∧ W.cell? ⟨B, 3, none⟩ = some (.bool x.f3) := by
  have := (show W.heap[B]? = _ from h)
  refine ⟨?_, ?_, ?_, ?_⟩ <;> simp [World.cell?, this, cells35]

theorem cell_unit_new (w : World) (x : S35) : ∀ j u, (cells35 x)[j]? = some u → (w.alloc (.cells (cells35 x).toArray 35)).cell? ((⟨w.heap.size, 0, none⟩ : Addr).add j) = some u := by
  intro j u hj
  have h := (Unit4.new w x).cells
  match j, hj with
  | 0, hj => simp [cells35] at hj; subst hj; simpa [Addr.add] using h.1
  | 1, hj => simp [cells35] at hj; subst hj; simpa [Addr.add] using h.2.1
  | 2, hj => simp [cells35] at hj; subst hj; simpa [Addr.add] using h.2.2.1
  | 3, hj => simp [cells35] at hj; subst hj; simpa [Addr.add] using h.2.2.2
  | j + 4, hj => simp [cells35] at hj

set_option maxRecDepth 100000 in
set_option maxHeartbeats 4000000 in
theorem appendSeq_calls (Bn : Nat) (A : Option Addr) (c : Nat) (l : List Int) (hby : ∀ i : Int, 0 ≤ i → i < l.length → 0 ≤ rd l i ∧ rd l i ≤ 255) (w : World) (hN : (units l).length * 32 ≤ 140737488355328)
    (hr : Kd.C (Kd.int .u8) w A l.length l) (hBn : w.cell? ⟨Bn, 0, none⟩ = some (.slice A l.length c)) (hB : Bn < w.heap.size) :
    Calls Try.prog 36 #[.slice none 0 0, .func (.func 37) #[] #[.pointer (some ⟨Bn, 0, none⟩)]] w fun e w' => ∃ v : Value, e = .returned v ∧ Kd.R k35 35 w' w.heap.size (fun _ => True) v (units l) ∧ Below w.heap.size w w' := by
  obtain ⟨i0, hi, hz0, hz1, hz2⟩ := info_parts info35
  have hmax : (units l).length ≤ maxLen := by unfold maxLen; omega
  have HR := Aside0.mk hr
  have HBN := Aside0.mk hBn
  have HBY := Aside0.mk hby
  clear hr hBn hby
  refine (callsIn_wide (n := 5)).1 ?_
  refine callsIn_of_wp_marks Try.func36 rfl trivial ?_ rfl
  simp only [Try.ntmps36, List.size_toArray, List.length_cons, List.length_nil, Nat.reduceAdd, Nat.reduceSub, Array.replicate_succ, Array.replicate_zero, List.push_toArray, List.append_toArray, List.nil_append, List.cons_append]
  gi_wp2
  have hs : (w.alloc (.cells #[.slice none 0 0] 28)).heap.size = w.heap.size + 1 := by simp
  have bS := Boxed.new w 28 (.slice none 0 0)
  have hB0 : Below w.heap.size w (w.alloc (.cells #[.slice none 0 0] 28)) := (Below.refl _ w).alloc (Nat.le_refl _) _
  have hstops := units_stops 4 (by omega) Bn A c l HBY.out w (w.alloc (.cells #[.slice none 0 0] 28)) hB0 HR.out ((hB0.cell (p := ⟨Bn, 0, none⟩) hB).trans HBN.out) (by omega)
  obtain ⟨W0, hW0⟩ : ∃ W0, w.alloc (.cells #[.slice none 0 0] 28) = W0 := ⟨_, rfl⟩
  rw [hW0] at hs bS hB0 hstops ⊢
  clear hW0
  refine wpIn_rangeFunc_ownH rfl (by omega) (gf := 37) (lb := #[.pointer (some ⟨Bn, 0, none⟩)]) rfl trivial (enters_of Try.func37 (by kernel_rfl) rfl)
    hstops kpU_t (kpU_b (by omega) (by omega)) (Below.refl _ _) (fun _ => rfl)
    (fun pre W => (∃ v, Boxed W w.heap.size 28 v ∧ W.ownsRow w.heap.size 35 4 v pre.length (flat35 pre) ∧ True) ∧ Below w.heap.size w W)
    (fun _ _ _ => False)
    (OwnFrom.and (Own.from (holdsRow_own w.heap.size w.heap.size 28 35 4 (fun pre => pre.length) (fun pre => flat35 pre) (fun _ _ => True)) _) (ownFrom_below (Nat.le_refl _) (by omega)))
    (fun _ _ _ _ _ hs _ _ => hs)
    ⟨⟨_, bS, World.ownsRow_nil _ _ _ _, trivial⟩, hB0⟩
    (fun x a' W => ∃ Bx, w.heap.size < Bx ∧ Unit4 W Bx x ∧ a' = { tmps := #[.slice none 0 0, .func (.func 37) #[] #[.pointer (some ⟨Bn, 0, none⟩)], .pointer (some ⟨w.heap.size, 0, none⟩), undef, .slice none 0 0, .pointer (some ⟨Bx, 0, none⟩), .func (.func 37) #[] #[.pointer (some ⟨Bn, 0, none⟩)], .agg #[.int .i64 x.f0, .int .i64 x.f1, .int .i64 x.f2, .bool x.f3], undef, undef, undef, undef, undef], defers := [] })
    (fun x a' _ X Y row hs hg hr => by obtain ⟨Bx, h1, h2, h3⟩ := hs; exact ⟨Bx, h1, Unit4.own Bx x () X Y row h2 hg (fun r e => (hr r e).2), h3⟩)
    ?assign ?body ?done ?stop
  case assign =>
    rintro l pre x W K ⟨⟨v, hv, hrow, _⟩, hB1⟩ hK
    dsimp only [enc35]
    gi_wp2
    have hkw : Below w.heap.size W (W.alloc (.cells #[.int .i64 x.f0, .int .i64 x.f1, .int .i64 x.f2, .bool x.f3] 35)) := (Below.refl _ W).alloc hB1.size _
    exact hK _ _ ((KeepsOthers.alloc _ _).from _) ⟨hkw, hkw.cell (p := ⟨Bn, 0, none⟩) hB⟩ ⟨⟨v, hv.alloc _, hrow.alloc _, trivial⟩, hB1.alloc hB1.size _⟩ ⟨W.heap.size, hv.lt, Unit4.new W x, rfl⟩
  case body =>
    rintro l pre x a' W hl ⟨r, hr⟩ ⟨⟨v, hv, hrow, _⟩, hB1⟩ ⟨Bx, hBx, bX, rfl⟩ hlt
    have hc := hv.cell
    obtain ⟨x0, x1, x2, x3⟩ := bX.cells
    have hsz := hB1.size
    have hsw := hv.lt
    clear bX
    gi_wp2_with (gi_at_builtin; refine wpListIn_append_own _ rfl _ _ 28 rfl w.heap.size 35 i0 (.agg #[.int .i64 0, .int .i64 0, .int .i64 0, .bool false]) 4 32 Try.underlying28 hi hz0 hz1 hz2 rfl (by decide) _ _ _ rfl (hrow.alloc _) ⟨W.heap.size, 0, none⟩ 1 1 (cells35 x) rfl rfl (cell_unit_new W x) (by simp [cells35, Value.oneCell']) (by omega) (by omega) (by simp; omega) ?_; intro v' w1 hown' hgrow _; obtain ⟨g', cap', rfl⟩ := ownsRow_succ hown'; obtain ⟨hv1, hv2, hr2, hk2, hb2⟩ := hv.appended (by decide) hrow hsz (Nat.le_refl _) hown' hgrow; have hc1 := hv1.cell; have hf1 := hv1.frozen)
    exact ⟨hk2.from _, ⟨hb2, hb2.cell (p := ⟨Bn, 0, none⟩) hB⟩, ⟨⟨_, hv2, by rw [flat35_snoc]; simpa using hr2, trivial⟩, hB1.trans hb2⟩⟩
  case done =>
    rintro D ys W hD rfl ⟨⟨v, hv, hrow, _⟩, hB1⟩ hK
    have hc := hv.cell
    gi_wp2_with fail
    refine ⟨by simp, .inl ⟨_, _, rfl, run_takeDeferred hK, ?_⟩⟩
    exact ⟨_, results_tmp rfl _ _ _, v, rfl, R35_of_own (ownsRow_putObj hrow _ hK rfl), hB1.trans (belowK_b (w := w) (Nat.le_refl _) W D _ _ (by omega) hK rfl rfl)⟩
  case stop =>
    rintro D c pre W _ _ h _
    exact h.elim

theorem collect_calls (Bn : Nat) (A : Option Addr) (c : Nat) (l : List Int) (hby : ∀ i : Int, 0 ≤ i → i < l.length → 0 ≤ rd l i ∧ rd l i ≤ 255) (w : World) (hN : (units l).length * 32 ≤ 140737488355328)
    (hr : Kd.C (Kd.int .u8) w A l.length l) (hBn : w.cell? ⟨Bn, 0, none⟩ = some (.slice A l.length c)) (hB : Bn < w.heap.size) :
    Calls Try.prog 32 #[.func (.func 37) #[] #[.pointer (some ⟨Bn, 0, none⟩)]] w fun e w' => ∃ v : Value, e = .returned v ∧ Kd.R k35 35 w' w.heap.size (fun _ => True) v (units l) ∧ Below w.heap.size w w' := by
  have hs := Aside0.mk (appendSeq_calls Bn A c l hby w hN hr hBn hB)
  clear hr hBn hby hN
  go_enter Try.func32, Try.ntmps32
  go_wp2_with fail
  refine hs.out.mono ?_
  rintro e w' ⟨v, rfl, h1, h2⟩
  have H1 := Aside0.mk h1
  have H2 := Aside0.mk h2
  clear h1 h2
  go_wp2_with fail
  go_ret
  exact ⟨v, rfl, H1.out, H2.out⟩

/-- What utf.Decode comes to: asked of bytes alone, and of so many that their units find room. -/
def utf_Decode.f (l : List Int) : Option (List S35) := if (∀ i : Nat, i < l.length → 0 ≤ rd l i ∧ rd l i ≤ 255) ∧ (units l).length * 32 ≤ 140737488355328 then some (units l) else none

theorem decode_calls (A : Option Addr) (c : Nat) (l : List Int) (hby : ∀ i : Int, 0 ≤ i → i < l.length → 0 ≤ rd l i ∧ rd l i ≤ 255) (w : World) (hN : (units l).length * 32 ≤ 140737488355328) (hr : Kd.C (Kd.int .u8) w A l.length l) :
    Calls Try.prog 18 #[.slice A l.length c] w fun e w' => ∃ v : Value, e = .returned v ∧ Kd.R k35 35 w' w.heap.size (fun _ => True) v (units l) ∧ Below w.heap.size w w' := by
  have hs := Aside0.mk (collect_calls w.heap.size A c l hby (w.alloc (.cells #[.slice A l.length c] 23)) hN (Kd.C_alloc hr _) (by simp) (by simp))
  clear hr hby hN
  go_enter Try.func18, Try.ntmps18
  go_wp2_with (go_at_call 33; refine (units_call _ _ _ _).mono ?_; rintro e w' ⟨rfl, rfl⟩)
  refine hs.out.mono ?_
  rintro e w' ⟨v, rfl, h1, h2⟩
  have H1 := Aside0.mk h1
  have H2 := Aside0.mk h2
  clear h1 h2
  go_wp2_with fail
  go_ret
  exact ⟨v, rfl, Kd.R_lower H1.out (by simp), ((Below.refl _ w).alloc (Nat.le_refl _) _).trans (H2.out.mono (by simp))⟩

theorem bytes_at {l : List Int} (h : ∀ i : Nat, i < l.length → 0 ≤ rd l i ∧ rd l i ≤ 255) : ∀ i : Int, 0 ≤ i → i < l.length → 0 ≤ rd l i ∧ rd l i ≤ 255 := fun i h0 h1 => by
  have := h i.toNat (by omega)
  rwa [show ((i.toNat : Nat) : Int) = i from by omega] at this

theorem utf_Decode.calls (A0 : Option Addr) (c0 : Nat) (l0 : List Int) (r : List (S35)) (w : World) (hr0 : Kd.C (Kd.int .u8) w A0 l0.length l0) (hc0 : l0.length ≤ c0) (h : utf_Decode.f l0 = some r) :
    Calls Try.prog 18 #[.slice A0 l0.length c0] w fun e w' => ∃ v0_ : Value, e = .returned (v0_) ∧ Kd.R k35 35 w' w.heap.size (fun _ => True) v0_ r ∧ Below w.heap.size w w' := by
  unfold utf_Decode.f at h
  by_cases hc : (∀ i : Nat, i < l0.length → 0 ≤ rd l0 i ∧ rd l0 i ≤ 255) ∧ (units l0).length * 32 ≤ 140737488355328
  · rw [if_pos hc] at h
    obtain rfl := Option.some.inj h
    exact decode_calls A0 c0 l0 (bytes_at hc.1) w hc.2 hr0
  · rw [if_neg hc] at h; cases h

#print axioms utf_Decode.calls
end Go.Proofs.Ytefomeabnlecoaa.Print
