/- A map keyed by pairs of numbers, as its entries were put in; slices.Clone of numbers. -/
import Derived.Test.YtadhjjfodpmelaaPrint0
import Derived.Maps.OwnSet
import Derived.Maps.OwnOps
import Derived.WideKeyPair
import Derived.DeepKeys4
import Derived.Maps.Keyed
import Derived.WalkMore
import Derived.Lib.SliceRun
namespace Go.Proofs.Ytadhjjfodpmelaa.Print
open Go.RowKit Go.Maps Go.Proofs.YtadhjjfodpmelaaW.PrintWords Go.Proofs.YtadhjjfodpmelaaW.PrintLast Go.Proofs.YtadhjjfodpmelaaW.PrintMore
open Go.ChangeMaps (setBlock)
set_option linter.unusedVariables false
set_option linter.unusedSimpArgs false

def pairV (p : Int × Int) : Value := .agg #[.int .i64 p.1, .int .i64 p.2]
def PairOk (p : Int × Int) : Prop := 0 ≤ p.1 ∧ p.1 < 5000 ∧ 0 ≤ p.2 ∧ p.2 < 5000
theorem pairV_inj {p q : Int × Int} (h : pairV p = pairV q) : p = q := by
  unfold pairV at h
  injection h with h
  have h1 := congrArg (fun a => a[0]?) h
  have h2 := congrArg (fun a => a[1]?) h
  simp at h1 h2
  exact Prod.ext h1 h2
theorem laid51 : laidOutB Try.prog = true := by kernel_rfl
theorem row51 : 51 < Try.prog.types.size := of_decide_eq_true (by kernel_rfl)
theorem wide51 : (match Try.prog.underlying 51 with | some (.array _ _) | some (.struct _) => true | _ => false) = true := by rw [Try.underlying51]
theorem law51 : Keyed Try.prog 51 := Keyed.of_law (deep_law_laid laid51 (m := 2) (by omega) row51 (by kernel_rfl) wide51)
theorem arr51 : Go.WideMaps.ArrKey Try.prog 51 3 2 := ⟨Try.underlying51, by kernel_rfl, by kernel_rfl, by kernel_rfl⟩
theorem size51 : ∃ m, Try.prog.types.size = m + 1 := by
  have h := row51
  exact ⟨Try.prog.types.size - 1, by omega⟩
theorem key51 {p : Int × Int} (h : PairOk p) : ∃ l, keyOf Try.prog 51 (pairV p) = some l :=
  ⟨_, Go.WideMaps.keyOf_pair arr51 Try.underlying3 size51 (WalkArith.wf_i64 (by have := h; unfold PairOk at this; omega)) (WalkArith.wf_i64 (by have := h; unfold PairOk at this; omega))⟩
theorem zero33 (w : World) : (zeroValue 33).run Try.prog w = .ok (.slice none 0 0) w := by kernel_rfl

/-- Block B holds a map: its keys and elements, as they were put in. -/
def MapAt (W : World) (B : Nat) (ks : List (Int × Int)) (vs : List Value) : Prop :=
  ∃ es clock, W.heap[B]? = some (.map es clock) ∧ es.toList.map (fun e => e.key) = ks.map pairV ∧ es.toList.map (fun e => e.val) = vs ∧ ∀ p ∈ ks, PairOk p

section
variable {W W' : World} {B : Nat} {ks : List (Int × Int)} {vs : List Value}
theorem MapAt.made (W : World) : MapAt (W.alloc (.map #[] 0)) W.heap.size [] [] := ⟨#[], 0, (show (W.heap.push _)[W.heap.size]? = _ from Array.getElem?_push_size), rfl, rfl, fun p hp => by simp at hp⟩
theorem MapAt.move (h : MapAt W B ks vs) (e : W'.heap[B]? = W.heap[B]?) : MapAt W' B ks vs := by
  obtain ⟨es, c, h1, h2⟩ := h
  exact ⟨es, c, e.trans h1, h2⟩
theorem MapAt.lt (h : MapAt W B ks vs) : B < W.heap.size := by
  obtain ⟨es, c, h1, h2⟩ := h
  exact (Array.getElem?_eq_some_iff.1 h1).1
theorem MapAt.ne (h : MapAt W B ks vs) {g t : Nat} {cs : Array Value} (hg : W.heap[g]? = some (.cells cs t (0, 0))) : g ≠ B := by
  rintro rfl
  obtain ⟨es, c, h1, h2⟩ := h
  rw [h1] at hg; cases hg
theorem MapAt.find (h : MapAt W B ks vs) {x : Int × Int} (hx : PairOk x) (w : World) : ∃ es clock, W.heap[B]? = some (.map es clock) ∧ (((Instr.findKey 51 (pairV x) es.toList).run Try.prog w = .ok none w ∧ x ∉ ks) ∨
    ∃ (j : Nat) (v : Value), (Instr.findKey 51 (pairV x) es.toList).run Try.prog w = .ok (some (j, v)) w ∧ ks[j]? = some x ∧ vs[j]? = some v) := by
  obtain ⟨es, c, h1, h2, h3, h4⟩ := h
  obtain ⟨l, hl⟩ := key51 hx
  have hall : ∀ e ∈ es.toList, ∃ l, keyOf Try.prog 51 e.key = some l := fun e he => by
    have : e.key ∈ es.toList.map (fun e => e.key) := List.mem_map_of_mem he
    rw [h2] at this
    obtain ⟨p, hp, e1⟩ := List.mem_map.1 this
    rw [← e1]
    exact key51 (h4 p hp)
  have hk : ∀ (j : Nat) (e : MapEntry), es.toList[j]? = some e → ∃ p, ks[j]? = some p ∧ e.key = pairV p ∧ vs[j]? = some e.val := fun j e he => by
    have e1 := congrArg (fun l => l[j]?) h2
    have e2 := congrArg (fun l => l[j]?) h3
    simp only [List.getElem?_map, he, Option.map_some] at e1 e2
    obtain ⟨p, hp, e3⟩ := Option.map_eq_some_iff.1 e1.symm
    exact ⟨p, hp, e3.symm, e2.symm⟩
  refine ⟨es, c, h1, ?_⟩
  rcases law51.find w hl es.toList hall with ⟨a1, a2⟩ | ⟨j, e, a1, a2, a3⟩
  · refine .inl ⟨a1, fun hm => ?_⟩
    have : pairV x ∈ ks.map pairV := List.mem_map_of_mem hm
    rw [← h2] at this
    obtain ⟨e, he, e1⟩ := List.mem_map.1 this
    exact a2 e he e1
  · obtain ⟨p, hp, e1, e2⟩ := hk j e a2
    refine .inr ⟨j, e.val, a1, ?_, e2⟩
    rw [hp]
    exact congrArg some (pairV_inj (e1.symm.trans a3))
theorem MapAt.miss (h : MapAt W B ks vs) {x : Int × Int} (hx : PairOk x) (hn : x ∉ ks) : (Instr.lookup 52 (.map (some B)) (pairV x) true).run Try.prog W = .ok (.tuple #[.slice none 0 0, .bool false]) W := by
  obtain ⟨l, hl⟩ := key51 hx
  obtain ⟨es, c, h1, h2 | ⟨j, v, h2, h3, h4⟩⟩ := h.find hx W
  · simp [Instr.lookup, run_underlying Try.underlying52, MapKept.run_getObj_map h1, law51.check W _ hl, h2.1, zero33, Result.andThen]
  · exact absurd (List.mem_of_getElem? h3) hn
theorem MapAt.hit (h : MapAt W B ks vs) (hnd : ks.Nodup) {x : Int × Int} (hx : PairOk x) {j : Nat} {v : Value} (hk : ks[j]? = some x) (hv : vs[j]? = some v) (ok : Bool) : (Instr.lookup 52 (.map (some B)) (pairV x) ok).run Try.prog W = .ok (if ok = true then .tuple #[v, .bool true] else v) W := by
  obtain ⟨l, hl⟩ := key51 hx
  obtain ⟨es, c, h1, h2 | ⟨i, u, h2, h3, h4⟩⟩ := h.find hx W
  · exact absurd (List.mem_of_getElem? hk) h2.2
  · have hij : i = j := by
      obtain ⟨a1, a2⟩ := List.getElem?_eq_some_iff.1 h3
      obtain ⟨b1, b2⟩ := List.getElem?_eq_some_iff.1 hk
      have hp := List.pairwise_iff_getElem.1 hnd
      rcases Nat.lt_trichotomy i j with q | q | q
      · exact absurd (a2.trans b2.symm) (hp i j a1 b1 q)
      · exact q
      · exact absurd (b2.trans a2.symm) (hp j i b1 a1 q)
    subst hij
    rw [hv] at h4
    obtain rfl := Option.some.inj h4
    cases ok <;> simp [Instr.lookup, run_underlying Try.underlying52, MapKept.run_getObj_map h1, law51.check W _ hl, h2, Result.andThen]
theorem MapAt.put (h : MapAt W B ks vs) {x : Int × Int} (hx : PairOk x) (hn : x ∉ ks) (v : Value) : ∃ W', (Instr.mapUpdate 52 (.map (some B)) (pairV x) v).run Try.prog W = .ok () W' ∧ MapAt W' B (ks ++ [x]) (vs ++ [v]) ∧ W.grownBy W' (some B) := by
  obtain ⟨l, hl⟩ := key51 hx
  have h0 := h
  obtain ⟨es, c, h1, h2 | ⟨j, u, h2, h3, h4⟩⟩ := h.find hx W
  · obtain ⟨es', c', g1, g2, g3, g4⟩ := h0
    rw [h1] at g1
    injection g1 with g1
    injection g1 with g1 g5
    subst g1
    refine ⟨setBlock W B (.map (es.push ⟨pairV x, v, c⟩) (c + 1)), ?_, ⟨_, _, Go.ChangeMaps.heap_setBlock_same h1 _, ?_, ?_, ?_⟩, (show W.mapTurned _ B from ⟨es, c, _, _, h1, rfl⟩).grown⟩
    · simp [Instr.mapUpdate, run_underlying Try.underlying52, MapKept.run_getObj_map h1, law51.check W false hl, h2.1, MapKept.run_setObj_map _ h1, Result.andThen, setBlock]
    · simp [g2]
    · simp [g3]
    · intro p hp
      rcases List.mem_append.1 hp with hp | hp
      · exact g4 p hp
      · rw [List.mem_singleton] at hp
        rw [hp]; exact hx
  · exact absurd (List.mem_of_getElem? h3) hn
end

set_option maxHeartbeats 4000000 in
set_option maxRecDepth 100000 in
theorem clone_calls (W : World) (base : Nat) (ok : Nat → Prop) (v : Value) (xs : List Int) (h : Kd.R (Kd.int .i64) 3 W base ok v xs) (hl : xs.length ≤ 25000001) :
    Calls Try.prog 25 #[v] W fun e w' => ∃ u, e = .returned u ∧ Kd.R (Kd.int .i64) 3 w' W.heap.size (fun _ => True) u xs ∧ Below W.heap.size W w' := by
  have hr := h
  obtain ⟨h0, inner, ⟨hi, hv⟩, hrep⟩ := h
  rcases hv with ⟨rfl, hn⟩ | ⟨g, cap, cur, rfl, hg⟩
  · obtain rfl : xs = [] := List.length_eq_zero_iff.1 hn
    clear hr hi hrep h0
    have heq := Go.Lib.run_eql_slice_nil (P := Try.prog) W 33 3 none 0 0 0 0 Try.underlying33
    go_enter Try.func25, Try.ntmps25
    go_wp2_with fail
    go_ret
    exact ⟨_, rfl, Kd.R_nil _ _ _ _ _, by repeat (first | exact Below.refl _ _ | apply below_alloc | apply pw_below_drewN | apply below_drew1)⟩
  · have HR := Aside0.mk hr
    clear hr hi hrep h0 hg
    have heq := Go.Lib.run_eql_slice_nil (P := Try.prog) W 33 3 (some ⟨g, 0, none⟩) xs.length cap 0 0 Try.underlying33
    go_enter Try.func25, Try.ntmps25
    go_wp2_with (first | ((with_reducible refine gate_dst (N := 5) rfl ?_); refine Kd.R_lit (Kd.int .i64) (w0 := W) W.heap.size 3 ?hg (N := 5) ?hd (xs := ([] : List Int)) (inner := []) (ok := fun k => W.heap.size ≤ k) (okp := fun _ => False) ?hr ?hp (fun _ hk => hk.elim) ?hf (by repeat (first | exact Below.refl _ _ | apply below_alloc | apply pw_below_drewN | apply below_drew1)) ?hb (by simp) ?_; (case hd => rfl); (case hg => rfl); (case hr => first | (go_simp; done) | (go_simp; rfl)); (case hp => exact Reps.none _ _); (case hf => exact Nat.le_refl _); (case hb => exact Nat.le_refl _); intro v1 w1 ho1 hb1 hg1 hn1) | ((with_reducible refine gate_builtin (b := .append) (xs := #[.tmp 5, .tmp 6]) rfl ?_); at_builtin; go_loud (refine Kd.R_append_rows (Kd.int .i64) (w0 := W) W.heap.size rfl (.tmp 5) (.tmp 6) 33 3 (.int .i64 0) 8 rfl Try.underlying33 info3 rfl (by decide) (by omega) v1 [] xs _ _ _ (fun k => W.heap.size ≤ k) (fun _ => False) rfl rfl ho1 ?aR (fun _ _ h => h) (fun _ h => h.elim) (fun k hk => Nat.le_trans hb1.size hk) hb1 hb1.size (by simp; omega) ?_; (case aR => exact Kd.C_below (Kd.R_reads' HR.out).2.2 hb1); intro v2 w2 ho2 hb2 _ _)))
    go_ret
    exact ⟨_, rfl, Kd.R_mono ho2 (fun _ _ => trivial), hb2⟩
end Go.Proofs.Ytadhjjfodpmelaa.Print
