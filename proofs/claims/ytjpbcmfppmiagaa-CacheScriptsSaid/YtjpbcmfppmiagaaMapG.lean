/- A map keyed by strings whose elements are values of any kind: what it tells of each key; slices.Clone of numbers and of strings. -/
import Derived.Test.YtjpbcmfppmiagaaPrint0
import Derived.Maps.OwnSet
import Derived.Maps.OwnOps
import Derived.Maps.Keyed
import Derived.WalkMore
import Derived.Lib.SliceRun
namespace Go.Proofs.Ytjpbcmfppmiagaa.Print
open Go.RowKit Go.Maps Go.Proofs.YtjpbcmfppmiagaaW.PrintWords Go.Proofs.YtjpbcmfppmiagaaW.PrintLast Go.Proofs.YtjpbcmfppmiagaaW.PrintMore
open Go.ChangeMaps (setBlock)
set_option linter.unusedVariables false
set_option linter.unusedSimpArgs false

theorem law9 : Keyed Try.prog 9 := string_keyed Try.underlying9
theorem zero29 (w : World) : (zeroValue 29).run Try.prog w = .ok (.slice none 0 0) w := by kernel_rfl
theorem string_inj {a b : ByteArray} (h : Value.string a = Value.string b) : a = b := by injection h

theorem map_erase {α β : Type} (f : α → β) : ∀ (l : List α) (i : Nat), (l.eraseIdx i).map f = (l.map f).eraseIdx i
  | [], _ => rfl
  | _ :: _, 0 => rfl
  | x :: l, i + 1 => by rw [List.eraseIdx_cons_succ, List.map_cons, List.map_cons, List.eraseIdx_cons_succ, map_erase f l i]
/-- Block B holds a map of type 43: g tells of each key. -/
def MapG (W : World) (B : Nat) (g : ByteArray → Option Value) : Prop :=
  ∃ es clock, ∃ f : List (ByteArray × Value), W.heap[B]? = some (.map es clock) ∧ es.toList.map (fun e => (e.key, e.val)) = f.map (fun p => (Value.string p.1, p.2)) ∧ (f.map Prod.fst).Nodup ∧ (∀ p ∈ f, p.1.size ≤ maxLen) ∧ ∀ s v, g s = some v ↔ (s, v) ∈ f

section
variable {W W' : World} {B : Nat} {g : ByteArray → Option Value}
theorem MapG.made (W : World) : MapG (W.alloc (.map #[] 0)) W.heap.size (fun _ => none) := ⟨#[], 0, [], (show (W.heap.push _)[W.heap.size]? = _ from Array.getElem?_push_size), rfl, by simp, by simp, by simp⟩
theorem MapG.move (h : MapG W B g) (e : W'.heap[B]? = W.heap[B]?) : MapG W' B g := by
  obtain ⟨es, c, f, h1, h2⟩ := h
  exact ⟨es, c, f, e.trans h1, h2⟩
theorem MapG.lt (h : MapG W B g) : B < W.heap.size := by
  obtain ⟨es, c, f, h1, h2⟩ := h
  exact (Array.getElem?_eq_some_iff.1 h1).1
theorem MapG.ne (h : MapG W B g) {k t : Nat} {cs : Array Value} (hg : W.heap[k]? = some (.cells cs t (0, 0))) : k ≠ B := by
  rintro rfl
  obtain ⟨es, c, f, h1, h2⟩ := h
  rw [h1] at hg; cases hg
theorem nodup_at {f : List (ByteArray × Value)} (hn : (f.map Prod.fst).Nodup) {i j : Nat} {x : ByteArray} {v v' : Value} (hi : f[i]? = some (x, v)) (hj : f[j]? = some (x, v')) : i = j := by
  have h1 : (f.map Prod.fst)[i]? = some x := by rw [List.getElem?_map, hi]; rfl
  have h2 : (f.map Prod.fst)[j]? = some x := by rw [List.getElem?_map, hj]; rfl
  obtain ⟨a1, a2⟩ := List.getElem?_eq_some_iff.1 h1
  obtain ⟨b1, b2⟩ := List.getElem?_eq_some_iff.1 h2
  have hp := List.pairwise_iff_getElem.1 hn
  rcases Nat.lt_trichotomy i j with q | q | q
  · exact absurd (a2.trans b2.symm) (hp i j a1 b1 q)
  · exact q
  · exact absurd (b2.trans a2.symm) (hp j i b1 a1 q)
theorem MapG.find (h : MapG W B g) {x : ByteArray} (hx : x.size ≤ maxLen) (w : World) : ∃ es clock, ∃ f : List (ByteArray × Value), W.heap[B]? = some (.map es clock) ∧ es.toList.map (fun e => (e.key, e.val)) = f.map (fun p => (Value.string p.1, p.2)) ∧ (f.map Prod.fst).Nodup ∧ (∀ p ∈ f, p.1.size ≤ maxLen) ∧ (∀ s v, g s = some v ↔ (s, v) ∈ f) ∧
    (((Instr.findKey 9 (.string x) es.toList).run Try.prog w = .ok none w ∧ g x = none) ∨ ∃ (j : Nat) (v : Value) (e : MapEntry), (Instr.findKey 9 (.string x) es.toList).run Try.prog w = .ok (some (j, v)) w ∧ f[j]? = some (x, v) ∧ es.toList[j]? = some e ∧ e.key = .string x ∧ g x = some v) := by
  obtain ⟨es, c, f, h1, h2, h3, h4, h5⟩ := h
  have hl := Go.WideMaps.keyOf_string_mk (P := Try.prog) Try.underlying9 hx
  have hk : ∀ (j : Nat) (e : MapEntry), es.toList[j]? = some e → ∃ p, f[j]? = some p ∧ e.key = .string p.1 ∧ e.val = p.2 := fun j e he => by
    have e1 := congrArg (fun l => l[j]?) h2
    simp only [List.getElem?_map, he, Option.map_some] at e1
    obtain ⟨p, hp, e3⟩ := Option.map_eq_some_iff.1 e1.symm
    exact ⟨p, hp, (congrArg Prod.fst e3).symm, (congrArg Prod.snd e3).symm⟩
  have hall : ∀ e ∈ es.toList, ∃ l, keyOf Try.prog 9 e.key = some l := fun e he => by
    obtain ⟨j, hj⟩ := List.mem_iff_getElem?.1 he
    obtain ⟨p, hp, e1, _⟩ := hk j e hj
    rw [e1]
    exact ⟨_, Go.WideMaps.keyOf_string_mk Try.underlying9 (h4 p (List.mem_of_getElem? hp))⟩
  refine ⟨es, c, f, h1, h2, h3, h4, h5, ?_⟩
  rcases law9.find w hl es.toList hall with ⟨a1, a2⟩ | ⟨j, e, a1, a2, a3⟩
  · refine .inl ⟨a1, ?_⟩
    cases q : g x with
    | none => rfl
    | some v =>
      obtain ⟨j, hj⟩ := List.mem_iff_getElem?.1 ((h5 x v).1 q)
      have e1 := congrArg (fun l => l[j]?) h2
      simp only [List.getElem?_map, hj, Option.map_some] at e1
      obtain ⟨e, he, e3⟩ := Option.map_eq_some_iff.1 e1
      exact absurd (congrArg Prod.fst e3) (a2 e (List.mem_of_getElem? he))
  · obtain ⟨p, hp, e1, e2⟩ := hk j e a2
    obtain ⟨px, pv⟩ := p
    obtain rfl : px = x := string_inj (e1.symm.trans a3)
    exact .inr ⟨j, e.val, e, a1, by rw [hp, e2], a2, a3, (h5 _ _).2 (by rw [e2]; exact List.mem_of_getElem? hp)⟩
theorem MapG.miss (h : MapG W B g) {x : ByteArray} (hx : x.size ≤ maxLen) (hn : g x = none) : (Instr.lookup 43 (.map (some B)) (.string x) true).run Try.prog W = .ok (.tuple #[.slice none 0 0, .bool false]) W := by
  have hl := Go.WideMaps.keyOf_string_mk (P := Try.prog) Try.underlying9 hx
  obtain ⟨es, c, f, h1, _, _, _, _, h2 | ⟨j, v, e, h2, h3, h4, h5, h6⟩⟩ := h.find hx W
  · simp [Instr.lookup, run_underlying Try.underlying43, MapKept.run_getObj_map h1, law9.check W _ hl, h2.1, zero29, Result.andThen]
  · rw [hn] at h6; cases h6
theorem MapG.hit (h : MapG W B g) {x : ByteArray} (hx : x.size ≤ maxLen) {v : Value} (hv : g x = some v) : (Instr.lookup 43 (.map (some B)) (.string x) true).run Try.prog W = .ok (.tuple #[v, .bool true]) W := by
  have hl := Go.WideMaps.keyOf_string_mk (P := Try.prog) Try.underlying9 hx
  obtain ⟨es, c, f, h1, _, _, _, _, h2 | ⟨j, u, e, h2, h3, h4, h5, h6⟩⟩ := h.find hx W
  · rw [hv] at h2; cases h2.2
  · rw [hv] at h6
    obtain rfl := Option.some.inj h6
    simp [Instr.lookup, run_underlying Try.underlying43, MapKept.run_getObj_map h1, law9.check W _ hl, h2, Result.andThen]
theorem grown_block {es es' : Array MapEntry} {c c' : Nat} (h1 : W.heap[B]? = some (.map es c)) : W.grownBy (setBlock W B (.map es' c')) (some B) := (show W.mapTurned _ B from ⟨es, c, _, _, h1, rfl⟩).grown
theorem MapG.put (h : MapG W B g) {x : ByteArray} (hx : x.size ≤ maxLen) (v : Value) : ∃ W', (Instr.mapUpdate 43 (.map (some B)) (.string x) v).run Try.prog W = .ok () W' ∧ MapG W' B (fun s => if s = x then some v else g s) ∧ W.grownBy W' (some B) := by
  have hl := Go.WideMaps.keyOf_string_mk (P := Try.prog) Try.underlying9 hx
  obtain ⟨es, c, f, h1, f1, f2, f3, f4, h2 | ⟨j, u, e, h2, h3, h4, h5, h6⟩⟩ := h.find hx W
  · refine ⟨setBlock W B (.map (es.push ⟨.string x, v, c⟩) (c + 1)), ?_, ⟨_, _, f ++ [(x, v)], Go.ChangeMaps.heap_setBlock_same h1 _, ?_, ?_, ?_, ?_⟩, grown_block h1⟩
    · simp [Instr.mapUpdate, run_underlying Try.underlying43, MapKept.run_getObj_map h1, law9.check W false hl, h2.1, MapKept.run_setObj_map _ h1, Result.andThen, setBlock]
    · simp [f1]
    · rw [List.map_append, List.nodup_append]
      refine ⟨f2, by simp, fun a ha b hb => ?_⟩
      simp at hb
      subst hb
      rintro rfl
      obtain ⟨⟨p1, p2⟩, hp, e⟩ := List.mem_map.1 ha
      obtain rfl : p1 = a := e
      have := (f4 _ _).2 hp
      rw [h2.2] at this; cases this
    · intro p hp
      rcases List.mem_append.1 hp with hp | hp
      · exact f3 p hp
      · rw [List.mem_singleton] at hp; rw [hp]; exact hx
    · intro s v'
      show (if s = x then some v else g s) = some v' ↔ _
      by_cases e : s = x
      · subst e
        rw [if_pos rfl, List.mem_append, List.mem_singleton]
        constructor
        · intro e; exact .inr (by rw [Option.some.inj e])
        · rintro (e | e)
          · have := (f4 _ _).2 e; rw [h2.2] at this; cases this
          · exact congrArg some (congrArg Prod.snd e).symm
      · rw [if_neg e, List.mem_append, List.mem_singleton, f4]
        exact ⟨.inl, fun h => h.elim id fun h => absurd (congrArg Prod.fst h) e⟩
  · have hj : j < es.size := by have := (List.getElem?_eq_some_iff.1 h4).1; simpa using this
    refine ⟨setBlock W B (.map (es.modify j fun e => { e with key := .string x, val := v }) c), ?_, ⟨_, _, f.set j (x, v), Go.ChangeMaps.heap_setBlock_same h1 _, ?_, ?_, ?_, ?_⟩, grown_block h1⟩
    · have he : (es[j]?.map (fun e => e.key)).getD (.string x) = .string x := by
        rw [show es[j]? = some e by rw [← h4]; simp]
        exact h5
      simp [Instr.mapUpdate, run_underlying Try.underlying43, MapKept.run_getObj_map h1, law9.check W false hl, h2, he, law9.stays W hl, MapKept.run_setObj_map _ h1, Result.andThen, setBlock]
    · apply List.ext_getElem?
      intro i
      have e1 := congrArg (fun l => l[i]?) f1
      simp only [List.getElem?_map] at e1 ⊢
      rw [Array.toList_modify, List.getElem?_modify, List.getElem?_set]
      by_cases q : j = i
      · subst q
        have hjf : j < f.length := (List.getElem?_eq_some_iff.1 h3).1
        rw [if_pos rfl, if_pos hjf, h4]
        simp
      · rw [if_neg q]
        simpa [q] using e1
    · rw [List.map_set]
      have : (f.map Prod.fst).set j x = f.map Prod.fst := by
        apply List.ext_getElem?
        intro i
        rw [List.getElem?_set]
        by_cases q : j = i
        · subst q
          have hjf : j < f.length := (List.getElem?_eq_some_iff.1 h3).1
          rw [if_pos rfl, if_pos (by rw [List.length_map]; exact hjf), List.getElem?_map, h3]; rfl
        · rw [if_neg q]
      rw [this]; exact f2
    · intro p hp
      rcases List.mem_or_eq_of_mem_set hp with hp | hp
      · exact f3 p hp
      · rw [hp]; exact hx
    · intro s v'
      have hjf : j < f.length := (List.getElem?_eq_some_iff.1 h3).1
      show (if s = x then some v else g s) = some v' ↔ _
      constructor
      · intro e
        by_cases q : s = x
        · subst q
          rw [if_pos rfl] at e
          rw [← Option.some.inj e]
          exact List.mem_iff_getElem?.2 ⟨j, by rw [List.getElem?_set, if_pos rfl, if_pos hjf]⟩
        · rw [if_neg q] at e
          obtain ⟨i, hi⟩ := List.mem_iff_getElem?.1 ((f4 _ _).1 e)
          refine List.mem_iff_getElem?.2 ⟨i, ?_⟩
          rw [List.getElem?_set, if_neg (fun e => q ?_)]
          · exact hi
          · subst e; rw [hi] at h3; exact congrArg Prod.fst (Option.some.inj h3)
      · intro e
        obtain ⟨i, hi⟩ := List.mem_iff_getElem?.1 e
        rw [List.getElem?_set] at hi
        by_cases q : j = i
        · rw [if_pos q, if_pos (by omega)] at hi
          have := Option.some.inj hi
          rw [if_pos (congrArg Prod.fst this).symm]
          exact congrArg some (congrArg Prod.snd this)
        · rw [if_neg q] at hi
          by_cases p : s = x
          · subst p; exact absurd (nodup_at f2 h3 hi) q
          · rw [if_neg p]; exact (f4 _ _).2 (List.mem_of_getElem? hi)
theorem MapG.delete (h : MapG W B g) {x : ByteArray} (hx : x.size ≤ maxLen) (ty : TypeId) : ∃ W', (Builtin.delete_ #[43, 9] ty #[.map (some B), .string x]).run Try.prog W = .ok (.tuple #[]) W' ∧ MapG W' B (fun s => if s = x then none else g s) ∧ W.grownBy W' (some B) := by
  have hl := Go.WideMaps.keyOf_string_mk (P := Try.prog) Try.underlying9 hx
  obtain ⟨es, c, f, h1, f1, f2, f3, f4, h2 | ⟨j, u, e, h2, h3, h4, h5, h6⟩⟩ := h.find hx W
  · refine ⟨setBlock W B (.map es c), ?_, ⟨es, c, f, Go.ChangeMaps.heap_setBlock_same h1 _, f1, f2, f3, fun s v => show (if s = x then none else g s) = some v ↔ _ from ?_⟩, grown_block h1⟩
    · simp [Builtin.delete_, run_underlying Try.underlying43, MapKept.run_getObj_map h1, law9.check W _ hl, h2.1, MapKept.run_setObj_map _ h1, Result.andThen, setBlock]
    · rw [← f4]
      by_cases e : s = x
      · subst e; rw [if_pos rfl, h2.2]
      · rw [if_neg e]
  · have hj : j < es.size := by have := (List.getElem?_eq_some_iff.1 h4).1; simpa using this
    refine ⟨setBlock W B (.map (es.eraseIdxIfInBounds j) c), ?_, ⟨_, c, f.eraseIdx j, Go.ChangeMaps.heap_setBlock_same h1 _, ?_, ?_, ?_, fun s v => show (if s = x then none else g s) = some v ↔ _ from ?_⟩, grown_block h1⟩
    · simp [Builtin.delete_, run_underlying Try.underlying43, MapKept.run_getObj_map h1, law9.check W _ hl, h2, MapKept.run_setObj_map _ h1, Result.andThen, setBlock]
    · rw [Array.eraseIdxIfInBounds_eq, dif_pos hj, Array.toList_eraseIdx, map_erase, f1, ← map_erase]
    · rw [map_erase]
      exact f2.sublist (List.eraseIdx_sublist _ _)
    · exact fun p hp => f3 p ((List.eraseIdx_sublist _ _).subset hp)
    · rw [List.mem_eraseIdx_iff_getElem?]
      constructor
      · intro e
        by_cases q : s = x
        · rw [if_pos q] at e; cases e
        · rw [if_neg q] at e
          obtain ⟨i, hi⟩ := List.mem_iff_getElem?.1 ((f4 _ _).1 e)
          refine ⟨i, fun e => q ?_, hi⟩
          subst e; rw [hi] at h3; exact congrArg Prod.fst (Option.some.inj h3)
      · rintro ⟨i, hij, hi⟩
        by_cases q : s = x
        · subst q; exact absurd (nodup_at f2 hi h3) hij
        · rw [if_neg q]; exact (f4 _ _).2 (List.mem_of_getElem? hi)
theorem MapG.clear (h : MapG W B g) (ty : TypeId) : ∃ W', (Builtin.clear_ #[43] ty #[.map (some B)]).run Try.prog W = .ok (.tuple #[]) W' ∧ MapG W' B (fun _ => none) ∧ W.grownBy W' (some B) := by
  obtain ⟨es, c, f, h1, _⟩ := h
  refine ⟨setBlock W B (.map #[] c), ?_, ⟨#[], c, [], Go.ChangeMaps.heap_setBlock_same h1 _, rfl, by simp, by simp, by simp⟩, grown_block h1⟩
  simp [Builtin.clear_, run_underlying Try.underlying43, MapKept.run_getObj_map h1, MapKept.run_setObj_map _ h1, Result.andThen, setBlock]
end
theorem infoI : (Try.prog.info? 3).map (fun i => (i.zero, i.size, i.bytes)) = some (some (.int .i64 0), 1, 8) := by kernel_rfl
set_option maxHeartbeats 4000000 in
set_option maxRecDepth 100000 in
theorem clone_calls (W : World) (A : Option Addr) (c : Nat) (xs : List Int) (h : Kd.C (Kd.int .i64) W A xs.length xs) (hl : xs.length ≤ 17592186043904) :
    Calls Try.prog 21 #[.slice A xs.length c] W fun e w' => ∃ u, e = .returned u ∧ Kd.R (Kd.int .i64) 3 w' W.heap.size (fun _ => True) u xs ∧ Below W.heap.size W w' := by
  have HR := Aside0.mk h
  have heq := Go.Lib.run_eql_slice_nil (P := Try.prog) W 29 3 A xs.length c 0 0 Try.underlying29
  clear h
  cases A with
  | none =>
    obtain rfl : xs = [] := by
      rcases Nat.eq_zero_or_pos xs.length with q | q
      · exact List.length_eq_zero_iff.1 q
      · obtain ⟨ad, e, _⟩ := HR.out.2.2 q
        cases e
    rw [show (none : Option Addr).isNone = true from rfl, List.length_nil] at heq
    rw [List.length_nil]
    go_enter Try.func21, Try.ntmps21
    go_wp2_with fail
    go_ret
    exact ⟨_, rfl, Kd.R_nil _ _ _ _ _, by repeat (first | exact Below.refl _ _ | apply below_alloc | apply pw_below_drewN | apply below_drew1)⟩
  | some ad =>
    rw [show (some ad : Option Addr).isNone = false from rfl] at heq
    go_enter Try.func21, Try.ntmps21
    go_wp2_with (first | ((with_reducible refine gate_dst (N := 5) rfl ?_); refine Kd.R_lit (Kd.int .i64) (w0 := W) W.heap.size 3 ?hg (N := 5) ?hd (xs := ([] : List Int)) (inner := []) (ok := fun k => W.heap.size ≤ k) (okp := fun _ => False) ?hr ?hp (fun _ hk => hk.elim) ?hf (by repeat (first | exact Below.refl _ _ | apply below_alloc | apply pw_below_drewN | apply below_drew1)) ?hb (by simp) ?_; (case hd => rfl); (case hg => rfl); (case hr => first | (go_simp; done) | (go_simp; rfl)); (case hp => exact Reps.none _ _); (case hf => exact Nat.le_refl _); (case hb => exact Nat.le_refl _); intro v1 w1 ho1 hb1 hg1 hn1) | ((with_reducible refine gate_builtin (b := .append) (xs := #[.tmp 5, .tmp 6]) rfl ?_); at_builtin; go_loud (refine Kd.R_append_rows (Kd.int .i64) (w0 := W) W.heap.size rfl (.tmp 5) (.tmp 6) 29 3 (.int .i64 0) 8 rfl Try.underlying29 infoI rfl (by decide) (by omega) v1 [] xs _ _ _ (fun k => W.heap.size ≤ k) (fun _ => False) rfl rfl ho1 ?aR (fun _ _ h => h) (fun _ h => h.elim) (fun k hk => Nat.le_trans hb1.size hk) hb1 hb1.size (by simp; omega) ?_; (case aR => exact Kd.C_below HR.out hb1); intro v2 w2 ho2 hb2 _ _)))
    go_ret
    exact ⟨_, rfl, Kd.R_mono ho2 (fun _ _ => trivial), hb2⟩
set_option maxHeartbeats 4000000 in
set_option maxRecDepth 100000 in
theorem cloneS_calls (W : World) (A : Option Addr) (c : Nat) (xs : List ByteArray) (h : Kd.C Kd.string W A xs.length xs) (hl : xs.length ≤ 1000000000000) :
    Calls Try.prog 24 #[.slice A xs.length c] W fun e w' => ∃ u, e = .returned u ∧ Kd.R Kd.string 9 w' W.heap.size (fun _ => True) u xs ∧ Below W.heap.size W w' := by
  have HR := Aside0.mk h
  have heq := Go.Lib.run_eql_slice_nil (P := Try.prog) W 22 9 A xs.length c 0 0 Try.underlying22
  clear h
  cases A with
  | none =>
    obtain rfl : xs = [] := by
      rcases Nat.eq_zero_or_pos xs.length with q | q
      · exact List.length_eq_zero_iff.1 q
      · obtain ⟨ad, e, _⟩ := HR.out.2.2 q
        cases e
    rw [show (none : Option Addr).isNone = true from rfl, List.length_nil] at heq
    rw [List.length_nil]
    go_enter Try.func24, Try.ntmps24
    go_wp2_with fail
    go_ret
    exact ⟨_, rfl, Kd.R_nil _ _ _ _ _, by repeat (first | exact Below.refl _ _ | apply below_alloc | apply pw_below_drewN | apply below_drew1)⟩
  | some ad =>
    rw [show (some ad : Option Addr).isNone = false from rfl] at heq
    go_enter Try.func24, Try.ntmps24
    go_wp2_with (first | ((with_reducible refine gate_dst (N := 5) rfl ?_); refine Kd.R_lit Kd.string (w0 := W) W.heap.size 9 ?hg (N := 5) ?hd (xs := ([] : List ByteArray)) (inner := []) (ok := fun k => W.heap.size ≤ k) (okp := fun _ => False) ?hr ?hp (fun _ hk => hk.elim) ?hf (by repeat (first | exact Below.refl _ _ | apply below_alloc | apply pw_below_drewN | apply below_drew1)) ?hb (by simp) ?_; (case hd => rfl); (case hg => rfl); (case hr => first | (go_simp; done) | (go_simp; rfl)); (case hp => exact Reps.none _ _); (case hf => exact Nat.le_refl _); (case hb => exact Nat.le_refl _); intro v1 w1 ho1 hb1 hg1 hn1) | ((with_reducible refine gate_builtin (b := .append) (xs := #[.tmp 5, .tmp 6]) rfl ?_); at_builtin; go_loud (refine Kd.R_append_rows Kd.string (w0 := W) W.heap.size rfl (.tmp 5) (.tmp 6) 22 9 (.string ⟨#[]⟩) 16 rfl Try.underlying22 info9 rfl (by decide) (by omega) v1 [] xs _ _ _ (fun k => W.heap.size ≤ k) (fun _ => False) rfl rfl ho1 ?aR (fun _ _ h => h) (fun _ h => h.elim) (fun k hk => Nat.le_trans hb1.size hk) hb1 hb1.size (by simp; omega) ?_; (case aR => exact Kd.C_below HR.out hb1); intro v2 w2 ho2 hb2 _ _)))
    go_ret
    exact ⟨_, rfl, Kd.R_mono ho2 (fun _ _ => trivial), hb2⟩
end Go.Proofs.Ytjpbcmfppmiagaa.Print
