/- Maps with keys of any kind, raw: what a map tells of each key; made, put, looked up, counted. -/
import Derived.Test.YtemlgmkbonpniaaPrint0
import Derived.Maps.OwnSet
import Derived.Maps.OwnOps
import Derived.Maps.Keyed
import Derived.WideKeyPair
import Derived.DeepKeys4
import Derived.WalkMore
import Derived.Lib.SliceRun
namespace Go.Proofs.Ytemlgmkbonpniaa.Print
open Go.RowKit Go.Maps Go.Proofs.YtemlgmkbonpniaaW.PrintWords Go.Proofs.YtemlgmkbonpniaaW.PrintLast Go.Proofs.YtemlgmkbonpniaaW.PrintMore
open Go.ChangeMaps (setBlock)
set_option linter.unusedVariables false
set_option linter.unusedSimpArgs false

/-- Keys of type kt, written by enc where okK holds. -/
structure KeyK {κ : Type} (kt : TypeId) (enc : κ → Value) (okK : κ → Prop) : Prop where
 law : Keyed Try.prog kt
 key : ∀ x, okK x → ∃ l, keyOf Try.prog kt (enc x) = some l
 inj : ∀ x y, enc x = enc y → x = y
def pairV (p : Int × Int) : Value := .agg #[.int .i64 p.1, .int .i64 p.2]
theorem pairV_inj (p q : Int × Int) (h : pairV p = pairV q) : p = q := by
 unfold pairV at h
 injection h with h
 have h1 := congrArg (fun a => a[0]?) h
 have h2 := congrArg (fun a => a[1]?) h
 simp at h1 h2
 exact Prod.ext h1 h2
def SmallP (p : Int × Int) : Prop := (Lit.int .i64 p.1).wf = true ∧ (Lit.int .i64 p.2).wf = true
/-- Block B holds a map: g tells of each key. -/
def MapK {κ : Type} (enc : κ → Value) (okK : κ → Prop) (W : World) (B : Nat) (g : κ → Option Value) : Prop :=
 ∃ es clock, ∃ f : List (κ × Value), W.heap[B]? = some (.map es clock) ∧ es.toList.map (fun e => (e.key, e.val)) = f.map (fun p => (enc p.1, p.2)) ∧ (f.map Prod.fst).Nodup ∧ (∀ p ∈ f, okK p.1) ∧ ∀ s v, g s = some v ↔ (s, v) ∈ f

section
variable {κ : Type} {enc : κ → Value} {okK : κ → Prop} {kt t e : TypeId} {W W' : World} {B : Nat} {g : κ → Option Value}
theorem MapK.made (W : World) : MapK enc okK (W.alloc (.map #[] 0)) W.heap.size (fun _ => none) := ⟨#[], 0, [], (show (W.heap.push _)[W.heap.size]? = _ from Array.getElem?_push_size), rfl, by simp, by simp, by simp⟩
theorem MapK.move (h : MapK enc okK W B g) (e : W'.heap[B]? = W.heap[B]?) : MapK enc okK W' B g := by
 obtain ⟨es, c, f, h1, h2⟩ := h
 exact ⟨es, c, f, e.trans h1, h2⟩
theorem MapK.lt (h : MapK enc okK W B g) : B < W.heap.size := by
 obtain ⟨es, c, f, h1, h2⟩ := h
 exact (Array.getElem?_eq_some_iff.1 h1).1
theorem MapK.ne (h : MapK enc okK W B g) {k t : Nat} {cs : Array Value} (hg : W.heap[k]? = some (.cells cs t (0, 0))) : k ≠ B := by
 rintro rfl
 obtain ⟨es, c, f, h1, h2⟩ := h
 rw [h1] at hg; cases hg
theorem nodupK_at {f : List (κ × Value)} (hn : (f.map Prod.fst).Nodup) {i j : Nat} {x : κ} {v v' : Value} (hi : f[i]? = some (x, v)) (hj : f[j]? = some (x, v')) : i = j := by
 have h1 : (f.map Prod.fst)[i]? = some x := by rw [List.getElem?_map, hi]; rfl
 have h2 : (f.map Prod.fst)[j]? = some x := by rw [List.getElem?_map, hj]; rfl
 obtain ⟨a1, a2⟩ := List.getElem?_eq_some_iff.1 h1
 obtain ⟨b1, b2⟩ := List.getElem?_eq_some_iff.1 h2
 have hp := List.pairwise_iff_getElem.1 hn
 rcases Nat.lt_trichotomy i j with q | q | q
 ·exact absurd (a2.trans b2.symm) (hp i j a1 b1 q)
 ·exact q
 ·exact absurd (b2.trans a2.symm) (hp j i b1 a1 q)
theorem MapK.find (K : KeyK kt enc okK) (h : MapK enc okK W B g) {x : κ} (hx : okK x) (w : World) : ∃ es clock, ∃ f : List (κ × Value), W.heap[B]? = some (.map es clock) ∧ es.toList.map (fun e => (e.key, e.val)) = f.map (fun p => (enc p.1, p.2)) ∧ (f.map Prod.fst).Nodup ∧ (∀ p ∈ f, okK p.1) ∧ (∀ s v, g s = some v ↔ (s, v) ∈ f) ∧
  (((Instr.findKey kt (enc x) es.toList).run Try.prog w = .ok none w ∧ g x = none) ∨ ∃ (j : Nat) (v : Value) (e : MapEntry), (Instr.findKey kt (enc x) es.toList).run Try.prog w = .ok (some (j, v)) w ∧ f[j]? = some (x, v) ∧ es.toList[j]? = some e ∧ e.key = enc x ∧ g x = some v) := by
 obtain ⟨es, c, f, h1, h2, h3, h4, h5⟩ := h
 obtain ⟨kl, hl⟩ := K.key x hx
 have hk : ∀ (j : Nat) (e : MapEntry), es.toList[j]? = some e → ∃ p, f[j]? = some p ∧ e.key = enc p.1 ∧ e.val = p.2 := fun j e he => by
  have e1 := congrArg (fun l => l[j]?) h2
  simp only [List.getElem?_map, he, Option.map_some] at e1
  obtain ⟨p, hp, e3⟩ := Option.map_eq_some_iff.1 e1.symm
  exact ⟨p, hp, (congrArg Prod.fst e3).symm, (congrArg Prod.snd e3).symm⟩
 have hall : ∀ e ∈ es.toList, ∃ l, keyOf Try.prog kt e.key = some l := fun e he => by
  obtain ⟨j, hj⟩ := List.mem_iff_getElem?.1 he
  obtain ⟨p, hp, e1, _⟩ := hk j e hj
  rw [e1]
  exact K.key _ (h4 p (List.mem_of_getElem? hp))
 refine ⟨es, c, f, h1, h2, h3, h4, h5, ?_⟩
 rcases K.law.find w hl es.toList hall with ⟨a1, a2⟩ | ⟨j, e, a1, a2, a3⟩
 ·refine .inl ⟨a1, ?_⟩
  cases q : g x with
  | none => rfl
  | some v =>
   obtain ⟨j, hj⟩ := List.mem_iff_getElem?.1 ((h5 x v).1 q)
   have e1 := congrArg (fun l => l[j]?) h2
   simp only [List.getElem?_map, hj, Option.map_some] at e1
   obtain ⟨e, he, e3⟩ := Option.map_eq_some_iff.1 e1
   exact absurd (congrArg Prod.fst e3) (a2 e (List.mem_of_getElem? he))
 ·obtain ⟨p, hp, e1, e2⟩ := hk j e a2
  obtain ⟨px, pv⟩ := p
  obtain rfl : px = x := K.inj _ _ (e1.symm.trans a3)
  exact .inr ⟨j, e.val, e, a1, by rw [hp, e2], a2, a3, (h5 _ _).2 (by rw [e2]; exact List.mem_of_getElem? hp)⟩
theorem grownK_block {es es' : Array MapEntry} {c c' : Nat} (h1 : W.heap[B]? = some (.map es c)) : W.grownBy (setBlock W B (.map es' c')) (some B) := (show W.mapTurned _ B from ⟨es, c, _, _, h1, rfl⟩).grown
theorem MapK.put (K : KeyK kt enc okK) (ht : Try.prog.underlying t = some (.map kt e)) (h : MapK enc okK W B g) {x : κ} (hx : okK x) (v : Value) : ∃ W', (Instr.mapUpdate t (.map (some B)) (enc x) v).run Try.prog W = .ok () W' ∧ (∃ g', MapK enc okK W' B g' ∧ ∀ s, g' s = open Classical in if s = x then some v else g s) ∧ W.grownBy W' (some B) := by
 classical
 obtain ⟨kl, hl⟩ := K.key x hx
 obtain ⟨es, c, f, h1, f1, f2, f3, f4, h2 | ⟨j, u, e', h2, h3, h4, h5, h6⟩⟩ := h.find K hx W
 ·refine ⟨setBlock W B (.map (es.push ⟨enc x, v, c⟩) (c + 1)), ?_, ⟨_, ⟨_, _, f ++ [(x, v)], Go.ChangeMaps.heap_setBlock_same h1 _, ?_, ?_, ?_, ?_⟩, fun _ => rfl⟩, grownK_block h1⟩
  ·simp [Instr.mapUpdate, run_underlying ht, MapKept.run_getObj_map h1, K.law.check W false hl, h2.1, MapKept.run_setObj_map _ h1, Result.andThen, setBlock]
  ·simp [f1]
  ·rw [List.map_append, List.nodup_append]
   refine ⟨f2, by simp, fun a ha b hb => ?_⟩
   simp at hb
   subst hb
   rintro rfl
   obtain ⟨⟨p1, p2⟩, hp, e⟩ := List.mem_map.1 ha
   obtain rfl : p1 = a := e
   have := (f4 _ _).2 hp
   rw [h2.2] at this; cases this
  ·intro p hp
   rcases List.mem_append.1 hp with hp | hp
   ·exact f3 p hp
   ·rw [List.mem_singleton] at hp; rw [hp]; exact hx
  ·intro s v'
   show (if s = x then some v else g s) = some v' ↔ _
   by_cases e : s = x
   ·subst e
    rw [if_pos rfl, List.mem_append, List.mem_singleton]
    constructor
    ·intro e; exact .inr (by rw [Option.some.inj e])
    ·rintro (e | e)
     ·have := (f4 _ _).2 e; rw [h2.2] at this; cases this
     ·exact congrArg some (congrArg Prod.snd e).symm
   ·rw [if_neg e, List.mem_append, List.mem_singleton, f4]
    exact ⟨.inl, fun h => h.elim id fun h => absurd (congrArg Prod.fst h) e⟩
 ·have hj : j < es.size := by have := (List.getElem?_eq_some_iff.1 h4).1; simpa using this
  refine ⟨setBlock W B (.map (es.modify j fun e => { e with key := enc x, val := v }) c), ?_, ⟨_, ⟨_, _, f.set j (x, v), Go.ChangeMaps.heap_setBlock_same h1 _, ?_, ?_, ?_, ?_⟩, fun _ => rfl⟩, grownK_block h1⟩
  ·have he : (es[j]?.map (fun e => e.key)).getD (enc x) = enc x := by
    rw [show es[j]? = some e' by rw [← h4]; simp]
    exact h5
   simp [Instr.mapUpdate, run_underlying ht, MapKept.run_getObj_map h1, K.law.check W false hl, h2, he, K.law.stays W hl, MapKept.run_setObj_map _ h1, Result.andThen, setBlock]
  ·apply List.ext_getElem?
   intro i
   have e1 := congrArg (fun l => l[i]?) f1
   simp only [List.getElem?_map] at e1 ⊢
   rw [Array.toList_modify, List.getElem?_modify, List.getElem?_set]
   by_cases q : j = i
   ·subst q
    have hjf : j < f.length := (List.getElem?_eq_some_iff.1 h3).1
    rw [if_pos rfl, if_pos hjf, h4]
    simp
   ·rw [if_neg q]
    simpa [q] using e1
  ·rw [List.map_set]
   have : (f.map Prod.fst).set j x = f.map Prod.fst := by
    apply List.ext_getElem?
    intro i
    rw [List.getElem?_set]
    by_cases q : j = i
    ·subst q
     have hjf : j < f.length := (List.getElem?_eq_some_iff.1 h3).1
     rw [if_pos rfl, if_pos (by rw [List.length_map]; exact hjf), List.getElem?_map, h3]; rfl
    ·rw [if_neg q]
   rw [this]; exact f2
  ·intro p hp
   rcases List.mem_or_eq_of_mem_set hp with hp | hp
   ·exact f3 p hp
   ·rw [hp]; exact hx
  ·intro s v'
   have hjf : j < f.length := (List.getElem?_eq_some_iff.1 h3).1
   show (if s = x then some v else g s) = some v' ↔ _
   constructor
   ·intro e
    by_cases q : s = x
    ·subst q
     rw [if_pos rfl] at e
     rw [← Option.some.inj e]
     exact List.mem_iff_getElem?.2 ⟨j, by rw [List.getElem?_set, if_pos rfl, if_pos hjf]⟩
    ·rw [if_neg q] at e
     obtain ⟨i, hi⟩ := List.mem_iff_getElem?.1 ((f4 _ _).1 e)
     refine List.mem_iff_getElem?.2 ⟨i, ?_⟩
     rw [List.getElem?_set, if_neg (fun e => q ?_)]
     ·exact hi
     ·subst e; rw [hi] at h3; exact congrArg Prod.fst (Option.some.inj h3)
   ·intro e
    obtain ⟨i, hi⟩ := List.mem_iff_getElem?.1 e
    rw [List.getElem?_set] at hi
    by_cases q : j = i
    ·rw [if_pos q, if_pos (by omega)] at hi
     have := Option.some.inj hi
     rw [if_pos (congrArg Prod.fst this).symm]
     exact congrArg some (congrArg Prod.snd this)
    ·rw [if_neg q] at hi
     by_cases p : s = x
     ·subst p; exact absurd (nodupK_at f2 h3 hi) q
     ·rw [if_neg p]; exact (f4 _ _).2 (List.mem_of_getElem? hi)
theorem MapK.hit (K : KeyK kt enc okK) (ht : Try.prog.underlying t = some (.map kt e)) (h : MapK enc okK W B g) {x : κ} (hx : okK x) {v : Value} (hv : g x = some v) : (Instr.lookup t (.map (some B)) (enc x) true).run Try.prog W = .ok (.tuple #[v, .bool true]) W ∧ (Instr.lookup t (.map (some B)) (enc x) false).run Try.prog W = .ok v W := by
 obtain ⟨kl, hl⟩ := K.key x hx
 obtain ⟨es, c, f, h1, _, _, _, _, h2 | ⟨j, u, e', h2, h3, h4, h5, h6⟩⟩ := h.find K hx W
 ·rw [hv] at h2; cases h2.2
 ·rw [hv] at h6
  obtain rfl := Option.some.inj h6
  constructor <;> simp [Instr.lookup, run_underlying ht, MapKept.run_getObj_map h1, K.law.check W _ hl, h2, Result.andThen]
theorem MapK.miss (K : KeyK kt enc okK) (ht : Try.prog.underlying t = some (.map kt e)) {z : Value} (hz : ∀ w, (zeroValue e).run Try.prog w = .ok z w) (h : MapK enc okK W B g) {x : κ} (hx : okK x) (hn : g x = none) : (Instr.lookup t (.map (some B)) (enc x) true).run Try.prog W = .ok (.tuple #[z, .bool false]) W ∧ (Instr.lookup t (.map (some B)) (enc x) false).run Try.prog W = .ok z W := by
 obtain ⟨kl, hl⟩ := K.key x hx
 obtain ⟨es, c, f, h1, _, _, _, _, h2 | ⟨j, v, e', h2, h3, h4, h5, h6⟩⟩ := h.find K hx W
 ·constructor <;> simp [Instr.lookup, run_underlying ht, MapKept.run_getObj_map h1, K.law.check W _ hl, h2.1, hz, Result.andThen]
 ·rw [hn] at h6; cases h6
/-- As many keys as a list without doubles has that has the same keys. -/
theorem MapK.len (ht : Try.prog.underlying t = some (.map kt e)) (h : MapK enc okK W B g) {ks : List κ} (hn : ks.Nodup) (hk : ∀ k, k ∈ ks ↔ g k ≠ none) (ty : TypeId) : (Builtin.len_ #[t] ty #[.map (some B)]).run Try.prog W = .ok (.int .i64 ks.length) W := by
 obtain ⟨es, c, f, h1, f1, f2, f3, f4⟩ := h
 have e1 : es.size = f.length := by
  have := congrArg List.length f1
  simpa using this
 have e2 : (f.map Prod.fst).length = ks.length := by
  refine List.Perm.length_eq ((List.perm_ext_iff_of_nodup f2 hn).2 fun k => ?_)
  rw [hk, List.mem_map]
  constructor
  ·rintro ⟨p, hp, rfl⟩
   rw [(f4 p.1 p.2).2 hp]; simp
  ·intro hne
   cases q : g k with
   | none => exact absurd q hne
   | some v => exact ⟨_, (f4 k v).1 q, rfl⟩
 rw [List.length_map] at e2
 rw [Go.run_len_map (P := Try.prog) W t ty B es c (by unfold Program.mapKeyOf Program.mapElemOf; rw [ht]) h1, e1, e2]
 rfl
theorem MapK.ext {g' : κ → Option Value} (h : MapK enc okK W B g) (e : ∀ s, g' s = g s) : MapK enc okK W B g' := by rw [show g' = g from funext e]; exact h
end
end Go.Proofs.Ytemlgmkbonpniaa.Print
