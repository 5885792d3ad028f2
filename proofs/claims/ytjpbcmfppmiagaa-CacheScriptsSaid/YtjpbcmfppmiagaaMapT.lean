/- Maps keyed by strings of any type: put, looked up, counted; what a cache's calls keep of them. -/
import Derived.Test.YtjpbcmfppmiagaaSame
namespace Go.Proofs.Ytjpbcmfppmiagaa.Print
open Go.RowKit Go.Maps Go.Proofs.YtjpbcmfppmiagaaW.PrintWords Go.Proofs.YtjpbcmfppmiagaaW.PrintLast Go.Proofs.YtjpbcmfppmiagaaW.PrintMore
open Go.ChangeMaps (setBlock)
set_option linter.unusedVariables false
set_option linter.unusedSimpArgs false

section
variable {W W' : World} {B : Nat} {g : ByteArray → Option Value} {t e : TypeId}
theorem MapG.putT (ht : Try.prog.underlying t = some (.map 9 e)) (h : MapG W B g) {x : ByteArray} (hx : x.size ≤ maxLen) (v : Value) : ∃ W', (Instr.mapUpdate t (.map (some B)) (.string x) v).run Try.prog W = .ok () W' ∧ MapG W' B (fun s => if s = x then some v else g s) ∧ W.grownBy W' (some B) := by
  have hl := Go.WideMaps.keyOf_string_mk (P := Try.prog) Try.underlying9 hx
  obtain ⟨es, c, f, h1, f1, f2, f3, f4, h2 | ⟨j, u, e', h2, h3, h4, h5, h6⟩⟩ := h.find hx W
  · refine ⟨setBlock W B (.map (es.push ⟨.string x, v, c⟩) (c + 1)), ?_, ⟨_, _, f ++ [(x, v)], Go.ChangeMaps.heap_setBlock_same h1 _, ?_, ?_, ?_, ?_⟩, grown_block h1⟩
    · simp [Instr.mapUpdate, run_underlying ht, MapKept.run_getObj_map h1, law9.check W false hl, h2.1, MapKept.run_setObj_map _ h1, Result.andThen, setBlock]
    · simp [f1]
    · rw [List.map_append, List.nodup_append]
      refine ⟨f2, by simp, fun a ha b hb => ?_⟩
      simp at hb
      subst hb
      rintro rfl
      obtain ⟨⟨p1, p2⟩, hp, e⟩ := List.mem_map.1 ha
      obtain rfl : p1 = a := e
      have := (f4 _ _).2 hp
      rw [h2.2] at this; cases this
    · intro p hp
      rcases List.mem_append.1 hp with hp | hp
      · exact f3 p hp
      · rw [List.mem_singleton] at hp; rw [hp]; exact hx
    · intro s v'
      show (if s = x then some v else g s) = some v' ↔ _
      by_cases e : s = x
      · subst e
        rw [if_pos rfl, List.mem_append, List.mem_singleton]
        constructor
        · intro e; exact .inr (by rw [Option.some.inj e])
        · rintro (e | e)
          · have := (f4 _ _).2 e; rw [h2.2] at this; cases this
          · exact congrArg some (congrArg Prod.snd e).symm
      · rw [if_neg e, List.mem_append, List.mem_singleton, f4]
        exact ⟨.inl, fun h => h.elim id fun h => absurd (congrArg Prod.fst h) e⟩
  · have hj : j < es.size := by have := (List.getElem?_eq_some_iff.1 h4).1; simpa using this
    refine ⟨setBlock W B (.map (es.modify j fun e => { e with key := .string x, val := v }) c), ?_, ⟨_, _, f.set j (x, v), Go.ChangeMaps.heap_setBlock_same h1 _, ?_, ?_, ?_, ?_⟩, grown_block h1⟩
    · have he : (es[j]?.map (fun e => e.key)).getD (.string x) = .string x := by
        rw [show es[j]? = some e' by rw [← h4]; simp]
        exact h5
      simp [Instr.mapUpdate, run_underlying ht, MapKept.run_getObj_map h1, law9.check W false hl, h2, he, law9.stays W hl, MapKept.run_setObj_map _ h1, Result.andThen, setBlock]
    · apply List.ext_getElem?
      intro i
      have e1 := congrArg (fun l => l[i]?) f1
      simp only [List.getElem?_map] at e1 ⊢
      rw [Array.toList_modify, List.getElem?_modify, List.getElem?_set]
      by_cases q : j = i
      · subst q
        have hjf : j < f.length := (List.getElem?_eq_some_iff.1 h3).1
        rw [if_pos rfl, if_pos hjf, h4]
        simp
      · rw [if_neg q]
        simpa [q] using e1
    · rw [List.map_set]
      have : (f.map Prod.fst).set j x = f.map Prod.fst := by
        apply List.ext_getElem?
        intro i
        rw [List.getElem?_set]
        by_cases q : j = i
        · subst q
          have hjf : j < f.length := (List.getElem?_eq_some_iff.1 h3).1
          rw [if_pos rfl, if_pos (by rw [List.length_map]; exact hjf), List.getElem?_map, h3]; rfl
        · rw [if_neg q]
      rw [this]; exact f2
    · intro p hp
      rcases List.mem_or_eq_of_mem_set hp with hp | hp
      · exact f3 p hp
      · rw [hp]; exact hx
    · intro s v'
      have hjf : j < f.length := (List.getElem?_eq_some_iff.1 h3).1
      show (if s = x then some v else g s) = some v' ↔ _
      constructor
      · intro e
        by_cases q : s = x
        · subst q
          rw [if_pos rfl] at e
          rw [← Option.some.inj e]
          exact List.mem_iff_getElem?.2 ⟨j, by rw [List.getElem?_set, if_pos rfl, if_pos hjf]⟩
        · rw [if_neg q] at e
          obtain ⟨i, hi⟩ := List.mem_iff_getElem?.1 ((f4 _ _).1 e)
          refine List.mem_iff_getElem?.2 ⟨i, ?_⟩
          rw [List.getElem?_set, if_neg (fun e => q ?_)]
          · exact hi
          · subst e; rw [hi] at h3; exact congrArg Prod.fst (Option.some.inj h3)
      · intro e
        obtain ⟨i, hi⟩ := List.mem_iff_getElem?.1 e
        rw [List.getElem?_set] at hi
        by_cases q : j = i
        · rw [if_pos q, if_pos (by omega)] at hi
          have := Option.some.inj hi
          rw [if_pos (congrArg Prod.fst this).symm]
          exact congrArg some (congrArg Prod.snd this)
        · rw [if_neg q] at hi
          by_cases p : s = x
          · subst p; exact absurd (nodup_at f2 h3 hi) q
          · rw [if_neg p]; exact (f4 _ _).2 (List.mem_of_getElem? hi)
theorem MapG.hitT (ht : Try.prog.underlying t = some (.map 9 e)) (h : MapG W B g) {x : ByteArray} (hx : x.size ≤ maxLen) {v : Value} (hv : g x = some v) : (Instr.lookup t (.map (some B)) (.string x) true).run Try.prog W = .ok (.tuple #[v, .bool true]) W ∧ (Instr.lookup t (.map (some B)) (.string x) false).run Try.prog W = .ok v W := by
  have hl := Go.WideMaps.keyOf_string_mk (P := Try.prog) Try.underlying9 hx
  obtain ⟨es, c, f, h1, _, _, _, _, h2 | ⟨j, u, e', h2, h3, h4, h5, h6⟩⟩ := h.find hx W
  · rw [hv] at h2; cases h2.2
  · rw [hv] at h6
    obtain rfl := Option.some.inj h6
    constructor <;> simp [Instr.lookup, run_underlying ht, MapKept.run_getObj_map h1, law9.check W _ hl, h2, Result.andThen]
theorem MapG.missT (ht : Try.prog.underlying t = some (.map 9 e)) {z : Value} (hz : ∀ w, (zeroValue e).run Try.prog w = .ok z w) (h : MapG W B g) {x : ByteArray} (hx : x.size ≤ maxLen) (hn : g x = none) : (Instr.lookup t (.map (some B)) (.string x) true).run Try.prog W = .ok (.tuple #[z, .bool false]) W ∧ (Instr.lookup t (.map (some B)) (.string x) false).run Try.prog W = .ok z W := by
  have hl := Go.WideMaps.keyOf_string_mk (P := Try.prog) Try.underlying9 hx
  obtain ⟨es, c, f, h1, _, _, _, _, h2 | ⟨j, v, e', h2, h3, h4, h5, h6⟩⟩ := h.find hx W
  · constructor <;> simp [Instr.lookup, run_underlying ht, MapKept.run_getObj_map h1, law9.check W _ hl, h2.1, hz, Result.andThen]
  · rw [hn] at h6; cases h6
/-- As many keys as a list without doubles has that has the same keys. -/
theorem MapG.len (ht : Try.prog.underlying t = some (.map 9 e)) (h : MapG W B g) {ks : List ByteArray} (hn : ks.Nodup) (hk : ∀ k, k ∈ ks ↔ g k ≠ none) (ty : TypeId) : (Builtin.len_ #[t] ty #[.map (some B)]).run Try.prog W = .ok (.int .i64 ks.length) W := by
  obtain ⟨es, c, f, h1, f1, f2, f3, f4⟩ := h
  have e1 : es.size = f.length := by
    have := congrArg List.length f1
    simpa using this
  have e2 : (f.map Prod.fst).length = ks.length := by
    refine List.Perm.length_eq ((List.perm_ext_iff_of_nodup f2 hn).2 fun k => ?_)
    rw [hk, List.mem_map]
    constructor
    · rintro ⟨p, hp, rfl⟩
      rw [(f4 p.1 p.2).2 hp]; simp
    · intro hne
      cases q : g k with
      | none => exact absurd q hne
      | some v => exact ⟨_, (f4 k v).1 q, rfl⟩
  rw [List.length_map] at e2
  rw [Go.run_len_map (P := Try.prog) W t ty B es c (by unfold Program.mapKeyOf Program.mapElemOf; rw [ht]) h1, e1, e2]
  rfl
end
section
variable {ok : Nat → Prop} {base CB MB OB : Nat} {W W' : World} {vO : Value} {most h nt : Int} {m : Lists} {o : List ByteArray} {g : ByteArray → Option Value}
/-- Another map is written. -/
theorem CInv.other (hi : CInv ok base CB MB vO most m o h nt W) (hG : MapG W OB g) (hne : OB ≠ MB) (hg : W.grownBy W' (some OB)) : CInv ok base CB MB vO most m o h nt W' := by
  refine ⟨blk_grown hi.blk hg (fun e => hG.ne hi.blk (by injection e)), hi.map.kept (hg.block _ hi.map.lt (fun e => hne (by injection e with e; exact e.symm))) (fun k cs hk => hg.block k (blk_lt hk) (fun e => hG.ne hk (by injection e))), Kd.R_grown2 hi.ord rfl hg (fun j hj he => ?_), hi.hC, hi.hM⟩
  injection hj with hj
  subst hj
  obtain ⟨cs, hcs⟩ := Kd.R_typed hi.ord _ he.symm
  exact hG.ne hcs rfl
/-- Another map is kept by a call. -/
theorem Turn.other (ht : Turn base CB MB W W') (hi : CInv ok base CB MB vO most m o h nt W) (hG : MapG W OB g) (hne : OB ≠ MB) : MapG W' OB g := by
  refine hG.move (ht.block OB hG.lt (fun e => ?_) hne (fun _ cs e => hG.ne e rfl))
  exact hG.ne hi.blk e.symm
end
end Go.Proofs.Ytjpbcmfppmiagaa.Print
