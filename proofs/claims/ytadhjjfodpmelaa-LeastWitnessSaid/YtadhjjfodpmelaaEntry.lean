/- A new entry of a map, laid first and stored into then (what a tuple assignment with a map's element does). -/
import Derived.Test.YtadhjjfodpmelaaNum
namespace Go.Proofs.Ytadhjjfodpmelaa.Print
open Go.ChangeShapes Go.WideShapes Go.MapKept
open Go.ChangeMaps (setBlock)
open Go.WideElems (Fit rd rg pl rd_val elemAt)
open Go.Maps (Keyed fit_keys)
set_option linter.unusedVariables false
set_option linter.unusedSimpArgs false

theorem setBlock_twice (w : World) (b : Nat) (o o' : Obj) : setBlock (setBlock w b o) b o' = setBlock w b o' := by simp [setBlock]

/-- The entry is laid: its stamp; a store by that stamp leaves the map as 'm[k] = v' does. -/
theorem entry_new {H : Type} {P : Program} {k e t : TypeId} {w : World} {R : Value → Option (DataW H × List MemPlace)} {b n : Nat} {D : DataW H} (h : w.ownsMap P k R b n D) (K : Keyed P k) (ht : P.underlying t = some (.map k e)) (hn : n < maxLen) {z : Value} (hz : (zeroValue e).run P w = .ok z w)
    {key : Value} {kl : Lit} (hkey : keyOf P k key = some kl) (hno : Maps.has D kl = false) :
    ∃ (c : Nat) (w1 : World), (Instr.mapEntry t (.map (some b)) key).run P w = .ok (.tuple #[z, .int .i64 c]) w1 ∧ w.grownBy w1 (some b) ∧
      ∀ (val : Value) (d : DataW H) (ps : List MemPlace), R val = some (d, ps) → ∃ w2, (Instr.entryStore t (.map (some b)) (.int .i64 c) val).run P w1 = .ok () w2 ∧ w2.ownsMap P k R b (n + 1) (D.put kl d) ∧ w.grownBy w2 (some b) := by
  have hall := h
  obtain ⟨es, clock, hb, F, hs, rfl⟩ := h
  have hne : ∀ x ∈ es.toList, x.key ≠ key := by
    rcases Maps.fit_look true K ht hz hb F hkey with ⟨_, h2, _⟩ | ⟨e0, y, _, _, _, _, hat, _⟩
    · exact h2
    · rw [Maps.has_true_of_atKey hat] at hno; cases hno
  have hnew := K.find w hkey es.toList (fun x hx => by obtain ⟨y, hy⟩ := F.reads x hx; exact ⟨_, Go.WideElems.rd_key hy⟩)
  rcases hnew with ⟨h1, h2⟩ | ⟨j, e0, h1, h2, h3⟩
  case inr => exact absurd h3 (hne e0 (List.mem_of_getElem? h2))
  refine ⟨clock, setBlock w b (.map (es.push ⟨key, z, clock⟩) (clock + 1)), ?_, ?_, ?_⟩
  · simp [Instr.mapEntry, run_underlying ht, MapKept.run_getObj_map hb, K.check w false hkey, h1, hz, MapKept.run_setObj_map _ hb, Result.andThen, setBlock, goInt]
  · exact (show w.mapTurned _ b from ⟨es, clock, _, _, hb, rfl⟩).grown
  · intro val d ps hv
    obtain ⟨w', hrun, hown, hturn⟩ := hall.store K ht hn hkey hv
    have hrun2 : (Instr.mapUpdate t (.map (some b)) key val).run P w = .ok () (setBlock w b (.map (es.push ⟨key, val, clock⟩) (clock + 1))) := by
      simp [Instr.mapUpdate, run_underlying ht, MapKept.run_getObj_map hb, K.check w false hkey, h1, MapKept.run_setObj_map _ hb, Result.andThen, setBlock]
    rw [hrun2] at hrun
    injection hrun with _ hw'
    subst hw'
    refine ⟨_, ?_, hown, hturn.grown⟩
    have hb1 : (setBlock w b (.map (es.push ⟨key, z, clock⟩) (clock + 1))).heap[b]? = some (.map (es.push ⟨key, z, clock⟩) (clock + 1)) := Go.ChangeMaps.heap_setBlock_same hb _
    have hfind : (es.push ⟨key, z, clock⟩).findIdx? (fun e => ((e.born : Int) == (clock : Int))) = some es.size := by
      rw [Array.findIdx?_push, show es.findIdx? (fun e => ((e.born : Int) == (clock : Int))) = none from Array.findIdx?_eq_none_iff.2 (fun x hx => by
        have := F.stamped.1 x (Array.mem_toList_iff.2 hx)
        simp; omega)]
      simp
    have hmod : (es.push ⟨key, z, clock⟩).modify es.size (fun e => { e with val := val }) = es.push ⟨key, val, clock⟩ := by
      apply Array.ext
      · simp
      · intro i h1 h2
        simp at h1
        rcases Nat.lt_or_ge i es.size with q | q
        · rw [Array.getElem_modify_of_ne (by omega)]
          simp [Array.getElem_push, q]
        · have : i = es.size := by omega
          subst this
          rw [Array.getElem_modify_self]
          simp
    obtain ⟨W1, hW1⟩ : ∃ W, setBlock w b (.map (es.push ⟨key, z, clock⟩) (clock + 1)) = W := ⟨_, rfl⟩
    rw [hW1] at hb1 ⊢
    have e : (Instr.entryStore t (.map (some b)) (.int .i64 (clock : Int)) val).run P W1 = .ok () (setBlock W1 b (.map (es.push ⟨key, val, clock⟩) (clock + 1))) := by
      simp [Instr.entryStore, MapKept.run_getObj_map hb1, asInt, asIntOf, hfind, hmod, MapKept.run_setObj_map _ hb1, Result.andThen, setBlock]
    rw [e, ← hW1, setBlock_twice]
end Go.Proofs.Ytadhjjfodpmelaa.Print
