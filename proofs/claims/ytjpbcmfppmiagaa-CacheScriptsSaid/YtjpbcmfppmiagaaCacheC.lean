/- A cache's map: looked up, put into, deleted from, cleared. -/
import Derived.Test.YtjpbcmfppmiagaaCacheA
namespace Go.Proofs.Ytjpbcmfppmiagaa.Print
open Go.RowKit Go.Maps Go.Proofs.YtjpbcmfppmiagaaW.PrintWords Go.Proofs.YtjpbcmfppmiagaaW.PrintLast Go.Proofs.YtjpbcmfppmiagaaW.PrintMore
set_option linter.unusedVariables false
set_option linter.unusedSimpArgs false

section
variable {ok : Nat → Prop} {base CB MB : Nat} {W W' : World} {vO v : Value} {most h nt : Int} {m m' : Lists} {o : List ByteArray} {k : ByteArray} {l : List Int}
theorem CInv.mapTurn (hi : CInv ok base CB MB vO most m o h nt W) (hm : MapL ok W' base MB m') (hg : W.grownBy W' (some MB)) : CInv ok base CB MB vO most m' o h nt W' :=
  ⟨blk_grown hi.blk hg (fun e => hi.map.ne hi.blk (by injection e)), hm, Kd.R_grown2 hi.ord rfl hg (fun j hj he => by
    injection hj with hj
    subst hj
    obtain ⟨cs, hcs⟩ := Kd.R_typed hi.ord _ he.symm
    exact hi.map.ne hcs rfl), hi.hC, hi.hM⟩
theorem CInv.put (hi : CInv ok base CB MB vO most m o h nt W) (hk : k.size ≤ maxLen) (hv : Kd.R (Kd.int .i64) 3 W base ok v l) :
    ∃ W', (Instr.mapUpdate 43 (.map (some MB)) (.string k) v).run Try.prog W = .ok () W' ∧ CInv ok base CB MB vO most (setL m k (some l)) o h nt W' ∧ Turn base CB MB W W' := by
  obtain ⟨g, g1, g2, g3⟩ := hi.map
  obtain ⟨W', h1, h2, h3⟩ := g1.put hk v
  exact ⟨W', h1, hi.mapTurn (hi.map.set g1 g2 g3 hv h2 h3) h3, Turn.of_map h3⟩
theorem CInv.delete (hi : CInv ok base CB MB vO most m o h nt W) (hk : k.size ≤ maxLen) (ty : TypeId) :
    ∃ W', (Builtin.delete_ #[43, 9] ty #[.map (some MB), .string k]).run Try.prog W = .ok (.tuple #[]) W' ∧ CInv ok base CB MB vO most (setL m k none) o h nt W' ∧ Turn base CB MB W W' := by
  obtain ⟨g, g1, g2, g3⟩ := hi.map
  obtain ⟨W', h1, h2, h3⟩ := g1.delete hk ty
  exact ⟨W', h1, hi.mapTurn (hi.map.erase g1 g2 g3 h2 h3) h3, Turn.of_map h3⟩
theorem CInv.clear (hi : CInv ok base CB MB vO most m o h nt W) (ty : TypeId) :
    ∃ W', (Builtin.clear_ #[43] ty #[.map (some MB)]).run Try.prog W = .ok (.tuple #[]) W' ∧ CInv ok base CB MB vO most (fun _ => none) o h nt W' ∧ Turn base CB MB W W' := by
  obtain ⟨g, g1, g2, g3⟩ := hi.map
  obtain ⟨W', h1, h2, h3⟩ := g1.clear ty
  exact ⟨W', h1, hi.mapTurn ⟨_, h2, fun k => by simp, fun k v l e => by simp at e⟩ h3, Turn.of_map h3⟩
theorem CInv.miss (hi : CInv ok base CB MB vO most m o h nt W) (hk : k.size ≤ maxLen) (hm : m k = none) : (Instr.lookup 43 (.map (some MB)) (.string k) true).run Try.prog W = .ok (.tuple #[.slice none 0 0, .bool false]) W := by
  obtain ⟨g, g1, g2, g3⟩ := hi.map
  exact g1.miss hk ((g2 k).2 hm)
theorem CInv.hit (hi : CInv ok base CB MB vO most m o h nt W) (hk : k.size ≤ maxLen) (hm : m k = some l) : ∃ v, (Instr.lookup 43 (.map (some MB)) (.string k) true).run Try.prog W = .ok (.tuple #[v, .bool true]) W ∧ Kd.R (Kd.int .i64) 3 W base ok v l := by
  obtain ⟨g, g1, g2, g3⟩ := hi.map
  cases q : g k with
  | none => rw [(g2 k).1 q] at hm; cases hm
  | some v => exact ⟨v, g1.hit hk q, g3 k v l q hm⟩
end
/-- What cut comes to. -/
def cutF (most : Int) (m : Lists) : List ByteArray → Lists × List ByteArray
  | [] => (m, [])
  | k :: o => if ((k :: o).length : Int) > most then cutF most (setL m k none) o else (m, k :: o)
def cutAll (most : Int) (m : Lists) (o : List ByteArray) : Lists × List ByteArray := if most = 0 then (fun _ => none, []) else cutF most m o
end Go.Proofs.Ytjpbcmfppmiagaa.Print
