/- How a node that comes in is read. -/
import Derived.Test.YtemlgmkbonpniaaOpen2
namespace Go.Proofs.Ytemlgmkbonpniaa.Open
open Go.RowKit Go.ChangeShapes Go.WideShapes Go.ChangeAt Go.Proofs.YtemlgmkbonpniaaW.PrintWords Go.Proofs.YtemlgmkbonpniaaW.PrintLast Go.Proofs.YtemlgmkbonpniaaW.PrintMore
set_option linter.unusedVariables false
set_option linter.unusedSimpArgs false
theorem cells24 : Try.prog.cellsOf 24 = 3 := by kernel_rfl
theorem cells22 : Try.prog.cellsOf 22 = 1 := by kernel_rfl
theorem cells3 : Try.prog.cellsOf 3 = 1 := by kernel_rfl
theorem length_three {α : Type} {l : List α} (h : l.length = 3) : ∃ a b c, l = [a, b, c] := by
  cases l with
  | nil => cases h
  | cons a l =>
    cases l with
    | nil => cases h
    | cons b l =>
      cases l with
      | nil => cases h
      | cons c l =>
        cases l with
        | nil => exact ⟨a, b, c, rfl⟩
        | cons d l => simp at h
set_option maxRecDepth 100000 in
theorem node_opens {H : Type} (enc : TypeId × Value → H) (w : World) (base : Nat) (spare : Nat → Bool) (held : Bool) : ∀ (N fuel : Nat) (cs : List Value) (x : DataW H × List MemPlace), SizeOf.sizeOf x.1 ≤ N → DataW.trod enc Try.prog w base spare held fuel 24 cs = some x → ∃ a : Print.S24, Print.k24.K w a cs := by
  intro N
  induction N with
  | zero => intro fuel cs x hN h; exact absurd hN (by have h1 := DataW.trod_struct Try.underlying24 h; obtain ⟨xs, n, _, rfl, _⟩ := h1; simp)
  | succ N ih =>
    intro fuel cs x hN h
    obtain ⟨xs, n, _, rfl, hl, hlen, hf⟩ := DataW.trod_struct Try.underlying24 h
    rw [cells24] at hl
    have hlen3 : xs.length = 3 := hlen
    obtain ⟨c0, c1, c2, rfl⟩ := length_three hl
    obtain ⟨y0, y1, y2, rfl⟩ := length_three hlen3
    have e0 := hf 0 _ rfl
    have e1 := hf 1 _ rfl
    have e2 := hf 2 _ rfl
    replace e0 : DataW.trod enc Try.prog w base spare held n 3 (([c0, c1, c2].drop 0).take (Try.prog.cellsOf 3)) = some y0 := e0
    replace e1 : DataW.trod enc Try.prog w base spare held n 3 (([c0, c1, c2].drop 1).take (Try.prog.cellsOf 3)) = some y1 := e1
    replace e2 : DataW.trod enc Try.prog w base spare held n 22 (([c0, c1, c2].drop 2).take (Try.prog.cellsOf 22)) = some y2 := e2
    rw [cells3] at e0 e1
    rw [cells22] at e2
    replace e0 : DataW.trod enc Try.prog w base spare held n 3 [c0] = some y0 := e0
    replace e1 : DataW.trod enc Try.prog w base spare held n 3 [c1] = some y1 := e1
    replace e2 : DataW.trod enc Try.prog w base spare held n 22 [c2] = some y2 := e2
    obtain ⟨m0, hm0, _, _⟩ := DataW.trod_int Try.underlying3 e0
    obtain ⟨m1, hm1, _, _⟩ := DataW.trod_int Try.underlying3 e1
    obtain rfl : c0 = .int .i64 m0 := by simpa using hm0
    obtain rfl : c1 = .int .i64 m1 := by simpa using hm1
    rcases Go.Deep.open_slice Try.underlying22 e2 with ⟨hc, _⟩ | ⟨a, len, cap, m, n', D, Pl, hc, hb, hlc, hm, hmm, hy, hall⟩
    · obtain rfl : c2 = .slice none 0 0 := by simpa using hc
      exact ⟨⟨m0, m1, []⟩, Print.k24_mk w ⟨m0, m1, []⟩ (A2 := none) (c2 := 0) (Nat.le_refl _) ⟨rfl, by simp, fun h => absurd h (Nat.lt_irrefl 0)⟩⟩
    · obtain rfl : c2 = .slice (some a) len cap := by simpa using hc
      have hsz : ∀ i, i < len → SizeOf.sizeOf (D i) ≤ N := fun i hi => by
        have h1 : D i ∈ (List.range len).map D := List.mem_map.2 ⟨i, List.mem_range.2 hi, rfl⟩
        have h2 := List.sizeOf_lt_of_mem h1
        rw [hy] at hN
        simp at hN
        omega
      have hlm : len ≤ m := by rw [hmm]; split <;> omega
      obtain ⟨kids, hkl, hk⟩ := list_of (Q := fun i y => ∃ c, c.length = 3 ∧ Print.k24.K w y c ∧ ∀ j u, c[j]? = some u → w.cell? (a.add (i * 3 + j)) = some u) len (fun i hi => by
        obtain ⟨c, h1, h2⟩ := hall i (by omega)
        obtain ⟨y, hyK⟩ := ih n' c _ (hsz i hi) h2
        obtain ⟨_, hcl, hcell⟩ := World.cells?_some h1
        rw [cells24] at hcl hcell
        refine ⟨y, c, hcl, hyK, fun j u hj => ?_⟩
        have hjl : j < 3 := by rw [← hcl]; exact (List.getElem?_eq_some_iff.1 hj).1
        have := (hcell j hjl).trans hj
        rw [← Addr.add_add]
        exact this)
      subst hkl
      exact ⟨⟨m0, m1, kids⟩, Print.k24_mk w ⟨m0, m1, kids⟩ (A2 := some a) (c2 := cap) hlc ⟨rfl, by show kids.length ≤ _; unfold maxLen at hm; omega, fun _ => ⟨a, rfl, fun j p hp => hk j p hp⟩⟩⟩
theorem opens24 : Opens Try.prog Print.k24 24 (fun _ => True) := ⟨cells24, fun H enc w base spare held fuel cs x h _ => by
  obtain ⟨a, ha⟩ := node_opens enc w base spare held _ fuel cs x (Nat.le_refl _) h
  exact ⟨a, ha, trivial⟩⟩
theorem form24 {w : World} {x : Print.S24} {cs : Array Value} (h : Print.k24.K w x cs.toList) : ∃ A c, cs = #[.int .i64 x.f0, .int .i64 x.f1, .slice A x.f2.length c] ∧ x.f2.length ≤ c ∧ Kd.C Print.k24 w A x.f2.length x.f2 := by
  obtain ⟨A, c, hcs, r⟩ := Print.k24_open h
  exact ⟨A, c, by cases cs; simp_all, r⟩
end Go.Proofs.Ytemlgmkbonpniaa.Open
