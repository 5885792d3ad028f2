/- How a law's argument of any kind is read: of every value that the law's guard lets in there is what it says, in the memory as the call finds it. -/
import Derived.Test.YtjpbcmfppmiagaaPrint0
import Derived.OpenShut
import Derived.ChangeArms
import Derived.Deep.Slices
import Derived.Lib.SmallJoins
import Derived.ChangeSame
import Derived.WideShapes
namespace Go.Proofs.Ytjpbcmfppmiagaa.Open
open Go.RowKit Go.ChangeShapes Go.WideShapes Go.ChangeAt Go.Proofs.YtjpbcmfppmiagaaW.PrintWords Go.Proofs.YtjpbcmfppmiagaaW.PrintLast Go.Proofs.YtjpbcmfppmiagaaW.PrintMore
set_option linter.unusedVariables false
set_option linter.unusedSimpArgs false

/-- What reads at type t is of kind K, and G holds of it. -/
def Opens {α : Type} (P : Program) (K : Kd α) (t : TypeId) (G : α → Prop) : Prop :=
  P.cellsOf t = K.sz ∧ ∀ (H : Type) (enc : TypeId × Value → H) (w : World) (base : Nat) (spare : Nat → Bool) (held : Bool) (fuel : Nat) (cs : List Value) (x : DataW H × List MemPlace), DataW.trod enc P w base spare held fuel t cs = some x → ∃ a, K.K w a cs ∧ G a

theorem opens_int {P : Program} {t : TypeId} {k : IntKind} (hc : P.cellsOf t = 1) (ht : P.underlying t = some (.int k)) : Opens P (Kd.int k) t (fun n => (Lit.int k n).wf = true) :=
  ⟨hc, fun H enc w base spare held fuel cs x h => by obtain ⟨n, rfl, _, hw⟩ := DataW.trod_int ht h; exact ⟨n, rfl, hw⟩⟩
theorem opens_bool {P : Program} {t : TypeId} (hc : P.cellsOf t = 1) (ht : P.underlying t = some .bool) : Opens P Kd.bool t (fun _ => True) :=
  ⟨hc, fun H enc w base spare held fuel cs x h => by obtain ⟨b, rfl, _⟩ := DataW.trod_bool ht h; exact ⟨b, rfl, trivial⟩⟩
theorem opens_string {P : Program} {t : TypeId} (hc : P.cellsOf t = 1) (ht : P.underlying t = some .string) : Opens P Kd.string t (fun s => s.size ≤ maxLen) :=
  ⟨hc, fun H enc w base spare held fuel cs x h => by obtain ⟨s, rfl, _, hw⟩ := DataW.trod_string ht h; exact ⟨s, rfl, hw⟩⟩

theorem list_of {α : Type} {Q : Nat → α → Prop} : ∀ n : Nat, (∀ i, i < n → ∃ a, Q i a) → ∃ xs : List α, xs.length = n ∧ ∀ i x, xs[i]? = some x → Q i x
  | 0, _ => ⟨[], rfl, fun i x h => by simp at h⟩
  | n + 1, h => by
    obtain ⟨xs, hl, hx⟩ := list_of n (fun i hi => h i (by omega))
    obtain ⟨a, ha⟩ := h n (by omega)
    refine ⟨xs ++ [a], by simp [hl], fun i x hi => ?_⟩
    rcases Nat.lt_or_ge i xs.length with q | q
    · rw [List.getElem?_append_left q] at hi; exact hx i x hi
    · rw [List.getElem?_append_right q] at hi
      have : i - xs.length = 0 := by
        rcases Nat.lt_or_ge (i - xs.length) 1 with q2 | q2
        · omega
        · rw [List.getElem?_eq_none (by simpa using q2)] at hi; cases hi
      rw [this] at hi
      obtain rfl := Option.some.inj hi
      rw [show i = n from by omega]
      exact ha

theorem opens_slice {α : Type} {P : Program} {K : Kd α} {t e e' : TypeId} {G : α → Prop} (hc : P.cellsOf t = 1) (ht : P.underlying t = some (.slice e)) (hK : Opens P K e G) : Opens P (Kd.slice e' K) t (fun xs => xs.length ≤ maxLen ∧ ∀ x ∈ xs, G x) :=
  ⟨hc, fun H enc w base spare held fuel cs x h => by
    rcases Go.Deep.open_slice ht h with ⟨rfl, _⟩ | ⟨a, len, cap, m, n, D, Pl, rfl, hb, hl, hm, hmm, _, hall⟩
    · exact ⟨[], ⟨none, 0, rfl, Nat.le_refl _, rfl, by simp, fun h => absurd h (Nat.lt_irrefl 0)⟩, by simp, fun x hx => by cases hx⟩
    · have hlm : len ≤ m := by rw [hmm]; split <;> omega
      obtain ⟨xs, hxl, hx⟩ := list_of (Q := fun i y => G y ∧ ∃ c, c.length = K.sz ∧ K.K w y c ∧ ∀ j u, c[j]? = some u → w.cell? (a.add (i * K.sz + j)) = some u) len (fun i hi => by
        obtain ⟨c, h1, h2⟩ := hall i (by omega)
        obtain ⟨y, hy, hG⟩ := hK.2 H enc w base spare held n c _ h2
        obtain ⟨_, hcl, hcell⟩ := World.cells?_some h1
        refine ⟨y, hG, c, K.K_len hy, hy, fun j u hj => ?_⟩
        have hjl : j < P.cellsOf e := by rw [← hcl]; exact (List.getElem?_eq_some_iff.1 hj).1
        have := (hcell j hjl).trans hj
        rw [← hK.1, ← Addr.add_add]
        exact this)
      have hlm63 : len ≤ 9223372036854775807 := by unfold maxLen at hm; omega
      refine ⟨xs, ⟨some a, cap, by rw [hxl], by omega, rfl, by omega, fun _ => ⟨a, rfl, fun j p hp => (hx j p hp).2⟩⟩, by omega, fun x hx' => ?_⟩
      obtain ⟨i, hi, rfl⟩ := List.getElem_of_mem hx'
      exact (hx i _ (List.getElem?_eq_getElem hi)).1⟩

theorem opens_struct2 {α β : Type} {P : Program} {K0 : Kd α} {K1 : Kd β} {t : TypeId} {f0 f1 : Field} {G0 : α → Prop} {G1 : β → Prop} (ht : P.underlying t = some (.struct #[f0, f1])) (o0 : f0.offset = 0) (o1 : f1.offset = K0.sz) (hc : P.cellsOf t = K0.sz + K1.sz)
    (h0 : Opens P K0 f0.type G0) (h1 : Opens P K1 f1.type G1) : Opens P (Kd.pair K0 K1) t (fun x => G0 x.1 ∧ G1 x.2) :=
  ⟨hc, fun H enc w base spare held fuel cs x h => by
    obtain ⟨y0, y1, n, _, hl, e0, e1⟩ := trod_struct2 ht h
    rw [o0, List.drop_zero, h0.1] at e0
    rw [o1, h1.1] at e1
    obtain ⟨a, ha, ga⟩ := h0.2 H enc w base spare held n _ _ e0
    obtain ⟨b, hb, gb⟩ := h1.2 H enc w base spare held n _ _ e1
    refine ⟨(a, b), ⟨_, _, ?_, ha, hb⟩, ga, gb⟩
    rw [List.take_of_length_le (i := K1.sz) (by rw [List.length_drop]; omega), List.take_append_drop]⟩

theorem opens_iso {α β : Type} {P : Program} {K : Kd α} {t : TypeId} {G : α → Prop} (h : Opens P K t G) (f : β → α) (g : α → β) (hfg : ∀ a, f (g a) = a) : Opens P (Kd.iso K f) t (fun b => G (f b)) :=
  ⟨h.1, fun H enc w base spare held fuel cs x hx => by
    obtain ⟨a, ha, ga⟩ := h.2 H enc w base spare held fuel cs x hx
    exact ⟨g a, by show K.K w (f (g a)) cs; rw [hfg]; exact ha, by show G (f (g a)); rw [hfg]; exact ga⟩⟩

section
variable {α : Type} {H : Type} {enc : TypeId × Value → H} {P : Program} {w : World} {base : Nat} {spare : Nat → Bool} {held : Bool} {K : Kd α} {G : α → Prop} {t : TypeId} {r : Reach} {b0 : Nat} {v : Value} {d : DataW H} {p : List MemPlace}
/-- A struct by value. -/
theorem arg_struct {fs : Array Field} (hs : P.underlying t = some (.struct fs)) (hO : Opens P K t G) (hv : Value.okWide P w r b0 t v) (h : DataW.Trod enc P w base spare held t v d p) : ∃ a cs, v = .agg cs ∧ K.K w a cs.toList ∧ G a := by
  obtain ⟨cs, rfl, _⟩ := okWide_struct hs hv
  obtain ⟨fuel, hf⟩ := h
  obtain ⟨a, ha, hg⟩ := hO.2 H enc w base spare held fuel _ _ hf
  exact ⟨a, cs, rfl, ha, hg⟩
/-- A slice. -/
theorem arg_slice {e e' : TypeId} (hs : P.underlying t = some (.slice e)) (hc : P.cellsOf t = 1) (hO : Opens P K e G) (hv : Value.okWide P w r b0 t v) (h : DataW.Trod enc P w base spare held t v d p) :
    ∃ xs A c, v = .slice A xs.length c ∧ xs.length ≤ c ∧ Kd.C K w A xs.length xs ∧ xs.length ≤ maxLen ∧ ∀ x ∈ xs, G x := by
  obtain ⟨a0, l0, c0, rfl⟩ := okWide_slice hs hv
  obtain ⟨fuel, hf⟩ := h
  obtain ⟨xs, ⟨A, c, hcs, hl, hC⟩, hg⟩ := (opens_slice (e' := e') hc hs hO).2 H enc w base spare held fuel _ _ hf
  simp [Value.cells] at hcs
  obtain ⟨rfl, rfl, rfl⟩ := hcs
  exact ⟨xs, _, _, rfl, hl, hC, hg⟩
end
end Go.Proofs.Ytjpbcmfppmiagaa.Open
