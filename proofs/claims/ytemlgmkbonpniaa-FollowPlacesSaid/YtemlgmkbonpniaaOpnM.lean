/- How a law's argument of any kind is read, with the limit that the row sets on each row of memory: of every value that the law's guard lets in there is what it says, in the memory as the call finds it. · How a node that comes in is read. -/
import Derived.Test.YtemlgmkbonpniaaPrint0
import Derived.OpenShut
import Derived.ChangeArms
import Derived.Deep.Slices
import Derived.Lib.SmallJoins
import Derived.ChangeSame
import Derived.WideShapes
import Derived.SizedLaws
namespace Go.Proofs.Ytemlgmkbonpniaa.Open
open Go.RowKit Go.ChangeShapes Go.WideShapes Go.ChangeAt Go.Proofs.YtemlgmkbonpniaaW.PrintWords Go.Proofs.YtemlgmkbonpniaaW.PrintLast Go.Proofs.YtemlgmkbonpniaaW.PrintMore
set_option linter.unusedVariables false
set_option linter.unusedSimpArgs false

/-- What reads at type t, with rows that are no larger than they may be, is of kind K, and G holds of it. -/
def Opens {α : Type} (P : Program) (K : Kd α) (t : TypeId) (G : α → Prop) : Prop :=
 P.cellsOf t = K.sz ∧ ∀ (H : Type) (enc : TypeId × Value → H) (w : World) (base : Nat) (spare : Nat → Bool) (held : Bool) (fuel : Nat) (cs : List Value) (x : DataW H × List MemPlace), DataW.trod enc P w base spare held fuel t cs = some x → (∀ n ∈ x.1.weights P t, n ≤ reachBytes) → ∃ a, K.K w a cs ∧ G a

theorem opens_int {P : Program} {t : TypeId} {k : IntKind} (hc : P.cellsOf t = 1) (ht : P.underlying t = some (.int k)) : Opens P (Kd.int k) t (fun n => (Lit.int k n).wf = true) :=
 ⟨hc, fun H enc w base spare held fuel cs x h _ => by obtain ⟨n, rfl, _, hw⟩ := DataW.trod_int ht h; exact ⟨n, rfl, hw⟩⟩
theorem opens_bool {P : Program} {t : TypeId} (hc : P.cellsOf t = 1) (ht : P.underlying t = some .bool) : Opens P Kd.bool t (fun _ => True) :=
 ⟨hc, fun H enc w base spare held fuel cs x h _ => by obtain ⟨b, rfl, _⟩ := DataW.trod_bool ht h; exact ⟨b, rfl, trivial⟩⟩
theorem opens_string {P : Program} {t : TypeId} (hc : P.cellsOf t = 1) (ht : P.underlying t = some .string) : Opens P Kd.string t (fun s => s.size ≤ maxLen) :=
 ⟨hc, fun H enc w base spare held fuel cs x h _ => by obtain ⟨s, rfl, _, hw⟩ := DataW.trod_string ht h; exact ⟨s, rfl, hw⟩⟩

theorem list_of {α : Type} {Q : Nat → α → Prop} : ∀ n : Nat, (∀ i, i < n → ∃ a, Q i a) → ∃ xs : List α, xs.length = n ∧ ∀ i x, xs[i]? = some x → Q i x
 | 0, _ => ⟨[], rfl, fun i x h => by simp at h⟩
 | n + 1, h => by
  obtain ⟨xs, hl, hx⟩ := list_of n (fun i hi => h i (by omega))
  obtain ⟨a, ha⟩ := h n (by omega)
  refine ⟨xs ++ [a], by simp [hl], fun i x hi => ?_⟩
  rcases Nat.lt_or_ge i xs.length with q | q
  ·rw [List.getElem?_append_left q] at hi; exact hx i x hi
  ·rw [List.getElem?_append_right q] at hi
   have : i - xs.length = 0 := by
    rcases Nat.lt_or_ge (i - xs.length) 1 with q2 | q2
    ·omega
    ·rw [List.getElem?_eq_none (by simpa using q2)] at hi; cases hi
   rw [this] at hi
   obtain rfl := Option.some.inj hi
   rw [show i = n from by omega]
   exact ha
theorem weightsAll_mem {H : Type} {P : Program} {e : TypeId} {d : DataW H} : ∀ {l : List (DataW H)}, d ∈ l → ∀ n ∈ d.weights P e, n ∈ DataW.weightsAll P e l
 | x :: l, h, n, hn => by
  rw [DataW.weightsAll, List.mem_append]
  rcases List.mem_cons.1 h with rfl | h
  ·exact .inl hn
  ·exact .inr (weightsAll_mem h n hn)
theorem opens_slice {α : Type} {P : Program} {K : Kd α} {t e e' : TypeId} {G : α → Prop} (hc : P.cellsOf t = 1) (ht : P.underlying t = some (.slice e)) (hK : Opens P K e G) : Opens P (Kd.slice e' K) t (fun xs => (xs.length ≤ maxLen ∧ xs.length * P.bytesOf e ≤ reachBytes) ∧ ∀ x ∈ xs, G x) :=
 ⟨hc, fun H enc w base spare held fuel cs x h hwt => by
  rcases Go.Deep.open_slice ht h with ⟨rfl, _⟩ | ⟨a, len, cap, m, n, D, Pl, rfl, hb, hl, hm, hmm, rfl, hall⟩
  ·exact ⟨[], ⟨none, 0, rfl, Nat.le_refl _, rfl, by simp, fun h => absurd h (Nat.lt_irrefl 0)⟩, by simp, fun x hx => by cases hx⟩
  ·have hlm : len ≤ m := by rw [hmm]; split <;> omega
   have hlen : len * P.bytesOf e ≤ reachBytes := by
    have := hwt ((((List.range len).map D).length + ((List.range (m - len)).map fun j => D (len + j)).length) * P.bytesOf e) (by simp [DataW.weights, ht])
    refine Nat.le_trans (Nat.mul_le_mul_right _ ?_) this
    simp
   have hel : ∀ i, i < len → ∀ n ∈ (D i).weights P e, n ≤ reachBytes := fun i hi n hn => hwt n (by
    rw [DataW.weights, ht]
    refine List.mem_cons_of_mem _ (List.mem_append_left _ (weightsAll_mem (d := D i) (List.mem_map.2 ⟨i, List.mem_range.2 hi, rfl⟩) n hn)))
   obtain ⟨xs, hxl, hx⟩ := list_of (Q := fun i y => G y ∧ ∃ c, c.length = K.sz ∧ K.K w y c ∧ ∀ j u, c[j]? = some u → w.cell? (a.add (i * K.sz + j)) = some u) len (fun i hi => by
    obtain ⟨c, h1, h2⟩ := hall i (by omega)
    obtain ⟨y, hy, hG⟩ := hK.2 H enc w base spare held n c _ h2 (hel i hi)
    obtain ⟨_, hcl, hcell⟩ := World.cells?_some h1
    refine ⟨y, hG, c, K.K_len hy, hy, fun j u hj => ?_⟩
    have hjl : j < P.cellsOf e := by rw [← hcl]; exact (List.getElem?_eq_some_iff.1 hj).1
    have := (hcell j hjl).trans hj
    rw [← hK.1, ← Addr.add_add]
    exact this)
   have hlm63 : len ≤ 9223372036854775807 := by unfold maxLen at hm; omega
   refine ⟨xs, ⟨some a, cap, by rw [hxl], by omega, rfl, by omega, fun _ => ⟨a, rfl, fun j p hp => (hx j p hp).2⟩⟩, ⟨by omega, by rw [hxl]; exact hlen⟩, fun x hx' => ?_⟩
   obtain ⟨i, hi, rfl⟩ := List.getElem_of_mem hx'
   exact (hx i _ (List.getElem?_eq_getElem hi)).1⟩

/-- The fields of a struct, from one on. -/
def OpensF {α : Type} (P : Program) (K : Kd α) (o : Nat) (fs : List Field) (G : α → Prop) : Prop :=
 ∀ (H : Type) (enc : TypeId × Value → H) (w : World) (base : Nat) (spare : Nat → Bool) (held : Bool) (n : Nat) (cs : List Value) (xs : List (DataW H × List MemPlace)), cs.length = o + K.sz → xs.length = fs.length →
  (∀ (i : Nat) (f : Field), fs[i]? = some f → DataW.trod enc P w base spare held n f.type ((cs.drop f.offset).take (P.cellsOf f.type)) = xs[i]?) → (∀ n ∈ DataW.weightsEach P (fs.map Field.type) (xs.map Prod.fst), n ≤ reachBytes) → ∃ a, K.K w a (cs.drop o) ∧ G a
theorem opensF_one {α : Type} {P : Program} {K : Kd α} {f : Field} {o : Nat} {G : α → Prop} (ho : f.offset = o) (h : Opens P K f.type G) : OpensF P K o [f] G := fun H enc w base spare held n cs xs hl hx hf hw => by
 match xs, hx with
 | [x], _ =>
  have e0 := hf 0 f rfl
  rw [ho, h.1, List.take_of_length_le (by rw [List.length_drop]; omega)] at e0
  exact h.2 H enc w base spare held n _ x e0 (fun k hk => hw k (by simpa [DataW.weightsEach] using hk))
theorem opensF_cons {α β : Type} {P : Program} {K : Kd α} {K' : Kd β} {f : Field} {fs : List Field} {o o' : Nat} {G : α → Prop} {G' : β → Prop} (ho : f.offset = o) (ho' : o' = o + K.sz) (h : Opens P K f.type G) (h' : OpensF P K' o' fs G') : OpensF P (Kd.pair K K') o (f :: fs) (fun x => G x.1 ∧ G' x.2) := fun H enc w base spare held n cs xs hl hx hf hw => by
 match xs, hx with
 | x :: xs, hx =>
  have e0 := hf 0 f rfl
  rw [ho, h.1] at e0
  obtain ⟨a, ha, ga⟩ := h.2 H enc w base spare held n _ x e0 (fun k hk => hw k (by simp only [List.map_cons, DataW.weightsEach, List.mem_append]; exact .inl hk))
  have hl' : cs.length = o' + K'.sz := by rw [hl, ho', show (Kd.pair K K').sz = K.sz + K'.sz from rfl]; omega
  obtain ⟨b, hb, gb⟩ := h' H enc w base spare held n cs xs hl' (by simpa using hx) (fun i g hg => by have := hf (i + 1) g hg; simpa using this) (fun k hk => hw k (by simp only [List.map_cons, DataW.weightsEach, List.mem_append]; exact .inr hk))
  refine ⟨(a, b), ⟨_, _, ?_, ha, hb⟩, ga, gb⟩
  rw [ho', ← List.drop_drop, List.take_append_drop]
theorem opens_struct {α : Type} {P : Program} {K : Kd α} {t : TypeId} {fs : Array Field} {G : α → Prop} (ht : P.underlying t = some (.struct fs)) (hc : P.cellsOf t = K.sz) (h : OpensF P K 0 fs.toList G) : Opens P K t G :=
 ⟨hc, fun H enc w base spare held fuel cs x hx hw => by
  obtain ⟨xs, n, _, rfl, hl, hlen, hf⟩ := DataW.trod_struct ht hx
  obtain ⟨a, ha, ga⟩ := h H enc w base spare held n cs xs (by omega) (by simpa using hlen) (fun i f hi => hf i f (by simpa using hi)) (fun k hk => hw k (by simpa [DataW.weights, ht] using hk))
  exact ⟨a, by simpa using ha, ga⟩⟩
theorem opens_array2 {α : Type} {P : Program} {K : Kd α} {t e : TypeId} {G : α → Prop} (ht : P.underlying t = some (.array 2 e)) (hc : P.cellsOf t = (Kd.pair K K).sz) (h : Opens P K e G) : Opens P (Kd.pair K K) t (fun x => G x.1 ∧ G x.2) :=
 ⟨hc, fun H enc w base spare held fuel cs x hx hw => by
  obtain ⟨xs, n, _, rfl, hl, hlen, hf⟩ := DataW.trod_array ht hx
  have hl2 : cs.length = K.sz + K.sz := by rw [hl, hc]; rfl
  match xs, hlen with
  | [y0, y1], _ =>
   have e0 := hf 0 (by omega)
   have e1 := hf 1 (by omega)
   rw [h.1] at e0 e1
   simp only [Nat.zero_mul, List.drop_zero, Nat.one_mul, List.getElem?_cons_zero, List.getElem?_cons_succ] at e0 e1
   obtain ⟨a, ha, ga⟩ := h.2 H enc w base spare held n _ _ e0 (fun k hk => hw k (by simp [DataW.weights, ht, DataW.weightsAll]; exact .inl hk))
   obtain ⟨b, hb, gb⟩ := h.2 H enc w base spare held n _ _ e1 (fun k hk => hw k (by simp [DataW.weights, ht, DataW.weightsAll]; exact .inr hk))
   refine ⟨(a, b), ⟨_, _, ?_, ha, hb⟩, ga, gb⟩
   rw [List.take_of_length_le (l := cs.drop K.sz) (by rw [List.length_drop]; omega), List.take_append_drop]⟩
theorem opens_array3 {α : Type} {P : Program} {K : Kd α} {t e : TypeId} {G : α → Prop} (ht : P.underlying t = some (.array 3 e)) (hc : P.cellsOf t = (Kd.pair K (Kd.pair K K)).sz) (h : Opens P K e G) : Opens P (Kd.pair K (Kd.pair K K)) t (fun x => G x.1 ∧ G x.2.1 ∧ G x.2.2) :=
 ⟨hc, fun H enc w base spare held fuel cs x hx hw => by
  obtain ⟨xs, n, _, rfl, hl, hlen, hf⟩ := DataW.trod_array ht hx
  have hl2 : cs.length = K.sz + (K.sz + K.sz) := by rw [hl, hc]; rfl
  match xs, hlen with
  | [y0, y1, y2], _ =>
   have e0 := hf 0 (by omega)
   have e1 := hf 1 (by omega)
   have e2 := hf 2 (by omega)
   rw [h.1] at e0 e1 e2
   simp only [Nat.zero_mul, List.drop_zero, Nat.one_mul, List.getElem?_cons_zero, List.getElem?_cons_succ] at e0 e1 e2
   obtain ⟨a, ha, ga⟩ := h.2 H enc w base spare held n _ _ e0 (fun k hk => hw k (by simp [DataW.weights, ht, DataW.weightsAll]; exact .inl hk))
   obtain ⟨b, hb, gb⟩ := h.2 H enc w base spare held n _ _ e1 (fun k hk => hw k (by simp [DataW.weights, ht, DataW.weightsAll]; exact .inr (.inl hk)))
   obtain ⟨c, hc, gc⟩ := h.2 H enc w base spare held n _ _ e2 (fun k hk => hw k (by simp [DataW.weights, ht, DataW.weightsAll]; exact .inr (.inr hk)))
   refine ⟨(a, b, c), ⟨_, _, ?_, ha, ⟨_, _, rfl, hb, hc⟩⟩, ga, gb, gc⟩
   rw [List.take_of_length_le (l := cs.drop (2 * K.sz)) (by rw [List.length_drop]; omega), Nat.two_mul, ← List.drop_drop, List.take_append_drop, List.take_append_drop]⟩

theorem opens_iso {α β : Type} {P : Program} {K : Kd α} {t : TypeId} {G : α → Prop} (h : Opens P K t G) (f : β → α) (g : α → β) (hfg : ∀ a, f (g a) = a) : Opens P (Kd.iso K f) t (fun b => G (f b)) :=
 ⟨h.1, fun H enc w base spare held fuel cs x hx hw => by
  obtain ⟨a, ha, ga⟩ := h.2 H enc w base spare held fuel cs x hx hw
  exact ⟨g a, by show K.K w (f (g a)) cs; rw [hfg]; exact ha, by show G (f (g a)); rw [hfg]; exact ga⟩⟩

section
variable {α : Type} {H : Type} {enc : TypeId × Value → H} {P : Program} {w : World} {base : Nat} {spare : Nat → Bool} {held : Bool} {K : Kd α} {G : α → Prop} {t : TypeId} {r : Reach} {b0 : Nat} {v : Value} {d : DataW H} {p : List MemPlace} {ts : List TypeId} {ds : List (DataW H)} {j : Nat}
theorem okWide_arr {n : Nat} {e : TypeId} (ht : P.underlying t = some (.array n e)) (h : Value.okWide P w r b0 t v) : ∃ cs, v = .agg cs ∧ cs.size = P.cellsOf t := by
 simp only [Value.okWide, ht] at h
 obtain ⟨cs, h1, h2, _⟩ := h
 exact ⟨cs, h1, h2⟩
theorem arg_weights (hsz : (DataW.weightsEach P ts ds).all (· ≤ reachBytes) = true) (ht : ts[j]? = some t) (hd : ds[j]? = some d) : ∀ n ∈ d.weights P t, n ≤ reachBytes := fun n hn => by
 have := List.all_eq_true.1 hsz n (DataW.weights_mem_each ht hd n hn)
 simpa using this
/-- A struct by value. -/
theorem arg_struct {fs : Array Field} (hsz : (DataW.weightsEach P ts ds).all (· ≤ reachBytes) = true) (ht : ts[j]? = some t) (hd : ds[j]? = some d) (hs : P.underlying t = some (.struct fs)) (hO : Opens P K t G) (hv : Value.okWide P w r b0 t v) (h : DataW.Trod enc P w base spare held t v d p) : ∃ a cs, v = .agg cs ∧ K.K w a cs.toList ∧ G a := by
 obtain ⟨cs, rfl, _⟩ := okWide_struct hs hv
 obtain ⟨fuel, hf⟩ := h
 obtain ⟨a, ha, hg⟩ := hO.2 H enc w base spare held fuel _ _ hf (arg_weights hsz ht hd)
 exact ⟨a, cs, rfl, ha, hg⟩
/-- An array by value. -/
theorem arg_array {n : Nat} {e : TypeId} (hsz : (DataW.weightsEach P ts ds).all (· ≤ reachBytes) = true) (ht : ts[j]? = some t) (hd : ds[j]? = some d) (hs : P.underlying t = some (.array n e)) (hO : Opens P K t G) (hv : Value.okWide P w r b0 t v) (h : DataW.Trod enc P w base spare held t v d p) : ∃ a cs, v = .agg cs ∧ K.K w a cs.toList ∧ G a := by
 obtain ⟨cs, rfl, _⟩ := okWide_arr hs hv
 obtain ⟨fuel, hf⟩ := h
 obtain ⟨a, ha, hg⟩ := hO.2 H enc w base spare held fuel _ _ hf (arg_weights hsz ht hd)
 exact ⟨a, cs, rfl, ha, hg⟩
/-- A slice. -/
theorem arg_slice {e e' : TypeId} (hsz : (DataW.weightsEach P ts ds).all (· ≤ reachBytes) = true) (ht : ts[j]? = some t) (hd : ds[j]? = some d) (hs : P.underlying t = some (.slice e)) (hc : P.cellsOf t = 1) (hO : Opens P K e G) (hv : Value.okWide P w r b0 t v) (h : DataW.Trod enc P w base spare held t v d p) :
  ∃ xs A c, v = .slice A xs.length c ∧ xs.length ≤ c ∧ Kd.C K w A xs.length xs ∧ (xs.length ≤ maxLen ∧ xs.length * P.bytesOf e ≤ reachBytes) ∧ ∀ x ∈ xs, G x := by
 obtain ⟨a0, l0, c0, rfl⟩ := okWide_slice hs hv
 obtain ⟨fuel, hf⟩ := h
 obtain ⟨xs, ⟨A, c, hcs, hl, hC⟩, hg⟩ := (opens_slice (e' := e') hc hs hO).2 H enc w base spare held fuel _ _ hf (arg_weights hsz ht hd)
 simp [Value.cells] at hcs
 obtain ⟨rfl, rfl, rfl⟩ := hcs
 exact ⟨xs, _, _, rfl, hl, hC, hg⟩
end
end Go.Proofs.Ytemlgmkbonpniaa.Open

namespace Go.Proofs.Ytemlgmkbonpniaa.Open
open Go.RowKit Go.ChangeShapes Go.WideShapes Go.ChangeAt Go.Proofs.YtemlgmkbonpniaaW.PrintWords Go.Proofs.YtemlgmkbonpniaaW.PrintLast Go.Proofs.YtemlgmkbonpniaaW.PrintMore
set_option linter.unusedVariables false
set_option linter.unusedSimpArgs false
theorem cells24 : Try.prog.cellsOf 24 = 3 := by kernel_rfl
theorem cells22 : Try.prog.cellsOf 22 = 1 := by kernel_rfl
theorem cells3 : Try.prog.cellsOf 3 = 1 := by kernel_rfl
theorem length_three {α : Type} {l : List α} (h : l.length = 3) : ∃ a b c, l = [a, b, c] := by
 cases l with
 | nil => cases h
 | cons a l =>
  cases l with
  | nil => cases h
  | cons b l =>
   cases l with
   | nil => cases h
   | cons c l =>
    cases l with
    | nil => exact ⟨a, b, c, rfl⟩
    | cons d l => simp at h
set_option maxRecDepth 100000 in
theorem node_opens {H : Type} (enc : TypeId × Value → H) (w : World) (base : Nat) (spare : Nat → Bool) (held : Bool) : ∀ (N fuel : Nat) (cs : List Value) (x : DataW H × List MemPlace), SizeOf.sizeOf x.1 ≤ N → DataW.trod enc Try.prog w base spare held fuel 24 cs = some x → ∃ a : Print.S24, Print.k24.K w a cs := by
 intro N
 induction N with
 | zero => intro fuel cs x hN h; exact absurd hN (by have h1 := DataW.trod_struct Try.underlying24 h; obtain ⟨xs, n, _, rfl, _⟩ := h1; simp)
 | succ N ih =>
  intro fuel cs x hN h
  obtain ⟨xs, n, _, rfl, hl, hlen, hf⟩ := DataW.trod_struct Try.underlying24 h
  rw [cells24] at hl
  have hlen3 : xs.length = 3 := hlen
  obtain ⟨c0, c1, c2, rfl⟩ := length_three hl
  obtain ⟨y0, y1, y2, rfl⟩ := length_three hlen3
  have e0 := hf 0 _ rfl
  have e1 := hf 1 _ rfl
  have e2 := hf 2 _ rfl
  replace e0 : DataW.trod enc Try.prog w base spare held n 3 (([c0, c1, c2].drop 0).take (Try.prog.cellsOf 3)) = some y0 := e0
  replace e1 : DataW.trod enc Try.prog w base spare held n 3 (([c0, c1, c2].drop 1).take (Try.prog.cellsOf 3)) = some y1 := e1
  replace e2 : DataW.trod enc Try.prog w base spare held n 22 (([c0, c1, c2].drop 2).take (Try.prog.cellsOf 22)) = some y2 := e2
  rw [cells3] at e0 e1
  rw [cells22] at e2
  replace e0 : DataW.trod enc Try.prog w base spare held n 3 [c0] = some y0 := e0
  replace e1 : DataW.trod enc Try.prog w base spare held n 3 [c1] = some y1 := e1
  replace e2 : DataW.trod enc Try.prog w base spare held n 22 [c2] = some y2 := e2
  obtain ⟨m0, hm0, _, _⟩ := DataW.trod_int Try.underlying3 e0
  obtain ⟨m1, hm1, _, _⟩ := DataW.trod_int Try.underlying3 e1
  obtain rfl : c0 = .int .i64 m0 := by simpa using hm0
  obtain rfl : c1 = .int .i64 m1 := by simpa using hm1
  rcases Go.Deep.open_slice Try.underlying22 e2 with ⟨hc, _⟩ | ⟨a, len, cap, m, n', D, Pl, hc, hb, hlc, hm, hmm, hy, hall⟩
  ·obtain rfl : c2 = .slice none 0 0 := by simpa using hc
   exact ⟨⟨m0, m1, []⟩, Print.k24_mk w ⟨m0, m1, []⟩ (A2 := none) (c2 := 0) (Nat.le_refl _) ⟨rfl, by simp, fun h => absurd h (Nat.lt_irrefl 0)⟩⟩
  ·obtain rfl : c2 = .slice (some a) len cap := by simpa using hc
   have hsz : ∀ i, i < len → SizeOf.sizeOf (D i) ≤ N := fun i hi => by
    have h1 : D i ∈ (List.range len).map D := List.mem_map.2 ⟨i, List.mem_range.2 hi, rfl⟩
    have h2 := List.sizeOf_lt_of_mem h1
    rw [hy] at hN
    simp at hN
    omega
   have hlm : len ≤ m := by rw [hmm]; split <;> omega
   obtain ⟨kids, hkl, hk⟩ := list_of (Q := fun i y => ∃ c, c.length = 3 ∧ Print.k24.K w y c ∧ ∀ j u, c[j]? = some u → w.cell? (a.add (i * 3 + j)) = some u) len (fun i hi => by
    obtain ⟨c, h1, h2⟩ := hall i (by omega)
    obtain ⟨y, hyK⟩ := ih n' c _ (hsz i hi) h2
    obtain ⟨_, hcl, hcell⟩ := World.cells?_some h1
    rw [cells24] at hcl hcell
    refine ⟨y, c, hcl, hyK, fun j u hj => ?_⟩
    have hjl : j < 3 := by rw [← hcl]; exact (List.getElem?_eq_some_iff.1 hj).1
    have := (hcell j hjl).trans hj
    rw [← Addr.add_add]
    exact this)
   subst hkl
   exact ⟨⟨m0, m1, kids⟩, Print.k24_mk w ⟨m0, m1, kids⟩ (A2 := some a) (c2 := cap) hlc ⟨rfl, by show kids.length ≤ _; unfold maxLen at hm; omega, fun _ => ⟨a, rfl, fun j p hp => hk j p hp⟩⟩⟩
theorem opens24 : Opens Try.prog Print.k24 24 (fun _ => True) := ⟨cells24, fun H enc w base spare held fuel cs x h _ => by
 obtain ⟨a, ha⟩ := node_opens enc w base spare held _ fuel cs x (Nat.le_refl _) h
 exact ⟨a, ha, trivial⟩⟩
theorem form24 {w : World} {x : Print.S24} {cs : Array Value} (h : Print.k24.K w x cs.toList) : ∃ A c, cs = #[.int .i64 x.f0, .int .i64 x.f1, .slice A x.f2.length c] ∧ x.f2.length ≤ c ∧ Kd.C Print.k24 w A x.f2.length x.f2 := by
 obtain ⟨A, c, hcs, r⟩ := Print.k24_open h
 exact ⟨A, c, by cases cs; simp_all, r⟩
end Go.Proofs.Ytemlgmkbonpniaa.Open
