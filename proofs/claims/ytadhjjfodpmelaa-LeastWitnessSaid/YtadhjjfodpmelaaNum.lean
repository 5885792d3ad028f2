/- A map that numbers keys as they are met: which keys are in it, at which number, and how many. -/
import Derived.Test.YtadhjjfodpmelaaPrint0
import Derived.Maps.OwnSet
import Derived.Maps.OwnOps
namespace Go.Proofs.Ytadhjjfodpmelaa.Print
open Go.RowKit Go.Maps Go.Proofs.YtadhjjfodpmelaaW.PrintWords Go.Proofs.YtadhjjfodpmelaaW.PrintLast Go.Proofs.YtadhjjfodpmelaaW.PrintMore
set_option linter.unusedVariables false

/-- Block B numbers the keys ks, in their order, from 0 on. -/
def NumMap {κ : Type} (lit : κ → Lit) (P : Program) (K E : TypeId) (W : World) (B : Nat) (ks : List κ) : Prop :=
  ∃ D : DataW Unit, W.ownsMap P K (plainElem P E) B ks.length D ∧ (∀ s, Maps.has D (lit s) = true ↔ s ∈ ks) ∧ (∀ (i : Nat) (s : κ), ks[i]? = some s → D.atKey (lit s) (.lit (.int .i64 0)) = .lit (.int .i64 i)) ∧ Maps.size D = ks.length

section
variable {κ : Type} {lit : κ → Lit} {P : Program} {K E : TypeId} {W W' : World} {B : Nat} {ks : List κ}

theorem NumMap.made (W : World) (lit : κ → Lit) (P : Program) (K E : TypeId) : NumMap lit P K E (W.alloc (.map #[] 0)) W.heap.size ([] : List κ) :=
  ⟨.map [], World.ownsMap_made W P K _, fun s => by simp [Maps.has], fun i s h => by simp at h, rfl⟩
theorem NumMap.kept {row : Option Nat} (h : NumMap lit P K E W B ks) (hg : W.grownBy W' row) (hne : some B ≠ row) : NumMap lit P K E W' B ks := by
  obtain ⟨D, h1, h2⟩ := h
  exact ⟨D, h1.kept hg hne, h2⟩
theorem NumMap.alloc (h : NumMap lit P K E W B ks) (o : Obj) : NumMap lit P K E (W.alloc o) B ks := h.kept (World.grownBy_alloc W o none) (by simp)
theorem NumMap.lt (h : NumMap lit P K E W B ks) : B < W.heap.size := by obtain ⟨D, h1, _⟩ := h; exact h1.lt
/-- A new key. -/
theorem NumMap.snoc {D : DataW Unit} {s : κ} (law : Keyed P K) (hinj : ∀ a b, lit a = lit b → a = b) (hlit : ∀ a, WideAt.IsKeyLit (lit a)) (hs : s ∉ ks)
    (hD : W.ownsMap P K (plainElem P E) B ks.length D) (h2 : ∀ s, Maps.has D (lit s) = true ↔ s ∈ ks) (h3 : ∀ (i : Nat) (s : κ), ks[i]? = some s → D.atKey (lit s) (.lit (.int .i64 0)) = .lit (.int .i64 i)) (h4 : Maps.size D = ks.length)
    (hW : W'.ownsMap P K (plainElem P E) B (ks.length + 1) (D.put (lit s) (.lit (.int .i64 ks.length)))) : NumMap lit P K E W' B (ks ++ [s]) := by
  have ht := hD.tidy law
  refine ⟨_, by rw [List.length_append, List.length_singleton]; exact hW, fun x => ?_, fun i x hx => ?_, ?_⟩
  · by_cases e : x = s
    · subst e
      rw [has_put_same ht.isMap (hlit x)]
      simp
    · rw [has_put_other (fun h => e (hinj _ _ h)), h2]
      simp [e]
  · rcases Nat.lt_or_ge i ks.length with hi | hi
    · rw [List.getElem?_append_left hi] at hx
      have hne : x ≠ s := fun e => hs (by rw [← e]; exact List.mem_of_getElem? hx)
      rw [atKey_put_other (fun h => hne (hinj _ _ h))]
      exact h3 i x hx
    · rw [List.getElem?_append_right hi] at hx
      have hz : i - ks.length = 0 := by
        rcases Nat.lt_or_ge (i - ks.length) 1 with q | q
        · omega
        · rw [List.getElem?_eq_none (by simpa using q)] at hx; cases hx
      rw [hz] at hx
      obtain rfl := Option.some.inj hx
      rw [atKey_put_same ht.isMap (hlit s), show i = ks.length from by omega]
  · rw [size_put ht, if_neg (fun h => hs ((h2 s).1 h)), h4, List.length_append, List.length_singleton]
end
end Go.Proofs.Ytadhjjfodpmelaa.Print
