/- States that are right; what is told apart by a word. -/
import Derived.Test.YtadhjjfodpmelaaLawM
namespace Go.Proofs.Ytadhjjfodpmelaa.Pure
open Go.RowKit Go.Proofs.Ytadhjjfodpmelaa.Print Go.Proofs.YtadhjjfodpmelaaW.PrintWords Go.Proofs.YtadhjjfodpmelaaW.PrintLast
set_option linter.unusedVariables false
set_option linter.unusedSimpArgs false

def fin (b : List Bool) (i : Nat) : Bool := rdOf false b i
def nx (a : List (List Int)) (i c : Nat) : Nat := (rd (rd_L1 a i) c).toNat
/-- Told apart by a word of no more than r classes. -/
def D (a : List (List Int)) (b : List Bool) (m : Nat) : Nat → Nat → Nat → Prop
  | 0, i, k => fin b i ≠ fin b k
  | r + 1, i, k => D a b m r i k ∨ ∃ c, c < m ∧ D a b m r (nx a i c) (nx a k c)
def Told (a : List (List Int)) (b : List Bool) (m : Nat) (i k : Nat) : Prop := ∃ r, D a b m r i k

structure Wf (a : List (List Int)) (b : List Bool) (n m : Nat) : Prop where
  len : a.length = n
  blen : b.length = n
  one : 1 ≤ n
  most : n ≤ 5000
  m1 : 1 ≤ m
  m2 : m ≤ 200
  row : ∀ i, i < n → (rd_L1 a i).length = m
  lo : ∀ i, i < n → ∀ x ∈ rd_L1 a i, 0 ≤ x ∧ x < n

theorem rd_mem {l : List Int} {c : Nat} (h : c < l.length) : rd l c ∈ l := by
  unfold rd
  rw [Int.toNat_natCast, List.getD_eq_getElem?_getD, List.getElem?_eq_getElem h, Option.getD_some]
  exact List.getElem_mem _
theorem wf_of_right {a : List (List Int)} {b : List Bool} (h : rightB a b = true) : Wf a b a.length (rd_L1 a 0).length := by
  unfold rightB at h
  simp only [Bool.and_eq_true, decide_eq_true_eq, Bool.not_eq_true', List.any_eq_false] at h
  obtain ⟨⟨⟨⟨⟨h1, h2⟩, h3⟩, h4⟩, h5⟩, h6⟩ := h
  refine ⟨rfl, h3, h1, h2, h4, h5, fun i hi => ?_, fun i hi x hx => ?_⟩
  · have := h6 _ (mem_rdL1 hi)
    unfold badRow at this
    simp only [Bool.or_eq_true, not_or, bne_iff_ne, ne_eq, Decidable.not_not] at this
    omega
  · have := h6 _ (mem_rdL1 hi)
    unfold badRow at this
    simp only [Bool.or_eq_true, not_or, bne_iff_ne, ne_eq, Decidable.not_not, List.any_eq_true, not_exists, not_and] at this
    have := this.2 x hx
    unfold odd at this
    simp only [Bool.or_eq_true, decide_eq_true_eq, not_or] at this
    omega
theorem Wf.nx {a : List (List Int)} {b : List Bool} {n m i c : Nat} (h : Wf a b n m) (hi : i < n) (hc : c < m) : nx a i c < n ∧ rd (rd_L1 a i) c = (nx a i c : Int) := by
  have := h.lo i hi _ (rd_mem (by rw [h.row i hi]; exact hc))
  unfold Pure.nx
  omega

theorem D_mono {a : List (List Int)} {b : List Bool} {m : Nat} {r s i k : Nat} (h : D a b m r i k) (hs : r ≤ s) : D a b m s i k := by
  induction s with
  | zero => obtain rfl : r = 0 := by omega
            exact h
  | succ s ih =>
    by_cases e : r = s + 1
    · rw [← e]; exact h
    · exact .inl (ih (by omega))
theorem D_symm {a : List (List Int)} {b : List Bool} {m : Nat} : ∀ {r i k : Nat}, D a b m r i k → D a b m r k i
  | 0, _, _, h => fun e => h e.symm
  | r + 1, _, _, h => h.elim (fun h => .inl (D_symm h)) fun ⟨c, hc, h⟩ => .inr ⟨c, hc, D_symm h⟩
end Go.Proofs.Ytadhjjfodpmelaa.Pure
