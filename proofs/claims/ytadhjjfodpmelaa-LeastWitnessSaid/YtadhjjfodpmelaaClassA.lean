/- What least.classes comes to, as plain functions; the key of a state. -/
import Derived.Test.YtadhjjfodpmelaaPrint3
import Derived.Test.YtadhjjfodpmelaaRight
import Derived.Test.YtadhjjfodpmelaaNum
-- NEEDS least_key
namespace Go.Proofs.Ytadhjjfodpmelaa.Print
open Go.RowKit Go.Maps Go.Proofs.YtadhjjfodpmelaaW.PrintWords Go.Proofs.YtadhjjfodpmelaaW.PrintLast Go.Proofs.YtadhjjfodpmelaaW.PrintMore
set_option linter.unusedVariables false
set_option linter.unusedSimpArgs false

def k2 (x : Int) : List Int := [x / 256 % 256, x % 256]
/-- The key of state i: its kind, and those to which it leads. -/
def keyB (kind : List Int) (i : Int) (row : List Int) : ByteArray := strOfNums (k2 (rd kind i) ++ row.flatMap fun s => k2 (rd kind s))
/-- .. as the map reads it. -/
def keyU (kind : List Int) (i : Int) (row : List Int) : List UInt8 := (keyB kind i row).data.toList
/-- The keys that are known ahead of state i, and the numbers of the states ahead of it. -/
def roundUp (kind : List Int) (a : List (List Int)) : Nat → List (List UInt8) × List Int
  | 0 => ([], [])
  | i + 1 => if keyU kind i (rd_L1 a i) ∈ (roundUp kind a i).1 then ((roundUp kind a i).1, (roundUp kind a i).2 ++ [((roundUp kind a i).1.idxOf (keyU kind i (rd_L1 a i)) : Int)])
    else ((roundUp kind a i).1 ++ [keyU kind i (rd_L1 a i)], (roundUp kind a i).2 ++ [((roundUp kind a i).1.length : Int)])
def classesGo (a : List (List Int)) : Nat → List Int → Int → Option (List Int)
  | 0, _, _ => none
  | k + 1, kind, many => if ((roundUp kind a a.length).1.length : Int) = many then some (roundUp kind a a.length).2 else classesGo a k (roundUp kind a a.length).2 ((roundUp kind a a.length).1.length : Int)
def kindUp (b : List Bool) (i : Nat) : List Int := (b.take i).map fun f => if f = true then 1 else 0

theorem roundUp_len (kind : List Int) (a : List (List Int)) : ∀ i, (roundUp kind a i).2.length = i ∧ (roundUp kind a i).1.length ≤ i ∧ (roundUp kind a i).1.Nodup
  | 0 => ⟨rfl, Nat.le_refl _, List.nodup_nil⟩
  | i + 1 => by
    obtain ⟨h1, h2, h3⟩ := roundUp_len kind a i
    rw [roundUp]
    by_cases q : keyU kind i (rd_L1 a i) ∈ (roundUp kind a i).1
    · rw [if_pos q]
      exact ⟨by rw [List.length_append, h1]; rfl, Nat.le_succ_of_le h2, h3⟩
    · rw [if_neg q]
      refine ⟨by rw [List.length_append, h1]; rfl, by rw [List.length_append, List.length_singleton]; omega, ?_⟩
      rw [List.nodup_append]
      exact ⟨h3, by simp, fun x hx y hy => by simp at hy; subst hy; exact fun e => q (e ▸ hx)⟩

theorem wrap_s {i : Nat} (h : i < 9223372036854775807) : wrap64 ((i : Int) + 1) = ((i + 1 : Nat) : Int) := by unfold wrap64; omega

theorem key_l0 (kind row : List Int) (hr : ∀ x ∈ row, 0 ≤ x ∧ x < kind.length) (hl : row.length ≤ 200) : ∀ (c k i : Nat) (acc : List Int), i + c = row.length → c + 1 ≤ k → acc.length ≤ 2 + 2 * i → least_key.l0 k kind acc row row.length i = some (strOfNums (acc ++ (row.drop i).flatMap fun s => k2 (rd kind s)))
  | 0, k, i, acc, hi, hk, ha => by
    obtain ⟨k, rfl⟩ : ∃ m, k = m + 1 := ⟨k - 1, by omega⟩
    rw [least_key.l0, if_neg (by omega), List.drop_eq_nil_of_le (by omega)]
    simp
  | c + 1, k, i, acc, hi, hk, ha => by
    obtain ⟨k, rfl⟩ : ∃ m, k = m + 1 := ⟨k - 1, by omega⟩
    have hd : row.drop i = rd row i :: row.drop (i + 1) := by
      unfold rd
      rw [Int.toNat_natCast, List.getD_eq_getElem?_getD, List.getElem?_eq_getElem (by omega), Option.getD_some]
      exact List.drop_eq_getElem_cons (by omega)
    have hx := hr (rd row i) (by unfold rd; rw [Int.toNat_natCast, List.getD_eq_getElem?_getD, List.getElem?_eq_getElem (by omega), Option.getD_some]; exact List.getElem_mem _)
    rw [least_key.l0, if_pos (by omega), if_pos (by omega), if_pos (by omega), if_pos hx.1, if_pos hx.2, Option.bind_some, if_pos (by simp; omega), wrap_s (by omega),
      key_l0 kind row hr hl c k (i + 1) _ (by omega) (by omega) (by rw [List.length_append]; simp; omega), hd, List.flatMap_cons]
    simp [k2]

theorem key_f (kind row : List Int) (i : Nat) (hi : i < kind.length) (hr : ∀ x ∈ row, 0 ≤ x ∧ x < kind.length) (hl : row.length ≤ 200) : least_key.f 300 kind i row = some (keyB kind i row) := by
  unfold least_key.f keyB
  rw [if_pos (by omega), if_pos (by omega)]
  have := key_l0 kind row hr hl row.length 300 0 (k2 (rd kind i)) (by omega) (by omega) (by simp [k2])
  simpa [k2] using this
theorem keyB_size (kind row : List Int) (i : Int) : (keyB kind i row).size = 2 + 2 * row.length := by
  unfold keyB
  rw [strOfNums_size, List.length_append]
  have : ∀ l : List Int, (l.flatMap fun s => k2 (rd kind s)).length = 2 * l.length := by
    intro l
    induction l with
    | nil => rfl
    | cons x l ih => rw [List.flatMap_cons, List.length_append, ih, List.length_cons]; simp [k2]; omega
  rw [this]
  rfl

def strLit (s : List UInt8) : Lit := .string s
theorem strLit_inj (a b : List UInt8) (h : strLit a = strLit b) : a = b := by
  unfold strLit at h
  injection h
theorem strLit_key (a : List UInt8) : WideAt.IsKeyLit (strLit a) := trivial
theorem law9 : Keyed Try.prog 9 := string_keyed Try.underlying9
theorem zero3 (w : World) : (zeroValue 3).run Try.prog w = .ok (.int .i64 0) w := by kernel_rfl
theorem idx_of {ks : List (List UInt8)} {s : List UInt8} (h : s ∈ ks) : ks[ks.idxOf s]? = some s := by
  rw [List.getElem?_eq_getElem (List.idxOf_lt_length_of_mem h)]
  simp
end Go.Proofs.Ytadhjjfodpmelaa.Print
