/- Plain law of utf: the units of bytes as a function on lists (what units$1 yields), and the facts on it that its walk wants. No Go here. -/
import Derived.Test.YtefomeabnlecoaaPrint0
namespace Go.Proofs.Ytefomeabnlecoaa.Print
open Go.RowKit Go.Proofs.YtefomeabnlecoaaW.PrintWords Go.Proofs.YtefomeabnlecoaaW.PrintLast Go.Proofs.YtefomeabnlecoaaW.PrintMore

/-- Is it a code point? -/
def cp (r : Int) : Bool := decide (0 ≤ r ∧ r ≤ 1114111 ∧ (r < 55296 ∨ 57343 < r))
/-- How many bytes a code point has. -/
def wid (r : Int) : Int := if r < 128 then 1 else if r < 2048 then 2 else if r < 65536 then 3 else 4

/-- What the first byte tells: how many bytes (0: none), and its bits. -/
def lead (c : Int) : Int × Int :=
  if c < 128 then (1, c) else if 194 ≤ c ∧ c < 224 then (2, c % 32) else if 224 ≤ c ∧ c < 240 then (3, c % 16) else if 240 ≤ c ∧ c < 245 then (4, c % 8) else (0, c)

/-- The bytes behind the first one: i of n are read, r is what they told. -/
def goes (l : List Int) (at_ : Int) : Nat → Int → Int → Int → Int × Int
  | 0, _, n, r => (n, r)
  | k + 1, i, n, r => if i < n then (if 128 ≤ rd l (at_ + i) ∧ rd l (at_ + i) < 192 then goes l at_ k (i + 1) n (r * 64 + rd l (at_ + i) % 64) else (0, r)) else (n, r)

/-- n and r behind the inner loop. -/
def scanned (l : List Int) (at_ : Int) : Int × Int :=
  let p := lead (rd l at_)
  goes l at_ 4 1 (if p.1 > (l.length : Int) - at_ then 0 else p.1) p.2

/-- The unit that begins at at_. -/
def unitAt (l : List Int) (at_ : Int) : S35 :=
  let p := scanned l at_
  if p.1 = 0 ∨ cp p.2 = false ∨ wid p.2 ≠ p.1 then ⟨65533, at_, 1, true⟩ else ⟨p.2, at_, p.1, false⟩

/-- The units from at_ on. -/
def unitsFrom (l : List Int) : Nat → Int → List S35
  | 0, _ => []
  | k + 1, at_ => if at_ < (l.length : Int) then unitAt l at_ :: unitsFrom l k (at_ + (unitAt l at_).f2) else []

def units (l : List Int) : List S35 := unitsFrom l l.length 0

theorem lead_bounds (c : Int) (h0 : 0 ≤ c) (h1 : c ≤ 255) : 0 ≤ (lead c).1 ∧ (lead c).1 ≤ 4 ∧ 0 ≤ (lead c).2 ∧ (lead c).2 ≤ 255 := by
  unfold lead
  by_cases a : c < 128
  · rw [if_pos a]; exact ⟨by simp, by simp, h0, h1⟩
  rw [if_neg a]
  by_cases b : 194 ≤ c ∧ c < 224
  · rw [if_pos b]; exact ⟨by simp, by simp, by simp; omega, by simp; omega⟩
  rw [if_neg b]
  by_cases d : 224 ≤ c ∧ c < 240
  · rw [if_pos d]; exact ⟨by simp, by simp, by simp; omega, by simp; omega⟩
  rw [if_neg d]
  by_cases e : 240 ≤ c ∧ c < 245
  · rw [if_pos e]; exact ⟨by simp, by simp, by simp; omega, by simp; omega⟩
  rw [if_neg e]; exact ⟨by simp, by simp, h0, h1⟩

theorem goes_n (l : List Int) (at_ : Int) : ∀ (k : Nat) (i n r : Int), (goes l at_ k i n r).1 = n ∨ (goes l at_ k i n r).1 = 0
  | 0, i, n, r => .inl rfl
  | k + 1, i, n, r => by
    unfold goes
    by_cases a : i < n
    · rw [if_pos a]
      by_cases b : 128 ≤ rd l (at_ + i) ∧ rd l (at_ + i) < 192
      · rw [if_pos b]; exact goes_n l at_ k _ _ _
      · rw [if_neg b]; exact .inr rfl
    · rw [if_neg a]; exact .inl rfl

theorem scanned_n (l : List Int) (at_ : Int) (h0 : 0 ≤ rd l at_) (h1 : rd l at_ ≤ 255) (ha : at_ < (l.length : Int)) : 0 ≤ (scanned l at_).1 ∧ (scanned l at_).1 ≤ 4 ∧ (scanned l at_).1 ≤ (l.length : Int) - at_ := by
  have hb := lead_bounds _ h0 h1
  unfold scanned
  simp only
  by_cases c : (lead (rd l at_)).1 > (l.length : Int) - at_
  · rw [if_pos c]
    rcases goes_n l at_ 4 1 0 (lead (rd l at_)).2 with h | h <;> rw [h] <;> omega
  · rw [if_neg c]
    rcases goes_n l at_ 4 1 (lead (rd l at_)).1 (lead (rd l at_)).2 with h | h <;> rw [h] <;> omega

theorem unitAt_f1 (l : List Int) (at_ : Int) : (unitAt l at_).f1 = at_ := by
  unfold unitAt
  simp only
  split <;> rfl

/-- A unit has one to four bytes, all of them there. -/
theorem unitAt_f2 (l : List Int) (at_ : Int) (h0 : 0 ≤ rd l at_) (h1 : rd l at_ ≤ 255) (ha : at_ < (l.length : Int)) : 1 ≤ (unitAt l at_).f2 ∧ (unitAt l at_).f2 ≤ 4 ∧ at_ + (unitAt l at_).f2 ≤ (l.length : Int) := by
  have := scanned_n l at_ h0 h1 ha
  unfold unitAt
  simp only
  split
  · simp; omega
  · simp; omega

end Go.Proofs.Ytefomeabnlecoaa.Print
