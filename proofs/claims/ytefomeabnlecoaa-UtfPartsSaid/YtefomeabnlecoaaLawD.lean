/- Plain law of utf: facts on the units of bytes: how many, where they lie, of which suffix each is, what is told of bytes with a code point ahead. No print of the reference is asked here. -/
import Derived.Test.YtefomeabnlecoaaLawB
import Derived.Test.YtefomeabnlecoaaIdx
import Derived.Test.YtefomeabnlecoaaRunes
namespace Go.Proofs.Ytefomeabnlecoaa.Pure
open Go.RowKit Go.Proofs.Ytefomeabnlecoaa.Print Go.Proofs.YtefomeabnlecoaaW.PrintWords Go.Proofs.YtefomeabnlecoaaW.PrintLast Go.Proofs.YtefomeabnlecoaaW.PrintMore
set_option linter.unusedVariables false
set_option linter.unusedSimpArgs false

theorem isBytes_of {l : List Int} (h : ∀ x ∈ l, (Lit.int .u8 x).wf = true) : IsBytes l := fun x hx => by
  have := h x hx
  simp [Lit.wf, IntKind.min, IntKind.max, IntKind.bits, IntKind.signed] at this
  omega

theorem unitsFrom_len (l : List Int) : ∀ (k : Nat) (p : Int), (unitsFrom l k p).length ≤ k
  | 0, _ => Nat.le_refl _
  | k + 1, p => by
    unfold unitsFrom
    split
    · simp only [List.length_cons]; have := unitsFrom_len l k (p + (unitAt l p).f2); omega
    · simp
theorem units_len (l : List Int) : (units l).length ≤ l.length := unitsFrom_len l _ _

theorem unit_f2 (l : List Int) (hl : IsBytes l) (p : Int) (h : p < l.length) : 1 ≤ (unitAt l p).f2 ∧ (unitAt l p).f2 ≤ 4 ∧ p + (unitAt l p).f2 ≤ l.length :=
  unitAt_f2 l p (rd_byte hl p).1 (rd_byte hl p).2 h

theorem unitsFrom_fuel (l : List Int) (hl : IsBytes l) : ∀ (k k' : Nat) (p : Int), (l.length : Int) - p ≤ k → (l.length : Int) - p ≤ k' → unitsFrom l k p = unitsFrom l k' p
  | 0, 0, _, _, _ => rfl
  | 0, k' + 1, p, h, _ => by simp only [unitsFrom]; rw [if_neg (by omega)]
  | k + 1, 0, p, _, h => by simp only [unitsFrom]; rw [if_neg (by omega)]
  | k + 1, k' + 1, p, h, h' => by
    unfold unitsFrom
    by_cases q : p < l.length
    · rw [if_pos q, if_pos q]
      have := unit_f2 l hl p q
      rw [unitsFrom_fuel l hl k k' _ (by omega) (by omega)]
    · rw [if_neg q, if_neg q]

/-- The units from p on. -/
def from_ (l : List Int) (p : Int) : List S35 := unitsFrom l l.length p
theorem from_step (l : List Int) (hl : IsBytes l) (p : Int) (h0 : 0 ≤ p) (h : p < l.length) : from_ l p = unitAt l p :: from_ l (p + (unitAt l p).f2) := by
  have h2 := unit_f2 l hl p h
  unfold from_
  rw [unitsFrom_fuel l hl l.length (l.length + 1) p (by omega) (by omega), unitsFrom, if_pos h]
theorem from_end (l : List Int) (p : Int) (h : ¬ p < l.length) : from_ l p = [] := by
  unfold from_
  cases hk : l.length with
  | zero => rfl
  | succ k => rw [unitsFrom, if_neg h]
theorem units_from (l : List Int) : units l = from_ l 0 := rfl

/-- The units of bytes, without their places. -/
def decs : Nat → List Int → List (Int × Int × Bool)
  | 0, _ => []
  | k + 1, s => if 0 < s.length then ((dec s).f0, (dec s).f2, (dec s).f3) :: decs k (s.drop (dec s).f2.toNat) else []

def bare (u : S35) : Int × Int × Bool := (u.f0, u.f2, u.f3)

theorem bare_from (l : List Int) (hl : IsBytes l) : ∀ (k p : Nat), p ≤ l.length → (unitsFrom l k p).map bare = decs k (l.drop p)
  | 0, _, _ => rfl
  | k + 1, p, hp => by
    unfold unitsFrom decs
    by_cases q : (p : Int) < l.length
    · have h2 := unit_f2 l hl p q
      rw [if_pos q, if_pos (by rw [List.length_drop]; omega), List.map_cons]
      have e : unitAt l p = ⟨(dec (l.drop p)).f0, p, (dec (l.drop p)).f2, (dec (l.drop p)).f3⟩ := unitAt_dec l p hp
      have e2 : (unitAt l p).f2 = (dec (l.drop p)).f2 := by rw [e]
      rw [e2] at h2
      have ih := bare_from l hl k (p + (dec (l.drop p)).f2.toNat) (by omega)
      rw [e2, show (p : Int) + (dec (l.drop p)).f2 = ((p + (dec (l.drop p)).f2.toNat : Nat) : Int) from by omega, ih, List.drop_drop]
      congr 1
      · rw [e]; rfl
    · rw [if_neg q, if_neg (by rw [List.length_drop]; omega)]
      rfl

theorem dec_f2 (s : List Int) (hs : IsBytes s) (h : 0 < s.length) : 1 ≤ (dec s).f2 ∧ (dec s).f2 ≤ 4 ∧ (dec s).f2 ≤ s.length := by
  have := unit_f2 s hs 0 (by omega)
  unfold dec
  omega

theorem decs_fuel : ∀ (k k' : Nat) (s : List Int), IsBytes s → s.length ≤ k → s.length ≤ k' → decs k s = decs k' s
  | 0, 0, _, _, _, _ => rfl
  | 0, k' + 1, s, _, h, _ => by simp only [decs]; rw [if_neg (by omega)]
  | k + 1, 0, s, _, _, h => by simp only [decs]; rw [if_neg (by omega)]
  | k + 1, k' + 1, s, hs, h, h' => by
    unfold decs
    by_cases q : 0 < s.length
    · have := dec_f2 s hs q
      rw [if_pos q, if_pos q, decs_fuel k k' _ (hs.drop _) (by rw [List.length_drop]; omega) (by rw [List.length_drop]; omega)]
    · rw [if_neg q, if_neg q]

/-- All of them. -/
def all_ (s : List Int) : List (Int × Int × Bool) := decs s.length s
theorem bare_units (l : List Int) (hl : IsBytes l) : (units l).map bare = all_ l := by
  have := bare_from l hl l.length 0 (by omega)
  rwa [List.drop_zero] at this

theorem bytesOf_pos (r : Int) : 0 < (bytesOf r).length := by have := bytesOf_len r; have := wid_bounds r; omega

/-- A code point ahead is told ahead. -/
theorem all_cons (r : Int) (t : List Int) (hr : cp r = true) (ht : IsBytes t) : all_ (bytesOf r ++ t) = (r, wid r, false) :: all_ t := by
  have hb : Begins (bytesOf r ++ t) r := ⟨hr, by rw [List.take_left]⟩
  have hp := bytesOf_pos r
  have hw := bytesOf_len r
  unfold all_
  rw [show (bytesOf r ++ t).length = (t.length + ((bytesOf r).length - 1)) + 1 from by rw [List.length_append]; omega, decs, if_pos (by rw [List.length_append]; omega), dec_of hb]
  simp only
  rw [show (wid r).toNat = (bytesOf r).length from by omega, List.drop_left]
  rw [decs_fuel _ t.length t ht (by omega) (Nat.le_refl _)]

theorem runesOf_bare (xs : List S35) : runesOf xs = (xs.map bare).map fun x => x.1 := by
  unfold runesOf; rw [List.map_map]; rfl
theorem noBad_bare (xs : List S35) : noBad xs = (xs.map bare).all fun x => !x.2.2 := by
  unfold noBad; rw [List.all_map]; rfl

/-- The bytes of code points. -/
def bytesAll (l : List Int) : List Int := l.flatMap bytesOf
theorem bytesAll_bytes {l : List Int} (h : ∀ r ∈ l, cp r = true) : IsBytes (bytesAll l) := fun x hx => by
  unfold bytesAll at hx
  obtain ⟨r, hr, hx⟩ := List.mem_flatMap.1 hx
  exact bytesOf_bytes (h r hr) x hx
theorem IsBytes.append {a b : List Int} (ha : IsBytes a) (hb : IsBytes b) : IsBytes (a ++ b) := fun x hx => (List.mem_append.1 hx).elim (ha x) (hb x)

theorem all_app : ∀ (l t : List Int), (∀ r ∈ l, cp r = true) → IsBytes t → all_ (bytesAll l ++ t) = (l.map fun r => (r, wid r, false)) ++ all_ t
  | [], t, _, _ => rfl
  | r :: l, t, h, ht => by
    have hl : ∀ r ∈ l, cp r = true := fun x hx => h x (by simp [hx])
    show all_ ((bytesOf r ++ bytesAll l) ++ t) = _
    rw [List.append_assoc, all_cons r _ (h r (by simp)) ((bytesAll_bytes hl).append ht), all_app l t hl ht]
    rfl

theorem bytesAll_len (l : List Int) : (bytesAll l).length ≤ 4 * l.length := by
  induction l with
  | nil => simp [bytesAll]
  | cons r l ih =>
    have := bytesOf_len r
    have := wid_bounds r
    show (bytesOf r ++ bytesAll l).length ≤ _
    rw [List.length_append, List.length_cons]
    omega

/-- What Text comes to. -/
def textOf (l : List Int) : List Int × Int := if l.all cp = true then (bytesAll l, 0) else ([], 1)

theorem runes_f {l : List Int} (hl : IsBytes l) (hn : l.length ≤ 100000) : utf_Runes.f l = some (runesOf (units l)) := by
  unfold utf_Runes.f
  have := units_len l
  rw [if_pos ⟨fun i _ => rd_byte hl i, by omega⟩]
theorem decode_f {l : List Int} (hl : IsBytes l) (hn : l.length ≤ 100000) : utf_Decode.f l = some (units l) := by
  unfold utf_Decode.f
  have := units_len l
  rw [if_pos ⟨fun i _ => rd_byte hl i, by omega⟩]
theorem valid_f {l : List Int} (hl : IsBytes l) : utf_Valid.f l = some (noBad (units l)) := by
  unfold utf_Valid.f
  rw [if_pos (fun (i : Nat) _ => rd_byte hl i)]

end Go.Proofs.Ytefomeabnlecoaa.Pure
