/- Plain law of utf: a unit of the program is good just where a code point's bytes begin there; the same of the reference's; so the units are the same. -/
import Derived.Test.YtefomeabnlecoaaLawA
import Derived.Lib.Bytes
namespace Go.Proofs.Ytefomeabnlecoaa.Pure
open Go.RowKit Go.Proofs.Ytefomeabnlecoaa.Print Go.Proofs.YtefomeabnlecoaaW.PrintWords Go.Proofs.YtefomeabnlecoaaW.PrintLast Go.Proofs.YtefomeabnlecoaaW.PrintMore
set_option linter.unusedVariables false
set_option linter.unusedSimpArgs false

def IsBytes (s : List Int) : Prop := ∀ x ∈ s, 0 ≤ x ∧ x ≤ 255
theorem IsBytes.drop {s : List Int} (h : IsBytes s) (k : Nat) : IsBytes (s.drop k) := fun x hx => h x (List.mem_of_mem_drop hx)
theorem IsBytes.take {s : List Int} (h : IsBytes s) (k : Nat) : IsBytes (s.take k) := fun x hx => h x (List.mem_of_mem_take hx)

theorem text_eq (a : List Int) : (strOfNums a).toList = a.map fun n => UInt8.ofNat n.toNat := by rw [Lib.toList_data]; rfl
theorem text_inj : ∀ {a b : List Int}, IsBytes a → IsBytes b → (strOfNums a).toList = (strOfNums b).toList → a = b := by
  intro a b ha hb h
  rw [text_eq, text_eq] at h
  induction a generalizing b with
  | nil => cases b with
    | nil => rfl
    | cons y b => simp at h
  | cons x a ih => cases b with
    | nil => simp at h
    | cons y b =>
      simp only [List.map_cons, List.cons.injEq] at h
      have hx := ha x (by simp)
      have hy := hb y (by simp)
      have e : x = y := by
        have := congrArg UInt8.toNat h.1
        simp only [UInt8.toNat_ofNat'] at this
        omega
      rw [e, ih (fun z hz => ha z (by simp [hz])) (fun z hz => hb z (by simp [hz])) h.2]

theorem cp_of {r : Int} (h : cp r = true) : 0 ≤ r ∧ r ≤ 1114111 ∧ (r < 55296 ∨ 57343 < r) := by simpa [cp] using h

theorem bytesOf_bytes {r : Int} (h : cp r = true) : IsBytes (bytesOf r) := by
  obtain ⟨h0, h1, h2⟩ := cp_of h
  unfold bytesOf
  intro x hx
  split at hx
  · simp at hx; omega
  split at hx
  · simp at hx; omega
  split at hx
  · simp at hx; omega
  · simp at hx; omega

theorem bytesOf_len (r : Int) : ((bytesOf r).length : Int) = wid r := by
  unfold bytesOf wid
  split
  · rfl
  split
  · rfl
  split <;> rfl

theorem wid_bounds (r : Int) : 1 ≤ wid r ∧ wid r ≤ 4 := by
  unfold wid
  split
  · omega
  split
  · omega
  split <;> omega

/-! ### the program's -/

theorem rd_drop (l : List Int) (k : Nat) (i : Int) (hi : 0 ≤ i) : rd (l.drop k) i = rd l ((k : Int) + i) := by
  unfold rd
  rw [show ((k : Int) + i).toNat = k + i.toNat from by omega]
  simp [List.getD_eq_getElem?_getD, List.getElem?_drop]

theorem goes_drop (l : List Int) (p : Nat) : ∀ (k : Nat) (i n r : Int), 0 ≤ i → goes (l.drop p) 0 k i n r = goes l p k i n r
  | 0, _, _, _, _ => rfl
  | k + 1, i, n, r, hi => by
    unfold goes
    rw [rd_drop l p (0 + i) (by omega), show (p : Int) + (0 + i) = p + i from by omega, goes_drop l p k (i + 1) n _ (by omega)]

theorem scanned_drop (l : List Int) (p : Nat) (h : p ≤ l.length) : scanned (l.drop p) 0 = scanned l p := by
  unfold scanned
  simp only
  rw [rd_drop l p 0 (by omega), show (p : Int) + 0 = p from by omega, List.length_drop, goes_drop l p _ _ _ _ (by omega)]
  rw [show ((l.length - p : Nat) : Int) - 0 = (l.length : Int) - p from by omega]

/-- The unit with which bytes begin. -/
def dec (s : List Int) : S35 := unitAt s 0

theorem unitAt_dec (l : List Int) (p : Nat) (h : p ≤ l.length) : unitAt l p = ⟨(dec (l.drop p)).f0, p, (dec (l.drop p)).f2, (dec (l.drop p)).f3⟩ := by
  unfold dec unitAt
  simp only [scanned_drop l p h]
  split <;> rfl

theorem goes0 (s : List Int) (r : Int) : goes s 0 4 1 0 r = (0, r) := by simp [goes]
theorem goes1 (s : List Int) (r : Int) : goes s 0 4 1 1 r = (1, r) := by simp [goes]
theorem goes2 (s : List Int) (r : Int) : goes s 0 4 1 2 r = if 128 ≤ rd s 1 ∧ rd s 1 < 192 then (2, r * 64 + rd s 1 % 64) else (0, r) := by
  simp [goes]
theorem goes3 (s : List Int) (r : Int) : goes s 0 4 1 3 r = if 128 ≤ rd s 1 ∧ rd s 1 < 192 then (if 128 ≤ rd s 2 ∧ rd s 2 < 192 then (3, (r * 64 + rd s 1 % 64) * 64 + rd s 2 % 64) else (0, r * 64 + rd s 1 % 64)) else (0, r) := by
  simp [goes]
theorem goes4 (s : List Int) (r : Int) : goes s 0 4 1 4 r = if 128 ≤ rd s 1 ∧ rd s 1 < 192 then (if 128 ≤ rd s 2 ∧ rd s 2 < 192 then (if 128 ≤ rd s 3 ∧ rd s 3 < 192 then (4, ((r * 64 + rd s 1 % 64) * 64 + rd s 2 % 64) * 64 + rd s 3 % 64) else (0, (r * 64 + rd s 1 % 64) * 64 + rd s 2 % 64)) else (0, r * 64 + rd s 1 % 64)) else (0, r) := by
  simp [goes]

theorem take1 (s : List Int) (h : 1 ≤ s.length) : s.take 1 = [rd s 0] := by
  match s, h with
  | a :: s, _ => simp [rd]
theorem take2 (s : List Int) (h : 2 ≤ s.length) : s.take 2 = [rd s 0, rd s 1] := by
  match s, h with
  | a :: b :: s, _ => simp [rd]
theorem take3 (s : List Int) (h : 3 ≤ s.length) : s.take 3 = [rd s 0, rd s 1, rd s 2] := by
  match s, h with
  | a :: b :: c :: s, _ => simp [rd]
theorem take4 (s : List Int) (h : 4 ≤ s.length) : s.take 4 = [rd s 0, rd s 1, rd s 2, rd s 3] := by
  match s, h with
  | a :: b :: c :: d :: s, _ => simp [rd]

theorem rd_byte {s : List Int} (hs : IsBytes s) (i : Int) : 0 ≤ rd s i ∧ rd s i ≤ 255 := by
  unfold rd
  by_cases h : i.toNat < s.length
  · rw [List.getD_eq_getElem?_getD, List.getElem?_eq_getElem h]
    exact hs _ (List.getElem_mem h)
  · rw [List.getD_eq_getElem?_getD, List.getElem?_eq_none (by omega)]
    exact ⟨by decide, by decide⟩

theorem wid_2 {r : Int} (h : wid r = 2) : 128 ≤ r ∧ r < 2048 := by
  unfold wid at h
  split at h
  · omega
  split at h
  · omega
  split at h <;> omega
theorem wid_3 {r : Int} (h : wid r = 3) : 2048 ≤ r ∧ r < 65536 := by
  unfold wid at h
  split at h
  · omega
  split at h
  · omega
  split at h <;> omega
theorem wid_4 {r : Int} (h : wid r = 4) : 65536 ≤ r := by
  unfold wid at h
  split at h
  · omega
  split at h
  · omega
  split at h <;> omega

theorem bytesOf_1 {r : Int} (h : r < 128) : bytesOf r = [r] := by unfold bytesOf; rw [if_pos h]
theorem bytesOf_2 {r : Int} (h : 128 ≤ r) (h' : r < 2048) : bytesOf r = [192 + r / 64, 128 + r % 64] := by unfold bytesOf; rw [if_neg (by omega), if_pos h']
theorem bytesOf_3 {r : Int} (h : 2048 ≤ r) (h' : r < 65536) : bytesOf r = [224 + r / 4096, 128 + r / 64 % 64, 128 + r % 64] := by unfold bytesOf; rw [if_neg (by omega), if_neg (by omega), if_pos h']
theorem bytesOf_4 {r : Int} (h : 65536 ≤ r) : bytesOf r = [240 + r / 262144, 128 + r / 4096 % 64, 128 + r / 64 % 64, 128 + r % 64] := by unfold bytesOf; rw [if_neg (by omega), if_neg (by omega), if_neg (by omega)]

theorem lead_1 {c : Int} (h : c < 128) : lead c = (1, c) := by unfold lead; rw [if_pos h]
theorem lead_2 {c : Int} (h : 194 ≤ c) (h' : c < 224) : lead c = (2, c % 32) := by unfold lead; rw [if_neg (by omega), if_pos ⟨h, h'⟩]
theorem lead_3 {c : Int} (h : 224 ≤ c) (h' : c < 240) : lead c = (3, c % 16) := by unfold lead; rw [if_neg (by omega), if_neg (by omega), if_pos ⟨h, h'⟩]
theorem lead_4 {c : Int} (h : 240 ≤ c) (h' : c < 245) : lead c = (4, c % 8) := by unfold lead; rw [if_neg (by omega), if_neg (by omega), if_neg (by omega), if_pos ⟨h, h'⟩]
theorem lead_0 {c : Int} (h : 128 ≤ c) (h' : c < 194 ∨ 245 ≤ c) : lead c = (0, c) := by unfold lead; rw [if_neg (by omega), if_neg (by omega), if_neg (by omega), if_neg (by omega)]

/-- What is scanned is n bytes that are r's, where r has n bytes. -/
theorem scanned_good (s : List Int) (hs : IsBytes s) (h0 : 0 < s.length) (n r : Int) (h : scanned s 0 = (n, r)) (hz : n ≠ 0) (hw : wid r = n) :
    s.take (bytesOf r).length = bytesOf r ∧ wid r ≤ s.length := by
  have b0 := rd_byte hs 0
  have b1 := rd_byte hs 1
  have b2 := rd_byte hs 2
  have b3 := rd_byte hs 3
  unfold scanned at h
  simp only at h
  by_cases k1 : rd s 0 < 128
  · rw [lead_1 k1] at h
    simp only at h
    rw [if_neg (by omega), goes1] at h
    obtain ⟨rfl, rfl⟩ := Prod.mk.inj h
    rw [bytesOf_1 k1]
    exact ⟨take1 s h0, by omega⟩
  by_cases k2 : 194 ≤ rd s 0 ∧ rd s 0 < 224
  · rw [lead_2 k2.1 k2.2] at h
    simp only at h
    by_cases hl : 2 > (s.length : Int) - 0
    · rw [if_pos hl, goes0] at h; exact absurd (Prod.mk.inj h).1.symm hz
    rw [if_neg hl, goes2] at h
    by_cases q1 : 128 ≤ rd s 1 ∧ rd s 1 < 192
    · rw [if_pos q1] at h
      obtain ⟨rfl, rfl⟩ := Prod.mk.inj h
      obtain ⟨w1, w2⟩ := wid_2 hw
      rw [bytesOf_2 w1 w2]
      refine ⟨?_, by omega⟩
      show s.take 2 = _
      rw [take2 s (by omega)]
      congr 1
      · omega
      · congr 1; omega
    · rw [if_neg q1] at h; exact absurd (Prod.mk.inj h).1.symm hz
  by_cases k3 : 224 ≤ rd s 0 ∧ rd s 0 < 240
  · rw [lead_3 k3.1 k3.2] at h
    simp only at h
    by_cases hl : 3 > (s.length : Int) - 0
    · rw [if_pos hl, goes0] at h; exact absurd (Prod.mk.inj h).1.symm hz
    rw [if_neg hl, goes3] at h
    by_cases q1 : 128 ≤ rd s 1 ∧ rd s 1 < 192
    · rw [if_pos q1] at h
      by_cases q2 : 128 ≤ rd s 2 ∧ rd s 2 < 192
      · rw [if_pos q2] at h
        obtain ⟨rfl, rfl⟩ := Prod.mk.inj h
        obtain ⟨w1, w2⟩ := wid_3 hw
        rw [bytesOf_3 w1 w2]
        refine ⟨?_, by omega⟩
        show s.take 3 = _
        rw [take3 s (by omega)]
        congr 1
        · omega
        congr 1
        · omega
        congr 1
        omega
      · rw [if_neg q2] at h; exact absurd (Prod.mk.inj h).1.symm hz
    · rw [if_neg q1] at h; exact absurd (Prod.mk.inj h).1.symm hz
  by_cases k4 : 240 ≤ rd s 0 ∧ rd s 0 < 245
  · rw [lead_4 k4.1 k4.2] at h
    simp only at h
    by_cases hl : 4 > (s.length : Int) - 0
    · rw [if_pos hl, goes0] at h; exact absurd (Prod.mk.inj h).1.symm hz
    rw [if_neg hl, goes4] at h
    by_cases q1 : 128 ≤ rd s 1 ∧ rd s 1 < 192
    · rw [if_pos q1] at h
      by_cases q2 : 128 ≤ rd s 2 ∧ rd s 2 < 192
      · rw [if_pos q2] at h
        by_cases q3 : 128 ≤ rd s 3 ∧ rd s 3 < 192
        · rw [if_pos q3] at h
          obtain ⟨rfl, rfl⟩ := Prod.mk.inj h
          have w1 := wid_4 hw
          rw [bytesOf_4 w1]
          refine ⟨?_, by omega⟩
          show s.take 4 = _
          rw [take4 s (by omega)]
          congr 1
          · omega
          congr 1
          · omega
          congr 1
          · omega
          congr 1
          omega
        · rw [if_neg q3] at h; exact absurd (Prod.mk.inj h).1.symm hz
      · rw [if_neg q2] at h; exact absurd (Prod.mk.inj h).1.symm hz
    · rw [if_neg q1] at h; exact absurd (Prod.mk.inj h).1.symm hz
  · rw [lead_0 (by omega) (by omega)] at h
    simp only at h
    rw [if_neg (by omega), goes0] at h
    exact absurd (Prod.mk.inj h).1.symm hz

theorem rd_app (a t : List Int) (i : Nat) (x : Int) (h : a[i]? = some x) : rd (a ++ t) i = x := by
  unfold rd
  have hl := (List.getElem?_eq_some_iff.1 h).1
  rw [Int.toNat_natCast, List.getD_eq_getElem?_getD, List.getElem?_append_left hl, h]
  rfl

/-- Where a code point's bytes begin, just these are scanned. -/
theorem scanned_of (r : Int) (t : List Int) (hr : cp r = true) : scanned (bytesOf r ++ t) 0 = (wid r, r) := by
  obtain ⟨h0, h1, _⟩ := cp_of hr
  unfold scanned
  simp only
  by_cases k1 : r < 128
  · rw [bytesOf_1 k1, show rd ([r] ++ t) 0 = r from rd_app [r] t 0 r rfl, lead_1 k1]
    simp only [List.length_append, List.length_cons, List.length_nil]
    rw [if_neg (by omega), goes1]
    unfold wid; rw [if_pos k1]
  by_cases k2 : r < 2048
  · have e0 := rd_app [192 + r / 64, 128 + r % 64] t 0 _ rfl
    have e1 := rd_app [192 + r / 64, 128 + r % 64] t 1 _ rfl
    rw [bytesOf_2 (by omega) k2, show (0 : Int) = ((0 : Nat) : Int) from rfl, e0, lead_2 (by omega) (by omega)]
    simp only [List.length_append, List.length_cons, List.length_nil]
    rw [if_neg (by omega)]
    show goes _ 0 4 1 2 _ = _
    rw [goes2, show (1 : Int) = ((1 : Nat) : Int) from rfl, e1, if_pos (by omega)]
    unfold wid; rw [if_neg k1, if_pos k2]
    congr 1
    omega
  by_cases k3 : r < 65536
  · have e0 := rd_app [224 + r / 4096, 128 + r / 64 % 64, 128 + r % 64] t 0 _ rfl
    have e1 := rd_app [224 + r / 4096, 128 + r / 64 % 64, 128 + r % 64] t 1 _ rfl
    have e2 := rd_app [224 + r / 4096, 128 + r / 64 % 64, 128 + r % 64] t 2 _ rfl
    rw [bytesOf_3 (by omega) k3, show (0 : Int) = ((0 : Nat) : Int) from rfl, e0, lead_3 (by omega) (by omega)]
    simp only [List.length_append, List.length_cons, List.length_nil]
    rw [if_neg (by omega)]
    show goes _ 0 4 1 3 _ = _
    rw [goes3, show (1 : Int) = ((1 : Nat) : Int) from rfl, show (2 : Int) = ((2 : Nat) : Int) from rfl, e1, e2, if_pos (by omega), if_pos (by omega)]
    unfold wid; rw [if_neg k1, if_neg k2, if_pos k3]
    congr 1
    omega
  · have e0 := rd_app [240 + r / 262144, 128 + r / 4096 % 64, 128 + r / 64 % 64, 128 + r % 64] t 0 _ rfl
    have e1 := rd_app [240 + r / 262144, 128 + r / 4096 % 64, 128 + r / 64 % 64, 128 + r % 64] t 1 _ rfl
    have e2 := rd_app [240 + r / 262144, 128 + r / 4096 % 64, 128 + r / 64 % 64, 128 + r % 64] t 2 _ rfl
    have e3 := rd_app [240 + r / 262144, 128 + r / 4096 % 64, 128 + r / 64 % 64, 128 + r % 64] t 3 _ rfl
    rw [bytesOf_4 (by omega), show (0 : Int) = ((0 : Nat) : Int) from rfl, e0, lead_4 (by omega) (by omega)]
    simp only [List.length_append, List.length_cons, List.length_nil]
    rw [if_neg (by omega)]
    show goes _ 0 4 1 4 _ = _
    rw [goes4, show (1 : Int) = ((1 : Nat) : Int) from rfl, show (2 : Int) = ((2 : Nat) : Int) from rfl, show (3 : Int) = ((3 : Nat) : Int) from rfl, e1, e2, e3, if_pos (by omega), if_pos (by omega), if_pos (by omega)]
    unfold wid; rw [if_neg k1, if_neg k2, if_neg k3]
    congr 1
    omega

/-! ### what a unit is -/

/-- s begins with r's bytes. -/
def Begins (s : List Int) (r : Int) : Prop := cp r = true ∧ s.take (bytesOf r).length = bytesOf r

theorem Begins.form {s : List Int} {r : Int} (h : Begins s r) : s = bytesOf r ++ s.drop (bytesOf r).length := by
  conv => lhs; rw [← List.take_append_drop (bytesOf r).length s, h.2]

theorem wid_ne (r : Int) : wid r ≠ 0 := by have := wid_bounds r; omega

theorem dec_of {s : List Int} {r : Int} (h : Begins s r) : dec s = ⟨r, 0, wid r, false⟩ := by
  unfold dec unitAt
  simp only
  rw [h.form, scanned_of r _ h.1, if_neg (by simp [h.1, wid_ne])]

theorem dec_good (s : List Int) (hs : IsBytes s) (h0 : 0 < s.length) (h : (dec s).f3 = false) : Begins s (dec s).f0 := by
  by_cases hu : (scanned s 0).1 = 0 ∨ cp (scanned s 0).2 = false ∨ wid (scanned s 0).2 ≠ (scanned s 0).1
  · unfold dec unitAt at h
    simp only at h
    rw [if_pos hu] at h
    cases h
  have hd : dec s = ⟨(scanned s 0).2, 0, (scanned s 0).1, false⟩ := by
    unfold dec unitAt
    simp only
    rw [if_neg hu]
  have hcp : cp (scanned s 0).2 = true := by
    cases hc : cp (scanned s 0).2 with
    | true => rfl
    | false => exact absurd (.inr (.inl hc)) hu
  have hw : wid (scanned s 0).2 = (scanned s 0).1 := Classical.byContradiction fun hn => hu (.inr (.inr hn))
  have hz : (scanned s 0).1 ≠ 0 := fun hn => hu (.inl hn)
  rw [hd]
  exact ⟨hcp, (scanned_good s hs h0 _ _ rfl hz hw).1⟩

theorem dec_bad (s : List Int) (h : (dec s).f3 = true) : dec s = ⟨65533, 0, 1, true⟩ := by
  unfold dec unitAt at h ⊢
  simp only at h ⊢
  split at h
  · rename_i hu; rw [if_pos hu]
  · cases h

/-- Of two that a list begins with there is one. -/
theorem Begins.unique {s : List Int} {r r' : Int} (h : Begins s r) (h' : Begins s r') : r = r' := by
  have := (dec_of h).symm.trans (dec_of h')
  exact (S35.mk.inj this).1

end Go.Proofs.Ytefomeabnlecoaa.Pure
