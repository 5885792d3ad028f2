/- subset.Right: it tells what the plain function rightD tells. -/
import Derived.Test.YtemlgmkbonpniaaRAftM
import Derived.Shelf.Abstract
namespace Go.Proofs.Ytemlgmkbonpniaa.Print
open Go.Shelf Go.RowKit Go.Maps Go.Proofs.YtemlgmkbonpniaaW.PrintWords Go.Proofs.YtemlgmkbonpniaaW.PrintLast Go.Proofs.YtemlgmkbonpniaaW.PrintMore
set_option linter.unusedVariables false
set_option linter.unusedSimpArgs false
namespace SR
theorem store_func (P : Program) (w : World) (a : Addr) (m : Mode) (fn : Fn) (first captured : Array Value) : (store a (.func fn first captured) m).run P w = stored P w a (.func fn first captured) m := run_store P w a _ m rfl
attribute [local go_sem] store_func
theorem take_one {xs : List Int} {i : Nat} (h : i < xs.length) : xs.take (i + 1) = xs.take i ++ [rd xs (i : Int)] := by
 unfold rd
 rw [Int.toNat_natCast, List.take_succ_eq_append_getElem h, List.getD_eq_getElem?_getD, List.getElem?_eq_getElem h]
 rfl
theorem rd_mem {xs : List Int} {i : Nat} (h : i < xs.length) : rd xs (i : Int) ∈ xs := by
 unfold rd
 rw [Int.toNat_natCast, List.getD_eq_getElem?_getD, List.getElem?_eq_getElem h]
 exact List.getElem_mem _
/-- No state. -/
def oddS (n : Nat) (s : Int) : Bool := decide (s < 0) || decide ((n : Int) ≤ s)
def badS (n c : Nat) (row : List Int) : Bool := decide (row.length ≠ c) || row.any (oddS n)
set_option maxHeartbeats 8000000 in
set_option maxRecDepth 100000 in
theorem odd64 (n : Nat) (s : Int) (NB : Nat) (W : World) (h0 : W.cell? ⟨NB, 0, none⟩ = some (.int .i64 (n : Int))) :
  Calls Try.prog 64 #[.int .i64 s, .pointer (some ⟨NB, 0, none⟩)] W fun e w' => e = .returned (.bool (oddS n s)) ∧ Below W.heap.size W w' := by
 unfold oddS
 by_cases q : s < 0
 ·have f1 : decide (s < 0) = true := decide_eq_true q
  go_enter Try.func64, Try.ntmps64
  go_wp2_with fail
  go_ret
  exact ⟨by simp [q], Below.refl _ _⟩
 ·have f1 : decide (s < 0) = false := decide_eq_false q
  go_enter Try.func64, Try.ntmps64
  go_wp2_with fail
  go_ret
  exact ⟨by simp [q], Below.refl _ _⟩

/-- What is asked of the closure: it tells p, wherever what lies below b0 is as it was. -/
def Tells64 (b0 : Nat) (W : World) (lb1 : Value) (xs : List Int) (p : Int → Bool) : Prop := ∀ (w : World) (t : Int), t ∈ xs → Below b0 W w → Calls Try.prog 64 #[.int .i64 t, lb1] w fun e w' => e = .returned (.bool (p t)) ∧ Below w.heap.size w w'
set_option maxHeartbeats 16000000 in
set_option maxRecDepth 100000 in
theorem sindex_calls {b0 : Nat} (W : World) (A : Option Addr) (c : Nat) (xs : List Int) (p : Int → Bool) (lb1 : Value) (hC : Kd.C (Kd.int .i64) W A xs.length xs) (hT : Tells64 b0 W lb1 xs p) (hb0 : b0 ≤ W.heap.size) (hl : xs.length < 1000000) :
  Calls Try.prog 81 #[.slice A xs.length c, .func (.func 64) #[] #[lb1]] W fun e w' => Below W.heap.size W w' ∧ ((e = .returned (.int .i64 (-1)) ∧ ∀ t ∈ xs, p t = false) ∨ ∃ i : Nat, i < xs.length ∧ e = .returned (.int .i64 (i : Int)) ∧ p (rd xs (i : Int)) = true ∧ ∀ t ∈ xs.take i, p t = false) := by
 have eg : ∀ args w, (callFunc 64 args).run Try.prog w = .ok (.enter 64 args) w := enters_of Try.func64 (by kernel_rfl) rfl
 have HC := Aside0.mk hC
 have HT := Aside0.mk hT
 have HB0 := Aside0.mk hb0
 have HL := Aside0.mk hl
 clear hC hT hb0 hl
 go_enter Try.func81, Try.ntmps81
 go_wp2
 go_loopg [8] xs.length (fun kq v8 w' => ∃ i : Nat, v8 = .int .i64 (i : Int) ∧ Aside0 (i + kq = xs.length) ∧ Aside0 (∀ t ∈ xs.take i, p t = false) ∧ Aside0 (Below W.heap.size W w'))
 case atStart => exact ⟨0, rfl, ⟨Nat.zero_add _⟩, ⟨fun y hy => by cases hy⟩, ⟨Below.refl _ _⟩⟩
 case round =>
  obtain ⟨i, rfl, HK, HALL, HB2⟩ := hrel
  by_cases q0 : gk = 0
  ·have f1 : ¬ i < xs.length := by have := HK.out; omega
   have f2 : decide ((i : Int) < (xs.length : Int)) = false := decide_eq_false (by omega)
   have HE := Aside0.mk (show ∀ t ∈ xs, p t = false by
    have h := HALL.out
    rw [List.take_of_length_le (by omega)] at h
    exact h)
   clear q0
   go_wp2_with fail
   go_ret
   exact ⟨HB2.out, .inl ⟨rfl, HE.out⟩⟩
  ·have HQ := Aside0.mk q0
   clear q0
   have HIL := Aside0.mk (show i < xs.length by have := HK.out; have := HQ.out; omega)
   obtain ⟨ad, eA, hx⟩ := Kd.at_int (Kd.C_below HC.out HB2.out) (i : Int) (Int.natCast_nonneg i) (by have := HIL.out; omega)
   rw [Int.toNat_natCast] at hx
   subst eA
   obtain ⟨t, ht⟩ : ∃ t, t = rd xs (i : Int) := ⟨_, rfl⟩
   rw [← ht] at hx
   have HTD := Aside0.mk ht
   have HMEM := Aside0.mk (show t ∈ xs by rw [ht]; exact rd_mem HIL.out)
   clear ht
   have HCL := Aside0.mk (HT.out wr t HMEM.out (HB2.out.mono HB0.out))
   have f1 : i < xs.length := HIL.out
   have f2 : decide ((i : Int) < (xs.length : Int)) = true := decide_eq_true (by omega)
   have f3 : 0 ≤ (i : Int) := Int.natCast_nonneg i
   go_wp2_with fail
   refine HCL.out.mono ?_
   rintro e W2 ⟨rfl, hb2⟩
   have HB3 := Aside0.mk (HB2.out.trans (hb2.mono HB2.out.size))
   clear hb2 hx
   cases hb : p t
   case true =>
    have HPT := Aside0.mk hb
    clear hb
    go_wp2_with fail
    go_ret
    exact ⟨HB3.out, .inr ⟨i, HIL.out, rfl, by rw [← HTD.out]; exact HPT.out, HALL.out⟩⟩
   case false =>
    have HPT := Aside0.mk hb
    clear hb
    go_wp2_with fail
    go_roundg (gk - 1)
    case measure => have := HQ.out; omega
    case rel =>
     refine ⟨i + 1, by rw [show wrap64 ((i : Int) + 1) = ((i + 1 : Nat) : Int) by have := HIL.out; have := HL.out; unfold wrap64; omega], ⟨by have := HK.out; have := HQ.out; omega⟩, ⟨fun y hy => ?_⟩, HB3⟩
     rw [take_one HIL.out, ← HTD.out] at hy
     rcases List.mem_append.1 hy with hy | hy
     ·exact HALL.out y hy
     ·rw [List.mem_singleton.1 hy]; exact HPT.out

theorem scont_calls {b0 : Nat} (W : World) (A : Option Addr) (c : Nat) (xs : List Int) (p : Int → Bool) (lb1 : Value) (hC : Kd.C (Kd.int .i64) W A xs.length xs) (hT : Tells64 b0 W lb1 xs p) (hb0 : b0 ≤ W.heap.size) (hl : xs.length < 1000000) :
  Calls Try.prog 55 #[.slice A xs.length c, .func (.func 64) #[] #[lb1]] W fun e w' => e = .returned (.bool (xs.any p)) ∧ Below W.heap.size W w' := by
 have HI := Aside0.mk (sindex_calls W A c xs p lb1 hC hT hb0 hl)
 clear hC hT hb0 hl
 go_enter Try.func55, Try.ntmps55
 go_wp2_with (go_at_call 81; refine HI.out.mono ?_; rintro e W2 ⟨hb, he⟩; have HB := Aside0.mk hb; have HE := Aside0.mk he; clear hb he; obtain ⟨r, hr, hany⟩ : ∃ r : Int, e = .returned (.int .i64 r) ∧ decide (r ≥ 0) = xs.any p := (by
  rcases HE.out with ⟨rfl, hall⟩ | ⟨i, hi, rfl, hp, _⟩
  ·exact ⟨_, rfl, by rw [List.any_eq_false.2 (fun t ht => by rw [hall t ht]; simp)]; rfl⟩
  ·exact ⟨_, rfl, by rw [List.any_eq_true.2 ⟨_, rd_mem hi, hp⟩]; exact decide_eq_true (Int.natCast_nonneg i)⟩); have HAN := Aside0.mk hany; clear HE hany; subst hr)
 go_ret
 rw [← HAN.out]
 exact ⟨rfl, HB.out⟩
set_option maxHeartbeats 8000000 in
set_option maxRecDepth 100000 in
theorem bad65 (n c : Nat) (hc : c ≤ 200) (row : List Int) (A : Option Addr) (ca : Nat) (NB CB OB : Nat) (W : World) (hn : W.cell? ⟨NB, 0, none⟩ = some (.int .i64 (n : Int))) (h1 : W.cell? ⟨CB, 0, none⟩ = some (.int .i64 (c : Int))) (h2 : W.cell? ⟨OB, 0, none⟩ = some (.func (.func 64) #[] #[.pointer (some ⟨NB, 0, none⟩)])) (hC : Kd.C (Kd.int .i64) W A row.length row) (hca : row.length ≤ ca) :
  Calls Try.prog 65 #[.slice A row.length ca, .pointer (some ⟨CB, 0, none⟩), .pointer (some ⟨OB, 0, none⟩)] W fun e w' => e = .returned (.bool (badS n c row)) ∧ Below W.heap.size W w' := by
 have HLL := Aside0.mk (hC.2.1 : row.length ≤ 9223372036854775807)
 unfold badS
 by_cases q : row.length = c
 ·have HS := Aside0.mk (scont_calls (b0 := W.heap.size) W A ca row (oddS n) (.pointer (some ⟨NB, 0, none⟩)) hC (fun w t ht hb => odd64 n t NB w (cell_keep hb hn)) (Nat.le_refl _) (by omega))
  have f1 : ((row.length : Int) != (c : Int)) = false := bne_eq_false_iff_eq.2 (by omega)
  have HQ := Aside0.mk q
  clear q hC hca hn hc
  go_enter Try.func65, Try.ntmps65
  go_wp2_with (go_at_call 55; refine HS.out.mono ?_; rintro e W2 ⟨rfl, hb⟩; have HB := Aside0.mk hb; clear hb)
  go_ret
  exact ⟨by simp [HQ.out], HB.out⟩
 ·have f1 : ((row.length : Int) != (c : Int)) = true := bne_iff_ne.2 (by omega)
  have HQ := Aside0.mk q
  clear q hC hca hn hc
  go_enter Try.func65, Try.ntmps65
  go_wp2_with fail
  go_ret
  exact ⟨by simp [HQ.out], Below.refl _ _⟩

/-- What is asked of the closure: it tells p, wherever what lies below b0 is as it was. -/
def Tells65 (b0 : Nat) (W : World) (lb1 lb2 : Value) (xs : List (List Int)) (p : List Int → Bool) : Prop := ∀ (w : World) (t : List Int) (A : Option Addr) (c : Nat), t ∈ xs → Below b0 W w → Kd.C (Kd.int .i64) w A t.length t → t.length ≤ c → Calls Try.prog 65 #[.slice A t.length c, lb1, lb2] w fun e w' => e = .returned (.bool (p t)) ∧ Below w.heap.size w w'
set_option maxHeartbeats 16000000 in
set_option maxRecDepth 100000 in
theorem rindex_calls {b0 : Nat} (W : World) (A : Option Addr) (c : Nat) (xs : List (List Int)) (p : List Int → Bool) (lb1 lb2 : Value) (hC : Kd.C (Kd.slice 3 (Kd.int .i64)) W A xs.length xs) (hT : Tells65 b0 W lb1 lb2 xs p) (hb0 : b0 ≤ W.heap.size) (hl : xs.length < 1000000) :
  Calls Try.prog 87 #[.slice A xs.length c, .func (.func 65) #[] #[lb1, lb2]] W fun e w' => Below W.heap.size W w' ∧ ((e = .returned (.int .i64 (-1)) ∧ ∀ t ∈ xs, p t = false) ∨ ∃ i : Nat, i < xs.length ∧ e = .returned (.int .i64 (i : Int)) ∧ p (rd_L3 xs (i : Int)) = true ∧ ∀ t ∈ xs.take i, p t = false) := by
 have eg : ∀ args w, (callFunc 65 args).run Try.prog w = .ok (.enter 65 args) w := enters_of Try.func65 (by kernel_rfl) rfl
 have HC := Aside0.mk hC
 have HT := Aside0.mk hT
 have HB0 := Aside0.mk hb0
 have HL := Aside0.mk hl
 clear hC hT hb0 hl
 go_enter Try.func87, Try.ntmps87
 go_wp2
 go_loopg [8] xs.length (fun kq v8 w' => ∃ i : Nat, v8 = .int .i64 (i : Int) ∧ Aside0 (i + kq = xs.length) ∧ Aside0 (∀ t ∈ xs.take i, p t = false) ∧ Aside0 (Below W.heap.size W w'))
 case atStart => exact ⟨0, rfl, ⟨Nat.zero_add _⟩, ⟨fun y hy => by cases hy⟩, ⟨Below.refl _ _⟩⟩
 case round =>
  obtain ⟨i, rfl, HK, HALL, HB2⟩ := hrel
  by_cases q0 : gk = 0
  ·have f1 : ¬ i < xs.length := by have := HK.out; omega
   have f2 : decide ((i : Int) < (xs.length : Int)) = false := decide_eq_false (by omega)
   have HE := Aside0.mk (show ∀ t ∈ xs, p t = false by
    have h := HALL.out
    rw [List.take_of_length_le (by omega)] at h
    exact h)
   clear q0
   go_wp2_with fail
   go_ret
   exact ⟨HB2.out, .inl ⟨rfl, HE.out⟩⟩
  ·have HQ := Aside0.mk q0
   clear q0
   have HIL := Aside0.mk (show i < xs.length by have := HK.out; have := HQ.out; omega)
   obtain ⟨ad, Aa, ca, eA, hx, hla, hia⟩ := at_L3 (Kd.C_below HC.out HB2.out) (i : Int) (Int.natCast_nonneg i) (by have := HIL.out; omega)
   rw [Int.toNat_natCast] at hx
   subst eA
   obtain ⟨t, ht⟩ : ∃ t, t = rd_L3 xs (i : Int) := ⟨_, rfl⟩
   rw [← ht] at hx hla hia
   have HTD := Aside0.mk ht
   have HMEM := Aside0.mk (show t ∈ xs by rw [ht]; unfold rd_L3; rw [Int.toNat_natCast, List.getD_eq_getElem?_getD, List.getElem?_eq_getElem HIL.out]; exact List.getElem_mem _)
   clear ht
   have HCX := Aside0.mk hia
   have HCL0 := Aside0.mk hla
   clear hia hla
   have HCL := Aside0.mk (HT.out wr t Aa ca HMEM.out (HB2.out.mono HB0.out) HCX.out HCL0.out)
   have f1 : i < xs.length := HIL.out
   have f2 : decide ((i : Int) < (xs.length : Int)) = true := decide_eq_true (by omega)
   have f3 : 0 ≤ (i : Int) := Int.natCast_nonneg i
   go_wp2_with fail
   refine HCL.out.mono ?_
   rintro e W2 ⟨rfl, hb2⟩
   have HB3 := Aside0.mk (HB2.out.trans (hb2.mono HB2.out.size))
   clear hb2 hx
   cases hb : p t
   case true =>
    have HPT := Aside0.mk hb
    clear hb
    go_wp2_with fail
    go_ret
    exact ⟨HB3.out, .inr ⟨i, HIL.out, rfl, by rw [← HTD.out]; exact HPT.out, HALL.out⟩⟩
   case false =>
    have HPT := Aside0.mk hb
    clear hb
    go_wp2_with fail
    go_roundg (gk - 1)
    case measure => have := HQ.out; omega
    case rel =>
     refine ⟨i + 1, by rw [show wrap64 ((i : Int) + 1) = ((i + 1 : Nat) : Int) by have := HIL.out; have := HL.out; unfold wrap64; omega], ⟨by have := HK.out; have := HQ.out; omega⟩, ⟨fun y hy => ?_⟩, HB3⟩
     rw [List.take_succ_eq_append_getElem HIL.out, show xs[i]'HIL.out = t by rw [HTD.out]; unfold rd_L3; rw [Int.toNat_natCast, List.getD_eq_getElem?_getD, List.getElem?_eq_getElem HIL.out]; rfl] at hy
     rcases List.mem_append.1 hy with hy | hy
     ·exact HALL.out y hy
     ·rw [List.mem_singleton.1 hy]; exact HPT.out

theorem rcont_calls {b0 : Nat} (W : World) (A : Option Addr) (c : Nat) (xs : List (List Int)) (p : List Int → Bool) (lb1 lb2 : Value) (hC : Kd.C (Kd.slice 3 (Kd.int .i64)) W A xs.length xs) (hT : Tells65 b0 W lb1 lb2 xs p) (hb0 : b0 ≤ W.heap.size) (hl : xs.length < 1000000) :
  Calls Try.prog 66 #[.slice A xs.length c, .func (.func 65) #[] #[lb1, lb2]] W fun e w' => e = .returned (.bool (xs.any p)) ∧ Below W.heap.size W w' := by
 have HI := Aside0.mk (rindex_calls W A c xs p lb1 lb2 hC hT hb0 hl)
 clear hC hT hb0 hl
 go_enter Try.func66, Try.ntmps66
 go_wp2_with (go_at_call 87; refine HI.out.mono ?_; rintro e W2 ⟨hb, he⟩; have HB := Aside0.mk hb; have HE := Aside0.mk he; clear hb he; obtain ⟨r, hr, hany⟩ : ∃ r : Int, e = .returned (.int .i64 r) ∧ decide (r ≥ 0) = xs.any p := (by
  rcases HE.out with ⟨rfl, hall⟩ | ⟨i, hi, rfl, hp, _⟩
  ·exact ⟨_, rfl, by rw [List.any_eq_false.2 (fun t ht => by rw [hall t ht]; simp)]; rfl⟩
  ·exact ⟨_, rfl, by rw [List.any_eq_true.2 ⟨_, (by unfold rd_L3; rw [Int.toNat_natCast, List.getD_eq_getElem?_getD, List.getElem?_eq_getElem hi]; exact List.getElem_mem _), hp⟩]; exact decide_eq_true (Int.natCast_nonneg i)⟩); have HAN := Aside0.mk hany; clear HE hany; subst hr)
 go_ret
 rw [← HAN.out]
 exact ⟨rfl, HB.out⟩
end SR
/-- What subset.Right tells. -/
def rightD (next : List (List Int)) (fin : List Bool) : Bool :=
 decide (1 ≤ next.length) && decide (next.length ≤ 5000) && decide (fin.length = next.length) && decide (1 ≤ (rd_L3 next 0).length) && decide ((rd_L3 next 0).length ≤ 200) && !next.any (SR.badS next.length (rd_L3 next 0).length)
open SR
attribute [local go_sem] store_func
set_option maxHeartbeats 16000000 in
set_option maxRecDepth 100000 in
theorem sright_calls (A1 : Option Addr) (c1 : Nat) (next : List (List Int)) (A2 : Option Addr) (c2 : Nat) (fin : List Bool) (W : World) (h1 : Kd.C (Kd.slice 3 (Kd.int .i64)) W A1 next.length next) (hf : fin.length ≤ 9223372036854775807) :
  Calls Try.prog 35 #[.agg #[.slice A1 next.length c1, .slice A2 fin.length c2]] W fun e w' => e = .returned (.bool (rightD next fin)) ∧ Below W.heap.size W w' := by
 have HC := Aside0.mk h1
 have HLL := Aside0.mk (h1.2.1 : next.length ≤ 9223372036854775807)
 clear h1
 go_enter Try.func35, Try.ntmps35
 go_upto_region 1 with fail
 have HB1 := Aside0.mk (below_alloc (Below.refl W.heap.size W) (.cells #[.slice A1 next.length c1, .slice A2 fin.length c2] 47))
 have HX1 := Aside0.mk (blk_new W (.cells #[.slice A1 next.length c1, .slice A2 fin.length c2] 47))
 obtain ⟨XB, hXB⟩ : ∃ n, W.heap.size = n := ⟨_, rfl⟩
 obtain ⟨W1, hW1⟩ : ∃ w, W.alloc (.cells #[.slice A1 next.length c1, .slice A2 fin.length c2] 47) = w := ⟨_, rfl⟩
 rw [hXB] at HX1
 rw [hW1] at HB1 HX1
 rw [hW1]
 rw [hXB]
 clear hXB hW1
 have n0 := (blk_cell HX1.out 0).trans rfl
 have n1 := (blk_cell HX1.out 1).trans rfl
 go_upto_region 2 with fail
 have hbn := below_alloc (Below.refl W1.heap.size W1) (.cells #[.int .i64 (next.length : Int)] 3)
 have HB2 := Aside0.mk (HB1.out.trans (hbn.mono HB1.out.size))
 have HX2 := Aside0.mk (blk_below HX1.out hbn)
 have HN2 := Aside0.mk (blk_new W1 (.cells #[.int .i64 (next.length : Int)] 3))
 clear hbn
 obtain ⟨NB, hNB⟩ : ∃ n, W1.heap.size = n := ⟨_, rfl⟩
 obtain ⟨W2, hW2⟩ : ∃ w, W1.alloc (.cells #[.int .i64 (next.length : Int)] 3) = w := ⟨_, rfl⟩
 rw [hNB] at HN2
 rw [hW2] at HB2 HX2 HN2
 rw [hW2]
 rw [hNB]
 clear hNB hW2 n0 n1 HB1 HX1
 have n0 := (blk_cell HX2.out 0).trans rfl
 have n1 := (blk_cell HX2.out 1).trans rfl
 have n2 := (blk_cell HN2.out 0).trans rfl
 by_cases q1 : next.length < 1
 ·have f1 : (next.length : Int) < 1 := by omega
  have f2 : decide ((next.length : Int) < 1) = true := decide_eq_true f1
  have HE := Aside0.mk (show rightD next fin = false by unfold rightD; rw [decide_eq_false (show ¬ 1 ≤ next.length by omega)]; rfl)
  go_wp2_with fail
  go_ret
  rw [HE.out]
  exact ⟨rfl, HB2.out⟩
 have f1 : ¬ (next.length : Int) < 1 := by omega
 have f2 : decide ((next.length : Int) < 1) = false := decide_eq_false f1
 by_cases q2 : 5000 < next.length
 ·have g1 : (next.length : Int) > 5000 := by omega
  have g2 : decide ((next.length : Int) > 5000) = true := decide_eq_true g1
  have g3 : decide (5000 < (next.length : Int)) = true := decide_eq_true (by omega)
  have HE := Aside0.mk (show rightD next fin = false by unfold rightD; rw [decide_eq_false (show ¬ next.length ≤ 5000 by omega)]; simp)
  go_wp2_with fail
  go_ret
  rw [HE.out]
  exact ⟨rfl, HB2.out⟩
 have g1 : ¬ (next.length : Int) > 5000 := by omega
 have g2 : decide ((next.length : Int) > 5000) = false := decide_eq_false g1
 have g3 : decide (5000 < (next.length : Int)) = false := decide_eq_false (by omega)
 by_cases q3 : fin.length = next.length
 case neg =>
  have e1 : ((fin.length : Int) != (next.length : Int)) = true := bne_iff_ne.2 (by omega)
  have HE := Aside0.mk (show rightD next fin = false by unfold rightD; rw [decide_eq_false q3]; simp)
  clear q3
  go_wp2_with fail
  go_ret
  rw [HE.out]
  exact ⟨rfl, HB2.out⟩
 have e1 : ((fin.length : Int) != (next.length : Int)) = false := bne_eq_false_iff_eq.2 (by omega)
 have HQ3 := Aside0.mk q3
 have HN := Aside0.mk (show 1 ≤ next.length ∧ next.length ≤ 5000 by omega)
 clear q1 q2 q3
 go_upto_region 4 with fail
 clear f1 f2 g1 g2 g3 e1
 obtain ⟨ad, Ar, cr, eA, hx, hla, hia⟩ := at_L3 (Kd.C_below HC.out HB2.out) 0 (Int.le_refl 0) (by have := HN.out; omega)
 obtain ⟨row0, hr0⟩ : ∃ r, r = rd_L3 next 0 := ⟨_, rfl⟩
 rw [← hr0] at hx
 have HR0 := Aside0.mk hr0
 have HI0 := Aside0.mk (show row0.length ≤ 9223372036854775807 by rw [hr0]; exact hia.2.1)
 clear hla hia hr0
 subst eA
 have f1 : (0 : Int) < (next.length : Int) := by have := HN.out; omega
 have f2 : 0 < next.length := by have := HN.out; omega
 have hx' : W2.cell? (ad.add 0) = some (.slice Ar row0.length cr) := hx
 have hx2 : W2.cell? ad = some (.slice Ar row0.length cr) := hx
 clear hx
 go_upto_region 5 with fail
 have hbn := below_alloc (Below.refl W2.heap.size W2) (.cells #[.int .i64 (row0.length : Int)] 3)
 have HB3 := Aside0.mk (HB2.out.trans (hbn.mono HB2.out.size))
 have HX3 := Aside0.mk (blk_below HX2.out hbn)
 have HN3 := Aside0.mk (blk_below HN2.out hbn)
 have HC3 := Aside0.mk (blk_new W2 (.cells #[.int .i64 (row0.length : Int)] 3))
 clear hbn
 obtain ⟨CB, hCB⟩ : ∃ n, W2.heap.size = n := ⟨_, rfl⟩
 obtain ⟨W3, hW3⟩ : ∃ w, W2.alloc (.cells #[.int .i64 (row0.length : Int)] 3) = w := ⟨_, rfl⟩
 rw [hCB] at HC3
 rw [hW3] at HB3 HX3 HN3 HC3
 rw [hW3]
 rw [hCB]
 clear hCB hW3 n0 n1 n2 hx' hx2 HB2 HX2 HN2
 go_upto_region 6 with fail
 have hbn := below_alloc (Below.refl W3.heap.size W3) (.cells #[.func (.func 64) #[] #[.pointer (some ⟨NB, 0, none⟩)]] 80)
 have HB4 := Aside0.mk (HB3.out.trans (hbn.mono HB3.out.size))
 have HX4 := Aside0.mk (blk_below HX3.out hbn)
 have HN4 := Aside0.mk (blk_below HN3.out hbn)
 have HC4 := Aside0.mk (blk_below HC3.out hbn)
 have HO4 := Aside0.mk (blk_new W3 (.cells #[.func (.func 64) #[] #[.pointer (some ⟨NB, 0, none⟩)]] 80))
 clear hbn
 obtain ⟨OB, hOB⟩ : ∃ n, W3.heap.size = n := ⟨_, rfl⟩
 obtain ⟨W4, hW4⟩ : ∃ w, W3.alloc (.cells #[.func (.func 64) #[] #[.pointer (some ⟨NB, 0, none⟩)]] 80) = w := ⟨_, rfl⟩
 rw [hOB] at HO4
 rw [hW4] at HB4 HX4 HN4 HC4 HO4
 rw [hW4]
 rw [hOB]
 clear hOB hW4 HB3 HX3 HN3 HC3
 have n0 := (blk_cell HX4.out 0).trans rfl
 have n1 := (blk_cell HX4.out 1).trans rfl
 have n2 := (blk_cell HN4.out 0).trans rfl
 have n3 := (blk_cell HC4.out 0).trans rfl
 by_cases q1 : 1 ≤ row0.length
 case neg =>
  have g1 : ¬ (row0.length : Int) ≥ 1 := by omega
  have g2 : decide ((row0.length : Int) ≥ 1) = false := decide_eq_false g1
  have g3 : decide (1 ≤ (row0.length : Int)) = false := decide_eq_false g1
  have HE := Aside0.mk (show rightD next fin = false by unfold rightD; rw [← HR0.out, decide_eq_false q1]; simp)
  clear q1
  go_wp2_with fail
  go_ret
  rw [HE.out]
  exact ⟨rfl, HB4.out⟩
 have g1 : (row0.length : Int) ≥ 1 := by omega
 have g2 : decide ((row0.length : Int) ≥ 1) = true := decide_eq_true g1
 have g3 : decide (1 ≤ (row0.length : Int)) = true := decide_eq_true g1
 by_cases q2 : row0.length ≤ 200
 case neg =>
  have k1 : ¬ (row0.length : Int) ≤ 200 := by omega
  have k2 : decide ((row0.length : Int) ≤ 200) = false := decide_eq_false k1
  have HE := Aside0.mk (show rightD next fin = false by unfold rightD; rw [← HR0.out, decide_eq_false q2]; simp)
  clear q1 q2
  go_wp2_with fail
  go_ret
  rw [HE.out]
  exact ⟨rfl, HB4.out⟩
 have k1 : (row0.length : Int) ≤ 200 := by omega
 have k2 : decide ((row0.length : Int) ≤ 200) = true := decide_eq_true k1
 have HE := Aside0.mk (show rightD next fin = !next.any (badS next.length row0.length) by unfold rightD; rw [← HR0.out, decide_eq_true q1, decide_eq_true q2, decide_eq_true HN.out.1, decide_eq_true HN.out.2, decide_eq_true HQ3.out]; simp)
 have HQ2 := Aside0.mk q2
 clear q1 q2
 have HS := Aside0.mk (rcont_calls (b0 := W4.heap.size) W4 (some ad) c1 next (badS next.length row0.length) (.pointer (some ⟨CB, 0, none⟩)) (.pointer (some ⟨OB, 0, none⟩)) (Kd.C_below HC.out HB4.out) (fun w t A c ht hb hC hl => bad65 next.length row0.length HQ2.out t A c NB CB OB w ((blk_cell (blk_below HN4.out hb) 0).trans rfl) ((blk_cell (blk_below HC4.out hb) 0).trans rfl) ((blk_cell (blk_below HO4.out hb) 0).trans rfl) hC hl) (Nat.le_refl _) (by have := HN.out; omega))
 go_wp2_with (go_at_call 66; refine HS.out.mono ?_; rintro e W5 ⟨rfl, hb⟩; have HB5 := Aside0.mk (HB4.out.trans (hb.mono HB4.out.size)); clear hb n0 n1 n2 n3)
 go_ret
 rw [HE.out]
 exact ⟨rfl, HB5.out⟩
def subset_Right.f (l0_0 : List (List Int)) (l0_1 : List Bool) : Option Bool := some (rightD l0_0 l0_1)
theorem subset_Right.calls (A0_0 : Option Addr) (c0_0 : Nat) (l0_0 : List (List Int)) (A0_1 : Option Addr) (c0_1 : Nat) (l0_1 : List Bool) (r : Bool) (w : World) (hr0_0 : Kd.C (Kd.slice 3 (Kd.int .i64)) w A0_0 l0_0.length l0_0) (hc0_0 : l0_0.length ≤ c0_0) (hr0_1 : Kd.C Kd.bool w A0_1 l0_1.length l0_1) (hc0_1 : l0_1.length ≤ c0_1) (h : subset_Right.f l0_0 l0_1 = some r) :
  Calls Try.prog 35 #[.agg #[.slice A0_0 l0_0.length c0_0, .slice A0_1 l0_1.length c0_1]] w fun e w' => e = .returned (.bool r) ∧ Below w.heap.size w w' := by
 rw [← Option.some.inj h]
 exact sright_calls A0_0 c0_0 l0_0 A0_1 c0_1 l0_1 w hr0_0 hr0_1.2.1
end Go.Proofs.Ytemlgmkbonpniaa.Print
