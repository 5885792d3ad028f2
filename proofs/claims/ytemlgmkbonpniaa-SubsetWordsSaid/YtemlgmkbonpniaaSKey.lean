/- subset.key: places as text. -/
import Derived.Test.YtemlgmkbonpniaaRAftM
namespace Go.Proofs.Ytemlgmkbonpniaa.Print
open Go.RowKit Go.Maps Go.Proofs.YtemlgmkbonpniaaW.PrintWords Go.Proofs.YtemlgmkbonpniaaW.PrintLast Go.Proofs.YtemlgmkbonpniaaW.PrintMore
set_option linter.unusedVariables false
set_option linter.unusedSimpArgs false
theorem sk_info5 : (Try.prog.info? 5).map (fun i => (i.zero, i.size, i.bytes)) = some (some (.int .u8 0), 1, 1) := by kernel_rfl
def hiB (i : Int) : Int := i / 256 % 256
def loB (i : Int) : Int := i % 256
def bytesB (l : List Int) : List Int := l.flatMap fun i => [hiB i, loB i]
def keyB (l : List Int) : ByteArray := strOfNums (bytesB l)
theorem bytesB_len (l : List Int) : (bytesB l).length = 2 * l.length := by
 unfold bytesB
 induction l with
 | nil => rfl
 | cons x l ih => rw [List.flatMap_cons, List.length_append, ih, List.length_cons]; simp; omega
theorem bytesB_snoc (l : List Int) (x : Int) : bytesB (l ++ [x]) = bytesB l ++ [hiB x, loB x] := by unfold bytesB; rw [List.flatMap_append]; rfl
theorem row_lit2 (W : World) (a b : Int) : Kd.C (Kd.int .u8) (W.alloc (.cells #[.int .u8 a, .int .u8 b] 5)) (some ⟨W.heap.size, 0, none⟩) 2 [a, b] := by
 have h := blk_new W (.cells #[.int .u8 a, .int .u8 b] 5)
 refine ⟨rfl, by simp, fun _ => ⟨⟨W.heap.size, 0, none⟩, rfl, fun j p hp => ?_⟩⟩
 match j, hp with
 | 0, hp =>
  obtain rfl := Option.some.inj hp
  refine ⟨[.int .u8 a], rfl, rfl, fun i u hu => ?_⟩
  match i, hu with
  | 0, hu => cases hu; exact (blk_cell h 0).trans rfl
 | 1, hp =>
  obtain rfl := Option.some.inj hp
  refine ⟨[.int .u8 b], rfl, rfl, fun i u hu => ?_⟩
  match i, hu with
  | 0, hu => cases hu; exact (blk_cell h 1).trans rfl
set_option maxHeartbeats 8000000 in
set_option maxRecDepth 100000 in
theorem key_calls (W : World) (A : Option Addr) (c : Nat) (at_ : List Int) (hC : Kd.C (Kd.int .i64) W A at_.length at_) (hl : at_.length < 1000000) :
  Calls Try.prog 61 #[.slice A at_.length c] W fun e w' => e = .returned (.string (keyB at_)) ∧ Below W.heap.size W w' := by
 have HC := Aside0.mk hC
 have HL := Aside0.mk hl
 clear hC hl
 go_enter Try.func61, Try.ntmps61
 go_wp2
 go_loopg [3, 8] at_.length (fun kq v3 v8 w' => ∃ (i : Nat) (A7 : Option Addr) (c7 : Nat), v3 = .slice A7 (bytesB (at_.take i)).length c7 ∧ v8 = .int .i64 (i : Int) ∧ Aside0 (i + kq = at_.length) ∧ Aside0 (Below W.heap.size W w') ∧ Aside0 (Kd.R (Kd.int .u8) 5 w' W.heap.size (fun _ => True) (.slice A7 (bytesB (at_.take i)).length c7) (bytesB (at_.take i))))
 case atStart => exact ⟨0, none, 0, rfl, rfl, ⟨Nat.zero_add _⟩, ⟨Below.refl _ _⟩, ⟨Kd.R_nil _ _ _ _ _⟩⟩
 case round =>
  obtain ⟨i, A7, c7, rfl, rfl, HK, HB1, HO⟩ := hrel
  by_cases q0 : gk = 0
  ·have f1 : ¬ i < at_.length := by have := HK.out; omega
   have f2 : decide ((i : Int) < (at_.length : Int)) = false := decide_eq_false (by omega)
   have HE := Aside0.mk (show at_.take i = at_ from List.take_of_length_le (by omega))
   clear q0
   rw [HE.out] at HO
   rw [HE.out]
   have HCS := Aside0.mk (Kd.C_string (P := Try.prog) (w := wr) (src := 109) (dst := 9) (c := c7) Try.underlying109 Try.underlying5 Try.underlying9 (Kd.R_reads' HO.out).2.2)
   have hcs := HCS.out
   go_wp2_with fail
   go_ret
   exact ⟨rfl, HB1.out⟩
  ·have HQ := Aside0.mk q0
   clear q0
   have HIL := Aside0.mk (show i < at_.length by have := HK.out; have := HQ.out; omega)
   obtain ⟨ad, eA, hx⟩ := Kd.at_int (Kd.C_below HC.out HB1.out) (i : Int) (Int.natCast_nonneg i) (by have := HIL.out; omega)
   rw [Int.toNat_natCast] at hx
   subst eA
   obtain ⟨x, ht⟩ : ∃ t, t = rd at_ (i : Int) := ⟨_, rfl⟩
   rw [← ht] at hx
   have HTK := Aside0.mk (show bytesB (at_.take (i + 1)) = bytesB (at_.take i) ++ [hiB x, loB x] by
    rw [List.take_succ_eq_append_getElem HIL.out, bytesB_snoc, show at_[i]'HIL.out = x by rw [ht]; unfold rd; rw [Int.toNat_natCast, List.getD_eq_getElem?_getD, List.getElem?_eq_getElem HIL.out]; rfl])
   clear ht
   have f1 : i < at_.length := HIL.out
   have f2 : decide ((i : Int) < (at_.length : Int)) = true := decide_eq_true (by omega)
   have f3 : (0 : Int) ≤ (i : Int) := Int.natCast_nonneg i
   have HW2 := Aside0.mk (show wrap64 ((i : Int) + 1) = ((i + 1 : Nat) : Int) by have := HIL.out; have := HL.out; unfold wrap64; omega)
   go_wp2_with ((with_reducible refine gate_builtin (b := .append) (xs := #[.tmp 12, .tmp 18]) rfl ?_); at_builtin; refine Kd.R_append_rows (Kd.int .u8) (w0 := W) W.heap.size rfl (.tmp 12) (.tmp 18) 109 5 (.int .u8 0) 1 rfl Try.underlying109 sk_info5 rfl (by decide) (by omega) (.slice A7 (bytesB (at_.take i)).length c7) (bytesB (at_.take i)) [hiB x, loB x] _ _ _ (fun _ => True) (fun _ => False) rfl rfl ?aO ?aR (fun _ _ h => h) (fun _ h => h.elim) (fun _ _ => trivial) ?aB ?aS ?aL ?_; (case aO => exact Kd.R_alloc HO.out _); (case aR => exact row_lit2 wr (hiB x) (loB x)); (case aB => exact below_alloc HB1.out _); (case aS => exact below_size (below_alloc HB1.out _)); (case aL => have h1 := bytesB_len (at_.take i); have h2 := List.length_take_le i at_; have := HL.out; have := HIL.out; omega); intro v1 w1 ho hb hg hat; clear hg hat; have HB2 := Aside0.mk hb; obtain ⟨A8, c8, rfl⟩ := Kd.R_slice ho; have HO2 := Aside0.mk ho; clear ho hb)
   go_roundg (gk - 1)
   case measure => have := HQ.out; omega
   case rel => exact ⟨i + 1, A8, c8, by rw [HTK.out, List.length_append]; rfl, by rw [← HW2.out], ⟨by have := HK.out; have := HQ.out; omega⟩, HB2, ⟨by rw [HTK.out]; exact HO2.out⟩⟩
/-! ### keys tell places apart -/
theorem hiB_is {i : Int} (h0 : 0 ≤ i) (h1 : i < 65536) : hiB i = i / 256 := by unfold hiB; omega
theorem loB_is {i : Int} : loB i = i % 256 := rfl
theorem strOfNums_inj : ∀ {l m : List Int}, (∀ x ∈ l, 0 ≤ x ∧ x < 256) → (∀ x ∈ m, 0 ≤ x ∧ x < 256) → strOfNums l = strOfNums m → l = m := by
 intro l m hl hm h
 unfold strOfNums at h
 injection h with h
 have h2 : l.map (fun n => UInt8.ofNat n.toNat) = m.map (fun n => UInt8.ofNat n.toNat) := by
  have := congrArg Array.toList h
  simpa using this
 clear h
 induction l generalizing m with
 | nil =>
  cases m with
  | nil => rfl
  | cons y m => cases h2
 | cons x l ih =>
  cases m with
  | nil => cases h2
  | cons y m =>
   rw [List.map_cons, List.map_cons] at h2
   injection h2 with e1 h2
   have a := hl x List.mem_cons_self
   have b := hm y List.mem_cons_self
   have e2 := congrArg UInt8.toNat e1
   rw [UInt8.toNat_ofNat', UInt8.toNat_ofNat', Nat.mod_eq_of_lt (by omega), Nat.mod_eq_of_lt (by omega)] at e2
   rw [show x = y by omega, ih (fun z hz => hl z (List.mem_cons_of_mem _ hz)) (fun z hz => hm z (List.mem_cons_of_mem _ hz)) h2]
theorem keyB_inj {l m : List Int} (hl : ∀ x ∈ l, 0 ≤ x ∧ x < 65536) (hm : ∀ x ∈ m, 0 ≤ x ∧ x < 65536) (h : keyB l = keyB m) : l = m := by
 have hb : ∀ l : List Int, (∀ x ∈ l, 0 ≤ x ∧ x < 65536) → ∀ x ∈ bytesB l, 0 ≤ x ∧ x < 256 := by
  intro l hl x hx
  unfold bytesB at hx
  obtain ⟨y, hy, hx⟩ := List.mem_flatMap.1 hx
  have h1 := hl y hy
  rcases List.mem_cons.1 hx with rfl | hx
  ·rw [hiB_is h1.1 h1.2]; omega
  ·rw [List.mem_singleton.1 hx, loB_is]; omega
 have h2 := strOfNums_inj (hb l hl) (hb m hm) h
 clear h hb
 induction l generalizing m with
 | nil =>
  cases m with
  | nil => rfl
  | cons y m => cases h2
 | cons x l ih =>
  cases m with
  | nil => cases h2
  | cons y m =>
   unfold bytesB at h2
   rw [List.flatMap_cons, List.flatMap_cons] at h2
   injection h2 with e1 h2
   injection h2 with e2 h2
   have a := hl x List.mem_cons_self
   have b := hm y List.mem_cons_self
   rw [hiB_is a.1 a.2, hiB_is b.1 b.2] at e1
   rw [loB_is, loB_is] at e2
   rw [show x = y by omega, ih (fun z hz => hl z (List.mem_cons_of_mem _ hz)) (fun z hz => hm z (List.mem_cons_of_mem _ hz)) h2]
end Go.Proofs.Ytemlgmkbonpniaa.Print
