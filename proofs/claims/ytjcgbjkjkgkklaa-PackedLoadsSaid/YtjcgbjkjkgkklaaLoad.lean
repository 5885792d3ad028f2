/- Bytes are told by their string; what bytes.HasPrefix says of SD. · The contracts of packed.reader's methods: the next byte; the next number. · What packed.Load comes to, as plain functions; what its walk keeps. · packed.Load, walked by hand. · The contract of packed.Load: the states that bytes are, in new memory, or the error. -/
import Derived.Test.YtjcgbjkjkgkklaaPrint15
import Derived.Lib.Bytes
import Derived.Test.YtjcgbjkjkgkklaaPrint11
import Derived.Test.YtjcgbjkjkgkklaaLawN
import Derived.Deep.DeepMust
import Derived.Test.YtjcgbjkjkgkklaaRight
import Derived.Lib.SlBytesConst
import Derived.Maps.AppendAt
import Derived.WalkMore
-- NEEDS bytes_HasPrefix packed_Told
namespace Go.Proofs.Ytjcgbjkjkgkklaa.Print
open Go.RowKit Go.Proofs.YtjcgbjkjkgkklaaW.PrintWords Go.Proofs.YtjcgbjkjkgkklaaW.PrintLast Go.Proofs.YtjcgbjkjkgkklaaW.PrintMore
set_option linter.unusedVariables false
set_option linter.unusedSimpArgs false

theorem bytes_inj : ∀ xs ys : List Int, (∀ x ∈ xs, 0 ≤ x ∧ x ≤ 255) → (∀ x ∈ ys, 0 ≤ x ∧ x ≤ 255) → (strOfNums xs).toList = (strOfNums ys).toList → xs = ys := by
  intro xs ys hx hy h
  rw [Go.Lib.strOfNums_toList, Go.Lib.strOfNums_toList] at h
  unfold Go.Lib.bytesOf at h
  induction xs generalizing ys with
  | nil => cases ys with
    | nil => rfl
    | cons y ys => simp at h
  | cons x xs ih => cases ys with
    | nil => simp at h
    | cons y ys =>
      rw [List.map_cons, List.map_cons] at h
      injection h with h1 h2
      have e := congrArg UInt8.toNat h1
      have hx0 := hx x (List.mem_cons_self ..)
      have hy0 := hy y (List.mem_cons_self ..)
      simp only [UInt8.toNat_ofNat'] at e
      rw [ih ys (fun z hz => hx z (List.mem_cons_of_mem _ hz)) (fun z hz => hy z (List.mem_cons_of_mem _ hz)) h2]
      congr 1
      omega
theorem prefix_f (l : List Int) (hb : ∀ x ∈ l, 0 ≤ x ∧ x ≤ 255) : bytes_HasPrefix.f l [83, 68] = some (decide (2 ≤ l.length ∧ rd l 0 = 83 ∧ rd l 1 = 68)) := by
  unfold bytes_HasPrefix.f
  by_cases h : 2 ≤ l.length
  · rw [if_pos (by simp; omega), if_pos (by simp), if_pos (by simp; omega)]
    match l, h, hb with
    | x :: y :: r, h, hb =>
      unfold bytes_Equal.f
      rw [Option.bind_some]
      apply congrArg
      by_cases q : x = 83 ∧ y = 68
      · obtain ⟨rfl, rfl⟩ := q
        rw [decide_eq_true (show 2 ≤ (83 :: 68 :: r : List Int).length ∧ rd (83 :: 68 :: r) 0 = 83 ∧ rd (83 :: 68 :: r) 1 = 68 from ⟨h, rfl, rfl⟩)]
        exact beq_self_eq_true _
      · rw [decide_eq_false (show ¬ (2 ≤ (x :: y :: r).length ∧ rd (x :: y :: r) 0 = 83 ∧ rd (x :: y :: r) 1 = 68) from fun e => q e.2)]
        apply beq_eq_false_iff_ne.2
        intro e
        have := bytes_inj [x, y] [83, 68] (fun z hz => hb z (by simp at hz; rcases hz with rfl | rfl <;> simp)) (by simp) e
        simp at this
        exact q this
  · rw [if_neg (by simp; omega), decide_eq_false (fun e => h e.1)]
end Go.Proofs.Ytjcgbjkjkgkklaa.Print

namespace Go.Proofs.Ytjcgbjkjkgkklaa.Print
open Go.RowKit Go.Shelf Go.Proofs.Ytjcgbjkjkgkklaa.Pure Go.Proofs.YtjcgbjkjkgkklaaW.PrintWords Go.Proofs.YtjcgbjkjkgkklaaW.PrintLast Go.Proofs.YtjcgbjkjkgkklaaW.PrintMore
set_option linter.unusedVariables false
set_option linter.unusedSimpArgs false

/-- The block of a reader: what is not read yet, and whether something did not fit. -/
def RBlk (W : World) (B : Nat) (A : Option Addr) (c : Nat) (m : List Int) (fl : Bool) : Prop := W.heap[B]? = some (.cells #[.slice A m.length c, .bool fl] 52 (0, 0))

theorem grownBy_set (W : World) (b j : Nat) (v : Value) : W.grownBy (W.setCell ⟨b, j, none⟩ v) (some b) :=
  ⟨rfl, rfl, rfl, (KeepsWalks.setCell W _ v).size, fun k _ hk => Below.heap_setCell _ _ _ k (fun e => hk (by rw [e]))⟩
theorem grownBy_trans {A B C : World} {row : Option Nat} (h : A.grownBy B row) (k : B.grownBy C row) : A.grownBy C row :=
  ⟨k.os.trans h.os, k.tape.trans h.tape, k.output.trans h.output, Nat.le_trans h.size k.size, fun i hi hr => (k.block i (Nat.lt_of_lt_of_le hi h.size) hr).trans (h.block i hi hr)⟩
theorem grownBy_below {A B : World} (h : Below A.heap.size A B) (row : Option Nat) : A.grownBy B row := grown_of_below h row

/-- What a cut leaves: where it begins, and how much it may hold. -/
def cutA (A : Option Addr) (c m : Nat) : Option Addr := if c = m then A else A.map (·.add m)
theorem cut_run {P : Program} (t e : TypeId) (kl : IntKind) {i : TypeInfo} (ht : P.underlying t = some (.slice e)) (hi : P.info? e = some i) (hsz : i.size = 1) (A : Option Addr) (n c m : Nat) (hm : m ≤ n) (W : World) :
    (Instr.slice t (.slice A n c) (some (.int kl (m : Int))) none none).run P W = .ok (.slice (cutA A c m) (n - m) (c - m)) W := by
  have hel : P.elem t = e := by simp [Program.elem, ht]
  have hu : P.underlying t = some (.slice (P.elem t)) := by rw [hel]; exact ht
  rw [run_slice_l W t A n c hu kl (m : Int) (Int.natCast_nonneg _) (by omega), hel]
  simp [sizeOf, typeInfo, hi, hsz, sliced, Result.andThen, cutA]
theorem cut_C {w : World} {A : Option Addr} {c m : Nat} {xs : List Int} {k : IntKind} (h : Kd.C (Kd.int k) w A xs.length xs) (hm : m ≤ xs.length) (hc : xs.length ≤ c) : Kd.C (Kd.int k) w (cutA A c m) (xs.drop m).length (xs.drop m) := by
  have := Kd.C_drop h hm hc
  rwa [show (Kd.int k).sz = 1 from rfl, Nat.mul_one] at this

set_option maxRecDepth 100000 in
set_option maxHeartbeats 4000000 in
theorem byte_calls (W0 : World) (A : Option Addr) (c : Nat) (m : List Int) (hr : Kd.C (Kd.int .u8) W0 A m.length m) (hc : m.length ≤ c) (B : Nat) (fl : Bool) (W : World) (hW : Below W0.heap.size W0 W) (hB0 : W0.heap.size ≤ B) (hB : RBlk W B A c m fl) :
    Calls Try.prog 25 #[.pointer (some ⟨B, 0, none⟩)] W fun e w' => ∃ A' c', e = .returned (.int .u8 (rd m 0)) ∧ RBlk w' B A' c' (m.drop 1) (fl || m.isEmpty) ∧ (m.drop 1).length ≤ c' ∧ Kd.C (Kd.int .u8) W0 A' (m.drop 1).length (m.drop 1) ∧ W.grownBy w' (some B) := by
  have HR := Aside0.mk hr
  have HW := Aside0.mk hW
  have HB := Aside0.mk hB
  have x0 : W.cell? ⟨B, 0, none⟩ = some (.slice A m.length c) := (blk_cell hB 0).trans rfl
  have x1 : W.cell? ⟨B, 1, none⟩ = some (.bool fl) := (blk_cell hB 1).trans rfl
  clear hr hW hB
  go_enter Try.func25, Try.ntmps25
  have f0 : W.frozen? ⟨B, 0, none⟩ = false := blk_frozen HB.out 0
  have f1 : W.frozen? ⟨B, 1, none⟩ = false := blk_frozen HB.out 1
  by_cases h0 : m.length = 0
  · obtain rfl := List.eq_nil_of_length_eq_zero h0
    clear h0
    go_wp2_with fail
    go_ret
    exact ⟨A, c, rfl, by simpa [RBlk] using blk_put HB.out 1 (.bool true) rfl, by simp, HR.out, grownBy_set _ _ _ _⟩
  · have h0z : ((m.length : Nat) : Int) ≠ 0 := by omega
    obtain ⟨i0, hi, hz0, hz1, hz2⟩ := info_parts info5
    obtain ⟨ad, rfl, hx⟩ := Kd.at_int (Kd.C_below HR.out HW.out) 0 (by omega) (by omega)
    have hcut : ∀ W', (Instr.slice 28 (.slice (some ad) m.length c) (some (.int .i64 1)) none none).run Try.prog W' = .ok (.slice (cutA (some ad) c 1) (m.length - 1) (c - 1)) W' := fun W' => cut_run (P := Try.prog) 28 5 .i64 Try.underlying28 hi hz1 (some ad) m.length c 1 (by omega) W'
    rw [show ad.add (Int.toNat 0) = ad from by simp [Addr.add]] at hx
    have hp : 0 < m.length := by omega
    have hlz : (0 : Int) < (m.length : Int) := by omega
    go_wp2_with fail
    go_ret
    have hl : (m.drop 1).length = m.length - 1 := List.length_drop
    refine ⟨cutA (some ad) c 1, c - 1, rfl, ?_, by omega, cut_C HR.out (by omega) hc, grownBy_set _ _ _ _⟩
    have hne : m.isEmpty = false := by cases m <;> simp_all
    unfold RBlk
    rw [hl, hne, Bool.or_false]
    exact blk_put HB.out 0 _ rfl

/-- What the next number is, below another one: the number, what is left, the fault. -/
def rnF (below : Int) (m : List Int) (fl : Bool) : Bool := fl || (toldOf m).2.2 != 0 || decide (below ≤ (toldOf m).1)
def rnV (below : Int) (m : List Int) (fl : Bool) : Int := if rnF below m fl = true then 0 else (toldOf m).1
def rnM (below : Int) (m : List Int) (fl : Bool) : List Int := if rnF below m fl = true then m else m.drop (toldOf m).2.1.toNat

theorem toldGo_many (b : List Int) : ∀ (f : Nat) (n wt i : Int), 0 ≤ i → (toldGo b f n wt i).2.2 = 0 → 1 ≤ (toldGo b f n wt i).2.1 ∧ (toldGo b f n wt i).2.1 ≤ b.length
  | 0, n, wt, i, hi, h => by simp [toldGo] at h
  | f + 1, n, wt, i, hi, h => by
    rw [toldGo] at h ⊢
    split at h
    · rename_i h1
      rw [if_pos h1]
      split at h
      · rename_i h2
        rw [if_pos h2]
        split at h
        · simp at h
        · rename_i h3
          rw [if_neg h3]
          split at h
          · simp at h
          · rename_i h4
            rw [if_neg h4]
            show 1 ≤ i + 1 ∧ i + 1 ≤ _
            omega
      · rename_i h2
        rw [if_neg h2]
        exact toldGo_many b f _ _ (i + 1) (by omega) h
    · simp at h
theorem told_many (b : List Int) (h : (toldOf b).2.2 = 0) : 1 ≤ (toldOf b).2.1 ∧ (toldOf b).2.1 ≤ b.length := toldGo_many b 6 0 1 0 (by omega) h

set_option maxRecDepth 100000 in
set_option maxHeartbeats 4000000 in
theorem readN_calls (below : Int) (W0 : World) (A : Option Addr) (c : Nat) (m : List Int) (hby : ∀ x ∈ m, 0 ≤ x ∧ x ≤ 255) (hr : Kd.C (Kd.int .u8) W0 A m.length m) (hc : m.length ≤ c) (B : Nat) (fl : Bool) (W : World) (hW : Below W0.heap.size W0 W) (hB0 : W0.heap.size ≤ B) (hB : RBlk W B A c m fl) :
    Calls Try.prog 24 #[.pointer (some ⟨B, 0, none⟩), .int .i64 below] W fun e w' => ∃ A' c', e = .returned (.int .i64 (rnV below m fl)) ∧ RBlk w' B A' c' (rnM below m fl) (rnF below m fl) ∧ (rnM below m fl).length ≤ c' ∧ Kd.C (Kd.int .u8) W0 A' (rnM below m fl).length (rnM below m fl) ∧ W.grownBy w' (some B) := by
  have HR := Aside0.mk hr
  have HW := Aside0.mk hW
  have HB := Aside0.mk hB
  obtain ⟨n, many, er, ht⟩ : ∃ n many er, toldOf m = (n, many, er) := ⟨_, _, _, rfl⟩
  have hT := Aside0.mk (packed_Told.calls 12 A c m n many er W (Kd.C_below hr hW) hc (by rw [← ht]; exact told_k m (rd_byte hby) 12 (by omega)))
  have x0 : W.cell? ⟨B, 0, none⟩ = some (.slice A m.length c) := (blk_cell hB 0).trans rfl
  have hF := Aside0.mk (show rnF below m fl = (fl || er != 0 || decide (below ≤ n)) by unfold rnF; rw [ht])
  have hM := Aside0.mk (show er = 0 → 1 ≤ many ∧ many ≤ m.length by have := told_many m; rw [ht] at this; exact this)
  have hV := Aside0.mk (show rnV below m fl = (if rnF below m fl = true then 0 else n) ∧ rnM below m fl = (if rnF below m fl = true then m else m.drop many.toNat) by unfold rnV rnM; rw [ht]; exact ⟨rfl, rfl⟩)
  clear hr hW hB ht
  go_enter Try.func24, Try.ntmps24
  go_wp2_with fail
  refine hT.out.mono ?_
  rintro e w1 ⟨rfl, hb⟩
  have HB1 := Aside0.mk (show RBlk w1 B A c m fl from blk_below HB.out hb)
  have hG := Aside0.mk (grownBy_below hb (some B))
  have x0 : w1.cell? ⟨B, 0, none⟩ = some (.slice A m.length c) := (blk_cell HB1.out 0).trans rfl
  have x1 : w1.cell? ⟨B, 1, none⟩ = some (.bool fl) := (blk_cell HB1.out 1).trans rfl
  have f0 : w1.frozen? ⟨B, 0, none⟩ = false := blk_frozen HB1.out 0
  have f1 : w1.frozen? ⟨B, 1, none⟩ = false := blk_frozen HB1.out 1
  clear hb hT
  cases fl with
  | true =>
    have e : rnF below m true = true := by rw [hF.out]; simp
    go_wp2_with fail
    go_ret
    refine ⟨A, c, ?_, ?_, ?_, ?_, grownBy_trans hG.out (grownBy_set _ _ _ _)⟩
    · rw [hV.out.1, if_pos e]; rfl
    · rw [hV.out.2, if_pos e, e]; exact blk_put HB1.out 1 (.bool true) rfl
    · rw [hV.out.2, if_pos e]; exact hc
    · rw [hV.out.2, if_pos e]; exact HR.out
  | false =>
    by_cases h1 : er = 0
    · subst h1
      have h0 : ((0 : Int) != 0) = false := rfl
      by_cases h2 : below ≤ n
      · have e : rnF below m false = true := by rw [hF.out]; simp [h2]
        have hd : decide (n ≥ below) = true := decide_eq_true h2
        go_wp2_with fail
        go_ret
        refine ⟨A, c, ?_, ?_, ?_, ?_, grownBy_trans hG.out (grownBy_set _ _ _ _)⟩
        · rw [hV.out.1, if_pos e]; rfl
        · rw [hV.out.2, if_pos e, e]; exact blk_put HB1.out 1 (.bool true) rfl
        · rw [hV.out.2, if_pos e]; exact hc
        · rw [hV.out.2, if_pos e]; exact HR.out
      · have e : rnF below m false = false := by rw [hF.out]; simp [h2]
        have hd : decide (n ≥ below) = false := decide_eq_false h2
        obtain ⟨i0, hi, hz0, hz1, hz2⟩ := info_parts info5
        have hmm := hM.out rfl
        obtain ⟨j, rfl⟩ : ∃ j : Nat, many = (j : Int) := ⟨many.toNat, by omega⟩
        have hcut : ∀ W', (Instr.slice 28 (.slice A m.length c) (some (.int .i64 (j : Int))) none none).run Try.prog W' = .ok (.slice (cutA A c j) (m.length - j) (c - j)) W' := fun W' => cut_run (P := Try.prog) 28 5 .i64 Try.underlying28 hi hz1 A m.length c j (by omega) W'
        have HB2 := Aside0.mk (show (w1.setCell ⟨B, 1, none⟩ (.bool false)).heap[B]? = some (.cells #[.slice A m.length c, .bool false] 52 (0, 0)) from blk_put HB1.out 1 (.bool false) rfl)
        have y0 : (w1.setCell ⟨B, 1, none⟩ (.bool false)).cell? ⟨B, 0, none⟩ = some (.slice A m.length c) := (blk_cell HB2.out 0).trans rfl
        have y1 : (w1.setCell ⟨B, 1, none⟩ (.bool false)).cell? ⟨B, 1, none⟩ = some (.bool false) := (blk_cell HB2.out 1).trans rfl
        have g0 : (w1.setCell ⟨B, 1, none⟩ (.bool false)).frozen? ⟨B, 0, none⟩ = false := blk_frozen HB2.out 0
        clear h2
        go_wp2_with fail
        go_ret
        have hl : (m.drop j).length = m.length - j := List.length_drop
        refine ⟨cutA A c j, c - j, ?_, ?_, ?_, ?_, grownBy_trans (grownBy_trans hG.out (grownBy_set _ _ _ _)) (grownBy_set _ _ _ _)⟩
        · rw [hV.out.1, if_neg (by rw [e]; decide)]; rfl
        · rw [hV.out.2, if_neg (by rw [e]; decide), e, Int.toNat_natCast]
          unfold RBlk
          rw [hl]
          exact blk_put HB2.out 0 _ rfl
        · rw [hV.out.2, if_neg (by rw [e]; decide), Int.toNat_natCast, hl]; omega
        · rw [hV.out.2, if_neg (by rw [e]; decide), Int.toNat_natCast]; exact cut_C HR.out (by omega) hc
    · have h0 : (er != 0) = true := by simp [h1]
      have e : rnF below m false = true := by rw [hF.out]; simp [h1]
      go_wp2_with fail
      go_ret
      refine ⟨A, c, ?_, ?_, ?_, ?_, grownBy_trans hG.out (grownBy_set _ _ _ _)⟩
      · rw [hV.out.1, if_pos e]; rfl
      · rw [hV.out.2, if_pos e, e]; exact blk_put HB1.out 1 (.bool true) rfl
      · rw [hV.out.2, if_pos e]; exact hc
      · rw [hV.out.2, if_pos e]; exact HR.out
end Go.Proofs.Ytjcgbjkjkgkklaa.Print

namespace Go.Proofs.Ytjcgbjkjkgkklaa.Print
open Go.RowKit Go.Shelf Go.Proofs.Ytjcgbjkjkgkklaa.Pure Go.Proofs.YtjcgbjkjkgkklaaW.PrintWords Go.Proofs.YtjcgbjkjkgkklaaW.PrintLast Go.Proofs.YtjcgbjkjkgkklaaW.PrintMore
set_option linter.unusedVariables false
set_option linter.unusedSimpArgs false

/-- A row: what it is, what is left, the fault, whether the loop over the states is left. -/
def rowGo (n cls : Int) : Nat → List Int → List Int → Bool → List Int × List Int × Bool × Bool
  | 0, row, m, fl => (row, m, fl, false)
  | k + 1, row, m, fl =>
    if (row.length : Int) < cls then
      (let c1 := cls - row.length + 1
       let v := rnV c1 m fl
       let m1 := rnM c1 m fl
       let f1 := rnF c1 m fl
       let s := rnV n m1 f1
       let m2 := rnM n m1 f1
       let f2 := rnF n m1 f1
       if f2 = true ∨ v = 0 ∨ (0 < row.length ∧ rd row ((row.length : Int) - 1) = s) then (row, m2, true, true) else rowGo n cls k (row ++ List.replicate v.toNat s) m2 f2)
    else (row, m, fl, false)

/-- The states: their rows and whether they are final, what is left, the fault. -/
def loadGo (n cls : Int) : Nat → List (List Int) → List Bool → List Int → Bool → List (List Int) × List Bool × List Int × Bool
  | 0, a, b, m, fl => (a, b, m, fl)
  | k + 1, a, b, m, fl =>
    let r := rowGo n cls 201 [] (m.drop 1) (fl || m.isEmpty)
    if r.2.2.2 = true then (a, b, r.2.1, true) else loadGo n cls k (a ++ [r.1]) (b ++ [rd m 0 == 1]) r.2.1 (r.2.2.1 || decide (1 < rd m 0))

def loadOf (l : List Int) : List (List Int) × List Bool × Int :=
  if 2 ≤ l.length ∧ rd l 0 = 83 ∧ rd l 1 = 68 then
    (let m0 := l.drop 2
     let n := rnV 5001 m0 false
     let m1 := rnM 5001 m0 false
     let f1 := rnF 5001 m0 false
     let cls := rnV 201 m1 f1
     let m2 := rnM 201 m1 f1
     let f2 := rnF 201 m1 f1
     let r := loadGo n cls n.toNat [] [] m2 f2
     if r.2.2.2 = true ∨ 0 < r.2.2.1.length ∨ rightB r.1 r.2.1 = false then ([], [], 2) else (r.1, r.2.1, 0))
  else ([], [], 2)

theorem rnF_true (c : Int) (m : List Int) : rnF c m true = true := by simp [rnF]
theorem rnM_sub (c : Int) (m : List Int) (fl : Bool) {x : Int} (h : x ∈ rnM c m fl) : x ∈ m := by
  unfold rnM at h
  split at h
  · exact h
  · exact List.mem_of_mem_drop h
theorem toldGo_nonneg (b : List Int) (hb : ∀ i : Int, 0 ≤ i → i < b.length → 0 ≤ rd b i) : ∀ (f : Nat) (n wt i : Int), 0 ≤ n → 0 ≤ wt → 0 ≤ i → 0 ≤ (toldGo b f n wt i).1
  | 0, n, wt, i, hn, hw, hi => by simp [toldGo]
  | f + 1, n, wt, i, hn, hw, hi => by
    rw [toldGo]
    split
    · rename_i h1
      have hbi := hb i hi h1.1
      split
      · split
        · simp
        · split
          · simp
          · have := Int.mul_nonneg hbi hw
            show 0 ≤ n + rd b i * wt
            omega
      · have := Int.mul_nonneg (show 0 ≤ rd b i % 128 by omega) hw
        exact toldGo_nonneg b hb f _ _ _ (by omega) (by omega) (by omega)
    · simp
theorem rnV_range {c : Int} {m : List Int} {fl : Bool} (hm : ∀ x ∈ m, 0 ≤ x ∧ x ≤ 255) (hc : 0 < c) : 0 ≤ rnV c m fl ∧ rnV c m fl < c := by
  unfold rnV
  split
  · omega
  · rename_i h
    have h0 : 0 ≤ (toldOf m).1 := toldGo_nonneg m (fun i h0 h1 => (rd_byte hm i h0 h1).1) 6 0 1 0 (by omega) (by omega) (by omega)
    unfold rnF at h
    simp at h
    omega

/-- What the loops of Load keep: the call's first world, the reader, the states so far, the place of the result. -/
structure LInv (w : World) (R B D : Nat) (A : Option Addr) (c : Nat) (m : List Int) (fl : Bool) (vN vF : Value) (b : List Bool) (W : World) : Prop where
  below : Below w.heap.size w W
  rblk : RBlk W B A c m fl
  room : m.length ≤ c
  reads : Kd.C (Kd.int .u8) w A m.length m
  bytes : ∀ x ∈ m, 0 ≤ x ∧ x ≤ 255
  dblk : W.heap[D]? = some (.cells #[vN, vF] 25 (0, 0))
  res : W.heap[R]? = some (.cells #[.slice none 0 0, .slice none 0 0] 25 (0, 0))
  fin : Kd.R Kd.bool 4 W w.heap.size (fun _ => True) vF b
  hB : w.heap.size ≤ B
  hD : w.heap.size ≤ D
  hR : w.heap.size ≤ R
  hDR : D ≠ R

theorem R_reader {α : Type} {d : Kd α} {e : Nat} {W W' : World} {base B : Nat} {ok : Nat → Prop} {v : Value} {xs : List α} {A : Option Addr} {c : Nat} {m : List Int} {fl : Bool} (h : d.R e W base ok v xs) (hB : RBlk W B A c m fl) (ht : ∀ q, q ∈ e :: d.E → q ≠ 52) (hg : W.grownBy W' (some B)) : d.R e W' base ok v xs :=
  Kd.R_mono (Kd.R_grown (Kd.R_types h hB ht) hg (fun k hk e => hk.2 (by simpa using e))) (fun _ hk => hk.1)
theorem S_reader {α : Type} {d : Kd α} {e : Nat} {W W' : World} {base B : Nat} {ok : Nat → Prop} {v : Value} {xs : List α} {A : Option Addr} {c : Nat} {m : List Int} {fl : Bool} (h : Kd.S d e W base ok v xs) (hB : RBlk W B A c m fl) (ht : ∀ q, q ∈ e :: d.E → q ≠ 52) (hg : W.grownBy W' (some B)) : Kd.S d e W' base ok v xs :=
  Kd.S_mono (Kd.S_grown (Kd.S_types h hB ht) hg (fun k hk e => hk.2 (by simpa using e))) (fun _ hk => hk.1)

theorem LInv.read {w W W' : World} {R B D : Nat} {A A' : Option Addr} {c c' : Nat} {m m' : List Int} {fl fl' : Bool} {vN vF : Value} {b : List Bool} (h : LInv w R B D A c m fl vN vF b W) (hg : W.grownBy W' (some B)) (h1 : RBlk W' B A' c' m' fl') (h2 : m'.length ≤ c')
    (h3 : Kd.C (Kd.int .u8) w A' m'.length m') (h4 : ∀ x ∈ m', x ∈ m) : LInv w R B D A' c' m' fl' vN vF b W' :=
  ⟨h.below.grown hg h.below.size (fun k e => by injection e with e; rw [← e]; exact h.hB), h1, h2, h3, fun x hx => h.bytes x (h4 x hx), blk_grown h.dblk hg (fun e => blk_ne h.dblk h.rblk (by decide) (by simpa using e)), blk_grown h.res hg (fun e => blk_ne h.res h.rblk (by decide) (by simpa using e)),
    R_reader h.fin h.rblk (by decide) hg, h.hB, h.hD, h.hR, h.hDR⟩

/-- A row of numbers of the call's own has grown. -/
theorem LInv.row {w W W' : World} {R B D : Nat} {A : Option Addr} {c : Nat} {m : List Int} {fl : Bool} {vN vF v : Value} {b : List Bool} {row : List Int} {ok : Nat → Prop} (h : LInv w R B D A c m fl vN vF b W) (hv : Kd.R (Kd.int .i64) 3 W w.heap.size ok v row) (hg : W.grownBy W' v.ownBlock) (hb : Below w.heap.size w W') : LInv w R B D A c m fl vN vF b W' :=
  ⟨hb, blk_grown h.rblk hg (Kd.R_ne hv h.rblk (by decide)), h.room, h.reads, h.bytes, blk_grown h.dblk hg (Kd.R_ne hv h.dblk (by decide)), blk_grown h.res hg (Kd.R_ne hv h.res (by decide)),
    Kd.R_over' h.fin (Kd.R_typed hv) (by decide) hg, h.hB, h.hD, h.hR, h.hDR⟩
theorem LInv.flag {w W : World} {R B D : Nat} {A : Option Addr} {c : Nat} {m : List Int} {fl : Bool} {vN vF : Value} {b : List Bool} (h : LInv w R B D A c m fl vN vF b W) (f : Bool) : LInv w R B D A c m f vN vF b (W.setCell ⟨B, 1, none⟩ (.bool f)) :=
  h.read (grownBy_set _ _ _ _) (blk_put h.rblk 1 (.bool f) rfl) h.room h.reads (fun _ h => h)
theorem LInv.alloc {w W : World} {R B D : Nat} {A : Option Addr} {c : Nat} {m : List Int} {fl : Bool} {vN vF : Value} {b : List Bool} (h : LInv w R B D A c m fl vN vF b W) (o : Obj) : LInv w R B D A c m fl vN vF b (W.alloc o) :=
  ⟨below_alloc h.below o, blk_alloc h.rblk o, h.room, h.reads, h.bytes, blk_alloc h.dblk o, blk_alloc h.res o, Kd.R_alloc h.fin o, h.hB, h.hD, h.hR, h.hDR⟩
theorem LInv.drew {w W : World} {R B D : Nat} {A : Option Addr} {c : Nat} {m : List Int} {fl : Bool} {vN vF : Value} {b : List Bool} (h : LInv w R B D A c m fl vN vF b W) : LInv w R B D A c m fl vN vF b W.drew :=
  ⟨below_drew1 h.below, blk_drew h.rblk, h.room, h.reads, h.bytes, blk_drew h.dblk, blk_drew h.res, Kd.R_drew h.fin, h.hB, h.hD, h.hR, h.hDR⟩
/-- The row of the states has grown. -/
theorem LInv.next {w W W' : World} {R B D : Nat} {A : Option Addr} {c : Nat} {m : List Int} {fl : Bool} {vN vF : Value} {b : List Bool} {a : List (List Int)} {ok : Nat → Prop} (h : LInv w R B D A c m fl vN vF b W) (hv : Kd.S (Kd.slice 3 (Kd.int .i64)) 43 W w.heap.size ok vN a) (hg : W.grownBy W' vN.ownBlock) : LInv w R B D A c m fl vN vF b W' :=
  ⟨h.below.grown hg h.below.size (fun k e => Kd.S_base hv k e), blk_grown h.rblk hg (Kd.S_ne hv h.rblk (by decide)), h.room, h.reads, h.bytes, blk_grown h.dblk hg (Kd.S_ne hv h.dblk (by decide)), blk_grown h.res hg (Kd.S_ne hv h.res (by decide)),
    Kd.R_over' h.fin (Kd.S_typed hv) (by decide) hg, h.hB, h.hD, h.hR, h.hDR⟩
/-- The whole round's end: both are stored. -/
theorem LInv.done {w W W' : World} {R B D : Nat} {A : Option Addr} {c : Nat} {m : List Int} {fl : Bool} {vN vF vN' vF' : Value} {b b' : List Bool} (h : LInv w R B D A c m fl vN vF b W) (hg : W.grownBy W' vF.ownBlock) (hF : Kd.R Kd.bool 4 W' w.heap.size (fun _ => True) vF' b') :
    LInv w R B D A c m fl vN' vF' b' ((W'.setCell ⟨D, 0, none⟩ vN').setCell ⟨D, 1, none⟩ vF') := by
  have e1 := Kd.R_ne h.fin h.rblk (by decide)
  have e2 := Kd.R_ne h.fin h.dblk (by decide)
  have e3 := Kd.R_ne h.fin h.res (by decide)
  have hd := blk_grown h.dblk hg e2
  have hd1 := blk_put hd 0 vN' rfl
  have hb := blk_grown h.rblk hg e1
  have hr := blk_grown h.res hg e3
  have hne : B ≠ D := fun e => blk_ne h.rblk h.dblk (by decide) e
  exact ⟨((h.below.grown hg h.below.size (fun k e => Kd.R_base h.fin k e)).setCell (p := ⟨D, 0, none⟩) h.hD _).setCell (p := ⟨D, 1, none⟩) h.hD _, blk_far (p := ⟨D, 1, none⟩) (blk_far (p := ⟨D, 0, none⟩) hb hne _) hne _, h.room, h.reads, h.bytes, blk_put hd1 1 vF' rfl,
    blk_far (p := ⟨D, 1, none⟩) (blk_far (p := ⟨D, 0, none⟩) hr (Ne.symm h.hDR) _) (Ne.symm h.hDR) _,
    Kd.R_mono (Kd.R_grown (Kd.R_types (Kd.R_mono (Kd.R_grown (Kd.R_types hF hd (by decide)) (grownBy_set W' D 0 vN') (fun k hk e => hk.2 (by simpa using e))) (fun _ hk => hk.1)) hd1 (by decide)) (grownBy_set _ D 1 vF') (fun k hk e => hk.2 (by simpa using e))) (fun _ hk => hk.1), h.hB, h.hD, h.hR, h.hDR⟩

/-- An append in a drawing region, wherever the appended cells lie. -/
theorem R_app_step {α : Type} (d : Kd α) {P : Program} {ops : Array Oper} {o : Oper} {a : Act} {W : World} {Q : Exit → Act → World → Prop} {Kc : Act → World → Prop} (base : Nat) (hw : Region.wanted o (yielded ops a.tmps) = true) (s x : Operand) (t e : TypeId) (i : TypeInfo) (z : Value) (bytes : Nat)
    (ho : o.op = .call { callee := .builtin .append, args := #[s, x], argTypes := #[t, t] })
    (ht : P.underlying t = some (.slice e)) (hi : P.info? e = some i) (hz : i.zero = some z) (hsize : i.size = d.sz) (hby : i.bytes = bytes) (hzs : z.cells.size = d.sz) (hsz : 0 < d.sz)
    (v : Value) (xs : List α) (p : α) (cs : List Value) (ok okp : Nat → Prop) (hs : a.eval s = v) (ad : Addr) (hx : a.eval x = .slice (some ad) 1 1) (hcells : ∀ j u, cs[j]? = some u → W.cell? (ad.add j) = some u) (hp : d.M W base okp p cs)
    (hokp : ∀ k, okp k → ok k ∧ some k ≠ v.ownBlock) (hfresh : ∀ k, W.heap.size ≤ k → ok k) (HO : d.R e W base ok v xs) (hbase : base ≤ W.heap.size) (h63 : xs.length + 1 ≤ maxLen) (hl : (xs.length + 1) * bytes ≤ 140737488355328)
    (h : ∀ v1 w1, d.R e w1 base ok v1 (xs ++ [p]) → W.grownBy w1 v.ownBlock → (v1.ownBlock = v.ownBlock ∨ ∃ b, v1.ownBlock = some b ∧ W.heap.size ≤ b) → Kc (a.put o.dst v1) w1) :
    if Region.wanted o (yielded ops a.tmps) = true then Oper.wp P o a W Kc Q else Kc (a.put o.dst undef) W := by
  rw [if_pos hw]
  obtain ⟨h0, inner, hown, hr⟩ := HO
  obtain ⟨v', w', hrun, h2, h3, h4, h5⟩ := run_append_own_at (P := P) (w := W) base t o.type e i z d.sz bytes ht hi hz hsize hby hzs hsz v xs.length inner hown ad 1 1 cs (by rw [d.K_len (d.K_of_M hp), Nat.one_mul]) hcells (d.K_one (d.K_of_M hp)) h63 hl hbase
  have hat : v'.ownBlock = v.ownBlock ∨ ∃ b, v'.ownBlock = some b ∧ W.heap.size ≤ b := h5.elim .inl (fun e => .inr ⟨_, e, Nat.le_refl _⟩)
  unfold Oper.wp execOp
  simp only [ho, resolve, invoke, builtin, Sem.run_bind, Sem.run_pure, Result.andThen_ok, List.map_toArray, List.map_cons, List.map_nil, hs, hx, hrun]
  exact h v' w' (Kd.R_appended h0 hr hp hokp hfresh h2 h3 hat) h3 hat

theorem S_app_step {α : Type} (d : Kd α) {P : Program} {ops : Array Oper} {o : Oper} {a : Act} {W : World} {Q : Exit → Act → World → Prop} {Kc : Act → World → Prop} (base : Nat) (hw : Region.wanted o (yielded ops a.tmps) = true) (s x : Operand) (t e : TypeId) (i : TypeInfo) (z : Value) (bytes : Nat)
    (ho : o.op = .call { callee := .builtin .append, args := #[s, x], argTypes := #[t, t] })
    (ht : P.underlying t = some (.slice e)) (hi : P.info? e = some i) (hz : i.zero = some z) (hsize : i.size = d.sz) (hby : i.bytes = bytes) (hzs : z.cells.size = d.sz) (hsz : 0 < d.sz)
    (v : Value) (xs : List α) (p : α) (cs : List Value) (ok okp : Nat → Prop) (hs : a.eval s = v) (ad : Addr) (hx : a.eval x = .slice (some ad) 1 1) (hcells : ∀ j u, cs[j]? = some u → W.cell? (ad.add j) = some u) (hp : d.M W base okp p cs)
    (hokp : ∀ k, okp k → ok k ∧ some k ≠ v.ownBlock) (hfresh : ∀ k, W.heap.size ≤ k → ok k) (HO : Kd.S d e W base (fun k => ok k ∧ ¬ okp k) v xs) (hbase : base ≤ W.heap.size) (h63 : xs.length + 1 ≤ maxLen) (hl : (xs.length + 1) * bytes ≤ 140737488355328)
    (h : ∀ v1 w1, Kd.S d e w1 base ok v1 (xs ++ [p]) → W.grownBy w1 v.ownBlock → (v1.ownBlock = v.ownBlock ∨ ∃ b, v1.ownBlock = some b ∧ W.heap.size ≤ b) → Kc (a.put o.dst v1) w1) :
    if Region.wanted o (yielded ops a.tmps) = true then Oper.wp P o a W Kc Q else Kc (a.put o.dst undef) W := by
  obtain ⟨f, hf, hR⟩ := Kd.S_tag HO xs.length okp (fun _ hk h2 => h2.2 hk)
  refine R_app_step (Kd.tag f d) base hw s x t e i z bytes ho ht hi hz hsize hby hzs hsz v xs.zipIdx (p, xs.length) cs ok okp hs ad hx hcells (d.M_mono (fun k hk => ⟨hk, hf k hk⟩) hp) hokp hfresh (Kd.R_mono hR (fun _ hk => hk.1)) hbase (by rw [List.length_zipIdx]; exact h63) (by rw [List.length_zipIdx]; exact hl) ?_
  intro v1 w1 hr
  rw [← Kd.zip_snoc] at hr
  exact h v1 w1 ⟨f, hr⟩
end Go.Proofs.Ytjcgbjkjkgkklaa.Print

namespace Go.Proofs.Ytjcgbjkjkgkklaa.Print
open Go.RowKit Go.Shelf Go.Proofs.Ytjcgbjkjkgkklaa.Pure Go.Proofs.YtjcgbjkjkgkklaaW.PrintWords Go.Proofs.YtjcgbjkjkgkklaaW.PrintLast Go.Proofs.YtjcgbjkjkgkklaaW.PrintMore
set_option linter.unusedVariables false
set_option linter.unusedSimpArgs false

theorem sd_C (W : World) : Kd.C (Kd.int .u8) (W.alloc (.cells #[.int .u8 83, .int .u8 68] 5 (2, 3))) (some ⟨W.heap.size, 0, none⟩) 2 [83, 68] := by
  refine ⟨rfl, by omega, fun _ => ⟨_, rfl, fun j p hj => ⟨[.int .u8 p], rfl, rfl, fun i u hi => ?_⟩⟩⟩
  have hb := World.alloc_heap_new W (.cells #[.int .u8 83, .int .u8 68] 5 (2, 3))
  match i, hi with
  | 0, hi =>
    cases hi
    match j, hj with
    | 0, hj => cases hj; exact (cell_of_row _ _ 0 _ _ _ hb).trans rfl
    | 1, hj => cases hj; exact (cell_of_row _ _ 1 _ _ _ hb).trans rfl
    | j + 2, hj => simp at hj
  | i + 1, hi => simp at hi

theorem load_end {tmps : Array Value} {W : World} {R : Nat} {vN vF : Value} {e : Int} (h2 : tmps.getD 2 undef = .pointer (some ⟨R, 0, none⟩)) (h3 : tmps.getD 3 undef = .int .i64 e) (hR : W.heap[R]? = some (.cells #[vN, vF] 25 (0, 0))) :
    (results Try.f17 tmps).run Try.prog W = .ok (.tuple #[.agg #[vN, vF], .int .i64 e]) W := by
  have := results_ct (P := Try.prog) (fn := Try.f17) (p := 2) (u := 3) (ty := 25) rfl tmps W R 25 #[vN, vF] (0, 0) _ h2 hR Try.underlying25 rfl (by kernel_rfl)
  rw [h3] at this
  exact this
theorem R_blk {α : Type} {d : Kd α} {e g t : Nat} {W W' : World} {base : Nat} {ok : Nat → Prop} {v : Value} {xs : List α} {cells : Array Value} (h : d.R e W base ok v xs) (hb : W.heap[g]? = some (.cells cells t (0, 0))) (ht : ∀ q, q ∈ e :: d.E → q ≠ t) (hg : W.grownBy W' (some g)) : d.R e W' base ok v xs :=
  Kd.R_mono (Kd.R_grown (Kd.R_types h hb ht) hg (fun k hk e => hk.2 (by simpa using e))) (fun _ hk => hk.1)
theorem S_blk {α : Type} {d : Kd α} {e g t : Nat} {W W' : World} {base : Nat} {ok : Nat → Prop} {v : Value} {xs : List α} {cells : Array Value} (h : Kd.S d e W base ok v xs) (hb : W.heap[g]? = some (.cells cells t (0, 0))) (ht : ∀ q, q ∈ e :: d.E → q ≠ t) (hg : W.grownBy W' (some g)) : Kd.S d e W' base ok v xs :=
  Kd.S_mono (Kd.S_grown (Kd.S_types h hb ht) hg (fun k hk e => hk.2 (by simpa using e))) (fun _ hk => hk.1)

/-- What packed.Load answers with. -/
def LoadPost (l0 : List Int) (w : World) (e : Ending) (w' : World) : Prop := ∃ v0_ v1_ : Value, e = .returned (.tuple #[.agg #[v0_, v1_], .int .i64 (loadOf l0).2.2]) ∧ Kd.S (Kd.slice 3 (Kd.int .i64)) 43 w' w.heap.size (fun _ => True) v0_ (loadOf l0).1 ∧ Kd.R Kd.bool 4 w' w.heap.size (fun _ => True) v1_ (loadOf l0).2.1 ∧ Below w.heap.size w w'

theorem load_bad {l0 : List Int} {w W : World} {a : Act} (hE : loadOf l0 = ([], [], 2)) (hX : W.heap[w.heap.size]? = some (.cells #[.slice none 0 0, .slice none 0 0] 25 (0, 0))) (hB : Below w.heap.size w W) (h2 : a.tmps.getD 2 undef = .pointer (some ⟨w.heap.size, 0, none⟩)) (h3 : a.tmps.getD 3 undef = .int .i64 2) (hd : a.defers = []) :
    bodyPost Try.prog Try.f17 (LoadPost l0 w) .ret a ((W.setCell ⟨w.heap.size, 0, none⟩ (.slice none 0 0)).setCell ⟨w.heap.size, 1, none⟩ (.slice none 0 0)) := by
  have h := blk_put (blk_put hX 0 (.slice none 0 0) rfl) 1 (.slice none 0 0) rfl
  refine bodyPost_ret (load_end h2 h3 h) hd ⟨_, _, by rw [hE], ?_, ?_, (hB.setCell (p := ⟨w.heap.size, 0, none⟩) (Nat.le_refl _) _).setCell (p := ⟨w.heap.size, 1, none⟩) (Nat.le_refl _) _⟩
  · rw [hE]; exact Kd.S_nil _ _ _ _ _
  · rw [hE]; exact Kd.R_nil _ _ _ _ _

theorem load_ok {l0 : List Int} {w W : World} {a : Act} {vN vF : Value} {x : List (List Int)} {y : List Bool} (hE : loadOf l0 = (x, y, 0)) (hX : W.heap[w.heap.size]? = some (.cells #[.slice none 0 0, .slice none 0 0] 25 (0, 0))) (hB : Below w.heap.size w W)
    (hS : Kd.S (Kd.slice 3 (Kd.int .i64)) 43 W w.heap.size (fun _ => True) vN x) (hF : Kd.R Kd.bool 4 W w.heap.size (fun _ => True) vF y) (h2 : a.tmps.getD 2 undef = .pointer (some ⟨w.heap.size, 0, none⟩)) (h3 : a.tmps.getD 3 undef = .int .i64 0) (hd : a.defers = []) :
    bodyPost Try.prog Try.f17 (LoadPost l0 w) .ret a ((W.setCell ⟨w.heap.size, 0, none⟩ vN).setCell ⟨w.heap.size, 1, none⟩ vF) := by
  have hX1 := blk_put hX 0 vN rfl
  have h := blk_put hX1 1 vF rfl
  refine bodyPost_ret (load_end h2 h3 h) hd ⟨_, _, by rw [hE], ?_, ?_, (hB.setCell (p := ⟨w.heap.size, 0, none⟩) (Nat.le_refl _) _).setCell (p := ⟨w.heap.size, 1, none⟩) (Nat.le_refl _) _⟩
  · rw [hE]; exact S_blk (S_blk hS hX (by decide) (grownBy_set _ _ _ _)) hX1 (by decide) (grownBy_set _ _ _ _)
  · rw [hE]; exact R_blk (R_blk hF hX (by decide) (grownBy_set _ _ _ _)) hX1 (by decide) (grownBy_set _ _ _ _)

def load_T19 : Bool × List (List Nat × List Nat) := (true, [([], []), ([0], [0]), ([], []), ([2], [2]), ([1, 3], [1, 3]), ([], []), ([5], [5]), ([], []), ([7], [7]), ([8], [8]), ([6, 9, 4], [6, 9]), ([0, 1, 2, 3, 4, 5, 6], []), ([11, 4, 10, 0, 1, 2, 3, 4, 5, 6], [4, 11]), ([0, 1, 2, 3, 4, 5, 6, 7, 8, 9, 10, 11, 12], []), ([13, 10, 12, 0, 1, 2, 3, 4, 5, 6, 7, 8, 9, 10, 11, 12], [10, 13])])
def load_B19 : List Nat := [0, 1, 0, 4, 15, 0, 32, 0, 128, 384, 1023, 127, 4095, 8191, 16383]
theorem load_tab19 : rtab .any (opsOf Try.f17 19) = load_T19 := by kernel_rfl
theorem load_bits19 : waitsOk load_T19.2 load_B19 = true := by kernel_rfl
theorem cell_one {W : World} {g t : Nat} {v : Value} (h : W.heap[g]? = some (.cells #[v] t (0, 0))) : ∀ j u, [v][j]? = some u → W.cell? ((⟨g, 0, none⟩ : Addr).add j) = some u := by
  intro j u hj
  match j, hj with
  | 0, hj => cases hj; exact (blk_cell h 0).trans rfl
  | j + 1, hj => simp at hj

set_option maxRecDepth 100000 in
set_option maxHeartbeats 16000000 in
theorem packed_Load_calls (A0 : Option Addr) (c0 : Nat) (l0 : List Int) (w : World) (hr0 : Kd.C (Kd.int .u8) w A0 l0.length l0) (hc0 : l0.length ≤ c0) (hby : ∀ x ∈ l0, 0 ≤ x ∧ x ≤ 255) :
    Calls Try.prog 17 #[.slice A0 l0.length c0] w (LoadPost l0 w) := by
  have HR0 := Aside0.mk hr0
  have HBY := Aside0.mk hby
  have hcv := Go.Lib.run_convert_bytes_const (P := Try.prog) (w.alloc (.cells #[.slice none 0 0, .slice none 0 0] 25)) 28 5 #[.int .u8 83, .int .u8 68] 2 2 Try.underlying28 Try.underlying5
  have hcv' : (convert 28 28 (.slice (some ⟨w.heap.size + 1, 0, none⟩) 2 2)).run Try.prog ((w.alloc (.cells #[.slice none 0 0, .slice none 0 0] 25)).alloc (.cells #[.int .u8 83, .int .u8 68] 5)) = .ok (.slice (some ⟨w.heap.size + 1, 0, none⟩) 2 2) ((w.alloc (.cells #[.slice none 0 0, .slice none 0 0] 25)).alloc (.cells #[.int .u8 83, .int .u8 68] 5 (2, 3))) := by simpa using hcv
  clear hr0 hcv hby
  go_enter Try.func17, Try.ntmps17
  go_wp2
  go_step3
  go_wp2_with fail
  refine (bytes_HasPrefix.calls A0 c0 l0 (some ⟨w.heap.size + 1, 0, none⟩) 2 [83, 68] _ _ ?a1 hc0 ?a2 (by simp) (prefix_f l0 HBY.out)).mono ?_
  case a1 => exact Kd.C_alloc (Kd.C_alloc HR0.out _) _
  case a2 => have := sd_C (w.alloc (.cells #[.slice none 0 0, .slice none 0 0] 25)); simpa using this
  rintro e w1 ⟨rfl, nd, rfl⟩
  have HB1 := Aside0.mk (show Below w.heap.size w (((w.alloc (.cells #[.slice none 0 0, .slice none 0 0] 25)).alloc (.cells #[.int .u8 83, .int .u8 68] 5 (2, 3))).drewN nd) from pw_below_drewN (below_alloc (below_alloc (Below.refl _ _) _) _) _)
  have HX1 := Aside0.mk (show (((w.alloc (.cells #[.slice none 0 0, .slice none 0 0] 25)).alloc (.cells #[.int .u8 83, .int .u8 68] 5 (2, 3))).drewN nd).heap[w.heap.size]? = some (.cells #[.slice none 0 0, .slice none 0 0] 25 (0, 0)) from blk_drewN (blk_alloc (blk_new _ _) _) _)
  have HS1 := Aside0.mk (show w.heap.size + 2 = (((w.alloc (.cells #[.slice none 0 0, .slice none 0 0] 25)).alloc (.cells #[.int .u8 83, .int .u8 68] 5 (2, 3))).drewN nd).heap.size by simp)
  clear hcv'
  generalize (((w.alloc (.cells #[.slice none 0 0, .slice none 0 0] 25)).alloc (.cells #[.int .u8 83, .int .u8 68] 5 (2, 3))).drewN nd) = w1 at *
  by_cases hp : 2 ≤ l0.length ∧ rd l0 0 = 83 ∧ rd l0 1 = 68
  · rw [decide_eq_true hp]
    have HP := Aside0.mk hp
    have hp2 : 2 ≤ l0.length := hp.1
    clear hp
    obtain ⟨i0, hi, hz0, hz1, hz2⟩ := info_parts info5
    have hcut : ∀ W', (Instr.slice 28 (.slice A0 l0.length c0) (some (.int .i64 2)) none none).run Try.prog W' = .ok (.slice (cutA A0 c0 2) (l0.length - 2) (c0 - 2)) W' := fun W' => cut_run (P := Try.prog) 28 5 .i64 Try.underlying28 hi hz1 A0 l0.length c0 2 hp2 W'
    go_wp2_with fail
    obtain ⟨m0, hm0⟩ : ∃ m, l0.drop 2 = m := ⟨_, rfl⟩
    have hl0 : l0.length - 2 = m0.length := by rw [← hm0]; exact List.length_drop.symm
    have hc2 : m0.length ≤ c0 - 2 := by omega
    have hr2 : Kd.C (Kd.int .u8) w (cutA A0 c0 2) m0.length m0 := by rw [← hm0]; exact cut_C HR0.out hp2 hc0
    have hb2 : ∀ x ∈ m0, 0 ≤ x ∧ x ≤ 255 := fun x hx => HBY.out x (by rw [← hm0] at hx; exact List.mem_of_mem_drop hx)
    rw [hl0]
    have HM0 := Aside0.mk hm0
    have hs1 : w.heap.size ≤ w1.heap.size := HB1.out.size
    have hB2 : Below w.heap.size w (w1.alloc (.cells #[.slice (cutA A0 c0 2) m0.length (c0 - 2), .bool false] 52)) := HB1.out.alloc hs1 _
    have hX2 := blk_alloc HX1.out (.cells #[.slice (cutA A0 c0 2) m0.length (c0 - 2), .bool false] 52)
    clear hcut hm0 hl0
    refine (readN_calls 5001 w (cutA A0 c0 2) (c0 - 2) m0 hb2 hr2 hc2 w1.heap.size false _ hB2 hs1 (blk_new w1 _)).mono ?_
    rintro e w2 ⟨A2, c2, rfl, hq2, hc3, hr3, hg2⟩
    have HB2 := Aside0.mk (hB2.grown hg2 hB2.size (fun k e => by injection e with e; rw [← e]; exact hs1))
    have HX2 := Aside0.mk (blk_grown hX2 hg2 (fun e => blk_ne hX2 (blk_new w1 _) (by decide) (by simpa using e)))
    have hb3 : ∀ x ∈ rnM 5001 m0 false, 0 ≤ x ∧ x ≤ 255 := fun x hx => hb2 x (rnM_sub _ _ _ hx)
    have HV1 := Aside0.mk (rnV_range (c := 5001) (fl := false) hb2 (by omega))
    have HE1 := Aside0.mk (show loadOf l0 = (let n := rnV 5001 m0 false
     let m1 := rnM 5001 m0 false
     let f1 := rnF 5001 m0 false
     let cls := rnV 201 m1 f1
     let m2 := rnM 201 m1 f1
     let f2 := rnF 201 m1 f1
     let r := loadGo n cls n.toNat [] [] m2 f2
     if r.2.2.2 = true ∨ 0 < r.2.2.1.length ∨ rightB r.1 r.2.1 = false then ([], [], 2) else (r.1, r.2.1, 0)) by unfold loadOf; rw [if_pos HP.out, HM0.out])
    obtain ⟨B, hB⟩ : ∃ B, w1.heap.size = B := ⟨_, rfl⟩
    rw [hB] at hq2 hg2 hs1 ⊢
    clear hB2 hX2 hg2
    obtain ⟨n, hn⟩ : ∃ n, rnV 5001 m0 false = n := ⟨_, rfl⟩
    obtain ⟨m1, hm1⟩ : ∃ m, rnM 5001 m0 false = m := ⟨_, rfl⟩
    obtain ⟨f1, hf1⟩ : ∃ f, rnF 5001 m0 false = f := ⟨_, rfl⟩
    simp only [hn, hm1, hf1] at hq2 hc3 hr3 HV1 HE1 hb3 ⊢
    clear hn hm1 hf1 hc2 hr2 hb2 hB
    go_wp2_with fail
    refine (readN_calls 201 w A2 c2 m1 hb3 hr3 hc3 B f1 _ HB2.out hs1 hq2).mono ?_
    rintro e w3 ⟨A3, c3, rfl, hq3, hc4, hr4, hg3⟩
    have HB3 := Aside0.mk (HB2.out.grown hg3 HB2.out.size (fun k e => by injection e with e; rw [← e]; exact hs1))
    have HX3 := Aside0.mk (blk_grown HX2.out hg3 (fun e => blk_ne HX2.out hq2 (by decide) (by simpa using e)))
    have hb4 : ∀ x ∈ rnM 201 m1 f1, 0 ≤ x ∧ x ≤ 255 := fun x hx => hb3 x (rnM_sub _ _ _ hx)
    have HV2 := Aside0.mk (rnV_range (c := 201) (fl := f1) hb3 (by omega))
    clear hg3 hq2 hc3 hr3 hb3
    obtain ⟨cls, hcls⟩ : ∃ n, rnV 201 m1 f1 = n := ⟨_, rfl⟩
    obtain ⟨m2, hm2⟩ : ∃ m, rnM 201 m1 f1 = m := ⟨_, rfl⟩
    obtain ⟨f2, hf2⟩ : ∃ f, rnF 201 m1 f1 = f := ⟨_, rfl⟩
    simp only [hcls, hm2, hf2] at hq3 hc4 hr4 HV2 HE1 hb4 ⊢
    clear hcls hm2 hf2
    have hs3 : w.heap.size ≤ w3.heap.size := HB3.out.size
    have HL := Aside0.mk (show LInv w w.heap.size B w3.heap.size A3 c3 m2 f2 (.slice none 0 0) (.slice none 0 0) [] (w3.alloc (.cells #[.slice none 0 0, .slice none 0 0] 25)) from
      ⟨HB3.out.alloc hs3 _, blk_alloc hq3 _, hc4, hr4, hb4, blk_new w3 _, blk_alloc HX3.out _, Kd.R_nil _ _ _ _ _, hs1, hs3, Nat.le_refl _, by have := blk_lt HX3.out; omega⟩)
    clear hq3 hc4 hr4 hb4
    go_wp2_with fail
    go_step3
    go_wp2_with fail
    obtain ⟨fin, hfin⟩ : ∃ r, loadGo n cls n.toNat [] [] m2 f2 = r := ⟨_, rfl⟩
    have hD0 : w.heap.size ≤ w3.heap.size := hs3
    rw [hfin] at HE1
    have HFIN := Aside0.mk hfin
    have hn0 := HV1.out
    have hc00 := HV2.out
    obtain ⟨D, hD⟩ : ∃ D, w3.heap.size = D := ⟨_, rfl⟩
    rw [hD] at HL ⊢
    clear hfin hs3 hD0 hD HB2 HX2 HB3 HX3 HX1 HB1 HS1 HM0
    go_loopg [27] (n.toNat + 1) (fun gk v27 wr => ∃ (i : Nat) (a : List (List Int)) (b : List Bool) (m : List Int) (fl : Bool) (A : Option Addr) (c : Nat) (vN vF : Value), v27 = .int .i64 i ∧ (i : Int) ≤ n ∧ n.toNat - i < gk ∧ Aside0 (a.length = i) ∧ Aside0 (b.length = i) ∧ Aside0 (loadGo n cls (n.toNat - i) a b m fl = fin) ∧ Aside0 (LInv w w.heap.size B D A c m fl vN vF b wr) ∧ Aside0 (Kd.S (Kd.slice 3 (Kd.int .i64)) 43 wr w.heap.size (fun _ => True) vN a))
    case atStart => exact ⟨0, [], [], m2, f2, A3, c3, _, _, rfl, by omega, by omega, ⟨rfl⟩, ⟨rfl⟩, HFIN, HL, ⟨Kd.S_nil _ _ _ _ _⟩⟩
    case round =>
      clear HL HFIN
      obtain ⟨i, a, b, m, fl, A, c, vN, vF, rfl, hi, hgk, HAL, HBL, HG, HL, HS⟩ := hrel
      by_cases hlt : (i : Int) < n
      · obtain ⟨k, hk⟩ : ∃ k, n.toNat - i = k + 1 := ⟨n.toNat - i - 1, by omega⟩
        rw [hk] at HG
        go_wp2_with fail
        refine (byte_calls w A c m HL.out.reads HL.out.room B fl _ HL.out.below HL.out.hB HL.out.rblk).mono ?_
        rintro e w4 ⟨A4, c4, rfl, hq4, hc4, hr4, hg4⟩
        have HS4 := Aside0.mk (S_reader HS.out HL.out.rblk (by decide) hg4)
        have HL4 := Aside0.mk (HL.out.read hg4 hq4 hc4 hr4 (fun x hx => List.mem_of_mem_drop hx))
        clear hg4 hq4 hc4 hr4
        obtain ⟨rr, hrr⟩ : ∃ r, rowGo n cls 201 [] (m.drop 1) (fl || m.isEmpty) = r := ⟨_, rfl⟩
        have HG4 := Aside0.mk (show (if rr.2.2.2 = true then (a, b, rr.2.1, true) else loadGo n cls k (a ++ [rr.1]) (b ++ [rd m 0 == 1]) rr.2.1 (rr.2.2.1 || decide (1 < rd m 0))) = fin by rw [← HG.out, loadGo, hrr])
        have HRR := Aside0.mk hrr
        clear hrr HG
        go_wp2_with fail
        obtain ⟨g1, hg1⟩ : ∃ g, gk = g := ⟨_, rfl⟩
        go_loopg [9] 202 (fun gk2 v9 wr2 => ∃ (row : List Int) (k2 : Nat) (m' : List Int) (fl' : Bool) (A' : Option Addr) (c' : Nat), k2 < gk2 ∧ 201 ≤ k2 + row.length ∧ (row.length : Int) ≤ cls ∧ Aside0 (rowGo n cls k2 row m' fl' = rr) ∧ Aside0 (Kd.R (Kd.int .i64) 3 wr2 w.heap.size (fun _ => True) v9 row) ∧ Aside0 (LInv w w.heap.size B D A' c' m' fl' vN vF b wr2) ∧ Aside0 (Kd.S (Kd.slice 3 (Kd.int .i64)) 43 wr2 w.heap.size (fun k_ => some k_ ≠ (v9 : Value).ownBlock) vN a))
        case atStart => exact ⟨[], 201, _, _, A4, c4, by omega, by simp, by simp; omega, HRR, ⟨Kd.R_nil _ _ _ _ _⟩, HL4, ⟨Kd.S_mono HS4.out (fun _ _ => by simp [Value.ownBlock])⟩⟩
        case round =>
          clear HS4 HL4 HRR HS HL
          obtain ⟨row, k2, m', fl', A', c', hk2, hkr, hrl, HRR, HW, HL, HS⟩ := hrel
          obtain ⟨A9, c9, rfl⟩ := Kd.R_slice HW.out
          by_cases hlt2 : (row.length : Int) < cls
          · obtain ⟨k3, rfl⟩ : ∃ k3, k2 = k3 + 1 := ⟨k2 - 1, by omega⟩
            have HV3 := Aside0.mk (rnV_range (c := cls - row.length + 1) (fl := fl') HL.out.bytes (by omega))
            go_wp2_with fail
            refine (readN_calls (cls - row.length + 1) w A' c' m' HL.out.bytes HL.out.reads HL.out.room B fl' _ HL.out.below HL.out.hB HL.out.rblk).mono ?_
            rintro e w5 ⟨A5, c5, rfl, hq5, hc5, hr5, hg5⟩
            have HS5 := Aside0.mk (S_reader HS.out HL.out.rblk (by decide) hg5)
            have HW5 := Aside0.mk (R_reader HW.out HL.out.rblk (by decide) hg5)
            have HL5 := Aside0.mk (HL.out.read hg5 hq5 hc5 hr5 (fun x hx => rnM_sub _ _ _ hx))
            have HRRa := Aside0.mk (show (if (row.length : Int) < cls then
                  (let c1 := cls - row.length + 1
                   let v := rnV c1 m' fl'
                   let m1 := rnM c1 m' fl'
                   let f1 := rnF c1 m' fl'
                   let s := rnV n m1 f1
                   let m2 := rnM n m1 f1
                   let f2 := rnF n m1 f1
                   if f2 = true ∨ v = 0 ∨ (0 < row.length ∧ rd row ((row.length : Int) - 1) = s) then (row, m2, true, true) else rowGo n cls k3 (row ++ List.replicate v.toNat s) m2 f2)
                else (row, m', fl', false)) = rr from by rw [← HRR.out, rowGo])
            have HRR5 := Aside0.mk ((if_pos hlt2).symm.trans HRRa.out)
            clear HRRa
            clear hg5 hq5 hc5 hr5 HS HW HL HRR
            dsimp only at HRR5
            obtain ⟨v, hv⟩ : ∃ n, rnV (cls - row.length + 1) m' fl' = n := ⟨_, rfl⟩
            obtain ⟨mm1, hmm1⟩ : ∃ m, rnM (cls - row.length + 1) m' fl' = m := ⟨_, rfl⟩
            obtain ⟨ff1, hff1⟩ : ∃ f, rnF (cls - row.length + 1) m' fl' = f := ⟨_, rfl⟩
            simp only [hv, hmm1, hff1] at HL5 HRR5 HV3 ⊢
            clear hv hmm1 hff1
            have hv0 := HV3.out
            go_wp2_with fail
            refine (readN_calls n w A5 c5 mm1 HL5.out.bytes HL5.out.reads HL5.out.room B ff1 _ HL5.out.below HL5.out.hB HL5.out.rblk).mono ?_
            rintro e w6 ⟨A6, c6, rfl, hq6, hc6, hr6, hg6⟩
            have HS6 := Aside0.mk (S_reader HS5.out HL5.out.rblk (by decide) hg6)
            have HW6 := Aside0.mk (R_reader HW5.out HL5.out.rblk (by decide) hg6)
            have HL6 := Aside0.mk (HL5.out.read hg6 hq6 hc6 hr6 (fun x hx => rnM_sub _ _ _ hx))
            clear hg6 hq6 hc6 hr6 HS5 HW5 HL5
            obtain ⟨s, hs⟩ : ∃ n', rnV n mm1 ff1 = n' := ⟨_, rfl⟩
            obtain ⟨mm2, hmm2⟩ : ∃ m, rnM n mm1 ff1 = m := ⟨_, rfl⟩
            obtain ⟨ff2, hff2⟩ : ∃ f, rnF n mm1 ff1 = f := ⟨_, rfl⟩
            simp only [hs, hmm2, hff2] at HL6 HRR5 ⊢
            clear hs hmm2 hff2
            have HLN := Aside0.mk (show row.length + v ≤ cls ∧ cls ≤ 200 by omega)
            have x1 := (blk_cell HL6.out.rblk 1).trans rfl
            have gz1 := blk_frozen HL6.out.rblk 1
            have HQ6 := Aside0.mk (blk_put HL6.out.rblk 1 (.bool true) rfl)
            cases ff2 with
            | true =>
              have HR3 := Aside0.mk (show rr = (row, mm2, true, true) by rw [← HRR5.out, if_pos (Or.inl rfl)])
              clear HRR5
              have HBAD := Aside0.mk (show loadOf l0 = ([], [], 2) by rw [HE1.out, ← HG4.out, HR3.out, if_pos (show (true : Bool) = true from rfl), if_pos (Or.inl rfl)])
              have y1 := (blk_cell HQ6.out 1).trans rfl
              have hne6 := blk_ne HL6.out.res HL6.out.rblk (by decide)
              have HX6 := Aside0.mk (blk_far (p := ⟨B, 1, none⟩) HL6.out.res hne6 (.bool true))
              have r0 := (blk_cell HX6.out 0).trans rfl
              have rf0 := blk_frozen HX6.out 0
              have HR2 := Aside0.mk (blk_put HX6.out 0 (.slice none 0 0) rfl)
              have r1 := (blk_cell HR2.out 1).trans rfl
              have rf1 := blk_frozen HR2.out 1
              go_wp2_with fail
              try rw [Exit.noGoto_ret]
              exact load_bad HBAD.out HX6.out (HL6.out.below.setCell (p := ⟨B, 1, none⟩) HL6.out.hB _) rfl rfl rfl
            | false =>
              by_cases hvz : v = 0
              · have hvb : (v == 0) = true := by simp [hvz]
                have HR3 := Aside0.mk (show rr = (row, mm2, true, true) by rw [← HRR5.out, if_pos (Or.inr (Or.inl hvz))])
                clear HRR5
                have HBAD := Aside0.mk (show loadOf l0 = ([], [], 2) by rw [HE1.out, ← HG4.out, HR3.out, if_pos (show (true : Bool) = true from rfl), if_pos (Or.inl rfl)])
                have y1 := (blk_cell HQ6.out 1).trans rfl
                have hne6 := blk_ne HL6.out.res HL6.out.rblk (by decide)
                have HX6 := Aside0.mk (blk_far (p := ⟨B, 1, none⟩) HL6.out.res hne6 (.bool true))
                have r0 := (blk_cell HX6.out 0).trans rfl
                have rf0 := blk_frozen HX6.out 0
                have HR2 := Aside0.mk (blk_put HX6.out 0 (.slice none 0 0) rfl)
                have r1 := (blk_cell HR2.out 1).trans rfl
                have rf1 := blk_frozen HR2.out 1
                go_wp2_with fail
                try rw [Exit.noGoto_ret]
                exact load_bad HBAD.out HX6.out (HL6.out.below.setCell (p := ⟨B, 1, none⟩) HL6.out.hB _) rfl rfl rfl
              · have hvb : (v == 0) = false := by simp [hvz]
                by_cases hr0 : row.length = 0
                · have hr0z : ¬ (0 : Int) < (row.length : Int) := by omega
                  have HR0L := Aside0.mk hr0
                  clear hr0
                  have HR3 := Aside0.mk (show rowGo n cls k3 (row ++ List.replicate v.toNat s) mm2 false = rr by rw [← HRR5.out, if_neg (by rintro (h | h | h); cases h; exact hvz h; have := HR0L.out; omega)])
                  clear HRR5
                  go_wp2_with fail
                  obtain ⟨g2, hg2⟩ : ∃ g, gk = g := ⟨_, rfl⟩
                  go_loopg [9, 72] (v.toNat + 1) (fun gk3 v9 v72 wr3 => ∃ (j : Nat) (row' : List Int), v72 = .int .i64 j ∧ (j : Int) ≤ v ∧ v.toNat - j < gk3 ∧ Aside0 (row' = row ++ List.replicate j s) ∧ Aside0 (Kd.R (Kd.int .i64) 3 wr3 w.heap.size (fun _ => True) v9 row') ∧ Aside0 (LInv w w.heap.size B D A6 c6 mm2 false vN vF b wr3) ∧ Aside0 (Kd.S (Kd.slice 3 (Kd.int .i64)) 43 wr3 w.heap.size (fun k_ => some k_ ≠ (v9 : Value).ownBlock) vN a))
                  case atStart => exact ⟨0, row, rfl, by omega, by omega, ⟨by simp⟩, HW6, HL6, HS6⟩
                  case round =>
                    clear HW6 HL6 HS6 HQ6
                    obtain ⟨j, row', rfl, hj, hgj, HRW, HW7, HL7, HS7⟩ := hrel
                    have HRL := Aside0.mk (show row'.length = row.length + j by rw [HRW.out, List.length_append, List.length_replicate])
                    obtain ⟨A10, c10, rfl⟩ := Kd.R_slice HW7.out
                    by_cases hjv : (j : Int) < v
                    · have hlen := HLN.out
                      go_wp2_with (at_builtin; refine Kd.R_append (Kd.int .i64) (w0 := w) w.heap.size rfl (.tmp 74) (.tmp 76) 43 3 (.int .i64 0) 8 rfl Try.underlying43 info3 rfl (by decide) (by omega) _ row' s [.int .i64 s] (fun _ => True) (fun _ => False) rfl rfl rfl (fun k hk => hk.elim) (fun _ _ => trivial) HW7.out HL7.out.below HL7.out.below.size (by have := HRL.out; omega) ?_; intro v11 w11 hR11 hB11 hg11 hat11; have HW8 := Aside0.mk hR11; have HL8 := Aside0.mk (HL7.out.row HW7.out hg11 hB11); have HS8 := Aside0.mk (Kd.S_mono (Kd.S_after (ok := fun _ => True) (Kd.S_mono HS7.out (fun k hk => ⟨trivial, hk⟩)) hg11 hat11) (fun k hk => hk.2)); clear hR11 hB11 hg11 hat11)
                      go_roundg (gk - 1)
                      case measure => omega
                      case rel => exact ⟨j + 1, row' ++ [s], by go_num, by omega, by omega, ⟨by rw [HRW.out, List.append_assoc, ← List.replicate_succ']⟩, HW8, HL8, HS8⟩
                    · have hjv2 : v = (j : Int) := by omega
                      go_wp2_with fail
                      go_roundg (g2 - 1)
                      case measure => omega
                      case rel => exact ⟨row', k3, mm2, false, A6, c6, by omega, by have := HRL.out; omega, by have := HRL.out; omega, ⟨by have := HR3.out; rwa [hjv2, Int.toNat_natCast, ← HRW.out] at this⟩, HW7, HL7, HS7⟩
                · have hr0z : (0 : Int) < (row.length : Int) := by omega
                  obtain ⟨ad9, eA9, hx9⟩ := Kd.at_int (Kd.R_reads' HW6.out).2.2 ((row.length : Int) - 1) (by omega) (by omega)
                  subst eA9
                  rw [show ((row.length : Int) - 1).toNat = row.length - 1 from by omega] at hx9
                  by_cases hse : rd row ((row.length : Int) - 1) = s
                  · have hsb : (rd row ((row.length : Int) - 1) == s) = true := by simp [hse]
                    have HR3 := Aside0.mk (show rr = (row, mm2, true, true) by rw [← HRR5.out, if_pos (Or.inr (Or.inr ⟨by omega, hse⟩))])
                    clear HRR5 hse
                    have HBAD := Aside0.mk (show loadOf l0 = ([], [], 2) by rw [HE1.out, ← HG4.out, HR3.out, if_pos (show (true : Bool) = true from rfl), if_pos (Or.inl rfl)])
                    have y1 := (blk_cell HQ6.out 1).trans rfl
                    have hne6 := blk_ne HL6.out.res HL6.out.rblk (by decide)
                    have HX6 := Aside0.mk (blk_far (p := ⟨B, 1, none⟩) HL6.out.res hne6 (.bool true))
                    have r0 := (blk_cell HX6.out 0).trans rfl
                    have rf0 := blk_frozen HX6.out 0
                    have HR2 := Aside0.mk (blk_put HX6.out 0 (.slice none 0 0) rfl)
                    have r1 := (blk_cell HR2.out 1).trans rfl
                    have rf1 := blk_frozen HR2.out 1
                    go_wp2_with fail
                    try rw [Exit.noGoto_ret]
                    exact load_bad HBAD.out HX6.out (HL6.out.below.setCell (p := ⟨B, 1, none⟩) HL6.out.hB _) rfl rfl rfl
                  · have hsb : (rd row ((row.length : Int) - 1) == s) = false := by simp [hse]
                    have HR3 := Aside0.mk (show rowGo n cls k3 (row ++ List.replicate v.toNat s) mm2 false = rr by rw [← HRR5.out, if_neg (by rintro (h | h | h); cases h; exact hvz h; exact hse h.2)])
                    clear HRR5
                    go_wp2_with fail
                    obtain ⟨g2, hg2⟩ : ∃ g, gk = g := ⟨_, rfl⟩
                    go_loopg [9, 72] (v.toNat + 1) (fun gk3 v9 v72 wr3 => ∃ (j : Nat) (row' : List Int), v72 = .int .i64 j ∧ (j : Int) ≤ v ∧ v.toNat - j < gk3 ∧ Aside0 (row' = row ++ List.replicate j s) ∧ Aside0 (Kd.R (Kd.int .i64) 3 wr3 w.heap.size (fun _ => True) v9 row') ∧ Aside0 (LInv w w.heap.size B D A6 c6 mm2 false vN vF b wr3) ∧ Aside0 (Kd.S (Kd.slice 3 (Kd.int .i64)) 43 wr3 w.heap.size (fun k_ => some k_ ≠ (v9 : Value).ownBlock) vN a))
                    case atStart => exact ⟨0, row, rfl, by omega, by omega, ⟨by simp⟩, HW6, HL6, HS6⟩
                    case round =>
                      clear HW6 HL6 HS6 HQ6
                      obtain ⟨j, row', rfl, hj, hgj, HRW, HW7, HL7, HS7⟩ := hrel
                      have HRL := Aside0.mk (show row'.length = row.length + j by rw [HRW.out, List.length_append, List.length_replicate])
                      obtain ⟨A10, c10, rfl⟩ := Kd.R_slice HW7.out
                      by_cases hjv : (j : Int) < v
                      · have hlen := HLN.out
                        go_wp2_with (at_builtin; refine Kd.R_append (Kd.int .i64) (w0 := w) w.heap.size rfl (.tmp 74) (.tmp 76) 43 3 (.int .i64 0) 8 rfl Try.underlying43 info3 rfl (by decide) (by omega) _ row' s [.int .i64 s] (fun _ => True) (fun _ => False) rfl rfl rfl (fun k hk => hk.elim) (fun _ _ => trivial) HW7.out HL7.out.below HL7.out.below.size (by have := HRL.out; omega) ?_; intro v11 w11 hR11 hB11 hg11 hat11; have HW8 := Aside0.mk hR11; have HL8 := Aside0.mk (HL7.out.row HW7.out hg11 hB11); have HS8 := Aside0.mk (Kd.S_mono (Kd.S_after (ok := fun _ => True) (Kd.S_mono HS7.out (fun k hk => ⟨trivial, hk⟩)) hg11 hat11) (fun k hk => hk.2)); clear hR11 hB11 hg11 hat11)
                        go_roundg (gk - 1)
                        case measure => omega
                        case rel => exact ⟨j + 1, row' ++ [s], by go_num, by omega, by omega, ⟨by rw [HRW.out, List.append_assoc, ← List.replicate_succ']⟩, HW8, HL8, HS8⟩
                      · have hjv2 : v = (j : Int) := by omega
                        go_wp2_with fail
                        go_roundg (g2 - 1)
                        case measure => omega
                        case rel => exact ⟨row', k3, mm2, false, A6, c6, by omega, by have := HRL.out; omega, by have := HRL.out; omega, ⟨by have := HR3.out; rwa [hjv2, Int.toNat_natCast, ← HRW.out] at this⟩, HW7, HL7, HS7⟩
          · have HE2 := Aside0.mk (show rr = (row, m', fl', false) by rw [← HRR.out]; cases k2 with | zero => rfl | succ k3 => rw [rowGo, if_neg hlt2])
            have x1 := (blk_cell HL.out.rblk 1).trans rfl
            have gz1 := blk_frozen HL.out.rblk 1
            clear HRR
            go_upto_region 18 with fail
            go_cut [9] (fun v9 wc => ∃ (ff : Bool), v9 = .slice A9 row.length c9 ∧ Aside0 (ff = (fl' || decide (1 < rd m 0))) ∧ Aside0 (LInv w w.heap.size B D A' c' m' ff vN vF b wc) ∧ Aside0 (Kd.R (Kd.int .i64) 3 wc w.heap.size (fun _ => True) (.slice A9 row.length c9) row) ∧ Aside0 (Kd.S (Kd.slice 3 (Kd.int .i64)) 43 wc w.heap.size (fun k_ => some k_ ≠ (.slice A9 row.length c9 : Value).ownBlock) vN a))
            case first =>
              cases fl' with
              | true =>
                go_wp2_with fail
                go_meet
                case rel => exact ⟨true, rfl, ⟨by simp⟩, ⟨HL.out.flag true⟩, ⟨R_blk HW.out HL.out.rblk (by decide) (grownBy_set _ _ _ _)⟩, ⟨S_blk HS.out HL.out.rblk (by decide) (grownBy_set _ _ _ _)⟩⟩
              | false =>
                by_cases hq : rd m 0 > 1
                · have hqb : decide (rd m 0 > 1) = true := decide_eq_true hq
                  go_wp2_with fail
                  go_meet
                  case rel => exact ⟨true, rfl, ⟨by simp [hq]⟩, ⟨HL.out.flag true⟩, ⟨R_blk HW.out HL.out.rblk (by decide) (grownBy_set _ _ _ _)⟩, ⟨S_blk HS.out HL.out.rblk (by decide) (grownBy_set _ _ _ _)⟩⟩
                · have hqb : decide (rd m 0 > 1) = false := decide_eq_false hq
                  go_wp2_with fail
                  go_meet
                  case rel => exact ⟨false, rfl, ⟨by simp [hq]⟩, ⟨HL.out.flag false⟩, ⟨R_blk HW.out HL.out.rblk (by decide) (grownBy_set _ _ _ _)⟩, ⟨S_blk HS.out HL.out.rblk (by decide) (grownBy_set _ _ _ _)⟩⟩
            case rest =>
              clear HL HW HS x1 gz1
              obtain ⟨ff, rfl, HFF, HL, HW, HS⟩ := hcut
              have HGG := Aside0.mk (show loadGo n cls k (a ++ [row]) (b ++ [rd m 0 == 1]) m' (fl' || decide (1 < rd m 0)) = fin by rw [← HG4.out, HE2.out, if_neg (by simp)])
              obtain ⟨AN, cN, rfl⟩ := Kd.S_slice HS.out
              obtain ⟨AF, cF, rfl⟩ := Kd.R_slice HL.out.fin
              obtain ⟨iN, hiN, hzN, hsN, hbN⟩ := info_parts info43
              obtain ⟨iB, hiB, hzB, hsB, hbB⟩ := info_parts info4
              clear HE2 HG4
              go_upto_region 19 with fail
              have L19 := Aside0.mk HL.out.drew
              have N19 := Aside0.mk (Kd.S_drew HS.out)
              have R19 := Aside0.mk (Kd.R_drew HW.out)
              clear HL HS HW
              refine wp_region_noPanic ?_
              refine start_ (n := 15) (S := fun w' => w'.cell? ⟨D, 0, none⟩ = some (.slice AN a.length cN) ∧ w'.cell? ⟨D, 1, none⟩ = some (.slice AF b.length cF)) (ds := [12, 14]) #[false, false, false, false, false, false, false, false, false, false, false, false, false, false, false] (by kernel_rfl) rfl rfl ⟨(blk_cell L19.out.dblk 0).trans rfl, (blk_cell L19.out.dblk 1).trans rfl⟩ (fun hHeld => ?_); refine with_tabW load_tab19 load_bits19 (fun HT_ HW_ => ?_)
              generalize wc.drew = W19 at *
              refine pure_ (i := 0) (N := some 90) (v := ?_) (a' := ?_) #[true, false, false, false, false, false, false, false, false, false, false, false, false, false, false] rfl rfl (any_of HT_.out (by kernel_rfl)) (fun _ _ _ h => h) (Or.inl ⟨by rfl, ?_⟩) ?_ ?_
              rotate_left
              · intro w'
                go_simp
                with_reducible rfl
              rotate_left
              · simp only [Act.put, List.setIfInBounds_toArray, List.set_cons_zero, List.set_cons_succ, i64_w, i32_w]
                rfl
              refine take_ (i := 1) (N := some 91) (v := ?_) (a' := ?_) #[true, true, false, false, false, false, false, false, false, false, false, false, false, false, false] rfl rfl (take_ofW HT_.out HW_.out (by kernel_rfl)) (fun _ _ _ h => h) (Or.inl ⟨by rfl, ?_⟩) hHeld ?_ ?_
              rotate_left
              · rintro w' ⟨s0, s1⟩
                go_simp
                with_reducible rfl
              rotate_left
              · simp only [Act.put, List.setIfInBounds_toArray, List.set_cons_zero, List.set_cons_succ, i64_w, i32_w]
                rfl
              refine pure_ (i := 2) (N := some 92) (v := ?_) (a' := ?_) #[true, true, true, false, false, false, false, false, false, false, false, false, false, false, false] rfl rfl (any_of HT_.out (by kernel_rfl)) (fun _ _ _ h => h) (Or.inl ⟨by rfl, ?_⟩) ?_ ?_
              rotate_left
              · intro w'
                go_simp
                with_reducible rfl
              rotate_left
              · simp only [Act.put, List.setIfInBounds_toArray, List.set_cons_zero, List.set_cons_succ, i64_w, i32_w]
                rfl
              refine pure_ (i := 5) (N := some 95) (v := ?_) (a' := ?_) #[true, true, true, false, false, true, false, false, false, false, false, false, false, false, false] rfl rfl (any_of HT_.out (by kernel_rfl)) (fun _ _ _ h => h) (Or.inl ⟨by rfl, ?_⟩) ?_ ?_
              rotate_left
              · intro w'
                go_simp
                with_reducible rfl
              rotate_left
              · simp only [Act.put, List.setIfInBounds_toArray, List.set_cons_zero, List.set_cons_succ, i64_w, i32_w]
                rfl
              refine take_ (i := 6) (N := some 96) (v := ?_) (a' := ?_) #[true, true, true, false, false, true, true, false, false, false, false, false, false, false, false] rfl rfl (take_ofW HT_.out HW_.out (by kernel_rfl)) (fun _ _ _ h => h) (Or.inl ⟨by rfl, ?_⟩) hHeld ?_ ?_
              rotate_left
              · rintro w' ⟨s0, s1⟩
                go_simp
                with_reducible rfl
              rotate_left
              · simp only [Act.put, List.setIfInBounds_toArray, List.set_cons_zero, List.set_cons_succ, i64_w, i32_w]
                rfl
              refine pure_ (i := 7) (N := some 97) (v := ?_) (a' := ?_) #[true, true, true, false, false, true, true, true, false, false, false, false, false, false, false] rfl rfl (any_of HT_.out (by kernel_rfl)) (fun _ _ _ h => h) (Or.inl ⟨by rfl, ?_⟩) ?_ ?_
              rotate_left
              · intro w'
                go_simp
                with_reducible rfl
              rotate_left
              · simp only [Act.put, List.setIfInBounds_toArray, List.set_cons_zero, List.set_cons_succ, i64_w, i32_w]
                rfl
              refine pure_ (i := 8) (N := some 98) (v := ?_) (a' := ?_) #[true, true, true, false, false, true, true, true, true, false, false, false, false, false, false] rfl rfl (any_of HT_.out (by kernel_rfl)) (fun _ _ _ h => h) (Or.inl ⟨by rfl, ?_⟩) ?_ ?_
              rotate_left
              · intro w'
                go_simp
                with_reducible rfl
              rotate_left
              · simp only [Act.put, List.setIfInBounds_toArray, List.set_cons_zero, List.set_cons_succ, i64_w, i32_w]
                rfl
              refine two_ (i := 3) (j := 9) (Ni := some 93) (Nj := some 99) #[true, true, true, true, false, true, true, true, true, false, false, false, false, false, false] #[true, true, true, false, false, true, true, true, true, true, false, false, false, false, false] rfl rfl rfl rfl (two_of HT_.out (by kernel_rfl)) (by decide) (by decide) (fun K hK => ?_) (fun K hK => ?_)
              · refine step_list rfl (by rfl) ?_
                unfold Oper.wp
                go_simp
                have L1 := Aside0.mk (L19.out.alloc (.cells #[(Value.slice A9 row.length c9)] 43))
                have N1 := Aside0.mk (Kd.S_alloc N19.out (.cells #[(Value.slice A9 row.length c9)] 43))
                have R1 := Aside0.mk (Kd.R_alloc R19.out (.cells #[(Value.slice A9 row.length c9)] 43))
                have X3_1 := Aside0.mk (blk_new W19 (.cells #[(Value.slice A9 row.length c9)] 43))
                refine hK.out _ _ ⟨(blk_cell L1.out.dblk 0).trans rfl, (blk_cell L1.out.dblk 1).trans rfl⟩ (fun hHeld => ?_)
                clear hK K
                obtain ⟨b3_1, hb3_1⟩ : ∃ n, W19.heap.size = n := ⟨_, rfl⟩
                rw [hb3_1] at X3_1 ⊢
                clear hb3_1
                generalize W19.alloc (.cells #[(Value.slice A9 row.length c9)] 43) = W1 at *
                refine two_ (i := 4) (j := 9) (Ni := some 94) (Nj := some 99) #[true, true, true, true, true, true, true, true, true, false, false, false, false, false, false] #[true, true, true, true, false, true, true, true, true, true, false, false, false, false, false] rfl rfl rfl rfl (two_of HT_.out (by kernel_rfl)) (by decide) (by decide) (fun K hK => ?_) (fun K hK => ?_)
                · refine S_app_step (Kd.slice 3 (Kd.int .i64)) w.heap.size (by rfl) (.tmp 91) (.tmp 93) 22 43 iN (.slice none 0 0) 24 rfl Try.underlying22 hiN hzN hsN hbN rfl (by decide) _ a row [(Value.slice A9 row.length c9)] (fun _ => True) (fun k_ => some k_ = ((Value.slice A9 row.length c9) : Value).ownBlock) rfl ⟨b3_1, 0, none⟩ rfl (cell_one X3_1.out) (Kd.M_row (Kd.R_tight rfl R1.out)) (fun k_ hk_ => ((Kd.R_apart' R1.out (Kd.S_typed N1.out) (by decide)).1 k_ hk_.symm)) (fun _ _ => trivial) (Kd.S_mono N1.out (fun k_ hk => ⟨trivial, hk⟩)) L1.out.below.size (by have := HAL.out; unfold maxLen; omega) (by have := HAL.out; omega) ?_
                  intro vN2 W2 hS2 hg2 _
                  obtain ⟨AN2, cN2, eN⟩ := Kd.S_slice hS2
                  obtain ⟨nN, hnN⟩ : ∃ n, (a ++ [row]).length = n := ⟨_, rfl⟩
                  rw [hnN] at eN
                  subst eN
                  clear hnN
                  have L2 := Aside0.mk (L1.out.next N1.out hg2)
                  have N2 := Aside0.mk hS2
                  clear hS2 hg2
                  refine hK.out _ _ ⟨(blk_cell L2.out.dblk 0).trans rfl, (blk_cell L2.out.dblk 1).trans rfl⟩ (fun hHeld => ?_)
                  clear hK K
                  refine norm_ (a' := ?_) ?_ ?_
                  rotate_left
                  · show Act.put _ (some 94) _ = _
                    simp only [Act.put, List.setIfInBounds_toArray, List.set_cons_zero, List.set_cons_succ, i64_w, i32_w]
                    rfl
                  refine pure_ (i := 11) (N := some 101) (v := ?_) (a' := ?_) #[true, true, true, true, true, true, true, true, true, false, false, true, false, false, false] rfl rfl (any_of HT_.out (by kernel_rfl)) (fun _ _ _ h => h) (Or.inl ⟨by rfl, ?_⟩) ?_ ?_
                  rotate_left
                  · intro w'
                    go_simp
                    with_reducible rfl
                  rotate_left
                  · simp only [Act.put, List.setIfInBounds_toArray, List.set_cons_zero, List.set_cons_succ, i64_w, i32_w]
                    rfl
                  refine one_ (i := 9) (N := some 99) #[true, true, true, true, true, true, true, true, true, true, false, true, false, false, false] rfl rfl (one_of HT_.out (by kernel_rfl)) (by decide) (fun K hK => ?_)
                  refine step_list rfl (by rfl) ?_
                  unfold Oper.wp
                  go_simp
                  have L3 := Aside0.mk (L2.out.alloc (.cells #[Value.bool (rd m 0 == 1)] 4))
                  have N3 := Aside0.mk (Kd.S_alloc N2.out (.cells #[Value.bool (rd m 0 == 1)] 4))
                  have X9_3 := Aside0.mk (blk_new W2 (.cells #[Value.bool (rd m 0 == 1)] 4))
                  refine hK.out _ _ ⟨(blk_cell L3.out.dblk 0).trans rfl, (blk_cell L3.out.dblk 1).trans rfl⟩ (fun hHeld => ?_)
                  clear hK K
                  obtain ⟨b9_3, hb9_3⟩ : ∃ n, W2.heap.size = n := ⟨_, rfl⟩
                  rw [hb9_3] at X9_3 ⊢
                  clear hb9_3
                  generalize W2.alloc (.cells #[Value.bool (rd m 0 == 1)] 4) = W3 at *
                  refine one_ (i := 10) (N := some 100) #[true, true, true, true, true, true, true, true, true, true, true, true, false, false, false] rfl rfl (one_of HT_.out (by kernel_rfl)) (by decide) (fun K hK => ?_)
                  refine R_app_step Kd.bool w.heap.size (by rfl) (.tmp 96) (.tmp 99) 23 4 iB (.bool false) 1 rfl Try.underlying23 hiB hzB hsB hbB rfl (by decide) _ b (rd m 0 == 1) [.bool (rd m 0 == 1)] (fun _ => True) (fun _ => False) rfl ⟨b9_3, 0, none⟩ rfl (cell_one X9_3.out) rfl (fun k hk => hk.elim) (fun _ _ => trivial) L3.out.fin L3.out.below.size (by have := HBL.out; unfold maxLen; omega) (by have := HBL.out; omega) ?_
                  intro vF2 W4 hF4 hg4 _
                  obtain ⟨AF2, cF2, eF⟩ := Kd.R_slice hF4
                  obtain ⟨nF, hnF⟩ : ∃ n, (b ++ [(rd m 0 == 1)]).length = n := ⟨_, rfl⟩
                  rw [hnF] at eF
                  subst eF
                  clear hnF
                  have N4 := Aside0.mk (Kd.S_over' N3.out (Kd.R_typed L3.out.fin) (by decide) hg4)
                  have HF := Aside0.mk hF4
                  have HGF := Aside0.mk hg4
                  have LL := L3
                  have HDB := Aside0.mk (blk_grown L3.out.dblk hg4 (Kd.R_ne L3.out.fin L3.out.dblk (by decide)))
                  clear hF4 hg4
                  refine hK.out _ _ ⟨(blk_cell HDB.out 0).trans rfl, (blk_cell HDB.out 1).trans rfl⟩ (fun hHeld => ?_)
                  clear hK K
                  refine norm_ (a' := ?_) ?_ ?_
                  rotate_left
                  · show Act.put _ (some 100) _ = _
                    simp only [Act.put, List.setIfInBounds_toArray, List.set_cons_zero, List.set_cons_succ, i64_w, i32_w]
                    rfl
                  refine last_ (i := 12) (N := none) #[true, true, true, true, true, true, true, true, true, true, true, true, true, false, false] rfl rfl (one_of HT_.out (by kernel_rfl)) (by decide) (fun K hK => ?_)
                  refine step_list rfl (by rfl) ?_
                  have c0 := (blk_cell HDB.out 0).trans rfl
                  have z0 := blk_frozen HDB.out 0
                  have HDC := Aside0.mk (blk_put HDB.out 0 (.slice AN2 nN cN2) rfl)
                  unfold Oper.wp
                  go_simp
                  refine hK.out _ _ ?_
                  clear hK K c0 z0
                  refine pure_ (i := 13) (N := some 102) (v := ?_) (a' := ?_) #[true, true, true, true, true, true, true, true, true, true, true, true, true, true, false] rfl rfl (any_of HT_.out (by kernel_rfl)) (fun _ _ _ h => h) (Or.inl ⟨by rfl, ?_⟩) ?_ ?_
                  rotate_left
                  · intro w'
                    go_simp
                    with_reducible rfl
                  rotate_left
                  · simp only [Act.put, List.setIfInBounds_toArray, List.set_cons_zero, List.set_cons_succ, i64_w, i32_w]
                    rfl
                  refine last_ (i := 14) (N := none) #[true, true, true, true, true, true, true, true, true, true, true, true, true, true, true] rfl rfl (one_of HT_.out (by kernel_rfl)) (by decide) (fun K hK => ?_)
                  refine step_list rfl (by rfl) ?_
                  have c1 := (blk_cell HDC.out 1).trans rfl
                  have z1 := blk_frozen HDC.out 1
                  unfold Oper.wp
                  go_simp
                  refine hK.out _ _ ?_
                  clear hK K c1 z1
                  refine done_ (done_of HT_.out (by kernel_rfl)) ?_
                  refine NoPanic.normal ?_
                  have HLF := Aside0.mk (LL.out.done (vN' := .slice AN2 nN cN2) HGF.out HF.out)
                  have HSF := Aside0.mk (S_blk (S_blk N4.out HDB.out (by decide) (grownBy_set _ _ _ _)) HDC.out (by decide) (grownBy_set _ _ 1 (.slice AF2 nF cF2)))
                  clear HT_ HW_
                  go_wp2_with fail
                  go_roundg (g1 - 1)
                  case measure => omega
                  case rel => exact ⟨i + 1, a ++ [row], b ++ [(rd m 0 == 1)], m', ff, A', c', _, _, by go_num, by omega, by omega, ⟨by rw [List.length_append, HAL.out]; rfl⟩, ⟨by rw [List.length_append, HBL.out]; rfl⟩, ⟨by rw [show n.toNat - (i + 1) = k from by omega, HFF.out]; exact HGG.out⟩, HLF, HSF⟩
                · refine step_list rfl (by rfl) ?_
                  unfold Oper.wp
                  go_simp
                  have L5 := Aside0.mk (L1.out.alloc (.cells #[Value.bool (rd m 0 == 1)] 4))
                  have N5 := Aside0.mk (Kd.S_alloc N1.out (.cells #[Value.bool (rd m 0 == 1)] 4))
                  have R5 := Aside0.mk (Kd.R_alloc R1.out (.cells #[Value.bool (rd m 0 == 1)] 4))
                  have X9_5 := Aside0.mk (blk_new W1 (.cells #[Value.bool (rd m 0 == 1)] 4))
                  have X3_5 := Aside0.mk (blk_alloc X3_1.out (.cells #[Value.bool (rd m 0 == 1)] 4))
                  refine hK.out _ _ ⟨(blk_cell L5.out.dblk 0).trans rfl, (blk_cell L5.out.dblk 1).trans rfl⟩ (fun hHeld => ?_)
                  clear hK K
                  obtain ⟨b9_5, hb9_5⟩ : ∃ n, W1.heap.size = n := ⟨_, rfl⟩
                  rw [hb9_5] at X9_5 ⊢
                  clear hb9_5
                  generalize W1.alloc (.cells #[Value.bool (rd m 0 == 1)] 4) = W5 at *
                  refine one_ (i := 4) (N := some 94) #[true, true, true, true, true, true, true, true, true, true, false, false, false, false, false] rfl rfl (one_of HT_.out (by kernel_rfl)) (by decide) (fun K hK => ?_)
                  refine S_app_step (Kd.slice 3 (Kd.int .i64)) w.heap.size (by rfl) (.tmp 91) (.tmp 93) 22 43 iN (.slice none 0 0) 24 rfl Try.underlying22 hiN hzN hsN hbN rfl (by decide) _ a row [(Value.slice A9 row.length c9)] (fun _ => True) (fun k_ => some k_ = ((Value.slice A9 row.length c9) : Value).ownBlock) rfl ⟨b3_1, 0, none⟩ rfl (cell_one X3_5.out) (Kd.M_row (Kd.R_tight rfl R5.out)) (fun k_ hk_ => ((Kd.R_apart' R5.out (Kd.S_typed N5.out) (by decide)).1 k_ hk_.symm)) (fun _ _ => trivial) (Kd.S_mono N5.out (fun k_ hk => ⟨trivial, hk⟩)) L5.out.below.size (by have := HAL.out; unfold maxLen; omega) (by have := HAL.out; omega) ?_
                  intro vN2 W6 hS6 hg6 _
                  obtain ⟨AN2, cN2, eN⟩ := Kd.S_slice hS6
                  obtain ⟨nN, hnN⟩ : ∃ n, (a ++ [row]).length = n := ⟨_, rfl⟩
                  rw [hnN] at eN
                  subst eN
                  clear hnN
                  have L6 := Aside0.mk (L5.out.next N5.out hg6)
                  have N6 := Aside0.mk hS6
                  have X9_6 := Aside0.mk (blk_grown X9_5.out hg6 (Kd.S_ne N5.out X9_5.out (by decide)))
                  clear hS6 hg6
                  refine hK.out _ _ ⟨(blk_cell L6.out.dblk 0).trans rfl, (blk_cell L6.out.dblk 1).trans rfl⟩ (fun hHeld => ?_)
                  clear hK K
                  refine norm_ (a' := ?_) ?_ ?_
                  rotate_left
                  · show Act.put _ (some 94) _ = _
                    simp only [Act.put, List.setIfInBounds_toArray, List.set_cons_zero, List.set_cons_succ, i64_w, i32_w]
                    rfl
                  refine pure_ (i := 11) (N := some 101) (v := ?_) (a' := ?_) #[true, true, true, true, true, true, true, true, true, true, false, true, false, false, false] rfl rfl (any_of HT_.out (by kernel_rfl)) (fun _ _ _ h => h) (Or.inl ⟨by rfl, ?_⟩) ?_ ?_
                  rotate_left
                  · intro w'
                    go_simp
                    with_reducible rfl
                  rotate_left
                  · simp only [Act.put, List.setIfInBounds_toArray, List.set_cons_zero, List.set_cons_succ, i64_w, i32_w]
                    rfl
                  refine one_ (i := 10) (N := some 100) #[true, true, true, true, true, true, true, true, true, true, true, true, false, false, false] rfl rfl (one_of HT_.out (by kernel_rfl)) (by decide) (fun K hK => ?_)
                  refine R_app_step Kd.bool w.heap.size (by rfl) (.tmp 96) (.tmp 99) 23 4 iB (.bool false) 1 rfl Try.underlying23 hiB hzB hsB hbB rfl (by decide) _ b (rd m 0 == 1) [.bool (rd m 0 == 1)] (fun _ => True) (fun _ => False) rfl ⟨b9_5, 0, none⟩ rfl (cell_one X9_6.out) rfl (fun k hk => hk.elim) (fun _ _ => trivial) L6.out.fin L6.out.below.size (by have := HBL.out; unfold maxLen; omega) (by have := HBL.out; omega) ?_
                  intro vF2 W7 hF7 hg7 _
                  obtain ⟨AF2, cF2, eF⟩ := Kd.R_slice hF7
                  obtain ⟨nF, hnF⟩ : ∃ n, (b ++ [(rd m 0 == 1)]).length = n := ⟨_, rfl⟩
                  rw [hnF] at eF
                  subst eF
                  clear hnF
                  have N7 := Aside0.mk (Kd.S_over' N6.out (Kd.R_typed L6.out.fin) (by decide) hg7)
                  have HF := Aside0.mk hF7
                  have HGF := Aside0.mk hg7
                  have LL := L6
                  have HDB := Aside0.mk (blk_grown L6.out.dblk hg7 (Kd.R_ne L6.out.fin L6.out.dblk (by decide)))
                  clear hF7 hg7
                  refine hK.out _ _ ⟨(blk_cell HDB.out 0).trans rfl, (blk_cell HDB.out 1).trans rfl⟩ (fun hHeld => ?_)
                  clear hK K
                  refine norm_ (a' := ?_) ?_ ?_
                  rotate_left
                  · show Act.put _ (some 100) _ = _
                    simp only [Act.put, List.setIfInBounds_toArray, List.set_cons_zero, List.set_cons_succ, i64_w, i32_w]
                    rfl
                  refine last_ (i := 12) (N := none) #[true, true, true, true, true, true, true, true, true, true, true, true, true, false, false] rfl rfl (one_of HT_.out (by kernel_rfl)) (by decide) (fun K hK => ?_)
                  refine step_list rfl (by rfl) ?_
                  have c0 := (blk_cell HDB.out 0).trans rfl
                  have z0 := blk_frozen HDB.out 0
                  have HDC := Aside0.mk (blk_put HDB.out 0 (.slice AN2 nN cN2) rfl)
                  unfold Oper.wp
                  go_simp
                  refine hK.out _ _ ?_
                  clear hK K c0 z0
                  refine pure_ (i := 13) (N := some 102) (v := ?_) (a' := ?_) #[true, true, true, true, true, true, true, true, true, true, true, true, true, true, false] rfl rfl (any_of HT_.out (by kernel_rfl)) (fun _ _ _ h => h) (Or.inl ⟨by rfl, ?_⟩) ?_ ?_
                  rotate_left
                  · intro w'
                    go_simp
                    with_reducible rfl
                  rotate_left
                  · simp only [Act.put, List.setIfInBounds_toArray, List.set_cons_zero, List.set_cons_succ, i64_w, i32_w]
                    rfl
                  refine last_ (i := 14) (N := none) #[true, true, true, true, true, true, true, true, true, true, true, true, true, true, true] rfl rfl (one_of HT_.out (by kernel_rfl)) (by decide) (fun K hK => ?_)
                  refine step_list rfl (by rfl) ?_
                  have c1 := (blk_cell HDC.out 1).trans rfl
                  have z1 := blk_frozen HDC.out 1
                  unfold Oper.wp
                  go_simp
                  refine hK.out _ _ ?_
                  clear hK K c1 z1
                  refine done_ (done_of HT_.out (by kernel_rfl)) ?_
                  refine NoPanic.normal ?_
                  have HLF := Aside0.mk (LL.out.done (vN' := .slice AN2 nN cN2) HGF.out HF.out)
                  have HSF := Aside0.mk (S_blk (S_blk N7.out HDB.out (by decide) (grownBy_set _ _ _ _)) HDC.out (by decide) (grownBy_set _ _ 1 (.slice AF2 nF cF2)))
                  clear HT_ HW_
                  go_wp2_with fail
                  go_roundg (g1 - 1)
                  case measure => omega
                  case rel => exact ⟨i + 1, a ++ [row], b ++ [(rd m 0 == 1)], m', ff, A', c', _, _, by go_num, by omega, by omega, ⟨by rw [List.length_append, HAL.out]; rfl⟩, ⟨by rw [List.length_append, HBL.out]; rfl⟩, ⟨by rw [show n.toNat - (i + 1) = k from by omega, HFF.out]; exact HGG.out⟩, HLF, HSF⟩
              · refine step_list rfl (by rfl) ?_
                unfold Oper.wp
                go_simp
                have L8 := Aside0.mk (L19.out.alloc (.cells #[Value.bool (rd m 0 == 1)] 4))
                have N8 := Aside0.mk (Kd.S_alloc N19.out (.cells #[Value.bool (rd m 0 == 1)] 4))
                have R8 := Aside0.mk (Kd.R_alloc R19.out (.cells #[Value.bool (rd m 0 == 1)] 4))
                have X9_8 := Aside0.mk (blk_new W19 (.cells #[Value.bool (rd m 0 == 1)] 4))
                refine hK.out _ _ ⟨(blk_cell L8.out.dblk 0).trans rfl, (blk_cell L8.out.dblk 1).trans rfl⟩ (fun hHeld => ?_)
                clear hK K
                obtain ⟨b9_8, hb9_8⟩ : ∃ n, W19.heap.size = n := ⟨_, rfl⟩
                rw [hb9_8] at X9_8 ⊢
                clear hb9_8
                generalize W19.alloc (.cells #[Value.bool (rd m 0 == 1)] 4) = W8 at *
                refine one_ (i := 3) (N := some 93) #[true, true, true, true, false, true, true, true, true, true, false, false, false, false, false] rfl rfl (one_of HT_.out (by kernel_rfl)) (by decide) (fun K hK => ?_)
                refine step_list rfl (by rfl) ?_
                unfold Oper.wp
                go_simp
                have L9 := Aside0.mk (L8.out.alloc (.cells #[(Value.slice A9 row.length c9)] 43))
                have N9 := Aside0.mk (Kd.S_alloc N8.out (.cells #[(Value.slice A9 row.length c9)] 43))
                have R9 := Aside0.mk (Kd.R_alloc R8.out (.cells #[(Value.slice A9 row.length c9)] 43))
                have X3_9 := Aside0.mk (blk_new W8 (.cells #[(Value.slice A9 row.length c9)] 43))
                have X9_9 := Aside0.mk (blk_alloc X9_8.out (.cells #[(Value.slice A9 row.length c9)] 43))
                refine hK.out _ _ ⟨(blk_cell L9.out.dblk 0).trans rfl, (blk_cell L9.out.dblk 1).trans rfl⟩ (fun hHeld => ?_)
                clear hK K
                obtain ⟨b3_9, hb3_9⟩ : ∃ n, W8.heap.size = n := ⟨_, rfl⟩
                rw [hb3_9] at X3_9 ⊢
                clear hb3_9
                generalize W8.alloc (.cells #[(Value.slice A9 row.length c9)] 43) = W9 at *
                refine one_ (i := 4) (N := some 94) #[true, true, true, true, true, true, true, true, true, true, false, false, false, false, false] rfl rfl (one_of HT_.out (by kernel_rfl)) (by decide) (fun K hK => ?_)
                refine S_app_step (Kd.slice 3 (Kd.int .i64)) w.heap.size (by rfl) (.tmp 91) (.tmp 93) 22 43 iN (.slice none 0 0) 24 rfl Try.underlying22 hiN hzN hsN hbN rfl (by decide) _ a row [(Value.slice A9 row.length c9)] (fun _ => True) (fun k_ => some k_ = ((Value.slice A9 row.length c9) : Value).ownBlock) rfl ⟨b3_9, 0, none⟩ rfl (cell_one X3_9.out) (Kd.M_row (Kd.R_tight rfl R9.out)) (fun k_ hk_ => ((Kd.R_apart' R9.out (Kd.S_typed N9.out) (by decide)).1 k_ hk_.symm)) (fun _ _ => trivial) (Kd.S_mono N9.out (fun k_ hk => ⟨trivial, hk⟩)) L9.out.below.size (by have := HAL.out; unfold maxLen; omega) (by have := HAL.out; omega) ?_
                intro vN2 W10 hS10 hg10 _
                obtain ⟨AN2, cN2, eN⟩ := Kd.S_slice hS10
                obtain ⟨nN, hnN⟩ : ∃ n, (a ++ [row]).length = n := ⟨_, rfl⟩
                rw [hnN] at eN
                subst eN
                clear hnN
                have L10 := Aside0.mk (L9.out.next N9.out hg10)
                have N10 := Aside0.mk hS10
                have X9_10 := Aside0.mk (blk_grown X9_9.out hg10 (Kd.S_ne N9.out X9_9.out (by decide)))
                clear hS10 hg10
                refine hK.out _ _ ⟨(blk_cell L10.out.dblk 0).trans rfl, (blk_cell L10.out.dblk 1).trans rfl⟩ (fun hHeld => ?_)
                clear hK K
                refine norm_ (a' := ?_) ?_ ?_
                rotate_left
                · show Act.put _ (some 94) _ = _
                  simp only [Act.put, List.setIfInBounds_toArray, List.set_cons_zero, List.set_cons_succ, i64_w, i32_w]
                  rfl
                refine pure_ (i := 11) (N := some 101) (v := ?_) (a' := ?_) #[true, true, true, true, true, true, true, true, true, true, false, true, false, false, false] rfl rfl (any_of HT_.out (by kernel_rfl)) (fun _ _ _ h => h) (Or.inl ⟨by rfl, ?_⟩) ?_ ?_
                rotate_left
                · intro w'
                  go_simp
                  with_reducible rfl
                rotate_left
                · simp only [Act.put, List.setIfInBounds_toArray, List.set_cons_zero, List.set_cons_succ, i64_w, i32_w]
                  rfl
                refine one_ (i := 10) (N := some 100) #[true, true, true, true, true, true, true, true, true, true, true, true, false, false, false] rfl rfl (one_of HT_.out (by kernel_rfl)) (by decide) (fun K hK => ?_)
                refine R_app_step Kd.bool w.heap.size (by rfl) (.tmp 96) (.tmp 99) 23 4 iB (.bool false) 1 rfl Try.underlying23 hiB hzB hsB hbB rfl (by decide) _ b (rd m 0 == 1) [.bool (rd m 0 == 1)] (fun _ => True) (fun _ => False) rfl ⟨b9_8, 0, none⟩ rfl (cell_one X9_10.out) rfl (fun k hk => hk.elim) (fun _ _ => trivial) L10.out.fin L10.out.below.size (by have := HBL.out; unfold maxLen; omega) (by have := HBL.out; omega) ?_
                intro vF2 W11 hF11 hg11 _
                obtain ⟨AF2, cF2, eF⟩ := Kd.R_slice hF11
                obtain ⟨nF, hnF⟩ : ∃ n, (b ++ [(rd m 0 == 1)]).length = n := ⟨_, rfl⟩
                rw [hnF] at eF
                subst eF
                clear hnF
                have N11 := Aside0.mk (Kd.S_over' N10.out (Kd.R_typed L10.out.fin) (by decide) hg11)
                have HF := Aside0.mk hF11
                have HGF := Aside0.mk hg11
                have LL := L10
                have HDB := Aside0.mk (blk_grown L10.out.dblk hg11 (Kd.R_ne L10.out.fin L10.out.dblk (by decide)))
                clear hF11 hg11
                refine hK.out _ _ ⟨(blk_cell HDB.out 0).trans rfl, (blk_cell HDB.out 1).trans rfl⟩ (fun hHeld => ?_)
                clear hK K
                refine norm_ (a' := ?_) ?_ ?_
                rotate_left
                · show Act.put _ (some 100) _ = _
                  simp only [Act.put, List.setIfInBounds_toArray, List.set_cons_zero, List.set_cons_succ, i64_w, i32_w]
                  rfl
                refine last_ (i := 12) (N := none) #[true, true, true, true, true, true, true, true, true, true, true, true, true, false, false] rfl rfl (one_of HT_.out (by kernel_rfl)) (by decide) (fun K hK => ?_)
                refine step_list rfl (by rfl) ?_
                have c0 := (blk_cell HDB.out 0).trans rfl
                have z0 := blk_frozen HDB.out 0
                have HDC := Aside0.mk (blk_put HDB.out 0 (.slice AN2 nN cN2) rfl)
                unfold Oper.wp
                go_simp
                refine hK.out _ _ ?_
                clear hK K c0 z0
                refine pure_ (i := 13) (N := some 102) (v := ?_) (a' := ?_) #[true, true, true, true, true, true, true, true, true, true, true, true, true, true, false] rfl rfl (any_of HT_.out (by kernel_rfl)) (fun _ _ _ h => h) (Or.inl ⟨by rfl, ?_⟩) ?_ ?_
                rotate_left
                · intro w'
                  go_simp
                  with_reducible rfl
                rotate_left
                · simp only [Act.put, List.setIfInBounds_toArray, List.set_cons_zero, List.set_cons_succ, i64_w, i32_w]
                  rfl
                refine last_ (i := 14) (N := none) #[true, true, true, true, true, true, true, true, true, true, true, true, true, true, true] rfl rfl (one_of HT_.out (by kernel_rfl)) (by decide) (fun K hK => ?_)
                refine step_list rfl (by rfl) ?_
                have c1 := (blk_cell HDC.out 1).trans rfl
                have z1 := blk_frozen HDC.out 1
                unfold Oper.wp
                go_simp
                refine hK.out _ _ ?_
                clear hK K c1 z1
                refine done_ (done_of HT_.out (by kernel_rfl)) ?_
                refine NoPanic.normal ?_
                have HLF := Aside0.mk (LL.out.done (vN' := .slice AN2 nN cN2) HGF.out HF.out)
                have HSF := Aside0.mk (S_blk (S_blk N11.out HDB.out (by decide) (grownBy_set _ _ _ _)) HDC.out (by decide) (grownBy_set _ _ 1 (.slice AF2 nF cF2)))
                clear HT_ HW_
                go_wp2_with fail
                go_roundg (g1 - 1)
                case measure => omega
                case rel => exact ⟨i + 1, a ++ [row], b ++ [(rd m 0 == 1)], m', ff, A', c', _, _, by go_num, by omega, by omega, ⟨by rw [List.length_append, HAL.out]; rfl⟩, ⟨by rw [List.length_append, HBL.out]; rfl⟩, ⟨by rw [show n.toNat - (i + 1) = k from by omega, HFF.out]; exact HGG.out⟩, HLF, HSF⟩
      · have hni : n = (i : Int) := by omega
        have hE := HG.out
        rw [hni, Int.toNat_natCast, Nat.sub_self, loadGo] at hE
        have HFE := Aside0.mk hE.symm
        clear hE HG
        have x1 := (blk_cell HL.out.rblk 1).trans rfl
        have x0 := (blk_cell HL.out.rblk 0).trans rfl
        have r0 := (blk_cell HL.out.res 0).trans rfl
        have rf0 := blk_frozen HL.out.res 0
        have HR2 := Aside0.mk (blk_put HL.out.res 0 (.slice none 0 0) rfl)
        have r1 := (blk_cell HR2.out 1).trans rfl
        have rf1 := blk_frozen HR2.out 1
        cases fl with
        | true =>
          have HBAD := Aside0.mk (show loadOf l0 = ([], [], 2) by rw [HE1.out, HFE.out, if_pos (Or.inl rfl)])
          go_wp2_with fail
          try rw [Exit.noGoto_ret]
          exact load_bad HBAD.out HL.out.res HL.out.below rfl rfl rfl
        | false =>
          by_cases hml : 0 < m.length
          · have HBAD := Aside0.mk (show loadOf l0 = ([], [], 2) by rw [HE1.out, HFE.out, if_pos (Or.inr (Or.inl hml))])
            have hmlz : (0 : Int) < (m.length : Int) := by omega
            go_wp2_with fail
            try rw [Exit.noGoto_ret]
            exact load_bad HBAD.out HL.out.res HL.out.below rfl rfl rfl
          · have hml0 : m.length = 0 := by omega
            obtain ⟨AN, cN, rfl⟩ := Kd.S_slice HS.out
            obtain ⟨AF, cF, rfl⟩ := Kd.R_slice HL.out.fin
            have d0 := (blk_cell HL.out.dblk 0).trans rfl
            have d1 := (blk_cell HL.out.dblk 1).trans rfl
            have hN := Kd.R_reads' (Kd.S_R HS.out)
            have hF := Kd.R_reads' HL.out.fin
            have HRT := Aside0.mk (subset_Right.calls AN cN a AF cF b (rightB a b) wr hN.2.2 hN.2.1 hF.2.2 hF.2.1 rfl)
            clear hN hF r0 rf0 HR2 r1 rf1
            go_wp2_with fail
            refine HRT.out.mono ?_
            rintro e w5 ⟨rfl, hb5⟩
            have HB5 := Aside0.mk (HL.out.below.trans (hb5.mono HL.out.below.size))
            have HX5 := Aside0.mk (blk_below HL.out.res hb5)
            have HD5 := Aside0.mk (blk_below HL.out.dblk hb5)
            have HS5 := Aside0.mk (Kd.S_below HS.out hb5)
            have HF5 := Aside0.mk (Kd.R_below HL.out.fin hb5)
            clear hb5 d0 d1
            have r0 := (blk_cell HX5.out 0).trans rfl
            have rf0 := blk_frozen HX5.out 0
            cases hg : rightB a b with
            | false =>
              have HBAD := Aside0.mk (show loadOf l0 = ([], [], 2) by rw [HE1.out, HFE.out, if_pos (Or.inr (Or.inr hg))])
              have HR2 := Aside0.mk (blk_put HX5.out 0 (.slice none 0 0) rfl)
              have r1 := (blk_cell HR2.out 1).trans rfl
              have rf1 := blk_frozen HR2.out 1
              go_wp2_with fail
              try rw [Exit.noGoto_ret]
              exact load_bad HBAD.out HX5.out HB5.out rfl rfl rfl
            | true =>
              have HOK := Aside0.mk (show loadOf l0 = (a, b, 0) by rw [HE1.out, HFE.out, if_neg (by simp [hg, hml])])
              have d0 := (blk_cell HD5.out 0).trans rfl
              have d1 := (blk_cell HD5.out 1).trans rfl
              have HR2 := Aside0.mk (blk_put HX5.out 0 (.slice AN a.length cN) rfl)
              have r1 := (blk_cell HR2.out 1).trans rfl
              have rf1 := blk_frozen HR2.out 1
              go_wp2_with fail
              try rw [Exit.noGoto_ret]
              exact load_ok HOK.out HX5.out HB5.out HS5.out HF5.out rfl rfl rfl
  · rw [decide_eq_false hp]
    have HE := Aside0.mk (show loadOf l0 = ([], [], 2) by unfold loadOf; rw [if_neg hp])
    clear hp
    have x0 := (blk_cell HX1.out 0).trans rfl
    have f0 := blk_frozen HX1.out 0
    have HX2 := Aside0.mk (blk_put HX1.out 0 (.slice none 0 0) rfl)
    have x1 := (blk_cell HX2.out 1).trans rfl
    have f1 := blk_frozen HX2.out 1
    go_wp2_with fail
    try rw [Exit.noGoto_ret]
    exact load_bad HE.out HX1.out HB1.out rfl rfl rfl
end Go.Proofs.Ytjcgbjkjkgkklaa.Print

namespace Go.Proofs.Ytjcgbjkjkgkklaa.Print
open Go.RowKit Go.Proofs.YtjcgbjkjkgkklaaW.PrintWords Go.Proofs.YtjcgbjkjkgkklaaW.PrintLast Go.Proofs.YtjcgbjkjkgkklaaW.PrintMore

/-- Asked of bytes alone. -/
def packed_Load.f (l : List Int) : Option (List (List Int) × List Bool × Int) := if ∀ x ∈ l, 0 ≤ x ∧ x ≤ 255 then some (loadOf l) else none

theorem packed_Load.calls (A0 : Option Addr) (c0 : Nat) (l0 : List Int) (r1 : List (List Int)) (r2 : List Bool) (r3 : Int) (w : World) (hr0 : Kd.C (Kd.int .u8) w A0 l0.length l0) (hc0 : l0.length ≤ c0) (h : packed_Load.f l0 = some (r1, r2, r3)) :
    Calls Try.prog 17 #[.slice A0 l0.length c0] w fun e w' => ∃ v0_ v1_ : Value, e = .returned (.tuple #[.agg #[v0_, v1_], .int .i64 r3]) ∧ Kd.S (Kd.slice 3 (Kd.int .i64)) 43 w' w.heap.size (fun _ => True) v0_ r1 ∧ Kd.R Kd.bool 4 w' w.heap.size (fun _ => True) v1_ r2 ∧ Below w.heap.size w w' := by
  unfold packed_Load.f at h
  by_cases hb : ∀ x ∈ l0, 0 ≤ x ∧ x ≤ 255
  · rw [if_pos hb] at h
    have h := Option.some.inj h
    have := packed_Load_calls A0 c0 l0 w hr0 hc0 hb
    unfold LoadPost at this
    rw [h] at this
    exact this
  · rw [if_neg hb] at h; cases h

#print axioms packed_Load.calls
end Go.Proofs.Ytjcgbjkjkgkklaa.Print
