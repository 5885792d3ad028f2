/- least.Apart, walked by hand. -/
import Derived.Test.YtadhjjfodpmelaaApartA
import Derived.Test.YtadhjjfodpmelaaLeastA
import Derived.WalkMore
namespace Go.Proofs.Ytadhjjfodpmelaa.Print
open Go.RowKit Go.Shelf Go.Maps Go.Proofs.YtadhjjfodpmelaaW.PrintWords Go.Proofs.YtadhjjfodpmelaaW.PrintLast Go.Proofs.YtadhjjfodpmelaaW.PrintMore
set_option linter.unusedVariables false
set_option linter.unusedSimpArgs false

def apart_T1 : Bool × List (List Nat × List Nat) := (true, [([], []), ([0], [0]), ([1], [1]), ([2, 1], [2]), ([3], [3]), ([4, 3, 3], [3, 4]), ([5, 3], [3, 5]), ([3, 6], [3, 6]), ([7, 5], [7]), ([8], [8]), ([9, 8], [8, 9]), ([10, 8], [8, 10]), ([11, 8], [8, 11]), ([12, 8], [8, 12]), ([8], [8]), ([14, 8], [8, 14]), ([15, 8], [8, 15]), ([16, 8], [8, 16]), ([17, 8], [8, 17]), ([13, 18, 8], [8, 13, 18]), ([8, 19], [8, 19])])
def apart_B1 : List Nat := [0, 1, 3, 7, 15, 31, 63, 127, 255, 511, 1023, 2047, 4095, 8191, 511, 16895, 49663, 115199, 246271, 524287, 1048575]
theorem apart_tab1 : rtab .any (opsOf Try.f14 1) = apart_T1 := by kernel_rfl
theorem apart_bits1 : waitsOk apart_T1.2 apart_B1 = true := by kernel_rfl
def apart_T9 : Bool × List (List Nat × List Nat) := (true, [([], []), ([0], [0]), ([], []), ([2], [2]), ([1, 3], [1, 3]), ([4], [4]), ([], []), ([6], [6]), ([], []), ([8], [8]), ([7, 9], [7, 9]), ([10], [10]), ([5, 11], [5, 11])])
def apart_B9 : List Nat := [0, 1, 0, 4, 15, 31, 0, 64, 0, 256, 960, 1984, 4095]
theorem apart_tab9 : rtab .any (opsOf Try.f14 9) = apart_T9 := by kernel_rfl
theorem apart_bits9 : waitsOk apart_T9.2 apart_B9 = true := by kernel_rfl
def apart_T14 : Bool × List (List Nat × List Nat) := (true, [([], []), ([0], [0]), ([], []), ([2], [2]), ([1, 3], [1, 3]), ([4], [4]), ([], []), ([5, 6], [5, 6]), ([7], [7]), ([], []), ([9], [9]), ([], []), ([11], [11]), ([10, 12], [10, 12]), ([13], [13]), ([], []), ([14, 15], [14, 15]), ([16], [16]), ([8, 17], [8, 17]), ([], []), ([19, 18, 0, 1, 2, 3, 4, 5, 6, 7, 8, 9, 10, 11, 12, 13, 14, 15, 16, 17, 18, 19], [18, 19])])
def apart_B14 : List Nat := [0, 1, 0, 4, 15, 31, 0, 127, 255, 0, 512, 0, 2048, 7680, 15872, 0, 65024, 130560, 262143, 0, 1048575]
theorem apart_tab14 : rtab .any (opsOf Try.f14 14) = apart_T14 := by kernel_rfl
theorem apart_bits14 : waitsOk apart_T14.2 apart_B14 = true := by kernel_rfl
def apart_T17 : Bool × List (List Nat × List Nat) := (true, [([], []), ([], []), ([], []), ([], []), ([2, 3], [2, 3]), ([4], [4]), ([], []), ([6], [6]), ([5, 7, 5], [5, 7]), ([0, 1, 8, 8, 0, 1, 2, 3, 4, 5, 6, 7, 8], [0, 1, 8])])
def apart_B17 : List Nat := [0, 0, 0, 0, 12, 28, 0, 64, 252, 511]
theorem apart_tab17 : rtab .any (opsOf Try.f14 17) = apart_T17 := by kernel_rfl
theorem apart_bits17 : waitsOk apart_T17.2 apart_B17 = true := by kernel_rfl
theorem info51 : (Try.prog.info? 51).map (fun i => (i.zero, i.size, i.bytes)) = some (some (.agg #[.int .i64 0, .int .i64 0]), 2, 16) := by kernel_rfl
/-- What least.Apart answers with. -/
def ApartPost (r : List Int × Bool × Int) (w : World) (e : Ending) (w' : World) : Prop := ∃ v0_ : Value, e = .returned (.tuple #[v0_, .bool r.2.1, .int .i64 r.2.2]) ∧ Kd.R (Kd.int .i64) 3 w' w.heap.size (fun _ => True) v0_ r.1 ∧ Below w.heap.size w w'
def apartRes (a : List (List Int)) (b : List Bool) (a' : List (List Int)) (b' : List Bool) : List Int × Bool × Int := if bothB a b a' b' = true then ((apartOf a b a' b').1, (apartOf a b a' b').2, 0) else ([], false, 1)

theorem right_parts {a : List (List Int)} {b : List Bool} (h : rightB a b = true) : 1 ≤ a.length ∧ a.length ≤ 5000 ∧ b.length = a.length ∧ 1 ≤ (rd_L1 a 0).length ∧ (rd_L1 a 0).length ≤ 200 ∧ ∀ j : Nat, j < a.length → (rd_L1 a j).length = (rd_L1 a 0).length ∧ ∀ x ∈ rd_L1 a j, 0 ≤ x ∧ x < a.length := by
 have h0 := h
 unfold rightB at h
 simp only [Bool.and_eq_true, decide_eq_true_eq, Bool.not_eq_true'] at h
 obtain ⟨⟨⟨⟨⟨h1, h2⟩, h3⟩, h4⟩, h5⟩, h6⟩ := h
 refine ⟨h1, h2, h3, h4, h5, fun j hj => ⟨?_, (row_ok h0 j hj).2⟩⟩
 have hm : rd_L1 a j ∈ a := by
  unfold rd_L1
  simp only [Int.toNat_natCast, List.getD_eq_getElem?_getD, List.getElem?_eq_getElem hj, Option.getD_some]
  exact List.getElem_mem hj
 have h := List.any_eq_false.1 h6 _ hm
 unfold badRow at h
 simp only [Bool.or_eq_true, not_or, bne_iff_ne, ne_eq, Decidable.not_not] at h
 omega

structure Boxes (w : World) (u0 u1 u2 u3 : Value) (W : World) : Prop where
 b0 : W.heap[w.heap.size]? = some (.cells #[u0, u1] 25 (0, 0))
 b1 : W.heap[w.heap.size + 1]? = some (.cells #[u2, u3] 25 (0, 0))
 below : Below w.heap.size w W
theorem Boxes.made (w : World) (u0 u1 u2 u3 : Value) : Boxes w u0 u1 u2 u3 ((w.alloc (.cells #[u0, u1] 25)).alloc (.cells #[u2, u3] 25)) :=
 ⟨blk_alloc (blk_new w _) _, by have := blk_new (w.alloc (.cells #[u0, u1] 25)) (.cells #[u2, u3] 25); simpa using this, below_alloc (below_alloc (Below.refl w.heap.size w) _) _⟩
theorem Boxes.later {w W W' : World} {u0 u1 u2 u3 : Value} (h : Boxes w u0 u1 u2 u3 W) (hb : Below W.heap.size W W') : Boxes w u0 u1 u2 u3 W' := ⟨blk_below h.b0 hb, blk_below h.b1 hb, below_step h.below hb⟩
theorem Boxes.cells {w W : World} {u0 u1 u2 u3 : Value} (h : Boxes w u0 u1 u2 u3 W) : W.cell? ⟨w.heap.size, 0, none⟩ = some u0 ∧ W.cell? ⟨w.heap.size, 1, none⟩ = some u1 ∧ W.cell? ⟨w.heap.size + 1, 0, none⟩ = some u2 ∧ W.cell? ⟨w.heap.size + 1, 1, none⟩ = some u3 :=
 ⟨(blk_cell h.b0 0).trans rfl, (blk_cell h.b0 1).trans rfl, (blk_cell h.b1 0).trans rfl, (blk_cell h.b1 1).trans rfl⟩

theorem kp_one {W : World} {base : Nat} (p : Int × Int) (h : base ≤ W.heap.size) : Kd.R kp 51 (W.alloc (.cells #[.int .i64 p.1, .int .i64 p.2] 51)) base (fun _ => True) (.slice (some ⟨W.heap.size, 0, none⟩) 1 1) [p] := by
 refine ⟨fun _ _ => trivial, [.int .i64 p.1, .int .i64 p.2], ?_, ?_⟩
 ·have h2 := World.ownsRow_lit (base := base) (e := 51) (size := kp.sz) W #[.int .i64 p.1, .int .i64 p.2] 1 h (by decide) rfl
  simpa using h2
 ·exact Reps.c2 (kp_mk _ _ _ p) (Reps.none _ _)
theorem AInv.start {w W3 W4 : World} {u0 u1 u2 u3 : Value} (h : Boxes w u0 u1 u2 u3 W3) (hm : MapAt W4 W3.heap.size ([] ++ [(0, 0)]) ([] ++ [.slice none 0 0])) (hg : (W3.alloc (.map #[] 0)).grownBy W4 (some W3.heap.size)) :
  AInv w W3.heap.size u0 u1 u2 u3 (.slice (some ⟨W4.heap.size, 0, none⟩) 1 1) [(0, 0)] [(0, 0)] [.slice none 0 0] [[]] (W4.alloc (.cells #[.int .i64 0, .int .i64 0] 51)) := by
 have hb := Boxes.later h (below_alloc (Below.refl _ _) (.map #[] 0))
 have hlt : w.heap.size + 1 < W3.heap.size := blk_lt h.b1
 have h0 : Below w.heap.size w W4 := hb.below.grown hg hb.below.size (fun k e => by injection e with e; omega)
 have h1 : Boxes w u0 u1 u2 u3 (W4.alloc (.cells #[.int .i64 0, .int .i64 0] 51)) := ⟨blk_alloc (blk_grown hb.b0 hg (fun e => by injection e with e; omega)) _, blk_alloc (blk_grown hb.b1 hg (fun e => by injection e with e; omega)) _, below_alloc h0 _⟩
 exact ⟨h1.below, h1.b0, h1.b1, by omega, hm.move (Below.heap_alloc _ _ _ hm.lt), kp_one (0, 0) h0.size, fun j v x e1 e2 => by
  match j, e1, e2 with
  | 0, e1, e2 => cases e1; cases e2; exact Kd.R_nil _ _ _ _ _
  | j + 1, e1, e2 => simp at e1, rfl⟩
theorem QOk.start {n n' : Nat} (h : 0 < n) (h' : 0 < n') : QOk n n' [(0, 0)] [[]] :=
 ⟨by simp, fun x hx => by simp at hx; subst hx; simp; omega, rfl, fun j x hx => by
  match j, hx with
  | 0, hx => cases hx; exact Nat.le_refl _
  | j + 1, hx => simp at hx⟩

theorem pair_ok {n n' x1 x2 : Nat} (h : x1 < n ∧ x2 < n') (hn : n ≤ 5000) (hn' : n' ≤ 5000) : PairOk ((x1 : Int), (x2 : Int)) := ⟨show (0 : Int) ≤ x1 by omega, show (x1 : Int) < 5000 by omega, show (0 : Int) ≤ x2 by omega, show (x2 : Int) < 5000 by omega⟩
theorem apY_ok {a a' : List (List Int)} {ma x1 x2 c : Nat} (h : x1 < a.length ∧ x2 < a'.length) (h1 : ∀ j : Nat, j < a.length → (rd_L1 a j).length = ma ∧ ∀ x ∈ rd_L1 a j, 0 ≤ x ∧ x < a.length) (h2 : ∀ j : Nat, j < a'.length → (rd_L1 a' j).length = ma ∧ ∀ x ∈ rd_L1 a' j, 0 ≤ x ∧ x < a'.length) (hc : c < ma) :
  (0 ≤ (apY a a' ((x1 : Int), (x2 : Int)) c).1 ∧ (apY a a' ((x1 : Int), (x2 : Int)) c).1 < a.length) ∧ 0 ≤ (apY a a' ((x1 : Int), (x2 : Int)) c).2 ∧ (apY a a' ((x1 : Int), (x2 : Int)) c).2 < a'.length := by
 have hm : ∀ (l : List Int), l.length = ma → rd l c ∈ l := fun l hl => by
  unfold rd
  rw [Int.toNat_natCast, List.getD_eq_getElem?_getD, List.getElem?_eq_getElem (by omega), Option.getD_some]
  exact List.getElem_mem _
 exact ⟨(h1 x1 h.1).2 _ (hm _ (h1 x1 h.1).1), (h2 x2 h.2).2 _ (hm _ (h2 x2 h.2).1)⟩
theorem eq51 (a b c d : Int) (w : World) : (Op.equalIn 10000 51 (.agg #[.int .i64 a, .int .i64 b]) (.agg #[.int .i64 c, .int .i64 d])).run Try.prog w = .ok (a == c && b == d) w := by
 have u3 := Try.underlying3
 have a3 := Try.isAgg3
 have z3 := Try.sizeOf3
 rw [show (10000 : Nat) = 9999 + 1 from rfl, Op.equalIn]
 simp only [Sem.run_bind, run_underlying Try.underlying51, Result.andThen_ok]
 simp only [Std.Legacy.Range.forIn_eq_forIn_range', Std.Legacy.Range.size, Nat.sub_zero, Nat.add_sub_cancel, Nat.div_one, List.range'_succ, List.range'_zero, List.forIn_cons, List.forIn_nil]
 go_simp
 by_cases h1 : a = c <;> by_cases h2 : b = d <;> simp [h1, h2]
/-- What the entry's round keeps. -/
structure Mid (w : World) (MB : Nat) (u0 u1 u2 u3 vQ : Value) (q : List (Int × Int)) (vs : List Value) (ws : List (List Int)) (X Y x1 x2 y1 y2 i : Nat) (vi : Value) (W : World) : Prop where
 inv : AInv w MB u0 u1 u2 u3 vQ q q vs ws W
 x : W.heap[X]? = some (.cells #[.int .i64 x1, .int .i64 x2] 51 (0, 0))
 y : W.heap[Y]? = some (.cells #[.int .i64 y1, .int .i64 y2] 51 (0, 0))
 nd : q.Nodup
 ok : PairOk ((x1 : Int), (x2 : Int))
 k : q[i]? = some ((x1 : Int), (x2 : Int))
 v : vs[i]? = some vi
theorem Mid.later {w W W' : World} {MB : Nat} {u0 u1 u2 u3 vQ vi : Value} {q : List (Int × Int)} {vs : List Value} {ws : List (List Int)} {X Y x1 x2 y1 y2 i : Nat} (h : Mid w MB u0 u1 u2 u3 vQ q vs ws X Y x1 x2 y1 y2 i vi W) (hb : Below W.heap.size W W') : Mid w MB u0 u1 u2 u3 vQ q vs ws X Y x1 x2 y1 y2 i vi W' :=
 ⟨h.inv.later hb, blk_below h.x hb, blk_below h.y hb, h.nd, h.ok, h.k, h.v⟩
theorem Mid.held {w W : World} {MB : Nat} {u0 u1 u2 u3 vQ vi : Value} {q : List (Int × Int)} {vs : List Value} {ws : List (List Int)} {X Y x1 x2 y1 y2 i : Nat} (h : Mid w MB u0 u1 u2 u3 vQ q vs ws X Y x1 x2 y1 y2 i vi W) :
  W.cell? ⟨X, 0, none⟩ = some (.int .i64 x1) ∧ W.cell? ⟨X, 1, none⟩ = some (.int .i64 x2) ∧ W.cell? ⟨Y, 0, none⟩ = some (.int .i64 y1) ∧ W.cell? ⟨Y, 1, none⟩ = some (.int .i64 y2) ∧ (Instr.lookup 52 (.map (some MB)) (.agg #[.int .i64 x1, .int .i64 x2]) false).run Try.prog W = .ok vi W :=
 ⟨(blk_cell h.x 0).trans rfl, (blk_cell h.x 1).trans rfl, (blk_cell h.y 0).trans rfl, (blk_cell h.y 1).trans rfl, by have := h.inv.map.hit h.nd h.ok h.k h.v false; rw [if_neg (by decide)] at this; exact this⟩
theorem xq_new {W : World} {X t : Nat} {cs : Array Value} {v v' : Value} (h : some X ≠ v.ownBlock) (hx : W.heap[X]? = some (.cells cs t (0, 0))) (hat : v'.ownBlock = v.ownBlock ∨ ∃ b, v'.ownBlock = some b ∧ W.heap.size ≤ b) : some X ≠ v'.ownBlock := by
 rcases hat with e | ⟨b, e, hb⟩
 ·rw [e]; exact h
 ·rw [e]; intro he; injection he with he; have := blk_lt hx; omega
theorem apart_bad {r : List Int × Bool × Int} {w W : World} (hE : r = ([], false, 1)) (hB : Below w.heap.size w W) : ApartPost r w (.returned (.tuple #[.slice none 0 0, .bool false, .int .i64 1])) W := ⟨_, by rw [hE], by rw [hE]; exact Kd.R_nil _ _ _ _ _, hB⟩

set_option maxRecDepth 100000 in
set_option maxHeartbeats 16000000 in
theorem apart_calls (A0 : Option Addr) (c0 : Nat) (a : List (List Int)) (A1 : Option Addr) (c1 : Nat) (b : List Bool) (A2 : Option Addr) (c2 : Nat) (a' : List (List Int)) (A3 : Option Addr) (c3 : Nat) (b' : List Bool) (w : World)
  (hr0 : Kd.C (Kd.slice 3 (Kd.int .i64)) w A0 a.length a) (hc0 : a.length ≤ c0) (hr1 : Kd.C Kd.bool w A1 b.length b) (hc1 : b.length ≤ c1) (hr2 : Kd.C (Kd.slice 3 (Kd.int .i64)) w A2 a'.length a') (hc2 : a'.length ≤ c2) (hr3 : Kd.C Kd.bool w A3 b'.length b') (hc3 : b'.length ≤ c3) :
  Calls Try.prog 14 #[.agg #[.slice A0 a.length c0, .slice A1 b.length c1], .agg #[.slice A2 a'.length c2, .slice A3 b'.length c3]] w (ApartPost (apartRes a b a' b') w) := by
 have HR0 := Aside0.mk hr0
 have HR1 := Aside0.mk hr1
 have HR2 := Aside0.mk hr2
 have HR3 := Aside0.mk hr3
 have HC0 := Aside0.mk hc0
 have HC1 := Aside0.mk hc1
 have HC2 := Aside0.mk hc2
 have HC3 := Aside0.mk hc3
 have hmm := @run_makeMap Try.prog
 have B0 := Aside0.mk (Boxes.made w (.slice A0 a.length c0) (.slice A1 b.length c1) (.slice A2 a'.length c2) (.slice A3 b'.length c3))
 clear hr0 hr1 hr2 hr3 hc0 hc1 hc2 hc3
 go_enter Try.func14, Try.ntmps14
 go_upto_region 1 with fail
 have B1 := Aside0.mk (B0.out.later (below_drew (Below.refl _ _)))
 refine wp_region_noPanic ?_
 generalize (World.alloc (w.alloc (.cells #[.slice A0 a.length c0, .slice A1 b.length c1] 25)) (.cells #[.slice A2 a'.length c2, .slice A3 b'.length c3] 25)) = W0 at *
 clear B0
 have HRT1 := Aside0.mk (subset_Right.calls A0 c0 a A1 c1 b (rightB a b) W0.drew (Kd.C_below HR0.out B1.out.below) HC0.out (Kd.C_below HR1.out B1.out.below) HC1.out rfl)
 have HRT2 := Aside0.mk (fun (W : World) (h : Below w.heap.size w W) => subset_Right.calls A2 c2 a' A3 c3 b' (rightB a' b') W (Kd.C_below HR2.out h) HC2.out (Kd.C_below HR3.out h) HC3.out rfl)
 cases p1 : rightB a b with
 | false =>
  have HE := Aside0.mk (show apartRes a b a' b' = ([], false, 1) by unfold apartRes bothB; rw [p1, if_neg (by simp)])
  rw [p1] at HRT1
  clear p1 HRT2
  refine start_ (n := 21) (S := fun w' => (w'.cell? ⟨w.heap.size, 0, none⟩ = some (.slice A0 a.length c0) ∧ w'.cell? ⟨w.heap.size, 1, none⟩ = some (.slice A1 b.length c1) ∧ w'.cell? ⟨w.heap.size + 1, 0, none⟩ = some (.slice A2 a'.length c2) ∧ w'.cell? ⟨w.heap.size + 1, 1, none⟩ = some (.slice A3 b'.length c3))) (ds := []) #[false, false, false, false, false, false, false, false, false, false, false, false, false, false, false, false, false, false, false, false, false] (by kernel_rfl) rfl rfl B1.out.cells (fun hHeld => ?_); refine with_tabW apart_tab1 apart_bits1 (fun HT_ HW_ => ?_)
  generalize W0.drew = W1 at *
  refine take_ (i := 0) (N := some 15) (v := ?_) (a' := ?_) #[true, false, false, false, false, false, false, false, false, false, false, false, false, false, false, false, false, false, false, false, false] rfl rfl (take_ofW HT_.out HW_.out (by kernel_rfl)) (fun _ _ _ h => h) (Or.inl ⟨by rfl, ?_⟩) hHeld ?_ ?_
  rotate_left
  ·rintro w' ⟨s0, s1, s2, s3⟩
   go_simp
   with_reducible rfl
  rotate_left
  ·simp only [Act.put, List.setIfInBounds_toArray, List.set_cons_zero, List.set_cons_succ, i64_w, i32_w]
   rfl
  refine one_ (i := 1) (N := some 16) #[true, true, false, false, false, false, false, false, false, false, false, false, false, false, false, false, false, false, false, false, false] rfl rfl (one_of HT_.out (by kernel_rfl)) (by decide) (fun K hK => ?_)
  refine goes_ Try.func20 (by kernel_rfl) rfl #[.agg #[.slice A0 a.length c0, .slice A1 b.length c1]] (by rfl) rfl rfl (by (try simp only [List.map_toArray, List.map_cons, List.map_nil]); first | done | rfl) ?_
  refine (HRT1.out).mono ?_
  rintro e W2 ⟨rfl, hb⟩
  refine ⟨_, rfl, ?_⟩
  have B2 := Aside0.mk (B1.out.later hb)
  clear hb
  refine hK.out _ _ B2.out.cells (fun hHeld => ?_)
  clear hK K
  refine norm_ (a' := ?_) ?_ ?_
  rotate_left
  ·show Act.put _ (some 16) _ = _
   simp only [Act.put, List.setIfInBounds_toArray, List.set_cons_zero, List.set_cons_succ, i64_w, i32_w]
   rfl
  refine pure_ (i := 2) (N := some 17) (v := ?_) (a' := ?_) #[true, true, true, false, false, false, false, false, false, false, false, false, false, false, false, false, false, false, false, false, false] rfl rfl (any_of HT_.out (by kernel_rfl)) (fun _ _ _ h => h) (Or.inl ⟨by rfl, ?_⟩) ?_ ?_
  rotate_left
  ·intro w'
   go_simp
   with_reducible rfl
  rotate_left
  ·simp only [Act.put, List.setIfInBounds_toArray, List.set_cons_zero, List.set_cons_succ, i64_w, i32_w]
   rfl
  refine pure_ (i := 3) (N := some 18) (v := ?_) (a' := ?_) #[true, true, true, true, false, false, false, false, false, false, false, false, false, false, false, false, false, false, false, false, false] rfl rfl (any_of HT_.out (by kernel_rfl)) (fun _ _ _ h => h) (Or.inl ⟨by rfl, ?_⟩) ?_ ?_
  rotate_left
  ·intro w'
   go_simp
   with_reducible rfl
  rotate_left
  ·simp only [Act.put, List.setIfInBounds_toArray, List.set_cons_zero, List.set_cons_succ, i64_w, i32_w]
   rfl
  refine pure_ (i := 4) (N := some 19) (v := undef) (a' := ?_) #[true, true, true, true, true, false, false, false, false, false, false, false, false, false, false, false, false, false, false, false, false] rfl rfl (any_of HT_.out (by kernel_rfl)) (fun _ _ _ h => h) (Or.inr ⟨by rfl, rfl⟩) ?_ ?_
  rotate_left
  ·simp only [Act.put, List.setIfInBounds_toArray, List.set_cons_zero, List.set_cons_succ, i64_w, i32_w]
   rfl
  refine pure_ (i := 5) (N := some 20) (v := undef) (a' := ?_) #[true, true, true, true, true, true, false, false, false, false, false, false, false, false, false, false, false, false, false, false, false] rfl rfl (any_of HT_.out (by kernel_rfl)) (fun _ _ _ h => h) (Or.inr ⟨by rfl, rfl⟩) ?_ ?_
  rotate_left
  ·simp only [Act.put, List.setIfInBounds_toArray, List.set_cons_zero, List.set_cons_succ, i64_w, i32_w]
   rfl
  refine pure_ (i := 6) (N := some 21) (v := undef) (a' := ?_) #[true, true, true, true, true, true, true, false, false, false, false, false, false, false, false, false, false, false, false, false, false] rfl rfl (any_of HT_.out (by kernel_rfl)) (fun _ _ _ h => h) (Or.inr ⟨by rfl, rfl⟩) ?_ ?_
  rotate_left
  ·simp only [Act.put, List.setIfInBounds_toArray, List.set_cons_zero, List.set_cons_succ, i64_w, i32_w]
   rfl
  refine pure_ (i := 7) (N := some 22) (v := ?_) (a' := ?_) #[true, true, true, true, true, true, true, true, false, false, false, false, false, false, false, false, false, false, false, false, false] rfl rfl (any_of HT_.out (by kernel_rfl)) (fun _ _ _ h => h) (Or.inl ⟨by rfl, ?_⟩) ?_ ?_
  rotate_left
  ·intro w'
   go_simp
   with_reducible rfl
  rotate_left
  ·simp only [Act.put, List.setIfInBounds_toArray, List.set_cons_zero, List.set_cons_succ, i64_w, i32_w]
   rfl
  refine pure_ (i := 8) (N := some 23) (v := ?_) (a' := ?_) #[true, true, true, true, true, true, true, true, true, false, false, false, false, false, false, false, false, false, false, false, false] rfl rfl (any_of HT_.out (by kernel_rfl)) (fun _ _ _ h => h) (Or.inl ⟨by rfl, ?_⟩) ?_ ?_
  rotate_left
  ·intro w'
   go_simp
   with_reducible rfl
  rotate_left
  ·simp only [Act.put, List.setIfInBounds_toArray, List.set_cons_zero, List.set_cons_succ, i64_w, i32_w]
   rfl
  refine pure_ (i := 9) (N := some 24) (v := undef) (a' := ?_) #[true, true, true, true, true, true, true, true, true, true, false, false, false, false, false, false, false, false, false, false, false] rfl rfl (any_of HT_.out (by kernel_rfl)) (fun _ _ _ h => h) (Or.inr ⟨by rfl, rfl⟩) ?_ ?_
  rotate_left
  ·simp only [Act.put, List.setIfInBounds_toArray, List.set_cons_zero, List.set_cons_succ, i64_w, i32_w]
   rfl
  refine pure_ (i := 10) (N := some 25) (v := undef) (a' := ?_) #[true, true, true, true, true, true, true, true, true, true, true, false, false, false, false, false, false, false, false, false, false] rfl rfl (any_of HT_.out (by kernel_rfl)) (fun _ _ _ h => h) (Or.inr ⟨by rfl, rfl⟩) ?_ ?_
  rotate_left
  ·simp only [Act.put, List.setIfInBounds_toArray, List.set_cons_zero, List.set_cons_succ, i64_w, i32_w]
   rfl
  refine pure_ (i := 11) (N := some 26) (v := undef) (a' := ?_) #[true, true, true, true, true, true, true, true, true, true, true, true, false, false, false, false, false, false, false, false, false] rfl rfl (any_of HT_.out (by kernel_rfl)) (fun _ _ _ h => h) (Or.inr ⟨by rfl, rfl⟩) ?_ ?_
  rotate_left
  ·simp only [Act.put, List.setIfInBounds_toArray, List.set_cons_zero, List.set_cons_succ, i64_w, i32_w]
   rfl
  refine pure_ (i := 12) (N := some 27) (v := undef) (a' := ?_) #[true, true, true, true, true, true, true, true, true, true, true, true, true, false, false, false, false, false, false, false, false] rfl rfl (any_of HT_.out (by kernel_rfl)) (fun _ _ _ h => h) (Or.inr ⟨by rfl, rfl⟩) ?_ ?_
  rotate_left
  ·simp only [Act.put, List.setIfInBounds_toArray, List.set_cons_zero, List.set_cons_succ, i64_w, i32_w]
   rfl
  refine pure_ (i := 13) (N := some 28) (v := undef) (a' := ?_) #[true, true, true, true, true, true, true, true, true, true, true, true, true, true, false, false, false, false, false, false, false] rfl rfl (any_of HT_.out (by kernel_rfl)) (fun _ _ _ h => h) (Or.inr ⟨by rfl, rfl⟩) ?_ ?_
  rotate_left
  ·simp only [Act.put, List.setIfInBounds_toArray, List.set_cons_zero, List.set_cons_succ, i64_w, i32_w]
   rfl
  refine pure_ (i := 14) (N := some 29) (v := undef) (a' := ?_) #[true, true, true, true, true, true, true, true, true, true, true, true, true, true, true, false, false, false, false, false, false] rfl rfl (any_of HT_.out (by kernel_rfl)) (fun _ _ _ h => h) (Or.inr ⟨by rfl, rfl⟩) ?_ ?_
  rotate_left
  ·simp only [Act.put, List.setIfInBounds_toArray, List.set_cons_zero, List.set_cons_succ, i64_w, i32_w]
   rfl
  refine pure_ (i := 15) (N := some 30) (v := undef) (a' := ?_) #[true, true, true, true, true, true, true, true, true, true, true, true, true, true, true, true, false, false, false, false, false] rfl rfl (any_of HT_.out (by kernel_rfl)) (fun _ _ _ h => h) (Or.inr ⟨by rfl, rfl⟩) ?_ ?_
  rotate_left
  ·simp only [Act.put, List.setIfInBounds_toArray, List.set_cons_zero, List.set_cons_succ, i64_w, i32_w]
   rfl
  refine pure_ (i := 16) (N := some 31) (v := undef) (a' := ?_) #[true, true, true, true, true, true, true, true, true, true, true, true, true, true, true, true, true, false, false, false, false] rfl rfl (any_of HT_.out (by kernel_rfl)) (fun _ _ _ h => h) (Or.inr ⟨by rfl, rfl⟩) ?_ ?_
  rotate_left
  ·simp only [Act.put, List.setIfInBounds_toArray, List.set_cons_zero, List.set_cons_succ, i64_w, i32_w]
   rfl
  refine pure_ (i := 17) (N := some 32) (v := undef) (a' := ?_) #[true, true, true, true, true, true, true, true, true, true, true, true, true, true, true, true, true, true, false, false, false] rfl rfl (any_of HT_.out (by kernel_rfl)) (fun _ _ _ h => h) (Or.inr ⟨by rfl, rfl⟩) ?_ ?_
  rotate_left
  ·simp only [Act.put, List.setIfInBounds_toArray, List.set_cons_zero, List.set_cons_succ, i64_w, i32_w]
   rfl
  refine pure_ (i := 18) (N := some 33) (v := undef) (a' := ?_) #[true, true, true, true, true, true, true, true, true, true, true, true, true, true, true, true, true, true, true, false, false] rfl rfl (any_of HT_.out (by kernel_rfl)) (fun _ _ _ h => h) (Or.inr ⟨by rfl, rfl⟩) ?_ ?_
  rotate_left
  ·simp only [Act.put, List.setIfInBounds_toArray, List.set_cons_zero, List.set_cons_succ, i64_w, i32_w]
   rfl
  refine pure_ (i := 19) (N := some 34) (v := undef) (a' := ?_) #[true, true, true, true, true, true, true, true, true, true, true, true, true, true, true, true, true, true, true, true, false] rfl rfl (any_of HT_.out (by kernel_rfl)) (fun _ _ _ h => h) (Or.inr ⟨by rfl, rfl⟩) ?_ ?_
  rotate_left
  ·simp only [Act.put, List.setIfInBounds_toArray, List.set_cons_zero, List.set_cons_succ, i64_w, i32_w]
   rfl
  refine pure_ (i := 20) (N := some 35) (v := ?_) (a' := ?_) #[true, true, true, true, true, true, true, true, true, true, true, true, true, true, true, true, true, true, true, true, true] rfl rfl (any_of HT_.out (by kernel_rfl)) (fun _ _ _ h => h) (Or.inl ⟨by rfl, ?_⟩) ?_ ?_
  rotate_left
  ·intro w'
   go_simp
   with_reducible rfl
  rotate_left
  ·simp only [Act.put, List.setIfInBounds_toArray, List.set_cons_zero, List.set_cons_succ, i64_w, i32_w]
   rfl
  refine done_ (done_of HT_.out (by kernel_rfl)) ?_
  refine NoPanic.normal ?_
  clear HT_ HW_ hHeld
  go_wp2_with fail
  go_ret3
  exact apart_bad HE.out B2.out.below
 | true =>
  rw [p1] at HRT1
  have P1 := Aside0.mk p1
  clear p1
  cases p2 : rightB a' b' with
  | false =>
   have HE := Aside0.mk (show apartRes a b a' b' = ([], false, 1) by unfold apartRes bothB; rw [p2, if_neg (by simp)])
   rw [p2] at HRT2
   clear p2
   refine start_ (n := 21) (S := fun w' => (w'.cell? ⟨w.heap.size, 0, none⟩ = some (.slice A0 a.length c0) ∧ w'.cell? ⟨w.heap.size, 1, none⟩ = some (.slice A1 b.length c1) ∧ w'.cell? ⟨w.heap.size + 1, 0, none⟩ = some (.slice A2 a'.length c2) ∧ w'.cell? ⟨w.heap.size + 1, 1, none⟩ = some (.slice A3 b'.length c3))) (ds := []) #[false, false, false, false, false, false, false, false, false, false, false, false, false, false, false, false, false, false, false, false, false] (by kernel_rfl) rfl rfl B1.out.cells (fun hHeld => ?_); refine with_tabW apart_tab1 apart_bits1 (fun HT_ HW_ => ?_)
   generalize W0.drew = W1 at *
   refine take_ (i := 0) (N := some 15) (v := ?_) (a' := ?_) #[true, false, false, false, false, false, false, false, false, false, false, false, false, false, false, false, false, false, false, false, false] rfl rfl (take_ofW HT_.out HW_.out (by kernel_rfl)) (fun _ _ _ h => h) (Or.inl ⟨by rfl, ?_⟩) hHeld ?_ ?_
   rotate_left
   ·rintro w' ⟨s0, s1, s2, s3⟩
    go_simp
    with_reducible rfl
   rotate_left
   ·simp only [Act.put, List.setIfInBounds_toArray, List.set_cons_zero, List.set_cons_succ, i64_w, i32_w]
    rfl
   refine one_ (i := 1) (N := some 16) #[true, true, false, false, false, false, false, false, false, false, false, false, false, false, false, false, false, false, false, false, false] rfl rfl (one_of HT_.out (by kernel_rfl)) (by decide) (fun K hK => ?_)
   refine goes_ Try.func20 (by kernel_rfl) rfl #[.agg #[.slice A0 a.length c0, .slice A1 b.length c1]] (by rfl) rfl rfl (by (try simp only [List.map_toArray, List.map_cons, List.map_nil]); first | done | rfl) ?_
   refine (HRT1.out).mono ?_
   rintro e W2 ⟨rfl, hb⟩
   refine ⟨_, rfl, ?_⟩
   have B2 := Aside0.mk (B1.out.later hb)
   clear hb
   refine hK.out _ _ B2.out.cells (fun hHeld => ?_)
   clear hK K
   refine norm_ (a' := ?_) ?_ ?_
   rotate_left
   ·show Act.put _ (some 16) _ = _
    simp only [Act.put, List.setIfInBounds_toArray, List.set_cons_zero, List.set_cons_succ, i64_w, i32_w]
    rfl
   refine pure_ (i := 2) (N := some 17) (v := ?_) (a' := ?_) #[true, true, true, false, false, false, false, false, false, false, false, false, false, false, false, false, false, false, false, false, false] rfl rfl (any_of HT_.out (by kernel_rfl)) (fun _ _ _ h => h) (Or.inl ⟨by rfl, ?_⟩) ?_ ?_
   rotate_left
   ·intro w'
    go_simp
    with_reducible rfl
   rotate_left
   ·simp only [Act.put, List.setIfInBounds_toArray, List.set_cons_zero, List.set_cons_succ, i64_w, i32_w]
    rfl
   refine pure_ (i := 3) (N := some 18) (v := ?_) (a' := ?_) #[true, true, true, true, false, false, false, false, false, false, false, false, false, false, false, false, false, false, false, false, false] rfl rfl (any_of HT_.out (by kernel_rfl)) (fun _ _ _ h => h) (Or.inl ⟨by rfl, ?_⟩) ?_ ?_
   rotate_left
   ·intro w'
    go_simp
    with_reducible rfl
   rotate_left
   ·simp only [Act.put, List.setIfInBounds_toArray, List.set_cons_zero, List.set_cons_succ, i64_w, i32_w]
    rfl
   refine take_ (i := 4) (N := some 19) (v := ?_) (a' := ?_) #[true, true, true, true, true, false, false, false, false, false, false, false, false, false, false, false, false, false, false, false, false] rfl rfl (take_ofW HT_.out HW_.out (by kernel_rfl)) (fun _ _ _ h => h) (Or.inl ⟨by rfl, ?_⟩) hHeld ?_ ?_
   rotate_left
   ·rintro w' ⟨s0, s1, s2, s3⟩
    go_simp
    with_reducible rfl
   rotate_left
   ·simp only [Act.put, List.setIfInBounds_toArray, List.set_cons_zero, List.set_cons_succ, i64_w, i32_w]
    rfl
   refine one_ (i := 5) (N := some 20) #[true, true, true, true, true, true, false, false, false, false, false, false, false, false, false, false, false, false, false, false, false] rfl rfl (one_of HT_.out (by kernel_rfl)) (by decide) (fun K hK => ?_)
   refine goes_ Try.func20 (by kernel_rfl) rfl #[.agg #[.slice A2 a'.length c2, .slice A3 b'.length c3]] (by rfl) rfl rfl (by (try simp only [List.map_toArray, List.map_cons, List.map_nil]); first | done | rfl) ?_
   refine (HRT2.out W2 B2.out.below).mono ?_
   rintro e W3 ⟨rfl, hb⟩
   refine ⟨_, rfl, ?_⟩
   have B3 := Aside0.mk (B2.out.later hb)
   clear hb
   refine hK.out _ _ B3.out.cells (fun hHeld => ?_)
   clear hK K
   refine norm_ (a' := ?_) ?_ ?_
   rotate_left
   ·show Act.put _ (some 20) _ = _
    simp only [Act.put, List.setIfInBounds_toArray, List.set_cons_zero, List.set_cons_succ, i64_w, i32_w]
    rfl
   refine pure_ (i := 6) (N := some 21) (v := ?_) (a' := ?_) #[true, true, true, true, true, true, true, false, false, false, false, false, false, false, false, false, false, false, false, false, false] rfl rfl (any_of HT_.out (by kernel_rfl)) (fun _ _ _ h => h) (Or.inl ⟨by rfl, ?_⟩) ?_ ?_
   rotate_left
   ·intro w'
    go_simp
    with_reducible rfl
   rotate_left
   ·simp only [Act.put, List.setIfInBounds_toArray, List.set_cons_zero, List.set_cons_succ, i64_w, i32_w]
    rfl
   refine pure_ (i := 7) (N := some 22) (v := ?_) (a' := ?_) #[true, true, true, true, true, true, true, true, false, false, false, false, false, false, false, false, false, false, false, false, false] rfl rfl (any_of HT_.out (by kernel_rfl)) (fun _ _ _ h => h) (Or.inl ⟨by rfl, ?_⟩) ?_ ?_
   rotate_left
   ·intro w'
    go_simp
    with_reducible rfl
   rotate_left
   ·simp only [Act.put, List.setIfInBounds_toArray, List.set_cons_zero, List.set_cons_succ, i64_w, i32_w]
    rfl
   refine pure_ (i := 8) (N := some 23) (v := ?_) (a' := ?_) #[true, true, true, true, true, true, true, true, true, false, false, false, false, false, false, false, false, false, false, false, false] rfl rfl (any_of HT_.out (by kernel_rfl)) (fun _ _ _ h => h) (Or.inl ⟨by rfl, ?_⟩) ?_ ?_
   rotate_left
   ·intro w'
    go_simp
    with_reducible rfl
   rotate_left
   ·simp only [Act.put, List.setIfInBounds_toArray, List.set_cons_zero, List.set_cons_succ, i64_w, i32_w]
    rfl
   refine pure_ (i := 9) (N := some 24) (v := undef) (a' := ?_) #[true, true, true, true, true, true, true, true, true, true, false, false, false, false, false, false, false, false, false, false, false] rfl rfl (any_of HT_.out (by kernel_rfl)) (fun _ _ _ h => h) (Or.inr ⟨by rfl, rfl⟩) ?_ ?_
   rotate_left
   ·simp only [Act.put, List.setIfInBounds_toArray, List.set_cons_zero, List.set_cons_succ, i64_w, i32_w]
    rfl
   refine pure_ (i := 10) (N := some 25) (v := undef) (a' := ?_) #[true, true, true, true, true, true, true, true, true, true, true, false, false, false, false, false, false, false, false, false, false] rfl rfl (any_of HT_.out (by kernel_rfl)) (fun _ _ _ h => h) (Or.inr ⟨by rfl, rfl⟩) ?_ ?_
   rotate_left
   ·simp only [Act.put, List.setIfInBounds_toArray, List.set_cons_zero, List.set_cons_succ, i64_w, i32_w]
    rfl
   refine pure_ (i := 11) (N := some 26) (v := undef) (a' := ?_) #[true, true, true, true, true, true, true, true, true, true, true, true, false, false, false, false, false, false, false, false, false] rfl rfl (any_of HT_.out (by kernel_rfl)) (fun _ _ _ h => h) (Or.inr ⟨by rfl, rfl⟩) ?_ ?_
   rotate_left
   ·simp only [Act.put, List.setIfInBounds_toArray, List.set_cons_zero, List.set_cons_succ, i64_w, i32_w]
    rfl
   refine pure_ (i := 12) (N := some 27) (v := undef) (a' := ?_) #[true, true, true, true, true, true, true, true, true, true, true, true, true, false, false, false, false, false, false, false, false] rfl rfl (any_of HT_.out (by kernel_rfl)) (fun _ _ _ h => h) (Or.inr ⟨by rfl, rfl⟩) ?_ ?_
   rotate_left
   ·simp only [Act.put, List.setIfInBounds_toArray, List.set_cons_zero, List.set_cons_succ, i64_w, i32_w]
    rfl
   refine pure_ (i := 13) (N := some 28) (v := undef) (a' := ?_) #[true, true, true, true, true, true, true, true, true, true, true, true, true, true, false, false, false, false, false, false, false] rfl rfl (any_of HT_.out (by kernel_rfl)) (fun _ _ _ h => h) (Or.inr ⟨by rfl, rfl⟩) ?_ ?_
   rotate_left
   ·simp only [Act.put, List.setIfInBounds_toArray, List.set_cons_zero, List.set_cons_succ, i64_w, i32_w]
    rfl
   refine pure_ (i := 14) (N := some 29) (v := undef) (a' := ?_) #[true, true, true, true, true, true, true, true, true, true, true, true, true, true, true, false, false, false, false, false, false] rfl rfl (any_of HT_.out (by kernel_rfl)) (fun _ _ _ h => h) (Or.inr ⟨by rfl, rfl⟩) ?_ ?_
   rotate_left
   ·simp only [Act.put, List.setIfInBounds_toArray, List.set_cons_zero, List.set_cons_succ, i64_w, i32_w]
    rfl
   refine pure_ (i := 15) (N := some 30) (v := undef) (a' := ?_) #[true, true, true, true, true, true, true, true, true, true, true, true, true, true, true, true, false, false, false, false, false] rfl rfl (any_of HT_.out (by kernel_rfl)) (fun _ _ _ h => h) (Or.inr ⟨by rfl, rfl⟩) ?_ ?_
   rotate_left
   ·simp only [Act.put, List.setIfInBounds_toArray, List.set_cons_zero, List.set_cons_succ, i64_w, i32_w]
    rfl
   refine pure_ (i := 16) (N := some 31) (v := undef) (a' := ?_) #[true, true, true, true, true, true, true, true, true, true, true, true, true, true, true, true, true, false, false, false, false] rfl rfl (any_of HT_.out (by kernel_rfl)) (fun _ _ _ h => h) (Or.inr ⟨by rfl, rfl⟩) ?_ ?_
   rotate_left
   ·simp only [Act.put, List.setIfInBounds_toArray, List.set_cons_zero, List.set_cons_succ, i64_w, i32_w]
    rfl
   refine pure_ (i := 17) (N := some 32) (v := undef) (a' := ?_) #[true, true, true, true, true, true, true, true, true, true, true, true, true, true, true, true, true, true, false, false, false] rfl rfl (any_of HT_.out (by kernel_rfl)) (fun _ _ _ h => h) (Or.inr ⟨by rfl, rfl⟩) ?_ ?_
   rotate_left
   ·simp only [Act.put, List.setIfInBounds_toArray, List.set_cons_zero, List.set_cons_succ, i64_w, i32_w]
    rfl
   refine pure_ (i := 18) (N := some 33) (v := undef) (a' := ?_) #[true, true, true, true, true, true, true, true, true, true, true, true, true, true, true, true, true, true, true, false, false] rfl rfl (any_of HT_.out (by kernel_rfl)) (fun _ _ _ h => h) (Or.inr ⟨by rfl, rfl⟩) ?_ ?_
   rotate_left
   ·simp only [Act.put, List.setIfInBounds_toArray, List.set_cons_zero, List.set_cons_succ, i64_w, i32_w]
    rfl
   refine pure_ (i := 19) (N := some 34) (v := undef) (a' := ?_) #[true, true, true, true, true, true, true, true, true, true, true, true, true, true, true, true, true, true, true, true, false] rfl rfl (any_of HT_.out (by kernel_rfl)) (fun _ _ _ h => h) (Or.inr ⟨by rfl, rfl⟩) ?_ ?_
   rotate_left
   ·simp only [Act.put, List.setIfInBounds_toArray, List.set_cons_zero, List.set_cons_succ, i64_w, i32_w]
    rfl
   refine pure_ (i := 20) (N := some 35) (v := ?_) (a' := ?_) #[true, true, true, true, true, true, true, true, true, true, true, true, true, true, true, true, true, true, true, true, true] rfl rfl (any_of HT_.out (by kernel_rfl)) (fun _ _ _ h => h) (Or.inl ⟨by rfl, ?_⟩) ?_ ?_
   rotate_left
   ·intro w'
    go_simp
    with_reducible rfl
   rotate_left
   ·simp only [Act.put, List.setIfInBounds_toArray, List.set_cons_zero, List.set_cons_succ, i64_w, i32_w]
    rfl
   refine done_ (done_of HT_.out (by kernel_rfl)) ?_
   refine NoPanic.normal ?_
   clear HT_ HW_ hHeld
   go_wp2_with fail
   go_ret3
   exact apart_bad HE.out B3.out.below
  | true =>
   rw [p2] at HRT2
   have P2 := Aside0.mk p2
   clear p2
   have NA := Aside0.mk (right_parts P1.out)
   have NB := Aside0.mk (right_parts P2.out)
   obtain ⟨ada, Aa, ca, ea, ha, hla, hra⟩ := at_L1 HR0.out 0 (by omega) (by have := NA.out.1; omega)
   obtain ⟨adb, Ab, cb, eb, hb', hlb, hrb⟩ := at_L1 HR2.out 0 (by omega) (by have := NB.out.1; omega)
   subst ea
   subst eb
   rw [Int.toNat_zero] at ha hb'
   have HA0 := Aside0.mk ha
   have HB0 := Aside0.mk hb'
   clear ha hb' hla hlb hra hrb
   obtain ⟨ma, hma⟩ : ∃ n, (rd_L1 a 0).length = n := ⟨_, rfl⟩
   obtain ⟨mb, hmb⟩ : ∃ n, (rd_L1 a' 0).length = n := ⟨_, rfl⟩
   rw [hma] at HA0 NA
   rw [hmb] at HB0 NB
   have HMA := Aside0.mk hma
   have HMB := Aside0.mk hmb
   clear hma hmb
   have ga := eq_true (show 0 < a.length by have := NA.out.1; omega)
   have gb := eq_true (show 0 < a'.length by have := NB.out.1; omega)
   by_cases hmm2 : ma = mb
   ·subst hmm2
    have HE := Aside0.mk (show apartRes a b a' b' = ((apartOf a b a' b').1, (apartOf a b a' b').2, 0) by unfold apartRes bothB; rw [P1.out, P2.out, HMA.out, HMB.out, decide_eq_true rfl, if_pos (by rfl)])
    have hneq : ((ma : Int) != (ma : Int)) = false := by simp
    refine start_ (n := 21) (S := fun w' => (w'.cell? ⟨w.heap.size, 0, none⟩ = some (.slice (some ada) a.length c0) ∧ w'.cell? ⟨w.heap.size, 1, none⟩ = some (.slice A1 b.length c1) ∧ w'.cell? ⟨w.heap.size + 1, 0, none⟩ = some (.slice (some adb) a'.length c2) ∧ w'.cell? ⟨w.heap.size + 1, 1, none⟩ = some (.slice A3 b'.length c3)) ∧ w'.cell? ada = some (.slice Aa ma ca) ∧ w'.cell? adb = some (.slice Ab ma cb)) (ds := []) #[false, false, false, false, false, false, false, false, false, false, false, false, false, false, false, false, false, false, false, false, false] (by kernel_rfl) rfl rfl ⟨B1.out.cells, (B1.out.below.cell (World.block_lt_of_cell? w _ HA0.out)).trans HA0.out, (B1.out.below.cell (World.block_lt_of_cell? w _ HB0.out)).trans HB0.out⟩ (fun hHeld => ?_); refine with_tabW apart_tab1 apart_bits1 (fun HT_ HW_ => ?_)
    generalize W0.drew = W1 at *
    refine take_ (i := 0) (N := some 15) (v := ?_) (a' := ?_) #[true, false, false, false, false, false, false, false, false, false, false, false, false, false, false, false, false, false, false, false, false] rfl rfl (take_ofW HT_.out HW_.out (by kernel_rfl)) (fun _ _ _ h => h) (Or.inl ⟨by rfl, ?_⟩) hHeld ?_ ?_
    rotate_left
    ·rintro w' ⟨⟨s0, s1, s2, s3⟩, s4, s5⟩
     go_simp
     with_reducible rfl
    rotate_left
    ·simp only [Act.put, List.setIfInBounds_toArray, List.set_cons_zero, List.set_cons_succ, i64_w, i32_w]
     rfl
    refine one_ (i := 1) (N := some 16) #[true, true, false, false, false, false, false, false, false, false, false, false, false, false, false, false, false, false, false, false, false] rfl rfl (one_of HT_.out (by kernel_rfl)) (by decide) (fun K hK => ?_)
    refine goes_ Try.func20 (by kernel_rfl) rfl #[.agg #[.slice (some ada) a.length c0, .slice A1 b.length c1]] (by rfl) rfl rfl (by (try simp only [List.map_toArray, List.map_cons, List.map_nil]); first | done | rfl) ?_
    refine (HRT1.out).mono ?_
    rintro e W2 ⟨rfl, hb⟩
    refine ⟨_, rfl, ?_⟩
    have B2 := Aside0.mk (B1.out.later hb)
    clear hb
    refine hK.out _ _ ⟨B2.out.cells, (B2.out.below.cell (World.block_lt_of_cell? w _ HA0.out)).trans HA0.out, (B2.out.below.cell (World.block_lt_of_cell? w _ HB0.out)).trans HB0.out⟩ (fun hHeld => ?_)
    clear hK K
    refine norm_ (a' := ?_) ?_ ?_
    rotate_left
    ·show Act.put _ (some 16) _ = _
     simp only [Act.put, List.setIfInBounds_toArray, List.set_cons_zero, List.set_cons_succ, i64_w, i32_w]
     rfl
    refine pure_ (i := 2) (N := some 17) (v := ?_) (a' := ?_) #[true, true, true, false, false, false, false, false, false, false, false, false, false, false, false, false, false, false, false, false, false] rfl rfl (any_of HT_.out (by kernel_rfl)) (fun _ _ _ h => h) (Or.inl ⟨by rfl, ?_⟩) ?_ ?_
    rotate_left
    ·intro w'
     go_simp
     with_reducible rfl
    rotate_left
    ·simp only [Act.put, List.setIfInBounds_toArray, List.set_cons_zero, List.set_cons_succ, i64_w, i32_w]
     rfl
    refine pure_ (i := 3) (N := some 18) (v := ?_) (a' := ?_) #[true, true, true, true, false, false, false, false, false, false, false, false, false, false, false, false, false, false, false, false, false] rfl rfl (any_of HT_.out (by kernel_rfl)) (fun _ _ _ h => h) (Or.inl ⟨by rfl, ?_⟩) ?_ ?_
    rotate_left
    ·intro w'
     go_simp
     with_reducible rfl
    rotate_left
    ·simp only [Act.put, List.setIfInBounds_toArray, List.set_cons_zero, List.set_cons_succ, i64_w, i32_w]
     rfl
    refine take_ (i := 4) (N := some 19) (v := ?_) (a' := ?_) #[true, true, true, true, true, false, false, false, false, false, false, false, false, false, false, false, false, false, false, false, false] rfl rfl (take_ofW HT_.out HW_.out (by kernel_rfl)) (fun _ _ _ h => h) (Or.inl ⟨by rfl, ?_⟩) hHeld ?_ ?_
    rotate_left
    ·rintro w' ⟨⟨s0, s1, s2, s3⟩, s4, s5⟩
     go_simp
     with_reducible rfl
    rotate_left
    ·simp only [Act.put, List.setIfInBounds_toArray, List.set_cons_zero, List.set_cons_succ, i64_w, i32_w]
     rfl
    refine one_ (i := 5) (N := some 20) #[true, true, true, true, true, true, false, false, false, false, false, false, false, false, false, false, false, false, false, false, false] rfl rfl (one_of HT_.out (by kernel_rfl)) (by decide) (fun K hK => ?_)
    refine goes_ Try.func20 (by kernel_rfl) rfl #[.agg #[.slice (some adb) a'.length c2, .slice A3 b'.length c3]] (by rfl) rfl rfl (by (try simp only [List.map_toArray, List.map_cons, List.map_nil]); first | done | rfl) ?_
    refine (HRT2.out W2 B2.out.below).mono ?_
    rintro e W3 ⟨rfl, hb⟩
    refine ⟨_, rfl, ?_⟩
    have B3 := Aside0.mk (B2.out.later hb)
    clear hb
    refine hK.out _ _ ⟨B3.out.cells, (B3.out.below.cell (World.block_lt_of_cell? w _ HA0.out)).trans HA0.out, (B3.out.below.cell (World.block_lt_of_cell? w _ HB0.out)).trans HB0.out⟩ (fun hHeld => ?_)
    clear hK K
    refine norm_ (a' := ?_) ?_ ?_
    rotate_left
    ·show Act.put _ (some 20) _ = _
     simp only [Act.put, List.setIfInBounds_toArray, List.set_cons_zero, List.set_cons_succ, i64_w, i32_w]
     rfl
    refine pure_ (i := 6) (N := some 21) (v := ?_) (a' := ?_) #[true, true, true, true, true, true, true, false, false, false, false, false, false, false, false, false, false, false, false, false, false] rfl rfl (any_of HT_.out (by kernel_rfl)) (fun _ _ _ h => h) (Or.inl ⟨by rfl, ?_⟩) ?_ ?_
    rotate_left
    ·intro w'
     go_simp
     with_reducible rfl
    rotate_left
    ·simp only [Act.put, List.setIfInBounds_toArray, List.set_cons_zero, List.set_cons_succ, i64_w, i32_w]
     rfl
    refine pure_ (i := 7) (N := some 22) (v := ?_) (a' := ?_) #[true, true, true, true, true, true, true, true, false, false, false, false, false, false, false, false, false, false, false, false, false] rfl rfl (any_of HT_.out (by kernel_rfl)) (fun _ _ _ h => h) (Or.inl ⟨by rfl, ?_⟩) ?_ ?_
    rotate_left
    ·intro w'
     go_simp
     with_reducible rfl
    rotate_left
    ·simp only [Act.put, List.setIfInBounds_toArray, List.set_cons_zero, List.set_cons_succ, i64_w, i32_w]
     rfl
    refine pure_ (i := 8) (N := some 23) (v := ?_) (a' := ?_) #[true, true, true, true, true, true, true, true, true, false, false, false, false, false, false, false, false, false, false, false, false] rfl rfl (any_of HT_.out (by kernel_rfl)) (fun _ _ _ h => h) (Or.inl ⟨by rfl, ?_⟩) ?_ ?_
    rotate_left
    ·intro w'
     go_simp
     with_reducible rfl
    rotate_left
    ·simp only [Act.put, List.setIfInBounds_toArray, List.set_cons_zero, List.set_cons_succ, i64_w, i32_w]
     rfl
    refine pure_ (i := 9) (N := some 24) (v := ?_) (a' := ?_) #[true, true, true, true, true, true, true, true, true, true, false, false, false, false, false, false, false, false, false, false, false] rfl rfl (any_of HT_.out (by kernel_rfl)) (fun _ _ _ h => h) (Or.inl ⟨by rfl, ?_⟩) ?_ ?_
    rotate_left
    ·intro w'
     go_simp
     with_reducible rfl
    rotate_left
    ·simp only [Act.put, List.setIfInBounds_toArray, List.set_cons_zero, List.set_cons_succ, i64_w, i32_w]
     rfl
    refine take_ (i := 10) (N := some 25) (v := ?_) (a' := ?_) #[true, true, true, true, true, true, true, true, true, true, true, false, false, false, false, false, false, false, false, false, false] rfl rfl (take_ofW HT_.out HW_.out (by kernel_rfl)) (fun _ _ _ h => h) (Or.inl ⟨by rfl, ?_⟩) hHeld ?_ ?_
    rotate_left
    ·rintro w' ⟨⟨s0, s1, s2, s3⟩, s4, s5⟩
     go_simp
     with_reducible rfl
    rotate_left
    ·simp only [Act.put, List.setIfInBounds_toArray, List.set_cons_zero, List.set_cons_succ, i64_w, i32_w]
     rfl
    refine pure_ (i := 11) (N := some 26) (v := ?_) (a' := ?_) #[true, true, true, true, true, true, true, true, true, true, true, true, false, false, false, false, false, false, false, false, false] rfl rfl (any_of HT_.out (by kernel_rfl)) (fun _ _ _ h => h) (Or.inl ⟨by rfl, ?_⟩) ?_ ?_
    rotate_left
    ·intro w'
     go_simp
     with_reducible rfl
    rotate_left
    ·simp only [Act.put, List.setIfInBounds_toArray, List.set_cons_zero, List.set_cons_succ, i64_w, i32_w]
     rfl
    refine take_ (i := 12) (N := some 27) (v := ?_) (a' := ?_) #[true, true, true, true, true, true, true, true, true, true, true, true, true, false, false, false, false, false, false, false, false] rfl rfl (take_ofW HT_.out HW_.out (by kernel_rfl)) (fun _ _ _ h => h) (Or.inl ⟨by rfl, ?_⟩) hHeld ?_ ?_
    rotate_left
    ·rintro w' ⟨⟨s0, s1, s2, s3⟩, s4, s5⟩
     go_simp
     with_reducible rfl
    rotate_left
    ·simp only [Act.put, List.setIfInBounds_toArray, List.set_cons_zero, List.set_cons_succ, i64_w, i32_w]
     rfl
    refine pure_ (i := 13) (N := some 28) (v := ?_) (a' := ?_) #[true, true, true, true, true, true, true, true, true, true, true, true, true, true, false, false, false, false, false, false, false] rfl rfl (any_of HT_.out (by kernel_rfl)) (fun _ _ _ h => h) (Or.inl ⟨by rfl, ?_⟩) ?_ ?_
    rotate_left
    ·intro w'
     go_simp
     with_reducible rfl
    rotate_left
    ·simp only [Act.put, List.setIfInBounds_toArray, List.set_cons_zero, List.set_cons_succ, i64_w, i32_w]
     rfl
    refine pure_ (i := 14) (N := some 29) (v := ?_) (a' := ?_) #[true, true, true, true, true, true, true, true, true, true, true, true, true, true, true, false, false, false, false, false, false] rfl rfl (any_of HT_.out (by kernel_rfl)) (fun _ _ _ h => h) (Or.inl ⟨by rfl, ?_⟩) ?_ ?_
    rotate_left
    ·intro w'
     go_simp
     with_reducible rfl
    rotate_left
    ·simp only [Act.put, List.setIfInBounds_toArray, List.set_cons_zero, List.set_cons_succ, i64_w, i32_w]
     rfl
    refine take_ (i := 15) (N := some 30) (v := ?_) (a' := ?_) #[true, true, true, true, true, true, true, true, true, true, true, true, true, true, true, true, false, false, false, false, false] rfl rfl (take_ofW HT_.out HW_.out (by kernel_rfl)) (fun _ _ _ h => h) (Or.inl ⟨by rfl, ?_⟩) hHeld ?_ ?_
    rotate_left
    ·rintro w' ⟨⟨s0, s1, s2, s3⟩, s4, s5⟩
     go_simp
     with_reducible rfl
    rotate_left
    ·simp only [Act.put, List.setIfInBounds_toArray, List.set_cons_zero, List.set_cons_succ, i64_w, i32_w]
     rfl
    refine pure_ (i := 16) (N := some 31) (v := ?_) (a' := ?_) #[true, true, true, true, true, true, true, true, true, true, true, true, true, true, true, true, true, false, false, false, false] rfl rfl (any_of HT_.out (by kernel_rfl)) (fun _ _ _ h => h) (Or.inl ⟨by rfl, ?_⟩) ?_ ?_
    rotate_left
    ·intro w'
     go_simp
     with_reducible rfl
    rotate_left
    ·simp only [Act.put, List.setIfInBounds_toArray, List.set_cons_zero, List.set_cons_succ, i64_w, i32_w]
     rfl
    refine take_ (i := 17) (N := some 32) (v := ?_) (a' := ?_) #[true, true, true, true, true, true, true, true, true, true, true, true, true, true, true, true, true, true, false, false, false] rfl rfl (take_ofW HT_.out HW_.out (by kernel_rfl)) (fun _ _ _ h => h) (Or.inl ⟨by rfl, ?_⟩) hHeld ?_ ?_
    rotate_left
    ·rintro w' ⟨⟨s0, s1, s2, s3⟩, s4, s5⟩
     go_simp
     with_reducible rfl
    rotate_left
    ·simp only [Act.put, List.setIfInBounds_toArray, List.set_cons_zero, List.set_cons_succ, i64_w, i32_w]
     rfl
    refine pure_ (i := 18) (N := some 33) (v := ?_) (a' := ?_) #[true, true, true, true, true, true, true, true, true, true, true, true, true, true, true, true, true, true, true, false, false] rfl rfl (any_of HT_.out (by kernel_rfl)) (fun _ _ _ h => h) (Or.inl ⟨by rfl, ?_⟩) ?_ ?_
    rotate_left
    ·intro w'
     go_simp
     with_reducible rfl
    rotate_left
    ·simp only [Act.put, List.setIfInBounds_toArray, List.set_cons_zero, List.set_cons_succ, i64_w, i32_w]
     rfl
    refine pure_ (i := 19) (N := some 34) (v := ?_) (a' := ?_) #[true, true, true, true, true, true, true, true, true, true, true, true, true, true, true, true, true, true, true, true, false] rfl rfl (any_of HT_.out (by kernel_rfl)) (fun _ _ _ h => h) (Or.inl ⟨by rfl, ?_⟩) ?_ ?_
    rotate_left
    ·intro w'
     go_simp
     with_reducible rfl
    rotate_left
    ·simp only [Act.put, List.setIfInBounds_toArray, List.set_cons_zero, List.set_cons_succ, i64_w, i32_w]
     rfl
    refine pure_ (i := 20) (N := some 35) (v := ?_) (a' := ?_) #[true, true, true, true, true, true, true, true, true, true, true, true, true, true, true, true, true, true, true, true, true] rfl rfl (any_of HT_.out (by kernel_rfl)) (fun _ _ _ h => h) (Or.inl ⟨by rfl, ?_⟩) ?_ ?_
    rotate_left
    ·intro w'
     go_simp
     with_reducible rfl
    rotate_left
    ·simp only [Act.put, List.setIfInBounds_toArray, List.set_cons_zero, List.set_cons_succ, i64_w, i32_w]
     rfl
    refine done_ (done_of HT_.out (by kernel_rfl)) ?_
    refine NoPanic.normal ?_
    clear HT_ HW_ hHeld hneq HRT1 HRT2 B1 B2
    obtain ⟨W4, hput, hmap4, hg4⟩ := (MapAt.made W3).put (x := (0, 0)) (by unfold PairOk; omega) (by simp) (.slice none 0 0)
    have HST := Aside0.mk (AInv.start B3.out hmap4 hg4)
    clear hmap4 hg4 B3
    unfold pairV at hput
    go_wp2_with fail
    have HQ0 := Aside0.mk (QOk.start (n := a.length) (n' := a'.length) (by have := NA.out.1; omega) (by have := NB.out.1; omega))
    have HGO0 := Aside0.mk (show apGo a b a' b' ma (a.length * a'.length + 1) [(0, 0)] [[]] 0 = apartOf a b a' b' by unfold apartOf; rw [HMA.out])
    obtain ⟨fin, hfin⟩ : ∃ r, apartOf a b a' b' = r := ⟨_, rfl⟩
    rw [hfin] at HE HGO0
    clear hfin hput
    obtain ⟨NN, hNN⟩ : ∃ n, a.length * a'.length = n := ⟨_, rfl⟩
    rw [hNN] at HGO0
    have HNN := Aside0.mk hNN
    have HN25 := Aside0.mk (show NN ≤ 25000000 by rw [← hNN]; exact Nat.le_trans (Nat.mul_le_mul NA.out.2.1 NB.out.2.1) (by decide))
    clear hNN
    obtain ⟨MB, hMB⟩ : ∃ m, W3.heap.size = m := ⟨_, rfl⟩
    rw [hMB] at HST ⊢
    clear hMB
    generalize W4.alloc (.cells #[.int .i64 0, .int .i64 0] 51) = W5 at *
    go_loopg [8, 9] (NN + 2) (fun gk v8 v9 wr => ∃ (i k : Nat) (q : List (Int × Int)) (ws : List (List Int)) (vs : List Value), v9 = .int .i64 i ∧ k < gk ∧ i ≤ q.length ∧ NN < k + i ∧ Aside0 ((0, 0) ∈ q) ∧ Aside0 (apGo a b a' b' ma k q ws i = fin) ∧ Aside0 (QOk a.length a'.length q ws) ∧ Aside0 (AInv w MB (.slice (some ada) a.length c0) (.slice A1 b.length c1) (.slice (some adb) a'.length c2) (.slice A3 b'.length c3) v8 q q vs ws wr))
    case atStart => exact ⟨0, NN + 1, [(0, 0)], [[]], [.slice none 0 0], rfl, by omega, by simp, by omega, ⟨by simp⟩, HGO0, HQ0, HST⟩
    case round =>
     clear HST HQ0 HGO0
     obtain ⟨i, k, q, ws, vs, rfl, hk, hiq, hki, HZ, HGO, HQ, HI⟩ := hrel
     have hql := Aside0.mk (show q.length ≤ NN by have := HQ.out.size; rw [HNN.out] at this; exact this)
     by_cases hlt : i < q.length
     ·have hltz : (i : Int) < (q.length : Int) := by omega
      obtain ⟨k, rfl⟩ : ∃ k', k = k' + 1 := ⟨k - 1, by have := hql.out; omega⟩
      obtain ⟨gq, cQ, rfl, _, _, _⟩ := Kd.R_form HI.out.que (by omega)
      have hxm : q.getD i (0, 0) ∈ q := by rw [List.getD_eq_getElem?_getD, List.getElem?_eq_getElem hlt]; exact List.getElem_mem hlt
      obtain ⟨x1, x2, hx⟩ : ∃ x1 x2 : Nat, q.getD i (0, 0) = ((x1 : Int), (x2 : Int)) := by
       have h := HQ.out.lo _ hxm
       obtain ⟨p, hp⟩ : ∃ p, q.getD i (0, 0) = p := ⟨_, rfl⟩
       rw [hp] at h
       rw [hp]
       cases p with
       | mk p1 p2 => exact ⟨p1.toNat, p2.toNat, by rw [Int.toNat_of_nonneg h.1.1, Int.toNat_of_nonneg h.2.1]⟩
      have hxa : x1 < a.length ∧ x2 < a'.length := by
       have h := HQ.out.lo _ hxm
       rw [hx] at h
       have h1 : (x1 : Int) < a.length := h.1.2
       have h2 : (x2 : Int) < a'.length := h.2.2
       omega
      have HX := Aside0.mk hx
      have HXA := Aside0.mk hxa
      obtain ⟨hc0, hc1⟩ := kp_cells HI.out.que i hlt
      rw [hx] at hc0 hc1
      replace hc0 : wr.cell? ⟨gq, i * 2, none⟩ = some (.int .i64 x1) := hc0
      replace hc1 : wr.cell? ⟨gq, i * 2 + 1, none⟩ = some (.int .i64 x2) := hc1
      clear hx hxa hxm
      go_upto_region 9 with fail
      have HX8 := Aside0.mk (blk_new wr (.cells #[.int .i64 x1, .int .i64 x2] 51))
      have HI8 := Aside0.mk (HI.out.alloc (.cells #[.int .i64 x1, .int .i64 x2] 51))
      have HXQ := Aside0.mk (show some wr.heap.size ≠ (Value.slice (some ⟨gq, 0, none⟩) q.length cQ).ownBlock from fun e => by have := Kd.R_lt HI.out.que _ e.symm; omega)
      obtain ⟨X, hX⟩ : ∃ n, wr.heap.size = n := ⟨_, rfl⟩
      rw [hX] at HX8 HXQ ⊢
      clear hX hc0 hc1
      generalize wr.alloc (.cells #[.int .i64 x1, .int .i64 x2] 51) = W8 at *
      have HX9 := Aside0.mk (blk_drew HX8.out)
      have HI9 := Aside0.mk HI8.out.drew
      clear HX8 HI8 HI
      obtain ⟨adf, ef, hxf⟩ := Kd.at_bool HR1.out (x1 : Int) (by omega) (by have := HXA.out.1; have := NA.out.2.2.1; omega)
      obtain ⟨adg, eg, hxg⟩ := Kd.at_bool HR3.out (x2 : Int) (by omega) (by have := HXA.out.2; have := NB.out.2.2.1; omega)
      rw [Int.toNat_natCast] at hxf hxg
      obtain ⟨q1, hq1⟩ : ∃ v, rdOf false b x1 = v := ⟨_, rfl⟩
      obtain ⟨q2, hq2⟩ : ∃ v, rdOf false b' x2 = v := ⟨_, rfl⟩
      rw [hq1] at hxf
      rw [hq2] at hxg
      have HQ1 := Aside0.mk hq1
      have HQ2 := Aside0.mk hq2
      have HFA := Aside0.mk (And.intro hxf hxg)
      have gf := eq_true (show x1 < b.length by have := HXA.out.1; have := NA.out.2.2.1; omega)
      have gg := eq_true (show x2 < b'.length by have := HXA.out.2; have := NB.out.2.2.1; omega)
      clear hxf hxg hq1 hq2
      refine wp_region_noPanic ?_
      subst ef
      subst eg
      obtain ⟨bq, hbq⟩ : ∃ v, (q1 != q2) = v := ⟨_, rfl⟩
      have hbq2 : (!(q1 == q2)) = bq := hbq
      have HBQ := Aside0.mk hbq
      refine start_ (n := 13) (S := fun w' => w'.cell? ⟨w.heap.size, 1, none⟩ = some (.slice (some adf) b.length c1) ∧ w'.cell? ⟨w.heap.size + 1, 1, none⟩ = some (.slice (some adg) b'.length c3) ∧ w'.cell? ⟨X, 0, none⟩ = some (.int .i64 x1) ∧ w'.cell? ⟨X, 1, none⟩ = some (.int .i64 x2) ∧ w'.cell? (adf.add x1) = some (.bool q1) ∧ w'.cell? (adg.add x2) = some (.bool q2)) (ds := []) #[false, false, false, false, false, false, false, false, false, false, false, false, false] (by kernel_rfl) rfl rfl ⟨(blk_cell HI9.out.b0 1).trans rfl, (blk_cell HI9.out.b1 1).trans rfl, (blk_cell HX9.out 0).trans rfl, (blk_cell HX9.out 1).trans rfl, (HI9.out.below.cell (World.block_lt_of_cell? w _ HFA.out.1)).trans HFA.out.1, (HI9.out.below.cell (World.block_lt_of_cell? w _ HFA.out.2)).trans HFA.out.2⟩ (fun hHeld => ?_); refine with_tabW apart_tab9 apart_bits9 (fun HT_ HW_ => ?_)
      generalize W8.drew = W9 at *
      refine pure_ (i := 0) (N := some 51) (v := ?_) (a' := ?_) #[true, false, false, false, false, false, false, false, false, false, false, false, false] rfl rfl (any_of HT_.out (by kernel_rfl)) (fun _ _ _ h => h) (Or.inl ⟨by rfl, ?_⟩) ?_ ?_
      rotate_left
      ·intro w'
       go_simp
       with_reducible rfl
      rotate_left
      ·simp only [Act.put, List.setIfInBounds_toArray, List.set_cons_zero, List.set_cons_succ, i64_w, i32_w]
       rfl
      refine take_ (i := 1) (N := some 52) (v := ?_) (a' := ?_) #[true, true, false, false, false, false, false, false, false, false, false, false, false] rfl rfl (take_ofW HT_.out HW_.out (by kernel_rfl)) (fun _ _ _ h => h) (Or.inl ⟨by rfl, ?_⟩) hHeld ?_ ?_
      rotate_left
      ·rintro w' ⟨s0, s1, s2, s3, s4, s5⟩
       go_simp
       with_reducible rfl
      rotate_left
      ·simp only [Act.put, List.setIfInBounds_toArray, List.set_cons_zero, List.set_cons_succ, i64_w, i32_w]
       rfl
      refine pure_ (i := 2) (N := some 53) (v := ?_) (a' := ?_) #[true, true, true, false, false, false, false, false, false, false, false, false, false] rfl rfl (any_of HT_.out (by kernel_rfl)) (fun _ _ _ h => h) (Or.inl ⟨by rfl, ?_⟩) ?_ ?_
      rotate_left
      ·intro w'
       go_simp
       with_reducible rfl
      rotate_left
      ·simp only [Act.put, List.setIfInBounds_toArray, List.set_cons_zero, List.set_cons_succ, i64_w, i32_w]
       rfl
      refine take_ (i := 3) (N := some 54) (v := ?_) (a' := ?_) #[true, true, true, true, false, false, false, false, false, false, false, false, false] rfl rfl (take_ofW HT_.out HW_.out (by kernel_rfl)) (fun _ _ _ h => h) (Or.inl ⟨by rfl, ?_⟩) hHeld ?_ ?_
      rotate_left
      ·rintro w' ⟨s0, s1, s2, s3, s4, s5⟩
       go_simp
       with_reducible rfl
      rotate_left
      ·simp only [Act.put, List.setIfInBounds_toArray, List.set_cons_zero, List.set_cons_succ, i64_w, i32_w]
       rfl
      refine pure_ (i := 4) (N := some 55) (v := ?_) (a' := ?_) #[true, true, true, true, true, false, false, false, false, false, false, false, false] rfl rfl (any_of HT_.out (by kernel_rfl)) (fun _ _ _ h => h) (Or.inl ⟨by rfl, ?_⟩) ?_ ?_
      rotate_left
      ·intro w'
       go_simp
       with_reducible rfl
      rotate_left
      ·simp only [Act.put, List.setIfInBounds_toArray, List.set_cons_zero, List.set_cons_succ, i64_w, i32_w]
       rfl
      refine take_ (i := 5) (N := some 56) (v := ?_) (a' := ?_) #[true, true, true, true, true, true, false, false, false, false, false, false, false] rfl rfl (take_ofW HT_.out HW_.out (by kernel_rfl)) (fun _ _ _ h => h) (Or.inl ⟨by rfl, ?_⟩) hHeld ?_ ?_
      rotate_left
      ·rintro w' ⟨s0, s1, s2, s3, s4, s5⟩
       go_simp
       with_reducible rfl
      rotate_left
      ·simp only [Act.put, List.setIfInBounds_toArray, List.set_cons_zero, List.set_cons_succ, i64_w, i32_w]
       rfl
      refine pure_ (i := 6) (N := some 57) (v := ?_) (a' := ?_) #[true, true, true, true, true, true, true, false, false, false, false, false, false] rfl rfl (any_of HT_.out (by kernel_rfl)) (fun _ _ _ h => h) (Or.inl ⟨by rfl, ?_⟩) ?_ ?_
      rotate_left
      ·intro w'
       go_simp
       with_reducible rfl
      rotate_left
      ·simp only [Act.put, List.setIfInBounds_toArray, List.set_cons_zero, List.set_cons_succ, i64_w, i32_w]
       rfl
      refine take_ (i := 7) (N := some 58) (v := ?_) (a' := ?_) #[true, true, true, true, true, true, true, true, false, false, false, false, false] rfl rfl (take_ofW HT_.out HW_.out (by kernel_rfl)) (fun _ _ _ h => h) (Or.inl ⟨by rfl, ?_⟩) hHeld ?_ ?_
      rotate_left
      ·rintro w' ⟨s0, s1, s2, s3, s4, s5⟩
       go_simp
       with_reducible rfl
      rotate_left
      ·simp only [Act.put, List.setIfInBounds_toArray, List.set_cons_zero, List.set_cons_succ, i64_w, i32_w]
       rfl
      refine pure_ (i := 8) (N := some 59) (v := ?_) (a' := ?_) #[true, true, true, true, true, true, true, true, true, false, false, false, false] rfl rfl (any_of HT_.out (by kernel_rfl)) (fun _ _ _ h => h) (Or.inl ⟨by rfl, ?_⟩) ?_ ?_
      rotate_left
      ·intro w'
       go_simp
       with_reducible rfl
      rotate_left
      ·simp only [Act.put, List.setIfInBounds_toArray, List.set_cons_zero, List.set_cons_succ, i64_w, i32_w]
       rfl
      refine take_ (i := 9) (N := some 60) (v := ?_) (a' := ?_) #[true, true, true, true, true, true, true, true, true, true, false, false, false] rfl rfl (take_ofW HT_.out HW_.out (by kernel_rfl)) (fun _ _ _ h => h) (Or.inl ⟨by rfl, ?_⟩) hHeld ?_ ?_
      rotate_left
      ·rintro w' ⟨s0, s1, s2, s3, s4, s5⟩
       go_simp
       with_reducible rfl
      rotate_left
      ·simp only [Act.put, List.setIfInBounds_toArray, List.set_cons_zero, List.set_cons_succ, i64_w, i32_w]
       rfl
      refine pure_ (i := 10) (N := some 61) (v := ?_) (a' := ?_) #[true, true, true, true, true, true, true, true, true, true, true, false, false] rfl rfl (any_of HT_.out (by kernel_rfl)) (fun _ _ _ h => h) (Or.inl ⟨by rfl, ?_⟩) ?_ ?_
      rotate_left
      ·intro w'
       go_simp
       with_reducible rfl
      rotate_left
      ·simp only [Act.put, List.setIfInBounds_toArray, List.set_cons_zero, List.set_cons_succ, i64_w, i32_w]
       rfl
      refine take_ (i := 11) (N := some 62) (v := ?_) (a' := ?_) #[true, true, true, true, true, true, true, true, true, true, true, true, false] rfl rfl (take_ofW HT_.out HW_.out (by kernel_rfl)) (fun _ _ _ h => h) (Or.inl ⟨by rfl, ?_⟩) hHeld ?_ ?_
      rotate_left
      ·rintro w' ⟨s0, s1, s2, s3, s4, s5⟩
       go_simp
       with_reducible rfl
      rotate_left
      ·simp only [Act.put, List.setIfInBounds_toArray, List.set_cons_zero, List.set_cons_succ, i64_w, i32_w]
       rfl
      refine pure_ (i := 12) (N := some 63) (v := ?_) (a' := ?_) #[true, true, true, true, true, true, true, true, true, true, true, true, true] rfl rfl (any_of HT_.out (by kernel_rfl)) (fun _ _ _ h => h) (Or.inl ⟨by rfl, ?_⟩) ?_ ?_
      rotate_left
      ·intro w'
       go_simp
       with_reducible rfl
      rotate_left
      ·simp only [Act.put, List.setIfInBounds_toArray, List.set_cons_zero, List.set_cons_succ, i64_w, i32_w]
       rfl
      refine done_ (done_of HT_.out (by kernel_rfl)) ?_
      refine NoPanic.normal ?_
      clear HT_ HW_ hHeld
      have HPX := Aside0.mk (show PairOk ((x1 : Int), (x2 : Int)) from pair_ok HXA.out NA.out.2.1 NB.out.2.1)
      have HKI := Aside0.mk (show q[i]? = some ((x1 : Int), (x2 : Int)) by rw [← HX.out, List.getD_eq_getElem?_getD, List.getElem?_eq_getElem hlt]; rfl)
      have HLV := Aside0.mk (show vs.length = q.length from HI9.out.len.trans HQ.out.len)
      clear hbq hbq2
      cases bq with
      | true =>
       obtain ⟨vi, hvi⟩ : ∃ v, vs[i]? = some v := ⟨_, List.getElem?_eq_getElem (by rw [HLV.out]; exact hlt)⟩
       have hhit := HI9.out.map.hit HQ.out.nd HPX.out HKI.out hvi false
       rw [if_neg (by decide)] at hhit
       unfold pairV at hhit
       have HVI := Aside0.mk hvi
       have HRES := Aside0.mk (show fin = (ws.getD i [], true) by
        have h := HGO.out
        rw [apGo, if_pos hlt, HX.out, HQ1.out, HQ2.out, if_pos (by simpa using HBQ.out)] at h
        exact h.symm)
       have cx0 := (blk_cell HX9.out 0).trans rfl
       have cx1 := (blk_cell HX9.out 1).trans rfl
       clear hvi
       go_wp2_with fail
       go_ret3
       rw [HE.out, HRES.out]
       exact ⟨vi, rfl, HI9.out.words i vi _ HVI.out (by rw [List.getD_eq_getElem?_getD, List.getElem?_eq_getElem (by rw [HQ.out.len]; exact hlt)]; rfl), HI9.out.below⟩
      | false =>
       have HGO2 := Aside0.mk (show apGo a b a' b' ma k (apRow a a' ((x1 : Int), (x2 : Int)) (ws.getD i []) q ws ma).1 (apRow a a' ((x1 : Int), (x2 : Int)) (ws.getD i []) q ws ma).2 (i + 1) = fin by
        have h := HGO.out
        rw [apGo, if_pos hlt, HX.out, HQ1.out, HQ2.out, if_neg (by simpa using HBQ.out)] at h
        exact h)
       have cb0 := (blk_cell HI9.out.b0 0).trans rfl
       have cr0 : W9.cell? ada = some (.slice Aa ma ca) := (HI9.out.below.cell (World.block_lt_of_cell? w _ HA0.out)).trans HA0.out
       clear gf gg HFA HQ1 HQ2
       go_wp2_with fail
       clear cb0 cr0
       obtain ⟨wx, hwx⟩ : ∃ l, ws.getD i [] = l := ⟨_, rfl⟩
       rw [hwx] at HGO2
       have HWX := Aside0.mk (show ws[i]? = some wx by rw [← hwx, List.getD_eq_getElem?_getD, List.getElem?_eq_getElem (by rw [HQ.out.len]; exact hlt)]; rfl)
       clear hwx
       have HROW := Aside0.mk (fun j (hj : j ≤ ma) => apRow_ok (m := ma) (a := a) (a' := a') (x := ((x1 : Int), (x2 : Int))) (wx := wx) HQ.out (fun c hc => apY_ok HXA.out NA.out.2.2.2.2.2 NB.out.2.2.2.2.2 hc) (by have := HQ.out.short i _ HWX.out; omega) j hj)
       obtain ⟨g1, hg1⟩ : ∃ g, gk = g := ⟨_, rfl⟩
       go_loopg [8, 72] (ma + 1) (fun gk2 v8 v72 wr2 => ∃ (j : Nat) (q2 : List (Int × Int)) (ws2 : List (List Int)) (vs2 : List Value), v72 = .int .i64 j ∧ j ≤ ma ∧ ma - j < gk2 ∧ Aside0 (apRow a a' ((x1 : Int), (x2 : Int)) wx q ws j = (q2, ws2)) ∧ Aside0 (AInv w MB (.slice (some ada) a.length c0) (.slice (some adf) b.length c1) (.slice (some adb) a'.length c2) (.slice (some adg) b'.length c3) v8 q2 q2 vs2 ws2 wr2) ∧ Aside0 (wr2.heap[X]? = some (.cells #[.int .i64 x1, .int .i64 x2] 51 (0, 0))) ∧ Aside0 (some X ≠ v8.ownBlock))
       case atStart => exact ⟨0, q, ws, vs, rfl, by omega, by omega, ⟨rfl⟩, HI9, HX9, HXQ⟩
       case round =>
        clear HI9 HX9 HXQ
        obtain ⟨j, q2, ws2, vs2, rfl, hj, hgj, HAR, HI, HX2, HXQ⟩ := hrel
        have HQ2 := Aside0.mk (show QOk a.length a'.length q2 ws2 by have := HROW.out j hj; rw [HAR.out] at this; exact this)
        by_cases hlt2 : j < ma
        ·have hltz2 : (j : Int) < (ma : Int) := by omega
         obtain ⟨adn, A9, c9, en, hx9, hl9, hr9⟩ := at_L1 HR0.out (x1 : Int) (by omega) (by have := HXA.out.1; omega)
         obtain ⟨adm, A10, c10, em, hx10, hl10, hr10⟩ := at_L1 HR2.out (x2 : Int) (by omega) (by have := HXA.out.2; omega)
         obtain rfl : ada = adn := by injection en
         obtain rfl : adb = adm := by injection em
         have hm9 := (NA.out.2.2.2.2.2 x1 HXA.out.1).1
         have hm10 := (NB.out.2.2.2.2.2 x2 HXA.out.2).1
         rw [Int.toNat_natCast, hm9] at hx9
         rw [Int.toNat_natCast, hm10] at hx10
         rw [hm9] at hr9
         rw [hm10] at hr10
         obtain ⟨ade, eA, hxe⟩ := Kd.at_int hr9 (j : Int) (by omega) (by omega)
         obtain ⟨adh, eB, hxh⟩ := Kd.at_int hr10 (j : Int) (by omega) (by omega)
         rw [Int.toNat_natCast] at hxe hxh
         subst eA
         subst eB
         have hyo := apY_ok HXA.out NA.out.2.2.2.2.2 NB.out.2.2.2.2.2 hlt2
         obtain ⟨y1, y2, hy⟩ : ∃ y1 y2 : Nat, apY a a' ((x1 : Int), (x2 : Int)) j = ((y1 : Int), (y2 : Int)) := by
          obtain ⟨p, hp⟩ : ∃ p, apY a a' ((x1 : Int), (x2 : Int)) j = p := ⟨_, rfl⟩
          rw [hp] at hyo
          rw [hp]
          cases p with
          | mk p1 p2 => exact ⟨p1.toNat, p2.toNat, by rw [Int.toNat_of_nonneg hyo.1.1, Int.toNat_of_nonneg hyo.2.1]⟩
         rw [hy] at hyo
         have hy1 : rd (rd_L1 a x1) j = y1 := congrArg Prod.fst hy
         have hy2 : rd (rd_L1 a' x2) j = y2 := congrArg Prod.snd hy
         rw [hy1] at hxe
         rw [hy2] at hxh
         have HYO := Aside0.mk (show y1 < a.length ∧ y2 < a'.length by have h1 : (y1 : Int) < a.length := hyo.1.2; have h2 : (y2 : Int) < a'.length := hyo.2.2; omega)
         have HY := Aside0.mk hy
         have HC := Aside0.mk (And.intro hx9 (And.intro hx10 (And.intro hxe hxh)))
         have gx1 := eq_true (show x1 < a.length from HXA.out.1)
         have gx2 := eq_true (show x2 < a'.length from HXA.out.2)
         have gj := eq_true (show j < ma from hlt2)
         clear hx9 hx10 hxe hxh hl9 hl10 hr9 hr10 hm9 hm10 hyo hy hy1 hy2 en em
         go_upto_region 14 with fail
         have HI14 := Aside0.mk HI.out.drew
         have HX14 := Aside0.mk (blk_drew HX2.out)
         clear HI HX2
         refine wp_region_noPanic ?_
         refine start_ (n := 21) (S := fun w' => w'.cell? ⟨w.heap.size, 0, none⟩ = some (.slice (some ada) a.length c0) ∧ w'.cell? ⟨w.heap.size + 1, 0, none⟩ = some (.slice (some adb) a'.length c2) ∧ w'.cell? ⟨X, 0, none⟩ = some (.int .i64 x1) ∧ w'.cell? ⟨X, 1, none⟩ = some (.int .i64 x2) ∧ w'.cell? (ada.add x1) = some (.slice (some ade) ma c9) ∧ w'.cell? (adb.add x2) = some (.slice (some adh) ma c10) ∧ w'.cell? (ade.add j) = some (.int .i64 y1) ∧ w'.cell? (adh.add j) = some (.int .i64 y2)) (ds := [20]) #[false, false, false, false, false, false, false, false, false, false, false, false, false, false, false, false, false, false, false, false, false] (by kernel_rfl) rfl rfl ⟨(blk_cell HI14.out.b0 0).trans rfl, (blk_cell HI14.out.b1 0).trans rfl, (blk_cell HX14.out 0).trans rfl, (blk_cell HX14.out 1).trans rfl, (HI14.out.below.cell (World.block_lt_of_cell? w _ HC.out.1)).trans HC.out.1, (HI14.out.below.cell (World.block_lt_of_cell? w _ HC.out.2.1)).trans HC.out.2.1, (HI14.out.below.cell (World.block_lt_of_cell? w _ HC.out.2.2.1)).trans HC.out.2.2.1, (HI14.out.below.cell (World.block_lt_of_cell? w _ HC.out.2.2.2)).trans HC.out.2.2.2⟩ (fun hHeld => ?_); refine with_tabW apart_tab14 apart_bits14 (fun HT_ HW_ => ?_)
         generalize wr.drew = W14 at *
         refine pure_ (i := 0) (N := some 75) (v := ?_) (a' := ?_) #[true, false, false, false, false, false, false, false, false, false, false, false, false, false, false, false, false, false, false, false, false] rfl rfl (any_of HT_.out (by kernel_rfl)) (fun _ _ _ h => h) (Or.inl ⟨by rfl, ?_⟩) ?_ ?_
         rotate_left
         ·intro w'
          go_simp
          with_reducible rfl
         rotate_left
         ·simp only [Act.put, List.setIfInBounds_toArray, List.set_cons_zero, List.set_cons_succ, i64_w, i32_w]
          rfl
         refine take_ (i := 1) (N := some 76) (v := ?_) (a' := ?_) #[true, true, false, false, false, false, false, false, false, false, false, false, false, false, false, false, false, false, false, false, false] rfl rfl (take_ofW HT_.out HW_.out (by kernel_rfl)) (fun _ _ _ h => h) (Or.inl ⟨by rfl, ?_⟩) hHeld ?_ ?_
         rotate_left
         ·rintro w' ⟨s0, s1, s2, s3, s4, s5, s6, s7⟩
          go_simp
          with_reducible rfl
         rotate_left
         ·simp only [Act.put, List.setIfInBounds_toArray, List.set_cons_zero, List.set_cons_succ, i64_w, i32_w]
          rfl
         refine pure_ (i := 2) (N := some 77) (v := ?_) (a' := ?_) #[true, true, true, false, false, false, false, false, false, false, false, false, false, false, false, false, false, false, false, false, false] rfl rfl (any_of HT_.out (by kernel_rfl)) (fun _ _ _ h => h) (Or.inl ⟨by rfl, ?_⟩) ?_ ?_
         rotate_left
         ·intro w'
          go_simp
          with_reducible rfl
         rotate_left
         ·simp only [Act.put, List.setIfInBounds_toArray, List.set_cons_zero, List.set_cons_succ, i64_w, i32_w]
          rfl
         refine take_ (i := 3) (N := some 78) (v := ?_) (a' := ?_) #[true, true, true, true, false, false, false, false, false, false, false, false, false, false, false, false, false, false, false, false, false] rfl rfl (take_ofW HT_.out HW_.out (by kernel_rfl)) (fun _ _ _ h => h) (Or.inl ⟨by rfl, ?_⟩) hHeld ?_ ?_
         rotate_left
         ·rintro w' ⟨s0, s1, s2, s3, s4, s5, s6, s7⟩
          go_simp
          with_reducible rfl
         rotate_left
         ·simp only [Act.put, List.setIfInBounds_toArray, List.set_cons_zero, List.set_cons_succ, i64_w, i32_w]
          rfl
         refine pure_ (i := 4) (N := some 79) (v := ?_) (a' := ?_) #[true, true, true, true, true, false, false, false, false, false, false, false, false, false, false, false, false, false, false, false, false] rfl rfl (any_of HT_.out (by kernel_rfl)) (fun _ _ _ h => h) (Or.inl ⟨by rfl, ?_⟩) ?_ ?_
         rotate_left
         ·intro w'
          go_simp
          with_reducible rfl
         rotate_left
         ·simp only [Act.put, List.setIfInBounds_toArray, List.set_cons_zero, List.set_cons_succ, i64_w, i32_w]
          rfl
         refine take_ (i := 5) (N := some 80) (v := ?_) (a' := ?_) #[true, true, true, true, true, true, false, false, false, false, false, false, false, false, false, false, false, false, false, false, false] rfl rfl (take_ofW HT_.out HW_.out (by kernel_rfl)) (fun _ _ _ h => h) (Or.inl ⟨by rfl, ?_⟩) hHeld ?_ ?_
         rotate_left
         ·rintro w' ⟨s0, s1, s2, s3, s4, s5, s6, s7⟩
          go_simp
          with_reducible rfl
         rotate_left
         ·simp only [Act.put, List.setIfInBounds_toArray, List.set_cons_zero, List.set_cons_succ, i64_w, i32_w]
          rfl
         refine pure_ (i := 6) (N := some 81) (v := ?_) (a' := ?_) #[true, true, true, true, true, true, true, false, false, false, false, false, false, false, false, false, false, false, false, false, false] rfl rfl (any_of HT_.out (by kernel_rfl)) (fun _ _ _ h => h) (Or.inl ⟨by rfl, ?_⟩) ?_ ?_
         rotate_left
         ·intro w'
          go_simp
          with_reducible rfl
         rotate_left
         ·simp only [Act.put, List.setIfInBounds_toArray, List.set_cons_zero, List.set_cons_succ, i64_w, i32_w]
          rfl
         refine pure_ (i := 7) (N := some 82) (v := ?_) (a' := ?_) #[true, true, true, true, true, true, true, true, false, false, false, false, false, false, false, false, false, false, false, false, false] rfl rfl (any_of HT_.out (by kernel_rfl)) (fun _ _ _ h => h) (Or.inl ⟨by rfl, ?_⟩) ?_ ?_
         rotate_left
         ·intro w'
          go_simp
          with_reducible rfl
         rotate_left
         ·simp only [Act.put, List.setIfInBounds_toArray, List.set_cons_zero, List.set_cons_succ, i64_w, i32_w]
          rfl
         refine take_ (i := 8) (N := some 83) (v := ?_) (a' := ?_) #[true, true, true, true, true, true, true, true, true, false, false, false, false, false, false, false, false, false, false, false, false] rfl rfl (take_ofW HT_.out HW_.out (by kernel_rfl)) (fun _ _ _ h => h) (Or.inl ⟨by rfl, ?_⟩) hHeld ?_ ?_
         rotate_left
         ·rintro w' ⟨s0, s1, s2, s3, s4, s5, s6, s7⟩
          go_simp
          with_reducible rfl
         rotate_left
         ·simp only [Act.put, List.setIfInBounds_toArray, List.set_cons_zero, List.set_cons_succ, i64_w, i32_w]
          rfl
         refine pure_ (i := 9) (N := some 84) (v := ?_) (a' := ?_) #[true, true, true, true, true, true, true, true, true, true, false, false, false, false, false, false, false, false, false, false, false] rfl rfl (any_of HT_.out (by kernel_rfl)) (fun _ _ _ h => h) (Or.inl ⟨by rfl, ?_⟩) ?_ ?_
         rotate_left
         ·intro w'
          go_simp
          with_reducible rfl
         rotate_left
         ·simp only [Act.put, List.setIfInBounds_toArray, List.set_cons_zero, List.set_cons_succ, i64_w, i32_w]
          rfl
         refine take_ (i := 10) (N := some 85) (v := ?_) (a' := ?_) #[true, true, true, true, true, true, true, true, true, true, true, false, false, false, false, false, false, false, false, false, false] rfl rfl (take_ofW HT_.out HW_.out (by kernel_rfl)) (fun _ _ _ h => h) (Or.inl ⟨by rfl, ?_⟩) hHeld ?_ ?_
         rotate_left
         ·rintro w' ⟨s0, s1, s2, s3, s4, s5, s6, s7⟩
          go_simp
          with_reducible rfl
         rotate_left
         ·simp only [Act.put, List.setIfInBounds_toArray, List.set_cons_zero, List.set_cons_succ, i64_w, i32_w]
          rfl
         refine pure_ (i := 11) (N := some 86) (v := ?_) (a' := ?_) #[true, true, true, true, true, true, true, true, true, true, true, true, false, false, false, false, false, false, false, false, false] rfl rfl (any_of HT_.out (by kernel_rfl)) (fun _ _ _ h => h) (Or.inl ⟨by rfl, ?_⟩) ?_ ?_
         rotate_left
         ·intro w'
          go_simp
          with_reducible rfl
         rotate_left
         ·simp only [Act.put, List.setIfInBounds_toArray, List.set_cons_zero, List.set_cons_succ, i64_w, i32_w]
          rfl
         refine take_ (i := 12) (N := some 87) (v := ?_) (a' := ?_) #[true, true, true, true, true, true, true, true, true, true, true, true, true, false, false, false, false, false, false, false, false] rfl rfl (take_ofW HT_.out HW_.out (by kernel_rfl)) (fun _ _ _ h => h) (Or.inl ⟨by rfl, ?_⟩) hHeld ?_ ?_
         rotate_left
         ·rintro w' ⟨s0, s1, s2, s3, s4, s5, s6, s7⟩
          go_simp
          with_reducible rfl
         rotate_left
         ·simp only [Act.put, List.setIfInBounds_toArray, List.set_cons_zero, List.set_cons_succ, i64_w, i32_w]
          rfl
         refine pure_ (i := 13) (N := some 88) (v := ?_) (a' := ?_) #[true, true, true, true, true, true, true, true, true, true, true, true, true, true, false, false, false, false, false, false, false] rfl rfl (any_of HT_.out (by kernel_rfl)) (fun _ _ _ h => h) (Or.inl ⟨by rfl, ?_⟩) ?_ ?_
         rotate_left
         ·intro w'
          go_simp
          with_reducible rfl
         rotate_left
         ·simp only [Act.put, List.setIfInBounds_toArray, List.set_cons_zero, List.set_cons_succ, i64_w, i32_w]
          rfl
         refine take_ (i := 14) (N := some 89) (v := ?_) (a' := ?_) #[true, true, true, true, true, true, true, true, true, true, true, true, true, true, true, false, false, false, false, false, false] rfl rfl (take_ofW HT_.out HW_.out (by kernel_rfl)) (fun _ _ _ h => h) (Or.inl ⟨by rfl, ?_⟩) hHeld ?_ ?_
         rotate_left
         ·rintro w' ⟨s0, s1, s2, s3, s4, s5, s6, s7⟩
          go_simp
          with_reducible rfl
         rotate_left
         ·simp only [Act.put, List.setIfInBounds_toArray, List.set_cons_zero, List.set_cons_succ, i64_w, i32_w]
          rfl
         refine pure_ (i := 15) (N := some 90) (v := ?_) (a' := ?_) #[true, true, true, true, true, true, true, true, true, true, true, true, true, true, true, true, false, false, false, false, false] rfl rfl (any_of HT_.out (by kernel_rfl)) (fun _ _ _ h => h) (Or.inl ⟨by rfl, ?_⟩) ?_ ?_
         rotate_left
         ·intro w'
          go_simp
          with_reducible rfl
         rotate_left
         ·simp only [Act.put, List.setIfInBounds_toArray, List.set_cons_zero, List.set_cons_succ, i64_w, i32_w]
          rfl
         refine pure_ (i := 16) (N := some 91) (v := ?_) (a' := ?_) #[true, true, true, true, true, true, true, true, true, true, true, true, true, true, true, true, true, false, false, false, false] rfl rfl (any_of HT_.out (by kernel_rfl)) (fun _ _ _ h => h) (Or.inl ⟨by rfl, ?_⟩) ?_ ?_
         rotate_left
         ·intro w'
          go_simp
          with_reducible rfl
         rotate_left
         ·simp only [Act.put, List.setIfInBounds_toArray, List.set_cons_zero, List.set_cons_succ, i64_w, i32_w]
          rfl
         refine take_ (i := 17) (N := some 92) (v := ?_) (a' := ?_) #[true, true, true, true, true, true, true, true, true, true, true, true, true, true, true, true, true, true, false, false, false] rfl rfl (take_ofW HT_.out HW_.out (by kernel_rfl)) (fun _ _ _ h => h) (Or.inl ⟨by rfl, ?_⟩) hHeld ?_ ?_
         rotate_left
         ·rintro w' ⟨s0, s1, s2, s3, s4, s5, s6, s7⟩
          go_simp
          with_reducible rfl
         rotate_left
         ·simp only [Act.put, List.setIfInBounds_toArray, List.set_cons_zero, List.set_cons_succ, i64_w, i32_w]
          rfl
         refine pure_ (i := 18) (N := some 93) (v := ?_) (a' := ?_) #[true, true, true, true, true, true, true, true, true, true, true, true, true, true, true, true, true, true, true, false, false] rfl rfl (any_of HT_.out (by kernel_rfl)) (fun _ _ _ h => h) (Or.inl ⟨by rfl, ?_⟩) ?_ ?_
         rotate_left
         ·intro w'
          go_simp
          with_reducible rfl
         rotate_left
         ·simp only [Act.put, List.setIfInBounds_toArray, List.set_cons_zero, List.set_cons_succ, i64_w, i32_w]
          rfl
         refine one_ (i := 19) (N := some 12) #[true, true, true, true, true, true, true, true, true, true, true, true, true, true, true, true, true, true, true, true, false] rfl rfl (one_of HT_.out (by kernel_rfl)) (by decide) (fun K hK => ?_)
         refine step_list rfl (by rfl) ?_
         unfold Oper.wp
         go_simp
         have HI15 := Aside0.mk (HI14.out.alloc (.cells #[.int .i64 0, .int .i64 0] 51))
         have HX15 := Aside0.mk (blk_alloc HX14.out (.cells #[.int .i64 0, .int .i64 0] 51))
         have HY15 := Aside0.mk (blk_new W14 (.cells #[.int .i64 0, .int .i64 0] 51))
         have HB15 := Aside0.mk (below_alloc (Below.refl W14.heap.size W14) (.cells #[.int .i64 0, .int .i64 0] 51))
         refine hK.out _ _ ⟨(blk_cell HI15.out.b0 0).trans rfl, (blk_cell HI15.out.b1 0).trans rfl, (blk_cell HX15.out 0).trans rfl, (blk_cell HX15.out 1).trans rfl, (HI15.out.below.cell (World.block_lt_of_cell? w _ HC.out.1)).trans HC.out.1, (HI15.out.below.cell (World.block_lt_of_cell? w _ HC.out.2.1)).trans HC.out.2.1, (HI15.out.below.cell (World.block_lt_of_cell? w _ HC.out.2.2.1)).trans HC.out.2.2.1, (HI15.out.below.cell (World.block_lt_of_cell? w _ HC.out.2.2.2)).trans HC.out.2.2.2⟩ (fun hHeld => ?_)
         clear hK K HI15 HX15
         obtain ⟨Y, hY⟩ : ∃ n, W14.heap.size = n := ⟨_, rfl⟩
         have HYB := Aside0.mk (show W14.heap.size ≤ Y by omega)
         rw [hY] at HY15 ⊢
         clear hY
         generalize W14.alloc (.cells #[.int .i64 0, .int .i64 0] 51) = W15 at *
         refine last_ (i := 20) (N := none) #[true, true, true, true, true, true, true, true, true, true, true, true, true, true, true, true, true, true, true, true, true] rfl rfl (one_of HT_.out (by kernel_rfl)) (by decide) (fun K hK => ?_)
         refine step_list rfl (by rfl) ?_
         have z0 := (blk_cell HY15.out 0).trans rfl
         have z1 := (blk_cell HY15.out 1).trans rfl
         have f0 := blk_frozen HY15.out 0
         have f1 := blk_frozen HY15.out 1
         unfold Oper.wp
         go_simp
         refine hK.out _ _ ?_
         clear hK K z0 z1 f0 f1
         refine done_ (done_of HT_.out (by kernel_rfl)) ?_
         refine NoPanic.normal ?_
         clear HT_ HW_ hHeld gx1 gx2 gj HC
         have HY16 := Aside0.mk (blk_put (blk_put HY15.out 0 (.int .i64 y1) rfl) 1 (.int .i64 y2) rfl)
         have hb16 : Below W14.heap.size W14 ((W15.setCell ⟨Y, 0, none⟩ (.int .i64 y1)).setCell ⟨Y, 1, none⟩ (.int .i64 y2)) := below_set (below_set HB15.out HYB.out) HYB.out
         have HI16 := Aside0.mk (HI14.out.later hb16)
         have HX16 := Aside0.mk (blk_below HX14.out hb16)
         clear hb16 HI14 HX14 HY15 HB15
         generalize ((W15.setCell ⟨Y, 0, none⟩ (.int .i64 y1)).setCell ⟨Y, 1, none⟩ (.int .i64 y2)) = W16 at *
         have hma200 : ma ≤ 200 := NA.out.2.2.2.2.1
         have HPY := Aside0.mk (pair_ok HYO.out NA.out.2.1 NB.out.2.1)
         have cy0 := (blk_cell HY16.out 0).trans rfl
         have cy1 := (blk_cell HY16.out 1).trans rfl
         by_cases hin : ((y1 : Int), (y2 : Int)) ∈ q2
         ·obtain ⟨jj, hjj⟩ := List.mem_iff_getElem?.1 hin
          obtain ⟨vj, hvj⟩ : ∃ v, vs2[jj]? = some v := ⟨_, List.getElem?_eq_getElem (by rw [HI16.out.len, HQ2.out.len]; exact (List.getElem?_eq_some_iff.1 hjj).1)⟩
          have hhit := HI16.out.map.hit HQ2.out.nd HPY.out hjj hvj true
          rw [if_pos rfl] at hhit
          unfold pairV at hhit
          have HAR2 := Aside0.mk (show apRow a a' ((x1 : Int), (x2 : Int)) wx q ws (j + 1) = (q2, ws2) by rw [apRow, HAR.out, HY.out, if_pos hin])
          clear hjj hvj hin
          go_wp2_with fail
          go_roundg (gk - 1)
          case measure => omega
          case rel => exact ⟨j + 1, q2, ws2, vs2, by go_num, by omega, by omega, HAR2, HI16, HX16, HXQ⟩
         ·have hmiss := HI16.out.map.miss HPY.out hin
          unfold pairV at hmiss
          have HIN := Aside0.mk hin
          have HAR2 := Aside0.mk (show apRow a a' ((x1 : Int), (x2 : Int)) wx q ws (j + 1) = (q2 ++ [((y1 : Int), (y2 : Int))], ws2 ++ [wx ++ [(j : Int)]]) by rw [apRow, HAR.out, HY.out, if_neg hin])
          obtain ⟨rr, ss, hrr, hss⟩ := apRow_pre a a' ((x1 : Int), (x2 : Int)) wx q ws j
          rw [HAR.out] at hrr hss
          have hrr : q2 = q ++ rr := hrr
          have hss : ws2 = ws ++ ss := hss
          have heq := eq51 y1 y2 0 0 W16
          rw [show (((y1 : Int) == 0) && ((y2 : Int) == 0)) = false from by
           have : ¬ ((y1 : Int) = 0 ∧ (y2 : Int) = 0) := fun h => hin (by rw [h.1, h.2, hrr]; exact List.mem_append_left _ HZ.out)
           simpa using this] at heq
          have HKI2 := Aside0.mk (show q2[i]? = some ((x1 : Int), (x2 : Int)) by rw [hrr, List.getElem?_append_left hlt]; exact HKI.out)
          have HWX2 := Aside0.mk (show ws2[i]? = some wx by rw [hss, List.getElem?_append_left (by rw [HQ.out.len]; exact hlt)]; exact HWX.out)
          have HQL := Aside0.mk (show i < q2.length by rw [hrr, List.length_append]; omega)
          obtain ⟨vi, hvi⟩ : ∃ v, vs2[i]? = some v := ⟨_, List.getElem?_eq_getElem (by rw [HI16.out.len, HQ2.out.len]; exact HQL.out)⟩
          have HVI := Aside0.mk hvi
          clear hin hrr hss hvi
          have HVW := Aside0.mk (show Kd.R (Kd.int .i64) 3 W16 w.heap.size (fun _ => True) vi wx from HI16.out.words i vi wx HVI.out HWX2.out)
          have HWL := Aside0.mk (show wx.length ≤ 25000000 by have h1 := HQ.out.short i _ HWX.out; have h2 := hql.out; have h3 := HN25.out; omega)
          go_upto_region 17 with fail
          have M17 := Aside0.mk (Mid.mk HI16.out.drew (blk_drew HX16.out) (blk_drew HY16.out) HQ2.out.nd HPX.out HKI2.out HVI.out)
          have HB17 := Aside0.mk (Below.refl W16.drew.heap.size W16.drew)
          clear HI16 HX16 HY16 hmiss heq cy0 cy1
          refine wp_region_noPanic ?_
          obtain ⟨iW, hiW, hzW, hsW, hbW⟩ := info_parts info3
          have HVW17 := Aside0.mk (Kd.R_drew HVW.out)
          have HS17 := Aside0.mk (show w.heap.size ≤ W16.drew.heap.size from M17.out.inv.base)
          refine start_ (n := 10) (S := fun w' => w'.cell? ⟨X, 0, none⟩ = some (.int .i64 x1) ∧ w'.cell? ⟨X, 1, none⟩ = some (.int .i64 x2) ∧ w'.cell? ⟨Y, 0, none⟩ = some (.int .i64 y1) ∧ w'.cell? ⟨Y, 1, none⟩ = some (.int .i64 y2) ∧ (Instr.lookup 52 (.map (some MB)) (.agg #[.int .i64 x1, .int .i64 x2]) false).run Try.prog w' = .ok vi w') (ds := [9]) #[false, false, false, false, false, false, false, false, false, false] (by kernel_rfl) rfl rfl M17.out.held (fun hHeld => ?_); refine with_tabW apart_tab17 apart_bits17 (fun HT_ HW_ => ?_)
          generalize W16.drew = W17 at *
          refine pure_ (i := 0) (N := some 107) (v := ?_) (a' := ?_) #[true, false, false, false, false, false, false, false, false, false] rfl rfl (any_of HT_.out (by kernel_rfl)) (fun _ _ _ h => h) (Or.inl ⟨by rfl, ?_⟩) ?_ ?_
          rotate_left
          ·intro w'
           go_simp
           with_reducible rfl
          rotate_left
          ·simp only [Act.put, List.setIfInBounds_toArray, List.set_cons_zero, List.set_cons_succ, i64_w, i32_w]
           rfl
          refine take_ (i := 1) (N := some 108) (v := ?_) (a' := ?_) #[true, true, false, false, false, false, false, false, false, false] rfl rfl (take_ofW HT_.out HW_.out (by kernel_rfl)) (fun _ _ _ h => h) (Or.inl ⟨by rfl, ?_⟩) hHeld ?_ ?_
          rotate_left
          ·rintro w' ⟨s0, s1, s2, s3, s4⟩
           go_simp
           with_reducible rfl
          rotate_left
          ·simp only [Act.put, List.setIfInBounds_toArray, List.set_cons_zero, List.set_cons_succ, i64_w, i32_w]
           rfl
          refine pure_ (i := 2) (N := some 109) (v := ?_) (a' := ?_) #[true, true, true, false, false, false, false, false, false, false] rfl rfl (any_of HT_.out (by kernel_rfl)) (fun _ _ _ h => h) (Or.inl ⟨by rfl, ?_⟩) ?_ ?_
          rotate_left
          ·intro w'
           go_simp
           with_reducible rfl
          rotate_left
          ·simp only [Act.put, List.setIfInBounds_toArray, List.set_cons_zero, List.set_cons_succ, i64_w, i32_w]
           rfl
          refine take_ (i := 3) (N := some 110) (v := ?_) (a' := ?_) #[true, true, true, true, false, false, false, false, false, false] rfl rfl (take_ofW HT_.out HW_.out (by kernel_rfl)) (fun _ _ _ h => h) (Or.inl ⟨by rfl, ?_⟩) hHeld ?_ ?_
          rotate_left
          ·rintro w' ⟨s0, s1, s2, s3, s4⟩
           go_simp
           with_reducible rfl
          rotate_left
          ·simp only [Act.put, List.setIfInBounds_toArray, List.set_cons_zero, List.set_cons_succ, i64_w, i32_w]
           rfl
          refine pure_ (i := 6) (N := some 113) (v := ?_) (a' := ?_) #[true, true, true, true, false, false, true, false, false, false] rfl rfl (any_of HT_.out (by kernel_rfl)) (fun _ _ _ h => h) (Or.inl ⟨by rfl, ?_⟩) ?_ ?_
          rotate_left
          ·intro w'
           go_simp
           with_reducible rfl
          rotate_left
          ·simp only [Act.put, List.setIfInBounds_toArray, List.set_cons_zero, List.set_cons_succ, i64_w, i32_w]
           rfl
          refine take_ (i := 4) (N := some 111) (v := ?_) (a' := ?_) #[true, true, true, true, true, false, true, false, false, false] rfl rfl (take_ofW HT_.out HW_.out (by kernel_rfl)) (fun _ _ _ h => h) (Or.inl ⟨by rfl, ?_⟩) hHeld ?_ ?_
          rotate_left
          ·rintro w' ⟨s0, s1, s2, s3, s4⟩
           go_simp
           with_reducible rfl
          rotate_left
          ·simp only [Act.put, List.setIfInBounds_toArray, List.set_cons_zero, List.set_cons_succ, i64_w, i32_w]
           rfl
          refine two_ (i := 5) (j := 7) (Ni := some 112) (Nj := some 114) #[true, true, true, true, true, true, true, false, false, false] #[true, true, true, true, true, false, true, true, false, false] rfl rfl rfl rfl (two_of HT_.out (by kernel_rfl)) (by decide) (by decide) (fun K hK => ?_) (fun K hK => ?_)
          ·refine goes_ Try.func25 (by kernel_rfl) rfl #[vi] (by rfl) rfl rfl (by (try simp only [List.map_toArray, List.map_cons, List.map_nil]); first | done | rfl) ?_
           refine (clone_calls W17 w.heap.size (fun _ => True) vi wx (Kd.R_below HVW17.out HB17.out) (by have := HWL.out; omega)).mono ?_
           rintro e W18 ⟨u, rfl, hu, hb⟩
           refine ⟨_, rfl, ?_⟩
           have HB18 := Aside0.mk (below_step HB17.out hb)
           have HU18 := Aside0.mk (Kd.R_lower hu HB17.out.size)
           clear hu hb
           refine hK.out _ _ (M17.out.later HB18.out).held (fun hHeld => ?_)
           clear hK K
           refine norm_ (a' := ?_) ?_ ?_
           rotate_left
           ·show Act.put _ (some 112) _ = _
            simp only [Act.put, List.setIfInBounds_toArray, List.set_cons_zero, List.set_cons_succ, i64_w, i32_w]
            rfl
           refine one_ (i := 7) (N := some 114) #[true, true, true, true, true, true, true, true, false, false] rfl rfl (one_of HT_.out (by kernel_rfl)) (by decide) (fun K hK => ?_)
           refine step_list rfl (by rfl) ?_
           unfold Oper.wp
           go_simp
           have HB19 := Aside0.mk (below_alloc HB18.out (.cells #[Value.int .i64 (j : Int)] 3))
           have HL19 := Aside0.mk (blk_new W18 (.cells #[Value.int .i64 (j : Int)] 3))
           have HU19 := Aside0.mk (Kd.R_alloc HU18.out (.cells #[Value.int .i64 (j : Int)] 3))
           refine hK.out _ _ (M17.out.later HB19.out).held (fun hHeld => ?_)
           clear hK K
           obtain ⟨bl, hbl⟩ : ∃ n, W18.heap.size = n := ⟨_, rfl⟩
           rw [hbl] at HL19 ⊢
           clear hbl
           generalize W18.alloc (.cells #[Value.int .i64 (j : Int)] 3) = W19 at *
           refine one_ (i := 8) (N := some 115) #[true, true, true, true, true, true, true, true, true, false] rfl rfl (one_of HT_.out (by kernel_rfl)) (by decide) (fun K hK => ?_)
           refine R_app_step (Kd.int .i64) W17.heap.size (by rfl) (.tmp 112) (.tmp 114) 33 3 iW (.int .i64 0) 8 rfl Try.underlying33 hiW hzW hsW hbW rfl (by decide) _ wx (j : Int) [.int .i64 j] (fun _ => True) (fun _ => False) rfl ⟨bl, 0, none⟩ rfl (cell_one HL19.out) rfl (fun k hk => hk.elim) (fun _ _ => trivial) HU19.out HB19.out.size (by have := HWL.out; unfold maxLen; omega) (by have := HWL.out; omega) ?_
           intro v1 W21 hR21 hg21 _
           have HB21 := Aside0.mk (HB19.out.grown hg21 HB19.out.size (fun k e => Kd.R_base HU19.out k e))
           have HV21 := Aside0.mk (Kd.R_lower hR21 HS17.out)
           clear hR21 hg21
           refine hK.out _ _ (M17.out.later HB21.out).held (fun hHeld => ?_)
           clear hK K
           refine norm_ (a' := ?_) ?_ ?_
           rotate_left
           ·show Act.put _ (some 115) _ = _
            simp only [Act.put, List.setIfInBounds_toArray, List.set_cons_zero, List.set_cons_succ, i64_w, i32_w]
            rfl
           obtain ⟨W22, hput, hm22, hg22⟩ := (M17.out.later HB21.out).inv.map.put HPY.out HIN.out v1
           unfold pairV at hput
           have HM22 := Aside0.mk hm22
           have HG22 := Aside0.mk hg22
           clear hm22 hg22
           refine last_ (i := 9) (N := none) #[true, true, true, true, true, true, true, true, true, true] rfl rfl (one_of HT_.out (by kernel_rfl)) (by decide) (fun K hK => ?_)
           refine step_list rfl (by rfl) ?_
           unfold Oper.wp
           go_simp
           refine hK.out _ _ ?_
           clear hK K hput
           refine done_ (done_of HT_.out (by kernel_rfl)) ?_
           refine NoPanic.normal ?_
           clear HT_ HW_ hHeld
           have M21 := Aside0.mk (M17.out.later HB21.out)
           have HI22 := Aside0.mk (M21.out.inv.put HM22.out HG22.out HV21.out)
           have HX22 := Aside0.mk (blk_grown M21.out.x HG22.out (fun e => M21.out.inv.map.ne M21.out.x (by injection e)))
           have HY22 := Aside0.mk (blk_grown M21.out.y HG22.out (fun e => M21.out.inv.map.ne M21.out.y (by injection e)))
           clear M17 M21 HM22 HG22
           have cy0 := (blk_cell HY22.out 0).trans rfl
           have cy1 := (blk_cell HY22.out 1).trans rfl
           have hql2 : q2.length ≤ 25000000 := by have h1 := HQ2.out.size; rw [HNN.out] at h1; exact Nat.le_trans h1 HN25.out
           have HQL25 := Aside0.mk hql2
           clear hql2
           go_wp2_with (at_builtin; go_loud (refine Kd.R_append kp (w0 := w) w.heap.size rfl (.tmp 116) (.tmp 118) 53 51 (.agg #[.int .i64 0, .int .i64 0]) 16 rfl Try.underlying53 info51 rfl (by decide) (by decide) _ q2 ((y1 : Int), (y2 : Int)) [.int .i64 y1, .int .i64 y2] (fun _ => True) (fun _ => False) rfl rfl (kp_mk _ _ _ ((y1 : Int), (y2 : Int))) (fun k hk => hk.elim) (fun k hk => trivial) HI22.out.que HI22.out.below HI22.out.below.size (by have := HQL25.out; omega) ?_; intro v11 w11 hR11 hB11 hg11 hat11; have HI23 := Aside0.mk (HI22.out.push hg11 hR11); have HX23 := Aside0.mk (blk_grown HX22.out hg11 HXQ.out); have HXQ23 := Aside0.mk (xq_new HXQ.out HX22.out hat11); clear hR11 hB11 hg11 hat11))
           go_roundg (gk - 1)
           case measure => omega
           case rel => exact ⟨j + 1, q2 ++ [((y1 : Int), (y2 : Int))], ws2 ++ [wx ++ [(j : Int)]], vs2 ++ [v1], by go_num, by omega, by omega, HAR2, HI23, HX23, HXQ23⟩
          ·refine step_list rfl (by rfl) ?_
           unfold Oper.wp
           go_simp
           have HB18 := Aside0.mk (below_alloc HB17.out (.cells #[Value.int .i64 (j : Int)] 3))
           have HL18 := Aside0.mk (blk_new W17 (.cells #[Value.int .i64 (j : Int)] 3))
           refine hK.out _ _ (M17.out.later HB18.out).held (fun hHeld => ?_)
           clear hK K
           obtain ⟨bl, hbl⟩ : ∃ n, W17.heap.size = n := ⟨_, rfl⟩
           rw [hbl] at HL18 ⊢
           clear hbl
           generalize W17.alloc (.cells #[Value.int .i64 (j : Int)] 3) = W18 at *
           refine one_ (i := 5) (N := some 112) #[true, true, true, true, true, true, true, true, false, false] rfl rfl (one_of HT_.out (by kernel_rfl)) (by decide) (fun K hK => ?_)
           refine goes_ Try.func25 (by kernel_rfl) rfl #[vi] (by rfl) rfl rfl (by (try simp only [List.map_toArray, List.map_cons, List.map_nil]); first | done | rfl) ?_
           refine (clone_calls W18 w.heap.size (fun _ => True) vi wx (Kd.R_below HVW17.out HB18.out) (by have := HWL.out; omega)).mono ?_
           rintro e W19 ⟨u, rfl, hu, hb⟩
           refine ⟨_, rfl, ?_⟩
           have HB19 := Aside0.mk (below_step HB18.out hb)
           have HU19 := Aside0.mk (Kd.R_lower hu HB18.out.size)
           have HL19 := Aside0.mk (blk_below HL18.out hb)
           clear hu hb
           refine hK.out _ _ (M17.out.later HB19.out).held (fun hHeld => ?_)
           clear hK K
           refine norm_ (a' := ?_) ?_ ?_
           rotate_left
           ·show Act.put _ (some 112) _ = _
            simp only [Act.put, List.setIfInBounds_toArray, List.set_cons_zero, List.set_cons_succ, i64_w, i32_w]
            rfl
           refine one_ (i := 8) (N := some 115) #[true, true, true, true, true, true, true, true, true, false] rfl rfl (one_of HT_.out (by kernel_rfl)) (by decide) (fun K hK => ?_)
           refine R_app_step (Kd.int .i64) W17.heap.size (by rfl) (.tmp 112) (.tmp 114) 33 3 iW (.int .i64 0) 8 rfl Try.underlying33 hiW hzW hsW hbW rfl (by decide) _ wx (j : Int) [.int .i64 j] (fun _ => True) (fun _ => False) rfl ⟨bl, 0, none⟩ rfl (cell_one HL19.out) rfl (fun k hk => hk.elim) (fun _ _ => trivial) HU19.out HB19.out.size (by have := HWL.out; unfold maxLen; omega) (by have := HWL.out; omega) ?_
           intro v1 W21 hR21 hg21 _
           have HB21 := Aside0.mk (HB19.out.grown hg21 HB19.out.size (fun k e => Kd.R_base HU19.out k e))
           have HV21 := Aside0.mk (Kd.R_lower hR21 HS17.out)
           clear hR21 hg21
           refine hK.out _ _ (M17.out.later HB21.out).held (fun hHeld => ?_)
           clear hK K
           refine norm_ (a' := ?_) ?_ ?_
           rotate_left
           ·show Act.put _ (some 115) _ = _
            simp only [Act.put, List.setIfInBounds_toArray, List.set_cons_zero, List.set_cons_succ, i64_w, i32_w]
            rfl
           obtain ⟨W22, hput, hm22, hg22⟩ := (M17.out.later HB21.out).inv.map.put HPY.out HIN.out v1
           unfold pairV at hput
           have HM22 := Aside0.mk hm22
           have HG22 := Aside0.mk hg22
           clear hm22 hg22
           refine last_ (i := 9) (N := none) #[true, true, true, true, true, true, true, true, true, true] rfl rfl (one_of HT_.out (by kernel_rfl)) (by decide) (fun K hK => ?_)
           refine step_list rfl (by rfl) ?_
           unfold Oper.wp
           go_simp
           refine hK.out _ _ ?_
           clear hK K hput
           refine done_ (done_of HT_.out (by kernel_rfl)) ?_
           refine NoPanic.normal ?_
           clear HT_ HW_ hHeld
           have M21 := Aside0.mk (M17.out.later HB21.out)
           have HI22 := Aside0.mk (M21.out.inv.put HM22.out HG22.out HV21.out)
           have HX22 := Aside0.mk (blk_grown M21.out.x HG22.out (fun e => M21.out.inv.map.ne M21.out.x (by injection e)))
           have HY22 := Aside0.mk (blk_grown M21.out.y HG22.out (fun e => M21.out.inv.map.ne M21.out.y (by injection e)))
           clear M17 M21 HM22 HG22
           have cy0 := (blk_cell HY22.out 0).trans rfl
           have cy1 := (blk_cell HY22.out 1).trans rfl
           have hql2 : q2.length ≤ 25000000 := by have h1 := HQ2.out.size; rw [HNN.out] at h1; exact Nat.le_trans h1 HN25.out
           have HQL25 := Aside0.mk hql2
           clear hql2
           go_wp2_with (at_builtin; go_loud (refine Kd.R_append kp (w0 := w) w.heap.size rfl (.tmp 116) (.tmp 118) 53 51 (.agg #[.int .i64 0, .int .i64 0]) 16 rfl Try.underlying53 info51 rfl (by decide) (by decide) _ q2 ((y1 : Int), (y2 : Int)) [.int .i64 y1, .int .i64 y2] (fun _ => True) (fun _ => False) rfl rfl (kp_mk _ _ _ ((y1 : Int), (y2 : Int))) (fun k hk => hk.elim) (fun k hk => trivial) HI22.out.que HI22.out.below HI22.out.below.size (by have := HQL25.out; omega) ?_; intro v11 w11 hR11 hB11 hg11 hat11; have HI23 := Aside0.mk (HI22.out.push hg11 hR11); have HX23 := Aside0.mk (blk_grown HX22.out hg11 HXQ.out); have HXQ23 := Aside0.mk (xq_new HXQ.out HX22.out hat11); clear hR11 hB11 hg11 hat11))
           go_roundg (gk - 1)
           case measure => omega
           case rel => exact ⟨j + 1, q2 ++ [((y1 : Int), (y2 : Int))], ws2 ++ [wx ++ [(j : Int)]], vs2 ++ [v1], by go_num, by omega, by omega, HAR2, HI23, HX23, HXQ23⟩
        ·obtain rfl : j = ma := by omega
         have hlt3 : ¬ ((j : Nat) : Int) < (j : Int) := by omega
         obtain ⟨rr, ss, hrr, hss⟩ := apRow_pre a a' ((x1 : Int), (x2 : Int)) wx q ws j
         rw [HAR.out] at hrr hss
         have hrr : q2 = q ++ rr := hrr
         have HLEN := Aside0.mk (show q.length ≤ q2.length by rw [hrr, List.length_append]; omega)
         have HZ2 := Aside0.mk (show (0, 0) ∈ q2 by rw [hrr]; exact List.mem_append_left _ HZ.out)
         have HGO3 := Aside0.mk (show apGo a b a' b' j k q2 ws2 (i + 1) = fin by have h := HGO2.out; rw [HAR.out] at h; exact h)
         have hi25 : i < 25000000 := by have := hql.out; have := HN25.out; omega
         clear hrr hss HGO2
         go_wp2_with fail
         go_roundg (g1 - 1)
         case measure => omega
         case rel => exact ⟨i + 1, k, q2, ws2, vs2, by go_num, by omega, by have := HLEN.out; omega, by omega, HZ2, HGO3, HQ2, HI⟩
     ·obtain ⟨AQ, cQ, rfl⟩ := Kd.R_slice HI.out.que
      have hlt0 : ¬ (i : Int) < (q.length : Int) := by omega
      have HRES := Aside0.mk (show fin = ([], false) by
       have h := HGO.out
       cases k with
       | zero => exact h.symm
       | succ k => rw [apGo, if_neg hlt] at h; exact h.symm)
      go_wp2_with fail
      go_ret3
      rw [HE.out, HRES.out]
      exact ⟨_, rfl, Kd.R_nil _ _ _ _ _, HI.out.below⟩
   ·have HE := Aside0.mk (show apartRes a b a' b' = ([], false, 1) by unfold apartRes bothB; rw [HMA.out, HMB.out, decide_eq_false hmm2, if_neg (by simp)])
    have hneq : ((ma : Int) != (mb : Int)) = true := bne_iff_ne.2 (by omega)
    refine start_ (n := 21) (S := fun w' => (w'.cell? ⟨w.heap.size, 0, none⟩ = some (.slice (some ada) a.length c0) ∧ w'.cell? ⟨w.heap.size, 1, none⟩ = some (.slice A1 b.length c1) ∧ w'.cell? ⟨w.heap.size + 1, 0, none⟩ = some (.slice (some adb) a'.length c2) ∧ w'.cell? ⟨w.heap.size + 1, 1, none⟩ = some (.slice A3 b'.length c3)) ∧ w'.cell? ada = some (.slice Aa ma ca) ∧ w'.cell? adb = some (.slice Ab mb cb)) (ds := []) #[false, false, false, false, false, false, false, false, false, false, false, false, false, false, false, false, false, false, false, false, false] (by kernel_rfl) rfl rfl ⟨B1.out.cells, (B1.out.below.cell (World.block_lt_of_cell? w _ HA0.out)).trans HA0.out, (B1.out.below.cell (World.block_lt_of_cell? w _ HB0.out)).trans HB0.out⟩ (fun hHeld => ?_); refine with_tabW apart_tab1 apart_bits1 (fun HT_ HW_ => ?_)
    generalize W0.drew = W1 at *
    refine take_ (i := 0) (N := some 15) (v := ?_) (a' := ?_) #[true, false, false, false, false, false, false, false, false, false, false, false, false, false, false, false, false, false, false, false, false] rfl rfl (take_ofW HT_.out HW_.out (by kernel_rfl)) (fun _ _ _ h => h) (Or.inl ⟨by rfl, ?_⟩) hHeld ?_ ?_
    rotate_left
    ·rintro w' ⟨⟨s0, s1, s2, s3⟩, s4, s5⟩
     go_simp
     with_reducible rfl
    rotate_left
    ·simp only [Act.put, List.setIfInBounds_toArray, List.set_cons_zero, List.set_cons_succ, i64_w, i32_w]
     rfl
    refine one_ (i := 1) (N := some 16) #[true, true, false, false, false, false, false, false, false, false, false, false, false, false, false, false, false, false, false, false, false] rfl rfl (one_of HT_.out (by kernel_rfl)) (by decide) (fun K hK => ?_)
    refine goes_ Try.func20 (by kernel_rfl) rfl #[.agg #[.slice (some ada) a.length c0, .slice A1 b.length c1]] (by rfl) rfl rfl (by (try simp only [List.map_toArray, List.map_cons, List.map_nil]); first | done | rfl) ?_
    refine (HRT1.out).mono ?_
    rintro e W2 ⟨rfl, hb⟩
    refine ⟨_, rfl, ?_⟩
    have B2 := Aside0.mk (B1.out.later hb)
    clear hb
    refine hK.out _ _ ⟨B2.out.cells, (B2.out.below.cell (World.block_lt_of_cell? w _ HA0.out)).trans HA0.out, (B2.out.below.cell (World.block_lt_of_cell? w _ HB0.out)).trans HB0.out⟩ (fun hHeld => ?_)
    clear hK K
    refine norm_ (a' := ?_) ?_ ?_
    rotate_left
    ·show Act.put _ (some 16) _ = _
     simp only [Act.put, List.setIfInBounds_toArray, List.set_cons_zero, List.set_cons_succ, i64_w, i32_w]
     rfl
    refine pure_ (i := 2) (N := some 17) (v := ?_) (a' := ?_) #[true, true, true, false, false, false, false, false, false, false, false, false, false, false, false, false, false, false, false, false, false] rfl rfl (any_of HT_.out (by kernel_rfl)) (fun _ _ _ h => h) (Or.inl ⟨by rfl, ?_⟩) ?_ ?_
    rotate_left
    ·intro w'
     go_simp
     with_reducible rfl
    rotate_left
    ·simp only [Act.put, List.setIfInBounds_toArray, List.set_cons_zero, List.set_cons_succ, i64_w, i32_w]
     rfl
    refine pure_ (i := 3) (N := some 18) (v := ?_) (a' := ?_) #[true, true, true, true, false, false, false, false, false, false, false, false, false, false, false, false, false, false, false, false, false] rfl rfl (any_of HT_.out (by kernel_rfl)) (fun _ _ _ h => h) (Or.inl ⟨by rfl, ?_⟩) ?_ ?_
    rotate_left
    ·intro w'
     go_simp
     with_reducible rfl
    rotate_left
    ·simp only [Act.put, List.setIfInBounds_toArray, List.set_cons_zero, List.set_cons_succ, i64_w, i32_w]
     rfl
    refine take_ (i := 4) (N := some 19) (v := ?_) (a' := ?_) #[true, true, true, true, true, false, false, false, false, false, false, false, false, false, false, false, false, false, false, false, false] rfl rfl (take_ofW HT_.out HW_.out (by kernel_rfl)) (fun _ _ _ h => h) (Or.inl ⟨by rfl, ?_⟩) hHeld ?_ ?_
    rotate_left
    ·rintro w' ⟨⟨s0, s1, s2, s3⟩, s4, s5⟩
     go_simp
     with_reducible rfl
    rotate_left
    ·simp only [Act.put, List.setIfInBounds_toArray, List.set_cons_zero, List.set_cons_succ, i64_w, i32_w]
     rfl
    refine one_ (i := 5) (N := some 20) #[true, true, true, true, true, true, false, false, false, false, false, false, false, false, false, false, false, false, false, false, false] rfl rfl (one_of HT_.out (by kernel_rfl)) (by decide) (fun K hK => ?_)
    refine goes_ Try.func20 (by kernel_rfl) rfl #[.agg #[.slice (some adb) a'.length c2, .slice A3 b'.length c3]] (by rfl) rfl rfl (by (try simp only [List.map_toArray, List.map_cons, List.map_nil]); first | done | rfl) ?_
    refine (HRT2.out W2 B2.out.below).mono ?_
    rintro e W3 ⟨rfl, hb⟩
    refine ⟨_, rfl, ?_⟩
    have B3 := Aside0.mk (B2.out.later hb)
    clear hb
    refine hK.out _ _ ⟨B3.out.cells, (B3.out.below.cell (World.block_lt_of_cell? w _ HA0.out)).trans HA0.out, (B3.out.below.cell (World.block_lt_of_cell? w _ HB0.out)).trans HB0.out⟩ (fun hHeld => ?_)
    clear hK K
    refine norm_ (a' := ?_) ?_ ?_
    rotate_left
    ·show Act.put _ (some 20) _ = _
     simp only [Act.put, List.setIfInBounds_toArray, List.set_cons_zero, List.set_cons_succ, i64_w, i32_w]
     rfl
    refine pure_ (i := 6) (N := some 21) (v := ?_) (a' := ?_) #[true, true, true, true, true, true, true, false, false, false, false, false, false, false, false, false, false, false, false, false, false] rfl rfl (any_of HT_.out (by kernel_rfl)) (fun _ _ _ h => h) (Or.inl ⟨by rfl, ?_⟩) ?_ ?_
    rotate_left
    ·intro w'
     go_simp
     with_reducible rfl
    rotate_left
    ·simp only [Act.put, List.setIfInBounds_toArray, List.set_cons_zero, List.set_cons_succ, i64_w, i32_w]
     rfl
    refine pure_ (i := 7) (N := some 22) (v := ?_) (a' := ?_) #[true, true, true, true, true, true, true, true, false, false, false, false, false, false, false, false, false, false, false, false, false] rfl rfl (any_of HT_.out (by kernel_rfl)) (fun _ _ _ h => h) (Or.inl ⟨by rfl, ?_⟩) ?_ ?_
    rotate_left
    ·intro w'
     go_simp
     with_reducible rfl
    rotate_left
    ·simp only [Act.put, List.setIfInBounds_toArray, List.set_cons_zero, List.set_cons_succ, i64_w, i32_w]
     rfl
    refine pure_ (i := 8) (N := some 23) (v := ?_) (a' := ?_) #[true, true, true, true, true, true, true, true, true, false, false, false, false, false, false, false, false, false, false, false, false] rfl rfl (any_of HT_.out (by kernel_rfl)) (fun _ _ _ h => h) (Or.inl ⟨by rfl, ?_⟩) ?_ ?_
    rotate_left
    ·intro w'
     go_simp
     with_reducible rfl
    rotate_left
    ·simp only [Act.put, List.setIfInBounds_toArray, List.set_cons_zero, List.set_cons_succ, i64_w, i32_w]
     rfl
    refine pure_ (i := 9) (N := some 24) (v := ?_) (a' := ?_) #[true, true, true, true, true, true, true, true, true, true, false, false, false, false, false, false, false, false, false, false, false] rfl rfl (any_of HT_.out (by kernel_rfl)) (fun _ _ _ h => h) (Or.inl ⟨by rfl, ?_⟩) ?_ ?_
    rotate_left
    ·intro w'
     go_simp
     with_reducible rfl
    rotate_left
    ·simp only [Act.put, List.setIfInBounds_toArray, List.set_cons_zero, List.set_cons_succ, i64_w, i32_w]
     rfl
    refine take_ (i := 10) (N := some 25) (v := ?_) (a' := ?_) #[true, true, true, true, true, true, true, true, true, true, true, false, false, false, false, false, false, false, false, false, false] rfl rfl (take_ofW HT_.out HW_.out (by kernel_rfl)) (fun _ _ _ h => h) (Or.inl ⟨by rfl, ?_⟩) hHeld ?_ ?_
    rotate_left
    ·rintro w' ⟨⟨s0, s1, s2, s3⟩, s4, s5⟩
     go_simp
     with_reducible rfl
    rotate_left
    ·simp only [Act.put, List.setIfInBounds_toArray, List.set_cons_zero, List.set_cons_succ, i64_w, i32_w]
     rfl
    refine pure_ (i := 11) (N := some 26) (v := ?_) (a' := ?_) #[true, true, true, true, true, true, true, true, true, true, true, true, false, false, false, false, false, false, false, false, false] rfl rfl (any_of HT_.out (by kernel_rfl)) (fun _ _ _ h => h) (Or.inl ⟨by rfl, ?_⟩) ?_ ?_
    rotate_left
    ·intro w'
     go_simp
     with_reducible rfl
    rotate_left
    ·simp only [Act.put, List.setIfInBounds_toArray, List.set_cons_zero, List.set_cons_succ, i64_w, i32_w]
     rfl
    refine take_ (i := 12) (N := some 27) (v := ?_) (a' := ?_) #[true, true, true, true, true, true, true, true, true, true, true, true, true, false, false, false, false, false, false, false, false] rfl rfl (take_ofW HT_.out HW_.out (by kernel_rfl)) (fun _ _ _ h => h) (Or.inl ⟨by rfl, ?_⟩) hHeld ?_ ?_
    rotate_left
    ·rintro w' ⟨⟨s0, s1, s2, s3⟩, s4, s5⟩
     go_simp
     with_reducible rfl
    rotate_left
    ·simp only [Act.put, List.setIfInBounds_toArray, List.set_cons_zero, List.set_cons_succ, i64_w, i32_w]
     rfl
    refine pure_ (i := 13) (N := some 28) (v := ?_) (a' := ?_) #[true, true, true, true, true, true, true, true, true, true, true, true, true, true, false, false, false, false, false, false, false] rfl rfl (any_of HT_.out (by kernel_rfl)) (fun _ _ _ h => h) (Or.inl ⟨by rfl, ?_⟩) ?_ ?_
    rotate_left
    ·intro w'
     go_simp
     with_reducible rfl
    rotate_left
    ·simp only [Act.put, List.setIfInBounds_toArray, List.set_cons_zero, List.set_cons_succ, i64_w, i32_w]
     rfl
    refine pure_ (i := 14) (N := some 29) (v := ?_) (a' := ?_) #[true, true, true, true, true, true, true, true, true, true, true, true, true, true, true, false, false, false, false, false, false] rfl rfl (any_of HT_.out (by kernel_rfl)) (fun _ _ _ h => h) (Or.inl ⟨by rfl, ?_⟩) ?_ ?_
    rotate_left
    ·intro w'
     go_simp
     with_reducible rfl
    rotate_left
    ·simp only [Act.put, List.setIfInBounds_toArray, List.set_cons_zero, List.set_cons_succ, i64_w, i32_w]
     rfl
    refine take_ (i := 15) (N := some 30) (v := ?_) (a' := ?_) #[true, true, true, true, true, true, true, true, true, true, true, true, true, true, true, true, false, false, false, false, false] rfl rfl (take_ofW HT_.out HW_.out (by kernel_rfl)) (fun _ _ _ h => h) (Or.inl ⟨by rfl, ?_⟩) hHeld ?_ ?_
    rotate_left
    ·rintro w' ⟨⟨s0, s1, s2, s3⟩, s4, s5⟩
     go_simp
     with_reducible rfl
    rotate_left
    ·simp only [Act.put, List.setIfInBounds_toArray, List.set_cons_zero, List.set_cons_succ, i64_w, i32_w]
     rfl
    refine pure_ (i := 16) (N := some 31) (v := ?_) (a' := ?_) #[true, true, true, true, true, true, true, true, true, true, true, true, true, true, true, true, true, false, false, false, false] rfl rfl (any_of HT_.out (by kernel_rfl)) (fun _ _ _ h => h) (Or.inl ⟨by rfl, ?_⟩) ?_ ?_
    rotate_left
    ·intro w'
     go_simp
     with_reducible rfl
    rotate_left
    ·simp only [Act.put, List.setIfInBounds_toArray, List.set_cons_zero, List.set_cons_succ, i64_w, i32_w]
     rfl
    refine take_ (i := 17) (N := some 32) (v := ?_) (a' := ?_) #[true, true, true, true, true, true, true, true, true, true, true, true, true, true, true, true, true, true, false, false, false] rfl rfl (take_ofW HT_.out HW_.out (by kernel_rfl)) (fun _ _ _ h => h) (Or.inl ⟨by rfl, ?_⟩) hHeld ?_ ?_
    rotate_left
    ·rintro w' ⟨⟨s0, s1, s2, s3⟩, s4, s5⟩
     go_simp
     with_reducible rfl
    rotate_left
    ·simp only [Act.put, List.setIfInBounds_toArray, List.set_cons_zero, List.set_cons_succ, i64_w, i32_w]
     rfl
    refine pure_ (i := 18) (N := some 33) (v := ?_) (a' := ?_) #[true, true, true, true, true, true, true, true, true, true, true, true, true, true, true, true, true, true, true, false, false] rfl rfl (any_of HT_.out (by kernel_rfl)) (fun _ _ _ h => h) (Or.inl ⟨by rfl, ?_⟩) ?_ ?_
    rotate_left
    ·intro w'
     go_simp
     with_reducible rfl
    rotate_left
    ·simp only [Act.put, List.setIfInBounds_toArray, List.set_cons_zero, List.set_cons_succ, i64_w, i32_w]
     rfl
    refine pure_ (i := 19) (N := some 34) (v := ?_) (a' := ?_) #[true, true, true, true, true, true, true, true, true, true, true, true, true, true, true, true, true, true, true, true, false] rfl rfl (any_of HT_.out (by kernel_rfl)) (fun _ _ _ h => h) (Or.inl ⟨by rfl, ?_⟩) ?_ ?_
    rotate_left
    ·intro w'
     go_simp
     with_reducible rfl
    rotate_left
    ·simp only [Act.put, List.setIfInBounds_toArray, List.set_cons_zero, List.set_cons_succ, i64_w, i32_w]
     rfl
    refine pure_ (i := 20) (N := some 35) (v := ?_) (a' := ?_) #[true, true, true, true, true, true, true, true, true, true, true, true, true, true, true, true, true, true, true, true, true] rfl rfl (any_of HT_.out (by kernel_rfl)) (fun _ _ _ h => h) (Or.inl ⟨by rfl, ?_⟩) ?_ ?_
    rotate_left
    ·intro w'
     go_simp
     with_reducible rfl
    rotate_left
    ·simp only [Act.put, List.setIfInBounds_toArray, List.set_cons_zero, List.set_cons_succ, i64_w, i32_w]
     rfl
    refine done_ (done_of HT_.out (by kernel_rfl)) ?_
    refine NoPanic.normal ?_
    clear HT_ HW_ hHeld
    go_wp2_with fail
    go_ret3
    exact apart_bad HE.out B3.out.below

/-- The contract. -/
def least_Apart.f (a : List (List Int)) (b : List Bool) (a' : List (List Int)) (b' : List Bool) : Option (List Int × Bool × Int) := some (apartRes a b a' b')
theorem least_Apart.calls (A0_0 : Option Addr) (c0_0 : Nat) (l0_0 : List (List Int)) (A0_1 : Option Addr) (c0_1 : Nat) (l0_1 : List Bool) (A1_0 : Option Addr) (c1_0 : Nat) (l1_0 : List (List Int)) (A1_1 : Option Addr) (c1_1 : Nat) (l1_1 : List Bool) (r1 : List Int) (r2 : Bool) (r3 : Int) (w : World)
  (hr0_0 : Kd.C (Kd.slice 3 (Kd.int .i64)) w A0_0 l0_0.length l0_0) (hc0_0 : l0_0.length ≤ c0_0) (hr0_1 : Kd.C Kd.bool w A0_1 l0_1.length l0_1) (hc0_1 : l0_1.length ≤ c0_1) (hr1_0 : Kd.C (Kd.slice 3 (Kd.int .i64)) w A1_0 l1_0.length l1_0) (hc1_0 : l1_0.length ≤ c1_0) (hr1_1 : Kd.C Kd.bool w A1_1 l1_1.length l1_1) (hc1_1 : l1_1.length ≤ c1_1)
  (h : least_Apart.f l0_0 l0_1 l1_0 l1_1 = some (r1, r2, r3)) :
  Calls Try.prog 14 #[.agg #[.slice A0_0 l0_0.length c0_0, .slice A0_1 l0_1.length c0_1], .agg #[.slice A1_0 l1_0.length c1_0, .slice A1_1 l1_1.length c1_1]] w fun e w' => ∃ v0_ : Value, e = .returned (.tuple #[v0_, .bool r2, .int .i64 r3]) ∧ Kd.R (Kd.int .i64) 3 w' w.heap.size (fun _ => True) v0_ r1 ∧ Below w.heap.size w w' := by
 have h := Option.some.inj h
 have := apart_calls A0_0 c0_0 l0_0 A0_1 c0_1 l0_1 A1_0 c1_0 l1_0 A1_1 c1_1 l1_1 w hr0_0 hc0_0 hr0_1 hc0_1 hr1_0 hc1_0 hr1_1 hc1_1
 unfold ApartPost at this
 rw [h] at this
 exact this
end Go.Proofs.Ytadhjjfodpmelaa.Print
