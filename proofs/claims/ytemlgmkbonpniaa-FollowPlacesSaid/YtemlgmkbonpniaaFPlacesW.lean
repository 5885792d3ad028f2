/- The walk of scansionlaw11.FollowPlaces. -/
import Derived.Test.YtemlgmkbonpniaaGEndsM
import Derived.Test.YtemlgmkbonpniaaGWords
import Derived.Test.YtemlgmkbonpniaaFAwakeM
import Derived.Test.YtemlgmkbonpniaaPrint24
import Derived.Test.YtemlgmkbonpniaaPrint26
namespace Go.Proofs.Ytemlgmkbonpniaa.Print
open Go.RowKit Go.Maps Go.Proofs.YtemlgmkbonpniaaW.PrintWords Go.Proofs.YtemlgmkbonpniaaW.PrintLast Go.Proofs.YtemlgmkbonpniaaW.PrintMore
set_option linter.unusedVariables false
set_option linter.unusedSimpArgs false
def fpl_T16 : Bool × List (List Nat × List Nat) := (true, [([], []), ([], []), ([0, 1], [0, 1]), ([2], [2]), ([], []), ([3, 4], [3, 4]), ([5], [5]), ([6], [6]), ([7], [7]), ([8], [8]), ([8], [8]), ([9, 10, 8], [8, 9, 10]), ([11, 8], [8, 11]), ([8], [8]), ([12, 13, 8], [8, 12, 13]), ([14, 8], [8, 14]), ([8], [8]), ([15, 16, 8], [8, 15, 16]), ([8, 17], [8, 17]), ([18, 8], [18]), ([19], [19]), ([20, 19], [19, 20]), ([21, 19, 19], [19, 21]), ([22], [22]), ([22], [22]), ([23, 24, 22], [22, 23, 24]), ([25, 22], [22, 25]), ([22], [22]), ([26, 27, 22], [22, 26, 27]), ([28, 22], [22, 28]), ([22], [22]), ([22], [22]), ([30, 31, 22], [22, 30, 31]), ([32, 22], [22, 32]), ([22], [22]), ([34, 22], [22, 34]), ([33, 35, 22], [22, 33, 35]), ([36, 22], [22, 36]), ([29, 37, 22], [22, 29, 37]), ([22, 38, 19], [19, 22, 38]), ([19, 39], [19, 39])])
def fpl_B16 : List Nat := [0, 0, 3, 7, 0, 31, 63, 127, 255, 511, 511, 2047, 4095, 511, 16383, 32767, 511, 131071, 262143, 524287, 1048575, 2097151, 4194303, 8388607, 8388607, 33554431, 67108863, 8388607, 268435455, 536870911, 8388607, 8388607, 3229614079, 7524581375, 8388607, 17188257791, 67654123519, 136373600255, 274877906943, 549755813887, 1099511627775]
theorem fpl_tab16 : rtab .any (opsOf Try.f4 16) = fpl_T16 := by kernel_rfl
theorem fpl_bits16 : waitsOk fpl_T16.2 fpl_B16 = true := by kernel_rfl
def fpn_T20 : Bool × List (List Nat × List Nat) := (true, [([], []), ([0], [0]), ([1], [1]), ([2], [2]), ([3, 2], [2, 3]), ([2, 4], [2, 4]), ([5, 2], [5]), ([6], [6]), ([7, 6], [6, 7]), ([8, 6], [6, 8]), ([6], [6]), ([9, 10, 6], [6, 9, 10]), ([6, 11], [6, 11]), ([12, 6], [12]), ([13], [13]), ([14, 13], [13, 14]), ([13], [13]), ([16, 13, 13], [13, 16]), ([15, 17, 13], [13, 15, 17]), ([13, 18], [13, 18]), ([19, 17], [19]), ([20], [20]), ([21, 20], [20, 21]), ([22, 20], [20, 22]), ([20, 23], [20, 23]), ([24, 20], [24]), ([25], [25]), ([26, 25], [25, 26]), ([25], [25]), ([28, 25], [25, 28]), ([27, 29, 25], [25, 27, 29]), ([25, 30], [25, 30])])
def fpn_B20 : List Nat := [0, 1, 3, 7, 15, 31, 63, 127, 255, 511, 127, 2047, 4095, 8191, 16383, 32767, 16383, 81919, 262143, 524287, 1048575, 2097151, 4194303, 8388607, 16777215, 33554431, 67108863, 134217727, 67108863, 335544319, 1073741823, 2147483647]
theorem fpn_tab20 : rtab .any (opsOf Try.f4 20) = fpn_T20 := by kernel_rfl
theorem fpn_bits20 : waitsOk fpn_T20.2 fpn_B20 = true := by kernel_rfl
theorem few_n (x : S24) (hz : Lens x) (word : List Int) : ∃ b, Evs (fun k => scansionlaw11_few.f k x.f0 x.f1 x.f2 word) b ∧ (b = true → siz x < 120 ∧ word.length ≤ 30) := by
 obtain ⟨t, ⟨K, hK⟩, h1, h2⟩ := nodes_f x hz 120 40 (by decide) (by decide) (by decide)
 by_cases q : t < 120
 ·refine ⟨decide ((word.length : Int) ≤ 30), ⟨K, fun k hk => ?_⟩, fun h => ⟨by rw [← h2 q]; exact q, by have := of_decide_eq_true h; omega⟩⟩
  show scansionlaw11_few.f k _ _ _ _ = _
  have h3 : scansionref08_Nodes.f k x.f0 x.f1 x.f2 120 40 = some (t : Int) := hK k hk
  unfold scansionlaw11_few.f
  rw [h3, Option.bind_some, if_pos (by omega)]
 ·refine ⟨false, ⟨K, fun k hk => ?_⟩, fun h => by cases h⟩
  show scansionlaw11_few.f k _ _ _ _ = _
  have h3 : scansionref08_Nodes.f k x.f0 x.f1 x.f2 120 40 = some (t : Int) := hK k hk
  unfold scansionlaw11_few.f
  rw [h3, Option.bind_some, if_neg (by omega)]
theorem build_errs (x : S24) : (buildR x).2.2.2.2.2 = 0 ∨ (buildR x).2.2.2.2.2 = 1 ∨ (buildR x).2.2.2.2.2 = 3 := by
 unfold buildR
 split
 ·exact .inr (.inl rfl)
 ·split
  ·exact .inr (.inr rfl)
  ·exact .inl rfl
theorem info27_ : (Try.prog.info? 27).map (fun i => (i.zero, i.size, i.bytes)) = some (some (.slice none 0 0), 1, 24) := by kernel_rfl
/-- A sign ahead of an expression: its places are the same. -/
theorem sign_build (x : S24) (h : (buildR x).2.2.2.2.2 = 0) (k : Int) (hk : k = 3 ∨ k = 4) : ∃ f4, ∀ k, k = 3 ∨ k = 4 → buildR ⟨k, 0, [x]⟩ = ((buildR x).1 || decide (k ≠ 4), (buildR x).2.1, (buildR x).2.2.1, (buildR x).2.2.2.1, f4, 0) := by
 refine ⟨afterR (buildR x).2.2.2.2.1 (buildR x).2.2.2.1 (buildR x).2.2.1, fun k hk => ?_⟩
 obtain ⟨hA, hr, hc⟩ := build_auto x h
 have e1 : rightN ⟨k, 0, [x]⟩ = true := by
  rw [rightN, if_neg (by omega), if_neg (by omega), if_neg (by omega), if_pos (by omega), rightL, rightL, hr]; rfl
 have e2 : cnt ⟨k, 0, [x]⟩ = cnt x := by rw [cnt, if_neg (by omega), cntL, cntL]; rfl
 have e3 : nodeR ⟨k, 0, [x]⟩ ⟨[], []⟩ = signR k (nodeR x ⟨[], []⟩) := by
  rw [nodeR_eq]
  show (if k = 1 then _ else if k = 0 then _ else if k = 2 then _ else signR k (oneR [x] ⟨[], []⟩)) = _
  rw [if_neg (by omega), if_neg (by omega), if_neg (by omega), oneR]
 have e4 : buildR x = ((nodeR x ⟨[], []⟩).2.null, (nodeR x ⟨[], []⟩).1.sets, (nodeR x ⟨[], []⟩).2.first, (nodeR x ⟨[], []⟩).2.last, (nodeR x ⟨[], []⟩).1.fol, 0) := by
  unfold buildR
  rw [hr, if_neg (by decide), if_neg (by omega)]
 unfold buildR at e4 ⊢
 rw [e1, e2, e3, if_neg (by decide), if_neg (by omega)]
 rw [e4]
 unfold signR
 rw [if_neg (by omega)]
theorem one_any {W : World} {A : Option Addr} {Y : Nat} {x : S24} {c : Nat} (h : W.heap[Y]? = some (.cells #[.int .i64 x.f0, .int .i64 x.f1, .slice A x.f2.length c] 24 (0, 0))) (hc : x.f2.length ≤ c) (hC : Kd.C k24 W A x.f2.length x.f2) : Kd.C k24 W (some ⟨Y, 0, none⟩) 1 [x] := by
 refine ⟨rfl, by simp, fun _ => ⟨⟨Y, 0, none⟩, rfl, fun j p hp => ?_⟩⟩
 match j, hp with
 | 0, hp =>
  obtain rfl := Option.some.inj hp
  refine ⟨[.int .i64 x.f0, .int .i64 x.f1, .slice A x.f2.length c], rfl, k24_mk W x hc hC, fun i u hu => ?_⟩
  match i, hu with
  | 0, hu => cases hu; exact (blk_cell h 0).trans rfl
  | 1, hu => cases hu; exact (blk_cell h 1).trans rfl
  | 2, hu => cases hu; exact (blk_cell h 2).trans rfl
theorem rows_reads {W : World} {base e n c : Nat} {ok : Nat → Prop} {A : Option Addr} {xs : List (List Int)} (h : Kd.R (Kd.slice 3 (Kd.int .i64)) e W base ok (.slice A n c) xs) : ReadsRow ((Kd.slice 3 (Kd.int .i64)).M W base ok) 1 W A xs.length xs := by
 have hn := (Kd.R_reads' h).1
 obtain ⟨_, inner, hown, hr⟩ := h
 obtain ⟨A', c', he, hR⟩ := own_reads_row hown hr rfl
 injection he with e1 e2 e3
 subst e1
 exact ReadsRow.imp_ hR (Below.refl _ _) (fun p c hp => (Kd.slice 3 (Kd.int .i64)).M_mono (fun k hk => hk.1) hp)
theorem same_l0 (b : Bool) (l1 l2 l3 : List Int) (l : List (List Int)) (hl : l.length ≤ 1000000) (hr : ∀ r ∈ l, r.length ≤ 1000000) : ∀ (n i : Nat), i + n = l.length → Evs (fun k => scansionref11_Same.l0 k (i : Int) b l1 l2 l3 l b l1 l2 l3 l) true := by
 intro n
 induction n with
 | zero =>
  intro i hi
  refine ⟨1, fun k hk => ?_⟩
  obtain ⟨k, rfl⟩ : ∃ j, k = j + 1 := ⟨k - 1, by omega⟩
  show scansionref11_Same.l0 (k + 1) _ _ _ _ _ _ _ _ _ _ _ = _
  rw [scansionref11_Same.l0, if_neg (by omega)]
 | succ n ihn =>
  intro i hi
  have hil : i < l.length := by omega
  obtain ⟨K, hK⟩ := ihn (i + 1) (by omega)
  obtain ⟨K2, hK2⟩ := sameInts_f l[i] (hr _ (List.getElem_mem hil))
  refine ⟨K + K2 + 1, fun k hk => ?_⟩
  obtain ⟨k, rfl⟩ : ∃ j, k = j + 1 := ⟨k - 1, by omega⟩
  show scansionref11_Same.l0 (k + 1) _ _ _ _ _ _ _ _ _ _ _ = _
  have g : (i : Int) < (l.length : Int) := by omega
  have h2 : scansionref01_SameInts.f k l[i] l[i] = some true := hK2 k (by omega)
  rw [scansionref11_Same.l0, if_pos g, if_pos (by omega), if_pos g, rdL3_get hil, h2, Option.bind_some, if_pos rfl, show wrap64 ((i : Int) + 1) = ((i + 1 : Nat) : Int) by unfold wrap64; omega]
  exact hK k (by omega)
theorem same_f (b : Bool) (l1 l2 l3 : List Int) (l : List (List Int)) (h1 : l1.length ≤ 1000000) (h2 : l2.length ≤ 1000000) (h3 : l3.length ≤ 1000000) (hl : l.length ≤ 1000000) (hr : ∀ r ∈ l, r.length ≤ 1000000) : Evs (fun k => scansionref11_Same.f k b l1 l2 l3 l b l1 l2 l3 l) true := by
 obtain ⟨K, hK⟩ := same_l0 b l1 l2 l3 l hl hr l.length 0 (by omega)
 obtain ⟨K1, hK1⟩ := sameInts_f l1 h1
 obtain ⟨K2, hK2⟩ := sameInts_f l2 h2
 obtain ⟨K3, hK3⟩ := sameInts_f l3 h3
 refine ⟨K + K1 + K2 + K3 + 1, fun k hk => ?_⟩
 obtain ⟨k, rfl⟩ : ∃ j, k = j + 1 := ⟨k - 1, by omega⟩
 show scansionref11_Same.f (k + 1) _ _ _ _ _ _ _ _ _ _ = _
 have e1 : scansionref01_SameInts.f (k + 1) l1 l1 = some true := hK1 _ (by omega)
 have e2 : scansionref01_SameInts.f (k + 1) l2 l2 = some true := hK2 _ (by omega)
 have e3 : scansionref01_SameInts.f (k + 1) l3 l3 = some true := hK3 _ (by omega)
 unfold scansionref11_Same.f
 rw [e1, e2, e3]
 show (if (b != b) = true then _ else if true = true then if true = true then if true = true then _ else _ else _ else _) = _
 rw [if_neg (by simp), if_pos rfl, if_pos rfl, if_pos rfl, scansionref11_Same.j0, if_neg (by simp)]
 exact hK k (by omega)
theorem rd_in {l : List Int} {z : Int} (h0 : 0 ≤ z) (h1 : z < (l.length : Int)) : rd l z ∈ l := by
 unfold rd
 rw [List.getD_eq_getElem?_getD, List.getElem?_eq_getElem (by omega)]
 exact List.getElem_mem _
theorem rise_rd {l : List Int} (h : l.Pairwise (· < ·)) {a b : Int} (h0 : 0 ≤ a) (hab : a < b) (hb : b < (l.length : Int)) : rd l a < rd l b := by
 unfold rd
 rw [List.getD_eq_getElem?_getD, List.getD_eq_getElem?_getD, List.getElem?_eq_getElem (by omega), List.getElem?_eq_getElem (by omega)]
 exact List.pairwise_iff_getElem.1 h a.toNat b.toNat (by omega) (by omega) (by omega)
theorem AutoC.put {b0 B g : Nat} {r : Bt} {v1 v2 v3 v4 : Value} {W : World} {cells : Array Value} (h : AutoC b0 B r v1 v2 v3 v4 W) (hb : W.heap[g]? = some (.cells cells 30 (0, 0))) (hne : B ≠ g) (j : Nat) (u : Value) : AutoC b0 B r v1 v2 v3 v4 (W.setCell ⟨g, j, none⟩ u) :=
 ⟨blk_far h.blk hne u, Kd.R_set h.r1 hb (by decide) j u, Kd.R_set h.r2 hb (by decide) j u, Kd.R_set h.r3 hb (by decide) j u, Kd.R_set h.r4 hb (by decide) j u⟩
theorem AutoC.own {b0 B : Nat} {n : Bool} {l1 l2 l3 : List Int} {l4 : List (List Int)} {e : Int} {v1 v2 v3 v4 : Value} {W : World} (h : AutoC b0 B (n, l1, l2, l3, l4, e) v1 v2 v3 v4 W) (m : Bool) : AutoC b0 B (m, l1, l2, l3, l4, e) v1 v2 v3 v4 (W.setCell ⟨B, 0, none⟩ (.bool m)) :=
 ⟨blk_put (cs := #[.bool n, v1, v2, v3, v4]) h.blk 0 _ rfl, Kd.R_set h.r1 h.blk (by decide) 0 _, Kd.R_set h.r2 h.blk (by decide) 0 _, Kd.R_set h.r3 h.blk (by decide) 0 _, Kd.R_set h.r4 h.blk (by decide) 0 _⟩
theorem own_ge {v : Value} {n : Nat} (h : ∃ b, v.ownBlock = some b ∧ n ≤ b) : ∀ k, v.ownBlock = some k → n ≤ k := fun k hk => by
 obtain ⟨b, h1, h2⟩ := h
 rw [hk] at h1
 rw [Option.some.inj h1]
 exact h2
theorem whole_nil (x : S24) (r : Bt) (hr : rightN x = true) (hT : Tell x r) : r.1 = true ↔ rightN x = true ∧ WayN (hitM []) x 0 ([] : List Int).length := by
 rw [(glu_all hr hT []) 0 ([] : List Int).length, hT.nul]
 constructor
 ·intro h; exact ⟨hr, .inl ⟨rfl, h⟩⟩
 ·rintro ⟨_, h | ⟨p, hg, _⟩⟩
  ·exact h.2
  ·have := Go.lt _ _ hg; simp at this
set_option maxHeartbeats 16000000 in
set_option maxRecDepth 100000 in
theorem followPlaces_calls (x : S24) (W : World) (A : Option Addr) (c : Nat) (hC : Kd.C k24 W A x.f2.length x.f2) (hc : x.f2.length ≤ c) :
  Calls Try.prog 4 #[.agg #[.int .i64 x.f0, .int .i64 x.f1, .slice A x.f2.length c]] W fun e w' => e = .returned (.bool true) ∧ Below W.heap.size W w' := by
 have HC := Aside0.mk hC
 have HCC := Aside0.mk hc
 obtain ⟨b, ⟨K1, hK1⟩, hb⟩ := few_n x (lens_of x hC) []
 have HND := Aside0.mk (hK1 K1 (Nat.le_refl _))
 have HBT := Aside0.mk hb
 clear hC hc hK1 hb
 go_enter Try.func4, Try.ntmps4
 go_upto_region 1 with fail
 have HB1 := Aside0.mk (below_alloc (Below.refl W.heap.size W) (.cells #[.int .i64 x.f0, .int .i64 x.f1, .slice A x.f2.length c] 24))
 have HNB1 := Aside0.mk (blk_new W (.cells #[.int .i64 x.f0, .int .i64 x.f1, .slice A x.f2.length c] 24))
 obtain ⟨NB, hNB⟩ : ∃ n, W.heap.size = n := ⟨_, rfl⟩
 obtain ⟨W1, hW1⟩ : ∃ w, W.alloc (.cells #[.int .i64 x.f0, .int .i64 x.f1, .slice A x.f2.length c] 24) = w := ⟨_, rfl⟩
 rw [hNB] at HNB1
 rw [hW1] at HB1 HNB1
 rw [hW1]
 rw [hNB]
 clear hNB hW1
 go_upto_region 2 with (go_at_call 16; refine (fawake_calls W1).mono ?_; rintro e W2 ⟨rfl, hb⟩; have HB2 := Aside0.mk (HB1.out.trans (hb.mono HB1.out.size)); have HNB2 := Aside0.mk (blk_below HNB1.out hb); clear hb)
 clear HB1 HNB1
 have n0 := (blk_cell HNB2.out 0).trans rfl
 have n1 := (blk_cell HNB2.out 1).trans rfl
 have n2 := (blk_cell HNB2.out 2).trans rfl
 go_upto_region 3 with (go_at_call 21; refine (scansionlaw11_few.calls K1 x.f0 x.f1 A c x.f2 none 0 [] b W2 (Kd.C_below HC.out HB2.out) HCC.out ⟨rfl, by simp, fun h => absurd h (Nat.lt_irrefl 0)⟩ (Nat.le_refl 0) HND.out).mono ?_; rintro e W3 ⟨rfl, hb⟩; have HB3 := Aside0.mk (HB2.out.trans (hb.mono HB2.out.size)); have HNB3 := Aside0.mk (blk_below HNB2.out hb); clear hb n0 n1 n2)
 clear HB2 HNB2
 cases b with
 | false =>
  go_wp2_with fail
  go_ret
  exact ⟨rfl, HB3.out⟩
 | true =>
  have HFEW := Aside0.mk (HBT.out rfl)
  go_upto_region 5 with fail
  obtain ⟨r, hr⟩ : ∃ r, r = buildR x := ⟨_, rfl⟩
  have HRX := Aside0.mk hr
  have HCM := Aside0.mk (show cnt x ≤ 1000000 by have h1 := cnt_siz x; have h2 := HFEW.out.1; omega)
  have HRB := Aside0.mk (show follow_Build.f x.f0 x.f1 x.f2 = some (r.1, r.2.1, r.2.2.1, r.2.2.2.1, r.2.2.2.2.1, r.2.2.2.2.2) by unfold follow_Build.f; rw [s24_eta, if_pos HCM.out, ← hr])
  clear hr
  have n0 := (blk_cell HNB3.out 0).trans rfl
  have n1 := (blk_cell HNB3.out 1).trans rfl
  have n2 := (blk_cell HNB3.out 2).trans rfl
  go_upto_region 6 with (go_at_call 18; refine (follow_Build.calls x.f0 x.f1 A c x.f2 r.1 r.2.1 r.2.2.1 r.2.2.2.1 r.2.2.2.2.1 r.2.2.2.2.2 W3 (Kd.C_below HC.out HB3.out) HCC.out HRB.out).mono ?_; rintro e W4 ⟨u1, u2, u3, u4, rfl, ho1, ho2, ho3, ho4, hb⟩; have HB4 := Aside0.mk (HB3.out.trans (hb.mono HB3.out.size)); have HNB4 := Aside0.mk (blk_below HNB3.out hb); obtain ⟨A1, c1, rfl⟩ := Kd.R_slice ho1; obtain ⟨A2, c2, rfl⟩ := Kd.R_slice ho2; obtain ⟨A3, c3, rfl⟩ := Kd.R_slice ho3; obtain ⟨A4, c4, rfl⟩ := Kd.R_slice ho4; have HO1 := Aside0.mk (Kd.R_lower ho1 HB3.out.size); have HO2 := Aside0.mk (Kd.R_lower ho2 HB3.out.size); have HO3 := Aside0.mk (Kd.R_lower ho3 HB3.out.size); have HO4 := Aside0.mk (Kd.R_lower ho4 HB3.out.size); clear ho1 ho2 ho3 ho4 hb n0 n1 n2)
  clear HB3 HNB3 
  have hbn := below_alloc (Below.refl W4.heap.size W4) (.cells #[.bool r.1, .slice A1 r.2.1.length c1, .slice A2 r.2.2.1.length c2, .slice A3 r.2.2.2.1.length c3, .slice A4 r.2.2.2.2.1.length c4] 30)
  have HAB1 := Aside0.mk (show AutoC W.heap.size W4.heap.size r (.slice A1 r.2.1.length c1) (.slice A2 r.2.2.1.length c2) (.slice A3 r.2.2.2.1.length c3) (.slice A4 r.2.2.2.2.1.length c4) (W4.alloc (.cells #[.bool r.1, .slice A1 r.2.1.length c1, .slice A2 r.2.2.1.length c2, .slice A3 r.2.2.2.1.length c3, .slice A4 r.2.2.2.2.1.length c4] 30)) from ⟨blk_new _ _, Kd.R_below HO1.out hbn, Kd.R_below HO2.out hbn, Kd.R_below HO3.out hbn, Kd.R_below HO4.out hbn⟩)
  have HBn := Aside0.mk (HB4.out.trans (hbn.mono HB4.out.size))
  have HNBn := Aside0.mk (blk_below HNB4.out hbn)
  clear hbn HO1 HO2 HO3 HO4 HB4 HNB4
  obtain ⟨B1, hB1⟩ : ∃ n, W4.heap.size = n := ⟨_, rfl⟩
  obtain ⟨W5, hW5⟩ : ∃ w, W4.alloc (.cells #[.bool r.1, .slice A1 r.2.1.length c1, .slice A2 r.2.2.1.length c2, .slice A3 r.2.2.2.1.length c3, .slice A4 r.2.2.2.2.1.length c4] 30) = w := ⟨_, rfl⟩
  rw [hB1, hW5] at HAB1
  rw [hW5] at HBn HNBn 
  rw [hW5]
  rw [hB1]
  clear hB1 hW5
  have HB4 := Aside0.mk HBn.out
  have HNB4 := Aside0.mk HNBn.out
  clear HBn HNBn
  have HER := Aside0.mk (show r.2.2.2.2.2 = 0 ∨ r.2.2.2.2.2 = 1 ∨ r.2.2.2.2.2 = 3 by rw [HRX.out]; exact build_errs x)
  by_cases qe : r.2.2.2.2.2 = 0
  case neg =>
   have f1 : (r.2.2.2.2.2 != 0) = true := bne_iff_ne.2 qe
   by_cases q1 : r.2.2.2.2.2 = 1
   ·have f2 : (r.2.2.2.2.2 == 1) = true := beq_iff_eq.2 q1
    clear q1 qe
    go_wp2_with fail
    go_ret
    exact ⟨by simp, HB4.out⟩
   ·have f2 : (r.2.2.2.2.2 == 1) = false := beq_eq_false_iff_ne.2 q1
    have f3 : (r.2.2.2.2.2 == 3) = true := beq_iff_eq.2 (by have := HER.out; omega)
    clear q1 qe
    go_wp2_with fail
    go_ret
    exact ⟨by simp, HB4.out⟩
  case pos =>
   have HQE := Aside0.mk (show (buildR x).2.2.2.2.2 = 0 by rw [← HRX.out]; exact qe)
   have HAU := Aside0.mk (show Auto r by rw [HRX.out]; exact (build_auto x HQE.out).1)
   have HRR := Aside0.mk (show rightN x = true from (build_auto x HQE.out).2.1)
   have HTL := Aside0.mk (show Tell x r by rw [HRX.out]; exact build_tell x HQE.out)
   have f1 : (r.2.2.2.2.2 != 0) = false := bne_eq_false_iff_eq.2 qe
   clear qe HER
   have z0 := HAB1.out.cells.1
   have z1 := HAB1.out.cells.2.1
   have z2 := HAB1.out.cells.2.2.1
   have z3 := HAB1.out.cells.2.2.2.1
   have z4 := HAB1.out.cells.2.2.2.2
   go_upto_region 9 with fail
   clear f1
   clear z0 z1 z2 z3 z4
   have hbn := below_alloc (Below.refl W5.heap.size W5) (.cells #[.slice A2 r.2.2.1.length c2, .slice A3 r.2.2.2.1.length c3] 27)
   have HB56 := Aside0.mk hbn
   have HB6 := Aside0.mk (HB4.out.trans (hbn.mono HB4.out.size))
   have HA6 := Aside0.mk (HAB1.out.later hbn)
   have hel : ∀ (v : Value) (l : List Int), Kd.R (Kd.int .i64) 3 W5 W.heap.size (fun _ => True) v l → Kd.R (Kd.int .i64) 3 (W5.alloc (.cells #[.slice A2 r.2.2.1.length c2, .slice A3 r.2.2.2.1.length c3] 27)) W.heap.size (fun k => True ∧ some k ≠ (Value.slice (some ⟨W5.heap.size, 0, none⟩) 2 2).ownBlock) v l := fun v l h => Kd.R_elder' (v := Value.slice (some ⟨W5.heap.size, 0, none⟩) 2 2) h (fun k hk => Nat.le_of_eq (by simpa [Value.ownBlock] using hk)) hbn
   have hm : ∀ (v : Value) (l : List Int), Kd.R (Kd.int .i64) 3 W5 W.heap.size (fun _ => True) v l → (Kd.slice 3 (Kd.int .i64)).M (W5.alloc (.cells #[.slice A2 r.2.2.1.length c2, .slice A3 r.2.2.2.1.length c3] 27)) W.heap.size (fun k => True ∧ some k ≠ (Value.slice (some ⟨W5.heap.size, 0, none⟩) 2 2).ownBlock) l [v] := fun v l h => ⟨v, rfl, hel v l h⟩
   have HLO := Aside0.mk (show Kd.R (Kd.slice 3 (Kd.int .i64)) 27 (W5.alloc (.cells #[.slice A2 r.2.2.1.length c2, .slice A3 r.2.2.2.1.length c3] 27)) W.heap.size (fun _ => True) (.slice (some ⟨W5.heap.size, 0, none⟩) 2 2) [r.2.2.1, r.2.2.2.1] from
    ⟨fun _ _ => trivial, [.slice A2 r.2.2.1.length c2, .slice A3 r.2.2.2.1.length c3], World.ownsRow_lit (base := W.heap.size) (e := 27) (size := 1) W5 #[.slice A2 r.2.2.1.length c2, .slice A3 r.2.2.2.1.length c3] 2 HB4.out.size (by decide) rfl, Reps.snoc (Reps.snoc (Reps.none _ _) (hm _ _ HAB1.out.r2) rfl) (hm _ _ HAB1.out.r3) rfl⟩)
   have HR4 := Aside0.mk (show Kd.R (Kd.slice 3 (Kd.int .i64)) 27 (W5.alloc (.cells #[.slice A2 r.2.2.1.length c2, .slice A3 r.2.2.2.1.length c3] 27)) W.heap.size (fun k => True ∧ some k ≠ (Value.slice (some ⟨W5.heap.size, 0, none⟩) 2 2).ownBlock) (.slice A4 r.2.2.2.2.1.length c4) r.2.2.2.2.1 from Kd.R_elder' (v := Value.slice (some ⟨W5.heap.size, 0, none⟩) 2 2) HAB1.out.r4 (fun k hk => Nat.le_of_eq (by simpa [Value.ownBlock] using hk)) hbn)
   clear hbn hel hm
   obtain ⟨W6, hW6⟩ : ∃ w, W5.alloc (.cells #[.slice A2 r.2.2.1.length c2, .slice A3 r.2.2.2.1.length c3] 27) = w := ⟨_, rfl⟩
   obtain ⟨LB, hLB⟩ : ∃ n, W5.heap.size = n := ⟨_, rfl⟩
   have HLB := Aside0.mk hLB
   have y2 := HAB1.out.cells.2.2.1
   have y3 := HAB1.out.cells.2.2.2.1
   have z4 := HA6.out.cells.2.2.2.2
   rw [hW6, hLB] at HLO HR4
   rw [hW6] at HB6 HA6 HB56 z4
   go_upto_region 10 with ((with_reducible refine gate_builtin (b := .append) (xs := #[.tmp 47, .tmp 49]) rfl ?_); at_builtin; refine Kd.R_append_rows (Kd.slice 3 (Kd.int .i64)) (w0 := W) W.heap.size rfl (.tmp 47) (.tmp 49) 28 27 (.slice none 0 0) 24 rfl Try.underlying28 info27_ rfl (by decide) (by omega) (.slice (some ⟨LB, 0, none⟩) 2 2) [r.2.2.1, r.2.2.2.1] r.2.2.2.2.1 A4 r.2.2.2.2.1.length c4 (fun _ => True) (fun k => True ∧ some k ≠ (Value.slice (some ⟨LB, 0, none⟩) 2 2).ownBlock) rfl rfl HLO.out (rows_reads HR4.out) (fun _ _ h => h) (fun _ h => h) (fun _ _ => trivial) HB6.out HB6.out.size (by have := HAU.out.len; have := HAU.out.m; simp only [List.length_cons, List.length_nil]; omega) ?_; intro v1 W7 ho hb hg hat; obtain ⟨A8, c8, rfl⟩ := Kd.R_slice ho; have HR8 := Aside0.mk ho; have HB7 := Aside0.mk hb; have HB57 := Aside0.mk (Below.grown HB56.out hg HB56.out.size (fun k hk => by rw [HLB.out]; exact Nat.le_of_eq (by simpa [Value.ownBlock] using hk))); clear ho hb hg hat z4 y2 y3)
   have HA7 := Aside0.mk (HAB1.out.later HB57.out)
   have HN7 := Aside0.mk (blk_below HNB4.out HB57.out)
   clear HB4 HNB4 HAB1 HLO HB6 HB56 HA6 HB57 HR4 hW6 hLB HLB
   obtain ⟨al, hal⟩ : ∃ al, al = [r.2.2.1, r.2.2.2.1] ++ r.2.2.2.2.1 := ⟨_, rfl⟩
   have HAG := Aside0.mk (show ∀ l ∈ al, Good r.2.1.length l from fun l hl => by
    rw [hal] at hl
    rcases List.mem_append.1 hl with hl | hl
    ·rcases List.mem_cons.1 hl with rfl | hl
     ·exact HAU.out.first
     ·rw [List.mem_singleton.1 hl]; exact HAU.out.last
    ·exact HAU.out.fol l hl)
   have HALL := Aside0.mk (show al.length ≤ 302 by rw [hal, List.length_append]; have := HAU.out.len; have := HAU.out.m; simp only [List.length_cons, List.length_nil]; omega)
   have HALE := Aside0.mk (show ([r.2.2.1, r.2.2.2.1] ++ r.2.2.2.2.1).length = al.length by rw [hal])
   rw [← hal] at HR8
   have HALN := Aside0.mk (show r.2.2.2.2.1.length + 1 + 1 = al.length by rw [hal]; simp)
   clear hal
   go_wp2_with fail
   rw [HALN.out]
   go_loopg [9] al.length (fun kq v9 w' => ∃ i : Nat, v9 = .int .i64 (i : Int) ∧ Aside0 (i + kq = al.length) ∧ Aside0 (Below W7.heap.size W7 w'))
   case atStart => exact ⟨0, rfl, ⟨Nat.zero_add _⟩, ⟨Below.refl _ _⟩⟩
   case round =>
    obtain ⟨i, rfl, HK, HL⟩ := hrel
    by_cases q0 : gk = 0
    case neg =>
     have HQ := Aside0.mk q0
     clear q0
     have HIL := Aside0.mk (show i < al.length by have := HK.out; have := HQ.out; omega)
     have HWI := Aside0.mk (show wrap64 ((i : Int) + 1) = ((i + 1 : Nat) : Int) by have := HIL.out; have := HALL.out; unfold wrap64; omega)
     have f1 : (i : Int) < (al.length : Int) := by have := HIL.out; omega
     have f2 : decide ((i : Int) < (al.length : Int)) = true := decide_eq_true f1
     have f3 : i < al.length := HIL.out
     have f4 : (0 : Int) ≤ (i : Int) := Int.natCast_nonneg i
     obtain ⟨row, hrow⟩ : ∃ row, row = rd_L3 al (i : Int) := ⟨_, rfl⟩
     have HROW := Aside0.mk hrow
     have HGR := Aside0.mk (show Good r.2.1.length row by rw [hrow, rdL3_get HIL.out]; exact HAG.out _ (List.getElem_mem _))
     clear hrow
     obtain ⟨g1, hg1⟩ : ∃ g, gk = g := ⟨_, rfl⟩
     go_wp2_with fail
     go_loopg [10] row.length (fun kq v10 w' => ∃ z : Int, v10 = .int .i64 z ∧ Aside0 (0 ≤ z ∧ z + kq = row.length) ∧ Aside0 (Below W7.heap.size W7 w'))
     case atStart => exact ⟨0, rfl, ⟨by omega, by omega⟩, HL⟩
     case round =>
      clear HL
      obtain ⟨z, rfl, HZ, HL⟩ := hrel
      obtain ⟨adl, A9, c9, eA, hx9, hl9, hg9⟩ := at_L3 (Kd.C_below (Kd.R_reads' HR8.out).2.2 HL.out) (i : Int) f4 f1
      rw [← HROW.out] at hx9 hl9 hg9
      rw [Int.toNat_natCast] at hx9
      subst eA
      have HG9 := Aside0.mk hg9
      clear hl9 hg9
      by_cases q1 : gk = 0
      case pos =>
       have f5 : ¬ z < (row.length : Int) := by have := HZ.out; omega
       have f6 : decide (z < (row.length : Int)) = false := decide_eq_false f5
       clear q1
       go_wp2_with fail
       go_roundg (g1 - 1)
       case measure => have := HQ.out; omega
       case rel => exact ⟨i + 1, by rw [← HWI.out], ⟨by have := HK.out; have := HQ.out; omega⟩, HL⟩
      case neg =>
      have HQ2 := Aside0.mk q1
      clear q1
      have f5 : z < (row.length : Int) := by have := HZ.out; have := HQ2.out; omega
      have f6 : decide (z < (row.length : Int)) = true := decide_eq_true f5
      have f7 : (0 : Int) ≤ z := HZ.out.1
      have HWZ := Aside0.mk (show wrap64 (z + 1) = z + 1 by have := HGR.out.len; have := HAU.out.m; unfold wrap64; omega)
      obtain ⟨adr, eR, hxr⟩ := Kd.at_int HG9.out z f7 f5
      subst eR
      obtain ⟨y, hy⟩ : ∃ y, y = rd row z := ⟨_, rfl⟩
      rw [← hy] at hxr
      have HYG := Aside0.mk (show 1 ≤ y ∧ y ≤ (r.2.1.length : Int) from HGR.out.2 y (by rw [hy]; exact rd_in f7 f5))
      have HYD := Aside0.mk hy
      clear hy
      have y1 : ¬ y < 1 := by have := HYG.out; omega
      have y2 : decide (y < 1) = false := decide_eq_false y1
      have y3 : ¬ y > (r.2.1.length : Int) := by have := HYG.out; omega
      have y4 : decide (y > (r.2.1.length : Int)) = false := decide_eq_false y3
      have y5 : decide ((r.2.1.length : Int) < y) = false := decide_eq_false y3
      go_upto_region 16 with fail
      by_cases qz : z = 0
      case pos =>
       have w4 : decide (z > 0) = false := decide_eq_false (by omega)
       have w5 : decide (0 < z) = false := w4
       have w6 : ¬ 0 < z := by omega
       clear qz
       have hbd := below_drew (Below.refl wr.heap.size wr)
       have HL' := Aside0.mk (HL.out.trans (hbd.mono HL.out.size))
       have HX1 := Aside0.mk (cell_keep hbd hx9)
       have HX2 := Aside0.mk (cell_keep hbd hxr)
       clear hbd HL hx9 hxr
       refine wp_region_noPanic ?_
       refine start_ (n := 41) (S := fun w' => w'.cell? (adl.add i) = some (.slice (some adr) row.length c9) ∧ w'.cell? (adr.add z.toNat) = some (.int .i64 y)) (ds := []) #[false, false, false, false, false, false, false, false, false, false, false, false, false, false, false, false, false, false, false, false, false, false, false, false, false, false, false, false, false, false, false, false, false, false, false, false, false, false, false, false, false] (by kernel_rfl) rfl rfl ⟨HX1.out, HX2.out⟩ (fun hHeld => ?_); refine with_tabW fpl_tab16 fpl_bits16 (fun HT_ HW_ => ?_)
       obtain ⟨W9, hW9⟩ : ∃ w, wr.drew = w := ⟨_, rfl⟩
       rw [hW9] at HL' HX1 HX2 hHeld ⊢
       clear hW9
       refine pure_ (i := 0) (N := some 66) (v := ?_) (a' := ?_) #[true, false, false, false, false, false, false, false, false, false, false, false, false, false, false, false, false, false, false, false, false, false, false, false, false, false, false, false, false, false, false, false, false, false, false, false, false, false, false, false, false] rfl rfl (any_of HT_.out (by kernel_rfl)) (fun _ _ _ h => h) (Or.inl ⟨by rfl, ?_⟩) ?_ ?_
       rotate_left
       ·intro w'
        go_simp
        with_reducible rfl
       rotate_left
       ·simp only [Act.put, List.setIfInBounds_toArray, List.set_cons_zero, List.set_cons_succ, i64_w, i32_w]
        rfl
       refine pure_ (i := 1) (N := some 67) (v := ?_) (a' := ?_) #[true, true, false, false, false, false, false, false, false, false, false, false, false, false, false, false, false, false, false, false, false, false, false, false, false, false, false, false, false, false, false, false, false, false, false, false, false, false, false, false, false] rfl rfl (any_of HT_.out (by kernel_rfl)) (fun _ _ _ h => h) (Or.inl ⟨by rfl, ?_⟩) ?_ ?_
       rotate_left
       ·intro w'
        go_simp
        with_reducible rfl
       rotate_left
       ·simp only [Act.put, List.setIfInBounds_toArray, List.set_cons_zero, List.set_cons_succ, i64_w, i32_w]
        rfl
       refine pure_ (i := 4) (N := some 70) (v := ?_) (a' := ?_) #[true, true, false, false, true, false, false, false, false, false, false, false, false, false, false, false, false, false, false, false, false, false, false, false, false, false, false, false, false, false, false, false, false, false, false, false, false, false, false, false, false] rfl rfl (any_of HT_.out (by kernel_rfl)) (fun _ _ _ h => h) (Or.inl ⟨by rfl, ?_⟩) ?_ ?_
       rotate_left
       ·intro w'
        go_simp
        with_reducible rfl
       rotate_left
       ·simp only [Act.put, List.setIfInBounds_toArray, List.set_cons_zero, List.set_cons_succ, i64_w, i32_w]
        rfl
       refine pure_ (i := 2) (N := some 68) (v := ?_) (a' := ?_) #[true, true, true, false, true, false, false, false, false, false, false, false, false, false, false, false, false, false, false, false, false, false, false, false, false, false, false, false, false, false, false, false, false, false, false, false, false, false, false, false, false] rfl rfl (any_of HT_.out (by kernel_rfl)) (fun _ _ _ h => h) (Or.inl ⟨by rfl, ?_⟩) ?_ ?_
       rotate_left
       ·intro w'
        go_simp
        with_reducible rfl
       rotate_left
       ·simp only [Act.put, List.setIfInBounds_toArray, List.set_cons_zero, List.set_cons_succ, i64_w, i32_w]
        rfl
       refine take_ (i := 3) (N := some 69) (v := ?_) (a' := ?_) #[true, true, true, true, true, false, false, false, false, false, false, false, false, false, false, false, false, false, false, false, false, false, false, false, false, false, false, false, false, false, false, false, false, false, false, false, false, false, false, false, false] rfl rfl (take_ofW HT_.out HW_.out (by kernel_rfl)) (fun _ _ _ h => h) (Or.inl ⟨by rfl, ?_⟩) hHeld ?_ ?_
       rotate_left
       ·rintro w' ⟨s0, s1⟩
        go_simp
        with_reducible rfl
       rotate_left
       ·simp only [Act.put, List.setIfInBounds_toArray, List.set_cons_zero, List.set_cons_succ, i64_w, i32_w]
        rfl
       refine pure_ (i := 5) (N := some 71) (v := ?_) (a' := ?_) #[true, true, true, true, true, true, false, false, false, false, false, false, false, false, false, false, false, false, false, false, false, false, false, false, false, false, false, false, false, false, false, false, false, false, false, false, false, false, false, false, false] rfl rfl (any_of HT_.out (by kernel_rfl)) (fun _ _ _ h => h) (Or.inl ⟨by rfl, ?_⟩) ?_ ?_
       rotate_left
       ·intro w'
        go_simp
        with_reducible rfl
       rotate_left
       ·simp only [Act.put, List.setIfInBounds_toArray, List.set_cons_zero, List.set_cons_succ, i64_w, i32_w]
        rfl
       refine take_ (i := 6) (N := some 72) (v := ?_) (a' := ?_) #[true, true, true, true, true, true, true, false, false, false, false, false, false, false, false, false, false, false, false, false, false, false, false, false, false, false, false, false, false, false, false, false, false, false, false, false, false, false, false, false, false] rfl rfl (take_ofW HT_.out HW_.out (by kernel_rfl)) (fun _ _ _ h => h) (Or.inl ⟨by rfl, ?_⟩) hHeld ?_ ?_
       rotate_left
       ·rintro w' ⟨s0, s1⟩
        go_simp
        with_reducible rfl
       rotate_left
       ·simp only [Act.put, List.setIfInBounds_toArray, List.set_cons_zero, List.set_cons_succ, i64_w, i32_w]
        rfl
       refine pure_ (i := 7) (N := some 73) (v := ?_) (a' := ?_) #[true, true, true, true, true, true, true, true, false, false, false, false, false, false, false, false, false, false, false, false, false, false, false, false, false, false, false, false, false, false, false, false, false, false, false, false, false, false, false, false, false] rfl rfl (any_of HT_.out (by kernel_rfl)) (fun _ _ _ h => h) (Or.inl ⟨by rfl, ?_⟩) ?_ ?_
       rotate_left
       ·intro w'
        go_simp
        with_reducible rfl
       rotate_left
       ·simp only [Act.put, List.setIfInBounds_toArray, List.set_cons_zero, List.set_cons_succ, i64_w, i32_w]
        rfl
       refine pure_ (i := 8) (N := some 74) (v := ?_) (a' := ?_) #[true, true, true, true, true, true, true, true, true, false, false, false, false, false, false, false, false, false, false, false, false, false, false, false, false, false, false, false, false, false, false, false, false, false, false, false, false, false, false, false, false] rfl rfl (any_of HT_.out (by kernel_rfl)) (fun _ _ _ h => h) (Or.inl ⟨by rfl, ?_⟩) ?_ ?_
       rotate_left
       ·intro w'
        go_simp
        with_reducible rfl
       rotate_left
       ·simp only [Act.put, List.setIfInBounds_toArray, List.set_cons_zero, List.set_cons_succ, i64_w, i32_w]
        rfl
       refine pure_ (i := 9) (N := some 75) (v := ?_) (a' := ?_) #[true, true, true, true, true, true, true, true, true, true, false, false, false, false, false, false, false, false, false, false, false, false, false, false, false, false, false, false, false, false, false, false, false, false, false, false, false, false, false, false, false] rfl rfl (any_of HT_.out (by kernel_rfl)) (fun _ _ _ h => h) (Or.inl ⟨by rfl, ?_⟩) ?_ ?_
       rotate_left
       ·intro w'
        go_simp
        with_reducible rfl
       rotate_left
       ·simp only [Act.put, List.setIfInBounds_toArray, List.set_cons_zero, List.set_cons_succ, i64_w, i32_w]
        rfl
       refine pure_ (i := 10) (N := some 76) (v := ?_) (a' := ?_) #[true, true, true, true, true, true, true, true, true, true, true, false, false, false, false, false, false, false, false, false, false, false, false, false, false, false, false, false, false, false, false, false, false, false, false, false, false, false, false, false, false] rfl rfl (any_of HT_.out (by kernel_rfl)) (fun _ _ _ h => h) (Or.inl ⟨by rfl, ?_⟩) ?_ ?_
       rotate_left
       ·intro w'
        go_simp
        with_reducible rfl
       rotate_left
       ·simp only [Act.put, List.setIfInBounds_toArray, List.set_cons_zero, List.set_cons_succ, i64_w, i32_w]
        rfl
       refine pure_ (i := 13) (N := some 79) (v := ?_) (a' := ?_) #[true, true, true, true, true, true, true, true, true, true, true, false, false, true, false, false, false, false, false, false, false, false, false, false, false, false, false, false, false, false, false, false, false, false, false, false, false, false, false, false, false] rfl rfl (any_of HT_.out (by kernel_rfl)) (fun _ _ _ h => h) (Or.inl ⟨by rfl, ?_⟩) ?_ ?_
       rotate_left
       ·intro w'
        go_simp
        with_reducible rfl
       rotate_left
       ·simp only [Act.put, List.setIfInBounds_toArray, List.set_cons_zero, List.set_cons_succ, i64_w, i32_w]
        rfl
       refine pure_ (i := 16) (N := some 82) (v := ?_) (a' := ?_) #[true, true, true, true, true, true, true, true, true, true, true, false, false, true, false, false, true, false, false, false, false, false, false, false, false, false, false, false, false, false, false, false, false, false, false, false, false, false, false, false, false] rfl rfl (any_of HT_.out (by kernel_rfl)) (fun _ _ _ h => h) (Or.inl ⟨by rfl, ?_⟩) ?_ ?_
       rotate_left
       ·intro w'
        go_simp
        with_reducible rfl
       rotate_left
       ·simp only [Act.put, List.setIfInBounds_toArray, List.set_cons_zero, List.set_cons_succ, i64_w, i32_w]
        rfl
       refine pure_ (i := 11) (N := some 77) (v := ?_) (a' := ?_) #[true, true, true, true, true, true, true, true, true, true, true, true, false, true, false, false, true, false, false, false, false, false, false, false, false, false, false, false, false, false, false, false, false, false, false, false, false, false, false, false, false] rfl rfl (any_of HT_.out (by kernel_rfl)) (fun _ _ _ h => h) (Or.inl ⟨by rfl, ?_⟩) ?_ ?_
       rotate_left
       ·intro w'
        go_simp
        with_reducible rfl
       rotate_left
       ·simp only [Act.put, List.setIfInBounds_toArray, List.set_cons_zero, List.set_cons_succ, i64_w, i32_w]
        rfl
       refine take_ (i := 12) (N := some 78) (v := ?_) (a' := ?_) #[true, true, true, true, true, true, true, true, true, true, true, true, true, true, false, false, true, false, false, false, false, false, false, false, false, false, false, false, false, false, false, false, false, false, false, false, false, false, false, false, false] rfl rfl (take_ofW HT_.out HW_.out (by kernel_rfl)) (fun _ _ _ h => h) (Or.inl ⟨by rfl, ?_⟩) hHeld ?_ ?_
       rotate_left
       ·rintro w' ⟨s0, s1⟩
        go_simp
        with_reducible rfl
       rotate_left
       ·simp only [Act.put, List.setIfInBounds_toArray, List.set_cons_zero, List.set_cons_succ, i64_w, i32_w]
        rfl
       refine pure_ (i := 14) (N := some 80) (v := ?_) (a' := ?_) #[true, true, true, true, true, true, true, true, true, true, true, true, true, true, true, false, true, false, false, false, false, false, false, false, false, false, false, false, false, false, false, false, false, false, false, false, false, false, false, false, false] rfl rfl (any_of HT_.out (by kernel_rfl)) (fun _ _ _ h => h) (Or.inl ⟨by rfl, ?_⟩) ?_ ?_
       rotate_left
       ·intro w'
        go_simp
        with_reducible rfl
       rotate_left
       ·simp only [Act.put, List.setIfInBounds_toArray, List.set_cons_zero, List.set_cons_succ, i64_w, i32_w]
        rfl
       refine take_ (i := 15) (N := some 81) (v := ?_) (a' := ?_) #[true, true, true, true, true, true, true, true, true, true, true, true, true, true, true, true, true, false, false, false, false, false, false, false, false, false, false, false, false, false, false, false, false, false, false, false, false, false, false, false, false] rfl rfl (take_ofW HT_.out HW_.out (by kernel_rfl)) (fun _ _ _ h => h) (Or.inl ⟨by rfl, ?_⟩) hHeld ?_ ?_
       rotate_left
       ·rintro w' ⟨s0, s1⟩
        go_simp
        with_reducible rfl
       rotate_left
       ·simp only [Act.put, List.setIfInBounds_toArray, List.set_cons_zero, List.set_cons_succ, i64_w, i32_w]
        rfl
       refine pure_ (i := 17) (N := some 83) (v := ?_) (a' := ?_) #[true, true, true, true, true, true, true, true, true, true, true, true, true, true, true, true, true, true, false, false, false, false, false, false, false, false, false, false, false, false, false, false, false, false, false, false, false, false, false, false, false] rfl rfl (any_of HT_.out (by kernel_rfl)) (fun _ _ _ h => h) (Or.inl ⟨by rfl, ?_⟩) ?_ ?_
       rotate_left
       ·intro w'
        go_simp
        with_reducible rfl
       rotate_left
       ·simp only [Act.put, List.setIfInBounds_toArray, List.set_cons_zero, List.set_cons_succ, i64_w, i32_w]
        rfl
       refine pure_ (i := 18) (N := some 84) (v := ?_) (a' := ?_) #[true, true, true, true, true, true, true, true, true, true, true, true, true, true, true, true, true, true, true, false, false, false, false, false, false, false, false, false, false, false, false, false, false, false, false, false, false, false, false, false, false] rfl rfl (any_of HT_.out (by kernel_rfl)) (fun _ _ _ h => h) (Or.inl ⟨by rfl, ?_⟩) ?_ ?_
       rotate_left
       ·intro w'
        go_simp
        with_reducible rfl
       rotate_left
       ·simp only [Act.put, List.setIfInBounds_toArray, List.set_cons_zero, List.set_cons_succ, i64_w, i32_w]
        rfl
       refine pure_ (i := 19) (N := some 85) (v := ?_) (a' := ?_) #[true, true, true, true, true, true, true, true, true, true, true, true, true, true, true, true, true, true, true, true, false, false, false, false, false, false, false, false, false, false, false, false, false, false, false, false, false, false, false, false, false] rfl rfl (any_of HT_.out (by kernel_rfl)) (fun _ _ _ h => h) (Or.inl ⟨by rfl, ?_⟩) ?_ ?_
       rotate_left
       ·intro w'
        go_simp
        with_reducible rfl
       rotate_left
       ·simp only [Act.put, List.setIfInBounds_toArray, List.set_cons_zero, List.set_cons_succ, i64_w, i32_w]
        rfl
       refine pure_ (i := 20) (N := some 86) (v := ?_) (a' := ?_) #[true, true, true, true, true, true, true, true, true, true, true, true, true, true, true, true, true, true, true, true, true, false, false, false, false, false, false, false, false, false, false, false, false, false, false, false, false, false, false, false, false] rfl rfl (any_of HT_.out (by kernel_rfl)) (fun _ _ _ h => h) (Or.inl ⟨by rfl, ?_⟩) ?_ ?_
       rotate_left
       ·intro w'
        go_simp
        with_reducible rfl
       rotate_left
       ·simp only [Act.put, List.setIfInBounds_toArray, List.set_cons_zero, List.set_cons_succ, i64_w, i32_w]
        rfl
       refine pure_ (i := 21) (N := some 87) (v := ?_) (a' := ?_) #[true, true, true, true, true, true, true, true, true, true, true, true, true, true, true, true, true, true, true, true, true, true, false, false, false, false, false, false, false, false, false, false, false, false, false, false, false, false, false, false, false] rfl rfl (any_of HT_.out (by kernel_rfl)) (fun _ _ _ h => h) (Or.inl ⟨by rfl, ?_⟩) ?_ ?_
       rotate_left
       ·intro w'
        go_simp
        with_reducible rfl
       rotate_left
       ·simp only [Act.put, List.setIfInBounds_toArray, List.set_cons_zero, List.set_cons_succ, i64_w, i32_w]
        rfl
       refine pure_ (i := 22) (N := some 88) (v := ?_) (a' := ?_) #[true, true, true, true, true, true, true, true, true, true, true, true, true, true, true, true, true, true, true, true, true, true, true, false, false, false, false, false, false, false, false, false, false, false, false, false, false, false, false, false, false] rfl rfl (any_of HT_.out (by kernel_rfl)) (fun _ _ _ h => h) (Or.inl ⟨by rfl, ?_⟩) ?_ ?_
       rotate_left
       ·intro w'
        go_simp
        with_reducible rfl
       rotate_left
       ·simp only [Act.put, List.setIfInBounds_toArray, List.set_cons_zero, List.set_cons_succ, i64_w, i32_w]
        rfl
       refine pure_ (i := 23) (N := some 89) (v := undef) (a' := ?_) #[true, true, true, true, true, true, true, true, true, true, true, true, true, true, true, true, true, true, true, true, true, true, true, true, false, false, false, false, false, false, false, false, false, false, false, false, false, false, false, false, false] rfl rfl (any_of HT_.out (by kernel_rfl)) (fun _ _ _ h => h) (Or.inr ⟨by rfl, rfl⟩) ?_ ?_
       rotate_left
       ·simp only [Act.put, List.setIfInBounds_toArray, List.set_cons_zero, List.set_cons_succ, i64_w, i32_w]
        rfl
       refine pure_ (i := 24) (N := some 90) (v := undef) (a' := ?_) #[true, true, true, true, true, true, true, true, true, true, true, true, true, true, true, true, true, true, true, true, true, true, true, true, true, false, false, false, false, false, false, false, false, false, false, false, false, false, false, false, false] rfl rfl (any_of HT_.out (by kernel_rfl)) (fun _ _ _ h => h) (Or.inr ⟨by rfl, rfl⟩) ?_ ?_
       rotate_left
       ·simp only [Act.put, List.setIfInBounds_toArray, List.set_cons_zero, List.set_cons_succ, i64_w, i32_w]
        rfl
       refine pure_ (i := 25) (N := some 91) (v := undef) (a' := ?_) #[true, true, true, true, true, true, true, true, true, true, true, true, true, true, true, true, true, true, true, true, true, true, true, true, true, true, false, false, false, false, false, false, false, false, false, false, false, false, false, false, false] rfl rfl (any_of HT_.out (by kernel_rfl)) (fun _ _ _ h => h) (Or.inr ⟨by rfl, rfl⟩) ?_ ?_
       rotate_left
       ·simp only [Act.put, List.setIfInBounds_toArray, List.set_cons_zero, List.set_cons_succ, i64_w, i32_w]
        rfl
       refine pure_ (i := 26) (N := some 92) (v := undef) (a' := ?_) #[true, true, true, true, true, true, true, true, true, true, true, true, true, true, true, true, true, true, true, true, true, true, true, true, true, true, true, false, false, false, false, false, false, false, false, false, false, false, false, false, false] rfl rfl (any_of HT_.out (by kernel_rfl)) (fun _ _ _ h => h) (Or.inr ⟨by rfl, rfl⟩) ?_ ?_
       rotate_left
       ·simp only [Act.put, List.setIfInBounds_toArray, List.set_cons_zero, List.set_cons_succ, i64_w, i32_w]
        rfl
       refine pure_ (i := 27) (N := some 93) (v := undef) (a' := ?_) #[true, true, true, true, true, true, true, true, true, true, true, true, true, true, true, true, true, true, true, true, true, true, true, true, true, true, true, true, false, false, false, false, false, false, false, false, false, false, false, false, false] rfl rfl (any_of HT_.out (by kernel_rfl)) (fun _ _ _ h => h) (Or.inr ⟨by rfl, rfl⟩) ?_ ?_
       rotate_left
       ·simp only [Act.put, List.setIfInBounds_toArray, List.set_cons_zero, List.set_cons_succ, i64_w, i32_w]
        rfl
       refine pure_ (i := 28) (N := some 94) (v := undef) (a' := ?_) #[true, true, true, true, true, true, true, true, true, true, true, true, true, true, true, true, true, true, true, true, true, true, true, true, true, true, true, true, true, false, false, false, false, false, false, false, false, false, false, false, false] rfl rfl (any_of HT_.out (by kernel_rfl)) (fun _ _ _ h => h) (Or.inr ⟨by rfl, rfl⟩) ?_ ?_
       rotate_left
       ·simp only [Act.put, List.setIfInBounds_toArray, List.set_cons_zero, List.set_cons_succ, i64_w, i32_w]
        rfl
       refine pure_ (i := 29) (N := some 95) (v := undef) (a' := ?_) #[true, true, true, true, true, true, true, true, true, true, true, true, true, true, true, true, true, true, true, true, true, true, true, true, true, true, true, true, true, true, false, false, false, false, false, false, false, false, false, false, false] rfl rfl (any_of HT_.out (by kernel_rfl)) (fun _ _ _ h => h) (Or.inr ⟨by rfl, rfl⟩) ?_ ?_
       rotate_left
       ·simp only [Act.put, List.setIfInBounds_toArray, List.set_cons_zero, List.set_cons_succ, i64_w, i32_w]
        rfl
       refine pure_ (i := 30) (N := some 96) (v := undef) (a' := ?_) #[true, true, true, true, true, true, true, true, true, true, true, true, true, true, true, true, true, true, true, true, true, true, true, true, true, true, true, true, true, true, true, false, false, false, false, false, false, false, false, false, false] rfl rfl (any_of HT_.out (by kernel_rfl)) (fun _ _ _ h => h) (Or.inr ⟨by rfl, rfl⟩) ?_ ?_
       rotate_left
       ·simp only [Act.put, List.setIfInBounds_toArray, List.set_cons_zero, List.set_cons_succ, i64_w, i32_w]
        rfl
       refine pure_ (i := 31) (N := some 97) (v := undef) (a' := ?_) #[true, true, true, true, true, true, true, true, true, true, true, true, true, true, true, true, true, true, true, true, true, true, true, true, true, true, true, true, true, true, true, true, false, false, false, false, false, false, false, false, false] rfl rfl (any_of HT_.out (by kernel_rfl)) (fun _ _ _ h => h) (Or.inr ⟨by rfl, rfl⟩) ?_ ?_
       rotate_left
       ·simp only [Act.put, List.setIfInBounds_toArray, List.set_cons_zero, List.set_cons_succ, i64_w, i32_w]
        rfl
       refine pure_ (i := 32) (N := some 98) (v := undef) (a' := ?_) #[true, true, true, true, true, true, true, true, true, true, true, true, true, true, true, true, true, true, true, true, true, true, true, true, true, true, true, true, true, true, true, true, true, false, false, false, false, false, false, false, false] rfl rfl (any_of HT_.out (by kernel_rfl)) (fun _ _ _ h => h) (Or.inr ⟨by rfl, rfl⟩) ?_ ?_
       rotate_left
       ·simp only [Act.put, List.setIfInBounds_toArray, List.set_cons_zero, List.set_cons_succ, i64_w, i32_w]
        rfl
       refine pure_ (i := 33) (N := some 99) (v := undef) (a' := ?_) #[true, true, true, true, true, true, true, true, true, true, true, true, true, true, true, true, true, true, true, true, true, true, true, true, true, true, true, true, true, true, true, true, true, true, false, false, false, false, false, false, false] rfl rfl (any_of HT_.out (by kernel_rfl)) (fun _ _ _ h => h) (Or.inr ⟨by rfl, rfl⟩) ?_ ?_
       rotate_left
       ·simp only [Act.put, List.setIfInBounds_toArray, List.set_cons_zero, List.set_cons_succ, i64_w, i32_w]
        rfl
       refine pure_ (i := 34) (N := some 100) (v := undef) (a' := ?_) #[true, true, true, true, true, true, true, true, true, true, true, true, true, true, true, true, true, true, true, true, true, true, true, true, true, true, true, true, true, true, true, true, true, true, true, false, false, false, false, false, false] rfl rfl (any_of HT_.out (by kernel_rfl)) (fun _ _ _ h => h) (Or.inr ⟨by rfl, rfl⟩) ?_ ?_
       rotate_left
       ·simp only [Act.put, List.setIfInBounds_toArray, List.set_cons_zero, List.set_cons_succ, i64_w, i32_w]
        rfl
       refine pure_ (i := 35) (N := some 101) (v := undef) (a' := ?_) #[true, true, true, true, true, true, true, true, true, true, true, true, true, true, true, true, true, true, true, true, true, true, true, true, true, true, true, true, true, true, true, true, true, true, true, true, false, false, false, false, false] rfl rfl (any_of HT_.out (by kernel_rfl)) (fun _ _ _ h => h) (Or.inr ⟨by rfl, rfl⟩) ?_ ?_
       rotate_left
       ·simp only [Act.put, List.setIfInBounds_toArray, List.set_cons_zero, List.set_cons_succ, i64_w, i32_w]
        rfl
       refine pure_ (i := 36) (N := some 102) (v := undef) (a' := ?_) #[true, true, true, true, true, true, true, true, true, true, true, true, true, true, true, true, true, true, true, true, true, true, true, true, true, true, true, true, true, true, true, true, true, true, true, true, true, false, false, false, false] rfl rfl (any_of HT_.out (by kernel_rfl)) (fun _ _ _ h => h) (Or.inr ⟨by rfl, rfl⟩) ?_ ?_
       rotate_left
       ·simp only [Act.put, List.setIfInBounds_toArray, List.set_cons_zero, List.set_cons_succ, i64_w, i32_w]
        rfl
       refine pure_ (i := 37) (N := some 103) (v := undef) (a' := ?_) #[true, true, true, true, true, true, true, true, true, true, true, true, true, true, true, true, true, true, true, true, true, true, true, true, true, true, true, true, true, true, true, true, true, true, true, true, true, true, false, false, false] rfl rfl (any_of HT_.out (by kernel_rfl)) (fun _ _ _ h => h) (Or.inr ⟨by rfl, rfl⟩) ?_ ?_
       rotate_left
       ·simp only [Act.put, List.setIfInBounds_toArray, List.set_cons_zero, List.set_cons_succ, i64_w, i32_w]
        rfl
       refine pure_ (i := 38) (N := some 104) (v := undef) (a' := ?_) #[true, true, true, true, true, true, true, true, true, true, true, true, true, true, true, true, true, true, true, true, true, true, true, true, true, true, true, true, true, true, true, true, true, true, true, true, true, true, true, false, false] rfl rfl (any_of HT_.out (by kernel_rfl)) (fun _ _ _ h => h) (Or.inr ⟨by rfl, rfl⟩) ?_ ?_
       rotate_left
       ·simp only [Act.put, List.setIfInBounds_toArray, List.set_cons_zero, List.set_cons_succ, i64_w, i32_w]
        rfl
       refine pure_ (i := 39) (N := some 105) (v := ?_) (a' := ?_) #[true, true, true, true, true, true, true, true, true, true, true, true, true, true, true, true, true, true, true, true, true, true, true, true, true, true, true, true, true, true, true, true, true, true, true, true, true, true, true, true, false] rfl rfl (any_of HT_.out (by kernel_rfl)) (fun _ _ _ h => h) (Or.inl ⟨by rfl, ?_⟩) ?_ ?_
       rotate_left
       ·intro w'
        go_simp
        with_reducible rfl
       rotate_left
       ·simp only [Act.put, List.setIfInBounds_toArray, List.set_cons_zero, List.set_cons_succ, i64_w, i32_w]
        rfl
       refine pure_ (i := 40) (N := some 106) (v := ?_) (a' := ?_) #[true, true, true, true, true, true, true, true, true, true, true, true, true, true, true, true, true, true, true, true, true, true, true, true, true, true, true, true, true, true, true, true, true, true, true, true, true, true, true, true, true] rfl rfl (any_of HT_.out (by kernel_rfl)) (fun _ _ _ h => h) (Or.inl ⟨by rfl, ?_⟩) ?_ ?_
       rotate_left
       ·intro w'
        go_simp
        with_reducible rfl
       rotate_left
       ·simp only [Act.put, List.setIfInBounds_toArray, List.set_cons_zero, List.set_cons_succ, i64_w, i32_w]
        rfl
       refine done_ (done_of HT_.out (by kernel_rfl)) ?_
       refine NoPanic.normal ?_
       clear HT_ HW_ hHeld
       go_wp2_with fail
       go_roundg (gk - 1)
       case measure => have := HQ2.out; omega
       case rel => exact ⟨z + 1, by first | rfl | rw [HWZ.out], ⟨by have := HZ.out; omega, by have := HZ.out; have := HQ2.out; omega⟩, HL'⟩
      case neg =>
       have HZP := Aside0.mk qz
       clear qz
       have w1 : (0 : Int) ≤ z - 1 := by have := HZP.out; omega
       have w2 : z - 1 < (row.length : Int) := by omega
       have w8 : 1 ≤ z := by omega
       have w3 : wrap64 (z - 1) = z - 1 := by have := HGR.out.len; have := HAU.out.m; unfold wrap64; omega
       have w4 : decide (z > 0) = true := decide_eq_true (by have := HZP.out; omega)
       have w5 : decide (0 < z) = true := w4
       obtain ⟨adr', eR', hxp⟩ := Kd.at_int HG9.out (z - 1) w1 w2
       obtain rfl : adr = adr' := Option.some.inj eR'
       rw [show (z - 1).toNat = z.toNat - 1 by omega] at hxp
       obtain ⟨y0, hy0⟩ : ∃ y0, y0 = rd row (z - 1) := ⟨_, rfl⟩
       rw [← hy0] at hxp
       have w6 : ¬ y ≤ y0 := by
        rw [hy0, HYD.out]
        have h := rise_rd HGR.out.1 w1 (show z - 1 < z by omega) f5
        omega
       have w7 : decide (y ≤ y0) = false := decide_eq_false w6
       clear hy0 eR'
       have hbd := below_drew (Below.refl wr.heap.size wr)
       have HL' := Aside0.mk (HL.out.trans (hbd.mono HL.out.size))
       have HX1 := Aside0.mk (cell_keep hbd hx9)
       have HX2 := Aside0.mk (cell_keep hbd hxr)
       have HX3 := Aside0.mk (cell_keep hbd hxp)
       clear hbd HL hx9 hxr hxp
       refine wp_region_noPanic ?_
       refine start_ (n := 41) (S := fun w' => w'.cell? (adl.add i) = some (.slice (some adr) row.length c9) ∧ w'.cell? (adr.add z.toNat) = some (.int .i64 y) ∧ w'.cell? (adr.add (z.toNat - 1)) = some (.int .i64 y0)) (ds := []) #[false, false, false, false, false, false, false, false, false, false, false, false, false, false, false, false, false, false, false, false, false, false, false, false, false, false, false, false, false, false, false, false, false, false, false, false, false, false, false, false, false] (by kernel_rfl) rfl rfl ⟨HX1.out, HX2.out, HX3.out⟩ (fun hHeld => ?_); refine with_tabW fpl_tab16 fpl_bits16 (fun HT_ HW_ => ?_)
       obtain ⟨W9, hW9⟩ : ∃ w, wr.drew = w := ⟨_, rfl⟩
       rw [hW9] at HL' HX1 HX2 HX3 hHeld ⊢
       clear hW9
       refine pure_ (i := 0) (N := some 66) (v := ?_) (a' := ?_) #[true, false, false, false, false, false, false, false, false, false, false, false, false, false, false, false, false, false, false, false, false, false, false, false, false, false, false, false, false, false, false, false, false, false, false, false, false, false, false, false, false] rfl rfl (any_of HT_.out (by kernel_rfl)) (fun _ _ _ h => h) (Or.inl ⟨by rfl, ?_⟩) ?_ ?_
       rotate_left
       ·intro w'
        go_simp
        with_reducible rfl
       rotate_left
       ·simp only [Act.put, List.setIfInBounds_toArray, List.set_cons_zero, List.set_cons_succ, i64_w, i32_w]
        rfl
       refine pure_ (i := 1) (N := some 67) (v := ?_) (a' := ?_) #[true, true, false, false, false, false, false, false, false, false, false, false, false, false, false, false, false, false, false, false, false, false, false, false, false, false, false, false, false, false, false, false, false, false, false, false, false, false, false, false, false] rfl rfl (any_of HT_.out (by kernel_rfl)) (fun _ _ _ h => h) (Or.inl ⟨by rfl, ?_⟩) ?_ ?_
       rotate_left
       ·intro w'
        go_simp
        with_reducible rfl
       rotate_left
       ·simp only [Act.put, List.setIfInBounds_toArray, List.set_cons_zero, List.set_cons_succ, i64_w, i32_w]
        rfl
       refine pure_ (i := 4) (N := some 70) (v := ?_) (a' := ?_) #[true, true, false, false, true, false, false, false, false, false, false, false, false, false, false, false, false, false, false, false, false, false, false, false, false, false, false, false, false, false, false, false, false, false, false, false, false, false, false, false, false] rfl rfl (any_of HT_.out (by kernel_rfl)) (fun _ _ _ h => h) (Or.inl ⟨by rfl, ?_⟩) ?_ ?_
       rotate_left
       ·intro w'
        go_simp
        with_reducible rfl
       rotate_left
       ·simp only [Act.put, List.setIfInBounds_toArray, List.set_cons_zero, List.set_cons_succ, i64_w, i32_w]
        rfl
       refine pure_ (i := 2) (N := some 68) (v := ?_) (a' := ?_) #[true, true, true, false, true, false, false, false, false, false, false, false, false, false, false, false, false, false, false, false, false, false, false, false, false, false, false, false, false, false, false, false, false, false, false, false, false, false, false, false, false] rfl rfl (any_of HT_.out (by kernel_rfl)) (fun _ _ _ h => h) (Or.inl ⟨by rfl, ?_⟩) ?_ ?_
       rotate_left
       ·intro w'
        go_simp
        with_reducible rfl
       rotate_left
       ·simp only [Act.put, List.setIfInBounds_toArray, List.set_cons_zero, List.set_cons_succ, i64_w, i32_w]
        rfl
       refine take_ (i := 3) (N := some 69) (v := ?_) (a' := ?_) #[true, true, true, true, true, false, false, false, false, false, false, false, false, false, false, false, false, false, false, false, false, false, false, false, false, false, false, false, false, false, false, false, false, false, false, false, false, false, false, false, false] rfl rfl (take_ofW HT_.out HW_.out (by kernel_rfl)) (fun _ _ _ h => h) (Or.inl ⟨by rfl, ?_⟩) hHeld ?_ ?_
       rotate_left
       ·rintro w' ⟨s0, s1, s2⟩
        go_simp
        with_reducible rfl
       rotate_left
       ·simp only [Act.put, List.setIfInBounds_toArray, List.set_cons_zero, List.set_cons_succ, i64_w, i32_w]
        rfl
       refine pure_ (i := 5) (N := some 71) (v := ?_) (a' := ?_) #[true, true, true, true, true, true, false, false, false, false, false, false, false, false, false, false, false, false, false, false, false, false, false, false, false, false, false, false, false, false, false, false, false, false, false, false, false, false, false, false, false] rfl rfl (any_of HT_.out (by kernel_rfl)) (fun _ _ _ h => h) (Or.inl ⟨by rfl, ?_⟩) ?_ ?_
       rotate_left
       ·intro w'
        go_simp
        with_reducible rfl
       rotate_left
       ·simp only [Act.put, List.setIfInBounds_toArray, List.set_cons_zero, List.set_cons_succ, i64_w, i32_w]
        rfl
       refine take_ (i := 6) (N := some 72) (v := ?_) (a' := ?_) #[true, true, true, true, true, true, true, false, false, false, false, false, false, false, false, false, false, false, false, false, false, false, false, false, false, false, false, false, false, false, false, false, false, false, false, false, false, false, false, false, false] rfl rfl (take_ofW HT_.out HW_.out (by kernel_rfl)) (fun _ _ _ h => h) (Or.inl ⟨by rfl, ?_⟩) hHeld ?_ ?_
       rotate_left
       ·rintro w' ⟨s0, s1, s2⟩
        go_simp
        with_reducible rfl
       rotate_left
       ·simp only [Act.put, List.setIfInBounds_toArray, List.set_cons_zero, List.set_cons_succ, i64_w, i32_w]
        rfl
       refine pure_ (i := 7) (N := some 73) (v := ?_) (a' := ?_) #[true, true, true, true, true, true, true, true, false, false, false, false, false, false, false, false, false, false, false, false, false, false, false, false, false, false, false, false, false, false, false, false, false, false, false, false, false, false, false, false, false] rfl rfl (any_of HT_.out (by kernel_rfl)) (fun _ _ _ h => h) (Or.inl ⟨by rfl, ?_⟩) ?_ ?_
       rotate_left
       ·intro w'
        go_simp
        with_reducible rfl
       rotate_left
       ·simp only [Act.put, List.setIfInBounds_toArray, List.set_cons_zero, List.set_cons_succ, i64_w, i32_w]
        rfl
       refine pure_ (i := 8) (N := some 74) (v := ?_) (a' := ?_) #[true, true, true, true, true, true, true, true, true, false, false, false, false, false, false, false, false, false, false, false, false, false, false, false, false, false, false, false, false, false, false, false, false, false, false, false, false, false, false, false, false] rfl rfl (any_of HT_.out (by kernel_rfl)) (fun _ _ _ h => h) (Or.inl ⟨by rfl, ?_⟩) ?_ ?_
       rotate_left
       ·intro w'
        go_simp
        with_reducible rfl
       rotate_left
       ·simp only [Act.put, List.setIfInBounds_toArray, List.set_cons_zero, List.set_cons_succ, i64_w, i32_w]
        rfl
       refine pure_ (i := 9) (N := some 75) (v := ?_) (a' := ?_) #[true, true, true, true, true, true, true, true, true, true, false, false, false, false, false, false, false, false, false, false, false, false, false, false, false, false, false, false, false, false, false, false, false, false, false, false, false, false, false, false, false] rfl rfl (any_of HT_.out (by kernel_rfl)) (fun _ _ _ h => h) (Or.inl ⟨by rfl, ?_⟩) ?_ ?_
       rotate_left
       ·intro w'
        go_simp
        with_reducible rfl
       rotate_left
       ·simp only [Act.put, List.setIfInBounds_toArray, List.set_cons_zero, List.set_cons_succ, i64_w, i32_w]
        rfl
       refine pure_ (i := 10) (N := some 76) (v := ?_) (a' := ?_) #[true, true, true, true, true, true, true, true, true, true, true, false, false, false, false, false, false, false, false, false, false, false, false, false, false, false, false, false, false, false, false, false, false, false, false, false, false, false, false, false, false] rfl rfl (any_of HT_.out (by kernel_rfl)) (fun _ _ _ h => h) (Or.inl ⟨by rfl, ?_⟩) ?_ ?_
       rotate_left
       ·intro w'
        go_simp
        with_reducible rfl
       rotate_left
       ·simp only [Act.put, List.setIfInBounds_toArray, List.set_cons_zero, List.set_cons_succ, i64_w, i32_w]
        rfl
       refine pure_ (i := 13) (N := some 79) (v := ?_) (a' := ?_) #[true, true, true, true, true, true, true, true, true, true, true, false, false, true, false, false, false, false, false, false, false, false, false, false, false, false, false, false, false, false, false, false, false, false, false, false, false, false, false, false, false] rfl rfl (any_of HT_.out (by kernel_rfl)) (fun _ _ _ h => h) (Or.inl ⟨by rfl, ?_⟩) ?_ ?_
       rotate_left
       ·intro w'
        go_simp
        with_reducible rfl
       rotate_left
       ·simp only [Act.put, List.setIfInBounds_toArray, List.set_cons_zero, List.set_cons_succ, i64_w, i32_w]
        rfl
       refine pure_ (i := 16) (N := some 82) (v := ?_) (a' := ?_) #[true, true, true, true, true, true, true, true, true, true, true, false, false, true, false, false, true, false, false, false, false, false, false, false, false, false, false, false, false, false, false, false, false, false, false, false, false, false, false, false, false] rfl rfl (any_of HT_.out (by kernel_rfl)) (fun _ _ _ h => h) (Or.inl ⟨by rfl, ?_⟩) ?_ ?_
       rotate_left
       ·intro w'
        go_simp
        with_reducible rfl
       rotate_left
       ·simp only [Act.put, List.setIfInBounds_toArray, List.set_cons_zero, List.set_cons_succ, i64_w, i32_w]
        rfl
       refine pure_ (i := 11) (N := some 77) (v := ?_) (a' := ?_) #[true, true, true, true, true, true, true, true, true, true, true, true, false, true, false, false, true, false, false, false, false, false, false, false, false, false, false, false, false, false, false, false, false, false, false, false, false, false, false, false, false] rfl rfl (any_of HT_.out (by kernel_rfl)) (fun _ _ _ h => h) (Or.inl ⟨by rfl, ?_⟩) ?_ ?_
       rotate_left
       ·intro w'
        go_simp
        with_reducible rfl
       rotate_left
       ·simp only [Act.put, List.setIfInBounds_toArray, List.set_cons_zero, List.set_cons_succ, i64_w, i32_w]
        rfl
       refine take_ (i := 12) (N := some 78) (v := ?_) (a' := ?_) #[true, true, true, true, true, true, true, true, true, true, true, true, true, true, false, false, true, false, false, false, false, false, false, false, false, false, false, false, false, false, false, false, false, false, false, false, false, false, false, false, false] rfl rfl (take_ofW HT_.out HW_.out (by kernel_rfl)) (fun _ _ _ h => h) (Or.inl ⟨by rfl, ?_⟩) hHeld ?_ ?_
       rotate_left
       ·rintro w' ⟨s0, s1, s2⟩
        go_simp
        with_reducible rfl
       rotate_left
       ·simp only [Act.put, List.setIfInBounds_toArray, List.set_cons_zero, List.set_cons_succ, i64_w, i32_w]
        rfl
       refine pure_ (i := 14) (N := some 80) (v := ?_) (a' := ?_) #[true, true, true, true, true, true, true, true, true, true, true, true, true, true, true, false, true, false, false, false, false, false, false, false, false, false, false, false, false, false, false, false, false, false, false, false, false, false, false, false, false] rfl rfl (any_of HT_.out (by kernel_rfl)) (fun _ _ _ h => h) (Or.inl ⟨by rfl, ?_⟩) ?_ ?_
       rotate_left
       ·intro w'
        go_simp
        with_reducible rfl
       rotate_left
       ·simp only [Act.put, List.setIfInBounds_toArray, List.set_cons_zero, List.set_cons_succ, i64_w, i32_w]
        rfl
       refine take_ (i := 15) (N := some 81) (v := ?_) (a' := ?_) #[true, true, true, true, true, true, true, true, true, true, true, true, true, true, true, true, true, false, false, false, false, false, false, false, false, false, false, false, false, false, false, false, false, false, false, false, false, false, false, false, false] rfl rfl (take_ofW HT_.out HW_.out (by kernel_rfl)) (fun _ _ _ h => h) (Or.inl ⟨by rfl, ?_⟩) hHeld ?_ ?_
       rotate_left
       ·rintro w' ⟨s0, s1, s2⟩
        go_simp
        with_reducible rfl
       rotate_left
       ·simp only [Act.put, List.setIfInBounds_toArray, List.set_cons_zero, List.set_cons_succ, i64_w, i32_w]
        rfl
       refine pure_ (i := 17) (N := some 83) (v := ?_) (a' := ?_) #[true, true, true, true, true, true, true, true, true, true, true, true, true, true, true, true, true, true, false, false, false, false, false, false, false, false, false, false, false, false, false, false, false, false, false, false, false, false, false, false, false] rfl rfl (any_of HT_.out (by kernel_rfl)) (fun _ _ _ h => h) (Or.inl ⟨by rfl, ?_⟩) ?_ ?_
       rotate_left
       ·intro w'
        go_simp
        with_reducible rfl
       rotate_left
       ·simp only [Act.put, List.setIfInBounds_toArray, List.set_cons_zero, List.set_cons_succ, i64_w, i32_w]
        rfl
       refine pure_ (i := 18) (N := some 84) (v := ?_) (a' := ?_) #[true, true, true, true, true, true, true, true, true, true, true, true, true, true, true, true, true, true, true, false, false, false, false, false, false, false, false, false, false, false, false, false, false, false, false, false, false, false, false, false, false] rfl rfl (any_of HT_.out (by kernel_rfl)) (fun _ _ _ h => h) (Or.inl ⟨by rfl, ?_⟩) ?_ ?_
       rotate_left
       ·intro w'
        go_simp
        with_reducible rfl
       rotate_left
       ·simp only [Act.put, List.setIfInBounds_toArray, List.set_cons_zero, List.set_cons_succ, i64_w, i32_w]
        rfl
       refine pure_ (i := 19) (N := some 85) (v := ?_) (a' := ?_) #[true, true, true, true, true, true, true, true, true, true, true, true, true, true, true, true, true, true, true, true, false, false, false, false, false, false, false, false, false, false, false, false, false, false, false, false, false, false, false, false, false] rfl rfl (any_of HT_.out (by kernel_rfl)) (fun _ _ _ h => h) (Or.inl ⟨by rfl, ?_⟩) ?_ ?_
       rotate_left
       ·intro w'
        go_simp
        with_reducible rfl
       rotate_left
       ·simp only [Act.put, List.setIfInBounds_toArray, List.set_cons_zero, List.set_cons_succ, i64_w, i32_w]
        rfl
       refine pure_ (i := 20) (N := some 86) (v := ?_) (a' := ?_) #[true, true, true, true, true, true, true, true, true, true, true, true, true, true, true, true, true, true, true, true, true, false, false, false, false, false, false, false, false, false, false, false, false, false, false, false, false, false, false, false, false] rfl rfl (any_of HT_.out (by kernel_rfl)) (fun _ _ _ h => h) (Or.inl ⟨by rfl, ?_⟩) ?_ ?_
       rotate_left
       ·intro w'
        go_simp
        with_reducible rfl
       rotate_left
       ·simp only [Act.put, List.setIfInBounds_toArray, List.set_cons_zero, List.set_cons_succ, i64_w, i32_w]
        rfl
       refine pure_ (i := 21) (N := some 87) (v := ?_) (a' := ?_) #[true, true, true, true, true, true, true, true, true, true, true, true, true, true, true, true, true, true, true, true, true, true, false, false, false, false, false, false, false, false, false, false, false, false, false, false, false, false, false, false, false] rfl rfl (any_of HT_.out (by kernel_rfl)) (fun _ _ _ h => h) (Or.inl ⟨by rfl, ?_⟩) ?_ ?_
       rotate_left
       ·intro w'
        go_simp
        with_reducible rfl
       rotate_left
       ·simp only [Act.put, List.setIfInBounds_toArray, List.set_cons_zero, List.set_cons_succ, i64_w, i32_w]
        rfl
       refine pure_ (i := 22) (N := some 88) (v := ?_) (a' := ?_) #[true, true, true, true, true, true, true, true, true, true, true, true, true, true, true, true, true, true, true, true, true, true, true, false, false, false, false, false, false, false, false, false, false, false, false, false, false, false, false, false, false] rfl rfl (any_of HT_.out (by kernel_rfl)) (fun _ _ _ h => h) (Or.inl ⟨by rfl, ?_⟩) ?_ ?_
       rotate_left
       ·intro w'
        go_simp
        with_reducible rfl
       rotate_left
       ·simp only [Act.put, List.setIfInBounds_toArray, List.set_cons_zero, List.set_cons_succ, i64_w, i32_w]
        rfl
       refine pure_ (i := 23) (N := some 89) (v := ?_) (a' := ?_) #[true, true, true, true, true, true, true, true, true, true, true, true, true, true, true, true, true, true, true, true, true, true, true, true, false, false, false, false, false, false, false, false, false, false, false, false, false, false, false, false, false] rfl rfl (any_of HT_.out (by kernel_rfl)) (fun _ _ _ h => h) (Or.inl ⟨by rfl, ?_⟩) ?_ ?_
       rotate_left
       ·intro w'
        go_simp
        with_reducible rfl
       rotate_left
       ·simp only [Act.put, List.setIfInBounds_toArray, List.set_cons_zero, List.set_cons_succ, i64_w, i32_w]
        rfl
       refine pure_ (i := 24) (N := some 90) (v := ?_) (a' := ?_) #[true, true, true, true, true, true, true, true, true, true, true, true, true, true, true, true, true, true, true, true, true, true, true, true, true, false, false, false, false, false, false, false, false, false, false, false, false, false, false, false, false] rfl rfl (any_of HT_.out (by kernel_rfl)) (fun _ _ _ h => h) (Or.inl ⟨by rfl, ?_⟩) ?_ ?_
       rotate_left
       ·intro w'
        go_simp
        with_reducible rfl
       rotate_left
       ·simp only [Act.put, List.setIfInBounds_toArray, List.set_cons_zero, List.set_cons_succ, i64_w, i32_w]
        rfl
       refine pure_ (i := 27) (N := some 93) (v := ?_) (a' := ?_) #[true, true, true, true, true, true, true, true, true, true, true, true, true, true, true, true, true, true, true, true, true, true, true, true, true, false, false, true, false, false, false, false, false, false, false, false, false, false, false, false, false] rfl rfl (any_of HT_.out (by kernel_rfl)) (fun _ _ _ h => h) (Or.inl ⟨by rfl, ?_⟩) ?_ ?_
       rotate_left
       ·intro w'
        go_simp
        with_reducible rfl
       rotate_left
       ·simp only [Act.put, List.setIfInBounds_toArray, List.set_cons_zero, List.set_cons_succ, i64_w, i32_w]
        rfl
       refine pure_ (i := 30) (N := some 96) (v := ?_) (a' := ?_) #[true, true, true, true, true, true, true, true, true, true, true, true, true, true, true, true, true, true, true, true, true, true, true, true, true, false, false, true, false, false, true, false, false, false, false, false, false, false, false, false, false] rfl rfl (any_of HT_.out (by kernel_rfl)) (fun _ _ _ h => h) (Or.inl ⟨by rfl, ?_⟩) ?_ ?_
       rotate_left
       ·intro w'
        go_simp
        with_reducible rfl
       rotate_left
       ·simp only [Act.put, List.setIfInBounds_toArray, List.set_cons_zero, List.set_cons_succ, i64_w, i32_w]
        rfl
       refine pure_ (i := 31) (N := some 97) (v := ?_) (a' := ?_) #[true, true, true, true, true, true, true, true, true, true, true, true, true, true, true, true, true, true, true, true, true, true, true, true, true, false, false, true, false, false, true, true, false, false, false, false, false, false, false, false, false] rfl rfl (any_of HT_.out (by kernel_rfl)) (fun _ _ _ h => h) (Or.inl ⟨by rfl, ?_⟩) ?_ ?_
       rotate_left
       ·intro w'
        go_simp
        with_reducible rfl
       rotate_left
       ·simp only [Act.put, List.setIfInBounds_toArray, List.set_cons_zero, List.set_cons_succ, i64_w, i32_w]
        rfl
       refine pure_ (i := 34) (N := some 100) (v := ?_) (a' := ?_) #[true, true, true, true, true, true, true, true, true, true, true, true, true, true, true, true, true, true, true, true, true, true, true, true, true, false, false, true, false, false, true, true, false, false, true, false, false, false, false, false, false] rfl rfl (any_of HT_.out (by kernel_rfl)) (fun _ _ _ h => h) (Or.inl ⟨by rfl, ?_⟩) ?_ ?_
       rotate_left
       ·intro w'
        go_simp
        with_reducible rfl
       rotate_left
       ·simp only [Act.put, List.setIfInBounds_toArray, List.set_cons_zero, List.set_cons_succ, i64_w, i32_w]
        rfl
       refine pure_ (i := 25) (N := some 91) (v := ?_) (a' := ?_) #[true, true, true, true, true, true, true, true, true, true, true, true, true, true, true, true, true, true, true, true, true, true, true, true, true, true, false, true, false, false, true, true, false, false, true, false, false, false, false, false, false] rfl rfl (any_of HT_.out (by kernel_rfl)) (fun _ _ _ h => h) (Or.inl ⟨by rfl, ?_⟩) ?_ ?_
       rotate_left
       ·intro w'
        go_simp
        with_reducible rfl
       rotate_left
       ·simp only [Act.put, List.setIfInBounds_toArray, List.set_cons_zero, List.set_cons_succ, i64_w, i32_w]
        rfl
       refine pure_ (i := 32) (N := some 98) (v := ?_) (a' := ?_) #[true, true, true, true, true, true, true, true, true, true, true, true, true, true, true, true, true, true, true, true, true, true, true, true, true, true, false, true, false, false, true, true, true, false, true, false, false, false, false, false, false] rfl rfl (any_of HT_.out (by kernel_rfl)) (fun _ _ _ h => h) (Or.inl ⟨by rfl, ?_⟩) ?_ ?_
       rotate_left
       ·intro w'
        go_simp
        with_reducible rfl
       rotate_left
       ·simp only [Act.put, List.setIfInBounds_toArray, List.set_cons_zero, List.set_cons_succ, i64_w, i32_w]
        rfl
       refine pure_ (i := 35) (N := some 101) (v := ?_) (a' := ?_) #[true, true, true, true, true, true, true, true, true, true, true, true, true, true, true, true, true, true, true, true, true, true, true, true, true, true, false, true, false, false, true, true, true, false, true, true, false, false, false, false, false] rfl rfl (any_of HT_.out (by kernel_rfl)) (fun _ _ _ h => h) (Or.inl ⟨by rfl, ?_⟩) ?_ ?_
       rotate_left
       ·intro w'
        go_simp
        with_reducible rfl
       rotate_left
       ·simp only [Act.put, List.setIfInBounds_toArray, List.set_cons_zero, List.set_cons_succ, i64_w, i32_w]
        rfl
       refine take_ (i := 26) (N := some 92) (v := ?_) (a' := ?_) #[true, true, true, true, true, true, true, true, true, true, true, true, true, true, true, true, true, true, true, true, true, true, true, true, true, true, true, true, false, false, true, true, true, false, true, true, false, false, false, false, false] rfl rfl (take_ofW HT_.out HW_.out (by kernel_rfl)) (fun _ _ _ h => h) (Or.inl ⟨by rfl, ?_⟩) hHeld ?_ ?_
       rotate_left
       ·rintro w' ⟨s0, s1, s2⟩
        go_simp
        with_reducible rfl
       rotate_left
       ·simp only [Act.put, List.setIfInBounds_toArray, List.set_cons_zero, List.set_cons_succ, i64_w, i32_w]
        rfl
       refine pure_ (i := 28) (N := some 94) (v := ?_) (a' := ?_) #[true, true, true, true, true, true, true, true, true, true, true, true, true, true, true, true, true, true, true, true, true, true, true, true, true, true, true, true, true, false, true, true, true, false, true, true, false, false, false, false, false] rfl rfl (any_of HT_.out (by kernel_rfl)) (fun _ _ _ h => h) (Or.inl ⟨by rfl, ?_⟩) ?_ ?_
       rotate_left
       ·intro w'
        go_simp
        with_reducible rfl
       rotate_left
       ·simp only [Act.put, List.setIfInBounds_toArray, List.set_cons_zero, List.set_cons_succ, i64_w, i32_w]
        rfl
       refine take_ (i := 29) (N := some 95) (v := ?_) (a' := ?_) #[true, true, true, true, true, true, true, true, true, true, true, true, true, true, true, true, true, true, true, true, true, true, true, true, true, true, true, true, true, true, true, true, true, false, true, true, false, false, false, false, false] rfl rfl (take_ofW HT_.out HW_.out (by kernel_rfl)) (fun _ _ _ h => h) (Or.inl ⟨by rfl, ?_⟩) hHeld ?_ ?_
       rotate_left
       ·rintro w' ⟨s0, s1, s2⟩
        go_simp
        with_reducible rfl
       rotate_left
       ·simp only [Act.put, List.setIfInBounds_toArray, List.set_cons_zero, List.set_cons_succ, i64_w, i32_w]
        rfl
       refine take_ (i := 33) (N := some 99) (v := ?_) (a' := ?_) #[true, true, true, true, true, true, true, true, true, true, true, true, true, true, true, true, true, true, true, true, true, true, true, true, true, true, true, true, true, true, true, true, true, true, true, true, false, false, false, false, false] rfl rfl (take_ofW HT_.out HW_.out (by kernel_rfl)) (fun _ _ _ h => h) (Or.inl ⟨by rfl, ?_⟩) hHeld ?_ ?_
       rotate_left
       ·rintro w' ⟨s0, s1, s2⟩
        go_simp
        with_reducible rfl
       rotate_left
       ·simp only [Act.put, List.setIfInBounds_toArray, List.set_cons_zero, List.set_cons_succ, i64_w, i32_w]
        rfl
       refine pure_ (i := 36) (N := some 102) (v := ?_) (a' := ?_) #[true, true, true, true, true, true, true, true, true, true, true, true, true, true, true, true, true, true, true, true, true, true, true, true, true, true, true, true, true, true, true, true, true, true, true, true, true, false, false, false, false] rfl rfl (any_of HT_.out (by kernel_rfl)) (fun _ _ _ h => h) (Or.inl ⟨by rfl, ?_⟩) ?_ ?_
       rotate_left
       ·intro w'
        go_simp
        with_reducible rfl
       rotate_left
       ·simp only [Act.put, List.setIfInBounds_toArray, List.set_cons_zero, List.set_cons_succ, i64_w, i32_w]
        rfl
       refine take_ (i := 37) (N := some 103) (v := ?_) (a' := ?_) #[true, true, true, true, true, true, true, true, true, true, true, true, true, true, true, true, true, true, true, true, true, true, true, true, true, true, true, true, true, true, true, true, true, true, true, true, true, true, false, false, false] rfl rfl (take_ofW HT_.out HW_.out (by kernel_rfl)) (fun _ _ _ h => h) (Or.inl ⟨by rfl, ?_⟩) hHeld ?_ ?_
       rotate_left
       ·rintro w' ⟨s0, s1, s2⟩
        go_simp
        with_reducible rfl
       rotate_left
       ·simp only [Act.put, List.setIfInBounds_toArray, List.set_cons_zero, List.set_cons_succ, i64_w, i32_w]
        rfl
       refine pure_ (i := 38) (N := some 104) (v := ?_) (a' := ?_) #[true, true, true, true, true, true, true, true, true, true, true, true, true, true, true, true, true, true, true, true, true, true, true, true, true, true, true, true, true, true, true, true, true, true, true, true, true, true, true, false, false] rfl rfl (any_of HT_.out (by kernel_rfl)) (fun _ _ _ h => h) (Or.inl ⟨by rfl, ?_⟩) ?_ ?_
       rotate_left
       ·intro w'
        go_simp
        with_reducible rfl
       rotate_left
       ·simp only [Act.put, List.setIfInBounds_toArray, List.set_cons_zero, List.set_cons_succ, i64_w, i32_w]
        rfl
       refine pure_ (i := 39) (N := some 105) (v := ?_) (a' := ?_) #[true, true, true, true, true, true, true, true, true, true, true, true, true, true, true, true, true, true, true, true, true, true, true, true, true, true, true, true, true, true, true, true, true, true, true, true, true, true, true, true, false] rfl rfl (any_of HT_.out (by kernel_rfl)) (fun _ _ _ h => h) (Or.inl ⟨by rfl, ?_⟩) ?_ ?_
       rotate_left
       ·intro w'
        go_simp
        with_reducible rfl
       rotate_left
       ·simp only [Act.put, List.setIfInBounds_toArray, List.set_cons_zero, List.set_cons_succ, i64_w, i32_w]
        rfl
       refine pure_ (i := 40) (N := some 106) (v := ?_) (a' := ?_) #[true, true, true, true, true, true, true, true, true, true, true, true, true, true, true, true, true, true, true, true, true, true, true, true, true, true, true, true, true, true, true, true, true, true, true, true, true, true, true, true, true] rfl rfl (any_of HT_.out (by kernel_rfl)) (fun _ _ _ h => h) (Or.inl ⟨by rfl, ?_⟩) ?_ ?_
       rotate_left
       ·intro w'
        go_simp
        with_reducible rfl
       rotate_left
       ·simp only [Act.put, List.setIfInBounds_toArray, List.set_cons_zero, List.set_cons_succ, i64_w, i32_w]
        rfl
       refine done_ (done_of HT_.out (by kernel_rfl)) ?_
       refine NoPanic.normal ?_
       clear HT_ HW_ hHeld
       go_wp2_with fail
       go_roundg (gk - 1)
       case measure => have := HQ2.out; omega
       case rel => exact ⟨z + 1, by first | rfl | rw [HWZ.out], ⟨by have := HZ.out; omega, by have := HZ.out; have := HQ2.out; omega⟩, HL'⟩
    case pos =>
    have f1 : ¬ (i : Int) < (al.length : Int) := by have := HK.out; omega
    have f2 : decide ((i : Int) < (al.length : Int)) = false := decide_eq_false f1
    have f3 : ¬ i < al.length := by omega
    clear q0
    go_upto_region 18 with fail
    clear f1 f2 f3
    have HA := Aside0.mk (HA7.out.later HL.out)
    have HN := Aside0.mk (blk_below HN7.out HL.out)
    have HB := Aside0.mk (HB7.out.trans (HL.out.mono HB7.out.size))
    clear HA7 HN7 HB7 HR8 HL
    obtain ⟨F4, hsb⟩ := sign_build x HQE.out 3 (.inl rfl)
    have HCK := Aside0.mk (show ∀ k, k = 3 ∨ k = 4 → cnt ⟨k, 0, [x]⟩ ≤ 1000000 from fun k hk => by rw [cnt, if_neg (by omega), cntL, cntL]; have := HCM.out; omega)
    have HPB := Aside0.mk (show follow_Build.f 4 0 [x] = some (r.1, r.2.1, r.2.2.1, r.2.2.2.1, F4, 0) by unfold follow_Build.f; rw [if_pos (HCK.out 4 (.inr rfl)), hsb 4 (.inr rfl), ← HRX.out]; simp)
    have HSB := Aside0.mk (show follow_Build.f 3 0 [x] = some (true, r.2.1, r.2.2.1, r.2.2.2.1, F4, 0) by unfold follow_Build.f; rw [if_pos (HCK.out 3 (.inl rfl)), hsb 3 (.inl rfl), ← HRX.out]; simp)
    have HAP := Aside0.mk (show Auto (r.1, r.2.1, r.2.2.1, r.2.2.2.1, F4, (0 : Int)) by have h := (build_auto ⟨4, 0, [x]⟩ (by rw [hsb 4 (.inr rfl)])).1; rw [hsb 4 (.inr rfl), ← HRX.out] at h; simpa using h)
    obtain ⟨KS1, hKS1⟩ := sameInts_f r.2.2.1 (by have := HAU.out.first.len; have := HAU.out.m; omega)
    have HK1 := Aside0.mk (hKS1 KS1 (Nat.le_refl _))
    obtain ⟨KS2, hKS2⟩ := sameInts_f r.2.2.2.1 (by have := HAU.out.last.len; have := HAU.out.m; omega)
    have HK2 := Aside0.mk (hKS2 KS2 (Nat.le_refl _))
    obtain ⟨KS3, hKS3⟩ := same_f r.1 r.2.1 r.2.2.1 r.2.2.2.1 F4 (by have := HAU.out.m; omega) (by have := HAU.out.first.len; have := HAU.out.m; omega) (by have := HAU.out.last.len; have := HAU.out.m; omega) (by have h1 := HAP.out.len; have := HAU.out.m; have h2 : F4.length = r.2.1.length := h1; omega) (fun l hl => by have h1 := (HAP.out.fol l hl).len; have := HAU.out.m; have h2 : l.length ≤ r.2.1.length := h1; omega)
    have HK3 := Aside0.mk (hKS3 KS3 (Nat.le_refl _))
    have HWN := Aside0.mk (whole_nil x r HRR.out HTL.out)
    clear hsb hKS1 hKS2 hKS3 HCK
    have hbq := below_alloc (Below.refl wr.heap.size wr) (.cells #[.int .i64 x.f0, .int .i64 x.f1, .slice A x.f2.length c] 24)
    have HBx := Aside0.mk (HB.out.trans (hbq.mono HB.out.size))
    have HNx := Aside0.mk (blk_below HN.out hbq)
    have HKD := Aside0.mk (one_any (blk_new wr (.cells #[.int .i64 x.f0, .int .i64 x.f1, .slice A x.f2.length c] 24)) HCC.out (Kd.C_below HC.out HBx.out))
    have HAx := Aside0.mk (HA.out.later hbq)
    have n0 := (blk_cell HN.out 0).trans rfl
    have n1 := (blk_cell HN.out 1).trans rfl
    have n2 := (blk_cell HN.out 2).trans rfl
    clear hbq HB HA
    obtain ⟨KB, hKB⟩ : ∃ n, wr.heap.size = n := ⟨_, rfl⟩
    obtain ⟨W10, hW10⟩ : ∃ w, wr.alloc (.cells #[.int .i64 x.f0, .int .i64 x.f1, .slice A x.f2.length c] 24) = w := ⟨_, rfl⟩
    rw [hW10, hKB] at HKD
    rw [hW10] at HBx HNx HAx
    go_upto_region 19 with (go_at_call 18; refine (follow_Build.calls 4 0 (some ⟨KB, 0, none⟩) 1 [x] r.1 r.2.1 r.2.2.1 r.2.2.2.1 F4 0 W10 HKD.out (by simp) HPB.out).mono ?_; rintro e W11 ⟨u1, u2, u3, u4, rfl, ho1, ho2, ho3, ho4, hb⟩; have HBy := Aside0.mk (HBx.out.trans (hb.mono HBx.out.size)); have HNy := Aside0.mk (blk_below HNx.out hb); have HAx' := Aside0.mk (HAx.out.later hb); obtain ⟨A11, c11, rfl⟩ := Kd.R_slice ho1; obtain ⟨A12, c12, rfl⟩ := Kd.R_slice ho2; obtain ⟨A13, c13, rfl⟩ := Kd.R_slice ho3; obtain ⟨A14, c14, rfl⟩ := Kd.R_slice ho4; have HO1 := Aside0.mk (Kd.R_lower ho1 HBx.out.size); have HO2 := Aside0.mk (Kd.R_lower ho2 HBx.out.size); have HO3 := Aside0.mk (Kd.R_lower ho3 HBx.out.size); have HO4 := Aside0.mk (Kd.R_lower ho4 HBx.out.size); clear ho1 ho2 ho3 ho4 hb n0 n1 n2)
    clear HBx HNx HAx
    have hbn := below_alloc (Below.refl W11.heap.size W11) (.cells #[.bool r.1, .slice A11 r.2.1.length c11, .slice A12 r.2.2.1.length c12, .slice A13 r.2.2.2.1.length c13, .slice A14 F4.length c14] 30)
    have HAB2 := Aside0.mk (show AutoC W.heap.size W11.heap.size (r.1, r.2.1, r.2.2.1, r.2.2.2.1, F4, (0 : Int)) (.slice A11 r.2.1.length c11) (.slice A12 r.2.2.1.length c12) (.slice A13 r.2.2.2.1.length c13) (.slice A14 F4.length c14) (W11.alloc (.cells #[.bool r.1, .slice A11 r.2.1.length c11, .slice A12 r.2.2.1.length c12, .slice A13 r.2.2.2.1.length c13, .slice A14 F4.length c14] 30)) from ⟨blk_new _ _, Kd.R_below HO1.out hbn, Kd.R_below HO2.out hbn, Kd.R_below HO3.out hbn, Kd.R_below HO4.out hbn⟩)
    have HBn := Aside0.mk (HBy.out.trans (hbn.mono HBy.out.size))
    have HNBn := Aside0.mk (blk_below HNy.out hbn)
    have HAx := Aside0.mk (HAx'.out.later hbn)
    clear HAx'
    clear hbn HO1 HO2 HO3 HO4 HBy HNy
    obtain ⟨B2, hB2⟩ : ∃ n, W11.heap.size = n := ⟨_, rfl⟩
    obtain ⟨W12, hW12⟩ : ∃ w, W11.alloc (.cells #[.bool r.1, .slice A11 r.2.1.length c11, .slice A12 r.2.2.1.length c12, .slice A13 r.2.2.2.1.length c13, .slice A14 F4.length c14] 30) = w := ⟨_, rfl⟩
    rw [hB2, hW12] at HAB2
    rw [hW12] at HBn HNBn HAx
    rw [hW12]
    rw [hB2]
    clear hB2 hW12
    have HBy := Aside0.mk HBn.out
    have HNy := Aside0.mk HNBn.out
    clear HBn HNBn
    clear hW10 hKB HKD
    clear HN
    have hbq := below_alloc (Below.refl W12.heap.size W12) (.cells #[.int .i64 x.f0, .int .i64 x.f1, .slice A x.f2.length c] 24)
    have HBz := Aside0.mk (HBy.out.trans (hbq.mono HBy.out.size))
    have HNz := Aside0.mk (blk_below HNy.out hbq)
    have HKD := Aside0.mk (one_any (blk_new W12 (.cells #[.int .i64 x.f0, .int .i64 x.f1, .slice A x.f2.length c] 24)) HCC.out (Kd.C_below HC.out HBz.out))
    have HAxx := Aside0.mk (HAx.out.later hbq)
    have HAB2x := Aside0.mk (HAB2.out.later hbq)
    have n0 := (blk_cell HNy.out 0).trans rfl
    have n1 := (blk_cell HNy.out 1).trans rfl
    have n2 := (blk_cell HNy.out 2).trans rfl
    clear hbq HBy HAx HAB2
    obtain ⟨KC, hKC⟩ : ∃ n, W12.heap.size = n := ⟨_, rfl⟩
    obtain ⟨W13, hW13⟩ : ∃ w, W12.alloc (.cells #[.int .i64 x.f0, .int .i64 x.f1, .slice A x.f2.length c] 24) = w := ⟨_, rfl⟩
    rw [hW13, hKC] at HKD
    rw [hW13] at HBz HNz HAxx HAB2x
    go_upto_region 20 with (go_at_call 18; refine (follow_Build.calls 3 0 (some ⟨KC, 0, none⟩) 1 [x] true r.2.1 r.2.2.1 r.2.2.2.1 F4 0 W13 HKD.out (by simp) HSB.out).mono ?_; rintro e W14 ⟨u1, u2, u3, u4, rfl, ho1, ho2, ho3, ho4, hb⟩; have HBw := Aside0.mk (HBz.out.trans (hb.mono HBz.out.size)); have HNw := Aside0.mk (blk_below HNz.out hb); have HAxx' := Aside0.mk (HAxx.out.later hb); have HAB2x' := Aside0.mk (HAB2x.out.later hb); obtain ⟨A21, c21, rfl⟩ := Kd.R_slice ho1; obtain ⟨A22, c22, rfl⟩ := Kd.R_slice ho2; obtain ⟨A23, c23, rfl⟩ := Kd.R_slice ho3; obtain ⟨A24, c24, rfl⟩ := Kd.R_slice ho4; have HO1 := Aside0.mk (Kd.R_lower ho1 HBz.out.size); have HO2 := Aside0.mk (Kd.R_lower ho2 HBz.out.size); have HO3 := Aside0.mk (Kd.R_lower ho3 HBz.out.size); have HO4 := Aside0.mk (Kd.R_lower ho4 HBz.out.size); clear ho1 ho2 ho3 ho4 hb n0 n1 n2)
    clear HBz HNz HAxx HAB2x
    have HLT1 := Aside0.mk (blk_lt HAxx'.out.blk)
    have HLT2 := Aside0.mk (blk_lt HAB2x'.out.blk)
    have HLT3 := Aside0.mk (show W.heap.size ≤ W14.heap.size from HBw.out.size)
    have hbn := below_alloc (Below.refl W14.heap.size W14) (.cells #[.bool true, .slice A21 r.2.1.length c21, .slice A22 r.2.2.1.length c22, .slice A23 r.2.2.2.1.length c23, .slice A24 F4.length c24] 30)
    have HAB3 := Aside0.mk (show AutoC W.heap.size W14.heap.size (true, r.2.1, r.2.2.1, r.2.2.2.1, F4, (0 : Int)) (.slice A21 r.2.1.length c21) (.slice A22 r.2.2.1.length c22) (.slice A23 r.2.2.2.1.length c23) (.slice A24 F4.length c24) (W14.alloc (.cells #[.bool true, .slice A21 r.2.1.length c21, .slice A22 r.2.2.1.length c22, .slice A23 r.2.2.2.1.length c23, .slice A24 F4.length c24] 30)) from ⟨blk_new _ _, Kd.R_below HO1.out hbn, Kd.R_below HO2.out hbn, Kd.R_below HO3.out hbn, Kd.R_below HO4.out hbn⟩)
    have HBn := Aside0.mk (HBw.out.trans (hbn.mono HBw.out.size))
    have HNBn := Aside0.mk (blk_below HNw.out hbn)
    have HAxx := Aside0.mk (HAxx'.out.later hbn)
    clear HAxx'
    have HAB2x := Aside0.mk (HAB2x'.out.later hbn)
    clear HAB2x'
    clear hbn HO1 HO2 HO3 HO4 HBw HNw
    obtain ⟨B3, hB3⟩ : ∃ n, W14.heap.size = n := ⟨_, rfl⟩
    obtain ⟨W15, hW15⟩ : ∃ w, W14.alloc (.cells #[.bool true, .slice A21 r.2.1.length c21, .slice A22 r.2.2.1.length c22, .slice A23 r.2.2.2.1.length c23, .slice A24 F4.length c24] 30) = w := ⟨_, rfl⟩
    rw [hB3, hW15] at HAB3
    rw [hB3] at HLT1 HLT2 HLT3
    rw [hW15] at HBn HNBn HAxx HAB2x
    rw [hW15]
    rw [hB3]
    clear hB3 hW15
    have HBw := Aside0.mk HBn.out
    have HNw := Aside0.mk HNBn.out
    clear HBn HNBn
    clear hW13 hKC HKD
    clear HNy
    have HA := Aside0.mk HAxx.out
    have HP := Aside0.mk HAB2x.out
    have HS := Aside0.mk HAB3.out
    have HN := Aside0.mk HNw.out
    have HB := Aside0.mk HBw.out
    clear HAxx HAB2x HAB3 HNw HBw
    have fl : ((r.2.2.2.2.1.length : Int) != (r.2.1.length : Int)) = false := bne_eq_false_iff_eq.2 (by have := HAU.out.len; omega)
    have fr : (r.1 != r.1) = false := by cases r.1 <;> rfl
    have fl2 : r.2.2.2.2.1.length = r.2.1.length := HAU.out.len
    have hbd := below_drew (Below.refl W15.heap.size W15)
    have HBq := Aside0.mk (HB.out.trans (hbd.mono HB.out.size))
    have HAq := Aside0.mk (HA.out.later hbd)
    have HPq := Aside0.mk (HP.out.later hbd)
    have HSq := Aside0.mk (HS.out.later hbd)
    have HNq := Aside0.mk (blk_below HN.out hbd)
    clear hbd
    clear HB HA HP HS HN
    have HB := Aside0.mk HBq.out
    have HA := Aside0.mk HAq.out
    have HP := Aside0.mk HPq.out
    have HS := Aside0.mk HSq.out
    have HN := Aside0.mk HNq.out
    clear HBq HAq HPq HSq HNq
    refine wp_region_noPanic ?_
    refine start_ (n := 32) (S := fun w' => w'.cell? ⟨B1, 0, none⟩ = some (.bool r.1) ∧ w'.cell? ⟨B1, 4, none⟩ = some (.slice A4 r.2.2.2.2.1.length c4) ∧ w'.cell? ⟨B2, 0, none⟩ = some (.bool r.1) ∧ w'.cell? ⟨B3, 0, none⟩ = some (.bool true) ∧ w'.cell? ⟨NB, 0, none⟩ = some (.int .i64 x.f0) ∧ w'.cell? ⟨NB, 1, none⟩ = some (.int .i64 x.f1) ∧ w'.cell? ⟨NB, 2, none⟩ = some (.slice A x.f2.length c)) (ds := []) #[false, false, false, false, false, false, false, false, false, false, false, false, false, false, false, false, false, false, false, false, false, false, false, false, false, false, false, false, false, false, false, false] (by kernel_rfl) rfl rfl ⟨HA.out.cells.1, HA.out.cells.2.2.2.2, HP.out.cells.1, HS.out.cells.1, (blk_cell HN.out 0).trans rfl, (blk_cell HN.out 1).trans rfl, (blk_cell HN.out 2).trans rfl⟩ (fun hHeld => ?_); refine with_tabW fpn_tab20 fpn_bits20 (fun HT_ HW_ => ?_)
    obtain ⟨W16, hW16⟩ : ∃ w, W15.drew = w := ⟨_, rfl⟩
    rw [hW16] at HB HA HP HS HN hHeld ⊢
    clear hW16
    refine pure_ (i := 0) (N := some 121) (v := ?_) (a' := ?_) #[true, false, false, false, false, false, false, false, false, false, false, false, false, false, false, false, false, false, false, false, false, false, false, false, false, false, false, false, false, false, false, false] rfl rfl (any_of HT_.out (by kernel_rfl)) (fun _ _ _ h => h) (Or.inl ⟨by rfl, ?_⟩) ?_ ?_
    rotate_left
    ·intro w'
     go_simp
     with_reducible rfl
    rotate_left
    ·simp only [Act.put, List.setIfInBounds_toArray, List.set_cons_zero, List.set_cons_succ, i64_w, i32_w]
     rfl
    refine pure_ (i := 1) (N := some 122) (v := ?_) (a' := ?_) #[true, true, false, false, false, false, false, false, false, false, false, false, false, false, false, false, false, false, false, false, false, false, false, false, false, false, false, false, false, false, false, false] rfl rfl (any_of HT_.out (by kernel_rfl)) (fun _ _ _ h => h) (Or.inl ⟨by rfl, ?_⟩) ?_ ?_
    rotate_left
    ·intro w'
     go_simp
     with_reducible rfl
    rotate_left
    ·simp only [Act.put, List.setIfInBounds_toArray, List.set_cons_zero, List.set_cons_succ, i64_w, i32_w]
     rfl
    refine pure_ (i := 2) (N := some 123) (v := ?_) (a' := ?_) #[true, true, true, false, false, false, false, false, false, false, false, false, false, false, false, false, false, false, false, false, false, false, false, false, false, false, false, false, false, false, false, false] rfl rfl (any_of HT_.out (by kernel_rfl)) (fun _ _ _ h => h) (Or.inl ⟨by rfl, ?_⟩) ?_ ?_
    rotate_left
    ·intro w'
     go_simp
     with_reducible rfl
    rotate_left
    ·simp only [Act.put, List.setIfInBounds_toArray, List.set_cons_zero, List.set_cons_succ, i64_w, i32_w]
     rfl
    refine pure_ (i := 3) (N := some 124) (v := ?_) (a' := ?_) #[true, true, true, true, false, false, false, false, false, false, false, false, false, false, false, false, false, false, false, false, false, false, false, false, false, false, false, false, false, false, false, false] rfl rfl (any_of HT_.out (by kernel_rfl)) (fun _ _ _ h => h) (Or.inl ⟨by rfl, ?_⟩) ?_ ?_
    rotate_left
    ·intro w'
     go_simp
     with_reducible rfl
    rotate_left
    ·simp only [Act.put, List.setIfInBounds_toArray, List.set_cons_zero, List.set_cons_succ, i64_w, i32_w]
     rfl
    refine pure_ (i := 4) (N := some 125) (v := ?_) (a' := ?_) #[true, true, true, true, true, false, false, false, false, false, false, false, false, false, false, false, false, false, false, false, false, false, false, false, false, false, false, false, false, false, false, false] rfl rfl (any_of HT_.out (by kernel_rfl)) (fun _ _ _ h => h) (Or.inl ⟨by rfl, ?_⟩) ?_ ?_
    rotate_left
    ·intro w'
     go_simp
     with_reducible rfl
    rotate_left
    ·simp only [Act.put, List.setIfInBounds_toArray, List.set_cons_zero, List.set_cons_succ, i64_w, i32_w]
     rfl
    refine pure_ (i := 5) (N := some 126) (v := ?_) (a' := ?_) #[true, true, true, true, true, true, false, false, false, false, false, false, false, false, false, false, false, false, false, false, false, false, false, false, false, false, false, false, false, false, false, false] rfl rfl (any_of HT_.out (by kernel_rfl)) (fun _ _ _ h => h) (Or.inl ⟨by rfl, ?_⟩) ?_ ?_
    rotate_left
    ·intro w'
     go_simp
     with_reducible rfl
    rotate_left
    ·simp only [Act.put, List.setIfInBounds_toArray, List.set_cons_zero, List.set_cons_succ, i64_w, i32_w]
     rfl
    refine pure_ (i := 6) (N := some 127) (v := ?_) (a' := ?_) #[true, true, true, true, true, true, true, false, false, false, false, false, false, false, false, false, false, false, false, false, false, false, false, false, false, false, false, false, false, false, false, false] rfl rfl (any_of HT_.out (by kernel_rfl)) (fun _ _ _ h => h) (Or.inl ⟨by rfl, ?_⟩) ?_ ?_
    rotate_left
    ·intro w'
     go_simp
     with_reducible rfl
    rotate_left
    ·simp only [Act.put, List.setIfInBounds_toArray, List.set_cons_zero, List.set_cons_succ, i64_w, i32_w]
     rfl
    refine pure_ (i := 7) (N := some 128) (v := ?_) (a' := ?_) #[true, true, true, true, true, true, true, true, false, false, false, false, false, false, false, false, false, false, false, false, false, false, false, false, false, false, false, false, false, false, false, false] rfl rfl (any_of HT_.out (by kernel_rfl)) (fun _ _ _ h => h) (Or.inl ⟨by rfl, ?_⟩) ?_ ?_
    rotate_left
    ·intro w'
     go_simp
     with_reducible rfl
    rotate_left
    ·simp only [Act.put, List.setIfInBounds_toArray, List.set_cons_zero, List.set_cons_succ, i64_w, i32_w]
     rfl
    refine pure_ (i := 10) (N := some 131) (v := ?_) (a' := ?_) #[true, true, true, true, true, true, true, true, false, false, true, false, false, false, false, false, false, false, false, false, false, false, false, false, false, false, false, false, false, false, false, false] rfl rfl (any_of HT_.out (by kernel_rfl)) (fun _ _ _ h => h) (Or.inl ⟨by rfl, ?_⟩) ?_ ?_
    rotate_left
    ·intro w'
     go_simp
     with_reducible rfl
    rotate_left
    ·simp only [Act.put, List.setIfInBounds_toArray, List.set_cons_zero, List.set_cons_succ, i64_w, i32_w]
     rfl
    refine take_ (i := 8) (N := some 129) (v := ?_) (a' := ?_) #[true, true, true, true, true, true, true, true, true, false, true, false, false, false, false, false, false, false, false, false, false, false, false, false, false, false, false, false, false, false, false, false] rfl rfl (take_ofW HT_.out HW_.out (by kernel_rfl)) (fun _ _ _ h => h) (Or.inl ⟨by rfl, ?_⟩) hHeld ?_ ?_
    rotate_left
    ·rintro w' ⟨s0, s1, s2, s3, s4, s5, s6⟩
     go_simp
     with_reducible rfl
    rotate_left
    ·simp only [Act.put, List.setIfInBounds_toArray, List.set_cons_zero, List.set_cons_succ, i64_w, i32_w]
     rfl
    refine pure_ (i := 9) (N := some 130) (v := ?_) (a' := ?_) #[true, true, true, true, true, true, true, true, true, true, true, false, false, false, false, false, false, false, false, false, false, false, false, false, false, false, false, false, false, false, false, false] rfl rfl (any_of HT_.out (by kernel_rfl)) (fun _ _ _ h => h) (Or.inl ⟨by rfl, ?_⟩) ?_ ?_
    rotate_left
    ·intro w'
     go_simp
     with_reducible rfl
    rotate_left
    ·simp only [Act.put, List.setIfInBounds_toArray, List.set_cons_zero, List.set_cons_succ, i64_w, i32_w]
     rfl
    refine pure_ (i := 11) (N := some 132) (v := ?_) (a' := ?_) #[true, true, true, true, true, true, true, true, true, true, true, true, false, false, false, false, false, false, false, false, false, false, false, false, false, false, false, false, false, false, false, false] rfl rfl (any_of HT_.out (by kernel_rfl)) (fun _ _ _ h => h) (Or.inl ⟨by rfl, ?_⟩) ?_ ?_
    rotate_left
    ·intro w'
     go_simp
     with_reducible rfl
    rotate_left
    ·simp only [Act.put, List.setIfInBounds_toArray, List.set_cons_zero, List.set_cons_succ, i64_w, i32_w]
     rfl
    refine pure_ (i := 12) (N := some 133) (v := ?_) (a' := ?_) #[true, true, true, true, true, true, true, true, true, true, true, true, true, false, false, false, false, false, false, false, false, false, false, false, false, false, false, false, false, false, false, false] rfl rfl (any_of HT_.out (by kernel_rfl)) (fun _ _ _ h => h) (Or.inl ⟨by rfl, ?_⟩) ?_ ?_
    rotate_left
    ·intro w'
     go_simp
     with_reducible rfl
    rotate_left
    ·simp only [Act.put, List.setIfInBounds_toArray, List.set_cons_zero, List.set_cons_succ, i64_w, i32_w]
     rfl
    refine pure_ (i := 13) (N := some 134) (v := ?_) (a' := ?_) #[true, true, true, true, true, true, true, true, true, true, true, true, true, true, false, false, false, false, false, false, false, false, false, false, false, false, false, false, false, false, false, false] rfl rfl (any_of HT_.out (by kernel_rfl)) (fun _ _ _ h => h) (Or.inl ⟨by rfl, ?_⟩) ?_ ?_
    rotate_left
    ·intro w'
     go_simp
     with_reducible rfl
    rotate_left
    ·simp only [Act.put, List.setIfInBounds_toArray, List.set_cons_zero, List.set_cons_succ, i64_w, i32_w]
     rfl
    refine pure_ (i := 14) (N := some 135) (v := ?_) (a' := ?_) #[true, true, true, true, true, true, true, true, true, true, true, true, true, true, true, false, false, false, false, false, false, false, false, false, false, false, false, false, false, false, false, false] rfl rfl (any_of HT_.out (by kernel_rfl)) (fun _ _ _ h => h) (Or.inl ⟨by rfl, ?_⟩) ?_ ?_
    rotate_left
    ·intro w'
     go_simp
     with_reducible rfl
    rotate_left
    ·simp only [Act.put, List.setIfInBounds_toArray, List.set_cons_zero, List.set_cons_succ, i64_w, i32_w]
     rfl
    refine take_ (i := 15) (N := some 136) (v := ?_) (a' := ?_) #[true, true, true, true, true, true, true, true, true, true, true, true, true, true, true, true, false, false, false, false, false, false, false, false, false, false, false, false, false, false, false, false] rfl rfl (take_ofW HT_.out HW_.out (by kernel_rfl)) (fun _ _ _ h => h) (Or.inl ⟨by rfl, ?_⟩) hHeld ?_ ?_
    rotate_left
    ·rintro w' ⟨s0, s1, s2, s3, s4, s5, s6⟩
     go_simp
     with_reducible rfl
    rotate_left
    ·simp only [Act.put, List.setIfInBounds_toArray, List.set_cons_zero, List.set_cons_succ, i64_w, i32_w]
     rfl
    refine take_ (i := 16) (N := some 137) (v := ?_) (a' := ?_) #[true, true, true, true, true, true, true, true, true, true, true, true, true, true, true, true, true, false, false, false, false, false, false, false, false, false, false, false, false, false, false, false] rfl rfl (take_ofW HT_.out HW_.out (by kernel_rfl)) (fun _ _ _ h => h) (Or.inl ⟨by rfl, ?_⟩) hHeld ?_ ?_
    rotate_left
    ·rintro w' ⟨s0, s1, s2, s3, s4, s5, s6⟩
     go_simp
     with_reducible rfl
    rotate_left
    ·simp only [Act.put, List.setIfInBounds_toArray, List.set_cons_zero, List.set_cons_succ, i64_w, i32_w]
     rfl
    refine one_ (i := 17) (N := some 138) #[true, true, true, true, true, true, true, true, true, true, true, true, true, true, true, true, true, true, false, false, false, false, false, false, false, false, false, false, false, false, false, false] rfl rfl (one_of HT_.out (by kernel_rfl)) (by decide) (fun K hK => ?_)
    refine goes_ Try.func22 (by kernel_rfl) rfl #[.agg #[.int .i64 x.f0, .int .i64 x.f1, .slice A x.f2.length c], .slice none 0 0] (by rfl) rfl rfl (by (try simp only [List.map_toArray, List.map_cons, List.map_nil]); first | done | rfl) ?_
    refine (whole_calls x W16 A c none 0 [] (Kd.C_below HC.out HB.out) HCC.out ⟨rfl, by simp, fun h => absurd h (Nat.lt_irrefl 0)⟩ (Nat.le_refl 0) (by simp) r.1 HWN.out).mono ?_
    rintro e_ W17 ⟨rfl, hb⟩
    have HBq := Aside0.mk (HB.out.trans (hb.mono HB.out.size))
    have HAq := Aside0.mk (HA.out.later hb)
    have HPq := Aside0.mk (HP.out.later hb)
    have HSq := Aside0.mk (HS.out.later hb)
    have HNq := Aside0.mk (blk_below HN.out hb)
    clear hb
    refine ⟨_, rfl, ?_⟩
    refine hK.out _ _ ⟨HAq.out.cells.1, HAq.out.cells.2.2.2.2, HPq.out.cells.1, HSq.out.cells.1, (blk_cell HNq.out 0).trans rfl, (blk_cell HNq.out 1).trans rfl, (blk_cell HNq.out 2).trans rfl⟩ (fun hHeld => ?_)
    clear HB HA HP HS HN
    have HB := Aside0.mk HBq.out
    have HA := Aside0.mk HAq.out
    have HP := Aside0.mk HPq.out
    have HS := Aside0.mk HSq.out
    have HN := Aside0.mk HNq.out
    clear HBq HAq HPq HSq HNq
    clear hK K
    refine norm_ (a' := ?_) ?_ ?_
    rotate_left
    ·show Act.put _ (some 138) _ = _
     simp only [Act.put, List.setIfInBounds_toArray, List.set_cons_zero, List.set_cons_succ, i64_w, i32_w]
     rfl
    refine pure_ (i := 18) (N := some 139) (v := ?_) (a' := ?_) #[true, true, true, true, true, true, true, true, true, true, true, true, true, true, true, true, true, true, true, false, false, false, false, false, false, false, false, false, false, false, false, false] rfl rfl (any_of HT_.out (by kernel_rfl)) (fun _ _ _ h => h) (Or.inl ⟨by rfl, ?_⟩) ?_ ?_
    rotate_left
    ·intro w'
     go_simp
     with_reducible rfl
    rotate_left
    ·simp only [Act.put, List.setIfInBounds_toArray, List.set_cons_zero, List.set_cons_succ, i64_w, i32_w]
     rfl
    refine pure_ (i := 19) (N := some 140) (v := ?_) (a' := ?_) #[true, true, true, true, true, true, true, true, true, true, true, true, true, true, true, true, true, true, true, true, false, false, false, false, false, false, false, false, false, false, false, false] rfl rfl (any_of HT_.out (by kernel_rfl)) (fun _ _ _ h => h) (Or.inl ⟨by rfl, ?_⟩) ?_ ?_
    rotate_left
    ·intro w'
     go_simp
     with_reducible rfl
    rotate_left
    ·simp only [Act.put, List.setIfInBounds_toArray, List.set_cons_zero, List.set_cons_succ, i64_w, i32_w]
     rfl
    refine pure_ (i := 20) (N := some 141) (v := ?_) (a' := ?_) #[true, true, true, true, true, true, true, true, true, true, true, true, true, true, true, true, true, true, true, true, true, false, false, false, false, false, false, false, false, false, false, false] rfl rfl (any_of HT_.out (by kernel_rfl)) (fun _ _ _ h => h) (Or.inl ⟨by rfl, ?_⟩) ?_ ?_
    rotate_left
    ·intro w'
     go_simp
     with_reducible rfl
    rotate_left
    ·simp only [Act.put, List.setIfInBounds_toArray, List.set_cons_zero, List.set_cons_succ, i64_w, i32_w]
     rfl
    refine pure_ (i := 21) (N := some 142) (v := ?_) (a' := ?_) #[true, true, true, true, true, true, true, true, true, true, true, true, true, true, true, true, true, true, true, true, true, true, false, false, false, false, false, false, false, false, false, false] rfl rfl (any_of HT_.out (by kernel_rfl)) (fun _ _ _ h => h) (Or.inl ⟨by rfl, ?_⟩) ?_ ?_
    rotate_left
    ·intro w'
     go_simp
     with_reducible rfl
    rotate_left
    ·simp only [Act.put, List.setIfInBounds_toArray, List.set_cons_zero, List.set_cons_succ, i64_w, i32_w]
     rfl
    refine take_ (i := 22) (N := some 143) (v := ?_) (a' := ?_) #[true, true, true, true, true, true, true, true, true, true, true, true, true, true, true, true, true, true, true, true, true, true, true, false, false, false, false, false, false, false, false, false] rfl rfl (take_ofW HT_.out HW_.out (by kernel_rfl)) (fun _ _ _ h => h) (Or.inl ⟨by rfl, ?_⟩) hHeld ?_ ?_
    rotate_left
    ·rintro w' ⟨s0, s1, s2, s3, s4, s5, s6⟩
     go_simp
     with_reducible rfl
    rotate_left
    ·simp only [Act.put, List.setIfInBounds_toArray, List.set_cons_zero, List.set_cons_succ, i64_w, i32_w]
     rfl
    refine pure_ (i := 23) (N := some 144) (v := ?_) (a' := ?_) #[true, true, true, true, true, true, true, true, true, true, true, true, true, true, true, true, true, true, true, true, true, true, true, true, false, false, false, false, false, false, false, false] rfl rfl (any_of HT_.out (by kernel_rfl)) (fun _ _ _ h => h) (Or.inl ⟨by rfl, ?_⟩) ?_ ?_
    rotate_left
    ·intro w'
     go_simp
     with_reducible rfl
    rotate_left
    ·simp only [Act.put, List.setIfInBounds_toArray, List.set_cons_zero, List.set_cons_succ, i64_w, i32_w]
     rfl
    refine pure_ (i := 24) (N := some 145) (v := ?_) (a' := ?_) #[true, true, true, true, true, true, true, true, true, true, true, true, true, true, true, true, true, true, true, true, true, true, true, true, true, false, false, false, false, false, false, false] rfl rfl (any_of HT_.out (by kernel_rfl)) (fun _ _ _ h => h) (Or.inl ⟨by rfl, ?_⟩) ?_ ?_
    rotate_left
    ·intro w'
     go_simp
     with_reducible rfl
    rotate_left
    ·simp only [Act.put, List.setIfInBounds_toArray, List.set_cons_zero, List.set_cons_succ, i64_w, i32_w]
     rfl
    refine pure_ (i := 25) (N := some 146) (v := ?_) (a' := ?_) #[true, true, true, true, true, true, true, true, true, true, true, true, true, true, true, true, true, true, true, true, true, true, true, true, true, true, false, false, false, false, false, false] rfl rfl (any_of HT_.out (by kernel_rfl)) (fun _ _ _ h => h) (Or.inl ⟨by rfl, ?_⟩) ?_ ?_
    rotate_left
    ·intro w'
     go_simp
     with_reducible rfl
    rotate_left
    ·simp only [Act.put, List.setIfInBounds_toArray, List.set_cons_zero, List.set_cons_succ, i64_w, i32_w]
     rfl
    refine pure_ (i := 26) (N := some 147) (v := ?_) (a' := ?_) #[true, true, true, true, true, true, true, true, true, true, true, true, true, true, true, true, true, true, true, true, true, true, true, true, true, true, true, false, false, false, false, false] rfl rfl (any_of HT_.out (by kernel_rfl)) (fun _ _ _ h => h) (Or.inl ⟨by rfl, ?_⟩) ?_ ?_
    rotate_left
    ·intro w'
     go_simp
     with_reducible rfl
    rotate_left
    ·simp only [Act.put, List.setIfInBounds_toArray, List.set_cons_zero, List.set_cons_succ, i64_w, i32_w]
     rfl
    refine pure_ (i := 28) (N := some 149) (v := ?_) (a' := ?_) #[true, true, true, true, true, true, true, true, true, true, true, true, true, true, true, true, true, true, true, true, true, true, true, true, true, true, true, false, true, false, false, false] rfl rfl (any_of HT_.out (by kernel_rfl)) (fun _ _ _ h => h) (Or.inl ⟨by rfl, ?_⟩) ?_ ?_
    rotate_left
    ·intro w'
     go_simp
     with_reducible rfl
    rotate_left
    ·simp only [Act.put, List.setIfInBounds_toArray, List.set_cons_zero, List.set_cons_succ, i64_w, i32_w]
     rfl
    refine take_ (i := 27) (N := some 148) (v := ?_) (a' := ?_) #[true, true, true, true, true, true, true, true, true, true, true, true, true, true, true, true, true, true, true, true, true, true, true, true, true, true, true, true, true, false, false, false] rfl rfl (take_ofW HT_.out HW_.out (by kernel_rfl)) (fun _ _ _ h => h) (Or.inl ⟨by rfl, ?_⟩) hHeld ?_ ?_
    rotate_left
    ·rintro w' ⟨s0, s1, s2, s3, s4, s5, s6⟩
     go_simp
     with_reducible rfl
    rotate_left
    ·simp only [Act.put, List.setIfInBounds_toArray, List.set_cons_zero, List.set_cons_succ, i64_w, i32_w]
     rfl
    refine take_ (i := 29) (N := some 150) (v := ?_) (a' := ?_) #[true, true, true, true, true, true, true, true, true, true, true, true, true, true, true, true, true, true, true, true, true, true, true, true, true, true, true, true, true, true, false, false] rfl rfl (take_ofW HT_.out HW_.out (by kernel_rfl)) (fun _ _ _ h => h) (Or.inl ⟨by rfl, ?_⟩) hHeld ?_ ?_
    rotate_left
    ·rintro w' ⟨s0, s1, s2, s3, s4, s5, s6⟩
     go_simp
     with_reducible rfl
    rotate_left
    ·simp only [Act.put, List.setIfInBounds_toArray, List.set_cons_zero, List.set_cons_succ, i64_w, i32_w]
     rfl
    refine pure_ (i := 30) (N := some 151) (v := ?_) (a' := ?_) #[true, true, true, true, true, true, true, true, true, true, true, true, true, true, true, true, true, true, true, true, true, true, true, true, true, true, true, true, true, true, true, false] rfl rfl (any_of HT_.out (by kernel_rfl)) (fun _ _ _ h => h) (Or.inl ⟨by rfl, ?_⟩) ?_ ?_
    rotate_left
    ·intro w'
     go_simp
     with_reducible rfl
    rotate_left
    ·simp only [Act.put, List.setIfInBounds_toArray, List.set_cons_zero, List.set_cons_succ, i64_w, i32_w]
     rfl
    refine pure_ (i := 31) (N := some 152) (v := ?_) (a' := ?_) #[true, true, true, true, true, true, true, true, true, true, true, true, true, true, true, true, true, true, true, true, true, true, true, true, true, true, true, true, true, true, true, true] rfl rfl (any_of HT_.out (by kernel_rfl)) (fun _ _ _ h => h) (Or.inl ⟨by rfl, ?_⟩) ?_ ?_
    rotate_left
    ·intro w'
     go_simp
     with_reducible rfl
    rotate_left
    ·simp only [Act.put, List.setIfInBounds_toArray, List.set_cons_zero, List.set_cons_succ, i64_w, i32_w]
     rfl
    refine done_ (done_of HT_.out (by kernel_rfl)) ?_
    refine NoPanic.normal ?_
    clear HT_ HW_ hHeld
    have z0 : W17.cell? ⟨B2, 0, none⟩ = some (.bool r.1) := HP.out.cells.1
    have y0 : W17.cell? ⟨B3, 0, none⟩ = some (.bool true) := HS.out.cells.1
    have y1 := blk_frozen HS.out.blk 0
    go_upto_region 23 with ((with_reducible refine gate_store (t := 4) (p := 155) rfl ?_); refine store_event (t := 4) (p := 155) (v := ?vo) (w1 := (W17.setCell ⟨B3, 0, none⟩ (.bool r.1))) ?hg ?ho ?hn ?hr ?_; (case ho => rfl); (case hg => rfl); (case hn => rfl); (case hr => first | (go_simp; done) | (go_simp; rfl)); intro W18 hw; have HWS := Aside0.mk hw; clear hw z0 y0 y1)
    have HB' := Aside0.mk (show Below W.heap.size W W18 by rw [HWS.out]; exact below_set HB.out HLT3.out)
    have HA' := Aside0.mk (by rw [HWS.out]; exact HA.out.put HS.out.blk (by have := HLT1.out; omega) 0 (.bool r.1) : AutoC W.heap.size B1 r (.slice A1 r.2.1.length c1) (.slice A2 r.2.2.1.length c2) (.slice A3 r.2.2.2.1.length c3) (.slice A4 r.2.2.2.2.1.length c4) W18)
    have HP' := Aside0.mk (by rw [HWS.out]; exact HP.out.put HS.out.blk (by have := HLT2.out; omega) 0 (.bool r.1) : AutoC W.heap.size B2 (r.1, r.2.1, r.2.2.1, r.2.2.2.1, F4, (0 : Int)) (.slice A11 r.2.1.length c11) (.slice A12 r.2.2.1.length c12) (.slice A13 r.2.2.2.1.length c13) (.slice A14 F4.length c14) W18)
    have HS' := Aside0.mk (by rw [HWS.out]; exact HS.out.own r.1 : AutoC W.heap.size B3 (r.1, r.2.1, r.2.2.1, r.2.2.2.1, F4, (0 : Int)) (.slice A21 r.2.1.length c21) (.slice A22 r.2.2.1.length c22) (.slice A23 r.2.2.2.1.length c23) (.slice A24 F4.length c24) W18)
    clear HB HA HP HS HN HWS
    have HB := Aside0.mk HB'.out
    have HA := Aside0.mk HA'.out
    have HP := Aside0.mk HP'.out
    have HS := Aside0.mk HS'.out
    clear HB' HA' HP' HS'
    have za0 : W18.cell? ⟨B1, 0, none⟩ = some (.bool r.1) := HA.out.cells.1
    have za1 : W18.cell? ⟨B1, 1, none⟩ = some (.slice A1 r.2.1.length c1) := HA.out.cells.2.1
    have za2 : W18.cell? ⟨B1, 2, none⟩ = some (.slice A2 r.2.2.1.length c2) := HA.out.cells.2.2.1
    have za3 : W18.cell? ⟨B1, 3, none⟩ = some (.slice A3 r.2.2.2.1.length c3) := HA.out.cells.2.2.2.1
    have za4 : W18.cell? ⟨B1, 4, none⟩ = some (.slice A4 r.2.2.2.2.1.length c4) := HA.out.cells.2.2.2.2
    have zp0 : W18.cell? ⟨B2, 0, none⟩ = some (.bool r.1) := HP.out.cells.1
    have zp1 : W18.cell? ⟨B2, 1, none⟩ = some (.slice A11 r.2.1.length c11) := HP.out.cells.2.1
    have zp2 : W18.cell? ⟨B2, 2, none⟩ = some (.slice A12 r.2.2.1.length c12) := HP.out.cells.2.2.1
    have zp3 : W18.cell? ⟨B2, 3, none⟩ = some (.slice A13 r.2.2.2.1.length c13) := HP.out.cells.2.2.2.1
    have zp4 : W18.cell? ⟨B2, 4, none⟩ = some (.slice A14 F4.length c14) := HP.out.cells.2.2.2.2
    have zs0 : W18.cell? ⟨B3, 0, none⟩ = some (.bool r.1) := HS.out.cells.1
    have zs1 : W18.cell? ⟨B3, 1, none⟩ = some (.slice A21 r.2.1.length c21) := HS.out.cells.2.1
    have zs2 : W18.cell? ⟨B3, 2, none⟩ = some (.slice A22 r.2.2.1.length c22) := HS.out.cells.2.2.1
    have zs3 : W18.cell? ⟨B3, 3, none⟩ = some (.slice A23 r.2.2.2.1.length c23) := HS.out.cells.2.2.2.1
    have zs4 : W18.cell? ⟨B3, 4, none⟩ = some (.slice A24 F4.length c24) := HS.out.cells.2.2.2.2
    go_upto_region 24 with (go_at_call 23; refine (scansionref01_SameInts.calls KS1 A12 c12 r.2.2.1 A2 c2 r.2.2.1 true W18 (Kd.R_reads' HP.out.r2).2.2 (Kd.R_reads' HP.out.r2).2.1 (Kd.R_reads' HA.out.r2).2.2 (Kd.R_reads' HA.out.r2).2.1 HK1.out).mono ?_; rintro e W19 ⟨rfl, hdr⟩; have hb := hdr.below; clear hdr; have HBq := Aside0.mk (HB.out.trans (hb.mono HB.out.size)); have HAq := Aside0.mk (HA.out.later hb); have HPq := Aside0.mk (HP.out.later hb); have HSq := Aside0.mk (HS.out.later hb); clear hb; clear za0 za1 za2 za3 za4 zp0 zp1 zp2 zp3 zp4 zs0 zs1 zs2 zs3 zs4)
    clear HB HA HP HS
    have HB := Aside0.mk HBq.out
    have HA := Aside0.mk HAq.out
    have HP := Aside0.mk HPq.out
    have HS := Aside0.mk HSq.out
    clear HBq HAq HPq HSq
    have za0 : W19.cell? ⟨B1, 0, none⟩ = some (.bool r.1) := HA.out.cells.1
    have za1 : W19.cell? ⟨B1, 1, none⟩ = some (.slice A1 r.2.1.length c1) := HA.out.cells.2.1
    have za2 : W19.cell? ⟨B1, 2, none⟩ = some (.slice A2 r.2.2.1.length c2) := HA.out.cells.2.2.1
    have za3 : W19.cell? ⟨B1, 3, none⟩ = some (.slice A3 r.2.2.2.1.length c3) := HA.out.cells.2.2.2.1
    have za4 : W19.cell? ⟨B1, 4, none⟩ = some (.slice A4 r.2.2.2.2.1.length c4) := HA.out.cells.2.2.2.2
    have zp0 : W19.cell? ⟨B2, 0, none⟩ = some (.bool r.1) := HP.out.cells.1
    have zp1 : W19.cell? ⟨B2, 1, none⟩ = some (.slice A11 r.2.1.length c11) := HP.out.cells.2.1
    have zp2 : W19.cell? ⟨B2, 2, none⟩ = some (.slice A12 r.2.2.1.length c12) := HP.out.cells.2.2.1
    have zp3 : W19.cell? ⟨B2, 3, none⟩ = some (.slice A13 r.2.2.2.1.length c13) := HP.out.cells.2.2.2.1
    have zp4 : W19.cell? ⟨B2, 4, none⟩ = some (.slice A14 F4.length c14) := HP.out.cells.2.2.2.2
    have zs0 : W19.cell? ⟨B3, 0, none⟩ = some (.bool r.1) := HS.out.cells.1
    have zs1 : W19.cell? ⟨B3, 1, none⟩ = some (.slice A21 r.2.1.length c21) := HS.out.cells.2.1
    have zs2 : W19.cell? ⟨B3, 2, none⟩ = some (.slice A22 r.2.2.1.length c22) := HS.out.cells.2.2.1
    have zs3 : W19.cell? ⟨B3, 3, none⟩ = some (.slice A23 r.2.2.2.1.length c23) := HS.out.cells.2.2.2.1
    have zs4 : W19.cell? ⟨B3, 4, none⟩ = some (.slice A24 F4.length c24) := HS.out.cells.2.2.2.2
    go_upto_region 25 with (go_at_call 23; refine (scansionref01_SameInts.calls KS2 A13 c13 r.2.2.2.1 A3 c3 r.2.2.2.1 true W19 (Kd.R_reads' HP.out.r3).2.2 (Kd.R_reads' HP.out.r3).2.1 (Kd.R_reads' HA.out.r3).2.2 (Kd.R_reads' HA.out.r3).2.1 HK2.out).mono ?_; rintro e W20 ⟨rfl, hdr⟩; have hb := hdr.below; clear hdr; have HBq := Aside0.mk (HB.out.trans (hb.mono HB.out.size)); have HAq := Aside0.mk (HA.out.later hb); have HPq := Aside0.mk (HP.out.later hb); have HSq := Aside0.mk (HS.out.later hb); clear hb; clear za0 za1 za2 za3 za4 zp0 zp1 zp2 zp3 zp4 zs0 zs1 zs2 zs3 zs4)
    clear HB HA HP HS
    have HB := Aside0.mk HBq.out
    have HA := Aside0.mk HAq.out
    have HP := Aside0.mk HPq.out
    have HS := Aside0.mk HSq.out
    clear HBq HAq HPq HSq
    have za0 : W20.cell? ⟨B1, 0, none⟩ = some (.bool r.1) := HA.out.cells.1
    have za1 : W20.cell? ⟨B1, 1, none⟩ = some (.slice A1 r.2.1.length c1) := HA.out.cells.2.1
    have za2 : W20.cell? ⟨B1, 2, none⟩ = some (.slice A2 r.2.2.1.length c2) := HA.out.cells.2.2.1
    have za3 : W20.cell? ⟨B1, 3, none⟩ = some (.slice A3 r.2.2.2.1.length c3) := HA.out.cells.2.2.2.1
    have za4 : W20.cell? ⟨B1, 4, none⟩ = some (.slice A4 r.2.2.2.2.1.length c4) := HA.out.cells.2.2.2.2
    have zp0 : W20.cell? ⟨B2, 0, none⟩ = some (.bool r.1) := HP.out.cells.1
    have zp1 : W20.cell? ⟨B2, 1, none⟩ = some (.slice A11 r.2.1.length c11) := HP.out.cells.2.1
    have zp2 : W20.cell? ⟨B2, 2, none⟩ = some (.slice A12 r.2.2.1.length c12) := HP.out.cells.2.2.1
    have zp3 : W20.cell? ⟨B2, 3, none⟩ = some (.slice A13 r.2.2.2.1.length c13) := HP.out.cells.2.2.2.1
    have zp4 : W20.cell? ⟨B2, 4, none⟩ = some (.slice A14 F4.length c14) := HP.out.cells.2.2.2.2
    have zs0 : W20.cell? ⟨B3, 0, none⟩ = some (.bool r.1) := HS.out.cells.1
    have zs1 : W20.cell? ⟨B3, 1, none⟩ = some (.slice A21 r.2.1.length c21) := HS.out.cells.2.1
    have zs2 : W20.cell? ⟨B3, 2, none⟩ = some (.slice A22 r.2.2.1.length c22) := HS.out.cells.2.2.1
    have zs3 : W20.cell? ⟨B3, 3, none⟩ = some (.slice A23 r.2.2.2.1.length c23) := HS.out.cells.2.2.2.1
    have zs4 : W20.cell? ⟨B3, 4, none⟩ = some (.slice A24 F4.length c24) := HS.out.cells.2.2.2.2
    go_wp2_with (go_at_call 20; refine (scansionref11_Same.calls KS3 r.1 A11 c11 r.2.1 A12 c12 r.2.2.1 A13 c13 r.2.2.2.1 A14 c14 F4 r.1 A21 c21 r.2.1 A22 c22 r.2.2.1 A23 c23 r.2.2.2.1 A24 c24 F4 true W20 (Kd.R_reads' HP.out.r1).2.2 (Kd.R_reads' HP.out.r1).2.1 (Kd.R_reads' HP.out.r2).2.2 (Kd.R_reads' HP.out.r2).2.1 (Kd.R_reads' HP.out.r3).2.2 (Kd.R_reads' HP.out.r3).2.1 (Kd.R_reads' HP.out.r4).2.2 (Kd.R_reads' HP.out.r4).2.1 (Kd.R_reads' HS.out.r1).2.2 (Kd.R_reads' HS.out.r1).2.1 (Kd.R_reads' HS.out.r2).2.2 (Kd.R_reads' HS.out.r2).2.1 (Kd.R_reads' HS.out.r3).2.2 (Kd.R_reads' HS.out.r3).2.1 (Kd.R_reads' HS.out.r4).2.2 (Kd.R_reads' HS.out.r4).2.1 HK3.out).mono ?_; rintro e W21 ⟨rfl, hb⟩; have HB21 := Aside0.mk (HB.out.trans (hb.mono HB.out.size)); clear hb)
    go_ret
    exact ⟨by simp, HB21.out⟩
end Go.Proofs.Ytemlgmkbonpniaa.Print
