/- thai.Parts: the walk. -/
import Derived.Test.YtfmnbebkeefboaaParts
namespace Go.Proofs.Ytfmnbebkeefboaa.Print
open Go.RowKit Go.Maps Go.Proofs.YtfmnbebkeefboaaW.PrintWords Go.Proofs.YtfmnbebkeefboaaW.PrintLast Go.Proofs.YtfmnbebkeefboaaW.PrintMore
set_option linter.unusedVariables false
set_option linter.unusedSimpArgs false

/-- The one place leads further, or as far and lies further. -/
def Gt (T : Int → List Int) (a b : Int) : Prop := reachT T 2 b < reachT T 2 a ∨ reachT T 2 a = reachT T 2 b ∧ b < a
theorem better_pos (T : Int → List Int) (a b : Int) : 0 < betterF T a b ↔ Gt T a b := by
  unfold betterF orI Gt Lib.compareInt
  generalize reachT T 2 a = x
  generalize reachT T 2 b = y
  by_cases h1 : x < y
  · rw [if_pos h1, if_neg (by omega)]; omega
  · rw [if_neg h1]
    by_cases h2 : x > y
    · rw [if_pos h2, if_neg (by omega)]; omega
    · rw [if_neg h2, if_pos rfl]
      by_cases h3 : a < b
      · rw [if_pos h3]; omega
      · rw [if_neg h3]
        by_cases h4 : a > b
        · rw [if_pos h4]; omega
        · rw [if_neg h4]; omega
theorem pickM_is (T : Int → List Int) : ∀ (xs : List Int) (m : Int), pickM T m xs ∈ m :: xs ∧ ∀ t ∈ m :: xs, ¬ Gt T t (pickM T m xs)
  | [], m => by
    rw [pickM]
    refine ⟨List.mem_cons_self .., fun t ht => ?_⟩
    rw [List.mem_singleton] at ht
    subst ht
    unfold Gt
    omega
  | t :: r, m => by
    rw [pickM]
    by_cases q : Gt T t m
    · rw [if_pos ((better_pos T t m).2 q)]
      obtain ⟨h1, h2⟩ := pickM_is T r t
      refine ⟨List.mem_cons_of_mem _ h1, fun u hu => ?_⟩
      rcases List.mem_cons.1 hu with rfl | hu
      · have h3 := h2 t (List.mem_cons_self ..)
        unfold Gt at q h3 ⊢
        omega
      · exact h2 u hu
    · rw [if_neg (fun h => q ((better_pos T t m).1 h))]
      obtain ⟨h1, h2⟩ := pickM_is T r m
      refine ⟨?_, fun u hu => ?_⟩
      · rcases List.mem_cons.1 h1 with h | h
        · rw [h]; exact List.mem_cons_self ..
        · exact List.mem_cons_of_mem _ (List.mem_cons_of_mem _ h)
      · rcases List.mem_cons.1 hu with rfl | hu
        · exact h2 _ (List.mem_cons_self ..)
        · rcases List.mem_cons.1 hu with rfl | hu
          · have h3 := h2 m (List.mem_cons_self ..)
            unfold Gt at q h3 ⊢
            omega
          · exact h2 u (List.mem_cons_of_mem _ hu)
/-- The best of all: it is one alone. -/
structure IsBest (T : Int → List Int) (xs : List Int) (b : Int) : Prop where
  mem : b ∈ xs
  top : ∀ t ∈ xs, ¬ Gt T t b
theorem IsBest.one {T : Int → List Int} {xs ys : List Int} {b b' : Int} (h : IsBest T xs b) (h' : IsBest T ys b') (e : ∀ t, t ∈ xs ↔ t ∈ ys) : b = b' := by
  have h1 := h.top b' ((e b').2 h'.mem)
  have h2 := h'.top b ((e b).1 h.mem)
  unfold Gt at h1 h2
  omega
def bestT (T : Int → List Int) (a : Int) : Int := match T a with
  | [] => a
  | t :: r => pickM T t r
theorem bestT_is {T : Int → List Int} {a : Int} (h : T a ≠ []) : IsBest T (T a) (bestT T a) := by
  unfold bestT
  cases q : T a with
  | nil => exact absurd q h
  | cons t r => exact ⟨(pickM_is T r t).1, (pickM_is T r t).2⟩
theorem pick_best {T : Int → List Int} {a m : Int} {xs : List Int} (h : ∀ t, t ∈ m :: xs ↔ t ∈ T a) : pickM T m xs = bestT T a := by
  have hn : T a ≠ [] := fun e => by have := (h m).1 (List.mem_cons_self ..); rw [e] at this; cases this
  exact IsBest.one (T := T) (xs := m :: xs) (ys := T a) ⟨(pickM_is T xs m).1, (pickM_is T xs m).2⟩ (bestT_is hn) h
/-- The next place at which a word begins, or the end. -/
def skipT (T : Int → List Int) (n : Int) : Nat → Int → Int
  | 0, a => a
  | f + 1, a => if a < n ∧ T a = [] then skipT T n f (a + 1) else a
def nextP (T : Int → List Int) (n a : Int) : Int := if T a = [] then skipT T n (n - a).toNat (a + 1) else bestT T a
def partsL (T : Int → List Int) (n : Int) : Nat → Int → List Int
  | 0, _ => []
  | f + 1, a => if a < n then nextP T n a :: partsL T n f (nextP T n a) else []
/-- What Parts answers. -/
def partsR (n : Int) (l : List S31) : List Int × Int := if okT n l then (0 :: partsL (toL l) n n.toNat 0, 0) else ([], 1)
/-- Words lead forward, within the run. -/
def Fwd (T : Int → List Int) (n : Int) : Prop := ∀ a t, t ∈ T a → 0 ≤ a ∧ a < t ∧ t ≤ n
theorem okT_fwd {n : Int} {l : List S31} (h : okT n l = true) : Fwd (toL l) n := fun a t ht => by
  unfold okT at h
  rw [Bool.and_eq_true] at h
  unfold toL at ht
  obtain ⟨x, hx, rfl⟩ := List.mem_map.1 ht
  obtain ⟨hx1, hx2⟩ := List.mem_filter.1 hx
  have := spanOk_is (List.all_eq_true.1 h.2 x hx1)
  have := of_decide_eq_true hx2
  omega
theorem skipT_in (T : Int → List Int) (n : Int) : ∀ (f : Nat) (a : Int), a ≤ n → a ≤ skipT T n f a ∧ skipT T n f a ≤ n
  | 0, a, h => ⟨Int.le_refl _, h⟩
  | f + 1, a, h => by
    rw [skipT]
    by_cases q : a < n ∧ T a = []
    · rw [if_pos q]
      have := skipT_in T n f (a + 1) (by omega)
      omega
    · rw [if_neg q]; omega
theorem nextP_in {T : Int → List Int} {n a : Int} (hF : Fwd T n) (ha : a < n) : a < nextP T n a ∧ nextP T n a ≤ n := by
  unfold nextP
  by_cases q : T a = []
  · rw [if_pos q]
    have := skipT_in T n (n - a).toNat (a + 1) (by omega)
    omega
  · rw [if_neg q]
    have := hF a _ (bestT_is q).mem
    omega
theorem R_one {W : World} {base : Nat} (x : Int) (h : base ≤ W.heap.size) : Kd.R (Kd.int .i64) 3 (W.alloc (.cells #[.int .i64 x] 3)) base (fun _ => True) (.slice (some ⟨W.heap.size, 0, none⟩) 1 1) [x] := by
  refine ⟨fun _ _ => trivial, [.int .i64 x], ?_, ?_⟩
  · have h2 := World.ownsRow_lit (base := base) (e := 3) (size := (Kd.int .i64).sz) W #[.int .i64 x] 1 h (by decide) rfl
    simpa using h2
  · exact Reps.one (show Kd.M (Kd.int .i64) _ _ _ x [.int .i64 x] from rfl) (Reps.none _ _)
theorem below_lift {W W2 w' : World} (h1 : Below W.heap.size W W2) (h2 : Below W2.heap.size W2 w') : Below W.heap.size W w' := below_step h1 h2
set_option maxHeartbeats 16000000 in
set_option maxRecDepth 100000 in
theorem thaiParts_calls (n : Int) (A : Option Addr) (c : Nat) (l : List S31) (W : World) (hr : Kd.C k31 W A l.length l) :
    Calls Try.prog 11 #[.int .i64 n, .slice A l.length c] W fun e w' => ∃ v, e = .returned (.tuple #[v, .int .i64 (partsR n l).2]) ∧ Kd.R (Kd.int .i64) 3 w' W.heap.size (fun _ => True) v (partsR n l).1 ∧ Below W.heap.size W w' := by
  have HE := Aside0.mk (ends_calls n A c l W hr)
  clear hr
  obtain ⟨r, hr⟩ : ∃ r, partsR n l = r := ⟨_, rfl⟩
  rw [hr]
  have HR := Aside0.mk hr
  clear hr
  go_enter Try.func11, Try.ntmps11
  go_wp2_with fail
  refine HE.out.mono ?_
  rintro e W1 ⟨hb, ⟨ho, rfl⟩ | ⟨ho, MB, rfl, hi⟩⟩
  · have HB := Aside0.mk (below_alloc hb (.cells #[.map none] 37))
    have HF := Aside0.mk (show r = ([], 1) by rw [← HR.out]; unfold partsR; rw [ho]; rfl)
    clear hb ho
    go_wp2_with fail
    go_ret2
    rw [HF.out]
    exact ⟨_, rfl, Kd.R_nil _ _ _ _ _, HB.out⟩
  · have HFW := Aside0.mk (okT_fwd ho)
    have HIN := Aside0.mk (okT_in ho)
    obtain ⟨T, hT⟩ : ∃ T, toL l = T := ⟨_, rfl⟩
    have HF := Aside0.mk (show r = (0 :: partsL T n n.toNat 0, 0) by rw [← HR.out]; unfold partsR; rw [ho, hT]; rfl)
    rw [hT] at HFW HIN hi
    have HB2 := Aside0.mk (below_alloc hb (.cells #[.map (some MB)] 37))
    have HI2 := Aside0.mk (hi.later (below_alloc (Below.refl W1.heap.size W1) (.cells #[.map (some MB)] 37)))
    have HP2 := Aside0.mk (blk_new W1 (.cells #[.map (some MB)] 37))
    clear hb ho hi hT HR
    have hsz : (W1.alloc (.cells #[.map (some MB)] 37)).heap.size = W1.heap.size + 1 := by simp
    have HSZ := Aside0.mk hsz
    clear hsz
    go_wp2_with fail
    obtain ⟨PB, hPB⟩ : ∃ x, W1.heap.size = x := ⟨_, rfl⟩
    rw [hPB] at HP2 HSZ ⊢
    clear hPB
    generalize W1.alloc (.cells #[.map (some MB)] 37) = W2 at *
    rw [← HSZ.out]
    have HB3 := Aside0.mk (below_alloc (Below.refl W2.heap.size W2) (.cells #[.int .i64 0] 3))
    have HO3 := Aside0.mk (R_one (W := W2) (base := W2.heap.size) 0 (Nat.le_refl _))
    generalize W2.alloc (.cells #[.int .i64 0] 3) = W3 at *
    go_loopg [9, 10] n.toNat (fun kq v9 v10 w' => ∃ (a : Int) (out : List Int), v10 = .int .i64 a ∧ Aside0 (0 ≤ a ∧ a ≤ n ∧ n - a ≤ kq) ∧ Aside0 (out ++ partsL T n kq a = 0 :: partsL T n n.toNat 0) ∧ Aside0 (out.length ≤ a + 1) ∧ Aside0 (Kd.R (Kd.int .i64) 3 w' W2.heap.size (fun _ => True) v9 out) ∧ Aside0 (Below W2.heap.size W2 w'))
    case atStart => exact ⟨0, [0], rfl, ⟨by have := HIN.out; omega⟩, ⟨rfl⟩, ⟨by simp⟩, HO3, HB3⟩
    case round =>
      clear HO3 HB3
      obtain ⟨a, out, rfl, HA, HG, HOL, HO, HB⟩ := hrel
      obtain ⟨g1, hg1⟩ : ∃ g, gk = g := ⟨_, rfl⟩
      have HI := Aside0.mk (HI2.out.later HB.out)
      have HP := Aside0.mk (blk_below HP2.out HB.out)
      have cp := (blk_cell HP.out 0).trans rfl
      by_cases q : a < n
      · have qb : decide (a < n) = true := decide_eq_true q
        obtain ⟨k1, hk1⟩ : ∃ k1, gk = k1 + 1 := ⟨gk - 1, by have := HA.out; omega⟩
        subst hk1
        have HNX := Aside0.mk (nextP_in HFW.out q)
        have HG2 := Aside0.mk (show (out ++ [nextP T n a]) ++ partsL T n k1 (nextP T n a) = 0 :: partsL T n n.toNat 0 by rw [← HG.out, partsL, if_pos q, List.append_assoc]; rfl)
        have HQ := Aside0.mk q
        clear q
        obtain ⟨g, hg⟩ := HI.out
        rcases hg.look (small_of (k := a) (by have := HA.out; have := HIN.out; omega)) with ⟨hn, hgn, hl1, hl2⟩ | ⟨A1, c1, xs, hxn, hxl, hxm, hgx, hxR, hl1, hl2⟩
        · have HNP := Aside0.mk (show nextP T n a = skipT T n (n - a).toNat (a + 1) by unfold nextP; rw [if_pos hn])
          clear hg hl2 hgn hn
          have hw : wrap64 (a + 1) = a + 1 := by have := HA.out; have := HIN.out; unfold wrap64; omega
          have HW := Aside0.mk hw
          clear hw
          go_wp2_with fail
          clear hl1
          go_loopg [10] (n - a).toNat (fun kq v10 w' => ∃ b : Int, v10 = .int .i64 b ∧ w' = wr ∧ Aside0 (a < b ∧ b ≤ n ∧ n - b + 1 ≤ kq) ∧ Aside0 (skipT T n kq b = nextP T n a))
          case atStart => exact ⟨a + 1, by rw [HW.out], rfl, ⟨by have := HQ.out; omega⟩, ⟨HNP.out.symm⟩⟩
          case round =>
            obtain ⟨b, rfl, rfl, HBB, HSK⟩ := hrel
            obtain ⟨k2, hk2⟩ : ∃ k2, gk = k2 + 1 := ⟨gk - 1, by have := HBB.out; omega⟩
            subst hk2
            rw [skipT] at HSK
            obtain ⟨g, hg⟩ := HI.out
            have HWB := Aside0.mk (show wrap64 (b + 1) = b + 1 by have h1 := HBB.out; have h2 := HIN.out; have h3 := HA.out; clear hg HI; unfold wrap64; omega)
            by_cases qq : b < n
            · have qqb : decide (b < n) = true := decide_eq_true qq
              rcases hg.look (small_of (k := b) (by have := HBB.out; have := HA.out; have := HIN.out; omega)) with ⟨hn, hgn, hl1, hl2⟩ | ⟨A1, c1, xs, hxn, hxl, hxm, hgx, hxR, hl1, hl2⟩
              · rw [if_pos ⟨qq, hn⟩] at HSK
                have HQQ := Aside0.mk qq
                clear hg hl1 hgn hn qq
                go_wp2_with fail
                go_roundg k2
                case measure => omega
                case rel => exact ⟨b + 1, by rw [HWB.out], rfl, ⟨by have := HBB.out; have := HQQ.out; omega⟩, HSK⟩
              · have hne : T b ≠ [] := fun e => hxn (by rw [List.eq_nil_iff_forall_not_mem]; intro t ht; have := (hxm t).1 ht; rw [e] at this; cases this)
                rw [if_neg (fun h => hne h.2)] at HSK
                have hxz : ((xs.length : Int) == 0) = false := beq_eq_false_iff_ne.2 (by have := List.length_pos_iff.2 hxn; omega)
                clear hg hl1 hgx hxm hxl hxR hne hxn qq
                obtain ⟨nx, hnx⟩ : ∃ x, nextP T n a = x := ⟨_, rfl⟩
                rw [hnx] at HG2 HNX HSK
                try rw [hnx]
                clear hnx
                obtain rfl : nx = b := HSK.out.symm
                go_wp2_with (at_builtin; go_loud (refine Kd.R_append (Kd.int .i64) (w0 := W2) W2.heap.size rfl (.tmp 26) (.tmp 28) 25 3 (.int .i64 0) 8 rfl Try.underlying25 infoI rfl (by decide) (by omega) _ out nx [.int .i64 nx] (fun _ => True) (fun _ => False) rfl rfl rfl (fun k hk => hk.elim) (fun k hk => trivial) HO.out HB.out HB.out.size (by have := HOL.out; have := HA.out; have := HIN.out; omega) ?_; intro v11 w11 hR11 hB11 hg11 hat11; have HO13 := Aside0.mk hR11; have HB13 := Aside0.mk hB11; clear hR11 hB11 hg11 hat11))
                go_roundg (g1 - 1)
                case measure => omega
                case rel => exact ⟨nx, out ++ [nx], rfl, ⟨by have := HA.out; have := HNX.out; omega⟩, ⟨by rw [show g1 - 1 = k1 by omega]; exact HG2.out⟩, ⟨by rw [List.length_append, List.length_singleton]; have := HOL.out; have := HNX.out; omega⟩, HO13, HB13⟩
            · have qqb : decide (b < n) = false := decide_eq_false qq
              rw [if_neg (fun h => qq h.1)] at HSK
              clear hg qq
              obtain ⟨nx, hnx⟩ : ∃ x, nextP T n a = x := ⟨_, rfl⟩
              rw [hnx] at HG2 HNX HSK
              try rw [hnx]
              clear hnx
              obtain rfl : nx = b := HSK.out.symm
              go_wp2_with (at_builtin; go_loud (refine Kd.R_append (Kd.int .i64) (w0 := W2) W2.heap.size rfl (.tmp 26) (.tmp 28) 25 3 (.int .i64 0) 8 rfl Try.underlying25 infoI rfl (by decide) (by omega) _ out nx [.int .i64 nx] (fun _ => True) (fun _ => False) rfl rfl rfl (fun k hk => hk.elim) (fun k hk => trivial) HO.out HB.out HB.out.size (by have := HOL.out; have := HA.out; have := HIN.out; omega) ?_; intro v11 w11 hR11 hB11 hg11 hat11; have HO13 := Aside0.mk hR11; have HB13 := Aside0.mk hB11; clear hR11 hB11 hg11 hat11))
              go_roundg (g1 - 1)
              case measure => omega
              case rel => exact ⟨nx, out ++ [nx], rfl, ⟨by have := HA.out; have := HNX.out; omega⟩, ⟨by rw [show g1 - 1 = k1 by omega]; exact HG2.out⟩, ⟨by rw [List.length_append, List.length_singleton]; have := HOL.out; have := HNX.out; omega⟩, HO13, HB13⟩
        · have hne : T a ≠ [] := fun e => hxn (by rw [List.eq_nil_iff_forall_not_mem]; intro t ht; have := (hxm t).1 ht; rw [e] at this; cases this)
          cases xs with
          | nil => exact absurd rfl hxn
          | cons m xs =>
            have HNP := Aside0.mk (show pickM T m xs = nextP T n a by unfold nextP; rw [if_neg hne]; exact pick_best hxm)
            have HMX := Aside0.mk (max_calls W.heap.size MB PB T HIN.out.2.2 wr HI.out HP.out W.heap.size A1 c1 m xs hxR hxl (fun t ht => HIN.out.2.2 a t ((hxm t).1 ht)))
            rw [HNP.out] at HMX
            clear hg hl2 hgx hxm hxl hxR hne hxn
            go_wp2_with fail
            refine HMX.out.mono ?_
            rintro e W4 ⟨rfl, hb4⟩
            have HO := Aside0.mk (Kd.R_below HO.out hb4)
            have HB := Aside0.mk (below_step HB.out hb4)
            clear hb4 hl1
            have HSK : Aside0 (nextP T n a = nextP T n a) := ⟨rfl⟩
            obtain ⟨nx, hnx⟩ : ∃ x, nextP T n a = x := ⟨_, rfl⟩
            rw [hnx] at HG2 HNX HSK
            try rw [hnx]
            clear hnx
            go_wp2_with (at_builtin; go_loud (refine Kd.R_append (Kd.int .i64) (w0 := W2) W2.heap.size rfl (.tmp 26) (.tmp 28) 25 3 (.int .i64 0) 8 rfl Try.underlying25 infoI rfl (by decide) (by omega) _ out nx [.int .i64 nx] (fun _ => True) (fun _ => False) rfl rfl rfl (fun k hk => hk.elim) (fun k hk => trivial) HO.out HB.out HB.out.size (by have := HOL.out; have := HA.out; have := HIN.out; omega) ?_; intro v11 w11 hR11 hB11 hg11 hat11; have HO13 := Aside0.mk hR11; have HB13 := Aside0.mk hB11; clear hR11 hB11 hg11 hat11))
            go_roundg (g1 - 1)
            case measure => omega
            case rel => exact ⟨nx, out ++ [nx], rfl, ⟨by have := HA.out; have := HNX.out; omega⟩, ⟨by rw [show g1 - 1 = k1 by omega]; exact HG2.out⟩, ⟨by rw [List.length_append, List.length_singleton]; have := HOL.out; have := HNX.out; omega⟩, HO13, HB13⟩
      · have qb : decide (a < n) = false := decide_eq_false q
        have HD := Aside0.mk (show out = 0 :: partsL T n n.toNat 0 by
          rw [← HG.out]
          cases gk with
          | zero => simp [partsL]
          | succ k => rw [partsL, if_neg q, List.append_nil])
        obtain ⟨Ao, co, eo⟩ := Kd.R_slice HO.out
        subst eo
        clear q
        go_wp2_with fail
        go_ret2
        rw [HF.out]
        exact ⟨_, rfl, by rw [← HD.out]; exact Kd.R_lower HO.out HB2.out.size, below_lift HB2.out HB.out⟩
end Go.Proofs.Ytfmnbebkeefboaa.Print
