/- The contract of least.classes. -/
import Derived.Test.YtadhjjfodpmelaaClassA
import Derived.Maps.AppendAt
namespace Go.Proofs.Ytadhjjfodpmelaa.Print
open Go.RowKit Go.Shelf Go.Maps Go.Proofs.YtadhjjfodpmelaaW.PrintWords Go.Proofs.YtadhjjfodpmelaaW.PrintLast Go.Proofs.YtadhjjfodpmelaaW.PrintMore
set_option linter.unusedVariables false
set_option linter.unusedSimpArgs false

theorem row_ok {a : List (List Int)} {b : List Bool} (hg : rightB a b = true) (j : Nat) (hj : j < a.length) : (rd_L1 a j).length ≤ 200 ∧ ∀ x ∈ rd_L1 a j, 0 ≤ x ∧ x < a.length := by
  unfold rightB at hg
  simp only [Bool.and_eq_true, decide_eq_true_eq, Bool.not_eq_true'] at hg
  have hm : rd_L1 a j ∈ a := by
    unfold rd_L1
    simp only [Int.toNat_natCast, List.getD_eq_getElem?_getD, List.getElem?_eq_getElem hj, Option.getD_some]
    exact List.getElem_mem hj
  have h := List.any_eq_false.1 hg.2 _ hm
  unfold badRow at h
  simp only [Bool.or_eq_true, bne_iff_ne, ne_eq, not_or, Decidable.not_not, Bool.not_eq_true] at h
  have h2 := hg.1.2
  refine ⟨by omega, fun x hx => ?_⟩
  have := List.any_eq_false.1 h.2 x hx
  simp [odd] at this
  omega
theorem grownBy_set (W : World) (b j : Nat) (v : Value) : W.grownBy (W.setCell ⟨b, j, none⟩ v) (some b) :=
  ⟨rfl, rfl, rfl, by simp, fun k _ hk => Below.heap_setCell _ _ _ k (fun e => hk (by rw [e]))⟩
theorem R_keepn {W W' : World} {e base g n cap B : Nat} {xs : List Int} (h : Kd.R (Kd.int .i64) e W base (fun _ => True) (.slice (some ⟨g, 0, none⟩) n cap) xs) (hg : W.grownBy W' (some B)) (hne : g ≠ B) : Kd.R (Kd.int .i64) e W' base (fun _ => True) (.slice (some ⟨g, 0, none⟩) n cap) xs :=
  Kd.R_of_own ((Kd.own_of_R h).kept hg (.inr (by simp [Value.ownBlock]; exact hne))) (fun _ _ => trivial)
theorem set_next (l : List Int) (n i : Nat) (v : Int) (hl : l.length = i) (hi : i < n) : (l ++ List.replicate (n - i) 0).set i v = (l ++ [v]) ++ List.replicate (n - (i + 1)) 0 := by
  obtain ⟨c, hc⟩ : ∃ c, n - i = c + 1 := ⟨n - i - 1, by omega⟩
  rw [hc, show n - (i + 1) = c from by omega, List.replicate_succ, List.set_append_right _ _ (by omega), hl, Nat.sub_self]
  simp
theorem R_cellg {W : World} {e base g n cap : Nat} {ok : Nat → Prop} {xs : List Int} (h : Kd.R (Kd.int .i64) e W base ok (.slice (some ⟨g, 0, none⟩) n cap) xs) (i : Nat) (hi : i < n) : W.cell? ⟨g, i, none⟩ = some (.int .i64 (rd xs i)) ∧ W.frozen? ⟨g, i, none⟩ = false := by
  obtain ⟨rfl, _⟩ := Kd.R_reads' h
  have := Kd.R_cell (0 : Int) h (i : Int) (by omega) (by omega)
  rw [Int.toNat_natCast] at this
  exact this
theorem R_putn {W : World} {e base g n cap : Nat} {ok : Nat → Prop} {xs : List Int} (h : Kd.R (Kd.int .i64) e W base ok (.slice (some ⟨g, 0, none⟩) n cap) xs) (i : Nat) (x : Int) : Kd.R (Kd.int .i64) e (W.setCell ⟨g, i, none⟩ (.int .i64 x)) base ok (.slice (some ⟨g, 0, none⟩) n cap) (xs.set i x) ∧ W.grownBy (W.setCell ⟨g, i, none⟩ (.int .i64 x)) (some g) := by
  have := Kd.R_putg h (i : Int) x
  rw [Int.toNat_natCast] at this
  exact this
/-- The kinds of the first i states; the others' are 0 still. -/
def kl (b : List Bool) (i : Nat) : List Int := kindUp b i ++ List.replicate (b.length - i) 0
theorem kl_len (b : List Bool) (i : Nat) (h : i ≤ b.length) : (kl b i).length = b.length := by unfold kl kindUp; rw [List.length_append, List.length_map, List.length_take, List.length_replicate]; omega
theorem kl_step (b : List Bool) (i : Nat) (h : i < b.length) : kl b (i + 1) = (kl b i).set i (if rdOf false b i = true then 1 else 0) := by
  have hl : (kindUp b i).length = i := by unfold kindUp; rw [List.length_map, List.length_take]; omega
  have h1 : kindUp b (i + 1) = kindUp b i ++ [if rdOf false b i = true then 1 else 0] := by
    unfold kindUp rdOf
    rw [List.take_add_one, List.map_append, Int.toNat_natCast, List.getD_eq_getElem?_getD, List.getElem?_eq_getElem h]
    rfl
  unfold kl
  obtain ⟨c, hc⟩ : ∃ c, b.length - i = c + 1 := ⟨b.length - i - 1, by omega⟩
  rw [h1, hc, show b.length - (i + 1) = c from by omega, List.replicate_succ, List.set_append_right _ _ (by omega), hl, Nat.sub_self]
  simp
theorem kl_same (b : List Bool) (i : Nat) (h : i < b.length) (hf : rdOf false b i = false) : kl b (i + 1) = kl b i := by
  have hl : (kindUp b i).length = i := by unfold kindUp; rw [List.length_map, List.length_take]; omega
  rw [kl_step b i h, hf]
  unfold kl
  obtain ⟨c, hc⟩ : ∃ c, b.length - i = c + 1 := ⟨b.length - i - 1, by omega⟩
  rw [hc, List.replicate_succ, List.set_append_right _ _ (by omega), hl, Nat.sub_self]
  rfl

set_option maxRecDepth 100000 in
set_option maxHeartbeats 16000000 in
theorem classes_calls (A0_0 : Option Addr) (c0_0 : Nat) (a : List (List Int)) (A0_1 : Option Addr) (c0_1 : Nat) (b : List Bool) (w : World) (hr0_0 : Kd.C (Kd.slice 3 (Kd.int .i64)) w A0_0 a.length a) (hc0_0 : a.length ≤ c0_0) (hr0_1 : Kd.C Kd.bool w A0_1 b.length b) (hc0_1 : b.length ≤ c0_1) (hg : rightB a b = true)
    (K : Nat) (res : List Int) (hres : classesGo a K (kindUp b b.length) 0 = some res) :
    Calls Try.prog 21 #[.agg #[.slice A0_0 a.length c0_0, .slice A0_1 b.length c0_1]] w fun e w' => ∃ g, e = .returned (.slice (some ⟨g, 0, none⟩) a.length a.length) ∧ Kd.R (Kd.int .i64) 3 w' w.heap.size (fun _ => True) (.slice (some ⟨g, 0, none⟩) a.length a.length) res ∧ Below w.heap.size w w' := by
  have HG := Aside0.mk hg
  have HR0 := Aside0.mk hr0_0
  have HR1 := Aside0.mk hr0_1
  have HX0 := Aside0.mk (show (w.alloc (.cells #[.slice A0_0 a.length c0_0, .slice A0_1 b.length c0_1] 25)).heap[w.heap.size]? = some (.cells #[.slice A0_0 a.length c0_0, .slice A0_1 b.length c0_1] 25 (0, 0)) from blk_new w _)
  have x0 := (blk_cell HX0.out 0).trans rfl
  have hlen : b.length = a.length ∧ 1 ≤ a.length ∧ a.length ≤ 5000 := by
    unfold rightB at hg
    simp only [Bool.and_eq_true, decide_eq_true_eq] at hg
    exact ⟨hg.1.1.1.2, hg.1.1.1.1.1, hg.1.1.1.1.2⟩
  have HLN := Aside0.mk hlen
  have h5000 : a.length ≤ 5000 := hlen.2.2
  have hmk := fun W => run_make_row' (P := Try.prog) 33 3 (.int .i64 0) 8 Try.underlying33 info3 rfl .i64 .i64 a.length (by omega) (by omega) W
  have hmm := @run_makeMap Try.prog
  clear hr0_0 hr0_1 hg hlen
  go_enter Try.func21, Try.ntmps21
  go_wp2_with fail
  have hw1 : w.heap.size + 1 = (w.alloc (.cells #[.slice A0_0 a.length c0_0, .slice A0_1 b.length c0_1] 25)).heap.size := by simp
  have HK0 := Aside0.mk (show Kd.R (Kd.int .i64) 3 ((w.alloc (.cells #[.slice A0_0 a.length c0_0, .slice A0_1 b.length c0_1] 25)).alloc (.cells (madeCells #[.int .i64 0] a.length) 3)) w.heap.size (fun _ => True) (.slice (some ⟨w.heap.size + 1, 0, none⟩) a.length a.length) (kl b 0) by
    have h := own_made_of (enc := Value.int .i64) (d := (0 : Int)) (w.alloc (.cells #[.slice A0_0 a.length c0_0, .slice A0_1 b.length c0_1] 25)) w.heap.size 3 a.length (by simp) (by omega)
    rw [← hw1] at h
    refine Kd.R_of_own ?_ (fun _ _ => trivial)
    have e2 : (kl b 0).length = a.length := by rw [kl_len b 0 (by omega)]; exact HLN.out.1
    have e : kl b 0 = List.replicate a.length 0 := by unfold kl kindUp; rw [HLN.out.1]; simp
    rw [e2, e]
    exact h)
  have HB0 := Aside0.mk (below_alloc (below_alloc (Below.refl w.heap.size w) (.cells #[.slice A0_0 a.length c0_0, .slice A0_1 b.length c0_1] 25)) (.cells (madeCells #[.int .i64 0] a.length) 3))
  have HD0 := Aside0.mk (blk_alloc HX0.out (.cells (madeCells #[.int .i64 0] a.length) 3))
  clear x0
  obtain ⟨g, hg⟩ : ∃ g, w.heap.size + 1 = g := ⟨_, rfl⟩
  rw [hg] at HK0 ⊢
  have hgw : w.heap.size < g := by omega
  clear hw1 hg
  go_loopg [18] (a.length + 1) (fun gk v18 wr => ∃ (i : Nat), v18 = .int .i64 i ∧ i ≤ a.length ∧ a.length - i < gk ∧ Aside0 (Kd.R (Kd.int .i64) 3 wr w.heap.size (fun _ => True) (.slice (some ⟨g, 0, none⟩) a.length a.length) (kl b i)) ∧ Aside0 (Below w.heap.size w wr) ∧ Aside0 (wr.heap[w.heap.size]? = some (.cells #[.slice A0_0 a.length c0_0, .slice A0_1 b.length c0_1] 25 (0, 0))))
  case atStart => exact ⟨0, rfl, by omega, by omega, HK0, HB0, HD0⟩
  case round =>
    clear HK0 HB0 HD0
    obtain ⟨i, rfl, hi, hgk, HK, HB, HD⟩ := hrel
    by_cases hlt : i < a.length
    · have hltz : (i : Int) < (a.length : Int) := by omega
      have hltb : (i : Int) < (b.length : Int) := by have := HLN.out; omega
      have d1 := (blk_cell HD.out 1).trans rfl
      obtain ⟨adb, eb, hxb⟩ := Kd.at_bool (Kd.C_below HR1.out HB.out) (i : Int) (by omega) hltb
      subst eb
      rw [Int.toNat_natCast] at hxb
      cases hf : rdOf false b i with
      | false =>
        rw [hf] at hxb
        have HKS := Aside0.mk (kl_same b i (by omega) hf)
        go_wp2_with fail
        go_roundg (gk - 1)
        case measure => omega
        case rel => exact ⟨i + 1, by go_num, by omega, by omega, ⟨by rw [HKS.out]; exact HK.out⟩, HB, HD⟩
      | true =>
        rw [hf] at hxb
        have HKS := Aside0.mk (kl_step b i (by omega))
        obtain ⟨hc, hf0⟩ := R_cellg HK.out i hlt
        obtain ⟨hput, hgr⟩ := R_putn HK.out i 1
        have HPUT := Aside0.mk hput
        have HGR := Aside0.mk hgr
        have HFT := Aside0.mk hf
        clear hput hgr hf
        go_wp2_with fail
        go_roundg (gk - 1)
        case measure => omega
        case rel => exact ⟨i + 1, by go_num, by omega, by omega, ⟨by rw [HKS.out, HFT.out]; exact HPUT.out⟩, ⟨HB.out.grown HGR.out HB.out.size (fun k e => by injection e with e; omega)⟩, ⟨blk_grown HD.out HGR.out (fun e => by injection e with e; omega)⟩⟩
    · obtain rfl : i = a.length := by omega
      have hlt2 : ¬ ((a.length : Nat) : Int) < (a.length : Int) := by omega
      go_wp2_with fail
      have HK1 := Aside0.mk (show Kd.R (Kd.int .i64) 3 wr w.heap.size (fun _ => True) (.slice (some ⟨g, 0, none⟩) a.length a.length) (kindUp b b.length) by
        have h := HK.out
        unfold kl at h
        rw [← HLN.out.1, Nat.sub_self, List.replicate_zero, List.append_nil] at h
        rw [HLN.out.1] at h ⊢
        exact h)
      clear HK
      go_loopg [3, 5] (K + 1) (fun gk v3 v5 wr => ∃ (kind : List Int) (gg : Nat) (many : Int) (k : Nat), v3 = .slice (some ⟨gg, 0, none⟩) a.length a.length ∧ v5 = .int .i64 many ∧ k < gk ∧ w.heap.size < gg ∧ Aside0 (classesGo a k kind many = some res) ∧ Aside0 (Kd.R (Kd.int .i64) 3 wr w.heap.size (fun _ => True) (.slice (some ⟨gg, 0, none⟩) a.length a.length) kind) ∧ Aside0 (Below w.heap.size w wr) ∧ Aside0 (wr.heap[w.heap.size]? = some (.cells #[.slice A0_0 a.length c0_0, .slice A0_1 b.length c0_1] 25 (0, 0))))
      case atStart => exact ⟨kindUp b b.length, g, 0, K, rfl, rfl, by omega, hgw, ⟨hres⟩, HK1, HB, HD⟩
      case round =>
        clear HK1 HB HD
        obtain ⟨kind, gg, many, k, rfl, rfl, hk, hgg, HCG, HK, HB, HD⟩ := hrel
        cases k with
        | zero => exact absurd HCG.out (by simp [classesGo])
        | succ k =>
          obtain ⟨g1, hg1⟩ : ∃ g, gk = g := ⟨_, rfl⟩
          have HKL := Aside0.mk (Kd.R_reads' HK.out).1
          go_wp2_with fail
          obtain ⟨MB, hMB⟩ : ∃ m, wr.heap.size = m := ⟨_, rfl⟩
          have hsz : w.heap.size ≤ wr.heap.size := HB.out.size
          have hs1 : wr.heap.size + 1 = (wr.alloc (.map #[] 0)).heap.size := by simp
          have HM0 := Aside0.mk ((NumMap.made wr strLit Try.prog 9 3 (κ := List UInt8)).alloc (.cells (madeCells #[.int .i64 0] a.length) 3))
          have HN0 := Aside0.mk (show Kd.R (Kd.int .i64) 3 ((wr.alloc (.map #[] 0)).alloc (.cells (madeCells #[.int .i64 0] a.length) 3)) w.heap.size (fun _ => True) (.slice (some ⟨wr.heap.size + 1, 0, none⟩) a.length a.length) (List.replicate a.length 0) by
            have h := own_made_of (enc := Value.int .i64) (d := (0 : Int)) (wr.alloc (.map #[] 0)) w.heap.size 3 a.length (by simp; omega) (by omega)
            rw [← hs1] at h
            refine Kd.R_of_own ?_ (fun _ _ => trivial)
            rw [List.length_replicate]
            exact h)
          have HK0 := Aside0.mk (Kd.R_alloc (Kd.R_alloc HK.out (.map #[] 0)) (.cells (madeCells #[.int .i64 0] a.length) 3))
          have HB0 := Aside0.mk (below_alloc (below_alloc HB.out (.map #[] 0)) (.cells (madeCells #[.int .i64 0] a.length) 3))
          have HD0 := Aside0.mk (blk_alloc (blk_alloc HD.out (.map #[] 0)) (.cells (madeCells #[.int .i64 0] a.length) 3))
          have hggm : gg < wr.heap.size := Kd.R_lt HK.out gg rfl
          rw [hMB] at HM0 HN0 hsz hggm ⊢
          clear hs1 hMB HK HB HD
          go_loopg [36] (a.length + 1) (fun gk v36 wr2 => ∃ (i : Nat), v36 = .int .i64 i ∧ i ≤ a.length ∧ a.length - i < gk ∧ Aside0 (NumMap strLit Try.prog 9 3 wr2 MB (roundUp kind a i).1) ∧ Aside0 (Kd.R (Kd.int .i64) 3 wr2 w.heap.size (fun _ => True) (.slice (some ⟨MB + 1, 0, none⟩) a.length a.length) ((roundUp kind a i).2 ++ List.replicate (a.length - i) 0)) ∧ Aside0 (Kd.R (Kd.int .i64) 3 wr2 w.heap.size (fun _ => True) (.slice (some ⟨gg, 0, none⟩) a.length a.length) kind) ∧ Aside0 (Below w.heap.size w wr2) ∧ Aside0 (wr2.heap[w.heap.size]? = some (.cells #[.slice A0_0 a.length c0_0, .slice A0_1 b.length c0_1] 25 (0, 0))))
          case atStart => exact ⟨0, rfl, by omega, by omega, HM0, ⟨by simpa [roundUp] using HN0.out⟩, HK0, HB0, HD0⟩
          case round =>
            clear HM0 HN0 HK0 HB0 HD0
            obtain ⟨i, rfl, hi, hgk, HM, HN, HK, HB, HD⟩ := hrel
            by_cases hlt : i < a.length
            · have hltz : (i : Int) < (a.length : Int) := by omega
              have d0 := (blk_cell HD.out 0).trans rfl
              obtain ⟨adn, A9, c9, en, hx9, hl9, hr9⟩ := at_L1 (Kd.C_below HR0.out HB.out) (i : Int) (by omega) hltz
              subst en
              rw [Int.toNat_natCast] at hx9
              have hrow := row_ok HG.out i hlt
              obtain ⟨s, hs⟩ : ∃ s, keyB kind i (rd_L1 a i) = s := ⟨_, rfl⟩
              have hss : s.size ≤ maxLen := by rw [← hs, keyB_size]; have := hrow.1; unfold maxLen; omega
              have HKEY := Aside0.mk (show Calls Try.prog 32 #[.slice (some ⟨gg, 0, none⟩) a.length a.length, .int .i64 i, .slice A9 (rd_L1 a i).length c9] wr fun e w' => e = .returned (.string s) ∧ Below wr.heap.size wr w' by
                have hc := Kd.R_reads' HK.out
                have := least_key.calls 300 (some ⟨gg, 0, none⟩) a.length kind i A9 c9 (rd_L1 a i) s wr (by rw [hc.1] at *; exact hc.2.2) (by omega) hr9 hl9 (by rw [← hs]; exact key_f kind (rd_L1 a i) i (by omega) (fun x hx => by have := hrow.2 x hx; omega) hrow.1)
                rwa [← hc.1] at this)
              have HS := Aside0.mk (show roundUp kind a (i + 1) = (if s.data.toList ∈ (roundUp kind a i).1 then ((roundUp kind a i).1, (roundUp kind a i).2 ++ [((roundUp kind a i).1.idxOf s.data.toList : Int)]) else ((roundUp kind a i).1 ++ [s.data.toList], (roundUp kind a i).2 ++ [((roundUp kind a i).1.length : Int)])) by rw [roundUp]; unfold keyU; rw [hs])
              have HRL := Aside0.mk (roundUp_len kind a i)
              clear hr9 hl9 hrow hs
              go_wp2_with fail
              refine HKEY.out.mono ?_
              rintro e w2 ⟨rfl, hb2⟩
              have HM2 := Aside0.mk (HM.out.kept (grown_of_below hb2 none) (by simp))
              have HN2 := Aside0.mk (Kd.R_below HN.out hb2)
              have HK2 := Aside0.mk (Kd.R_below HK.out hb2)
              have HB2 := Aside0.mk (HB.out.trans (hb2.mono HB.out.size))
              have HD2 := Aside0.mk (blk_below HD.out hb2)
              clear hb2 HM HN HK HB HD HKEY d0 hx9
              obtain ⟨D, hD1, hD2, hD3, hD4⟩ := HM2.out
              have HD1 := Aside0.mk hD1
              have HD3 := Aside0.mk hD3
              have HD2' := Aside0.mk hD2
              have HMB := Aside0.mk (show MB + 1 ≠ MB ∧ gg ≠ MB by omega)
              obtain ⟨n0, hn0⟩ := R_cellg HN2.out i hlt
              have HKC := Aside0.mk (WideMaps.keyOf_string_mk (P := Try.prog) Try.underlying9 hss)
              by_cases q : s.data.toList ∈ (roundUp kind a i).1
              · have HSX := Aside0.mk (HS.out.trans (if_pos q))
                have hh : Maps.has D (.string s.data.toList) = true := (hD2 s.data.toList).2 q
                have HIX := Aside0.mk (hD3 _ _ (idx_of q))
                clear hD1 hD2 hD3 q HS
                go_wp2_with (at_lookup; refine wpList_lookup_own_ok_int _ rfl _ _ 64 rfl 9 3 .i64 law9 Try.underlying64 Try.underlying3 (zero3 _) MB _ D rfl HD1.out _ _ rfl HKC.out ?_; intro c hat hwc; have hcx : c = ((roundUp kind a i).1.idxOf s.data.toList : Int) := (by have h2 := hat.symm.trans HIX.out; injection h2 with h2; injection h2 with _ h2); subst hcx)
                go_roundg (gk - 1)
                case measure => omega
                case rel =>
                  obtain ⟨hp, hgr⟩ := R_putn HN2.out i ((roundUp kind a i).1.idxOf s.data.toList : Int)
                  refine ⟨i + 1, by go_num, by omega, by omega, ⟨?_⟩, ⟨?_⟩, ⟨R_keepn HK2.out hgr (by omega)⟩, ⟨HB2.out.grown hgr HB2.out.size (fun k e => by injection e with e; omega)⟩, ⟨blk_grown HD2.out hgr (fun e => by injection e with e; omega)⟩⟩
                  · rw [HSX.out]; exact HM2.out.kept hgr (fun e => by injection e with e; omega)
                  · rw [HSX.out]; rw [set_next _ _ _ _ HRL.out.1 hlt] at hp; exact hp
              · have HSX := Aside0.mk (HS.out.trans (if_neg q))
                have hh : Maps.has D (.string s.data.toList) = false := Bool.eq_false_iff.2 (fun h => q ((hD2 s.data.toList).1 h))
                have HQ := Aside0.mk q
                clear hD1 hD2 hD3 q HS
                go_wp2_with (first | (at_lookup; refine wpList_lookup_own_ok_int _ rfl _ _ 64 rfl 9 3 .i64 law9 Try.underlying64 Try.underlying3 (zero3 _) MB _ D rfl HD1.out _ _ rfl HKC.out ?_; intro c hat hwc) | (at_len; refine wpList_len_own _ rfl _ 64 rfl 9 3 Try.underlying64 _ MB _ D rfl HD1.out ?_; rw [hD4]) | (at_mapUpdate; refine wpList_mapUpdate_own _ rfl _ _ _ 64 rfl 9 3 law9 Try.underlying64 _ MB _ _ rfl HD1.out (by have := HRL.out.2.1; unfold maxLen; omega) _ _ _ rfl rfl HKC.out _ [] (plainElem_int Try.underlying3 (WalkArith.wf_i64 (by have := HRL.out.2.1; omega))) ?_; intro w3 hown3 hgrow3; have HO3 := Aside0.mk hown3; have HG3 := Aside0.mk hgrow3; have HN3 := Aside0.mk (R_keepn HN2.out hgrow3 (by omega)); obtain ⟨n3, fn3⟩ := R_cellg HN3.out i hlt; clear hown3 hgrow3))
                go_roundg (gk - 1)
                case measure => omega
                case rel =>
                  obtain ⟨hp, hgr⟩ := R_putn HN3.out i ((roundUp kind a i).1.length : Int)
                  have hB3 := HB2.out.grown HG3.out HB2.out.size (fun k e => by injection e with e; omega)
                  have hD3' := blk_grown HD2.out HG3.out (fun e => by injection e with e; omega)
                  refine ⟨i + 1, by go_num, by omega, by omega, ⟨?_⟩, ⟨?_⟩, ⟨R_keepn (R_keepn HK2.out HG3.out (by omega)) hgr (by omega)⟩, ⟨hB3.grown hgr hB3.size (fun k e => by injection e with e; omega)⟩, ⟨blk_grown hD3' hgr (fun e => by injection e with e; omega)⟩⟩
                  · rw [HSX.out]; exact (NumMap.snoc law9 strLit_inj strLit_key HQ.out HD1.out HD2'.out HD3.out hD4 HO3.out).kept hgr (fun e => by injection e with e; omega)
                  · rw [HSX.out]; rw [set_next _ _ _ _ HRL.out.1 hlt] at hp; exact hp
            · obtain rfl : i = a.length := by omega
              have hlt3 : ¬ ((a.length : Nat) : Int) < (a.length : Int) := by omega
              obtain ⟨D, hD1, hD2, hD3, hD4⟩ := HM.out
              have HD1 := Aside0.mk hD1
              have HRL := Aside0.mk (roundUp_len kind a a.length)
              have HN1 := Aside0.mk (show Kd.R (Kd.int .i64) 3 wr w.heap.size (fun _ => True) (.slice (some ⟨MB + 1, 0, none⟩) a.length a.length) (roundUp kind a a.length).2 by
                have h := HN.out
                rw [Nat.sub_self, List.replicate_zero, List.append_nil] at h
                exact h)
              clear hD1 hD2 hD3 HN
              have HC := HCG.out
              rw [classesGo] at HC
              by_cases q : ((roundUp kind a a.length).1.length : Int) = many
              · rw [if_pos q] at HC
                have HRES := Aside0.mk (Option.some.inj HC)
                have hq : (((roundUp kind a a.length).1.length : Int) == many) = true := beq_iff_eq.mpr q
                clear q HC
                go_wp2_with (at_len; refine wpList_len_own _ rfl _ 64 rfl 9 3 Try.underlying64 _ MB _ D rfl HD1.out ?_; rw [hD4])
                go_ret
                exact ⟨_, rfl, by rw [← HRES.out]; exact HN1.out, HB.out⟩
              · rw [if_neg q] at HC
                have HCC := Aside0.mk HC
                have hq : (((roundUp kind a a.length).1.length : Int) == many) = false := beq_eq_false_iff_ne.mpr q
                clear q HC
                go_wp2_with (at_len; refine wpList_len_own _ rfl _ 64 rfl 9 3 Try.underlying64 _ MB _ D rfl HD1.out ?_; rw [hD4])
                go_roundg (g1 - 1)
                case measure => omega
                case rel => exact ⟨_, MB + 1, _, k, rfl, rfl, by omega, by omega, HCC, HN1, HB, HD⟩
end Go.Proofs.Ytadhjjfodpmelaa.Print
