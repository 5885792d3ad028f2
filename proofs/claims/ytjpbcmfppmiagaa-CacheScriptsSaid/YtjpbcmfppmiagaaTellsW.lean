/- For every script: what is told of a key is what was put in last; a cache of none tells nothing; no cache has more keys than it may (the law's walk). -/
import Derived.Test.YtjpbcmfppmiagaaTells
namespace Go.Proofs.Ytjpbcmfppmiagaa.Print
open Go.RowKit Go.Maps Go.Proofs.YtjpbcmfppmiagaaW.PrintWords Go.Proofs.YtjpbcmfppmiagaaW.PrintLast Go.Proofs.YtjpbcmfppmiagaaW.PrintMore
set_option linter.unusedVariables false
set_option linter.unusedSimpArgs false

theorem cell_keep {W W' : World} {p : Addr} {v : Value} (hb : Below W.heap.size W W') (h : W.cell? p = some v) : W'.cell? p = some v := by
  refine (hb.cell ?_).trans h
  rcases Nat.lt_or_ge p.block W.heap.size with q | q
  · exact q
  · unfold World.cell? at h
    rw [Array.getElem?_eq_none (by omega)] at h
    simp at h
theorem rd_T45_mem {l : List S45} {i : Nat} (hi : i < l.length) : rd_T45 l (i : Int) ∈ l := by
  unfold rd_T45
  rw [Int.toNat_natCast, List.getD_eq_getElem?_getD, List.getElem?_eq_getElem hi]
  exact List.getElem_mem hi
set_option maxHeartbeats 16000000 in
set_option maxRecDepth 100000 in
theorem tells_calls (most : Int) (A : Option Addr) (c : Nat) (l : List S45) (W : World) (hr : Kd.C k45 W A l.length l) (hc : l.length ≤ c) (hg : ∀ x ∈ l, x.f2.size ≤ maxLen ∧ x.f3.length ≤ 17592186043904) (hln : l.length ≤ 9223372036854775807) :
    Calls Try.prog 6 #[.int .i64 most, .slice A l.length c] W fun e w' => e = .returned (.bool true) ∧ Below W.heap.size W w' := by
  have HR := Aside0.mk hr
  have HC := Aside0.mk hc
  have HG := Aside0.mk hg
  have HLN := Aside0.mk hln
  clear hr hc hg hln
  go_enter Try.func6, Try.ntmps6
  go_wp2_with fail
  refine (awake_calls _).mono ?_
  rintro e W1 ⟨rfl, hb⟩
  have HB1 := Aside0.mk hb
  clear hb
  cases hrt : rightN most with
  | false =>
    have HN := Aside0.mk (new_bad most W1 hrt)
    clear hrt
    go_wp2_with fail
    refine HN.out.mono ?_
    rintro e W2 ⟨rfl, hb⟩
    have HB2 := Aside0.mk (below_step HB1.out hb)
    clear hb
    go_wp2_with fail
    go_ret
    exact ⟨rfl, HB2.out⟩
  | true =>
    have hmm := @run_makeMap Try.prog
    have HN := Aside0.mk (new_good (fun _ => True) most W1 W.heap.size HB1.out.size hrt)
    have HMO := Aside0.mk (show 0 ≤ most ∧ most ≤ 1000 from of_decide_eq_true hrt)
    clear hrt
    go_wp2_with fail
    refine HN.out.mono ?_
    rintro e W2 ⟨CB, MB, rfl, hi, hb, hC, hM⟩
    have HI2 := Aside0.mk hi
    have HB2 := Aside0.mk (below_step HB1.out hb)
    clear hi hb hC hM HB1 HN
    go_wp2_with fail
    have HI5 := Aside0.mk (HI2.out.later (below_alloc (Below.refl _ _) (.map #[] 0)))
    have HB5 := Aside0.mk (below_alloc HB2.out (.map #[] 0))
    have HG5 := Aside0.mk (MapG.made W2)
    have HNE := Aside0.mk (show W2.heap.size ≠ MB from fun e => by have := HI2.out.map.lt; omega)
    have HOB := Aside0.mk HB2.out.size
    clear HI2 HB2
    obtain ⟨OB, hOB⟩ : ∃ n, W2.heap.size = n := ⟨_, rfl⟩
    rw [hOB] at HG5 HNE HOB ⊢
    clear hOB
    generalize W2.alloc (.map #[] 0) = W5 at *
    clear hmm
    go_loopg [9] 150 (fun gg s9 wr => ∃ (i : Nat) (m L : Lists) (o : List ByteArray) (vO : Value) (h nt : Int) (g : ByteArray → Option Value), s9 = .int .i64 i ∧ i ≤ l.length ∧ i ≤ 150 ∧ 150 - i ≤ gg ∧ Aside0 (CS most m o) ∧ Aside0 (∀ k v, m k = some v → L k = some v) ∧ Aside0 (LastS W g L) ∧ Aside0 (CInv (fun _ => True) W.heap.size CB MB vO most m o h nt wr) ∧ Aside0 (MapG wr OB g) ∧ Aside0 (Below W.heap.size W wr))
    case atStart => exact ⟨0, noLists, noLists, [], _, 0, 0, _, rfl, by omega, by omega, by omega, ⟨CS.start HMO.out.1⟩, ⟨fun _ _ h => h⟩, ⟨LastS.start W⟩, HI5, HG5, HB5⟩
    case round =>
      clear HI5 HG5 HB5
      obtain ⟨i, m, L, o, vO, h, nt, g, rfl, hi, hi2, hg, HCS, HML, HLS, HI, HG2, HB⟩ := hrel
      by_cases hlt : i < l.length
      · have hltz : (i : Int) < (l.length : Int) := by omega
        by_cases h150 : i < 150
        · have h150z : ((i : Int) < 150) = True := eq_true (by omega)
          have h150n : (i < 150) = True := eq_true h150
          obtain ⟨ad, A1, c1, e1, hx0, hx1, hx2, hx3, hxc, hxC⟩ := at_T45 HR.out (i : Int) (by omega) hltz
          subst e1
          rw [Int.toNat_natCast] at hx0 hx1 hx2 hx3
          have hxg := HG.out _ (rd_T45_mem hlt)
          obtain ⟨x, hx⟩ : ∃ x, rd_T45 l (i : Int) = x := ⟨_, rfl⟩
          rw [hx] at hx0 hx1 hx2 hx3 hxc hxC hxg
          clear hx
          have hx0 := cell_keep HB.out hx0
          have hx1 := cell_keep HB.out hx1
          have hx2 := cell_keep HB.out hx2
          have hx3 := cell_keep HB.out hx3
          obtain ⟨do_, num, key, lst⟩ := x
          simp only at hx0 hx1 hx2 hx3 hxc hxC hxg
          have HXC := Aside0.mk (And.intro hxc hxC)
          have HXG := Aside0.mk hxg
          have HLT := Aside0.mk hlt
          have H150 := Aside0.mk h150
          clear hxc hxC hxg
          have HI6 := Aside0.mk (HI.out.later (below_alloc (Below.refl _ _) (.cells #[.int .i64 do_, .int .i64 num, .string key, .slice A1 lst.length c1] 45)))
          have HG6 := Aside0.mk (HG2.out.move (W' := wr.alloc (.cells #[.int .i64 do_, .int .i64 num, .string key, .slice A1 lst.length c1] 45)) (Below.heap_alloc _ _ _ HG2.out.lt))
          have HB6 := Aside0.mk (below_alloc HB.out (.cells #[.int .i64 do_, .int .i64 num, .string key, .slice A1 lst.length c1] 45))
          have HS6 := Aside0.mk (blk_new wr (.cells #[.int .i64 do_, .int .i64 num, .string key, .slice A1 lst.length c1] 45))
          have HN1 := Aside0.mk (show wr.heap.size ≠ CB from fun e => by have := blk_lt HI.out.blk; omega)
          have HN2 := Aside0.mk (show wr.heap.size ≠ MB from fun e => by have := HI.out.map.lt; omega)
          have HOL := Aside0.mk (show o.length ≤ 1000 by have := HCS.out.len; have := HMO.out; omega)
          by_cases q0 : do_ = 0
          · subst q0
            go_wp2_with fail
            clear HI HG2 HB hx0 hx1 hx2 hx3
            obtain ⟨SB, hSB⟩ : ∃ n, wr.heap.size = n := ⟨_, rfl⟩
            rw [hSB] at HS6 HN1 HN2 ⊢
            clear hSB
            generalize wr.alloc (.cells #[.int .i64 0, .int .i64 num, .string key, .slice A1 lst.length c1] 45) = W6 at *
            refine (put_calls (fun _ => True) W.heap.size CB MB vO most m o h nt W6 key A1 c1 lst HI6.out HB6.out.size (by have := HOL.out; omega) HCS.out.sz HMO.out.1 HXG.out.1 (Kd.C_below HXC.out.2 HB6.out) (fun _ _ => trivial) HXG.out.2).mono ?_
            rintro e W7 ⟨rfl, v7, hi7, ht7⟩
            have HCS7 := Aside0.mk (CS.put HMO.out.1 HCS.out HXG.out.1 HXG.out.2)
            have HML7 := Aside0.mk (tells_put (x := key) (l := lst) HMO.out.1 HCS.out HML.out)
            have HB7 := Aside0.mk (HB6.out.trans (ht7.below HI6.out.hC HI6.out.hM HB6.out.size))
            have hs7 := ht7.cells HS6.out (by decide) HN1.out HN2.out
            have HG7 := Aside0.mk (ht7.other HI6.out HG6.out HNE.out)
            have HI7 := Aside0.mk hi7
            clear hi7 ht7 HI6 HG6 HB6 HS6 HN1 HN2
            have z2 := (blk_cell hs7 2).trans rfl
            have z3 := (blk_cell hs7 3).trans rfl
            clear hs7
            obtain ⟨W8, hput, hg8, hgr8⟩ := HG7.out.putT Try.underlying43 HXG.out.1 (.slice A1 lst.length c1)
            have HLS8 := Aside0.mk (HLS.out.put (x := key) HXC.out.1 HXC.out.2 HXG.out.2)
            have HI8 := Aside0.mk (HI7.out.other HG7.out HNE.out hgr8)
            have HG8 := Aside0.mk hg8
            have HB8 := Aside0.mk (HB7.out.grown hgr8 HB7.out.size (fun k hk => by obtain rfl := Option.some.inj hk; exact HOB.out))
            clear hg8 hgr8 HI7 HG7 HB7 HLS HML HCS HOL
            go_wp2_with fail
            obtain ⟨o9, ho9⟩ : ∃ x : List ByteArray, (cutAll most (setL m key (some lst)) (notKey key o ++ [key])).2 = x := ⟨_, rfl⟩
            rw [ho9] at HI8 HCS7
            clear ho9
            refine (keys_calls (fun _ => True) W.heap.size CB MB _ most _ _ _ _ W8 HI8.out (by have := HCS7.out.len; have := HMO.out; omega)).mono ?_
            rintro e W9 ⟨u9, rfl, hu9, hb9⟩
            obtain ⟨AK, cK, rfl⟩ := Kd.R_slice hu9
            have HI9 := Aside0.mk (HI8.out.later hb9)
            have HG9 := Aside0.mk (HG8.out.move (hb9.block _ HG8.out.lt))
            have HB9 := Aside0.mk (below_step HB8.out hb9)
            have hnm2 : ¬ ((o9.length : Int) > most) := by have := HCS7.out.len; omega
            clear hu9 hb9 HI8 HG8 HB8
            go_wp2_with fail
            go_roundg (150 - (i + 1))
            case measure => have := H150.out; omega
            case rel => exact ⟨i + 1, _, _, _, _, _, _, _, by first | rfl | rw [wrap_succ (by have := H150.out; omega)], by have := HLT.out; omega, by have := H150.out; omega, by omega, HCS7, HML7, HLS8, HI9, HG9, HB9⟩
          by_cases q1 : do_ = 1
          · subst q1
            cases hm : m key with
            | none =>
              have HM := Aside0.mk hm
              clear hm
              go_wp2_with fail
              clear HI HG2 HB hx0 hx1 hx2 hx3
              obtain ⟨SB, hSB⟩ : ∃ n, wr.heap.size = n := ⟨_, rfl⟩
              rw [hSB] at HS6 HN1 HN2 ⊢
              clear hSB
              generalize wr.alloc (.cells #[.int .i64 1, .int .i64 num, .string key, .slice A1 lst.length c1] 45) = W6 at *
              refine (miss_calls (fun _ => True) W.heap.size CB MB vO most m o h nt W6 key HI6.out HXG.out.1 HM.out).mono ?_
              rintro e W7 ⟨rfl, hi7, ht7⟩
              have HB7 := Aside0.mk (HB6.out.trans (ht7.below HI6.out.hC HI6.out.hM HB6.out.size))
              have hs7 := ht7.cells HS6.out (by decide) HN1.out HN2.out
              have HG7 := Aside0.mk (ht7.other HI6.out HG6.out HNE.out)
              have HI7 := Aside0.mk hi7
              clear hi7 ht7 HI6 HG6 HB6 HS6 HN1 HN2 HM
              have z2 := (blk_cell hs7 2).trans rfl
              clear hs7
              obtain ⟨AL, cL, lL, hL, hLc, hLC, hLl⟩ := HLS.out.get key
              have hlook : (Instr.lookup 43 (.map (some OB)) (.string key) false).run Try.prog W7 = .ok (.slice AL lL.length cL) W7 := by
                rcases hL with ⟨h1, _⟩ | ⟨h1, _, rfl, rfl, rfl⟩
                · exact (HG7.out.hitT Try.underlying43 HXG.out.1 h1).2
                · exact (HG7.out.missT Try.underlying43 zero29 HXG.out.1 h1).2
              have HLC := Aside0.mk (And.intro hLc hLC)
              clear hL hLc hLC hLl
              go_wp2_with fail
              refine (same_calls none 0 [] AL cL lL W7 (C_none _ _) (Nat.le_refl _) (Kd.C_below HLC.out.2 HB7.out) HLC.out.1 (by decide)).mono ?_
              rintro e W8 ⟨rfl, hb8⟩
              have HI8 := Aside0.mk (HI7.out.later hb8)
              have HG8 := Aside0.mk (HG7.out.move (hb8.block _ HG7.out.lt))
              have HB8 := Aside0.mk (below_step HB7.out hb8)
              clear hb8 HI7 HG7 HB7 hlook z2
              go_wp2_with fail
              obtain ⟨o9, ho9⟩ : ∃ x : List ByteArray, o = x := ⟨_, rfl⟩
              rw [ho9] at HI8 HCS
              clear ho9
              refine (keys_calls (fun _ => True) W.heap.size CB MB _ most _ _ _ _ W8 HI8.out (by have := HCS.out.len; have := HMO.out; omega)).mono ?_
              rintro e W9 ⟨u9, rfl, hu9, hb9⟩
              obtain ⟨AK, cK, rfl⟩ := Kd.R_slice hu9
              have HI9 := Aside0.mk (HI8.out.later hb9)
              have HG9 := Aside0.mk (HG8.out.move (hb9.block _ HG8.out.lt))
              have HB9 := Aside0.mk (below_step HB8.out hb9)
              have hnm2 : ¬ ((o9.length : Int) > most) := by have := HCS.out.len; omega
              clear hu9 hb9 HI8 HG8 HB8
              go_wp2_with fail
              go_roundg (150 - (i + 1))
              case measure => have := H150.out; omega
              case rel => exact ⟨i + 1, _, _, _, _, _, _, _, by first | rfl | rw [wrap_succ (by have := H150.out; omega)], by have := HLT.out; omega, by have := H150.out; omega, by omega, HCS, HML, HLS, HI9, HG9, HB9⟩
            | some lm =>
              have HM := Aside0.mk hm
              have hmz : ¬ most = 0 := (by rintro rfl; have := HCS.out.zero key; rw [hm] at this; cases this)
              clear hm
              go_wp2_with fail
              clear HI HG2 HB hx0 hx1 hx2 hx3
              obtain ⟨SB, hSB⟩ : ∃ n, wr.heap.size = n := ⟨_, rfl⟩
              rw [hSB] at HS6 HN1 HN2 ⊢
              clear hSB
              generalize wr.alloc (.cells #[.int .i64 1, .int .i64 num, .string key, .slice A1 lst.length c1] 45) = W6 at *
              refine (hit_calls (fun _ => True) W.heap.size CB MB vO most m o h nt W6 key lm HI6.out HB6.out.size (by have := HOL.out; omega) HXG.out.1 HM.out (HCS.out.ll key lm HM.out)).mono ?_
              rintro e W7 ⟨u, rfl, ⟨v7, hi7⟩, ht7, hu⟩
              obtain ⟨Au, cu, rfl⟩ := Kd.R_slice hu
              have HU := Aside0.mk hu
              have hko : key ∈ o := by
                cases Classical.em (key ∈ o) with
                | inl h => exact h
                | inr h => have := (HCS.out.is key).2 h; rw [HM.out] at this; cases this
              have HCS7 := Aside0.mk (CS.hit HCS.out hko)
              have HB7 := Aside0.mk (HB6.out.trans (ht7.below HI6.out.hC HI6.out.hM HB6.out.size))
              have hs7 := ht7.cells HS6.out (by decide) HN1.out HN2.out
              have HG7 := Aside0.mk (ht7.other HI6.out HG6.out HNE.out)
              have HI7 := Aside0.mk hi7
              have HLM := Aside0.mk (HCS.out.ll key lm HM.out)
              clear hi7 ht7 HI6 HG6 HB6 HS6 HN1 HN2 hu hko HCS
              have z2 := (blk_cell hs7 2).trans rfl
              clear hs7
              obtain ⟨AL, cL, lL, hL, hLc, hLC, hLl⟩ := HLS.out.get key
              have hLm := HML.out key lm HM.out
              obtain ⟨h1, h2⟩ : g key = some (.slice AL lL.length cL) ∧ lL = lm := by
                rcases hL with ⟨h1, h2⟩ | ⟨_, h2, _⟩
                · rw [hLm] at h2; exact ⟨h1, (Option.some.inj h2).symm⟩
                · rw [hLm] at h2; cases h2
              subst h2
              have hlook := (HG7.out.hitT Try.underlying43 HXG.out.1 h1).2
              have HLC := Aside0.mk (And.intro hLc hLC)
              clear hL hLc hLC hLl hLm h1
              go_wp2_with fail
              refine (same_calls Au cu lL AL cL lL W7 (Kd.R_reads' HU.out).2.2 (Kd.R_reads' HU.out).2.1 (Kd.C_below HLC.out.2 HB7.out) HLC.out.1 (by have := HLM.out; omega)).mono ?_
              rintro e W8 ⟨rfl, hb8⟩
              have HI8 := Aside0.mk (HI7.out.later hb8)
              have HG8 := Aside0.mk (HG7.out.move (hb8.block _ HG7.out.lt))
              have HB8 := Aside0.mk (below_step HB7.out hb8)
              clear hb8 HI7 HG7 HB7 hlook z2 HU HLM
              rw [decide_eq_true rfl]
              go_wp2_with fail
              obtain ⟨o9, ho9⟩ : ∃ x : List ByteArray, notKey key o ++ [key] = x := ⟨_, rfl⟩
              rw [ho9] at HI8 HCS7
              clear ho9
              refine (keys_calls (fun _ => True) W.heap.size CB MB _ most _ _ _ _ W8 HI8.out (by have := HCS7.out.len; have := HMO.out; omega)).mono ?_
              rintro e W9 ⟨u9, rfl, hu9, hb9⟩
              obtain ⟨AK, cK, rfl⟩ := Kd.R_slice hu9
              have HI9 := Aside0.mk (HI8.out.later hb9)
              have HG9 := Aside0.mk (HG8.out.move (hb9.block _ HG8.out.lt))
              have HB9 := Aside0.mk (below_step HB8.out hb9)
              have hnm2 : ¬ ((o9.length : Int) > most) := by have := HCS7.out.len; omega
              clear hu9 hb9 HI8 HG8 HB8
              go_wp2_with fail
              go_roundg (150 - (i + 1))
              case measure => have := H150.out; omega
              case rel => exact ⟨i + 1, _, _, _, _, _, _, _, by first | rfl | rw [wrap_succ (by have := H150.out; omega)], by have := HLT.out; omega, by have := H150.out; omega, by omega, HCS7, HML, HLS, HI9, HG9, HB9⟩
          by_cases q2 : do_ = 2
          · subst q2
            go_wp2_with fail
            clear HI HG2 HB hx0 hx1 hx2 hx3
            obtain ⟨SB, hSB⟩ : ∃ n, wr.heap.size = n := ⟨_, rfl⟩
            rw [hSB] at HS6 HN1 HN2 ⊢
            clear hSB
            generalize wr.alloc (.cells #[.int .i64 2, .int .i64 num, .string key, .slice A1 lst.length c1] 45) = W6 at *
            refine (drop_calls (fun _ => True) W.heap.size CB MB vO most m o h nt W6 key HI6.out HB6.out.size (by have := HOL.out; omega) HXG.out.1).mono ?_
            rintro e W7 ⟨rfl, ⟨v7, hi7⟩, ht7⟩
            have HCS7 := Aside0.mk (CS.drop (x := key) HCS.out)
            have HML7 := Aside0.mk (show ∀ k v, setL m key none k = some v → L k = some v from fun k v e => by
              unfold setL at e
              split at e
              · cases e
              · exact HML.out k v e)
            have HB7 := Aside0.mk (HB6.out.trans (ht7.below HI6.out.hC HI6.out.hM HB6.out.size))
            have hs7 := ht7.cells HS6.out (by decide) HN1.out HN2.out
            have HG7 := Aside0.mk (ht7.other HI6.out HG6.out HNE.out)
            have HI7 := Aside0.mk hi7
            have HM7 := Aside0.mk (setL_same m key none)
            clear hi7 ht7 HI6 HG6 HB6 HS6 HN1 HN2 HCS HML HOL
            have z2 := (blk_cell hs7 2).trans rfl
            clear hs7
            go_wp2_with fail
            refine (miss_calls (fun _ => True) W.heap.size CB MB v7 most _ _ h nt W7 key HI7.out HXG.out.1 HM7.out).mono ?_
            rintro e W8 ⟨rfl, hi8, ht8⟩
            have HB8 := Aside0.mk (HB7.out.trans (ht8.below HI7.out.hC HI7.out.hM HB7.out.size))
            have HG8 := Aside0.mk (ht8.other HI7.out HG7.out HNE.out)
            have HI8 := Aside0.mk hi8
            clear hi8 ht8 HI7 HG7 HB7 z2
            go_wp2_with fail
            obtain ⟨o9, ho9⟩ : ∃ x : List ByteArray, notKey key o = x := ⟨_, rfl⟩
            rw [ho9] at HI8 HCS7
            clear ho9
            refine (keys_calls (fun _ => True) W.heap.size CB MB _ most _ _ _ _ W8 HI8.out (by have := HCS7.out.len; have := HMO.out; omega)).mono ?_
            rintro e W9 ⟨u9, rfl, hu9, hb9⟩
            obtain ⟨AK, cK, rfl⟩ := Kd.R_slice hu9
            have HI9 := Aside0.mk (HI8.out.later hb9)
            have HG9 := Aside0.mk (HG8.out.move (hb9.block _ HG8.out.lt))
            have HB9 := Aside0.mk (below_step HB8.out hb9)
            have hnm2 : ¬ ((o9.length : Int) > most) := by have := HCS7.out.len; omega
            clear hu9 hb9 HI8 HG8 HB8
            go_wp2_with fail
            go_roundg (150 - (i + 1))
            case measure => have := H150.out; omega
            case rel => exact ⟨i + 1, _, _, _, _, _, _, _, by first | rfl | rw [wrap_succ (by have := H150.out; omega)], by have := HLT.out; omega, by have := H150.out; omega, by omega, HCS7, HML7, HLS, HI9, HG9, HB9⟩
          · go_wp2_with fail
            clear HI HG2 HB hx0 hx1 hx2 hx3
            obtain ⟨SB, hSB⟩ : ∃ n, wr.heap.size = n := ⟨_, rfl⟩
            rw [hSB] at HS6 HN1 HN2 ⊢
            clear hSB
            generalize wr.alloc (.cells #[.int .i64 do_, .int .i64 num, .string key, .slice A1 lst.length c1] 45) = W6 at *
            clear HS6 HN1 HN2
            obtain ⟨o9, ho9⟩ : ∃ x : List ByteArray, o = x := ⟨_, rfl⟩
            rw [ho9] at HI6 HCS
            clear ho9
            refine (keys_calls (fun _ => True) W.heap.size CB MB _ most _ _ _ _ W6 HI6.out (by have := HCS.out.len; have := HMO.out; omega)).mono ?_
            rintro e W9 ⟨u9, rfl, hu9, hb9⟩
            obtain ⟨AK, cK, rfl⟩ := Kd.R_slice hu9
            have HI9 := Aside0.mk (HI6.out.later hb9)
            have HG9 := Aside0.mk (HG6.out.move (hb9.block _ HG6.out.lt))
            have HB9 := Aside0.mk (below_step HB6.out hb9)
            have hnm2 : ¬ ((o9.length : Int) > most) := by have := HCS.out.len; omega
            clear hu9 hb9 HI6 HG6 HB6
            go_wp2_with fail
            go_roundg (150 - (i + 1))
            case measure => have := H150.out; omega
            case rel => exact ⟨i + 1, _, _, _, _, _, _, _, by first | rfl | rw [wrap_succ (by have := H150.out; omega)], by have := HLT.out; omega, by have := H150.out; omega, by omega, HCS, HML, HLS, HI9, HG9, HB9⟩
        · obtain rfl : i = 150 := by omega
          go_wp2_with fail
          go_ret
          exact ⟨rfl, HB.out⟩
      · obtain rfl : i = l.length := by omega
        have hltz : ¬ (l.length : Int) < (l.length : Int) := by omega
        go_wp2_with fail
        go_ret
        exact ⟨rfl, HB.out⟩
end Go.Proofs.Ytjpbcmfppmiagaa.Print
