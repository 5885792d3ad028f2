/- For every size, key and keys: a key is there as long as fewer others than there may be were put in since (the law's walk). -/
import Derived.Test.YtjpbcmfppmiagaaLasts
namespace Go.Proofs.Ytjpbcmfppmiagaa.Print
open Go.RowKit Go.Maps Go.Proofs.YtjpbcmfppmiagaaW.PrintWords Go.Proofs.YtjpbcmfppmiagaaW.PrintLast Go.Proofs.YtjpbcmfppmiagaaW.PrintMore
set_option linter.unusedVariables false
set_option linter.unusedSimpArgs false

open Classical in
noncomputable def oth (ks : List ByteArray) : ByteArray → Option Value := fun s => if s ∈ ks then some (.bool true) else none
theorem oth_nil : oth [] = fun _ => none := by funext s; unfold oth; rw [if_neg (by simp)]
theorem oth_add (ks : List ByteArray) (x : ByteArray) : (fun s => if s = x then some (.bool true) else oth ks s) = oth (addK ks x) := by
  funext s
  unfold oth
  by_cases e : s = x
  · rw [if_pos e, if_pos (addK_mem.2 (.inr e))]
  · rw [if_neg e]
    by_cases q : s ∈ ks
    · rw [if_pos q, if_pos (addK_mem.2 (.inl q))]
    · rw [if_neg q, if_neg (fun h => (addK_mem.1 h).elim q e)]
theorem oth_is (ks : List ByteArray) (k : ByteArray) : k ∈ ks ↔ oth ks k ≠ none := by
  unfold oth
  by_cases q : k ∈ ks
  · rw [if_pos q]; simp [q]
  · rw [if_neg q]; simp [q]
theorem neq_key {x key : ByteArray} (h : x ≠ key) : (x.toList == key.toList) = false ∧ (x.toList != key.toList) = true := by
  have := eq_key x key
  rw [decide_eq_false h] at this
  exact ⟨this, by rw [bne, this]; rfl⟩
theorem same_key {x key : ByteArray} (h : x = key) : (x.toList == key.toList) = true ∧ (x.toList != key.toList) = false := by
  have := eq_key x key
  rw [decide_eq_true h] at this
  exact ⟨this, by rw [bne, this]; rfl⟩
theorem rd_size {l : List ByteArray} (h : ∀ k ∈ l, k.size ≤ maxLen) {i : Nat} (hi : i < l.length) : (rdOf ByteArray.empty l (i : Int)).size ≤ maxLen := by
  unfold rdOf
  rw [Int.toNat_natCast, List.getD_eq_getElem?_getD, List.getElem?_eq_getElem hi]
  exact h _ (List.getElem_mem hi)
theorem C_none {α : Type} (d : Kd α) (w : World) : Kd.C d w none ([] : List α).length [] := (Kd.R_reads' (Kd.R_nil d 0 w 0 (fun _ => True))).2.2

set_option maxHeartbeats 8000000 in
set_option maxRecDepth 100000 in
theorem lasts_calls (most : Int) (key : ByteArray) (A : Option Addr) (c : Nat) (l : List ByteArray) (W : World) (hk : key.size ≤ maxLen) (hr : Kd.C Kd.string W A l.length l) (hc : l.length ≤ c) (hs : ∀ k ∈ l, k.size ≤ maxLen) :
    Calls Try.prog 3 #[.int .i64 most, .string key, .slice A l.length c] W fun e w' => e = .returned (.bool true) ∧ Below W.heap.size W w' := by
  have HR := Aside0.mk hr
  have HC := Aside0.mk hc
  have HK := Aside0.mk hk
  have HS := Aside0.mk hs
  clear hr hc hk hs
  go_enter Try.func3, Try.ntmps3
  go_wp2_with fail
  refine (awake_calls _).mono ?_
  rintro e W1 ⟨rfl, hb⟩
  have HB1 := Aside0.mk hb
  clear hb
  cases hrt : rightN most with
  | false =>
    have HN := Aside0.mk (new_bad most W1 hrt)
    clear hrt
    go_wp2_with fail
    refine HN.out.mono ?_
    rintro e W2 ⟨rfl, hb⟩
    have HB2 := Aside0.mk (below_step HB1.out hb)
    clear hb
    go_wp2_with fail
    go_ret
    exact ⟨rfl, HB2.out⟩
  | true =>
    have hmm := @run_makeMap Try.prog
    have HN := Aside0.mk (new_good (fun _ => True) most W1 W.heap.size HB1.out.size hrt)
    have HMO := Aside0.mk (show 0 ≤ most ∧ most ≤ 1000 from of_decide_eq_true hrt)
    clear hrt
    go_wp2_with fail
    refine HN.out.mono ?_
    rintro e W2 ⟨CB, MB, rfl, hi, hb, hC, hM⟩
    have HI2 := Aside0.mk hi
    have HB2 := Aside0.mk (below_step HB1.out hb)
    clear hi hb hC hM HB1 HN
    by_cases h5 : (l.length : Int) > 100
    · have h5b : decide ((l.length : Int) > 100) = true := decide_eq_true h5
      go_wp2_with fail
      go_ret
      exact ⟨rfl, HB2.out⟩
    have h5b : decide ((l.length : Int) > 100) = false := decide_eq_false h5
    have HL := Aside0.mk (show l.length ≤ 100 by omega)
    clear h5
    go_wp2_with fail
    have HI3 := Aside0.mk (HI2.out.later (below_alloc (Below.refl _ _) (.cells #[.int .i64 5] 3)))
    have HR3 := Aside0.mk (R_one (W := W2) (base := W.heap.size) 5 HB2.out.size)
    have HB3 := Aside0.mk (below_alloc HB2.out (.cells #[.int .i64 5] 3))
    clear HI2 HB2
    generalize W2.alloc (.cells #[.int .i64 5] 3) = W3 at *
    refine (put_calls (fun _ => True) W.heap.size CB MB _ most noLists [] 0 0 W3 key _ _ [5] HI3.out HB3.out.size (by simp) (fun k hk => by simp at hk) HMO.out.1 HK.out (Kd.R_reads' HR3.out).2.2 (fun _ _ => trivial) (by simp)).mono ?_
    rintro e W4 ⟨rfl, v4, hi4, ht4⟩
    have HLA := Aside0.mk (Last.start HMO.out.1 key [5] noLists)
    have HSZ := Aside0.mk (Last.sizes (most := most) (x := key) (m := setL noLists key (some [5])) (o := []) (fun k hk => by simp at hk) HK.out)
    have HB4 := Aside0.mk (HB3.out.trans (ht4.below HI3.out.hC HI3.out.hM HB3.out.size))
    have HI4 := Aside0.mk hi4
    clear hi4 ht4 HI3 HB3 HR3
    obtain ⟨m4, hm4⟩ : ∃ m4, (cutAll most (setL noLists key (some [5])) (notKey key [] ++ [key])).1 = m4 := ⟨_, rfl⟩
    obtain ⟨o4, ho4⟩ : ∃ o4, (cutAll most (setL noLists key (some [5])) (notKey key [] ++ [key])).2 = o4 := ⟨_, rfl⟩
    rw [hm4, ho4] at HLA HI4
    rw [ho4] at HSZ
    clear hm4 ho4
    go_wp2_with fail
    have HI5 := Aside0.mk (HI4.out.later (below_alloc (Below.refl _ _) (.map #[] 0)))
    have HB5 := Aside0.mk (below_alloc HB4.out (.map #[] 0))
    have HG5 := Aside0.mk (show MapG (W4.alloc (.map #[] 0)) W4.heap.size (oth []) by rw [oth_nil]; exact MapG.made W4)
    have HNE := Aside0.mk (show W4.heap.size ≠ MB from fun e => by have := HI4.out.map.lt; omega)
    have HOB := Aside0.mk HB4.out.size
    clear HI4 HB4
    obtain ⟨OB, hOB⟩ : ∃ n, W4.heap.size = n := ⟨_, rfl⟩
    rw [hOB] at HG5 HNE HOB ⊢
    clear hOB
    generalize W4.alloc (.map #[] 0) = W5 at *
    clear hmm
    go_loopg [11] l.length (fun gg s11 wr => ∃ (i : Nat) (ks : List ByteArray) (m : Lists) (o : List ByteArray) (vO : Value), s11 = .int .i64 i ∧ i ≤ l.length ∧ l.length - i ≤ gg ∧ Aside0 (Last most key [5] ks m o) ∧ Aside0 (∀ k ∈ o, k.size ≤ maxLen) ∧ Aside0 (CInv (fun _ => True) W.heap.size CB MB vO most m o 0 0 wr) ∧ Aside0 (MapG wr OB (oth ks)) ∧ Aside0 (Below W.heap.size W wr))
    case atStart => exact ⟨0, [], m4, o4, v4, rfl, by omega, by omega, HLA, HSZ, HI5, HG5, HB5⟩
    case round =>
      clear HLA HSZ HI5 HG5 HB5
      obtain ⟨i, ks, m, o, vO, rfl, hi, hg, HLA, HSZ, HI, HG, HB⟩ := hrel
      by_cases hlt : i < l.length
      · have hltz : (i : Int) < (l.length : Int) := by omega
        obtain ⟨ad, e1, hx0⟩ := Kd.at_string (Kd.C_below HR.out HB.out) (i : Int) (by omega) hltz
        subst e1
        rw [Int.toNat_natCast] at hx0
        have HXS := Aside0.mk (rd_size HS.out hlt)
        have HXC := Aside0.mk (fun (w' : World) (hb : Below W.heap.size W w') => (Kd.at_string (Kd.C_below HR.out hb) (i : Int) (by omega) hltz))
        obtain ⟨x, hx⟩ : ∃ x, rdOf ByteArray.empty l (i : Int) = x := ⟨_, rfl⟩
        rw [hx] at hx0 HXS HXC
        clear hx
        by_cases he : x = key
        · obtain ⟨n1, n2⟩ := same_key he
          clear he
          go_wp2_with fail
          go_roundg (l.length - (i + 1))
          case measure => omega
          case rel => exact ⟨i + 1, ks, m, o, vO, by have := HL.out; rw [wrap_succ (by omega)], by omega, by omega, HLA, HSZ, HI, HG, HB⟩
        · obtain ⟨n1, n2⟩ := neq_key he
          have HNK := Aside0.mk he
          clear he
          go_wp2_with fail
          refine (put_calls (fun _ => True) W.heap.size CB MB vO most m o 0 0 wr x none 0 [] HI.out HB.out.size (by have := HLA.out.len; have := HMO.out; omega) HSZ.out HMO.out.1 HXS.out (C_none _ _) (fun _ _ => trivial) (by simp)).mono ?_
          rintro e W6 ⟨rfl, v6, hi6, ht6⟩
          have HLA6 := Aside0.mk (HLA.out.step HNK.out [])
          have HSZ6 := Aside0.mk (Last.sizes (most := most) (m := setL m x (some [])) HSZ.out HXS.out)
          have HB6 := Aside0.mk (HB.out.trans (ht6.below HI.out.hC HI.out.hM HB.out.size))
          have HI6 := Aside0.mk hi6
          have HG6 := Aside0.mk (ht6.other HI.out HG.out HNE.out)
          clear hi6 ht6 HI HB HSZ HLA HG
          obtain ⟨ad', e2, hx6⟩ := HXC.out W6 HB6.out
          obtain rfl : ad = ad' := Option.some.inj e2
          rw [Int.toNat_natCast] at hx6
          obtain ⟨W7, hput, hg7, hgr7⟩ := HG6.out.putT Try.underlying30 HXS.out (.bool true)
          rw [oth_add] at hg7
          have HI7 := Aside0.mk (HI6.out.other HG6.out HNE.out hgr7)
          have HG7 := Aside0.mk hg7
          have HB7 := Aside0.mk (HB6.out.grown hgr7 HB6.out.size (fun k hk => by obtain rfl := Option.some.inj hk; exact HOB.out))
          clear hg7 hgr7 HI6 HG6 HB6 e2
          go_wp2_with fail
          go_roundg (l.length - (i + 1))
          case measure => omega
          case rel => exact ⟨i + 1, _, _, _, _, by have := HL.out; rw [wrap_succ (by omega)], by omega, by omega, HLA6, HSZ6, HI7, HG7, HB7⟩
      · obtain rfl : i = l.length := by omega
        have hltz : ¬ (l.length : Int) < (l.length : Int) := by omega
        have HLN := Aside0.mk (show o.length ≤ 1000 by have := HLA.out.len; have := HMO.out; omega)
        rcases HLA.out.is with ⟨hm, hge⟩ | ⟨hm, hlt', _⟩
        · have hd1 : decide ((ks.length : Int) < most) = false := decide_eq_false (by omega)
          have HHM := Aside0.mk hm
          clear hm hge
          go_wp2_with fail
          refine (miss_calls (fun _ => True) W.heap.size CB MB vO most m o 0 0 wr key HI.out HK.out HHM.out).mono ?_
          rintro e W6 ⟨rfl, hi6, ht6⟩
          have HB6 := Aside0.mk (HB.out.trans (ht6.below HI.out.hC HI.out.hM HB.out.size))
          have hlen := (ht6.other HI.out HG.out HNE.out).len Try.underlying30 HLA.out.nod (oth_is ks)
          clear hi6 ht6 HI HB HG HLA
          go_wp2_with fail
          go_ret
          exact ⟨by rfl, HB6.out⟩
        · have hd1 : decide ((ks.length : Int) < most) = true := decide_eq_true hlt'
          have HHM := Aside0.mk hm
          clear hm hlt'
          go_wp2_with fail
          refine (hit_calls (fun _ => True) W.heap.size CB MB vO most m o 0 0 wr key [5] HI.out HB.out.size (by have := HLN.out; omega) HK.out HHM.out (by simp)).mono ?_
          rintro e W6 ⟨u, rfl, ⟨v6, hi6⟩, ht6, hu⟩
          have HB6 := Aside0.mk (HB.out.trans (ht6.below HI.out.hC HI.out.hM HB.out.size))
          have hlen := (ht6.other HI.out HG.out HNE.out).len Try.underlying30 HLA.out.nod (oth_is ks)
          obtain ⟨Au, cu, rfl⟩ := Kd.R_slice hu
          have HU6 := Aside0.mk hu
          clear hi6 ht6 hu HI HB HG HLA
          go_wp2_with fail
          have HU7 := Aside0.mk (Kd.R_alloc HU6.out (.cells #[.int .i64 5] 3))
          have HR7 := Aside0.mk (R_one (W := W6) (base := W.heap.size) 5 HB6.out.size)
          have HB7 := Aside0.mk (below_alloc HB6.out (.cells #[.int .i64 5] 3))
          refine (same_calls Au cu [5] _ _ [5] _ (Kd.R_reads' HU7.out).2.2 (Kd.R_reads' HU7.out).2.1 (Kd.R_reads' HR7.out).2.2 (Kd.R_reads' HR7.out).2.1 (by decide)).mono ?_
          rintro e W8 ⟨rfl, hb⟩
          have HB8 := Aside0.mk (below_step HB7.out hb)
          clear hb
          go_wp2_with fail
          go_ret
          exact ⟨by rfl, HB8.out⟩
end Go.Proofs.Ytjpbcmfppmiagaa.Print
