/- A step at both caches: they do not part. -/
import Derived.Test.YtjpbcmfppmiagaaKeptL
import Derived.Test.YtjpbcmfppmiagaaSame
namespace Go.Proofs.Ytjpbcmfppmiagaa.Print
open Go.RowKit Go.Maps Go.Proofs.YtjpbcmfppmiagaaW.PrintWords Go.Proofs.YtjpbcmfppmiagaaW.PrintLast Go.Proofs.YtjpbcmfppmiagaaW.PrintMore
set_option linter.unusedVariables false
set_option linter.unusedSimpArgs false

/-- Both caches, alike. -/
structure Both (W0 : World) (CB MB RB : Nat) (W : World) (vO : Value) (A : Option Addr) (c : Nat) (most : Int) (m : Lists) (o : List ByteArray) (h nt : Int) : Prop where
  ours : CInv (fun _ => True) W0.heap.size CB MB vO most m o h nt W
  ref : RInv W0.heap.size RB A c most (keptOf m o) h nt W
  cs : CS most m o
  lim : 0 ≤ most ∧ most ≤ 1000
  bel : Below W0.heap.size W0 W
  hRB : W0.heap.size ≤ RB
def AllAlike (W0 : World) (CB MB RB : Nat) (W : World) : Prop := ∃ vO A c most m o h nt, Both W0 CB MB RB W vO A c most m o h nt
section
variable {W0 W W' : World} {CB MB RB : Nat} {vO : Value} {A : Option Addr} {c : Nat} {most : Int} {m : Lists} {o : List ByteArray} {h nt : Int}
theorem Both.small (hb : Both W0 CB MB RB W vO A c most m o h nt) : o.length ≤ 1000 ∧ (keptOf m o).length ≤ 1000 := by
  have h1 := hb.cs.len
  have h2 := hb.lim
  rw [keptOf_len]
  omega
theorem Both.later (hb : Both W0 CB MB RB W vO A c most m o h nt) (hl : Below W.heap.size W W') : Both W0 CB MB RB W' vO A c most m o h nt :=
  ⟨hb.ours.later hl, hb.ref.later hl, hb.cs, hb.lim, below_step hb.bel hl, hb.hRB⟩
theorem below_ref {B : World} (hb : Below W0.heap.size W0 W) (hR : W0.heap.size ≤ RB) (hg : W.grownBy W' (some RB)) : Below W0.heap.size W0 W' := hb.grown hg hb.size (fun k hk => by obtain rfl := Option.some.inj hk; exact hR)
end
set_option maxHeartbeats 16000000 in
set_option maxRecDepth 100000 in
theorem step_calls (W0 : World) (CB MB RB : Nat) (W : World) (vO : Value) (A : Option Addr) (c : Nat) (most : Int) (m : Lists) (o : List ByteArray) (h nt : Int) (do_ num : Int) (key : ByteArray) (A1 : Option Addr) (c1 : Nat) (lst : List Int)
    (hb : Both W0 CB MB RB W vO A c most m o h nt) (hk : key.size ≤ maxLen) (hl : lst.length ≤ 17592186043904) (hC : Kd.C (Kd.int .i64) W0 A1 lst.length lst) :
    Calls Try.prog 17 #[.pointer (some ⟨CB, 0, none⟩), .pointer (some ⟨RB, 0, none⟩), .agg #[.int .i64 do_, .int .i64 num, .string key, .slice A1 lst.length c1]] W fun e w' => e = .returned (.bool true) ∧ AllAlike W0 CB MB RB w' := by
  have HKS := Aside0.mk hk
  have HLL := Aside0.mk hl
  have HLC := Aside0.mk hC
  have HB := Aside0.mk (hb.later (below_alloc (Below.refl W.heap.size W) (.cells #[.int .i64 do_, .int .i64 num, .string key, .slice A1 lst.length c1] 45)))
  have HSB := Aside0.mk (blk_new W (.cells #[.int .i64 do_, .int .i64 num, .string key, .slice A1 lst.length c1] 45))
  clear hb hk hl hC
  go_enter Try.func17, Try.ntmps17
  by_cases q0 : do_ = 0
  · subst q0
    go_wp2_with fail
    obtain ⟨SB, hSB⟩ : ∃ n, W.heap.size = n := ⟨_, rfl⟩
    rw [hSB] at HSB ⊢
    clear hSB
    generalize W.alloc (.cells #[.int .i64 0, .int .i64 num, .string key, .slice A1 lst.length c1] 45) = W1 at *
    refine (put_calls (fun _ => True) W0.heap.size CB MB vO most m o h nt W1 key A1 c1 lst HB.out.ours HB.out.bel.size (by have := HB.out.small; omega) HB.out.cs.sz HB.out.lim.1 HKS.out (Kd.C_below HLC.out HB.out.bel) (fun _ _ => trivial) HLL.out).mono ?_
    rintro e W2 ⟨rfl, v2, hi2, ht2⟩
    have HI2 := Aside0.mk hi2
    have HR2 := Aside0.mk (HB.out.ref.turn ht2 HB.out.ours)
    have HB2 := Aside0.mk (HB.out.bel.trans (ht2.below HB.out.ours.hC HB.out.ours.hM HB.out.bel.size))
    have HS2 := Aside0.mk (ht2.cells HSB.out (by decide) (fun e => by subst e; have h2 := HB.out.ours.blk; rw [HSB.out] at h2; cases h2) (HB.out.ours.map.ne HSB.out))
    have HCS := Aside0.mk (CS.put HB.out.lim.1 HB.out.cs HKS.out HLL.out)
    have HPK := Aside0.mk (put_kept (x := key) (l := lst) HB.out.cs HB.out.lim.1)
    have HSM := Aside0.mk HB.out.small
    have HLM := Aside0.mk (And.intro HB.out.lim HB.out.hRB)
    clear hi2 ht2 HB HSB
    have z2 := (blk_cell HS2.out 2).trans rfl
    have z3 := (blk_cell HS2.out 3).trans rfl
    go_wp2_with fail
    refine (rput_calls W0.heap.size RB A c most (keptOf m o) h nt W2 key A1 c1 lst HR2.out HB2.out.size (by have := HSM.out; omega) W0 HB2.out HLM.out.2 HLC.out HLL.out).mono ?_
    rintro e W3 ⟨rfl, ⟨A3, c3, hi3⟩, hg3⟩
    rw [HPK.out] at hi3
    have HF := Aside0.mk (show AllAlike W0 CB MB RB W3 from ⟨v2, A3, c3, most, _, _, h, nt, HI2.out.ref HR2.out.blk hg3, hi3, HCS.out, HLM.out.1, below_ref (B := W0) HB2.out HLM.out.2 hg3, HLM.out.2⟩)
    clear hi3 hg3 z2 z3
    go_wp2_with fail
    go_ret
    exact ⟨rfl, HF.out⟩
  by_cases q1 : do_ = 1
  · subst q1
    cases hm : m key with
    | none =>
      have HM := Aside0.mk hm
      clear hm
      go_wp2_with fail
      obtain ⟨SB, hSB⟩ : ∃ n, W.heap.size = n := ⟨_, rfl⟩
      rw [hSB] at HSB ⊢
      clear hSB
      generalize W.alloc (.cells #[.int .i64 1, .int .i64 num, .string key, .slice A1 lst.length c1] 45) = W1 at *
      refine (miss_calls (fun _ => True) W0.heap.size CB MB vO most m o h nt W1 key HB.out.ours HKS.out HM.out).mono ?_
      rintro e W2 ⟨rfl, hi2, ht2⟩
      have HI2 := Aside0.mk hi2
      have HR2 := Aside0.mk (HB.out.ref.turn ht2 HB.out.ours)
      have HB2 := Aside0.mk (HB.out.bel.trans (ht2.below HB.out.ours.hC HB.out.ours.hM HB.out.bel.size))
      have HS2 := Aside0.mk (ht2.cells HSB.out (by decide) (fun e => by subst e; have h2 := HB.out.ours.blk; rw [HSB.out] at h2; cases h2) (HB.out.ours.map.ne HSB.out))
      have HLK := Aside0.mk (show lookK key (keptOf m o) = none by rw [look_kept HB.out.cs, HM.out])
      have HCS := Aside0.mk HB.out.cs
      have HSM := Aside0.mk HB.out.small
      have HLM := Aside0.mk (And.intro HB.out.lim HB.out.hRB)
      clear hi2 ht2 HB HSB
      have z2 := (blk_cell HS2.out 2).trans rfl
      go_wp2_with fail
      refine (rmiss_calls W0.heap.size RB A c most (keptOf m o) h nt W2 key HR2.out (by have := HSM.out; omega) HLK.out).mono ?_
      rintro e W3 ⟨rfl, hi3, hg3⟩
      have HF := Aside0.mk (show Both W0 CB MB RB W3 vO A c most m o h (wrap64 (nt + 1)) from ⟨HI2.out.ref HR2.out.blk hg3, hi3, HCS.out, HLM.out.1, below_ref (B := W0) HB2.out HLM.out.2 hg3, HLM.out.2⟩)
      clear hi3 hg3 z2
      go_wp2_with fail
      refine (same_calls none 0 [] none 0 [] W3 (C_none _ _) (Nat.le_refl _) (C_none _ _) (Nat.le_refl _) (by decide)).mono ?_
      rintro e W4 ⟨rfl, hb4⟩
      have HF4 := Aside0.mk (HF.out.later hb4)
      clear hb4
      rw [decide_eq_true rfl]
      go_wp2_with fail
      go_ret
      exact ⟨rfl, _, _, _, _, _, _, _, _, HF4.out⟩
    | some lm =>
      have HM := Aside0.mk hm
      clear hm
      go_wp2_with fail
      obtain ⟨SB, hSB⟩ : ∃ n, W.heap.size = n := ⟨_, rfl⟩
      rw [hSB] at HSB ⊢
      clear hSB
      generalize W.alloc (.cells #[.int .i64 1, .int .i64 num, .string key, .slice A1 lst.length c1] 45) = W1 at *
      refine (hit_calls (fun _ => True) W0.heap.size CB MB vO most m o h nt W1 key lm HB.out.ours HB.out.bel.size (by have := HB.out.small; omega) HKS.out HM.out (HB.out.cs.ll key lm HM.out)).mono ?_
      rintro e W2 ⟨u, rfl, ⟨v2, hi2⟩, ht2, hu⟩
      obtain ⟨Au, cu, rfl⟩ := Kd.R_slice hu
      have HU := Aside0.mk (show (Kd.int .i64).R 3 W2 W0.heap.size (fun _ => True) (.slice Au lm.length cu) lm from Kd.R_mono hu (fun _ _ => trivial))
      have HI2 := Aside0.mk hi2
      have HR2 := Aside0.mk (HB.out.ref.turn ht2 HB.out.ours)
      have HB2 := Aside0.mk (HB.out.bel.trans (ht2.below HB.out.ours.hC HB.out.ours.hM HB.out.bel.size))
      have HS2 := Aside0.mk (ht2.cells HSB.out (by decide) (fun e => by subst e; have h2 := HB.out.ours.blk; rw [HSB.out] at h2; cases h2) (HB.out.ours.map.ne HSB.out))
      have HLK := Aside0.mk (show lookK key (keptOf m o) = some lm by rw [look_kept HB.out.cs, HM.out])
      have HAD := Aside0.mk (hit_kept HB.out.cs HM.out)
      have hko : key ∈ o := by
        cases Classical.em (key ∈ o) with
        | inl h => exact h
        | inr h => have := (HB.out.cs.is key).2 h; rw [HM.out] at this; cases this
      have HCS := Aside0.mk (CS.hit HB.out.cs hko)
      have HSM := Aside0.mk HB.out.small
      have HLN := Aside0.mk (HB.out.cs.ll key lm HM.out)
      have HLM := Aside0.mk (And.intro HB.out.lim HB.out.hRB)
      clear hi2 ht2 HB HSB hu hko
      have z2 := (blk_cell HS2.out 2).trans rfl
      go_wp2_with fail
      refine (rhit_calls W0.heap.size RB A c most (keptOf m o) h nt W2 key lm HR2.out HB2.out.size (by have := HSM.out; omega) HLK.out).mono ?_
      rintro e W3 ⟨Av, cv, rfl, ⟨A3, c3, hi3⟩, hg3, hvl, hvC⟩
      rw [HAD.out] at hi3
      have HF := Aside0.mk (show Both W0 CB MB RB W3 v2 A3 c3 most m (notKey key o ++ [key]) (wrap64 (h + 1)) nt from ⟨HI2.out.ref HR2.out.blk hg3, hi3, HCS.out, HLM.out.1, below_ref (B := W0) HB2.out HLM.out.2 hg3, HLM.out.2⟩)
      have HU3 := Aside0.mk (R_ref HR2.out.blk HU.out hg3)
      have HV3 := Aside0.mk (And.intro hvl hvC)
      clear hi3 hg3 z2 hvl hvC HU
      go_wp2_with fail
      refine (same_calls Au cu lm Av cv lm W3 (Kd.R_reads' HU3.out).2.2 (Kd.R_reads' HU3.out).2.1 HV3.out.2 HV3.out.1 (by have := HLN.out; omega)).mono ?_
      rintro e W4 ⟨rfl, hb4⟩
      have HF4 := Aside0.mk (HF.out.later hb4)
      clear hb4
      rw [decide_eq_true rfl]
      go_wp2_with fail
      go_ret
      exact ⟨rfl, _, _, _, _, _, _, _, _, HF4.out⟩
  by_cases q2 : do_ = 2
  · subst q2
    go_wp2_with fail
    obtain ⟨SB, hSB⟩ : ∃ n, W.heap.size = n := ⟨_, rfl⟩
    rw [hSB] at HSB ⊢
    clear hSB
    generalize W.alloc (.cells #[.int .i64 2, .int .i64 num, .string key, .slice A1 lst.length c1] 45) = W1 at *
    refine (drop_calls (fun _ => True) W0.heap.size CB MB vO most m o h nt W1 key HB.out.ours HB.out.bel.size (by have := HB.out.small; omega) HKS.out).mono ?_
    rintro e W2 ⟨rfl, ⟨v2, hi2⟩, ht2⟩
    have HI2 := Aside0.mk hi2
    have HR2 := Aside0.mk (HB.out.ref.turn ht2 HB.out.ours)
    have HB2 := Aside0.mk (HB.out.bel.trans (ht2.below HB.out.ours.hC HB.out.ours.hM HB.out.bel.size))
    have HS2 := Aside0.mk (ht2.cells HSB.out (by decide) (fun e => by subst e; have h2 := HB.out.ours.blk; rw [HSB.out] at h2; cases h2) (HB.out.ours.map.ne HSB.out))
    have HCS := Aside0.mk (CS.drop (x := key) HB.out.cs)
    have HDK := Aside0.mk (drop_kept (x := key) HB.out.cs)
    have HSM := Aside0.mk HB.out.small
    have HLM := Aside0.mk (And.intro HB.out.lim HB.out.hRB)
    clear hi2 ht2 HB HSB
    have z2 := (blk_cell HS2.out 2).trans rfl
    go_wp2_with fail
    refine (rdrop_calls W0.heap.size RB A c most (keptOf m o) h nt W2 key HR2.out HB2.out.size (by have := HSM.out; omega)).mono ?_
    rw [HDK.out.1, HDK.out.2]
    rintro e W3 ⟨rfl, ⟨A3, c3, hi3⟩, hg3⟩
    have HF := Aside0.mk (show AllAlike W0 CB MB RB W3 from ⟨v2, A3, c3, most, _, _, h, nt, HI2.out.ref HR2.out.blk hg3, hi3, HCS.out, HLM.out.1, below_ref (B := W0) HB2.out HLM.out.2 hg3, HLM.out.2⟩)
    clear hi3 hg3 z2
    obtain ⟨bb, hbb⟩ : ∃ b, (m key).isSome = b := ⟨_, rfl⟩
    rw [hbb]
    have hbe : (bb == bb) = true := by simp
    clear hbb
    go_wp2_with fail
    go_ret
    exact ⟨by simp, HF.out⟩
  · cases hrt : rightN num with
    | false =>
      have HN := Aside0.mk hrt
      clear hrt
      go_wp2_with fail
      obtain ⟨SB, hSB⟩ : ∃ n, W.heap.size = n := ⟨_, rfl⟩
      rw [hSB] at HSB ⊢
      clear hSB
      generalize W.alloc (.cells #[.int .i64 do_, .int .i64 num, .string key, .slice A1 lst.length c1] 45) = W1 at *
      refine (resize_bad num _ W1 HN.out).mono ?_
      rintro e W2 ⟨rfl, hb2⟩
      have HB2 := Aside0.mk (HB.out.later hb2)
      have HS2 := Aside0.mk (blk_below HSB.out hb2)
      clear hb2 HB HSB
      have z2 := (blk_cell HS2.out 1).trans rfl
      go_wp2_with fail
      refine (rresize_bad num _ W2 HN.out).mono ?_
      rintro e W3 ⟨rfl, hb3⟩
      have HB3 := Aside0.mk (HB2.out.later hb3)
      clear hb3 z2
      go_wp2_with fail
      go_ret
      exact ⟨rfl, _, _, _, _, _, _, _, _, HB3.out⟩
    | true =>
      have HN := Aside0.mk hrt
      obtain ⟨n, rfl⟩ : ∃ n : Nat, num = n := ⟨num.toNat, by have : 0 ≤ num ∧ num ≤ 1000 := of_decide_eq_true hrt; omega⟩
      have HN2 := Aside0.mk (show 0 ≤ (n : Int) ∧ (n : Int) ≤ 1000 from of_decide_eq_true hrt)
      clear hrt
      go_wp2_with fail
      obtain ⟨SB, hSB⟩ : ∃ n, W.heap.size = n := ⟨_, rfl⟩
      rw [hSB] at HSB ⊢
      clear hSB
      generalize W.alloc (.cells #[.int .i64 do_, .int .i64 n, .string key, .slice A1 lst.length c1] 45) = W1 at *
      refine (resize_good (fun _ => True) W0.heap.size CB MB vO most m o h nt W1 n HB.out.ours HB.out.bel.size (by have := HB.out.small; omega) HB.out.cs.sz HN.out).mono ?_
      rintro e W2 ⟨rfl, ⟨v2, hi2⟩, ht2⟩
      have HI2 := Aside0.mk hi2
      have HR2 := Aside0.mk (HB.out.ref.turn ht2 HB.out.ours)
      have HB2 := Aside0.mk (HB.out.bel.trans (ht2.below HB.out.ours.hC HB.out.ours.hM HB.out.bel.size))
      have HS2 := Aside0.mk (ht2.cells HSB.out (by decide) (fun e => by subst e; have h2 := HB.out.ours.blk; rw [HSB.out] at h2; cases h2) (HB.out.ours.map.ne HSB.out))
      have HCS := Aside0.mk (CS.cut HB.out.cs HN2.out.1)
      have HCA := Aside0.mk (cutAll_last (m := m) n HB.out.cs.nod)
      have HSM := Aside0.mk HB.out.small
      have HLM := Aside0.mk (And.intro HB.out.lim HB.out.hRB)
      clear hi2 ht2 HB HSB
      have z2 := (blk_cell HS2.out 1).trans rfl
      go_wp2_with fail
      refine (rresize_good W0.heap.size RB A c most (keptOf m o) h nt W2 n HR2.out HB2.out.size (by have := HSM.out; omega) HN.out).mono ?_
      rintro e W3 ⟨rfl, ⟨A3, c3, hi3⟩, hg3⟩
      rw [← HCA.out] at hi3
      have HF := Aside0.mk (show AllAlike W0 CB MB RB W3 from ⟨v2, A3, c3, n, _, _, h, nt, HI2.out.ref HR2.out.blk hg3, hi3, HCS.out, HN2.out, below_ref (B := W0) HB2.out HLM.out.2 hg3, HLM.out.2⟩)
      clear hi3 hg3 z2
      go_wp2_with fail
      go_ret
      exact ⟨rfl, HF.out⟩
end Go.Proofs.Ytjpbcmfppmiagaa.Print
