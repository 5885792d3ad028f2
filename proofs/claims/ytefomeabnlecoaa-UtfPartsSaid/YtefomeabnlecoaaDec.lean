/- The contract of the reference's Decode, walked by hand: it tells the program's units. -/
import Derived.Test.YtefomeabnlecoaaFirst
import Derived.Test.YtefomeabnlecoaaCollect
import Derived.Test.YtefomeabnlecoaaLawC
import Derived.Test.YtefomeabnlecoaaLawD
namespace Go.Proofs.Ytefomeabnlecoaa.Print
open Go.RowKit Go.Shelf Go.Proofs.YtefomeabnlecoaaW.PrintWords Go.Proofs.YtefomeabnlecoaaW.PrintLast Go.Proofs.YtefomeabnlecoaaW.PrintMore
set_option linter.unusedVariables false
set_option linter.unusedSimpArgs false

theorem dec_cell {w8 w9 : World} {u : Value} {d0 d1 d2 d3 e0 e1 e2 e3 : Value} (hg : ((w8.alloc (.cells #[d0, d1, d2, d3] 35)).alloc (.cells #[e0, e1, e2, e3] 35)).grownBy w9 u.ownBlock) (hb : ∀ k, u.ownBlock = some k → k < w8.heap.size) :
    w9.cell? ⟨w8.heap.size, 2, none⟩ = some d2 := by
  have h1 : w9.heap[w8.heap.size]? = some (.cells #[d0, d1, d2, d3] 35 (0, 0)) :=
    (hg.block w8.heap.size (by simp; omega) (fun e => by have := hb _ e.symm; omega)).trans ((Below.heap_alloc _ _ _ (by simp)).trans (World.alloc_heap_new w8 _))
  simp [World.cell?, h1]
theorem dec_below {w w8 w9 : World} {u : Value} {o1 o2 : Obj} {n : Nat} {xs : List Value} (h8 : Below w.heap.size w w8) (hg : ((w8.alloc o1).alloc o2).grownBy w9 u.ownBlock) (ho : w8.ownsRow w.heap.size 35 4 u n xs) : Below w.heap.size w w9 :=
  ((h8.alloc h8.size o1).alloc (by have := h8.size; simp; omega) o2).grown hg (by have := h8.size; simp; omega) (own_base ho)

set_option maxRecDepth 100000 in
set_option maxHeartbeats 4000000 in
theorem refDecode_calls (A0 : Option Addr) (c0 : Nat) (l0 : List Int) (w : World) (hr0 : Kd.C (Kd.int .u8) w A0 l0.length l0) (hc0 : l0.length ≤ c0) (hs : Pure.IsBytes l0) (hN : l0.length ≤ 4000000000) :
    Calls Try.prog 14 #[.slice A0 l0.length c0] w fun e w' => ∃ v0_ : Value, e = .returned (v0_) ∧ w'.ownsRow w.heap.size 35 4 v0_ (units l0).length (flat35 (units l0)) ∧ Below w.heap.size w w' := by
  obtain ⟨i0, hi, hz0, hz1, hz2⟩ := info_parts info35
  have HR := Aside0.mk hr0
  have HC := Aside0.mk hc0
  have HS := Aside0.mk hs
  clear hr0 hc0 hs
  go_enter Try.func14, Try.ntmps14
  go_wp2_with fail
  go_loopg [3, 4] (l0.length + 1) (fun gg v3 v4 wr => ∃ (p : Nat) (pre : List S35), v4 = .int .i64 p ∧ p ≤ l0.length ∧ pre.length ≤ p ∧ l0.length - p < gg ∧ Aside0 (units l0 = pre ++ Pure.from_ l0 p) ∧ Aside0 (wr.ownsRow w.heap.size 35 4 v3 pre.length (flat35 pre)) ∧ Aside0 (Below w.heap.size w wr))
  case atStart => exact ⟨0, [], rfl, by omega, by simp, by omega, ⟨rfl⟩, ⟨World.ownsRow_nil _ _ _ _⟩, ⟨Below.refl _ w⟩⟩
  case round =>
    obtain ⟨p, pre, rfl, hp, hpre, hgk, HU, HO, HB⟩ := hrel
    by_cases hlt : p < l0.length
    · have hltz : (p : Int) < (l0.length : Int) := by omega
      obtain ⟨i07, hi07, _, hsz7, _⟩ := info_parts Try.info5'
      obtain ⟨A7, hcut7, hA7, hC7⟩ := print_drop_of (P := Try.prog) (Value.int .u8) 0 23 5 .i64 Try.underlying23 hi07 hsz7 A0 c0 l0 (p : Int) (by omega) (by omega) HC.out
      have hr7 : Kd.C (Kd.int .u8) wr A7 (l0.drop (p : Int).toNat).length (l0.drop (p : Int).toNat) := Kd.C_of_reads (h1 := fun _ => rfl) (hA7 _ (Kd.reads_of_C (Kd.C_below HR.out HB.out)))
      rw [Int.toNat_natCast] at hcut7 hr7 hC7
      have hfc := first_calls A7 (c0 - p) (l0.drop p) wr hr7 hC7 (HS.out.drop p) (by rw [List.length_drop]; omega)
      rw [Pure.verdict_dec _ (HS.out.drop p) (by rw [List.length_drop]; omega)] at hfc
      have hdl : (l0.drop p).length = l0.length - p := List.length_drop
      rw [hdl] at hfc hcut7
      have HF := Aside0.mk hfc
      have hu := Pure.unit_f2 l0 HS.out p hltz
      have he := Pure.unitAt_dec l0 p hp
      have HE := Aside0.mk he
      have he2 : (unitAt l0 p).f2 = (Pure.dec (l0.drop p)).f2 := by rw [he]
      rw [he2] at hu
      have HU2 := Aside0.mk (show units l0 = (pre ++ [unitAt l0 p]) ++ Pure.from_ l0 ((p : Int) + (Pure.dec (l0.drop p)).f2) by
        rw [HU.out, Pure.from_step l0 HS.out p (by omega) hltz, he2, List.append_assoc]; rfl)
      obtain ⟨hu1, hu2, hu3⟩ := hu
      clear hfc hA7 hC7 hi07 hsz7 hr7 hdl he he2 HU
      have hov := HO.out
      go_wp2_with fail
      refine HF.out.mono ?_
      rintro e w8 ⟨rfl, hb⟩
      generalize Pure.dec (l0.drop p) = d at *
      have hB8 : Below w.heap.size w w8 := HB.out.trans (hb.mono HB.out.size)
      have ho8 : w8.ownsRow w.heap.size 35 4 u3 pre.length (flat35 pre) := pw_own_below hov hb
      have HB8 := Aside0.mk hB8
      have HO8 := Aside0.mk ho8
      have hs8 := hB8.size
      clear hb hB8 ho8 hov HF HB HO
      have hb0 := own_lt HO8.out
      have HB0 := Aside0.mk hb0
      have C1 := cell_unit_new (w8.alloc (.cells #[.int .i64 d.f0, .int .i64 (p : Int), .int .i64 d.f2, .bool d.f3] 35)) ⟨d.f0, (p : Int), d.f2, d.f3⟩
      rw [World.size_alloc] at C1
      have HC1 := Aside0.mk C1
      clear C1
      clear hb0
      go_wp2_with (at_builtin; refine wpList_append_own _ rfl _ _ 28 rfl w.heap.size 35 i0 (.agg #[.int .i64 0, .int .i64 0, .int .i64 0, .bool false]) 4 32 Try.underlying28 hi hz0 hz1 hz2 rfl (by decide) u3 pre.length (flat35 pre) rfl ((HO8.out.alloc _).alloc _) ⟨w8.heap.size + 1, 0, none⟩ 1 1 (cells35 ⟨d.f0, (p : Int), d.f2, d.f3⟩) rfl rfl ?c1 ?c2 ?c3 ?c4 ?c5 ?_; (case c1 => exact HC1.out); (case c2 => simp [cells35, Value.oneCell']); (case c3 => unfold maxLen; omega); (case c4 => omega); (case c5 => simp; omega); intro v' w9 hown' hgrow _; have hc2 := dec_cell hgrow HB0.out; have HO9 := Aside0.mk hown'; have HG9 := Aside0.mk hgrow; clear hown' hgrow)
      have hB9 := dec_below HB8.out HG9.out HO8.out
      go_roundg (gk - 1)
      case measure => omega
      case rel => exact ⟨p + d.f2.toNat, pre ++ [⟨d.f0, (p : Int), d.f2, d.f3⟩], by rw [show ((p + d.f2.toNat : Nat) : Int) = (p : Int) + d.f2 from by omega], by omega, by rw [List.length_append, List.length_singleton]; omega, by omega, ⟨by rw [HU2.out, HE.out, show ((p + d.f2.toNat : Nat) : Int) = (p : Int) + d.f2 from by omega]⟩, ⟨by rw [List.length_append, List.length_singleton, flat35_snoc]; exact HO9.out⟩, ⟨hB9⟩⟩
    · have hltz : ¬ (p : Int) < (l0.length : Int) := by omega
      have hU := HU.out
      rw [Pure.from_end l0 p hltz, List.append_nil] at hU
      have HU3 := Aside0.mk hU
      clear hU HU
      go_wp2_with fail
      go_ret
      exact ⟨_, rfl, by rw [HU3.out]; exact HO.out, HB.out⟩

/-- What the reference's Decode comes to: asked of bytes, not too many. -/
def scansionref01_Decode.f (l : List Int) : Option (List S35) := if (∀ x ∈ l, 0 ≤ x ∧ x ≤ 255) ∧ l.length ≤ 4000000000 then some (units l) else none

theorem scansionref01_Decode.calls (A0 : Option Addr) (c0 : Nat) (l0 : List Int) (r : List (S35)) (w : World) (hr0 : Kd.C (Kd.int .u8) w A0 l0.length l0) (hc0 : l0.length ≤ c0) (h : scansionref01_Decode.f l0 = some r) :
    Calls Try.prog 14 #[.slice A0 l0.length c0] w fun e w' => ∃ v0_ : Value, e = .returned (v0_) ∧ Kd.R k35 35 w' w.heap.size (fun _ => True) v0_ r ∧ Below w.heap.size w w' := by
  unfold scansionref01_Decode.f at h
  by_cases hc : (∀ x ∈ l0, 0 ≤ x ∧ x ≤ 255) ∧ l0.length ≤ 4000000000
  · rw [if_pos hc] at h
    obtain rfl := Option.some.inj h
    refine (refDecode_calls A0 c0 l0 w hr0 hc0 hc.1 hc.2).mono ?_
    rintro e w' ⟨v, rfl, ho, hb⟩
    exact ⟨v, rfl, R35_of_own ho, hb⟩
  · rw [if_neg hc] at h; cases h

#print axioms scansionref01_Decode.calls
end Go.Proofs.Ytefomeabnlecoaa.Print
