/- The walk of scansionlaw11.awake. -/
import Derived.Test.YtemlgmkbonpniaaFLawA
import Derived.Test.YtemlgmkbonpniaaFBuild
namespace Go.Proofs.Ytemlgmkbonpniaa.Print
open Go.RowKit Go.Maps Go.Proofs.YtemlgmkbonpniaaW.PrintWords Go.Proofs.YtemlgmkbonpniaaW.PrintLast Go.Proofs.YtemlgmkbonpniaaW.PrintMore
set_option linter.unusedVariables false
set_option linter.unusedSimpArgs false
set_option maxHeartbeats 16000000 in
set_option maxRecDepth 100000 in
theorem fawake_calls (W : World) : Calls Try.prog 16 #[] W fun e w' => e = .returned (.bool true) ∧ Below W.heap.size W w' := by
 obtain ⟨K1, hK1⟩ := sameInts_f [1] (by decide)
 obtain ⟨K2, hK2⟩ := sameInts_f [2] (by decide)
 have HK1 := Aside0.mk (hK1 K1 (Nat.le_refl _))
 have HK2 := Aside0.mk (hK2 K2 (Nat.le_refl _))
 clear hK1 hK2
 have HF := Aside0.mk (show follow_Build.f 3 0 [⟨0, 0, [(⟨1, 0, []⟩ : S24), ⟨1, 1, []⟩]⟩] = some (true, [0, 1], [1], [2], [[2], [1]], 0) by unfold follow_Build.f; rw [cnt_star, if_pos (by decide), build_star])
 have b1 := below_alloc (Below.refl W.heap.size W) (.cells #[.int .i64 1, .int .i64 0, nilV, .int .i64 1, .int .i64 1, nilV] 24)
 have b2 := below_alloc (Below.refl _ (W.alloc (.cells #[.int .i64 1, .int .i64 0, nilV, .int .i64 1, .int .i64 1, nilV] 24))) (.cells #[.int .i64 0, .int .i64 0, .slice (some ⟨W.heap.size, 0, none⟩) 2 2] 24)
 have s1 : (W.alloc (.cells #[.int .i64 1, .int .i64 0, nilV, .int .i64 1, .int .i64 1, nilV] 24)).heap.size = W.heap.size + 1 := Array.size_push _
 have HB0 := Aside0.mk (b1.trans (b2.mono (by rw [s1]; omega)))
 have HC0 := Aside0.mk (one_node (X := none) (l := [(⟨1, 0, []⟩ : S24), ⟨1, 1, []⟩]) (c := 2) (blk_new (W.alloc (.cells #[.int .i64 1, .int .i64 0, nilV, .int .i64 1, .int .i64 1, nilV] 24)) (.cells #[.int .i64 0, .int .i64 0, .slice (some ⟨W.heap.size, 0, none⟩) 2 2] 24)) (Nat.le_refl _) (two_nodes (blk_below (blk_new W (.cells #[.int .i64 1, .int .i64 0, nilV, .int .i64 1, .int .i64 1, nilV] 24)) b2)))
 rw [s1] at HC0
 clear b1 b2 s1
 go_enter Try.func16, Try.ntmps16
 go_upto_region 2 with (go_at_call 18; refine (follow_Build.calls 3 0 (some ⟨W.heap.size + 1, 0, none⟩) 1 [⟨0, 0, [(⟨1, 0, []⟩ : S24), ⟨1, 1, []⟩]⟩] _ _ _ _ _ _ _ HC0.out (Nat.le_refl _) HF.out).mono ?_; rintro e W1 ⟨u1, u2, u3, u4, rfl, ho1, ho2, ho3, ho4, hb⟩; have HB1 := Aside0.mk (HB0.out.trans (hb.mono HB0.out.size)); obtain ⟨A1, c1, rfl⟩ := Kd.R_slice ho1; obtain ⟨A2, c2, rfl⟩ := Kd.R_slice ho2; obtain ⟨A3, c3, rfl⟩ := Kd.R_slice ho3; obtain ⟨A4, c4, rfl⟩ := Kd.R_slice ho4; have HO3 := Aside0.mk (Kd.R_reads' ho3); have HO4 := Aside0.mk (Kd.R_reads' ho4); clear ho1 ho2 ho3 ho4 hb)
 clear HB0 HC0 HF
 have hbn := below_alloc (Below.refl W1.heap.size W1) (.cells #[.bool true, .slice A1 2 c1, .slice A2 1 c2, .slice A3 1 c3, .slice A4 2 c4] 30)
 have HBL := Aside0.mk (blk_new W1 (.cells #[.bool true, .slice A1 2 c1, .slice A2 1 c2, .slice A3 1 c3, .slice A4 2 c4] 30))
 have HB2 := Aside0.mk (HB1.out.trans (hbn.mono HB1.out.size))
 have HR3 := Aside0.mk (Kd.C_below HO3.out.2.2 hbn)
 have HR4 := Aside0.mk (Kd.C_below HO4.out.2.2 hbn)
 have HN3 := Aside0.mk HO3.out.2.1
 clear hbn HO3 HO4 HB1
 obtain ⟨B, hB⟩ : ∃ n, W1.heap.size = n := ⟨_, rfl⟩
 obtain ⟨W2, hW2⟩ : ∃ w, W1.alloc (.cells #[.bool true, .slice A1 2 c1, .slice A2 1 c2, .slice A3 1 c3, .slice A4 2 c4] 30) = w := ⟨_, rfl⟩
 rw [hB, hW2] at HBL
 rw [hW2] at HB2 HR3 HR4
 first | rw [hW2] | skip
 rw [hB]
 clear hB hW2
 have z0 : W2.cell? ⟨B, 0, none⟩ = some (.bool true) := (blk_cell HBL.out 0).trans rfl
 have z3 : W2.cell? ⟨B, 3, none⟩ = some (.slice A3 1 c3) := (blk_cell HBL.out 3).trans rfl
 obtain ⟨ad, A5, c5, e5, hx5, hl5, hi5⟩ := at_L3 HR4.out 1 (by decide) (by decide)
 cases e5
 have HI5 := Aside0.mk hi5
 have HL5 := Aside0.mk hl5
 clear hi5 hl5
 have z4 : W2.cell? ⟨B, 4, none⟩ = some (.slice (some ad) 2 c4) := (blk_cell HBL.out 4).trans rfl
 replace hx5 : W2.cell? (ad.add 1) = some (.slice A5 1 c5) := hx5
 simp only [Nat.reduceMul, Nat.reduceEqDiff, Go.Addr.add, ↓reduceIte] at hx5
 have hba := below_alloc (Below.refl W2.heap.size W2) (.cells #[.int .i64 1] 3)
 have HBA := Aside0.mk (HB2.out.trans (hba.mono HB2.out.size))
 have HI6 := Aside0.mk (show Kd.C (Kd.int .i64) (W2.alloc (.cells #[.int .i64 1] 3)) A5 1 [1] from Kd.C_below HI5.out hba)
 have HM6 := Aside0.mk (show ([1] : List Int).length ≤ c5 from HL5.out)
 have HR6 := Aside0.mk (row_lit (W := W2) 1)
 have HR7 := Aside0.mk (show ∀ nd, Kd.C (Kd.int .i64) (((W2.alloc (.cells #[.int .i64 1] 3)).drewN nd).alloc (.cells #[.int .i64 2] 3)) (some ⟨W2.heap.size + 1, 0, none⟩) 1 [2] from fun nd => by
  have h := row_lit (W := (W2.alloc (.cells #[.int .i64 1] 3)).drewN nd) 2
  have e : ((W2.alloc (.cells #[.int .i64 1] 3)).drewN nd).heap.size = W2.heap.size + 1 := Array.size_push _
  rw [e] at h
  exact h)
 have HI7 := Aside0.mk (show ∀ nd, Kd.C (Kd.int .i64) (((W2.alloc (.cells #[.int .i64 1] 3)).drewN nd).alloc (.cells #[.int .i64 2] 3)) A3 1 [2] from fun nd => Kd.C_alloc (Kd.C_drewN (Kd.C_below HR3.out hba) _) _)
 have z33 : (W2.alloc (.cells #[.int .i64 1] 3)).cell? ⟨B, 3, none⟩ = some (.slice A3 1 c3) := cell_keep hba z3
 clear hba HI5 HL5 HR4 HBL
 have HCA := Aside0.mk (show Calls Try.prog 23 #[.slice A5 1 c5, .slice (some ⟨W2.heap.size, 0, none⟩) 1 1] (W2.alloc (.cells #[.int .i64 1] 3)) fun e w' => e = .returned (.bool true) ∧ Drawn0 (W2.alloc (.cells #[.int .i64 1] 3)) w' from scansionref01_SameInts.calls K1 A5 c5 [1] (some ⟨W2.heap.size, 0, none⟩) 1 [1] true _ HI6.out HM6.out HR6.out (Nat.le_refl _) HK1.out)
 have HCB := Aside0.mk (show ∀ nd, Calls Try.prog 23 #[.slice A3 1 c3, .slice (some ⟨W2.heap.size + 1, 0, none⟩) 1 1] (((W2.alloc (.cells #[.int .i64 1] 3)).drewN nd).alloc (.cells #[.int .i64 2] 3)) fun e w' => e = .returned (.bool true) ∧ Drawn0 (((W2.alloc (.cells #[.int .i64 1] 3)).drewN nd).alloc (.cells #[.int .i64 2] 3)) w' from fun nd => scansionref01_SameInts.calls K2 A3 c3 [2] (some ⟨W2.heap.size + 1, 0, none⟩) 1 [2] true _ (HI7.out nd) HN3.out (HR7.out nd) (Nat.le_refl _) HK2.out)
 clear HI6 HM6 HR6 HR7 HI7
 go_wp2_with (go_at_call 23; first | ((with_reducible refine HCA.out.mono ?_); rintro e w' ⟨rfl, ⟨nd, rfl⟩⟩) | ((with_reducible refine (HCB.out _).mono ?_); rintro e w' ⟨rfl, ⟨nd2, rfl⟩⟩))
 go_ret
 exact ⟨rfl, by repeat (first | (with_reducible first | exact HB2.out | apply below_alloc | apply pw_below_drewN | apply below_drew1) | exact HB2.out)⟩
end Go.Proofs.Ytemlgmkbonpniaa.Print
