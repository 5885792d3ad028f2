/- The reference's states of bytes are the program's. -/
import Derived.Test.YtjcgbjkjkgkklaaPrint17
import Derived.Test.YtjcgbjkjkgkklaaPrint18
import Derived.Test.YtjcgbjkjkgkklaaLawM
-- NEEDS scansionref14_row scansionref14_Load
namespace Go.Proofs.Ytjcgbjkjkgkklaa.Pure
open Go.RowKit Go.Proofs.Ytjcgbjkjkgkklaa.Print Go.Proofs.YtjcgbjkjkgkklaaW.PrintWords Go.Proofs.YtjcgbjkjkgkklaaW.PrintLast
set_option linter.unusedVariables false
set_option linter.unusedSimpArgs false

theorem ev_refTold {b : List Int} (hb : ∀ x ∈ b, 0 ≤ x ∧ x ≤ 255) : Ev (fun k => scansionref14_Told.f k b) (toldOf b) := ⟨12, fun k hk => refTold_k b (rd_byte hb) k hk⟩

def refRowGo (cls : Int) : Nat → List Int → List Int → List Int × List Int × Bool
  | 0, row, m => (row, m, true)
  | K + 1, row, m => if (row.length : Int) < cls then (if (toldOf m).2.2 ≠ 0 ∨ (toldOf m).1 < 1 ∨ cls - row.length < (toldOf m).1 then ([], [], false)
      else (if (toldOf (m.drop (toldOf m).2.1.toNat)).2.2 ≠ 0 then ([], [], false) else refRowGo cls K (row ++ List.replicate (toldOf m).1.toNat (toldOf (m.drop (toldOf m).2.1.toNat)).1) ((m.drop (toldOf m).2.1.toNat).drop (toldOf (m.drop (toldOf m).2.1.toNat)).2.1.toNat))) else (row, m, true)

theorem ev_row_l1 (cls s : Int) (m row : List Int) (v : Nat) (hv : (row.length : Int) + v ≤ 200) {r : List Int × List Int × Bool} (h : Ev (fun k => scansionref14_row.l0 k m cls (row ++ List.replicate v s)) r) :
    ∀ (c j : Nat), j + c = v → Ev (fun k => scansionref14_row.l1 k m cls (row ++ List.replicate j s) v s j) r
  | 0, j, hj => by
    obtain rfl : j = v := by omega
    refine Ev.succ h fun k => ?_
    rw [scansionref14_row.l1, if_neg (by omega)]
  | c + 1, j, hj => by
    refine Ev.succ (ev_row_l1 cls s m row v hv h c (j + 1) (by omega)) fun k => ?_
    rw [scansionref14_row.l1, if_pos (by omega), if_pos (by rw [List.length_append, List.length_replicate]; omega), wrap_succ (by omega), List.append_assoc, ← List.replicate_succ']

theorem ev_row_l0 (cls : Int) (hc : 0 ≤ cls ∧ cls ≤ 200) : ∀ (K : Nat) (row m : List Int), (∀ x ∈ m, 0 ≤ x ∧ x ≤ 255) → m.length ≤ maxLen → (row.length : Int) ≤ cls → cls - row.length < K → Ev (fun k => scansionref14_row.l0 k m cls row) (refRowGo cls K row m)
  | 0, row, m, hb, hm, hl, hK => by omega
  | K + 1, row, m, hb, hm, hl, hK => by
    rw [refRowGo]
    by_cases c : (row.length : Int) < cls
    · rw [if_pos c]
      have bad : ∀ (v many : Int), Ev (fun k => scansionref14_row.j1 k m cls row v many true) ([], [], false) := fun v many => Ev.succ (Ev.some_ _) fun k => by rw [scansionref14_row.j1, if_pos rfl]
      by_cases q : (toldOf m).2.2 ≠ 0 ∨ (toldOf m).1 < 1 ∨ cls - row.length < (toldOf m).1
      · rw [if_pos q]
        refine Ev.succ (g := fun k => (scansionref14_Told.f k m).bind fun bt247 => (if bt247.2.2 = 0 then (if bt247.1 < 1 then (scansionref14_row.j1 k m cls row bt247.1 bt247.2.1 true) else (scansionref14_row.j1 k m cls row bt247.1 bt247.2.1 (decide (bt247.1 > (wrap64 (cls - (row.length : Int))))))) else (scansionref14_row.j1 k m cls row bt247.1 bt247.2.1 true))) (Ev.bind (ev_refTold hb) (Ev.congr (bad (toldOf m).1 (toldOf m).2.1) fun k => ?_)) fun k => by rw [scansionref14_row.l0, if_pos c]
        by_cases q1 : (toldOf m).2.2 = 0
        · rw [if_pos q1]
          by_cases q2 : (toldOf m).1 < 1
          · rw [if_pos q2]
          · rw [if_neg q2, w64 (by omega) (by omega), decide_eq_true (by omega)]
        · rw [if_neg q1]
      · rw [if_neg q]
        simp only [not_or, Decidable.not_not, Int.not_lt] at q
        obtain ⟨q1, q2, q3⟩ := q
        have hmany := told_many m q1
        have hb1 : ∀ x ∈ m.drop (toldOf m).2.1.toNat, 0 ≤ x ∧ x ≤ 255 := fun x hx => hb x (List.mem_of_mem_drop hx)
        have hm1 : (m.drop (toldOf m).2.1.toNat).length ≤ maxLen := by rw [List.length_drop]; omega
        obtain ⟨v, hv⟩ : ∃ v : Nat, (toldOf m).1 = (v : Int) := ⟨(toldOf m).1.toNat, by omega⟩
        obtain ⟨m1, hm1'⟩ : ∃ x, m.drop (toldOf m).2.1.toNat = x := ⟨_, rfl⟩
        rw [hm1'] at hb1 hm1 ⊢
        have inner : Ev (fun k => scansionref14_row.j1 k m cls row (toldOf m).1 (toldOf m).2.1 false) (if (toldOf m1).2.2 ≠ 0 then ([], [], false) else refRowGo cls K (row ++ List.replicate (toldOf m).1.toNat (toldOf m1).1) (m1.drop (toldOf m1).2.1.toNat)) := by
          refine Ev.succ (g := fun k => (scansionref14_Told.f k m1).bind fun bt255 => (if bt255.2.2 = 0 then (if 0 ≤ bt255.2.1 then (if bt255.2.1 ≤ (m1.length : Int) then (scansionref14_row.l1 k (m1.drop (bt255.2.1 : Int).toNat) cls row (toldOf m).1 bt255.1 0) else (none)) else (none)) else (some (([] : List Int), ([] : List Int), false)))) (Ev.bind (ev_refTold hb1) ?_) fun k => ?_
          · by_cases p : (toldOf m1).2.2 = 0
            · rw [if_neg (by simpa using p)]
              have hmany2 := told_many m1 p
              have ih := ev_row_l0 cls hc K (row ++ List.replicate v (toldOf m1).1) (m1.drop (toldOf m1).2.1.toNat) (fun x hx => hb1 x (List.mem_of_mem_drop hx)) (by rw [List.length_drop]; omega) (by rw [List.length_append, List.length_replicate]; omega) (by rw [List.length_append, List.length_replicate]; omega)
              have := ev_row_l1 cls (toldOf m1).1 (m1.drop (toldOf m1).2.1.toNat) row v (by omega) ih v 0 (by omega)
              rw [hv, Int.toNat_natCast]
              refine Ev.congr this fun k => ?_
              rw [if_pos p, if_pos (by omega), if_pos (by omega)]
              simp
            · rw [if_pos p]
              refine Ev.congr (Ev.some_ _) fun k => ?_
              rw [if_neg p]
          · rw [scansionref14_row.j1, if_neg (by decide), if_pos (by omega), if_pos (by omega), Option.bind_some, hm1']
        refine Ev.succ (g := fun k => (scansionref14_Told.f k m).bind fun bt247 => (if bt247.2.2 = 0 then (if bt247.1 < 1 then (scansionref14_row.j1 k m cls row bt247.1 bt247.2.1 true) else (scansionref14_row.j1 k m cls row bt247.1 bt247.2.1 (decide (bt247.1 > (wrap64 (cls - (row.length : Int))))))) else (scansionref14_row.j1 k m cls row bt247.1 bt247.2.1 true))) (Ev.bind (ev_refTold hb) (Ev.congr inner fun k => ?_)) fun k => by rw [scansionref14_row.l0, if_pos c]
        rw [if_pos q1, if_neg (by omega), w64 (by omega) (by omega), decide_eq_false (by omega)]
    · rw [if_neg c]
      refine Ev.succ (Ev.some_ _) fun k => ?_
      rw [scansionref14_row.l0, if_neg c]

theorem refRow_sub (cls : Int) : ∀ (K : Nat) (row m : List Int) {x : Int}, x ∈ (refRowGo cls K row m).2.1 → x ∈ m
  | 0, row, m, x, h => h
  | K + 1, row, m, x, h => by
    rw [refRowGo] at h
    split at h
    · split at h
      · cases h
      · split at h
        · cases h
        · exact List.mem_of_mem_drop (List.mem_of_mem_drop (refRow_sub cls K _ _ h))
    · exact h
theorem refRow_len (cls : Int) : ∀ (K : Nat) (row m : List Int), (refRowGo cls K row m).2.1.length ≤ m.length
  | 0, row, m => Nat.le_refl _
  | K + 1, row, m => by
    rw [refRowGo]
    split
    · split
      · simp
      · split
        · simp
        · refine Nat.le_trans (refRow_len cls K _ _) ?_
          rw [List.length_drop, List.length_drop]; omega
    · exact Nat.le_refl _

theorem refRow_of (cls : Int) (hc : cls ≤ 2147483646) (rest : List Int) : ∀ (P : List (Int × Int)) (K : Nat) (row : List Int), Good P → (∀ p ∈ P, 0 ≤ p.2 ∧ p.2 ≤ 2147483647) → ((row.length : Int) + (expand P).length = cls) → P.length + 1 ≤ K → refRowGo cls K row (flatP P ++ rest) = (row ++ expand P, rest, true)
  | [], K, row, _, _, hl, hK => by
    obtain ⟨K, rfl⟩ : ∃ k, K = k + 1 := ⟨K - 1, by simp at hK; omega⟩
    simp [expand] at hl
    rw [refRowGo, if_neg (by omega)]
    simp [flatP, expand]
  | p :: P, K, row, hg, hr, hl, hK => by
    obtain ⟨K, rfl⟩ : ∃ k, K = k + 1 := ⟨K - 1, by simp at hK; omega⟩
    have h1 := hg.1
    have h2 := hr p (List.mem_cons_self ..)
    rw [expand_cons, List.length_append, List.length_replicate] at hl
    have hlt : (row.length : Int) < cls := by omega
    have t1 := told_numOf p.1 (by omega) (by omega) (numOf p.2 ++ (flatP P ++ rest))
    have t2 := told_numOf p.2 h2.1 h2.2 (flatP P ++ rest)
    rw [flatP_cons, refRowGo, if_pos hlt, t1]
    simp only [Int.toNat_natCast, List.drop_left, t2]
    rw [if_neg (by simp; omega), if_neg (by simp)]
    rw [refRow_of cls hc rest P K (row ++ List.replicate p.1.toNat p.2) hg.2.2 (fun q hq => hr q (List.mem_cons_of_mem _ hq)) (by rw [List.length_append, List.length_replicate]; omega) (by simp at hK; omega), expand_cons, List.append_assoc]

def refLoadGo (cls : Int) : Nat → List (List Int) → List Bool → List Int → Option (List (List Int) × List Bool)
  | 0, a, b, m => some (a, b)
  | k + 1, a, b, m => if m.length = 0 then none else (if (refRowGo cls 201 [] (m.drop 1)).2.2 = true then refLoadGo cls k (a ++ [(refRowGo cls 201 [] (m.drop 1)).1]) (b ++ [rd m 0 == 1]) (refRowGo cls 201 [] (m.drop 1)).2.1 else none)

def finR (l : List Int) : Option (List (List Int) × List Bool) → List (List Int) × List Bool × Int
  | none => ([], [], 2)
  | some (a, b) => if rightB a b = true ∧ saveOf a b = l then (a, b, 0) else ([], [], 2)

theorem ev_loadR_l0 (l : List Int) (hl : ∀ x ∈ l, 0 ≤ x ∧ x ≤ 255) (n cls : Int) (hn : 0 ≤ n ∧ n ≤ 5000) (hc : 0 ≤ cls ∧ cls ≤ 200) : ∀ (c i : Nat) (a : List (List Int)) (b : List Bool) (m : List Int), (i : Int) + c = n → a.length = i → b.length = i → (∀ x ∈ m, 0 ≤ x ∧ x ≤ 255) → m.length ≤ maxLen →
    Ev (fun k => scansionref14_Load.l0 k l n cls m i a b) (finR l (refLoadGo cls c a b m))
  | 0, i, a, b, m, hi, ha, hb, hm, hml => by
    rw [refLoadGo]
    refine Ev.succ (g := fun k => (scansionref14_Save.f k a b).bind fun bt291 => (if bt291.2 = 0 then (if (strOfNums bt291.1).toList = (strOfNums l).toList then (some (a, b, 0)) else (some (([] : List (List Int)), ([] : List Bool), 2))) else (some (([] : List (List Int)), ([] : List Bool), 2)))) (Ev.bind (ev_save a b) ?_) fun k => by rw [scansionref14_Load.l0, if_neg (by omega)]
    by_cases g : rightB a b = true
    · by_cases e : saveOf a b = l
      · rw [show finR l (some (a, b)) = (a, b, 0) from by rw [finR, if_pos ⟨g, e⟩]]
        refine Ev.congr (Ev.some_ _) fun k => ?_
        rw [if_pos g, if_pos rfl, if_pos (by rw [e])]
      · rw [show finR l (some (a, b)) = ([], [], 2) from by rw [finR, if_neg (fun h => e h.2)]]
        refine Ev.congr (Ev.some_ _) fun k => ?_
        rw [if_pos g, if_pos rfl, if_neg (fun h => e (bytes_inj _ _ (saveOf_byte a b g) hl h))]
    · rw [show finR l (some (a, b)) = ([], [], 2) from by rw [finR, if_neg (fun h => g h.1)]]
      refine Ev.congr (Ev.some_ _) fun k => ?_
      rw [if_neg g, if_neg (by simp)]
  | c + 1, i, a, b, m, hi, ha, hb, hm, hml => by
    rw [refLoadGo]
    by_cases z : m.length = 0
    · rw [if_pos z, finR]
      refine Ev.succ (Ev.some_ _) fun k => ?_
      rw [scansionref14_Load.l0, if_pos (by omega), if_pos (by omega)]
    · rw [if_neg z]
      have hm1 : ∀ x ∈ m.drop 1, 0 ≤ x ∧ x ≤ 255 := fun x hx => hm x (List.mem_of_mem_drop hx)
      have hrow := ev_row_l0 cls hc 201 [] (m.drop 1) hm1 (by rw [List.length_drop]; omega) (by simp; omega) (by simp; omega)
      have hsub := fun x => refRow_sub cls 201 [] (m.drop 1) (x := x)
      have hlen := refRow_len cls 201 [] (m.drop 1)
      obtain ⟨r1, r2, r3, hr⟩ : ∃ r1 r2 r3, refRowGo cls 201 [] (m.drop 1) = (r1, r2, r3) := ⟨_, _, _, rfl⟩
      rw [hr] at hrow hsub hlen ⊢
      refine Ev.succ (g := fun k => (scansionref14_row.f k (m.drop 1) cls).bind fun bt300 => (if bt300.2.2 = true then (if a.length < 5864062014805 then (if 0 < (m.length : Int) then (if b.length < 140737488355328 then (scansionref14_Load.l0 k l n cls bt300.2.1 (wrap64 ((i : Int) + 1)) (a ++ [bt300.1]) (b ++ [((rd m 0) == 1)])) else (none)) else (none)) else (none)) else (some (([] : List (List Int)), ([] : List Bool), 2)))) (Ev.bind (a := (r1, r2, r3)) hrow ?_) fun k => by rw [scansionref14_Load.l0, if_pos (by omega), if_neg (by omega), if_pos (by omega)]
      cases r3 with
      | true =>
        rw [if_pos rfl]
        have ih := ev_loadR_l0 l hl n cls hn hc c (i + 1) (a ++ [r1]) (b ++ [rd m 0 == 1]) r2 (by omega) (by simp [ha]) (by simp [hb]) (fun x hx => hm1 x (hsub x hx)) (by rw [List.length_drop] at hlen; dsimp only at hlen; omega)
        refine Ev.congr ih fun k => ?_
        rw [if_pos rfl, if_pos (by omega), if_pos (by omega), if_pos (by omega), wrap_succ (by omega)]
      | false =>
        rw [if_neg (by simp), finR]
        refine Ev.congr (Ev.some_ _) fun k => ?_
        rw [if_neg (by simp)]

theorem refLoad_of (n cls : Int) (hn : n ≤ 2147483647) (hc : cls ≤ 200) : ∀ (rs : List (List Int)) (fs : List Bool) (a : List (List Int)) (b : List Bool), rs.length = fs.length → (∀ r ∈ rs, (r.length : Int) = cls ∧ ∀ x ∈ r, 0 ≤ x ∧ x < n) → refLoadGo cls rs.length a b (bytesUp n fs rs) = some (a ++ rs, b ++ fs)
  | [], [], a, b, _, _ => by simp [refLoadGo]
  | r :: rs, f :: fs, a, b, hl, hr => by
    have h1 := hr r (List.mem_cons_self ..)
    obtain ⟨g1, g2⟩ := rle_spec r
    have hP : ∀ p ∈ rle r, 0 ≤ p.2 ∧ p.2 ≤ 2147483647 := fun p hp => by
      have hp1 : 1 ≤ p.1 := by
        have : ∀ P : List (Int × Int), Good P → ∀ p ∈ P, 1 ≤ p.1 := by
          intro P
          induction P with
          | nil => intro _ p hp; cases hp
          | cons q P ih => intro hg p hp; rcases List.mem_cons.1 hp with rfl | hp; exact hg.1; exact ih hg.2.2 p hp
        exact this _ g2 p hp
      have := h1.2 p.2 (by rw [← g1]; exact List.mem_flatMap.2 ⟨p, hp, List.mem_replicate.2 ⟨by omega, rfl⟩⟩)
      omega
    have hlen : (rle r).length ≤ r.length := by rw [← runs_rle]; exact runs_len r
    have hrow := refRow_of cls (by omega) (bytesUp n fs rs) (rle r) 201 [] g2 hP (by rw [g1]; simp; omega) (by omega)
    rw [g1, List.nil_append] at hrow
    have hd : bytesUp n (f :: fs) (r :: rs) = (if f = true then 1 else 0) :: (flatP (rle r) ++ bytesUp n fs rs) := by rw [bytesUp, rowBytes_cons]
    rw [List.length_cons, refLoadGo, hd]
    simp only [List.drop_succ_cons, List.drop_zero, hrow]
    rw [if_neg (by simp), if_pos trivial]
    have hf : (rd ((if f = true then (1 : Int) else 0) :: (flatP (rle r) ++ bytesUp n fs rs)) 0 == 1) = f := by cases f <;> rfl
    rw [hf, refLoad_of n cls hn hc rs fs (a ++ [r]) (b ++ [f]) (by simpa using hl) (fun q hq => hr q (List.mem_cons_of_mem _ hq))]
    simp

/-- Whatever the reference would make of bytes: if it is not what the program tells, it is refused. -/
theorem finR_eq (l : List Int) (hb : ∀ x ∈ l, 0 ≤ x ∧ x ≤ 255) (o : Option (List (List Int) × List Bool)) (h : ∀ a b, loadOf l = (a, b, 0) → rightB a b = true → saveOf a b = l → o = some (a, b)) : finR l o = loadOf l := by
  rcases load_inv l hb with e | ⟨a, b, e, hr, hs⟩
  · cases o with
    | none => rw [finR, e]
    | some p =>
      obtain ⟨a, b⟩ := p
      rw [finR, e]
      by_cases q : rightB a b = true ∧ saveOf a b = l
      · exfalso
        have := load_save a b q.1
        rw [q.2, e] at this
        injection this with _ this
        injection this with _ this
        cases this
      · rw [if_neg q]
  · rw [h a b e hr hs, finR, e, if_pos ⟨hr, hs⟩]

theorem ev_refLoad (l : List Int) (hb : ∀ x ∈ l, 0 ≤ x ∧ x ≤ 255) (hl : l.length ≤ maxLen) : Ev (fun k => scansionref14_Load.f k l) (loadOf l) := by
  have bad : Ev (fun k => scansionref14_Load.j0 k l true) ([], [], 2) := Ev.succ (Ev.some_ _) fun k => by rw [scansionref14_Load.j0, if_pos rfl]
  have form : ∀ a b, rightB a b = true → saveOf a b = l → l = 83 :: 68 :: (numOf a.length ++ (numOf (rd_L2 a 0).length ++ bytesUp a.length b a)) := fun a b hr hs => by
    obtain ⟨h1, h2, h3, h4, h5, h6⟩ := (rightB_iff a b).1 hr
    rw [← hs]
    unfold saveOf
    rw [rowsUp_bytes a.length a b h3.symm]
    simp
  have hno : (∀ a b, rightB a b = true → saveOf a b = l → False) → loadOf l = ([], [], 2) := fun h => by
    rcases load_inv l hb with e | ⟨a, b, e, hr, hs⟩
    · exact e
    · exact (h a b hr hs).elim
  by_cases g1 : (l.length : Int) < 4
  · rw [hno (fun a b hr hs => by
      have e := congrArg List.length (form a b hr hs)
      have n1 : 0 < (numGo 10 (mx (a.length : Int) 0)).length := numGo_pos 9 _
      have n2 : 0 < (numGo 10 (mx ((rd_L2 a 0).length : Int) 0)).length := numGo_pos 9 _
      have e1 : (numOf a.length).length = (numGo 10 (mx (a.length : Int) 0)).length := rfl
      have e2 : (numOf (rd_L2 a 0).length).length = (numGo 10 (mx ((rd_L2 a 0).length : Int) 0)).length := rfl
      simp only [List.length_cons, List.length_append] at e
      omega)]
    refine Ev.congr bad fun k => ?_
    rw [scansionref14_Load.f, if_pos g1]
  by_cases g2n : ¬ (rd l 0 = 83)
  · have g2 := g2n
    rw [hno (fun a b hr hs => g2 (by rw [form a b hr hs]; rfl))]
    refine Ev.congr bad fun k => ?_
    rw [scansionref14_Load.f, if_neg g1, if_pos (by omega), if_neg g2]
  have g2 := Decidable.not_not.1 g2n
  by_cases g3n : ¬ (rd l 1 = 68)
  · have g3 := g3n
    rw [hno (fun a b hr hs => g3 (by rw [form a b hr hs]; rfl))]
    refine Ev.congr bad fun k => ?_
    rw [scansionref14_Load.f, if_neg g1, if_pos (by omega), if_pos g2, if_pos (by omega), bne_iff_ne.2 g3]
  have g3 := Decidable.not_not.1 g3n
  obtain ⟨m0, hm0⟩ : ∃ m, l.drop 2 = m := ⟨_, rfl⟩
  have hl0 : m0.length + 2 = l.length := by rw [← hm0, List.length_drop]; omega
  have hb0 : ∀ x ∈ m0, 0 ≤ x ∧ x ≤ 255 := fun x hx => hb x (by rw [← hm0] at hx; exact List.mem_of_mem_drop hx)
  have form0 : ∀ a b, rightB a b = true → saveOf a b = l → m0 = numOf a.length ++ (numOf (rd_L2 a 0).length ++ bytesUp a.length b a) := fun a b hr hs => by rw [← hm0, form a b hr hs]; rfl
  have top : ∀ {r}, Ev (fun k => (scansionref14_Told.f k m0).bind fun bt274 => (if bt274.2.2 = 0 then (scansionref14_Load.j1 k l bt274.1 bt274.2.1 (decide (bt274.1 > 5000))) else (scansionref14_Load.j1 k l bt274.1 bt274.2.1 true))) r → Ev (fun k => scansionref14_Load.f k l) r := fun h => Ev.succ h fun k => by
    rw [scansionref14_Load.f, if_neg g1, if_pos (by omega), if_pos g2, if_pos (by omega), show (rd l 1 != 68) = false from by rw [g3]; rfl, scansionref14_Load.j0, if_neg (by decide), if_pos (by omega), hm0]
  refine top (Ev.bind (ev_refTold hb0) ?_)
  obtain ⟨n, many, er, ht⟩ : ∃ n many er, toldOf m0 = (n, many, er) := ⟨_, _, _, rfl⟩
  have bad1 : ∀ x y, Ev (fun k => scansionref14_Load.j1 k l x y true) ([], [], 2) := fun x y => Ev.succ (Ev.some_ _) fun k => by rw [scansionref14_Load.j1, if_pos rfl]
  have tn : ∀ a b, rightB a b = true → saveOf a b = l → n = a.length ∧ many = (numOf a.length).length ∧ er = 0 := fun a b hr hs => by
    have h2 := right_len hr
    have := told_numOf (a.length : Int) (by omega) (by omega) (numOf (rd_L2 a 0).length ++ bytesUp a.length b a)
    rw [← form0 a b hr hs, ht] at this
    injection this with e1 this
    injection this with e2 e3
    exact ⟨e1, e2, e3⟩
  rw [ht]
  by_cases q1n : ¬ (er = 0)
  · have q1 := q1n
    rw [hno (fun a b hr hs => q1 (tn a b hr hs).2.2)]
    refine Ev.congr (bad1 n many) fun k => ?_
    rw [if_neg q1]
  have q1 := Decidable.not_not.1 q1n
  subst q1
  have hinv := told_inv m0 hb0 (by rw [ht])
  have hmany := told_many m0 (by rw [ht])
  rw [ht] at hinv hmany
  dsimp only at hinv hmany
  by_cases q2 : n > 5000
  · rw [hno (fun a b hr hs => by have := (tn a b hr hs).1; have := right_len hr; omega)]
    refine Ev.congr (bad1 n many) fun k => ?_
    rw [if_pos rfl, decide_eq_true q2]
  obtain ⟨m1, hm1⟩ : ∃ m, m0.drop many.toNat = m := ⟨_, rfl⟩
  have hd1 : l.drop (wrap64 (2 + many)).toNat = m1 := by
    rw [w64 (by unfold maxLen at hl; omega) (by unfold maxLen at hl; omega), ← hm1, ← hm0, List.drop_drop]
    congr 1
    omega
  have hl1 : m1.length + many.toNat = m0.length := by rw [← hm1, List.length_drop]; omega
  have hb1 : ∀ x ∈ m1, 0 ≤ x ∧ x ≤ 255 := fun x hx => hb0 x (by rw [← hm1] at hx; exact List.mem_of_mem_drop hx)
  have form1 : ∀ a b, rightB a b = true → saveOf a b = l → m1 = numOf (rd_L2 a 0).length ++ bytesUp a.length b a := fun a b hr hs => by
    rw [← hm1, form0 a b hr hs, (tn a b hr hs).2.1, Int.toNat_natCast, List.drop_left]
  obtain ⟨cls, many2, er2, hu⟩ : ∃ n many er, toldOf m1 = (n, many, er) := ⟨_, _, _, rfl⟩
  have tc : ∀ a b, rightB a b = true → saveOf a b = l → cls = (rd_L2 a 0).length ∧ many2 = (numOf (rd_L2 a 0).length).length ∧ er2 = 0 := fun a b hr hs => by
    obtain ⟨_, _, _, _, h5, _⟩ := (rightB_iff a b).1 hr
    have := told_numOf ((rd_L2 a 0).length : Int) (by omega) (by omega) (bytesUp a.length b a)
    rw [← form1 a b hr hs, hu] at this
    injection this with e1 this
    injection this with e2 e3
    exact ⟨e1, e2, e3⟩
  have bad2 : ∀ x y z u, Ev (fun k => scansionref14_Load.j2 k l x y z u true) ([], [], 2) := fun x y z u => Ev.succ (Ev.some_ _) fun k => by rw [scansionref14_Load.j2, if_pos rfl]
  have top1 : ∀ {r}, Ev (fun k => (scansionref14_Told.f k m1).bind fun bt282 => (if bt282.2.2 = 0 then (scansionref14_Load.j2 k l n many bt282.1 bt282.2.1 (decide (bt282.1 > 200))) else (scansionref14_Load.j2 k l n many bt282.1 bt282.2.1 true))) r → Ev (fun k => if ((n, many, 0) : Int × Int × Int).2.2 = 0 then scansionref14_Load.j1 k l ((n, many, 0) : Int × Int × Int).1 ((n, many, 0) : Int × Int × Int).2.1 (decide (((n, many, 0) : Int × Int × Int).1 > 5000)) else scansionref14_Load.j1 k l ((n, many, 0) : Int × Int × Int).1 ((n, many, 0) : Int × Int × Int).2.1 true) r := fun h => Ev.succ h fun k => by
    dsimp only
    rw [if_pos rfl, decide_eq_false q2, scansionref14_Load.j1, if_neg (by decide), if_pos (by rw [w64 (by unfold maxLen at hl; omega) (by unfold maxLen at hl; omega)]; omega), if_pos (by rw [w64 (by unfold maxLen at hl; omega) (by unfold maxLen at hl; omega)]; omega), hd1]
  refine top1 (Ev.bind (ev_refTold hb1) ?_)
  rw [hu]
  by_cases p1n : ¬ (er2 = 0)
  · have p1 := p1n
    rw [hno (fun a b hr hs => p1 (tc a b hr hs).2.2)]
    refine Ev.congr (bad2 n many cls many2) fun k => ?_
    rw [if_neg p1]
  have p1 := Decidable.not_not.1 p1n
  subst p1
  have hinv2 := told_inv m1 hb1 (by rw [hu])
  have hmany2 := told_many m1 (by rw [hu])
  rw [hu] at hinv2 hmany2
  dsimp only at hinv2 hmany2
  by_cases p2 : cls > 200
  · rw [hno (fun a b hr hs => by have := (tc a b hr hs).1; have := ((rightB_iff a b).1 hr).2.2.2.2.1; omega)]
    refine Ev.congr (bad2 n many cls many2) fun k => ?_
    rw [if_pos rfl, decide_eq_true p2]
  obtain ⟨m2, hm2⟩ : ∃ m, m1.drop many2.toNat = m := ⟨_, rfl⟩
  have hd2 : l.drop (wrap64 (wrap64 (2 + many) + many2)).toNat = m2 := by
    rw [w64 (x := 2 + many) (by unfold maxLen at hl; omega) (by unfold maxLen at hl; omega), w64 (by unfold maxLen at hl; omega) (by unfold maxLen at hl; omega), ← hm2, ← hm1, ← hm0, List.drop_drop, List.drop_drop]
    congr 1
    omega
  have hl2 : m2.length ≤ m1.length := by rw [← hm2, List.length_drop]; omega
  have hb2 : ∀ x ∈ m2, 0 ≤ x ∧ x ≤ 255 := fun x hx => hb1 x (by rw [← hm2] at hx; exact List.mem_of_mem_drop hx)
  have hfin := finR_eq l hb (refLoadGo cls n.toNat [] [] m2) (fun a b e hr hs => by
    obtain ⟨h1, h2, h3, h4, h5, h6⟩ := (rightB_iff a b).1 hr
    have e2 : m2 = bytesUp a.length b a := by rw [← hm2, form1 a b hr hs, (tc a b hr hs).2.1, Int.toNat_natCast, List.drop_left]
    rw [(tn a b hr hs).1, (tc a b hr hs).1, Int.toNat_natCast, e2]
    have := refLoad_of a.length (rd_L2 a 0).length (by omega) (by omega) a b [] [] h3.symm h6
    simpa using this)
  have hi0 : 0 ≤ n := hinv.1
  have hc0 : 0 ≤ cls := hinv2.1
  have := ev_loadR_l0 l hb n cls (by omega) (by omega) n.toNat 0 [] [] m2 (by omega) rfl rfl hb2 (by omega)
  rw [hfin] at this
  refine Ev.succ this fun k => ?_
  dsimp only
  rw [if_pos rfl, decide_eq_false p2, scansionref14_Load.j2, if_neg (by decide), if_pos (by rw [w64 (x := 2 + many) (by unfold maxLen at hl; omega) (by unfold maxLen at hl; omega), w64 (by unfold maxLen at hl; omega) (by unfold maxLen at hl; omega)]; omega), if_pos (by rw [w64 (x := 2 + many) (by unfold maxLen at hl; omega) (by unfold maxLen at hl; omega), w64 (by unfold maxLen at hl; omega) (by unfold maxLen at hl; omega)]; omega), hd2]
  rfl
end Go.Proofs.Ytjcgbjkjkgkklaa.Pure
