/- States that tell the same have the same fewest states; the fewest states tell the same as those they were made of. -/
import Derived.Test.YtadhjjfodpmelaaLawK
namespace Go.Proofs.Ytadhjjfodpmelaa.Pure
open Go.RowKit Go.Proofs.Ytadhjjfodpmelaa.Print Go.Proofs.YtadhjjfodpmelaaW.PrintWords Go.Proofs.YtadhjjfodpmelaaW.PrintLast
set_option linter.unusedVariables false
set_option linter.unusedSimpArgs false

/-- The state behind a word. -/
def runI (a : List (List Int)) : Int → List Int → Int
  | s, [] => s
  | s, c :: w => runI a (rd (rd_L1 a s) c) w
def WordOk (m : Nat) (w : List Int) : Prop := ∀ c ∈ w, 0 ≤ c ∧ c < m
theorem runI_snoc (a : List (List Int)) : ∀ (w : List Int) (s c : Int), runI a s (w ++ [c]) = rd (rd_L1 a (runI a s w)) c
  | [], s, c => rfl
  | d :: w, s, c => by
    rw [List.cons_append, runI, runI]
    exact runI_snoc a w _ c

structure Bis (a : List (List Int)) (b : List Bool) (a' : List (List Int)) (b' : List Bool) (n n' m : Nat) (R : Nat → Nat → Prop) : Prop where
  zero : R 0 0
  lt : ∀ s s', R s s' → s < n ∧ s' < n'
  finals : ∀ s s', R s s' → fin b s = fin b' s'
  step : ∀ s s' c, R s s' → c < m → R (nx a s c) (nx a' s' c)

section
variable {a a' : List (List Int)} {b b' : List Bool} {n n' m : Nat} {R : Nat → Nat → Prop}
theorem Bis.run (hw : Wf a b n m) (hw' : Wf a' b' n' m) (h : Bis a b a' b' n n' m R) : ∀ (w : List Int) (s s' : Nat), WordOk m w → R s s' → ∃ t t' : Nat, runI a s w = t ∧ runI a' s' w = t' ∧ R t t'
  | [], s, s', _, hr => ⟨s, s', rfl, rfl, hr⟩
  | c :: w, s, s', hc, hr => by
    have h1 := hc c (List.mem_cons_self ..)
    obtain ⟨d, rfl⟩ : ∃ d : Nat, c = d := ⟨c.toNat, by omega⟩
    have h2 := h.lt s s' hr
    obtain ⟨t, t', e1, e2, e3⟩ := Bis.run hw hw' h w (nx a s d) (nx a' s' d) (fun x hx => hc x (List.mem_cons_of_mem _ hx)) (h.step s s' d hr (by omega))
    refine ⟨t, t', ?_, ?_, e3⟩
    · rw [runI, (hw.nx h2.1 (by omega)).2]; exact e1
    · rw [runI, (hw'.nx h2.2 (by omega)).2]; exact e2
theorem Bis.D_iff (h : Bis a b a' b' n n' m R) : ∀ (r : Nat) (s s' t t' : Nat), R s s' → R t t' → (D a b m r s t ↔ D a' b' m r s' t')
  | 0, s, s', t, t', hs, ht => by
    show fin b s ≠ fin b t ↔ fin b' s' ≠ fin b' t'
    rw [h.finals s s' hs, h.finals t t' ht]
  | r + 1, s, s', t, t', hs, ht => by
    show D a b m r s t ∨ (∃ c, c < m ∧ D a b m r (nx a s c) (nx a t c)) ↔ D a' b' m r s' t' ∨ (∃ c, c < m ∧ D a' b' m r (nx a' s' c) (nx a' t' c))
    rw [Bis.D_iff h r s s' t t' hs ht]
    exact or_congr_right ⟨fun ⟨c, hc, hd⟩ => ⟨c, hc, (Bis.D_iff h r _ _ _ _ (h.step s s' c hs hc) (h.step t t' c ht hc)).1 hd⟩, fun ⟨c, hc, hd⟩ => ⟨c, hc, (Bis.D_iff h r _ _ _ _ (h.step s s' c hs hc) (h.step t t' c ht hc)).2 hd⟩⟩
theorem Bis.told (h : Bis a b a' b' n n' m R) {s s' t t' : Nat} (hs : R s s') (ht : R t t') : Told a b m s t ↔ Told a' b' m s' t' :=
  ⟨fun ⟨r, hd⟩ => ⟨r, (h.D_iff r s s' t t' hs ht).1 hd⟩, fun ⟨r, hd⟩ => ⟨r, (h.D_iff r s s' t t' hs ht).2 hd⟩⟩

/-! ### the same fewest states -/
variable {kind kind' : List Int}
def Good (R : Nat → Nat → Prop) (p : Int × Int) : Prop := ∃ s s' : Nat, p = ((s : Int), (s' : Int)) ∧ R s s'
theorem met_pair (h : Bis a b a' b' n n' m R) (hk : ∀ i k, i < n → k < n → (rd kind i = rd kind k ↔ ¬ Told a b m i k)) (hk' : ∀ i k, i < n' → k < n' → (rd kind' i = rd kind' k ↔ ¬ Told a' b' m i k)) {P : List (Int × Int)} (hP : ∀ p ∈ P, Good R p) {y : Int × Int} (hy : Good R y) :
    ∃ P2 : List (Int × Int), metO kind (P.map Prod.fst) y.1 = P2.map Prod.fst ∧ metO kind' (P.map Prod.snd) y.2 = P2.map Prod.snd ∧ (∀ p ∈ P2, Good R p) ∧ metV kind (P.map Prod.fst) y.1 = metV kind' (P.map Prod.snd) y.2 := by
  obtain ⟨t, t', rfl, ht⟩ := hy
  have key : ∀ p ∈ P, (rd kind p.1 = rd kind (t : Int) ↔ rd kind' p.2 = rd kind' (t' : Int)) := fun p hp => by
    obtain ⟨s, s', rfl, hs⟩ := hP p hp
    have h1 := h.lt s s' hs
    have h2 := h.lt t t' ht
    rw [hk s t h1.1 h2.1, hk' s' t' h1.2 h2.2, h.told hs ht]
  have hm : rd kind (t : Int) ∈ (P.map Prod.fst).map (rd kind) ↔ rd kind' (t' : Int) ∈ (P.map Prod.snd).map (rd kind') := by
    rw [List.map_map, List.map_map, List.mem_map, List.mem_map]
    exact ⟨fun ⟨p, hp, e⟩ => ⟨p, hp, (key p hp).1 e⟩, fun ⟨p, hp, e⟩ => ⟨p, hp, (key p hp).2 e⟩⟩
  have hi : ((P.map Prod.fst).map (rd kind)).idxOf (rd kind (t : Int)) = ((P.map Prod.snd).map (rd kind')).idxOf (rd kind' (t' : Int)) := by
    clear hm hP
    induction P with
    | nil => rfl
    | cons p P ih =>
      have ih := ih (fun x hx => key x (List.mem_cons_of_mem _ hx))
      have hy := key p (List.mem_cons_self ..)
      simp only [List.map_cons]
      rw [List.idxOf_cons, List.idxOf_cons, ih]
      by_cases q : rd kind p.1 = rd kind (t : Int)
      · rw [beq_iff_eq.2 q, beq_iff_eq.2 (hy.1 q)]
      · rw [beq_eq_false_iff_ne.2 q, beq_eq_false_iff_ne.2 (fun e => q (hy.2 e))]
  unfold metO metV
  by_cases q : rd kind (t : Int) ∈ (P.map Prod.fst).map (rd kind)
  · refine ⟨P, ?_, ?_, hP, ?_⟩
    · rw [if_pos q]
    · rw [if_pos (hm.1 q)]
    · rw [if_pos q, if_pos (hm.1 q), hi]
  · refine ⟨P ++ [((t : Int), (t' : Int))], ?_, ?_, fun p hp => ?_, ?_⟩
    · rw [if_neg q]; simp
    · rw [if_neg (fun e => q (hm.2 e))]; simp
    · rcases List.mem_append.1 hp with hp | hp
      · exact hP p hp
      · rw [List.mem_singleton] at hp; exact ⟨t, t', hp, ht⟩
    · rw [if_neg q, if_neg (fun e => q (hm.2 e)), List.length_map, List.length_map]
theorem row_pair (h : Bis a b a' b' n n' m R) (hk : ∀ i k, i < n → k < n → (rd kind i = rd kind k ↔ ¬ Told a b m i k)) (hk' : ∀ i k, i < n' → k < n' → (rd kind' i = rd kind' k ↔ ¬ Told a' b' m i k)) {P : List (Int × Int)} (hP : ∀ p ∈ P, Good R p) {l l' : List Int} (hl : ∀ c : Nat, c < m → Good R (rd l c, rd l' c)) :
    ∀ j, j ≤ m → ∃ P2 : List (Int × Int), (rowUp kind (P.map Prod.fst) l j).2 = P2.map Prod.fst ∧ (rowUp kind' (P.map Prod.snd) l' j).2 = P2.map Prod.snd ∧ (∀ p ∈ P2, Good R p) ∧ (rowUp kind (P.map Prod.fst) l j).1 = (rowUp kind' (P.map Prod.snd) l' j).1
  | 0, _ => ⟨P, rfl, rfl, hP, rfl⟩
  | j + 1, hj => by
    obtain ⟨P2, e1, e2, e3, e4⟩ := row_pair h hk hk' hP hl j (by omega)
    obtain ⟨P3, f1, f2, f3, f4⟩ := met_pair h hk hk' e3 (hl j (by omega))
    refine ⟨P3, ?_, ?_, f3, ?_⟩
    · rw [rowUp, e1]; exact f1
    · rw [rowUp, e2]; exact f2
    · rw [rowUp, rowUp, e1, e2, e4]
      show _ ++ [metV kind (P2.map Prod.fst) (rd l j)] = _ ++ [metV kind' (P2.map Prod.snd) (rd l' j)]
      rw [f4]
theorem rd_fst {P : List (Int × Int)} {i : Nat} (h : i < P.length) : rd (P.map Prod.fst) i = (P[i]'h).1 := by
  unfold rd
  rw [Int.toNat_natCast, List.getD_eq_getElem?_getD, List.getElem?_map, List.getElem?_eq_getElem h]
  rfl
theorem rd_snd {P : List (Int × Int)} {i : Nat} (h : i < P.length) : rd (P.map Prod.snd) i = (P[i]'h).2 := by
  unfold rd
  rw [Int.toNat_natCast, List.getD_eq_getElem?_getD, List.getElem?_map, List.getElem?_eq_getElem h]
  rfl
theorem least_pair (hw : Wf a b n m) (hw' : Wf a' b' n' m) (h : Bis a b a' b' n n' m R) (hk : ∀ i k, i < n → k < n → (rd kind i = rd kind k ↔ ¬ Told a b m i k)) (hk' : ∀ i k, i < n' → k < n' → (rd kind' i = rd kind' k ↔ ¬ Told a' b' m i k)) :
    ∀ (K K' : Nat) (x : List (List Int)) (y : List Bool) (P : List (Int × Int)), (∀ p ∈ P, Good R p) → OrdOk n kind (P.map Prod.fst) → OrdOk n' kind' (P.map Prod.snd) → x.length ≤ P.length → n + 1 ≤ x.length + K → n' + 1 ≤ x.length + K' →
      leastGo a b kind K x y (P.map Prod.fst) = leastGo a' b' kind' K' x y (P.map Prod.snd)
  | 0, K', x, y, P, hP, ho, ho', hx, h1, h2 => by
    have := ho.len
    rw [List.length_map] at this
    omega
  | K + 1, 0, x, y, P, hP, ho, ho', hx, h1, h2 => by
    have := ho'.len
    rw [List.length_map] at this
    omega
  | K + 1, K' + 1, x, y, P, hP, ho, ho', hx, h1, h2 => by
    rw [leastGo, leastGo]
    by_cases q : x.length < P.length
    · rw [if_pos (by rw [List.length_map]; exact q), if_pos (by rw [List.length_map]; exact q), rd_fst q, rd_snd q]
      obtain ⟨s, s', hp, hr⟩ := hP _ (List.getElem_mem q)
      rw [hp]
      have hlt := h.lt s s' hr
      have hl : (rd_L1 a (s : Int)).length = m := hw.row s hlt.1
      have hl' : (rd_L1 a' (s' : Int)).length = m := hw'.row s' hlt.2
      have hrow : ∀ c : Nat, c < m → Good R (rd (rd_L1 a (s : Int)) c, rd (rd_L1 a' (s' : Int)) c) := fun c hc => ⟨nx a s c, nx a' s' c, by rw [(hw.nx hlt.1 hc).2, (hw'.nx hlt.2 hc).2], h.step s s' c hr hc⟩
      obtain ⟨P2, e1, e2, e3, e4⟩ := row_pair h hk hk' hP hrow m (Nat.le_refl _)
      have ho2 := rowUp_ok ho (hw.lo s hlt.1) m (by omega)
      have ho2' := rowUp_ok ho' (hw'.lo s' hlt.2) m (by omega)
      have hmo := rowUp_mono kind (P.map Prod.fst) (rd_L1 a (s : Int)) m
      rw [e1] at ho2 hmo
      rw [e2] at ho2'
      rw [List.length_map, List.length_map] at hmo
      have hf : rdOf false b (s : Int) = rdOf false b' (s' : Int) := h.finals s s' hr
      show leastGo a b kind K (x ++ [(rowUp kind (P.map Prod.fst) (rd_L1 a (s : Int)) (rd_L1 a (s : Int)).length).1]) (y ++ [rdOf false b (s : Int)]) (rowUp kind (P.map Prod.fst) (rd_L1 a (s : Int)) (rd_L1 a (s : Int)).length).2 =
        leastGo a' b' kind' K' (x ++ [(rowUp kind' (P.map Prod.snd) (rd_L1 a' (s' : Int)) (rd_L1 a' (s' : Int)).length).1]) (y ++ [rdOf false b' (s' : Int)]) (rowUp kind' (P.map Prod.snd) (rd_L1 a' (s' : Int)) (rd_L1 a' (s' : Int)).length).2
      rw [hl, hl', e1, e2, e4, hf]
      refine least_pair hw hw' h hk hk' K K' _ _ P2 e3 ho2 ho2' ?_ ?_ ?_
      · rw [List.length_append, List.length_singleton]; omega
      · rw [List.length_append, List.length_singleton]; omega
      · rw [List.length_append, List.length_singleton]; omega
    · rw [if_neg (by rw [List.length_map]; exact q), if_neg (by rw [List.length_map]; exact q)]
theorem least_same (hw : Wf a b n m) (hw' : Wf a' b' n' m) (h : Bis a b a' b' n n' m R) (hk : ∀ i k, i < n → k < n → (rd kind i = rd kind k ↔ ¬ Told a b m i k)) (hk' : ∀ i k, i < n' → k < n' → (rd kind' i = rd kind' k ↔ ¬ Told a' b' m i k)) : Print.leastOf a b kind = Print.leastOf a' b' kind' := by
  have h1 := hw.len
  have h2 := hw'.len
  exact least_pair hw hw' h hk hk' (a.length + 1) (a'.length + 1) [] [] [(0, 0)] (fun p hp => by rw [List.mem_singleton] at hp; exact ⟨0, 0, hp, h.zero⟩) (ord_zero hw.one) (ord_zero hw'.one) (by simp) (by simp; omega) (by simp; omega)

/-! ### what the fewest states tell -/
theorem getElem_rd {L : List Int} {k : Nat} (h : k < L.length) : L[k]'h = rd L k := by
  unfold rd
  rw [Int.toNat_natCast, List.getD_eq_getElem?_getD, List.getElem?_eq_getElem h]
  rfl
theorem rowUp_spec {o l : List Int} : ∀ (j : Nat), ∀ c : Nat, c < j → ∃ i : Nat, i < (rowUp kind o l j).2.length ∧ rd (rowUp kind o l j).1 c = i ∧ rd kind (rd (rowUp kind o l j).2 i) = rd kind (rd l c)
  | 0, c, h => absurd h (by omega)
  | j + 1, c, h => by
    have hl := rowUp_len kind o l j
    obtain ⟨r, hr⟩ := metO_pre kind (rowUp kind o l j).2 (rd l j)
    rw [rowUp]
    by_cases e : c = j
    · subst e
      show ∃ i : Nat, i < (metO kind (rowUp kind o l c).2 (rd l c)).length ∧ rd ((rowUp kind o l c).1 ++ [metV kind (rowUp kind o l c).2 (rd l c)]) c = i ∧ rd kind (rd (metO kind (rowUp kind o l c).2 (rd l c)) i) = rd kind (rd l c)
      rw [rd_last hl.symm]
      unfold metV metO
      by_cases q : rd kind (rd l c) ∈ (rowUp kind o l c).2.map (rd kind)
      · rw [if_pos q, if_pos q]
        have hi := List.idxOf_lt_length_of_mem q
        have hi2 : ((rowUp kind o l c).2.map (rd kind)).idxOf (rd kind (rd l c)) < (rowUp kind o l c).2.length := by rwa [List.length_map] at hi
        refine ⟨_, hi2, rfl, ?_⟩
        have : ((rowUp kind o l c).2.map (rd kind))[((rowUp kind o l c).2.map (rd kind)).idxOf (rd kind (rd l c))]'hi = rd kind (rd l c) := by simp
        rw [List.getElem_map, getElem_rd hi2] at this
        exact this
      · rw [if_neg q, if_neg q]
        exact ⟨(rowUp kind o l c).2.length, by simp, rfl, by rw [rd_last rfl]⟩
    · obtain ⟨i, h1, h2, h3⟩ := rowUp_spec (o := o) (l := l) j c (by omega)
      refine ⟨i, ?_, ?_, ?_⟩
      · show i < (metO kind _ _).length
        rw [hr, List.length_append]; omega
      · show rd ((rowUp kind o l j).1 ++ [_]) c = i
        rw [rd_snoc (by omega)]; exact h2
      · show rd kind (rd (metO kind _ _) i) = _
        rw [hr, rd_pre h1]; exact h3
/-- The row of a state of the fewest. -/
def RowOk (kind o : List Int) (m : Nat) (row l : List Int) : Prop := row.length = m ∧ ∀ c : Nat, c < m → ∃ j : Nat, j < o.length ∧ rd row c = j ∧ rd kind (rd o j) = rd kind (rd l c)
theorem RowOk.grow {o r row l : List Int} (h : RowOk kind o m row l) : RowOk kind (o ++ r) m row l :=
  ⟨h.1, fun c hc => by
    obtain ⟨j, h1, h2, h3⟩ := h.2 c hc
    exact ⟨j, by rw [List.length_append]; omega, h2, by rw [rd_pre h1]; exact h3⟩⟩
structure LeastInv (a : List (List Int)) (b : List Bool) (kind : List Int) (n m : Nat) (x : List (List Int)) (y : List Bool) (o : List Int) : Prop where
  ord : OrdOk n kind o
  head : 0 < o.length ∧ rd o 0 = 0
  ylen : y.length = x.length
  xlen : x.length ≤ o.length
  rows : ∀ i : Nat, i < x.length → RowOk kind o m (rd_L1 x i) (rd_L1 a (rd o i)) ∧ rdOf false y i = rdOf false b (rd o i)
theorem rdL1_snoc {x : List (List Int)} {r : List Int} {i : Nat} (h : i < x.length) : rd_L1 (x ++ [r]) i = rd_L1 x i := by
  rw [rdL1_nat, rdL1_nat, List.getD_eq_getElem?_getD, List.getD_eq_getElem?_getD, List.getElem?_append_left h]
theorem rdL1_last {x : List (List Int)} {r : List Int} {i : Nat} (h : i = x.length) : rd_L1 (x ++ [r]) i = r := by
  subst h
  rw [rdL1_nat, List.getD_eq_getElem?_getD, List.getElem?_concat_length]; rfl
theorem rdOf_snoc {x : List Bool} {r : Bool} {i : Nat} (h : i < x.length) : rdOf false (x ++ [r]) i = rdOf false x i := by
  unfold rdOf
  rw [Int.toNat_natCast, List.getD_eq_getElem?_getD, List.getD_eq_getElem?_getD, List.getElem?_append_left h]
theorem rdOf_last {x : List Bool} {r : Bool} {i : Nat} (h : i = x.length) : rdOf false (x ++ [r]) i = r := by
  subst h
  unfold rdOf
  rw [Int.toNat_natCast, List.getD_eq_getElem?_getD, List.getElem?_concat_length]; rfl
theorem least_inv (hw : Wf a b n m) : ∀ (K : Nat) (x : List (List Int)) (y : List Bool) (o : List Int), LeastInv a b kind n m x y o → n + 1 ≤ x.length + K → ∃ o2, LeastInv a b kind n m (leastGo a b kind K x y o).1 (leastGo a b kind K x y o).2 o2 ∧ (leastGo a b kind K x y o).1.length = o2.length
  | 0, x, y, o, h, hK => by
    have := h.ord.len
    have := h.xlen
    omega
  | K + 1, x, y, o, h, hK => by
    rw [leastGo]
    have hxl := h.xlen
    by_cases q : x.length < o.length
    · rw [if_pos q]
      have hx := h.ord.2 _ (rd_mem q)
      obtain ⟨s, hs⟩ : ∃ s : Nat, rd o x.length = s := ⟨(rd o x.length).toNat, by omega⟩
      have hl : (rd_L1 a (rd o x.length)).length = m := by rw [hs]; exact hw.row s (by omega)
      rw [hl]
      have hlo : ∀ z ∈ rd_L1 a (rd o x.length), 0 ≤ z ∧ z < n := by rw [hs]; exact hw.lo s (by omega)
      obtain ⟨r, hr⟩ := rowUp_pre kind o (rd_L1 a (rd o x.length)) m
      have hok := rowUp_ok h.ord hlo m (by omega)
      refine least_inv hw K _ _ _ ⟨hok, ?_, by rw [List.length_append, List.length_append, h.ylen]; rfl, ?_, fun i hi => ?_⟩ (by rw [List.length_append, List.length_singleton]; omega)
      · rw [hr]
        exact ⟨by rw [List.length_append]; omega, by rw [show (0 : Int) = ((0 : Nat) : Int) from rfl, rd_pre h.head.1]; exact h.head.2⟩
      · rw [hr, List.length_append, List.length_append, List.length_singleton]; omega
      · rw [List.length_append, List.length_singleton] at hi
        have hoi : rd (rowUp kind o (rd_L1 a (rd o x.length)) m).2 i = rd o i := by rw [hr, rd_pre (by omega)]
        rw [hoi]
        by_cases e : i = x.length
        · subst e
          rw [rdL1_last rfl, rdOf_last h.ylen.symm]
          exact ⟨⟨rowUp_len _ _ _ _, fun c hc => rowUp_spec m c hc⟩, rfl⟩
        · rw [rdL1_snoc (by omega), rdOf_snoc (by rw [h.ylen]; omega), hr]
          exact ⟨(h.rows i (by omega)).1.grow, (h.rows i (by omega)).2⟩
    · rw [if_neg q]
      exact ⟨o, h, by show x.length = _; omega⟩
/-- The states are right that are made of these parts. -/
theorem right_of {x : List (List Int)} {y : List Bool} {k : Nat} (h1 : 1 ≤ x.length) (h2 : x.length ≤ 5000) (h3 : y.length = x.length) (m1 : 1 ≤ m) (m2 : m ≤ 200) (hr : ∀ i : Nat, i < x.length → (rd_L1 x i).length = m ∧ ∀ z ∈ rd_L1 x i, 0 ≤ z ∧ z < x.length) : rightB x y = true ∧ (rd_L1 x 0).length = m := by
  have h0 : (rd_L1 x 0).length = m := (hr 0 (by omega)).1
  refine ⟨?_, h0⟩
  unfold rightB
  rw [h0]
  simp only [Bool.and_eq_true, decide_eq_true_eq, Bool.not_eq_true', List.any_eq_false]
  refine ⟨⟨⟨⟨⟨h1, h2⟩, h3⟩, m1⟩, m2⟩, fun row hrow => ?_⟩
  obtain ⟨i, hi, rfl⟩ := List.getElem_of_mem hrow
  have e : rd_L1 x i = x[i] := by rw [rdL1_nat, List.getD_eq_getElem?_getD, List.getElem?_eq_getElem hi]; rfl
  have := hr i hi
  rw [e] at this
  unfold badRow
  simp only [Bool.or_eq_true, not_or, bne_iff_ne, ne_eq, Decidable.not_not, List.any_eq_true, not_exists, not_and]
  refine ⟨by omega, fun z hz => ?_⟩
  have := this.2 z hz
  unfold odd
  simp only [Bool.or_eq_true, decide_eq_true_eq, not_or]
  omega
/-- The fewest states are right, and tell what those tell that they were made of. -/
theorem least_spec (hw : Wf a b n m) (hk : ∀ i k, i < n → k < n → (rd kind i = rd kind k ↔ ¬ Told a b m i k)) : rightB (Print.leastOf a b kind).1 (Print.leastOf a b kind).2 = true ∧ (rd_L1 (Print.leastOf a b kind).1 0).length = m ∧ (Print.leastOf a b kind).1.length ≤ n ∧ ∃ R, Bis a b (Print.leastOf a b kind).1 (Print.leastOf a b kind).2 n (Print.leastOf a b kind).1.length m R := by
  obtain ⟨o, hi, hlen⟩ := least_inv (kind := kind) hw (a.length + 1) [] [] [0] ⟨ord_zero hw.one, ⟨by simp, rfl⟩, rfl, by simp, fun i hi => by simp at hi⟩ (by have := hw.len; simp; omega)
  obtain ⟨x, y, hxy⟩ : ∃ x y, Print.leastOf a b kind = (x, y) := ⟨_, _, rfl⟩
  have hx : leastGo a b kind (a.length + 1) [] [] [0] = (x, y) := hxy
  rw [hx] at hi hlen
  rw [hxy]
  have hlen : x.length = o.length := hlen
  have hol := hi.ord.len
  have hr : ∀ i : Nat, i < x.length → (rd_L1 x i).length = m ∧ ∀ z ∈ rd_L1 x i, 0 ≤ z ∧ z < x.length := fun i hlt => by
    obtain ⟨⟨e1, e2⟩, _⟩ := hi.rows i hlt
    refine ⟨e1, fun z hz => ?_⟩
    obtain ⟨c, hc, rfl⟩ := List.getElem_of_mem hz
    obtain ⟨j, j1, j2, _⟩ := e2 c (by have : (rd_L1 x i).length = m := e1; omega)
    have e : rd (rd_L1 x i) c = (rd_L1 x i)[c] := by unfold rd; rw [Int.toNat_natCast, List.getD_eq_getElem?_getD, List.getElem?_eq_getElem hc]; rfl
    rw [← e, show rd (rd_L1 x i) c = j from j2]
    omega
  obtain ⟨r1, r2⟩ := right_of (x := x) (y := y) (k := 0) (by rw [hlen]; exact hi.head.1) (by have := hw.most; omega) hi.ylen hw.m1 hw.m2 hr
  refine ⟨r1, r2, by show x.length ≤ n; omega, fun s j => s < n ∧ j < x.length ∧ rd kind (s : Int) = rd kind (rd o j), ⟨hw.one, by rw [hlen]; exact hi.head.1, by rw [show ((0 : Nat) : Int) = 0 from rfl, hi.head.2]⟩, fun s j h => ⟨h.1, h.2.1⟩, fun s j ⟨h1, h2, h3⟩ => ?_, fun s j c ⟨h1, h2, h3⟩ hc => ?_⟩
  · have ho := hi.ord.2 _ (rd_mem (show j < o.length by omega))
    obtain ⟨t, ht⟩ : ∃ t : Nat, rd o j = t := ⟨(rd o j).toNat, by omega⟩
    have h4 : fin y j = rdOf false b (rd o j) := (hi.rows j h2).2
    rw [h4, ht]
    rw [ht] at h3
    have h5 := (hk s t h1 (by omega)).1 h3
    exact Classical.byContradiction fun h6 => h5 ⟨0, h6⟩
  · have ho := hi.ord.2 _ (rd_mem (show j < o.length by omega))
    obtain ⟨t, ht⟩ : ∃ t : Nat, rd o j = t := ⟨(rd o j).toNat, by omega⟩
    rw [ht] at h3
    have h5 := (hk s t h1 (by omega)).1 h3
    obtain ⟨⟨_, e2⟩, _⟩ := hi.rows j h2
    obtain ⟨j2, k1, k2, k3⟩ := e2 c hc
    have hn := hw.nx h1 hc
    have hn2 := hw.nx (i := t) (by omega) hc
    have enx : nx x j c = j2 := by unfold nx; rw [k2]; simp
    rw [enx]
    refine ⟨hn.1, by omega, ?_⟩
    rw [ht, hn2.2] at k3
    show rd kind (nx a s c : Int) = rd kind (rd o j2)
    rw [k3]
    exact (hk _ _ hn.1 hn2.1).2 fun ⟨r, hd⟩ => h5 ⟨r + 1, .inr ⟨c, hc, hd⟩⟩
end
end Go.Proofs.Ytadhjjfodpmelaa.Pure
