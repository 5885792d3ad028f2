/- The kinds of least.classes: two states have one kind just if no word tells them apart; the rounds end. -/
import Derived.Test.YtadhjjfodpmelaaLeastA
import Derived.Test.YtadhjjfodpmelaaLawW
namespace Go.Proofs.Ytadhjjfodpmelaa.Pure
open Go.RowKit Go.Proofs.Ytadhjjfodpmelaa.Print Go.Proofs.YtadhjjfodpmelaaW.PrintWords Go.Proofs.YtadhjjfodpmelaaW.PrintLast
set_option linter.unusedVariables false
set_option linter.unusedSimpArgs false

/-! ### keys -/
theorem u8_inj {x y : Int} (hx : 0 ≤ x ∧ x < 256) (hy : 0 ≤ y ∧ y < 256) (h : UInt8.ofNat x.toNat = UInt8.ofNat y.toNat) : x = y := by
  have := congrArg UInt8.toNat h
  rw [UInt8.toNat_ofNat', UInt8.toNat_ofNat'] at this
  omega
theorem k2_inj {x y : Int} (hx : 0 ≤ x ∧ x < 65536) (hy : 0 ≤ y ∧ y < 65536) (h1 : UInt8.ofNat (x / 256 % 256).toNat = UInt8.ofNat (y / 256 % 256).toNat) (h2 : UInt8.ofNat (x % 256).toNat = UInt8.ofNat (y % 256).toNat) : x = y := by
  have h1 := u8_inj (by omega) (by omega) h1
  have h2 := u8_inj (by omega) (by omega) h2
  omega
theorem flat_inj (g : Int → Int) : ∀ (l l' : List Int), l.length = l'.length → (∀ x ∈ l, 0 ≤ g x ∧ g x < 65536) → (∀ x ∈ l', 0 ≤ g x ∧ g x < 65536) →
    ((l.flatMap fun s => k2 (g s)).map (fun n => UInt8.ofNat n.toNat) = (l'.flatMap fun s => k2 (g s)).map (fun n => UInt8.ofNat n.toNat) ↔ l.map g = l'.map g)
  | [], [], _, _, _ => by simp
  | [], _ :: _, h, _, _ => by simp at h
  | _ :: _, [], h, _, _ => by simp at h
  | x :: l, y :: l', h, hx, hy => by
    have ih := flat_inj g l l' (by simpa using h) (fun z hz => hx z (List.mem_cons_of_mem _ hz)) (fun z hz => hy z (List.mem_cons_of_mem _ hz))
    have h1 := hx x (List.mem_cons_self ..)
    have h2 := hy y (List.mem_cons_self ..)
    simp only [List.flatMap_cons, List.map_append, List.map_cons, k2, List.map_nil, List.cons_append, List.nil_append, List.cons.injEq]
    constructor
    · rintro ⟨e1, e2, e3⟩
      exact ⟨k2_inj h1 h2 e1 e2, ih.1 e3⟩
    · rintro ⟨e1, e2⟩
      rw [e1]
      exact ⟨rfl, rfl, ih.2 e2⟩
theorem rd_default {l : List Int} (h : ∀ x ∈ l, 0 ≤ x ∧ x < 65536) (i : Int) : 0 ≤ rd l i ∧ rd l i < 65536 := by
  unfold rd
  rw [List.getD_eq_getElem?_getD]
  cases q : l[i.toNat]? with
  | none => simp
  | some y => exact h _ (List.mem_of_getElem? q)
theorem map_eq_iff {l l' : List Int} {m : Nat} (hl : l.length = m) (hl' : l'.length = m) (g : Int → Int) : l.map g = l'.map g ↔ ∀ c, c < m → g (rd l c) = g (rd l' c) := by
  constructor
  · intro h c hc
    have := congrArg (fun l => l[c]?) h
    simp only [List.getElem?_map, List.getElem?_eq_getElem (show c < l.length by omega), List.getElem?_eq_getElem (show c < l'.length by omega), Option.map_some, Option.some.injEq] at this
    unfold rd
    rw [Int.toNat_natCast, List.getD_eq_getElem?_getD, List.getD_eq_getElem?_getD, List.getElem?_eq_getElem (show c < l.length by omega), List.getElem?_eq_getElem (show c < l'.length by omega)]
    exact this
  · intro h
    refine List.ext_getElem (by rw [List.length_map, List.length_map]; omega) fun c h1 h2 => ?_
    rw [List.length_map] at h1 h2
    have := h c (by omega)
    unfold rd at this
    rw [Int.toNat_natCast, List.getD_eq_getElem?_getD, List.getD_eq_getElem?_getD, List.getElem?_eq_getElem (show c < l.length by omega), List.getElem?_eq_getElem (show c < l'.length by omega)] at this
    rw [List.getElem_map, List.getElem_map]
    exact this
theorem keyU_eq {a : List (List Int)} {b : List Bool} {n m : Nat} (hw : Wf a b n m) {kind : List Int} (hk : ∀ x ∈ kind, 0 ≤ x ∧ x < 65536) {i k : Nat} (hi : i < n) (hj : k < n) :
    keyU kind i (rd_L1 a i) = keyU kind k (rd_L1 a k) ↔ rd kind i = rd kind k ∧ ∀ c, c < m → rd kind (nx a i c) = rd kind (nx a k c) := by
  have h0 : ∀ j : Nat, keyU kind j (rd_L1 a j) = (((j : Int) :: rd_L1 a j).flatMap fun s => k2 (rd kind s)).map (fun n => UInt8.ofNat n.toNat) := fun j => by
    unfold keyU keyB
    rw [strOfNums_data, List.flatMap_cons]
  rw [h0, h0, flat_inj (rd kind) _ _ (by rw [List.length_cons, List.length_cons, hw.row i hi, hw.row k hj]) (fun x _ => rd_default hk x) (fun x _ => rd_default hk x), List.map_cons, List.map_cons, List.cons.injEq, map_eq_iff (hw.row i hi) (hw.row k hj)]
  constructor
  · rintro ⟨h1, h2⟩
    refine ⟨h1, fun c hc => ?_⟩
    have := h2 c hc
    rwa [(hw.nx hi hc).2, (hw.nx hj hc).2] at this
  · rintro ⟨h1, h2⟩
    refine ⟨h1, fun c hc => ?_⟩
    rw [(hw.nx hi hc).2, (hw.nx hj hc).2]
    exact h2 c hc

/-! ### one round -/
theorem rd_snoc {l : List Int} {x : Int} {j : Nat} (h : j < l.length) : rd (l ++ [x]) j = rd l j := by
  unfold rd
  rw [Int.toNat_natCast, List.getD_eq_getElem?_getD, List.getD_eq_getElem?_getD, List.getElem?_append_left h]
theorem rd_last {l : List Int} {x : Int} {j : Nat} (h : j = l.length) : rd (l ++ [x]) j = x := by
  subst h
  unfold rd
  rw [Int.toNat_natCast, List.getD_eq_getElem?_getD, List.getElem?_concat_length]
  rfl
theorem round_spec (kind : List Int) (a : List (List Int)) : ∀ (i j : Nat), j < i → keyU kind j (rd_L1 a j) ∈ (roundUp kind a i).1 ∧ rd (roundUp kind a i).2 j = ((roundUp kind a i).1.idxOf (keyU kind j (rd_L1 a j)) : Int)
  | 0, _, h => absurd h (by omega)
  | i + 1, j, h => by
    have hl := (roundUp_len kind a i).1
    rw [roundUp]
    by_cases q : keyU kind i (rd_L1 a i) ∈ (roundUp kind a i).1
    · rw [if_pos q]
      by_cases e : j = i
      · subst e
        exact ⟨q, rd_last hl.symm⟩
      · obtain ⟨h1, h2⟩ := round_spec kind a i j (by omega)
        exact ⟨h1, (rd_snoc (by omega)).trans h2⟩
    · rw [if_neg q]
      by_cases e : j = i
      · subst e
        refine ⟨List.mem_append_right _ (List.mem_singleton.2 rfl), (rd_last hl.symm).trans ?_⟩
        show _ = ((((roundUp kind a j).1 ++ [_]).idxOf _ : Nat) : Int)
        rw [List.idxOf_append, if_neg q, List.idxOf_cons_self, Nat.zero_add]
      · obtain ⟨h1, h2⟩ := round_spec kind a i j (by omega)
        refine ⟨List.mem_append_left _ h1, (rd_snoc (by omega)).trans (h2.trans ?_)⟩
        show _ = ((((roundUp kind a i).1 ++ [_]).idxOf _ : Nat) : Int)
        rw [List.idxOf_append, if_pos h1]
theorem idxOf_inj {α : Type} [BEq α] [LawfulBEq α] {l : List α} {x y : α} (hx : x ∈ l) (hy : y ∈ l) (h : l.idxOf x = l.idxOf y) : x = y := by
  have h1 : l[l.idxOf x]? = some x := by rw [List.getElem?_eq_getElem (List.idxOf_lt_length_of_mem hx)]; simp
  have h2 : l[l.idxOf y]? = some y := by rw [List.getElem?_eq_getElem (List.idxOf_lt_length_of_mem hy)]; simp
  rw [h, h2] at h1
  exact (Option.some.inj h1).symm
theorem round_eq (kind : List Int) (a : List (List Int)) {i j k : Nat} (hj : j < i) (hk : k < i) : rd (roundUp kind a i).2 j = rd (roundUp kind a i).2 k ↔ keyU kind j (rd_L1 a j) = keyU kind k (rd_L1 a k) := by
  obtain ⟨h1, h2⟩ := round_spec kind a i j hj
  obtain ⟨h3, h4⟩ := round_spec kind a i k hk
  rw [h2, h4]
  exact ⟨fun h => idxOf_inj h1 h3 (by exact_mod_cast h), fun h => by rw [h]⟩
theorem mem_round (kind : List Int) (a : List (List Int)) : ∀ (i : Nat) (x : List UInt8), x ∈ (roundUp kind a i).1 ↔ ∃ j, j < i ∧ keyU kind j (rd_L1 a j) = x
  | 0, x => by simp [roundUp]
  | i + 1, x => by
    rw [roundUp]
    by_cases q : keyU kind i (rd_L1 a i) ∈ (roundUp kind a i).1
    · rw [if_pos q]
      show x ∈ (roundUp kind a i).1 ↔ _
      rw [mem_round kind a i x]
      constructor
      · rintro ⟨j, h, e⟩; exact ⟨j, by omega, e⟩
      · rintro ⟨j, h, e⟩
        by_cases hj : j = i
        · subst hj
          obtain ⟨l, hl, e'⟩ := (mem_round kind a j _).1 q
          exact ⟨l, hl, e'.trans e⟩
        · exact ⟨j, by omega, e⟩
    · rw [if_neg q]
      show x ∈ (roundUp kind a i).1 ++ [_] ↔ _
      rw [List.mem_append, mem_round kind a i x, List.mem_singleton]
      constructor
      · rintro (⟨j, h, e⟩ | e)
        · exact ⟨j, by omega, e⟩
        · exact ⟨i, by omega, e.symm⟩
      · rintro ⟨j, h, e⟩
        by_cases hj : j = i
        · subst hj; exact .inr e.symm
        · exact .inl ⟨j, by omega, e⟩

/-! ### the number of kinds -/
/-- Its key is new. -/
def fresh (kind : List Int) (i : Nat) : Bool := (List.range i).all fun l => decide (rd kind l ≠ rd kind i)
def cnt (kind : List Int) (n : Nat) : Nat := ((List.range n).filter (fresh kind)).length
theorem cnt_succ (kind : List Int) (n : Nat) : cnt kind (n + 1) = cnt kind n + (if fresh kind n = true then 1 else 0) := by
  unfold cnt
  rw [List.range_succ, List.filter_append, List.length_append]
  by_cases q : fresh kind n = true
  · rw [if_pos q, List.filter_cons_of_pos q]; rfl
  · rw [if_neg q, List.filter_cons_of_neg q]; rfl
theorem cnt_le (kind : List Int) : ∀ n, cnt kind n ≤ n
  | 0 => Nat.le_refl _
  | n + 1 => by
    rw [cnt_succ]
    have := cnt_le kind n
    split <;> omega
theorem fresh_iff {kind : List Int} {i : Nat} : fresh kind i = true ↔ ∀ l, l < i → rd kind l ≠ rd kind i := by
  unfold fresh
  simp
theorem round_cnt (kind : List Int) (a : List (List Int)) (N : Nat) : ∀ i, i ≤ N → (roundUp kind a i).1.length = cnt (roundUp kind a N).2 i
  | 0, _ => rfl
  | i + 1, h => by
    rw [cnt_succ, ← round_cnt kind a N i (by omega), roundUp]
    by_cases q : keyU kind i (rd_L1 a i) ∈ (roundUp kind a i).1
    · rw [if_pos q, if_neg]
      · rfl
      · rw [fresh_iff]
        intro hf
        obtain ⟨j, hj, e⟩ := (mem_round kind a i _).1 q
        exact hf j hj ((round_eq kind a (by omega) (by omega)).2 e)
    · rw [if_neg q, if_pos]
      · show ((roundUp kind a i).1 ++ [_]).length = _
        rw [List.length_append]; rfl
      · rw [fresh_iff]
        intro l hl e
        exact q ((mem_round kind a i _).2 ⟨l, hl, (round_eq kind a (by omega) (by omega)).1 e⟩)
theorem cnt_mono {k1 k2 : List Int} : ∀ n, (∀ i, i < n → fresh k1 i = true → fresh k2 i = true) → cnt k1 n ≤ cnt k2 n
  | 0, _ => Nat.le_refl _
  | n + 1, h => by
    rw [cnt_succ, cnt_succ]
    have := cnt_mono (k1 := k1) (k2 := k2) n (fun i hi => h i (by omega))
    by_cases q : fresh k1 n = true
    · rw [if_pos q, if_pos (h n (by omega) q)]; omega
    · rw [if_neg q]; omega
theorem cnt_same {k1 k2 : List Int} : ∀ n, (∀ i, i < n → fresh k1 i = true → fresh k2 i = true) → cnt k1 n = cnt k2 n → ∀ i, i < n → fresh k2 i = true → fresh k1 i = true
  | 0, _, _, i, hi, _ => absurd hi (by omega)
  | n + 1, h, he, i, hi, hf => by
    rw [cnt_succ, cnt_succ] at he
    have hm := cnt_mono (k1 := k1) (k2 := k2) n (fun i hi => h i (by omega))
    by_cases q : fresh k1 n = true
    · rw [if_pos q, if_pos (h n (by omega) q)] at he
      by_cases e : i = n
      · rw [e]; exact q
      · exact cnt_same n (fun i hi => h i (by omega)) (by omega) i (by omega) hf
    · rw [if_neg q] at he
      by_cases q2 : fresh k2 n = true
      · rw [if_pos q2] at he; omega
      · rw [if_neg q2] at he
        by_cases e : i = n
        · rw [e] at hf; exact absurd hf q2
        · exact cnt_same n (fun i hi => h i (by omega)) (by omega) i (by omega) hf
/-- Each state is of one kind with a fresh one that is no later. -/
theorem fresh_ex (kind : List Int) : ∀ i : Nat, ∃ j, j ≤ i ∧ rd kind j = rd kind i ∧ fresh kind j = true := by
  intro i
  induction i using Nat.strongRecOn with
  | ind i ih =>
    by_cases q : fresh kind i = true
    · exact ⟨i, Nat.le_refl _, rfl, q⟩
    · rw [fresh_iff] at q
      simp only [Classical.not_forall, Decidable.not_not] at q
      obtain ⟨l, hl, e⟩ := q
      obtain ⟨j, hj, e', hf⟩ := ih l hl
      exact ⟨j, by omega, e'.trans e, hf⟩

/-! ### all rounds -/
def kinds (a : List (List Int)) (b : List Bool) : Nat → List Int
  | 0 => kindUp b b.length
  | r + 1 => (roundUp (kinds a b r) a a.length).2
section
variable {a : List (List Int)} {b : List Bool} {n m : Nat}
theorem kinds_wf (hw : Wf a b n m) : ∀ r, (kinds a b r).length = n ∧ ∀ x ∈ kinds a b r, 0 ≤ x ∧ x < 65536
  | 0 => by
    refine ⟨by unfold kinds kindUp; rw [List.length_map, List.length_take, hw.blen, Nat.min_self], fun x hx => ?_⟩
    unfold kinds kindUp at hx
    obtain ⟨y, _, rfl⟩ := List.mem_map.1 hx
    split <;> omega
  | r + 1 => by
    have hl : (kinds a b (r + 1)).length = n := (roundUp_len _ a a.length).1.trans hw.len
    refine ⟨hl, fun x hx => ?_⟩
    obtain ⟨j, hj, rfl⟩ := List.getElem_of_mem hx
    obtain ⟨h1, h2⟩ := round_spec (kinds a b r) a a.length j (by rw [hw.len]; omega)
    have h3 : rd (kinds a b (r + 1)) j = (kinds a b (r + 1))[j] := by unfold rd; rw [Int.toNat_natCast, List.getD_eq_getElem?_getD, List.getElem?_eq_getElem hj]; rfl
    rw [← h3]
    show 0 ≤ rd (roundUp (kinds a b r) a a.length).2 j ∧ _
    rw [h2]
    have h4 := List.idxOf_lt_length_of_mem h1
    have h5 := (roundUp_len (kinds a b r) a a.length).2.1
    have := hw.len
    have := hw.most
    show _ ∧ rd (roundUp (kinds a b r) a a.length).2 j < _
    rw [h2]
    omega
theorem kinds_zero (hw : Wf a b n m) {i : Nat} (hi : i < n) : rd (kinds a b 0) i = if fin b i = true then 1 else 0 := by
  unfold kinds kindUp fin rd rdOf
  rw [List.take_length, Int.toNat_natCast, List.getD_eq_getElem?_getD, List.getD_eq_getElem?_getD, List.getElem?_map, List.getElem?_eq_getElem (show i < b.length by rw [hw.blen]; exact hi)]
  rfl
theorem kinds_D (hw : Wf a b n m) : ∀ (r i k : Nat), i < n → k < n → (rd (kinds a b r) i = rd (kinds a b r) k ↔ ¬ D a b m r i k)
  | 0, i, k, hi, hk => by
    rw [kinds_zero hw hi, kinds_zero hw hk]
    unfold D
    cases fin b i <;> cases fin b k <;> simp
  | r + 1, i, k, hi, hk => by
    rw [kinds, round_eq _ a (by rw [hw.len]; exact hi) (by rw [hw.len]; exact hk), keyU_eq hw (kinds_wf hw r).2 hi hk, kinds_D hw r i k hi hk]
    show _ ↔ ¬(D a b m r i k ∨ ∃ c, c < m ∧ D a b m r (nx a i c) (nx a k c))
    rw [not_or, not_exists]
    refine and_congr_right fun _ => ?_
    constructor
    · intro h c hc
      exact (kinds_D hw r _ _ (hw.nx hi hc.1).1 (hw.nx hk hc.1).1).1 (h c hc.1) hc.2
    · intro h c hc
      exact (kinds_D hw r _ _ (hw.nx hi hc).1 (hw.nx hk hc).1).2 fun hd => h c ⟨hc, hd⟩
theorem fresh_up (hw : Wf a b n m) (r i : Nat) (hi : i < n) (h : fresh (kinds a b r) i = true) : fresh (kinds a b (r + 1)) i = true := by
  rw [fresh_iff] at h ⊢
  intro l hl e
  refine h l hl ((kinds_D hw r l i (by omega) hi).2 fun hd => ?_)
  exact (kinds_D hw (r + 1) l i (by omega) hi).1 e (.inl hd)
/-- As many kinds: the same kinds. -/
theorem stands (hw : Wf a b n m) {r : Nat} (h : cnt (kinds a b r) n = cnt (kinds a b (r + 1)) n) {i k : Nat} (hi : i < n) (hk : k < n) (hd : D a b m (r + 1) i k) : D a b m r i k := by
  apply Classical.byContradiction
  intro hn
  have hs := cnt_same n (fun i hi => fresh_up hw r i hi) h
  obtain ⟨i', hi', ei, fi⟩ := fresh_ex (kinds a b (r + 1)) i
  obtain ⟨k', hk', ek, fk⟩ := fresh_ex (kinds a b (r + 1)) k
  have fi2 := fresh_iff.1 (hs i' (by omega) fi)
  have fk2 := fresh_iff.1 (hs k' (by omega) fk)
  have down : ∀ x y, x < n → y < n → rd (kinds a b (r + 1)) x = rd (kinds a b (r + 1)) y → rd (kinds a b r) x = rd (kinds a b r) y := fun x y hx hy e =>
    (kinds_D hw r x y hx hy).2 fun hd => (kinds_D hw (r + 1) x y hx hy).1 e (.inl hd)
  have e1 := down i' i (by omega) hi ei
  have e2 := down k' k (by omega) hk ek
  have e3 := (kinds_D hw r i k hi hk).2 hn
  have : i' = k' := by
    rcases Nat.lt_trichotomy i' k' with q | q | q
    · exact absurd (e1.trans (e3.trans e2.symm)) (fk2 i' q)
    · exact q
    · exact absurd (e2.trans (e3.symm.trans e1.symm)) (fi2 k' q)
  subst this
  exact (kinds_D hw (r + 1) i k hi hk).1 (ei.symm.trans ek) hd
theorem round_cnt' (hw : Wf a b n m) (r : Nat) : (roundUp (kinds a b r) a a.length).1.length = cnt (kinds a b (r + 1)) n := by
  rw [round_cnt (kinds a b r) a a.length a.length (Nat.le_refl _), hw.len]
  show _ = cnt (roundUp (kinds a b r) a a.length).2 n
  rw [hw.len]
theorem classes_go (hw : Wf a b n m) : ∀ (k r : Nat), r ≤ cnt (kinds a b r) n → n + 1 ≤ r + k → ∃ s, s ≤ n ∧ classesGo a k (kinds a b r) (cnt (kinds a b r) n : Nat) = some (kinds a b (s + 1)) ∧ cnt (kinds a b s) n = cnt (kinds a b (s + 1)) n
  | 0, r, hr, hk => by
    have := cnt_le (kinds a b r) n
    omega
  | k + 1, r, hr, hk => by
    rw [classesGo, round_cnt' hw]
    by_cases q : cnt (kinds a b (r + 1)) n = cnt (kinds a b r) n
    · rw [if_pos (by omega)]
      exact ⟨r, Nat.le_trans hr (cnt_le _ _), rfl, q.symm⟩
    · rw [if_neg (by omega)]
      have := cnt_mono n (fun i hi => fresh_up hw r i hi)
      exact classes_go hw k (r + 1) (by omega) (by omega)
theorem D_stands (hw : Wf a b n m) {r : Nat} (h : cnt (kinds a b r) n = cnt (kinds a b (r + 1)) n) : ∀ (s i k : Nat), i < n → k < n → D a b m s i k → D a b m r i k
  | 0, i, k, hi, hk, hd => D_mono hd (Nat.zero_le _)
  | s + 1, i, k, hi, hk, hd => by
    rcases hd with hd | ⟨c, hc, hd⟩
    · exact D_stands hw h s i k hi hk hd
    · exact stands hw h hi hk (.inr ⟨c, hc, D_stands hw h s _ _ (hw.nx hi hc).1 (hw.nx hk hc).1 hd⟩)
/-- The rounds end; two states have one kind just if no word tells them apart; words of n classes are long enough. -/
theorem classes_spec (hw : Wf a b n m) : ∃ kind, classesGo a (a.length + 2) (kindUp b b.length) 0 = some kind ∧ kind.length = n ∧ (∀ i k, i < n → k < n → (rd kind i = rd kind k ↔ ¬ Told a b m i k)) ∧ ∀ i k, i < n → k < n → Told a b m i k → D a b m n i k := by
  have h1 : 1 ≤ cnt (kinds a b 1) n := by
    have : fresh (kinds a b 1) 0 = true := by rw [fresh_iff]; intro l hl; omega
    have h2 : ∀ N, 1 ≤ N → 1 ≤ cnt (kinds a b 1) N := by
      intro N hN
      induction N with
      | zero => omega
      | succ N ih =>
        rw [cnt_succ]
        by_cases e : N = 0
        · subst e; rw [if_pos this]; omega
        · have := ih (by omega); omega
    exact h2 n hw.one
  obtain ⟨s, hs, h2, h3⟩ := classes_go hw (n + 1) 1 h1 (by omega)
  refine ⟨kinds a b (s + 1), ?_, (kinds_wf hw (s + 1)).1, fun i k hi hk => ?_, fun i k hi hk ⟨r, hr⟩ => ?_⟩
  · rw [hw.len, classesGo]
    have h0 : (roundUp (kindUp b b.length) a a.length).1.length = cnt (kinds a b 1) n := round_cnt' hw 0
    rw [h0, if_neg (by omega)]
    exact h2
  · rw [kinds_D hw (s + 1) i k hi hk]
    exact ⟨fun h ⟨r, hr⟩ => h (.inl (D_stands hw h3 r i k hi hk hr)), fun h hd => h ⟨_, hd⟩⟩
  · exact D_mono (D_stands hw h3 r i k hi hk hr) hs
end
end Go.Proofs.Ytadhjjfodpmelaa.Pure
