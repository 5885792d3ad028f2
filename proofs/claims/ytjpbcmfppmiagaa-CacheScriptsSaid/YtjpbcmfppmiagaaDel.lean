/- slices.DeleteFunc over strings, with the closure that compares with a captured key: the keys that are not this one. -/
import Derived.Test.YtjpbcmfppmiagaaMapG
namespace Go.Proofs.Ytjpbcmfppmiagaa.Print
open Go.RowKit Go.Maps Go.Proofs.YtjpbcmfppmiagaaW.PrintWords Go.Proofs.YtjpbcmfppmiagaaW.PrintLast Go.Proofs.YtjpbcmfppmiagaaW.PrintMore
set_option linter.unusedVariables false
set_option linter.unusedSimpArgs false

theorem eq_key (x key : ByteArray) : (x.toList == key.toList) = decide (x = key) := by
  have h : x.toList = key.toList ↔ x = key := ⟨fun h => by
    have h2 : x.data.toList = key.data.toList := by
      have e : ∀ b : ByteArray, b.toList = b.data.toList := fun b => ByteArray.toList_eq b
      rwa [e, e] at h
    cases x; cases key
    simp only [ByteArray.mk.injEq]
    exact Array.toList_inj.1 h2, fun h => by rw [h]⟩
  by_cases q : x = key
  · rw [decide_eq_true q, q, beq_self_eq_true]
  · rw [decide_eq_false q, beq_eq_false_iff_ne.2 (fun e => q (h.1 e))]

/-- The closure: two functions are such. -/
def IsKey (F : Nat) (key : ByteArray) (B : Nat) : Prop := ∀ (W : World) (x : ByteArray), W.cell? ⟨B, 0, none⟩ = some (.string key) → Calls Try.prog F #[.string x, .pointer (some ⟨B, 0, none⟩)] W fun e w' => e = .returned (.bool (decide (x = key))) ∧ Below W.heap.size W w'
theorem isKey32 (key : ByteArray) (B : Nat) : IsKey 32 key B := fun W x hc => by
  have heq := eq_key x key
  go_enter Try.func32, Try.ntmps32
  go_wp2_with fail
  go_ret
  exact ⟨by rfl, by repeat (first | exact Below.refl _ _ | apply below_drew1)⟩
theorem isKey26 (key : ByteArray) (B : Nat) : IsKey 26 key B := fun W x hc => by
  have heq := eq_key x key
  go_enter Try.func26, Try.ntmps26
  go_wp2_with fail
  go_ret
  exact ⟨by rfl, by repeat (first | exact Below.refl _ _ | apply below_drew1)⟩

/-- The first place at which the key stands, from place i on; -1: nowhere. -/
def fstKey (key : ByteArray) (i : Nat) : List ByteArray → Int
  | [] => -1
  | x :: l => if x = key then i else fstKey key (i + 1) l
theorem fstKey_spec (key : ByteArray) : ∀ (l : List ByteArray) (i : Nat), (fstKey key i l = -1 ∧ key ∉ l) ∨ ∃ k : Nat, k < l.length ∧ fstKey key i l = ((i + k : Nat) : Int) ∧ l[k]? = some key ∧ key ∉ l.take k
  | [], i => .inl ⟨rfl, by simp⟩
  | x :: l, i => by
    unfold fstKey
    by_cases q : x = key
    · rw [if_pos q]
      exact .inr ⟨0, by simp, by simp, by simp [q], by simp⟩
    · rw [if_neg q]
      rcases fstKey_spec key l (i + 1) with ⟨h1, h2⟩ | ⟨k, h1, h2, h3, h4⟩
      · exact .inl ⟨h1, fun h => (List.mem_cons.1 h).elim (fun e => q e.symm) h2⟩
      · exact .inr ⟨k + 1, by simp; omega, by rw [h2]; congr 1; omega, by simpa using h3, by rw [List.take_succ_cons]; exact fun h => (List.mem_cons.1 h).elim (fun e => q e.symm) h4⟩
theorem drop_consS (l : List ByteArray) (k : Nat) (h : k < l.length) : l.drop k = rdOf ByteArray.empty l (k : Int) :: l.drop (k + 1) := by
  rw [List.drop_eq_getElem_cons h]
  simp [rdOf, List.getD_eq_getElem?_getD, List.getElem?_eq_getElem h]

set_option maxHeartbeats 8000000 in
set_option maxRecDepth 100000 in
theorem index_calls (F : Nat) (eg : ∀ args w, (callFunc F args).run Try.prog w = .ok (.enter F args) w) (key : ByteArray) (B : Nat) (hF : IsKey F key B) (A0 : Option Addr) (c0 : Nat) (l0 : List ByteArray) (w : World) (hr0 : Kd.C Kd.string w A0 l0.length l0) (hB : B < w.heap.size) (hc : w.cell? ⟨B, 0, none⟩ = some (.string key)) :
    Calls Try.prog 33 #[.slice A0 l0.length c0, .func (.func F) #[] #[.pointer (some ⟨B, 0, none⟩)]] w fun e w' => e = .returned (.int .i64 (fstKey key 0 l0)) ∧ Below w.heap.size w w' := by
  have hl := Kd.C_max hr0
  have HR := Aside0.mk hr0
  have HC := Aside0.mk hc
  clear hr0 hc
  go_enter Try.func33, Try.ntmps33
  go_wp2_with fail
  go_loopg [5, 8] l0.length (fun gg _ v8 wr => ∃ k : Nat, k ≤ l0.length ∧ l0.length - k ≤ gg ∧ v8 = .int .i64 k ∧ Aside0 (Below w.heap.size w wr) ∧ Aside0 (fstKey key 0 l0 = fstKey key k (l0.drop k)))
  case atStart => exact ⟨0, Nat.zero_le _, by omega, rfl, ⟨Below.refl _ w⟩, ⟨by simp⟩⟩
  case round =>
    obtain ⟨k, hk, hg, rfl, HB, HE⟩ := hrel
    by_cases hlt : k < l0.length
    · have hltz : (k : Int) < (l0.length : Int) := by omega
      obtain ⟨ad, e1, hx0⟩ := Kd.at_string (Kd.C_below HR.out HB.out) (k : Int) (by omega) hltz
      subst e1
      simp only [Int.toNat_natCast] at hx0
      have HF := Aside0.mk (hF wr (rdOf ByteArray.empty l0 k) ((HB.out.cell (p := ⟨B, 0, none⟩) hB).trans HC.out))
      have HD := Aside0.mk (drop_consS l0 k hlt)
      by_cases he : rdOf ByteArray.empty l0 k = key
      · rw [decide_eq_true he] at HF
        have HH := Aside0.mk he
        clear he
        go_wp2_with fail
        refine HF.out.mono ?_
        rintro e w' ⟨rfl, hb'⟩
        go_wp2_with fail
        go_ret
        refine ⟨?_, HB.out.trans (hb'.mono HB.out.size)⟩
        rw [HE.out, HD.out, fstKey, if_pos HH.out]
        rfl
      · rw [decide_eq_false he] at HF
        have HH := Aside0.mk he
        clear he
        go_wp2_with fail
        refine HF.out.mono ?_
        rintro e w' ⟨rfl, hb'⟩
        go_wp2_with fail
        go_roundg (l0.length - (k + 1))
        case measure => omega
        case rel => exact ⟨k + 1, by omega, by omega, by go_num, ⟨HB.out.trans (hb'.mono HB.out.size)⟩, ⟨by rw [HE.out, HD.out, fstKey, if_neg HH.out]⟩⟩
    · have hke : k = l0.length := by omega
      have HK := Aside0.mk hke
      clear hke
      have hltz : ¬ (k : Int) < (l0.length : Int) := by omega
      go_wp2_with fail
      go_ret
      refine ⟨?_, HB.out⟩
      rw [HE.out, HK.out, List.drop_length]
      rfl

/-- The row after 'clear': as far as place o it stands as it stood. -/
theorem R_setCells {base g n cap : Nat} {ok : Nat → Prop} : ∀ (zs : List ByteArray) (o : Nat) (W : World) (xs : List ByteArray), Kd.R Kd.string 9 W base ok (.slice (some ⟨g, 0, none⟩) n cap) xs →
    ∃ xs', Kd.R Kd.string 9 (W.setCells g o (zs.map Value.string)) base ok (.slice (some ⟨g, 0, none⟩) n cap) xs' ∧ xs'.length = xs.length ∧ xs'.take o = xs.take o ∧ W.grownBy (W.setCells g o (zs.map Value.string)) (some g)
  | [], o, W, xs, h => ⟨xs, h, rfl, rfl, World.grownBy.refl W _⟩
  | z :: zs, o, W, xs, h => by
    have h1 := Kd.R_putg h (o : Int) z
    rw [Int.toNat_natCast] at h1
    obtain ⟨xs', e1, e2, e3, e4⟩ := R_setCells zs (o + 1) (W.setCell ⟨g, o, none⟩ (.string z)) _ h1.1
    refine ⟨xs', e1, by rw [e2, List.length_set], ?_, h1.2.trans e4⟩
    have := congrArg (List.take o) e3
    rw [List.take_take, List.take_take, Nat.min_eq_left (by omega)] at this
    rw [this, List.take_set_of_le (by omega)]

def notKey (key : ByteArray) (l : List ByteArray) : List ByteArray := l.filter (fun x => decide (x ≠ key))
theorem notKey_self {key : ByteArray} {l : List ByteArray} (h : key ∉ l) : notKey key l = l := List.filter_eq_self.2 (fun x hx => decide_eq_true (fun e => h (e ▸ hx)))
theorem take_snoc (l : List ByteArray) (j : Nat) (h : j < l.length) : l.take (j + 1) = l.take j ++ [rdOf ByteArray.empty l (j : Int)] := by
  rw [List.take_succ_eq_append_getElem h]
  simp [rdOf, List.getD_eq_getElem?_getD, List.getElem?_eq_getElem h]
theorem rdOf_drop {l l' : List ByteArray} {j : Nat} (h : l.drop j = l'.drop j) (h1 : j < l.length) (h2 : j < l'.length) : rdOf ByteArray.empty l (j : Int) = rdOf ByteArray.empty l' (j : Int) := by
  rw [drop_consS l j h1, drop_consS l' j h2] at h
  exact (List.cons.inj h).1
/-- What the loop of DeleteFunc keeps. -/
structure DelInv (W : World) (base g n cap : Nat) (key : ByteArray) (l : List ByteArray) (i j : Nat) (cur : List ByteArray) (wr : World) : Prop where
  len : cur.length = n
  lt : i < j
  kept : cur.take i = notKey key (l.take j)
  klen : (notKey key (l.take j)).length = i
  rest : cur.drop j = l.drop j
  row : Kd.R Kd.string 9 wr base (fun _ => True) (.slice (some ⟨g, 0, none⟩) n cap) cur
  grown : W.grownBy wr (some g)
theorem DelInv.skip {W wr w' : World} {base g n cap i j : Nat} {key : ByteArray} {l cur : List ByteArray} (h : DelInv W base g n cap key l i j cur wr) (hn : l.length = n) (hj : j < n) (hk : rdOf ByteArray.empty l (j : Int) = key) (hb : Below wr.heap.size wr w') : DelInv W base g n cap key l i (j + 1) cur w' := by
  have e : notKey key (l.take (j + 1)) = notKey key (l.take j) := by
    rw [take_snoc l j (by omega), hk]
    unfold notKey
    rw [List.filter_append]
    simp
  refine ⟨h.len, Nat.lt_succ_of_lt h.lt, by rw [e]; exact h.kept, by rw [e]; exact h.klen, ?_, Kd.R_below h.row hb, h.grown.trans ⟨hb.os, hb.tape, hb.output, hb.size, fun k hk _ => hb.block k hk⟩⟩
  have := congrArg (List.drop 1) h.rest
  rwa [List.drop_drop, List.drop_drop] at this
theorem DelInv.keep {W wr w' : World} {base g n cap i j : Nat} {key : ByteArray} {l cur : List ByteArray} (h : DelInv W base g n cap key l i j cur wr) (hn : l.length = n) (hj : j < n) {x : ByteArray} (hx : rdOf ByteArray.empty l (j : Int) = x) (hk : x ≠ key) (hb : Below wr.heap.size wr w') : DelInv W base g n cap key l (i + 1) (j + 1) (cur.set i x) (w'.setCell ⟨g, i, none⟩ (.string x)) := by
  have e : notKey key (l.take (j + 1)) = notKey key (l.take j) ++ [x] := by
    rw [take_snoc l j (by omega), hx]
    unfold notKey
    rw [List.filter_append]
    simp [hk]
  have hp := Kd.R_putg (Kd.R_below h.row hb) (i : Int) x
  rw [Int.toNat_natCast] at hp
  have hl := h.len
  have hlt := h.lt
  refine ⟨by rw [List.length_set]; exact hl, Nat.succ_lt_succ hlt, ?_, by rw [e, List.length_append, h.klen]; rfl, ?_, hp.1, (h.grown.trans ⟨hb.os, hb.tape, hb.output, hb.size, fun k hk _ => hb.block k hk⟩).trans hp.2⟩
  · rw [e, ← h.kept, List.take_succ_eq_append_getElem (by rw [List.length_set]; omega), List.take_set_of_le (Nat.le_refl _), List.getElem_set_self]
  · rw [List.drop_set_of_lt (by omega)]
    have := congrArg (List.drop 1) h.rest
    rwa [List.drop_drop, List.drop_drop] at this

set_option maxHeartbeats 8000000 in
set_option maxRecDepth 100000 in
theorem delete_calls (F : Nat) (eg : ∀ args w, (callFunc F args).run Try.prog w = .ok (.enter F args) w) (key : ByteArray) (B : Nat) (hF : IsKey F key B) (W : World) (base : Nat) (v : Value) (l : List ByteArray) (hR : Kd.R Kd.string 9 W base (fun _ => True) v l) (hB : B < W.heap.size) (hc : W.cell? ⟨B, 0, none⟩ = some (.string key)) (hne : some B ≠ v.ownBlock) (hl : l.length ≤ 1000000000000) :
    Calls Try.prog 25 #[v, .func (.func F) #[] #[.pointer (some ⟨B, 0, none⟩)]] W fun e w' => ∃ v', e = .returned v' ∧ Kd.R Kd.string 9 w' base (fun _ => True) v' (notKey key l) ∧ W.grownBy w' v.ownBlock ∧ v'.ownBlock = v.ownBlock := by
  obtain ⟨A, c, rfl⟩ := Kd.R_slice hR
  have HR := Aside0.mk hR
  have HC := Aside0.mk hc
  have HNE := Aside0.mk hne
  have HI := Aside0.mk (index_calls F eg key B hF A c l W (Kd.R_reads' hR).2.2 hB hc)
  have HLC := Aside0.mk (Kd.R_reads' hR).2.1
  obtain ⟨fk, hfk⟩ : ∃ r, fstKey key 0 l = r := ⟨_, rfl⟩
  have hs := fstKey_spec key l 0
  rw [hfk] at HI hs
  clear hR hc hne hfk
  go_enter Try.func25, Try.ntmps25
  go_wp2_with fail
  refine HI.out.mono ?_
  rintro e W1 ⟨rfl, hb⟩
  have HB1 := Aside0.mk hb
  clear hb HI
  rcases hs with ⟨rfl, hn⟩ | ⟨k, hk, hfk, hk2, hk3⟩
  · have HN := Aside0.mk hn
    clear hn
    go_wp2_with fail
    go_ret
    rw [notKey_self HN.out]
    have hb := HB1.out
    exact ⟨_, rfl, Kd.R_below HR.out hb, ⟨hb.os, hb.tape, hb.output, hb.size, fun k hk _ => hb.block k hk⟩, rfl⟩
  · obtain rfl : fk = (k : Int) := by rw [hfk]; omega
    obtain ⟨g, cap, e0, hgb, hgl, _⟩ := Kd.R_form HR.out (by omega)
    injection e0 with e1 _ e3
    subst e1
    subst e3
    have hne1 : ((k : Int) == -1) = false := beq_eq_false_iff_ne.2 (by omega)
    have HD0 := Aside0.mk (show DelInv W base g l.length c key l k (k + 1) l W1 from by
      have hkk : rdOf ByteArray.empty l (k : Int) = key := by
        unfold rdOf; rw [Int.toNat_natCast, List.getD_eq_getElem?_getD, hk2]; rfl
      have e : notKey key (l.take (k + 1)) = l.take k := by
        rw [take_snoc l k hk, hkk]
        unfold notKey
        rw [List.filter_append]
        have := notKey_self hk3
        unfold notKey at this
        rw [this]; simp
      have hb := HB1.out
      exact ⟨rfl, by omega, e.symm, by rw [e, List.length_take]; omega, rfl, Kd.R_below HR.out hb, ⟨hb.os, hb.tape, hb.output, hb.size, fun k hk _ => hb.block k hk⟩⟩)
    clear hk2 hk3 hfk HB1
    go_wp2_with fail
    go_loopg [5, 6, 7] l.length (fun gg s5 s6 _ wr => ∃ (i j : Nat) (cur : List ByteArray), s5 = .int .i64 i ∧ s6 = .int .i64 j ∧ j ≤ l.length ∧ l.length - j ≤ gg ∧ Aside0 (DelInv W base g l.length c key l i j cur wr))
    case atStart => exact ⟨k, k + 1, l, rfl, by go_num, by omega, by omega, HD0⟩
    case round =>
      clear HD0
      obtain ⟨i, j, cur, rfl, rfl, hj, hgg, HD⟩ := hrel
      have hij := HD.out.lt
      by_cases hlt : j < l.length
      · have hltz : (j : Int) < (l.length : Int) := by omega
        obtain ⟨cj, _⟩ := Kd.R_celln ByteArray.empty HD.out.row (j : Int) (by omega) (by omega)
        rw [Int.toNat_natCast, rdOf_drop HD.out.rest (by have := HD.out.len; omega) hlt] at cj
        obtain ⟨x, hx⟩ : ∃ x, rdOf ByteArray.empty l (j : Int) = x := ⟨_, rfl⟩
        rw [hx] at cj
        have HX := Aside0.mk hx
        have HF := Aside0.mk (hF wr x ((HD.out.grown.cell HC.out (fun e => HNE.out (by rw [e]; rfl)))))
        clear hx
        by_cases he : x = key
        · rw [decide_eq_true he] at HF
          have HE := Aside0.mk he
          clear he
          go_wp2_with fail
          refine HF.out.mono ?_
          rintro e w' ⟨rfl, hb'⟩
          have HD2 := Aside0.mk (HD.out.skip rfl hlt (HX.out.trans HE.out) hb')
          clear hb' HD cj
          go_wp2_with fail
          go_roundg (l.length - (j + 1))
          case measure => omega
          case rel => exact ⟨i, j + 1, cur, rfl, by go_num, by omega, by omega, HD2⟩
        · rw [decide_eq_false he] at HF
          have HE := Aside0.mk he
          clear he
          go_wp2_with fail
          refine HF.out.mono ?_
          rintro e w' ⟨rfl, hb'⟩
          have HD2 := Aside0.mk (HD.out.keep rfl hlt HX.out HE.out hb')
          obtain ⟨ci, fi⟩ := Kd.R_celln ByteArray.empty (Kd.R_below HD.out.row hb') (i : Int) (by omega) (by omega)
          rw [Int.toNat_natCast] at ci fi
          clear hb' HD cj
          go_wp2_with fail
          go_roundg (l.length - (j + 1))
          case measure => omega
          case rel => exact ⟨i + 1, j + 1, cur.set i x, by go_num, by go_num, by omega, by omega, HD2⟩
      · obtain rfl : j = l.length := by omega
        have hltz : ¬ (l.length : Int) < (l.length : Int) := by omega
        have hcl := Go.Lib.run_clear_slice wr 22 9 0 (.string ⟨#[]⟩) Try.underlying22 (fun w => by kernel_rfl) rfl rfl g i (l.length - i) (c - i) (by omega)
          (fun t ht => by have := (Kd.R_celln ByteArray.empty HD.out.row ((i + t : Nat) : Int) (by omega) (by omega)).1; rw [Int.toNat_natCast] at this; rw [this]; rfl)
          (fun t ht => by have := (Kd.R_celln ByteArray.empty HD.out.row ((i + t : Nat) : Int) (by omega) (by omega)).2; rw [Int.toNat_natCast] at this; exact this)
        have HCL := R_setCells (List.replicate (l.length - i) ⟨#[]⟩) i wr cur HD.out.row
        rw [List.map_replicate] at HCL
        have HCL := Aside0.mk HCL
        have hic : l.length ≤ c := HLC.out
        go_wp2_with fail
        go_ret
        obtain ⟨xs', f1, f2, f3, f4⟩ := HCL.out
        have hk := HD.out.kept
        rw [List.take_length] at hk
        have hf := Kd.R_take f1 (m := i) (by rw [f2, HD.out.len]; omega)
        rw [f3, hk] at hf
        exact ⟨_, rfl, hf, HD.out.grown.trans f4, rfl⟩
end Go.Proofs.Ytjpbcmfppmiagaa.Print
