/- For all bytes and every cut: the units that end before the cut are the units of the bytes cut there, and at most three units are behind them. No condition. -/
import Derived.Test.YtefomeabnlecoaaPrint16
import Derived.Test.YtefomeabnlecoaaLawG
-- NEEDS scansionlaw01_UtfCut
namespace Go.Proofs.Ytefomeabnlecoaa.Pure
open Go.RowKit Go.Proofs.Ytefomeabnlecoaa.Print Go.Proofs.YtefomeabnlecoaaW.PrintWords Go.Proofs.YtefomeabnlecoaaW.PrintLast
set_option linter.unusedVariables false
set_option linter.unusedSimpArgs false

/-- A code point ahead of a prefix is one ahead of the whole. -/
theorem Begins.ofTake {s : List Int} {r : Int} {m : Nat} (h : Begins (s.take m) r) : Begins s r := by
  refine ⟨h.1, ?_⟩
  have h2 := h.2
  have hl := congrArg List.length h2
  simp only [List.length_take] at hl
  rw [List.take_take, Nat.min_eq_left (by omega)] at h2
  exact h2
theorem Begins.toTake {s : List Int} {r : Int} {m : Nat} (h : Begins s r) (hm : (bytesOf r).length ≤ m) : Begins (s.take m) r := by
  refine ⟨h.1, ?_⟩
  rw [List.take_take, Nat.min_eq_left hm]
  exact h.2

theorem dec_take (s : List Int) (hs : IsBytes s) (m : Nat) (h0 : 0 < s.length) (hm : (dec s).f2 ≤ m) : dec (s.take m) = dec s := by
  have hf := dec_f2 s hs h0
  cases h3 : (dec s).f3 with
  | false =>
    have hb := dec_good s hs h0 h3
    have hd := dec_of hb
    have hw := bytesOf_len (dec s).f0
    have e2 : (dec s).f2 = wid (dec s).f0 := by conv => lhs; rw [hd]
    rw [dec_of (hb.toTake (m := m) (by omega))]
    exact hd.symm
  | true =>
    have hd := dec_bad s h3
    cases h4 : (dec (s.take m)).f3 with
    | true => rw [dec_bad _ h4, hd]
    | false =>
      have hb := dec_good (s.take m) (hs.take m) (by rw [List.length_take]; omega) h4
      rw [dec_of hb.ofTake] at h3
      cases h3

theorem unitAt_take (l : List Int) (hl : IsBytes l) (m p : Nat) (hp : p < l.length) (hm : m ≤ l.length) (h : (p : Int) + (unitAt l p).f2 ≤ m) : unitAt (l.take m) p = unitAt l p := by
  have hu := unit_f2 l hl p (by omega)
  have e : unitAt l p = ⟨(dec (l.drop p)).f0, p, (dec (l.drop p)).f2, (dec (l.drop p)).f3⟩ := unitAt_dec l p (by omega)
  have e2 : (unitAt l p).f2 = (dec (l.drop p)).f2 := by rw [e]
  have ht : (l.take m).drop p = (l.drop p).take (m - p) := by rw [List.drop_take]
  have e' : unitAt (l.take m) p = ⟨(dec ((l.take m).drop p)).f0, p, (dec ((l.take m).drop p)).f2, (dec ((l.take m).drop p)).f3⟩ := unitAt_dec (l.take m) p (by rw [List.length_take]; omega)
  rw [e', e, ht, dec_take (l.drop p) (hl.drop p) (m - p) (by rw [List.length_drop]; omega) (by omega)]

theorem cut_l0 (l : List Int) (hl : IsBytes l) (m : Nat) (hm : m ≤ l.length) (hn : l.length ≤ 100000) : ∀ (d k i p : Nat), (units l).length - i ≤ d → 2 * d + 3 ≤ k → i ≤ (units l).length → i ≤ (units (l.take m)).length → (units l).drop i = from_ l p → (units (l.take m)).drop i = from_ (l.take m) p → p ≤ m →
    scansionlaw01_UtfCut.l0 k m (units l) (units (l.take m)) i = some true := by
  intro d
  have hu := units_len l
  have hu' := units_len (l.take m)
  have hlt : (l.take m).length = m := by rw [List.length_take]; omega
  have hb' : IsBytes (l.take m) := hl.take m
  induction d with
  | zero =>
    intro k i p hd hk hi hi' e e' hp
    have e0 : (units l).drop i = [] := List.drop_eq_nil_of_le (by omega)
    have hpl : ¬ (p : Int) < l.length := fun q => by rw [e0, from_step l hl p (by omega) q] at e; cases e
    obtain ⟨k, rfl⟩ : ∃ n, k = n + 1 := ⟨k - 1, by omega⟩
    obtain ⟨k, rfl⟩ : ∃ n, k = n + 1 := ⟨k - 1, by omega⟩
    rw [from_end _ _ (by omega)] at e'
    have hle := congrArg List.length e'
    rw [List.length_drop, List.length_nil] at hle
    rw [scansionlaw01_UtfCut.l0, if_neg (by omega), scansionlaw01_UtfCut.j2, if_neg (by decide), if_pos (by omega), w64 (by omega) (by omega), decide_eq_true (by omega)]
  | succ d ih =>
    intro k i p hd hk hi hi' e e' hp
    obtain ⟨k, rfl⟩ : ∃ n, k = n + 1 := ⟨k - 1, by omega⟩
    obtain ⟨k, rfl⟩ : ∃ n, k = n + 1 := ⟨k - 1, by omega⟩
    by_cases q : i < (units l).length
    · rw [drop_cons_rd _ i q] at e
      have hpl : (p : Int) < l.length := by
        by_cases g : (p : Int) < l.length
        · exact g
        · rw [from_end _ _ g] at e; cases e
      have hun := unit_f2 l hl p hpl
      have hf1 : (unitAt l p).f1 = p := unitAt_f1 l p
      rw [from_step l hl p (by omega) hpl] at e
      obtain ⟨ea, eb⟩ := List.cons.inj e
      rw [scansionlaw01_UtfCut.l0, if_pos (by omega), if_pos (by omega), ea, hf1, w64 (by omega) (by omega)]
      by_cases g : (p : Int) + (unitAt l p).f2 ≤ m
      · have et := unitAt_take l hl m p (by omega) hm g
        rw [from_step _ hb' p (by omega) (by omega), et] at e'
        have q' : i < (units (l.take m)).length := by
          have hle := congrArg List.length e'
          rw [List.length_drop, List.length_cons] at hle
          omega
        rw [drop_cons_rd _ i q'] at e'
        obtain ⟨ea', eb'⟩ := List.cons.inj e'
        rw [decide_eq_true g, scansionlaw01_UtfCut.j2, if_pos rfl, if_neg (by omega), if_pos (by omega), if_pos (by omega), if_pos (by omega), ea, ea', if_neg (by simp), w64 (by omega) (by omega), show ((i : Int) + 1) = ((i + 1 : Nat) : Int) from by omega]
        have ep : (p : Int) + (unitAt l p).f2 = ((p + (unitAt l p).f2.toNat : Nat) : Int) := by omega
        rw [ep] at eb eb'
        exact ih k (i + 1) (p + (unitAt l p).f2.toNat) (by omega) (by omega) (by omega) (by omega) eb eb' (by omega)
      · have hc := chain_from (l.take m) hb' (l.take m).length p (by omega) (by omega) (by omega)
        have hg := endC_ge p _ hc.1
        have hle := congrArg List.length e'
        rw [List.length_drop] at hle
        have : (from_ (l.take m) p).length = (unitsFrom (l.take m) (l.take m).length p).length := rfl
        rw [decide_eq_false g, scansionlaw01_UtfCut.j2, if_neg (by decide), if_pos (by omega), w64 (by omega) (by omega), decide_eq_true (by omega)]
    · exact ih (k + 1 + 1) i p (by omega) (by omega) hi hi' e e' hp

theorem UtfCut : scansionlaw01_UtfCut.Pure := by
  intro l a hm h1 hwf ha
  have hb := isBytes_of hwf
  have hu := units_len l
  refine ⟨20000, ?_⟩
  unfold scansionlaw01_UtfCut.f
  rw [awake_k _ (by omega), Option.bind_some, if_pos rfl]
  by_cases hl : (l.length : Int) > 3000
  · rw [if_pos hl, scansionlaw01_UtfCut.j0, if_pos rfl]
  rw [if_neg hl]
  by_cases h0 : a < 0
  · rw [if_pos h0, scansionlaw01_UtfCut.j0, if_pos rfl]
  rw [if_neg h0]
  by_cases h2 : a > (l.length : Int)
  · rw [decide_eq_true h2, scansionlaw01_UtfCut.j0, if_pos rfl]
  rw [decide_eq_false h2, scansionlaw01_UtfCut.j0, if_neg (by decide), decode_f hb (by omega), Option.bind_some, if_pos (by omega), if_pos (by omega), decode_f (hb.take _) (by rw [List.length_take]; omega), Option.bind_some]
  have := cut_l0 l hb a.toNat (by omega) (by omega) (units l).length 19999 0 0 (by omega) (by omega) (by omega) (by omega) rfl rfl (by omega)
  rw [show ((a.toNat : Nat) : Int) = a from by omega] at this
  exact this

end Go.Proofs.Ytefomeabnlecoaa.Pure
