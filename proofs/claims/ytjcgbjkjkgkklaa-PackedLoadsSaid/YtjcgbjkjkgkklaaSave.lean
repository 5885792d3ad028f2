/- The contract of packed.runs: its iterator yields a row's runs, one behind the other. · A drawing region inside a round of a loop over an iterator: the steps of the plain region serve. A call inside a round: the plain contract serves. · What the walk of packed.Save wants: tables of its drawing regions, laws of its steps, its bytes as plain functions. · What the range over packed.runs wants inside packed.Save: the iterator's contract in the law's form, what its rounds keep. · packed.Save, walked by hand where the states are right. · The contract of packed.Save: the states' bytes in new memory, or the error, if they are not right. -/
import Derived.Test.YtjcgbjkjkgkklaaPrint0
import Derived.RangeFuncNested
import Derived.RangeFuncBound
import Derived.RangeFuncCalls
import Derived.RangeFuncLeaves
import Derived.Shelf.Abstract
import Derived.WalkKit
import Derived.OwnWalkIn
import Derived.TacticsInMore
import Derived.LoopNIn
import Derived.LoopIn
import Derived.Sort.LoopGhostIn
import Derived.Sort.CutIn
import Derived.Sort.QuietIn
import Derived.WalkMore
import Derived.Test.YtjcgbjkjkgkklaaPrint1
import Derived.Test.YtjcgbjkjkgkklaaRight
import Derived.Lib.SlBytesConst
-- NEEDS packed_Number
namespace Go.Proofs.Ytjcgbjkjkgkklaa.Print
open Go.RowKit Go.Shelf Go.Proofs.YtjcgbjkjkgkklaaW.PrintWords Go.Proofs.YtjcgbjkjkgkklaaW.PrintLast Go.Proofs.YtjcgbjkjkgkklaaW.PrintMore
attribute [local go_sem] Oper.semAt_some
set_option linter.unusedVariables false
set_option linter.unusedSimpArgs false

/-- The runs of a row: how many, and of which state; from_: where the run began, i: where it is read. -/
def runsGo (row : List Int) : Nat → Nat → Nat → List (Int × Int)
  | 0, _, _ => []
  | k + 1, from_, i => if i ≤ row.length then (if i < row.length ∧ rd row i = rd row from_ then runsGo row k from_ (i + 1) else ((i : Int) - from_, rd row from_) :: runsGo row k i (i + 1)) else []
def runsOf (row : List Int) : List (Int × Int) := runsGo row row.length 0 1

theorem fn_wide {f : Nat} {p : Prop} (h : p) : Fence.wide.fn f ∧ p := ⟨trivial, h⟩

theorem runs_call (A : Option Addr) (n c : Nat) (w : World) :
    Calls Try.prog 22 #[.slice A n c] w fun e w' => e = .returned (.func (.func 32) #[] #[.pointer (some ⟨w.heap.size, 0, none⟩)]) ∧ w' = w.alloc (.cells #[.slice A n c] 43) := by
  go_enter Try.func22, Try.ntmps22
  go_wp2
  go_ret
  exact ⟨rfl, rfl⟩

set_option maxRecDepth 100000 in
set_option maxHeartbeats 4000000 in
theorem runs1_in (n : Nat) (hn : 1 ≤ n) (lp Bn : Nat) (A : Option Addr) (c : Nat) (l : List Int) (w0 : World) (hl : l.length ≤ 9223372036854775806)
    (hr : Kd.C (Kd.int .i64) w0 A l.length l) (J Jx : List (Int × Int) → World → Prop) (hJd : ∀ pre W m, J pre W → J pre (World.drewN W m))
    (hY : ∀ pre (x : Int × Int) W, J pre W → pre.length < (runsOf l).length → pre ++ [x] <+: runsOf l → YieldAt Fence.wide (n - 1) Try.prog lp #[.int .i64 x.1, .int .i64 x.2] W fun e W' =>
      (e = .returned (.bool true) ∧ J (pre ++ [x]) W' ∧ Below w0.heap.size W W' ∧ W'.cell? ⟨Bn, 0, none⟩ = W.cell? ⟨Bn, 0, none⟩) ∨ (e = .returned (.bool false) ∧ Jx (pre ++ [x]) W'))
    (W : World) (hW : Below w0.heap.size w0 W) (hBn : W.cell? ⟨Bn, 0, none⟩ = some (.slice A l.length c)) (h0 : J [] W) :
    CallsIn Fence.wide n Try.prog 32 #[.func (.yield lp) #[] #[], .pointer (some ⟨Bn, 0, none⟩)] W fun e W' => (∃ v, e = .returned v) ∧
      ((∃ ys, ys = runsOf l ∧ J ys W') ∨ (∃ pre, pre <+: runsOf l ∧ Jx pre W')) := by
  have HR := Aside0.mk hr
  have HBN := Aside0.mk hBn
  have HW := Aside0.mk hW
  have HY := Aside0.mk hY
  have HJ0 := Aside0.mk h0
  clear hr hBn hW hY h0
  refine callsIn_of_wp Try.func32 rfl trivial ?_ rfl
  simp only [Try.ntmps32, List.size_toArray, List.length_cons, List.length_nil, Nat.reduceAdd, Nat.reduceSub, Array.replicate_succ, Array.replicate_zero, List.push_toArray, List.append_toArray, List.nil_append, List.cons_append]
  gi_wp2
  gi_loopg [3, 4] (l.length + 1) (fun gk v3 v4 wr => ∃ (fr i : Nat) (pre : List (Int × Int)), v3 = .int .i64 fr ∧ v4 = .int .i64 i ∧ fr < i ∧ i ≤ l.length + 1 ∧ i + gk = l.length + 2 ∧ Aside0 (runsOf l = pre ++ runsGo l (l.length + 1 - i) fr i) ∧ Aside0 (J pre wr) ∧ Aside0 (Below w0.heap.size w0 wr) ∧ Aside0 (wr.cell? ⟨Bn, 0, none⟩ = some (.slice A l.length c)))
  case atStart => exact ⟨0, 1, [], rfl, rfl, by omega, by omega, by omega, ⟨by simp [runsOf]⟩, HJ0, HW, HBN⟩
  case round =>
    obtain ⟨fr, i, pre, rfl, rfl, hfi, hi, hgk, HU, HJ, HB, HCB⟩ := hrel
    obtain ⟨wo, rfl⟩ : ∃ wo : World, wo = wr := ⟨_, rfl⟩
    have hcb : wo.cell? ⟨Bn, 0, none⟩ = some (.slice A l.length c) := HCB.out
    by_cases hle : i ≤ l.length
    · have hlez : (i : Int) ≤ (l.length : Int) := by omega
      obtain ⟨ad, e1, hc⟩ := Kd.at_int (Kd.C_below HR.out (HB.out)) (fr : Int) (by omega) (by omega)
      subst e1
      have hcd : ∀ m, (wo.drewN m).cell? (ad.add fr) = some (.int .i64 (rd l fr)) := fun m => by simpa using hc
      have HC := Aside0.mk hc
      rw [Int.toNat_natCast] at hc
      obtain ⟨K, hK⟩ : ∃ K, l.length + 1 - i = K + 1 := ⟨l.length - i, by omega⟩
      rw [hK] at HU
      by_cases heq : i < l.length ∧ rd l i = rd l fr
      · have HU2 := Aside0.mk (show runsOf l = pre ++ runsGo l K fr (i + 1) by rw [HU.out, runsGo, if_pos hle, if_pos heq])
        obtain ⟨h1, h2⟩ := heq
        have h1z : (i : Int) < (l.length : Int) := by omega
        obtain ⟨ad2, e2, hc2⟩ := Kd.at_int (Kd.C_below HR.out (HB.out)) (i : Int) (by omega) h1z
        obtain rfl : ad = ad2 := by injection e2
        rw [Int.toNat_natCast, h2] at hc2
        clear HU h2
        have hb := beq_self_eq_true (rd l fr)
        gi_wp2_with fail
        gi_quiet (fail)
        gi_wp2_with fail
        gi_roundg (gk - 1)
        case measure => omega
        case rel => exact ⟨fr, i + 1, pre, rfl, by go_num, by omega, by omega, by omega, ⟨by rw [HU2.out, show l.length + 1 - (i + 1) = K from by omega]⟩, ⟨hJd _ _ _ HJ.out⟩, ⟨pw_below_drewN HB.out _⟩, ⟨by simpa using HCB.out⟩⟩
      · have HU2 := Aside0.mk (show runsOf l = (pre ++ [((i : Int) - fr, rd l fr)]) ++ runsGo l K i (i + 1) by rw [HU.out, runsGo, if_pos hle, if_neg heq]; simp)
        have hlen : pre.length < (runsOf l).length := by rw [HU2.out]; simp
        clear HU
        by_cases h1 : i < l.length
        · have h1z : (i : Int) < (l.length : Int) := by omega
          have h2 : rd l i ≠ rd l fr := fun e => heq ⟨h1, e⟩
          have hb : (rd l i == rd l fr) = false := beq_eq_false_iff_ne.mpr h2
          obtain ⟨ad2, e2, hc2⟩ := Kd.at_int (Kd.C_below HR.out (HB.out)) (i : Int) (by omega) h1z
          obtain rfl : ad = ad2 := by injection e2
          rw [Int.toNat_natCast] at hc2
          clear h2 heq
          gi_wp2_with fail
          gi_quiet (fail)
          have hYY := HY.out pre ((i : Int) - fr, rd l fr) (wo.drewN nq) (hJd _ _ _ HJ.out) hlen ⟨_, HU2.out.symm⟩
          obtain ⟨fn, tmps, assign, body, hy, hR⟩ := hYY
          dsimp only at hy
          have HRR := Aside0.mk hR
          clear hR
          have hc3 := hcd nq
          have hcb3 : (wo.drewN nq).cell? ⟨Bn, 0, none⟩ = some (.slice (some ad) l.length c) := by simpa using hcb
          clear hc hcb hc2
          gi_wp2_with ((with_reducible refine fn_wide ?_))
          refine HRR.out.mono ?_
          rintro e W' (⟨rfl, hJ', hk, hkc⟩ | ⟨rfl, hJx'⟩)
          · have HKC := Aside0.mk hkc
            clear hkc
            gi_wp2_with fail
            gi_roundg (gk - 1)
            case measure => omega
            case rel => exact ⟨i, i + 1, _, rfl, by go_num, by omega, by omega, by omega, ⟨by rw [HU2.out, show l.length + 1 - (i + 1) = K from by omega]⟩, ⟨hJ'⟩, ⟨(pw_below_drewN HB.out _).trans hk⟩, ⟨HKC.out.trans hcb3⟩⟩
          · gi_wp2_with fail
            refine bodyPost_ret (results_none rfl _ _ _) rfl ?_
            exact ⟨⟨_, rfl⟩, .inr ⟨_, ⟨_, HU2.out.symm⟩, hJx'⟩⟩
        · have h1z : ¬ (i : Int) < (l.length : Int) := by omega
          clear heq
          gi_wp2_with fail
          gi_quiet (fail)
          have hYY := HY.out pre ((i : Int) - fr, rd l fr) (wo.drewN nq) (hJd _ _ _ HJ.out) hlen ⟨_, HU2.out.symm⟩
          obtain ⟨fn, tmps, assign, body, hy, hR⟩ := hYY
          dsimp only at hy
          have HRR := Aside0.mk hR
          clear hR
          have hc3 := hcd nq
          have hcb3 : (wo.drewN nq).cell? ⟨Bn, 0, none⟩ = some (.slice (some ad) l.length c) := by simpa using hcb
          clear hc hcb
          gi_wp2_with ((with_reducible refine fn_wide ?_))
          refine HRR.out.mono ?_
          rintro e W' (⟨rfl, hJ', hk, hkc⟩ | ⟨rfl, hJx'⟩)
          · have HKC := Aside0.mk hkc
            clear hkc
            gi_wp2_with fail
            gi_roundg (gk - 1)
            case measure => omega
            case rel => exact ⟨i, i + 1, _, rfl, by go_num, by omega, by omega, by omega, ⟨by rw [HU2.out, show l.length + 1 - (i + 1) = K from by omega]⟩, ⟨hJ'⟩, ⟨(pw_below_drewN HB.out _).trans hk⟩, ⟨HKC.out.trans hcb3⟩⟩
          · gi_wp2_with fail
            refine bodyPost_ret (results_none rfl _ _ _) rfl ?_
            exact ⟨⟨_, rfl⟩, .inr ⟨_, ⟨_, HU2.out.symm⟩, hJx'⟩⟩
    · have hlez : ¬ (i : Int) ≤ (l.length : Int) := by omega
      have hE : runsGo l (l.length + 1 - i) fr i = [] := by rw [show l.length + 1 - i = 0 from by omega]; rfl
      have HU2 := Aside0.mk (show runsOf l = pre by rw [HU.out, hE, List.append_nil])
      clear hE HU
      gi_wp2_with fail
      go_end0
      exact ⟨⟨_, rfl⟩, .inl (by rw [HU2.out]; exact HJ.out)⟩
end Go.Proofs.Ytjcgbjkjkgkklaa.Print

namespace Go.Proofs.Ytjcgbjkjkgkklaa.Print
open Go.RowKit Go.Shelf Go.Proofs.YtjcgbjkjkgkklaaW.PrintWords Go.Proofs.YtjcgbjkjkgkklaaW.PrintLast Go.Proofs.YtjcgbjkjkgkklaaW.PrintMore
set_option linter.unusedVariables false

theorem callsIn_round {l n : Nat} {P : Program} {f : FuncId} {args : Array Value} {w : World} {R : Ending → World → Prop} (h : Calls P f args w R) : CallsIn (Fence.wide.inRound l) n P f args w R :=
  (callsIn_wide (n := n)).2 h

theorem room_inRound (l n : Nat) : (Fence.wide.inRound l).room n := fun _ h => by simp [Fence.wide, Fence.inRound] at h

theorem wpOp_in {P : Program} {ops : Array Oper} {Q : Exit → Act → World → Prop} {K : Act → World → Prop} {l n i : Nat} {a : Act} {w : World} (hd : ∀ (j : Nat) (o : Oper), ops[j]? = some o → ∀ c, o.op ≠ .defer c) (hQ : ∀ a w, ¬ Q .outgrown a w)
    (h : wpOp P ops Q i K a w) : wpOpIn (Fence.wide.inRound l) n P ops Q i K a w := by
  unfold wpOp at h
  unfold wpOpIn
  cases ho : ops[i]? with
  | none => rw [ho] at h; exact h
  | some o =>
    rw [ho] at h
    simp only at h ⊢
    split
    · rename_i hw
      rw [if_pos hw] at h
      rcases h with h | ⟨_, a', w', hL⟩
      · unfold Oper.wp at h
        refine ⟨fun _ _ => trivial, ?_⟩
        rw [Oper.semAt_eq _ _ _ (hd i o ho)]
        generalize (execOp a.eval o).run P w = r at *
        cases r with
        | ok x w' =>
          cases x <;> simp only [Oper.upon, Oper.uponIn] at h ⊢ <;>
            first
              | exact h
              | exact ⟨fun q => by simp [Fence.wide, Fence.inRound] at q, callsIn_round h⟩
              | exact ⟨fun q => by simp [Fence.wide, Fence.inRound] at q, fun c cs _ => let ⟨v, w'', r, s⟩ := h c cs; ⟨v, w'', r, stepsIn_wide.2 s⟩⟩
        | halt x w' => cases x <;> simp only [Oper.upon, Oper.uponIn] at h ⊢ <;> exact h
      · exact absurd hL (hQ a' w')
    · rename_i hw
      rw [if_neg hw] at h
      exact ⟨fun _ _ => trivial, h⟩

theorem wpAny_in {P : Program} {ops : Array Oper} {Q : Exit → Act → World → Prop} {l n : Nat} (hd : ∀ (j : Nat) (o : Oper), ops[j]? = some o → ∀ c, o.op ≠ .defer c) (hQ : ∀ a w, ¬ Q .outgrown a w) :
    ∀ (fuel : Nat) (listed : Array Bool) (a : Act) (w : World), wpAny P .any ops Q fuel listed a w → wpAnyIn (Fence.wide.inRound l) n P .any ops Q fuel listed a w
  | 0, _, _, _, h => h
  | fuel + 1, _, _, _, h => ⟨h.1, fun i hi => wpOpIn_mono (fun a' w' h' => wpAny_in hd hQ fuel _ a' w' h') (wpOp_in hd hQ (h.2 i hi))⟩

/-- start_ inside a round. -/
theorem startIn_ {P : Program} {ops : Array Oper} {Q : Exit → Act → World → Prop} {S : World → Prop} {ds : List Nat} {id n l m : Nat} {a : Act} {w : World} (hd : ∀ o ∈ ops.toList, ∀ c, o.op ≠ .defer c) (hQ : ∀ a w, ¬ Q .outgrown a w)
    (li : Array Bool) (hm : P.follows .mixedOrders = true) (hn : ops.size = n) (hl : Array.replicate n false = li) (hS : S w.drew)
    (h : S w.drew → wpAnyLast P .any ops Q S ds n li a w.drew) : (Code.region id ops true).wpIn (Fence.wide.inRound l) m P Q a w := by
  subst hn
  subst hl
  exact wpIn_region_any hm (wpAny_in (fun j o ho => hd o (Array.mem_toList_iff.2 (Array.mem_of_getElem? ho))) hQ _ _ _ _ (wpAny_of_last _ _ _ _ (h hS)))

/-- A step of a drawing region by a law on a list of operations. -/
theorem step_list {P : Program} {ops : Array Oper} {Q : Exit → Act → World → Prop} {K : Act → World → Prop} {oi : Oper} {N : Option Tmp} {a : Act} {w : World} (hN : oi.dst = N) (hw : Region.wanted oi (yielded ops a.tmps) = true)
    (h : Oper.wp P oi a w K Q) : if Region.wanted oi (yielded ops a.tmps) = true then Oper.wp P oi a w K Q else K (a.put N undef) w := by
  rw [if_pos hw]; exact h
end Go.Proofs.Ytjcgbjkjkgkklaa.Print

namespace Go.Proofs.Ytjcgbjkjkgkklaa.Print
open Go.RowKit Go.Shelf Go.Proofs.YtjcgbjkjkgkklaaW.PrintWords Go.Proofs.YtjcgbjkjkgkklaaW.PrintLast Go.Proofs.YtjcgbjkjkgkklaaW.PrintMore
set_option linter.unusedVariables false
set_option linter.unusedSimpArgs false

def save_T15 : Bool × List (List Nat × List Nat) := (true, [([], []), ([], []), ([1], [1]), ([0, 2, 2], [0, 2]), ([], []), ([4, 3], [4]), ([3, 5, 5], [3, 5]), ([6, 6, 0, 1, 2, 3, 4, 5, 6], [6])])
def save_B15 : List Nat := [0, 0, 2, 7, 0, 31, 63, 127]
theorem save_tab15 : rtab .any (opsOf Try.f11 15) = save_T15 := by kernel_rfl
theorem save_bits15 : waitsOk save_T15.2 save_B15 = true := by kernel_rfl

def save_T4 : Bool × List (List Nat × List Nat) := (true, [([], []), ([], []), ([1], [1]), ([2], [2]), ([3], [3]), ([4], [4]), ([5], [5]), ([0, 6, 6], [0, 6]), ([7, 7, 0, 1, 2, 3, 4, 5, 6, 7], [7])])
def save_B4 : List Nat := [0, 0, 2, 6, 14, 30, 62, 127, 255]
theorem save_tab4 : rtab .any (opsOf Try.f11 4) = save_T4 := by kernel_rfl
theorem save_bits4 : waitsOk save_T4.2 save_B4 = true := by kernel_rfl

theorem cell_lt {w : World} {a : Addr} {v : Value} (h : w.cell? a = some v) : a.block < w.heap.size := by
  rcases Nat.lt_or_ge a.block w.heap.size with h' | h'
  · exact h'
  · simp [World.cell?, Array.getElem?_eq_none h'] at h

/-- An append in a drawing region. -/
theorem app_step {P : Program} {ops : Array Oper} {o : Oper} {a : Act} {w : World} {Q : Exit → Act → World → Prop} {Kc : Act → World → Prop} (hw : Region.wanted o (yielded ops a.tmps) = true) (s x : Operand) (t : TypeId)
    (ho : o.op = .call { callee := .builtin .append, args := #[s, x], argTypes := #[t, t] })
    (base : Nat) (e : TypeId) (i : TypeInfo) (z : Value) (size bytes : Nat) (ht : P.underlying t = some (.slice e)) (hi : P.info? e = some i) (hz : i.zero = some z)
    (hsize : i.size = size) (hby : i.bytes = bytes) (hzs : z.cells.size = size) (hsz : 0 < size)
    (v : Value) (n : Nat) (xs : List Value) (hs : a.eval s = v) (hown : w.ownsRow base e size v n xs)
    (ad : Addr) (m c : Nat) (news : List Value) (hx : a.eval x = .slice (some ad) m c) (hl : news.length = m * size) (hnews : ∀ j u, news[j]? = some u → w.cell? (ad.add j) = some u) (h1 : ∀ u ∈ news, u.oneCell' = true)
    (h63 : n + m ≤ maxLen) (hbytes : (n + m) * bytes ≤ 140737488355328) (hbase : base ≤ w.heap.size)
    (h : ∀ v' w', w'.ownsRow base e size v' (n + m) (xs ++ news) → w.grownBy w' v.ownBlock → Kc (a.put o.dst v') w') :
    if Region.wanted o (yielded ops a.tmps) = true then Oper.wp P o a w Kc Q else Kc (a.put o.dst undef) w := by
  rw [if_pos hw]
  obtain ⟨v', w', hr, h2, h3, h4, h5⟩ := run_append_own_at (P := P) w base t o.type e i z size bytes ht hi hz hsize hby hzs hsz v n xs hown ad m c news hl hnews h1 h63 hbytes hbase
  unfold Oper.wp execOp
  simp only [ho, resolve, invoke, builtin, Sem.run_bind, Sem.run_pure, Result.andThen_ok, List.map_toArray, List.map_cons, List.map_nil, hs, hx, hr]
  exact h v' w' h2 h3

theorem keepsOthers_below {W W' : World} (h : Below W.heap.size W W') : KeepsOthers W W' :=
  ⟨h.size, fun k o hk _ => (h.block k (Array.getElem?_eq_some_iff.1 hk).1).trans hk⟩

theorem own_keeps {W W1 : World} {n e size k : Nat} {v : Value} {xs : List Value} (h : W.ownsRow n e size v k xs) (hg : W.grownBy W1 v.ownBlock) : KeepsOthers W W1 :=
  KeepsOthers.of_grownBy hg fun j o ej hj => by
    rcases h.2 with ⟨rfl, _⟩ | ⟨g, cap, cur, rfl, _, hgb, _⟩
    · simp [Value.ownBlock] at ej
    · obtain rfl : g = j := by simpa [Value.ownBlock] using ej
      rw [hgb] at hj; cases hj; rfl

/-- The cells of a row of numbers that is read. -/
theorem news_of_C {k : IntKind} {w : World} {A : Option Addr} {n : Nat} {xs : List Int} (h : Kd.C (Kd.int k) w A n xs) (h0 : 0 < n) : ∃ ad, A = some ad ∧ ∀ j u, (encs (Value.int k) xs)[j]? = some u → w.cell? (ad.add j) = some u := by
  obtain ⟨ad, e, hc⟩ := h.2.2 h0
  refine ⟨ad, e, fun j u hj => ?_⟩
  unfold encs at hj
  rw [List.getElem?_map] at hj
  obtain ⟨p, hp, rfl⟩ := Option.map_eq_some_iff.1 hj
  obtain ⟨c, hl, hK, hcell⟩ := hc j p hp
  obtain rfl : c = [Value.int k p] := hK
  have := hcell 0 _ rfl
  have e1 : (Kd.int k).sz = 1 := rfl
  rw [e1] at this
  simpa using this

theorem encs_append {α : Type} (enc : α → Value) (xs ys : List α) : encs enc (xs ++ ys) = encs enc xs ++ encs enc ys := by simp [encs]
theorem own_lower {w : World} {b b' e size n : Nat} {v : Value} {xs : List Value} (h : w.ownsRow b e size v n xs) (hb : b' ≤ b) : w.ownsRow b' e size v n xs :=
  ⟨h.1, h.2.elim .inl fun ⟨g, cap, cur, h1, h2, h3⟩ => .inr ⟨g, cap, cur, h1, Nat.le_trans hb h2, h3⟩⟩
theorem own_form {w : World} {b e size n : Nat} {v : Value} {xs : List Value} (h : w.ownsRow b e size v n xs) : ∃ A c, v = .slice A n c := by
  rcases h.2 with ⟨rfl, rfl⟩ | ⟨g, cap, cur, rfl, _⟩
  · exact ⟨_, _, rfl⟩
  · exact ⟨_, _, rfl⟩

/-- A number's bytes. -/
def numGo : Nat → Int → List Int
  | 0, _ => []
  | k + 1, x => if x ≥ 128 then ((Go.bits .or .i64 x 128) % 256) :: numGo k (x / 128) else [x % 256]
def numOf (n : Int) : List Int := numGo 10 (mx n 0)
theorem numGo_len : ∀ (k : Nat) (x : Int), (numGo k x).length ≤ k
  | 0, _ => Nat.le_refl _
  | k + 1, x => by
    unfold numGo
    split
    · rw [List.length_cons]; have := numGo_len k (x / 128); omega
    · simp
theorem numGo_pos (k : Nat) (x : Int) : 0 < (numGo (k + 1) x).length := by
  unfold numGo
  split <;> simp
theorem number_l0 : ∀ (j k : Nat) (x : Int) (acc : List Int), 0 ≤ x → x < 128 ^ j → j + 1 ≤ k → acc.length + j + 1 < 140737488355328 → packed_Number.l0 k x acc = some (acc ++ numGo (j + 1) x)
  | 0, k, x, acc, h0, h1, hk, ha => by
    obtain ⟨k, rfl⟩ : ∃ m, k = m + 1 := ⟨k - 1, by omega⟩
    rw [packed_Number.l0, if_neg (by omega), if_pos (by omega), numGo, if_neg (by omega)]
  | j + 1, k, x, acc, h0, h1, hk, ha => by
    obtain ⟨k, rfl⟩ : ∃ m, k = m + 1 := ⟨k - 1, by omega⟩
    rw [packed_Number.l0, numGo]
    by_cases q : x ≥ 128
    · rw [if_pos q, if_pos (by omega), if_pos q, number_l0 j k (x / 128) _ (by omega) (by rw [Int.pow_succ] at h1; omega) (by omega) (by rw [List.length_append, List.length_singleton]; omega), List.append_assoc]
      rfl
    · rw [if_neg q, if_pos (by omega), if_neg q]
theorem number_k (n : Int) (h : n < 9223372036854775808) : packed_Number.f 12 n = some (numOf n) := by
  unfold packed_Number.f numOf
  have h2 : 0 ≤ mx n 0 ∧ mx n 0 < 9223372036854775808 := by unfold mx; split <;> omega
  exact (number_l0 9 12 (mx n 0) [] h2.1 (Int.lt_of_lt_of_le h2.2 (by decide)) (by omega) (by simp)).trans (by simp)
theorem numOf_len (n : Int) : (numOf n).length ≤ 10 := numGo_len 10 _

/-- The marks of loops over iterators that are over. -/
def Marks (W : World) (ds : List Nat) : Prop := ds.Nodup ∧ ∀ D ∈ ds, W.heap[D]? = some (.deferred (some []))
def markOf (D : Nat) : Deferred := { target := .collected D, args := #[] }
theorem Marks.keeps {W W' : World} {ds : List Nat} (h : Marks W ds) (hk : KeepsOthers W W') : Marks W' ds := ⟨h.1, fun D hD => hk.same D _ (h.2 D hD) rfl⟩
theorem Marks.lt {W : World} {ds : List Nat} (h : Marks W ds) : ∀ D ∈ ds, D < W.heap.size := fun D hD => (Array.getElem?_eq_some_iff.1 (h.2 D hD)).1
theorem Marks.nil (W : World) : Marks W [] := ⟨List.nodup_nil, fun D hD => by cases hD⟩
theorem Marks.cons {W : World} {ds : List Nat} {D : Nat} (h : Marks W ds) (hD : W.heap[D]? = some (.deferred (some []))) (hn : D ∉ ds) : Marks W (D :: ds) :=
  ⟨List.nodup_cons.2 ⟨hn, h.1⟩, fun E hE => by rcases List.mem_cons.1 hE with rfl | hE; exact hD; exact h.2 E hE⟩
/-- The bytes of the first i rows, behind the head. -/
def headOf (a : List (List Int)) : List Int := [83, 68] ++ numOf a.length ++ numOf (rd_L2 a 0).length

theorem at_bool_ {w : World} {A : Option Addr} {xs : List Bool} (h : Kd.C Kd.bool w A xs.length xs) (i : Nat) (hi : i < xs.length) : ∃ ad, A = some ad ∧ w.cell? (ad.add i) = some (.bool (xs.getD i false)) := by
  obtain ⟨ad, e, hc⟩ := h.2.2 (by omega)
  obtain ⟨c, hl, hK, hcell⟩ := hc i _ (List.getElem?_eq_getElem hi)
  obtain rfl : c = [Value.bool xs[i]] := hK
  have := hcell 0 _ rfl
  have e1 : Kd.bool.sz = 1 := rfl
  rw [e1] at this
  refine ⟨ad, e, ?_⟩
  rw [show xs.getD i false = xs[i] from by simp [List.getD_eq_getElem?_getD, List.getElem?_eq_getElem hi]]
  simpa using this

/-- A row's bytes. -/
def rowBytes (final : Bool) (row : List Int) : List Int := (if final = true then 1 else 0) :: (runsOf row).flatMap fun p => numOf p.1 ++ numOf p.2
def rowsUp (a : List (List Int)) (b : List Bool) (i : Nat) : List Int := (List.range i).flatMap fun j => rowBytes (b.getD j false) (rd_L2 a j)
def saveOf (a : List (List Int)) (b : List Bool) : List Int := [83, 68] ++ numOf a.length ++ numOf (rd_L2 a 0).length ++ rowsUp a b a.length

theorem runsGo_len (row : List Int) : ∀ (k fr i : Nat), (runsGo row k fr i).length ≤ k
  | 0, _, _ => Nat.le_refl _
  | k + 1, fr, i => by
    unfold runsGo
    split
    · split
      · have := runsGo_len row k fr (i + 1); omega
      · rw [List.length_cons]; have := runsGo_len row k i (i + 1); omega
    · simp
theorem runs_len (row : List Int) : (runsOf row).length ≤ row.length := runsGo_len row _ _ _
theorem flat_len : ∀ (xs : List (Int × Int)), (xs.flatMap fun p => numOf p.1 ++ numOf p.2).length ≤ 20 * xs.length
  | [] => by simp
  | x :: xs => by
    have := flat_len xs
    have h1 := numOf_len x.1
    have h2 := numOf_len x.2
    rw [List.flatMap_cons, List.length_append, List.length_append, List.length_cons]
    omega
theorem rowBytes_len (f : Bool) (row : List Int) : (rowBytes f row).length ≤ 1 + 20 * row.length := by
  have h1 := flat_len (runsOf row)
  have h2 := runs_len row
  unfold rowBytes
  rw [List.length_cons]
  omega
theorem rowsUp_succ (a : List (List Int)) (b : List Bool) (i : Nat) : rowsUp a b (i + 1) = rowsUp a b i ++ rowBytes (b.getD i false) (rd_L2 a i) := by
  unfold rowsUp
  rw [List.range_succ, List.flatMap_append]
  simp
theorem rowsUp_len (a : List (List Int)) (b : List Bool) (h : ∀ j : Nat, j < a.length → (rd_L2 a j).length ≤ 200) : ∀ i : Nat, i ≤ a.length → (rowsUp a b i).length ≤ i * 4001
  | 0, _ => by simp [rowsUp]
  | i + 1, hi => by
    have h1 := rowsUp_len a b h i (by omega)
    have h2 := rowBytes_len (b.getD i false) (rd_L2 a i)
    have h3 := h i (by omega)
    rw [rowsUp_succ, List.length_append]
    omega
theorem right_len {a : List (List Int)} {b : List Bool} (hg : rightB a b = true) : a.length ≤ 5000 := by
  unfold rightB at hg
  simp only [Bool.and_eq_true, decide_eq_true_eq] at hg
  exact hg.1.1.1.1.2
theorem right_row {a : List (List Int)} {b : List Bool} (hg : rightB a b = true) (j : Nat) (hj : j < a.length) : (rd_L2 a j).length ≤ 200 := by
  unfold rightB at hg
  simp only [Bool.and_eq_true, decide_eq_true_eq, Bool.not_eq_true'] at hg
  have h2 := hg.1.2
  have h3 := hg.2
  have hm : rd_L2 a j ∈ a := by
    unfold rd_L2
    simp only [Int.toNat_natCast, List.getD_eq_getElem?_getD, List.getElem?_eq_getElem hj, Option.getD_some]
    exact List.getElem_mem hj
  have := List.any_eq_false.1 h3 _ hm
  unfold badRow at this
  simp only [Bool.or_eq_true, bne_iff_ne, ne_eq, not_or, Decidable.not_not] at this
  have := this.1
  omega

end Go.Proofs.Ytjcgbjkjkgkklaa.Print

namespace Go.Proofs.Ytjcgbjkjkgkklaa.Print
open Go.RowKit Go.Shelf Go.Proofs.YtjcgbjkjkgkklaaW.PrintWords Go.Proofs.YtjcgbjkjkgkklaaW.PrintLast Go.Proofs.YtjcgbjkjkgkklaaW.PrintMore
set_option linter.unusedVariables false
set_option linter.unusedSimpArgs false

/-- What a round must keep: what lay below n₀, and the variable that the iterator has captured. -/
def KpR (n₀ Bn : Nat) (W W' : World) : Prop := Below n₀ W W' ∧ W'.cell? ⟨Bn, 0, none⟩ = W.cell? ⟨Bn, 0, none⟩
theorem kpR_t {n₀ Bn : Nat} {A B C : World} (h : KpR n₀ Bn A B) (k : KpR n₀ Bn B C) : KpR n₀ Bn A C := ⟨h.1.trans k.1, k.2.trans h.2⟩
theorem kpR_b {n₀ Bn : Nat} {w : World} (h0 : n₀ ≤ w.heap.size) (hB : Bn < w.heap.size) : ∀ (W : World) (l : Nat) (o o' : Obj), w.heap.size ≤ l → W.heap[l]? = some o → o.isCells = false → o.isWalk = false → KpR n₀ Bn W (W.putObj l o') :=
  fun W l o o' hl ho h1 h2 => ⟨belowK_b (w := w) h0 W l o o' hl ho h1 h2, World.cell?_of_block (World.putObj_heap_other (by dsimp only; omega))⟩

/-- A number that fits: what no row has is told as 0. -/
def cl (z : Int) : Int := if z < 9223372036854775808 then z else 0
theorem cl_lt (z : Int) : cl z < 9223372036854775808 := by unfold cl; split <;> omega
theorem cl_of {z : Int} (h : z < 9223372036854775808) : cl z = z := if_pos h
def flatN (xs : List (Int × Int)) : List Int := xs.flatMap fun p => numOf (cl p.1) ++ numOf (cl p.2)
theorem flatN_snoc (xs : List (Int × Int)) (x : Int × Int) : flatN (xs ++ [x]) = flatN xs ++ (numOf (cl x.1) ++ numOf (cl x.2)) := by simp [flatN]
theorem flatN_len : ∀ xs : List (Int × Int), (flatN xs).length ≤ 20 * xs.length
  | [] => by simp [flatN]
  | x :: xs => by
    have h := flatN_len xs
    have h1 := numOf_len (cl x.1)
    have h2 := numOf_len (cl x.2)
    unfold flatN at h ⊢
    rw [List.flatMap_cons, List.length_append, List.length_append, List.length_cons]
    omega
theorem flatN_le {X : List Int} {i : Nat} {row : List Int} {pre : List (Int × Int)} (hx : X.length ≤ 23 + i * 4001) (hr : row.length ≤ 200) (hi : i ≤ 5000) (hp : pre.length < (runsOf row).length) : (X ++ flatN pre).length ≤ 30000000 := by
  have h1 := flatN_len pre
  have h2 := runs_len row
  rw [List.length_append]
  omega

theorem rd_lt {row : List Int} (h : ∀ z ∈ row, z < 9223372036854775808) (i : Int) : rd row i < 9223372036854775808 := by
  unfold rd
  rw [List.getD_eq_getElem?_getD]
  cases h' : row[i.toNat]? with
  | none => simp
  | some z => exact h z (List.mem_of_getElem? h')

/-- The runs' numbers fit. -/
theorem runsGo_fit {row : List Int} (h : ∀ z ∈ row, z < 9223372036854775808) (hl : row.length < 9223372036854775807) : ∀ (k fr i : Nat), ∀ p ∈ runsGo row k fr i, p.1 < 9223372036854775808 ∧ p.2 < 9223372036854775808
  | 0, _, _, p, hp => by simp [runsGo] at hp
  | k + 1, fr, i, p, hp => by
    unfold runsGo at hp
    by_cases q : i ≤ row.length
    · rw [if_pos q] at hp
      by_cases q2 : i < row.length ∧ rd row i = rd row fr
      · rw [if_pos q2] at hp
        exact runsGo_fit h hl k fr (i + 1) p hp
      · rw [if_neg q2] at hp
        rcases List.mem_cons.1 hp with rfl | hp
        · exact ⟨by show (i : Int) - fr < _; omega, rd_lt h _⟩
        · exact runsGo_fit h hl k i (i + 1) p hp
    · rw [if_neg q] at hp; cases hp
theorem runs_fit {row : List Int} (h : ∀ z ∈ row, z < 9223372036854775808) (hl : row.length < 9223372036854775807) : ∀ p ∈ runsOf row, p.1 < 9223372036854775808 ∧ p.2 < 9223372036854775808 := runsGo_fit h hl _ _ _

theorem flatN_of {xs : List (Int × Int)} (h : ∀ p ∈ xs, p.1 < 9223372036854775808 ∧ p.2 < 9223372036854775808) : flatN xs = xs.flatMap fun p => numOf p.1 ++ numOf p.2 := by
  induction xs with
  | nil => rfl
  | cons x xs ih =>
    unfold flatN at ih ⊢
    rw [List.flatMap_cons, List.flatMap_cons, ih (fun p hp => h p (List.mem_cons_of_mem _ hp)), cl_of (h x (List.mem_cons_self ..)).1, cl_of (h x (List.mem_cons_self ..)).2]

/-- The iterator of runs(row), for every loop over it. -/
theorem runs_stops (n : Nat) (hn : 1 ≤ n) (Bn : Nat) (A : Option Addr) (c : Nat) (l : List Int) (hl : l.length ≤ 9223372036854775806) (hf : ∀ z ∈ l, z < 9223372036854775808) (w0 w : World) (h0w : Below w0.heap.size w0 w)
    (hr : Kd.C (Kd.int .i64) w0 A l.length l) (hBn : w.cell? ⟨Bn, 0, none⟩ = some (.slice A l.length c)) (hB : Bn < w.heap.size) :
    SeqStopsK Fence.wide n Try.prog 32 #[.pointer (some ⟨Bn, 0, none⟩)] (fun x : Int × Int => #[.int .i64 (cl x.1), .int .i64 (cl x.2)]) (KpR w0.heap.size Bn) (fun ys => ys = runsOf l) (fun pre => pre <+: runsOf l) (runsOf l).length w :=
  fun lp J Jx W hW hJ hJx hY h0 => runs1_in n hn lp Bn A c l w0 hl hr J Jx
    (fun pre W' m hp => hJ pre W' (W'.drewN m) none hp ⟨rfl, rfl, rfl, Nat.le_refl _, fun _ _ _ => rfl⟩ (fun r e => by cases e))
    (fun pre x W1 h1 h2 h3 => by
      have hx := runs_fit hf (by omega) x (h3.subset (by simp))
      have := hY pre x W1 h1 h2
      simp only [cl_of hx.1, cl_of hx.2] at this
      exact this) W (h0w.trans (hW.mono h0w.size)) ((hW.cell (p := ⟨Bn, 0, none⟩) hB).trans hBn) h0

theorem boxed_own {β : Type} (B : Nat) (t : TypeId) (v : Value) : Own (fun (_ : β) W => Boxed W B t v) := fun s X Y row hs hg hrow =>
  hs.kept hg (fun e' => by obtain ⟨o, ho, hc⟩ := hrow B e'.symm; rw [show X.heap[B]? = _ from hs] at ho; cases ho; cases hc)
theorem marks_own {β : Type} {ds : List Nat} {B : Nat} (h : ∀ D ∈ ds, D < B) : OwnFrom B (fun (_ : β) W => Marks W ds) := fun s X Y row hs hg hr =>
  ⟨hs.1, fun D hD => (hg.block D (hs.lt D hD) (fun e' => by have := (hr D e'.symm).1; have := h D hD; omega)).trans (hs.2 D hD)⟩
/-- A store into a box leaves another box as it was. -/
theorem boxed_other {W : World} {B C : Nat} {t t' : TypeId} {v v' : Value} (h : Boxed W B t v) (h' : Boxed W C t' v') (hne : t ≠ t') (u : Value) : Boxed (W.setCell ⟨C, 0, none⟩ u) B t v :=
  h.kept (grownBy_setCell' W C u) (fun e => by
    obtain rfl : B = C := by simpa using e
    have e2 := (show W.heap[B]? = some (.cells #[v] t (0, 0)) from h).symm.trans (show W.heap[B]? = some (.cells #[v'] t' (0, 0)) from h')
    injection e2 with e2
    injection e2 with _ e2
    exact hne e2)
/-- In a row of right states all numbers fit. -/
theorem row_fit {a : List (List Int)} {b : List Bool} (hg : rightB a b = true) (j : Nat) (hj : j < a.length) : ∀ z ∈ rd_L2 a j, z < 9223372036854775808 := by
  have hn := right_len hg
  unfold rightB at hg
  simp only [Bool.and_eq_true, decide_eq_true_eq, Bool.not_eq_true'] at hg
  have hm : rd_L2 a j ∈ a := by
    unfold rd_L2
    simp only [Int.toNat_natCast, List.getD_eq_getElem?_getD, List.getElem?_eq_getElem hj, Option.getD_some]
    exact List.getElem_mem hj
  have h := List.any_eq_false.1 hg.2 _ hm
  unfold badRow at h
  simp only [Bool.or_eq_true, not_or, Bool.not_eq_true] at h
  intro z hz
  have h2 := List.any_eq_false.1 h.2 z hz
  simp [odd] at h2
  omega
/-- The end of a function that holds marks alone: they are taken one behind the other. -/
theorem leaves_marks {F : Fence} {n : Nat} {P : Program} {fn : Func} {tmps : Array Value} {R : Ending → World → Prop} {v : Value} (hres : ∀ w, (results fn tmps).run P w = .ok v w) (I : World → Prop) (B : Nat)
    (hI : ∀ W D, B ≤ D → W.heap[D]? = some (.deferred (some [])) → I W → I (W.putObj D (.deferred none))) (hR : ∀ W, I W → R (.returned v) W) :
    ∀ (ds : List Nat) (W : World), (∀ D ∈ ds, B ≤ D) → Marks W ds → I W → LeavesInM F n P fn tmps R (ds.map markOf) .returning W
  | [], W, _, _, h => ⟨v, hres W, hR W h⟩
  | D :: ds, W, hb, hm, h => ⟨by simp, .inl ⟨D, _, rfl, run_takeDeferred (hm.2 D (List.mem_cons_self ..)), leaves_marks hres I B hI hR ds _ (fun E hE => hb E (List.mem_cons_of_mem _ hE))
      ⟨(List.nodup_cons.1 hm.1).2, fun E hE => (World.putObj_heap_other (k := E) (r := D) (fun e => (List.nodup_cons.1 hm.1).1 (by rw [← e]; exact hE))).trans (hm.2 E (List.mem_cons_of_mem _ hE))⟩
      (hI W D (hb D (List.mem_cons_self ..)) (hm.2 D (List.mem_cons_self ..)) h)⟩⟩

/-- The end of packed.Save. -/
theorem save_leaves {n₀ : Nat} {w0 : World} {tmps : Array Value} {v : Value} {xs : List Int} {ds : List Nat} {W : World} {R : Ending → World → Prop} (h0 : n₀ ≤ w0.heap.size) (hb : ∀ D ∈ ds, n₀ ≤ D) (hm : Marks W ds)
    (ho : W.ownsRow n₀ 5 1 v xs.length (encs (Value.int .u8) xs)) (hB : Below n₀ w0 W) (h2 : tmps.getD 2 undef = v) (h3 : tmps.getD 3 undef = .int .i64 0)
    (hR : ∀ W', Kd.R (Kd.int .u8) 5 W' n₀ (fun _ => True) v xs → Below n₀ w0 W' → R (.returned (.tuple #[v, .int .i64 0])) W') : LeavesInM Fence.wide 5 Try.prog Try.f11 tmps R (ds.map markOf) .returning W := by
  refine leaves_marks (v := .tuple #[v, .int .i64 0]) (fun w' => by have := results_tmp2 (P := Try.prog) (fn := Try.f11) rfl tmps w'; rw [h2, h3] at this; exact this) (fun W => W.ownsRow n₀ 5 1 v xs.length (encs (Value.int .u8) xs) ∧ Below n₀ w0 W) n₀ ?_ ?_ ds W hb hm ⟨ho, hB⟩
  · rintro W D hD hd ⟨h1, h2⟩
    exact ⟨ownsRow_putObj h1 _ hd rfl, h2.grown (grownBy_putObj' W D _) (Nat.le_trans h0 h2.size) (fun k e => by cases e; exact hD)⟩
  · rintro W ⟨h1, h2⟩
    exact hR W (Kd.R_of_own h1 (fun _ _ => trivial)) h2
end Go.Proofs.Ytjcgbjkjkgkklaa.Print

namespace Go.Proofs.Ytjcgbjkjkgkklaa.Print
open Go.RowKit Go.Shelf Go.Proofs.YtjcgbjkjkgkklaaW.PrintWords Go.Proofs.YtjcgbjkjkgkklaaW.PrintLast Go.Proofs.YtjcgbjkjkgkklaaW.PrintMore
attribute [local go_sem] Oper.semAt_some
set_option linter.unusedVariables false
set_option linter.unusedSimpArgs false

set_option maxRecDepth 100000 in
set_option maxHeartbeats 8000000 in
theorem save_good (A0_0 : Option Addr) (c0_0 : Nat) (l0_0 : List (List Int)) (A0_1 : Option Addr) (c0_1 : Nat) (l0_1 : List Bool) (w : World) (hr0_0 : Kd.C (Kd.slice 3 (Kd.int .i64)) w A0_0 l0_0.length l0_0) (hc0_0 : l0_0.length ≤ c0_0) (hr0_1 : Kd.C Kd.bool w A0_1 l0_1.length l0_1) (hc0_1 : l0_1.length ≤ c0_1) (hg : rightB l0_0 l0_1 = true) :
    Calls Try.prog 11 #[.agg #[.slice A0_0 l0_0.length c0_0, .slice A0_1 l0_1.length c0_1]] w fun e w' => ∃ v0_ : Value, e = .returned (.tuple #[v0_, .int .i64 0]) ∧ Kd.R (Kd.int .u8) 5 w' w.heap.size (fun _ => True) v0_ (saveOf l0_0 l0_1) ∧ Below w.heap.size w w' := by
  have hgB := Aside0.mk hg
  have hge : 0 < l0_0.length := by
    unfold rightB at hg
    simp only [Bool.and_eq_true, decide_eq_true_eq] at hg
    exact hg.1.1.1.1.1
  obtain ⟨ad0, A1, c1, e0, ha0, hl1, hr1⟩ := at_L2 (Kd.C_alloc hr0_0 (.cells #[.slice A0_0 l0_0.length c0_0, .slice A0_1 l0_1.length c0_1] 25)) 0 (by omega) (by omega)
  subst e0
  rw [show (0 : Int).toNat = 0 from rfl, show ad0.add 0 = ad0 from by simp [Addr.add]] at ha0
  have HM := Aside0.mk (Kd.C_max hr1)
  have hal : ad0.block < w.heap.size + 1 := by have := cell_lt ha0; simpa using this
  have HAL := Aside0.mk hal
  have HA0 := Aside0.mk ha0
  have HX0 := Aside0.mk (show (w.alloc (.cells #[.slice (some ad0) l0_0.length c0_0, .slice A0_1 l0_1.length c0_1] 25)).cell? ⟨w.heap.size, 0, none⟩ = some (.slice (some ad0) l0_0.length c0_0) from (blk_cell (World.alloc_heap_new w _) 0).trans rfl)
  have HX01 := Aside0.mk (show (w.alloc (.cells #[.slice (some ad0) l0_0.length c0_0, .slice A0_1 l0_1.length c0_1] 25)).cell? ⟨w.heap.size, 1, none⟩ = some (.slice A0_1 l0_1.length c0_1) from (blk_cell (World.alloc_heap_new w _) 1).trans rfl)
  have hle1 : l0_1.length = l0_0.length := by
    unfold rightB at hg
    simp only [Bool.and_eq_true, decide_eq_true_eq] at hg
    exact hg.1.1.1.2
  have HLE1 := Aside0.mk hle1
  clear ha0 hl1 hr1 hal hle1
  have HR0 := Aside0.mk hr0_0
  have HR1 := Aside0.mk hr0_1
  have HRT := Aside0.mk (subset_Right.calls (some ad0) c0_0 l0_0 A0_1 c0_1 l0_1 true (w.alloc (.cells #[.slice (some ad0) l0_0.length c0_0, .slice A0_1 l0_1.length c0_1] 25)) (Kd.C_alloc hr0_0 _) hc0_0 (Kd.C_alloc hr0_1 _) hc0_1 (by unfold subset_Right.f; rw [hg]))
  clear hr0_0 hr0_1
  have hrows : ∀ j : Nat, j < l0_0.length → (rd_L2 l0_0 j).length ≤ 200 := fun j hj => right_row hg j hj
  have HN5 := Aside0.mk (right_len hg)
  have HLEN := Aside0.mk (fun (j : Nat) (hj : j ≤ l0_0.length) => show (headOf l0_0 ++ rowsUp l0_0 l0_1 j).length ≤ 22 + j * 4001 by
    have h1 := rowsUp_len l0_0 l0_1 hrows j hj
    have h2 := numOf_len l0_0.length
    have h3 := numOf_len (rd_L2 l0_0 0).length
    unfold headOf
    simp only [List.length_append, List.length_cons, List.length_nil]
    omega)
  have HROW := Aside0.mk hrows
  clear hrows
  refine (callsIn_wide (n := 5)).1 ?_
  refine callsIn_of_wp_marks Try.func11 rfl trivial ?_ rfl
  simp only [Try.ntmps11, List.size_toArray, List.length_cons, List.length_nil, Nat.reduceAdd, Nat.reduceSub, Array.replicate_succ, Array.replicate_zero, List.push_toArray, List.append_toArray, List.nil_append, List.cons_append]
  refine wpIn_wide.2 ?_
  go_wp2_with fail
  refine HRT.out.mono ?_
  rintro e w1 ⟨rfl, hb1⟩
  have hbx := (hb1.block w.heap.size (by simp)).trans (World.alloc_heap_new w _)
  have hcv := Go.Lib.run_convert_bytes_const (P := Try.prog) w1 28 5 #[.int .u8 83, .int .u8 68] 2 2 Try.underlying28 Try.underlying5
  have hcv' : (convert 28 28 (.slice (some ⟨w1.heap.size, 0, none⟩) 2 2)).run Try.prog (w1.alloc (.cells #[.int .u8 83, .int .u8 68] 5)) = .ok (.slice (some ⟨w1.heap.size, 0, none⟩) 2 2) (w1.alloc (.cells #[.int .u8 83, .int .u8 68] 5 (2, 3))) := hcv
  have hB1 : Below (w.heap.size + 1) (w.alloc (.cells #[.slice (some ad0) l0_0.length c0_0, .slice A0_1 l0_1.length c0_1] 25)) (w1.alloc (.cells #[.int .u8 83, .int .u8 68] 5 (2, 3))) := (hb1.mono (by simp)).alloc (by have := hb1.size; simp at this; omega) _
  have hx0 : (w1.alloc (.cells #[.int .u8 83, .int .u8 68] 5 (2, 3))).cell? ⟨w.heap.size, 0, none⟩ = some (.slice (some ad0) l0_0.length c0_0) := by
    rw [hB1.cell (p := ⟨w.heap.size, 0, none⟩) (by simp)]; exact (blk_cell (World.alloc_heap_new w _) 0).trans rfl
  have HB1 := Aside0.mk hB1
  have HBX := Aside0.mk hbx
  clear hb1 hcv hB1 hbx
  go_wp2_with fail
  refine (packed_Number.calls 12 (l0_0.length : Int) (numOf l0_0.length) _ (number_k _ (by have := Kd.C_max HR0.out; omega))).mono ?_
  rintro e w2 ⟨v18, rfl, ho, hb2⟩
  obtain ⟨A18, c18, rfl⟩ := Kd.R_slice ho
  have hnl := numGo_pos 9 (mx (l0_0.length : Int) 0)
  have hnp : 0 < (numOf l0_0.length).length := hnl
  have hn10 := numOf_len l0_0.length
  obtain ⟨ad18, e18, hnews⟩ := news_of_C (Kd.R_reads' ho).2.2 hnp
  subst e18
  have hmk := (hb2.block w1.heap.size (by simp)).trans (World.alloc_heap_new w1 _)
  have hB2 : Below (w.heap.size + 1) (w.alloc (.cells #[.slice (some ad0) l0_0.length c0_0, .slice A0_1 l0_1.length c0_1] 25)) w2 := HB1.out.trans (hb2.mono (by have := HB1.out.size; simp at this ⊢; omega))
  have hs2 : w.heap.size + 1 ≤ w2.heap.size := by have := hB2.size; simpa using this
  have hB2' := Aside0.mk hB2
  have HMK := Aside0.mk hmk
  have HNW := Aside0.mk hnews
  obtain ⟨i0, hi, hz0, hz1, hz2⟩ := info_parts info5
  have HI0 := Aside0.mk hi
  clear hb2 hB2 hmk hnews ho HB1 hx0 hcv'
  go_wp2_with (at_builtin; refine wpList_append_arg _ rfl _ _ 28 rfl 5 i0 (.int .u8 0) 1 1 Try.underlying28 hi hz0 hz1 hz2 rfl (by decide) w1.heap.size 0 2 2 [.int .u8 83, .int .u8 68] rfl rfl ?holds ad18 (numOf l0_0.length).length c18 (encs (Value.int .u8) (numOf l0_0.length)) rfl ?hn HNW.out ?h1c ?spare ?b1 ?b2 ?room ?grow; (case hn => simp [encs]); (case h1c => intro u hu; simp [encs] at hu; obtain ⟨x, _, rfl⟩ := hu; rfl); (case spare => intro q; exfalso; omega); (case b1 => unfold maxLen; omega); (case b2 => omega); (case room => intro q; exfalso; omega); (case holds => intro j u hj; have hjj := HMK.out; match j, hj with | 0, hj => (cases hj; simp [World.cell?, hjj]) | 1, hj => (cases hj; simp [World.cell?, hjj]) | j + 2, hj => simp at hj); intro _ v19 w3 hown3 hgrow3; obtain ⟨A19, c19, rfl⟩ := own_form hown3)
  have hnc := encs_append (Value.int .u8) [83, 68] (numOf l0_0.length)
  have hown3' : w3.ownsRow (w.heap.size + 1) 5 1 (.slice A19 (2 + (numOf l0_0.length).length) c19) ([83, 68] ++ numOf l0_0.length).length (encs (Value.int .u8) ([83, 68] ++ numOf l0_0.length)) := by
    rw [show ([83, 68] ++ numOf l0_0.length : List Int).length = 2 + (numOf l0_0.length).length from by simp; omega]
    rw [hnc]; exact own_lower hown3 hs2
  have hB3 := hB2'.out.grown hgrow3 (by omega) (fun _ e => by cases e)
  have hs3 := hB3.size
  have HO3 := Aside0.mk hown3'
  have HB3 := Aside0.mk hB3
  clear hown3 hown3' hnc hgrow3 hB3 HMK HNW
  have HX4 : Aside0 (Boxed (w3.alloc (.cells #[.slice A19 (2 + (numOf l0_0.length).length) c19] 28)).drew w3.heap.size 28 (.slice A19 (2 + (numOf l0_0.length).length) c19)) := ⟨Boxed.new w3 28 _⟩
  have HO4 := Aside0.mk (own_drew (HO3.out.alloc (.cells #[.slice A19 (2 + (numOf l0_0.length).length) c19] 28)))
  have HB4 := Aside0.mk (below_drew1 (HB3.out.alloc (Nat.le_trans (by simp) HB3.out.size) (.cells #[.slice A19 (2 + (numOf l0_0.length).length) c19] 28)))
  have HS4 : Aside0 (w.heap.size + 1 ≤ (w3.alloc (.cells #[.slice A19 (2 + (numOf l0_0.length).length) c19] 28)).drew.heap.size) := ⟨by have := HB3.out.size; simp at this ⊢; omega⟩
  refine wp_region_noPanic ?_
  refine start_ (n := 9) (S := fun w' => w'.cell? ⟨w3.heap.size, 0, none⟩ = some (.slice A19 (2 + (numOf l0_0.length).length) c19) ∧ w'.frozen? ⟨w3.heap.size, 0, none⟩ = false ∧ w'.cell? ⟨w.heap.size, 0, none⟩ = some (.slice (some ad0) l0_0.length c0_0) ∧ w'.cell? ad0 = some (.slice A1 (rd_L2 l0_0 0).length c1)) (ds := [8]) #[false, false, false, false, false, false, false, false, false] (by kernel_rfl) rfl rfl ⟨Boxed.cell HX4.out, Boxed.frozen HX4.out, (HB4.out.cell (p := ⟨w.heap.size, 0, none⟩) (Nat.lt_succ_self _)).trans HX0.out, (HB4.out.cell (p := ad0) HAL.out).trans HA0.out⟩ (fun hHeld => ?_); refine with_tabW save_tab4 save_bits4 (fun HT_ HW_ => ?_)
  refine take_ (i := 0) (N := some 20) (v := ?_) (a' := ?_) #[true, false, false, false, false, false, false, false, false] rfl rfl (take_ofW HT_.out HW_.out (by kernel_rfl)) (fun _ _ _ h => h) (Or.inl ⟨by rfl, ?_⟩) hHeld ?_ ?_
  rotate_left
  · rintro w' ⟨s0, s1, s2, s3⟩
    go_simp
    with_reducible rfl
  rotate_left
  · simp only [Act.put, List.setIfInBounds_toArray, List.set_cons_zero, List.set_cons_succ, i64_w, i32_w]
    rfl
  refine pure_ (i := 1) (N := some 21) (v := ?_) (a' := ?_) #[true, true, false, false, false, false, false, false, false] rfl rfl (any_of HT_.out (by kernel_rfl)) (fun _ _ _ h => h) (Or.inl ⟨by rfl, ?_⟩) ?_ ?_
  rotate_left
  · intro w'
    go_simp
    with_reducible rfl
  rotate_left
  · simp only [Act.put, List.setIfInBounds_toArray, List.set_cons_zero, List.set_cons_succ, i64_w, i32_w]
    rfl
  refine take_ (i := 2) (N := some 22) (v := ?_) (a' := ?_) #[true, true, true, false, false, false, false, false, false] rfl rfl (take_ofW HT_.out HW_.out (by kernel_rfl)) (fun _ _ _ h => h) (Or.inl ⟨by rfl, ?_⟩) hHeld ?_ ?_
  rotate_left
  · rintro w' ⟨s0, s1, s2, s3⟩
    go_simp
    with_reducible rfl
  rotate_left
  · simp only [Act.put, List.setIfInBounds_toArray, List.set_cons_zero, List.set_cons_succ, i64_w, i32_w]
    rfl
  refine pure_ (i := 3) (N := some 23) (v := ?_) (a' := ?_) #[true, true, true, true, false, false, false, false, false] rfl rfl (any_of HT_.out (by kernel_rfl)) (fun _ _ _ h => h) (Or.inl ⟨by rfl, ?_⟩) ?_ ?_
  rotate_left
  · intro w'
    go_simp
    with_reducible rfl
  rotate_left
  · simp only [Act.put, List.setIfInBounds_toArray, List.set_cons_zero, List.set_cons_succ, i64_w, i32_w]
    rfl
  refine take_ (i := 4) (N := some 24) (v := ?_) (a' := ?_) #[true, true, true, true, true, false, false, false, false] rfl rfl (take_ofW HT_.out HW_.out (by kernel_rfl)) (fun _ _ _ h => h) (Or.inl ⟨by rfl, ?_⟩) hHeld ?_ ?_
  rotate_left
  · rintro w' ⟨s0, s1, s2, s3⟩
    go_simp
    with_reducible rfl
  rotate_left
  · simp only [Act.put, List.setIfInBounds_toArray, List.set_cons_zero, List.set_cons_succ, i64_w, i32_w]
    rfl
  refine pure_ (i := 5) (N := some 25) (v := ?_) (a' := ?_) #[true, true, true, true, true, true, false, false, false] rfl rfl (any_of HT_.out (by kernel_rfl)) (fun _ _ _ h => h) (Or.inl ⟨by rfl, ?_⟩) ?_ ?_
  rotate_left
  · intro w'
    go_simp
    with_reducible rfl
  rotate_left
  · simp only [Act.put, List.setIfInBounds_toArray, List.set_cons_zero, List.set_cons_succ, i64_w, i32_w]
    rfl
  refine one_ (i := 6) (N := some 26) #[true, true, true, true, true, true, true, false, false] rfl rfl (one_of HT_.out (by kernel_rfl)) (by decide) (fun K hK => ?_)
  refine goes_ Try.func15 (by kernel_rfl) rfl #[.int .i64 (rd_L2 l0_0 0).length] (by rfl) rfl rfl (by first | rfl | (try simp only [List.map_toArray, List.map_cons, List.map_nil]; rfl)) ?_
  refine (packed_Number.calls 12 ((rd_L2 l0_0 0).length : Int) (numOf (rd_L2 l0_0 0).length) _ (number_k _ (by have := HM.out; omega))).mono ?_
  rintro e w5 ⟨v26, rfl, ho26, hb5⟩
  obtain ⟨A26, c26, rfl⟩ := Kd.R_slice ho26
  refine ⟨_, rfl, ?_⟩
  obtain ⟨ad26, e26, hnews26⟩ := news_of_C (Kd.R_reads' ho26).2.2 (numGo_pos 9 _)
  subst e26
  have HN26 := Aside0.mk hnews26
  have HO5 := Aside0.mk (pw_own_below HO4.out hb5)
  have HB5 := Aside0.mk (HB4.out.trans (hb5.mono HS4.out))
  have HX5 := Aside0.mk ((hb5.block _ (Boxed.lt HX4.out)).trans HX4.out)
  have HS5 := Aside0.mk (Nat.le_trans HS4.out hb5.size)
  clear ho26 hb5 hnews26
  refine hK.out _ _ ⟨Boxed.cell HX5.out, Boxed.frozen HX5.out, (HB5.out.cell (p := ⟨w.heap.size, 0, none⟩) (Nat.lt_succ_self _)).trans HX0.out, (HB5.out.cell (p := ad0) HAL.out).trans HA0.out⟩ (fun hHeld => ?_)
  clear hK K
  refine norm_ (a' := ?_) ?_ ?_
  rotate_left
  · show Act.put _ (some 26) _ = _
    simp only [Act.put, List.setIfInBounds_toArray, List.set_cons_zero, List.set_cons_succ, i64_w, i32_w]
    rfl
  refine one_ (i := 7) (N := some 27) #[true, true, true, true, true, true, true, true, false] rfl rfl (one_of HT_.out (by kernel_rfl)) (by decide) (fun K hK => ?_)
  refine app_step (by rfl) (.tmp 20) (.tmp 26) 28 rfl (w.heap.size + 1) 5 i0 (.int .u8 0) 1 1 Try.underlying28 hi hz0 hz1 hz2 rfl (by decide) _ _ _ rfl HO5.out ad26 _ c26 _ rfl (by simp [encs]) HN26.out (by intro u hu; simp [encs] at hu; obtain ⟨x, _, rfl⟩ := hu; rfl) (by have := numOf_len (rd_L2 l0_0 0).length; unfold maxLen; simp; omega) (by have := numOf_len (rd_L2 l0_0 0).length; simp; omega) HS5.out ?_
  intro v27 w6 hown6 hgrow6
  obtain ⟨A27, c27, rfl⟩ := own_form hown6
  have HO6 := Aside0.mk hown6
  have HB6 := Aside0.mk (HB5.out.grown hgrow6 HS5.out (own_base HO5.out))
  have HX6 := Aside0.mk (Boxed.kept HX5.out hgrow6 (Boxed.not_row HX5.out (by decide) HO5.out))
  have HS6 := Aside0.mk (Nat.le_trans HS5.out hgrow6.size)
  clear hown6 hgrow6
  refine hK.out _ _ ⟨Boxed.cell HX6.out, Boxed.frozen HX6.out, (HB6.out.cell (p := ⟨w.heap.size, 0, none⟩) (Nat.lt_succ_self _)).trans HX0.out, (HB6.out.cell (p := ad0) HAL.out).trans HA0.out⟩ (fun hHeld => ?_)
  clear hK K
  refine norm_ (a' := ?_) ?_ ?_
  rotate_left
  · show Act.put _ (some 27) _ = _
    simp only [Act.put, List.setIfInBounds_toArray, List.set_cons_zero, List.set_cons_succ, i64_w, i32_w]
    rfl
  refine last_ (i := 8) (N := none) #[true, true, true, true, true, true, true, true, true] rfl rfl (one_of HT_.out (by kernel_rfl)) (by decide) (fun K hK => ?_)
  refine step_list rfl (by rfl) ?_
  have hc6 := Boxed.cell HX6.out
  have hf6 := Boxed.frozen HX6.out
  unfold Oper.wp
  go_simp
  refine hK.out _ _ ?_
  clear hK K
  refine done_ (done_of HT_.out (by kernel_rfl)) ?_
  have hs6 := HX6.out.lt
  have hcB : w.heap.size + 1 ≤ w3.heap.size := by have := HB3.out.size; simpa using this
  obtain ⟨v27, hv27⟩ : ∃ v : Value, .slice A27 ((numOf l0_0.length).length + 1 + 1 + (numOf (rd_L2 l0_0 0).length).length) c27 = v := ⟨_, rfl⟩
  have HV27 := Aside0.mk hv27
  have hO7 := HO6.out.kept (grownBy_setCell' w6 w3.heap.size (.slice A27 ((numOf l0_0.length).length + 1 + 1 + (numOf (rd_L2 l0_0 0).length).length) c27)) (.inr (HX6.out.not_row (by decide) HO6.out).symm)
  have hX7 := Boxed.set (.slice A27 ((numOf l0_0.length).length + 1 + 1 + (numOf (rd_L2 l0_0 0).length).length) c27) HX6.out
  have hB7 := HB6.out.setCell (p := ⟨w3.heap.size, 0, none⟩) hcB (.slice A27 ((numOf l0_0.length).length + 1 + 1 + (numOf (rd_L2 l0_0 0).length).length) c27)
  have e7 : (Value.slice A27 (([83, 68] ++ numOf l0_0.length).length + (numOf (rd_L2 l0_0 0).length).length) c27) = v27 := by rw [← hv27]; congr 1
  rw [hv27] at hO7 hX7 hB7 ⊢
  rw [e7, ← encs_append] at hO7
  generalize w6.setCell ⟨w3.heap.size, 0, none⟩ v27 = w7 at *
  have hO8 : w7.ownsRow (w.heap.size + 1) 5 1 v27 ([83, 68] ++ numOf l0_0.length ++ numOf (rd_L2 l0_0 0).length).length (encs (Value.int .u8) ([83, 68] ++ numOf l0_0.length ++ numOf (rd_L2 l0_0 0).length)) := by
    rw [List.length_append]; exact hO7
  have HO7 := Aside0.mk hO8
  have HX7 := Aside0.mk hX7
  have HB7 := Aside0.mk hB7
  obtain ⟨cB, hcB'⟩ : ∃ c, w3.heap.size = c := ⟨_, rfl⟩
  have HCB := Aside0.mk hcB
  rw [hcB'] at HX7 HCB ⊢
  have hx0 := (HB7.out.cell (p := ⟨w.heap.size, 0, none⟩) (Nat.lt_succ_self _)).trans HX0.out
  try clear hO8
  try clear hO7
  try clear hX7
  try clear hB7
  try clear e7
  try clear HX6
  try clear HO6
  try clear HB6
  try clear HS6
  try clear HX5
  try clear HO5
  try clear HB5
  try clear HS5
  try clear HX4
  try clear HO4
  try clear HB4
  try clear HS4
  try clear HO3
  try clear HB3
  try clear HN26
  try clear hHeld
  try clear HT_
  try clear HW_
  try clear hB2'
  try clear HRT
  try clear hcB
  try clear hcB'
  try clear hnp
  try clear hnl
  try clear hn10
  try clear hs2
  try clear hs3
  try clear hs6
  try clear HV27
  try clear hv27
  refine NoPanic.normal ?_
  go_wp2_with fail
  refine wp_loop_ghost_k (fun gk a' wr => ∃ (i : Nat) (ds : List Nat) (v : Value) (u0 u5 u6 u7 u8 u9 u10 u11 u12 u13 u14 u15 u16 u17 u18 u19 u20 u21 u22 u23 u24 u25 u26 u27 u28 u32 u33 u34 u35 u36 u37 u38 u39 u40 u41 u42 u43 u44 u45 u46 u47 u48 u49 u50 u51 u52 u53 u54 u55 u56 u57 : Value), i ≤ l0_0.length ∧ l0_0.length - i < gk ∧ a' = { tmps := #[u0, .pointer (some ⟨w.heap.size, 0, none⟩), .slice none 0 0, .int .i64 0, .pointer (some ⟨cB, 0, none⟩), u5, u6, u7, u8, u9, u10, u11, u12, u13, u14, u15, u16, u17, u18, u19, u20, u21, u22, u23, u24, u25, u26, u27, u28, .slice (some ad0) l0_0.length c0_0, .int .i64 l0_0.length, .int .i64 i, u32, u33, u34, u35, u36, u37, u38, u39, u40, u41, u42, u43, u44, u45, u46, u47, u48, u49, u50, u51, u52, u53, u54, u55, u56, u57], defers := ds.map markOf } ∧ Aside0 (Boxed wr cB 28 v) ∧ Aside0 (wr.ownsRow (w.heap.size + 1) 5 1 v (headOf l0_0 ++ rowsUp l0_0 l0_1 i).length (encs (Value.int .u8) (headOf l0_0 ++ rowsUp l0_0 l0_1 i))) ∧ Aside0 (Below (w.heap.size + 1) (w.alloc (.cells #[.slice (some ad0) l0_0.length c0_0, .slice A0_1 l0_1.length c0_1] 25)) wr) ∧ Aside0 (Marks wr ds) ∧ Aside0 (∀ D ∈ ds, w.heap.size + 1 ≤ D)) (l0_0.length + 1) ⟨0, [], v27, _, _, _, _, _, _, _, _, _, _, _, _, _, _, _, _, _, _, _, _, _, _, _, _, _, _, _, _, _, _, _, _, _, _, _, _, _, _, _, _, _, _, _, _, _, _, _, _, _, _, _, by omega, by omega, rfl, HX7, ⟨by have := HO7.out; simpa [headOf, rowsUp] using this⟩, HB7, ⟨Marks.nil _⟩, ⟨by simp⟩⟩ ?_
  clear HX7 HO7 HB7 hx0
  intro gk a' wr hinv J K' hJ hK'
  obtain ⟨i, ds, v, u0, u5, u6, u7, u8, u9, u10, u11, u12, u13, u14, u15, u16, u17, u18, u19, u20, u21, u22, u23, u24, u25, u26, u27, u28, u32, u33, u34, u35, u36, u37, u38, u39, u40, u41, u42, u43, u44, u45, u46, u47, u48, u49, u50, u51, u52, u53, u54, u55, u56, u57, hi, hgk, rfl, HX, HO, HB, HMK, HDS⟩ := hinv
  by_cases hlt : i < l0_0.length
  · have hltz : (i : Int) < (l0_0.length : Int) := by omega
    obtain ⟨ad9, A9, c9, e9, hx9', hl9, hr9⟩ := at_L2 (Kd.C_alloc HR0.out (.cells #[.slice (some ad0) l0_0.length c0_0, .slice A0_1 l0_1.length c0_1] 25)) (i : Int) (by omega) hltz
    obtain rfl : ad0 = ad9 := by injection e9
    rw [Int.toNat_natCast] at hx9'
    have hx9 := (HB.out.cell (by have := cell_lt hx9'; simpa using this)).trans hx9'
    clear hx9'
    have hbx0 := (HB.out.cell (p := ⟨w.heap.size, 0, none⟩) (Nat.lt_succ_self _)).trans HX0.out
    have HR9 := Aside0.mk hr9
    clear hr9
    have hbx1 := (HB.out.cell (p := ⟨w.heap.size, 1, none⟩) (Nat.lt_succ_self _)).trans HX01.out
    obtain ⟨adb, eb, hxb⟩ := at_bool_ (Kd.C_below (Kd.C_alloc HR1.out (.cells #[.slice (some ad0) l0_0.length c0_0, .slice A0_1 l0_1.length c0_1] 25)) (by simpa using HB.out)) i (by have := HLE1.out; omega)
    subst eb
    have hltb : (i : Int) < (l0_1.length : Int) := by have := HLE1.out; omega
    have hxl : (headOf l0_0 ++ rowsUp l0_0 l0_1 i).length ≤ 22 + i * 4001 := HLEN.out i (by omega)
    have hi5 : i ≤ 5000 := by have := HN5.out; omega
    have hcx := Boxed.cell HX.out
    have hfx := Boxed.frozen HX.out
    have HZ := Aside0.mk (show w.heap.size + 1 ≤ wr.heap.size by have := HB.out.size; simpa using this)
    cases hfin : l0_1.getD i false with
    | false =>
      rw [hfin] at hxb
      clear hg
      go_wp2_with (first | (go_at_call 22; refine (runs_call _ _ _ _).mono ?_; rintro e w9 ⟨rfl, rfl⟩) | (at_builtin; refine wpList_append_own _ rfl _ _ 28 rfl (w.heap.size + 1) 5 i0 (.int .u8 0) 1 1 Try.underlying28 HI0.out hz0 hz1 hz2 rfl (by decide) v _ _ rfl (HO.out.alloc _) ⟨wr.heap.size, 0, none⟩ 1 1 [.int .u8 0] rfl rfl ?c1 ?c2 ?c3 ?c4 ?c5 ?_; (case c1 => exact cell_one_new wr (.int .u8 0) 5); (case c2 => simp [Value.oneCell']); (case c3 => unfold maxLen; omega); (case c4 => omega); (case c5 => have := HZ.out; simp; omega); intro v' w8 hown8 hgrow8 _; obtain ⟨A8, c8, rfl⟩ := own_form hown8; obtain ⟨hv1, hv2, hr2, hk2, hb2⟩ := HX.out.appended (by decide) HO.out HZ.out HCB.out hown8 hgrow8; have hc1 := hv1.cell; have hf1 := hv1.frozen))
      clear hown8 hgrow8 hv1 hc1 hf1 e9 hbx1 hbx0 hxb hltb
      obtain ⟨v8, hv8⟩ : ∃ v : Value, .slice A8 ((headOf l0_0).length + (rowsUp l0_0 l0_1 i).length + 1) c8 = v := ⟨_, rfl⟩
      have hr8 : (w8.setCell { block := cB, off := 0 } (Value.slice A8 ((headOf l0_0).length + (rowsUp l0_0 l0_1 i).length + 1) c8)).ownsRow (w.heap.size + 1) 5 1 (Value.slice A8 ((headOf l0_0).length + (rowsUp l0_0 l0_1 i).length + 1) c8) (headOf l0_0 ++ rowsUp l0_0 l0_1 i ++ [0]).length (encs (Value.int .u8) (headOf l0_0 ++ rowsUp l0_0 l0_1 i ++ [0])) := by
        simpa [encs, Nat.add_assoc] using hr2
      clear hr2
      rw [List.length_append] at hv2 hk2 hb2
      rw [hv8] at hv2 hr8 hk2 hb2 ⊢
      obtain ⟨W8, hW8⟩ : ∃ W, w8.setCell { block := cB, off := 0 } v8 = W := ⟨_, rfl⟩
      have hs8 : w8.heap.size = W8.heap.size := by rw [← hW8]; simp
      rw [hW8] at hv2 hr8 hk2 hb2
      rw [hs8, hW8]
      clear hW8 hs8 hv8
      obtain ⟨X8, hX8⟩ : ∃ X, headOf l0_0 ++ rowsUp l0_0 l0_1 i ++ [0] = X := ⟨_, rfl⟩
      have hx8l : X8.length ≤ 23 + i * 4001 := by rw [← hX8]; simp at hxl ⊢; omega
      rw [hX8] at hr8
      have HEX := Aside0.mk (show X8 ++ flatN (runsOf (rd_L2 l0_0 i)) = headOf l0_0 ++ rowsUp l0_0 l0_1 (i + 1) by rw [← hX8, rowsUp_succ, hfin, flatN_of (runs_fit (row_fit hgB.out i hlt) (by have := HROW.out i hlt; omega))]; simp [rowBytes])
      clear hX8
      obtain ⟨w00, hw00⟩ : ∃ W, w.alloc (.cells #[.slice (some ad0) l0_0.length c0_0, .slice (some adb) l0_1.length c0_1] 25) = W := ⟨_, rfl⟩
      have hs00 : w00.heap.size = w.heap.size + 1 := by rw [← hw00]; simp
      have hR00 := HR9.out
      have hB00 := HB.out
      rw [hw00] at hR00 hB00
      have hs8 : w.heap.size + 1 ≤ W8.heap.size := Nat.le_trans HZ.out hb2.size
      have hB8 := hB00.trans hb2
      obtain ⟨W9, hW9⟩ : ∃ W, W8.alloc (.cells #[.slice A9 (rd_L2 l0_0 i).length c9] 43) = W := ⟨_, rfl⟩
      have hs9 : W9.heap.size = W8.heap.size + 1 := by rw [← hW9]; simp
      have hB9 : Below (w.heap.size + 1) w00 W9 := by rw [← hW9]; exact hB8.alloc hs8 _
      have hcell9 : W9.cell? ⟨W8.heap.size, 0, none⟩ = some (.slice A9 (rd_L2 l0_0 i).length c9) := by rw [← hW9]; exact (blk_cell (World.alloc_heap_new W8 _) 0).trans rfl
      have hk9 : KeepsOthers wr W9 := by rw [← hW9]; exact hk2.trans (KeepsOthers.alloc _ _)
      have hv9 : Boxed W9 cB 28 v8 := by rw [← hW9]; exact hv2.alloc _
      have hr9 : W9.ownsRow (w.heap.size + 1) 5 1 v8 X8.length (encs (Value.int .u8) X8) := by rw [← hW9]; exact hr8.alloc _
      have hM9 := HMK.out.keeps hk9
      have hN9 : Boxed W9 W8.heap.size 43 (.slice A9 (rd_L2 l0_0 i).length c9) := by rw [← hW9]; exact Boxed.new W8 43 _
      rw [hW9]
      clear hW9 hv2 hr8 hk2 hb2
      have hrl : (rd_L2 l0_0 i).length ≤ 200 := HROW.out i hlt
      have hB9' : Below w00.heap.size w00 W9 := by rw [hs00]; exact hB9
      have hstops := runs_stops 4 (by omega) W8.heap.size A9 c9 (rd_L2 l0_0 i) (by omega) (row_fit hgB.out i hlt) w00 W9 hB9' hR00 hcell9 (by omega)
      refine (wpIn_wide (n := 5)).1 ?_
      refine wpIn_rangeFunc_ownH rfl (by omega) (gf := 32) (lb := #[.pointer (some ⟨W8.heap.size, 0, none⟩)]) rfl trivial (enters_of Try.func32 (by kernel_rfl) rfl)
        hstops kpR_t (kpR_b (by omega) (by omega)) (Below.refl _ _) (fun _ => rfl)
        (fun pre W => (∃ z, Boxed W cB 28 z ∧ W.ownsRow (w.heap.size + 1) 5 1 z (X8 ++ flatN pre).length (encs (Value.int .u8) (X8 ++ flatN pre)) ∧ True) ∧ Below (w.heap.size + 1) w00 W ∧ Marks W ds ∧ Boxed W W8.heap.size 43 (.slice A9 (rd_L2 l0_0 i).length c9))
        (fun _ _ _ => False)
        (OwnFrom.and (Own.from (holdsRow_own (w.heap.size + 1) cB 28 5 1 (fun pre => (X8 ++ flatN pre).length) (fun pre => encs (Value.int .u8) (X8 ++ flatN pre)) (fun _ _ => True)) _) (OwnFrom.and (ownFrom_below (by omega) (by omega)) (OwnFrom.and (marks_own hM9.lt) (Own.from (boxed_own _ _ _) _))))
        (fun _ _ _ _ _ hs _ _ => hs)
        ⟨⟨_, hv9, by simpa [flatN] using hr9, trivial⟩, hB9, hM9, hN9⟩
        (fun x a' W => a' = { tmps := #[u0, .pointer (some ⟨w.heap.size, 0, none⟩), .slice none 0 0, .int .i64 0, .pointer (some ⟨cB, 0, none⟩), .int .i64 i, .slice A9 (rd_L2 l0_0 i).length c9, .int .u8 0, .int .i64 (cl x.1), .int .i64 (cl x.2), u10, u11, u12, u13, u14, u15, u16, u17, u18, u19, u20, u21, u22, u23, u24, u25, u26, u27, u28, .slice (some ad0) l0_0.length c0_0, .int .i64 l0_0.length, .int .i64 i, .bool true, .int .i64 i, .pointer (some (ad0.add i)), .slice A9 (rd_L2 l0_0 i).length c9, .pointer (some ⟨w.heap.size, 1, none⟩), .slice (some adb) l0_1.length c0_1, .int .i64 i, .pointer (some (adb.add i)), .bool false, v, .int .u8 0, .slice (some ⟨wr.heap.size, 0, none⟩) 1 1, v8, .slice A9 (rd_L2 l0_0 i).length c9, .func (.func 32) #[] #[.pointer (some ⟨W8.heap.size, 0, none⟩)], .int .i64 (cl x.1), .int .i64 (cl x.2), u49, u50, u51, u52, u53, u54, u55, u56, u57], defers := [] })
        (fun x a' _ X Y row hs hg hr => hs)
        ?assign ?body ?done ?stop
      case assign =>
        clear hstops hv9 hr9
        rintro l pre x W K ⟨⟨z, hz, hzr, _⟩, hB1, hM1, hN1⟩ hK
        dsimp only
        gi_wp2
        exact hK _ _ (KeepsFrom.refl _ _) ⟨Below.refl _ _, rfl⟩ ⟨⟨z, hz, hzr, trivial⟩, hB1, hM1, hN1⟩ rfl
      case body =>
        clear hstops hv9 hr9
        rintro l pre x a' W hl ⟨r, hr⟩ ⟨⟨v2, hz, hzr, _⟩, hB1, hM1, hN1⟩ rfl hlt2
        have hsz := hB1.size
        have HLW := Aside0.mk (flatN_le hx8l hrl hi5 hlt2)
        have YX20 := Aside0.mk (show Boxed W.drew cB 28 v2 from hz)
        have YN20 := Aside0.mk (show Boxed W.drew W8.heap.size 43 (.slice A9 (rd_L2 l0_0 i).length c9) from hN1)
        have YO20 := Aside0.mk (own_drew hzr)
        have YB20 := Aside0.mk (Below.refl (w.heap.size + 1) W).drew
        have YS20 : Aside0 (w.heap.size + 1 ≤ W.drew.heap.size) := ⟨by simp; omega⟩
        have YK20 := Aside0.mk (KeepsOthers.drew W)
        have HB1 := Aside0.mk hB1
        clear hz hzr hB1
        refine wpIn_block ?_
        refine startIn_ (n := 8) (by simp) (fun _ _ h => h) (S := fun w' => w'.cell? ⟨cB, 0, none⟩ = some v2 ∧ w'.frozen? ⟨cB, 0, none⟩ = false) (ds := [7]) #[false, false, false, false, false, false, false, false] (by kernel_rfl) rfl rfl ⟨Boxed.cell YX20.out, Boxed.frozen YX20.out⟩ (fun hHeld => ?_); refine with_tabW save_tab15 save_bits15 (fun HT_ HW_ => ?_)
        refine take_ (i := 0) (N := some 49) (v := ?_) (a' := ?_) #[true, false, false, false, false, false, false, false] rfl rfl (take_ofW HT_.out HW_.out (by kernel_rfl)) (fun _ _ _ h => h) (Or.inl ⟨by rfl, ?_⟩) hHeld ?_ ?_
        rotate_left
        · rintro w' ⟨s0, s1⟩
          go_simp
          with_reducible rfl
        rotate_left
        · simp only [Act.put, List.setIfInBounds_toArray, List.set_cons_zero, List.set_cons_succ, i64_w, i32_w]
          rfl
        refine pure_ (i := 1) (N := some 50) (v := ?_) (a' := ?_) #[true, true, false, false, false, false, false, false] rfl rfl (any_of HT_.out (by kernel_rfl)) (fun _ _ _ h => h) (Or.inl ⟨by rfl, ?_⟩) ?_ ?_
        rotate_left
        · intro w'
          go_simp
          with_reducible rfl
        rotate_left
        · simp only [Act.put, List.setIfInBounds_toArray, List.set_cons_zero, List.set_cons_succ, i64_w, i32_w]
          rfl
        refine pure_ (i := 4) (N := some 53) (v := ?_) (a' := ?_) #[true, true, false, false, true, false, false, false] rfl rfl (any_of HT_.out (by kernel_rfl)) (fun _ _ _ h => h) (Or.inl ⟨by rfl, ?_⟩) ?_ ?_
        rotate_left
        · intro w'
          go_simp
          with_reducible rfl
        rotate_left
        · simp only [Act.put, List.setIfInBounds_toArray, List.set_cons_zero, List.set_cons_succ, i64_w, i32_w]
          rfl
        refine one_ (i := 2) (N := some 51) #[true, true, true, false, true, false, false, false] rfl rfl (one_of HT_.out (by kernel_rfl)) (by decide) (fun K hK => ?_)
        refine goes_ Try.func15 (by kernel_rfl) rfl #[.int .i64 (cl x.1)] (by rfl) rfl rfl (by first | rfl | (try simp only [List.map_toArray, List.map_cons, List.map_nil]; rfl)) ?_
        refine (packed_Number.calls 12 (cl x.1) (numOf (cl x.1)) _ (number_k _ (cl_lt _))).mono ?_
        rintro e W21 ⟨vn21, rfl, hn21, hb21⟩
        obtain ⟨An21, cn21, rfl⟩ := Kd.R_slice hn21
        refine ⟨_, rfl, ?_⟩
        obtain ⟨adn21, en21, hnw21⟩ := news_of_C (Kd.R_reads' hn21).2.2 (numGo_pos 9 _)
        subst en21
        have NW21 := Aside0.mk hnw21
        have YO21 := Aside0.mk (pw_own_below YO20.out hb21)
        have YB21 := Aside0.mk (YB20.out.trans (hb21.mono YS20.out))
        have YX21 := Aside0.mk ((hb21.block _ (Boxed.lt YX20.out)).trans YX20.out)
        have YS21 := Aside0.mk (Nat.le_trans YS20.out hb21.size)
        have YK21 := Aside0.mk (YK20.out.trans (keepsOthers_below hb21))
        have YN21 := Aside0.mk ((hb21.block _ (Boxed.lt YN20.out)).trans YN20.out)
        clear hn21 hb21 hnw21
        refine hK.out _ _ ⟨Boxed.cell YX21.out, Boxed.frozen YX21.out⟩ (fun hHeld => ?_)
        clear hK K
        refine norm_ (a' := ?_) ?_ ?_
        rotate_left
        · show Act.put _ (some 51) _ = _
          simp only [Act.put, List.setIfInBounds_toArray, List.set_cons_zero, List.set_cons_succ, i64_w, i32_w]
          rfl
        refine one_ (i := 3) (N := some 52) #[true, true, true, true, true, false, false, false] rfl rfl (one_of HT_.out (by kernel_rfl)) (by decide) (fun K hK => ?_)
        refine app_step (by rfl) (.tmp 49) (.tmp 51) 28 rfl (w.heap.size + 1) 5 i0 (.int .u8 0) 1 1 Try.underlying28 HI0.out hz0 hz1 hz2 rfl (by decide) _ _ _ rfl YO21.out adn21 _ cn21 _ rfl (by simp [encs]) NW21.out (by intro u hu; simp [encs] at hu; obtain ⟨x, _, rfl⟩ := hu; rfl) (by have h1 := numOf_len (cl x.1); have h2 := numOf_len (cl x.2); have h3 := HLW.out; unfold maxLen; omega) (by have h1 := numOf_len (cl x.1); have h2 := numOf_len (cl x.2); have h3 := HLW.out; omega) YS21.out ?_
        intro va22 W22 hown22 hgrow22
        have YO22 := Aside0.mk hown22
        have YB22 := Aside0.mk (YB21.out.grown hgrow22 YS21.out (own_base YO21.out))
        have YX22 := Aside0.mk (Boxed.kept YX21.out hgrow22 (Boxed.not_row YX21.out (by decide) YO21.out))
        have YS22 := Aside0.mk (Nat.le_trans YS21.out hgrow22.size)
        have YK22 := Aside0.mk (YK21.out.trans (own_keeps YO21.out hgrow22))
        have YN22 := Aside0.mk (Boxed.kept YN21.out hgrow22 (Boxed.not_row YN21.out (by decide) YO21.out))
        clear hown22 hgrow22
        refine hK.out _ _ ⟨Boxed.cell YX22.out, Boxed.frozen YX22.out⟩ (fun hHeld => ?_)
        clear hK K
        refine norm_ (a' := ?_) ?_ ?_
        rotate_left
        · show Act.put _ (some 52) _ = _
          simp only [Act.put, List.setIfInBounds_toArray, List.set_cons_zero, List.set_cons_succ, i64_w, i32_w]
          rfl
        refine one_ (i := 5) (N := some 54) #[true, true, true, true, true, true, false, false] rfl rfl (one_of HT_.out (by kernel_rfl)) (by decide) (fun K hK => ?_)
        refine goes_ Try.func15 (by kernel_rfl) rfl #[.int .i64 (cl x.2)] (by rfl) rfl rfl (by first | rfl | (try simp only [List.map_toArray, List.map_cons, List.map_nil]; rfl)) ?_
        refine (packed_Number.calls 12 (cl x.2) (numOf (cl x.2)) _ (number_k _ (cl_lt _))).mono ?_
        rintro e W23 ⟨vn23, rfl, hn23, hb23⟩
        obtain ⟨An23, cn23, rfl⟩ := Kd.R_slice hn23
        refine ⟨_, rfl, ?_⟩
        obtain ⟨adn23, en23, hnw23⟩ := news_of_C (Kd.R_reads' hn23).2.2 (numGo_pos 9 _)
        subst en23
        have NW23 := Aside0.mk hnw23
        have YO23 := Aside0.mk (pw_own_below YO22.out hb23)
        have YB23 := Aside0.mk (YB22.out.trans (hb23.mono YS22.out))
        have YX23 := Aside0.mk ((hb23.block _ (Boxed.lt YX22.out)).trans YX22.out)
        have YS23 := Aside0.mk (Nat.le_trans YS22.out hb23.size)
        have YK23 := Aside0.mk (YK22.out.trans (keepsOthers_below hb23))
        have YN23 := Aside0.mk ((hb23.block _ (Boxed.lt YN22.out)).trans YN22.out)
        clear hn23 hb23 hnw23
        refine hK.out _ _ ⟨Boxed.cell YX23.out, Boxed.frozen YX23.out⟩ (fun hHeld => ?_)
        clear hK K
        refine norm_ (a' := ?_) ?_ ?_
        rotate_left
        · show Act.put _ (some 54) _ = _
          simp only [Act.put, List.setIfInBounds_toArray, List.set_cons_zero, List.set_cons_succ, i64_w, i32_w]
          rfl
        refine one_ (i := 6) (N := some 55) #[true, true, true, true, true, true, true, false] rfl rfl (one_of HT_.out (by kernel_rfl)) (by decide) (fun K hK => ?_)
        refine app_step (by rfl) (.tmp 52) (.tmp 54) 28 rfl (w.heap.size + 1) 5 i0 (.int .u8 0) 1 1 Try.underlying28 HI0.out hz0 hz1 hz2 rfl (by decide) _ _ _ rfl YO23.out adn23 _ cn23 _ rfl (by simp [encs]) NW23.out (by intro u hu; simp [encs] at hu; obtain ⟨x, _, rfl⟩ := hu; rfl) (by have h1 := numOf_len (cl x.1); have h2 := numOf_len (cl x.2); have h3 := HLW.out; unfold maxLen; omega) (by have h1 := numOf_len (cl x.1); have h2 := numOf_len (cl x.2); have h3 := HLW.out; omega) YS23.out ?_
        intro va24 W24 hown24 hgrow24
        rw [List.length_append] at hown24
        obtain ⟨Aa24, ca24, rfl⟩ := own_form hown24
        have YO24 := Aside0.mk hown24
        have YB24 := Aside0.mk (YB23.out.grown hgrow24 YS23.out (own_base YO23.out))
        have YX24 := Aside0.mk (Boxed.kept YX23.out hgrow24 (Boxed.not_row YX23.out (by decide) YO23.out))
        have YS24 := Aside0.mk (Nat.le_trans YS23.out hgrow24.size)
        have YK24 := Aside0.mk (YK23.out.trans (own_keeps YO23.out hgrow24))
        have YN24 := Aside0.mk (Boxed.kept YN23.out hgrow24 (Boxed.not_row YN23.out (by decide) YO23.out))
        clear hown24 hgrow24
        refine hK.out _ _ ⟨Boxed.cell YX24.out, Boxed.frozen YX24.out⟩ (fun hHeld => ?_)
        clear hK K
        refine norm_ (a' := ?_) ?_ ?_
        rotate_left
        · show Act.put _ (some 55) _ = _
          simp only [Act.put, List.setIfInBounds_toArray, List.set_cons_zero, List.set_cons_succ, i64_w, i32_w]
          rfl
        refine last_ (i := 7) (N := none) #[true, true, true, true, true, true, true, true] rfl rfl (one_of HT_.out (by kernel_rfl)) (by decide) (fun K hK => ?_)
        refine step_list rfl (by rfl) ?_
        have hc6 := Boxed.cell YX24.out
        have hf6 := Boxed.frozen YX24.out
        unfold Oper.wp
        go_simp
        refine hK.out _ _ ?_
        clear hK K
        refine done_ (done_of HT_.out (by kernel_rfl)) ?_
        have hO := YO24.out.kept (grownBy_setCell' W24 cB (.slice Aa24 (X8.length + (flatN pre).length + (numOf (cl x.1)).length + (numOf (cl x.2)).length) ca24)) (.inr (YX24.out.not_row (by decide) YO24.out).symm)
        have hN := boxed_other YN24.out YX24.out (by decide) (.slice Aa24 (X8.length + (flatN pre).length + (numOf (cl x.1)).length + (numOf (cl x.2)).length) ca24)
        refine ⟨(YK24.out.trans (KeepsOthers.setCell _ _ _)).from _, ⟨by rw [hs00]; exact YB24.out.setCell (p := ⟨cB, 0, none⟩) HCB.out (.slice Aa24 (X8.length + (flatN pre).length + (numOf (cl x.1)).length + (numOf (cl x.2)).length) ca24), hN.cell.trans hN1.cell.symm⟩, ⟨_, Boxed.set (.slice Aa24 (X8.length + (flatN pre).length + (numOf (cl x.1)).length + (numOf (cl x.2)).length) ca24) YX24.out, ?_, trivial⟩, HB1.out.trans (YB24.out.setCell (p := ⟨cB, 0, none⟩) HCB.out (.slice Aa24 (X8.length + (flatN pre).length + (numOf (cl x.1)).length + (numOf (cl x.2)).length) ca24)), hM1.keeps (YK24.out.trans (KeepsOthers.setCell _ _ _)), hN⟩
        simpa [flatN_snoc, encs, Nat.add_assoc] using hO
      case done =>
        clear hstops hv9 hr9
        rintro D ys W hD rfl ⟨⟨z, hz, hzr, _⟩, hB1, hM1, _⟩ hK
        have HZ1 := Aside0.mk hz
        have HZ2 := Aside0.mk hzr
        have HZ3 := Aside0.mk hB1
        have HZ4 := Aside0.mk hM1
        clear hz hzr hB1 hM1
        go_wp2_with fail
        have e1 : ((i : Int) + 1) = ((i + 1 : Nat) : Int) := by omega
        rw [e1]
        refine Handed.intro (gk - 1) (by omega) (hJ _ _ _ ⟨i + 1, D :: ds, z, _, _, _, _, _, _, _, _, _, _, _, _, _, _, _, _, _, _, _, _, _, _, _, _, _, _, _, _, _, _, _, _, _, _, _, _, _, _, _, _, _, _, _, _, _, _, _, _, _, _, _, by omega, by omega, rfl, HZ1, ⟨?_⟩, ⟨by rw [hw00]; exact HZ3.out⟩, ⟨HZ4.out.cons hK (fun hm => ?_)⟩, ⟨fun E hE => ?_⟩⟩)
        · rw [← HEX.out]; exact HZ2.out
        · have := hM9.lt D hm; omega
        · rcases List.mem_cons.1 hE with rfl | hE
          · omega
          · exact HDS.out E hE
      case stop =>
        rintro D c pre W _ _ h _
        exact h.elim
    | true =>
      rw [hfin] at hxb
      clear hg
      go_wp2_with (first | (go_at_call 22; refine (runs_call _ _ _ _).mono ?_; rintro e w9 ⟨rfl, rfl⟩) | (at_builtin; refine wpList_append_own _ rfl _ _ 28 rfl (w.heap.size + 1) 5 i0 (.int .u8 0) 1 1 Try.underlying28 HI0.out hz0 hz1 hz2 rfl (by decide) v _ _ rfl (HO.out.alloc _) ⟨wr.heap.size, 0, none⟩ 1 1 [.int .u8 1] rfl rfl ?c1 ?c2 ?c3 ?c4 ?c5 ?_; (case c1 => exact cell_one_new wr (.int .u8 1) 5); (case c2 => simp [Value.oneCell']); (case c3 => unfold maxLen; omega); (case c4 => omega); (case c5 => have := HZ.out; simp; omega); intro v' w8 hown8 hgrow8 _; obtain ⟨A8, c8, rfl⟩ := own_form hown8; obtain ⟨hv1, hv2, hr2, hk2, hb2⟩ := HX.out.appended (by decide) HO.out HZ.out HCB.out hown8 hgrow8; have hc1 := hv1.cell; have hf1 := hv1.frozen))
      clear hown8 hgrow8 hv1 hc1 hf1 e9 hbx1 hbx0 hxb hltb
      obtain ⟨v8, hv8⟩ : ∃ v : Value, .slice A8 ((headOf l0_0).length + (rowsUp l0_0 l0_1 i).length + 1) c8 = v := ⟨_, rfl⟩
      have hr8 : (w8.setCell { block := cB, off := 0 } (Value.slice A8 ((headOf l0_0).length + (rowsUp l0_0 l0_1 i).length + 1) c8)).ownsRow (w.heap.size + 1) 5 1 (Value.slice A8 ((headOf l0_0).length + (rowsUp l0_0 l0_1 i).length + 1) c8) (headOf l0_0 ++ rowsUp l0_0 l0_1 i ++ [1]).length (encs (Value.int .u8) (headOf l0_0 ++ rowsUp l0_0 l0_1 i ++ [1])) := by
        simpa [encs, Nat.add_assoc] using hr2
      clear hr2
      rw [List.length_append] at hv2 hk2 hb2
      rw [hv8] at hv2 hr8 hk2 hb2 ⊢
      obtain ⟨W8, hW8⟩ : ∃ W, w8.setCell { block := cB, off := 0 } v8 = W := ⟨_, rfl⟩
      have hs8 : w8.heap.size = W8.heap.size := by rw [← hW8]; simp
      rw [hW8] at hv2 hr8 hk2 hb2
      rw [hs8, hW8]
      clear hW8 hs8 hv8
      obtain ⟨X8, hX8⟩ : ∃ X, headOf l0_0 ++ rowsUp l0_0 l0_1 i ++ [1] = X := ⟨_, rfl⟩
      have hx8l : X8.length ≤ 23 + i * 4001 := by rw [← hX8]; simp at hxl ⊢; omega
      rw [hX8] at hr8
      have HEX := Aside0.mk (show X8 ++ flatN (runsOf (rd_L2 l0_0 i)) = headOf l0_0 ++ rowsUp l0_0 l0_1 (i + 1) by rw [← hX8, rowsUp_succ, hfin, flatN_of (runs_fit (row_fit hgB.out i hlt) (by have := HROW.out i hlt; omega))]; simp [rowBytes])
      clear hX8
      obtain ⟨w00, hw00⟩ : ∃ W, w.alloc (.cells #[.slice (some ad0) l0_0.length c0_0, .slice (some adb) l0_1.length c0_1] 25) = W := ⟨_, rfl⟩
      have hs00 : w00.heap.size = w.heap.size + 1 := by rw [← hw00]; simp
      have hR00 := HR9.out
      have hB00 := HB.out
      rw [hw00] at hR00 hB00
      have hs8 : w.heap.size + 1 ≤ W8.heap.size := Nat.le_trans HZ.out hb2.size
      have hB8 := hB00.trans hb2
      obtain ⟨W9, hW9⟩ : ∃ W, W8.alloc (.cells #[.slice A9 (rd_L2 l0_0 i).length c9] 43) = W := ⟨_, rfl⟩
      have hs9 : W9.heap.size = W8.heap.size + 1 := by rw [← hW9]; simp
      have hB9 : Below (w.heap.size + 1) w00 W9 := by rw [← hW9]; exact hB8.alloc hs8 _
      have hcell9 : W9.cell? ⟨W8.heap.size, 0, none⟩ = some (.slice A9 (rd_L2 l0_0 i).length c9) := by rw [← hW9]; exact (blk_cell (World.alloc_heap_new W8 _) 0).trans rfl
      have hk9 : KeepsOthers wr W9 := by rw [← hW9]; exact hk2.trans (KeepsOthers.alloc _ _)
      have hv9 : Boxed W9 cB 28 v8 := by rw [← hW9]; exact hv2.alloc _
      have hr9 : W9.ownsRow (w.heap.size + 1) 5 1 v8 X8.length (encs (Value.int .u8) X8) := by rw [← hW9]; exact hr8.alloc _
      have hM9 := HMK.out.keeps hk9
      have hN9 : Boxed W9 W8.heap.size 43 (.slice A9 (rd_L2 l0_0 i).length c9) := by rw [← hW9]; exact Boxed.new W8 43 _
      rw [hW9]
      clear hW9 hv2 hr8 hk2 hb2
      have hrl : (rd_L2 l0_0 i).length ≤ 200 := HROW.out i hlt
      have hB9' : Below w00.heap.size w00 W9 := by rw [hs00]; exact hB9
      have hstops := runs_stops 4 (by omega) W8.heap.size A9 c9 (rd_L2 l0_0 i) (by omega) (row_fit hgB.out i hlt) w00 W9 hB9' hR00 hcell9 (by omega)
      refine (wpIn_wide (n := 5)).1 ?_
      refine wpIn_rangeFunc_ownH rfl (by omega) (gf := 32) (lb := #[.pointer (some ⟨W8.heap.size, 0, none⟩)]) rfl trivial (enters_of Try.func32 (by kernel_rfl) rfl)
        hstops kpR_t (kpR_b (by omega) (by omega)) (Below.refl _ _) (fun _ => rfl)
        (fun pre W => (∃ z, Boxed W cB 28 z ∧ W.ownsRow (w.heap.size + 1) 5 1 z (X8 ++ flatN pre).length (encs (Value.int .u8) (X8 ++ flatN pre)) ∧ True) ∧ Below (w.heap.size + 1) w00 W ∧ Marks W ds ∧ Boxed W W8.heap.size 43 (.slice A9 (rd_L2 l0_0 i).length c9))
        (fun _ _ _ => False)
        (OwnFrom.and (Own.from (holdsRow_own (w.heap.size + 1) cB 28 5 1 (fun pre => (X8 ++ flatN pre).length) (fun pre => encs (Value.int .u8) (X8 ++ flatN pre)) (fun _ _ => True)) _) (OwnFrom.and (ownFrom_below (by omega) (by omega)) (OwnFrom.and (marks_own hM9.lt) (Own.from (boxed_own _ _ _) _))))
        (fun _ _ _ _ _ hs _ _ => hs)
        ⟨⟨_, hv9, by simpa [flatN] using hr9, trivial⟩, hB9, hM9, hN9⟩
        (fun x a' W => a' = { tmps := #[u0, .pointer (some ⟨w.heap.size, 0, none⟩), .slice none 0 0, .int .i64 0, .pointer (some ⟨cB, 0, none⟩), .int .i64 i, .slice A9 (rd_L2 l0_0 i).length c9, .int .u8 1, .int .i64 (cl x.1), .int .i64 (cl x.2), u10, u11, u12, u13, u14, u15, u16, u17, u18, u19, u20, u21, u22, u23, u24, u25, u26, u27, u28, .slice (some ad0) l0_0.length c0_0, .int .i64 l0_0.length, .int .i64 i, .bool true, .int .i64 i, .pointer (some (ad0.add i)), .slice A9 (rd_L2 l0_0 i).length c9, .pointer (some ⟨w.heap.size, 1, none⟩), .slice (some adb) l0_1.length c0_1, .int .i64 i, .pointer (some (adb.add i)), .bool true, v, .int .u8 1, .slice (some ⟨wr.heap.size, 0, none⟩) 1 1, v8, .slice A9 (rd_L2 l0_0 i).length c9, .func (.func 32) #[] #[.pointer (some ⟨W8.heap.size, 0, none⟩)], .int .i64 (cl x.1), .int .i64 (cl x.2), u49, u50, u51, u52, u53, u54, u55, u56, u57], defers := [] })
        (fun x a' _ X Y row hs hg hr => hs)
        ?assign ?body ?done ?stop
      case assign =>
        clear hstops hv9 hr9
        rintro l pre x W K ⟨⟨z, hz, hzr, _⟩, hB1, hM1, hN1⟩ hK
        dsimp only
        gi_wp2
        exact hK _ _ (KeepsFrom.refl _ _) ⟨Below.refl _ _, rfl⟩ ⟨⟨z, hz, hzr, trivial⟩, hB1, hM1, hN1⟩ rfl
      case body =>
        clear hstops hv9 hr9
        rintro l pre x a' W hl ⟨r, hr⟩ ⟨⟨v2, hz, hzr, _⟩, hB1, hM1, hN1⟩ rfl hlt2
        have hsz := hB1.size
        have HLW := Aside0.mk (flatN_le hx8l hrl hi5 hlt2)
        have YX20 := Aside0.mk (show Boxed W.drew cB 28 v2 from hz)
        have YN20 := Aside0.mk (show Boxed W.drew W8.heap.size 43 (.slice A9 (rd_L2 l0_0 i).length c9) from hN1)
        have YO20 := Aside0.mk (own_drew hzr)
        have YB20 := Aside0.mk (Below.refl (w.heap.size + 1) W).drew
        have YS20 : Aside0 (w.heap.size + 1 ≤ W.drew.heap.size) := ⟨by simp; omega⟩
        have YK20 := Aside0.mk (KeepsOthers.drew W)
        have HB1 := Aside0.mk hB1
        clear hz hzr hB1
        refine wpIn_block ?_
        refine startIn_ (n := 8) (by simp) (fun _ _ h => h) (S := fun w' => w'.cell? ⟨cB, 0, none⟩ = some v2 ∧ w'.frozen? ⟨cB, 0, none⟩ = false) (ds := [7]) #[false, false, false, false, false, false, false, false] (by kernel_rfl) rfl rfl ⟨Boxed.cell YX20.out, Boxed.frozen YX20.out⟩ (fun hHeld => ?_); refine with_tabW save_tab15 save_bits15 (fun HT_ HW_ => ?_)
        refine take_ (i := 0) (N := some 49) (v := ?_) (a' := ?_) #[true, false, false, false, false, false, false, false] rfl rfl (take_ofW HT_.out HW_.out (by kernel_rfl)) (fun _ _ _ h => h) (Or.inl ⟨by rfl, ?_⟩) hHeld ?_ ?_
        rotate_left
        · rintro w' ⟨s0, s1⟩
          go_simp
          with_reducible rfl
        rotate_left
        · simp only [Act.put, List.setIfInBounds_toArray, List.set_cons_zero, List.set_cons_succ, i64_w, i32_w]
          rfl
        refine pure_ (i := 1) (N := some 50) (v := ?_) (a' := ?_) #[true, true, false, false, false, false, false, false] rfl rfl (any_of HT_.out (by kernel_rfl)) (fun _ _ _ h => h) (Or.inl ⟨by rfl, ?_⟩) ?_ ?_
        rotate_left
        · intro w'
          go_simp
          with_reducible rfl
        rotate_left
        · simp only [Act.put, List.setIfInBounds_toArray, List.set_cons_zero, List.set_cons_succ, i64_w, i32_w]
          rfl
        refine pure_ (i := 4) (N := some 53) (v := ?_) (a' := ?_) #[true, true, false, false, true, false, false, false] rfl rfl (any_of HT_.out (by kernel_rfl)) (fun _ _ _ h => h) (Or.inl ⟨by rfl, ?_⟩) ?_ ?_
        rotate_left
        · intro w'
          go_simp
          with_reducible rfl
        rotate_left
        · simp only [Act.put, List.setIfInBounds_toArray, List.set_cons_zero, List.set_cons_succ, i64_w, i32_w]
          rfl
        refine one_ (i := 2) (N := some 51) #[true, true, true, false, true, false, false, false] rfl rfl (one_of HT_.out (by kernel_rfl)) (by decide) (fun K hK => ?_)
        refine goes_ Try.func15 (by kernel_rfl) rfl #[.int .i64 (cl x.1)] (by rfl) rfl rfl (by first | rfl | (try simp only [List.map_toArray, List.map_cons, List.map_nil]; rfl)) ?_
        refine (packed_Number.calls 12 (cl x.1) (numOf (cl x.1)) _ (number_k _ (cl_lt _))).mono ?_
        rintro e W21 ⟨vn21, rfl, hn21, hb21⟩
        obtain ⟨An21, cn21, rfl⟩ := Kd.R_slice hn21
        refine ⟨_, rfl, ?_⟩
        obtain ⟨adn21, en21, hnw21⟩ := news_of_C (Kd.R_reads' hn21).2.2 (numGo_pos 9 _)
        subst en21
        have NW21 := Aside0.mk hnw21
        have YO21 := Aside0.mk (pw_own_below YO20.out hb21)
        have YB21 := Aside0.mk (YB20.out.trans (hb21.mono YS20.out))
        have YX21 := Aside0.mk ((hb21.block _ (Boxed.lt YX20.out)).trans YX20.out)
        have YS21 := Aside0.mk (Nat.le_trans YS20.out hb21.size)
        have YK21 := Aside0.mk (YK20.out.trans (keepsOthers_below hb21))
        have YN21 := Aside0.mk ((hb21.block _ (Boxed.lt YN20.out)).trans YN20.out)
        clear hn21 hb21 hnw21
        refine hK.out _ _ ⟨Boxed.cell YX21.out, Boxed.frozen YX21.out⟩ (fun hHeld => ?_)
        clear hK K
        refine norm_ (a' := ?_) ?_ ?_
        rotate_left
        · show Act.put _ (some 51) _ = _
          simp only [Act.put, List.setIfInBounds_toArray, List.set_cons_zero, List.set_cons_succ, i64_w, i32_w]
          rfl
        refine one_ (i := 3) (N := some 52) #[true, true, true, true, true, false, false, false] rfl rfl (one_of HT_.out (by kernel_rfl)) (by decide) (fun K hK => ?_)
        refine app_step (by rfl) (.tmp 49) (.tmp 51) 28 rfl (w.heap.size + 1) 5 i0 (.int .u8 0) 1 1 Try.underlying28 HI0.out hz0 hz1 hz2 rfl (by decide) _ _ _ rfl YO21.out adn21 _ cn21 _ rfl (by simp [encs]) NW21.out (by intro u hu; simp [encs] at hu; obtain ⟨x, _, rfl⟩ := hu; rfl) (by have h1 := numOf_len (cl x.1); have h2 := numOf_len (cl x.2); have h3 := HLW.out; unfold maxLen; omega) (by have h1 := numOf_len (cl x.1); have h2 := numOf_len (cl x.2); have h3 := HLW.out; omega) YS21.out ?_
        intro va22 W22 hown22 hgrow22
        have YO22 := Aside0.mk hown22
        have YB22 := Aside0.mk (YB21.out.grown hgrow22 YS21.out (own_base YO21.out))
        have YX22 := Aside0.mk (Boxed.kept YX21.out hgrow22 (Boxed.not_row YX21.out (by decide) YO21.out))
        have YS22 := Aside0.mk (Nat.le_trans YS21.out hgrow22.size)
        have YK22 := Aside0.mk (YK21.out.trans (own_keeps YO21.out hgrow22))
        have YN22 := Aside0.mk (Boxed.kept YN21.out hgrow22 (Boxed.not_row YN21.out (by decide) YO21.out))
        clear hown22 hgrow22
        refine hK.out _ _ ⟨Boxed.cell YX22.out, Boxed.frozen YX22.out⟩ (fun hHeld => ?_)
        clear hK K
        refine norm_ (a' := ?_) ?_ ?_
        rotate_left
        · show Act.put _ (some 52) _ = _
          simp only [Act.put, List.setIfInBounds_toArray, List.set_cons_zero, List.set_cons_succ, i64_w, i32_w]
          rfl
        refine one_ (i := 5) (N := some 54) #[true, true, true, true, true, true, false, false] rfl rfl (one_of HT_.out (by kernel_rfl)) (by decide) (fun K hK => ?_)
        refine goes_ Try.func15 (by kernel_rfl) rfl #[.int .i64 (cl x.2)] (by rfl) rfl rfl (by first | rfl | (try simp only [List.map_toArray, List.map_cons, List.map_nil]; rfl)) ?_
        refine (packed_Number.calls 12 (cl x.2) (numOf (cl x.2)) _ (number_k _ (cl_lt _))).mono ?_
        rintro e W23 ⟨vn23, rfl, hn23, hb23⟩
        obtain ⟨An23, cn23, rfl⟩ := Kd.R_slice hn23
        refine ⟨_, rfl, ?_⟩
        obtain ⟨adn23, en23, hnw23⟩ := news_of_C (Kd.R_reads' hn23).2.2 (numGo_pos 9 _)
        subst en23
        have NW23 := Aside0.mk hnw23
        have YO23 := Aside0.mk (pw_own_below YO22.out hb23)
        have YB23 := Aside0.mk (YB22.out.trans (hb23.mono YS22.out))
        have YX23 := Aside0.mk ((hb23.block _ (Boxed.lt YX22.out)).trans YX22.out)
        have YS23 := Aside0.mk (Nat.le_trans YS22.out hb23.size)
        have YK23 := Aside0.mk (YK22.out.trans (keepsOthers_below hb23))
        have YN23 := Aside0.mk ((hb23.block _ (Boxed.lt YN22.out)).trans YN22.out)
        clear hn23 hb23 hnw23
        refine hK.out _ _ ⟨Boxed.cell YX23.out, Boxed.frozen YX23.out⟩ (fun hHeld => ?_)
        clear hK K
        refine norm_ (a' := ?_) ?_ ?_
        rotate_left
        · show Act.put _ (some 54) _ = _
          simp only [Act.put, List.setIfInBounds_toArray, List.set_cons_zero, List.set_cons_succ, i64_w, i32_w]
          rfl
        refine one_ (i := 6) (N := some 55) #[true, true, true, true, true, true, true, false] rfl rfl (one_of HT_.out (by kernel_rfl)) (by decide) (fun K hK => ?_)
        refine app_step (by rfl) (.tmp 52) (.tmp 54) 28 rfl (w.heap.size + 1) 5 i0 (.int .u8 0) 1 1 Try.underlying28 HI0.out hz0 hz1 hz2 rfl (by decide) _ _ _ rfl YO23.out adn23 _ cn23 _ rfl (by simp [encs]) NW23.out (by intro u hu; simp [encs] at hu; obtain ⟨x, _, rfl⟩ := hu; rfl) (by have h1 := numOf_len (cl x.1); have h2 := numOf_len (cl x.2); have h3 := HLW.out; unfold maxLen; omega) (by have h1 := numOf_len (cl x.1); have h2 := numOf_len (cl x.2); have h3 := HLW.out; omega) YS23.out ?_
        intro va24 W24 hown24 hgrow24
        rw [List.length_append] at hown24
        obtain ⟨Aa24, ca24, rfl⟩ := own_form hown24
        have YO24 := Aside0.mk hown24
        have YB24 := Aside0.mk (YB23.out.grown hgrow24 YS23.out (own_base YO23.out))
        have YX24 := Aside0.mk (Boxed.kept YX23.out hgrow24 (Boxed.not_row YX23.out (by decide) YO23.out))
        have YS24 := Aside0.mk (Nat.le_trans YS23.out hgrow24.size)
        have YK24 := Aside0.mk (YK23.out.trans (own_keeps YO23.out hgrow24))
        have YN24 := Aside0.mk (Boxed.kept YN23.out hgrow24 (Boxed.not_row YN23.out (by decide) YO23.out))
        clear hown24 hgrow24
        refine hK.out _ _ ⟨Boxed.cell YX24.out, Boxed.frozen YX24.out⟩ (fun hHeld => ?_)
        clear hK K
        refine norm_ (a' := ?_) ?_ ?_
        rotate_left
        · show Act.put _ (some 55) _ = _
          simp only [Act.put, List.setIfInBounds_toArray, List.set_cons_zero, List.set_cons_succ, i64_w, i32_w]
          rfl
        refine last_ (i := 7) (N := none) #[true, true, true, true, true, true, true, true] rfl rfl (one_of HT_.out (by kernel_rfl)) (by decide) (fun K hK => ?_)
        refine step_list rfl (by rfl) ?_
        have hc6 := Boxed.cell YX24.out
        have hf6 := Boxed.frozen YX24.out
        unfold Oper.wp
        go_simp
        refine hK.out _ _ ?_
        clear hK K
        refine done_ (done_of HT_.out (by kernel_rfl)) ?_
        have hO := YO24.out.kept (grownBy_setCell' W24 cB (.slice Aa24 (X8.length + (flatN pre).length + (numOf (cl x.1)).length + (numOf (cl x.2)).length) ca24)) (.inr (YX24.out.not_row (by decide) YO24.out).symm)
        have hN := boxed_other YN24.out YX24.out (by decide) (.slice Aa24 (X8.length + (flatN pre).length + (numOf (cl x.1)).length + (numOf (cl x.2)).length) ca24)
        refine ⟨(YK24.out.trans (KeepsOthers.setCell _ _ _)).from _, ⟨by rw [hs00]; exact YB24.out.setCell (p := ⟨cB, 0, none⟩) HCB.out (.slice Aa24 (X8.length + (flatN pre).length + (numOf (cl x.1)).length + (numOf (cl x.2)).length) ca24), hN.cell.trans hN1.cell.symm⟩, ⟨_, Boxed.set (.slice Aa24 (X8.length + (flatN pre).length + (numOf (cl x.1)).length + (numOf (cl x.2)).length) ca24) YX24.out, ?_, trivial⟩, HB1.out.trans (YB24.out.setCell (p := ⟨cB, 0, none⟩) HCB.out (.slice Aa24 (X8.length + (flatN pre).length + (numOf (cl x.1)).length + (numOf (cl x.2)).length) ca24)), hM1.keeps (YK24.out.trans (KeepsOthers.setCell _ _ _)), hN⟩
        simpa [flatN_snoc, encs, Nat.add_assoc] using hO
      case done =>
        clear hstops hv9 hr9
        rintro D ys W hD rfl ⟨⟨z, hz, hzr, _⟩, hB1, hM1, _⟩ hK
        have HZ1 := Aside0.mk hz
        have HZ2 := Aside0.mk hzr
        have HZ3 := Aside0.mk hB1
        have HZ4 := Aside0.mk hM1
        clear hz hzr hB1 hM1
        go_wp2_with fail
        have e1 : ((i : Int) + 1) = ((i + 1 : Nat) : Int) := by omega
        rw [e1]
        refine Handed.intro (gk - 1) (by omega) (hJ _ _ _ ⟨i + 1, D :: ds, z, _, _, _, _, _, _, _, _, _, _, _, _, _, _, _, _, _, _, _, _, _, _, _, _, _, _, _, _, _, _, _, _, _, _, _, _, _, _, _, _, _, _, _, _, _, _, _, _, _, _, _, by omega, by omega, rfl, HZ1, ⟨?_⟩, ⟨by rw [hw00]; exact HZ3.out⟩, ⟨HZ4.out.cons hK (fun hm => ?_)⟩, ⟨fun E hE => ?_⟩⟩)
        · rw [← HEX.out]; exact HZ2.out
        · have := hM9.lt D hm; omega
        · rcases List.mem_cons.1 hE with rfl | hE
          · omega
          · exact HDS.out E hE
      case stop =>
        rintro D c pre W _ _ h _
        exact h.elim
  · obtain rfl : i = l0_0.length := by omega
    have hltz : ¬ ((l0_0.length : Nat) : Int) < (l0_0.length : Int) := by omega
    have hcx := Boxed.cell HX.out
    have hfx := Boxed.frozen HX.out
    clear hg
    go_wp2_with fail
    refine save_leaves (w0 := w.alloc (.cells #[.slice (some ad0) l0_0.length c0_0, .slice A0_1 l0_1.length c0_1] 25)) (v := v) (xs := saveOf l0_0 l0_1) (n₀ := w.heap.size + 1) (by simp) HDS.out HMK.out ?_ HB.out rfl rfl (fun W' h1 h2 => ⟨v, rfl, Kd.R_lower h1 (by omega), ((Below.refl _ w).alloc (Nat.le_refl _) _).trans (h2.mono (by simp))⟩)
    have := HO.out
    simpa [saveOf, headOf] using this
end Go.Proofs.Ytjcgbjkjkgkklaa.Print

namespace Go.Proofs.Ytjcgbjkjkgkklaa.Print
open Go.RowKit Go.Shelf Go.Proofs.YtjcgbjkjkgkklaaW.PrintWords Go.Proofs.YtjcgbjkjkgkklaaW.PrintLast Go.Proofs.YtjcgbjkjkgkklaaW.PrintMore
set_option linter.unusedVariables false
set_option linter.unusedSimpArgs false

def packed_Save.f (a : List (List Int)) (b : List Bool) : Option (List Int × Int) := if rightB a b = true then some (saveOf a b, 0) else some ([], 1)

set_option maxRecDepth 100000 in
set_option maxHeartbeats 8000000 in
theorem save_bad (A0_0 : Option Addr) (c0_0 : Nat) (l0_0 : List (List Int)) (A0_1 : Option Addr) (c0_1 : Nat) (l0_1 : List Bool) (w : World) (hr0_0 : Kd.C (Kd.slice 3 (Kd.int .i64)) w A0_0 l0_0.length l0_0) (hc0_0 : l0_0.length ≤ c0_0) (hr0_1 : Kd.C Kd.bool w A0_1 l0_1.length l0_1) (hc0_1 : l0_1.length ≤ c0_1) (hg : rightB l0_0 l0_1 = false) :
    Calls Try.prog 11 #[.agg #[.slice A0_0 l0_0.length c0_0, .slice A0_1 l0_1.length c0_1]] w fun e w' => ∃ v0_ : Value, e = .returned (.tuple #[v0_, .int .i64 1]) ∧ Kd.R (Kd.int .u8) 5 w' w.heap.size (fun _ => True) v0_ [] ∧ Below w.heap.size w w' := by
  have HRT := Aside0.mk (subset_Right.calls A0_0 c0_0 l0_0 A0_1 c0_1 l0_1 false (w.alloc (.cells #[.slice A0_0 l0_0.length c0_0, .slice A0_1 l0_1.length c0_1] 25)) (Kd.C_alloc hr0_0 _) hc0_0 (Kd.C_alloc hr0_1 _) hc0_1 (by unfold subset_Right.f; rw [hg]))
  have HX0 := Aside0.mk (show (w.alloc (.cells #[.slice A0_0 l0_0.length c0_0, .slice A0_1 l0_1.length c0_1] 25)).cell? ⟨w.heap.size, 0, none⟩ = some (.slice A0_0 l0_0.length c0_0) from (blk_cell (World.alloc_heap_new w _) 0).trans rfl)
  clear hr0_0 hr0_1
  refine (callsIn_wide (n := 5)).1 ?_
  refine callsIn_of_wp_marks Try.func11 rfl trivial ?_ rfl
  simp only [Try.ntmps11, List.size_toArray, List.length_cons, List.length_nil, Nat.reduceAdd, Nat.reduceSub, Array.replicate_succ, Array.replicate_zero, List.push_toArray, List.append_toArray, List.nil_append, List.cons_append]
  refine wpIn_wide.2 ?_
  go_wp2_with fail
  refine HRT.out.mono ?_
  rintro e w1 ⟨rfl, hb1⟩
  have HB1 := Aside0.mk hb1
  clear hb1
  go_wp2_with fail
  exact ⟨_, results_tmp2 rfl _ _ _, .slice none 0 0, rfl, Kd.R_of_own (World.ownsRow_nil _ _ _ _) (fun _ _ => trivial), ((Below.refl _ w).alloc (Nat.le_refl _) _).trans (HB1.out.mono (by simp))⟩

theorem packed_Save.calls (A0_0 : Option Addr) (c0_0 : Nat) (l0_0 : List (List Int)) (A0_1 : Option Addr) (c0_1 : Nat) (l0_1 : List Bool) (r1 : List Int) (r2 : Int) (w : World) (hr0_0 : Kd.C (Kd.slice 3 (Kd.int .i64)) w A0_0 l0_0.length l0_0) (hc0_0 : l0_0.length ≤ c0_0) (hr0_1 : Kd.C Kd.bool w A0_1 l0_1.length l0_1) (hc0_1 : l0_1.length ≤ c0_1) (h : packed_Save.f l0_0 l0_1 = some (r1, r2)) :
    Calls Try.prog 11 #[.agg #[.slice A0_0 l0_0.length c0_0, .slice A0_1 l0_1.length c0_1]] w fun e w' => ∃ v0_ : Value, e = .returned (.tuple #[v0_, .int .i64 r2]) ∧ Kd.R (Kd.int .u8) 5 w' w.heap.size (fun _ => True) v0_ r1 ∧ Below w.heap.size w w' := by
  unfold packed_Save.f at h
  cases hg : rightB l0_0 l0_1 with
  | true =>
    rw [if_pos hg] at h
    cases h
    exact save_good A0_0 c0_0 l0_0 A0_1 c0_1 l0_1 w hr0_0 hc0_0 hr0_1 hc0_1 hg
  | false =>
    rw [if_neg (by simp [hg])] at h
    cases h
    exact save_bad A0_0 c0_0 l0_0 A0_1 c0_1 l0_1 w hr0_0 hc0_0 hr0_1 hc0_1 hg

#print axioms packed_Save.calls
end Go.Proofs.Ytjcgbjkjkgkklaa.Print
