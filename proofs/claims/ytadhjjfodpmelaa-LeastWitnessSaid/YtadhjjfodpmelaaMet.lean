/- The contract of least.Least's closure 'met': the number of a state's class, in the order in which they are met. -/
import Derived.Test.YtadhjjfodpmelaaClassB
import Derived.Test.YtadhjjfodpmelaaEntry
import Derived.Maps.AppendAt
namespace Go.Proofs.Ytadhjjfodpmelaa.Print
open Go.RowKit Go.Shelf Go.Maps Go.Proofs.YtadhjjfodpmelaaW.PrintWords Go.Proofs.YtadhjjfodpmelaaW.PrintLast Go.Proofs.YtadhjjfodpmelaaW.PrintMore
set_option linter.unusedVariables false
set_option linter.unusedSimpArgs false

def met_T1 : Bool × List (List Nat × List Nat) := (true, [([], []), ([], []), ([], []), ([1, 2], [1, 2]), ([3], [3]), ([0, 4], [0, 4]), ([5], [5]), ([6], [6]), ([6], [6]), ([7, 0, 1, 2, 3, 4, 5, 6, 7], [7]), ([8, 9, 0, 1, 2, 3, 4, 5, 6, 7, 8, 9], [8])])
def met_B1 : List Nat := [0, 0, 0, 6, 14, 31, 63, 127, 127, 255, 1023]
theorem met_tab1 : rtab .any (opsOf Try.f22 1) = met_T1 := by kernel_rfl
theorem met_bits1 : waitsOk met_T1.2 met_B1 = true := by kernel_rfl
def met_T4 : Bool × List (List Nat × List Nat) := (true, [([], []), ([], []), ([], []), ([1, 2], [1, 2]), ([3], [3]), ([], []), ([], []), ([], []), ([7], [7]), ([6, 8], [6, 8]), ([0, 4, 9, 9], [0, 4]), ([10], [10]), ([0, 11, 5, 10, 0, 1, 2, 3, 4, 5, 9, 10], [0, 5, 11]), ([9, 12, 0, 1, 2, 3, 4, 5, 6, 7, 8, 9, 10, 11, 12], [9])])
def met_B4 : List Nat := [0, 0, 0, 6, 14, 0, 0, 0, 128, 448, 991, 2015, 4095, 8191]
theorem met_tab4 : rtab .any (opsOf Try.f22 4) = met_T4 := by kernel_rfl
theorem met_bits4 : waitsOk met_T4.2 met_B4 = true := by kernel_rfl

theorem step_list {P : Program} {ops : Array Oper} {Q : Exit → Act → World → Prop} {K : Act → World → Prop} {oi : Oper} {N : Option Tmp} {a : Act} {w : World} (hN : oi.dst = N) (hw : Region.wanted oi (yielded ops a.tmps) = true)
  (h : Oper.wp P oi a w K Q) : if Region.wanted oi (yielded ops a.tmps) = true then Oper.wp P oi a w K Q else K (a.put N undef) w := by
 rw [if_pos hw]; exact h
/-- An append in a drawing region, wherever the appended cells lie. -/
theorem R_app_step {α : Type} (d : Kd α) {P : Program} {ops : Array Oper} {o : Oper} {a : Act} {W : World} {Q : Exit → Act → World → Prop} {Kc : Act → World → Prop} (base : Nat) (hw : Region.wanted o (yielded ops a.tmps) = true) (s x : Operand) (t e : TypeId) (i : TypeInfo) (z : Value) (bytes : Nat)
  (ho : o.op = .call { callee := .builtin .append, args := #[s, x], argTypes := #[t, t] })
  (ht : P.underlying t = some (.slice e)) (hi : P.info? e = some i) (hz : i.zero = some z) (hsize : i.size = d.sz) (hby : i.bytes = bytes) (hzs : z.cells.size = d.sz) (hsz : 0 < d.sz)
  (v : Value) (xs : List α) (p : α) (cs : List Value) (ok okp : Nat → Prop) (hs : a.eval s = v) (ad : Addr) (hx : a.eval x = .slice (some ad) 1 1) (hcells : ∀ j u, cs[j]? = some u → W.cell? (ad.add j) = some u) (hp : d.M W base okp p cs)
  (hokp : ∀ k, okp k → ok k ∧ some k ≠ v.ownBlock) (hfresh : ∀ k, W.heap.size ≤ k → ok k) (HO : d.R e W base ok v xs) (hbase : base ≤ W.heap.size) (h63 : xs.length + 1 ≤ maxLen) (hl : (xs.length + 1) * bytes ≤ 140737488355328)
  (h : ∀ v1 w1, d.R e w1 base ok v1 (xs ++ [p]) → W.grownBy w1 v.ownBlock → (v1.ownBlock = v.ownBlock ∨ ∃ b, v1.ownBlock = some b ∧ W.heap.size ≤ b) → Kc (a.put o.dst v1) w1) :
  if Region.wanted o (yielded ops a.tmps) = true then Oper.wp P o a W Kc Q else Kc (a.put o.dst undef) W := by
 rw [if_pos hw]
 obtain ⟨h0, inner, hown, hr⟩ := HO
 obtain ⟨v', w', hrun, h2, h3, h4, h5⟩ := run_append_own_at (P := P) (w := W) base t o.type e i z d.sz bytes ht hi hz hsize hby hzs hsz v xs.length inner hown ad 1 1 cs (by rw [d.K_len (d.K_of_M hp), Nat.one_mul]) hcells (d.K_one (d.K_of_M hp)) h63 hl hbase
 have hat : v'.ownBlock = v.ownBlock ∨ ∃ b, v'.ownBlock = some b ∧ W.heap.size ≤ b := h5.elim .inl (fun e => .inr ⟨_, e, Nat.le_refl _⟩)
 unfold Oper.wp execOp
 simp only [ho, resolve, invoke, builtin, Sem.run_bind, Sem.run_pure, Result.andThen_ok, List.map_toArray, List.map_cons, List.map_nil, hs, hx, hrun]
 exact h v' w' (Kd.R_appended h0 hr hp hokp hfresh h2 h3 hat) h3 hat

theorem cell_one {W : World} {g t : Nat} {v : Value} (h : W.heap[g]? = some (.cells #[v] t (0, 0))) : ∀ j u, [v][j]? = some u → W.cell? ((⟨g, 0, none⟩ : Addr).add j) = some u := by
 intro j u hj
 match j, hj with
 | 0, hj => cases hj; exact (blk_cell h 0).trans rfl
 | j + 1, hj => simp at hj
theorem map_ne {P : Program} {K : TypeId} {R : Value → Option (DataW Unit × List MemPlace)} {W : World} {b n g t : Nat} {D : DataW Unit} {cs : Array Value} (h : W.ownsMap P K R b n D) (hg : W.heap[g]? = some (.cells cs t (0, 0))) : g ≠ b := by
 rintro rfl
 obtain ⟨es, clock, hb, _⟩ := h
 rw [hb] at hg; cases hg
theorem kept_grown {W0 W W' : World} {S : Nat → Prop} {row : Option Nat} (h : Kept W0 W S) (hg : W.grownBy W' row) (hr : ∀ k, row = some k → S k) : Kept W0 W' S :=
 ⟨Nat.le_trans h.1 hg.size, fun i hi hn => (hg.block i (Nat.lt_of_lt_of_le hi h.1) (fun e => hn (hr i e.symm))).trans (h.2 i hi hn)⟩
theorem kept_alloc {W0 W : World} {S : Nat → Prop} (h : Kept W0 W S) (o : Obj) : Kept W0 (W.alloc o) S := kept_grown h (World.grownBy_alloc W o none) (fun k e => by cases e)
theorem own_map_ne {W : World} {base e b m : Nat} {ok : Nat → Prop} {v : Value} {xs : List Int} {P : Program} {K : TypeId} {R : Value → Option (DataW Unit × List MemPlace)} {D : DataW Unit} (h : Kd.R (Kd.int .i64) e W base ok v xs) (hm : W.ownsMap P K R b m D) : some b ≠ v.ownBlock := fun he => by
 obtain ⟨cs, hcs⟩ := Kd.R_typed h b he.symm
 exact map_ne hm hcs rfl
def intLit (x : Int) : Lit := .int .i64 x
theorem intLit_inj (a b : Int) (h : intLit a = intLit b) : a = b := by unfold intLit at h; injection h
theorem intLit_key (a : Int) : WideAt.IsKeyLit (intLit a) := trivial
theorem law3 : Keyed Try.prog 3 := int_keyed Try.underlying3
def metV (kind order : List Int) (s : Int) : Int := if rd kind s ∈ order.map (rd kind) then ((order.map (rd kind)).idxOf (rd kind s) : Int) else order.length
def metO (kind order : List Int) (s : Int) : List Int := if rd kind s ∈ order.map (rd kind) then order else order ++ [s]

set_option maxRecDepth 100000 in
set_option maxHeartbeats 8000000 in
theorem met_calls (base : Nat) (w0 : World) (kind order : List Int) (gg n NB KB OB MB s : Nat) (vO : Value) (W : World) (hs : s < n) (hn : n ≤ 5000) (hol : order.length ≤ n)
  (hNB : W.heap[NB]? = some (.cells #[.map (some MB)] 44 (0, 0))) (hKB : W.heap[KB]? = some (.cells #[.slice (some ⟨gg, 0, none⟩) n n] 33 (0, 0))) (hOB : W.heap[OB]? = some (.cells #[vO] 33 (0, 0)))
  (hK : Kd.R (Kd.int .i64) 3 W base (fun _ => True) (.slice (some ⟨gg, 0, none⟩) n n) kind) (hO : Kd.R (Kd.int .i64) 3 W base (fun _ => True) vO order) (hM : NumMap intLit Try.prog 3 3 W MB (order.map (rd kind))) (hwf : ∀ x : Int, (Lit.int .i64 (rd kind x)).wf = true)
  (hap : some gg ≠ vO.ownBlock) (hB : Below base w0 W) (hb : base ≤ W.heap.size) (hMB : base ≤ MB) (hOBb : base ≤ OB) :
  Calls Try.prog 22 #[.int .i64 s, .pointer (some ⟨NB, 0, none⟩), .pointer (some ⟨KB, 0, none⟩), .pointer (some ⟨OB, 0, none⟩)] W fun e w' => e = .returned (.int .i64 (metV kind order s)) ∧ ∃ vO', w'.heap[OB]? = some (.cells #[vO'] 33 (0, 0)) ∧ Kd.R (Kd.int .i64) 3 w' base (fun _ => True) vO' (metO kind order s) ∧
   NumMap intLit Try.prog 3 3 w' MB ((metO kind order s).map (rd kind)) ∧ Kept W w' (fun k => k = MB ∨ k = OB ∨ some k = vO.ownBlock) ∧ Below base w0 w' ∧ (vO'.ownBlock = vO.ownBlock ∨ ∃ b, vO'.ownBlock = some b ∧ W.heap.size ≤ b) := by
 obtain ⟨hkc, hkf⟩ := R_cellg hK s hs
 obtain ⟨W1, hW1⟩ : ∃ W1, W.drew = W1 := ⟨_, rfl⟩
 have HH := Aside0.mk (show W1.heap[NB]? = some (.cells #[.map (some MB)] 44 (0, 0)) ∧ W1.heap[KB]? = some (.cells #[.slice (some ⟨gg, 0, none⟩) n n] 33 (0, 0)) ∧ W1.cell? ⟨gg, s, none⟩ = some (.int .i64 (rd kind s)) by rw [← hW1]; exact ⟨hNB, hKB, hkc⟩)
 obtain ⟨D, hD1, hD2, hD3, hD4⟩ := hM
 have hlook : ∃ c : Int, (Instr.lookup 44 (.map (some MB)) (.int .i64 (rd kind s)) true).run Try.prog W1 = .ok (.tuple #[.int .i64 c, .bool (Maps.has D (intLit (rd kind s)))]) W1 ∧ D.atKey (intLit (rd kind s)) (.lit (.int .i64 0)) = .lit (.int .i64 c) := by
  obtain ⟨v, ps, hrun, hv⟩ := (show W1.ownsMap Try.prog 3 (plainElem Try.prog 3) MB _ D by rw [← hW1]; exact hD1.drew).look_ok law3 Try.underlying44 (zero3 W1) (plainElem_int Try.underlying3 (by decide)) (keyOf_int_mk Try.underlying3 (hwf s))
  obtain ⟨c, rfl, hc, _⟩ := plainElem_int_inv Try.underlying3 hv
  exact ⟨c, hrun, congrArg Prod.fst hc⟩
 obtain ⟨c, hrun, hat⟩ := hlook
 have HAT := Aside0.mk hat
 obtain ⟨bq, hbq⟩ : ∃ x, Maps.has D (intLit (rd kind s)) = x := ⟨_, rfl⟩
 rw [hbq] at hrun
 clear hat
 go_enter Try.func22, Try.ntmps22
 go_upto_region 1 with fail
 refine wp_region_noPanic ?_
 rw [← hW1] at *
 refine start_ (n := 11) (S := fun w' => w'.cell? ⟨NB, 0, none⟩ = some (.map (some MB)) ∧ w'.cell? ⟨KB, 0, none⟩ = some (.slice (some ⟨gg, 0, none⟩) n n) ∧ w'.cell? ⟨gg, s, none⟩ = some (.int .i64 (rd kind s))) (ds := []) #[false, false, false, false, false, false, false, false, false, false, false] (by kernel_rfl) rfl rfl ⟨(blk_cell HH.out.1 0).trans rfl, (blk_cell HH.out.2.1 0).trans rfl, HH.out.2.2⟩ (fun hHeld => ?_); refine with_tabW met_tab1 met_bits1 (fun HT_ HW_ => ?_)
 refine take_ (i := 0) (N := some 9) (v := ?_) (a' := ?_) #[true, false, false, false, false, false, false, false, false, false, false] rfl rfl (take_ofW HT_.out HW_.out (by kernel_rfl)) (fun _ _ _ h => h) (Or.inl ⟨by rfl, ?_⟩) hHeld ?_ ?_
 rotate_left
 ·rintro w' ⟨s0, s1, s2⟩
  go_simp
  with_reducible rfl
 rotate_left
 ·simp only [Act.put, List.setIfInBounds_toArray, List.set_cons_zero, List.set_cons_succ, i64_w, i32_w]
  rfl
 refine take_ (i := 1) (N := some 10) (v := ?_) (a' := ?_) #[true, true, false, false, false, false, false, false, false, false, false] rfl rfl (take_ofW HT_.out HW_.out (by kernel_rfl)) (fun _ _ _ h => h) (Or.inl ⟨by rfl, ?_⟩) hHeld ?_ ?_
 rotate_left
 ·rintro w' ⟨s0, s1, s2⟩
  go_simp
  with_reducible rfl
 rotate_left
 ·simp only [Act.put, List.setIfInBounds_toArray, List.set_cons_zero, List.set_cons_succ, i64_w, i32_w]
  rfl
 refine pure_ (i := 2) (N := some 11) (v := ?_) (a' := ?_) #[true, true, true, false, false, false, false, false, false, false, false] rfl rfl (any_of HT_.out (by kernel_rfl)) (fun _ _ _ h => h) (Or.inl ⟨by rfl, ?_⟩) ?_ ?_
 rotate_left
 ·intro w'
  go_simp
  with_reducible rfl
 rotate_left
 ·simp only [Act.put, List.setIfInBounds_toArray, List.set_cons_zero, List.set_cons_succ, i64_w, i32_w]
  rfl
 refine pure_ (i := 3) (N := some 12) (v := ?_) (a' := ?_) #[true, true, true, true, false, false, false, false, false, false, false] rfl rfl (any_of HT_.out (by kernel_rfl)) (fun _ _ _ h => h) (Or.inl ⟨by rfl, ?_⟩) ?_ ?_
 rotate_left
 ·intro w'
  go_simp
  with_reducible rfl
 rotate_left
 ·simp only [Act.put, List.setIfInBounds_toArray, List.set_cons_zero, List.set_cons_succ, i64_w, i32_w]
  rfl
 refine take_ (i := 4) (N := some 13) (v := ?_) (a' := ?_) #[true, true, true, true, true, false, false, false, false, false, false] rfl rfl (take_ofW HT_.out HW_.out (by kernel_rfl)) (fun _ _ _ h => h) (Or.inl ⟨by rfl, ?_⟩) hHeld ?_ ?_
 rotate_left
 ·rintro w' ⟨s0, s1, s2⟩
  go_simp
  with_reducible rfl
 rotate_left
 ·simp only [Act.put, List.setIfInBounds_toArray, List.set_cons_zero, List.set_cons_succ, i64_w, i32_w]
  rfl
 refine one_ (i := 5) (N := some 14) #[true, true, true, true, true, true, false, false, false, false, false] rfl rfl (one_of HT_.out (by kernel_rfl)) (by decide) (fun K hK => ?_)
 refine step_list rfl (by rfl) ?_
 unfold Oper.wp
 go_simp
 refine hK.out _ _ ⟨(blk_cell HH.out.1 0).trans rfl, (blk_cell HH.out.2.1 0).trans rfl, HH.out.2.2⟩ (fun hHeld => ?_)
 clear hK K
 refine pure_ (i := 6) (N := some 8) (v := ?_) (a' := ?_) #[true, true, true, true, true, true, true, false, false, false, false] rfl rfl (any_of HT_.out (by kernel_rfl)) (fun _ _ _ h => h) (Or.inl ⟨by rfl, ?_⟩) ?_ ?_
 rotate_left
 ·intro w'
  go_simp
  with_reducible rfl
 rotate_left
 ·simp only [Act.put, List.setIfInBounds_toArray, List.set_cons_zero, List.set_cons_succ, i64_w, i32_w]
  rfl
 refine pure_ (i := 7) (N := some 15) (v := ?_) (a' := ?_) #[true, true, true, true, true, true, true, true, false, false, false] rfl rfl (any_of HT_.out (by kernel_rfl)) (fun _ _ _ h => h) (Or.inl ⟨by rfl, ?_⟩) ?_ ?_
 rotate_left
 ·intro w'
  go_simp
  with_reducible rfl
 rotate_left
 ·simp only [Act.put, List.setIfInBounds_toArray, List.set_cons_zero, List.set_cons_succ, i64_w, i32_w]
  rfl
 refine pure_ (i := 8) (N := some 16) (v := ?_) (a' := ?_) #[true, true, true, true, true, true, true, true, true, false, false] rfl rfl (any_of HT_.out (by kernel_rfl)) (fun _ _ _ h => h) (Or.inl ⟨by rfl, ?_⟩) ?_ ?_
 rotate_left
 ·intro w'
  go_simp
  with_reducible rfl
 rotate_left
 ·simp only [Act.put, List.setIfInBounds_toArray, List.set_cons_zero, List.set_cons_succ, i64_w, i32_w]
  rfl
 refine pure_ (i := 9) (N := some 6) (v := ?_) (a' := ?_) #[true, true, true, true, true, true, true, true, true, true, false] rfl rfl (any_of HT_.out (by kernel_rfl)) (fun _ _ _ h => h) (Or.inl ⟨by rfl, ?_⟩) ?_ ?_
 rotate_left
 ·intro w'
  go_simp
  with_reducible rfl
 rotate_left
 ·simp only [Act.put, List.setIfInBounds_toArray, List.set_cons_zero, List.set_cons_succ, i64_w, i32_w]
  rfl
 refine pure_ (i := 10) (N := some 7) (v := ?_) (a' := ?_) #[true, true, true, true, true, true, true, true, true, true, true] rfl rfl (any_of HT_.out (by kernel_rfl)) (fun _ _ _ h => h) (Or.inl ⟨by rfl, ?_⟩) ?_ ?_
 rotate_left
 ·intro w'
  go_simp
  with_reducible rfl
 rotate_left
 ·simp only [Act.put, List.setIfInBounds_toArray, List.set_cons_zero, List.set_cons_succ, i64_w, i32_w]
  rfl
 refine done_ (done_of HT_.out (by kernel_rfl)) ?_
 refine NoPanic.normal ?_
 have hkept : Kept W W.drew (fun k => k = MB ∨ k = OB ∨ some k = vO.ownBlock) := ⟨Nat.le_refl _, fun _ _ _ => rfl⟩
 have hNB2 := blk_drew hNB
 have hKB2 := blk_drew hKB
 have hOB2 := blk_drew hOB
 have hK2 := Kd.R_drew hK
 have hO2 := Kd.R_drew hO
 have hD12 := hD1.drew
 have hB2 := below_drew1 hB
 have hb2 : base ≤ W.drew.heap.size := hb
 have hsz2 : W.heap.size = W.drew.heap.size := rfl
 clear hNB hKB hOB hK hO hD1 hB hb hrun HH hkc hkf hHeld
 obtain ⟨W2, hW2⟩ : ∃ W2, W.drew = W2 := ⟨_, rfl⟩
 rw [hW2] at hkept hNB2 hKB2 hOB2 hK2 hO2 hD12 hB2 hb2 hsz2 ⊢
 clear hW1 hW2
 have HF := Aside0.mk (And.intro hNB2 (And.intro hKB2 (And.intro hOB2 (And.intro hK2 (And.intro hO2 (And.intro hD12 (And.intro hB2 (And.intro hkept hsz2))))))))
 have HD3 := Aside0.mk hD3
 have HD2 := Aside0.mk hD2
 have HD4 := Aside0.mk hD4
 have HBQ := Aside0.mk hbq
 have HAP := Aside0.mk hap
 have HWF := Aside0.mk hwf
 have hlen := hol
 clear hNB2 hKB2 hOB2 hK2 hO2 hD12 hB2 hkept hD3 hD2 hD4 hbq hsz2 hap hwf
 cases bq with
 | true =>
  go_wp2_with fail
  go_ret
  obtain ⟨f1, f2, f3, f4, f5, f6, f7, f8, f9⟩ := HF.out
  have hin := (HD2.out (rd kind s)).1 HBQ.out
  have hO' : metO kind order s = order := by unfold metO; rw [if_pos hin]
  have hV' : metV kind order s = c := by
   unfold metV
   rw [if_pos hin]
   have h1 := HD3.out ((order.map (rd kind)).idxOf (rd kind s)) (rd kind s) (by rw [List.getElem?_eq_getElem (List.idxOf_lt_length_of_mem hin)]; simp)
   have h2 := h1.symm.trans HAT.out
   injection h2 with h2
   injection h2 with _ h2
  rw [hO', hV']
  exact ⟨rfl, vO, f3, f5, ⟨D, f6, HD2.out, HD3.out, HD4.out⟩, f8, f7, .inl rfl⟩
 | false =>
  obtain ⟨AO, cO, rfl⟩ := Kd.R_slice HF.out.2.2.2.2.1
  have o0 := (blk_cell HF.out.2.2.1 0).trans rfl
  go_upto_region 4 with fail
  obtain ⟨iR, hiR, hzR, hsR, hbR⟩ := info_parts info3
  have hnin : rd kind s ∉ order.map (rd kind) := fun h => by have := (HD2.out (rd kind s)).2 h; rw [HBQ.out] at this; cases this
  have HNIN := Aside0.mk hnin
  have HNO := Aside0.mk HBQ.out
  obtain ⟨f1, f2, f3, f4, f5, f6, f7, f8, f9⟩ := HF.out
  have G3 := Aside0.mk (And.intro (blk_drew f1) (And.intro (blk_drew f2) (And.intro (blk_drew f3) (And.intro (Kd.R_drew f4) (And.intro (Kd.R_drew f5) (And.intro f6.drew (below_drew1 f7)))))))
  have HK3 := Aside0.mk (show Kept W W2.drew (fun k => k = MB ∨ k = OB ∨ some k = (Value.slice AO order.length cO).ownBlock) from ⟨by have := f8.1; exact this, fun i hi hn => f8.2 i hi hn⟩)
  have hb3 : base ≤ W2.drew.heap.size := hb2
  have HS3 := Aside0.mk (show W.heap.size = W2.drew.heap.size from f9)
  clear f1 f2 f3 f4 f5 f6 f7 f8 f9 HF o0 hnin hb2
  refine wp_region_noPanic ?_
  obtain ⟨W3, hW3⟩ : ∃ W3, W2.drew = W3 := ⟨_, rfl⟩
  rw [hW3] at G3 HK3 hb3 HS3
  have H3 := Aside0.mk (And.intro G3.out.1 (And.intro G3.out.2.1 (And.intro (R_cellg G3.out.2.2.2.1 s hs).1 G3.out.2.2.1)))
  refine start_ (n := 14) (S := fun w' => w'.cell? ⟨NB, 0, none⟩ = some (.map (some MB)) ∧ w'.cell? ⟨KB, 0, none⟩ = some (.slice (some ⟨gg, 0, none⟩) n n) ∧ w'.cell? ⟨gg, s, none⟩ = some (.int .i64 (rd kind s)) ∧ w'.cell? ⟨OB, 0, none⟩ = some (.slice AO order.length cO)) (ds := [13]) #[false, false, false, false, false, false, false, false, false, false, false, false, false, false] (by kernel_rfl) rfl rfl (by rw [hW3]; exact ⟨(blk_cell H3.out.1 0).trans rfl, (blk_cell H3.out.2.1 0).trans rfl, H3.out.2.2.1, (blk_cell H3.out.2.2.2 0).trans rfl⟩) (fun hHeld => ?_); refine with_tabW met_tab4 met_bits4 (fun HT_ HW_ => ?_)
  rw [hW3] at hHeld ⊢
  clear hW3
  refine take_ (i := 0) (N := some 21) (v := ?_) (a' := ?_) #[true, false, false, false, false, false, false, false, false, false, false, false, false, false] rfl rfl (take_ofW HT_.out HW_.out (by kernel_rfl)) (fun _ _ _ h => h) (Or.inl ⟨by rfl, ?_⟩) hHeld ?_ ?_
  rotate_left
  ·rintro w' ⟨s0, s1, s2, s3⟩
   go_simp
   with_reducible rfl
  rotate_left
  ·simp only [Act.put, List.setIfInBounds_toArray, List.set_cons_zero, List.set_cons_succ, i64_w, i32_w]
   rfl
  refine take_ (i := 1) (N := some 22) (v := ?_) (a' := ?_) #[true, true, false, false, false, false, false, false, false, false, false, false, false, false] rfl rfl (take_ofW HT_.out HW_.out (by kernel_rfl)) (fun _ _ _ h => h) (Or.inl ⟨by rfl, ?_⟩) hHeld ?_ ?_
  rotate_left
  ·rintro w' ⟨s0, s1, s2, s3⟩
   go_simp
   with_reducible rfl
  rotate_left
  ·simp only [Act.put, List.setIfInBounds_toArray, List.set_cons_zero, List.set_cons_succ, i64_w, i32_w]
   rfl
  refine pure_ (i := 2) (N := some 23) (v := ?_) (a' := ?_) #[true, true, true, false, false, false, false, false, false, false, false, false, false, false] rfl rfl (any_of HT_.out (by kernel_rfl)) (fun _ _ _ h => h) (Or.inl ⟨by rfl, ?_⟩) ?_ ?_
  rotate_left
  ·intro w'
   go_simp
   with_reducible rfl
  rotate_left
  ·simp only [Act.put, List.setIfInBounds_toArray, List.set_cons_zero, List.set_cons_succ, i64_w, i32_w]
   rfl
  refine pure_ (i := 3) (N := some 24) (v := ?_) (a' := ?_) #[true, true, true, true, false, false, false, false, false, false, false, false, false, false] rfl rfl (any_of HT_.out (by kernel_rfl)) (fun _ _ _ h => h) (Or.inl ⟨by rfl, ?_⟩) ?_ ?_
  rotate_left
  ·intro w'
   go_simp
   with_reducible rfl
  rotate_left
  ·simp only [Act.put, List.setIfInBounds_toArray, List.set_cons_zero, List.set_cons_succ, i64_w, i32_w]
   rfl
  refine take_ (i := 4) (N := some 25) (v := ?_) (a' := ?_) #[true, true, true, true, true, false, false, false, false, false, false, false, false, false] rfl rfl (take_ofW HT_.out HW_.out (by kernel_rfl)) (fun _ _ _ h => h) (Or.inl ⟨by rfl, ?_⟩) hHeld ?_ ?_
  rotate_left
  ·rintro w' ⟨s0, s1, s2, s3⟩
   go_simp
   with_reducible rfl
  rotate_left
  ·simp only [Act.put, List.setIfInBounds_toArray, List.set_cons_zero, List.set_cons_succ, i64_w, i32_w]
   rfl
  refine pure_ (i := 5) (N := some 26) (v := ?_) (a' := ?_) #[true, true, true, true, true, true, false, false, false, false, false, false, false, false] rfl rfl (any_of HT_.out (by kernel_rfl)) (fun _ _ _ h => h) (Or.inl ⟨by rfl, ?_⟩) ?_ ?_
  rotate_left
  ·intro w'
   go_simp
   with_reducible rfl
  rotate_left
  ·simp only [Act.put, List.setIfInBounds_toArray, List.set_cons_zero, List.set_cons_succ, i64_w, i32_w]
   rfl
  refine take_ (i := 6) (N := some 27) (v := ?_) (a' := ?_) #[true, true, true, true, true, true, true, false, false, false, false, false, false, false] rfl rfl (take_ofW HT_.out HW_.out (by kernel_rfl)) (fun _ _ _ h => h) (Or.inl ⟨by rfl, ?_⟩) hHeld ?_ ?_
  rotate_left
  ·rintro w' ⟨s0, s1, s2, s3⟩
   go_simp
   with_reducible rfl
  rotate_left
  ·simp only [Act.put, List.setIfInBounds_toArray, List.set_cons_zero, List.set_cons_succ, i64_w, i32_w]
   rfl
  refine pure_ (i := 7) (N := some 28) (v := ?_) (a' := ?_) #[true, true, true, true, true, true, true, true, false, false, false, false, false, false] rfl rfl (any_of HT_.out (by kernel_rfl)) (fun _ _ _ h => h) (Or.inl ⟨by rfl, ?_⟩) ?_ ?_
  rotate_left
  ·intro w'
   go_simp
   with_reducible rfl
  rotate_left
  ·simp only [Act.put, List.setIfInBounds_toArray, List.set_cons_zero, List.set_cons_succ, i64_w, i32_w]
   rfl
  refine one_ (i := 8) (N := some 29) #[true, true, true, true, true, true, true, true, true, false, false, false, false, false] rfl rfl (one_of HT_.out (by kernel_rfl)) (by decide) (fun K hK => ?_)
  refine step_list rfl (by rfl) ?_
  unfold Oper.wp
  go_simp
  have G4 := Aside0.mk (And.intro (blk_alloc G3.out.1 (.cells #[Value.int .i64 (s : Int)] 3)) (And.intro (blk_alloc G3.out.2.1 (.cells #[Value.int .i64 (s : Int)] 3)) (And.intro (blk_alloc G3.out.2.2.1 (.cells #[Value.int .i64 (s : Int)] 3)) (And.intro (Kd.R_alloc G3.out.2.2.2.1 (.cells #[Value.int .i64 (s : Int)] 3)) (And.intro (Kd.R_alloc G3.out.2.2.2.2.1 (.cells #[Value.int .i64 (s : Int)] 3)) (And.intro (G3.out.2.2.2.2.2.1.alloc (.cells #[Value.int .i64 (s : Int)] 3)) (G3.out.2.2.2.2.2.2.alloc hb3 (.cells #[Value.int .i64 (s : Int)] 3))))))))
  have H4 := Aside0.mk (And.intro G4.out.1 (And.intro G4.out.2.1 (And.intro (R_cellg G4.out.2.2.2.1 s hs).1 G4.out.2.2.1)))
  have X4 := Aside0.mk (blk_new W3 (.cells #[Value.int .i64 (s : Int)] 3))
  have K4 := Aside0.mk (kept_alloc HK3.out (.cells #[Value.int .i64 (s : Int)] 3))
  refine hK.out _ _ ⟨(blk_cell H4.out.1 0).trans rfl, (blk_cell H4.out.2.1 0).trans rfl, H4.out.2.2.1, (blk_cell H4.out.2.2.2 0).trans rfl⟩ (fun hHeld => ?_)
  clear hK K
  refine one_ (i := 9) (N := some 30) #[true, true, true, true, true, true, true, true, true, true, false, false, false, false] rfl rfl (one_of HT_.out (by kernel_rfl)) (by decide) (fun K hK => ?_)
  refine R_app_step (Kd.int .i64) base (by rfl) (.tmp 27) (.tmp 29) 33 3 iR (.int .i64 0) 8 rfl Try.underlying33 hiR hzR hsR hbR rfl (by decide) _ order s [.int .i64 (s : Int)] (fun _ => True) (fun _ => False) rfl ⟨W3.heap.size, 0, none⟩ rfl (cell_one X4.out) rfl (fun k hk => hk.elim) (fun _ _ => trivial) G4.out.2.2.2.2.1 (by have := G4.out.2.2.2.2.2.2.size; simp; omega) (by unfold maxLen; omega) (by omega) ?_
  intro vO2 W5 hR5 hg5 hat5
  obtain ⟨AO2, cO2, eO2⟩ := Kd.R_slice hR5
  obtain ⟨nO, hnO⟩ : ∃ m, (order ++ [(s : Int)]).length = m := ⟨_, rfl⟩
  rw [hnO] at eO2
  subst eO2
  clear hnO
  have G5 := Aside0.mk (And.intro (blk_grown G4.out.1 hg5 (Kd.R_ne G4.out.2.2.2.2.1 G4.out.1 (by decide))) (And.intro (blk_grown G4.out.2.1 hg5 (Kd.R_ne G4.out.2.2.2.2.1 G4.out.2.1 (by decide))) (And.intro (blk_grown G4.out.2.2.1 hg5 (Kd.R_ne G4.out.2.2.2.2.1 G4.out.2.2.1 (by decide))) (And.intro (Kd.R_of_own ((Kd.own_of_R G4.out.2.2.2.1).kept hg5 (.inr HAP.out)) (fun _ _ => trivial) : Kd.R (Kd.int .i64) 3 W5 base (fun _ => True) (.slice (some ⟨gg, 0, none⟩) n n) kind) (And.intro hR5 (And.intro (G4.out.2.2.2.2.2.1.kept hg5 (own_map_ne G4.out.2.2.2.2.1 G4.out.2.2.2.2.2.1)) (G4.out.2.2.2.2.2.2.grown hg5 (by have := G4.out.2.2.2.2.2.2.size; simp; omega) (fun k e => Kd.R_base G4.out.2.2.2.2.1 k e))))))))
  have H5 := Aside0.mk (And.intro G5.out.1 (And.intro G5.out.2.1 (And.intro (R_cellg G5.out.2.2.2.1 s hs).1 G5.out.2.2.1)))
  have K5 := Aside0.mk (kept_grown K4.out hg5 (fun k e => .inr (.inr e.symm)))
  have HAT5 := Aside0.mk hat5
  clear hR5 hg5 hat5
  refine hK.out _ _ ⟨(blk_cell H5.out.1 0).trans rfl, (blk_cell H5.out.2.1 0).trans rfl, H5.out.2.2.1, (blk_cell H5.out.2.2.2 0).trans rfl⟩ (fun hHeld => ?_)
  clear hK K
  refine norm_ (a' := ?_) ?_ ?_
  rotate_left
  ·show Act.put _ (some 30) _ = _
   simp only [Act.put, List.setIfInBounds_toArray, List.set_cons_zero, List.set_cons_succ, i64_w, i32_w]
   rfl
  refine one_ (i := 10) (N := some 31) #[true, true, true, true, true, true, true, true, true, true, true, false, false, false] rfl rfl (one_of HT_.out (by kernel_rfl)) (by decide) (fun K hK => ?_)
  obtain ⟨st, W6, hrun6, hg6, hst6⟩ := entry_new G5.out.2.2.2.2.2.1 law3 Try.underlying44 (by rw [List.length_map]; unfold maxLen; omega) (zero3 W5) (keyOf_int_mk Try.underlying3 (HWF.out s)) HNO.out
  have HST6 := Aside0.mk hst6
  clear hst6
  refine step_list rfl (by rfl) ?_
  unfold Oper.wp
  go_simp
  have n1 := map_ne G5.out.2.2.2.2.2.1 G5.out.1
  have n2 := map_ne G5.out.2.2.2.2.2.1 G5.out.2.1
  have n3 := map_ne G5.out.2.2.2.2.2.1 G5.out.2.2.1
  have n4 : gg ≠ MB := by obtain ⟨cs, hcs⟩ := Kd.R_typed G5.out.2.2.2.1 gg rfl; exact map_ne G5.out.2.2.2.2.2.1 hcs
  have H6 := Aside0.mk (And.intro (blk_grown G5.out.1 hg6 (fun e => n1 (by injection e))) (And.intro (blk_grown G5.out.2.1 hg6 (fun e => n2 (by injection e))) (And.intro (R_cellg (R_keepn G5.out.2.2.2.1 hg6 n4) s hs).1 (blk_grown G5.out.2.2.1 hg6 (fun e => n3 (by injection e))))))
  refine hK.out _ _ ⟨(blk_cell H6.out.1 0).trans rfl, (blk_cell H6.out.2.1 0).trans rfl, H6.out.2.2.1, (blk_cell H6.out.2.2.2 0).trans rfl⟩ (fun hHeld => ?_)
  clear hK K
  refine pure_ (i := 11) (N := some 32) (v := ?_) (a' := ?_) #[true, true, true, true, true, true, true, true, true, true, true, true, false, false] rfl rfl (any_of HT_.out (by kernel_rfl)) (fun _ _ _ h => h) (Or.inl ⟨by rfl, ?_⟩) ?_ ?_
  rotate_left
  ·intro w'
   go_simp
   with_reducible rfl
  rotate_left
  ·simp only [Act.put, List.setIfInBounds_toArray, List.set_cons_zero, List.set_cons_succ, i64_w, i32_w]
   rfl
  refine one_ (i := 12) (N := none) #[true, true, true, true, true, true, true, true, true, true, true, true, true, false] rfl rfl (one_of HT_.out (by kernel_rfl)) (by decide) (fun K hK => ?_)
  obtain ⟨W7, hrun7, hown7, hg7⟩ := HST6.out (.int .i64 order.length) _ [] (plainElem_int Try.underlying3 (WalkArith.wf_i64 (by omega)))
  refine step_list rfl (by rfl) ?_
  unfold Oper.wp
  go_simp
  have H7 := Aside0.mk (And.intro (blk_grown G5.out.1 hg7 (fun e => n1 (by injection e))) (And.intro (blk_grown G5.out.2.1 hg7 (fun e => n2 (by injection e))) (And.intro (R_cellg (R_keepn G5.out.2.2.2.1 hg7 n4) s hs).1 (blk_grown G5.out.2.2.1 hg7 (fun e => n3 (by injection e))))))
  refine hK.out _ _ ⟨(blk_cell H7.out.1 0).trans rfl, (blk_cell H7.out.2.1 0).trans rfl, H7.out.2.2.1, (blk_cell H7.out.2.2.2 0).trans rfl⟩ (fun hHeld => ?_)
  clear hK K
  refine last_ (i := 13) (N := none) #[true, true, true, true, true, true, true, true, true, true, true, true, true, true] rfl rfl (one_of HT_.out (by kernel_rfl)) (by decide) (fun K hK => ?_)
  refine step_list rfl (by rfl) ?_
  have z1 := (blk_cell H7.out.2.2.2 0).trans rfl
  have z2 := blk_frozen H7.out.2.2.2 0
  unfold Oper.wp
  go_simp
  refine hK.out _ _ ?_
  clear hK K
  refine done_ (done_of HT_.out (by kernel_rfl)) ?_
  refine NoPanic.normal ?_
  go_wp2_with fail
  go_ret
  have hO' : metO kind order s = order ++ [(s : Int)] := by unfold metO; rw [if_neg HNIN.out]
  have hV' : metV kind order s = order.length := by unfold metV; rw [if_neg HNIN.out]
  rw [hO', hV']
  obtain ⟨e1, e2, e3, e4, e5, e6, e7⟩ := G5.out
  have hm5 := own_map_ne e5 e6
  have r7 := (Kd.own_of_R e5).kept hg7 (.inr (fun e => hm5 e.symm))
  have r7R : Kd.R (Kd.int .i64) 3 W7 base (fun _ => True) (.slice AO2 nO cO2) (order ++ [(s : Int)]) := Kd.R_of_own r7 (fun _ _ => trivial)
  have hOB7 := Kd.R_ne r7R H7.out.2.2.2 (by decide)
  have r8 := r7.kept (grownBy_set W7 OB 0 (.slice AO2 nO cO2)) (.inr (fun e => hOB7 e.symm))
  have hnm : NumMap intLit Try.prog 3 3 W7 MB (order.map (rd kind) ++ [rd kind s]) := NumMap.snoc law3 intLit_inj intLit_key HNIN.out e6 HD2.out HD3.out HD4.out (by have h := hown7; rw [List.length_map] at h ⊢; exact h)
  refine ⟨rfl, _, blk_put H7.out.2.2.2 0 _ rfl, Kd.R_of_own r8 (fun _ _ => trivial), ?_, kept_grown (kept_grown K5.out hg7 (fun k e => .inl (by injection e with e; exact e.symm))) (grownBy_set W7 OB 0 (.slice AO2 nO cO2)) (fun k e => .inr (.inl (by injection e with e; exact e.symm))), (e7.grown hg7 (by have := K5.out.1; have := HS3.out; omega) (fun k e => by injection e with e; omega)).setCell (p := ⟨OB, 0, none⟩) hOBb _, ?_⟩
  ·rw [List.map_append]
   exact hnm.kept (grownBy_set W7 OB 0 (.slice AO2 nO cO2)) (fun e => n3 (by injection e with e; exact e.symm))
  ·rcases HAT5.out with h | ⟨k, h, h2⟩
   ·exact .inl h
   ·exact .inr ⟨k, h, by have := HS3.out; simp at h2; omega⟩
end Go.Proofs.Ytadhjjfodpmelaa.Print
