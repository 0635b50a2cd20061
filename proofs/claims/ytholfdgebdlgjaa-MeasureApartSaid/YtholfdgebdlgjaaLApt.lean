/- The law MeasureApart: Apart the other way round, by way of a third measure, and within what Measure leaves. No conditions. -/
import Derived.Test.YtholfdgebdlgjaaNLo
import Derived.Test.YtholfdgebdlgjaaCmp
import Derived.Deep.CutRange
namespace Go.Proofs.Ytholfdgebdlgjaa
open Go.RowKit
set_option linter.unusedVariables false
set_option linter.unusedSimpArgs false
section
variable {P : Program} {ρ : Operand → Value} {o : Oper} {w : World}
theorem R_quoP {x y : Operand} {t t' : TypeId} {n m : Int} (ho : o.op = .binOp .quo t x y t') (hx : ρ x = .int .i64 n) (hy : ρ y = .int .i64 m) (h0 : 0 ≤ n) (h1 : n ≤ 9223372036854775807) (hm : 0 < m) : (execOp ρ o).run P w = .ok (.value (.int .i64 (n / m))) w := by
  have hne : m ≠ 0 := by omega
  have hd : n.tdiv m = n / m := Int.tdiv_eq_ediv_of_nonneg h0
  have hw := wrap_id (n := n / m) (by have := Int.ediv_nonneg h0 (Int.le_of_lt hm); omega) (by have := Int.ediv_le_self m h0; omega)
  unfold execOp
  simp [ho, hx, hy, binOp, Op.intDiv, eqGuard, hne, hd, hw, go_sem]
theorem R_remP {x y : Operand} {t t' : TypeId} {n m : Int} (ho : o.op = .binOp .rem t x y t') (hx : ρ x = .int .i64 n) (hy : ρ y = .int .i64 m) (h0 : 0 ≤ n) (hm : 0 < m) : (execOp ρ o).run P w = .ok (.value (.int .i64 (n % m))) w := by
  rw [R_rem ho hx hy (by omega), Int.tmod_eq_emod_of_nonneg h0]
end
/-- The node of the measure number x. -/
def ndI (A : Int) (x : Nat) : Nat := nodeC ((x : Int) / A) ((x : Int) % A)
theorem nd_in {S A : Int} {N x : Nat} (hN : (N : Int) = S * A) (hA : 0 < A) (hx : x < N) : 0 ≤ (x : Int) / A ∧ (x : Int) / A < S ∧ 0 ≤ (x : Int) % A ∧ (x : Int) % A < A :=
  ⟨Int.ediv_nonneg (by omega) (Int.le_of_lt hA), Int.ediv_lt_of_lt_mul hA (by omega), Int.emod_nonneg _ (by omega), Int.emod_lt_of_pos _ hA⟩
/-- The bounds of all pairs of measures, the first k of them. -/
def apL (f : Nat → Nat → Int × Int) (n k : Nat) : List (Int × Int) := (List.range k).map fun i => f (i / n) (i % n)
theorem apL_len (f : Nat → Nat → Int × Int) (n k : Nat) : (apL f n k).length = k := by simp [apL]
theorem apL_succ (f : Nat → Nat → Int × Int) (n k : Nat) : apL f n (k + 1) = apL f n k ++ [f (k / n) (k % n)] := by simp [apL, List.range_succ]
theorem apL_get (f : Nat → Nat → Int × Int) {n k x y : Nat} (hy : y < n) (h : x * n + y < k) : (apL f n k).getD (x * n + y) (0, 0) = f x y := by
  have h1 : (x * n + y) / n = x := by rw [Nat.mul_comm, Nat.mul_add_div (by omega), Nat.div_eq_of_lt hy, Nat.add_zero]
  have h2 : (x * n + y) % n = y := by rw [Nat.mul_comm, Nat.mul_add_mod, Nat.mod_eq_of_lt hy]
  simp [apL, List.getD, List.getElem?_map, List.getElem?_range h, h1, h2]
theorem apL_step (f : Nat → Nat → Int × Int) {n x y : Nat} (hy : y < n) : apL f n (x * n + y + 1) = apL f n (x * n + y) ++ [f x y] := by
  have h1 : (x * n + y) / n = x := by rw [Nat.mul_comm, Nat.mul_add_div (by omega), Nat.div_eq_of_lt hy, Nat.add_zero]
  have h2 : (x * n + y) % n = y := by rw [Nat.mul_comm, Nat.mul_add_mod, Nat.mod_eq_of_lt hy]
  rw [apL_succ, h1, h2]
/-- The bounds between two measures by their numbers. -/
def apF (t : Tp) (m : Nat → Nat → Int) (x y : Nat) : Int × Int := (-(m (ndI t.A x) (ndI t.A y)), m (ndI t.A y) (ndI t.A x))
theorem apart_facts {t : Tp} (h : t.Live) {N : Nat} (hN : t.S * t.A = N) : ∀ x y : Nat, x < N → y < N → 0 ≤ (x : Int) / t.A ∧ ∃ r1 r2 p1 p2 q1 q2 : Int,
    apartE t ((x : Int) / t.A) ((x : Int) % t.A) ((y : Int) / t.A) ((y : Int) % t.A) = 0 ∧ apartV t ((x : Int) / t.A) ((x : Int) % t.A) ((y : Int) / t.A) ((y : Int) % t.A) = (r1, r2) ∧
    measE t ((x : Int) / t.A) ((x : Int) % t.A) = 0 ∧ measV t ((x : Int) / t.A) ((x : Int) % t.A) = (p1, p2) ∧ measE t ((y : Int) / t.A) ((y : Int) % t.A) = 0 ∧ measV t ((y : Int) / t.A) ((y : Int) % t.A) = (q1, q2) ∧
    r1 ≤ r2 ∧ r2 ≤ p2 - q1 ∧ p1 - q2 ≤ r1 ∧ (x = y → r1 = 0 ∧ r2 = 0) ∧ -2000 ≤ r1 ∧ r2 ≤ 2000 ∧ -2000 ≤ p1 ∧ p2 ≤ 2000 ∧ -2000 ≤ q1 ∧ q2 ≤ 2000 ∧ p1 ≤ p2 ∧ q1 ≤ q2 ∧ apF t (bdV t 0) x y = (r1, r2) := by
  intro x y hx hy
  have hA := h.ok.A1
  obtain ⟨x1, x2, x3, x4⟩ := nd_in (S := t.S) (A := t.A) (N := N) hN.symm (by omega) hx
  obtain ⟨y1, y2, y3, y4⟩ := nd_in (S := t.S) (A := t.A) (N := N) hN.symm (by omega) hy
  obtain ⟨e1, v1⟩ := h.apart x1 x2 x3 x4 y1 y2 y3 y4
  obtain ⟨e2, v2⟩ := h.meas x1 x2 x3 x4
  obtain ⟨e3, v3⟩ := h.meas y1 y2 y3 y4
  have lx := live_cellI x1 x2 x3 x4
  have ly := live_cellI y1 y2 y3 y4
  have l0 := live_zero t
  have bx := live_lt h.ok lx
  have by' := live_lt h.ok ly
  have n1 := h.near lx ly
  have n2 := h.near ly lx
  have n3 := h.near l0 lx
  have n4 := h.near lx l0
  have n5 := h.near l0 ly
  have n6 := h.near ly l0
  have t1 := h.tri _ _ _ bx bx by'
  have t2 := h.tri _ _ 0 by' bx (by omega)
  have t3 := h.tri _ _ 0 bx by' (by omega)
  have t4 := h.tri 0 0 _ (by omega) (by omega) bx
  have t5 := h.tri 0 0 _ (by omega) (by omega) by'
  have d1 := h.diag _ bx
  have d0 := h.diag 0 (by omega)
  refine ⟨x1, _, _, _, _, _, _, e1, v1, e2, v2, e3, v3, by omega, by omega, by omega, fun e => ?_, by omega, by omega, by omega, by omega, by omega, by omega, by omega, by omega, rfl⟩
  subst e
  omega
theorem bt_cells {w : World} {base n vc : Nat} {va : Option Addr} {gs : List (Int × Int)} (oa : w.ownsRow base 23 2 (.slice va n vc) gs.length (flatG gs)) (h0 : 0 < gs.length) :
    ∃ b off, va = some ⟨b, off, none⟩ ∧ ∀ W : World, Ext [] w W → ∀ i, i < gs.length → W.rangeAt b (off + i * 2) [.int .i64 (gs.getD i (0, 0)).1, .int .i64 (gs.getD i (0, 0)).2] := by
  obtain ⟨b, off, ha, hb, hr⟩ := (rows_of_owns (row := grRow) oa (fun _ => rfl)).range rfl (by intro h; have := congrArg List.length h; simp at this; rw [this] at h0; simp at h0)
  refine ⟨b, off, ha, fun W E i hi j v hv => ?_⟩
  rw [E.cell (a := ⟨b, off + i * 2 + j, none⟩) hb (by simp)]
  exact hr i (grRow (gs.getD i (0, 0))) (by simp [hi]) j v hv
theorem apart_turn {t : Tp} (h : t.Live) {N : Nat} (hN : t.S * t.A = N) : ∀ x y : Nat, x < N → y < N → (apF t (bdV t 0) x y).1 = -(apF t (bdV t 0) y x).2 ∧ (apF t (bdV t 0) x y).2 = -(apF t (bdV t 0) y x).1 ∧ -2000 ≤ (apF t (bdV t 0) x y).1 ∧ (apF t (bdV t 0) x y).1 ≤ 2000 ∧ -2000 ≤ (apF t (bdV t 0) x y).2 ∧ (apF t (bdV t 0) x y).2 ≤ 2000 := by
  intro x y hx hy
  have hA := h.ok.A1
  obtain ⟨x1, x2, x3, x4⟩ := nd_in (S := t.S) (A := t.A) (N := N) hN.symm (by omega) hx
  obtain ⟨y1, y2, y3, y4⟩ := nd_in (S := t.S) (A := t.A) (N := N) hN.symm (by omega) hy
  have n1 := h.near (live_cellI x1 x2 x3 x4) (live_cellI y1 y2 y3 y4)
  have n2 := h.near (live_cellI y1 y2 y3 y4) (live_cellI x1 x2 x3 x4)
  refine ⟨?_, ?_, ?_, ?_, ?_, ?_⟩ <;> simp only [apF, ndI] <;> omega
theorem apart_third {t : Tp} (h : t.Live) {N : Nat} (hN : t.S * t.A = N) : ∀ x y z : Nat, x < N → y < N → z < N → (apF t (bdV t 0) x y).2 ≤ (apF t (bdV t 0) x z).2 + (apF t (bdV t 0) z y).2 ∧ (apF t (bdV t 0) x z).1 + (apF t (bdV t 0) z y).1 ≤ (apF t (bdV t 0) x y).1 := by
  intro x y z hx hy hz
  have hA := h.ok.A1
  obtain ⟨x1, x2, x3, x4⟩ := nd_in (S := t.S) (A := t.A) (N := N) hN.symm (by omega) hx
  obtain ⟨y1, y2, y3, y4⟩ := nd_in (S := t.S) (A := t.A) (N := N) hN.symm (by omega) hy
  obtain ⟨z1, z2, z3, z4⟩ := nd_in (S := t.S) (A := t.A) (N := N) hN.symm (by omega) hz
  have bx := live_lt h.ok (live_cellI x1 x2 x3 x4)
  have by' := live_lt h.ok (live_cellI y1 y2 y3 y4)
  have bz := live_lt h.ok (live_cellI z1 z2 z3 z4)
  have t1 := h.tri _ _ _ by' bx bz
  have t2 := h.tri _ _ _ bx by' bz
  unfold apF ndI
  simp only
  omega
set_option maxRecDepth 100000 in
set_option maxHeartbeats 4000000 in
theorem apart_walk (a0 : Option Addr) (len0 cap0 : Nat) (z0 : List Int) (w : World) (h0 : IsRow .i64 w a0 len0 cap0 z0) :
    Calls Try.prog 6 #[.slice a0 len0 cap0] w fun e w' => e = .returned (.bool true) ∧ Ext [] w w' := by
  have HN := Lib.hid (newLots_any w a0 len0 cap0 z0 h0)
  clear h0
  have E : Ext [] w w := Ext.refl _ _
  go_enter Try.func6, Try.ntmps6
  go_upto_region 0 with (fail)
  refine wp_region_lit ?_
  refine seq_val rfl rfl (R_assign (v := .bool _) rfl rfl) (by simp only [List.set_cons_succ, List.set_cons_zero]; exact rfl) ?_
  refine wpList_nil ?_
  go_upto_region 1 with (fail)
  refine wp_region_lit ?_
  refine seq_val rfl rfl (R_move (v := .slice _ _ _) rfl rfl) (by simp only [List.set_cons_succ, List.set_cons_zero]; exact rfl) ?_
  refine seq_call rfl rfl (by kernel_rfl) (HN.out) fun e w1 hR => ?_
  obtain ⟨b, rfl, hb, hb2, HL, e1⟩ := hR
  refine ⟨_, _, rfl, (by simp only [List.set_cons_succ, List.set_cons_zero]; exact rfl), ?_⟩
  replace E := ext_same E (e1)
  refine seq_val rfl rfl (R_assign (v := .pointer (some ⟨_, _, none⟩)) rfl rfl) (by simp only [List.set_cons_succ, List.set_cons_zero]; exact rfl) ?_
  refine wpList_nil ?_
  clear e1 HN
  go_upto_region 2 with (fail)
  refine wp_region_lit ?_
  refine seq_val rfl rfl (R_move (v := .pointer (some ⟨_, _, none⟩)) rfl rfl) (by simp only [List.set_cons_succ, List.set_cons_zero]; exact rfl) ?_
  refine seq_val rfl rfl (R_move (v := .pointer (some ⟨_, _, none⟩)) rfl rfl) (by simp only [List.set_cons_succ, List.set_cons_zero]; exact rfl) ?_
  refine seq_new rfl rfl (R_buildSlice rfl Try.underlying29 (size := 1) (by kernel_rfl) (by decide) (by decide) Try.zeroValue3 (cells := #[.int .i64 6, .int .i64 20, .int .i64 60]) (by kernel_rfl)) (by simp only [List.set_cons_succ, List.set_cons_zero]; exact rfl) fun w2 hw => ?_
  obtain ⟨n29, hn⟩ : ∃ n, n = w1.heap.size := ⟨_, rfl⟩
  rw [← hn]
  have l29 : w.heap.size ≤ n29 := by rw [hn]; exact E.size
  have b29_HL := Nat.lt_of_lt_of_eq (lots_lt HL) hn.symm
  replace HL := lots_alloc hw HL
  have q29 := new_block hw hn
  replace E := ext_alloc E hw
  clear hw hn
  refine seq_call rfl rfl (by kernel_rfl) (of_any w _ b _ _ n29 _ [6, 20, 60] HL (by omega) q29 (by omega) (by decide) (by decide)) fun e w3 hR => ?_
  obtain ⟨wd, rfl, hwd, HL, e2⟩ := hR
  refine ⟨_, _, rfl, (by simp only [List.set_cons_succ, List.set_cons_zero]; exact rfl), ?_⟩
  replace q29 := (e2).keep q29 (by simp; omega)
  replace E := E.trans' e2 (fun i hi hl => by simp only [List.mem_cons, List.not_mem_nil, or_false] at hi ⊢; omega)
  replace hwd : 0 ≤ wd ∧ wd ≤ 60 := by simp at hwd; omega
  refine seq_call rfl rfl (by kernel_rfl) (measuredOf_any w _ b _ _ 2 2 wd HL (by omega) (by omega) (by omega) (by omega) (by omega) (by omega) (by omega)) fun e w4 hR => ?_
  obtain ⟨t, ms, ps, vs, gv, rv, lv, mv, pv, rfl, hM, hS, hA, hbm, og, orr, olk, om, hms, op, HL, e3⟩ := hR
  refine ⟨_, _, rfl, (by simp only [List.set_cons_succ, List.set_cons_zero]; exact rfl), ?_⟩
  replace q29 := (e3).keep q29 (by simp; omega)
  replace E := E.trans' e3 (fun i hi hl => by simp only [List.mem_cons, List.not_mem_nil, or_false] at hi ⊢; omega)
  have E2 : Ext [] w4 w4 := Ext.refl _ _
  have hT := tp_of_owns og orr olk
  obtain ⟨ga, gc, rfl⟩ := owns_slice og
  obtain ⟨ra, rc, rfl⟩ := owns_slice orr
  obtain ⟨la, lc, rfl⟩ := owns_slice olk
  obtain ⟨ma, mc, rfl⟩ := owns_slice om
  obtain ⟨pa, pc, rfl⟩ := owns_slice op
  clear og orr olk om op hms
  unfold tpV
  refine seq_val rfl rfl (R_move (v := .tuple _) rfl rfl) (by simp only [List.set_cons_succ, List.set_cons_zero]; exact rfl) ?_
  refine seq_val rfl rfl (R_extract rfl rfl (get0)) (by simp only [List.set_cons_succ, List.set_cons_zero]; exact rfl) ?_
  refine seq_val rfl rfl (R_extract rfl rfl (getS (get0))) (by simp only [List.set_cons_succ, List.set_cons_zero]; exact rfl) ?_
  refine seq_val rfl rfl (R_extract rfl rfl (getS (getS (get0)))) (by simp only [List.set_cons_succ, List.set_cons_zero]; exact rfl) ?_
  refine seq_new rfl rfl (R_alloc rfl Try.zeroValue28) (by simp only [List.set_cons_succ, List.set_cons_zero]; exact rfl) fun w5 hw => ?_
  obtain ⟨n4, hn⟩ : ∃ n, n = w4.heap.size := ⟨_, rfl⟩
  rw [← hn]
  have l4 : w.heap.size ≤ n4 := by rw [hn]; exact E.size
  have l4_E2 : w4.heap.size ≤ n4 := by rw [hn]; exact E2.size
  have b4_HL := Nat.lt_of_lt_of_eq (lots_lt HL) hn.symm
  have m4_29 : n29 < n4 := by rw [hn]; exact blk_lt q29
  replace q29 := keep_alloc hw q29
  replace E2 := ext_alloc E2 hw
  replace HL := lots_alloc hw HL
  have q4 := new_row hw hn
  replace E := ext_alloc E hw
  clear hw hn
  refine seq_to rfl rfl (R_storeRow rfl rfl rfl (by kernel_rfl) (by simp [Value.oneCell']) q4 rfl) fun w6 hw => ?_
  replace q29 := keep_cells hw q29 (by omega)
  replace q4 := put_row hw q4 rfl
  replace E2 := ext_cells E2 hw (fun h => by first | exact absurd h (by omega) | simp)
  replace HL := lots_cells hw HL (by omega) (by omega)
  replace E := ext_cells E hw (fun h => by first | exact absurd h (by omega) | simp)
  clear hw
  refine seq_val rfl rfl (R_assign (v := .slice _ _ _) rfl rfl) (by simp only [List.set_cons_succ, List.set_cons_zero]; exact rfl) ?_
  refine seq_val rfl rfl (R_assign (v := .slice _ _ _) rfl rfl) (by simp only [List.set_cons_succ, List.set_cons_zero]; exact rfl) ?_
  refine wpList_nil ?_
  have hL := hM.live
  have hT1 : t.gr.length ≤ 1000 := by have := hM.grl; omega
  have hT2 : t.rd.length ≤ 1000 := by have := hM.rdl; omega
  have hT3 : t.lk.length ≤ 1000 := by have := hM.lkl; omega
  have hA1 := hM.A1
  have hS1 := hM.S1
  have HT : Hid (∀ W : World, Ext [] w6 W → IsTp W (.slice ga t.gr.length gc) (.slice ra t.rd.length rc) (.slice la t.lk.length lc) t) := fun W hW => (hT.ext E2 (by simp)).ext hW (by simp)
  clear hT e2 e3 HL hM
  replace hbm := Lib.hid hbm
  obtain ⟨wo, hwo⟩ : ∃ wo, wo = w6 := ⟨_, rfl⟩
  subst hwo
  clear q29
  have HW : Hid (∀ (s a : Int) (W : World), Ext [] wo W → Calls Try.prog 33 #[tpV t (.slice ga t.gr.length gc) (.slice ra t.rd.length rc) (.slice la t.lk.length lc), .int .i64 s, .int .i64 a] W fun e w' => e = .returned (.tuple #[.agg #[.int .i64 (measV t s a).1, .int .i64 (measV t s a).2], .int .i64 (measE t s a)]) ∧ Ext [] W w') :=
    fun s a W hW => measure_any t _ _ _ s a W (HT.out W hW) hT1 hT2 hT3
  unfold tpV at HW
  have HA : Hid (∀ (s a o h : Int) (W : World), Ext [] wo W → Calls Try.prog 43 #[tpV t (.slice ga t.gr.length gc) (.slice ra t.rd.length rc) (.slice la t.lk.length lc), .int .i64 s, .int .i64 a, .int .i64 o, .int .i64 h] W fun e w' => e = .returned (.tuple #[.agg #[.int .i64 (apartV t s a o h).1, .int .i64 (apartV t s a o h).2], .int .i64 (apartE t s a o h)]) ∧ Ext [] W w') :=
    fun s a o h W hW => apart_all t _ _ _ s a o h W (HT.out W hW) hT1 hT2 hT3
  unfold tpV at HA
  clear HT hT1 hT2 hT3
  have q4o := Lib.hid q4
  clear E2
  obtain ⟨m, hm⟩ : ∃ m, m = bdV t 0 := ⟨_, rfl⟩
  have hSA : 0 ≤ t.S * t.A ∧ t.S * t.A ≤ 4 := ⟨Int.mul_nonneg (by omega) (by omega), Int.le_trans (Int.mul_le_mul hS hA (by omega) (by omega)) (by decide)⟩
  go_upto_region 3 with (fail)
  refine wp_region_lit ?_
  refine seq_val rfl rfl (R_field rfl rfl Try.underlying28 rfl (n := 0) (sz := 1) rfl (by kernel_rfl) (by decide)) (by simp only [List.set_cons_succ, List.set_cons_zero]; exact rfl) ?_
  refine seq_val rfl rfl (R_load rfl rfl Try.underlying3 rfl ((cells_of_block q4 0).trans (get0))) (by simp only [List.set_cons_succ, List.set_cons_zero]; exact rfl) ?_
  refine seq_val rfl rfl (R_field rfl rfl Try.underlying28 rfl (n := 1) (sz := 1) rfl (by kernel_rfl) (by decide)) (by simp only [List.set_cons_succ, List.set_cons_zero]; exact rfl) ?_
  refine seq_val rfl rfl (R_load rfl rfl Try.underlying3 rfl ((cells_of_block q4 1).trans (getS (get0)))) (by simp only [List.set_cons_succ, List.set_cons_zero]; exact rfl) ?_
  refine seq_val rfl rfl (R_mul rfl rfl rfl (by omega) (by omega)) (by simp only [List.set_cons_succ, List.set_cons_zero]; exact rfl) ?_
  refine seq_val rfl rfl (R_assign (v := .int .i64 _) rfl rfl) (by simp only [List.set_cons_succ, List.set_cons_zero]; exact rfl) ?_
  refine wpList_nil ?_
  obtain ⟨N, hN⟩ : ∃ N : Nat, t.S * t.A = N := ⟨(t.S * t.A).toNat, by omega⟩
  have HX := Lib.hid (apart_facts hL hN)
  have HY := Lib.hid (apart_turn hL hN)
  have HZ := Lib.hid (apart_third hL hN)
  rw [← hm] at HX HY HZ
  have hN1 : 1 ≤ N := by have := Int.mul_pos (show 0 < t.S by omega) (show 0 < t.A by omega); omega
  rw [hN] at hSA
  rw [hN]
  clear hN hm
  have hN4 : N ≤ 4 := by omega
  clear hSA
  obtain ⟨nA, hnA⟩ : ∃ nA, nA = wo.heap.size := ⟨_, rfl⟩
  go_upto_region 4 with (fail)
  refine wp_region_lit ?_
  refine seq_val rfl rfl (R_assign (v := .slice _ _ _) rfl rfl) (by simp only [List.set_cons_succ, List.set_cons_zero]; exact rfl) ?_
  refine wpList_nil ?_
  go_upto_region 5 with (fail)
  refine wp_region_lit ?_
  refine seq_val rfl rfl (R_assign (v := .int .i64 _) rfl rfl) (by simp only [List.set_cons_succ, List.set_cons_zero]; exact rfl) ?_
  refine wpList_nil ?_
  go_wp2_with fail
  go_loopw [9, 8] (fun iv v wr => ∃ x : Nat, x ≤ N ∧ iv = .int .i64 x ∧ wr.ownsRow nA 23 2 v (x * N) (flatG (apL (apF t m) N (x * N))) ∧ Ext [] wo wr) (fun iv _ _ => N - (intOf iv).toNat)
  case atStart => exact ⟨0, by omega, rfl, by rw [Nat.zero_mul]; exact World.ownsRow_nil _ _ _ _, Ext.refl _ _⟩
  case round =>
    clear q4
    obtain ⟨x, hx, rfl, oa, F⟩ := hrel
    obtain ⟨va, vc, rfl⟩ := owns_slice oa
    have q4 := F.keep0 q4o.out
    by_cases hlx : (x : Int) < (N : Int)
    · have hxN : x * N ≤ 12 := Nat.le_trans (Nat.mul_le_mul (show x ≤ 3 by omega) hN4) (by decide)
      go_upto_region 6 with (fail)
      refine wp_region_lit ?_
      refine seq_val rfl rfl (R_move (v := .int .i64 _) rfl rfl) (by simp only [List.set_cons_succ, List.set_cons_zero]; exact rfl) ?_
      refine seq_val rfl rfl (R_move (v := .int .i64 _) rfl rfl) (by simp only [List.set_cons_succ, List.set_cons_zero]; exact rfl) ?_
      refine seq_val rfl rfl (R_lss rfl rfl rfl) (by simp only [List.set_cons_succ, List.set_cons_zero]; exact rfl) ?_
      refine wpList_nil ?_
      go_upto_region 8 with (fail)
      refine wp_region_lit ?_
      refine seq_val rfl rfl (R_assign (v := .int .i64 _) rfl rfl) (by simp only [List.set_cons_succ, List.set_cons_zero]; exact rfl) ?_
      refine wpList_nil ?_
      go_wp2_with fail
      go_loopw [10, 8] (fun iv v wr => ∃ y : Nat, y ≤ N ∧ iv = .int .i64 y ∧ wr.ownsRow nA 23 2 v (x * N + y) (flatG (apL (apF t m) N (x * N + y))) ∧ Ext [] wo wr) (fun iv _ _ => N - (intOf iv).toNat)
      case atStart => exact ⟨0, by omega, rfl, oa, F⟩
      case round =>
        clear q4 F oa
        obtain ⟨y, hy, rfl, oa, F⟩ := hrel
        obtain ⟨va, vc, rfl⟩ := owns_slice oa
        have q4 := F.keep0 q4o.out
        by_cases hly : (y : Int) < (N : Int)
        · obtain ⟨hx4, r1, r2, p1, p2, s1, s2, h1, h2, h3, h4, h5, h6, hc1, hc2, hc3, hc4, hb1, hb2, hb3, hb4, hb5, hb6, hb7, hb8, hr⟩ := HX.out x y (by omega) (by omega)
          have c1 := HA.out ((x : Int) / t.A) ((x : Int) % t.A) ((y : Int) / t.A) ((y : Int) % t.A)
          have c2 := HW.out ((x : Int) / t.A) ((x : Int) % t.A)
          have c3 := HW.out ((y : Int) / t.A) ((y : Int) % t.A)
          rw [h1, h2] at c1
          rw [h3, h4] at c2
          rw [h5, h6] at c3
          replace c1 := Lib.hid c1
          replace c2 := Lib.hid c2
          replace c3 := Lib.hid c3
          replace hr := Lib.hid hr
          have hstep := Lib.hid (apL_step (apF t m) (n := N) (x := x) (y := y) (by omega))
          clear h1 h2 h3 h4 h5 h6 hx4
          have hx0 : (0 : Int) ≤ (x : Int) := by omega
          have hx1 : (x : Int) ≤ 9223372036854775807 := by omega
          have hy0 : (0 : Int) ≤ (y : Int) := by omega
          have hy1 : (y : Int) ≤ 9223372036854775807 := by omega
          have hq3 : 0 < t.A := by omega
          go_upto_region 9 with (fail)
          refine wp_region_lit ?_
          refine seq_val rfl rfl (R_move (v := .int .i64 _) rfl rfl) (by simp only [List.set_cons_succ, List.set_cons_zero]; exact rfl) ?_
          refine seq_val rfl rfl (R_move (v := .int .i64 _) rfl rfl) (by simp only [List.set_cons_succ, List.set_cons_zero]; exact rfl) ?_
          refine seq_val rfl rfl (R_lss rfl rfl rfl) (by simp only [List.set_cons_succ, List.set_cons_zero]; exact rfl) ?_
          refine wpList_nil ?_
          have HF := Lib.hid F
          obtain ⟨wi, hwi⟩ : ∃ wi, wi = wr := ⟨_, rfl⟩
          subst hwi
          go_upto_region 11 with (fail)
          go_cut [11, 12] from 45 to 70 (fun pv ev wc => ∃ n11 : Nat, pv = .pointer (some ⟨n11, 0, none⟩) ∧ ev = .int .i64 0 ∧ wc.heap[n11]? = some (.cells #[.int .i64 r1, .int .i64 r2] 23 (0, 0)) ∧ Ext [] wi wc)
          case first =>
            rename_i J0 K0 hJ0 hK0
            have G : Ext [] wi wi := Ext.refl _ _
            refine region_until (Ext [] wi) 22 follows fun w1 hh eS => ?_
            have q4_ := q4
            replace q4 := keep_same hh q4
            replace G := ext_same G eS
            refine anyU_take (i := 0) (last := 22) rfl rfl (by decide) (by kernel_rfl) (by kernel_rfl) (by kernel_rfl) (by kernel_rfl) (by kernel_rfl) (fun _ _ _ h => h) rfl rfl (fun w' hS => R_loadBlk rfl rfl Try.underlying28 rfl (by kernel_rfl) (hS.keep q4_ (by simp))) eS (by simp only [List.set_cons_succ, List.set_cons_zero]; exact rfl) ?_
            refine anyU_take (i := 1) (last := 22) rfl rfl (by decide) (by kernel_rfl) (by kernel_rfl) (by kernel_rfl) (by kernel_rfl) (by kernel_rfl) (fun _ _ _ h => h) rfl rfl (fun w' hS => R_move (v := .int .i64 _) rfl rfl) eS (by simp only [List.set_cons_succ, List.set_cons_zero]; exact rfl) ?_
            refine anyU_take (i := 2) (last := 22) rfl rfl (by decide) (by kernel_rfl) (by kernel_rfl) (by kernel_rfl) (by kernel_rfl) (by kernel_rfl) (fun _ _ _ h => h) rfl rfl (fun w' hS => R_field rfl rfl Try.underlying28 rfl (n := 1) (sz := 1) rfl (by kernel_rfl) (by decide)) eS (by simp only [List.set_cons_succ, List.set_cons_zero]; exact rfl) ?_
            refine anyU_take (i := 3) (last := 22) rfl rfl (by decide) (by kernel_rfl) (by kernel_rfl) (by kernel_rfl) (by kernel_rfl) (by kernel_rfl) (fun _ _ _ h => h) rfl rfl (fun w' hS => R_load rfl rfl Try.underlying3 rfl ((cells_of_block (hS.keep q4_ (by simp)) 1).trans (getS (get0)))) eS (by simp only [List.set_cons_succ, List.set_cons_zero]; exact rfl) ?_
            refine anyU_take (i := 4) (last := 22) rfl rfl (by decide) (by kernel_rfl) (by kernel_rfl) (by kernel_rfl) (by kernel_rfl) (by kernel_rfl) (fun _ _ _ h => h) rfl rfl (fun w' hS => R_quoP rfl rfl rfl hx0 hx1 hq3) eS (by simp only [List.set_cons_succ, List.set_cons_zero]; exact rfl) ?_
            refine anyU_take (i := 5) (last := 22) rfl rfl (by decide) (by kernel_rfl) (by kernel_rfl) (by kernel_rfl) (by kernel_rfl) (by kernel_rfl) (fun _ _ _ h => h) rfl rfl (fun w' hS => R_move (v := .int .i64 _) rfl rfl) eS (by simp only [List.set_cons_succ, List.set_cons_zero]; exact rfl) ?_
            refine anyU_take (i := 6) (last := 22) rfl rfl (by decide) (by kernel_rfl) (by kernel_rfl) (by kernel_rfl) (by kernel_rfl) (by kernel_rfl) (fun _ _ _ h => h) rfl rfl (fun w' hS => R_field rfl rfl Try.underlying28 rfl (n := 1) (sz := 1) rfl (by kernel_rfl) (by decide)) eS (by simp only [List.set_cons_succ, List.set_cons_zero]; exact rfl) ?_
            refine anyU_take (i := 7) (last := 22) rfl rfl (by decide) (by kernel_rfl) (by kernel_rfl) (by kernel_rfl) (by kernel_rfl) (by kernel_rfl) (fun _ _ _ h => h) rfl rfl (fun w' hS => R_load rfl rfl Try.underlying3 rfl ((cells_of_block (hS.keep q4_ (by simp)) 1).trans (getS (get0)))) eS (by simp only [List.set_cons_succ, List.set_cons_zero]; exact rfl) ?_
            refine anyU_take (i := 8) (last := 22) rfl rfl (by decide) (by kernel_rfl) (by kernel_rfl) (by kernel_rfl) (by kernel_rfl) (by kernel_rfl) (fun _ _ _ h => h) rfl rfl (fun w' hS => R_remP rfl rfl rfl hx0 hq3) eS (by simp only [List.set_cons_succ, List.set_cons_zero]; exact rfl) ?_
            refine anyU_take (i := 9) (last := 22) rfl rfl (by decide) (by kernel_rfl) (by kernel_rfl) (by kernel_rfl) (by kernel_rfl) (by kernel_rfl) (fun _ _ _ h => h) rfl rfl (fun w' hS => R_move (v := .int .i64 _) rfl rfl) eS (by simp only [List.set_cons_succ, List.set_cons_zero]; exact rfl) ?_
            refine anyU_take (i := 10) (last := 22) rfl rfl (by decide) (by kernel_rfl) (by kernel_rfl) (by kernel_rfl) (by kernel_rfl) (by kernel_rfl) (fun _ _ _ h => h) rfl rfl (fun w' hS => R_field rfl rfl Try.underlying28 rfl (n := 1) (sz := 1) rfl (by kernel_rfl) (by decide)) eS (by simp only [List.set_cons_succ, List.set_cons_zero]; exact rfl) ?_
            refine anyU_take (i := 11) (last := 22) rfl rfl (by decide) (by kernel_rfl) (by kernel_rfl) (by kernel_rfl) (by kernel_rfl) (by kernel_rfl) (fun _ _ _ h => h) rfl rfl (fun w' hS => R_load rfl rfl Try.underlying3 rfl ((cells_of_block (hS.keep q4_ (by simp)) 1).trans (getS (get0)))) eS (by simp only [List.set_cons_succ, List.set_cons_zero]; exact rfl) ?_
            refine anyU_take (i := 12) (last := 22) rfl rfl (by decide) (by kernel_rfl) (by kernel_rfl) (by kernel_rfl) (by kernel_rfl) (by kernel_rfl) (fun _ _ _ h => h) rfl rfl (fun w' hS => R_quoP rfl rfl rfl hy0 hy1 hq3) eS (by simp only [List.set_cons_succ, List.set_cons_zero]; exact rfl) ?_
            refine anyU_take (i := 13) (last := 22) rfl rfl (by decide) (by kernel_rfl) (by kernel_rfl) (by kernel_rfl) (by kernel_rfl) (by kernel_rfl) (fun _ _ _ h => h) rfl rfl (fun w' hS => R_move (v := .int .i64 _) rfl rfl) eS (by simp only [List.set_cons_succ, List.set_cons_zero]; exact rfl) ?_
            refine anyU_take (i := 14) (last := 22) rfl rfl (by decide) (by kernel_rfl) (by kernel_rfl) (by kernel_rfl) (by kernel_rfl) (by kernel_rfl) (fun _ _ _ h => h) rfl rfl (fun w' hS => R_field rfl rfl Try.underlying28 rfl (n := 1) (sz := 1) rfl (by kernel_rfl) (by decide)) eS (by simp only [List.set_cons_succ, List.set_cons_zero]; exact rfl) ?_
            refine anyU_take (i := 15) (last := 22) rfl rfl (by decide) (by kernel_rfl) (by kernel_rfl) (by kernel_rfl) (by kernel_rfl) (by kernel_rfl) (fun _ _ _ h => h) rfl rfl (fun w' hS => R_load rfl rfl Try.underlying3 rfl ((cells_of_block (hS.keep q4_ (by simp)) 1).trans (getS (get0)))) eS (by simp only [List.set_cons_succ, List.set_cons_zero]; exact rfl) ?_
            refine anyU_take (i := 16) (last := 22) rfl rfl (by decide) (by kernel_rfl) (by kernel_rfl) (by kernel_rfl) (by kernel_rfl) (by kernel_rfl) (fun _ _ _ h => h) rfl rfl (fun w' hS => R_remP rfl rfl rfl hy0 hq3) eS (by simp only [List.set_cons_succ, List.set_cons_zero]; exact rfl) ?_
            refine anyU_pair (i := 17) (j := 21) (by kernel_rfl) ?_ ?_
            refine opU_call rfl rfl rfl (by kernel_rfl) (c1.out _ (HF.out.trans G)) fun e w2 hR => ?_
            obtain ⟨rfl, e1⟩ := hR
            replace eS := eS.nil (e1)
            replace q4 := (e1).keep0 q4
            replace G := ext_same G (e1)
            refine ⟨_, _, rfl, (by simp only [List.set_cons_succ, List.set_cons_zero]; exact rfl), fun _ => eS, ?_⟩
            refine anyU_take (i := 18) (last := 22) rfl rfl (by decide) (by kernel_rfl) (by kernel_rfl) (by kernel_rfl) (by kernel_rfl) (by kernel_rfl) (fun _ _ _ h => h) rfl rfl (fun w' hS => R_move (v := .tuple _) rfl rfl) eS (by simp only [List.set_cons_succ, List.set_cons_zero]; exact rfl) ?_
            refine anyU_take (i := 19) (last := 22) rfl rfl (by decide) (by kernel_rfl) (by kernel_rfl) (by kernel_rfl) (by kernel_rfl) (by kernel_rfl) (fun _ _ _ h => h) rfl rfl (fun w' hS => R_extract rfl rfl (get0)) eS (by simp only [List.set_cons_succ, List.set_cons_zero]; exact rfl) ?_
            refine anyU_takeP (i := 20) (last := 22) rfl (by decide) (by kernel_rfl) (by kernel_rfl) (by kernel_rfl) (fun _ _ _ h => h) rfl rfl (fun w' => R_extract rfl rfl (getS (get0))) eS (by simp only [List.set_cons_succ, List.set_cons_zero]; exact rfl) ?_
            refine anyU_new (i := 21) rfl (by kernel_rfl) rfl rfl (R_alloc rfl Try.zeroValue23) (by simp only [List.set_cons_succ, List.set_cons_zero]; exact rfl) fun w3 hw => ?_
            have u11 := eS.size
            replace eS := ext_alloc eS hw
            obtain ⟨n11, hn⟩ : ∃ n, n = w2.heap.size := ⟨_, rfl⟩
            rw [← hn]
            have l11 : wi.heap.size ≤ n11 := by rw [hn]; exact G.size
            have m11_4 : n4 < n11 := by rw [hn]; exact blk_lt q4
            rw [← hn] at u11
            replace q4 := keep_alloc hw q4
            have q11 := new_row hw hn
            replace G := ext_alloc G hw
            clear hw hn
            refine ⟨fun _ => eS, ?_⟩
            refine anyU_last (o := _) rfl (by kernel_rfl) rfl rfl (R_storeRow rfl rfl rfl (by kernel_rfl) (by simp [Value.oneCell']) q11 rfl) (by kernel_rfl) fun w4 hw => ?_
            replace q4 := keep_cells hw q4 (by omega)
            replace q11 := put_row hw q11 rfl
            replace G := ext_cells G hw (fun h => by first | exact absurd h (by omega) | simp)
            clear hw
            refine anyU_after (i := 23) rfl (by kernel_rfl) rfl rfl (R_assign (v := .int .i64 _) rfl rfl) (by simp only [List.set_cons_succ, List.set_cons_zero]; exact rfl) (by kernel_rfl) ?_
            refine anyU_done (by kernel_rfl) ?_ _
            clear q4_ hh eS
            rotate_left
            refine opU_new rfl rfl rfl (R_alloc rfl Try.zeroValue23) (by simp only [List.set_cons_succ, List.set_cons_zero]; exact rfl) fun w2 hw => ?_
            have u11 := eS.size
            replace eS := ext_alloc eS hw
            obtain ⟨n11, hn⟩ : ∃ n, n = w1.heap.size := ⟨_, rfl⟩
            rw [← hn]
            have l11 : wi.heap.size ≤ n11 := by rw [hn]; exact G.size
            have m11_4 : n4 < n11 := by rw [hn]; exact blk_lt q4
            rw [← hn] at u11
            replace q4 := keep_alloc hw q4
            have q11 := new_row hw hn
            replace G := ext_alloc G hw
            clear hw hn
            refine ⟨fun _ => eS, ?_⟩
            refine anyU_call (i := 17) rfl (by kernel_rfl) rfl rfl (by kernel_rfl) (c1.out _ (HF.out.trans G)) fun e w3 hR => ?_
            obtain ⟨rfl, e1⟩ := hR
            replace eS := eS.nil (e1)
            replace q4 := (e1).keep0 q4
            replace q11 := (e1).keep0 q11
            replace G := ext_same G (e1)
            refine ⟨_, _, rfl, (by simp only [List.set_cons_succ, List.set_cons_zero]; exact rfl), eS, ?_⟩
            refine anyU_take (i := 18) (last := 22) rfl rfl (by decide) (by kernel_rfl) (by kernel_rfl) (by kernel_rfl) (by kernel_rfl) (by kernel_rfl) (fun _ _ _ h => h) rfl rfl (fun w' hS => R_move (v := .tuple _) rfl rfl) eS (by simp only [List.set_cons_succ, List.set_cons_zero]; exact rfl) ?_
            refine anyU_take (i := 19) (last := 22) rfl rfl (by decide) (by kernel_rfl) (by kernel_rfl) (by kernel_rfl) (by kernel_rfl) (by kernel_rfl) (fun _ _ _ h => h) rfl rfl (fun w' hS => R_extract rfl rfl (get0)) eS (by simp only [List.set_cons_succ, List.set_cons_zero]; exact rfl) ?_
            refine anyU_takeP (i := 20) (last := 22) rfl (by decide) (by kernel_rfl) (by kernel_rfl) (by kernel_rfl) (fun _ _ _ h => h) rfl rfl (fun w' => R_extract rfl rfl (getS (get0))) eS (by simp only [List.set_cons_succ, List.set_cons_zero]; exact rfl) ?_
            refine anyU_last (o := _) rfl (by kernel_rfl) rfl rfl (R_storeRow rfl rfl rfl (by kernel_rfl) (by simp [Value.oneCell']) q11 rfl) (by kernel_rfl) fun w4 hw => ?_
            replace q4 := keep_cells hw q4 (by omega)
            replace q11 := put_row hw q11 rfl
            replace G := ext_cells G hw (fun h => by first | exact absurd h (by omega) | simp)
            clear hw
            refine anyU_after (i := 23) rfl (by kernel_rfl) rfl rfl (R_assign (v := .int .i64 _) rfl rfl) (by simp only [List.set_cons_succ, List.set_cons_zero]; exact rfl) (by kernel_rfl) ?_
            refine anyU_done (by kernel_rfl) ?_ _
            clear q4_ hh eS
            all_goals
              refine hK0 _ _ (hJ0 _ _ ?_)
              (repeat apply Exists.intro)
              refine ⟨?rel, ?fr⟩
              case fr => rfl
              case rel => exact ⟨_, rfl, rfl, q11, G⟩
          case rest =>
            obtain ⟨n11, rfl, rfl, q11, G⟩ := hcut
            obtain ⟨wj, hwi⟩ : ∃ w', w' = wc := ⟨_, rfl⟩
            subst hwi
            replace F := F.trans G
            replace oa := owns_ext oa G (by simp)
            replace q4 := G.keep0 q4
            replace HF := Lib.hid F
            clear G
            go_upto_region 12 with (fail)
            go_cut [13, 14] from 45 to 83 (fun pv ev wc => ∃ n13 : Nat, pv = .pointer (some ⟨n13, 0, none⟩) ∧ ev = .int .i64 0 ∧ wc.heap[n13]? = some (.cells #[.int .i64 p1, .int .i64 p2] 23 (0, 0)) ∧ Ext [] wj wc)
            case first =>
              rename_i J0 K0 hJ0 hK0
              have G : Ext [] wj wj := Ext.refl _ _
              refine region_until (Ext [] wj) 14 follows fun w1 hh eS => ?_
              have q4_ := q4
              replace q4 := keep_same hh q4
              replace G := ext_same G eS
              refine anyU_take (i := 0) (last := 14) rfl rfl (by decide) (by kernel_rfl) (by kernel_rfl) (by kernel_rfl) (by kernel_rfl) (by kernel_rfl) (fun _ _ _ h => h) rfl rfl (fun w' hS => R_loadBlk rfl rfl Try.underlying28 rfl (by kernel_rfl) (hS.keep q4_ (by simp))) eS (by simp only [List.set_cons_succ, List.set_cons_zero]; exact rfl) ?_
              refine anyU_take (i := 1) (last := 14) rfl rfl (by decide) (by kernel_rfl) (by kernel_rfl) (by kernel_rfl) (by kernel_rfl) (by kernel_rfl) (fun _ _ _ h => h) rfl rfl (fun w' hS => R_move (v := .int .i64 _) rfl rfl) eS (by simp only [List.set_cons_succ, List.set_cons_zero]; exact rfl) ?_
              refine anyU_take (i := 2) (last := 14) rfl rfl (by decide) (by kernel_rfl) (by kernel_rfl) (by kernel_rfl) (by kernel_rfl) (by kernel_rfl) (fun _ _ _ h => h) rfl rfl (fun w' hS => R_field rfl rfl Try.underlying28 rfl (n := 1) (sz := 1) rfl (by kernel_rfl) (by decide)) eS (by simp only [List.set_cons_succ, List.set_cons_zero]; exact rfl) ?_
              refine anyU_take (i := 3) (last := 14) rfl rfl (by decide) (by kernel_rfl) (by kernel_rfl) (by kernel_rfl) (by kernel_rfl) (by kernel_rfl) (fun _ _ _ h => h) rfl rfl (fun w' hS => R_load rfl rfl Try.underlying3 rfl ((cells_of_block (hS.keep q4_ (by simp)) 1).trans (getS (get0)))) eS (by simp only [List.set_cons_succ, List.set_cons_zero]; exact rfl) ?_
              refine anyU_take (i := 4) (last := 14) rfl rfl (by decide) (by kernel_rfl) (by kernel_rfl) (by kernel_rfl) (by kernel_rfl) (by kernel_rfl) (fun _ _ _ h => h) rfl rfl (fun w' hS => R_quoP rfl rfl rfl hx0 hx1 hq3) eS (by simp only [List.set_cons_succ, List.set_cons_zero]; exact rfl) ?_
              refine anyU_take (i := 5) (last := 14) rfl rfl (by decide) (by kernel_rfl) (by kernel_rfl) (by kernel_rfl) (by kernel_rfl) (by kernel_rfl) (fun _ _ _ h => h) rfl rfl (fun w' hS => R_move (v := .int .i64 _) rfl rfl) eS (by simp only [List.set_cons_succ, List.set_cons_zero]; exact rfl) ?_
              refine anyU_take (i := 6) (last := 14) rfl rfl (by decide) (by kernel_rfl) (by kernel_rfl) (by kernel_rfl) (by kernel_rfl) (by kernel_rfl) (fun _ _ _ h => h) rfl rfl (fun w' hS => R_field rfl rfl Try.underlying28 rfl (n := 1) (sz := 1) rfl (by kernel_rfl) (by decide)) eS (by simp only [List.set_cons_succ, List.set_cons_zero]; exact rfl) ?_
              refine anyU_take (i := 7) (last := 14) rfl rfl (by decide) (by kernel_rfl) (by kernel_rfl) (by kernel_rfl) (by kernel_rfl) (by kernel_rfl) (fun _ _ _ h => h) rfl rfl (fun w' hS => R_load rfl rfl Try.underlying3 rfl ((cells_of_block (hS.keep q4_ (by simp)) 1).trans (getS (get0)))) eS (by simp only [List.set_cons_succ, List.set_cons_zero]; exact rfl) ?_
              refine anyU_take (i := 8) (last := 14) rfl rfl (by decide) (by kernel_rfl) (by kernel_rfl) (by kernel_rfl) (by kernel_rfl) (by kernel_rfl) (fun _ _ _ h => h) rfl rfl (fun w' hS => R_remP rfl rfl rfl hx0 hq3) eS (by simp only [List.set_cons_succ, List.set_cons_zero]; exact rfl) ?_
              refine anyU_pair (i := 9) (j := 13) (by kernel_rfl) ?_ ?_
              refine opU_call rfl rfl rfl (by kernel_rfl) (c2.out _ (HF.out.trans G)) fun e w2 hR => ?_
              obtain ⟨rfl, e1⟩ := hR
              replace eS := eS.nil (e1)
              replace q4 := (e1).keep0 q4
              replace G := ext_same G (e1)
              refine ⟨_, _, rfl, (by simp only [List.set_cons_succ, List.set_cons_zero]; exact rfl), fun _ => eS, ?_⟩
              refine anyU_take (i := 10) (last := 14) rfl rfl (by decide) (by kernel_rfl) (by kernel_rfl) (by kernel_rfl) (by kernel_rfl) (by kernel_rfl) (fun _ _ _ h => h) rfl rfl (fun w' hS => R_move (v := .tuple _) rfl rfl) eS (by simp only [List.set_cons_succ, List.set_cons_zero]; exact rfl) ?_
              refine anyU_take (i := 11) (last := 14) rfl rfl (by decide) (by kernel_rfl) (by kernel_rfl) (by kernel_rfl) (by kernel_rfl) (by kernel_rfl) (fun _ _ _ h => h) rfl rfl (fun w' hS => R_extract rfl rfl (get0)) eS (by simp only [List.set_cons_succ, List.set_cons_zero]; exact rfl) ?_
              refine anyU_takeP (i := 12) (last := 14) rfl (by decide) (by kernel_rfl) (by kernel_rfl) (by kernel_rfl) (fun _ _ _ h => h) rfl rfl (fun w' => R_extract rfl rfl (getS (get0))) eS (by simp only [List.set_cons_succ, List.set_cons_zero]; exact rfl) ?_
              refine anyU_new (i := 13) rfl (by kernel_rfl) rfl rfl (R_alloc rfl Try.zeroValue23) (by simp only [List.set_cons_succ, List.set_cons_zero]; exact rfl) fun w3 hw => ?_
              have u13 := eS.size
              replace eS := ext_alloc eS hw
              obtain ⟨n13, hn⟩ : ∃ n, n = w2.heap.size := ⟨_, rfl⟩
              rw [← hn]
              have l13 : wj.heap.size ≤ n13 := by rw [hn]; exact G.size
              have m13_4 : n4 < n13 := by rw [hn]; exact blk_lt q4
              rw [← hn] at u13
              replace q4 := keep_alloc hw q4
              have q13 := new_row hw hn
              replace G := ext_alloc G hw
              clear hw hn
              refine ⟨fun _ => eS, ?_⟩
              refine anyU_last (o := _) rfl (by kernel_rfl) rfl rfl (R_storeRow rfl rfl rfl (by kernel_rfl) (by simp [Value.oneCell']) q13 rfl) (by kernel_rfl) fun w4 hw => ?_
              replace q4 := keep_cells hw q4 (by omega)
              replace q13 := put_row hw q13 rfl
              replace G := ext_cells G hw (fun h => by first | exact absurd h (by omega) | simp)
              clear hw
              refine anyU_after (i := 15) rfl (by kernel_rfl) rfl rfl (R_assign (v := .int .i64 _) rfl rfl) (by simp only [List.set_cons_succ, List.set_cons_zero]; exact rfl) (by kernel_rfl) ?_
              refine anyU_done (by kernel_rfl) ?_ _
              clear q4_ hh eS
              rotate_left
              refine opU_new rfl rfl rfl (R_alloc rfl Try.zeroValue23) (by simp only [List.set_cons_succ, List.set_cons_zero]; exact rfl) fun w2 hw => ?_
              have u13 := eS.size
              replace eS := ext_alloc eS hw
              obtain ⟨n13, hn⟩ : ∃ n, n = w1.heap.size := ⟨_, rfl⟩
              rw [← hn]
              have l13 : wj.heap.size ≤ n13 := by rw [hn]; exact G.size
              have m13_4 : n4 < n13 := by rw [hn]; exact blk_lt q4
              rw [← hn] at u13
              replace q4 := keep_alloc hw q4
              have q13 := new_row hw hn
              replace G := ext_alloc G hw
              clear hw hn
              refine ⟨fun _ => eS, ?_⟩
              refine anyU_call (i := 9) rfl (by kernel_rfl) rfl rfl (by kernel_rfl) (c2.out _ (HF.out.trans G)) fun e w3 hR => ?_
              obtain ⟨rfl, e1⟩ := hR
              replace eS := eS.nil (e1)
              replace q4 := (e1).keep0 q4
              replace q13 := (e1).keep0 q13
              replace G := ext_same G (e1)
              refine ⟨_, _, rfl, (by simp only [List.set_cons_succ, List.set_cons_zero]; exact rfl), eS, ?_⟩
              refine anyU_take (i := 10) (last := 14) rfl rfl (by decide) (by kernel_rfl) (by kernel_rfl) (by kernel_rfl) (by kernel_rfl) (by kernel_rfl) (fun _ _ _ h => h) rfl rfl (fun w' hS => R_move (v := .tuple _) rfl rfl) eS (by simp only [List.set_cons_succ, List.set_cons_zero]; exact rfl) ?_
              refine anyU_take (i := 11) (last := 14) rfl rfl (by decide) (by kernel_rfl) (by kernel_rfl) (by kernel_rfl) (by kernel_rfl) (by kernel_rfl) (fun _ _ _ h => h) rfl rfl (fun w' hS => R_extract rfl rfl (get0)) eS (by simp only [List.set_cons_succ, List.set_cons_zero]; exact rfl) ?_
              refine anyU_takeP (i := 12) (last := 14) rfl (by decide) (by kernel_rfl) (by kernel_rfl) (by kernel_rfl) (fun _ _ _ h => h) rfl rfl (fun w' => R_extract rfl rfl (getS (get0))) eS (by simp only [List.set_cons_succ, List.set_cons_zero]; exact rfl) ?_
              refine anyU_last (o := _) rfl (by kernel_rfl) rfl rfl (R_storeRow rfl rfl rfl (by kernel_rfl) (by simp [Value.oneCell']) q13 rfl) (by kernel_rfl) fun w4 hw => ?_
              replace q4 := keep_cells hw q4 (by omega)
              replace q13 := put_row hw q13 rfl
              replace G := ext_cells G hw (fun h => by first | exact absurd h (by omega) | simp)
              clear hw
              refine anyU_after (i := 15) rfl (by kernel_rfl) rfl rfl (R_assign (v := .int .i64 _) rfl rfl) (by simp only [List.set_cons_succ, List.set_cons_zero]; exact rfl) (by kernel_rfl) ?_
              refine anyU_done (by kernel_rfl) ?_ _
              clear q4_ hh eS
              all_goals
                refine hK0 _ _ (hJ0 _ _ ?_)
                (repeat apply Exists.intro)
                refine ⟨?rel, ?fr⟩
                case fr => rfl
                case rel => exact ⟨_, rfl, rfl, q13, G⟩
            case rest =>
              obtain ⟨n13, rfl, rfl, q13, G⟩ := hcut
              obtain ⟨wj13, hwi⟩ : ∃ w', w' = wc := ⟨_, rfl⟩
              subst hwi
              replace F := F.trans G
              replace oa := owns_ext oa G (by simp)
              replace q4 := G.keep0 q4
              replace q11 := G.keep0 q11
              replace HF := Lib.hid F
              clear G
              go_upto_region 13 with (fail)
              go_cut [15, 16] from 45 to 96 (fun pv ev wc => ∃ n15 : Nat, pv = .pointer (some ⟨n15, 0, none⟩) ∧ ev = .int .i64 0 ∧ wc.heap[n15]? = some (.cells #[.int .i64 s1, .int .i64 s2] 23 (0, 0)) ∧ Ext [] wj13 wc)
              case first =>
                rename_i J0 K0 hJ0 hK0
                have G : Ext [] wj13 wj13 := Ext.refl _ _
                refine region_until (Ext [] wj13) 14 follows fun w1 hh eS => ?_
                have q4_ := q4
                replace q4 := keep_same hh q4
                replace G := ext_same G eS
                refine anyU_take (i := 0) (last := 14) rfl rfl (by decide) (by kernel_rfl) (by kernel_rfl) (by kernel_rfl) (by kernel_rfl) (by kernel_rfl) (fun _ _ _ h => h) rfl rfl (fun w' hS => R_loadBlk rfl rfl Try.underlying28 rfl (by kernel_rfl) (hS.keep q4_ (by simp))) eS (by simp only [List.set_cons_succ, List.set_cons_zero]; exact rfl) ?_
                refine anyU_take (i := 1) (last := 14) rfl rfl (by decide) (by kernel_rfl) (by kernel_rfl) (by kernel_rfl) (by kernel_rfl) (by kernel_rfl) (fun _ _ _ h => h) rfl rfl (fun w' hS => R_move (v := .int .i64 _) rfl rfl) eS (by simp only [List.set_cons_succ, List.set_cons_zero]; exact rfl) ?_
                refine anyU_take (i := 2) (last := 14) rfl rfl (by decide) (by kernel_rfl) (by kernel_rfl) (by kernel_rfl) (by kernel_rfl) (by kernel_rfl) (fun _ _ _ h => h) rfl rfl (fun w' hS => R_field rfl rfl Try.underlying28 rfl (n := 1) (sz := 1) rfl (by kernel_rfl) (by decide)) eS (by simp only [List.set_cons_succ, List.set_cons_zero]; exact rfl) ?_
                refine anyU_take (i := 3) (last := 14) rfl rfl (by decide) (by kernel_rfl) (by kernel_rfl) (by kernel_rfl) (by kernel_rfl) (by kernel_rfl) (fun _ _ _ h => h) rfl rfl (fun w' hS => R_load rfl rfl Try.underlying3 rfl ((cells_of_block (hS.keep q4_ (by simp)) 1).trans (getS (get0)))) eS (by simp only [List.set_cons_succ, List.set_cons_zero]; exact rfl) ?_
                refine anyU_take (i := 4) (last := 14) rfl rfl (by decide) (by kernel_rfl) (by kernel_rfl) (by kernel_rfl) (by kernel_rfl) (by kernel_rfl) (fun _ _ _ h => h) rfl rfl (fun w' hS => R_quoP rfl rfl rfl hy0 hy1 hq3) eS (by simp only [List.set_cons_succ, List.set_cons_zero]; exact rfl) ?_
                refine anyU_take (i := 5) (last := 14) rfl rfl (by decide) (by kernel_rfl) (by kernel_rfl) (by kernel_rfl) (by kernel_rfl) (by kernel_rfl) (fun _ _ _ h => h) rfl rfl (fun w' hS => R_move (v := .int .i64 _) rfl rfl) eS (by simp only [List.set_cons_succ, List.set_cons_zero]; exact rfl) ?_
                refine anyU_take (i := 6) (last := 14) rfl rfl (by decide) (by kernel_rfl) (by kernel_rfl) (by kernel_rfl) (by kernel_rfl) (by kernel_rfl) (fun _ _ _ h => h) rfl rfl (fun w' hS => R_field rfl rfl Try.underlying28 rfl (n := 1) (sz := 1) rfl (by kernel_rfl) (by decide)) eS (by simp only [List.set_cons_succ, List.set_cons_zero]; exact rfl) ?_
                refine anyU_take (i := 7) (last := 14) rfl rfl (by decide) (by kernel_rfl) (by kernel_rfl) (by kernel_rfl) (by kernel_rfl) (by kernel_rfl) (fun _ _ _ h => h) rfl rfl (fun w' hS => R_load rfl rfl Try.underlying3 rfl ((cells_of_block (hS.keep q4_ (by simp)) 1).trans (getS (get0)))) eS (by simp only [List.set_cons_succ, List.set_cons_zero]; exact rfl) ?_
                refine anyU_take (i := 8) (last := 14) rfl rfl (by decide) (by kernel_rfl) (by kernel_rfl) (by kernel_rfl) (by kernel_rfl) (by kernel_rfl) (fun _ _ _ h => h) rfl rfl (fun w' hS => R_remP rfl rfl rfl hy0 hq3) eS (by simp only [List.set_cons_succ, List.set_cons_zero]; exact rfl) ?_
                refine anyU_pair (i := 9) (j := 13) (by kernel_rfl) ?_ ?_
                refine opU_call rfl rfl rfl (by kernel_rfl) (c3.out _ (HF.out.trans G)) fun e w2 hR => ?_
                obtain ⟨rfl, e1⟩ := hR
                replace eS := eS.nil (e1)
                replace q4 := (e1).keep0 q4
                replace G := ext_same G (e1)
                refine ⟨_, _, rfl, (by simp only [List.set_cons_succ, List.set_cons_zero]; exact rfl), fun _ => eS, ?_⟩
                refine anyU_take (i := 10) (last := 14) rfl rfl (by decide) (by kernel_rfl) (by kernel_rfl) (by kernel_rfl) (by kernel_rfl) (by kernel_rfl) (fun _ _ _ h => h) rfl rfl (fun w' hS => R_move (v := .tuple _) rfl rfl) eS (by simp only [List.set_cons_succ, List.set_cons_zero]; exact rfl) ?_
                refine anyU_take (i := 11) (last := 14) rfl rfl (by decide) (by kernel_rfl) (by kernel_rfl) (by kernel_rfl) (by kernel_rfl) (by kernel_rfl) (fun _ _ _ h => h) rfl rfl (fun w' hS => R_extract rfl rfl (get0)) eS (by simp only [List.set_cons_succ, List.set_cons_zero]; exact rfl) ?_
                refine anyU_takeP (i := 12) (last := 14) rfl (by decide) (by kernel_rfl) (by kernel_rfl) (by kernel_rfl) (fun _ _ _ h => h) rfl rfl (fun w' => R_extract rfl rfl (getS (get0))) eS (by simp only [List.set_cons_succ, List.set_cons_zero]; exact rfl) ?_
                refine anyU_new (i := 13) rfl (by kernel_rfl) rfl rfl (R_alloc rfl Try.zeroValue23) (by simp only [List.set_cons_succ, List.set_cons_zero]; exact rfl) fun w3 hw => ?_
                have u15 := eS.size
                replace eS := ext_alloc eS hw
                obtain ⟨n15, hn⟩ : ∃ n, n = w2.heap.size := ⟨_, rfl⟩
                rw [← hn]
                have l15 : wj13.heap.size ≤ n15 := by rw [hn]; exact G.size
                have m15_4 : n4 < n15 := by rw [hn]; exact blk_lt q4
                rw [← hn] at u15
                replace q4 := keep_alloc hw q4
                have q15 := new_row hw hn
                replace G := ext_alloc G hw
                clear hw hn
                refine ⟨fun _ => eS, ?_⟩
                refine anyU_last (o := _) rfl (by kernel_rfl) rfl rfl (R_storeRow rfl rfl rfl (by kernel_rfl) (by simp [Value.oneCell']) q15 rfl) (by kernel_rfl) fun w4 hw => ?_
                replace q4 := keep_cells hw q4 (by omega)
                replace q15 := put_row hw q15 rfl
                replace G := ext_cells G hw (fun h => by first | exact absurd h (by omega) | simp)
                clear hw
                refine anyU_after (i := 15) rfl (by kernel_rfl) rfl rfl (R_assign (v := .int .i64 _) rfl rfl) (by simp only [List.set_cons_succ, List.set_cons_zero]; exact rfl) (by kernel_rfl) ?_
                refine anyU_done (by kernel_rfl) ?_ _
                clear q4_ hh eS
                rotate_left
                refine opU_new rfl rfl rfl (R_alloc rfl Try.zeroValue23) (by simp only [List.set_cons_succ, List.set_cons_zero]; exact rfl) fun w2 hw => ?_
                have u15 := eS.size
                replace eS := ext_alloc eS hw
                obtain ⟨n15, hn⟩ : ∃ n, n = w1.heap.size := ⟨_, rfl⟩
                rw [← hn]
                have l15 : wj13.heap.size ≤ n15 := by rw [hn]; exact G.size
                have m15_4 : n4 < n15 := by rw [hn]; exact blk_lt q4
                rw [← hn] at u15
                replace q4 := keep_alloc hw q4
                have q15 := new_row hw hn
                replace G := ext_alloc G hw
                clear hw hn
                refine ⟨fun _ => eS, ?_⟩
                refine anyU_call (i := 9) rfl (by kernel_rfl) rfl rfl (by kernel_rfl) (c3.out _ (HF.out.trans G)) fun e w3 hR => ?_
                obtain ⟨rfl, e1⟩ := hR
                replace eS := eS.nil (e1)
                replace q4 := (e1).keep0 q4
                replace q15 := (e1).keep0 q15
                replace G := ext_same G (e1)
                refine ⟨_, _, rfl, (by simp only [List.set_cons_succ, List.set_cons_zero]; exact rfl), eS, ?_⟩
                refine anyU_take (i := 10) (last := 14) rfl rfl (by decide) (by kernel_rfl) (by kernel_rfl) (by kernel_rfl) (by kernel_rfl) (by kernel_rfl) (fun _ _ _ h => h) rfl rfl (fun w' hS => R_move (v := .tuple _) rfl rfl) eS (by simp only [List.set_cons_succ, List.set_cons_zero]; exact rfl) ?_
                refine anyU_take (i := 11) (last := 14) rfl rfl (by decide) (by kernel_rfl) (by kernel_rfl) (by kernel_rfl) (by kernel_rfl) (by kernel_rfl) (fun _ _ _ h => h) rfl rfl (fun w' hS => R_extract rfl rfl (get0)) eS (by simp only [List.set_cons_succ, List.set_cons_zero]; exact rfl) ?_
                refine anyU_takeP (i := 12) (last := 14) rfl (by decide) (by kernel_rfl) (by kernel_rfl) (by kernel_rfl) (fun _ _ _ h => h) rfl rfl (fun w' => R_extract rfl rfl (getS (get0))) eS (by simp only [List.set_cons_succ, List.set_cons_zero]; exact rfl) ?_
                refine anyU_last (o := _) rfl (by kernel_rfl) rfl rfl (R_storeRow rfl rfl rfl (by kernel_rfl) (by simp [Value.oneCell']) q15 rfl) (by kernel_rfl) fun w4 hw => ?_
                replace q4 := keep_cells hw q4 (by omega)
                replace q15 := put_row hw q15 rfl
                replace G := ext_cells G hw (fun h => by first | exact absurd h (by omega) | simp)
                clear hw
                refine anyU_after (i := 15) rfl (by kernel_rfl) rfl rfl (R_assign (v := .int .i64 _) rfl rfl) (by simp only [List.set_cons_succ, List.set_cons_zero]; exact rfl) (by kernel_rfl) ?_
                refine anyU_done (by kernel_rfl) ?_ _
                clear q4_ hh eS
                all_goals
                  refine hK0 _ _ (hJ0 _ _ ?_)
                  (repeat apply Exists.intro)
                  refine ⟨?rel, ?fr⟩
                  case fr => rfl
                  case rel => exact ⟨_, rfl, rfl, q15, G⟩
              case rest =>
                obtain ⟨n15, rfl, rfl, q15, G⟩ := hcut
                obtain ⟨wj1315, hwi⟩ : ∃ w', w' = wc := ⟨_, rfl⟩
                subst hwi
                replace F := F.trans G
                replace oa := owns_ext oa G (by simp)
                replace q4 := G.keep0 q4
                replace q11 := G.keep0 q11
                replace q13 := G.keep0 q13
                replace HF := Lib.hid F
                clear G
                clear HF c1 c2 c3
                go_upto_region 14 with (fail)
                go_cut [143] from 97 to 142 (fun v wc => v = .bool false ∧ wc = wj1315)
                case first =>
                  rename_i J0 K0 hJ0 hK0
                  by_cases hxy : x = y
                  · obtain ⟨rfl, rfl⟩ := hc4 hxy
                    have hxy2 : decide ((x : Int) = (y : Int)) = true := decide_eq_true (by omega)
                    refine wp_region_lit ?_
                    refine seq_val rfl rfl (R_move (v := .int .i64 _) rfl rfl) (by simp only [List.set_cons_succ, List.set_cons_zero]; exact rfl) ?_
                    refine seq_val rfl rfl (R_neq rfl rfl rfl) (by simp only [List.set_cons_succ, List.set_cons_zero]; exact rfl) ?_
                    refine seq_val rfl rfl (R_move (v := .bool _) rfl rfl) (by simp only [List.set_cons_succ, List.set_cons_zero]; exact rfl) ?_
                    refine seq_val rfl rfl (R_move (v := .int .i64 _) rfl rfl) (by simp only [List.set_cons_succ, List.set_cons_zero]; exact rfl) ?_
                    refine seq_val rfl rfl (R_neq rfl rfl rfl) (by simp only [List.set_cons_succ, List.set_cons_zero]; exact rfl) ?_
                    refine seq_val rfl rfl (R_pick rfl rfl rfl) (by simp only [List.set_cons_succ, List.set_cons_zero]; exact rfl) ?_
                    refine seq_val rfl rfl (R_move (v := .bool _) rfl rfl) (by simp only [List.set_cons_succ, List.set_cons_zero]; exact rfl) ?_
                    refine seq_val rfl rfl (R_move (v := .int .i64 _) rfl rfl) (by simp only [List.set_cons_succ, List.set_cons_zero]; exact rfl) ?_
                    refine seq_val rfl rfl (R_neq rfl rfl rfl) (by simp only [List.set_cons_succ, List.set_cons_zero]; exact rfl) ?_
                    refine seq_val rfl rfl (R_pick rfl rfl rfl) (by simp only [List.set_cons_succ, List.set_cons_zero]; exact rfl) ?_
                    refine seq_val rfl rfl (R_move (v := .bool _) rfl rfl) (by simp only [List.set_cons_succ, List.set_cons_zero]; exact rfl) ?_
                    refine seq_val rfl rfl (R_field rfl rfl Try.underlying23 rfl (n := 0) (sz := 1) rfl (by kernel_rfl) (by decide)) (by simp only [List.set_cons_succ, List.set_cons_zero]; exact rfl) ?_
                    refine seq_val rfl rfl (R_load rfl rfl Try.underlying3 rfl ((cells_of_block q11 0).trans (get0))) (by simp only [List.set_cons_succ, List.set_cons_zero]; exact rfl) ?_
                    refine seq_val rfl rfl (R_field rfl rfl Try.underlying23 rfl (n := 1) (sz := 1) rfl (by kernel_rfl) (by decide)) (by simp only [List.set_cons_succ, List.set_cons_zero]; exact rfl) ?_
                    refine seq_val rfl rfl (R_load rfl rfl Try.underlying3 rfl ((cells_of_block q11 1).trans (getS (get0)))) (by simp only [List.set_cons_succ, List.set_cons_zero]; exact rfl) ?_
                    refine seq_val rfl rfl (R_gtrB (b := false) rfl rfl rfl (decide_eq_false (by omega))) (by simp only [List.set_cons_succ, List.set_cons_zero]; exact rfl) ?_
                    refine seq_val rfl rfl (R_pick rfl rfl rfl) (by simp only [List.set_cons_succ, List.set_cons_zero]; exact rfl) ?_
                    refine seq_val rfl rfl (R_move (v := .bool _) rfl rfl) (by simp only [List.set_cons_succ, List.set_cons_zero]; exact rfl) ?_
                    refine seq_val rfl rfl (R_field rfl rfl Try.underlying23 rfl (n := 1) (sz := 1) rfl (by kernel_rfl) (by decide)) (by simp only [List.set_cons_succ, List.set_cons_zero]; exact rfl) ?_
                    refine seq_val rfl rfl (R_load rfl rfl Try.underlying3 rfl ((cells_of_block q11 1).trans (getS (get0)))) (by simp only [List.set_cons_succ, List.set_cons_zero]; exact rfl) ?_
                    refine seq_val rfl rfl (R_field rfl rfl Try.underlying23 rfl (n := 1) (sz := 1) rfl (by kernel_rfl) (by decide)) (by simp only [List.set_cons_succ, List.set_cons_zero]; exact rfl) ?_
                    refine seq_val rfl rfl (R_load rfl rfl Try.underlying3 rfl ((cells_of_block q13 1).trans (getS (get0)))) (by simp only [List.set_cons_succ, List.set_cons_zero]; exact rfl) ?_
                    refine seq_val rfl rfl (R_field rfl rfl Try.underlying23 rfl (n := 0) (sz := 1) rfl (by kernel_rfl) (by decide)) (by simp only [List.set_cons_succ, List.set_cons_zero]; exact rfl) ?_
                    refine seq_val rfl rfl (R_load rfl rfl Try.underlying3 rfl ((cells_of_block q15 0).trans (get0))) (by simp only [List.set_cons_succ, List.set_cons_zero]; exact rfl) ?_
                    refine seq_val rfl rfl (R_sub rfl rfl rfl (by omega) (by omega)) (by simp only [List.set_cons_succ, List.set_cons_zero]; exact rfl) ?_
                    refine seq_val rfl rfl (R_gtrB (b := false) rfl rfl rfl (decide_eq_false (by omega))) (by simp only [List.set_cons_succ, List.set_cons_zero]; exact rfl) ?_
                    refine seq_val rfl rfl (R_pick rfl rfl rfl) (by simp only [List.set_cons_succ, List.set_cons_zero]; exact rfl) ?_
                    refine seq_val rfl rfl (R_move (v := .bool _) rfl rfl) (by simp only [List.set_cons_succ, List.set_cons_zero]; exact rfl) ?_
                    refine seq_val rfl rfl (R_field rfl rfl Try.underlying23 rfl (n := 0) (sz := 1) rfl (by kernel_rfl) (by decide)) (by simp only [List.set_cons_succ, List.set_cons_zero]; exact rfl) ?_
                    refine seq_val rfl rfl (R_load rfl rfl Try.underlying3 rfl ((cells_of_block q11 0).trans (get0))) (by simp only [List.set_cons_succ, List.set_cons_zero]; exact rfl) ?_
                    refine seq_val rfl rfl (R_field rfl rfl Try.underlying23 rfl (n := 0) (sz := 1) rfl (by kernel_rfl) (by decide)) (by simp only [List.set_cons_succ, List.set_cons_zero]; exact rfl) ?_
                    refine seq_val rfl rfl (R_load rfl rfl Try.underlying3 rfl ((cells_of_block q13 0).trans (get0))) (by simp only [List.set_cons_succ, List.set_cons_zero]; exact rfl) ?_
                    refine seq_val rfl rfl (R_field rfl rfl Try.underlying23 rfl (n := 1) (sz := 1) rfl (by kernel_rfl) (by decide)) (by simp only [List.set_cons_succ, List.set_cons_zero]; exact rfl) ?_
                    refine seq_val rfl rfl (R_load rfl rfl Try.underlying3 rfl ((cells_of_block q15 1).trans (getS (get0)))) (by simp only [List.set_cons_succ, List.set_cons_zero]; exact rfl) ?_
                    refine seq_val rfl rfl (R_sub rfl rfl rfl (by omega) (by omega)) (by simp only [List.set_cons_succ, List.set_cons_zero]; exact rfl) ?_
                    refine seq_val rfl rfl (R_lssB (b := false) rfl rfl rfl (decide_eq_false (by omega))) (by simp only [List.set_cons_succ, List.set_cons_zero]; exact rfl) ?_
                    refine seq_val rfl rfl (R_pick rfl rfl rfl) (by simp only [List.set_cons_succ, List.set_cons_zero]; exact rfl) ?_
                    refine seq_val rfl rfl (R_move (v := .bool _) rfl rfl) (by simp only [List.set_cons_succ, List.set_cons_zero]; exact rfl) ?_
                    refine seq_val rfl rfl (R_move (v := .int .i64 _) rfl rfl) (by simp only [List.set_cons_succ, List.set_cons_zero]; exact rfl) ?_
                    refine seq_val rfl rfl (R_move (v := .int .i64 _) rfl rfl) (by simp only [List.set_cons_succ, List.set_cons_zero]; exact rfl) ?_
                    refine seq_val rfl rfl (R_eqlB (b := true) rfl rfl rfl hxy2) (by simp only [List.set_cons_succ, List.set_cons_zero]; exact rfl) ?_
                    refine seq_val rfl rfl (R_move (v := .bool _) rfl rfl) (by simp only [List.set_cons_succ, List.set_cons_zero]; exact rfl) ?_
                    refine seq_val rfl rfl (R_loadBlk rfl rfl Try.underlying23 rfl (by kernel_rfl) q11) (by simp only [List.set_cons_succ, List.set_cons_zero]; exact rfl) ?_
                    refine seq_val rfl rfl (R_build' rfl (cells := #[.int .i64 0, .int .i64 0]) (by kernel_rfl)) (by simp only [List.set_cons_succ, List.set_cons_zero]; exact rfl) ?_
                    refine seq_val rfl rfl (R_neqBt (r := false) rfl rfl rfl (by simp)) (by simp only [List.set_cons_succ, List.set_cons_zero]; exact rfl) ?_
                    refine seq_val rfl rfl (R_pick rfl rfl rfl) (by simp only [List.set_cons_succ, List.set_cons_zero]; exact rfl) ?_
                    refine seq_val rfl rfl (R_pick rfl rfl rfl) (by simp only [List.set_cons_succ, List.set_cons_zero]; exact rfl) ?_
                    refine wpList_nil ?_
                    refine hK0 _ _ (hJ0 _ _ ?_)
                    (repeat apply Exists.intro)
                    refine ⟨?rel, ?fr⟩
                    case fr => rfl
                    case rel => exact ⟨rfl, rfl⟩
                  · have hxy2 : decide ((x : Int) = (y : Int)) = false := decide_eq_false (by omega)
                    refine wp_region_lit ?_
                    refine seq_val rfl rfl (R_move (v := .int .i64 _) rfl rfl) (by simp only [List.set_cons_succ, List.set_cons_zero]; exact rfl) ?_
                    refine seq_val rfl rfl (R_neq rfl rfl rfl) (by simp only [List.set_cons_succ, List.set_cons_zero]; exact rfl) ?_
                    refine seq_val rfl rfl (R_move (v := .bool _) rfl rfl) (by simp only [List.set_cons_succ, List.set_cons_zero]; exact rfl) ?_
                    refine seq_val rfl rfl (R_move (v := .int .i64 _) rfl rfl) (by simp only [List.set_cons_succ, List.set_cons_zero]; exact rfl) ?_
                    refine seq_val rfl rfl (R_neq rfl rfl rfl) (by simp only [List.set_cons_succ, List.set_cons_zero]; exact rfl) ?_
                    refine seq_val rfl rfl (R_pick rfl rfl rfl) (by simp only [List.set_cons_succ, List.set_cons_zero]; exact rfl) ?_
                    refine seq_val rfl rfl (R_move (v := .bool _) rfl rfl) (by simp only [List.set_cons_succ, List.set_cons_zero]; exact rfl) ?_
                    refine seq_val rfl rfl (R_move (v := .int .i64 _) rfl rfl) (by simp only [List.set_cons_succ, List.set_cons_zero]; exact rfl) ?_
                    refine seq_val rfl rfl (R_neq rfl rfl rfl) (by simp only [List.set_cons_succ, List.set_cons_zero]; exact rfl) ?_
                    refine seq_val rfl rfl (R_pick rfl rfl rfl) (by simp only [List.set_cons_succ, List.set_cons_zero]; exact rfl) ?_
                    refine seq_val rfl rfl (R_move (v := .bool _) rfl rfl) (by simp only [List.set_cons_succ, List.set_cons_zero]; exact rfl) ?_
                    refine seq_val rfl rfl (R_field rfl rfl Try.underlying23 rfl (n := 0) (sz := 1) rfl (by kernel_rfl) (by decide)) (by simp only [List.set_cons_succ, List.set_cons_zero]; exact rfl) ?_
                    refine seq_val rfl rfl (R_load rfl rfl Try.underlying3 rfl ((cells_of_block q11 0).trans (get0))) (by simp only [List.set_cons_succ, List.set_cons_zero]; exact rfl) ?_
                    refine seq_val rfl rfl (R_field rfl rfl Try.underlying23 rfl (n := 1) (sz := 1) rfl (by kernel_rfl) (by decide)) (by simp only [List.set_cons_succ, List.set_cons_zero]; exact rfl) ?_
                    refine seq_val rfl rfl (R_load rfl rfl Try.underlying3 rfl ((cells_of_block q11 1).trans (getS (get0)))) (by simp only [List.set_cons_succ, List.set_cons_zero]; exact rfl) ?_
                    refine seq_val rfl rfl (R_gtrB (b := false) rfl rfl rfl (decide_eq_false (by omega))) (by simp only [List.set_cons_succ, List.set_cons_zero]; exact rfl) ?_
                    refine seq_val rfl rfl (R_pick rfl rfl rfl) (by simp only [List.set_cons_succ, List.set_cons_zero]; exact rfl) ?_
                    refine seq_val rfl rfl (R_move (v := .bool _) rfl rfl) (by simp only [List.set_cons_succ, List.set_cons_zero]; exact rfl) ?_
                    refine seq_val rfl rfl (R_field rfl rfl Try.underlying23 rfl (n := 1) (sz := 1) rfl (by kernel_rfl) (by decide)) (by simp only [List.set_cons_succ, List.set_cons_zero]; exact rfl) ?_
                    refine seq_val rfl rfl (R_load rfl rfl Try.underlying3 rfl ((cells_of_block q11 1).trans (getS (get0)))) (by simp only [List.set_cons_succ, List.set_cons_zero]; exact rfl) ?_
                    refine seq_val rfl rfl (R_field rfl rfl Try.underlying23 rfl (n := 1) (sz := 1) rfl (by kernel_rfl) (by decide)) (by simp only [List.set_cons_succ, List.set_cons_zero]; exact rfl) ?_
                    refine seq_val rfl rfl (R_load rfl rfl Try.underlying3 rfl ((cells_of_block q13 1).trans (getS (get0)))) (by simp only [List.set_cons_succ, List.set_cons_zero]; exact rfl) ?_
                    refine seq_val rfl rfl (R_field rfl rfl Try.underlying23 rfl (n := 0) (sz := 1) rfl (by kernel_rfl) (by decide)) (by simp only [List.set_cons_succ, List.set_cons_zero]; exact rfl) ?_
                    refine seq_val rfl rfl (R_load rfl rfl Try.underlying3 rfl ((cells_of_block q15 0).trans (get0))) (by simp only [List.set_cons_succ, List.set_cons_zero]; exact rfl) ?_
                    refine seq_val rfl rfl (R_sub rfl rfl rfl (by omega) (by omega)) (by simp only [List.set_cons_succ, List.set_cons_zero]; exact rfl) ?_
                    refine seq_val rfl rfl (R_gtrB (b := false) rfl rfl rfl (decide_eq_false (by omega))) (by simp only [List.set_cons_succ, List.set_cons_zero]; exact rfl) ?_
                    refine seq_val rfl rfl (R_pick rfl rfl rfl) (by simp only [List.set_cons_succ, List.set_cons_zero]; exact rfl) ?_
                    refine seq_val rfl rfl (R_move (v := .bool _) rfl rfl) (by simp only [List.set_cons_succ, List.set_cons_zero]; exact rfl) ?_
                    refine seq_val rfl rfl (R_field rfl rfl Try.underlying23 rfl (n := 0) (sz := 1) rfl (by kernel_rfl) (by decide)) (by simp only [List.set_cons_succ, List.set_cons_zero]; exact rfl) ?_
                    refine seq_val rfl rfl (R_load rfl rfl Try.underlying3 rfl ((cells_of_block q11 0).trans (get0))) (by simp only [List.set_cons_succ, List.set_cons_zero]; exact rfl) ?_
                    refine seq_val rfl rfl (R_field rfl rfl Try.underlying23 rfl (n := 0) (sz := 1) rfl (by kernel_rfl) (by decide)) (by simp only [List.set_cons_succ, List.set_cons_zero]; exact rfl) ?_
                    refine seq_val rfl rfl (R_load rfl rfl Try.underlying3 rfl ((cells_of_block q13 0).trans (get0))) (by simp only [List.set_cons_succ, List.set_cons_zero]; exact rfl) ?_
                    refine seq_val rfl rfl (R_field rfl rfl Try.underlying23 rfl (n := 1) (sz := 1) rfl (by kernel_rfl) (by decide)) (by simp only [List.set_cons_succ, List.set_cons_zero]; exact rfl) ?_
                    refine seq_val rfl rfl (R_load rfl rfl Try.underlying3 rfl ((cells_of_block q15 1).trans (getS (get0)))) (by simp only [List.set_cons_succ, List.set_cons_zero]; exact rfl) ?_
                    refine seq_val rfl rfl (R_sub rfl rfl rfl (by omega) (by omega)) (by simp only [List.set_cons_succ, List.set_cons_zero]; exact rfl) ?_
                    refine seq_val rfl rfl (R_lssB (b := false) rfl rfl rfl (decide_eq_false (by omega))) (by simp only [List.set_cons_succ, List.set_cons_zero]; exact rfl) ?_
                    refine seq_val rfl rfl (R_pick rfl rfl rfl) (by simp only [List.set_cons_succ, List.set_cons_zero]; exact rfl) ?_
                    refine seq_val rfl rfl (R_move (v := .bool _) rfl rfl) (by simp only [List.set_cons_succ, List.set_cons_zero]; exact rfl) ?_
                    refine seq_val rfl rfl (R_move (v := .int .i64 _) rfl rfl) (by simp only [List.set_cons_succ, List.set_cons_zero]; exact rfl) ?_
                    refine seq_val rfl rfl (R_move (v := .int .i64 _) rfl rfl) (by simp only [List.set_cons_succ, List.set_cons_zero]; exact rfl) ?_
                    refine seq_val rfl rfl (R_eqlB (b := false) rfl rfl rfl hxy2) (by simp only [List.set_cons_succ, List.set_cons_zero]; exact rfl) ?_
                    refine seq_val rfl rfl (R_move (v := .bool _) rfl rfl) (by simp only [List.set_cons_succ, List.set_cons_zero]; exact rfl) ?_
                    refine seq_no rfl rfl (by simp only [List.set_cons_succ, List.set_cons_zero]; exact rfl) ?_
                    refine seq_no rfl rfl (by simp only [List.set_cons_succ, List.set_cons_zero]; exact rfl) ?_
                    refine seq_no rfl rfl (by simp only [List.set_cons_succ, List.set_cons_zero]; exact rfl) ?_
                    refine seq_val rfl rfl (R_pick rfl rfl rfl) (by simp only [List.set_cons_succ, List.set_cons_zero]; exact rfl) ?_
                    refine seq_val rfl rfl (R_pick rfl rfl rfl) (by simp only [List.set_cons_succ, List.set_cons_zero]; exact rfl) ?_
                    refine wpList_nil ?_
                    refine hK0 _ _ (hJ0 _ _ ?_)
                    (repeat apply Exists.intro)
                    refine ⟨?rel, ?fr⟩
                    case fr => rfl
                    case rel => exact ⟨rfl, rfl⟩
                case rest =>
                  obtain ⟨rfl, hx9⟩ := hcut
                  subst hx9
                  obtain ⟨wk, hwk⟩ : ∃ wk, wk = wc := ⟨_, rfl⟩
                  subst hwk
                  clear hc1 hc2 hc3 hc4 hb1 hb2 hb3 hb4 hb5 hb6 hb7 hb8 q13 q15 hx0 hx1 hy0 hy1
                  go_upto_region 16 with (fail)
                  refine wp_region_lit ?_
                  refine seq_val rfl rfl (R_move (v := .slice _ _ _) rfl rfl) (by simp only [List.set_cons_succ, List.set_cons_zero]; exact rfl) ?_
                  refine seq_val rfl rfl (R_loadBlk rfl rfl Try.underlying23 rfl (by kernel_rfl) q11) (by simp only [List.set_cons_succ, List.set_cons_zero]; exact rfl) ?_
                  refine seq_new rfl rfl (R_buildSlice rfl Try.underlying24 (size := 2) (by kernel_rfl) (by decide) (by decide) Try.zeroValue23 (cells := #[.int .i64 r1, .int .i64 r2]) (by kernel_rfl)) (by simp only [List.set_cons_succ, List.set_cons_zero]; exact rfl) fun w61 hw => ?_
                  obtain ⟨n146, hn⟩ : ∃ n, n = wk.heap.size := ⟨_, rfl⟩
                  rw [← hn]
                  have l146 : wo.heap.size ≤ n146 := by rw [hn]; exact F.size
                  have m146_4 : n4 < n146 := by rw [hn]; exact blk_lt q4
                  have m146_11 : n11 < n146 := by rw [hn]; exact blk_lt q11
                  have o146_oa := Lib.hid (own_ne_new oa hn)
                  replace q4 := keep_alloc hw q4
                  replace q11 := keep_alloc hw q11
                  replace oa := owns_alloc hw oa
                  have q146 := new_block hw hn
                  replace F := ext_alloc F hw
                  clear hw hn
                  have hsz := blk_lt q146
                  refine seq_append rfl rfl rfl (nA) (e := 23) (size := 2) (bytes := 16) Try.underlying24 (by kernel_rfl) (by decide) rfl oa rfl q146 rfl (by simp [Value.oneCell']) (by omega) (by omega) (by omega) fun v' w62 hown' hg => ?_
                  obtain ⟨va147, vc147, rfl⟩ := owns_slice hown'
                  replace q4 := keep_type oa hg q4 (by decide)
                  replace F := ext_appendX F oa hg (by omega)
                  have hgsz := hg.size
                  replace oa := hown'
                  clear hg
                  refine ⟨_, (by simp only [List.set_cons_succ, List.set_cons_zero]; exact rfl), ?_⟩
                  refine seq_val rfl rfl (R_assign (v := .slice _ _ _) rfl rfl) (by simp only [List.set_cons_succ, List.set_cons_zero]; exact rfl) ?_
                  refine wpList_nil ?_
                  go_wp2
                  go_roundw
                  case rel => exact ⟨y + 1, by omega, by go_num, by rw [← Nat.add_assoc, hstep.out, hr.out, flatG_snoc]; exact oa, F⟩
                  case measure => simp [intOf]; omega
        · have hyN : y = N := by omega
          have hxn : x * N + y = (x + 1) * N := by rw [Nat.add_mul, Nat.one_mul, hyN]
          rw [hxn] at oa ⊢
          clear hyN hxn
          go_upto_region 9 with (fail)
          refine wp_region_lit ?_
          refine seq_val rfl rfl (R_move (v := .int .i64 _) rfl rfl) (by simp only [List.set_cons_succ, List.set_cons_zero]; exact rfl) ?_
          refine seq_val rfl rfl (R_move (v := .int .i64 _) rfl rfl) (by simp only [List.set_cons_succ, List.set_cons_zero]; exact rfl) ?_
          refine seq_val rfl rfl (R_lss rfl rfl rfl) (by simp only [List.set_cons_succ, List.set_cons_zero]; exact rfl) ?_
          refine wpList_nil ?_
          go_wp2
          go_roundw
          case rel => exact ⟨x + 1, by omega, by go_num, oa, F⟩
          case measure => simp [intOf]; omega
    · have hxN : x = N := by omega
      rw [hxN] at oa ⊢
      clear hxN
      go_upto_region 6 with (fail)
      refine wp_region_lit ?_
      refine seq_val rfl rfl (R_move (v := .int .i64 _) rfl rfl) (by simp only [List.set_cons_succ, List.set_cons_zero]; exact rfl) ?_
      refine seq_val rfl rfl (R_move (v := .int .i64 _) rfl rfl) (by simp only [List.set_cons_succ, List.set_cons_zero]; exact rfl) ?_
      refine seq_val rfl rfl (R_lss rfl rfl rfl) (by simp only [List.set_cons_succ, List.set_cons_zero]; exact rfl) ?_
      refine wpList_nil ?_
      have hal := apL_len (apF t m) N (N * N)
      have hNN : 1 ≤ N * N := Nat.mul_pos hN1 hN1
      have hNN2 : N * N ≤ 16 := Nat.le_trans (Nat.mul_le_mul hN4 hN4) (by decide)
      rw [show wr.ownsRow nA 23 2 (.slice va (N * N) vc) (N * N) (flatG (apL (apF t m) N (N * N))) = wr.ownsRow nA 23 2 (.slice va (N * N) vc) (apL (apF t m) N (N * N)).length (flatG (apL (apF t m) N (N * N))) by rw [hal]] at oa
      obtain ⟨bo, oo, hva, hcl⟩ := bt_cells oa (by omega)
      subst hva
      obtain ⟨wz, hwz⟩ : ∃ w', w' = wr := ⟨_, rfl⟩
      subst hwz
      have HB : Hid (∀ W : World, Ext [] wz W → ∀ x y : Nat, x < N → y < N → W.rangeAt bo (oo + ((x : Int) * (N : Int) + (y : Int)).toNat * 2) [.int .i64 (apF t m x y).1, .int .i64 (apF t m x y).2]) := fun W hW x y hx hy => by
        have hlt : x * N + y < N * N := by
          have h1 : (x + 1) * N ≤ N * N := Nat.mul_le_mul_right _ hx
          rw [Nat.add_mul, Nat.one_mul] at h1
          omega
        have := hcl W hW (x * N + y) (by omega)
        rw [apL_get _ hy hlt] at this
        rw [show ((x : Int) * (N : Int) + (y : Int)).toNat = x * N + y by rw [← Int.natCast_mul]; omega]
        exact this
      have HI : Hid (∀ x y : Nat, x < N → y < N → 0 ≤ (x : Int) * (N : Int) ∧ (x : Int) * (N : Int) ≤ 16 ∧ (x : Int) * (N : Int) + (y : Int) < ((N * N : Nat) : Int)) := fun x y hx hy => by
        have h1 : (x + 1) * N ≤ N * N := Nat.mul_le_mul_right _ hx
        rw [Nat.add_mul, Nat.one_mul] at h1
        rw [← Int.natCast_mul]
        omega
      have Fz := Lib.hid F
      clear hal hcl oa q4 q4o HX HA HW F
      have F : Ext [] wz wz := Ext.refl _ _
      go_upto_region 17 with (fail)
      refine wp_region_lit ?_
      refine seq_val rfl rfl (R_assign (v := .int .i64 _) rfl rfl) (by simp only [List.set_cons_succ, List.set_cons_zero]; exact rfl) ?_
      refine wpList_nil ?_
      go_wp2_with fail
      go_loopw [17] (fun iv wr => ∃ x : Nat, x ≤ N ∧ iv = .int .i64 x ∧ Ext [] wz wr) (fun iv _ => N - (intOf iv).toNat)
      case atStart => exact ⟨0, by omega, rfl, F⟩
      case round =>
        clear F hx
        obtain ⟨x, hx, rfl, F⟩ := hrel
        by_cases hlx : (x : Int) < (N : Int)
        · have Hx : Hid (x < N) := Lib.hid (by omega)
          go_upto_region 18 with (fail)
          refine wp_region_lit ?_
          refine seq_val rfl rfl (R_move (v := .int .i64 _) rfl rfl) (by simp only [List.set_cons_succ, List.set_cons_zero]; exact rfl) ?_
          refine seq_val rfl rfl (R_move (v := .int .i64 _) rfl rfl) (by simp only [List.set_cons_succ, List.set_cons_zero]; exact rfl) ?_
          refine seq_val rfl rfl (R_lss rfl rfl rfl) (by simp only [List.set_cons_succ, List.set_cons_zero]; exact rfl) ?_
          refine wpList_nil ?_
          go_upto_region 20 with (fail)
          refine wp_region_lit ?_
          refine seq_val rfl rfl (R_assign (v := .int .i64 _) rfl rfl) (by simp only [List.set_cons_succ, List.set_cons_zero]; exact rfl) ?_
          refine wpList_nil ?_
          clear hlx
          generalize decide ((x : Int) < (N : Int)) = bb
          go_wp2_with fail
          go_loopw [18] (fun iv wr => ∃ y : Nat, y ≤ N ∧ iv = .int .i64 y ∧ Ext [] wz wr) (fun iv _ => N - (intOf iv).toNat)
          case atStart => exact ⟨0, by omega, rfl, F⟩
          case round =>
            clear F
            obtain ⟨y, hy, rfl, F⟩ := hrel
            by_cases hly : (y : Int) < (N : Int)
            · obtain ⟨f1, f2, f3, f4, f5, f6⟩ := HY.out x y Hx.out (by omega)
              obtain ⟨g1, g2, g3, g4, g5, g6⟩ := HY.out y x (by omega) Hx.out
              obtain ⟨i1, i2, i3⟩ := HI.out x y Hx.out (by omega)
              obtain ⟨j1, j2, j3⟩ := HI.out y x (by omega) Hx.out
              have HZ2 := Lib.hid (fun z hz => HZ.out x y z Hx.out (by omega) hz)
              obtain ⟨a1, ha1⟩ : ∃ a1, a1 = (apF t m x y).1 := ⟨_, rfl⟩
              obtain ⟨a2, ha2⟩ : ∃ a2, a2 = (apF t m x y).2 := ⟨_, rfl⟩
              obtain ⟨b1, hb1⟩ : ∃ b1, b1 = (apF t m y x).1 := ⟨_, rfl⟩
              obtain ⟨b2, hb2⟩ : ∃ b2, b2 = (apF t m y x).2 := ⟨_, rfl⟩
              rw [← ha1, ← ha2] at HZ2
              rw [← ha1, ← hb2] at f1
              rw [← ha2, ← hb1] at f2
              rw [← ha1] at f3 f4
              rw [← ha2] at f5 f6
              rw [← hb1] at g3 g4
              rw [← hb2] at g5 g6
              clear g1 g2
              have hf1 : a1 + b2 = 0 := by omega
              have hf2 : a2 + b1 = 0 := by omega
              clear f1 f2
              go_upto_region 21 with (fail)
              refine wp_region_lit ?_
              refine seq_val rfl rfl (R_move (v := .int .i64 _) rfl rfl) (by simp only [List.set_cons_succ, List.set_cons_zero]; exact rfl) ?_
              refine seq_val rfl rfl (R_move (v := .int .i64 _) rfl rfl) (by simp only [List.set_cons_succ, List.set_cons_zero]; exact rfl) ?_
              refine seq_val rfl rfl (R_lss rfl rfl rfl) (by simp only [List.set_cons_succ, List.set_cons_zero]; exact rfl) ?_
              refine wpList_nil ?_
              obtain ⟨wa, hwa⟩ : ∃ w', w' = wr := ⟨_, rfl⟩
              subst hwa
              have hca : Hid (∀ W : World, Ext [] wa W → W.rangeAt bo (oo + (((x : Nat) : Int) * (N : Int) + ((y : Nat) : Int)).toNat * 2) [.int .i64 a1, .int .i64 a2]) := fun W hW => by
                have := HB.out W (F.trans hW) x y Hx.out (by omega)
                rw [ha1, ha2]; exact this
              have hcb : Hid (∀ W : World, Ext [] wa W → W.rangeAt bo (oo + (((y : Nat) : Int) * (N : Int) + ((x : Nat) : Int)).toNat * 2) [.int .i64 b1, .int .i64 b2]) := fun W hW => by
                have := HB.out W (F.trans hW) y x (by omega) Hx.out
                rw [hb1, hb2]; exact this
              go_upto_region 23 with (fail)
              go_cut [19, 20] from 158 to 173 (fun pv qv wc => ∃ n19 n20 : Nat, pv = .pointer (some ⟨n19, 0, none⟩) ∧ qv = .pointer (some ⟨n20, 0, none⟩) ∧ wc.heap[n19]? = some (.cells #[.int .i64 a1, .int .i64 a2] 23 (0, 0)) ∧ wc.heap[n20]? = some (.cells #[.int .i64 b1, .int .i64 b2] 23 (0, 0)) ∧ Ext [] wa wc)
              case first =>
                rename_i J0 K0 hJ0 hK0
                have G : Ext [] wa wa := Ext.refl _ _
                refine region_until (Ext [] wa) 19 follows fun w1 hh eS => ?_
                replace G := ext_same G eS
                refine anyU_take (i := 0) (last := 19) rfl rfl (by decide) (by kernel_rfl) (by kernel_rfl) (by kernel_rfl) (by kernel_rfl) (by kernel_rfl) (fun _ _ _ h => h) rfl rfl (fun w' hS => R_move (v := .slice _ _ _) rfl rfl) eS (by simp only [List.set_cons_succ, List.set_cons_zero]; exact rfl) ?_
                refine anyU_take (i := 1) (last := 19) rfl rfl (by decide) (by kernel_rfl) (by kernel_rfl) (by kernel_rfl) (by kernel_rfl) (by kernel_rfl) (fun _ _ _ h => h) rfl rfl (fun w' hS => R_move (v := .int .i64 _) rfl rfl) eS (by simp only [List.set_cons_succ, List.set_cons_zero]; exact rfl) ?_
                refine anyU_take (i := 2) (last := 19) rfl rfl (by decide) (by kernel_rfl) (by kernel_rfl) (by kernel_rfl) (by kernel_rfl) (by kernel_rfl) (fun _ _ _ h => h) rfl rfl (fun w' hS => R_move (v := .int .i64 _) rfl rfl) eS (by simp only [List.set_cons_succ, List.set_cons_zero]; exact rfl) ?_
                refine anyU_take (i := 3) (last := 19) rfl rfl (by decide) (by kernel_rfl) (by kernel_rfl) (by kernel_rfl) (by kernel_rfl) (by kernel_rfl) (fun _ _ _ h => h) rfl rfl (fun w' hS => R_mul rfl rfl rfl (by omega) (by omega)) eS (by simp only [List.set_cons_succ, List.set_cons_zero]; exact rfl) ?_
                refine anyU_take (i := 4) (last := 19) rfl rfl (by decide) (by kernel_rfl) (by kernel_rfl) (by kernel_rfl) (by kernel_rfl) (by kernel_rfl) (fun _ _ _ h => h) rfl rfl (fun w' hS => R_move (v := .int .i64 _) rfl rfl) eS (by simp only [List.set_cons_succ, List.set_cons_zero]; exact rfl) ?_
                refine anyU_take (i := 5) (last := 19) rfl rfl (by decide) (by kernel_rfl) (by kernel_rfl) (by kernel_rfl) (by kernel_rfl) (by kernel_rfl) (fun _ _ _ h => h) rfl rfl (fun w' hS => R_add rfl rfl rfl (by omega) (by omega)) eS (by simp only [List.set_cons_succ, List.set_cons_zero]; exact rfl) ?_
                refine anyU_take (i := 6) (last := 19) rfl rfl (by decide) (by kernel_rfl) (by kernel_rfl) (by kernel_rfl) (by kernel_rfl) (by kernel_rfl) (fun _ _ _ h => h) rfl rfl (fun w' hS => R_ixSlice (sz := 2) rfl rfl rfl Try.underlying24 (by kernel_rfl) (by omega) (by omega)) eS (by simp only [List.set_cons_succ, List.set_cons_zero]; exact rfl) ?_
                refine anyU_take (i := 7) (last := 19) rfl rfl (by decide) (by kernel_rfl) (by kernel_rfl) (by kernel_rfl) (by kernel_rfl) (by kernel_rfl) (fun _ _ _ h => h) rfl rfl (fun w' hS => R_loadRow (cs := [.int .i64 a1, .int .i64 a2]) rfl rfl Try.underlying23 rfl (by kernel_rfl) (hca.out _ hS)) eS (by simp only [List.set_cons_succ, List.set_cons_zero]; exact rfl) ?_
                refine anyU_take (i := 8) (last := 19) rfl rfl (by decide) (by kernel_rfl) (by kernel_rfl) (by kernel_rfl) (by kernel_rfl) (by kernel_rfl) (fun _ _ _ h => h) rfl rfl (fun w' hS => R_move (v := .slice _ _ _) rfl rfl) eS (by simp only [List.set_cons_succ, List.set_cons_zero]; exact rfl) ?_
                refine anyU_take (i := 9) (last := 19) rfl rfl (by decide) (by kernel_rfl) (by kernel_rfl) (by kernel_rfl) (by kernel_rfl) (by kernel_rfl) (fun _ _ _ h => h) rfl rfl (fun w' hS => R_move (v := .int .i64 _) rfl rfl) eS (by simp only [List.set_cons_succ, List.set_cons_zero]; exact rfl) ?_
                refine anyU_take (i := 10) (last := 19) rfl rfl (by decide) (by kernel_rfl) (by kernel_rfl) (by kernel_rfl) (by kernel_rfl) (by kernel_rfl) (fun _ _ _ h => h) rfl rfl (fun w' hS => R_move (v := .int .i64 _) rfl rfl) eS (by simp only [List.set_cons_succ, List.set_cons_zero]; exact rfl) ?_
                refine anyU_take (i := 11) (last := 19) rfl rfl (by decide) (by kernel_rfl) (by kernel_rfl) (by kernel_rfl) (by kernel_rfl) (by kernel_rfl) (fun _ _ _ h => h) rfl rfl (fun w' hS => R_mul rfl rfl rfl (by omega) (by omega)) eS (by simp only [List.set_cons_succ, List.set_cons_zero]; exact rfl) ?_
                refine anyU_take (i := 12) (last := 19) rfl rfl (by decide) (by kernel_rfl) (by kernel_rfl) (by kernel_rfl) (by kernel_rfl) (by kernel_rfl) (fun _ _ _ h => h) rfl rfl (fun w' hS => R_move (v := .int .i64 _) rfl rfl) eS (by simp only [List.set_cons_succ, List.set_cons_zero]; exact rfl) ?_
                refine anyU_take (i := 13) (last := 19) rfl rfl (by decide) (by kernel_rfl) (by kernel_rfl) (by kernel_rfl) (by kernel_rfl) (by kernel_rfl) (fun _ _ _ h => h) rfl rfl (fun w' hS => R_add rfl rfl rfl (by omega) (by omega)) eS (by simp only [List.set_cons_succ, List.set_cons_zero]; exact rfl) ?_
                refine anyU_take (i := 14) (last := 19) rfl rfl (by decide) (by kernel_rfl) (by kernel_rfl) (by kernel_rfl) (by kernel_rfl) (by kernel_rfl) (fun _ _ _ h => h) rfl rfl (fun w' hS => R_ixSlice (sz := 2) rfl rfl rfl Try.underlying24 (by kernel_rfl) (by omega) (by omega)) eS (by simp only [List.set_cons_succ, List.set_cons_zero]; exact rfl) ?_
                refine anyU_take (i := 15) (last := 19) rfl rfl (by decide) (by kernel_rfl) (by kernel_rfl) (by kernel_rfl) (by kernel_rfl) (by kernel_rfl) (fun _ _ _ h => h) rfl rfl (fun w' hS => R_loadRow (cs := [.int .i64 b1, .int .i64 b2]) rfl rfl Try.underlying23 rfl (by kernel_rfl) (hcb.out _ hS)) eS (by simp only [List.set_cons_succ, List.set_cons_zero]; exact rfl) ?_
                refine anyU_pair (i := 16) (j := 17) (by kernel_rfl) ?_ ?_
                refine opU_new rfl rfl rfl (R_alloc rfl Try.zeroValue23) (by simp only [List.set_cons_succ, List.set_cons_zero]; exact rfl) fun w2 hw => ?_
                have u19 := eS.size
                replace eS := ext_alloc eS hw
                obtain ⟨n19, hn⟩ : ∃ n, n = w1.heap.size := ⟨_, rfl⟩
                rw [← hn]
                have l19 : wa.heap.size ≤ n19 := by rw [hn]; exact G.size
                rw [← hn] at u19
                have q19 := new_row hw hn
                replace G := ext_alloc G hw
                clear hw hn
                refine ⟨fun _ => eS, ?_⟩
                refine anyU_new (i := 17) rfl (by kernel_rfl) rfl rfl (R_alloc rfl Try.zeroValue23) (by simp only [List.set_cons_succ, List.set_cons_zero]; exact rfl) fun w3 hw => ?_
                have u20 := eS.size
                replace eS := ext_alloc eS hw
                obtain ⟨n20, hn⟩ : ∃ n, n = w2.heap.size := ⟨_, rfl⟩
                rw [← hn]
                have l20 : wa.heap.size ≤ n20 := by rw [hn]; exact G.size
                have m20_19 : n19 < n20 := by rw [hn]; exact blk_lt q19
                rw [← hn] at u20
                replace q19 := keep_alloc hw q19
                have q20 := new_row hw hn
                replace G := ext_alloc G hw
                clear hw hn
                refine ⟨fun _ => eS, ?_⟩
                refine anyU_to (i := 18) rfl (by kernel_rfl) rfl rfl (R_storeRow rfl rfl rfl (by kernel_rfl) (by simp [Value.oneCell']) q19 rfl) fun w5 hw => ?_
                replace eS := ext_cells eS hw (fun h => absurd h (by omega))
                replace q19 := put_row hw q19 rfl
                replace q20 := keep_cells hw q20 (by omega)
                replace G := ext_cells G hw (fun h => by first | exact absurd h (by omega) | simp)
                clear hw
                refine ⟨fun _ => eS, ?_⟩
                refine anyU_last (o := _) rfl (by kernel_rfl) rfl rfl (R_storeRow rfl rfl rfl (by kernel_rfl) (by simp [Value.oneCell']) q20 rfl) (by kernel_rfl) fun w6 hw => ?_
                replace q19 := keep_cells hw q19 (by omega)
                replace q20 := put_row hw q20 rfl
                replace G := ext_cells G hw (fun h => by first | exact absurd h (by omega) | simp)
                clear hw
                refine anyU_done (by kernel_rfl) ?_ _
                clear hh eS
                rotate_left
                refine opU_new rfl rfl rfl (R_alloc rfl Try.zeroValue23) (by simp only [List.set_cons_succ, List.set_cons_zero]; exact rfl) fun w2 hw => ?_
                have u20 := eS.size
                replace eS := ext_alloc eS hw
                obtain ⟨n20, hn⟩ : ∃ n, n = w1.heap.size := ⟨_, rfl⟩
                rw [← hn]
                have l20 : wa.heap.size ≤ n20 := by rw [hn]; exact G.size
                rw [← hn] at u20
                have q20 := new_row hw hn
                replace G := ext_alloc G hw
                clear hw hn
                refine ⟨fun _ => eS, ?_⟩
                refine anyU_new (i := 16) rfl (by kernel_rfl) rfl rfl (R_alloc rfl Try.zeroValue23) (by simp only [List.set_cons_succ, List.set_cons_zero]; exact rfl) fun w3 hw => ?_
                have u19 := eS.size
                replace eS := ext_alloc eS hw
                obtain ⟨n19, hn⟩ : ∃ n, n = w2.heap.size := ⟨_, rfl⟩
                rw [← hn]
                have l19 : wa.heap.size ≤ n19 := by rw [hn]; exact G.size
                have m19_20 : n20 < n19 := by rw [hn]; exact blk_lt q20
                rw [← hn] at u19
                replace q20 := keep_alloc hw q20
                have q19 := new_row hw hn
                replace G := ext_alloc G hw
                clear hw hn
                refine ⟨fun _ => eS, ?_⟩
                refine anyU_to (i := 18) rfl (by kernel_rfl) rfl rfl (R_storeRow rfl rfl rfl (by kernel_rfl) (by simp [Value.oneCell']) q19 rfl) fun w5 hw => ?_
                replace eS := ext_cells eS hw (fun h => absurd h (by omega))
                replace q20 := keep_cells hw q20 (by omega)
                replace q19 := put_row hw q19 rfl
                replace G := ext_cells G hw (fun h => by first | exact absurd h (by omega) | simp)
                clear hw
                refine ⟨fun _ => eS, ?_⟩
                refine anyU_last (o := _) rfl (by kernel_rfl) rfl rfl (R_storeRow rfl rfl rfl (by kernel_rfl) (by simp [Value.oneCell']) q20 rfl) (by kernel_rfl) fun w6 hw => ?_
                replace q20 := put_row hw q20 rfl
                replace q19 := keep_cells hw q19 (by omega)
                replace G := ext_cells G hw (fun h => by first | exact absurd h (by omega) | simp)
                clear hw
                refine anyU_done (by kernel_rfl) ?_ _
                clear hh eS
                all_goals
                  refine hK0 _ _ (hJ0 _ _ ?_)
                  (repeat apply Exists.intro)
                  refine ⟨?rel, ?fr⟩
                  case fr => rfl
                  case rel => exact ⟨_, _, rfl, rfl, q19, q20, G⟩
              case rest =>
                clear hca hcb
                obtain ⟨n19, n20, rfl, rfl, q19, q20, G⟩ := hcut
                obtain ⟨wb, hwi⟩ : ∃ w', w' = wc := ⟨_, rfl⟩
                subst hwi
                clear ha1 ha2 hb1 hb2 i1 i2 i3 j1 j2 j3
                replace F := F.trans G
                clear G
                go_upto_region 24 with (fail)
                refine wp_region_lit ?_
                refine seq_val rfl rfl (R_field rfl rfl Try.underlying23 rfl (n := 0) (sz := 1) rfl (by kernel_rfl) (by decide)) (by simp only [List.set_cons_succ, List.set_cons_zero]; exact rfl) ?_
                refine seq_val rfl rfl (R_load rfl rfl Try.underlying3 rfl ((cells_of_block q19 0).trans (get0))) (by simp only [List.set_cons_succ, List.set_cons_zero]; exact rfl) ?_
                refine seq_val rfl rfl (R_field rfl rfl Try.underlying23 rfl (n := 1) (sz := 1) rfl (by kernel_rfl) (by decide)) (by simp only [List.set_cons_succ, List.set_cons_zero]; exact rfl) ?_
                refine seq_val rfl rfl (R_load rfl rfl Try.underlying3 rfl ((cells_of_block q20 1).trans (getS (get0)))) (by simp only [List.set_cons_succ, List.set_cons_zero]; exact rfl) ?_
                refine seq_val rfl rfl (R_neg rfl rfl (by omega) (by omega)) (by simp only [List.set_cons_succ, List.set_cons_zero]; exact rfl) ?_
                refine seq_val rfl rfl (R_neqB (b := false) rfl rfl rfl (by simp; omega)) (by simp only [List.set_cons_succ, List.set_cons_zero]; exact rfl) ?_
                refine seq_val rfl rfl (R_move (v := .bool _) rfl rfl) (by simp only [List.set_cons_succ, List.set_cons_zero]; exact rfl) ?_
                refine seq_val rfl rfl (R_field rfl rfl Try.underlying23 rfl (n := 1) (sz := 1) rfl (by kernel_rfl) (by decide)) (by simp only [List.set_cons_succ, List.set_cons_zero]; exact rfl) ?_
                refine seq_val rfl rfl (R_load rfl rfl Try.underlying3 rfl ((cells_of_block q19 1).trans (getS (get0)))) (by simp only [List.set_cons_succ, List.set_cons_zero]; exact rfl) ?_
                refine seq_val rfl rfl (R_field rfl rfl Try.underlying23 rfl (n := 0) (sz := 1) rfl (by kernel_rfl) (by decide)) (by simp only [List.set_cons_succ, List.set_cons_zero]; exact rfl) ?_
                refine seq_val rfl rfl (R_load rfl rfl Try.underlying3 rfl ((cells_of_block q20 0).trans (get0))) (by simp only [List.set_cons_succ, List.set_cons_zero]; exact rfl) ?_
                refine seq_val rfl rfl (R_neg rfl rfl (by omega) (by omega)) (by simp only [List.set_cons_succ, List.set_cons_zero]; exact rfl) ?_
                refine seq_val rfl rfl (R_neqB (b := false) rfl rfl rfl (by simp; omega)) (by simp only [List.set_cons_succ, List.set_cons_zero]; exact rfl) ?_
                refine seq_val rfl rfl (R_pick rfl rfl rfl) (by simp only [List.set_cons_succ, List.set_cons_zero]; exact rfl) ?_
                refine wpList_nil ?_
                clear q20 hf1 hf2 g3 g4 g5 g6
                have q19o := Lib.hid q19
                have Fb := Lib.hid F
                have F2 : Ext [] wb wb := Ext.refl _ _
                go_upto_region 26 with (fail)
                refine wp_region_lit ?_
                refine seq_val rfl rfl (R_assign (v := .int .i64 _) rfl rfl) (by simp only [List.set_cons_succ, List.set_cons_zero]; exact rfl) ?_
                refine wpList_nil ?_
                go_wp2_with fail
                go_loopw [21] (fun iv wr => ∃ z : Nat, z ≤ N ∧ iv = .int .i64 z ∧ Ext [] wb wr) (fun iv _ => N - (intOf iv).toNat)
                case atStart => exact ⟨0, by omega, rfl, F2⟩
                case round =>
                  clear F F2 q19
                  obtain ⟨z, hz, rfl, F2⟩ := hrel
                  have F := Fb.out.trans F2
                  have q19 := F2.keep0 q19o.out
                  by_cases hlz : (z : Int) < (N : Int)
                  · obtain ⟨z1, z2⟩ := HZ2.out z (by omega)
                    obtain ⟨-, -, k3, k4, k5, k6⟩ := HY.out x z Hx.out (by omega)
                    obtain ⟨-, -, l3, l4, l5, l6⟩ := HY.out z y (by omega) (by omega)
                    obtain ⟨i1, i2, i3⟩ := HI.out x z Hx.out (by omega)
                    obtain ⟨j1, j2, j3⟩ := HI.out z y (by omega) (by omega)
                    obtain ⟨c1, hc1⟩ : ∃ c1, c1 = (apF t m x z).1 := ⟨_, rfl⟩
                    obtain ⟨c2, hc2⟩ : ∃ c2, c2 = (apF t m x z).2 := ⟨_, rfl⟩
                    obtain ⟨d1, hd1⟩ : ∃ d1, d1 = (apF t m z y).1 := ⟨_, rfl⟩
                    obtain ⟨d2, hd2⟩ : ∃ d2, d2 = (apF t m z y).2 := ⟨_, rfl⟩
                    rw [← hc2, ← hd2] at z1
                    rw [← hc1, ← hd1] at z2
                    rw [← hc1] at k3 k4
                    rw [← hc2] at k5 k6
                    rw [← hd1] at l3 l4
                    rw [← hd2] at l5 l6
                    go_upto_region 27 with (fail)
                    refine wp_region_lit ?_
                    refine seq_val rfl rfl (R_move (v := .int .i64 _) rfl rfl) (by simp only [List.set_cons_succ, List.set_cons_zero]; exact rfl) ?_
                    refine seq_val rfl rfl (R_move (v := .int .i64 _) rfl rfl) (by simp only [List.set_cons_succ, List.set_cons_zero]; exact rfl) ?_
                    refine seq_val rfl rfl (R_lss rfl rfl rfl) (by simp only [List.set_cons_succ, List.set_cons_zero]; exact rfl) ?_
                    refine wpList_nil ?_
                    obtain ⟨wd', hwd'⟩ : ∃ w', w' = wr := ⟨_, rfl⟩
                    subst hwd'
                    have hcc : Hid (∀ W : World, Ext [] wd' W → W.rangeAt bo (oo + (((x : Nat) : Int) * (N : Int) + ((z : Nat) : Int)).toNat * 2) [.int .i64 c1, .int .i64 c2]) := fun W hW => by
                      have := HB.out W (F.trans hW) x z Hx.out (by omega)
                      rw [hc1, hc2]; exact this
                    have hcd : Hid (∀ W : World, Ext [] wd' W → W.rangeAt bo (oo + (((z : Nat) : Int) * (N : Int) + ((y : Nat) : Int)).toNat * 2) [.int .i64 d1, .int .i64 d2]) := fun W hW => by
                      have := HB.out W (F.trans hW) z y (by omega) (by omega)
                      rw [hd1, hd2]; exact this
                    go_upto_region 29 with (fail)
                    go_cut [22, 23] from 193 to 208 (fun pv qv wc => ∃ n22 n23 : Nat, pv = .pointer (some ⟨n22, 0, none⟩) ∧ qv = .pointer (some ⟨n23, 0, none⟩) ∧ wc.heap[n22]? = some (.cells #[.int .i64 c1, .int .i64 c2] 23 (0, 0)) ∧ wc.heap[n23]? = some (.cells #[.int .i64 d1, .int .i64 d2] 23 (0, 0)) ∧ Ext [] wd' wc)
                    case first =>
                      rename_i J0 K0 hJ0 hK0
                      have G : Ext [] wd' wd' := Ext.refl _ _
                      refine region_until (Ext [] wd') 19 follows fun w1 hh eS => ?_
                      replace G := ext_same G eS
                      refine anyU_take (i := 0) (last := 19) rfl rfl (by decide) (by kernel_rfl) (by kernel_rfl) (by kernel_rfl) (by kernel_rfl) (by kernel_rfl) (fun _ _ _ h => h) rfl rfl (fun w' hS => R_move (v := .slice _ _ _) rfl rfl) eS (by simp only [List.set_cons_succ, List.set_cons_zero]; exact rfl) ?_
                      refine anyU_take (i := 1) (last := 19) rfl rfl (by decide) (by kernel_rfl) (by kernel_rfl) (by kernel_rfl) (by kernel_rfl) (by kernel_rfl) (fun _ _ _ h => h) rfl rfl (fun w' hS => R_move (v := .int .i64 _) rfl rfl) eS (by simp only [List.set_cons_succ, List.set_cons_zero]; exact rfl) ?_
                      refine anyU_take (i := 2) (last := 19) rfl rfl (by decide) (by kernel_rfl) (by kernel_rfl) (by kernel_rfl) (by kernel_rfl) (by kernel_rfl) (fun _ _ _ h => h) rfl rfl (fun w' hS => R_move (v := .int .i64 _) rfl rfl) eS (by simp only [List.set_cons_succ, List.set_cons_zero]; exact rfl) ?_
                      refine anyU_take (i := 3) (last := 19) rfl rfl (by decide) (by kernel_rfl) (by kernel_rfl) (by kernel_rfl) (by kernel_rfl) (by kernel_rfl) (fun _ _ _ h => h) rfl rfl (fun w' hS => R_mul rfl rfl rfl (by omega) (by omega)) eS (by simp only [List.set_cons_succ, List.set_cons_zero]; exact rfl) ?_
                      refine anyU_take (i := 4) (last := 19) rfl rfl (by decide) (by kernel_rfl) (by kernel_rfl) (by kernel_rfl) (by kernel_rfl) (by kernel_rfl) (fun _ _ _ h => h) rfl rfl (fun w' hS => R_move (v := .int .i64 _) rfl rfl) eS (by simp only [List.set_cons_succ, List.set_cons_zero]; exact rfl) ?_
                      refine anyU_take (i := 5) (last := 19) rfl rfl (by decide) (by kernel_rfl) (by kernel_rfl) (by kernel_rfl) (by kernel_rfl) (by kernel_rfl) (fun _ _ _ h => h) rfl rfl (fun w' hS => R_add rfl rfl rfl (by omega) (by omega)) eS (by simp only [List.set_cons_succ, List.set_cons_zero]; exact rfl) ?_
                      refine anyU_take (i := 6) (last := 19) rfl rfl (by decide) (by kernel_rfl) (by kernel_rfl) (by kernel_rfl) (by kernel_rfl) (by kernel_rfl) (fun _ _ _ h => h) rfl rfl (fun w' hS => R_ixSlice (sz := 2) rfl rfl rfl Try.underlying24 (by kernel_rfl) (by omega) (by omega)) eS (by simp only [List.set_cons_succ, List.set_cons_zero]; exact rfl) ?_
                      refine anyU_take (i := 7) (last := 19) rfl rfl (by decide) (by kernel_rfl) (by kernel_rfl) (by kernel_rfl) (by kernel_rfl) (by kernel_rfl) (fun _ _ _ h => h) rfl rfl (fun w' hS => R_loadRow (cs := [.int .i64 c1, .int .i64 c2]) rfl rfl Try.underlying23 rfl (by kernel_rfl) (hcc.out _ hS)) eS (by simp only [List.set_cons_succ, List.set_cons_zero]; exact rfl) ?_
                      refine anyU_take (i := 8) (last := 19) rfl rfl (by decide) (by kernel_rfl) (by kernel_rfl) (by kernel_rfl) (by kernel_rfl) (by kernel_rfl) (fun _ _ _ h => h) rfl rfl (fun w' hS => R_move (v := .slice _ _ _) rfl rfl) eS (by simp only [List.set_cons_succ, List.set_cons_zero]; exact rfl) ?_
                      refine anyU_take (i := 9) (last := 19) rfl rfl (by decide) (by kernel_rfl) (by kernel_rfl) (by kernel_rfl) (by kernel_rfl) (by kernel_rfl) (fun _ _ _ h => h) rfl rfl (fun w' hS => R_move (v := .int .i64 _) rfl rfl) eS (by simp only [List.set_cons_succ, List.set_cons_zero]; exact rfl) ?_
                      refine anyU_take (i := 10) (last := 19) rfl rfl (by decide) (by kernel_rfl) (by kernel_rfl) (by kernel_rfl) (by kernel_rfl) (by kernel_rfl) (fun _ _ _ h => h) rfl rfl (fun w' hS => R_move (v := .int .i64 _) rfl rfl) eS (by simp only [List.set_cons_succ, List.set_cons_zero]; exact rfl) ?_
                      refine anyU_take (i := 11) (last := 19) rfl rfl (by decide) (by kernel_rfl) (by kernel_rfl) (by kernel_rfl) (by kernel_rfl) (by kernel_rfl) (fun _ _ _ h => h) rfl rfl (fun w' hS => R_mul rfl rfl rfl (by omega) (by omega)) eS (by simp only [List.set_cons_succ, List.set_cons_zero]; exact rfl) ?_
                      refine anyU_take (i := 12) (last := 19) rfl rfl (by decide) (by kernel_rfl) (by kernel_rfl) (by kernel_rfl) (by kernel_rfl) (by kernel_rfl) (fun _ _ _ h => h) rfl rfl (fun w' hS => R_move (v := .int .i64 _) rfl rfl) eS (by simp only [List.set_cons_succ, List.set_cons_zero]; exact rfl) ?_
                      refine anyU_take (i := 13) (last := 19) rfl rfl (by decide) (by kernel_rfl) (by kernel_rfl) (by kernel_rfl) (by kernel_rfl) (by kernel_rfl) (fun _ _ _ h => h) rfl rfl (fun w' hS => R_add rfl rfl rfl (by omega) (by omega)) eS (by simp only [List.set_cons_succ, List.set_cons_zero]; exact rfl) ?_
                      refine anyU_take (i := 14) (last := 19) rfl rfl (by decide) (by kernel_rfl) (by kernel_rfl) (by kernel_rfl) (by kernel_rfl) (by kernel_rfl) (fun _ _ _ h => h) rfl rfl (fun w' hS => R_ixSlice (sz := 2) rfl rfl rfl Try.underlying24 (by kernel_rfl) (by omega) (by omega)) eS (by simp only [List.set_cons_succ, List.set_cons_zero]; exact rfl) ?_
                      refine anyU_take (i := 15) (last := 19) rfl rfl (by decide) (by kernel_rfl) (by kernel_rfl) (by kernel_rfl) (by kernel_rfl) (by kernel_rfl) (fun _ _ _ h => h) rfl rfl (fun w' hS => R_loadRow (cs := [.int .i64 d1, .int .i64 d2]) rfl rfl Try.underlying23 rfl (by kernel_rfl) (hcd.out _ hS)) eS (by simp only [List.set_cons_succ, List.set_cons_zero]; exact rfl) ?_
                      refine anyU_pair (i := 16) (j := 17) (by kernel_rfl) ?_ ?_
                      refine opU_new rfl rfl rfl (R_alloc rfl Try.zeroValue23) (by simp only [List.set_cons_succ, List.set_cons_zero]; exact rfl) fun w2 hw => ?_
                      have u22 := eS.size
                      replace eS := ext_alloc eS hw
                      obtain ⟨n22, hn⟩ : ∃ n, n = w1.heap.size := ⟨_, rfl⟩
                      rw [← hn]
                      have l22 : wd'.heap.size ≤ n22 := by rw [hn]; exact G.size
                      rw [← hn] at u22
                      have q22 := new_row hw hn
                      replace G := ext_alloc G hw
                      clear hw hn
                      refine ⟨fun _ => eS, ?_⟩
                      refine anyU_new (i := 17) rfl (by kernel_rfl) rfl rfl (R_alloc rfl Try.zeroValue23) (by simp only [List.set_cons_succ, List.set_cons_zero]; exact rfl) fun w3 hw => ?_
                      have u23 := eS.size
                      replace eS := ext_alloc eS hw
                      obtain ⟨n23, hn⟩ : ∃ n, n = w2.heap.size := ⟨_, rfl⟩
                      rw [← hn]
                      have l23 : wd'.heap.size ≤ n23 := by rw [hn]; exact G.size
                      have m23_22 : n22 < n23 := by rw [hn]; exact blk_lt q22
                      rw [← hn] at u23
                      replace q22 := keep_alloc hw q22
                      have q23 := new_row hw hn
                      replace G := ext_alloc G hw
                      clear hw hn
                      refine ⟨fun _ => eS, ?_⟩
                      refine anyU_to (i := 18) rfl (by kernel_rfl) rfl rfl (R_storeRow rfl rfl rfl (by kernel_rfl) (by simp [Value.oneCell']) q22 rfl) fun w5 hw => ?_
                      replace eS := ext_cells eS hw (fun h => absurd h (by omega))
                      replace q22 := put_row hw q22 rfl
                      replace q23 := keep_cells hw q23 (by omega)
                      replace G := ext_cells G hw (fun h => by first | exact absurd h (by omega) | simp)
                      clear hw
                      refine ⟨fun _ => eS, ?_⟩
                      refine anyU_last (o := _) rfl (by kernel_rfl) rfl rfl (R_storeRow rfl rfl rfl (by kernel_rfl) (by simp [Value.oneCell']) q23 rfl) (by kernel_rfl) fun w6 hw => ?_
                      replace q22 := keep_cells hw q22 (by omega)
                      replace q23 := put_row hw q23 rfl
                      replace G := ext_cells G hw (fun h => by first | exact absurd h (by omega) | simp)
                      clear hw
                      refine anyU_done (by kernel_rfl) ?_ _
                      clear hh eS
                      rotate_left
                      refine opU_new rfl rfl rfl (R_alloc rfl Try.zeroValue23) (by simp only [List.set_cons_succ, List.set_cons_zero]; exact rfl) fun w2 hw => ?_
                      have u23 := eS.size
                      replace eS := ext_alloc eS hw
                      obtain ⟨n23, hn⟩ : ∃ n, n = w1.heap.size := ⟨_, rfl⟩
                      rw [← hn]
                      have l23 : wd'.heap.size ≤ n23 := by rw [hn]; exact G.size
                      rw [← hn] at u23
                      have q23 := new_row hw hn
                      replace G := ext_alloc G hw
                      clear hw hn
                      refine ⟨fun _ => eS, ?_⟩
                      refine anyU_new (i := 16) rfl (by kernel_rfl) rfl rfl (R_alloc rfl Try.zeroValue23) (by simp only [List.set_cons_succ, List.set_cons_zero]; exact rfl) fun w3 hw => ?_
                      have u22 := eS.size
                      replace eS := ext_alloc eS hw
                      obtain ⟨n22, hn⟩ : ∃ n, n = w2.heap.size := ⟨_, rfl⟩
                      rw [← hn]
                      have l22 : wd'.heap.size ≤ n22 := by rw [hn]; exact G.size
                      have m22_23 : n23 < n22 := by rw [hn]; exact blk_lt q23
                      rw [← hn] at u22
                      replace q23 := keep_alloc hw q23
                      have q22 := new_row hw hn
                      replace G := ext_alloc G hw
                      clear hw hn
                      refine ⟨fun _ => eS, ?_⟩
                      refine anyU_to (i := 18) rfl (by kernel_rfl) rfl rfl (R_storeRow rfl rfl rfl (by kernel_rfl) (by simp [Value.oneCell']) q22 rfl) fun w5 hw => ?_
                      replace eS := ext_cells eS hw (fun h => absurd h (by omega))
                      replace q23 := keep_cells hw q23 (by omega)
                      replace q22 := put_row hw q22 rfl
                      replace G := ext_cells G hw (fun h => by first | exact absurd h (by omega) | simp)
                      clear hw
                      refine ⟨fun _ => eS, ?_⟩
                      refine anyU_last (o := _) rfl (by kernel_rfl) rfl rfl (R_storeRow rfl rfl rfl (by kernel_rfl) (by simp [Value.oneCell']) q23 rfl) (by kernel_rfl) fun w6 hw => ?_
                      replace q23 := put_row hw q23 rfl
                      replace q22 := keep_cells hw q22 (by omega)
                      replace G := ext_cells G hw (fun h => by first | exact absurd h (by omega) | simp)
                      clear hw
                      refine anyU_done (by kernel_rfl) ?_ _
                      clear hh eS
                      all_goals
                        refine hK0 _ _ (hJ0 _ _ ?_)
                        (repeat apply Exists.intro)
                        refine ⟨?rel, ?fr⟩
                        case fr => rfl
                        case rel => exact ⟨_, _, rfl, rfl, q22, q23, G⟩
                    case rest =>
                      clear hcc hcd
                      obtain ⟨n22, n23, rfl, rfl, q22, q23, G⟩ := hcut
                      obtain ⟨we, hwi⟩ : ∃ w', w' = wc := ⟨_, rfl⟩
                      subst hwi
                      clear hc1 hc2 hd1 hd2 i1 i2 i3 j1 j2 j3
                      replace q19 := G.keep0 q19
                      replace F2 := F2.trans G
                      clear G F
                      go_upto_region 30 with (fail)
                      refine wp_region_lit ?_
                      refine seq_val rfl rfl (R_field rfl rfl Try.underlying23 rfl (n := 1) (sz := 1) rfl (by kernel_rfl) (by decide)) (by simp only [List.set_cons_succ, List.set_cons_zero]; exact rfl) ?_
                      refine seq_val rfl rfl (R_load rfl rfl Try.underlying3 rfl ((cells_of_block q19 1).trans (getS (get0)))) (by simp only [List.set_cons_succ, List.set_cons_zero]; exact rfl) ?_
                      refine seq_val rfl rfl (R_field rfl rfl Try.underlying23 rfl (n := 1) (sz := 1) rfl (by kernel_rfl) (by decide)) (by simp only [List.set_cons_succ, List.set_cons_zero]; exact rfl) ?_
                      refine seq_val rfl rfl (R_load rfl rfl Try.underlying3 rfl ((cells_of_block q22 1).trans (getS (get0)))) (by simp only [List.set_cons_succ, List.set_cons_zero]; exact rfl) ?_
                      refine seq_val rfl rfl (R_field rfl rfl Try.underlying23 rfl (n := 1) (sz := 1) rfl (by kernel_rfl) (by decide)) (by simp only [List.set_cons_succ, List.set_cons_zero]; exact rfl) ?_
                      refine seq_val rfl rfl (R_load rfl rfl Try.underlying3 rfl ((cells_of_block q23 1).trans (getS (get0)))) (by simp only [List.set_cons_succ, List.set_cons_zero]; exact rfl) ?_
                      refine seq_val rfl rfl (R_add rfl rfl rfl (by omega) (by omega)) (by simp only [List.set_cons_succ, List.set_cons_zero]; exact rfl) ?_
                      refine seq_val rfl rfl (R_gtrB (b := false) rfl rfl rfl (decide_eq_false (by omega))) (by simp only [List.set_cons_succ, List.set_cons_zero]; exact rfl) ?_
                      refine seq_val rfl rfl (R_move (v := .bool _) rfl rfl) (by simp only [List.set_cons_succ, List.set_cons_zero]; exact rfl) ?_
                      refine seq_val rfl rfl (R_field rfl rfl Try.underlying23 rfl (n := 0) (sz := 1) rfl (by kernel_rfl) (by decide)) (by simp only [List.set_cons_succ, List.set_cons_zero]; exact rfl) ?_
                      refine seq_val rfl rfl (R_load rfl rfl Try.underlying3 rfl ((cells_of_block q19 0).trans (get0))) (by simp only [List.set_cons_succ, List.set_cons_zero]; exact rfl) ?_
                      refine seq_val rfl rfl (R_field rfl rfl Try.underlying23 rfl (n := 0) (sz := 1) rfl (by kernel_rfl) (by decide)) (by simp only [List.set_cons_succ, List.set_cons_zero]; exact rfl) ?_
                      refine seq_val rfl rfl (R_load rfl rfl Try.underlying3 rfl ((cells_of_block q22 0).trans (get0))) (by simp only [List.set_cons_succ, List.set_cons_zero]; exact rfl) ?_
                      refine seq_val rfl rfl (R_field rfl rfl Try.underlying23 rfl (n := 0) (sz := 1) rfl (by kernel_rfl) (by decide)) (by simp only [List.set_cons_succ, List.set_cons_zero]; exact rfl) ?_
                      refine seq_val rfl rfl (R_load rfl rfl Try.underlying3 rfl ((cells_of_block q23 0).trans (get0))) (by simp only [List.set_cons_succ, List.set_cons_zero]; exact rfl) ?_
                      refine seq_val rfl rfl (R_add rfl rfl rfl (by omega) (by omega)) (by simp only [List.set_cons_succ, List.set_cons_zero]; exact rfl) ?_
                      refine seq_val rfl rfl (R_lssB (b := false) rfl rfl rfl (decide_eq_false (by omega))) (by simp only [List.set_cons_succ, List.set_cons_zero]; exact rfl) ?_
                      refine seq_val rfl rfl (R_pick rfl rfl rfl) (by simp only [List.set_cons_succ, List.set_cons_zero]; exact rfl) ?_
                      refine wpList_nil ?_
                      clear q19 q22 q23 k3 k4 k5 k6 l3 l4 l5 l6 z1 z2
                      go_wp2
                      go_roundw
                      case rel => exact ⟨z + 1, by omega, by go_num, F2⟩
                      case measure => simp [intOf]; omega
                  · have hh1 := hlz
                    go_upto_region 27 with (fail)
                    refine wp_region_lit ?_
                    refine seq_val rfl rfl (R_move (v := .int .i64 _) rfl rfl) (by simp only [List.set_cons_succ, List.set_cons_zero]; exact rfl) ?_
                    refine seq_val rfl rfl (R_move (v := .int .i64 _) rfl rfl) (by simp only [List.set_cons_succ, List.set_cons_zero]; exact rfl) ?_
                    refine seq_val rfl rfl (R_lss rfl rfl rfl) (by simp only [List.set_cons_succ, List.set_cons_zero]; exact rfl) ?_
                    refine wpList_nil ?_
                    go_wp2
                    go_roundw
                    case rel => exact ⟨y + 1, by omega, by go_num, F⟩
                    case measure => simp [intOf]; omega
            · have hh1 := hly
              go_upto_region 21 with (fail)
              refine wp_region_lit ?_
              refine seq_val rfl rfl (R_move (v := .int .i64 _) rfl rfl) (by simp only [List.set_cons_succ, List.set_cons_zero]; exact rfl) ?_
              refine seq_val rfl rfl (R_move (v := .int .i64 _) rfl rfl) (by simp only [List.set_cons_succ, List.set_cons_zero]; exact rfl) ?_
              refine seq_val rfl rfl (R_lss rfl rfl rfl) (by simp only [List.set_cons_succ, List.set_cons_zero]; exact rfl) ?_
              refine wpList_nil ?_
              go_wp2
              go_roundw
              case rel => exact ⟨x + 1, Hx.out, by go_num, F⟩
              case measure => have := Hx.out; simp [intOf]; omega
        · have hh1 := hlx
          go_upto_region 18 with (fail)
          refine wp_region_lit ?_
          refine seq_val rfl rfl (R_move (v := .int .i64 _) rfl rfl) (by simp only [List.set_cons_succ, List.set_cons_zero]; exact rfl) ?_
          refine seq_val rfl rfl (R_move (v := .int .i64 _) rfl rfl) (by simp only [List.set_cons_succ, List.set_cons_zero]; exact rfl) ?_
          refine seq_val rfl rfl (R_lss rfl rfl rfl) (by simp only [List.set_cons_succ, List.set_cons_zero]; exact rfl) ?_
          refine wpList_nil ?_
          go_upto_region 32 with (fail)
          refine wp_region_lit ?_
          refine seq_call rfl rfl (by kernel_rfl) (taken_any _) fun e w1 hR => ?_
          obtain ⟨rfl, e1⟩ := hR
          refine ⟨_, _, rfl, (by simp only [List.set_cons_succ, List.set_cons_zero]; exact rfl), ?_⟩
          replace F := ext_same F (e1)
          refine seq_val rfl rfl (R_assign (v := .bool _) rfl rfl) (by simp only [List.set_cons_succ, List.set_cons_zero]; exact rfl) ?_
          refine wpList_nil ?_
          go_wp2
          go_ret
          exact ⟨rfl, (E.trans Fz.out).trans F⟩
end Go.Proofs.Ytholfdgebdlgjaa
