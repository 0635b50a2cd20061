/- The law MeasureFixed: Fixed has just the measures whose bounds are one number. No conditions. -/
import Derived.Test.YtholfdgebdlgjaaNLo
namespace Go.Proofs.Ytholfdgebdlgjaa
open Go.RowKit
set_option linter.unusedVariables false
set_option linter.unusedSimpArgs false
theorem fixTo_pre (m : Nat → Nat → Int) (A : Nat) (s : Nat) : ∀ d, ∃ l, fixTo m A (s + d) = fixTo m A s ++ l
  | 0 => ⟨[], by simp⟩
  | d + 1 => by
    obtain ⟨l, hl⟩ := fixTo_pre m A s d
    exact ⟨l ++ fixIn m (s + d) A, by rw [← Nat.add_assoc]; simp only [fixTo]; rw [hl, List.append_assoc]⟩
theorem fixIn_pre (m : Nat → Nat → Int) (s a : Nat) : ∀ d, ∃ l, fixIn m s (a + d) = fixIn m s a ++ l
  | 0 => ⟨[], by simp⟩
  | d + 1 => by
    obtain ⟨l, hl⟩ := fixIn_pre m s a d
    rw [← Nat.add_assoc]
    simp only [fixIn]
    split
    · exact ⟨l ++ [_], by rw [hl, List.append_assoc]⟩
    · exact ⟨l, hl⟩
/-- What was counted up to a measure is a beginning of what Fixed returns. -/
theorem fix_at {m : Nat → Nat → Int} {A S s a : Nat} (hs : s < S) (ha : a < A) (h : -(m (nodeC s a) 0) = m 0 (nodeC s a)) :
    (fixTo m A S)[(fixTo m A s).length + (fixIn m s a).length]? = some ((s : Int), (a : Int)) := by
  obtain ⟨l, hl⟩ := fixTo_pre m A (s + 1) (S - (s + 1))
  rw [show s + 1 + (S - (s + 1)) = S by omega] at hl
  obtain ⟨l2, hl2⟩ := fixIn_pre m s (a + 1) (A - (a + 1))
  rw [show a + 1 + (A - (a + 1)) = A by omega] at hl2
  rw [hl]
  simp only [fixTo]
  rw [hl2]
  simp only [fixIn]
  rw [if_pos h]
  simp only [List.append_assoc]
  rw [List.getElem?_append_right (by omega), Nat.add_sub_cancel_left, List.getElem?_append_right (Nat.le_refl _), Nat.sub_self]
  simp
theorem pairs_cell {w : World} {n c : Nat} {a : Option Addr} {ps : List (Int × Int)} (h : IsPairs w (.slice a n c) ps) {i : Nat} {p : Int × Int} (hi : ps[i]? = some p) :
    ∃ bo g, a = some ⟨bo, 0, none⟩ ∧ n = ps.length ∧ ∀ W : World, Ext [] w W → W.cell? ⟨bo, 0 + i * 1, none⟩ = some (.slice (some ⟨g, 0, none⟩) 2 2) ∧ W.heap[g]? = some (.cells #[.int .i64 p.1, .int .i64 p.2] 3 (0, 0)) := by
  obtain ⟨base, vs, ho, hp⟩ := h
  obtain ⟨g, hv, hg⟩ := hp.2 i p hi
  have hil := (List.getElem?_eq_some_iff.1 hi).1
  rcases ho.2 with ⟨h1, h2⟩ | ⟨bo, cap, cur, h1, hb, hbo, h3, h4, h5, h6⟩
  · omega
  · refine ⟨bo, g, by cases h1; rfl, by cases h1; rfl, fun W E => ⟨?_, E.keep0 hg⟩⟩
    rw [cells_of_block (E.keep0 hbo), Nat.zero_add, Nat.mul_one]
    have := congrArg (fun l => l[i]?) h6
    simp only [List.getElem?_take] at this
    rw [if_pos (by omega)] at this
    rw [← Array.getElem?_toList, this, hv]
theorem isPairs_slice {w : World} {v : Value} {ps : List (Int × Int)} (h : IsPairs w v ps) : ∃ a c, v = .slice a ps.length c := by
  obtain ⟨base, vs, ho, hp⟩ := h
  exact owns_slice ho
set_option maxRecDepth 100000 in
set_option maxHeartbeats 4000000 in
theorem fixed_walk (a0 : Option Addr) (len0 cap0 : Nat) (z0 : List Int) (w : World) (h0 : IsRow .i64 w a0 len0 cap0 z0) :
    Calls Try.prog 15 #[.slice a0 len0 cap0] w fun e w' => e = .returned (.bool true) ∧ Ext [] w w' := by
  have HN := Lib.hid (newLots_any w a0 len0 cap0 z0 h0)
  clear h0
  have E : Ext [] w w := Ext.refl _ _
  go_enter Try.func15, Try.ntmps15
  go_upto_region 0 with (fail)
  refine wp_region_lit ?_
  refine seq_val rfl rfl (R_assign (v := .bool _) rfl rfl) (by simp only [List.set_cons_succ, List.set_cons_zero]; exact rfl) ?_
  refine wpList_nil ?_
  go_upto_region 1 with (fail)
  refine wp_region_lit ?_
  refine seq_val rfl rfl (R_move (v := .slice _ _ _) rfl rfl) (by simp only [List.set_cons_succ, List.set_cons_zero]; exact rfl) ?_
  refine seq_call rfl rfl (by kernel_rfl) (HN.out) fun e w1 hR => ?_
  obtain ⟨b, rfl, hb, hb2, HL, e1⟩ := hR
  refine ⟨_, _, rfl, (by simp only [List.set_cons_succ, List.set_cons_zero]; exact rfl), ?_⟩
  replace E := ext_same E (e1)
  refine seq_val rfl rfl (R_assign (v := .pointer (some ⟨_, _, none⟩)) rfl rfl) (by simp only [List.set_cons_succ, List.set_cons_zero]; exact rfl) ?_
  refine wpList_nil ?_
  clear e1 HN
  go_upto_region 2 with (fail)
  refine wp_region_lit ?_
  refine seq_val rfl rfl (R_move (v := .pointer (some ⟨_, _, none⟩)) rfl rfl) (by simp only [List.set_cons_succ, List.set_cons_zero]; exact rfl) ?_
  refine seq_val rfl rfl (R_move (v := .pointer (some ⟨_, _, none⟩)) rfl rfl) (by simp only [List.set_cons_succ, List.set_cons_zero]; exact rfl) ?_
  refine seq_new rfl rfl (R_buildSlice rfl Try.underlying29 (size := 1) (by kernel_rfl) (by decide) (by decide) Try.zeroValue3 (cells := #[.int .i64 0, .int .i64 2, .int .i64 6]) (by kernel_rfl)) (by simp only [List.set_cons_succ, List.set_cons_zero]; exact rfl) fun w2 hw => ?_
  obtain ⟨n19, hn⟩ : ∃ n, n = w1.heap.size := ⟨_, rfl⟩
  rw [← hn]
  have l19 : w.heap.size ≤ n19 := by rw [hn]; exact E.size
  have b19_HL := Nat.lt_of_lt_of_eq (lots_lt HL) hn.symm
  replace HL := lots_alloc hw HL
  have q19 := new_block hw hn
  replace E := ext_alloc E hw
  clear hw hn
  refine seq_call rfl rfl (by kernel_rfl) (of_any w _ b _ _ n19 _ [0, 2, 6] HL (by omega) q19 (by omega) (by decide) (by decide)) fun e w3 hR => ?_
  obtain ⟨wd, rfl, hwd, HL, e2⟩ := hR
  refine ⟨_, _, rfl, (by simp only [List.set_cons_succ, List.set_cons_zero]; exact rfl), ?_⟩
  replace q19 := (e2).keep q19 (by simp; omega)
  replace E := E.trans' e2 (fun i hi hl => by simp only [List.mem_cons, List.not_mem_nil, or_false] at hi ⊢; omega)
  replace hwd : 0 ≤ wd ∧ wd ≤ 60 := by simp at hwd; omega
  refine seq_call rfl rfl (by kernel_rfl) (measuredOf_any w _ b _ _ 2 3 wd HL (by omega) (by omega) (by omega) (by omega) (by omega) (by omega) (by omega)) fun e w4 hR => ?_
  obtain ⟨t, ms, ps, vs, gv, rv, lv, mv, pv, rfl, hM, hS, hA, hbm, og, orr, olk, om, hms, op, HL, e3⟩ := hR
  refine ⟨_, _, rfl, (by simp only [List.set_cons_succ, List.set_cons_zero]; exact rfl), ?_⟩
  replace q19 := (e3).keep q19 (by simp; omega)
  replace E := E.trans' e3 (fun i hi hl => by simp only [List.mem_cons, List.not_mem_nil, or_false] at hi ⊢; omega)
  have E2 : Ext [] w4 w4 := Ext.refl _ _
  have hT := tp_of_owns og orr olk
  obtain ⟨ga, gc, rfl⟩ := owns_slice og
  obtain ⟨ra, rc, rfl⟩ := owns_slice orr
  obtain ⟨la, lc, rfl⟩ := owns_slice olk
  obtain ⟨ma, mc, rfl⟩ := owns_slice om
  obtain ⟨pa, pc, rfl⟩ := owns_slice op
  clear og orr olk om op hms
  unfold tpV
  refine seq_val rfl rfl (R_move (v := .tuple _) rfl rfl) (by simp only [List.set_cons_succ, List.set_cons_zero]; exact rfl) ?_
  refine seq_val rfl rfl (R_extract rfl rfl (get0)) (by simp only [List.set_cons_succ, List.set_cons_zero]; exact rfl) ?_
  refine seq_val rfl rfl (R_extract rfl rfl (getS (get0))) (by simp only [List.set_cons_succ, List.set_cons_zero]; exact rfl) ?_
  refine seq_val rfl rfl (R_extract rfl rfl (getS (getS (get0)))) (by simp only [List.set_cons_succ, List.set_cons_zero]; exact rfl) ?_
  refine seq_new rfl rfl (R_alloc rfl Try.zeroValue28) (by simp only [List.set_cons_succ, List.set_cons_zero]; exact rfl) fun w5 hw => ?_
  obtain ⟨n4, hn⟩ : ∃ n, n = w4.heap.size := ⟨_, rfl⟩
  rw [← hn]
  have l4 : w.heap.size ≤ n4 := by rw [hn]; exact E.size
  have l4_E2 : w4.heap.size ≤ n4 := by rw [hn]; exact E2.size
  have b4_HL := Nat.lt_of_lt_of_eq (lots_lt HL) hn.symm
  have m4_19 : n19 < n4 := by rw [hn]; exact blk_lt q19
  replace q19 := keep_alloc hw q19
  replace E2 := ext_alloc E2 hw
  replace HL := lots_alloc hw HL
  have q4 := new_row hw hn
  replace E := ext_alloc E hw
  clear hw hn
  refine seq_to rfl rfl (R_storeRow rfl rfl rfl (by kernel_rfl) (by simp [Value.oneCell']) q4 rfl) fun w6 hw => ?_
  replace q19 := keep_cells hw q19 (by omega)
  replace q4 := put_row hw q4 rfl
  replace E2 := ext_cells E2 hw (fun h => by first | exact absurd h (by omega) | simp)
  replace HL := lots_cells hw HL (by omega) (by omega)
  replace E := ext_cells E hw (fun h => by first | exact absurd h (by omega) | simp)
  clear hw
  refine seq_val rfl rfl (R_assign (v := .slice _ _ _) rfl rfl) (by simp only [List.set_cons_succ, List.set_cons_zero]; exact rfl) ?_
  refine seq_val rfl rfl (R_assign (v := .slice _ _ _) rfl rfl) (by simp only [List.set_cons_succ, List.set_cons_zero]; exact rfl) ?_
  refine wpList_nil ?_
  have hL := hM.live
  have hT1 : t.gr.length ≤ 1000 := by have := hM.grl; omega
  have hT2 : t.rd.length ≤ 1000 := by have := hM.rdl; omega
  have hT3 : t.lk.length ≤ 1000 := by have := hM.lkl; omega
  have hA1 := hM.A1
  have hS1 := hM.S1
  have HT : Hid (∀ W : World, Ext [] w6 W → IsTp W (.slice ga t.gr.length gc) (.slice ra t.rd.length rc) (.slice la t.lk.length lc) t) := fun W hW => (hT.ext E2 (by simp)).ext hW (by simp)
  clear hT e2 e3 HL hM
  obtain ⟨wo, hwo⟩ : ∃ wo, wo = w6 := ⟨_, rfl⟩
  subst hwo
  clear q19
  have HW : Hid (∀ (s a : Int) (W : World), Ext [] wo W → Calls Try.prog 33 #[tpV t (.slice ga t.gr.length gc) (.slice ra t.rd.length rc) (.slice la t.lk.length lc), .int .i64 s, .int .i64 a] W fun e w' => e = .returned (.tuple #[.agg #[.int .i64 (measV t s a).1, .int .i64 (measV t s a).2], .int .i64 (measE t s a)]) ∧ Ext [] W w') :=
    fun s a W hW => measure_any t _ _ _ s a W (HT.out W hW) hT1 hT2 hT3
  unfold tpV at HW
  have HF : Hid (∀ (W : World), Ext [] wo W → Calls Try.prog 61 #[tpV t (.slice ga t.gr.length gc) (.slice ra t.rd.length rc) (.slice la t.lk.length lc)] W fun e w' => ∃ v, e = .returned (.tuple #[v, .int .i64 (fixE t)]) ∧ IsPairs w' v (fixL t) ∧ Ext [] W w') :=
    fun W hW => fixed_any t _ _ _ W (HT.out W hW) hT1 hT2 hT3
  have hfE : fixE t = 0 := solved_of (open_known hL.check (fun i hi n hn => by simp [noX] at hn)) hL.bdB
  have hfL : fixL t = fixTo (bdV t 0) t.A.toNat t.S.toNat := by rw [fixL, if_pos hfE]
  rw [hfE, hfL] at HF
  unfold tpV at HF
  clear HT hT1 hT2 hT3 hfE hfL
  have hFl := fixTo_len (bdV t 0) t.A.toNat t.S.toNat
  have hFl2 : (fixTo (bdV t 0) t.A.toNat t.S.toNat).length ≤ 1000 := by
    refine Nat.le_trans hFl (Nat.le_trans (Nat.mul_le_mul (show t.A.toNat ≤ 3 by omega) (show t.S.toNat ≤ 3 by omega)) (by decide))
  clear hFl
  go_upto_region 3 with (fail)
  refine wp_region_lit ?_
  refine seq_val rfl rfl (R_loadBlk rfl rfl Try.underlying28 rfl (by kernel_rfl) q4) (by simp only [List.set_cons_succ, List.set_cons_zero]; exact rfl) ?_
  refine seq_call rfl rfl (by kernel_rfl) (HF.out _ (Ext.refl _ _)) fun e w7 hR => ?_
  obtain ⟨fv, rfl, hP, e1⟩ := hR
  refine ⟨_, _, rfl, (by simp only [List.set_cons_succ, List.set_cons_zero]; exact rfl), ?_⟩
  replace q4 := (e1).keep0 q4
  replace E2 := ext_same E2 (e1)
  replace E := ext_same E (e1)
  obtain ⟨fa, fc, rfl⟩ := isPairs_slice hP
  refine seq_val rfl rfl (R_move (v := .tuple _) rfl rfl) (by simp only [List.set_cons_succ, List.set_cons_zero]; exact rfl) ?_
  refine seq_val rfl rfl (R_extract rfl rfl (get0)) (by simp only [List.set_cons_succ, List.set_cons_zero]; exact rfl) ?_
  refine seq_val rfl rfl (R_extract rfl rfl (getS (get0))) (by simp only [List.set_cons_succ, List.set_cons_zero]; exact rfl) ?_
  refine seq_val rfl rfl (R_assign (v := .slice _ _ _) rfl rfl) (by simp only [List.set_cons_succ, List.set_cons_zero]; exact rfl) ?_
  refine seq_val rfl rfl (R_assign (v := .int .i64 _) rfl rfl) (by simp only [List.set_cons_succ, List.set_cons_zero]; exact rfl) ?_
  refine wpList_nil ?_
  have HE1 := Lib.hid e1
  clear E2 e1 HF
  have q4o := Lib.hid q4
  go_upto_region 6 with (fail)
  refine wp_region_lit ?_
  refine seq_val rfl rfl (R_assign (v := .int .i64 _) rfl rfl) (by simp only [List.set_cons_succ, List.set_cons_zero]; exact rfl) ?_
  refine wpList_nil ?_
  go_upto_region 7 with (fail)
  refine wp_region_lit ?_
  refine seq_val rfl rfl (R_assign (v := .int .i64 _) rfl rfl) (by simp only [List.set_cons_succ, List.set_cons_zero]; exact rfl) ?_
  refine wpList_nil ?_
  obtain ⟨wp, hwp⟩ : ∃ wp, wp = w7 := ⟨_, rfl⟩
  subst hwp
  obtain ⟨m, hm⟩ : ∃ m, m = bdV t 0 := ⟨_, rfl⟩
  have hM0 : Hid (∀ s a : Nat, (s : Int) < t.S → (a : Int) < t.A → measE t s a = 0 ∧ measV t s a = (-(m (nodeC s a) 0), m 0 (nodeC s a))) := fun s a hs ha => by
    rw [hm]; exact hL.meas (by omega) hs (by omega) ha
  rw [← hm] at hP hFl2
  rw [← hm]
  obtain ⟨N, hN⟩ : ∃ N, N = (fixTo m t.A.toNat t.S.toNat).length := ⟨_, rfl⟩
  rw [← hN] at hFl2
  rw [← hN]
  have HP := Lib.hid hP
  have HN := Lib.hid hN
  clear hm hP hN
  go_wp2_with fail
  go_loopw [10, 9] (fun iv av wr => ∃ s : Nat, (s : Int) ≤ t.S ∧ iv = .int .i64 s ∧ av = .int .i64 (fixTo m t.A.toNat s).length ∧ Ext [] wp wr) (fun iv _ _ => t.S.toNat - (intOf iv).toNat)
  case atStart => exact ⟨0, by omega, rfl, rfl, Ext.refl _ _⟩
  case round =>
    clear q4
    obtain ⟨s, hs, rfl, rfl, F⟩ := hrel
    have q4 := F.keep0 q4o.out
    by_cases hls : (s : Int) < t.S
    · have hs' := hs
      go_upto_region 8 with (fail)
      refine wp_region_lit ?_
      refine seq_val rfl rfl (R_move (v := .int .i64 _) rfl rfl) (by simp only [List.set_cons_succ, List.set_cons_zero]; exact rfl) ?_
      refine seq_val rfl rfl (R_field rfl rfl Try.underlying28 rfl (n := 0) (sz := 1) rfl (by kernel_rfl) (by decide)) (by simp only [List.set_cons_succ, List.set_cons_zero]; exact rfl) ?_
      refine seq_val rfl rfl (R_load rfl rfl Try.underlying3 rfl ((cells_of_block q4 0).trans (get0))) (by simp only [List.set_cons_succ, List.set_cons_zero]; exact rfl) ?_
      refine seq_val rfl rfl (R_lss rfl rfl rfl) (by simp only [List.set_cons_succ, List.set_cons_zero]; exact rfl) ?_
      refine wpList_nil ?_
      go_upto_region 10 with (fail)
      refine wp_region_lit ?_
      refine seq_val rfl rfl (R_assign (v := .int .i64 _) rfl rfl) (by simp only [List.set_cons_succ, List.set_cons_zero]; exact rfl) ?_
      refine wpList_nil ?_
      go_wp2_with fail
      go_loopw [11, 9] (fun iv av wr => ∃ a : Nat, (a : Int) ≤ t.A ∧ iv = .int .i64 a ∧ av = .int .i64 ((fixTo m t.A.toNat s).length + (fixIn m s a).length : Nat) ∧ Ext [] wp wr) (fun iv _ _ => t.A.toNat - (intOf iv).toNat)
      case atStart => exact ⟨0, by omega, rfl, by simp [fixIn], F⟩
      case round =>
        clear q4 F
        obtain ⟨a, ha, rfl, rfl, F⟩ := hrel
        have q4 := F.keep0 q4o.out
        by_cases hla : (a : Int) < t.A
        · have ha' := ha
          obtain ⟨h1, h2⟩ := hM0.out s a hls hla
          have c1 := HW.out s a
          rw [h1, h2] at c1
          have Hfix := Lib.hid (fix_at (m := m) (A := t.A.toNat) (S := t.S.toNat) (s := s) (a := a) (by omega) (by omega))
          have hstep : Hid (fixIn m s (a + 1) = if -(m (nodeC s a) 0) = m 0 (nodeC s a) then fixIn m s a ++ [((s : Int), (a : Int))] else fixIn m s a) := rfl
          obtain ⟨k, hk⟩ : ∃ k, k = (fixTo m t.A.toNat s).length + (fixIn m s a).length := ⟨_, rfl⟩
          rw [← hk] at Hfix
          rw [← hk]
          have Hk := Lib.hid hk
          generalize m (nodeC s a) 0 = x at c1 Hfix hstep
          generalize m 0 (nodeC s a) = y at c1 Hfix hstep
          replace c1 := Lib.hid c1
          clear h1 h2 hk
          go_upto_region 11 with (fail)
          refine wp_region_lit ?_
          refine seq_val rfl rfl (R_move (v := .int .i64 _) rfl rfl) (by simp only [List.set_cons_succ, List.set_cons_zero]; exact rfl) ?_
          refine seq_val rfl rfl (R_field rfl rfl Try.underlying28 rfl (n := 1) (sz := 1) rfl (by kernel_rfl) (by decide)) (by simp only [List.set_cons_succ, List.set_cons_zero]; exact rfl) ?_
          refine seq_val rfl rfl (R_load rfl rfl Try.underlying3 rfl ((cells_of_block q4 1).trans (getS (get0)))) (by simp only [List.set_cons_succ, List.set_cons_zero]; exact rfl) ?_
          refine seq_val rfl rfl (R_lss rfl rfl rfl) (by simp only [List.set_cons_succ, List.set_cons_zero]; exact rfl) ?_
          refine wpList_nil ?_
          go_upto_region 13 with (fail)
          refine wp_region_lit ?_
          refine seq_val rfl rfl (R_loadBlk rfl rfl Try.underlying28 rfl (by kernel_rfl) q4) (by simp only [List.set_cons_succ, List.set_cons_zero]; exact rfl) ?_
          refine seq_val rfl rfl (R_move (v := .int .i64 _) rfl rfl) (by simp only [List.set_cons_succ, List.set_cons_zero]; exact rfl) ?_
          refine seq_val rfl rfl (R_move (v := .int .i64 _) rfl rfl) (by simp only [List.set_cons_succ, List.set_cons_zero]; exact rfl) ?_
          refine seq_call rfl rfl (by kernel_rfl) (c1.out _ (HE1.out.trans F)) fun e w1 hR => ?_
          obtain ⟨rfl, e1⟩ := hR
          refine ⟨_, _, rfl, (by simp only [List.set_cons_succ, List.set_cons_zero]; exact rfl), ?_⟩
          replace q4 := (e1).keep0 q4
          replace F := ext_same F (e1)
          refine seq_val rfl rfl (R_move (v := .tuple _) rfl rfl) (by simp only [List.set_cons_succ, List.set_cons_zero]; exact rfl) ?_
          refine seq_val rfl rfl (R_extract rfl rfl (get0)) (by simp only [List.set_cons_succ, List.set_cons_zero]; exact rfl) ?_
          refine seq_val rfl rfl (R_extract rfl rfl (getS (get0))) (by simp only [List.set_cons_succ, List.set_cons_zero]; exact rfl) ?_
          refine seq_new rfl rfl (R_alloc rfl Try.zeroValue23) (by simp only [List.set_cons_succ, List.set_cons_zero]; exact rfl) fun w2 hw => ?_
          obtain ⟨n12, hn⟩ : ∃ n, n = w1.heap.size := ⟨_, rfl⟩
          rw [← hn]
          have l12 : wp.heap.size ≤ n12 := by rw [hn]; exact F.size
          have m12_4 : n4 < n12 := by rw [hn]; exact blk_lt q4
          replace q4 := keep_alloc hw q4
          have q12 := new_row hw hn
          replace F := ext_alloc F hw
          clear hw hn
          refine seq_to rfl rfl (R_storeRow rfl rfl rfl (by kernel_rfl) (by simp [Value.oneCell']) q12 rfl) fun w3 hw => ?_
          replace q4 := keep_cells hw q4 (by omega)
          replace q12 := put_row hw q12 rfl
          replace F := ext_cells F hw (fun h => by first | exact absurd h (by omega) | simp)
          clear hw
          refine seq_val rfl rfl (R_assign (v := .int .i64 _) rfl rfl) (by simp only [List.set_cons_succ, List.set_cons_zero]; exact rfl) ?_
          refine wpList_nil ?_
          clear e1 c1
          have c12_0 := (cells_of_block q12 0).trans rfl
          have c12_1 := (cells_of_block q12 1).trans rfl
          by_cases hxy : -x = y
          · subst hxy
            have hat := Hfix.out rfl
            have hkN : k < N := by rw [HN.out]; exact (List.getElem?_eq_some_iff.1 hat).1
            obtain ⟨bo, g, hfa, -, hcl⟩ := pairs_cell HP.out hat
            subst hfa
            have Hcl := Lib.hid hcl
            have hge : decide ((N : Int) ≤ (k : Int)) = false := decide_eq_false (by omega)
            clear hat hcl
            go_upto_region 17 with (fail)
            clear c12_0 c12_1
            go_upto_region 17 with (fail)
            refine wp_region_lit ?_
            refine seq_val rfl rfl (R_move (v := .int .i64 _) rfl rfl) (by simp only [List.set_cons_succ, List.set_cons_zero]; exact rfl) ?_
            refine seq_val rfl rfl (R_move (v := .slice _ _ _) rfl rfl) (by simp only [List.set_cons_succ, List.set_cons_zero]; exact rfl) ?_
            refine seq_val rfl rfl (R_len rfl rfl rfl Try.underlying50) (by simp only [List.set_cons_succ, List.set_cons_zero]; exact rfl) ?_
            refine seq_val rfl rfl (R_geq rfl rfl rfl) (by simp only [List.set_cons_succ, List.set_cons_zero]; exact rfl) ?_
            rw [hge]
            refine seq_val rfl rfl (R_move (v := .bool _) rfl rfl) (by simp only [List.set_cons_succ, List.set_cons_zero]; exact rfl) ?_
            refine seq_val rfl rfl (R_move (v := .slice _ _ _) rfl rfl) (by simp only [List.set_cons_succ, List.set_cons_zero]; exact rfl) ?_
            refine seq_val rfl rfl (R_move (v := .int .i64 _) rfl rfl) (by simp only [List.set_cons_succ, List.set_cons_zero]; exact rfl) ?_
            refine seq_val rfl rfl (R_ixSlice (sz := 1) rfl rfl rfl Try.underlying50 (by kernel_rfl) (by omega) (by omega)) (by simp only [List.set_cons_succ, List.set_cons_zero]; exact rfl) ?_
            have hcq := Hcl.out _ F
            refine seq_val rfl rfl (R_load (v := .slice (some ⟨g, 0, none⟩) 2 2) rfl rfl Try.underlying29 rfl hcq.1) (by simp only [List.set_cons_succ, List.set_cons_zero]; exact rfl) ?_
            refine seq_val rfl rfl (R_move (v := .int .i64 _) rfl rfl) (by simp only [List.set_cons_succ, List.set_cons_zero]; exact rfl) ?_
            refine seq_val rfl rfl (R_move (v := .int .i64 _) rfl rfl) (by simp only [List.set_cons_succ, List.set_cons_zero]; exact rfl) ?_
            refine seq_new rfl rfl (R_buildSlice rfl Try.underlying29 (size := 1) (by kernel_rfl) (by decide) (by decide) Try.zeroValue3 (cells := #[.int .i64 s, .int .i64 a]) (by kernel_rfl)) (by simp only [List.set_cons_succ, List.set_cons_zero]; exact rfl) fun w4 hw => ?_
            obtain ⟨n69, hn⟩ : ∃ n, n = w3.heap.size := ⟨_, rfl⟩
            rw [← hn]
            have l69 : wp.heap.size ≤ n69 := by rw [hn]; exact F.size
            have m69_4 : n4 < n69 := by rw [hn]; exact blk_lt q4
            have m69_12 : n12 < n69 := by rw [hn]; exact blk_lt q12
            replace q4 := keep_alloc hw q4
            replace q12 := keep_alloc hw q12
            have q69 := new_block hw hn
            replace F := ext_alloc F hw
            clear hw hn
            have hcr := (Hcl.out _ F).2
            have hsame := sameInts_any [(s : Int), (a : Int)] [(s : Int), (a : Int)] (some ⟨g, 0, none⟩) (some ⟨n69, 0, none⟩) 2 2 _ (rows_lit [(s : Int), (a : Int)] 2 hcr) (rows_lit [(s : Int), (a : Int)] 2 q69) (by simp) (by simp)
            rw [decide_eq_true rfl] at hsame
            replace hsame := Lib.hid hsame
            refine seq_call rfl rfl (by kernel_rfl) (hsame.out) fun e w5 hR => ?_
            obtain ⟨rfl, e2⟩ := hR
            refine ⟨_, _, rfl, (by simp only [List.set_cons_succ, List.set_cons_zero]; exact rfl), ?_⟩
            replace q4 := (e2).keep0 q4
            replace q12 := (e2).keep0 q12
            replace q69 := (e2).keep0 q69
            replace F := ext_same F (e2)
            refine seq_val rfl rfl (R_not rfl rfl) (by simp only [List.set_cons_succ, List.set_cons_zero]; exact rfl) ?_
            refine seq_val rfl rfl (R_pick rfl rfl rfl) (by simp only [List.set_cons_succ, List.set_cons_zero]; exact rfl) ?_
            refine wpList_nil ?_
            clear e2 hsame hcq hcr
            have HK1 : Hid ((fixTo m t.A.toNat s).length + (fixIn m s (a + 1)).length = k + 1) := by
              show _ = _
              rw [hstep.out, if_pos rfl, List.length_append, List.length_singleton, Hk.out]; omega
            go_wp2
            go_roundw
            case rel => exact ⟨a + 1, by omega, by go_num, by rw [HK1.out]; go_num, F⟩
            case measure => simp [intOf]; omega
          · have hb : (-x == y) = false := by simpa using hxy
            have HK1 : Hid ((fixTo m t.A.toNat s).length + (fixIn m s (a + 1)).length = k) := by
              show _ = _
              rw [hstep.out, if_neg hxy, Hk.out]
            go_wp2
            go_roundw
            case rel => exact ⟨a + 1, by omega, by go_num, by rw [HK1.out], F⟩
            case measure => simp [intOf]; omega
        · have haA : a = t.A.toNat := by omega
          have HK1 : Hid ((fixTo m t.A.toNat s).length + (fixIn m s a).length = (fixTo m t.A.toNat (s + 1)).length) := by
            show _ = _
            simp only [fixTo]
            rw [List.length_append, haA]
          clear haA
          go_upto_region 11 with (fail)
          refine wp_region_lit ?_
          refine seq_val rfl rfl (R_move (v := .int .i64 _) rfl rfl) (by simp only [List.set_cons_succ, List.set_cons_zero]; exact rfl) ?_
          refine seq_val rfl rfl (R_field rfl rfl Try.underlying28 rfl (n := 1) (sz := 1) rfl (by kernel_rfl) (by decide)) (by simp only [List.set_cons_succ, List.set_cons_zero]; exact rfl) ?_
          refine seq_val rfl rfl (R_load rfl rfl Try.underlying3 rfl ((cells_of_block q4 1).trans (getS (get0)))) (by simp only [List.set_cons_succ, List.set_cons_zero]; exact rfl) ?_
          refine seq_val rfl rfl (R_lss rfl rfl rfl) (by simp only [List.set_cons_succ, List.set_cons_zero]; exact rfl) ?_
          refine wpList_nil ?_
          go_wp2
          go_roundw
          case rel => exact ⟨s + 1, by omega, by go_num, by rw [← HK1.out], F⟩
          case measure => simp [intOf]; omega
    · have hsS : s = t.S.toNat := by omega
      have HK1 : Hid ((fixTo m t.A.toNat s).length = N) := by
        show _ = _
        rw [hsS, HN.out]
      clear hsS
      rw [HK1.out]
      go_upto_region 8 with (fail)
      refine wp_region_lit ?_
      refine seq_val rfl rfl (R_move (v := .int .i64 _) rfl rfl) (by simp only [List.set_cons_succ, List.set_cons_zero]; exact rfl) ?_
      refine seq_val rfl rfl (R_field rfl rfl Try.underlying28 rfl (n := 0) (sz := 1) rfl (by kernel_rfl) (by decide)) (by simp only [List.set_cons_succ, List.set_cons_zero]; exact rfl) ?_
      refine seq_val rfl rfl (R_load rfl rfl Try.underlying3 rfl ((cells_of_block q4 0).trans (get0))) (by simp only [List.set_cons_succ, List.set_cons_zero]; exact rfl) ?_
      refine seq_val rfl rfl (R_lss rfl rfl rfl) (by simp only [List.set_cons_succ, List.set_cons_zero]; exact rfl) ?_
      refine wpList_nil ?_
      go_upto_region 20 with (fail)
      refine wp_region_lit ?_
      refine seq_val rfl rfl (R_move (v := .int .i64 _) rfl rfl) (by simp only [List.set_cons_succ, List.set_cons_zero]; exact rfl) ?_
      refine seq_val rfl rfl (R_move (v := .slice _ _ _) rfl rfl) (by simp only [List.set_cons_succ, List.set_cons_zero]; exact rfl) ?_
      refine seq_val rfl rfl (R_len rfl rfl rfl Try.underlying50) (by simp only [List.set_cons_succ, List.set_cons_zero]; exact rfl) ?_
      refine seq_val rfl rfl (R_eql rfl rfl rfl) (by simp only [List.set_cons_succ, List.set_cons_zero]; exact rfl) ?_
      rw [beq_self_eq_true]
      refine seq_val rfl rfl (R_move (v := .bool _) rfl rfl) (by simp only [List.set_cons_succ, List.set_cons_zero]; exact rfl) ?_
      refine seq_call rfl rfl (by kernel_rfl) (taken_any _) fun e w1 hR => ?_
      obtain ⟨rfl, e1⟩ := hR
      refine ⟨_, _, rfl, (by simp only [List.set_cons_succ, List.set_cons_zero]; exact rfl), ?_⟩
      replace q4 := (e1).keep0 q4
      replace F := ext_same F (e1)
      refine seq_val rfl rfl (R_pick rfl rfl rfl) (by simp only [List.set_cons_succ, List.set_cons_zero]; exact rfl) ?_
      refine seq_val rfl rfl (R_assign (v := .bool _) rfl rfl) (by simp only [List.set_cons_succ, List.set_cons_zero]; exact rfl) ?_
      refine wpList_nil ?_
      go_wp2
      go_ret
      exact ⟨rfl, E.trans F⟩
end Go.Proofs.Ytholfdgebdlgjaa
