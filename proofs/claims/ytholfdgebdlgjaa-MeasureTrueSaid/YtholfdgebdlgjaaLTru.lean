/- The law MeasureTrue: measures, pulls and differences lie within all bounds if tapes were read of them. No conditions. -/
import Derived.Test.YtholfdgebdlgjaaVc
namespace Go.Proofs.Ytholfdgebdlgjaa
open Go.RowKit
set_option linter.unusedVariables false
set_option linter.unusedSimpArgs false
/-- The measures and pulls that tapes were made of lie within the bounds. -/
theorem made_meas {t : Tp} {ms : List (List Int)} {ps : List Int} (h : Made t ms ps) {s a : Nat} (hs : (s : Int) < t.S) (ha : (a : Int) < t.A) : mlo t s a ≤ (ms.getD s []).getD a 0 ∧ (ms.getD s []).getD a 0 ≤ mhi t s a ∧ 0 ≤ (ms.getD s []).getD a 0 ∧ (ms.getD s []).getD a 0 ≤ 1000 := by
  have hx := h.tr 0
  have l := live_cell hs ha
  have o1 := h.S3
  have o2 := h.A3
  have e := mkX_C ms ps (s := s) (a := a) (by omega) (by omega)
  have a1 := (h.live.top (live_zero t) l).1 _ hx
  have a2 := (h.live.top l (live_zero t)).1 _ hx
  rw [e, mkX_0] at a1 a2
  have m := h.meas (s := s) (a := a) (by omega) hs (by omega) ha
  simp only [Int.toNat_natCast] at m
  have := h.bl1; have := h.bl2; have := h.bm1
  unfold mlo mhi
  omega
theorem made_apart {t : Tp} {ms : List (List Int)} {ps : List Int} (h : Made t ms ps) {s a : Nat} (hs : (s : Int) < t.S) (ha : (a : Int) < t.A) : dlo t s a 0 0 ≤ (ms.getD s []).getD a 0 - (ms.getD 0 []).getD 0 0 ∧ (ms.getD s []).getD a 0 - (ms.getD 0 []).getD 0 0 ≤ dhi t s a 0 0 := by
  have hx := h.tr 0
  have l := live_cell hs ha
  have o1 := h.S3
  have o2 := h.A3
  have o3 := h.S1
  have o4 := h.A1
  have l0 : live t (nodeC 0 0) := live_cell (t := t) (s := 0) (a := 0) (by omega) (by omega)
  have e := mkX_C ms ps (s := s) (a := a) (by omega) (by omega)
  have e0 := mkX_C ms ps (s := 0) (a := 0) (by omega) (by omega)
  have a1 := (h.live.top l0 l).1 _ hx
  have a2 := (h.live.top l l0).1 _ hx
  rw [show mkX ms ps (nodeC 0 0) = _ from e0, e] at a1 a2
  unfold dlo dhi
  omega
theorem made_pull {t : Tp} {ms : List (List Int)} {ps : List Int} (h : Made t ms ps) {i : Nat} (hi : (i : Int) < t.T) : plo t i ≤ ps.getD i 0 ∧ ps.getD i 0 ≤ phi t i := by
  have hx := h.tr 0
  have l := live_tail hi
  have o1 := h.T3
  have e := mkX_T ms ps (i := i) (by omega)
  have a1 := (h.live.top (live_zero t) l).1 _ hx
  have a2 := (h.live.top l (live_zero t)).1 _ hx
  rw [e, mkX_0] at a1 a2
  unfold plo phi
  omega
theorem made_len {t : Tp} {ms : List (List Int)} {ps : List Int} (h : Made t ms ps) : (ms.length : Int) = t.S ∧ (ps.length : Int) = t.T ∧ ∀ s : Nat, (s : Int) < t.S → ((ms.getD s []).length : Int) = t.A := by
  have g := h.grl
  have l := h.rows.len
  refine ⟨by omega, h.psl, fun s hs => ?_⟩
  exact (h.rows.at (s := s) (a := 0) (by omega) (by have := h.A1; omega)).1.len
set_option maxRecDepth 100000 in
theorem true_walk (a0 : Option Addr) (len0 cap0 : Nat) (z0 : List Int) (w : World) (h0 : IsRow .i64 w a0 len0 cap0 z0) :
    Calls Try.prog 13 #[.slice a0 len0 cap0] w fun e w' => e = .returned (.bool true) ∧ Ext [] w w' := by
  have HN := Lib.hid (newLots_any w a0 len0 cap0 z0 h0)
  clear h0
  have E : Ext [] w w := Ext.refl _ _
  refine calls_has 164 Try.func13 rfl Try.ntmps13 (Nat.le_of_ble_eq_true rfl) ?_
  intro fa F
  refine wp_seq_k fun K1 hK1 => ?_
  refine wp_region_lit ?_
  refine sq_val F rfl (by decide) rfl (R_assign rfl (ev_c fa _)) ?_; clear F fa; intro fa F
  refine wpList_nil ?_
  refine hK1 _ _ ?_
  clear hK1
  refine wp_seq_k fun K2 hK2 => ?_
  refine wp_region_lit ?_
  refine sq_val F rfl (by decide) rfl (R_move rfl (F.at rfl)) ?_; clear F fa; intro fa F
  refine sq_call F rfl (by decide) rfl (R_callV rfl rfl Try.call27 (mpS (F.at rfl) mp0)) (HN.out) fun e w1 hR => ?_
  obtain ⟨b, rfl, hb, hb2, HL, e1⟩ := hR
  refine ⟨_, rfl, ?_⟩; clear F fa; intro fa F
  replace E := ext_same E (e1)
  clear e1
  refine sq_call F rfl (by decide) rfl (R_callV rfl rfl Try.call44 (mpS (F.at rfl) (mpS (ev_c fa _) (mpS (ev_c fa _) (mpS (ev_c fa _) mp0))))) (measuredOf_any w _ b _ _ 3 3 40 HL (by omega) (by omega) (by omega) (by omega) (by omega) (by omega) (by omega)) fun e w2 hR => ?_
  obtain ⟨t, ms, ps, vs, gv, rv, lv, mv, pv, rfl, hM, hS, hA, hbm, og, orr, olk, om, hms, op, HL, e2⟩ := hR
  refine ⟨_, rfl, ?_⟩; clear F fa; intro fa F
  replace E := E.trans' e2 (fun i hi hl => by simp only [List.mem_cons, List.not_mem_nil, or_false] at hi ⊢; omega)
  have hLv := hM.live
  have hT := tp_of_owns og orr olk
  obtain ⟨ga, gc, rfl⟩ := owns_slice og
  obtain ⟨ra, rc, rfl⟩ := owns_slice orr
  obtain ⟨la, lc, rfl⟩ := owns_slice olk
  obtain ⟨ma, mc, rfl⟩ := owns_slice om
  obtain ⟨pa, pc, rfl⟩ := owns_slice op
  have HT := Lib.hid hT
  clear hT
  have HM := Lib.hid (lsAt_of om rfl hms)
  have HP := Lib.hid (slAt_of_ivs op rfl [] (by simp))
  have hS1 := hM.S1
  have hA1 := hM.A1
  have hT1 := hM.T1
  have hT3 := hM.T3
  have EO : Ext [] w2 w2 := Ext.refl _ _
  refine sq_val F rfl (by decide) rfl (R_move rfl (F.at rfl)) ?_; clear F fa; intro fa F
  refine sq_val F rfl (by decide) rfl (R_extract rfl (F.at rfl) (get0)) ?_; clear F fa; intro fa F
  refine sq_val F rfl (by decide) rfl (R_extract rfl (F.at rfl) (getS (get0))) ?_; clear F fa; intro fa F
  refine sq_val F rfl (by decide) rfl (R_extract rfl (F.at rfl) (getS (getS (get0)))) ?_; clear F fa; intro fa F
  refine sq_new F rfl (by decide) rfl (R_alloc rfl Try.zeroValue28) ?_; clear F fa; intro fa w3 F hw
  obtain ⟨n3, hn⟩ : ∃ n, n = w2.heap.size := ⟨_, rfl⟩
  rw [← hn] at F
  have l3_E : w.heap.size ≤ n3 := by rw [hn]; exact E.size
  have l3_EO : w2.heap.size ≤ n3 := by rw [hn]; exact EO.size
  replace E := ext_alloc E hw
  replace EO := ext_alloc EO hw
  have q3 := new_row hw hn
  clear hw hn
  refine sq_to rfl rfl (R_storeRow rfl (F.at rfl) (F.at rfl) (by kernel_rfl) (by simp [Value.oneCell']) q3 rfl) ?_; intro w4 hw
  replace q3 := put_row hw q3 rfl
  replace E := ext_cells E hw (fun h => by first | exact absurd h (by omega) | simp)
  replace EO := ext_cells EO hw (fun h => by first | exact absurd h (by omega) | simp)
  clear hw
  refine sq_val F rfl (by decide) rfl (R_assign rfl (F.at rfl)) ?_; clear F fa; intro fa F
  refine sq_val F rfl (by decide) rfl (R_assign rfl (F.at rfl)) ?_; clear F fa; intro fa F
  refine wpList_nil ?_
  obtain ⟨hml, hpl, hrl⟩ := made_len hM
  replace hrl := Lib.hid hrl
  have HMs := Lib.hid (fun (s a : Nat) hs ha => made_meas hM (s := s) (a := a) hs ha)
  have HAp := Lib.hid (fun (s a : Nat) hs ha => made_apart hM (s := s) (a := a) hs ha)
  have HPl := Lib.hid (fun (i : Nat) hi => made_pull hM (i := i) hi)
  refine hK2 _ _ ?_
  clear hK2
  refine wp_seq_k fun K3 hK3 => ?_
  refine wp_region_lit ?_
  refine sq_val F rfl (by decide) rfl (R_loadBlk rfl (F.at rfl) Try.underlying28 rfl (by kernel_rfl) q3) ?_; clear F fa; intro fa F
  refine sq_call F rfl (by decide) rfl (R_callV rfl rfl Try.call59 (mpS (F.at rfl) mp0)) (wrong_live hLv (HT.out.ext EO (by simp))) fun e w5 hR => ?_
  obtain ⟨wa, wc, rfl, e3⟩ := hR
  refine ⟨_, rfl, ?_⟩; clear F fa; intro fa F
  replace q3 := (e3).keep0 q3
  replace E := ext_same E (e3)
  replace EO := ext_same EO (e3)
  clear e3
  refine sq_val F rfl (by decide) rfl (R_move rfl (F.at rfl)) ?_; clear F fa; intro fa F
  refine sq_val F rfl (by decide) rfl (R_extract rfl (F.at rfl) (get0)) ?_; clear F fa; intro fa F
  refine sq_val F rfl (by decide) rfl (R_extract rfl (F.at rfl) (getS (get0))) ?_; clear F fa; intro fa F
  refine sq_val F rfl (by decide) rfl (R_assign rfl (F.at rfl)) ?_; clear F fa; intro fa F
  refine sq_val F rfl (by decide) rfl (R_assign rfl (F.at rfl)) ?_; clear F fa; intro fa F
  refine wpList_nil ?_
  refine hK3 _ _ ?_
  clear hK3
  refine wp_seq_k fun K4 hK4 => ?_
  refine wp_region_lit ?_
  refine sq_val F rfl (by decide) rfl (R_loadBlk rfl (F.at rfl) Try.underlying28 rfl (by kernel_rfl) q3) ?_; clear F fa; intro fa F
  refine sq_call F rfl (by decide) rfl (R_callV rfl rfl Try.call29 (mpS (F.at rfl) mp0)) (can_live hLv (HT.out.ext EO (by simp))) fun e w6 hR => ?_
  obtain ⟨rfl, e3⟩ := hR
  refine ⟨_, rfl, ?_⟩; clear F fa; intro fa F
  replace q3 := (e3).keep0 q3
  replace E := ext_same E (e3)
  replace EO := ext_same EO (e3)
  clear e3
  refine sq_val F rfl (by decide) rfl (R_move rfl (F.at rfl)) ?_; clear F fa; intro fa F
  refine sq_val F rfl (by decide) rfl (R_extract rfl (F.at rfl) (get0)) ?_; clear F fa; intro fa F
  refine sq_val F rfl (by decide) rfl (R_extract rfl (F.at rfl) (getS (get0))) ?_; clear F fa; intro fa F
  refine sq_val F rfl (by decide) rfl (R_assign rfl (F.at rfl)) ?_; clear F fa; intro fa F
  refine sq_val F rfl (by decide) rfl (R_assign rfl (F.at rfl)) ?_; clear F fa; intro fa F
  refine wpList_nil ?_
  refine hK4 _ _ ?_
  clear hK4
  refine wp_seq_k fun K5 hK5 => ?_
  refine wp_seq_k fun K6 hK6 => ?_
  refine wp_region_lit ?_
  refine sq_val F rfl (by decide) rfl (R_move rfl (F.at rfl)) ?_; clear F fa; intro fa F
  refine sq_val F rfl (by decide) rfl (R_neqB (b := false) rfl (F.at rfl) (ev_c fa _) (by decide)) ?_; clear F fa; intro fa F
  refine sq_val F rfl (by decide) rfl (R_move rfl (F.at rfl)) ?_; clear F fa; intro fa F
  refine sq_val F rfl (by decide) (wantT F rfl rfl (by decide) rfl) (R_move rfl (F.at rfl)) ?_; clear F fa; intro fa F
  refine sq_val F rfl (by decide) (wantT F rfl rfl (by decide) rfl) (R_neqB (b := false) rfl (F.at rfl) (ev_c fa _) (by decide)) ?_; clear F fa; intro fa F
  refine sq_val F rfl (by decide) rfl (R_pickF rfl (F.at rfl) (F.at rfl)) ?_; clear F fa; intro fa F
  refine sq_val F rfl (by decide) rfl (R_move rfl (F.at rfl)) ?_; clear F fa; intro fa F
  refine sq_val F rfl (by decide) (wantT F rfl rfl (by decide) rfl) (R_move rfl (F.at rfl)) ?_; clear F fa; intro fa F
  refine sq_val F rfl (by decide) (wantT F rfl rfl (by decide) rfl) (R_not rfl (F.at rfl)) ?_; clear F fa; intro fa F
  refine sq_val F rfl (by decide) rfl (R_pickF rfl (F.at rfl) (F.at rfl)) ?_; clear F fa; intro fa F
  refine sq_val F rfl (by decide) rfl (R_move rfl (F.at rfl)) ?_; clear F fa; intro fa F
  refine sq_val F rfl (by decide) (wantT F rfl rfl (by decide) rfl) (R_move rfl (F.at rfl)) ?_; clear F fa; intro fa F
  refine sq_val F rfl (by decide) (wantT F rfl rfl (by decide) rfl) (R_len rfl rfl (F.at rfl) Try.underlying29) ?_; clear F fa; intro fa F
  refine sq_val F rfl (by decide) (wantT F rfl rfl (by decide) rfl) (R_gtrB (b := false) rfl (F.at rfl) (ev_c fa _) (by decide)) ?_; clear F fa; intro fa F
  refine sq_val F rfl (by decide) rfl (R_pickF rfl (F.at rfl) (F.at rfl)) ?_; clear F fa; intro fa F
  refine wpList_nil ?_
  refine hK6 _ _ ?_
  clear hK6
  refine cd_F F rfl ?_
  refine wp_skip ?_
  refine hK5 _ _ ?_
  clear hK5
  refine wp_seq_k fun K7 hK7 => ?_
  refine wp_seq_k fun K8 hK8 => ?_
  refine wp_region_lit ?_
  refine sq_val F rfl (by decide) rfl (R_assign rfl (ev_c fa _)) ?_; clear F fa; intro fa F
  refine wpList_nil ?_
  refine hK8 _ _ ?_
  clear hK8
  refine wp_block ?_
  have F0 := F.sub (.c 3 rfl (.c 4 rfl (.c 5 rfl .n)))
  refine lp_for F0 (t.S.toNat) (fun s Lv W => Lv = [(10, .int .i64 ((s : Nat) : Int))] ∧ Ext [] w6 W) ⟨_, ⟨rfl, Ext.refl _ _⟩, F.sub (.c 10 rfl (.c 3 rfl (.c 4 rfl (.c 5 rfl .n))))⟩ ?_
  clear F F0
  rintro s _ fa w7 hi1 ⟨rfl, EL1⟩ F
  have q3 := EL1.keep0 q3
  have E := E.nil EL1
  have EO := EO.nil EL1
  refine wp_seq_k fun K9 hK9 => ?_
  refine wp_seq_k fun K10 hK10 => ?_
  refine wp_region_lit ?_
  refine sq_val F rfl (by decide) rfl (R_move rfl (F.at rfl)) ?_; clear F fa; intro fa F
  refine sq_val F rfl (by decide) rfl (R_field rfl (F.at rfl) Try.underlying28 rfl (n := 0) (sz := 1) rfl (by kernel_rfl) (by decide)) ?_; clear F fa; intro fa F
  refine sq_val F rfl (by decide) rfl (R_load rfl (F.at rfl) Try.underlying3 rfl ((cells_of_block q3 0).trans (get0))) ?_; clear F fa; intro fa F
  refine sq_val F rfl (by decide) rfl (R_lss rfl (F.at rfl) (F.at rfl)) ?_; clear F fa; intro fa F
  refine wpList_nil ?_
  refine hK10 _ _ ?_
  clear hK10
  refine cd_if F rfl (fun hc55 => ?_) (fun hc55 => ?_)
  · skip
    refine wp_skip ?_
    refine hK9 _ _ ?_
    clear hK9
    refine wp_seq_k fun K11 hK11 => ?_
    refine wp_block ?_
    refine wp_seq_k fun K12 hK12 => ?_
    refine wp_region_lit ?_
    refine sq_val F rfl (by decide) rfl (R_assign rfl (ev_c fa _)) ?_; clear F fa; intro fa F
    refine wpList_nil ?_
    refine hK12 _ _ ?_
    clear hK12
    refine wp_block ?_
    have F0 := F.sub (.c 3 rfl (.c 4 rfl (.c 5 rfl (.c 10 rfl .n))))
    refine lp_for F0 (t.A.toNat) (fun a Lv W => Lv = [(11, .int .i64 ((a : Nat) : Int))] ∧ Ext [] w7 W) ⟨_, ⟨rfl, Ext.refl _ _⟩, F.sub (.c 11 rfl (.c 3 rfl (.c 4 rfl (.c 5 rfl (.c 10 rfl .n)))))⟩ ?_
    clear F F0
    rintro a _ fa w8 hi2 ⟨rfl, EL2⟩ F
    have q3 := EL2.keep0 q3
    have E := E.nil EL2
    have EO := EO.nil EL2
    have EL1 := EL1.nil EL2
    refine wp_seq_k fun K13 hK13 => ?_
    refine wp_seq_k fun K14 hK14 => ?_
    refine wp_region_lit ?_
    refine sq_val F rfl (by decide) rfl (R_move rfl (F.at rfl)) ?_; clear F fa; intro fa F
    refine sq_val F rfl (by decide) rfl (R_field rfl (F.at rfl) Try.underlying28 rfl (n := 1) (sz := 1) rfl (by kernel_rfl) (by decide)) ?_; clear F fa; intro fa F
    refine sq_val F rfl (by decide) rfl (R_load rfl (F.at rfl) Try.underlying3 rfl ((cells_of_block q3 1).trans (getS (get0)))) ?_; clear F fa; intro fa F
    refine sq_val F rfl (by decide) rfl (R_lss rfl (F.at rfl) (F.at rfl)) ?_; clear F fa; intro fa F
    refine wpList_nil ?_
    refine hK14 _ _ ?_
    clear hK14
    refine cd_if F rfl (fun hc61 => ?_) (fun hc61 => ?_)
    · skip
      refine wp_skip ?_
      refine hK13 _ _ ?_
      clear hK13
      refine wp_seq_k fun K15 hK15 => ?_
      refine wp_block ?_
      refine wp_seq_k fun K16 hK16 => ?_
      have hrl2 := hrl.out s (by omega)
      obtain ⟨f1, f2, f3, f4⟩ := HMs.out s a (by omega) (by omega)
      obtain ⟨g1, g2⟩ := HAp.out s a (by omega) (by omega)
      obtain ⟨-, -, f5, f6⟩ := HMs.out 0 0 (by omega) (by omega)
      have hrl3 := hrl.out 0 (by omega)
      refine wp_region_lit ?_
      refine sq_val F rfl (by decide) rfl (R_loadBlk rfl (F.at rfl) Try.underlying28 rfl (by kernel_rfl) q3) ?_; clear F fa; intro fa F
      refine sq_val F rfl (by decide) rfl (R_move rfl (F.at rfl)) ?_; clear F fa; intro fa F
      refine sq_val F rfl (by decide) rfl (R_move rfl (F.at rfl)) ?_; clear F fa; intro fa F
      refine sq_call F rfl (by decide) rfl (R_callV rfl rfl Try.call33 (mpS (F.at rfl) (mpS (F.at rfl) (mpS (F.at rfl) mp0)))) (meas_live hLv ((HT).out.ext EO (by simp)) (by omega) (by omega) (by omega) (by omega)) fun e w9 hR => ?_
      obtain ⟨rfl, e9⟩ := hR
      refine ⟨_, rfl, ?_⟩; clear F fa; intro fa F
      replace q3 := (e9).keep0 q3
      replace E := ext_same E (e9)
      replace EO := ext_same EO (e9)
      replace EL1 := ext_same EL1 (e9)
      replace EL2 := ext_same EL2 (e9)
      clear e9
      refine sq_val F rfl (by decide) rfl (R_move rfl (F.at rfl)) ?_; clear F fa; intro fa F
      refine sq_val F rfl (by decide) rfl (R_extract rfl (F.at rfl) (get0)) ?_; clear F fa; intro fa F
      refine sq_val F rfl (by decide) rfl (R_extract rfl (F.at rfl) (getS (get0))) ?_; clear F fa; intro fa F
      refine sq_new F rfl (by decide) rfl (R_alloc rfl Try.zeroValue23) ?_; clear F fa; intro fa w10 F hw
      obtain ⟨n12, hn⟩ : ∃ n, n = w9.heap.size := ⟨_, rfl⟩
      rw [← hn] at F
      have l12_E : w.heap.size ≤ n12 := by rw [hn]; exact E.size
      have l12_EO : w2.heap.size ≤ n12 := by rw [hn]; exact EO.size
      have l12_EL1 : w6.heap.size ≤ n12 := by rw [hn]; exact EL1.size
      have l12_EL2 : w7.heap.size ≤ n12 := by rw [hn]; exact EL2.size
      have m12_3 : n3 < n12 := by rw [hn]; exact blk_lt q3
      replace q3 := keep_alloc hw q3
      replace E := ext_alloc E hw
      replace EO := ext_alloc EO hw
      replace EL1 := ext_alloc EL1 hw
      replace EL2 := ext_alloc EL2 hw
      have q12 := new_row hw hn
      clear hw hn
      refine sq_to rfl rfl (R_storeRow rfl (F.at rfl) (F.at rfl) (by kernel_rfl) (by simp [Value.oneCell']) q12 rfl) ?_; intro w11 hw
      replace q3 := keep_cells hw q3 (by omega)
      replace q12 := put_row hw q12 rfl
      replace E := ext_cells E hw (fun h => by first | exact absurd h (by omega) | simp)
      replace EO := ext_cells EO hw (fun h => by first | exact absurd h (by omega) | simp)
      replace EL1 := ext_cells EL1 hw (fun h => by first | exact absurd h (by omega) | simp)
      replace EL2 := ext_cells EL2 hw (fun h => by first | exact absurd h (by omega) | simp)
      clear hw
      refine sq_val F rfl (by decide) rfl (R_assign rfl (F.at rfl)) ?_; clear F fa; intro fa F
      refine wpList_nil ?_
      refine hK16 _ _ ?_
      clear hK16
      refine wp_seq_k fun K17 hK17 => ?_
      refine wp_seq_k fun K18 hK18 => ?_
      refine wp_region_st 25 follows (by kernel_rfl) fun w12 hh eh => ?_
      replace q3 := keep_same hh q3
      replace q12 := keep_same hh q12
      replace E := ext_same E eh
      replace EO := ext_same EO eh
      replace EL1 := ext_same EL1 eh
      replace EL2 := ext_same EL2 eh
      clear hh eh
      refine st_val F rfl (by decide) rfl (R_move rfl (F.at rfl)) ?_; clear F fa; intro fa F
      refine st_val F rfl (by decide) rfl (R_neqB (b := false) rfl (F.at rfl) (ev_c fa _) (by decide)) ?_; clear F fa; intro fa F
      refine st_val F rfl (by decide) rfl (R_move rfl (F.at rfl)) ?_; clear F fa; intro fa F
      refine st_val F rfl (by decide) (wantT F rfl rfl (by decide) rfl) (R_move rfl (F.at rfl)) ?_; clear F fa; intro fa F
      refine st_val F rfl (by decide) (wantT F rfl rfl (by decide) rfl) (R_move rfl (F.at rfl)) ?_; clear F fa; intro fa F
      obtain ⟨xb19, xo19, ya19, yc19, xa19, xr19, ys19⟩ := HM.out s (by omega)
      replace ys19 := Lib.hid ys19
      refine st_val F rfl (by decide) (wantT F rfl rfl (by decide) rfl) (R_ixSlice (sz := 1) rfl ((F.at rfl).trans (xa19 _ _)) (F.at rfl) Try.underlying50 (by kernel_rfl) (by omega) (by omega)) ?_; clear F fa; intro fa F
      refine st_val F rfl (by decide) (wantT F rfl rfl (by decide) rfl) (R_load rfl (F.at rfl) Try.underlying29 rfl (xr19 _ EO 0 _ rfl)) ?_; clear F fa; intro fa F
      refine st_val F rfl (by decide) (wantT F rfl rfl (by decide) rfl) (R_move rfl (F.at rfl)) ?_; clear F fa; intro fa F
      obtain ⟨xb20, xo20, xa20, xr20⟩ := ys19.out a (by omega)
      refine st_val F rfl (by decide) (wantT F rfl rfl (by decide) rfl) (R_ixSlice (sz := 1) rfl ((F.at rfl).trans (xa20 _ _)) (F.at rfl) Try.underlying29 (by kernel_rfl) (by omega) (by omega)) ?_; clear F fa; intro fa F
      refine st_val F rfl (by decide) (wantT F rfl rfl (by decide) rfl) (R_load rfl (F.at rfl) Try.underlying3 rfl (xr20 _ EO 0 _ rfl)) ?_; clear F fa; intro fa F
      refine st_val F rfl (by decide) (wantT F rfl rfl (by decide) rfl) (R_field rfl (F.at rfl) Try.underlying23 rfl (n := 0) (sz := 1) rfl (by kernel_rfl) (by decide)) ?_; clear F fa; intro fa F
      refine st_val F rfl (by decide) (wantT F rfl rfl (by decide) rfl) (R_load rfl (F.at rfl) Try.underlying3 rfl ((cells_of_block q12 0).trans (get0))) ?_; clear F fa; intro fa F
      refine st_val F rfl (by decide) (wantT F rfl rfl (by decide) rfl) (R_lssB (b := false) rfl (F.at rfl) (F.at rfl) (decide_eq_false (by omega))) ?_; clear F fa; intro fa F
      refine st_val F rfl (by decide) rfl (R_pickF rfl (F.at rfl) (F.at rfl)) ?_; clear F fa; intro fa F
      refine st_val F rfl (by decide) rfl (R_move rfl (F.at rfl)) ?_; clear F fa; intro fa F
      refine st_val F rfl (by decide) (wantT F rfl rfl (by decide) rfl) (R_move rfl (F.at rfl)) ?_; clear F fa; intro fa F
      refine st_val F rfl (by decide) (wantT F rfl rfl (by decide) rfl) (R_move rfl (F.at rfl)) ?_; clear F fa; intro fa F
      obtain ⟨xb21, xo21, ya21, yc21, xa21, xr21, ys21⟩ := HM.out s (by omega)
      replace ys21 := Lib.hid ys21
      refine st_val F rfl (by decide) (wantT F rfl rfl (by decide) rfl) (R_ixSlice (sz := 1) rfl ((F.at rfl).trans (xa21 _ _)) (F.at rfl) Try.underlying50 (by kernel_rfl) (by omega) (by omega)) ?_; clear F fa; intro fa F
      refine st_val F rfl (by decide) (wantT F rfl rfl (by decide) rfl) (R_load rfl (F.at rfl) Try.underlying29 rfl (xr21 _ EO 0 _ rfl)) ?_; clear F fa; intro fa F
      refine st_val F rfl (by decide) (wantT F rfl rfl (by decide) rfl) (R_move rfl (F.at rfl)) ?_; clear F fa; intro fa F
      obtain ⟨xb22, xo22, xa22, xr22⟩ := ys21.out a (by omega)
      refine st_val F rfl (by decide) (wantT F rfl rfl (by decide) rfl) (R_ixSlice (sz := 1) rfl ((F.at rfl).trans (xa22 _ _)) (F.at rfl) Try.underlying29 (by kernel_rfl) (by omega) (by omega)) ?_; clear F fa; intro fa F
      refine st_val F rfl (by decide) (wantT F rfl rfl (by decide) rfl) (R_load rfl (F.at rfl) Try.underlying3 rfl (xr22 _ EO 0 _ rfl)) ?_; clear F fa; intro fa F
      refine st_val F rfl (by decide) (wantT F rfl rfl (by decide) rfl) (R_field rfl (F.at rfl) Try.underlying23 rfl (n := 1) (sz := 1) rfl (by kernel_rfl) (by decide)) ?_; clear F fa; intro fa F
      refine st_val F rfl (by decide) (wantT F rfl rfl (by decide) rfl) (R_load rfl (F.at rfl) Try.underlying3 rfl ((cells_of_block q12 1).trans (getS (get0)))) ?_; clear F fa; intro fa F
      refine st_val F rfl (by decide) (wantT F rfl rfl (by decide) rfl) (R_gtrB (b := false) rfl (F.at rfl) (F.at rfl) (decide_eq_false (by omega))) ?_; clear F fa; intro fa F
      refine wpStill_nil ?_
      refine sq_val F rfl (by decide) rfl (R_pickF rfl (F.at rfl) (F.at rfl)) ?_; clear F fa; intro fa F
      refine wpList_nil ?_
      refine hK18 _ _ ?_
      clear hK18
      refine cd_F F rfl ?_
      refine wp_skip ?_
      refine hK17 _ _ ?_
      clear hK17
      refine wp_seq_k fun K23 hK23 => ?_
      refine wp_region_st 13 follows (by kernel_rfl) fun w13 hh eh => ?_
      replace q3 := keep_same hh q3
      replace q12 := keep_same hh q12
      replace E := ext_same E eh
      replace EO := ext_same EO eh
      replace EL1 := ext_same EL1 eh
      replace EL2 := ext_same EL2 eh
      clear hh eh
      refine st_val F rfl (by decide) rfl (R_move rfl (F.at rfl)) ?_; clear F fa; intro fa F
      refine st_val F rfl (by decide) rfl (R_move rfl (F.at rfl)) ?_; clear F fa; intro fa F
      obtain ⟨xb24, xo24, ya24, yc24, xa24, xr24, ys24⟩ := HM.out s (by omega)
      replace ys24 := Lib.hid ys24
      refine st_val F rfl (by decide) rfl (R_ixSlice (sz := 1) rfl ((F.at rfl).trans (xa24 _ _)) (F.at rfl) Try.underlying50 (by kernel_rfl) (by omega) (by omega)) ?_; clear F fa; intro fa F
      refine st_val F rfl (by decide) rfl (R_load rfl (F.at rfl) Try.underlying29 rfl (xr24 _ EO 0 _ rfl)) ?_; clear F fa; intro fa F
      refine st_val F rfl (by decide) rfl (R_move rfl (F.at rfl)) ?_; clear F fa; intro fa F
      obtain ⟨xb25, xo25, xa25, xr25⟩ := ys24.out a (by omega)
      refine st_val F rfl (by decide) rfl (R_ixSlice (sz := 1) rfl ((F.at rfl).trans (xa25 _ _)) (F.at rfl) Try.underlying29 (by kernel_rfl) (by omega) (by omega)) ?_; clear F fa; intro fa F
      refine st_val F rfl (by decide) rfl (R_load rfl (F.at rfl) Try.underlying3 rfl (xr25 _ EO 0 _ rfl)) ?_; clear F fa; intro fa F
      refine st_val F rfl (by decide) rfl (R_move rfl (F.at rfl)) ?_; clear F fa; intro fa F
      obtain ⟨xb26, xo26, ya26, yc26, xa26, xr26, ys26⟩ := HM.out 0 (by omega)
      replace ys26 := Lib.hid ys26
      refine st_val F rfl (by decide) rfl (R_ixSlice (sz := 1) rfl ((F.at rfl).trans (xa26 _ _)) (ev_c fa _) Try.underlying50 (by kernel_rfl) (by omega) (by omega)) ?_; clear F fa; intro fa F
      refine st_val F rfl (by decide) rfl (R_load rfl (F.at rfl) Try.underlying29 rfl (xr26 _ EO 0 _ rfl)) ?_; clear F fa; intro fa F
      obtain ⟨xb27, xo27, xa27, xr27⟩ := ys26.out 0 (by omega)
      refine st_val F rfl (by decide) rfl (R_ixSlice (sz := 1) rfl ((F.at rfl).trans (xa27 _ _)) (ev_c fa _) Try.underlying29 (by kernel_rfl) (by omega) (by omega)) ?_; clear F fa; intro fa F
      refine st_val F rfl (by decide) rfl (R_load rfl (F.at rfl) Try.underlying3 rfl (xr27 _ EO 0 _ rfl)) ?_; clear F fa; intro fa F
      refine st_val F rfl (by decide) rfl (R_sub rfl (F.at rfl) (F.at rfl) (by omega) (by omega)) ?_; clear F fa; intro fa F
      refine wpStill_nil ?_
      refine sq_val F rfl (by decide) rfl (R_assign rfl (F.at rfl)) ?_; clear F fa; intro fa F
      refine wpList_nil ?_
      refine hK23 _ _ ?_
      clear hK23
      refine wp_seq_k fun K28 hK28 => ?_
      refine wp_region_lit ?_
      refine sq_val F rfl (by decide) rfl (R_loadBlk rfl (F.at rfl) Try.underlying28 rfl (by kernel_rfl) q3) ?_; clear F fa; intro fa F
      refine sq_val F rfl (by decide) rfl (R_move rfl (F.at rfl)) ?_; clear F fa; intro fa F
      refine sq_val F rfl (by decide) rfl (R_move rfl (F.at rfl)) ?_; clear F fa; intro fa F
      refine sq_call F rfl (by decide) rfl (R_callV rfl rfl Try.call43 (mpS (F.at rfl) (mpS (F.at rfl) (mpS (F.at rfl) (mpS (ev_c fa _) (mpS (ev_c fa _) mp0)))))) (apart_live hLv ((HT).out.ext EO (by simp)) (by omega) (by omega) (by omega) (by omega) (by omega) (by omega) (by omega) (by omega)) fun e w14 hR => ?_
      obtain ⟨rfl, e9⟩ := hR
      refine ⟨_, rfl, ?_⟩; clear F fa; intro fa F
      replace q3 := (e9).keep0 q3
      replace q12 := (e9).keep0 q12
      replace E := ext_same E (e9)
      replace EO := ext_same EO (e9)
      replace EL1 := ext_same EL1 (e9)
      replace EL2 := ext_same EL2 (e9)
      clear e9
      refine sq_val F rfl (by decide) rfl (R_move rfl (F.at rfl)) ?_; clear F fa; intro fa F
      refine sq_val F rfl (by decide) rfl (R_extract rfl (F.at rfl) (get0)) ?_; clear F fa; intro fa F
      refine sq_val F rfl (by decide) rfl (R_extract rfl (F.at rfl) (getS (get0))) ?_; clear F fa; intro fa F
      refine sq_new F rfl (by decide) rfl (R_alloc rfl Try.zeroValue23) ?_; clear F fa; intro fa w15 F hw
      obtain ⟨n15, hn⟩ : ∃ n, n = w14.heap.size := ⟨_, rfl⟩
      rw [← hn] at F
      have l15_E : w.heap.size ≤ n15 := by rw [hn]; exact E.size
      have l15_EO : w2.heap.size ≤ n15 := by rw [hn]; exact EO.size
      have l15_EL1 : w6.heap.size ≤ n15 := by rw [hn]; exact EL1.size
      have l15_EL2 : w7.heap.size ≤ n15 := by rw [hn]; exact EL2.size
      have m15_3 : n3 < n15 := by rw [hn]; exact blk_lt q3
      have m15_12 : n12 < n15 := by rw [hn]; exact blk_lt q12
      replace q3 := keep_alloc hw q3
      replace q12 := keep_alloc hw q12
      replace E := ext_alloc E hw
      replace EO := ext_alloc EO hw
      replace EL1 := ext_alloc EL1 hw
      replace EL2 := ext_alloc EL2 hw
      have q15 := new_row hw hn
      clear hw hn
      refine sq_to rfl rfl (R_storeRow rfl (F.at rfl) (F.at rfl) (by kernel_rfl) (by simp [Value.oneCell']) q15 rfl) ?_; intro w16 hw
      replace q3 := keep_cells hw q3 (by omega)
      replace q12 := keep_cells hw q12 (by omega)
      replace q15 := put_row hw q15 rfl
      replace E := ext_cells E hw (fun h => by first | exact absurd h (by omega) | simp)
      replace EO := ext_cells EO hw (fun h => by first | exact absurd h (by omega) | simp)
      replace EL1 := ext_cells EL1 hw (fun h => by first | exact absurd h (by omega) | simp)
      replace EL2 := ext_cells EL2 hw (fun h => by first | exact absurd h (by omega) | simp)
      clear hw
      refine sq_val F rfl (by decide) rfl (R_assign rfl (F.at rfl)) ?_; clear F fa; intro fa F
      refine wpList_nil ?_
      refine hK28 _ _ ?_
      clear hK28
      refine wp_seq_k fun K29 hK29 => ?_
      replace F := F.sub (.c 3 rfl (.c 4 rfl (.c 5 rfl (.c 10 rfl (.c 11 rfl (.c 14 rfl (.c 15 rfl (.c 16 rfl .n))))))))
      clear q12
      refine wp_region_lit ?_
      refine sq_val F rfl (by decide) rfl (R_move rfl (F.at rfl)) ?_; clear F fa; intro fa F
      refine sq_val F rfl (by decide) rfl (R_neqB (b := false) rfl (F.at rfl) (ev_c fa _) (by decide)) ?_; clear F fa; intro fa F
      refine sq_val F rfl (by decide) rfl (R_move rfl (F.at rfl)) ?_; clear F fa; intro fa F
      refine sq_val F rfl (by decide) (wantT F rfl rfl (by decide) rfl) (R_move rfl (F.at rfl)) ?_; clear F fa; intro fa F
      refine sq_val F rfl (by decide) (wantT F rfl rfl (by decide) rfl) (R_field rfl (F.at rfl) Try.underlying23 rfl (n := 0) (sz := 1) rfl (by kernel_rfl) (by decide)) ?_; clear F fa; intro fa F
      refine sq_val F rfl (by decide) (wantT F rfl rfl (by decide) rfl) (R_load rfl (F.at rfl) Try.underlying3 rfl ((cells_of_block q15 0).trans (get0))) ?_; clear F fa; intro fa F
      refine sq_val F rfl (by decide) (wantT F rfl rfl (by decide) rfl) (R_lssB (b := false) rfl (F.at rfl) (F.at rfl) (decide_eq_false (by omega))) ?_; clear F fa; intro fa F
      refine sq_val F rfl (by decide) rfl (R_pickF rfl (F.at rfl) (F.at rfl)) ?_; clear F fa; intro fa F
      refine sq_val F rfl (by decide) rfl (R_move rfl (F.at rfl)) ?_; clear F fa; intro fa F
      refine sq_val F rfl (by decide) (wantT F rfl rfl (by decide) rfl) (R_move rfl (F.at rfl)) ?_; clear F fa; intro fa F
      refine sq_val F rfl (by decide) (wantT F rfl rfl (by decide) rfl) (R_field rfl (F.at rfl) Try.underlying23 rfl (n := 1) (sz := 1) rfl (by kernel_rfl) (by decide)) ?_; clear F fa; intro fa F
      refine sq_val F rfl (by decide) (wantT F rfl rfl (by decide) rfl) (R_load rfl (F.at rfl) Try.underlying3 rfl ((cells_of_block q15 1).trans (getS (get0)))) ?_; clear F fa; intro fa F
      refine sq_val F rfl (by decide) (wantT F rfl rfl (by decide) rfl) (R_gtrB (b := false) rfl (F.at rfl) (F.at rfl) (decide_eq_false (by omega))) ?_; clear F fa; intro fa F
      refine sq_val F rfl (by decide) rfl (R_pickF rfl (F.at rfl) (F.at rfl)) ?_; clear F fa; intro fa F
      refine wpList_nil ?_
      refine hK29 _ _ ?_
      clear hK29
      refine cd_F F rfl ?_
      refine wp_skip ?_
      refine hK15 _ _ ?_
      clear hK15
      refine wp_region_lit ?_
      refine sq_val F rfl (by decide) rfl (R_move rfl (F.at rfl)) ?_; clear F fa; intro fa F
      refine sq_val F rfl (by decide) rfl (R_add rfl (F.at rfl) (ev_c fa _) (by omega) (by omega)) ?_; clear F fa; intro fa F
      refine sq_val F rfl (by decide) rfl (R_assign rfl (F.at rfl)) ?_; clear F fa; intro fa F
      refine wpList_nil ?_
      show _ ∧ _
      exact ⟨by omega, _, ⟨rfl, EL2⟩, F.sub (.c 11 rfl (.c 3 rfl (.c 4 rfl (.c 5 rfl (.c 10 rfl .n)))))⟩
    · skip
      refine wp_exit ?_
      refine hK11 _ _ ?_
      clear hK11
      refine wp_region_lit ?_
      refine sq_val F rfl (by decide) rfl (R_move rfl (F.at rfl)) ?_; clear F fa; intro fa F
      refine sq_val F rfl (by decide) rfl (R_add rfl (F.at rfl) (ev_c fa _) (by omega) (by omega)) ?_; clear F fa; intro fa F
      refine sq_val F rfl (by decide) rfl (R_assign rfl (F.at rfl)) ?_; clear F fa; intro fa F
      refine wpList_nil ?_
      show _ ∧ _
      exact ⟨by omega, _, ⟨rfl, EL1⟩, F.sub (.c 10 rfl (.c 3 rfl (.c 4 rfl (.c 5 rfl .n))))⟩
  · skip
    refine wp_exit ?_
    refine hK7 _ _ ?_
    clear hK7
    refine wp_seq_k fun K30 hK30 => ?_
    refine wp_seq_k fun K31 hK31 => ?_
    refine wp_region_lit ?_
    refine sq_val F rfl (by decide) rfl (R_assign rfl (ev_c fa _)) ?_; clear F fa; intro fa F
    refine wpList_nil ?_
    refine hK31 _ _ ?_
    clear hK31
    refine wp_block ?_
    have F0 := F.sub (.c 3 rfl (.c 5 rfl .n))
    refine lp_for F0 (t.T.toNat) (fun i Lv W => Lv = [(17, .int .i64 ((i : Nat) : Int))] ∧ Ext [] w7 W) ⟨_, ⟨rfl, Ext.refl _ _⟩, F.sub (.c 17 rfl (.c 3 rfl (.c 5 rfl .n)))⟩ ?_
    clear F F0
    rintro i _ fa w17 hi3 ⟨rfl, EL3⟩ F
    have q3 := EL3.keep0 q3
    have E := E.nil EL3
    have EO := EO.nil EL3
    refine wp_seq_k fun K32 hK32 => ?_
    refine wp_seq_k fun K33 hK33 => ?_
    refine wp_region_lit ?_
    refine sq_val F rfl (by decide) rfl (R_move rfl (F.at rfl)) ?_; clear F fa; intro fa F
    refine sq_val F rfl (by decide) rfl (R_field rfl (F.at rfl) Try.underlying28 rfl (n := 2) (sz := 1) rfl (by kernel_rfl) (by decide)) ?_; clear F fa; intro fa F
    refine sq_val F rfl (by decide) rfl (R_load rfl (F.at rfl) Try.underlying3 rfl ((cells_of_block q3 2).trans (getS (getS (get0))))) ?_; clear F fa; intro fa F
    refine sq_val F rfl (by decide) rfl (R_lss rfl (F.at rfl) (F.at rfl)) ?_; clear F fa; intro fa F
    refine wpList_nil ?_
    refine hK33 _ _ ?_
    clear hK33
    refine cd_if F rfl (fun hc134 => ?_) (fun hc134 => ?_)
    · skip
      refine wp_skip ?_
      refine hK32 _ _ ?_
      clear hK32
      refine wp_seq_k fun K34 hK34 => ?_
      refine wp_block ?_
      refine wp_seq_k fun K35 hK35 => ?_
      obtain ⟨f1, f2⟩ := HPl.out i (by omega)
      refine wp_region_lit ?_
      refine sq_val F rfl (by decide) rfl (R_loadBlk rfl (F.at rfl) Try.underlying28 rfl (by kernel_rfl) q3) ?_; clear F fa; intro fa F
      refine sq_val F rfl (by decide) rfl (R_move rfl (F.at rfl)) ?_; clear F fa; intro fa F
      refine sq_call F rfl (by decide) rfl (R_callV rfl rfl Try.call35 (mpS (F.at rfl) (mpS (F.at rfl) mp0))) (pull_live hLv ((HT).out.ext EO (by simp)) (by omega) (by omega)) fun e w18 hR => ?_
      obtain ⟨rfl, e9⟩ := hR
      refine ⟨_, rfl, ?_⟩; clear F fa; intro fa F
      replace q3 := (e9).keep0 q3
      replace E := ext_same E (e9)
      replace EO := ext_same EO (e9)
      replace EL3 := ext_same EL3 (e9)
      clear e9
      refine sq_val F rfl (by decide) rfl (R_move rfl (F.at rfl)) ?_; clear F fa; intro fa F
      refine sq_val F rfl (by decide) rfl (R_extract rfl (F.at rfl) (get0)) ?_; clear F fa; intro fa F
      refine sq_val F rfl (by decide) rfl (R_extract rfl (F.at rfl) (getS (get0))) ?_; clear F fa; intro fa F
      refine sq_new F rfl (by decide) rfl (R_alloc rfl Try.zeroValue23) ?_; clear F fa; intro fa w19 F hw
      obtain ⟨n18, hn⟩ : ∃ n, n = w18.heap.size := ⟨_, rfl⟩
      rw [← hn] at F
      have l18_E : w.heap.size ≤ n18 := by rw [hn]; exact E.size
      have l18_EO : w2.heap.size ≤ n18 := by rw [hn]; exact EO.size
      have l18_EL3 : w7.heap.size ≤ n18 := by rw [hn]; exact EL3.size
      have m18_3 : n3 < n18 := by rw [hn]; exact blk_lt q3
      replace q3 := keep_alloc hw q3
      replace E := ext_alloc E hw
      replace EO := ext_alloc EO hw
      replace EL3 := ext_alloc EL3 hw
      have q18 := new_row hw hn
      clear hw hn
      refine sq_to rfl rfl (R_storeRow rfl (F.at rfl) (F.at rfl) (by kernel_rfl) (by simp [Value.oneCell']) q18 rfl) ?_; intro w20 hw
      replace q3 := keep_cells hw q3 (by omega)
      replace q18 := put_row hw q18 rfl
      replace E := ext_cells E hw (fun h => by first | exact absurd h (by omega) | simp)
      replace EO := ext_cells EO hw (fun h => by first | exact absurd h (by omega) | simp)
      replace EL3 := ext_cells EL3 hw (fun h => by first | exact absurd h (by omega) | simp)
      clear hw
      refine sq_val F rfl (by decide) rfl (R_assign rfl (F.at rfl)) ?_; clear F fa; intro fa F
      refine wpList_nil ?_
      refine hK35 _ _ ?_
      clear hK35
      refine wp_seq_k fun K36 hK36 => ?_
      refine wp_region_st 19 follows (by kernel_rfl) fun w21 hh eh => ?_
      replace q3 := keep_same hh q3
      replace q18 := keep_same hh q18
      replace E := ext_same E eh
      replace EO := ext_same EO eh
      replace EL3 := ext_same EL3 eh
      clear hh eh
      refine st_val F rfl (by decide) rfl (R_move rfl (F.at rfl)) ?_; clear F fa; intro fa F
      refine st_val F rfl (by decide) rfl (R_neqB (b := false) rfl (F.at rfl) (ev_c fa _) (by decide)) ?_; clear F fa; intro fa F
      refine st_val F rfl (by decide) rfl (R_move rfl (F.at rfl)) ?_; clear F fa; intro fa F
      refine st_val F rfl (by decide) (wantT F rfl rfl (by decide) rfl) (R_move rfl (F.at rfl)) ?_; clear F fa; intro fa F
      refine st_val F rfl (by decide) (wantT F rfl rfl (by decide) rfl) (R_move rfl (F.at rfl)) ?_; clear F fa; intro fa F
      obtain ⟨xb37, xo37, xa37, xr37⟩ := HP.out i (by omega)
      refine st_val F rfl (by decide) (wantT F rfl rfl (by decide) rfl) (R_ixSlice (sz := 1) rfl ((F.at rfl).trans (xa37 _ _)) (F.at rfl) Try.underlying29 (by kernel_rfl) (by omega) (by omega)) ?_; clear F fa; intro fa F
      refine st_val F rfl (by decide) (wantT F rfl rfl (by decide) rfl) (R_load rfl (F.at rfl) Try.underlying3 rfl (xr37 _ EO 0 _ rfl)) ?_; clear F fa; intro fa F
      refine st_val F rfl (by decide) (wantT F rfl rfl (by decide) rfl) (R_field rfl (F.at rfl) Try.underlying23 rfl (n := 0) (sz := 1) rfl (by kernel_rfl) (by decide)) ?_; clear F fa; intro fa F
      refine st_val F rfl (by decide) (wantT F rfl rfl (by decide) rfl) (R_load rfl (F.at rfl) Try.underlying3 rfl ((cells_of_block q18 0).trans (get0))) ?_; clear F fa; intro fa F
      refine st_val F rfl (by decide) (wantT F rfl rfl (by decide) rfl) (R_lssB (b := false) rfl (F.at rfl) (F.at rfl) (decide_eq_false (by omega))) ?_; clear F fa; intro fa F
      refine st_val F rfl (by decide) rfl (R_pickF rfl (F.at rfl) (F.at rfl)) ?_; clear F fa; intro fa F
      refine st_val F rfl (by decide) rfl (R_move rfl (F.at rfl)) ?_; clear F fa; intro fa F
      refine st_val F rfl (by decide) (wantT F rfl rfl (by decide) rfl) (R_move rfl (F.at rfl)) ?_; clear F fa; intro fa F
      refine st_val F rfl (by decide) (wantT F rfl rfl (by decide) rfl) (R_move rfl (F.at rfl)) ?_; clear F fa; intro fa F
      obtain ⟨xb38, xo38, xa38, xr38⟩ := HP.out i (by omega)
      refine st_val F rfl (by decide) (wantT F rfl rfl (by decide) rfl) (R_ixSlice (sz := 1) rfl ((F.at rfl).trans (xa38 _ _)) (F.at rfl) Try.underlying29 (by kernel_rfl) (by omega) (by omega)) ?_; clear F fa; intro fa F
      refine st_val F rfl (by decide) (wantT F rfl rfl (by decide) rfl) (R_load rfl (F.at rfl) Try.underlying3 rfl (xr38 _ EO 0 _ rfl)) ?_; clear F fa; intro fa F
      refine st_val F rfl (by decide) (wantT F rfl rfl (by decide) rfl) (R_field rfl (F.at rfl) Try.underlying23 rfl (n := 1) (sz := 1) rfl (by kernel_rfl) (by decide)) ?_; clear F fa; intro fa F
      refine st_val F rfl (by decide) (wantT F rfl rfl (by decide) rfl) (R_load rfl (F.at rfl) Try.underlying3 rfl ((cells_of_block q18 1).trans (getS (get0)))) ?_; clear F fa; intro fa F
      refine st_val F rfl (by decide) (wantT F rfl rfl (by decide) rfl) (R_gtrB (b := false) rfl (F.at rfl) (F.at rfl) (decide_eq_false (by omega))) ?_; clear F fa; intro fa F
      refine wpStill_nil ?_
      refine sq_val F rfl (by decide) rfl (R_pickF rfl (F.at rfl) (F.at rfl)) ?_; clear F fa; intro fa F
      refine wpList_nil ?_
      refine hK36 _ _ ?_
      clear hK36
      refine cd_F F rfl ?_
      refine wp_skip ?_
      refine hK34 _ _ ?_
      clear hK34
      refine wp_region_lit ?_
      refine sq_val F rfl (by decide) rfl (R_move rfl (F.at rfl)) ?_; clear F fa; intro fa F
      refine sq_val F rfl (by decide) rfl (R_add rfl (F.at rfl) (ev_c fa _) (by omega) (by omega)) ?_; clear F fa; intro fa F
      refine sq_val F rfl (by decide) rfl (R_assign rfl (F.at rfl)) ?_; clear F fa; intro fa F
      refine wpList_nil ?_
      show _ ∧ _
      exact ⟨by omega, _, ⟨rfl, EL3⟩, F.sub (.c 17 rfl (.c 3 rfl (.c 5 rfl .n)))⟩
    · skip
      refine wp_exit ?_
      refine hK30 _ _ ?_
      clear hK30
      refine wp_seq_k fun K39 hK39 => ?_
      refine wp_region_lit ?_
      refine sq_call F rfl (by decide) rfl (R_callV rfl rfl Try.call25 mp0) (taken_any _) fun e w22 hR => ?_
      obtain ⟨rfl, e9⟩ := hR
      refine ⟨_, rfl, ?_⟩; clear F fa; intro fa F
      replace q3 := (e9).keep0 q3
      replace E := ext_same E (e9)
      replace EO := ext_same EO (e9)
      clear e9
      refine sq_val F rfl (by decide) rfl (R_assign rfl (F.at rfl)) ?_; clear F fa; intro fa F
      refine wpList_nil ?_
      refine hK39 _ _ ?_
      clear hK39
      refine wp_ret ?_
      (try simp only [Exit.inBlock, Exit.then])
      refine rt_v F (rs_1 F rfl rfl) ?_
      exact ⟨rfl, E⟩
end Go.Proofs.Ytholfdgebdlgjaa
