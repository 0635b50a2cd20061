/- The law MeasureRing: no shorter ring. No conditions. -/
import Derived.Test.YtholfdgebdlgjaaVp
namespace Go.Proofs.Ytholfdgebdlgjaa
open Go.RowKit
set_option linter.unusedVariables false
set_option linter.unusedSimpArgs false
theorem ringR_ok {t : Tp} (ok : t.Ok) (h8 : t.rd.length ≤ 8) {s : Nat} (h : ringR t = some s) : ringE t = 0 ∧ ringL t = listTo (s : Nat) 8 := by
  have hc := check_of ok h8
  rw [ringE, ringL, hc, h]
  exact ⟨rfl, rfl⟩
theorem ringR_no {t : Tp} (ok : t.Ok) (h8 : t.rd.length ≤ 8) (h : ringR t = none) : ringE t = 11 ∧ (ringL t).length = 0 := by
  have hc := check_of ok h8
  rw [ringE, ringL, hc, h]
  exact ⟨rfl, rfl⟩
theorem sets_mem {n i : Nat} (h : i < (setsL n).length) : (setsL n).getD i 0 ∈ setsL n := getD_mem 0 h
set_option maxRecDepth 100000 in
set_option maxHeartbeats 1000000 in
theorem ring_walk (a0 : Option Addr) (len0 cap0 : Nat) (z0 : List Int) (w : World) (h0 : IsRow .i64 w a0 len0 cap0 z0) :
    Calls Try.prog 7 #[.slice a0 len0 cap0] w fun e w' => e = .returned (.bool true) ∧ Ext [] w w' := by
  have HN := Lib.hid (newLots_any w a0 len0 cap0 z0 h0)
  clear h0
  have E : Ext [] w w := Ext.refl _ _
  refine calls_has 65 Try.func7 rfl Try.ntmps7 (Nat.le_of_ble_eq_true rfl) ?_
  intro fa F
  refine wp_seq_k fun K1 hK1 => ?_
  refine wp_region_lit ?_
  refine F.vl (R_assign rfl (ev_c fa _)) ?_; clear F fa; intro fa F
  refine wpList_nil ?_
  refine hK1 _ _ ?_
  clear hK1
  refine wp_seq_k fun K2 hK2 => ?_
  refine wp_region_lit ?_
  refine F.mv ?_; clear F fa; intro fa F
  refine sq_call F rfl (by decide) rfl (R_callV rfl rfl Try.call27 (mpS (F.at rfl) mp0)) (HN.out) fun e w1 hR => ?_
  obtain ⟨b, rfl, hb, hb2, HL, e1⟩ := hR
  refine ⟨_, rfl, ?_⟩; clear F fa; intro fa F
  replace E := ext_same E (e1)
  clear e1
  have hbB := lots_lt HL
  obtain ⟨B0, hB0⟩ : ∃ B0, B0 = w1.heap.size := ⟨_, rfl⟩
  rw [← hB0] at hbB
  have hwB : w.heap.size ≤ B0 := by rw [hB0]; exact E.size
  refine sq_call F rfl (by decide) rfl (R_callV rfl rfl Try.call46 (mpS (F.at rfl) mp0)) (tapesOf_any w _ b _ _ HL (by omega)) fun e w2 hR => ?_
  obtain ⟨t, gv, rv, lv, rfl, hW, ⟨og, orr, olk⟩, HL, e2⟩ := hR
  refine ⟨_, rfl, ?_⟩; clear F fa; intro fa F
  replace E := E.trans' e2 (fun i hi hl => by simp only [List.mem_cons, List.not_mem_nil, or_false] at hi ⊢; omega)
  rw [← hB0] at og orr olk
  have hB1 : B0 ≤ w2.heap.size := by rw [hB0]; exact e2.size
  clear hB0 e2
  obtain ⟨ga, gc, rfl⟩ := owns_slice og
  obtain ⟨ra, rc, rfl⟩ := owns_slice orr
  obtain ⟨la, lc, rfl⟩ := owns_slice olk
  have HT := Lib.hid (tp_of_owns og orr olk)
  clear og orr olk
  have EO : Ext [] w2 w2 := Ext.refl _ _
  have HRd := Lib.hid (slAt_of_rows HT.out.rd (0, 0, 0, 0))
  have HGr := Lib.hid (slAt_of_rows HT.out.gr (0, 0))
  have HLk := Lib.hid (slAt_of_rows HT.out.lk (0, 0, 0, 0, 0, 0))
  have hokT := hW.ok
  have hS1 := hokT.S1
  have hS3 := hokT.S3
  have hA1 := hokT.A1
  have hA3 := hokT.A3
  have hT1 := hokT.T1
  have hT3 := hokT.T3
  have hgl := hokT.grl
  have hrl := hW.rdl
  have hkl := hW.lkl
  obtain ⟨hP1, hP2⟩ := ok_prod hokT
  refine sq_new F rfl (by decide) rfl (R_alloc rfl Try.zeroValue28) ?_; clear F fa; intro fa w3 F hw
  obtain ⟨n3, hn⟩ : ∃ n, n = w2.heap.size := ⟨_, rfl⟩
  rw [← hn] at F
  have s3 : w2.heap.size ≤ n3 := Nat.le_of_eq hn.symm
  have l3_E : w.heap.size ≤ n3 := by rw [hn]; exact E.size
  have l3_EO : w2.heap.size ≤ n3 := by rw [hn]; exact EO.size
  replace E := ext_alloc E hw
  replace EO := ext_alloc EO hw
  have q3 := new_row hw hn
  clear hw hn
  refine sq_to rfl rfl (R_storeRow rfl (F.at rfl) (F.at rfl) (by kernel_rfl) (by first | (simp [Value.oneCell']; done) | (simp [Value.oneCell', grRow, rdRow, lkRow]; done)) q3 rfl) ?_; intro w4 hw
  replace q3 := put_row hw q3 rfl
  replace E := ext_cells E hw (fun h => by first | exact absurd h (by omega) | simp)
  replace EO := ext_cells EO hw (fun h => by first | exact absurd h (by omega) | simp)
  clear hw
  refine wpList_nil ?_
  have t8 : t.rd.length ≤ 8 := by omega
  have t6 : t.rd.length < 6 := by have := hW.rdl; omega
  refine hK2 _ _ ?_
  clear hK2
  refine wp_seq_k fun K3 hK3 => ?_
  refine wp_region_lit ?_
  refine F.vl (R_loadBlk rfl (F.at rfl) Try.underlying28 rfl (by kernel_rfl) q3) ?_; clear F fa; intro fa F
  refine sq_call F rfl (by decide) rfl (R_callV rfl rfl Try.call47 (mpS (F.at rfl) mp0)) (ring_any t _ _ _ _ (HT.out.ext EO (by simp)) (by omega) (by omega) (by omega)) fun e w5 hR => ?_
  obtain ⟨qa, qc, rfl, hgot, eX⟩ := hR
  refine ⟨_, rfl, ?_⟩; clear F fa; intro fa F
  replace q3 := (eX).keep0 q3
  replace E := ext_same E (eX)
  replace EO := ext_same EO (eX)
  have EQ : Ext [] w5 w5 := Ext.refl _ _
  have HG := Lib.hid hgot
  clear hgot eX
  refine F.mv ?_; clear F fa; intro fa F
  refine F.vl (R_extract rfl (F.at rfl) (get0)) ?_; clear F fa; intro fa F
  refine F.vl (R_extract rfl (F.at rfl) (getS (get0))) ?_; clear F fa; intro fa F
  refine F.as ?_; clear F fa; intro fa F
  refine F.as ?_; clear F fa; intro fa F
  refine wpList_nil ?_
  refine hK3 _ _ ?_
  clear hK3
  refine wp_seq_k fun K4 hK4 => ?_
  refine wp_region_lit ?_
  refine F.vl (R_field rfl (F.at rfl) Try.underlying28 rfl (n := 9) (sz := 1) rfl (by kernel_rfl) (by decide)) ?_; clear F fa; intro fa F
  refine F.vl (R_load rfl (F.at rfl) Try.underlying25 rfl ((cells_of_block q3 9).trans (getS (getS (getS (getS (getS (getS (getS (getS (getS (get0)))))))))))) ?_; clear F fa; intro fa F
  refine F.vl (R_len rfl rfl (F.at rfl) Try.underlying25) ?_; clear F fa; intro fa F
  refine sq_call F rfl (by decide) rfl (R_callV rfl rfl Try.call48 (mpS (F.at rfl) mp0)) (lists_any t.rd.length (by omega) _) fun e w6 hR => ?_
  obtain ⟨L, ya, yc, rfl, hLp, ol, famL, eX⟩ := hR
  refine ⟨_, rfl, ?_⟩; clear F fa; intro fa F
  replace q3 := (eX).keep0 q3
  replace E := ext_same E (eX)
  replace EO := ext_same EO (eX)
  replace EQ := ext_same EQ (eX)
  have EL : Ext [] w6 w6 := Ext.refl _ _
  obtain ⟨hLn, hLs⟩ := all_sets t6 hLp
  have hL64 := sets_len _ t6
  have HLs := Lib.hid (slAt_of_outer ol rfl)
  have HLr : Hid (∀ p ∈ L, RowOf w6 p.1 p.2) := fun p hp => fam_row famL hp
  clear ol famL eX
  replace hLs := Lib.hid hLs
  refine F.as ?_; clear F fa; intro fa F
  refine wpList_nil ?_
  refine hK4 _ _ ?_
  clear hK4
  refine wp_seq_k fun K5 hK5 => ?_
  refine wp_seq_k fun K6 hK6 => ?_
  refine wp_region_lit ?_
  refine F.vl (R_assign rfl (ev_c fa _)) ?_; clear F fa; intro fa F
  refine wpList_nil ?_
  refine hK6 _ _ ?_
  clear hK6
  refine wp_block ?_
  have F0 := F.sub (.c 3 rfl (.c 4 rfl (.c 5 rfl (.c 6 rfl .n))))
  refine lp_for F0 (L.length) (fun i Lv W => Lv = [(7, .int .i64 ((i : Nat) : Int))] ∧ Ext [] w6 W ∧ Hid (∀ j, j < i → (!bdB t (outN (2 ^ t.rd.length - 1) ((setsL t.rd.length).getD j 0) : Nat)) = false)) ⟨_, ⟨rfl, Ext.refl _ _, Lib.hid fun j hj => absurd hj (by omega)⟩, F.sub (.c 7 rfl (.c 3 rfl (.c 4 rfl (.c 5 rfl (.c 6 rfl .n)))))⟩ ?_
  clear F F0
  rintro i _ fa w7 hi1 ⟨rfl, EL1, hb⟩ F
  have q3 := EL1.keep0 q3
  have E := E.nil EL1
  have EO := EO.nil EL1
  have EQ := EQ.nil EL1
  have EL := EL.nil EL1
  refine wp_seq_k fun K7 hK7 => ?_
  refine wp_seq_k fun K8 hK8 => ?_
  refine wp_region_lit ?_
  refine F.mv ?_; clear F fa; intro fa F
  refine F.mv ?_; clear F fa; intro fa F
  refine F.vl (R_len rfl rfl (F.at rfl) Try.underlying50) ?_; clear F fa; intro fa F
  refine F.vl (R_lss rfl (F.at rfl) (F.at rfl)) ?_; clear F fa; intro fa F
  refine wpList_nil ?_
  refine hK8 _ _ ?_
  clear hK8
  refine cd_if F rfl (fun hc25 => ?_) (fun hc25 => ?_)
  · skip
    refine wp_skip ?_
    refine hK7 _ _ ?_
    clear hK7
    refine wp_seq_k fun K9 hK9 => ?_
    refine wp_block ?_
    refine wp_seq_k fun K10 hK10 => ?_
    have hbd : bdB t (outN (2 ^ t.rd.length - 1) ((setsL t.rd.length).getD i 0) : Nat) = bdB (someT t (L.getD i (.bool true, [])).2 false) 0 := by rw [hLs.out i (by omega)]; exact (bd_only hokT t6 (sets_mem (by omega))).symm
    have hmm : L.getD i (.bool true, []) ∈ L := getD_mem _ (by omega)
    have hll : (L.getD i (.bool true, [])).2.length ≤ 8 := by rw [hLs.out i (by omega)]; exact listTo_len _ _
    refine region_x (Ext [] w7) none follows fun w8 hh eh => ?_
    have q3_ := q3
    replace q3 := keep_same hh q3
    have E_ := E
    have zEw8 := E.size
    replace E := ext_same E eh
    have EO_ := EO
    have zEOw8 := EO.size
    replace EO := ext_same EO eh
    have EQ_ := EQ
    have zEQw8 := EQ.size
    replace EQ := ext_same EQ eh
    have EL_ := EL
    have zELw8 := EL.size
    replace EL := ext_same EL eh
    have EL1_ := EL1
    have zEL1w8 := EL1.size
    replace EL1 := ext_same EL1 eh
    have eT := eh
    clear hh eh
    refine F.xr (i := 0) rfl (fun w' hS => R_loadBlk rfl (F.at rfl) Try.underlying28 rfl (by kernel_rfl) (hS.keep q3_ (by simp))) (fun _ => eT) ?_; clear F fa; intro fa F
    refine F.x (i := 1) rfl (fun w' => R_move rfl (F.at rfl)) (fun _ => eT) ?_; clear F fa; intro fa F
    refine F.x (i := 2) rfl (fun w' => R_move rfl (F.at rfl)) (fun _ => eT) ?_; clear F fa; intro fa F
    obtain ⟨xb11, xo11, xa11, xr11⟩ := HLs.out i (by omega)
    refine F.x (i := 3) rfl (fun w' => R_ixSlice (sz := 1) rfl ((F.at rfl).trans (xa11 _ _)) (F.at rfl) Try.underlying50 (by kernel_rfl) (by omega) (by omega)) (fun _ => eT) ?_; clear F fa; intro fa F
    refine F.xr (i := 4) rfl (fun w' hS => R_load rfl (F.at rfl) Try.underlying29 rfl (xr11 _ (EL_.nil hS) 0 _ rfl)) (fun _ => eT) ?_; clear F fa; intro fa F
    refine ax_only (i := 5) (by kernel_rfl) (op_call F rfl rfl (by decide) rfl (R_callV rfl rfl Try.call49 (mpS (F.at rfl) (mpS (F.at rfl) (mpS (ev_c fa _) mp0)))) (some_any t (L.getD i (.bool true, [])).2 false _ _ _ _ _ _ _ _ (HT.out.ext EO (by simp)) ((HLr.out _ hmm).ext EL) (by omega) (by omega) (row_one (HLr.out _ hmm))) fun e w9 hR => ?_)
    obtain ⟨xa, xc, rfl, hTs, e9⟩ := hR
    refine ⟨_, rfl, ?_⟩; clear F fa; intro fa F
    replace q3 := (e9).keep0 q3
    replace E := ext_same E (e9)
    replace EO := ext_same EO (e9)
    replace EQ := ext_same EQ (e9)
    replace EL := ext_same EL (e9)
    replace EL1 := ext_same EL1 (e9)
    replace eT := ext_same eT (e9)
    clear e9
    refine ⟨fun _ => eT, ?_⟩
    refine ax_only (i := 6) (by kernel_rfl) (op_call F rfl rfl (by decide) rfl (R_callV rfl rfl Try.call29 (mpS (F.at rfl) mp0)) (can_ok (some_ok hokT _ _) (Nat.le_trans (someR_len _ _ _ _) t8) hTs) fun e w10 hR => ?_)
    obtain ⟨rfl, e9⟩ := hR
    refine ⟨_, rfl, ?_⟩; clear F fa; intro fa F
    replace q3 := (e9).keep0 q3
    replace E := ext_same E (e9)
    replace EO := ext_same EO (e9)
    replace EQ := ext_same EQ (e9)
    replace EL := ext_same EL (e9)
    replace EL1 := ext_same EL1 (e9)
    replace eT := ext_same eT (e9)
    clear e9
    refine ⟨fun _ => eT, ?_⟩
    refine F.x (i := 7) rfl (fun w' => R_move rfl (F.at rfl)) (fun _ => eT) ?_; clear F fa; intro fa F
    refine F.x (i := 8) rfl (fun w' => R_extract rfl (F.at rfl) (get0)) (fun _ => eT) ?_; clear F fa; intro fa F
    refine F.x (i := 9) rfl (fun w' => R_extract rfl (F.at rfl) (getS (get0))) (fun _ => eT) ?_; clear F fa; intro fa F
    refine F.x (i := 10) rfl (fun w' => R_assign rfl (F.at rfl)) (fun _ => eT) ?_; clear F fa; intro fa F
    refine F.x (i := 11) rfl (fun w' => R_assign rfl (F.at rfl)) (fun _ => eT) ?_; clear F fa; intro fa F
    refine ax_done (by kernel_rfl) ?_ _
    clear eT q3_ E_ EO_ EQ_ EL_ EL1_
    refine hK10 _ _ ?_
    clear hK10
    refine wp_seq_k fun K12 hK12 => ?_
    refine wp_seq_k fun K13 hK13 => ?_
    refine wp_region_lit ?_
    refine F.mv ?_; clear F fa; intro fa F
    refine F.vl (R_neqB (b := false) rfl (F.at rfl) (ev_c fa _) (by decide)) ?_; clear F fa; intro fa F
    refine wpList_nil ?_
    refine hK13 _ _ ?_
    clear hK13
    refine cd_F F rfl ?_
    refine wp_skip ?_
    refine hK12 _ _ ?_
    clear hK12
    refine wp_seq_k fun K14 hK14 => ?_
    refine wp_region_lit ?_
    refine F.mv ?_; clear F fa; intro fa F
    refine F.vl (R_not rfl (F.at rfl)) ?_; clear F fa; intro fa F
    refine wpList_nil ?_
    refine hK14 _ _ ?_
    clear hK14
    refine cd_b F rfl (fun hc41 => ?_) (fun hc41 => ?_)
    · skip
      refine wp_seq_k fun K15 hK15 => ?_
      have hrs : ringR t = some ((setsL t.rd.length).getD i 0) := find_at (by omega) hb.out (by rw [hbd, hc41])
      obtain ⟨hre, hrl⟩ := ringR_ok hokT t8 hrs
      refine wp_region_lit ?_
      refine F.mv ?_; clear F fa; intro fa F
      refine F.vl (R_eqlB (b := true) rfl (F.at rfl) (ev_c fa _) (decide_eq_true (hre))) ?_; clear F fa; intro fa F
      refine F.mv ?_; clear F fa; intro fa F
      refine F.mv ?_ (hw := (wantT F rfl rfl (by decide) rfl)); clear F fa; intro fa F
      refine F.mv ?_ (hw := (wantT F rfl rfl (by decide) rfl)); clear F fa; intro fa F
      refine F.mv ?_ (hw := (wantT F rfl rfl (by decide) rfl)); clear F fa; intro fa F
      obtain ⟨xb16, xo16, xa16, xr16⟩ := HLs.out i (by omega)
      refine F.vl (R_ixSlice (sz := 1) rfl ((F.at rfl).trans (xa16 _ _)) (F.at rfl) Try.underlying50 (by kernel_rfl) (by omega) (by omega)) ?_ (hw := (wantT F rfl rfl (by decide) rfl)); clear F fa; intro fa F
      refine F.vl (R_load rfl (F.at rfl) Try.underlying29 rfl (xr16 _ EL 0 _ rfl)) ?_ (hw := (wantT F rfl rfl (by decide) rfl)); clear F fa; intro fa F
      refine sq_call F rfl (by decide) (wantT F rfl rfl (by decide) rfl) (R_callV rfl rfl Try.call50 (mpS (F.at rfl) (mpS (F.at rfl) mp0))) (same_rows ⟨qa, qc, rfl, HG.out.ext EQ (by simp)⟩ ((HLr.out _ (getD_mem (.bool true, []) (show i < L.length by omega))).ext EL) (by rw [hrl, hLs.out i (by omega)]) (by rw [hrl]; exact Nat.le_trans (listTo_len _ _) (by omega))) fun e w11 hR => ?_
      obtain ⟨rfl, e9⟩ := hR
      refine ⟨_, rfl, ?_⟩; clear F fa; intro fa F
      replace q3 := (e9).keep0 q3
      replace E := ext_same E (e9)
      replace EO := ext_same EO (e9)
      replace EQ := ext_same EQ (e9)
      replace EL := ext_same EL (e9)
      replace EL1 := ext_same EL1 (e9)
      clear e9
      refine F.vl (R_pickT rfl (F.at rfl) (F.at rfl)) ?_; clear F fa; intro fa F
      refine F.mv ?_; clear F fa; intro fa F
      refine sq_call F rfl (by decide) (wantT F rfl rfl (by decide) rfl) (R_callV rfl rfl Try.call25 mp0) (taken_any _) fun e w12 hR => ?_
      obtain ⟨rfl, e9⟩ := hR
      refine ⟨_, rfl, ?_⟩; clear F fa; intro fa F
      replace q3 := (e9).keep0 q3
      replace E := ext_same E (e9)
      replace EO := ext_same EO (e9)
      replace EQ := ext_same EQ (e9)
      replace EL := ext_same EL (e9)
      replace EL1 := ext_same EL1 (e9)
      clear e9
      refine F.vl (R_pickT rfl (F.at rfl) (F.at rfl)) ?_; clear F fa; intro fa F
      refine F.as ?_; clear F fa; intro fa F
      refine wpList_nil ?_
      refine hK15 _ _ ?_
      clear hK15
      refine wp_ret ?_
      (try simp only [Exit.inBlock, Exit.then])
      refine rt_v F (rs_1 F rfl rfl) ?_
      exact ⟨rfl, E⟩
    · skip
      refine wp_skip ?_
      refine hK9 _ _ ?_
      clear hK9
      refine wp_region_lit ?_
      refine F.mv ?_; clear F fa; intro fa F
      refine F.vl (R_add rfl (F.at rfl) (ev_c fa _) (by omega) (by omega)) ?_; clear F fa; intro fa F
      refine F.as ?_; clear F fa; intro fa F
      refine wpList_nil ?_
      show _ ∧ _
      exact ⟨by omega, _, ⟨rfl, EL1, Lib.hid fun j hj => if e : j = i then e ▸ (by rw [hbd, hc41]) else hb.out j (by omega)⟩, F.sub (.c 7 rfl (.c 3 rfl (.c 4 rfl (.c 5 rfl (.c 6 rfl .n)))))⟩
  · skip
    refine wp_exit ?_
    have hrn : ringR t = none := find_no fun j hj => hb.out j (by omega)
    obtain ⟨hre, hrl⟩ := ringR_no hokT t8 hrn
    refine hK5 _ _ ?_
    clear hK5
    refine wp_seq_k fun K17 hK17 => ?_
    refine wp_region_lit ?_
    refine F.mv ?_; clear F fa; intro fa F
    refine F.vl (R_eqlB (b := true) rfl (F.at rfl) (ev_c fa _) (decide_eq_true (hre))) ?_; clear F fa; intro fa F
    refine F.mv ?_; clear F fa; intro fa F
    refine F.mv ?_ (hw := (wantT F rfl rfl (by decide) rfl)); clear F fa; intro fa F
    refine F.vl (R_len rfl rfl (F.at rfl) Try.underlying29) ?_ (hw := (wantT F rfl rfl (by decide) rfl)); clear F fa; intro fa F
    refine F.vl (R_eqlB (b := true) rfl (F.at rfl) (ev_c fa _) (decide_eq_true ((by omega)))) ?_ (hw := (wantT F rfl rfl (by decide) rfl)); clear F fa; intro fa F
    refine F.vl (R_pickT rfl (F.at rfl) (F.at rfl)) ?_; clear F fa; intro fa F
    refine F.mv ?_; clear F fa; intro fa F
    refine sq_call F rfl (by decide) (wantT F rfl rfl (by decide) rfl) (R_callV rfl rfl Try.call25 mp0) (taken_any _) fun e w13 hR => ?_
    obtain ⟨rfl, e9⟩ := hR
    refine ⟨_, rfl, ?_⟩; clear F fa; intro fa F
    replace q3 := (e9).keep0 q3
    replace E := ext_same E (e9)
    replace EO := ext_same EO (e9)
    replace EQ := ext_same EQ (e9)
    replace EL := ext_same EL (e9)
    clear e9
    refine F.vl (R_pickT rfl (F.at rfl) (F.at rfl)) ?_; clear F fa; intro fa F
    refine F.as ?_; clear F fa; intro fa F
    refine wpList_nil ?_
    refine hK17 _ _ ?_
    clear hK17
    refine wp_ret ?_
    (try simp only [Exit.inBlock, Exit.then])
    refine rt_v F (rs_1 F rfl rfl) ?_
    exact ⟨rfl, E⟩
end Go.Proofs.Ytholfdgebdlgjaa
