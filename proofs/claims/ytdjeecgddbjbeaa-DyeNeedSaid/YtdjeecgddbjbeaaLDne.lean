/- The law DyeNeed: with the Tol that Need answers there is a recipe, with one less there is none. No conditions. -/
import Derived.Test.YtdjeecgddbjbeaaDnl
import Derived.Test.YtdjeecgddbjbeaaDdw
import Derived.Test.YtdjeecgddbjbeaaDkv
namespace Go.Proofs.Ytdjeecgddbjbeaa
open Go.RowKit
set_option linter.unusedVariables false
set_option linter.unusedSimpArgs false
set_option maxRecDepth 100000 in
set_option maxHeartbeats 4000000 in
theorem dyeNeed_walk (a0 : Option Addr) (len0 cap0 : Nat) (z0 : List Int) (w : World) (h : IsRow .i64 w a0 len0 cap0 z0) : Calls Try.prog 9 #[.slice a0 len0 cap0] w fun e w' => e = .returned (.bool true) ∧ Ext [] w w' := by
  have E : Ext [] w w := Ext.refl _ _
  refine calls_has 103 Try.func9 rfl Try.ntmps9 (Nat.le_of_ble_eq_true rfl) ?_
  intro fa F
  refine wp_seq_k fun K1 hK1 => ?_
  refine wp_region_lit ?_
  refine F.vl (R_assign rfl (ev_c fa _)) ?_; clear F fa; intro fa F
  refine wpList_nil ?_
  refine hK1 _ _ ?_
  clear hK1
  refine wp_seq_k fun K2 hK2 => ?_
  refine wp_region_lit ?_
  refine F.mv ?_; clear F fa; intro fa F
  refine sq_call F rfl (by decide) rfl (R_callV rfl rfl Try.call13 (mpS (F.at rfl) mp0)) (newLots_any w a0 len0 cap0 z0 h) fun e w1 hR => ?_
  obtain ⟨b, rfl, hbw0, hbw1, HL, e9⟩ := hR
  refine ⟨_, rfl, ?_⟩; clear F fa; intro fa F
  replace E := ext_same E (e9)
  clear e9
  refine F.as ?_; clear F fa; intro fa F
  refine wpList_nil ?_
  refine hK2 _ _ ?_
  clear hK2
  refine wp_seq_k fun K3 hK3 => ?_
  refine wp_region_lit ?_
  refine F.mv ?_; clear F fa; intro fa F
  refine sq_call F rfl (by decide) rfl (R_callV rfl rfl Try.call33 (mpS (F.at rfl) (mpS (ev_c fa _) mp0))) (vatOf_any 4 (by decide) (by decide) w _ b _ _ HL (by omega)) fun e w2 hR => ?_
  obtain ⟨x, rfl, hv, hd3, hxb, HL, e9⟩ := hR
  refine ⟨_, rfl, ?_⟩; clear F fa; intro fa F
  replace E := E.trans' e9 (fun i hi hl => by simp only [List.mem_cons, List.not_mem_nil, or_false] at hi ⊢; omega)
  have HV := Lib.hid hv
  have HXB := Lib.hid hxb
  obtain ⟨wV, hwV⟩ : ∃ wV, wV = w2 := ⟨_, rfl⟩
  have EV : Ext [b] wV w2 := by rw [hwV]; exact Ext.refl _ _
  rw [← hwV] at HXB
  clear hv hxb
  refine sq_new F rfl (by decide) rfl (R_alloc rfl Try.zeroValue24) ?_; clear F fa; intro fa w3 F hw
  obtain ⟨n4, hn⟩ : ∃ n, n = w2.heap.size := ⟨_, rfl⟩
  rw [← hn] at F
  have s4 : w2.heap.size ≤ n4 := Nat.le_of_eq hn.symm
  have l4_E : w.heap.size ≤ n4 := by rw [hn]; exact E.size
  have l4_EV : wV.heap.size ≤ n4 := by rw [hn]; exact EV.size
  have b4_HL := Nat.lt_of_lt_of_eq (lots_lt HL) hn.symm
  replace E := ext_alloc E hw
  replace EV := ext_alloc EV hw
  replace HL := lots_alloc hw HL
  have q4 := new_row hw hn
  clear hw hn
  refine sq_to rfl rfl (R_storeRow rfl (F.at rfl) (F.at rfl) (by kernel_rfl) (by first | (simp [Value.oneCell']; done) | (simp [Value.oneCell', id]; done)) q4 rfl) ?_; intro w4 hw
  replace q4 := put_row hw q4 rfl
  replace E := ext_cells E hw (fun h => by first | exact absurd h (by omega) | simp)
  replace EV := ext_cells EV hw (fun h => by first | exact absurd h (by omega) | simp)
  replace HL := lots_cells hw HL (by omega) (by omega)
  clear hw
  refine wpList_nil ?_
  refine hK3 _ _ ?_
  clear hK3
  refine wp_seq_k fun K4 hK4 => ?_
  refine region_x (Ext [b] w4) none follows fun w5 hh eh => ?_
  have q4_ := q4
  replace q4 := keep_same hh q4
  have E_ := E
  have zEw5 := E.size
  replace E := ext_same E eh
  have EV_ := EV
  have zEVw5 := EV.size
  replace EV := ext_same EV eh
  have zbw5 := lots_lt HL
  replace HL := lots_ext eh HL
  have eT := eh.mono (Y := [b]) (by simp)
  clear hh eh
  refine F.x (i := 0) rfl (fun w' => R_move rfl (F.at rfl)) (fun _ => eT) ?_; clear F fa; intro fa F
  refine F.xr (i := 1) rfl (fun w' hS => R_loadBlk rfl (F.at rfl) Try.underlying24 rfl (by kernel_rfl) (hS.keep q4_ (by simp; omega))) (fun _ => eT) ?_; clear F fa; intro fa F
  refine F.x (i := 3) rfl (fun w' => R_move rfl (F.at rfl)) (fun _ => eT) ?_; clear F fa; intro fa F
  refine F.xr (i := 4) rfl (fun w' hS => R_loadBlk rfl (F.at rfl) Try.underlying24 rfl (by kernel_rfl) (hS.keep q4_ (by simp; omega))) (fun _ => eT) ?_; clear F fa; intro fa F
  obtain ⟨B2, hB2⟩ : ∃ B2, B2 = w5.heap.size := ⟨_, rfl⟩
  have hb2 : b < B2 := by rw [hB2]; exact lots_lt HL
  refine ax_only (i := 2) (by kernel_rfl) (op_call F rfl rfl (by decide) rfl (R_callV rfl rfl Try.call16 (mpS (F.at rfl) (mpS (F.at rfl) mp0))) (sampleOf_any x HV.out w _ b _ _ HL (by omega) (HXB.out.ext EV)) fun e w6 hR => ?_)
  obtain ⟨sa, sc, s, rfl, hs, so, HL, e9⟩ := hR
  refine ⟨_, rfl, ?_⟩; clear F fa; intro fa F
  replace q4 := (e9).keep q4 (by simp; omega)
  replace E := E.trans' e9 (fun i hi hl => by simp only [List.mem_cons, List.not_mem_nil, or_false] at hi ⊢; omega)
  replace EV := EV.trans' e9 (fun i hi hl => by simp only [List.mem_cons, List.not_mem_nil, or_false] at hi ⊢; omega)
  replace eT := eT.trans' e9 (fun i hi hl => by simp only [List.mem_cons, List.not_mem_nil, or_false] at hi ⊢; omega)
  refine ⟨fun _ => eT, ?_⟩
  rw [← hB2] at so
  obtain ⟨B3, hB3⟩ : ∃ B3, B3 = w6.heap.size := ⟨_, rfl⟩
  have hb3 : b < B3 := by rw [hB3]; exact lots_lt HL
  refine ax_only (i := 5) (by kernel_rfl) (op_call F rfl rfl (by decide) rfl (R_callV rfl rfl Try.call17 (mpS (F.at rfl) (mpS (F.at rfl) mp0))) (lampsOf_any x HV.out w _ b _ _ HL (by omega)) fun e w7 hR => ?_)
  obtain ⟨la, lc, ls, rfl, hl, hl3, lo, HL, e9⟩ := hR
  refine ⟨_, rfl, ?_⟩; clear F fa; intro fa F
  replace so := owns_ext so (e9) (by simp; omega)
  replace q4 := (e9).keep q4 (by simp; omega)
  replace E := E.trans' e9 (fun i hi hl => by simp only [List.mem_cons, List.not_mem_nil, or_false] at hi ⊢; omega)
  replace EV := EV.trans' e9 (fun i hi hl => by simp only [List.mem_cons, List.not_mem_nil, or_false] at hi ⊢; omega)
  replace eT := eT.trans' e9 (fun i hi hl => by simp only [List.mem_cons, List.not_mem_nil, or_false] at hi ⊢; omega)
  refine ⟨fun _ => eT, ?_⟩
  rw [← hB3] at lo
  refine F.x (i := 6) rfl (fun w' => R_assign rfl (F.at rfl)) (fun _ => eT) ?_; clear F fa; intro fa F
  refine F.x (i := 7) rfl (fun w' => R_assign rfl (F.at rfl)) (fun _ => eT) ?_; clear F fa; intro fa F
  refine ax_done (by kernel_rfl) ?_ _
  clear eT q4_ E_ EV_
  have hxd := HXB.out _ EV
  have HSR := Lib.hid (rows_of_ivs so rfl)
  have HLR := Lib.hid (rows_of_ivs lo rfl)
  have HXD := Lib.hid hxd
  obtain ⟨wD, hwD⟩ : ∃ wD, wD = w7 := ⟨_, rfl⟩
  have ED : Ext [] wD w7 := by rw [hwD]; exact Ext.refl _ _
  rw [← hwD] at HXD HSR HLR
  clear hxd so lo HL EV
  have HSO := Lib.hid hs
  have HLO := Lib.hid hl
  clear hs hl
  refine hK4 _ _ ?_
  clear hK4
  refine wp_seq_k fun K5 hK5 => ?_
  refine wp_region_lit ?_
  refine F.vl (R_loadBlk rfl (F.at rfl) Try.underlying24 rfl (by kernel_rfl) q4) ?_; clear F fa; intro fa F
  refine F.mv ?_; clear F fa; intro fa F
  refine F.mv ?_; clear F fa; intro fa F
  refine sq_call F rfl (by decide) rfl (R_callV rfl rfl Try.call41 (mpS (F.at rfl) (mpS (F.at rfl) (mpS (F.at rfl) mp0)))) (xNeed_ok x HV.out s HSO.out ls HLO.out (by omega) sa la sc lc _ (HXD.out.ext ED) (HSR.out.ext ED (by simp)) (HLR.out.ext ED (by simp))) fun e w8 hR => ?_
  obtain ⟨n, er, rfl, hne, e9⟩ := hR
  refine ⟨_, rfl, ?_⟩; clear F fa; intro fa F
  replace q4 := (e9).keep0 q4
  replace E := ext_same E (e9)
  replace ED := ext_same ED (e9)
  clear e9
  refine F.mv ?_; clear F fa; intro fa F
  refine F.vl (R_extract rfl (F.at rfl) (get0)) ?_; clear F fa; intro fa F
  refine F.vl (R_extract rfl (F.at rfl) (getS (get0))) ?_; clear F fa; intro fa F
  refine F.as ?_; clear F fa; intro fa F
  refine F.as ?_; clear F fa; intro fa F
  refine wpList_nil ?_
  refine hK5 _ _ ?_
  clear hK5
  refine wp_seq_k fun K6 hK6 => ?_
  refine wp_region_lit ?_
  refine F.vl (R_loadBlk rfl (F.at rfl) Try.underlying24 rfl (by kernel_rfl) q4) ?_; clear F fa; intro fa F
  refine sq_call F rfl (by decide) rfl (R_callV rfl rfl Try.call18 (mpS (F.at rfl) mp0)) (copyVat_any x _ (HXD.out.ext ED) HV.out.sd HV.out.sl) fun e w9 hR => ?_
  obtain ⟨y, rfl, hyB, hyt, hyD, hyL, hyA, e9⟩ := hR
  refine ⟨_, rfl, ?_⟩; clear F fa; intro fa F
  replace q4 := (e9).keep0 q4
  replace E := ext_same E (e9)
  replace ED := ext_same ED (e9)
  clear e9
  have HY := Lib.hid (SameV.mk hyB hyt hyD hyL)
  have HYA := Lib.hid hyA
  obtain ⟨wY, hwY⟩ : ∃ wY, wY = w9 := ⟨_, rfl⟩
  have EY : Ext [] wY w9 := by rw [hwY]; exact Ext.refl _ _
  rw [← hwY] at HYA
  clear hyB hyt hyD hyL hyA
  refine sq_new F rfl (by decide) rfl (R_alloc rfl Try.zeroValue24) ?_; clear F fa; intro fa w10 F hw
  obtain ⟨n9, hn⟩ : ∃ n, n = w9.heap.size := ⟨_, rfl⟩
  rw [← hn] at F
  have s9 : w9.heap.size ≤ n9 := Nat.le_of_eq hn.symm
  have l9_E : w.heap.size ≤ n9 := by rw [hn]; exact E.size
  have l9_ED : wD.heap.size ≤ n9 := by rw [hn]; exact ED.size
  have l9_EY : wY.heap.size ≤ n9 := by rw [hn]; exact EY.size
  have m9_4 : n4 < n9 := by rw [hn]; exact blk_lt q4
  replace q4 := keep_alloc hw q4
  replace E := ext_alloc E hw
  replace ED := ext_alloc ED hw
  replace EY := ext_alloc EY hw
  have q9 := new_row hw hn
  clear hw hn
  refine sq_to rfl rfl (R_storeRow rfl (F.at rfl) (F.at rfl) (by kernel_rfl) (by first | (simp [Value.oneCell']; done) | (simp [Value.oneCell', id]; done)) q9 rfl) ?_; intro w11 hw
  replace q4 := keep_cells hw q4 (by omega)
  replace q9 := put_row hw q9 rfl
  replace E := ext_cells E hw (fun h => by first | exact absurd h (by omega) | simp)
  replace ED := ext_cells ED hw (fun h => by first | exact absurd h (by omega) | simp)
  replace EY := ext_cells EY hw (fun h => by first | exact absurd h (by omega) | simp)
  clear hw
  refine wpList_nil ?_
  refine hK6 _ _ ?_
  clear hK6
  refine wp_seq_k fun K7 hK7 => ?_
  refine wp_seq_k fun K8 hK8 => ?_
  refine wp_region_lit ?_
  refine F.mv ?_; clear F fa; intro fa F
  refine F.vl (R_eqlD rfl (F.at rfl) (ev_c fa _)) ?_; clear F fa; intro fa F
  refine wpList_nil ?_
  refine hK8 _ _ ?_
  clear hK8
  refine cd_if F rfl (fun hc34 => ?_) (fun hc34 => ?_)
  · skip
    have hn11 := hne.resolve_left (fun h => by have := h.1; omega)
    obtain ⟨h11, hn0, hk0⟩ := hn11
    refine wp_seq_k fun K9 hK9 => ?_
    refine wp_region_lit ?_
    refine F.vl (R_field rfl (F.at rfl) Try.underlying24 rfl (n := 3) (sz := 1) rfl (by kernel_rfl) (by decide)) ?_; clear F fa; intro fa F
    refine sq_to rfl rfl (R_store rfl (F.at rfl) (ev_c fa _) rfl (by kernel_rfl) ((cells_of_block q9 3).trans (getS (getS (getS (get0))))) (free_of_block q9 3)) ?_; intro w12 hw
    replace q4 := keep_cell hw q4 (by omega)
    replace q9 := put_cell hw q9 (by simp only [List.setIfInBounds_toArray, List.set_cons_succ, List.set_cons_zero]; exact rfl)
    replace E := ext_cell E hw (fun h => by first | exact absurd h (by omega) | simp)
    replace ED := ext_cell ED hw (fun h => by first | exact absurd h (by omega) | simp)
    replace EY := ext_cell EY hw (fun h => by first | exact absurd h (by omega) | simp)
    clear hw
    refine wpList_nil ?_
    refine hK9 _ _ ?_
    clear hK9
    refine wp_seq_k fun K10 hK10 => ?_
    refine wp_region_lit ?_
    refine F.vl (R_loadBlk rfl (F.at rfl) Try.underlying24 rfl (by kernel_rfl) q9) ?_; clear F fa; intro fa F
    refine F.mv ?_; clear F fa; intro fa F
    refine F.mv ?_; clear F fa; intro fa F
    refine sq_call F rfl (by decide) rfl (R_callV rfl rfl Try.call37 (mpS (F.at rfl) (mpS (F.at rfl) (mpS (F.at rfl) mp0)))) (xRecipes_ok (y.tolN 12) ((HY.out.ok HV.out).tolN (by decide) (by decide)) s (HY.out.smp HSO.out) ls (HY.out.lmp HLO.out) (by omega) sa la sc lc _ ((HYA.out.ext EY).tolN 12) (HSR.out.ext ED (by simp)) (HLR.out.ext ED (by simp))) fun e w13 hR => ?_
    obtain ⟨Ma, mba, mca, rfl, hMa, om, fam, e9⟩ := hR
    refine ⟨_, rfl, ?_⟩; clear F fa; intro fa F
    replace q4 := (e9).keep0 q4
    replace q9 := (e9).keep0 q9
    replace E := ext_same E (e9)
    replace ED := ext_same ED (e9)
    replace EY := ext_same EY (e9)
    clear e9
    have HMa := Lib.hid (lol_of_own om fam)
    have HMSa := Lib.hid (lol_of_own om fam).1
    obtain ⟨wMa, hwMa⟩ : ∃ wM, wM = w13 := ⟨_, rfl⟩
    have EMa : Ext [] wMa w13 := by rw [hwMa]; exact Ext.refl _ _
    rw [← hwMa] at HMa HMSa
    clear om fam
    have hMla : Ma.length ≤ 500 := by rw [← List.length_map (f := fun p : Value × List Int => p.2), hMa]; exact mat_len ((HY.out.ok HV.out).tolN (by decide) (by decide))
    have hMa0 : Ma.length = 0 := by rw [← List.length_map (f := fun p : Value × List Int => p.2), hMa, (HY.out.tolN 12).mat]; exact List.length_eq_zero_iff.2 (hk0 12 (by decide))
    refine F.mv ?_; clear F fa; intro fa F
    refine F.vl (R_extract rfl (F.at rfl) (get0)) ?_; clear F fa; intro fa F
    refine F.vl (R_extract rfl (F.at rfl) (getS (get0))) ?_; clear F fa; intro fa F
    refine F.as ?_; clear F fa; intro fa F
    refine F.as ?_; clear F fa; intro fa F
    refine wpList_nil ?_
    refine hK10 _ _ ?_
    clear hK10
    refine wp_seq_k fun K11 hK11 => ?_
    refine wp_region_lit ?_
    refine F.mv ?_; clear F fa; intro fa F
    refine F.vl (R_eqlB (b := true) rfl (F.at rfl) (ev_c fa _) (decide_eq_true (by rfl))) ?_; clear F fa; intro fa F
    refine F.mv ?_; clear F fa; intro fa F
    refine F.mv ?_ (hw := (wantT F rfl rfl (by decide) rfl)); clear F fa; intro fa F
    refine F.vl (R_len rfl rfl (F.at rfl) Try.underlying22) ?_ (hw := (wantT F rfl rfl (by decide) rfl)); clear F fa; intro fa F
    refine F.vl (R_eqlB (b := true) rfl (F.at rfl) (ev_c fa _) (decide_eq_true (by omega))) ?_ (hw := (wantT F rfl rfl (by decide) rfl)); clear F fa; intro fa F
    refine F.vl (R_pickT rfl (F.at rfl) (F.at rfl)) ?_; clear F fa; intro fa F
    refine F.mv ?_; clear F fa; intro fa F
    refine F.mv ?_ (hw := (wantT F rfl rfl (by decide) rfl)); clear F fa; intro fa F
    refine F.vl (R_eqlB (b := true) rfl (F.at rfl) (ev_c fa _) (decide_eq_true (by omega))) ?_ (hw := (wantT F rfl rfl (by decide) rfl)); clear F fa; intro fa F
    refine F.vl (R_pickT rfl (F.at rfl) (F.at rfl)) ?_; clear F fa; intro fa F
    refine F.mv ?_; clear F fa; intro fa F
    refine sq_call F rfl (by decide) (wantT F rfl rfl (by decide) rfl) (R_callV rfl rfl Try.call12 mp0) (dyed_any _) fun e w14 hR => ?_
    obtain ⟨rfl, e9⟩ := hR
    refine ⟨_, rfl, ?_⟩; clear F fa; intro fa F
    replace q4 := (e9).keep0 q4
    replace q9 := (e9).keep0 q9
    replace E := ext_same E (e9)
    replace ED := ext_same ED (e9)
    replace EY := ext_same EY (e9)
    replace EMa := ext_same EMa (e9)
    clear e9
    refine F.vl (R_pickT rfl (F.at rfl) (F.at rfl)) ?_; clear F fa; intro fa F
    refine F.as ?_; clear F fa; intro fa F
    refine wpList_nil ?_
    refine hK11 _ _ ?_
    clear hK11
    refine wp_ret ?_
    (try simp only [Exit.inBlock, Exit.then, reduceIte])
    refine rt_v F (rs_1 F rfl rfl) ?_
    exact ⟨rfl, E⟩
  · skip
    obtain ⟨he0, hn12, hn1, hn2⟩ := hne.resolve_right (fun h => by have := h.1; omega)
    refine wp_skip ?_
    refine hK7 _ _ ?_
    clear hK7
    refine wp_seq_k fun K12 hK12 => ?_
    refine wp_seq_k fun K13 hK13 => ?_
    refine wp_region_lit ?_
    refine F.mv ?_; clear F fa; intro fa F
    refine F.vl (R_neqB (b := false) rfl (F.at rfl) (ev_c fa _) (decide_eq_true (by omega))) ?_; clear F fa; intro fa F
    refine F.mv ?_; clear F fa; intro fa F
    refine F.mv ?_ (hw := (wantT F rfl rfl (by decide) rfl)); clear F fa; intro fa F
    refine F.vl (R_lssB (b := false) rfl (F.at rfl) (ev_c fa _) (decide_eq_false (by omega))) ?_ (hw := (wantT F rfl rfl (by decide) rfl)); clear F fa; intro fa F
    refine F.vl (R_pickF rfl (F.at rfl) (F.at rfl)) ?_; clear F fa; intro fa F
    refine F.mv ?_; clear F fa; intro fa F
    refine F.mv ?_ (hw := (wantT F rfl rfl (by decide) rfl)); clear F fa; intro fa F
    refine F.vl (R_gtrB (b := false) rfl (F.at rfl) (ev_c fa _) (decide_eq_false (by omega))) ?_ (hw := (wantT F rfl rfl (by decide) rfl)); clear F fa; intro fa F
    refine F.vl (R_pickF rfl (F.at rfl) (F.at rfl)) ?_; clear F fa; intro fa F
    refine wpList_nil ?_
    refine hK13 _ _ ?_
    clear hK13
    refine cd_F F rfl ?_
    refine wp_skip ?_
    refine hK12 _ _ ?_
    clear hK12
    refine wp_seq_k fun K14 hK14 => ?_
    refine wp_region_lit ?_
    refine F.mv ?_; clear F fa; intro fa F
    refine F.vl (R_field rfl (F.at rfl) Try.underlying24 rfl (n := 3) (sz := 1) rfl (by kernel_rfl) (by decide)) ?_; clear F fa; intro fa F
    refine sq_to rfl rfl (R_store rfl (F.at rfl) (F.at rfl) rfl (by kernel_rfl) ((cells_of_block q9 3).trans (getS (getS (getS (get0))))) (free_of_block q9 3)) ?_; intro w15 hw
    replace q4 := keep_cell hw q4 (by omega)
    replace q9 := put_cell hw q9 (by simp only [List.setIfInBounds_toArray, List.set_cons_succ, List.set_cons_zero]; exact rfl)
    replace E := ext_cell E hw (fun h => by first | exact absurd h (by omega) | simp)
    replace ED := ext_cell ED hw (fun h => by first | exact absurd h (by omega) | simp)
    replace EY := ext_cell EY hw (fun h => by first | exact absurd h (by omega) | simp)
    clear hw
    refine wpList_nil ?_
    refine hK14 _ _ ?_
    clear hK14
    refine wp_seq_k fun K15 hK15 => ?_
    refine wp_region_lit ?_
    refine F.vl (R_loadBlk rfl (F.at rfl) Try.underlying24 rfl (by kernel_rfl) q9) ?_; clear F fa; intro fa F
    refine F.mv ?_; clear F fa; intro fa F
    refine F.mv ?_; clear F fa; intro fa F
    refine sq_call F rfl (by decide) rfl (R_callV rfl rfl Try.call37 (mpS (F.at rfl) (mpS (F.at rfl) (mpS (F.at rfl) mp0)))) (xRecipes_ok (y.tolN ((n : Nat) : Int)) ((HY.out.ok HV.out).tolN (by omega) (by omega)) s (HY.out.smp HSO.out) ls (HY.out.lmp HLO.out) (by omega) sa la sc lc _ ((HYA.out.ext EY).tolN ((n : Nat) : Int)) (HSR.out.ext ED (by simp)) (HLR.out.ext ED (by simp))) fun e w16 hR => ?_
    obtain ⟨Mb, mbb, mcb, rfl, hMb, om, fam, e9⟩ := hR
    refine ⟨_, rfl, ?_⟩; clear F fa; intro fa F
    replace q4 := (e9).keep0 q4
    replace q9 := (e9).keep0 q9
    replace E := ext_same E (e9)
    replace ED := ext_same ED (e9)
    replace EY := ext_same EY (e9)
    clear e9
    have HMb := Lib.hid (lol_of_own om fam)
    have HMSb := Lib.hid (lol_of_own om fam).1
    obtain ⟨wMb, hwMb⟩ : ∃ wM, wM = w16 := ⟨_, rfl⟩
    have EMb : Ext [] wMb w16 := by rw [hwMb]; exact Ext.refl _ _
    rw [← hwMb] at HMb HMSb
    clear om fam
    have hMlb : Mb.length ≤ 500 := by rw [← List.length_map (f := fun p : Value × List Int => p.2), hMb]; exact mat_len ((HY.out.ok HV.out).tolN (by omega) (by omega))
    have hMb0 : Mb.length ≠ 0 := by rw [← List.length_map (f := fun p : Value × List Int => p.2), hMb, (HY.out.tolN _).mat]; exact fun h => hn1 (List.length_eq_zero_iff.1 h)
    refine F.mv ?_; clear F fa; intro fa F
    refine F.vl (R_extract rfl (F.at rfl) (get0)) ?_; clear F fa; intro fa F
    refine F.vl (R_extract rfl (F.at rfl) (getS (get0))) ?_; clear F fa; intro fa F
    refine F.as ?_; clear F fa; intro fa F
    refine F.as ?_; clear F fa; intro fa F
    refine wpList_nil ?_
    refine hK15 _ _ ?_
    clear hK15
    refine wp_seq_k fun K16 hK16 => ?_
    refine wp_seq_k fun K17 hK17 => ?_
    refine wp_region_lit ?_
    refine F.mv ?_; clear F fa; intro fa F
    refine F.vl (R_neqB (b := false) rfl (F.at rfl) (ev_c fa _) (decide_eq_true (by omega))) ?_; clear F fa; intro fa F
    refine F.mv ?_; clear F fa; intro fa F
    refine F.mv ?_ (hw := (wantT F rfl rfl (by decide) rfl)); clear F fa; intro fa F
    refine F.vl (R_len rfl rfl (F.at rfl) Try.underlying22) ?_ (hw := (wantT F rfl rfl (by decide) rfl)); clear F fa; intro fa F
    refine F.vl (R_eqlB (b := false) rfl (F.at rfl) (ev_c fa _) (decide_eq_false (by omega))) ?_ (hw := (wantT F rfl rfl (by decide) rfl)); clear F fa; intro fa F
    refine F.vl (R_pickF rfl (F.at rfl) (F.at rfl)) ?_; clear F fa; intro fa F
    refine wpList_nil ?_
    refine hK17 _ _ ?_
    clear hK17
    refine cd_F F rfl ?_
    refine wp_skip ?_
    refine hK16 _ _ ?_
    clear hK16
    refine wp_seq_k fun K18 hK18 => ?_
    refine wp_seq_k fun K19 hK19 => ?_
    refine wp_region_lit ?_
    refine F.mv ?_; clear F fa; intro fa F
    refine F.vl (R_gtr rfl (F.at rfl) (ev_c fa _)) ?_; clear F fa; intro fa F
    refine wpList_nil ?_
    refine hK19 _ _ ?_
    clear hK19
    refine cd_if F rfl (fun hc84 => ?_) (fun hc84 => ?_)
    · skip
      refine wp_seq_k fun K20 hK20 => ?_
      replace F := F.sub (.c 5 rfl (.c 6 rfl (.c 7 rfl (.c 9 rfl .n))))
      refine wp_region_lit ?_
      refine F.mv ?_; clear F fa; intro fa F
      refine F.vl (R_sub rfl (F.at rfl) (ev_c fa _) (by omega) (by omega)) ?_; clear F fa; intro fa F
      refine F.vl (R_field rfl (F.at rfl) Try.underlying24 rfl (n := 3) (sz := 1) rfl (by kernel_rfl) (by decide)) ?_; clear F fa; intro fa F
      refine sq_to rfl rfl (R_store rfl (F.at rfl) (F.at rfl) rfl (by kernel_rfl) ((cells_of_block q9 3).trans (getS (getS (getS (get0))))) (free_of_block q9 3)) ?_; intro w17 hw
      replace q4 := keep_cell hw q4 (by omega)
      replace q9 := put_cell hw q9 (by simp only [List.setIfInBounds_toArray, List.set_cons_succ, List.set_cons_zero]; exact rfl)
      replace E := ext_cell E hw (fun h => by first | exact absurd h (by omega) | simp)
      replace ED := ext_cell ED hw (fun h => by first | exact absurd h (by omega) | simp)
      replace EY := ext_cell EY hw (fun h => by first | exact absurd h (by omega) | simp)
      clear hw
      refine wpList_nil ?_
      refine hK20 _ _ ?_
      clear hK20
      refine wp_seq_k fun K21 hK21 => ?_
      refine wp_region_lit ?_
      refine F.vl (R_loadBlk rfl (F.at rfl) Try.underlying24 rfl (by kernel_rfl) q9) ?_; clear F fa; intro fa F
      refine F.mv ?_; clear F fa; intro fa F
      refine F.mv ?_; clear F fa; intro fa F
      refine sq_call F rfl (by decide) rfl (R_callV rfl rfl Try.call37 (mpS (F.at rfl) (mpS (F.at rfl) (mpS (F.at rfl) mp0)))) (xRecipes_ok (y.tolN (((n : Nat) : Int) - 1)) ((HY.out.ok HV.out).tolN (by omega) (by omega)) s (HY.out.smp HSO.out) ls (HY.out.lmp HLO.out) (by omega) sa la sc lc _ ((HYA.out.ext EY).tolN (((n : Nat) : Int) - 1)) (HSR.out.ext ED (by simp)) (HLR.out.ext ED (by simp))) fun e w18 hR => ?_
      obtain ⟨Mc, mbc, mcc, rfl, hMc, om, fam, e9⟩ := hR
      refine ⟨_, rfl, ?_⟩; clear F fa; intro fa F
      replace q4 := (e9).keep0 q4
      replace q9 := (e9).keep0 q9
      replace E := ext_same E (e9)
      replace ED := ext_same ED (e9)
      replace EY := ext_same EY (e9)
      clear e9
      have HMc := Lib.hid (lol_of_own om fam)
      have HMSc := Lib.hid (lol_of_own om fam).1
      obtain ⟨wMc, hwMc⟩ : ∃ wM, wM = w18 := ⟨_, rfl⟩
      have EMc : Ext [] wMc w18 := by rw [hwMc]; exact Ext.refl _ _
      rw [← hwMc] at HMc HMSc
      clear om fam
      have hMlc : Mc.length ≤ 500 := by rw [← List.length_map (f := fun p : Value × List Int => p.2), hMc]; exact mat_len ((HY.out.ok HV.out).tolN (by omega) (by omega))
      have hMc0 : Mc.length = 0 := by rw [← List.length_map (f := fun p : Value × List Int => p.2), hMc, (HY.out.tolN _).mat, show ((n : Nat) : Int) - 1 = ((n - 1 : Nat) : Int) by omega]; exact List.length_eq_zero_iff.2 (hn2 (n - 1) (by omega))
      refine F.mv ?_; clear F fa; intro fa F
      refine F.vl (R_extract rfl (F.at rfl) (get0)) ?_; clear F fa; intro fa F
      refine F.vl (R_extract rfl (F.at rfl) (getS (get0))) ?_; clear F fa; intro fa F
      refine F.as ?_; clear F fa; intro fa F
      refine F.as ?_; clear F fa; intro fa F
      refine wpList_nil ?_
      refine hK21 _ _ ?_
      clear hK21
      refine wp_seq_k fun K22 hK22 => ?_
      refine wp_region_lit ?_
      refine F.mv ?_; clear F fa; intro fa F
      refine F.vl (R_neqB (b := false) rfl (F.at rfl) (ev_c fa _) (decide_eq_true (by omega))) ?_; clear F fa; intro fa F
      refine F.mv ?_; clear F fa; intro fa F
      refine F.mv ?_ (hw := (wantT F rfl rfl (by decide) rfl)); clear F fa; intro fa F
      refine F.vl (R_len rfl rfl (F.at rfl) Try.underlying22) ?_ (hw := (wantT F rfl rfl (by decide) rfl)); clear F fa; intro fa F
      refine F.vl (R_gtrB (b := false) rfl (F.at rfl) (ev_c fa _) (decide_eq_false (by omega))) ?_ (hw := (wantT F rfl rfl (by decide) rfl)); clear F fa; intro fa F
      refine F.vl (R_pickF rfl (F.at rfl) (F.at rfl)) ?_; clear F fa; intro fa F
      refine wpList_nil ?_
      refine hK22 _ _ ?_
      clear hK22
      refine cd_F F rfl ?_
      refine wp_skip ?_
      refine hK18 _ _ ?_
      clear hK18
      refine wp_seq_k fun K23 hK23 => ?_
      refine wp_region_lit ?_
      refine sq_call F rfl (by decide) rfl (R_callV rfl rfl Try.call12 mp0) (dyed_any _) fun e w19 hR => ?_
      obtain ⟨rfl, e9⟩ := hR
      refine ⟨_, rfl, ?_⟩; clear F fa; intro fa F
      replace q4 := (e9).keep0 q4
      replace q9 := (e9).keep0 q9
      replace E := ext_same E (e9)
      replace ED := ext_same ED (e9)
      replace EY := ext_same EY (e9)
      replace EMc := ext_same EMc (e9)
      clear e9
      refine F.as ?_; clear F fa; intro fa F
      refine wpList_nil ?_
      refine hK23 _ _ ?_
      clear hK23
      refine wp_ret ?_
      (try simp only [Exit.inBlock, Exit.then, reduceIte])
      refine rt_v F (rs_1 F rfl rfl) ?_
      exact ⟨rfl, E⟩
    · skip
      refine wp_skip ?_
      refine hK18 _ _ ?_
      clear hK18
      refine wp_seq_k fun K24 hK24 => ?_
      replace F := F.sub .n
      clear q9
      refine wp_region_lit ?_
      refine sq_call F rfl (by decide) rfl (R_callV rfl rfl Try.call12 mp0) (dyed_any _) fun e w20 hR => ?_
      obtain ⟨rfl, e9⟩ := hR
      refine ⟨_, rfl, ?_⟩; clear F fa; intro fa F
      replace q4 := (e9).keep0 q4
      replace E := ext_same E (e9)
      replace ED := ext_same ED (e9)
      replace EY := ext_same EY (e9)
      clear e9
      refine F.as ?_; clear F fa; intro fa F
      refine wpList_nil ?_
      refine hK24 _ _ ?_
      clear hK24
      refine wp_ret ?_
      (try simp only [Exit.inBlock, Exit.then, reduceIte])
      refine rt_v F (rs_1 F rfl rfl) ?_
      exact ⟨rfl, E⟩
end Go.Proofs.Ytdjeecgddbjbeaa
