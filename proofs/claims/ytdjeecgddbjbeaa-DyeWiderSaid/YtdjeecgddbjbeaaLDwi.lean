/- The law DyeWider: with a greater Tol, or a lamp less, no recipe is lost. No conditions. -/
import Derived.Test.YtdjeecgddbjbeaaDwi
import Derived.Test.YtdjeecgddbjbeaaDdw
namespace Go.Proofs.Ytdjeecgddbjbeaa
open Go.RowKit
set_option linter.unusedVariables false
set_option linter.unusedSimpArgs false
set_option maxRecDepth 100000 in
set_option maxHeartbeats 4000000 in
theorem dyeWider_walk (a0 : Option Addr) (len0 cap0 : Nat) (z0 : List Int) (w : World) (h : IsRow .i64 w a0 len0 cap0 z0) : Calls Try.prog 8 #[.slice a0 len0 cap0] w fun e w' => e = .returned (.bool true) ∧ Ext [] w w' := by
  have E : Ext [] w w := Ext.refl _ _
  refine calls_has 137 Try.func8 rfl Try.ntmps8 (Nat.le_of_ble_eq_true rfl) ?_
  intro fa F
  refine wp_seq_k fun K1 hK1 => ?_
  refine wp_region_lit ?_
  refine F.vl (R_assign rfl (ev_c fa _)) ?_; clear F fa; intro fa F
  refine wpList_nil ?_
  refine hK1 _ _ ?_
  clear hK1
  refine wp_seq_k fun K2 hK2 => ?_
  refine wp_region_lit ?_
  refine F.mv ?_; clear F fa; intro fa F
  refine sq_call F rfl (by decide) rfl (R_callV rfl rfl Try.call13 (mpS (F.at rfl) mp0)) (newLots_any w a0 len0 cap0 z0 h) fun e w1 hR => ?_
  obtain ⟨b, rfl, hbw0, hbw1, HL, e9⟩ := hR
  refine ⟨_, rfl, ?_⟩; clear F fa; intro fa F
  replace E := ext_same E (e9)
  clear e9
  refine F.as ?_; clear F fa; intro fa F
  refine wpList_nil ?_
  refine hK2 _ _ ?_
  clear hK2
  refine wp_seq_k fun K3 hK3 => ?_
  refine wp_region_lit ?_
  refine F.mv ?_; clear F fa; intro fa F
  refine sq_call F rfl (by decide) rfl (R_callV rfl rfl Try.call33 (mpS (F.at rfl) (mpS (ev_c fa _) mp0))) (vatOf_any 4 (by decide) (by decide) w _ b _ _ HL (by omega)) fun e w2 hR => ?_
  obtain ⟨x, rfl, hv, hd3, hxb, HL, e9⟩ := hR
  refine ⟨_, rfl, ?_⟩; clear F fa; intro fa F
  replace E := E.trans' e9 (fun i hi hl => by simp only [List.mem_cons, List.not_mem_nil, or_false] at hi ⊢; omega)
  have HV := Lib.hid hv
  have HXB := Lib.hid hxb
  obtain ⟨wV, hwV⟩ : ∃ wV, wV = w2 := ⟨_, rfl⟩
  have EV : Ext [b] wV w2 := by rw [hwV]; exact Ext.refl _ _
  rw [← hwV] at HXB
  clear hv hxb
  refine sq_new F rfl (by decide) rfl (R_alloc rfl Try.zeroValue24) ?_; clear F fa; intro fa w3 F hw
  obtain ⟨n4, hn⟩ : ∃ n, n = w2.heap.size := ⟨_, rfl⟩
  rw [← hn] at F
  have s4 : w2.heap.size ≤ n4 := Nat.le_of_eq hn.symm
  have l4_E : w.heap.size ≤ n4 := by rw [hn]; exact E.size
  have l4_EV : wV.heap.size ≤ n4 := by rw [hn]; exact EV.size
  have b4_HL := Nat.lt_of_lt_of_eq (lots_lt HL) hn.symm
  replace E := ext_alloc E hw
  replace EV := ext_alloc EV hw
  replace HL := lots_alloc hw HL
  have q4 := new_row hw hn
  clear hw hn
  refine sq_to rfl rfl (R_storeRow rfl (F.at rfl) (F.at rfl) (by kernel_rfl) (by first | (simp [Value.oneCell']; done) | (simp [Value.oneCell', id]; done)) q4 rfl) ?_; intro w4 hw
  replace q4 := put_row hw q4 rfl
  replace E := ext_cells E hw (fun h => by first | exact absurd h (by omega) | simp)
  replace EV := ext_cells EV hw (fun h => by first | exact absurd h (by omega) | simp)
  replace HL := lots_cells hw HL (by omega) (by omega)
  clear hw
  refine wpList_nil ?_
  refine hK3 _ _ ?_
  clear hK3
  refine wp_seq_k fun K4 hK4 => ?_
  refine region_x (Ext [b] w4) none follows fun w5 hh eh => ?_
  have q4_ := q4
  replace q4 := keep_same hh q4
  have E_ := E
  have zEw5 := E.size
  replace E := ext_same E eh
  have EV_ := EV
  have zEVw5 := EV.size
  replace EV := ext_same EV eh
  have zbw5 := lots_lt HL
  replace HL := lots_ext eh HL
  have eT := eh.mono (Y := [b]) (by simp)
  clear hh eh
  refine F.x (i := 0) rfl (fun w' => R_move rfl (F.at rfl)) (fun _ => eT) ?_; clear F fa; intro fa F
  refine F.xr (i := 1) rfl (fun w' hS => R_loadBlk rfl (F.at rfl) Try.underlying24 rfl (by kernel_rfl) (hS.keep q4_ (by simp; omega))) (fun _ => eT) ?_; clear F fa; intro fa F
  refine F.x (i := 3) rfl (fun w' => R_move rfl (F.at rfl)) (fun _ => eT) ?_; clear F fa; intro fa F
  refine F.xr (i := 4) rfl (fun w' hS => R_loadBlk rfl (F.at rfl) Try.underlying24 rfl (by kernel_rfl) (hS.keep q4_ (by simp; omega))) (fun _ => eT) ?_; clear F fa; intro fa F
  obtain ⟨B2, hB2⟩ : ∃ B2, B2 = w5.heap.size := ⟨_, rfl⟩
  have hb2 : b < B2 := by rw [hB2]; exact lots_lt HL
  refine ax_only (i := 2) (by kernel_rfl) (op_call F rfl rfl (by decide) rfl (R_callV rfl rfl Try.call16 (mpS (F.at rfl) (mpS (F.at rfl) mp0))) (sampleOf_any x HV.out w _ b _ _ HL (by omega) (HXB.out.ext EV)) fun e w6 hR => ?_)
  obtain ⟨sa, sc, s, rfl, hs, so, HL, e9⟩ := hR
  refine ⟨_, rfl, ?_⟩; clear F fa; intro fa F
  replace q4 := (e9).keep q4 (by simp; omega)
  replace E := E.trans' e9 (fun i hi hl => by simp only [List.mem_cons, List.not_mem_nil, or_false] at hi ⊢; omega)
  replace EV := EV.trans' e9 (fun i hi hl => by simp only [List.mem_cons, List.not_mem_nil, or_false] at hi ⊢; omega)
  replace eT := eT.trans' e9 (fun i hi hl => by simp only [List.mem_cons, List.not_mem_nil, or_false] at hi ⊢; omega)
  refine ⟨fun _ => eT, ?_⟩
  rw [← hB2] at so
  obtain ⟨B3, hB3⟩ : ∃ B3, B3 = w6.heap.size := ⟨_, rfl⟩
  have hb3 : b < B3 := by rw [hB3]; exact lots_lt HL
  refine ax_only (i := 5) (by kernel_rfl) (op_call F rfl rfl (by decide) rfl (R_callV rfl rfl Try.call17 (mpS (F.at rfl) (mpS (F.at rfl) mp0))) (lampsOf_any x HV.out w _ b _ _ HL (by omega)) fun e w7 hR => ?_)
  obtain ⟨la, lc, ls, rfl, hl, hl3, lo, HL, e9⟩ := hR
  refine ⟨_, rfl, ?_⟩; clear F fa; intro fa F
  replace so := owns_ext so (e9) (by simp; omega)
  replace q4 := (e9).keep q4 (by simp; omega)
  replace E := E.trans' e9 (fun i hi hl => by simp only [List.mem_cons, List.not_mem_nil, or_false] at hi ⊢; omega)
  replace EV := EV.trans' e9 (fun i hi hl => by simp only [List.mem_cons, List.not_mem_nil, or_false] at hi ⊢; omega)
  replace eT := eT.trans' e9 (fun i hi hl => by simp only [List.mem_cons, List.not_mem_nil, or_false] at hi ⊢; omega)
  refine ⟨fun _ => eT, ?_⟩
  rw [← hB3] at lo
  refine F.x (i := 6) rfl (fun w' => R_assign rfl (F.at rfl)) (fun _ => eT) ?_; clear F fa; intro fa F
  refine F.x (i := 7) rfl (fun w' => R_assign rfl (F.at rfl)) (fun _ => eT) ?_; clear F fa; intro fa F
  refine ax_done (by kernel_rfl) ?_ _
  clear eT q4_ E_ EV_
  have HSR := Lib.hid (fun W (e : Ext [b] w7 W) => rows_of_ivs (owns_ext so e (by simp; omega)) rfl)
  have HLR := Lib.hid (fun W (e : Ext [b] w7 W) => rows_of_ivs (owns_ext lo e (by simp; omega)) rfl)
  have hlc := own_capN lo
  have HXD := Lib.hid (HXB.out.ext EV)
  have hbD := lots_lt HL
  obtain ⟨wD, hwD⟩ : ∃ wD, wD = w7 := ⟨_, rfl⟩
  have ED : Ext [b] wD w7 := by rw [hwD]; exact Ext.refl _ _
  rw [← hwD] at HXD HSR HLR hbD
  clear HXB so lo EV
  have HSO := Lib.hid hs
  have HLO := Lib.hid hl
  clear hs hl
  refine hK4 _ _ ?_
  clear hK4
  refine wp_seq_k fun K5 hK5 => ?_
  refine wp_region_lit ?_
  refine F.vl (R_loadBlk rfl (F.at rfl) Try.underlying24 rfl (by kernel_rfl) q4) ?_; clear F fa; intro fa F
  refine F.mv ?_; clear F fa; intro fa F
  refine F.mv ?_; clear F fa; intro fa F
  have hbX := lots_lt HL
  refine sq_call F rfl (by decide) rfl (R_callV rfl rfl Try.call37 (mpS (F.at rfl) (mpS (F.at rfl) (mpS (F.at rfl) mp0)))) (xRecipes_ok x HV.out s HSO.out ls HLO.out (by omega) sa la sc lc _ (HXD.out _ ED) (HSR.out _ ED) (HLR.out _ ED)) fun e w8 hR => ?_
  obtain ⟨M, mb, mc, rfl, hM, om, fam, e9⟩ := hR
  refine ⟨_, rfl, ?_⟩; clear F fa; intro fa F
  replace q4 := (e9).keep0 q4
  replace E := ext_same E (e9)
  replace ED := ext_same ED (e9)
  replace HL := lots_ext (e9) HL
  clear e9
  have HM := Lib.hid (lol_ownB om fam hbX hbX)
  obtain ⟨wM, hwM⟩ : ∃ wM, wM = w8 := ⟨_, rfl⟩
  have EM : Ext [b] wM w8 := by rw [hwM]; exact Ext.refl _ _
  rw [← hwM] at HM
  clear om fam hbX
  have hMl : M.length ≤ 300 := by rw [← List.length_map (f := fun p : Value × List Int => p.2), hM]; exact mat_len3 HV.out
  refine F.mv ?_; clear F fa; intro fa F
  refine F.vl (R_extract rfl (F.at rfl) (get0)) ?_; clear F fa; intro fa F
  refine F.vl (R_extract rfl (F.at rfl) (getS (get0))) ?_; clear F fa; intro fa F
  refine F.as ?_; clear F fa; intro fa F
  refine F.as ?_; clear F fa; intro fa F
  refine wpList_nil ?_
  refine hK5 _ _ ?_
  clear hK5
  refine wp_seq_k fun K6 hK6 => ?_
  refine wp_region_lit ?_
  refine F.vl (R_loadBlk rfl (F.at rfl) Try.underlying24 rfl (by kernel_rfl) q4) ?_; clear F fa; intro fa F
  have hbY := lots_lt HL
  refine sq_call F rfl (by decide) rfl (R_callV rfl rfl Try.call18 (mpS (F.at rfl) mp0)) (copyVat_b x _ (HXD.out _ ED) HV.out.sd HV.out.sl) fun e w9 hR => ?_
  obtain ⟨y, rfl, hyB, hyt, hyD, hyL, hyA, e9⟩ := hR
  refine ⟨_, rfl, ?_⟩; clear F fa; intro fa F
  replace q4 := (e9).keep0 q4
  replace E := ext_same E (e9)
  replace ED := ext_same ED (e9)
  replace EM := ext_same EM (e9)
  replace HL := lots_ext (e9) HL
  clear e9
  have HY := Lib.hid (SameV.mk hyB hyt hyD hyL)
  have HYB := Lib.hid (hyA b hbY)
  obtain ⟨wY, hwY⟩ : ∃ wY, wY = w9 := ⟨_, rfl⟩
  have EY : Ext [b] wY w9 := by rw [hwY]; exact Ext.refl _ _
  rw [← hwY] at HYB
  clear hyB hyt hyD hyL hyA hbY
  refine sq_new F rfl (by decide) rfl (R_alloc rfl Try.zeroValue24) ?_; clear F fa; intro fa w10 F hw
  obtain ⟨n9, hn⟩ : ∃ n, n = w9.heap.size := ⟨_, rfl⟩
  rw [← hn] at F
  have s9 : w9.heap.size ≤ n9 := Nat.le_of_eq hn.symm
  have l9_E : w.heap.size ≤ n9 := by rw [hn]; exact E.size
  have l9_ED : wD.heap.size ≤ n9 := by rw [hn]; exact ED.size
  have l9_EM : wM.heap.size ≤ n9 := by rw [hn]; exact EM.size
  have l9_EY : wY.heap.size ≤ n9 := by rw [hn]; exact EY.size
  have b9_HL := Nat.lt_of_lt_of_eq (lots_lt HL) hn.symm
  have m9_4 : n4 < n9 := by rw [hn]; exact blk_lt q4
  replace q4 := keep_alloc hw q4
  replace E := ext_alloc E hw
  replace ED := ext_alloc ED hw
  replace EM := ext_alloc EM hw
  replace EY := ext_alloc EY hw
  replace HL := lots_alloc hw HL
  have q9 := new_row hw hn
  clear hw hn
  refine sq_to rfl rfl (R_storeRow rfl (F.at rfl) (F.at rfl) (by kernel_rfl) (by first | (simp [Value.oneCell']; done) | (simp [Value.oneCell', id]; done)) q9 rfl) ?_; intro w11 hw
  replace q4 := keep_cells hw q4 (by omega)
  replace q9 := put_row hw q9 rfl
  replace E := ext_cells E hw (fun h => by first | exact absurd h (by omega) | simp)
  replace ED := ext_cells ED hw (fun h => by first | exact absurd h (by omega) | simp)
  replace EM := ext_cells EM hw (fun h => by first | exact absurd h (by omega) | simp)
  replace EY := ext_cells EY hw (fun h => by first | exact absurd h (by omega) | simp)
  replace HL := lots_cells hw HL (by omega) (by omega)
  clear hw
  refine wpList_nil ?_
  refine hK6 _ _ ?_
  clear hK6
  refine wp_seq_k fun K7 hK7 => ?_
  refine region_x (Ext [b, n9] w11) (some 7) follows fun w12 hh eh => ?_
  have q4_ := q4
  replace q4 := keep_same hh q4
  have q9_ := q9
  replace q9 := keep_same hh q9
  have E_ := E
  have zEw12 := E.size
  replace E := ext_same E eh
  have ED_ := ED
  have zEDw12 := ED.size
  replace ED := ext_same ED eh
  have EM_ := EM
  have zEMw12 := EM.size
  replace EM := ext_same EM eh
  have EY_ := EY
  have zEYw12 := EY.size
  replace EY := ext_same EY eh
  have zbw12 := lots_lt HL
  replace HL := lots_ext eh HL
  have eT := eh.mono (Y := [b, n9]) (by simp)
  clear hh eh
  refine F.x (i := 0) rfl (fun w' => R_field rfl (F.at rfl) Try.underlying24 rfl (n := 3) (sz := 1) rfl (by kernel_rfl) (by decide)) (fun _ => eT) ?_; clear F fa; intro fa F
  refine F.xr (i := 1) rfl (fun w' hS => R_load rfl (F.at rfl) Try.underlying3 rfl ((cells_of_block (hS.keep q4_ (by simp; omega)) 3).trans (getS (getS (getS (get0)))))) (fun _ => eT) ?_; clear F fa; intro fa F
  refine F.x (i := 2) rfl (fun w' => R_move rfl (F.at rfl)) (fun _ => eT) ?_; clear F fa; intro fa F
  have ht0 := HV.out.t0
  have ht12 := HV.out.t12
  refine ax_only (i := 3) (by kernel_rfl) (op_call F rfl rfl (by decide) rfl (R_callV rfl rfl Try.call26 (mpS (F.at rfl) (mpS (ev_c fa _) mp0))) (upto_any w _ b _ _ 3 HL (by omega) (by omega) (by omega)) fun e w13 hR => ?_)
  obtain ⟨u, rfl, hu0, hu1, HL, e9⟩ := hR
  refine ⟨_, rfl, ?_⟩; clear F fa; intro fa F
  replace q4 := (e9).keep q4 (by simp; omega)
  replace q9 := (e9).keep q9 (by simp; omega)
  replace E := E.trans' e9 (fun i hi hl => by simp only [List.mem_cons, List.not_mem_nil, or_false] at hi ⊢; omega)
  replace ED := ED.trans' e9 (fun i hi hl => by simp only [List.mem_cons, List.not_mem_nil, or_false] at hi ⊢; omega)
  replace EM := EM.trans' e9 (fun i hi hl => by simp only [List.mem_cons, List.not_mem_nil, or_false] at hi ⊢; omega)
  replace EY := EY.trans' e9 (fun i hi hl => by simp only [List.mem_cons, List.not_mem_nil, or_false] at hi ⊢; omega)
  replace eT := eT.trans' e9 (fun i hi hl => by simp only [List.mem_cons, List.not_mem_nil, or_false] at hi ⊢; omega)
  refine ⟨fun _ => eT, ?_⟩
  refine F.x (i := 4) rfl (fun w' => R_add rfl (F.at rfl) (F.at rfl) (by omega) (by omega)) (fun _ => eT) ?_; clear F fa; intro fa F
  refine F.x (i := 5) rfl (fun w' => R_min rfl rfl (ev_c fa _) (F.at rfl)) (fun _ => eT) ?_; clear F fa; intro fa F
  refine F.x (i := 6) rfl (fun w' => R_field rfl (F.at rfl) Try.underlying24 rfl (n := 3) (sz := 1) rfl (by kernel_rfl) (by decide)) (fun _ => eT) ?_; clear F fa; intro fa F
  refine ax_only (i := 7) (by kernel_rfl) (op_to rfl rfl rfl (R_store rfl (F.at rfl) (F.at rfl) rfl (by kernel_rfl) ((cells_of_block q9 3).trans (getS (getS (getS (get0))))) (free_of_block q9 3)) ?_); intro w14 hw
  replace q4 := keep_cell hw q4 (by omega)
  replace q9 := put_cell hw q9 (by simp only [List.setIfInBounds_toArray, List.set_cons_succ, List.set_cons_zero]; exact rfl)
  replace E := ext_cell E hw (fun h => by first | exact absurd h (by omega) | simp)
  replace ED := ext_cell ED hw (fun h => by first | exact absurd h (by omega) | simp)
  replace EM := ext_cell EM hw (fun h => by first | exact absurd h (by omega) | simp)
  replace EY := ext_cell EY hw (fun h => by first | exact absurd h (by omega) | simp)
  replace HL := lots_cell hw HL (by omega) (by omega)
  clear hw
  refine ⟨gone (by kernel_rfl), ?_⟩
  refine ax_done (by kernel_rfl) ?_ _
  clear eT q4_ q9_ E_ ED_ EM_ EY_
  obtain ⟨tw, htw⟩ : ∃ tw, tw = min 12 (x.tol + u) := ⟨_, rfl⟩
  rw [← htw] at q9
  have htw0 : 0 ≤ tw := by omega
  have htw1 : tw ≤ 12 := by omega
  have htw2 : x.tol ≤ tw := by omega
  clear htw
  refine hK7 _ _ ?_
  clear hK7
  refine wp_seq_k fun K8 hK8 => ?_
  refine wp_region_lit ?_
  refine F.vl (R_loadBlk rfl (F.at rfl) Try.underlying24 rfl (by kernel_rfl) q9) ?_; clear F fa; intro fa F
  refine F.mv ?_; clear F fa; intro fa F
  refine F.mv ?_; clear F fa; intro fa F
  have hbXa := lots_lt HL
  refine sq_call F rfl (by decide) rfl (R_callV rfl rfl Try.call37 (mpS (F.at rfl) (mpS (F.at rfl) (mpS (F.at rfl) mp0)))) (xRecipes_ok (y.tolN tw) ((HY.out.ok HV.out).tolN htw0 htw1) s (HY.out.smp HSO.out) ls (HY.out.lmp HLO.out) (by omega) sa la sc lc _ ((HYB.out _ EY).tolN tw) (HSR.out _ ED) (HLR.out _ ED)) fun e w15 hR => ?_
  obtain ⟨Ma, mba, mca, rfl, hMa, om, fam, e9⟩ := hR
  refine ⟨_, rfl, ?_⟩; clear F fa; intro fa F
  replace q4 := (e9).keep0 q4
  replace q9 := (e9).keep0 q9
  replace E := ext_same E (e9)
  replace ED := ext_same ED (e9)
  replace EM := ext_same EM (e9)
  replace EY := ext_same EY (e9)
  replace HL := lots_ext (e9) HL
  clear e9
  have HMa := Lib.hid (lol_ownB om fam hbXa hbXa)
  obtain ⟨wMa, hwMa⟩ : ∃ wM, wM = w15 := ⟨_, rfl⟩
  have EMa : Ext [b] wMa w15 := by rw [hwMa]; exact Ext.refl _ _
  rw [← hwMa] at HMa
  clear om fam hbXa
  have hMla : Ma.length ≤ 300 := by rw [← List.length_map (f := fun p : Value × List Int => p.2), hMa]; exact mat_len3 ((HY.out.ok HV.out).tolN htw0 htw1)
  rw [(HY.out.tolN tw).mat] at hMa
  refine F.mv ?_; clear F fa; intro fa F
  refine F.vl (R_extract rfl (F.at rfl) (get0)) ?_; clear F fa; intro fa F
  refine F.vl (R_extract rfl (F.at rfl) (getS (get0))) ?_; clear F fa; intro fa F
  refine F.as ?_; clear F fa; intro fa F
  refine F.as ?_; clear F fa; intro fa F
  refine wpList_nil ?_
  refine hK8 _ _ ?_
  clear hK8
  refine wp_seq_k fun K9 hK9 => ?_
  refine wp_seq_k fun K10 hK10 => ?_
  refine wp_region_lit ?_
  refine F.mv ?_; clear F fa; intro fa F
  refine F.vl (R_neqB (b := false) rfl (F.at rfl) (ev_c fa _) (decide_eq_true (by omega))) ?_; clear F fa; intro fa F
  refine F.mv ?_; clear F fa; intro fa F
  refine F.mv ?_ (hw := (wantT F rfl rfl (by decide) rfl)); clear F fa; intro fa F
  refine F.vl (R_neqB (b := false) rfl (F.at rfl) (ev_c fa _) (decide_eq_true (by omega))) ?_ (hw := (wantT F rfl rfl (by decide) rfl)); clear F fa; intro fa F
  refine F.vl (R_pickF rfl (F.at rfl) (F.at rfl)) ?_; clear F fa; intro fa F
  refine wpList_nil ?_
  obtain ⟨Lb, hLb⟩ : ∃ Lb, Lb = matL x (val s) ls := ⟨_, rfl⟩
  rw [← hLb] at hM
  have HXD2 := Lib.hid (HXD.out.ext ED)
  have HSR2 := Lib.hid (fun W (e : Ext [b] w15 W) => HSR.out W (ED.trans e))
  have HLR2 := Lib.hid (fun W (e : Ext [b] w15 W) => HLR.out W (ED.trans e))
  have HM2 := Lib.hid (fun W (e : Ext [b] w15 W) => HM.out W (EM.trans e))
  have HMa2 := Lib.hid (fun W (e : Ext [b] w15 W) => HMa.out W (EMa.trans e))
  clear HXD HSR HLR HM HMa ED EM EY EMa HYB hbD
  obtain ⟨wP, hwP⟩ : ∃ wP, wP = w15 := ⟨_, rfl⟩
  have EP : Ext [b] wP w15 := by rw [hwP]; exact Ext.refl _ _
  have hbP : b < wP.heap.size := (by rw [hwP]; exact lots_lt HL)
  rw [← hwP] at HXD2 HSR2 HLR2 HM2 HMa2
  have hpa : RowKit.Hid (Ma.length ≤ 300 ∧ (∀ q ∈ Ma, q.2.length ≤ 4) ∧ ∀ t ∈ Lb, t ∈ Ma.map (·.2)) := Lib.hid ⟨hMla, fun q hq => (by have h1 : q.2 ∈ Ma.map (·.2) := List.mem_map.2 ⟨q, hq, rfl⟩; rw [hMa] at h1; have h2 := (mat_mem (HV.out.tolN htw0 htw1) h1).1; rw [h2]; exact HV.out.d4), fun t ht => (by rw [hMa]; rw [hLb] at ht; exact mat_more HV.out.d4 htw2 (fun l h => h) ht)⟩
  refine hK10 _ _ ?_
  clear hK10
  refine cd_F F rfl ?_
  refine wp_skip ?_
  refine hK9 _ _ ?_
  clear hK9
  refine wp_seq_k fun K11 hK11 => ?_
  refine wp_region_lit ?_
  refine F.mv ?_; clear F fa; intro fa F
  refine sq_new F rfl (by decide) rfl (R_buildSliceV rfl (prS (F.at rfl) pr0) Try.underlying43 (size := 1) (by kernel_rfl) (by decide) (by decide) Try.zeroValue22 (cells := #[.slice mba Ma.length mca]) (by kernel_rfl)) ?_; clear F fa; intro fa w16 F hw
  obtain ⟨n60, hn⟩ : ∃ n, n = w15.heap.size := ⟨_, rfl⟩
  rw [← hn] at F
  have s60 : w15.heap.size ≤ n60 := Nat.le_of_eq hn.symm
  have l60_E : w.heap.size ≤ n60 := by rw [hn]; exact E.size
  have l60_EP : wP.heap.size ≤ n60 := by rw [hn]; exact EP.size
  have b60_HL := Nat.lt_of_lt_of_eq (lots_lt HL) hn.symm
  have m60_4 : n4 < n60 := by rw [hn]; exact blk_lt q4
  have m60_9 : n9 < n60 := by rw [hn]; exact blk_lt q9
  replace q4 := keep_alloc hw q4
  replace q9 := keep_alloc hw q9
  replace E := ext_alloc E hw
  replace EP := ext_alloc EP hw
  replace HL := lots_alloc hw HL
  have q60 := new_block hw hn
  clear hw hn
  refine F.as ?_; clear F fa; intro fa F
  refine wpList_nil ?_
  have oa := owns_lower (base' := wP.heap.size) (own_of_block q60 (n := 1) (size := 1) rfl (by decide)) l60_EP
  refine hK11 _ _ ?_
  clear hK11
  refine wp_seq_k fun K12 hK12 => ?_
  refine wp_seq_k fun K13 hK13 => ?_
  refine wp_region_lit ?_
  refine F.mv ?_; clear F fa; intro fa F
  refine F.vl (R_len rfl rfl (F.at rfl) Try.underlying25) ?_; clear F fa; intro fa F
  refine F.vl (R_gtr rfl (F.at rfl) (ev_c fa _)) ?_; clear F fa; intro fa F
  refine wpList_nil ?_
  refine hK13 _ _ ?_
  clear hK13
  suffices hcut : ∀ (av : Option Addr) (ac : Nat) (A : List (Option Addr × Nat × List (Value × List Int))) (fa : Act) (w24 : World), Has 137 [] fa [(7, .slice mb M.length mc), (12, .slice av A.length ac)] → w24.heap[n4]? = some (.cells #[.int .i64 x.B, .slice x.da x.D.length x.dc, .slice x.la x.L.length x.lc, .int .i64 x.tol] 24 (0, 0)) → Ext [] w w24 → Ext [b] wP w24 → RowKit.Hid (AftOk Lb w24 av A) → A.length ≤ 2 → K12 fa w24 by
    refine cd_if F rfl (fun hc63 => ?_) (fun hc63 => ?_)
    · skip
      refine wp_seq_k fun K14 hK14 => ?_
      refine wp_region_lit ?_
      refine F.mv ?_; clear F fa; intro fa F
      refine F.mv ?_; clear F fa; intro fa F
      refine F.vl (R_len rfl rfl (F.at rfl) Try.underlying25) ?_; clear F fa; intro fa F
      refine F.vl (R_sub rfl (F.at rfl) (ev_c fa _) (by omega) (by omega)) ?_; clear F fa; intro fa F
      refine sq_call F rfl (by decide) rfl (R_callV rfl rfl Try.call26 (mpS (F.at rfl) (mpS (F.at rfl) mp0))) (upto_any w _ b _ _ (((ls.length : Nat) : Int) - 1) HL (by omega) (by omega) (by omega)) fun e w17 hR => ?_
      obtain ⟨u2, rfl, hk0, hk1, HL, e9⟩ := hR
      refine ⟨_, rfl, ?_⟩; clear F fa; intro fa F
      replace oa := owns_ext oa (e9) (by simp; omega)
      replace q4 := (e9).keep q4 (by simp; omega)
      replace E := E.trans' e9 (fun i hi hl => by simp only [List.mem_cons, List.not_mem_nil, or_false] at hi ⊢; omega)
      replace EP := EP.trans' e9 (fun i hi hl => by simp only [List.mem_cons, List.not_mem_nil, or_false] at hi ⊢; omega)
      obtain ⟨kn, rfl⟩ := Int.eq_ofNat_of_zero_le hk0
      have hkn : kn < ls.length := by omega
      refine F.as ?_; clear F fa; intro fa F
      refine wpList_nil ?_
      refine hK14 _ _ ?_
      clear hK14
      refine wp_seq_k fun K15 hK15 => ?_
      have htk : (ls.take kn).length = kn := by rw [List.length_take]; omega
      replace F := F.sub (.c 4 rfl (.c 5 rfl (.c 6 rfl (.c 7 rfl (.c 12 rfl (.c 13 rfl .n))))))
      refine region_x (Ext [] w17) none follows fun w18 hh eh => ?_
      have q4_ := q4
      replace q4 := keep_same hh q4
      have E_ := E
      have zEw18 := E.size
      replace E := ext_same E eh
      have EP_ := EP
      have zEPw18 := EP.size
      replace EP := ext_same EP eh
      replace oa := owns_same hh oa
      have eT := eh
      clear hh eh
      refine F.xr (i := 0) rfl (fun w' hS => R_loadBlk rfl (F.at rfl) Try.underlying24 rfl (by kernel_rfl) (hS.keep q4_ (by simp))) (fun _ => eT) ?_; clear F fa; intro fa F
      refine F.x (i := 1) rfl (fun w' => R_move rfl (F.at rfl)) (fun _ => eT) ?_; clear F fa; intro fa F
      refine F.x (i := 2) rfl (fun w' => R_move rfl (F.at rfl)) (fun _ => eT) ?_; clear F fa; intro fa F
      refine F.x (i := 3) rfl (fun w' => R_move rfl (F.at rfl)) (fun _ => eT) ?_; clear F fa; intro fa F
      refine F.x (i := 4) rfl (fun w' => (R_sliceH (size := 1) rfl (F.at rfl) (F.at rfl) Try.underlying25 (by kernel_rfl) (by omega))) (fun _ => eT) ?_; clear F fa; intro fa F
      obtain ⟨wB, hwB⟩ : ∃ wB, wB = w18 := ⟨_, rfl⟩
      have EB : Ext [] wB w18 := (by rw [hwB]; exact Ext.refl _ _)
      have hPB : wP.heap.size ≤ wB.heap.size := (by rw [hwB]; exact EP.size)
      have hEB : w.heap.size ≤ wB.heap.size := (by rw [hwB]; exact E.size)
      have hTB := eT.size
      rw [← hwB] at hTB
      refine F.x (i := 6) rfl (fun w' => R_move rfl (F.at rfl)) (fun _ => eT) ?_; clear F fa; intro fa F
      refine F.x (i := 7) rfl (fun w' => R_move rfl (F.at rfl)) (fun _ => eT) ?_; clear F fa; intro fa F
      refine F.x (i := 8) rfl (fun w' => R_add rfl (F.at rfl) (ev_c fa _) (by omega) (by omega)) (fun _ => eT) ?_; clear F fa; intro fa F
      refine F.x (i := 9) rfl (fun w' => (R_sliceL (size := 1) (m := kn + 1) rfl (F.at rfl) (F.at rfl) Try.underlying25 (by kernel_rfl) (by omega))) (fun _ => eT) ?_; clear F fa; intro fa F
      have hro : RowOf w18 (.slice la kn lc) (ls.take kn) := ⟨la, lc, by rw [htk], by rw [htk, List.map_take]; exact rows_takeN (HLR2.out _ EP) (by rw [List.length_map]; omega)⟩
      have hci := copyInts_any hro (by omega)
      rw [htk] at hci
      refine ax_only (i := 5) (by kernel_rfl) (op_call F rfl rfl (by decide) rfl (R_callV rfl rfl Try.call19 (mpS (F.at rfl) mp0)) (hci) fun e w19 hR => ?_)
      obtain ⟨ca, cc, rfl, co, e9⟩ := hR
      refine ⟨_, rfl, ?_⟩; clear F fa; intro fa F
      replace oa := owns_ext oa (e9) (by simp)
      replace q4 := (e9).keep0 q4
      replace E := ext_same E (e9)
      replace EP := ext_same EP (e9)
      replace EB := ext_same EB (e9)
      replace eT := ext_same eT (e9)
      clear e9
      refine ⟨fun _ => eT, ?_⟩
      rw [← hwB] at co
      have hB10 := EB.size
      have hdr : IsRows w19 (.slice (subA la (kn + 1) lc 1) (ls.length - (kn + 1)) (lc - (kn + 1))) 1 ((ls.drop (kn + 1)).map intRow) := (by rw [List.map_drop]; exact rows_dropN (HLR2.out _ EP) (by rw [List.length_map]; omega) (by rw [List.length_map]; exact hlc))
      refine ax_only (i := 10) (by kernel_rfl) (op_some F rfl rfl (by decide) rfl (appends_run rfl (wB.heap.size) (e := 3) (size := 1) (bytes := 8) Try.underlying25 (by kernel_rfl) (by decide) (F.at rfl) co (F.at rfl) (srcAt_of_rows hdr (by decide) (fun _ => rfl) intRow_one) (by omega) (by omega) (by omega)) ?_); clear F fa; rintro fa v' w20 F ⟨hown', hg⟩
      obtain ⟨va80, vc80, rfl⟩ := owns_slice hown'
      replace q4 := keep_type co hg q4 (by decide)
      replace oa := owns_other oa co hg (by decide)
      replace E := ext_appendX E co hg (by omega)
      replace EP := ext_appendX EP co hg (by omega)
      replace EB := ext_appendX EB co hg (by omega)
      replace eT := ext_appendX eT co hg (by omega)
      replace co := hown'
      clear hg
      refine ⟨fun _ => eT, ?_⟩
      have hdl := drop_len hkn
      rw [show kn + (ls.length - (kn + 1)) = (dropN ls kn).length by omega] at co F
      rw [← ivs_flat, show ivs (ls.take kn) ++ ivs (ls.drop (kn + 1)) = ivs (dropN ls kn) from List.map_append.symm] at co
      have HDR := rows_of_ivs co rfl
      obtain ⟨BB, hBB⟩ : ∃ BB, BB = w20.heap.size := ⟨_, rfl⟩
      refine ax_only (i := 11) (by kernel_rfl) (op_call F rfl rfl (by decide) rfl (R_callV rfl rfl Try.call37 (mpS (F.at rfl) (mpS (F.at rfl) (mpS (F.at rfl) mp0)))) (xRecipes_ok x HV.out s HSO.out (dropN ls kn) (HLO.out.drop hkn (by omega)) (by omega) sa va80 sc vc80 _ (HXD2.out _ EP) (HSR2.out _ EP) HDR) fun e w21 hR => ?_)
      obtain ⟨Mb, mbb, mcb, rfl, hMb, omb, famb, e9⟩ := hR
      refine ⟨_, rfl, ?_⟩; clear F fa; intro fa F
      replace oa := owns_ext oa (e9) (by simp)
      replace co := owns_ext co (e9) (by simp)
      replace q4 := (e9).keep0 q4
      replace E := ext_same E (e9)
      replace EP := ext_same EP (e9)
      replace EB := ext_same EB (e9)
      replace eT := ext_same eT (e9)
      clear e9
      refine ⟨fun _ => eT, ?_⟩
      rw [← hBB] at omb famb
      have hMlb : Mb.length ≤ 300 := by rw [← List.length_map (f := fun p : Value × List Int => p.2), hMb]; exact mat_len3 HV.out
      refine F.x (i := 12) rfl (fun w' => R_move rfl (F.at rfl)) (fun _ => eT) ?_; clear F fa; intro fa F
      refine F.x (i := 13) rfl (fun w' => R_extract rfl (F.at rfl) (get0)) (fun _ => eT) ?_; clear F fa; intro fa F
      refine F.x (i := 14) rfl (fun w' => R_extract rfl (F.at rfl) (getS (get0))) (fun _ => eT) ?_; clear F fa; intro fa F
      refine F.x (i := 15) rfl (fun w' => R_assign rfl (F.at rfl)) (fun _ => eT) ?_; clear F fa; intro fa F
      refine F.x (i := 16) rfl (fun w' => R_assign rfl (F.at rfl)) (fun _ => eT) ?_; clear F fa; intro fa F
      refine ax_done (by kernel_rfl) ?_ _
      clear eT q4_ E_ EP_
      refine hK15 _ _ ?_
      clear hK15
      refine wp_seq_k fun K16 hK16 => ?_
      refine wp_seq_k fun K17 hK17 => ?_
      refine wp_region_lit ?_
      refine F.mv ?_; clear F fa; intro fa F
      refine F.vl (R_neqB (b := false) rfl (F.at rfl) (ev_c fa _) (decide_eq_true (by omega))) ?_; clear F fa; intro fa F
      refine wpList_nil ?_
      refine hK17 _ _ ?_
      clear hK17
      refine cd_F F rfl ?_
      refine wp_skip ?_
      refine hK16 _ _ ?_
      clear hK16
      refine wp_region_lit ?_
      refine F.mv ?_; clear F fa; intro fa F
      refine F.mv ?_; clear F fa; intro fa F
      refine sq_new F rfl (by decide) rfl (R_buildSliceV rfl (prS (F.at rfl) pr0) Try.underlying43 (size := 1) (by kernel_rfl) (by decide) (by decide) Try.zeroValue22 (cells := #[.slice mbb Mb.length mcb]) (by kernel_rfl)) ?_; clear F fa; intro fa w22 F hw
      obtain ⟨n88, hn⟩ : ∃ n, n = w21.heap.size := ⟨_, rfl⟩
      rw [← hn] at F
      have s88 : w21.heap.size ≤ n88 := Nat.le_of_eq hn.symm
      have l88_E : w.heap.size ≤ n88 := by rw [hn]; exact E.size
      have l88_EP : wP.heap.size ≤ n88 := by rw [hn]; exact EP.size
      have m88_4 : n4 < n88 := by rw [hn]; exact blk_lt q4
      have o88_oa := Lib.hid (own_ne_new oa hn)
      have o88_omb := Lib.hid (own_ne_new omb hn)
      replace oa := owns_alloc hw oa
      replace omb := owns_alloc hw omb
      replace famb := fam_lift famb fun _ _ _ h => owns_alloc hw h
      replace q4 := keep_alloc hw q4
      replace E := ext_alloc E hw
      replace EP := ext_alloc EP hw
      have q88 := new_block hw hn
      clear hw hn
      have hP3 := EP.size
      refine sq_some F rfl (by decide) rfl (append_run rfl (wP.heap.size) (e := 22) (size := 1) (bytes := 24) Try.underlying43 (by kernel_rfl) (by decide) (F.at rfl) oa (F.at rfl) q88 rfl (by simp [Value.oneCell']) (by omega) (by omega) (by omega)) ?_; clear F fa; rintro fa v' w23 F ⟨hown', hg⟩
      obtain ⟨va89, vc89, rfl⟩ := owns_slice hown'
      replace q4 := keep_type oa hg q4 (by decide)
      replace omb := owns_other omb oa hg (by decide)
      replace famb := fam_lift famb fun _ _ _ h => owns_other h oa hg (by decide)
      replace E := ext_appendX E oa hg (by omega)
      replace EP := ext_appendX EP oa hg (by omega)
      replace oa := hown'
      clear hg
      refine F.as ?_; clear F fa; intro fa F
      refine wpList_nil ?_
      have HA := Lib.hid (aft_of_own (A := [(mba, mca, Ma), (mbb, mcb, Mb)]) oa (fun p hp => (by rcases List.mem_cons.1 hp with rfl | hp; exact ⟨HMa2.out _ EP, hpa.out⟩; obtain rfl := List.mem_singleton.1 hp; exact ⟨lol_of_own omb famb, hMlb, fun q hq => (by have h1 : q.2 ∈ Mb.map (·.2) := List.mem_map.2 ⟨q, hq, rfl⟩; rw [hMb] at h1; have h2 := (mat_mem HV.out h1).1; rw [h2]; exact HV.out.d4), fun t ht => (by rw [hMb]; rw [hLb] at ht; exact mat_more (n := x.tol) HV.out.d4 (Int.le_refl _) (fun l h => drop_mem h) ht)⟩)))
      exact hcut _ _ [(mba, mca, Ma), (mbb, mcb, Mb)] _ _ (F.sub (.c 7 rfl (.c 12 rfl .n))) q4 E EP HA (by simp)
    · skip
      have HA := Lib.hid (aft_of_own (A := [(mba, mca, Ma)]) oa (fun p hp => (by obtain rfl := List.mem_singleton.1 hp; exact ⟨HMa2.out _ EP, hpa.out⟩)))
      refine wp_skip ?_
      exact hcut _ _ [(mba, mca, Ma)] _ _ (F.sub (.c 7 rfl (.c 12 rfl .n))) q4 E EP HA (by simp)
  clear F q4 E EP fa
  intro av ac A fa w24 F q4 E EP HA hAl
  refine hK12 _ _ ?_
  clear hK12
  refine wp_seq_k fun K18 hK18 => ?_
  refine wp_seq_k fun K19 hK19 => ?_
  refine wp_region_lit ?_
  refine F.vl (R_assign rfl (ev_c fa _)) ?_; clear F fa; intro fa F
  refine wpList_nil ?_
  have HMB := Lib.hid (HM2.out _ EP)
  have HMS := Lib.hid HMB.out.1
  have HAS := Lib.hid HA.out.out
  obtain ⟨wJ, hwJ⟩ : ∃ wJ, wJ = w24 := ⟨_, rfl⟩
  have EJ : Ext [] wJ w24 := by rw [hwJ]; exact Ext.refl _ _
  rw [← hwJ] at HMB HMS HAS HA
  refine hK19 _ _ ?_
  clear hK19
  refine wp_block ?_
  have F0 := F.sub (.c 7 rfl (.c 12 rfl .n))
  refine lp_for F0 (A.length) (fun i Lv W => Lv = [(16, .int .i64 ((i : Nat) : Int))] ∧ Ext [] w W ∧ Ext [b] wP W ∧ Ext [] wJ W ∧ W.heap[n4]? = some (.cells #[.int .i64 x.B, .slice x.da x.D.length x.dc, .slice x.la x.L.length x.lc, .int .i64 x.tol] 24 (0, 0))) ⟨_, ⟨rfl, E, EP, EJ, q4⟩, F.sub (.c 16 rfl (.c 7 rfl (.c 12 rfl .n)))⟩ ?_
  clear F F0
  clear E EP EJ q4
  rintro i _ fa w25 hi1 ⟨rfl, E, EP, EJ, q4⟩ F
  refine wp_seq_k fun K20 hK20 => ?_
  refine wp_seq_k fun K21 hK21 => ?_
  refine wp_region_lit ?_
  refine F.mv ?_; clear F fa; intro fa F
  refine F.mv ?_; clear F fa; intro fa F
  refine F.vl (R_len rfl rfl (F.at rfl) Try.underlying43) ?_; clear F fa; intro fa F
  refine F.vl (R_lss rfl (F.at rfl) (F.at rfl)) ?_; clear F fa; intro fa F
  refine wpList_nil ?_
  refine hK21 _ _ ?_
  clear hK21
  refine cd_if F rfl (fun hc93 => ?_) (fun hc93 => ?_)
  · skip
    have hiA : i < A.length := by omega
    obtain ⟨qa, qc, Q, hQ⟩ : ∃ qa qc Q, A.getD i (none, 0, []) = (qa, qc, Q) := ⟨_, _, _, rfl⟩
    have hAr := HA.out.row _ (getD_mem (none, 0, []) hiA)
    rw [hQ] at hAr
    have HQ := Lib.hid hAr.1
    have HQS := Lib.hid hAr.1.1
    have hQl : Q.length ≤ 300 := hAr.2.1
    have hQ4 := Lib.hid hAr.2.2.1
    have hQT := Lib.hid hAr.2.2.2
    clear hAr
    refine wp_skip ?_
    refine hK20 _ _ ?_
    clear hK20
    refine wp_seq_k fun K22 hK22 => ?_
    refine wp_block ?_
    refine wp_seq_k fun K23 hK23 => ?_
    refine wp_region_lit ?_
    refine F.vl (R_assign rfl (ev_c fa _)) ?_; clear F fa; intro fa F
    refine wpList_nil ?_
    refine hK23 _ _ ?_
    clear hK23
    refine wp_block ?_
    have F0 := F.sub (.c 7 rfl (.c 12 rfl (.c 16 rfl .n)))
    refine lp_for F0 (M.length) (fun k Lv W => Lv = [(17, .int .i64 ((k : Nat) : Int))] ∧ Ext [] w W ∧ Ext [b] wP W ∧ Ext [] wJ W ∧ W.heap[n4]? = some (.cells #[.int .i64 x.B, .slice x.da x.D.length x.dc, .slice x.la x.L.length x.lc, .int .i64 x.tol] 24 (0, 0))) ⟨_, ⟨rfl, E, EP, EJ, q4⟩, F.sub (.c 17 rfl (.c 7 rfl (.c 12 rfl (.c 16 rfl .n))))⟩ ?_
    clear F F0
    clear E EP EJ q4
    rintro k _ fa w26 hi2 ⟨rfl, E, EP, EJ, q4⟩ F
    refine wp_seq_k fun K24 hK24 => ?_
    refine wp_seq_k fun K25 hK25 => ?_
    refine wp_region_lit ?_
    refine F.mv ?_; clear F fa; intro fa F
    refine F.mv ?_; clear F fa; intro fa F
    refine F.vl (R_len rfl rfl (F.at rfl) Try.underlying22) ?_; clear F fa; intro fa F
    refine F.vl (R_lss rfl (F.at rfl) (F.at rfl)) ?_; clear F fa; intro fa F
    refine wpList_nil ?_
    refine hK25 _ _ ?_
    clear hK25
    refine cd_if F rfl (fun hc99 => ?_) (fun hc99 => ?_)
    · skip
      have hkM : k < M.length := by omega
      obtain ⟨t, ht⟩ : ∃ t, t = (M.getD k (.bool true, [])).2 := ⟨_, rfl⟩
      obtain ⟨ka, kc, hka, hkr⟩ := HMB.out.2 _ (getD_mem (.bool true, []) hkM)
      rw [← ht] at hka hkr
      have HKR := Lib.hid hkr
      have htL : t ∈ Lb := by rw [← hM, ht]; exact List.mem_map.2 ⟨_, getD_mem (.bool true, []) hkM, rfl⟩
      have hmt := hQT.out t htL
      have ht4 : t.length ≤ 4 := by rw [hLb] at htL; rw [(mat_mem HV.out htL).1]; exact HV.out.d4
      refine wp_skip ?_
      refine hK24 _ _ ?_
      clear hK24
      refine wp_seq_k fun K26 hK26 => ?_
      refine wp_block ?_
      refine wp_seq_k fun K27 hK27 => ?_
      refine wp_region_lit ?_
      refine F.vl (R_assign rfl (ev_c fa _)) ?_; clear F fa; intro fa F
      refine wpList_nil ?_
      refine hK27 _ _ ?_
      clear hK27
      refine wp_seq_k fun K28 hK28 => ?_
      refine wp_seq_k fun K29 hK29 => ?_
      refine wp_region_lit ?_
      refine F.vl (R_assign rfl (ev_c fa _)) ?_; clear F fa; intro fa F
      refine wpList_nil ?_
      replace F := F.re (k := 18) rfl (show Value.bool false = .bool (decide (t ∈ (Q.map (·.2)).take 0)) from (by simp))
      refine hK29 _ _ ?_
      clear hK29
      refine wp_block ?_
      have F0 := F.sub (.c 7 rfl (.c 12 rfl (.c 16 rfl (.c 17 rfl .n))))
      refine lp_for F0 (Q.length) (fun m Lv W => Lv = [(18, .bool (decide (t ∈ (Q.map (·.2)).take m))), (19, .int .i64 ((m : Nat) : Int))] ∧ Ext [] w W ∧ Ext [b] wP W ∧ Ext [] wJ W ∧ W.heap[n4]? = some (.cells #[.int .i64 x.B, .slice x.da x.D.length x.dc, .slice x.la x.L.length x.lc, .int .i64 x.tol] 24 (0, 0))) ⟨_, ⟨rfl, E, EP, EJ, q4⟩, F.sub (.c 18 rfl (.c 19 rfl (.c 7 rfl (.c 12 rfl (.c 16 rfl (.c 17 rfl .n))))))⟩ ?_
      clear F F0
      clear E EP EJ q4
      rintro m _ fa w27 hi3 ⟨rfl, E, EP, EJ, q4⟩ F
      refine wp_seq_k fun K30 hK30 => ?_
      refine wp_seq_k fun K31 hK31 => ?_
      by_cases hmq : m < Q.length
      · skip
        refine wp_region_lit ?_
        refine F.mv ?_; clear F fa; intro fa F
        refine F.mv ?_; clear F fa; intro fa F
        refine F.mv ?_; clear F fa; intro fa F
        obtain ⟨xb32, xo32, xa32, xr32⟩ := HAS.out i (by omega)
        refine F.vl (R_ixSlice (sz := 1) rfl ((F.at rfl).trans (xa32 _ _)) (F.at rfl) Try.underlying43 (by kernel_rfl) (by omega) (by omega)) ?_; clear F fa; intro fa F
        refine F.vl (R_load rfl (F.at rfl) Try.underlying22 rfl (xr32 _ EJ 0 _ rfl)) ?_; clear F fa; intro fa F
        rw [hQ, show aftV (qa, qc, Q) = .slice qa Q.length qc from rfl] at F
        refine F.vl (R_len rfl rfl (F.at rfl) Try.underlying22) ?_; clear F fa; intro fa F
        refine F.vl (R_lssB (b := true) rfl (F.at rfl) (F.at rfl) (decide_eq_true (by omega))) ?_; clear F fa; intro fa F
        refine F.mv ?_; clear F fa; intro fa F
        refine F.mv ?_ (hw := (wantT F rfl rfl (by decide) rfl)); clear F fa; intro fa F
        refine F.vl (R_lssB (b := true) rfl (F.at rfl) (ev_c fa _) (decide_eq_true (by omega))) ?_ (hw := (wantT F rfl rfl (by decide) rfl)); clear F fa; intro fa F
        refine F.vl (R_pickT rfl (F.at rfl) (F.at rfl)) ?_; clear F fa; intro fa F
        refine wpList_nil ?_
        refine hK31 _ _ ?_
        clear hK31
        refine cd_T F rfl ?_
        refine wp_skip ?_
        refine hK30 _ _ ?_
        clear hK30
        refine wp_seq_k fun K33 hK33 => ?_
        refine wp_block ?_
        by_cases hmet : t ∈ (Q.map (·.2)).take m
        · skip
          rw [decide_eq_true hmet] at F
          refine region_x (Ext [] w27) none follows fun w28 hh eh => ?_
          have q4_ := q4
          replace q4 := keep_same hh q4
          have E_ := E
          have zEw28 := E.size
          replace E := ext_same E eh
          have EP_ := EP
          have zEPw28 := EP.size
          replace EP := ext_same EP eh
          have EJ_ := EJ
          have zEJw28 := EJ.size
          replace EJ := ext_same EJ eh
          have eT := eh
          clear hh eh
          refine F.x (i := 0) rfl (fun w' => R_move rfl (F.at rfl)) (fun _ => eT) ?_; clear F fa; intro fa F
          refine F.x (i := 1) rfl (fun w' => R_move rfl (F.at rfl)) (fun _ => eT) ?_; clear F fa; intro fa F
          refine ax_no (i := 2) F rfl rfl (by decide) (by kernel_rfl) (fun _ _ _ h => h) (wantF F rfl rfl (by decide) rfl (by decide)) (fun _ => eT) ?_; clear F fa; intro fa F
          refine ax_no (i := 3) F rfl rfl (by decide) (by kernel_rfl) (fun _ _ _ h => h) (wantF F rfl rfl (by decide) rfl (by decide)) (fun _ => eT) ?_; clear F fa; intro fa F
          refine ax_no (i := 4) F rfl rfl (by decide) (by kernel_rfl) (fun _ _ _ h => h) (wantF F rfl rfl (by decide) rfl (by decide)) (fun _ => eT) ?_; clear F fa; intro fa F
          refine ax_no (i := 5) F rfl rfl (by decide) (by kernel_rfl) (fun _ _ _ h => h) (wantF F rfl rfl (by decide) rfl (by decide)) (fun _ => eT) ?_; clear F fa; intro fa F
          refine ax_no (i := 6) F rfl rfl (by decide) (by kernel_rfl) (fun _ _ _ h => h) (wantF F rfl rfl (by decide) rfl (by decide)) (fun _ => eT) ?_; clear F fa; intro fa F
          refine ax_no (i := 7) F rfl rfl (by decide) (by kernel_rfl) (fun _ _ _ h => h) (wantF F rfl rfl (by decide) rfl (by decide)) (fun _ => eT) ?_; clear F fa; intro fa F
          refine ax_no (i := 8) F rfl rfl (by decide) (by kernel_rfl) (fun _ _ _ h => h) (wantF F rfl rfl (by decide) rfl (by decide)) (fun _ => eT) ?_; clear F fa; intro fa F
          refine ax_no (i := 9) F rfl rfl (by decide) (by kernel_rfl) (fun _ _ _ h => h) (wantF F rfl rfl (by decide) rfl (by decide)) (fun _ => eT) ?_; clear F fa; intro fa F
          refine ax_no (i := 10) F rfl rfl (by decide) (by kernel_rfl) (fun _ _ _ h => h) (wantF F rfl rfl (by decide) rfl (by decide)) (fun _ => eT) ?_; clear F fa; intro fa F
          refine ax_no (i := 11) F rfl rfl (by decide) (by kernel_rfl) (fun _ _ _ h => h) (wantF F rfl rfl (by decide) rfl (by decide)) (fun _ => eT) ?_; clear F fa; intro fa F
          refine ax_no (i := 12) F rfl rfl (by decide) (by kernel_rfl) (fun _ _ _ h => h) (wantF F rfl rfl (by decide) rfl (by decide)) (fun _ => eT) ?_; clear F fa; intro fa F
          refine ax_no (i := 13) F rfl rfl (by decide) (by kernel_rfl) (fun _ _ _ h => h) (wantF F rfl rfl (by decide) rfl (by decide)) (fun _ => eT) ?_; clear F fa; intro fa F
          refine F.x (i := 14) rfl (fun w' => R_pickT rfl (F.at rfl) (ev_c fa _)) (fun _ => eT) ?_; clear F fa; intro fa F
          refine F.x (i := 15) rfl (fun w' => R_assign rfl (F.at rfl)) (fun _ => eT) ?_; clear F fa; intro fa F
          refine ax_done (by kernel_rfl) ?_ _
          clear eT q4_ E_ EP_ EJ_
          replace F := F.re (k := 18) rfl (show Value.bool true = .bool (decide (t ∈ (Q.map (·.2)).take (m + 1))) from (by rw [decide_eq_true]; exact List.mem_of_mem_take (i := m) (by rw [List.take_take, Nat.min_eq_left (by omega)]; exact hmet)))
          refine hK33 _ _ ?_
          clear hK33
          refine wp_region_lit ?_
          refine F.mv ?_; clear F fa; intro fa F
          refine F.vl (R_add rfl (F.at rfl) (ev_c fa _) (by omega) (by omega)) ?_; clear F fa; intro fa F
          refine F.as ?_; clear F fa; intro fa F
          refine wpList_nil ?_
          show _ ∧ _
          exact ⟨by omega, _, ⟨rfl, E, EP, EJ, q4⟩, F.sub (.c 18 rfl (.c 19 rfl (.c 7 rfl (.c 12 rfl (.c 16 rfl (.c 17 rfl .n))))))⟩
        · skip
          rw [decide_eq_false hmet] at F
          obtain ⟨ma, mc2, hma, hmr⟩ := HQ.out.2 _ (getD_mem (.bool true, []) hmq)
          obtain ⟨t2, ht2⟩ : ∃ t2, t2 = (Q.getD m (.bool true, [])).2 := ⟨_, rfl⟩
          have h24 := hQ4.out _ (getD_mem (.bool true, []) hmq)
          rw [← ht2] at hma hmr h24
          have HMR := Lib.hid hmr
          refine region_x (Ext [] w27) none follows fun w29 hh eh => ?_
          have q4_ := q4
          replace q4 := keep_same hh q4
          have E_ := E
          have zEw29 := E.size
          replace E := ext_same E eh
          have EP_ := EP
          have zEPw29 := EP.size
          replace EP := ext_same EP eh
          have EJ_ := EJ
          have zEJw29 := EJ.size
          replace EJ := ext_same EJ eh
          have eT := eh
          clear hh eh
          refine F.x (i := 0) rfl (fun w' => R_move rfl (F.at rfl)) (fun _ => eT) ?_; clear F fa; intro fa F
          refine F.x (i := 1) rfl (fun w' => R_move rfl (F.at rfl)) (fun _ => eT) ?_; clear F fa; intro fa F
          refine F.x (i := 2) rfl (fun w' => R_move rfl (F.at rfl)) (fun _ => eT) ?_ (hw := (wantT F rfl rfl (by decide) rfl)); clear F fa; intro fa F
          refine F.x (i := 3) rfl (fun w' => R_move rfl (F.at rfl)) (fun _ => eT) ?_ (hw := (wantT F rfl rfl (by decide) rfl)); clear F fa; intro fa F
          obtain ⟨xb34, xo34, xa34, xr34⟩ := HAS.out i (by omega)
          refine F.x (i := 4) rfl (fun w' => R_ixSlice (sz := 1) rfl ((F.at rfl).trans (xa34 _ _)) (F.at rfl) Try.underlying43 (by kernel_rfl) (by omega) (by omega)) (fun _ => eT) ?_ (hw := (wantT F rfl rfl (by decide) rfl)); clear F fa; intro fa F
          refine F.xr (i := 5) rfl (fun w' hS => R_load rfl (F.at rfl) Try.underlying22 rfl (xr34 _ (EJ_.nil hS) 0 _ rfl)) (fun _ => eT) ?_ (hw := (wantT F rfl rfl (by decide) rfl)); clear F fa; intro fa F
          rw [hQ, show aftV (qa, qc, Q) = .slice qa Q.length qc from rfl] at F
          refine F.x (i := 6) rfl (fun w' => R_move rfl (F.at rfl)) (fun _ => eT) ?_ (hw := (wantT F rfl rfl (by decide) rfl)); clear F fa; intro fa F
          obtain ⟨xb35, xo35, xa35, xr35⟩ := HQS.out m (by omega)
          refine F.x (i := 7) rfl (fun w' => R_ixSlice (sz := 1) rfl ((F.at rfl).trans (xa35 _ _)) (F.at rfl) Try.underlying22 (by kernel_rfl) (by omega) (by omega)) (fun _ => eT) ?_ (hw := (wantT F rfl rfl (by decide) rfl)); clear F fa; intro fa F
          refine F.xr (i := 8) rfl (fun w' hS => R_load rfl (F.at rfl) Try.underlying25 rfl (xr35 _ (EJ_.nil hS) 0 _ rfl)) (fun _ => eT) ?_ (hw := (wantT F rfl rfl (by decide) rfl)); clear F fa; intro fa F
          rw [hma] at F
          refine F.x (i := 9) rfl (fun w' => R_move rfl (F.at rfl)) (fun _ => eT) ?_ (hw := (wantT F rfl rfl (by decide) rfl)); clear F fa; intro fa F
          refine F.x (i := 10) rfl (fun w' => R_move rfl (F.at rfl)) (fun _ => eT) ?_ (hw := (wantT F rfl rfl (by decide) rfl)); clear F fa; intro fa F
          obtain ⟨xb36, xo36, xa36, xr36⟩ := HMS.out k (by omega)
          refine F.x (i := 11) rfl (fun w' => R_ixSlice (sz := 1) rfl ((F.at rfl).trans (xa36 _ _)) (F.at rfl) Try.underlying22 (by kernel_rfl) (by omega) (by omega)) (fun _ => eT) ?_ (hw := (wantT F rfl rfl (by decide) rfl)); clear F fa; intro fa F
          refine F.xr (i := 12) rfl (fun w' hS => R_load rfl (F.at rfl) Try.underlying25 rfl (xr36 _ (EJ_.nil hS) 0 _ rfl)) (fun _ => eT) ?_ (hw := (wantT F rfl rfl (by decide) rfl)); clear F fa; intro fa F
          rw [hka] at F
          refine ax_only (i := 13) (by kernel_rfl) (op_call F rfl rfl (by decide) (wantT F rfl rfl (by decide) rfl) (R_callV rfl rfl Try.call22 (mpS (F.at rfl) (mpS (F.at rfl) mp0))) (sameInts_any t2 t ma ka mc2 kc _ (HMR.out.ext EJ (by simp)) (HKR.out.ext EJ (by simp)) (by omega) (by omega)) fun e w30 hR => ?_)
          obtain ⟨rfl, e9⟩ := hR
          refine ⟨_, rfl, ?_⟩; clear F fa; intro fa F
          replace q4 := (e9).keep0 q4
          replace E := ext_same E (e9)
          replace EP := ext_same EP (e9)
          replace EJ := ext_same EJ (e9)
          replace eT := ext_same eT (e9)
          clear e9
          refine ⟨fun _ => eT, ?_⟩
          refine F.x (i := 14) rfl (fun w' => R_pickF rfl (F.at rfl) (F.at rfl)) (fun _ => eT) ?_; clear F fa; intro fa F
          refine F.x (i := 15) rfl (fun w' => R_assign rfl (F.at rfl)) (fun _ => eT) ?_; clear F fa; intro fa F
          refine ax_done (by kernel_rfl) ?_ _
          clear eT q4_ E_ EP_ EJ_
          have hti : t2 = (Q.map (·.2)).getD m [] := by rw [ht2, key_getD Q hmq]
          replace F := F.re (k := 18) rfl (show Value.bool (decide (t2 = t)) = .bool (decide (t ∈ (Q.map (·.2)).take (m + 1))) from (by rw [take_getD (Q.map (·.2)) [] (by rw [List.length_map]; exact hmq), ← hti]; congr 1; exact decide_eq_decide.2 ⟨fun h => List.mem_append.2 (.inr (List.mem_singleton.2 h.symm)), fun h => ((List.mem_append.1 h).resolve_left hmet |> List.mem_singleton.1).symm⟩))
          refine hK33 _ _ ?_
          clear hK33
          refine wp_region_lit ?_
          refine F.mv ?_; clear F fa; intro fa F
          refine F.vl (R_add rfl (F.at rfl) (ev_c fa _) (by omega) (by omega)) ?_; clear F fa; intro fa F
          refine F.as ?_; clear F fa; intro fa F
          refine wpList_nil ?_
          show _ ∧ _
          exact ⟨by omega, _, ⟨rfl, E, EP, EJ, q4⟩, F.sub (.c 18 rfl (.c 19 rfl (.c 7 rfl (.c 12 rfl (.c 16 rfl (.c 17 rfl .n))))))⟩
      · skip
        refine wp_region_lit ?_
        refine F.mv ?_; clear F fa; intro fa F
        refine F.mv ?_; clear F fa; intro fa F
        refine F.mv ?_; clear F fa; intro fa F
        obtain ⟨xb37, xo37, xa37, xr37⟩ := HAS.out i (by omega)
        refine F.vl (R_ixSlice (sz := 1) rfl ((F.at rfl).trans (xa37 _ _)) (F.at rfl) Try.underlying43 (by kernel_rfl) (by omega) (by omega)) ?_; clear F fa; intro fa F
        refine F.vl (R_load rfl (F.at rfl) Try.underlying22 rfl (xr37 _ EJ 0 _ rfl)) ?_; clear F fa; intro fa F
        rw [hQ, show aftV (qa, qc, Q) = .slice qa Q.length qc from rfl] at F
        refine F.vl (R_len rfl rfl (F.at rfl) Try.underlying22) ?_; clear F fa; intro fa F
        refine F.vl (R_lssB (b := false) rfl (F.at rfl) (F.at rfl) (decide_eq_false (by omega))) ?_; clear F fa; intro fa F
        refine F.mv ?_; clear F fa; intro fa F
        refine sq_no F rfl (by decide) (wantF F rfl rfl (by decide) rfl (by decide)) ?_; clear F fa; intro fa F
        refine sq_no F rfl (by decide) (wantF F rfl rfl (by decide) rfl (by decide)) ?_; clear F fa; intro fa F
        refine F.vl (R_pickF rfl (F.at rfl) (ev_c fa _)) ?_; clear F fa; intro fa F
        refine wpList_nil ?_
        refine hK31 _ _ ?_
        clear hK31
        refine cd_F F rfl ?_
        refine wp_exit ?_
        rw [decide_eq_true (show t ∈ (Q.map (·.2)).take m by rw [List.take_of_length_le (by rw [List.length_map]; omega)]; exact hmt)] at F
        refine hK28 _ _ ?_
        clear hK28
        refine wp_seq_k fun K38 hK38 => ?_
        refine wp_region_lit ?_
        refine F.mv ?_; clear F fa; intro fa F
        refine F.vl (R_not rfl (F.at rfl)) ?_; clear F fa; intro fa F
        refine F.mv ?_; clear F fa; intro fa F
        refine F.mv ?_ (hw := (wantT F rfl rfl (by decide) rfl)); clear F fa; intro fa F
        refine F.vl (R_gtrB (b := false) rfl (F.at rfl) (ev_c fa _) (decide_eq_false (by omega))) ?_ (hw := (wantT F rfl rfl (by decide) rfl)); clear F fa; intro fa F
        refine F.vl (R_pickF rfl (F.at rfl) (F.at rfl)) ?_; clear F fa; intro fa F
        refine wpList_nil ?_
        refine hK38 _ _ ?_
        clear hK38
        refine cd_F F rfl ?_
        refine wp_skip ?_
        refine hK26 _ _ ?_
        clear hK26
        refine wp_region_lit ?_
        refine F.mv ?_; clear F fa; intro fa F
        refine F.vl (R_add rfl (F.at rfl) (ev_c fa _) (by omega) (by omega)) ?_; clear F fa; intro fa F
        refine F.as ?_; clear F fa; intro fa F
        refine wpList_nil ?_
        show _ ∧ _
        exact ⟨by omega, _, ⟨rfl, E, EP, EJ, q4⟩, F.sub (.c 17 rfl (.c 7 rfl (.c 12 rfl (.c 16 rfl .n))))⟩
    · skip
      refine wp_exit ?_
      refine hK22 _ _ ?_
      clear hK22
      refine wp_region_lit ?_
      refine F.mv ?_; clear F fa; intro fa F
      refine F.vl (R_add rfl (F.at rfl) (ev_c fa _) (by omega) (by omega)) ?_; clear F fa; intro fa F
      refine F.as ?_; clear F fa; intro fa F
      refine wpList_nil ?_
      show _ ∧ _
      exact ⟨by omega, _, ⟨rfl, E, EP, EJ, q4⟩, F.sub (.c 16 rfl (.c 7 rfl (.c 12 rfl .n)))⟩
  · skip
    refine wp_exit ?_
    refine hK18 _ _ ?_
    clear hK18
    refine wp_seq_k fun K39 hK39 => ?_
    refine wp_region_lit ?_
    refine sq_call F rfl (by decide) rfl (R_callV rfl rfl Try.call12 mp0) (dyed_any _) fun e w31 hR => ?_
    obtain ⟨rfl, e9⟩ := hR
    refine ⟨_, rfl, ?_⟩; clear F fa; intro fa F
    replace q4 := (e9).keep0 q4
    replace E := ext_same E (e9)
    replace EP := ext_same EP (e9)
    replace EJ := ext_same EJ (e9)
    clear e9
    refine F.as ?_; clear F fa; intro fa F
    refine wpList_nil ?_
    refine hK39 _ _ ?_
    clear hK39
    refine wp_ret ?_
    (try simp only [Exit.inBlock, Exit.then, reduceIte])
    refine rt_v F (rs_1 F rfl rfl) ?_
    exact ⟨rfl, E⟩
end Go.Proofs.Ytdjeecgddbjbeaa
