/- The chapter's examples have the results given there. No conditions. -/
import Derived.Test.YtdjeecgddbjbeaaDdy
namespace Go.Proofs.Ytdjeecgddbjbeaa
open Go.RowKit
set_option linter.unusedVariables false
set_option linter.unusedSimpArgs false
set_option maxRecDepth 100000 in
set_option maxHeartbeats 4000000 in
theorem dyed_any (w : World) : Calls Try.prog 12 #[] w fun e w' => e = .returned (.bool true) ∧ Ext [] w w' := by
  have E : Ext [] w w := Ext.refl _ _
  refine calls_has 110 Try.func12 rfl Try.ntmps12 (Nat.le_of_ble_eq_true rfl) ?_
  intro fa F
  refine wp_seq_k fun K1 hK1 => ?_
  refine wp_region_lit ?_
  refine F.vl (R_assign rfl (ev_c fa _)) ?_; clear F fa; intro fa F
  refine wpList_nil ?_
  refine hK1 _ _ ?_
  clear hK1
  refine wp_seq_k fun K2 hK2 => ?_
  refine wp_region_lit ?_
  refine sq_call F rfl (by decide) rfl (R_callV rfl rfl Try.call44 mp0) (vat_any _) fun e w1 hR => ?_
  obtain ⟨x1, rfl, hx1, ha1, e9⟩ := hR
  refine ⟨_, rfl, ?_⟩; clear F fa; intro fa F
  replace E := ext_same E (e9)
  clear e9
  obtain ⟨wva1, hva1⟩ : ∃ wv, wv = w1 := ⟨_, rfl⟩
  have Eva1 : Ext [] wva1 w1 := by rw [hva1]; exact Ext.refl _ _
  rw [← hva1] at ha1
  refine sq_call F rfl (by decide) rfl (R_callV rfl rfl Try.call45 mp0) (smp_any _) fun e w2 hR => ?_
  obtain ⟨s1, rfl, hs1, e9⟩ := hR
  refine ⟨_, rfl, ?_⟩; clear F fa; intro fa F
  replace E := ext_same E (e9)
  replace Eva1 := ext_same Eva1 (e9)
  clear e9
  obtain ⟨wvb1, hvb1⟩ : ∃ wv, wv = w2 := ⟨_, rfl⟩
  have Evb1 : Ext [] wvb1 w2 := by rw [hvb1]; exact Ext.refl _ _
  rw [← hvb1] at hs1
  refine sq_new F rfl (by decide) rfl (R_buildSliceV rfl (prS (ev_c fa _) (prS (ev_c fa _) pr0)) Try.underlying25 (size := 1) (by kernel_rfl) (by decide) (by decide) Try.zeroValue3 (cells := #[.int .i64 0, .int .i64 1]) (by kernel_rfl)) ?_; clear F fa; intro fa w3 F hw
  obtain ⟨n17, hn⟩ : ∃ n, n = w2.heap.size := ⟨_, rfl⟩
  rw [← hn] at F
  have s17 : w2.heap.size ≤ n17 := Nat.le_of_eq hn.symm
  have l17_E : w.heap.size ≤ n17 := by rw [hn]; exact E.size
  have l17_Eva1 : wva1.heap.size ≤ n17 := by rw [hn]; exact Eva1.size
  have l17_Evb1 : wvb1.heap.size ≤ n17 := by rw [hn]; exact Evb1.size
  replace E := ext_alloc E hw
  replace Eva1 := ext_alloc Eva1 hw
  replace Evb1 := ext_alloc Evb1 hw
  have q17 := new_block hw hn
  clear hw hn
  refine sq_call F rfl (by decide) rfl (R_callV rfl rfl Try.call39 (mpS (F.at rfl) (mpS (F.at rfl) (mpS (F.at rfl) mp0)))) (dy_few hx1 (ha1.ext Eva1) (hs1.ext Evb1 (by simp)) (rows_lit [0, 1] 2 q17)) fun e w4 hR => ?_
  obtain ⟨r1, k1, rfl, hr1, e9⟩ := hR
  refine ⟨_, rfl, ?_⟩; clear F fa; intro fa F
  replace q17 := (e9).keep0 q17
  replace E := ext_same E (e9)
  replace Eva1 := ext_same Eva1 (e9)
  replace Evb1 := ext_same Evb1 (e9)
  clear e9
  obtain ⟨wvr1, hvr1⟩ : ∃ wv, wv = w4 := ⟨_, rfl⟩
  have Evr1 : Ext [] wvr1 w4 := by rw [hvr1]; exact Ext.refl _ _
  rw [← hvr1] at hr1
  refine F.mv ?_; clear F fa; intro fa F
  refine F.vl (R_extract rfl (F.at rfl) (get0)) ?_; clear F fa; intro fa F
  refine F.vl (R_extract rfl (F.at rfl) (getS (get0))) ?_; clear F fa; intro fa F
  refine F.as ?_; clear F fa; intro fa F
  refine F.as ?_; clear F fa; intro fa F
  refine wpList_nil ?_
  refine hK2 _ _ ?_
  clear hK2
  refine wp_seq_k fun K3 hK3 => ?_
  refine wp_region_lit ?_
  refine sq_call F rfl (by decide) rfl (R_callV rfl rfl Try.call44 mp0) (vat_any _) fun e w5 hR => ?_
  obtain ⟨x2, rfl, hx2, ha2, e9⟩ := hR
  refine ⟨_, rfl, ?_⟩; clear F fa; intro fa F
  replace q17 := (e9).keep0 q17
  replace E := ext_same E (e9)
  replace Evr1 := ext_same Evr1 (e9)
  clear e9
  obtain ⟨wva2, hva2⟩ : ∃ wv, wv = w5 := ⟨_, rfl⟩
  have Eva2 : Ext [] wva2 w5 := by rw [hva2]; exact Ext.refl _ _
  rw [← hva2] at ha2
  refine sq_new F rfl (by decide) rfl (R_buildSliceV rfl (prS (ev_c fa _) (prS (ev_c fa _) (prS (ev_c fa _) (prS (ev_c fa _) pr0)))) Try.underlying25 (size := 1) (by kernel_rfl) (by decide) (by decide) Try.zeroValue3 (cells := #[.int .i64 1, .int .i64 1, .int .i64 0, .int .i64 0]) (by kernel_rfl)) ?_; clear F fa; intro fa w6 F hw
  obtain ⟨n23, hn⟩ : ∃ n, n = w5.heap.size := ⟨_, rfl⟩
  rw [← hn] at F
  have s23 : w5.heap.size ≤ n23 := Nat.le_of_eq hn.symm
  have l23_E : w.heap.size ≤ n23 := by rw [hn]; exact E.size
  have l23_Evr1 : wvr1.heap.size ≤ n23 := by rw [hn]; exact Evr1.size
  have l23_Eva2 : wva2.heap.size ≤ n23 := by rw [hn]; exact Eva2.size
  have m23_17 : n17 < n23 := by rw [hn]; exact blk_lt q17
  replace q17 := keep_alloc hw q17
  replace E := ext_alloc E hw
  replace Evr1 := ext_alloc Evr1 hw
  replace Eva2 := ext_alloc Eva2 hw
  have q23 := new_block hw hn
  clear hw hn
  refine sq_call F rfl (by decide) rfl (R_callV rfl rfl Try.call45 mp0) (smp_any _) fun e w7 hR => ?_
  obtain ⟨s2, rfl, hs2, e9⟩ := hR
  refine ⟨_, rfl, ?_⟩; clear F fa; intro fa F
  replace q17 := (e9).keep0 q17
  replace q23 := (e9).keep0 q23
  replace E := ext_same E (e9)
  replace Evr1 := ext_same Evr1 (e9)
  replace Eva2 := ext_same Eva2 (e9)
  clear e9
  obtain ⟨wvb2, hvb2⟩ : ∃ wv, wv = w7 := ⟨_, rfl⟩
  have Evb2 : Ext [] wvb2 w7 := by rw [hvb2]; exact Ext.refl _ _
  rw [← hvb2] at hs2
  refine sq_call F rfl (by decide) rfl (R_callV rfl rfl Try.call46 (mpS (F.at rfl) (mpS (ev_c fa _) (mpS (F.at rfl) (mpS (F.at rfl) mp0))))) (dy_off hx2 (ha2.ext Eva2) (rows_lit [1, 1, 0, 0] 4 q23) (hs2.ext Evb2 (by simp))) fun e w8 hR => ?_
  obtain ⟨rfl, e9⟩ := hR
  refine ⟨_, rfl, ?_⟩; clear F fa; intro fa F
  replace q17 := (e9).keep0 q17
  replace q23 := (e9).keep0 q23
  replace E := ext_same E (e9)
  replace Evr1 := ext_same Evr1 (e9)
  replace Eva2 := ext_same Eva2 (e9)
  replace Evb2 := ext_same Evb2 (e9)
  clear e9
  refine F.mv ?_; clear F fa; intro fa F
  refine F.vl (R_extract rfl (F.at rfl) (get0)) ?_; clear F fa; intro fa F
  refine F.vl (R_extract rfl (F.at rfl) (getS (get0))) ?_; clear F fa; intro fa F
  refine F.as ?_; clear F fa; intro fa F
  refine F.as ?_; clear F fa; intro fa F
  refine wpList_nil ?_
  refine hK3 _ _ ?_
  clear hK3
  refine wp_seq_k fun K4 hK4 => ?_
  refine wp_region_lit ?_
  refine sq_call F rfl (by decide) rfl (R_callV rfl rfl Try.call44 mp0) (vat_any _) fun e w9 hR => ?_
  obtain ⟨x3, rfl, hx3, ha3, e9⟩ := hR
  refine ⟨_, rfl, ?_⟩; clear F fa; intro fa F
  replace q17 := (e9).keep0 q17
  replace q23 := (e9).keep0 q23
  replace E := ext_same E (e9)
  replace Evr1 := ext_same Evr1 (e9)
  clear e9
  obtain ⟨wva3, hva3⟩ : ∃ wv, wv = w9 := ⟨_, rfl⟩
  have Eva3 : Ext [] wva3 w9 := by rw [hva3]; exact Ext.refl _ _
  rw [← hva3] at ha3
  refine sq_new F rfl (by decide) rfl (R_buildSliceV rfl (prS (ev_c fa _) (prS (ev_c fa _) (prS (ev_c fa _) (prS (ev_c fa _) pr0)))) Try.underlying25 (size := 1) (by kernel_rfl) (by decide) (by decide) Try.zeroValue3 (cells := #[.int .i64 0, .int .i64 0, .int .i64 0, .int .i64 1]) (by kernel_rfl)) ?_; clear F fa; intro fa w10 F hw
  obtain ⟨n30, hn⟩ : ∃ n, n = w9.heap.size := ⟨_, rfl⟩
  rw [← hn] at F
  have s30 : w9.heap.size ≤ n30 := Nat.le_of_eq hn.symm
  have l30_E : w.heap.size ≤ n30 := by rw [hn]; exact E.size
  have l30_Evr1 : wvr1.heap.size ≤ n30 := by rw [hn]; exact Evr1.size
  have l30_Eva3 : wva3.heap.size ≤ n30 := by rw [hn]; exact Eva3.size
  have m30_17 : n17 < n30 := by rw [hn]; exact blk_lt q17
  have m30_23 : n23 < n30 := by rw [hn]; exact blk_lt q23
  replace q17 := keep_alloc hw q17
  replace q23 := keep_alloc hw q23
  replace E := ext_alloc E hw
  replace Evr1 := ext_alloc Evr1 hw
  replace Eva3 := ext_alloc Eva3 hw
  have q30 := new_block hw hn
  clear hw hn
  refine sq_call F rfl (by decide) rfl (R_callV rfl rfl Try.call45 mp0) (smp_any _) fun e w11 hR => ?_
  obtain ⟨s3, rfl, hs3, e9⟩ := hR
  refine ⟨_, rfl, ?_⟩; clear F fa; intro fa F
  replace q17 := (e9).keep0 q17
  replace q23 := (e9).keep0 q23
  replace q30 := (e9).keep0 q30
  replace E := ext_same E (e9)
  replace Evr1 := ext_same Evr1 (e9)
  replace Eva3 := ext_same Eva3 (e9)
  clear e9
  obtain ⟨wvb3, hvb3⟩ : ∃ wv, wv = w11 := ⟨_, rfl⟩
  have Evb3 : Ext [] wvb3 w11 := by rw [hvb3]; exact Ext.refl _ _
  rw [← hvb3] at hs3
  refine sq_new F rfl (by decide) rfl (R_buildSliceV rfl (prS (ev_c fa _) (prS (ev_c fa _) pr0)) Try.underlying25 (size := 1) (by kernel_rfl) (by decide) (by decide) Try.zeroValue3 (cells := #[.int .i64 0, .int .i64 1]) (by kernel_rfl)) ?_; clear F fa; intro fa w12 F hw
  obtain ⟨n32, hn⟩ : ∃ n, n = w11.heap.size := ⟨_, rfl⟩
  rw [← hn] at F
  have s32 : w11.heap.size ≤ n32 := Nat.le_of_eq hn.symm
  have l32_E : w.heap.size ≤ n32 := by rw [hn]; exact E.size
  have l32_Evr1 : wvr1.heap.size ≤ n32 := by rw [hn]; exact Evr1.size
  have l32_Eva3 : wva3.heap.size ≤ n32 := by rw [hn]; exact Eva3.size
  have l32_Evb3 : wvb3.heap.size ≤ n32 := by rw [hn]; exact Evb3.size
  have m32_17 : n17 < n32 := by rw [hn]; exact blk_lt q17
  have m32_23 : n23 < n32 := by rw [hn]; exact blk_lt q23
  have m32_30 : n30 < n32 := by rw [hn]; exact blk_lt q30
  replace q17 := keep_alloc hw q17
  replace q23 := keep_alloc hw q23
  replace q30 := keep_alloc hw q30
  replace E := ext_alloc E hw
  replace Evr1 := ext_alloc Evr1 hw
  replace Eva3 := ext_alloc Eva3 hw
  replace Evb3 := ext_alloc Evb3 hw
  have q32 := new_block hw hn
  clear hw hn
  refine sq_call F rfl (by decide) rfl (R_callV rfl rfl Try.call20 (mpS (F.at rfl) (mpS (F.at rfl) (mpS (F.at rfl) (mpS (F.at rfl) mp0))))) (dy_cor hx3 (ha3.ext Eva3) (rows_lit [0, 0, 0, 1] 4 q30) (hs3.ext Evb3 (by simp)) (rows_lit [0, 1] 2 q32)) fun e w13 hR => ?_
  obtain ⟨r3, k3, rfl, hr3, e9⟩ := hR
  refine ⟨_, rfl, ?_⟩; clear F fa; intro fa F
  replace q17 := (e9).keep0 q17
  replace q23 := (e9).keep0 q23
  replace q30 := (e9).keep0 q30
  replace q32 := (e9).keep0 q32
  replace E := ext_same E (e9)
  replace Evr1 := ext_same Evr1 (e9)
  replace Eva3 := ext_same Eva3 (e9)
  replace Evb3 := ext_same Evb3 (e9)
  clear e9
  obtain ⟨wvr3, hvr3⟩ : ∃ wv, wv = w13 := ⟨_, rfl⟩
  have Evr3 : Ext [] wvr3 w13 := by rw [hvr3]; exact Ext.refl _ _
  rw [← hvr3] at hr3
  refine F.mv ?_; clear F fa; intro fa F
  refine F.vl (R_extract rfl (F.at rfl) (get0)) ?_; clear F fa; intro fa F
  refine F.vl (R_extract rfl (F.at rfl) (getS (get0))) ?_; clear F fa; intro fa F
  refine F.as ?_; clear F fa; intro fa F
  refine F.as ?_; clear F fa; intro fa F
  refine wpList_nil ?_
  refine hK4 _ _ ?_
  clear hK4
  refine wp_seq_k fun K5 hK5 => ?_
  refine wp_region_lit ?_
  refine sq_call F rfl (by decide) rfl (R_callV rfl rfl Try.call44 mp0) (vat_any _) fun e w14 hR => ?_
  obtain ⟨x4, rfl, hx4, ha4, e9⟩ := hR
  refine ⟨_, rfl, ?_⟩; clear F fa; intro fa F
  replace q17 := (e9).keep0 q17
  replace q23 := (e9).keep0 q23
  replace q30 := (e9).keep0 q30
  replace q32 := (e9).keep0 q32
  replace E := ext_same E (e9)
  replace Evr1 := ext_same Evr1 (e9)
  replace Evr3 := ext_same Evr3 (e9)
  clear e9
  obtain ⟨wva4, hva4⟩ : ∃ wv, wv = w14 := ⟨_, rfl⟩
  have Eva4 : Ext [] wva4 w14 := by rw [hva4]; exact Ext.refl _ _
  rw [← hva4] at ha4
  refine sq_call F rfl (by decide) rfl (R_callV rfl rfl Try.call48 mp0) (cloths_any _) fun e w15 hR => ?_
  obtain ⟨c4, S4, rfl, hS4, hl4, e9⟩ := hR
  refine ⟨_, rfl, ?_⟩; clear F fa; intro fa F
  replace q17 := (e9).keep0 q17
  replace q23 := (e9).keep0 q23
  replace q30 := (e9).keep0 q30
  replace q32 := (e9).keep0 q32
  replace E := ext_same E (e9)
  replace Evr1 := ext_same Evr1 (e9)
  replace Evr3 := ext_same Evr3 (e9)
  replace Eva4 := ext_same Eva4 (e9)
  clear e9
  refine sq_call F rfl (by decide) rfl (R_callV rfl rfl Try.call47 (mpS (F.at rfl) (mpS (F.at rfl) mp0))) (dy_tel hx4 (ha4.ext Eva4) hS4 hl4) fun e w16 hR => ?_
  obtain ⟨rfl, e9⟩ := hR
  refine ⟨_, rfl, ?_⟩; clear F fa; intro fa F
  replace q17 := (e9).keep0 q17
  replace q23 := (e9).keep0 q23
  replace q30 := (e9).keep0 q30
  replace q32 := (e9).keep0 q32
  replace E := ext_same E (e9)
  replace Evr1 := ext_same Evr1 (e9)
  replace Evr3 := ext_same Evr3 (e9)
  replace Eva4 := ext_same Eva4 (e9)
  clear e9
  refine F.mv ?_; clear F fa; intro fa F
  refine F.vl (R_extract rfl (F.at rfl) (get0)) ?_; clear F fa; intro fa F
  refine F.vl (R_extract rfl (F.at rfl) (getS (get0))) ?_; clear F fa; intro fa F
  refine F.vl (R_extract rfl (F.at rfl) (getS (getS (get0)))) ?_; clear F fa; intro fa F
  refine F.as ?_; clear F fa; intro fa F
  refine F.as ?_; clear F fa; intro fa F
  refine F.as ?_; clear F fa; intro fa F
  refine wpList_nil ?_
  refine hK5 _ _ ?_
  clear hK5
  refine wp_seq_k fun K6 hK6 => ?_
  refine wp_region_lit ?_
  refine sq_call F rfl (by decide) rfl (R_callV rfl rfl Try.call44 mp0) (vat_any _) fun e w17 hR => ?_
  obtain ⟨x5, rfl, hx5, ha5, e9⟩ := hR
  refine ⟨_, rfl, ?_⟩; clear F fa; intro fa F
  replace q17 := (e9).keep0 q17
  replace q23 := (e9).keep0 q23
  replace q30 := (e9).keep0 q30
  replace q32 := (e9).keep0 q32
  replace E := ext_same E (e9)
  replace Evr1 := ext_same Evr1 (e9)
  replace Evr3 := ext_same Evr3 (e9)
  clear e9
  obtain ⟨wva5, hva5⟩ : ∃ wv, wv = w17 := ⟨_, rfl⟩
  have Eva5 : Ext [] wva5 w17 := by rw [hva5]; exact Ext.refl _ _
  rw [← hva5] at ha5
  refine sq_call F rfl (by decide) rfl (R_callV rfl rfl Try.call48 mp0) (cloths_any _) fun e w18 hR => ?_
  obtain ⟨c5, S5, rfl, hS5, hl5, e9⟩ := hR
  refine ⟨_, rfl, ?_⟩; clear F fa; intro fa F
  replace q17 := (e9).keep0 q17
  replace q23 := (e9).keep0 q23
  replace q30 := (e9).keep0 q30
  replace q32 := (e9).keep0 q32
  replace E := ext_same E (e9)
  replace Evr1 := ext_same Evr1 (e9)
  replace Evr3 := ext_same Evr3 (e9)
  replace Eva5 := ext_same Eva5 (e9)
  clear e9
  refine sq_call F rfl (by decide) rfl (R_callV rfl rfl Try.call30 (mpS (F.at rfl) (mpS (ev_c fa _) (mpS (F.at rfl) mp0)))) (dy_sha hx5 (ha5.ext Eva5) hS5 hl5) fun e w19 hR => ?_
  obtain ⟨r5, k5, rfl, hr5, e9⟩ := hR
  refine ⟨_, rfl, ?_⟩; clear F fa; intro fa F
  replace q17 := (e9).keep0 q17
  replace q23 := (e9).keep0 q23
  replace q30 := (e9).keep0 q30
  replace q32 := (e9).keep0 q32
  replace E := ext_same E (e9)
  replace Evr1 := ext_same Evr1 (e9)
  replace Evr3 := ext_same Evr3 (e9)
  replace Eva5 := ext_same Eva5 (e9)
  clear e9
  obtain ⟨wvr5, hvr5⟩ : ∃ wv, wv = w19 := ⟨_, rfl⟩
  have Evr5 : Ext [] wvr5 w19 := by rw [hvr5]; exact Ext.refl _ _
  rw [← hvr5] at hr5
  refine F.mv ?_; clear F fa; intro fa F
  refine F.vl (R_extract rfl (F.at rfl) (get0)) ?_; clear F fa; intro fa F
  refine F.vl (R_extract rfl (F.at rfl) (getS (get0))) ?_; clear F fa; intro fa F
  refine F.as ?_; clear F fa; intro fa F
  refine F.as ?_; clear F fa; intro fa F
  refine wpList_nil ?_
  refine hK6 _ _ ?_
  clear hK6
  refine wp_seq_k fun K7 hK7 => ?_
  refine wp_region_lit ?_
  refine sq_call F rfl (by decide) rfl (R_callV rfl rfl Try.call44 mp0) (vat_any _) fun e w20 hR => ?_
  obtain ⟨x6, rfl, hx6, ha6, e9⟩ := hR
  refine ⟨_, rfl, ?_⟩; clear F fa; intro fa F
  replace q17 := (e9).keep0 q17
  replace q23 := (e9).keep0 q23
  replace q30 := (e9).keep0 q30
  replace q32 := (e9).keep0 q32
  replace E := ext_same E (e9)
  replace Evr1 := ext_same Evr1 (e9)
  replace Evr3 := ext_same Evr3 (e9)
  replace Evr5 := ext_same Evr5 (e9)
  clear e9
  obtain ⟨wva6, hva6⟩ : ∃ wv, wv = w20 := ⟨_, rfl⟩
  have Eva6 : Ext [] wva6 w20 := by rw [hva6]; exact Ext.refl _ _
  rw [← hva6] at ha6
  refine sq_call F rfl (by decide) rfl (R_callV rfl rfl Try.call48 mp0) (cloths_any _) fun e w21 hR => ?_
  obtain ⟨c6, S6, rfl, hS6, hl6, e9⟩ := hR
  refine ⟨_, rfl, ?_⟩; clear F fa; intro fa F
  replace q17 := (e9).keep0 q17
  replace q23 := (e9).keep0 q23
  replace q30 := (e9).keep0 q30
  replace q32 := (e9).keep0 q32
  replace E := ext_same E (e9)
  replace Evr1 := ext_same Evr1 (e9)
  replace Evr3 := ext_same Evr3 (e9)
  replace Evr5 := ext_same Evr5 (e9)
  replace Eva6 := ext_same Eva6 (e9)
  clear e9
  obtain ⟨wvb6, hvb6⟩ : ∃ wv, wv = w21 := ⟨_, rfl⟩
  have Evb6 : Ext [] wvb6 w21 := by rw [hvb6]; exact Ext.refl _ _
  rw [← hvb6] at hl6
  refine sq_new F rfl (by decide) rfl (R_buildSliceV rfl (prS (ev_c fa _) pr0) Try.underlying25 (size := 1) (by kernel_rfl) (by decide) (by decide) Try.zeroValue3 (cells := #[.int .i64 1]) (by kernel_rfl)) ?_; clear F fa; intro fa w22 F hw
  obtain ⟨n52, hn⟩ : ∃ n, n = w21.heap.size := ⟨_, rfl⟩
  rw [← hn] at F
  have s52 : w21.heap.size ≤ n52 := Nat.le_of_eq hn.symm
  have l52_E : w.heap.size ≤ n52 := by rw [hn]; exact E.size
  have l52_Evr1 : wvr1.heap.size ≤ n52 := by rw [hn]; exact Evr1.size
  have l52_Evr3 : wvr3.heap.size ≤ n52 := by rw [hn]; exact Evr3.size
  have l52_Evr5 : wvr5.heap.size ≤ n52 := by rw [hn]; exact Evr5.size
  have l52_Eva6 : wva6.heap.size ≤ n52 := by rw [hn]; exact Eva6.size
  have l52_Evb6 : wvb6.heap.size ≤ n52 := by rw [hn]; exact Evb6.size
  have m52_17 : n17 < n52 := by rw [hn]; exact blk_lt q17
  have m52_23 : n23 < n52 := by rw [hn]; exact blk_lt q23
  have m52_30 : n30 < n52 := by rw [hn]; exact blk_lt q30
  have m52_32 : n32 < n52 := by rw [hn]; exact blk_lt q32
  replace q17 := keep_alloc hw q17
  replace q23 := keep_alloc hw q23
  replace q30 := keep_alloc hw q30
  replace q32 := keep_alloc hw q32
  replace E := ext_alloc E hw
  replace Evr1 := ext_alloc Evr1 hw
  replace Evr3 := ext_alloc Evr3 hw
  replace Evr5 := ext_alloc Evr5 hw
  replace Eva6 := ext_alloc Eva6 hw
  replace Evb6 := ext_alloc Evb6 hw
  have q52 := new_block hw hn
  clear hw hn
  refine sq_call F rfl (by decide) rfl (R_callV rfl rfl Try.call28 (mpS (F.at rfl) (mpS (F.at rfl) (mpS (F.at rfl) mp0)))) (dy_mos hx6 (ha6.ext Eva6) hS6 (hl6.ext Evb6) (rows_lit [1] 1 q52)) fun e w23 hR => ?_
  obtain ⟨r6, k6, rfl, hr6, e9⟩ := hR
  refine ⟨_, rfl, ?_⟩; clear F fa; intro fa F
  replace q17 := (e9).keep0 q17
  replace q23 := (e9).keep0 q23
  replace q30 := (e9).keep0 q30
  replace q32 := (e9).keep0 q32
  replace q52 := (e9).keep0 q52
  replace E := ext_same E (e9)
  replace Evr1 := ext_same Evr1 (e9)
  replace Evr3 := ext_same Evr3 (e9)
  replace Evr5 := ext_same Evr5 (e9)
  replace Eva6 := ext_same Eva6 (e9)
  replace Evb6 := ext_same Evb6 (e9)
  clear e9
  obtain ⟨wvr6, hvr6⟩ : ∃ wv, wv = w23 := ⟨_, rfl⟩
  have Evr6 : Ext [] wvr6 w23 := by rw [hvr6]; exact Ext.refl _ _
  rw [← hvr6] at hr6
  refine F.mv ?_; clear F fa; intro fa F
  refine F.vl (R_extract rfl (F.at rfl) (get0)) ?_; clear F fa; intro fa F
  refine F.vl (R_extract rfl (F.at rfl) (getS (get0))) ?_; clear F fa; intro fa F
  refine F.as ?_; clear F fa; intro fa F
  refine F.as ?_; clear F fa; intro fa F
  refine wpList_nil ?_
  refine hK7 _ _ ?_
  clear hK7
  refine wp_seq_k fun K8 hK8 => ?_
  refine wp_region_lit ?_
  refine F.mv ?_; clear F fa; intro fa F
  refine F.vl (R_eqlB (b := true) rfl (F.at rfl) (ev_c fa _) (by decide)) ?_; clear F fa; intro fa F
  refine F.mv ?_; clear F fa; intro fa F
  refine F.mv ?_ (hw := (wantT F rfl rfl (by decide) rfl)); clear F fa; intro fa F
  refine F.vl (R_eqlB (b := true) rfl (F.at rfl) (ev_c fa _) (by decide)) ?_ (hw := (wantT F rfl rfl (by decide) rfl)); clear F fa; intro fa F
  refine F.vl (R_pickT rfl (F.at rfl) (F.at rfl)) ?_; clear F fa; intro fa F
  refine F.mv ?_; clear F fa; intro fa F
  refine F.mv ?_ (hw := (wantT F rfl rfl (by decide) rfl)); clear F fa; intro fa F
  refine F.vl (R_eqlB (b := true) rfl (F.at rfl) (ev_c fa _) (by decide)) ?_ (hw := (wantT F rfl rfl (by decide) rfl)); clear F fa; intro fa F
  refine F.vl (R_pickT rfl (F.at rfl) (F.at rfl)) ?_; clear F fa; intro fa F
  refine F.mv ?_; clear F fa; intro fa F
  refine F.mv ?_ (hw := (wantT F rfl rfl (by decide) rfl)); clear F fa; intro fa F
  refine F.vl (R_eqlB (b := true) rfl (F.at rfl) (ev_c fa _) (by decide)) ?_ (hw := (wantT F rfl rfl (by decide) rfl)); clear F fa; intro fa F
  refine F.vl (R_pickT rfl (F.at rfl) (F.at rfl)) ?_; clear F fa; intro fa F
  refine F.mv ?_; clear F fa; intro fa F
  refine F.mv ?_ (hw := (wantT F rfl rfl (by decide) rfl)); clear F fa; intro fa F
  refine F.vl (R_eqlB (b := true) rfl (F.at rfl) (ev_c fa _) (by decide)) ?_ (hw := (wantT F rfl rfl (by decide) rfl)); clear F fa; intro fa F
  refine F.vl (R_pickT rfl (F.at rfl) (F.at rfl)) ?_; clear F fa; intro fa F
  refine F.mv ?_; clear F fa; intro fa F
  refine F.mv ?_ (hw := (wantT F rfl rfl (by decide) rfl)); clear F fa; intro fa F
  refine F.vl (R_eqlB (b := true) rfl (F.at rfl) (ev_c fa _) (by decide)) ?_ (hw := (wantT F rfl rfl (by decide) rfl)); clear F fa; intro fa F
  refine F.vl (R_pickT rfl (F.at rfl) (F.at rfl)) ?_; clear F fa; intro fa F
  refine F.mv ?_; clear F fa; intro fa F
  refine F.mv ?_ (hw := (wantT F rfl rfl (by decide) rfl)); clear F fa; intro fa F
  refine F.vl (R_eqlB (b := true) rfl (F.at rfl) (ev_c fa _) (by decide)) ?_ (hw := (wantT F rfl rfl (by decide) rfl)); clear F fa; intro fa F
  refine F.vl (R_pickT rfl (F.at rfl) (F.at rfl)) ?_; clear F fa; intro fa F
  refine F.mv ?_; clear F fa; intro fa F
  refine F.mv ?_ (hw := (wantT F rfl rfl (by decide) rfl)); clear F fa; intro fa F
  refine F.vl (R_eqlB (b := true) rfl (F.at rfl) (ev_c fa _) (by decide)) ?_ (hw := (wantT F rfl rfl (by decide) rfl)); clear F fa; intro fa F
  refine F.vl (R_pickT rfl (F.at rfl) (F.at rfl)) ?_; clear F fa; intro fa F
  refine F.mv ?_; clear F fa; intro fa F
  refine F.mv ?_ (hw := (wantT F rfl rfl (by decide) rfl)); clear F fa; intro fa F
  refine F.vl (R_eqlB (b := true) rfl (F.at rfl) (ev_c fa _) (by decide)) ?_ (hw := (wantT F rfl rfl (by decide) rfl)); clear F fa; intro fa F
  refine F.vl (R_pickT rfl (F.at rfl) (F.at rfl)) ?_; clear F fa; intro fa F
  refine F.mv ?_; clear F fa; intro fa F
  refine F.mv ?_ (hw := (wantT F rfl rfl (by decide) rfl)); clear F fa; intro fa F
  refine sq_new F rfl (by decide) (wantT F rfl rfl (by decide) rfl) (R_buildSliceV rfl (prS (ev_c fa _) (prS (ev_c fa _) (prS (ev_c fa _) (prS (ev_c fa _) pr0)))) Try.underlying25 (size := 1) (by kernel_rfl) (by decide) (by decide) Try.zeroValue3 (cells := #[.int .i64 1, .int .i64 2, .int .i64 0, .int .i64 0]) (by kernel_rfl)) ?_; clear F fa; intro fa w24 F hw
  obtain ⟨n92, hn⟩ : ∃ n, n = w23.heap.size := ⟨_, rfl⟩
  rw [← hn] at F
  have s92 : w23.heap.size ≤ n92 := Nat.le_of_eq hn.symm
  have l92_E : w.heap.size ≤ n92 := by rw [hn]; exact E.size
  have l92_Evr1 : wvr1.heap.size ≤ n92 := by rw [hn]; exact Evr1.size
  have l92_Evr3 : wvr3.heap.size ≤ n92 := by rw [hn]; exact Evr3.size
  have l92_Evr5 : wvr5.heap.size ≤ n92 := by rw [hn]; exact Evr5.size
  have l92_Evr6 : wvr6.heap.size ≤ n92 := by rw [hn]; exact Evr6.size
  have m92_17 : n17 < n92 := by rw [hn]; exact blk_lt q17
  have m92_23 : n23 < n92 := by rw [hn]; exact blk_lt q23
  have m92_30 : n30 < n92 := by rw [hn]; exact blk_lt q30
  have m92_32 : n32 < n92 := by rw [hn]; exact blk_lt q32
  have m92_52 : n52 < n92 := by rw [hn]; exact blk_lt q52
  replace q17 := keep_alloc hw q17
  replace q23 := keep_alloc hw q23
  replace q30 := keep_alloc hw q30
  replace q32 := keep_alloc hw q32
  replace q52 := keep_alloc hw q52
  replace E := ext_alloc E hw
  replace Evr1 := ext_alloc Evr1 hw
  replace Evr3 := ext_alloc Evr3 hw
  replace Evr5 := ext_alloc Evr5 hw
  replace Evr6 := ext_alloc Evr6 hw
  have q92 := new_block hw hn
  clear hw hn
  refine sq_call F rfl (by decide) (wantT F rfl rfl (by decide) rfl) (R_callV rfl rfl Try.call22 (mpS (F.at rfl) (mpS (F.at rfl) mp0))) (sameInts_any [1, 2, 0, 0] [1, 2, 0, 0] r1 (some ⟨n92, 0, none⟩) k1 4 _ (hr1.ext Evr1 (by simp)) (rows_lit [1, 2, 0, 0] 4 q92) (by decide) (by decide)) fun e w25 hR => ?_
  obtain ⟨rfl, e9⟩ := hR
  refine ⟨_, rfl, ?_⟩; clear F fa; intro fa F
  replace q17 := (e9).keep0 q17
  replace q23 := (e9).keep0 q23
  replace q30 := (e9).keep0 q30
  replace q32 := (e9).keep0 q32
  replace q52 := (e9).keep0 q52
  replace q92 := (e9).keep0 q92
  replace E := ext_same E (e9)
  replace Evr1 := ext_same Evr1 (e9)
  replace Evr3 := ext_same Evr3 (e9)
  replace Evr5 := ext_same Evr5 (e9)
  replace Evr6 := ext_same Evr6 (e9)
  clear e9
  refine F.vl (R_pickT rfl (F.at rfl) (F.at rfl)) ?_; clear F fa; intro fa F
  refine F.mv ?_; clear F fa; intro fa F
  refine F.mv ?_ (hw := (wantT F rfl rfl (by decide) rfl)); clear F fa; intro fa F
  refine sq_new F rfl (by decide) (wantT F rfl rfl (by decide) rfl) (R_buildSliceV rfl (prS (ev_c fa _) (prS (ev_c fa _) (prS (ev_c fa _) (prS (ev_c fa _) pr0)))) Try.underlying25 (size := 1) (by kernel_rfl) (by decide) (by decide) Try.zeroValue3 (cells := #[.int .i64 1, .int .i64 1, .int .i64 0, .int .i64 0]) (by kernel_rfl)) ?_; clear F fa; intro fa w26 F hw
  obtain ⟨n97, hn⟩ : ∃ n, n = w25.heap.size := ⟨_, rfl⟩
  rw [← hn] at F
  have s97 : w25.heap.size ≤ n97 := Nat.le_of_eq hn.symm
  have l97_E : w.heap.size ≤ n97 := by rw [hn]; exact E.size
  have l97_Evr1 : wvr1.heap.size ≤ n97 := by rw [hn]; exact Evr1.size
  have l97_Evr3 : wvr3.heap.size ≤ n97 := by rw [hn]; exact Evr3.size
  have l97_Evr5 : wvr5.heap.size ≤ n97 := by rw [hn]; exact Evr5.size
  have l97_Evr6 : wvr6.heap.size ≤ n97 := by rw [hn]; exact Evr6.size
  have m97_17 : n17 < n97 := by rw [hn]; exact blk_lt q17
  have m97_23 : n23 < n97 := by rw [hn]; exact blk_lt q23
  have m97_30 : n30 < n97 := by rw [hn]; exact blk_lt q30
  have m97_32 : n32 < n97 := by rw [hn]; exact blk_lt q32
  have m97_52 : n52 < n97 := by rw [hn]; exact blk_lt q52
  have m97_92 : n92 < n97 := by rw [hn]; exact blk_lt q92
  replace q17 := keep_alloc hw q17
  replace q23 := keep_alloc hw q23
  replace q30 := keep_alloc hw q30
  replace q32 := keep_alloc hw q32
  replace q52 := keep_alloc hw q52
  replace q92 := keep_alloc hw q92
  replace E := ext_alloc E hw
  replace Evr1 := ext_alloc Evr1 hw
  replace Evr3 := ext_alloc Evr3 hw
  replace Evr5 := ext_alloc Evr5 hw
  replace Evr6 := ext_alloc Evr6 hw
  have q97 := new_block hw hn
  clear hw hn
  refine sq_call F rfl (by decide) (wantT F rfl rfl (by decide) rfl) (R_callV rfl rfl Try.call22 (mpS (F.at rfl) (mpS (F.at rfl) mp0))) (sameInts_any [1, 1, 0, 0] [1, 1, 0, 0] r3 (some ⟨n97, 0, none⟩) k3 4 _ (hr3.ext Evr3 (by simp)) (rows_lit [1, 1, 0, 0] 4 q97) (by decide) (by decide)) fun e w27 hR => ?_
  obtain ⟨rfl, e9⟩ := hR
  refine ⟨_, rfl, ?_⟩; clear F fa; intro fa F
  replace q17 := (e9).keep0 q17
  replace q23 := (e9).keep0 q23
  replace q30 := (e9).keep0 q30
  replace q32 := (e9).keep0 q32
  replace q52 := (e9).keep0 q52
  replace q92 := (e9).keep0 q92
  replace q97 := (e9).keep0 q97
  replace E := ext_same E (e9)
  replace Evr1 := ext_same Evr1 (e9)
  replace Evr3 := ext_same Evr3 (e9)
  replace Evr5 := ext_same Evr5 (e9)
  replace Evr6 := ext_same Evr6 (e9)
  clear e9
  refine F.vl (R_pickT rfl (F.at rfl) (F.at rfl)) ?_; clear F fa; intro fa F
  refine F.mv ?_; clear F fa; intro fa F
  refine F.mv ?_ (hw := (wantT F rfl rfl (by decide) rfl)); clear F fa; intro fa F
  refine sq_new F rfl (by decide) (wantT F rfl rfl (by decide) rfl) (R_buildSliceV rfl (prS (ev_c fa _) (prS (ev_c fa _) (prS (ev_c fa _) (prS (ev_c fa _) pr0)))) Try.underlying25 (size := 1) (by kernel_rfl) (by decide) (by decide) Try.zeroValue3 (cells := #[.int .i64 1, .int .i64 2, .int .i64 3, .int .i64 0]) (by kernel_rfl)) ?_; clear F fa; intro fa w28 F hw
  obtain ⟨n102, hn⟩ : ∃ n, n = w27.heap.size := ⟨_, rfl⟩
  rw [← hn] at F
  have s102 : w27.heap.size ≤ n102 := Nat.le_of_eq hn.symm
  have l102_E : w.heap.size ≤ n102 := by rw [hn]; exact E.size
  have l102_Evr1 : wvr1.heap.size ≤ n102 := by rw [hn]; exact Evr1.size
  have l102_Evr3 : wvr3.heap.size ≤ n102 := by rw [hn]; exact Evr3.size
  have l102_Evr5 : wvr5.heap.size ≤ n102 := by rw [hn]; exact Evr5.size
  have l102_Evr6 : wvr6.heap.size ≤ n102 := by rw [hn]; exact Evr6.size
  have m102_17 : n17 < n102 := by rw [hn]; exact blk_lt q17
  have m102_23 : n23 < n102 := by rw [hn]; exact blk_lt q23
  have m102_30 : n30 < n102 := by rw [hn]; exact blk_lt q30
  have m102_32 : n32 < n102 := by rw [hn]; exact blk_lt q32
  have m102_52 : n52 < n102 := by rw [hn]; exact blk_lt q52
  have m102_92 : n92 < n102 := by rw [hn]; exact blk_lt q92
  have m102_97 : n97 < n102 := by rw [hn]; exact blk_lt q97
  replace q17 := keep_alloc hw q17
  replace q23 := keep_alloc hw q23
  replace q30 := keep_alloc hw q30
  replace q32 := keep_alloc hw q32
  replace q52 := keep_alloc hw q52
  replace q92 := keep_alloc hw q92
  replace q97 := keep_alloc hw q97
  replace E := ext_alloc E hw
  replace Evr1 := ext_alloc Evr1 hw
  replace Evr3 := ext_alloc Evr3 hw
  replace Evr5 := ext_alloc Evr5 hw
  replace Evr6 := ext_alloc Evr6 hw
  have q102 := new_block hw hn
  clear hw hn
  refine sq_call F rfl (by decide) (wantT F rfl rfl (by decide) rfl) (R_callV rfl rfl Try.call22 (mpS (F.at rfl) (mpS (F.at rfl) mp0))) (sameInts_any [1, 2, 3, 0] [1, 2, 3, 0] r5 (some ⟨n102, 0, none⟩) k5 4 _ (hr5.ext Evr5 (by simp)) (rows_lit [1, 2, 3, 0] 4 q102) (by decide) (by decide)) fun e w29 hR => ?_
  obtain ⟨rfl, e9⟩ := hR
  refine ⟨_, rfl, ?_⟩; clear F fa; intro fa F
  replace q17 := (e9).keep0 q17
  replace q23 := (e9).keep0 q23
  replace q30 := (e9).keep0 q30
  replace q32 := (e9).keep0 q32
  replace q52 := (e9).keep0 q52
  replace q92 := (e9).keep0 q92
  replace q97 := (e9).keep0 q97
  replace q102 := (e9).keep0 q102
  replace E := ext_same E (e9)
  replace Evr1 := ext_same Evr1 (e9)
  replace Evr3 := ext_same Evr3 (e9)
  replace Evr5 := ext_same Evr5 (e9)
  replace Evr6 := ext_same Evr6 (e9)
  clear e9
  refine F.vl (R_pickT rfl (F.at rfl) (F.at rfl)) ?_; clear F fa; intro fa F
  refine F.mv ?_; clear F fa; intro fa F
  refine F.mv ?_ (hw := (wantT F rfl rfl (by decide) rfl)); clear F fa; intro fa F
  refine sq_new F rfl (by decide) (wantT F rfl rfl (by decide) rfl) (R_buildSliceV rfl (prS (ev_c fa _) (prS (ev_c fa _) pr0)) Try.underlying25 (size := 1) (by kernel_rfl) (by decide) (by decide) Try.zeroValue3 (cells := #[.int .i64 2, .int .i64 3]) (by kernel_rfl)) ?_; clear F fa; intro fa w30 F hw
  obtain ⟨n107, hn⟩ : ∃ n, n = w29.heap.size := ⟨_, rfl⟩
  rw [← hn] at F
  have s107 : w29.heap.size ≤ n107 := Nat.le_of_eq hn.symm
  have l107_E : w.heap.size ≤ n107 := by rw [hn]; exact E.size
  have l107_Evr1 : wvr1.heap.size ≤ n107 := by rw [hn]; exact Evr1.size
  have l107_Evr3 : wvr3.heap.size ≤ n107 := by rw [hn]; exact Evr3.size
  have l107_Evr5 : wvr5.heap.size ≤ n107 := by rw [hn]; exact Evr5.size
  have l107_Evr6 : wvr6.heap.size ≤ n107 := by rw [hn]; exact Evr6.size
  have m107_17 : n17 < n107 := by rw [hn]; exact blk_lt q17
  have m107_23 : n23 < n107 := by rw [hn]; exact blk_lt q23
  have m107_30 : n30 < n107 := by rw [hn]; exact blk_lt q30
  have m107_32 : n32 < n107 := by rw [hn]; exact blk_lt q32
  have m107_52 : n52 < n107 := by rw [hn]; exact blk_lt q52
  have m107_92 : n92 < n107 := by rw [hn]; exact blk_lt q92
  have m107_97 : n97 < n107 := by rw [hn]; exact blk_lt q97
  have m107_102 : n102 < n107 := by rw [hn]; exact blk_lt q102
  replace q17 := keep_alloc hw q17
  replace q23 := keep_alloc hw q23
  replace q30 := keep_alloc hw q30
  replace q32 := keep_alloc hw q32
  replace q52 := keep_alloc hw q52
  replace q92 := keep_alloc hw q92
  replace q97 := keep_alloc hw q97
  replace q102 := keep_alloc hw q102
  replace E := ext_alloc E hw
  replace Evr1 := ext_alloc Evr1 hw
  replace Evr3 := ext_alloc Evr3 hw
  replace Evr5 := ext_alloc Evr5 hw
  replace Evr6 := ext_alloc Evr6 hw
  have q107 := new_block hw hn
  clear hw hn
  refine sq_call F rfl (by decide) (wantT F rfl rfl (by decide) rfl) (R_callV rfl rfl Try.call22 (mpS (F.at rfl) (mpS (F.at rfl) mp0))) (sameInts_any [2, 3] [2, 3] r6 (some ⟨n107, 0, none⟩) k6 2 _ (hr6.ext Evr6 (by simp)) (rows_lit [2, 3] 2 q107) (by decide) (by decide)) fun e w31 hR => ?_
  obtain ⟨rfl, e9⟩ := hR
  refine ⟨_, rfl, ?_⟩; clear F fa; intro fa F
  replace q17 := (e9).keep0 q17
  replace q23 := (e9).keep0 q23
  replace q30 := (e9).keep0 q30
  replace q32 := (e9).keep0 q32
  replace q52 := (e9).keep0 q52
  replace q92 := (e9).keep0 q92
  replace q97 := (e9).keep0 q97
  replace q102 := (e9).keep0 q102
  replace q107 := (e9).keep0 q107
  replace E := ext_same E (e9)
  replace Evr1 := ext_same Evr1 (e9)
  replace Evr3 := ext_same Evr3 (e9)
  replace Evr5 := ext_same Evr5 (e9)
  replace Evr6 := ext_same Evr6 (e9)
  clear e9
  refine F.vl (R_pickT rfl (F.at rfl) (F.at rfl)) ?_; clear F fa; intro fa F
  refine F.as ?_; clear F fa; intro fa F
  refine wpList_nil ?_
  refine hK8 _ _ ?_
  clear hK8
  refine wp_ret ?_
  (try simp only [Exit.inBlock, Exit.then, reduceIte])
  refine rt_v F (rs_1 F rfl rfl) ?_
  exact ⟨rfl, E⟩
end Go.Proofs.Ytdjeecgddbjbeaa
