/- Parts of a proof: Ddw, Dkt, Dkw, Dkr, Dks. No conditions. -/
import Derived.Test.YtdjeecgddbjbeaaGreatKr10
set_option linter.unusedVariables false
set_option linter.unusedSimpArgs false
namespace Go.Proofs.YtdjeecgddbjbeaaGreat
open Go.RowKit
set_option maxRecDepth 100000 in
set_option maxHeartbeats 4000000 in
theorem dyed_any (w : World) : Calls Tryz.prog 5 #[] w fun e w'=>e = .returned (.bool true) ∧ Ext [] w w':=by
 have E : Ext [] w w:=Ext.refl _ _
 refine calls_has 110 Tryz.func5 rfl Tryz.ntmps5 (Nat.le_of_ble_eq_true rfl) ?_
 intro fa F
 refine wp_seq_k fun K1 hK1=>?_
 refine wp_region_lit ?_
 refine F.vl (R_assign rfl (ev_c fa _)) ?_;clear F fa;intro fa F
 refine wpList_nil ?_
 refine hK1 _ _ ?_
 clear hK1
 refine wp_seq_k fun K2 hK2=>?_
 refine wp_region_lit ?_
 refine sq_call F rfl (by decide) rfl (R_callV rfl rfl Tryz.call24 mp0) (vat_any _) fun e w1 hR=>?_
 obtain ⟨x1,rfl,hx1,ha1,e9⟩:=hR
 refine ⟨_,rfl,?_⟩;clear F fa;intro fa F
 replace E:=ext_same E (e9)
 clear e9
 obtain ⟨wva1,hva1⟩ : ∃ wv,wv = w1:=⟨_,rfl⟩
 have Eva1 : Ext [] wva1 w1:=by rw [hva1];exact Ext.refl _ _
 rw [← hva1] at ha1
 refine sq_call F rfl (by decide) rfl (R_callV rfl rfl Tryz.call25 mp0) (smp_any _) fun e w2 hR=>?_
 obtain ⟨s1,rfl,hs1,e9⟩:=hR
 refine ⟨_,rfl,?_⟩;clear F fa;intro fa F
 replace E:=ext_same E (e9)
 replace Eva1:=ext_same Eva1 (e9)
 clear e9
 obtain ⟨wvb1,hvb1⟩ : ∃ wv,wv = w2:=⟨_,rfl⟩
 have Evb1 : Ext [] wvb1 w2:=by rw [hvb1];exact Ext.refl _ _
 rw [← hvb1] at hs1
 refine sq_new F rfl (by decide) rfl (R_buildSliceV rfl (prS (ev_c fa _) (prS (ev_c fa _) pr0)) Tryz.underlying25 (size:=1) (by kernel_rfl) (by decide) (by decide) Tryz.zeroValue3 (cells:=#[.int .i64 0,.int .i64 1]) (by kernel_rfl)) ?_;clear F fa;intro fa w3 F hw
 obtain ⟨n17,hn⟩ : ∃ n,n = w2.heap.size:=⟨_,rfl⟩
 rw [← hn] at F
 have s17 : w2.heap.size ≤ n17:=Nat.le_of_eq hn.symm
 have l17_E : w.heap.size ≤ n17:=by rw [hn];exact E.size
 have l17_Eva1 : wva1.heap.size ≤ n17:=by rw [hn];exact Eva1.size
 have l17_Evb1 : wvb1.heap.size ≤ n17:=by rw [hn];exact Evb1.size
 replace E:=ext_alloc E hw
 replace Eva1:=ext_alloc Eva1 hw
 replace Evb1:=ext_alloc Evb1 hw
 have q17:=new_block hw hn
 clear hw hn
 refine sq_call F rfl (by decide) rfl (R_callV rfl rfl Tryz.call14 (mpS (F.at rfl) (mpS (F.at rfl) (mpS (F.at rfl) mp0)))) (dy_few hx1 (ha1.ext Eva1) (hs1.ext Evb1 (by simp)) (rows_lit [0,1] 2 q17)) fun e w4 hR=>?_
 obtain ⟨r1,k1,rfl,hr1,e9⟩:=hR
 refine ⟨_,rfl,?_⟩;clear F fa;intro fa F
 replace q17:=(e9).keep0 q17
 replace E:=ext_same E (e9)
 replace Eva1:=ext_same Eva1 (e9)
 replace Evb1:=ext_same Evb1 (e9)
 clear e9
 obtain ⟨wvr1,hvr1⟩ : ∃ wv,wv = w4:=⟨_,rfl⟩
 have Evr1 : Ext [] wvr1 w4:=by rw [hvr1];exact Ext.refl _ _
 rw [← hvr1] at hr1
 refine F.mv ?_;clear F fa;intro fa F
 refine F.vl (R_extract rfl (F.at rfl) (get0)) ?_;clear F fa;intro fa F
 refine F.vl (R_extract rfl (F.at rfl) (getS (get0))) ?_;clear F fa;intro fa F
 refine F.as ?_;clear F fa;intro fa F
 refine F.as ?_;clear F fa;intro fa F
 refine wpList_nil ?_
 refine hK2 _ _ ?_
 clear hK2
 refine wp_seq_k fun K3 hK3=>?_
 refine wp_region_lit ?_
 refine sq_call F rfl (by decide) rfl (R_callV rfl rfl Tryz.call24 mp0) (vat_any _) fun e w5 hR=>?_
 obtain ⟨x2,rfl,hx2,ha2,e9⟩:=hR
 refine ⟨_,rfl,?_⟩;clear F fa;intro fa F
 replace q17:=(e9).keep0 q17
 replace E:=ext_same E (e9)
 replace Evr1:=ext_same Evr1 (e9)
 clear e9
 obtain ⟨wva2,hva2⟩ : ∃ wv,wv = w5:=⟨_,rfl⟩
 have Eva2 : Ext [] wva2 w5:=by rw [hva2];exact Ext.refl _ _
 rw [← hva2] at ha2
 refine sq_new F rfl (by decide) rfl (R_buildSliceV rfl (prS (ev_c fa _) (prS (ev_c fa _) (prS (ev_c fa _) (prS (ev_c fa _) pr0)))) Tryz.underlying25 (size:=1) (by kernel_rfl) (by decide) (by decide) Tryz.zeroValue3 (cells:=#[.int .i64 1,.int .i64 1,.int .i64 0,.int .i64 0]) (by kernel_rfl)) ?_;clear F fa;intro fa w6 F hw
 obtain ⟨n23,hn⟩ : ∃ n,n = w5.heap.size:=⟨_,rfl⟩
 rw [← hn] at F
 have s23 : w5.heap.size ≤ n23:=Nat.le_of_eq hn.symm
 have l23_E : w.heap.size ≤ n23:=by rw [hn];exact E.size
 have l23_Evr1 : wvr1.heap.size ≤ n23:=by rw [hn];exact Evr1.size
 have l23_Eva2 : wva2.heap.size ≤ n23:=by rw [hn];exact Eva2.size
 have m23_17 : n17 < n23:=by rw [hn];exact blk_lt q17
 replace q17:=keep_alloc hw q17
 replace E:=ext_alloc E hw
 replace Evr1:=ext_alloc Evr1 hw
 replace Eva2:=ext_alloc Eva2 hw
 have q23:=new_block hw hn
 clear hw hn
 refine sq_call F rfl (by decide) rfl (R_callV rfl rfl Tryz.call25 mp0) (smp_any _) fun e w7 hR=>?_
 obtain ⟨s2,rfl,hs2,e9⟩:=hR
 refine ⟨_,rfl,?_⟩;clear F fa;intro fa F
 replace q17:=(e9).keep0 q17
 replace q23:=(e9).keep0 q23
 replace E:=ext_same E (e9)
 replace Evr1:=ext_same Evr1 (e9)
 replace Eva2:=ext_same Eva2 (e9)
 clear e9
 obtain ⟨wvb2,hvb2⟩ : ∃ wv,wv = w7:=⟨_,rfl⟩
 have Evb2 : Ext [] wvb2 w7:=by rw [hvb2];exact Ext.refl _ _
 rw [← hvb2] at hs2
 refine sq_call F rfl (by decide) rfl (R_callV rfl rfl Tryz.call26 (mpS (F.at rfl) (mpS (ev_c fa _) (mpS (F.at rfl) (mpS (F.at rfl) mp0))))) (dy_off hx2 (ha2.ext Eva2) (rows_lit [1,1,0,0] 4 q23) (hs2.ext Evb2 (by simp))) fun e w8 hR=>?_
 obtain ⟨rfl,e9⟩:=hR
 refine ⟨_,rfl,?_⟩;clear F fa;intro fa F
 replace q17:=(e9).keep0 q17
 replace q23:=(e9).keep0 q23
 replace E:=ext_same E (e9)
 replace Evr1:=ext_same Evr1 (e9)
 replace Eva2:=ext_same Eva2 (e9)
 replace Evb2:=ext_same Evb2 (e9)
 clear e9
 refine F.mv ?_;clear F fa;intro fa F
 refine F.vl (R_extract rfl (F.at rfl) (get0)) ?_;clear F fa;intro fa F
 refine F.vl (R_extract rfl (F.at rfl) (getS (get0))) ?_;clear F fa;intro fa F
 refine F.as ?_;clear F fa;intro fa F
 refine F.as ?_;clear F fa;intro fa F
 refine wpList_nil ?_
 refine hK3 _ _ ?_
 clear hK3
 refine wp_seq_k fun K4 hK4=>?_
 refine wp_region_lit ?_
 refine sq_call F rfl (by decide) rfl (R_callV rfl rfl Tryz.call24 mp0) (vat_any _) fun e w9 hR=>?_
 obtain ⟨x3,rfl,hx3,ha3,e9⟩:=hR
 refine ⟨_,rfl,?_⟩;clear F fa;intro fa F
 replace q17:=(e9).keep0 q17
 replace q23:=(e9).keep0 q23
 replace E:=ext_same E (e9)
 replace Evr1:=ext_same Evr1 (e9)
 clear e9
 obtain ⟨wva3,hva3⟩ : ∃ wv,wv = w9:=⟨_,rfl⟩
 have Eva3 : Ext [] wva3 w9:=by rw [hva3];exact Ext.refl _ _
 rw [← hva3] at ha3
 refine sq_new F rfl (by decide) rfl (R_buildSliceV rfl (prS (ev_c fa _) (prS (ev_c fa _) (prS (ev_c fa _) (prS (ev_c fa _) pr0)))) Tryz.underlying25 (size:=1) (by kernel_rfl) (by decide) (by decide) Tryz.zeroValue3 (cells:=#[.int .i64 0,.int .i64 0,.int .i64 0,.int .i64 1]) (by kernel_rfl)) ?_;clear F fa;intro fa w10 F hw
 obtain ⟨n30,hn⟩ : ∃ n,n = w9.heap.size:=⟨_,rfl⟩
 rw [← hn] at F
 have s30 : w9.heap.size ≤ n30:=Nat.le_of_eq hn.symm
 have l30_E : w.heap.size ≤ n30:=by rw [hn];exact E.size
 have l30_Evr1 : wvr1.heap.size ≤ n30:=by rw [hn];exact Evr1.size
 have l30_Eva3 : wva3.heap.size ≤ n30:=by rw [hn];exact Eva3.size
 have m30_17 : n17 < n30:=by rw [hn];exact blk_lt q17
 have m30_23 : n23 < n30:=by rw [hn];exact blk_lt q23
 replace q17:=keep_alloc hw q17
 replace q23:=keep_alloc hw q23
 replace E:=ext_alloc E hw
 replace Evr1:=ext_alloc Evr1 hw
 replace Eva3:=ext_alloc Eva3 hw
 have q30:=new_block hw hn
 clear hw hn
 refine sq_call F rfl (by decide) rfl (R_callV rfl rfl Tryz.call25 mp0) (smp_any _) fun e w11 hR=>?_
 obtain ⟨s3,rfl,hs3,e9⟩:=hR
 refine ⟨_,rfl,?_⟩;clear F fa;intro fa F
 replace q17:=(e9).keep0 q17
 replace q23:=(e9).keep0 q23
 replace q30:=(e9).keep0 q30
 replace E:=ext_same E (e9)
 replace Evr1:=ext_same Evr1 (e9)
 replace Eva3:=ext_same Eva3 (e9)
 clear e9
 obtain ⟨wvb3,hvb3⟩ : ∃ wv,wv = w11:=⟨_,rfl⟩
 have Evb3 : Ext [] wvb3 w11:=by rw [hvb3];exact Ext.refl _ _
 rw [← hvb3] at hs3
 refine sq_new F rfl (by decide) rfl (R_buildSliceV rfl (prS (ev_c fa _) (prS (ev_c fa _) pr0)) Tryz.underlying25 (size:=1) (by kernel_rfl) (by decide) (by decide) Tryz.zeroValue3 (cells:=#[.int .i64 0,.int .i64 1]) (by kernel_rfl)) ?_;clear F fa;intro fa w12 F hw
 obtain ⟨n32,hn⟩ : ∃ n,n = w11.heap.size:=⟨_,rfl⟩
 rw [← hn] at F
 have s32 : w11.heap.size ≤ n32:=Nat.le_of_eq hn.symm
 have l32_E : w.heap.size ≤ n32:=by rw [hn];exact E.size
 have l32_Evr1 : wvr1.heap.size ≤ n32:=by rw [hn];exact Evr1.size
 have l32_Eva3 : wva3.heap.size ≤ n32:=by rw [hn];exact Eva3.size
 have l32_Evb3 : wvb3.heap.size ≤ n32:=by rw [hn];exact Evb3.size
 have m32_17 : n17 < n32:=by rw [hn];exact blk_lt q17
 have m32_23 : n23 < n32:=by rw [hn];exact blk_lt q23
 have m32_30 : n30 < n32:=by rw [hn];exact blk_lt q30
 replace q17:=keep_alloc hw q17
 replace q23:=keep_alloc hw q23
 replace q30:=keep_alloc hw q30
 replace E:=ext_alloc E hw
 replace Evr1:=ext_alloc Evr1 hw
 replace Eva3:=ext_alloc Eva3 hw
 replace Evb3:=ext_alloc Evb3 hw
 have q32:=new_block hw hn
 clear hw hn
 refine sq_call F rfl (by decide) rfl (R_callV rfl rfl Tryz.call27 (mpS (F.at rfl) (mpS (F.at rfl) (mpS (F.at rfl) (mpS (F.at rfl) mp0))))) (dy_cor hx3 (ha3.ext Eva3) (rows_lit [0,0,0,1] 4 q30) (hs3.ext Evb3 (by simp)) (rows_lit [0,1] 2 q32)) fun e w13 hR=>?_
 obtain ⟨r3,k3,rfl,hr3,e9⟩:=hR
 refine ⟨_,rfl,?_⟩;clear F fa;intro fa F
 replace q17:=(e9).keep0 q17
 replace q23:=(e9).keep0 q23
 replace q30:=(e9).keep0 q30
 replace q32:=(e9).keep0 q32
 replace E:=ext_same E (e9)
 replace Evr1:=ext_same Evr1 (e9)
 replace Eva3:=ext_same Eva3 (e9)
 replace Evb3:=ext_same Evb3 (e9)
 clear e9
 obtain ⟨wvr3,hvr3⟩ : ∃ wv,wv = w13:=⟨_,rfl⟩
 have Evr3 : Ext [] wvr3 w13:=by rw [hvr3];exact Ext.refl _ _
 rw [← hvr3] at hr3
 refine F.mv ?_;clear F fa;intro fa F
 refine F.vl (R_extract rfl (F.at rfl) (get0)) ?_;clear F fa;intro fa F
 refine F.vl (R_extract rfl (F.at rfl) (getS (get0))) ?_;clear F fa;intro fa F
 refine F.as ?_;clear F fa;intro fa F
 refine F.as ?_;clear F fa;intro fa F
 refine wpList_nil ?_
 refine hK4 _ _ ?_
 clear hK4
 refine wp_seq_k fun K5 hK5=>?_
 refine wp_region_lit ?_
 refine sq_call F rfl (by decide) rfl (R_callV rfl rfl Tryz.call24 mp0) (vat_any _) fun e w14 hR=>?_
 obtain ⟨x4,rfl,hx4,ha4,e9⟩:=hR
 refine ⟨_,rfl,?_⟩;clear F fa;intro fa F
 replace q17:=(e9).keep0 q17
 replace q23:=(e9).keep0 q23
 replace q30:=(e9).keep0 q30
 replace q32:=(e9).keep0 q32
 replace E:=ext_same E (e9)
 replace Evr1:=ext_same Evr1 (e9)
 replace Evr3:=ext_same Evr3 (e9)
 clear e9
 obtain ⟨wva4,hva4⟩ : ∃ wv,wv = w14:=⟨_,rfl⟩
 have Eva4 : Ext [] wva4 w14:=by rw [hva4];exact Ext.refl _ _
 rw [← hva4] at ha4
 refine sq_call F rfl (by decide) rfl (R_callV rfl rfl Tryz.call29 mp0) (cloths_any _) fun e w15 hR=>?_
 obtain ⟨c4,S4,rfl,hS4,hl4,e9⟩:=hR
 refine ⟨_,rfl,?_⟩;clear F fa;intro fa F
 replace q17:=(e9).keep0 q17
 replace q23:=(e9).keep0 q23
 replace q30:=(e9).keep0 q30
 replace q32:=(e9).keep0 q32
 replace E:=ext_same E (e9)
 replace Evr1:=ext_same Evr1 (e9)
 replace Evr3:=ext_same Evr3 (e9)
 replace Eva4:=ext_same Eva4 (e9)
 clear e9
 refine sq_call F rfl (by decide) rfl (R_callV rfl rfl Tryz.call28 (mpS (F.at rfl) (mpS (F.at rfl) mp0))) (dy_tel hx4 (ha4.ext Eva4) hS4 hl4) fun e w16 hR=>?_
 obtain ⟨rfl,e9⟩:=hR
 refine ⟨_,rfl,?_⟩;clear F fa;intro fa F
 replace q17:=(e9).keep0 q17
 replace q23:=(e9).keep0 q23
 replace q30:=(e9).keep0 q30
 replace q32:=(e9).keep0 q32
 replace E:=ext_same E (e9)
 replace Evr1:=ext_same Evr1 (e9)
 replace Evr3:=ext_same Evr3 (e9)
 replace Eva4:=ext_same Eva4 (e9)
 clear e9
 refine F.mv ?_;clear F fa;intro fa F
 refine F.vl (R_extract rfl (F.at rfl) (get0)) ?_;clear F fa;intro fa F
 refine F.vl (R_extract rfl (F.at rfl) (getS (get0))) ?_;clear F fa;intro fa F
 refine F.vl (R_extract rfl (F.at rfl) (getS (getS (get0)))) ?_;clear F fa;intro fa F
 refine F.as ?_;clear F fa;intro fa F
 refine F.as ?_;clear F fa;intro fa F
 refine F.as ?_;clear F fa;intro fa F
 refine wpList_nil ?_
 refine hK5 _ _ ?_
 clear hK5
 refine wp_seq_k fun K6 hK6=>?_
 refine wp_region_lit ?_
 refine sq_call F rfl (by decide) rfl (R_callV rfl rfl Tryz.call24 mp0) (vat_any _) fun e w17 hR=>?_
 obtain ⟨x5,rfl,hx5,ha5,e9⟩:=hR
 refine ⟨_,rfl,?_⟩;clear F fa;intro fa F
 replace q17:=(e9).keep0 q17
 replace q23:=(e9).keep0 q23
 replace q30:=(e9).keep0 q30
 replace q32:=(e9).keep0 q32
 replace E:=ext_same E (e9)
 replace Evr1:=ext_same Evr1 (e9)
 replace Evr3:=ext_same Evr3 (e9)
 clear e9
 obtain ⟨wva5,hva5⟩ : ∃ wv,wv = w17:=⟨_,rfl⟩
 have Eva5 : Ext [] wva5 w17:=by rw [hva5];exact Ext.refl _ _
 rw [← hva5] at ha5
 refine sq_call F rfl (by decide) rfl (R_callV rfl rfl Tryz.call29 mp0) (cloths_any _) fun e w18 hR=>?_
 obtain ⟨c5,S5,rfl,hS5,hl5,e9⟩:=hR
 refine ⟨_,rfl,?_⟩;clear F fa;intro fa F
 replace q17:=(e9).keep0 q17
 replace q23:=(e9).keep0 q23
 replace q30:=(e9).keep0 q30
 replace q32:=(e9).keep0 q32
 replace E:=ext_same E (e9)
 replace Evr1:=ext_same Evr1 (e9)
 replace Evr3:=ext_same Evr3 (e9)
 replace Eva5:=ext_same Eva5 (e9)
 clear e9
 refine sq_call F rfl (by decide) rfl (R_callV rfl rfl Tryz.call30 (mpS (F.at rfl) (mpS (ev_c fa _) (mpS (F.at rfl) mp0)))) (dy_sha hx5 (ha5.ext Eva5) hS5 hl5) fun e w19 hR=>?_
 obtain ⟨r5,k5,rfl,hr5,e9⟩:=hR
 refine ⟨_,rfl,?_⟩;clear F fa;intro fa F
 replace q17:=(e9).keep0 q17
 replace q23:=(e9).keep0 q23
 replace q30:=(e9).keep0 q30
 replace q32:=(e9).keep0 q32
 replace E:=ext_same E (e9)
 replace Evr1:=ext_same Evr1 (e9)
 replace Evr3:=ext_same Evr3 (e9)
 replace Eva5:=ext_same Eva5 (e9)
 clear e9
 obtain ⟨wvr5,hvr5⟩ : ∃ wv,wv = w19:=⟨_,rfl⟩
 have Evr5 : Ext [] wvr5 w19:=by rw [hvr5];exact Ext.refl _ _
 rw [← hvr5] at hr5
 refine F.mv ?_;clear F fa;intro fa F
 refine F.vl (R_extract rfl (F.at rfl) (get0)) ?_;clear F fa;intro fa F
 refine F.vl (R_extract rfl (F.at rfl) (getS (get0))) ?_;clear F fa;intro fa F
 refine F.as ?_;clear F fa;intro fa F
 refine F.as ?_;clear F fa;intro fa F
 refine wpList_nil ?_
 refine hK6 _ _ ?_
 clear hK6
 refine wp_seq_k fun K7 hK7=>?_
 refine wp_region_lit ?_
 refine sq_call F rfl (by decide) rfl (R_callV rfl rfl Tryz.call24 mp0) (vat_any _) fun e w20 hR=>?_
 obtain ⟨x6,rfl,hx6,ha6,e9⟩:=hR
 refine ⟨_,rfl,?_⟩;clear F fa;intro fa F
 replace q17:=(e9).keep0 q17
 replace q23:=(e9).keep0 q23
 replace q30:=(e9).keep0 q30
 replace q32:=(e9).keep0 q32
 replace E:=ext_same E (e9)
 replace Evr1:=ext_same Evr1 (e9)
 replace Evr3:=ext_same Evr3 (e9)
 replace Evr5:=ext_same Evr5 (e9)
 clear e9
 obtain ⟨wva6,hva6⟩ : ∃ wv,wv = w20:=⟨_,rfl⟩
 have Eva6 : Ext [] wva6 w20:=by rw [hva6];exact Ext.refl _ _
 rw [← hva6] at ha6
 refine sq_call F rfl (by decide) rfl (R_callV rfl rfl Tryz.call29 mp0) (cloths_any _) fun e w21 hR=>?_
 obtain ⟨c6,S6,rfl,hS6,hl6,e9⟩:=hR
 refine ⟨_,rfl,?_⟩;clear F fa;intro fa F
 replace q17:=(e9).keep0 q17
 replace q23:=(e9).keep0 q23
 replace q30:=(e9).keep0 q30
 replace q32:=(e9).keep0 q32
 replace E:=ext_same E (e9)
 replace Evr1:=ext_same Evr1 (e9)
 replace Evr3:=ext_same Evr3 (e9)
 replace Evr5:=ext_same Evr5 (e9)
 replace Eva6:=ext_same Eva6 (e9)
 clear e9
 obtain ⟨wvb6,hvb6⟩ : ∃ wv,wv = w21:=⟨_,rfl⟩
 have Evb6 : Ext [] wvb6 w21:=by rw [hvb6];exact Ext.refl _ _
 rw [← hvb6] at hl6
 refine sq_new F rfl (by decide) rfl (R_buildSliceV rfl (prS (ev_c fa _) pr0) Tryz.underlying25 (size:=1) (by kernel_rfl) (by decide) (by decide) Tryz.zeroValue3 (cells:=#[.int .i64 1]) (by kernel_rfl)) ?_;clear F fa;intro fa w22 F hw
 obtain ⟨n52,hn⟩ : ∃ n,n = w21.heap.size:=⟨_,rfl⟩
 rw [← hn] at F
 have s52 : w21.heap.size ≤ n52:=Nat.le_of_eq hn.symm
 have l52_E : w.heap.size ≤ n52:=by rw [hn];exact E.size
 have l52_Evr1 : wvr1.heap.size ≤ n52:=by rw [hn];exact Evr1.size
 have l52_Evr3 : wvr3.heap.size ≤ n52:=by rw [hn];exact Evr3.size
 have l52_Evr5 : wvr5.heap.size ≤ n52:=by rw [hn];exact Evr5.size
 have l52_Eva6 : wva6.heap.size ≤ n52:=by rw [hn];exact Eva6.size
 have l52_Evb6 : wvb6.heap.size ≤ n52:=by rw [hn];exact Evb6.size
 have m52_17 : n17 < n52:=by rw [hn];exact blk_lt q17
 have m52_23 : n23 < n52:=by rw [hn];exact blk_lt q23
 have m52_30 : n30 < n52:=by rw [hn];exact blk_lt q30
 have m52_32 : n32 < n52:=by rw [hn];exact blk_lt q32
 replace q17:=keep_alloc hw q17
 replace q23:=keep_alloc hw q23
 replace q30:=keep_alloc hw q30
 replace q32:=keep_alloc hw q32
 replace E:=ext_alloc E hw
 replace Evr1:=ext_alloc Evr1 hw
 replace Evr3:=ext_alloc Evr3 hw
 replace Evr5:=ext_alloc Evr5 hw
 replace Eva6:=ext_alloc Eva6 hw
 replace Evb6:=ext_alloc Evb6 hw
 have q52:=new_block hw hn
 clear hw hn
 refine sq_call F rfl (by decide) rfl (R_callV rfl rfl Tryz.call31 (mpS (F.at rfl) (mpS (F.at rfl) (mpS (F.at rfl) mp0)))) (dy_mos hx6 (ha6.ext Eva6) hS6 (hl6.ext Evb6) (rows_lit [1] 1 q52)) fun e w23 hR=>?_
 obtain ⟨r6,k6,rfl,hr6,e9⟩:=hR
 refine ⟨_,rfl,?_⟩;clear F fa;intro fa F
 replace q17:=(e9).keep0 q17
 replace q23:=(e9).keep0 q23
 replace q30:=(e9).keep0 q30
 replace q32:=(e9).keep0 q32
 replace q52:=(e9).keep0 q52
 replace E:=ext_same E (e9)
 replace Evr1:=ext_same Evr1 (e9)
 replace Evr3:=ext_same Evr3 (e9)
 replace Evr5:=ext_same Evr5 (e9)
 replace Eva6:=ext_same Eva6 (e9)
 replace Evb6:=ext_same Evb6 (e9)
 clear e9
 obtain ⟨wvr6,hvr6⟩ : ∃ wv,wv = w23:=⟨_,rfl⟩
 have Evr6 : Ext [] wvr6 w23:=by rw [hvr6];exact Ext.refl _ _
 rw [← hvr6] at hr6
 refine F.mv ?_;clear F fa;intro fa F
 refine F.vl (R_extract rfl (F.at rfl) (get0)) ?_;clear F fa;intro fa F
 refine F.vl (R_extract rfl (F.at rfl) (getS (get0))) ?_;clear F fa;intro fa F
 refine F.as ?_;clear F fa;intro fa F
 refine F.as ?_;clear F fa;intro fa F
 refine wpList_nil ?_
 refine hK7 _ _ ?_
 clear hK7
 refine wp_seq_k fun K8 hK8=>?_
 refine wp_region_lit ?_
 refine F.mv ?_;clear F fa;intro fa F
 refine F.vl (R_eqlB (b:=true) rfl (F.at rfl) (ev_c fa _) (by decide)) ?_;clear F fa;intro fa F
 refine F.mv ?_;clear F fa;intro fa F
 refine F.mv ?_ (hw:=(wantT F rfl rfl (by decide) rfl));clear F fa;intro fa F
 refine F.vl (R_eqlB (b:=true) rfl (F.at rfl) (ev_c fa _) (by decide)) ?_ (hw:=(wantT F rfl rfl (by decide) rfl));clear F fa;intro fa F
 refine F.vl (R_pickT rfl (F.at rfl) (F.at rfl)) ?_;clear F fa;intro fa F
 refine F.mv ?_;clear F fa;intro fa F
 refine F.mv ?_ (hw:=(wantT F rfl rfl (by decide) rfl));clear F fa;intro fa F
 refine F.vl (R_eqlB (b:=true) rfl (F.at rfl) (ev_c fa _) (by decide)) ?_ (hw:=(wantT F rfl rfl (by decide) rfl));clear F fa;intro fa F
 refine F.vl (R_pickT rfl (F.at rfl) (F.at rfl)) ?_;clear F fa;intro fa F
 refine F.mv ?_;clear F fa;intro fa F
 refine F.mv ?_ (hw:=(wantT F rfl rfl (by decide) rfl));clear F fa;intro fa F
 refine F.vl (R_eqlB (b:=true) rfl (F.at rfl) (ev_c fa _) (by decide)) ?_ (hw:=(wantT F rfl rfl (by decide) rfl));clear F fa;intro fa F
 refine F.vl (R_pickT rfl (F.at rfl) (F.at rfl)) ?_;clear F fa;intro fa F
 refine F.mv ?_;clear F fa;intro fa F
 refine F.mv ?_ (hw:=(wantT F rfl rfl (by decide) rfl));clear F fa;intro fa F
 refine F.vl (R_eqlB (b:=true) rfl (F.at rfl) (ev_c fa _) (by decide)) ?_ (hw:=(wantT F rfl rfl (by decide) rfl));clear F fa;intro fa F
 refine F.vl (R_pickT rfl (F.at rfl) (F.at rfl)) ?_;clear F fa;intro fa F
 refine F.mv ?_;clear F fa;intro fa F
 refine F.mv ?_ (hw:=(wantT F rfl rfl (by decide) rfl));clear F fa;intro fa F
 refine F.vl (R_eqlB (b:=true) rfl (F.at rfl) (ev_c fa _) (by decide)) ?_ (hw:=(wantT F rfl rfl (by decide) rfl));clear F fa;intro fa F
 refine F.vl (R_pickT rfl (F.at rfl) (F.at rfl)) ?_;clear F fa;intro fa F
 refine F.mv ?_;clear F fa;intro fa F
 refine F.mv ?_ (hw:=(wantT F rfl rfl (by decide) rfl));clear F fa;intro fa F
 refine F.vl (R_eqlB (b:=true) rfl (F.at rfl) (ev_c fa _) (by decide)) ?_ (hw:=(wantT F rfl rfl (by decide) rfl));clear F fa;intro fa F
 refine F.vl (R_pickT rfl (F.at rfl) (F.at rfl)) ?_;clear F fa;intro fa F
 refine F.mv ?_;clear F fa;intro fa F
 refine F.mv ?_ (hw:=(wantT F rfl rfl (by decide) rfl));clear F fa;intro fa F
 refine F.vl (R_eqlB (b:=true) rfl (F.at rfl) (ev_c fa _) (by decide)) ?_ (hw:=(wantT F rfl rfl (by decide) rfl));clear F fa;intro fa F
 refine F.vl (R_pickT rfl (F.at rfl) (F.at rfl)) ?_;clear F fa;intro fa F
 refine F.mv ?_;clear F fa;intro fa F
 refine F.mv ?_ (hw:=(wantT F rfl rfl (by decide) rfl));clear F fa;intro fa F
 refine F.vl (R_eqlB (b:=true) rfl (F.at rfl) (ev_c fa _) (by decide)) ?_ (hw:=(wantT F rfl rfl (by decide) rfl));clear F fa;intro fa F
 refine F.vl (R_pickT rfl (F.at rfl) (F.at rfl)) ?_;clear F fa;intro fa F
 refine F.mv ?_;clear F fa;intro fa F
 refine F.mv ?_ (hw:=(wantT F rfl rfl (by decide) rfl));clear F fa;intro fa F
 refine sq_new F rfl (by decide) (wantT F rfl rfl (by decide) rfl) (R_buildSliceV rfl (prS (ev_c fa _) (prS (ev_c fa _) (prS (ev_c fa _) (prS (ev_c fa _) pr0)))) Tryz.underlying25 (size:=1) (by kernel_rfl) (by decide) (by decide) Tryz.zeroValue3 (cells:=#[.int .i64 1,.int .i64 2,.int .i64 0,.int .i64 0]) (by kernel_rfl)) ?_;clear F fa;intro fa w24 F hw
 obtain ⟨n92,hn⟩ : ∃ n,n = w23.heap.size:=⟨_,rfl⟩
 rw [← hn] at F
 have s92 : w23.heap.size ≤ n92:=Nat.le_of_eq hn.symm
 have l92_E : w.heap.size ≤ n92:=by rw [hn];exact E.size
 have l92_Evr1 : wvr1.heap.size ≤ n92:=by rw [hn];exact Evr1.size
 have l92_Evr3 : wvr3.heap.size ≤ n92:=by rw [hn];exact Evr3.size
 have l92_Evr5 : wvr5.heap.size ≤ n92:=by rw [hn];exact Evr5.size
 have l92_Evr6 : wvr6.heap.size ≤ n92:=by rw [hn];exact Evr6.size
 have m92_17 : n17 < n92:=by rw [hn];exact blk_lt q17
 have m92_23 : n23 < n92:=by rw [hn];exact blk_lt q23
 have m92_30 : n30 < n92:=by rw [hn];exact blk_lt q30
 have m92_32 : n32 < n92:=by rw [hn];exact blk_lt q32
 have m92_52 : n52 < n92:=by rw [hn];exact blk_lt q52
 replace q17:=keep_alloc hw q17
 replace q23:=keep_alloc hw q23
 replace q30:=keep_alloc hw q30
 replace q32:=keep_alloc hw q32
 replace q52:=keep_alloc hw q52
 replace E:=ext_alloc E hw
 replace Evr1:=ext_alloc Evr1 hw
 replace Evr3:=ext_alloc Evr3 hw
 replace Evr5:=ext_alloc Evr5 hw
 replace Evr6:=ext_alloc Evr6 hw
 have q92:=new_block hw hn
 clear hw hn
 refine sq_call F rfl (by decide) (wantT F rfl rfl (by decide) rfl) (R_callV rfl rfl Tryz.call17 (mpS (F.at rfl) (mpS (F.at rfl) mp0))) (sameInts_any [1,2,0,0] [1,2,0,0] r1 (some ⟨n92,0,none⟩) k1 4 _ (hr1.ext Evr1 (by simp)) (rows_lit [1,2,0,0] 4 q92) (by decide) (by decide)) fun e w25 hR=>?_
 obtain ⟨rfl,e9⟩:=hR
 refine ⟨_,rfl,?_⟩;clear F fa;intro fa F
 replace q17:=(e9).keep0 q17
 replace q23:=(e9).keep0 q23
 replace q30:=(e9).keep0 q30
 replace q32:=(e9).keep0 q32
 replace q52:=(e9).keep0 q52
 replace q92:=(e9).keep0 q92
 replace E:=ext_same E (e9)
 replace Evr1:=ext_same Evr1 (e9)
 replace Evr3:=ext_same Evr3 (e9)
 replace Evr5:=ext_same Evr5 (e9)
 replace Evr6:=ext_same Evr6 (e9)
 clear e9
 refine F.vl (R_pickT rfl (F.at rfl) (F.at rfl)) ?_;clear F fa;intro fa F
 refine F.mv ?_;clear F fa;intro fa F
 refine F.mv ?_ (hw:=(wantT F rfl rfl (by decide) rfl));clear F fa;intro fa F
 refine sq_new F rfl (by decide) (wantT F rfl rfl (by decide) rfl) (R_buildSliceV rfl (prS (ev_c fa _) (prS (ev_c fa _) (prS (ev_c fa _) (prS (ev_c fa _) pr0)))) Tryz.underlying25 (size:=1) (by kernel_rfl) (by decide) (by decide) Tryz.zeroValue3 (cells:=#[.int .i64 1,.int .i64 1,.int .i64 0,.int .i64 0]) (by kernel_rfl)) ?_;clear F fa;intro fa w26 F hw
 obtain ⟨n97,hn⟩ : ∃ n,n = w25.heap.size:=⟨_,rfl⟩
 rw [← hn] at F
 have s97 : w25.heap.size ≤ n97:=Nat.le_of_eq hn.symm
 have l97_E : w.heap.size ≤ n97:=by rw [hn];exact E.size
 have l97_Evr1 : wvr1.heap.size ≤ n97:=by rw [hn];exact Evr1.size
 have l97_Evr3 : wvr3.heap.size ≤ n97:=by rw [hn];exact Evr3.size
 have l97_Evr5 : wvr5.heap.size ≤ n97:=by rw [hn];exact Evr5.size
 have l97_Evr6 : wvr6.heap.size ≤ n97:=by rw [hn];exact Evr6.size
 have m97_17 : n17 < n97:=by rw [hn];exact blk_lt q17
 have m97_23 : n23 < n97:=by rw [hn];exact blk_lt q23
 have m97_30 : n30 < n97:=by rw [hn];exact blk_lt q30
 have m97_32 : n32 < n97:=by rw [hn];exact blk_lt q32
 have m97_52 : n52 < n97:=by rw [hn];exact blk_lt q52
 have m97_92 : n92 < n97:=by rw [hn];exact blk_lt q92
 replace q17:=keep_alloc hw q17
 replace q23:=keep_alloc hw q23
 replace q30:=keep_alloc hw q30
 replace q32:=keep_alloc hw q32
 replace q52:=keep_alloc hw q52
 replace q92:=keep_alloc hw q92
 replace E:=ext_alloc E hw
 replace Evr1:=ext_alloc Evr1 hw
 replace Evr3:=ext_alloc Evr3 hw
 replace Evr5:=ext_alloc Evr5 hw
 replace Evr6:=ext_alloc Evr6 hw
 have q97:=new_block hw hn
 clear hw hn
 refine sq_call F rfl (by decide) (wantT F rfl rfl (by decide) rfl) (R_callV rfl rfl Tryz.call17 (mpS (F.at rfl) (mpS (F.at rfl) mp0))) (sameInts_any [1,1,0,0] [1,1,0,0] r3 (some ⟨n97,0,none⟩) k3 4 _ (hr3.ext Evr3 (by simp)) (rows_lit [1,1,0,0] 4 q97) (by decide) (by decide)) fun e w27 hR=>?_
 obtain ⟨rfl,e9⟩:=hR
 refine ⟨_,rfl,?_⟩;clear F fa;intro fa F
 replace q17:=(e9).keep0 q17
 replace q23:=(e9).keep0 q23
 replace q30:=(e9).keep0 q30
 replace q32:=(e9).keep0 q32
 replace q52:=(e9).keep0 q52
 replace q92:=(e9).keep0 q92
 replace q97:=(e9).keep0 q97
 replace E:=ext_same E (e9)
 replace Evr1:=ext_same Evr1 (e9)
 replace Evr3:=ext_same Evr3 (e9)
 replace Evr5:=ext_same Evr5 (e9)
 replace Evr6:=ext_same Evr6 (e9)
 clear e9
 refine F.vl (R_pickT rfl (F.at rfl) (F.at rfl)) ?_;clear F fa;intro fa F
 refine F.mv ?_;clear F fa;intro fa F
 refine F.mv ?_ (hw:=(wantT F rfl rfl (by decide) rfl));clear F fa;intro fa F
 refine sq_new F rfl (by decide) (wantT F rfl rfl (by decide) rfl) (R_buildSliceV rfl (prS (ev_c fa _) (prS (ev_c fa _) (prS (ev_c fa _) (prS (ev_c fa _) pr0)))) Tryz.underlying25 (size:=1) (by kernel_rfl) (by decide) (by decide) Tryz.zeroValue3 (cells:=#[.int .i64 1,.int .i64 2,.int .i64 3,.int .i64 0]) (by kernel_rfl)) ?_;clear F fa;intro fa w28 F hw
 obtain ⟨n102,hn⟩ : ∃ n,n = w27.heap.size:=⟨_,rfl⟩
 rw [← hn] at F
 have s102 : w27.heap.size ≤ n102:=Nat.le_of_eq hn.symm
 have l102_E : w.heap.size ≤ n102:=by rw [hn];exact E.size
 have l102_Evr1 : wvr1.heap.size ≤ n102:=by rw [hn];exact Evr1.size
 have l102_Evr3 : wvr3.heap.size ≤ n102:=by rw [hn];exact Evr3.size
 have l102_Evr5 : wvr5.heap.size ≤ n102:=by rw [hn];exact Evr5.size
 have l102_Evr6 : wvr6.heap.size ≤ n102:=by rw [hn];exact Evr6.size
 have m102_17 : n17 < n102:=by rw [hn];exact blk_lt q17
 have m102_23 : n23 < n102:=by rw [hn];exact blk_lt q23
 have m102_30 : n30 < n102:=by rw [hn];exact blk_lt q30
 have m102_32 : n32 < n102:=by rw [hn];exact blk_lt q32
 have m102_52 : n52 < n102:=by rw [hn];exact blk_lt q52
 have m102_92 : n92 < n102:=by rw [hn];exact blk_lt q92
 have m102_97 : n97 < n102:=by rw [hn];exact blk_lt q97
 replace q17:=keep_alloc hw q17
 replace q23:=keep_alloc hw q23
 replace q30:=keep_alloc hw q30
 replace q32:=keep_alloc hw q32
 replace q52:=keep_alloc hw q52
 replace q92:=keep_alloc hw q92
 replace q97:=keep_alloc hw q97
 replace E:=ext_alloc E hw
 replace Evr1:=ext_alloc Evr1 hw
 replace Evr3:=ext_alloc Evr3 hw
 replace Evr5:=ext_alloc Evr5 hw
 replace Evr6:=ext_alloc Evr6 hw
 have q102:=new_block hw hn
 clear hw hn
 refine sq_call F rfl (by decide) (wantT F rfl rfl (by decide) rfl) (R_callV rfl rfl Tryz.call17 (mpS (F.at rfl) (mpS (F.at rfl) mp0))) (sameInts_any [1,2,3,0] [1,2,3,0] r5 (some ⟨n102,0,none⟩) k5 4 _ (hr5.ext Evr5 (by simp)) (rows_lit [1,2,3,0] 4 q102) (by decide) (by decide)) fun e w29 hR=>?_
 obtain ⟨rfl,e9⟩:=hR
 refine ⟨_,rfl,?_⟩;clear F fa;intro fa F
 replace q17:=(e9).keep0 q17
 replace q23:=(e9).keep0 q23
 replace q30:=(e9).keep0 q30
 replace q32:=(e9).keep0 q32
 replace q52:=(e9).keep0 q52
 replace q92:=(e9).keep0 q92
 replace q97:=(e9).keep0 q97
 replace q102:=(e9).keep0 q102
 replace E:=ext_same E (e9)
 replace Evr1:=ext_same Evr1 (e9)
 replace Evr3:=ext_same Evr3 (e9)
 replace Evr5:=ext_same Evr5 (e9)
 replace Evr6:=ext_same Evr6 (e9)
 clear e9
 refine F.vl (R_pickT rfl (F.at rfl) (F.at rfl)) ?_;clear F fa;intro fa F
 refine F.mv ?_;clear F fa;intro fa F
 refine F.mv ?_ (hw:=(wantT F rfl rfl (by decide) rfl));clear F fa;intro fa F
 refine sq_new F rfl (by decide) (wantT F rfl rfl (by decide) rfl) (R_buildSliceV rfl (prS (ev_c fa _) (prS (ev_c fa _) pr0)) Tryz.underlying25 (size:=1) (by kernel_rfl) (by decide) (by decide) Tryz.zeroValue3 (cells:=#[.int .i64 2,.int .i64 3]) (by kernel_rfl)) ?_;clear F fa;intro fa w30 F hw
 obtain ⟨n107,hn⟩ : ∃ n,n = w29.heap.size:=⟨_,rfl⟩
 rw [← hn] at F
 have s107 : w29.heap.size ≤ n107:=Nat.le_of_eq hn.symm
 have l107_E : w.heap.size ≤ n107:=by rw [hn];exact E.size
 have l107_Evr1 : wvr1.heap.size ≤ n107:=by rw [hn];exact Evr1.size
 have l107_Evr3 : wvr3.heap.size ≤ n107:=by rw [hn];exact Evr3.size
 have l107_Evr5 : wvr5.heap.size ≤ n107:=by rw [hn];exact Evr5.size
 have l107_Evr6 : wvr6.heap.size ≤ n107:=by rw [hn];exact Evr6.size
 have m107_17 : n17 < n107:=by rw [hn];exact blk_lt q17
 have m107_23 : n23 < n107:=by rw [hn];exact blk_lt q23
 have m107_30 : n30 < n107:=by rw [hn];exact blk_lt q30
 have m107_32 : n32 < n107:=by rw [hn];exact blk_lt q32
 have m107_52 : n52 < n107:=by rw [hn];exact blk_lt q52
 have m107_92 : n92 < n107:=by rw [hn];exact blk_lt q92
 have m107_97 : n97 < n107:=by rw [hn];exact blk_lt q97
 have m107_102 : n102 < n107:=by rw [hn];exact blk_lt q102
 replace q17:=keep_alloc hw q17
 replace q23:=keep_alloc hw q23
 replace q30:=keep_alloc hw q30
 replace q32:=keep_alloc hw q32
 replace q52:=keep_alloc hw q52
 replace q92:=keep_alloc hw q92
 replace q97:=keep_alloc hw q97
 replace q102:=keep_alloc hw q102
 replace E:=ext_alloc E hw
 replace Evr1:=ext_alloc Evr1 hw
 replace Evr3:=ext_alloc Evr3 hw
 replace Evr5:=ext_alloc Evr5 hw
 replace Evr6:=ext_alloc Evr6 hw
 have q107:=new_block hw hn
 clear hw hn
 refine sq_call F rfl (by decide) (wantT F rfl rfl (by decide) rfl) (R_callV rfl rfl Tryz.call17 (mpS (F.at rfl) (mpS (F.at rfl) mp0))) (sameInts_any [2,3] [2,3] r6 (some ⟨n107,0,none⟩) k6 2 _ (hr6.ext Evr6 (by simp)) (rows_lit [2,3] 2 q107) (by decide) (by decide)) fun e w31 hR=>?_
 obtain ⟨rfl,e9⟩:=hR
 refine ⟨_,rfl,?_⟩;clear F fa;intro fa F
 replace q17:=(e9).keep0 q17
 replace q23:=(e9).keep0 q23
 replace q30:=(e9).keep0 q30
 replace q32:=(e9).keep0 q32
 replace q52:=(e9).keep0 q52
 replace q92:=(e9).keep0 q92
 replace q97:=(e9).keep0 q97
 replace q102:=(e9).keep0 q102
 replace q107:=(e9).keep0 q107
 replace E:=ext_same E (e9)
 replace Evr1:=ext_same Evr1 (e9)
 replace Evr3:=ext_same Evr3 (e9)
 replace Evr5:=ext_same Evr5 (e9)
 replace Evr6:=ext_same Evr6 (e9)
 clear e9
 refine F.vl (R_pickT rfl (F.at rfl) (F.at rfl)) ?_;clear F fa;intro fa F
 refine F.as ?_;clear F fa;intro fa F
 refine wpList_nil ?_
 refine hK8 _ _ ?_
 clear hK8
 refine wp_ret ?_
 (try simp only [Exit.inBlock,Exit.then,reduceIte])
 refine rt_v F (rs_1 F rfl rfl) ?_
 exact ⟨rfl,E⟩
set_option maxRecDepth 100000 in
theorem tonesOf_any (w0 w : World) (b k : Nat) (nv : Value) (many : Nat) (most : Int) (h : LotsOk w0 w b k nv) (hk : k ≤ 900000) (hm : many ≤ 1000) (h0 : 0 ≤ most) (h1 : most ≤ 1000) :
  Calls Tryz.prog 70 #[.pointer (some ⟨b,0,none⟩),.int .i64 ((many : Nat) : Int),.int .i64 most] w fun e w'=>∃ (a : Option Addr) (c : Nat) (xs : List Int),e = .returned (.slice a many c) ∧ xs.length = many ∧ (∀ n ∈ xs,0 ≤ n ∧ n ≤ most) ∧ w'.ownsRow w.heap.size 3 1 (.slice a many c) many (ivs xs) ∧ LotsOk w0 w' b (k + 1 + 2 * many) nv ∧ Ext [b] w w':=by
 have HL:=h
 have hbw:=lots_lt HL
 have hws : w0.heap.size ≤ w.heap.size:=HL.2.2.1.size
 have E : Ext [b] w w:=Ext.refl _ _
 have oo : w.ownsRow w.heap.size 3 1 (.slice none 0 0) 0 (ivs []):=World.ownsRow_nil _ _ _ _
 clear h
 refine calls_has 33 Tryz.func70 rfl Tryz.ntmps70 (Nat.le_of_ble_eq_true rfl) ?_
 intro fa F
 refine wp_seq_k fun K1 hK1=>?_
 refine wp_region_lit ?_
 refine F.vl (R_assign rfl (ev_c fa _)) ?_;clear F fa;intro fa F
 refine wpList_nil ?_
 refine hK1 _ _ ?_
 clear hK1
 refine wp_seq_k fun K2 hK2=>?_
 refine wp_region_lit ?_
 refine F.vl (R_assign rfl (ev_c fa _)) ?_;clear F fa;intro fa F
 refine wpList_nil ?_
 refine hK2 _ _ ?_
 clear hK2
 refine wp_seq_k fun K3 hK3=>?_
 refine wp_region_lit ?_
 refine F.mv ?_;clear F fa;intro fa F
 refine sq_call F rfl (by decide) rfl (R_callV rfl rfl Tryz.call37 (mpS (F.at rfl) (mpS (ev_c fa _) mp0))) (rare_any w0 _ b _ nv 2 HL (by omega) (by omega) (by omega)) fun e w1 hR=>?_
 obtain ⟨r,rfl,HL,e9⟩:=hR
 refine ⟨_,rfl,?_⟩;clear F fa;intro fa F
 replace oo:=owns_ext oo (e9) (by simp;omega)
 replace E:=E.trans' e9 (fun i hi hl=>by simp only [List.mem_cons,List.not_mem_nil,or_false] at hi ⊢;omega)
 refine F.as ?_;clear F fa;intro fa F
 refine wpList_nil ?_
 refine hK3 _ _ ?_
 clear hK3
 refine wp_seq_k fun K4 hK4=>?_
 refine wp_seq_k fun K5 hK5=>?_
 refine wp_region_lit ?_
 refine F.vl (R_assign rfl (ev_c fa _)) ?_;clear F fa;intro fa F
 refine wpList_nil ?_
 refine hK5 _ _ ?_
 clear hK5
 refine wp_block ?_
 have F0:=F.sub (.c 0 rfl (.c 1 rfl (.c 2 rfl (.c 8 rfl .n))))
 replace HL : LotsOk w0 w1 b (k + 1 + 2 * 0) nv:=lots_mono HL (by omega)
 refine lp_for F0 (many) (fun i Lv W=>∃ va : Option Addr,∃ vc : Nat,∃ xs : List Int,Lv = [(7,.slice va i vc),(9,.int .i64 ((i : Nat) : Int))] ∧ Ext [b] w W ∧ LotsOk w0 W b (k + 1 + 2 * i) nv ∧ W.ownsRow w.heap.size 3 1 (.slice va i vc) i (ivs xs) ∧ xs.length = i ∧ ∀ n ∈ xs,0 ≤ n ∧ n ≤ most) ⟨_,⟨none,0,[],rfl,E,HL,oo,rfl,(by simp)⟩,F.sub (.c 7 rfl (.c 9 rfl (.c 0 rfl (.c 1 rfl (.c 2 rfl (.c 8 rfl .n))))))⟩ ?_
 clear F F0
 clear E HL
 clear oo
 rintro i _ fa w2 hi1 ⟨va,vc,xs,rfl,E,HL,oo,hxl,hxb⟩ F
 refine wp_seq_k fun K6 hK6=>?_
 refine wp_seq_k fun K7 hK7=>?_
 refine wp_region_lit ?_
 refine F.mv ?_;clear F fa;intro fa F
 refine F.mv ?_;clear F fa;intro fa F
 refine F.vl (R_lss rfl (F.at rfl) (F.at rfl)) ?_;clear F fa;intro fa F
 refine wpList_nil ?_
 refine hK7 _ _ ?_
 clear hK7
 refine cd_if F rfl (fun hc14=>?_) (fun hc14=>?_)
 ·skip
  refine wp_skip ?_
  refine hK6 _ _ ?_
  clear hK6
  refine wp_seq_k fun K8 hK8=>?_
  refine wp_block ?_
  refine wp_seq_k fun K9 hK9=>?_
  refine wp_region_lit ?_
  refine F.mv ?_;clear F fa;intro fa F
  refine F.mv ?_;clear F fa;intro fa F
  cases hg1 : r
  ·skip
   replace F:=F.re (k:=18) rfl (congrArg Value.bool hg1)
   refine sq_no F rfl (by decide) (wantF F rfl rfl (by decide) rfl (by decide)) ?_;clear F fa;intro fa F
   refine sq_no F rfl (by decide) (wantF F rfl rfl (by decide) rfl (by decide)) ?_;clear F fa;intro fa F
   refine sq_no F rfl (by decide) (wantF F rfl rfl (by decide) rfl (by decide)) ?_;clear F fa;intro fa F
   refine F.vl (R_pickF rfl (F.at rfl) (ev_c fa _)) ?_;clear F fa;intro fa F
   refine wpList_nil ?_
   refine hK9 _ _ ?_
   clear hK9
   refine cd_F F rfl ?_
   refine wp_region_lit ?_
   refine F.mv ?_;clear F fa;intro fa F
   refine F.mv ?_;clear F fa;intro fa F
   refine F.mv ?_;clear F fa;intro fa F
   refine sq_call F rfl (by decide) rfl (R_callV rfl rfl Tryz.call33 (mpS (F.at rfl) (mpS (F.at rfl) mp0))) (upto_any w0 _ b _ nv most HL (by omega) (by omega) (by omega)) fun e w3 hR=>?_
   obtain ⟨u,rfl,hu0,hu1,HL,e9⟩:=hR
   refine ⟨_,rfl,?_⟩;clear F fa;intro fa F
   replace oo:=owns_ext oo (e9) (by simp;omega)
   replace E:=E.trans' e9 (fun i hi hl=>by simp only [List.mem_cons,List.not_mem_nil,or_false] at hi ⊢;omega)
   refine sq_new F rfl (by decide) rfl (R_buildSliceV rfl (prS (F.at rfl) pr0) Tryz.underlying25 (size:=1) (by kernel_rfl) (by decide) (by decide) Tryz.zeroValue3 (cells:=#[.int .i64 u]) (by kernel_rfl)) ?_;clear F fa;intro fa w4 F hw
   obtain ⟨n30,hn⟩ : ∃ n,n = w3.heap.size:=⟨_,rfl⟩
   rw [← hn] at F
   have s30 : w3.heap.size ≤ n30:=Nat.le_of_eq hn.symm
   have l30_E : w.heap.size ≤ n30:=by rw [hn];exact E.size
   have b30_HL:=Nat.lt_of_lt_of_eq (lots_lt HL) hn.symm
   have o30_oo:=Lib.hid (own_ne_new oo hn)
   replace oo:=owns_alloc hw oo
   replace E:=ext_alloc E hw
   replace HL:=lots_alloc hw HL
   have q30:=new_block hw hn
   clear hw hn
   have hzE:=E.size
   refine sq_some F rfl (by decide) rfl (append_run rfl (w.heap.size) (e:=3) (size:=1) (bytes:=8) Tryz.underlying25 (by kernel_rfl) (by decide) (F.at rfl) oo (F.at rfl) q30 rfl (by simp [Value.oneCell']) (by omega) (by omega) (by omega)) ?_;clear F fa;rintro fa v' w5 F ⟨hown',hg⟩
   obtain ⟨va31,vc31,rfl⟩:=owns_slice hown'
   replace HL:=lots_append HL oo hg (by omega) (by decide)
   replace E:=ext_appendX E oo hg (by omega)
   replace oo:=hown'
   clear hg
   rw [ivs_snoc1] at oo
   have hx2 : (xs ++ [u]).length = i + 1:=by rw [List.length_append,hxl];rfl
   have hx3 : ∀ n ∈ xs ++ [u],0 ≤ n ∧ n ≤ most:=by intro n hn;rcases List.mem_append.1 hn with hn | hn;(· exact hxb n hn);(· simp at hn;subst hn;omega)
   refine F.as ?_;clear F fa;intro fa F
   refine wpList_nil ?_
   refine hK8 _ _ ?_
   clear hK8
   refine wp_region_lit ?_
   refine F.mv ?_;clear F fa;intro fa F
   refine F.vl (R_add rfl (F.at rfl) (ev_c fa _) (by omega) (by omega)) ?_;clear F fa;intro fa F
   refine F.as ?_;clear F fa;intro fa F
   refine wpList_nil ?_
   replace HL : LotsOk w0 w5 b (k + 1 + 2 * (i + 1)) nv:=lots_mono HL (by omega)
   show _ ∧ _
   exact ⟨by omega,_,⟨_,_,_,rfl,E,HL,oo,hx2,hx3⟩,F.sub (.c 7 rfl (.c 9 rfl (.c 0 rfl (.c 1 rfl (.c 2 rfl (.c 8 rfl .n))))))⟩
  ·skip
   replace F:=F.re (k:=18) rfl (congrArg Value.bool hg1)
   refine F.mv ?_ (hw:=(wantT F rfl rfl (by decide) rfl));clear F fa;intro fa F
   refine sq_call F rfl (by decide) (wantT F rfl rfl (by decide) rfl) (R_callV rfl rfl Tryz.call37 (mpS (F.at rfl) (mpS (ev_c fa _) mp0))) (rare_any w0 _ b _ nv 2 HL (by omega) (by omega) (by omega)) fun e w6 hR=>?_
   obtain ⟨r2,rfl,HL,e9⟩:=hR
   refine ⟨_,rfl,?_⟩;clear F fa;intro fa F
   replace oo:=owns_ext oo (e9) (by simp;omega)
   replace E:=E.trans' e9 (fun i hi hl=>by simp only [List.mem_cons,List.not_mem_nil,or_false] at hi ⊢;omega)
   refine F.vl (R_not rfl (F.at rfl)) ?_ (hw:=(wantT F rfl rfl (by decide) rfl));clear F fa;intro fa F
   refine F.vl (R_pickT rfl (F.at rfl) (F.at rfl)) ?_;clear F fa;intro fa F
   refine wpList_nil ?_
   refine hK9 _ _ ?_
   clear hK9
   refine cd_b F rfl (fun hc22=>?_) (fun hc22=>?_)
   ·skip
    refine wp_region_lit ?_
    refine F.mv ?_;clear F fa;intro fa F
    refine sq_new F rfl (by decide) rfl (R_buildSliceV rfl (prS (ev_c fa _) pr0) Tryz.underlying25 (size:=1) (by kernel_rfl) (by decide) (by decide) Tryz.zeroValue3 (cells:=#[.int .i64 0]) (by kernel_rfl)) ?_;clear F fa;intro fa w7 F hw
    obtain ⟨n24,hn⟩ : ∃ n,n = w6.heap.size:=⟨_,rfl⟩
    rw [← hn] at F
    have s24 : w6.heap.size ≤ n24:=Nat.le_of_eq hn.symm
    have l24_E : w.heap.size ≤ n24:=by rw [hn];exact E.size
    have b24_HL:=Nat.lt_of_lt_of_eq (lots_lt HL) hn.symm
    have o24_oo:=Lib.hid (own_ne_new oo hn)
    replace oo:=owns_alloc hw oo
    replace E:=ext_alloc E hw
    replace HL:=lots_alloc hw HL
    have q24:=new_block hw hn
    clear hw hn
    have hzE:=E.size
    refine sq_some F rfl (by decide) rfl (append_run rfl (w.heap.size) (e:=3) (size:=1) (bytes:=8) Tryz.underlying25 (by kernel_rfl) (by decide) (F.at rfl) oo (F.at rfl) q24 rfl (by simp [Value.oneCell']) (by omega) (by omega) (by omega)) ?_;clear F fa;rintro fa v' w8 F ⟨hown',hg⟩
    obtain ⟨va25,vc25,rfl⟩:=owns_slice hown'
    replace HL:=lots_append HL oo hg (by omega) (by decide)
    replace E:=ext_appendX E oo hg (by omega)
    replace oo:=hown'
    clear hg
    rw [ivs_snoc1] at oo
    have hx2 : (xs ++ [(0 : Int)]).length = i + 1:=by rw [List.length_append,hxl];rfl
    have hx3 : ∀ n ∈ xs ++ [(0 : Int)],0 ≤ n ∧ n ≤ most:=by intro n hn;rcases List.mem_append.1 hn with hn | hn;(· exact hxb n hn);(· simp at hn;omega)
    refine F.as ?_;clear F fa;intro fa F
    refine wpList_nil ?_
    refine hK8 _ _ ?_
    clear hK8
    refine wp_region_lit ?_
    refine F.mv ?_;clear F fa;intro fa F
    refine F.vl (R_add rfl (F.at rfl) (ev_c fa _) (by omega) (by omega)) ?_;clear F fa;intro fa F
    refine F.as ?_;clear F fa;intro fa F
    refine wpList_nil ?_
    replace HL : LotsOk w0 w8 b (k + 1 + 2 * (i + 1)) nv:=lots_mono HL (by omega)
    show _ ∧ _
    exact ⟨by omega,_,⟨_,_,_,rfl,E,HL,oo,hx2,hx3⟩,F.sub (.c 7 rfl (.c 9 rfl (.c 0 rfl (.c 1 rfl (.c 2 rfl (.c 8 rfl .n))))))⟩
   ·skip
    refine wp_region_lit ?_
    refine F.mv ?_;clear F fa;intro fa F
    refine F.mv ?_;clear F fa;intro fa F
    refine F.mv ?_;clear F fa;intro fa F
    refine sq_call F rfl (by decide) rfl (R_callV rfl rfl Tryz.call33 (mpS (F.at rfl) (mpS (F.at rfl) mp0))) (upto_any w0 _ b _ nv most HL (by omega) (by omega) (by omega)) fun e w9 hR=>?_
    obtain ⟨u,rfl,hu0,hu1,HL,e9⟩:=hR
    refine ⟨_,rfl,?_⟩;clear F fa;intro fa F
    replace oo:=owns_ext oo (e9) (by simp;omega)
    replace E:=E.trans' e9 (fun i hi hl=>by simp only [List.mem_cons,List.not_mem_nil,or_false] at hi ⊢;omega)
    refine sq_new F rfl (by decide) rfl (R_buildSliceV rfl (prS (F.at rfl) pr0) Tryz.underlying25 (size:=1) (by kernel_rfl) (by decide) (by decide) Tryz.zeroValue3 (cells:=#[.int .i64 u]) (by kernel_rfl)) ?_;clear F fa;intro fa w10 F hw
    obtain ⟨n30,hn⟩ : ∃ n,n = w9.heap.size:=⟨_,rfl⟩
    rw [← hn] at F
    have s30 : w9.heap.size ≤ n30:=Nat.le_of_eq hn.symm
    have l30_E : w.heap.size ≤ n30:=by rw [hn];exact E.size
    have b30_HL:=Nat.lt_of_lt_of_eq (lots_lt HL) hn.symm
    have o30_oo:=Lib.hid (own_ne_new oo hn)
    replace oo:=owns_alloc hw oo
    replace E:=ext_alloc E hw
    replace HL:=lots_alloc hw HL
    have q30:=new_block hw hn
    clear hw hn
    have hzE:=E.size
    refine sq_some F rfl (by decide) rfl (append_run rfl (w.heap.size) (e:=3) (size:=1) (bytes:=8) Tryz.underlying25 (by kernel_rfl) (by decide) (F.at rfl) oo (F.at rfl) q30 rfl (by simp [Value.oneCell']) (by omega) (by omega) (by omega)) ?_;clear F fa;rintro fa v' w11 F ⟨hown',hg⟩
    obtain ⟨va31,vc31,rfl⟩:=owns_slice hown'
    replace HL:=lots_append HL oo hg (by omega) (by decide)
    replace E:=ext_appendX E oo hg (by omega)
    replace oo:=hown'
    clear hg
    rw [ivs_snoc1] at oo
    have hx2 : (xs ++ [u]).length = i + 1:=by rw [List.length_append,hxl];rfl
    have hx3 : ∀ n ∈ xs ++ [u],0 ≤ n ∧ n ≤ most:=by intro n hn;rcases List.mem_append.1 hn with hn | hn;(· exact hxb n hn);(· simp at hn;subst hn;omega)
    refine F.as ?_;clear F fa;intro fa F
    refine wpList_nil ?_
    refine hK8 _ _ ?_
    clear hK8
    refine wp_region_lit ?_
    refine F.mv ?_;clear F fa;intro fa F
    refine F.vl (R_add rfl (F.at rfl) (ev_c fa _) (by omega) (by omega)) ?_;clear F fa;intro fa F
    refine F.as ?_;clear F fa;intro fa F
    refine wpList_nil ?_
    replace HL : LotsOk w0 w11 b (k + 1 + 2 * (i + 1)) nv:=lots_mono HL (by omega)
    show _ ∧ _
    exact ⟨by omega,_,⟨_,_,_,rfl,E,HL,oo,hx2,hx3⟩,F.sub (.c 7 rfl (.c 9 rfl (.c 0 rfl (.c 1 rfl (.c 2 rfl (.c 8 rfl .n))))))⟩
 ·skip
  refine wp_exit ?_
  refine hK4 _ _ ?_
  clear hK4
  refine wp_seq_k fun K10 hK10=>?_
  refine wp_region_lit ?_
  refine F.mv ?_;clear F fa;intro fa F
  refine F.as ?_;clear F fa;intro fa F
  refine wpList_nil ?_
  refine hK10 _ _ ?_
  clear hK10
  refine wp_ret ?_
  (try simp only [Exit.inBlock,Exit.then,reduceIte])
  refine rt_v F (rs_1 F rfl rfl) ?_
  have hi:=show i = many by omega
  subst hi
  exact ⟨va,vc,xs,rfl,hxl,hxb,oo,HL,E⟩
set_option maxRecDepth 100000 in
theorem isIn_any (M : List (Value × List Int)) (xs : List Int) (a b : Option Addr) (c d : Nat) (w : World) (h : LolAt w a M) (hx : IsRows w (.slice b xs.length d) 1 (xs.map intRow)) (hm : M.length ≤ 1000) (hs : ∀ p ∈ M,p.2.length ≤ 1000) (hl : xs.length ≤ 1000) :
  Calls Tryz.prog 71 #[.slice a M.length c,.slice b xs.length d] w fun e w'=>e = .returned (.bool (decide (xs ∈ M.map (·.2)))) ∧ Ext [] w w':=by
 have E : Ext [] w w:=Ext.refl _ _
 have HL:=Lib.hid h
 have HS:=Lib.hid h.1
 have HX:=Lib.hid hx
 have Hs:=Lib.hid hs
 clear h hx hs
 refine calls_has 18 Tryz.func71 rfl Tryz.ntmps71 (Nat.le_of_ble_eq_true rfl) ?_
 intro fa F
 refine wp_seq_k fun K1 hK1=>?_
 refine wp_region_lit ?_
 refine F.vl (R_assign rfl (ev_c fa _)) ?_;clear F fa;intro fa F
 refine wpList_nil ?_
 refine hK1 _ _ ?_
 clear hK1
 refine wp_seq_k fun K2 hK2=>?_
 refine wp_seq_k fun K3 hK3=>?_
 refine wp_region_lit ?_
 refine F.vl (R_assign rfl (ev_c fa _)) ?_;clear F fa;intro fa F
 refine wpList_nil ?_
 refine hK3 _ _ ?_
 clear hK3
 refine wp_block ?_
 have F0:=F.sub (.c 0 rfl (.c 1 rfl .n))
 refine lp_for F0 (M.length) (fun i Lv W=>Lv = [(5,.int .i64 ((i : Nat) : Int))] ∧ Ext [] w W ∧ ∀ j,j < i → (M.getD j (.bool true,[])).2 ≠ xs) ⟨_,⟨rfl,E,(fun j h=>by omega)⟩,F.sub (.c 5 rfl (.c 0 rfl (.c 1 rfl .n)))⟩ ?_
 clear F F0
 clear E
 rintro i _ fa w1 hi1 ⟨rfl,E,hno⟩ F
 refine wp_seq_k fun K4 hK4=>?_
 refine wp_seq_k fun K5 hK5=>?_
 refine wp_region_lit ?_
 refine F.mv ?_;clear F fa;intro fa F
 refine F.mv ?_;clear F fa;intro fa F
 refine F.vl (R_len rfl rfl (F.at rfl) Tryz.underlying22) ?_;clear F fa;intro fa F
 refine F.vl (R_lss rfl (F.at rfl) (F.at rfl)) ?_;clear F fa;intro fa F
 refine wpList_nil ?_
 refine hK5 _ _ ?_
 clear hK5
 refine cd_if F rfl (fun hc9=>?_) (fun hc9=>?_)
 ·skip
  refine wp_skip ?_
  refine hK4 _ _ ?_
  clear hK4
  refine wp_seq_k fun K6 hK6=>?_
  refine wp_block ?_
  refine wp_seq_k fun K7 hK7=>?_
  obtain ⟨la,lca,hla,hlr⟩:=HL.out.2 _ (getD_mem (.bool true,[]) (show i < M.length by omega))
  have hsz:=Hs.out _ (getD_mem (.bool true,[]) (show i < M.length by omega))
  refine wp_region_lit ?_
  refine F.mv ?_;clear F fa;intro fa F
  refine F.mv ?_;clear F fa;intro fa F
  obtain ⟨xb8,xo8,xa8,xr8⟩:=HS.out i (by omega)
  refine F.vl (R_ixSlice (sz:=1) rfl ((F.at rfl).trans (xa8 _ _)) (F.at rfl) Tryz.underlying22 (by kernel_rfl) (by omega) (by omega)) ?_;clear F fa;intro fa F
  refine F.vl (R_load rfl (F.at rfl) Tryz.underlying25 rfl (xr8 _ E 0 _ rfl)) ?_;clear F fa;intro fa F
  rw [hla] at F
  refine F.mv ?_;clear F fa;intro fa F
  refine sq_call F rfl (by decide) rfl (R_callV rfl rfl Tryz.call17 (mpS (F.at rfl) (mpS (F.at rfl) mp0))) (sameInts_any (M.getD i (.bool true,[])).2 xs la b lca d _ (hlr.ext E (by simp)) (HX.out.ext E (by simp)) (by omega) (by omega)) fun e w2 hR=>?_
  obtain ⟨rfl,e9⟩:=hR
  refine ⟨_,rfl,?_⟩;clear F fa;intro fa F
  replace E:=ext_same E (e9)
  clear e9
  refine wpList_nil ?_
  refine hK7 _ _ ?_
  clear hK7
  refine cd_if F rfl (fun hc17=>?_) (fun hc17=>?_)
  ·skip
   refine wp_seq_k fun K9 hK9=>?_
   refine wp_region_lit ?_
   refine F.vl (R_assign rfl (ev_c fa _)) ?_;clear F fa;intro fa F
   refine wpList_nil ?_
   refine hK9 _ _ ?_
   clear hK9
   refine wp_ret ?_
   (try simp only [Exit.inBlock,Exit.then,reduceIte])
   refine rt_v F (rs_1 F rfl rfl) ?_
   exact ⟨ret_bool (by rw [decide_eq_true];exact List.mem_map.2 ⟨_,getD_mem (.bool true,[]) (show i < M.length by omega),by simpa using hc17⟩),E⟩
  ·skip
   refine wp_skip ?_
   refine hK6 _ _ ?_
   clear hK6
   refine wp_region_lit ?_
   refine F.mv ?_;clear F fa;intro fa F
   refine F.vl (R_add rfl (F.at rfl) (ev_c fa _) (by omega) (by omega)) ?_;clear F fa;intro fa F
   refine F.as ?_;clear F fa;intro fa F
   refine wpList_nil ?_
   show _ ∧ _
   exact ⟨by omega,_,⟨rfl,E,(fun j h=>by rcases Nat.lt_succ_iff_lt_or_eq.1 h with h | rfl;(· exact hno j h);(· exact hc17))⟩,F.sub (.c 5 rfl (.c 0 rfl (.c 1 rfl .n)))⟩
 ·skip
  refine wp_exit ?_
  refine hK2 _ _ ?_
  clear hK2
  refine wp_seq_k fun K10 hK10=>?_
  refine wp_region_lit ?_
  refine F.vl (R_assign rfl (ev_c fa _)) ?_;clear F fa;intro fa F
  refine wpList_nil ?_
  refine hK10 _ _ ?_
  clear hK10
  refine wp_ret ?_
  (try simp only [Exit.inBlock,Exit.then,reduceIte])
  refine rt_v F (rs_1 F rfl rfl) ?_
  exact ⟨ret_bool (by rw [decide_eq_false];intro hm;obtain ⟨p,hp,he⟩:=List.mem_map.1 hm;obtain ⟨j,hj,rfl⟩:=List.getElem_of_mem hp;have:=hno j (by omega);simp [hj] at this;exact this he),E⟩
theorem sum_bd {l : List Int} (h : ∀ n ∈ l,0 ≤ n ∧ n ≤ 6) : 0 ≤ l.sum ∧ l.sum ≤ 6 * l.length:=by
 induction l with
 | nil=>simp
 | cons a l ih =>
  have h1:=h a (by simp)
  have h2:=ih fun n hn=>h n (by simp [hn])
  simp only [List.sum_cons,List.length_cons]
  omega
theorem sum_take_bd {l : List Int} (h : ∀ n ∈ l,0 ≤ n ∧ n ≤ 6) (i : Nat) : 0 ≤ (l.take i).sum ∧ (l.take i).sum ≤ 6 * l.length:=by
 have:=sum_bd (l:=l.take i) fun n hn=>h n (List.mem_of_mem_take hn)
 have h2:=List.length_take_le i l
 rw [List.length_take] at this
 omega
set_option maxRecDepth 100000 in
set_option maxHeartbeats 1000000 in
theorem sumsOf_ok (x : Vm) (hv : VOk x) (bn : Nat) (hbn : x.B = bn) (l : List Int) (hl : l.length = x.D.length) (hb : ∀ n ∈ l,0 ≤ n ∧ n ≤ 6) (a : Option Addr) (c : Nat) (w : World) (h : x.At w) (hr : IsRows w (.slice a l.length c) 1 (l.map intRow)) :
  Calls Tryz.prog 34 #[.agg #[.int .i64 x.B,.slice x.da x.D.length x.dc,.slice x.la x.L.length x.lc,.int .i64 x.tol],.slice a l.length c] w fun e w'=>∃ a,e = .returned (.tuple #[.slice a bn bn,.int .i64 l.sum]) ∧ w'.ownsRow w.heap.size 3 1 (.slice a bn bn) bn (ivs (sumL x (val l) bn)) ∧ Ext [] w w':=by
 have E : Ext [] w w:=Ext.refl _ _
 have HX:=Lib.hid h
 have HV:=Lib.hid hv
 have HSR:=Lib.hid (slAt_of_rows hr 0)
 have HB:=Lib.hid hb
 have HD:=Lib.hid h.d.1
 have hb1:=hv.b1
 have hb3:=hv.b3
 have hd4:=hv.d4
 have HF : RowKit.Hid (TubS (val l)):=Lib.hid (fun k _=>val_bd hb (by omega) (by omega) k)
 clear h hv hr hb
 refine calls_has 54 Tryz.func34 rfl Tryz.ntmps34 (Nat.le_of_ble_eq_true rfl) ?_
 intro fa F
 refine wp_seq_k fun K1 hK1=>?_
 refine wp_region_lit ?_
 refine sq_new F rfl (by decide) rfl (R_box rfl (F.at rfl)) ?_;clear F fa;intro fa w1 F hw
 obtain ⟨n2,hn⟩ : ∃ n,n = w.heap.size:=⟨_,rfl⟩
 rw [← hn] at F
 have s2 : w.heap.size ≤ n2:=Nat.le_of_eq hn.symm
 have l2_E : w.heap.size ≤ n2:=by rw [hn];exact E.size
 replace E:=ext_alloc E hw
 have q2:=new_row hw hn
 clear hw hn
 refine F.vl (R_assign rfl (ev_c fa _)) ?_;clear F fa;intro fa F
 refine F.vl (R_assign rfl (ev_c fa _)) ?_;clear F fa;intro fa F
 refine wpList_nil ?_
 refine hK1 _ _ ?_
 clear hK1
 refine wp_seq_k fun K2 hK2=>?_
 refine wp_region_lit ?_
 refine F.vl (R_field rfl (F.at rfl) Tryz.underlying24 rfl (n:=0) (sz:=1) rfl (by kernel_rfl) (by decide)) ?_;clear F fa;intro fa F
 refine F.vl (R_load rfl (F.at rfl) Tryz.underlying3 rfl ((cells_of_block q2 0).trans (get0))) ?_;clear F fa;intro fa F
 rw [hbn] at F
 have hEs:=E.size
 refine sq_some F rfl (by decide) rfl (make_run rfl (w.heap.size) (e:=3) (bytes:=8) (z:=.int .i64 0) Tryz.underlying25 (by kernel_rfl) rfl (F.at rfl) (F.at rfl) (n:=bn) (by omega) (by decide) (by omega)) ?_;clear F fa;rintro fa v' w2 F ⟨oo,hg,rfl⟩
 obtain ⟨n12,hn⟩ : ∃ n,n = w1.heap.size:=⟨_,rfl⟩
 rw [← hn] at F oo
 have s12 : w1.heap.size ≤ n12:=Nat.le_of_eq hn.symm
 replace q2:=keep_none hg q2
 replace E:=ext_none E hg
 clear hg hn
 rw [← sumR_zero x (val l) bn] at oo
 refine F.as ?_;clear F fa;intro fa F
 refine F.vl (R_assign rfl (ev_c fa _)) ?_;clear F fa;intro fa F
 rw [show (0 : Int) = (l.take 0).sum from rfl] at F
 refine wpList_nil ?_
 refine hK2 _ _ ?_
 clear hK2
 refine wp_seq_k fun K3 hK3=>?_
 refine wp_seq_k fun K4 hK4=>?_
 refine wp_region_lit ?_
 refine F.vl (R_assign rfl (ev_c fa _)) ?_;clear F fa;intro fa F
 refine wpList_nil ?_
 refine hK4 _ _ ?_
 clear hK4
 refine wp_block ?_
 have F0:=F.sub (.c 1 rfl (.c 2 rfl (.c 6 rfl .n)))
 refine lp_for F0 (l.length) (fun d Lv W=>Lv = [(7,.int .i64 ((l.take d).sum)),(8,.int .i64 ((d : Nat) : Int))] ∧ Ext [] w W ∧ W.heap[n2]? = some (.cells #[.int .i64 x.B,.slice x.da x.D.length x.dc,.slice x.la x.L.length x.lc,.int .i64 x.tol] 24 (0,0)) ∧ W.ownsRow w.heap.size 3 1 (.slice (some ⟨n12,0,none⟩) bn bn) bn (ivs (sumR x (val l) bn d 0))) ⟨_,⟨rfl,E,q2,oo⟩,F.sub (.c 7 rfl (.c 8 rfl (.c 1 rfl (.c 2 rfl (.c 6 rfl .n)))))⟩ ?_
 clear F F0
 clear E q2
 clear oo
 rintro d _ fa w3 hi1 ⟨rfl,E,q2,oo⟩ F
 refine wp_seq_k fun K5 hK5=>?_
 refine wp_seq_k fun K6 hK6=>?_
 refine wp_region_lit ?_
 refine F.mv ?_;clear F fa;intro fa F
 refine F.mv ?_;clear F fa;intro fa F
 refine F.vl (R_len rfl rfl (F.at rfl) Tryz.underlying25) ?_;clear F fa;intro fa F
 refine F.vl (R_lss rfl (F.at rfl) (F.at rfl)) ?_;clear F fa;intro fa F
 refine wpList_nil ?_
 refine hK6 _ _ ?_
 clear hK6
 refine cd_if F rfl (fun hc16=>?_) (fun hc16=>?_)
 ·skip
  refine wp_skip ?_
  refine hK5 _ _ ?_
  clear hK5
  refine wp_seq_k fun K7 hK7=>?_
  refine wp_block ?_
  refine wp_seq_k fun K8 hK8=>?_
  refine wp_seq_k fun K9 hK9=>?_
  refine wp_region_lit ?_
  refine F.vl (R_assign rfl (ev_c fa _)) ?_;clear F fa;intro fa F
  refine wpList_nil ?_
  refine hK9 _ _ ?_
  clear hK9
  refine wp_block ?_
  have F0:=F.sub (.c 1 rfl (.c 2 rfl (.c 6 rfl (.c 7 rfl (.c 8 rfl .n)))))
  refine lp_for F0 (bn) (fun i Lv W=>Lv = [(9,.int .i64 ((i : Nat) : Int))] ∧ Ext [] w W ∧ W.heap[n2]? = some (.cells #[.int .i64 x.B,.slice x.da x.D.length x.dc,.slice x.la x.L.length x.lc,.int .i64 x.tol] 24 (0,0)) ∧ W.ownsRow w.heap.size 3 1 (.slice (some ⟨n12,0,none⟩) bn bn) bn (ivs (sumR x (val l) bn d i))) ⟨_,⟨rfl,E,q2,oo⟩,F.sub (.c 9 rfl (.c 1 rfl (.c 2 rfl (.c 6 rfl (.c 7 rfl (.c 8 rfl .n))))))⟩ ?_
  clear F F0
  clear E q2
  clear oo
  rintro i _ fa w4 hi2 ⟨rfl,E,q2,oo⟩ F
  refine wp_seq_k fun K10 hK10=>?_
  refine wp_seq_k fun K11 hK11=>?_
  refine wp_region_lit ?_
  refine F.mv ?_;clear F fa;intro fa F
  refine F.vl (R_field rfl (F.at rfl) Tryz.underlying24 rfl (n:=0) (sz:=1) rfl (by kernel_rfl) (by decide)) ?_;clear F fa;intro fa F
  refine F.vl (R_load rfl (F.at rfl) Tryz.underlying3 rfl ((cells_of_block q2 0).trans (get0))) ?_;clear F fa;intro fa F
  rw [hbn] at F
  refine F.vl (R_lss rfl (F.at rfl) (F.at rfl)) ?_;clear F fa;intro fa F
  refine wpList_nil ?_
  refine hK11 _ _ ?_
  clear hK11
  refine cd_if F rfl (fun hc22=>?_) (fun hc22=>?_)
  ·skip
   refine wp_skip ?_
   refine hK10 _ _ ?_
   clear hK10
   refine wp_seq_k fun K12 hK12=>?_
   refine wp_block ?_
   obtain ⟨la,lca,hla,hlr⟩:=HX.out.d.2 _ (getD_mem (.bool true,[]) (show d < x.D.length by omega))
   have hlen:=(HV.out.dl _ (getD_mem (.bool true,[]) (show d < x.D.length by omega))).1
   have hlb : (x.D.getD d (.bool true,[])).2.length = bn:=by omega
   have HLR:=Lib.hid (slAt_of_rows hlr 0)
   have hml:=sumR_len x (val l) bn d i
   have hmk:=sumR_get x (val l) d (show i < bn by omega)
   have hst:=sumR_set x (val l) d (show i < bn by omega)
   have EX : Ext [] w4 w4:=Ext.refl _ _
   have HS:=Lib.hid (slAt_of_ivs oo hml.symm [] (by simp))
   have hil:=ivs_lenZ (sumR x (val l) bn d i)
   obtain ⟨hf0,hf1⟩:=HF.out d (by omega)
   obtain ⟨hg0,hg1⟩:=dye_bd HV.out (show d < x.D.length by omega) i
   simp only [val,Vm.dye] at hg0 hg1 hf0 hf1
   obtain ⟨hp0,hp1⟩:=mul_bd hf0 (by omega) hg0 (by omega)
   obtain ⟨ht0,ht1⟩:=tonE_bd HV.out HF.out i (show d ≤ x.D.length by omega)
   refine wp_region_st 21 follows (by kernel_rfl) fun w5 hh eh=>?_
   replace q2:=keep_same hh q2
   replace E:=ext_same E eh
   replace EX:=ext_same EX eh
   replace oo:=owns_same hh oo
   clear hh eh
   refine F.smv ?_;clear F fa;intro fa F
   refine F.smv ?_;clear F fa;intro fa F
   refine F.smv ?_;clear F fa;intro fa F
   refine F.smv ?_;clear F fa;intro fa F
   obtain ⟨xb13,xo13,xa13,xr13⟩:=HS.out i (by omega)
   refine F.sv (R_ixSlice (sz:=1) rfl ((F.at rfl).trans (xa13 _ _)) (F.at rfl) Tryz.underlying25 (by kernel_rfl) (by omega) (by omega)) ?_;clear F fa;intro fa F
   refine F.sv (R_load rfl (F.at rfl) Tryz.underlying3 rfl (xr13 _ EX 0 _ rfl)) ?_;clear F fa;intro fa F
   refine F.smv ?_;clear F fa;intro fa F
   refine F.smv ?_;clear F fa;intro fa F
   obtain ⟨xb14,xo14,xa14,xr14⟩:=HSR.out d (by omega)
   refine F.sv (R_ixSlice (sz:=1) rfl ((F.at rfl).trans (xa14 _ _)) (F.at rfl) Tryz.underlying25 (by kernel_rfl) (by omega) (by omega)) ?_;clear F fa;intro fa F
   refine F.sv (R_load rfl (F.at rfl) Tryz.underlying3 rfl (xr14 _ E 0 _ rfl)) ?_;clear F fa;intro fa F
   refine F.sv (R_field rfl (F.at rfl) Tryz.underlying24 rfl (n:=1) (sz:=1) rfl (by kernel_rfl) (by decide)) ?_;clear F fa;intro fa F
   refine F.sv (R_load rfl (F.at rfl) Tryz.underlying22 rfl ((cells_of_block q2 1).trans (getS (get0)))) ?_;clear F fa;intro fa F
   refine F.smv ?_;clear F fa;intro fa F
   obtain ⟨xb15,xo15,xa15,xr15⟩:=HD.out d (by omega)
   refine F.sv (R_ixSlice (sz:=1) rfl ((F.at rfl).trans (xa15 _ _)) (F.at rfl) Tryz.underlying22 (by kernel_rfl) (by omega) (by omega)) ?_;clear F fa;intro fa F
   refine F.sv (R_load rfl (F.at rfl) Tryz.underlying25 rfl (xr15 _ E 0 _ rfl)) ?_;clear F fa;intro fa F
   rw [hla] at F
   refine F.smv ?_;clear F fa;intro fa F
   obtain ⟨xb16,xo16,xa16,xr16⟩:=HLR.out i (by omega)
   refine F.sv (R_ixSlice (sz:=1) rfl ((F.at rfl).trans (xa16 _ _)) (F.at rfl) Tryz.underlying25 (by kernel_rfl) (by omega) (by omega)) ?_;clear F fa;intro fa F
   refine F.sv (R_load rfl (F.at rfl) Tryz.underlying3 rfl (xr16 _ E 0 _ rfl)) ?_;clear F fa;intro fa F
   refine F.sv (R_mul rfl (F.at rfl) (F.at rfl) (by omega) (by omega)) ?_;clear F fa;intro fa F
   refine F.sv (R_add rfl (F.at rfl) (F.at rfl) (by omega) (by omega)) ?_;clear F fa;intro fa F
   obtain ⟨xb17,xo17,xa17,xr17⟩:=HS.out i (by omega)
   refine F.sv (R_ixSlice (sz:=1) rfl ((F.at rfl).trans (xa17 _ _)) (F.at rfl) Tryz.underlying25 (by kernel_rfl) (by omega) (by omega)) ?_;clear F fa;intro fa F
   refine wpStill_nil ?_
   obtain ⟨⟨u0,hcu⟩,hfu,hst⟩:=owns_at oo xa17 (j:=i) (p:=xo17 + ((i : Nat) : Int).toNat * 1) (by first | omega | (simp;omega)) (by omega)
   refine sq_to rfl rfl (R_store rfl (F.at rfl) (F.at rfl) rfl (by kernel_rfl) hcu hfu) ?_;intro w6 hw
   obtain ⟨hown',hg⟩:=hst _ _ hw
   clear hst hcu hfu hw
   replace q2:=keep_type oo hg q2 (by decide)
   replace E:=ext_appendX E oo hg (by omega)
   replace oo:=hown'
   clear hg
   rw [ivs_setZ,hmk,show tonE x (val l) i d + l.getD d 0 * (x.D.getD d (.bool true,[])).2.getD i 0 = tonE x (val l) i (d + 1) from rfl,hst] at oo
   refine wpList_nil ?_
   refine hK12 _ _ ?_
   clear hK12
   refine wp_region_lit ?_
   refine F.mv ?_;clear F fa;intro fa F
   refine F.vl (R_add rfl (F.at rfl) (ev_c fa _) (by omega) (by omega)) ?_;clear F fa;intro fa F
   refine F.as ?_;clear F fa;intro fa F
   refine wpList_nil ?_
   show _ ∧ _
   exact ⟨by omega,_,⟨rfl,E,q2,oo⟩,F.sub (.c 9 rfl (.c 1 rfl (.c 2 rfl (.c 6 rfl (.c 7 rfl (.c 8 rfl .n))))))⟩
  ·skip
   refine wp_exit ?_
   rw [show i = bn by omega,sumR_next] at oo
   refine hK8 _ _ ?_
   clear hK8
   have hsb:=sum_take_bd HB.out d
   have hnb:=HB.out _ (getD_mem 0 (show d < l.length by omega))
   refine wp_region_lit ?_
   refine F.mv ?_;clear F fa;intro fa F
   refine F.mv ?_;clear F fa;intro fa F
   refine F.mv ?_;clear F fa;intro fa F
   obtain ⟨xb18,xo18,xa18,xr18⟩:=HSR.out d (by omega)
   refine F.vl (R_ixSlice (sz:=1) rfl ((F.at rfl).trans (xa18 _ _)) (F.at rfl) Tryz.underlying25 (by kernel_rfl) (by omega) (by omega)) ?_;clear F fa;intro fa F
   refine F.vl (R_load rfl (F.at rfl) Tryz.underlying3 rfl (xr18 _ E 0 _ rfl)) ?_;clear F fa;intro fa F
   refine F.vl (R_add rfl (F.at rfl) (F.at rfl) (by omega) (by omega)) ?_;clear F fa;intro fa F
   rw [← sum_take l (by omega)] at F
   refine F.as ?_;clear F fa;intro fa F
   refine wpList_nil ?_
   refine hK7 _ _ ?_
   clear hK7
   refine wp_region_lit ?_
   refine F.mv ?_;clear F fa;intro fa F
   refine F.vl (R_add rfl (F.at rfl) (ev_c fa _) (by omega) (by omega)) ?_;clear F fa;intro fa F
   refine F.as ?_;clear F fa;intro fa F
   refine wpList_nil ?_
   show _ ∧ _
   exact ⟨by omega,_,⟨rfl,E,q2,oo⟩,F.sub (.c 7 rfl (.c 8 rfl (.c 1 rfl (.c 2 rfl (.c 6 rfl .n)))))⟩
 ·skip
  refine wp_exit ?_
  rw [show d = x.D.length by omega,sumR_end] at oo
  rw [List.take_of_length_le (show l.length ≤ d by omega)] at F
  refine hK3 _ _ ?_
  clear hK3
  refine wp_seq_k fun K19 hK19=>?_
  refine wp_region_lit ?_
  refine F.mv ?_;clear F fa;intro fa F
  refine F.mv ?_;clear F fa;intro fa F
  refine F.as ?_;clear F fa;intro fa F
  refine F.as ?_;clear F fa;intro fa F
  refine wpList_nil ?_
  refine hK19 _ _ ?_
  clear hK19
  refine wp_ret ?_
  (try simp only [Exit.inBlock,Exit.then,reduceIte])
  refine rt_v F (rs_2 F rfl rfl rfl) ?_
  exact ⟨_,rfl,oo,E⟩
theorem sum_set : ∀ (xs : List Int) (i : Nat) (v : Int),i < xs.length → (xs.set i v).sum = xs.sum - xs.getD i 0 + v
 | [],i,v,h=>by simp at h
 | x :: xs,0,v,h=>by simp;omega
 | x :: xs,i + 1,v,h=>by
  have:=sum_set xs i v (by simpa using h)
  simp only [List.set_cons_succ,List.sum_cons,this,List.getD_cons_succ]
  omega
theorem le_sum {xs : List Int} (h : ∀ n ∈ xs,0 ≤ n) : ∀ n ∈ xs,n ≤ xs.sum:=by
 induction xs with
 | nil=>intro n hn;simp at hn
 | cons x xs ih =>
  intro n hn
  have h0 : 0 ≤ xs.sum:=by
   clear ih hn
   induction xs with
   | nil=>simp
   | cons y ys ih2 =>
    have:=h y (by simp)
    have:=ih2 fun m hm=>h m (by simp only [List.mem_cons] at hm ⊢;rcases hm with rfl | hm <;> simp [*])
    simp only [List.sum_cons];omega
  have hx:=h x (by simp)
  rw [List.sum_cons]
  rcases List.mem_cons.1 hn with rfl | hn
  ·omega
  ·have:=ih (fun m hm=>h m (by simp [hm])) n hn;omega
def RcpPost (x : Vm) (w0 : World) (b k : Nat) (nv : Value) (w : World) (e : Ending) (w' : World) : Prop:=∃ (a : Option Addr) (xs : List Int),e = .returned (.slice a x.D.length x.D.length) ∧ RcpOk x xs ∧ w'.ownsRow w.heap.size 3 1 (.slice a x.D.length x.D.length) x.D.length (ivs xs) ∧ LotsOk w0 w' b (k + 10) nv ∧ Ext [b] w w'
set_option maxRecDepth 100000 in
set_option maxHeartbeats 1000000 in
theorem recipeOf_any (x : Vm) (hv : VOk x) (w0 w : World) (b k : Nat) (nv : Value) (h : LotsOk w0 w b k nv) (hk : k ≤ 900000) :
  Calls Tryz.prog 35 #[.pointer (some ⟨b,0,none⟩),.agg #[.int .i64 x.B,.slice x.da x.D.length x.dc,.slice x.la x.L.length x.lc,.int .i64 x.tol]] w (RcpPost x w0 b k nv w):=by
 have HL:=h
 have hbw:=lots_lt HL
 have hws : w0.heap.size ≤ w.heap.size:=HL.2.2.1.size
 have E : Ext [b] w w:=Ext.refl _ _
 have hd1:=hv.d1
 have hd4:=hv.d4
 clear h hv
 refine calls_has 31 Tryz.func35 rfl Tryz.ntmps35 (Nat.le_of_ble_eq_true rfl) ?_
 intro fa F
 refine wp_seq_k fun K1 hK1=>?_
 refine wp_region_lit ?_
 refine sq_new F rfl (by decide) rfl (R_box rfl (F.at rfl)) ?_;clear F fa;intro fa w1 F hw
 obtain ⟨n3,hn⟩ : ∃ n,n = w.heap.size:=⟨_,rfl⟩
 rw [← hn] at F
 have s3 : w.heap.size ≤ n3:=Nat.le_of_eq hn.symm
 have l3_E : w.heap.size ≤ n3:=by rw [hn];exact E.size
 have b3_HL:=Nat.lt_of_lt_of_eq (lots_lt HL) hn.symm
 replace E:=ext_alloc E hw
 replace HL:=lots_alloc hw HL
 have q3:=new_row hw hn
 clear hw hn
 refine F.vl (R_assign rfl (ev_c fa _)) ?_;clear F fa;intro fa F
 refine wpList_nil ?_
 refine hK1 _ _ ?_
 clear hK1
 refine wp_seq_k fun K2 hK2=>?_
 refine wp_region_lit ?_
 refine F.vl (R_field rfl (F.at rfl) Tryz.underlying24 rfl (n:=1) (sz:=1) rfl (by kernel_rfl) (by decide)) ?_;clear F fa;intro fa F
 refine F.vl (R_load rfl (F.at rfl) Tryz.underlying22 rfl ((cells_of_block q3 1).trans (getS (get0)))) ?_;clear F fa;intro fa F
 refine F.vl (R_len rfl rfl (F.at rfl) Tryz.underlying22) ?_;clear F fa;intro fa F
 have hEs:=E.size
 refine sq_some F rfl (by decide) rfl (make_run rfl (w.heap.size) (e:=3) (bytes:=8) (z:=.int .i64 0) Tryz.underlying25 (by kernel_rfl) rfl (F.at rfl) (F.at rfl) (n:=x.D.length) (by omega) (by decide) (by omega)) ?_;clear F fa;rintro fa v' w2 F ⟨oo,hg,rfl⟩
 obtain ⟨n10,hn⟩ : ∃ n,n = w1.heap.size:=⟨_,rfl⟩
 rw [← hn] at F oo
 have s10 : w1.heap.size ≤ n10:=Nat.le_of_eq hn.symm
 replace q3:=keep_none hg q3
 replace E:=ext_none E hg
 replace HL:=lots_ext (ext_none (Ext.refl [] _) hg) HL
 clear hg hn
 rw [show List.replicate x.D.length (Value.int .i64 0) = ivs (List.replicate x.D.length 0) by simp [ivs]] at oo
 refine F.as ?_;clear F fa;intro fa F
 refine wpList_nil ?_
 refine hK2 _ _ ?_
 clear hK2
 refine wp_seq_k fun K3 hK3=>?_
 refine wp_seq_k fun K4 hK4=>?_
 refine wp_region_lit ?_
 refine F.mv ?_;clear F fa;intro fa F
 refine F.mv ?_;clear F fa;intro fa F
 refine sq_new F rfl (by decide) rfl (R_buildSliceV rfl (prS (ev_c fa _) (prS (ev_c fa _) (prS (ev_c fa _) (prS (ev_c fa _) pr0)))) Tryz.underlying25 (size:=1) (by kernel_rfl) (by decide) (by decide) Tryz.zeroValue3 (cells:=#[.int .i64 1,.int .i64 2,.int .i64 3,.int .i64 6]) (by kernel_rfl)) ?_;clear F fa;intro fa w3 F hw
 obtain ⟨n13,hn⟩ : ∃ n,n = w2.heap.size:=⟨_,rfl⟩
 rw [← hn] at F
 have s13 : w2.heap.size ≤ n13:=Nat.le_of_eq hn.symm
 have l13_E : w.heap.size ≤ n13:=by rw [hn];exact E.size
 have b13_HL:=Nat.lt_of_lt_of_eq (lots_lt HL) hn.symm
 have m13_3 : n3 < n13:=by rw [hn];exact blk_lt q3
 have o13_oo:=Lib.hid (own_ne_new oo hn)
 replace oo:=owns_alloc hw oo
 replace q3:=keep_alloc hw q3
 replace E:=ext_alloc E hw
 replace HL:=lots_alloc hw HL
 have q13:=new_block hw hn
 clear hw hn
 refine sq_call F rfl (by decide) rfl (R_callV rfl rfl Tryz.call36 (mpS (F.at rfl) (mpS (F.at rfl) mp0))) (of_any w0 _ b _ nv n13 _ [1,2,3,6] HL (by omega) q13 (by omega) (by decide) (by decide)) fun e w4 hR=>?_
 obtain ⟨v,rfl,hvm,HL,e9⟩:=hR
 refine ⟨_,rfl,?_⟩;clear F fa;intro fa F
 replace oo:=owns_ext oo (e9) (by simp;omega)
 replace q3:=(e9).keep q3 (by simp;omega)
 replace q13:=(e9).keep q13 (by simp;omega)
 replace E:=E.trans' e9 (fun i hi hl=>by simp only [List.mem_cons,List.not_mem_nil,or_false] at hi ⊢;omega)
 have hv6 : 1 ≤ v ∧ v ≤ 6:=by simp only [List.mem_cons,List.not_mem_nil,or_false] at hvm;omega
 refine sq_call F rfl (by decide) rfl (R_callV rfl rfl Tryz.call69 (mpS (F.at rfl) (mpS (ev_c fa _) (mpS (F.at rfl) mp0)))) (in_any w0 _ b _ nv 1 v HL (by omega) (by omega) (by omega) (by omega) (by omega)) fun e w5 hR=>?_
 obtain ⟨n,rfl,hn1,hn2,HL,e9⟩:=hR
 refine ⟨_,rfl,?_⟩;clear F fa;intro fa F
 replace oo:=owns_ext oo (e9) (by simp;omega)
 replace q3:=(e9).keep q3 (by simp;omega)
 replace q13:=(e9).keep q13 (by simp;omega)
 replace E:=E.trans' e9 (fun i hi hl=>by simp only [List.mem_cons,List.not_mem_nil,or_false] at hi ⊢;omega)
 refine F.as ?_;clear F fa;intro fa F
 refine wpList_nil ?_
 rw [show n = n - ((0 : Nat) : Int) by omega] at F
 refine hK4 _ _ ?_
 clear hK4
 refine wp_block ?_
 have F0:=F.sub (.c 0 rfl (.c 5 rfl .n))
 replace HL : LotsOk w0 w5 b (k + 2 + 0) nv:=lots_mono HL (by omega)
 refine lp_for F0 (6) (fun i Lv W=>∃ xs : List Int,Lv = [(6,.int .i64 (n - ((i : Nat) : Int)))] ∧ Ext [b] w W ∧ W.heap[n3]? = some (.cells #[.int .i64 x.B,.slice x.da x.D.length x.dc,.slice x.la x.L.length x.lc,.int .i64 x.tol] 24 (0,0)) ∧ LotsOk w0 W b (k + 2 + i) nv ∧ W.ownsRow w.heap.size 3 1 (.slice (some ⟨n10,0,none⟩) x.D.length x.D.length) x.D.length (ivs xs) ∧ xs.length = x.D.length ∧ (∀ m ∈ xs,0 ≤ m) ∧ xs.sum = i ∧ (i : Int) ≤ n) ⟨_,⟨_,rfl,E,q3,HL,oo,(by simp),(by simp),(by simp),(by omega)⟩,F.sub (.c 6 rfl (.c 0 rfl (.c 5 rfl .n)))⟩ ?_
 clear F F0
 clear E q3 HL
 clear oo
 rintro i _ fa w6 hi1 ⟨xs,rfl,E,q3,HL,oo,hxl,hx0,hxs,hin⟩ F
 refine wp_seq_k fun K5 hK5=>?_
 refine wp_seq_k fun K6 hK6=>?_
 refine wp_region_lit ?_
 refine F.mv ?_;clear F fa;intro fa F
 refine F.vl (R_gtr rfl (F.at rfl) (ev_c fa _)) ?_;clear F fa;intro fa F
 refine wpList_nil ?_
 refine hK6 _ _ ?_
 clear hK6
 refine cd_if F rfl (fun hc17=>?_) (fun hc17=>?_)
 ·skip
  refine wp_skip ?_
  refine hK5 _ _ ?_
  clear hK5
  refine wp_seq_k fun K7 hK7=>?_
  refine wp_block ?_
  refine wp_region_lit ?_
  refine F.mv ?_;clear F fa;intro fa F
  refine F.mv ?_;clear F fa;intro fa F
  refine F.mv ?_;clear F fa;intro fa F
  refine F.vl (R_len rfl rfl (F.at rfl) Tryz.underlying25) ?_;clear F fa;intro fa F
  refine F.vl (R_sub rfl (F.at rfl) (ev_c fa _) (by omega) (by omega)) ?_;clear F fa;intro fa F
  refine sq_call F rfl (by decide) rfl (R_callV rfl rfl Tryz.call33 (mpS (F.at rfl) (mpS (F.at rfl) mp0))) (upto_any w0 _ b _ nv (((x.D.length : Nat) : Int) - 1) HL (by omega) (by omega) (by omega)) fun e w7 hR=>?_
  obtain ⟨u,rfl,hu0,hu1,HL,e9⟩:=hR
  refine ⟨_,rfl,?_⟩;clear F fa;intro fa F
  replace oo:=owns_ext oo (e9) (by simp;omega)
  replace q3:=(e9).keep q3 (by simp;omega)
  replace E:=E.trans' e9 (fun i hi hl=>by simp only [List.mem_cons,List.not_mem_nil,or_false] at hi ⊢;omega)
  obtain ⟨u,rfl⟩:=Int.eq_ofNat_of_zero_le hu0
  have hux : u < xs.length:=by rw [hxl];omega
  have EX : Ext [] w7 w7:=Ext.refl _ _
  have HS:=Lib.hid (slAt_of_ivs oo hxl.symm [] (by simp))
  have hil:=ivs_lenZ xs
  have hm0:=hx0 _ (getD_mem 0 hux)
  have hmS:=le_sum hx0 _ (getD_mem 0 hux)
  obtain ⟨xb8,xo8,xa8,xr8⟩:=HS.out u (by omega)
  refine F.vl (R_ixSlice (sz:=1) rfl ((F.at rfl).trans (xa8 _ _)) (F.at rfl) Tryz.underlying25 (by kernel_rfl) (by omega) (by omega)) ?_;clear F fa;intro fa F
  refine F.vl (R_load rfl (F.at rfl) Tryz.underlying3 rfl (xr8 _ EX 0 _ rfl)) ?_;clear F fa;intro fa F
  refine F.vl (R_add rfl (F.at rfl) (ev_c fa _) (by omega) (by omega)) ?_;clear F fa;intro fa F
  obtain ⟨xb9,xo9,xa9,xr9⟩:=HS.out u (by omega)
  refine F.vl (R_ixSlice (sz:=1) rfl ((F.at rfl).trans (xa9 _ _)) (F.at rfl) Tryz.underlying25 (by kernel_rfl) (by omega) (by omega)) ?_;clear F fa;intro fa F
  obtain ⟨⟨u0,hcu⟩,hfu,hst⟩:=owns_at oo xa9 (j:=u) (p:=xo9 + ((u : Nat) : Int).toNat * 1) (by first | omega | (simp;omega)) (by omega)
  refine sq_to rfl rfl (R_store rfl (F.at rfl) (F.at rfl) rfl (by kernel_rfl) hcu hfu) ?_;intro w8 hw
  obtain ⟨hown',hg⟩:=hst _ _ hw
  clear hst hcu hfu hw
  replace q3:=keep_type oo hg q3 (by decide)
  replace HL:=lots_append HL oo hg (by omega) (by decide)
  replace E:=ext_appendX E oo hg (by omega)
  replace oo:=hown'
  clear hg
  rw [ivs_setZ] at oo
  have hst:=sum_set xs u (xs.getD u 0 + 1) hux
  have hx2 : ∀ m ∈ xs.set u (xs.getD u 0 + 1),0 ≤ m:=by intro m hm;rcases List.mem_or_eq_of_mem_set hm with hm | rfl;(· exact hx0 m hm);(· omega)
  refine wpList_nil ?_
  refine hK7 _ _ ?_
  clear hK7
  refine wp_region_lit ?_
  refine F.mv ?_;clear F fa;intro fa F
  refine F.vl (R_sub rfl (F.at rfl) (ev_c fa _) (by omega) (by omega)) ?_;clear F fa;intro fa F
  rw [show n - ((i : Nat) : Int) - 1 = n - ((i + 1 : Nat) : Int) by omega] at F
  refine F.as ?_;clear F fa;intro fa F
  refine wpList_nil ?_
  replace HL : LotsOk w0 w8 b (k + 2 + (i + 1)) nv:=lots_mono HL (by omega)
  show _ ∧ _
  exact ⟨by omega,_,⟨_,rfl,E,q3,HL,oo,(by rw [List.length_set];exact hxl),hx2,(by omega),(by omega)⟩,F.sub (.c 6 rfl (.c 0 rfl (.c 5 rfl .n)))⟩
 ·skip
  refine wp_exit ?_
  refine hK3 _ _ ?_
  clear hK3
  refine wp_seq_k fun K10 hK10=>?_
  refine wp_region_lit ?_
  refine F.mv ?_;clear F fa;intro fa F
  refine F.as ?_;clear F fa;intro fa F
  refine wpList_nil ?_
  refine hK10 _ _ ?_
  clear hK10
  refine wp_ret ?_
  (try simp only [Exit.inBlock,Exit.then,reduceIte])
  refine rt_v F (rs_1 F rfl rfl) ?_
  refine ⟨_,xs,rfl,⟨hxl,fun m hm=>⟨hx0 m hm,?_⟩,by omega,by omega⟩,oo,lots_mono HL (by omega),E⟩
  have:=le_sum hx0 m hm;omega
theorem asc_snoc {xs : List Int} {n : Int} (h : ∀ i,0 < i → i < xs.length → xs.getD (i - 1) 0 < xs.getD i 0) (hb : ∀ m ∈ xs,m < n) : ∀ i,0 < i → i < (xs ++ [n]).length → (xs ++ [n]).getD (i - 1) 0 < (xs ++ [n]).getD i 0:=by
 intro i h0 h1
 simp only [List.length_append,List.length_cons,List.length_nil] at h1
 by_cases hi : i < xs.length
 ·have:=h i h0 hi
  simpa [List.getD_eq_getElem?_getD,List.getElem?_append_left,hi,show i - 1 < xs.length by omega] using this
 ·obtain rfl : i = xs.length:=by omega
  have:=hb _ (getD_mem 0 (show xs.length - 1 < xs.length by omega))
  simpa [List.getD_eq_getElem?_getD,List.getElem?_append_left,show xs.length - 1 < xs.length by omega] using this
def LmpPost (x : Vm) (w0 : World) (b k : Nat) (nv : Value) (w : World) (e : Ending) (w' : World) : Prop:=∃ (a : Option Addr) (c : Nat) (xs : List Int),e = .returned (.slice a xs.length c) ∧ LmpsOk x xs ∧ xs.length ≤ 3 ∧ w'.ownsRow w.heap.size 3 1 (.slice a xs.length c) xs.length (ivs xs) ∧ LotsOk w0 w' b (k + 10) nv ∧ Ext [b] w w'
set_option maxRecDepth 100000 in
set_option maxHeartbeats 1000000 in
theorem lampsOf_any (x : Vm) (hv : VOk x) (w0 w : World) (b k : Nat) (nv : Value) (h : LotsOk w0 w b k nv) (hk : k ≤ 900000) :
  Calls Tryz.prog 9 #[.pointer (some ⟨b,0,none⟩),.agg #[.int .i64 x.B,.slice x.da x.D.length x.dc,.slice x.la x.L.length x.lc,.int .i64 x.tol]] w (LmpPost x w0 b k nv w):=by
 have HL:=h
 have hbw:=lots_lt HL
 have hws : w0.heap.size ≤ w.heap.size:=HL.2.2.1.size
 have E : Ext [b] w w:=Ext.refl _ _
 have hl1:=hv.l1
 have hl3:=hv.l3
 have oo : w.ownsRow w.heap.size 3 1 (.slice none 0 0) 0 (ivs []):=World.ownsRow_nil _ _ _ _
 clear h hv
 refine calls_has 31 Tryz.func9 rfl Tryz.ntmps9 (Nat.le_of_ble_eq_true rfl) ?_
 intro fa F
 refine wp_seq_k fun K1 hK1=>?_
 refine wp_region_lit ?_
 refine sq_new F rfl (by decide) rfl (R_box rfl (F.at rfl)) ?_;clear F fa;intro fa w1 F hw
 obtain ⟨n3,hn⟩ : ∃ n,n = w.heap.size:=⟨_,rfl⟩
 rw [← hn] at F
 have s3 : w.heap.size ≤ n3:=Nat.le_of_eq hn.symm
 have l3_E : w.heap.size ≤ n3:=by rw [hn];exact E.size
 have b3_HL:=Nat.lt_of_lt_of_eq (lots_lt HL) hn.symm
 have o3_oo:=Lib.hid (own_ne_new oo hn)
 replace oo:=owns_alloc hw oo
 replace E:=ext_alloc E hw
 replace HL:=lots_alloc hw HL
 have q3:=new_row hw hn
 clear hw hn
 refine F.vl (R_assign rfl (ev_c fa _)) ?_;clear F fa;intro fa F
 refine wpList_nil ?_
 refine hK1 _ _ ?_
 clear hK1
 refine wp_seq_k fun K2 hK2=>?_
 refine wp_region_lit ?_
 refine F.vl (R_assign rfl (ev_c fa _)) ?_;clear F fa;intro fa F
 refine wpList_nil ?_
 refine hK2 _ _ ?_
 clear hK2
 refine wp_seq_k fun K3 hK3=>?_
 refine wp_seq_k fun K4 hK4=>?_
 refine wp_region_lit ?_
 refine F.vl (R_assign rfl (ev_c fa _)) ?_;clear F fa;intro fa F
 refine wpList_nil ?_
 refine hK4 _ _ ?_
 clear hK4
 refine wp_block ?_
 have F0:=F.sub (.c 0 rfl (.c 3 rfl .n))
 replace HL : LotsOk w0 w1 b (k + 0) nv:=lots_mono HL (by omega)
 refine lp_for F0 (x.L.length) (fun i Lv W=>∃ va : Option Addr,∃ vc : Nat,∃ xs : List Int,Lv = [(5,.slice va xs.length vc),(6,.int .i64 ((i : Nat) : Int))] ∧ Ext [b] w W ∧ W.heap[n3]? = some (.cells #[.int .i64 x.B,.slice x.da x.D.length x.dc,.slice x.la x.L.length x.lc,.int .i64 x.tol] 24 (0,0)) ∧ LotsOk w0 W b (k + i) nv ∧ W.ownsRow w.heap.size 3 1 (.slice va xs.length vc) xs.length (ivs xs) ∧ (∀ m ∈ xs,0 ≤ m ∧ m < i) ∧ (∀ j,0 < j → j < xs.length → xs.getD (j - 1) 0 < xs.getD j 0) ∧ xs.length ≤ i) ⟨_,⟨none,0,[],rfl,E,q3,HL,oo,(by simp),(by simp),(by simp)⟩,F.sub (.c 5 rfl (.c 6 rfl (.c 0 rfl (.c 3 rfl .n))))⟩ ?_
 clear F F0
 clear E q3 HL
 clear oo
 rintro i _ fa w2 hi1 ⟨va,vc,xs,rfl,E,q3,HL,oo,hxb,hxa,hxl⟩ F
 refine wp_seq_k fun K5 hK5=>?_
 refine wp_seq_k fun K6 hK6=>?_
 refine wp_region_lit ?_
 refine F.mv ?_;clear F fa;intro fa F
 refine F.vl (R_field rfl (F.at rfl) Tryz.underlying24 rfl (n:=2) (sz:=1) rfl (by kernel_rfl) (by decide)) ?_;clear F fa;intro fa F
 refine F.vl (R_load rfl (F.at rfl) Tryz.underlying22 rfl ((cells_of_block q3 2).trans (getS (getS (get0))))) ?_;clear F fa;intro fa F
 refine F.vl (R_len rfl rfl (F.at rfl) Tryz.underlying22) ?_;clear F fa;intro fa F
 refine F.vl (R_lss rfl (F.at rfl) (F.at rfl)) ?_;clear F fa;intro fa F
 refine wpList_nil ?_
 refine hK6 _ _ ?_
 clear hK6
 refine cd_if F rfl (fun hc11=>?_) (fun hc11=>?_)
 ·skip
  refine wp_skip ?_
  refine hK5 _ _ ?_
  clear hK5
  refine wp_seq_k fun K7 hK7=>?_
  refine wp_block ?_
  refine wp_seq_k fun K8 hK8=>?_
  refine wp_region_lit ?_
  refine F.mv ?_;clear F fa;intro fa F
  refine sq_call F rfl (by decide) rfl (R_callV rfl rfl Tryz.call37 (mpS (F.at rfl) (mpS (ev_c fa _) mp0))) (rare_any w0 _ b _ nv 2 HL (by omega) (by omega) (by omega)) fun e w3 hR=>?_
  obtain ⟨r,rfl,HL,e9⟩:=hR
  refine ⟨_,rfl,?_⟩;clear F fa;intro fa F
  replace oo:=owns_ext oo (e9) (by simp;omega)
  replace q3:=(e9).keep q3 (by simp;omega)
  replace E:=E.trans' e9 (fun i hi hl=>by simp only [List.mem_cons,List.not_mem_nil,or_false] at hi ⊢;omega)
  refine wpList_nil ?_
  refine hK8 _ _ ?_
  clear hK8
  refine cd_b F rfl (fun hc15=>?_) (fun hc15=>?_)
  ·skip
   refine wp_region_lit ?_
   refine F.mv ?_;clear F fa;intro fa F
   refine F.mv ?_;clear F fa;intro fa F
   refine sq_new F rfl (by decide) rfl (R_buildSliceV rfl (prS (F.at rfl) pr0) Tryz.underlying25 (size:=1) (by kernel_rfl) (by decide) (by decide) Tryz.zeroValue3 (cells:=#[.int .i64 ((i : Nat) : Int)]) (by kernel_rfl)) ?_;clear F fa;intro fa w4 F hw
   obtain ⟨n18,hn⟩ : ∃ n,n = w3.heap.size:=⟨_,rfl⟩
   rw [← hn] at F
   have s18 : w3.heap.size ≤ n18:=Nat.le_of_eq hn.symm
   have l18_E : w.heap.size ≤ n18:=by rw [hn];exact E.size
   have b18_HL:=Nat.lt_of_lt_of_eq (lots_lt HL) hn.symm
   have m18_3 : n3 < n18:=by rw [hn];exact blk_lt q3
   have o18_oo:=Lib.hid (own_ne_new oo hn)
   replace oo:=owns_alloc hw oo
   replace q3:=keep_alloc hw q3
   replace E:=ext_alloc E hw
   replace HL:=lots_alloc hw HL
   have q18:=new_block hw hn
   clear hw hn
   have hzE:=E.size
   refine sq_some F rfl (by decide) rfl (append_run rfl (w.heap.size) (e:=3) (size:=1) (bytes:=8) Tryz.underlying25 (by kernel_rfl) (by decide) (F.at rfl) oo (F.at rfl) q18 rfl (by simp [Value.oneCell']) (by omega) (by omega) (by omega)) ?_;clear F fa;rintro fa v' w5 F ⟨hown',hg⟩
   obtain ⟨va19,vc19,rfl⟩:=owns_slice hown'
   replace q3:=keep_type oo hg q3 (by decide)
   replace HL:=lots_append HL oo hg (by omega) (by decide)
   replace E:=ext_appendX E oo hg (by omega)
   replace oo:=hown'
   clear hg
   rw [ivs_snoc1] at oo
   replace hxa:=asc_snoc hxa (fun m hm=>(hxb m hm).2)
   replace hxb : ∀ m ∈ xs ++ [((i : Nat) : Int)],0 ≤ m ∧ m < ((i + 1 : Nat) : Int):=by intro m hm;rcases List.mem_append.1 hm with hm | hm;(· have:=hxb m hm;omega);(· simp at hm;omega)
   obtain ⟨ys,hys⟩ : ∃ ys,ys = xs ++ [((i : Nat) : Int)]:=⟨_,rfl⟩
   have hyl : xs.length + 1 = ys.length:=by rw [hys,List.length_append];rfl
   rw [hyl] at F oo
   rw [← hys] at oo hxa hxb
   replace hxl : ys.length ≤ i + 1:=by omega
   refine F.as ?_;clear F fa;intro fa F
   refine wpList_nil ?_
   refine hK7 _ _ ?_
   clear hK7
   refine wp_region_lit ?_
   refine F.mv ?_;clear F fa;intro fa F
   refine F.vl (R_add rfl (F.at rfl) (ev_c fa _) (by omega) (by omega)) ?_;clear F fa;intro fa F
   refine F.as ?_;clear F fa;intro fa F
   refine wpList_nil ?_
   replace hxb : ∀ m ∈ _,0 ≤ m ∧ m < ((i + 1 : Nat) : Int):=fun m hm=>(by have:=hxb m hm;omega)
   replace hxl:=Nat.le_trans hxl (Nat.le_refl _)
   replace HL : LotsOk w0 w5 b (k + (i + 1)) nv:=lots_mono HL (by omega)
   show _ ∧ _
   exact ⟨by omega,_,⟨_,_,_,rfl,E,q3,HL,oo,hxb,hxa,hxl⟩,F.sub (.c 5 rfl (.c 6 rfl (.c 0 rfl (.c 3 rfl .n))))⟩
  ·skip
   replace hxl : xs.length ≤ i + 1:=by omega
   refine wp_skip ?_
   refine hK7 _ _ ?_
   clear hK7
   refine wp_region_lit ?_
   refine F.mv ?_;clear F fa;intro fa F
   refine F.vl (R_add rfl (F.at rfl) (ev_c fa _) (by omega) (by omega)) ?_;clear F fa;intro fa F
   refine F.as ?_;clear F fa;intro fa F
   refine wpList_nil ?_
   replace hxb : ∀ m ∈ _,0 ≤ m ∧ m < ((i + 1 : Nat) : Int):=fun m hm=>(by have:=hxb m hm;omega)
   replace hxl:=Nat.le_trans hxl (Nat.le_refl _)
   replace HL : LotsOk w0 w3 b (k + (i + 1)) nv:=lots_mono HL (by omega)
   show _ ∧ _
   exact ⟨by omega,_,⟨_,_,_,rfl,E,q3,HL,oo,hxb,hxa,hxl⟩,F.sub (.c 5 rfl (.c 6 rfl (.c 0 rfl (.c 3 rfl .n))))⟩
 ·skip
  refine wp_exit ?_
  refine hK3 _ _ ?_
  clear hK3
  refine wp_seq_k fun K9 hK9=>?_
  refine wp_seq_k fun K10 hK10=>?_
  refine wp_region_lit ?_
  refine F.mv ?_;clear F fa;intro fa F
  refine F.vl (R_len rfl rfl (F.at rfl) Tryz.underlying25) ?_;clear F fa;intro fa F
  refine F.vl (R_eqlD rfl (F.at rfl) (ev_c fa _)) ?_;clear F fa;intro fa F
  refine wpList_nil ?_
  refine hK10 _ _ ?_
  clear hK10
  refine cd_if F rfl (fun hc22=>?_) (fun hc22=>?_)
  ·skip
   have hx0 : xs.length = 0:=by omega
   refine wp_region_lit ?_
   refine F.mv ?_;clear F fa;intro fa F
   refine F.vl (R_field rfl (F.at rfl) Tryz.underlying24 rfl (n:=2) (sz:=1) rfl (by kernel_rfl) (by decide)) ?_;clear F fa;intro fa F
   refine F.vl (R_load rfl (F.at rfl) Tryz.underlying22 rfl ((cells_of_block q3 2).trans (getS (getS (get0))))) ?_;clear F fa;intro fa F
   refine F.vl (R_len rfl rfl (F.at rfl) Tryz.underlying22) ?_;clear F fa;intro fa F
   refine F.vl (R_sub rfl (F.at rfl) (ev_c fa _) (by omega) (by omega)) ?_;clear F fa;intro fa F
   refine sq_call F rfl (by decide) rfl (R_callV rfl rfl Tryz.call33 (mpS (F.at rfl) (mpS (F.at rfl) mp0))) (upto_any w0 _ b _ nv (((x.L.length : Nat) : Int) - 1) HL (by omega) (by omega) (by omega)) fun e w6 hR=>?_
   obtain ⟨u,rfl,hu0,hu1,HL,e9⟩:=hR
   refine ⟨_,rfl,?_⟩;clear F fa;intro fa F
   replace oo:=owns_ext oo (e9) (by simp;omega)
   replace q3:=(e9).keep q3 (by simp;omega)
   replace E:=E.trans' e9 (fun i hi hl=>by simp only [List.mem_cons,List.not_mem_nil,or_false] at hi ⊢;omega)
   refine sq_new F rfl (by decide) rfl (R_buildSliceV rfl (prS (F.at rfl) pr0) Tryz.underlying25 (size:=1) (by kernel_rfl) (by decide) (by decide) Tryz.zeroValue3 (cells:=#[.int .i64 u]) (by kernel_rfl)) ?_;clear F fa;intro fa w7 F hw
   obtain ⟨n29,hn⟩ : ∃ n,n = w6.heap.size:=⟨_,rfl⟩
   rw [← hn] at F
   have s29 : w6.heap.size ≤ n29:=Nat.le_of_eq hn.symm
   have l29_E : w.heap.size ≤ n29:=by rw [hn];exact E.size
   have b29_HL:=Nat.lt_of_lt_of_eq (lots_lt HL) hn.symm
   have m29_3 : n3 < n29:=by rw [hn];exact blk_lt q3
   have o29_oo:=Lib.hid (own_ne_new oo hn)
   replace oo:=owns_alloc hw oo
   replace q3:=keep_alloc hw q3
   replace E:=ext_alloc E hw
   replace HL:=lots_alloc hw HL
   have q29:=new_block hw hn
   clear hw hn
   have o2:=owns_lit1 (base:=w.heap.size) q29 (by omega)
   refine F.as ?_;clear F fa;intro fa F
   refine wpList_nil ?_
   refine hK9 _ _ ?_
   clear hK9
   refine wp_seq_k fun K11 hK11=>?_
   refine wp_region_lit ?_
   refine F.mv ?_;clear F fa;intro fa F
   refine F.as ?_;clear F fa;intro fa F
   refine wpList_nil ?_
   refine hK11 _ _ ?_
   clear hK11
   refine wp_ret ?_
   (try simp only [Exit.inBlock,Exit.then,reduceIte])
   refine rt_v F (rs_1 F rfl rfl) ?_
   exact ⟨some ⟨n29,0,none⟩,1,[u],rfl,⟨by simp,fun m hm=>(by simp only [List.mem_cons,List.not_mem_nil,or_false] at hm;omega),fun j h0 h1=>(by simp at h1;omega)⟩,by simp,o2,lots_mono HL (by omega),E⟩
  ·skip
   refine wp_skip ?_
   refine hK9 _ _ ?_
   clear hK9
   refine wp_seq_k fun K12 hK12=>?_
   refine wp_region_lit ?_
   refine F.mv ?_;clear F fa;intro fa F
   refine F.as ?_;clear F fa;intro fa F
   refine wpList_nil ?_
   refine hK12 _ _ ?_
   clear hK12
   refine wp_ret ?_
   (try simp only [Exit.inBlock,Exit.then,reduceIte])
   refine rt_v F (rs_1 F rfl rfl) ?_
   exact ⟨va,vc,xs,rfl,⟨by omega,fun m hm=>(by have:=hxb m hm;omega),hxa⟩,by omega,oo,lots_mono HL (by omega),E⟩
def AtB (b : Nat) (x : Vm) (w : World) : Prop:=∀ W,Ext [b] w W → x.At W
theorem AtB.ext {b : Nat} {x : Vm} {w W : World} (h : AtB b x w) (e : Ext [b] w W) : AtB b x W:=fun V k=>h V (e.trans k)
theorem AtB.at {b : Nat} {x : Vm} {w : World} (h : AtB b x w) : x.At w:=h w (Ext.refl _ _)
def SmpPost (x : Vm) (w0 : World) (b k : Nat) (nv : Value) (w : World) (e : Ending) (w' : World) : Prop:=∃ (a : Option Addr) (c : Nat) (xs : List Int),e = .returned (.slice a xs.length c) ∧ SmpOk x xs ∧ w'.ownsRow w.heap.size 3 1 (.slice a xs.length c) xs.length (ivs xs) ∧ LotsOk w0 w' b (k + 20) nv ∧ Ext [b] w w'
theorem div_bd {s p : Int} (h0 : 0 ≤ s) (h1 : s ≤ 240) (hp : 1 ≤ p) : 0 ≤ s / p ∧ s / p ≤ 240:=⟨Int.ediv_nonneg h0 (by omega),Int.le_trans (Int.ediv_le_self _ h0) h1⟩
set_option maxRecDepth 100000 in
set_option maxHeartbeats 2000000 in
theorem sampleOf_any (x : Vm) (hv : VOk x) (w0 w : World) (b k : Nat) (nv : Value) (h : LotsOk w0 w b k nv) (hk : k ≤ 900000) (hx : AtB b x w) :
  Calls Tryz.prog 8 #[.pointer (some ⟨b,0,none⟩),.agg #[.int .i64 x.B,.slice x.da x.D.length x.dc,.slice x.la x.L.length x.lc,.int .i64 x.tol]] w (SmpPost x w0 b k nv w):=by
 have HL:=h
 have hbw:=lots_lt HL
 have hb0:=HL.1
 have hws : w0.heap.size ≤ w.heap.size:=HL.2.2.1.size
 have E : Ext [b] w w:=Ext.refl _ _
 have HX:=Lib.hid hx
 have HV:=Lib.hid hv
 have hb1:=hv.b1
 have hb3:=hv.b3
 obtain ⟨bn,hbn⟩ : ∃ bn : Nat,x.B = bn:=⟨x.B.toNat,by omega⟩
 clear h hv hx
 refine calls_has 49 Tryz.func8 rfl Tryz.ntmps8 (Nat.le_of_ble_eq_true rfl) ?_
 intro fa F
 refine wp_seq_k fun K1 hK1=>?_
 refine wp_region_lit ?_
 refine sq_new F rfl (by decide) rfl (R_box rfl (F.at rfl)) ?_;clear F fa;intro fa w1 F hw
 obtain ⟨n3,hn⟩ : ∃ n,n = w.heap.size:=⟨_,rfl⟩
 rw [← hn] at F
 have s3 : w.heap.size ≤ n3:=Nat.le_of_eq hn.symm
 have l3_E : w.heap.size ≤ n3:=by rw [hn];exact E.size
 have b3_HL:=Nat.lt_of_lt_of_eq (lots_lt HL) hn.symm
 replace E:=ext_alloc E hw
 replace HL:=lots_alloc hw HL
 have q3:=new_row hw hn
 clear hw hn
 refine F.vl (R_assign rfl (ev_c fa _)) ?_;clear F fa;intro fa F
 refine wpList_nil ?_
 refine hK1 _ _ ?_
 clear hK1
 refine wp_seq_k fun K2 hK2=>?_
 refine region_x (Ext [b] w1) none follows fun w2 hh eh=>?_
 have q3_:=q3
 replace q3:=keep_same hh q3
 have E_:=E
 have zEw2:=E.size
 replace E:=ext_same E eh
 have zbw2:=lots_lt HL
 replace HL:=lots_ext eh HL
 have eT:=eh.mono (Y:=[b]) (by simp)
 clear hh eh
 refine F.xr (i:=0) rfl (fun w' hS=>R_loadBlk rfl (F.at rfl) Tryz.underlying24 rfl (by kernel_rfl) (hS.keep q3_ (by simp;omega))) (fun _=>eT) ?_;clear F fa;intro fa F
 refine F.x (i:=1) rfl (fun w'=>R_move rfl (F.at rfl)) (fun _=>eT) ?_;clear F fa;intro fa F
 refine F.xr (i:=2) rfl (fun w' hS=>R_loadBlk rfl (F.at rfl) Tryz.underlying24 rfl (by kernel_rfl) (hS.keep q3_ (by simp;omega))) (fun _=>eT) ?_;clear F fa;intro fa F
 refine ax_only (i:=3) (by kernel_rfl) (op_call F rfl rfl (by decide) rfl (R_callV rfl rfl Tryz.call35 (mpS (F.at rfl) (mpS (F.at rfl) mp0))) (recipeOf_any x HV.out w0 _ b _ nv HL (by omega)) fun e w3 hR=>?_)
 obtain ⟨ra,rl,rfl,hrl,ro,HL,e9⟩:=hR
 refine ⟨_,rfl,?_⟩;clear F fa;intro fa F
 replace q3:=(e9).keep q3 (by simp;omega)
 replace E:=E.trans' e9 (fun i hi hl=>by simp only [List.mem_cons,List.not_mem_nil,or_false] at hi ⊢;omega)
 replace eT:=eT.trans' e9 (fun i hi hl=>by simp only [List.mem_cons,List.not_mem_nil,or_false] at hi ⊢;omega)
 refine ⟨fun _=>eT,?_⟩
 have hso:=sumsOf_ok x HV.out bn hbn rl hrl.len (fun n hn=>hrl.bd n hn) ra x.D.length w3 (HX.out _ E) (by rw [hrl.len];exact rows_of_ivs ro hrl.len.symm)
 rw [hrl.len] at hso
 have hbX:=lots_lt HL
 refine ax_only (i:=4) (by kernel_rfl) (op_call F rfl rfl (by decide) rfl (R_callV rfl rfl Tryz.call34 (mpS (F.at rfl) (mpS (F.at rfl) mp0))) (hso) fun e w4 hR=>?_)
 obtain ⟨sa,rfl,so,e9⟩:=hR
 refine ⟨_,rfl,?_⟩;clear F fa;intro fa F
 replace q3:=(e9).keep0 q3
 replace E:=ext_same E (e9)
 replace HL:=lots_ext (e9) HL
 replace eT:=ext_same eT (e9)
 clear e9
 refine ⟨fun _=>eT,?_⟩
 have hEs0:=E.size
 have hsl : (sumL x (val rl) bn).length = bn:=by simp [sumL]
 have HSS:=Lib.hid (slAt_of_ivs so hsl.symm [b] (by simpa using hbX))
 obtain ⟨wS,hwS⟩ : ∃ wS,wS = w4:=⟨_,rfl⟩
 have ES : Ext [b] wS w4:=by rw [hwS];exact Ext.refl _ _
 rw [← hwS] at HSS
 clear ro so hso
 have hs1:=hrl.s1
 have hs6:=hrl.s6
 have hsb:=Lib.hid (sumL_bd HV.out hrl.tub bn)
 refine F.x (i:=5) rfl (fun w'=>R_move rfl (F.at rfl)) (fun _=>eT) ?_;clear F fa;intro fa F
 refine F.x (i:=6) rfl (fun w'=>R_extract rfl (F.at rfl) (get0)) (fun _=>eT) ?_;clear F fa;intro fa F
 refine F.x (i:=7) rfl (fun w'=>R_extract rfl (F.at rfl) (getS (get0))) (fun _=>eT) ?_;clear F fa;intro fa F
 refine F.x (i:=8) rfl (fun w'=>R_assign rfl (F.at rfl)) (fun _=>eT) ?_;clear F fa;intro fa F
 refine F.x (i:=9) rfl (fun w'=>R_assign rfl (F.at rfl)) (fun _=>eT) ?_;clear F fa;intro fa F
 refine ax_done (by kernel_rfl) ?_ _
 clear eT q3_ E_
 refine hK2 _ _ ?_
 clear hK2
 refine wp_seq_k fun K3 hK3=>?_
 refine wp_region_lit ?_
 refine F.vl (R_assign rfl (ev_c fa _)) ?_;clear F fa;intro fa F
 refine wpList_nil ?_
 refine hK3 _ _ ?_
 clear hK3
 refine wp_seq_k fun K4 hK4=>?_
 refine wp_seq_k fun K5 hK5=>?_
 have oo : w4.ownsRow wS.heap.size 3 1 (.slice none 0 0) 0 (ivs []):=World.ownsRow_nil _ _ _ _
 have hwS0 : w.heap.size ≤ wS.heap.size:=(by rw [hwS];exact hEs0)
 refine wp_region_lit ?_
 refine F.vl (R_assign rfl (ev_c fa _)) ?_;clear F fa;intro fa F
 refine wpList_nil ?_
 refine hK5 _ _ ?_
 clear hK5
 refine wp_block ?_
 have F0:=F.sub (.c 0 rfl (.c 3 rfl (.c 5 rfl (.c 6 rfl .n))))
 replace HL : LotsOk w0 w4 b (k + 10 + 0) nv:=lots_mono HL (by omega)
 refine lp_for F0 (bn) (fun i Lv W=>∃ va : Option Addr,∃ vc : Nat,∃ xs : List Int,Lv = [(7,.slice va i vc),(8,.int .i64 ((i : Nat) : Int))] ∧ Ext [b] w W ∧ Ext [b] wS W ∧ W.heap[n3]? = some (.cells #[.int .i64 x.B,.slice x.da x.D.length x.dc,.slice x.la x.L.length x.lc,.int .i64 x.tol] 24 (0,0)) ∧ LotsOk w0 W b (k + 10 + i) nv ∧ W.ownsRow wS.heap.size 3 1 (.slice va i vc) i (ivs xs) ∧ xs.length = i ∧ (∀ m ∈ xs,0 ≤ m ∧ m ≤ 9)) ⟨_,⟨none,0,[],rfl,E,ES,q3,HL,oo,rfl,(by simp)⟩,F.sub (.c 7 rfl (.c 8 rfl (.c 0 rfl (.c 3 rfl (.c 5 rfl (.c 6 rfl .n))))))⟩ ?_
 clear F F0
 clear E ES q3 HL
 clear oo
 rintro i _ fa w5 hi1 ⟨va,vc,xs,rfl,E,ES,q3,HL,oo,hxl,hxb⟩ F
 refine wp_seq_k fun K6 hK6=>?_
 refine wp_seq_k fun K7 hK7=>?_
 refine wp_region_lit ?_
 refine F.mv ?_;clear F fa;intro fa F
 refine F.vl (R_field rfl (F.at rfl) Tryz.underlying24 rfl (n:=0) (sz:=1) rfl (by kernel_rfl) (by decide)) ?_;clear F fa;intro fa F
 refine F.vl (R_load rfl (F.at rfl) Tryz.underlying3 rfl ((cells_of_block q3 0).trans (get0))) ?_;clear F fa;intro fa F
 rw [hbn] at F
 refine F.vl (R_lss rfl (F.at rfl) (F.at rfl)) ?_;clear F fa;intro fa F
 refine wpList_nil ?_
 refine hK7 _ _ ?_
 clear hK7
 refine cd_if F rfl (fun hc20=>?_) (fun hc20=>?_)
 ·skip
  refine wp_skip ?_
  refine hK6 _ _ ?_
  clear hK6
  refine wp_seq_k fun K8 hK8=>?_
  refine wp_block ?_
  obtain ⟨hq0,hq1⟩:=hsb.out _ (getD_mem 0 (show i < (sumL x (val rl) bn).length by omega))
  obtain ⟨hd0,hd1⟩:=div_bd hq0 hq1 hs1
  refine region_x (Ext [b] w5) (some 13) follows fun w6 hh eh=>?_
  have q3_:=q3
  replace q3:=keep_same hh q3
  have E_:=E
  have zEw6:=E.size
  replace E:=ext_same E eh
  have ES_:=ES
  have zESw6:=ES.size
  replace ES:=ext_same ES eh
  have zbw6:=lots_lt HL
  replace HL:=lots_ext eh HL
  replace oo:=owns_same hh oo
  have eT:=eh.mono (Y:=[b]) (by simp)
  clear hh eh
  refine F.x (i:=0) rfl (fun w'=>R_move rfl (F.at rfl)) (fun _=>eT) ?_;clear F fa;intro fa F
  refine F.x (i:=1) rfl (fun w'=>R_move rfl (F.at rfl)) (fun _=>eT) ?_;clear F fa;intro fa F
  refine F.x (i:=2) rfl (fun w'=>R_move rfl (F.at rfl)) (fun _=>eT) ?_;clear F fa;intro fa F
  obtain ⟨xb9,xo9,xa9,xr9⟩:=HSS.out i (by omega)
  refine F.x (i:=3) rfl (fun w'=>R_ixSlice (sz:=1) rfl ((F.at rfl).trans (xa9 _ _)) (F.at rfl) Tryz.underlying25 (by kernel_rfl) (by omega) (by omega)) (fun _=>eT) ?_;clear F fa;intro fa F
  refine F.xr2 (i:=4) [6,10,11,12,13] rfl (fun w' hS=>R_load rfl (F.at rfl) Tryz.underlying3 rfl (xr9 _ (ES_.trans hS) 0 _ rfl)) (fun _=>eT) ?_;clear F fa;intro fa F
  refine F.x (i:=5) rfl (fun w'=>R_move rfl (F.at rfl)) (fun _=>eT) ?_;clear F fa;intro fa F
  refine F.x (i:=6) rfl (fun w'=>R_quoP rfl (F.at rfl) (F.at rfl) (by omega) (by omega) (by omega)) (fun _=>eT) ?_;clear F fa;intro fa F
  refine F.x (i:=7) rfl (fun w'=>R_move rfl (F.at rfl)) (fun _=>eT) ?_;clear F fa;intro fa F
  refine ax_only (i:=8) (by kernel_rfl) (op_new F rfl rfl (by decide) rfl (R_buildSliceV rfl (prS (ev_c fa _) (prS (ev_c fa _) (prS (ev_c fa _) pr0))) Tryz.underlying25 (size:=1) (by kernel_rfl) (by decide) (by decide) Tryz.zeroValue3 (cells:=#[.int .i64 0,.int .i64 0,.int .i64 1]) (by kernel_rfl)) ?_);clear F fa;intro fa w7 F hw
  obtain ⟨n31,hn⟩ : ∃ n,n = w6.heap.size:=⟨_,rfl⟩
  rw [← hn] at F
  have s31 : w6.heap.size ≤ n31:=Nat.le_of_eq hn.symm
  have l31_E : w.heap.size ≤ n31:=by rw [hn];exact E.size
  have l31_ES : wS.heap.size ≤ n31:=by rw [hn];exact ES.size
  have lT31 : w5.heap.size ≤ n31:=by rw [hn];exact eT.size
  have b31_HL:=Nat.lt_of_lt_of_eq (lots_lt HL) hn.symm
  have m31_3 : n3 < n31:=by rw [hn];exact blk_lt q3
  have o31_oo:=Lib.hid (own_ne_new oo hn)
  replace oo:=owns_alloc hw oo
  replace q3:=keep_alloc hw q3
  replace E:=ext_alloc E hw
  replace ES:=ext_alloc ES hw
  replace HL:=lots_alloc hw HL
  replace eT:=ext_alloc eT hw
  have q31:=new_block hw hn
  clear hw hn
  refine ⟨fun _=>eT,?_⟩
  refine ax_only (i:=9) (by kernel_rfl) (op_call F rfl rfl (by decide) rfl (R_callV rfl rfl Tryz.call36 (mpS (F.at rfl) (mpS (F.at rfl) mp0))) (of_any w0 _ b _ nv n31 _ [0,0,1] HL (by omega) q31 (by omega) (by decide) (by decide)) fun e w8 hR=>?_)
  obtain ⟨v,rfl,hvm,HL,e9⟩:=hR
  refine ⟨_,rfl,?_⟩;clear F fa;intro fa F
  replace oo:=owns_ext oo (e9) (by simp;omega)
  replace q3:=(e9).keep q3 (by simp;omega)
  replace q31:=(e9).keep q31 (by simp;omega)
  replace E:=E.trans' e9 (fun i hi hl=>by simp only [List.mem_cons,List.not_mem_nil,or_false] at hi ⊢;omega)
  replace ES:=ES.trans' e9 (fun i hi hl=>by simp only [List.mem_cons,List.not_mem_nil,or_false] at hi ⊢;omega)
  replace eT:=eT.trans' e9 (fun i hi hl=>by simp only [List.mem_cons,List.not_mem_nil,or_false] at hi ⊢;omega)
  refine ⟨fun _=>eT,?_⟩
  have hv1 : 0 ≤ v ∧ v ≤ 1:=by simp only [List.mem_cons,List.not_mem_nil,or_false] at hvm;omega
  refine F.x (i:=10) rfl (fun w'=>R_add rfl (F.at rfl) (F.at rfl) (by omega) (by omega)) (fun _=>eT) ?_;clear F fa;intro fa F
  refine F.x (i:=11) rfl (fun w'=>R_min rfl rfl (ev_c fa _) (F.at rfl)) (fun _=>eT) ?_;clear F fa;intro fa F
  refine ax_only (i:=12) (by kernel_rfl) (op_new F rfl rfl (by decide) rfl (R_buildSliceV rfl (prS (F.at rfl) pr0) Tryz.underlying25 (size:=1) (by kernel_rfl) (by decide) (by decide) Tryz.zeroValue3 (cells:=#[.int .i64 (min 9 ((((sumL x (val rl) bn).getD i 0) / rl.sum) + v))]) (by kernel_rfl)) ?_);clear F fa;intro fa w9 F hw
  obtain ⟨n35,hn⟩ : ∃ n,n = w8.heap.size:=⟨_,rfl⟩
  rw [← hn] at F
  have s35 : w8.heap.size ≤ n35:=Nat.le_of_eq hn.symm
  have l35_E : w.heap.size ≤ n35:=by rw [hn];exact E.size
  have l35_ES : wS.heap.size ≤ n35:=by rw [hn];exact ES.size
  have lT35 : w5.heap.size ≤ n35:=by rw [hn];exact eT.size
  have b35_HL:=Nat.lt_of_lt_of_eq (lots_lt HL) hn.symm
  have m35_3 : n3 < n35:=by rw [hn];exact blk_lt q3
  have o35_oo:=Lib.hid (own_ne_new oo hn)
  replace oo:=owns_alloc hw oo
  replace q3:=keep_alloc hw q3
  replace E:=ext_alloc E hw
  replace ES:=ext_alloc ES hw
  replace HL:=lots_alloc hw HL
  replace eT:=ext_alloc eT hw
  have q35:=new_block hw hn
  clear hw hn
  refine ⟨fun _=>eT,?_⟩
  have hzE:=ES.size
  refine ax_only (i:=13) (by kernel_rfl) (op_some F rfl rfl (by decide) rfl (append_run rfl (wS.heap.size) (e:=3) (size:=1) (bytes:=8) Tryz.underlying25 (by kernel_rfl) (by decide) (F.at rfl) oo (F.at rfl) q35 rfl (by simp [Value.oneCell']) (by omega) (by omega) (by omega)) ?_);clear F fa;rintro fa v' w10 F ⟨hown',hg⟩
  obtain ⟨va36,vc36,rfl⟩:=owns_slice hown'
  replace q3:=keep_type oo hg q3 (by decide)
  replace HL:=lots_append HL oo hg (by omega) (by decide)
  replace E:=ext_appendX E oo hg (by omega)
  replace ES:=ext_appendX ES oo hg (by omega)
  replace oo:=hown'
  clear hg
  refine ⟨gone (by kernel_rfl),?_⟩
  rw [ivs_snoc1] at oo
  have hx2 : (xs ++ [min 9 ((sumL x (val rl) bn).getD i 0 / rl.sum + v)]).length = i + 1:=by rw [List.length_append,hxl];rfl
  have hx3 : ∀ m ∈ xs ++ [min 9 ((sumL x (val rl) bn).getD i 0 / rl.sum + v)],0 ≤ m ∧ m ≤ 9:=by intro m hm;rcases List.mem_append.1 hm with hm | hm;(· exact hxb m hm);(· simp only [List.mem_cons,List.not_mem_nil,or_false] at hm;subst hm;omega)
  refine F.x (i:=14) rfl (fun w'=>R_assign rfl (F.at rfl)) (gone (by kernel_rfl)) ?_;clear F fa;intro fa F
  refine ax_done (by kernel_rfl) ?_ _
  clear eT q3_ E_ ES_
  refine hK8 _ _ ?_
  clear hK8
  refine wp_region_lit ?_
  refine F.mv ?_;clear F fa;intro fa F
  refine F.vl (R_add rfl (F.at rfl) (ev_c fa _) (by omega) (by omega)) ?_;clear F fa;intro fa F
  refine F.as ?_;clear F fa;intro fa F
  refine wpList_nil ?_
  replace HL : LotsOk w0 w10 b (k + 10 + (i + 1)) nv:=lots_mono HL (by omega)
  show _ ∧ _
  exact ⟨by omega,_,⟨_,_,_,rfl,E,ES,q3,HL,oo,hx2,hx3⟩,F.sub (.c 7 rfl (.c 8 rfl (.c 0 rfl (.c 3 rfl (.c 5 rfl (.c 6 rfl .n))))))⟩
 ·skip
  refine wp_exit ?_
  rw [show i = bn by omega] at F oo hxl
  refine hK4 _ _ ?_
  clear hK4
  refine wp_seq_k fun K10 hK10=>?_
  refine wp_seq_k fun K11 hK11=>?_
  refine wp_region_lit ?_
  refine F.mv ?_;clear F fa;intro fa F
  refine sq_call F rfl (by decide) rfl (R_callV rfl rfl Tryz.call37 (mpS (F.at rfl) (mpS (ev_c fa _) mp0))) (rare_any w0 _ b _ nv 4 HL (by omega) (by omega) (by omega)) fun e w11 hR=>?_
  obtain ⟨r,rfl,HL,e9⟩:=hR
  refine ⟨_,rfl,?_⟩;clear F fa;intro fa F
  replace oo:=owns_ext oo (e9) (by simp;omega)
  replace q3:=(e9).keep q3 (by simp;omega)
  replace E:=E.trans' e9 (fun i hi hl=>by simp only [List.mem_cons,List.not_mem_nil,or_false] at hi ⊢;omega)
  refine wpList_nil ?_
  refine hK11 _ _ ?_
  clear hK11
  refine cd_b F rfl (fun hc38=>?_) (fun hc38=>?_)
  ·skip
   refine wp_region_lit ?_
   refine F.mv ?_;clear F fa;intro fa F
   refine F.mv ?_;clear F fa;intro fa F
   refine F.vl (R_field rfl (F.at rfl) Tryz.underlying24 rfl (n:=0) (sz:=1) rfl (by kernel_rfl) (by decide)) ?_;clear F fa;intro fa F
   refine F.vl (R_load rfl (F.at rfl) Tryz.underlying3 rfl ((cells_of_block q3 0).trans (get0))) ?_;clear F fa;intro fa F
   refine F.vl (R_sub rfl (F.at rfl) (ev_c fa _) (by omega) (by omega)) ?_;clear F fa;intro fa F
   rw [hbn] at F
   refine sq_call F rfl (by decide) rfl (R_callV rfl rfl Tryz.call33 (mpS (F.at rfl) (mpS (F.at rfl) mp0))) (upto_any w0 _ b _ nv (((bn : Nat) : Int) - 1) HL (by omega) (by omega) (by omega)) fun e w12 hR=>?_
   obtain ⟨u,rfl,hu0,hu1,HL,e9⟩:=hR
   refine ⟨_,rfl,?_⟩;clear F fa;intro fa F
   replace oo:=owns_ext oo (e9) (by simp;omega)
   replace q3:=(e9).keep q3 (by simp;omega)
   replace E:=E.trans' e9 (fun i hi hl=>by simp only [List.mem_cons,List.not_mem_nil,or_false] at hi ⊢;omega)
   obtain ⟨u,rfl⟩:=Int.eq_ofNat_of_zero_le hu0
   refine F.mv ?_;clear F fa;intro fa F
   refine sq_call F rfl (by decide) rfl (R_callV rfl rfl Tryz.call33 (mpS (F.at rfl) (mpS (ev_c fa _) mp0))) (upto_any w0 _ b _ nv 9 HL (by omega) (by omega) (by omega)) fun e w13 hR=>?_
   obtain ⟨z,rfl,hz0,hz1,HL,e9⟩:=hR
   refine ⟨_,rfl,?_⟩;clear F fa;intro fa F
   replace oo:=owns_ext oo (e9) (by simp;omega)
   replace q3:=(e9).keep q3 (by simp;omega)
   replace E:=E.trans' e9 (fun i hi hl=>by simp only [List.mem_cons,List.not_mem_nil,or_false] at hi ⊢;omega)
   have EX : Ext [] w13 w13:=Ext.refl _ _
   have HS:=Lib.hid (slAt_of_ivs oo hxl.symm [] (by simp))
   have hil:=ivs_lenZ xs
   obtain ⟨xb12,xo12,xa12,xr12⟩:=HS.out u (by omega)
   refine F.vl (R_ixSlice (sz:=1) rfl ((F.at rfl).trans (xa12 _ _)) (F.at rfl) Tryz.underlying25 (by kernel_rfl) (by omega) (by omega)) ?_;clear F fa;intro fa F
   obtain ⟨⟨u0,hcu⟩,hfu,hst⟩:=owns_at oo xa12 (j:=u) (p:=xo12 + ((u : Nat) : Int).toNat * 1) (by first | omega | (simp;omega)) (by omega)
   refine sq_to rfl rfl (R_store rfl (F.at rfl) (F.at rfl) rfl (by kernel_rfl) hcu hfu) ?_;intro w14 hw
   obtain ⟨hown',hg⟩:=hst _ _ hw
   clear hst hcu hfu hw
   replace q3:=keep_type oo hg q3 (by decide)
   replace HL:=lots_append HL oo hg (by omega) (by decide)
   replace E:=ext_appendX E oo hg (by omega)
   replace oo:=hown'
   clear hg
   rw [ivs_setZ] at oo
   have hx2 : (xs.set u z).length = bn:=by rw [List.length_set];exact hxl
   have hx3 : ∀ m ∈ xs.set u z,0 ≤ m ∧ m ≤ 9:=by intro m hm;rcases List.mem_or_eq_of_mem_set hm with hm | rfl;(· exact hxb m hm);(· omega)
   refine wpList_nil ?_
   refine hK10 _ _ ?_
   clear hK10
   refine wp_seq_k fun K13 hK13=>?_
   refine wp_region_lit ?_
   refine F.mv ?_;clear F fa;intro fa F
   refine F.as ?_;clear F fa;intro fa F
   refine wpList_nil ?_
   refine hK13 _ _ ?_
   clear hK13
   refine wp_ret ?_
   (try simp only [Exit.inBlock,Exit.then,reduceIte])
   refine rt_v F (rs_1 F rfl rfl) ?_
   exact ⟨va,vc,xs.set u z,by rw [hx2],⟨by rw [hx2,hbn],hx3⟩,by rw [hx2];exact owns_lower oo hwS0,lots_mono HL (by omega),E⟩
  ·skip
   refine wp_skip ?_
   refine hK10 _ _ ?_
   clear hK10
   refine wp_seq_k fun K14 hK14=>?_
   refine wp_region_lit ?_
   refine F.mv ?_;clear F fa;intro fa F
   refine F.as ?_;clear F fa;intro fa F
   refine wpList_nil ?_
   refine hK14 _ _ ?_
   clear hK14
   refine wp_ret ?_
   (try simp only [Exit.inBlock,Exit.then,reduceIte])
   refine rt_v F (rs_1 F rfl rfl) ?_
   exact ⟨va,vc,xs,by rw [hxl],⟨by rw [hxl,hbn],hxb⟩,by rw [hxl];exact owns_lower oo hwS0,lots_mono HL (by omega),E⟩
end Go.Proofs.YtdjeecgddbjbeaaGreat
