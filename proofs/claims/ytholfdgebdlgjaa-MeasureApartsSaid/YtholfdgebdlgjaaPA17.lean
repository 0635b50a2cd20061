/- Parts of a proof: LApa, Fk, FrMeasureAparts, ClMeasureAparts. No conditions. -/
import Derived.Below
import Derived.ChangeOld
import Derived.ChangeSlices
import Derived.Conc.Holds
import Derived.Leaving
import Derived.OpenShut
import Derived.ProofKit
import Derived.ShutString
import Derived.WalkKit
import Derived.WideShapes
import Derived.Test.YtholfdgebdlgjaaPA1
import Derived.Test.YtholfdgebdlgjaaPA8
import Derived.Test.YtholfdgebdlgjaaPA16
set_option linter.unusedVariables false
set_option linter.unusedSimpArgs false
namespace Go.Proofs.Ytholfdgebdlgjaa
open Go.RowKit
set_option maxRecDepth 100000 in
set_option maxHeartbeats 1000000 in
theorem aparts_walk (t : Tp) (ga ra la : Option Addr) (gc rc lc : Nat) (x1 x2 x3 x4 : Int) (a5 : Option Addr) (len5 cap5 : Nat) (z5 : List Int) (w : World) (ht : IsTp w (.slice ga t.gr.length gc) (.slice ra t.rd.length rc) (.slice la t.lk.length lc) t) (h5 : IsRow .i64 w a5 len5 cap5 z5) :
  Calls Try.prog 16 #[tpV t (.slice ga t.gr.length gc) (.slice ra t.rd.length rc) (.slice la t.lk.length lc),.int .i64 x1,.int .i64 x2,.int .i64 x3,.int .i64 x4,.slice a5 len5 cap5] w fun e w'=>e = .returned (.bool true) ∧ Ext [] w w':=by
 have HN:=Lib.hid h5
 have HT:=Lib.hid ht
 clear h5 ht
 have E : Ext [] w w:=Ext.refl _ _
 unfold tpV
 refine calls_has 183 Try.func16 rfl Try.ntmps16 (Nat.le_of_ble_eq_true rfl) ?_
 intro fa F
 refine wp_seq_k fun K1 hK1=>?_
 refine wp_region_lit ?_
 refine sq_new F rfl (by decide) rfl (R_box rfl (F.at rfl)) ?_;clear F fa;intro fa w1 F hw
 obtain ⟨n6,hn⟩ : ∃ n,n = w.heap.size:=⟨_,rfl⟩
 rw [← hn] at F
 have s6 : w.heap.size ≤ n6:=Nat.le_of_eq hn.symm
 have l6_E : w.heap.size ≤ n6:=by rw [hn];exact E.size
 replace E:=ext_alloc E hw
 have q6:=new_row hw hn
 clear hw hn
 refine F.vl (R_assign rfl (ev_c fa _)) ?_;clear F fa;intro fa F
 refine wpList_nil ?_
 refine hK1 _ _ ?_
 clear hK1
 refine wp_seq_k fun K2 hK2=>?_
 refine wp_seq_k fun K3 hK3=>?_
 refine wp_region_lit ?_
 refine F.vl (R_loadBlk rfl (F.at rfl) Try.underlying28 rfl (by kernel_rfl) q6) ?_;clear F fa;intro fa F
 refine sq_call F rfl (by decide) rfl (R_callV rfl rfl Try.call24 (mpS (F.at rfl) mp0)) (long_any t ga ra la gc rc lc _) fun e w2 hR=>?_
 obtain ⟨rfl,e9⟩:=hR
 refine ⟨_,rfl,?_⟩;clear F fa;intro fa F
 replace q6:=(e9).keep0 q6
 replace E:=ext_same E (e9)
 clear e9
 refine wpList_nil ?_
 refine hK3 _ _ ?_
 clear hK3
 refine cd_b F rfl (fun hc31=>?_) (fun hc31=>?_)
 ·skip
  refine wp_seq_k fun K4 hK4=>?_
  refine wp_region_lit ?_
  refine sq_call F rfl (by decide) rfl (R_callV rfl rfl Try.call25 mp0) (taken_any _) fun e w3 hR=>?_
  obtain ⟨rfl,e9⟩:=hR
  refine ⟨_,rfl,?_⟩;clear F fa;intro fa F
  replace q6:=(e9).keep0 q6
  replace E:=ext_same E (e9)
  clear e9
  refine F.as ?_;clear F fa;intro fa F
  refine wpList_nil ?_
  refine hK4 _ _ ?_
  clear hK4
  refine wp_ret ?_
  (try simp only [Exit.inBlock,Exit.then])
  refine rt_v F (rs_1 F rfl rfl) ?_
  exact ⟨rfl,E⟩
 ·skip
  obtain ⟨hl1,hl2,hl3⟩:=longB_no (by simpa using hc31)
  refine wp_skip ?_
  refine hK2 _ _ ?_
  clear hK2
  refine wp_seq_k fun K5 hK5=>?_
  refine wp_region_lit ?_
  refine F.mv ?_;clear F fa;intro fa F
  obtain ⟨w0,hw0⟩ : ∃ w0,w0 = w2:=⟨_,rfl⟩
  have E0 : Ext [] w w0:=by rw [hw0];exact E
  have hzE:=E0.size
  have hzq : n6 < w0.heap.size:=by rw [hw0];exact blk_lt q6
  refine sq_call F rfl (by decide) rfl (R_callV rfl rfl Try.call27 (mpS (F.at rfl) mp0)) (newLots_any _ a5 len5 cap5 z5 (row_ext HN.out E)) fun e w4 hR=>?_
  obtain ⟨b,rfl,hb,hb2,HL,e1⟩:=hR
  refine ⟨_,rfl,?_⟩;clear F fa;intro fa F
  replace q6:=(e1).keep0 q6
  replace E:=ext_same E (e1)
  clear e1
  rw [← hw0] at HL hb
  refine F.as ?_;clear F fa;intro fa F
  refine wpList_nil ?_
  refine hK5 _ _ ?_
  clear hK5
  refine wp_seq_k fun K6 hK6=>?_
  refine wp_region_lit ?_
  refine F.vl (R_loadBlk rfl (F.at rfl) Try.underlying28 rfl (by kernel_rfl) q6) ?_;clear F fa;intro fa F
  refine F.mv ?_;clear F fa;intro fa F
  refine sq_call F rfl (by decide) rfl (R_callV rfl rfl Try.call26 (mpS (F.at rfl) (mpS (F.at rfl) mp0))) (several_any t ga ra la gc rc lc w0 _ b _ _ HL (by omega) (HT.out.ext E0 (by simp)) (by omega) (by omega) (by omega)) fun e w5 hR=>?_
  obtain ⟨sa,ts,rfl,h3,hTs,hSm,HL,e2⟩:=hR
  refine ⟨_,rfl,?_⟩;clear F fa;intro fa F
  replace q6:=(e2).keep q6 (by simp;omega)
  replace E:=E.trans' e2 (fun i hi hl=>by simp only [List.mem_cons,List.not_mem_nil,or_false] at hi ⊢;omega)
  have hT0:=hTs _ (Ext.refl _ _)
  have HS:=Lib.hid (slAt_of_rowsX hT0.rows (fun W e=>(hTs W e).rows) te0)
  have HA:=Lib.hid (show ∀ i,i < ts.length → ∀ W,Ext [b] w5 W → (tsI ts i).At W from fun i hi W e=>te_at (hTs W e) hi)
  have HM:=Lib.hid (show ∀ i,i < ts.length → (tsI ts i).Small from fun i hi=>hSm _ (getD_mem te0 hi))
  clear hT0 hTs hSm
  have EO : Ext [b] w5 w5:=Ext.refl _ _
  refine F.as ?_;clear F fa;intro fa F
  refine wpList_nil ?_
  refine hK6 _ _ ?_
  clear hK6
  refine wp_seq_k fun K7 hK7=>?_
  refine wp_seq_k fun K8 hK8=>?_
  refine wp_region_lit ?_
  refine F.vl (R_assign rfl (ev_c fa _)) ?_;clear F fa;intro fa F
  refine wpList_nil ?_
  refine hK8 _ _ ?_
  clear hK8
  refine wp_block ?_
  have F0:=F.sub (.c 1 rfl (.c 2 rfl (.c 3 rfl (.c 4 rfl (.c 13 rfl (.c 14 rfl .n))))))
  replace HL : LotsOk w0 w5 b (0 + 210 + 6 * 0) (.slice a5 len5 cap5):=lots_mono HL (by omega)
  refine lp_for F0 (ts.length) (fun i Lv W=>Lv = [(15,.int .i64 ((i : Nat) : Int))] ∧ Ext [] w W ∧ Ext [b] w5 W ∧ W.heap[n6]? = some (.cells #[.int .i64 t.S,.int .i64 t.A,.int .i64 t.T,.int .i64 t.bl,.int .i64 t.bm,.int .i64 t.pl,.int .i64 t.pm,.int .i64 t.sl,.slice ga t.gr.length gc,.slice ra t.rd.length rc,.slice la t.lk.length lc] 28 (0,0)) ∧ LotsOk w0 W b (0 + 210 + 6 * i) (.slice a5 len5 cap5)) ⟨_,⟨rfl,E,EO,q6,HL⟩,F.sub (.c 15 rfl (.c 1 rfl (.c 2 rfl (.c 3 rfl (.c 4 rfl (.c 13 rfl (.c 14 rfl .n)))))))⟩ ?_
  clear F F0
  clear E EO q6 HL
  rintro i _ fa w6 hi1 ⟨rfl,E,EO,q6,HL⟩ F
  refine wp_seq_k fun K9 hK9=>?_
  refine wp_seq_k fun K10 hK10=>?_
  refine wp_region_lit ?_
  refine F.mv ?_;clear F fa;intro fa F
  refine F.mv ?_;clear F fa;intro fa F
  refine F.vl (R_len rfl rfl (F.at rfl) Try.underlying32) ?_;clear F fa;intro fa F
  refine F.vl (R_lss rfl (F.at rfl) (F.at rfl)) ?_;clear F fa;intro fa F
  refine wpList_nil ?_
  refine hK10 _ _ ?_
  clear hK10
  refine cd_if F rfl (fun hc41=>?_) (fun hc41=>?_)
  ·skip
   refine wp_skip ?_
   refine hK9 _ _ ?_
   clear hK9
   refine wp_seq_k fun K11 hK11=>?_
   refine wp_block ?_
   refine wp_seq_k fun K12 hK12=>?_
   obtain ⟨m1,m2,m3⟩:=HM.out i (by omega)
   refine wp_region_lit ?_
   refine F.mv ?_;clear F fa;intro fa F
   refine F.mv ?_;clear F fa;intro fa F
   obtain ⟨xb13,xo13,xa13,xr13⟩:=HS.out i (by omega)
   refine F.vl (R_ixSlice (sz:=11) rfl ((F.at rfl).trans (xa13 _ _)) (F.at rfl) Try.underlying32 (by kernel_rfl) (by omega) (by omega)) ?_;clear F fa;intro fa F
   refine F.vl (R_loadRow rfl (F.at rfl) Try.underlying28 rfl (by kernel_rfl) (xr13 _ EO)) ?_;clear F fa;intro fa F
   have hbB:=lots_lt HL
   refine sq_call F rfl (by decide) rfl (R_callV rfl rfl Try.call28 (mpS (F.at rfl) mp0)) (copyTapes_any (tsI ts i).t (tsI ts i).ga (tsI ts i).ra (tsI ts i).la (tsI ts i).gc (tsI ts i).rc (tsI ts i).lc _ (HA.out i (by omega) _ EO) m1 m2 m3) fun e w7 hR=>?_
   obtain ⟨gx,rx,lx,rfl,⟨ogx,orx,olx⟩,eX⟩:=hR
   refine ⟨_,rfl,?_⟩;clear F fa;intro fa F
   replace q6:=(eX).keep0 q6
   replace E:=ext_same E (eX)
   replace EO:=ext_same EO (eX)
   replace HL:=lots_ext (eX) HL
   have HX:=Lib.hid (show ∀ W,Ext [b] w7 W → IsTp W gx rx lx (tsI ts i).t from fun W hW=>tp_of_owns (owns_ext ogx hW (by simp;omega)) (owns_ext orx hW (by simp;omega)) (owns_ext olx hW (by simp;omega)))
   clear hbB
   obtain ⟨gxa,gxc,rfl⟩:=owns_slice ogx
   obtain ⟨rxa,rxc,rfl⟩:=owns_slice orx
   obtain ⟨lxa,lxc,rfl⟩:=owns_slice olx
   clear ogx orx olx eX
   have EX : Ext [b] w7 w7:=Ext.refl _ _
   refine sq_new F rfl (by decide) rfl (R_alloc rfl Try.zeroValue28) ?_;clear F fa;intro fa w8 F hw
   obtain ⟨n16,hn⟩ : ∃ n,n = w7.heap.size:=⟨_,rfl⟩
   rw [← hn] at F
   have s16 : w7.heap.size ≤ n16:=Nat.le_of_eq hn.symm
   have l16_E : w.heap.size ≤ n16:=by rw [hn];exact E.size
   have l16_EO : w5.heap.size ≤ n16:=by rw [hn];exact EO.size
   have l16_EX : w7.heap.size ≤ n16:=by rw [hn];exact EX.size
   have b16_HL:=Nat.lt_of_lt_of_eq (lots_lt HL) hn.symm
   have m16_6 : n6 < n16:=by rw [hn];exact blk_lt q6
   replace q6:=keep_alloc hw q6
   replace E:=ext_alloc E hw
   replace EO:=ext_alloc EO hw
   replace EX:=ext_alloc EX hw
   replace HL:=lots_alloc hw HL
   have q16:=new_row hw hn
   clear hw hn
   refine sq_to rfl rfl (R_storeRow rfl (F.at rfl) (F.at rfl) (by kernel_rfl) (by first | (simp [Value.oneCell'];done) | (simp [Value.oneCell',grRow,rdRow,lkRow];done)) q16 rfl) ?_;intro w9 hw
   replace q6:=keep_cells hw q6 (by omega)
   replace q16:=put_row hw q16 rfl
   replace E:=ext_cells E hw (fun h=>by first | exact absurd h (by omega) | simp)
   replace EO:=ext_cells EO hw (fun h=>by first | exact absurd h (by omega) | simp)
   replace EX:=ext_cells EX hw (fun h=>by first | exact absurd h (by omega) | simp)
   replace HL:=lots_cells hw HL (by omega) (by omega)
   clear hw
   refine wpList_nil ?_
   refine hK12 _ _ ?_
   clear hK12
   refine wp_seq_k fun K14 hK14=>?_
   refine wp_region_lit ?_
   refine F.mv ?_;clear F fa;intro fa F
   refine F.mv ?_;clear F fa;intro fa F
   refine sq_call F rfl (by decide) rfl (R_callV rfl rfl Try.call51 (mpS (F.at rfl) (mpS (ev_c fa _) mp0))) (upto_any w0 _ b _ _ 2 HL (by omega) (by omega) (by omega)) fun e w10 hR=>?_
   obtain ⟨p1,rfl,hp1,gp1,HL,e1⟩:=hR
   refine ⟨_,rfl,?_⟩;clear F fa;intro fa F
   replace q6:=(e1).keep q6 (by simp;omega)
   replace q16:=(e1).keep q16 (by simp;omega)
   replace E:=E.trans' e1 (fun i hi hl=>by simp only [List.mem_cons,List.not_mem_nil,or_false] at hi ⊢;omega)
   replace EO:=EO.trans' e1 (fun i hi hl=>by simp only [List.mem_cons,List.not_mem_nil,or_false] at hi ⊢;omega)
   replace EX:=EX.trans' e1 (fun i hi hl=>by simp only [List.mem_cons,List.not_mem_nil,or_false] at hi ⊢;omega)
   refine sq_new F rfl (by decide) rfl (R_buildSliceV rfl (prS (F.at rfl) (prS (ev_c fa _) (prS (ev_c fa _) (prS (F.at rfl) pr0)))) Try.underlying29 (size:=1) (by kernel_rfl) (by decide) (by decide) Try.zeroValue3 (cells:=#[.int .i64 x1,.int .i64 0,.int .i64 1,.int .i64 p1]) (by kernel_rfl)) ?_;clear F fa;intro fa w11 F hw
   obtain ⟨n52,hn⟩ : ∃ n,n = w10.heap.size:=⟨_,rfl⟩
   rw [← hn] at F
   have s52 : w10.heap.size ≤ n52:=Nat.le_of_eq hn.symm
   have l52_E : w.heap.size ≤ n52:=by rw [hn];exact E.size
   have l52_EO : w5.heap.size ≤ n52:=by rw [hn];exact EO.size
   have l52_EX : w7.heap.size ≤ n52:=by rw [hn];exact EX.size
   have b52_HL:=Nat.lt_of_lt_of_eq (lots_lt HL) hn.symm
   have m52_6 : n6 < n52:=by rw [hn];exact blk_lt q6
   have m52_16 : n16 < n52:=by rw [hn];exact blk_lt q16
   replace q6:=keep_alloc hw q6
   replace q16:=keep_alloc hw q16
   replace E:=ext_alloc E hw
   replace EO:=ext_alloc EO hw
   replace EX:=ext_alloc EX hw
   replace HL:=lots_alloc hw HL
   have q52:=new_block hw hn
   clear hw hn
   refine F.mv ?_;clear F fa;intro fa F
   refine F.mv ?_;clear F fa;intro fa F
   refine sq_call F rfl (by decide) rfl (R_callV rfl rfl Try.call51 (mpS (F.at rfl) (mpS (ev_c fa _) mp0))) (upto_any w0 _ b _ _ 1 HL (by omega) (by omega) (by omega)) fun e w12 hR=>?_
   obtain ⟨p2,rfl,hp2,gp2,HL,e1⟩:=hR
   refine ⟨_,rfl,?_⟩;clear F fa;intro fa F
   replace q6:=(e1).keep q6 (by simp;omega)
   replace q16:=(e1).keep q16 (by simp;omega)
   replace q52:=(e1).keep q52 (by simp;omega)
   replace E:=E.trans' e1 (fun i hi hl=>by simp only [List.mem_cons,List.not_mem_nil,or_false] at hi ⊢;omega)
   replace EO:=EO.trans' e1 (fun i hi hl=>by simp only [List.mem_cons,List.not_mem_nil,or_false] at hi ⊢;omega)
   replace EX:=EX.trans' e1 (fun i hi hl=>by simp only [List.mem_cons,List.not_mem_nil,or_false] at hi ⊢;omega)
   refine F.mv ?_;clear F fa;intro fa F
   refine sq_call F rfl (by decide) rfl (R_callV rfl rfl Try.call51 (mpS (F.at rfl) (mpS (ev_c fa _) mp0))) (upto_any w0 _ b _ _ 2 HL (by omega) (by omega) (by omega)) fun e w13 hR=>?_
   obtain ⟨p3,rfl,hp3,gp3,HL,e1⟩:=hR
   refine ⟨_,rfl,?_⟩;clear F fa;intro fa F
   replace q6:=(e1).keep q6 (by simp;omega)
   replace q16:=(e1).keep q16 (by simp;omega)
   replace q52:=(e1).keep q52 (by simp;omega)
   replace E:=E.trans' e1 (fun i hi hl=>by simp only [List.mem_cons,List.not_mem_nil,or_false] at hi ⊢;omega)
   replace EO:=EO.trans' e1 (fun i hi hl=>by simp only [List.mem_cons,List.not_mem_nil,or_false] at hi ⊢;omega)
   replace EX:=EX.trans' e1 (fun i hi hl=>by simp only [List.mem_cons,List.not_mem_nil,or_false] at hi ⊢;omega)
   refine sq_new F rfl (by decide) rfl (R_buildSliceV rfl (prS (F.at rfl) (prS (ev_c fa _) (prS (F.at rfl) (prS (F.at rfl) pr0)))) Try.underlying29 (size:=1) (by kernel_rfl) (by decide) (by decide) Try.zeroValue3 (cells:=#[.int .i64 x2,.int .i64 0,.int .i64 p2,.int .i64 p3]) (by kernel_rfl)) ?_;clear F fa;intro fa w14 F hw
   obtain ⟨n58,hn⟩ : ∃ n,n = w13.heap.size:=⟨_,rfl⟩
   rw [← hn] at F
   have s58 : w13.heap.size ≤ n58:=Nat.le_of_eq hn.symm
   have l58_E : w.heap.size ≤ n58:=by rw [hn];exact E.size
   have l58_EO : w5.heap.size ≤ n58:=by rw [hn];exact EO.size
   have l58_EX : w7.heap.size ≤ n58:=by rw [hn];exact EX.size
   have b58_HL:=Nat.lt_of_lt_of_eq (lots_lt HL) hn.symm
   have m58_6 : n6 < n58:=by rw [hn];exact blk_lt q6
   have m58_16 : n16 < n58:=by rw [hn];exact blk_lt q16
   have m58_52 : n52 < n58:=by rw [hn];exact blk_lt q52
   replace q6:=keep_alloc hw q6
   replace q16:=keep_alloc hw q16
   replace q52:=keep_alloc hw q52
   replace E:=ext_alloc E hw
   replace EO:=ext_alloc EO hw
   replace EX:=ext_alloc EX hw
   replace HL:=lots_alloc hw HL
   have q58:=new_block hw hn
   clear hw hn
   refine F.mv ?_;clear F fa;intro fa F
   refine F.mv ?_;clear F fa;intro fa F
   refine sq_call F rfl (by decide) rfl (R_callV rfl rfl Try.call51 (mpS (F.at rfl) (mpS (ev_c fa _) mp0))) (upto_any w0 _ b _ _ 2 HL (by omega) (by omega) (by omega)) fun e w15 hR=>?_
   obtain ⟨p4,rfl,hp4,gp4,HL,e1⟩:=hR
   refine ⟨_,rfl,?_⟩;clear F fa;intro fa F
   replace q6:=(e1).keep q6 (by simp;omega)
   replace q16:=(e1).keep q16 (by simp;omega)
   replace q52:=(e1).keep q52 (by simp;omega)
   replace q58:=(e1).keep q58 (by simp;omega)
   replace E:=E.trans' e1 (fun i hi hl=>by simp only [List.mem_cons,List.not_mem_nil,or_false] at hi ⊢;omega)
   replace EO:=EO.trans' e1 (fun i hi hl=>by simp only [List.mem_cons,List.not_mem_nil,or_false] at hi ⊢;omega)
   replace EX:=EX.trans' e1 (fun i hi hl=>by simp only [List.mem_cons,List.not_mem_nil,or_false] at hi ⊢;omega)
   refine sq_new F rfl (by decide) rfl (R_buildSliceV rfl (prS (F.at rfl) (prS (ev_c fa _) (prS (ev_c fa _) (prS (F.at rfl) pr0)))) Try.underlying29 (size:=1) (by kernel_rfl) (by decide) (by decide) Try.zeroValue3 (cells:=#[.int .i64 x3,.int .i64 1,.int .i64 0,.int .i64 p4]) (by kernel_rfl)) ?_;clear F fa;intro fa w16 F hw
   obtain ⟨n62,hn⟩ : ∃ n,n = w15.heap.size:=⟨_,rfl⟩
   rw [← hn] at F
   have s62 : w15.heap.size ≤ n62:=Nat.le_of_eq hn.symm
   have l62_E : w.heap.size ≤ n62:=by rw [hn];exact E.size
   have l62_EO : w5.heap.size ≤ n62:=by rw [hn];exact EO.size
   have l62_EX : w7.heap.size ≤ n62:=by rw [hn];exact EX.size
   have b62_HL:=Nat.lt_of_lt_of_eq (lots_lt HL) hn.symm
   have m62_6 : n6 < n62:=by rw [hn];exact blk_lt q6
   have m62_16 : n16 < n62:=by rw [hn];exact blk_lt q16
   have m62_52 : n52 < n62:=by rw [hn];exact blk_lt q52
   have m62_58 : n58 < n62:=by rw [hn];exact blk_lt q58
   replace q6:=keep_alloc hw q6
   replace q16:=keep_alloc hw q16
   replace q52:=keep_alloc hw q52
   replace q58:=keep_alloc hw q58
   replace E:=ext_alloc E hw
   replace EO:=ext_alloc EO hw
   replace EX:=ext_alloc EX hw
   replace HL:=lots_alloc hw HL
   have q62:=new_block hw hn
   clear hw hn
   refine F.mv ?_;clear F fa;intro fa F
   refine F.mv ?_;clear F fa;intro fa F
   refine sq_call F rfl (by decide) rfl (R_callV rfl rfl Try.call51 (mpS (F.at rfl) (mpS (ev_c fa _) mp0))) (upto_any w0 _ b _ _ 1 HL (by omega) (by omega) (by omega)) fun e w17 hR=>?_
   obtain ⟨p5,rfl,hp5,gp5,HL,e1⟩:=hR
   refine ⟨_,rfl,?_⟩;clear F fa;intro fa F
   replace q6:=(e1).keep q6 (by simp;omega)
   replace q16:=(e1).keep q16 (by simp;omega)
   replace q52:=(e1).keep q52 (by simp;omega)
   replace q58:=(e1).keep q58 (by simp;omega)
   replace q62:=(e1).keep q62 (by simp;omega)
   replace E:=E.trans' e1 (fun i hi hl=>by simp only [List.mem_cons,List.not_mem_nil,or_false] at hi ⊢;omega)
   replace EO:=EO.trans' e1 (fun i hi hl=>by simp only [List.mem_cons,List.not_mem_nil,or_false] at hi ⊢;omega)
   replace EX:=EX.trans' e1 (fun i hi hl=>by simp only [List.mem_cons,List.not_mem_nil,or_false] at hi ⊢;omega)
   refine F.mv ?_;clear F fa;intro fa F
   refine sq_call F rfl (by decide) rfl (R_callV rfl rfl Try.call51 (mpS (F.at rfl) (mpS (ev_c fa _) mp0))) (upto_any w0 _ b _ _ 2 HL (by omega) (by omega) (by omega)) fun e w18 hR=>?_
   obtain ⟨p6,rfl,hp6,gp6,HL,e1⟩:=hR
   refine ⟨_,rfl,?_⟩;clear F fa;intro fa F
   replace q6:=(e1).keep q6 (by simp;omega)
   replace q16:=(e1).keep q16 (by simp;omega)
   replace q52:=(e1).keep q52 (by simp;omega)
   replace q58:=(e1).keep q58 (by simp;omega)
   replace q62:=(e1).keep q62 (by simp;omega)
   replace E:=E.trans' e1 (fun i hi hl=>by simp only [List.mem_cons,List.not_mem_nil,or_false] at hi ⊢;omega)
   replace EO:=EO.trans' e1 (fun i hi hl=>by simp only [List.mem_cons,List.not_mem_nil,or_false] at hi ⊢;omega)
   replace EX:=EX.trans' e1 (fun i hi hl=>by simp only [List.mem_cons,List.not_mem_nil,or_false] at hi ⊢;omega)
   refine sq_new F rfl (by decide) rfl (R_buildSliceV rfl (prS (F.at rfl) (prS (ev_c fa _) (prS (F.at rfl) (prS (F.at rfl) pr0)))) Try.underlying29 (size:=1) (by kernel_rfl) (by decide) (by decide) Try.zeroValue3 (cells:=#[.int .i64 x4,.int .i64 0,.int .i64 p5,.int .i64 p6]) (by kernel_rfl)) ?_;clear F fa;intro fa w19 F hw
   obtain ⟨n68,hn⟩ : ∃ n,n = w18.heap.size:=⟨_,rfl⟩
   rw [← hn] at F
   have s68 : w18.heap.size ≤ n68:=Nat.le_of_eq hn.symm
   have l68_E : w.heap.size ≤ n68:=by rw [hn];exact E.size
   have l68_EO : w5.heap.size ≤ n68:=by rw [hn];exact EO.size
   have l68_EX : w7.heap.size ≤ n68:=by rw [hn];exact EX.size
   have b68_HL:=Nat.lt_of_lt_of_eq (lots_lt HL) hn.symm
   have m68_6 : n6 < n68:=by rw [hn];exact blk_lt q6
   have m68_16 : n16 < n68:=by rw [hn];exact blk_lt q16
   have m68_52 : n52 < n68:=by rw [hn];exact blk_lt q52
   have m68_58 : n58 < n68:=by rw [hn];exact blk_lt q58
   have m68_62 : n62 < n68:=by rw [hn];exact blk_lt q62
   replace q6:=keep_alloc hw q6
   replace q16:=keep_alloc hw q16
   replace q52:=keep_alloc hw q52
   replace q58:=keep_alloc hw q58
   replace q62:=keep_alloc hw q62
   replace E:=ext_alloc E hw
   replace EO:=ext_alloc EO hw
   replace EX:=ext_alloc EX hw
   replace HL:=lots_alloc hw HL
   have q68:=new_block hw hn
   clear hw hn
   refine F.as ?_;clear F fa;intro fa F
   refine F.as ?_;clear F fa;intro fa F
   refine F.as ?_;clear F fa;intro fa F
   refine F.as ?_;clear F fa;intro fa F
   refine wpList_nil ?_
   have HS1:=Lib.hid (show SlAt [] w19 (some ⟨n52,0,none⟩) 1 4 (fun i=>intRow ([x1,0,1,p1].getD i 0)) from slAt_of_rows (rows_lit [x1,0,1,p1] 4 q52) 0)
   have HS2:=Lib.hid (show SlAt [] w19 (some ⟨n58,0,none⟩) 1 4 (fun i=>intRow ([x2,0,p2,p3].getD i 0)) from slAt_of_rows (rows_lit [x2,0,p2,p3] 4 q58) 0)
   have HS3:=Lib.hid (show SlAt [] w19 (some ⟨n62,0,none⟩) 1 4 (fun i=>intRow ([x3,1,0,p4].getD i 0)) from slAt_of_rows (rows_lit [x3,1,0,p4] 4 q62) 0)
   have HS4:=Lib.hid (show SlAt [] w19 (some ⟨n68,0,none⟩) 1 4 (fun i=>intRow ([x4,0,p5,p6].getD i 0)) from slAt_of_rows (rows_lit [x4,0,p5,p6] 4 q68) 0)
   replace HL : LotsOk w0 w19 b (0 + 210 + 6 * i + 6) (.slice a5 len5 cap5):=lots_mono HL (by omega)
   have EL : Ext [] w19 w19:=Ext.refl _ _
   obtain ⟨nn,hnn⟩:=node_n (tsI ts i).t
   refine hK14 _ _ ?_
   clear hK14
   refine wp_seq_k fun K15 hK15=>?_
   refine wp_seq_k fun K16 hK16=>?_
   refine wp_region_lit ?_
   refine F.vl (R_assign rfl (ev_c fa _)) ?_;clear F fa;intro fa F
   refine wpList_nil ?_
   refine hK16 _ _ ?_
   clear hK16
   refine wp_block ?_
   have F0:=F.sub (.c 1 rfl (.c 2 rfl (.c 3 rfl (.c 4 rfl (.c 13 rfl (.c 14 rfl (.c 15 rfl (.c 16 rfl (.c 17 rfl (.c 18 rfl (.c 19 rfl (.c 20 rfl .n))))))))))))
   refine lp_for F0 (4) (fun k Lv W=>Lv = [(21,.int .i64 ((k : Nat) : Int))] ∧ Ext [] w19 W) ⟨_,⟨rfl,Ext.refl _ _⟩,F.sub (.c 21 rfl (.c 1 rfl (.c 2 rfl (.c 3 rfl (.c 4 rfl (.c 13 rfl (.c 14 rfl (.c 15 rfl (.c 16 rfl (.c 17 rfl (.c 18 rfl (.c 19 rfl (.c 20 rfl .n)))))))))))))⟩ ?_
   clear F F0
   rintro k _ fa w20 hi2 ⟨rfl,EL2⟩ F
   have q6:=EL2.keep0 q6
   have q16:=EL2.keep0 q16
   have q52:=EL2.keep0 q52
   have q58:=EL2.keep0 q58
   have q62:=EL2.keep0 q62
   have q68:=EL2.keep0 q68
   have E:=E.nil EL2
   have EO:=EO.nil EL2
   have EX:=EX.nil EL2
   have EL:=EL.nil EL2
   have HL:=lots_ext EL2 HL
   refine wp_seq_k fun K17 hK17=>?_
   refine wp_seq_k fun K18 hK18=>?_
   refine wp_region_lit ?_
   refine F.mv ?_;clear F fa;intro fa F
   refine F.mv ?_;clear F fa;intro fa F
   refine F.vl (R_len rfl rfl (F.at rfl) Try.underlying29) ?_;clear F fa;intro fa F
   refine F.vl (R_lss rfl (F.at rfl) (F.at rfl)) ?_;clear F fa;intro fa F
   refine wpList_nil ?_
   refine hK18 _ _ ?_
   clear hK18
   refine cd_if F rfl (fun hc72=>?_) (fun hc72=>?_)
   ·skip
    refine wp_skip ?_
    refine hK17 _ _ ?_
    clear hK17
    refine wp_seq_k fun K19 hK19=>?_
    refine wp_block ?_
    refine wp_seq_k fun K20 hK20=>?_
    suffices hcut : ∀ (n22 : Nat) (fa : Act) (w28 : World),Has 183 fa [(1,.int .i64 x1),(2,.int .i64 x2),(3,.int .i64 x3),(4,.int .i64 x4),(13,.pointer (some ⟨b,0,none⟩)),(14,.slice sa ts.length ts.length),(15,.int .i64 ((i : Nat) : Int)),(16,.pointer (some ⟨n16,0,none⟩)),(17,.slice (some ⟨n52,0,none⟩) 4 4),(18,.slice (some ⟨n58,0,none⟩) 4 4),(19,.slice (some ⟨n62,0,none⟩) 4 4),(20,.slice (some ⟨n68,0,none⟩) 4 4),(21,.int .i64 ((k : Nat) : Int)),(22,.pointer (some ⟨n22,0,none⟩)),(23,.int .i64 (apartE (tsI ts i).t ([x1,0,1,p1].getD k 0) ([x2,0,p2,p3].getD k 0) ([x3,1,0,p4].getD k 0) ([x4,0,p5,p6].getD k 0)))] → w28.heap[n16]? = some (.cells #[.int .i64 ((tsI ts i).t.S),.int .i64 ((tsI ts i).t.A),.int .i64 ((tsI ts i).t.T),.int .i64 ((tsI ts i).t.bl),.int .i64 ((tsI ts i).t.bm),.int .i64 ((tsI ts i).t.pl),.int .i64 ((tsI ts i).t.pm),.int .i64 ((tsI ts i).t.sl),.slice gxa ((tsI ts i).t.gr.length) gxc,.slice rxa ((tsI ts i).t.rd.length) rxc,.slice lxa ((tsI ts i).t.lk.length) lxc] 28 (0,0)) → w28.heap[n52]? = some (.cells #[.int .i64 x1,.int .i64 0,.int .i64 1,.int .i64 p1] 3 (0,0)) → w28.heap[n58]? = some (.cells #[.int .i64 x2,.int .i64 0,.int .i64 p2,.int .i64 p3] 3 (0,0)) → w28.heap[n62]? = some (.cells #[.int .i64 x3,.int .i64 1,.int .i64 0,.int .i64 p4] 3 (0,0)) → w28.heap[n68]? = some (.cells #[.int .i64 x4,.int .i64 0,.int .i64 p5,.int .i64 p6] 3 (0,0)) → w28.heap[n22]? = some (.cells #[.int .i64 ((apartV (tsI ts i).t ([x1,0,1,p1].getD k 0) ([x2,0,p2,p3].getD k 0) ([x3,1,0,p4].getD k 0) ([x4,0,p5,p6].getD k 0)).1),.int .i64 ((apartV (tsI ts i).t ([x1,0,1,p1].getD k 0) ([x2,0,p2,p3].getD k 0) ([x3,1,0,p4].getD k 0) ([x4,0,p5,p6].getD k 0)).2)] 23 (0,0)) → Ext [] w w28 → Ext [b] w5 w28 → Ext [b] w7 w28 → Ext [] w19 w28 → Ext [] w19 w28 → w.heap.size ≤ n22 → w5.heap.size ≤ n22 → w7.heap.size ≤ n22 → w19.heap.size ≤ n22 → w19.heap.size ≤ n22 → n16 ≠ n22 → n52 ≠ n22 → n58 ≠ n22 → n62 ≠ n22 → n68 ≠ n22 → LotsOk w0 w28 b (0 + 210 + 6 * i + 6) (.slice a5 len5 cap5) → b ≠ n22 → K20 fa w28 by
     refine region_x (Ext [] w20) none follows fun w21 hh eh=>?_
     have q6_:=q6
     replace q6:=keep_same hh q6
     have q16_:=q16
     replace q16:=keep_same hh q16
     have q52_:=q52
     replace q52:=keep_same hh q52
     have q58_:=q58
     replace q58:=keep_same hh q58
     have q62_:=q62
     replace q62:=keep_same hh q62
     have q68_:=q68
     replace q68:=keep_same hh q68
     have E_:=E
     have zEw21:=E.size
     replace E:=ext_same E eh
     have EO_:=EO
     have zEOw21:=EO.size
     replace EO:=ext_same EO eh
     have EX_:=EX
     have zEXw21:=EX.size
     replace EX:=ext_same EX eh
     have EL_:=EL
     have zELw21:=EL.size
     replace EL:=ext_same EL eh
     have EL2_:=EL2
     have zEL2w21:=EL2.size
     replace EL2:=ext_same EL2 eh
     have zbw21:=lots_lt HL
     replace HL:=lots_ext eh HL
     have eT:=eh
     clear hh eh
     refine F.xr (i:=0) rfl (fun w' hS=>R_loadBlk rfl (F.at rfl) Try.underlying28 rfl (by kernel_rfl) (hS.keep q16_ (by simp))) (fun _=>eT) ?_;clear F fa;intro fa F
     refine F.x (i:=1) rfl (fun w'=>R_move rfl (F.at rfl)) (fun _=>eT) ?_;clear F fa;intro fa F
     refine F.x (i:=2) rfl (fun w'=>R_move rfl (F.at rfl)) (fun _=>eT) ?_;clear F fa;intro fa F
     obtain ⟨xb21,xo21,xa21,xr21⟩:=HS1.out k (by omega)
     refine F.x (i:=3) rfl (fun w'=>R_ixSlice (sz:=1) rfl ((F.at rfl).trans (xa21 _ _)) (F.at rfl) Try.underlying29 (by kernel_rfl) (by omega) (by omega)) (fun _=>eT) ?_;clear F fa;intro fa F
     refine F.xr (i:=4) rfl (fun w' hS=>R_load rfl (F.at rfl) Try.underlying3 rfl (xr21 _ (EL_.nil hS) 0 _ rfl)) (fun _=>eT) ?_;clear F fa;intro fa F
     refine F.x (i:=5) rfl (fun w'=>R_move rfl (F.at rfl)) (fun _=>eT) ?_;clear F fa;intro fa F
     refine F.x (i:=6) rfl (fun w'=>R_move rfl (F.at rfl)) (fun _=>eT) ?_;clear F fa;intro fa F
     obtain ⟨xb22,xo22,xa22,xr22⟩:=HS2.out k (by omega)
     refine F.x (i:=7) rfl (fun w'=>R_ixSlice (sz:=1) rfl ((F.at rfl).trans (xa22 _ _)) (F.at rfl) Try.underlying29 (by kernel_rfl) (by omega) (by omega)) (fun _=>eT) ?_;clear F fa;intro fa F
     refine F.xr (i:=8) rfl (fun w' hS=>R_load rfl (F.at rfl) Try.underlying3 rfl (xr22 _ (EL_.nil hS) 0 _ rfl)) (fun _=>eT) ?_;clear F fa;intro fa F
     refine F.x (i:=9) rfl (fun w'=>R_move rfl (F.at rfl)) (fun _=>eT) ?_;clear F fa;intro fa F
     refine F.x (i:=10) rfl (fun w'=>R_move rfl (F.at rfl)) (fun _=>eT) ?_;clear F fa;intro fa F
     obtain ⟨xb23,xo23,xa23,xr23⟩:=HS3.out k (by omega)
     refine F.x (i:=11) rfl (fun w'=>R_ixSlice (sz:=1) rfl ((F.at rfl).trans (xa23 _ _)) (F.at rfl) Try.underlying29 (by kernel_rfl) (by omega) (by omega)) (fun _=>eT) ?_;clear F fa;intro fa F
     refine F.xr (i:=12) rfl (fun w' hS=>R_load rfl (F.at rfl) Try.underlying3 rfl (xr23 _ (EL_.nil hS) 0 _ rfl)) (fun _=>eT) ?_;clear F fa;intro fa F
     refine F.x (i:=13) rfl (fun w'=>R_move rfl (F.at rfl)) (fun _=>eT) ?_;clear F fa;intro fa F
     refine F.x (i:=14) rfl (fun w'=>R_move rfl (F.at rfl)) (fun _=>eT) ?_;clear F fa;intro fa F
     obtain ⟨xb24,xo24,xa24,xr24⟩:=HS4.out k (by omega)
     refine F.x (i:=15) rfl (fun w'=>R_ixSlice (sz:=1) rfl ((F.at rfl).trans (xa24 _ _)) (F.at rfl) Try.underlying29 (by kernel_rfl) (by omega) (by omega)) (fun _=>eT) ?_;clear F fa;intro fa F
     refine F.xr (i:=16) rfl (fun w' hS=>R_load rfl (F.at rfl) Try.underlying3 rfl (xr24 _ (EL_.nil hS) 0 _ rfl)) (fun _=>eT) ?_;clear F fa;intro fa F
     refine ax_pair (i:=17) (j:=21) (by kernel_rfl) ?_ ?_
     ·skip
      refine (op_call F rfl rfl (by decide) rfl (R_callV rfl rfl Try.call43 (mpS (F.at rfl) (mpS (F.at rfl) (mpS (F.at rfl) (mpS (F.at rfl) (mpS (F.at rfl) mp0)))))) (apart_all (tsI ts i).t _ _ _ _ _ _ _ _ (HX.out _ EX) m1 m2 m3) fun e w22 hR=>?_)
      obtain ⟨rfl,e9⟩:=hR
      refine ⟨_,rfl,?_⟩;clear F fa;intro fa F
      replace q6:=(e9).keep0 q6
      replace q16:=(e9).keep0 q16
      replace q52:=(e9).keep0 q52
      replace q58:=(e9).keep0 q58
      replace q62:=(e9).keep0 q62
      replace q68:=(e9).keep0 q68
      replace E:=ext_same E (e9)
      replace EO:=ext_same EO (e9)
      replace EX:=ext_same EX (e9)
      replace EL:=ext_same EL (e9)
      replace EL2:=ext_same EL2 (e9)
      replace HL:=lots_ext (e9) HL
      replace eT:=ext_same eT (e9)
      clear e9
      refine ⟨fun _=>eT,?_⟩
      refine F.x (i:=18) rfl (fun w'=>R_move rfl (F.at rfl)) (fun _=>eT) ?_;clear F fa;intro fa F
      refine F.x (i:=19) rfl (fun w'=>R_extract rfl (F.at rfl) (get0)) (fun _=>eT) ?_;clear F fa;intro fa F
      refine F.x (i:=20) rfl (fun w'=>R_extract rfl (F.at rfl) (getS (get0))) (fun _=>eT) ?_;clear F fa;intro fa F
      refine ax_only (i:=21) (by kernel_rfl) (op_new F rfl rfl (by decide) rfl (R_alloc rfl Try.zeroValue23) ?_);clear F fa;intro fa w23 F hw
      obtain ⟨n22,hn⟩ : ∃ n,n = w22.heap.size:=⟨_,rfl⟩
      rw [← hn] at F
      have s22 : w22.heap.size ≤ n22:=Nat.le_of_eq hn.symm
      have l22_E : w.heap.size ≤ n22:=by rw [hn];exact E.size
      have l22_EO : w5.heap.size ≤ n22:=by rw [hn];exact EO.size
      have l22_EX : w7.heap.size ≤ n22:=by rw [hn];exact EX.size
      have l22_EL : w19.heap.size ≤ n22:=by rw [hn];exact EL.size
      have l22_EL2 : w19.heap.size ≤ n22:=by rw [hn];exact EL2.size
      have lT22 : w20.heap.size ≤ n22:=by rw [hn];exact eT.size
      have b22_HL:=Nat.lt_of_lt_of_eq (lots_lt HL) hn.symm
      have m22_6 : n6 < n22:=by rw [hn];exact blk_lt q6
      have m22_16 : n16 < n22:=by rw [hn];exact blk_lt q16
      have m22_52 : n52 < n22:=by rw [hn];exact blk_lt q52
      have m22_58 : n58 < n22:=by rw [hn];exact blk_lt q58
      have m22_62 : n62 < n22:=by rw [hn];exact blk_lt q62
      have m22_68 : n68 < n22:=by rw [hn];exact blk_lt q68
      replace q6:=keep_alloc hw q6
      replace q16:=keep_alloc hw q16
      replace q52:=keep_alloc hw q52
      replace q58:=keep_alloc hw q58
      replace q62:=keep_alloc hw q62
      replace q68:=keep_alloc hw q68
      replace E:=ext_alloc E hw
      replace EO:=ext_alloc EO hw
      replace EX:=ext_alloc EX hw
      replace EL:=ext_alloc EL hw
      replace EL2:=ext_alloc EL2 hw
      replace HL:=lots_alloc hw HL
      replace eT:=ext_alloc eT hw
      have q22:=new_row hw hn
      clear hw hn
      refine ⟨fun _=>eT,?_⟩
      refine ax_only (i:=22) (by kernel_rfl) (op_to rfl rfl rfl (R_storeRow rfl (F.at rfl) (F.at rfl) (by kernel_rfl) (by first | (simp [Value.oneCell'];done) | (simp [Value.oneCell',grRow,rdRow,lkRow];done)) q22 rfl) ?_);intro w24 hw
      replace q6:=keep_cells hw q6 (by omega)
      replace q16:=keep_cells hw q16 (by omega)
      replace q52:=keep_cells hw q52 (by omega)
      replace q58:=keep_cells hw q58 (by omega)
      replace q62:=keep_cells hw q62 (by omega)
      replace q68:=keep_cells hw q68 (by omega)
      replace q22:=put_row hw q22 rfl
      replace E:=ext_cells E hw (fun h=>by first | exact absurd h (by omega) | simp)
      replace EO:=ext_cells EO hw (fun h=>by first | exact absurd h (by omega) | simp)
      replace EX:=ext_cells EX hw (fun h=>by first | exact absurd h (by omega) | simp)
      replace EL:=ext_cells EL hw (fun h=>by first | exact absurd h (by omega) | simp)
      replace EL2:=ext_cells EL2 hw (fun h=>by first | exact absurd h (by omega) | simp)
      replace HL:=lots_cells hw HL (by omega) (by omega)
      replace eT:=ext_cells eT hw (fun h=>by first | exact absurd h (by omega) | simp)
      clear hw
      refine ⟨fun _=>eT,?_⟩
      refine F.x (i:=23) rfl (fun w'=>R_assign rfl (F.at rfl)) (fun _=>eT) ?_;clear F fa;intro fa F
      refine ax_done (by kernel_rfl) ?_ _
      exact hcut _ _ _ (F.sub (.c 1 rfl (.c 2 rfl (.c 3 rfl (.c 4 rfl (.c 13 rfl (.c 14 rfl (.c 15 rfl (.c 16 rfl (.c 17 rfl (.c 18 rfl (.c 19 rfl (.c 20 rfl (.c 21 rfl (.c 22 rfl (.c 23 rfl .n)))))))))))))))) q16 q52 q58 q62 q68 q22 E EO EX EL EL2 (by omega) (by omega) (by omega) (by omega) (by omega) (by omega) (by omega) (by omega) (by omega) (by omega) HL (by omega)
     ·skip
      refine (op_new F rfl rfl (by decide) rfl (R_alloc rfl Try.zeroValue23) ?_);clear F fa;intro fa w25 F hw
      obtain ⟨n22,hn⟩ : ∃ n,n = w21.heap.size:=⟨_,rfl⟩
      rw [← hn] at F
      have s22 : w21.heap.size ≤ n22:=Nat.le_of_eq hn.symm
      have l22_E : w.heap.size ≤ n22:=by rw [hn];exact E.size
      have l22_EO : w5.heap.size ≤ n22:=by rw [hn];exact EO.size
      have l22_EX : w7.heap.size ≤ n22:=by rw [hn];exact EX.size
      have l22_EL : w19.heap.size ≤ n22:=by rw [hn];exact EL.size
      have l22_EL2 : w19.heap.size ≤ n22:=by rw [hn];exact EL2.size
      have lT22 : w20.heap.size ≤ n22:=by rw [hn];exact eT.size
      have b22_HL:=Nat.lt_of_lt_of_eq (lots_lt HL) hn.symm
      have m22_6 : n6 < n22:=by rw [hn];exact blk_lt q6
      have m22_16 : n16 < n22:=by rw [hn];exact blk_lt q16
      have m22_52 : n52 < n22:=by rw [hn];exact blk_lt q52
      have m22_58 : n58 < n22:=by rw [hn];exact blk_lt q58
      have m22_62 : n62 < n22:=by rw [hn];exact blk_lt q62
      have m22_68 : n68 < n22:=by rw [hn];exact blk_lt q68
      replace q6:=keep_alloc hw q6
      replace q16:=keep_alloc hw q16
      replace q52:=keep_alloc hw q52
      replace q58:=keep_alloc hw q58
      replace q62:=keep_alloc hw q62
      replace q68:=keep_alloc hw q68
      replace E:=ext_alloc E hw
      replace EO:=ext_alloc EO hw
      replace EX:=ext_alloc EX hw
      replace EL:=ext_alloc EL hw
      replace EL2:=ext_alloc EL2 hw
      replace HL:=lots_alloc hw HL
      replace eT:=ext_alloc eT hw
      have q22:=new_row hw hn
      clear hw hn
      refine ⟨fun _=>eT,?_⟩
      refine ax_only (i:=17) (by kernel_rfl) (op_call F rfl rfl (by decide) rfl (R_callV rfl rfl Try.call43 (mpS (F.at rfl) (mpS (F.at rfl) (mpS (F.at rfl) (mpS (F.at rfl) (mpS (F.at rfl) mp0)))))) (apart_all (tsI ts i).t _ _ _ _ _ _ _ _ (HX.out _ EX) m1 m2 m3) fun e w26 hR=>?_)
      obtain ⟨rfl,e9⟩:=hR
      refine ⟨_,rfl,?_⟩;clear F fa;intro fa F
      replace q6:=(e9).keep0 q6
      replace q16:=(e9).keep0 q16
      replace q52:=(e9).keep0 q52
      replace q58:=(e9).keep0 q58
      replace q62:=(e9).keep0 q62
      replace q68:=(e9).keep0 q68
      replace q22:=(e9).keep0 q22
      replace E:=ext_same E (e9)
      replace EO:=ext_same EO (e9)
      replace EX:=ext_same EX (e9)
      replace EL:=ext_same EL (e9)
      replace EL2:=ext_same EL2 (e9)
      replace HL:=lots_ext (e9) HL
      replace eT:=ext_same eT (e9)
      clear e9
      refine ⟨fun _=>eT,?_⟩
      refine F.x (i:=18) rfl (fun w'=>R_move rfl (F.at rfl)) (fun _=>eT) ?_;clear F fa;intro fa F
      refine F.x (i:=19) rfl (fun w'=>R_extract rfl (F.at rfl) (get0)) (fun _=>eT) ?_;clear F fa;intro fa F
      refine F.x (i:=20) rfl (fun w'=>R_extract rfl (F.at rfl) (getS (get0))) (fun _=>eT) ?_;clear F fa;intro fa F
      refine ax_only (i:=22) (by kernel_rfl) (op_to rfl rfl rfl (R_storeRow rfl (F.at rfl) (F.at rfl) (by kernel_rfl) (by first | (simp [Value.oneCell'];done) | (simp [Value.oneCell',grRow,rdRow,lkRow];done)) q22 rfl) ?_);intro w27 hw
      replace q6:=keep_cells hw q6 (by omega)
      replace q16:=keep_cells hw q16 (by omega)
      replace q52:=keep_cells hw q52 (by omega)
      replace q58:=keep_cells hw q58 (by omega)
      replace q62:=keep_cells hw q62 (by omega)
      replace q68:=keep_cells hw q68 (by omega)
      replace q22:=put_row hw q22 rfl
      replace E:=ext_cells E hw (fun h=>by first | exact absurd h (by omega) | simp)
      replace EO:=ext_cells EO hw (fun h=>by first | exact absurd h (by omega) | simp)
      replace EX:=ext_cells EX hw (fun h=>by first | exact absurd h (by omega) | simp)
      replace EL:=ext_cells EL hw (fun h=>by first | exact absurd h (by omega) | simp)
      replace EL2:=ext_cells EL2 hw (fun h=>by first | exact absurd h (by omega) | simp)
      replace HL:=lots_cells hw HL (by omega) (by omega)
      replace eT:=ext_cells eT hw (fun h=>by first | exact absurd h (by omega) | simp)
      clear hw
      refine ⟨fun _=>eT,?_⟩
      refine F.x (i:=23) rfl (fun w'=>R_assign rfl (F.at rfl)) (fun _=>eT) ?_;clear F fa;intro fa F
      refine ax_done (by kernel_rfl) ?_ _
      exact hcut _ _ _ (F.sub (.c 1 rfl (.c 2 rfl (.c 3 rfl (.c 4 rfl (.c 13 rfl (.c 14 rfl (.c 15 rfl (.c 16 rfl (.c 17 rfl (.c 18 rfl (.c 19 rfl (.c 20 rfl (.c 21 rfl (.c 22 rfl (.c 23 rfl .n)))))))))))))))) q16 q52 q58 q62 q68 q22 E EO EX EL EL2 (by omega) (by omega) (by omega) (by omega) (by omega) (by omega) (by omega) (by omega) (by omega) (by omega) HL (by omega)
    clear F q6 q16 q52 q58 q62 q68 E EO EX EL EL2 HL fa
    intro n22  fa w28 F q16 q52 q58 q62 q68 q22 E EO EX EL EL2 l22_E l22_EO l22_EX l22_EL l22_EL2 m22_16 m22_52 m22_58 m22_62 m22_68 HL b22_HL
    refine hK20 _ _ ?_
    clear hK20
    refine wp_seq_k fun K25 hK25=>?_
    suffices hcut : ∀ (n24 : Nat) (fa : Act) (w36 : World),Has 183 fa [(1,.int .i64 x1),(2,.int .i64 x2),(3,.int .i64 x3),(4,.int .i64 x4),(13,.pointer (some ⟨b,0,none⟩)),(14,.slice sa ts.length ts.length),(15,.int .i64 ((i : Nat) : Int)),(16,.pointer (some ⟨n16,0,none⟩)),(17,.slice (some ⟨n52,0,none⟩) 4 4),(18,.slice (some ⟨n58,0,none⟩) 4 4),(19,.slice (some ⟨n62,0,none⟩) 4 4),(20,.slice (some ⟨n68,0,none⟩) 4 4),(21,.int .i64 ((k : Nat) : Int)),(22,.pointer (some ⟨n22,0,none⟩)),(23,.int .i64 (apartE (tsI ts i).t ([x1,0,1,p1].getD k 0) ([x2,0,p2,p3].getD k 0) ([x3,1,0,p4].getD k 0) ([x4,0,p5,p6].getD k 0))),(24,.pointer (some ⟨n24,0,none⟩)),(25,.int .i64 (apartE (tsI ts i).t ([x1,0,1,p1].getD k 0) ([x2,0,p2,p3].getD k 0) ([x3,1,0,p4].getD k 0) ([x4,0,p5,p6].getD k 0)))] → w36.heap[n16]? = some (.cells #[.int .i64 ((tsI ts i).t.S),.int .i64 ((tsI ts i).t.A),.int .i64 ((tsI ts i).t.T),.int .i64 ((tsI ts i).t.bl),.int .i64 ((tsI ts i).t.bm),.int .i64 ((tsI ts i).t.pl),.int .i64 ((tsI ts i).t.pm),.int .i64 ((tsI ts i).t.sl),.slice gxa ((tsI ts i).t.gr.length) gxc,.slice rxa ((tsI ts i).t.rd.length) rxc,.slice lxa ((tsI ts i).t.lk.length) lxc] 28 (0,0)) → w36.heap[n52]? = some (.cells #[.int .i64 x1,.int .i64 0,.int .i64 1,.int .i64 p1] 3 (0,0)) → w36.heap[n58]? = some (.cells #[.int .i64 x2,.int .i64 0,.int .i64 p2,.int .i64 p3] 3 (0,0)) → w36.heap[n62]? = some (.cells #[.int .i64 x3,.int .i64 1,.int .i64 0,.int .i64 p4] 3 (0,0)) → w36.heap[n68]? = some (.cells #[.int .i64 x4,.int .i64 0,.int .i64 p5,.int .i64 p6] 3 (0,0)) → w36.heap[n22]? = some (.cells #[.int .i64 ((apartV (tsI ts i).t ([x1,0,1,p1].getD k 0) ([x2,0,p2,p3].getD k 0) ([x3,1,0,p4].getD k 0) ([x4,0,p5,p6].getD k 0)).1),.int .i64 ((apartV (tsI ts i).t ([x1,0,1,p1].getD k 0) ([x2,0,p2,p3].getD k 0) ([x3,1,0,p4].getD k 0) ([x4,0,p5,p6].getD k 0)).2)] 23 (0,0)) → w36.heap[n24]? = some (.cells #[.int .i64 ((apartV (tsI ts i).t ([x1,0,1,p1].getD k 0) ([x2,0,p2,p3].getD k 0) ([x3,1,0,p4].getD k 0) ([x4,0,p5,p6].getD k 0)).1),.int .i64 ((apartV (tsI ts i).t ([x1,0,1,p1].getD k 0) ([x2,0,p2,p3].getD k 0) ([x3,1,0,p4].getD k 0) ([x4,0,p5,p6].getD k 0)).2)] 23 (0,0)) → Ext [] w w36 → Ext [b] w5 w36 → Ext [b] w7 w36 → Ext [] w19 w36 → Ext [] w19 w36 → w.heap.size ≤ n24 → w5.heap.size ≤ n24 → w7.heap.size ≤ n24 → w19.heap.size ≤ n24 → w19.heap.size ≤ n24 → n16 ≠ n24 → n52 ≠ n24 → n58 ≠ n24 → n62 ≠ n24 → n68 ≠ n24 → n22 ≠ n24 → LotsOk w0 w36 b (0 + 210 + 6 * i + 6) (.slice a5 len5 cap5) → b ≠ n24 → K25 fa w36 by
     refine region_x (Ext [] w28) none follows fun w29 hh eh=>?_
     have q16_:=q16
     replace q16:=keep_same hh q16
     have q52_:=q52
     replace q52:=keep_same hh q52
     have q58_:=q58
     replace q58:=keep_same hh q58
     have q62_:=q62
     replace q62:=keep_same hh q62
     have q68_:=q68
     replace q68:=keep_same hh q68
     have q22_:=q22
     replace q22:=keep_same hh q22
     have E_:=E
     have zEw29:=E.size
     replace E:=ext_same E eh
     have EO_:=EO
     have zEOw29:=EO.size
     replace EO:=ext_same EO eh
     have EX_:=EX
     have zEXw29:=EX.size
     replace EX:=ext_same EX eh
     have EL_:=EL
     have zELw29:=EL.size
     replace EL:=ext_same EL eh
     have EL2_:=EL2
     have zEL2w29:=EL2.size
     replace EL2:=ext_same EL2 eh
     have zbw29:=lots_lt HL
     replace HL:=lots_ext eh HL
     have eT:=eh
     clear hh eh
     refine F.x (i:=0) rfl (fun w'=>R_move rfl (F.at rfl)) (fun _=>eT) ?_;clear F fa;intro fa F
     refine F.x (i:=1) rfl (fun w'=>R_move rfl (F.at rfl)) (fun _=>eT) ?_;clear F fa;intro fa F
     obtain ⟨xb26,xo26,xa26,xr26⟩:=HS.out i (by omega)
     refine F.x (i:=2) rfl (fun w'=>R_ixSlice (sz:=11) rfl ((F.at rfl).trans (xa26 _ _)) (F.at rfl) Try.underlying32 (by kernel_rfl) (by omega) (by omega)) (fun _=>eT) ?_;clear F fa;intro fa F
     refine F.xr (i:=3) rfl (fun w' hS=>R_loadRow rfl (F.at rfl) Try.underlying28 rfl (by kernel_rfl) (xr26 _ (EO_.nil hS))) (fun _=>eT) ?_;clear F fa;intro fa F
     refine F.x (i:=4) rfl (fun w'=>R_move rfl (F.at rfl)) (fun _=>eT) ?_;clear F fa;intro fa F
     refine F.x (i:=5) rfl (fun w'=>R_move rfl (F.at rfl)) (fun _=>eT) ?_;clear F fa;intro fa F
     obtain ⟨xb27,xo27,xa27,xr27⟩:=HS1.out k (by omega)
     refine F.x (i:=6) rfl (fun w'=>R_ixSlice (sz:=1) rfl ((F.at rfl).trans (xa27 _ _)) (F.at rfl) Try.underlying29 (by kernel_rfl) (by omega) (by omega)) (fun _=>eT) ?_;clear F fa;intro fa F
     refine F.xr (i:=7) rfl (fun w' hS=>R_load rfl (F.at rfl) Try.underlying3 rfl (xr27 _ (EL_.nil hS) 0 _ rfl)) (fun _=>eT) ?_;clear F fa;intro fa F
     refine F.x (i:=8) rfl (fun w'=>R_move rfl (F.at rfl)) (fun _=>eT) ?_;clear F fa;intro fa F
     refine F.x (i:=9) rfl (fun w'=>R_move rfl (F.at rfl)) (fun _=>eT) ?_;clear F fa;intro fa F
     obtain ⟨xb28,xo28,xa28,xr28⟩:=HS2.out k (by omega)
     refine F.x (i:=10) rfl (fun w'=>R_ixSlice (sz:=1) rfl ((F.at rfl).trans (xa28 _ _)) (F.at rfl) Try.underlying29 (by kernel_rfl) (by omega) (by omega)) (fun _=>eT) ?_;clear F fa;intro fa F
     refine F.xr (i:=11) rfl (fun w' hS=>R_load rfl (F.at rfl) Try.underlying3 rfl (xr28 _ (EL_.nil hS) 0 _ rfl)) (fun _=>eT) ?_;clear F fa;intro fa F
     refine F.x (i:=12) rfl (fun w'=>R_move rfl (F.at rfl)) (fun _=>eT) ?_;clear F fa;intro fa F
     refine F.x (i:=13) rfl (fun w'=>R_move rfl (F.at rfl)) (fun _=>eT) ?_;clear F fa;intro fa F
     obtain ⟨xb29,xo29,xa29,xr29⟩:=HS3.out k (by omega)
     refine F.x (i:=14) rfl (fun w'=>R_ixSlice (sz:=1) rfl ((F.at rfl).trans (xa29 _ _)) (F.at rfl) Try.underlying29 (by kernel_rfl) (by omega) (by omega)) (fun _=>eT) ?_;clear F fa;intro fa F
     refine F.xr (i:=15) rfl (fun w' hS=>R_load rfl (F.at rfl) Try.underlying3 rfl (xr29 _ (EL_.nil hS) 0 _ rfl)) (fun _=>eT) ?_;clear F fa;intro fa F
     refine F.x (i:=16) rfl (fun w'=>R_move rfl (F.at rfl)) (fun _=>eT) ?_;clear F fa;intro fa F
     refine F.x (i:=17) rfl (fun w'=>R_move rfl (F.at rfl)) (fun _=>eT) ?_;clear F fa;intro fa F
     obtain ⟨xb30,xo30,xa30,xr30⟩:=HS4.out k (by omega)
     refine F.x (i:=18) rfl (fun w'=>R_ixSlice (sz:=1) rfl ((F.at rfl).trans (xa30 _ _)) (F.at rfl) Try.underlying29 (by kernel_rfl) (by omega) (by omega)) (fun _=>eT) ?_;clear F fa;intro fa F
     refine F.xr (i:=19) rfl (fun w' hS=>R_load rfl (F.at rfl) Try.underlying3 rfl (xr30 _ (EL_.nil hS) 0 _ rfl)) (fun _=>eT) ?_;clear F fa;intro fa F
     refine ax_pair (i:=20) (j:=24) (by kernel_rfl) ?_ ?_
     ·skip
      refine (op_call F rfl rfl (by decide) rfl (R_callV rfl rfl Try.call62 (mpS (F.at rfl) (mpS (F.at rfl) (mpS (F.at rfl) (mpS (F.at rfl) (mpS (F.at rfl) mp0)))))) (refApart_any (tsI ts i).t hnn (tsI ts i).ga (tsI ts i).ra (tsI ts i).la (tsI ts i).gc (tsI ts i).rc (tsI ts i).lc _ (HA.out i (by omega) _ EO) m1 m2 m3 _ _ _ _) fun e w30 hR=>?_)
      obtain ⟨rfl,e9⟩:=hR
      refine ⟨_,rfl,?_⟩;clear F fa;intro fa F
      replace q16:=(e9).keep0 q16
      replace q52:=(e9).keep0 q52
      replace q58:=(e9).keep0 q58
      replace q62:=(e9).keep0 q62
      replace q68:=(e9).keep0 q68
      replace q22:=(e9).keep0 q22
      replace E:=ext_same E (e9)
      replace EO:=ext_same EO (e9)
      replace EX:=ext_same EX (e9)
      replace EL:=ext_same EL (e9)
      replace EL2:=ext_same EL2 (e9)
      replace HL:=lots_ext (e9) HL
      replace eT:=ext_same eT (e9)
      clear e9
      refine ⟨fun _=>eT,?_⟩
      refine F.x (i:=21) rfl (fun w'=>R_move rfl (F.at rfl)) (fun _=>eT) ?_;clear F fa;intro fa F
      refine F.x (i:=22) rfl (fun w'=>R_extract rfl (F.at rfl) (get0)) (fun _=>eT) ?_;clear F fa;intro fa F
      refine F.x (i:=23) rfl (fun w'=>R_extract rfl (F.at rfl) (getS (get0))) (fun _=>eT) ?_;clear F fa;intro fa F
      refine ax_only (i:=24) (by kernel_rfl) (op_new F rfl rfl (by decide) rfl (R_alloc rfl Try.zeroValue23) ?_);clear F fa;intro fa w31 F hw
      obtain ⟨n24,hn⟩ : ∃ n,n = w30.heap.size:=⟨_,rfl⟩
      rw [← hn] at F
      have s24 : w30.heap.size ≤ n24:=Nat.le_of_eq hn.symm
      have l24_E : w.heap.size ≤ n24:=by rw [hn];exact E.size
      have l24_EO : w5.heap.size ≤ n24:=by rw [hn];exact EO.size
      have l24_EX : w7.heap.size ≤ n24:=by rw [hn];exact EX.size
      have l24_EL : w19.heap.size ≤ n24:=by rw [hn];exact EL.size
      have l24_EL2 : w19.heap.size ≤ n24:=by rw [hn];exact EL2.size
      have lT24 : w28.heap.size ≤ n24:=by rw [hn];exact eT.size
      have b24_HL:=Nat.lt_of_lt_of_eq (lots_lt HL) hn.symm
      have m24_16 : n16 < n24:=by rw [hn];exact blk_lt q16
      have m24_52 : n52 < n24:=by rw [hn];exact blk_lt q52
      have m24_58 : n58 < n24:=by rw [hn];exact blk_lt q58
      have m24_62 : n62 < n24:=by rw [hn];exact blk_lt q62
      have m24_68 : n68 < n24:=by rw [hn];exact blk_lt q68
      have m24_22 : n22 < n24:=by rw [hn];exact blk_lt q22
      replace q16:=keep_alloc hw q16
      replace q52:=keep_alloc hw q52
      replace q58:=keep_alloc hw q58
      replace q62:=keep_alloc hw q62
      replace q68:=keep_alloc hw q68
      replace q22:=keep_alloc hw q22
      replace E:=ext_alloc E hw
      replace EO:=ext_alloc EO hw
      replace EX:=ext_alloc EX hw
      replace EL:=ext_alloc EL hw
      replace EL2:=ext_alloc EL2 hw
      replace HL:=lots_alloc hw HL
      replace eT:=ext_alloc eT hw
      have q24:=new_row hw hn
      clear hw hn
      refine ⟨fun _=>eT,?_⟩
      refine ax_only (i:=25) (by kernel_rfl) (op_to rfl rfl rfl (R_storeRow rfl (F.at rfl) (F.at rfl) (by kernel_rfl) (by first | (simp [Value.oneCell'];done) | (simp [Value.oneCell',grRow,rdRow,lkRow];done)) q24 rfl) ?_);intro w32 hw
      replace q16:=keep_cells hw q16 (by omega)
      replace q52:=keep_cells hw q52 (by omega)
      replace q58:=keep_cells hw q58 (by omega)
      replace q62:=keep_cells hw q62 (by omega)
      replace q68:=keep_cells hw q68 (by omega)
      replace q22:=keep_cells hw q22 (by omega)
      replace q24:=put_row hw q24 rfl
      replace E:=ext_cells E hw (fun h=>by first | exact absurd h (by omega) | simp)
      replace EO:=ext_cells EO hw (fun h=>by first | exact absurd h (by omega) | simp)
      replace EX:=ext_cells EX hw (fun h=>by first | exact absurd h (by omega) | simp)
      replace EL:=ext_cells EL hw (fun h=>by first | exact absurd h (by omega) | simp)
      replace EL2:=ext_cells EL2 hw (fun h=>by first | exact absurd h (by omega) | simp)
      replace HL:=lots_cells hw HL (by omega) (by omega)
      replace eT:=ext_cells eT hw (fun h=>by first | exact absurd h (by omega) | simp)
      clear hw
      refine ⟨fun _=>eT,?_⟩
      refine F.x (i:=26) rfl (fun w'=>R_assign rfl (F.at rfl)) (fun _=>eT) ?_;clear F fa;intro fa F
      refine ax_done (by kernel_rfl) ?_ _
      exact hcut _ _ _ (F.sub (.c 1 rfl (.c 2 rfl (.c 3 rfl (.c 4 rfl (.c 13 rfl (.c 14 rfl (.c 15 rfl (.c 16 rfl (.c 17 rfl (.c 18 rfl (.c 19 rfl (.c 20 rfl (.c 21 rfl (.c 22 rfl (.c 23 rfl (.c 24 rfl (.c 25 rfl .n)))))))))))))))))) q16 q52 q58 q62 q68 q22 q24 E EO EX EL EL2 (by omega) (by omega) (by omega) (by omega) (by omega) (by omega) (by omega) (by omega) (by omega) (by omega) (by omega) HL (by omega)
     ·skip
      refine (op_new F rfl rfl (by decide) rfl (R_alloc rfl Try.zeroValue23) ?_);clear F fa;intro fa w33 F hw
      obtain ⟨n24,hn⟩ : ∃ n,n = w29.heap.size:=⟨_,rfl⟩
      rw [← hn] at F
      have s24 : w29.heap.size ≤ n24:=Nat.le_of_eq hn.symm
      have l24_E : w.heap.size ≤ n24:=by rw [hn];exact E.size
      have l24_EO : w5.heap.size ≤ n24:=by rw [hn];exact EO.size
      have l24_EX : w7.heap.size ≤ n24:=by rw [hn];exact EX.size
      have l24_EL : w19.heap.size ≤ n24:=by rw [hn];exact EL.size
      have l24_EL2 : w19.heap.size ≤ n24:=by rw [hn];exact EL2.size
      have lT24 : w28.heap.size ≤ n24:=by rw [hn];exact eT.size
      have b24_HL:=Nat.lt_of_lt_of_eq (lots_lt HL) hn.symm
      have m24_16 : n16 < n24:=by rw [hn];exact blk_lt q16
      have m24_52 : n52 < n24:=by rw [hn];exact blk_lt q52
      have m24_58 : n58 < n24:=by rw [hn];exact blk_lt q58
      have m24_62 : n62 < n24:=by rw [hn];exact blk_lt q62
      have m24_68 : n68 < n24:=by rw [hn];exact blk_lt q68
      have m24_22 : n22 < n24:=by rw [hn];exact blk_lt q22
      replace q16:=keep_alloc hw q16
      replace q52:=keep_alloc hw q52
      replace q58:=keep_alloc hw q58
      replace q62:=keep_alloc hw q62
      replace q68:=keep_alloc hw q68
      replace q22:=keep_alloc hw q22
      replace E:=ext_alloc E hw
      replace EO:=ext_alloc EO hw
      replace EX:=ext_alloc EX hw
      replace EL:=ext_alloc EL hw
      replace EL2:=ext_alloc EL2 hw
      replace HL:=lots_alloc hw HL
      replace eT:=ext_alloc eT hw
      have q24:=new_row hw hn
      clear hw hn
      refine ⟨fun _=>eT,?_⟩
      refine ax_only (i:=20) (by kernel_rfl) (op_call F rfl rfl (by decide) rfl (R_callV rfl rfl Try.call62 (mpS (F.at rfl) (mpS (F.at rfl) (mpS (F.at rfl) (mpS (F.at rfl) (mpS (F.at rfl) mp0)))))) (refApart_any (tsI ts i).t hnn (tsI ts i).ga (tsI ts i).ra (tsI ts i).la (tsI ts i).gc (tsI ts i).rc (tsI ts i).lc _ (HA.out i (by omega) _ EO) m1 m2 m3 _ _ _ _) fun e w34 hR=>?_)
      obtain ⟨rfl,e9⟩:=hR
      refine ⟨_,rfl,?_⟩;clear F fa;intro fa F
      replace q16:=(e9).keep0 q16
      replace q52:=(e9).keep0 q52
      replace q58:=(e9).keep0 q58
      replace q62:=(e9).keep0 q62
      replace q68:=(e9).keep0 q68
      replace q22:=(e9).keep0 q22
      replace q24:=(e9).keep0 q24
      replace E:=ext_same E (e9)
      replace EO:=ext_same EO (e9)
      replace EX:=ext_same EX (e9)
      replace EL:=ext_same EL (e9)
      replace EL2:=ext_same EL2 (e9)
      replace HL:=lots_ext (e9) HL
      replace eT:=ext_same eT (e9)
      clear e9
      refine ⟨fun _=>eT,?_⟩
      refine F.x (i:=21) rfl (fun w'=>R_move rfl (F.at rfl)) (fun _=>eT) ?_;clear F fa;intro fa F
      refine F.x (i:=22) rfl (fun w'=>R_extract rfl (F.at rfl) (get0)) (fun _=>eT) ?_;clear F fa;intro fa F
      refine F.x (i:=23) rfl (fun w'=>R_extract rfl (F.at rfl) (getS (get0))) (fun _=>eT) ?_;clear F fa;intro fa F
      refine ax_only (i:=25) (by kernel_rfl) (op_to rfl rfl rfl (R_storeRow rfl (F.at rfl) (F.at rfl) (by kernel_rfl) (by first | (simp [Value.oneCell'];done) | (simp [Value.oneCell',grRow,rdRow,lkRow];done)) q24 rfl) ?_);intro w35 hw
      replace q16:=keep_cells hw q16 (by omega)
      replace q52:=keep_cells hw q52 (by omega)
      replace q58:=keep_cells hw q58 (by omega)
      replace q62:=keep_cells hw q62 (by omega)
      replace q68:=keep_cells hw q68 (by omega)
      replace q22:=keep_cells hw q22 (by omega)
      replace q24:=put_row hw q24 rfl
      replace E:=ext_cells E hw (fun h=>by first | exact absurd h (by omega) | simp)
      replace EO:=ext_cells EO hw (fun h=>by first | exact absurd h (by omega) | simp)
      replace EX:=ext_cells EX hw (fun h=>by first | exact absurd h (by omega) | simp)
      replace EL:=ext_cells EL hw (fun h=>by first | exact absurd h (by omega) | simp)
      replace EL2:=ext_cells EL2 hw (fun h=>by first | exact absurd h (by omega) | simp)
      replace HL:=lots_cells hw HL (by omega) (by omega)
      replace eT:=ext_cells eT hw (fun h=>by first | exact absurd h (by omega) | simp)
      clear hw
      refine ⟨fun _=>eT,?_⟩
      refine F.x (i:=26) rfl (fun w'=>R_assign rfl (F.at rfl)) (fun _=>eT) ?_;clear F fa;intro fa F
      refine ax_done (by kernel_rfl) ?_ _
      exact hcut _ _ _ (F.sub (.c 1 rfl (.c 2 rfl (.c 3 rfl (.c 4 rfl (.c 13 rfl (.c 14 rfl (.c 15 rfl (.c 16 rfl (.c 17 rfl (.c 18 rfl (.c 19 rfl (.c 20 rfl (.c 21 rfl (.c 22 rfl (.c 23 rfl (.c 24 rfl (.c 25 rfl .n)))))))))))))))))) q16 q52 q58 q62 q68 q22 q24 E EO EX EL EL2 (by omega) (by omega) (by omega) (by omega) (by omega) (by omega) (by omega) (by omega) (by omega) (by omega) (by omega) HL (by omega)
    clear F q16 q52 q58 q62 q68 q22 E EO EX EL EL2 HL fa
    intro n24  fa w36 F q16 q52 q58 q62 q68 q22 q24 E EO EX EL EL2 l24_E l24_EO l24_EX l24_EL l24_EL2 m24_16 m24_52 m24_58 m24_62 m24_68 m24_22 HL b24_HL
    refine hK25 _ _ ?_
    clear hK25
    refine wp_seq_k fun K31 hK31=>?_
    refine region_x (Ext [] w36) none follows fun w37 hh eh=>?_
    have q16_:=q16
    replace q16:=keep_same hh q16
    have q52_:=q52
    replace q52:=keep_same hh q52
    have q58_:=q58
    replace q58:=keep_same hh q58
    have q62_:=q62
    replace q62:=keep_same hh q62
    have q68_:=q68
    replace q68:=keep_same hh q68
    have q22_:=q22
    replace q22:=keep_same hh q22
    have q24_:=q24
    replace q24:=keep_same hh q24
    have E_:=E
    have zEw37:=E.size
    replace E:=ext_same E eh
    have EO_:=EO
    have zEOw37:=EO.size
    replace EO:=ext_same EO eh
    have EX_:=EX
    have zEXw37:=EX.size
    replace EX:=ext_same EX eh
    have EL_:=EL
    have zELw37:=EL.size
    replace EL:=ext_same EL eh
    have EL2_:=EL2
    have zEL2w37:=EL2.size
    replace EL2:=ext_same EL2 eh
    have zbw37:=lots_lt HL
    replace HL:=lots_ext eh HL
    have eT:=eh
    clear hh eh
    refine F.xr (i:=0) rfl (fun w' hS=>R_loadBlk rfl (F.at rfl) Try.underlying28 rfl (by kernel_rfl) (hS.keep q16_ (by simp))) (fun _=>eT) ?_;clear F fa;intro fa F
    refine F.x (i:=1) rfl (fun w'=>R_move rfl (F.at rfl)) (fun _=>eT) ?_;clear F fa;intro fa F
    refine F.x (i:=2) rfl (fun w'=>R_move rfl (F.at rfl)) (fun _=>eT) ?_;clear F fa;intro fa F
    obtain ⟨xb32,xo32,xa32,xr32⟩:=HS1.out k (by omega)
    refine F.x (i:=3) rfl (fun w'=>R_ixSlice (sz:=1) rfl ((F.at rfl).trans (xa32 _ _)) (F.at rfl) Try.underlying29 (by kernel_rfl) (by omega) (by omega)) (fun _=>eT) ?_;clear F fa;intro fa F
    refine F.xr (i:=4) rfl (fun w' hS=>R_load rfl (F.at rfl) Try.underlying3 rfl (xr32 _ (EL_.nil hS) 0 _ rfl)) (fun _=>eT) ?_;clear F fa;intro fa F
    refine F.x (i:=5) rfl (fun w'=>R_move rfl (F.at rfl)) (fun _=>eT) ?_;clear F fa;intro fa F
    refine F.x (i:=6) rfl (fun w'=>R_move rfl (F.at rfl)) (fun _=>eT) ?_;clear F fa;intro fa F
    obtain ⟨xb33,xo33,xa33,xr33⟩:=HS3.out k (by omega)
    refine F.x (i:=7) rfl (fun w'=>R_ixSlice (sz:=1) rfl ((F.at rfl).trans (xa33 _ _)) (F.at rfl) Try.underlying29 (by kernel_rfl) (by omega) (by omega)) (fun _=>eT) ?_;clear F fa;intro fa F
    refine F.xr (i:=8) rfl (fun w' hS=>R_load rfl (F.at rfl) Try.underlying3 rfl (xr33 _ (EL_.nil hS) 0 _ rfl)) (fun _=>eT) ?_;clear F fa;intro fa F
    refine F.x (i:=9) rfl (fun w'=>R_move rfl (F.at rfl)) (fun _=>eT) ?_;clear F fa;intro fa F
    refine F.x (i:=10) rfl (fun w'=>R_move rfl (F.at rfl)) (fun _=>eT) ?_;clear F fa;intro fa F
    obtain ⟨xb34,xo34,xa34,xr34⟩:=HS2.out k (by omega)
    refine F.x (i:=11) rfl (fun w'=>R_ixSlice (sz:=1) rfl ((F.at rfl).trans (xa34 _ _)) (F.at rfl) Try.underlying29 (by kernel_rfl) (by omega) (by omega)) (fun _=>eT) ?_;clear F fa;intro fa F
    refine F.xr (i:=12) rfl (fun w' hS=>R_load rfl (F.at rfl) Try.underlying3 rfl (xr34 _ (EL_.nil hS) 0 _ rfl)) (fun _=>eT) ?_;clear F fa;intro fa F
    refine ax_only (i:=13) (by kernel_rfl) (op_call F rfl rfl (by decide) rfl (R_callV rfl rfl Try.call63 (mpS (F.at rfl) (mpS (F.at rfl) (mpS (F.at rfl) (mpS (F.at rfl) mp0))))) (wider_any (tsI ts i).t _ _ _ _ _ _ _ (HX.out _ EX) m1 m2 m3) fun e w38 hR=>?_)
    obtain ⟨rfl,e9⟩:=hR
    refine ⟨_,rfl,?_⟩;clear F fa;intro fa F
    replace q16:=(e9).keep0 q16
    replace q52:=(e9).keep0 q52
    replace q58:=(e9).keep0 q58
    replace q62:=(e9).keep0 q62
    replace q68:=(e9).keep0 q68
    replace q22:=(e9).keep0 q22
    replace q24:=(e9).keep0 q24
    replace E:=ext_same E (e9)
    replace EO:=ext_same EO (e9)
    replace EX:=ext_same EX (e9)
    replace EL:=ext_same EL (e9)
    replace EL2:=ext_same EL2 (e9)
    replace HL:=lots_ext (e9) HL
    replace eT:=ext_same eT (e9)
    clear e9
    refine ⟨fun _=>eT,?_⟩
    refine F.x (i:=14) rfl (fun w'=>R_move rfl (F.at rfl)) (fun _=>eT) ?_;clear F fa;intro fa F
    refine F.x (i:=15) rfl (fun w'=>R_extract rfl (F.at rfl) (get0)) (fun _=>eT) ?_;clear F fa;intro fa F
    refine F.x (i:=16) rfl (fun w'=>R_extract rfl (F.at rfl) (getS (get0))) (fun _=>eT) ?_;clear F fa;intro fa F
    refine F.x (i:=17) rfl (fun w'=>R_assign rfl (F.at rfl)) (fun _=>eT) ?_;clear F fa;intro fa F
    refine F.x (i:=18) rfl (fun w'=>R_assign rfl (F.at rfl)) (fun _=>eT) ?_;clear F fa;intro fa F
    refine ax_done (by kernel_rfl) ?_ _
    clear eT q16_ q52_ q58_ q62_ q68_ q22_ q24_ E_ EO_ EX_ EL_ EL2_
    refine hK31 _ _ ?_
    clear hK31
    refine wp_seq_k fun K35 hK35=>?_
    refine region_x (Ext [] w38) none follows fun w39 hh eh=>?_
    have q16_:=q16
    replace q16:=keep_same hh q16
    have q52_:=q52
    replace q52:=keep_same hh q52
    have q58_:=q58
    replace q58:=keep_same hh q58
    have q62_:=q62
    replace q62:=keep_same hh q62
    have q68_:=q68
    replace q68:=keep_same hh q68
    have q22_:=q22
    replace q22:=keep_same hh q22
    have q24_:=q24
    replace q24:=keep_same hh q24
    have E_:=E
    have zEw39:=E.size
    replace E:=ext_same E eh
    have EO_:=EO
    have zEOw39:=EO.size
    replace EO:=ext_same EO eh
    have EX_:=EX
    have zEXw39:=EX.size
    replace EX:=ext_same EX eh
    have EL_:=EL
    have zELw39:=EL.size
    replace EL:=ext_same EL eh
    have EL2_:=EL2
    have zEL2w39:=EL2.size
    replace EL2:=ext_same EL2 eh
    have zbw39:=lots_lt HL
    replace HL:=lots_ext eh HL
    have eT:=eh
    clear hh eh
    refine F.x (i:=0) rfl (fun w'=>R_move rfl (F.at rfl)) (fun _=>eT) ?_;clear F fa;intro fa F
    refine F.x (i:=1) rfl (fun w'=>R_move rfl (F.at rfl)) (fun _=>eT) ?_;clear F fa;intro fa F
    obtain ⟨xb36,xo36,xa36,xr36⟩:=HS.out i (by omega)
    refine F.x (i:=2) rfl (fun w'=>R_ixSlice (sz:=11) rfl ((F.at rfl).trans (xa36 _ _)) (F.at rfl) Try.underlying32 (by kernel_rfl) (by omega) (by omega)) (fun _=>eT) ?_;clear F fa;intro fa F
    refine F.xr (i:=3) rfl (fun w' hS=>R_loadRow rfl (F.at rfl) Try.underlying28 rfl (by kernel_rfl) (xr36 _ (EO_.nil hS))) (fun _=>eT) ?_;clear F fa;intro fa F
    refine F.x (i:=4) rfl (fun w'=>R_move rfl (F.at rfl)) (fun _=>eT) ?_;clear F fa;intro fa F
    refine F.x (i:=5) rfl (fun w'=>R_move rfl (F.at rfl)) (fun _=>eT) ?_;clear F fa;intro fa F
    obtain ⟨xb37,xo37,xa37,xr37⟩:=HS1.out k (by omega)
    refine F.x (i:=6) rfl (fun w'=>R_ixSlice (sz:=1) rfl ((F.at rfl).trans (xa37 _ _)) (F.at rfl) Try.underlying29 (by kernel_rfl) (by omega) (by omega)) (fun _=>eT) ?_;clear F fa;intro fa F
    refine F.xr (i:=7) rfl (fun w' hS=>R_load rfl (F.at rfl) Try.underlying3 rfl (xr37 _ (EL_.nil hS) 0 _ rfl)) (fun _=>eT) ?_;clear F fa;intro fa F
    refine F.x (i:=8) rfl (fun w'=>R_move rfl (F.at rfl)) (fun _=>eT) ?_;clear F fa;intro fa F
    refine F.x (i:=9) rfl (fun w'=>R_move rfl (F.at rfl)) (fun _=>eT) ?_;clear F fa;intro fa F
    obtain ⟨xb38,xo38,xa38,xr38⟩:=HS3.out k (by omega)
    refine F.x (i:=10) rfl (fun w'=>R_ixSlice (sz:=1) rfl ((F.at rfl).trans (xa38 _ _)) (F.at rfl) Try.underlying29 (by kernel_rfl) (by omega) (by omega)) (fun _=>eT) ?_;clear F fa;intro fa F
    refine F.xr (i:=11) rfl (fun w' hS=>R_load rfl (F.at rfl) Try.underlying3 rfl (xr38 _ (EL_.nil hS) 0 _ rfl)) (fun _=>eT) ?_;clear F fa;intro fa F
    refine F.x (i:=12) rfl (fun w'=>R_move rfl (F.at rfl)) (fun _=>eT) ?_;clear F fa;intro fa F
    refine F.x (i:=13) rfl (fun w'=>R_move rfl (F.at rfl)) (fun _=>eT) ?_;clear F fa;intro fa F
    obtain ⟨xb39,xo39,xa39,xr39⟩:=HS2.out k (by omega)
    refine F.x (i:=14) rfl (fun w'=>R_ixSlice (sz:=1) rfl ((F.at rfl).trans (xa39 _ _)) (F.at rfl) Try.underlying29 (by kernel_rfl) (by omega) (by omega)) (fun _=>eT) ?_;clear F fa;intro fa F
    refine F.xr (i:=15) rfl (fun w' hS=>R_load rfl (F.at rfl) Try.underlying3 rfl (xr39 _ (EL_.nil hS) 0 _ rfl)) (fun _=>eT) ?_;clear F fa;intro fa F
    refine ax_only (i:=16) (by kernel_rfl) (op_call F rfl rfl (by decide) rfl (R_callV rfl rfl Try.call64 (mpS (F.at rfl) (mpS (F.at rfl) (mpS (F.at rfl) (mpS (F.at rfl) mp0))))) (refWider_any (tsI ts i).t hnn (tsI ts i).ga (tsI ts i).ra (tsI ts i).la (tsI ts i).gc (tsI ts i).rc (tsI ts i).lc _ (HA.out i (by omega) _ EO) m1 m2 m3 _ _ _) fun e w40 hR=>?_)
    obtain ⟨rfl,e9⟩:=hR
    refine ⟨_,rfl,?_⟩;clear F fa;intro fa F
    replace q16:=(e9).keep0 q16
    replace q52:=(e9).keep0 q52
    replace q58:=(e9).keep0 q58
    replace q62:=(e9).keep0 q62
    replace q68:=(e9).keep0 q68
    replace q22:=(e9).keep0 q22
    replace q24:=(e9).keep0 q24
    replace E:=ext_same E (e9)
    replace EO:=ext_same EO (e9)
    replace EX:=ext_same EX (e9)
    replace EL:=ext_same EL (e9)
    replace EL2:=ext_same EL2 (e9)
    replace HL:=lots_ext (e9) HL
    replace eT:=ext_same eT (e9)
    clear e9
    refine ⟨fun _=>eT,?_⟩
    refine F.x (i:=17) rfl (fun w'=>R_move rfl (F.at rfl)) (fun _=>eT) ?_;clear F fa;intro fa F
    refine F.x (i:=18) rfl (fun w'=>R_extract rfl (F.at rfl) (get0)) (fun _=>eT) ?_;clear F fa;intro fa F
    refine F.x (i:=19) rfl (fun w'=>R_extract rfl (F.at rfl) (getS (get0))) (fun _=>eT) ?_;clear F fa;intro fa F
    refine F.x (i:=20) rfl (fun w'=>R_assign rfl (F.at rfl)) (fun _=>eT) ?_;clear F fa;intro fa F
    refine F.x (i:=21) rfl (fun w'=>R_assign rfl (F.at rfl)) (fun _=>eT) ?_;clear F fa;intro fa F
    refine ax_done (by kernel_rfl) ?_ _
    clear eT q16_ q52_ q58_ q62_ q68_ q22_ q24_ E_ EO_ EX_ EL_ EL2_
    refine hK35 _ _ ?_
    clear hK35
    refine wp_seq_k fun K40 hK40=>?_
    refine wp_region_lit ?_
    refine F.vl (R_loadBlk rfl (F.at rfl) Try.underlying23 rfl (by kernel_rfl) q22) ?_;clear F fa;intro fa F
    refine F.vl (R_loadBlk rfl (F.at rfl) Try.underlying23 rfl (by kernel_rfl) q24) ?_;clear F fa;intro fa F
    refine F.vl (R_neqBt (r:=false) rfl (F.at rfl) (F.at rfl) (decide_eq_true (⟨rfl,rfl⟩))) ?_;clear F fa;intro fa F
    refine F.mv ?_;clear F fa;intro fa F
    refine F.mv ?_ (hw:=(wantT F rfl rfl (by decide) rfl));clear F fa;intro fa F
    refine F.mv ?_ (hw:=(wantT F rfl rfl (by decide) rfl));clear F fa;intro fa F
    refine F.vl (R_neqB (b:=false) rfl (F.at rfl) (F.at rfl) (decide_eq_true ((by omega)))) ?_ (hw:=(wantT F rfl rfl (by decide) rfl));clear F fa;intro fa F
    refine F.vl (R_pickF rfl (F.at rfl) (F.at rfl)) ?_;clear F fa;intro fa F
    refine F.mv ?_;clear F fa;intro fa F
    refine F.mv ?_ (hw:=(wantT F rfl rfl (by decide) rfl));clear F fa;intro fa F
    refine F.mv ?_ (hw:=(wantT F rfl rfl (by decide) rfl));clear F fa;intro fa F
    refine F.vl (R_neqB (b:=false) rfl (F.at rfl) (F.at rfl) (decide_eq_true ((by omega)))) ?_ (hw:=(wantT F rfl rfl (by decide) rfl));clear F fa;intro fa F
    refine F.vl (R_pickF rfl (F.at rfl) (F.at rfl)) ?_;clear F fa;intro fa F
    refine F.mv ?_;clear F fa;intro fa F
    refine F.mv ?_ (hw:=(wantT F rfl rfl (by decide) rfl));clear F fa;intro fa F
    refine F.mv ?_ (hw:=(wantT F rfl rfl (by decide) rfl));clear F fa;intro fa F
    refine F.vl (R_neqB (b:=false) rfl (F.at rfl) (F.at rfl) (decide_eq_true ((by omega)))) ?_ (hw:=(wantT F rfl rfl (by decide) rfl));clear F fa;intro fa F
    refine F.vl (R_pickF rfl (F.at rfl) (F.at rfl)) ?_;clear F fa;intro fa F
    refine wpList_nil ?_
    refine hK40 _ _ ?_
    clear hK40
    refine cd_F F rfl ?_
    refine wp_skip ?_
    refine hK19 _ _ ?_
    clear hK19
    refine wp_region_lit ?_
    refine F.mv ?_;clear F fa;intro fa F
    refine F.vl (R_add rfl (F.at rfl) (ev_c fa _) (by omega) (by omega)) ?_;clear F fa;intro fa F
    refine F.as ?_;clear F fa;intro fa F
    refine wpList_nil ?_
    show _ ∧ _
    exact ⟨by omega,_,⟨rfl,EL2⟩,F.sub (.c 21 rfl (.c 1 rfl (.c 2 rfl (.c 3 rfl (.c 4 rfl (.c 13 rfl (.c 14 rfl (.c 15 rfl (.c 16 rfl (.c 17 rfl (.c 18 rfl (.c 19 rfl (.c 20 rfl .n)))))))))))))⟩
   ·skip
    refine wp_exit ?_
    refine hK15 _ _ ?_
    clear hK15
    refine wp_seq_k fun K41 hK41=>?_
    refine wp_region_st 5 follows (by kernel_rfl) fun w41 hh eh=>?_
    replace q6:=keep_same hh q6
    replace q16:=keep_same hh q16
    replace q52:=keep_same hh q52
    replace q58:=keep_same hh q58
    replace q62:=keep_same hh q62
    replace q68:=keep_same hh q68
    replace E:=ext_same E eh
    replace EO:=ext_same EO eh
    replace EX:=ext_same EX eh
    replace EL:=ext_same EL eh
    replace HL:=lots_ext eh HL
    clear hh eh
    refine F.sv (R_loadBlk rfl (F.at rfl) Try.underlying28 rfl (by kernel_rfl) q16) ?_;clear F fa;intro fa F
    refine F.smv ?_;clear F fa;intro fa F
    refine F.smv ?_;clear F fa;intro fa F
    obtain ⟨xb42,xo42,xa42,xr42⟩:=HS.out i (by omega)
    refine F.sv (R_ixSlice (sz:=11) rfl ((F.at rfl).trans (xa42 _ _)) (F.at rfl) Try.underlying32 (by kernel_rfl) (by omega) (by omega)) ?_;clear F fa;intro fa F
    refine F.sv (R_loadRow rfl (F.at rfl) Try.underlying28 rfl (by kernel_rfl) (xr42 _ EO)) ?_;clear F fa;intro fa F
    refine wpStill_nil ?_
    refine sq_call F rfl (by decide) rfl (R_callV rfl rfl Try.call37 (mpS (F.at rfl) (mpS (F.at rfl) mp0))) (sameTapes_yes (tsI ts i).t gxa rxa lxa (tsI ts i).ga (tsI ts i).ra (tsI ts i).la gxc rxc lxc (tsI ts i).gc (tsI ts i).rc (tsI ts i).lc _ (HX.out _ EX) (HA.out i (by omega) _ EO) m1 m2 m3) fun e w42 hR=>?_
    obtain ⟨rfl,e9⟩:=hR
    refine ⟨_,rfl,?_⟩;clear F fa;intro fa F
    replace q6:=(e9).keep0 q6
    replace q16:=(e9).keep0 q16
    replace q52:=(e9).keep0 q52
    replace q58:=(e9).keep0 q58
    replace q62:=(e9).keep0 q62
    replace q68:=(e9).keep0 q68
    replace E:=ext_same E (e9)
    replace EO:=ext_same EO (e9)
    replace EX:=ext_same EX (e9)
    replace EL:=ext_same EL (e9)
    replace HL:=lots_ext (e9) HL
    clear e9
    refine F.vl (R_not rfl (F.at rfl)) ?_;clear F fa;intro fa F
    refine wpList_nil ?_
    refine hK41 _ _ ?_
    clear hK41
    refine cd_F F rfl ?_
    refine wp_skip ?_
    refine hK11 _ _ ?_
    clear hK11
    refine wp_region_lit ?_
    refine F.mv ?_;clear F fa;intro fa F
    refine F.vl (R_add rfl (F.at rfl) (ev_c fa _) (by omega) (by omega)) ?_;clear F fa;intro fa F
    refine F.as ?_;clear F fa;intro fa F
    refine wpList_nil ?_
    replace HL : LotsOk w0 w42 b (0 + 210 + 6 * (i + 1)) (.slice a5 len5 cap5):=lots_mono HL (by omega)
    show _ ∧ _
    exact ⟨by omega,_,⟨rfl,E,EO,q6,HL⟩,F.sub (.c 15 rfl (.c 1 rfl (.c 2 rfl (.c 3 rfl (.c 4 rfl (.c 13 rfl (.c 14 rfl .n)))))))⟩
  ·skip
   refine wp_exit ?_
   refine hK7 _ _ ?_
   clear hK7
   refine wp_seq_k fun K43 hK43=>?_
   refine wp_region_lit ?_
   refine sq_call F rfl (by decide) rfl (R_callV rfl rfl Try.call25 mp0) (taken_any _) fun e w43 hR=>?_
   obtain ⟨rfl,e9⟩:=hR
   refine ⟨_,rfl,?_⟩;clear F fa;intro fa F
   replace q6:=(e9).keep0 q6
   replace E:=ext_same E (e9)
   replace EO:=ext_same EO (e9)
   replace HL:=lots_ext (e9) HL
   clear e9
   refine F.as ?_;clear F fa;intro fa F
   refine wpList_nil ?_
   refine hK43 _ _ ?_
   clear hK43
   refine wp_ret ?_
   (try simp only [Exit.inBlock,Exit.then])
   refine rt_v F (rs_1 F rfl rfl) ?_
   exact ⟨rfl,E⟩
end Go.Proofs.Ytholfdgebdlgjaa
namespace Go.Proofs.Ytholfdgebdlgjaa
open Go.ChangeShapes Go.WideShapes
section
variable {H : Type} {enc : TypeId × Value → H} {P : Program} {w : World}
theorem open_struct_ints {t : TypeId} {fs : Array Field} {base fuel : Nat} {spare : Nat → Bool} {held : Bool} {cs : List Value} {x : DataW H × List MemPlace} (ht : P.underlying t = some (.struct fs)) (hsz : P.cellsOf t = fs.size)
  (hf : ∀ (i : Nat) (f : Field),fs[i]? = some f → P.underlying f.type = some (.int .i64) ∧ P.cellsOf f.type = 1 ∧ f.offset = i) (h : DataW.trod enc P w base spare held fuel t cs = some x) :
  ∃ zs : List Int,cs = zs.map (Value.int .i64) ∧ zs.length = fs.size:=by
 obtain ⟨xs,n,-,-,hl,hxl,hx⟩:=DataW.trod_struct ht h
 have each : ∀ i : Nat,i < fs.size → ∃ m : Int,cs[i]? = some (.int .i64 m):=by
  intro i hi
  have hg : fs[i]? = some fs[i]:=Array.getElem?_eq_getElem hi
  obtain ⟨f1,f2,f3⟩:=hf i _ hg
  have hq:=hx i _ hg
  rw [f2,f3,List.getElem?_eq_getElem (by omega)] at hq
  obtain ⟨m,hm,-,-⟩:=DataW.trod_int f1 hq
  exact ⟨m,cell_of_cut hm⟩
 refine ⟨cs.map fun v=>match v with | .int _ m=>m | _=>0,?_,by simp [hl,hsz]⟩
 rw [List.map_map]
 refine List.ext_getElem? fun i=>?_
 by_cases hi : i < fs.size
 ·obtain ⟨m,hm⟩:=each i hi
  rw [List.getElem?_map,hm];rfl
 ·rw [List.getElem?_eq_none (by omega),List.getElem?_eq_none (by simp;omega)]
theorem open_rows {t e : TypeId} {fuel sz : Nat} {cs : List Value} {x : DataW H × List MemPlace} (ht : P.underlying t = some (.slice e)) (hsz : P.cellsOf e = sz) (h0 : 0 < sz)
  (hE : ∀ n cs y,DataW.trod enc P w 0 (fun _=>true) true n e cs = some y → ∃ zs : List Int,cs = zs.map (Value.int .i64) ∧ zs.length = sz)
  (h : DataW.trod enc P w 0 (fun _=>true) true fuel t cs = some x) :
  ∃ (a : Option Addr) (c : Nat) (rows : List (List Int)),cs = [.slice a rows.length c] ∧ (∀ r ∈ rows,r.length = sz) ∧ IsRows w (.slice a rows.length c) sz (rows.map (List.map (Value.int .i64))):=by
 rcases DataW.trod_slice ht h with ⟨rfl,-⟩ | ⟨a,len,cap,elems,rest,n,-,rfl,-,-,-,-,hlen,hel,-,-⟩
 ·exact ⟨none,0,[],rfl,by simp,⟨none,0,rfl,by simp,fun h=>absurd rfl h⟩⟩
 have each : ∀ i,∃ zs : List Int,i < len → zs.length = sz ∧ ∀ j,j < sz → w.cell? ((a.add (i * sz)).add j) = (zs.map (Value.int .i64))[j]?:=by
  intro i
  by_cases hi : i < len
  ·have hq:=hel i hi
   rw [List.getElem?_eq_getElem (by omega),Option.bind_eq_some_iff] at hq
   obtain ⟨ci,h1,h2⟩:=hq
   obtain ⟨zs,rfl,hz⟩:=hE _ _ _ h2
   rw [hsz] at h1
   exact ⟨zs,fun _=>⟨hz,(World.cells?_some h1).2.2⟩⟩
  ·exact ⟨[],fun h=>absurd h hi⟩
 obtain ⟨f,hf⟩ : ∃ f : Nat → List Int,∀ i,i < len → (f i).length = sz ∧ ∀ j,j < sz → w.cell? ((a.add (i * sz)).add j) = ((f i).map (Value.int .i64))[j]?:=⟨fun i=>Classical.choose (each i),fun i=>Classical.choose_spec (each i)⟩
 have hL : ((List.range len).map f).length = len:=by simp
 refine ⟨some a,cap,(List.range len).map f,by rw [hL],?_,?_⟩
 ·intro r hr
  obtain ⟨i,hi,rfl⟩:=List.mem_map.1 hr
  exact (hf i (List.mem_range.1 hi)).1
 ·refine ⟨some a,cap,by simp,?_,fun hne=>?_⟩
  ·intro r hr
   obtain ⟨r',hr',rfl⟩:=List.mem_map.1 hr
   obtain ⟨i,hi,rfl⟩:=List.mem_map.1 hr'
   rw [List.length_map]
   exact (hf i (List.mem_range.1 hi)).1
  ·have hp : 0 < len:=by
    rcases Nat.eq_zero_or_pos len with rfl | h
    ·exact absurd rfl hne
    ·exact h
   obtain ⟨l0,c0⟩:=hf 0 hp
   have c00:=c0 0 h0
   have ha0 : (a.add (0 * sz)).add 0 = a:=by rw [Nat.zero_mul];rfl
   rw [ha0,List.getElem?_eq_getElem (by simp;omega)] at c00
   obtain ⟨b,off,spot⟩:=a
   have hs : spot = none:=by
    cases spot with
    | none=>rfl
    | some k =>
     unfold World.cell? at c00
     split at c00 <;> simp at c00
   subst hs
   have hb : b < w.heap.size:=by
    unfold World.cell? at c00
    cases hq : w.heap[b]? with
    | none=>simp [hq] at c00
    | some o=>exact (Array.getElem?_eq_some_iff.1 hq).1
   refine ⟨b,off,rfl,hb,fun i j r hi hj=>?_⟩
   have hil : i < len:=by have:=(List.getElem?_eq_some_iff.1 hi).1;simpa using this
   have hr : r = (f i).map (Value.int .i64):=by simpa [hil] using hi.symm
   have:=(hf i hil).2 j hj
   rw [add_plain,add_plain] at this
   rw [this,hr]
end
theorem rows2 : ∀ (rows : List (List Int)),(∀ r ∈ rows,r.length = 2) → ∃ gr : List (Int × Int),gr.length = rows.length ∧ rows.map (List.map (Value.int .i64)) = gr.map grRow
 | [],_=>⟨[],rfl,rfl⟩
 | r :: rows,h=>by
  obtain ⟨gr,h1,h2⟩:=rows2 rows fun x hx=>h x (List.mem_cons_of_mem _ hx)
  match r,h r (List.mem_cons_self ..) with
  | [a,b],_=>exact ⟨(a,b) :: gr,by simp [h1],by simp [h2,grRow]⟩
theorem rows4 : ∀ (rows : List (List Int)),(∀ r ∈ rows,r.length = 4) → ∃ gr : List (Int × Int × Int × Int),gr.length = rows.length ∧ rows.map (List.map (Value.int .i64)) = gr.map rdRow
 | [],_=>⟨[],rfl,rfl⟩
 | r :: rows,h=>by
  obtain ⟨gr,h1,h2⟩:=rows4 rows fun x hx=>h x (List.mem_cons_of_mem _ hx)
  match r,h r (List.mem_cons_self ..) with
  | [a,b,c,d],_=>exact ⟨(a,b,c,d) :: gr,by simp [h1],by simp [h2,rdRow]⟩
theorem rows6 : ∀ (rows : List (List Int)),(∀ r ∈ rows,r.length = 6) → ∃ gr : List (Int × Int × Int × Int × Int × Int),gr.length = rows.length ∧ rows.map (List.map (Value.int .i64)) = gr.map lkRow
 | [],_=>⟨[],rfl,rfl⟩
 | r :: rows,h=>by
  obtain ⟨gr,h1,h2⟩:=rows6 rows fun x hx=>h x (List.mem_cons_of_mem _ hx)
  match r,h r (List.mem_cons_self ..) with
  | [a,b,c,d,e,f],_=>exact ⟨(a,b,c,d,e,f) :: gr,by simp [h1],by simp [h2,lkRow]⟩
theorem int_one : Try.prog.cellsOf 3 = 1:=by kernel_rfl
theorem list11 {l : List Value} (h : l.length = 11) : ∃ c0 c1 c2 c3 c4 c5 c6 c7 c8 c9 c10,l = [c0,c1,c2,c3,c4,c5,c6,c7,c8,c9,c10]:=by
 match l,h with
 | [c0,c1,c2,c3,c4,c5,c6,c7,c8,c9,c10],_=>exact ⟨_,_,_,_,_,_,_,_,_,_,_,rfl⟩
theorem open_bt {H : Type} {enc : TypeId × Value → H} {w : World} (n : Nat) (cs : List Value) (y : DataW H × List MemPlace) (h : DataW.trod enc Try.prog w 0 (fun _=>true) true n 23 cs = some y) : ∃ zs : List Int,cs = zs.map (Value.int .i64) ∧ zs.length = 2:=
 open_struct_ints Try.underlying23 (by kernel_rfl) (by intro i f h;rcases i with _ | _ | i <;> simp at h <;> subst h <;> exact ⟨Try.underlying3,int_one,rfl⟩) h
theorem open_rd {H : Type} {enc : TypeId × Value → H} {w : World} (n : Nat) (cs : List Value) (y : DataW H × List MemPlace) (h : DataW.trod enc Try.prog w 0 (fun _=>true) true n 66 cs = some y) : ∃ zs : List Int,cs = zs.map (Value.int .i64) ∧ zs.length = 4:=
 open_struct_ints Try.underlying66 (by kernel_rfl) (by intro i f h;rcases i with _ | _ | _ | _ | i <;> simp at h <;> subst h <;> exact ⟨Try.underlying3,int_one,rfl⟩) h
theorem list6 {l : List Value} (h : l.length = 6) : ∃ c0 c1 c2 c3 c4 c5,l = [c0,c1,c2,c3,c4,c5]:=by
 match l,h with
 | [c0,c1,c2,c3,c4,c5],_=>exact ⟨_,_,_,_,_,_,rfl⟩
theorem open_one {H : Type} {enc : TypeId × Value → H} {w : World} {m : Nat} (c : Value) (y : DataW H × List MemPlace) (h : DataW.trod enc Try.prog w 0 (fun _=>true) true m 3 [c] = some y) : ∃ k : Int,c = .int .i64 k:=by
 obtain ⟨k,hk,-,-⟩:=DataW.trod_int Try.underlying3 h
 simp at hk
 exact ⟨k,hk⟩
theorem open_lk {H : Type} {enc : TypeId × Value → H} {w : World} (n : Nat) (cs : List Value) (y : DataW H × List MemPlace) (h : DataW.trod enc Try.prog w 0 (fun _=>true) true n 75 cs = some y) : ∃ zs : List Int,cs = zs.map (Value.int .i64) ∧ zs.length = 6:=by
 obtain ⟨xs,m,-,-,hl,hxl,hx⟩:=DataW.trod_struct Try.underlying75 h
 obtain ⟨c0,c1,c2,c3,c4,c5,rfl⟩:=list6 (hl.trans (by kernel_rfl))
 have get : ∀ i : Nat,i < 5 → ∃ y,xs[i]? = some y:=fun i hi=>⟨_,List.getElem?_eq_getElem (by rw [hxl];exact hi)⟩
 obtain ⟨y0,e0⟩:=get 0 (by omega)
 obtain ⟨y1,e1⟩:=get 1 (by omega)
 obtain ⟨y2,e2⟩:=get 2 (by omega)
 obtain ⟨y3,e3⟩:=get 3 (by omega)
 obtain ⟨y4,e4⟩:=get 4 (by omega)
 have u0 : DataW.trod enc Try.prog w 0 (fun _=>true) true m 3 (([c0,c1,c2,c3,c4,c5].drop 0).take (Try.prog.cellsOf 3)) = some y0:=(hx 0 _ rfl).trans e0
 have u1 : DataW.trod enc Try.prog w 0 (fun _=>true) true m 3 (([c0,c1,c2,c3,c4,c5].drop 1).take (Try.prog.cellsOf 3)) = some y1:=(hx 1 _ rfl).trans e1
 have u2 : DataW.trod enc Try.prog w 0 (fun _=>true) true m 3 (([c0,c1,c2,c3,c4,c5].drop 2).take (Try.prog.cellsOf 3)) = some y2:=(hx 2 _ rfl).trans e2
 have u3 : DataW.trod enc Try.prog w 0 (fun _=>true) true m 3 (([c0,c1,c2,c3,c4,c5].drop 3).take (Try.prog.cellsOf 3)) = some y3:=(hx 3 _ rfl).trans e3
 have u4 : DataW.trod enc Try.prog w 0 (fun _=>true) true m 23 (([c0,c1,c2,c3,c4,c5].drop 4).take (Try.prog.cellsOf 23)) = some y4:=(hx 4 _ rfl).trans e4
 have d2 : Try.prog.cellsOf 23 = 2:=by kernel_rfl
 simp only [int_one,d2,List.drop_succ_cons,List.drop_zero,List.take_succ_cons,List.take_zero] at u0 u1 u2 u3 u4
 obtain ⟨a0,rfl⟩:=open_one _ _ u0
 obtain ⟨a1,rfl⟩:=open_one _ _ u1
 obtain ⟨a2,rfl⟩:=open_one _ _ u2
 obtain ⟨a3,rfl⟩:=open_one _ _ u3
 obtain ⟨bd,hbd,hbl⟩:=open_bt _ _ _ u4
 match bd,hbl with
 | [b1,b2],_ =>
  simp only [List.map_cons,List.map_nil,List.cons.injEq,and_true] at hbd
  obtain ⟨rfl,rfl⟩:=hbd
  exact ⟨[a0,a1,a2,a3,b1,b2],rfl,rfl⟩
theorem open_tapes {H : Type} {enc : TypeId × Value → H} {w : World} {n : Nat} {cs : List Value} {y : DataW H × List MemPlace} (h : DataW.trod enc Try.prog w 0 (fun _=>true) true n 28 cs = some y) :
  ∃ (t : Tp) (ga ra la : Option Addr) (gc rc lc : Nat),cs = [.int .i64 t.S,.int .i64 t.A,.int .i64 t.T,.int .i64 t.bl,.int .i64 t.bm,.int .i64 t.pl,.int .i64 t.pm,.int .i64 t.sl,.slice ga t.gr.length gc,.slice ra t.rd.length rc,.slice la t.lk.length lc] ∧
   IsTp w (.slice ga t.gr.length gc) (.slice ra t.rd.length rc) (.slice la t.lk.length lc) t:=by
 obtain ⟨xs,m,-,-,hl,hxl,hx⟩:=DataW.trod_struct Try.underlying28 h
 obtain ⟨c0,c1,c2,c3,c4,c5,c6,c7,c8,c9,c10,rfl⟩:=list11 (hl.trans (by kernel_rfl))
 have get : ∀ i : Nat,i < 9 → ∃ y,xs[i]? = some y:=fun i hi=>⟨_,List.getElem?_eq_getElem (by rw [hxl];exact hi)⟩
 obtain ⟨y0,e0⟩:=get 0 (by omega)
 obtain ⟨y1,e1⟩:=get 1 (by omega)
 obtain ⟨y2,e2⟩:=get 2 (by omega)
 obtain ⟨y3,e3⟩:=get 3 (by omega)
 obtain ⟨y4,e4⟩:=get 4 (by omega)
 obtain ⟨y5,e5⟩:=get 5 (by omega)
 obtain ⟨y6,e6⟩:=get 6 (by omega)
 obtain ⟨y7,e7⟩:=get 7 (by omega)
 obtain ⟨y8,e8⟩:=get 8 (by omega)
 have u0 : DataW.trod enc Try.prog w 0 (fun _=>true) true m 3 (([c0,c1,c2,c3,c4,c5,c6,c7,c8,c9,c10].drop 0).take (Try.prog.cellsOf 3)) = some y0:=(hx 0 _ rfl).trans e0
 have u1 : DataW.trod enc Try.prog w 0 (fun _=>true) true m 3 (([c0,c1,c2,c3,c4,c5,c6,c7,c8,c9,c10].drop 1).take (Try.prog.cellsOf 3)) = some y1:=(hx 1 _ rfl).trans e1
 have u2 : DataW.trod enc Try.prog w 0 (fun _=>true) true m 3 (([c0,c1,c2,c3,c4,c5,c6,c7,c8,c9,c10].drop 2).take (Try.prog.cellsOf 3)) = some y2:=(hx 2 _ rfl).trans e2
 have u3 : DataW.trod enc Try.prog w 0 (fun _=>true) true m 23 (([c0,c1,c2,c3,c4,c5,c6,c7,c8,c9,c10].drop 3).take (Try.prog.cellsOf 23)) = some y3:=(hx 3 _ rfl).trans e3
 have u4 : DataW.trod enc Try.prog w 0 (fun _=>true) true m 23 (([c0,c1,c2,c3,c4,c5,c6,c7,c8,c9,c10].drop 5).take (Try.prog.cellsOf 23)) = some y4:=(hx 4 _ rfl).trans e4
 have u5 : DataW.trod enc Try.prog w 0 (fun _=>true) true m 3 (([c0,c1,c2,c3,c4,c5,c6,c7,c8,c9,c10].drop 7).take (Try.prog.cellsOf 3)) = some y5:=(hx 5 _ rfl).trans e5
 have u6 : DataW.trod enc Try.prog w 0 (fun _=>true) true m 24 (([c0,c1,c2,c3,c4,c5,c6,c7,c8,c9,c10].drop 8).take (Try.prog.cellsOf 24)) = some y6:=(hx 6 _ rfl).trans e6
 have u7 : DataW.trod enc Try.prog w 0 (fun _=>true) true m 25 (([c0,c1,c2,c3,c4,c5,c6,c7,c8,c9,c10].drop 9).take (Try.prog.cellsOf 25)) = some y7:=(hx 7 _ rfl).trans e7
 have u8 : DataW.trod enc Try.prog w 0 (fun _=>true) true m 26 (([c0,c1,c2,c3,c4,c5,c6,c7,c8,c9,c10].drop 10).take (Try.prog.cellsOf 26)) = some y8:=(hx 8 _ rfl).trans e8
 have d2 : Try.prog.cellsOf 23 = 2:=by kernel_rfl
 have s24 : Try.prog.cellsOf 24 = 1:=by kernel_rfl
 have s25 : Try.prog.cellsOf 25 = 1:=by kernel_rfl
 have s26 : Try.prog.cellsOf 26 = 1:=by kernel_rfl
 simp only [int_one,d2,s24,s25,s26,List.drop_succ_cons,List.drop_zero,List.take_succ_cons,List.take_zero] at u0 u1 u2 u3 u4 u5 u6 u7 u8
 obtain ⟨S,rfl⟩:=open_one _ _ u0
 obtain ⟨A,rfl⟩:=open_one _ _ u1
 obtain ⟨T,rfl⟩:=open_one _ _ u2
 obtain ⟨sl,rfl⟩:=open_one _ _ u5
 obtain ⟨bd,hbd,hbl⟩:=open_bt _ _ _ u3
 obtain ⟨pl,hpl,hpll⟩:=open_bt _ _ _ u4
 obtain ⟨ga,gc,gr,hg,hgl,hgr⟩:=open_rows Try.underlying24 d2 (by decide) open_bt u6
 obtain ⟨ra,rc,rd,hr,hrl,hrd⟩:=open_rows Try.underlying25 (sz:=4) (by kernel_rfl) (by decide) open_rd u7
 obtain ⟨la,lc,lk,hk,hkl,hlk⟩:=open_rows Try.underlying26 (sz:=6) (by kernel_rfl) (by decide) open_lk u8
 obtain ⟨gr',g1,g2⟩:=rows2 gr hgl
 obtain ⟨rd',r1,r2⟩:=rows4 rd hrl
 obtain ⟨lk',k1,k2⟩:=rows6 lk hkl
 match bd,hbl,pl,hpll with
 | [b1,b2],_,[p1,p2],_ =>
  simp only [List.map_cons,List.map_nil,List.cons.injEq,and_true] at hbd hpl hg hr hk
  obtain ⟨rfl,rfl⟩:=hbd
  obtain ⟨rfl,rfl⟩:=hpl
  subst hg hr hk
  rw [g2,← g1] at hgr
  rw [r2,← r1] at hrd
  rw [k2,← k1] at hlk
  refine ⟨⟨S,A,T,b1,b2,p1,p2,sl,gr',rd',lk'⟩,ga,ra,la,gc,rc,lc,by simp [g1,r1,k1],⟨hgr,hrd,hlk⟩⟩
end Go.Proofs.Ytholfdgebdlgjaa
namespace Go.Proofs.Ytholfdgebdlgjaa.measureAparts
open Go.ChangeShapes Go.WideShapes Go.ChangeAt Go.RowKit
open Go.ChangeMaps (open_string shut_string)
theorem k1 : (Rows.measureApartsRow.wf (OpenSpec.ofChange Rows.measureApartsSpec) : Bool) = true:=by kernel_rfl
theorem k4 : (Try.f16.params.all (Try.pinned.checked.prog.readableRec ·) : Bool) = true:=by kernel_rfl
theorem k5 : (namedTie Try.pinned.checked.prog Rows.measureApartsRow.named Rows.measureApartsSpec.vars : Bool) = true:=by kernel_rfl
theorem k6 : ((Rows.measureApartsRow.stops == []) : Bool) = true:=by kernel_rfl
theorem k8 : ((Rows.measureApartsRow.knobs == []) : Bool) = true:=by kernel_rfl
theorem k10 : ((Rows.measureApartsRow.inPlace == Try.pinned.checked.prog.inPlace 16) : Bool) = true:=by kernel_rfl
theorem k11 : ((Rows.measureApartsRow.unfollowed == Try.pinned.checked.prog.unfollowed 16) : Bool) = true:=by kernel_rfl
theorem k12 : ((Rows.measureApartsRow.recurses == Try.pinned.checked.prog.recurses 16) : Bool) = true:=by kernel_rfl
theorem k13 : ((Rows.measureApartsRow.named == Try.pinned.checked.prog.varsNamed 16) : Bool) = true:=by kernel_rfl
theorem k14 : ((Rows.measureApartsRow.maps == (Try.f16.params.toList ++ Rows.measureApartsSpec.plain.varTypes Try.pinned.checked.prog).any (Try.pinned.checked.prog.mapsRec ·)) : Bool) = true:=by kernel_rfl
theorem k15 : ((Rows.measureApartsRow.ifaces == (Try.f16.params.toList ++ Rows.measureApartsSpec.plain.varTypes Try.pinned.checked.prog).any (Try.pinned.checked.prog.ifacesRec ·)) : Bool) = true:=by kernel_rfl
theorem k16 : ((Rows.measureApartsRow.mapsOut == Try.pinned.checked.prog.mapsAmong Try.f16.resultTypes.toList) : Bool) = true:=by kernel_rfl
theorem k17 : ((Rows.measureApartsRow.loops == (Try.f16.params.toList ++ Rows.measureApartsSpec.plain.varTypes Try.pinned.checked.prog).any (Try.pinned.checked.prog.loopsFrom ·)) : Bool) = true:=by kernel_rfl
theorem k18 : ((Rows.measureApartsRow.wideKeys == (Try.f16.params.toList ++ Rows.measureApartsSpec.plain.varTypes Try.pinned.checked.prog ++ Try.f16.resultTypes.toList).any (Try.pinned.checked.prog.wideKeysFrom ·)) : Bool) = true:=by kernel_rfl
theorem k19 : (Rows.measureApartsSpec.vars.all (Try.pinned.checked.prog.varReadable ·) : Bool) = true:=by kernel_rfl
theorem k20 : (Try.f16.resultTypes.all (fun t=>Try.pinned.checked.prog.readableRec t && decide (t < Try.pinned.checked.prog.types.size)) : Bool) = true:=by kernel_rfl
theorem k21 : ((Rows.measureApartsRow.ifacesOut == Try.f16.resultTypes.toList.any (Try.pinned.checked.prog.ifacesRec ·)) : Bool) = true:=by kernel_rfl
theorem k22 : ((Rows.measureApartsRow.loopsOut == Try.f16.resultTypes.toList.any (Try.pinned.checked.prog.loopsFrom ·)) : Bool) = true:=by kernel_rfl
theorem k23 : ((Rows.measureApartsRow.plainKeys == Try.pinned.checked.prog.plainKeys) : Bool) = true:=by kernel_rfl
theorem k24 : (Rows.measureApartsRow.shortTexts.isNone : Bool) = true:=by kernel_rfl
theorem k27 : ((Rows.measureApartsRow.lifted == Try.pinned.checked.prog.liftsFinal) : Bool) = true:=(congrArg (fun x=>(Rows.measureApartsRow.lifted == x)) liftsFinal).trans (by kernel_rfl)
theorem k28 : ((Try.pinned.checked.prog.make == some Rows.measureApartsRow.make) : Bool) = true:=(congrArg (fun x=>(x == some Rows.measureApartsRow.make)) made).trans (by kernel_rfl)
theorem k29 : ((Rows.measureApartsRow.domain.isEmpty && Rows.measureApartsRow.kinds == []) : Bool) = true:=by kernel_rfl
theorem k30 : ((Rows.measureApartsRow.pinned == Rows.measureApartsRow.pinnedBy) : Bool) = true:=by kernel_rfl
theorem k31 : ((Rows.measureApartsRow.veiled == (Try.f16.params.toList ++ Rows.measureApartsSpec.plain.varTypes Try.pinned.checked.prog ++ Try.f16.resultTypes.toList).any (Try.pinned.checked.prog.veiledRec ·)) : Bool) = true:=by kernel_rfl
theorem k32 : (Rows.measureApartsRow.veiledFits Try.pinned.checked.prog Try.f16.params.toList (Try.f16.params.toList ++ Rows.measureApartsSpec.plain.varTypes Try.pinned.checked.prog ++ Try.f16.resultTypes.toList) : Bool) = true:=by kernel_rfl
theorem closed : joinedFacts Try.pinned.checked.prog 16 Try.f16 Rows.measureApartsSpec Rows.measureApartsRow = true:=joinedFacts_of k1 laidAll mapsAll k4 k5 k6 stopsNone k8 knobsNone k10 k11 k12 k13 k14 k15 k16 k17 k18 k19 k20 k21 k22 k23 k24 stopsHeard mayEnter k27 k28 k29 k30 k31 k32
theorem named : Try.pinned.checked.prog.funcNamed Rows.measureApartsRow.func = some 16:=by kernel_rfl
theorem inst : Try.f16.isInstance Try.pinned.checked.prog Rows.measureApartsRow.origin Rows.measureApartsRow.targs:=of_decide_eq_true (by kernel_rfl)
theorem wrap : Try.f16.isWrapper Try.pinned.checked.prog Rows.measureApartsRow.wrapper Rows.measureApartsRow.mainSum:=by unfold Func.isWrapper;first | (rw [if_pos (by decide +kernel)];kernel_rfl) | (rw [if_neg (by decide +kernel)];exact ⟨rfl,rfl⟩)
theorem laidOut : laidOutB Try.prog = true:=laidAll
theorem noInit : Try.prog.inits.idxOf? 16 = none:=by kernel_rfl
theorem sliceInt : Try.prog.cellsOf 3 = 1:=by kernel_rfl
set_option maxRecDepth 100000 in
theorem lifted (walk : ∀ (t0 : Tp) (ga0 ra0 la0 : Option Addr) (gc0 rc0 lc0 : Nat) (x1 : Int) (x2 : Int) (x3 : Int) (x4 : Int) (a5 : Option Addr) (len5 cap5 : Nat) (z5 : List Int) (w : World),IsTp w (.slice ga0 t0.gr.length gc0) (.slice ra0 t0.rd.length rc0) (.slice la0 t0.lk.length lc0) t0 → IsRow .i64 w a5 len5 cap5 z5 →
  Calls Try.prog 16 #[tpV t0 (.slice ga0 t0.gr.length gc0) (.slice ra0 t0.rd.length rc0) (.slice la0 t0.lk.length lc0),.int .i64 x1,.int .i64 x2,.int .i64 x3,.int .i64 x4,.slice a5 len5 cap5] w fun e w'=>e = .returned (.bool true) ∧ Below w.heap.size w w') (os : Os) (started : os.Started) (H : Type) (enc : TypeId × Value → H) :
  ReturnsInHanded {} Try.checked os 16 .any (Rows.measureApartsSpec.pre6 enc Try.prog Try.f16 Rows.measureApartsRow.domain false) (Rows.measureApartsSpec.post enc Try.prog Try.f16 false true false false):=by
 refine returnsInHanded_of_change (C:=Try.checked) own started noInit Try.func16
  (ChangeSpec.witness6 (enc:=enc) (C:=Try.checked) false ⟨#[],#[.agg #[.int .i64 0,.int .i64 0,.int .i64 0,.int .i64 0,.int .i64 0,.int .i64 0,.int .i64 0,.int .i64 0,.slice none 0 0,.slice none 0 0,.slice none 0 0],.int .i64 0,.int .i64 0,.int .i64 0,.int .i64 0,.slice none 0 0],[]⟩ 8 (by as_aux_lemma=>kernel_rfl) (by as_aux_lemma=>kernel_rfl) (by as_aux_lemma=>kernel_rfl) (by as_aux_lemma=>kernel_rfl)) ?_
 intro W base args ds gs before hval0 hW hcnd _
 have hval : ∀ (j : Nat) t v,Try.f16.params[j]? = some t → args[j]? = some v → Value.okWide Try.prog W .any base t v:=hval0
 have hW':=hW
 obtain ⟨p,q,hA0,hV,rfl,hfz,hnd⟩:=hW
 have hA : DataW.TrodAll enc Try.prog W 0 (fun _=>true) true Try.f16.params.toList args.toList ds p:=hA0
 rw [Try.params16] at hA hval
 obtain ⟨v0,vs0,d0,ds0,p0,q0,hargs,rfl,rfl,h0,r0⟩:=trodAll_cons hA
 obtain ⟨v1,vs1,d1,ds1,p1,q1,rfl,rfl,rfl,h1,r1⟩:=trodAll_cons r0
 obtain ⟨v2,vs2,d2,ds2,p2,q2,rfl,rfl,rfl,h2,r2⟩:=trodAll_cons r1
 obtain ⟨v3,vs3,d3,ds3,p3,q3,rfl,rfl,rfl,h3,r3⟩:=trodAll_cons r2
 obtain ⟨v4,vs4,d4,ds4,p4,q4,rfl,rfl,rfl,h4,r4⟩:=trodAll_cons r3
 obtain ⟨v5,vs5,d5,ds5,p5,q5,rfl,rfl,rfl,h5,r5⟩:=trodAll_cons r4
 obtain ⟨rfl,rfl,rfl⟩:=trodAll_nil r5
 obtain rfl : args = #[v0,v1,v2,v3,v4,v5]:=by cases args;simp_all
 obtain ⟨rfl,rfl⟩:=trodVars_none hV
 have k0':=h0
 have lt0 : ∀ x ∈ p0,x.block < W.heap.size:=by obtain ⟨m,hm⟩:=k0';exact DataW.trod_lt m _ _ _ hm
 have k1':=h1
 have lt1 : ∀ x ∈ p1,x.block < W.heap.size:=by obtain ⟨m,hm⟩:=k1';exact DataW.trod_lt m _ _ _ hm
 have k2':=h2
 have lt2 : ∀ x ∈ p2,x.block < W.heap.size:=by obtain ⟨m,hm⟩:=k2';exact DataW.trod_lt m _ _ _ hm
 have k3':=h3
 have lt3 : ∀ x ∈ p3,x.block < W.heap.size:=by obtain ⟨m,hm⟩:=k3';exact DataW.trod_lt m _ _ _ hm
 have k4':=h4
 have lt4 : ∀ x ∈ p4,x.block < W.heap.size:=by obtain ⟨m,hm⟩:=k4';exact DataW.trod_lt m _ _ _ hm
 have k5':=h5
 have lt5 : ∀ x ∈ p5,x.block < W.heap.size:=by obtain ⟨m,hm⟩:=k5';exact DataW.trod_lt m _ _ _ hm
 obtain ⟨cs0,rfl,hcs0⟩:=okWide_struct Try.underlying28 (hval 0 28 v0 rfl rfl)
 obtain ⟨t0,ga0,ra0,la0,gc0,rc0,lc0,hl0,w0⟩ : ∃ (t : Tp) (ga ra la : Option Addr) (gc rc lc : Nat),cs0.toList = [.int .i64 t.S,.int .i64 t.A,.int .i64 t.T,.int .i64 t.bl,.int .i64 t.bm,.int .i64 t.pl,.int .i64 t.pm,.int .i64 t.sl,.slice ga t.gr.length gc,.slice ra t.rd.length rc,.slice la t.lk.length lc] ∧ IsTp W (.slice ga t.gr.length gc) (.slice ra t.rd.length rc) (.slice la t.lk.length lc) t:=by
  obtain ⟨fuel,hf⟩:=h0
  exact open_tapes hf
 obtain rfl : cs0 = #[.int .i64 t0.S,.int .i64 t0.A,.int .i64 t0.T,.int .i64 t0.bl,.int .i64 t0.bm,.int .i64 t0.pl,.int .i64 t0.pm,.int .i64 t0.sl,.slice ga0 t0.gr.length gc0,.slice ra0 t0.rd.length rc0,.slice la0 t0.lk.length lc0]:=Array.toList_inj.1 hl0
 obtain ⟨x1,rfl⟩:=okWide_int Try.underlying3 (hval 1 3 v1 rfl rfl)
 obtain ⟨x2,rfl⟩:=okWide_int Try.underlying3 (hval 2 3 v2 rfl rfl)
 obtain ⟨x3,rfl⟩:=okWide_int Try.underlying3 (hval 3 3 v3 rfl rfl)
 obtain ⟨x4,rfl⟩:=okWide_int Try.underlying3 (hval 4 3 v4 rfl rfl)
 obtain ⟨a5,len5,cap5,rfl⟩:=okWide_slice Try.underlying29 (hval 5 29 v5 rfl rfl)
 obtain ⟨z5,w5⟩ : ∃ zs,IsRow .i64 W a5 len5 cap5 zs:=by
  obtain ⟨fuel,hf⟩:=h5
  rcases open_ints Try.underlying29 Try.underlying3 sliceInt hf with ⟨hcs,_⟩ | ⟨x,l,c,zs,hcs,_,hl,hm,hz,_,hcell,hwz⟩
  ·simp [Value.cells] at hcs
   obtain ⟨rfl,rfl,rfl⟩:=hcs
   exact ⟨[],.inl ⟨rfl,rfl,rfl,rfl⟩⟩
  ·simp [Value.cells] at hcs
   obtain ⟨rfl,rfl,rfl⟩:=hcs
   exact ⟨zs,.inr ⟨_,rfl,hl,hm,by simpa using hz,hcell,hwz⟩⟩
 clear hA0 hval0
 refine (walk t0 ga0 ra0 la0 gc0 rc0 lc0 x1 x2 x3 x4 a5 len5 cap5 z5 W w0 w5).mono fun e W' ⟨he,bel⟩=>?_
 subst he
 exact ⟨_,rfl,_,_,_,[],_,[],hW',trodAll_mk1 (shut_bool Try.underlying4 _),(trodAll_cons_mk (Below.trod laidOut (by as_aux_lemma=>kernel_rfl) (of_decide_eq_true (by as_aux_lemma=>kernel_rfl)) k0' bel lt0) (trodAll_cons_mk (Below.trod laidOut (by as_aux_lemma=>kernel_rfl) (of_decide_eq_true (by as_aux_lemma=>kernel_rfl)) k1' bel lt1) (trodAll_cons_mk (Below.trod laidOut (by as_aux_lemma=>kernel_rfl) (of_decide_eq_true (by as_aux_lemma=>kernel_rfl)) k2' bel lt2) (trodAll_cons_mk (Below.trod laidOut (by as_aux_lemma=>kernel_rfl) (of_decide_eq_true (by as_aux_lemma=>kernel_rfl)) k3' bel lt3) (trodAll_cons_mk (Below.trod laidOut (by as_aux_lemma=>kernel_rfl) (of_decide_eq_true (by as_aux_lemma=>kernel_rfl)) k4' bel lt4) (trodAll_cons_mk (Below.trod laidOut (by as_aux_lemma=>kernel_rfl) (of_decide_eq_true (by as_aux_lemma=>kernel_rfl)) k5' bel lt5) trodAll_mk0)))))),rfl,bel.frame _,fun h=>by cases h⟩
theorem said_of_walk (walk : ∀ (t0 : Tp) (ga0 ra0 la0 : Option Addr) (gc0 rc0 lc0 : Nat) (x1 : Int) (x2 : Int) (x3 : Int) (x4 : Int) (a5 : Option Addr) (len5 cap5 : Nat) (z5 : List Int) (w : World),IsTp w (.slice ga0 t0.gr.length gc0) (.slice ra0 t0.rd.length rc0) (.slice la0 t0.lk.length lc0) t0 → IsRow .i64 w a5 len5 cap5 z5 →
  Calls Try.prog 16 #[tpV t0 (.slice ga0 t0.gr.length gc0) (.slice ra0 t0.rd.length rc0) (.slice la0 t0.lk.length lc0),.int .i64 x1,.int .i64 x2,.int .i64 x3,.int .i64 x4,.slice a5 len5 cap5] w fun e w'=>e = .returned (.bool true) ∧ Below w.heap.size w w') : Rows.MeasureApartsSaid:=
 OpenClaim.holds_of_wide_leaving 16 Try.f16 rfl rfl rfl rfl rfl rfl rfl ⟨rfl,rfl,rfl,rfl,rfl⟩ rfl rfl rfl rfl rfl named Try.func16 closed
  inst wrap (fun os started H enc _=>leaving_of_handed (lifted walk os started H enc))
end Go.Proofs.Ytholfdgebdlgjaa.measureAparts
namespace Go.Proofs.Ytholfdgebdlgjaa
open Go.RowKit
theorem measureAparts_said : Rows.MeasureApartsSaid:=
 measureAparts.said_of_walk fun t ga ra la gc rc lc x1 x2 x3 x4 a5 len5 cap5 z5 w ht h5=>(aparts_walk t ga ra la gc rc lc x1 x2 x3 x4 a5 len5 cap5 z5 w ht h5).mono fun _ _ ⟨h1,h2⟩=>⟨h1,h2.below⟩
end Go.Proofs.Ytholfdgebdlgjaa
