/- Parts of a proof: LNxs, Fk, FrMeasureNexts, ClMeasureNexts. No conditions. -/
import Derived.Below
import Derived.ChangeOld
import Derived.ChangeSlices
import Derived.Conc.Holds
import Derived.Leaving
import Derived.OpenShut
import Derived.ProofKit
import Derived.ShutString
import Derived.WalkKit
import Derived.WideShapes
import Derived.Test.YtholfdgebdlgjaaPN1
import Derived.Test.YtholfdgebdlgjaaPN16
set_option linter.unusedVariables false
set_option linter.unusedSimpArgs false
namespace Go.Proofs.Ytholfdgebdlgjaa
open Go.RowKit
set_option maxRecDepth 100000 in
set_option maxHeartbeats 1000000 in
theorem nexts_walk (t : Tp) (ga ra la : Option Addr) (gc rc lc : Nat) (x1 x2 : Int) (a3 : Option Addr) (len3 cap3 : Nat) (z3 : List Int) (w : World) (ht : IsTp w (.slice ga t.gr.length gc) (.slice ra t.rd.length rc) (.slice la t.lk.length lc) t) (h3' : IsRow .i64 w a3 len3 cap3 z3) :
  Calls Try.prog 4 #[tpV t (.slice ga t.gr.length gc) (.slice ra t.rd.length rc) (.slice la t.lk.length lc),.int .i64 x1,.int .i64 x2,.slice a3 len3 cap3] w fun e w'=>e = .returned (.bool true) ∧ Ext [] w w':=by
 have HN:=Lib.hid h3'
 have HT:=Lib.hid ht
 clear h3' ht
 have E : Ext [] w w:=Ext.refl _ _
 unfold tpV
 refine calls_has 101 Try.func4 rfl Try.ntmps4 (Nat.le_of_ble_eq_true rfl) ?_
 intro fa F
 refine wp_seq_k fun K1 hK1=>?_
 refine wp_region_lit ?_
 refine sq_new F rfl (by decide) rfl (R_box rfl (F.at rfl)) ?_;clear F fa;intro fa w1 F hw
 obtain ⟨n4,hn⟩ : ∃ n,n = w.heap.size:=⟨_,rfl⟩
 rw [← hn] at F
 have s4 : w.heap.size ≤ n4:=Nat.le_of_eq hn.symm
 have l4_E : w.heap.size ≤ n4:=by rw [hn];exact E.size
 replace E:=ext_alloc E hw
 have q4:=new_row hw hn
 clear hw hn
 refine F.vl (R_assign rfl (ev_c fa _)) ?_;clear F fa;intro fa F
 refine wpList_nil ?_
 refine hK1 _ _ ?_
 clear hK1
 refine wp_seq_k fun K2 hK2=>?_
 refine wp_seq_k fun K3 hK3=>?_
 refine wp_region_lit ?_
 refine F.vl (R_loadBlk rfl (F.at rfl) Try.underlying28 rfl (by kernel_rfl) q4) ?_;clear F fa;intro fa F
 refine sq_call F rfl (by decide) rfl (R_callV rfl rfl Try.call24 (mpS (F.at rfl) mp0)) (long_any t ga ra la gc rc lc _) fun e w2 hR=>?_
 obtain ⟨rfl,e9⟩:=hR
 refine ⟨_,rfl,?_⟩;clear F fa;intro fa F
 replace q4:=(e9).keep0 q4
 replace E:=ext_same E (e9)
 clear e9
 refine wpList_nil ?_
 refine hK3 _ _ ?_
 clear hK3
 refine cd_b F rfl (fun hc22=>?_) (fun hc22=>?_)
 ·skip
  refine wp_seq_k fun K4 hK4=>?_
  refine wp_region_lit ?_
  refine sq_call F rfl (by decide) rfl (R_callV rfl rfl Try.call25 mp0) (taken_any _) fun e w3 hR=>?_
  obtain ⟨rfl,e9⟩:=hR
  refine ⟨_,rfl,?_⟩;clear F fa;intro fa F
  replace q4:=(e9).keep0 q4
  replace E:=ext_same E (e9)
  clear e9
  refine F.as ?_;clear F fa;intro fa F
  refine wpList_nil ?_
  refine hK4 _ _ ?_
  clear hK4
  refine wp_ret ?_
  (try simp only [Exit.inBlock,Exit.then])
  refine rt_v F (rs_1 F rfl rfl) ?_
  exact ⟨rfl,E⟩
 ·skip
  obtain ⟨hl1,hl2,hl3⟩:=longB_no (by simpa using hc22)
  refine wp_skip ?_
  refine hK2 _ _ ?_
  clear hK2
  refine wp_seq_k fun K5 hK5=>?_
  refine region_x (Ext [] w2) none follows fun w4 hh eh=>?_
  have q4_:=q4
  replace q4:=keep_same hh q4
  have E_:=E
  have zEw4:=E.size
  replace E:=ext_same E eh
  have eT:=eh
  clear hh eh
  refine F.xr (i:=0) rfl (fun w' hS=>R_loadBlk rfl (F.at rfl) Try.underlying28 rfl (by kernel_rfl) (hS.keep q4_ (by simp))) (fun _=>eT) ?_;clear F fa;intro fa F
  refine F.x (i:=1) rfl (fun w'=>R_move rfl (F.at rfl)) (fun _=>eT) ?_;clear F fa;intro fa F
  have E0:=E
  have hzE:=E.size
  have hzT:=eT.size
  have hzq:=blk_lt q4
  refine ax_only (i:=2) (by kernel_rfl) (op_call F rfl rfl (by decide) rfl (R_callV rfl rfl Try.call27 (mpS (F.at rfl) mp0)) (newLots_any _ a3 len3 cap3 z3 (row_ext HN.out E)) fun e w5 hR=>?_)
  obtain ⟨b,rfl,hb,hb2,HL,e1⟩:=hR
  refine ⟨_,rfl,?_⟩;clear F fa;intro fa F
  replace q4:=(e1).keep0 q4
  replace E:=ext_same E (e1)
  replace eT:=ext_same eT (e1)
  clear e1
  refine ⟨fun _=>eT,?_⟩
  refine ax_only (i:=3) (by kernel_rfl) (op_call F rfl rfl (by decide) rfl (R_callV rfl rfl Try.call26 (mpS (F.at rfl) (mpS (F.at rfl) mp0))) (several_any t ga ra la gc rc lc _ _ b _ _ HL (by omega) (HT.out.ext E0 (by simp)) (by omega) (by omega) (by omega)) fun e w6 hR=>?_)
  obtain ⟨sa,ts,rfl,h3,hTs,hSm,HL,e2⟩:=hR
  refine ⟨_,rfl,?_⟩;clear F fa;intro fa F
  replace q4:=(e2).keep q4 (by simp;omega)
  replace E:=E.trans' e2 (fun i hi hl=>by simp only [List.mem_cons,List.not_mem_nil,or_false] at hi ⊢;omega)
  replace eT:=eT.trans' e2 (fun i hi hl=>by simp only [List.mem_cons,List.not_mem_nil,or_false] at hi ⊢;omega)
  refine ⟨fun _=>eT,?_⟩
  have hT0:=hTs _ (Ext.refl _ _)
  have HS:=Lib.hid (slAt_of_rows hT0.rows te0)
  have HA:=Lib.hid (show ∀ i,i < ts.length → (tsI ts i).At w6 from fun i hi=>te_at hT0 hi)
  have HM:=Lib.hid (show ∀ i,i < ts.length → (tsI ts i).Small from fun i hi=>hSm _ (getD_mem te0 hi))
  clear hT0 hTs hSm HL
  have EO : Ext [] w6 w6:=Ext.refl _ _
  refine F.x (i:=4) rfl (fun w'=>R_assign rfl (F.at rfl)) (fun _=>eT) ?_;clear F fa;intro fa F
  refine ax_done (by kernel_rfl) ?_ _
  clear eT q4_ E_
  refine hK5 _ _ ?_
  clear hK5
  refine wp_seq_k fun K6 hK6=>?_
  refine wp_seq_k fun K7 hK7=>?_
  refine wp_region_lit ?_
  refine F.vl (R_assign rfl (ev_c fa _)) ?_;clear F fa;intro fa F
  refine wpList_nil ?_
  refine hK7 _ _ ?_
  clear hK7
  refine wp_block ?_
  have F0:=F.sub (.c 1 rfl (.c 2 rfl (.c 9 rfl .n)))
  refine lp_for F0 (ts.length) (fun i Lv W=>Lv = [(10,.int .i64 ((i : Nat) : Int))] ∧ Ext [] w6 W) ⟨_,⟨rfl,Ext.refl _ _⟩,F.sub (.c 10 rfl (.c 1 rfl (.c 2 rfl (.c 9 rfl .n))))⟩ ?_
  clear F F0
  rintro i _ fa w7 hi1 ⟨rfl,EL1⟩ F
  have q4:=EL1.keep0 q4
  have E:=E.nil EL1
  have EO:=EO.nil EL1
  refine wp_seq_k fun K8 hK8=>?_
  refine wp_seq_k fun K9 hK9=>?_
  refine wp_region_lit ?_
  refine F.mv ?_;clear F fa;intro fa F
  refine F.mv ?_;clear F fa;intro fa F
  refine F.vl (R_len rfl rfl (F.at rfl) Try.underlying32) ?_;clear F fa;intro fa F
  refine F.vl (R_lss rfl (F.at rfl) (F.at rfl)) ?_;clear F fa;intro fa F
  refine wpList_nil ?_
  refine hK9 _ _ ?_
  clear hK9
  refine cd_if F rfl (fun hc31=>?_) (fun hc31=>?_)
  ·skip
   refine wp_skip ?_
   refine hK8 _ _ ?_
   clear hK8
   refine wp_seq_k fun K10 hK10=>?_
   refine wp_block ?_
   refine wp_seq_k fun K11 hK11=>?_
   obtain ⟨m1,m2,m3⟩:=HM.out i (by omega)
   refine wp_region_lit ?_
   refine F.mv ?_;clear F fa;intro fa F
   refine F.mv ?_;clear F fa;intro fa F
   obtain ⟨xb12,xo12,xa12,xr12⟩:=HS.out i (by omega)
   refine F.vl (R_ixSlice (sz:=11) rfl ((F.at rfl).trans (xa12 _ _)) (F.at rfl) Try.underlying32 (by kernel_rfl) (by omega) (by omega)) ?_;clear F fa;intro fa F
   refine F.vl (R_loadRow rfl (F.at rfl) Try.underlying28 rfl (by kernel_rfl) (xr12 _ EO)) ?_;clear F fa;intro fa F
   refine sq_call F rfl (by decide) rfl (R_callV rfl rfl Try.call28 (mpS (F.at rfl) mp0)) (copyTapes_any (tsI ts i).t (tsI ts i).ga (tsI ts i).ra (tsI ts i).la (tsI ts i).gc (tsI ts i).rc (tsI ts i).lc _ ((HA.out i (by omega)).ext EO (by simp)) m1 m2 m3) fun e w8 hR=>?_
   obtain ⟨gx,rx,lx,rfl,⟨ogx,orx,olx⟩,eX⟩:=hR
   refine ⟨_,rfl,?_⟩;clear F fa;intro fa F
   replace q4:=(eX).keep0 q4
   replace E:=ext_same E (eX)
   replace EO:=ext_same EO (eX)
   replace EL1:=ext_same EL1 (eX)
   have hTx:=tp_of_owns ogx orx olx
   obtain ⟨gxa,gxc,rfl⟩:=owns_slice ogx
   obtain ⟨rxa,rxc,rfl⟩:=owns_slice orx
   obtain ⟨lxa,lxc,rfl⟩:=owns_slice olx
   have hrc:=owns_cap orx
   clear ogx orx olx eX
   have HX:=Lib.hid hTx
   clear hTx
   have EX : Ext [] w8 w8:=Ext.refl _ _
   refine sq_new F rfl (by decide) rfl (R_alloc rfl Try.zeroValue28) ?_;clear F fa;intro fa w9 F hw
   obtain ⟨n11,hn⟩ : ∃ n,n = w8.heap.size:=⟨_,rfl⟩
   rw [← hn] at F
   have s11 : w8.heap.size ≤ n11:=Nat.le_of_eq hn.symm
   have l11_E : w.heap.size ≤ n11:=by rw [hn];exact E.size
   have l11_EO : w6.heap.size ≤ n11:=by rw [hn];exact EO.size
   have l11_EL1 : w6.heap.size ≤ n11:=by rw [hn];exact EL1.size
   have l11_EX : w8.heap.size ≤ n11:=by rw [hn];exact EX.size
   have m11_4 : n4 < n11:=by rw [hn];exact blk_lt q4
   replace q4:=keep_alloc hw q4
   replace E:=ext_alloc E hw
   replace EO:=ext_alloc EO hw
   replace EL1:=ext_alloc EL1 hw
   replace EX:=ext_alloc EX hw
   have q11:=new_row hw hn
   clear hw hn
   refine sq_to rfl rfl (R_storeRow rfl (F.at rfl) (F.at rfl) (by kernel_rfl) (by first | (simp [Value.oneCell'];done) | (simp [Value.oneCell',grRow,rdRow,lkRow];done)) q11 rfl) ?_;intro w10 hw
   replace q4:=keep_cells hw q4 (by omega)
   replace q11:=put_row hw q11 rfl
   replace E:=ext_cells E hw (fun h=>by first | exact absurd h (by omega) | simp)
   replace EO:=ext_cells EO hw (fun h=>by first | exact absurd h (by omega) | simp)
   replace EL1:=ext_cells EL1 hw (fun h=>by first | exact absurd h (by omega) | simp)
   replace EX:=ext_cells EX hw (fun h=>by first | exact absurd h (by omega) | simp)
   clear hw
   refine wpList_nil ?_
   refine hK11 _ _ ?_
   clear hK11
   refine wp_seq_k fun K13 hK13=>?_
   refine wp_region_lit ?_
   refine F.mv ?_;clear F fa;intro fa F
   refine sq_new F rfl (by decide) rfl (R_buildSliceV rfl (prS (F.at rfl) (prS (ev_c fa _) (prS (ev_c fa _) pr0))) Try.underlying29 (size:=1) (by kernel_rfl) (by decide) (by decide) Try.zeroValue3 (cells:=#[.int .i64 x1,.int .i64 0,.int .i64 1]) (by kernel_rfl)) ?_;clear F fa;intro fa w11 F hw
   obtain ⟨n40,hn⟩ : ∃ n,n = w10.heap.size:=⟨_,rfl⟩
   rw [← hn] at F
   have s40 : w10.heap.size ≤ n40:=Nat.le_of_eq hn.symm
   have l40_E : w.heap.size ≤ n40:=by rw [hn];exact E.size
   have l40_EO : w6.heap.size ≤ n40:=by rw [hn];exact EO.size
   have l40_EL1 : w6.heap.size ≤ n40:=by rw [hn];exact EL1.size
   have l40_EX : w8.heap.size ≤ n40:=by rw [hn];exact EX.size
   have m40_4 : n4 < n40:=by rw [hn];exact blk_lt q4
   have m40_11 : n11 < n40:=by rw [hn];exact blk_lt q11
   replace q4:=keep_alloc hw q4
   replace q11:=keep_alloc hw q11
   replace E:=ext_alloc E hw
   replace EO:=ext_alloc EO hw
   replace EL1:=ext_alloc EL1 hw
   replace EX:=ext_alloc EX hw
   have q40:=new_block hw hn
   clear hw hn
   refine F.mv ?_;clear F fa;intro fa F
   refine sq_new F rfl (by decide) rfl (R_buildSliceV rfl (prS (F.at rfl) (prS (ev_c fa _) (prS (ev_c fa _) pr0))) Try.underlying29 (size:=1) (by kernel_rfl) (by decide) (by decide) Try.zeroValue3 (cells:=#[.int .i64 x2,.int .i64 0,.int .i64 0]) (by kernel_rfl)) ?_;clear F fa;intro fa w12 F hw
   obtain ⟨n42,hn⟩ : ∃ n,n = w11.heap.size:=⟨_,rfl⟩
   rw [← hn] at F
   have s42 : w11.heap.size ≤ n42:=Nat.le_of_eq hn.symm
   have l42_E : w.heap.size ≤ n42:=by rw [hn];exact E.size
   have l42_EO : w6.heap.size ≤ n42:=by rw [hn];exact EO.size
   have l42_EL1 : w6.heap.size ≤ n42:=by rw [hn];exact EL1.size
   have l42_EX : w8.heap.size ≤ n42:=by rw [hn];exact EX.size
   have m42_4 : n4 < n42:=by rw [hn];exact blk_lt q4
   have m42_11 : n11 < n42:=by rw [hn];exact blk_lt q11
   have m42_40 : n40 < n42:=by rw [hn];exact blk_lt q40
   replace q4:=keep_alloc hw q4
   replace q11:=keep_alloc hw q11
   replace q40:=keep_alloc hw q40
   replace E:=ext_alloc E hw
   replace EO:=ext_alloc EO hw
   replace EL1:=ext_alloc EL1 hw
   replace EX:=ext_alloc EX hw
   have q42:=new_block hw hn
   clear hw hn
   refine F.as ?_;clear F fa;intro fa F
   refine F.as ?_;clear F fa;intro fa F
   refine wpList_nil ?_
   have HS1:=Lib.hid (show SlAt [] w12 (some ⟨n40,0,none⟩) 1 3 (fun i=>intRow ([x1,0,1].getD i 0)) from slAt_of_rows (rows_lit [x1,0,1] 3 q40) 0)
   have HS2:=Lib.hid (show SlAt [] w12 (some ⟨n42,0,none⟩) 1 3 (fun i=>intRow ([x2,0,0].getD i 0)) from slAt_of_rows (rows_lit [x2,0,0] 3 q42) 0)
   have EL : Ext [] w12 w12:=Ext.refl _ _
   obtain ⟨nn,hnn⟩:=node_n (tsI ts i).t
   refine hK13 _ _ ?_
   clear hK13
   refine wp_seq_k fun K14 hK14=>?_
   refine wp_seq_k fun K15 hK15=>?_
   refine wp_region_lit ?_
   refine F.vl (R_assign rfl (ev_c fa _)) ?_;clear F fa;intro fa F
   refine wpList_nil ?_
   refine hK15 _ _ ?_
   clear hK15
   refine wp_block ?_
   have F0:=F.sub (.c 1 rfl (.c 2 rfl (.c 9 rfl (.c 10 rfl (.c 11 rfl (.c 12 rfl (.c 13 rfl .n)))))))
   refine lp_for F0 (3) (fun k Lv W=>Lv = [(14,.int .i64 ((k : Nat) : Int))] ∧ Ext [] w12 W) ⟨_,⟨rfl,Ext.refl _ _⟩,F.sub (.c 14 rfl (.c 1 rfl (.c 2 rfl (.c 9 rfl (.c 10 rfl (.c 11 rfl (.c 12 rfl (.c 13 rfl .n))))))))⟩ ?_
   clear F F0
   rintro k _ fa w13 hi2 ⟨rfl,EL2⟩ F
   have q4:=EL2.keep0 q4
   have q11:=EL2.keep0 q11
   have q40:=EL2.keep0 q40
   have q42:=EL2.keep0 q42
   have E:=E.nil EL2
   have EO:=EO.nil EL2
   have EL1:=EL1.nil EL2
   have EX:=EX.nil EL2
   have EL:=EL.nil EL2
   refine wp_seq_k fun K16 hK16=>?_
   refine wp_seq_k fun K17 hK17=>?_
   refine wp_region_lit ?_
   refine F.mv ?_;clear F fa;intro fa F
   refine F.mv ?_;clear F fa;intro fa F
   refine F.vl (R_len rfl rfl (F.at rfl) Try.underlying29) ?_;clear F fa;intro fa F
   refine F.vl (R_lss rfl (F.at rfl) (F.at rfl)) ?_;clear F fa;intro fa F
   refine wpList_nil ?_
   refine hK17 _ _ ?_
   clear hK17
   refine cd_if F rfl (fun hc46=>?_) (fun hc46=>?_)
   ·skip
    refine wp_skip ?_
    refine hK16 _ _ ?_
    clear hK16
    refine wp_seq_k fun K18 hK18=>?_
    refine wp_block ?_
    refine wp_seq_k fun K19 hK19=>?_
    refine region_x (Ext [] w13) none follows fun w14 hh eh=>?_
    have q4_:=q4
    replace q4:=keep_same hh q4
    have q11_:=q11
    replace q11:=keep_same hh q11
    have q40_:=q40
    replace q40:=keep_same hh q40
    have q42_:=q42
    replace q42:=keep_same hh q42
    have E_:=E
    have zEw14:=E.size
    replace E:=ext_same E eh
    have EO_:=EO
    have zEOw14:=EO.size
    replace EO:=ext_same EO eh
    have EL1_:=EL1
    have zEL1w14:=EL1.size
    replace EL1:=ext_same EL1 eh
    have EX_:=EX
    have zEXw14:=EX.size
    replace EX:=ext_same EX eh
    have EL_:=EL
    have zELw14:=EL.size
    replace EL:=ext_same EL eh
    have EL2_:=EL2
    have zEL2w14:=EL2.size
    replace EL2:=ext_same EL2 eh
    have eT:=eh
    clear hh eh
    refine F.xr (i:=0) rfl (fun w' hS=>R_loadBlk rfl (F.at rfl) Try.underlying28 rfl (by kernel_rfl) (hS.keep q11_ (by simp))) (fun _=>eT) ?_;clear F fa;intro fa F
    refine F.x (i:=1) rfl (fun w'=>R_move rfl (F.at rfl)) (fun _=>eT) ?_;clear F fa;intro fa F
    refine F.x (i:=2) rfl (fun w'=>R_move rfl (F.at rfl)) (fun _=>eT) ?_;clear F fa;intro fa F
    obtain ⟨xb20,xo20,xa20,xr20⟩:=HS1.out k (by omega)
    refine F.x (i:=3) rfl (fun w'=>R_ixSlice (sz:=1) rfl ((F.at rfl).trans (xa20 _ _)) (F.at rfl) Try.underlying29 (by kernel_rfl) (by omega) (by omega)) (fun _=>eT) ?_;clear F fa;intro fa F
    refine F.xr (i:=4) rfl (fun w' hS=>R_load rfl (F.at rfl) Try.underlying3 rfl (xr20 _ (EL_.nil hS) 0 _ rfl)) (fun _=>eT) ?_;clear F fa;intro fa F
    refine F.x (i:=5) rfl (fun w'=>R_move rfl (F.at rfl)) (fun _=>eT) ?_;clear F fa;intro fa F
    refine F.x (i:=6) rfl (fun w'=>R_move rfl (F.at rfl)) (fun _=>eT) ?_;clear F fa;intro fa F
    obtain ⟨xb21,xo21,xa21,xr21⟩:=HS2.out k (by omega)
    refine F.x (i:=7) rfl (fun w'=>R_ixSlice (sz:=1) rfl ((F.at rfl).trans (xa21 _ _)) (F.at rfl) Try.underlying29 (by kernel_rfl) (by omega) (by omega)) (fun _=>eT) ?_;clear F fa;intro fa F
    refine F.xr (i:=8) rfl (fun w' hS=>R_load rfl (F.at rfl) Try.underlying3 rfl (xr21 _ (EL_.nil hS) 0 _ rfl)) (fun _=>eT) ?_;clear F fa;intro fa F
    refine ax_only (i:=9) (by kernel_rfl) (op_call F rfl rfl (by decide) rfl (R_callV rfl rfl Try.call38 (mpS (F.at rfl) (mpS (F.at rfl) (mpS (F.at rfl) mp0)))) (next_any (tsI ts i).t _ _ _ _ _ _ _ (HX.out.ext EX (by simp)) m1 m2 m3 hrc) fun e w15 hR=>?_)
    obtain ⟨rfl,e9⟩:=hR
    refine ⟨_,rfl,?_⟩;clear F fa;intro fa F
    replace q4:=(e9).keep0 q4
    replace q11:=(e9).keep0 q11
    replace q40:=(e9).keep0 q40
    replace q42:=(e9).keep0 q42
    replace E:=ext_same E (e9)
    replace EO:=ext_same EO (e9)
    replace EL1:=ext_same EL1 (e9)
    replace EX:=ext_same EX (e9)
    replace EL:=ext_same EL (e9)
    replace EL2:=ext_same EL2 (e9)
    replace eT:=ext_same eT (e9)
    clear e9
    refine ⟨fun _=>eT,?_⟩
    refine F.x (i:=10) rfl (fun w'=>R_move rfl (F.at rfl)) (fun _=>eT) ?_;clear F fa;intro fa F
    refine F.x (i:=11) rfl (fun w'=>R_extract rfl (F.at rfl) (get0)) (fun _=>eT) ?_;clear F fa;intro fa F
    refine F.x (i:=12) rfl (fun w'=>R_extract rfl (F.at rfl) (getS (get0))) (fun _=>eT) ?_;clear F fa;intro fa F
    refine F.x (i:=13) rfl (fun w'=>R_extract rfl (F.at rfl) (getS (getS (get0)))) (fun _=>eT) ?_;clear F fa;intro fa F
    refine F.x (i:=14) rfl (fun w'=>R_assign rfl (F.at rfl)) (fun _=>eT) ?_;clear F fa;intro fa F
    refine F.x (i:=15) rfl (fun w'=>R_assign rfl (F.at rfl)) (fun _=>eT) ?_;clear F fa;intro fa F
    refine F.x (i:=16) rfl (fun w'=>R_assign rfl (F.at rfl)) (fun _=>eT) ?_;clear F fa;intro fa F
    refine ax_done (by kernel_rfl) ?_ _
    clear eT q4_ q11_ q40_ q42_ E_ EO_ EL1_ EX_ EL_ EL2_
    refine hK19 _ _ ?_
    clear hK19
    refine wp_seq_k fun K22 hK22=>?_
    refine region_x (Ext [] w15) none follows fun w16 hh eh=>?_
    have q4_:=q4
    replace q4:=keep_same hh q4
    have q11_:=q11
    replace q11:=keep_same hh q11
    have q40_:=q40
    replace q40:=keep_same hh q40
    have q42_:=q42
    replace q42:=keep_same hh q42
    have E_:=E
    have zEw16:=E.size
    replace E:=ext_same E eh
    have EO_:=EO
    have zEOw16:=EO.size
    replace EO:=ext_same EO eh
    have EL1_:=EL1
    have zEL1w16:=EL1.size
    replace EL1:=ext_same EL1 eh
    have EX_:=EX
    have zEXw16:=EX.size
    replace EX:=ext_same EX eh
    have EL_:=EL
    have zELw16:=EL.size
    replace EL:=ext_same EL eh
    have EL2_:=EL2
    have zEL2w16:=EL2.size
    replace EL2:=ext_same EL2 eh
    have eT:=eh
    clear hh eh
    refine F.x (i:=0) rfl (fun w'=>R_move rfl (F.at rfl)) (fun _=>eT) ?_;clear F fa;intro fa F
    refine F.x (i:=1) rfl (fun w'=>R_move rfl (F.at rfl)) (fun _=>eT) ?_;clear F fa;intro fa F
    obtain ⟨xb23,xo23,xa23,xr23⟩:=HS.out i (by omega)
    refine F.x (i:=2) rfl (fun w'=>R_ixSlice (sz:=11) rfl ((F.at rfl).trans (xa23 _ _)) (F.at rfl) Try.underlying32 (by kernel_rfl) (by omega) (by omega)) (fun _=>eT) ?_;clear F fa;intro fa F
    refine F.xr (i:=3) rfl (fun w' hS=>R_loadRow rfl (F.at rfl) Try.underlying28 rfl (by kernel_rfl) (xr23 _ (EO_.nil hS))) (fun _=>eT) ?_;clear F fa;intro fa F
    refine F.x (i:=4) rfl (fun w'=>R_move rfl (F.at rfl)) (fun _=>eT) ?_;clear F fa;intro fa F
    refine F.x (i:=5) rfl (fun w'=>R_move rfl (F.at rfl)) (fun _=>eT) ?_;clear F fa;intro fa F
    obtain ⟨xb24,xo24,xa24,xr24⟩:=HS1.out k (by omega)
    refine F.x (i:=6) rfl (fun w'=>R_ixSlice (sz:=1) rfl ((F.at rfl).trans (xa24 _ _)) (F.at rfl) Try.underlying29 (by kernel_rfl) (by omega) (by omega)) (fun _=>eT) ?_;clear F fa;intro fa F
    refine F.xr (i:=7) rfl (fun w' hS=>R_load rfl (F.at rfl) Try.underlying3 rfl (xr24 _ (EL_.nil hS) 0 _ rfl)) (fun _=>eT) ?_;clear F fa;intro fa F
    refine F.x (i:=8) rfl (fun w'=>R_move rfl (F.at rfl)) (fun _=>eT) ?_;clear F fa;intro fa F
    refine F.x (i:=9) rfl (fun w'=>R_move rfl (F.at rfl)) (fun _=>eT) ?_;clear F fa;intro fa F
    obtain ⟨xb25,xo25,xa25,xr25⟩:=HS2.out k (by omega)
    refine F.x (i:=10) rfl (fun w'=>R_ixSlice (sz:=1) rfl ((F.at rfl).trans (xa25 _ _)) (F.at rfl) Try.underlying29 (by kernel_rfl) (by omega) (by omega)) (fun _=>eT) ?_;clear F fa;intro fa F
    refine F.xr (i:=11) rfl (fun w' hS=>R_load rfl (F.at rfl) Try.underlying3 rfl (xr25 _ (EL_.nil hS) 0 _ rfl)) (fun _=>eT) ?_;clear F fa;intro fa F
    refine ax_only (i:=12) (by kernel_rfl) (op_call F rfl rfl (by decide) rfl (R_callV rfl rfl Try.call39 (mpS (F.at rfl) (mpS (F.at rfl) (mpS (F.at rfl) mp0)))) (refNext_any (tsI ts i).t hnn (tsI ts i).ga (tsI ts i).ra (tsI ts i).la (tsI ts i).gc (tsI ts i).rc (tsI ts i).lc _ ((HA.out i (by omega)).ext EO (by simp)) m1 m2 m3 _ _) fun e w17 hR=>?_)
    obtain ⟨rfl,e9⟩:=hR
    refine ⟨_,rfl,?_⟩;clear F fa;intro fa F
    replace q4:=(e9).keep0 q4
    replace q11:=(e9).keep0 q11
    replace q40:=(e9).keep0 q40
    replace q42:=(e9).keep0 q42
    replace E:=ext_same E (e9)
    replace EO:=ext_same EO (e9)
    replace EL1:=ext_same EL1 (e9)
    replace EX:=ext_same EX (e9)
    replace EL:=ext_same EL (e9)
    replace EL2:=ext_same EL2 (e9)
    replace eT:=ext_same eT (e9)
    clear e9
    refine ⟨fun _=>eT,?_⟩
    refine F.x (i:=13) rfl (fun w'=>R_move rfl (F.at rfl)) (fun _=>eT) ?_;clear F fa;intro fa F
    refine F.x (i:=14) rfl (fun w'=>R_extract rfl (F.at rfl) (get0)) (fun _=>eT) ?_;clear F fa;intro fa F
    refine F.x (i:=15) rfl (fun w'=>R_extract rfl (F.at rfl) (getS (get0))) (fun _=>eT) ?_;clear F fa;intro fa F
    refine F.x (i:=16) rfl (fun w'=>R_extract rfl (F.at rfl) (getS (getS (get0)))) (fun _=>eT) ?_;clear F fa;intro fa F
    refine F.x (i:=17) rfl (fun w'=>R_assign rfl (F.at rfl)) (fun _=>eT) ?_;clear F fa;intro fa F
    refine F.x (i:=18) rfl (fun w'=>R_assign rfl (F.at rfl)) (fun _=>eT) ?_;clear F fa;intro fa F
    refine F.x (i:=19) rfl (fun w'=>R_assign rfl (F.at rfl)) (fun _=>eT) ?_;clear F fa;intro fa F
    refine ax_done (by kernel_rfl) ?_ _
    clear eT q4_ q11_ q40_ q42_ E_ EO_ EL1_ EX_ EL_ EL2_
    refine hK22 _ _ ?_
    clear hK22
    refine wp_seq_k fun K26 hK26=>?_
    refine wp_region_lit ?_
    refine F.mv ?_;clear F fa;intro fa F
    refine F.mv ?_;clear F fa;intro fa F
    refine F.vl (R_neqB (b:=false) rfl (F.at rfl) (F.at rfl) (decide_eq_true ((by omega)))) ?_;clear F fa;intro fa F
    refine F.mv ?_;clear F fa;intro fa F
    refine F.mv ?_ (hw:=(wantT F rfl rfl (by decide) rfl));clear F fa;intro fa F
    refine F.mv ?_ (hw:=(wantT F rfl rfl (by decide) rfl));clear F fa;intro fa F
    refine F.vl (R_neqB (b:=false) rfl (F.at rfl) (F.at rfl) (decide_eq_true ((by omega)))) ?_ (hw:=(wantT F rfl rfl (by decide) rfl));clear F fa;intro fa F
    refine F.vl (R_pickF rfl (F.at rfl) (F.at rfl)) ?_;clear F fa;intro fa F
    refine F.mv ?_;clear F fa;intro fa F
    refine F.mv ?_ (hw:=(wantT F rfl rfl (by decide) rfl));clear F fa;intro fa F
    refine F.mv ?_ (hw:=(wantT F rfl rfl (by decide) rfl));clear F fa;intro fa F
    refine F.vl (R_neqB (b:=false) rfl (F.at rfl) (F.at rfl) (decide_eq_true ((by omega)))) ?_ (hw:=(wantT F rfl rfl (by decide) rfl));clear F fa;intro fa F
    refine F.vl (R_pickF rfl (F.at rfl) (F.at rfl)) ?_;clear F fa;intro fa F
    refine wpList_nil ?_
    refine hK26 _ _ ?_
    clear hK26
    refine cd_F F rfl ?_
    refine wp_skip ?_
    refine hK18 _ _ ?_
    clear hK18
    replace F:=F.sub (.c 1 rfl (.c 2 rfl (.c 9 rfl (.c 10 rfl (.c 11 rfl (.c 12 rfl (.c 13 rfl (.c 14 rfl .n))))))))
    clear q4
    refine wp_region_lit ?_
    refine F.mv ?_;clear F fa;intro fa F
    refine F.vl (R_add rfl (F.at rfl) (ev_c fa _) (by omega) (by omega)) ?_;clear F fa;intro fa F
    refine F.as ?_;clear F fa;intro fa F
    refine wpList_nil ?_
    show _ ∧ _
    exact ⟨by omega,_,⟨rfl,EL2⟩,F.sub (.c 14 rfl (.c 1 rfl (.c 2 rfl (.c 9 rfl (.c 10 rfl (.c 11 rfl (.c 12 rfl (.c 13 rfl .n))))))))⟩
   ·skip
    refine wp_exit ?_
    refine hK14 _ _ ?_
    clear hK14
    refine wp_seq_k fun K27 hK27=>?_
    refine wp_region_st 5 follows (by kernel_rfl) fun w18 hh eh=>?_
    replace q4:=keep_same hh q4
    replace q11:=keep_same hh q11
    replace q40:=keep_same hh q40
    replace q42:=keep_same hh q42
    replace E:=ext_same E eh
    replace EO:=ext_same EO eh
    replace EL1:=ext_same EL1 eh
    replace EX:=ext_same EX eh
    replace EL:=ext_same EL eh
    clear hh eh
    refine F.sv (R_loadBlk rfl (F.at rfl) Try.underlying28 rfl (by kernel_rfl) q11) ?_;clear F fa;intro fa F
    refine F.smv ?_;clear F fa;intro fa F
    refine F.smv ?_;clear F fa;intro fa F
    obtain ⟨xb28,xo28,xa28,xr28⟩:=HS.out i (by omega)
    refine F.sv (R_ixSlice (sz:=11) rfl ((F.at rfl).trans (xa28 _ _)) (F.at rfl) Try.underlying32 (by kernel_rfl) (by omega) (by omega)) ?_;clear F fa;intro fa F
    refine F.sv (R_loadRow rfl (F.at rfl) Try.underlying28 rfl (by kernel_rfl) (xr28 _ EO)) ?_;clear F fa;intro fa F
    refine wpStill_nil ?_
    refine sq_call F rfl (by decide) rfl (R_callV rfl rfl Try.call37 (mpS (F.at rfl) (mpS (F.at rfl) mp0))) (sameTapes_yes (tsI ts i).t gxa rxa lxa (tsI ts i).ga (tsI ts i).ra (tsI ts i).la gxc rxc lxc (tsI ts i).gc (tsI ts i).rc (tsI ts i).lc _ (HX.out.ext EX (by simp)) ((HA.out i (by omega)).ext EO (by simp)) m1 m2 m3) fun e w19 hR=>?_
    obtain ⟨rfl,e9⟩:=hR
    refine ⟨_,rfl,?_⟩;clear F fa;intro fa F
    replace q4:=(e9).keep0 q4
    replace q11:=(e9).keep0 q11
    replace q40:=(e9).keep0 q40
    replace q42:=(e9).keep0 q42
    replace E:=ext_same E (e9)
    replace EO:=ext_same EO (e9)
    replace EL1:=ext_same EL1 (e9)
    replace EX:=ext_same EX (e9)
    replace EL:=ext_same EL (e9)
    clear e9
    refine F.vl (R_not rfl (F.at rfl)) ?_;clear F fa;intro fa F
    refine wpList_nil ?_
    refine hK27 _ _ ?_
    clear hK27
    refine cd_F F rfl ?_
    refine wp_skip ?_
    refine hK10 _ _ ?_
    clear hK10
    refine wp_region_lit ?_
    refine F.mv ?_;clear F fa;intro fa F
    refine F.vl (R_add rfl (F.at rfl) (ev_c fa _) (by omega) (by omega)) ?_;clear F fa;intro fa F
    refine F.as ?_;clear F fa;intro fa F
    refine wpList_nil ?_
    show _ ∧ _
    exact ⟨by omega,_,⟨rfl,EL1⟩,F.sub (.c 10 rfl (.c 1 rfl (.c 2 rfl (.c 9 rfl .n))))⟩
  ·skip
   refine wp_exit ?_
   refine hK6 _ _ ?_
   clear hK6
   refine wp_seq_k fun K29 hK29=>?_
   refine wp_region_lit ?_
   refine sq_call F rfl (by decide) rfl (R_callV rfl rfl Try.call25 mp0) (taken_any _) fun e w20 hR=>?_
   obtain ⟨rfl,e9⟩:=hR
   refine ⟨_,rfl,?_⟩;clear F fa;intro fa F
   replace q4:=(e9).keep0 q4
   replace E:=ext_same E (e9)
   replace EO:=ext_same EO (e9)
   clear e9
   refine F.as ?_;clear F fa;intro fa F
   refine wpList_nil ?_
   refine hK29 _ _ ?_
   clear hK29
   refine wp_ret ?_
   (try simp only [Exit.inBlock,Exit.then])
   refine rt_v F (rs_1 F rfl rfl) ?_
   exact ⟨rfl,E⟩
end Go.Proofs.Ytholfdgebdlgjaa
namespace Go.Proofs.Ytholfdgebdlgjaa
open Go.ChangeShapes Go.WideShapes
section
variable {H : Type} {enc : TypeId × Value → H} {P : Program} {w : World}
theorem open_struct_ints {t : TypeId} {fs : Array Field} {base fuel : Nat} {spare : Nat → Bool} {held : Bool} {cs : List Value} {x : DataW H × List MemPlace} (ht : P.underlying t = some (.struct fs)) (hsz : P.cellsOf t = fs.size)
  (hf : ∀ (i : Nat) (f : Field),fs[i]? = some f → P.underlying f.type = some (.int .i64) ∧ P.cellsOf f.type = 1 ∧ f.offset = i) (h : DataW.trod enc P w base spare held fuel t cs = some x) :
  ∃ zs : List Int,cs = zs.map (Value.int .i64) ∧ zs.length = fs.size:=by
 obtain ⟨xs,n,-,-,hl,hxl,hx⟩:=DataW.trod_struct ht h
 have each : ∀ i : Nat,i < fs.size → ∃ m : Int,cs[i]? = some (.int .i64 m):=by
  intro i hi
  have hg : fs[i]? = some fs[i]:=Array.getElem?_eq_getElem hi
  obtain ⟨f1,f2,f3⟩:=hf i _ hg
  have hq:=hx i _ hg
  rw [f2,f3,List.getElem?_eq_getElem (by omega)] at hq
  obtain ⟨m,hm,-,-⟩:=DataW.trod_int f1 hq
  exact ⟨m,cell_of_cut hm⟩
 refine ⟨cs.map fun v=>match v with | .int _ m=>m | _=>0,?_,by simp [hl,hsz]⟩
 rw [List.map_map]
 refine List.ext_getElem? fun i=>?_
 by_cases hi : i < fs.size
 ·obtain ⟨m,hm⟩:=each i hi
  rw [List.getElem?_map,hm];rfl
 ·rw [List.getElem?_eq_none (by omega),List.getElem?_eq_none (by simp;omega)]
theorem open_rows {t e : TypeId} {fuel sz : Nat} {cs : List Value} {x : DataW H × List MemPlace} (ht : P.underlying t = some (.slice e)) (hsz : P.cellsOf e = sz) (h0 : 0 < sz)
  (hE : ∀ n cs y,DataW.trod enc P w 0 (fun _=>true) true n e cs = some y → ∃ zs : List Int,cs = zs.map (Value.int .i64) ∧ zs.length = sz)
  (h : DataW.trod enc P w 0 (fun _=>true) true fuel t cs = some x) :
  ∃ (a : Option Addr) (c : Nat) (rows : List (List Int)),cs = [.slice a rows.length c] ∧ (∀ r ∈ rows,r.length = sz) ∧ IsRows w (.slice a rows.length c) sz (rows.map (List.map (Value.int .i64))):=by
 rcases DataW.trod_slice ht h with ⟨rfl,-⟩ | ⟨a,len,cap,elems,rest,n,-,rfl,-,-,-,-,hlen,hel,-,-⟩
 ·exact ⟨none,0,[],rfl,by simp,⟨none,0,rfl,by simp,fun h=>absurd rfl h⟩⟩
 have each : ∀ i,∃ zs : List Int,i < len → zs.length = sz ∧ ∀ j,j < sz → w.cell? ((a.add (i * sz)).add j) = (zs.map (Value.int .i64))[j]?:=by
  intro i
  by_cases hi : i < len
  ·have hq:=hel i hi
   rw [List.getElem?_eq_getElem (by omega),Option.bind_eq_some_iff] at hq
   obtain ⟨ci,h1,h2⟩:=hq
   obtain ⟨zs,rfl,hz⟩:=hE _ _ _ h2
   rw [hsz] at h1
   exact ⟨zs,fun _=>⟨hz,(World.cells?_some h1).2.2⟩⟩
  ·exact ⟨[],fun h=>absurd h hi⟩
 obtain ⟨f,hf⟩ : ∃ f : Nat → List Int,∀ i,i < len → (f i).length = sz ∧ ∀ j,j < sz → w.cell? ((a.add (i * sz)).add j) = ((f i).map (Value.int .i64))[j]?:=⟨fun i=>Classical.choose (each i),fun i=>Classical.choose_spec (each i)⟩
 have hL : ((List.range len).map f).length = len:=by simp
 refine ⟨some a,cap,(List.range len).map f,by rw [hL],?_,?_⟩
 ·intro r hr
  obtain ⟨i,hi,rfl⟩:=List.mem_map.1 hr
  exact (hf i (List.mem_range.1 hi)).1
 ·refine ⟨some a,cap,by simp,?_,fun hne=>?_⟩
  ·intro r hr
   obtain ⟨r',hr',rfl⟩:=List.mem_map.1 hr
   obtain ⟨i,hi,rfl⟩:=List.mem_map.1 hr'
   rw [List.length_map]
   exact (hf i (List.mem_range.1 hi)).1
  ·have hp : 0 < len:=by
    rcases Nat.eq_zero_or_pos len with rfl | h
    ·exact absurd rfl hne
    ·exact h
   obtain ⟨l0,c0⟩:=hf 0 hp
   have c00:=c0 0 h0
   have ha0 : (a.add (0 * sz)).add 0 = a:=by rw [Nat.zero_mul];rfl
   rw [ha0,List.getElem?_eq_getElem (by simp;omega)] at c00
   obtain ⟨b,off,spot⟩:=a
   have hs : spot = none:=by
    cases spot with
    | none=>rfl
    | some k =>
     unfold World.cell? at c00
     split at c00 <;> simp at c00
   subst hs
   have hb : b < w.heap.size:=by
    unfold World.cell? at c00
    cases hq : w.heap[b]? with
    | none=>simp [hq] at c00
    | some o=>exact (Array.getElem?_eq_some_iff.1 hq).1
   refine ⟨b,off,rfl,hb,fun i j r hi hj=>?_⟩
   have hil : i < len:=by have:=(List.getElem?_eq_some_iff.1 hi).1;simpa using this
   have hr : r = (f i).map (Value.int .i64):=by simpa [hil] using hi.symm
   have:=(hf i hil).2 j hj
   rw [add_plain,add_plain] at this
   rw [this,hr]
end
theorem rows2 : ∀ (rows : List (List Int)),(∀ r ∈ rows,r.length = 2) → ∃ gr : List (Int × Int),gr.length = rows.length ∧ rows.map (List.map (Value.int .i64)) = gr.map grRow
 | [],_=>⟨[],rfl,rfl⟩
 | r :: rows,h=>by
  obtain ⟨gr,h1,h2⟩:=rows2 rows fun x hx=>h x (List.mem_cons_of_mem _ hx)
  match r,h r (List.mem_cons_self ..) with
  | [a,b],_=>exact ⟨(a,b) :: gr,by simp [h1],by simp [h2,grRow]⟩
theorem rows4 : ∀ (rows : List (List Int)),(∀ r ∈ rows,r.length = 4) → ∃ gr : List (Int × Int × Int × Int),gr.length = rows.length ∧ rows.map (List.map (Value.int .i64)) = gr.map rdRow
 | [],_=>⟨[],rfl,rfl⟩
 | r :: rows,h=>by
  obtain ⟨gr,h1,h2⟩:=rows4 rows fun x hx=>h x (List.mem_cons_of_mem _ hx)
  match r,h r (List.mem_cons_self ..) with
  | [a,b,c,d],_=>exact ⟨(a,b,c,d) :: gr,by simp [h1],by simp [h2,rdRow]⟩
theorem rows6 : ∀ (rows : List (List Int)),(∀ r ∈ rows,r.length = 6) → ∃ gr : List (Int × Int × Int × Int × Int × Int),gr.length = rows.length ∧ rows.map (List.map (Value.int .i64)) = gr.map lkRow
 | [],_=>⟨[],rfl,rfl⟩
 | r :: rows,h=>by
  obtain ⟨gr,h1,h2⟩:=rows6 rows fun x hx=>h x (List.mem_cons_of_mem _ hx)
  match r,h r (List.mem_cons_self ..) with
  | [a,b,c,d,e,f],_=>exact ⟨(a,b,c,d,e,f) :: gr,by simp [h1],by simp [h2,lkRow]⟩
theorem int_one : Try.prog.cellsOf 3 = 1:=by kernel_rfl
theorem list11 {l : List Value} (h : l.length = 11) : ∃ c0 c1 c2 c3 c4 c5 c6 c7 c8 c9 c10,l = [c0,c1,c2,c3,c4,c5,c6,c7,c8,c9,c10]:=by
 match l,h with
 | [c0,c1,c2,c3,c4,c5,c6,c7,c8,c9,c10],_=>exact ⟨_,_,_,_,_,_,_,_,_,_,_,rfl⟩
theorem open_bt {H : Type} {enc : TypeId × Value → H} {w : World} (n : Nat) (cs : List Value) (y : DataW H × List MemPlace) (h : DataW.trod enc Try.prog w 0 (fun _=>true) true n 23 cs = some y) : ∃ zs : List Int,cs = zs.map (Value.int .i64) ∧ zs.length = 2:=
 open_struct_ints Try.underlying23 (by kernel_rfl) (by intro i f h;rcases i with _ | _ | i <;> simp at h <;> subst h <;> exact ⟨Try.underlying3,int_one,rfl⟩) h
theorem open_rd {H : Type} {enc : TypeId × Value → H} {w : World} (n : Nat) (cs : List Value) (y : DataW H × List MemPlace) (h : DataW.trod enc Try.prog w 0 (fun _=>true) true n 66 cs = some y) : ∃ zs : List Int,cs = zs.map (Value.int .i64) ∧ zs.length = 4:=
 open_struct_ints Try.underlying66 (by kernel_rfl) (by intro i f h;rcases i with _ | _ | _ | _ | i <;> simp at h <;> subst h <;> exact ⟨Try.underlying3,int_one,rfl⟩) h
theorem list6 {l : List Value} (h : l.length = 6) : ∃ c0 c1 c2 c3 c4 c5,l = [c0,c1,c2,c3,c4,c5]:=by
 match l,h with
 | [c0,c1,c2,c3,c4,c5],_=>exact ⟨_,_,_,_,_,_,rfl⟩
theorem open_one {H : Type} {enc : TypeId × Value → H} {w : World} {m : Nat} (c : Value) (y : DataW H × List MemPlace) (h : DataW.trod enc Try.prog w 0 (fun _=>true) true m 3 [c] = some y) : ∃ k : Int,c = .int .i64 k:=by
 obtain ⟨k,hk,-,-⟩:=DataW.trod_int Try.underlying3 h
 simp at hk
 exact ⟨k,hk⟩
theorem open_lk {H : Type} {enc : TypeId × Value → H} {w : World} (n : Nat) (cs : List Value) (y : DataW H × List MemPlace) (h : DataW.trod enc Try.prog w 0 (fun _=>true) true n 75 cs = some y) : ∃ zs : List Int,cs = zs.map (Value.int .i64) ∧ zs.length = 6:=by
 obtain ⟨xs,m,-,-,hl,hxl,hx⟩:=DataW.trod_struct Try.underlying75 h
 obtain ⟨c0,c1,c2,c3,c4,c5,rfl⟩:=list6 (hl.trans (by kernel_rfl))
 have get : ∀ i : Nat,i < 5 → ∃ y,xs[i]? = some y:=fun i hi=>⟨_,List.getElem?_eq_getElem (by rw [hxl];exact hi)⟩
 obtain ⟨y0,e0⟩:=get 0 (by omega)
 obtain ⟨y1,e1⟩:=get 1 (by omega)
 obtain ⟨y2,e2⟩:=get 2 (by omega)
 obtain ⟨y3,e3⟩:=get 3 (by omega)
 obtain ⟨y4,e4⟩:=get 4 (by omega)
 have u0 : DataW.trod enc Try.prog w 0 (fun _=>true) true m 3 (([c0,c1,c2,c3,c4,c5].drop 0).take (Try.prog.cellsOf 3)) = some y0:=(hx 0 _ rfl).trans e0
 have u1 : DataW.trod enc Try.prog w 0 (fun _=>true) true m 3 (([c0,c1,c2,c3,c4,c5].drop 1).take (Try.prog.cellsOf 3)) = some y1:=(hx 1 _ rfl).trans e1
 have u2 : DataW.trod enc Try.prog w 0 (fun _=>true) true m 3 (([c0,c1,c2,c3,c4,c5].drop 2).take (Try.prog.cellsOf 3)) = some y2:=(hx 2 _ rfl).trans e2
 have u3 : DataW.trod enc Try.prog w 0 (fun _=>true) true m 3 (([c0,c1,c2,c3,c4,c5].drop 3).take (Try.prog.cellsOf 3)) = some y3:=(hx 3 _ rfl).trans e3
 have u4 : DataW.trod enc Try.prog w 0 (fun _=>true) true m 23 (([c0,c1,c2,c3,c4,c5].drop 4).take (Try.prog.cellsOf 23)) = some y4:=(hx 4 _ rfl).trans e4
 have d2 : Try.prog.cellsOf 23 = 2:=by kernel_rfl
 simp only [int_one,d2,List.drop_succ_cons,List.drop_zero,List.take_succ_cons,List.take_zero] at u0 u1 u2 u3 u4
 obtain ⟨a0,rfl⟩:=open_one _ _ u0
 obtain ⟨a1,rfl⟩:=open_one _ _ u1
 obtain ⟨a2,rfl⟩:=open_one _ _ u2
 obtain ⟨a3,rfl⟩:=open_one _ _ u3
 obtain ⟨bd,hbd,hbl⟩:=open_bt _ _ _ u4
 match bd,hbl with
 | [b1,b2],_ =>
  simp only [List.map_cons,List.map_nil,List.cons.injEq,and_true] at hbd
  obtain ⟨rfl,rfl⟩:=hbd
  exact ⟨[a0,a1,a2,a3,b1,b2],rfl,rfl⟩
theorem open_tapes {H : Type} {enc : TypeId × Value → H} {w : World} {n : Nat} {cs : List Value} {y : DataW H × List MemPlace} (h : DataW.trod enc Try.prog w 0 (fun _=>true) true n 28 cs = some y) :
  ∃ (t : Tp) (ga ra la : Option Addr) (gc rc lc : Nat),cs = [.int .i64 t.S,.int .i64 t.A,.int .i64 t.T,.int .i64 t.bl,.int .i64 t.bm,.int .i64 t.pl,.int .i64 t.pm,.int .i64 t.sl,.slice ga t.gr.length gc,.slice ra t.rd.length rc,.slice la t.lk.length lc] ∧
   IsTp w (.slice ga t.gr.length gc) (.slice ra t.rd.length rc) (.slice la t.lk.length lc) t:=by
 obtain ⟨xs,m,-,-,hl,hxl,hx⟩:=DataW.trod_struct Try.underlying28 h
 obtain ⟨c0,c1,c2,c3,c4,c5,c6,c7,c8,c9,c10,rfl⟩:=list11 (hl.trans (by kernel_rfl))
 have get : ∀ i : Nat,i < 9 → ∃ y,xs[i]? = some y:=fun i hi=>⟨_,List.getElem?_eq_getElem (by rw [hxl];exact hi)⟩
 obtain ⟨y0,e0⟩:=get 0 (by omega)
 obtain ⟨y1,e1⟩:=get 1 (by omega)
 obtain ⟨y2,e2⟩:=get 2 (by omega)
 obtain ⟨y3,e3⟩:=get 3 (by omega)
 obtain ⟨y4,e4⟩:=get 4 (by omega)
 obtain ⟨y5,e5⟩:=get 5 (by omega)
 obtain ⟨y6,e6⟩:=get 6 (by omega)
 obtain ⟨y7,e7⟩:=get 7 (by omega)
 obtain ⟨y8,e8⟩:=get 8 (by omega)
 have u0 : DataW.trod enc Try.prog w 0 (fun _=>true) true m 3 (([c0,c1,c2,c3,c4,c5,c6,c7,c8,c9,c10].drop 0).take (Try.prog.cellsOf 3)) = some y0:=(hx 0 _ rfl).trans e0
 have u1 : DataW.trod enc Try.prog w 0 (fun _=>true) true m 3 (([c0,c1,c2,c3,c4,c5,c6,c7,c8,c9,c10].drop 1).take (Try.prog.cellsOf 3)) = some y1:=(hx 1 _ rfl).trans e1
 have u2 : DataW.trod enc Try.prog w 0 (fun _=>true) true m 3 (([c0,c1,c2,c3,c4,c5,c6,c7,c8,c9,c10].drop 2).take (Try.prog.cellsOf 3)) = some y2:=(hx 2 _ rfl).trans e2
 have u3 : DataW.trod enc Try.prog w 0 (fun _=>true) true m 23 (([c0,c1,c2,c3,c4,c5,c6,c7,c8,c9,c10].drop 3).take (Try.prog.cellsOf 23)) = some y3:=(hx 3 _ rfl).trans e3
 have u4 : DataW.trod enc Try.prog w 0 (fun _=>true) true m 23 (([c0,c1,c2,c3,c4,c5,c6,c7,c8,c9,c10].drop 5).take (Try.prog.cellsOf 23)) = some y4:=(hx 4 _ rfl).trans e4
 have u5 : DataW.trod enc Try.prog w 0 (fun _=>true) true m 3 (([c0,c1,c2,c3,c4,c5,c6,c7,c8,c9,c10].drop 7).take (Try.prog.cellsOf 3)) = some y5:=(hx 5 _ rfl).trans e5
 have u6 : DataW.trod enc Try.prog w 0 (fun _=>true) true m 24 (([c0,c1,c2,c3,c4,c5,c6,c7,c8,c9,c10].drop 8).take (Try.prog.cellsOf 24)) = some y6:=(hx 6 _ rfl).trans e6
 have u7 : DataW.trod enc Try.prog w 0 (fun _=>true) true m 25 (([c0,c1,c2,c3,c4,c5,c6,c7,c8,c9,c10].drop 9).take (Try.prog.cellsOf 25)) = some y7:=(hx 7 _ rfl).trans e7
 have u8 : DataW.trod enc Try.prog w 0 (fun _=>true) true m 26 (([c0,c1,c2,c3,c4,c5,c6,c7,c8,c9,c10].drop 10).take (Try.prog.cellsOf 26)) = some y8:=(hx 8 _ rfl).trans e8
 have d2 : Try.prog.cellsOf 23 = 2:=by kernel_rfl
 have s24 : Try.prog.cellsOf 24 = 1:=by kernel_rfl
 have s25 : Try.prog.cellsOf 25 = 1:=by kernel_rfl
 have s26 : Try.prog.cellsOf 26 = 1:=by kernel_rfl
 simp only [int_one,d2,s24,s25,s26,List.drop_succ_cons,List.drop_zero,List.take_succ_cons,List.take_zero] at u0 u1 u2 u3 u4 u5 u6 u7 u8
 obtain ⟨S,rfl⟩:=open_one _ _ u0
 obtain ⟨A,rfl⟩:=open_one _ _ u1
 obtain ⟨T,rfl⟩:=open_one _ _ u2
 obtain ⟨sl,rfl⟩:=open_one _ _ u5
 obtain ⟨bd,hbd,hbl⟩:=open_bt _ _ _ u3
 obtain ⟨pl,hpl,hpll⟩:=open_bt _ _ _ u4
 obtain ⟨ga,gc,gr,hg,hgl,hgr⟩:=open_rows Try.underlying24 d2 (by decide) open_bt u6
 obtain ⟨ra,rc,rd,hr,hrl,hrd⟩:=open_rows Try.underlying25 (sz:=4) (by kernel_rfl) (by decide) open_rd u7
 obtain ⟨la,lc,lk,hk,hkl,hlk⟩:=open_rows Try.underlying26 (sz:=6) (by kernel_rfl) (by decide) open_lk u8
 obtain ⟨gr',g1,g2⟩:=rows2 gr hgl
 obtain ⟨rd',r1,r2⟩:=rows4 rd hrl
 obtain ⟨lk',k1,k2⟩:=rows6 lk hkl
 match bd,hbl,pl,hpll with
 | [b1,b2],_,[p1,p2],_ =>
  simp only [List.map_cons,List.map_nil,List.cons.injEq,and_true] at hbd hpl hg hr hk
  obtain ⟨rfl,rfl⟩:=hbd
  obtain ⟨rfl,rfl⟩:=hpl
  subst hg hr hk
  rw [g2,← g1] at hgr
  rw [r2,← r1] at hrd
  rw [k2,← k1] at hlk
  refine ⟨⟨S,A,T,b1,b2,p1,p2,sl,gr',rd',lk'⟩,ga,ra,la,gc,rc,lc,by simp [g1,r1,k1],⟨hgr,hrd,hlk⟩⟩
end Go.Proofs.Ytholfdgebdlgjaa
namespace Go.Proofs.Ytholfdgebdlgjaa.measureNexts
open Go.ChangeShapes Go.WideShapes Go.ChangeAt Go.RowKit
open Go.ChangeMaps (open_string shut_string)
theorem k1 : (Rows.measureNextsRow.wf (OpenSpec.ofChange Rows.measureNextsSpec) : Bool) = true:=by kernel_rfl
theorem k4 : (Try.f4.params.all (Try.pinned.checked.prog.readableRec ·) : Bool) = true:=by kernel_rfl
theorem k5 : (namedTie Try.pinned.checked.prog Rows.measureNextsRow.named Rows.measureNextsSpec.vars : Bool) = true:=by kernel_rfl
theorem k6 : ((Rows.measureNextsRow.stops == []) : Bool) = true:=by kernel_rfl
theorem k8 : ((Rows.measureNextsRow.knobs == []) : Bool) = true:=by kernel_rfl
theorem k10 : ((Rows.measureNextsRow.inPlace == Try.pinned.checked.prog.inPlace 4) : Bool) = true:=by kernel_rfl
theorem k11 : ((Rows.measureNextsRow.unfollowed == Try.pinned.checked.prog.unfollowed 4) : Bool) = true:=by kernel_rfl
theorem k12 : ((Rows.measureNextsRow.recurses == Try.pinned.checked.prog.recurses 4) : Bool) = true:=by kernel_rfl
theorem k13 : ((Rows.measureNextsRow.named == Try.pinned.checked.prog.varsNamed 4) : Bool) = true:=by kernel_rfl
theorem k14 : ((Rows.measureNextsRow.maps == (Try.f4.params.toList ++ Rows.measureNextsSpec.plain.varTypes Try.pinned.checked.prog).any (Try.pinned.checked.prog.mapsRec ·)) : Bool) = true:=by kernel_rfl
theorem k15 : ((Rows.measureNextsRow.ifaces == (Try.f4.params.toList ++ Rows.measureNextsSpec.plain.varTypes Try.pinned.checked.prog).any (Try.pinned.checked.prog.ifacesRec ·)) : Bool) = true:=by kernel_rfl
theorem k16 : ((Rows.measureNextsRow.mapsOut == Try.pinned.checked.prog.mapsAmong Try.f4.resultTypes.toList) : Bool) = true:=by kernel_rfl
theorem k17 : ((Rows.measureNextsRow.loops == (Try.f4.params.toList ++ Rows.measureNextsSpec.plain.varTypes Try.pinned.checked.prog).any (Try.pinned.checked.prog.loopsFrom ·)) : Bool) = true:=by kernel_rfl
theorem k18 : ((Rows.measureNextsRow.wideKeys == (Try.f4.params.toList ++ Rows.measureNextsSpec.plain.varTypes Try.pinned.checked.prog ++ Try.f4.resultTypes.toList).any (Try.pinned.checked.prog.wideKeysFrom ·)) : Bool) = true:=by kernel_rfl
theorem k19 : (Rows.measureNextsSpec.vars.all (Try.pinned.checked.prog.varReadable ·) : Bool) = true:=by kernel_rfl
theorem k20 : (Try.f4.resultTypes.all (fun t=>Try.pinned.checked.prog.readableRec t && decide (t < Try.pinned.checked.prog.types.size)) : Bool) = true:=by kernel_rfl
theorem k21 : ((Rows.measureNextsRow.ifacesOut == Try.f4.resultTypes.toList.any (Try.pinned.checked.prog.ifacesRec ·)) : Bool) = true:=by kernel_rfl
theorem k22 : ((Rows.measureNextsRow.loopsOut == Try.f4.resultTypes.toList.any (Try.pinned.checked.prog.loopsFrom ·)) : Bool) = true:=by kernel_rfl
theorem k23 : ((Rows.measureNextsRow.plainKeys == Try.pinned.checked.prog.plainKeys) : Bool) = true:=by kernel_rfl
theorem k24 : (Rows.measureNextsRow.shortTexts.isNone : Bool) = true:=by kernel_rfl
theorem k27 : ((Rows.measureNextsRow.lifted == Try.pinned.checked.prog.liftsFinal) : Bool) = true:=(congrArg (fun x=>(Rows.measureNextsRow.lifted == x)) liftsFinal).trans (by kernel_rfl)
theorem k28 : ((Try.pinned.checked.prog.make == some Rows.measureNextsRow.make) : Bool) = true:=(congrArg (fun x=>(x == some Rows.measureNextsRow.make)) made).trans (by kernel_rfl)
theorem k29 : ((Rows.measureNextsRow.domain.isEmpty && Rows.measureNextsRow.kinds == []) : Bool) = true:=by kernel_rfl
theorem k30 : ((Rows.measureNextsRow.pinned == Rows.measureNextsRow.pinnedBy) : Bool) = true:=by kernel_rfl
theorem k31 : ((Rows.measureNextsRow.veiled == (Try.f4.params.toList ++ Rows.measureNextsSpec.plain.varTypes Try.pinned.checked.prog ++ Try.f4.resultTypes.toList).any (Try.pinned.checked.prog.veiledRec ·)) : Bool) = true:=by kernel_rfl
theorem k32 : (Rows.measureNextsRow.veiledFits Try.pinned.checked.prog Try.f4.params.toList (Try.f4.params.toList ++ Rows.measureNextsSpec.plain.varTypes Try.pinned.checked.prog ++ Try.f4.resultTypes.toList) : Bool) = true:=by kernel_rfl
theorem closed : joinedFacts Try.pinned.checked.prog 4 Try.f4 Rows.measureNextsSpec Rows.measureNextsRow = true:=joinedFacts_of k1 laidAll mapsAll k4 k5 k6 stopsNone k8 knobsNone k10 k11 k12 k13 k14 k15 k16 k17 k18 k19 k20 k21 k22 k23 k24 stopsHeard mayEnter k27 k28 k29 k30 k31 k32
theorem named : Try.pinned.checked.prog.funcNamed Rows.measureNextsRow.func = some 4:=by kernel_rfl
theorem inst : Try.f4.isInstance Try.pinned.checked.prog Rows.measureNextsRow.origin Rows.measureNextsRow.targs:=of_decide_eq_true (by kernel_rfl)
theorem wrap : Try.f4.isWrapper Try.pinned.checked.prog Rows.measureNextsRow.wrapper Rows.measureNextsRow.mainSum:=by unfold Func.isWrapper;first | (rw [if_pos (by decide +kernel)];kernel_rfl) | (rw [if_neg (by decide +kernel)];exact ⟨rfl,rfl⟩)
theorem laidOut : laidOutB Try.prog = true:=laidAll
theorem noInit : Try.prog.inits.idxOf? 4 = none:=by kernel_rfl
theorem sliceInt : Try.prog.cellsOf 3 = 1:=by kernel_rfl
set_option maxRecDepth 100000 in
theorem lifted (walk : ∀ (t0 : Tp) (ga0 ra0 la0 : Option Addr) (gc0 rc0 lc0 : Nat) (x1 : Int) (x2 : Int) (a3 : Option Addr) (len3 cap3 : Nat) (z3 : List Int) (w : World),IsTp w (.slice ga0 t0.gr.length gc0) (.slice ra0 t0.rd.length rc0) (.slice la0 t0.lk.length lc0) t0 → IsRow .i64 w a3 len3 cap3 z3 →
  Calls Try.prog 4 #[tpV t0 (.slice ga0 t0.gr.length gc0) (.slice ra0 t0.rd.length rc0) (.slice la0 t0.lk.length lc0),.int .i64 x1,.int .i64 x2,.slice a3 len3 cap3] w fun e w'=>e = .returned (.bool true) ∧ Below w.heap.size w w') (os : Os) (started : os.Started) (H : Type) (enc : TypeId × Value → H) :
  ReturnsInHanded {} Try.checked os 4 .any (Rows.measureNextsSpec.pre6 enc Try.prog Try.f4 Rows.measureNextsRow.domain false) (Rows.measureNextsSpec.post enc Try.prog Try.f4 false true false false):=by
 refine returnsInHanded_of_change (C:=Try.checked) own started noInit Try.func4
  (ChangeSpec.witness6 (enc:=enc) (C:=Try.checked) false ⟨#[],#[.agg #[.int .i64 0,.int .i64 0,.int .i64 0,.int .i64 0,.int .i64 0,.int .i64 0,.int .i64 0,.int .i64 0,.slice none 0 0,.slice none 0 0,.slice none 0 0],.int .i64 0,.int .i64 0,.slice none 0 0],[]⟩ 8 (by as_aux_lemma=>kernel_rfl) (by as_aux_lemma=>kernel_rfl) (by as_aux_lemma=>kernel_rfl) (by as_aux_lemma=>kernel_rfl)) ?_
 intro W base args ds gs before hval0 hW hcnd _
 have hval : ∀ (j : Nat) t v,Try.f4.params[j]? = some t → args[j]? = some v → Value.okWide Try.prog W .any base t v:=hval0
 have hW':=hW
 obtain ⟨p,q,hA0,hV,rfl,hfz,hnd⟩:=hW
 have hA : DataW.TrodAll enc Try.prog W 0 (fun _=>true) true Try.f4.params.toList args.toList ds p:=hA0
 rw [Try.params4] at hA hval
 obtain ⟨v0,vs0,d0,ds0,p0,q0,hargs,rfl,rfl,h0,r0⟩:=trodAll_cons hA
 obtain ⟨v1,vs1,d1,ds1,p1,q1,rfl,rfl,rfl,h1,r1⟩:=trodAll_cons r0
 obtain ⟨v2,vs2,d2,ds2,p2,q2,rfl,rfl,rfl,h2,r2⟩:=trodAll_cons r1
 obtain ⟨v3,vs3,d3,ds3,p3,q3,rfl,rfl,rfl,h3,r3⟩:=trodAll_cons r2
 obtain ⟨rfl,rfl,rfl⟩:=trodAll_nil r3
 obtain rfl : args = #[v0,v1,v2,v3]:=by cases args;simp_all
 obtain ⟨rfl,rfl⟩:=trodVars_none hV
 have k0':=h0
 have lt0 : ∀ x ∈ p0,x.block < W.heap.size:=by obtain ⟨m,hm⟩:=k0';exact DataW.trod_lt m _ _ _ hm
 have k1':=h1
 have lt1 : ∀ x ∈ p1,x.block < W.heap.size:=by obtain ⟨m,hm⟩:=k1';exact DataW.trod_lt m _ _ _ hm
 have k2':=h2
 have lt2 : ∀ x ∈ p2,x.block < W.heap.size:=by obtain ⟨m,hm⟩:=k2';exact DataW.trod_lt m _ _ _ hm
 have k3':=h3
 have lt3 : ∀ x ∈ p3,x.block < W.heap.size:=by obtain ⟨m,hm⟩:=k3';exact DataW.trod_lt m _ _ _ hm
 obtain ⟨cs0,rfl,hcs0⟩:=okWide_struct Try.underlying28 (hval 0 28 v0 rfl rfl)
 obtain ⟨t0,ga0,ra0,la0,gc0,rc0,lc0,hl0,w0⟩ : ∃ (t : Tp) (ga ra la : Option Addr) (gc rc lc : Nat),cs0.toList = [.int .i64 t.S,.int .i64 t.A,.int .i64 t.T,.int .i64 t.bl,.int .i64 t.bm,.int .i64 t.pl,.int .i64 t.pm,.int .i64 t.sl,.slice ga t.gr.length gc,.slice ra t.rd.length rc,.slice la t.lk.length lc] ∧ IsTp W (.slice ga t.gr.length gc) (.slice ra t.rd.length rc) (.slice la t.lk.length lc) t:=by
  obtain ⟨fuel,hf⟩:=h0
  exact open_tapes hf
 obtain rfl : cs0 = #[.int .i64 t0.S,.int .i64 t0.A,.int .i64 t0.T,.int .i64 t0.bl,.int .i64 t0.bm,.int .i64 t0.pl,.int .i64 t0.pm,.int .i64 t0.sl,.slice ga0 t0.gr.length gc0,.slice ra0 t0.rd.length rc0,.slice la0 t0.lk.length lc0]:=Array.toList_inj.1 hl0
 obtain ⟨x1,rfl⟩:=okWide_int Try.underlying3 (hval 1 3 v1 rfl rfl)
 obtain ⟨x2,rfl⟩:=okWide_int Try.underlying3 (hval 2 3 v2 rfl rfl)
 obtain ⟨a3,len3,cap3,rfl⟩:=okWide_slice Try.underlying29 (hval 3 29 v3 rfl rfl)
 obtain ⟨z3,w3⟩ : ∃ zs,IsRow .i64 W a3 len3 cap3 zs:=by
  obtain ⟨fuel,hf⟩:=h3
  rcases open_ints Try.underlying29 Try.underlying3 sliceInt hf with ⟨hcs,_⟩ | ⟨x,l,c,zs,hcs,_,hl,hm,hz,_,hcell,hwz⟩
  ·simp [Value.cells] at hcs
   obtain ⟨rfl,rfl,rfl⟩:=hcs
   exact ⟨[],.inl ⟨rfl,rfl,rfl,rfl⟩⟩
  ·simp [Value.cells] at hcs
   obtain ⟨rfl,rfl,rfl⟩:=hcs
   exact ⟨zs,.inr ⟨_,rfl,hl,hm,by simpa using hz,hcell,hwz⟩⟩
 clear hA0 hval0
 refine (walk t0 ga0 ra0 la0 gc0 rc0 lc0 x1 x2 a3 len3 cap3 z3 W w0 w3).mono fun e W' ⟨he,bel⟩=>?_
 subst he
 exact ⟨_,rfl,_,_,_,[],_,[],hW',trodAll_mk1 (shut_bool Try.underlying4 _),(trodAll_cons_mk (Below.trod laidOut (by as_aux_lemma=>kernel_rfl) (of_decide_eq_true (by as_aux_lemma=>kernel_rfl)) k0' bel lt0) (trodAll_cons_mk (Below.trod laidOut (by as_aux_lemma=>kernel_rfl) (of_decide_eq_true (by as_aux_lemma=>kernel_rfl)) k1' bel lt1) (trodAll_cons_mk (Below.trod laidOut (by as_aux_lemma=>kernel_rfl) (of_decide_eq_true (by as_aux_lemma=>kernel_rfl)) k2' bel lt2) (trodAll_cons_mk (Below.trod laidOut (by as_aux_lemma=>kernel_rfl) (of_decide_eq_true (by as_aux_lemma=>kernel_rfl)) k3' bel lt3) trodAll_mk0)))),rfl,bel.frame _,fun h=>by cases h⟩
theorem said_of_walk (walk : ∀ (t0 : Tp) (ga0 ra0 la0 : Option Addr) (gc0 rc0 lc0 : Nat) (x1 : Int) (x2 : Int) (a3 : Option Addr) (len3 cap3 : Nat) (z3 : List Int) (w : World),IsTp w (.slice ga0 t0.gr.length gc0) (.slice ra0 t0.rd.length rc0) (.slice la0 t0.lk.length lc0) t0 → IsRow .i64 w a3 len3 cap3 z3 →
  Calls Try.prog 4 #[tpV t0 (.slice ga0 t0.gr.length gc0) (.slice ra0 t0.rd.length rc0) (.slice la0 t0.lk.length lc0),.int .i64 x1,.int .i64 x2,.slice a3 len3 cap3] w fun e w'=>e = .returned (.bool true) ∧ Below w.heap.size w w') : Rows.MeasureNextsSaid:=
 OpenClaim.holds_of_wide_leaving 4 Try.f4 rfl rfl rfl rfl rfl rfl rfl ⟨rfl,rfl,rfl,rfl,rfl⟩ rfl rfl rfl rfl rfl named Try.func4 closed
  inst wrap (fun os started H enc _=>leaving_of_handed (lifted walk os started H enc))
end Go.Proofs.Ytholfdgebdlgjaa.measureNexts
namespace Go.Proofs.Ytholfdgebdlgjaa
open Go.RowKit
theorem measureNexts_said : Rows.MeasureNextsSaid:=
 measureNexts.said_of_walk fun t ga ra la gc rc lc x1 x2 a3 len3 cap3 z3 w ht h3=>(nexts_walk t ga ra la gc rc lc x1 x2 a3 len3 cap3 z3 w ht h3).mono fun _ _ ⟨h1,h2⟩=>⟨h1,h2.below⟩
end Go.Proofs.Ytholfdgebdlgjaa
