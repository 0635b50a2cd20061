/- Parts of a proof: LBou, Fk. No conditions. -/
import Derived.ChangeSlices
import Derived.WalkKit
import Derived.WideShapes
import Derived.Test.YtholfdgebdlgjaaPB1
import Derived.Test.YtholfdgebdlgjaaPB8
import Derived.Test.YtholfdgebdlgjaaPB12
import Derived.Test.YtholfdgebdlgjaaPB16
set_option linter.unusedVariables false
set_option linter.unusedSimpArgs false
namespace Go.Proofs.Ytholfdgebdlgjaa
open Go.RowKit
theorem row_ext {w W : World} {a : Option Addr} {n c : Nat} {zs : List Int} (h : IsRow .i64 w a n c zs) (e : Ext [] w W) : IsRow .i64 W a n c zs:=by
 rcases h with h | ⟨x,rfl,hl,hm,hz,hc,hw⟩
 ·exact .inl h
 ·refine .inr ⟨x,rfl,hl,hm,hz,fun i hi=>?_,hw⟩
  have:=hc i hi
  have hb : (x.add i).block < w.heap.size:=by
   unfold World.cell? at this
   cases hq : w.heap[(x.add i).block]? with
   | none=>simp [hq] at this
   | some o=>exact (Array.getElem?_eq_some_iff.1 hq).1
  rw [e.cell hb (by simp)]
  exact this
theorem node_n (t : Tp) : ∃ n : Nat,t.Ok → (n : Int) = 1 + t.S * t.A + t.T:=⟨(1 + t.S * t.A + t.T).toNat,fun ok=>by have:=ok_prod ok;have:=ok.T1;omega⟩
set_option maxRecDepth 100000 in
set_option maxHeartbeats 1000000 in
theorem bounds_walk (t : Tp) (ga ra la : Option Addr) (gc rc lc : Nat) (x1 x2 x3 : Int) (a4 : Option Addr) (len4 cap4 : Nat) (z4 : List Int) (w : World) (ht : IsTp w (.slice ga t.gr.length gc) (.slice ra t.rd.length rc) (.slice la t.lk.length lc) t) (h4 : IsRow .i64 w a4 len4 cap4 z4) :
  Calls Try.prog 3 #[tpV t (.slice ga t.gr.length gc) (.slice ra t.rd.length rc) (.slice la t.lk.length lc),.int .i64 x1,.int .i64 x2,.int .i64 x3,.slice a4 len4 cap4] w fun e w'=>e = .returned (.bool true) ∧ Ext [] w w':=by
 have HN:=Lib.hid h4
 have HT:=Lib.hid ht
 clear h4 ht
 have E : Ext [] w w:=Ext.refl _ _
 unfold tpV
 refine calls_has 167 Try.func3 rfl Try.ntmps3 (Nat.le_of_ble_eq_true rfl) ?_
 intro fa F
 refine wp_seq_k fun K1 hK1=>?_
 refine wp_region_lit ?_
 refine sq_new F rfl (by decide) rfl (R_box rfl (F.at rfl)) ?_;clear F fa;intro fa w1 F hw
 obtain ⟨n5,hn⟩ : ∃ n,n = w.heap.size:=⟨_,rfl⟩
 rw [← hn] at F
 have s5 : w.heap.size ≤ n5:=Nat.le_of_eq hn.symm
 have l5_E : w.heap.size ≤ n5:=by rw [hn];exact E.size
 replace E:=ext_alloc E hw
 have q5:=new_row hw hn
 clear hw hn
 refine F.vl (R_assign rfl (ev_c fa _)) ?_;clear F fa;intro fa F
 refine wpList_nil ?_
 refine hK1 _ _ ?_
 clear hK1
 refine wp_seq_k fun K2 hK2=>?_
 refine wp_seq_k fun K3 hK3=>?_
 refine wp_region_lit ?_
 refine F.vl (R_loadBlk rfl (F.at rfl) Try.underlying28 rfl (by kernel_rfl) q5) ?_;clear F fa;intro fa F
 refine sq_call F rfl (by decide) rfl (R_callV rfl rfl Try.call24 (mpS (F.at rfl) mp0)) (long_any t ga ra la gc rc lc _) fun e w2 hR=>?_
 obtain ⟨rfl,e9⟩:=hR
 refine ⟨_,rfl,?_⟩;clear F fa;intro fa F
 replace q5:=(e9).keep0 q5
 replace E:=ext_same E (e9)
 clear e9
 refine wpList_nil ?_
 refine hK3 _ _ ?_
 clear hK3
 refine cd_b F rfl (fun hc31=>?_) (fun hc31=>?_)
 ·skip
  refine wp_seq_k fun K4 hK4=>?_
  refine wp_region_lit ?_
  refine sq_call F rfl (by decide) rfl (R_callV rfl rfl Try.call25 mp0) (taken_any _) fun e w3 hR=>?_
  obtain ⟨rfl,e9⟩:=hR
  refine ⟨_,rfl,?_⟩;clear F fa;intro fa F
  replace q5:=(e9).keep0 q5
  replace E:=ext_same E (e9)
  clear e9
  refine F.as ?_;clear F fa;intro fa F
  refine wpList_nil ?_
  refine hK4 _ _ ?_
  clear hK4
  refine wp_ret ?_
  (try simp only [Exit.inBlock,Exit.then])
  refine rt_v F (rs_1 F rfl rfl) ?_
  exact ⟨rfl,E⟩
 ·skip
  obtain ⟨hl1,hl2,hl3⟩:=longB_no (by simpa using hc31)
  refine wp_skip ?_
  refine hK2 _ _ ?_
  clear hK2
  refine wp_seq_k fun K5 hK5=>?_
  refine region_x (Ext [] w2) none follows fun w4 hh eh=>?_
  have q5_:=q5
  replace q5:=keep_same hh q5
  have E_:=E
  have zEw4:=E.size
  replace E:=ext_same E eh
  have eT:=eh
  clear hh eh
  refine F.xr (i:=0) rfl (fun w' hS=>R_loadBlk rfl (F.at rfl) Try.underlying28 rfl (by kernel_rfl) (hS.keep q5_ (by simp))) (fun _=>eT) ?_;clear F fa;intro fa F
  refine F.x (i:=1) rfl (fun w'=>R_move rfl (F.at rfl)) (fun _=>eT) ?_;clear F fa;intro fa F
  have E0:=E
  have hzE:=E.size
  have hzT:=eT.size
  have hzq:=blk_lt q5
  refine ax_only (i:=2) (by kernel_rfl) (op_call F rfl rfl (by decide) rfl (R_callV rfl rfl Try.call27 (mpS (F.at rfl) mp0)) (newLots_any _ a4 len4 cap4 z4 (row_ext HN.out E)) fun e w5 hR=>?_)
  obtain ⟨b,rfl,hb,hb2,HL,e1⟩:=hR
  refine ⟨_,rfl,?_⟩;clear F fa;intro fa F
  replace q5:=(e1).keep0 q5
  replace E:=ext_same E (e1)
  replace eT:=ext_same eT (e1)
  clear e1
  refine ⟨fun _=>eT,?_⟩
  refine ax_only (i:=3) (by kernel_rfl) (op_call F rfl rfl (by decide) rfl (R_callV rfl rfl Try.call26 (mpS (F.at rfl) (mpS (F.at rfl) mp0))) (several_any t ga ra la gc rc lc _ _ b _ _ HL (by omega) (HT.out.ext E0 (by simp)) (by omega) (by omega) (by omega)) fun e w6 hR=>?_)
  obtain ⟨sa,ts,rfl,h3,hTs,hSm,HL,e2⟩:=hR
  refine ⟨_,rfl,?_⟩;clear F fa;intro fa F
  replace q5:=(e2).keep q5 (by simp;omega)
  replace E:=E.trans' e2 (fun i hi hl=>by simp only [List.mem_cons,List.not_mem_nil,or_false] at hi ⊢;omega)
  replace eT:=eT.trans' e2 (fun i hi hl=>by simp only [List.mem_cons,List.not_mem_nil,or_false] at hi ⊢;omega)
  refine ⟨fun _=>eT,?_⟩
  have hT0:=hTs _ (Ext.refl _ _)
  have HS:=Lib.hid (slAt_of_rows hT0.rows te0)
  have HA:=Lib.hid (show ∀ i,i < ts.length → (tsI ts i).At w6 from fun i hi=>te_at hT0 hi)
  have HM:=Lib.hid (show ∀ i,i < ts.length → (tsI ts i).Small from fun i hi=>hSm _ (getD_mem te0 hi))
  clear hT0 hTs hSm HL
  have EO : Ext [] w6 w6:=Ext.refl _ _
  refine F.x (i:=4) rfl (fun w'=>R_assign rfl (F.at rfl)) (fun _=>eT) ?_;clear F fa;intro fa F
  refine ax_done (by kernel_rfl) ?_ _
  clear eT q5_ E_
  refine hK5 _ _ ?_
  clear hK5
  refine wp_seq_k fun K6 hK6=>?_
  refine wp_seq_k fun K7 hK7=>?_
  refine wp_region_lit ?_
  refine F.vl (R_assign rfl (ev_c fa _)) ?_;clear F fa;intro fa F
  refine wpList_nil ?_
  refine hK7 _ _ ?_
  clear hK7
  refine wp_block ?_
  have F0:=F.sub (.c 1 rfl (.c 2 rfl (.c 3 rfl (.c 11 rfl .n))))
  refine lp_for F0 (ts.length) (fun i Lv W=>Lv = [(12,.int .i64 ((i : Nat) : Int))] ∧ Ext [] w6 W) ⟨_,⟨rfl,Ext.refl _ _⟩,F.sub (.c 12 rfl (.c 1 rfl (.c 2 rfl (.c 3 rfl (.c 11 rfl .n)))))⟩ ?_
  clear F F0
  rintro i _ fa w7 hi1 ⟨rfl,EL1⟩ F
  have q5:=EL1.keep0 q5
  have E:=E.nil EL1
  have EO:=EO.nil EL1
  refine wp_seq_k fun K8 hK8=>?_
  refine wp_seq_k fun K9 hK9=>?_
  refine wp_region_lit ?_
  refine F.mv ?_;clear F fa;intro fa F
  refine F.mv ?_;clear F fa;intro fa F
  refine F.vl (R_len rfl rfl (F.at rfl) Try.underlying32) ?_;clear F fa;intro fa F
  refine F.vl (R_lss rfl (F.at rfl) (F.at rfl)) ?_;clear F fa;intro fa F
  refine wpList_nil ?_
  refine hK9 _ _ ?_
  clear hK9
  refine cd_if F rfl (fun hc40=>?_) (fun hc40=>?_)
  ·skip
   refine wp_skip ?_
   refine hK8 _ _ ?_
   clear hK8
   refine wp_seq_k fun K10 hK10=>?_
   refine wp_block ?_
   refine wp_seq_k fun K11 hK11=>?_
   obtain ⟨m1,m2,m3⟩:=HM.out i (by omega)
   refine wp_region_lit ?_
   refine F.mv ?_;clear F fa;intro fa F
   refine F.mv ?_;clear F fa;intro fa F
   obtain ⟨xb12,xo12,xa12,xr12⟩:=HS.out i (by omega)
   refine F.vl (R_ixSlice (sz:=11) rfl ((F.at rfl).trans (xa12 _ _)) (F.at rfl) Try.underlying32 (by kernel_rfl) (by omega) (by omega)) ?_;clear F fa;intro fa F
   refine F.vl (R_loadRow rfl (F.at rfl) Try.underlying28 rfl (by kernel_rfl) (xr12 _ EO)) ?_;clear F fa;intro fa F
   refine sq_call F rfl (by decide) rfl (R_callV rfl rfl Try.call28 (mpS (F.at rfl) mp0)) (copyTapes_any (tsI ts i).t (tsI ts i).ga (tsI ts i).ra (tsI ts i).la (tsI ts i).gc (tsI ts i).rc (tsI ts i).lc _ ((HA.out i (by omega)).ext EO (by simp)) m1 m2 m3) fun e w8 hR=>?_
   obtain ⟨gx,rx,lx,rfl,⟨ogx,orx,olx⟩,eX⟩:=hR
   refine ⟨_,rfl,?_⟩;clear F fa;intro fa F
   replace q5:=(eX).keep0 q5
   replace E:=ext_same E (eX)
   replace EO:=ext_same EO (eX)
   replace EL1:=ext_same EL1 (eX)
   have hTx:=tp_of_owns ogx orx olx
   obtain ⟨gxa,gxc,rfl⟩:=owns_slice ogx
   obtain ⟨rxa,rxc,rfl⟩:=owns_slice orx
   obtain ⟨lxa,lxc,rfl⟩:=owns_slice olx
   clear ogx orx olx eX
   have HX:=Lib.hid hTx
   clear hTx
   have EX : Ext [] w8 w8:=Ext.refl _ _
   refine sq_new F rfl (by decide) rfl (R_alloc rfl Try.zeroValue28) ?_;clear F fa;intro fa w9 F hw
   obtain ⟨n13,hn⟩ : ∃ n,n = w8.heap.size:=⟨_,rfl⟩
   rw [← hn] at F
   have s13 : w8.heap.size ≤ n13:=Nat.le_of_eq hn.symm
   have l13_E : w.heap.size ≤ n13:=by rw [hn];exact E.size
   have l13_EO : w6.heap.size ≤ n13:=by rw [hn];exact EO.size
   have l13_EL1 : w6.heap.size ≤ n13:=by rw [hn];exact EL1.size
   have l13_EX : w8.heap.size ≤ n13:=by rw [hn];exact EX.size
   have m13_5 : n5 < n13:=by rw [hn];exact blk_lt q5
   replace q5:=keep_alloc hw q5
   replace E:=ext_alloc E hw
   replace EO:=ext_alloc EO hw
   replace EL1:=ext_alloc EL1 hw
   replace EX:=ext_alloc EX hw
   have q13:=new_row hw hn
   clear hw hn
   refine sq_to rfl rfl (R_storeRow rfl (F.at rfl) (F.at rfl) (by kernel_rfl) (by first | (simp [Value.oneCell'];done) | (simp [Value.oneCell',grRow,rdRow,lkRow];done)) q13 rfl) ?_;intro w10 hw
   replace q5:=keep_cells hw q5 (by omega)
   replace q13:=put_row hw q13 rfl
   replace E:=ext_cells E hw (fun h=>by first | exact absurd h (by omega) | simp)
   replace EO:=ext_cells EO hw (fun h=>by first | exact absurd h (by omega) | simp)
   replace EL1:=ext_cells EL1 hw (fun h=>by first | exact absurd h (by omega) | simp)
   replace EX:=ext_cells EX hw (fun h=>by first | exact absurd h (by omega) | simp)
   clear hw
   refine wpList_nil ?_
   refine hK11 _ _ ?_
   clear hK11
   refine wp_seq_k fun K13 hK13=>?_
   refine wp_region_lit ?_
   refine F.vl (R_loadBlk rfl (F.at rfl) Try.underlying28 rfl (by kernel_rfl) q13) ?_;clear F fa;intro fa F
   refine sq_call F rfl (by decide) rfl (R_callV rfl rfl Try.call29 (mpS (F.at rfl) mp0)) (can_any (tsI ts i).t _ _ _ _ (HX.out.ext EX (by simp)) m1 m2 m3) fun e w11 hR=>?_
   obtain ⟨rfl,e9⟩:=hR
   refine ⟨_,rfl,?_⟩;clear F fa;intro fa F
   replace q5:=(e9).keep0 q5
   replace q13:=(e9).keep0 q13
   replace E:=ext_same E (e9)
   replace EO:=ext_same EO (e9)
   replace EL1:=ext_same EL1 (e9)
   replace EX:=ext_same EX (e9)
   clear e9
   refine F.mv ?_;clear F fa;intro fa F
   refine F.vl (R_extract rfl (F.at rfl) (get0)) ?_;clear F fa;intro fa F
   refine F.vl (R_extract rfl (F.at rfl) (getS (get0))) ?_;clear F fa;intro fa F
   refine F.as ?_;clear F fa;intro fa F
   refine F.as ?_;clear F fa;intro fa F
   refine wpList_nil ?_
   refine hK13 _ _ ?_
   clear hK13
   refine wp_seq_k fun K14 hK14=>?_
   refine wp_region_lit ?_
   refine F.mv ?_;clear F fa;intro fa F
   refine F.mv ?_;clear F fa;intro fa F
   obtain ⟨xb15,xo15,xa15,xr15⟩:=HS.out i (by omega)
   refine F.vl (R_ixSlice (sz:=11) rfl ((F.at rfl).trans (xa15 _ _)) (F.at rfl) Try.underlying32 (by kernel_rfl) (by omega) (by omega)) ?_;clear F fa;intro fa F
   refine F.vl (R_loadRow rfl (F.at rfl) Try.underlying28 rfl (by kernel_rfl) (xr15 _ EO)) ?_;clear F fa;intro fa F
   refine sq_call F rfl (by decide) rfl (R_callV rfl rfl Try.call30 (mpS (F.at rfl) mp0)) (refCan_any (tsI ts i).t (tsI ts i).ga (tsI ts i).ra (tsI ts i).la (tsI ts i).gc (tsI ts i).rc (tsI ts i).lc _ ((HA.out i (by omega)).ext EO (by simp)) m1 m2 m3) fun e w12 hR=>?_
   obtain ⟨rfl,e9⟩:=hR
   refine ⟨_,rfl,?_⟩;clear F fa;intro fa F
   replace q5:=(e9).keep0 q5
   replace q13:=(e9).keep0 q13
   replace E:=ext_same E (e9)
   replace EO:=ext_same EO (e9)
   replace EL1:=ext_same EL1 (e9)
   replace EX:=ext_same EX (e9)
   clear e9
   refine F.mv ?_;clear F fa;intro fa F
   refine F.vl (R_extract rfl (F.at rfl) (get0)) ?_;clear F fa;intro fa F
   refine F.vl (R_extract rfl (F.at rfl) (getS (get0))) ?_;clear F fa;intro fa F
   refine F.as ?_;clear F fa;intro fa F
   refine F.as ?_;clear F fa;intro fa F
   refine wpList_nil ?_
   refine hK14 _ _ ?_
   clear hK14
   refine wp_seq_k fun K16 hK16=>?_
   refine wp_seq_k fun K17 hK17=>?_
   refine region_x (Ext [] w12) none follows fun w13 hh eh=>?_
   have q5_:=q5
   replace q5:=keep_same hh q5
   have q13_:=q13
   replace q13:=keep_same hh q13
   have E_:=E
   have zEw13:=E.size
   replace E:=ext_same E eh
   have EO_:=EO
   have zEOw13:=EO.size
   replace EO:=ext_same EO eh
   have EL1_:=EL1
   have zEL1w13:=EL1.size
   replace EL1:=ext_same EL1 eh
   have EX_:=EX
   have zEXw13:=EX.size
   replace EX:=ext_same EX eh
   have eT:=eh
   clear hh eh
   refine F.xr (i:=0) rfl (fun w' hS=>R_loadBlk rfl (F.at rfl) Try.underlying28 rfl (by kernel_rfl) (hS.keep q13_ (by simp))) (fun _=>eT) ?_;clear F fa;intro fa F
   refine F.x (i:=2) rfl (fun w'=>R_move rfl (F.at rfl)) (fun _=>eT) ?_;clear F fa;intro fa F
   refine F.x (i:=3) rfl (fun w'=>R_move rfl (F.at rfl)) (fun _=>eT) ?_;clear F fa;intro fa F
   obtain ⟨xb18,xo18,xa18,xr18⟩:=HS.out i (by omega)
   refine F.x (i:=4) rfl (fun w'=>R_ixSlice (sz:=11) rfl ((F.at rfl).trans (xa18 _ _)) (F.at rfl) Try.underlying32 (by kernel_rfl) (by omega) (by omega)) (fun _=>eT) ?_;clear F fa;intro fa F
   refine F.xr (i:=5) rfl (fun w' hS=>R_loadRow rfl (F.at rfl) Try.underlying28 rfl (by kernel_rfl) (xr18 _ (EO_.nil hS))) (fun _=>eT) ?_;clear F fa;intro fa F
   refine ax_only (i:=1) (by kernel_rfl) (op_call F rfl rfl (by decide) rfl (R_callV rfl rfl Try.call31 (mpS (F.at rfl) mp0)) (check_any (tsI ts i).t _ _ _ _ (HX.out.ext EX (by simp)) m1 m2 m3) fun e w14 hR=>?_)
   obtain ⟨rfl,e9⟩:=hR
   refine ⟨_,rfl,?_⟩;clear F fa;intro fa F
   replace q5:=(e9).keep0 q5
   replace q13:=(e9).keep0 q13
   replace E:=ext_same E (e9)
   replace EO:=ext_same EO (e9)
   replace EL1:=ext_same EL1 (e9)
   replace EX:=ext_same EX (e9)
   replace eT:=ext_same eT (e9)
   clear e9
   refine ⟨fun _=>eT,?_⟩
   refine ax_only (i:=6) (by kernel_rfl) (op_call F rfl rfl (by decide) rfl (R_callV rfl rfl Try.call32 (mpS (F.at rfl) mp0)) (refCheck_any (tsI ts i).t (tsI ts i).ga (tsI ts i).ra (tsI ts i).la (tsI ts i).gc (tsI ts i).rc (tsI ts i).lc _ ((HA.out i (by omega)).ext EO (by simp)) m1 m2 m3) fun e w15 hR=>?_)
   obtain ⟨rfl,e9⟩:=hR
   refine ⟨_,rfl,?_⟩;clear F fa;intro fa F
   replace q5:=(e9).keep0 q5
   replace q13:=(e9).keep0 q13
   replace E:=ext_same E (e9)
   replace EO:=ext_same EO (e9)
   replace EL1:=ext_same EL1 (e9)
   replace EX:=ext_same EX (e9)
   replace eT:=ext_same eT (e9)
   clear e9
   refine ⟨fun _=>eT,?_⟩
   refine F.x (i:=7) rfl (fun w'=>R_neqB (b:=false) rfl (F.at rfl) (F.at rfl) (decide_eq_true ((by omega)))) (fun _=>eT) ?_;clear F fa;intro fa F
   refine F.x (i:=8) rfl (fun w'=>R_move rfl (F.at rfl)) (fun _=>eT) ?_;clear F fa;intro fa F
   refine F.x (i:=9) rfl (fun w'=>R_move rfl (F.at rfl)) (fun _=>eT) ?_ (hw:=(wantT F rfl rfl (by decide) rfl));clear F fa;intro fa F
   refine F.x (i:=10) rfl (fun w'=>R_move rfl (F.at rfl)) (fun _=>eT) ?_ (hw:=(wantT F rfl rfl (by decide) rfl));clear F fa;intro fa F
   have hfin : (canB (tsI ts i).t != canB (tsI ts i).t) = false:=bne_self_eq_false' _
   refine F.x (i:=11) rfl (fun w'=>(R_neqBo rfl (F.at rfl) (F.at rfl) Try.underlying4)) (fun _=>eT) ?_ (hw:=(wantT F rfl rfl (by decide) rfl));clear F fa;intro fa F
   replace F:=F.re (k:=72) rfl (congrArg Value.bool hfin)
   refine F.x (i:=12) rfl (fun w'=>R_pickF rfl (F.at rfl) (F.at rfl)) (fun _=>eT) ?_;clear F fa;intro fa F
   refine F.x (i:=13) rfl (fun w'=>R_move rfl (F.at rfl)) (fun _=>eT) ?_;clear F fa;intro fa F
   refine F.x (i:=14) rfl (fun w'=>R_move rfl (F.at rfl)) (fun _=>eT) ?_ (hw:=(wantT F rfl rfl (by decide) rfl));clear F fa;intro fa F
   refine F.x (i:=15) rfl (fun w'=>R_move rfl (F.at rfl)) (fun _=>eT) ?_ (hw:=(wantT F rfl rfl (by decide) rfl));clear F fa;intro fa F
   refine F.x (i:=16) rfl (fun w'=>R_neqB (b:=false) rfl (F.at rfl) (F.at rfl) (decide_eq_true ((by omega)))) (fun _=>eT) ?_ (hw:=(wantT F rfl rfl (by decide) rfl));clear F fa;intro fa F
   refine F.x (i:=17) rfl (fun w'=>R_pickF rfl (F.at rfl) (F.at rfl)) (fun _=>eT) ?_;clear F fa;intro fa F
   refine ax_done (by kernel_rfl) ?_ _
   clear eT q5_ q13_ E_ EO_ EL1_ EX_
   refine hK17 _ _ ?_
   clear hK17
   refine cd_F F rfl ?_
   refine wp_skip ?_
   refine hK16 _ _ ?_
   clear hK16
   refine wp_seq_k fun K19 hK19=>?_
   refine wp_region_lit ?_
   refine F.mv ?_;clear F fa;intro fa F
   refine sq_new F rfl (by decide) rfl (R_buildSliceV rfl (prS (F.at rfl) (prS (ev_c fa _) (prS (ev_c fa _) (prS (ev_c fa _) (prS (ev_c fa _) (prS (ev_c fa _) pr0)))))) Try.underlying29 (size:=1) (by kernel_rfl) (by decide) (by decide) Try.zeroValue3 (cells:=#[.int .i64 x1,.int .i64 0,.int .i64 0,.int .i64 1,.int .i64 1,.int .i64 2]) (by kernel_rfl)) ?_;clear F fa;intro fa w16 F hw
   obtain ⟨n80,hn⟩ : ∃ n,n = w15.heap.size:=⟨_,rfl⟩
   rw [← hn] at F
   have s80 : w15.heap.size ≤ n80:=Nat.le_of_eq hn.symm
   have l80_E : w.heap.size ≤ n80:=by rw [hn];exact E.size
   have l80_EO : w6.heap.size ≤ n80:=by rw [hn];exact EO.size
   have l80_EL1 : w6.heap.size ≤ n80:=by rw [hn];exact EL1.size
   have l80_EX : w8.heap.size ≤ n80:=by rw [hn];exact EX.size
   have m80_5 : n5 < n80:=by rw [hn];exact blk_lt q5
   have m80_13 : n13 < n80:=by rw [hn];exact blk_lt q13
   replace q5:=keep_alloc hw q5
   replace q13:=keep_alloc hw q13
   replace E:=ext_alloc E hw
   replace EO:=ext_alloc EO hw
   replace EL1:=ext_alloc EL1 hw
   replace EX:=ext_alloc EX hw
   have q80:=new_block hw hn
   clear hw hn
   refine F.mv ?_;clear F fa;intro fa F
   refine sq_new F rfl (by decide) rfl (R_buildSliceV rfl (prS (F.at rfl) (prS (ev_c fa _) (prS (ev_c fa _) (prS (ev_c fa _) (prS (ev_c fa _) (prS (ev_c fa _) pr0)))))) Try.underlying29 (size:=1) (by kernel_rfl) (by decide) (by decide) Try.zeroValue3 (cells:=#[.int .i64 x2,.int .i64 0,.int .i64 1,.int .i64 0,.int .i64 1,.int .i64 2]) (by kernel_rfl)) ?_;clear F fa;intro fa w17 F hw
   obtain ⟨n82,hn⟩ : ∃ n,n = w16.heap.size:=⟨_,rfl⟩
   rw [← hn] at F
   have s82 : w16.heap.size ≤ n82:=Nat.le_of_eq hn.symm
   have l82_E : w.heap.size ≤ n82:=by rw [hn];exact E.size
   have l82_EO : w6.heap.size ≤ n82:=by rw [hn];exact EO.size
   have l82_EL1 : w6.heap.size ≤ n82:=by rw [hn];exact EL1.size
   have l82_EX : w8.heap.size ≤ n82:=by rw [hn];exact EX.size
   have m82_5 : n5 < n82:=by rw [hn];exact blk_lt q5
   have m82_13 : n13 < n82:=by rw [hn];exact blk_lt q13
   have m82_80 : n80 < n82:=by rw [hn];exact blk_lt q80
   replace q5:=keep_alloc hw q5
   replace q13:=keep_alloc hw q13
   replace q80:=keep_alloc hw q80
   replace E:=ext_alloc E hw
   replace EO:=ext_alloc EO hw
   replace EL1:=ext_alloc EL1 hw
   replace EX:=ext_alloc EX hw
   have q82:=new_block hw hn
   clear hw hn
   refine F.mv ?_;clear F fa;intro fa F
   refine sq_new F rfl (by decide) rfl (R_buildSliceV rfl (prS (F.at rfl) (prS (ev_c fa _) (prS (ev_c fa _) (prS (ev_c fa _) (prS (ev_c fa _) (prS (ev_c fa _) pr0)))))) Try.underlying29 (size:=1) (by kernel_rfl) (by decide) (by decide) Try.zeroValue3 (cells:=#[.int .i64 x3,.int .i64 0,.int .i64 1,.int .i64 2,.int .i64 3,.int .i64 (-1)]) (by kernel_rfl)) ?_;clear F fa;intro fa w18 F hw
   obtain ⟨n84,hn⟩ : ∃ n,n = w17.heap.size:=⟨_,rfl⟩
   rw [← hn] at F
   have s84 : w17.heap.size ≤ n84:=Nat.le_of_eq hn.symm
   have l84_E : w.heap.size ≤ n84:=by rw [hn];exact E.size
   have l84_EO : w6.heap.size ≤ n84:=by rw [hn];exact EO.size
   have l84_EL1 : w6.heap.size ≤ n84:=by rw [hn];exact EL1.size
   have l84_EX : w8.heap.size ≤ n84:=by rw [hn];exact EX.size
   have m84_5 : n5 < n84:=by rw [hn];exact blk_lt q5
   have m84_13 : n13 < n84:=by rw [hn];exact blk_lt q13
   have m84_80 : n80 < n84:=by rw [hn];exact blk_lt q80
   have m84_82 : n82 < n84:=by rw [hn];exact blk_lt q82
   replace q5:=keep_alloc hw q5
   replace q13:=keep_alloc hw q13
   replace q80:=keep_alloc hw q80
   replace q82:=keep_alloc hw q82
   replace E:=ext_alloc E hw
   replace EO:=ext_alloc EO hw
   replace EL1:=ext_alloc EL1 hw
   replace EX:=ext_alloc EX hw
   have q84:=new_block hw hn
   clear hw hn
   refine F.as ?_;clear F fa;intro fa F
   refine F.as ?_;clear F fa;intro fa F
   refine F.as ?_;clear F fa;intro fa F
   refine wpList_nil ?_
   have HS1:=Lib.hid (show SlAt [] w18 (some ⟨n80,0,none⟩) 1 6 (fun i=>intRow ([x1,0,0,1,1,2].getD i 0)) from slAt_of_rows (rows_lit [x1,0,0,1,1,2] 6 q80) 0)
   have HS2:=Lib.hid (show SlAt [] w18 (some ⟨n82,0,none⟩) 1 6 (fun i=>intRow ([x2,0,1,0,1,2].getD i 0)) from slAt_of_rows (rows_lit [x2,0,1,0,1,2] 6 q82) 0)
   have HS3:=Lib.hid (show SlAt [] w18 (some ⟨n84,0,none⟩) 1 6 (fun i=>intRow ([x3,0,1,2,3,-1].getD i 0)) from slAt_of_rows (rows_lit [x3,0,1,2,3,-1] 6 q84) 0)
   have EL : Ext [] w18 w18:=Ext.refl _ _
   obtain ⟨nn,hnn⟩:=node_n (tsI ts i).t
   refine hK19 _ _ ?_
   clear hK19
   refine wp_seq_k fun K20 hK20=>?_
   refine wp_seq_k fun K21 hK21=>?_
   refine wp_region_lit ?_
   refine F.vl (R_assign rfl (ev_c fa _)) ?_;clear F fa;intro fa F
   refine wpList_nil ?_
   refine hK21 _ _ ?_
   clear hK21
   refine wp_block ?_
   have F0:=F.sub (.c 1 rfl (.c 2 rfl (.c 3 rfl (.c 11 rfl (.c 12 rfl (.c 13 rfl (.c 18 rfl (.c 19 rfl (.c 20 rfl .n)))))))))
   refine lp_for F0 (6) (fun k Lv W=>Lv = [(21,.int .i64 ((k : Nat) : Int))] ∧ Ext [] w18 W) ⟨_,⟨rfl,Ext.refl _ _⟩,F.sub (.c 21 rfl (.c 1 rfl (.c 2 rfl (.c 3 rfl (.c 11 rfl (.c 12 rfl (.c 13 rfl (.c 18 rfl (.c 19 rfl (.c 20 rfl .n))))))))))⟩ ?_
   clear F F0
   rintro k _ fa w19 hi2 ⟨rfl,EL2⟩ F
   have q5:=EL2.keep0 q5
   have q13:=EL2.keep0 q13
   have q80:=EL2.keep0 q80
   have q82:=EL2.keep0 q82
   have q84:=EL2.keep0 q84
   have E:=E.nil EL2
   have EO:=EO.nil EL2
   have EL1:=EL1.nil EL2
   have EX:=EX.nil EL2
   have EL:=EL.nil EL2
   refine wp_seq_k fun K22 hK22=>?_
   refine wp_seq_k fun K23 hK23=>?_
   refine wp_region_lit ?_
   refine F.mv ?_;clear F fa;intro fa F
   refine F.mv ?_;clear F fa;intro fa F
   refine F.vl (R_len rfl rfl (F.at rfl) Try.underlying29) ?_;clear F fa;intro fa F
   refine F.vl (R_lss rfl (F.at rfl) (F.at rfl)) ?_;clear F fa;intro fa F
   refine wpList_nil ?_
   refine hK23 _ _ ?_
   clear hK23
   refine cd_if F rfl (fun hc88=>?_) (fun hc88=>?_)
   ·skip
    refine wp_skip ?_
    refine hK22 _ _ ?_
    clear hK22
    refine wp_seq_k fun K24 hK24=>?_
    refine wp_block ?_
    refine wp_seq_k fun K25 hK25=>?_
    suffices hcut : ∀ (n22 : Nat) (fa : Act) (w27 : World),Has 167 fa [(1,.int .i64 x1),(2,.int .i64 x2),(3,.int .i64 x3),(11,.slice sa ts.length ts.length),(12,.int .i64 ((i : Nat) : Int)),(13,.pointer (some ⟨n13,0,none⟩)),(18,.slice (some ⟨n80,0,none⟩) 6 6),(19,.slice (some ⟨n82,0,none⟩) 6 6),(20,.slice (some ⟨n84,0,none⟩) 6 6),(21,.int .i64 ((k : Nat) : Int)),(22,.pointer (some ⟨n22,0,none⟩)),(23,.int .i64 (measE (tsI ts i).t ([x1,0,0,1,1,2].getD k 0) ([x2,0,1,0,1,2].getD k 0)))] → w27.heap[n13]? = some (.cells #[.int .i64 ((tsI ts i).t.S),.int .i64 ((tsI ts i).t.A),.int .i64 ((tsI ts i).t.T),.int .i64 ((tsI ts i).t.bl),.int .i64 ((tsI ts i).t.bm),.int .i64 ((tsI ts i).t.pl),.int .i64 ((tsI ts i).t.pm),.int .i64 ((tsI ts i).t.sl),.slice gxa ((tsI ts i).t.gr.length) gxc,.slice rxa ((tsI ts i).t.rd.length) rxc,.slice lxa ((tsI ts i).t.lk.length) lxc] 28 (0,0)) → w27.heap[n80]? = some (.cells #[.int .i64 x1,.int .i64 0,.int .i64 0,.int .i64 1,.int .i64 1,.int .i64 2] 3 (0,0)) → w27.heap[n82]? = some (.cells #[.int .i64 x2,.int .i64 0,.int .i64 1,.int .i64 0,.int .i64 1,.int .i64 2] 3 (0,0)) → w27.heap[n84]? = some (.cells #[.int .i64 x3,.int .i64 0,.int .i64 1,.int .i64 2,.int .i64 3,.int .i64 (-1)] 3 (0,0)) → w27.heap[n22]? = some (.cells #[.int .i64 ((measV (tsI ts i).t ([x1,0,0,1,1,2].getD k 0) ([x2,0,1,0,1,2].getD k 0)).1),.int .i64 ((measV (tsI ts i).t ([x1,0,0,1,1,2].getD k 0) ([x2,0,1,0,1,2].getD k 0)).2)] 23 (0,0)) → Ext [] w w27 → Ext [] w6 w27 → Ext [] w6 w27 → Ext [] w8 w27 → Ext [] w18 w27 → Ext [] w18 w27 → w.heap.size ≤ n22 → w6.heap.size ≤ n22 → w6.heap.size ≤ n22 → w8.heap.size ≤ n22 → w18.heap.size ≤ n22 → w18.heap.size ≤ n22 → n13 ≠ n22 → n80 ≠ n22 → n82 ≠ n22 → n84 ≠ n22 → K25 fa w27 by
     refine region_x (Ext [] w19) none follows fun w20 hh eh=>?_
     have q5_:=q5
     replace q5:=keep_same hh q5
     have q13_:=q13
     replace q13:=keep_same hh q13
     have q80_:=q80
     replace q80:=keep_same hh q80
     have q82_:=q82
     replace q82:=keep_same hh q82
     have q84_:=q84
     replace q84:=keep_same hh q84
     have E_:=E
     have zEw20:=E.size
     replace E:=ext_same E eh
     have EO_:=EO
     have zEOw20:=EO.size
     replace EO:=ext_same EO eh
     have EL1_:=EL1
     have zEL1w20:=EL1.size
     replace EL1:=ext_same EL1 eh
     have EX_:=EX
     have zEXw20:=EX.size
     replace EX:=ext_same EX eh
     have EL_:=EL
     have zELw20:=EL.size
     replace EL:=ext_same EL eh
     have EL2_:=EL2
     have zEL2w20:=EL2.size
     replace EL2:=ext_same EL2 eh
     have eT:=eh
     clear hh eh
     refine F.xr (i:=0) rfl (fun w' hS=>R_loadBlk rfl (F.at rfl) Try.underlying28 rfl (by kernel_rfl) (hS.keep q13_ (by simp))) (fun _=>eT) ?_;clear F fa;intro fa F
     refine F.x (i:=1) rfl (fun w'=>R_move rfl (F.at rfl)) (fun _=>eT) ?_;clear F fa;intro fa F
     refine F.x (i:=2) rfl (fun w'=>R_move rfl (F.at rfl)) (fun _=>eT) ?_;clear F fa;intro fa F
     obtain ⟨xb26,xo26,xa26,xr26⟩:=HS1.out k (by omega)
     refine F.x (i:=3) rfl (fun w'=>R_ixSlice (sz:=1) rfl ((F.at rfl).trans (xa26 _ _)) (F.at rfl) Try.underlying29 (by kernel_rfl) (by omega) (by omega)) (fun _=>eT) ?_;clear F fa;intro fa F
     refine F.xr (i:=4) rfl (fun w' hS=>R_load rfl (F.at rfl) Try.underlying3 rfl (xr26 _ (EL_.nil hS) 0 _ rfl)) (fun _=>eT) ?_;clear F fa;intro fa F
     refine F.x (i:=5) rfl (fun w'=>R_move rfl (F.at rfl)) (fun _=>eT) ?_;clear F fa;intro fa F
     refine F.x (i:=6) rfl (fun w'=>R_move rfl (F.at rfl)) (fun _=>eT) ?_;clear F fa;intro fa F
     obtain ⟨xb27,xo27,xa27,xr27⟩:=HS2.out k (by omega)
     refine F.x (i:=7) rfl (fun w'=>R_ixSlice (sz:=1) rfl ((F.at rfl).trans (xa27 _ _)) (F.at rfl) Try.underlying29 (by kernel_rfl) (by omega) (by omega)) (fun _=>eT) ?_;clear F fa;intro fa F
     refine F.xr (i:=8) rfl (fun w' hS=>R_load rfl (F.at rfl) Try.underlying3 rfl (xr27 _ (EL_.nil hS) 0 _ rfl)) (fun _=>eT) ?_;clear F fa;intro fa F
     refine ax_pair (i:=9) (j:=13) (by kernel_rfl) ?_ ?_
     ·skip
      refine (op_call F rfl rfl (by decide) rfl (R_callV rfl rfl Try.call33 (mpS (F.at rfl) (mpS (F.at rfl) (mpS (F.at rfl) mp0)))) (measure_any (tsI ts i).t _ _ _ _ _ _ (HX.out.ext EX (by simp)) m1 m2 m3) fun e w21 hR=>?_)
      obtain ⟨rfl,e9⟩:=hR
      refine ⟨_,rfl,?_⟩;clear F fa;intro fa F
      replace q5:=(e9).keep0 q5
      replace q13:=(e9).keep0 q13
      replace q80:=(e9).keep0 q80
      replace q82:=(e9).keep0 q82
      replace q84:=(e9).keep0 q84
      replace E:=ext_same E (e9)
      replace EO:=ext_same EO (e9)
      replace EL1:=ext_same EL1 (e9)
      replace EX:=ext_same EX (e9)
      replace EL:=ext_same EL (e9)
      replace EL2:=ext_same EL2 (e9)
      replace eT:=ext_same eT (e9)
      clear e9
      refine ⟨fun _=>eT,?_⟩
      refine F.x (i:=10) rfl (fun w'=>R_move rfl (F.at rfl)) (fun _=>eT) ?_;clear F fa;intro fa F
      refine F.x (i:=11) rfl (fun w'=>R_extract rfl (F.at rfl) (get0)) (fun _=>eT) ?_;clear F fa;intro fa F
      refine F.x (i:=12) rfl (fun w'=>R_extract rfl (F.at rfl) (getS (get0))) (fun _=>eT) ?_;clear F fa;intro fa F
      refine ax_only (i:=13) (by kernel_rfl) (op_new F rfl rfl (by decide) rfl (R_alloc rfl Try.zeroValue23) ?_);clear F fa;intro fa w22 F hw
      obtain ⟨n22,hn⟩ : ∃ n,n = w21.heap.size:=⟨_,rfl⟩
      rw [← hn] at F
      have s22 : w21.heap.size ≤ n22:=Nat.le_of_eq hn.symm
      have l22_E : w.heap.size ≤ n22:=by rw [hn];exact E.size
      have l22_EO : w6.heap.size ≤ n22:=by rw [hn];exact EO.size
      have l22_EL1 : w6.heap.size ≤ n22:=by rw [hn];exact EL1.size
      have l22_EX : w8.heap.size ≤ n22:=by rw [hn];exact EX.size
      have l22_EL : w18.heap.size ≤ n22:=by rw [hn];exact EL.size
      have l22_EL2 : w18.heap.size ≤ n22:=by rw [hn];exact EL2.size
      have lT22 : w19.heap.size ≤ n22:=by rw [hn];exact eT.size
      have m22_5 : n5 < n22:=by rw [hn];exact blk_lt q5
      have m22_13 : n13 < n22:=by rw [hn];exact blk_lt q13
      have m22_80 : n80 < n22:=by rw [hn];exact blk_lt q80
      have m22_82 : n82 < n22:=by rw [hn];exact blk_lt q82
      have m22_84 : n84 < n22:=by rw [hn];exact blk_lt q84
      replace q5:=keep_alloc hw q5
      replace q13:=keep_alloc hw q13
      replace q80:=keep_alloc hw q80
      replace q82:=keep_alloc hw q82
      replace q84:=keep_alloc hw q84
      replace E:=ext_alloc E hw
      replace EO:=ext_alloc EO hw
      replace EL1:=ext_alloc EL1 hw
      replace EX:=ext_alloc EX hw
      replace EL:=ext_alloc EL hw
      replace EL2:=ext_alloc EL2 hw
      replace eT:=ext_alloc eT hw
      have q22:=new_row hw hn
      clear hw hn
      refine ⟨fun _=>eT,?_⟩
      refine ax_only (i:=14) (by kernel_rfl) (op_to rfl rfl rfl (R_storeRow rfl (F.at rfl) (F.at rfl) (by kernel_rfl) (by first | (simp [Value.oneCell'];done) | (simp [Value.oneCell',grRow,rdRow,lkRow];done)) q22 rfl) ?_);intro w23 hw
      replace q5:=keep_cells hw q5 (by omega)
      replace q13:=keep_cells hw q13 (by omega)
      replace q80:=keep_cells hw q80 (by omega)
      replace q82:=keep_cells hw q82 (by omega)
      replace q84:=keep_cells hw q84 (by omega)
      replace q22:=put_row hw q22 rfl
      replace E:=ext_cells E hw (fun h=>by first | exact absurd h (by omega) | simp)
      replace EO:=ext_cells EO hw (fun h=>by first | exact absurd h (by omega) | simp)
      replace EL1:=ext_cells EL1 hw (fun h=>by first | exact absurd h (by omega) | simp)
      replace EX:=ext_cells EX hw (fun h=>by first | exact absurd h (by omega) | simp)
      replace EL:=ext_cells EL hw (fun h=>by first | exact absurd h (by omega) | simp)
      replace EL2:=ext_cells EL2 hw (fun h=>by first | exact absurd h (by omega) | simp)
      replace eT:=ext_cells eT hw (fun h=>by first | exact absurd h (by omega) | simp)
      clear hw
      refine ⟨fun _=>eT,?_⟩
      refine F.x (i:=15) rfl (fun w'=>R_assign rfl (F.at rfl)) (fun _=>eT) ?_;clear F fa;intro fa F
      refine ax_done (by kernel_rfl) ?_ _
      exact hcut _ _ _ (F.sub (.c 1 rfl (.c 2 rfl (.c 3 rfl (.c 11 rfl (.c 12 rfl (.c 13 rfl (.c 18 rfl (.c 19 rfl (.c 20 rfl (.c 21 rfl (.c 22 rfl (.c 23 rfl .n))))))))))))) q13 q80 q82 q84 q22 E EO EL1 EX EL EL2 (by omega) (by omega) (by omega) (by omega) (by omega) (by omega) (by omega) (by omega) (by omega) (by omega)
     ·skip
      refine (op_new F rfl rfl (by decide) rfl (R_alloc rfl Try.zeroValue23) ?_);clear F fa;intro fa w24 F hw
      obtain ⟨n22,hn⟩ : ∃ n,n = w20.heap.size:=⟨_,rfl⟩
      rw [← hn] at F
      have s22 : w20.heap.size ≤ n22:=Nat.le_of_eq hn.symm
      have l22_E : w.heap.size ≤ n22:=by rw [hn];exact E.size
      have l22_EO : w6.heap.size ≤ n22:=by rw [hn];exact EO.size
      have l22_EL1 : w6.heap.size ≤ n22:=by rw [hn];exact EL1.size
      have l22_EX : w8.heap.size ≤ n22:=by rw [hn];exact EX.size
      have l22_EL : w18.heap.size ≤ n22:=by rw [hn];exact EL.size
      have l22_EL2 : w18.heap.size ≤ n22:=by rw [hn];exact EL2.size
      have lT22 : w19.heap.size ≤ n22:=by rw [hn];exact eT.size
      have m22_5 : n5 < n22:=by rw [hn];exact blk_lt q5
      have m22_13 : n13 < n22:=by rw [hn];exact blk_lt q13
      have m22_80 : n80 < n22:=by rw [hn];exact blk_lt q80
      have m22_82 : n82 < n22:=by rw [hn];exact blk_lt q82
      have m22_84 : n84 < n22:=by rw [hn];exact blk_lt q84
      replace q5:=keep_alloc hw q5
      replace q13:=keep_alloc hw q13
      replace q80:=keep_alloc hw q80
      replace q82:=keep_alloc hw q82
      replace q84:=keep_alloc hw q84
      replace E:=ext_alloc E hw
      replace EO:=ext_alloc EO hw
      replace EL1:=ext_alloc EL1 hw
      replace EX:=ext_alloc EX hw
      replace EL:=ext_alloc EL hw
      replace EL2:=ext_alloc EL2 hw
      replace eT:=ext_alloc eT hw
      have q22:=new_row hw hn
      clear hw hn
      refine ⟨fun _=>eT,?_⟩
      refine ax_only (i:=9) (by kernel_rfl) (op_call F rfl rfl (by decide) rfl (R_callV rfl rfl Try.call33 (mpS (F.at rfl) (mpS (F.at rfl) (mpS (F.at rfl) mp0)))) (measure_any (tsI ts i).t _ _ _ _ _ _ (HX.out.ext EX (by simp)) m1 m2 m3) fun e w25 hR=>?_)
      obtain ⟨rfl,e9⟩:=hR
      refine ⟨_,rfl,?_⟩;clear F fa;intro fa F
      replace q5:=(e9).keep0 q5
      replace q13:=(e9).keep0 q13
      replace q80:=(e9).keep0 q80
      replace q82:=(e9).keep0 q82
      replace q84:=(e9).keep0 q84
      replace q22:=(e9).keep0 q22
      replace E:=ext_same E (e9)
      replace EO:=ext_same EO (e9)
      replace EL1:=ext_same EL1 (e9)
      replace EX:=ext_same EX (e9)
      replace EL:=ext_same EL (e9)
      replace EL2:=ext_same EL2 (e9)
      replace eT:=ext_same eT (e9)
      clear e9
      refine ⟨fun _=>eT,?_⟩
      refine F.x (i:=10) rfl (fun w'=>R_move rfl (F.at rfl)) (fun _=>eT) ?_;clear F fa;intro fa F
      refine F.x (i:=11) rfl (fun w'=>R_extract rfl (F.at rfl) (get0)) (fun _=>eT) ?_;clear F fa;intro fa F
      refine F.x (i:=12) rfl (fun w'=>R_extract rfl (F.at rfl) (getS (get0))) (fun _=>eT) ?_;clear F fa;intro fa F
      refine ax_only (i:=14) (by kernel_rfl) (op_to rfl rfl rfl (R_storeRow rfl (F.at rfl) (F.at rfl) (by kernel_rfl) (by first | (simp [Value.oneCell'];done) | (simp [Value.oneCell',grRow,rdRow,lkRow];done)) q22 rfl) ?_);intro w26 hw
      replace q5:=keep_cells hw q5 (by omega)
      replace q13:=keep_cells hw q13 (by omega)
      replace q80:=keep_cells hw q80 (by omega)
      replace q82:=keep_cells hw q82 (by omega)
      replace q84:=keep_cells hw q84 (by omega)
      replace q22:=put_row hw q22 rfl
      replace E:=ext_cells E hw (fun h=>by first | exact absurd h (by omega) | simp)
      replace EO:=ext_cells EO hw (fun h=>by first | exact absurd h (by omega) | simp)
      replace EL1:=ext_cells EL1 hw (fun h=>by first | exact absurd h (by omega) | simp)
      replace EX:=ext_cells EX hw (fun h=>by first | exact absurd h (by omega) | simp)
      replace EL:=ext_cells EL hw (fun h=>by first | exact absurd h (by omega) | simp)
      replace EL2:=ext_cells EL2 hw (fun h=>by first | exact absurd h (by omega) | simp)
      replace eT:=ext_cells eT hw (fun h=>by first | exact absurd h (by omega) | simp)
      clear hw
      refine ⟨fun _=>eT,?_⟩
      refine F.x (i:=15) rfl (fun w'=>R_assign rfl (F.at rfl)) (fun _=>eT) ?_;clear F fa;intro fa F
      refine ax_done (by kernel_rfl) ?_ _
      exact hcut _ _ _ (F.sub (.c 1 rfl (.c 2 rfl (.c 3 rfl (.c 11 rfl (.c 12 rfl (.c 13 rfl (.c 18 rfl (.c 19 rfl (.c 20 rfl (.c 21 rfl (.c 22 rfl (.c 23 rfl .n))))))))))))) q13 q80 q82 q84 q22 E EO EL1 EX EL EL2 (by omega) (by omega) (by omega) (by omega) (by omega) (by omega) (by omega) (by omega) (by omega) (by omega)
    clear F q5 q13 q80 q82 q84 E EO EL1 EX EL EL2 fa
    intro n22  fa w27 F q13 q80 q82 q84 q22 E EO EL1 EX EL EL2 l22_E l22_EO l22_EL1 l22_EX l22_EL l22_EL2 m22_13 m22_80 m22_82 m22_84
    refine hK25 _ _ ?_
    clear hK25
    refine wp_seq_k fun K28 hK28=>?_
    suffices hcut : ∀ (n24 : Nat) (fa : Act) (w35 : World),Has 167 fa [(1,.int .i64 x1),(2,.int .i64 x2),(3,.int .i64 x3),(11,.slice sa ts.length ts.length),(12,.int .i64 ((i : Nat) : Int)),(13,.pointer (some ⟨n13,0,none⟩)),(18,.slice (some ⟨n80,0,none⟩) 6 6),(19,.slice (some ⟨n82,0,none⟩) 6 6),(20,.slice (some ⟨n84,0,none⟩) 6 6),(21,.int .i64 ((k : Nat) : Int)),(22,.pointer (some ⟨n22,0,none⟩)),(23,.int .i64 (measE (tsI ts i).t ([x1,0,0,1,1,2].getD k 0) ([x2,0,1,0,1,2].getD k 0))),(24,.pointer (some ⟨n24,0,none⟩)),(25,.int .i64 (measE (tsI ts i).t ([x1,0,0,1,1,2].getD k 0) ([x2,0,1,0,1,2].getD k 0)))] → w35.heap[n13]? = some (.cells #[.int .i64 ((tsI ts i).t.S),.int .i64 ((tsI ts i).t.A),.int .i64 ((tsI ts i).t.T),.int .i64 ((tsI ts i).t.bl),.int .i64 ((tsI ts i).t.bm),.int .i64 ((tsI ts i).t.pl),.int .i64 ((tsI ts i).t.pm),.int .i64 ((tsI ts i).t.sl),.slice gxa ((tsI ts i).t.gr.length) gxc,.slice rxa ((tsI ts i).t.rd.length) rxc,.slice lxa ((tsI ts i).t.lk.length) lxc] 28 (0,0)) → w35.heap[n80]? = some (.cells #[.int .i64 x1,.int .i64 0,.int .i64 0,.int .i64 1,.int .i64 1,.int .i64 2] 3 (0,0)) → w35.heap[n82]? = some (.cells #[.int .i64 x2,.int .i64 0,.int .i64 1,.int .i64 0,.int .i64 1,.int .i64 2] 3 (0,0)) → w35.heap[n84]? = some (.cells #[.int .i64 x3,.int .i64 0,.int .i64 1,.int .i64 2,.int .i64 3,.int .i64 (-1)] 3 (0,0)) → w35.heap[n22]? = some (.cells #[.int .i64 ((measV (tsI ts i).t ([x1,0,0,1,1,2].getD k 0) ([x2,0,1,0,1,2].getD k 0)).1),.int .i64 ((measV (tsI ts i).t ([x1,0,0,1,1,2].getD k 0) ([x2,0,1,0,1,2].getD k 0)).2)] 23 (0,0)) → w35.heap[n24]? = some (.cells #[.int .i64 ((measV (tsI ts i).t ([x1,0,0,1,1,2].getD k 0) ([x2,0,1,0,1,2].getD k 0)).1),.int .i64 ((measV (tsI ts i).t ([x1,0,0,1,1,2].getD k 0) ([x2,0,1,0,1,2].getD k 0)).2)] 23 (0,0)) → Ext [] w w35 → Ext [] w6 w35 → Ext [] w6 w35 → Ext [] w8 w35 → Ext [] w18 w35 → Ext [] w18 w35 → w.heap.size ≤ n24 → w6.heap.size ≤ n24 → w6.heap.size ≤ n24 → w8.heap.size ≤ n24 → w18.heap.size ≤ n24 → w18.heap.size ≤ n24 → n13 ≠ n24 → n80 ≠ n24 → n82 ≠ n24 → n84 ≠ n24 → n22 ≠ n24 → K28 fa w35 by
     refine region_x (Ext [] w27) none follows fun w28 hh eh=>?_
     have q13_:=q13
     replace q13:=keep_same hh q13
     have q80_:=q80
     replace q80:=keep_same hh q80
     have q82_:=q82
     replace q82:=keep_same hh q82
     have q84_:=q84
     replace q84:=keep_same hh q84
     have q22_:=q22
     replace q22:=keep_same hh q22
     have E_:=E
     have zEw28:=E.size
     replace E:=ext_same E eh
     have EO_:=EO
     have zEOw28:=EO.size
     replace EO:=ext_same EO eh
     have EL1_:=EL1
     have zEL1w28:=EL1.size
     replace EL1:=ext_same EL1 eh
     have EX_:=EX
     have zEXw28:=EX.size
     replace EX:=ext_same EX eh
     have EL_:=EL
     have zELw28:=EL.size
     replace EL:=ext_same EL eh
     have EL2_:=EL2
     have zEL2w28:=EL2.size
     replace EL2:=ext_same EL2 eh
     have eT:=eh
     clear hh eh
     refine F.x (i:=0) rfl (fun w'=>R_move rfl (F.at rfl)) (fun _=>eT) ?_;clear F fa;intro fa F
     refine F.x (i:=1) rfl (fun w'=>R_move rfl (F.at rfl)) (fun _=>eT) ?_;clear F fa;intro fa F
     obtain ⟨xb29,xo29,xa29,xr29⟩:=HS.out i (by omega)
     refine F.x (i:=2) rfl (fun w'=>R_ixSlice (sz:=11) rfl ((F.at rfl).trans (xa29 _ _)) (F.at rfl) Try.underlying32 (by kernel_rfl) (by omega) (by omega)) (fun _=>eT) ?_;clear F fa;intro fa F
     refine F.xr (i:=3) rfl (fun w' hS=>R_loadRow rfl (F.at rfl) Try.underlying28 rfl (by kernel_rfl) (xr29 _ (EO_.nil hS))) (fun _=>eT) ?_;clear F fa;intro fa F
     refine F.x (i:=4) rfl (fun w'=>R_move rfl (F.at rfl)) (fun _=>eT) ?_;clear F fa;intro fa F
     refine F.x (i:=5) rfl (fun w'=>R_move rfl (F.at rfl)) (fun _=>eT) ?_;clear F fa;intro fa F
     obtain ⟨xb30,xo30,xa30,xr30⟩:=HS1.out k (by omega)
     refine F.x (i:=6) rfl (fun w'=>R_ixSlice (sz:=1) rfl ((F.at rfl).trans (xa30 _ _)) (F.at rfl) Try.underlying29 (by kernel_rfl) (by omega) (by omega)) (fun _=>eT) ?_;clear F fa;intro fa F
     refine F.xr (i:=7) rfl (fun w' hS=>R_load rfl (F.at rfl) Try.underlying3 rfl (xr30 _ (EL_.nil hS) 0 _ rfl)) (fun _=>eT) ?_;clear F fa;intro fa F
     refine F.x (i:=8) rfl (fun w'=>R_move rfl (F.at rfl)) (fun _=>eT) ?_;clear F fa;intro fa F
     refine F.x (i:=9) rfl (fun w'=>R_move rfl (F.at rfl)) (fun _=>eT) ?_;clear F fa;intro fa F
     obtain ⟨xb31,xo31,xa31,xr31⟩:=HS2.out k (by omega)
     refine F.x (i:=10) rfl (fun w'=>R_ixSlice (sz:=1) rfl ((F.at rfl).trans (xa31 _ _)) (F.at rfl) Try.underlying29 (by kernel_rfl) (by omega) (by omega)) (fun _=>eT) ?_;clear F fa;intro fa F
     refine F.xr (i:=11) rfl (fun w' hS=>R_load rfl (F.at rfl) Try.underlying3 rfl (xr31 _ (EL_.nil hS) 0 _ rfl)) (fun _=>eT) ?_;clear F fa;intro fa F
     refine ax_pair (i:=12) (j:=16) (by kernel_rfl) ?_ ?_
     ·skip
      refine (op_call F rfl rfl (by decide) rfl (R_callV rfl rfl Try.call34 (mpS (F.at rfl) (mpS (F.at rfl) (mpS (F.at rfl) mp0)))) (refMeasure_any (tsI ts i).t hnn (tsI ts i).ga (tsI ts i).ra (tsI ts i).la (tsI ts i).gc (tsI ts i).rc (tsI ts i).lc _ ((HA.out i (by omega)).ext EO (by simp)) m1 m2 m3 _ _) fun e w29 hR=>?_)
      obtain ⟨rfl,e9⟩:=hR
      refine ⟨_,rfl,?_⟩;clear F fa;intro fa F
      replace q13:=(e9).keep0 q13
      replace q80:=(e9).keep0 q80
      replace q82:=(e9).keep0 q82
      replace q84:=(e9).keep0 q84
      replace q22:=(e9).keep0 q22
      replace E:=ext_same E (e9)
      replace EO:=ext_same EO (e9)
      replace EL1:=ext_same EL1 (e9)
      replace EX:=ext_same EX (e9)
      replace EL:=ext_same EL (e9)
      replace EL2:=ext_same EL2 (e9)
      replace eT:=ext_same eT (e9)
      clear e9
      refine ⟨fun _=>eT,?_⟩
      refine F.x (i:=13) rfl (fun w'=>R_move rfl (F.at rfl)) (fun _=>eT) ?_;clear F fa;intro fa F
      refine F.x (i:=14) rfl (fun w'=>R_extract rfl (F.at rfl) (get0)) (fun _=>eT) ?_;clear F fa;intro fa F
      refine F.x (i:=15) rfl (fun w'=>R_extract rfl (F.at rfl) (getS (get0))) (fun _=>eT) ?_;clear F fa;intro fa F
      refine ax_only (i:=16) (by kernel_rfl) (op_new F rfl rfl (by decide) rfl (R_alloc rfl Try.zeroValue23) ?_);clear F fa;intro fa w30 F hw
      obtain ⟨n24,hn⟩ : ∃ n,n = w29.heap.size:=⟨_,rfl⟩
      rw [← hn] at F
      have s24 : w29.heap.size ≤ n24:=Nat.le_of_eq hn.symm
      have l24_E : w.heap.size ≤ n24:=by rw [hn];exact E.size
      have l24_EO : w6.heap.size ≤ n24:=by rw [hn];exact EO.size
      have l24_EL1 : w6.heap.size ≤ n24:=by rw [hn];exact EL1.size
      have l24_EX : w8.heap.size ≤ n24:=by rw [hn];exact EX.size
      have l24_EL : w18.heap.size ≤ n24:=by rw [hn];exact EL.size
      have l24_EL2 : w18.heap.size ≤ n24:=by rw [hn];exact EL2.size
      have lT24 : w27.heap.size ≤ n24:=by rw [hn];exact eT.size
      have m24_13 : n13 < n24:=by rw [hn];exact blk_lt q13
      have m24_80 : n80 < n24:=by rw [hn];exact blk_lt q80
      have m24_82 : n82 < n24:=by rw [hn];exact blk_lt q82
      have m24_84 : n84 < n24:=by rw [hn];exact blk_lt q84
      have m24_22 : n22 < n24:=by rw [hn];exact blk_lt q22
      replace q13:=keep_alloc hw q13
      replace q80:=keep_alloc hw q80
      replace q82:=keep_alloc hw q82
      replace q84:=keep_alloc hw q84
      replace q22:=keep_alloc hw q22
      replace E:=ext_alloc E hw
      replace EO:=ext_alloc EO hw
      replace EL1:=ext_alloc EL1 hw
      replace EX:=ext_alloc EX hw
      replace EL:=ext_alloc EL hw
      replace EL2:=ext_alloc EL2 hw
      replace eT:=ext_alloc eT hw
      have q24:=new_row hw hn
      clear hw hn
      refine ⟨fun _=>eT,?_⟩
      refine ax_only (i:=17) (by kernel_rfl) (op_to rfl rfl rfl (R_storeRow rfl (F.at rfl) (F.at rfl) (by kernel_rfl) (by first | (simp [Value.oneCell'];done) | (simp [Value.oneCell',grRow,rdRow,lkRow];done)) q24 rfl) ?_);intro w31 hw
      replace q13:=keep_cells hw q13 (by omega)
      replace q80:=keep_cells hw q80 (by omega)
      replace q82:=keep_cells hw q82 (by omega)
      replace q84:=keep_cells hw q84 (by omega)
      replace q22:=keep_cells hw q22 (by omega)
      replace q24:=put_row hw q24 rfl
      replace E:=ext_cells E hw (fun h=>by first | exact absurd h (by omega) | simp)
      replace EO:=ext_cells EO hw (fun h=>by first | exact absurd h (by omega) | simp)
      replace EL1:=ext_cells EL1 hw (fun h=>by first | exact absurd h (by omega) | simp)
      replace EX:=ext_cells EX hw (fun h=>by first | exact absurd h (by omega) | simp)
      replace EL:=ext_cells EL hw (fun h=>by first | exact absurd h (by omega) | simp)
      replace EL2:=ext_cells EL2 hw (fun h=>by first | exact absurd h (by omega) | simp)
      replace eT:=ext_cells eT hw (fun h=>by first | exact absurd h (by omega) | simp)
      clear hw
      refine ⟨fun _=>eT,?_⟩
      refine F.x (i:=18) rfl (fun w'=>R_assign rfl (F.at rfl)) (fun _=>eT) ?_;clear F fa;intro fa F
      refine ax_done (by kernel_rfl) ?_ _
      exact hcut _ _ _ (F.sub (.c 1 rfl (.c 2 rfl (.c 3 rfl (.c 11 rfl (.c 12 rfl (.c 13 rfl (.c 18 rfl (.c 19 rfl (.c 20 rfl (.c 21 rfl (.c 22 rfl (.c 23 rfl (.c 24 rfl (.c 25 rfl .n))))))))))))))) q13 q80 q82 q84 q22 q24 E EO EL1 EX EL EL2 (by omega) (by omega) (by omega) (by omega) (by omega) (by omega) (by omega) (by omega) (by omega) (by omega) (by omega)
     ·skip
      refine (op_new F rfl rfl (by decide) rfl (R_alloc rfl Try.zeroValue23) ?_);clear F fa;intro fa w32 F hw
      obtain ⟨n24,hn⟩ : ∃ n,n = w28.heap.size:=⟨_,rfl⟩
      rw [← hn] at F
      have s24 : w28.heap.size ≤ n24:=Nat.le_of_eq hn.symm
      have l24_E : w.heap.size ≤ n24:=by rw [hn];exact E.size
      have l24_EO : w6.heap.size ≤ n24:=by rw [hn];exact EO.size
      have l24_EL1 : w6.heap.size ≤ n24:=by rw [hn];exact EL1.size
      have l24_EX : w8.heap.size ≤ n24:=by rw [hn];exact EX.size
      have l24_EL : w18.heap.size ≤ n24:=by rw [hn];exact EL.size
      have l24_EL2 : w18.heap.size ≤ n24:=by rw [hn];exact EL2.size
      have lT24 : w27.heap.size ≤ n24:=by rw [hn];exact eT.size
      have m24_13 : n13 < n24:=by rw [hn];exact blk_lt q13
      have m24_80 : n80 < n24:=by rw [hn];exact blk_lt q80
      have m24_82 : n82 < n24:=by rw [hn];exact blk_lt q82
      have m24_84 : n84 < n24:=by rw [hn];exact blk_lt q84
      have m24_22 : n22 < n24:=by rw [hn];exact blk_lt q22
      replace q13:=keep_alloc hw q13
      replace q80:=keep_alloc hw q80
      replace q82:=keep_alloc hw q82
      replace q84:=keep_alloc hw q84
      replace q22:=keep_alloc hw q22
      replace E:=ext_alloc E hw
      replace EO:=ext_alloc EO hw
      replace EL1:=ext_alloc EL1 hw
      replace EX:=ext_alloc EX hw
      replace EL:=ext_alloc EL hw
      replace EL2:=ext_alloc EL2 hw
      replace eT:=ext_alloc eT hw
      have q24:=new_row hw hn
      clear hw hn
      refine ⟨fun _=>eT,?_⟩
      refine ax_only (i:=12) (by kernel_rfl) (op_call F rfl rfl (by decide) rfl (R_callV rfl rfl Try.call34 (mpS (F.at rfl) (mpS (F.at rfl) (mpS (F.at rfl) mp0)))) (refMeasure_any (tsI ts i).t hnn (tsI ts i).ga (tsI ts i).ra (tsI ts i).la (tsI ts i).gc (tsI ts i).rc (tsI ts i).lc _ ((HA.out i (by omega)).ext EO (by simp)) m1 m2 m3 _ _) fun e w33 hR=>?_)
      obtain ⟨rfl,e9⟩:=hR
      refine ⟨_,rfl,?_⟩;clear F fa;intro fa F
      replace q13:=(e9).keep0 q13
      replace q80:=(e9).keep0 q80
      replace q82:=(e9).keep0 q82
      replace q84:=(e9).keep0 q84
      replace q22:=(e9).keep0 q22
      replace q24:=(e9).keep0 q24
      replace E:=ext_same E (e9)
      replace EO:=ext_same EO (e9)
      replace EL1:=ext_same EL1 (e9)
      replace EX:=ext_same EX (e9)
      replace EL:=ext_same EL (e9)
      replace EL2:=ext_same EL2 (e9)
      replace eT:=ext_same eT (e9)
      clear e9
      refine ⟨fun _=>eT,?_⟩
      refine F.x (i:=13) rfl (fun w'=>R_move rfl (F.at rfl)) (fun _=>eT) ?_;clear F fa;intro fa F
      refine F.x (i:=14) rfl (fun w'=>R_extract rfl (F.at rfl) (get0)) (fun _=>eT) ?_;clear F fa;intro fa F
      refine F.x (i:=15) rfl (fun w'=>R_extract rfl (F.at rfl) (getS (get0))) (fun _=>eT) ?_;clear F fa;intro fa F
      refine ax_only (i:=17) (by kernel_rfl) (op_to rfl rfl rfl (R_storeRow rfl (F.at rfl) (F.at rfl) (by kernel_rfl) (by first | (simp [Value.oneCell'];done) | (simp [Value.oneCell',grRow,rdRow,lkRow];done)) q24 rfl) ?_);intro w34 hw
      replace q13:=keep_cells hw q13 (by omega)
      replace q80:=keep_cells hw q80 (by omega)
      replace q82:=keep_cells hw q82 (by omega)
      replace q84:=keep_cells hw q84 (by omega)
      replace q22:=keep_cells hw q22 (by omega)
      replace q24:=put_row hw q24 rfl
      replace E:=ext_cells E hw (fun h=>by first | exact absurd h (by omega) | simp)
      replace EO:=ext_cells EO hw (fun h=>by first | exact absurd h (by omega) | simp)
      replace EL1:=ext_cells EL1 hw (fun h=>by first | exact absurd h (by omega) | simp)
      replace EX:=ext_cells EX hw (fun h=>by first | exact absurd h (by omega) | simp)
      replace EL:=ext_cells EL hw (fun h=>by first | exact absurd h (by omega) | simp)
      replace EL2:=ext_cells EL2 hw (fun h=>by first | exact absurd h (by omega) | simp)
      replace eT:=ext_cells eT hw (fun h=>by first | exact absurd h (by omega) | simp)
      clear hw
      refine ⟨fun _=>eT,?_⟩
      refine F.x (i:=18) rfl (fun w'=>R_assign rfl (F.at rfl)) (fun _=>eT) ?_;clear F fa;intro fa F
      refine ax_done (by kernel_rfl) ?_ _
      exact hcut _ _ _ (F.sub (.c 1 rfl (.c 2 rfl (.c 3 rfl (.c 11 rfl (.c 12 rfl (.c 13 rfl (.c 18 rfl (.c 19 rfl (.c 20 rfl (.c 21 rfl (.c 22 rfl (.c 23 rfl (.c 24 rfl (.c 25 rfl .n))))))))))))))) q13 q80 q82 q84 q22 q24 E EO EL1 EX EL EL2 (by omega) (by omega) (by omega) (by omega) (by omega) (by omega) (by omega) (by omega) (by omega) (by omega) (by omega)
    clear F q13 q80 q82 q84 q22 E EO EL1 EX EL EL2 fa
    intro n24  fa w35 F q13 q80 q82 q84 q22 q24 E EO EL1 EX EL EL2 l24_E l24_EO l24_EL1 l24_EX l24_EL l24_EL2 m24_13 m24_80 m24_82 m24_84 m24_22
    refine hK28 _ _ ?_
    clear hK28
    refine wp_seq_k fun K32 hK32=>?_
    suffices hcut : ∀ (n26 : Nat) (fa : Act) (w43 : World),Has 167 fa [(1,.int .i64 x1),(2,.int .i64 x2),(3,.int .i64 x3),(11,.slice sa ts.length ts.length),(12,.int .i64 ((i : Nat) : Int)),(13,.pointer (some ⟨n13,0,none⟩)),(18,.slice (some ⟨n80,0,none⟩) 6 6),(19,.slice (some ⟨n82,0,none⟩) 6 6),(20,.slice (some ⟨n84,0,none⟩) 6 6),(21,.int .i64 ((k : Nat) : Int)),(22,.pointer (some ⟨n22,0,none⟩)),(23,.int .i64 (measE (tsI ts i).t ([x1,0,0,1,1,2].getD k 0) ([x2,0,1,0,1,2].getD k 0))),(24,.pointer (some ⟨n24,0,none⟩)),(25,.int .i64 (measE (tsI ts i).t ([x1,0,0,1,1,2].getD k 0) ([x2,0,1,0,1,2].getD k 0))),(26,.pointer (some ⟨n26,0,none⟩)),(27,.int .i64 (pullE (tsI ts i).t ([x3,0,1,2,3,-1].getD k 0)))] → w43.heap[n13]? = some (.cells #[.int .i64 ((tsI ts i).t.S),.int .i64 ((tsI ts i).t.A),.int .i64 ((tsI ts i).t.T),.int .i64 ((tsI ts i).t.bl),.int .i64 ((tsI ts i).t.bm),.int .i64 ((tsI ts i).t.pl),.int .i64 ((tsI ts i).t.pm),.int .i64 ((tsI ts i).t.sl),.slice gxa ((tsI ts i).t.gr.length) gxc,.slice rxa ((tsI ts i).t.rd.length) rxc,.slice lxa ((tsI ts i).t.lk.length) lxc] 28 (0,0)) → w43.heap[n80]? = some (.cells #[.int .i64 x1,.int .i64 0,.int .i64 0,.int .i64 1,.int .i64 1,.int .i64 2] 3 (0,0)) → w43.heap[n82]? = some (.cells #[.int .i64 x2,.int .i64 0,.int .i64 1,.int .i64 0,.int .i64 1,.int .i64 2] 3 (0,0)) → w43.heap[n84]? = some (.cells #[.int .i64 x3,.int .i64 0,.int .i64 1,.int .i64 2,.int .i64 3,.int .i64 (-1)] 3 (0,0)) → w43.heap[n22]? = some (.cells #[.int .i64 ((measV (tsI ts i).t ([x1,0,0,1,1,2].getD k 0) ([x2,0,1,0,1,2].getD k 0)).1),.int .i64 ((measV (tsI ts i).t ([x1,0,0,1,1,2].getD k 0) ([x2,0,1,0,1,2].getD k 0)).2)] 23 (0,0)) → w43.heap[n24]? = some (.cells #[.int .i64 ((measV (tsI ts i).t ([x1,0,0,1,1,2].getD k 0) ([x2,0,1,0,1,2].getD k 0)).1),.int .i64 ((measV (tsI ts i).t ([x1,0,0,1,1,2].getD k 0) ([x2,0,1,0,1,2].getD k 0)).2)] 23 (0,0)) → w43.heap[n26]? = some (.cells #[.int .i64 ((pullV (tsI ts i).t ([x3,0,1,2,3,-1].getD k 0)).1),.int .i64 ((pullV (tsI ts i).t ([x3,0,1,2,3,-1].getD k 0)).2)] 23 (0,0)) → Ext [] w w43 → Ext [] w6 w43 → Ext [] w6 w43 → Ext [] w8 w43 → Ext [] w18 w43 → Ext [] w18 w43 → w.heap.size ≤ n26 → w6.heap.size ≤ n26 → w6.heap.size ≤ n26 → w8.heap.size ≤ n26 → w18.heap.size ≤ n26 → w18.heap.size ≤ n26 → n13 ≠ n26 → n80 ≠ n26 → n82 ≠ n26 → n84 ≠ n26 → n22 ≠ n26 → n24 ≠ n26 → K32 fa w43 by
     refine region_x (Ext [] w35) none follows fun w36 hh eh=>?_
     have q13_:=q13
     replace q13:=keep_same hh q13
     have q80_:=q80
     replace q80:=keep_same hh q80
     have q82_:=q82
     replace q82:=keep_same hh q82
     have q84_:=q84
     replace q84:=keep_same hh q84
     have q22_:=q22
     replace q22:=keep_same hh q22
     have q24_:=q24
     replace q24:=keep_same hh q24
     have E_:=E
     have zEw36:=E.size
     replace E:=ext_same E eh
     have EO_:=EO
     have zEOw36:=EO.size
     replace EO:=ext_same EO eh
     have EL1_:=EL1
     have zEL1w36:=EL1.size
     replace EL1:=ext_same EL1 eh
     have EX_:=EX
     have zEXw36:=EX.size
     replace EX:=ext_same EX eh
     have EL_:=EL
     have zELw36:=EL.size
     replace EL:=ext_same EL eh
     have EL2_:=EL2
     have zEL2w36:=EL2.size
     replace EL2:=ext_same EL2 eh
     have eT:=eh
     clear hh eh
     refine F.xr (i:=0) rfl (fun w' hS=>R_loadBlk rfl (F.at rfl) Try.underlying28 rfl (by kernel_rfl) (hS.keep q13_ (by simp))) (fun _=>eT) ?_;clear F fa;intro fa F
     refine F.x (i:=1) rfl (fun w'=>R_move rfl (F.at rfl)) (fun _=>eT) ?_;clear F fa;intro fa F
     refine F.x (i:=2) rfl (fun w'=>R_move rfl (F.at rfl)) (fun _=>eT) ?_;clear F fa;intro fa F
     obtain ⟨xb33,xo33,xa33,xr33⟩:=HS3.out k (by omega)
     refine F.x (i:=3) rfl (fun w'=>R_ixSlice (sz:=1) rfl ((F.at rfl).trans (xa33 _ _)) (F.at rfl) Try.underlying29 (by kernel_rfl) (by omega) (by omega)) (fun _=>eT) ?_;clear F fa;intro fa F
     refine F.xr (i:=4) rfl (fun w' hS=>R_load rfl (F.at rfl) Try.underlying3 rfl (xr33 _ (EL_.nil hS) 0 _ rfl)) (fun _=>eT) ?_;clear F fa;intro fa F
     refine ax_pair (i:=5) (j:=9) (by kernel_rfl) ?_ ?_
     ·skip
      refine (op_call F rfl rfl (by decide) rfl (R_callV rfl rfl Try.call35 (mpS (F.at rfl) (mpS (F.at rfl) mp0))) (pull_all (tsI ts i).t _ _ _ _ _ (HX.out.ext EX (by simp)) m1 m2 m3) fun e w37 hR=>?_)
      obtain ⟨rfl,e9⟩:=hR
      refine ⟨_,rfl,?_⟩;clear F fa;intro fa F
      replace q13:=(e9).keep0 q13
      replace q80:=(e9).keep0 q80
      replace q82:=(e9).keep0 q82
      replace q84:=(e9).keep0 q84
      replace q22:=(e9).keep0 q22
      replace q24:=(e9).keep0 q24
      replace E:=ext_same E (e9)
      replace EO:=ext_same EO (e9)
      replace EL1:=ext_same EL1 (e9)
      replace EX:=ext_same EX (e9)
      replace EL:=ext_same EL (e9)
      replace EL2:=ext_same EL2 (e9)
      replace eT:=ext_same eT (e9)
      clear e9
      refine ⟨fun _=>eT,?_⟩
      refine F.x (i:=6) rfl (fun w'=>R_move rfl (F.at rfl)) (fun _=>eT) ?_;clear F fa;intro fa F
      refine F.x (i:=7) rfl (fun w'=>R_extract rfl (F.at rfl) (get0)) (fun _=>eT) ?_;clear F fa;intro fa F
      refine F.x (i:=8) rfl (fun w'=>R_extract rfl (F.at rfl) (getS (get0))) (fun _=>eT) ?_;clear F fa;intro fa F
      refine ax_only (i:=9) (by kernel_rfl) (op_new F rfl rfl (by decide) rfl (R_alloc rfl Try.zeroValue23) ?_);clear F fa;intro fa w38 F hw
      obtain ⟨n26,hn⟩ : ∃ n,n = w37.heap.size:=⟨_,rfl⟩
      rw [← hn] at F
      have s26 : w37.heap.size ≤ n26:=Nat.le_of_eq hn.symm
      have l26_E : w.heap.size ≤ n26:=by rw [hn];exact E.size
      have l26_EO : w6.heap.size ≤ n26:=by rw [hn];exact EO.size
      have l26_EL1 : w6.heap.size ≤ n26:=by rw [hn];exact EL1.size
      have l26_EX : w8.heap.size ≤ n26:=by rw [hn];exact EX.size
      have l26_EL : w18.heap.size ≤ n26:=by rw [hn];exact EL.size
      have l26_EL2 : w18.heap.size ≤ n26:=by rw [hn];exact EL2.size
      have lT26 : w35.heap.size ≤ n26:=by rw [hn];exact eT.size
      have m26_13 : n13 < n26:=by rw [hn];exact blk_lt q13
      have m26_80 : n80 < n26:=by rw [hn];exact blk_lt q80
      have m26_82 : n82 < n26:=by rw [hn];exact blk_lt q82
      have m26_84 : n84 < n26:=by rw [hn];exact blk_lt q84
      have m26_22 : n22 < n26:=by rw [hn];exact blk_lt q22
      have m26_24 : n24 < n26:=by rw [hn];exact blk_lt q24
      replace q13:=keep_alloc hw q13
      replace q80:=keep_alloc hw q80
      replace q82:=keep_alloc hw q82
      replace q84:=keep_alloc hw q84
      replace q22:=keep_alloc hw q22
      replace q24:=keep_alloc hw q24
      replace E:=ext_alloc E hw
      replace EO:=ext_alloc EO hw
      replace EL1:=ext_alloc EL1 hw
      replace EX:=ext_alloc EX hw
      replace EL:=ext_alloc EL hw
      replace EL2:=ext_alloc EL2 hw
      replace eT:=ext_alloc eT hw
      have q26:=new_row hw hn
      clear hw hn
      refine ⟨fun _=>eT,?_⟩
      refine ax_only (i:=10) (by kernel_rfl) (op_to rfl rfl rfl (R_storeRow rfl (F.at rfl) (F.at rfl) (by kernel_rfl) (by first | (simp [Value.oneCell'];done) | (simp [Value.oneCell',grRow,rdRow,lkRow];done)) q26 rfl) ?_);intro w39 hw
      replace q13:=keep_cells hw q13 (by omega)
      replace q80:=keep_cells hw q80 (by omega)
      replace q82:=keep_cells hw q82 (by omega)
      replace q84:=keep_cells hw q84 (by omega)
      replace q22:=keep_cells hw q22 (by omega)
      replace q24:=keep_cells hw q24 (by omega)
      replace q26:=put_row hw q26 rfl
      replace E:=ext_cells E hw (fun h=>by first | exact absurd h (by omega) | simp)
      replace EO:=ext_cells EO hw (fun h=>by first | exact absurd h (by omega) | simp)
      replace EL1:=ext_cells EL1 hw (fun h=>by first | exact absurd h (by omega) | simp)
      replace EX:=ext_cells EX hw (fun h=>by first | exact absurd h (by omega) | simp)
      replace EL:=ext_cells EL hw (fun h=>by first | exact absurd h (by omega) | simp)
      replace EL2:=ext_cells EL2 hw (fun h=>by first | exact absurd h (by omega) | simp)
      replace eT:=ext_cells eT hw (fun h=>by first | exact absurd h (by omega) | simp)
      clear hw
      refine ⟨fun _=>eT,?_⟩
      refine F.x (i:=11) rfl (fun w'=>R_assign rfl (F.at rfl)) (fun _=>eT) ?_;clear F fa;intro fa F
      refine ax_done (by kernel_rfl) ?_ _
      exact hcut _ _ _ (F.sub (.c 1 rfl (.c 2 rfl (.c 3 rfl (.c 11 rfl (.c 12 rfl (.c 13 rfl (.c 18 rfl (.c 19 rfl (.c 20 rfl (.c 21 rfl (.c 22 rfl (.c 23 rfl (.c 24 rfl (.c 25 rfl (.c 26 rfl (.c 27 rfl .n))))))))))))))))) q13 q80 q82 q84 q22 q24 q26 E EO EL1 EX EL EL2 (by omega) (by omega) (by omega) (by omega) (by omega) (by omega) (by omega) (by omega) (by omega) (by omega) (by omega) (by omega)
     ·skip
      refine (op_new F rfl rfl (by decide) rfl (R_alloc rfl Try.zeroValue23) ?_);clear F fa;intro fa w40 F hw
      obtain ⟨n26,hn⟩ : ∃ n,n = w36.heap.size:=⟨_,rfl⟩
      rw [← hn] at F
      have s26 : w36.heap.size ≤ n26:=Nat.le_of_eq hn.symm
      have l26_E : w.heap.size ≤ n26:=by rw [hn];exact E.size
      have l26_EO : w6.heap.size ≤ n26:=by rw [hn];exact EO.size
      have l26_EL1 : w6.heap.size ≤ n26:=by rw [hn];exact EL1.size
      have l26_EX : w8.heap.size ≤ n26:=by rw [hn];exact EX.size
      have l26_EL : w18.heap.size ≤ n26:=by rw [hn];exact EL.size
      have l26_EL2 : w18.heap.size ≤ n26:=by rw [hn];exact EL2.size
      have lT26 : w35.heap.size ≤ n26:=by rw [hn];exact eT.size
      have m26_13 : n13 < n26:=by rw [hn];exact blk_lt q13
      have m26_80 : n80 < n26:=by rw [hn];exact blk_lt q80
      have m26_82 : n82 < n26:=by rw [hn];exact blk_lt q82
      have m26_84 : n84 < n26:=by rw [hn];exact blk_lt q84
      have m26_22 : n22 < n26:=by rw [hn];exact blk_lt q22
      have m26_24 : n24 < n26:=by rw [hn];exact blk_lt q24
      replace q13:=keep_alloc hw q13
      replace q80:=keep_alloc hw q80
      replace q82:=keep_alloc hw q82
      replace q84:=keep_alloc hw q84
      replace q22:=keep_alloc hw q22
      replace q24:=keep_alloc hw q24
      replace E:=ext_alloc E hw
      replace EO:=ext_alloc EO hw
      replace EL1:=ext_alloc EL1 hw
      replace EX:=ext_alloc EX hw
      replace EL:=ext_alloc EL hw
      replace EL2:=ext_alloc EL2 hw
      replace eT:=ext_alloc eT hw
      have q26:=new_row hw hn
      clear hw hn
      refine ⟨fun _=>eT,?_⟩
      refine ax_only (i:=5) (by kernel_rfl) (op_call F rfl rfl (by decide) rfl (R_callV rfl rfl Try.call35 (mpS (F.at rfl) (mpS (F.at rfl) mp0))) (pull_all (tsI ts i).t _ _ _ _ _ (HX.out.ext EX (by simp)) m1 m2 m3) fun e w41 hR=>?_)
      obtain ⟨rfl,e9⟩:=hR
      refine ⟨_,rfl,?_⟩;clear F fa;intro fa F
      replace q13:=(e9).keep0 q13
      replace q80:=(e9).keep0 q80
      replace q82:=(e9).keep0 q82
      replace q84:=(e9).keep0 q84
      replace q22:=(e9).keep0 q22
      replace q24:=(e9).keep0 q24
      replace q26:=(e9).keep0 q26
      replace E:=ext_same E (e9)
      replace EO:=ext_same EO (e9)
      replace EL1:=ext_same EL1 (e9)
      replace EX:=ext_same EX (e9)
      replace EL:=ext_same EL (e9)
      replace EL2:=ext_same EL2 (e9)
      replace eT:=ext_same eT (e9)
      clear e9
      refine ⟨fun _=>eT,?_⟩
      refine F.x (i:=6) rfl (fun w'=>R_move rfl (F.at rfl)) (fun _=>eT) ?_;clear F fa;intro fa F
      refine F.x (i:=7) rfl (fun w'=>R_extract rfl (F.at rfl) (get0)) (fun _=>eT) ?_;clear F fa;intro fa F
      refine F.x (i:=8) rfl (fun w'=>R_extract rfl (F.at rfl) (getS (get0))) (fun _=>eT) ?_;clear F fa;intro fa F
      refine ax_only (i:=10) (by kernel_rfl) (op_to rfl rfl rfl (R_storeRow rfl (F.at rfl) (F.at rfl) (by kernel_rfl) (by first | (simp [Value.oneCell'];done) | (simp [Value.oneCell',grRow,rdRow,lkRow];done)) q26 rfl) ?_);intro w42 hw
      replace q13:=keep_cells hw q13 (by omega)
      replace q80:=keep_cells hw q80 (by omega)
      replace q82:=keep_cells hw q82 (by omega)
      replace q84:=keep_cells hw q84 (by omega)
      replace q22:=keep_cells hw q22 (by omega)
      replace q24:=keep_cells hw q24 (by omega)
      replace q26:=put_row hw q26 rfl
      replace E:=ext_cells E hw (fun h=>by first | exact absurd h (by omega) | simp)
      replace EO:=ext_cells EO hw (fun h=>by first | exact absurd h (by omega) | simp)
      replace EL1:=ext_cells EL1 hw (fun h=>by first | exact absurd h (by omega) | simp)
      replace EX:=ext_cells EX hw (fun h=>by first | exact absurd h (by omega) | simp)
      replace EL:=ext_cells EL hw (fun h=>by first | exact absurd h (by omega) | simp)
      replace EL2:=ext_cells EL2 hw (fun h=>by first | exact absurd h (by omega) | simp)
      replace eT:=ext_cells eT hw (fun h=>by first | exact absurd h (by omega) | simp)
      clear hw
      refine ⟨fun _=>eT,?_⟩
      refine F.x (i:=11) rfl (fun w'=>R_assign rfl (F.at rfl)) (fun _=>eT) ?_;clear F fa;intro fa F
      refine ax_done (by kernel_rfl) ?_ _
      exact hcut _ _ _ (F.sub (.c 1 rfl (.c 2 rfl (.c 3 rfl (.c 11 rfl (.c 12 rfl (.c 13 rfl (.c 18 rfl (.c 19 rfl (.c 20 rfl (.c 21 rfl (.c 22 rfl (.c 23 rfl (.c 24 rfl (.c 25 rfl (.c 26 rfl (.c 27 rfl .n))))))))))))))))) q13 q80 q82 q84 q22 q24 q26 E EO EL1 EX EL EL2 (by omega) (by omega) (by omega) (by omega) (by omega) (by omega) (by omega) (by omega) (by omega) (by omega) (by omega) (by omega)
    clear F q13 q80 q82 q84 q22 q24 E EO EL1 EX EL EL2 fa
    intro n26  fa w43 F q13 q80 q82 q84 q22 q24 q26 E EO EL1 EX EL EL2 l26_E l26_EO l26_EL1 l26_EX l26_EL l26_EL2 m26_13 m26_80 m26_82 m26_84 m26_22 m26_24
    refine hK32 _ _ ?_
    clear hK32
    refine wp_seq_k fun K34 hK34=>?_
    suffices hcut : ∀ (n28 : Nat) (fa : Act) (w51 : World),Has 167 fa [(1,.int .i64 x1),(2,.int .i64 x2),(3,.int .i64 x3),(11,.slice sa ts.length ts.length),(12,.int .i64 ((i : Nat) : Int)),(13,.pointer (some ⟨n13,0,none⟩)),(18,.slice (some ⟨n80,0,none⟩) 6 6),(19,.slice (some ⟨n82,0,none⟩) 6 6),(20,.slice (some ⟨n84,0,none⟩) 6 6),(21,.int .i64 ((k : Nat) : Int)),(22,.pointer (some ⟨n22,0,none⟩)),(23,.int .i64 (measE (tsI ts i).t ([x1,0,0,1,1,2].getD k 0) ([x2,0,1,0,1,2].getD k 0))),(24,.pointer (some ⟨n24,0,none⟩)),(25,.int .i64 (measE (tsI ts i).t ([x1,0,0,1,1,2].getD k 0) ([x2,0,1,0,1,2].getD k 0))),(26,.pointer (some ⟨n26,0,none⟩)),(27,.int .i64 (pullE (tsI ts i).t ([x3,0,1,2,3,-1].getD k 0))),(28,.pointer (some ⟨n28,0,none⟩)),(29,.int .i64 (pullE (tsI ts i).t ([x3,0,1,2,3,-1].getD k 0)))] → w51.heap[n13]? = some (.cells #[.int .i64 ((tsI ts i).t.S),.int .i64 ((tsI ts i).t.A),.int .i64 ((tsI ts i).t.T),.int .i64 ((tsI ts i).t.bl),.int .i64 ((tsI ts i).t.bm),.int .i64 ((tsI ts i).t.pl),.int .i64 ((tsI ts i).t.pm),.int .i64 ((tsI ts i).t.sl),.slice gxa ((tsI ts i).t.gr.length) gxc,.slice rxa ((tsI ts i).t.rd.length) rxc,.slice lxa ((tsI ts i).t.lk.length) lxc] 28 (0,0)) → w51.heap[n80]? = some (.cells #[.int .i64 x1,.int .i64 0,.int .i64 0,.int .i64 1,.int .i64 1,.int .i64 2] 3 (0,0)) → w51.heap[n82]? = some (.cells #[.int .i64 x2,.int .i64 0,.int .i64 1,.int .i64 0,.int .i64 1,.int .i64 2] 3 (0,0)) → w51.heap[n84]? = some (.cells #[.int .i64 x3,.int .i64 0,.int .i64 1,.int .i64 2,.int .i64 3,.int .i64 (-1)] 3 (0,0)) → w51.heap[n22]? = some (.cells #[.int .i64 ((measV (tsI ts i).t ([x1,0,0,1,1,2].getD k 0) ([x2,0,1,0,1,2].getD k 0)).1),.int .i64 ((measV (tsI ts i).t ([x1,0,0,1,1,2].getD k 0) ([x2,0,1,0,1,2].getD k 0)).2)] 23 (0,0)) → w51.heap[n24]? = some (.cells #[.int .i64 ((measV (tsI ts i).t ([x1,0,0,1,1,2].getD k 0) ([x2,0,1,0,1,2].getD k 0)).1),.int .i64 ((measV (tsI ts i).t ([x1,0,0,1,1,2].getD k 0) ([x2,0,1,0,1,2].getD k 0)).2)] 23 (0,0)) → w51.heap[n26]? = some (.cells #[.int .i64 ((pullV (tsI ts i).t ([x3,0,1,2,3,-1].getD k 0)).1),.int .i64 ((pullV (tsI ts i).t ([x3,0,1,2,3,-1].getD k 0)).2)] 23 (0,0)) → w51.heap[n28]? = some (.cells #[.int .i64 ((pullV (tsI ts i).t ([x3,0,1,2,3,-1].getD k 0)).1),.int .i64 ((pullV (tsI ts i).t ([x3,0,1,2,3,-1].getD k 0)).2)] 23 (0,0)) → Ext [] w w51 → Ext [] w6 w51 → Ext [] w6 w51 → Ext [] w8 w51 → Ext [] w18 w51 → Ext [] w18 w51 → w.heap.size ≤ n28 → w6.heap.size ≤ n28 → w6.heap.size ≤ n28 → w8.heap.size ≤ n28 → w18.heap.size ≤ n28 → w18.heap.size ≤ n28 → n13 ≠ n28 → n80 ≠ n28 → n82 ≠ n28 → n84 ≠ n28 → n22 ≠ n28 → n24 ≠ n28 → n26 ≠ n28 → K34 fa w51 by
     refine region_x (Ext [] w43) none follows fun w44 hh eh=>?_
     have q13_:=q13
     replace q13:=keep_same hh q13
     have q80_:=q80
     replace q80:=keep_same hh q80
     have q82_:=q82
     replace q82:=keep_same hh q82
     have q84_:=q84
     replace q84:=keep_same hh q84
     have q22_:=q22
     replace q22:=keep_same hh q22
     have q24_:=q24
     replace q24:=keep_same hh q24
     have q26_:=q26
     replace q26:=keep_same hh q26
     have E_:=E
     have zEw44:=E.size
     replace E:=ext_same E eh
     have EO_:=EO
     have zEOw44:=EO.size
     replace EO:=ext_same EO eh
     have EL1_:=EL1
     have zEL1w44:=EL1.size
     replace EL1:=ext_same EL1 eh
     have EX_:=EX
     have zEXw44:=EX.size
     replace EX:=ext_same EX eh
     have EL_:=EL
     have zELw44:=EL.size
     replace EL:=ext_same EL eh
     have EL2_:=EL2
     have zEL2w44:=EL2.size
     replace EL2:=ext_same EL2 eh
     have eT:=eh
     clear hh eh
     refine F.x (i:=0) rfl (fun w'=>R_move rfl (F.at rfl)) (fun _=>eT) ?_;clear F fa;intro fa F
     refine F.x (i:=1) rfl (fun w'=>R_move rfl (F.at rfl)) (fun _=>eT) ?_;clear F fa;intro fa F
     obtain ⟨xb35,xo35,xa35,xr35⟩:=HS.out i (by omega)
     refine F.x (i:=2) rfl (fun w'=>R_ixSlice (sz:=11) rfl ((F.at rfl).trans (xa35 _ _)) (F.at rfl) Try.underlying32 (by kernel_rfl) (by omega) (by omega)) (fun _=>eT) ?_;clear F fa;intro fa F
     refine F.xr (i:=3) rfl (fun w' hS=>R_loadRow rfl (F.at rfl) Try.underlying28 rfl (by kernel_rfl) (xr35 _ (EO_.nil hS))) (fun _=>eT) ?_;clear F fa;intro fa F
     refine F.x (i:=4) rfl (fun w'=>R_move rfl (F.at rfl)) (fun _=>eT) ?_;clear F fa;intro fa F
     refine F.x (i:=5) rfl (fun w'=>R_move rfl (F.at rfl)) (fun _=>eT) ?_;clear F fa;intro fa F
     obtain ⟨xb36,xo36,xa36,xr36⟩:=HS3.out k (by omega)
     refine F.x (i:=6) rfl (fun w'=>R_ixSlice (sz:=1) rfl ((F.at rfl).trans (xa36 _ _)) (F.at rfl) Try.underlying29 (by kernel_rfl) (by omega) (by omega)) (fun _=>eT) ?_;clear F fa;intro fa F
     refine F.xr (i:=7) rfl (fun w' hS=>R_load rfl (F.at rfl) Try.underlying3 rfl (xr36 _ (EL_.nil hS) 0 _ rfl)) (fun _=>eT) ?_;clear F fa;intro fa F
     refine ax_pair (i:=8) (j:=12) (by kernel_rfl) ?_ ?_
     ·skip
      refine (op_call F rfl rfl (by decide) rfl (R_callV rfl rfl Try.call36 (mpS (F.at rfl) (mpS (F.at rfl) mp0))) (refPull_any (tsI ts i).t hnn (tsI ts i).ga (tsI ts i).ra (tsI ts i).la (tsI ts i).gc (tsI ts i).rc (tsI ts i).lc _ ((HA.out i (by omega)).ext EO (by simp)) m1 m2 m3 _) fun e w45 hR=>?_)
      obtain ⟨rfl,e9⟩:=hR
      refine ⟨_,rfl,?_⟩;clear F fa;intro fa F
      replace q13:=(e9).keep0 q13
      replace q80:=(e9).keep0 q80
      replace q82:=(e9).keep0 q82
      replace q84:=(e9).keep0 q84
      replace q22:=(e9).keep0 q22
      replace q24:=(e9).keep0 q24
      replace q26:=(e9).keep0 q26
      replace E:=ext_same E (e9)
      replace EO:=ext_same EO (e9)
      replace EL1:=ext_same EL1 (e9)
      replace EX:=ext_same EX (e9)
      replace EL:=ext_same EL (e9)
      replace EL2:=ext_same EL2 (e9)
      replace eT:=ext_same eT (e9)
      clear e9
      refine ⟨fun _=>eT,?_⟩
      refine F.x (i:=9) rfl (fun w'=>R_move rfl (F.at rfl)) (fun _=>eT) ?_;clear F fa;intro fa F
      refine F.x (i:=10) rfl (fun w'=>R_extract rfl (F.at rfl) (get0)) (fun _=>eT) ?_;clear F fa;intro fa F
      refine F.x (i:=11) rfl (fun w'=>R_extract rfl (F.at rfl) (getS (get0))) (fun _=>eT) ?_;clear F fa;intro fa F
      refine ax_only (i:=12) (by kernel_rfl) (op_new F rfl rfl (by decide) rfl (R_alloc rfl Try.zeroValue23) ?_);clear F fa;intro fa w46 F hw
      obtain ⟨n28,hn⟩ : ∃ n,n = w45.heap.size:=⟨_,rfl⟩
      rw [← hn] at F
      have s28 : w45.heap.size ≤ n28:=Nat.le_of_eq hn.symm
      have l28_E : w.heap.size ≤ n28:=by rw [hn];exact E.size
      have l28_EO : w6.heap.size ≤ n28:=by rw [hn];exact EO.size
      have l28_EL1 : w6.heap.size ≤ n28:=by rw [hn];exact EL1.size
      have l28_EX : w8.heap.size ≤ n28:=by rw [hn];exact EX.size
      have l28_EL : w18.heap.size ≤ n28:=by rw [hn];exact EL.size
      have l28_EL2 : w18.heap.size ≤ n28:=by rw [hn];exact EL2.size
      have lT28 : w43.heap.size ≤ n28:=by rw [hn];exact eT.size
      have m28_13 : n13 < n28:=by rw [hn];exact blk_lt q13
      have m28_80 : n80 < n28:=by rw [hn];exact blk_lt q80
      have m28_82 : n82 < n28:=by rw [hn];exact blk_lt q82
      have m28_84 : n84 < n28:=by rw [hn];exact blk_lt q84
      have m28_22 : n22 < n28:=by rw [hn];exact blk_lt q22
      have m28_24 : n24 < n28:=by rw [hn];exact blk_lt q24
      have m28_26 : n26 < n28:=by rw [hn];exact blk_lt q26
      replace q13:=keep_alloc hw q13
      replace q80:=keep_alloc hw q80
      replace q82:=keep_alloc hw q82
      replace q84:=keep_alloc hw q84
      replace q22:=keep_alloc hw q22
      replace q24:=keep_alloc hw q24
      replace q26:=keep_alloc hw q26
      replace E:=ext_alloc E hw
      replace EO:=ext_alloc EO hw
      replace EL1:=ext_alloc EL1 hw
      replace EX:=ext_alloc EX hw
      replace EL:=ext_alloc EL hw
      replace EL2:=ext_alloc EL2 hw
      replace eT:=ext_alloc eT hw
      have q28:=new_row hw hn
      clear hw hn
      refine ⟨fun _=>eT,?_⟩
      refine ax_only (i:=13) (by kernel_rfl) (op_to rfl rfl rfl (R_storeRow rfl (F.at rfl) (F.at rfl) (by kernel_rfl) (by first | (simp [Value.oneCell'];done) | (simp [Value.oneCell',grRow,rdRow,lkRow];done)) q28 rfl) ?_);intro w47 hw
      replace q13:=keep_cells hw q13 (by omega)
      replace q80:=keep_cells hw q80 (by omega)
      replace q82:=keep_cells hw q82 (by omega)
      replace q84:=keep_cells hw q84 (by omega)
      replace q22:=keep_cells hw q22 (by omega)
      replace q24:=keep_cells hw q24 (by omega)
      replace q26:=keep_cells hw q26 (by omega)
      replace q28:=put_row hw q28 rfl
      replace E:=ext_cells E hw (fun h=>by first | exact absurd h (by omega) | simp)
      replace EO:=ext_cells EO hw (fun h=>by first | exact absurd h (by omega) | simp)
      replace EL1:=ext_cells EL1 hw (fun h=>by first | exact absurd h (by omega) | simp)
      replace EX:=ext_cells EX hw (fun h=>by first | exact absurd h (by omega) | simp)
      replace EL:=ext_cells EL hw (fun h=>by first | exact absurd h (by omega) | simp)
      replace EL2:=ext_cells EL2 hw (fun h=>by first | exact absurd h (by omega) | simp)
      replace eT:=ext_cells eT hw (fun h=>by first | exact absurd h (by omega) | simp)
      clear hw
      refine ⟨fun _=>eT,?_⟩
      refine F.x (i:=14) rfl (fun w'=>R_assign rfl (F.at rfl)) (fun _=>eT) ?_;clear F fa;intro fa F
      refine ax_done (by kernel_rfl) ?_ _
      exact hcut _ _ _ (F.sub (.c 1 rfl (.c 2 rfl (.c 3 rfl (.c 11 rfl (.c 12 rfl (.c 13 rfl (.c 18 rfl (.c 19 rfl (.c 20 rfl (.c 21 rfl (.c 22 rfl (.c 23 rfl (.c 24 rfl (.c 25 rfl (.c 26 rfl (.c 27 rfl (.c 28 rfl (.c 29 rfl .n))))))))))))))))))) q13 q80 q82 q84 q22 q24 q26 q28 E EO EL1 EX EL EL2 (by omega) (by omega) (by omega) (by omega) (by omega) (by omega) (by omega) (by omega) (by omega) (by omega) (by omega) (by omega) (by omega)
     ·skip
      refine (op_new F rfl rfl (by decide) rfl (R_alloc rfl Try.zeroValue23) ?_);clear F fa;intro fa w48 F hw
      obtain ⟨n28,hn⟩ : ∃ n,n = w44.heap.size:=⟨_,rfl⟩
      rw [← hn] at F
      have s28 : w44.heap.size ≤ n28:=Nat.le_of_eq hn.symm
      have l28_E : w.heap.size ≤ n28:=by rw [hn];exact E.size
      have l28_EO : w6.heap.size ≤ n28:=by rw [hn];exact EO.size
      have l28_EL1 : w6.heap.size ≤ n28:=by rw [hn];exact EL1.size
      have l28_EX : w8.heap.size ≤ n28:=by rw [hn];exact EX.size
      have l28_EL : w18.heap.size ≤ n28:=by rw [hn];exact EL.size
      have l28_EL2 : w18.heap.size ≤ n28:=by rw [hn];exact EL2.size
      have lT28 : w43.heap.size ≤ n28:=by rw [hn];exact eT.size
      have m28_13 : n13 < n28:=by rw [hn];exact blk_lt q13
      have m28_80 : n80 < n28:=by rw [hn];exact blk_lt q80
      have m28_82 : n82 < n28:=by rw [hn];exact blk_lt q82
      have m28_84 : n84 < n28:=by rw [hn];exact blk_lt q84
      have m28_22 : n22 < n28:=by rw [hn];exact blk_lt q22
      have m28_24 : n24 < n28:=by rw [hn];exact blk_lt q24
      have m28_26 : n26 < n28:=by rw [hn];exact blk_lt q26
      replace q13:=keep_alloc hw q13
      replace q80:=keep_alloc hw q80
      replace q82:=keep_alloc hw q82
      replace q84:=keep_alloc hw q84
      replace q22:=keep_alloc hw q22
      replace q24:=keep_alloc hw q24
      replace q26:=keep_alloc hw q26
      replace E:=ext_alloc E hw
      replace EO:=ext_alloc EO hw
      replace EL1:=ext_alloc EL1 hw
      replace EX:=ext_alloc EX hw
      replace EL:=ext_alloc EL hw
      replace EL2:=ext_alloc EL2 hw
      replace eT:=ext_alloc eT hw
      have q28:=new_row hw hn
      clear hw hn
      refine ⟨fun _=>eT,?_⟩
      refine ax_only (i:=8) (by kernel_rfl) (op_call F rfl rfl (by decide) rfl (R_callV rfl rfl Try.call36 (mpS (F.at rfl) (mpS (F.at rfl) mp0))) (refPull_any (tsI ts i).t hnn (tsI ts i).ga (tsI ts i).ra (tsI ts i).la (tsI ts i).gc (tsI ts i).rc (tsI ts i).lc _ ((HA.out i (by omega)).ext EO (by simp)) m1 m2 m3 _) fun e w49 hR=>?_)
      obtain ⟨rfl,e9⟩:=hR
      refine ⟨_,rfl,?_⟩;clear F fa;intro fa F
      replace q13:=(e9).keep0 q13
      replace q80:=(e9).keep0 q80
      replace q82:=(e9).keep0 q82
      replace q84:=(e9).keep0 q84
      replace q22:=(e9).keep0 q22
      replace q24:=(e9).keep0 q24
      replace q26:=(e9).keep0 q26
      replace q28:=(e9).keep0 q28
      replace E:=ext_same E (e9)
      replace EO:=ext_same EO (e9)
      replace EL1:=ext_same EL1 (e9)
      replace EX:=ext_same EX (e9)
      replace EL:=ext_same EL (e9)
      replace EL2:=ext_same EL2 (e9)
      replace eT:=ext_same eT (e9)
      clear e9
      refine ⟨fun _=>eT,?_⟩
      refine F.x (i:=9) rfl (fun w'=>R_move rfl (F.at rfl)) (fun _=>eT) ?_;clear F fa;intro fa F
      refine F.x (i:=10) rfl (fun w'=>R_extract rfl (F.at rfl) (get0)) (fun _=>eT) ?_;clear F fa;intro fa F
      refine F.x (i:=11) rfl (fun w'=>R_extract rfl (F.at rfl) (getS (get0))) (fun _=>eT) ?_;clear F fa;intro fa F
      refine ax_only (i:=13) (by kernel_rfl) (op_to rfl rfl rfl (R_storeRow rfl (F.at rfl) (F.at rfl) (by kernel_rfl) (by first | (simp [Value.oneCell'];done) | (simp [Value.oneCell',grRow,rdRow,lkRow];done)) q28 rfl) ?_);intro w50 hw
      replace q13:=keep_cells hw q13 (by omega)
      replace q80:=keep_cells hw q80 (by omega)
      replace q82:=keep_cells hw q82 (by omega)
      replace q84:=keep_cells hw q84 (by omega)
      replace q22:=keep_cells hw q22 (by omega)
      replace q24:=keep_cells hw q24 (by omega)
      replace q26:=keep_cells hw q26 (by omega)
      replace q28:=put_row hw q28 rfl
      replace E:=ext_cells E hw (fun h=>by first | exact absurd h (by omega) | simp)
      replace EO:=ext_cells EO hw (fun h=>by first | exact absurd h (by omega) | simp)
      replace EL1:=ext_cells EL1 hw (fun h=>by first | exact absurd h (by omega) | simp)
      replace EX:=ext_cells EX hw (fun h=>by first | exact absurd h (by omega) | simp)
      replace EL:=ext_cells EL hw (fun h=>by first | exact absurd h (by omega) | simp)
      replace EL2:=ext_cells EL2 hw (fun h=>by first | exact absurd h (by omega) | simp)
      replace eT:=ext_cells eT hw (fun h=>by first | exact absurd h (by omega) | simp)
      clear hw
      refine ⟨fun _=>eT,?_⟩
      refine F.x (i:=14) rfl (fun w'=>R_assign rfl (F.at rfl)) (fun _=>eT) ?_;clear F fa;intro fa F
      refine ax_done (by kernel_rfl) ?_ _
      exact hcut _ _ _ (F.sub (.c 1 rfl (.c 2 rfl (.c 3 rfl (.c 11 rfl (.c 12 rfl (.c 13 rfl (.c 18 rfl (.c 19 rfl (.c 20 rfl (.c 21 rfl (.c 22 rfl (.c 23 rfl (.c 24 rfl (.c 25 rfl (.c 26 rfl (.c 27 rfl (.c 28 rfl (.c 29 rfl .n))))))))))))))))))) q13 q80 q82 q84 q22 q24 q26 q28 E EO EL1 EX EL EL2 (by omega) (by omega) (by omega) (by omega) (by omega) (by omega) (by omega) (by omega) (by omega) (by omega) (by omega) (by omega) (by omega)
    clear F q13 q80 q82 q84 q22 q24 q26 E EO EL1 EX EL EL2 fa
    intro n28  fa w51 F q13 q80 q82 q84 q22 q24 q26 q28 E EO EL1 EX EL EL2 l28_E l28_EO l28_EL1 l28_EX l28_EL l28_EL2 m28_13 m28_80 m28_82 m28_84 m28_22 m28_24 m28_26
    refine hK34 _ _ ?_
    clear hK34
    refine wp_seq_k fun K37 hK37=>?_
    refine wp_region_lit ?_
    refine F.vl (R_loadBlk rfl (F.at rfl) Try.underlying23 rfl (by kernel_rfl) q22) ?_;clear F fa;intro fa F
    refine F.vl (R_loadBlk rfl (F.at rfl) Try.underlying23 rfl (by kernel_rfl) q24) ?_;clear F fa;intro fa F
    refine F.vl (R_neqBt (r:=false) rfl (F.at rfl) (F.at rfl) (decide_eq_true (⟨rfl,rfl⟩))) ?_;clear F fa;intro fa F
    refine F.mv ?_;clear F fa;intro fa F
    refine F.mv ?_ (hw:=(wantT F rfl rfl (by decide) rfl));clear F fa;intro fa F
    refine F.mv ?_ (hw:=(wantT F rfl rfl (by decide) rfl));clear F fa;intro fa F
    refine F.vl (R_neqB (b:=false) rfl (F.at rfl) (F.at rfl) (decide_eq_true ((by omega)))) ?_ (hw:=(wantT F rfl rfl (by decide) rfl));clear F fa;intro fa F
    refine F.vl (R_pickF rfl (F.at rfl) (F.at rfl)) ?_;clear F fa;intro fa F
    refine F.mv ?_;clear F fa;intro fa F
    refine F.vl (R_loadBlk rfl (F.at rfl) Try.underlying23 rfl (by kernel_rfl) q26) ?_ (hw:=(wantT F rfl rfl (by decide) rfl));clear F fa;intro fa F
    refine F.vl (R_loadBlk rfl (F.at rfl) Try.underlying23 rfl (by kernel_rfl) q28) ?_ (hw:=(wantT F rfl rfl (by decide) rfl));clear F fa;intro fa F
    refine F.vl (R_neqBt (r:=false) rfl (F.at rfl) (F.at rfl) (decide_eq_true (⟨rfl,rfl⟩))) ?_ (hw:=(wantT F rfl rfl (by decide) rfl));clear F fa;intro fa F
    refine F.vl (R_pickF rfl (F.at rfl) (F.at rfl)) ?_;clear F fa;intro fa F
    refine F.mv ?_;clear F fa;intro fa F
    refine F.mv ?_ (hw:=(wantT F rfl rfl (by decide) rfl));clear F fa;intro fa F
    refine F.mv ?_ (hw:=(wantT F rfl rfl (by decide) rfl));clear F fa;intro fa F
    refine F.vl (R_neqB (b:=false) rfl (F.at rfl) (F.at rfl) (decide_eq_true ((by omega)))) ?_ (hw:=(wantT F rfl rfl (by decide) rfl));clear F fa;intro fa F
    refine F.vl (R_pickF rfl (F.at rfl) (F.at rfl)) ?_;clear F fa;intro fa F
    refine wpList_nil ?_
    refine hK37 _ _ ?_
    clear hK37
    refine cd_F F rfl ?_
    refine wp_skip ?_
    refine hK24 _ _ ?_
    clear hK24
    refine wp_region_lit ?_
    refine F.mv ?_;clear F fa;intro fa F
    refine F.vl (R_add rfl (F.at rfl) (ev_c fa _) (by omega) (by omega)) ?_;clear F fa;intro fa F
    refine F.as ?_;clear F fa;intro fa F
    refine wpList_nil ?_
    show _ ∧ _
    exact ⟨by omega,_,⟨rfl,EL2⟩,F.sub (.c 21 rfl (.c 1 rfl (.c 2 rfl (.c 3 rfl (.c 11 rfl (.c 12 rfl (.c 13 rfl (.c 18 rfl (.c 19 rfl (.c 20 rfl .n))))))))))⟩
   ·skip
    refine wp_exit ?_
    refine hK20 _ _ ?_
    clear hK20
    refine wp_seq_k fun K38 hK38=>?_
    refine wp_region_st 5 follows (by kernel_rfl) fun w52 hh eh=>?_
    replace q5:=keep_same hh q5
    replace q13:=keep_same hh q13
    replace q80:=keep_same hh q80
    replace q82:=keep_same hh q82
    replace q84:=keep_same hh q84
    replace E:=ext_same E eh
    replace EO:=ext_same EO eh
    replace EL1:=ext_same EL1 eh
    replace EX:=ext_same EX eh
    replace EL:=ext_same EL eh
    clear hh eh
    refine F.sv (R_loadBlk rfl (F.at rfl) Try.underlying28 rfl (by kernel_rfl) q13) ?_;clear F fa;intro fa F
    refine F.smv ?_;clear F fa;intro fa F
    refine F.smv ?_;clear F fa;intro fa F
    obtain ⟨xb39,xo39,xa39,xr39⟩:=HS.out i (by omega)
    refine F.sv (R_ixSlice (sz:=11) rfl ((F.at rfl).trans (xa39 _ _)) (F.at rfl) Try.underlying32 (by kernel_rfl) (by omega) (by omega)) ?_;clear F fa;intro fa F
    refine F.sv (R_loadRow rfl (F.at rfl) Try.underlying28 rfl (by kernel_rfl) (xr39 _ EO)) ?_;clear F fa;intro fa F
    refine wpStill_nil ?_
    refine sq_call F rfl (by decide) rfl (R_callV rfl rfl Try.call37 (mpS (F.at rfl) (mpS (F.at rfl) mp0))) (sameTapes_yes (tsI ts i).t gxa rxa lxa (tsI ts i).ga (tsI ts i).ra (tsI ts i).la gxc rxc lxc (tsI ts i).gc (tsI ts i).rc (tsI ts i).lc _ (HX.out.ext EX (by simp)) ((HA.out i (by omega)).ext EO (by simp)) m1 m2 m3) fun e w53 hR=>?_
    obtain ⟨rfl,e9⟩:=hR
    refine ⟨_,rfl,?_⟩;clear F fa;intro fa F
    replace q5:=(e9).keep0 q5
    replace q13:=(e9).keep0 q13
    replace q80:=(e9).keep0 q80
    replace q82:=(e9).keep0 q82
    replace q84:=(e9).keep0 q84
    replace E:=ext_same E (e9)
    replace EO:=ext_same EO (e9)
    replace EL1:=ext_same EL1 (e9)
    replace EX:=ext_same EX (e9)
    replace EL:=ext_same EL (e9)
    clear e9
    refine F.vl (R_not rfl (F.at rfl)) ?_;clear F fa;intro fa F
    refine wpList_nil ?_
    refine hK38 _ _ ?_
    clear hK38
    refine cd_F F rfl ?_
    refine wp_skip ?_
    refine hK10 _ _ ?_
    clear hK10
    refine wp_region_lit ?_
    refine F.mv ?_;clear F fa;intro fa F
    refine F.vl (R_add rfl (F.at rfl) (ev_c fa _) (by omega) (by omega)) ?_;clear F fa;intro fa F
    refine F.as ?_;clear F fa;intro fa F
    refine wpList_nil ?_
    show _ ∧ _
    exact ⟨by omega,_,⟨rfl,EL1⟩,F.sub (.c 12 rfl (.c 1 rfl (.c 2 rfl (.c 3 rfl (.c 11 rfl .n)))))⟩
  ·skip
   refine wp_exit ?_
   refine hK6 _ _ ?_
   clear hK6
   refine wp_seq_k fun K40 hK40=>?_
   refine wp_region_lit ?_
   refine sq_call F rfl (by decide) rfl (R_callV rfl rfl Try.call25 mp0) (taken_any _) fun e w54 hR=>?_
   obtain ⟨rfl,e9⟩:=hR
   refine ⟨_,rfl,?_⟩;clear F fa;intro fa F
   replace q5:=(e9).keep0 q5
   replace E:=ext_same E (e9)
   replace EO:=ext_same EO (e9)
   clear e9
   refine F.as ?_;clear F fa;intro fa F
   refine wpList_nil ?_
   refine hK40 _ _ ?_
   clear hK40
   refine wp_ret ?_
   (try simp only [Exit.inBlock,Exit.then])
   refine rt_v F (rs_1 F rfl rfl) ?_
   exact ⟨rfl,E⟩
end Go.Proofs.Ytholfdgebdlgjaa
namespace Go.Proofs.Ytholfdgebdlgjaa
open Go.ChangeShapes Go.WideShapes
section
variable {H : Type} {enc : TypeId × Value → H} {P : Program} {w : World}
theorem open_struct_ints {t : TypeId} {fs : Array Field} {base fuel : Nat} {spare : Nat → Bool} {held : Bool} {cs : List Value} {x : DataW H × List MemPlace} (ht : P.underlying t = some (.struct fs)) (hsz : P.cellsOf t = fs.size)
  (hf : ∀ (i : Nat) (f : Field),fs[i]? = some f → P.underlying f.type = some (.int .i64) ∧ P.cellsOf f.type = 1 ∧ f.offset = i) (h : DataW.trod enc P w base spare held fuel t cs = some x) :
  ∃ zs : List Int,cs = zs.map (Value.int .i64) ∧ zs.length = fs.size:=by
 obtain ⟨xs,n,-,-,hl,hxl,hx⟩:=DataW.trod_struct ht h
 have each : ∀ i : Nat,i < fs.size → ∃ m : Int,cs[i]? = some (.int .i64 m):=by
  intro i hi
  have hg : fs[i]? = some fs[i]:=Array.getElem?_eq_getElem hi
  obtain ⟨f1,f2,f3⟩:=hf i _ hg
  have hq:=hx i _ hg
  rw [f2,f3,List.getElem?_eq_getElem (by omega)] at hq
  obtain ⟨m,hm,-,-⟩:=DataW.trod_int f1 hq
  exact ⟨m,cell_of_cut hm⟩
 refine ⟨cs.map fun v=>match v with | .int _ m=>m | _=>0,?_,by simp [hl,hsz]⟩
 rw [List.map_map]
 refine List.ext_getElem? fun i=>?_
 by_cases hi : i < fs.size
 ·obtain ⟨m,hm⟩:=each i hi
  rw [List.getElem?_map,hm];rfl
 ·rw [List.getElem?_eq_none (by omega),List.getElem?_eq_none (by simp;omega)]
theorem open_rows {t e : TypeId} {fuel sz : Nat} {cs : List Value} {x : DataW H × List MemPlace} (ht : P.underlying t = some (.slice e)) (hsz : P.cellsOf e = sz) (h0 : 0 < sz)
  (hE : ∀ n cs y,DataW.trod enc P w 0 (fun _=>true) true n e cs = some y → ∃ zs : List Int,cs = zs.map (Value.int .i64) ∧ zs.length = sz)
  (h : DataW.trod enc P w 0 (fun _=>true) true fuel t cs = some x) :
  ∃ (a : Option Addr) (c : Nat) (rows : List (List Int)),cs = [.slice a rows.length c] ∧ (∀ r ∈ rows,r.length = sz) ∧ IsRows w (.slice a rows.length c) sz (rows.map (List.map (Value.int .i64))):=by
 rcases DataW.trod_slice ht h with ⟨rfl,-⟩ | ⟨a,len,cap,elems,rest,n,-,rfl,-,-,-,-,hlen,hel,-,-⟩
 ·exact ⟨none,0,[],rfl,by simp,⟨none,0,rfl,by simp,fun h=>absurd rfl h⟩⟩
 have each : ∀ i,∃ zs : List Int,i < len → zs.length = sz ∧ ∀ j,j < sz → w.cell? ((a.add (i * sz)).add j) = (zs.map (Value.int .i64))[j]?:=by
  intro i
  by_cases hi : i < len
  ·have hq:=hel i hi
   rw [List.getElem?_eq_getElem (by omega),Option.bind_eq_some_iff] at hq
   obtain ⟨ci,h1,h2⟩:=hq
   obtain ⟨zs,rfl,hz⟩:=hE _ _ _ h2
   rw [hsz] at h1
   exact ⟨zs,fun _=>⟨hz,(World.cells?_some h1).2.2⟩⟩
  ·exact ⟨[],fun h=>absurd h hi⟩
 obtain ⟨f,hf⟩ : ∃ f : Nat → List Int,∀ i,i < len → (f i).length = sz ∧ ∀ j,j < sz → w.cell? ((a.add (i * sz)).add j) = ((f i).map (Value.int .i64))[j]?:=⟨fun i=>Classical.choose (each i),fun i=>Classical.choose_spec (each i)⟩
 have hL : ((List.range len).map f).length = len:=by simp
 refine ⟨some a,cap,(List.range len).map f,by rw [hL],?_,?_⟩
 ·intro r hr
  obtain ⟨i,hi,rfl⟩:=List.mem_map.1 hr
  exact (hf i (List.mem_range.1 hi)).1
 ·refine ⟨some a,cap,by simp,?_,fun hne=>?_⟩
  ·intro r hr
   obtain ⟨r',hr',rfl⟩:=List.mem_map.1 hr
   obtain ⟨i,hi,rfl⟩:=List.mem_map.1 hr'
   rw [List.length_map]
   exact (hf i (List.mem_range.1 hi)).1
  ·have hp : 0 < len:=by
    rcases Nat.eq_zero_or_pos len with rfl | h
    ·exact absurd rfl hne
    ·exact h
   obtain ⟨l0,c0⟩:=hf 0 hp
   have c00:=c0 0 h0
   have ha0 : (a.add (0 * sz)).add 0 = a:=by rw [Nat.zero_mul];rfl
   rw [ha0,List.getElem?_eq_getElem (by simp;omega)] at c00
   obtain ⟨b,off,spot⟩:=a
   have hs : spot = none:=by
    cases spot with
    | none=>rfl
    | some k =>
     unfold World.cell? at c00
     split at c00 <;> simp at c00
   subst hs
   have hb : b < w.heap.size:=by
    unfold World.cell? at c00
    cases hq : w.heap[b]? with
    | none=>simp [hq] at c00
    | some o=>exact (Array.getElem?_eq_some_iff.1 hq).1
   refine ⟨b,off,rfl,hb,fun i j r hi hj=>?_⟩
   have hil : i < len:=by have:=(List.getElem?_eq_some_iff.1 hi).1;simpa using this
   have hr : r = (f i).map (Value.int .i64):=by simpa [hil] using hi.symm
   have:=(hf i hil).2 j hj
   rw [add_plain,add_plain] at this
   rw [this,hr]
end
theorem rows2 : ∀ (rows : List (List Int)),(∀ r ∈ rows,r.length = 2) → ∃ gr : List (Int × Int),gr.length = rows.length ∧ rows.map (List.map (Value.int .i64)) = gr.map grRow
 | [],_=>⟨[],rfl,rfl⟩
 | r :: rows,h=>by
  obtain ⟨gr,h1,h2⟩:=rows2 rows fun x hx=>h x (List.mem_cons_of_mem _ hx)
  match r,h r (List.mem_cons_self ..) with
  | [a,b],_=>exact ⟨(a,b) :: gr,by simp [h1],by simp [h2,grRow]⟩
theorem rows4 : ∀ (rows : List (List Int)),(∀ r ∈ rows,r.length = 4) → ∃ gr : List (Int × Int × Int × Int),gr.length = rows.length ∧ rows.map (List.map (Value.int .i64)) = gr.map rdRow
 | [],_=>⟨[],rfl,rfl⟩
 | r :: rows,h=>by
  obtain ⟨gr,h1,h2⟩:=rows4 rows fun x hx=>h x (List.mem_cons_of_mem _ hx)
  match r,h r (List.mem_cons_self ..) with
  | [a,b,c,d],_=>exact ⟨(a,b,c,d) :: gr,by simp [h1],by simp [h2,rdRow]⟩
theorem rows6 : ∀ (rows : List (List Int)),(∀ r ∈ rows,r.length = 6) → ∃ gr : List (Int × Int × Int × Int × Int × Int),gr.length = rows.length ∧ rows.map (List.map (Value.int .i64)) = gr.map lkRow
 | [],_=>⟨[],rfl,rfl⟩
 | r :: rows,h=>by
  obtain ⟨gr,h1,h2⟩:=rows6 rows fun x hx=>h x (List.mem_cons_of_mem _ hx)
  match r,h r (List.mem_cons_self ..) with
  | [a,b,c,d,e,f],_=>exact ⟨(a,b,c,d,e,f) :: gr,by simp [h1],by simp [h2,lkRow]⟩
theorem int_one : Try.prog.cellsOf 3 = 1:=by kernel_rfl
theorem list11 {l : List Value} (h : l.length = 11) : ∃ c0 c1 c2 c3 c4 c5 c6 c7 c8 c9 c10,l = [c0,c1,c2,c3,c4,c5,c6,c7,c8,c9,c10]:=by
 match l,h with
 | [c0,c1,c2,c3,c4,c5,c6,c7,c8,c9,c10],_=>exact ⟨_,_,_,_,_,_,_,_,_,_,_,rfl⟩
theorem open_bt {H : Type} {enc : TypeId × Value → H} {w : World} (n : Nat) (cs : List Value) (y : DataW H × List MemPlace) (h : DataW.trod enc Try.prog w 0 (fun _=>true) true n 23 cs = some y) : ∃ zs : List Int,cs = zs.map (Value.int .i64) ∧ zs.length = 2:=
 open_struct_ints Try.underlying23 (by kernel_rfl) (by intro i f h;rcases i with _ | _ | i <;> simp at h <;> subst h <;> exact ⟨Try.underlying3,int_one,rfl⟩) h
theorem open_rd {H : Type} {enc : TypeId × Value → H} {w : World} (n : Nat) (cs : List Value) (y : DataW H × List MemPlace) (h : DataW.trod enc Try.prog w 0 (fun _=>true) true n 66 cs = some y) : ∃ zs : List Int,cs = zs.map (Value.int .i64) ∧ zs.length = 4:=
 open_struct_ints Try.underlying66 (by kernel_rfl) (by intro i f h;rcases i with _ | _ | _ | _ | i <;> simp at h <;> subst h <;> exact ⟨Try.underlying3,int_one,rfl⟩) h
theorem list6 {l : List Value} (h : l.length = 6) : ∃ c0 c1 c2 c3 c4 c5,l = [c0,c1,c2,c3,c4,c5]:=by
 match l,h with
 | [c0,c1,c2,c3,c4,c5],_=>exact ⟨_,_,_,_,_,_,rfl⟩
theorem open_one {H : Type} {enc : TypeId × Value → H} {w : World} {m : Nat} (c : Value) (y : DataW H × List MemPlace) (h : DataW.trod enc Try.prog w 0 (fun _=>true) true m 3 [c] = some y) : ∃ k : Int,c = .int .i64 k:=by
 obtain ⟨k,hk,-,-⟩:=DataW.trod_int Try.underlying3 h
 simp at hk
 exact ⟨k,hk⟩
theorem open_lk {H : Type} {enc : TypeId × Value → H} {w : World} (n : Nat) (cs : List Value) (y : DataW H × List MemPlace) (h : DataW.trod enc Try.prog w 0 (fun _=>true) true n 75 cs = some y) : ∃ zs : List Int,cs = zs.map (Value.int .i64) ∧ zs.length = 6:=by
 obtain ⟨xs,m,-,-,hl,hxl,hx⟩:=DataW.trod_struct Try.underlying75 h
 obtain ⟨c0,c1,c2,c3,c4,c5,rfl⟩:=list6 (hl.trans (by kernel_rfl))
 have get : ∀ i : Nat,i < 5 → ∃ y,xs[i]? = some y:=fun i hi=>⟨_,List.getElem?_eq_getElem (by rw [hxl];exact hi)⟩
 obtain ⟨y0,e0⟩:=get 0 (by omega)
 obtain ⟨y1,e1⟩:=get 1 (by omega)
 obtain ⟨y2,e2⟩:=get 2 (by omega)
 obtain ⟨y3,e3⟩:=get 3 (by omega)
 obtain ⟨y4,e4⟩:=get 4 (by omega)
 have u0 : DataW.trod enc Try.prog w 0 (fun _=>true) true m 3 (([c0,c1,c2,c3,c4,c5].drop 0).take (Try.prog.cellsOf 3)) = some y0:=(hx 0 _ rfl).trans e0
 have u1 : DataW.trod enc Try.prog w 0 (fun _=>true) true m 3 (([c0,c1,c2,c3,c4,c5].drop 1).take (Try.prog.cellsOf 3)) = some y1:=(hx 1 _ rfl).trans e1
 have u2 : DataW.trod enc Try.prog w 0 (fun _=>true) true m 3 (([c0,c1,c2,c3,c4,c5].drop 2).take (Try.prog.cellsOf 3)) = some y2:=(hx 2 _ rfl).trans e2
 have u3 : DataW.trod enc Try.prog w 0 (fun _=>true) true m 3 (([c0,c1,c2,c3,c4,c5].drop 3).take (Try.prog.cellsOf 3)) = some y3:=(hx 3 _ rfl).trans e3
 have u4 : DataW.trod enc Try.prog w 0 (fun _=>true) true m 23 (([c0,c1,c2,c3,c4,c5].drop 4).take (Try.prog.cellsOf 23)) = some y4:=(hx 4 _ rfl).trans e4
 have d2 : Try.prog.cellsOf 23 = 2:=by kernel_rfl
 simp only [int_one,d2,List.drop_succ_cons,List.drop_zero,List.take_succ_cons,List.take_zero] at u0 u1 u2 u3 u4
 obtain ⟨a0,rfl⟩:=open_one _ _ u0
 obtain ⟨a1,rfl⟩:=open_one _ _ u1
 obtain ⟨a2,rfl⟩:=open_one _ _ u2
 obtain ⟨a3,rfl⟩:=open_one _ _ u3
 obtain ⟨bd,hbd,hbl⟩:=open_bt _ _ _ u4
 match bd,hbl with
 | [b1,b2],_ =>
  simp only [List.map_cons,List.map_nil,List.cons.injEq,and_true] at hbd
  obtain ⟨rfl,rfl⟩:=hbd
  exact ⟨[a0,a1,a2,a3,b1,b2],rfl,rfl⟩
theorem open_tapes {H : Type} {enc : TypeId × Value → H} {w : World} {n : Nat} {cs : List Value} {y : DataW H × List MemPlace} (h : DataW.trod enc Try.prog w 0 (fun _=>true) true n 28 cs = some y) :
  ∃ (t : Tp) (ga ra la : Option Addr) (gc rc lc : Nat),cs = [.int .i64 t.S,.int .i64 t.A,.int .i64 t.T,.int .i64 t.bl,.int .i64 t.bm,.int .i64 t.pl,.int .i64 t.pm,.int .i64 t.sl,.slice ga t.gr.length gc,.slice ra t.rd.length rc,.slice la t.lk.length lc] ∧
   IsTp w (.slice ga t.gr.length gc) (.slice ra t.rd.length rc) (.slice la t.lk.length lc) t:=by
 obtain ⟨xs,m,-,-,hl,hxl,hx⟩:=DataW.trod_struct Try.underlying28 h
 obtain ⟨c0,c1,c2,c3,c4,c5,c6,c7,c8,c9,c10,rfl⟩:=list11 (hl.trans (by kernel_rfl))
 have get : ∀ i : Nat,i < 9 → ∃ y,xs[i]? = some y:=fun i hi=>⟨_,List.getElem?_eq_getElem (by rw [hxl];exact hi)⟩
 obtain ⟨y0,e0⟩:=get 0 (by omega)
 obtain ⟨y1,e1⟩:=get 1 (by omega)
 obtain ⟨y2,e2⟩:=get 2 (by omega)
 obtain ⟨y3,e3⟩:=get 3 (by omega)
 obtain ⟨y4,e4⟩:=get 4 (by omega)
 obtain ⟨y5,e5⟩:=get 5 (by omega)
 obtain ⟨y6,e6⟩:=get 6 (by omega)
 obtain ⟨y7,e7⟩:=get 7 (by omega)
 obtain ⟨y8,e8⟩:=get 8 (by omega)
 have u0 : DataW.trod enc Try.prog w 0 (fun _=>true) true m 3 (([c0,c1,c2,c3,c4,c5,c6,c7,c8,c9,c10].drop 0).take (Try.prog.cellsOf 3)) = some y0:=(hx 0 _ rfl).trans e0
 have u1 : DataW.trod enc Try.prog w 0 (fun _=>true) true m 3 (([c0,c1,c2,c3,c4,c5,c6,c7,c8,c9,c10].drop 1).take (Try.prog.cellsOf 3)) = some y1:=(hx 1 _ rfl).trans e1
 have u2 : DataW.trod enc Try.prog w 0 (fun _=>true) true m 3 (([c0,c1,c2,c3,c4,c5,c6,c7,c8,c9,c10].drop 2).take (Try.prog.cellsOf 3)) = some y2:=(hx 2 _ rfl).trans e2
 have u3 : DataW.trod enc Try.prog w 0 (fun _=>true) true m 23 (([c0,c1,c2,c3,c4,c5,c6,c7,c8,c9,c10].drop 3).take (Try.prog.cellsOf 23)) = some y3:=(hx 3 _ rfl).trans e3
 have u4 : DataW.trod enc Try.prog w 0 (fun _=>true) true m 23 (([c0,c1,c2,c3,c4,c5,c6,c7,c8,c9,c10].drop 5).take (Try.prog.cellsOf 23)) = some y4:=(hx 4 _ rfl).trans e4
 have u5 : DataW.trod enc Try.prog w 0 (fun _=>true) true m 3 (([c0,c1,c2,c3,c4,c5,c6,c7,c8,c9,c10].drop 7).take (Try.prog.cellsOf 3)) = some y5:=(hx 5 _ rfl).trans e5
 have u6 : DataW.trod enc Try.prog w 0 (fun _=>true) true m 24 (([c0,c1,c2,c3,c4,c5,c6,c7,c8,c9,c10].drop 8).take (Try.prog.cellsOf 24)) = some y6:=(hx 6 _ rfl).trans e6
 have u7 : DataW.trod enc Try.prog w 0 (fun _=>true) true m 25 (([c0,c1,c2,c3,c4,c5,c6,c7,c8,c9,c10].drop 9).take (Try.prog.cellsOf 25)) = some y7:=(hx 7 _ rfl).trans e7
 have u8 : DataW.trod enc Try.prog w 0 (fun _=>true) true m 26 (([c0,c1,c2,c3,c4,c5,c6,c7,c8,c9,c10].drop 10).take (Try.prog.cellsOf 26)) = some y8:=(hx 8 _ rfl).trans e8
 have d2 : Try.prog.cellsOf 23 = 2:=by kernel_rfl
 have s24 : Try.prog.cellsOf 24 = 1:=by kernel_rfl
 have s25 : Try.prog.cellsOf 25 = 1:=by kernel_rfl
 have s26 : Try.prog.cellsOf 26 = 1:=by kernel_rfl
 simp only [int_one,d2,s24,s25,s26,List.drop_succ_cons,List.drop_zero,List.take_succ_cons,List.take_zero] at u0 u1 u2 u3 u4 u5 u6 u7 u8
 obtain ⟨S,rfl⟩:=open_one _ _ u0
 obtain ⟨A,rfl⟩:=open_one _ _ u1
 obtain ⟨T,rfl⟩:=open_one _ _ u2
 obtain ⟨sl,rfl⟩:=open_one _ _ u5
 obtain ⟨bd,hbd,hbl⟩:=open_bt _ _ _ u3
 obtain ⟨pl,hpl,hpll⟩:=open_bt _ _ _ u4
 obtain ⟨ga,gc,gr,hg,hgl,hgr⟩:=open_rows Try.underlying24 d2 (by decide) open_bt u6
 obtain ⟨ra,rc,rd,hr,hrl,hrd⟩:=open_rows Try.underlying25 (sz:=4) (by kernel_rfl) (by decide) open_rd u7
 obtain ⟨la,lc,lk,hk,hkl,hlk⟩:=open_rows Try.underlying26 (sz:=6) (by kernel_rfl) (by decide) open_lk u8
 obtain ⟨gr',g1,g2⟩:=rows2 gr hgl
 obtain ⟨rd',r1,r2⟩:=rows4 rd hrl
 obtain ⟨lk',k1,k2⟩:=rows6 lk hkl
 match bd,hbl,pl,hpll with
 | [b1,b2],_,[p1,p2],_ =>
  simp only [List.map_cons,List.map_nil,List.cons.injEq,and_true] at hbd hpl hg hr hk
  obtain ⟨rfl,rfl⟩:=hbd
  obtain ⟨rfl,rfl⟩:=hpl
  subst hg hr hk
  rw [g2,← g1] at hgr
  rw [r2,← r1] at hrd
  rw [k2,← k1] at hlk
  refine ⟨⟨S,A,T,b1,b2,p1,p2,sl,gr',rd',lk'⟩,ga,ra,la,gc,rc,lc,by simp [g1,r1,k1],⟨hgr,hrd,hlk⟩⟩
end Go.Proofs.Ytholfdgebdlgjaa
