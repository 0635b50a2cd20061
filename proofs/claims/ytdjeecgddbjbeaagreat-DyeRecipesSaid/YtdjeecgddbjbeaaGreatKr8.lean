/- Parts of a proof: Drp, Dne, Dnl, Dtl, Dse, Dmo. No conditions. -/
import Derived.Test.YtdjeecgddbjbeaaGreatKr3
import Derived.Test.YtdjeecgddbjbeaaGreatKr7
set_option linter.unusedVariables false
set_option linter.unusedSimpArgs false
namespace Go.Proofs.YtdjeecgddbjbeaaGreat
open Go.RowKit
def LisEPost (LL : List (List Int)) (er : Int) (w : World) (e : Ending) (w' : World) : Prop:=∃ (M : List (Value × List Int)) (b : Option Addr) (d : Nat),e = .returned (.tuple #[.slice b M.length d,.int .i64 er]) ∧ M.map (·.2) = LL ∧ w'.ownsRow w.heap.size 25 1 (.slice b M.length d) M.length (M.map (·.1)) ∧ FamT w' w.heap.size M ∧ Ext [] w w'
set_option maxRecDepth 100000 in
set_option maxHeartbeats 2000000 in
theorem xRecipes_ok (x : Vm) (hv : VOk x) (s : List Int) (hs : SmpOk x s) (ls : List Int) (hl : LmpsOk x ls) (hll : ls.length ≤ 1000) (a b : Option Addr) (c d : Nat) (w : World) (h : x.At w) (hr : IsRows w (.slice a s.length c) 1 (s.map intRow)) (hq : IsRows w (.slice b ls.length d) 1 (ls.map intRow)) :
  Calls Tryz.prog 12 #[.agg #[.int .i64 x.B,.slice x.da x.D.length x.dc,.slice x.la x.L.length x.lc,.int .i64 x.tol],.slice a s.length c,.slice b ls.length d] w (LisEPost (matL x (val s) ls) 0 w):=by
 have E : Ext [] w w:=Ext.refl _ _
 have HX:=Lib.hid h
 have HV:=Lib.hid hv
 have HR:=Lib.hid hr
 have HQ:=Lib.hid hq
 have HL:=Lib.hid hl
 have HS:=Lib.hid hs
 have hd4:=hv.d4
 obtain ⟨T,hT⟩ : ∃ T,T = matL x (val s) ls:=⟨_,rfl⟩
 have HM : RowKit.Hid (∀ t ∈ T,t.length = x.D.length ∧ TubS (val t)):=Lib.hid (fun t ht=>mat_mem hv (by rw [← hT];exact ht))
 have htl : T.length ≤ 500:=by rw [hT];exact mat_len hv
 clear h hv hr hq hl hs
 refine calls_hasM 36 Tryz.func12 rfl Tryz.ntmps12 (Nat.le_of_ble_eq_true rfl) ?_
 intro fa F
 refine wp_seq_k fun K1 hK1=>?_
 refine wp_region_lit ?_
 refine sq_new F rfl (by decide) rfl (R_box rfl (F.at rfl)) ?_;clear F fa;intro fa w1 F hw
 obtain ⟨n3,hn⟩ : ∃ n,n = w.heap.size:=⟨_,rfl⟩
 rw [← hn] at F
 have s3 : w.heap.size ≤ n3:=Nat.le_of_eq hn.symm
 have l3_E : w.heap.size ≤ n3:=by rw [hn];exact E.size
 replace E:=ext_alloc E hw
 have q3:=new_row hw hn
 clear hw hn
 refine F.vl (R_assign rfl (ev_c fa _)) ?_;clear F fa;intro fa F
 refine sq_new F rfl (by decide) rfl (R_alloc rfl Tryz.zeroValue35) ?_;clear F fa;intro fa w2 F hw
 obtain ⟨n7,hn⟩ : ∃ n,n = w1.heap.size:=⟨_,rfl⟩
 rw [← hn] at F
 have s7 : w1.heap.size ≤ n7:=Nat.le_of_eq hn.symm
 have l7_E : w.heap.size ≤ n7:=by rw [hn];exact E.size
 have m7_3 : n3 < n7:=by rw [hn];exact blk_lt q3
 replace q3:=keep_alloc hw q3
 replace E:=ext_alloc E hw
 have q7:=new_one hw rfl hn
 clear hw hn
 refine wpList_nil ?_
 refine hK1 _ _ ?_
 clear hK1
 refine wp_seq_k fun K2 hK2=>?_
 refine wp_region_lit ?_
 refine sq_defer F rfl rfl (R_defer rfl rfl (mpS (F.at rfl) mp0)) ?_;clear F fa;intro fa F
 refine wpList_nil ?_
 refine hK2 _ _ ?_
 clear hK2
 refine wp_seq_k fun K3 hK3=>?_
 refine wp_region_lit ?_
 refine F.vl (R_loadBlk rfl (F.at rfl) Tryz.underlying24 rfl (by kernel_rfl) q3) ?_;clear F fa;intro fa F
 refine sq_call F rfl (by decide) rfl (R_callV rfl rfl Tryz.call40 (mpS (F.at rfl) mp0)) (begin_ok x HV.out _ (HX.out.ext E)) fun e w3 hR=>?_
 obtain ⟨rfl,e9⟩:=hR
 refine ⟨_,rfl,?_⟩;clear F fa;intro fa F
 replace q3:=(e9).keep0 q3
 replace q7:=(e9).keep0 q7
 replace E:=ext_same E (e9)
 clear e9
 refine sq_new F rfl (by decide) rfl (R_alloc rfl Tryz.zeroValue69) ?_;clear F fa;intro fa w4 F hw
 obtain ⟨n8,hn⟩ : ∃ n,n = w3.heap.size:=⟨_,rfl⟩
 rw [← hn] at F
 have s8 : w3.heap.size ≤ n8:=Nat.le_of_eq hn.symm
 have l8_E : w.heap.size ≤ n8:=by rw [hn];exact E.size
 have m8_3 : n3 < n8:=by rw [hn];exact blk_lt q3
 have m8_7 : n7 < n8:=by rw [hn];exact blk_lt q7
 replace q3:=keep_alloc hw q3
 replace q7:=keep_alloc hw q7
 replace E:=ext_alloc E hw
 have q8:=new_row hw hn
 clear hw hn
 refine sq_to rfl rfl (R_storeRow rfl (F.at rfl) (F.at rfl) (by kernel_rfl) (by first | (simp [Value.oneCell'];done) | (simp [Value.oneCell',tubR];done)) q8 rfl) ?_;intro w5 hw
 replace q3:=keep_cells hw q3 (by omega)
 replace q7:=keep_cells hw q7 (by omega)
 replace q8:=put_row hw q8 rfl
 replace E:=ext_cells E hw (fun h=>by first | exact absurd h (by omega) | simp)
 clear hw
 refine wpList_nil ?_
 refine hK3 _ _ ?_
 clear hK3
 refine wp_seq_k fun K4 hK4=>?_
 refine wp_region_lit ?_
 refine F.vl (R_loadBlk rfl (F.at rfl) Tryz.underlying69 rfl (by kernel_rfl) q8) ?_;clear F fa;intro fa F
 refine F.mv ?_;clear F fa;intro fa F
 refine sq_call F rfl (by decide) rfl (R_callV rfl rfl Tryz.call41 (mpS (F.at rfl) (mpS (F.at rfl) mp0))) (sample_ok x HV.out s HS.out a c _ (HR.out.ext E (by simp))) fun e w6 hR=>?_
 obtain ⟨rfl,e9⟩:=hR
 refine ⟨_,rfl,?_⟩;clear F fa;intro fa F
 replace q3:=(e9).keep0 q3
 replace q7:=(e9).keep0 q7
 replace q8:=(e9).keep0 q8
 replace E:=ext_same E (e9)
 clear e9
 refine wpList_nil ?_
 refine hK4 _ _ ?_
 clear hK4
 refine wp_seq_k fun K5 hK5=>?_
 refine wp_region_lit ?_
 refine F.vl (R_loadBlk rfl (F.at rfl) Tryz.underlying69 rfl (by kernel_rfl) q8) ?_;clear F fa;intro fa F
 refine F.mv ?_;clear F fa;intro fa F
 refine sq_call F rfl (by decide) rfl (R_callV rfl rfl Tryz.call42 (mpS (F.at rfl) (mpS (F.at rfl) mp0))) (lamps_ok x HV.out ls HL.out hll b d _ (HX.out.ext E) (HQ.out.ext E (by simp))) fun e w7 hR=>?_
 obtain ⟨rfl,e9⟩:=hR
 refine ⟨_,rfl,?_⟩;clear F fa;intro fa F
 replace q3:=(e9).keep0 q3
 replace q7:=(e9).keep0 q7
 replace q8:=(e9).keep0 q8
 replace E:=ext_same E (e9)
 clear e9
 refine wpList_nil ?_
 refine hK5 _ _ ?_
 clear hK5
 refine wp_seq_k fun K6 hK6=>?_
 refine wp_seq_k fun K7 hK7=>?_
 refine wp_region_lit ?_
 refine F.vl (R_loadBlk rfl (F.at rfl) Tryz.underlying69 rfl (by kernel_rfl) q8) ?_;clear F fa;intro fa F
 refine F.mv ?_;clear F fa;intro fa F
 refine F.mv ?_;clear F fa;intro fa F
 refine sq_call F rfl (by decide) rfl (R_callV rfl rfl Tryz.call43 (mpS (F.at rfl) (mpS (F.at rfl) (mpS (F.at rfl) mp0)))) (matching_ok x HV.out s HS.out ls HL.out.2.1 hll a b c d _ (HX.out.ext E) (HR.out.ext E (by simp)) (HQ.out.ext E (by simp))) fun e w8 hR=>?_
 obtain ⟨ma,mc,rfl,om,e9⟩:=hR
 refine ⟨_,rfl,?_⟩;clear F fa;intro fa F
 replace q3:=(e9).keep0 q3
 replace q7:=(e9).keep0 q7
 replace q8:=(e9).keep0 q8
 replace E:=ext_same E (e9)
 clear e9
 rw [← hT] at F om
 have HT:=Lib.hid (slAt_of_tubs om rfl [] (by simp))
 clear om
 have E9 : Ext [] w8 w8:=Ext.refl _ _
 obtain ⟨wR,hwR⟩ : ∃ wR,wR = w8:=⟨_,rfl⟩
 have ER : Ext [] wR w8:=by rw [hwR];exact Ext.refl _ _
 have h9R : w8.heap.size ≤ wR.heap.size:=by rw [hwR];exact Nat.le_refl _
 have hwR0 : w.heap.size ≤ wR.heap.size:=by rw [hwR];exact E.size
 refine F.vl (R_len rfl rfl (F.at rfl) Tryz.underlying72) ?_;clear F fa;intro fa F
 refine F.vl (R_move rfl (ev_c fa _)) ?_;clear F fa;intro fa F
 refine wpList_nil ?_
 have oo : w8.ownsRow wR.heap.size 25 1 (.slice none 0 0) 0 (([] : List (Value × List Int)).map (·.1)):=World.ownsRow_nil _ _ _ _
 have fam : FamT w8 wR.heap.size []:=fam_nil _ _
 refine hK7 _ _ ?_
 clear hK7
 refine wp_block ?_
 have F0:=F.sub (.c 7 rfl (.c 8 rfl (.c 22 rfl (.c 23 rfl .n))))
 refine lp_for F0 (T.length) (fun i Lv W=>∃ va : Option Addr,∃ vc : Nat,∃ O : List (Value × List Int),Lv = [(6,.slice va O.length vc),(24,.int .i64 ((i : Nat) : Int))] ∧ Ext [] w W ∧ Ext [] w8 W ∧ Ext [] wR W ∧ W.heap[n3]? = some (.cells #[.int .i64 x.B,.slice x.da x.D.length x.dc,.slice x.la x.L.length x.lc,.int .i64 x.tol] 24 (0,0)) ∧ W.heap[n7]? = some (.cells #[.int .i64 0] 35 (0,0)) ∧ W.heap[n8]? = some (.cells #[.int .i64 x.B,.slice x.da x.D.length x.dc,.slice x.la x.L.length x.lc,.int .i64 x.tol] 69 (0,0)) ∧ W.ownsRow wR.heap.size 25 1 (.slice va O.length vc) O.length (O.map (·.1)) ∧ FamT W wR.heap.size O ∧ O.map (·.2) = T.take i) ⟨_,⟨none,0,[],rfl,E,E9,ER,q3,q7,q8,oo,fam,rfl⟩,F.sub (.c 6 rfl (.c 24 rfl (.c 7 rfl (.c 8 rfl (.c 22 rfl (.c 23 rfl .n))))))⟩ ?_
 clear F F0
 clear E E9 ER q3 q7 q8
 clear oo
 clear fam
 rintro i _ fa w9 hi1 ⟨va,vc,O,rfl,E,E9,ER,q3,q7,q8,oo,fam,hO⟩ F
 have hOl : O.length = i:=by have:=congrArg List.length hO;simp only [List.length_map,List.length_take] at this;omega
 refine wp_seq_k fun K8 hK8=>?_
 refine wp_region_lit ?_
 refine F.vl (R_lss rfl (F.at rfl) (F.at rfl)) ?_;clear F fa;intro fa F
 refine wpList_nil ?_
 refine hK8 _ _ ?_
 clear hK8
 refine wp_seq_k fun K9 hK9=>?_
 refine cd_if F rfl (fun hc25=>?_) (fun hc25=>?_)
 ·skip
  refine wp_skip ?_
  refine hK9 _ _ ?_
  clear hK9
  refine wp_seq_k fun K10 hK10=>?_
  refine wp_block ?_
  refine wp_seq_k fun K11 hK11=>?_
  refine wp_region_lit ?_
  obtain ⟨xb12,xo12,xa12,xr12⟩:=HT.out i (by omega)
  refine F.vl (R_ixSlice (sz:=4) rfl ((F.at rfl).trans (xa12 _ _)) (F.at rfl) Tryz.underlying72 (by kernel_rfl) (by omega) (by omega)) ?_;clear F fa;intro fa F
  refine F.vl (R_loadRow rfl (F.at rfl) Tryz.underlying75 rfl (by kernel_rfl) (xr12 _ E9)) ?_;clear F fa;intro fa F
  refine sq_new F rfl (by decide) rfl (R_alloc rfl Tryz.zeroValue75) ?_;clear F fa;intro fa w10 F hw
  obtain ⟨n10,hn⟩ : ∃ n,n = w9.heap.size:=⟨_,rfl⟩
  rw [← hn] at F
  have s10 : w9.heap.size ≤ n10:=Nat.le_of_eq hn.symm
  have l10_E : w.heap.size ≤ n10:=by rw [hn];exact E.size
  have l10_E9 : w8.heap.size ≤ n10:=by rw [hn];exact E9.size
  have l10_ER : wR.heap.size ≤ n10:=by rw [hn];exact ER.size
  have m10_3 : n3 < n10:=by rw [hn];exact blk_lt q3
  have m10_7 : n7 < n10:=by rw [hn];exact blk_lt q7
  have m10_8 : n8 < n10:=by rw [hn];exact blk_lt q8
  have o10_oo:=Lib.hid (own_ne_new oo hn)
  replace oo:=owns_alloc hw oo
  replace fam:=fam_lift fam fun _ _ _ h=>owns_alloc hw h
  replace q3:=keep_alloc hw q3
  replace q7:=keep_alloc hw q7
  replace q8:=keep_alloc hw q8
  replace E:=ext_alloc E hw
  replace E9:=ext_alloc E9 hw
  replace ER:=ext_alloc ER hw
  have q10:=new_row hw hn
  clear hw hn
  refine sq_to rfl rfl (R_storeRow rfl (F.at rfl) (F.at rfl) (by kernel_rfl) (by first | (simp [Value.oneCell'];done) | (simp [Value.oneCell',tubR];done)) q10 rfl) ?_;intro w11 hw
  replace oo:=owns_cellsX hw oo (own_ne_type oo q10 (by decide))
  replace fam:=fam_lift fam fun _ _ _ h=>owns_cellsX hw h (own_ne_type h q10 (by decide))
  replace q3:=keep_cells hw q3 (by omega)
  replace q7:=keep_cells hw q7 (by omega)
  replace q8:=keep_cells hw q8 (by omega)
  replace q10:=put_row hw q10 rfl
  replace E:=ext_cells E hw (fun h=>by first | exact absurd h (by omega) | simp)
  replace E9:=ext_cells E9 hw (fun h=>by first | exact absurd h (by omega) | simp)
  replace ER:=ext_cells ER hw (fun h=>by first | exact absurd h (by omega) | simp)
  clear hw
  refine wpList_nil ?_
  have hts:=HM.out (T.getD i []) (getD_memL [] (by omega))
  replace q10 : w11.heap[n10]? = some (.cells (tubC (val (T.getD i []))) 75 (0,0)):=q10
  refine hK11 _ _ ?_
  clear hK11
  refine wp_region_lit ?_
  refine F.mv ?_;clear F fa;intro fa F
  refine F.vl (R_loadBlk rfl (F.at rfl) Tryz.underlying69 rfl (by kernel_rfl) q8) ?_;clear F fa;intro fa F
  refine F.vl (R_loadBlk rfl (F.at rfl) Tryz.underlying75 rfl (by kernel_rfl) q10) ?_;clear F fa;intro fa F
  have hflt:=Lib.hid (fam_lt fam)
  obtain ⟨B1,hB1⟩ : ∃ B1,B1 = w11.heap.size:=⟨_,rfl⟩
  rw [← hB1] at hflt
  have hB1w : wR.heap.size ≤ B1:=by rw [hB1];exact ER.size
  refine sq_call F rfl (by decide) rfl (R_callV rfl rfl Tryz.call44 (mpS (F.at rfl) (mpS (F.at rfl) mp0))) (cut_ok x HV.out (val (T.getD i [])) _) fun e w12 hR=>?_
  obtain ⟨ra,rc,rfl,ro,e9⟩:=hR
  refine ⟨_,rfl,?_⟩;clear F fa;intro fa F
  replace oo:=owns_ext oo (e9) (by simp)
  replace fam:=fam_lift fam fun _ _ _ h=>owns_ext h (e9) (by simp)
  replace q3:=(e9).keep0 q3
  replace q7:=(e9).keep0 q7
  replace q8:=(e9).keep0 q8
  replace q10:=(e9).keep0 q10
  replace E:=ext_same E (e9)
  replace E9:=ext_same E9 (e9)
  replace ER:=ext_same ER (e9)
  clear e9
  rw [← hB1,cutL_val hts.1] at ro
  have fam2:=fam_perm (fam_join (b1:=B1) (L:=[(Value.slice ra x.D.length rc,T.getD i [])]) ⟨fun p hp=>(by obtain rfl : p = (Value.slice ra x.D.length rc,T.getD i []):=(by simpa using hp);rw [show ((Value.slice ra x.D.length rc,T.getD i []) : Value × List Int).2.length = x.D.length from hts.1];exact ro),List.pairwise_singleton _ _⟩ fam hflt.out hB1w) (M:=O ++ [(Value.slice ra x.D.length rc,T.getD i [])]) List.perm_append_comm
  clear fam ro
  have fam:=fam2
  clear fam2
  obtain ⟨P,hP⟩ : ∃ P,P = O ++ [(Value.slice ra x.D.length rc,T.getD i [])]:=⟨_,rfl⟩
  have hPl : O.length + 1 = P.length:=by rw [hP,List.length_append];rfl
  have hO3 : P.map (·.2) = T.take (i + 1):=by rw [hP,List.map_append,hO,take_getD T [] (by omega)];rfl
  rw [← hP] at fam
  refine sq_new F rfl (by decide) rfl (R_buildSliceV rfl (prS (F.at rfl) pr0) Tryz.underlying22 (size:=1) (by kernel_rfl) (by decide) (by decide) Tryz.zeroValue25 (cells:=#[.slice ra x.D.length rc]) (by kernel_rfl)) ?_;clear F fa;intro fa w13 F hw
  obtain ⟨n32,hn⟩ : ∃ n,n = w12.heap.size:=⟨_,rfl⟩
  rw [← hn] at F
  have s32 : w12.heap.size ≤ n32:=Nat.le_of_eq hn.symm
  have l32_E : w.heap.size ≤ n32:=by rw [hn];exact E.size
  have l32_E9 : w8.heap.size ≤ n32:=by rw [hn];exact E9.size
  have l32_ER : wR.heap.size ≤ n32:=by rw [hn];exact ER.size
  have m32_3 : n3 < n32:=by rw [hn];exact blk_lt q3
  have m32_7 : n7 < n32:=by rw [hn];exact blk_lt q7
  have m32_8 : n8 < n32:=by rw [hn];exact blk_lt q8
  have m32_10 : n10 < n32:=by rw [hn];exact blk_lt q10
  have o32_oo:=Lib.hid (own_ne_new oo hn)
  replace oo:=owns_alloc hw oo
  replace fam:=fam_lift fam fun _ _ _ h=>owns_alloc hw h
  replace q3:=keep_alloc hw q3
  replace q7:=keep_alloc hw q7
  replace q8:=keep_alloc hw q8
  replace q10:=keep_alloc hw q10
  replace E:=ext_alloc E hw
  replace E9:=ext_alloc E9 hw
  replace ER:=ext_alloc ER hw
  have q32:=new_block hw hn
  clear hw hn
  have hEs:=ER.size
  refine sq_some F rfl (by decide) rfl (append_run rfl (wR.heap.size) (e:=25) (size:=1) (bytes:=24) Tryz.underlying22 (by kernel_rfl) (by decide) (F.at rfl) oo (F.at rfl) q32 rfl (by simp [Value.oneCell']) (by omega) (by omega) (by omega)) ?_;clear F fa;rintro fa v' w14 F ⟨hown',hg⟩
  obtain ⟨va33,vc33,rfl⟩:=owns_slice hown'
  replace q3:=keep_type oo hg q3 (by decide)
  replace q7:=keep_type oo hg q7 (by decide)
  replace q8:=keep_type oo hg q8 (by decide)
  replace q10:=(hg.block n10 (blk_lt q10) o10_oo.out).trans q10
  replace fam:=fam_lift fam fun _ _ _ h=>owns_other h oo hg (by decide)
  replace E:=ext_appendX E oo hg (by omega)
  replace E9:=ext_appendX E9 oo hg (by omega)
  replace ER:=ext_appendX ER oo hg (by omega)
  replace oo:=hown'
  clear hg
  rw [show O.map (·.1) ++ [Value.slice ra x.D.length rc] = P.map (·.1) by rw [hP,List.map_append];rfl,hPl] at oo
  rw [hPl] at F
  refine F.as ?_;clear F fa;intro fa F
  refine wpList_nil ?_
  refine hK10 _ _ ?_
  clear hK10
  refine wp_region_lit ?_
  refine F.vl (R_add rfl (F.at rfl) (ev_c fa _) (by omega) (by omega)) ?_;clear F fa;intro fa F
  refine F.mv ?_;clear F fa;intro fa F
  refine wpList_nil ?_
  show _ ∧ _
  exact ⟨by omega,_,⟨_,_,_,rfl,E,E9,ER,q3,q7,q8,oo,fam,hO3⟩,F.sub (.c 6 rfl (.c 24 rfl (.c 7 rfl (.c 8 rfl (.c 22 rfl (.c 23 rfl .n))))))⟩
 ·skip
  refine wp_exit ?_
  rw [List.take_of_length_le (show T.length ≤ i by omega)] at hO
  refine hK6 _ _ ?_
  clear hK6
  refine wp_seq_k fun K13 hK13=>?_
  refine wp_region_lit ?_
  refine F.mv ?_;clear F fa;intro fa F
  refine F.as ?_;clear F fa;intro fa F
  refine sq_to rfl rfl (R_store rfl (F.at rfl) (ev_c fa _) rfl (by kernel_rfl) ((cells_of_block q7 0).trans (get0)) (free_of_block q7 0)) ?_;intro w15 hw
  replace oo:=owns_cellX hw oo (own_ne_type oo q7 (by decide))
  replace fam:=fam_lift fam fun _ _ _ h=>owns_cellX hw h (own_ne_type h q7 (by decide))
  replace q3:=keep_cell hw q3 (by omega)
  replace q7:=put_cell hw q7 (by simp only [List.setIfInBounds_toArray,lsQ,lzQ];exact rfl)
  replace q8:=keep_cell hw q8 (by omega)
  replace E:=ext_cell E hw (fun h=>by first | exact absurd h (by omega) | simp)
  clear hw
  refine wpList_nil ?_
  refine hK13 _ _ ?_
  clear hK13
  refine wp_ret ?_
  (try simp only [Exit.inBlock,Exit.then,reduceIte])
  refine rtM_v F ?_
  refine lv_caught ?_
  refine lv_nil (rs_tc F rfl rfl rfl Tryz.underlying35 rfl q7) ?_
  exact ⟨O,va,vc,rfl,hO.trans hT,owns_lower oo hwR0,fam_lower fam hwR0,E⟩
def Vm.tolN (x : Vm) (n : Int) : Vm:={ x with tol:=n }
theorem VOk.tolN {x : Vm} (h : VOk x) {n : Int} (h0 : 0 ≤ n) (h12 : n ≤ 12) : VOk (x.tolN n):=
 { h with
  chk:=by
   have e:=h.chk
   unfold chkE at e ⊢
   show (if outB x.B 1 3 = true then _ else _) = (0 : Int)
   have ho : outB n 0 12 = false:=outB_no.2 ⟨h0,h12⟩
   have hx : outB x.tol 0 12 = false:=outB_no.2 ⟨h.t0,h.t12⟩
   rw [show (x.tolN n).tol = n from rfl,ho]
   rw [hx] at e
   exact e
  t0:=h0
  t12:=h12 }
theorem Vm.At.tolN {x : Vm} {w : World} (h : x.At w) (n : Int) : (x.tolN n).At w:=⟨h.d,h.l⟩
def NeedPost (x : Vm) (s ls : List Int) (w : World) (e : Ending) (w' : World) : Prop:=∃ n : Nat,∃ er : Int,e = .returned (.tuple #[.int .i64 (n : Nat),.int .i64 er]) ∧
 ((er = 0 ∧ n ≤ 12 ∧ matL (x.tolN (n : Nat)) (val s) ls ≠ [] ∧ ∀ k : Nat,k < n → matL (x.tolN (k : Nat)) (val s) ls = []) ∨ (er = 11 ∧ n = 0 ∧ ∀ k : Nat,k ≤ 12 → matL (x.tolN (k : Nat)) (val s) ls = [])) ∧ Ext [] w w'
set_option maxRecDepth 100000 in
set_option maxHeartbeats 2000000 in
theorem xNeed_ok (x : Vm) (hv : VOk x) (s : List Int) (hs : SmpOk x s) (ls : List Int) (hl : LmpsOk x ls) (hll : ls.length ≤ 1000) (a b : Option Addr) (c d : Nat) (w : World) (h : x.At w) (hr : IsRows w (.slice a s.length c) 1 (s.map intRow)) (hq : IsRows w (.slice b ls.length d) 1 (ls.map intRow)) :
  Calls Tryz.prog 18 #[.agg #[.int .i64 x.B,.slice x.da x.D.length x.dc,.slice x.la x.L.length x.lc,.int .i64 x.tol],.slice a s.length c,.slice b ls.length d] w (NeedPost x s ls w):=by
 have E : Ext [] w w:=Ext.refl _ _
 have HX:=Lib.hid h
 have HV:=Lib.hid hv
 have HR:=Lib.hid hr
 have HQ:=Lib.hid hq
 have HL:=Lib.hid hl
 have HS:=Lib.hid hs
 clear h hv hr hq hl hs
 refine calls_hasM 32 Tryz.func18 rfl Tryz.ntmps18 (Nat.le_of_ble_eq_true rfl) ?_
 intro fa F
 refine wp_seq_k fun K1 hK1=>?_
 refine wp_region_lit ?_
 refine sq_new F rfl (by decide) rfl (R_box rfl (F.at rfl)) ?_;clear F fa;intro fa w1 F hw
 obtain ⟨n3,hn⟩ : ∃ n,n = w.heap.size:=⟨_,rfl⟩
 rw [← hn] at F
 have s3 : w.heap.size ≤ n3:=Nat.le_of_eq hn.symm
 have l3_E : w.heap.size ≤ n3:=by rw [hn];exact E.size
 replace E:=ext_alloc E hw
 have q3:=new_row hw hn
 clear hw hn
 refine F.vl (R_assign rfl (ev_c fa _)) ?_;clear F fa;intro fa F
 refine sq_new F rfl (by decide) rfl (R_alloc rfl Tryz.zeroValue35) ?_;clear F fa;intro fa w2 F hw
 obtain ⟨n7,hn⟩ : ∃ n,n = w1.heap.size:=⟨_,rfl⟩
 rw [← hn] at F
 have s7 : w1.heap.size ≤ n7:=Nat.le_of_eq hn.symm
 have l7_E : w.heap.size ≤ n7:=by rw [hn];exact E.size
 have m7_3 : n3 < n7:=by rw [hn];exact blk_lt q3
 replace q3:=keep_alloc hw q3
 replace E:=ext_alloc E hw
 have q7:=new_one hw rfl hn
 clear hw hn
 refine wpList_nil ?_
 refine hK1 _ _ ?_
 clear hK1
 refine wp_scope_late 0 (by exact rfl) fun JJ HJJ=>?_
 refine wp_seq_k fun K2 hK2=>?_
 refine wp_region_lit ?_
 refine sq_defer F rfl rfl (R_defer rfl rfl (mpS (F.at rfl) mp0)) ?_;clear F fa;intro fa F
 refine wpList_nil ?_
 refine hK2 _ _ ?_
 clear hK2
 refine wp_seq_k fun K3 hK3=>?_
 refine wp_region_lit ?_
 refine F.vl (R_loadBlk rfl (F.at rfl) Tryz.underlying24 rfl (by kernel_rfl) q3) ?_;clear F fa;intro fa F
 refine sq_call F rfl (by decide) rfl (R_callV rfl rfl Tryz.call40 (mpS (F.at rfl) mp0)) (begin_ok x HV.out _ (HX.out.ext E)) fun e w3 hR=>?_
 obtain ⟨rfl,e9⟩:=hR
 refine ⟨_,rfl,?_⟩;clear F fa;intro fa F
 replace q3:=(e9).keep0 q3
 replace q7:=(e9).keep0 q7
 replace E:=ext_same E (e9)
 clear e9
 refine sq_new F rfl (by decide) rfl (R_alloc rfl Tryz.zeroValue69) ?_;clear F fa;intro fa w4 F hw
 obtain ⟨n8,hn⟩ : ∃ n,n = w3.heap.size:=⟨_,rfl⟩
 rw [← hn] at F
 have s8 : w3.heap.size ≤ n8:=Nat.le_of_eq hn.symm
 have l8_E : w.heap.size ≤ n8:=by rw [hn];exact E.size
 have m8_3 : n3 < n8:=by rw [hn];exact blk_lt q3
 have m8_7 : n7 < n8:=by rw [hn];exact blk_lt q7
 replace q3:=keep_alloc hw q3
 replace q7:=keep_alloc hw q7
 replace E:=ext_alloc E hw
 have q8:=new_row hw hn
 clear hw hn
 refine sq_to rfl rfl (R_storeRow rfl (F.at rfl) (F.at rfl) (by kernel_rfl) (by first | (simp [Value.oneCell'];done) | (simp [Value.oneCell',id];done)) q8 rfl) ?_;intro w5 hw
 replace q3:=keep_cells hw q3 (by omega)
 replace q7:=keep_cells hw q7 (by omega)
 replace q8:=put_row hw q8 rfl
 replace E:=ext_cells E hw (fun h=>by first | exact absurd h (by omega) | simp)
 clear hw
 refine wpList_nil ?_
 refine hK3 _ _ ?_
 clear hK3
 refine wp_seq_k fun K4 hK4=>?_
 refine wp_region_lit ?_
 refine F.vl (R_loadBlk rfl (F.at rfl) Tryz.underlying69 rfl (by kernel_rfl) q8) ?_;clear F fa;intro fa F
 refine F.mv ?_;clear F fa;intro fa F
 refine sq_call F rfl (by decide) rfl (R_callV rfl rfl Tryz.call41 (mpS (F.at rfl) (mpS (F.at rfl) mp0))) (sample_ok x HV.out s HS.out a c _ (HR.out.ext E (by simp))) fun e w6 hR=>?_
 obtain ⟨rfl,e9⟩:=hR
 refine ⟨_,rfl,?_⟩;clear F fa;intro fa F
 replace q3:=(e9).keep0 q3
 replace q7:=(e9).keep0 q7
 replace q8:=(e9).keep0 q8
 replace E:=ext_same E (e9)
 clear e9
 refine wpList_nil ?_
 refine hK4 _ _ ?_
 clear hK4
 refine wp_seq_k fun K5 hK5=>?_
 refine wp_region_lit ?_
 refine F.vl (R_loadBlk rfl (F.at rfl) Tryz.underlying69 rfl (by kernel_rfl) q8) ?_;clear F fa;intro fa F
 refine F.mv ?_;clear F fa;intro fa F
 refine sq_call F rfl (by decide) rfl (R_callV rfl rfl Tryz.call42 (mpS (F.at rfl) (mpS (F.at rfl) mp0))) (lamps_ok x HV.out ls HL.out hll b d _ (HX.out.ext E) (HQ.out.ext E (by simp))) fun e w7 hR=>?_
 obtain ⟨rfl,e9⟩:=hR
 refine ⟨_,rfl,?_⟩;clear F fa;intro fa F
 replace q3:=(e9).keep0 q3
 replace q7:=(e9).keep0 q7
 replace q8:=(e9).keep0 q8
 replace E:=ext_same E (e9)
 clear e9
 refine wpList_nil ?_
 refine hK5 _ _ ?_
 clear hK5
 refine wp_seq_k fun K6 hK6=>?_
 refine wp_region_lit ?_
 refine F.vl (R_assign rfl (ev_c fa _)) ?_;clear F fa;intro fa F
 refine wpList_nil ?_
 refine hK6 _ _ ?_
 clear hK6
 refine wp_seq_k fun K7 hK7=>?_
 refine wp_label ?_
 refine hK7 _ _ ?_
 clear hK7
 refine HJJ (fun kk fa W=>∃ i : Nat,i + kk = 12 ∧ ∃ tl : Int,Has 32 [{ target:=.fn (.func 39) #[],args:=#[.pointer (some ⟨n7,0,none⟩)] }] fa [(1,.slice a s.length c),(2,.slice b ls.length d),(7,.pointer (some ⟨n7,0,none⟩)),(8,.pointer (some ⟨n8,0,none⟩)),(9,.int .i64 ((i : Nat) : Int))] ∧ W.heap[n3]? = some (.cells #[.int .i64 x.B,.slice x.da x.D.length x.dc,.slice x.la x.L.length x.lc,.int .i64 x.tol] 24 (0,0)) ∧ W.heap[n7]? = some (.cells #[.int .i64 0] 35 (0,0)) ∧ W.heap[n8]? = some (.cells #[.int .i64 x.B,.slice x.da x.D.length x.dc,.slice x.la x.L.length x.lc,.int .i64 tl] 69 (0,0)) ∧ Ext [] w W ∧ RowKit.Hid (∀ k : Nat,k < i → matL (x.tolN (k : Nat)) (val s) ls = [])) ?_ (12) _ _ ⟨0,by omega,x.tol,F.sub (.c 1 rfl (.c 2 rfl (.c 7 rfl (.c 8 rfl (.c 9 rfl .n))))),q3,q7,q8,E,Lib.hid (fun k hk=>absurd hk (by omega))⟩
 clear F q3 q7 q8 E fa
 rintro kk fa w8 ⟨i,hik,tl,F,q3,q7,q8,E,HN⟩
 refine wp_seq_k fun K8 hK8=>?_
 refine wp_region_lit ?_
 refine F.mv ?_;clear F fa;intro fa F
 refine F.vl (R_field rfl (F.at rfl) Tryz.underlying69 rfl (n:=0) (sz:=4) rfl (by kernel_rfl) (by decide)) ?_;clear F fa;intro fa F
 refine F.vl (R_field rfl (F.at rfl) Tryz.underlying24 rfl (n:=3) (sz:=1) rfl (by kernel_rfl) (by decide)) ?_;clear F fa;intro fa F
 refine sq_to rfl rfl (R_store rfl (F.at rfl) (F.at rfl) rfl (by kernel_rfl) ((cells_of_block q8 3).trans (getS (getS (getS (get0))))) (free_of_block q8 3)) ?_;intro w9 hw
 replace q3:=keep_cell hw q3 (by omega)
 replace q7:=keep_cell hw q7 (by omega)
 replace q8:=put_cell hw q8 (by simp only [List.setIfInBounds_toArray,lsQ,lzQ];exact rfl)
 replace E:=ext_cell E hw (fun h=>by first | exact absurd h (by omega) | simp)
 clear hw
 refine wpList_nil ?_
 refine hK8 _ _ ?_
 clear hK8
 refine wp_seq_k fun K9 hK9=>?_
 refine wp_seq_k fun K10 hK10=>?_
 refine wp_region_lit ?_
 refine F.vl (R_loadBlk rfl (F.at rfl) Tryz.underlying69 rfl (by kernel_rfl) q8) ?_;clear F fa;intro fa F
 refine F.mv ?_;clear F fa;intro fa F
 refine F.mv ?_;clear F fa;intro fa F
 refine sq_call F rfl (by decide) rfl (R_callV rfl rfl Tryz.call43 (mpS (F.at rfl) (mpS (F.at rfl) (mpS (F.at rfl) mp0)))) (matching_ok (x.tolN (i : Nat)) (HV.out.tolN (by omega) (by omega)) s HS.out ls HL.out.2.1 hll a b c d _ ((HX.out.ext E).tolN _) (HR.out.ext E (by simp)) (HQ.out.ext E (by simp))) fun e w10 hR=>?_
 obtain ⟨ma,mc,rfl,om,e9⟩:=hR
 refine ⟨_,rfl,?_⟩;clear F fa;intro fa F
 replace q3:=(e9).keep0 q3
 replace q7:=(e9).keep0 q7
 replace q8:=(e9).keep0 q8
 replace E:=ext_same E (e9)
 clear e9
 refine F.vl (R_len rfl rfl (F.at rfl) Tryz.underlying72) ?_;clear F fa;intro fa F
 refine F.vl (R_gtr rfl (F.at rfl) (ev_c fa _)) ?_;clear F fa;intro fa F
 refine wpList_nil ?_
 refine hK10 _ _ ?_
 clear hK10
 refine cd_if F rfl (fun hc26=>?_) (fun hc26=>?_)
 ·skip
  refine wp_seq_k fun K11 hK11=>?_
  refine wp_region_lit ?_
  refine F.mv ?_;clear F fa;intro fa F
  refine F.as ?_;clear F fa;intro fa F
  refine sq_to rfl rfl (R_store rfl (F.at rfl) (ev_c fa _) rfl (by kernel_rfl) ((cells_of_block q7 0).trans (get0)) (free_of_block q7 0)) ?_;intro w11 hw
  replace q3:=keep_cell hw q3 (by omega)
  replace q7:=put_cell hw q7 (by simp only [List.setIfInBounds_toArray,lsQ,lzQ];exact rfl)
  replace q8:=keep_cell hw q8 (by omega)
  replace E:=ext_cell E hw (fun h=>by first | exact absurd h (by omega) | simp)
  clear hw
  refine wpList_nil ?_
  refine hK11 _ _ ?_
  clear hK11
  refine wp_ret ?_
  (try simp only [Exit.inBlock,Exit.then,reduceIte])
  refine rtM_v F ?_
  refine lv_caught ?_
  refine lv_nil (rs_tc F rfl rfl rfl Tryz.underlying35 rfl q7) ?_
  exact ⟨i,0,rfl,Or.inl ⟨rfl,by omega,fun h0=>(by rw [h0] at hc26;simp at hc26),HN.out⟩,E⟩
 ·skip
  have HN2 : RowKit.Hid (matL (x.tolN (i : Nat)) (val s) ls = []):=Lib.hid (List.length_eq_zero_iff.1 (by omega))
  refine wp_skip ?_
  refine hK9 _ _ ?_
  clear hK9
  refine wp_seq_k fun K12 hK12=>?_
  refine wp_seq_k fun K13 hK13=>?_
  refine wp_region_lit ?_
  refine F.mv ?_;clear F fa;intro fa F
  refine F.vl (R_add rfl (F.at rfl) (ev_c fa _) (by omega) (by omega)) ?_;clear F fa;intro fa F
  refine F.as ?_;clear F fa;intro fa F
  refine wpList_nil ?_
  refine hK13 _ _ ?_
  clear hK13
  refine wp_seq_k fun K14 hK14=>?_
  refine wp_region_lit ?_
  refine F.mv ?_;clear F fa;intro fa F
  refine F.vl (R_leq rfl (F.at rfl) (ev_c fa _)) ?_;clear F fa;intro fa F
  refine wpList_nil ?_
  refine hK14 _ _ ?_
  clear hK14
  refine cd_if F rfl (fun hc31=>?_) (fun hc31=>?_)
  ·skip
   refine wp_goto ?_
   (try simp only [Exit.inBlock,Exit.then,Exit.jump,reduceIte])
   exact ⟨by trivial,12 - (i + 1),by omega,i + 1,by omega,_,F.sub (.c 1 rfl (.c 2 rfl (.c 7 rfl (.c 8 rfl (.c 9 rfl .n))))),q3,q7,q8,E,Lib.hid (fun k hk=>(by rcases Nat.lt_or_ge k i with h | h;exact HN.out k h;rw [show k = i by omega];exact HN2.out))⟩
  ·skip
   refine wp_skip ?_
   refine hK12 _ _ ?_
   clear hK12
   refine wp_seq_k fun K15 hK15=>?_
   refine wp_region_lit ?_
   refine F.vl (R_assign rfl (ev_c fa _)) ?_;clear F fa;intro fa F
   refine sq_to rfl rfl (R_store rfl (F.at rfl) (ev_c fa _) rfl (by kernel_rfl) ((cells_of_block q7 0).trans (get0)) (free_of_block q7 0)) ?_;intro w12 hw
   replace q3:=keep_cell hw q3 (by omega)
   replace q7:=put_cell hw q7 (by simp only [List.setIfInBounds_toArray,lsQ,lzQ];exact rfl)
   replace q8:=keep_cell hw q8 (by omega)
   replace E:=ext_cell E hw (fun h=>by first | exact absurd h (by omega) | simp)
   clear hw
   refine wpList_nil ?_
   refine hK15 _ _ ?_
   clear hK15
   refine wp_ret ?_
   (try simp only [Exit.inBlock,Exit.then,reduceIte])
   refine rtM_v F ?_
   refine lv_caught ?_
   refine lv_nil (rs_tc F rfl rfl rfl Tryz.underlying35 rfl q7) ?_
   exact ⟨0,11,rfl,Or.inr ⟨rfl,rfl,fun k hk=>(by rcases Nat.lt_or_ge k i with h | h;exact HN.out k h;rw [show k = i by omega];exact HN2.out)⟩,E⟩
theorem snd_getD {α β : Type} (d : α × β) : ∀ (l : List (α × β)) (k : Nat),(l.getD k d).2 = (l.map (·.2)).getD k d.2
 | [],_=>rfl
 | _ :: _,0=>rfl
 | _ :: l,k + 1=>snd_getD d l k
structure SameV (y x : Vm) : Prop where
 B : y.B = x.B
 tol : y.tol = x.tol
 D : y.D.map (·.2) = x.D.map (·.2)
 L : y.L.map (·.2) = x.L.map (·.2)
theorem SameV.dl {y x : Vm} (h : SameV y x) : y.D.length = x.D.length:=by have:=congrArg List.length h.D;simpa using this
theorem SameV.ll {y x : Vm} (h : SameV y x) : y.L.length = x.L.length:=by have:=congrArg List.length h.L;simpa using this
theorem SameV.lamp {y x : Vm} (h : SameV y x) (k : Nat) : y.lamp k = x.lamp k:=by rw [Vm.lamp,Vm.lamp,snd_getD,snd_getD,h.L]
theorem SameV.dye {y x : Vm} (h : SameV y x) (k : Nat) : y.dye k = x.dye k:=by rw [Vm.dye,Vm.dye,snd_getD,snd_getD,h.D]
theorem SameV.ok {y x : Vm} (h : SameV y x) (hv : VOk x) : VOk y where
 chk:=by rw [h.B,h.tol,h.D,h.L];exact hv.chk
 b1:=by rw [h.B];exact hv.b1
 b3:=by rw [h.B];exact hv.b3
 d1:=by rw [h.dl];exact hv.d1
 d4:=by rw [h.dl];exact hv.d4
 dl:=fun p hp=>by
  have hm : p.2 ∈ y.D.map (·.2):=List.mem_map.2 ⟨p,hp,rfl⟩
  rw [h.D] at hm
  obtain ⟨q,hq,he⟩:=List.mem_map.1 hm
  rw [← he,h.B];exact hv.dl q hq
 l1:=by rw [h.ll];exact hv.l1
 l3:=by rw [h.ll];exact hv.l3
 ll:=fun p hp=>by
  have hm : p.2 ∈ y.L.map (·.2):=List.mem_map.2 ⟨p,hp,rfl⟩
  rw [h.L] at hm
  obtain ⟨q,hq,he⟩:=List.mem_map.1 hm
  rw [← he,h.B];exact hv.ll q hq
 t0:=by rw [h.tol];exact hv.t0
 t12:=by rw [h.tol];exact hv.t12
theorem SameV.ton {y x : Vm} (h : SameV y x) (f : Nat → Int) (j : Nat) : ∀ n,tonE y f j n = tonE x f j n
 | 0=>rfl
 | n + 1=>by
  show tonE y f j n + f n * val (y.dye n) j = tonE x f j n + f n * val (x.dye n) j
  rw [h.ton f j n,h.dye]
theorem SameV.off {y x : Vm} (h : SameV y x) (k : Nat) (f s : Nat → Int) : offE y k f s = offE x k f s:=by
 have ht : tnE y f = tnE x f:=funext fun j=>by rw [tnE,tnE,h.dl,h.ton]
 rw [offE,offE,h.lamp,h.B,ht]
theorem SameV.mat {y x : Vm} (h : SameV y x) (s : Nat → Int) (ls : List Int) : matL y s ls = matL x s ls:=by
 rw [matL,matL,h.dl]
 congr 1
 funext t
 rw [cndE,cndE,matE,matE]
 congr 2
 funext l
 rw [h.off,h.tol]
theorem SameV.tolN {y x : Vm} (h : SameV y x) (n : Int) : SameV (y.tolN n) (x.tolN n):=⟨h.B,rfl,h.D,h.L⟩
theorem SameV.smp {y x : Vm} (h : SameV y x) {s : List Int} (hs : SmpOk x s) : SmpOk y s:=⟨by rw [h.B];exact hs.1,hs.2⟩
theorem SmpOk.tolN {x : Vm} {s : List Int} (hs : SmpOk x s) (n : Int) : SmpOk (x.tolN n) s:=hs
theorem LmpsOk.tolN {x : Vm} {s : List Int} (hs : LmpsOk x s) (n : Int) : LmpsOk (x.tolN n) s:=hs
def nearIC (v a b : Int) (s : Bool) : Array Value:=#[.int .i64 v,.int .i64 a,.int .i64 b,.bool s]
set_option maxRecDepth 100000 in
theorem offerI_new (nb : Nat) (v c d u a b : Int) (w : World) (hq : w.heap[nb]? = some (.cells (nearIC v c d false) 95 (0,0))) :
  Calls Tryz.prog 58 #[.pointer (some ⟨nb,0,none⟩),.int .i64 u,.agg #[.int .i64 a,.int .i64 b]] w fun e w'=>e = .returned (.tuple #[]) ∧ w'.heap[nb]? = some (.cells (nearIC u a b true) 95 (0,0)) ∧ Ext [nb] w w':=by
 have E : Ext [nb] w w:=Ext.refl _ _
 have qn : w.heap[nb]? = some (.cells #[.int .i64 v,.int .i64 c,.int .i64 d,.bool false] 95 (0,0)):=hq
 clear hq
 refine calls_has 31 Tryz.func58 rfl Tryz.ntmps58 (Nat.le_of_ble_eq_true rfl) ?_
 intro fa F
 refine wp_seq_k fun K1 hK1=>?_
 refine wp_region_lit ?_
 refine sq_new F rfl (by decide) rfl (R_box rfl (F.at rfl)) ?_;clear F fa;intro fa w1 F hw
 obtain ⟨n5,hn⟩ : ∃ n,n = w.heap.size:=⟨_,rfl⟩
 rw [← hn] at F
 have s5 : w.heap.size ≤ n5:=Nat.le_of_eq hn.symm
 have l5_E : w.heap.size ≤ n5:=by rw [hn];exact E.size
 have m5_n : nb < n5:=by rw [hn];exact blk_lt qn
 replace qn:=keep_alloc hw qn
 replace E:=ext_alloc E hw
 have q5:=new_row hw hn
 clear hw hn
 refine wpList_nil ?_
 refine hK1 _ _ ?_
 clear hK1
 refine wp_seq_k fun K2 hK2=>?_
 refine wp_region_st 11 follows (by kernel_rfl) fun w2 hh eh=>?_
 replace qn:=keep_same hh qn
 replace q5:=keep_same hh q5
 replace E:=ext_same E eh
 clear hh eh
 refine F.smv ?_;clear F fa;intro fa F
 refine F.sv (R_nilCheck rfl (F.at rfl)) ?_;clear F fa;intro fa F
 refine F.sv (R_field rfl (F.at rfl) Tryz.underlying95 rfl (n:=3) (sz:=1) rfl (by kernel_rfl) (by decide)) ?_;clear F fa;intro fa F
 refine F.sv (R_load rfl (F.at rfl) Tryz.underlying4 rfl ((cells_of_block qn 3).trans (getS (getS (getS (get0)))))) ?_;clear F fa;intro fa F
 refine F.sv (R_not rfl (F.at rfl)) ?_;clear F fa;intro fa F
 refine F.smv ?_;clear F fa;intro fa F
 refine st_no F rfl (by decide) (wantF F rfl rfl (by decide) rfl (by decide)) ?_;clear F fa;intro fa F
 refine st_no F rfl (by decide) (wantF F rfl rfl (by decide) rfl (by decide)) ?_;clear F fa;intro fa F
 refine st_no F rfl (by decide) (wantF F rfl rfl (by decide) rfl (by decide)) ?_;clear F fa;intro fa F
 refine st_no F rfl (by decide) (wantF F rfl rfl (by decide) rfl (by decide)) ?_;clear F fa;intro fa F
 refine st_no F rfl (by decide) (wantF F rfl rfl (by decide) rfl (by decide)) ?_;clear F fa;intro fa F
 refine wpStill_nil ?_
 refine sq_no F rfl (by decide) (wantF F rfl rfl (by decide) rfl (by decide)) ?_;clear F fa;intro fa F
 refine sq_no F rfl (by decide) (wantF F rfl rfl (by decide) rfl (by decide)) ?_;clear F fa;intro fa F
 refine F.vl (R_pickT rfl (F.at rfl) (ev_c fa _)) ?_;clear F fa;intro fa F
 refine wpList_nil ?_
 refine hK2 _ _ ?_
 clear hK2
 refine cd_T F rfl ?_
 refine wp_region_lit ?_
 refine F.mv ?_;clear F fa;intro fa F
 refine F.mv ?_;clear F fa;intro fa F
 refine F.mv ?_;clear F fa;intro fa F
 refine F.mv ?_;clear F fa;intro fa F
 refine F.vl (R_loadBlk rfl (F.at rfl) Tryz.underlying79 rfl (by kernel_rfl) q5) ?_;clear F fa;intro fa F
 refine F.vl (R_nilCheck rfl (F.at rfl)) ?_;clear F fa;intro fa F
 refine F.vl (R_field rfl (F.at rfl) Tryz.underlying95 rfl (n:=0) (sz:=1) rfl (by kernel_rfl) (by decide)) ?_;clear F fa;intro fa F
 refine sq_to rfl rfl (R_store rfl (F.at rfl) (F.at rfl) rfl (by kernel_rfl) ((cells_of_block qn 0).trans (get0)) (free_of_block qn 0)) ?_;intro w3 hw
 replace qn:=put_cell hw qn (by simp only [List.setIfInBounds_toArray,lsQ,lzQ];exact rfl)
 replace q5:=keep_cell hw q5 (by omega)
 replace E:=ext_cell E hw (fun h=>by first | exact absurd h (by omega) | simp)
 clear hw
 refine F.vl (R_nilCheck rfl (F.at rfl)) ?_;clear F fa;intro fa F
 refine F.vl (R_field rfl (F.at rfl) Tryz.underlying95 rfl (n:=1) (sz:=2) rfl (by kernel_rfl) (by decide)) ?_;clear F fa;intro fa F
 refine sq_to rfl rfl (R_storeMid rfl (F.at rfl) (F.at rfl) (by kernel_rfl) (by simp [Value.oneCell']) qn (by simp)) ?_;intro w4 hw
 replace qn:=put_mid2 hw qn (by simp only [List.setIfInBounds_toArray,lsQ,lzQ];exact rfl)
 replace q5:=keep_cells hw q5 (by omega)
 replace E:=ext_cells E hw (fun h=>by first | exact absurd h (by omega) | simp)
 clear hw
 refine F.vl (R_nilCheck rfl (F.at rfl)) ?_;clear F fa;intro fa F
 refine F.vl (R_field rfl (F.at rfl) Tryz.underlying95 rfl (n:=3) (sz:=1) rfl (by kernel_rfl) (by decide)) ?_;clear F fa;intro fa F
 refine sq_to rfl rfl (R_store rfl (F.at rfl) (ev_c fa _) rfl (by kernel_rfl) ((cells_of_block qn 3).trans (getS (getS (getS (get0))))) (free_of_block qn 3)) ?_;intro w5 hw
 replace qn:=put_cell hw qn (by simp only [List.setIfInBounds_toArray,lsQ,lzQ];exact rfl)
 replace q5:=keep_cell hw q5 (by omega)
 replace E:=ext_cell E hw (fun h=>by first | exact absurd h (by omega) | simp)
 clear hw
 refine wpList_nil ?_
 (try simp only [Exit.inBlock,Exit.then,reduceIte])
 refine rt_vn F (rs_0 rfl) ?_
 exact ⟨rfl,qn,E⟩
set_option maxRecDepth 100000 in
theorem offerI_old (nb : Nat) (v c d u a b : Int) (w : World) (hq : w.heap[nb]? = some (.cells (nearIC v c d true) 95 (0,0))) :
  Calls Tryz.prog 58 #[.pointer (some ⟨nb,0,none⟩),.int .i64 u,.agg #[.int .i64 a,.int .i64 b]] w fun e w'=>e = .returned (.tuple #[]) ∧ w'.heap[nb]? = some (.cells (if cmpL [a,b] [c,d] < 0 then nearIC u a b true else nearIC v c d true) 95 (0,0)) ∧ Ext [nb] w w':=by
 have E : Ext [nb] w w:=Ext.refl _ _
 have qn : w.heap[nb]? = some (.cells #[.int .i64 v,.int .i64 c,.int .i64 d,.bool true] 95 (0,0)):=hq
 clear hq
 refine calls_has 31 Tryz.func58 rfl Tryz.ntmps58 (Nat.le_of_ble_eq_true rfl) ?_
 intro fa F
 refine wp_seq_k fun K1 hK1=>?_
 refine wp_region_lit ?_
 refine sq_new F rfl (by decide) rfl (R_box rfl (F.at rfl)) ?_;clear F fa;intro fa w1 F hw
 obtain ⟨n5,hn⟩ : ∃ n,n = w.heap.size:=⟨_,rfl⟩
 rw [← hn] at F
 have s5 : w.heap.size ≤ n5:=Nat.le_of_eq hn.symm
 have l5_E : w.heap.size ≤ n5:=by rw [hn];exact E.size
 have m5_n : nb < n5:=by rw [hn];exact blk_lt qn
 replace qn:=keep_alloc hw qn
 replace E:=ext_alloc E hw
 have q5:=new_row hw hn
 clear hw hn
 refine wpList_nil ?_
 refine hK1 _ _ ?_
 clear hK1
 refine wp_seq_k fun K2 hK2=>?_
 refine wp_region_st 11 follows (by kernel_rfl) fun w2 hh eh=>?_
 replace qn:=keep_same hh qn
 replace q5:=keep_same hh q5
 replace E:=ext_same E eh
 clear hh eh
 refine F.smv ?_;clear F fa;intro fa F
 refine F.sv (R_nilCheck rfl (F.at rfl)) ?_;clear F fa;intro fa F
 refine F.sv (R_field rfl (F.at rfl) Tryz.underlying95 rfl (n:=3) (sz:=1) rfl (by kernel_rfl) (by decide)) ?_;clear F fa;intro fa F
 refine F.sv (R_load rfl (F.at rfl) Tryz.underlying4 rfl ((cells_of_block qn 3).trans (getS (getS (getS (get0)))))) ?_;clear F fa;intro fa F
 refine F.sv (R_not rfl (F.at rfl)) ?_;clear F fa;intro fa F
 refine F.smv ?_;clear F fa;intro fa F
 refine F.sv ((R_sliceAll (n:=2) rfl (F.at rfl) (by kernel_rfl) (by kernel_rfl) (by kernel_rfl))) ?_ (hw:=(wantT F rfl rfl (by decide) rfl));clear F fa;intro fa F
 refine F.smv ?_ (hw:=(wantT F rfl rfl (by decide) rfl));clear F fa;intro fa F
 refine F.sv (R_nilCheck rfl (F.at rfl)) ?_ (hw:=(wantT F rfl rfl (by decide) rfl));clear F fa;intro fa F
 refine F.sv (R_field rfl (F.at rfl) Tryz.underlying95 rfl (n:=1) (sz:=2) rfl (by kernel_rfl) (by decide)) ?_ (hw:=(wantT F rfl rfl (by decide) rfl));clear F fa;intro fa F
 refine F.sv ((R_sliceOff (n:=2) rfl (F.at rfl) (by kernel_rfl) (by kernel_rfl) (by kernel_rfl))) ?_ (hw:=(wantT F rfl rfl (by decide) rfl));clear F fa;intro fa F
 refine wpStill_nil ?_
 refine sq_call F rfl (by decide) (wantT F rfl rfl (by decide) rfl) (R_callV rfl rfl Tryz.call68 (mpS (F.at rfl) (mpS (F.at rfl) mp0))) (compare_any [a,b] [c,d] (some ⟨n5,0,none⟩) (some ⟨nb,1,none⟩) 2 2 _ (rows_lit [a,b] 2 q5) (rows_mid [c,d] 2 qn (fun j hj=>by rcases j with _ | _ | j;(· rfl);(· rfl);(· simp at hj;omega))) (by simp) (by simp)) fun e w3 hR=>?_
 obtain ⟨rfl,e9⟩:=hR
 refine ⟨_,rfl,?_⟩;clear F fa;intro fa F
 replace qn:=(e9).keep0 qn
 replace q5:=(e9).keep0 q5
 replace E:=ext_same E (e9)
 clear e9
 refine F.vl (R_lss rfl (F.at rfl) (ev_c fa _)) ?_ (hw:=(wantT F rfl rfl (by decide) rfl));clear F fa;intro fa F
 refine F.vl (R_pickF rfl (F.at rfl) (F.at rfl)) ?_;clear F fa;intro fa F
 refine wpList_nil ?_
 refine hK2 _ _ ?_
 clear hK2
 refine cd_if F rfl (fun hc19=>?_) (fun hc19=>?_)
 ·skip
  refine wp_region_lit ?_
  refine F.mv ?_;clear F fa;intro fa F
  refine F.mv ?_;clear F fa;intro fa F
  refine F.mv ?_;clear F fa;intro fa F
  refine F.mv ?_;clear F fa;intro fa F
  refine F.vl (R_loadBlk rfl (F.at rfl) Tryz.underlying79 rfl (by kernel_rfl) q5) ?_;clear F fa;intro fa F
  refine F.vl (R_nilCheck rfl (F.at rfl)) ?_;clear F fa;intro fa F
  refine F.vl (R_field rfl (F.at rfl) Tryz.underlying95 rfl (n:=0) (sz:=1) rfl (by kernel_rfl) (by decide)) ?_;clear F fa;intro fa F
  refine sq_to rfl rfl (R_store rfl (F.at rfl) (F.at rfl) rfl (by kernel_rfl) ((cells_of_block qn 0).trans (get0)) (free_of_block qn 0)) ?_;intro w4 hw
  replace qn:=put_cell hw qn (by simp only [List.setIfInBounds_toArray,lsQ,lzQ];exact rfl)
  replace q5:=keep_cell hw q5 (by omega)
  replace E:=ext_cell E hw (fun h=>by first | exact absurd h (by omega) | simp)
  clear hw
  refine F.vl (R_nilCheck rfl (F.at rfl)) ?_;clear F fa;intro fa F
  refine F.vl (R_field rfl (F.at rfl) Tryz.underlying95 rfl (n:=1) (sz:=2) rfl (by kernel_rfl) (by decide)) ?_;clear F fa;intro fa F
  refine sq_to rfl rfl (R_storeMid rfl (F.at rfl) (F.at rfl) (by kernel_rfl) (by simp [Value.oneCell']) qn (by simp)) ?_;intro w5 hw
  replace qn:=put_mid2 hw qn (by simp only [List.setIfInBounds_toArray,lsQ,lzQ];exact rfl)
  replace q5:=keep_cells hw q5 (by omega)
  replace E:=ext_cells E hw (fun h=>by first | exact absurd h (by omega) | simp)
  clear hw
  refine F.vl (R_nilCheck rfl (F.at rfl)) ?_;clear F fa;intro fa F
  refine F.vl (R_field rfl (F.at rfl) Tryz.underlying95 rfl (n:=3) (sz:=1) rfl (by kernel_rfl) (by decide)) ?_;clear F fa;intro fa F
  refine sq_to rfl rfl (R_store rfl (F.at rfl) (ev_c fa _) rfl (by kernel_rfl) ((cells_of_block qn 3).trans (getS (getS (getS (get0))))) (free_of_block qn 3)) ?_;intro w6 hw
  replace qn:=put_cell hw qn (by simp only [List.setIfInBounds_toArray,lsQ,lzQ];exact rfl)
  replace q5:=keep_cell hw q5 (by omega)
  replace E:=ext_cell E hw (fun h=>by first | exact absurd h (by omega) | simp)
  clear hw
  refine wpList_nil ?_
  (try simp only [Exit.inBlock,Exit.then,reduceIte])
  refine rt_vn F (rs_0 rfl) ?_
  exact ⟨rfl,(by rw [if_pos hc19];exact qn),E⟩
 ·skip
  refine wp_skip ?_
  (try simp only [Exit.inBlock,Exit.then,reduceIte])
  refine rt_vn F (rs_0 rfl) ?_
  exact ⟨rfl,(by rw [if_neg hc19];exact qn),E⟩
def nearOI (c : Nat → Int × Int) : Option Nat → Array Value
 | none=>nearIC 0 0 0 false
 | some n=>nearIC ((n : Nat) : Int) (c n).1 (c n).2 true
theorem offerI_any (c : Nat → Int × Int) (nb : Nat) (o : Option Nat) (n : Nat) (w : World) (hq : w.heap[nb]? = some (.cells (nearOI c o) 95 (0,0))) :
  Calls Tryz.prog 58 #[.pointer (some ⟨nb,0,none⟩),.int .i64 ((n : Nat) : Int),.agg #[.int .i64 (c n).1,.int .i64 (c n).2]] w fun e w'=>e = .returned (.tuple #[]) ∧ w'.heap[nb]? = some (.cells (nearOI c (offO c o n)) 95 (0,0)) ∧ Ext [nb] w w':=by
 cases o with
 | none=>exact offerI_new nb 0 0 0 ((n : Nat) : Int) (c n).1 (c n).2 w hq
 | some u =>
  refine Calls.mono (offerI_old nb ((u : Nat) : Int) (c u).1 (c u).2 ((n : Nat) : Int) (c n).1 (c n).2 w hq) ?_
  rintro e w' ⟨h1,h2,h3⟩
  refine ⟨h1,?_,h3⟩
  rw [h2,offO]
  split <;> rfl
theorem take_range {n i : Nat} (h : i < n) : (List.range n).take (i + 1) = (List.range n).take i ++ [i]:=by
 rw [take_getD (List.range n) 0 (by rw [List.length_range];exact h)];simp [h]
def bI (b : Bool) : Int:=if b = true then 1 else 0
def rowU (p : Nat → Bool) : Nat → Int
 | 0=>0
 | k + 1=>rowU p k + bI (p k)
def triU (p : Nat → Nat → Bool) : Nat → Int
 | 0=>0
 | j + 1=>triU p j + rowU (p j) j
theorem bI_bd (b : Bool) : 0 ≤ bI b ∧ bI b ≤ 1:=by cases b <;> simp [bI]
theorem rowU_bd (p : Nat → Bool) : ∀ k,0 ≤ rowU p k ∧ rowU p k ≤ k
 | 0=>by simp [rowU]
 | k + 1=>by have:=rowU_bd p k;have:=bI_bd (p k);rw [rowU];omega
theorem triU_bd (p : Nat → Nat → Bool) : ∀ j,j ≤ 6 → 0 ≤ triU p j ∧ triU p j ≤ 6 * j
 | 0,_=>by simp [triU]
 | j + 1,h=>by have:=triU_bd p j (by omega);have:=rowU_bd (p j) j;rw [triU];omega
def unP (x : Vm) (n : Nat) (T : List (List Int)) (j k : Nat) : Bool:=!alkE x n (val (T.getD j [])) (val (T.getD k []))
def unN (x : Vm) (T : List (List Int)) (n : Nat) : Int:=triU (unP x n T) T.length
def cT (x : Vm) (T : List (List Int)) (n : Nat) : Int × Int:=(-unN x T n,0)
def telR (x : Vm) (T : List (List Int)) : Int × Int × Int:=match pickO (cT x T) (List.range x.L.length) with
 | none=>(0,0,11)
 | some n=>if unN x T n = 0 then (0,0,11) else ((n : Nat),unN x T n,0)
set_option maxRecDepth 100000 in
set_option maxHeartbeats 2000000 in
theorem xTelling_ok (x : Vm) (hv : VOk x) (S : List (Value × List Int)) (hs : ∀ p ∈ S,RcpOk x p.2) (h6 : S.length ≤ 6) (a : Option Addr) (c : Nat) (w : World) (h : x.At w) (hl : LolAt w a S) :
  Calls Tryz.prog 28 #[.agg #[.int .i64 x.B,.slice x.da x.D.length x.dc,.slice x.la x.L.length x.lc,.int .i64 x.tol],.slice a S.length c] w fun e w'=>e = .returned (.tuple #[.int .i64 (telR x (S.map (·.2))).1,.int .i64 (telR x (S.map (·.2))).2.1,.int .i64 (telR x (S.map (·.2))).2.2]) ∧ Ext [] w w':=by
 have E : Ext [] w w:=Ext.refl _ _
 have HX:=Lib.hid h
 have HV:=Lib.hid hv
 have HL:=Lib.hid hl
 have HS:=Lib.hid hs
 have hl3:=hv.l3
 obtain ⟨T,hT⟩ : ∃ T,T = S.map (·.2):=⟨_,rfl⟩
 have hTl : T.length = S.length:=by rw [hT,List.length_map]
 have HM : RowKit.Hid (∀ t ∈ T,TubS (val t)):=Lib.hid (fun t ht=>by
  rw [hT] at ht
  obtain ⟨p,hp,rfl⟩:=List.mem_map.1 ht
  exact (hs p hp).tub)
 clear h hv hl hs
 refine calls_hasM 67 Tryz.func28 rfl Tryz.ntmps28 (Nat.le_of_ble_eq_true rfl) ?_
 intro fa F
 refine wp_seq_k fun K1 hK1=>?_
 refine wp_region_lit ?_
 refine sq_new F rfl (by decide) rfl (R_box rfl (F.at rfl)) ?_;clear F fa;intro fa w1 F hw
 obtain ⟨n2,hn⟩ : ∃ n,n = w.heap.size:=⟨_,rfl⟩
 rw [← hn] at F
 have s2 : w.heap.size ≤ n2:=Nat.le_of_eq hn.symm
 have l2_E : w.heap.size ≤ n2:=by rw [hn];exact E.size
 replace E:=ext_alloc E hw
 have q2:=new_row hw hn
 clear hw hn
 refine F.vl (R_assign rfl (ev_c fa _)) ?_;clear F fa;intro fa F
 refine F.vl (R_assign rfl (ev_c fa _)) ?_;clear F fa;intro fa F
 refine sq_new F rfl (by decide) rfl (R_alloc rfl Tryz.zeroValue35) ?_;clear F fa;intro fa w2 F hw
 obtain ⟨n6,hn⟩ : ∃ n,n = w1.heap.size:=⟨_,rfl⟩
 rw [← hn] at F
 have s6 : w1.heap.size ≤ n6:=Nat.le_of_eq hn.symm
 have l6_E : w.heap.size ≤ n6:=by rw [hn];exact E.size
 have m6_2 : n2 < n6:=by rw [hn];exact blk_lt q2
 replace q2:=keep_alloc hw q2
 replace E:=ext_alloc E hw
 have q6:=new_one hw rfl hn
 clear hw hn
 refine wpList_nil ?_
 refine hK1 _ _ ?_
 clear hK1
 refine wp_seq_k fun K2 hK2=>?_
 refine wp_region_lit ?_
 refine sq_defer F rfl rfl (R_defer rfl rfl (mpS (F.at rfl) mp0)) ?_;clear F fa;intro fa F
 refine wpList_nil ?_
 refine hK2 _ _ ?_
 clear hK2
 refine wp_seq_k fun K3 hK3=>?_
 refine wp_region_lit ?_
 refine F.vl (R_loadBlk rfl (F.at rfl) Tryz.underlying24 rfl (by kernel_rfl) q2) ?_;clear F fa;intro fa F
 refine sq_call F rfl (by decide) rfl (R_callV rfl rfl Tryz.call40 (mpS (F.at rfl) mp0)) (begin_ok x HV.out _ (HX.out.ext E)) fun e w3 hR=>?_
 obtain ⟨rfl,e9⟩:=hR
 refine ⟨_,rfl,?_⟩;clear F fa;intro fa F
 replace q2:=(e9).keep0 q2
 replace q6:=(e9).keep0 q6
 replace E:=ext_same E (e9)
 clear e9
 refine sq_new F rfl (by decide) rfl (R_alloc rfl Tryz.zeroValue69) ?_;clear F fa;intro fa w4 F hw
 obtain ⟨n7,hn⟩ : ∃ n,n = w3.heap.size:=⟨_,rfl⟩
 rw [← hn] at F
 have s7 : w3.heap.size ≤ n7:=Nat.le_of_eq hn.symm
 have l7_E : w.heap.size ≤ n7:=by rw [hn];exact E.size
 have m7_2 : n2 < n7:=by rw [hn];exact blk_lt q2
 have m7_6 : n6 < n7:=by rw [hn];exact blk_lt q6
 replace q2:=keep_alloc hw q2
 replace q6:=keep_alloc hw q6
 replace E:=ext_alloc E hw
 have q7:=new_row hw hn
 clear hw hn
 refine sq_to rfl rfl (R_storeRow rfl (F.at rfl) (F.at rfl) (by kernel_rfl) (by first | (simp [Value.oneCell'];done) | (simp [Value.oneCell',id];done)) q7 rfl) ?_;intro w5 hw
 replace q2:=keep_cells hw q2 (by omega)
 replace q6:=keep_cells hw q6 (by omega)
 replace q7:=put_row hw q7 rfl
 replace E:=ext_cells E hw (fun h=>by first | exact absurd h (by omega) | simp)
 clear hw
 refine wpList_nil ?_
 refine hK3 _ _ ?_
 clear hK3
 refine wp_seq_k fun K4 hK4=>?_
 refine wp_region_lit ?_
 refine F.vl (R_loadBlk rfl (F.at rfl) Tryz.underlying69 rfl (by kernel_rfl) q7) ?_;clear F fa;intro fa F
 refine F.mv ?_;clear F fa;intro fa F
 refine sq_call F rfl (by decide) rfl (R_callV rfl rfl Tryz.call56 (mpS (F.at rfl) (mpS (F.at rfl) mp0))) (stuffs_ok x HV.out S HS.out h6 a c _ (HL.out.ext E)) fun e w6 hR=>?_
 obtain ⟨ma,mc,rfl,om,e9⟩:=hR
 refine ⟨_,rfl,?_⟩;clear F fa;intro fa F
 replace q2:=(e9).keep0 q2
 replace q6:=(e9).keep0 q6
 replace q7:=(e9).keep0 q7
 replace E:=ext_same E (e9)
 clear e9
 rw [← hT,← hTl] at om
 rw [← hTl] at F
 have hrm:=Lib.hid (rows_of_owns (row:=fun t : List Int=>tubR (val t)) om (fun _=>rfl))
 clear om
 obtain ⟨wM,hwM⟩ : ∃ wM,wM = w6:=⟨_,rfl⟩
 have EM : Ext [] wM w6:=by rw [hwM];exact Ext.refl _ _
 rw [← hwM] at hrm
 refine F.as ?_;clear F fa;intro fa F
 refine wpList_nil ?_
 refine hK4 _ _ ?_
 clear hK4
 refine wp_seq_k fun K5 hK5=>?_
 refine wp_region_lit ?_
 refine sq_new F rfl (by decide) rfl (R_alloc rfl Tryz.zeroValue95) ?_;clear F fa;intro fa w7 F hw
 obtain ⟨n9,hn⟩ : ∃ n,n = w6.heap.size:=⟨_,rfl⟩
 rw [← hn] at F
 have s9 : w6.heap.size ≤ n9:=Nat.le_of_eq hn.symm
 have l9_E : w.heap.size ≤ n9:=by rw [hn];exact E.size
 have l9_EM : wM.heap.size ≤ n9:=by rw [hn];exact EM.size
 have m9_2 : n2 < n9:=by rw [hn];exact blk_lt q2
 have m9_6 : n6 < n9:=by rw [hn];exact blk_lt q6
 have m9_7 : n7 < n9:=by rw [hn];exact blk_lt q7
 replace q2:=keep_alloc hw q2
 replace q6:=keep_alloc hw q6
 replace q7:=keep_alloc hw q7
 replace E:=ext_alloc E hw
 replace EM:=ext_alloc EM hw
 have q9:=new_row hw hn
 clear hw hn
 refine wpList_nil ?_
 have HTs:=Lib.hid (slAt_of_rowsX (X:=[n9]) hrm.out (fun W e=>hrm.out.ext e (by simpa using l9_EM)) [])
 have E9:=EM.mono (Y:=[n9]) (by simp)
 replace q9 : w7.heap[n9]? = some (.cells (nearOI (cT x T) (pickO (cT x T) ((List.range x.L.length).take 0))) 95 (0,0)):=q9
 refine hK5 _ _ ?_
 clear hK5
 refine wp_seq_k fun K6 hK6=>?_
 refine wp_seq_k fun K7 hK7=>?_
 refine wp_region_lit ?_
 refine F.vl (R_field rfl (F.at rfl) Tryz.underlying69 rfl (n:=0) (sz:=4) rfl (by kernel_rfl) (by decide)) ?_;clear F fa;intro fa F
 refine F.vl (R_field rfl (F.at rfl) Tryz.underlying24 rfl (n:=2) (sz:=1) rfl (by kernel_rfl) (by decide)) ?_;clear F fa;intro fa F
 refine F.vl (R_load rfl (F.at rfl) Tryz.underlying22 rfl ((cells_of_block q7 2).trans (getS (getS (get0))))) ?_;clear F fa;intro fa F
 refine F.vl (R_len rfl rfl (F.at rfl) Tryz.underlying22) ?_;clear F fa;intro fa F
 refine F.vl (R_move rfl (ev_c fa _)) ?_;clear F fa;intro fa F
 refine wpList_nil ?_
 refine hK7 _ _ ?_
 clear hK7
 refine wp_block ?_
 have F0:=F.sub (.c 6 rfl (.c 7 rfl (.c 8 rfl (.c 9 rfl (.c 22 rfl .n)))))
 refine lp_for F0 (x.L.length) (fun i Lv W=>Lv = [(23,.int .i64 ((i : Nat) : Int))] ∧ Ext [] w W ∧ Ext [n9] wM W ∧ W.heap[n2]? = some (.cells #[.int .i64 x.B,.slice x.da x.D.length x.dc,.slice x.la x.L.length x.lc,.int .i64 x.tol] 24 (0,0)) ∧ W.heap[n6]? = some (.cells #[.int .i64 0] 35 (0,0)) ∧ W.heap[n7]? = some (.cells #[.int .i64 x.B,.slice x.da x.D.length x.dc,.slice x.la x.L.length x.lc,.int .i64 x.tol] 69 (0,0)) ∧ W.heap[n9]? = some (.cells (nearOI (cT x T) (pickO (cT x T) ((List.range x.L.length).take i))) 95 (0,0))) ⟨_,⟨rfl,E,E9,q2,q6,q7,q9⟩,F.sub (.c 23 rfl (.c 6 rfl (.c 7 rfl (.c 8 rfl (.c 9 rfl (.c 22 rfl .n))))))⟩ ?_
 clear F F0
 clear E E9 q2 q6 q7 q9
 rintro i _ fa w8 hi1 ⟨rfl,E,E9,q2,q6,q7,q9⟩ F
 refine wp_seq_k fun K8 hK8=>?_
 refine wp_region_lit ?_
 refine F.vl (R_lss rfl (F.at rfl) (F.at rfl)) ?_;clear F fa;intro fa F
 refine wpList_nil ?_
 refine hK8 _ _ ?_
 clear hK8
 refine wp_seq_k fun K9 hK9=>?_
 refine cd_if F rfl (fun hc24=>?_) (fun hc24=>?_)
 ·skip
  refine wp_skip ?_
  refine hK9 _ _ ?_
  clear hK9
  refine wp_seq_k fun K10 hK10=>?_
  refine wp_block ?_
  refine wp_seq_k fun K11 hK11=>?_
  refine wp_region_lit ?_
  refine F.mv ?_;clear F fa;intro fa F
  refine F.as ?_;clear F fa;intro fa F
  refine wpList_nil ?_
  refine hK11 _ _ ?_
  clear hK11
  refine wp_seq_k fun K12 hK12=>?_
  refine wp_region_lit ?_
  refine F.vl (R_assign rfl (ev_c fa _)) ?_;clear F fa;intro fa F
  rw [show (0 : Int) = triU (unP x i T) 0 from rfl] at F
  refine wpList_nil ?_
  refine hK12 _ _ ?_
  clear hK12
  refine wp_seq_k fun K13 hK13=>?_
  refine wp_seq_k fun K14 hK14=>?_
  refine wp_region_lit ?_
  refine F.mv ?_;clear F fa;intro fa F
  refine F.vl (R_len rfl rfl (F.at rfl) Tryz.underlying72) ?_;clear F fa;intro fa F
  refine F.vl (R_move rfl (ev_c fa _)) ?_;clear F fa;intro fa F
  refine wpList_nil ?_
  refine hK14 _ _ ?_
  clear hK14
  refine wp_block ?_
  have F0:=F.sub (.c 6 rfl (.c 7 rfl (.c 8 rfl (.c 9 rfl (.c 10 rfl (.c 22 rfl (.c 23 rfl (.c 27 rfl .n))))))))
  refine lp_for F0 (T.length) (fun j Lv W=>Lv = [(11,.int .i64 (triU (unP x i T) j)),(28,.int .i64 ((j : Nat) : Int))] ∧ Ext [] w W ∧ Ext [n9] wM W ∧ W.heap[n2]? = some (.cells #[.int .i64 x.B,.slice x.da x.D.length x.dc,.slice x.la x.L.length x.lc,.int .i64 x.tol] 24 (0,0)) ∧ W.heap[n6]? = some (.cells #[.int .i64 0] 35 (0,0)) ∧ W.heap[n7]? = some (.cells #[.int .i64 x.B,.slice x.da x.D.length x.dc,.slice x.la x.L.length x.lc,.int .i64 x.tol] 69 (0,0)) ∧ W.heap[n9]? = some (.cells (nearOI (cT x T) (pickO (cT x T) ((List.range x.L.length).take i))) 95 (0,0))) ⟨_,⟨rfl,E,E9,q2,q6,q7,q9⟩,F.sub (.c 11 rfl (.c 28 rfl (.c 6 rfl (.c 7 rfl (.c 8 rfl (.c 9 rfl (.c 10 rfl (.c 22 rfl (.c 23 rfl (.c 27 rfl .n))))))))))⟩ ?_
  clear F F0
  clear E E9 q2 q6 q7 q9
  rintro j _ fa w9 hi2 ⟨rfl,E,E9,q2,q6,q7,q9⟩ F
  refine wp_seq_k fun K15 hK15=>?_
  refine wp_region_lit ?_
  refine F.vl (R_lss rfl (F.at rfl) (F.at rfl)) ?_;clear F fa;intro fa F
  refine wpList_nil ?_
  refine hK15 _ _ ?_
  clear hK15
  refine wp_seq_k fun K16 hK16=>?_
  refine cd_if F rfl (fun hc29=>?_) (fun hc29=>?_)
  ·skip
   refine wp_skip ?_
   refine hK16 _ _ ?_
   clear hK16
   refine wp_seq_k fun K17 hK17=>?_
   refine wp_block ?_
   refine wp_seq_k fun K18 hK18=>?_
   refine wp_region_lit ?_
   refine F.mv ?_;clear F fa;intro fa F
   refine F.as ?_;clear F fa;intro fa F
   refine wpList_nil ?_
   refine hK18 _ _ ?_
   clear hK18
   refine wp_seq_k fun K19 hK19=>?_
   refine wp_region_lit ?_
   refine F.mv ?_;clear F fa;intro fa F
   refine F.vl (R_move rfl (ev_c fa _)) ?_;clear F fa;intro fa F
   refine wpList_nil ?_
   rw [show triU (unP x i T) j = triU (unP x i T) j + rowU (unP x i T j) 0 by rw [rowU,Int.add_zero]] at F
   refine hK19 _ _ ?_
   clear hK19
   refine wp_block ?_
   have F0:=F.sub (.c 6 rfl (.c 7 rfl (.c 8 rfl (.c 9 rfl (.c 10 rfl (.c 12 rfl (.c 22 rfl (.c 23 rfl (.c 27 rfl (.c 28 rfl (.c 31 rfl .n)))))))))))
   refine lp_for F0 (j) (fun k Lv W=>Lv = [(11,.int .i64 (triU (unP x i T) j + rowU (unP x i T j) k)),(32,.int .i64 ((k : Nat) : Int))] ∧ Ext [] w W ∧ Ext [n9] wM W ∧ W.heap[n2]? = some (.cells #[.int .i64 x.B,.slice x.da x.D.length x.dc,.slice x.la x.L.length x.lc,.int .i64 x.tol] 24 (0,0)) ∧ W.heap[n6]? = some (.cells #[.int .i64 0] 35 (0,0)) ∧ W.heap[n7]? = some (.cells #[.int .i64 x.B,.slice x.da x.D.length x.dc,.slice x.la x.L.length x.lc,.int .i64 x.tol] 69 (0,0)) ∧ W.heap[n9]? = some (.cells (nearOI (cT x T) (pickO (cT x T) ((List.range x.L.length).take i))) 95 (0,0))) ⟨_,⟨rfl,E,E9,q2,q6,q7,q9⟩,F.sub (.c 11 rfl (.c 32 rfl (.c 6 rfl (.c 7 rfl (.c 8 rfl (.c 9 rfl (.c 10 rfl (.c 12 rfl (.c 22 rfl (.c 23 rfl (.c 27 rfl (.c 28 rfl (.c 31 rfl .n)))))))))))))⟩ ?_
   clear F F0
   clear E E9 q2 q6 q7 q9
   rintro k _ fa w10 hi3 ⟨rfl,E,E9,q2,q6,q7,q9⟩ F
   refine wp_seq_k fun K20 hK20=>?_
   refine wp_region_lit ?_
   refine F.vl (R_lss rfl (F.at rfl) (F.at rfl)) ?_;clear F fa;intro fa F
   refine wpList_nil ?_
   refine hK20 _ _ ?_
   clear hK20
   refine wp_seq_k fun K21 hK21=>?_
   refine cd_if F rfl (fun hc33=>?_) (fun hc33=>?_)
   ·skip
    refine wp_skip ?_
    refine hK21 _ _ ?_
    clear hK21
    refine wp_seq_k fun K22 hK22=>?_
    refine wp_block ?_
    refine wp_seq_k fun K23 hK23=>?_
    refine wp_region_lit ?_
    refine F.mv ?_;clear F fa;intro fa F
    refine F.as ?_;clear F fa;intro fa F
    refine wpList_nil ?_
    refine hK23 _ _ ?_
    clear hK23
    refine wp_seq_k fun K24 hK24=>?_
    refine wp_region_st 10 follows (by kernel_rfl) fun w11 hh eh=>?_
    replace q2:=keep_same hh q2
    replace q6:=keep_same hh q6
    replace q7:=keep_same hh q7
    replace q9:=keep_same hh q9
    replace E:=ext_same E eh
    replace E9:=ext_same E9 eh
    clear hh eh
    refine F.sv (R_loadBlk rfl (F.at rfl) Tryz.underlying69 rfl (by kernel_rfl) q7) ?_;clear F fa;intro fa F
    refine F.smv ?_;clear F fa;intro fa F
    refine F.smv ?_;clear F fa;intro fa F
    refine F.smv ?_;clear F fa;intro fa F
    obtain ⟨xb25,xo25,xa25,xr25⟩:=HTs.out j (by omega)
    refine F.sv (R_ixSlice (sz:=4) rfl ((F.at rfl).trans (xa25 _ _)) (F.at rfl) Tryz.underlying72 (by kernel_rfl) (by omega) (by omega)) ?_;clear F fa;intro fa F
    refine F.sv (R_loadRow rfl (F.at rfl) Tryz.underlying75 rfl (by kernel_rfl) (xr25 _ E9)) ?_;clear F fa;intro fa F
    refine F.smv ?_;clear F fa;intro fa F
    refine F.smv ?_;clear F fa;intro fa F
    obtain ⟨xb26,xo26,xa26,xr26⟩:=HTs.out k (by omega)
    refine F.sv (R_ixSlice (sz:=4) rfl ((F.at rfl).trans (xa26 _ _)) (F.at rfl) Tryz.underlying72 (by kernel_rfl) (by omega) (by omega)) ?_;clear F fa;intro fa F
    refine F.sv (R_loadRow rfl (F.at rfl) Tryz.underlying75 rfl (by kernel_rfl) (xr26 _ E9)) ?_;clear F fa;intro fa F
    refine wpStill_nil ?_
    refine sq_call F rfl (by decide) rfl (R_callV rfl rfl Tryz.call57 (mpS (F.at rfl) (mpS (F.at rfl) (mpS (F.at rfl) (mpS (F.at rfl) mp0))))) (alike_ok x HV.out i (by omega) (val (T.getD j [])) (val (T.getD k [])) (HM.out _ (getD_memL [] (by omega))) (HM.out _ (getD_memL [] (by omega))) _ (HX.out.ext E)) fun e w12 hR=>?_
    obtain ⟨rfl,e9⟩:=hR
    refine ⟨_,rfl,?_⟩;clear F fa;intro fa F
    replace q2:=(e9).keep0 q2
    replace q6:=(e9).keep0 q6
    replace q7:=(e9).keep0 q7
    replace q9:=(e9).keep0 q9
    replace E:=ext_same E (e9)
    replace E9:=ext_same E9 (e9)
    clear e9
    refine F.vl (R_not rfl (F.at rfl)) ?_;clear F fa;intro fa F
    refine wpList_nil ?_
    have hb1:=triU_bd (unP x i T) j (by omega)
    have hb2:=rowU_bd (unP x i T j) k
    refine hK24 _ _ ?_
    clear hK24
    refine cd_b F rfl (fun hc46=>?_) (fun hc46=>?_)
    ·skip
     refine wp_region_lit ?_
     refine F.mv ?_;clear F fa;intro fa F
     refine F.vl (R_add rfl (F.at rfl) (ev_c fa _) (by omega) (by omega)) ?_;clear F fa;intro fa F
     refine F.as ?_;clear F fa;intro fa F
     rw [show triU (unP x i T) j + rowU (unP x i T j) k + 1 = triU (unP x i T) j + rowU (unP x i T j) (k + 1) by rw [rowU,show unP x i T j k = true from hc46];simp [bI];omega] at F
     refine wpList_nil ?_
     refine hK22 _ _ ?_
     clear hK22
     refine wp_region_lit ?_
     refine F.vl (R_add rfl (F.at rfl) (ev_c fa _) (by omega) (by omega)) ?_;clear F fa;intro fa F
     refine F.mv ?_;clear F fa;intro fa F
     refine wpList_nil ?_
     show _ ∧ _
     exact ⟨by omega,_,⟨rfl,E,E9,q2,q6,q7,q9⟩,F.sub (.c 11 rfl (.c 32 rfl (.c 6 rfl (.c 7 rfl (.c 8 rfl (.c 9 rfl (.c 10 rfl (.c 12 rfl (.c 22 rfl (.c 23 rfl (.c 27 rfl (.c 28 rfl (.c 31 rfl .n)))))))))))))⟩
    ·skip
     rw [show triU (unP x i T) j + rowU (unP x i T j) k = triU (unP x i T) j + rowU (unP x i T j) (k + 1) by rw [rowU,show unP x i T j k = false from hc46];simp [bI]] at F
     refine wp_skip ?_
     refine hK22 _ _ ?_
     clear hK22
     refine wp_region_lit ?_
     refine F.vl (R_add rfl (F.at rfl) (ev_c fa _) (by omega) (by omega)) ?_;clear F fa;intro fa F
     refine F.mv ?_;clear F fa;intro fa F
     refine wpList_nil ?_
     show _ ∧ _
     exact ⟨by omega,_,⟨rfl,E,E9,q2,q6,q7,q9⟩,F.sub (.c 11 rfl (.c 32 rfl (.c 6 rfl (.c 7 rfl (.c 8 rfl (.c 9 rfl (.c 10 rfl (.c 12 rfl (.c 22 rfl (.c 23 rfl (.c 27 rfl (.c 28 rfl (.c 31 rfl .n)))))))))))))⟩
   ·skip
    refine wp_exit ?_
    rw [show triU (unP x i T) j + rowU (unP x i T j) k = triU (unP x i T) (j + 1) by rw [triU,show k = j by omega]] at F
    refine hK17 _ _ ?_
    clear hK17
    refine wp_region_lit ?_
    refine F.vl (R_add rfl (F.at rfl) (ev_c fa _) (by omega) (by omega)) ?_;clear F fa;intro fa F
    refine F.mv ?_;clear F fa;intro fa F
    refine wpList_nil ?_
    show _ ∧ _
    exact ⟨by omega,_,⟨rfl,E,E9,q2,q6,q7,q9⟩,F.sub (.c 11 rfl (.c 28 rfl (.c 6 rfl (.c 7 rfl (.c 8 rfl (.c 9 rfl (.c 10 rfl (.c 22 rfl (.c 23 rfl (.c 27 rfl .n))))))))))⟩
  ·skip
   refine wp_exit ?_
   rw [show triU (unP x i T) j = unN x T i by rw [unN,show T.length = j by omega]] at F
   refine hK13 _ _ ?_
   clear hK13
   have hub:=triU_bd (unP x i T) T.length (by omega)
   replace hub : 0 ≤ unN x T i ∧ unN x T i ≤ 6 * T.length:=hub
   refine wp_region_lit ?_
   refine F.mv ?_;clear F fa;intro fa F
   refine F.mv ?_;clear F fa;intro fa F
   refine F.vl (R_neg rfl (F.at rfl) (by omega) (by omega)) ?_;clear F fa;intro fa F
   refine F.vl (R_buildV rfl (prS (F.at rfl) pr0) (cells:=#[.int .i64 (-(unN x T i)),.int .i64 0]) (by kernel_rfl)) ?_;clear F fa;intro fa F
   refine sq_call F rfl (by decide) rfl (R_callV rfl rfl Tryz.call58 (mpS (F.at rfl) (mpS (F.at rfl) (mpS (F.at rfl) mp0)))) (offerI_any (cT x T) n9 (pickO (cT x T) ((List.range x.L.length).take i)) i _ q9) fun e w13 hR=>?_
   obtain ⟨rfl,q9',e9⟩:=hR
   refine ⟨_,rfl,?_⟩;clear F fa;intro fa F
   replace q2:=(e9).keep q2 (by simp;omega)
   replace q6:=(e9).keep q6 (by simp;omega)
   replace q7:=(e9).keep q7 (by simp;omega)
   replace E:=E.trans' e9 (fun i hi hl=>by simp only [List.mem_cons,List.not_mem_nil,or_false] at hi ⊢;omega)
   replace E9:=E9.trans' e9 (fun i hi hl=>by simp only [List.mem_cons,List.not_mem_nil,or_false] at hi ⊢;omega)
   rw [← pick_snoc,← take_range (by omega)] at q9'
   replace q9:=q9'
   clear q9'
   refine wpList_nil ?_
   refine hK10 _ _ ?_
   clear hK10
   refine wp_region_lit ?_
   refine F.vl (R_add rfl (F.at rfl) (ev_c fa _) (by omega) (by omega)) ?_;clear F fa;intro fa F
   refine F.mv ?_;clear F fa;intro fa F
   refine wpList_nil ?_
   show _ ∧ _
   exact ⟨by omega,_,⟨rfl,E,E9,q2,q6,q7,q9⟩,F.sub (.c 23 rfl (.c 6 rfl (.c 7 rfl (.c 8 rfl (.c 9 rfl (.c 22 rfl .n))))))⟩
 ·skip
  refine wp_exit ?_
  rw [List.take_of_length_le (show (List.range x.L.length).length ≤ i by rw [List.length_range];omega)] at q9
  refine hK6 _ _ ?_
  clear hK6
  refine wp_seq_k fun K27 hK27=>?_
  refine wp_seq_k fun K28 hK28=>?_
  by_cases hN : pickO (cT x T) (List.range x.L.length) = none
  ·skip
   replace q9 : w8.heap[n9]? = some (.cells #[.int .i64 0,.int .i64 0,.int .i64 0,.bool false] 95 (0,0)):=by rw [hN] at q9;exact q9
   refine wp_region_lit ?_
   refine F.vl (R_field rfl (F.at rfl) Tryz.underlying95 rfl (n:=1) (sz:=2) rfl (by kernel_rfl) (by decide)) ?_;clear F fa;intro fa F
   refine F.vl ((R_ixArr (n:=2) (sz:=1) rfl (F.at rfl) rfl Tryz.underlying79 (by kernel_rfl) (by omega) (by omega))) ?_;clear F fa;intro fa F
   refine F.vl (R_load rfl (F.at rfl) Tryz.underlying3 rfl ((cells_of_block q9 1).trans (getS (get0)))) ?_;clear F fa;intro fa F
   refine F.vl (R_eqlB (b:=true) rfl (F.at rfl) (ev_c fa _) (by decide)) ?_;clear F fa;intro fa F
   refine wpList_nil ?_
   refine hK28 _ _ ?_
   clear hK28
   refine cd_T F rfl ?_
   refine wp_seq_k fun K29 hK29=>?_
   refine wp_region_lit ?_
   refine F.vl (R_assign rfl (ev_c fa _)) ?_;clear F fa;intro fa F
   refine F.vl (R_assign rfl (ev_c fa _)) ?_;clear F fa;intro fa F
   refine sq_to rfl rfl (R_store rfl (F.at rfl) (ev_c fa _) rfl (by kernel_rfl) ((cells_of_block q6 0).trans (get0)) (free_of_block q6 0)) ?_;intro w14 hw
   replace q2:=keep_cell hw q2 (by omega)
   replace q6:=put_cell hw q6 (by simp only [List.setIfInBounds_toArray,lsQ,lzQ];exact rfl)
   replace q7:=keep_cell hw q7 (by omega)
   replace q9:=keep_cell hw q9 (by omega)
   replace E:=ext_cell E hw (fun h=>by first | exact absurd h (by omega) | simp)
   clear hw
   refine wpList_nil ?_
   refine hK29 _ _ ?_
   clear hK29
   refine wp_ret ?_
   (try simp only [Exit.inBlock,Exit.then,reduceIte])
   refine rtM_v F ?_
   refine lv_caught ?_
   refine lv_nil (rs_ttc F rfl rfl rfl rfl Tryz.underlying35 rfl q6) ?_
   rw [← hT,telR,hN]
   exact ⟨rfl,E⟩
  ·skip
   obtain ⟨n,hn⟩:=Option.ne_none_iff_exists'.1 hN
   have hub:=triU_bd (unP x n T) T.length (by omega)
   replace hub : 0 ≤ unN x T n ∧ unN x T n ≤ 6 * T.length:=hub
   replace q9 : w8.heap[n9]? = some (.cells #[.int .i64 ((n : Nat) : Int),.int .i64 (-unN x T n),.int .i64 0,.bool true] 95 (0,0)):=by rw [hn] at q9;exact q9
   refine wp_region_lit ?_
   refine F.vl (R_field rfl (F.at rfl) Tryz.underlying95 rfl (n:=1) (sz:=2) rfl (by kernel_rfl) (by decide)) ?_;clear F fa;intro fa F
   refine F.vl ((R_ixArr (n:=2) (sz:=1) rfl (F.at rfl) rfl Tryz.underlying79 (by kernel_rfl) (by omega) (by omega))) ?_;clear F fa;intro fa F
   refine F.vl (R_load rfl (F.at rfl) Tryz.underlying3 rfl ((cells_of_block q9 1).trans (getS (get0)))) ?_;clear F fa;intro fa F
   refine F.vl (R_eqlD rfl (F.at rfl) (ev_c fa _)) ?_;clear F fa;intro fa F
   refine wpList_nil ?_
   refine hK28 _ _ ?_
   clear hK28
   refine cd_if F rfl (fun hc60=>?_) (fun hc60=>?_)
   ·skip
    refine wp_seq_k fun K30 hK30=>?_
    refine wp_region_lit ?_
    refine F.vl (R_assign rfl (ev_c fa _)) ?_;clear F fa;intro fa F
    refine F.vl (R_assign rfl (ev_c fa _)) ?_;clear F fa;intro fa F
    refine sq_to rfl rfl (R_store rfl (F.at rfl) (ev_c fa _) rfl (by kernel_rfl) ((cells_of_block q6 0).trans (get0)) (free_of_block q6 0)) ?_;intro w15 hw
    replace q2:=keep_cell hw q2 (by omega)
    replace q6:=put_cell hw q6 (by simp only [List.setIfInBounds_toArray,lsQ,lzQ];exact rfl)
    replace q7:=keep_cell hw q7 (by omega)
    replace q9:=keep_cell hw q9 (by omega)
    replace E:=ext_cell E hw (fun h=>by first | exact absurd h (by omega) | simp)
    clear hw
    refine wpList_nil ?_
    refine hK30 _ _ ?_
    clear hK30
    refine wp_ret ?_
    (try simp only [Exit.inBlock,Exit.then,reduceIte])
    refine rtM_v F ?_
    refine lv_caught ?_
    refine lv_nil (rs_ttc F rfl rfl rfl rfl Tryz.underlying35 rfl q6) ?_
    rw [← hT,telR,hn]
    simp only [show unN x T n = 0 by omega,if_true]
    exact ⟨trivial,E⟩
   ·skip
    refine wp_skip ?_
    refine hK27 _ _ ?_
    clear hK27
    refine wp_seq_k fun K31 hK31=>?_
    refine wp_region_st 8 follows (by kernel_rfl) fun w16 hh eh=>?_
    replace q2:=keep_same hh q2
    replace q6:=keep_same hh q6
    replace q7:=keep_same hh q7
    replace q9:=keep_same hh q9
    replace E:=ext_same E eh
    clear hh eh
    refine F.sv (R_field rfl (F.at rfl) Tryz.underlying95 rfl (n:=0) (sz:=1) rfl (by kernel_rfl) (by decide)) ?_;clear F fa;intro fa F
    refine F.sv (R_load rfl (F.at rfl) Tryz.underlying3 rfl ((cells_of_block q9 0).trans (get0))) ?_;clear F fa;intro fa F
    refine F.sv (R_field rfl (F.at rfl) Tryz.underlying95 rfl (n:=1) (sz:=2) rfl (by kernel_rfl) (by decide)) ?_;clear F fa;intro fa F
    refine F.sv ((R_ixArr (n:=2) (sz:=1) rfl (F.at rfl) rfl Tryz.underlying79 (by kernel_rfl) (by omega) (by omega))) ?_;clear F fa;intro fa F
    refine F.sv (R_load rfl (F.at rfl) Tryz.underlying3 rfl ((cells_of_block q9 1).trans (getS (get0)))) ?_;clear F fa;intro fa F
    refine F.sv (R_neg rfl (F.at rfl) (by omega) (by omega)) ?_;clear F fa;intro fa F
    refine F.sv (R_assign rfl (F.at rfl)) ?_;clear F fa;intro fa F
    refine F.sv (R_assign rfl (F.at rfl)) ?_;clear F fa;intro fa F
    refine wpStill_nil ?_
    refine sq_to rfl rfl (R_store rfl (F.at rfl) (ev_c fa _) rfl (by kernel_rfl) ((cells_of_block q6 0).trans (get0)) (free_of_block q6 0)) ?_;intro w17 hw
    replace q2:=keep_cell hw q2 (by omega)
    replace q6:=put_cell hw q6 (by simp only [List.setIfInBounds_toArray,lsQ,lzQ];exact rfl)
    replace q7:=keep_cell hw q7 (by omega)
    replace q9:=keep_cell hw q9 (by omega)
    replace E:=ext_cell E hw (fun h=>by first | exact absurd h (by omega) | simp)
    clear hw
    refine wpList_nil ?_
    refine hK31 _ _ ?_
    clear hK31
    refine wp_ret ?_
    (try simp only [Exit.inBlock,Exit.then,reduceIte])
    refine rtM_v F ?_
    refine lv_caught ?_
    refine lv_nil (rs_ttc F rfl rfl rfl rfl Tryz.underlying35 rfl q6) ?_
    rw [← hT,telR,hn]
    simp only [show ¬ unN x T n = 0 by omega,if_false]
    refine ⟨?_,E⟩
    rw [Int.neg_neg]
section
variable {P : Program} {ρ : Operand → Value} {o : Oper} {w : World}
theorem R_and {x y : Operand} {t t' : TypeId} {k : IntKind} {n m : Int} (ho : o.op = .binOp .and t x y t') (hx : ρ x = .int k n) (hy : ρ y = .int k m) : (execOp ρ o).run P w = .ok (.value (.int k (bits .and k n m))) w:=by
 unfold execOp
 simp [ho,hx,hy,binOp,Op.intBits,eqGuard,go_sem]
 rfl
theorem R_or {x y : Operand} {t t' : TypeId} {k : IntKind} {n m : Int} (ho : o.op = .binOp .or t x y t') (hx : ρ x = .int k n) (hy : ρ y = .int k m) : (execOp ρ o).run P w = .ok (.value (.int k (bits .or k n m))) w:=by
 unfold execOp
 simp [ho,hx,hy,binOp,Op.intBits,eqGuard,go_sem]
 rfl
theorem R_shl {x y : Operand} {t t' : TypeId} {k k' : IntKind} {n : Int} {m : Nat} (ho : o.op = .binOp .shl t x y t') (hx : ρ x = .int k n) (hy : ρ y = .int k' m) : (execOp ρ o).run P w = .ok (.value (.int k (k.wrap (n * 2 ^ min m k.bits)))) w:=by
 unfold execOp
 have hm : ¬ ((m : Int) < 0):=by omega
 simp [ho,hx,hy,binOp,Op.shift,eqGuard,hm,go_sem]
theorem R_indexStr {y : Operand} {t : TypeId} {s : ByteArray} {i : Int} {b : UInt8} {k : IntKind} (ho : o.op = .index t (.const (.string s)) y) (hx : ρ (.const (.string s)) = .string s) (hy : ρ y = .int k i) (hu : P.underlying t = some .string) (h0 : 0 ≤ i) (hb : s[i.toNat]? = some b) : (execOp ρ o).run P w = .ok (.value (.int .u8 b.toNat)) w:=by
 unfold execOp
 simp [ho,hx,hy,Instr.index,asIntOf,run_underlying hu,h0,hb,go_sem]
end
theorem has8 : ∀ s,s < 64 → ∀ n,n < 8 → bits .and .u8 (((s : Nat) : Int).fdiv (2 ^ min n IntKind.u8.bits)) 1 = if s.testBit n then 1 else 0:=by decide +kernel
theorem shl8 : ∀ n,n < 7 → IntKind.u8.wrap (1 * 2 ^ min n IntKind.u8.bits) = ((2 ^ n : Nat) : Int):=by decide +kernel
theorem or8 : ∀ s,s < 64 → ∀ n,n < 6 → bits .or .u8 ((s : Nat) : Int) ((2 ^ n : Nat) : Int) = ((s ||| 2 ^ n : Nat) : Int):=by decide +kernel
def subB (s f : Nat) : Bool:=(List.range 6).all fun n=>!s.testBit n || f.testBit n
theorem not8 : ∀ s,s < 64 → ∀ f,f < 64 → decide (bits .andNot .u8 ((s : Nat) : Int) ((f : Nat) : Int) = 0) = subB s f:=by decide +kernel
theorem or_lt : ∀ s,s < 64 → ∀ n,n < 6 → s ||| 2 ^ n < 64:=by decide +kernel
theorem add8 : ∀ s,s < 64 → IntKind.u8.wrap (((s : Nat) : Int) + 1) = ((s + 1 : Nat) : Int):=by decide +kernel
def setList (s : Nat) : List Int:=((List.range 6).filter s.testBit).map fun n=>((n : Nat) : Int)
def setLen (s : Nat) : Nat:=((List.range 6).filter s.testBit).length
theorem has_ok (s n : Nat) (hs : s < 64) (hn : n < 8) (w : World) : Calls Tryz.prog 91 #[.int .u8 ((s : Nat) : Int),.int .i64 ((n : Nat) : Int)] w fun e w'=>e = .returned (.bool (s.testBit n)) ∧ Ext [] w w':=by
 have E : Ext [] w w:=Ext.refl _ _
 refine calls_has 10 Tryz.func91 rfl Tryz.ntmps91 (Nat.le_of_ble_eq_true rfl) ?_
 intro fa F
 refine wp_seq_k fun K1 hK1=>?_
 refine wp_region_lit ?_
 refine F.vl (R_assign rfl (ev_c fa _)) ?_;clear F fa;intro fa F
 refine wpList_nil ?_
 refine hK1 _ _ ?_
 clear hK1
 refine wp_seq_k fun K2 hK2=>?_
 refine wp_region_lit ?_
 refine F.mv ?_;clear F fa;intro fa F
 refine F.mv ?_;clear F fa;intro fa F
 refine F.vl ((R_shr rfl (F.at rfl) (F.at rfl))) ?_;clear F fa;intro fa F
 refine F.vl ((R_and rfl (F.at rfl) (ev_c fa _))) ?_;clear F fa;intro fa F
 refine F.vl (R_eqlD rfl (F.at rfl) (ev_c fa _)) ?_;clear F fa;intro fa F
 refine F.as ?_;clear F fa;intro fa F
 refine wpList_nil ?_
 refine hK2 _ _ ?_
 clear hK2
 refine wp_ret ?_
 (try simp only [Exit.inBlock,Exit.then,reduceIte])
 refine rt_v F (rs_1 F rfl rfl) ?_
 exact ⟨ret_bool (by rw [has8 s hs n hn];cases s.testBit n <;> rfl),E⟩
theorem take_filter {s k : Nat} (h : k < 6) : (((List.range 6).take (k + 1)).filter s.testBit) = ((List.range 6).take k).filter s.testBit ++ if s.testBit k then [k] else []:=by
 rw [take_range h,List.filter_append]
 by_cases hb : s.testBit k = true <;> simp [hb]
set_option maxRecDepth 100000 in
theorem list_ok (s : Nat) (hs : s < 64) (w : World) : Calls Tryz.prog 66 #[.int .u8 ((s : Nat) : Int)] w fun e w'=>∃ a c,e = .returned (.slice a (setList s).length c) ∧ w'.ownsRow w.heap.size 3 1 (.slice a (setList s).length c) (setList s).length (ivs (setList s)) ∧ Ext [] w w':=by
 have E : Ext [] w w:=Ext.refl _ _
 have oo : w.ownsRow w.heap.size 3 1 (.slice none 0 0) 0 (ivs ((((List.range 6).take 0).filter s.testBit).map fun n=>((n : Nat) : Int))):=World.ownsRow_nil _ _ _ _
 refine calls_has 17 Tryz.func66 rfl Tryz.ntmps66 (Nat.le_of_ble_eq_true rfl) ?_
 intro fa F
 refine wp_seq_k fun K1 hK1=>?_
 refine wp_region_lit ?_
 refine F.vl (R_assign rfl (ev_c fa _)) ?_;clear F fa;intro fa F
 refine wpList_nil ?_
 refine hK1 _ _ ?_
 clear hK1
 refine wp_seq_k fun K2 hK2=>?_
 refine wp_region_lit ?_
 refine F.vl (R_assign rfl (ev_c fa _)) ?_;clear F fa;intro fa F
 refine wpList_nil ?_
 refine hK2 _ _ ?_
 clear hK2
 refine wp_seq_k fun K3 hK3=>?_
 refine wp_seq_k fun K4 hK4=>?_
 refine wp_region_lit ?_
 refine F.vl (R_move rfl (ev_c fa _)) ?_;clear F fa;intro fa F
 refine wpList_nil ?_
 refine hK4 _ _ ?_
 clear hK4
 refine wp_block ?_
 have F0:=F.sub (.c 0 rfl .n)
 refine lp_for F0 (6) (fun i Lv W=>∃ va : Option Addr,∃ k : Nat,∃ vc : Nat,Lv = [(3,.slice va k vc),(5,.int .i64 ((i : Nat) : Int))] ∧ Ext [] w W ∧ W.ownsRow w.heap.size 3 1 (.slice va k vc) k (ivs ((((List.range 6).take i).filter s.testBit).map fun n=>((n : Nat) : Int))) ∧ k = ((((List.range 6).take i).filter s.testBit).map fun n=>((n : Nat) : Int)).length ∧ k ≤ i) ⟨_,⟨none,0,0,rfl,E,oo,rfl,(Nat.le_refl _)⟩,F.sub (.c 3 rfl (.c 5 rfl (.c 0 rfl .n)))⟩ ?_
 clear F F0
 clear E
 clear oo
 rintro i _ fa w1 hi1 ⟨va,k,vc,rfl,E,oo,hkl,hk6⟩ F
 refine wp_seq_k fun K5 hK5=>?_
 refine wp_region_lit ?_
 refine F.vl (R_lss rfl (F.at rfl) (ev_c fa _)) ?_;clear F fa;intro fa F
 refine wpList_nil ?_
 refine hK5 _ _ ?_
 clear hK5
 refine wp_seq_k fun K6 hK6=>?_
 refine cd_if F rfl (fun hc6=>?_) (fun hc6=>?_)
 ·skip
  refine wp_skip ?_
  refine hK6 _ _ ?_
  clear hK6
  refine wp_seq_k fun K7 hK7=>?_
  refine wp_block ?_
  refine wp_seq_k fun K8 hK8=>?_
  refine wp_region_lit ?_
  refine F.mv ?_;clear F fa;intro fa F
  refine F.as ?_;clear F fa;intro fa F
  refine wpList_nil ?_
  refine hK8 _ _ ?_
  clear hK8
  refine wp_seq_k fun K9 hK9=>?_
  refine wp_region_lit ?_
  refine F.mv ?_;clear F fa;intro fa F
  refine F.mv ?_;clear F fa;intro fa F
  refine sq_call F rfl (by decide) rfl (R_callV rfl rfl Tryz.call91 (mpS (F.at rfl) (mpS (F.at rfl) mp0))) (has_ok s i hs (by omega) _) fun e w2 hR=>?_
  obtain ⟨rfl,e9⟩:=hR
  refine ⟨_,rfl,?_⟩;clear F fa;intro fa F
  replace oo:=owns_ext oo (e9) (by simp)
  replace E:=ext_same E (e9)
  clear e9
  refine wpList_nil ?_
  refine hK9 _ _ ?_
  clear hK9
  refine cd_b F rfl (fun hc10=>?_) (fun hc10=>?_)
  ·skip
   have hst:=take_filter (s:=s) (show i < 6 by omega)
   rw [if_pos hc10] at hst
   refine wp_region_lit ?_
   refine F.mv ?_;clear F fa;intro fa F
   refine F.mv ?_;clear F fa;intro fa F
   refine sq_new F rfl (by decide) rfl (R_buildSliceV rfl (prS (F.at rfl) pr0) Tryz.underlying25 (size:=1) (by kernel_rfl) (by decide) (by decide) Tryz.zeroValue3 (cells:=#[.int .i64 ((i : Nat) : Int)]) (by kernel_rfl)) ?_;clear F fa;intro fa w3 F hw
   obtain ⟨n13,hn⟩ : ∃ n,n = w2.heap.size:=⟨_,rfl⟩
   rw [← hn] at F
   have s13 : w2.heap.size ≤ n13:=Nat.le_of_eq hn.symm
   have l13_E : w.heap.size ≤ n13:=by rw [hn];exact E.size
   have o13_oo:=Lib.hid (own_ne_new oo hn)
   replace oo:=owns_alloc hw oo
   replace E:=ext_alloc E hw
   have q13:=new_block hw hn
   clear hw hn
   have hEs:=E.size
   refine sq_some F rfl (by decide) rfl (append_run rfl (w.heap.size) (e:=3) (size:=1) (bytes:=8) Tryz.underlying25 (by kernel_rfl) (by decide) (F.at rfl) oo (F.at rfl) q13 rfl (by simp [Value.oneCell']) (by omega) (by omega) (by omega)) ?_;clear F fa;rintro fa v' w4 F ⟨hown',hg⟩
   obtain ⟨va14,vc14,rfl⟩:=owns_slice hown'
   replace E:=ext_appendX E oo hg (by omega)
   replace oo:=hown'
   clear hg
   rw [ivs_snoc1,show ((((List.range 6).take i).filter s.testBit).map fun n=>((n : Nat) : Int)) ++ [((i : Nat) : Int)] = (((List.range 6).take (i + 1)).filter s.testBit).map fun n=>((n : Nat) : Int) by rw [hst,List.map_append];rfl] at oo
   replace hkl : k + 1 = ((((List.range 6).take (i + 1)).filter s.testBit).map fun n=>((n : Nat) : Int)).length:=by rw [hst,List.map_append,List.length_append,← hkl];rfl
   refine F.as ?_;clear F fa;intro fa F
   refine wpList_nil ?_
   refine hK7 _ _ ?_
   clear hK7
   refine wp_region_lit ?_
   refine F.vl (R_add rfl (F.at rfl) (ev_c fa _) (by omega) (by omega)) ?_;clear F fa;intro fa F
   refine F.mv ?_;clear F fa;intro fa F
   refine wpList_nil ?_
   show _ ∧ _
   exact ⟨by omega,_,⟨_,_,_,rfl,E,oo,hkl,(by omega)⟩,F.sub (.c 3 rfl (.c 5 rfl (.c 0 rfl .n)))⟩
  ·skip
   have hst:=take_filter (s:=s) (show i < 6 by omega)
   rw [if_neg (by rw [hc10];decide),List.append_nil] at hst
   rw [← hst] at oo hkl
   refine wp_skip ?_
   refine hK7 _ _ ?_
   clear hK7
   refine wp_region_lit ?_
   refine F.vl (R_add rfl (F.at rfl) (ev_c fa _) (by omega) (by omega)) ?_;clear F fa;intro fa F
   refine F.mv ?_;clear F fa;intro fa F
   refine wpList_nil ?_
   show _ ∧ _
   exact ⟨by omega,_,⟨_,_,_,rfl,E,oo,hkl,(by omega)⟩,F.sub (.c 3 rfl (.c 5 rfl (.c 0 rfl .n)))⟩
 ·skip
  refine wp_exit ?_
  rw [List.take_of_length_le (show (List.range 6).length ≤ i by rw [List.length_range];omega)] at oo hkl
  replace hkl : k = (setList s).length:=hkl
  replace oo : w1.ownsRow w.heap.size 3 1 (.slice va k vc) k (ivs (setList s)):=oo
  refine hK3 _ _ ?_
  clear hK3
  refine wp_seq_k fun K10 hK10=>?_
  refine wp_region_lit ?_
  refine F.mv ?_;clear F fa;intro fa F
  refine F.as ?_;clear F fa;intro fa F
  refine wpList_nil ?_
  refine hK10 _ _ ?_
  clear hK10
  refine wp_ret ?_
  (try simp only [Exit.inBlock,Exit.then,reduceIte])
  refine rt_v F (rs_1 F rfl rfl) ?_
  rw [← hkl]
  exact ⟨va,vc,rfl,oo,E⟩
def onesT : ByteArray:={ data:=(([0,1,1,2,1,2,2,3,1,2,2,3,2,3,3,4,1,2,2,3,2,3,3,4,2,3,3,4,3,4,4,5,1,2,2,3,2,3,3,4,2,3,3,4,3,4,4,5,2,3,3,4,3,4,4,5,3,4,4,5,4,5,5,6].append [1,2,2,3,2,3,3,4,2,3,3,4,3,4,4,5,2,3,3,4,3,4,4,5,3,4,4,5,4,5,5,6,2,3,3,4,3,4,4,5,3,4,4,5,4,5,5,6,3,4,4,5,4,5,5,6,4,5,5,6,5,6,6,7]).append ([1,2,2,3,2,3,3,4,2,3,3,4,3,4,4,5,2,3,3,4,3,4,4,5,3,4,4,5,4,5,5,6,2,3,3,4,3,4,4,5,3,4,4,5,4,5,5,6,3,4,4,5,4,5,5,6,4,5,5,6,5,6,6,7].append [2,3,3,4,3,4,4,5,3,4,4,5,4,5,5,6,3,4,4,5,4,5,5,6,4,5,5,6,5,6,6,7,3,4,4,5,4,5,5,6,4,5,5,6,5,6,6,7,4,5,5,6,5,6,6,7,5,6,6,7,6,7,7,8])).toArray }
theorem ones_hb : ∀ s,s < 64 → onesT[(((s : Nat) : Int)).toNat]? = some (UInt8.ofNat (setLen s)):=by decide +kernel
theorem ones_val : ∀ s,s < 64 → IntKind.i64.wrap (((UInt8.ofNat (setLen s)).toNat : Nat) : Int) = ((setLen s : Nat) : Int):=by decide +kernel
set_option maxRecDepth 100000 in
theorem ones_any (s : Nat) (hs : s < 64) (w : World) : Calls Tryz.prog 92 #[.int .u8 ((s : Nat) : Int)] w fun e w'=>e = .returned (.int .i64 ((setLen s : Nat) : Int)) ∧ Ext [] w w':=by
 have E : Ext [] w w:=Ext.refl _ _
 refine calls_has 6 Tryz.func92 rfl Tryz.ntmps92 (Nat.le_of_ble_eq_true rfl) ?_
 intro fa F
 refine wp_seq_k fun K1 hK1=>?_
 refine wp_region_lit ?_
 refine F.vl (R_assign rfl (ev_c fa _)) ?_;clear F fa;intro fa F
 refine wpList_nil ?_
 refine hK1 _ _ ?_
 clear hK1
 refine wp_seq_k fun K2 hK2=>?_
 refine wp_region_lit ?_
 refine F.mv ?_;clear F fa;intro fa F
 refine F.vl ((R_indexStr (s:=onesT) rfl (ev_c fa _) (F.at rfl) Tryz.underlying9 (by omega) (ones_hb s hs))) ?_;clear F fa;intro fa F
 refine F.vl ((R_convert rfl (F.at rfl) Tryz.underlying5 Tryz.underlying3)) ?_;clear F fa;intro fa F
 refine F.as ?_;clear F fa;intro fa F
 refine wpList_nil ?_
 refine hK2 _ _ ?_
 clear hK2
 refine wp_ret ?_
 (try simp only [Exit.inBlock,Exit.then,reduceIte])
 refine rt_v F (rs_1 F rfl rfl) ?_
 exact ⟨ret_int (ones_val s hs),E⟩
theorem count_ok (s : Nat) (hs : s < 64) (w : World) : Calls Tryz.prog 67 #[.int .u8 ((s : Nat) : Int)] w fun e w'=>e = .returned (.int .i64 ((setLen s : Nat) : Int)) ∧ Ext [] w w':=by
 have E : Ext [] w w:=Ext.refl _ _
 refine calls_has 5 Tryz.func67 rfl Tryz.ntmps67 (Nat.le_of_ble_eq_true rfl) ?_
 intro fa F
 refine wp_seq_k fun K1 hK1=>?_
 refine wp_region_lit ?_
 refine F.vl (R_assign rfl (ev_c fa _)) ?_;clear F fa;intro fa F
 refine wpList_nil ?_
 refine hK1 _ _ ?_
 clear hK1
 refine wp_seq_k fun K2 hK2=>?_
 refine wp_region_lit ?_
 refine F.mv ?_;clear F fa;intro fa F
 refine sq_call F rfl (by decide) rfl (R_callV rfl rfl Tryz.call92 (mpS (F.at rfl) mp0)) (ones_any s hs _) fun e w1 hR=>?_
 obtain ⟨rfl,e9⟩:=hR
 refine ⟨_,rfl,?_⟩;clear F fa;intro fa F
 replace E:=ext_same E (e9)
 clear e9
 refine F.as ?_;clear F fa;intro fa F
 refine wpList_nil ?_
 refine hK2 _ _ ?_
 clear hK2
 refine wp_ret ?_
 (try simp only [Exit.inBlock,Exit.then,reduceIte])
 refine rt_v F (rs_1 F rfl rfl) ?_
 exact ⟨rfl,E⟩
set_option maxRecDepth 100000 in
theorem indexF_any (xs : List Int) (f : FuncId) (cs : Array Value) (p : Int → Bool) (a : Option Addr) (c : Nat) (w : World) (hx : IsRows w (.slice a xs.length c) 1 (xs.map intRow)) (hl : xs.length ≤ 1000)
  (hf : ∀ args w,(callFunc f args).run Tryz.prog w = .ok (.enter f args) w) (hc : ∀ W,Ext [] w W → ∀ n ∈ xs,Calls Tryz.prog f (#[] ++ [Value.int .i64 n].toArray ++ cs) W fun e W'=>e = .returned (.bool (p n)) ∧ Ext [] W W') :
  Calls Tryz.prog 90 #[.slice a xs.length c,.func (.func f) #[] cs] w fun e w'=>∃ r,e = .returned (.int .i64 r) ∧ decide (0 ≤ r) = xs.any p ∧ Ext [] w w':=by
 have E : Ext [] w w:=Ext.refl _ _
 have HS:=Lib.hid (slAt_of_rows hx 0)
 have HC:=Lib.hid hc
 have HF:=Lib.hid hf
 clear hx hc hf
 refine calls_has 19 Tryz.func90 rfl Tryz.ntmps90 (Nat.le_of_ble_eq_true rfl) ?_
 intro fa F
 refine wp_seq_k fun K1 hK1=>?_
 refine wp_region_lit ?_
 refine F.vl (R_assign rfl (ev_c fa _)) ?_;clear F fa;intro fa F
 refine wpList_nil ?_
 refine hK1 _ _ ?_
 clear hK1
 refine wp_seq_k fun K2 hK2=>?_
 refine wp_seq_k fun K3 hK3=>?_
 refine wp_region_lit ?_
 refine F.mv ?_;clear F fa;intro fa F
 refine F.vl (R_len rfl rfl (F.at rfl) Tryz.underlying25) ?_;clear F fa;intro fa F
 refine F.vl (R_move rfl (ev_c fa _)) ?_;clear F fa;intro fa F
 refine wpList_nil ?_
 refine hK3 _ _ ?_
 clear hK3
 refine wp_block ?_
 have F0:=F.sub (.c 0 rfl (.c 1 rfl (.c 7 rfl .n)))
 refine lp_for F0 (xs.length) (fun i Lv W=>Lv = [(8,.int .i64 ((i : Nat) : Int))] ∧ Ext [] w W ∧ ∀ j,j < i → p (xs.getD j 0) = false) ⟨_,⟨rfl,E,(fun j h=>by omega)⟩,F.sub (.c 8 rfl (.c 0 rfl (.c 1 rfl (.c 7 rfl .n))))⟩ ?_
 clear F F0
 clear E
 rintro i _ fa w1 hi1 ⟨rfl,E,hb⟩ F
 refine wp_seq_k fun K4 hK4=>?_
 refine wp_region_lit ?_
 refine F.vl (R_lss rfl (F.at rfl) (F.at rfl)) ?_;clear F fa;intro fa F
 refine wpList_nil ?_
 refine hK4 _ _ ?_
 clear hK4
 refine wp_seq_k fun K5 hK5=>?_
 refine cd_if F rfl (fun hc9=>?_) (fun hc9=>?_)
 ·skip
  refine wp_skip ?_
  refine hK5 _ _ ?_
  clear hK5
  refine wp_seq_k fun K6 hK6=>?_
  refine wp_block ?_
  refine wp_seq_k fun K7 hK7=>?_
  refine wp_region_lit ?_
  refine F.mv ?_;clear F fa;intro fa F
  refine F.as ?_;clear F fa;intro fa F
  refine wpList_nil ?_
  refine hK7 _ _ ?_
  clear hK7
  refine wp_seq_k fun K8 hK8=>?_
  refine wp_region_lit ?_
  refine F.mv ?_;clear F fa;intro fa F
  refine F.mv ?_;clear F fa;intro fa F
  refine F.mv ?_;clear F fa;intro fa F
  obtain ⟨xb9,xo9,xa9,xr9⟩:=HS.out i (by omega)
  refine F.vl (R_ixSlice (sz:=1) rfl ((F.at rfl).trans (xa9 _ _)) (F.at rfl) Tryz.underlying25 (by kernel_rfl) (by omega) (by omega)) ?_;clear F fa;intro fa F
  refine F.vl (R_load rfl (F.at rfl) Tryz.underlying3 rfl (xr9 _ E 0 _ rfl)) ?_;clear F fa;intro fa F
  refine sq_call F rfl (by decide) rfl (R_callF rfl (F.at rfl) HF.out (mpS (F.at rfl) mp0) rfl) (HC.out _ E _ (getD_mem 0 (by omega))) fun e w2 hR=>?_
  obtain ⟨rfl,e9⟩:=hR
  refine ⟨_,rfl,?_⟩;clear F fa;intro fa F
  replace E:=ext_same E (e9)
  clear e9
  refine wpList_nil ?_
  refine hK8 _ _ ?_
  clear hK8
  refine cd_b F rfl (fun hc16=>?_) (fun hc16=>?_)
  ·skip
   refine wp_seq_k fun K10 hK10=>?_
   refine wp_region_lit ?_
   refine F.mv ?_;clear F fa;intro fa F
   refine F.as ?_;clear F fa;intro fa F
   refine wpList_nil ?_
   refine hK10 _ _ ?_
   clear hK10
   refine wp_ret ?_
   (try simp only [Exit.inBlock,Exit.then,reduceIte])
   refine rt_v F (rs_1 F rfl rfl) ?_
   exact ⟨_,rfl,(by rw [decide_eq_true (by omega),List.any_eq_true.2 ⟨_,getD_mem 0 (by omega),hc16⟩]),E⟩
  ·skip
   refine wp_skip ?_
   refine hK6 _ _ ?_
   clear hK6
   refine wp_region_lit ?_
   refine F.vl (R_add rfl (F.at rfl) (ev_c fa _) (by omega) (by omega)) ?_;clear F fa;intro fa F
   refine F.mv ?_;clear F fa;intro fa F
   refine wpList_nil ?_
   show _ ∧ _
   exact ⟨by omega,_,⟨rfl,E,(fun j h=>by rcases Nat.lt_succ_iff_lt_or_eq.1 h with h | rfl;(· exact hb j h);(· exact hc16))⟩,F.sub (.c 8 rfl (.c 0 rfl (.c 1 rfl (.c 7 rfl .n))))⟩
 ·skip
  refine wp_exit ?_
  refine hK2 _ _ ?_
  clear hK2
  refine wp_seq_k fun K11 hK11=>?_
  refine wp_region_lit ?_
  refine F.vl (R_assign rfl (ev_c fa _)) ?_;clear F fa;intro fa F
  refine wpList_nil ?_
  refine hK11 _ _ ?_
  clear hK11
  refine wp_ret ?_
  (try simp only [Exit.inBlock,Exit.then,reduceIte])
  refine rt_v F (rs_1 F rfl rfl) ?_
  exact ⟨_,rfl,(by rw [decide_eq_false (by omega)];symm;rw [List.any_eq_false];intro n hn;obtain ⟨j,hj,rfl⟩:=List.getElem_of_mem hn;have:=hb j (by omega);simpa [hj] using this),E⟩
theorem containsF_any (xs : List Int) (f : FuncId) (cs : Array Value) (p : Int → Bool) (a : Option Addr) (c : Nat) (w : World) (hx : IsRows w (.slice a xs.length c) 1 (xs.map intRow)) (hl : xs.length ≤ 1000)
  (hf : ∀ args w,(callFunc f args).run Tryz.prog w = .ok (.enter f args) w) (hc : ∀ W,Ext [] w W → ∀ n ∈ xs,Calls Tryz.prog f (#[] ++ [Value.int .i64 n].toArray ++ cs) W fun e W'=>e = .returned (.bool (p n)) ∧ Ext [] W W') :
  Calls Tryz.prog 64 #[.slice a xs.length c,.func (.func f) #[] cs] w fun e w'=>e = .returned (.bool (xs.any p)) ∧ Ext [] w w':=by
 have E : Ext [] w w:=Ext.refl _ _
 have HX:=Lib.hid hx
 have HC:=Lib.hid hc
 have HF:=Lib.hid hf
 clear hx hc hf
 refine calls_has 9 Tryz.func64 rfl Tryz.ntmps64 (Nat.le_of_ble_eq_true rfl) ?_
 intro fa F
 refine wp_seq_k fun K1 hK1=>?_
 refine wp_region_lit ?_
 refine F.vl (R_assign rfl (ev_c fa _)) ?_;clear F fa;intro fa F
 refine wpList_nil ?_
 refine hK1 _ _ ?_
 clear hK1
 refine wp_seq_k fun K2 hK2=>?_
 refine wp_region_lit ?_
 refine F.mv ?_;clear F fa;intro fa F
 refine F.mv ?_;clear F fa;intro fa F
 refine sq_call F rfl (by decide) rfl (R_callV rfl rfl Tryz.call90 (mpS (F.at rfl) (mpS (F.at rfl) mp0))) (indexF_any xs f cs p a c _ (HX.out.ext E (by simp)) hl HF.out (fun W e=>HC.out W (E.trans e))) fun e w1 hR=>?_
 obtain ⟨r,rfl,hr,e9⟩:=hR
 refine ⟨_,rfl,?_⟩;clear F fa;intro fa F
 replace E:=ext_same E (e9)
 clear e9
 refine F.vl (R_geq rfl (F.at rfl) (ev_c fa _)) ?_;clear F fa;intro fa F
 refine F.as ?_;clear F fa;intro fa F
 refine wpList_nil ?_
 refine hK2 _ _ ?_
 clear hK2
 refine wp_ret ?_
 (try simp only [Exit.inBlock,Exit.then,reduceIte])
 refine rt_v F (rs_1 F rfl rfl) ?_
 exact ⟨ret_bool hr,E⟩
set_option maxRecDepth 100000 in
theorem most1_ok (x : Vm) (hv : VOk x) (T : List (List Int)) (hT : ∀ t ∈ T,TubS (val t)) (ma : Option Addr) (mc n8 n9 n11 n12 j k l : Nat) (hj : j < T.length) (hk : k < T.length) (hl : l < x.L.length) (w : World) (h : x.At w)
  (q8 : w.heap[n8]? = some (.cells #[.int .i64 x.B,.slice x.da x.D.length x.dc,.slice x.la x.L.length x.lc,.int .i64 x.tol] 69 (0,0))) (q9 : w.heap[n9]? = some (.cells #[.slice ma T.length mc] 72 (0,0))) (q11 : w.heap[n11]? = some (.cells #[.int .i64 ((j : Nat) : Int)] 3 (0,0))) (q12 : w.heap[n12]? = some (.cells #[.int .i64 ((k : Nat) : Int)] 3 (0,0)))
  (hs : SlAt [] w ma 4 T.length (fun i=>tubR (val (T.getD i [])))) (h6 : T.length ≤ 6) :
  Calls Tryz.prog 65 #[.int .i64 ((l : Nat) : Int),.pointer (some ⟨n8,0,none⟩),.pointer (some ⟨n9,0,none⟩),.pointer (some ⟨n11,0,none⟩),.pointer (some ⟨n12,0,none⟩)] w fun e w'=>e = .returned (.bool (!alkE x l (val (T.getD j [])) (val (T.getD k [])))) ∧ Ext [] w w':=by
 have E : Ext [] w w:=Ext.refl _ _
 have HX:=Lib.hid h
 have HV:=Lib.hid hv
 have HT:=Lib.hid hT
 have HS:=Lib.hid hs
 clear h hv hT hs
 refine calls_has 19 Tryz.func65 rfl Tryz.ntmps65 (Nat.le_of_ble_eq_true rfl) ?_
 intro fa F
 refine wp_seq_k fun K1 hK1=>?_
 refine wp_region_lit ?_
 refine F.vl (R_assign rfl (ev_c fa _)) ?_;clear F fa;intro fa F
 refine wpList_nil ?_
 refine hK1 _ _ ?_
 clear hK1
 refine wp_seq_k fun K2 hK2=>?_
 refine wp_region_st 10 follows (by kernel_rfl) fun w1 hh eh=>?_
 replace q8:=keep_same hh q8
 replace q9:=keep_same hh q9
 replace q11:=keep_same hh q11
 replace q12:=keep_same hh q12
 replace E:=ext_same E eh
 clear hh eh
 refine F.sv (R_loadBlk rfl (F.at rfl) Tryz.underlying69 rfl (by kernel_rfl) q8) ?_;clear F fa;intro fa F
 refine F.smv ?_;clear F fa;intro fa F
 refine F.sv (R_load rfl (F.at rfl) Tryz.underlying72 rfl ((cells_of_block q9 0).trans (get0))) ?_;clear F fa;intro fa F
 refine F.sv (R_load rfl (F.at rfl) Tryz.underlying3 rfl ((cells_of_block q11 0).trans (get0))) ?_;clear F fa;intro fa F
 obtain ⟨xb3,xo3,xa3,xr3⟩:=HS.out j (by omega)
 refine F.sv (R_ixSlice (sz:=4) rfl ((F.at rfl).trans (xa3 _ _)) (F.at rfl) Tryz.underlying72 (by kernel_rfl) (by omega) (by omega)) ?_;clear F fa;intro fa F
 refine F.sv (R_loadRow rfl (F.at rfl) Tryz.underlying75 rfl (by kernel_rfl) (xr3 _ E)) ?_;clear F fa;intro fa F
 refine F.sv (R_load rfl (F.at rfl) Tryz.underlying72 rfl ((cells_of_block q9 0).trans (get0))) ?_;clear F fa;intro fa F
 refine F.sv (R_load rfl (F.at rfl) Tryz.underlying3 rfl ((cells_of_block q12 0).trans (get0))) ?_;clear F fa;intro fa F
 obtain ⟨xb4,xo4,xa4,xr4⟩:=HS.out k (by omega)
 refine F.sv (R_ixSlice (sz:=4) rfl ((F.at rfl).trans (xa4 _ _)) (F.at rfl) Tryz.underlying72 (by kernel_rfl) (by omega) (by omega)) ?_;clear F fa;intro fa F
 refine F.sv (R_loadRow rfl (F.at rfl) Tryz.underlying75 rfl (by kernel_rfl) (xr4 _ E)) ?_;clear F fa;intro fa F
 refine wpStill_nil ?_
 refine sq_call F rfl (by decide) rfl (R_callV rfl rfl Tryz.call57 (mpS (F.at rfl) (mpS (F.at rfl) (mpS (F.at rfl) (mpS (F.at rfl) mp0))))) (alike_ok x HV.out l hl (val (T.getD j [])) (val (T.getD k [])) (HT.out _ (getD_memL [] (by omega))) (HT.out _ (getD_memL [] (by omega))) _ (HX.out.ext E)) fun e w2 hR=>?_
 obtain ⟨rfl,e9⟩:=hR
 refine ⟨_,rfl,?_⟩;clear F fa;intro fa F
 replace q8:=(e9).keep0 q8
 replace q9:=(e9).keep0 q9
 replace q11:=(e9).keep0 q11
 replace q12:=(e9).keep0 q12
 replace E:=ext_same E (e9)
 clear e9
 refine F.vl (R_not rfl (F.at rfl)) ?_;clear F fa;intro fa F
 refine F.as ?_;clear F fa;intro fa F
 refine wpList_nil ?_
 refine hK2 _ _ ?_
 clear hK2
 refine wp_ret ?_
 (try simp only [Exit.inBlock,Exit.then,reduceIte])
 refine rt_v F (rs_1 F rfl rfl) ?_
 exact ⟨rfl,E⟩
end Go.Proofs.YtdjeecgddbjbeaaGreat
