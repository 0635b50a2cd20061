/- Parts of a proof: Dsp, Dfo, Dcx. No conditions. -/
import Derived.Test.YtdjeecgddbjbeaaGreatKr4
import Derived.Test.YtdjeecgddbjbeaaGreatKr12
set_option linter.unusedVariables false
set_option linter.unusedSimpArgs false
namespace Go.Proofs.YtdjeecgddbjbeaaGreat.MI
open Go.RowKit
def gB (nd : Nat) (L : List (List Int)) (k : Nat) : Bool:=decide (k < nd) && L.all fun t=>decide (val t k ≠ 0)
def gS (nd : Nat) (L : List (List Int)) (t : List Int) (d k : Nat) : Bool:=gB nd L k && (decide (d ≤ k) || decide (val t k ≠ 0))
theorem gB_nil (nd k : Nat) : decide (k < nd) = gB nd [] k:=by simp [gB]
theorem gB_put (i k : Nat) : (if k = i then true else decide (k < i)) = decide (k < i + 1):=by
 by_cases h : k = i
 ·rw [if_pos h,decide_eq_true (by omega)]
 ·rw [if_neg h,decide_eq_decide];omega
theorem gS_zero (nd : Nat) (L : List (List Int)) (t : List Int) (k : Nat) : gB nd L k = gS nd L t 0 k:=by simp [gS]
theorem gS_end (nd : Nat) (L : List (List Int)) (t : List Int) (k : Nat) : gS nd L t nd k = gB nd (L ++ [t]) k:=by
 by_cases h : k < nd
 ·simp [gS,gB,h,show ¬ nd ≤ k by omega]
 ·simp [gS,gB,h]
theorem gS_del {nd : Nat} {L : List (List Int)} {t : List Int} {d : Nat} (h : val t d = 0) (k : Nat) : (if k = d then false else gS nd L t d k) = gS nd L t (d + 1) k:=by
 by_cases e : k = d
 ·subst e;rw [if_pos rfl];simp [gS,h]
 ·rw [if_neg e,gS,gS,show decide (d ≤ k) = decide (d + 1 ≤ k) from decide_eq_decide.2 (by omega)]
theorem gS_keep {nd : Nat} {L : List (List Int)} {t : List Int} {d : Nat} (h : val t d ≠ 0) (k : Nat) : gS nd L t d k = gS nd L t (d + 1) k:=by
 by_cases e : k = d
 ·subst e;simp [gS,h]
 ·rw [gS,gS,show decide (d ≤ k) = decide (d + 1 ≤ k) from decide_eq_decide.2 (by omega)]
def spaT (g : Nat → Bool) (d : Nat) : List Int:=((List.range d).filter fun j=>!g j).map fun j : Nat=>((j : Nat) : Int)
theorem spaT_put {g : Nat → Bool} {d : Nat} (h : g d = false) : spaT g d ++ [((d : Nat) : Int)] = spaT g (d + 1):=by
 rw [spaT,spaT,List.range_succ,List.filter_append,List.map_append,List.filter_cons_of_pos (by rw [h];rfl)];rfl
theorem spaT_skip {g : Nat → Bool} {d : Nat} (h : g d = true) : spaT g d = spaT g (d + 1):=by
 rw [spaT,spaT,List.range_succ,List.filter_append,List.map_append,List.filter_cons_of_neg (by rw [h];simp)];simp
theorem spaT_len (g : Nat → Bool) (d : Nat) : (spaT g d).length ≤ d:=by
 rw [spaT,List.length_map]
 exact Nat.le_trans (List.length_filter_le _ _) (by simp)
def spaR (x : Vm) (s : Nat → Int) (ls : List Int) : List Int × Int:=if matL x s ls = [] then ([],11) else (spaT (gB x.D.length (matL x s ls)) x.D.length,0)
set_option maxRecDepth 100000 in
set_option maxHeartbeats 2000000 in
theorem xSpare_ok (x : Vm) (hv : VOk x) (s : List Int) (hs : SmpOk x s) (ls : List Int) (hl : LmpsOk x ls) (hll : ls.length ≤ 1000) (a b : Option Addr) (c d : Nat) (w : World) (h : x.At w) (hr : IsRows w (.slice a s.length c) 1 (s.map intRow)) (hq : IsRows w (.slice b ls.length d) 1 (ls.map intRow)) :
  Calls Tryz.prog 20 #[.agg #[.int .i64 x.B,.slice x.da x.D.length x.dc,.slice x.la x.L.length x.lc,.int .i64 x.tol],.slice a s.length c,.slice b ls.length d] w (IntsPost (spaR x (val s) ls) w):=by
 have E : Ext [] w w:=Ext.refl _ _
 have HX:=Lib.hid h
 have HV:=Lib.hid hv
 have HR:=Lib.hid hr
 have HQ:=Lib.hid hq
 have HL:=Lib.hid hl
 have HS:=Lib.hid hs
 have hd4:=hv.d4
 obtain ⟨T,hT⟩ : ∃ T,T = matL x (val s) ls:=⟨_,rfl⟩
 obtain ⟨r,hr0⟩ : ∃ r,r = spaR x (val s) ls:=⟨_,rfl⟩
 have hr1:=hr0
 rw [spaR,← hT] at hr1
 have HM : RowKit.Hid (∀ t ∈ T,t.length = x.D.length ∧ TubS (val t)):=Lib.hid (fun t ht=>mat_mem hv (by rw [← hT];exact ht))
 have htl : T.length ≤ 500:=by rw [hT];exact mat_len hv
 rw [← hr0]
 clear h hv hr hq hl hs hr0
 refine calls_hasM 80 Tryz.func20 rfl Tryz.ntmps20 (Nat.le_of_ble_eq_true rfl) ?_
 intro fa F
 refine wp_seq_k fun K1 hK1=>?_
 refine wp_region_lit ?_
 refine sq_new F rfl (by decide) rfl (R_box rfl (F.at rfl)) ?_;clear F fa;intro fa w1 F hw
 obtain ⟨n3,hn⟩ : ∃ n,n = w.heap.size:=⟨_,rfl⟩
 rw [← hn] at F
 have s3 : w.heap.size ≤ n3:=Nat.le_of_eq hn.symm
 have l3_E : w.heap.size ≤ n3:=by rw [hn];exact E.size
 replace E:=ext_alloc E hw
 have q3:=new_row hw hn
 clear hw hn
 refine F.vl (R_assign rfl (ev_c fa _)) ?_;clear F fa;intro fa F
 refine sq_new F rfl (by decide) rfl (R_alloc rfl Tryz.zeroValue35) ?_;clear F fa;intro fa w2 F hw
 obtain ⟨n7,hn⟩ : ∃ n,n = w1.heap.size:=⟨_,rfl⟩
 rw [← hn] at F
 have s7 : w1.heap.size ≤ n7:=Nat.le_of_eq hn.symm
 have l7_E : w.heap.size ≤ n7:=by rw [hn];exact E.size
 have m7_3 : n3 < n7:=by rw [hn];exact blk_lt q3
 replace q3:=keep_alloc hw q3
 replace E:=ext_alloc E hw
 have q7:=new_one hw rfl hn
 clear hw hn
 refine wpList_nil ?_
 refine hK1 _ _ ?_
 clear hK1
 refine wp_seq_k fun K2 hK2=>?_
 refine wp_region_lit ?_
 refine sq_defer F rfl rfl (R_defer rfl rfl (mpS (F.at rfl) mp0)) ?_;clear F fa;intro fa F
 refine wpList_nil ?_
 refine hK2 _ _ ?_
 clear hK2
 refine wp_seq_k fun K3 hK3=>?_
 refine wp_region_lit ?_
 refine F.vl (R_loadBlk rfl (F.at rfl) Tryz.underlying24 rfl (by kernel_rfl) q3) ?_;clear F fa;intro fa F
 refine sq_call F rfl (by decide) rfl (R_callV rfl rfl Tryz.call40 (mpS (F.at rfl) mp0)) (begin_ok x HV.out _ (HX.out.ext E)) fun e w3 hR=>?_
 obtain ⟨rfl,e9⟩:=hR
 refine ⟨_,rfl,?_⟩;clear F fa;intro fa F
 replace q3:=(e9).keep0 q3
 replace q7:=(e9).keep0 q7
 replace E:=ext_same E (e9)
 clear e9
 refine sq_new F rfl (by decide) rfl (R_alloc rfl Tryz.zeroValue69) ?_;clear F fa;intro fa w4 F hw
 obtain ⟨n8,hn⟩ : ∃ n,n = w3.heap.size:=⟨_,rfl⟩
 rw [← hn] at F
 have s8 : w3.heap.size ≤ n8:=Nat.le_of_eq hn.symm
 have l8_E : w.heap.size ≤ n8:=by rw [hn];exact E.size
 have m8_3 : n3 < n8:=by rw [hn];exact blk_lt q3
 have m8_7 : n7 < n8:=by rw [hn];exact blk_lt q7
 replace q3:=keep_alloc hw q3
 replace q7:=keep_alloc hw q7
 replace E:=ext_alloc E hw
 have q8:=new_row hw hn
 clear hw hn
 refine sq_to rfl rfl (R_storeRow rfl (F.at rfl) (F.at rfl) (by kernel_rfl) (by first | (simp [Value.oneCell'];done) | (simp [Value.oneCell',tubR];done)) q8 rfl) ?_;intro w5 hw
 replace q3:=keep_cells hw q3 (by omega)
 replace q7:=keep_cells hw q7 (by omega)
 replace q8:=put_row hw q8 rfl
 replace E:=ext_cells E hw (fun h=>by first | exact absurd h (by omega) | simp)
 clear hw
 refine wpList_nil ?_
 refine hK3 _ _ ?_
 clear hK3
 refine wp_seq_k fun K4 hK4=>?_
 refine wp_region_lit ?_
 refine F.vl (R_loadBlk rfl (F.at rfl) Tryz.underlying69 rfl (by kernel_rfl) q8) ?_;clear F fa;intro fa F
 refine F.mv ?_;clear F fa;intro fa F
 refine sq_call F rfl (by decide) rfl (R_callV rfl rfl Tryz.call41 (mpS (F.at rfl) (mpS (F.at rfl) mp0))) (sample_ok x HV.out s HS.out a c _ (HR.out.ext E (by simp))) fun e w6 hR=>?_
 obtain ⟨rfl,e9⟩:=hR
 refine ⟨_,rfl,?_⟩;clear F fa;intro fa F
 replace q3:=(e9).keep0 q3
 replace q7:=(e9).keep0 q7
 replace q8:=(e9).keep0 q8
 replace E:=ext_same E (e9)
 clear e9
 refine wpList_nil ?_
 refine hK4 _ _ ?_
 clear hK4
 refine wp_seq_k fun K5 hK5=>?_
 refine wp_region_lit ?_
 refine F.vl (R_loadBlk rfl (F.at rfl) Tryz.underlying69 rfl (by kernel_rfl) q8) ?_;clear F fa;intro fa F
 refine F.mv ?_;clear F fa;intro fa F
 refine sq_call F rfl (by decide) rfl (R_callV rfl rfl Tryz.call42 (mpS (F.at rfl) (mpS (F.at rfl) mp0))) (lamps_ok x HV.out ls HL.out hll b d _ (HX.out.ext E) (HQ.out.ext E (by simp))) fun e w7 hR=>?_
 obtain ⟨rfl,e9⟩:=hR
 refine ⟨_,rfl,?_⟩;clear F fa;intro fa F
 replace q3:=(e9).keep0 q3
 replace q7:=(e9).keep0 q7
 replace q8:=(e9).keep0 q8
 replace E:=ext_same E (e9)
 clear e9
 refine wpList_nil ?_
 refine hK5 _ _ ?_
 clear hK5
 refine wp_seq_k fun K6 hK6=>?_
 refine wp_region_lit ?_
 refine sq_new F rfl (by decide) rfl (R_makeMap rfl) ?_;clear F fa;intro fa w8 F hw
 obtain ⟨n24,hn⟩ : ∃ n,n = w7.heap.size:=⟨_,rfl⟩
 rw [← hn] at F
 have s24 : w7.heap.size ≤ n24:=Nat.le_of_eq hn.symm
 have l24_E : w.heap.size ≤ n24:=by rw [hn];exact E.size
 have m24_3 : n3 < n24:=by rw [hn];exact blk_lt q3
 have m24_7 : n7 < n24:=by rw [hn];exact blk_lt q7
 have m24_8 : n8 < n24:=by rw [hn];exact blk_lt q8
 replace q3:=keep_alloc hw q3
 replace q7:=keep_alloc hw q7
 replace q8:=keep_alloc hw q8
 replace E:=ext_alloc E hw
 have map24 : MapI w8 n24 0 (fun _=>false):=by rw [hw,hn];exact map_made _
 clear hw hn
 refine F.as ?_;clear F fa;intro fa F
 refine wpList_nil ?_
 refine hK6 _ _ ?_
 clear hK6
 refine wp_seq_k fun K7 hK7=>?_
 refine wp_seq_k fun K8 hK8=>?_
 refine wp_region_lit ?_
 refine F.vl (R_field rfl (F.at rfl) Tryz.underlying69 rfl (n:=0) (sz:=4) rfl (by kernel_rfl) (by decide)) ?_;clear F fa;intro fa F
 refine F.vl (R_field rfl (F.at rfl) Tryz.underlying24 rfl (n:=1) (sz:=1) rfl (by kernel_rfl) (by decide)) ?_;clear F fa;intro fa F
 refine F.vl (R_load rfl (F.at rfl) Tryz.underlying22 rfl ((cells_of_block q8 1).trans (getS (get0)))) ?_;clear F fa;intro fa F
 refine F.vl (R_len rfl rfl (F.at rfl) Tryz.underlying22) ?_;clear F fa;intro fa F
 refine F.vl (R_move rfl (ev_c fa _)) ?_;clear F fa;intro fa F
 refine wpList_nil ?_
 refine hK8 _ _ ?_
 clear hK8
 refine wp_block ?_
 have F0:=F.sub (.c 1 rfl (.c 2 rfl (.c 6 rfl (.c 7 rfl (.c 8 rfl (.c 9 rfl (.c 28 rfl .n)))))))
 refine lp_for F0 (x.D.length) (fun i Lv W=>Lv = [(29,.int .i64 ((i : Nat) : Int))] ∧ Ext [] w W ∧ W.heap[n3]? = some (.cells #[.int .i64 x.B,.slice x.da x.D.length x.dc,.slice x.la x.L.length x.lc,.int .i64 x.tol] 24 (0,0)) ∧ W.heap[n7]? = some (.cells #[.int .i64 0] 35 (0,0)) ∧ W.heap[n8]? = some (.cells #[.int .i64 x.B,.slice x.da x.D.length x.dc,.slice x.la x.L.length x.lc,.int .i64 x.tol] 69 (0,0)) ∧ MapI W n24 i (fun d=>decide (d < i))) ⟨_,⟨rfl,E,q3,q7,q8,(map24.congr (fun k=>by simp) (Nat.le_refl _))⟩,F.sub (.c 29 rfl (.c 1 rfl (.c 2 rfl (.c 6 rfl (.c 7 rfl (.c 8 rfl (.c 9 rfl (.c 28 rfl .n))))))))⟩ ?_
 clear F F0
 clear E q3 q7 q8
 clear map24
 rintro i _ fa w9 hi1 ⟨rfl,E,q3,q7,q8,map24⟩ F
 refine wp_seq_k fun K9 hK9=>?_
 refine wp_region_lit ?_
 refine F.vl (R_lss rfl (F.at rfl) (F.at rfl)) ?_;clear F fa;intro fa F
 refine wpList_nil ?_
 refine hK9 _ _ ?_
 clear hK9
 refine wp_seq_k fun K10 hK10=>?_
 refine cd_if F rfl (fun hc30=>?_) (fun hc30=>?_)
 ·skip
  refine wp_skip ?_
  refine hK10 _ _ ?_
  clear hK10
  refine wp_seq_k fun K11 hK11=>?_
  refine wp_block ?_
  refine wp_seq_k fun K12 hK12=>?_
  refine wp_region_lit ?_
  refine F.mv ?_;clear F fa;intro fa F
  refine F.as ?_;clear F fa;intro fa F
  refine wpList_nil ?_
  refine hK12 _ _ ?_
  clear hK12
  refine wp_region_lit ?_
  refine F.mv ?_;clear F fa;intro fa F
  refine F.mv ?_;clear F fa;intro fa F
  refine sq_exw rfl rfl (R_mapPutI (k:=i) rfl (F.at rfl) (F.at rfl) (ev_c fa _) (by omega) (by omega) map24) ?_;rintro w10 ⟨hM',hg⟩
  replace q3:=keep_map map24 hg q3
  replace q7:=keep_map map24 hg q7
  replace q8:=keep_map map24 hg q8
  replace E:=ext_mapX E hg (fun h=>by first | exact absurd h (by omega) | simp)
  replace map24:=hM'
  clear hg
  refine wpList_nil ?_
  refine hK11 _ _ ?_
  clear hK11
  refine wp_region_lit ?_
  refine F.vl (R_add rfl (F.at rfl) (ev_c fa _) (by omega) (by omega)) ?_;clear F fa;intro fa F
  refine F.mv ?_;clear F fa;intro fa F
  refine wpList_nil ?_
  show _ ∧ _
  exact ⟨by omega,_,⟨rfl,E,q3,q7,q8,(map24.congr (fun k=>gB_put i k) (Nat.le_refl _))⟩,F.sub (.c 29 rfl (.c 1 rfl (.c 2 rfl (.c 6 rfl (.c 7 rfl (.c 8 rfl (.c 9 rfl (.c 28 rfl .n))))))))⟩
 ·skip
  refine wp_exit ?_
  rw [show i = x.D.length by omega] at map24
  replace map24:=map24.congr (fun k=>gB_nil x.D.length k) (Nat.le_refl _)
  refine hK7 _ _ ?_
  clear hK7
  refine wp_seq_k fun K13 hK13=>?_
  refine wp_region_lit ?_
  refine F.vl (R_loadBlk rfl (F.at rfl) Tryz.underlying69 rfl (by kernel_rfl) q8) ?_;clear F fa;intro fa F
  refine F.mv ?_;clear F fa;intro fa F
  refine F.mv ?_;clear F fa;intro fa F
  have b24 : n24 < w9.heap.size:=(by obtain ⟨es,ck,hm⟩:=map24.obj;exact blk_lt hm)
  refine sq_call F rfl (by decide) rfl (R_callV rfl rfl Tryz.call43 (mpS (F.at rfl) (mpS (F.at rfl) (mpS (F.at rfl) mp0)))) (matching_ok x HV.out s HS.out ls HL.out.2.1 hll a b c d _ (HX.out.ext E) (HR.out.ext E (by simp)) (HQ.out.ext E (by simp))) fun e w11 hR=>?_
  obtain ⟨ma,mc,rfl,om,e9⟩:=hR
  refine ⟨_,rfl,?_⟩;clear F fa;intro fa F
  replace map24:=map_ext map24 (e9)
  replace q3:=(e9).keep0 q3
  replace q7:=(e9).keep0 q7
  replace q8:=(e9).keep0 q8
  replace E:=ext_same E (e9)
  clear e9
  rw [← hT] at F om
  have HT:=Lib.hid (slAt_of_tubs om rfl [n24] (by simpa using b24))
  clear om
  have E9 : Ext [n24] w11 w11:=Ext.refl _ _
  refine F.as ?_;clear F fa;intro fa F
  refine wpList_nil ?_
  refine hK13 _ _ ?_
  clear hK13
  refine wp_seq_k fun K14 hK14=>?_
  refine wp_seq_k fun K15 hK15=>?_
  refine wp_region_lit ?_
  refine F.mv ?_;clear F fa;intro fa F
  refine F.vl (R_len rfl rfl (F.at rfl) Tryz.underlying72) ?_;clear F fa;intro fa F
  refine F.vl (R_eqlD rfl (F.at rfl) (ev_c fa _)) ?_;clear F fa;intro fa F
  refine wpList_nil ?_
  refine hK15 _ _ ?_
  clear hK15
  refine cd_if F rfl (fun hc41=>?_) (fun hc41=>?_)
  ·skip
   rw [if_pos (List.length_eq_zero_iff.1 (by omega))] at hr1
   refine wp_seq_k fun K16 hK16=>?_
   refine wp_region_lit ?_
   refine F.vl (R_assign rfl (ev_c fa _)) ?_;clear F fa;intro fa F
   refine sq_to rfl rfl (R_store rfl (F.at rfl) (ev_c fa _) rfl (by kernel_rfl) ((cells_of_block q7 0).trans (get0)) (free_of_block q7 0)) ?_;intro w12 hw
   replace map24:=map_cell hw map24 q7
   replace q3:=keep_cell hw q3 (by omega)
   replace q7:=put_cell hw q7 (by simp only [List.setIfInBounds_toArray,lsQ,lzQ];exact rfl)
   replace q8:=keep_cell hw q8 (by omega)
   replace E:=ext_cell E hw (fun h=>by first | exact absurd h (by omega) | simp)
   clear hw
   refine wpList_nil ?_
   refine hK16 _ _ ?_
   clear hK16
   refine wp_ret ?_
   (try simp only [Exit.inBlock,Exit.then,reduceIte])
   refine rtM_v F ?_
   refine lv_caught ?_
   refine lv_nil (rs_tc F rfl rfl rfl Tryz.underlying35 rfl q7) ?_
   rw [hr1];exact ⟨none,0,rfl,World.ownsRow_nil _ _ _ _,E⟩
  ·skip
   rw [if_neg (fun h=>by rw [h] at hc41;simp at hc41)] at hr1
   refine wp_skip ?_
   refine hK14 _ _ ?_
   clear hK14
   refine wp_seq_k fun K17 hK17=>?_
   refine wp_seq_k fun K18 hK18=>?_
   refine wp_region_lit ?_
   refine F.mv ?_;clear F fa;intro fa F
   refine F.vl (R_len rfl rfl (F.at rfl) Tryz.underlying72) ?_;clear F fa;intro fa F
   refine F.vl (R_move rfl (ev_c fa _)) ?_;clear F fa;intro fa F
   refine wpList_nil ?_
   refine hK18 _ _ ?_
   clear hK18
   refine wp_block ?_
   have F0:=F.sub (.c 6 rfl (.c 7 rfl (.c 8 rfl (.c 9 rfl (.c 42 rfl (.c 43 rfl .n))))))
   refine lp_for F0 (T.length) (fun i Lv W=>Lv = [(44,.int .i64 ((i : Nat) : Int))] ∧ Ext [] w W ∧ Ext [n24] w11 W ∧ W.heap[n3]? = some (.cells #[.int .i64 x.B,.slice x.da x.D.length x.dc,.slice x.la x.L.length x.lc,.int .i64 x.tol] 24 (0,0)) ∧ W.heap[n7]? = some (.cells #[.int .i64 0] 35 (0,0)) ∧ W.heap[n8]? = some (.cells #[.int .i64 x.B,.slice x.da x.D.length x.dc,.slice x.la x.L.length x.lc,.int .i64 x.tol] 69 (0,0)) ∧ MapI W n24 x.D.length (gB x.D.length (T.take i))) ⟨_,⟨rfl,E,E9,q3,q7,q8,map24⟩,F.sub (.c 44 rfl (.c 6 rfl (.c 7 rfl (.c 8 rfl (.c 9 rfl (.c 42 rfl (.c 43 rfl .n)))))))⟩ ?_
   clear F F0
   clear E E9 q3 q7 q8
   clear map24
   rintro i _ fa w13 hi2 ⟨rfl,E,E9,q3,q7,q8,map24⟩ F
   refine wp_seq_k fun K19 hK19=>?_
   refine wp_region_lit ?_
   refine F.vl (R_lss rfl (F.at rfl) (F.at rfl)) ?_;clear F fa;intro fa F
   refine wpList_nil ?_
   refine hK19 _ _ ?_
   clear hK19
   refine wp_seq_k fun K20 hK20=>?_
   refine cd_if F rfl (fun hc45=>?_) (fun hc45=>?_)
   ·skip
    refine wp_skip ?_
    refine hK20 _ _ ?_
    clear hK20
    refine wp_seq_k fun K21 hK21=>?_
    refine wp_block ?_
    refine wp_seq_k fun K22 hK22=>?_
    refine wp_region_lit ?_
    obtain ⟨xb23,xo23,xa23,xr23⟩:=HT.out i (by omega)
    refine F.vl (R_ixSlice (sz:=4) rfl ((F.at rfl).trans (xa23 _ _)) (F.at rfl) Tryz.underlying72 (by kernel_rfl) (by omega) (by omega)) ?_;clear F fa;intro fa F
    refine F.vl (R_loadRow rfl (F.at rfl) Tryz.underlying75 rfl (by kernel_rfl) (xr23 _ E9)) ?_;clear F fa;intro fa F
    refine sq_new F rfl (by decide) rfl (R_alloc rfl Tryz.zeroValue75) ?_;clear F fa;intro fa w14 F hw
    obtain ⟨n13,hn⟩ : ∃ n,n = w13.heap.size:=⟨_,rfl⟩
    rw [← hn] at F
    have s13 : w13.heap.size ≤ n13:=Nat.le_of_eq hn.symm
    have l13_E : w.heap.size ≤ n13:=by rw [hn];exact E.size
    have l13_E9 : w11.heap.size ≤ n13:=by rw [hn];exact E9.size
    have m13_3 : n3 < n13:=by rw [hn];exact blk_lt q3
    have m13_7 : n7 < n13:=by rw [hn];exact blk_lt q7
    have m13_8 : n8 < n13:=by rw [hn];exact blk_lt q8
    replace map24:=map_alloc hw map24
    replace q3:=keep_alloc hw q3
    replace q7:=keep_alloc hw q7
    replace q8:=keep_alloc hw q8
    replace E:=ext_alloc E hw
    replace E9:=ext_alloc E9 hw
    have q13:=new_row hw hn
    clear hw hn
    refine sq_to rfl rfl (R_storeRow rfl (F.at rfl) (F.at rfl) (by kernel_rfl) (by first | (simp [Value.oneCell'];done) | (simp [Value.oneCell',tubR];done)) q13 rfl) ?_;intro w15 hw
    replace map24:=map_cells hw map24 q13
    replace q3:=keep_cells hw q3 (by omega)
    replace q7:=keep_cells hw q7 (by omega)
    replace q8:=keep_cells hw q8 (by omega)
    replace q13:=put_row hw q13 rfl
    replace E:=ext_cells E hw (fun h=>by first | exact absurd h (by omega) | simp)
    replace E9:=ext_cells E9 hw (fun h=>by first | exact absurd h (by omega) | simp)
    clear hw
    refine wpList_nil ?_
    have hts:=(HM.out (T.getD i []) (getD_memL [] (by omega))).2
    replace q13 : w15.heap[n13]? = some (.cells (tubC (val (T.getD i []))) 75 (0,0)):=q13
    refine hK22 _ _ ?_
    clear hK22
    refine wp_seq_k fun K24 hK24=>?_
    refine wp_region_lit ?_
    refine F.vl (R_field rfl (F.at rfl) Tryz.underlying69 rfl (n:=0) (sz:=4) rfl (by kernel_rfl) (by decide)) ?_;clear F fa;intro fa F
    refine F.vl (R_field rfl (F.at rfl) Tryz.underlying24 rfl (n:=1) (sz:=1) rfl (by kernel_rfl) (by decide)) ?_;clear F fa;intro fa F
    refine F.vl (R_load rfl (F.at rfl) Tryz.underlying22 rfl ((cells_of_block q8 1).trans (getS (get0)))) ?_;clear F fa;intro fa F
    refine F.vl (R_len rfl rfl (F.at rfl) Tryz.underlying22) ?_;clear F fa;intro fa F
    refine F.vl (R_move rfl (ev_c fa _)) ?_;clear F fa;intro fa F
    refine wpList_nil ?_
    refine hK24 _ _ ?_
    clear hK24
    refine wp_block ?_
    have F0:=F.sub (.c 6 rfl (.c 7 rfl (.c 8 rfl (.c 9 rfl (.c 13 rfl (.c 42 rfl (.c 43 rfl (.c 44 rfl (.c 51 rfl .n)))))))))
    refine lp_for F0 (x.D.length) (fun k Lv W=>Lv = [(52,.int .i64 ((k : Nat) : Int))] ∧ Ext [] w W ∧ Ext [n24] w11 W ∧ W.heap[n3]? = some (.cells #[.int .i64 x.B,.slice x.da x.D.length x.dc,.slice x.la x.L.length x.lc,.int .i64 x.tol] 24 (0,0)) ∧ W.heap[n7]? = some (.cells #[.int .i64 0] 35 (0,0)) ∧ W.heap[n8]? = some (.cells #[.int .i64 x.B,.slice x.da x.D.length x.dc,.slice x.la x.L.length x.lc,.int .i64 x.tol] 69 (0,0)) ∧ W.heap[n13]? = some (.cells (tubC (val (T.getD i []))) 75 (0,0)) ∧ MapI W n24 x.D.length (gS x.D.length (T.take i) (T.getD i []) k)) ⟨_,⟨rfl,E,E9,q3,q7,q8,q13,(map24.congr (fun k=>gS_zero _ _ _ k) (Nat.le_refl _))⟩,F.sub (.c 52 rfl (.c 6 rfl (.c 7 rfl (.c 8 rfl (.c 9 rfl (.c 13 rfl (.c 42 rfl (.c 43 rfl (.c 44 rfl (.c 51 rfl .n))))))))))⟩ ?_
    clear F F0
    clear E E9 q3 q7 q8 q13
    clear map24
    rintro k _ fa w16 hi3 ⟨rfl,E,E9,q3,q7,q8,q13,map24⟩ F
    refine wp_seq_k fun K25 hK25=>?_
    refine wp_region_lit ?_
    refine F.vl (R_lss rfl (F.at rfl) (F.at rfl)) ?_;clear F fa;intro fa F
    refine wpList_nil ?_
    refine hK25 _ _ ?_
    clear hK25
    refine wp_seq_k fun K26 hK26=>?_
    refine cd_if F rfl (fun hc53=>?_) (fun hc53=>?_)
    ·skip
     refine wp_skip ?_
     refine hK26 _ _ ?_
     clear hK26
     refine wp_seq_k fun K27 hK27=>?_
     refine wp_block ?_
     refine wp_seq_k fun K28 hK28=>?_
     refine wp_region_lit ?_
     refine F.mv ?_;clear F fa;intro fa F
     refine F.as ?_;clear F fa;intro fa F
     refine wpList_nil ?_
     refine hK28 _ _ ?_
     clear hK28
     refine wp_seq_k fun K29 hK29=>?_
     refine wp_region_lit ?_
     refine F.mv ?_;clear F fa;intro fa F
     refine F.vl (R_ixArr (n:=4) (sz:=1) rfl (F.at rfl) (F.at rfl) Tryz.underlying75 (by kernel_rfl) (by omega) (by omega)) ?_;clear F fa;intro fa F
     refine F.vl (R_load rfl (F.at rfl) Tryz.underlying3 rfl (tub_at q13 (k:=k) rfl (by omega))) ?_;clear F fa;intro fa F
     refine F.vl (R_eqlD rfl (F.at rfl) (ev_c fa _)) ?_;clear F fa;intro fa F
     refine wpList_nil ?_
     refine hK29 _ _ ?_
     clear hK29
     refine cd_if F rfl (fun hc58=>?_) (fun hc58=>?_)
     ·skip
      refine wp_region_lit ?_
      refine F.mv ?_;clear F fa;intro fa F
      refine F.mv ?_;clear F fa;intro fa F
      refine sq_exn rfl rfl (R_delI (k:=k) rfl (F.at rfl) (F.at rfl) (by omega) map24) ?_;rintro w17 ⟨hM',hg⟩
      replace q3:=keep_map map24 hg q3
      replace q7:=keep_map map24 hg q7
      replace q8:=keep_map map24 hg q8
      replace q13:=keep_map map24 hg q13
      replace E:=ext_mapX E hg (fun h=>by first | exact absurd h (by omega) | simp)
      replace E9:=ext_mapX E9 hg (fun h=>by first | exact absurd h (by omega) | simp)
      replace map24:=hM'
      clear hg
      refine wpList_nil ?_
      replace map24:=map24.congr (fun j=>gS_del (by omega) j) (Nat.le_refl _)
      refine hK27 _ _ ?_
      clear hK27
      refine wp_region_lit ?_
      refine F.vl (R_add rfl (F.at rfl) (ev_c fa _) (by omega) (by omega)) ?_;clear F fa;intro fa F
      refine F.mv ?_;clear F fa;intro fa F
      refine wpList_nil ?_
      show _ ∧ _
      exact ⟨by omega,_,⟨rfl,E,E9,q3,q7,q8,q13,map24⟩,F.sub (.c 52 rfl (.c 6 rfl (.c 7 rfl (.c 8 rfl (.c 9 rfl (.c 13 rfl (.c 42 rfl (.c 43 rfl (.c 44 rfl (.c 51 rfl .n))))))))))⟩
     ·skip
      replace map24:=map24.congr (fun j=>gS_keep (by omega) j) (Nat.le_refl _)
      refine wp_skip ?_
      refine hK27 _ _ ?_
      clear hK27
      refine wp_region_lit ?_
      refine F.vl (R_add rfl (F.at rfl) (ev_c fa _) (by omega) (by omega)) ?_;clear F fa;intro fa F
      refine F.mv ?_;clear F fa;intro fa F
      refine wpList_nil ?_
      show _ ∧ _
      exact ⟨by omega,_,⟨rfl,E,E9,q3,q7,q8,q13,map24⟩,F.sub (.c 52 rfl (.c 6 rfl (.c 7 rfl (.c 8 rfl (.c 9 rfl (.c 13 rfl (.c 42 rfl (.c 43 rfl (.c 44 rfl (.c 51 rfl .n))))))))))⟩
    ·skip
     refine wp_exit ?_
     rw [show k = x.D.length by omega] at map24
     refine hK21 _ _ ?_
     clear hK21
     refine wp_region_lit ?_
     refine F.vl (R_add rfl (F.at rfl) (ev_c fa _) (by omega) (by omega)) ?_;clear F fa;intro fa F
     refine F.mv ?_;clear F fa;intro fa F
     refine wpList_nil ?_
     show _ ∧ _
     exact ⟨by omega,_,⟨rfl,E,E9,q3,q7,q8,(map24.congr (fun k=>by rw [gS_end,← take_getD T [] (by omega)]) (Nat.le_refl _))⟩,F.sub (.c 44 rfl (.c 6 rfl (.c 7 rfl (.c 8 rfl (.c 9 rfl (.c 42 rfl (.c 43 rfl .n)))))))⟩
   ·skip
    refine wp_exit ?_
    rw [List.take_of_length_le (show T.length ≤ i by omega)] at map24
    refine hK17 _ _ ?_
    clear hK17
    refine wp_seq_k fun K30 hK30=>?_
    refine wp_seq_k fun K31 hK31=>?_
    have oo : w13.ownsRow w.heap.size 3 1 (.slice none 0 0) 0 (ivs []):=World.ownsRow_nil _ _ _ _
    refine wp_region_lit ?_
    refine F.vl (R_field rfl (F.at rfl) Tryz.underlying69 rfl (n:=0) (sz:=4) rfl (by kernel_rfl) (by decide)) ?_;clear F fa;intro fa F
    refine F.vl (R_field rfl (F.at rfl) Tryz.underlying24 rfl (n:=1) (sz:=1) rfl (by kernel_rfl) (by decide)) ?_;clear F fa;intro fa F
    refine F.vl (R_load rfl (F.at rfl) Tryz.underlying22 rfl ((cells_of_block q8 1).trans (getS (get0)))) ?_;clear F fa;intro fa F
    refine F.vl (R_len rfl rfl (F.at rfl) Tryz.underlying22) ?_;clear F fa;intro fa F
    refine F.vl (R_move rfl (ev_c fa _)) ?_;clear F fa;intro fa F
    refine wpList_nil ?_
    refine hK31 _ _ ?_
    clear hK31
    refine wp_block ?_
    have F0:=F.sub (.c 7 rfl (.c 9 rfl (.c 66 rfl .n)))
    refine lp_for F0 (x.D.length) (fun i Lv W=>∃ va : Option Addr,∃ vc : Nat,Lv = [(6,.slice va ((spaT (gB x.D.length T) i).length) vc),(67,.int .i64 ((i : Nat) : Int))] ∧ Ext [] w W ∧ W.heap[n3]? = some (.cells #[.int .i64 x.B,.slice x.da x.D.length x.dc,.slice x.la x.L.length x.lc,.int .i64 x.tol] 24 (0,0)) ∧ W.heap[n7]? = some (.cells #[.int .i64 0] 35 (0,0)) ∧ W.heap[n8]? = some (.cells #[.int .i64 x.B,.slice x.da x.D.length x.dc,.slice x.la x.L.length x.lc,.int .i64 x.tol] 69 (0,0)) ∧ MapI W n24 x.D.length (gB x.D.length T) ∧ W.ownsRow w.heap.size 3 1 (.slice va (spaT (gB x.D.length T) i).length vc) (spaT (gB x.D.length T) i).length (ivs (spaT (gB x.D.length T) i))) ⟨_,⟨none,0,rfl,E,q3,q7,q8,map24,oo⟩,F.sub (.c 6 rfl (.c 67 rfl (.c 7 rfl (.c 9 rfl (.c 66 rfl .n)))))⟩ ?_
    clear F F0
    clear E q3 q7 q8 map24
    clear oo
    rintro i _ fa w18 hi4 ⟨va,vc,rfl,E,q3,q7,q8,map24,oo⟩ F
    have hsl:=spaT_len (gB x.D.length T) i
    refine wp_seq_k fun K32 hK32=>?_
    refine wp_region_lit ?_
    refine F.vl (R_lss rfl (F.at rfl) (F.at rfl)) ?_;clear F fa;intro fa F
    refine wpList_nil ?_
    refine hK32 _ _ ?_
    clear hK32
    refine wp_seq_k fun K33 hK33=>?_
    refine cd_if F rfl (fun hc68=>?_) (fun hc68=>?_)
    ·skip
     refine wp_skip ?_
     refine hK33 _ _ ?_
     clear hK33
     refine wp_seq_k fun K34 hK34=>?_
     refine wp_block ?_
     refine wp_seq_k fun K35 hK35=>?_
     refine wp_region_lit ?_
     refine F.mv ?_;clear F fa;intro fa F
     refine F.as ?_;clear F fa;intro fa F
     refine wpList_nil ?_
     refine hK35 _ _ ?_
     clear hK35
     refine wp_seq_k fun K36 hK36=>?_
     refine wp_region_lit ?_
     refine F.mv ?_;clear F fa;intro fa F
     refine F.mv ?_;clear F fa;intro fa F
     refine F.vl ((R_lookupI (k:=i) rfl (F.at rfl) (F.at rfl) (by omega) map24)) ?_;clear F fa;intro fa F
     refine F.vl (R_not rfl (F.at rfl)) ?_;clear F fa;intro fa F
     refine wpList_nil ?_
     refine hK36 _ _ ?_
     clear hK36
     refine cd_b F rfl (fun hc73=>?_) (fun hc73=>?_)
     ·skip
      refine wp_region_lit ?_
      refine F.mv ?_;clear F fa;intro fa F
      refine F.mv ?_;clear F fa;intro fa F
      refine sq_new F rfl (by decide) rfl (R_buildSliceV rfl (prS (F.at rfl) pr0) Tryz.underlying25 (size:=1) (by kernel_rfl) (by decide) (by decide) Tryz.zeroValue3 (cells:=#[.int .i64 ((i : Nat) : Int)]) (by kernel_rfl)) ?_;clear F fa;intro fa w19 F hw
      obtain ⟨n76,hn⟩ : ∃ n,n = w18.heap.size:=⟨_,rfl⟩
      rw [← hn] at F
      have s76 : w18.heap.size ≤ n76:=Nat.le_of_eq hn.symm
      have l76_E : w.heap.size ≤ n76:=by rw [hn];exact E.size
      have m76_3 : n3 < n76:=by rw [hn];exact blk_lt q3
      have m76_7 : n7 < n76:=by rw [hn];exact blk_lt q7
      have m76_8 : n8 < n76:=by rw [hn];exact blk_lt q8
      have o76_oo:=Lib.hid (own_ne_new oo hn)
      replace map24:=map_alloc hw map24
      replace oo:=owns_alloc hw oo
      replace q3:=keep_alloc hw q3
      replace q7:=keep_alloc hw q7
      replace q8:=keep_alloc hw q8
      replace E:=ext_alloc E hw
      have q76:=new_block hw hn
      clear hw hn
      have hEs:=E.size
      refine sq_some F rfl (by decide) rfl (append_run rfl (w.heap.size) (e:=3) (size:=1) (bytes:=8) Tryz.underlying25 (by kernel_rfl) (by decide) (F.at rfl) oo (F.at rfl) q76 rfl (by simp [Value.oneCell']) (by omega) (by omega) (by omega)) ?_;clear F fa;rintro fa v' w20 F ⟨hown',hg⟩
      obtain ⟨va77,vc77,rfl⟩:=owns_slice hown'
      replace q3:=keep_type oo hg q3 (by decide)
      replace q7:=keep_type oo hg q7 (by decide)
      replace q8:=keep_type oo hg q8 (by decide)
      replace map24:=map_own map24 oo hg
      replace E:=ext_appendX E oo hg (by omega)
      replace oo:=hown'
      clear hg
      rw [show ivs (spaT (gB x.D.length T) i) ++ [Value.int .i64 ((i : Nat) : Int)] = ivs (spaT (gB x.D.length T) (i + 1)) by rw [← spaT_put (by simpa using hc73)];simp [ivs],show (spaT (gB x.D.length T) i).length + 1 = (spaT (gB x.D.length T) (i + 1)).length by rw [← spaT_put (by simpa using hc73),List.length_append];rfl] at oo
      rw [show (spaT (gB x.D.length T) i).length + 1 = (spaT (gB x.D.length T) (i + 1)).length by rw [← spaT_put (by simpa using hc73),List.length_append];rfl] at F
      refine F.as ?_;clear F fa;intro fa F
      refine wpList_nil ?_
      refine hK34 _ _ ?_
      clear hK34
      refine wp_region_lit ?_
      refine F.vl (R_add rfl (F.at rfl) (ev_c fa _) (by omega) (by omega)) ?_;clear F fa;intro fa F
      refine F.mv ?_;clear F fa;intro fa F
      refine wpList_nil ?_
      show _ ∧ _
      exact ⟨by omega,_,⟨_,_,rfl,E,q3,q7,q8,map24,oo⟩,F.sub (.c 6 rfl (.c 67 rfl (.c 7 rfl (.c 9 rfl (.c 66 rfl .n)))))⟩
     ·skip
      rw [spaT_skip (by simpa using hc73)] at oo F
      refine wp_skip ?_
      refine hK34 _ _ ?_
      clear hK34
      refine wp_region_lit ?_
      refine F.vl (R_add rfl (F.at rfl) (ev_c fa _) (by omega) (by omega)) ?_;clear F fa;intro fa F
      refine F.mv ?_;clear F fa;intro fa F
      refine wpList_nil ?_
      show _ ∧ _
      exact ⟨by omega,_,⟨_,_,rfl,E,q3,q7,q8,map24,oo⟩,F.sub (.c 6 rfl (.c 67 rfl (.c 7 rfl (.c 9 rfl (.c 66 rfl .n)))))⟩
    ·skip
     refine wp_exit ?_
     rw [show i = x.D.length by omega] at oo F
     refine hK30 _ _ ?_
     clear hK30
     refine wp_seq_k fun K37 hK37=>?_
     refine wp_region_lit ?_
     refine F.mv ?_;clear F fa;intro fa F
     refine F.as ?_;clear F fa;intro fa F
     refine sq_to rfl rfl (R_store rfl (F.at rfl) (ev_c fa _) rfl (by kernel_rfl) ((cells_of_block q7 0).trans (get0)) (free_of_block q7 0)) ?_;intro w21 hw
     replace map24:=map_cell hw map24 q7
     replace oo:=owns_cellX hw oo (own_ne_type oo q7 (by decide))
     replace q3:=keep_cell hw q3 (by omega)
     replace q7:=put_cell hw q7 (by simp only [List.setIfInBounds_toArray,lsQ,lzQ];exact rfl)
     replace q8:=keep_cell hw q8 (by omega)
     replace E:=ext_cell E hw (fun h=>by first | exact absurd h (by omega) | simp)
     clear hw
     refine wpList_nil ?_
     refine hK37 _ _ ?_
     clear hK37
     refine wp_ret ?_
     (try simp only [Exit.inBlock,Exit.then,reduceIte])
     refine rtM_v F ?_
     refine lv_caught ?_
     refine lv_nil (rs_tc F rfl rfl rfl Tryz.underlying35 rfl q7) ?_
     rw [hr1];exact ⟨va,vc,rfl,oo,E⟩
end Go.Proofs.YtdjeecgddbjbeaaGreat.MI
namespace Go.Proofs.YtdjeecgddbjbeaaGreat
open Go.RowKit
theorem siz_zero {n m : Int} (h : sizE n m = 0) : n ≠ 0 ∧ n ≤ m:=by
 unfold sizE at h
 split at h <;> (try split at h) <;> omega
theorem dye_nums {B : Int} : ∀ (ds met : List (List Int)),dyeE B met ds = 0 → ∀ d ∈ ds,numE d B 9 = 0
 | [],_,_,_,hd=>by simp at hd
 | e :: ds,met,h,d,hd=>by
  rw [dyeE] at h
  split at h
  ·rename_i h1;exact absurd h h1
  ·rename_i h1
   split at h
   ·cases h
   ·rcases List.mem_cons.1 hd with rfl | hd
    ·exact Classical.not_not.1 h1
    ·exact dye_nums ds _ h d hd
theorem lamp_nums {B : Int} : ∀ (ls : List (List Int)),lampE B ls = 0 → ∀ d ∈ ls,numE d B 3 = 0
 | [],_,_,hd=>by simp at hd
 | e :: ls,h,d,hd=>by
  rw [lampE] at h
  split at h
  ·rename_i h1;exact absurd h h1
  ·rename_i h1
   split at h
   ·cases h
   ·rcases List.mem_cons.1 hd with rfl | hd
    ·exact Classical.not_not.1 h1
    ·exact lamp_nums ls h d hd
theorem chk_vok {x : Vm} (h : chkE x.B (x.D.map (·.2)) (x.L.map (·.2)) x.tol = 0) : VOk x:=by
 have h0:=h
 unfold chkE at h
 split at h
 ·cases h
 rename_i e1
 split at h
 ·rename_i e;exact absurd h e
 rename_i e2
 split at h
 ·rename_i e;exact absurd h e
 rename_i e3
 split at h
 ·rename_i e;exact absurd h e
 rename_i e4
 split at h
 ·rename_i e;exact absurd h e
 rename_i e5
 split at h
 ·cases h
 rename_i e6
 have b:=outB_no.1 (show outB x.B 1 3 = false by simpa using e1)
 have t:=outB_no.1 (show outB x.tol 0 12 = false by simpa using e6)
 have d:=siz_zero (Classical.not_not.1 e2)
 have l:=siz_zero (Classical.not_not.1 e4)
 rw [List.length_map] at d l
 refine ⟨h0,b.1,b.2,by omega,by omega,fun p hp=>?_,by omega,by omega,fun p hp=>?_,t.1,t.2⟩
 ·exact numE_zero (dye_nums _ _ (Classical.not_not.1 e3) _ (List.mem_map.2 ⟨p,hp,rfl⟩))
 ·exact numE_zero (lamp_nums _ (Classical.not_not.1 e5) _ (List.mem_map.2 ⟨p,hp,rfl⟩))
def Vm.err (x : Vm) : Int:=chkE x.B (x.D.map (·.2)) (x.L.map (·.2)) x.tol
def askE (x : Vm) (s ls : List Int) : Int:=if x.err ≠ 0 then x.err else if cntE s x.B 9 ≠ 0 then cntE s x.B 9 else lmpE x ls
set_option maxRecDepth 100000 in
set_option maxHeartbeats 2000000 in
theorem xRecipes_bad (x : Vm) (sd : SmallL x.D) (sl : SmallL x.L) (s : List Int) (hs : s.length ≤ 1000) (ls : List Int) (hl : ls.length ≤ 1000) (he : askE x s ls ≠ 0) (a b : Option Addr) (c d : Nat) (w : World) (h : x.At w) (hr : IsRows w (.slice a s.length c) 1 (s.map intRow)) (hq : IsRows w (.slice b ls.length d) 1 (ls.map intRow)) :
  Calls Tryz.prog 12 #[.agg #[.int .i64 x.B,.slice x.da x.D.length x.dc,.slice x.la x.L.length x.lc,.int .i64 x.tol],.slice a s.length c,.slice b ls.length d] w (LisEPost [] (askE x s ls) w):=by
 have E : Ext [] w w:=Ext.refl _ _
 have HX:=Lib.hid h
 have HR:=Lib.hid hr
 have HQ:=Lib.hid hq
 obtain ⟨er,her⟩ : ∃ er,er = askE x s ls:=⟨_,rfl⟩
 rw [← her] at he ⊢
 unfold askE at her
 clear h hr hq
 refine calls_hasM 36 Tryz.func12 rfl Tryz.ntmps12 (Nat.le_of_ble_eq_true rfl) ?_
 intro fa F
 refine wp_seq_k fun K1 hK1=>?_
 refine wp_region_lit ?_
 refine sq_new F rfl (by decide) rfl (R_box rfl (F.at rfl)) ?_;clear F fa;intro fa w1 F hw
 obtain ⟨n3,hn⟩ : ∃ n,n = w.heap.size:=⟨_,rfl⟩
 rw [← hn] at F
 have s3 : w.heap.size ≤ n3:=Nat.le_of_eq hn.symm
 have l3_E : w.heap.size ≤ n3:=by rw [hn];exact E.size
 replace E:=ext_alloc E hw
 have q3:=new_row hw hn
 clear hw hn
 refine F.vl (R_assign rfl (ev_c fa _)) ?_;clear F fa;intro fa F
 refine sq_new F rfl (by decide) rfl (R_alloc rfl Tryz.zeroValue35) ?_;clear F fa;intro fa w2 F hw
 obtain ⟨n7,hn⟩ : ∃ n,n = w1.heap.size:=⟨_,rfl⟩
 rw [← hn] at F
 have s7 : w1.heap.size ≤ n7:=Nat.le_of_eq hn.symm
 have l7_E : w.heap.size ≤ n7:=by rw [hn];exact E.size
 have m7_3 : n3 < n7:=by rw [hn];exact blk_lt q3
 replace q3:=keep_alloc hw q3
 replace E:=ext_alloc E hw
 have q7:=new_one hw rfl hn
 clear hw hn
 refine wpList_nil ?_
 refine hK1 _ _ ?_
 clear hK1
 refine wp_seq_k fun K2 hK2=>?_
 refine wp_region_lit ?_
 refine sq_defer F rfl rfl (R_defer rfl rfl (mpS (F.at rfl) mp0)) ?_;clear F fa;intro fa F
 refine wpList_nil ?_
 refine hK2 _ _ ?_
 clear hK2
 refine wp_seq_k fun K3 hK3=>?_
 by_cases h1 : x.err ≠ 0
 ·skip
  refine wp_region_lit ?_
  refine F.vl (R_loadBlk rfl (F.at rfl) Tryz.underlying24 rfl (by kernel_rfl) q3) ?_;clear F fa;intro fa F
  refine sq_panic rfl (R_callV rfl rfl Tryz.call40 (mpS (F.at rfl) mp0)) (begin_bad x sd sl h1 _ (HX.out.ext E)) fun e w3 hR=>?_
  obtain ⟨rfl,e9⟩:=hR
  refine ⟨_,rfl,?_⟩
  replace q3:=(e9).keep0 q3
  replace q7:=(e9).keep0 q7
  replace E:=ext_same E (e9)
  (try simp only [Exit.inBlock,Exit.then,Exit.jump,reduceIte])
  refine rtM_p F ?_
  refine lv_took q7 fun w4 hw=>?_
  replace q3:=keep_cell hw q3 (by omega)
  replace q7:=put_cell hw q7 (by simp only [List.setIfInBounds_toArray,lsQ,lzQ];exact rfl)
  replace E:=ext_cell E hw (fun h=>by first | exact absurd h (by omega) | simp)
  clear hw
  refine lv_nil (rs_tc F rfl rfl rfl Tryz.underlying35 rfl q7) ?_
  rw [if_pos h1] at her;subst her;exact ⟨[],none,0,rfl,rfl,World.ownsRow_nil _ _ _ _,fam_nil _ _,E⟩
 ·skip
  rw [if_neg h1] at her
  have hv:=chk_vok (Classical.not_not.1 h1)
  refine wp_region_lit ?_
  refine F.vl (R_loadBlk rfl (F.at rfl) Tryz.underlying24 rfl (by kernel_rfl) q3) ?_;clear F fa;intro fa F
  refine sq_call F rfl (by decide) rfl (R_callV rfl rfl Tryz.call40 (mpS (F.at rfl) mp0)) (begin_ok x hv _ (HX.out.ext E)) fun e w5 hR=>?_
  obtain ⟨rfl,e9⟩:=hR
  refine ⟨_,rfl,?_⟩;clear F fa;intro fa F
  replace q3:=(e9).keep0 q3
  replace q7:=(e9).keep0 q7
  replace E:=ext_same E (e9)
  clear e9
  refine sq_new F rfl (by decide) rfl (R_alloc rfl Tryz.zeroValue69) ?_;clear F fa;intro fa w6 F hw
  obtain ⟨n8,hn⟩ : ∃ n,n = w5.heap.size:=⟨_,rfl⟩
  rw [← hn] at F
  have s8 : w5.heap.size ≤ n8:=Nat.le_of_eq hn.symm
  have l8_E : w.heap.size ≤ n8:=by rw [hn];exact E.size
  have m8_3 : n3 < n8:=by rw [hn];exact blk_lt q3
  have m8_7 : n7 < n8:=by rw [hn];exact blk_lt q7
  replace q3:=keep_alloc hw q3
  replace q7:=keep_alloc hw q7
  replace E:=ext_alloc E hw
  have q8:=new_row hw hn
  clear hw hn
  refine sq_to rfl rfl (R_storeRow rfl (F.at rfl) (F.at rfl) (by kernel_rfl) (by first | (simp [Value.oneCell'];done) | (simp [Value.oneCell',tubR];done)) q8 rfl) ?_;intro w7 hw
  replace q3:=keep_cells hw q3 (by omega)
  replace q7:=keep_cells hw q7 (by omega)
  replace q8:=put_row hw q8 rfl
  replace E:=ext_cells E hw (fun h=>by first | exact absurd h (by omega) | simp)
  clear hw
  refine wpList_nil ?_
  refine hK3 _ _ ?_
  clear hK3
  refine wp_seq_k fun K4 hK4=>?_
  by_cases h2 : cntE s x.B 9 ≠ 0
  ·skip
   refine wp_region_lit ?_
   refine F.vl (R_loadBlk rfl (F.at rfl) Tryz.underlying69 rfl (by kernel_rfl) q8) ?_;clear F fa;intro fa F
   refine F.mv ?_;clear F fa;intro fa F
   refine sq_panic rfl (R_callV rfl rfl Tryz.call41 (mpS (F.at rfl) (mpS (F.at rfl) mp0))) ((sample_any x hv s hs a c _ (HR.out.ext E (by simp))).mono (fun _ _ h=>look_out h rfl h2)) fun e w8 hR=>?_
   obtain ⟨rfl,e9⟩:=hR
   refine ⟨_,rfl,?_⟩
   replace q3:=(e9).keep0 q3
   replace q7:=(e9).keep0 q7
   replace q8:=(e9).keep0 q8
   replace E:=ext_same E (e9)
   (try simp only [Exit.inBlock,Exit.then,Exit.jump,reduceIte])
   refine rtM_p F ?_
   refine lv_took q7 fun w9 hw=>?_
   replace q3:=keep_cell hw q3 (by omega)
   replace q7:=put_cell hw q7 (by simp only [List.setIfInBounds_toArray,lsQ,lzQ];exact rfl)
   replace q8:=keep_cell hw q8 (by omega)
   replace E:=ext_cell E hw (fun h=>by first | exact absurd h (by omega) | simp)
   clear hw
   refine lv_nil (rs_tc F rfl rfl rfl Tryz.underlying35 rfl q7) ?_
   rw [if_pos h2] at her;subst her;exact ⟨[],none,0,rfl,rfl,World.ownsRow_nil _ _ _ _,fam_nil _ _,E⟩
  ·skip
   rw [if_neg h2] at her
   refine wp_region_lit ?_
   refine F.vl (R_loadBlk rfl (F.at rfl) Tryz.underlying69 rfl (by kernel_rfl) q8) ?_;clear F fa;intro fa F
   refine F.mv ?_;clear F fa;intro fa F
   refine sq_call F rfl (by decide) rfl (R_callV rfl rfl Tryz.call41 (mpS (F.at rfl) (mpS (F.at rfl) mp0))) ((sample_any x hv s hs a c _ (HR.out.ext E (by simp))).mono (fun _ _ h=>look_in h (Classical.not_not.1 h2))) fun e w10 hR=>?_
   obtain ⟨rfl,e9⟩:=hR
   refine ⟨_,rfl,?_⟩;clear F fa;intro fa F
   replace q3:=(e9).keep0 q3
   replace q7:=(e9).keep0 q7
   replace q8:=(e9).keep0 q8
   replace E:=ext_same E (e9)
   clear e9
   refine wpList_nil ?_
   refine hK4 _ _ ?_
   clear hK4
   refine wp_seq_k fun K5 hK5=>?_
   refine wp_region_lit ?_
   refine F.vl (R_loadBlk rfl (F.at rfl) Tryz.underlying69 rfl (by kernel_rfl) q8) ?_;clear F fa;intro fa F
   refine F.mv ?_;clear F fa;intro fa F
   refine sq_panic rfl (R_callV rfl rfl Tryz.call42 (mpS (F.at rfl) (mpS (F.at rfl) mp0))) ((lamps_any x sl.1 ls hl b d _ (HQ.out.ext E (by simp))).mono (fun _ _ h=>look_out h her.symm he)) fun e w11 hR=>?_
   obtain ⟨rfl,e9⟩:=hR
   refine ⟨_,rfl,?_⟩
   replace q3:=(e9).keep0 q3
   replace q7:=(e9).keep0 q7
   replace q8:=(e9).keep0 q8
   replace E:=ext_same E (e9)
   (try simp only [Exit.inBlock,Exit.then,Exit.jump,reduceIte])
   refine rtM_p F ?_
   refine lv_took q7 fun w12 hw=>?_
   replace q3:=keep_cell hw q3 (by omega)
   replace q7:=put_cell hw q7 (by simp only [List.setIfInBounds_toArray,lsQ,lzQ];exact rfl)
   replace q8:=keep_cell hw q8 (by omega)
   replace E:=ext_cell E hw (fun h=>by first | exact absurd h (by omega) | simp)
   clear hw
   refine lv_nil (rs_tc F rfl rfl rfl Tryz.underlying35 rfl q7) ?_
   exact ⟨[],none,0,rfl,rfl,World.ownsRow_nil _ _ _ _,fam_nil _ _,E⟩
set_option maxRecDepth 100000 in
set_option maxHeartbeats 2000000 in
theorem xFewest_bad (x : Vm) (sd : SmallL x.D) (sl : SmallL x.L) (s : List Int) (hs : s.length ≤ 1000) (ls : List Int) (hl : ls.length ≤ 1000) (he : askE x s ls ≠ 0) (a b : Option Addr) (c d : Nat) (w : World) (h : x.At w) (hr : IsRows w (.slice a s.length c) 1 (s.map intRow)) (hq : IsRows w (.slice b ls.length d) 1 (ls.map intRow)) :
  Calls Tryz.prog 14 #[.agg #[.int .i64 x.B,.slice x.da x.D.length x.dc,.slice x.la x.L.length x.lc,.int .i64 x.tol],.slice a s.length c,.slice b ls.length d] w (IntsPost ([],askE x s ls) w):=by
 have E : Ext [] w w:=Ext.refl _ _
 have HX:=Lib.hid h
 have HR:=Lib.hid hr
 have HQ:=Lib.hid hq
 obtain ⟨er,her⟩ : ∃ er,er = askE x s ls:=⟨_,rfl⟩
 rw [← her] at he ⊢
 unfold askE at her
 clear h hr hq
 refine calls_hasM 55 Tryz.func14 rfl Tryz.ntmps14 (Nat.le_of_ble_eq_true rfl) ?_
 intro fa F
 refine wp_seq_k fun K1 hK1=>?_
 refine wp_region_lit ?_
 refine sq_new F rfl (by decide) rfl (R_box rfl (F.at rfl)) ?_;clear F fa;intro fa w1 F hw
 obtain ⟨n3,hn⟩ : ∃ n,n = w.heap.size:=⟨_,rfl⟩
 rw [← hn] at F
 have s3 : w.heap.size ≤ n3:=Nat.le_of_eq hn.symm
 have l3_E : w.heap.size ≤ n3:=by rw [hn];exact E.size
 replace E:=ext_alloc E hw
 have q3:=new_row hw hn
 clear hw hn
 refine F.vl (R_assign rfl (ev_c fa _)) ?_;clear F fa;intro fa F
 refine sq_new F rfl (by decide) rfl (R_alloc rfl Tryz.zeroValue35) ?_;clear F fa;intro fa w2 F hw
 obtain ⟨n7,hn⟩ : ∃ n,n = w1.heap.size:=⟨_,rfl⟩
 rw [← hn] at F
 have s7 : w1.heap.size ≤ n7:=Nat.le_of_eq hn.symm
 have l7_E : w.heap.size ≤ n7:=by rw [hn];exact E.size
 have m7_3 : n3 < n7:=by rw [hn];exact blk_lt q3
 replace q3:=keep_alloc hw q3
 replace E:=ext_alloc E hw
 have q7:=new_one hw rfl hn
 clear hw hn
 refine wpList_nil ?_
 refine hK1 _ _ ?_
 clear hK1
 refine wp_seq_k fun K2 hK2=>?_
 refine wp_region_lit ?_
 refine sq_defer F rfl rfl (R_defer rfl rfl (mpS (F.at rfl) mp0)) ?_;clear F fa;intro fa F
 refine wpList_nil ?_
 refine hK2 _ _ ?_
 clear hK2
 refine wp_seq_k fun K3 hK3=>?_
 by_cases h1 : x.err ≠ 0
 ·skip
  refine wp_region_lit ?_
  refine F.vl (R_loadBlk rfl (F.at rfl) Tryz.underlying24 rfl (by kernel_rfl) q3) ?_;clear F fa;intro fa F
  refine sq_panic rfl (R_callV rfl rfl Tryz.call40 (mpS (F.at rfl) mp0)) (begin_bad x sd sl h1 _ (HX.out.ext E)) fun e w3 hR=>?_
  obtain ⟨rfl,e9⟩:=hR
  refine ⟨_,rfl,?_⟩
  replace q3:=(e9).keep0 q3
  replace q7:=(e9).keep0 q7
  replace E:=ext_same E (e9)
  (try simp only [Exit.inBlock,Exit.then,Exit.jump,reduceIte])
  refine rtM_p F ?_
  refine lv_took q7 fun w4 hw=>?_
  replace q3:=keep_cell hw q3 (by omega)
  replace q7:=put_cell hw q7 (by simp only [List.setIfInBounds_toArray,lsQ,lzQ];exact rfl)
  replace E:=ext_cell E hw (fun h=>by first | exact absurd h (by omega) | simp)
  clear hw
  refine lv_nil (rs_tc F rfl rfl rfl Tryz.underlying35 rfl q7) ?_
  rw [if_pos h1] at her;subst her;exact ⟨none,0,rfl,World.ownsRow_nil _ _ _ _,E⟩
 ·skip
  rw [if_neg h1] at her
  have hv:=chk_vok (Classical.not_not.1 h1)
  refine wp_region_lit ?_
  refine F.vl (R_loadBlk rfl (F.at rfl) Tryz.underlying24 rfl (by kernel_rfl) q3) ?_;clear F fa;intro fa F
  refine sq_call F rfl (by decide) rfl (R_callV rfl rfl Tryz.call40 (mpS (F.at rfl) mp0)) (begin_ok x hv _ (HX.out.ext E)) fun e w5 hR=>?_
  obtain ⟨rfl,e9⟩:=hR
  refine ⟨_,rfl,?_⟩;clear F fa;intro fa F
  replace q3:=(e9).keep0 q3
  replace q7:=(e9).keep0 q7
  replace E:=ext_same E (e9)
  clear e9
  refine sq_new F rfl (by decide) rfl (R_alloc rfl Tryz.zeroValue69) ?_;clear F fa;intro fa w6 F hw
  obtain ⟨n8,hn⟩ : ∃ n,n = w5.heap.size:=⟨_,rfl⟩
  rw [← hn] at F
  have s8 : w5.heap.size ≤ n8:=Nat.le_of_eq hn.symm
  have l8_E : w.heap.size ≤ n8:=by rw [hn];exact E.size
  have m8_3 : n3 < n8:=by rw [hn];exact blk_lt q3
  have m8_7 : n7 < n8:=by rw [hn];exact blk_lt q7
  replace q3:=keep_alloc hw q3
  replace q7:=keep_alloc hw q7
  replace E:=ext_alloc E hw
  have q8:=new_row hw hn
  clear hw hn
  refine sq_to rfl rfl (R_storeRow rfl (F.at rfl) (F.at rfl) (by kernel_rfl) (by first | (simp [Value.oneCell'];done) | (simp [Value.oneCell',tubR];done)) q8 rfl) ?_;intro w7 hw
  replace q3:=keep_cells hw q3 (by omega)
  replace q7:=keep_cells hw q7 (by omega)
  replace q8:=put_row hw q8 rfl
  replace E:=ext_cells E hw (fun h=>by first | exact absurd h (by omega) | simp)
  clear hw
  refine wpList_nil ?_
  refine hK3 _ _ ?_
  clear hK3
  refine wp_seq_k fun K4 hK4=>?_
  by_cases h2 : cntE s x.B 9 ≠ 0
  ·skip
   refine wp_region_lit ?_
   refine F.vl (R_loadBlk rfl (F.at rfl) Tryz.underlying69 rfl (by kernel_rfl) q8) ?_;clear F fa;intro fa F
   refine F.mv ?_;clear F fa;intro fa F
   refine sq_panic rfl (R_callV rfl rfl Tryz.call41 (mpS (F.at rfl) (mpS (F.at rfl) mp0))) ((sample_any x hv s hs a c _ (HR.out.ext E (by simp))).mono (fun _ _ h=>look_out h rfl h2)) fun e w8 hR=>?_
   obtain ⟨rfl,e9⟩:=hR
   refine ⟨_,rfl,?_⟩
   replace q3:=(e9).keep0 q3
   replace q7:=(e9).keep0 q7
   replace q8:=(e9).keep0 q8
   replace E:=ext_same E (e9)
   (try simp only [Exit.inBlock,Exit.then,Exit.jump,reduceIte])
   refine rtM_p F ?_
   refine lv_took q7 fun w9 hw=>?_
   replace q3:=keep_cell hw q3 (by omega)
   replace q7:=put_cell hw q7 (by simp only [List.setIfInBounds_toArray,lsQ,lzQ];exact rfl)
   replace q8:=keep_cell hw q8 (by omega)
   replace E:=ext_cell E hw (fun h=>by first | exact absurd h (by omega) | simp)
   clear hw
   refine lv_nil (rs_tc F rfl rfl rfl Tryz.underlying35 rfl q7) ?_
   rw [if_pos h2] at her;subst her;exact ⟨none,0,rfl,World.ownsRow_nil _ _ _ _,E⟩
  ·skip
   rw [if_neg h2] at her
   refine wp_region_lit ?_
   refine F.vl (R_loadBlk rfl (F.at rfl) Tryz.underlying69 rfl (by kernel_rfl) q8) ?_;clear F fa;intro fa F
   refine F.mv ?_;clear F fa;intro fa F
   refine sq_call F rfl (by decide) rfl (R_callV rfl rfl Tryz.call41 (mpS (F.at rfl) (mpS (F.at rfl) mp0))) ((sample_any x hv s hs a c _ (HR.out.ext E (by simp))).mono (fun _ _ h=>look_in h (Classical.not_not.1 h2))) fun e w10 hR=>?_
   obtain ⟨rfl,e9⟩:=hR
   refine ⟨_,rfl,?_⟩;clear F fa;intro fa F
   replace q3:=(e9).keep0 q3
   replace q7:=(e9).keep0 q7
   replace q8:=(e9).keep0 q8
   replace E:=ext_same E (e9)
   clear e9
   refine wpList_nil ?_
   refine hK4 _ _ ?_
   clear hK4
   refine wp_seq_k fun K5 hK5=>?_
   refine wp_region_lit ?_
   refine F.vl (R_loadBlk rfl (F.at rfl) Tryz.underlying69 rfl (by kernel_rfl) q8) ?_;clear F fa;intro fa F
   refine F.mv ?_;clear F fa;intro fa F
   refine sq_panic rfl (R_callV rfl rfl Tryz.call42 (mpS (F.at rfl) (mpS (F.at rfl) mp0))) ((lamps_any x sl.1 ls hl b d _ (HQ.out.ext E (by simp))).mono (fun _ _ h=>look_out h her.symm he)) fun e w11 hR=>?_
   obtain ⟨rfl,e9⟩:=hR
   refine ⟨_,rfl,?_⟩
   replace q3:=(e9).keep0 q3
   replace q7:=(e9).keep0 q7
   replace q8:=(e9).keep0 q8
   replace E:=ext_same E (e9)
   (try simp only [Exit.inBlock,Exit.then,Exit.jump,reduceIte])
   refine rtM_p F ?_
   refine lv_took q7 fun w12 hw=>?_
   replace q3:=keep_cell hw q3 (by omega)
   replace q7:=put_cell hw q7 (by simp only [List.setIfInBounds_toArray,lsQ,lzQ];exact rfl)
   replace q8:=keep_cell hw q8 (by omega)
   replace E:=ext_cell E hw (fun h=>by first | exact absurd h (by omega) | simp)
   clear hw
   refine lv_nil (rs_tc F rfl rfl rfl Tryz.underlying35 rfl q7) ?_
   exact ⟨none,0,rfl,World.ownsRow_nil _ _ _ _,E⟩
set_option maxRecDepth 100000 in
set_option maxHeartbeats 2000000 in
theorem xSpare_bad (x : Vm) (sd : SmallL x.D) (sl : SmallL x.L) (s : List Int) (hs : s.length ≤ 1000) (ls : List Int) (hl : ls.length ≤ 1000) (he : askE x s ls ≠ 0) (a b : Option Addr) (c d : Nat) (w : World) (h : x.At w) (hr : IsRows w (.slice a s.length c) 1 (s.map intRow)) (hq : IsRows w (.slice b ls.length d) 1 (ls.map intRow)) :
  Calls Tryz.prog 20 #[.agg #[.int .i64 x.B,.slice x.da x.D.length x.dc,.slice x.la x.L.length x.lc,.int .i64 x.tol],.slice a s.length c,.slice b ls.length d] w (IntsPost ([],askE x s ls) w):=by
 have E : Ext [] w w:=Ext.refl _ _
 have HX:=Lib.hid h
 have HR:=Lib.hid hr
 have HQ:=Lib.hid hq
 obtain ⟨er,her⟩ : ∃ er,er = askE x s ls:=⟨_,rfl⟩
 rw [← her] at he ⊢
 unfold askE at her
 clear h hr hq
 refine calls_hasM 80 Tryz.func20 rfl Tryz.ntmps20 (Nat.le_of_ble_eq_true rfl) ?_
 intro fa F
 refine wp_seq_k fun K1 hK1=>?_
 refine wp_region_lit ?_
 refine sq_new F rfl (by decide) rfl (R_box rfl (F.at rfl)) ?_;clear F fa;intro fa w1 F hw
 obtain ⟨n3,hn⟩ : ∃ n,n = w.heap.size:=⟨_,rfl⟩
 rw [← hn] at F
 have s3 : w.heap.size ≤ n3:=Nat.le_of_eq hn.symm
 have l3_E : w.heap.size ≤ n3:=by rw [hn];exact E.size
 replace E:=ext_alloc E hw
 have q3:=new_row hw hn
 clear hw hn
 refine F.vl (R_assign rfl (ev_c fa _)) ?_;clear F fa;intro fa F
 refine sq_new F rfl (by decide) rfl (R_alloc rfl Tryz.zeroValue35) ?_;clear F fa;intro fa w2 F hw
 obtain ⟨n7,hn⟩ : ∃ n,n = w1.heap.size:=⟨_,rfl⟩
 rw [← hn] at F
 have s7 : w1.heap.size ≤ n7:=Nat.le_of_eq hn.symm
 have l7_E : w.heap.size ≤ n7:=by rw [hn];exact E.size
 have m7_3 : n3 < n7:=by rw [hn];exact blk_lt q3
 replace q3:=keep_alloc hw q3
 replace E:=ext_alloc E hw
 have q7:=new_one hw rfl hn
 clear hw hn
 refine wpList_nil ?_
 refine hK1 _ _ ?_
 clear hK1
 refine wp_seq_k fun K2 hK2=>?_
 refine wp_region_lit ?_
 refine sq_defer F rfl rfl (R_defer rfl rfl (mpS (F.at rfl) mp0)) ?_;clear F fa;intro fa F
 refine wpList_nil ?_
 refine hK2 _ _ ?_
 clear hK2
 refine wp_seq_k fun K3 hK3=>?_
 by_cases h1 : x.err ≠ 0
 ·skip
  refine wp_region_lit ?_
  refine F.vl (R_loadBlk rfl (F.at rfl) Tryz.underlying24 rfl (by kernel_rfl) q3) ?_;clear F fa;intro fa F
  refine sq_panic rfl (R_callV rfl rfl Tryz.call40 (mpS (F.at rfl) mp0)) (begin_bad x sd sl h1 _ (HX.out.ext E)) fun e w3 hR=>?_
  obtain ⟨rfl,e9⟩:=hR
  refine ⟨_,rfl,?_⟩
  replace q3:=(e9).keep0 q3
  replace q7:=(e9).keep0 q7
  replace E:=ext_same E (e9)
  (try simp only [Exit.inBlock,Exit.then,Exit.jump,reduceIte])
  refine rtM_p F ?_
  refine lv_took q7 fun w4 hw=>?_
  replace q3:=keep_cell hw q3 (by omega)
  replace q7:=put_cell hw q7 (by simp only [List.setIfInBounds_toArray,lsQ,lzQ];exact rfl)
  replace E:=ext_cell E hw (fun h=>by first | exact absurd h (by omega) | simp)
  clear hw
  refine lv_nil (rs_tc F rfl rfl rfl Tryz.underlying35 rfl q7) ?_
  rw [if_pos h1] at her;subst her;exact ⟨none,0,rfl,World.ownsRow_nil _ _ _ _,E⟩
 ·skip
  rw [if_neg h1] at her
  have hv:=chk_vok (Classical.not_not.1 h1)
  refine wp_region_lit ?_
  refine F.vl (R_loadBlk rfl (F.at rfl) Tryz.underlying24 rfl (by kernel_rfl) q3) ?_;clear F fa;intro fa F
  refine sq_call F rfl (by decide) rfl (R_callV rfl rfl Tryz.call40 (mpS (F.at rfl) mp0)) (begin_ok x hv _ (HX.out.ext E)) fun e w5 hR=>?_
  obtain ⟨rfl,e9⟩:=hR
  refine ⟨_,rfl,?_⟩;clear F fa;intro fa F
  replace q3:=(e9).keep0 q3
  replace q7:=(e9).keep0 q7
  replace E:=ext_same E (e9)
  clear e9
  refine sq_new F rfl (by decide) rfl (R_alloc rfl Tryz.zeroValue69) ?_;clear F fa;intro fa w6 F hw
  obtain ⟨n8,hn⟩ : ∃ n,n = w5.heap.size:=⟨_,rfl⟩
  rw [← hn] at F
  have s8 : w5.heap.size ≤ n8:=Nat.le_of_eq hn.symm
  have l8_E : w.heap.size ≤ n8:=by rw [hn];exact E.size
  have m8_3 : n3 < n8:=by rw [hn];exact blk_lt q3
  have m8_7 : n7 < n8:=by rw [hn];exact blk_lt q7
  replace q3:=keep_alloc hw q3
  replace q7:=keep_alloc hw q7
  replace E:=ext_alloc E hw
  have q8:=new_row hw hn
  clear hw hn
  refine sq_to rfl rfl (R_storeRow rfl (F.at rfl) (F.at rfl) (by kernel_rfl) (by first | (simp [Value.oneCell'];done) | (simp [Value.oneCell',tubR];done)) q8 rfl) ?_;intro w7 hw
  replace q3:=keep_cells hw q3 (by omega)
  replace q7:=keep_cells hw q7 (by omega)
  replace q8:=put_row hw q8 rfl
  replace E:=ext_cells E hw (fun h=>by first | exact absurd h (by omega) | simp)
  clear hw
  refine wpList_nil ?_
  refine hK3 _ _ ?_
  clear hK3
  refine wp_seq_k fun K4 hK4=>?_
  by_cases h2 : cntE s x.B 9 ≠ 0
  ·skip
   refine wp_region_lit ?_
   refine F.vl (R_loadBlk rfl (F.at rfl) Tryz.underlying69 rfl (by kernel_rfl) q8) ?_;clear F fa;intro fa F
   refine F.mv ?_;clear F fa;intro fa F
   refine sq_panic rfl (R_callV rfl rfl Tryz.call41 (mpS (F.at rfl) (mpS (F.at rfl) mp0))) ((sample_any x hv s hs a c _ (HR.out.ext E (by simp))).mono (fun _ _ h=>look_out h rfl h2)) fun e w8 hR=>?_
   obtain ⟨rfl,e9⟩:=hR
   refine ⟨_,rfl,?_⟩
   replace q3:=(e9).keep0 q3
   replace q7:=(e9).keep0 q7
   replace q8:=(e9).keep0 q8
   replace E:=ext_same E (e9)
   (try simp only [Exit.inBlock,Exit.then,Exit.jump,reduceIte])
   refine rtM_p F ?_
   refine lv_took q7 fun w9 hw=>?_
   replace q3:=keep_cell hw q3 (by omega)
   replace q7:=put_cell hw q7 (by simp only [List.setIfInBounds_toArray,lsQ,lzQ];exact rfl)
   replace q8:=keep_cell hw q8 (by omega)
   replace E:=ext_cell E hw (fun h=>by first | exact absurd h (by omega) | simp)
   clear hw
   refine lv_nil (rs_tc F rfl rfl rfl Tryz.underlying35 rfl q7) ?_
   rw [if_pos h2] at her;subst her;exact ⟨none,0,rfl,World.ownsRow_nil _ _ _ _,E⟩
  ·skip
   rw [if_neg h2] at her
   refine wp_region_lit ?_
   refine F.vl (R_loadBlk rfl (F.at rfl) Tryz.underlying69 rfl (by kernel_rfl) q8) ?_;clear F fa;intro fa F
   refine F.mv ?_;clear F fa;intro fa F
   refine sq_call F rfl (by decide) rfl (R_callV rfl rfl Tryz.call41 (mpS (F.at rfl) (mpS (F.at rfl) mp0))) ((sample_any x hv s hs a c _ (HR.out.ext E (by simp))).mono (fun _ _ h=>look_in h (Classical.not_not.1 h2))) fun e w10 hR=>?_
   obtain ⟨rfl,e9⟩:=hR
   refine ⟨_,rfl,?_⟩;clear F fa;intro fa F
   replace q3:=(e9).keep0 q3
   replace q7:=(e9).keep0 q7
   replace q8:=(e9).keep0 q8
   replace E:=ext_same E (e9)
   clear e9
   refine wpList_nil ?_
   refine hK4 _ _ ?_
   clear hK4
   refine wp_seq_k fun K5 hK5=>?_
   refine wp_region_lit ?_
   refine F.vl (R_loadBlk rfl (F.at rfl) Tryz.underlying69 rfl (by kernel_rfl) q8) ?_;clear F fa;intro fa F
   refine F.mv ?_;clear F fa;intro fa F
   refine sq_panic rfl (R_callV rfl rfl Tryz.call42 (mpS (F.at rfl) (mpS (F.at rfl) mp0))) ((lamps_any x sl.1 ls hl b d _ (HQ.out.ext E (by simp))).mono (fun _ _ h=>look_out h her.symm he)) fun e w11 hR=>?_
   obtain ⟨rfl,e9⟩:=hR
   refine ⟨_,rfl,?_⟩
   replace q3:=(e9).keep0 q3
   replace q7:=(e9).keep0 q7
   replace q8:=(e9).keep0 q8
   replace E:=ext_same E (e9)
   (try simp only [Exit.inBlock,Exit.then,Exit.jump,reduceIte])
   refine rtM_p F ?_
   refine lv_took q7 fun w12 hw=>?_
   replace q3:=keep_cell hw q3 (by omega)
   replace q7:=put_cell hw q7 (by simp only [List.setIfInBounds_toArray,lsQ,lzQ];exact rfl)
   replace q8:=keep_cell hw q8 (by omega)
   replace E:=ext_cell E hw (fun h=>by first | exact absurd h (by omega) | simp)
   clear hw
   refine lv_nil (rs_tc F rfl rfl rfl Tryz.underlying35 rfl q7) ?_
   exact ⟨none,0,rfl,World.ownsRow_nil _ _ _ _,E⟩
set_option maxRecDepth 100000 in
set_option maxHeartbeats 2000000 in
theorem xNeed_bad (x : Vm) (sd : SmallL x.D) (sl : SmallL x.L) (s : List Int) (hs : s.length ≤ 1000) (ls : List Int) (hl : ls.length ≤ 1000) (he : askE x s ls ≠ 0) (a b : Option Addr) (c d : Nat) (w : World) (h : x.At w) (hr : IsRows w (.slice a s.length c) 1 (s.map intRow)) (hq : IsRows w (.slice b ls.length d) 1 (ls.map intRow)) :
  Calls Tryz.prog 18 #[.agg #[.int .i64 x.B,.slice x.da x.D.length x.dc,.slice x.la x.L.length x.lc,.int .i64 x.tol],.slice a s.length c,.slice b ls.length d] w (fun e w'=>e = .returned (.tuple #[.int .i64 0,.int .i64 (askE x s ls)]) ∧ Ext [] w w'):=by
 have E : Ext [] w w:=Ext.refl _ _
 have HX:=Lib.hid h
 have HR:=Lib.hid hr
 have HQ:=Lib.hid hq
 obtain ⟨er,her⟩ : ∃ er,er = askE x s ls:=⟨_,rfl⟩
 rw [← her] at he ⊢
 unfold askE at her
 clear h hr hq
 refine calls_hasM 32 Tryz.func18 rfl Tryz.ntmps18 (Nat.le_of_ble_eq_true rfl) ?_
 intro fa F
 refine wp_seq_k fun K1 hK1=>?_
 refine wp_region_lit ?_
 refine sq_new F rfl (by decide) rfl (R_box rfl (F.at rfl)) ?_;clear F fa;intro fa w1 F hw
 obtain ⟨n3,hn⟩ : ∃ n,n = w.heap.size:=⟨_,rfl⟩
 rw [← hn] at F
 have s3 : w.heap.size ≤ n3:=Nat.le_of_eq hn.symm
 have l3_E : w.heap.size ≤ n3:=by rw [hn];exact E.size
 replace E:=ext_alloc E hw
 have q3:=new_row hw hn
 clear hw hn
 refine F.vl (R_assign rfl (ev_c fa _)) ?_;clear F fa;intro fa F
 refine sq_new F rfl (by decide) rfl (R_alloc rfl Tryz.zeroValue35) ?_;clear F fa;intro fa w2 F hw
 obtain ⟨n7,hn⟩ : ∃ n,n = w1.heap.size:=⟨_,rfl⟩
 rw [← hn] at F
 have s7 : w1.heap.size ≤ n7:=Nat.le_of_eq hn.symm
 have l7_E : w.heap.size ≤ n7:=by rw [hn];exact E.size
 have m7_3 : n3 < n7:=by rw [hn];exact blk_lt q3
 replace q3:=keep_alloc hw q3
 replace E:=ext_alloc E hw
 have q7:=new_one hw rfl hn
 clear hw hn
 refine wpList_nil ?_
 refine hK1 _ _ ?_
 clear hK1
 refine wp_scope_straight ?_
 refine wp_seq_k fun K2 hK2=>?_
 refine wp_region_lit ?_
 refine sq_defer F rfl rfl (R_defer rfl rfl (mpS (F.at rfl) mp0)) ?_;clear F fa;intro fa F
 refine wpList_nil ?_
 refine hK2 _ _ ?_
 clear hK2
 refine wp_seq_k fun K3 hK3=>?_
 by_cases h1 : x.err ≠ 0
 ·skip
  refine wp_region_lit ?_
  refine F.vl (R_loadBlk rfl (F.at rfl) Tryz.underlying24 rfl (by kernel_rfl) q3) ?_;clear F fa;intro fa F
  refine sq_panic rfl (R_callV rfl rfl Tryz.call40 (mpS (F.at rfl) mp0)) (begin_bad x sd sl h1 _ (HX.out.ext E)) fun e w3 hR=>?_
  obtain ⟨rfl,e9⟩:=hR
  refine ⟨_,rfl,?_⟩
  replace q3:=(e9).keep0 q3
  replace q7:=(e9).keep0 q7
  replace E:=ext_same E (e9)
  (try simp only [Exit.inBlock,Exit.then,Exit.jump,reduceIte])
  refine rtM_p F ?_
  refine lv_took q7 fun w4 hw=>?_
  replace q3:=keep_cell hw q3 (by omega)
  replace q7:=put_cell hw q7 (by simp only [List.setIfInBounds_toArray,lsQ,lzQ];exact rfl)
  replace E:=ext_cell E hw (fun h=>by first | exact absurd h (by omega) | simp)
  clear hw
  refine lv_nil (rs_tc F rfl rfl rfl Tryz.underlying35 rfl q7) ?_
  rw [if_pos h1] at her;subst her;exact ⟨rfl,E⟩
 ·skip
  rw [if_neg h1] at her
  have hv:=chk_vok (Classical.not_not.1 h1)
  refine wp_region_lit ?_
  refine F.vl (R_loadBlk rfl (F.at rfl) Tryz.underlying24 rfl (by kernel_rfl) q3) ?_;clear F fa;intro fa F
  refine sq_call F rfl (by decide) rfl (R_callV rfl rfl Tryz.call40 (mpS (F.at rfl) mp0)) (begin_ok x hv _ (HX.out.ext E)) fun e w5 hR=>?_
  obtain ⟨rfl,e9⟩:=hR
  refine ⟨_,rfl,?_⟩;clear F fa;intro fa F
  replace q3:=(e9).keep0 q3
  replace q7:=(e9).keep0 q7
  replace E:=ext_same E (e9)
  clear e9
  refine sq_new F rfl (by decide) rfl (R_alloc rfl Tryz.zeroValue69) ?_;clear F fa;intro fa w6 F hw
  obtain ⟨n8,hn⟩ : ∃ n,n = w5.heap.size:=⟨_,rfl⟩
  rw [← hn] at F
  have s8 : w5.heap.size ≤ n8:=Nat.le_of_eq hn.symm
  have l8_E : w.heap.size ≤ n8:=by rw [hn];exact E.size
  have m8_3 : n3 < n8:=by rw [hn];exact blk_lt q3
  have m8_7 : n7 < n8:=by rw [hn];exact blk_lt q7
  replace q3:=keep_alloc hw q3
  replace q7:=keep_alloc hw q7
  replace E:=ext_alloc E hw
  have q8:=new_row hw hn
  clear hw hn
  refine sq_to rfl rfl (R_storeRow rfl (F.at rfl) (F.at rfl) (by kernel_rfl) (by first | (simp [Value.oneCell'];done) | (simp [Value.oneCell',tubR];done)) q8 rfl) ?_;intro w7 hw
  replace q3:=keep_cells hw q3 (by omega)
  replace q7:=keep_cells hw q7 (by omega)
  replace q8:=put_row hw q8 rfl
  replace E:=ext_cells E hw (fun h=>by first | exact absurd h (by omega) | simp)
  clear hw
  refine wpList_nil ?_
  refine hK3 _ _ ?_
  clear hK3
  refine wp_seq_k fun K4 hK4=>?_
  by_cases h2 : cntE s x.B 9 ≠ 0
  ·skip
   refine wp_region_lit ?_
   refine F.vl (R_loadBlk rfl (F.at rfl) Tryz.underlying69 rfl (by kernel_rfl) q8) ?_;clear F fa;intro fa F
   refine F.mv ?_;clear F fa;intro fa F
   refine sq_panic rfl (R_callV rfl rfl Tryz.call41 (mpS (F.at rfl) (mpS (F.at rfl) mp0))) ((sample_any x hv s hs a c _ (HR.out.ext E (by simp))).mono (fun _ _ h=>look_out h rfl h2)) fun e w8 hR=>?_
   obtain ⟨rfl,e9⟩:=hR
   refine ⟨_,rfl,?_⟩
   replace q3:=(e9).keep0 q3
   replace q7:=(e9).keep0 q7
   replace q8:=(e9).keep0 q8
   replace E:=ext_same E (e9)
   (try simp only [Exit.inBlock,Exit.then,Exit.jump,reduceIte])
   refine rtM_p F ?_
   refine lv_took q7 fun w9 hw=>?_
   replace q3:=keep_cell hw q3 (by omega)
   replace q7:=put_cell hw q7 (by simp only [List.setIfInBounds_toArray,lsQ,lzQ];exact rfl)
   replace q8:=keep_cell hw q8 (by omega)
   replace E:=ext_cell E hw (fun h=>by first | exact absurd h (by omega) | simp)
   clear hw
   refine lv_nil (rs_tc F rfl rfl rfl Tryz.underlying35 rfl q7) ?_
   rw [if_pos h2] at her;subst her;exact ⟨rfl,E⟩
  ·skip
   rw [if_neg h2] at her
   refine wp_region_lit ?_
   refine F.vl (R_loadBlk rfl (F.at rfl) Tryz.underlying69 rfl (by kernel_rfl) q8) ?_;clear F fa;intro fa F
   refine F.mv ?_;clear F fa;intro fa F
   refine sq_call F rfl (by decide) rfl (R_callV rfl rfl Tryz.call41 (mpS (F.at rfl) (mpS (F.at rfl) mp0))) ((sample_any x hv s hs a c _ (HR.out.ext E (by simp))).mono (fun _ _ h=>look_in h (Classical.not_not.1 h2))) fun e w10 hR=>?_
   obtain ⟨rfl,e9⟩:=hR
   refine ⟨_,rfl,?_⟩;clear F fa;intro fa F
   replace q3:=(e9).keep0 q3
   replace q7:=(e9).keep0 q7
   replace q8:=(e9).keep0 q8
   replace E:=ext_same E (e9)
   clear e9
   refine wpList_nil ?_
   refine hK4 _ _ ?_
   clear hK4
   refine wp_seq_k fun K5 hK5=>?_
   refine wp_region_lit ?_
   refine F.vl (R_loadBlk rfl (F.at rfl) Tryz.underlying69 rfl (by kernel_rfl) q8) ?_;clear F fa;intro fa F
   refine F.mv ?_;clear F fa;intro fa F
   refine sq_panic rfl (R_callV rfl rfl Tryz.call42 (mpS (F.at rfl) (mpS (F.at rfl) mp0))) ((lamps_any x sl.1 ls hl b d _ (HQ.out.ext E (by simp))).mono (fun _ _ h=>look_out h her.symm he)) fun e w11 hR=>?_
   obtain ⟨rfl,e9⟩:=hR
   refine ⟨_,rfl,?_⟩
   replace q3:=(e9).keep0 q3
   replace q7:=(e9).keep0 q7
   replace q8:=(e9).keep0 q8
   replace E:=ext_same E (e9)
   (try simp only [Exit.inBlock,Exit.then,Exit.jump,reduceIte])
   refine rtM_p F ?_
   refine lv_took q7 fun w12 hw=>?_
   replace q3:=keep_cell hw q3 (by omega)
   replace q7:=put_cell hw q7 (by simp only [List.setIfInBounds_toArray,lsQ,lzQ];exact rfl)
   replace q8:=keep_cell hw q8 (by omega)
   replace E:=ext_cell E hw (fun h=>by first | exact absurd h (by omega) | simp)
   clear hw
   refine lv_nil (rs_tc F rfl rfl rfl Tryz.underlying35 rfl q7) ?_
   exact ⟨rfl,E⟩
theorem zero_sum {l : List Int} (h0 : ∀ n ∈ l,0 ≤ n) : l = List.replicate l.length 0 ↔ l.sum = 0:=by
 induction l with
 | nil=>simp
 | cons a l ih =>
  have h1:=h0 a (by simp)
  have h2 : 0 ≤ l.sum:=by
   have key : ∀ m : List Int,(∀ n ∈ m,0 ≤ n) → 0 ≤ m.sum:=by
    intro m
    induction m with
    | nil=>intro _;simp
    | cons b m ihm=>intro hm;have:=hm b (by simp);have:=ihm (fun n hn=>hm n (by simp [hn]));rw [List.sum_cons];omega
   exact key l (fun n hn=>h0 n (by simp [hn]))
  rw [List.length_cons,List.replicate_succ,List.cons.injEq,ih (fun n hn=>h0 n (by simp [hn])),List.sum_cons]
  omega
set_option maxRecDepth 100000 in
set_option maxHeartbeats 4000000 in
theorem dCheck_any (x : Vm) (w : World) (h : x.At w) (sd : SmallL x.D) (sl : SmallL x.L) :
  Calls Tryz.prog 77 #[.agg #[.int .i64 x.B,.slice x.da x.D.length x.dc,.slice x.la x.L.length x.lc,.int .i64 x.tol]] w fun e w'=>e = .returned (.int .i64 (chkE x.B (x.D.map (·.2)) (x.L.map (·.2)) x.tol)) ∧ Ext [] w w':=by
 have E : Ext [] w w:=Ext.refl _ _
 have HA:=Lib.hid h
 have HD:=Lib.hid h.d.1
 have HL:=Lib.hid h.l.1
 have SD:=Lib.hid sd
 have SL:=Lib.hid sl
 clear h
 obtain ⟨sd1,sd2⟩:=sd
 obtain ⟨sl1,sl2⟩:=sl
 clear sd2 sl2
 obtain ⟨ds,hds⟩ : ∃ ds,ds = x.D.map (·.2):=⟨_,rfl⟩
 obtain ⟨ls,hls⟩ : ∃ ls,ls = x.L.map (·.2):=⟨_,rfl⟩
 have hdl : ds.length = x.D.length:=by rw [hds,List.length_map]
 have hll : ls.length = x.L.length:=by rw [hls,List.length_map]
 have KD : Hid (∀ i,i < x.D.length → ds.getD i [] = (x.D.getD i (.bool true,[])).2):=fun i hi=>by rw [hds];exact key_getD _ hi
 have KL : Hid (∀ i,i < x.L.length → ls.getD i [] = (x.L.getD i (.bool true,[])).2):=fun i hi=>by rw [hls];exact key_getD _ hi
 rw [← hds,← hls]
 clear hds hls
 refine calls_has 91 Tryz.func77 rfl Tryz.ntmps77 (Nat.le_of_ble_eq_true rfl) ?_
 intro fa F
 refine wp_seq_k fun K1 hK1=>?_
 refine wp_region_lit ?_
 refine sq_new F rfl (by decide) rfl (R_box rfl (F.at rfl)) ?_;clear F fa;intro fa w1 F hw
 obtain ⟨n1,hn⟩ : ∃ n,n = w.heap.size:=⟨_,rfl⟩
 rw [← hn] at F
 have s1 : w.heap.size ≤ n1:=Nat.le_of_eq hn.symm
 have l1_E : w.heap.size ≤ n1:=by rw [hn];exact E.size
 replace E:=ext_alloc E hw
 have q1:=new_row hw hn
 clear hw hn
 refine F.vl (R_assign rfl (ev_c fa _)) ?_;clear F fa;intro fa F
 refine wpList_nil ?_
 refine hK1 _ _ ?_
 clear hK1
 refine wp_seq_k fun K2 hK2=>?_
 refine wp_seq_k fun K3 hK3=>?_
 refine wp_region_lit ?_
 refine F.vl (R_field rfl (F.at rfl) Tryz.underlying24 rfl (n:=0) (sz:=1) rfl (by kernel_rfl) (by decide)) ?_;clear F fa;intro fa F
 refine F.vl (R_load rfl (F.at rfl) Tryz.underlying3 rfl ((cells_of_block q1 0).trans (get0))) ?_;clear F fa;intro fa F
 refine sq_call F rfl (by decide) rfl (R_callV rfl rfl Tryz.call93 (mpS (F.at rfl) (mpS (ev_c fa _) (mpS (ev_c fa _) mp0)))) (dInside_any x.B 1 3 _) fun e w2 hR=>?_
 obtain ⟨rfl,e9⟩:=hR
 refine ⟨_,rfl,?_⟩;clear F fa;intro fa F
 replace q1:=(e9).keep0 q1
 replace E:=ext_same E (e9)
 clear e9
 refine F.vl (R_not rfl (F.at rfl)) ?_;clear F fa;intro fa F
 refine wpList_nil ?_
 refine hK3 _ _ ?_
 clear hK3
 refine cd_b F rfl (fun hc13=>?_) (fun hc13=>?_)
 ·skip
  have hb1 : outB x.B 1 3 = true:=by simpa using hc13
  refine wp_seq_k fun K4 hK4=>?_
  refine wp_region_lit ?_
  refine F.vl (R_assign rfl (ev_c fa _)) ?_;clear F fa;intro fa F
  refine wpList_nil ?_
  refine hK4 _ _ ?_
  clear hK4
  refine wp_ret ?_
  (try simp only [Exit.inBlock,Exit.then,reduceIte])
  refine rt_v F (rs_1 F rfl rfl) ?_
  exact ⟨ret_int (chk1 hb1).symm,E⟩
 ·skip
  have hb1 : outB x.B 1 3 = false:=by simpa using hc13
  obtain ⟨hB1,hB3⟩:=outB_no.1 hb1
  refine wp_skip ?_
  refine hK2 _ _ ?_
  clear hK2
  refine wp_seq_k fun K5 hK5=>?_
  refine wp_seq_k fun K6 hK6=>?_
  refine wp_region_lit ?_
  refine F.vl (R_field rfl (F.at rfl) Tryz.underlying24 rfl (n:=1) (sz:=1) rfl (by kernel_rfl) (by decide)) ?_;clear F fa;intro fa F
  refine F.vl (R_load rfl (F.at rfl) Tryz.underlying22 rfl ((cells_of_block q1 1).trans (getS (get0)))) ?_;clear F fa;intro fa F
  refine F.vl (R_len rfl rfl (F.at rfl) Tryz.underlying22) ?_;clear F fa;intro fa F
  refine sq_call F rfl (by decide) rfl (R_callV rfl rfl Tryz.call94 (mpS (F.at rfl) (mpS (ev_c fa _) mp0))) (dSized_any (x.D.length : Nat) 4 _) fun e w3 hR=>?_
  obtain ⟨rfl,e9⟩:=hR
  refine ⟨_,rfl,?_⟩;clear F fa;intro fa F
  replace q1:=(e9).keep0 q1
  replace E:=ext_same E (e9)
  clear e9
  refine F.as ?_;clear F fa;intro fa F
  refine wpList_nil ?_
  refine hK6 _ _ ?_
  clear hK6
  refine wp_seq_k fun K7 hK7=>?_
  refine wp_region_lit ?_
  refine F.mv ?_;clear F fa;intro fa F
  refine F.vl (R_neqD rfl (F.at rfl) (ev_c fa _)) ?_;clear F fa;intro fa F
  refine wpList_nil ?_
  refine hK7 _ _ ?_
  clear hK7
  refine cd_if F rfl (fun hc19=>?_) (fun hc19=>?_)
  ·skip
   refine wp_seq_k fun K8 hK8=>?_
   refine wp_region_lit ?_
   refine F.mv ?_;clear F fa;intro fa F
   refine F.as ?_;clear F fa;intro fa F
   refine wpList_nil ?_
   refine hK8 _ _ ?_
   clear hK8
   refine wp_ret ?_
   (try simp only [Exit.inBlock,Exit.then,reduceIte])
   refine rt_v F (rs_1 F rfl rfl) ?_
   exact ⟨ret_int (by rw [chk2 hb1 (by rw [hdl];exact hc19),hdl]),E⟩
  ·skip
   refine wp_skip ?_
   refine hK5 _ _ ?_
   clear hK5
   refine wp_seq_k fun K9 hK9=>?_
   refine wp_seq_k fun K10 hK10=>?_
   refine wp_region_lit ?_
   refine F.vl (R_assign rfl (ev_c fa _)) ?_;clear F fa;intro fa F
   refine wpList_nil ?_
   refine hK10 _ _ ?_
   clear hK10
   refine wp_block ?_
   have F0:=F.sub (.c 1 rfl .n)
   refine lp_for F0 (x.D.length) (fun i Lv W=>Lv = [(4,.int .i64 ((i : Nat) : Int))] ∧ Ext [] w W ∧ W.heap[n1]? = some (.cells #[.int .i64 x.B,.slice x.da x.D.length x.dc,.slice x.la x.L.length x.lc,.int .i64 x.tol] 24 (0,0)) ∧ dyeE x.B (ds.take i) (ds.drop i) = dyeE x.B [] ds ∧ (∀ j,j < i → ((x.D.getD j (.bool true,[])).2.length : Int) = x.B)) ⟨_,⟨rfl,E,q1,rfl,(fun j hj=>absurd hj (by omega))⟩,F.sub (.c 4 rfl (.c 1 rfl .n))⟩ ?_
   clear F F0
   clear E q1
   rintro i _ fa w4 hi1 ⟨rfl,E,q1,hd,hlen⟩ F
   refine wp_seq_k fun K11 hK11=>?_
   refine wp_seq_k fun K12 hK12=>?_
   refine wp_region_lit ?_
   refine F.mv ?_;clear F fa;intro fa F
   refine F.vl (R_field rfl (F.at rfl) Tryz.underlying24 rfl (n:=1) (sz:=1) rfl (by kernel_rfl) (by decide)) ?_;clear F fa;intro fa F
   refine F.vl (R_load rfl (F.at rfl) Tryz.underlying22 rfl ((cells_of_block q1 1).trans (getS (get0)))) ?_;clear F fa;intro fa F
   refine F.vl (R_len rfl rfl (F.at rfl) Tryz.underlying22) ?_;clear F fa;intro fa F
   refine F.vl (R_lss rfl (F.at rfl) (F.at rfl)) ?_;clear F fa;intro fa F
   refine wpList_nil ?_
   refine hK12 _ _ ?_
   clear hK12
   refine cd_if F rfl (fun hc25=>?_) (fun hc25=>?_)
   ·skip
    refine wp_skip ?_
    refine hK11 _ _ ?_
    clear hK11
    refine wp_seq_k fun K13 hK13=>?_
    refine wp_block ?_
    refine wp_seq_k fun K14 hK14=>?_
    refine wp_seq_k fun K15 hK15=>?_
    obtain ⟨la,lca,hla,hlr⟩:=HA.out.d.2 _ (getD_mem (.bool true,[]) (show i < x.D.length by omega))
    have hsz:=SD.out.2 _ (getD_mem (.bool true,[]) (show i < x.D.length by omega))
    have hkd:=KD.out i (by omega)
    refine region_x (Ext [] w4) none follows fun w5 hh eh=>?_
    have q1_:=q1
    replace q1:=keep_same hh q1
    have E_:=E
    have zEw5:=E.size
    replace E:=ext_same E eh
    have eT:=eh
    clear hh eh
    refine F.xr (i:=0) rfl (fun w' hS=>R_loadBlk rfl (F.at rfl) Tryz.underlying24 rfl (by kernel_rfl) (hS.keep q1_ (by simp))) (fun _=>eT) ?_;clear F fa;intro fa F
    refine F.x (i:=1) rfl (fun w'=>R_field rfl (F.at rfl) Tryz.underlying24 rfl (n:=1) (sz:=1) rfl (by kernel_rfl) (by decide)) (fun _=>eT) ?_;clear F fa;intro fa F
    refine F.xr (i:=2) rfl (fun w' hS=>R_load rfl (F.at rfl) Tryz.underlying22 rfl ((cells_of_block (hS.keep q1_ (by simp)) 1).trans (getS (get0)))) (fun _=>eT) ?_;clear F fa;intro fa F
    refine F.x (i:=3) rfl (fun w'=>R_move rfl (F.at rfl)) (fun _=>eT) ?_;clear F fa;intro fa F
    obtain ⟨xb16,xo16,xa16,xr16⟩:=HD.out i (by omega)
    refine F.x (i:=4) rfl (fun w'=>R_ixSlice (sz:=1) rfl ((F.at rfl).trans (xa16 _ _)) (F.at rfl) Tryz.underlying22 (by kernel_rfl) (by omega) (by omega)) (fun _=>eT) ?_;clear F fa;intro fa F
    refine F.xr (i:=5) rfl (fun w' hS=>R_load rfl (F.at rfl) Tryz.underlying25 rfl (xr16 _ (E_.nil hS) 0 _ rfl)) (fun _=>eT) ?_;clear F fa;intro fa F
    rw [hla] at F
    refine ax_only (i:=6) (by kernel_rfl) (op_call F rfl rfl (by decide) rfl (R_callV rfl rfl Tryz.call95 (mpS (F.at rfl) (mpS (F.at rfl) (mpS (ev_c fa _) mp0)))) (dBanded_any x.B x.tol (.slice x.da x.D.length x.dc) (.slice x.la x.L.length x.lc) (x.D.getD i (.bool true,[])).2 9 la lca _ (hlr.ext E (by simp)) hsz) fun e w6 hR=>?_)
    obtain ⟨rfl,e9⟩:=hR
    refine ⟨_,rfl,?_⟩;clear F fa;intro fa F
    replace q1:=(e9).keep0 q1
    replace E:=ext_same E (e9)
    replace eT:=ext_same eT (e9)
    clear e9
    refine ⟨fun _=>eT,?_⟩
    refine F.x (i:=7) rfl (fun w'=>R_assign rfl (F.at rfl)) (fun _=>eT) ?_;clear F fa;intro fa F
    refine ax_done (by kernel_rfl) ?_ _
    clear eT q1_ E_
    refine hK15 _ _ ?_
    clear hK15
    refine wp_seq_k fun K17 hK17=>?_
    refine wp_region_lit ?_
    refine F.mv ?_;clear F fa;intro fa F
    refine F.vl (R_neqD rfl (F.at rfl) (ev_c fa _)) ?_;clear F fa;intro fa F
    refine wpList_nil ?_
    refine hK17 _ _ ?_
    clear hK17
    refine cd_if F rfl (fun hc36=>?_) (fun hc36=>?_)
    ·skip
     refine wp_seq_k fun K18 hK18=>?_
     refine wp_region_lit ?_
     refine F.mv ?_;clear F fa;intro fa F
     refine F.as ?_;clear F fa;intro fa F
     refine wpList_nil ?_
     refine hK18 _ _ ?_
     clear hK18
     refine wp_ret ?_
     (try simp only [Exit.inBlock,Exit.then,reduceIte])
     refine rt_v F (rs_1 F rfl rfl) ?_
     have e:=dye_bad (B:=x.B) (ds:=ds) (i:=i) (by omega) (by rw [hkd];exact hc36)
     rw [hd,hkd] at e
     exact ⟨ret_int (by rw [chk3 hb1 (by rw [hdl];omega) (by rw [e];exact hc36),e]),E⟩
    ·skip
     have hz0 : numE (x.D.getD i (.bool true,[])).2 x.B 9 = 0:=by omega
     obtain ⟨hz1,hz2⟩:=numE_zero hz0
     refine wp_skip ?_
     refine hK14 _ _ ?_
     clear hK14
     refine wp_seq_k fun K19 hK19=>?_
     refine wp_region_lit ?_
     refine F.vl (R_assign rfl (ev_c fa _)) ?_;clear F fa;intro fa F
     refine wpList_nil ?_
     refine hK19 _ _ ?_
     clear hK19
     refine wp_block ?_
     have F0:=F.sub (.c 1 rfl (.c 4 rfl .n))
     refine lp_for F0 (i) (fun j Lv W=>Lv = [(6,.int .i64 ((j : Nat) : Int))] ∧ Ext [] w W ∧ W.heap[n1]? = some (.cells #[.int .i64 x.B,.slice x.da x.D.length x.dc,.slice x.la x.L.length x.lc,.int .i64 x.tol] 24 (0,0)) ∧ (∀ k,k < j → ds.getD k [] ≠ ds.getD i [])) ⟨_,⟨rfl,E,q1,(fun k hk=>absurd hk (by omega))⟩,F.sub (.c 6 rfl (.c 1 rfl (.c 4 rfl .n)))⟩ ?_
     clear F F0
     clear E q1
     rintro j _ fa w7 hi2 ⟨rfl,E,q1,hn⟩ F
     refine wp_seq_k fun K20 hK20=>?_
     refine wp_seq_k fun K21 hK21=>?_
     refine wp_region_lit ?_
     refine F.mv ?_;clear F fa;intro fa F
     refine F.mv ?_;clear F fa;intro fa F
     refine F.vl (R_lss rfl (F.at rfl) (F.at rfl)) ?_;clear F fa;intro fa F
     refine wpList_nil ?_
     refine hK21 _ _ ?_
     clear hK21
     refine cd_if F rfl (fun hc40=>?_) (fun hc40=>?_)
     ·skip
      refine wp_skip ?_
      refine hK20 _ _ ?_
      clear hK20
      refine wp_seq_k fun K22 hK22=>?_
      refine wp_block ?_
      refine wp_seq_k fun K23 hK23=>?_
      have hkj:=KD.out j (by omega)
      have hlj:=hlen j (by omega)
      obtain ⟨ja,jca,hja,hjr⟩:=HA.out.d.2 _ (getD_mem (.bool true,[]) (show j < x.D.length by omega))
      refine region_x (Ext [] w7) none follows fun w8 hh eh=>?_
      have q1_:=q1
      replace q1:=keep_same hh q1
      have E_:=E
      have zEw8:=E.size
      replace E:=ext_same E eh
      have eT:=eh
      clear hh eh
      refine F.x (i:=0) rfl (fun w'=>R_field rfl (F.at rfl) Tryz.underlying24 rfl (n:=1) (sz:=1) rfl (by kernel_rfl) (by decide)) (fun _=>eT) ?_;clear F fa;intro fa F
      refine F.xr (i:=1) rfl (fun w' hS=>R_load rfl (F.at rfl) Tryz.underlying22 rfl ((cells_of_block (hS.keep q1_ (by simp)) 1).trans (getS (get0)))) (fun _=>eT) ?_;clear F fa;intro fa F
      refine F.x (i:=2) rfl (fun w'=>R_move rfl (F.at rfl)) (fun _=>eT) ?_;clear F fa;intro fa F
      obtain ⟨xb24,xo24,xa24,xr24⟩:=HD.out j (by omega)
      refine F.x (i:=3) rfl (fun w'=>R_ixSlice (sz:=1) rfl ((F.at rfl).trans (xa24 _ _)) (F.at rfl) Tryz.underlying22 (by kernel_rfl) (by omega) (by omega)) (fun _=>eT) ?_;clear F fa;intro fa F
      refine F.xr (i:=4) rfl (fun w' hS=>R_load rfl (F.at rfl) Tryz.underlying25 rfl (xr24 _ (E_.nil hS) 0 _ rfl)) (fun _=>eT) ?_;clear F fa;intro fa F
      rw [hja] at F
      refine F.x (i:=5) rfl (fun w'=>R_field rfl (F.at rfl) Tryz.underlying24 rfl (n:=1) (sz:=1) rfl (by kernel_rfl) (by decide)) (fun _=>eT) ?_;clear F fa;intro fa F
      refine F.xr (i:=6) rfl (fun w' hS=>R_load rfl (F.at rfl) Tryz.underlying22 rfl ((cells_of_block (hS.keep q1_ (by simp)) 1).trans (getS (get0)))) (fun _=>eT) ?_;clear F fa;intro fa F
      refine F.x (i:=7) rfl (fun w'=>R_move rfl (F.at rfl)) (fun _=>eT) ?_;clear F fa;intro fa F
      obtain ⟨xb25,xo25,xa25,xr25⟩:=HD.out i (by omega)
      refine F.x (i:=8) rfl (fun w'=>R_ixSlice (sz:=1) rfl ((F.at rfl).trans (xa25 _ _)) (F.at rfl) Tryz.underlying22 (by kernel_rfl) (by omega) (by omega)) (fun _=>eT) ?_;clear F fa;intro fa F
      refine F.xr (i:=9) rfl (fun w' hS=>R_load rfl (F.at rfl) Tryz.underlying25 rfl (xr25 _ (E_.nil hS) 0 _ rfl)) (fun _=>eT) ?_;clear F fa;intro fa F
      rw [hla] at F
      refine ax_only (i:=10) (by kernel_rfl) (op_call F rfl rfl (by decide) rfl (R_callV rfl rfl Tryz.call96 (mpS (F.at rfl) (mpS (F.at rfl) mp0))) (dSame_any (x.D.getD j (.bool true,[])).2 (x.D.getD i (.bool true,[])).2 ja la jca lca _ (hjr.ext E (by simp)) (hlr.ext E (by simp)) (by omega) (by omega)) fun e w9 hR=>?_)
      obtain ⟨rfl,e9⟩:=hR
      refine ⟨_,rfl,?_⟩;clear F fa;intro fa F
      replace q1:=(e9).keep0 q1
      replace E:=ext_same E (e9)
      replace eT:=ext_same eT (e9)
      clear e9
      refine ⟨fun _=>eT,?_⟩
      refine ax_done (by kernel_rfl) ?_ _
      clear eT q1_ E_
      refine hK23 _ _ ?_
      clear hK23
      refine cd_if F rfl (fun hc53=>?_) (fun hc53=>?_)
      ·skip
       have heq : ds.getD j [] = ds.getD i []:=by rw [hkd,hkj];exact hc53
       refine wp_seq_k fun K26 hK26=>?_
       refine wp_region_lit ?_
       refine F.vl (R_assign rfl (ev_c fa _)) ?_;clear F fa;intro fa F
       refine wpList_nil ?_
       refine hK26 _ _ ?_
       clear hK26
       refine wp_ret ?_
       (try simp only [Exit.inBlock,Exit.then,reduceIte])
       refine rt_v F (rs_1 F rfl rfl) ?_
       have e:=dye_twice (B:=x.B) (ds:=ds) (i:=i) (j:=j) (by omega) (by rw [hkd];exact hz0) (by omega) heq
       rw [hd] at e
       exact ⟨ret_int (by rw [chk3 hb1 (by rw [hdl];omega) (by rw [e];decide),e]),E⟩
      ·skip
       have hne : ds.getD j [] ≠ ds.getD i []:=fun e=>by rw [hkd,hkj] at e;exact hc53 e
       refine wp_skip ?_
       refine hK22 _ _ ?_
       clear hK22
       refine wp_region_lit ?_
       refine F.mv ?_;clear F fa;intro fa F
       refine F.vl (R_add rfl (F.at rfl) (ev_c fa _) (by omega) (by omega)) ?_;clear F fa;intro fa F
       refine F.as ?_;clear F fa;intro fa F
       refine wpList_nil ?_
       show _ ∧ _
       exact ⟨by omega,_,⟨rfl,E,q1,(fun k hk=>if e : k = j then e ▸ hne else hn k (by omega))⟩,F.sub (.c 6 rfl (.c 1 rfl (.c 4 rfl .n)))⟩
     ·skip
      refine wp_exit ?_
      have hji : j = i:=by omega
      refine hK13 _ _ ?_
      clear hK13
      refine wp_region_lit ?_
      refine F.mv ?_;clear F fa;intro fa F
      refine F.vl (R_add rfl (F.at rfl) (ev_c fa _) (by omega) (by omega)) ?_;clear F fa;intro fa F
      refine F.as ?_;clear F fa;intro fa F
      refine wpList_nil ?_
      show _ ∧ _
      exact ⟨by omega,_,⟨rfl,E,q1,((dye_go (B:=x.B) (ds:=ds) (i:=i) (by omega) (by rw [hkd];exact hz0) (fun k hk=>hn k (by omega))).symm.trans hd),(fun j hj=>if e : j = i then e ▸ hz1 else hlen j (by omega))⟩,F.sub (.c 4 rfl (.c 1 rfl .n))⟩
   ·skip
    refine wp_exit ?_
    have hd0 : dyeE x.B [] ds = 0:=by rw [← hd,List.drop_eq_nil_of_le (by omega)];rfl
    refine hK9 _ _ ?_
    clear hK9
    refine wp_seq_k fun K27 hK27=>?_
    refine wp_seq_k fun K28 hK28=>?_
    refine wp_region_lit ?_
    refine F.vl (R_field rfl (F.at rfl) Tryz.underlying24 rfl (n:=2) (sz:=1) rfl (by kernel_rfl) (by decide)) ?_;clear F fa;intro fa F
    refine F.vl (R_load rfl (F.at rfl) Tryz.underlying22 rfl ((cells_of_block q1 2).trans (getS (getS (get0))))) ?_;clear F fa;intro fa F
    refine F.vl (R_len rfl rfl (F.at rfl) Tryz.underlying22) ?_;clear F fa;intro fa F
    refine sq_call F rfl (by decide) rfl (R_callV rfl rfl Tryz.call94 (mpS (F.at rfl) (mpS (ev_c fa _) mp0))) (dSized_any (x.L.length : Nat) 3 _) fun e w10 hR=>?_
    obtain ⟨rfl,e9⟩:=hR
    refine ⟨_,rfl,?_⟩;clear F fa;intro fa F
    replace q1:=(e9).keep0 q1
    replace E:=ext_same E (e9)
    clear e9
    refine F.as ?_;clear F fa;intro fa F
    refine wpList_nil ?_
    refine hK28 _ _ ?_
    clear hK28
    refine wp_seq_k fun K29 hK29=>?_
    refine wp_region_lit ?_
    refine F.mv ?_;clear F fa;intro fa F
    refine F.vl (R_neqD rfl (F.at rfl) (ev_c fa _)) ?_;clear F fa;intro fa F
    refine wpList_nil ?_
    refine hK29 _ _ ?_
    clear hK29
    refine cd_if F rfl (fun hc59=>?_) (fun hc59=>?_)
    ·skip
     refine wp_seq_k fun K30 hK30=>?_
     refine wp_region_lit ?_
     refine F.mv ?_;clear F fa;intro fa F
     refine F.as ?_;clear F fa;intro fa F
     refine wpList_nil ?_
     refine hK30 _ _ ?_
     clear hK30
     refine wp_ret ?_
     (try simp only [Exit.inBlock,Exit.then,reduceIte])
     refine rt_v F (rs_1 F rfl rfl) ?_
     exact ⟨ret_int (by rw [chk4 hb1 (by rw [hdl];omega) hd0 (by rw [hll];exact hc59),hll]),E⟩
    ·skip
     refine wp_skip ?_
     refine hK27 _ _ ?_
     clear hK27
     refine wp_seq_k fun K31 hK31=>?_
     refine wp_seq_k fun K32 hK32=>?_
     refine wp_region_lit ?_
     refine F.vl (R_assign rfl (ev_c fa _)) ?_;clear F fa;intro fa F
     refine wpList_nil ?_
     refine hK32 _ _ ?_
     clear hK32
     refine wp_block ?_
     have F0:=F.sub (.c 1 rfl .n)
     refine lp_for F0 (x.L.length) (fun k Lv W=>Lv = [(8,.int .i64 ((k : Nat) : Int))] ∧ Ext [] w W ∧ W.heap[n1]? = some (.cells #[.int .i64 x.B,.slice x.da x.D.length x.dc,.slice x.la x.L.length x.lc,.int .i64 x.tol] 24 (0,0)) ∧ lampE x.B (ls.drop k) = lampE x.B ls) ⟨_,⟨rfl,E,q1,rfl⟩,F.sub (.c 8 rfl (.c 1 rfl .n))⟩ ?_
     clear F F0
     clear E q1
     rintro k _ fa w11 hi3 ⟨rfl,E,q1,hlm⟩ F
     refine wp_seq_k fun K33 hK33=>?_
     refine wp_seq_k fun K34 hK34=>?_
     refine wp_region_lit ?_
     refine F.mv ?_;clear F fa;intro fa F
     refine F.vl (R_field rfl (F.at rfl) Tryz.underlying24 rfl (n:=2) (sz:=1) rfl (by kernel_rfl) (by decide)) ?_;clear F fa;intro fa F
     refine F.vl (R_load rfl (F.at rfl) Tryz.underlying22 rfl ((cells_of_block q1 2).trans (getS (getS (get0))))) ?_;clear F fa;intro fa F
     refine F.vl (R_len rfl rfl (F.at rfl) Tryz.underlying22) ?_;clear F fa;intro fa F
     refine F.vl (R_lss rfl (F.at rfl) (F.at rfl)) ?_;clear F fa;intro fa F
     refine wpList_nil ?_
     refine hK34 _ _ ?_
     clear hK34
     refine cd_if F rfl (fun hc65=>?_) (fun hc65=>?_)
     ·skip
      refine wp_skip ?_
      refine hK33 _ _ ?_
      clear hK33
      refine wp_seq_k fun K35 hK35=>?_
      refine wp_block ?_
      refine wp_seq_k fun K36 hK36=>?_
      refine wp_seq_k fun K37 hK37=>?_
      obtain ⟨la,lca,hla,hlr⟩:=HA.out.l.2 _ (getD_mem (.bool true,[]) (show k < x.L.length by omega))
      have hsz:=SL.out.2 _ (getD_mem (.bool true,[]) (show k < x.L.length by omega))
      have hkl:=KL.out k (by omega)
      refine region_x (Ext [] w11) none follows fun w12 hh eh=>?_
      have q1_:=q1
      replace q1:=keep_same hh q1
      have E_:=E
      have zEw12:=E.size
      replace E:=ext_same E eh
      have eT:=eh
      clear hh eh
      refine F.xr (i:=0) rfl (fun w' hS=>R_loadBlk rfl (F.at rfl) Tryz.underlying24 rfl (by kernel_rfl) (hS.keep q1_ (by simp))) (fun _=>eT) ?_;clear F fa;intro fa F
      refine F.x (i:=1) rfl (fun w'=>R_field rfl (F.at rfl) Tryz.underlying24 rfl (n:=2) (sz:=1) rfl (by kernel_rfl) (by decide)) (fun _=>eT) ?_;clear F fa;intro fa F
      refine F.xr (i:=2) rfl (fun w' hS=>R_load rfl (F.at rfl) Tryz.underlying22 rfl ((cells_of_block (hS.keep q1_ (by simp)) 2).trans (getS (getS (get0))))) (fun _=>eT) ?_;clear F fa;intro fa F
      refine F.x (i:=3) rfl (fun w'=>R_move rfl (F.at rfl)) (fun _=>eT) ?_;clear F fa;intro fa F
      obtain ⟨xb38,xo38,xa38,xr38⟩:=HL.out k (by omega)
      refine F.x (i:=4) rfl (fun w'=>R_ixSlice (sz:=1) rfl ((F.at rfl).trans (xa38 _ _)) (F.at rfl) Tryz.underlying22 (by kernel_rfl) (by omega) (by omega)) (fun _=>eT) ?_;clear F fa;intro fa F
      refine F.xr (i:=5) rfl (fun w' hS=>R_load rfl (F.at rfl) Tryz.underlying25 rfl (xr38 _ (E_.nil hS) 0 _ rfl)) (fun _=>eT) ?_;clear F fa;intro fa F
      rw [hla] at F
      refine ax_only (i:=6) (by kernel_rfl) (op_call F rfl rfl (by decide) rfl (R_callV rfl rfl Tryz.call95 (mpS (F.at rfl) (mpS (F.at rfl) (mpS (ev_c fa _) mp0)))) (dBanded_any x.B x.tol (.slice x.da x.D.length x.dc) (.slice x.la x.L.length x.lc) (x.L.getD k (.bool true,[])).2 3 la lca _ (hlr.ext E (by simp)) hsz) fun e w13 hR=>?_)
      obtain ⟨rfl,e9⟩:=hR
      refine ⟨_,rfl,?_⟩;clear F fa;intro fa F
      replace q1:=(e9).keep0 q1
      replace E:=ext_same E (e9)
      replace eT:=ext_same eT (e9)
      clear e9
      refine ⟨fun _=>eT,?_⟩
      refine F.x (i:=7) rfl (fun w'=>R_assign rfl (F.at rfl)) (fun _=>eT) ?_;clear F fa;intro fa F
      refine ax_done (by kernel_rfl) ?_ _
      clear eT q1_ E_
      refine hK37 _ _ ?_
      clear hK37
      refine wp_seq_k fun K39 hK39=>?_
      refine wp_region_lit ?_
      refine F.mv ?_;clear F fa;intro fa F
      refine F.vl (R_neqD rfl (F.at rfl) (ev_c fa _)) ?_;clear F fa;intro fa F
      refine wpList_nil ?_
      refine hK39 _ _ ?_
      clear hK39
      refine cd_if F rfl (fun hc76=>?_) (fun hc76=>?_)
      ·skip
       refine wp_seq_k fun K40 hK40=>?_
       refine wp_region_lit ?_
       refine F.mv ?_;clear F fa;intro fa F
       refine F.as ?_;clear F fa;intro fa F
       refine wpList_nil ?_
       refine hK40 _ _ ?_
       clear hK40
       refine wp_ret ?_
       (try simp only [Exit.inBlock,Exit.then,reduceIte])
       refine rt_v F (rs_1 F rfl rfl) ?_
       have e:=lamp_bad (B:=x.B) (ls:=ls) (i:=k) (by omega) (by rw [hkl];exact hc76)
       rw [hlm,hkl] at e
       exact ⟨ret_int (by rw [chk5 hb1 (by rw [hdl];omega) hd0 (by rw [hll];omega) (by rw [e];exact hc76),e]),E⟩
      ·skip
       have hz0 : numE (x.L.getD k (.bool true,[])).2 x.B 3 = 0:=by omega
       obtain ⟨hz1,hz2⟩:=numE_zero hz0
       have hzs:=zero_sum (fun n hn=>(hz2 n hn).1)
       obtain ⟨bn,hbn⟩ : ∃ bn : Nat,x.B = bn:=⟨x.B.toNat,by omega⟩
       have hbl : (x.L.getD k (.bool true,[])).2.length = bn:=by omega
       rw [hbl] at hzs
       refine wp_skip ?_
       refine hK36 _ _ ?_
       clear hK36
       refine wp_seq_k fun K41 hK41=>?_
       refine region_x (Ext [] w13) none follows fun w14 hh eh=>?_
       have q1_:=q1
       replace q1:=keep_same hh q1
       have E_:=E
       have zEw14:=E.size
       replace E:=ext_same E eh
       have eT:=eh
       clear hh eh
       refine F.x (i:=0) rfl (fun w'=>R_field rfl (F.at rfl) Tryz.underlying24 rfl (n:=2) (sz:=1) rfl (by kernel_rfl) (by decide)) (fun _=>eT) ?_;clear F fa;intro fa F
       refine F.xr (i:=1) rfl (fun w' hS=>R_load rfl (F.at rfl) Tryz.underlying22 rfl ((cells_of_block (hS.keep q1_ (by simp)) 2).trans (getS (getS (get0))))) (fun _=>eT) ?_;clear F fa;intro fa F
       refine F.x (i:=2) rfl (fun w'=>R_move rfl (F.at rfl)) (fun _=>eT) ?_;clear F fa;intro fa F
       obtain ⟨xb42,xo42,xa42,xr42⟩:=HL.out k (by omega)
       refine F.x (i:=3) rfl (fun w'=>R_ixSlice (sz:=1) rfl ((F.at rfl).trans (xa42 _ _)) (F.at rfl) Tryz.underlying22 (by kernel_rfl) (by omega) (by omega)) (fun _=>eT) ?_;clear F fa;intro fa F
       refine F.xr (i:=4) rfl (fun w' hS=>R_load rfl (F.at rfl) Tryz.underlying25 rfl (xr42 _ (E_.nil hS) 0 _ rfl)) (fun _=>eT) ?_;clear F fa;intro fa F
       rw [hla] at F
       refine F.x (i:=5) rfl (fun w'=>R_field rfl (F.at rfl) Tryz.underlying24 rfl (n:=0) (sz:=1) rfl (by kernel_rfl) (by decide)) (fun _=>eT) ?_;clear F fa;intro fa F
       refine F.xr (i:=6) rfl (fun w' hS=>R_load rfl (F.at rfl) Tryz.underlying3 rfl ((cells_of_block (hS.keep q1_ (by simp)) 0).trans (get0))) (fun _=>eT) ?_;clear F fa;intro fa F
       rw [hbn] at F
       have hEs:=E.size
       refine ax_only (i:=7) (by kernel_rfl) (op_some F rfl rfl (by decide) rfl (make_run rfl (w.heap.size) (e:=3) (bytes:=8) (z:=.int .i64 0) Tryz.underlying25 (by kernel_rfl) rfl (F.at rfl) (F.at rfl) (n:=bn) (by omega) (by decide) (by omega)) ?_);clear F fa;rintro fa v' w15 F ⟨oo,hg,rfl⟩
       obtain ⟨n85,hn⟩ : ∃ n,n = w14.heap.size:=⟨_,rfl⟩
       rw [← hn] at F oo
       have s85 : w14.heap.size ≤ n85:=Nat.le_of_eq hn.symm
       replace q1:=keep_none hg q1
       replace E:=ext_none E hg
       replace eT:=ext_none eT hg
       clear hg hn
       refine ⟨fun _=>eT,?_⟩
       rw [show List.replicate bn (Value.int .i64 0) = ivs (List.replicate bn 0) by simp [ivs]] at oo
       have hzr : IsRows w15 (.slice (some ⟨n85,0,none⟩) (List.replicate bn (0 : Int)).length bn) 1 ((List.replicate bn (0 : Int)).map intRow):=rows_of_owns (row:=intRow) (by rw [← ivs_flat,List.length_replicate];exact oo) (fun _=>rfl)
       have hsm:=dSame_any (x.L.getD k (.bool true,[])).2 (List.replicate bn 0) la (some ⟨n85,0,none⟩) lca bn w15 (hlr.ext E (by simp)) hzr (by rw [List.length_replicate];omega) (by omega)
       rw [List.length_replicate] at hsm
       refine ax_only (i:=8) (by kernel_rfl) (op_call F rfl rfl (by decide) rfl (R_callV rfl rfl Tryz.call96 (mpS (F.at rfl) (mpS (F.at rfl) mp0))) (hsm) fun e w16 hR=>?_)
       obtain ⟨rfl,e9⟩:=hR
       refine ⟨_,rfl,?_⟩;clear F fa;intro fa F
       replace oo:=owns_ext oo (e9) (by simp)
       replace q1:=(e9).keep0 q1
       replace E:=ext_same E (e9)
       replace eT:=ext_same eT (e9)
       clear e9
       refine ⟨fun _=>eT,?_⟩
       refine ax_done (by kernel_rfl) ?_ _
       clear eT q1_ E_
       refine hK41 _ _ ?_
       clear hK41
       refine cd_if F rfl (fun hc86=>?_) (fun hc86=>?_)
       ·skip
        refine wp_seq_k fun K43 hK43=>?_
        refine wp_region_lit ?_
        refine F.vl (R_assign rfl (ev_c fa _)) ?_;clear F fa;intro fa F
        refine wpList_nil ?_
        refine hK43 _ _ ?_
        clear hK43
        refine wp_ret ?_
        (try simp only [Exit.inBlock,Exit.then,reduceIte])
        refine rt_v F (rs_1 F rfl rfl) ?_
        have e:=lamp_dark (B:=x.B) (ls:=ls) (i:=k) (by omega) (by rw [hkl];exact hz0) (by rw [hkl];exact hzs.1 hc86)
        rw [hlm] at e
        exact ⟨ret_int (by rw [chk5 hb1 (by rw [hdl];omega) hd0 (by rw [hll];omega) (by rw [e];decide),e]),E⟩
       ·skip
        refine wp_skip ?_
        refine hK35 _ _ ?_
        clear hK35
        refine wp_region_lit ?_
        refine F.mv ?_;clear F fa;intro fa F
        refine F.vl (R_add rfl (F.at rfl) (ev_c fa _) (by omega) (by omega)) ?_;clear F fa;intro fa F
        refine F.as ?_;clear F fa;intro fa F
        refine wpList_nil ?_
        show _ ∧ _
        exact ⟨by omega,_,⟨rfl,E,q1,((lamp_go (B:=x.B) (ls:=ls) (i:=k) (by omega) (by rw [hkl];exact hz0) (by rw [hkl];exact fun e=>hc86 (hzs.2 e))).symm.trans hlm)⟩,F.sub (.c 8 rfl (.c 1 rfl .n))⟩
     ·skip
      refine wp_exit ?_
      have hl0 : lampE x.B ls = 0:=by rw [← hlm,List.drop_eq_nil_of_le (by omega)];rfl
      refine hK31 _ _ ?_
      clear hK31
      refine wp_seq_k fun K44 hK44=>?_
      refine wp_seq_k fun K45 hK45=>?_
      refine wp_region_lit ?_
      refine F.vl (R_field rfl (F.at rfl) Tryz.underlying24 rfl (n:=3) (sz:=1) rfl (by kernel_rfl) (by decide)) ?_;clear F fa;intro fa F
      refine F.vl (R_load rfl (F.at rfl) Tryz.underlying3 rfl ((cells_of_block q1 3).trans (getS (getS (getS (get0)))))) ?_;clear F fa;intro fa F
      refine sq_call F rfl (by decide) rfl (R_callV rfl rfl Tryz.call93 (mpS (F.at rfl) (mpS (ev_c fa _) (mpS (ev_c fa _) mp0)))) (dInside_any x.tol 0 12 _) fun e w17 hR=>?_
      obtain ⟨rfl,e9⟩:=hR
      refine ⟨_,rfl,?_⟩;clear F fa;intro fa F
      replace q1:=(e9).keep0 q1
      replace E:=ext_same E (e9)
      clear e9
      refine F.vl (R_not rfl (F.at rfl)) ?_;clear F fa;intro fa F
      refine wpList_nil ?_
      refine hK45 _ _ ?_
      clear hK45
      refine cd_b F rfl (fun hc90=>?_) (fun hc90=>?_)
      ·skip
       refine wp_seq_k fun K46 hK46=>?_
       refine wp_region_lit ?_
       refine F.vl (R_assign rfl (ev_c fa _)) ?_;clear F fa;intro fa F
       refine wpList_nil ?_
       refine hK46 _ _ ?_
       clear hK46
       refine wp_ret ?_
       (try simp only [Exit.inBlock,Exit.then,reduceIte])
       refine rt_v F (rs_1 F rfl rfl) ?_
       exact ⟨ret_int (by rw [chk6 hb1 (by rw [hdl];omega) hd0 (by rw [hll];omega) hl0,if_pos (by simpa using hc90)]),E⟩
      ·skip
       refine wp_skip ?_
       refine hK44 _ _ ?_
       clear hK44
       refine wp_seq_k fun K47 hK47=>?_
       refine wp_region_lit ?_
       refine F.vl (R_assign rfl (ev_c fa _)) ?_;clear F fa;intro fa F
       refine wpList_nil ?_
       refine hK47 _ _ ?_
       clear hK47
       refine wp_ret ?_
       (try simp only [Exit.inBlock,Exit.then,reduceIte])
       refine rt_v F (rs_1 F rfl rfl) ?_
       exact ⟨ret_int (by rw [chk6 hb1 (by rw [hdl];omega) hd0 (by rw [hll];omega) hl0,if_neg (by simpa using hc90)]),E⟩
end Go.Proofs.YtdjeecgddbjbeaaGreat
