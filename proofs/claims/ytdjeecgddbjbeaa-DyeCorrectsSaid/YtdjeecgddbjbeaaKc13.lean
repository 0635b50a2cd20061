/- Parts of a proof: Dcx, Dcy, Dcz, Dtu, Dmx, Drl, Dda, Ddb. No conditions. -/
import Derived.Test.YtdjeecgddbjbeaaKc4
import Derived.Test.YtdjeecgddbjbeaaKc7
import Derived.Test.YtdjeecgddbjbeaaKc10
import Derived.Test.YtdjeecgddbjbeaaKc11
import Derived.Test.YtdjeecgddbjbeaaKc12
set_option linter.unusedVariables false
set_option linter.unusedSimpArgs false
namespace Go.Proofs.Ytdjeecgddbjbeaa
open Go.RowKit
theorem zero_sum {l : List Int} (h0 : ∀ n ∈ l,0 ≤ n) : l = List.replicate l.length 0 ↔ l.sum = 0:=by
 induction l with
 | nil=>simp
 | cons a l ih =>
  have h1:=h0 a (by simp)
  have h2 : 0 ≤ l.sum:=by
   have key : ∀ m : List Int,(∀ n ∈ m,0 ≤ n) → 0 ≤ m.sum:=by
    intro m
    induction m with
    | nil=>intro _;simp
    | cons b m ihm=>intro hm;have:=hm b (by simp);have:=ihm (fun n hn=>hm n (by simp [hn]));rw [List.sum_cons];omega
   exact key l (fun n hn=>h0 n (by simp [hn]))
  rw [List.length_cons,List.replicate_succ,List.cons.injEq,ih (fun n hn=>h0 n (by simp [hn])),List.sum_cons]
  omega
set_option maxRecDepth 100000 in
set_option maxHeartbeats 4000000 in
theorem dCheck_any (x : Vm) (w : World) (h : x.At w) (sd : SmallL x.D) (sl : SmallL x.L) :
  Calls Try.prog 63 #[.agg #[.int .i64 x.B,.slice x.da x.D.length x.dc,.slice x.la x.L.length x.lc,.int .i64 x.tol]] w fun e w'=>e = .returned (.int .i64 (chkE x.B (x.D.map (·.2)) (x.L.map (·.2)) x.tol)) ∧ Ext [] w w':=by
 have E : Ext [] w w:=Ext.refl _ _
 have HA:=Lib.hid h
 have HD:=Lib.hid h.d.1
 have HL:=Lib.hid h.l.1
 have SD:=Lib.hid sd
 have SL:=Lib.hid sl
 clear h
 obtain ⟨sd1,sd2⟩:=sd
 obtain ⟨sl1,sl2⟩:=sl
 clear sd2 sl2
 obtain ⟨ds,hds⟩ : ∃ ds,ds = x.D.map (·.2):=⟨_,rfl⟩
 obtain ⟨ls,hls⟩ : ∃ ls,ls = x.L.map (·.2):=⟨_,rfl⟩
 have hdl : ds.length = x.D.length:=by rw [hds,List.length_map]
 have hll : ls.length = x.L.length:=by rw [hls,List.length_map]
 have KD : Hid (∀ i,i < x.D.length → ds.getD i [] = (x.D.getD i (.bool true,[])).2):=fun i hi=>by rw [hds];exact key_getD _ hi
 have KL : Hid (∀ i,i < x.L.length → ls.getD i [] = (x.L.getD i (.bool true,[])).2):=fun i hi=>by rw [hls];exact key_getD _ hi
 rw [← hds,← hls]
 clear hds hls
 refine calls_has 91 Try.func63 rfl Try.ntmps63 (Nat.le_of_ble_eq_true rfl) ?_
 intro fa F
 refine wp_seq_k fun K1 hK1=>?_
 refine wp_region_lit ?_
 refine sq_new F rfl (by decide) rfl (R_box rfl (F.at rfl)) ?_;clear F fa;intro fa w1 F hw
 obtain ⟨n1,hn⟩ : ∃ n,n = w.heap.size:=⟨_,rfl⟩
 rw [← hn] at F
 have s1 : w.heap.size ≤ n1:=Nat.le_of_eq hn.symm
 have l1_E : w.heap.size ≤ n1:=by rw [hn];exact E.size
 replace E:=ext_alloc E hw
 have q1:=new_row hw hn
 clear hw hn
 refine F.vl (R_assign rfl (ev_c fa _)) ?_;clear F fa;intro fa F
 refine wpList_nil ?_
 refine hK1 _ _ ?_
 clear hK1
 refine wp_seq_k fun K2 hK2=>?_
 refine wp_seq_k fun K3 hK3=>?_
 refine wp_region_lit ?_
 refine F.vl (R_field rfl (F.at rfl) Try.underlying24 rfl (n:=0) (sz:=1) rfl (by kernel_rfl) (by decide)) ?_;clear F fa;intro fa F
 refine F.vl (R_load rfl (F.at rfl) Try.underlying3 rfl ((cells_of_block q1 0).trans (get0))) ?_;clear F fa;intro fa F
 refine sq_call F rfl (by decide) rfl (R_callV rfl rfl Try.call88 (mpS (F.at rfl) (mpS (ev_c fa _) (mpS (ev_c fa _) mp0)))) (dInside_any x.B 1 3 _) fun e w2 hR=>?_
 obtain ⟨rfl,e9⟩:=hR
 refine ⟨_,rfl,?_⟩;clear F fa;intro fa F
 replace q1:=(e9).keep0 q1
 replace E:=ext_same E (e9)
 clear e9
 refine F.vl (R_not rfl (F.at rfl)) ?_;clear F fa;intro fa F
 refine wpList_nil ?_
 refine hK3 _ _ ?_
 clear hK3
 refine cd_b F rfl (fun hc13=>?_) (fun hc13=>?_)
 ·skip
  have hb1 : outB x.B 1 3 = true:=by simpa using hc13
  refine wp_seq_k fun K4 hK4=>?_
  refine wp_region_lit ?_
  refine F.vl (R_assign rfl (ev_c fa _)) ?_;clear F fa;intro fa F
  refine wpList_nil ?_
  refine hK4 _ _ ?_
  clear hK4
  refine wp_ret ?_
  (try simp only [Exit.inBlock,Exit.then,reduceIte])
  refine rt_v F (rs_1 F rfl rfl) ?_
  exact ⟨ret_int (chk1 hb1).symm,E⟩
 ·skip
  have hb1 : outB x.B 1 3 = false:=by simpa using hc13
  obtain ⟨hB1,hB3⟩:=outB_no.1 hb1
  refine wp_skip ?_
  refine hK2 _ _ ?_
  clear hK2
  refine wp_seq_k fun K5 hK5=>?_
  refine wp_seq_k fun K6 hK6=>?_
  refine wp_region_lit ?_
  refine F.vl (R_field rfl (F.at rfl) Try.underlying24 rfl (n:=1) (sz:=1) rfl (by kernel_rfl) (by decide)) ?_;clear F fa;intro fa F
  refine F.vl (R_load rfl (F.at rfl) Try.underlying22 rfl ((cells_of_block q1 1).trans (getS (get0)))) ?_;clear F fa;intro fa F
  refine F.vl (R_len rfl rfl (F.at rfl) Try.underlying22) ?_;clear F fa;intro fa F
  refine sq_call F rfl (by decide) rfl (R_callV rfl rfl Try.call105 (mpS (F.at rfl) (mpS (ev_c fa _) mp0))) (dSized_any (x.D.length : Nat) 4 _) fun e w3 hR=>?_
  obtain ⟨rfl,e9⟩:=hR
  refine ⟨_,rfl,?_⟩;clear F fa;intro fa F
  replace q1:=(e9).keep0 q1
  replace E:=ext_same E (e9)
  clear e9
  refine F.as ?_;clear F fa;intro fa F
  refine wpList_nil ?_
  refine hK6 _ _ ?_
  clear hK6
  refine wp_seq_k fun K7 hK7=>?_
  refine wp_region_lit ?_
  refine F.mv ?_;clear F fa;intro fa F
  refine F.vl (R_neqD rfl (F.at rfl) (ev_c fa _)) ?_;clear F fa;intro fa F
  refine wpList_nil ?_
  refine hK7 _ _ ?_
  clear hK7
  refine cd_if F rfl (fun hc19=>?_) (fun hc19=>?_)
  ·skip
   refine wp_seq_k fun K8 hK8=>?_
   refine wp_region_lit ?_
   refine F.mv ?_;clear F fa;intro fa F
   refine F.as ?_;clear F fa;intro fa F
   refine wpList_nil ?_
   refine hK8 _ _ ?_
   clear hK8
   refine wp_ret ?_
   (try simp only [Exit.inBlock,Exit.then,reduceIte])
   refine rt_v F (rs_1 F rfl rfl) ?_
   exact ⟨ret_int (by rw [chk2 hb1 (by rw [hdl];exact hc19),hdl]),E⟩
  ·skip
   refine wp_skip ?_
   refine hK5 _ _ ?_
   clear hK5
   refine wp_seq_k fun K9 hK9=>?_
   refine wp_seq_k fun K10 hK10=>?_
   refine wp_region_lit ?_
   refine F.vl (R_assign rfl (ev_c fa _)) ?_;clear F fa;intro fa F
   refine wpList_nil ?_
   refine hK10 _ _ ?_
   clear hK10
   refine wp_block ?_
   have F0:=F.sub (.c 1 rfl .n)
   refine lp_for F0 (x.D.length) (fun i Lv W=>Lv = [(4,.int .i64 ((i : Nat) : Int))] ∧ Ext [] w W ∧ W.heap[n1]? = some (.cells #[.int .i64 x.B,.slice x.da x.D.length x.dc,.slice x.la x.L.length x.lc,.int .i64 x.tol] 24 (0,0)) ∧ dyeE x.B (ds.take i) (ds.drop i) = dyeE x.B [] ds ∧ (∀ j,j < i → ((x.D.getD j (.bool true,[])).2.length : Int) = x.B)) ⟨_,⟨rfl,E,q1,rfl,(fun j hj=>absurd hj (by omega))⟩,F.sub (.c 4 rfl (.c 1 rfl .n))⟩ ?_
   clear F F0
   clear E q1
   rintro i _ fa w4 hi1 ⟨rfl,E,q1,hd,hlen⟩ F
   refine wp_seq_k fun K11 hK11=>?_
   refine wp_seq_k fun K12 hK12=>?_
   refine wp_region_lit ?_
   refine F.mv ?_;clear F fa;intro fa F
   refine F.vl (R_field rfl (F.at rfl) Try.underlying24 rfl (n:=1) (sz:=1) rfl (by kernel_rfl) (by decide)) ?_;clear F fa;intro fa F
   refine F.vl (R_load rfl (F.at rfl) Try.underlying22 rfl ((cells_of_block q1 1).trans (getS (get0)))) ?_;clear F fa;intro fa F
   refine F.vl (R_len rfl rfl (F.at rfl) Try.underlying22) ?_;clear F fa;intro fa F
   refine F.vl (R_lss rfl (F.at rfl) (F.at rfl)) ?_;clear F fa;intro fa F
   refine wpList_nil ?_
   refine hK12 _ _ ?_
   clear hK12
   refine cd_if F rfl (fun hc25=>?_) (fun hc25=>?_)
   ·skip
    refine wp_skip ?_
    refine hK11 _ _ ?_
    clear hK11
    refine wp_seq_k fun K13 hK13=>?_
    refine wp_block ?_
    refine wp_seq_k fun K14 hK14=>?_
    refine wp_seq_k fun K15 hK15=>?_
    obtain ⟨la,lca,hla,hlr⟩:=HA.out.d.2 _ (getD_mem (.bool true,[]) (show i < x.D.length by omega))
    have hsz:=SD.out.2 _ (getD_mem (.bool true,[]) (show i < x.D.length by omega))
    have hkd:=KD.out i (by omega)
    refine region_x (Ext [] w4) none follows fun w5 hh eh=>?_
    have q1_:=q1
    replace q1:=keep_same hh q1
    have E_:=E
    have zEw5:=E.size
    replace E:=ext_same E eh
    have eT:=eh
    clear hh eh
    refine F.xr (i:=0) rfl (fun w' hS=>R_loadBlk rfl (F.at rfl) Try.underlying24 rfl (by kernel_rfl) (hS.keep q1_ (by simp))) (fun _=>eT) ?_;clear F fa;intro fa F
    refine F.x (i:=1) rfl (fun w'=>R_field rfl (F.at rfl) Try.underlying24 rfl (n:=1) (sz:=1) rfl (by kernel_rfl) (by decide)) (fun _=>eT) ?_;clear F fa;intro fa F
    refine F.xr (i:=2) rfl (fun w' hS=>R_load rfl (F.at rfl) Try.underlying22 rfl ((cells_of_block (hS.keep q1_ (by simp)) 1).trans (getS (get0)))) (fun _=>eT) ?_;clear F fa;intro fa F
    refine F.x (i:=3) rfl (fun w'=>R_move rfl (F.at rfl)) (fun _=>eT) ?_;clear F fa;intro fa F
    obtain ⟨xb16,xo16,xa16,xr16⟩:=HD.out i (by omega)
    refine F.x (i:=4) rfl (fun w'=>R_ixSlice (sz:=1) rfl ((F.at rfl).trans (xa16 _ _)) (F.at rfl) Try.underlying22 (by kernel_rfl) (by omega) (by omega)) (fun _=>eT) ?_;clear F fa;intro fa F
    refine F.xr (i:=5) rfl (fun w' hS=>R_load rfl (F.at rfl) Try.underlying25 rfl (xr16 _ (E_.nil hS) 0 _ rfl)) (fun _=>eT) ?_;clear F fa;intro fa F
    rw [hla] at F
    refine ax_only (i:=6) (by kernel_rfl) (op_call F rfl rfl (by decide) rfl (R_callV rfl rfl Try.call106 (mpS (F.at rfl) (mpS (F.at rfl) (mpS (ev_c fa _) mp0)))) (dBanded_any x.B x.tol (.slice x.da x.D.length x.dc) (.slice x.la x.L.length x.lc) (x.D.getD i (.bool true,[])).2 9 la lca _ (hlr.ext E (by simp)) hsz) fun e w6 hR=>?_)
    obtain ⟨rfl,e9⟩:=hR
    refine ⟨_,rfl,?_⟩;clear F fa;intro fa F
    replace q1:=(e9).keep0 q1
    replace E:=ext_same E (e9)
    replace eT:=ext_same eT (e9)
    clear e9
    refine ⟨fun _=>eT,?_⟩
    refine F.x (i:=7) rfl (fun w'=>R_assign rfl (F.at rfl)) (fun _=>eT) ?_;clear F fa;intro fa F
    refine ax_done (by kernel_rfl) ?_ _
    clear eT q1_ E_
    refine hK15 _ _ ?_
    clear hK15
    refine wp_seq_k fun K17 hK17=>?_
    refine wp_region_lit ?_
    refine F.mv ?_;clear F fa;intro fa F
    refine F.vl (R_neqD rfl (F.at rfl) (ev_c fa _)) ?_;clear F fa;intro fa F
    refine wpList_nil ?_
    refine hK17 _ _ ?_
    clear hK17
    refine cd_if F rfl (fun hc36=>?_) (fun hc36=>?_)
    ·skip
     refine wp_seq_k fun K18 hK18=>?_
     refine wp_region_lit ?_
     refine F.mv ?_;clear F fa;intro fa F
     refine F.as ?_;clear F fa;intro fa F
     refine wpList_nil ?_
     refine hK18 _ _ ?_
     clear hK18
     refine wp_ret ?_
     (try simp only [Exit.inBlock,Exit.then,reduceIte])
     refine rt_v F (rs_1 F rfl rfl) ?_
     have e:=dye_bad (B:=x.B) (ds:=ds) (i:=i) (by omega) (by rw [hkd];exact hc36)
     rw [hd,hkd] at e
     exact ⟨ret_int (by rw [chk3 hb1 (by rw [hdl];omega) (by rw [e];exact hc36),e]),E⟩
    ·skip
     have hz0 : numE (x.D.getD i (.bool true,[])).2 x.B 9 = 0:=by omega
     obtain ⟨hz1,hz2⟩:=numE_zero hz0
     refine wp_skip ?_
     refine hK14 _ _ ?_
     clear hK14
     refine wp_seq_k fun K19 hK19=>?_
     refine wp_region_lit ?_
     refine F.vl (R_assign rfl (ev_c fa _)) ?_;clear F fa;intro fa F
     refine wpList_nil ?_
     refine hK19 _ _ ?_
     clear hK19
     refine wp_block ?_
     have F0:=F.sub (.c 1 rfl (.c 4 rfl .n))
     refine lp_for F0 (i) (fun j Lv W=>Lv = [(6,.int .i64 ((j : Nat) : Int))] ∧ Ext [] w W ∧ W.heap[n1]? = some (.cells #[.int .i64 x.B,.slice x.da x.D.length x.dc,.slice x.la x.L.length x.lc,.int .i64 x.tol] 24 (0,0)) ∧ (∀ k,k < j → ds.getD k [] ≠ ds.getD i [])) ⟨_,⟨rfl,E,q1,(fun k hk=>absurd hk (by omega))⟩,F.sub (.c 6 rfl (.c 1 rfl (.c 4 rfl .n)))⟩ ?_
     clear F F0
     clear E q1
     rintro j _ fa w7 hi2 ⟨rfl,E,q1,hn⟩ F
     refine wp_seq_k fun K20 hK20=>?_
     refine wp_seq_k fun K21 hK21=>?_
     refine wp_region_lit ?_
     refine F.mv ?_;clear F fa;intro fa F
     refine F.mv ?_;clear F fa;intro fa F
     refine F.vl (R_lss rfl (F.at rfl) (F.at rfl)) ?_;clear F fa;intro fa F
     refine wpList_nil ?_
     refine hK21 _ _ ?_
     clear hK21
     refine cd_if F rfl (fun hc40=>?_) (fun hc40=>?_)
     ·skip
      refine wp_skip ?_
      refine hK20 _ _ ?_
      clear hK20
      refine wp_seq_k fun K22 hK22=>?_
      refine wp_block ?_
      refine wp_seq_k fun K23 hK23=>?_
      have hkj:=KD.out j (by omega)
      have hlj:=hlen j (by omega)
      obtain ⟨ja,jca,hja,hjr⟩:=HA.out.d.2 _ (getD_mem (.bool true,[]) (show j < x.D.length by omega))
      refine region_x (Ext [] w7) none follows fun w8 hh eh=>?_
      have q1_:=q1
      replace q1:=keep_same hh q1
      have E_:=E
      have zEw8:=E.size
      replace E:=ext_same E eh
      have eT:=eh
      clear hh eh
      refine F.x (i:=0) rfl (fun w'=>R_field rfl (F.at rfl) Try.underlying24 rfl (n:=1) (sz:=1) rfl (by kernel_rfl) (by decide)) (fun _=>eT) ?_;clear F fa;intro fa F
      refine F.xr (i:=1) rfl (fun w' hS=>R_load rfl (F.at rfl) Try.underlying22 rfl ((cells_of_block (hS.keep q1_ (by simp)) 1).trans (getS (get0)))) (fun _=>eT) ?_;clear F fa;intro fa F
      refine F.x (i:=2) rfl (fun w'=>R_move rfl (F.at rfl)) (fun _=>eT) ?_;clear F fa;intro fa F
      obtain ⟨xb24,xo24,xa24,xr24⟩:=HD.out j (by omega)
      refine F.x (i:=3) rfl (fun w'=>R_ixSlice (sz:=1) rfl ((F.at rfl).trans (xa24 _ _)) (F.at rfl) Try.underlying22 (by kernel_rfl) (by omega) (by omega)) (fun _=>eT) ?_;clear F fa;intro fa F
      refine F.xr (i:=4) rfl (fun w' hS=>R_load rfl (F.at rfl) Try.underlying25 rfl (xr24 _ (E_.nil hS) 0 _ rfl)) (fun _=>eT) ?_;clear F fa;intro fa F
      rw [hja] at F
      refine F.x (i:=5) rfl (fun w'=>R_field rfl (F.at rfl) Try.underlying24 rfl (n:=1) (sz:=1) rfl (by kernel_rfl) (by decide)) (fun _=>eT) ?_;clear F fa;intro fa F
      refine F.xr (i:=6) rfl (fun w' hS=>R_load rfl (F.at rfl) Try.underlying22 rfl ((cells_of_block (hS.keep q1_ (by simp)) 1).trans (getS (get0)))) (fun _=>eT) ?_;clear F fa;intro fa F
      refine F.x (i:=7) rfl (fun w'=>R_move rfl (F.at rfl)) (fun _=>eT) ?_;clear F fa;intro fa F
      obtain ⟨xb25,xo25,xa25,xr25⟩:=HD.out i (by omega)
      refine F.x (i:=8) rfl (fun w'=>R_ixSlice (sz:=1) rfl ((F.at rfl).trans (xa25 _ _)) (F.at rfl) Try.underlying22 (by kernel_rfl) (by omega) (by omega)) (fun _=>eT) ?_;clear F fa;intro fa F
      refine F.xr (i:=9) rfl (fun w' hS=>R_load rfl (F.at rfl) Try.underlying25 rfl (xr25 _ (E_.nil hS) 0 _ rfl)) (fun _=>eT) ?_;clear F fa;intro fa F
      rw [hla] at F
      refine ax_only (i:=10) (by kernel_rfl) (op_call F rfl rfl (by decide) rfl (R_callV rfl rfl Try.call107 (mpS (F.at rfl) (mpS (F.at rfl) mp0))) (dSame_any (x.D.getD j (.bool true,[])).2 (x.D.getD i (.bool true,[])).2 ja la jca lca _ (hjr.ext E (by simp)) (hlr.ext E (by simp)) (by omega) (by omega)) fun e w9 hR=>?_)
      obtain ⟨rfl,e9⟩:=hR
      refine ⟨_,rfl,?_⟩;clear F fa;intro fa F
      replace q1:=(e9).keep0 q1
      replace E:=ext_same E (e9)
      replace eT:=ext_same eT (e9)
      clear e9
      refine ⟨fun _=>eT,?_⟩
      refine ax_done (by kernel_rfl) ?_ _
      clear eT q1_ E_
      refine hK23 _ _ ?_
      clear hK23
      refine cd_if F rfl (fun hc53=>?_) (fun hc53=>?_)
      ·skip
       have heq : ds.getD j [] = ds.getD i []:=by rw [hkd,hkj];exact hc53
       refine wp_seq_k fun K26 hK26=>?_
       refine wp_region_lit ?_
       refine F.vl (R_assign rfl (ev_c fa _)) ?_;clear F fa;intro fa F
       refine wpList_nil ?_
       refine hK26 _ _ ?_
       clear hK26
       refine wp_ret ?_
       (try simp only [Exit.inBlock,Exit.then,reduceIte])
       refine rt_v F (rs_1 F rfl rfl) ?_
       have e:=dye_twice (B:=x.B) (ds:=ds) (i:=i) (j:=j) (by omega) (by rw [hkd];exact hz0) (by omega) heq
       rw [hd] at e
       exact ⟨ret_int (by rw [chk3 hb1 (by rw [hdl];omega) (by rw [e];decide),e]),E⟩
      ·skip
       have hne : ds.getD j [] ≠ ds.getD i []:=fun e=>by rw [hkd,hkj] at e;exact hc53 e
       refine wp_skip ?_
       refine hK22 _ _ ?_
       clear hK22
       refine wp_region_lit ?_
       refine F.mv ?_;clear F fa;intro fa F
       refine F.vl (R_add rfl (F.at rfl) (ev_c fa _) (by omega) (by omega)) ?_;clear F fa;intro fa F
       refine F.as ?_;clear F fa;intro fa F
       refine wpList_nil ?_
       show _ ∧ _
       exact ⟨by omega,_,⟨rfl,E,q1,(fun k hk=>if e : k = j then e ▸ hne else hn k (by omega))⟩,F.sub (.c 6 rfl (.c 1 rfl (.c 4 rfl .n)))⟩
     ·skip
      refine wp_exit ?_
      have hji : j = i:=by omega
      refine hK13 _ _ ?_
      clear hK13
      refine wp_region_lit ?_
      refine F.mv ?_;clear F fa;intro fa F
      refine F.vl (R_add rfl (F.at rfl) (ev_c fa _) (by omega) (by omega)) ?_;clear F fa;intro fa F
      refine F.as ?_;clear F fa;intro fa F
      refine wpList_nil ?_
      show _ ∧ _
      exact ⟨by omega,_,⟨rfl,E,q1,((dye_go (B:=x.B) (ds:=ds) (i:=i) (by omega) (by rw [hkd];exact hz0) (fun k hk=>hn k (by omega))).symm.trans hd),(fun j hj=>if e : j = i then e ▸ hz1 else hlen j (by omega))⟩,F.sub (.c 4 rfl (.c 1 rfl .n))⟩
   ·skip
    refine wp_exit ?_
    have hd0 : dyeE x.B [] ds = 0:=by rw [← hd,List.drop_eq_nil_of_le (by omega)];rfl
    refine hK9 _ _ ?_
    clear hK9
    refine wp_seq_k fun K27 hK27=>?_
    refine wp_seq_k fun K28 hK28=>?_
    refine wp_region_lit ?_
    refine F.vl (R_field rfl (F.at rfl) Try.underlying24 rfl (n:=2) (sz:=1) rfl (by kernel_rfl) (by decide)) ?_;clear F fa;intro fa F
    refine F.vl (R_load rfl (F.at rfl) Try.underlying22 rfl ((cells_of_block q1 2).trans (getS (getS (get0))))) ?_;clear F fa;intro fa F
    refine F.vl (R_len rfl rfl (F.at rfl) Try.underlying22) ?_;clear F fa;intro fa F
    refine sq_call F rfl (by decide) rfl (R_callV rfl rfl Try.call105 (mpS (F.at rfl) (mpS (ev_c fa _) mp0))) (dSized_any (x.L.length : Nat) 3 _) fun e w10 hR=>?_
    obtain ⟨rfl,e9⟩:=hR
    refine ⟨_,rfl,?_⟩;clear F fa;intro fa F
    replace q1:=(e9).keep0 q1
    replace E:=ext_same E (e9)
    clear e9
    refine F.as ?_;clear F fa;intro fa F
    refine wpList_nil ?_
    refine hK28 _ _ ?_
    clear hK28
    refine wp_seq_k fun K29 hK29=>?_
    refine wp_region_lit ?_
    refine F.mv ?_;clear F fa;intro fa F
    refine F.vl (R_neqD rfl (F.at rfl) (ev_c fa _)) ?_;clear F fa;intro fa F
    refine wpList_nil ?_
    refine hK29 _ _ ?_
    clear hK29
    refine cd_if F rfl (fun hc59=>?_) (fun hc59=>?_)
    ·skip
     refine wp_seq_k fun K30 hK30=>?_
     refine wp_region_lit ?_
     refine F.mv ?_;clear F fa;intro fa F
     refine F.as ?_;clear F fa;intro fa F
     refine wpList_nil ?_
     refine hK30 _ _ ?_
     clear hK30
     refine wp_ret ?_
     (try simp only [Exit.inBlock,Exit.then,reduceIte])
     refine rt_v F (rs_1 F rfl rfl) ?_
     exact ⟨ret_int (by rw [chk4 hb1 (by rw [hdl];omega) hd0 (by rw [hll];exact hc59),hll]),E⟩
    ·skip
     refine wp_skip ?_
     refine hK27 _ _ ?_
     clear hK27
     refine wp_seq_k fun K31 hK31=>?_
     refine wp_seq_k fun K32 hK32=>?_
     refine wp_region_lit ?_
     refine F.vl (R_assign rfl (ev_c fa _)) ?_;clear F fa;intro fa F
     refine wpList_nil ?_
     refine hK32 _ _ ?_
     clear hK32
     refine wp_block ?_
     have F0:=F.sub (.c 1 rfl .n)
     refine lp_for F0 (x.L.length) (fun k Lv W=>Lv = [(8,.int .i64 ((k : Nat) : Int))] ∧ Ext [] w W ∧ W.heap[n1]? = some (.cells #[.int .i64 x.B,.slice x.da x.D.length x.dc,.slice x.la x.L.length x.lc,.int .i64 x.tol] 24 (0,0)) ∧ lampE x.B (ls.drop k) = lampE x.B ls) ⟨_,⟨rfl,E,q1,rfl⟩,F.sub (.c 8 rfl (.c 1 rfl .n))⟩ ?_
     clear F F0
     clear E q1
     rintro k _ fa w11 hi3 ⟨rfl,E,q1,hlm⟩ F
     refine wp_seq_k fun K33 hK33=>?_
     refine wp_seq_k fun K34 hK34=>?_
     refine wp_region_lit ?_
     refine F.mv ?_;clear F fa;intro fa F
     refine F.vl (R_field rfl (F.at rfl) Try.underlying24 rfl (n:=2) (sz:=1) rfl (by kernel_rfl) (by decide)) ?_;clear F fa;intro fa F
     refine F.vl (R_load rfl (F.at rfl) Try.underlying22 rfl ((cells_of_block q1 2).trans (getS (getS (get0))))) ?_;clear F fa;intro fa F
     refine F.vl (R_len rfl rfl (F.at rfl) Try.underlying22) ?_;clear F fa;intro fa F
     refine F.vl (R_lss rfl (F.at rfl) (F.at rfl)) ?_;clear F fa;intro fa F
     refine wpList_nil ?_
     refine hK34 _ _ ?_
     clear hK34
     refine cd_if F rfl (fun hc65=>?_) (fun hc65=>?_)
     ·skip
      refine wp_skip ?_
      refine hK33 _ _ ?_
      clear hK33
      refine wp_seq_k fun K35 hK35=>?_
      refine wp_block ?_
      refine wp_seq_k fun K36 hK36=>?_
      refine wp_seq_k fun K37 hK37=>?_
      obtain ⟨la,lca,hla,hlr⟩:=HA.out.l.2 _ (getD_mem (.bool true,[]) (show k < x.L.length by omega))
      have hsz:=SL.out.2 _ (getD_mem (.bool true,[]) (show k < x.L.length by omega))
      have hkl:=KL.out k (by omega)
      refine region_x (Ext [] w11) none follows fun w12 hh eh=>?_
      have q1_:=q1
      replace q1:=keep_same hh q1
      have E_:=E
      have zEw12:=E.size
      replace E:=ext_same E eh
      have eT:=eh
      clear hh eh
      refine F.xr (i:=0) rfl (fun w' hS=>R_loadBlk rfl (F.at rfl) Try.underlying24 rfl (by kernel_rfl) (hS.keep q1_ (by simp))) (fun _=>eT) ?_;clear F fa;intro fa F
      refine F.x (i:=1) rfl (fun w'=>R_field rfl (F.at rfl) Try.underlying24 rfl (n:=2) (sz:=1) rfl (by kernel_rfl) (by decide)) (fun _=>eT) ?_;clear F fa;intro fa F
      refine F.xr (i:=2) rfl (fun w' hS=>R_load rfl (F.at rfl) Try.underlying22 rfl ((cells_of_block (hS.keep q1_ (by simp)) 2).trans (getS (getS (get0))))) (fun _=>eT) ?_;clear F fa;intro fa F
      refine F.x (i:=3) rfl (fun w'=>R_move rfl (F.at rfl)) (fun _=>eT) ?_;clear F fa;intro fa F
      obtain ⟨xb38,xo38,xa38,xr38⟩:=HL.out k (by omega)
      refine F.x (i:=4) rfl (fun w'=>R_ixSlice (sz:=1) rfl ((F.at rfl).trans (xa38 _ _)) (F.at rfl) Try.underlying22 (by kernel_rfl) (by omega) (by omega)) (fun _=>eT) ?_;clear F fa;intro fa F
      refine F.xr (i:=5) rfl (fun w' hS=>R_load rfl (F.at rfl) Try.underlying25 rfl (xr38 _ (E_.nil hS) 0 _ rfl)) (fun _=>eT) ?_;clear F fa;intro fa F
      rw [hla] at F
      refine ax_only (i:=6) (by kernel_rfl) (op_call F rfl rfl (by decide) rfl (R_callV rfl rfl Try.call106 (mpS (F.at rfl) (mpS (F.at rfl) (mpS (ev_c fa _) mp0)))) (dBanded_any x.B x.tol (.slice x.da x.D.length x.dc) (.slice x.la x.L.length x.lc) (x.L.getD k (.bool true,[])).2 3 la lca _ (hlr.ext E (by simp)) hsz) fun e w13 hR=>?_)
      obtain ⟨rfl,e9⟩:=hR
      refine ⟨_,rfl,?_⟩;clear F fa;intro fa F
      replace q1:=(e9).keep0 q1
      replace E:=ext_same E (e9)
      replace eT:=ext_same eT (e9)
      clear e9
      refine ⟨fun _=>eT,?_⟩
      refine F.x (i:=7) rfl (fun w'=>R_assign rfl (F.at rfl)) (fun _=>eT) ?_;clear F fa;intro fa F
      refine ax_done (by kernel_rfl) ?_ _
      clear eT q1_ E_
      refine hK37 _ _ ?_
      clear hK37
      refine wp_seq_k fun K39 hK39=>?_
      refine wp_region_lit ?_
      refine F.mv ?_;clear F fa;intro fa F
      refine F.vl (R_neqD rfl (F.at rfl) (ev_c fa _)) ?_;clear F fa;intro fa F
      refine wpList_nil ?_
      refine hK39 _ _ ?_
      clear hK39
      refine cd_if F rfl (fun hc76=>?_) (fun hc76=>?_)
      ·skip
       refine wp_seq_k fun K40 hK40=>?_
       refine wp_region_lit ?_
       refine F.mv ?_;clear F fa;intro fa F
       refine F.as ?_;clear F fa;intro fa F
       refine wpList_nil ?_
       refine hK40 _ _ ?_
       clear hK40
       refine wp_ret ?_
       (try simp only [Exit.inBlock,Exit.then,reduceIte])
       refine rt_v F (rs_1 F rfl rfl) ?_
       have e:=lamp_bad (B:=x.B) (ls:=ls) (i:=k) (by omega) (by rw [hkl];exact hc76)
       rw [hlm,hkl] at e
       exact ⟨ret_int (by rw [chk5 hb1 (by rw [hdl];omega) hd0 (by rw [hll];omega) (by rw [e];exact hc76),e]),E⟩
      ·skip
       have hz0 : numE (x.L.getD k (.bool true,[])).2 x.B 3 = 0:=by omega
       obtain ⟨hz1,hz2⟩:=numE_zero hz0
       have hzs:=zero_sum (fun n hn=>(hz2 n hn).1)
       obtain ⟨bn,hbn⟩ : ∃ bn : Nat,x.B = bn:=⟨x.B.toNat,by omega⟩
       have hbl : (x.L.getD k (.bool true,[])).2.length = bn:=by omega
       rw [hbl] at hzs
       refine wp_skip ?_
       refine hK36 _ _ ?_
       clear hK36
       refine wp_seq_k fun K41 hK41=>?_
       refine region_x (Ext [] w13) none follows fun w14 hh eh=>?_
       have q1_:=q1
       replace q1:=keep_same hh q1
       have E_:=E
       have zEw14:=E.size
       replace E:=ext_same E eh
       have eT:=eh
       clear hh eh
       refine F.x (i:=0) rfl (fun w'=>R_field rfl (F.at rfl) Try.underlying24 rfl (n:=2) (sz:=1) rfl (by kernel_rfl) (by decide)) (fun _=>eT) ?_;clear F fa;intro fa F
       refine F.xr (i:=1) rfl (fun w' hS=>R_load rfl (F.at rfl) Try.underlying22 rfl ((cells_of_block (hS.keep q1_ (by simp)) 2).trans (getS (getS (get0))))) (fun _=>eT) ?_;clear F fa;intro fa F
       refine F.x (i:=2) rfl (fun w'=>R_move rfl (F.at rfl)) (fun _=>eT) ?_;clear F fa;intro fa F
       obtain ⟨xb42,xo42,xa42,xr42⟩:=HL.out k (by omega)
       refine F.x (i:=3) rfl (fun w'=>R_ixSlice (sz:=1) rfl ((F.at rfl).trans (xa42 _ _)) (F.at rfl) Try.underlying22 (by kernel_rfl) (by omega) (by omega)) (fun _=>eT) ?_;clear F fa;intro fa F
       refine F.xr (i:=4) rfl (fun w' hS=>R_load rfl (F.at rfl) Try.underlying25 rfl (xr42 _ (E_.nil hS) 0 _ rfl)) (fun _=>eT) ?_;clear F fa;intro fa F
       rw [hla] at F
       refine F.x (i:=5) rfl (fun w'=>R_field rfl (F.at rfl) Try.underlying24 rfl (n:=0) (sz:=1) rfl (by kernel_rfl) (by decide)) (fun _=>eT) ?_;clear F fa;intro fa F
       refine F.xr (i:=6) rfl (fun w' hS=>R_load rfl (F.at rfl) Try.underlying3 rfl ((cells_of_block (hS.keep q1_ (by simp)) 0).trans (get0))) (fun _=>eT) ?_;clear F fa;intro fa F
       rw [hbn] at F
       have hEs:=E.size
       refine ax_only (i:=7) (by kernel_rfl) (op_some F rfl rfl (by decide) rfl (make_run rfl (w.heap.size) (e:=3) (bytes:=8) (z:=.int .i64 0) Try.underlying25 (by kernel_rfl) rfl (F.at rfl) (F.at rfl) (n:=bn) (by omega) (by decide) (by omega)) ?_);clear F fa;rintro fa v' w15 F ⟨oo,hg,rfl⟩
       obtain ⟨n85,hn⟩ : ∃ n,n = w14.heap.size:=⟨_,rfl⟩
       rw [← hn] at F oo
       have s85 : w14.heap.size ≤ n85:=Nat.le_of_eq hn.symm
       replace q1:=keep_none hg q1
       replace E:=ext_none E hg
       replace eT:=ext_none eT hg
       clear hg hn
       refine ⟨fun _=>eT,?_⟩
       rw [show List.replicate bn (Value.int .i64 0) = ivs (List.replicate bn 0) by simp [ivs]] at oo
       have hzr : IsRows w15 (.slice (some ⟨n85,0,none⟩) (List.replicate bn (0 : Int)).length bn) 1 ((List.replicate bn (0 : Int)).map intRow):=rows_of_owns (row:=intRow) (by rw [← ivs_flat,List.length_replicate];exact oo) (fun _=>rfl)
       have hsm:=dSame_any (x.L.getD k (.bool true,[])).2 (List.replicate bn 0) la (some ⟨n85,0,none⟩) lca bn w15 (hlr.ext E (by simp)) hzr (by rw [List.length_replicate];omega) (by omega)
       rw [List.length_replicate] at hsm
       refine ax_only (i:=8) (by kernel_rfl) (op_call F rfl rfl (by decide) rfl (R_callV rfl rfl Try.call107 (mpS (F.at rfl) (mpS (F.at rfl) mp0))) (hsm) fun e w16 hR=>?_)
       obtain ⟨rfl,e9⟩:=hR
       refine ⟨_,rfl,?_⟩;clear F fa;intro fa F
       replace oo:=owns_ext oo (e9) (by simp)
       replace q1:=(e9).keep0 q1
       replace E:=ext_same E (e9)
       replace eT:=ext_same eT (e9)
       clear e9
       refine ⟨fun _=>eT,?_⟩
       refine ax_done (by kernel_rfl) ?_ _
       clear eT q1_ E_
       refine hK41 _ _ ?_
       clear hK41
       refine cd_if F rfl (fun hc86=>?_) (fun hc86=>?_)
       ·skip
        refine wp_seq_k fun K43 hK43=>?_
        refine wp_region_lit ?_
        refine F.vl (R_assign rfl (ev_c fa _)) ?_;clear F fa;intro fa F
        refine wpList_nil ?_
        refine hK43 _ _ ?_
        clear hK43
        refine wp_ret ?_
        (try simp only [Exit.inBlock,Exit.then,reduceIte])
        refine rt_v F (rs_1 F rfl rfl) ?_
        have e:=lamp_dark (B:=x.B) (ls:=ls) (i:=k) (by omega) (by rw [hkl];exact hz0) (by rw [hkl];exact hzs.1 hc86)
        rw [hlm] at e
        exact ⟨ret_int (by rw [chk5 hb1 (by rw [hdl];omega) hd0 (by rw [hll];omega) (by rw [e];decide),e]),E⟩
       ·skip
        refine wp_skip ?_
        refine hK35 _ _ ?_
        clear hK35
        refine wp_region_lit ?_
        refine F.mv ?_;clear F fa;intro fa F
        refine F.vl (R_add rfl (F.at rfl) (ev_c fa _) (by omega) (by omega)) ?_;clear F fa;intro fa F
        refine F.as ?_;clear F fa;intro fa F
        refine wpList_nil ?_
        show _ ∧ _
        exact ⟨by omega,_,⟨rfl,E,q1,((lamp_go (B:=x.B) (ls:=ls) (i:=k) (by omega) (by rw [hkl];exact hz0) (by rw [hkl];exact fun e=>hc86 (hzs.2 e))).symm.trans hlm)⟩,F.sub (.c 8 rfl (.c 1 rfl .n))⟩
     ·skip
      refine wp_exit ?_
      have hl0 : lampE x.B ls = 0:=by rw [← hlm,List.drop_eq_nil_of_le (by omega)];rfl
      refine hK31 _ _ ?_
      clear hK31
      refine wp_seq_k fun K44 hK44=>?_
      refine wp_seq_k fun K45 hK45=>?_
      refine wp_region_lit ?_
      refine F.vl (R_field rfl (F.at rfl) Try.underlying24 rfl (n:=3) (sz:=1) rfl (by kernel_rfl) (by decide)) ?_;clear F fa;intro fa F
      refine F.vl (R_load rfl (F.at rfl) Try.underlying3 rfl ((cells_of_block q1 3).trans (getS (getS (getS (get0)))))) ?_;clear F fa;intro fa F
      refine sq_call F rfl (by decide) rfl (R_callV rfl rfl Try.call88 (mpS (F.at rfl) (mpS (ev_c fa _) (mpS (ev_c fa _) mp0)))) (dInside_any x.tol 0 12 _) fun e w17 hR=>?_
      obtain ⟨rfl,e9⟩:=hR
      refine ⟨_,rfl,?_⟩;clear F fa;intro fa F
      replace q1:=(e9).keep0 q1
      replace E:=ext_same E (e9)
      clear e9
      refine F.vl (R_not rfl (F.at rfl)) ?_;clear F fa;intro fa F
      refine wpList_nil ?_
      refine hK45 _ _ ?_
      clear hK45
      refine cd_b F rfl (fun hc90=>?_) (fun hc90=>?_)
      ·skip
       refine wp_seq_k fun K46 hK46=>?_
       refine wp_region_lit ?_
       refine F.vl (R_assign rfl (ev_c fa _)) ?_;clear F fa;intro fa F
       refine wpList_nil ?_
       refine hK46 _ _ ?_
       clear hK46
       refine wp_ret ?_
       (try simp only [Exit.inBlock,Exit.then,reduceIte])
       refine rt_v F (rs_1 F rfl rfl) ?_
       exact ⟨ret_int (by rw [chk6 hb1 (by rw [hdl];omega) hd0 (by rw [hll];omega) hl0,if_pos (by simpa using hc90)]),E⟩
      ·skip
       refine wp_skip ?_
       refine hK44 _ _ ?_
       clear hK44
       refine wp_seq_k fun K47 hK47=>?_
       refine wp_region_lit ?_
       refine F.vl (R_assign rfl (ev_c fa _)) ?_;clear F fa;intro fa F
       refine wpList_nil ?_
       refine hK47 _ _ ?_
       clear hK47
       refine wp_ret ?_
       (try simp only [Exit.inBlock,Exit.then,reduceIte])
       refine rt_v F (rs_1 F rfl rfl) ?_
       exact ⟨ret_int (by rw [chk6 hb1 (by rw [hdl];omega) hd0 (by rw [hll];omega) hl0,if_neg (by simpa using hc90)]),E⟩
theorem cnt_bd {l : List Int} {m h : Int} (e : cntE l m h = 0) : (l.length : Int) = m ∧ ∀ n ∈ l,0 ≤ n ∧ n ≤ h:=by
 have hl : (l.length : Int) = m:=by
  apply Classical.byContradiction
  intro hne
  rcases Int.lt_or_gt_of_ne hne with h1 | h1
  ·rw [cnt_few h1] at e;omega
  ·rw [cnt_many h1] at e;omega
 rw [cnt_num hl] at e
 exact numE_zero e
set_option maxRecDepth 100000 in
theorem dRecipe_any (x : Vm) (hd : x.D.length ≤ 1000) (l : List Int) (hl : l.length ≤ 1000) (a : Option Addr) (c : Nat) (w : World) (hr : IsRows w (.slice a l.length c) 1 (l.map intRow)) :
  Calls Try.prog 64 #[.agg #[.int .i64 x.B,.slice x.da x.D.length x.dc,.slice x.la x.L.length x.lc,.int .i64 x.tol],.slice a l.length c] w fun e w'=>e = .returned (.int .i64 (rcpE x l)) ∧ Ext [] w w':=by
 have E : Ext [] w w:=Ext.refl _ _
 have HR:=Lib.hid hr
 clear hr
 refine calls_has 17 Try.func64 rfl Try.ntmps64 (Nat.le_of_ble_eq_true rfl) ?_
 intro fa F
 refine wp_seq_k fun K1 hK1=>?_
 refine wp_region_lit ?_
 refine sq_new F rfl (by decide) rfl (R_box rfl (F.at rfl)) ?_;clear F fa;intro fa w1 F hw
 obtain ⟨n2,hn⟩ : ∃ n,n = w.heap.size:=⟨_,rfl⟩
 rw [← hn] at F
 have s2 : w.heap.size ≤ n2:=Nat.le_of_eq hn.symm
 have l2_E : w.heap.size ≤ n2:=by rw [hn];exact E.size
 replace E:=ext_alloc E hw
 have q2:=new_row hw hn
 clear hw hn
 refine F.vl (R_assign rfl (ev_c fa _)) ?_;clear F fa;intro fa F
 refine wpList_nil ?_
 refine hK1 _ _ ?_
 clear hK1
 refine wp_seq_k fun K2 hK2=>?_
 refine wp_seq_k fun K3 hK3=>?_
 refine wp_region_lit ?_
 refine F.mv ?_;clear F fa;intro fa F
 refine F.vl (R_field rfl (F.at rfl) Try.underlying24 rfl (n:=1) (sz:=1) rfl (by kernel_rfl) (by decide)) ?_;clear F fa;intro fa F
 refine F.vl (R_load rfl (F.at rfl) Try.underlying22 rfl ((cells_of_block q2 1).trans (getS (get0)))) ?_;clear F fa;intro fa F
 refine F.vl (R_len rfl rfl (F.at rfl) Try.underlying22) ?_;clear F fa;intro fa F
 refine sq_call F rfl (by decide) rfl (R_callV rfl rfl Try.call108 (mpS (F.at rfl) (mpS (F.at rfl) (mpS (ev_c fa _) mp0)))) (dCounted_any l ((x.D.length : Nat) : Int) 6 a c _ (HR.out.ext E (by simp)) hl) fun e w2 hR=>?_
 obtain ⟨rfl,e9⟩:=hR
 refine ⟨_,rfl,?_⟩;clear F fa;intro fa F
 replace q2:=(e9).keep0 q2
 replace E:=ext_same E (e9)
 clear e9
 refine F.as ?_;clear F fa;intro fa F
 refine wpList_nil ?_
 refine hK3 _ _ ?_
 clear hK3
 refine wp_seq_k fun K4 hK4=>?_
 refine wp_region_lit ?_
 refine F.mv ?_;clear F fa;intro fa F
 refine F.vl (R_neqD rfl (F.at rfl) (ev_c fa _)) ?_;clear F fa;intro fa F
 refine wpList_nil ?_
 refine hK4 _ _ ?_
 clear hK4
 refine cd_if F rfl (fun hc12=>?_) (fun hc12=>?_)
 ·skip
  refine wp_seq_k fun K5 hK5=>?_
  refine wp_region_lit ?_
  refine F.mv ?_;clear F fa;intro fa F
  refine F.as ?_;clear F fa;intro fa F
  refine wpList_nil ?_
  refine hK5 _ _ ?_
  clear hK5
  refine wp_ret ?_
  (try simp only [Exit.inBlock,Exit.then,reduceIte])
  refine rt_v F (rs_1 F rfl rfl) ?_
  exact ⟨ret_int (if_pos hc12).symm,E⟩
 ·skip
  have hz : cntE l ((x.D.length : Nat) : Int) 6 = 0:=by omega
  obtain ⟨hz1,hz2⟩:=cnt_bd hz
  refine wp_skip ?_
  refine hK2 _ _ ?_
  clear hK2
  refine wp_seq_k fun K6 hK6=>?_
  refine wp_region_lit ?_
  refine F.mv ?_;clear F fa;intro fa F
  refine sq_call F rfl (by decide) rfl (R_callV rfl rfl Try.call67 (mpS (F.at rfl) mp0)) (dTotal_any l a c _ (HR.out.ext E (by simp)) hl (fun n hn=>by have:=hz2 n hn;omega)) fun e w3 hR=>?_
  obtain ⟨rfl,e9⟩:=hR
  refine ⟨_,rfl,?_⟩;clear F fa;intro fa F
  replace q2:=(e9).keep0 q2
  replace E:=ext_same E (e9)
  clear e9
  refine sq_call F rfl (by decide) rfl (R_callV rfl rfl Try.call105 (mpS (F.at rfl) (mpS (ev_c fa _) mp0))) (dSized_any l.sum 6 _) fun e w4 hR=>?_
  obtain ⟨rfl,e9⟩:=hR
  refine ⟨_,rfl,?_⟩;clear F fa;intro fa F
  replace q2:=(e9).keep0 q2
  replace E:=ext_same E (e9)
  clear e9
  refine F.as ?_;clear F fa;intro fa F
  refine wpList_nil ?_
  refine hK6 _ _ ?_
  clear hK6
  refine wp_ret ?_
  (try simp only [Exit.inBlock,Exit.then,reduceIte])
  refine rt_v F (rs_1 F rfl rfl) ?_
  exact ⟨ret_int (if_neg (by omega)).symm,E⟩
set_option maxRecDepth 100000 in
theorem dLamps_any (x : Vm) (hl3 : x.L.length ≤ 1000) (ls : List Int) (hll : ls.length ≤ 1000) (a : Option Addr) (c : Nat) (w : World) (hr : IsRows w (.slice a ls.length c) 1 (ls.map intRow)) :
  Calls Try.prog 79 #[.agg #[.int .i64 x.B,.slice x.da x.D.length x.dc,.slice x.la x.L.length x.lc,.int .i64 x.tol],.slice a ls.length c] w fun e w'=>e = .returned (.int .i64 (lmpE x ls)) ∧ Ext [] w w':=by
 have E : Ext [] w w:=Ext.refl _ _
 have HS:=Lib.hid (slAt_of_rows hr 0)
 clear hr
 obtain ⟨hi,hhi⟩ : ∃ hi,hi = ((x.L.length : Nat) : Int) - 1:=⟨_,rfl⟩
 have hle : lmpE x ls = if ls.length = 0 then 7 else lmpF hi none ls:=by rw [hhi];rfl
 refine calls_has 39 Try.func79 rfl Try.ntmps79 (Nat.le_of_ble_eq_true rfl) ?_
 intro fa F
 refine wp_seq_k fun K1 hK1=>?_
 refine wp_region_lit ?_
 refine sq_new F rfl (by decide) rfl (R_box rfl (F.at rfl)) ?_;clear F fa;intro fa w1 F hw
 obtain ⟨n2,hn⟩ : ∃ n,n = w.heap.size:=⟨_,rfl⟩
 rw [← hn] at F
 have s2 : w.heap.size ≤ n2:=Nat.le_of_eq hn.symm
 have l2_E : w.heap.size ≤ n2:=by rw [hn];exact E.size
 replace E:=ext_alloc E hw
 have q2:=new_row hw hn
 clear hw hn
 refine F.vl (R_assign rfl (ev_c fa _)) ?_;clear F fa;intro fa F
 refine wpList_nil ?_
 refine hK1 _ _ ?_
 clear hK1
 refine wp_seq_k fun K2 hK2=>?_
 refine wp_seq_k fun K3 hK3=>?_
 refine wp_region_lit ?_
 refine F.mv ?_;clear F fa;intro fa F
 refine F.vl (R_len rfl rfl (F.at rfl) Try.underlying25) ?_;clear F fa;intro fa F
 refine F.vl (R_eqlD rfl (F.at rfl) (ev_c fa _)) ?_;clear F fa;intro fa F
 refine wpList_nil ?_
 refine hK3 _ _ ?_
 clear hK3
 refine cd_if F rfl (fun hc8=>?_) (fun hc8=>?_)
 ·skip
  rw [if_pos (by omega)] at hle
  refine wp_seq_k fun K4 hK4=>?_
  refine wp_region_lit ?_
  refine F.vl (R_assign rfl (ev_c fa _)) ?_;clear F fa;intro fa F
  refine wpList_nil ?_
  refine hK4 _ _ ?_
  clear hK4
  refine wp_ret ?_
  (try simp only [Exit.inBlock,Exit.then,reduceIte])
  refine rt_v F (rs_1 F rfl rfl) ?_
  exact ⟨ret_int hle.symm,E⟩
 ·skip
  rw [if_neg (by omega)] at hle
  refine wp_skip ?_
  refine hK2 _ _ ?_
  clear hK2
  refine wp_seq_k fun K5 hK5=>?_
  refine wp_seq_k fun K6 hK6=>?_
  refine wp_region_lit ?_
  refine F.vl (R_assign rfl (ev_c fa _)) ?_;clear F fa;intro fa F
  refine wpList_nil ?_
  refine hK6 _ _ ?_
  clear hK6
  refine wp_block ?_
  have F0:=F.sub (.c 1 rfl (.c 2 rfl .n))
  refine lp_for F0 (ls.length) (fun i Lv W=>Lv = [(5,.int .i64 ((i : Nat) : Int))] ∧ Ext [] w W ∧ W.heap[n2]? = some (.cells #[.int .i64 x.B,.slice x.da x.D.length x.dc,.slice x.la x.L.length x.lc,.int .i64 x.tol] 24 (0,0)) ∧ lmpE x ls = lmpF hi (prevO ls i) (ls.drop i)) ⟨_,⟨rfl,E,q2,hle⟩,F.sub (.c 5 rfl (.c 1 rfl (.c 2 rfl .n)))⟩ ?_
  clear F F0
  clear E q2
  rintro i _ fa w2 hi1 ⟨rfl,E,q2,hle⟩ F
  refine wp_seq_k fun K7 hK7=>?_
  refine wp_seq_k fun K8 hK8=>?_
  refine wp_region_lit ?_
  refine F.mv ?_;clear F fa;intro fa F
  refine F.mv ?_;clear F fa;intro fa F
  refine F.vl (R_len rfl rfl (F.at rfl) Try.underlying25) ?_;clear F fa;intro fa F
  refine F.vl (R_lss rfl (F.at rfl) (F.at rfl)) ?_;clear F fa;intro fa F
  refine wpList_nil ?_
  refine hK8 _ _ ?_
  clear hK8
  refine cd_if F rfl (fun hc12=>?_) (fun hc12=>?_)
  ·skip
   refine wp_skip ?_
   refine hK7 _ _ ?_
   clear hK7
   refine wp_seq_k fun K9 hK9=>?_
   refine wp_block ?_
   refine wp_seq_k fun K10 hK10=>?_
   refine wp_seq_k fun K11 hK11=>?_
   refine region_x (Ext [] w2) none follows fun w3 hh eh=>?_
   have q2_:=q2
   replace q2:=keep_same hh q2
   have E_:=E
   have zEw3:=E.size
   replace E:=ext_same E eh
   have eT:=eh
   clear hh eh
   refine F.x (i:=0) rfl (fun w'=>R_move rfl (F.at rfl)) (fun _=>eT) ?_;clear F fa;intro fa F
   refine F.x (i:=1) rfl (fun w'=>R_move rfl (F.at rfl)) (fun _=>eT) ?_;clear F fa;intro fa F
   obtain ⟨xb12,xo12,xa12,xr12⟩:=HS.out i (by omega)
   refine F.x (i:=2) rfl (fun w'=>R_ixSlice (sz:=1) rfl ((F.at rfl).trans (xa12 _ _)) (F.at rfl) Try.underlying25 (by kernel_rfl) (by omega) (by omega)) (fun _=>eT) ?_;clear F fa;intro fa F
   refine F.xr (i:=3) rfl (fun w' hS=>R_load rfl (F.at rfl) Try.underlying3 rfl (xr12 _ (E_.nil hS) 0 _ rfl)) (fun _=>eT) ?_;clear F fa;intro fa F
   refine F.x (i:=4) rfl (fun w'=>R_field rfl (F.at rfl) Try.underlying24 rfl (n:=2) (sz:=1) rfl (by kernel_rfl) (by decide)) (fun _=>eT) ?_;clear F fa;intro fa F
   refine F.xr (i:=5) rfl (fun w' hS=>R_load rfl (F.at rfl) Try.underlying22 rfl ((cells_of_block (hS.keep q2_ (by simp)) 2).trans (getS (getS (get0))))) (fun _=>eT) ?_;clear F fa;intro fa F
   refine F.x (i:=6) rfl (fun w'=>R_len rfl rfl (F.at rfl) Try.underlying22) (fun _=>eT) ?_;clear F fa;intro fa F
   refine F.x (i:=7) rfl (fun w'=>R_sub rfl (F.at rfl) (ev_c fa _) (by omega) (by omega)) (fun _=>eT) ?_;clear F fa;intro fa F
   refine ax_only (i:=8) (by kernel_rfl) (op_call F rfl rfl (by decide) rfl (R_callV rfl rfl Try.call88 (mpS (F.at rfl) (mpS (ev_c fa _) (mpS (F.at rfl) mp0)))) (dInside_any (ls.getD i 0) 0 (((x.L.length : Nat) : Int) - 1) _) fun e w4 hR=>?_)
   obtain ⟨rfl,e9⟩:=hR
   refine ⟨_,rfl,?_⟩;clear F fa;intro fa F
   replace q2:=(e9).keep0 q2
   replace E:=ext_same E (e9)
   replace eT:=ext_same eT (e9)
   clear e9
   refine ⟨fun _=>eT,?_⟩
   refine F.x (i:=9) rfl (fun w'=>R_not rfl (F.at rfl)) (fun _=>eT) ?_;clear F fa;intro fa F
   refine ax_done (by kernel_rfl) ?_ _
   clear eT q2_ E_
   refine hK11 _ _ ?_
   clear hK11
   refine cd_b F rfl (fun hc24=>?_) (fun hc24=>?_)
   ·skip
    have ho : outB (ls.getD i 0) 0 hi = true:=by rw [hhi];simpa using hc24
    refine wp_seq_k fun K13 hK13=>?_
    refine wp_region_lit ?_
    refine F.vl (R_assign rfl (ev_c fa _)) ?_;clear F fa;intro fa F
    refine wpList_nil ?_
    refine hK13 _ _ ?_
    clear hK13
    refine wp_ret ?_
    (try simp only [Exit.inBlock,Exit.then,reduceIte])
    refine rt_v F (rs_1 F rfl rfl) ?_
    exact ⟨ret_int (hle.trans (lmp_out (by omega) ho)).symm,E⟩
   ·skip
    have ho : outB (ls.getD i 0) 0 hi = false:=by rw [hhi];simpa using hc24
    refine wp_skip ?_
    refine hK10 _ _ ?_
    clear hK10
    refine wp_seq_k fun K14 hK14=>?_
    by_cases ci : 0 < i
    ·skip
     by_cases cj : ls.getD i 0 ≤ ls.getD (i - 1) 0
     ·skip
      refine region_x (Ext [] w4) none follows fun w5 hh eh=>?_
      have q2_:=q2
      replace q2:=keep_same hh q2
      have E_:=E
      have zEw5:=E.size
      replace E:=ext_same E eh
      have eT:=eh
      clear hh eh
      refine F.x (i:=0) rfl (fun w'=>R_move rfl (F.at rfl)) (fun _=>eT) ?_;clear F fa;intro fa F
      refine F.x (i:=1) rfl (fun w'=>R_gtrB (b:=true) rfl (F.at rfl) (ev_c fa _) (decide_eq_true ((by omega)))) (fun _=>eT) ?_;clear F fa;intro fa F
      refine F.x (i:=2) rfl (fun w'=>R_move rfl (F.at rfl)) (fun _=>eT) ?_;clear F fa;intro fa F
      refine F.x (i:=3) rfl (fun w'=>R_move rfl (F.at rfl)) (fun _=>eT) ?_ (hw:=(wantT F rfl rfl (by decide) rfl));clear F fa;intro fa F
      refine F.x (i:=4) rfl (fun w'=>R_move rfl (F.at rfl)) (fun _=>eT) ?_ (hw:=(wantT F rfl rfl (by decide) rfl));clear F fa;intro fa F
      obtain ⟨xb15,xo15,xa15,xr15⟩:=HS.out i (by omega)
      refine F.x (i:=5) rfl (fun w'=>R_ixSlice (sz:=1) rfl ((F.at rfl).trans (xa15 _ _)) (F.at rfl) Try.underlying25 (by kernel_rfl) (by omega) (by omega)) (fun _=>eT) ?_ (hw:=(wantT F rfl rfl (by decide) rfl));clear F fa;intro fa F
      refine F.xr (i:=6) rfl (fun w' hS=>R_load rfl (F.at rfl) Try.underlying3 rfl (xr15 _ (E_.nil hS) 0 _ rfl)) (fun _=>eT) ?_ (hw:=(wantT F rfl rfl (by decide) rfl));clear F fa;intro fa F
      refine F.x (i:=7) rfl (fun w'=>R_move rfl (F.at rfl)) (fun _=>eT) ?_ (hw:=(wantT F rfl rfl (by decide) rfl));clear F fa;intro fa F
      refine F.x (i:=8) rfl (fun w'=>R_move rfl (F.at rfl)) (fun _=>eT) ?_ (hw:=(wantT F rfl rfl (by decide) rfl));clear F fa;intro fa F
      refine F.x (i:=9) rfl (fun w'=>R_sub rfl (F.at rfl) (ev_c fa _) (by omega) (by omega)) (fun _=>eT) ?_ (hw:=(wantT F rfl rfl (by decide) rfl));clear F fa;intro fa F
      rw [show (((i : Nat) : Int) - 1) = ((i - 1 : Nat) : Int) by omega] at F
      obtain ⟨xb16,xo16,xa16,xr16⟩:=HS.out (i - 1) (by omega)
      refine F.x (i:=10) rfl (fun w'=>R_ixSlice (sz:=1) rfl ((F.at rfl).trans (xa16 _ _)) (F.at rfl) Try.underlying25 (by kernel_rfl) (by omega) (by omega)) (fun _=>eT) ?_ (hw:=(wantT F rfl rfl (by decide) rfl));clear F fa;intro fa F
      refine F.xr (i:=11) rfl (fun w' hS=>R_load rfl (F.at rfl) Try.underlying3 rfl (xr16 _ (E_.nil hS) 0 _ rfl)) (fun _=>eT) ?_ (hw:=(wantT F rfl rfl (by decide) rfl));clear F fa;intro fa F
      refine F.x (i:=12) rfl (fun w'=>R_leqB (b:=true) rfl (F.at rfl) (F.at rfl) (decide_eq_true ((by omega)))) (fun _=>eT) ?_ (hw:=(wantT F rfl rfl (by decide) rfl));clear F fa;intro fa F
      refine F.x (i:=13) rfl (fun w'=>R_pickT rfl (F.at rfl) (F.at rfl)) (fun _=>eT) ?_;clear F fa;intro fa F
      refine ax_done (by kernel_rfl) ?_ _
      clear eT q2_ E_
      refine hK14 _ _ ?_
      clear hK14
      refine cd_T F rfl ?_
      refine wp_seq_k fun K17 hK17=>?_
      refine wp_region_lit ?_
      refine F.vl (R_assign rfl (ev_c fa _)) ?_;clear F fa;intro fa F
      refine wpList_nil ?_
      refine hK17 _ _ ?_
      clear hK17
      refine wp_ret ?_
      (try simp only [Exit.inBlock,Exit.then,reduceIte])
      refine rt_v F (rs_1 F rfl rfl) ?_
      exact ⟨ret_int (hle.trans (lmp_ord (by omega) ho ci cj)).symm,E⟩
     ·skip
      refine region_x (Ext [] w4) none follows fun w6 hh eh=>?_
      have q2_:=q2
      replace q2:=keep_same hh q2
      have E_:=E
      have zEw6:=E.size
      replace E:=ext_same E eh
      have eT:=eh
      clear hh eh
      refine F.x (i:=0) rfl (fun w'=>R_move rfl (F.at rfl)) (fun _=>eT) ?_;clear F fa;intro fa F
      refine F.x (i:=1) rfl (fun w'=>R_gtrB (b:=true) rfl (F.at rfl) (ev_c fa _) (decide_eq_true ((by omega)))) (fun _=>eT) ?_;clear F fa;intro fa F
      refine F.x (i:=2) rfl (fun w'=>R_move rfl (F.at rfl)) (fun _=>eT) ?_;clear F fa;intro fa F
      refine F.x (i:=3) rfl (fun w'=>R_move rfl (F.at rfl)) (fun _=>eT) ?_ (hw:=(wantT F rfl rfl (by decide) rfl));clear F fa;intro fa F
      refine F.x (i:=4) rfl (fun w'=>R_move rfl (F.at rfl)) (fun _=>eT) ?_ (hw:=(wantT F rfl rfl (by decide) rfl));clear F fa;intro fa F
      obtain ⟨xb18,xo18,xa18,xr18⟩:=HS.out i (by omega)
      refine F.x (i:=5) rfl (fun w'=>R_ixSlice (sz:=1) rfl ((F.at rfl).trans (xa18 _ _)) (F.at rfl) Try.underlying25 (by kernel_rfl) (by omega) (by omega)) (fun _=>eT) ?_ (hw:=(wantT F rfl rfl (by decide) rfl));clear F fa;intro fa F
      refine F.xr (i:=6) rfl (fun w' hS=>R_load rfl (F.at rfl) Try.underlying3 rfl (xr18 _ (E_.nil hS) 0 _ rfl)) (fun _=>eT) ?_ (hw:=(wantT F rfl rfl (by decide) rfl));clear F fa;intro fa F
      refine F.x (i:=7) rfl (fun w'=>R_move rfl (F.at rfl)) (fun _=>eT) ?_ (hw:=(wantT F rfl rfl (by decide) rfl));clear F fa;intro fa F
      refine F.x (i:=8) rfl (fun w'=>R_move rfl (F.at rfl)) (fun _=>eT) ?_ (hw:=(wantT F rfl rfl (by decide) rfl));clear F fa;intro fa F
      refine F.x (i:=9) rfl (fun w'=>R_sub rfl (F.at rfl) (ev_c fa _) (by omega) (by omega)) (fun _=>eT) ?_ (hw:=(wantT F rfl rfl (by decide) rfl));clear F fa;intro fa F
      rw [show (((i : Nat) : Int) - 1) = ((i - 1 : Nat) : Int) by omega] at F
      obtain ⟨xb19,xo19,xa19,xr19⟩:=HS.out (i - 1) (by omega)
      refine F.x (i:=10) rfl (fun w'=>R_ixSlice (sz:=1) rfl ((F.at rfl).trans (xa19 _ _)) (F.at rfl) Try.underlying25 (by kernel_rfl) (by omega) (by omega)) (fun _=>eT) ?_ (hw:=(wantT F rfl rfl (by decide) rfl));clear F fa;intro fa F
      refine F.xr (i:=11) rfl (fun w' hS=>R_load rfl (F.at rfl) Try.underlying3 rfl (xr19 _ (E_.nil hS) 0 _ rfl)) (fun _=>eT) ?_ (hw:=(wantT F rfl rfl (by decide) rfl));clear F fa;intro fa F
      refine F.x (i:=12) rfl (fun w'=>R_leqB (b:=false) rfl (F.at rfl) (F.at rfl) (decide_eq_false ((by omega)))) (fun _=>eT) ?_ (hw:=(wantT F rfl rfl (by decide) rfl));clear F fa;intro fa F
      refine F.x (i:=13) rfl (fun w'=>R_pickT rfl (F.at rfl) (F.at rfl)) (fun _=>eT) ?_;clear F fa;intro fa F
      refine ax_done (by kernel_rfl) ?_ _
      clear eT q2_ E_
      have hgo : 0 < i → ls.getD (i - 1) 0 < ls.getD i 0:=fun _=>(by omega)
      refine hK14 _ _ ?_
      clear hK14
      refine cd_F F rfl ?_
      refine wp_skip ?_
      refine hK9 _ _ ?_
      clear hK9
      refine wp_region_lit ?_
      refine F.mv ?_;clear F fa;intro fa F
      refine F.vl (R_add rfl (F.at rfl) (ev_c fa _) (by omega) (by omega)) ?_;clear F fa;intro fa F
      refine F.as ?_;clear F fa;intro fa F
      refine wpList_nil ?_
      show _ ∧ _
      exact ⟨by omega,_,⟨rfl,E,q2,(hle.trans (lmp_go (by omega) ho hgo))⟩,F.sub (.c 5 rfl (.c 1 rfl (.c 2 rfl .n)))⟩
    ·skip
     refine region_x (Ext [] w4) none follows fun w7 hh eh=>?_
     have q2_:=q2
     replace q2:=keep_same hh q2
     have E_:=E
     have zEw7:=E.size
     replace E:=ext_same E eh
     have eT:=eh
     clear hh eh
     refine F.x (i:=0) rfl (fun w'=>R_move rfl (F.at rfl)) (fun _=>eT) ?_;clear F fa;intro fa F
     refine F.x (i:=1) rfl (fun w'=>R_gtrB (b:=false) rfl (F.at rfl) (ev_c fa _) (decide_eq_false ((by omega)))) (fun _=>eT) ?_;clear F fa;intro fa F
     refine F.x (i:=2) rfl (fun w'=>R_move rfl (F.at rfl)) (fun _=>eT) ?_;clear F fa;intro fa F
     refine ax_no (i:=3) F rfl rfl (by decide) (by kernel_rfl) (fun _ _ _ h=>h) (wantF F rfl rfl (by decide) rfl (by decide)) (fun _=>eT) ?_;clear F fa;intro fa F
     refine ax_no (i:=4) F rfl rfl (by decide) (by kernel_rfl) (fun _ _ _ h=>h) (wantF F rfl rfl (by decide) rfl (by decide)) (fun _=>eT) ?_;clear F fa;intro fa F
     refine ax_no (i:=5) F rfl rfl (by decide) (by kernel_rfl) (fun _ _ _ h=>h) (wantF F rfl rfl (by decide) rfl (by decide)) (fun _=>eT) ?_;clear F fa;intro fa F
     refine ax_no (i:=6) F rfl rfl (by decide) (by kernel_rfl) (fun _ _ _ h=>h) (wantF F rfl rfl (by decide) rfl (by decide)) (fun _=>eT) ?_;clear F fa;intro fa F
     refine ax_no (i:=7) F rfl rfl (by decide) (by kernel_rfl) (fun _ _ _ h=>h) (wantF F rfl rfl (by decide) rfl (by decide)) (fun _=>eT) ?_;clear F fa;intro fa F
     refine ax_no (i:=8) F rfl rfl (by decide) (by kernel_rfl) (fun _ _ _ h=>h) (wantF F rfl rfl (by decide) rfl (by decide)) (fun _=>eT) ?_;clear F fa;intro fa F
     refine ax_no (i:=9) F rfl rfl (by decide) (by kernel_rfl) (fun _ _ _ h=>h) (wantF F rfl rfl (by decide) rfl (by decide)) (fun _=>eT) ?_;clear F fa;intro fa F
     refine ax_no (i:=10) F rfl rfl (by decide) (by kernel_rfl) (fun _ _ _ h=>h) (wantF F rfl rfl (by decide) rfl (by decide)) (fun _=>eT) ?_;clear F fa;intro fa F
     refine ax_no (i:=11) F rfl rfl (by decide) (by kernel_rfl) (fun _ _ _ h=>h) (wantF F rfl rfl (by decide) rfl (by decide)) (fun _=>eT) ?_;clear F fa;intro fa F
     refine ax_no (i:=12) F rfl rfl (by decide) (by kernel_rfl) (fun _ _ _ h=>h) (wantF F rfl rfl (by decide) rfl (by decide)) (fun _=>eT) ?_;clear F fa;intro fa F
     refine F.x (i:=13) rfl (fun w'=>R_pickF rfl (F.at rfl) (ev_c fa _)) (fun _=>eT) ?_;clear F fa;intro fa F
     refine ax_done (by kernel_rfl) ?_ _
     clear eT q2_ E_
     have hgo : 0 < i → ls.getD (i - 1) 0 < ls.getD i 0:=fun h=>absurd h ci
     refine hK14 _ _ ?_
     clear hK14
     refine cd_F F rfl ?_
     refine wp_skip ?_
     refine hK9 _ _ ?_
     clear hK9
     refine wp_region_lit ?_
     refine F.mv ?_;clear F fa;intro fa F
     refine F.vl (R_add rfl (F.at rfl) (ev_c fa _) (by omega) (by omega)) ?_;clear F fa;intro fa F
     refine F.as ?_;clear F fa;intro fa F
     refine wpList_nil ?_
     show _ ∧ _
     exact ⟨by omega,_,⟨rfl,E,q2,(hle.trans (lmp_go (by omega) ho hgo))⟩,F.sub (.c 5 rfl (.c 1 rfl (.c 2 rfl .n)))⟩
  ·skip
   refine wp_exit ?_
   rw [List.drop_of_length_le (show ls.length ≤ i by omega)] at hle
   refine hK5 _ _ ?_
   clear hK5
   refine wp_seq_k fun K20 hK20=>?_
   refine wp_region_lit ?_
   refine F.vl (R_assign rfl (ev_c fa _)) ?_;clear F fa;intro fa F
   refine wpList_nil ?_
   refine hK20 _ _ ?_
   clear hK20
   refine wp_ret ?_
   (try simp only [Exit.inBlock,Exit.then,reduceIte])
   refine rt_v F (rs_1 F rfl rfl) ?_
   exact ⟨ret_int hle.symm,E⟩
set_option maxRecDepth 100000 in
theorem dAsked_any (x : Vm) (sd : SmallL x.D) (sl : SmallL x.L) (s : List Int) (hs : s.length ≤ 1000) (ls : List Int) (hl : ls.length ≤ 1000) (a b : Option Addr) (c d : Nat) (w : World) (h : x.At w) (hr : IsRows w (.slice a s.length c) 1 (s.map intRow)) (hq : IsRows w (.slice b ls.length d) 1 (ls.map intRow)) :
  Calls Try.prog 65 #[.agg #[.int .i64 x.B,.slice x.da x.D.length x.dc,.slice x.la x.L.length x.lc,.int .i64 x.tol],.slice a s.length c,.slice b ls.length d] w fun e w'=>e = .returned (.int .i64 (askE x s ls)) ∧ Ext [] w w':=by
 have E : Ext [] w w:=Ext.refl _ _
 have HX:=Lib.hid h
 have HR:=Lib.hid hr
 have HQ:=Lib.hid hq
 obtain ⟨er,her⟩ : ∃ er,er = askE x s ls:=⟨_,rfl⟩
 rw [← her]
 unfold askE at her
 clear h hr hq
 obtain ⟨e1,he1⟩ : ∃ e1,e1 = x.err:=⟨_,rfl⟩
 rw [← he1] at her
 refine calls_has 24 Try.func65 rfl Try.ntmps65 (Nat.le_of_ble_eq_true rfl) ?_
 intro fa F
 refine wp_seq_k fun K1 hK1=>?_
 refine wp_region_lit ?_
 refine sq_new F rfl (by decide) rfl (R_box rfl (F.at rfl)) ?_;clear F fa;intro fa w1 F hw
 obtain ⟨n3,hn⟩ : ∃ n,n = w.heap.size:=⟨_,rfl⟩
 rw [← hn] at F
 have s3 : w.heap.size ≤ n3:=Nat.le_of_eq hn.symm
 have l3_E : w.heap.size ≤ n3:=by rw [hn];exact E.size
 replace E:=ext_alloc E hw
 have q3:=new_row hw hn
 clear hw hn
 refine F.vl (R_assign rfl (ev_c fa _)) ?_;clear F fa;intro fa F
 refine wpList_nil ?_
 refine hK1 _ _ ?_
 clear hK1
 refine wp_seq_k fun K2 hK2=>?_
 refine wp_seq_k fun K3 hK3=>?_
 refine wp_region_lit ?_
 refine F.vl (R_loadBlk rfl (F.at rfl) Try.underlying24 rfl (by kernel_rfl) q3) ?_;clear F fa;intro fa F
 refine sq_call F rfl (by decide) rfl (R_callV rfl rfl Try.call63 (mpS (F.at rfl) mp0)) (dCheck_any x _ (HX.out.ext E) sd sl) fun e w2 hR=>?_
 obtain ⟨rfl,e9⟩:=hR
 refine ⟨_,rfl,?_⟩;clear F fa;intro fa F
 replace q3:=(e9).keep0 q3
 replace E:=ext_same E (e9)
 clear e9
 rw [show chkE x.B (x.D.map (·.2)) (x.L.map (·.2)) x.tol = e1 from he1.symm] at F
 refine F.as ?_;clear F fa;intro fa F
 refine wpList_nil ?_
 refine hK3 _ _ ?_
 clear hK3
 refine wp_seq_k fun K4 hK4=>?_
 refine wp_region_lit ?_
 refine F.mv ?_;clear F fa;intro fa F
 refine F.vl (R_neqD rfl (F.at rfl) (ev_c fa _)) ?_;clear F fa;intro fa F
 refine wpList_nil ?_
 refine hK4 _ _ ?_
 clear hK4
 refine cd_if F rfl (fun hc12=>?_) (fun hc12=>?_)
 ·skip
  rw [if_pos hc12] at her
  refine wp_seq_k fun K5 hK5=>?_
  refine wp_region_lit ?_
  refine F.mv ?_;clear F fa;intro fa F
  refine F.as ?_;clear F fa;intro fa F
  refine wpList_nil ?_
  refine hK5 _ _ ?_
  clear hK5
  refine wp_ret ?_
  (try simp only [Exit.inBlock,Exit.then,reduceIte])
  refine rt_v F (rs_1 F rfl rfl) ?_
  exact ⟨ret_int her.symm,E⟩
 ·skip
  rw [if_neg hc12] at her
  refine wp_skip ?_
  refine hK2 _ _ ?_
  clear hK2
  refine wp_seq_k fun K6 hK6=>?_
  refine wp_seq_k fun K7 hK7=>?_
  refine wp_region_lit ?_
  refine F.mv ?_;clear F fa;intro fa F
  refine F.vl (R_field rfl (F.at rfl) Try.underlying24 rfl (n:=0) (sz:=1) rfl (by kernel_rfl) (by decide)) ?_;clear F fa;intro fa F
  refine F.vl (R_load rfl (F.at rfl) Try.underlying3 rfl ((cells_of_block q3 0).trans (get0))) ?_;clear F fa;intro fa F
  refine sq_call F rfl (by decide) rfl (R_callV rfl rfl Try.call108 (mpS (F.at rfl) (mpS (F.at rfl) (mpS (ev_c fa _) mp0)))) (dCounted_any s x.B 9 a c _ (HR.out.ext E (by simp)) hs) fun e w3 hR=>?_
  obtain ⟨rfl,e9⟩:=hR
  refine ⟨_,rfl,?_⟩;clear F fa;intro fa F
  replace q3:=(e9).keep0 q3
  replace E:=ext_same E (e9)
  clear e9
  refine F.as ?_;clear F fa;intro fa F
  refine wpList_nil ?_
  refine hK7 _ _ ?_
  clear hK7
  refine wp_seq_k fun K8 hK8=>?_
  refine wp_region_lit ?_
  refine F.mv ?_;clear F fa;intro fa F
  refine F.vl (R_neqD rfl (F.at rfl) (ev_c fa _)) ?_;clear F fa;intro fa F
  refine wpList_nil ?_
  refine hK8 _ _ ?_
  clear hK8
  refine cd_if F rfl (fun hc19=>?_) (fun hc19=>?_)
  ·skip
   rw [if_pos hc19] at her
   refine wp_seq_k fun K9 hK9=>?_
   refine wp_region_lit ?_
   refine F.mv ?_;clear F fa;intro fa F
   refine F.as ?_;clear F fa;intro fa F
   refine wpList_nil ?_
   refine hK9 _ _ ?_
   clear hK9
   refine wp_ret ?_
   (try simp only [Exit.inBlock,Exit.then,reduceIte])
   refine rt_v F (rs_1 F rfl rfl) ?_
   exact ⟨ret_int her.symm,E⟩
  ·skip
   rw [if_neg hc19] at her
   refine wp_skip ?_
   refine hK6 _ _ ?_
   clear hK6
   refine wp_seq_k fun K10 hK10=>?_
   refine wp_region_lit ?_
   refine F.vl (R_loadBlk rfl (F.at rfl) Try.underlying24 rfl (by kernel_rfl) q3) ?_;clear F fa;intro fa F
   refine F.mv ?_;clear F fa;intro fa F
   refine sq_call F rfl (by decide) rfl (R_callV rfl rfl Try.call79 (mpS (F.at rfl) (mpS (F.at rfl) mp0))) (dLamps_any x sl.1 ls hl b d _ (HQ.out.ext E (by simp))) fun e w4 hR=>?_
   obtain ⟨rfl,e9⟩:=hR
   refine ⟨_,rfl,?_⟩;clear F fa;intro fa F
   replace q3:=(e9).keep0 q3
   replace E:=ext_same E (e9)
   clear e9
   refine F.as ?_;clear F fa;intro fa F
   refine wpList_nil ?_
   refine hK10 _ _ ?_
   clear hK10
   refine wp_ret ?_
   (try simp only [Exit.inBlock,Exit.then,reduceIte])
   refine rt_v F (rs_1 F rfl rfl) ?_
   exact ⟨ret_int her.symm,E⟩
set_option maxRecDepth 100000 in
set_option maxHeartbeats 1000000 in
theorem dSums_ok (x : Vm) (hv : VOk x) (bn : Nat) (hbn : x.B = bn) (l : List Int) (hl : l.length = x.D.length) (hb : ∀ n ∈ l,0 ≤ n ∧ n ≤ 6) (a : Option Addr) (c : Nat) (w : World) (h : x.At w) (hr : IsRows w (.slice a l.length c) 1 (l.map intRow)) :
  Calls Try.prog 117 #[.agg #[.int .i64 x.B,.slice x.da x.D.length x.dc,.slice x.la x.L.length x.lc,.int .i64 x.tol],.slice a l.length c] w fun e w'=>∃ a,e = .returned (.slice a bn bn) ∧ w'.ownsRow w.heap.size 3 1 (.slice a bn bn) bn (ivs (sumL x (val l) bn)) ∧ Ext [] w w':=by
 have E : Ext [] w w:=Ext.refl _ _
 have HX:=Lib.hid h
 have HV:=Lib.hid hv
 have HSR:=Lib.hid (slAt_of_rows hr 0)
 have HB:=Lib.hid hb
 have HD:=Lib.hid h.d.1
 have hb1:=hv.b1
 have hb3:=hv.b3
 have hd4:=hv.d4
 have HF : RowKit.Hid (TubS (val l)):=Lib.hid (fun k _=>val_bd hb (by omega) (by omega) k)
 clear h hv hr hb
 refine calls_has 45 Try.func117 rfl Try.ntmps117 (Nat.le_of_ble_eq_true rfl) ?_
 intro fa F
 refine wp_seq_k fun K1 hK1=>?_
 refine wp_region_lit ?_
 refine sq_new F rfl (by decide) rfl (R_box rfl (F.at rfl)) ?_;clear F fa;intro fa w1 F hw
 obtain ⟨n2,hn⟩ : ∃ n,n = w.heap.size:=⟨_,rfl⟩
 rw [← hn] at F
 have s2 : w.heap.size ≤ n2:=Nat.le_of_eq hn.symm
 have l2_E : w.heap.size ≤ n2:=by rw [hn];exact E.size
 replace E:=ext_alloc E hw
 have q2:=new_row hw hn
 clear hw hn
 refine F.vl (R_assign rfl (ev_c fa _)) ?_;clear F fa;intro fa F
 refine wpList_nil ?_
 refine hK1 _ _ ?_
 clear hK1
 refine wp_seq_k fun K2 hK2=>?_
 refine wp_region_lit ?_
 refine F.vl (R_field rfl (F.at rfl) Try.underlying24 rfl (n:=0) (sz:=1) rfl (by kernel_rfl) (by decide)) ?_;clear F fa;intro fa F
 refine F.vl (R_load rfl (F.at rfl) Try.underlying3 rfl ((cells_of_block q2 0).trans (get0))) ?_;clear F fa;intro fa F
 rw [hbn] at F
 have hEs:=E.size
 refine sq_some F rfl (by decide) rfl (make_run rfl (w.heap.size) (e:=3) (bytes:=8) (z:=.int .i64 0) Try.underlying25 (by kernel_rfl) rfl (F.at rfl) (F.at rfl) (n:=bn) (by omega) (by decide) (by omega)) ?_;clear F fa;rintro fa v' w2 F ⟨oo,hg,rfl⟩
 obtain ⟨n10,hn⟩ : ∃ n,n = w1.heap.size:=⟨_,rfl⟩
 rw [← hn] at F oo
 have s10 : w1.heap.size ≤ n10:=Nat.le_of_eq hn.symm
 replace q2:=keep_none hg q2
 replace E:=ext_none E hg
 clear hg hn
 rw [← sumR_zero x (val l) bn] at oo
 refine F.as ?_;clear F fa;intro fa F
 refine wpList_nil ?_
 refine hK2 _ _ ?_
 clear hK2
 refine wp_seq_k fun K3 hK3=>?_
 refine wp_seq_k fun K4 hK4=>?_
 refine wp_region_lit ?_
 refine F.vl (R_assign rfl (ev_c fa _)) ?_;clear F fa;intro fa F
 refine wpList_nil ?_
 refine hK4 _ _ ?_
 clear hK4
 refine wp_block ?_
 have F0:=F.sub (.c 1 rfl (.c 2 rfl (.c 5 rfl .n)))
 refine lp_for F0 (l.length) (fun d Lv W=>Lv = [(6,.int .i64 ((d : Nat) : Int))] ∧ Ext [] w W ∧ W.heap[n2]? = some (.cells #[.int .i64 x.B,.slice x.da x.D.length x.dc,.slice x.la x.L.length x.lc,.int .i64 x.tol] 24 (0,0)) ∧ W.ownsRow w.heap.size 3 1 (.slice (some ⟨n10,0,none⟩) bn bn) bn (ivs (sumR x (val l) bn d 0))) ⟨_,⟨rfl,E,q2,oo⟩,F.sub (.c 6 rfl (.c 1 rfl (.c 2 rfl (.c 5 rfl .n))))⟩ ?_
 clear F F0
 clear E q2
 clear oo
 rintro d _ fa w3 hi1 ⟨rfl,E,q2,oo⟩ F
 refine wp_seq_k fun K5 hK5=>?_
 refine wp_seq_k fun K6 hK6=>?_
 refine wp_region_lit ?_
 refine F.mv ?_;clear F fa;intro fa F
 refine F.mv ?_;clear F fa;intro fa F
 refine F.vl (R_len rfl rfl (F.at rfl) Try.underlying25) ?_;clear F fa;intro fa F
 refine F.vl (R_lss rfl (F.at rfl) (F.at rfl)) ?_;clear F fa;intro fa F
 refine wpList_nil ?_
 refine hK6 _ _ ?_
 clear hK6
 refine cd_if F rfl (fun hc14=>?_) (fun hc14=>?_)
 ·skip
  refine wp_skip ?_
  refine hK5 _ _ ?_
  clear hK5
  refine wp_seq_k fun K7 hK7=>?_
  refine wp_block ?_
  refine wp_seq_k fun K8 hK8=>?_
  refine wp_region_lit ?_
  refine F.vl (R_assign rfl (ev_c fa _)) ?_;clear F fa;intro fa F
  refine wpList_nil ?_
  refine hK8 _ _ ?_
  clear hK8
  refine wp_block ?_
  have F0:=F.sub (.c 1 rfl (.c 2 rfl (.c 5 rfl (.c 6 rfl .n))))
  refine lp_for F0 (bn) (fun i Lv W=>Lv = [(7,.int .i64 ((i : Nat) : Int))] ∧ Ext [] w W ∧ W.heap[n2]? = some (.cells #[.int .i64 x.B,.slice x.da x.D.length x.dc,.slice x.la x.L.length x.lc,.int .i64 x.tol] 24 (0,0)) ∧ W.ownsRow w.heap.size 3 1 (.slice (some ⟨n10,0,none⟩) bn bn) bn (ivs (sumR x (val l) bn d i))) ⟨_,⟨rfl,E,q2,oo⟩,F.sub (.c 7 rfl (.c 1 rfl (.c 2 rfl (.c 5 rfl (.c 6 rfl .n)))))⟩ ?_
  clear F F0
  clear E q2
  clear oo
  rintro i _ fa w4 hi2 ⟨rfl,E,q2,oo⟩ F
  refine wp_seq_k fun K9 hK9=>?_
  refine wp_seq_k fun K10 hK10=>?_
  refine wp_region_lit ?_
  refine F.mv ?_;clear F fa;intro fa F
  refine F.vl (R_field rfl (F.at rfl) Try.underlying24 rfl (n:=0) (sz:=1) rfl (by kernel_rfl) (by decide)) ?_;clear F fa;intro fa F
  refine F.vl (R_load rfl (F.at rfl) Try.underlying3 rfl ((cells_of_block q2 0).trans (get0))) ?_;clear F fa;intro fa F
  rw [hbn] at F
  refine F.vl (R_lss rfl (F.at rfl) (F.at rfl)) ?_;clear F fa;intro fa F
  refine wpList_nil ?_
  refine hK10 _ _ ?_
  clear hK10
  refine cd_if F rfl (fun hc20=>?_) (fun hc20=>?_)
  ·skip
   refine wp_skip ?_
   refine hK9 _ _ ?_
   clear hK9
   refine wp_seq_k fun K11 hK11=>?_
   refine wp_block ?_
   obtain ⟨la,lca,hla,hlr⟩:=HX.out.d.2 _ (getD_mem (.bool true,[]) (show d < x.D.length by omega))
   have hlen:=(HV.out.dl _ (getD_mem (.bool true,[]) (show d < x.D.length by omega))).1
   have hlb : (x.D.getD d (.bool true,[])).2.length = bn:=by omega
   have HLR:=Lib.hid (slAt_of_rows hlr 0)
   have hml:=sumR_len x (val l) bn d i
   have hmk:=sumR_get x (val l) d (show i < bn by omega)
   have hst:=sumR_set x (val l) d (show i < bn by omega)
   have EX : Ext [] w4 w4:=Ext.refl _ _
   have HS:=Lib.hid (slAt_of_ivs oo hml.symm [] (by simp))
   have hil:=ivs_lenZ (sumR x (val l) bn d i)
   obtain ⟨hf0,hf1⟩:=HF.out d (by omega)
   obtain ⟨hg0,hg1⟩:=dye_bd HV.out (show d < x.D.length by omega) i
   simp only [val,Vm.dye] at hg0 hg1 hf0 hf1
   obtain ⟨hp0,hp1⟩:=mul_bd hf0 (by omega) hg0 (by omega)
   obtain ⟨ht0,ht1⟩:=tonE_bd HV.out HF.out i (show d ≤ x.D.length by omega)
   refine wp_region_st 21 follows (by kernel_rfl) fun w5 hh eh=>?_
   replace q2:=keep_same hh q2
   replace E:=ext_same E eh
   replace EX:=ext_same EX eh
   replace oo:=owns_same hh oo
   clear hh eh
   refine F.smv ?_;clear F fa;intro fa F
   refine F.smv ?_;clear F fa;intro fa F
   refine F.smv ?_;clear F fa;intro fa F
   refine F.smv ?_;clear F fa;intro fa F
   obtain ⟨xb12,xo12,xa12,xr12⟩:=HS.out i (by omega)
   refine F.sv (R_ixSlice (sz:=1) rfl ((F.at rfl).trans (xa12 _ _)) (F.at rfl) Try.underlying25 (by kernel_rfl) (by omega) (by omega)) ?_;clear F fa;intro fa F
   refine F.sv (R_load rfl (F.at rfl) Try.underlying3 rfl (xr12 _ EX 0 _ rfl)) ?_;clear F fa;intro fa F
   refine F.smv ?_;clear F fa;intro fa F
   refine F.smv ?_;clear F fa;intro fa F
   obtain ⟨xb13,xo13,xa13,xr13⟩:=HSR.out d (by omega)
   refine F.sv (R_ixSlice (sz:=1) rfl ((F.at rfl).trans (xa13 _ _)) (F.at rfl) Try.underlying25 (by kernel_rfl) (by omega) (by omega)) ?_;clear F fa;intro fa F
   refine F.sv (R_load rfl (F.at rfl) Try.underlying3 rfl (xr13 _ E 0 _ rfl)) ?_;clear F fa;intro fa F
   refine F.sv (R_field rfl (F.at rfl) Try.underlying24 rfl (n:=1) (sz:=1) rfl (by kernel_rfl) (by decide)) ?_;clear F fa;intro fa F
   refine F.sv (R_load rfl (F.at rfl) Try.underlying22 rfl ((cells_of_block q2 1).trans (getS (get0)))) ?_;clear F fa;intro fa F
   refine F.smv ?_;clear F fa;intro fa F
   obtain ⟨xb14,xo14,xa14,xr14⟩:=HD.out d (by omega)
   refine F.sv (R_ixSlice (sz:=1) rfl ((F.at rfl).trans (xa14 _ _)) (F.at rfl) Try.underlying22 (by kernel_rfl) (by omega) (by omega)) ?_;clear F fa;intro fa F
   refine F.sv (R_load rfl (F.at rfl) Try.underlying25 rfl (xr14 _ E 0 _ rfl)) ?_;clear F fa;intro fa F
   rw [hla] at F
   refine F.smv ?_;clear F fa;intro fa F
   obtain ⟨xb15,xo15,xa15,xr15⟩:=HLR.out i (by omega)
   refine F.sv (R_ixSlice (sz:=1) rfl ((F.at rfl).trans (xa15 _ _)) (F.at rfl) Try.underlying25 (by kernel_rfl) (by omega) (by omega)) ?_;clear F fa;intro fa F
   refine F.sv (R_load rfl (F.at rfl) Try.underlying3 rfl (xr15 _ E 0 _ rfl)) ?_;clear F fa;intro fa F
   refine F.sv (R_mul rfl (F.at rfl) (F.at rfl) (by omega) (by omega)) ?_;clear F fa;intro fa F
   refine F.sv (R_add rfl (F.at rfl) (F.at rfl) (by omega) (by omega)) ?_;clear F fa;intro fa F
   obtain ⟨xb16,xo16,xa16,xr16⟩:=HS.out i (by omega)
   refine F.sv (R_ixSlice (sz:=1) rfl ((F.at rfl).trans (xa16 _ _)) (F.at rfl) Try.underlying25 (by kernel_rfl) (by omega) (by omega)) ?_;clear F fa;intro fa F
   refine wpStill_nil ?_
   obtain ⟨⟨u0,hcu⟩,hfu,hst⟩:=owns_at oo xa16 (j:=i) (p:=xo16 + ((i : Nat) : Int).toNat * 1) (by first | omega | (simp;omega)) (by omega)
   refine sq_to rfl rfl (R_store rfl (F.at rfl) (F.at rfl) rfl (by kernel_rfl) hcu hfu) ?_;intro w6 hw
   obtain ⟨hown',hg⟩:=hst _ _ hw
   clear hst hcu hfu hw
   replace q2:=keep_type oo hg q2 (by decide)
   replace E:=ext_appendX E oo hg (by omega)
   replace oo:=hown'
   clear hg
   rw [ivs_setZ,hmk,show tonE x (val l) i d + l.getD d 0 * (x.D.getD d (.bool true,[])).2.getD i 0 = tonE x (val l) i (d + 1) from rfl,hst] at oo
   refine wpList_nil ?_
   refine hK11 _ _ ?_
   clear hK11
   refine wp_region_lit ?_
   refine F.mv ?_;clear F fa;intro fa F
   refine F.vl (R_add rfl (F.at rfl) (ev_c fa _) (by omega) (by omega)) ?_;clear F fa;intro fa F
   refine F.as ?_;clear F fa;intro fa F
   refine wpList_nil ?_
   show _ ∧ _
   exact ⟨by omega,_,⟨rfl,E,q2,oo⟩,F.sub (.c 7 rfl (.c 1 rfl (.c 2 rfl (.c 5 rfl (.c 6 rfl .n)))))⟩
  ·skip
   refine wp_exit ?_
   rw [show i = bn by omega,sumR_next] at oo
   refine hK7 _ _ ?_
   clear hK7
   refine wp_region_lit ?_
   refine F.mv ?_;clear F fa;intro fa F
   refine F.vl (R_add rfl (F.at rfl) (ev_c fa _) (by omega) (by omega)) ?_;clear F fa;intro fa F
   refine F.as ?_;clear F fa;intro fa F
   refine wpList_nil ?_
   show _ ∧ _
   exact ⟨by omega,_,⟨rfl,E,q2,oo⟩,F.sub (.c 6 rfl (.c 1 rfl (.c 2 rfl (.c 5 rfl .n))))⟩
 ·skip
  refine wp_exit ?_
  rw [show d = x.D.length by omega,sumR_end] at oo
  refine hK3 _ _ ?_
  clear hK3
  refine wp_seq_k fun K17 hK17=>?_
  refine wp_region_lit ?_
  refine F.mv ?_;clear F fa;intro fa F
  refine F.as ?_;clear F fa;intro fa F
  refine wpList_nil ?_
  refine hK17 _ _ ?_
  clear hK17
  refine wp_ret ?_
  (try simp only [Exit.inBlock,Exit.then,reduceIte])
  refine rt_v F (rs_1 F rfl rfl) ?_
  exact ⟨_,rfl,oo,E⟩
set_option maxRecDepth 100000 in
set_option maxHeartbeats 1000000 in
theorem dWeigh_ok (x : Vm) (hv : VOk x) (k : Nat) (hk : k < x.L.length) (bn : Nat) (hbn : x.B = bn) (s : List Int) (hs : s.length = bn) (hb : ∀ n ∈ s,0 ≤ n ∧ n ≤ 100000) (a : Option Addr) (c : Nat) (w : World) (h : x.At w) (hr : IsRows w (.slice a s.length c) 1 (s.map intRow)) :
  Calls Try.prog 116 #[.agg #[.int .i64 x.B,.slice x.da x.D.length x.dc,.slice x.la x.L.length x.lc,.int .i64 x.tol],.int .i64 ((k : Nat) : Int),.slice a s.length c] w fun e w'=>e = .returned (.int .i64 (dotE (val (x.lamp k)) (val s) bn)) ∧ Ext [] w w':=by
 have E : Ext [] w w:=Ext.refl _ _
 have HX:=Lib.hid h
 have HV:=Lib.hid hv
 have HSR:=Lib.hid (slAt_of_rows hr 0)
 have HB:=Lib.hid hb
 have HL:=Lib.hid h.l.1
 have hb3:=hv.b3
 have hb1:=hv.b1
 obtain ⟨la,lca,hla,hlr⟩:=h.l.2 _ (getD_mem (.bool true,[]) hk)
 have hlen:=(hv.ll _ (getD_mem (.bool true,[]) hk)).1
 have hlb : (x.L.getD k (.bool true,[])).2.length = bn:=by omega
 have HLR:=Lib.hid (slAt_of_rows hlr 0)
 clear h hv hr hb hlr
 refine calls_has 31 Try.func116 rfl Try.ntmps116 (Nat.le_of_ble_eq_true rfl) ?_
 intro fa F
 refine wp_seq_k fun K1 hK1=>?_
 refine wp_region_lit ?_
 refine sq_new F rfl (by decide) rfl (R_box rfl (F.at rfl)) ?_;clear F fa;intro fa w1 F hw
 obtain ⟨n3,hn⟩ : ∃ n,n = w.heap.size:=⟨_,rfl⟩
 rw [← hn] at F
 have s3 : w.heap.size ≤ n3:=Nat.le_of_eq hn.symm
 have l3_E : w.heap.size ≤ n3:=by rw [hn];exact E.size
 replace E:=ext_alloc E hw
 have q3:=new_row hw hn
 clear hw hn
 refine F.vl (R_assign rfl (ev_c fa _)) ?_;clear F fa;intro fa F
 refine wpList_nil ?_
 refine hK1 _ _ ?_
 clear hK1
 refine wp_seq_k fun K2 hK2=>?_
 refine wp_region_lit ?_
 refine F.vl (R_assign rfl (ev_c fa _)) ?_;clear F fa;intro fa F
 refine wpList_nil ?_
 rw [show (0 : Int) = dotE (val (x.lamp k)) (val s) 0 from rfl] at F
 refine hK2 _ _ ?_
 clear hK2
 refine wp_seq_k fun K3 hK3=>?_
 refine wp_seq_k fun K4 hK4=>?_
 refine wp_region_lit ?_
 refine F.vl (R_assign rfl (ev_c fa _)) ?_;clear F fa;intro fa F
 refine wpList_nil ?_
 refine hK4 _ _ ?_
 clear hK4
 refine wp_block ?_
 have F0:=F.sub (.c 1 rfl (.c 2 rfl (.c 3 rfl .n)))
 refine lp_for F0 (bn) (fun i Lv W=>Lv = [(7,.int .i64 (dotE (val (x.lamp k)) (val s) i)),(8,.int .i64 ((i : Nat) : Int))] ∧ Ext [] w W ∧ W.heap[n3]? = some (.cells #[.int .i64 x.B,.slice x.da x.D.length x.dc,.slice x.la x.L.length x.lc,.int .i64 x.tol] 24 (0,0)) ∧ 0 ≤ dotE (val (x.lamp k)) (val s) i ∧ dotE (val (x.lamp k)) (val s) i ≤ 1000000 * i) ⟨_,⟨rfl,E,q3,(by simp [dotE,sumTo])⟩,F.sub (.c 7 rfl (.c 8 rfl (.c 1 rfl (.c 2 rfl (.c 3 rfl .n)))))⟩ ?_
 clear F F0
 clear E q3
 rintro i _ fa w2 hi1 ⟨rfl,E,q3,hdb⟩ F
 refine wp_seq_k fun K5 hK5=>?_
 refine wp_seq_k fun K6 hK6=>?_
 refine wp_region_lit ?_
 refine F.mv ?_;clear F fa;intro fa F
 refine F.mv ?_;clear F fa;intro fa F
 refine F.vl (R_len rfl rfl (F.at rfl) Try.underlying25) ?_;clear F fa;intro fa F
 refine F.vl (R_lss rfl (F.at rfl) (F.at rfl)) ?_;clear F fa;intro fa F
 refine wpList_nil ?_
 refine hK6 _ _ ?_
 clear hK6
 refine cd_if F rfl (fun hc12=>?_) (fun hc12=>?_)
 ·skip
  refine wp_skip ?_
  refine hK5 _ _ ?_
  clear hK5
  refine wp_seq_k fun K7 hK7=>?_
  refine wp_block ?_
  have hlq:=lamp_bd HV.out hk i
  simp only [val,Vm.lamp] at hlq
  have hsq:=HB.out _ (getD_mem 0 (show i < s.length by omega))
  obtain ⟨hp0,hp1⟩:=mul_bd hlq.1 (by omega) hsq.1 hsq.2
  refine wp_region_st 15 follows (by kernel_rfl) fun w3 hh eh=>?_
  replace q3:=keep_same hh q3
  replace E:=ext_same E eh
  clear hh eh
  refine F.smv ?_;clear F fa;intro fa F
  refine F.sv (R_field rfl (F.at rfl) Try.underlying24 rfl (n:=2) (sz:=1) rfl (by kernel_rfl) (by decide)) ?_;clear F fa;intro fa F
  refine F.sv (R_load rfl (F.at rfl) Try.underlying22 rfl ((cells_of_block q3 2).trans (getS (getS (get0))))) ?_;clear F fa;intro fa F
  refine F.smv ?_;clear F fa;intro fa F
  obtain ⟨xb8,xo8,xa8,xr8⟩:=HL.out k (by omega)
  refine F.sv (R_ixSlice (sz:=1) rfl ((F.at rfl).trans (xa8 _ _)) (F.at rfl) Try.underlying22 (by kernel_rfl) (by omega) (by omega)) ?_;clear F fa;intro fa F
  refine F.sv (R_load rfl (F.at rfl) Try.underlying25 rfl (xr8 _ E 0 _ rfl)) ?_;clear F fa;intro fa F
  rw [hla] at F
  refine F.smv ?_;clear F fa;intro fa F
  obtain ⟨xb9,xo9,xa9,xr9⟩:=HLR.out i (by omega)
  refine F.sv (R_ixSlice (sz:=1) rfl ((F.at rfl).trans (xa9 _ _)) (F.at rfl) Try.underlying25 (by kernel_rfl) (by omega) (by omega)) ?_;clear F fa;intro fa F
  refine F.sv (R_load rfl (F.at rfl) Try.underlying3 rfl (xr9 _ E 0 _ rfl)) ?_;clear F fa;intro fa F
  refine F.smv ?_;clear F fa;intro fa F
  refine F.smv ?_;clear F fa;intro fa F
  obtain ⟨xb10,xo10,xa10,xr10⟩:=HSR.out i (by omega)
  refine F.sv (R_ixSlice (sz:=1) rfl ((F.at rfl).trans (xa10 _ _)) (F.at rfl) Try.underlying25 (by kernel_rfl) (by omega) (by omega)) ?_;clear F fa;intro fa F
  refine F.sv (R_load rfl (F.at rfl) Try.underlying3 rfl (xr10 _ E 0 _ rfl)) ?_;clear F fa;intro fa F
  refine F.sv (R_mul rfl (F.at rfl) (F.at rfl) (by omega) (by omega)) ?_;clear F fa;intro fa F
  refine F.sv (R_add rfl (F.at rfl) (F.at rfl) (by omega) (by omega)) ?_;clear F fa;intro fa F
  refine wpStill_nil ?_
  refine F.as ?_;clear F fa;intro fa F
  refine wpList_nil ?_
  rw [show dotE (val (x.lamp k)) (val s) i + (x.L.getD k (.bool true,[])).2.getD i 0 * s.getD i 0 = dotE (val (x.lamp k)) (val s) (i + 1) from rfl] at F
  refine hK7 _ _ ?_
  clear hK7
  refine wp_region_lit ?_
  refine F.mv ?_;clear F fa;intro fa F
  refine F.vl (R_add rfl (F.at rfl) (ev_c fa _) (by omega) (by omega)) ?_;clear F fa;intro fa F
  refine F.as ?_;clear F fa;intro fa F
  refine wpList_nil ?_
  show _ ∧ _
  exact ⟨by omega,_,⟨rfl,E,q3,(by have h2 : dotE (val (x.lamp k)) (val s) (i + 1) = dotE (val (x.lamp k)) (val s) i + (x.L.getD k (.bool true,[])).2.getD i 0 * s.getD i 0:=rfl;constructor <;> omega)⟩,F.sub (.c 7 rfl (.c 8 rfl (.c 1 rfl (.c 2 rfl (.c 3 rfl .n)))))⟩
 ·skip
  refine wp_exit ?_
  rw [show i = bn by omega] at F
  refine hK3 _ _ ?_
  clear hK3
  refine wp_seq_k fun K11 hK11=>?_
  refine wp_region_lit ?_
  refine F.mv ?_;clear F fa;intro fa F
  refine F.as ?_;clear F fa;intro fa F
  refine wpList_nil ?_
  refine hK11 _ _ ?_
  clear hK11
  refine wp_ret ?_
  (try simp only [Exit.inBlock,Exit.then,reduceIte])
  refine rt_v F (rs_1 F rfl rfl) ?_
  exact ⟨rfl,E⟩
def tupF (n : Nat) (L : List (List Int)) : List (List Int):=L.flatMap fun l=>(List.range n).map fun (x : Nat)=>l ++ [(x : Int)]
def tupL (n : Nat) : Nat → List (List Int)
 | 0=>[[]]
 | k + 1=>tupF n (tupL n k)
theorem mem_tupL (n : Nat) : ∀ (k : Nat) (l : List Int),l ∈ tupL n k ↔ l.length = k ∧ ∀ x ∈ l,0 ≤ x ∧ x < n
 | 0,l=>by
  constructor
  ·intro h
   obtain rfl : l = []:=(by simpa [tupL] using h)
   exact ⟨rfl,fun x hx=>by simp at hx⟩
  ·rintro ⟨h,-⟩
   obtain rfl:=List.length_eq_zero_iff.1 h
   simp [tupL]
 | k + 1,l=>by
  constructor
  ·intro h
   obtain ⟨l',h',h2⟩:=List.mem_flatMap.1 h
   obtain ⟨x,hx,rfl⟩:=List.mem_map.1 h2
   obtain ⟨a,b⟩:=(mem_tupL n k l').1 h'
   have hx:=List.mem_range.1 hx
   refine ⟨by rw [List.length_append,a];rfl,fun y hy=>?_⟩
   rcases List.mem_append.1 hy with hy | hy
   ·exact b y hy
   ·obtain rfl:=List.mem_singleton.1 hy
    omega
  ·rintro ⟨h,hb⟩
   have hne : l ≠ []:=fun e=>by subst e;cases h
   have e:=List.dropLast_concat_getLast hne
   have hx:=hb _ (List.getLast_mem hne)
   refine List.mem_flatMap.2 ⟨l.dropLast,(mem_tupL n k _).2 ⟨by rw [List.length_dropLast,h];rfl,fun x hx=>hb x (List.dropLast_subset _ hx)⟩,List.mem_map.2 ⟨(l.getLast hne).toNat,List.mem_range.2 (by omega),?_⟩⟩
   rw [Int.toNat_of_nonneg hx.1]
   exact e
theorem fam_right {w : World} {base : Nat} {L O : List (Value × List Int)} (h : FamT w base (L ++ O)) : FamT w base O:=
 ⟨fun p hp=>h.1 p (List.mem_append_right _ hp),(List.pairwise_append.1 h.2).2.1⟩
def mixB (P : Nat) (l : List Int) : Bool:=decide (l.sum ≤ P)
def mixL (nd P : Nat) : List (List Int):=(tupL (P + 1) nd).filter (mixB P)
theorem val_zero {l : List Int} {k : Nat} (h : l.length ≤ k) : val l k = 0:=by simp [val,List.getElem?_eq_none h]
set_option maxRecDepth 100000 in
set_option maxHeartbeats 2000000 in
theorem dOff_ok (x : Vm) (hv : VOk x) (k : Nat) (hk : k < x.L.length) (t : List Int) (ht : t.length = x.D.length) (hb : ∀ n ∈ t,0 ≤ n ∧ n ≤ 6) (s : List Int) (hs : SmpOk x s) (ta sa : Option Addr) (tc sc : Nat) (w : World) (h : x.At w) (hp : IsRows w (.slice ta t.length tc) 1 (t.map intRow)) (hr : IsRows w (.slice sa s.length sc) 1 (s.map intRow)) :
  Calls Try.prog 119 #[.agg #[.int .i64 x.B,.slice x.da x.D.length x.dc,.slice x.la x.L.length x.lc,.int .i64 x.tol],.int .i64 ((k : Nat) : Int),.slice ta t.length tc,.slice sa s.length sc] w fun e w'=>e = .returned (.int .i64 (offE x k (val t) (val s))) ∧ Ext [] w w':=by
 have E : Ext [] w w:=Ext.refl _ _
 have HX:=Lib.hid h
 have HV:=Lib.hid hv
 have HP:=Lib.hid hp
 have HR:=Lib.hid hr
 have HS:=Lib.hid hs
 have HB:=Lib.hid hb
 have hb1:=hv.b1
 have hb3:=hv.b3
 have hd4:=hv.d4
 obtain ⟨bn,hbn⟩ : ∃ bn : Nat,x.B = bn:=⟨x.B.toNat,by omega⟩
 have hbn2 : x.B.toNat = bn:=by omega
 have hts : RowKit.Hid (TubS (val t)):=Lib.hid (fun k _=>val_bd hb (by omega) (by omega) k)
 have hpr : prt (val t) = t.sum:=sumTo_list t 4 (by omega)
 have hpb:=prt_bd hts.out
 have hko : offE x k (val t) (val s) = dotE (val (x.lamp k)) (tnE x (val t)) bn - t.sum * dotE (val (x.lamp k)) (val s) bn:=by rw [offE,hbn2,hpr]
 have hof:=off_bd hv hk hts.out hs
 have hdb:=dot_bd hv hk (fun j=>smp_bd hs j) (n:=bn) (by omega)
 have hmb:=mul_bd2 hpb.1 hpb.2 hdb.1 hdb.2 (C:=51840) (by omega)
 have hda:=dot_bd hv hk (fun j=>tn_bd hv hts.out j) (n:=bn) (by omega)
 have hsn : s.length = bn:=by have:=hs.1;omega
 rw [hpr] at hmb
 clear h hv hp hr hs hb
 refine calls_has 23 Try.func119 rfl Try.ntmps119 (Nat.le_of_ble_eq_true rfl) ?_
 intro fa F
 refine wp_seq_k fun K1 hK1=>?_
 refine wp_region_lit ?_
 refine sq_new F rfl (by decide) rfl (R_box rfl (F.at rfl)) ?_;clear F fa;intro fa w1 F hw
 obtain ⟨n4,hn⟩ : ∃ n,n = w.heap.size:=⟨_,rfl⟩
 rw [← hn] at F
 have s4 : w.heap.size ≤ n4:=Nat.le_of_eq hn.symm
 have l4_E : w.heap.size ≤ n4:=by rw [hn];exact E.size
 replace E:=ext_alloc E hw
 have q4:=new_row hw hn
 clear hw hn
 refine F.vl (R_assign rfl (ev_c fa _)) ?_;clear F fa;intro fa F
 refine wpList_nil ?_
 refine hK1 _ _ ?_
 clear hK1
 refine wp_seq_k fun K2 hK2=>?_
 refine region_x (Ext [] w1) none follows fun w2 hh eh=>?_
 have q4_:=q4
 replace q4:=keep_same hh q4
 have E_:=E
 have zEw2:=E.size
 replace E:=ext_same E eh
 have eT:=eh
 clear hh eh
 refine F.xr (i:=0) rfl (fun w' hS=>R_loadBlk rfl (F.at rfl) Try.underlying24 rfl (by kernel_rfl) (hS.keep q4_ (by simp))) (fun _=>eT) ?_;clear F fa;intro fa F
 refine F.x (i:=1) rfl (fun w'=>R_move rfl (F.at rfl)) (fun _=>eT) ?_;clear F fa;intro fa F
 refine F.xr (i:=2) rfl (fun w' hS=>R_loadBlk rfl (F.at rfl) Try.underlying24 rfl (by kernel_rfl) (hS.keep q4_ (by simp))) (fun _=>eT) ?_;clear F fa;intro fa F
 refine F.x (i:=3) rfl (fun w'=>R_move rfl (F.at rfl)) (fun _=>eT) ?_;clear F fa;intro fa F
 refine F.x (i:=6) rfl (fun w'=>R_move rfl (F.at rfl)) (fun _=>eT) ?_;clear F fa;intro fa F
 refine F.xr (i:=8) rfl (fun w' hS=>R_loadBlk rfl (F.at rfl) Try.underlying24 rfl (by kernel_rfl) (hS.keep q4_ (by simp))) (fun _=>eT) ?_;clear F fa;intro fa F
 refine F.x (i:=9) rfl (fun w'=>R_move rfl (F.at rfl)) (fun _=>eT) ?_;clear F fa;intro fa F
 refine F.x (i:=10) rfl (fun w'=>R_move rfl (F.at rfl)) (fun _=>eT) ?_;clear F fa;intro fa F
 refine ax_only (i:=4) (by kernel_rfl) (op_call F rfl rfl (by decide) rfl (R_callV rfl rfl Try.call117 (mpS (F.at rfl) (mpS (F.at rfl) mp0))) (dSums_ok x HV.out bn hbn t ht HB.out ta tc _ (HX.out.ext E) (HP.out.ext E (by simp))) fun e w3 hR=>?_)
 obtain ⟨ua,rfl,uo,e9⟩:=hR
 refine ⟨_,rfl,?_⟩;clear F fa;intro fa F
 replace q4:=(e9).keep0 q4
 replace E:=ext_same E (e9)
 replace eT:=ext_same eT (e9)
 clear e9
 refine ⟨fun _=>eT,?_⟩
 have hsl : (sumL x (val t) bn).length = bn:=by simp [sumL]
 have HU:=Lib.hid (rows_of_ivs uo hsl.symm)
 obtain ⟨wS,hwS⟩ : ∃ wS,wS = w3:=⟨_,rfl⟩
 have ES : Ext [] wS w3:=by rw [hwS];exact Ext.refl _ _
 rw [← hwS] at HU
 clear uo
 have hsb:=Lib.hid (sumL_bd HV.out hts.out bn)
 have hwe:=dWeigh_ok x HV.out k hk bn hbn (sumL x (val t) bn) hsl (fun n hn=>by have:=hsb.out n hn;omega) ua bn w3 (HX.out.ext E) (by rw [hsl];exact HU.out.ext ES (by simp))
 rw [hsl] at hwe
 have hdx:=dot_sumL x (val t) (val (x.lamp k)) bn
 rw [hsl] at hdx
 rw [hdx] at hwe
 refine ax_only (i:=5) (by kernel_rfl) (op_call F rfl rfl (by decide) rfl (R_callV rfl rfl Try.call116 (mpS (F.at rfl) (mpS (F.at rfl) (mpS (F.at rfl) mp0)))) (hwe) fun e w4 hR=>?_)
 obtain ⟨rfl,e9⟩:=hR
 refine ⟨_,rfl,?_⟩;clear F fa;intro fa F
 replace q4:=(e9).keep0 q4
 replace E:=ext_same E (e9)
 replace ES:=ext_same ES (e9)
 replace eT:=ext_same eT (e9)
 clear e9
 refine ⟨fun _=>eT,?_⟩
 clear hwe hdx
 refine ax_only (i:=7) (by kernel_rfl) (op_call F rfl rfl (by decide) rfl (R_callV rfl rfl Try.call67 (mpS (F.at rfl) mp0)) (dTotal_any t ta tc _ (HP.out.ext E (by simp)) (by omega) (fun n hn=>by have:=HB.out n hn;omega)) fun e w5 hR=>?_)
 obtain ⟨rfl,e9⟩:=hR
 refine ⟨_,rfl,?_⟩;clear F fa;intro fa F
 replace q4:=(e9).keep0 q4
 replace E:=ext_same E (e9)
 replace ES:=ext_same ES (e9)
 replace eT:=ext_same eT (e9)
 clear e9
 refine ⟨fun _=>eT,?_⟩
 refine ax_only (i:=11) (by kernel_rfl) (op_call F rfl rfl (by decide) rfl (R_callV rfl rfl Try.call116 (mpS (F.at rfl) (mpS (F.at rfl) (mpS (F.at rfl) mp0)))) (dWeigh_ok x HV.out k hk bn hbn s hsn (fun n hn=>by have:=HS.out.2 n hn;omega) sa sc _ (HX.out.ext E) (HR.out.ext E (by simp))) fun e w6 hR=>?_)
 obtain ⟨rfl,e9⟩:=hR
 refine ⟨_,rfl,?_⟩;clear F fa;intro fa F
 replace q4:=(e9).keep0 q4
 replace E:=ext_same E (e9)
 replace ES:=ext_same ES (e9)
 replace eT:=ext_same eT (e9)
 clear e9
 refine ⟨fun _=>eT,?_⟩
 refine F.x (i:=12) rfl (fun w'=>R_mul rfl (F.at rfl) (F.at rfl) (by omega) (by omega)) (fun _=>eT) ?_;clear F fa;intro fa F
 refine F.x (i:=13) rfl (fun w'=>R_sub rfl (F.at rfl) (F.at rfl) (by omega) (by omega)) (fun _=>eT) ?_;clear F fa;intro fa F
 refine F.x (i:=14) rfl (fun w'=>R_assign rfl (F.at rfl)) (fun _=>eT) ?_;clear F fa;intro fa F
 refine ax_done (by kernel_rfl) ?_ _
 clear eT q4_ E_
 refine hK2 _ _ ?_
 clear hK2
 refine wp_ret ?_
 (try simp only [Exit.inBlock,Exit.then,reduceIte])
 refine rt_v F (rs_1 F rfl rfl) ?_
 exact ⟨ret_int hko.symm,E⟩
set_option maxRecDepth 100000 in
set_option maxHeartbeats 2000000 in
theorem dMatches_ok (x : Vm) (hv : VOk x) (k : Nat) (hk : k < x.L.length) (t : List Int) (ht : t.length = x.D.length) (hb : ∀ n ∈ t,0 ≤ n ∧ n ≤ 6) (s : List Int) (hs : SmpOk x s) (ta sa : Option Addr) (tc sc : Nat) (w : World) (h : x.At w) (hp : IsRows w (.slice ta t.length tc) 1 (t.map intRow)) (hr : IsRows w (.slice sa s.length sc) 1 (s.map intRow)) :
  Calls Try.prog 109 #[.agg #[.int .i64 x.B,.slice x.da x.D.length x.dc,.slice x.la x.L.length x.lc,.int .i64 x.tol],.int .i64 ((k : Nat) : Int),.slice ta t.length tc,.slice sa s.length sc] w fun e w'=>e = .returned (.bool (decide (max (offE x k (val t) (val s)) (-offE x k (val t) (val s)) ≤ x.tol * prt (val t)))) ∧ Ext [] w w':=by
 have E : Ext [] w w:=Ext.refl _ _
 have HX:=Lib.hid h
 have HV:=Lib.hid hv
 have HP:=Lib.hid hp
 have HR:=Lib.hid hr
 have HS:=Lib.hid hs
 have HB:=Lib.hid hb
 have hd4:=hv.d4
 have ht0:=hv.t0
 have ht12:=hv.t12
 have hts : RowKit.Hid (TubS (val t)):=Lib.hid (fun k _=>val_bd hb (by omega) (by omega) k)
 have hpr : prt (val t) = t.sum:=sumTo_list t 4 (by omega)
 have hpb:=prt_bd hts.out
 have h7:=mul_bd2 ht0 ht12 hpb.1 hpb.2 (C:=288) (by omega)
 have hof:=off_bd hv hk hts.out hs
 rw [hpr] at h7 ⊢
 clear h hv hp hr hs hb
 refine calls_has 25 Try.func109 rfl Try.ntmps109 (Nat.le_of_ble_eq_true rfl) ?_
 intro fa F
 refine wp_seq_k fun K1 hK1=>?_
 refine wp_region_lit ?_
 refine sq_new F rfl (by decide) rfl (R_box rfl (F.at rfl)) ?_;clear F fa;intro fa w1 F hw
 obtain ⟨n4,hn⟩ : ∃ n,n = w.heap.size:=⟨_,rfl⟩
 rw [← hn] at F
 have s4 : w.heap.size ≤ n4:=Nat.le_of_eq hn.symm
 have l4_E : w.heap.size ≤ n4:=by rw [hn];exact E.size
 replace E:=ext_alloc E hw
 have q4:=new_row hw hn
 clear hw hn
 refine F.vl (R_assign rfl (ev_c fa _)) ?_;clear F fa;intro fa F
 refine wpList_nil ?_
 refine hK1 _ _ ?_
 clear hK1
 refine wp_seq_k fun K2 hK2=>?_
 refine wp_region_lit ?_
 refine F.vl (R_loadBlk rfl (F.at rfl) Try.underlying24 rfl (by kernel_rfl) q4) ?_;clear F fa;intro fa F
 refine F.mv ?_;clear F fa;intro fa F
 refine F.mv ?_;clear F fa;intro fa F
 refine F.mv ?_;clear F fa;intro fa F
 refine sq_call F rfl (by decide) rfl (R_callV rfl rfl Try.call119 (mpS (F.at rfl) (mpS (F.at rfl) (mpS (F.at rfl) (mpS (F.at rfl) mp0))))) (dOff_ok x HV.out k hk t ht HB.out s HS.out ta sa tc sc _ (HX.out.ext E) (HP.out.ext E (by simp)) (HR.out.ext E (by simp))) fun e w2 hR=>?_
 obtain ⟨rfl,e9⟩:=hR
 refine ⟨_,rfl,?_⟩;clear F fa;intro fa F
 replace q4:=(e9).keep0 q4
 replace E:=ext_same E (e9)
 clear e9
 refine F.as ?_;clear F fa;intro fa F
 refine wpList_nil ?_
 refine hK2 _ _ ?_
 clear hK2
 refine wp_seq_k fun K3 hK3=>?_
 refine region_x (Ext [] w2) none follows fun w3 hh eh=>?_
 have q4_:=q4
 replace q4:=keep_same hh q4
 have E_:=E
 have zEw3:=E.size
 replace E:=ext_same E eh
 have eT:=eh
 clear hh eh
 refine F.x (i:=0) rfl (fun w'=>R_move rfl (F.at rfl)) (fun _=>eT) ?_;clear F fa;intro fa F
 refine F.x (i:=1) rfl (fun w'=>R_move rfl (F.at rfl)) (fun _=>eT) ?_;clear F fa;intro fa F
 refine F.x (i:=2) rfl (fun w'=>R_neg rfl (F.at rfl) (by omega) (by omega)) (fun _=>eT) ?_;clear F fa;intro fa F
 refine F.x (i:=3) rfl (fun w'=>R_max rfl rfl (F.at rfl) (F.at rfl)) (fun _=>eT) ?_;clear F fa;intro fa F
 refine F.x (i:=4) rfl (fun w'=>R_field rfl (F.at rfl) Try.underlying24 rfl (n:=3) (sz:=1) rfl (by kernel_rfl) (by decide)) (fun _=>eT) ?_;clear F fa;intro fa F
 refine F.xr (i:=5) rfl (fun w' hS=>R_load rfl (F.at rfl) Try.underlying3 rfl ((cells_of_block (hS.keep q4_ (by simp)) 3).trans (getS (getS (getS (get0)))))) (fun _=>eT) ?_;clear F fa;intro fa F
 refine F.x (i:=6) rfl (fun w'=>R_move rfl (F.at rfl)) (fun _=>eT) ?_;clear F fa;intro fa F
 refine ax_only (i:=7) (by kernel_rfl) (op_call F rfl rfl (by decide) rfl (R_callV rfl rfl Try.call67 (mpS (F.at rfl) mp0)) (dTotal_any t ta tc _ (HP.out.ext E (by simp)) (by omega) (fun n hn=>by have:=HB.out n hn;omega)) fun e w4 hR=>?_)
 obtain ⟨rfl,e9⟩:=hR
 refine ⟨_,rfl,?_⟩;clear F fa;intro fa F
 replace q4:=(e9).keep0 q4
 replace E:=ext_same E (e9)
 replace eT:=ext_same eT (e9)
 clear e9
 refine ⟨fun _=>eT,?_⟩
 refine F.x (i:=8) rfl (fun w'=>R_mul rfl (F.at rfl) (F.at rfl) (by omega) (by omega)) (fun _=>eT) ?_;clear F fa;intro fa F
 refine F.x (i:=9) rfl (fun w'=>R_leq rfl (F.at rfl) (F.at rfl)) (fun _=>eT) ?_;clear F fa;intro fa F
 refine F.x (i:=10) rfl (fun w'=>R_assign rfl (F.at rfl)) (fun _=>eT) ?_;clear F fa;intro fa F
 refine ax_done (by kernel_rfl) ?_ _
 clear eT q4_ E_
 refine hK3 _ _ ?_
 clear hK3
 refine wp_ret ?_
 (try simp only [Exit.inBlock,Exit.then,reduceIte])
 refine rt_v F (rs_1 F rfl rfl) ?_
 exact ⟨rfl,E⟩
set_option maxRecDepth 100000 in
set_option maxHeartbeats 2000000 in
theorem dUnder_ok (x : Vm) (hv : VOk x) (ls : List Int) (hl : LmpOk x ls) (hll : ls.length ≤ 1000) (t : List Int) (ht : t.length = x.D.length) (hb : ∀ n ∈ t,0 ≤ n ∧ n ≤ 6) (s : List Int) (hs : SmpOk x s) (la ta sa : Option Addr) (lc tc sc : Nat) (w : World) (h : x.At w) (hq : IsRows w (.slice la ls.length lc) 1 (ls.map intRow)) (hp : IsRows w (.slice ta t.length tc) 1 (t.map intRow)) (hr : IsRows w (.slice sa s.length sc) 1 (s.map intRow)) :
  Calls Try.prog 68 #[.agg #[.int .i64 x.B,.slice x.da x.D.length x.dc,.slice x.la x.L.length x.lc,.int .i64 x.tol],.slice la ls.length lc,.slice ta t.length tc,.slice sa s.length sc] w fun e w'=>e = .returned (.bool (matE x (val t) (val s) ls)) ∧ Ext [] w w':=by
 have E : Ext [] w w:=Ext.refl _ _
 have HX:=Lib.hid h
 have HV:=Lib.hid hv
 have HP:=Lib.hid hp
 have HR:=Lib.hid hr
 have HQ:=Lib.hid (slAt_of_rows hq 0)
 have HS:=Lib.hid hs
 have HL:=Lib.hid hl
 have HB:=Lib.hid hb
 have hl3:=hv.l3
 clear h hv hp hr hq hs hl hb
 refine calls_has 25 Try.func68 rfl Try.ntmps68 (Nat.le_of_ble_eq_true rfl) ?_
 intro fa F
 refine wp_seq_k fun K1 hK1=>?_
 refine wp_region_lit ?_
 refine sq_new F rfl (by decide) rfl (R_box rfl (F.at rfl)) ?_;clear F fa;intro fa w1 F hw
 obtain ⟨n4,hn⟩ : ∃ n,n = w.heap.size:=⟨_,rfl⟩
 rw [← hn] at F
 have s4 : w.heap.size ≤ n4:=Nat.le_of_eq hn.symm
 have l4_E : w.heap.size ≤ n4:=by rw [hn];exact E.size
 replace E:=ext_alloc E hw
 have q4:=new_row hw hn
 clear hw hn
 refine F.vl (R_assign rfl (ev_c fa _)) ?_;clear F fa;intro fa F
 refine wpList_nil ?_
 refine hK1 _ _ ?_
 clear hK1
 refine wp_seq_k fun K2 hK2=>?_
 refine wp_seq_k fun K3 hK3=>?_
 refine wp_region_lit ?_
 refine F.vl (R_assign rfl (ev_c fa _)) ?_;clear F fa;intro fa F
 refine wpList_nil ?_
 refine hK3 _ _ ?_
 clear hK3
 refine wp_block ?_
 have F0:=F.sub (.c 1 rfl (.c 2 rfl (.c 3 rfl (.c 4 rfl .n))))
 refine lp_for F0 (ls.length) (fun i Lv W=>Lv = [(9,.int .i64 ((i : Nat) : Int))] ∧ Ext [] w W ∧ W.heap[n4]? = some (.cells #[.int .i64 x.B,.slice x.da x.D.length x.dc,.slice x.la x.L.length x.lc,.int .i64 x.tol] 24 (0,0)) ∧ ∀ j,j < i → max (offE x (ls.getD j 0).toNat (val t) (val s)) (-offE x (ls.getD j 0).toNat (val t) (val s)) ≤ x.tol * prt (val t)) ⟨_,⟨rfl,E,q4,(fun j h=>by omega)⟩,F.sub (.c 9 rfl (.c 1 rfl (.c 2 rfl (.c 3 rfl (.c 4 rfl .n)))))⟩ ?_
 clear F F0
 clear E q4
 rintro i _ fa w2 hi1 ⟨rfl,E,q4,hok⟩ F
 refine wp_seq_k fun K4 hK4=>?_
 refine wp_seq_k fun K5 hK5=>?_
 refine wp_region_lit ?_
 refine F.mv ?_;clear F fa;intro fa F
 refine F.mv ?_;clear F fa;intro fa F
 refine F.vl (R_len rfl rfl (F.at rfl) Try.underlying25) ?_;clear F fa;intro fa F
 refine F.vl (R_lss rfl (F.at rfl) (F.at rfl)) ?_;clear F fa;intro fa F
 refine wpList_nil ?_
 refine hK5 _ _ ?_
 clear hK5
 refine cd_if F rfl (fun hc13=>?_) (fun hc13=>?_)
 ·skip
  refine wp_skip ?_
  refine hK4 _ _ ?_
  clear hK4
  refine wp_seq_k fun K6 hK6=>?_
  refine wp_block ?_
  refine wp_seq_k fun K7 hK7=>?_
  obtain ⟨hn0,hn1⟩:=HL.out _ (getD_mem 0 (show i < ls.length by omega))
  obtain ⟨k,hk⟩ : ∃ k : Nat,ls.getD i 0 = k:=⟨(ls.getD i 0).toNat,by omega⟩
  refine region_x (Ext [] w2) none follows fun w3 hh eh=>?_
  have q4_:=q4
  replace q4:=keep_same hh q4
  have E_:=E
  have zEw3:=E.size
  replace E:=ext_same E eh
  have eT:=eh
  clear hh eh
  refine F.xr (i:=0) rfl (fun w' hS=>R_loadBlk rfl (F.at rfl) Try.underlying24 rfl (by kernel_rfl) (hS.keep q4_ (by simp))) (fun _=>eT) ?_;clear F fa;intro fa F
  refine F.x (i:=1) rfl (fun w'=>R_move rfl (F.at rfl)) (fun _=>eT) ?_;clear F fa;intro fa F
  refine F.x (i:=2) rfl (fun w'=>R_move rfl (F.at rfl)) (fun _=>eT) ?_;clear F fa;intro fa F
  obtain ⟨xb8,xo8,xa8,xr8⟩:=HQ.out i (by omega)
  refine F.x (i:=3) rfl (fun w'=>R_ixSlice (sz:=1) rfl ((F.at rfl).trans (xa8 _ _)) (F.at rfl) Try.underlying25 (by kernel_rfl) (by omega) (by omega)) (fun _=>eT) ?_;clear F fa;intro fa F
  refine F.xr (i:=4) rfl (fun w' hS=>R_load rfl (F.at rfl) Try.underlying3 rfl (xr8 _ (E_.nil hS) 0 _ rfl)) (fun _=>eT) ?_;clear F fa;intro fa F
  rw [hk] at F
  refine F.x (i:=5) rfl (fun w'=>R_move rfl (F.at rfl)) (fun _=>eT) ?_;clear F fa;intro fa F
  refine F.x (i:=6) rfl (fun w'=>R_move rfl (F.at rfl)) (fun _=>eT) ?_;clear F fa;intro fa F
  refine ax_only (i:=7) (by kernel_rfl) (op_call F rfl rfl (by decide) rfl (R_callV rfl rfl Try.call109 (mpS (F.at rfl) (mpS (F.at rfl) (mpS (F.at rfl) (mpS (F.at rfl) mp0))))) (dMatches_ok x HV.out k (by omega) t ht HB.out s HS.out ta sa tc sc _ (HX.out.ext E) (HP.out.ext E (by simp)) (HR.out.ext E (by simp))) fun e w4 hR=>?_)
  obtain ⟨rfl,e9⟩:=hR
  refine ⟨_,rfl,?_⟩;clear F fa;intro fa F
  replace q4:=(e9).keep0 q4
  replace E:=ext_same E (e9)
  replace eT:=ext_same eT (e9)
  clear e9
  refine ⟨fun _=>eT,?_⟩
  refine F.x (i:=8) rfl (fun w'=>R_notD rfl (F.at rfl)) (fun _=>eT) ?_;clear F fa;intro fa F
  refine ax_done (by kernel_rfl) ?_ _
  clear eT q4_ E_
  refine hK7 _ _ ?_
  clear hK7
  refine cd_if F rfl (fun hc24=>?_) (fun hc24=>?_)
  ·skip
   refine wp_seq_k fun K9 hK9=>?_
   refine wp_region_lit ?_
   refine F.vl (R_assign rfl (ev_c fa _)) ?_;clear F fa;intro fa F
   refine wpList_nil ?_
   refine hK9 _ _ ?_
   clear hK9
   refine wp_ret ?_
   (try simp only [Exit.inBlock,Exit.then,reduceIte])
   refine rt_v F (rs_1 F rfl rfl) ?_
   exact ⟨ret_bool (mat_bad (i:=i) (by omega) (by rw [hk,Int.toNat_natCast];have : ¬ (max (offE x k (val t) (val s)) (-offE x k (val t) (val s)) ≤ x.tol * prt (val t)):=(by simpa using hc24);omega)).symm,E⟩
  ·skip
   refine wp_skip ?_
   refine hK6 _ _ ?_
   clear hK6
   refine wp_region_lit ?_
   refine F.mv ?_;clear F fa;intro fa F
   refine F.vl (R_add rfl (F.at rfl) (ev_c fa _) (by omega) (by omega)) ?_;clear F fa;intro fa F
   refine F.as ?_;clear F fa;intro fa F
   refine wpList_nil ?_
   show _ ∧ _
   exact ⟨by omega,_,⟨rfl,E,q4,(fun j h=>by rcases Nat.lt_succ_iff_lt_or_eq.1 h with h | rfl;(· exact hok j h);(· rw [hk,Int.toNat_natCast];simpa using hc24))⟩,F.sub (.c 9 rfl (.c 1 rfl (.c 2 rfl (.c 3 rfl (.c 4 rfl .n)))))⟩
 ·skip
  refine wp_exit ?_
  refine hK2 _ _ ?_
  clear hK2
  refine wp_seq_k fun K10 hK10=>?_
  refine wp_region_lit ?_
  refine F.vl (R_assign rfl (ev_c fa _)) ?_;clear F fa;intro fa F
  refine wpList_nil ?_
  refine hK10 _ _ ?_
  clear hK10
  refine wp_ret ?_
  (try simp only [Exit.inBlock,Exit.then,reduceIte])
  refine rt_v F (rs_1 F rfl rfl) ?_
  exact ⟨ret_bool (mat_all fun j hj=>hok j (by omega)).symm,E⟩
def pouL (xs ys : List Int) (i : Nat) : List Int:=(List.range i).map fun j=>xs.getD j 0 + ys.getD j 0
theorem pou_put (xs ys : List Int) (i : Nat) : pouL xs ys i ++ [xs.getD i 0 + ys.getD i 0] = pouL xs ys (i + 1):=by rw [pouL,pouL,List.range_succ,List.map_append];rfl
set_option maxRecDepth 100000 in
theorem dPoured_any (xs ys : List Int) (hl : ys.length = xs.length) (h1 : xs.length ≤ 1000) (hx : ∀ n ∈ xs,0 ≤ n ∧ n ≤ 1000) (hy : ∀ n ∈ ys,0 ≤ n ∧ n ≤ 1000) (a b : Option Addr) (c d : Nat) (w : World) (ha : IsRows w (.slice a xs.length c) 1 (xs.map intRow)) (hb : IsRows w (.slice b ys.length d) 1 (ys.map intRow)) :
  Calls Try.prog 69 #[.slice a xs.length c,.slice b ys.length d] w fun e w'=>∃ va vc,e = .returned (.slice va xs.length vc) ∧ w'.ownsRow w.heap.size 3 1 (.slice va xs.length vc) xs.length (ivs (pouL xs ys xs.length)) ∧ Ext [] w w':=by
 have E : Ext [] w w:=Ext.refl _ _
 have HA:=Lib.hid (slAt_of_rows ha 0)
 have HB:=Lib.hid (slAt_of_rows hb 0)
 have HX:=Lib.hid hx
 have HY:=Lib.hid hy
 clear ha hb hx hy
 have oo : w.ownsRow w.heap.size 3 1 (.slice none 0 0) 0 (ivs (pouL xs ys 0)):=World.ownsRow_nil _ _ _ _
 refine calls_has 26 Try.func69 rfl Try.ntmps69 (Nat.le_of_ble_eq_true rfl) ?_
 intro fa F
 refine wp_seq_k fun K1 hK1=>?_
 refine wp_region_lit ?_
 refine F.vl (R_assign rfl (ev_c fa _)) ?_;clear F fa;intro fa F
 refine wpList_nil ?_
 refine hK1 _ _ ?_
 clear hK1
 refine wp_seq_k fun K2 hK2=>?_
 refine wp_region_lit ?_
 refine F.vl (R_assign rfl (ev_c fa _)) ?_;clear F fa;intro fa F
 refine wpList_nil ?_
 refine hK2 _ _ ?_
 clear hK2
 refine wp_seq_k fun K3 hK3=>?_
 refine wp_seq_k fun K4 hK4=>?_
 refine wp_region_lit ?_
 refine F.vl (R_assign rfl (ev_c fa _)) ?_;clear F fa;intro fa F
 refine wpList_nil ?_
 refine hK4 _ _ ?_
 clear hK4
 refine wp_block ?_
 have F0:=F.sub (.c 0 rfl (.c 1 rfl .n))
 refine lp_for F0 (xs.length) (fun i Lv W=>∃ va : Option Addr,∃ vc : Nat,Lv = [(5,.slice va i vc),(6,.int .i64 ((i : Nat) : Int))] ∧ Ext [] w W ∧ W.ownsRow w.heap.size 3 1 (.slice va i vc) i (ivs (pouL xs ys i))) ⟨_,⟨none,0,rfl,E,oo⟩,F.sub (.c 5 rfl (.c 6 rfl (.c 0 rfl (.c 1 rfl .n))))⟩ ?_
 clear F F0
 clear E
 clear oo
 rintro i _ fa w1 hi1 ⟨va,vc,rfl,E,oo⟩ F
 refine wp_seq_k fun K5 hK5=>?_
 refine wp_seq_k fun K6 hK6=>?_
 refine wp_region_lit ?_
 refine F.mv ?_;clear F fa;intro fa F
 refine F.mv ?_;clear F fa;intro fa F
 refine F.vl (R_len rfl rfl (F.at rfl) Try.underlying25) ?_;clear F fa;intro fa F
 refine F.vl (R_lss rfl (F.at rfl) (F.at rfl)) ?_;clear F fa;intro fa F
 refine wpList_nil ?_
 refine hK6 _ _ ?_
 clear hK6
 refine cd_if F rfl (fun hc10=>?_) (fun hc10=>?_)
 ·skip
  refine wp_skip ?_
  refine hK5 _ _ ?_
  clear hK5
  refine wp_seq_k fun K7 hK7=>?_
  refine wp_block ?_
  have hxi:=HX.out _ (getD_mem 0 (show i < xs.length by omega))
  have hyi:=HY.out _ (getD_mem 0 (show i < ys.length by omega))
  have hEs:=E.size
  refine region_x (Ext [] w1) (some 11) follows fun w2 hh eh=>?_
  have E_:=E
  have zEw2:=E.size
  replace E:=ext_same E eh
  replace oo:=owns_same hh oo
  have eT:=eh
  clear hh eh
  refine F.x (i:=0) rfl (fun w'=>R_move rfl (F.at rfl)) (fun _=>eT) ?_;clear F fa;intro fa F
  refine F.x (i:=1) rfl (fun w'=>R_move rfl (F.at rfl)) (fun _=>eT) ?_;clear F fa;intro fa F
  refine F.x (i:=2) rfl (fun w'=>R_move rfl (F.at rfl)) (fun _=>eT) ?_;clear F fa;intro fa F
  obtain ⟨xb8,xo8,xa8,xr8⟩:=HA.out i (by omega)
  refine F.x (i:=3) rfl (fun w'=>R_ixSlice (sz:=1) rfl ((F.at rfl).trans (xa8 _ _)) (F.at rfl) Try.underlying25 (by kernel_rfl) (by omega) (by omega)) (fun _=>eT) ?_;clear F fa;intro fa F
  refine F.xr2 (i:=4) [9,10,11] rfl (fun w' hS=>R_load rfl (F.at rfl) Try.underlying3 rfl (xr8 _ (E_.nil hS) 0 _ rfl)) (fun _=>eT) ?_;clear F fa;intro fa F
  refine F.x (i:=5) rfl (fun w'=>R_move rfl (F.at rfl)) (fun _=>eT) ?_;clear F fa;intro fa F
  refine F.x (i:=6) rfl (fun w'=>R_move rfl (F.at rfl)) (fun _=>eT) ?_;clear F fa;intro fa F
  obtain ⟨xb9,xo9,xa9,xr9⟩:=HB.out i (by omega)
  refine F.x (i:=7) rfl (fun w'=>R_ixSlice (sz:=1) rfl ((F.at rfl).trans (xa9 _ _)) (F.at rfl) Try.underlying25 (by kernel_rfl) (by omega) (by omega)) (fun _=>eT) ?_;clear F fa;intro fa F
  refine F.xr2 (i:=8) [9,10,11] rfl (fun w' hS=>R_load rfl (F.at rfl) Try.underlying3 rfl (xr9 _ (E_.nil hS) 0 _ rfl)) (fun _=>eT) ?_;clear F fa;intro fa F
  refine F.x (i:=9) rfl (fun w'=>R_add rfl (F.at rfl) (F.at rfl) (by omega) (by omega)) (fun _=>eT) ?_;clear F fa;intro fa F
  refine ax_only (i:=10) (by kernel_rfl) (op_new F rfl rfl (by decide) rfl (R_buildSliceV rfl (prS (F.at rfl) pr0) Try.underlying25 (size:=1) (by kernel_rfl) (by decide) (by decide) Try.zeroValue3 (cells:=#[.int .i64 ((xs.getD i 0) + (ys.getD i 0))]) (by kernel_rfl)) ?_);clear F fa;intro fa w3 F hw
  obtain ⟨n23,hn⟩ : ∃ n,n = w2.heap.size:=⟨_,rfl⟩
  rw [← hn] at F
  have s23 : w2.heap.size ≤ n23:=Nat.le_of_eq hn.symm
  have l23_E : w.heap.size ≤ n23:=by rw [hn];exact E.size
  have lT23 : w1.heap.size ≤ n23:=by rw [hn];exact eT.size
  have o23_oo:=Lib.hid (own_ne_new oo hn)
  replace oo:=owns_alloc hw oo
  replace E:=ext_alloc E hw
  replace eT:=ext_alloc eT hw
  have q23:=new_block hw hn
  clear hw hn
  refine ⟨fun _=>eT,?_⟩
  have hzE:=E.size
  refine ax_only (i:=11) (by kernel_rfl) (op_some F rfl rfl (by decide) rfl (append_run rfl (w.heap.size) (e:=3) (size:=1) (bytes:=8) Try.underlying25 (by kernel_rfl) (by decide) (F.at rfl) oo (F.at rfl) q23 rfl (by simp [Value.oneCell']) (by omega) (by omega) (by omega)) ?_);clear F fa;rintro fa v' w4 F ⟨hown',hg⟩
  obtain ⟨va24,vc24,rfl⟩:=owns_slice hown'
  replace E:=ext_appendX E oo hg (by omega)
  replace oo:=hown'
  clear hg
  refine ⟨gone (by kernel_rfl),?_⟩
  rw [show ivs (pouL xs ys i) ++ [Value.int .i64 (xs.getD i 0 + ys.getD i 0)] = ivs (pouL xs ys (i + 1)) by rw [← pou_put];simp [ivs]] at oo
  refine F.x (i:=12) rfl (fun w'=>R_assign rfl (F.at rfl)) (gone (by kernel_rfl)) ?_;clear F fa;intro fa F
  refine ax_done (by kernel_rfl) ?_ _
  clear eT E_
  refine hK7 _ _ ?_
  clear hK7
  refine wp_region_lit ?_
  refine F.mv ?_;clear F fa;intro fa F
  refine F.vl (R_add rfl (F.at rfl) (ev_c fa _) (by omega) (by omega)) ?_;clear F fa;intro fa F
  refine F.as ?_;clear F fa;intro fa F
  refine wpList_nil ?_
  show _ ∧ _
  exact ⟨by omega,_,⟨_,_,rfl,E,oo⟩,F.sub (.c 5 rfl (.c 6 rfl (.c 0 rfl (.c 1 rfl .n))))⟩
 ·skip
  refine wp_exit ?_
  rw [show i = xs.length by omega] at oo F
  refine hK3 _ _ ?_
  clear hK3
  refine wp_seq_k fun K10 hK10=>?_
  refine wp_region_lit ?_
  refine F.mv ?_;clear F fa;intro fa F
  refine F.as ?_;clear F fa;intro fa F
  refine wpList_nil ?_
  refine hK10 _ _ ?_
  clear hK10
  refine wp_ret ?_
  (try simp only [Exit.inBlock,Exit.then,reduceIte])
  refine rt_v F (rs_1 F rfl rfl) ?_
  exact ⟨va,vc,rfl,oo,E⟩
end Go.Proofs.Ytdjeecgddbjbeaa
