/- Parts of a proof: Dmf, Dif, Dsg. No conditions. -/
import Derived.Test.YtdjeecgddbjbeaaKs9
import Derived.Test.YtdjeecgddbjbeaaKs11
import Derived.Test.YtdjeecgddbjbeaaKs14
set_option linter.unusedVariables false
set_option linter.unusedSimpArgs false
namespace Go.Proofs.Ytdjeecgddbjbeaa
open Go.RowKit
def mosV (x : Vm) (S : List (List Int)) (ls : List Int) : List Int × Int:=if mosE x S ls ≠ 0 then ([],mosE x S ls) else (mosR x ls S,0)
theorem mosV_bad {x : Vm} {S : List (List Int)} {ls : List Int} (h : mosE x S ls ≠ 0) : mosV x S ls = ([],mosE x S ls):=if_pos h
theorem mosV_ok {x : Vm} {S : List (List Int)} {ls : List Int} (h : mosE x S ls = 0) : mosV x S ls = (mosR x ls S,0):=if_neg (by simpa using h)
theorem tub_nil : TubS (val ([] : List Int)):=fun k _=>by simp [val]
theorem tub_all {x : Vm} (hv : VOk x) {S : List (Value × List Int)} (hs : ∀ p ∈ S,RcpOk x p.2) (j : Nat) : TubS (val ((S.map (·.2)).getD j [])):=by
 by_cases h : j < S.length
 ·rw [key_getD S h];exact (hs _ (getD_mem _ h)).tub
 ·rw [List.getD_eq_getElem?_getD,List.getElem?_eq_none (by rw [List.length_map];omega)];exact tub_nil
set_option maxRecDepth 100000 in
set_option maxHeartbeats 4000000 in
theorem dMost_any (x : Vm) (sd : SmallL x.D) (sl : SmallL x.L) (S : List (Value × List Int)) (hs : ∀ p ∈ S,p.2.length ≤ 1000) (hS : S.length ≤ 1000) (ls : List Int) (hl : ls.length ≤ 1000) (a la : Option Addr) (c lc : Nat) (w : World) (h : x.At w) (hp : LolAt w a S) (hq : IsRows w (.slice la ls.length lc) 1 (ls.map intRow)) :
  Calls Try.prog 29 #[.agg #[.int .i64 x.B,.slice x.da x.D.length x.dc,.slice x.la x.L.length x.lc,.int .i64 x.tol],.slice a S.length c,.slice la ls.length lc] w (RefPost (mosV x (S.map (·.2)) ls) w):=by
 have E : Ext [] w w:=Ext.refl _ _
 have HX:=Lib.hid h
 have HA:=Lib.hid hp
 have HQ:=Lib.hid hq
 clear h hp hq
 obtain ⟨e1,he1⟩ : ∃ e1,e1 = x.err:=⟨_,rfl⟩
 obtain ⟨er,her⟩ : ∃ er,er = mosE x (S.map (·.2)) ls:=⟨_,rfl⟩
 have hcor : er = if e1 ≠ 0 then e1 else if stfE x (S.map (·.2)) ≠ 0 then stfE x (S.map (·.2)) else lmpE x ls:=by
  rw [her,he1,mosE]
 refine calls_has 59 Try.func29 rfl Try.ntmps29 (Nat.le_of_ble_eq_true rfl) ?_
 intro fa F
 refine wp_seq_k fun K1 hK1=>?_
 refine wp_region_lit ?_
 refine sq_new F rfl (by decide) rfl (R_box rfl (F.at rfl)) ?_;clear F fa;intro fa w1 F hw
 obtain ⟨n3,hn⟩ : ∃ n,n = w.heap.size:=⟨_,rfl⟩
 rw [← hn] at F
 have s3 : w.heap.size ≤ n3:=Nat.le_of_eq hn.symm
 have l3_E : w.heap.size ≤ n3:=by rw [hn];exact E.size
 replace E:=ext_alloc E hw
 have q3:=new_row hw hn
 clear hw hn
 refine F.vl (R_assign rfl (ev_c fa _)) ?_;clear F fa;intro fa F
 refine F.vl (R_assign rfl (ev_c fa _)) ?_;clear F fa;intro fa F
 refine wpList_nil ?_
 refine hK1 _ _ ?_
 clear hK1
 refine wp_seq_k fun K2 hK2=>?_
 refine wp_seq_k fun K3 hK3=>?_
 refine wp_region_lit ?_
 refine F.vl (R_loadBlk rfl (F.at rfl) Try.underlying24 rfl (by kernel_rfl) q3) ?_;clear F fa;intro fa F
 refine sq_call F rfl (by decide) rfl (R_callV rfl rfl Try.call63 (mpS (F.at rfl) mp0)) (dCheck_any x _ (HX.out.ext E) sd sl) fun e w2 hR=>?_
 obtain ⟨rfl,e9⟩:=hR
 refine ⟨_,rfl,?_⟩;clear F fa;intro fa F
 replace q3:=(e9).keep0 q3
 replace E:=ext_same E (e9)
 clear e9
 rw [show chkE x.B (x.D.map (·.2)) (x.L.map (·.2)) x.tol = e1 from he1.symm] at F
 refine F.as ?_;clear F fa;intro fa F
 refine wpList_nil ?_
 refine hK3 _ _ ?_
 clear hK3
 refine wp_seq_k fun K4 hK4=>?_
 refine wp_region_lit ?_
 refine F.mv ?_;clear F fa;intro fa F
 refine F.vl (R_neqD rfl (F.at rfl) (ev_c fa _)) ?_;clear F fa;intro fa F
 refine wpList_nil ?_
 refine hK4 _ _ ?_
 clear hK4
 refine cd_if F rfl (fun hc17=>?_) (fun hc17=>?_)
 ·skip
  rw [if_pos hc17] at hcor
  refine wp_seq_k fun K5 hK5=>?_
  refine wp_region_lit ?_
  refine F.mv ?_;clear F fa;intro fa F
  refine F.vl (R_assign rfl (ev_c fa _)) ?_;clear F fa;intro fa F
  refine F.as ?_;clear F fa;intro fa F
  refine wpList_nil ?_
  refine hK5 _ _ ?_
  clear hK5
  refine wp_ret ?_
  (try simp only [Exit.inBlock,Exit.then,reduceIte])
  refine rt_v F (rs_2 F rfl rfl rfl) ?_
  exact ⟨none,0,by rw [mosV_bad (by rw [← her,hcor];exact hc17),← her,hcor];rfl,by rw [mosV_bad (by rw [← her,hcor];exact hc17)];exact rows_nilI _,E⟩
 ·skip
  rw [if_neg hc17] at hcor
  refine wp_skip ?_
  refine hK2 _ _ ?_
  clear hK2
  refine wp_seq_k fun K6 hK6=>?_
  refine wp_seq_k fun K7 hK7=>?_
  refine wp_region_lit ?_
  refine F.vl (R_loadBlk rfl (F.at rfl) Try.underlying24 rfl (by kernel_rfl) q3) ?_;clear F fa;intro fa F
  refine F.mv ?_;clear F fa;intro fa F
  refine sq_call F rfl (by decide) rfl (R_callV rfl rfl Try.call78 (mpS (F.at rfl) (mpS (F.at rfl) mp0))) (dStuffs_any x sd.1 S hs hS a c _ (HA.out.ext E)) fun e w3 hR=>?_
  obtain ⟨rfl,e9⟩:=hR
  refine ⟨_,rfl,?_⟩;clear F fa;intro fa F
  replace q3:=(e9).keep0 q3
  replace E:=ext_same E (e9)
  clear e9
  refine F.as ?_;clear F fa;intro fa F
  refine wpList_nil ?_
  refine hK7 _ _ ?_
  clear hK7
  refine wp_seq_k fun K8 hK8=>?_
  refine wp_region_lit ?_
  refine F.mv ?_;clear F fa;intro fa F
  refine F.vl (R_neqD rfl (F.at rfl) (ev_c fa _)) ?_;clear F fa;intro fa F
  refine wpList_nil ?_
  refine hK8 _ _ ?_
  clear hK8
  refine cd_if F rfl (fun hc23=>?_) (fun hc23=>?_)
  ·skip
   rw [if_pos hc23] at hcor
   refine wp_seq_k fun K9 hK9=>?_
   refine wp_region_lit ?_
   refine F.mv ?_;clear F fa;intro fa F
   refine F.vl (R_assign rfl (ev_c fa _)) ?_;clear F fa;intro fa F
   refine F.as ?_;clear F fa;intro fa F
   refine wpList_nil ?_
   refine hK9 _ _ ?_
   clear hK9
   refine wp_ret ?_
   (try simp only [Exit.inBlock,Exit.then,reduceIte])
   refine rt_v F (rs_2 F rfl rfl rfl) ?_
   exact ⟨none,0,by rw [mosV_bad (by rw [← her,hcor];exact hc23),← her,hcor];rfl,by rw [mosV_bad (by rw [← her,hcor];exact hc23)];exact rows_nilI _,E⟩
  ·skip
   rw [if_neg hc23] at hcor
   refine wp_skip ?_
   refine hK6 _ _ ?_
   clear hK6
   refine wp_seq_k fun K10 hK10=>?_
   refine wp_seq_k fun K11 hK11=>?_
   refine wp_region_lit ?_
   refine F.vl (R_loadBlk rfl (F.at rfl) Try.underlying24 rfl (by kernel_rfl) q3) ?_;clear F fa;intro fa F
   refine F.mv ?_;clear F fa;intro fa F
   refine sq_call F rfl (by decide) rfl (R_callV rfl rfl Try.call79 (mpS (F.at rfl) (mpS (F.at rfl) mp0))) (dLamps_any x sl.1 ls hl la lc _ (HQ.out.ext E (by simp))) fun e w4 hR=>?_
   obtain ⟨rfl,e9⟩:=hR
   refine ⟨_,rfl,?_⟩;clear F fa;intro fa F
   replace q3:=(e9).keep0 q3
   replace E:=ext_same E (e9)
   clear e9
   refine F.as ?_;clear F fa;intro fa F
   refine wpList_nil ?_
   refine hK11 _ _ ?_
   clear hK11
   refine wp_seq_k fun K12 hK12=>?_
   refine wp_region_lit ?_
   refine F.mv ?_;clear F fa;intro fa F
   refine F.vl (R_neqD rfl (F.at rfl) (ev_c fa _)) ?_;clear F fa;intro fa F
   refine wpList_nil ?_
   refine hK12 _ _ ?_
   clear hK12
   refine cd_if F rfl (fun hc29=>?_) (fun hc29=>?_)
   ·skip
    refine wp_seq_k fun K13 hK13=>?_
    refine wp_region_lit ?_
    refine F.mv ?_;clear F fa;intro fa F
    refine F.vl (R_assign rfl (ev_c fa _)) ?_;clear F fa;intro fa F
    refine F.as ?_;clear F fa;intro fa F
    refine wpList_nil ?_
    refine hK13 _ _ ?_
    clear hK13
    refine wp_ret ?_
    (try simp only [Exit.inBlock,Exit.then,reduceIte])
    refine rt_v F (rs_2 F rfl rfl rfl) ?_
    exact ⟨none,0,by rw [mosV_bad (by rw [← her,hcor];exact hc29),← her,hcor];rfl,by rw [mosV_bad (by rw [← her,hcor];exact hc29)];exact rows_nilI _,E⟩
   ·skip
    have hl0 : lmpE x ls = 0:=Classical.not_not.1 hc29
    have hc0 : mosE x (S.map (·.2)) ls = 0:=her.symm.trans (hcor.trans hl0)
    have HV:=Lib.hid (chk_vok (x:=x) (he1.symm.trans (Classical.not_not.1 hc17)))
    obtain ⟨hS6,hrc⟩:=stf_okk (Classical.not_not.1 hc23)
    have HR:=Lib.hid hrc
    clear hrc
    have HL:=Lib.hid (lmp_okk hl0)
    obtain ⟨p,hpp⟩ : ∃ p,p = nrB x ls (S.map (·.2)):=⟨_,rfl⟩
    have hpr : RowKit.Hid (∀ i,i < 6 → p i i = true):=Lib.hid (fun i _=>by rw [hpp];exact nr_refl HV.out (tub_all HV.out HR.out) i)
    have hps : RowKit.Hid (∀ i,i < 6 → ∀ k,k < 6 → p i k = p k i):=Lib.hid (fun i _ k _=>by rw [hpp];exact nr_sym _ _ _ _ _)
    have hmo : mosR x ls (S.map (·.2)) = setList (bestK p S.length (2 ^ S.length)):=by rw [mosR,hpp,List.length_map]
    obtain ⟨N,hN⟩ : ∃ N,N = S.length:=⟨_,rfl⟩
    refine wp_skip ?_
    refine hK10 _ _ ?_
    clear hK10
    refine wp_seq_k fun K14 hK14=>?_
    refine wp_seq_k fun K15 hK15=>?_
    refine wp_region_lit ?_
    refine F.mv ?_;clear F fa;intro fa F
    refine F.vl (R_len rfl rfl (F.at rfl) Try.underlying22) ?_;clear F fa;intro fa F
    rw [show ((S.length : Nat) : Int) = ((N - 0 : Nat) : Int) by omega] at F
    refine F.as ?_;clear F fa;intro fa F
    refine wpList_nil ?_
    refine hK15 _ _ ?_
    clear hK15
    refine wp_block ?_
    have F0:=F.sub (.c 1 rfl (.c 2 rfl (.c 3 rfl .n)))
    refine lp_for F0 (N) (fun d Lv W=>Lv = [(11,.int .i64 ((N - d : Nat) : Int))] ∧ Ext [] w W ∧ W.heap[n3]? = some (.cells #[.int .i64 x.B,.slice x.da x.D.length x.dc,.slice x.la x.L.length x.lc,.int .i64 x.tol] 24 (0,0)) ∧ RowKit.Hid (∀ m,N - d < m → m ≤ N → ∀ l ∈ picL N m 0,togP p l = false)) ⟨_,⟨rfl,E,q3,(Lib.hid fun m h1 h2=>by omega)⟩,F.sub (.c 11 rfl (.c 1 rfl (.c 2 rfl (.c 3 rfl .n))))⟩ ?_
    clear F F0
    clear E q3
    rintro d _ fa w5 hi1 ⟨rfl,E,q3,h1⟩ F
    refine wp_seq_k fun K16 hK16=>?_
    refine wp_seq_k fun K17 hK17=>?_
    refine wp_region_lit ?_
    refine F.mv ?_;clear F fa;intro fa F
    refine F.vl (R_gtr rfl (F.at rfl) (ev_c fa _)) ?_;clear F fa;intro fa F
    refine wpList_nil ?_
    refine hK17 _ _ ?_
    clear hK17
    refine cd_if F rfl (fun hc34=>?_) (fun hc34=>?_)
    ·skip
     refine wp_skip ?_
     refine hK16 _ _ ?_
     clear hK16
     refine wp_seq_k fun K18 hK18=>?_
     refine wp_block ?_
     refine wp_seq_k fun K19 hK19=>?_
     refine wp_region_lit ?_
     refine F.mv ?_;clear F fa;intro fa F
     refine F.vl (R_len rfl rfl (F.at rfl) Try.underlying22) ?_;clear F fa;intro fa F
     rw [show ((S.length : Nat) : Int) = ((N : Nat) : Int) by omega] at F
     refine F.mv ?_;clear F fa;intro fa F
     refine sq_call F rfl (by decide) rfl (R_callV rfl rfl Try.call80 (mpS (ev_c fa _) (mpS (F.at rfl) (mpS (F.at rfl) mp0)))) (dPicks_any N (by omega) (N - d) (by omega) 0 (by omega) _) fun e w6 hR=>?_
     obtain ⟨P,pa,pc,rfl,hP,po,pf,e9⟩:=hR
     refine ⟨_,rfl,?_⟩;clear F fa;intro fa F
     replace q3:=(e9).keep0 q3
     replace E:=ext_same E (e9)
     clear e9
     have hpl:=lol_of_own po pf
     clear po pf
     have HPL:=Lib.hid hpl
     have HPS:=Lib.hid hpl.1
     obtain ⟨wM,hwM⟩ : ∃ wM,wM = w6:=⟨_,rfl⟩
     have EM : Ext [] wM w6:=by rw [hwM];exact Ext.refl _ _
     rw [← hwM] at HPL HPS
     clear hpl
     have hPl : P.length ≤ 100:=by rw [← List.length_map (f:=fun p : Value × List Int=>p.2),hP];exact (pic_bd N (by omega) (N - d) (by omega) 0 (by omega)).1
     refine F.as ?_;clear F fa;intro fa F
     refine wpList_nil ?_
     refine hK19 _ _ ?_
     clear hK19
     refine wp_seq_k fun K20 hK20=>?_
     refine wp_region_lit ?_
     refine F.vl (R_assign rfl (ev_c fa _)) ?_;clear F fa;intro fa F
     refine wpList_nil ?_
     refine hK20 _ _ ?_
     clear hK20
     refine wp_block ?_
     have F0:=F.sub (.c 1 rfl (.c 2 rfl (.c 3 rfl (.c 11 rfl (.c 12 rfl .n)))))
     refine lp_for F0 (P.length) (fun i Lv W=>Lv = [(13,.int .i64 ((i : Nat) : Int))] ∧ Ext [] w W ∧ Ext [] wM W ∧ W.heap[n3]? = some (.cells #[.int .i64 x.B,.slice x.da x.D.length x.dc,.slice x.la x.L.length x.lc,.int .i64 x.tol] 24 (0,0)) ∧ RowKit.Hid (∀ j,j < i → togP p ((picL N (N - d) 0).getD j []) = false)) ⟨_,⟨rfl,E,EM,q3,(Lib.hid fun j h=>by omega)⟩,F.sub (.c 13 rfl (.c 1 rfl (.c 2 rfl (.c 3 rfl (.c 11 rfl (.c 12 rfl .n))))))⟩ ?_
     clear F F0
     clear E EM q3
     rintro i _ fa w7 hi2 ⟨rfl,E,EM,q3,h2⟩ F
     refine wp_seq_k fun K21 hK21=>?_
     refine wp_seq_k fun K22 hK22=>?_
     refine wp_region_lit ?_
     refine F.mv ?_;clear F fa;intro fa F
     refine F.mv ?_;clear F fa;intro fa F
     refine F.vl (R_len rfl rfl (F.at rfl) Try.underlying22) ?_;clear F fa;intro fa F
     refine F.vl (R_lss rfl (F.at rfl) (F.at rfl)) ?_;clear F fa;intro fa F
     refine wpList_nil ?_
     refine hK22 _ _ ?_
     clear hK22
     refine cd_if F rfl (fun hc44=>?_) (fun hc44=>?_)
     ·skip
      refine wp_skip ?_
      refine hK21 _ _ ?_
      clear hK21
      refine wp_seq_k fun K23 hK23=>?_
      refine wp_block ?_
      refine wp_seq_k fun K24 hK24=>?_
      obtain ⟨ga,gc,hga,hgr⟩:=HPL.out.2 _ (getD_mem (.bool true,[]) (show i < P.length by omega))
      have hgk:=key_getD P (show i < P.length by omega)
      rw [hP] at hgk
      obtain ⟨g,hg⟩ : ∃ g,g = (P.getD i (.bool true,[])).2:=⟨_,rfl⟩
      rw [← hg] at hga hgr hgk
      have HG:=Lib.hid hgr
      clear hgr
      have hil : i < (picL N (N - d) 0).length:=by rw [← hP,List.length_map];omega
      obtain ⟨-,-,-,hgb⟩:=pic_set N (by omega) (N - d) (by omega) g (by rw [← hgk];exact getD_memL [] hil)
      have hgl : g.length ≤ 1000:=(by have:=(pic_bd N (by omega) (N - d) (by omega) 0 (by omega)).2 g (by rw [← hgk];exact getD_memL [] hil);omega)
      have HGB : RowKit.Hid (∀ q ∈ g,0 ≤ q ∧ q < ((S.length : Nat) : Int)):=Lib.hid (fun q hq=>by have:=List.all_eq_true.1 hgb q hq;simp only [Bool.and_eq_true,decide_eq_true_eq] at this;omega)
      refine region_x (Ext [] w7) none follows fun w8 hh eh=>?_
      have q3_:=q3
      replace q3:=keep_same hh q3
      have E_:=E
      have zEw8:=E.size
      replace E:=ext_same E eh
      have EM_:=EM
      have zEMw8:=EM.size
      replace EM:=ext_same EM eh
      have eT:=eh
      clear hh eh
      refine F.xr (i:=0) rfl (fun w' hS=>R_loadBlk rfl (F.at rfl) Try.underlying24 rfl (by kernel_rfl) (hS.keep q3_ (by simp))) (fun _=>eT) ?_;clear F fa;intro fa F
      refine F.x (i:=1) rfl (fun w'=>R_move rfl (F.at rfl)) (fun _=>eT) ?_;clear F fa;intro fa F
      refine F.x (i:=2) rfl (fun w'=>R_move rfl (F.at rfl)) (fun _=>eT) ?_;clear F fa;intro fa F
      refine F.x (i:=3) rfl (fun w'=>R_move rfl (F.at rfl)) (fun _=>eT) ?_;clear F fa;intro fa F
      obtain ⟨xb25,xo25,xa25,xr25⟩:=HPS.out i (by omega)
      refine F.x (i:=4) rfl (fun w'=>R_ixSlice (sz:=1) rfl ((F.at rfl).trans (xa25 _ _)) (F.at rfl) Try.underlying22 (by kernel_rfl) (by omega) (by omega)) (fun _=>eT) ?_;clear F fa;intro fa F
      refine F.xr (i:=5) rfl (fun w' hS=>R_load rfl (F.at rfl) Try.underlying25 rfl (xr25 _ (EM_.nil hS) 0 _ rfl)) (fun _=>eT) ?_;clear F fa;intro fa F
      rw [hga] at F
      refine F.x (i:=6) rfl (fun w'=>R_move rfl (F.at rfl)) (fun _=>eT) ?_;clear F fa;intro fa F
      have hto:=dTogether_ok x HV.out S HR.out g ls HGB.out hgl HL.out.2.1 hl a ga la c gc lc w8 (HX.out.ext E) (HA.out.ext E) (HG.out.ext EM (by simp)) (HQ.out.ext E (by simp))
      rw [show togB x ls (S.map (·.2)) g = togP p g by rw [hpp];rfl] at hto
      refine ax_only (i:=7) (by kernel_rfl) (op_call F rfl rfl (by decide) rfl (R_callV rfl rfl Try.call81 (mpS (F.at rfl) (mpS (F.at rfl) (mpS (F.at rfl) (mpS (F.at rfl) mp0))))) (hto) fun e w9 hR=>?_)
      obtain ⟨rfl,e9⟩:=hR
      refine ⟨_,rfl,?_⟩;clear F fa;intro fa F
      replace q3:=(e9).keep0 q3
      replace E:=ext_same E (e9)
      replace EM:=ext_same EM (e9)
      replace eT:=ext_same eT (e9)
      clear e9
      refine ⟨fun _=>eT,?_⟩
      clear hto
      refine ax_done (by kernel_rfl) ?_ _
      clear eT q3_ E_ EM_
      refine hK24 _ _ ?_
      clear hK24
      refine cd_b F rfl (fun hc54=>?_) (fun hc54=>?_)
      ·skip
       refine wp_seq_k fun K26 hK26=>?_
       have hyes : setList (bestK p N (2 ^ N)) = g:=by rw [← hgk];exact most_found hpr.out hps.out (by omega) (by omega) hil (by rw [hgk];exact hc54) h2.out h1.out
       refine wp_region_lit ?_
       refine F.mv ?_;clear F fa;intro fa F
       refine F.mv ?_;clear F fa;intro fa F
       obtain ⟨xb27,xo27,xa27,xr27⟩:=HPS.out i (by omega)
       refine F.vl (R_ixSlice (sz:=1) rfl ((F.at rfl).trans (xa27 _ _)) (F.at rfl) Try.underlying22 (by kernel_rfl) (by omega) (by omega)) ?_;clear F fa;intro fa F
       refine F.vl (R_load rfl (F.at rfl) Try.underlying25 rfl (xr27 _ EM 0 _ rfl)) ?_;clear F fa;intro fa F
       rw [hga] at F
       refine F.as ?_;clear F fa;intro fa F
       refine F.vl (R_assign rfl (ev_c fa _)) ?_;clear F fa;intro fa F
       refine wpList_nil ?_
       refine hK26 _ _ ?_
       clear hK26
       refine wp_ret ?_
       (try simp only [Exit.inBlock,Exit.then,reduceIte])
       refine rt_v F (rs_2 F rfl rfl rfl) ?_
       exact ⟨ga,gc,by rw [mosV_ok hc0,hmo,← hN,hyes],by rw [mosV_ok hc0,hmo,← hN,hyes];exact HG.out.ext EM (by simp),E⟩
      ·skip
       have hno : togP p ((picL N (N - d) 0).getD i []) = false:=by rw [hgk];simpa using hc54
       refine wp_skip ?_
       refine hK23 _ _ ?_
       clear hK23
       refine wp_region_lit ?_
       refine F.mv ?_;clear F fa;intro fa F
       refine F.vl (R_add rfl (F.at rfl) (ev_c fa _) (by omega) (by omega)) ?_;clear F fa;intro fa F
       refine F.as ?_;clear F fa;intro fa F
       refine wpList_nil ?_
       show _ ∧ _
       exact ⟨by omega,_,⟨rfl,E,EM,q3,(Lib.hid fun j h=>by rcases Nat.lt_succ_iff_lt_or_eq.1 h with h | rfl;(· exact h2.out j h);(· exact hno))⟩,F.sub (.c 13 rfl (.c 1 rfl (.c 2 rfl (.c 3 rfl (.c 11 rfl (.c 12 rfl .n))))))⟩
     ·skip
      refine wp_exit ?_
      have h3 : RowKit.Hid (∀ l ∈ picL N (N - d) 0,togP p l = false):=Lib.hid (fun l hl=>by obtain ⟨j,hj,rfl⟩:=List.getElem_of_mem hl;have:=h2.out j (by rw [← hP,List.length_map] at hj;omega);rw [List.getD_eq_getElem?_getD,List.getElem?_eq_getElem hj] at this;exact this)
      refine hK18 _ _ ?_
      clear hK18
      refine wp_region_lit ?_
      refine F.mv ?_;clear F fa;intro fa F
      refine F.vl (R_sub rfl (F.at rfl) (ev_c fa _) (by omega) (by omega)) ?_;clear F fa;intro fa F
      rw [show (((N - d : Nat) : Int) - 1) = ((N - (d + 1) : Nat) : Int) by omega] at F
      refine F.as ?_;clear F fa;intro fa F
      refine wpList_nil ?_
      show _ ∧ _
      exact ⟨by omega,_,⟨rfl,E,q3,(Lib.hid fun m g1 g2=>by by_cases e : m = N - d;(· subst e;exact h3.out);(· exact h1.out m (by omega) g2))⟩,F.sub (.c 11 rfl (.c 1 rfl (.c 2 rfl (.c 3 rfl .n))))⟩
    ·skip
     refine wp_exit ?_
     have hem : setList (bestK p N (2 ^ N)) = []:=most_none hpr.out hps.out (by omega) (fun m g1 g2=>h1.out m (by omega) g2)
     refine hK14 _ _ ?_
     clear hK14
     refine wp_seq_k fun K28 hK28=>?_
     refine wp_region_lit ?_
     refine F.vl (R_assign rfl (ev_c fa _)) ?_;clear F fa;intro fa F
     refine F.vl (R_assign rfl (ev_c fa _)) ?_;clear F fa;intro fa F
     refine wpList_nil ?_
     refine hK28 _ _ ?_
     clear hK28
     refine wp_ret ?_
     (try simp only [Exit.inBlock,Exit.then,reduceIte])
     refine rt_v F (rs_2 F rfl rfl rfl) ?_
     exact ⟨none,0,by rw [mosV_ok hc0,hmo,← hN,hem];rfl,by rw [mosV_ok hc0,hmo,← hN,hem];exact rows_nilI _,E⟩
theorem appendf_run {P : Program} {o : Oper} {w : World} {a : Act} {s x : Operand} {t : TypeId} (ho : o.op = .call { callee:=.builtin .append,args:=#[s,x],argTypes:=#[t,t] })
  (base : Nat) {e : TypeId} {size bytes : Nat} (ht : P.underlying t = some (.slice e)) (hi : (P.info? e).map (fun i=>(i.size,i.bytes,i.zero.map (·.cells.size))) = some (size,bytes,some size)) (hsz : 0 < size)
  {da : Option Addr} {n : Nat} {olds : List Value} (hs : a.eval s = .slice da n n) (hdst : SrcAt w size da n olds)
  {sa : Option Addr} {m c : Nat} {news : List Value} (hx : a.eval x = .slice sa m c) (hsrc : SrcAt w size sa m news) (hm : 0 < m)
  (hn : n + m ≤ 1000000) (hbytes : (n + m) * bytes ≤ 140737488355328) (hbase : base ≤ w.heap.size) :
  ∃ v' w',(execOp a.eval o).run P w = .ok (.value v') w' ∧ w'.ownsRow base e size v' (n + m) (olds ++ news) ∧ w.grownBy w' none:=by
 cases da with
 | none =>
  have h0:=hdst.nil rfl
  subst h0
  have hol : olds = []:=List.length_eq_zero_iff.1 (by rw [hdst.len];omega)
  subst hol
  exact appends_run ho base ht hi hsz hs (World.ownsRow_nil _ _ _ _) hx hsrc hn hbytes hbase
 | some b =>
  cases sa with
  | none=>have:=hsrc.nil rfl;omega
  | some a0 =>
   cases hq : P.info? e with
   | none=>simp [hq] at hi
   | some i =>
    simp only [hq,Option.map_some,Option.some.injEq,Prod.mk.injEq,Option.map_eq_some_iff] at hi
    obtain ⟨hi1,hi2,z,hz,hz2⟩:=hi
    obtain ⟨v',w',hr,h1,h2⟩:=run_append_arg_grows (P:=P) w t o.type e i z size bytes ht hq hz hi1 hi2 hz2 hsz b n n olds hdst.len (fun j u hj=>hdst.cells b rfl j u hj) a0 m c news hsrc.len (fun j u hj=>hsrc.cells a0 rfl j u hj) (by omega) (by simp only [maxLen];omega) hbytes
    refine ⟨v',w',?_,owns_lower h1 hbase,h2⟩
    unfold execOp
    simp only [ho,resolve,invoke,builtin,Sem.run_bind,Sem.run_pure,Result.andThen_ok,List.map_toArray,List.map_cons,List.map_nil,hs,hx,hr]
theorem srcAt_take {w : World} {a : Option Addr} {n c k : Nat} {xs : List Int} (h : IsRows w (.slice a n c) 1 (xs.map intRow)) (hk : k ≤ xs.length) : SrcAt w 1 a k (ivs (xs.take k)):=by
 have:=srcAt_of_rows (row:=intRow) (by have:=rows_takeN h (by rw [List.length_map];exact hk);rwa [← List.map_take] at this) (by decide) (fun _=>rfl) intRow_one
 rwa [← ivs_flat] at this
theorem srcAt_drop {w : World} {a : Option Addr} {n c k : Nat} {xs : List Int} (h : IsRows w (.slice a n c) 1 (xs.map intRow)) (hk : k ≤ xs.length) (hc : xs.length ≤ c) : SrcAt w 1 (subA a k c 1) (n - k) (ivs (xs.drop k)):=by
 have:=srcAt_of_rows (row:=intRow) (by have:=rows_dropN h (by rw [List.length_map];exact hk) (by rw [List.length_map];exact hc);rwa [← List.map_drop] at this) (by decide) (fun _=>rfl) intRow_one
 rwa [← ivs_flat] at this
theorem srcAt_ivs {w : World} {base n c : Nat} {a : Option Addr} {xs : List Int} (h : w.ownsRow base 3 1 (.slice a n c) n (ivs xs)) (hn : n = xs.length) : SrcAt w 1 a n (ivs xs):=by
 have:=srcAt_of_rows (row:=intRow) (rows_of_ivs h hn) (by decide) (fun _=>rfl) intRow_one
 rwa [← ivs_flat] at this
section
variable (c : Int → Int → Int)
def insP (l : List Int) (v : Int) : Nat → Nat
 | 0=>0
 | k + 1=>if c v (l.getD k 0) < 0 then insP l v k else k + 1
def insT (l : List Int) (v : Int) : List Int:=l.take (insP c l v l.length) ++ v :: l.drop (insP c l v l.length)
def insK : Nat → List Int
 | 0=>[]
 | i + 1=>insT c (insK i) ((i : Nat) : Int)
theorem insP_le (l : List Int) (v : Int) : ∀ k,insP c l v k ≤ k
 | 0=>Nat.le_refl _
 | k + 1=>by
  rw [insP]
  split
  ·exact Nat.le_trans (insP_le l v k) (by omega)
  ·omega
theorem insT_len (l : List Int) (v : Int) : (insT c l v).length = l.length + 1:=by
 have:=insP_le c l v l.length
 simp [insT];omega
theorem insK_len : ∀ i,(insK c i).length = i
 | 0=>rfl
 | i + 1=>by rw [insK,insT_len,insK_len i]
theorem insK_mem : ∀ i,∀ m ∈ insK c i,0 ≤ m ∧ m < ((i : Nat) : Int)
 | 0,m,h=>by simp [insK] at h
 | i + 1,m,h=>by
  rw [insK,insT] at h
  have key : m = ((i : Nat) : Int) ∨ m ∈ insK c i:=by
   rcases List.mem_append.1 h with h | h
   ·exact .inr (List.mem_of_mem_take h)
   ·rcases List.mem_cons.1 h with h | h
    ·exact .inl h
    ·exact .inr (List.mem_of_mem_drop h)
  rcases key with rfl | h
  ·omega
  ·have:=insK_mem i m h;omega
theorem getD_app {A B : List Int} {k : Nat} (h : k < A.length) : (A ++ B).getD k 0 = A.getD k 0:=by simp [List.getElem?_append_left h]
theorem bub_ins (A B : List Int) (v : Int) : ∀ j,j ≤ A.length → bubL c (A.take j ++ v :: (A.drop j ++ B)) j = A.take (insP c A v j) ++ v :: (A.drop (insP c A v j) ++ B)
 | 0,_=>by rw [bubL,insP]
 | j + 1,h=>by
  have hj : j < A.length:=by omega
  have e1 : (A.take (j + 1) ++ v :: (A.drop (j + 1) ++ B)).getD (j + 1) 0 = v:=by
   rw [List.getD_eq_getElem?_getD,List.getElem?_append_right (by rw [List.length_take];omega),List.length_take,Nat.min_eq_left h];simp
  have e2 : (A.take (j + 1) ++ v :: (A.drop (j + 1) ++ B)).getD j 0 = A.getD j 0:=by
   rw [getD_app (by rw [List.length_take];omega)]
   simp [List.getElem?_take]
  have e3 : swp (A.take (j + 1) ++ v :: (A.drop (j + 1) ++ B)) j = A.take j ++ v :: (A.drop j ++ B):=by
   have e4 : A.take (j + 1) = A.take j ++ [A.getD j 0]:=take_getD A 0 hj
   have e5 : A.drop j = A.getD j 0 :: A.drop (j + 1):=drop_getD A 0 hj
   have hl : (A.take j).length = j:=by rw [List.length_take];omega
   rw [swp,e1,e2,e4,e5]
   generalize A.getD j 0 = q
   generalize A.take j = T at hl
   subst hl
   rw [List.append_assoc,List.set_append_right _ _ (by omega),show T.length + 1 - T.length = 1 by omega]
   simp
  rw [bubL,e1,e2,insP]
  by_cases hc : c v (A.getD j 0) < 0
  ·rw [if_pos hc,if_pos hc,e3,bub_ins A B v j (by omega)]
  ·rw [if_neg hc,if_neg hc]
theorem nums_drop {n i : Nat} (h : i < n) : (nums n).drop i = ((i : Nat) : Int) :: (nums n).drop (i + 1):=by
 rw [drop_getD (nums n) 0 (by rw [nums_len];exact h)]
 congr 1
 simp [nums,h]
theorem srt_ins {n : Nat} : ∀ k,k < n → srtK c (nums n) k = insK c (k + 1) ++ (nums n).drop (k + 1)
 | 0,h=>by
  have:=nums_drop h
  rw [srtK,insK,insK,insT]
  simpa [insP] using this
 | k + 1,h=>by
  have hk:=insK_len c (k + 1)
  have:=bub_ins c (insK c (k + 1)) ((nums n).drop (k + 2)) ((k + 1 : Nat) : Int) (k + 1) (by omega)
  rw [List.take_of_length_le (by omega),List.drop_of_length_le (show (insK c (k + 1)).length ≤ k + 1 by omega),List.nil_append] at this
  rw [srtK,srt_ins k (by omega),nums_drop (show k + 1 < n by omega),this,show insK c (k + 1 + 1) = insT c (insK c (k + 1)) ((k + 1 : Nat) : Int) from rfl,insT,hk,List.append_assoc]
  rfl
theorem srtL_ins (n : Nat) : srtL c (nums n) = insK c n:=by
 rcases n with _ | n
 ·rfl
 ·rw [srtL,nums_len,srt_ins c (n + 1 - 1) (by omega),show n + 1 - 1 + 1 = n + 1 by omega,List.drop_of_length_le (by rw [nums_len];omega),List.append_nil]
end
def shaV (x : Vm) (n : Int) (S : List (List Int)) : List Int × Int:=if shaE x n S ≠ 0 then ([],shaE x n S) else (shaR x n.toNat S,0)
theorem shaV_bad {x : Vm} {n : Int} {S : List (List Int)} (h : shaE x n S ≠ 0) : shaV x n S = ([],shaE x n S):=if_pos h
theorem shaV_ok {x : Vm} {n : Int} {S : List (List Int)} (h : shaE x n S = 0) : shaV x n S = (shaR x n.toNat S,0):=if_neg (by simpa using h)
theorem ivs_app (a b : List Int) : ivs (a ++ b) = ivs a ++ ivs b:=by simp [ivs]
theorem cmpE_lt (a b : Int) : cmpE a b < 0 ↔ a < b:=by
 rw [cmpE]
 split
 ·simp [*]
 ·split <;> simp <;> omega
theorem shd_lt {x : Vm} (hv : VOk x) {S : List (Value × List Int)} {lp j k : Nat} (hj : j < S.length) (hk : k < S.length) (hs : ∀ p ∈ S,RcpOk x p.2) : shdE x (S.map (·.2)) lp ((j : Nat) : Int) ((k : Nat) : Int) < 0 ↔
  (S.getD k (.bool true,[])).2.sum * dotE (val (x.lamp lp)) (tnE x (val (S.getD j (.bool true,[])).2)) x.B.toNat < (S.getD j (.bool true,[])).2.sum * dotE (val (x.lamp lp)) (tnE x (val (S.getD k (.bool true,[])).2)) x.B.toNat:=by
 have hd:=hv.d4
 have h1 : prt (val (S.getD j (.bool true,[])).2) = (S.getD j (.bool true,[])).2.sum:=sumTo_list _ 4 (by have:=(hs _ (getD_mem (.bool true,[]) hj)).len;omega)
 have h2 : prt (val (S.getD k (.bool true,[])).2) = (S.getD k (.bool true,[])).2.sum:=sumTo_list _ 4 (by have:=(hs _ (getD_mem (.bool true,[]) hk)).len;omega)
 rw [shdE,cmpE_lt,Int.toNat_natCast,Int.toNat_natCast,key_getD S hj,key_getD S hk,h1,h2]
theorem insP_stop {c : Int → Int → Int} {l : List Int} {v : Int} {k : Nat} (h : k = 0 ∨ ¬ c v (l.getD (k - 1) 0) < 0) : insP c l v k = k:=by
 rcases k with _ | k
 ·rfl
 ·rw [insP,if_neg]
  simpa using h
theorem insP_go {c : Int → Int → Int} {l : List Int} {v : Int} {k : Nat} (h0 : 0 < k) (h : c v (l.getD (k - 1) 0) < 0) : insP c l v k = insP c l v (k - 1):=by
 rcases k with _ | k
 ·omega
 ·rw [insP,if_pos (by simpa using h)];simp
set_option maxRecDepth 100000 in
set_option maxHeartbeats 4000000 in
theorem dShades_any (x : Vm) (sd : SmallL x.D) (sl : SmallL x.L) (n : Int) (S : List (Value × List Int)) (hs : ∀ p ∈ S,p.2.length ≤ 1000) (hS : S.length ≤ 1000) (a : Option Addr) (c : Nat) (w : World) (h : x.At w) (hp : LolAt w a S) :
  Calls Try.prog 31 #[.agg #[.int .i64 x.B,.slice x.da x.D.length x.dc,.slice x.la x.L.length x.lc,.int .i64 x.tol],.int .i64 n,.slice a S.length c] w (RefPost (shaV x n (S.map (·.2))) w):=by
 have E : Ext [] w w:=Ext.refl _ _
 have HX:=Lib.hid h
 have HA:=Lib.hid hp
 have HAS:=Lib.hid hp.1
 clear h hp
 obtain ⟨e1,he1⟩ : ∃ e1,e1 = x.err:=⟨_,rfl⟩
 obtain ⟨er,her⟩ : ∃ er,er = shaE x n (S.map (·.2)):=⟨_,rfl⟩
 have hcor : er = if e1 ≠ 0 then e1 else if lampO x n ≠ 0 then lampO x n else stfE x (S.map (·.2)):=by
  rw [her,he1,shaE]
 have hsl1:=sl.1
 have hlo : lampO x n = if outB n 0 (((x.L.length : Nat) : Int) - 1) = true then 3 else 0:=rfl
 refine calls_has 72 Try.func31 rfl Try.ntmps31 (Nat.le_of_ble_eq_true rfl) ?_
 intro fa F
 refine wp_seq_k fun K1 hK1=>?_
 refine wp_region_lit ?_
 refine sq_new F rfl (by decide) rfl (R_box rfl (F.at rfl)) ?_;clear F fa;intro fa w1 F hw
 obtain ⟨n3,hn⟩ : ∃ n,n = w.heap.size:=⟨_,rfl⟩
 rw [← hn] at F
 have s3 : w.heap.size ≤ n3:=Nat.le_of_eq hn.symm
 have l3_E : w.heap.size ≤ n3:=by rw [hn];exact E.size
 replace E:=ext_alloc E hw
 have q3:=new_row hw hn
 clear hw hn
 refine F.vl (R_assign rfl (ev_c fa _)) ?_;clear F fa;intro fa F
 refine F.vl (R_assign rfl (ev_c fa _)) ?_;clear F fa;intro fa F
 refine wpList_nil ?_
 refine hK1 _ _ ?_
 clear hK1
 refine wp_seq_k fun K2 hK2=>?_
 refine wp_seq_k fun K3 hK3=>?_
 refine wp_region_lit ?_
 refine F.vl (R_loadBlk rfl (F.at rfl) Try.underlying24 rfl (by kernel_rfl) q3) ?_;clear F fa;intro fa F
 refine sq_call F rfl (by decide) rfl (R_callV rfl rfl Try.call63 (mpS (F.at rfl) mp0)) (dCheck_any x _ (HX.out.ext E) sd sl) fun e w2 hR=>?_
 obtain ⟨rfl,e9⟩:=hR
 refine ⟨_,rfl,?_⟩;clear F fa;intro fa F
 replace q3:=(e9).keep0 q3
 replace E:=ext_same E (e9)
 clear e9
 rw [show chkE x.B (x.D.map (·.2)) (x.L.map (·.2)) x.tol = e1 from he1.symm] at F
 refine F.as ?_;clear F fa;intro fa F
 refine wpList_nil ?_
 refine hK3 _ _ ?_
 clear hK3
 refine wp_seq_k fun K4 hK4=>?_
 refine wp_region_lit ?_
 refine F.mv ?_;clear F fa;intro fa F
 refine F.vl (R_neqD rfl (F.at rfl) (ev_c fa _)) ?_;clear F fa;intro fa F
 refine wpList_nil ?_
 refine hK4 _ _ ?_
 clear hK4
 refine cd_if F rfl (fun hc16=>?_) (fun hc16=>?_)
 ·skip
  rw [if_pos hc16] at hcor
  refine wp_seq_k fun K5 hK5=>?_
  refine wp_region_lit ?_
  refine F.mv ?_;clear F fa;intro fa F
  refine F.vl (R_assign rfl (ev_c fa _)) ?_;clear F fa;intro fa F
  refine F.as ?_;clear F fa;intro fa F
  refine wpList_nil ?_
  refine hK5 _ _ ?_
  clear hK5
  refine wp_ret ?_
  (try simp only [Exit.inBlock,Exit.then,reduceIte])
  refine rt_v F (rs_2 F rfl rfl rfl) ?_
  exact ⟨none,0,by rw [shaV_bad (by rw [← her,hcor];exact hc16),← her,hcor];rfl,by rw [shaV_bad (by rw [← her,hcor];exact hc16)];exact rows_nilI _,E⟩
 ·skip
  rw [if_neg hc16] at hcor
  refine wp_skip ?_
  refine hK2 _ _ ?_
  clear hK2
  refine wp_seq_k fun K6 hK6=>?_
  refine wp_seq_k fun K7 hK7=>?_
  refine wp_region_lit ?_
  refine F.mv ?_;clear F fa;intro fa F
  refine F.vl (R_field rfl (F.at rfl) Try.underlying24 rfl (n:=2) (sz:=1) rfl (by kernel_rfl) (by decide)) ?_;clear F fa;intro fa F
  refine F.vl (R_load rfl (F.at rfl) Try.underlying22 rfl ((cells_of_block q3 2).trans (getS (getS (get0))))) ?_;clear F fa;intro fa F
  refine F.vl (R_len rfl rfl (F.at rfl) Try.underlying22) ?_;clear F fa;intro fa F
  refine F.vl (R_sub rfl (F.at rfl) (ev_c fa _) (by omega) (by omega)) ?_;clear F fa;intro fa F
  refine sq_call F rfl (by decide) rfl (R_callV rfl rfl Try.call88 (mpS (F.at rfl) (mpS (ev_c fa _) (mpS (F.at rfl) mp0)))) (dInside_any n 0 (((x.L.length : Nat) : Int) - 1) _) fun e w3 hR=>?_
  obtain ⟨rfl,e9⟩:=hR
  refine ⟨_,rfl,?_⟩;clear F fa;intro fa F
  replace q3:=(e9).keep0 q3
  replace E:=ext_same E (e9)
  clear e9
  refine F.vl (R_not rfl (F.at rfl)) ?_;clear F fa;intro fa F
  refine wpList_nil ?_
  refine hK7 _ _ ?_
  clear hK7
  refine cd_b F rfl (fun hc24=>?_) (fun hc24=>?_)
  ·skip
   have hlo3 : lampO x n = 3:=by rw [hlo,if_pos (by simpa using hc24)]
   rw [hlo3,if_pos (by decide)] at hcor
   refine wp_seq_k fun K8 hK8=>?_
   refine wp_region_lit ?_
   refine F.vl (R_assign rfl (ev_c fa _)) ?_;clear F fa;intro fa F
   refine F.vl (R_assign rfl (ev_c fa _)) ?_;clear F fa;intro fa F
   refine wpList_nil ?_
   refine hK8 _ _ ?_
   clear hK8
   refine wp_ret ?_
   (try simp only [Exit.inBlock,Exit.then,reduceIte])
   refine rt_v F (rs_2 F rfl rfl rfl) ?_
   exact ⟨none,0,by rw [shaV_bad (by rw [← her,hcor];decide),← her,hcor];rfl,by rw [shaV_bad (by rw [← her,hcor];decide)];exact rows_nilI _,E⟩
  ·skip
   have hout : outB n 0 (((x.L.length : Nat) : Int) - 1) = false:=by simpa using hc24
   have hlo0 : lampO x n = 0:=by rw [hlo,hout];rfl
   rw [hlo0,if_neg (by decide)] at hcor
   obtain ⟨hn0,hn1⟩:=outB_no.1 hout
   refine wp_skip ?_
   refine hK6 _ _ ?_
   clear hK6
   refine wp_seq_k fun K9 hK9=>?_
   refine wp_seq_k fun K10 hK10=>?_
   refine wp_region_lit ?_
   refine F.vl (R_loadBlk rfl (F.at rfl) Try.underlying24 rfl (by kernel_rfl) q3) ?_;clear F fa;intro fa F
   refine F.mv ?_;clear F fa;intro fa F
   refine sq_call F rfl (by decide) rfl (R_callV rfl rfl Try.call78 (mpS (F.at rfl) (mpS (F.at rfl) mp0))) (dStuffs_any x sd.1 S hs hS a c _ (HA.out.ext E)) fun e w4 hR=>?_
   obtain ⟨rfl,e9⟩:=hR
   refine ⟨_,rfl,?_⟩;clear F fa;intro fa F
   replace q3:=(e9).keep0 q3
   replace E:=ext_same E (e9)
   clear e9
   refine F.as ?_;clear F fa;intro fa F
   refine wpList_nil ?_
   refine hK10 _ _ ?_
   clear hK10
   refine wp_seq_k fun K11 hK11=>?_
   refine wp_region_lit ?_
   refine F.mv ?_;clear F fa;intro fa F
   refine F.vl (R_neqD rfl (F.at rfl) (ev_c fa _)) ?_;clear F fa;intro fa F
   refine wpList_nil ?_
   refine hK11 _ _ ?_
   clear hK11
   refine cd_if F rfl (fun hc29=>?_) (fun hc29=>?_)
   ·skip
    refine wp_seq_k fun K12 hK12=>?_
    refine wp_region_lit ?_
    refine F.mv ?_;clear F fa;intro fa F
    refine F.vl (R_assign rfl (ev_c fa _)) ?_;clear F fa;intro fa F
    refine F.as ?_;clear F fa;intro fa F
    refine wpList_nil ?_
    refine hK12 _ _ ?_
    clear hK12
    refine wp_ret ?_
    (try simp only [Exit.inBlock,Exit.then,reduceIte])
    refine rt_v F (rs_2 F rfl rfl rfl) ?_
    exact ⟨none,0,by rw [shaV_bad (by rw [← her,hcor];exact hc29),← her,hcor];rfl,by rw [shaV_bad (by rw [← her,hcor];exact hc29)];exact rows_nilI _,E⟩
   ·skip
    have hl0 : stfE x (S.map (·.2)) = 0:=Classical.not_not.1 hc29
    have hc0 : shaE x n (S.map (·.2)) = 0:=her.symm.trans (hcor.trans hl0)
    have HV:=Lib.hid (chk_vok (x:=x) (he1.symm.trans (Classical.not_not.1 hc16)))
    obtain ⟨hS6,hrc⟩:=stf_okk hl0
    have HR:=Lib.hid hrc
    clear hrc
    obtain ⟨lp,rfl⟩:=Int.eq_ofNat_of_zero_le hn0
    have hlp : lp < x.L.length:=by omega
    obtain ⟨cf,hcf⟩ : ∃ cf,cf = shdE x (S.map (·.2)) lp:=⟨_,rfl⟩
    have hsh : shaR x lp (S.map (·.2)) = insK cf S.length:=by rw [shaR,← hcf,List.length_map,srtL_ins]
    refine wp_skip ?_
    refine hK9 _ _ ?_
    clear hK9
    refine wp_seq_k fun K13 hK13=>?_
    refine wp_region_lit ?_
    refine F.vl (R_assign rfl (ev_c fa _)) ?_;clear F fa;intro fa F
    refine wpList_nil ?_
    have oo : w4.ownsRow w.heap.size 3 1 (.slice none 0 0) 0 (ivs (insK cf 0)):=World.ownsRow_nil _ _ _ _
    refine hK13 _ _ ?_
    clear hK13
    refine wp_seq_k fun K14 hK14=>?_
    refine wp_seq_k fun K15 hK15=>?_
    refine wp_region_lit ?_
    refine F.vl (R_assign rfl (ev_c fa _)) ?_;clear F fa;intro fa F
    refine wpList_nil ?_
    refine hK15 _ _ ?_
    clear hK15
    refine wp_block ?_
    have F0:=F.sub (.c 1 rfl (.c 2 rfl (.c 3 rfl .n)))
    refine lp_for F0 (S.length) (fun i Lv W=>∃ va : Option Addr,∃ vc : Nat,Lv = [(10,.slice va i vc),(11,.int .i64 ((i : Nat) : Int))] ∧ Ext [] w W ∧ W.heap[n3]? = some (.cells #[.int .i64 x.B,.slice x.da x.D.length x.dc,.slice x.la x.L.length x.lc,.int .i64 x.tol] 24 (0,0)) ∧ W.ownsRow w.heap.size 3 1 (.slice va i vc) i (ivs (insK cf i))) ⟨_,⟨none,0,rfl,E,q3,oo⟩,F.sub (.c 10 rfl (.c 11 rfl (.c 1 rfl (.c 2 rfl (.c 3 rfl .n)))))⟩ ?_
    clear F F0
    clear E q3
    clear oo
    rintro i _ fa w5 hi1 ⟨va,vc,rfl,E,q3,oo⟩ F
    refine wp_seq_k fun K16 hK16=>?_
    refine wp_seq_k fun K17 hK17=>?_
    refine wp_region_lit ?_
    refine F.mv ?_;clear F fa;intro fa F
    refine F.mv ?_;clear F fa;intro fa F
    refine F.vl (R_len rfl rfl (F.at rfl) Try.underlying22) ?_;clear F fa;intro fa F
    refine F.vl (R_lss rfl (F.at rfl) (F.at rfl)) ?_;clear F fa;intro fa F
    refine wpList_nil ?_
    refine hK17 _ _ ?_
    clear hK17
    refine cd_if F rfl (fun hc34=>?_) (fun hc34=>?_)
    ·skip
     refine wp_skip ?_
     refine hK16 _ _ ?_
     clear hK16
     refine wp_seq_k fun K18 hK18=>?_
     refine wp_block ?_
     refine wp_seq_k fun K19 hK19=>?_
     refine wp_region_lit ?_
     refine F.mv ?_;clear F fa;intro fa F
     refine F.vl (R_len rfl rfl (F.at rfl) Try.underlying25) ?_;clear F fa;intro fa F
     refine F.as ?_;clear F fa;intro fa F
     refine wpList_nil ?_
     refine hK19 _ _ ?_
     clear hK19
     refine wp_seq_k fun K20 hK20=>?_
     refine wp_block ?_
     have F0:=F.sub (.c 1 rfl (.c 2 rfl (.c 3 rfl (.c 10 rfl (.c 11 rfl .n)))))
     refine lp_for F0 (i) (fun d Lv W=>Lv = [(12,.int .i64 ((i - d : Nat) : Int))] ∧ Ext [] w W ∧ W.heap[n3]? = some (.cells #[.int .i64 x.B,.slice x.da x.D.length x.dc,.slice x.la x.L.length x.lc,.int .i64 x.tol] 24 (0,0)) ∧ W.ownsRow w.heap.size 3 1 (.slice va i vc) i (ivs (insK cf i)) ∧ RowKit.Hid (insP cf (insK cf i) ((i : Nat) : Int) i = insP cf (insK cf i) ((i : Nat) : Int) (i - d))) ⟨_,⟨rfl,E,q3,oo,(Lib.hid rfl)⟩,F.sub (.c 12 rfl (.c 1 rfl (.c 2 rfl (.c 3 rfl (.c 10 rfl (.c 11 rfl .n))))))⟩ ?_
     clear F F0
     clear E q3 oo
     rintro d _ fa w6 hi2 ⟨rfl,E,q3,oo,h2⟩ F
     refine wp_seq_k fun K21 hK21=>?_
     refine wp_seq_k fun K22 hK22=>?_
     by_cases hz : i - d = 0
     ·skip
      refine region_x (Ext [] w6) none follows fun w7 hh eh=>?_
      have q3_:=q3
      replace q3:=keep_same hh q3
      have E_:=E
      have zEw7:=E.size
      replace E:=ext_same E eh
      replace oo:=owns_same hh oo
      have eT:=eh
      clear hh eh
      refine F.x (i:=0) rfl (fun w'=>R_move rfl (F.at rfl)) (fun _=>eT) ?_;clear F fa;intro fa F
      refine F.x (i:=1) rfl (fun w'=>R_gtrB (b:=false) rfl (F.at rfl) (ev_c fa _) (decide_eq_false ((by omega)))) (fun _=>eT) ?_;clear F fa;intro fa F
      refine F.x (i:=2) rfl (fun w'=>R_move rfl (F.at rfl)) (fun _=>eT) ?_;clear F fa;intro fa F
      refine ax_no (i:=3) F rfl rfl (by decide) (by kernel_rfl) (fun _ _ _ h=>h) (wantF F rfl rfl (by decide) rfl (by decide)) (fun _=>eT) ?_;clear F fa;intro fa F
      refine ax_no (i:=4) F rfl rfl (by decide) (by kernel_rfl) (fun _ _ _ h=>h) (wantF F rfl rfl (by decide) rfl (by decide)) (fun _=>eT) ?_;clear F fa;intro fa F
      refine ax_no (i:=5) F rfl rfl (by decide) (by kernel_rfl) (fun _ _ _ h=>h) (wantF F rfl rfl (by decide) rfl (by decide)) (fun _=>eT) ?_;clear F fa;intro fa F
      refine ax_no (i:=6) F rfl rfl (by decide) (by kernel_rfl) (fun _ _ _ h=>h) (wantF F rfl rfl (by decide) rfl (by decide)) (fun _=>eT) ?_;clear F fa;intro fa F
      refine ax_no (i:=7) F rfl rfl (by decide) (by kernel_rfl) (fun _ _ _ h=>h) (wantF F rfl rfl (by decide) rfl (by decide)) (fun _=>eT) ?_;clear F fa;intro fa F
      refine ax_no (i:=8) F rfl rfl (by decide) (by kernel_rfl) (fun _ _ _ h=>h) (wantF F rfl rfl (by decide) rfl (by decide)) (fun _=>eT) ?_;clear F fa;intro fa F
      refine ax_no (i:=9) F rfl rfl (by decide) (by kernel_rfl) (fun _ _ _ h=>h) (wantF F rfl rfl (by decide) rfl (by decide)) (fun _=>eT) ?_;clear F fa;intro fa F
      refine ax_no (i:=10) F rfl rfl (by decide) (by kernel_rfl) (fun _ _ _ h=>h) (wantF F rfl rfl (by decide) rfl (by decide)) (fun _=>eT) ?_;clear F fa;intro fa F
      refine ax_no (i:=11) F rfl rfl (by decide) (by kernel_rfl) (fun _ _ _ h=>h) (wantF F rfl rfl (by decide) rfl (by decide)) (fun _=>eT) ?_;clear F fa;intro fa F
      refine ax_no (i:=12) F rfl rfl (by decide) (by kernel_rfl) (fun _ _ _ h=>h) (wantF F rfl rfl (by decide) rfl (by decide)) (fun _=>eT) ?_;clear F fa;intro fa F
      refine ax_no (i:=13) F rfl rfl (by decide) (by kernel_rfl) (fun _ _ _ h=>h) (wantF F rfl rfl (by decide) rfl (by decide)) (fun _=>eT) ?_;clear F fa;intro fa F
      refine ax_no (i:=14) F rfl rfl (by decide) (by kernel_rfl) (fun _ _ _ h=>h) (wantF F rfl rfl (by decide) rfl (by decide)) (fun _=>eT) ?_;clear F fa;intro fa F
      refine ax_no (i:=15) F rfl rfl (by decide) (by kernel_rfl) (fun _ _ _ h=>h) (wantF F rfl rfl (by decide) rfl (by decide)) (fun _=>eT) ?_;clear F fa;intro fa F
      refine ax_no (i:=16) F rfl rfl (by decide) (by kernel_rfl) (fun _ _ _ h=>h) (wantF F rfl rfl (by decide) rfl (by decide)) (fun _=>eT) ?_;clear F fa;intro fa F
      refine ax_no (i:=17) F rfl rfl (by decide) (by kernel_rfl) (fun _ _ _ h=>h) (wantF F rfl rfl (by decide) rfl (by decide)) (fun _=>eT) ?_;clear F fa;intro fa F
      refine F.x (i:=18) rfl (fun w'=>R_pickF rfl (F.at rfl) (ev_c fa _)) (fun _=>eT) ?_;clear F fa;intro fa F
      refine ax_done (by kernel_rfl) ?_ _
      clear eT q3_ E_
      have hpos:=h2.out.trans (insP_stop (.inl hz))
      refine hK22 _ _ ?_
      clear hK22
      refine cd_F F rfl ?_
      refine wp_exit ?_
      refine hK20 _ _ ?_
      clear hK20
      obtain ⟨k,hk⟩ : ∃ k,k = i - d:=⟨_,rfl⟩
      rw [← hk] at hpos F
      have hki : k ≤ i:=(by omega)
      have hcap:=own_capN oo
      have hil2:=insK_len cf i
      have HOR:=Lib.hid (rows_of_ivs oo hil2.symm)
      obtain ⟨wO,hwO⟩ : ∃ wO,wO = w7:=⟨_,rfl⟩
      have EO : Ext [] wO w7:=(by rw [hwO];exact Ext.refl _ _)
      rw [← hwO] at HOR
      clear oo
      have hzE:=E.size
      refine region_x (Ext [] w7) (some 10) follows fun w8 hh eh=>?_
      have q3_:=q3
      replace q3:=keep_same hh q3
      have E_:=E
      have zEw8:=E.size
      replace E:=ext_same E eh
      have EO_:=EO
      have zEOw8:=EO.size
      replace EO:=ext_same EO eh
      have eT:=eh
      clear hh eh
      refine F.x (i:=0) rfl (fun w'=>R_move rfl (F.at rfl)) (fun _=>eT) ?_;clear F fa;intro fa F
      refine F.x (i:=1) rfl (fun w'=>R_move rfl (F.at rfl)) (fun _=>eT) ?_;clear F fa;intro fa F
      refine F.x (i:=2) rfl (fun w'=>R_move rfl (F.at rfl)) (fun _=>eT) ?_;clear F fa;intro fa F
      refine F.x (i:=3) rfl (fun w'=>(R_slice3 (size:=1) rfl (F.at rfl) (F.at rfl) (F.at rfl) Try.underlying25 (by kernel_rfl) (Nat.le_refl _) (by omega))) (fun _=>eT) ?_;clear F fa;intro fa F
      refine F.x (i:=4) rfl (fun w'=>R_move rfl (F.at rfl)) (fun _=>eT) ?_;clear F fa;intro fa F
      refine F.x (i:=6) rfl (fun w'=>R_move rfl (F.at rfl)) (fun _=>eT) ?_;clear F fa;intro fa F
      refine F.x (i:=7) rfl (fun w'=>R_move rfl (F.at rfl)) (fun _=>eT) ?_;clear F fa;intro fa F
      refine F.x (i:=8) rfl (fun w'=>(R_sliceL (size:=1) (m:=k) rfl (F.at rfl) (F.at rfl) Try.underlying25 (by kernel_rfl) (by omega))) (fun _=>eT) ?_;clear F fa;intro fa F
      obtain ⟨B5,hB5⟩ : ∃ B5,B5 = w8.heap.size:=⟨_,rfl⟩
      have hz1:=E.size
      have hz2:=EO.size
      have hz3:=eT.size
      rw [← hB5] at hz1 hz2 hz3
      refine ax_only (i:=5) (by kernel_rfl) (op_new F rfl rfl (by decide) rfl (R_buildSliceV rfl (prS (F.at rfl) pr0) Try.underlying25 (size:=1) (by kernel_rfl) (by decide) (by decide) Try.zeroValue3 (cells:=#[.int .i64 ((i : Nat) : Int)]) (by kernel_rfl)) ?_);clear F fa;intro fa w9 F hw
      obtain ⟨n65,hn⟩ : ∃ n,n = w8.heap.size:=⟨_,rfl⟩
      rw [← hn] at F
      have s65 : w8.heap.size ≤ n65:=Nat.le_of_eq hn.symm
      have l65_E : w.heap.size ≤ n65:=by rw [hn];exact E.size
      have l65_EO : wO.heap.size ≤ n65:=by rw [hn];exact EO.size
      have lT65 : w7.heap.size ≤ n65:=by rw [hn];exact eT.size
      have m65_3 : n3 < n65:=by rw [hn];exact blk_lt q3
      replace q3:=keep_alloc hw q3
      replace E:=ext_alloc E hw
      replace EO:=ext_alloc EO hw
      replace eT:=ext_alloc eT hw
      have q65:=new_block hw hn
      clear hw hn
      refine ⟨fun _=>eT,?_⟩
      have oi:=owns_lower (base':=B5) (own_of_block q65 (n:=1) (size:=1) rfl (by decide)) (show B5 ≤ n65 by omega)
      have hz65:=(oi.lt n65 rfl).2
      have hz66:=(oi.lt n65 rfl).1
      refine ax_only (i:=9) (by kernel_rfl) (op_some F rfl rfl (by decide) rfl (appends_run rfl (B5) (e:=3) (size:=1) (bytes:=8) Try.underlying25 (by kernel_rfl) (by decide) (F.at rfl) oi (F.at rfl) (srcAt_drop (HOR.out.ext EO (by simp)) (by omega) (by omega)) (by omega) (by omega) (by omega)) ?_);clear F fa;rintro fa v' w10 F ⟨hown',hg⟩
      obtain ⟨va69,vc69,rfl⟩:=owns_slice hown'
      replace q3:=keep_type oi hg q3 (by decide)
      replace E:=ext_appendX E oi hg (by omega)
      replace EO:=ext_appendX EO oi hg (by omega)
      replace eT:=ext_appendX eT oi hg (by omega)
      replace oi:=hown'
      clear hg
      refine ⟨fun _=>eT,?_⟩
      rw [show [Value.int .i64 ((i : Nat) : Int)] ++ ivs ((insK cf i).drop k) = ivs (((i : Nat) : Int) :: (insK cf i).drop k) from rfl] at oi
      have hzE10:=E.size
      have hsl : 1 + (i - k) = (((i : Nat) : Int) :: (insK cf i).drop k).length:=(by rw [List.length_cons,List.length_drop,hil2];omega)
      refine ax_only (i:=10) (by kernel_rfl) (op_some F rfl rfl (by decide) rfl (appendf_run rfl (w.heap.size) (e:=3) (size:=1) (bytes:=8) Try.underlying25 (by kernel_rfl) (by decide) (F.at rfl) (srcAt_take (HOR.out.ext EO (by simp)) (by omega)) (F.at rfl) (srcAt_ivs oi hsl) (by omega) (by omega) (by omega) (by omega)) ?_);clear F fa;rintro fa v' w11 F ⟨oo2,hg⟩
      obtain ⟨va70,vc70,rfl⟩:=owns_slice oo2
      replace q3:=keep_none hg q3
      replace oi:=owns_none hg oi
      replace E:=ext_none E hg
      replace EO:=ext_none EO hg
      clear hg
      refine ⟨gone (by kernel_rfl),?_⟩
      rw [← ivs_app,show (insK cf i).take k ++ ((i : Nat) : Int) :: (insK cf i).drop k = insK cf (i + 1) by rw [insK,insT,hil2,hpos],show k + (1 + (i - k)) = i + 1 by omega] at oo2
      rw [show k + (1 + (i - k)) = i + 1 by omega] at F
      clear oi
      refine F.x (i:=11) rfl (fun w'=>R_assign rfl (F.at rfl)) (gone (by kernel_rfl)) ?_;clear F fa;intro fa F
      refine ax_done (by kernel_rfl) ?_ _
      clear eT q3_ E_ EO_
      refine hK18 _ _ ?_
      clear hK18
      refine wp_region_lit ?_
      refine F.mv ?_;clear F fa;intro fa F
      refine F.vl (R_add rfl (F.at rfl) (ev_c fa _) (by omega) (by omega)) ?_;clear F fa;intro fa F
      refine F.as ?_;clear F fa;intro fa F
      refine wpList_nil ?_
      show _ ∧ _
      exact ⟨by omega,_,⟨_,_,rfl,E,q3,oo2⟩,F.sub (.c 10 rfl (.c 11 rfl (.c 1 rfl (.c 2 rfl (.c 3 rfl .n)))))⟩
     ·skip
      have HO:=Lib.hid (slAt_of_ivs oo (insK_len cf i).symm [] (by simp))
      have EO : Ext [] w6 w6:=Ext.refl _ _
      have hil:=insK_len cf i
      obtain ⟨o,ho,hoi⟩ : ∃ o : Nat,(insK cf i).getD (i - d - 1) 0 = ((o : Nat) : Int) ∧ o < i:=(by obtain ⟨h1,h2⟩:=insK_mem cf i _ (getD_mem 0 (show i - d - 1 < (insK cf i).length by omega));exact ⟨((insK cf i).getD (i - d - 1) 0).toNat,by omega,by omega⟩)
      obtain ⟨ta,tc,hta,htr⟩:=HA.out.2 _ (getD_mem (.bool true,[]) (show i < S.length by omega))
      obtain ⟨ua,uc,hua,hur⟩:=HA.out.2 _ (getD_mem (.bool true,[]) (show o < S.length by omega))
      have hrt:=HR.out _ (getD_mem (.bool true,[]) (show i < S.length by omega))
      have hru:=HR.out _ (getD_mem (.bool true,[]) (show o < S.length by omega))
      have hsd:=shd_lt HV.out (lp:=lp) (show i < S.length by omega) (show o < S.length by omega) HR.out
      rw [← hcf] at hsd
      obtain ⟨t,ht⟩ : ∃ t,t = (S.getD i (.bool true,[])).2:=⟨_,rfl⟩
      rw [← ht] at hta htr hrt hsd
      obtain ⟨u,hu⟩ : ∃ u,u = (S.getD o (.bool true,[])).2:=⟨_,rfl⟩
      rw [← hu] at hua hur hru hsd
      have HTR:=Lib.hid htr
      have HUR:=Lib.hid hur
      have HT:=Lib.hid hrt
      have HU:=Lib.hid hru
      clear htr hur hrt hru
      refine region_x (Ext [] w6) none follows fun w12 hh eh=>?_
      have q3_:=q3
      replace q3:=keep_same hh q3
      have E_:=E
      have zEw12:=E.size
      replace E:=ext_same E eh
      have EO_:=EO
      have zEOw12:=EO.size
      replace EO:=ext_same EO eh
      replace oo:=owns_same hh oo
      have eT:=eh
      clear hh eh
      refine F.x (i:=0) rfl (fun w'=>R_move rfl (F.at rfl)) (fun _=>eT) ?_;clear F fa;intro fa F
      refine F.x (i:=1) rfl (fun w'=>R_gtrB (b:=true) rfl (F.at rfl) (ev_c fa _) (decide_eq_true ((by omega)))) (fun _=>eT) ?_;clear F fa;intro fa F
      refine F.x (i:=2) rfl (fun w'=>R_move rfl (F.at rfl)) (fun _=>eT) ?_;clear F fa;intro fa F
      refine F.xr (i:=3) rfl (fun w' hS=>R_loadBlk rfl (F.at rfl) Try.underlying24 rfl (by kernel_rfl) (hS.keep q3_ (by simp))) (fun _=>eT) ?_ (hw:=(wantT F rfl rfl (by decide) rfl));clear F fa;intro fa F
      refine F.x (i:=4) rfl (fun w'=>R_move rfl (F.at rfl)) (fun _=>eT) ?_ (hw:=(wantT F rfl rfl (by decide) rfl));clear F fa;intro fa F
      refine F.x (i:=5) rfl (fun w'=>R_move rfl (F.at rfl)) (fun _=>eT) ?_ (hw:=(wantT F rfl rfl (by decide) rfl));clear F fa;intro fa F
      refine F.x (i:=6) rfl (fun w'=>R_move rfl (F.at rfl)) (fun _=>eT) ?_ (hw:=(wantT F rfl rfl (by decide) rfl));clear F fa;intro fa F
      obtain ⟨xb23,xo23,xa23,xr23⟩:=HAS.out i (by omega)
      refine F.x (i:=7) rfl (fun w'=>R_ixSlice (sz:=1) rfl ((F.at rfl).trans (xa23 _ _)) (F.at rfl) Try.underlying22 (by kernel_rfl) (by omega) (by omega)) (fun _=>eT) ?_ (hw:=(wantT F rfl rfl (by decide) rfl));clear F fa;intro fa F
      refine F.xr (i:=8) rfl (fun w' hS=>R_load rfl (F.at rfl) Try.underlying25 rfl (xr23 _ (E_.nil hS) 0 _ rfl)) (fun _=>eT) ?_ (hw:=(wantT F rfl rfl (by decide) rfl));clear F fa;intro fa F
      rw [hta] at F
      refine F.x (i:=9) rfl (fun w'=>R_move rfl (F.at rfl)) (fun _=>eT) ?_ (hw:=(wantT F rfl rfl (by decide) rfl));clear F fa;intro fa F
      refine F.x (i:=10) rfl (fun w'=>R_move rfl (F.at rfl)) (fun _=>eT) ?_ (hw:=(wantT F rfl rfl (by decide) rfl));clear F fa;intro fa F
      refine F.x (i:=11) rfl (fun w'=>R_move rfl (F.at rfl)) (fun _=>eT) ?_ (hw:=(wantT F rfl rfl (by decide) rfl));clear F fa;intro fa F
      refine F.x (i:=12) rfl (fun w'=>R_sub rfl (F.at rfl) (ev_c fa _) (by omega) (by omega)) (fun _=>eT) ?_ (hw:=(wantT F rfl rfl (by decide) rfl));clear F fa;intro fa F
      rw [show (((i - d : Nat) : Int) - 1) = ((i - d - 1 : Nat) : Int) by omega] at F
      obtain ⟨xb24,xo24,xa24,xr24⟩:=HO.out (i - d - 1) (by omega)
      refine F.x (i:=13) rfl (fun w'=>R_ixSlice (sz:=1) rfl ((F.at rfl).trans (xa24 _ _)) (F.at rfl) Try.underlying25 (by kernel_rfl) (by omega) (by omega)) (fun _=>eT) ?_ (hw:=(wantT F rfl rfl (by decide) rfl));clear F fa;intro fa F
      refine F.xr (i:=14) rfl (fun w' hS=>R_load rfl (F.at rfl) Try.underlying3 rfl (xr24 _ (EO_.nil hS) 0 _ rfl)) (fun _=>eT) ?_ (hw:=(wantT F rfl rfl (by decide) rfl));clear F fa;intro fa F
      rw [ho] at F
      obtain ⟨xb25,xo25,xa25,xr25⟩:=HAS.out o (by omega)
      refine F.x (i:=15) rfl (fun w'=>R_ixSlice (sz:=1) rfl ((F.at rfl).trans (xa25 _ _)) (F.at rfl) Try.underlying22 (by kernel_rfl) (by omega) (by omega)) (fun _=>eT) ?_ (hw:=(wantT F rfl rfl (by decide) rfl));clear F fa;intro fa F
      refine F.xr (i:=16) rfl (fun w' hS=>R_load rfl (F.at rfl) Try.underlying25 rfl (xr25 _ (E_.nil hS) 0 _ rfl)) (fun _=>eT) ?_ (hw:=(wantT F rfl rfl (by decide) rfl));clear F fa;intro fa F
      rw [hua] at F
      refine ax_only (i:=17) (by kernel_rfl) (op_call F rfl rfl (by decide) (wantT F rfl rfl (by decide) rfl) (R_callV rfl rfl Try.call89 (mpS (F.at rfl) (mpS (F.at rfl) (mpS (F.at rfl) (mpS (F.at rfl) mp0))))) (dLighter_ok x HV.out lp hlp t u HT.out HU.out ta ua tc uc _ (HX.out.ext E) (HTR.out.ext E (by simp)) (HUR.out.ext E (by simp))) fun e w13 hR=>?_)
      obtain ⟨rfl,e9⟩:=hR
      refine ⟨_,rfl,?_⟩;clear F fa;intro fa F
      replace oo:=owns_ext oo (e9) (by simp)
      replace q3:=(e9).keep0 q3
      replace E:=ext_same E (e9)
      replace EO:=ext_same EO (e9)
      replace eT:=ext_same eT (e9)
      clear e9
      refine ⟨fun _=>eT,?_⟩
      refine F.x (i:=18) rfl (fun w'=>R_pickT rfl (F.at rfl) (F.at rfl)) (fun _=>eT) ?_;clear F fa;intro fa F
      refine ax_done (by kernel_rfl) ?_ _
      clear eT q3_ E_ EO_
      refine hK22 _ _ ?_
      clear hK22
      refine cd_if F rfl (fun hc57=>?_) (fun hc57=>?_)
      ·skip
       have hgo : insP cf (insK cf i) ((i : Nat) : Int) (i - d) = insP cf (insK cf i) ((i : Nat) : Int) (i - (d + 1)):=by rw [insP_go (by omega) (by rw [ho];exact hsd.2 hc57)];rfl
       refine wp_skip ?_
       refine hK21 _ _ ?_
       clear hK21
       refine wp_block ?_
       refine wp_region_lit ?_
       refine F.mv ?_;clear F fa;intro fa F
       refine F.vl (R_sub rfl (F.at rfl) (ev_c fa _) (by omega) (by omega)) ?_;clear F fa;intro fa F
       rw [show (((i - d : Nat) : Int) - 1) = ((i - (d + 1) : Nat) : Int) by omega] at F
       refine F.as ?_;clear F fa;intro fa F
       refine wpList_nil ?_
       show _ ∧ _
       exact ⟨by omega,_,⟨rfl,E,q3,oo,(Lib.hid (h2.out.trans hgo))⟩,F.sub (.c 12 rfl (.c 1 rfl (.c 2 rfl (.c 3 rfl (.c 10 rfl (.c 11 rfl .n))))))⟩
      ·skip
       have hpos:=h2.out.trans (insP_stop (.inr (fun h=>hc57 (hsd.1 (by rwa [ho] at h)))))
       refine wp_exit ?_
       refine hK20 _ _ ?_
       clear hK20
       obtain ⟨k,hk⟩ : ∃ k,k = i - d:=⟨_,rfl⟩
       rw [← hk] at hpos F
       have hki : k ≤ i:=(by omega)
       have hcap:=own_capN oo
       have hil2:=insK_len cf i
       have HOR:=Lib.hid (rows_of_ivs oo hil2.symm)
       obtain ⟨wO,hwO⟩ : ∃ wO,wO = w13:=⟨_,rfl⟩
       have EO : Ext [] wO w13:=(by rw [hwO];exact Ext.refl _ _)
       rw [← hwO] at HOR
       clear oo
       have hzE:=E.size
       refine region_x (Ext [] w13) (some 10) follows fun w14 hh eh=>?_
       have q3_:=q3
       replace q3:=keep_same hh q3
       have E_:=E
       have zEw14:=E.size
       replace E:=ext_same E eh
       have EO_:=EO
       have zEOw14:=EO.size
       replace EO:=ext_same EO eh
       have eT:=eh
       clear hh eh
       refine F.x (i:=0) rfl (fun w'=>R_move rfl (F.at rfl)) (fun _=>eT) ?_;clear F fa;intro fa F
       refine F.x (i:=1) rfl (fun w'=>R_move rfl (F.at rfl)) (fun _=>eT) ?_;clear F fa;intro fa F
       refine F.x (i:=2) rfl (fun w'=>R_move rfl (F.at rfl)) (fun _=>eT) ?_;clear F fa;intro fa F
       refine F.x (i:=3) rfl (fun w'=>(R_slice3 (size:=1) rfl (F.at rfl) (F.at rfl) (F.at rfl) Try.underlying25 (by kernel_rfl) (Nat.le_refl _) (by omega))) (fun _=>eT) ?_;clear F fa;intro fa F
       refine F.x (i:=4) rfl (fun w'=>R_move rfl (F.at rfl)) (fun _=>eT) ?_;clear F fa;intro fa F
       refine F.x (i:=6) rfl (fun w'=>R_move rfl (F.at rfl)) (fun _=>eT) ?_;clear F fa;intro fa F
       refine F.x (i:=7) rfl (fun w'=>R_move rfl (F.at rfl)) (fun _=>eT) ?_;clear F fa;intro fa F
       refine F.x (i:=8) rfl (fun w'=>(R_sliceL (size:=1) (m:=k) rfl (F.at rfl) (F.at rfl) Try.underlying25 (by kernel_rfl) (by omega))) (fun _=>eT) ?_;clear F fa;intro fa F
       obtain ⟨B5,hB5⟩ : ∃ B5,B5 = w14.heap.size:=⟨_,rfl⟩
       have hz1:=E.size
       have hz2:=EO.size
       have hz3:=eT.size
       rw [← hB5] at hz1 hz2 hz3
       refine ax_only (i:=5) (by kernel_rfl) (op_new F rfl rfl (by decide) rfl (R_buildSliceV rfl (prS (F.at rfl) pr0) Try.underlying25 (size:=1) (by kernel_rfl) (by decide) (by decide) Try.zeroValue3 (cells:=#[.int .i64 ((i : Nat) : Int)]) (by kernel_rfl)) ?_);clear F fa;intro fa w15 F hw
       obtain ⟨n65,hn⟩ : ∃ n,n = w14.heap.size:=⟨_,rfl⟩
       rw [← hn] at F
       have s65 : w14.heap.size ≤ n65:=Nat.le_of_eq hn.symm
       have l65_E : w.heap.size ≤ n65:=by rw [hn];exact E.size
       have l65_EO : wO.heap.size ≤ n65:=by rw [hn];exact EO.size
       have lT65 : w13.heap.size ≤ n65:=by rw [hn];exact eT.size
       have m65_3 : n3 < n65:=by rw [hn];exact blk_lt q3
       replace q3:=keep_alloc hw q3
       replace E:=ext_alloc E hw
       replace EO:=ext_alloc EO hw
       replace eT:=ext_alloc eT hw
       have q65:=new_block hw hn
       clear hw hn
       refine ⟨fun _=>eT,?_⟩
       have oi:=owns_lower (base':=B5) (own_of_block q65 (n:=1) (size:=1) rfl (by decide)) (show B5 ≤ n65 by omega)
       have hz65:=(oi.lt n65 rfl).2
       have hz66:=(oi.lt n65 rfl).1
       refine ax_only (i:=9) (by kernel_rfl) (op_some F rfl rfl (by decide) rfl (appends_run rfl (B5) (e:=3) (size:=1) (bytes:=8) Try.underlying25 (by kernel_rfl) (by decide) (F.at rfl) oi (F.at rfl) (srcAt_drop (HOR.out.ext EO (by simp)) (by omega) (by omega)) (by omega) (by omega) (by omega)) ?_);clear F fa;rintro fa v' w16 F ⟨hown',hg⟩
       obtain ⟨va69,vc69,rfl⟩:=owns_slice hown'
       replace q3:=keep_type oi hg q3 (by decide)
       replace E:=ext_appendX E oi hg (by omega)
       replace EO:=ext_appendX EO oi hg (by omega)
       replace eT:=ext_appendX eT oi hg (by omega)
       replace oi:=hown'
       clear hg
       refine ⟨fun _=>eT,?_⟩
       rw [show [Value.int .i64 ((i : Nat) : Int)] ++ ivs ((insK cf i).drop k) = ivs (((i : Nat) : Int) :: (insK cf i).drop k) from rfl] at oi
       have hzE10:=E.size
       have hsl : 1 + (i - k) = (((i : Nat) : Int) :: (insK cf i).drop k).length:=(by rw [List.length_cons,List.length_drop,hil2];omega)
       refine ax_only (i:=10) (by kernel_rfl) (op_some F rfl rfl (by decide) rfl (appendf_run rfl (w.heap.size) (e:=3) (size:=1) (bytes:=8) Try.underlying25 (by kernel_rfl) (by decide) (F.at rfl) (srcAt_take (HOR.out.ext EO (by simp)) (by omega)) (F.at rfl) (srcAt_ivs oi hsl) (by omega) (by omega) (by omega) (by omega)) ?_);clear F fa;rintro fa v' w17 F ⟨oo2,hg⟩
       obtain ⟨va70,vc70,rfl⟩:=owns_slice oo2
       replace q3:=keep_none hg q3
       replace oi:=owns_none hg oi
       replace E:=ext_none E hg
       replace EO:=ext_none EO hg
       clear hg
       refine ⟨gone (by kernel_rfl),?_⟩
       rw [← ivs_app,show (insK cf i).take k ++ ((i : Nat) : Int) :: (insK cf i).drop k = insK cf (i + 1) by rw [insK,insT,hil2,hpos],show k + (1 + (i - k)) = i + 1 by omega] at oo2
       rw [show k + (1 + (i - k)) = i + 1 by omega] at F
       clear oi
       refine F.x (i:=11) rfl (fun w'=>R_assign rfl (F.at rfl)) (gone (by kernel_rfl)) ?_;clear F fa;intro fa F
       refine ax_done (by kernel_rfl) ?_ _
       clear eT q3_ E_ EO_
       refine hK18 _ _ ?_
       clear hK18
       refine wp_region_lit ?_
       refine F.mv ?_;clear F fa;intro fa F
       refine F.vl (R_add rfl (F.at rfl) (ev_c fa _) (by omega) (by omega)) ?_;clear F fa;intro fa F
       refine F.as ?_;clear F fa;intro fa F
       refine wpList_nil ?_
       show _ ∧ _
       exact ⟨by omega,_,⟨_,_,rfl,E,q3,oo2⟩,F.sub (.c 10 rfl (.c 11 rfl (.c 1 rfl (.c 2 rfl (.c 3 rfl .n)))))⟩
    ·skip
     refine wp_exit ?_
     rw [show i = S.length by omega] at oo F
     refine hK14 _ _ ?_
     clear hK14
     refine wp_seq_k fun K26 hK26=>?_
     refine wp_region_lit ?_
     refine F.mv ?_;clear F fa;intro fa F
     refine F.as ?_;clear F fa;intro fa F
     refine F.vl (R_assign rfl (ev_c fa _)) ?_;clear F fa;intro fa F
     refine wpList_nil ?_
     refine hK26 _ _ ?_
     clear hK26
     refine wp_ret ?_
     (try simp only [Exit.inBlock,Exit.then,reduceIte])
     refine rt_v F (rs_2 F rfl rfl rfl) ?_
     exact ⟨va,vc,by rw [shaV_ok hc0,Int.toNat_natCast,hsh];simp only [insK_len],by rw [shaV_ok hc0,Int.toNat_natCast,hsh];simp only [insK_len];exact rows_of_ivs oo (insK_len cf _).symm,E⟩
end Go.Proofs.Ytdjeecgddbjbeaa
