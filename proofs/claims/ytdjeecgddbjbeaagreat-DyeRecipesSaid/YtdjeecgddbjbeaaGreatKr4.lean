/- Parts of a proof: Dck2, Dvt, Dra, Dtb, Dvb. No conditions. -/
import Derived.Test.YtdjeecgddbjbeaaGreatKr3
set_option linter.unusedVariables false
set_option linter.unusedSimpArgs false
namespace Go.Proofs.YtdjeecgddbjbeaaGreat
open Go.RowKit
theorem key_getD (M : List (Value × List Int)) {i : Nat} (h : i < M.length) : (M.map (·.2)).getD i [] = (M.getD i (.bool true,[])).2:=getD_key (fun p : Value × List Int=>p.2) (.bool true,[]) M h
section
variable {B tol : Int} {ds ls : List (List Int)}
theorem chk1 (h : outB B 1 3 = true) : chkE B ds ls tol = 1:=if_pos h
theorem chk2 (h : outB B 1 3 = false) (h2 : sizE ds.length 4 ≠ 0) : chkE B ds ls tol = sizE ds.length 4:=by
 rw [chkE,if_neg (by rw [h];decide),if_pos h2]
theorem chk3 (h : outB B 1 3 = false) (h2 : sizE ds.length 4 = 0) (h3 : dyeE B [] ds ≠ 0) : chkE B ds ls tol = dyeE B [] ds:=by
 rw [chkE,if_neg (by rw [h];decide),if_neg (by rw [h2];decide),if_pos h3]
theorem chk4 (h : outB B 1 3 = false) (h2 : sizE ds.length 4 = 0) (h3 : dyeE B [] ds = 0) (h4 : sizE ls.length 3 ≠ 0) : chkE B ds ls tol = sizE ls.length 3:=by
 rw [chkE,if_neg (by rw [h];decide),if_neg (by rw [h2];decide),if_neg (by rw [h3];decide),if_pos h4]
theorem chk5 (h : outB B 1 3 = false) (h2 : sizE ds.length 4 = 0) (h3 : dyeE B [] ds = 0) (h4 : sizE ls.length 3 = 0) (h5 : lampE B ls ≠ 0) : chkE B ds ls tol = lampE B ls:=by
 rw [chkE,if_neg (by rw [h];decide),if_neg (by rw [h2];decide),if_neg (by rw [h3];decide),if_neg (by rw [h4];decide),if_pos h5]
theorem chk6 (h : outB B 1 3 = false) (h2 : sizE ds.length 4 = 0) (h3 : dyeE B [] ds = 0) (h4 : sizE ls.length 3 = 0) (h5 : lampE B ls = 0) : chkE B ds ls tol = if outB tol 0 12 = true then 1 else 0:=by
 rw [chkE,if_neg (by rw [h];decide),if_neg (by rw [h2];decide),if_neg (by rw [h3];decide),if_neg (by rw [h4];decide),if_neg (by rw [h5];decide)]
end
set_option maxRecDepth 100000 in
set_option maxHeartbeats 4000000 in
theorem vcheck_any (x : Vm) (w : World) (h : x.At w) (sd : SmallL x.D) (sl : SmallL x.L) :
  Calls Tryz.prog 74 #[.agg #[.int .i64 x.B,.slice x.da x.D.length x.dc,.slice x.la x.L.length x.lc,.int .i64 x.tol]] w fun e w'=>e = .returned (.int .i64 (chkE x.B (x.D.map (·.2)) (x.L.map (·.2)) x.tol)) ∧ Ext [] w w':=by
 have E : Ext [] w w:=Ext.refl _ _
 have HA:=Lib.hid h
 have HD:=Lib.hid h.d.1
 have HL:=Lib.hid h.l.1
 have SD:=Lib.hid sd
 have SL:=Lib.hid sl
 clear h
 obtain ⟨sd1,sd2⟩:=sd
 obtain ⟨sl1,sl2⟩:=sl
 clear sd2 sl2
 obtain ⟨ds,hds⟩ : ∃ ds,ds = x.D.map (·.2):=⟨_,rfl⟩
 obtain ⟨ls,hls⟩ : ∃ ls,ls = x.L.map (·.2):=⟨_,rfl⟩
 have hdl : ds.length = x.D.length:=by rw [hds,List.length_map]
 have hll : ls.length = x.L.length:=by rw [hls,List.length_map]
 have KD : Hid (∀ i,i < x.D.length → ds.getD i [] = (x.D.getD i (.bool true,[])).2):=fun i hi=>by rw [hds];exact key_getD _ hi
 have KL : Hid (∀ i,i < x.L.length → ls.getD i [] = (x.L.getD i (.bool true,[])).2):=fun i hi=>by rw [hls];exact key_getD _ hi
 rw [← hds,← hls]
 clear hds hls
 have om : w.ownsRow w.heap.size 131 3 (.slice none 0 0) 0 (((ds.take 0).map toneR).flatten):=World.ownsRow_nil _ _ _ _
 refine calls_has 92 Tryz.func74 rfl Tryz.ntmps74 (Nat.le_of_ble_eq_true rfl) ?_
 intro fa F
 refine wp_seq_k fun K1 hK1=>?_
 refine wp_region_lit ?_
 refine sq_new F rfl (by decide) rfl (R_box rfl (F.at rfl)) ?_;clear F fa;intro fa w1 F hw
 obtain ⟨n1,hn⟩ : ∃ n,n = w.heap.size:=⟨_,rfl⟩
 rw [← hn] at F
 have s1 : w.heap.size ≤ n1:=Nat.le_of_eq hn.symm
 have l1_E : w.heap.size ≤ n1:=by rw [hn];exact E.size
 have o1_om:=Lib.hid (own_ne_new om hn)
 replace om:=owns_alloc hw om
 replace E:=ext_alloc E hw
 have q1:=new_row hw hn
 clear hw hn
 refine F.vl (R_assign rfl (ev_c fa _)) ?_;clear F fa;intro fa F
 refine wpList_nil ?_
 refine hK1 _ _ ?_
 clear hK1
 refine wp_seq_k fun K2 hK2=>?_
 refine wp_seq_k fun K3 hK3=>?_
 refine wp_region_lit ?_
 refine F.vl (R_field rfl (F.at rfl) Tryz.underlying24 rfl (n:=0) (sz:=1) rfl (by kernel_rfl) (by decide)) ?_;clear F fa;intro fa F
 refine F.vl (R_load rfl (F.at rfl) Tryz.underlying3 rfl ((cells_of_block q1 0).trans (get0))) ?_;clear F fa;intro fa F
 refine sq_call F rfl (by decide) rfl (R_callV rfl rfl Tryz.call83 (mpS (F.at rfl) (mpS (ev_c fa _) (mpS (ev_c fa _) mp0)))) (outside_any x.B 1 3 _) fun e w2 hR=>?_
 obtain ⟨rfl,e9⟩:=hR
 refine ⟨_,rfl,?_⟩;clear F fa;intro fa F
 replace om:=owns_ext om (e9) (by simp)
 replace q1:=(e9).keep0 q1
 replace E:=ext_same E (e9)
 clear e9
 refine wpList_nil ?_
 refine hK3 _ _ ?_
 clear hK3
 refine cd_b F rfl (fun hc19=>?_) (fun hc19=>?_)
 ·skip
  have hb1 : outB x.B 1 3 = true:=by simpa using hc19
  refine wp_seq_k fun K4 hK4=>?_
  refine wp_region_lit ?_
  refine F.vl (R_assign rfl (ev_c fa _)) ?_;clear F fa;intro fa F
  refine wpList_nil ?_
  refine hK4 _ _ ?_
  clear hK4
  refine wp_ret ?_
  (try simp only [Exit.inBlock,Exit.then,reduceIte])
  refine rt_v F (rs_1 F rfl rfl) ?_
  exact ⟨ret_int (chk1 hb1).symm,E⟩
 ·skip
  have hb1 : outB x.B 1 3 = false:=by simpa using hc19
  obtain ⟨hB1,hB3⟩:=outB_no.1 hb1
  refine wp_skip ?_
  refine hK2 _ _ ?_
  clear hK2
  refine wp_seq_k fun K5 hK5=>?_
  refine wp_seq_k fun K6 hK6=>?_
  refine wp_region_lit ?_
  refine F.vl (R_field rfl (F.at rfl) Tryz.underlying24 rfl (n:=1) (sz:=1) rfl (by kernel_rfl) (by decide)) ?_;clear F fa;intro fa F
  refine F.vl (R_load rfl (F.at rfl) Tryz.underlying22 rfl ((cells_of_block q1 1).trans (getS (get0)))) ?_;clear F fa;intro fa F
  refine F.vl (R_len rfl rfl (F.at rfl) Tryz.underlying22) ?_;clear F fa;intro fa F
  refine sq_call F rfl (by decide) rfl (R_callV rfl rfl Tryz.call84 (mpS (F.at rfl) (mpS (ev_c fa _) mp0))) (sized_any (x.D.length : Nat) 4 _) fun e w3 hR=>?_
  obtain ⟨rfl,e9⟩:=hR
  refine ⟨_,rfl,?_⟩;clear F fa;intro fa F
  replace om:=owns_ext om (e9) (by simp)
  replace q1:=(e9).keep0 q1
  replace E:=ext_same E (e9)
  clear e9
  refine F.as ?_;clear F fa;intro fa F
  refine wpList_nil ?_
  refine hK6 _ _ ?_
  clear hK6
  refine wp_seq_k fun K7 hK7=>?_
  refine wp_region_lit ?_
  refine F.mv ?_;clear F fa;intro fa F
  refine F.vl (R_neqD rfl (F.at rfl) (ev_c fa _)) ?_;clear F fa;intro fa F
  refine wpList_nil ?_
  refine hK7 _ _ ?_
  clear hK7
  refine cd_if F rfl (fun hc25=>?_) (fun hc25=>?_)
  ·skip
   refine wp_seq_k fun K8 hK8=>?_
   refine wp_region_lit ?_
   refine F.mv ?_;clear F fa;intro fa F
   refine F.as ?_;clear F fa;intro fa F
   refine wpList_nil ?_
   refine hK8 _ _ ?_
   clear hK8
   refine wp_ret ?_
   (try simp only [Exit.inBlock,Exit.then,reduceIte])
   refine rt_v F (rs_1 F rfl rfl) ?_
   exact ⟨ret_int (by rw [chk2 hb1 (by rw [hdl];exact hc25),hdl]),E⟩
  ·skip
   refine wp_skip ?_
   refine hK5 _ _ ?_
   clear hK5
   refine wp_seq_k fun K9 hK9=>?_
   refine wp_region_lit ?_
   refine F.vl (R_assign rfl (ev_c fa _)) ?_;clear F fa;intro fa F
   refine wpList_nil ?_
   refine hK9 _ _ ?_
   clear hK9
   refine wp_seq_k fun K10 hK10=>?_
   refine wp_seq_k fun K11 hK11=>?_
   refine wp_region_lit ?_
   refine F.vl (R_field rfl (F.at rfl) Tryz.underlying24 rfl (n:=1) (sz:=1) rfl (by kernel_rfl) (by decide)) ?_;clear F fa;intro fa F
   refine F.vl (R_load rfl (F.at rfl) Tryz.underlying22 rfl ((cells_of_block q1 1).trans (getS (get0)))) ?_;clear F fa;intro fa F
   refine F.vl (R_len rfl rfl (F.at rfl) Tryz.underlying22) ?_;clear F fa;intro fa F
   refine F.vl (R_move rfl (ev_c fa _)) ?_;clear F fa;intro fa F
   refine wpList_nil ?_
   refine hK11 _ _ ?_
   clear hK11
   refine wp_block ?_
   have F0:=F.sub (.c 1 rfl (.c 28 rfl (.c 29 rfl .n)))
   refine lp_for F0 (x.D.length) (fun i Lv W=>∃ va : Option Addr,∃ vc : Nat,Lv = [(4,.slice va i vc),(30,.int .i64 ((i : Nat) : Int))] ∧ Ext [] w W ∧ W.heap[n1]? = some (.cells #[.int .i64 x.B,.slice x.da x.D.length x.dc,.slice x.la x.L.length x.lc,.int .i64 x.tol] 24 (0,0)) ∧ W.ownsRow w.heap.size 131 3 (.slice va i vc) i (((ds.take i).map toneR).flatten) ∧ dyeE x.B (ds.take i) (ds.drop i) = dyeE x.B [] ds ∧ (∀ j,j < i → ((x.D.getD j (.bool true,[])).2.length : Int) = x.B)) ⟨_,⟨none,0,rfl,E,q1,om,rfl,(fun j hj=>absurd hj (by omega))⟩,F.sub (.c 4 rfl (.c 30 rfl (.c 1 rfl (.c 28 rfl (.c 29 rfl .n)))))⟩ ?_
   clear F F0
   clear E q1
   clear om
   rintro i _ fa w4 hi1 ⟨va,vc,rfl,E,q1,om,hd,hlen⟩ F
   refine wp_seq_k fun K12 hK12=>?_
   refine wp_region_lit ?_
   refine F.vl (R_lss rfl (F.at rfl) (F.at rfl)) ?_;clear F fa;intro fa F
   refine wpList_nil ?_
   refine hK12 _ _ ?_
   clear hK12
   refine wp_seq_k fun K13 hK13=>?_
   refine cd_if F rfl (fun hc31=>?_) (fun hc31=>?_)
   ·skip
    refine wp_skip ?_
    refine hK13 _ _ ?_
    clear hK13
    refine wp_seq_k fun K14 hK14=>?_
    refine wp_block ?_
    refine wp_seq_k fun K15 hK15=>?_
    obtain ⟨la,lca,hla,hlr⟩:=HA.out.d.2 _ (getD_mem (.bool true,[]) (show i < x.D.length by omega))
    have hsz:=SD.out.2 _ (getD_mem (.bool true,[]) (show i < x.D.length by omega))
    have hkd:=KD.out i (by omega)
    refine wp_region_lit ?_
    obtain ⟨xb16,xo16,xa16,xr16⟩:=HD.out i (by omega)
    refine F.vl (R_ixSlice (sz:=1) rfl ((F.at rfl).trans (xa16 _ _)) (F.at rfl) Tryz.underlying22 (by kernel_rfl) (by omega) (by omega)) ?_;clear F fa;intro fa F
    refine F.vl (R_load rfl (F.at rfl) Tryz.underlying25 rfl (xr16 _ E 0 _ rfl)) ?_;clear F fa;intro fa F
    rw [hla] at F
    refine F.as ?_;clear F fa;intro fa F
    refine wpList_nil ?_
    refine hK15 _ _ ?_
    clear hK15
    refine wp_seq_k fun K17 hK17=>?_
    refine wp_seq_k fun K18 hK18=>?_
    refine wp_region_lit ?_
    refine F.mv ?_;clear F fa;intro fa F
    refine F.vl (R_field rfl (F.at rfl) Tryz.underlying24 rfl (n:=0) (sz:=1) rfl (by kernel_rfl) (by decide)) ?_;clear F fa;intro fa F
    refine F.vl (R_load rfl (F.at rfl) Tryz.underlying3 rfl ((cells_of_block q1 0).trans (get0))) ?_;clear F fa;intro fa F
    refine sq_call F rfl (by decide) rfl (R_callV rfl rfl Tryz.call75 (mpS (F.at rfl) (mpS (F.at rfl) (mpS (ev_c fa _) mp0)))) (numbers_any (x.D.getD i (.bool true,[])).2 x.B 9 la lca _ (hlr.ext E (by simp)) hsz (by omega)) fun e w5 hR=>?_
    obtain ⟨rfl,e9⟩:=hR
    refine ⟨_,rfl,?_⟩;clear F fa;intro fa F
    replace om:=owns_ext om (e9) (by simp)
    replace q1:=(e9).keep0 q1
    replace E:=ext_same E (e9)
    clear e9
    refine F.mv ?_;clear F fa;intro fa F
    refine F.vl (R_extract rfl (F.at rfl) (get0)) ?_;clear F fa;intro fa F
    refine F.vl (R_extract rfl (F.at rfl) (getS (get0))) ?_;clear F fa;intro fa F
    refine F.as ?_;clear F fa;intro fa F
    refine F.as ?_;clear F fa;intro fa F
    refine wpList_nil ?_
    refine hK18 _ _ ?_
    clear hK18
    refine wp_seq_k fun K19 hK19=>?_
    refine wp_region_lit ?_
    refine F.mv ?_;clear F fa;intro fa F
    refine F.vl (R_neqD rfl (F.at rfl) (ev_c fa _)) ?_;clear F fa;intro fa F
    refine wpList_nil ?_
    refine hK19 _ _ ?_
    clear hK19
    refine cd_if F rfl (fun hc42=>?_) (fun hc42=>?_)
    ·skip
     refine wp_seq_k fun K20 hK20=>?_
     refine wp_region_lit ?_
     refine F.mv ?_;clear F fa;intro fa F
     refine F.as ?_;clear F fa;intro fa F
     refine wpList_nil ?_
     refine hK20 _ _ ?_
     clear hK20
     refine wp_ret ?_
     (try simp only [Exit.inBlock,Exit.then,reduceIte])
     refine rt_v F (rs_1 F rfl rfl) ?_
     have e:=dye_bad (B:=x.B) (ds:=ds) (i:=i) (by omega) (by rw [hkd];exact hc42)
     rw [hd,hkd] at e
     exact ⟨ret_int (by rw [chk3 hb1 (by rw [hdl];omega) (by rw [e];exact hc42),e]),E⟩
    ·skip
     have hz0 : numE (x.D.getD i (.bool true,[])).2 x.B 9 = 0:=by omega
     obtain ⟨hz1,hz2⟩:=numE_zero hz0
     refine wp_skip ?_
     refine hK17 _ _ ?_
     clear hK17
     refine wp_seq_k fun K21 hK21=>?_
     refine wp_region_lit ?_
     refine sq_new F rfl (by decide) rfl (R_alloc rfl Tryz.zeroValue131) ?_;clear F fa;intro fa w6 F hw
     obtain ⟨n9,hn⟩ : ∃ n,n = w5.heap.size:=⟨_,rfl⟩
     rw [← hn] at F
     have s9 : w5.heap.size ≤ n9:=Nat.le_of_eq hn.symm
     have l9_E : w.heap.size ≤ n9:=by rw [hn];exact E.size
     have m9_1 : n1 < n9:=by rw [hn];exact blk_lt q1
     have o9_om:=Lib.hid (own_ne_new om hn)
     replace om:=owns_alloc hw om
     replace q1:=keep_alloc hw q1
     replace E:=ext_alloc E hw
     have q9:=new_row hw hn
     clear hw hn
     refine wpList_nil ?_
     refine hK21 _ _ ?_
     clear hK21
     refine wp_seq_k fun K22 hK22=>?_
     have hd3' : (x.D.getD i (.bool true,[])).2.length ≤ 3:=by omega
     refine wp_region_lit ?_
     refine F.vl ((R_sliceAll (n:=3) rfl (F.at rfl) (by kernel_rfl) (by kernel_rfl) (by kernel_rfl))) ?_;clear F fa;intro fa F
     refine F.mv ?_;clear F fa;intro fa F
     have hlr2:=hlr.ext E (by simp)
     obtain ⟨sb,so,hsa,-,-⟩:=hlr2.range rfl (by intro e;have hq:=congrArg List.length e;rw [List.length_map,List.length_nil] at hq;omega)
     rw [hsa] at hlr2
     obtain ⟨hcd,hcf⟩:=copy_dst q9 (n:=(x.D.getD i (.bool true,[])).2.length) hd3'
     refine sq_new F rfl (by decide) rfl (R_copy ((x.D.getD i (.bool true,[])).2.map (Value.int .i64)) rfl (F.at rfl) ((F.at rfl).trans (congrArg (fun z=>Value.slice z _ _) hsa)) Tryz.underlying25 (by kernel_rfl) (by rw [List.length_map];exact (Nat.min_eq_left hd3').symm) (copy_src hlr2) (by rw [List.length_map];exact hcd) (by rw [List.length_map];exact hcf) (ints_one _)) ?_;clear F fa;intro fa w7 F hw
     replace om:=owns_cellsX hw om o9_om.out
     replace q1:=keep_cells hw q1 (by omega)
     replace q9:=put_tones hw q9 hd3'
     replace E:=ext_cells E hw (fun h=>by first | exact absurd h (by omega) | simp)
     clear hw
     refine wpList_nil ?_
     refine hK22 _ _ ?_
     clear hK22
     refine wp_seq_k fun K23 hK23=>?_
     refine wp_seq_k fun K24 hK24=>?_
     refine wp_region_lit ?_
     refine F.mv ?_;clear F fa;intro fa F
     refine F.vl (R_len rfl rfl (F.at rfl) Tryz.underlying129) ?_;clear F fa;intro fa F
     refine F.vl (R_move rfl (ev_c fa _)) ?_;clear F fa;intro fa F
     refine wpList_nil ?_
     have HMs:=Lib.hid (slAt_of_owns om (show i = (ds.take i).length by rw [List.length_take];omega) (fun _=>rfl) [] (by simp) [])
     have hml : (ds.take i).length = i:=(by rw [List.length_take];omega)
     rw [hml] at HMs
     have EMs : Ext [] w7 w7:=Ext.refl _ _
     refine hK24 _ _ ?_
     clear hK24
     refine wp_block ?_
     have F0:=F.sub (.c 1 rfl (.c 4 rfl (.c 9 rfl (.c 28 rfl (.c 29 rfl (.c 30 rfl (.c 47 rfl (.c 48 rfl .n))))))))
     refine lp_for F0 (i) (fun j Lv W=>Lv = [(49,.int .i64 ((j : Nat) : Int))] ∧ Ext [] w W ∧ Ext [] w7 W ∧ W.heap[n1]? = some (.cells #[.int .i64 x.B,.slice x.da x.D.length x.dc,.slice x.la x.L.length x.lc,.int .i64 x.tol] 24 (0,0)) ∧ W.heap[n9]? = some (.cells (tonesC (x.D.getD i (.bool true,[])).2) 131 (0,0)) ∧ W.ownsRow w.heap.size 131 3 (.slice va i vc) i (((ds.take i).map toneR).flatten) ∧ (∀ k,k < j → ds.getD k [] ≠ ds.getD i [])) ⟨_,⟨rfl,E,EMs,q1,q9,om,(fun k hk=>absurd hk (by omega))⟩,F.sub (.c 49 rfl (.c 1 rfl (.c 4 rfl (.c 9 rfl (.c 28 rfl (.c 29 rfl (.c 30 rfl (.c 47 rfl (.c 48 rfl .n)))))))))⟩ ?_
     clear F F0
     clear E EMs q1 q9 om
     rintro j _ fa w8 hi2 ⟨rfl,E,EMs,q1,q9,om,hn⟩ F
     refine wp_seq_k fun K25 hK25=>?_
     refine wp_region_lit ?_
     refine F.vl (R_lss rfl (F.at rfl) (F.at rfl)) ?_;clear F fa;intro fa F
     refine wpList_nil ?_
     refine hK25 _ _ ?_
     clear hK25
     refine wp_seq_k fun K26 hK26=>?_
     refine cd_if F rfl (fun hc50=>?_) (fun hc50=>?_)
     ·skip
      refine wp_skip ?_
      refine hK26 _ _ ?_
      clear hK26
      refine wp_seq_k fun K27 hK27=>?_
      refine wp_block ?_
      refine wp_seq_k fun K28 hK28=>?_
      have hjj : (ds.take i).getD j [] = ds.getD j []:=by simp [List.getD_eq_getElem?_getD,List.getElem?_take,show j < i by omega]
      have hkj:=KD.out j (by omega)
      have hlj:=hlen j (by omega)
      refine wp_region_lit ?_
      obtain ⟨xb29,xo29,xa29,xr29⟩:=HMs.out j (by omega)
      refine F.vl (R_ixSlice (sz:=3) rfl ((F.at rfl).trans (xa29 _ _)) (F.at rfl) Tryz.underlying129 (by kernel_rfl) (by omega) (by omega)) ?_;clear F fa;intro fa F
      refine F.vl (R_loadRow rfl (F.at rfl) Tryz.underlying131 rfl (by kernel_rfl) (xr29 _ EMs)) ?_;clear F fa;intro fa F
      refine sq_new F rfl (by decide) rfl (R_alloc rfl Tryz.zeroValue131) ?_;clear F fa;intro fa w9 F hw
      obtain ⟨n11,hn⟩ : ∃ n,n = w8.heap.size:=⟨_,rfl⟩
      rw [← hn] at F
      have s11 : w8.heap.size ≤ n11:=Nat.le_of_eq hn.symm
      have l11_E : w.heap.size ≤ n11:=by rw [hn];exact E.size
      have l11_EMs : w7.heap.size ≤ n11:=by rw [hn];exact EMs.size
      have m11_1 : n1 < n11:=by rw [hn];exact blk_lt q1
      have m11_9 : n9 < n11:=by rw [hn];exact blk_lt q9
      have o11_om:=Lib.hid (own_ne_new om hn)
      replace om:=owns_alloc hw om
      replace q1:=keep_alloc hw q1
      replace q9:=keep_alloc hw q9
      replace E:=ext_alloc E hw
      replace EMs:=ext_alloc EMs hw
      have q11:=new_row hw hn
      clear hw hn
      refine sq_to rfl rfl (R_storeRow rfl (F.at rfl) (F.at rfl) (by kernel_rfl) (by first | (simp [Value.oneCell'];done) | (simp [Value.oneCell',toneR];done)) q11 rfl) ?_;intro w10 hw
      replace om:=owns_cellsX hw om o11_om.out
      replace q1:=keep_cells hw q1 (by omega)
      replace q9:=keep_cells hw q9 (by omega)
      replace q11:=put_row hw q11 rfl
      replace E:=ext_cells E hw (fun h=>by first | exact absurd h (by omega) | simp)
      replace EMs:=ext_cells EMs hw (fun h=>by first | exact absurd h (by omega) | simp)
      clear hw
      refine wpList_nil ?_
      refine hK28 _ _ ?_
      clear hK28
      refine wp_seq_k fun K30 hK30=>?_
      refine wp_region_lit ?_
      refine F.vl (R_loadBlk rfl (F.at rfl) Tryz.underlying131 rfl (by kernel_rfl) q11) ?_;clear F fa;intro fa F
      refine F.vl (R_loadBlk rfl (F.at rfl) Tryz.underlying131 rfl (by kernel_rfl) q9) ?_;clear F fa;intro fa F
      refine F.vl ((R_eqlT (l:=(ds.take i).getD j []) (m:=(x.D.getD i (.bool true,[])).2) rfl (F.at rfl) (F.at rfl))) ?_;clear F fa;intro fa F
      refine wpList_nil ?_
      have hqq:=eqT_iff (l:=(ds.take i).getD j []) (m:=(x.D.getD i (.bool true,[])).2) (by rw [hjj,hkj];omega) (by rw [hjj,hkj];omega)
      refine hK30 _ _ ?_
      clear hK30
      refine cd_b F rfl (fun hc55=>?_) (fun hc55=>?_)
      ·skip
       have heq : ds.getD j [] = ds.getD i []:=by rw [hkd,← hjj];exact hqq.1 (by simpa using hc55)
       refine wp_seq_k fun K31 hK31=>?_
       refine wp_region_lit ?_
       refine F.vl (R_assign rfl (ev_c fa _)) ?_;clear F fa;intro fa F
       refine wpList_nil ?_
       refine hK31 _ _ ?_
       clear hK31
       refine wp_ret ?_
       (try simp only [Exit.inBlock,Exit.then,reduceIte])
       refine rt_v F (rs_1 F rfl rfl) ?_
       have e:=dye_twice (B:=x.B) (ds:=ds) (i:=i) (j:=j) (by omega) (by rw [hkd];exact hz0) (by omega) heq
       rw [hd] at e
       exact ⟨ret_int (by rw [chk3 hb1 (by rw [hdl];omega) (by rw [e];decide),e]),E⟩
      ·skip
       have hne : ds.getD j [] ≠ ds.getD i []:=fun e=>by rw [hkd,← hjj] at e;exact Bool.noConfusion (hc55.symm.trans (hqq.2 e))
       refine wp_skip ?_
       refine hK27 _ _ ?_
       clear hK27
       refine wp_region_lit ?_
       refine F.vl (R_add rfl (F.at rfl) (ev_c fa _) (by omega) (by omega)) ?_;clear F fa;intro fa F
       refine F.mv ?_;clear F fa;intro fa F
       refine wpList_nil ?_
       show _ ∧ _
       exact ⟨by omega,_,⟨rfl,E,EMs,q1,q9,om,(fun k hk=>if e : k = j then e ▸ hne else hn k (by omega))⟩,F.sub (.c 49 rfl (.c 1 rfl (.c 4 rfl (.c 9 rfl (.c 28 rfl (.c 29 rfl (.c 30 rfl (.c 47 rfl (.c 48 rfl .n)))))))))⟩
     ·skip
      refine wp_exit ?_
      have hji : j = i:=by omega
      refine hK23 _ _ ?_
      clear hK23
      refine wp_region_lit ?_
      refine F.mv ?_;clear F fa;intro fa F
      refine F.vl (R_loadBlk rfl (F.at rfl) Tryz.underlying131 rfl (by kernel_rfl) q9) ?_;clear F fa;intro fa F
      refine sq_new F rfl (by decide) rfl (R_buildSliceV rfl (prS (F.at rfl) pr0) Tryz.underlying129 (size:=3) (by kernel_rfl) (by decide) (by decide) Tryz.zeroValue131 (cells:=#[.int .i64 ((x.D.getD i (.bool true,[])).2.getD 0 0),.int .i64 ((x.D.getD i (.bool true,[])).2.getD 1 0),.int .i64 ((x.D.getD i (.bool true,[])).2.getD 2 0)]) (by kernel_rfl)) ?_;clear F fa;intro fa w11 F hw
      obtain ⟨n59,hn⟩ : ∃ n,n = w8.heap.size:=⟨_,rfl⟩
      rw [← hn] at F
      have s59 : w8.heap.size ≤ n59:=Nat.le_of_eq hn.symm
      have l59_E : w.heap.size ≤ n59:=by rw [hn];exact E.size
      have m59_1 : n1 < n59:=by rw [hn];exact blk_lt q1
      have m59_9 : n9 < n59:=by rw [hn];exact blk_lt q9
      have o59_om:=Lib.hid (own_ne_new om hn)
      replace om:=owns_alloc hw om
      replace q1:=keep_alloc hw q1
      replace q9:=keep_alloc hw q9
      replace E:=ext_alloc E hw
      have q59:=new_block hw hn
      clear hw hn
      have hEs:=E.size
      refine sq_some F rfl (by decide) rfl (append_run rfl (w.heap.size) (e:=131) (size:=3) (bytes:=24) Tryz.underlying129 (by kernel_rfl) (by decide) (F.at rfl) om (F.at rfl) q59 rfl (by simp [Value.oneCell']) (by omega) (by omega) (by omega)) ?_;clear F fa;rintro fa v' w12 F ⟨hown',hg⟩
      obtain ⟨va60,vc60,rfl⟩:=owns_slice hown'
      replace q1:=keep_type om hg q1 (by decide)
      replace q9:=(hg.block n9 (blk_lt q9) o9_om.out).trans q9
      replace E:=ext_appendX E om hg (by omega)
      replace om:=hown'
      clear hg
      have hd3:=(dye_go (B:=x.B) (ds:=ds) (i:=i) (by omega) (by rw [hkd];exact hz0) (fun k hk=>hn k (by omega))).symm.trans hd
      rw [show ((ds.take i).map toneR).flatten ++ [.int .i64 ((x.D.getD i (.bool true,[])).2.getD 0 0),.int .i64 ((x.D.getD i (.bool true,[])).2.getD 1 0),.int .i64 ((x.D.getD i (.bool true,[])).2.getD 2 0)] = ((ds.take (i + 1)).map toneR).flatten by rw [take_getD ds [] (show i < ds.length by omega),List.map_append,List.flatten_append,hkd];simp [toneR]] at om
      refine F.as ?_;clear F fa;intro fa F
      refine wpList_nil ?_
      refine hK14 _ _ ?_
      clear hK14
      refine wp_region_lit ?_
      refine F.vl (R_add rfl (F.at rfl) (ev_c fa _) (by omega) (by omega)) ?_;clear F fa;intro fa F
      refine F.mv ?_;clear F fa;intro fa F
      refine wpList_nil ?_
      show _ ∧ _
      exact ⟨by omega,_,⟨_,_,rfl,E,q1,om,hd3,(fun j hj=>if e : j = i then e ▸ hz1 else hlen j (by omega))⟩,F.sub (.c 4 rfl (.c 30 rfl (.c 1 rfl (.c 28 rfl (.c 29 rfl .n)))))⟩
   ·skip
    refine wp_exit ?_
    have hd0 : dyeE x.B [] ds = 0:=by rw [← hd,List.drop_eq_nil_of_le (by omega)];rfl
    refine hK10 _ _ ?_
    clear hK10
    refine wp_seq_k fun K32 hK32=>?_
    refine wp_seq_k fun K33 hK33=>?_
    refine wp_region_lit ?_
    refine F.vl (R_field rfl (F.at rfl) Tryz.underlying24 rfl (n:=2) (sz:=1) rfl (by kernel_rfl) (by decide)) ?_;clear F fa;intro fa F
    refine F.vl (R_load rfl (F.at rfl) Tryz.underlying22 rfl ((cells_of_block q1 2).trans (getS (getS (get0))))) ?_;clear F fa;intro fa F
    refine F.vl (R_len rfl rfl (F.at rfl) Tryz.underlying22) ?_;clear F fa;intro fa F
    refine sq_call F rfl (by decide) rfl (R_callV rfl rfl Tryz.call84 (mpS (F.at rfl) (mpS (ev_c fa _) mp0))) (sized_any (x.L.length : Nat) 3 _) fun e w13 hR=>?_
    obtain ⟨rfl,e9⟩:=hR
    refine ⟨_,rfl,?_⟩;clear F fa;intro fa F
    replace om:=owns_ext om (e9) (by simp)
    replace q1:=(e9).keep0 q1
    replace E:=ext_same E (e9)
    clear e9
    refine F.as ?_;clear F fa;intro fa F
    refine wpList_nil ?_
    refine hK33 _ _ ?_
    clear hK33
    refine wp_seq_k fun K34 hK34=>?_
    refine wp_region_lit ?_
    refine F.mv ?_;clear F fa;intro fa F
    refine F.vl (R_neqD rfl (F.at rfl) (ev_c fa _)) ?_;clear F fa;intro fa F
    refine wpList_nil ?_
    refine hK34 _ _ ?_
    clear hK34
    refine cd_if F rfl (fun hc67=>?_) (fun hc67=>?_)
    ·skip
     refine wp_seq_k fun K35 hK35=>?_
     refine wp_region_lit ?_
     refine F.mv ?_;clear F fa;intro fa F
     refine F.as ?_;clear F fa;intro fa F
     refine wpList_nil ?_
     refine hK35 _ _ ?_
     clear hK35
     refine wp_ret ?_
     (try simp only [Exit.inBlock,Exit.then,reduceIte])
     refine rt_v F (rs_1 F rfl rfl) ?_
     exact ⟨ret_int (by rw [chk4 hb1 (by rw [hdl];omega) hd0 (by rw [hll];exact hc67),hll]),E⟩
    ·skip
     refine wp_skip ?_
     refine hK32 _ _ ?_
     clear hK32
     refine wp_seq_k fun K36 hK36=>?_
     refine wp_seq_k fun K37 hK37=>?_
     refine wp_region_lit ?_
     refine F.vl (R_field rfl (F.at rfl) Tryz.underlying24 rfl (n:=2) (sz:=1) rfl (by kernel_rfl) (by decide)) ?_;clear F fa;intro fa F
     refine F.vl (R_load rfl (F.at rfl) Tryz.underlying22 rfl ((cells_of_block q1 2).trans (getS (getS (get0))))) ?_;clear F fa;intro fa F
     refine F.vl (R_len rfl rfl (F.at rfl) Tryz.underlying22) ?_;clear F fa;intro fa F
     refine F.vl (R_move rfl (ev_c fa _)) ?_;clear F fa;intro fa F
     refine wpList_nil ?_
     refine hK37 _ _ ?_
     clear hK37
     refine wp_block ?_
     have F0:=F.sub (.c 1 rfl (.c 70 rfl (.c 71 rfl .n)))
     refine lp_for F0 (x.L.length) (fun k Lv W=>Lv = [(72,.int .i64 ((k : Nat) : Int))] ∧ Ext [] w W ∧ W.heap[n1]? = some (.cells #[.int .i64 x.B,.slice x.da x.D.length x.dc,.slice x.la x.L.length x.lc,.int .i64 x.tol] 24 (0,0)) ∧ W.ownsRow w.heap.size 131 3 (.slice va i vc) i (((ds.take i).map toneR).flatten) ∧ lampE x.B (ls.drop k) = lampE x.B ls) ⟨_,⟨rfl,E,q1,om,rfl⟩,F.sub (.c 72 rfl (.c 1 rfl (.c 70 rfl (.c 71 rfl .n))))⟩ ?_
     clear F F0
     clear E q1 om
     rintro k _ fa w14 hi3 ⟨rfl,E,q1,om,hlm⟩ F
     refine wp_seq_k fun K38 hK38=>?_
     refine wp_region_lit ?_
     refine F.vl (R_lss rfl (F.at rfl) (F.at rfl)) ?_;clear F fa;intro fa F
     refine wpList_nil ?_
     refine hK38 _ _ ?_
     clear hK38
     refine wp_seq_k fun K39 hK39=>?_
     refine cd_if F rfl (fun hc73=>?_) (fun hc73=>?_)
     ·skip
      refine wp_skip ?_
      refine hK39 _ _ ?_
      clear hK39
      refine wp_seq_k fun K40 hK40=>?_
      refine wp_block ?_
      refine wp_seq_k fun K41 hK41=>?_
      obtain ⟨la,lca,hla,hlr⟩:=HA.out.l.2 _ (getD_mem (.bool true,[]) (show k < x.L.length by omega))
      have hsz:=SL.out.2 _ (getD_mem (.bool true,[]) (show k < x.L.length by omega))
      have hkl:=KL.out k (by omega)
      refine wp_region_lit ?_
      obtain ⟨xb42,xo42,xa42,xr42⟩:=HL.out k (by omega)
      refine F.vl (R_ixSlice (sz:=1) rfl ((F.at rfl).trans (xa42 _ _)) (F.at rfl) Tryz.underlying22 (by kernel_rfl) (by omega) (by omega)) ?_;clear F fa;intro fa F
      refine F.vl (R_load rfl (F.at rfl) Tryz.underlying25 rfl (xr42 _ E 0 _ rfl)) ?_;clear F fa;intro fa F
      rw [hla] at F
      refine F.as ?_;clear F fa;intro fa F
      refine wpList_nil ?_
      refine hK41 _ _ ?_
      clear hK41
      refine wp_seq_k fun K43 hK43=>?_
      refine wp_region_lit ?_
      refine F.mv ?_;clear F fa;intro fa F
      refine F.vl (R_field rfl (F.at rfl) Tryz.underlying24 rfl (n:=0) (sz:=1) rfl (by kernel_rfl) (by decide)) ?_;clear F fa;intro fa F
      refine F.vl (R_load rfl (F.at rfl) Tryz.underlying3 rfl ((cells_of_block q1 0).trans (get0))) ?_;clear F fa;intro fa F
      refine sq_call F rfl (by decide) rfl (R_callV rfl rfl Tryz.call75 (mpS (F.at rfl) (mpS (F.at rfl) (mpS (ev_c fa _) mp0)))) (numbers_any (x.L.getD k (.bool true,[])).2 x.B 3 la lca _ (hlr.ext E (by simp)) hsz (by omega)) fun e w15 hR=>?_
      obtain ⟨rfl,e9⟩:=hR
      refine ⟨_,rfl,?_⟩;clear F fa;intro fa F
      replace om:=owns_ext om (e9) (by simp)
      replace q1:=(e9).keep0 q1
      replace E:=ext_same E (e9)
      clear e9
      refine F.mv ?_;clear F fa;intro fa F
      refine F.vl (R_extract rfl (F.at rfl) (get0)) ?_;clear F fa;intro fa F
      refine F.vl (R_extract rfl (F.at rfl) (getS (get0))) ?_;clear F fa;intro fa F
      refine F.as ?_;clear F fa;intro fa F
      refine F.as ?_;clear F fa;intro fa F
      refine wpList_nil ?_
      refine hK43 _ _ ?_
      clear hK43
      refine wp_seq_k fun K44 hK44=>?_
      refine wp_seq_k fun K45 hK45=>?_
      refine wp_region_lit ?_
      refine F.mv ?_;clear F fa;intro fa F
      refine F.vl (R_neqD rfl (F.at rfl) (ev_c fa _)) ?_;clear F fa;intro fa F
      refine wpList_nil ?_
      refine hK45 _ _ ?_
      clear hK45
      refine cd_if F rfl (fun hc84=>?_) (fun hc84=>?_)
      ·skip
       refine wp_seq_k fun K46 hK46=>?_
       refine wp_region_lit ?_
       refine F.mv ?_;clear F fa;intro fa F
       refine F.as ?_;clear F fa;intro fa F
       refine wpList_nil ?_
       refine hK46 _ _ ?_
       clear hK46
       refine wp_ret ?_
       (try simp only [Exit.inBlock,Exit.then,reduceIte])
       refine rt_v F (rs_1 F rfl rfl) ?_
       have e:=lamp_bad (B:=x.B) (ls:=ls) (i:=k) (by omega) (by rw [hkl];exact hc84)
       rw [hlm,hkl] at e
       exact ⟨ret_int (by rw [chk5 hb1 (by rw [hdl];omega) hd0 (by rw [hll];omega) (by rw [e];exact hc84),e]),E⟩
      ·skip
       have hz0 : numE (x.L.getD k (.bool true,[])).2 x.B 3 = 0:=by omega
       have hsum : numS (x.L.getD k (.bool true,[])).2 x.B 3 = (x.L.getD k (.bool true,[])).2.sum:=by rw [numS,if_pos hz0]
       refine wp_skip ?_
       refine hK44 _ _ ?_
       clear hK44
       refine wp_seq_k fun K47 hK47=>?_
       refine wp_region_lit ?_
       refine F.mv ?_;clear F fa;intro fa F
       refine F.vl (R_eqlD rfl (F.at rfl) (ev_c fa _)) ?_;clear F fa;intro fa F
       refine wpList_nil ?_
       refine hK47 _ _ ?_
       clear hK47
       refine cd_if F rfl (fun hc87=>?_) (fun hc87=>?_)
       ·skip
        refine wp_seq_k fun K48 hK48=>?_
        refine wp_region_lit ?_
        refine F.vl (R_assign rfl (ev_c fa _)) ?_;clear F fa;intro fa F
        refine wpList_nil ?_
        refine hK48 _ _ ?_
        clear hK48
        refine wp_ret ?_
        (try simp only [Exit.inBlock,Exit.then,reduceIte])
        refine rt_v F (rs_1 F rfl rfl) ?_
        have e:=lamp_dark (B:=x.B) (ls:=ls) (i:=k) (by omega) (by rw [hkl];exact hz0) (by rw [hkl];omega)
        rw [hlm] at e
        exact ⟨ret_int (by rw [chk5 hb1 (by rw [hdl];omega) hd0 (by rw [hll];omega) (by rw [e];decide),e]),E⟩
       ·skip
        have hlm3:=(lamp_go (B:=x.B) (ls:=ls) (i:=k) (by omega) (by rw [hkl];exact hz0) (by rw [hkl];omega)).symm.trans hlm
        refine wp_skip ?_
        refine hK40 _ _ ?_
        clear hK40
        refine wp_region_lit ?_
        refine F.vl (R_add rfl (F.at rfl) (ev_c fa _) (by omega) (by omega)) ?_;clear F fa;intro fa F
        refine F.mv ?_;clear F fa;intro fa F
        refine wpList_nil ?_
        show _ ∧ _
        exact ⟨by omega,_,⟨rfl,E,q1,om,hlm3⟩,F.sub (.c 72 rfl (.c 1 rfl (.c 70 rfl (.c 71 rfl .n))))⟩
     ·skip
      refine wp_exit ?_
      have hl0 : lampE x.B ls = 0:=by rw [← hlm,List.drop_eq_nil_of_le (by omega)];rfl
      refine hK36 _ _ ?_
      clear hK36
      refine wp_seq_k fun K49 hK49=>?_
      refine wp_seq_k fun K50 hK50=>?_
      refine wp_region_lit ?_
      refine F.vl (R_field rfl (F.at rfl) Tryz.underlying24 rfl (n:=3) (sz:=1) rfl (by kernel_rfl) (by decide)) ?_;clear F fa;intro fa F
      refine F.vl (R_load rfl (F.at rfl) Tryz.underlying3 rfl ((cells_of_block q1 3).trans (getS (getS (getS (get0)))))) ?_;clear F fa;intro fa F
      refine sq_call F rfl (by decide) rfl (R_callV rfl rfl Tryz.call83 (mpS (F.at rfl) (mpS (ev_c fa _) (mpS (ev_c fa _) mp0)))) (outside_any x.tol 0 12 _) fun e w16 hR=>?_
      obtain ⟨rfl,e9⟩:=hR
      refine ⟨_,rfl,?_⟩;clear F fa;intro fa F
      replace om:=owns_ext om (e9) (by simp)
      replace q1:=(e9).keep0 q1
      replace E:=ext_same E (e9)
      clear e9
      refine wpList_nil ?_
      refine hK50 _ _ ?_
      clear hK50
      refine cd_b F rfl (fun hc91=>?_) (fun hc91=>?_)
      ·skip
       refine wp_seq_k fun K51 hK51=>?_
       refine wp_region_lit ?_
       refine F.vl (R_assign rfl (ev_c fa _)) ?_;clear F fa;intro fa F
       refine wpList_nil ?_
       refine hK51 _ _ ?_
       clear hK51
       refine wp_ret ?_
       (try simp only [Exit.inBlock,Exit.then,reduceIte])
       refine rt_v F (rs_1 F rfl rfl) ?_
       exact ⟨ret_int (by rw [chk6 hb1 (by rw [hdl];omega) hd0 (by rw [hll];omega) hl0,if_pos (by simpa using hc91)]),E⟩
      ·skip
       refine wp_skip ?_
       refine hK49 _ _ ?_
       clear hK49
       refine wp_seq_k fun K52 hK52=>?_
       refine wp_region_lit ?_
       refine F.vl (R_assign rfl (ev_c fa _)) ?_;clear F fa;intro fa F
       refine wpList_nil ?_
       refine hK52 _ _ ?_
       clear hK52
       refine wp_ret ?_
       (try simp only [Exit.inBlock,Exit.then,reduceIte])
       refine rt_v F (rs_1 F rfl rfl) ?_
       exact ⟨ret_int (by rw [chk6 hb1 (by rw [hdl];omega) hd0 (by rw [hll];omega) hl0,if_neg (by simpa using hc91)]),E⟩
set_option maxRecDepth 100000 in
theorem sameVats_yes (x y : Vm) (w : World) (hx : x.At w) (hy : y.At w) (sd : SmallL y.D) (sl : SmallL y.L) (hB : x.B = y.B) (hT : x.tol = y.tol) (hD : x.D.map (·.2) = y.D.map (·.2)) (hL : x.L.map (·.2) = y.L.map (·.2)) :
  Calls Tryz.prog 22 #[.agg #[.int .i64 x.B,.slice x.da x.D.length x.dc,.slice x.la x.L.length x.lc,.int .i64 x.tol],.agg #[.int .i64 y.B,.slice y.da y.D.length y.dc,.slice y.la y.L.length y.lc,.int .i64 y.tol]] w fun e w'=>e = .returned (.bool true) ∧ Ext [] w w':=by
 have E : Ext [] w w:=Ext.refl _ _
 have HX:=Lib.hid hx
 have HY:=Lib.hid hy
 have SD:=Lib.hid sd
 have SL:=Lib.hid sl
 have HD:=Lib.hid hD
 have HL:=Lib.hid hL
 clear hx hy sd sl hD hL
 refine calls_has 31 Tryz.func22 rfl Tryz.ntmps22 (Nat.le_of_ble_eq_true rfl) ?_
 intro fa F
 refine wp_seq_k fun K1 hK1=>?_
 refine wp_region_lit ?_
 refine sq_new F rfl (by decide) rfl (R_box rfl (F.at rfl)) ?_;clear F fa;intro fa w1 F hw
 obtain ⟨n2,hn⟩ : ∃ n,n = w.heap.size:=⟨_,rfl⟩
 rw [← hn] at F
 have s2 : w.heap.size ≤ n2:=Nat.le_of_eq hn.symm
 have l2_E : w.heap.size ≤ n2:=by rw [hn];exact E.size
 replace E:=ext_alloc E hw
 have q2:=new_row hw hn
 clear hw hn
 refine sq_new F rfl (by decide) rfl (R_box rfl (F.at rfl)) ?_;clear F fa;intro fa w2 F hw
 obtain ⟨n3,hn⟩ : ∃ n,n = w1.heap.size:=⟨_,rfl⟩
 rw [← hn] at F
 have s3 : w1.heap.size ≤ n3:=Nat.le_of_eq hn.symm
 have l3_E : w.heap.size ≤ n3:=by rw [hn];exact E.size
 have m3_2 : n2 < n3:=by rw [hn];exact blk_lt q2
 replace q2:=keep_alloc hw q2
 replace E:=ext_alloc E hw
 have q3:=new_row hw hn
 clear hw hn
 refine F.vl (R_assign rfl (ev_c fa _)) ?_;clear F fa;intro fa F
 refine wpList_nil ?_
 refine hK1 _ _ ?_
 clear hK1
 refine wp_seq_k fun K2 hK2=>?_
 refine wp_region_lit ?_
 refine F.vl (R_field rfl (F.at rfl) Tryz.underlying24 rfl (n:=0) (sz:=1) rfl (by kernel_rfl) (by decide)) ?_;clear F fa;intro fa F
 refine F.vl (R_load rfl (F.at rfl) Tryz.underlying3 rfl ((cells_of_block q2 0).trans (get0))) ?_;clear F fa;intro fa F
 refine F.vl (R_field rfl (F.at rfl) Tryz.underlying24 rfl (n:=0) (sz:=1) rfl (by kernel_rfl) (by decide)) ?_;clear F fa;intro fa F
 refine F.vl (R_load rfl (F.at rfl) Tryz.underlying3 rfl ((cells_of_block q3 0).trans (get0))) ?_;clear F fa;intro fa F
 refine F.vl (R_eqlB (b:=true) rfl (F.at rfl) (F.at rfl) (decide_eq_true ((by omega)))) ?_;clear F fa;intro fa F
 refine F.mv ?_;clear F fa;intro fa F
 refine F.vl (R_field rfl (F.at rfl) Tryz.underlying24 rfl (n:=3) (sz:=1) rfl (by kernel_rfl) (by decide)) ?_ (hw:=(wantT F rfl rfl (by decide) rfl));clear F fa;intro fa F
 refine F.vl (R_load rfl (F.at rfl) Tryz.underlying3 rfl ((cells_of_block q2 3).trans (getS (getS (getS (get0)))))) ?_ (hw:=(wantT F rfl rfl (by decide) rfl));clear F fa;intro fa F
 refine F.vl (R_field rfl (F.at rfl) Tryz.underlying24 rfl (n:=3) (sz:=1) rfl (by kernel_rfl) (by decide)) ?_ (hw:=(wantT F rfl rfl (by decide) rfl));clear F fa;intro fa F
 refine F.vl (R_load rfl (F.at rfl) Tryz.underlying3 rfl ((cells_of_block q3 3).trans (getS (getS (getS (get0)))))) ?_ (hw:=(wantT F rfl rfl (by decide) rfl));clear F fa;intro fa F
 refine F.vl (R_eqlB (b:=true) rfl (F.at rfl) (F.at rfl) (decide_eq_true ((by omega)))) ?_ (hw:=(wantT F rfl rfl (by decide) rfl));clear F fa;intro fa F
 refine F.vl (R_pickT rfl (F.at rfl) (F.at rfl)) ?_;clear F fa;intro fa F
 refine F.mv ?_;clear F fa;intro fa F
 refine F.vl (R_field rfl (F.at rfl) Tryz.underlying24 rfl (n:=1) (sz:=1) rfl (by kernel_rfl) (by decide)) ?_ (hw:=(wantT F rfl rfl (by decide) rfl));clear F fa;intro fa F
 refine F.vl (R_load rfl (F.at rfl) Tryz.underlying22 rfl ((cells_of_block q2 1).trans (getS (get0)))) ?_ (hw:=(wantT F rfl rfl (by decide) rfl));clear F fa;intro fa F
 refine F.vl (R_field rfl (F.at rfl) Tryz.underlying24 rfl (n:=1) (sz:=1) rfl (by kernel_rfl) (by decide)) ?_ (hw:=(wantT F rfl rfl (by decide) rfl));clear F fa;intro fa F
 refine F.vl (R_load rfl (F.at rfl) Tryz.underlying22 rfl ((cells_of_block q3 1).trans (getS (get0)))) ?_ (hw:=(wantT F rfl rfl (by decide) rfl));clear F fa;intro fa F
 refine sq_call F rfl (by decide) (wantT F rfl rfl (by decide) rfl) (R_callV rfl rfl Tryz.call16 (mpS (F.at rfl) (mpS (F.at rfl) mp0))) (sameLists_yes x.D y.D HD.out SD.out.2 SD.out.1 _ _ _ _ _ (HX.out.d.ext E) (HY.out.d.ext E)) fun e w3 hR=>?_
 obtain ⟨rfl,e9⟩:=hR
 refine ⟨_,rfl,?_⟩;clear F fa;intro fa F
 replace q2:=(e9).keep0 q2
 replace q3:=(e9).keep0 q3
 replace E:=ext_same E (e9)
 clear e9
 refine F.vl (R_pickT rfl (F.at rfl) (F.at rfl)) ?_;clear F fa;intro fa F
 refine F.mv ?_;clear F fa;intro fa F
 refine F.vl (R_field rfl (F.at rfl) Tryz.underlying24 rfl (n:=2) (sz:=1) rfl (by kernel_rfl) (by decide)) ?_ (hw:=(wantT F rfl rfl (by decide) rfl));clear F fa;intro fa F
 refine F.vl (R_load rfl (F.at rfl) Tryz.underlying22 rfl ((cells_of_block q2 2).trans (getS (getS (get0))))) ?_ (hw:=(wantT F rfl rfl (by decide) rfl));clear F fa;intro fa F
 refine F.vl (R_field rfl (F.at rfl) Tryz.underlying24 rfl (n:=2) (sz:=1) rfl (by kernel_rfl) (by decide)) ?_ (hw:=(wantT F rfl rfl (by decide) rfl));clear F fa;intro fa F
 refine F.vl (R_load rfl (F.at rfl) Tryz.underlying22 rfl ((cells_of_block q3 2).trans (getS (getS (get0))))) ?_ (hw:=(wantT F rfl rfl (by decide) rfl));clear F fa;intro fa F
 refine sq_call F rfl (by decide) (wantT F rfl rfl (by decide) rfl) (R_callV rfl rfl Tryz.call16 (mpS (F.at rfl) (mpS (F.at rfl) mp0))) (sameLists_yes x.L y.L HL.out SL.out.2 SL.out.1 _ _ _ _ _ (HX.out.l.ext E) (HY.out.l.ext E)) fun e w4 hR=>?_
 obtain ⟨rfl,e9⟩:=hR
 refine ⟨_,rfl,?_⟩;clear F fa;intro fa F
 replace q2:=(e9).keep0 q2
 replace q3:=(e9).keep0 q3
 replace E:=ext_same E (e9)
 clear e9
 refine F.vl (R_pickT rfl (F.at rfl) (F.at rfl)) ?_;clear F fa;intro fa F
 refine F.as ?_;clear F fa;intro fa F
 refine wpList_nil ?_
 refine hK2 _ _ ?_
 clear hK2
 refine wp_ret ?_
 (try simp only [Exit.inBlock,Exit.then,reduceIte])
 refine rt_v F (rs_1 F rfl rfl) ?_
 exact ⟨rfl,E⟩
theorem lol_of_own {w : World} {b b2 : Nat} {a : Option Addr} {c : Nat} {M : List (Value × List Int)} (oo : w.ownsRow b 25 1 (.slice a M.length c) M.length (M.map (·.1))) (fam : FamT w b2 M) : LolAt w a M:=⟨slAt_of_outer oo rfl,fun p hp=>fam_row fam hp⟩
theorem fam_lower {w : World} {b b' : Nat} {M : List (Value × List Int)} (h : FamT w b M) (hb : b' ≤ b) : FamT w b' M:=⟨fun p hp=>owns_lower (h.1 p hp) hb,h.2⟩
set_option maxRecDepth 100000 in
theorem dInside_any (n lo hi : Int) (w : World) : Calls Tryz.prog 93 #[.int .i64 n,.int .i64 lo,.int .i64 hi] w fun e w'=>e = .returned (.bool (!outB n lo hi)) ∧ Ext [] w w':=by
 have E : Ext [] w w:=Ext.refl _ _
 have hl : outB n lo hi = (decide (n < lo) || decide (hi < n)):=rfl
 refine calls_has 15 Tryz.func93 rfl Tryz.ntmps93 (Nat.le_of_ble_eq_true rfl) ?_
 intro fa F
 refine wp_seq_k fun K1 hK1=>?_
 refine wp_region_lit ?_
 refine F.vl (R_assign rfl (ev_c fa _)) ?_;clear F fa;intro fa F
 refine wpList_nil ?_
 refine hK1 _ _ ?_
 clear hK1
 refine wp_seq_k fun K2 hK2=>?_
 by_cases c1 : n < lo
 ·skip
  refine wp_region_lit ?_
  refine F.mv ?_;clear F fa;intro fa F
  refine F.mv ?_;clear F fa;intro fa F
  refine F.vl (R_geqB (b:=false) rfl (F.at rfl) (F.at rfl) (decide_eq_false ((by omega)))) ?_;clear F fa;intro fa F
  refine F.mv ?_;clear F fa;intro fa F
  refine sq_no F rfl (by decide) (wantF F rfl rfl (by decide) rfl (by decide)) ?_;clear F fa;intro fa F
  refine sq_no F rfl (by decide) (wantF F rfl rfl (by decide) rfl (by decide)) ?_;clear F fa;intro fa F
  refine sq_no F rfl (by decide) (wantF F rfl rfl (by decide) rfl (by decide)) ?_;clear F fa;intro fa F
  refine F.vl (R_pickF rfl (F.at rfl) (ev_c fa _)) ?_;clear F fa;intro fa F
  refine F.as ?_;clear F fa;intro fa F
  refine wpList_nil ?_
  rw [decide_eq_true c1,Bool.true_or] at hl
  refine hK2 _ _ ?_
  clear hK2
  refine wp_ret ?_
  (try simp only [Exit.inBlock,Exit.then,reduceIte])
  refine rt_v F (rs_1 F rfl rfl) ?_
  exact ⟨congrArg (fun x=>Ending.returned (Value.bool (!x))) hl.symm,E⟩
 ·skip
  by_cases c2 : hi < n
  ·skip
   refine wp_region_lit ?_
   refine F.mv ?_;clear F fa;intro fa F
   refine F.mv ?_;clear F fa;intro fa F
   refine F.vl (R_geqB (b:=true) rfl (F.at rfl) (F.at rfl) (decide_eq_true ((by omega)))) ?_;clear F fa;intro fa F
   refine F.mv ?_;clear F fa;intro fa F
   refine F.mv ?_ (hw:=(wantT F rfl rfl (by decide) rfl));clear F fa;intro fa F
   refine F.mv ?_ (hw:=(wantT F rfl rfl (by decide) rfl));clear F fa;intro fa F
   refine F.vl (R_leqB (b:=false) rfl (F.at rfl) (F.at rfl) (decide_eq_false ((by omega)))) ?_ (hw:=(wantT F rfl rfl (by decide) rfl));clear F fa;intro fa F
   refine F.vl (R_pickT rfl (F.at rfl) (F.at rfl)) ?_;clear F fa;intro fa F
   refine F.as ?_;clear F fa;intro fa F
   refine wpList_nil ?_
   rw [decide_eq_true c2,Bool.or_true] at hl
   refine hK2 _ _ ?_
   clear hK2
   refine wp_ret ?_
   (try simp only [Exit.inBlock,Exit.then,reduceIte])
   refine rt_v F (rs_1 F rfl rfl) ?_
   exact ⟨congrArg (fun x=>Ending.returned (Value.bool (!x))) hl.symm,E⟩
  ·skip
   refine wp_region_lit ?_
   refine F.mv ?_;clear F fa;intro fa F
   refine F.mv ?_;clear F fa;intro fa F
   refine F.vl (R_geqB (b:=true) rfl (F.at rfl) (F.at rfl) (decide_eq_true ((by omega)))) ?_;clear F fa;intro fa F
   refine F.mv ?_;clear F fa;intro fa F
   refine F.mv ?_ (hw:=(wantT F rfl rfl (by decide) rfl));clear F fa;intro fa F
   refine F.mv ?_ (hw:=(wantT F rfl rfl (by decide) rfl));clear F fa;intro fa F
   refine F.vl (R_leqB (b:=true) rfl (F.at rfl) (F.at rfl) (decide_eq_true ((by omega)))) ?_ (hw:=(wantT F rfl rfl (by decide) rfl));clear F fa;intro fa F
   refine F.vl (R_pickT rfl (F.at rfl) (F.at rfl)) ?_;clear F fa;intro fa F
   refine F.as ?_;clear F fa;intro fa F
   refine wpList_nil ?_
   rw [decide_eq_false c1,decide_eq_false c2] at hl
   refine hK2 _ _ ?_
   clear hK2
   refine wp_ret ?_
   (try simp only [Exit.inBlock,Exit.then,reduceIte])
   refine rt_v F (rs_1 F rfl rfl) ?_
   exact ⟨congrArg (fun x=>Ending.returned (Value.bool (!x))) hl.symm,E⟩
theorem dSized_any (n m : Int) (w : World) : Calls Tryz.prog 94 #[.int .i64 n,.int .i64 m] w fun e w'=>e = .returned (.int .i64 (sizE n m)) ∧ Ext [] w w':=by
 have E : Ext [] w w:=Ext.refl _ _
 refine calls_has 10 Tryz.func94 rfl Tryz.ntmps94 (Nat.le_of_ble_eq_true rfl) ?_
 intro fa F
 refine wp_seq_k fun K1 hK1=>?_
 refine wp_region_lit ?_
 refine F.vl (R_assign rfl (ev_c fa _)) ?_;clear F fa;intro fa F
 refine wpList_nil ?_
 refine hK1 _ _ ?_
 clear hK1
 refine wp_seq_k fun K2 hK2=>?_
 refine wp_seq_k fun K3 hK3=>?_
 refine wp_region_lit ?_
 refine F.mv ?_;clear F fa;intro fa F
 refine F.vl (R_eqlD rfl (F.at rfl) (ev_c fa _)) ?_;clear F fa;intro fa F
 refine wpList_nil ?_
 refine hK3 _ _ ?_
 clear hK3
 refine cd_if F rfl (fun hc6=>?_) (fun hc6=>?_)
 ·skip
  refine wp_seq_k fun K4 hK4=>?_
  refine wp_region_lit ?_
  refine F.vl (R_assign rfl (ev_c fa _)) ?_;clear F fa;intro fa F
  refine wpList_nil ?_
  refine hK4 _ _ ?_
  clear hK4
  refine wp_ret ?_
  (try simp only [Exit.inBlock,Exit.then,reduceIte])
  refine rt_v F (rs_1 F rfl rfl) ?_
  first | exact ⟨ret_int (by rw [sizE,if_pos (by omega)]),E⟩ | exact ⟨ret_int (by rw [sizE,if_neg (by omega),if_pos (by omega)]),E⟩ | exact ⟨ret_int (by rw [sizE,if_neg (by omega),if_neg (by omega)]),E⟩
 ·skip
  refine wp_skip ?_
  refine hK2 _ _ ?_
  clear hK2
  refine wp_seq_k fun K5 hK5=>?_
  refine wp_seq_k fun K6 hK6=>?_
  refine wp_region_lit ?_
  refine F.mv ?_;clear F fa;intro fa F
  refine F.mv ?_;clear F fa;intro fa F
  refine F.vl (R_gtr rfl (F.at rfl) (F.at rfl)) ?_;clear F fa;intro fa F
  refine wpList_nil ?_
  refine hK6 _ _ ?_
  clear hK6
  refine cd_if F rfl (fun hc9=>?_) (fun hc9=>?_)
  ·skip
   refine wp_seq_k fun K7 hK7=>?_
   refine wp_region_lit ?_
   refine F.vl (R_assign rfl (ev_c fa _)) ?_;clear F fa;intro fa F
   refine wpList_nil ?_
   refine hK7 _ _ ?_
   clear hK7
   refine wp_ret ?_
   (try simp only [Exit.inBlock,Exit.then,reduceIte])
   refine rt_v F (rs_1 F rfl rfl) ?_
   first | exact ⟨ret_int (by rw [sizE,if_pos (by omega)]),E⟩ | exact ⟨ret_int (by rw [sizE,if_neg (by omega),if_pos (by omega)]),E⟩ | exact ⟨ret_int (by rw [sizE,if_neg (by omega),if_neg (by omega)]),E⟩
  ·skip
   refine wp_skip ?_
   refine hK5 _ _ ?_
   clear hK5
   refine wp_seq_k fun K8 hK8=>?_
   refine wp_region_lit ?_
   refine F.vl (R_assign rfl (ev_c fa _)) ?_;clear F fa;intro fa F
   refine wpList_nil ?_
   refine hK8 _ _ ?_
   clear hK8
   refine wp_ret ?_
   (try simp only [Exit.inBlock,Exit.then,reduceIte])
   refine rt_v F (rs_1 F rfl rfl) ?_
   first | exact ⟨ret_int (by rw [sizE,if_pos (by omega)]),E⟩ | exact ⟨ret_int (by rw [sizE,if_neg (by omega),if_pos (by omega)]),E⟩ | exact ⟨ret_int (by rw [sizE,if_neg (by omega),if_neg (by omega)]),E⟩
set_option maxRecDepth 100000 in
theorem dSame_any (xs ys : List Int) (a b : Option Addr) (ca cb : Nat) (w : World) (hx : IsRows w (.slice a xs.length ca) 1 (xs.map intRow)) (hy : IsRows w (.slice b ys.length cb) 1 (ys.map intRow)) (he : xs.length = ys.length) (h1 : xs.length ≤ 1000000) :
  Calls Tryz.prog 96 #[.slice a xs.length ca,.slice b ys.length cb] w fun e w'=>e = .returned (.bool (decide (xs = ys))) ∧ Ext [] w w':=by
 have HS:=Lib.hid (slAt_of_rows hx 0)
 have HU:=Lib.hid (slAt_of_rows hy 0)
 have E : Ext [] w w:=Ext.refl _ _
 clear hx hy
 refine calls_has 21 Tryz.func96 rfl Tryz.ntmps96 (Nat.le_of_ble_eq_true rfl) ?_
 intro fa F
 refine wp_seq_k fun K1 hK1=>?_
 refine wp_region_lit ?_
 refine F.vl (R_assign rfl (ev_c fa _)) ?_;clear F fa;intro fa F
 refine wpList_nil ?_
 refine hK1 _ _ ?_
 clear hK1
 refine wp_seq_k fun K2 hK2=>?_
 refine wp_seq_k fun K3 hK3=>?_
 refine wp_region_lit ?_
 refine F.vl (R_assign rfl (ev_c fa _)) ?_;clear F fa;intro fa F
 refine wpList_nil ?_
 refine hK3 _ _ ?_
 clear hK3
 refine wp_block ?_
 have F0:=F.sub (.c 0 rfl (.c 1 rfl .n))
 refine lp_for F0 (xs.length) (fun i Lv W=>Lv = [(5,.int .i64 ((i : Nat) : Int))] ∧ Ext [] w W ∧ ∀ j,j < i → xs.getD j 0 = ys.getD j 0) ⟨_,⟨rfl,Ext.refl _ _,fun j hj=>absurd hj (by omega)⟩,F.sub (.c 5 rfl (.c 0 rfl (.c 1 rfl .n)))⟩ ?_
 clear F F0
 rintro i _ fa w1 hi1 ⟨rfl,EL1,hb⟩ F
 have E:=E.nil EL1
 refine wp_seq_k fun K4 hK4=>?_
 refine wp_seq_k fun K5 hK5=>?_
 refine wp_region_lit ?_
 refine F.mv ?_;clear F fa;intro fa F
 refine F.mv ?_;clear F fa;intro fa F
 refine F.vl (R_len rfl rfl (F.at rfl) Tryz.underlying25) ?_;clear F fa;intro fa F
 refine F.vl (R_lss rfl (F.at rfl) (F.at rfl)) ?_;clear F fa;intro fa F
 refine wpList_nil ?_
 refine hK5 _ _ ?_
 clear hK5
 refine cd_if F rfl (fun hc9=>?_) (fun hc9=>?_)
 ·skip
  refine wp_skip ?_
  refine hK4 _ _ ?_
  clear hK4
  refine wp_seq_k fun K6 hK6=>?_
  refine wp_block ?_
  refine wp_seq_k fun K7 hK7=>?_
  refine wp_region_st 8 follows (by kernel_rfl) fun w2 hh eh=>?_
  replace E:=ext_same E eh
  replace EL1:=ext_same EL1 eh
  clear hh eh
  refine F.smv ?_;clear F fa;intro fa F
  refine F.smv ?_;clear F fa;intro fa F
  obtain ⟨xb8,xo8,xa8,xr8⟩:=HS.out i (by omega)
  refine F.sv (R_ixSlice (sz:=1) rfl ((F.at rfl).trans (xa8 _ _)) (F.at rfl) Tryz.underlying25 (by kernel_rfl) (by omega) (by omega)) ?_;clear F fa;intro fa F
  refine F.sv (R_load rfl (F.at rfl) Tryz.underlying3 rfl (xr8 _ E 0 _ rfl)) ?_;clear F fa;intro fa F
  refine F.smv ?_;clear F fa;intro fa F
  refine F.smv ?_;clear F fa;intro fa F
  obtain ⟨xb9,xo9,xa9,xr9⟩:=HU.out i (by omega)
  refine F.sv (R_ixSlice (sz:=1) rfl ((F.at rfl).trans (xa9 _ _)) (F.at rfl) Tryz.underlying25 (by kernel_rfl) (by omega) (by omega)) ?_;clear F fa;intro fa F
  refine F.sv (R_load rfl (F.at rfl) Tryz.underlying3 rfl (xr9 _ E 0 _ rfl)) ?_;clear F fa;intro fa F
  refine wpStill_nil ?_
  refine F.vl (R_neqD rfl (F.at rfl) (F.at rfl)) ?_;clear F fa;intro fa F
  refine wpList_nil ?_
  refine hK7 _ _ ?_
  clear hK7
  refine cd_if F rfl (fun hc20=>?_) (fun hc20=>?_)
  ·skip
   refine wp_seq_k fun K10 hK10=>?_
   refine wp_region_lit ?_
   refine F.vl (R_assign rfl (ev_c fa _)) ?_;clear F fa;intro fa F
   refine wpList_nil ?_
   refine hK10 _ _ ?_
   clear hK10
   refine wp_ret ?_
   (try simp only [Exit.inBlock,Exit.then,reduceIte])
   refine rt_v F (rs_1 F rfl rfl) ?_
   exact ⟨ret_bool (decide_eq_false fun h=>hc20 (by rw [h])).symm,E⟩
  ·skip
   refine wp_skip ?_
   refine hK6 _ _ ?_
   clear hK6
   refine wp_region_lit ?_
   refine F.mv ?_;clear F fa;intro fa F
   refine F.vl (R_add rfl (F.at rfl) (ev_c fa _) (by omega) (by omega)) ?_;clear F fa;intro fa F
   refine F.as ?_;clear F fa;intro fa F
   refine wpList_nil ?_
   show _ ∧ _
   exact ⟨by omega,_,⟨rfl,EL1,fun j hj=>if e : j = i then e ▸ (by simpa using hc20) else hb j (by omega)⟩,F.sub (.c 5 rfl (.c 0 rfl (.c 1 rfl .n)))⟩
 ·skip
  refine wp_exit ?_
  refine hK2 _ _ ?_
  clear hK2
  refine wp_seq_k fun K11 hK11=>?_
  refine wp_region_lit ?_
  refine F.vl (R_assign rfl (ev_c fa _)) ?_;clear F fa;intro fa F
  refine wpList_nil ?_
  refine hK11 _ _ ?_
  clear hK11
  refine wp_ret ?_
  (try simp only [Exit.inBlock,Exit.then,reduceIte])
  refine rt_v F (rs_1 F rfl rfl) ?_
  exact ⟨ret_bool (decide_eq_true (List.ext_getElem (by omega) fun j h1 h2=>by have:=hb j (by omega);simpa [h1,h2] using this)).symm,E⟩
set_option maxRecDepth 100000 in
theorem dBanded_any (B tol : Int) (dv lv : Value) (l : List Int) (hi : Int) (a : Option Addr) (c : Nat) (w : World) (h : IsRows w (.slice a l.length c) 1 (l.map intRow)) (hl : l.length ≤ 1000) :
  Calls Tryz.prog 95 #[.agg #[.int .i64 B,dv,lv,.int .i64 tol],.slice a l.length c,.int .i64 hi] w fun e w'=>e = .returned (.int .i64 (numE l B hi)) ∧ Ext [] w w':=by
 have HS:=Lib.hid (slAt_of_rows h 0)
 have E : Ext [] w w:=Ext.refl _ _
 clear h
 refine calls_has 26 Tryz.func95 rfl Tryz.ntmps95 (Nat.le_of_ble_eq_true rfl) ?_
 intro fa F
 refine wp_seq_k fun K1 hK1=>?_
 refine wp_region_lit ?_
 refine sq_new F rfl (by decide) rfl (R_box rfl (F.at rfl)) ?_;clear F fa;intro fa w1 F hw
 obtain ⟨n3,hn⟩ : ∃ n,n = w.heap.size:=⟨_,rfl⟩
 rw [← hn] at F
 have s3 : w.heap.size ≤ n3:=Nat.le_of_eq hn.symm
 have l3_E : w.heap.size ≤ n3:=by rw [hn];exact E.size
 replace E:=ext_alloc E hw
 have q3:=new_row hw hn
 clear hw hn
 refine F.vl (R_assign rfl (ev_c fa _)) ?_;clear F fa;intro fa F
 refine wpList_nil ?_
 refine hK1 _ _ ?_
 clear hK1
 refine wp_seq_k fun K2 hK2=>?_
 refine wp_seq_k fun K3 hK3=>?_
 refine wp_region_lit ?_
 refine F.mv ?_;clear F fa;intro fa F
 refine F.vl (R_len rfl rfl (F.at rfl) Tryz.underlying25) ?_;clear F fa;intro fa F
 refine F.vl (R_field rfl (F.at rfl) Tryz.underlying24 rfl (n:=0) (sz:=1) rfl (by kernel_rfl) (by decide)) ?_;clear F fa;intro fa F
 refine F.vl (R_load rfl (F.at rfl) Tryz.underlying3 rfl ((cells_of_block q3 0).trans (get0))) ?_;clear F fa;intro fa F
 refine F.vl (R_neqD rfl (F.at rfl) (F.at rfl)) ?_;clear F fa;intro fa F
 refine wpList_nil ?_
 refine hK3 _ _ ?_
 clear hK3
 refine cd_if F rfl (fun hc12=>?_) (fun hc12=>?_)
 ·skip
  refine wp_seq_k fun K4 hK4=>?_
  refine wp_region_lit ?_
  refine F.vl (R_assign rfl (ev_c fa _)) ?_;clear F fa;intro fa F
  refine wpList_nil ?_
  refine hK4 _ _ ?_
  clear hK4
  refine wp_ret ?_
  (try simp only [Exit.inBlock,Exit.then,reduceIte])
  refine rt_v F (rs_1 F rfl rfl) ?_
  have e : numE l B hi = 9:=(by rw [numE,if_pos (by omega)])
  exact ⟨by rw [e],E⟩
 ·skip
  refine wp_skip ?_
  refine hK2 _ _ ?_
  clear hK2
  refine wp_seq_k fun K5 hK5=>?_
  refine wp_seq_k fun K6 hK6=>?_
  refine wp_region_lit ?_
  refine F.vl (R_assign rfl (ev_c fa _)) ?_;clear F fa;intro fa F
  refine wpList_nil ?_
  refine hK6 _ _ ?_
  clear hK6
  refine wp_block ?_
  have F0:=F.sub (.c 1 rfl (.c 2 rfl .n))
  refine lp_for F0 (l.length) (fun i Lv W=>Lv = [(7,.int .i64 ((i : Nat) : Int))] ∧ Ext [] w1 W ∧ (∀ j,j < i → outB (l.getD j 0) 0 hi = false)) ⟨_,⟨rfl,Ext.refl _ _,(fun j hj=>absurd hj (by omega))⟩,F.sub (.c 7 rfl (.c 1 rfl (.c 2 rfl .n)))⟩ ?_
  clear F F0
  rintro i _ fa w2 hi1 ⟨rfl,EL1,hb⟩ F
  have q3:=EL1.keep0 q3
  have E:=E.nil EL1
  refine wp_seq_k fun K7 hK7=>?_
  refine wp_seq_k fun K8 hK8=>?_
  refine wp_region_lit ?_
  refine F.mv ?_;clear F fa;intro fa F
  refine F.mv ?_;clear F fa;intro fa F
  refine F.vl (R_len rfl rfl (F.at rfl) Tryz.underlying25) ?_;clear F fa;intro fa F
  refine F.vl (R_lss rfl (F.at rfl) (F.at rfl)) ?_;clear F fa;intro fa F
  refine wpList_nil ?_
  refine hK8 _ _ ?_
  clear hK8
  refine cd_if F rfl (fun hc16=>?_) (fun hc16=>?_)
  ·skip
   refine wp_skip ?_
   refine hK7 _ _ ?_
   clear hK7
   refine wp_seq_k fun K9 hK9=>?_
   refine wp_block ?_
   refine wp_seq_k fun K10 hK10=>?_
   refine wp_region_lit ?_
   refine F.mv ?_;clear F fa;intro fa F
   refine F.mv ?_;clear F fa;intro fa F
   obtain ⟨xb11,xo11,xa11,xr11⟩:=HS.out i (by omega)
   refine F.vl (R_ixSlice (sz:=1) rfl ((F.at rfl).trans (xa11 _ _)) (F.at rfl) Tryz.underlying25 (by kernel_rfl) (by omega) (by omega)) ?_;clear F fa;intro fa F
   refine F.vl (R_load rfl (F.at rfl) Tryz.underlying3 rfl (xr11 _ E 0 _ rfl)) ?_;clear F fa;intro fa F
   refine F.mv ?_;clear F fa;intro fa F
   refine sq_call F rfl (by decide) rfl (R_callV rfl rfl Tryz.call93 (mpS (F.at rfl) (mpS (ev_c fa _) (mpS (F.at rfl) mp0)))) (dInside_any (l.getD i 0) 0 hi _) fun e w3 hR=>?_
   obtain ⟨rfl,e9⟩:=hR
   refine ⟨_,rfl,?_⟩;clear F fa;intro fa F
   replace q3:=(e9).keep0 q3
   replace E:=ext_same E (e9)
   replace EL1:=ext_same EL1 (e9)
   clear e9
   refine F.vl (R_not rfl (F.at rfl)) ?_;clear F fa;intro fa F
   refine wpList_nil ?_
   refine hK10 _ _ ?_
   clear hK10
   refine cd_b F rfl (fun hc25=>?_) (fun hc25=>?_)
   ·skip
    have hyes : outB (l.getD i 0) 0 hi = true:=by simpa using hc25
    refine wp_seq_k fun K12 hK12=>?_
    refine wp_region_lit ?_
    refine F.vl (R_assign rfl (ev_c fa _)) ?_;clear F fa;intro fa F
    refine wpList_nil ?_
    refine hK12 _ _ ?_
    clear hK12
    refine wp_ret ?_
    (try simp only [Exit.inBlock,Exit.then,reduceIte])
    refine rt_v F (rs_1 F rfl rfl) ?_
    have e : numE l B hi = 1:=(by rw [numE,if_neg (by omega),all_bad (by omega) hyes];rfl)
    exact ⟨by rw [e],E⟩
   ·skip
    have hno : outB (l.getD i 0) 0 hi = false:=by simpa using hc25
    refine wp_skip ?_
    refine hK9 _ _ ?_
    clear hK9
    refine wp_region_lit ?_
    refine F.mv ?_;clear F fa;intro fa F
    refine F.vl (R_add rfl (F.at rfl) (ev_c fa _) (by omega) (by omega)) ?_;clear F fa;intro fa F
    refine F.as ?_;clear F fa;intro fa F
    refine wpList_nil ?_
    show _ ∧ _
    exact ⟨by omega,_,⟨rfl,EL1,(fun j hj=>if e : j = i then e ▸ hno else hb j (by omega))⟩,F.sub (.c 7 rfl (.c 1 rfl (.c 2 rfl .n)))⟩
  ·skip
   refine wp_exit ?_
   refine hK5 _ _ ?_
   clear hK5
   refine wp_seq_k fun K13 hK13=>?_
   refine wp_region_lit ?_
   refine F.vl (R_assign rfl (ev_c fa _)) ?_;clear F fa;intro fa F
   refine wpList_nil ?_
   refine hK13 _ _ ?_
   clear hK13
   refine wp_ret ?_
   (try simp only [Exit.inBlock,Exit.then,reduceIte])
   refine rt_v F (rs_1 F rfl rfl) ?_
   have e : numE l B hi = 0:=(by rw [numE,if_neg (by omega),all_take hb (by omega)];rfl)
   exact ⟨by rw [e],E⟩
def cntE (l : List Int) (many hi : Int) : Int:=if (l.length : Int) < many then 7 else if many < l.length then 6 else if l.all (fun n=>!outB n 0 hi) then 0 else 1
set_option maxRecDepth 100000 in
theorem dCounted_any (l : List Int) (many hi : Int) (a : Option Addr) (c : Nat) (w : World) (h : IsRows w (.slice a l.length c) 1 (l.map intRow)) (hl : l.length ≤ 1000) :
  Calls Tryz.prog 78 #[.slice a l.length c,.int .i64 many,.int .i64 hi] w fun e w'=>e = .returned (.int .i64 (cntE l many hi)) ∧ Ext [] w w':=by
 have HS:=Lib.hid (slAt_of_rows h 0)
 have E : Ext [] w w:=Ext.refl _ _
 clear h
 refine calls_has 29 Tryz.func78 rfl Tryz.ntmps78 (Nat.le_of_ble_eq_true rfl) ?_
 intro fa F
 refine wp_seq_k fun K1 hK1=>?_
 refine wp_region_lit ?_
 refine F.vl (R_assign rfl (ev_c fa _)) ?_;clear F fa;intro fa F
 refine wpList_nil ?_
 refine hK1 _ _ ?_
 clear hK1
 refine wp_seq_k fun K2 hK2=>?_
 refine wp_seq_k fun K3 hK3=>?_
 refine wp_region_lit ?_
 refine F.mv ?_;clear F fa;intro fa F
 refine F.vl (R_len rfl rfl (F.at rfl) Tryz.underlying25) ?_;clear F fa;intro fa F
 refine F.mv ?_;clear F fa;intro fa F
 refine F.vl (R_lss rfl (F.at rfl) (F.at rfl)) ?_;clear F fa;intro fa F
 refine wpList_nil ?_
 refine hK3 _ _ ?_
 clear hK3
 refine cd_if F rfl (fun hc11=>?_) (fun hc11=>?_)
 ·skip
  refine wp_seq_k fun K4 hK4=>?_
  refine wp_region_lit ?_
  refine F.vl (R_assign rfl (ev_c fa _)) ?_;clear F fa;intro fa F
  refine wpList_nil ?_
  refine hK4 _ _ ?_
  clear hK4
  refine wp_ret ?_
  (try simp only [Exit.inBlock,Exit.then,reduceIte])
  refine rt_v F (rs_1 F rfl rfl) ?_
  have e : cntE l many hi = 7:=(by rw [cntE,if_pos (by omega)])
  exact ⟨by rw [e],E⟩
 ·skip
  refine wp_skip ?_
  refine hK2 _ _ ?_
  clear hK2
  refine wp_seq_k fun K5 hK5=>?_
  refine wp_seq_k fun K6 hK6=>?_
  refine wp_region_lit ?_
  refine F.mv ?_;clear F fa;intro fa F
  refine F.vl (R_len rfl rfl (F.at rfl) Tryz.underlying25) ?_;clear F fa;intro fa F
  refine F.mv ?_;clear F fa;intro fa F
  refine F.vl (R_gtr rfl (F.at rfl) (F.at rfl)) ?_;clear F fa;intro fa F
  refine wpList_nil ?_
  refine hK6 _ _ ?_
  clear hK6
  refine cd_if F rfl (fun hc15=>?_) (fun hc15=>?_)
  ·skip
   refine wp_seq_k fun K7 hK7=>?_
   refine wp_region_lit ?_
   refine F.vl (R_assign rfl (ev_c fa _)) ?_;clear F fa;intro fa F
   refine wpList_nil ?_
   refine hK7 _ _ ?_
   clear hK7
   refine wp_ret ?_
   (try simp only [Exit.inBlock,Exit.then,reduceIte])
   refine rt_v F (rs_1 F rfl rfl) ?_
   have e : cntE l many hi = 6:=(by rw [cntE,if_neg (by omega),if_pos (by omega)])
   exact ⟨by rw [e],E⟩
  ·skip
   refine wp_skip ?_
   refine hK5 _ _ ?_
   clear hK5
   refine wp_seq_k fun K8 hK8=>?_
   refine wp_seq_k fun K9 hK9=>?_
   refine wp_region_lit ?_
   refine F.vl (R_assign rfl (ev_c fa _)) ?_;clear F fa;intro fa F
   refine wpList_nil ?_
   refine hK9 _ _ ?_
   clear hK9
   refine wp_block ?_
   have F0:=F.sub (.c 0 rfl (.c 2 rfl .n))
   refine lp_for F0 (l.length) (fun i Lv W=>Lv = [(7,.int .i64 ((i : Nat) : Int))] ∧ Ext [] w W ∧ (∀ j,j < i → outB (l.getD j 0) 0 hi = false)) ⟨_,⟨rfl,Ext.refl _ _,(fun j hj=>absurd hj (by omega))⟩,F.sub (.c 7 rfl (.c 0 rfl (.c 2 rfl .n)))⟩ ?_
   clear F F0
   rintro i _ fa w1 hi1 ⟨rfl,EL1,hb⟩ F
   have E:=E.nil EL1
   refine wp_seq_k fun K10 hK10=>?_
   refine wp_seq_k fun K11 hK11=>?_
   refine wp_region_lit ?_
   refine F.mv ?_;clear F fa;intro fa F
   refine F.mv ?_;clear F fa;intro fa F
   refine F.vl (R_len rfl rfl (F.at rfl) Tryz.underlying25) ?_;clear F fa;intro fa F
   refine F.vl (R_lss rfl (F.at rfl) (F.at rfl)) ?_;clear F fa;intro fa F
   refine wpList_nil ?_
   refine hK11 _ _ ?_
   clear hK11
   refine cd_if F rfl (fun hc19=>?_) (fun hc19=>?_)
   ·skip
    refine wp_skip ?_
    refine hK10 _ _ ?_
    clear hK10
    refine wp_seq_k fun K12 hK12=>?_
    refine wp_block ?_
    refine wp_seq_k fun K13 hK13=>?_
    refine wp_region_lit ?_
    refine F.mv ?_;clear F fa;intro fa F
    refine F.mv ?_;clear F fa;intro fa F
    obtain ⟨xb14,xo14,xa14,xr14⟩:=HS.out i (by omega)
    refine F.vl (R_ixSlice (sz:=1) rfl ((F.at rfl).trans (xa14 _ _)) (F.at rfl) Tryz.underlying25 (by kernel_rfl) (by omega) (by omega)) ?_;clear F fa;intro fa F
    refine F.vl (R_load rfl (F.at rfl) Tryz.underlying3 rfl (xr14 _ E 0 _ rfl)) ?_;clear F fa;intro fa F
    refine F.mv ?_;clear F fa;intro fa F
    refine sq_call F rfl (by decide) rfl (R_callV rfl rfl Tryz.call93 (mpS (F.at rfl) (mpS (ev_c fa _) (mpS (F.at rfl) mp0)))) (dInside_any (l.getD i 0) 0 hi _) fun e w2 hR=>?_
    obtain ⟨rfl,e9⟩:=hR
    refine ⟨_,rfl,?_⟩;clear F fa;intro fa F
    replace E:=ext_same E (e9)
    replace EL1:=ext_same EL1 (e9)
    clear e9
    refine F.vl (R_not rfl (F.at rfl)) ?_;clear F fa;intro fa F
    refine wpList_nil ?_
    refine hK13 _ _ ?_
    clear hK13
    refine cd_b F rfl (fun hc28=>?_) (fun hc28=>?_)
    ·skip
     have hyes : outB (l.getD i 0) 0 hi = true:=by simpa using hc28
     refine wp_seq_k fun K15 hK15=>?_
     refine wp_region_lit ?_
     refine F.vl (R_assign rfl (ev_c fa _)) ?_;clear F fa;intro fa F
     refine wpList_nil ?_
     refine hK15 _ _ ?_
     clear hK15
     refine wp_ret ?_
     (try simp only [Exit.inBlock,Exit.then,reduceIte])
     refine rt_v F (rs_1 F rfl rfl) ?_
     have e : cntE l many hi = 1:=(by rw [cntE,if_neg (by omega),if_neg (by omega),all_bad (by omega) hyes];rfl)
     exact ⟨by rw [e],E⟩
    ·skip
     have hno : outB (l.getD i 0) 0 hi = false:=by simpa using hc28
     refine wp_skip ?_
     refine hK12 _ _ ?_
     clear hK12
     refine wp_region_lit ?_
     refine F.mv ?_;clear F fa;intro fa F
     refine F.vl (R_add rfl (F.at rfl) (ev_c fa _) (by omega) (by omega)) ?_;clear F fa;intro fa F
     refine F.as ?_;clear F fa;intro fa F
     refine wpList_nil ?_
     show _ ∧ _
     exact ⟨by omega,_,⟨rfl,EL1,(fun j hj=>if e : j = i then e ▸ hno else hb j (by omega))⟩,F.sub (.c 7 rfl (.c 0 rfl (.c 2 rfl .n)))⟩
   ·skip
    refine wp_exit ?_
    refine hK8 _ _ ?_
    clear hK8
    refine wp_seq_k fun K16 hK16=>?_
    refine wp_region_lit ?_
    refine F.vl (R_assign rfl (ev_c fa _)) ?_;clear F fa;intro fa F
    refine wpList_nil ?_
    refine hK16 _ _ ?_
    clear hK16
    refine wp_ret ?_
    (try simp only [Exit.inBlock,Exit.then,reduceIte])
    refine rt_v F (rs_1 F rfl rfl) ?_
    have e : cntE l many hi = 0:=(by rw [cntE,if_neg (by omega),if_neg (by omega),all_take hb (by omega)];rfl)
    exact ⟨by rw [e],E⟩
set_option maxRecDepth 100000 in
theorem dTotal_any (l : List Int) (a : Option Addr) (c : Nat) (w : World) (h : IsRows w (.slice a l.length c) 1 (l.map intRow)) (hl : l.length ≤ 1000) (hn : ∀ n ∈ l,0 ≤ n ∧ n ≤ 1000) :
  Calls Tryz.prog 50 #[.slice a l.length c] w fun e w'=>e = .returned (.int .i64 l.sum) ∧ Ext [] w w':=by
 have HS:=Lib.hid (slAt_of_rows h 0)
 have HN:=Lib.hid hn
 have E : Ext [] w w:=Ext.refl _ _
 clear h hn
 refine calls_has 18 Tryz.func50 rfl Tryz.ntmps50 (Nat.le_of_ble_eq_true rfl) ?_
 intro fa F
 refine wp_seq_k fun K1 hK1=>?_
 refine wp_region_lit ?_
 refine F.vl (R_assign rfl (ev_c fa _)) ?_;clear F fa;intro fa F
 refine wpList_nil ?_
 refine hK1 _ _ ?_
 clear hK1
 refine wp_seq_k fun K2 hK2=>?_
 refine wp_region_lit ?_
 refine F.vl (R_assign rfl (ev_c fa _)) ?_;clear F fa;intro fa F
 rw [show (0 : Int) = (l.take 0).sum from rfl] at F
 refine wpList_nil ?_
 refine hK2 _ _ ?_
 clear hK2
 refine wp_seq_k fun K3 hK3=>?_
 refine wp_seq_k fun K4 hK4=>?_
 refine wp_region_lit ?_
 refine F.vl (R_assign rfl (ev_c fa _)) ?_;clear F fa;intro fa F
 refine wpList_nil ?_
 refine hK4 _ _ ?_
 clear hK4
 refine wp_block ?_
 have F0:=F.sub (.c 0 rfl .n)
 refine lp_for F0 (l.length) (fun i Lv W=>Lv = [(3,.int .i64 ((l.take i).sum)),(4,.int .i64 ((i : Nat) : Int))] ∧ Ext [] w W ∧ 0 ≤ (l.take i).sum ∧ (l.take i).sum ≤ 1000 * (i : Int)) ⟨_,⟨rfl,Ext.refl _ _,(by simp),(by simp)⟩,F.sub (.c 3 rfl (.c 4 rfl (.c 0 rfl .n)))⟩ ?_
 clear F F0
 rintro i _ fa w1 hi1 ⟨rfl,EL1,hs0,hs1⟩ F
 have E:=E.nil EL1
 refine wp_seq_k fun K5 hK5=>?_
 refine wp_seq_k fun K6 hK6=>?_
 refine wp_region_lit ?_
 refine F.mv ?_;clear F fa;intro fa F
 refine F.mv ?_;clear F fa;intro fa F
 refine F.vl (R_len rfl rfl (F.at rfl) Tryz.underlying25) ?_;clear F fa;intro fa F
 refine F.vl (R_lss rfl (F.at rfl) (F.at rfl)) ?_;clear F fa;intro fa F
 refine wpList_nil ?_
 refine hK6 _ _ ?_
 clear hK6
 refine cd_if F rfl (fun hc8=>?_) (fun hc8=>?_)
 ·skip
  refine wp_skip ?_
  refine hK5 _ _ ?_
  clear hK5
  refine wp_seq_k fun K7 hK7=>?_
  refine wp_block ?_
  obtain ⟨hn1,hn2⟩:=HN.out _ (getD_mem 0 (show i < l.length by omega))
  refine wp_region_lit ?_
  refine F.mv ?_;clear F fa;intro fa F
  refine F.mv ?_;clear F fa;intro fa F
  refine F.mv ?_;clear F fa;intro fa F
  obtain ⟨xb8,xo8,xa8,xr8⟩:=HS.out i (by omega)
  refine F.vl (R_ixSlice (sz:=1) rfl ((F.at rfl).trans (xa8 _ _)) (F.at rfl) Tryz.underlying25 (by kernel_rfl) (by omega) (by omega)) ?_;clear F fa;intro fa F
  refine F.vl (R_load rfl (F.at rfl) Tryz.underlying3 rfl (xr8 _ E 0 _ rfl)) ?_;clear F fa;intro fa F
  refine F.vl (R_add rfl (F.at rfl) (F.at rfl) (by omega) (by omega)) ?_;clear F fa;intro fa F
  rw [← sum_take l (show i < l.length by omega)] at F
  refine F.as ?_;clear F fa;intro fa F
  refine wpList_nil ?_
  refine hK7 _ _ ?_
  clear hK7
  refine wp_region_lit ?_
  refine F.mv ?_;clear F fa;intro fa F
  refine F.vl (R_add rfl (F.at rfl) (ev_c fa _) (by omega) (by omega)) ?_;clear F fa;intro fa F
  refine F.as ?_;clear F fa;intro fa F
  refine wpList_nil ?_
  show _ ∧ _
  exact ⟨by omega,_,⟨rfl,EL1,(by rw [sum_take l (by omega)];omega),(by rw [sum_take l (by omega)];omega)⟩,F.sub (.c 3 rfl (.c 4 rfl (.c 0 rfl .n)))⟩
 ·skip
  refine wp_exit ?_
  refine hK3 _ _ ?_
  clear hK3
  refine wp_seq_k fun K9 hK9=>?_
  refine wp_region_lit ?_
  refine F.mv ?_;clear F fa;intro fa F
  refine F.as ?_;clear F fa;intro fa F
  refine wpList_nil ?_
  refine hK9 _ _ ?_
  clear hK9
  refine wp_ret ?_
  (try simp only [Exit.inBlock,Exit.then,reduceIte])
  refine rt_v F (rs_1 F rfl rfl) ?_
  exact ⟨ret_int (by rw [List.take_of_length_le (by omega)]),E⟩
def tubC (f : Nat → Int) : Array Value:=#[.int .i64 (f 0),.int .i64 (f 1),.int .i64 (f 2),.int .i64 (f 3)]
def upF (f : Nat → Int) (k : Nat) (v : Int) : Nat → Int:=fun j=>if j = k then v else f j
def zf : Nat → Int:=fun _=>0
theorem tub_ix {f : Nat → Int} {i : Int} {k : Nat} (h : i.toNat = k) (hk : k < 4) : (tubC f)[i.toNat]? = some (.int .i64 (f k)):=by
 subst h
 rcases hi : i.toNat with _ | _ | _ | _ | n
 ·rfl
 ·rfl
 ·rfl
 ·rfl
 ·omega
theorem tub_at {w : World} {b : Nat} {T : TypeId} {fz : Nat × Nat} {f : Nat → Int} (H : w.heap[b]? = some (.cells (tubC f) T fz)) {i : Int} {k : Nat} (h : i.toNat = k) (hk : k < 4) : w.cell? ⟨b,0 + i.toNat * 1,none⟩ = some (.int .i64 (f k)):=by
 rw [cells_of_block H,Nat.zero_add,Nat.mul_one]
 exact tub_ix h hk
theorem put_tub {w w2 : World} {b : Nat} {T : TypeId} {f : Nat → Int} {i v : Int} (e : w2 = w.setCell ⟨b,0 + i.toNat * 1,none⟩ (.int .i64 v)) (H : w.heap[b]? = some (.cells (tubC f) T (0,0))) {k : Nat} (h : i.toNat = k) (hk : k < 4) : w2.heap[b]? = some (.cells (tubC (upF f k v)) T (0,0)):=by
 refine put_cell e H ?_
 rw [Nat.zero_add,Nat.mul_one,h]
 clear e H h
 match k,hk with
 | 0,_=>rfl
 | 1,_=>rfl
 | 2,_=>rfl
 | 3,_=>rfl
theorem tub_congr {f g : Nat → Int} (h : ∀ k,k < 4 → f k = g k) : tubC f = tubC g:=by
 rw [tubC,tubC,h 0 (by omega),h 1 (by omega),h 2 (by omega),h 3 (by omega)]
def sumTo (f : Nat → Int) : Nat → Int
 | 0=>0
 | n + 1=>sumTo f n + f n
theorem sumTo_congr {f g : Nat → Int} : ∀ {n : Nat},(∀ k,k < n → f k = g k) → sumTo f n = sumTo g n
 | 0,_=>rfl
 | n + 1,h=>by rw [sumTo,sumTo,sumTo_congr (n:=n) (fun k hk=>h k (by omega)),h n (by omega)]
theorem sumTo_bd {f : Nat → Int} {a b : Int} : ∀ {n : Nat},(∀ k,k < n → a ≤ f k ∧ f k ≤ b) → a * n ≤ sumTo f n ∧ sumTo f n ≤ b * n
 | 0,_=>by simp [sumTo]
 | n + 1,h=>by
  have h1:=sumTo_bd (n:=n) (fun k hk=>h k (by omega))
  have h2:=h n (by omega)
  rw [sumTo,show ((n + 1 : Nat) : Int) = (n : Int) + 1 from rfl,Int.mul_add,Int.mul_add]
  omega
theorem sumTo_list (l : List Int) : ∀ n : Nat,l.length ≤ n → sumTo (val l) n = l.sum:=by
 have hk : ∀ n : Nat,n ≤ l.length → sumTo (val l) n = (l.take n).sum:=by
  intro n
  induction n with
  | zero=>intro _;simp [sumTo]
  | succ n ih=>intro h;rw [sumTo,ih (by omega),sum_take l (by omega)];rfl
 intro n h
 induction n with
 | zero=>rw [hk 0 (by omega)];have : l = []:=List.length_eq_zero_iff.1 (by omega);subst this;rfl
 | succ n ih =>
  by_cases e : l.length = n + 1
  ·rw [hk (n + 1) (by omega),List.take_of_length_le (by omega)]
  ·rw [sumTo,ih (by omega)]
   simp [val,List.getElem?_eq_none (show l.length ≤ n by omega)]
def prt (f : Nat → Int) : Int:=sumTo f 4
def TubOk (f : Nat → Int) : Prop:=∀ k,k < 4 → 0 ≤ f k ∧ f k ≤ 1000
set_option maxRecDepth 100000 in
theorem parts_any (f : Nat → Int) (hf : TubOk f) (w : World) : Calls Tryz.prog 48 #[.agg (tubC f)] w fun e w'=>e = .returned (.int .i64 (prt f)) ∧ Ext [] w w':=by
 have E : Ext [] w w:=Ext.refl _ _
 have HF:=Lib.hid hf
 clear hf
 refine calls_has 15 Tryz.func48 rfl Tryz.ntmps48 (Nat.le_of_ble_eq_true rfl) ?_
 intro fa F
 refine wp_seq_k fun K1 hK1=>?_
 refine wp_region_lit ?_
 refine sq_new F rfl (by decide) rfl (R_box rfl (F.at rfl)) ?_;clear F fa;intro fa w1 F hw
 obtain ⟨n1,hn⟩ : ∃ n,n = w.heap.size:=⟨_,rfl⟩
 rw [← hn] at F
 have s1 : w.heap.size ≤ n1:=Nat.le_of_eq hn.symm
 have l1_E : w.heap.size ≤ n1:=by rw [hn];exact E.size
 replace E:=ext_alloc E hw
 have q1:=new_row hw hn
 clear hw hn
 refine F.vl (R_assign rfl (ev_c fa _)) ?_;clear F fa;intro fa F
 refine wpList_nil ?_
 refine hK1 _ _ ?_
 clear hK1
 refine wp_seq_k fun K2 hK2=>?_
 refine wp_region_lit ?_
 refine F.vl (R_assign rfl (ev_c fa _)) ?_;clear F fa;intro fa F
 rw [show (0 : Int) = sumTo f 0 from rfl] at F
 refine wpList_nil ?_
 refine hK2 _ _ ?_
 clear hK2
 refine wp_seq_k fun K3 hK3=>?_
 refine wp_seq_k fun K4 hK4=>?_
 refine wp_region_lit ?_
 refine F.vl (R_loadBlk rfl (F.at rfl) Tryz.underlying75 rfl (by kernel_rfl) q1) ?_;clear F fa;intro fa F
 refine F.vl (R_move rfl (ev_c fa _)) ?_;clear F fa;intro fa F
 rw [show (0 : Int) = ((0 : Nat) : Int) from rfl] at F
 refine wpList_nil ?_
 refine hK4 _ _ ?_
 clear hK4
 refine wp_block ?_
 have F0:=F.sub (.c 6 rfl .n)
 refine lp_for F0 (4) (fun i Lv W=>Lv = [(3,.int .i64 (sumTo f i)),(7,.int .i64 ((i : Nat) : Int))] ∧ Ext [] w1 W ∧ 0 ≤ sumTo f i ∧ sumTo f i ≤ 1000 * (i : Int)) ⟨_,⟨rfl,Ext.refl _ _,(by simp [sumTo]),(by simp [sumTo])⟩,F.sub (.c 3 rfl (.c 7 rfl (.c 6 rfl .n)))⟩ ?_
 clear F F0
 rintro i _ fa w2 hi1 ⟨rfl,EL1,hs0,hs1⟩ F
 have q1:=EL1.keep0 q1
 have E:=E.nil EL1
 refine wp_seq_k fun K5 hK5=>?_
 refine wp_region_lit ?_
 refine F.vl (R_lss rfl (F.at rfl) (ev_c fa _)) ?_;clear F fa;intro fa F
 refine wpList_nil ?_
 refine hK5 _ _ ?_
 clear hK5
 refine wp_seq_k fun K6 hK6=>?_
 refine cd_if F rfl (fun hc8=>?_) (fun hc8=>?_)
 ·skip
  refine wp_skip ?_
  refine hK6 _ _ ?_
  clear hK6
  refine wp_seq_k fun K7 hK7=>?_
  refine wp_block ?_
  refine wp_seq_k fun K8 hK8=>?_
  refine wp_region_lit ?_
  refine F.vl (R_index rfl (F.at rfl) (F.at rfl) Tryz.underlying75 (by kernel_rfl) Tryz.underlying3 rfl (by omega) (by omega) (tub_ix (k:=i) rfl (by omega))) ?_;clear F fa;intro fa F
  refine F.as ?_;clear F fa;intro fa F
  refine wpList_nil ?_
  refine hK8 _ _ ?_
  clear hK8
  obtain ⟨hf0,hf1⟩:=HF.out i (by omega)
  refine wp_region_lit ?_
  refine F.mv ?_;clear F fa;intro fa F
  refine F.mv ?_;clear F fa;intro fa F
  refine F.vl (R_add rfl (F.at rfl) (F.at rfl) (by omega) (by omega)) ?_;clear F fa;intro fa F
  rw [show sumTo f i + f i = sumTo f (i + 1) from rfl] at F
  refine F.as ?_;clear F fa;intro fa F
  refine wpList_nil ?_
  refine hK7 _ _ ?_
  clear hK7
  refine wp_region_lit ?_
  refine F.vl (R_add rfl (F.at rfl) (ev_c fa _) (by omega) (by omega)) ?_;clear F fa;intro fa F
  refine F.mv ?_;clear F fa;intro fa F
  refine wpList_nil ?_
  show _ ∧ _
  exact ⟨by omega,_,⟨rfl,EL1,(by rw [sumTo];omega),(by rw [sumTo];omega)⟩,F.sub (.c 3 rfl (.c 7 rfl (.c 6 rfl .n)))⟩
 ·skip
  refine wp_exit ?_
  refine hK3 _ _ ?_
  clear hK3
  refine wp_seq_k fun K9 hK9=>?_
  refine wp_region_lit ?_
  refine F.mv ?_;clear F fa;intro fa F
  refine F.as ?_;clear F fa;intro fa F
  refine wpList_nil ?_
  refine hK9 _ _ ?_
  clear hK9
  refine wp_ret ?_
  (try simp only [Exit.inBlock,Exit.then,reduceIte])
  refine rt_v F (rs_1 F rfl rfl) ?_
  have hi : i = 4:=(by omega)
  exact ⟨ret_int (by rw [hi,prt]),E⟩
structure VOk (x : Vm) : Prop where
 chk : chkE x.B (x.D.map (·.2)) (x.L.map (·.2)) x.tol = 0
 b1 : 1 ≤ x.B
 b3 : x.B ≤ 3
 d1 : 1 ≤ x.D.length
 d4 : x.D.length ≤ 4
 dl : ∀ p ∈ x.D,(p.2.length : Int) = x.B ∧ ∀ n ∈ p.2,0 ≤ n ∧ n ≤ 9
 l1 : 1 ≤ x.L.length
 l3 : x.L.length ≤ 3
 ll : ∀ p ∈ x.L,(p.2.length : Int) = x.B ∧ ∀ n ∈ p.2,0 ≤ n ∧ n ≤ 3
 t0 : 0 ≤ x.tol
 t12 : x.tol ≤ 12
theorem VOk.sd {x : Vm} (h : VOk x) : SmallL x.D:=⟨by have:=h.d4;omega,fun p hp=>by have:=(h.dl p hp).1;have:=h.b3;omega⟩
theorem VOk.sl {x : Vm} (h : VOk x) : SmallL x.L:=⟨by have:=h.l3;omega,fun p hp=>by have:=(h.ll p hp).1;have:=h.b3;omega⟩
theorem must_ok (w : World) : Calls Tryz.prog 73 #[.int .i64 0] w fun e w'=>e = .returned (.tuple #[]) ∧ Ext [] w w':=by
 have E : Ext [] w w:=Ext.refl _ _
 refine calls_has 6 Tryz.func73 rfl Tryz.ntmps73 (Nat.le_of_ble_eq_true rfl) ?_
 intro fa F
 refine wp_seq_k fun K1 hK1=>?_
 refine wp_region_lit ?_
 refine F.mv ?_;clear F fa;intro fa F
 refine F.vl (R_neqB (b:=false) rfl (F.at rfl) (ev_c fa _) (by decide)) ?_;clear F fa;intro fa F
 refine wpList_nil ?_
 refine hK1 _ _ ?_
 clear hK1
 refine cd_F F rfl ?_
 refine wp_skip ?_
 (try simp only [Exit.inBlock,Exit.then,reduceIte])
 refine rt_vn F (rs_0 rfl) ?_
 exact ⟨rfl,E⟩
set_option maxRecDepth 100000 in
theorem begin_ok (x : Vm) (hv : VOk x) (w : World) (h : x.At w) : Calls Tryz.prog 40 #[.agg #[.int .i64 x.B,.slice x.da x.D.length x.dc,.slice x.la x.L.length x.lc,.int .i64 x.tol]] w fun e w'=>e = .returned (.agg #[.int .i64 x.B,.slice x.da x.D.length x.dc,.slice x.la x.L.length x.lc,.int .i64 x.tol]) ∧ Ext [] w w':=by
 have E : Ext [] w w:=Ext.refl _ _
 have HX:=Lib.hid h
 have HV:=Lib.hid hv
 clear h hv
 refine calls_has 8 Tryz.func40 rfl Tryz.ntmps40 (Nat.le_of_ble_eq_true rfl) ?_
 intro fa F
 refine wp_seq_k fun K1 hK1=>?_
 refine wp_region_lit ?_
 refine sq_new F rfl (by decide) rfl (R_box rfl (F.at rfl)) ?_;clear F fa;intro fa w1 F hw
 obtain ⟨n1,hn⟩ : ∃ n,n = w.heap.size:=⟨_,rfl⟩
 rw [← hn] at F
 have s1 : w.heap.size ≤ n1:=Nat.le_of_eq hn.symm
 have l1_E : w.heap.size ≤ n1:=by rw [hn];exact E.size
 replace E:=ext_alloc E hw
 have q1:=new_row hw hn
 clear hw hn
 refine sq_new F rfl (by decide) rfl (R_alloc rfl Tryz.zeroValue69) ?_;clear F fa;intro fa w2 F hw
 obtain ⟨n2,hn⟩ : ∃ n,n = w1.heap.size:=⟨_,rfl⟩
 rw [← hn] at F
 have s2 : w1.heap.size ≤ n2:=Nat.le_of_eq hn.symm
 have l2_E : w.heap.size ≤ n2:=by rw [hn];exact E.size
 have m2_1 : n1 < n2:=by rw [hn];exact blk_lt q1
 replace q1:=keep_alloc hw q1
 replace E:=ext_alloc E hw
 have q2:=new_row hw hn
 clear hw hn
 refine wpList_nil ?_
 refine hK1 _ _ ?_
 clear hK1
 refine wp_seq_k fun K2 hK2=>?_
 refine wp_region_lit ?_
 refine F.vl (R_loadBlk rfl (F.at rfl) Tryz.underlying24 rfl (by kernel_rfl) q1) ?_;clear F fa;intro fa F
 refine sq_call F rfl (by decide) rfl (R_callV rfl rfl Tryz.call74 (mpS (F.at rfl) mp0)) (vcheck_any x _ (HX.out.ext E) HV.out.sd HV.out.sl) fun e w3 hR=>?_
 obtain ⟨rfl,e9⟩:=hR
 refine ⟨_,rfl,?_⟩;clear F fa;intro fa F
 replace q1:=(e9).keep0 q1
 replace q2:=(e9).keep0 q2
 replace E:=ext_same E (e9)
 clear e9
 rw [HV.out.chk] at F
 refine sq_call F rfl (by decide) rfl (R_callV rfl rfl Tryz.call73 (mpS (F.at rfl) mp0)) (must_ok _) fun e w4 hR=>?_
 obtain ⟨rfl,e9⟩:=hR
 refine ⟨_,rfl,?_⟩;clear F fa;intro fa F
 replace q1:=(e9).keep0 q1
 replace q2:=(e9).keep0 q2
 replace E:=ext_same E (e9)
 clear e9
 refine wpList_nil ?_
 refine hK2 _ _ ?_
 clear hK2
 refine wp_seq_k fun K3 hK3=>?_
 refine wp_region_lit ?_
 refine F.vl (R_loadBlk rfl (F.at rfl) Tryz.underlying24 rfl (by kernel_rfl) q1) ?_;clear F fa;intro fa F
 refine F.vl (R_buildV rfl (prS (F.at rfl) pr0) (cells:=#[.int .i64 x.B,.slice x.da x.D.length x.dc,.slice x.la x.L.length x.lc,.int .i64 x.tol]) (by kernel_rfl)) ?_;clear F fa;intro fa F
 refine sq_to rfl rfl (R_storeRow rfl (F.at rfl) (F.at rfl) (by kernel_rfl) (by first | (simp [Value.oneCell'];done) | (simp [Value.oneCell',id];done)) q2 rfl) ?_;intro w5 hw
 replace q1:=keep_cells hw q1 (by omega)
 replace q2:=put_row hw q2 rfl
 replace E:=ext_cells E hw (fun h=>by first | exact absurd h (by omega) | simp)
 clear hw
 refine wpList_nil ?_
 refine hK3 _ _ ?_
 clear hK3
 refine wp_ret ?_
 (try simp only [Exit.inBlock,Exit.then,reduceIte])
 refine rt_v F (rs_c F rfl rfl Tryz.underlying69 rfl (by kernel_rfl) q2) ?_
 exact ⟨rfl,E⟩
set_option maxRecDepth 100000 in
theorem lamp_ok (x : Vm) (hv : VOk x) (n : Int) (h0 : 0 ≤ n) (h1 : n < x.L.length) (w : World) : Calls Tryz.prog 51 #[.agg #[.int .i64 x.B,.slice x.da x.D.length x.dc,.slice x.la x.L.length x.lc,.int .i64 x.tol],.int .i64 n] w fun e w'=>e = .returned (.tuple #[]) ∧ Ext [] w w':=by
 have E : Ext [] w w:=Ext.refl _ _
 have ho : outB n 0 (((x.L.length : Nat) : Int) - 1) = false:=outB_no.2 (by omega)
 have hl3:=hv.l3
 refine calls_has 12 Tryz.func51 rfl Tryz.ntmps51 (Nat.le_of_ble_eq_true rfl) ?_
 intro fa F
 refine wp_seq_k fun K1 hK1=>?_
 refine wp_region_lit ?_
 refine sq_new F rfl (by decide) rfl (R_box rfl (F.at rfl)) ?_;clear F fa;intro fa w1 F hw
 obtain ⟨n2,hn⟩ : ∃ n,n = w.heap.size:=⟨_,rfl⟩
 rw [← hn] at F
 have s2 : w.heap.size ≤ n2:=Nat.le_of_eq hn.symm
 have l2_E : w.heap.size ≤ n2:=by rw [hn];exact E.size
 replace E:=ext_alloc E hw
 have q2:=new_row hw hn
 clear hw hn
 refine wpList_nil ?_
 refine hK1 _ _ ?_
 clear hK1
 refine wp_seq_k fun K2 hK2=>?_
 refine wp_region_lit ?_
 refine F.mv ?_;clear F fa;intro fa F
 refine F.vl (R_field rfl (F.at rfl) Tryz.underlying69 rfl (n:=0) (sz:=4) rfl (by kernel_rfl) (by decide)) ?_;clear F fa;intro fa F
 refine F.vl (R_field rfl (F.at rfl) Tryz.underlying24 rfl (n:=2) (sz:=1) rfl (by kernel_rfl) (by decide)) ?_;clear F fa;intro fa F
 refine F.vl (R_load rfl (F.at rfl) Tryz.underlying22 rfl ((cells_of_block q2 2).trans (getS (getS (get0))))) ?_;clear F fa;intro fa F
 refine F.vl (R_len rfl rfl (F.at rfl) Tryz.underlying22) ?_;clear F fa;intro fa F
 refine F.vl (R_sub rfl (F.at rfl) (ev_c fa _) (by omega) (by omega)) ?_;clear F fa;intro fa F
 refine sq_call F rfl (by decide) rfl (R_callV rfl rfl Tryz.call83 (mpS (F.at rfl) (mpS (ev_c fa _) (mpS (F.at rfl) mp0)))) (outside_any n 0 (((x.L.length : Nat) : Int) - 1) _) fun e w2 hR=>?_
 obtain ⟨rfl,e9⟩:=hR
 refine ⟨_,rfl,?_⟩;clear F fa;intro fa F
 replace q2:=(e9).keep0 q2
 replace E:=ext_same E (e9)
 clear e9
 refine wpList_nil ?_
 refine hK2 _ _ ?_
 clear hK2
 refine cd_Fb F rfl (ho) ?_
 refine wp_skip ?_
 (try simp only [Exit.inBlock,Exit.then,reduceIte])
 refine rt_vn F (rs_0 rfl) ?_
 exact ⟨rfl,E⟩
def dotE (a s : Nat → Int) (n : Nat) : Int:=sumTo (fun i=>a i * s i) n
theorem mul_bd {a b : Int} (a0 : 0 ≤ a) (a1 : a ≤ 10) (b0 : 0 ≤ b) (b1 : b ≤ 100000) : 0 ≤ a * b ∧ a * b ≤ 1000000:=by
 refine ⟨Int.mul_nonneg a0 b0,?_⟩
 have h1 : a * b ≤ 10 * b:=Int.mul_le_mul_of_nonneg_right a1 b0
 omega
def Vm.lamp (x : Vm) (k : Nat) : List Int:=(x.L.getD k (.bool true,[])).2
def Vm.dye (x : Vm) (k : Nat) : List Int:=(x.D.getD k (.bool true,[])).2
set_option maxRecDepth 100000 in
theorem weigh_ok (x : Vm) (hv : VOk x) (k : Nat) (hk : k < x.L.length) (s : List Int) (hs : (s.length : Int) = x.B) (hb : ∀ n ∈ s,0 ≤ n ∧ n ≤ 100000) (a : Option Addr) (c : Nat) (w : World) (h : x.At w) (hr : IsRows w (.slice a s.length c) 1 (s.map intRow)) :
  Calls Tryz.prog 62 #[.agg #[.int .i64 x.B,.slice x.da x.D.length x.dc,.slice x.la x.L.length x.lc,.int .i64 x.tol],.int .i64 ((k : Nat) : Int),.slice a s.length c] w fun e w'=>e = .returned (.int .i64 (dotE (val (x.lamp k)) (val s) s.length)) ∧ Ext [] w w':=by
 have E : Ext [] w w:=Ext.refl _ _
 have HL:=Lib.hid h.l.1
 have HS:=Lib.hid (slAt_of_rows hr 0)
 obtain ⟨la,lca,hla,hlr⟩:=h.l.2 _ (getD_mem (.bool true,[]) hk)
 obtain ⟨hll,hln⟩:=hv.ll _ (getD_mem (.bool true,[]) hk)
 have HLR:=Lib.hid (slAt_of_rows hlr 0)
 have HLN:=Lib.hid hln
 have HB:=Lib.hid hb
 have hl3:=hv.l3
 have hb3:=hv.b3
 clear h hr hv hlr hln hb
 refine calls_has 32 Tryz.func62 rfl Tryz.ntmps62 (Nat.le_of_ble_eq_true rfl) ?_
 intro fa F
 refine wp_seq_k fun K1 hK1=>?_
 refine wp_region_lit ?_
 refine sq_new F rfl (by decide) rfl (R_box rfl (F.at rfl)) ?_;clear F fa;intro fa w1 F hw
 obtain ⟨n3,hn⟩ : ∃ n,n = w.heap.size:=⟨_,rfl⟩
 rw [← hn] at F
 have s3 : w.heap.size ≤ n3:=Nat.le_of_eq hn.symm
 have l3_E : w.heap.size ≤ n3:=by rw [hn];exact E.size
 replace E:=ext_alloc E hw
 have q3:=new_row hw hn
 clear hw hn
 refine F.vl (R_assign rfl (ev_c fa _)) ?_;clear F fa;intro fa F
 refine wpList_nil ?_
 refine hK1 _ _ ?_
 clear hK1
 refine wp_seq_k fun K2 hK2=>?_
 refine wp_region_lit ?_
 refine F.vl (R_assign rfl (ev_c fa _)) ?_;clear F fa;intro fa F
 rw [show (0 : Int) = sumTo (fun i=>val (x.lamp k) i * val s i) 0 from rfl] at F
 refine wpList_nil ?_
 refine hK2 _ _ ?_
 clear hK2
 refine wp_seq_k fun K3 hK3=>?_
 refine wp_seq_k fun K4 hK4=>?_
 refine wp_region_lit ?_
 refine F.vl (R_field rfl (F.at rfl) Tryz.underlying69 rfl (n:=0) (sz:=4) rfl (by kernel_rfl) (by decide)) ?_;clear F fa;intro fa F
 refine F.vl (R_field rfl (F.at rfl) Tryz.underlying24 rfl (n:=2) (sz:=1) rfl (by kernel_rfl) (by decide)) ?_;clear F fa;intro fa F
 refine F.vl (R_load rfl (F.at rfl) Tryz.underlying22 rfl ((cells_of_block q3 2).trans (getS (getS (get0))))) ?_;clear F fa;intro fa F
 refine F.mv ?_;clear F fa;intro fa F
 obtain ⟨xb5,xo5,xa5,xr5⟩:=HL.out k (by omega)
 refine F.vl (R_ixSlice (sz:=1) rfl ((F.at rfl).trans (xa5 _ _)) (F.at rfl) Tryz.underlying22 (by kernel_rfl) (by omega) (by omega)) ?_;clear F fa;intro fa F
 refine F.vl (R_load rfl (F.at rfl) Tryz.underlying25 rfl (xr5 _ E 0 _ rfl)) ?_;clear F fa;intro fa F
 rw [hla] at F
 refine F.vl (R_len rfl rfl (F.at rfl) Tryz.underlying25) ?_;clear F fa;intro fa F
 refine F.vl (R_move rfl (ev_c fa _)) ?_;clear F fa;intro fa F
 refine wpList_nil ?_
 refine hK4 _ _ ?_
 clear hK4
 refine wp_block ?_
 have F0:=F.sub (.c 2 rfl (.c 15 rfl (.c 16 rfl .n)))
 refine lp_for F0 (s.length) (fun i Lv W=>Lv = [(7,.int .i64 (sumTo (fun i=>val (x.lamp k) i * val s i) i)),(17,.int .i64 ((i : Nat) : Int))] ∧ Ext [] w1 W ∧ 0 ≤ sumTo (fun i=>val (x.lamp k) i * val s i) i ∧ sumTo (fun i=>val (x.lamp k) i * val s i) i ≤ 1000000 * (i : Int)) ⟨_,⟨rfl,Ext.refl _ _,(by simp [sumTo]),(by simp [sumTo])⟩,F.sub (.c 7 rfl (.c 17 rfl (.c 2 rfl (.c 15 rfl (.c 16 rfl .n)))))⟩ ?_
 clear F F0
 rintro i _ fa w2 hi1 ⟨rfl,EL1,hs0,hs1⟩ F
 have q3:=EL1.keep0 q3
 have E:=E.nil EL1
 refine wp_seq_k fun K6 hK6=>?_
 refine wp_region_lit ?_
 refine F.vl (R_lss rfl (F.at rfl) (F.at rfl)) ?_;clear F fa;intro fa F
 refine wpList_nil ?_
 refine hK6 _ _ ?_
 clear hK6
 refine wp_seq_k fun K7 hK7=>?_
 refine cd_if F rfl (fun hc18=>?_) (fun hc18=>?_)
 ·skip
  refine wp_skip ?_
  refine hK7 _ _ ?_
  clear hK7
  refine wp_seq_k fun K8 hK8=>?_
  refine wp_block ?_
  refine wp_seq_k fun K9 hK9=>?_
  refine wp_region_lit ?_
  refine F.mv ?_;clear F fa;intro fa F
  obtain ⟨xb10,xo10,xa10,xr10⟩:=HLR.out i (by omega)
  refine F.vl (R_ixSlice (sz:=1) rfl ((F.at rfl).trans (xa10 _ _)) (F.at rfl) Tryz.underlying25 (by kernel_rfl) (by omega) (by omega)) ?_;clear F fa;intro fa F
  refine F.vl (R_load rfl (F.at rfl) Tryz.underlying3 rfl (xr10 _ E 0 _ rfl)) ?_;clear F fa;intro fa F
  refine F.as ?_;clear F fa;intro fa F
  refine F.as ?_;clear F fa;intro fa F
  refine wpList_nil ?_
  refine hK9 _ _ ?_
  clear hK9
  obtain ⟨hf0,hf1⟩:=HLN.out _ (getD_mem (l:=(x.L.getD k (.bool true,[])).2) (i:=i) 0 (by omega))
  obtain ⟨hg0,hg1⟩:=HB.out _ (getD_mem (l:=s) (i:=i) 0 (by omega))
  obtain ⟨hm0,hm1⟩:=mul_bd hf0 (by omega) hg0 hg1
  refine wp_region_lit ?_
  refine F.mv ?_;clear F fa;intro fa F
  refine F.mv ?_;clear F fa;intro fa F
  refine F.mv ?_;clear F fa;intro fa F
  refine F.mv ?_;clear F fa;intro fa F
  obtain ⟨xb11,xo11,xa11,xr11⟩:=HS.out i (by omega)
  refine F.vl (R_ixSlice (sz:=1) rfl ((F.at rfl).trans (xa11 _ _)) (F.at rfl) Tryz.underlying25 (by kernel_rfl) (by omega) (by omega)) ?_;clear F fa;intro fa F
  refine F.vl (R_load rfl (F.at rfl) Tryz.underlying3 rfl (xr11 _ E 0 _ rfl)) ?_;clear F fa;intro fa F
  refine F.vl (R_mul rfl (F.at rfl) (F.at rfl) (by omega) (by omega)) ?_;clear F fa;intro fa F
  refine F.vl (R_add rfl (F.at rfl) (F.at rfl) (by omega) (by omega)) ?_;clear F fa;intro fa F
  rw [show sumTo (fun i=>val (x.lamp k) i * val s i) i + (x.L.getD k (.bool true,[])).2.getD i 0 * s.getD i 0 = sumTo (fun i=>val (x.lamp k) i * val s i) (i + 1) from rfl] at F
  refine F.as ?_;clear F fa;intro fa F
  refine wpList_nil ?_
  refine hK8 _ _ ?_
  clear hK8
  refine wp_region_lit ?_
  refine F.vl (R_add rfl (F.at rfl) (ev_c fa _) (by omega) (by omega)) ?_;clear F fa;intro fa F
  refine F.mv ?_;clear F fa;intro fa F
  refine wpList_nil ?_
  show _ ∧ _
  exact ⟨by omega,_,⟨rfl,EL1,(by rw [sumTo];simp only [val,Vm.lamp] at *;omega),(by rw [sumTo];simp only [val,Vm.lamp] at *;omega)⟩,F.sub (.c 7 rfl (.c 17 rfl (.c 2 rfl (.c 15 rfl (.c 16 rfl .n)))))⟩
 ·skip
  refine wp_exit ?_
  refine hK3 _ _ ?_
  clear hK3
  refine wp_seq_k fun K12 hK12=>?_
  refine wp_region_lit ?_
  refine F.mv ?_;clear F fa;intro fa F
  refine F.as ?_;clear F fa;intro fa F
  refine wpList_nil ?_
  refine hK12 _ _ ?_
  clear hK12
  refine wp_ret ?_
  (try simp only [Exit.inBlock,Exit.then,reduceIte])
  refine rt_v F (rs_1 F rfl rfl) ?_
  have hi : i = s.length:=(by omega)
  exact ⟨ret_int (by rw [hi,dotE]),E⟩
end Go.Proofs.YtdjeecgddbjbeaaGreat
