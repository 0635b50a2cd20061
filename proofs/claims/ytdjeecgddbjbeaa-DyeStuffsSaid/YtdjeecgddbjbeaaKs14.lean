/- Parts of a proof: Dcz, Dtu, Dde, Dcs, Dst, Dpi, Dtg, Dpm. No conditions. -/
import Derived.Test.YtdjeecgddbjbeaaKs7
import Derived.Test.YtdjeecgddbjbeaaKs10
import Derived.Test.YtdjeecgddbjbeaaKs11
import Derived.Test.YtdjeecgddbjbeaaKs12
import Derived.Test.YtdjeecgddbjbeaaKs13
set_option linter.unusedVariables false
set_option linter.unusedSimpArgs false
namespace Go.Proofs.Ytdjeecgddbjbeaa
open Go.RowKit
set_option maxRecDepth 100000 in
set_option maxHeartbeats 1000000 in
theorem dSums_ok (x : Vm) (hv : VOk x) (bn : Nat) (hbn : x.B = bn) (l : List Int) (hl : l.length = x.D.length) (hb : ∀ n ∈ l,0 ≤ n ∧ n ≤ 6) (a : Option Addr) (c : Nat) (w : World) (h : x.At w) (hr : IsRows w (.slice a l.length c) 1 (l.map intRow)) :
  Calls Try.prog 117 #[.agg #[.int .i64 x.B,.slice x.da x.D.length x.dc,.slice x.la x.L.length x.lc,.int .i64 x.tol],.slice a l.length c] w fun e w'=>∃ a,e = .returned (.slice a bn bn) ∧ w'.ownsRow w.heap.size 3 1 (.slice a bn bn) bn (ivs (sumL x (val l) bn)) ∧ Ext [] w w':=by
 have E : Ext [] w w:=Ext.refl _ _
 have HX:=Lib.hid h
 have HV:=Lib.hid hv
 have HSR:=Lib.hid (slAt_of_rows hr 0)
 have HB:=Lib.hid hb
 have HD:=Lib.hid h.d.1
 have hb1:=hv.b1
 have hb3:=hv.b3
 have hd4:=hv.d4
 have HF : RowKit.Hid (TubS (val l)):=Lib.hid (fun k _=>val_bd hb (by omega) (by omega) k)
 clear h hv hr hb
 refine calls_has 45 Try.func117 rfl Try.ntmps117 (Nat.le_of_ble_eq_true rfl) ?_
 intro fa F
 refine wp_seq_k fun K1 hK1=>?_
 refine wp_region_lit ?_
 refine sq_new F rfl (by decide) rfl (R_box rfl (F.at rfl)) ?_;clear F fa;intro fa w1 F hw
 obtain ⟨n2,hn⟩ : ∃ n,n = w.heap.size:=⟨_,rfl⟩
 rw [← hn] at F
 have s2 : w.heap.size ≤ n2:=Nat.le_of_eq hn.symm
 have l2_E : w.heap.size ≤ n2:=by rw [hn];exact E.size
 replace E:=ext_alloc E hw
 have q2:=new_row hw hn
 clear hw hn
 refine F.vl (R_assign rfl (ev_c fa _)) ?_;clear F fa;intro fa F
 refine wpList_nil ?_
 refine hK1 _ _ ?_
 clear hK1
 refine wp_seq_k fun K2 hK2=>?_
 refine wp_region_lit ?_
 refine F.vl (R_field rfl (F.at rfl) Try.underlying24 rfl (n:=0) (sz:=1) rfl (by kernel_rfl) (by decide)) ?_;clear F fa;intro fa F
 refine F.vl (R_load rfl (F.at rfl) Try.underlying3 rfl ((cells_of_block q2 0).trans (get0))) ?_;clear F fa;intro fa F
 rw [hbn] at F
 have hEs:=E.size
 refine sq_some F rfl (by decide) rfl (make_run rfl (w.heap.size) (e:=3) (bytes:=8) (z:=.int .i64 0) Try.underlying25 (by kernel_rfl) rfl (F.at rfl) (F.at rfl) (n:=bn) (by omega) (by decide) (by omega)) ?_;clear F fa;rintro fa v' w2 F ⟨oo,hg,rfl⟩
 obtain ⟨n10,hn⟩ : ∃ n,n = w1.heap.size:=⟨_,rfl⟩
 rw [← hn] at F oo
 have s10 : w1.heap.size ≤ n10:=Nat.le_of_eq hn.symm
 replace q2:=keep_none hg q2
 replace E:=ext_none E hg
 clear hg hn
 rw [← sumR_zero x (val l) bn] at oo
 refine F.as ?_;clear F fa;intro fa F
 refine wpList_nil ?_
 refine hK2 _ _ ?_
 clear hK2
 refine wp_seq_k fun K3 hK3=>?_
 refine wp_seq_k fun K4 hK4=>?_
 refine wp_region_lit ?_
 refine F.vl (R_assign rfl (ev_c fa _)) ?_;clear F fa;intro fa F
 refine wpList_nil ?_
 refine hK4 _ _ ?_
 clear hK4
 refine wp_block ?_
 have F0:=F.sub (.c 1 rfl (.c 2 rfl (.c 5 rfl .n)))
 refine lp_for F0 (l.length) (fun d Lv W=>Lv = [(6,.int .i64 ((d : Nat) : Int))] ∧ Ext [] w W ∧ W.heap[n2]? = some (.cells #[.int .i64 x.B,.slice x.da x.D.length x.dc,.slice x.la x.L.length x.lc,.int .i64 x.tol] 24 (0,0)) ∧ W.ownsRow w.heap.size 3 1 (.slice (some ⟨n10,0,none⟩) bn bn) bn (ivs (sumR x (val l) bn d 0))) ⟨_,⟨rfl,E,q2,oo⟩,F.sub (.c 6 rfl (.c 1 rfl (.c 2 rfl (.c 5 rfl .n))))⟩ ?_
 clear F F0
 clear E q2
 clear oo
 rintro d _ fa w3 hi1 ⟨rfl,E,q2,oo⟩ F
 refine wp_seq_k fun K5 hK5=>?_
 refine wp_seq_k fun K6 hK6=>?_
 refine wp_region_lit ?_
 refine F.mv ?_;clear F fa;intro fa F
 refine F.mv ?_;clear F fa;intro fa F
 refine F.vl (R_len rfl rfl (F.at rfl) Try.underlying25) ?_;clear F fa;intro fa F
 refine F.vl (R_lss rfl (F.at rfl) (F.at rfl)) ?_;clear F fa;intro fa F
 refine wpList_nil ?_
 refine hK6 _ _ ?_
 clear hK6
 refine cd_if F rfl (fun hc14=>?_) (fun hc14=>?_)
 ·skip
  refine wp_skip ?_
  refine hK5 _ _ ?_
  clear hK5
  refine wp_seq_k fun K7 hK7=>?_
  refine wp_block ?_
  refine wp_seq_k fun K8 hK8=>?_
  refine wp_region_lit ?_
  refine F.vl (R_assign rfl (ev_c fa _)) ?_;clear F fa;intro fa F
  refine wpList_nil ?_
  refine hK8 _ _ ?_
  clear hK8
  refine wp_block ?_
  have F0:=F.sub (.c 1 rfl (.c 2 rfl (.c 5 rfl (.c 6 rfl .n))))
  refine lp_for F0 (bn) (fun i Lv W=>Lv = [(7,.int .i64 ((i : Nat) : Int))] ∧ Ext [] w W ∧ W.heap[n2]? = some (.cells #[.int .i64 x.B,.slice x.da x.D.length x.dc,.slice x.la x.L.length x.lc,.int .i64 x.tol] 24 (0,0)) ∧ W.ownsRow w.heap.size 3 1 (.slice (some ⟨n10,0,none⟩) bn bn) bn (ivs (sumR x (val l) bn d i))) ⟨_,⟨rfl,E,q2,oo⟩,F.sub (.c 7 rfl (.c 1 rfl (.c 2 rfl (.c 5 rfl (.c 6 rfl .n)))))⟩ ?_
  clear F F0
  clear E q2
  clear oo
  rintro i _ fa w4 hi2 ⟨rfl,E,q2,oo⟩ F
  refine wp_seq_k fun K9 hK9=>?_
  refine wp_seq_k fun K10 hK10=>?_
  refine wp_region_lit ?_
  refine F.mv ?_;clear F fa;intro fa F
  refine F.vl (R_field rfl (F.at rfl) Try.underlying24 rfl (n:=0) (sz:=1) rfl (by kernel_rfl) (by decide)) ?_;clear F fa;intro fa F
  refine F.vl (R_load rfl (F.at rfl) Try.underlying3 rfl ((cells_of_block q2 0).trans (get0))) ?_;clear F fa;intro fa F
  rw [hbn] at F
  refine F.vl (R_lss rfl (F.at rfl) (F.at rfl)) ?_;clear F fa;intro fa F
  refine wpList_nil ?_
  refine hK10 _ _ ?_
  clear hK10
  refine cd_if F rfl (fun hc20=>?_) (fun hc20=>?_)
  ·skip
   refine wp_skip ?_
   refine hK9 _ _ ?_
   clear hK9
   refine wp_seq_k fun K11 hK11=>?_
   refine wp_block ?_
   obtain ⟨la,lca,hla,hlr⟩:=HX.out.d.2 _ (getD_mem (.bool true,[]) (show d < x.D.length by omega))
   have hlen:=(HV.out.dl _ (getD_mem (.bool true,[]) (show d < x.D.length by omega))).1
   have hlb : (x.D.getD d (.bool true,[])).2.length = bn:=by omega
   have HLR:=Lib.hid (slAt_of_rows hlr 0)
   have hml:=sumR_len x (val l) bn d i
   have hmk:=sumR_get x (val l) d (show i < bn by omega)
   have hst:=sumR_set x (val l) d (show i < bn by omega)
   have EX : Ext [] w4 w4:=Ext.refl _ _
   have HS:=Lib.hid (slAt_of_ivs oo hml.symm [] (by simp))
   have hil:=ivs_lenZ (sumR x (val l) bn d i)
   obtain ⟨hf0,hf1⟩:=HF.out d (by omega)
   obtain ⟨hg0,hg1⟩:=dye_bd HV.out (show d < x.D.length by omega) i
   simp only [val,Vm.dye] at hg0 hg1 hf0 hf1
   obtain ⟨hp0,hp1⟩:=mul_bd hf0 (by omega) hg0 (by omega)
   obtain ⟨ht0,ht1⟩:=tonE_bd HV.out HF.out i (show d ≤ x.D.length by omega)
   refine wp_region_st 21 follows (by kernel_rfl) fun w5 hh eh=>?_
   replace q2:=keep_same hh q2
   replace E:=ext_same E eh
   replace EX:=ext_same EX eh
   replace oo:=owns_same hh oo
   clear hh eh
   refine F.smv ?_;clear F fa;intro fa F
   refine F.smv ?_;clear F fa;intro fa F
   refine F.smv ?_;clear F fa;intro fa F
   refine F.smv ?_;clear F fa;intro fa F
   obtain ⟨xb12,xo12,xa12,xr12⟩:=HS.out i (by omega)
   refine F.sv (R_ixSlice (sz:=1) rfl ((F.at rfl).trans (xa12 _ _)) (F.at rfl) Try.underlying25 (by kernel_rfl) (by omega) (by omega)) ?_;clear F fa;intro fa F
   refine F.sv (R_load rfl (F.at rfl) Try.underlying3 rfl (xr12 _ EX 0 _ rfl)) ?_;clear F fa;intro fa F
   refine F.smv ?_;clear F fa;intro fa F
   refine F.smv ?_;clear F fa;intro fa F
   obtain ⟨xb13,xo13,xa13,xr13⟩:=HSR.out d (by omega)
   refine F.sv (R_ixSlice (sz:=1) rfl ((F.at rfl).trans (xa13 _ _)) (F.at rfl) Try.underlying25 (by kernel_rfl) (by omega) (by omega)) ?_;clear F fa;intro fa F
   refine F.sv (R_load rfl (F.at rfl) Try.underlying3 rfl (xr13 _ E 0 _ rfl)) ?_;clear F fa;intro fa F
   refine F.sv (R_field rfl (F.at rfl) Try.underlying24 rfl (n:=1) (sz:=1) rfl (by kernel_rfl) (by decide)) ?_;clear F fa;intro fa F
   refine F.sv (R_load rfl (F.at rfl) Try.underlying22 rfl ((cells_of_block q2 1).trans (getS (get0)))) ?_;clear F fa;intro fa F
   refine F.smv ?_;clear F fa;intro fa F
   obtain ⟨xb14,xo14,xa14,xr14⟩:=HD.out d (by omega)
   refine F.sv (R_ixSlice (sz:=1) rfl ((F.at rfl).trans (xa14 _ _)) (F.at rfl) Try.underlying22 (by kernel_rfl) (by omega) (by omega)) ?_;clear F fa;intro fa F
   refine F.sv (R_load rfl (F.at rfl) Try.underlying25 rfl (xr14 _ E 0 _ rfl)) ?_;clear F fa;intro fa F
   rw [hla] at F
   refine F.smv ?_;clear F fa;intro fa F
   obtain ⟨xb15,xo15,xa15,xr15⟩:=HLR.out i (by omega)
   refine F.sv (R_ixSlice (sz:=1) rfl ((F.at rfl).trans (xa15 _ _)) (F.at rfl) Try.underlying25 (by kernel_rfl) (by omega) (by omega)) ?_;clear F fa;intro fa F
   refine F.sv (R_load rfl (F.at rfl) Try.underlying3 rfl (xr15 _ E 0 _ rfl)) ?_;clear F fa;intro fa F
   refine F.sv (R_mul rfl (F.at rfl) (F.at rfl) (by omega) (by omega)) ?_;clear F fa;intro fa F
   refine F.sv (R_add rfl (F.at rfl) (F.at rfl) (by omega) (by omega)) ?_;clear F fa;intro fa F
   obtain ⟨xb16,xo16,xa16,xr16⟩:=HS.out i (by omega)
   refine F.sv (R_ixSlice (sz:=1) rfl ((F.at rfl).trans (xa16 _ _)) (F.at rfl) Try.underlying25 (by kernel_rfl) (by omega) (by omega)) ?_;clear F fa;intro fa F
   refine wpStill_nil ?_
   obtain ⟨⟨u0,hcu⟩,hfu,hst⟩:=owns_at oo xa16 (j:=i) (p:=xo16 + ((i : Nat) : Int).toNat * 1) (by first | omega | (simp;omega)) (by omega)
   refine sq_to rfl rfl (R_store rfl (F.at rfl) (F.at rfl) rfl (by kernel_rfl) hcu hfu) ?_;intro w6 hw
   obtain ⟨hown',hg⟩:=hst _ _ hw
   clear hst hcu hfu hw
   replace q2:=keep_type oo hg q2 (by decide)
   replace E:=ext_appendX E oo hg (by omega)
   replace oo:=hown'
   clear hg
   rw [ivs_setZ,hmk,show tonE x (val l) i d + l.getD d 0 * (x.D.getD d (.bool true,[])).2.getD i 0 = tonE x (val l) i (d + 1) from rfl,hst] at oo
   refine wpList_nil ?_
   refine hK11 _ _ ?_
   clear hK11
   refine wp_region_lit ?_
   refine F.mv ?_;clear F fa;intro fa F
   refine F.vl (R_add rfl (F.at rfl) (ev_c fa _) (by omega) (by omega)) ?_;clear F fa;intro fa F
   refine F.as ?_;clear F fa;intro fa F
   refine wpList_nil ?_
   show _ ∧ _
   exact ⟨by omega,_,⟨rfl,E,q2,oo⟩,F.sub (.c 7 rfl (.c 1 rfl (.c 2 rfl (.c 5 rfl (.c 6 rfl .n)))))⟩
  ·skip
   refine wp_exit ?_
   rw [show i = bn by omega,sumR_next] at oo
   refine hK7 _ _ ?_
   clear hK7
   refine wp_region_lit ?_
   refine F.mv ?_;clear F fa;intro fa F
   refine F.vl (R_add rfl (F.at rfl) (ev_c fa _) (by omega) (by omega)) ?_;clear F fa;intro fa F
   refine F.as ?_;clear F fa;intro fa F
   refine wpList_nil ?_
   show _ ∧ _
   exact ⟨by omega,_,⟨rfl,E,q2,oo⟩,F.sub (.c 6 rfl (.c 1 rfl (.c 2 rfl (.c 5 rfl .n))))⟩
 ·skip
  refine wp_exit ?_
  rw [show d = x.D.length by omega,sumR_end] at oo
  refine hK3 _ _ ?_
  clear hK3
  refine wp_seq_k fun K17 hK17=>?_
  refine wp_region_lit ?_
  refine F.mv ?_;clear F fa;intro fa F
  refine F.as ?_;clear F fa;intro fa F
  refine wpList_nil ?_
  refine hK17 _ _ ?_
  clear hK17
  refine wp_ret ?_
  (try simp only [Exit.inBlock,Exit.then,reduceIte])
  refine rt_v F (rs_1 F rfl rfl) ?_
  exact ⟨_,rfl,oo,E⟩
set_option maxRecDepth 100000 in
set_option maxHeartbeats 1000000 in
theorem dWeigh_ok (x : Vm) (hv : VOk x) (k : Nat) (hk : k < x.L.length) (bn : Nat) (hbn : x.B = bn) (s : List Int) (hs : s.length = bn) (hb : ∀ n ∈ s,0 ≤ n ∧ n ≤ 100000) (a : Option Addr) (c : Nat) (w : World) (h : x.At w) (hr : IsRows w (.slice a s.length c) 1 (s.map intRow)) :
  Calls Try.prog 116 #[.agg #[.int .i64 x.B,.slice x.da x.D.length x.dc,.slice x.la x.L.length x.lc,.int .i64 x.tol],.int .i64 ((k : Nat) : Int),.slice a s.length c] w fun e w'=>e = .returned (.int .i64 (dotE (val (x.lamp k)) (val s) bn)) ∧ Ext [] w w':=by
 have E : Ext [] w w:=Ext.refl _ _
 have HX:=Lib.hid h
 have HV:=Lib.hid hv
 have HSR:=Lib.hid (slAt_of_rows hr 0)
 have HB:=Lib.hid hb
 have HL:=Lib.hid h.l.1
 have hb3:=hv.b3
 have hb1:=hv.b1
 obtain ⟨la,lca,hla,hlr⟩:=h.l.2 _ (getD_mem (.bool true,[]) hk)
 have hlen:=(hv.ll _ (getD_mem (.bool true,[]) hk)).1
 have hlb : (x.L.getD k (.bool true,[])).2.length = bn:=by omega
 have HLR:=Lib.hid (slAt_of_rows hlr 0)
 clear h hv hr hb hlr
 refine calls_has 31 Try.func116 rfl Try.ntmps116 (Nat.le_of_ble_eq_true rfl) ?_
 intro fa F
 refine wp_seq_k fun K1 hK1=>?_
 refine wp_region_lit ?_
 refine sq_new F rfl (by decide) rfl (R_box rfl (F.at rfl)) ?_;clear F fa;intro fa w1 F hw
 obtain ⟨n3,hn⟩ : ∃ n,n = w.heap.size:=⟨_,rfl⟩
 rw [← hn] at F
 have s3 : w.heap.size ≤ n3:=Nat.le_of_eq hn.symm
 have l3_E : w.heap.size ≤ n3:=by rw [hn];exact E.size
 replace E:=ext_alloc E hw
 have q3:=new_row hw hn
 clear hw hn
 refine F.vl (R_assign rfl (ev_c fa _)) ?_;clear F fa;intro fa F
 refine wpList_nil ?_
 refine hK1 _ _ ?_
 clear hK1
 refine wp_seq_k fun K2 hK2=>?_
 refine wp_region_lit ?_
 refine F.vl (R_assign rfl (ev_c fa _)) ?_;clear F fa;intro fa F
 refine wpList_nil ?_
 rw [show (0 : Int) = dotE (val (x.lamp k)) (val s) 0 from rfl] at F
 refine hK2 _ _ ?_
 clear hK2
 refine wp_seq_k fun K3 hK3=>?_
 refine wp_seq_k fun K4 hK4=>?_
 refine wp_region_lit ?_
 refine F.vl (R_assign rfl (ev_c fa _)) ?_;clear F fa;intro fa F
 refine wpList_nil ?_
 refine hK4 _ _ ?_
 clear hK4
 refine wp_block ?_
 have F0:=F.sub (.c 1 rfl (.c 2 rfl (.c 3 rfl .n)))
 refine lp_for F0 (bn) (fun i Lv W=>Lv = [(7,.int .i64 (dotE (val (x.lamp k)) (val s) i)),(8,.int .i64 ((i : Nat) : Int))] ∧ Ext [] w W ∧ W.heap[n3]? = some (.cells #[.int .i64 x.B,.slice x.da x.D.length x.dc,.slice x.la x.L.length x.lc,.int .i64 x.tol] 24 (0,0)) ∧ 0 ≤ dotE (val (x.lamp k)) (val s) i ∧ dotE (val (x.lamp k)) (val s) i ≤ 1000000 * i) ⟨_,⟨rfl,E,q3,(by simp [dotE,sumTo])⟩,F.sub (.c 7 rfl (.c 8 rfl (.c 1 rfl (.c 2 rfl (.c 3 rfl .n)))))⟩ ?_
 clear F F0
 clear E q3
 rintro i _ fa w2 hi1 ⟨rfl,E,q3,hdb⟩ F
 refine wp_seq_k fun K5 hK5=>?_
 refine wp_seq_k fun K6 hK6=>?_
 refine wp_region_lit ?_
 refine F.mv ?_;clear F fa;intro fa F
 refine F.mv ?_;clear F fa;intro fa F
 refine F.vl (R_len rfl rfl (F.at rfl) Try.underlying25) ?_;clear F fa;intro fa F
 refine F.vl (R_lss rfl (F.at rfl) (F.at rfl)) ?_;clear F fa;intro fa F
 refine wpList_nil ?_
 refine hK6 _ _ ?_
 clear hK6
 refine cd_if F rfl (fun hc12=>?_) (fun hc12=>?_)
 ·skip
  refine wp_skip ?_
  refine hK5 _ _ ?_
  clear hK5
  refine wp_seq_k fun K7 hK7=>?_
  refine wp_block ?_
  have hlq:=lamp_bd HV.out hk i
  simp only [val,Vm.lamp] at hlq
  have hsq:=HB.out _ (getD_mem 0 (show i < s.length by omega))
  obtain ⟨hp0,hp1⟩:=mul_bd hlq.1 (by omega) hsq.1 hsq.2
  refine wp_region_st 15 follows (by kernel_rfl) fun w3 hh eh=>?_
  replace q3:=keep_same hh q3
  replace E:=ext_same E eh
  clear hh eh
  refine F.smv ?_;clear F fa;intro fa F
  refine F.sv (R_field rfl (F.at rfl) Try.underlying24 rfl (n:=2) (sz:=1) rfl (by kernel_rfl) (by decide)) ?_;clear F fa;intro fa F
  refine F.sv (R_load rfl (F.at rfl) Try.underlying22 rfl ((cells_of_block q3 2).trans (getS (getS (get0))))) ?_;clear F fa;intro fa F
  refine F.smv ?_;clear F fa;intro fa F
  obtain ⟨xb8,xo8,xa8,xr8⟩:=HL.out k (by omega)
  refine F.sv (R_ixSlice (sz:=1) rfl ((F.at rfl).trans (xa8 _ _)) (F.at rfl) Try.underlying22 (by kernel_rfl) (by omega) (by omega)) ?_;clear F fa;intro fa F
  refine F.sv (R_load rfl (F.at rfl) Try.underlying25 rfl (xr8 _ E 0 _ rfl)) ?_;clear F fa;intro fa F
  rw [hla] at F
  refine F.smv ?_;clear F fa;intro fa F
  obtain ⟨xb9,xo9,xa9,xr9⟩:=HLR.out i (by omega)
  refine F.sv (R_ixSlice (sz:=1) rfl ((F.at rfl).trans (xa9 _ _)) (F.at rfl) Try.underlying25 (by kernel_rfl) (by omega) (by omega)) ?_;clear F fa;intro fa F
  refine F.sv (R_load rfl (F.at rfl) Try.underlying3 rfl (xr9 _ E 0 _ rfl)) ?_;clear F fa;intro fa F
  refine F.smv ?_;clear F fa;intro fa F
  refine F.smv ?_;clear F fa;intro fa F
  obtain ⟨xb10,xo10,xa10,xr10⟩:=HSR.out i (by omega)
  refine F.sv (R_ixSlice (sz:=1) rfl ((F.at rfl).trans (xa10 _ _)) (F.at rfl) Try.underlying25 (by kernel_rfl) (by omega) (by omega)) ?_;clear F fa;intro fa F
  refine F.sv (R_load rfl (F.at rfl) Try.underlying3 rfl (xr10 _ E 0 _ rfl)) ?_;clear F fa;intro fa F
  refine F.sv (R_mul rfl (F.at rfl) (F.at rfl) (by omega) (by omega)) ?_;clear F fa;intro fa F
  refine F.sv (R_add rfl (F.at rfl) (F.at rfl) (by omega) (by omega)) ?_;clear F fa;intro fa F
  refine wpStill_nil ?_
  refine F.as ?_;clear F fa;intro fa F
  refine wpList_nil ?_
  rw [show dotE (val (x.lamp k)) (val s) i + (x.L.getD k (.bool true,[])).2.getD i 0 * s.getD i 0 = dotE (val (x.lamp k)) (val s) (i + 1) from rfl] at F
  refine hK7 _ _ ?_
  clear hK7
  refine wp_region_lit ?_
  refine F.mv ?_;clear F fa;intro fa F
  refine F.vl (R_add rfl (F.at rfl) (ev_c fa _) (by omega) (by omega)) ?_;clear F fa;intro fa F
  refine F.as ?_;clear F fa;intro fa F
  refine wpList_nil ?_
  show _ ∧ _
  exact ⟨by omega,_,⟨rfl,E,q3,(by have h2 : dotE (val (x.lamp k)) (val s) (i + 1) = dotE (val (x.lamp k)) (val s) i + (x.L.getD k (.bool true,[])).2.getD i 0 * s.getD i 0:=rfl;constructor <;> omega)⟩,F.sub (.c 7 rfl (.c 8 rfl (.c 1 rfl (.c 2 rfl (.c 3 rfl .n)))))⟩
 ·skip
  refine wp_exit ?_
  rw [show i = bn by omega] at F
  refine hK3 _ _ ?_
  clear hK3
  refine wp_seq_k fun K11 hK11=>?_
  refine wp_region_lit ?_
  refine F.mv ?_;clear F fa;intro fa F
  refine F.as ?_;clear F fa;intro fa F
  refine wpList_nil ?_
  refine hK11 _ _ ?_
  clear hK11
  refine wp_ret ?_
  (try simp only [Exit.inBlock,Exit.then,reduceIte])
  refine rt_v F (rs_1 F rfl rfl) ?_
  exact ⟨rfl,E⟩
theorem fam_right {w : World} {base : Nat} {L O : List (Value × List Int)} (h : FamT w base (L ++ O)) : FamT w base O:=
 ⟨fun p hp=>h.1 p (List.mem_append_right _ hp),(List.pairwise_append.1 h.2).2.1⟩
theorem lmpF_zero {hi : Int} : ∀ (ls : List Int) (p : Option Int),lmpF hi p ls = 0 → (∀ n ∈ ls,0 ≤ n ∧ n ≤ hi) ∧ (∀ m,p = some m → ∀ h : 0 < ls.length,m < ls.getD 0 0) ∧ ∀ i,0 < i → i < ls.length → ls.getD (i - 1) 0 < ls.getD i 0
 | [],p,_=>⟨by simp,fun _ _ h=>absurd h (by simp),fun i _ h=>absurd h (by simp)⟩
 | n :: l,p,h=>by
  rw [lmpF] at h
  split at h
  ·cases h
  ·rename_i ho
   split at h
   ·cases h
   ·rename_i hp
    obtain ⟨h1,h2,h3⟩:=lmpF_zero l (some n) h
    refine ⟨fun k hk=>?_,fun m hm _=>?_,fun i h0 hi=>?_⟩
    ·rcases List.mem_cons.1 hk with rfl | hk
     ·exact outB_no.1 (by simpa using ho)
     ·exact h1 k hk
    ·subst hm
     simp at hp
     simpa using hp
    ·rcases i with _ | _ | i
     ·omega
     ·simpa using h2 n rfl (by simp at hi;omega)
     ·simpa using h3 (i + 1) (by omega) (by simp at hi;omega)
theorem lmp_okk {x : Vm} {ls : List Int} (h : lmpE x ls = 0) : LmpsOk x ls:=by
 unfold lmpE at h
 split at h
 ·cases h
 ·rename_i hl
  obtain ⟨h1,-,h3⟩:=lmpF_zero ls none h
  exact ⟨by omega,fun n hn=>by have:=h1 n hn;omega,h3⟩
def RefPost (r : List Int × Int) (w : World) (e : Ending) (w' : World) : Prop:=∃ a c,e = .returned (.tuple #[.slice a r.1.length c,.int .i64 r.2]) ∧ IsRows w' (.slice a r.1.length c) 1 (r.1.map intRow) ∧ Ext [] w w'
theorem rows_nilI (w : World) : IsRows w (.slice none ([] : List Int).length 0) 1 (([] : List Int).map intRow):=rows_of_ivs (World.ownsRow_nil w w.heap.size 3 1) rfl
theorem SameV.err {y x : Vm} (h : SameV y x) : y.err = x.err:=by rw [Vm.err,Vm.err,h.B,h.D,h.L,h.tol]
theorem SameV.rcp {y x : Vm} (h : SameV y x) (l : List Int) : rcpE y l = rcpE x l:=by rw [rcpE,rcpE,h.dl]
theorem SameV.lmpe {y x : Vm} (h : SameV y x) (l : List Int) : lmpE y l = lmpE x l:=by rw [lmpE,lmpE,h.ll]
theorem eqb_self (l : List Int) : decide (l = l) = true:=decide_eq_true rfl
theorem vsI_mem {X : List Vm} {i : Nat} (h : i < X.length) : vsI X i ∈ X:=getD_mem vm0 h
theorem slAt_all {b : Nat} {w : World} {a : Option Addr} {sz n : Nat} {row : Nat → List Value} (h : ∀ W,Ext [b] w W → SlAt [] W a sz n row) : SlAt [b] w a sz n row:=fun i hi=>by
 obtain ⟨c,off,h1,-⟩:=h w (Ext.refl _ _) i hi
 refine ⟨c,off,h1,fun W hW=>?_⟩
 obtain ⟨c2,off2,h3,h4⟩:=h W hW i hi
 have:=(h1 0 0).symm.trans (h3 0 0)
 simp only [Value.slice.injEq,Option.some.injEq,Addr.mk.injEq] at this
 obtain ⟨⟨rfl,rfl,-⟩,-⟩:=this
 exact h4 W (Ext.refl _ _)
theorem row_extD {w W : World} {a : Option Addr} {n c : Nat} {zs : List Int} (h : IsRow .i64 w a n c zs) (e : Ext [] w W) : IsRow .i64 W a n c zs:=by
 rcases h with h | ⟨x,rfl,hl,hm,hz,hc,hw⟩
 ·exact .inl h
 ·refine .inr ⟨x,rfl,hl,hm,hz,fun i hi=>?_,hw⟩
  have:=hc i hi
  have hb : (x.add i).block < w.heap.size:=by
   unfold World.cell? at this
   cases hq : w.heap[(x.add i).block]? with
   | none=>simp [hq] at this
   | some o=>exact (Array.getElem?_eq_some_iff.1 hq).1
  rw [e.cell hb (by simp)]
  exact this
theorem four_ex {w : World} {b : Nat} {T : TypeId} {fz : Nat × Nat} {v1 v2 v3 v4 : Value} {l1 l2 l3 l4 : List Int} (h : w.heap[b]? = some (.cells #[v1,v2,v3,v4] T fz)) (r1 : RowOf w v1 l1) (r2 : RowOf w v2 l2) (r3 : RowOf w v3 l3) (r4 : RowOf w v4 l4)
  (b1 : l1.length ≤ 20) (b2 : l2.length ≤ 20) (b3 : l3.length ≤ 20) (b4 : l4.length ≤ 20) : ∃ R : List (Value × List Int),R.length = 4 ∧ (∀ p ∈ R,p.2.length ≤ 20) ∧ LolAt w (some ⟨b,0,none⟩) R:=
 ⟨[(v1,l1),(v2,l2),(v3,l3),(v4,l4)],rfl,fun p hp=>by
  simp only [List.mem_cons,List.not_mem_nil,or_false] at hp
  rcases hp with rfl | rfl | rfl | rfl <;> assumption,lol_lit [(v1,l1),(v2,l2),(v3,l3),(v4,l4)] h fun p hp=>by
  simp only [List.mem_cons,List.not_mem_nil,or_false] at hp
  rcases hp with rfl | rfl | rfl | rfl <;> assumption⟩
def StuPost (x : Vm) (w0 : World) (b k : Nat) (nv : Value) (w : World) (e : Ending) (w' : World) : Prop:=∃ (a : Option Addr) (c : Nat) (S : List (Value × List Int)),e = .returned (.slice a S.length c) ∧ S.length ≤ 6 ∧ (∀ p ∈ S,RcpOk x p.2) ∧
 w'.ownsRow w.heap.size 25 1 (.slice a S.length c) S.length (S.map (·.1)) ∧ FamT w' w.heap.size S ∧ LotsOk w0 w' b (k + 100) nv ∧ Ext [b] w w'
set_option maxRecDepth 100000 in
set_option maxHeartbeats 2000000 in
theorem stuffsOf_any (x : Vm) (hv : VOk x) (w0 w : World) (b k : Nat) (nv : Value) (h : LotsOk w0 w b k nv) (hk : k ≤ 800000) :
  Calls Try.prog 25 #[.pointer (some ⟨b,0,none⟩),.agg #[.int .i64 x.B,.slice x.da x.D.length x.dc,.slice x.la x.L.length x.lc,.int .i64 x.tol],.int .i64 6] w (StuPost x w0 b k nv w):=by
 have HL:=h
 have hbw:=lots_lt HL
 have hb0:=HL.1
 have hws : w0.heap.size ≤ w.heap.size:=HL.2.2.1.size
 have E : Ext [b] w w:=Ext.refl _ _
 have HV:=Lib.hid hv
 clear h hv
 refine calls_has 23 Try.func25 rfl Try.ntmps25 (Nat.le_of_ble_eq_true rfl) ?_
 intro fa F
 refine wp_seq_k fun K1 hK1=>?_
 refine wp_region_lit ?_
 refine sq_new F rfl (by decide) rfl (R_box rfl (F.at rfl)) ?_;clear F fa;intro fa w1 F hw
 obtain ⟨n4,hn⟩ : ∃ n,n = w.heap.size:=⟨_,rfl⟩
 rw [← hn] at F
 have s4 : w.heap.size ≤ n4:=Nat.le_of_eq hn.symm
 have l4_E : w.heap.size ≤ n4:=by rw [hn];exact E.size
 have b4_HL:=Nat.lt_of_lt_of_eq (lots_lt HL) hn.symm
 replace E:=ext_alloc E hw
 replace HL:=lots_alloc hw HL
 have q4:=new_row hw hn
 clear hw hn
 refine F.vl (R_assign rfl (ev_c fa _)) ?_;clear F fa;intro fa F
 refine wpList_nil ?_
 refine hK1 _ _ ?_
 clear hK1
 refine wp_seq_k fun K2 hK2=>?_
 refine wp_region_lit ?_
 refine F.vl (R_assign rfl (ev_c fa _)) ?_;clear F fa;intro fa F
 refine wpList_nil ?_
 refine hK2 _ _ ?_
 clear hK2
 refine wp_seq_k fun K3 hK3=>?_
 refine wp_seq_k fun K4 hK4=>?_
 refine wp_region_lit ?_
 refine F.mv ?_;clear F fa;intro fa F
 refine F.mv ?_;clear F fa;intro fa F
 refine sq_call F rfl (by decide) rfl (R_callV rfl rfl Try.call26 (mpS (F.at rfl) (mpS (F.at rfl) mp0))) (upto_any w0 _ b _ nv 6 HL (by omega) (by omega) (by omega)) fun e w2 hR=>?_
 obtain ⟨u,rfl,hu0,hu1,HL,e9⟩:=hR
 refine ⟨_,rfl,?_⟩;clear F fa;intro fa F
 replace q4:=(e9).keep q4 (by simp;omega)
 replace E:=E.trans' e9 (fun i hi hl=>by simp only [List.mem_cons,List.not_mem_nil,or_false] at hi ⊢;omega)
 obtain ⟨u,rfl⟩:=Int.eq_ofNat_of_zero_le hu0
 refine F.as ?_;clear F fa;intro fa F
 refine wpList_nil ?_
 obtain ⟨wR,hwR⟩ : ∃ wR,wR = w2:=⟨_,rfl⟩
 have ER : Ext [b] wR w2:=by rw [hwR];exact Ext.refl _ _
 have hb4:=blk_lt q4
 have hbb:=lots_lt HL
 rw [← hwR] at hb4 hbb
 have hwR0 : w.heap.size ≤ wR.heap.size:=by rw [hwR];exact E.size
 have oo : w2.ownsRow wR.heap.size 25 1 (.slice none 0 0) 0 (([] : List (Value × List Int)).map (·.1)):=World.ownsRow_nil _ _ _ _
 have fam : FamT w2 wR.heap.size []:=fam_nil _ _
 refine hK4 _ _ ?_
 clear hK4
 refine wp_block ?_
 have F0:=F.sub (.c 0 rfl (.c 4 rfl .n))
 replace HL : LotsOk w0 w2 b (k + 1 + 10 * 0) nv:=lots_mono HL (by omega)
 refine lp_for F0 (u) (fun i Lv W=>∃ va : Option Addr,∃ vc : Nat,∃ S : List (Value × List Int),Lv = [(7,.slice va S.length vc),(8,.int .i64 ((u - i : Nat) : Int))] ∧ Ext [b] w W ∧ Ext [b] wR W ∧ W.heap[n4]? = some (.cells #[.int .i64 x.B,.slice x.da x.D.length x.dc,.slice x.la x.L.length x.lc,.int .i64 x.tol] 24 (0,0)) ∧ LotsOk w0 W b (k + 1 + 10 * i) nv ∧ W.ownsRow wR.heap.size 25 1 (.slice va S.length vc) S.length (S.map (·.1)) ∧ FamT W wR.heap.size S ∧ (∀ p ∈ S,RcpOk x p.2) ∧ S.length = i ∧ i ≤ u) ⟨_,⟨none,0,[],rfl,E,ER,q4,HL,oo,fam,(by simp),rfl,(by omega)⟩,F.sub (.c 7 rfl (.c 8 rfl (.c 0 rfl (.c 4 rfl .n))))⟩ ?_
 clear F F0
 clear E ER q4 HL
 clear oo
 clear fam
 rintro i _ fa w3 hi1 ⟨va,vc,S,rfl,E,ER,q4,HL,oo,fam,hS,hSl,hin⟩ F
 refine wp_seq_k fun K5 hK5=>?_
 refine wp_seq_k fun K6 hK6=>?_
 refine wp_region_lit ?_
 refine F.mv ?_;clear F fa;intro fa F
 refine F.vl (R_gtr rfl (F.at rfl) (ev_c fa _)) ?_;clear F fa;intro fa F
 refine wpList_nil ?_
 refine hK6 _ _ ?_
 clear hK6
 refine cd_if F rfl (fun hc13=>?_) (fun hc13=>?_)
 ·skip
  refine wp_skip ?_
  refine hK5 _ _ ?_
  clear hK5
  refine wp_seq_k fun K7 hK7=>?_
  refine wp_block ?_
  refine wp_region_lit ?_
  refine F.mv ?_;clear F fa;intro fa F
  refine F.mv ?_;clear F fa;intro fa F
  refine F.vl (R_loadBlk rfl (F.at rfl) Try.underlying24 rfl (by kernel_rfl) q4) ?_;clear F fa;intro fa F
  have hflt:=Lib.hid (fam_lt fam)
  obtain ⟨B1,hB1⟩ : ∃ B1,B1 = w3.heap.size:=⟨_,rfl⟩
  rw [← hB1] at hflt
  have hB1w : wR.heap.size ≤ B1:=by rw [hB1];exact ER.size
  refine sq_call F rfl (by decide) rfl (R_callV rfl rfl Try.call15 (mpS (F.at rfl) (mpS (F.at rfl) mp0))) (recipeOf_any x HV.out w0 _ b _ nv HL (by omega)) fun e w4 hR=>?_
  obtain ⟨ra,xs,rfl,hrc,ro,HL,e9⟩:=hR
  refine ⟨_,rfl,?_⟩;clear F fa;intro fa F
  replace oo:=owns_ext oo (e9) (by simp;omega)
  replace fam:=fam_lift fam fun _ _ _ h=>owns_ext h (e9) (by simp;omega)
  replace q4:=(e9).keep q4 (by simp;omega)
  replace E:=E.trans' e9 (fun i hi hl=>by simp only [List.mem_cons,List.not_mem_nil,or_false] at hi ⊢;omega)
  replace ER:=ER.trans' e9 (fun i hi hl=>by simp only [List.mem_cons,List.not_mem_nil,or_false] at hi ⊢;omega)
  rw [← hB1] at ro
  have hxl:=hrc.len
  have fam2:=fam_perm (fam_join (b1:=B1) (L:=[(Value.slice ra x.D.length x.D.length,xs)]) ⟨fun p hp=>(by obtain rfl : p = (Value.slice ra x.D.length x.D.length,xs):=(by simpa using hp);rw [show ((Value.slice ra x.D.length x.D.length,xs) : Value × List Int).2.length = x.D.length from hxl];exact ro),List.pairwise_singleton _ _⟩ fam hflt.out hB1w) (M:=S ++ [(Value.slice ra x.D.length x.D.length,xs)]) List.perm_append_comm
  clear fam ro
  have fam:=fam2
  clear fam2
  obtain ⟨P,hP⟩ : ∃ P,P = S ++ [(Value.slice ra x.D.length x.D.length,xs)]:=⟨_,rfl⟩
  have hPl : S.length + 1 = P.length:=by rw [hP,List.length_append];rfl
  rw [← hP] at fam
  have hPS : ∀ p ∈ P,RcpOk x p.2:=by intro p hp;rw [hP] at hp;rcases List.mem_append.1 hp with hp | hp;(· exact hS p hp);(· simp only [List.mem_cons,List.not_mem_nil,or_false] at hp;subst hp;exact hrc)
  refine sq_new F rfl (by decide) rfl (R_buildSliceV rfl (prS (F.at rfl) pr0) Try.underlying22 (size:=1) (by kernel_rfl) (by decide) (by decide) Try.zeroValue25 (cells:=#[.slice ra x.D.length x.D.length]) (by kernel_rfl)) ?_;clear F fa;intro fa w5 F hw
  obtain ⟨n20,hn⟩ : ∃ n,n = w4.heap.size:=⟨_,rfl⟩
  rw [← hn] at F
  have s20 : w4.heap.size ≤ n20:=Nat.le_of_eq hn.symm
  have l20_E : w.heap.size ≤ n20:=by rw [hn];exact E.size
  have l20_ER : wR.heap.size ≤ n20:=by rw [hn];exact ER.size
  have b20_HL:=Nat.lt_of_lt_of_eq (lots_lt HL) hn.symm
  have m20_4 : n4 < n20:=by rw [hn];exact blk_lt q4
  have o20_oo:=Lib.hid (own_ne_new oo hn)
  replace oo:=owns_alloc hw oo
  replace fam:=fam_lift fam fun _ _ _ h=>owns_alloc hw h
  replace q4:=keep_alloc hw q4
  replace E:=ext_alloc E hw
  replace ER:=ext_alloc ER hw
  replace HL:=lots_alloc hw HL
  have q20:=new_block hw hn
  clear hw hn
  have hEs:=ER.size
  refine sq_some F rfl (by decide) rfl (append_run rfl (wR.heap.size) (e:=25) (size:=1) (bytes:=24) Try.underlying22 (by kernel_rfl) (by decide) (F.at rfl) oo (F.at rfl) q20 rfl (by simp [Value.oneCell']) (by omega) (by omega) (by omega)) ?_;clear F fa;rintro fa v' w6 F ⟨hown',hg⟩
  obtain ⟨va21,vc21,rfl⟩:=owns_slice hown'
  replace q4:=keep_type oo hg q4 (by decide)
  replace HL:=lots_append HL oo hg (by omega) (by decide)
  replace fam:=fam_lift fam fun _ _ _ h=>owns_other h oo hg (by decide)
  replace E:=ext_appendX E oo hg (by omega)
  replace ER:=ext_appendX ER oo hg (by omega)
  replace oo:=hown'
  clear hg
  rw [show S.map (·.1) ++ [Value.slice ra x.D.length x.D.length] = P.map (·.1) by rw [hP,List.map_append];rfl,hPl] at oo
  rw [hPl] at F
  replace hS:=hPS
  replace hSl : P.length = i + 1:=by omega
  refine F.as ?_;clear F fa;intro fa F
  refine wpList_nil ?_
  refine hK7 _ _ ?_
  clear hK7
  refine wp_region_lit ?_
  refine F.mv ?_;clear F fa;intro fa F
  refine F.vl (R_sub rfl (F.at rfl) (ev_c fa _) (by omega) (by omega)) ?_;clear F fa;intro fa F
  rw [show (((u - i : Nat) : Int) - 1) = ((u - (i + 1) : Nat) : Int) by omega] at F
  refine F.as ?_;clear F fa;intro fa F
  refine wpList_nil ?_
  replace HL : LotsOk w0 w6 b (k + 1 + 10 * (i + 1)) nv:=lots_mono HL (by omega)
  show _ ∧ _
  exact ⟨by omega,_,⟨_,_,_,rfl,E,ER,q4,HL,oo,fam,hS,hSl,(by omega)⟩,F.sub (.c 7 rfl (.c 8 rfl (.c 0 rfl (.c 4 rfl .n))))⟩
 ·skip
  refine wp_exit ?_
  refine hK3 _ _ ?_
  clear hK3
  refine wp_seq_k fun K8 hK8=>?_
  refine wp_region_lit ?_
  refine F.mv ?_;clear F fa;intro fa F
  refine F.as ?_;clear F fa;intro fa F
  refine wpList_nil ?_
  refine hK8 _ _ ?_
  clear hK8
  refine wp_ret ?_
  (try simp only [Exit.inBlock,Exit.then,reduceIte])
  refine rt_v F (rs_1 F rfl rfl) ?_
  exact ⟨va,vc,S,rfl,by omega,hS,owns_lower oo hwR0,fam_lower fam hwR0,lots_mono HL (by omega),E⟩
def picL (n : Nat) : Nat → Nat → List (List Int)
 | 0,_=>[[]]
 | m + 1,f=>(List.range (n - f)).flatMap fun d=>(picL n m (f + d + 1)).map fun l=>((f + d : Nat) : Int) :: l
def picT (n m f k : Nat) : List (List Int):=(List.range k).flatMap fun d=>(picL n m (f + d + 1)).map fun l=>((f + d : Nat) : Int) :: l
theorem picT_put (n m f k : Nat) : picT n m f k ++ ((picL n m (f + k + 1)).map fun l=>((f + k : Nat) : Int) :: l) = picT n m f (k + 1):=by
 rw [picT,picT,List.range_succ,List.flatMap_append];simp
theorem pic_bd : ∀ n,n < 7 → ∀ m,m < 7 → ∀ f,f < 8 → (picL n m f).length ≤ 100 ∧ ∀ l ∈ picL n m f,l.length = m:=by decide +kernel
theorem picT_bd : ∀ n,n < 7 → ∀ m,m < 7 → ∀ f,f < 8 → ∀ k,k < 7 → (picT n m f k).length ≤ 500:=by decide +kernel
set_option maxRecDepth 100000 in
set_option maxHeartbeats 2000000 in
theorem dPicks_step (n many f : Nat) (hn : n ≤ 6) (hm : many ≤ 6) (hf : f ≤ 7) (IH : RowKit.Hid (∀ m,m < many → ∀ g,g ≤ 7 → ∀ w : World,Calls Try.prog 80 #[.int .i64 (g : Nat),.int .i64 (n : Nat),.int .i64 (m : Nat)] w (LisPost (picL n m g) w))) (w : World) :
  Calls Try.prog 80 #[.int .i64 (f : Nat),.int .i64 (n : Nat),.int .i64 (many : Nat)] w (LisPost (picL n many f) w):=by
 have E : Ext [] w w:=Ext.refl _ _
 refine calls_has 43 Try.func80 rfl Try.ntmps80 (Nat.le_of_ble_eq_true rfl) ?_
 intro fa F
 refine wp_seq_k fun K1 hK1=>?_
 refine wp_region_lit ?_
 refine F.vl (R_assign rfl (ev_c fa _)) ?_;clear F fa;intro fa F
 refine wpList_nil ?_
 refine hK1 _ _ ?_
 clear hK1
 refine wp_seq_k fun K2 hK2=>?_
 refine wp_seq_k fun K3 hK3=>?_
 refine wp_region_lit ?_
 refine F.mv ?_;clear F fa;intro fa F
 refine F.vl (R_eqlD rfl (F.at rfl) (ev_c fa _)) ?_;clear F fa;intro fa F
 refine wpList_nil ?_
 refine hK3 _ _ ?_
 clear hK3
 refine cd_if F rfl (fun hc12=>?_) (fun hc12=>?_)
 ·skip
  obtain rfl : many = 0:=by omega
  refine wp_seq_k fun K4 hK4=>?_
  refine wp_region_lit ?_
  refine sq_new F rfl (by decide) rfl (R_buildSliceV rfl (prS (ev_c fa _) pr0) Try.underlying22 (size:=1) (by kernel_rfl) (by decide) (by decide) Try.zeroValue25 (cells:=#[.slice none 0 0]) (by kernel_rfl)) ?_;clear F fa;intro fa w1 F hw
  obtain ⟨n13,hn⟩ : ∃ n,n = w.heap.size:=⟨_,rfl⟩
  rw [← hn] at F
  have s13 : w.heap.size ≤ n13:=Nat.le_of_eq hn.symm
  have l13_E : w.heap.size ≤ n13:=by rw [hn];exact E.size
  replace E:=ext_alloc E hw
  have q13:=new_block hw hn
  clear hw hn
  refine F.as ?_;clear F fa;intro fa F
  refine wpList_nil ?_
  obtain ⟨O0,hO0⟩ : ∃ O0,O0 = [(Value.slice none 0 0,([] : List Int))]:=⟨_,rfl⟩
  have o1 : w1.ownsRow w.heap.size 25 1 (.slice (some ⟨n13,0,none⟩) O0.length 1) O0.length (O0.map (·.1)):=by rw [hO0];exact owns_lit1 q13 (by omega)
  have f1 : FamT w1 w.heap.size O0:=by rw [hO0];exact ⟨fun p hp=>by obtain rfl : p = (Value.slice none 0 0,([] : List Int)):=(by simpa using hp);exact World.ownsRow_nil _ _ _ _,List.pairwise_singleton _ _⟩
  refine hK4 _ _ ?_
  clear hK4
  refine wp_ret ?_
  (try simp only [Exit.inBlock,Exit.then,reduceIte])
  refine rt_v F (rs_1 F rfl rfl) ?_
  rw [show (Value.slice (some ⟨n13,0,none⟩) 1 1) = .slice (some ⟨n13,0,none⟩) O0.length 1 by rw [hO0];rfl];exact ⟨O0,_,_,rfl,by rw [hO0];rfl,o1,f1,E⟩
 ·skip
  obtain ⟨m,rfl⟩ : ∃ m,many = m + 1:=⟨many - 1,by omega⟩
  refine wp_skip ?_
  refine hK2 _ _ ?_
  clear hK2
  refine wp_seq_k fun K5 hK5=>?_
  refine wp_region_lit ?_
  refine F.vl (R_assign rfl (ev_c fa _)) ?_;clear F fa;intro fa F
  refine wpList_nil ?_
  have oo : w.ownsRow w.heap.size 25 1 (.slice none 0 0) 0 (([] : List (Value × List Int)).map (·.1)):=World.ownsRow_nil _ _ _ _
  have fam : FamT w w.heap.size []:=fam_nil _ _
  refine hK5 _ _ ?_
  clear hK5
  refine wp_seq_k fun K6 hK6=>?_
  refine wp_seq_k fun K7 hK7=>?_
  refine wp_region_lit ?_
  refine F.mv ?_;clear F fa;intro fa F
  refine F.as ?_;clear F fa;intro fa F
  refine wpList_nil ?_
  refine hK7 _ _ ?_
  clear hK7
  refine wp_block ?_
  have F0:=F.sub (.c 1 rfl (.c 2 rfl .n))
  refine lp_for F0 (n - f) (fun k Lv W=>∃ va : Option Addr,∃ vc : Nat,∃ O : List (Value × List Int),Lv = [(7,.slice va O.length vc),(8,.int .i64 ((f + k : Nat) : Int))] ∧ Ext [] w W ∧ W.ownsRow w.heap.size 25 1 (.slice va O.length vc) O.length (O.map (·.1)) ∧ FamT W w.heap.size O ∧ O.map (·.2) = picT n m f k) ⟨_,⟨none,0,[],rfl,E,oo,fam,rfl⟩,F.sub (.c 7 rfl (.c 8 rfl (.c 1 rfl (.c 2 rfl .n))))⟩ ?_
  clear F F0
  clear E
  clear oo
  clear fam
  rintro k _ fa w2 hi1 ⟨va,vc,O,rfl,E,oo,fam,hO⟩ F
  refine wp_seq_k fun K8 hK8=>?_
  refine wp_seq_k fun K9 hK9=>?_
  refine wp_region_lit ?_
  refine F.mv ?_;clear F fa;intro fa F
  refine F.mv ?_;clear F fa;intro fa F
  refine F.vl (R_lss rfl (F.at rfl) (F.at rfl)) ?_;clear F fa;intro fa F
  refine wpList_nil ?_
  refine hK9 _ _ ?_
  clear hK9
  refine cd_if F rfl (fun hc17=>?_) (fun hc17=>?_)
  ·skip
   refine wp_skip ?_
   refine hK8 _ _ ?_
   clear hK8
   refine wp_seq_k fun K10 hK10=>?_
   refine wp_block ?_
   refine wp_seq_k fun K11 hK11=>?_
   refine wp_region_lit ?_
   refine F.mv ?_;clear F fa;intro fa F
   refine F.vl (R_add rfl (F.at rfl) (ev_c fa _) (by omega) (by omega)) ?_;clear F fa;intro fa F
   rw [show (((f + k : Nat) : Int) + 1) = ((f + k + 1 : Nat) : Int) by omega] at F
   refine F.mv ?_;clear F fa;intro fa F
   refine F.mv ?_;clear F fa;intro fa F
   refine F.vl (R_sub rfl (F.at rfl) (ev_c fa _) (by omega) (by omega)) ?_;clear F fa;intro fa F
   rw [show (((m + 1 : Nat) : Int) - 1) = ((m : Nat) : Int) by omega] at F
   have hflt0:=Lib.hid (fam_lt fam)
   have hol:=Lib.hid (fun b e=>(oo.lt b e).2)
   obtain ⟨B0,hB0⟩ : ∃ B0,B0 = w2.heap.size:=⟨_,rfl⟩
   rw [← hB0] at hflt0 hol
   have hB0w : w.heap.size ≤ B0:=by rw [hB0];exact E.size
   refine sq_call F rfl (by decide) rfl (R_callV rfl rfl Try.call80 (mpS (F.at rfl) (mpS (F.at rfl) (mpS (F.at rfl) mp0)))) (IH.out m (by omega) (f + k + 1) (by omega) _) fun e w3 hR=>?_
   obtain ⟨R,ra,rc,rfl,hR,ro,rf,e9⟩:=hR
   refine ⟨_,rfl,?_⟩;clear F fa;intro fa F
   replace oo:=owns_ext oo (e9) (by simp)
   replace fam:=fam_lift fam fun _ _ _ h=>owns_ext h (e9) (by simp)
   replace E:=ext_same E (e9)
   clear e9
   rw [← hB0] at ro rf
   have hap : RowKit.Hid ((Value.slice ra R.length rc).ownBlock = none ∨ (Value.slice ra R.length rc).ownBlock ≠ (Value.slice va O.length vc).ownBlock):=Lib.hid (by cases hb : (Value.slice ra R.length rc).ownBlock with | none=>exact .inl rfl | some b=>exact .inr (fun e=>by have h1:=(ro.lt b hb).1;have h2:=hol.out b e.symm;omega))
   have rr:=owns_lower ro hB0w
   have fam2:=fam_join (b1:=B0) (L:=R) rf fam hflt0.out hB0w
   clear ro rf fam hol hflt0
   have fam:=fam2
   clear fam2
   obtain ⟨hab,hal⟩:=pic_bd n (by omega) m (by omega) (f + k + 1) (by omega)
   have hRl : R.length ≤ 100:=(by rw [← List.length_map (f:=fun p : Value × List Int=>p.2),hR];exact hab)
   have hRm : RowKit.Hid (∀ q ∈ R,q.2.length = m):=Lib.hid (fun q hq=>hal _ (by rw [← hR];exact List.mem_map.2 ⟨q,hq,rfl⟩))
   clear hab hal
   refine F.as ?_;clear F fa;intro fa F
   refine wpList_nil ?_
   refine hK11 _ _ ?_
   clear hK11
   refine wp_seq_k fun K12 hK12=>?_
   refine wp_region_lit ?_
   refine F.vl (R_assign rfl (ev_c fa _)) ?_;clear F fa;intro fa F
   refine wpList_nil ?_
   refine hK12 _ _ ?_
   clear hK12
   refine wp_block ?_
   have F0:=F.sub (.c 1 rfl (.c 2 rfl (.c 8 rfl (.c 9 rfl .n))))
   refine lp_for F0 (R.length) (fun i Lv W=>∃ va2 : Option Addr,∃ vc2 : Nat,∃ P : List (Value × List Int),Lv = [(7,.slice va2 P.length vc2),(10,.int .i64 ((i : Nat) : Int))] ∧ Ext [] w W ∧ W.ownsRow w.heap.size 25 1 (.slice ra R.length rc) R.length (R.map (·.1)) ∧ W.ownsRow w.heap.size 25 1 (.slice va2 P.length vc2) P.length (P.map (·.1)) ∧ FamT W w.heap.size (R ++ P) ∧ RowKit.Hid ((Value.slice ra R.length rc).ownBlock = none ∨ (Value.slice ra R.length rc).ownBlock ≠ (Value.slice va2 P.length vc2).ownBlock) ∧ P.map (·.2) = picT n m f k ++ ((R.map (·.2)).take i).map fun l=>((f + k : Nat) : Int) :: l) ⟨_,⟨va,vc,O,rfl,E,rr,oo,fam,hap,(by rw [hO];simp)⟩,F.sub (.c 7 rfl (.c 10 rfl (.c 1 rfl (.c 2 rfl (.c 8 rfl (.c 9 rfl .n))))))⟩ ?_
   clear F F0
   clear E rr
   clear oo
   clear fam
   rintro i _ fa w4 hi2 ⟨va2,vc2,P,rfl,E,rr,oo,fam,hap,hP⟩ F
   have hPl : P.length ≤ 2000:=by have h:=congrArg List.length hP;simp only [List.length_map,List.length_append,List.length_take] at h;have h2:=picT_bd n (by omega) m (by omega) f (by omega) k (by omega);omega
   refine wp_seq_k fun K13 hK13=>?_
   refine wp_seq_k fun K14 hK14=>?_
   refine wp_region_lit ?_
   refine F.mv ?_;clear F fa;intro fa F
   refine F.mv ?_;clear F fa;intro fa F
   refine F.vl (R_len rfl rfl (F.at rfl) Try.underlying22) ?_;clear F fa;intro fa F
   refine F.vl (R_lss rfl (F.at rfl) (F.at rfl)) ?_;clear F fa;intro fa F
   refine wpList_nil ?_
   refine hK14 _ _ ?_
   clear hK14
   refine cd_if F rfl (fun hc29=>?_) (fun hc29=>?_)
   ·skip
    refine wp_skip ?_
    refine hK13 _ _ ?_
    clear hK13
    refine wp_seq_k fun K15 hK15=>?_
    refine wp_block ?_
    have EX : Ext [] w4 w4:=Ext.refl _ _
    have HS:=Lib.hid (slAt_of_outer rr rfl)
    have hmm : R.getD i (.bool true,[]) ∈ R ++ P:=List.mem_append_left _ (getD_mem _ (by omega))
    obtain ⟨la,lca,hla,hlr⟩:=fam_row fam hmm
    have HLR:=Lib.hid hlr
    have hlm:=hRm.out _ (getD_mem (.bool true,[]) (show i < R.length by omega))
    refine wp_region_lit ?_
    refine F.mv ?_;clear F fa;intro fa F
    refine F.mv ?_;clear F fa;intro fa F
    have hflt:=Lib.hid (fam_lt fam)
    obtain ⟨B1,hB1⟩ : ∃ B1,B1 = w4.heap.size:=⟨_,rfl⟩
    rw [← hB1] at hflt
    have hB1w : w.heap.size ≤ B1:=(by rw [hB1];exact E.size)
    have hB1X:=EX.size
    rw [← hB1] at hB1X
    refine sq_new F rfl (by decide) rfl (R_buildSliceV rfl (prS (F.at rfl) pr0) Try.underlying25 (size:=1) (by kernel_rfl) (by decide) (by decide) Try.zeroValue3 (cells:=#[.int .i64 ((f + k : Nat) : Int)]) (by kernel_rfl)) ?_;clear F fa;intro fa w5 F hw
    obtain ⟨n34,hn⟩ : ∃ n,n = w4.heap.size:=⟨_,rfl⟩
    rw [← hn] at F
    have s34 : w4.heap.size ≤ n34:=Nat.le_of_eq hn.symm
    have l34_E : w.heap.size ≤ n34:=by rw [hn];exact E.size
    have l34_EX : w4.heap.size ≤ n34:=by rw [hn];exact EX.size
    have o34_oo:=Lib.hid (own_ne_new oo hn)
    have o34_rr:=Lib.hid (own_ne_new rr hn)
    replace oo:=owns_alloc hw oo
    replace fam:=fam_lift fam fun _ _ _ h=>owns_alloc hw h
    replace rr:=owns_alloc hw rr
    replace E:=ext_alloc E hw
    replace EX:=ext_alloc EX hw
    have q34:=new_block hw hn
    clear hw hn
    have oi:=owns_lower (base':=B1) (own_of_block q34 (n:=1) (size:=1) rfl (by decide)) (show B1 ≤ n34 by omega)
    refine F.mv ?_;clear F fa;intro fa F
    refine F.mv ?_;clear F fa;intro fa F
    obtain ⟨xb16,xo16,xa16,xr16⟩:=HS.out i (by omega)
    refine F.vl (R_ixSlice (sz:=1) rfl ((F.at rfl).trans (xa16 _ _)) (F.at rfl) Try.underlying22 (by kernel_rfl) (by omega) (by omega)) ?_;clear F fa;intro fa F
    refine F.vl (R_load rfl (F.at rfl) Try.underlying25 rfl (xr16 _ EX 0 _ rfl)) ?_;clear F fa;intro fa F
    rw [hla] at F
    have hB7:=EX.size
    have hE7 : B1 ≤ w5.heap.size:=(by have:=(oi.lt n34 rfl).2;have:=(oi.lt n34 rfl).1;omega)
    refine sq_some F rfl (by decide) rfl (appends_run rfl (B1) (e:=3) (size:=1) (bytes:=8) Try.underlying25 (by kernel_rfl) (by decide) (F.at rfl) oi (F.at rfl) (srcAt_of_rows (HLR.out.ext EX (by simp)) (by decide) (fun _=>rfl) intRow_one) (by omega) (by omega) (by omega)) ?_;clear F fa;rintro fa v' w6 F ⟨hown',hg⟩
    obtain ⟨va39,vc39,rfl⟩:=owns_slice hown'
    replace oo:=owns_other oo oi hg (by decide)
    replace fam:=fam_below fam hflt.out oi hg
    replace rr:=owns_other rr oi hg (by decide)
    replace E:=ext_appendX E oi hg (by omega)
    replace EX:=ext_appendX EX oi hg (by omega)
    replace oi:=hown'
    clear hg
    obtain ⟨S,hSe⟩ : ∃ S,S = ((f + k : Nat) : Int) :: (R.getD i (.bool true,[])).2:=⟨_,rfl⟩
    have hSl : 1 + (R.getD i (.bool true,[])).2.length = S.length:=(by rw [hSe,List.length_cons];omega)
    rw [← ivs_flat,show [Value.int .i64 ((f + k : Nat) : Int)] ++ ivs (R.getD i (.bool true,[])).2 = ivs S by rw [hSe];rfl,hSl] at oi
    rw [hSl] at F
    have fam2:=fam_perm (fam_join (b1:=B1) (L:=[(Value.slice va39 S.length vc39,S)]) ⟨fun p hp=>(by obtain rfl : p = (Value.slice va39 S.length vc39,S):=(by simpa using hp);exact oi),List.pairwise_singleton _ _⟩ fam hflt.out hB1w) (M:=(R ++ P) ++ [(Value.slice va39 S.length vc39,S)]) List.perm_append_comm
    rw [List.append_assoc] at fam2
    clear fam oi
    have fam:=fam2
    clear fam2
    refine sq_new F rfl (by decide) rfl (R_buildSliceV rfl (prS (F.at rfl) pr0) Try.underlying22 (size:=1) (by kernel_rfl) (by decide) (by decide) Try.zeroValue25 (cells:=#[.slice va39 S.length vc39]) (by kernel_rfl)) ?_;clear F fa;intro fa w7 F hw
    obtain ⟨n40,hn⟩ : ∃ n,n = w6.heap.size:=⟨_,rfl⟩
    rw [← hn] at F
    have s40 : w6.heap.size ≤ n40:=Nat.le_of_eq hn.symm
    have l40_E : w.heap.size ≤ n40:=by rw [hn];exact E.size
    have o40_oo:=Lib.hid (own_ne_new oo hn)
    have o40_rr:=Lib.hid (own_ne_new rr hn)
    replace oo:=owns_alloc hw oo
    replace fam:=fam_lift fam fun _ _ _ h=>owns_alloc hw h
    replace rr:=owns_alloc hw rr
    replace E:=ext_alloc E hw
    have q40:=new_block hw hn
    clear hw hn
    have hEs2:=E.size
    refine sq_some F rfl (by decide) rfl (append_runB rfl (w.heap.size) (e:=25) (size:=1) (bytes:=24) Try.underlying22 (by kernel_rfl) (by decide) (F.at rfl) oo (F.at rfl) q40 rfl (by simp [Value.oneCell']) (by omega) (by omega) (by omega)) ?_;clear F fa;rintro fa v' w8 F ⟨hown',⟨hg,hblk⟩⟩
    obtain ⟨va41,vc41,rfl⟩:=owns_slice hown'
    have hap2:=own_apart2 hap.out rr hblk
    replace fam:=fam_lift fam fun _ _ _ h=>owns_other h oo hg (by decide)
    replace rr:=rr.kept hg hap.out
    replace E:=ext_appendX E oo hg (by omega)
    replace oo:=hown'
    clear hg
    obtain ⟨P2,hP2e⟩ : ∃ P2,P2 = P ++ [(Value.slice va39 S.length vc39,S)]:=⟨_,rfl⟩
    have hPl3 : P.length + 1 = P2.length:=by rw [hP2e,List.length_append];rfl
    have hP3 : P2.map (·.2) = picT n m f k ++ ((R.map (·.2)).take (i + 1)).map fun l=>((f + k : Nat) : Int) :: l:=by rw [hP2e,List.map_append,hP,take_getD (R.map (·.2)) [] (by rw [List.length_map];omega),List.map_append,← List.append_assoc,key_getD R (by omega),hSe];rfl
    rw [show P.map (·.1) ++ [Value.slice va39 S.length vc39] = P2.map (·.1) by rw [hP2e,List.map_append];rfl,hPl3] at oo
    rw [hPl3] at F hap2
    rw [← hP2e] at fam
    clear hap hblk
    have hap:=Lib.hid hap2
    clear hap2
    refine F.as ?_;clear F fa;intro fa F
    refine wpList_nil ?_
    refine hK15 _ _ ?_
    clear hK15
    refine wp_region_lit ?_
    refine F.mv ?_;clear F fa;intro fa F
    refine F.vl (R_add rfl (F.at rfl) (ev_c fa _) (by omega) (by omega)) ?_;clear F fa;intro fa F
    refine F.as ?_;clear F fa;intro fa F
    refine wpList_nil ?_
    show _ ∧ _
    exact ⟨by omega,_,⟨_,_,_,rfl,E,rr,oo,fam,hap,hP3⟩,F.sub (.c 7 rfl (.c 10 rfl (.c 1 rfl (.c 2 rfl (.c 8 rfl (.c 9 rfl .n))))))⟩
   ·skip
    refine wp_exit ?_
    have hO4 : P.map (·.2) = picT n m f (k + 1):=(by rw [hP,List.take_of_length_le (by rw [List.length_map];omega),hR,picT_put])
    replace fam:=fam_right fam
    refine hK10 _ _ ?_
    clear hK10
    refine wp_region_lit ?_
    refine F.mv ?_;clear F fa;intro fa F
    refine F.vl (R_add rfl (F.at rfl) (ev_c fa _) (by omega) (by omega)) ?_;clear F fa;intro fa F
    refine F.as ?_;clear F fa;intro fa F
    refine wpList_nil ?_
    show _ ∧ _
    exact ⟨by omega,_,⟨_,_,_,rfl,E,oo,fam,hO4⟩,F.sub (.c 7 rfl (.c 8 rfl (.c 1 rfl (.c 2 rfl .n))))⟩
  ·skip
   refine wp_exit ?_
   rw [show k = n - f by omega] at hO
   refine hK6 _ _ ?_
   clear hK6
   refine wp_seq_k fun K17 hK17=>?_
   refine wp_region_lit ?_
   refine F.mv ?_;clear F fa;intro fa F
   refine F.as ?_;clear F fa;intro fa F
   refine wpList_nil ?_
   refine hK17 _ _ ?_
   clear hK17
   refine wp_ret ?_
   (try simp only [Exit.inBlock,Exit.then,reduceIte])
   refine rt_v F (rs_1 F rfl rfl) ?_
   exact ⟨O,va,vc,rfl,hO,oo,fam,E⟩
theorem dPicks_any (n : Nat) (hn : n ≤ 6) : ∀ (many : Nat),many ≤ 6 → ∀ f,f ≤ 7 → ∀ w : World,Calls Try.prog 80 #[.int .i64 (f : Nat),.int .i64 (n : Nat),.int .i64 (many : Nat)] w (LisPost (picL n many f) w):=fun many =>
 Nat.strongRecOn many fun many ih hm f hf w=>dPicks_step n many f hn hm hf (Lib.hid fun m h g hg w=>ih m h (by omega) g hg w) w
set_option maxRecDepth 100000 in
set_option maxHeartbeats 2000000 in
theorem dPair_ok (x : Vm) (hv : VOk x) (k : Nat) (hk : k < x.L.length) (a b : List Int) (ha : RcpOk x a) (hb : RcpOk x b) (aa ba : Option Addr) (ac bc : Nat) (w : World) (h : x.At w) (hp : IsRows w (.slice aa a.length ac) 1 (a.map intRow)) (hq : IsRows w (.slice ba b.length bc) 1 (b.map intRow)) :
  Calls Try.prog 113 #[.agg #[.int .i64 x.B,.slice x.da x.D.length x.dc,.slice x.la x.L.length x.lc,.int .i64 x.tol],.int .i64 ((k : Nat) : Int),.slice aa a.length ac,.slice ba b.length bc] w fun e w'=>e = .returned (.bool (alkE x k (val a) (val b))) ∧ Ext [] w w':=by
 have E : Ext [] w w:=Ext.refl _ _
 have HX:=Lib.hid h
 have HV:=Lib.hid hv
 have HP:=Lib.hid hp
 have HQ:=Lib.hid hq
 have HA:=Lib.hid ha
 have HB:=Lib.hid hb
 have hb1:=hv.b1
 have hb3:=hv.b3
 have hd4:=hv.d4
 have hla:=ha.len
 have hlb:=hb.len
 obtain ⟨bn,hbn⟩ : ∃ bn : Nat,x.B = bn:=⟨x.B.toNat,by omega⟩
 have hbn2 : x.B.toNat = bn:=by omega
 have hpa : prt (val a) = a.sum:=sumTo_list a 4 (by omega)
 have hpb : prt (val b) = b.sum:=sumTo_list b 4 (by omega)
 have h1:=dot_bd hv hk (fun j=>tn_bd hv ha.tub j) (n:=bn) (by omega)
 have h2:=dot_bd hv hk (fun j=>tn_bd hv hb.tub j) (n:=bn) (by omega)
 have h3:=prt_bd ha.tub
 have h4:=prt_bd hb.tub
 have h5:=mul_bd2 h4.1 h4.2 h1.1 h1.2 (C:=51840) (by omega)
 have h6:=mul_bd2 h3.1 h3.2 h2.1 h2.2 (C:=51840) (by omega)
 have h7:=mul_bd2 hv.t0 hv.t12 h3.1 h3.2 (C:=288) (by omega)
 have h8:=mul_bd2 h7.1 h7.2 h4.1 h4.2 (C:=6912) (by omega)
 have hal : alkE x k (val a) (val b) = decide (max (b.sum * dotE (val (x.lamp k)) (tnE x (val a)) bn - a.sum * dotE (val (x.lamp k)) (tnE x (val b)) bn) (-(b.sum * dotE (val (x.lamp k)) (tnE x (val a)) bn - a.sum * dotE (val (x.lamp k)) (tnE x (val b)) bn)) ≤ x.tol * a.sum * b.sum):=by rw [alkE,alkV,hbn2,hpa,hpb]
 rw [hal]
 clear hal
 rw [hpa] at h3 h6 h7 h8
 rw [hpb] at h4 h5 h8
 clear h hv hp hq ha hb
 refine calls_has 44 Try.func113 rfl Try.ntmps113 (Nat.le_of_ble_eq_true rfl) ?_
 intro fa F
 refine wp_seq_k fun K1 hK1=>?_
 refine wp_region_lit ?_
 refine sq_new F rfl (by decide) rfl (R_box rfl (F.at rfl)) ?_;clear F fa;intro fa w1 F hw
 obtain ⟨n4,hn⟩ : ∃ n,n = w.heap.size:=⟨_,rfl⟩
 rw [← hn] at F
 have s4 : w.heap.size ≤ n4:=Nat.le_of_eq hn.symm
 have l4_E : w.heap.size ≤ n4:=by rw [hn];exact E.size
 replace E:=ext_alloc E hw
 have q4:=new_row hw hn
 clear hw hn
 refine F.vl (R_assign rfl (ev_c fa _)) ?_;clear F fa;intro fa F
 refine wpList_nil ?_
 refine hK1 _ _ ?_
 clear hK1
 refine wp_seq_k fun K2 hK2=>?_
 refine wp_region_lit ?_
 refine F.mv ?_;clear F fa;intro fa F
 refine sq_call F rfl (by decide) rfl (R_callV rfl rfl Try.call67 (mpS (F.at rfl) mp0)) (dTotal_any a aa ac _ (HP.out.ext E (by simp)) (by omega) (fun n hn=>by have:=HA.out.bd n hn;omega)) fun e w2 hR=>?_
 obtain ⟨rfl,e9⟩:=hR
 refine ⟨_,rfl,?_⟩;clear F fa;intro fa F
 replace q4:=(e9).keep0 q4
 replace E:=ext_same E (e9)
 clear e9
 refine F.mv ?_;clear F fa;intro fa F
 refine sq_call F rfl (by decide) rfl (R_callV rfl rfl Try.call67 (mpS (F.at rfl) mp0)) (dTotal_any b ba bc _ (HQ.out.ext E (by simp)) (by omega) (fun n hn=>by have:=HB.out.bd n hn;omega)) fun e w3 hR=>?_
 obtain ⟨rfl,e9⟩:=hR
 refine ⟨_,rfl,?_⟩;clear F fa;intro fa F
 replace q4:=(e9).keep0 q4
 replace E:=ext_same E (e9)
 clear e9
 refine F.as ?_;clear F fa;intro fa F
 refine F.as ?_;clear F fa;intro fa F
 refine wpList_nil ?_
 refine hK2 _ _ ?_
 clear hK2
 refine wp_seq_k fun K3 hK3=>?_
 refine region_x (Ext [] w3) none follows fun w4 hh eh=>?_
 have q4_:=q4
 replace q4:=keep_same hh q4
 have E_:=E
 have zEw4:=E.size
 replace E:=ext_same E eh
 have eT:=eh
 clear hh eh
 refine F.x (i:=0) rfl (fun w'=>R_move rfl (F.at rfl)) (fun _=>eT) ?_;clear F fa;intro fa F
 refine F.xr (i:=1) rfl (fun w' hS=>R_loadBlk rfl (F.at rfl) Try.underlying24 rfl (by kernel_rfl) (hS.keep q4_ (by simp))) (fun _=>eT) ?_;clear F fa;intro fa F
 refine F.x (i:=2) rfl (fun w'=>R_move rfl (F.at rfl)) (fun _=>eT) ?_;clear F fa;intro fa F
 refine F.xr (i:=3) rfl (fun w' hS=>R_loadBlk rfl (F.at rfl) Try.underlying24 rfl (by kernel_rfl) (hS.keep q4_ (by simp))) (fun _=>eT) ?_;clear F fa;intro fa F
 refine F.x (i:=4) rfl (fun w'=>R_move rfl (F.at rfl)) (fun _=>eT) ?_;clear F fa;intro fa F
 refine F.x (i:=8) rfl (fun w'=>R_move rfl (F.at rfl)) (fun _=>eT) ?_;clear F fa;intro fa F
 refine F.xr (i:=9) rfl (fun w' hS=>R_loadBlk rfl (F.at rfl) Try.underlying24 rfl (by kernel_rfl) (hS.keep q4_ (by simp))) (fun _=>eT) ?_;clear F fa;intro fa F
 refine F.x (i:=10) rfl (fun w'=>R_move rfl (F.at rfl)) (fun _=>eT) ?_;clear F fa;intro fa F
 refine F.xr (i:=11) rfl (fun w' hS=>R_loadBlk rfl (F.at rfl) Try.underlying24 rfl (by kernel_rfl) (hS.keep q4_ (by simp))) (fun _=>eT) ?_;clear F fa;intro fa F
 refine F.x (i:=12) rfl (fun w'=>R_move rfl (F.at rfl)) (fun _=>eT) ?_;clear F fa;intro fa F
 refine ax_only (i:=5) (by kernel_rfl) (op_call F rfl rfl (by decide) rfl (R_callV rfl rfl Try.call117 (mpS (F.at rfl) (mpS (F.at rfl) mp0))) (dSums_ok x HV.out bn hbn a hla (fun n hn=>HA.out.bd n hn) aa ac _ (HX.out.ext E) (HP.out.ext E (by simp))) fun e w5 hR=>?_)
 obtain ⟨ua,rfl,uo,e9⟩:=hR
 refine ⟨_,rfl,?_⟩;clear F fa;intro fa F
 replace q4:=(e9).keep0 q4
 replace E:=ext_same E (e9)
 replace eT:=ext_same eT (e9)
 clear e9
 refine ⟨fun _=>eT,?_⟩
 have hsl : (sumL x (val a) bn).length = bn:=by simp [sumL]
 have HU:=Lib.hid (rows_of_ivs uo hsl.symm)
 have hsb:=Lib.hid (sumL_bd HV.out HA.out.tub bn)
 clear uo
 have hwe:=dWeigh_ok x HV.out k hk bn hbn (sumL x (val a) bn) hsl (fun n hn=>by have:=hsb.out n hn;omega) ua bn w5 (HX.out.ext E) (by rw [hsl];exact HU.out)
 rw [hsl] at hwe
 have hdx:=dot_sumL x (val a) (val (x.lamp k)) bn
 rw [hsl] at hdx
 rw [hdx] at hwe
 refine ax_only (i:=6) (by kernel_rfl) (op_call F rfl rfl (by decide) rfl (R_callV rfl rfl Try.call116 (mpS (F.at rfl) (mpS (F.at rfl) (mpS (F.at rfl) mp0)))) (hwe) fun e w6 hR=>?_)
 obtain ⟨rfl,e9⟩:=hR
 refine ⟨_,rfl,?_⟩;clear F fa;intro fa F
 replace q4:=(e9).keep0 q4
 replace E:=ext_same E (e9)
 replace eT:=ext_same eT (e9)
 clear e9
 refine ⟨fun _=>eT,?_⟩
 clear hwe hdx HU hsl hsb
 refine F.x (i:=7) rfl (fun w'=>R_mul rfl (F.at rfl) (F.at rfl) (by omega) (by omega)) (fun _=>eT) ?_;clear F fa;intro fa F
 refine ax_only (i:=13) (by kernel_rfl) (op_call F rfl rfl (by decide) rfl (R_callV rfl rfl Try.call117 (mpS (F.at rfl) (mpS (F.at rfl) mp0))) (dSums_ok x HV.out bn hbn b hlb (fun n hn=>HB.out.bd n hn) ba bc _ (HX.out.ext E) (HQ.out.ext E (by simp))) fun e w7 hR=>?_)
 obtain ⟨ub,rfl,uo,e9⟩:=hR
 refine ⟨_,rfl,?_⟩;clear F fa;intro fa F
 replace q4:=(e9).keep0 q4
 replace E:=ext_same E (e9)
 replace eT:=ext_same eT (e9)
 clear e9
 refine ⟨fun _=>eT,?_⟩
 have hsl : (sumL x (val b) bn).length = bn:=by simp [sumL]
 have HU:=Lib.hid (rows_of_ivs uo hsl.symm)
 have hsb:=Lib.hid (sumL_bd HV.out HB.out.tub bn)
 clear uo
 have hwe:=dWeigh_ok x HV.out k hk bn hbn (sumL x (val b) bn) hsl (fun n hn=>by have:=hsb.out n hn;omega) ub bn w7 (HX.out.ext E) (by rw [hsl];exact HU.out)
 rw [hsl] at hwe
 have hdx:=dot_sumL x (val b) (val (x.lamp k)) bn
 rw [hsl] at hdx
 rw [hdx] at hwe
 refine ax_only (i:=14) (by kernel_rfl) (op_call F rfl rfl (by decide) rfl (R_callV rfl rfl Try.call116 (mpS (F.at rfl) (mpS (F.at rfl) (mpS (F.at rfl) mp0)))) (hwe) fun e w8 hR=>?_)
 obtain ⟨rfl,e9⟩:=hR
 refine ⟨_,rfl,?_⟩;clear F fa;intro fa F
 replace q4:=(e9).keep0 q4
 replace E:=ext_same E (e9)
 replace eT:=ext_same eT (e9)
 clear e9
 refine ⟨fun _=>eT,?_⟩
 clear hwe hdx HU hsl hsb
 refine F.x (i:=15) rfl (fun w'=>R_mul rfl (F.at rfl) (F.at rfl) (by omega) (by omega)) (fun _=>eT) ?_;clear F fa;intro fa F
 refine F.x (i:=16) rfl (fun w'=>R_sub rfl (F.at rfl) (F.at rfl) (by omega) (by omega)) (fun _=>eT) ?_;clear F fa;intro fa F
 refine F.x (i:=17) rfl (fun w'=>R_assign rfl (F.at rfl)) (fun _=>eT) ?_;clear F fa;intro fa F
 refine ax_done (by kernel_rfl) ?_ _
 clear eT q4_ E_
 refine hK3 _ _ ?_
 clear hK3
 refine wp_seq_k fun K4 hK4=>?_
 refine wp_region_lit ?_
 refine F.mv ?_;clear F fa;intro fa F
 refine F.mv ?_;clear F fa;intro fa F
 refine F.vl (R_neg rfl (F.at rfl) (by omega) (by omega)) ?_;clear F fa;intro fa F
 refine F.vl (R_max rfl rfl (F.at rfl) (F.at rfl)) ?_;clear F fa;intro fa F
 refine F.vl (R_field rfl (F.at rfl) Try.underlying24 rfl (n:=3) (sz:=1) rfl (by kernel_rfl) (by decide)) ?_;clear F fa;intro fa F
 refine F.vl (R_load rfl (F.at rfl) Try.underlying3 rfl ((cells_of_block q4 3).trans (getS (getS (getS (get0)))))) ?_;clear F fa;intro fa F
 refine F.mv ?_;clear F fa;intro fa F
 refine F.vl (R_mul rfl (F.at rfl) (F.at rfl) (by omega) (by omega)) ?_;clear F fa;intro fa F
 refine F.mv ?_;clear F fa;intro fa F
 refine F.vl (R_mul rfl (F.at rfl) (F.at rfl) (by omega) (by omega)) ?_;clear F fa;intro fa F
 refine F.vl (R_leq rfl (F.at rfl) (F.at rfl)) ?_;clear F fa;intro fa F
 refine F.as ?_;clear F fa;intro fa F
 refine wpList_nil ?_
 refine hK4 _ _ ?_
 clear hK4
 refine wp_ret ?_
 (try simp only [Exit.inBlock,Exit.then,reduceIte])
 refine rt_v F (rs_1 F rfl rfl) ?_
 exact ⟨rfl,E⟩
set_option maxRecDepth 100000 in
set_option maxHeartbeats 2000000 in
theorem dLighter_ok (x : Vm) (hv : VOk x) (k : Nat) (hk : k < x.L.length) (a b : List Int) (ha : RcpOk x a) (hb : RcpOk x b) (aa ba : Option Addr) (ac bc : Nat) (w : World) (h : x.At w) (hp : IsRows w (.slice aa a.length ac) 1 (a.map intRow)) (hq : IsRows w (.slice ba b.length bc) 1 (b.map intRow)) :
  Calls Try.prog 89 #[.agg #[.int .i64 x.B,.slice x.da x.D.length x.dc,.slice x.la x.L.length x.lc,.int .i64 x.tol],.int .i64 ((k : Nat) : Int),.slice aa a.length ac,.slice ba b.length bc] w fun e w'=>e = .returned (.bool (decide (b.sum * dotE (val (x.lamp k)) (tnE x (val a)) x.B.toNat < a.sum * dotE (val (x.lamp k)) (tnE x (val b)) x.B.toNat))) ∧ Ext [] w w':=by
 have E : Ext [] w w:=Ext.refl _ _
 have HX:=Lib.hid h
 have HV:=Lib.hid hv
 have HP:=Lib.hid hp
 have HQ:=Lib.hid hq
 have HA:=Lib.hid ha
 have HB:=Lib.hid hb
 have hb1:=hv.b1
 have hb3:=hv.b3
 have hd4:=hv.d4
 have hla:=ha.len
 have hlb:=hb.len
 obtain ⟨bn,hbn⟩ : ∃ bn : Nat,x.B = bn:=⟨x.B.toNat,by omega⟩
 have hbn2 : x.B.toNat = bn:=by omega
 have hpa : prt (val a) = a.sum:=sumTo_list a 4 (by omega)
 have hpb : prt (val b) = b.sum:=sumTo_list b 4 (by omega)
 have h1:=dot_bd hv hk (fun j=>tn_bd hv ha.tub j) (n:=bn) (by omega)
 have h2:=dot_bd hv hk (fun j=>tn_bd hv hb.tub j) (n:=bn) (by omega)
 have h3:=prt_bd ha.tub
 have h4:=prt_bd hb.tub
 have h5:=mul_bd2 h4.1 h4.2 h1.1 h1.2 (C:=51840) (by omega)
 have h6:=mul_bd2 h3.1 h3.2 h2.1 h2.2 (C:=51840) (by omega)
 have h7:=mul_bd2 hv.t0 hv.t12 h3.1 h3.2 (C:=288) (by omega)
 have h8:=mul_bd2 h7.1 h7.2 h4.1 h4.2 (C:=6912) (by omega)
 rw [hbn2]
 rw [hpa] at h3 h6 h7 h8
 rw [hpb] at h4 h5 h8
 clear h hv hp hq ha hb
 refine calls_has 28 Try.func89 rfl Try.ntmps89 (Nat.le_of_ble_eq_true rfl) ?_
 intro fa F
 refine wp_seq_k fun K1 hK1=>?_
 refine wp_region_lit ?_
 refine sq_new F rfl (by decide) rfl (R_box rfl (F.at rfl)) ?_;clear F fa;intro fa w1 F hw
 obtain ⟨n4,hn⟩ : ∃ n,n = w.heap.size:=⟨_,rfl⟩
 rw [← hn] at F
 have s4 : w.heap.size ≤ n4:=Nat.le_of_eq hn.symm
 have l4_E : w.heap.size ≤ n4:=by rw [hn];exact E.size
 replace E:=ext_alloc E hw
 have q4:=new_row hw hn
 clear hw hn
 refine F.vl (R_assign rfl (ev_c fa _)) ?_;clear F fa;intro fa F
 refine wpList_nil ?_
 refine hK1 _ _ ?_
 clear hK1
 refine wp_seq_k fun K2 hK2=>?_
 refine region_x (Ext [] w1) none follows fun w2 hh eh=>?_
 have q4_:=q4
 replace q4:=keep_same hh q4
 have E_:=E
 have zEw2:=E.size
 replace E:=ext_same E eh
 have eT:=eh
 clear hh eh
 refine F.x (i:=0) rfl (fun w'=>R_move rfl (F.at rfl)) (fun _=>eT) ?_;clear F fa;intro fa F
 refine F.xr (i:=2) rfl (fun w' hS=>R_loadBlk rfl (F.at rfl) Try.underlying24 rfl (by kernel_rfl) (hS.keep q4_ (by simp))) (fun _=>eT) ?_;clear F fa;intro fa F
 refine F.x (i:=3) rfl (fun w'=>R_move rfl (F.at rfl)) (fun _=>eT) ?_;clear F fa;intro fa F
 refine F.xr (i:=4) rfl (fun w' hS=>R_loadBlk rfl (F.at rfl) Try.underlying24 rfl (by kernel_rfl) (hS.keep q4_ (by simp))) (fun _=>eT) ?_;clear F fa;intro fa F
 refine F.x (i:=5) rfl (fun w'=>R_move rfl (F.at rfl)) (fun _=>eT) ?_;clear F fa;intro fa F
 refine F.x (i:=9) rfl (fun w'=>R_move rfl (F.at rfl)) (fun _=>eT) ?_;clear F fa;intro fa F
 refine F.xr (i:=11) rfl (fun w' hS=>R_loadBlk rfl (F.at rfl) Try.underlying24 rfl (by kernel_rfl) (hS.keep q4_ (by simp))) (fun _=>eT) ?_;clear F fa;intro fa F
 refine F.x (i:=12) rfl (fun w'=>R_move rfl (F.at rfl)) (fun _=>eT) ?_;clear F fa;intro fa F
 refine F.xr (i:=13) rfl (fun w' hS=>R_loadBlk rfl (F.at rfl) Try.underlying24 rfl (by kernel_rfl) (hS.keep q4_ (by simp))) (fun _=>eT) ?_;clear F fa;intro fa F
 refine F.x (i:=14) rfl (fun w'=>R_move rfl (F.at rfl)) (fun _=>eT) ?_;clear F fa;intro fa F
 refine ax_only (i:=1) (by kernel_rfl) (op_call F rfl rfl (by decide) rfl (R_callV rfl rfl Try.call67 (mpS (F.at rfl) mp0)) (dTotal_any b ba bc _ (HQ.out.ext E (by simp)) (by omega) (fun n hn=>by have:=HB.out.bd n hn;omega)) fun e w3 hR=>?_)
 obtain ⟨rfl,e9⟩:=hR
 refine ⟨_,rfl,?_⟩;clear F fa;intro fa F
 replace q4:=(e9).keep0 q4
 replace E:=ext_same E (e9)
 replace eT:=ext_same eT (e9)
 clear e9
 refine ⟨fun _=>eT,?_⟩
 refine ax_only (i:=6) (by kernel_rfl) (op_call F rfl rfl (by decide) rfl (R_callV rfl rfl Try.call117 (mpS (F.at rfl) (mpS (F.at rfl) mp0))) (dSums_ok x HV.out bn hbn a hla (fun n hn=>HA.out.bd n hn) aa ac _ (HX.out.ext E) (HP.out.ext E (by simp))) fun e w4 hR=>?_)
 obtain ⟨ua,rfl,uo,e9⟩:=hR
 refine ⟨_,rfl,?_⟩;clear F fa;intro fa F
 replace q4:=(e9).keep0 q4
 replace E:=ext_same E (e9)
 replace eT:=ext_same eT (e9)
 clear e9
 refine ⟨fun _=>eT,?_⟩
 have hsl : (sumL x (val a) bn).length = bn:=by simp [sumL]
 have HU:=Lib.hid (rows_of_ivs uo hsl.symm)
 have hsb:=Lib.hid (sumL_bd HV.out HA.out.tub bn)
 clear uo
 have hwe:=dWeigh_ok x HV.out k hk bn hbn (sumL x (val a) bn) hsl (fun n hn=>by have:=hsb.out n hn;omega) ua bn w4 (HX.out.ext E) (by rw [hsl];exact HU.out)
 rw [hsl] at hwe
 have hdx:=dot_sumL x (val a) (val (x.lamp k)) bn
 rw [hsl] at hdx
 rw [hdx] at hwe
 refine ax_only (i:=7) (by kernel_rfl) (op_call F rfl rfl (by decide) rfl (R_callV rfl rfl Try.call116 (mpS (F.at rfl) (mpS (F.at rfl) (mpS (F.at rfl) mp0)))) (hwe) fun e w5 hR=>?_)
 obtain ⟨rfl,e9⟩:=hR
 refine ⟨_,rfl,?_⟩;clear F fa;intro fa F
 replace q4:=(e9).keep0 q4
 replace E:=ext_same E (e9)
 replace eT:=ext_same eT (e9)
 clear e9
 refine ⟨fun _=>eT,?_⟩
 clear hwe hdx HU hsl hsb
 refine F.x (i:=8) rfl (fun w'=>R_mul rfl (F.at rfl) (F.at rfl) (by omega) (by omega)) (fun _=>eT) ?_;clear F fa;intro fa F
 refine ax_only (i:=10) (by kernel_rfl) (op_call F rfl rfl (by decide) rfl (R_callV rfl rfl Try.call67 (mpS (F.at rfl) mp0)) (dTotal_any a aa ac _ (HP.out.ext E (by simp)) (by omega) (fun n hn=>by have:=HA.out.bd n hn;omega)) fun e w6 hR=>?_)
 obtain ⟨rfl,e9⟩:=hR
 refine ⟨_,rfl,?_⟩;clear F fa;intro fa F
 replace q4:=(e9).keep0 q4
 replace E:=ext_same E (e9)
 replace eT:=ext_same eT (e9)
 clear e9
 refine ⟨fun _=>eT,?_⟩
 refine ax_only (i:=15) (by kernel_rfl) (op_call F rfl rfl (by decide) rfl (R_callV rfl rfl Try.call117 (mpS (F.at rfl) (mpS (F.at rfl) mp0))) (dSums_ok x HV.out bn hbn b hlb (fun n hn=>HB.out.bd n hn) ba bc _ (HX.out.ext E) (HQ.out.ext E (by simp))) fun e w7 hR=>?_)
 obtain ⟨ub,rfl,uo,e9⟩:=hR
 refine ⟨_,rfl,?_⟩;clear F fa;intro fa F
 replace q4:=(e9).keep0 q4
 replace E:=ext_same E (e9)
 replace eT:=ext_same eT (e9)
 clear e9
 refine ⟨fun _=>eT,?_⟩
 have hsl : (sumL x (val b) bn).length = bn:=by simp [sumL]
 have HU:=Lib.hid (rows_of_ivs uo hsl.symm)
 have hsb:=Lib.hid (sumL_bd HV.out HB.out.tub bn)
 clear uo
 have hwe:=dWeigh_ok x HV.out k hk bn hbn (sumL x (val b) bn) hsl (fun n hn=>by have:=hsb.out n hn;omega) ub bn w7 (HX.out.ext E) (by rw [hsl];exact HU.out)
 rw [hsl] at hwe
 have hdx:=dot_sumL x (val b) (val (x.lamp k)) bn
 rw [hsl] at hdx
 rw [hdx] at hwe
 refine ax_only (i:=16) (by kernel_rfl) (op_call F rfl rfl (by decide) rfl (R_callV rfl rfl Try.call116 (mpS (F.at rfl) (mpS (F.at rfl) (mpS (F.at rfl) mp0)))) (hwe) fun e w8 hR=>?_)
 obtain ⟨rfl,e9⟩:=hR
 refine ⟨_,rfl,?_⟩;clear F fa;intro fa F
 replace q4:=(e9).keep0 q4
 replace E:=ext_same E (e9)
 replace eT:=ext_same eT (e9)
 clear e9
 refine ⟨fun _=>eT,?_⟩
 clear hwe hdx HU hsl hsb
 refine F.x (i:=17) rfl (fun w'=>R_mul rfl (F.at rfl) (F.at rfl) (by omega) (by omega)) (fun _=>eT) ?_;clear F fa;intro fa F
 refine F.x (i:=18) rfl (fun w'=>R_lss rfl (F.at rfl) (F.at rfl)) (fun _=>eT) ?_;clear F fa;intro fa F
 refine F.x (i:=19) rfl (fun w'=>R_assign rfl (F.at rfl)) (fun _=>eT) ?_;clear F fa;intro fa F
 refine ax_done (by kernel_rfl) ?_ _
 clear eT q4_ E_
 refine hK2 _ _ ?_
 clear hK2
 refine wp_ret ?_
 (try simp only [Exit.inBlock,Exit.then,reduceIte])
 refine rt_v F (rs_1 F rfl rfl) ?_
 exact ⟨rfl,E⟩
def togB (x : Vm) (ls : List Int) (T : List (List Int)) (l : List Int) : Bool:=(List.range l.length).all fun a=>(List.range a).all fun b=>nrB x ls T (l.getD a 0).toNat (l.getD b 0).toNat
theorem nr_all {x : Vm} {ls : List Int} {T : List (List Int)} {j k : Nat} (h : ∀ i,i < ls.length → alkE x (ls.getD i 0).toNat (val (T.getD j [])) (val (T.getD k [])) = true) : nrB x ls T j k = true:=by
 rw [nrB,Bool.not_eq_true',List.any_eq_false]
 intro n hn
 obtain ⟨i,hi,rfl⟩:=List.getElem_of_mem hn
 have:=h i hi
 rw [List.getD_eq_getElem?_getD,List.getElem?_eq_getElem hi] at this
 simpa using this
theorem nr_bad {x : Vm} {ls : List Int} {T : List (List Int)} {j k i : Nat} (hi : i < ls.length) (h : alkE x (ls.getD i 0).toNat (val (T.getD j [])) (val (T.getD k [])) = false) : nrB x ls T j k = false:=by
 rw [nrB,Bool.not_eq_false',List.any_eq_true]
 exact ⟨_,getD_mem 0 hi,by rw [h];rfl⟩
theorem tog_all {x : Vm} {ls : List Int} {T : List (List Int)} {l : List Int} (h : ∀ a,a < l.length → ∀ b,b < a → nrB x ls T (l.getD a 0).toNat (l.getD b 0).toNat = true) : togB x ls T l = true:=by
 rw [togB,List.all_eq_true]
 intro a ha
 rw [List.all_eq_true]
 intro b hb
 exact h a (List.mem_range.1 ha) b (List.mem_range.1 hb)
theorem tog_bad {x : Vm} {ls : List Int} {T : List (List Int)} {l : List Int} {a b : Nat} (ha : a < l.length) (hb : b < a) (h : nrB x ls T (l.getD a 0).toNat (l.getD b 0).toNat = false) : togB x ls T l = false:=by
 rw [togB,List.all_eq_false]
 refine ⟨a,List.mem_range.2 ha,?_⟩
 rw [Bool.not_eq_true,List.all_eq_false]
 exact ⟨b,List.mem_range.2 hb,by rw [h];simp⟩
set_option maxRecDepth 100000 in
set_option maxHeartbeats 4000000 in
theorem dTogether_ok (x : Vm) (hv : VOk x) (S : List (Value × List Int)) (hs : ∀ p ∈ S,RcpOk x p.2) (l ls : List Int) (hl : ∀ n ∈ l,0 ≤ n ∧ n < S.length) (hll : l.length ≤ 1000) (hm : LmpOk x ls) (hml : ls.length ≤ 1000) (sa la ma : Option Addr) (sc lc mc : Nat) (w : World) (h : x.At w) (hS : LolAt w sa S) (hp : IsRows w (.slice la l.length lc) 1 (l.map intRow)) (hq : IsRows w (.slice ma ls.length mc) 1 (ls.map intRow)) :
  Calls Try.prog 81 #[.agg #[.int .i64 x.B,.slice x.da x.D.length x.dc,.slice x.la x.L.length x.lc,.int .i64 x.tol],.slice sa S.length sc,.slice la l.length lc,.slice ma ls.length mc] w fun e w'=>e = .returned (.bool (togB x ls (S.map (·.2)) l)) ∧ Ext [] w w':=by
 have E : Ext [] w w:=Ext.refl _ _
 have HX:=Lib.hid h
 have HV:=Lib.hid hv
 have HA:=Lib.hid hS
 have HS:=Lib.hid hS.1
 have HP:=Lib.hid (slAt_of_rows hp 0)
 have HQ:=Lib.hid (slAt_of_rows hq 0)
 have HR:=Lib.hid hs
 have HL:=Lib.hid hl
 have HM:=Lib.hid hm
 have hl3:=hv.l3
 clear h hv hS hp hq hs hl hm
 refine calls_has 50 Try.func81 rfl Try.ntmps81 (Nat.le_of_ble_eq_true rfl) ?_
 intro fa F
 refine wp_seq_k fun K1 hK1=>?_
 refine wp_region_lit ?_
 refine sq_new F rfl (by decide) rfl (R_box rfl (F.at rfl)) ?_;clear F fa;intro fa w1 F hw
 obtain ⟨n4,hn⟩ : ∃ n,n = w.heap.size:=⟨_,rfl⟩
 rw [← hn] at F
 have s4 : w.heap.size ≤ n4:=Nat.le_of_eq hn.symm
 have l4_E : w.heap.size ≤ n4:=by rw [hn];exact E.size
 replace E:=ext_alloc E hw
 have q4:=new_row hw hn
 clear hw hn
 refine F.vl (R_assign rfl (ev_c fa _)) ?_;clear F fa;intro fa F
 refine wpList_nil ?_
 refine hK1 _ _ ?_
 clear hK1
 refine wp_seq_k fun K2 hK2=>?_
 refine wp_seq_k fun K3 hK3=>?_
 refine wp_region_lit ?_
 refine F.vl (R_assign rfl (ev_c fa _)) ?_;clear F fa;intro fa F
 refine wpList_nil ?_
 refine hK3 _ _ ?_
 clear hK3
 refine wp_block ?_
 have F0:=F.sub (.c 1 rfl (.c 2 rfl (.c 3 rfl (.c 4 rfl .n))))
 refine lp_for F0 (l.length) (fun a Lv W=>Lv = [(9,.int .i64 ((a : Nat) : Int))] ∧ Ext [] w W ∧ W.heap[n4]? = some (.cells #[.int .i64 x.B,.slice x.da x.D.length x.dc,.slice x.la x.L.length x.lc,.int .i64 x.tol] 24 (0,0)) ∧ RowKit.Hid (∀ c,c < a → ∀ b,b < c → nrB x ls (S.map (·.2)) (l.getD c 0).toNat (l.getD b 0).toNat = true)) ⟨_,⟨rfl,E,q4,(Lib.hid fun j h=>by omega)⟩,F.sub (.c 9 rfl (.c 1 rfl (.c 2 rfl (.c 3 rfl (.c 4 rfl .n)))))⟩ ?_
 clear F F0
 clear E q4
 rintro a _ fa w2 hi1 ⟨rfl,E,q4,h1⟩ F
 refine wp_seq_k fun K4 hK4=>?_
 refine wp_seq_k fun K5 hK5=>?_
 refine wp_region_lit ?_
 refine F.mv ?_;clear F fa;intro fa F
 refine F.mv ?_;clear F fa;intro fa F
 refine F.vl (R_len rfl rfl (F.at rfl) Try.underlying25) ?_;clear F fa;intro fa F
 refine F.vl (R_lss rfl (F.at rfl) (F.at rfl)) ?_;clear F fa;intro fa F
 refine wpList_nil ?_
 refine hK5 _ _ ?_
 clear hK5
 refine cd_if F rfl (fun hc15=>?_) (fun hc15=>?_)
 ·skip
  refine wp_skip ?_
  refine hK4 _ _ ?_
  clear hK4
  refine wp_seq_k fun K6 hK6=>?_
  refine wp_block ?_
  refine wp_seq_k fun K7 hK7=>?_
  refine wp_region_lit ?_
  refine F.vl (R_assign rfl (ev_c fa _)) ?_;clear F fa;intro fa F
  refine wpList_nil ?_
  refine hK7 _ _ ?_
  clear hK7
  refine wp_block ?_
  have F0:=F.sub (.c 1 rfl (.c 2 rfl (.c 3 rfl (.c 4 rfl (.c 9 rfl .n)))))
  refine lp_for F0 (a) (fun b Lv W=>Lv = [(10,.int .i64 ((b : Nat) : Int))] ∧ Ext [] w W ∧ W.heap[n4]? = some (.cells #[.int .i64 x.B,.slice x.da x.D.length x.dc,.slice x.la x.L.length x.lc,.int .i64 x.tol] 24 (0,0)) ∧ RowKit.Hid (∀ c,c < b → nrB x ls (S.map (·.2)) (l.getD a 0).toNat (l.getD c 0).toNat = true)) ⟨_,⟨rfl,E,q4,(Lib.hid fun j h=>by omega)⟩,F.sub (.c 10 rfl (.c 1 rfl (.c 2 rfl (.c 3 rfl (.c 4 rfl (.c 9 rfl .n))))))⟩ ?_
  clear F F0
  clear E q4
  rintro b _ fa w3 hi2 ⟨rfl,E,q4,h2⟩ F
  refine wp_seq_k fun K8 hK8=>?_
  refine wp_seq_k fun K9 hK9=>?_
  refine wp_region_lit ?_
  refine F.mv ?_;clear F fa;intro fa F
  refine F.mv ?_;clear F fa;intro fa F
  refine F.vl (R_lss rfl (F.at rfl) (F.at rfl)) ?_;clear F fa;intro fa F
  refine wpList_nil ?_
  refine hK9 _ _ ?_
  clear hK9
  refine cd_if F rfl (fun hc20=>?_) (fun hc20=>?_)
  ·skip
   refine wp_skip ?_
   refine hK8 _ _ ?_
   clear hK8
   refine wp_seq_k fun K10 hK10=>?_
   refine wp_block ?_
   refine wp_seq_k fun K11 hK11=>?_
   refine wp_region_lit ?_
   refine F.vl (R_assign rfl (ev_c fa _)) ?_;clear F fa;intro fa F
   refine wpList_nil ?_
   refine hK11 _ _ ?_
   clear hK11
   refine wp_block ?_
   have F0:=F.sub (.c 1 rfl (.c 2 rfl (.c 3 rfl (.c 4 rfl (.c 9 rfl (.c 10 rfl .n))))))
   refine lp_for F0 (ls.length) (fun i Lv W=>Lv = [(11,.int .i64 ((i : Nat) : Int))] ∧ Ext [] w W ∧ W.heap[n4]? = some (.cells #[.int .i64 x.B,.slice x.da x.D.length x.dc,.slice x.la x.L.length x.lc,.int .i64 x.tol] 24 (0,0)) ∧ RowKit.Hid (∀ c,c < i → alkE x (ls.getD c 0).toNat (val ((S.map (·.2)).getD (l.getD a 0).toNat [])) (val ((S.map (·.2)).getD (l.getD b 0).toNat [])) = true)) ⟨_,⟨rfl,E,q4,(Lib.hid fun j h=>by omega)⟩,F.sub (.c 11 rfl (.c 1 rfl (.c 2 rfl (.c 3 rfl (.c 4 rfl (.c 9 rfl (.c 10 rfl .n)))))))⟩ ?_
   clear F F0
   clear E q4
   rintro i _ fa w4 hi3 ⟨rfl,E,q4,h3⟩ F
   refine wp_seq_k fun K12 hK12=>?_
   refine wp_seq_k fun K13 hK13=>?_
   refine wp_region_lit ?_
   refine F.mv ?_;clear F fa;intro fa F
   refine F.mv ?_;clear F fa;intro fa F
   refine F.vl (R_len rfl rfl (F.at rfl) Try.underlying25) ?_;clear F fa;intro fa F
   refine F.vl (R_lss rfl (F.at rfl) (F.at rfl)) ?_;clear F fa;intro fa F
   refine wpList_nil ?_
   refine hK13 _ _ ?_
   clear hK13
   refine cd_if F rfl (fun hc26=>?_) (fun hc26=>?_)
   ·skip
    refine wp_skip ?_
    refine hK12 _ _ ?_
    clear hK12
    refine wp_seq_k fun K14 hK14=>?_
    refine wp_block ?_
    refine wp_seq_k fun K15 hK15=>?_
    obtain ⟨hn0,hn1⟩:=HM.out _ (getD_mem 0 (show i < ls.length by omega))
    obtain ⟨k,hk⟩ : ∃ k : Nat,ls.getD i 0 = k:=⟨(ls.getD i 0).toNat,by omega⟩
    obtain ⟨hj0,hj1⟩:=HL.out _ (getD_mem 0 (show a < l.length by omega))
    obtain ⟨j,hj⟩ : ∃ j : Nat,l.getD a 0 = j:=⟨(l.getD a 0).toNat,by omega⟩
    obtain ⟨hg0,hg1⟩:=HL.out _ (getD_mem 0 (show b < l.length by omega))
    obtain ⟨g,hg⟩ : ∃ g : Nat,l.getD b 0 = g:=⟨(l.getD b 0).toNat,by omega⟩
    obtain ⟨ja,jc,hja,hjr⟩:=HA.out.2 _ (getD_mem (.bool true,[]) (show j < S.length by omega))
    obtain ⟨ga,gc,hga,hgr⟩:=HA.out.2 _ (getD_mem (.bool true,[]) (show g < S.length by omega))
    have hkt : (ls.getD i 0).toNat = k:=by omega
    have hjt : (l.getD a 0).toNat = j:=by omega
    have hgt : (l.getD b 0).toNat = g:=by omega
    have hjk:=key_getD S (show j < S.length by omega)
    have hgk:=key_getD S (show g < S.length by omega)
    have hrt:=HR.out _ (getD_mem (.bool true,[]) (show j < S.length by omega))
    have hru:=HR.out _ (getD_mem (.bool true,[]) (show g < S.length by omega))
    obtain ⟨t,ht⟩ : ∃ t,t = (S.getD j (.bool true,[])).2:=⟨_,rfl⟩
    rw [← ht] at hja hjr hjk hrt
    obtain ⟨u,hu⟩ : ∃ u,u = (S.getD g (.bool true,[])).2:=⟨_,rfl⟩
    rw [← hu] at hga hgr hgk hru
    have HJ:=Lib.hid hjr
    have HG:=Lib.hid hgr
    have HT:=Lib.hid hrt
    have HU:=Lib.hid hru
    clear hjr hgr hrt hru
    refine region_x (Ext [] w4) none follows fun w5 hh eh=>?_
    have q4_:=q4
    replace q4:=keep_same hh q4
    have E_:=E
    have zEw5:=E.size
    replace E:=ext_same E eh
    have eT:=eh
    clear hh eh
    refine F.xr (i:=0) rfl (fun w' hS=>R_loadBlk rfl (F.at rfl) Try.underlying24 rfl (by kernel_rfl) (hS.keep q4_ (by simp))) (fun _=>eT) ?_;clear F fa;intro fa F
    refine F.x (i:=1) rfl (fun w'=>R_move rfl (F.at rfl)) (fun _=>eT) ?_;clear F fa;intro fa F
    refine F.x (i:=2) rfl (fun w'=>R_move rfl (F.at rfl)) (fun _=>eT) ?_;clear F fa;intro fa F
    obtain ⟨xb16,xo16,xa16,xr16⟩:=HQ.out i (by omega)
    refine F.x (i:=3) rfl (fun w'=>R_ixSlice (sz:=1) rfl ((F.at rfl).trans (xa16 _ _)) (F.at rfl) Try.underlying25 (by kernel_rfl) (by omega) (by omega)) (fun _=>eT) ?_;clear F fa;intro fa F
    refine F.xr (i:=4) rfl (fun w' hS=>R_load rfl (F.at rfl) Try.underlying3 rfl (xr16 _ (E_.nil hS) 0 _ rfl)) (fun _=>eT) ?_;clear F fa;intro fa F
    rw [hk] at F
    refine F.x (i:=5) rfl (fun w'=>R_move rfl (F.at rfl)) (fun _=>eT) ?_;clear F fa;intro fa F
    refine F.x (i:=6) rfl (fun w'=>R_move rfl (F.at rfl)) (fun _=>eT) ?_;clear F fa;intro fa F
    refine F.x (i:=7) rfl (fun w'=>R_move rfl (F.at rfl)) (fun _=>eT) ?_;clear F fa;intro fa F
    obtain ⟨xb17,xo17,xa17,xr17⟩:=HP.out a (by omega)
    refine F.x (i:=8) rfl (fun w'=>R_ixSlice (sz:=1) rfl ((F.at rfl).trans (xa17 _ _)) (F.at rfl) Try.underlying25 (by kernel_rfl) (by omega) (by omega)) (fun _=>eT) ?_;clear F fa;intro fa F
    refine F.xr (i:=9) rfl (fun w' hS=>R_load rfl (F.at rfl) Try.underlying3 rfl (xr17 _ (E_.nil hS) 0 _ rfl)) (fun _=>eT) ?_;clear F fa;intro fa F
    rw [hj] at F
    obtain ⟨xb18,xo18,xa18,xr18⟩:=HS.out j (by omega)
    refine F.x (i:=10) rfl (fun w'=>R_ixSlice (sz:=1) rfl ((F.at rfl).trans (xa18 _ _)) (F.at rfl) Try.underlying22 (by kernel_rfl) (by omega) (by omega)) (fun _=>eT) ?_;clear F fa;intro fa F
    refine F.xr (i:=11) rfl (fun w' hS=>R_load rfl (F.at rfl) Try.underlying25 rfl (xr18 _ (E_.nil hS) 0 _ rfl)) (fun _=>eT) ?_;clear F fa;intro fa F
    rw [hja] at F
    refine F.x (i:=12) rfl (fun w'=>R_move rfl (F.at rfl)) (fun _=>eT) ?_;clear F fa;intro fa F
    refine F.x (i:=13) rfl (fun w'=>R_move rfl (F.at rfl)) (fun _=>eT) ?_;clear F fa;intro fa F
    refine F.x (i:=14) rfl (fun w'=>R_move rfl (F.at rfl)) (fun _=>eT) ?_;clear F fa;intro fa F
    obtain ⟨xb19,xo19,xa19,xr19⟩:=HP.out b (by omega)
    refine F.x (i:=15) rfl (fun w'=>R_ixSlice (sz:=1) rfl ((F.at rfl).trans (xa19 _ _)) (F.at rfl) Try.underlying25 (by kernel_rfl) (by omega) (by omega)) (fun _=>eT) ?_;clear F fa;intro fa F
    refine F.xr (i:=16) rfl (fun w' hS=>R_load rfl (F.at rfl) Try.underlying3 rfl (xr19 _ (E_.nil hS) 0 _ rfl)) (fun _=>eT) ?_;clear F fa;intro fa F
    rw [hg] at F
    obtain ⟨xb20,xo20,xa20,xr20⟩:=HS.out g (by omega)
    refine F.x (i:=17) rfl (fun w'=>R_ixSlice (sz:=1) rfl ((F.at rfl).trans (xa20 _ _)) (F.at rfl) Try.underlying22 (by kernel_rfl) (by omega) (by omega)) (fun _=>eT) ?_;clear F fa;intro fa F
    refine F.xr (i:=18) rfl (fun w' hS=>R_load rfl (F.at rfl) Try.underlying25 rfl (xr20 _ (E_.nil hS) 0 _ rfl)) (fun _=>eT) ?_;clear F fa;intro fa F
    rw [hga] at F
    refine ax_only (i:=19) (by kernel_rfl) (op_call F rfl rfl (by decide) rfl (R_callV rfl rfl Try.call113 (mpS (F.at rfl) (mpS (F.at rfl) (mpS (F.at rfl) (mpS (F.at rfl) mp0))))) (dPair_ok x HV.out k (by omega) t u HT.out HU.out ja ga jc gc _ (HX.out.ext E) (HJ.out.ext E (by simp)) (HG.out.ext E (by simp))) fun e w6 hR=>?_)
    obtain ⟨rfl,e9⟩:=hR
    refine ⟨_,rfl,?_⟩;clear F fa;intro fa F
    replace q4:=(e9).keep0 q4
    replace E:=ext_same E (e9)
    replace eT:=ext_same eT (e9)
    clear e9
    refine ⟨fun _=>eT,?_⟩
    refine F.x (i:=20) rfl (fun w'=>R_not rfl (F.at rfl)) (fun _=>eT) ?_;clear F fa;intro fa F
    refine ax_done (by kernel_rfl) ?_ _
    clear eT q4_ E_
    refine hK15 _ _ ?_
    clear hK15
    refine cd_b F rfl (fun hc49=>?_) (fun hc49=>?_)
    ·skip
     refine wp_seq_k fun K21 hK21=>?_
     refine wp_region_lit ?_
     refine F.vl (R_assign rfl (ev_c fa _)) ?_;clear F fa;intro fa F
     refine wpList_nil ?_
     refine hK21 _ _ ?_
     clear hK21
     refine wp_ret ?_
     (try simp only [Exit.inBlock,Exit.then,reduceIte])
     refine rt_v F (rs_1 F rfl rfl) ?_
     exact ⟨ret_bool (tog_bad (a:=a) (b:=b) (by omega) (by omega) (nr_bad (i:=i) (by omega) (by rw [hkt,hjt,hgt,hjk,hgk];simpa using hc49))).symm,E⟩
    ·skip
     have hyes : alkE x (ls.getD i 0).toNat (val ((S.map (·.2)).getD (l.getD a 0).toNat [])) (val ((S.map (·.2)).getD (l.getD b 0).toNat [])) = true:=by rw [hkt,hjt,hgt,hjk,hgk];simpa using hc49
     refine wp_skip ?_
     refine hK14 _ _ ?_
     clear hK14
     refine wp_region_lit ?_
     refine F.mv ?_;clear F fa;intro fa F
     refine F.vl (R_add rfl (F.at rfl) (ev_c fa _) (by omega) (by omega)) ?_;clear F fa;intro fa F
     refine F.as ?_;clear F fa;intro fa F
     refine wpList_nil ?_
     show _ ∧ _
     exact ⟨by omega,_,⟨rfl,E,q4,(Lib.hid fun j h=>by rcases Nat.lt_succ_iff_lt_or_eq.1 h with h | rfl;(· exact h3.out j h);(· exact hyes))⟩,F.sub (.c 11 rfl (.c 1 rfl (.c 2 rfl (.c 3 rfl (.c 4 rfl (.c 9 rfl (.c 10 rfl .n)))))))⟩
   ·skip
    refine wp_exit ?_
    refine hK10 _ _ ?_
    clear hK10
    refine wp_region_lit ?_
    refine F.mv ?_;clear F fa;intro fa F
    refine F.vl (R_add rfl (F.at rfl) (ev_c fa _) (by omega) (by omega)) ?_;clear F fa;intro fa F
    refine F.as ?_;clear F fa;intro fa F
    refine wpList_nil ?_
    show _ ∧ _
    exact ⟨by omega,_,⟨rfl,E,q4,(Lib.hid fun j h=>by rcases Nat.lt_succ_iff_lt_or_eq.1 h with h | rfl;(· exact h2.out j h);(· exact nr_all fun i hi=>h3.out i (by omega)))⟩,F.sub (.c 10 rfl (.c 1 rfl (.c 2 rfl (.c 3 rfl (.c 4 rfl (.c 9 rfl .n))))))⟩
  ·skip
   refine wp_exit ?_
   refine hK6 _ _ ?_
   clear hK6
   refine wp_region_lit ?_
   refine F.mv ?_;clear F fa;intro fa F
   refine F.vl (R_add rfl (F.at rfl) (ev_c fa _) (by omega) (by omega)) ?_;clear F fa;intro fa F
   refine F.as ?_;clear F fa;intro fa F
   refine wpList_nil ?_
   show _ ∧ _
   exact ⟨by omega,_,⟨rfl,E,q4,(Lib.hid fun j h=>by rcases Nat.lt_succ_iff_lt_or_eq.1 h with h | rfl;(· exact h1.out j h);(· exact fun b hb=>h2.out b (by omega)))⟩,F.sub (.c 9 rfl (.c 1 rfl (.c 2 rfl (.c 3 rfl (.c 4 rfl .n)))))⟩
 ·skip
  refine wp_exit ?_
  refine hK2 _ _ ?_
  clear hK2
  refine wp_seq_k fun K22 hK22=>?_
  refine wp_region_lit ?_
  refine F.vl (R_assign rfl (ev_c fa _)) ?_;clear F fa;intro fa F
  refine wpList_nil ?_
  refine hK22 _ _ ?_
  clear hK22
  refine wp_ret ?_
  (try simp only [Exit.inBlock,Exit.then,reduceIte])
  refine rt_v F (rs_1 F rfl rfl) ?_
  exact ⟨ret_bool (tog_all fun c hc=>h1.out c (by omega)).symm,E⟩
def rev6 (s : Nat) : Nat:=(List.range 6).foldl (fun a k=>2 * a + if s.testBit k then 1 else 0) 0
def keyS (s : Nat) : Nat:=(6 - setLen s) * 64 + (63 - rev6 s)
theorem bet_key : ∀ s,s < 64 → ∀ t,t < 64 → betS s t = decide (keyS s < keyS t):=by decide +kernel
theorem key_inj : ∀ s,s < 64 → ∀ t,t < 64 → keyS s = keyS t → s = t:=by decide +kernel
section
variable (p : Nat → Nat → Bool)
theorem bestK_spec {n : Nat} : ∀ m,m ≤ 64 → (okS p n (bestK p n m) = true ∨ bestK p n m = 0) ∧ ∀ s,s < m → okS p n s = true → ¬ keyS s < keyS (bestK p n m)
 | 0,_=>⟨.inr rfl,fun s h=>absurd h (by omega)⟩
 | m + 1,hm=>by
  obtain ⟨h1,h2⟩:=bestK_spec (n:=n) m (by omega)
  have hb:=bestK_lt p n m (by omega)
  rw [bestK]
  by_cases hc : (okS p n m && betS m (bestK p n m)) = true
  ·rw [if_pos hc]
   obtain ⟨hc1,hc2⟩:=Bool.and_eq_true_iff.1 hc
   rw [bet_key m (by omega) _ hb] at hc2
   have hc3:=of_decide_eq_true hc2
   refine ⟨.inl hc1,fun s hs ho=>?_⟩
   by_cases e : s = m
   ·subst e;omega
   ·have:=h2 s (by omega) ho;omega
  ·rw [if_neg hc]
   refine ⟨h1,fun s hs ho=>?_⟩
   by_cases e : s = m
   ·subst e
    rw [ho,Bool.true_and,bet_key s (by omega) _ hb] at hc
    simpa using hc
   ·exact h2 s (by omega) ho
theorem fnK_bit (j : Nat) : ∀ k,k ≤ 6 → ∀ i,(fnK p j k).testBit i = (decide (i < k) && p j i)
 | 0,_,i=>by simp [fnK]
 | k + 1,h,i=>by
  rw [fnK]
  by_cases hp : p j k = true
  ·rw [if_pos hp,Nat.testBit_or,fnK_bit j k (by omega),Nat.testBit_two_pow]
   by_cases e : k = i
   ·subst e;simp [hp]
   ·simp [e,show (i < k + 1) = (i < k) by rw [eq_iff_iff];omega]
  ·rw [if_neg hp,fnK_bit j k (by omega)]
   by_cases e : k = i
   ·subst e;simp [hp]
   ·simp [show (i < k + 1) = (i < k) by rw [eq_iff_iff];omega]
theorem bit_lt {n s i : Nat} (hs : s < 2 ^ n) (h : s.testBit i = true) : i < n:=by
 apply Classical.byContradiction
 intro hn
 have:=Nat.testBit_lt_two_pow (x:=s) (i:=i) (Nat.lt_of_lt_of_le hs (Nat.pow_le_pow_right (by decide) (by omega)))
 rw [h] at this;cases this
theorem mem_setList {s : Nat} {m : Int} : m ∈ setList s ↔ ∃ i : Nat,i < 6 ∧ s.testBit i = true ∧ m = i:=by
 simp only [setList,List.mem_map,List.mem_filter,List.mem_range]
 constructor
 ·rintro ⟨i,⟨h1,h2⟩,rfl⟩;exact ⟨i,h1,h2,rfl⟩
 ·rintro ⟨i,h1,h2,rfl⟩;exact ⟨i,⟨h1,h2⟩,rfl⟩
theorem okS_iff {n s : Nat} (hn : n ≤ 6) (hs : s < 2 ^ n) : okS p n s = true ↔ ∀ i k : Nat,s.testBit i = true → s.testBit k = true → p i k = true:=by
 rw [okS,List.all_eq_true]
 constructor
 ·intro h i k hi hk
  have hin:=bit_lt hs hi
  have hkn:=bit_lt hs hk
  have h1:=h i (mem_setList.2 ⟨i,by omega,hi,rfl⟩)
  rw [subB,List.all_eq_true] at h1
  have h2:=h1 k (List.mem_range.2 (by omega))
  rw [hk,Int.toNat_natCast,finS,if_pos hin,fnK_bit p i n hn] at h2
  simpa [hkn] using h2
 ·intro h m hm
  obtain ⟨i,hi6,hi,rfl⟩:=mem_setList.1 hm
  have hin:=bit_lt hs hi
  rw [subB,List.all_eq_true]
  intro k hk
  rw [Int.toNat_natCast,finS,if_pos hin,fnK_bit p i n hn]
  by_cases hb : s.testBit k = true
  ·have:=h i k hi hb
   simp [hb,this,bit_lt hs hb]
  ·simp [hb]
def togP (l : List Int) : Bool:=(List.range l.length).all fun a=>(List.range a).all fun b=>p (l.getD a 0).toNat (l.getD b 0).toNat
theorem tog_iff (hr : ∀ i,i < 6 → p i i = true) (hsym : ∀ i,i < 6 → ∀ k,k < 6 → p i k = p k i) {n s : Nat} (hn : n ≤ 6) (hs : s < 2 ^ n) : togP p (setList s) = okS p n s:=by
 rw [Bool.eq_iff_iff,okS_iff p hn hs,togP,List.all_eq_true]
 constructor
 ·intro h i k hi hk
  have hin:=bit_lt hs hi
  have hkn:=bit_lt hs hk
  obtain ⟨a,ha,ea⟩:=List.getElem_of_mem (mem_setList.2 ⟨i,by omega,hi,rfl⟩)
  obtain ⟨b,hb,eb⟩:=List.getElem_of_mem (mem_setList.2 ⟨k,by omega,hk,rfl⟩)
  have ga : (setList s).getD a 0 = (i : Int):=by rw [List.getD_eq_getElem?_getD,List.getElem?_eq_getElem ha];exact ea
  have gb : (setList s).getD b 0 = (k : Int):=by rw [List.getD_eq_getElem?_getD,List.getElem?_eq_getElem hb];exact eb
  rcases Nat.lt_trichotomy a b with hab | rfl | hab
  ·have h1:=List.all_eq_true.1 (h b (List.mem_range.2 hb)) a (List.mem_range.2 hab)
   rw [ga,gb,Int.toNat_natCast,Int.toNat_natCast] at h1
   rw [hsym i (by omega) k (by omega)];exact h1
  ·rw [ga] at gb
   have : i = k:=by omega
   subst this;exact hr i (by omega)
  ·have h1:=List.all_eq_true.1 (h a (List.mem_range.2 ha)) b (List.mem_range.2 hab)
   rw [ga,gb,Int.toNat_natCast,Int.toNat_natCast] at h1
   exact h1
 ·intro h a ha
  rw [List.all_eq_true]
  intro b hb
  have ha:=List.mem_range.1 ha
  have hb:=List.mem_range.1 hb
  obtain ⟨i,-,hi,ei⟩:=mem_setList.1 (getD_mem (l:=setList s) 0 ha)
  obtain ⟨k,-,hk,ek⟩:=mem_setList.1 (getD_mem (l:=setList s) 0 (show b < (setList s).length by omega))
  rw [ei,ek,Int.toNat_natCast,Int.toNat_natCast]
  exact h i k hi hk
end
def mskL (l : List Int) : Nat:=l.foldl (fun a m=>a + 2 ^ m.toNat) 0
theorem pic_set : ∀ n,n < 7 → ∀ m,m < 7 → ∀ l ∈ picL n m 0,mskL l < 2 ^ n ∧ setList (mskL l) = l ∧ setLen (mskL l) = m ∧ (l.all fun q=>decide (0 ≤ q) && decide (q < ((n : Nat) : Int))) = true:=by decide +kernel
theorem set_pic : ∀ n,n < 7 → ∀ s,s < 2 ^ n → setList s ∈ picL n (setLen s) 0 ∧ setLen s ≤ n:=by decide +kernel
theorem pic_ord : ∀ n,n < 7 → ∀ m,m < 7 → (picL n m 0).Pairwise fun a b=>keyS (mskL a) < keyS (mskL b):=by decide +kernel
theorem key_len : ∀ s,s < 64 → ∀ t,t < 64 → keyS s < keyS t → setLen t ≤ setLen s:=by decide +kernel
theorem msk_set : ∀ s,s < 64 → mskL (setList s) = s:=by decide +kernel
theorem pow6 : ∀ n,n ≤ 6 → 2 ^ n ≤ 64:=by decide
theorem ok_zero (p : Nat → Nat → Bool) {n : Nat} (hn : n ≤ 6) : okS p n 0 = true:=(okS_iff p hn (Nat.pow_pos (by decide))).2 fun i k hi=>by simp at hi
section
variable {p : Nat → Nat → Bool} (hr : ∀ i,i < 6 → p i i = true) (hsym : ∀ i,i < 6 → ∀ k,k < 6 → p i k = p k i)
include hr hsym
theorem most_found {n many i : Nat} (hn : n ≤ 6) (hm : many ≤ n) (hi : i < (picL n many 0).length) (h1 : togP p ((picL n many 0).getD i []) = true) (h2 : ∀ j,j < i → togP p ((picL n many 0).getD j []) = false) (h3 : ∀ m,many < m → m ≤ n → ∀ l ∈ picL n m 0,togP p l = false) :
  setList (bestK p n (2 ^ n)) = (picL n many 0).getD i []:=by
 have h64:=pow6 n hn
 obtain ⟨hb1,hb2⟩:=bestK_spec p (n:=n) (2 ^ n) h64
 have hmem : (picL n many 0).getD i [] ∈ picL n many 0:=by rw [List.getD_eq_getElem?_getD,List.getElem?_eq_getElem hi];exact List.getElem_mem hi
 obtain ⟨e1,e2,e3,-⟩:=pic_set n (by omega) many (by omega) _ hmem
 obtain ⟨s,hs⟩ : ∃ s,s = mskL ((picL n many 0).getD i []):=⟨_,rfl⟩
 rw [← hs] at e1 e2 e3
 rw [← e2] at h1 ⊢
 rw [tog_iff p hr hsym hn e1] at h1
 have hbl : bestK p n (2 ^ n) < 2 ^ n:=by
  have key : ∀ m,bestK p n m < m ∨ bestK p n m = 0:=by
   intro m
   induction m with
   | zero=>exact .inr rfl
   | succ m ih =>
    rw [bestK]
    split
    ·exact .inl (by omega)
    ·rcases ih with h | h
     ·exact .inl (by omega)
     ·exact .inr h
  rcases key (2 ^ n) with h | h
  ·exact h
  ·rw [h];exact Nat.pow_pos (by decide)
 obtain ⟨b,hbe⟩ : ∃ b,b = bestK p n (2 ^ n):=⟨_,rfl⟩
 rw [← hbe] at hb1 hb2 hbl ⊢
 have hbo : okS p n b = true:=by rcases hb1 with h | h;(· exact h);(· rw [h];exact ok_zero p hn)
 have h4:=hb2 s e1 h1
 obtain ⟨g1,g2⟩:=set_pic n (by omega) b hbl
 have hbt : togP p (setList b) = true:=by rw [tog_iff p hr hsym hn hbl];exact hbo
 have h5 : ¬ keyS b < keyS s:=by
  intro hk
  have hl:=key_len b (by omega) s (by omega) hk
  by_cases hlt : setLen s < setLen b
  ·have:=h3 (setLen b) (by omega) g2 _ g1
   rw [this] at hbt;cases hbt
  ·have he : setLen b = many:=by omega
   rw [he] at g1
   obtain ⟨j,hj,ej⟩:=List.getElem_of_mem g1
   have hjg : (picL n many 0).getD j [] = setList b:=by rw [List.getD_eq_getElem?_getD,List.getElem?_eq_getElem hj];exact ej
   have hord:=pic_ord n (by omega) many (by omega)
   rcases Nat.lt_trichotomy j i with hji | rfl | hji
   ·have:=h2 j hji
    rw [hjg,hbt] at this;cases this
   ·rw [hjg,msk_set b (by omega)] at hs
    rw [hs] at hk;omega
   ·have h6:=List.pairwise_iff_getElem.1 hord i j hi hj hji
    have ei : (picL n many 0)[i] = (picL n many 0).getD i []:=by rw [List.getD_eq_getElem?_getD,List.getElem?_eq_getElem hi];rfl
    rw [ej,ei,← hs,msk_set b (by omega)] at h6
    omega
 rw [key_inj b (by omega) s (by omega) (by omega)]
theorem most_none {n : Nat} (hn : n ≤ 6) (h3 : ∀ m,0 < m → m ≤ n → ∀ l ∈ picL n m 0,togP p l = false) : setList (bestK p n (2 ^ n)) = []:=by
 have:=most_found hr hsym (n:=n) (many:=0) (i:=0) hn (by omega) (by rw [picL];decide) (by rw [picL];rfl) (fun j h=>by omega) h3
 rw [this];rfl
end
theorem alk_refl {x : Vm} (hv : VOk x) (k : Nat) {f : Nat → Int} (hf : TubS f) : alkE x k f f = true:=by
 have h3:=prt_bd hf
 have h7:=mul_bd2 hv.t0 hv.t12 h3.1 h3.2 (C:=288) (by omega)
 have h8:=mul_bd2 h7.1 h7.2 h3.1 h3.2 (C:=6912) (by omega)
 rw [alkE,alkV]
 refine decide_eq_true ?_
 omega
theorem alk_sym (x : Vm) (k : Nat) (f g : Nat → Int) : alkE x k f g = alkE x k g f:=by
 have h : alkV x k f g = -alkV x k g f:=by rw [alkV,alkV];omega
 have h2 : x.tol * prt f * prt g = x.tol * prt g * prt f:=by rw [Int.mul_assoc,Int.mul_assoc,Int.mul_comm (prt f)]
 rw [alkE,alkE,h,h2,Int.neg_neg,Int.max_comm]
theorem nr_refl {x : Vm} (hv : VOk x) {ls : List Int} {T : List (List Int)} (hT : ∀ j,TubS (val (T.getD j []))) (i : Nat) : nrB x ls T i i = true:=nr_all fun k _=>alk_refl hv _ (hT i)
theorem nr_sym (x : Vm) (ls : List Int) (T : List (List Int)) (i k : Nat) : nrB x ls T i k = nrB x ls T k i:=by
 rw [nrB,nrB]
 congr 2
 funext l
 rw [alk_sym]
end Go.Proofs.Ytdjeecgddbjbeaa
