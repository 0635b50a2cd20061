/- Parts of a proof: Vf, Sv. No conditions. -/
import Derived.Test.YtholfdgebdlgjaaPE10
import Derived.Test.YtholfdgebdlgjaaPE11
set_option linter.unusedVariables false
set_option linter.unusedSimpArgs false
namespace Go.Proofs.Ytholfdgebdlgjaa
open Go.RowKit
set_option maxRecDepth 100000 in
theorem Z5E (t:Tp) (ga ra la ga' ra' la':Option Addr) (gc rc lc gc' rc' lc':Nat) (w:World) (h:IsTp w (.slice ga t.gr.length gc) (.slice ra t.rd.length rc) (.slice la t.lk.length lc) t) (h':IsTp w (.slice ga' t.gr.length gc') (.slice ra' t.rd.length rc') (.slice la' t.lk.length lc') t) (h1:t.gr.length ≤ 1000) (h2:t.rd.length ≤ 1000) (h3:t.lk.length ≤ 1000) :
  Calls Try.prog 37 #[tpV t (.slice ga t.gr.length gc) (.slice ra t.rd.length rc) (.slice la t.lk.length lc),tpV t (.slice ga' t.gr.length gc') (.slice ra' t.rd.length rc') (.slice la' t.lk.length lc')] w fun e w'=>e = .returned (.bool true) ∧ Ext [] w w':=by
 have HG:=Lib.hid (Z0C h.gr (0,0))
 have HR:=Lib.hid (Z0C h.rd (0,0,0,0))
 have HK:=Lib.hid (Z0C h.lk (0,0,0,0,0,0))
 have HG':=Lib.hid (Z0C h'.gr (0,0))
 have HR':=Lib.hid (Z0C h'.rd (0,0,0,0))
 have HK':=Lib.hid (Z0C h'.lk (0,0,0,0,0,0))
 clear h h'
 have E:Ext [] w w:=Ext.refl _ _
 unfold tpV
 refine Z01 129 Try.func37 rfl Try.ntmps37 (Nat.le_of_ble_eq_true rfl) ?_
 intro fa F
 refine wp_seq_k fun K1 hK1=>?_
 refine wp_region_lit ?_
 refine Z00 F rfl (by decide) rfl (Z0z rfl (F.at rfl)) ?_;clear F fa;intro fa w1 F hw
 obtain ⟨n2,hn⟩:∃ n,n = w.heap.size:=⟨_,rfl⟩
 rw [← hn] at F
 have s2:w.heap.size ≤ n2:=Nat.le_of_eq hn.symm
 have l2_E:w.heap.size ≤ n2:=by rw [hn];exact E.size
 replace E:=Z2 E hw
 have q2:=Zr hw hn
 clear hw hn
 refine Z00 F rfl (by decide) rfl (Z0z rfl (F.at rfl)) ?_;clear F fa;intro fa w2 F hw
 obtain ⟨n3,hn⟩:∃ n,n = w1.heap.size:=⟨_,rfl⟩
 rw [← hn] at F
 have s3:w1.heap.size ≤ n3:=Nat.le_of_eq hn.symm
 have l3_E:w.heap.size ≤ n3:=by rw [hn];exact E.size
 have m3_2:n2 < n3:=by rw [hn];exact Z7 q2
 replace q2:=Z1 hw q2
 replace E:=Z2 E hw
 have q3:=Zr hw hn
 clear hw hn
 refine F.vl (Z8 rfl (ev_c fa _)) ?_;clear F fa;intro fa F
 refine wpList_nil ?_
 refine hK1 _ _ ?_
 clear hK1
 refine wp_seq_k fun K2 hK2=>?_
 refine wp_seq_k fun K3 hK3=>?_
 refine wp_region_lit ?_
 refine F.vl (Z9 rfl (F.at rfl) Try.underlying28 rfl (n:=0) (sz:=1) rfl (by kernel_rfl) (by decide)) ?_;clear F fa;intro fa F
 refine F.vl (Zh rfl (F.at rfl) Try.underlying3 rfl ((Z0 q2 0).trans (get0))) ?_;clear F fa;intro fa F
 refine F.vl (Z9 rfl (F.at rfl) Try.underlying28 rfl (n:=0) (sz:=1) rfl (by kernel_rfl) (by decide)) ?_;clear F fa;intro fa F
 refine F.vl (Zh rfl (F.at rfl) Try.underlying3 rfl ((Z0 q3 0).trans (get0))) ?_;clear F fa;intro fa F
 refine F.vl (Z2l (b:=false) rfl (F.at rfl) (F.at rfl) (decide_eq_true rfl)) ?_;clear F fa;intro fa F
 refine F.mv ?_;clear F fa;intro fa F
 refine F.vl (Z9 rfl (F.at rfl) Try.underlying28 rfl (n:=1) (sz:=1) rfl (by kernel_rfl) (by decide)) ?_ (hw:=(ZQ F rfl rfl (by decide) rfl));clear F fa;intro fa F
 refine F.vl (Zh rfl (F.at rfl) Try.underlying3 rfl ((Z0 q2 1).trans (getS (get0)))) ?_ (hw:=(ZQ F rfl rfl (by decide) rfl));clear F fa;intro fa F
 refine F.vl (Z9 rfl (F.at rfl) Try.underlying28 rfl (n:=1) (sz:=1) rfl (by kernel_rfl) (by decide)) ?_ (hw:=(ZQ F rfl rfl (by decide) rfl));clear F fa;intro fa F
 refine F.vl (Zh rfl (F.at rfl) Try.underlying3 rfl ((Z0 q3 1).trans (getS (get0)))) ?_ (hw:=(ZQ F rfl rfl (by decide) rfl));clear F fa;intro fa F
 refine F.vl (Z2l (b:=false) rfl (F.at rfl) (F.at rfl) (decide_eq_true rfl)) ?_ (hw:=(ZQ F rfl rfl (by decide) rfl));clear F fa;intro fa F
 refine F.vl (Z0H rfl (F.at rfl) (F.at rfl)) ?_;clear F fa;intro fa F
 refine F.mv ?_;clear F fa;intro fa F
 refine F.vl (Z9 rfl (F.at rfl) Try.underlying28 rfl (n:=2) (sz:=1) rfl (by kernel_rfl) (by decide)) ?_ (hw:=(ZQ F rfl rfl (by decide) rfl));clear F fa;intro fa F
 refine F.vl (Zh rfl (F.at rfl) Try.underlying3 rfl ((Z0 q2 2).trans (getS (getS (get0))))) ?_ (hw:=(ZQ F rfl rfl (by decide) rfl));clear F fa;intro fa F
 refine F.vl (Z9 rfl (F.at rfl) Try.underlying28 rfl (n:=2) (sz:=1) rfl (by kernel_rfl) (by decide)) ?_ (hw:=(ZQ F rfl rfl (by decide) rfl));clear F fa;intro fa F
 refine F.vl (Zh rfl (F.at rfl) Try.underlying3 rfl ((Z0 q3 2).trans (getS (getS (get0))))) ?_ (hw:=(ZQ F rfl rfl (by decide) rfl));clear F fa;intro fa F
 refine F.vl (Z2l (b:=false) rfl (F.at rfl) (F.at rfl) (decide_eq_true rfl)) ?_ (hw:=(ZQ F rfl rfl (by decide) rfl));clear F fa;intro fa F
 refine F.vl (Z0H rfl (F.at rfl) (F.at rfl)) ?_;clear F fa;intro fa F
 refine F.mv ?_;clear F fa;intro fa F
 refine F.vl (Z9 rfl (F.at rfl) Try.underlying28 rfl (n:=3) (sz:=2) rfl (by kernel_rfl) (by decide)) ?_ (hw:=(ZQ F rfl rfl (by decide) rfl));clear F fa;intro fa F
 refine F.vl (ZP rfl (F.at rfl) Try.underlying23 rfl (by kernel_rfl) (Z0I (n:=2) q2 rfl (midS (getS (getS (getS (get0)))) (midS (getS (getS (getS (getS (get0))))) mid0)))) ?_ (hw:=(ZQ F rfl rfl (by decide) rfl));clear F fa;intro fa F
 refine F.vl (Z9 rfl (F.at rfl) Try.underlying28 rfl (n:=3) (sz:=2) rfl (by kernel_rfl) (by decide)) ?_ (hw:=(ZQ F rfl rfl (by decide) rfl));clear F fa;intro fa F
 refine F.vl (ZP rfl (F.at rfl) Try.underlying23 rfl (by kernel_rfl) (Z0I (n:=2) q3 rfl (midS (getS (getS (getS (get0)))) (midS (getS (getS (getS (getS (get0))))) mid0)))) ?_ (hw:=(ZQ F rfl rfl (by decide) rfl));clear F fa;intro fa F
 refine F.vl (Z6R (r:=false) rfl (F.at rfl) (F.at rfl) (by simp)) ?_ (hw:=(ZQ F rfl rfl (by decide) rfl));clear F fa;intro fa F
 refine F.vl (Z0H rfl (F.at rfl) (F.at rfl)) ?_;clear F fa;intro fa F
 refine F.mv ?_;clear F fa;intro fa F
 refine F.vl (Z9 rfl (F.at rfl) Try.underlying28 rfl (n:=5) (sz:=2) rfl (by kernel_rfl) (by decide)) ?_ (hw:=(ZQ F rfl rfl (by decide) rfl));clear F fa;intro fa F
 refine F.vl (ZP rfl (F.at rfl) Try.underlying23 rfl (by kernel_rfl) (Z0I (n:=2) q2 rfl (midS (getS (getS (getS (getS (getS (get0)))))) (midS (getS (getS (getS (getS (getS (getS (get0))))))) mid0)))) ?_ (hw:=(ZQ F rfl rfl (by decide) rfl));clear F fa;intro fa F
 refine F.vl (Z9 rfl (F.at rfl) Try.underlying28 rfl (n:=5) (sz:=2) rfl (by kernel_rfl) (by decide)) ?_ (hw:=(ZQ F rfl rfl (by decide) rfl));clear F fa;intro fa F
 refine F.vl (ZP rfl (F.at rfl) Try.underlying23 rfl (by kernel_rfl) (Z0I (n:=2) q3 rfl (midS (getS (getS (getS (getS (getS (get0)))))) (midS (getS (getS (getS (getS (getS (getS (get0))))))) mid0)))) ?_ (hw:=(ZQ F rfl rfl (by decide) rfl));clear F fa;intro fa F
 refine F.vl (Z6R (r:=false) rfl (F.at rfl) (F.at rfl) (by simp)) ?_ (hw:=(ZQ F rfl rfl (by decide) rfl));clear F fa;intro fa F
 refine F.vl (Z0H rfl (F.at rfl) (F.at rfl)) ?_;clear F fa;intro fa F
 refine F.mv ?_;clear F fa;intro fa F
 refine F.vl (Z9 rfl (F.at rfl) Try.underlying28 rfl (n:=7) (sz:=1) rfl (by kernel_rfl) (by decide)) ?_ (hw:=(ZQ F rfl rfl (by decide) rfl));clear F fa;intro fa F
 refine F.vl (Zh rfl (F.at rfl) Try.underlying3 rfl ((Z0 q2 7).trans (getS (getS (getS (getS (getS (getS (getS (get0)))))))))) ?_ (hw:=(ZQ F rfl rfl (by decide) rfl));clear F fa;intro fa F
 refine F.vl (Z9 rfl (F.at rfl) Try.underlying28 rfl (n:=7) (sz:=1) rfl (by kernel_rfl) (by decide)) ?_ (hw:=(ZQ F rfl rfl (by decide) rfl));clear F fa;intro fa F
 refine F.vl (Zh rfl (F.at rfl) Try.underlying3 rfl ((Z0 q3 7).trans (getS (getS (getS (getS (getS (getS (getS (get0)))))))))) ?_ (hw:=(ZQ F rfl rfl (by decide) rfl));clear F fa;intro fa F
 refine F.vl (Z2l (b:=false) rfl (F.at rfl) (F.at rfl) (decide_eq_true rfl)) ?_ (hw:=(ZQ F rfl rfl (by decide) rfl));clear F fa;intro fa F
 refine F.vl (Z0H rfl (F.at rfl) (F.at rfl)) ?_;clear F fa;intro fa F
 refine F.mv ?_;clear F fa;intro fa F
 refine F.vl (Z9 rfl (F.at rfl) Try.underlying28 rfl (n:=8) (sz:=1) rfl (by kernel_rfl) (by decide)) ?_ (hw:=(ZQ F rfl rfl (by decide) rfl));clear F fa;intro fa F
 refine F.vl (Zh rfl (F.at rfl) Try.underlying24 rfl ((Z0 q2 8).trans (getS (getS (getS (getS (getS (getS (getS (getS (get0))))))))))) ?_ (hw:=(ZQ F rfl rfl (by decide) rfl));clear F fa;intro fa F
 refine F.vl (Z1c rfl rfl (F.at rfl) Try.underlying24) ?_ (hw:=(ZQ F rfl rfl (by decide) rfl));clear F fa;intro fa F
 refine F.vl (Z9 rfl (F.at rfl) Try.underlying28 rfl (n:=8) (sz:=1) rfl (by kernel_rfl) (by decide)) ?_ (hw:=(ZQ F rfl rfl (by decide) rfl));clear F fa;intro fa F
 refine F.vl (Zh rfl (F.at rfl) Try.underlying24 rfl ((Z0 q3 8).trans (getS (getS (getS (getS (getS (getS (getS (getS (get0))))))))))) ?_ (hw:=(ZQ F rfl rfl (by decide) rfl));clear F fa;intro fa F
 refine F.vl (Z1c rfl rfl (F.at rfl) Try.underlying24) ?_ (hw:=(ZQ F rfl rfl (by decide) rfl));clear F fa;intro fa F
 refine F.vl (Z2l (b:=false) rfl (F.at rfl) (F.at rfl) (decide_eq_true rfl)) ?_ (hw:=(ZQ F rfl rfl (by decide) rfl));clear F fa;intro fa F
 refine F.vl (Z0H rfl (F.at rfl) (F.at rfl)) ?_;clear F fa;intro fa F
 refine F.mv ?_;clear F fa;intro fa F
 refine F.vl (Z9 rfl (F.at rfl) Try.underlying28 rfl (n:=9) (sz:=1) rfl (by kernel_rfl) (by decide)) ?_ (hw:=(ZQ F rfl rfl (by decide) rfl));clear F fa;intro fa F
 refine F.vl (Zh rfl (F.at rfl) Try.underlying25 rfl ((Z0 q2 9).trans (getS (getS (getS (getS (getS (getS (getS (getS (getS (get0)))))))))))) ?_ (hw:=(ZQ F rfl rfl (by decide) rfl));clear F fa;intro fa F
 refine F.vl (Z1c rfl rfl (F.at rfl) Try.underlying25) ?_ (hw:=(ZQ F rfl rfl (by decide) rfl));clear F fa;intro fa F
 refine F.vl (Z9 rfl (F.at rfl) Try.underlying28 rfl (n:=9) (sz:=1) rfl (by kernel_rfl) (by decide)) ?_ (hw:=(ZQ F rfl rfl (by decide) rfl));clear F fa;intro fa F
 refine F.vl (Zh rfl (F.at rfl) Try.underlying25 rfl ((Z0 q3 9).trans (getS (getS (getS (getS (getS (getS (getS (getS (getS (get0)))))))))))) ?_ (hw:=(ZQ F rfl rfl (by decide) rfl));clear F fa;intro fa F
 refine F.vl (Z1c rfl rfl (F.at rfl) Try.underlying25) ?_ (hw:=(ZQ F rfl rfl (by decide) rfl));clear F fa;intro fa F
 refine F.vl (Z2l (b:=false) rfl (F.at rfl) (F.at rfl) (decide_eq_true rfl)) ?_ (hw:=(ZQ F rfl rfl (by decide) rfl));clear F fa;intro fa F
 refine F.vl (Z0H rfl (F.at rfl) (F.at rfl)) ?_;clear F fa;intro fa F
 refine F.mv ?_;clear F fa;intro fa F
 refine F.vl (Z9 rfl (F.at rfl) Try.underlying28 rfl (n:=10) (sz:=1) rfl (by kernel_rfl) (by decide)) ?_ (hw:=(ZQ F rfl rfl (by decide) rfl));clear F fa;intro fa F
 refine F.vl (Zh rfl (F.at rfl) Try.underlying26 rfl ((Z0 q2 10).trans (getS (getS (getS (getS (getS (getS (getS (getS (getS (getS (get0))))))))))))) ?_ (hw:=(ZQ F rfl rfl (by decide) rfl));clear F fa;intro fa F
 refine F.vl (Z1c rfl rfl (F.at rfl) Try.underlying26) ?_ (hw:=(ZQ F rfl rfl (by decide) rfl));clear F fa;intro fa F
 refine F.vl (Z9 rfl (F.at rfl) Try.underlying28 rfl (n:=10) (sz:=1) rfl (by kernel_rfl) (by decide)) ?_ (hw:=(ZQ F rfl rfl (by decide) rfl));clear F fa;intro fa F
 refine F.vl (Zh rfl (F.at rfl) Try.underlying26 rfl ((Z0 q3 10).trans (getS (getS (getS (getS (getS (getS (getS (getS (getS (getS (get0))))))))))))) ?_ (hw:=(ZQ F rfl rfl (by decide) rfl));clear F fa;intro fa F
 refine F.vl (Z1c rfl rfl (F.at rfl) Try.underlying26) ?_ (hw:=(ZQ F rfl rfl (by decide) rfl));clear F fa;intro fa F
 refine F.vl (Z2l (b:=false) rfl (F.at rfl) (F.at rfl) (decide_eq_true rfl)) ?_ (hw:=(ZQ F rfl rfl (by decide) rfl));clear F fa;intro fa F
 refine F.vl (Z0H rfl (F.at rfl) (F.at rfl)) ?_;clear F fa;intro fa F
 refine wpList_nil ?_
 refine hK3 _ _ ?_
 clear hK3
 refine cd_F F rfl ?_
 refine wp_skip ?_
 refine hK2 _ _ ?_
 clear hK2
 refine wp_seq_k fun K4 hK4=>?_
 refine wp_seq_k fun K5 hK5=>?_
 replace F:=F.sub (.c 2 rfl (.c 3 rfl .n))
 refine wp_region_lit ?_
 refine F.vl (Z8 rfl (ev_c fa _)) ?_;clear F fa;intro fa F
 refine wpList_nil ?_
 refine hK5 _ _ ?_
 clear hK5
 refine wp_block ?_
 have F0:=F.sub (.c 2 rfl (.c 3 rfl .n))
 refine Z0U F0 (t.gr.length) (fun i Lv W=>Lv = [(5,.int .i64 ((i:Nat):Int))] ∧ Ext [] w2 W) ⟨_,⟨rfl,Ext.refl _ _⟩,F.sub (.c 5 rfl (.c 2 rfl (.c 3 rfl .n)))⟩ ?_
 clear F F0
 rintro i _ fa w3 hi1 ⟨rfl,EL1⟩ F
 have q2:=EL1.keep0 q2
 have q3:=EL1.keep0 q3
 have E:=E.nil EL1
 refine wp_seq_k fun K6 hK6=>?_
 refine wp_seq_k fun K7 hK7=>?_
 refine wp_region_lit ?_
 refine F.mv ?_;clear F fa;intro fa F
 refine F.vl (Z9 rfl (F.at rfl) Try.underlying28 rfl (n:=8) (sz:=1) rfl (by kernel_rfl) (by decide)) ?_;clear F fa;intro fa F
 refine F.vl (Zh rfl (F.at rfl) Try.underlying24 rfl ((Z0 q2 8).trans (getS (getS (getS (getS (getS (getS (getS (getS (get0))))))))))) ?_;clear F fa;intro fa F
 refine F.vl (Z1c rfl rfl (F.at rfl) Try.underlying24) ?_;clear F fa;intro fa F
 refine F.vl (Z1d rfl (F.at rfl) (F.at rfl)) ?_;clear F fa;intro fa F
 refine wpList_nil ?_
 refine hK7 _ _ ?_
 clear hK7
 refine Z0J F rfl (fun hc79=>?_) (fun hc79=>?_)
 ·skip
  refine wp_skip ?_
  refine hK6 _ _ ?_
  clear hK6
  refine wp_seq_k fun K8 hK8=>?_
  refine wp_block ?_
  refine wp_seq_k fun K9 hK9=>?_
  refine Z0g 10 follows (by kernel_rfl) fun w4 hh eh=>?_
  replace q2:=Zn hh q2
  replace q3:=Zn hh q3
  replace E:=Z4 E eh
  replace EL1:=Z4 EL1 eh
  clear hh eh
  refine F.sv (Z9 rfl (F.at rfl) Try.underlying28 rfl (n:=8) (sz:=1) rfl (by kernel_rfl) (by decide)) ?_;clear F fa;intro fa F
  refine F.sv (Zh rfl (F.at rfl) Try.underlying24 rfl ((Z0 q2 8).trans (getS (getS (getS (getS (getS (getS (getS (getS (get0))))))))))) ?_;clear F fa;intro fa F
  refine F.smv ?_;clear F fa;intro fa F
  obtain ⟨xb10,xo10,xa10,xr10⟩:=HG.out i (by omega)
  refine F.sv (ZJ (sz:=2) rfl ((F.at rfl).trans (xa10 _ _)) (F.at rfl) Try.underlying24 (by kernel_rfl) (by omega) (by omega)) ?_;clear F fa;intro fa F
  refine F.sv (ZP rfl (F.at rfl) Try.underlying23 rfl (by kernel_rfl) (xr10 _ E)) ?_;clear F fa;intro fa F
  refine F.sv (Z9 rfl (F.at rfl) Try.underlying28 rfl (n:=8) (sz:=1) rfl (by kernel_rfl) (by decide)) ?_;clear F fa;intro fa F
  refine F.sv (Zh rfl (F.at rfl) Try.underlying24 rfl ((Z0 q3 8).trans (getS (getS (getS (getS (getS (getS (getS (getS (get0))))))))))) ?_;clear F fa;intro fa F
  refine F.smv ?_;clear F fa;intro fa F
  obtain ⟨xb11,xo11,xa11,xr11⟩:=HG'.out i (by omega)
  refine F.sv (ZJ (sz:=2) rfl ((F.at rfl).trans (xa11 _ _)) (F.at rfl) Try.underlying24 (by kernel_rfl) (by omega) (by omega)) ?_;clear F fa;intro fa F
  refine F.sv (ZP rfl (F.at rfl) Try.underlying23 rfl (by kernel_rfl) (xr11 _ E)) ?_;clear F fa;intro fa F
  refine wpStill_nil ?_
  refine F.vl (Z6R (r:=false) rfl (F.at rfl) (F.at rfl) (by simp)) ?_;clear F fa;intro fa F
  refine wpList_nil ?_
  refine hK9 _ _ ?_
  clear hK9
  refine cd_F F rfl ?_
  refine wp_skip ?_
  refine hK8 _ _ ?_
  clear hK8
  refine wp_region_lit ?_
  refine F.mv ?_;clear F fa;intro fa F
  refine F.vl (Z0F rfl (F.at rfl) (ev_c fa _) (by omega) (by omega)) ?_;clear F fa;intro fa F
  refine F.as ?_;clear F fa;intro fa F
  refine wpList_nil ?_
  show _ ∧ _
  exact ⟨by omega,_,⟨rfl,EL1⟩,F.sub (.c 5 rfl (.c 2 rfl (.c 3 rfl .n)))⟩
 ·skip
  refine wp_exit ?_
  refine hK4 _ _ ?_
  clear hK4
  refine wp_seq_k fun K12 hK12=>?_
  refine wp_seq_k fun K13 hK13=>?_
  refine wp_region_lit ?_
  refine F.vl (Z8 rfl (ev_c fa _)) ?_;clear F fa;intro fa F
  refine wpList_nil ?_
  refine hK13 _ _ ?_
  clear hK13
  refine wp_block ?_
  have F0:=F.sub (.c 2 rfl (.c 3 rfl .n))
  refine Z0U F0 (t.rd.length) (fun i Lv W=>Lv = [(6,.int .i64 ((i:Nat):Int))] ∧ Ext [] w3 W) ⟨_,⟨rfl,Ext.refl _ _⟩,F.sub (.c 6 rfl (.c 2 rfl (.c 3 rfl .n)))⟩ ?_
  clear F F0
  rintro i _ fa w5 hi2 ⟨rfl,EL2⟩ F
  have q2:=EL2.keep0 q2
  have q3:=EL2.keep0 q3
  have E:=E.nil EL2
  refine wp_seq_k fun K14 hK14=>?_
  refine wp_seq_k fun K15 hK15=>?_
  refine wp_region_lit ?_
  refine F.mv ?_;clear F fa;intro fa F
  refine F.vl (Z9 rfl (F.at rfl) Try.underlying28 rfl (n:=9) (sz:=1) rfl (by kernel_rfl) (by decide)) ?_;clear F fa;intro fa F
  refine F.vl (Zh rfl (F.at rfl) Try.underlying25 rfl ((Z0 q2 9).trans (getS (getS (getS (getS (getS (getS (getS (getS (getS (get0)))))))))))) ?_;clear F fa;intro fa F
  refine F.vl (Z1c rfl rfl (F.at rfl) Try.underlying25) ?_;clear F fa;intro fa F
  refine F.vl (Z1d rfl (F.at rfl) (F.at rfl)) ?_;clear F fa;intro fa F
  refine wpList_nil ?_
  refine hK15 _ _ ?_
  clear hK15
  refine Z0J F rfl (fun hc97=>?_) (fun hc97=>?_)
  ·skip
   refine wp_skip ?_
   refine hK14 _ _ ?_
   clear hK14
   refine wp_seq_k fun K16 hK16=>?_
   refine wp_block ?_
   refine wp_seq_k fun K17 hK17=>?_
   refine Z0g 10 follows (by kernel_rfl) fun w6 hh eh=>?_
   replace q2:=Zn hh q2
   replace q3:=Zn hh q3
   replace E:=Z4 E eh
   replace EL2:=Z4 EL2 eh
   clear hh eh
   refine F.sv (Z9 rfl (F.at rfl) Try.underlying28 rfl (n:=9) (sz:=1) rfl (by kernel_rfl) (by decide)) ?_;clear F fa;intro fa F
   refine F.sv (Zh rfl (F.at rfl) Try.underlying25 rfl ((Z0 q2 9).trans (getS (getS (getS (getS (getS (getS (getS (getS (getS (get0)))))))))))) ?_;clear F fa;intro fa F
   refine F.smv ?_;clear F fa;intro fa F
   obtain ⟨xb18,xo18,xa18,xr18⟩:=HR.out i (by omega)
   refine F.sv (ZJ (sz:=4) rfl ((F.at rfl).trans (xa18 _ _)) (F.at rfl) Try.underlying25 (by kernel_rfl) (by omega) (by omega)) ?_;clear F fa;intro fa F
   refine F.sv (ZP rfl (F.at rfl) Try.underlying66 rfl (by kernel_rfl) (xr18 _ E)) ?_;clear F fa;intro fa F
   refine F.sv (Z9 rfl (F.at rfl) Try.underlying28 rfl (n:=9) (sz:=1) rfl (by kernel_rfl) (by decide)) ?_;clear F fa;intro fa F
   refine F.sv (Zh rfl (F.at rfl) Try.underlying25 rfl ((Z0 q3 9).trans (getS (getS (getS (getS (getS (getS (getS (getS (getS (get0)))))))))))) ?_;clear F fa;intro fa F
   refine F.smv ?_;clear F fa;intro fa F
   obtain ⟨xb19,xo19,xa19,xr19⟩:=HR'.out i (by omega)
   refine F.sv (ZJ (sz:=4) rfl ((F.at rfl).trans (xa19 _ _)) (F.at rfl) Try.underlying25 (by kernel_rfl) (by omega) (by omega)) ?_;clear F fa;intro fa F
   refine F.sv (ZP rfl (F.at rfl) Try.underlying66 rfl (by kernel_rfl) (xr19 _ E)) ?_;clear F fa;intro fa F
   refine wpStill_nil ?_
   refine F.vl (ZaJ (r:=false) rfl (F.at rfl) (F.at rfl) (by simp)) ?_;clear F fa;intro fa F
   refine wpList_nil ?_
   refine hK17 _ _ ?_
   clear hK17
   refine cd_F F rfl ?_
   refine wp_skip ?_
   refine hK16 _ _ ?_
   clear hK16
   refine wp_region_lit ?_
   refine F.mv ?_;clear F fa;intro fa F
   refine F.vl (Z0F rfl (F.at rfl) (ev_c fa _) (by omega) (by omega)) ?_;clear F fa;intro fa F
   refine F.as ?_;clear F fa;intro fa F
   refine wpList_nil ?_
   show _ ∧ _
   exact ⟨by omega,_,⟨rfl,EL2⟩,F.sub (.c 6 rfl (.c 2 rfl (.c 3 rfl .n)))⟩
  ·skip
   refine wp_exit ?_
   refine hK12 _ _ ?_
   clear hK12
   refine wp_seq_k fun K20 hK20=>?_
   refine wp_seq_k fun K21 hK21=>?_
   refine wp_region_lit ?_
   refine F.vl (Z8 rfl (ev_c fa _)) ?_;clear F fa;intro fa F
   refine wpList_nil ?_
   refine hK21 _ _ ?_
   clear hK21
   refine wp_block ?_
   have F0:=F.sub (.c 2 rfl (.c 3 rfl .n))
   refine Z0U F0 (t.lk.length) (fun i Lv W=>Lv = [(7,.int .i64 ((i:Nat):Int))] ∧ Ext [] w5 W) ⟨_,⟨rfl,Ext.refl _ _⟩,F.sub (.c 7 rfl (.c 2 rfl (.c 3 rfl .n)))⟩ ?_
   clear F F0
   rintro i _ fa w7 hi3 ⟨rfl,EL3⟩ F
   have q2:=EL3.keep0 q2
   have q3:=EL3.keep0 q3
   have E:=E.nil EL3
   refine wp_seq_k fun K22 hK22=>?_
   refine wp_seq_k fun K23 hK23=>?_
   refine wp_region_lit ?_
   refine F.mv ?_;clear F fa;intro fa F
   refine F.vl (Z9 rfl (F.at rfl) Try.underlying28 rfl (n:=10) (sz:=1) rfl (by kernel_rfl) (by decide)) ?_;clear F fa;intro fa F
   refine F.vl (Zh rfl (F.at rfl) Try.underlying26 rfl ((Z0 q2 10).trans (getS (getS (getS (getS (getS (getS (getS (getS (getS (getS (get0))))))))))))) ?_;clear F fa;intro fa F
   refine F.vl (Z1c rfl rfl (F.at rfl) Try.underlying26) ?_;clear F fa;intro fa F
   refine F.vl (Z1d rfl (F.at rfl) (F.at rfl)) ?_;clear F fa;intro fa F
   refine wpList_nil ?_
   refine hK23 _ _ ?_
   clear hK23
   refine Z0J F rfl (fun hc115=>?_) (fun hc115=>?_)
   ·skip
    refine wp_skip ?_
    refine hK22 _ _ ?_
    clear hK22
    refine wp_seq_k fun K24 hK24=>?_
    refine wp_block ?_
    refine wp_seq_k fun K25 hK25=>?_
    refine Z0g 10 follows (by kernel_rfl) fun w8 hh eh=>?_
    replace q2:=Zn hh q2
    replace q3:=Zn hh q3
    replace E:=Z4 E eh
    replace EL3:=Z4 EL3 eh
    clear hh eh
    refine F.sv (Z9 rfl (F.at rfl) Try.underlying28 rfl (n:=10) (sz:=1) rfl (by kernel_rfl) (by decide)) ?_;clear F fa;intro fa F
    refine F.sv (Zh rfl (F.at rfl) Try.underlying26 rfl ((Z0 q2 10).trans (getS (getS (getS (getS (getS (getS (getS (getS (getS (getS (get0))))))))))))) ?_;clear F fa;intro fa F
    refine F.smv ?_;clear F fa;intro fa F
    obtain ⟨xb26,xo26,xa26,xr26⟩:=HK.out i (by omega)
    refine F.sv (ZJ (sz:=6) rfl ((F.at rfl).trans (xa26 _ _)) (F.at rfl) Try.underlying26 (by kernel_rfl) (by omega) (by omega)) ?_;clear F fa;intro fa F
    refine F.sv (ZP rfl (F.at rfl) Try.underlying75 rfl (by kernel_rfl) (xr26 _ E)) ?_;clear F fa;intro fa F
    refine F.sv (Z9 rfl (F.at rfl) Try.underlying28 rfl (n:=10) (sz:=1) rfl (by kernel_rfl) (by decide)) ?_;clear F fa;intro fa F
    refine F.sv (Zh rfl (F.at rfl) Try.underlying26 rfl ((Z0 q3 10).trans (getS (getS (getS (getS (getS (getS (getS (getS (getS (getS (get0))))))))))))) ?_;clear F fa;intro fa F
    refine F.smv ?_;clear F fa;intro fa F
    obtain ⟨xb27,xo27,xa27,xr27⟩:=HK'.out i (by omega)
    refine F.sv (ZJ (sz:=6) rfl ((F.at rfl).trans (xa27 _ _)) (F.at rfl) Try.underlying26 (by kernel_rfl) (by omega) (by omega)) ?_;clear F fa;intro fa F
    refine F.sv (ZP rfl (F.at rfl) Try.underlying75 rfl (by kernel_rfl) (xr27 _ E)) ?_;clear F fa;intro fa F
    refine wpStill_nil ?_
    refine F.vl (ZaK (r:=false) rfl (F.at rfl) (F.at rfl) (by simp)) ?_;clear F fa;intro fa F
    refine wpList_nil ?_
    refine hK25 _ _ ?_
    clear hK25
    refine cd_F F rfl ?_
    refine wp_skip ?_
    refine hK24 _ _ ?_
    clear hK24
    refine wp_region_lit ?_
    refine F.mv ?_;clear F fa;intro fa F
    refine F.vl (Z0F rfl (F.at rfl) (ev_c fa _) (by omega) (by omega)) ?_;clear F fa;intro fa F
    refine F.as ?_;clear F fa;intro fa F
    refine wpList_nil ?_
    show _ ∧ _
    exact ⟨by omega,_,⟨rfl,EL3⟩,F.sub (.c 7 rfl (.c 2 rfl (.c 3 rfl .n)))⟩
   ·skip
    refine wp_exit ?_
    refine hK20 _ _ ?_
    clear hK20
    refine wp_seq_k fun K28 hK28=>?_
    refine wp_region_lit ?_
    refine F.vl (Z8 rfl (ev_c fa _)) ?_;clear F fa;intro fa F
    refine wpList_nil ?_
    refine hK28 _ _ ?_
    clear hK28
    refine wp_ret ?_
    (try simp only [Exit.inBlock,Exit.then])
    refine rt_v F (rs_1 F rfl rfl) ?_
    exact ⟨rfl,E⟩
structure Te where
 t:Tp
 ga:Option Addr
 gc:Nat
 ra:Option Addr
 rc:Nat
 la:Option Addr
 lc:Nat
def Zbl (x:Te):List Value:=[.int .i64 x.t.S,.int .i64 x.t.A,.int .i64 x.t.T,.int .i64 x.t.bl,.int .i64 x.t.bm,.int .i64 x.t.pl,.int .i64 x.t.pm,.int .i64 x.t.sl,.slice x.ga x.t.gr.length x.gc,.slice x.ra x.t.rd.length x.rc,.slice x.la x.t.lk.length x.lc]
def Te.At (x:Te) (w:World):Prop:=IsTp w (.slice x.ga x.t.gr.length x.gc) (.slice x.ra x.t.rd.length x.rc) (.slice x.la x.t.lk.length x.lc) x.t
structure Te.Small (x:Te):Prop where
 gr:x.t.gr.length ≤ 1000
 rd:x.t.rd.length ≤ 1000
 lk:x.t.lk.length ≤ 1000
def te0:Te:=⟨⟨0,0,0,0,0,0,0,0,[],[],[]⟩,none,0,none,0,none,0⟩
def tsI (ts:List Te) (i:Nat):Te:=ts.getD i te0
structure TsAt (w:World) (a:Option Addr) (ts:List Te):Prop where
 rows:Z0E w (.slice a ts.length ts.length) 11 (ts.map Zbl)
 at_:∀ x ∈ ts,x.At w
theorem ZbE {w:World} {a:Option Addr} {ts:List Te} (h:TsAt w a ts) {i:Nat} (hi:i < ts.length):(tsI ts i).At w:=h.at_ _ (Z0m te0 hi)
def Za3 (t:Tp):Bool:=decide (20 < t.gr.length) || decide (20 < t.rd.length) || decide (20 < t.lk.length)
theorem Zaa {t:Tp} (h:Za3 t = false):t.gr.length ≤ 20 ∧ t.rd.length ≤ 20 ∧ t.lk.length ≤ 20:=by
 simp only [Za3,Bool.or_eq_false_iff,decide_eq_false_iff_not] at h
 omega
set_option maxRecDepth 100000 in
theorem Za9 (t:Tp) (ga ra la:Option Addr) (gc rc lc:Nat) (w:World):Calls Try.prog 24 #[tpV t (.slice ga t.gr.length gc) (.slice ra t.rd.length rc) (.slice la t.lk.length lc)] w fun e w'=>e = .returned (.bool (Za3 t)) ∧ Ext [] w w':=by
 have E:Ext [] w w:=Ext.refl _ _
 have hl:Za3 t = (decide (20 < t.gr.length) || decide (20 < t.rd.length) || decide (20 < t.lk.length)):=rfl
 unfold tpV
 refine Z01 19 Try.func24 rfl Try.ntmps24 (Nat.le_of_ble_eq_true rfl) ?_
 intro fa F
 refine wp_seq_k fun K1 hK1=>?_
 refine wp_region_lit ?_
 refine Z00 F rfl (by decide) rfl (Z0z rfl (F.at rfl)) ?_;clear F fa;intro fa w1 F hw
 obtain ⟨n1,hn⟩:∃ n,n = w.heap.size:=⟨_,rfl⟩
 rw [← hn] at F
 have s1:w.heap.size ≤ n1:=Nat.le_of_eq hn.symm
 have l1_E:w.heap.size ≤ n1:=by rw [hn];exact E.size
 replace E:=Z2 E hw
 have q1:=Zr hw hn
 clear hw hn
 refine F.vl (Z8 rfl (ev_c fa _)) ?_;clear F fa;intro fa F
 refine wpList_nil ?_
 refine hK1 _ _ ?_
 clear hK1
 refine wp_seq_k fun K2 hK2=>?_
 by_cases c1:20 < t.gr.length
 ·skip
  refine wp_region_lit ?_
  refine F.vl (Z9 rfl (F.at rfl) Try.underlying28 rfl (n:=8) (sz:=1) rfl (by kernel_rfl) (by decide)) ?_;clear F fa;intro fa F
  refine F.vl (Zh rfl (F.at rfl) Try.underlying24 rfl ((Z0 q1 8).trans (getS (getS (getS (getS (getS (getS (getS (getS (get0))))))))))) ?_;clear F fa;intro fa F
  refine F.vl (Z1c rfl rfl (F.at rfl) Try.underlying24) ?_;clear F fa;intro fa F
  refine F.vl (Z3S (b:=true) rfl (F.at rfl) (ev_c fa _) (decide_eq_true ((by omega)))) ?_;clear F fa;intro fa F
  refine F.mv ?_;clear F fa;intro fa F
  refine Z03 F rfl (by decide) (Z04 F rfl rfl (by decide) rfl (by decide)) ?_;clear F fa;intro fa F
  refine Z03 F rfl (by decide) (Z04 F rfl rfl (by decide) rfl (by decide)) ?_;clear F fa;intro fa F
  refine Z03 F rfl (by decide) (Z04 F rfl rfl (by decide) rfl (by decide)) ?_;clear F fa;intro fa F
  refine Z03 F rfl (by decide) (Z04 F rfl rfl (by decide) rfl (by decide)) ?_;clear F fa;intro fa F
  refine F.vl (Z1m rfl (F.at rfl) (ev_c fa _)) ?_;clear F fa;intro fa F
  refine F.mv ?_;clear F fa;intro fa F
  refine Z03 F rfl (by decide) (Z04 F rfl rfl (by decide) rfl (by decide)) ?_;clear F fa;intro fa F
  refine Z03 F rfl (by decide) (Z04 F rfl rfl (by decide) rfl (by decide)) ?_;clear F fa;intro fa F
  refine Z03 F rfl (by decide) (Z04 F rfl rfl (by decide) rfl (by decide)) ?_;clear F fa;intro fa F
  refine Z03 F rfl (by decide) (Z04 F rfl rfl (by decide) rfl (by decide)) ?_;clear F fa;intro fa F
  refine F.vl (Z1m rfl (F.at rfl) (ev_c fa _)) ?_;clear F fa;intro fa F
  refine F.as ?_;clear F fa;intro fa F
  refine wpList_nil ?_
  rw [decide_eq_true c1,Bool.true_or,Bool.true_or] at hl
  refine hK2 _ _ ?_
  clear hK2
  refine wp_ret ?_
  (try simp only [Exit.inBlock,Exit.then])
  refine rt_v F (rs_1 F rfl rfl) ?_
  exact ⟨congrArg (fun x=>Ending.returned (Value.bool x)) hl.symm,E⟩
 ·skip
  by_cases c2:20 < t.rd.length
  ·skip
   refine wp_region_lit ?_
   refine F.vl (Z9 rfl (F.at rfl) Try.underlying28 rfl (n:=8) (sz:=1) rfl (by kernel_rfl) (by decide)) ?_;clear F fa;intro fa F
   refine F.vl (Zh rfl (F.at rfl) Try.underlying24 rfl ((Z0 q1 8).trans (getS (getS (getS (getS (getS (getS (getS (getS (get0))))))))))) ?_;clear F fa;intro fa F
   refine F.vl (Z1c rfl rfl (F.at rfl) Try.underlying24) ?_;clear F fa;intro fa F
   refine F.vl (Z3S (b:=false) rfl (F.at rfl) (ev_c fa _) (decide_eq_false ((by omega)))) ?_;clear F fa;intro fa F
   refine F.mv ?_;clear F fa;intro fa F
   refine F.vl (Z9 rfl (F.at rfl) Try.underlying28 rfl (n:=9) (sz:=1) rfl (by kernel_rfl) (by decide)) ?_ (hw:=(ZQ F rfl rfl (by decide) rfl));clear F fa;intro fa F
   refine F.vl (Zh rfl (F.at rfl) Try.underlying25 rfl ((Z0 q1 9).trans (getS (getS (getS (getS (getS (getS (getS (getS (getS (get0)))))))))))) ?_ (hw:=(ZQ F rfl rfl (by decide) rfl));clear F fa;intro fa F
   refine F.vl (Z1c rfl rfl (F.at rfl) Try.underlying25) ?_ (hw:=(ZQ F rfl rfl (by decide) rfl));clear F fa;intro fa F
   refine F.vl (Z3S (b:=true) rfl (F.at rfl) (ev_c fa _) (decide_eq_true ((by omega)))) ?_ (hw:=(ZQ F rfl rfl (by decide) rfl));clear F fa;intro fa F
   refine F.vl (Z0H rfl (F.at rfl) (F.at rfl)) ?_;clear F fa;intro fa F
   refine F.mv ?_;clear F fa;intro fa F
   refine Z03 F rfl (by decide) (Z04 F rfl rfl (by decide) rfl (by decide)) ?_;clear F fa;intro fa F
   refine Z03 F rfl (by decide) (Z04 F rfl rfl (by decide) rfl (by decide)) ?_;clear F fa;intro fa F
   refine Z03 F rfl (by decide) (Z04 F rfl rfl (by decide) rfl (by decide)) ?_;clear F fa;intro fa F
   refine Z03 F rfl (by decide) (Z04 F rfl rfl (by decide) rfl (by decide)) ?_;clear F fa;intro fa F
   refine F.vl (Z1m rfl (F.at rfl) (ev_c fa _)) ?_;clear F fa;intro fa F
   refine F.as ?_;clear F fa;intro fa F
   refine wpList_nil ?_
   rw [decide_eq_true c2,Bool.or_true,Bool.true_or] at hl
   refine hK2 _ _ ?_
   clear hK2
   refine wp_ret ?_
   (try simp only [Exit.inBlock,Exit.then])
   refine rt_v F (rs_1 F rfl rfl) ?_
   exact ⟨congrArg (fun x=>Ending.returned (Value.bool x)) hl.symm,E⟩
  ·skip
   by_cases c3:20 < t.lk.length
   ·skip
    refine wp_region_lit ?_
    refine F.vl (Z9 rfl (F.at rfl) Try.underlying28 rfl (n:=8) (sz:=1) rfl (by kernel_rfl) (by decide)) ?_;clear F fa;intro fa F
    refine F.vl (Zh rfl (F.at rfl) Try.underlying24 rfl ((Z0 q1 8).trans (getS (getS (getS (getS (getS (getS (getS (getS (get0))))))))))) ?_;clear F fa;intro fa F
    refine F.vl (Z1c rfl rfl (F.at rfl) Try.underlying24) ?_;clear F fa;intro fa F
    refine F.vl (Z3S (b:=false) rfl (F.at rfl) (ev_c fa _) (decide_eq_false ((by omega)))) ?_;clear F fa;intro fa F
    refine F.mv ?_;clear F fa;intro fa F
    refine F.vl (Z9 rfl (F.at rfl) Try.underlying28 rfl (n:=9) (sz:=1) rfl (by kernel_rfl) (by decide)) ?_ (hw:=(ZQ F rfl rfl (by decide) rfl));clear F fa;intro fa F
    refine F.vl (Zh rfl (F.at rfl) Try.underlying25 rfl ((Z0 q1 9).trans (getS (getS (getS (getS (getS (getS (getS (getS (getS (get0)))))))))))) ?_ (hw:=(ZQ F rfl rfl (by decide) rfl));clear F fa;intro fa F
    refine F.vl (Z1c rfl rfl (F.at rfl) Try.underlying25) ?_ (hw:=(ZQ F rfl rfl (by decide) rfl));clear F fa;intro fa F
    refine F.vl (Z3S (b:=false) rfl (F.at rfl) (ev_c fa _) (decide_eq_false ((by omega)))) ?_ (hw:=(ZQ F rfl rfl (by decide) rfl));clear F fa;intro fa F
    refine F.vl (Z0H rfl (F.at rfl) (F.at rfl)) ?_;clear F fa;intro fa F
    refine F.mv ?_;clear F fa;intro fa F
    refine F.vl (Z9 rfl (F.at rfl) Try.underlying28 rfl (n:=10) (sz:=1) rfl (by kernel_rfl) (by decide)) ?_ (hw:=(ZQ F rfl rfl (by decide) rfl));clear F fa;intro fa F
    refine F.vl (Zh rfl (F.at rfl) Try.underlying26 rfl ((Z0 q1 10).trans (getS (getS (getS (getS (getS (getS (getS (getS (getS (getS (get0))))))))))))) ?_ (hw:=(ZQ F rfl rfl (by decide) rfl));clear F fa;intro fa F
    refine F.vl (Z1c rfl rfl (F.at rfl) Try.underlying26) ?_ (hw:=(ZQ F rfl rfl (by decide) rfl));clear F fa;intro fa F
    refine F.vl (Z3S (b:=true) rfl (F.at rfl) (ev_c fa _) (decide_eq_true ((by omega)))) ?_ (hw:=(ZQ F rfl rfl (by decide) rfl));clear F fa;intro fa F
    refine F.vl (Z0H rfl (F.at rfl) (F.at rfl)) ?_;clear F fa;intro fa F
    refine F.as ?_;clear F fa;intro fa F
    refine wpList_nil ?_
    rw [decide_eq_true c3,Bool.or_true] at hl
    refine hK2 _ _ ?_
    clear hK2
    refine wp_ret ?_
    (try simp only [Exit.inBlock,Exit.then])
    refine rt_v F (rs_1 F rfl rfl) ?_
    exact ⟨congrArg (fun x=>Ending.returned (Value.bool x)) hl.symm,E⟩
   ·skip
    refine wp_region_lit ?_
    refine F.vl (Z9 rfl (F.at rfl) Try.underlying28 rfl (n:=8) (sz:=1) rfl (by kernel_rfl) (by decide)) ?_;clear F fa;intro fa F
    refine F.vl (Zh rfl (F.at rfl) Try.underlying24 rfl ((Z0 q1 8).trans (getS (getS (getS (getS (getS (getS (getS (getS (get0))))))))))) ?_;clear F fa;intro fa F
    refine F.vl (Z1c rfl rfl (F.at rfl) Try.underlying24) ?_;clear F fa;intro fa F
    refine F.vl (Z3S (b:=false) rfl (F.at rfl) (ev_c fa _) (decide_eq_false ((by omega)))) ?_;clear F fa;intro fa F
    refine F.mv ?_;clear F fa;intro fa F
    refine F.vl (Z9 rfl (F.at rfl) Try.underlying28 rfl (n:=9) (sz:=1) rfl (by kernel_rfl) (by decide)) ?_ (hw:=(ZQ F rfl rfl (by decide) rfl));clear F fa;intro fa F
    refine F.vl (Zh rfl (F.at rfl) Try.underlying25 rfl ((Z0 q1 9).trans (getS (getS (getS (getS (getS (getS (getS (getS (getS (get0)))))))))))) ?_ (hw:=(ZQ F rfl rfl (by decide) rfl));clear F fa;intro fa F
    refine F.vl (Z1c rfl rfl (F.at rfl) Try.underlying25) ?_ (hw:=(ZQ F rfl rfl (by decide) rfl));clear F fa;intro fa F
    refine F.vl (Z3S (b:=false) rfl (F.at rfl) (ev_c fa _) (decide_eq_false ((by omega)))) ?_ (hw:=(ZQ F rfl rfl (by decide) rfl));clear F fa;intro fa F
    refine F.vl (Z0H rfl (F.at rfl) (F.at rfl)) ?_;clear F fa;intro fa F
    refine F.mv ?_;clear F fa;intro fa F
    refine F.vl (Z9 rfl (F.at rfl) Try.underlying28 rfl (n:=10) (sz:=1) rfl (by kernel_rfl) (by decide)) ?_ (hw:=(ZQ F rfl rfl (by decide) rfl));clear F fa;intro fa F
    refine F.vl (Zh rfl (F.at rfl) Try.underlying26 rfl ((Z0 q1 10).trans (getS (getS (getS (getS (getS (getS (getS (getS (getS (getS (get0))))))))))))) ?_ (hw:=(ZQ F rfl rfl (by decide) rfl));clear F fa;intro fa F
    refine F.vl (Z1c rfl rfl (F.at rfl) Try.underlying26) ?_ (hw:=(ZQ F rfl rfl (by decide) rfl));clear F fa;intro fa F
    refine F.vl (Z3S (b:=false) rfl (F.at rfl) (ev_c fa _) (decide_eq_false ((by omega)))) ?_ (hw:=(ZQ F rfl rfl (by decide) rfl));clear F fa;intro fa F
    refine F.vl (Z0H rfl (F.at rfl) (F.at rfl)) ?_;clear F fa;intro fa F
    refine F.as ?_;clear F fa;intro fa F
    refine wpList_nil ?_
    rw [decide_eq_false c1,decide_eq_false c2,decide_eq_false c3] at hl
    refine hK2 _ _ ?_
    clear hK2
    refine wp_ret ?_
    (try simp only [Exit.inBlock,Exit.then])
    refine rt_v F (rs_1 F rfl rfl) ?_
    exact ⟨congrArg (fun x=>Ending.returned (Value.bool x)) hl.symm,E⟩
theorem Z9G {α:Type} {w:World} {b sz:Nat} {xs:List α} {row:α → List Value} {T:TypeId} {fz:Nat × Nat} (h:w.heap[b]? = some (.cells ((xs.map row).flatten).toArray T fz)) (hr:∀ x,(row x).length = sz):Z0E w (.slice (some ⟨b,0,none⟩) xs.length xs.length) sz (xs.map row):=by
 refine ⟨some ⟨b,0,none⟩,xs.length,by simp,fun x hx=>?_,fun _=>⟨b,0,rfl,Z7 h,fun i j x hi hj=>?_⟩⟩
 ·obtain ⟨y,-,rfl⟩:=List.mem_map.1 hx;exact hr y
 ·rw [Z0 h,Nat.zero_add,List.getElem?_toArray]
  exact Z3H hr xs i j x hi hj
theorem Zbi {w:World} {bs b:Nat} {x y z:Te} {T:TypeId} {fz:Nat × Nat} (h:w.heap[bs]? = some (.cells (([x,y,z].map Zbl).flatten).toArray T fz)) (hne:bs ≠ b) (hx:∀ W,Ext [b] w W → x.At W) (hy:∀ W,Ext [b] w W → y.At W) (hz:∀ W,Ext [b] w W → z.At W):∀ W,Ext [b] w W → TsAt W (some ⟨bs,0,none⟩) [x,y,z]:=
 fun W e=>⟨Z9G (e.keep h (by simp [hne])) (fun _=>rfl),fun u hu=>by
  simp only [List.mem_cons,List.not_mem_nil,or_false] at hu
  rcases hu with rfl | rfl | rfl
  ·exact hx W e
  ·exact hy W e
  ·exact hz W e⟩
theorem Zba {x y z:Te} (hx:x.Small) (hy:y.Small) (hz:z.Small):∀ u ∈ [x,y,z],u.Small:=fun u hu=>by
 simp only [List.mem_cons,List.not_mem_nil,or_false] at hu
 rcases hu with rfl | rfl | rfl
 ·exact hx
 ·exact hy
 ·exact hz
def Zbu (w0 w:World) (b k:Nat) (nv:Value) (e:Ending) (w':World):Prop:=
 ∃ a ts,e = .returned (.slice a ts.length ts.length) ∧ ts.length = 3 ∧ (∀ W,Ext [b] w' W → TsAt W a ts) ∧ (∀ x ∈ ts,x.Small) ∧ Z0v w0 w' b (k + 210) nv ∧ Ext [b] w w'
set_option maxRecDepth 100000 in
theorem Z72 (t:Tp) (ga ra la:Option Addr) (gc rc lc:Nat) (w0 w:World) (b k:Nat) (nv:Value) (HL:Z0v w0 w b k nv) (hk:k ≤ 1000) (h0:IsTp w0 (.slice ga t.gr.length gc) (.slice ra t.rd.length rc) (.slice la t.lk.length lc) t) (h1:t.gr.length ≤ 1000) (h2:t.rd.length ≤ 1000) (h3:t.lk.length ≤ 1000) :
  Calls Try.prog 26 #[tpV t (.slice ga t.gr.length gc) (.slice ra t.rd.length rc) (.slice la t.lk.length lc),.pointer (some ⟨b,0,none⟩)] w (Zbu w0 w b k nv):=by
 have hb:=HL.1
 have hws:w0.heap.size ≤ w.heap.size:=HL.2.2.1.size
 have E:Ext [b] w w:=Ext.refl _ _
 have hbw:b < w.heap.size:=Z0c HL
 have H0:=Lib.hid (show ∀ W,Ext [b] w W → IsTp W (.slice ga t.gr.length gc) (.slice ra t.rd.length rc) (.slice la t.lk.length lc) t from fun W hW=>h0.ext (HL.2.2.1.trans hW) (by simp;omega))
 clear h0
 unfold tpV
 refine Z01 26 Try.func26 rfl Try.ntmps26 (Nat.le_of_ble_eq_true rfl) ?_
 intro fa F
 refine wp_seq_k fun K1 hK1=>?_
 refine wp_region_lit ?_
 refine Z00 F rfl (by decide) rfl (Z0z rfl (F.at rfl)) ?_;clear F fa;intro fa w1 F hw
 obtain ⟨n2,hn⟩:∃ n,n = w.heap.size:=⟨_,rfl⟩
 rw [← hn] at F
 have s2:w.heap.size ≤ n2:=Nat.le_of_eq hn.symm
 have l2_E:w.heap.size ≤ n2:=by rw [hn];exact E.size
 have b2_HL:=Nat.lt_of_lt_of_eq (Z0c HL) hn.symm
 replace E:=Z2 E hw
 replace HL:=ZV hw HL
 have q2:=Zr hw hn
 clear hw hn
 refine F.vl (Z8 rfl (ev_c fa _)) ?_;clear F fa;intro fa F
 refine wpList_nil ?_
 refine hK1 _ _ ?_
 clear hK1
 refine wp_seq_k fun K2 hK2=>?_
 refine wp_region_lit ?_
 refine F.mv ?_;clear F fa;intro fa F
 have hbB:=Z0c HL
 obtain ⟨B0,hB0⟩:∃ B0,B0 = w1.heap.size:=⟨_,rfl⟩
 rw [← hB0] at hbB
 have hwB:w.heap.size ≤ B0:=by rw [hB0];exact E.size
 refine ZX F rfl (by decide) rfl (ZG rfl rfl Try.call46 (mpS (F.at rfl) mp0)) (Z6U w0 _ b _ _ HL (by omega)) fun e w2 hR=>?_
 obtain ⟨m,gv,rv,lv,rfl,hW,⟨og,orr,olk⟩,HL,e2⟩:=hR
 refine ⟨_,rfl,?_⟩;clear F fa;intro fa F
 replace q2:=(e2).keep q2 (by simp;omega)
 replace E:=E.trans' e2 (fun i hi hl=>by simp only [List.mem_cons,List.not_mem_nil,or_false] at hi ⊢;omega)
 have HO:=Lib.hid (show ∀ W,Ext [b] w2 W → IsTp W gv rv lv m from fun W hW=>Z3U (Zq og hW (by simp;omega)) (Zq orr hW (by simp;omega)) (Zq olk hW (by simp;omega)))
 clear hB0 hbB hwB
 obtain ⟨gma,gmc,rfl⟩:=Zs og
 obtain ⟨rma,rmc,rfl⟩:=Zs orr
 obtain ⟨lma,lmc,rfl⟩:=Zs olk
 clear og orr olk e2
 have hok:=hW.ok
 have hgl:=hok.grl
 have hS3:=hok.S3
 have hrl:=hW.rdl
 have hkl:=hW.lkl
 have EO:Ext [b] w2 w2:=Ext.refl _ _
 refine Z00 F rfl (by decide) rfl (ZB rfl Try.zeroValue28) ?_;clear F fa;intro fa w3 F hw
 obtain ⟨n5,hn⟩:∃ n,n = w2.heap.size:=⟨_,rfl⟩
 rw [← hn] at F
 have s5:w2.heap.size ≤ n5:=Nat.le_of_eq hn.symm
 have l5_E:w.heap.size ≤ n5:=by rw [hn];exact E.size
 have l5_EO:w2.heap.size ≤ n5:=by rw [hn];exact EO.size
 have b5_HL:=Nat.lt_of_lt_of_eq (Z0c HL) hn.symm
 have m5_2:n2 < n5:=by rw [hn];exact Z7 q2
 replace q2:=Z1 hw q2
 replace E:=Z2 E hw
 replace EO:=Z2 EO hw
 replace HL:=ZV hw HL
 have q5:=Zr hw hn
 clear hw hn
 refine Z1L rfl rfl (Zg rfl (F.at rfl) (F.at rfl) (by kernel_rfl) (by first | (simp [Value.oneCell'];done) | (simp [Value.oneCell',Z0K,Z0B,Z0L];done)) q5 rfl) ?_;intro w4 hw
 replace q2:=Z5 hw q2 (by omega)
 replace q5:=Zz hw q5 rfl
 replace E:=Za E hw (fun h=>by first | exact absurd h (by omega) | simp)
 replace EO:=Za EO hw (fun h=>by first | exact absurd h (by omega) | simp)
 replace HL:=Z0d hw HL (by omega) (by omega)
 clear hw
 refine wpList_nil ?_
 refine hK2 _ _ ?_
 clear hK2
 refine wp_seq_k fun K3 hK3=>?_
 refine wp_region_lit ?_
 refine F.vl (Zt rfl (F.at rfl) Try.underlying28 rfl (by kernel_rfl) q5) ?_;clear F fa;intro fa F
 have hbB:=Z0c HL
 refine ZX F rfl (by decide) rfl (ZG rfl rfl Try.call28 (mpS (F.at rfl) mp0)) (Z3L m gma rma lma gmc rmc lmc _ (HO.out _ EO) (by omega) (by omega) (by omega)) fun e w5 hR=>?_
 obtain ⟨gx,rx,lx,rfl,⟨ogx,orx,olx⟩,eX⟩:=hR
 refine ⟨_,rfl,?_⟩;clear F fa;intro fa F
 replace q2:=(eX).keep0 q2
 replace q5:=(eX).keep0 q5
 replace E:=Z4 E (eX)
 replace EO:=Z4 EO (eX)
 replace HL:=Z1V (eX) HL
 have HX:=Lib.hid (show ∀ W,Ext [b] w5 W → IsTp W gx rx lx m from fun W hW=>Z3U (Zq ogx hW (by simp;omega)) (Zq orx hW (by simp;omega)) (Zq olx hW (by simp;omega)))
 clear hbB
 obtain ⟨gxa,gxc,rfl⟩:=Zs ogx
 obtain ⟨rxa,rxc,rfl⟩:=Zs orx
 obtain ⟨lxa,lxc,rfl⟩:=Zs olx
 clear ogx orx olx eX
 have EX:Ext [b] w5 w5:=Ext.refl _ _
 refine Z00 F rfl (by decide) rfl (ZB rfl Try.zeroValue28) ?_;clear F fa;intro fa w6 F hw
 obtain ⟨n6,hn⟩:∃ n,n = w5.heap.size:=⟨_,rfl⟩
 rw [← hn] at F
 have s6:w5.heap.size ≤ n6:=Nat.le_of_eq hn.symm
 have l6_E:w.heap.size ≤ n6:=by rw [hn];exact E.size
 have l6_EO:w2.heap.size ≤ n6:=by rw [hn];exact EO.size
 have l6_EX:w5.heap.size ≤ n6:=by rw [hn];exact EX.size
 have b6_HL:=Nat.lt_of_lt_of_eq (Z0c HL) hn.symm
 have m6_2:n2 < n6:=by rw [hn];exact Z7 q2
 have m6_5:n5 < n6:=by rw [hn];exact Z7 q5
 replace q2:=Z1 hw q2
 replace q5:=Z1 hw q5
 replace E:=Z2 E hw
 replace EO:=Z2 EO hw
 replace EX:=Z2 EX hw
 replace HL:=ZV hw HL
 have q6:=Zr hw hn
 clear hw hn
 refine Z1L rfl rfl (Zg rfl (F.at rfl) (F.at rfl) (by kernel_rfl) (by first | (simp [Value.oneCell'];done) | (simp [Value.oneCell',Z0K,Z0B,Z0L];done)) q6 rfl) ?_;intro w7 hw
 replace q2:=Z5 hw q2 (by omega)
 replace q5:=Z5 hw q5 (by omega)
 replace q6:=Zz hw q6 rfl
 replace E:=Za E hw (fun h=>by first | exact absurd h (by omega) | simp)
 replace EO:=Za EO hw (fun h=>by first | exact absurd h (by omega) | simp)
 replace EX:=Za EX hw (fun h=>by first | exact absurd h (by omega) | simp)
 replace HL:=Z0d hw HL (by omega) (by omega)
 clear hw
 refine wpList_nil ?_
 refine hK3 _ _ ?_
 clear hK3
 refine wp_seq_k fun K4 hK4=>?_
 suffices hcut:∀ (z:Te) (fa:Act) (w16:World),Has 26 fa [(2,.pointer (some ⟨n2,0,none⟩)),(5,.pointer (some ⟨n5,0,none⟩)),(6,.pointer (some ⟨n6,0,none⟩))] → w16.heap[n2]? = some (.cells #[.int .i64 t.S,.int .i64 t.A,.int .i64 t.T,.int .i64 t.bl,.int .i64 t.bm,.int .i64 t.pl,.int .i64 t.pm,.int .i64 t.sl,.slice ga t.gr.length gc,.slice ra t.rd.length rc,.slice la t.lk.length lc] 28 (0,0)) → w16.heap[n5]? = some (.cells #[.int .i64 m.S,.int .i64 m.A,.int .i64 m.T,.int .i64 m.bl,.int .i64 m.bm,.int .i64 m.pl,.int .i64 m.pm,.int .i64 m.sl,.slice gma m.gr.length gmc,.slice rma m.rd.length rmc,.slice lma m.lk.length lmc] 28 (0,0)) → w16.heap[n6]? = some (.cells #[.int .i64 z.t.S,.int .i64 z.t.A,.int .i64 z.t.T,.int .i64 z.t.bl,.int .i64 z.t.bm,.int .i64 z.t.pl,.int .i64 z.t.pm,.int .i64 z.t.sl,.slice z.ga z.t.gr.length z.gc,.slice z.ra z.t.rd.length z.rc,.slice z.la z.t.lk.length z.lc] 28 (0,0)) → Ext [b] w w16 → Ext [b] w2 w16 → Ext [b] w5 w16 → Z0v w0 w16 b (k + 210) nv → (∀ W,Ext [b] w16 W → z.At W) → z.Small → K4 fa w16 by
  refine wp_seq_k fun K5 hK52=>?_
  refine wp_region_lit ?_
  refine F.mv ?_;clear F fa;intro fa F
  refine ZX F rfl (by decide) rfl (ZG rfl rfl Try.call69 (mpS (F.at rfl) (mpS (ev_c fa _) mp0))) (Z7m w0 _ b _ nv 2 HL (by omega) (by omega) (by omega)) fun e w8 hR=>?_
  obtain ⟨r,rfl,HL,e3⟩:=hR
  refine ⟨_,rfl,?_⟩;clear F fa;intro fa F
  replace q2:=(e3).keep q2 (by simp;omega)
  replace q5:=(e3).keep q5 (by simp;omega)
  replace q6:=(e3).keep q6 (by simp;omega)
  replace E:=E.trans' e3 (fun i hi hl=>by simp only [List.mem_cons,List.not_mem_nil,or_false] at hi ⊢;omega)
  replace EO:=EO.trans' e3 (fun i hi hl=>by simp only [List.mem_cons,List.not_mem_nil,or_false] at hi ⊢;omega)
  replace EX:=EX.trans' e3 (fun i hi hl=>by simp only [List.mem_cons,List.not_mem_nil,or_false] at hi ⊢;omega)
  replace HL:=Z0t HL (show _ ≤ k + 210 by omega)
  refine wpList_nil ?_
  refine hK52 _ _ ?_
  refine cd_b F rfl (fun hc12=>?_) (fun hc12=>?_)
  ·skip
   refine wp_region_lit ?_
   refine F.vl (Z9 rfl (F.at rfl) Try.underlying28 rfl (n:=9) (sz:=1) rfl (by kernel_rfl) (by decide)) ?_;clear F fa;intro fa F
   refine F.vl (Zh rfl (F.at rfl) Try.underlying25 rfl ((Z0 q2 9).trans (getS (getS (getS (getS (getS (getS (getS (getS (getS (get0)))))))))))) ?_;clear F fa;intro fa F
   refine F.vl (Z9 rfl (F.at rfl) Try.underlying28 rfl (n:=9) (sz:=1) rfl (by kernel_rfl) (by decide)) ?_;clear F fa;intro fa F
   refine Z1L rfl rfl (ZR rfl (F.at rfl) (F.at rfl) rfl (by kernel_rfl) ((Z0 q6 9).trans (getS (getS (getS (getS (getS (getS (getS (getS (getS (get0))))))))))) (Zl q6 9)) ?_;intro w9 hw
   replace q2:=ZA hw q2 (by omega)
   replace q5:=ZA hw q5 (by omega)
   replace q6:=ZK hw q6 (by simp only [List.setIfInBounds_toArray,ls,lz];exact rfl)
   replace E:=ZF E hw (fun h=>by first | exact absurd h (by omega) | simp)
   replace EO:=ZF EO hw (fun h=>by first | exact absurd h (by omega) | simp)
   replace EX:=ZF EX hw (fun h=>by first | exact absurd h (by omega) | simp)
   replace HL:=Z1p hw HL (by omega) (by omega)
   clear hw
   refine wpList_nil ?_
   exact hcut ⟨{ m with rd:=t.rd },gxa,gxc,ra,rc,lxa,lxc⟩ _ _ (F.sub (.c 2 rfl (.c 5 rfl (.c 6 rfl .n)))) q2 q5 q6 E EO EX HL (fun W hW=>⟨(HX.out _ (EX.trans hW)).gr,(H0.out _ (E.trans hW)).rd,(HX.out _ (EX.trans hW)).lk⟩) ⟨(by show m.gr.length ≤ 1000;omega),(by show t.rd.length ≤ 1000;omega),(by show m.lk.length ≤ 1000;omega)⟩
  ·skip
   suffices hcut:∀ (fa:Act) (w15:World),Has 26 fa [(2,.pointer (some ⟨n2,0,none⟩)),(5,.pointer (some ⟨n5,0,none⟩)),(6,.pointer (some ⟨n6,0,none⟩))] → w15.heap[n2]? = some (.cells #[.int .i64 t.S,.int .i64 t.A,.int .i64 t.T,.int .i64 t.bl,.int .i64 t.bm,.int .i64 t.pl,.int .i64 t.pm,.int .i64 t.sl,.slice ga t.gr.length gc,.slice ra t.rd.length rc,.slice la t.lk.length lc] 28 (0,0)) → w15.heap[n5]? = some (.cells #[.int .i64 m.S,.int .i64 m.A,.int .i64 m.T,.int .i64 m.bl,.int .i64 m.bm,.int .i64 m.pl,.int .i64 m.pm,.int .i64 m.sl,.slice gma m.gr.length gmc,.slice rma m.rd.length rmc,.slice lma m.lk.length lmc] 28 (0,0)) → w15.heap[n6]? = some (.cells #[.int .i64 m.S,.int .i64 m.A,.int .i64 m.T,.int .i64 m.bl,.int .i64 m.bm,.int .i64 m.pl,.int .i64 m.pm,.int .i64 t.sl,.slice gxa m.gr.length gxc,.slice rxa m.rd.length rxc,.slice la t.lk.length lc] 28 (0,0)) → Ext [b] w w15 → Ext [b] w2 w15 → Ext [b] w5 w15 → Z0v w0 w15 b (k + 210) nv → K4 fa w15 by
    refine Z0P (Ext [] w8) (some 5) follows fun w10 hh eh=>?_
    have q2_:=q2
    replace q2:=Zn hh q2
    have q5_:=q5
    replace q5:=Zn hh q5
    have q6_:=q6
    replace q6:=Zn hh q6
    have E_:=E
    have zEw10:=E.size
    replace E:=Z4 E eh
    have EO_:=EO
    have zEOw10:=EO.size
    replace EO:=Z4 EO eh
    have EX_:=EX
    have zEXw10:=EX.size
    replace EX:=Z4 EX eh
    have zbw10:=Z0c HL
    replace HL:=Z1V eh HL
    have eT:=eh
    clear hh eh
    refine F.x (i:=0) rfl (fun w'=>Z9 rfl (F.at rfl) Try.underlying28 rfl (n:=10) (sz:=1) rfl (by kernel_rfl) (by decide)) (fun _=>eT) ?_;clear F fa;intro fa F
    refine F.xr (i:=1) rfl (fun w' hS=>Zh rfl (F.at rfl) Try.underlying26 rfl ((Z0 (hS.keep q2_ (by simp)) 10).trans (getS (getS (getS (getS (getS (getS (getS (getS (getS (getS (get0))))))))))))) (fun _=>eT) ?_;clear F fa;intro fa F
    refine F.x (i:=2) rfl (fun w'=>Z9 rfl (F.at rfl) Try.underlying28 rfl (n:=7) (sz:=1) rfl (by kernel_rfl) (by decide)) (fun _=>eT) ?_;clear F fa;intro fa F
    refine F.x (i:=4) rfl (fun w'=>Z9 rfl (F.at rfl) Try.underlying28 rfl (n:=10) (sz:=1) rfl (by kernel_rfl) (by decide)) (fun _=>eT) ?_;clear F fa;intro fa F
    refine Z19 (i:=3) (j:=5) (by kernel_rfl) ?_ ?_
    ·skip
     refine (Zap F rfl rfl (by decide) rfl (Zh rfl (F.at rfl) Try.underlying3 rfl ((Z0 q2 7).trans (getS (getS (getS (getS (getS (getS (getS (get0)))))))))) ?_);clear F fa;intro fa F
     refine ⟨fun _=>eT,?_⟩
     refine Zv (i:=5) (by kernel_rfl) (Z0u rfl rfl rfl (ZR rfl (F.at rfl) (F.at rfl) rfl (by kernel_rfl) ((Z0 q6 10).trans (getS (getS (getS (getS (getS (getS (getS (getS (getS (getS (get0)))))))))))) (Zl q6 10)) ?_);intro w11 hw
     replace q2:=ZA hw q2 (by omega)
     replace q5:=ZA hw q5 (by omega)
     replace q6:=ZK hw q6 (by simp only [List.setIfInBounds_toArray,ls,lz];exact rfl)
     replace E:=ZF E hw (fun h=>by first | exact absurd h (by omega) | simp)
     replace EO:=ZF EO hw (fun h=>by first | exact absurd h (by omega) | simp)
     replace EX:=ZF EX hw (fun h=>by first | exact absurd h (by omega) | simp)
     replace HL:=Z1p hw HL (by omega) (by omega)
     clear hw
     refine ⟨gone (by kernel_rfl),?_⟩
     refine F.x (i:=6) rfl (fun w'=>Z9 rfl (F.at rfl) Try.underlying28 rfl (n:=7) (sz:=1) rfl (by kernel_rfl) (by decide)) (gone (by kernel_rfl)) ?_;clear F fa;intro fa F
     refine Zv (i:=7) (by kernel_rfl) (Z0u rfl rfl rfl (ZR rfl (F.at rfl) (F.at rfl) rfl (by kernel_rfl) ((Z0 q6 7).trans (getS (getS (getS (getS (getS (getS (getS (get0))))))))) (Zl q6 7)) ?_);intro w12 hw
     replace q2:=ZA hw q2 (by omega)
     replace q5:=ZA hw q5 (by omega)
     replace q6:=ZK hw q6 (by simp only [List.setIfInBounds_toArray,ls,lz];exact rfl)
     replace E:=ZF E hw (fun h=>by first | exact absurd h (by omega) | simp)
     replace EO:=ZF EO hw (fun h=>by first | exact absurd h (by omega) | simp)
     replace EX:=ZF EX hw (fun h=>by first | exact absurd h (by omega) | simp)
     replace HL:=Z1p hw HL (by omega) (by omega)
     clear hw
     refine ⟨gone (by kernel_rfl),?_⟩
     refine Z0a (by kernel_rfl) ?_ _
     exact hcut _ _ (F.sub (.c 2 rfl (.c 5 rfl (.c 6 rfl .n)))) q2 q5 q6 E EO EX HL
    ·skip
     refine (Z0u rfl rfl rfl (ZR rfl (F.at rfl) (F.at rfl) rfl (by kernel_rfl) ((Z0 q6 10).trans (getS (getS (getS (getS (getS (getS (getS (getS (getS (getS (get0)))))))))))) (Zl q6 10)) ?_);intro w13 hw
     replace q2:=ZA hw q2 (by omega)
     replace q5:=ZA hw q5 (by omega)
     replace q6:=ZK hw q6 (by simp only [List.setIfInBounds_toArray,ls,lz];exact rfl)
     replace E:=ZF E hw (fun h=>by first | exact absurd h (by omega) | simp)
     replace EO:=ZF EO hw (fun h=>by first | exact absurd h (by omega) | simp)
     replace EX:=ZF EX hw (fun h=>by first | exact absurd h (by omega) | simp)
     replace HL:=Z1p hw HL (by omega) (by omega)
     clear hw
     refine ⟨gone (by kernel_rfl),?_⟩
     refine Zv (i:=3) (by kernel_rfl) (Zap F rfl rfl (by decide) rfl (Zh rfl (F.at rfl) Try.underlying3 rfl ((Z0 q2 7).trans (getS (getS (getS (getS (getS (getS (getS (get0)))))))))) ?_);clear F fa;intro fa F
     refine ⟨gone (by kernel_rfl),?_⟩
     refine F.x (i:=6) rfl (fun w'=>Z9 rfl (F.at rfl) Try.underlying28 rfl (n:=7) (sz:=1) rfl (by kernel_rfl) (by decide)) (gone (by kernel_rfl)) ?_;clear F fa;intro fa F
     refine Zv (i:=7) (by kernel_rfl) (Z0u rfl rfl rfl (ZR rfl (F.at rfl) (F.at rfl) rfl (by kernel_rfl) ((Z0 q6 7).trans (getS (getS (getS (getS (getS (getS (getS (get0))))))))) (Zl q6 7)) ?_);intro w14 hw
     replace q2:=ZA hw q2 (by omega)
     replace q5:=ZA hw q5 (by omega)
     replace q6:=ZK hw q6 (by simp only [List.setIfInBounds_toArray,ls,lz];exact rfl)
     replace E:=ZF E hw (fun h=>by first | exact absurd h (by omega) | simp)
     replace EO:=ZF EO hw (fun h=>by first | exact absurd h (by omega) | simp)
     replace EX:=ZF EX hw (fun h=>by first | exact absurd h (by omega) | simp)
     replace HL:=Z1p hw HL (by omega) (by omega)
     clear hw
     refine ⟨gone (by kernel_rfl),?_⟩
     refine Z0a (by kernel_rfl) ?_ _
     exact hcut _ _ (F.sub (.c 2 rfl (.c 5 rfl (.c 6 rfl .n)))) q2 q5 q6 E EO EX HL
   clear F q2 q5 q6 E EO EX HL fa
   intro   fa w15 F q2 q5 q6 E EO EX HL
   exact hcut ⟨{ m with lk:=t.lk,sl:=t.sl },gxa,gxc,rxa,rxc,la,lc⟩ _ _ (F.sub (.c 2 rfl (.c 5 rfl (.c 6 rfl .n)))) q2 q5 q6 E EO EX HL (fun W hW=>⟨(HX.out _ (EX.trans hW)).gr,(HX.out _ (EX.trans hW)).rd,(H0.out _ (E.trans hW)).lk⟩) ⟨(by show m.gr.length ≤ 1000;omega),(by show m.rd.length ≤ 1000;omega),(by show t.lk.length ≤ 1000;omega)⟩
 clear F q2 q5 q6 E EO EX HL fa
 intro z fa w16 F q2 q5 q6 E EO EX HL hz hzs
 have EZ:Ext [b] w16 w16:=Ext.refl _ _
 refine hK4 _ _ ?_
 clear hK4
 refine wp_seq_k fun K6 hK6=>?_
 refine wp_region_lit ?_
 refine F.vl (Zt rfl (F.at rfl) Try.underlying28 rfl (by kernel_rfl) q2) ?_;clear F fa;intro fa F
 refine F.vl (Zt rfl (F.at rfl) Try.underlying28 rfl (by kernel_rfl) q5) ?_;clear F fa;intro fa F
 refine F.vl (Zt rfl (F.at rfl) Try.underlying28 rfl (by kernel_rfl) q6) ?_;clear F fa;intro fa F
 refine Z00 F rfl (by decide) rfl (Z09 rfl (prS (F.at rfl) (prS (F.at rfl) (prS (F.at rfl) pr0))) Try.underlying32 (size:=11) (by kernel_rfl) (by decide) (by decide) Try.zeroValue28 (cells:=#[.int .i64 t.S,.int .i64 t.A,.int .i64 t.T,.int .i64 t.bl,.int .i64 t.bm,.int .i64 t.pl,.int .i64 t.pm,.int .i64 t.sl,.slice ga t.gr.length gc,.slice ra t.rd.length rc,.slice la t.lk.length lc,.int .i64 m.S,.int .i64 m.A,.int .i64 m.T,.int .i64 m.bl,.int .i64 m.bm,.int .i64 m.pl,.int .i64 m.pm,.int .i64 m.sl,.slice gma m.gr.length gmc,.slice rma m.rd.length rmc,.slice lma m.lk.length lmc,.int .i64 z.t.S,.int .i64 z.t.A,.int .i64 z.t.T,.int .i64 z.t.bl,.int .i64 z.t.bm,.int .i64 z.t.pl,.int .i64 z.t.pm,.int .i64 z.t.sl,.slice z.ga z.t.gr.length z.gc,.slice z.ra z.t.rd.length z.rc,.slice z.la z.t.lk.length z.lc]) (by kernel_rfl)) ?_;clear F fa;intro fa w17 F hw
 obtain ⟨n25,hn⟩:∃ n,n = w16.heap.size:=⟨_,rfl⟩
 rw [← hn] at F
 have s25:w16.heap.size ≤ n25:=Nat.le_of_eq hn.symm
 have l25_E:w.heap.size ≤ n25:=by rw [hn];exact E.size
 have l25_EO:w2.heap.size ≤ n25:=by rw [hn];exact EO.size
 have l25_EX:w5.heap.size ≤ n25:=by rw [hn];exact EX.size
 have l25_EZ:w16.heap.size ≤ n25:=by rw [hn];exact EZ.size
 have b25_HL:=Nat.lt_of_lt_of_eq (Z0c HL) hn.symm
 have m25_2:n2 < n25:=by rw [hn];exact Z7 q2
 have m25_5:n5 < n25:=by rw [hn];exact Z7 q5
 have m25_6:n6 < n25:=by rw [hn];exact Z7 q6
 replace q2:=Z1 hw q2
 replace q5:=Z1 hw q5
 replace q6:=Z1 hw q6
 replace E:=Z2 E hw
 replace EO:=Z2 EO hw
 replace EX:=Z2 EX hw
 replace EZ:=Z2 EZ hw
 replace HL:=ZV hw HL
 have q25:=Zw hw hn
 clear hw hn
 refine F.as ?_;clear F fa;intro fa F
 refine wpList_nil ?_
 refine hK6 _ _ ?_
 clear hK6
 refine wp_ret ?_
 (try simp only [Exit.inBlock,Exit.then])
 refine rt_v F (rs_1 F rfl rfl) ?_
 exact ⟨some ⟨n25,0,none⟩,[⟨t,ga,gc,ra,rc,la,lc⟩,⟨m,gma,gmc,rma,rmc,lma,lmc⟩,z],rfl,rfl,Zbi q25 (by omega) (fun W hW=>H0.out _ (E.trans hW)) (fun W hW=>HO.out _ (EO.trans hW)) (fun W hW=>hz _ (EZ.trans hW)),Zba ⟨h1,h2,h3⟩ ⟨(by show m.gr.length ≤ 1000;omega),(by show m.rd.length ≤ 1000;omega),(by show m.lk.length ≤ 1000;omega)⟩ hzs,HL,E⟩
end Go.Proofs.Ytholfdgebdlgjaa
