/- Parts of a proof: LEnd, Fk, FrMeasureEnds, ClMeasureEnds. No conditions. -/
import Derived.Below
import Derived.ChangeOld
import Derived.ChangeSlices
import Derived.Conc.Holds
import Derived.Leaving
import Derived.OpenShut
import Derived.ProofKit
import Derived.ShutString
import Derived.WalkKit
import Derived.WideShapes
import Derived.Test.YtholfdgebdlgjaaPE1
import Derived.Test.YtholfdgebdlgjaaPE16
import Derived.Test.YtholfdgebdlgjaaPE18
set_option linter.unusedVariables false
set_option linter.unusedSimpArgs false
namespace Go.Proofs.Ytholfdgebdlgjaa
open Go.RowKit
theorem Z6f {t:Tp} {pe:Int → Int → Int} {M:List (Value × List Int)} (h:M.map (·.2) = endX t pe):M.length ≤ 1000 ∧ ∀ p ∈ M,p.2.length ≤ 1000:=by
 unfold endX at h
 by_cases c:Z0j t noX = 0
 ·obtain ⟨hL,-⟩:=Z1Z ((Z0G t).symm.trans c)
  have o2:=hL.ok.S3
  have o4:=hL.ok.A3
  rw [if_pos c] at h
  have hl:=congrArg List.length h
  simp only [List.length_map,endL,List.length_range] at hl
  refine ⟨by omega,fun p hp=>?_⟩
  have hm:p.2 ∈ endL t pe:=by rw [← h];exact List.mem_map.2 ⟨p,hp,rfl⟩
  obtain ⟨s,-,e⟩:=List.mem_map.1 hm
  rw [← e,List.length_map,List.length_range]
  omega
 ·rw [if_neg c] at h
  have hl:=congrArg List.length h
  simp only [List.length_map,List.length_nil] at hl
  obtain rfl:=List.length_eq_zero_iff.1 hl
  exact ⟨by simp,fun p hp=>by cases hp⟩
theorem Z52 (t:Tp) (po:Int → Int → Int):(Z5h t po).length ≤ 1000:=by
 unfold Z5h
 by_cases c:Z0j t noX = 0
 ·obtain ⟨hL,-⟩:=Z1Z ((Z0G t).symm.trans c)
  have o2:=hL.ok.T3
  rw [if_pos c,Zau,List.length_map,List.length_range]
  omega
 ·rw [if_neg c];simp
theorem Z9f {t:Tp} {M:List (Value × List Int)} (h:M.map (·.2) = (fixL t).map prL):M.length ≤ 1000 ∧ ∀ p ∈ M,p.2.length ≤ 1000:=by
 have hl:=congrArg List.length h
 simp only [List.length_map] at hl
 refine ⟨?_,fun p hp=>?_⟩
 ·rw [hl]
  unfold fixL
  by_cases c:fixE t = 0
  ·obtain ⟨hL,-⟩:=Z1Z ((Z0G t).symm.trans c)
   have o1:=hL.ok.S3
   have o2:=hL.ok.A3
   have h2:=Z3G (bdV t 0) t.A.toNat t.S.toNat
   have h4:t.A.toNat * t.S.toNat ≤ 3 * 3:=Nat.mul_le_mul (by omega) (by omega)
   rw [if_pos c]
   omega
  ·rw [if_neg c];simp
 ·have hm:p.2 ∈ (fixL t).map prL:=by rw [← h];exact List.mem_map.2 ⟨p,hp,rfl⟩
  obtain ⟨q,-,e⟩:=List.mem_map.1 hm
  rw [← e];simp [prL]
set_option maxRecDepth 100000 in
set_option maxHeartbeats 1000000 in
theorem Z8R (t:Tp) (ga ra la:Option Addr) (gc rc lc:Nat) (a1:Option Addr) (len1 cap1:Nat) (z1:List Int) (w:World) (ht:IsTp w (.slice ga t.gr.length gc) (.slice ra t.rd.length rc) (.slice la t.lk.length lc) t) (h3':Z62 .i64 w a1 len1 cap1 z1) :
  Calls Try.prog 21 #[tpV t (.slice ga t.gr.length gc) (.slice ra t.rd.length rc) (.slice la t.lk.length lc),.slice a1 len1 cap1] w fun e w'=>e = .returned (.bool true) ∧ Ext [] w w':=by
 have HN:=Lib.hid h3'
 have HT:=Lib.hid ht
 clear h3' ht
 have E:Ext [] w w:=Ext.refl _ _
 unfold tpV
 refine Z01 124 Try.func21 rfl Try.ntmps21 (Nat.le_of_ble_eq_true rfl) ?_
 intro fa F
 refine wp_seq_k fun K1 hK1=>?_
 refine wp_region_lit ?_
 refine Z00 F rfl (by decide) rfl (Z0z rfl (F.at rfl)) ?_;clear F fa;intro fa w1 F hw
 obtain ⟨n2,hn⟩:∃ n,n = w.heap.size:=⟨_,rfl⟩
 rw [← hn] at F
 have s2:w.heap.size ≤ n2:=Nat.le_of_eq hn.symm
 have l2_E:w.heap.size ≤ n2:=by rw [hn];exact E.size
 replace E:=Z2 E hw
 have q2:=Zr hw hn
 clear hw hn
 refine F.vl (Z8 rfl (ev_c fa _)) ?_;clear F fa;intro fa F
 refine wpList_nil ?_
 refine hK1 _ _ ?_
 clear hK1
 refine wp_seq_k fun K2 hK2=>?_
 refine wp_seq_k fun K3 hK3=>?_
 refine wp_region_lit ?_
 refine F.vl (Zt rfl (F.at rfl) Try.underlying28 rfl (by kernel_rfl) q2) ?_;clear F fa;intro fa F
 refine ZX F rfl (by decide) rfl (ZG rfl rfl Try.call24 (mpS (F.at rfl) mp0)) (Za9 t ga ra la gc rc lc _) fun e w2 hR=>?_
 obtain ⟨rfl,e9⟩:=hR
 refine ⟨_,rfl,?_⟩;clear F fa;intro fa F
 replace q2:=(e9).keep0 q2
 replace E:=Z4 E (e9)
 clear e9
 refine wpList_nil ?_
 refine hK3 _ _ ?_
 clear hK3
 refine cd_b F rfl (fun hc15=>?_) (fun hc15=>?_)
 ·skip
  refine wp_seq_k fun K4 hK4=>?_
  refine wp_region_lit ?_
  refine ZX F rfl (by decide) rfl (ZG rfl rfl Try.call25 mp0) (Z6j _) fun e w3 hR=>?_
  obtain ⟨rfl,e9⟩:=hR
  refine ⟨_,rfl,?_⟩;clear F fa;intro fa F
  replace q2:=(e9).keep0 q2
  replace E:=Z4 E (e9)
  clear e9
  refine F.as ?_;clear F fa;intro fa F
  refine wpList_nil ?_
  refine hK4 _ _ ?_
  clear hK4
  refine wp_ret ?_
  (try simp only [Exit.inBlock,Exit.then])
  refine rt_v F (rs_1 F rfl rfl) ?_
  exact ⟨rfl,E⟩
 ·skip
  obtain ⟨hl1,hl2,hl3⟩:=Zaa (by simpa using hc15)
  refine wp_skip ?_
  refine hK2 _ _ ?_
  clear hK2
  refine wp_seq_k fun K5 hK5=>?_
  refine Z0P (Ext [] w2) none follows fun w4 hh eh=>?_
  have q2_:=q2
  replace q2:=Zn hh q2
  have E_:=E
  have zEw4:=E.size
  replace E:=Z4 E eh
  have eT:=eh
  clear hh eh
  refine F.xr (i:=0) rfl (fun w' hS=>Zt rfl (F.at rfl) Try.underlying28 rfl (by kernel_rfl) (hS.keep q2_ (by simp))) (fun _=>eT) ?_;clear F fa;intro fa F
  refine F.x (i:=1) rfl (fun w'=>Zi rfl (F.at rfl)) (fun _=>eT) ?_;clear F fa;intro fa F
  have E0:=E
  have hzE:=E.size
  have hzT:=eT.size
  have hzq:=Z7 q2
  refine Zv (i:=2) (by kernel_rfl) (Z07 F rfl rfl (by decide) rfl (ZG rfl rfl Try.call27 (mpS (F.at rfl) mp0)) (Z6T _ a1 len1 cap1 z1 (ZaZ HN.out E)) fun e w5 hR=>?_)
  obtain ⟨b,rfl,hb,hb2,HL,e1⟩:=hR
  refine ⟨_,rfl,?_⟩;clear F fa;intro fa F
  replace q2:=(e1).keep0 q2
  replace E:=Z4 E (e1)
  replace eT:=Z4 eT (e1)
  clear e1
  refine ⟨fun _=>eT,?_⟩
  refine Zv (i:=3) (by kernel_rfl) (Z07 F rfl rfl (by decide) rfl (ZG rfl rfl Try.call26 (mpS (F.at rfl) (mpS (F.at rfl) mp0))) (Z72 t ga ra la gc rc lc _ _ b _ _ HL (by omega) (HT.out.ext E0 (by simp)) (by omega) (by omega) (by omega)) fun e w6 hR=>?_)
  obtain ⟨sa,ts,rfl,h3,hTs,hSm,HL,e2⟩:=hR
  refine ⟨_,rfl,?_⟩;clear F fa;intro fa F
  replace q2:=(e2).keep q2 (by simp;omega)
  replace E:=E.trans' e2 (fun i hi hl=>by simp only [List.mem_cons,List.not_mem_nil,or_false] at hi ⊢;omega)
  replace eT:=eT.trans' e2 (fun i hi hl=>by simp only [List.mem_cons,List.not_mem_nil,or_false] at hi ⊢;omega)
  refine ⟨fun _=>eT,?_⟩
  have hT0:=hTs _ (Ext.refl _ _)
  have HS:=Lib.hid (Z0C hT0.rows te0)
  have HA:=Lib.hid (show ∀ i,i < ts.length → (tsI ts i).At w6 from fun i hi=>ZbE hT0 hi)
  have HM:=Lib.hid (show ∀ i,i < ts.length → (tsI ts i).Small from fun i hi=>hSm _ (Z0m te0 hi))
  clear hT0 hTs hSm HL
  have EO:Ext [] w6 w6:=Ext.refl _ _
  refine F.x (i:=4) rfl (fun w'=>Z8 rfl (F.at rfl)) (fun _=>eT) ?_;clear F fa;intro fa F
  refine Z0a (by kernel_rfl) ?_ _
  clear eT q2_ E_
  refine hK5 _ _ ?_
  clear hK5
  refine wp_seq_k fun K6 hK6=>?_
  refine wp_seq_k fun K7 hK7=>?_
  refine wp_region_lit ?_
  refine F.vl (Z8 rfl (ev_c fa _)) ?_;clear F fa;intro fa F
  refine wpList_nil ?_
  refine hK7 _ _ ?_
  clear hK7
  refine wp_block ?_
  have F0:=F.sub (.c 5 rfl .n)
  refine Z0U F0 (ts.length) (fun i Lv W=>Lv = [(6,.int .i64 ((i:Nat):Int))] ∧ Ext [] w6 W) ⟨_,⟨rfl,Ext.refl _ _⟩,F.sub (.c 6 rfl (.c 5 rfl .n))⟩ ?_
  clear F F0
  rintro i _ fa w7 hi1 ⟨rfl,EL1⟩ F
  have q2:=EL1.keep0 q2
  have E:=E.nil EL1
  have EO:=EO.nil EL1
  refine wp_seq_k fun K8 hK8=>?_
  refine wp_seq_k fun K9 hK9=>?_
  refine wp_region_lit ?_
  refine F.mv ?_;clear F fa;intro fa F
  refine F.mv ?_;clear F fa;intro fa F
  refine F.vl (Z1c rfl rfl (F.at rfl) Try.underlying32) ?_;clear F fa;intro fa F
  refine F.vl (Z1d rfl (F.at rfl) (F.at rfl)) ?_;clear F fa;intro fa F
  refine wpList_nil ?_
  refine hK9 _ _ ?_
  clear hK9
  refine Z0J F rfl (fun hc24=>?_) (fun hc24=>?_)
  ·skip
   refine wp_skip ?_
   refine hK8 _ _ ?_
   clear hK8
   refine wp_seq_k fun K10 hK10=>?_
   refine wp_block ?_
   refine wp_seq_k fun K11 hK11=>?_
   obtain ⟨m1,m2,m3⟩:=HM.out i (by omega)
   refine wp_region_lit ?_
   refine F.mv ?_;clear F fa;intro fa F
   refine F.mv ?_;clear F fa;intro fa F
   obtain ⟨xb12,xo12,xa12,xr12⟩:=HS.out i (by omega)
   refine F.vl (ZJ (sz:=11) rfl ((F.at rfl).trans (xa12 _ _)) (F.at rfl) Try.underlying32 (by kernel_rfl) (by omega) (by omega)) ?_;clear F fa;intro fa F
   refine F.vl (ZP rfl (F.at rfl) Try.underlying28 rfl (by kernel_rfl) (xr12 _ EO)) ?_;clear F fa;intro fa F
   refine ZX F rfl (by decide) rfl (ZG rfl rfl Try.call28 (mpS (F.at rfl) mp0)) (Z3L (tsI ts i).t (tsI ts i).ga (tsI ts i).ra (tsI ts i).la (tsI ts i).gc (tsI ts i).rc (tsI ts i).lc _ ((HA.out i (by omega)).ext EO (by simp)) m1 m2 m3) fun e w8 hR=>?_
   obtain ⟨gx,rx,lx,rfl,⟨ogx,orx,olx⟩,eX⟩:=hR
   refine ⟨_,rfl,?_⟩;clear F fa;intro fa F
   replace q2:=(eX).keep0 q2
   replace E:=Z4 E (eX)
   replace EO:=Z4 EO (eX)
   replace EL1:=Z4 EL1 (eX)
   have hTx:=Z3U ogx orx olx
   obtain ⟨gxa,gxc,rfl⟩:=Zs ogx
   obtain ⟨rxa,rxc,rfl⟩:=Zs orx
   obtain ⟨lxa,lxc,rfl⟩:=Zs olx
   clear ogx orx olx eX
   have HX:=Lib.hid hTx
   clear hTx
   have EX:Ext [] w8 w8:=Ext.refl _ _
   obtain ⟨nn,hnn⟩:=Zbr (tsI ts i).t
   refine Z00 F rfl (by decide) rfl (ZB rfl Try.zeroValue28) ?_;clear F fa;intro fa w9 F hw
   obtain ⟨n7,hn⟩:∃ n,n = w8.heap.size:=⟨_,rfl⟩
   rw [← hn] at F
   have s7:w8.heap.size ≤ n7:=Nat.le_of_eq hn.symm
   have l7_E:w.heap.size ≤ n7:=by rw [hn];exact E.size
   have l7_EO:w6.heap.size ≤ n7:=by rw [hn];exact EO.size
   have l7_EL1:w6.heap.size ≤ n7:=by rw [hn];exact EL1.size
   have l7_EX:w8.heap.size ≤ n7:=by rw [hn];exact EX.size
   have m7_2:n2 < n7:=by rw [hn];exact Z7 q2
   replace q2:=Z1 hw q2
   replace E:=Z2 E hw
   replace EO:=Z2 EO hw
   replace EL1:=Z2 EL1 hw
   replace EX:=Z2 EX hw
   have q7:=Zr hw hn
   clear hw hn
   refine Z1L rfl rfl (Zg rfl (F.at rfl) (F.at rfl) (by kernel_rfl) (by first | (simp [Value.oneCell'];done) | (simp [Value.oneCell',Z0K,Z0B,Z0L];done)) q7 rfl) ?_;intro w10 hw
   replace q2:=Z5 hw q2 (by omega)
   replace q7:=Zz hw q7 rfl
   replace E:=Za E hw (fun h=>by first | exact absurd h (by omega) | simp)
   replace EO:=Za EO hw (fun h=>by first | exact absurd h (by omega) | simp)
   replace EL1:=Za EL1 hw (fun h=>by first | exact absurd h (by omega) | simp)
   replace EX:=Za EX hw (fun h=>by first | exact absurd h (by omega) | simp)
   clear hw
   refine wpList_nil ?_
   refine hK11 _ _ ?_
   clear hK11
   refine wp_seq_k fun K13 hK13=>?_
   refine wp_region_lit ?_
   refine F.vl (Zt rfl (F.at rfl) Try.underlying28 rfl (by kernel_rfl) q7) ?_;clear F fa;intro fa F
   refine ZX F rfl (by decide) rfl (ZG rfl rfl Try.call65 (mpS (F.at rfl) mp0)) (Z93 (tsI ts i).t _ _ _ _ _ _ _ (HX.out.ext EX (by simp)) m1 m2 m3) fun e w11 hR=>?_
   obtain ⟨L1p,P1p,a1p,p1p,c1p,d1p,rfl,hL1p,hP1p,hS1p,hR1p,hI1p,eX⟩:=hR
   refine ⟨_,rfl,?_⟩;clear F fa;intro fa F
   replace q2:=(eX).keep0 q2
   replace q7:=(eX).keep0 q7
   replace E:=Z4 E (eX)
   replace EO:=Z4 EO (eX)
   replace EL1:=Z4 EL1 (eX)
   replace EX:=Z4 EX (eX)
   have HL1p:Hid (Z4G w11 a1p L1p):=⟨hS1p,hR1p⟩
   have HI1p:=Lib.hid hI1p
   clear hS1p hR1p hI1p
   have EP1p:Ext [] w11 w11:=Ext.refl _ _
   refine F.mv ?_;clear F fa;intro fa F
   refine F.vl (Zm rfl (F.at rfl) (get0)) ?_;clear F fa;intro fa F
   refine F.vl (Zm rfl (F.at rfl) (getS (get0))) ?_;clear F fa;intro fa F
   refine F.vl (Zm rfl (F.at rfl) (getS (getS (get0)))) ?_;clear F fa;intro fa F
   refine F.as ?_;clear F fa;intro fa F
   refine F.as ?_;clear F fa;intro fa F
   refine F.as ?_;clear F fa;intro fa F
   refine wpList_nil ?_
   refine hK13 _ _ ?_
   clear hK13
   refine wp_seq_k fun K14 hK14=>?_
   refine wp_region_lit ?_
   refine F.mv ?_;clear F fa;intro fa F
   refine F.mv ?_;clear F fa;intro fa F
   obtain ⟨xb15,xo15,xa15,xr15⟩:=HS.out i (by omega)
   refine F.vl (ZJ (sz:=11) rfl ((F.at rfl).trans (xa15 _ _)) (F.at rfl) Try.underlying32 (by kernel_rfl) (by omega) (by omega)) ?_;clear F fa;intro fa F
   refine F.vl (ZP rfl (F.at rfl) Try.underlying28 rfl (by kernel_rfl) (xr15 _ EO)) ?_;clear F fa;intro fa F
   refine ZX F rfl (by decide) rfl (ZG rfl rfl Try.call71 (mpS (F.at rfl) mp0)) (Z68 (tsI ts i).t (tsI ts i).ga (tsI ts i).ra (tsI ts i).la (tsI ts i).gc (tsI ts i).rc (tsI ts i).lc _ ((HA.out i (by omega)).ext EO (by simp)) m1 m2 m3 hnn) fun e w12 hR=>?_
   obtain ⟨L1r,P1r,a1r,p1r,c1r,d1r,rfl,hL1r,hP1r,hS1r,hR1r,hI1r,eX⟩:=hR
   refine ⟨_,rfl,?_⟩;clear F fa;intro fa F
   replace q2:=(eX).keep0 q2
   replace q7:=(eX).keep0 q7
   replace E:=Z4 E (eX)
   replace EO:=Z4 EO (eX)
   replace EL1:=Z4 EL1 (eX)
   replace EX:=Z4 EX (eX)
   replace EP1p:=Z4 EP1p (eX)
   have HL1r:Hid (Z4G w12 a1r L1r):=⟨hS1r,hR1r⟩
   have HI1r:=Lib.hid hI1r
   clear hS1r hR1r hI1r
   have EP1r:Ext [] w12 w12:=Ext.refl _ _
   refine F.mv ?_;clear F fa;intro fa F
   refine F.vl (Zm rfl (F.at rfl) (get0)) ?_;clear F fa;intro fa F
   refine F.vl (Zm rfl (F.at rfl) (getS (get0))) ?_;clear F fa;intro fa F
   refine F.vl (Zm rfl (F.at rfl) (getS (getS (get0)))) ?_;clear F fa;intro fa F
   refine F.as ?_;clear F fa;intro fa F
   refine F.as ?_;clear F fa;intro fa F
   refine F.as ?_;clear F fa;intro fa F
   refine wpList_nil ?_
   refine hK14 _ _ ?_
   clear hK14
   refine wp_seq_k fun K16 hK16=>?_
   refine wp_seq_k fun K17 hK17=>?_
   obtain ⟨z1,z2⟩:=Z6f hL1r
   have z3:=Z52 (tsI ts i).t sndI
   have z4:P1p = P1r:=hP1p.trans hP1r.symm
   have z5:P1r.length ≤ 1000:=by rw [hP1r];exact z3
   refine wp_region_lit ?_
   refine F.mv ?_;clear F fa;intro fa F
   refine F.mv ?_;clear F fa;intro fa F
   refine F.vl (Z2l (b:=false) rfl (F.at rfl) (F.at rfl) (decide_eq_true ((by omega)))) ?_;clear F fa;intro fa F
   refine F.mv ?_;clear F fa;intro fa F
   refine F.mv ?_ (hw:=(ZQ F rfl rfl (by decide) rfl));clear F fa;intro fa F
   refine F.mv ?_ (hw:=(ZQ F rfl rfl (by decide) rfl));clear F fa;intro fa F
   refine ZX F rfl (by decide) (ZQ F rfl rfl (by decide) rfl) (ZG rfl rfl Try.call72 (mpS (F.at rfl) (mpS (F.at rfl) mp0))) (Z2Q L1p L1r (hL1p.trans hL1r.symm) z2 z1 _ _ _ _ _ (HL1p.out.ext EP1p) (HL1r.out.ext EP1r)) fun e w13 hR=>?_
   obtain ⟨rfl,e9⟩:=hR
   refine ⟨_,rfl,?_⟩;clear F fa;intro fa F
   replace q2:=(e9).keep0 q2
   replace q7:=(e9).keep0 q7
   replace E:=Z4 E (e9)
   replace EO:=Z4 EO (e9)
   replace EL1:=Z4 EL1 (e9)
   replace EX:=Z4 EX (e9)
   replace EP1p:=Z4 EP1p (e9)
   replace EP1r:=Z4 EP1r (e9)
   clear e9
   refine F.vl (Z45 rfl (F.at rfl)) ?_ (hw:=(ZQ F rfl rfl (by decide) rfl));clear F fa;intro fa F
   refine F.vl (Z0H rfl (F.at rfl) (F.at rfl)) ?_;clear F fa;intro fa F
   refine F.mv ?_;clear F fa;intro fa F
   refine F.mv ?_ (hw:=(ZQ F rfl rfl (by decide) rfl));clear F fa;intro fa F
   refine F.mv ?_ (hw:=(ZQ F rfl rfl (by decide) rfl));clear F fa;intro fa F
   refine ZX F rfl (by decide) (ZQ F rfl rfl (by decide) rfl) (ZG rfl rfl Try.call50 (mpS (F.at rfl) (mpS (F.at rfl) mp0))) (Z2w P1p P1r _ _ _ _ _ (HI1p.out.ext EP1p (by simp)) (HI1r.out.ext EP1r (by simp)) (by rw [z4];omega) (by omega)) fun e w14 hR=>?_
   obtain ⟨rfl,e9⟩:=hR
   refine ⟨_,rfl,?_⟩;clear F fa;intro fa F
   replace q2:=(e9).keep0 q2
   replace q7:=(e9).keep0 q7
   replace E:=Z4 E (e9)
   replace EO:=Z4 EO (e9)
   replace EL1:=Z4 EL1 (e9)
   replace EX:=Z4 EX (e9)
   replace EP1p:=Z4 EP1p (e9)
   replace EP1r:=Z4 EP1r (e9)
   clear e9
   rw [decide_eq_true z4] at F
   refine F.vl (Z45 rfl (F.at rfl)) ?_ (hw:=(ZQ F rfl rfl (by decide) rfl));clear F fa;intro fa F
   refine F.vl (Z0H rfl (F.at rfl) (F.at rfl)) ?_;clear F fa;intro fa F
   refine wpList_nil ?_
   refine hK17 _ _ ?_
   clear hK17
   refine cd_F F rfl ?_
   refine wp_skip ?_
   refine hK16 _ _ ?_
   clear hK16
   refine wp_seq_k fun K18 hK18=>?_
   refine wp_region_lit ?_
   refine F.vl (Zt rfl (F.at rfl) Try.underlying28 rfl (by kernel_rfl) q7) ?_;clear F fa;intro fa F
   refine ZX F rfl (by decide) rfl (ZG rfl rfl Try.call66 (mpS (F.at rfl) mp0)) (Z9N (tsI ts i).t _ _ _ _ _ _ _ (HX.out.ext EX (by simp)) m1 m2 m3) fun e w15 hR=>?_
   obtain ⟨L2p,P2p,a2p,p2p,c2p,d2p,rfl,hL2p,hP2p,hS2p,hR2p,hI2p,eX⟩:=hR
   refine ⟨_,rfl,?_⟩;clear F fa;intro fa F
   replace q2:=(eX).keep0 q2
   replace q7:=(eX).keep0 q7
   replace E:=Z4 E (eX)
   replace EO:=Z4 EO (eX)
   replace EL1:=Z4 EL1 (eX)
   replace EX:=Z4 EX (eX)
   replace EP1p:=Z4 EP1p (eX)
   replace EP1r:=Z4 EP1r (eX)
   have HL2p:Hid (Z4G w15 a2p L2p):=⟨hS2p,hR2p⟩
   have HI2p:=Lib.hid hI2p
   clear hS2p hR2p hI2p
   have EP2p:Ext [] w15 w15:=Ext.refl _ _
   refine F.mv ?_;clear F fa;intro fa F
   refine F.vl (Zm rfl (F.at rfl) (get0)) ?_;clear F fa;intro fa F
   refine F.vl (Zm rfl (F.at rfl) (getS (get0))) ?_;clear F fa;intro fa F
   refine F.vl (Zm rfl (F.at rfl) (getS (getS (get0)))) ?_;clear F fa;intro fa F
   refine F.as ?_;clear F fa;intro fa F
   refine F.as ?_;clear F fa;intro fa F
   refine F.as ?_;clear F fa;intro fa F
   refine wpList_nil ?_
   refine hK18 _ _ ?_
   clear hK18
   refine wp_seq_k fun K19 hK19=>?_
   refine wp_region_lit ?_
   refine F.mv ?_;clear F fa;intro fa F
   refine F.mv ?_;clear F fa;intro fa F
   obtain ⟨xb20,xo20,xa20,xr20⟩:=HS.out i (by omega)
   refine F.vl (ZJ (sz:=11) rfl ((F.at rfl).trans (xa20 _ _)) (F.at rfl) Try.underlying32 (by kernel_rfl) (by omega) (by omega)) ?_;clear F fa;intro fa F
   refine F.vl (ZP rfl (F.at rfl) Try.underlying28 rfl (by kernel_rfl) (xr20 _ EO)) ?_;clear F fa;intro fa F
   refine ZX F rfl (by decide) rfl (ZG rfl rfl Try.call73 (mpS (F.at rfl) mp0)) (Z6L (tsI ts i).t (tsI ts i).ga (tsI ts i).ra (tsI ts i).la (tsI ts i).gc (tsI ts i).rc (tsI ts i).lc _ ((HA.out i (by omega)).ext EO (by simp)) m1 m2 m3 hnn) fun e w16 hR=>?_
   obtain ⟨L2r,P2r,a2r,p2r,c2r,d2r,rfl,hL2r,hP2r,hS2r,hR2r,hI2r,eX⟩:=hR
   refine ⟨_,rfl,?_⟩;clear F fa;intro fa F
   replace q2:=(eX).keep0 q2
   replace q7:=(eX).keep0 q7
   replace E:=Z4 E (eX)
   replace EO:=Z4 EO (eX)
   replace EL1:=Z4 EL1 (eX)
   replace EX:=Z4 EX (eX)
   replace EP1p:=Z4 EP1p (eX)
   replace EP1r:=Z4 EP1r (eX)
   replace EP2p:=Z4 EP2p (eX)
   have HL2r:Hid (Z4G w16 a2r L2r):=⟨hS2r,hR2r⟩
   have HI2r:=Lib.hid hI2r
   clear hS2r hR2r hI2r
   have EP2r:Ext [] w16 w16:=Ext.refl _ _
   refine F.mv ?_;clear F fa;intro fa F
   refine F.vl (Zm rfl (F.at rfl) (get0)) ?_;clear F fa;intro fa F
   refine F.vl (Zm rfl (F.at rfl) (getS (get0))) ?_;clear F fa;intro fa F
   refine F.vl (Zm rfl (F.at rfl) (getS (getS (get0)))) ?_;clear F fa;intro fa F
   refine F.as ?_;clear F fa;intro fa F
   refine F.as ?_;clear F fa;intro fa F
   refine F.as ?_;clear F fa;intro fa F
   refine wpList_nil ?_
   refine hK19 _ _ ?_
   clear hK19
   refine wp_seq_k fun K21 hK21=>?_
   refine wp_seq_k fun K22 hK22=>?_
   obtain ⟨z1,z2⟩:=Z6f hL2r
   have z3:=Z52 (tsI ts i).t fstI
   have z4:P2p = P2r:=hP2p.trans hP2r.symm
   have z5:P2r.length ≤ 1000:=by rw [hP2r];exact z3
   replace F:=F.sub (.c 5 rfl (.c 6 rfl (.c 7 rfl (.c 8 rfl (.c 9 rfl (.c 10 rfl (.c 11 rfl (.c 12 rfl (.c 13 rfl .n)))))))))
   clear q2
   refine wp_region_lit ?_
   refine F.mv ?_;clear F fa;intro fa F
   refine F.mv ?_;clear F fa;intro fa F
   refine F.vl (Z2l (b:=false) rfl (F.at rfl) (F.at rfl) (decide_eq_true ((by omega)))) ?_;clear F fa;intro fa F
   refine F.mv ?_;clear F fa;intro fa F
   refine F.mv ?_ (hw:=(ZQ F rfl rfl (by decide) rfl));clear F fa;intro fa F
   refine F.mv ?_ (hw:=(ZQ F rfl rfl (by decide) rfl));clear F fa;intro fa F
   refine ZX F rfl (by decide) (ZQ F rfl rfl (by decide) rfl) (ZG rfl rfl Try.call72 (mpS (F.at rfl) (mpS (F.at rfl) mp0))) (Z2Q L2p L2r (hL2p.trans hL2r.symm) z2 z1 _ _ _ _ _ (HL2p.out.ext EP2p) (HL2r.out.ext EP2r)) fun e w17 hR=>?_
   obtain ⟨rfl,e9⟩:=hR
   refine ⟨_,rfl,?_⟩;clear F fa;intro fa F
   replace q7:=(e9).keep0 q7
   replace E:=Z4 E (e9)
   replace EO:=Z4 EO (e9)
   replace EL1:=Z4 EL1 (e9)
   replace EX:=Z4 EX (e9)
   replace EP1p:=Z4 EP1p (e9)
   replace EP1r:=Z4 EP1r (e9)
   replace EP2p:=Z4 EP2p (e9)
   replace EP2r:=Z4 EP2r (e9)
   clear e9
   refine F.vl (Z45 rfl (F.at rfl)) ?_ (hw:=(ZQ F rfl rfl (by decide) rfl));clear F fa;intro fa F
   refine F.vl (Z0H rfl (F.at rfl) (F.at rfl)) ?_;clear F fa;intro fa F
   refine F.mv ?_;clear F fa;intro fa F
   refine F.mv ?_ (hw:=(ZQ F rfl rfl (by decide) rfl));clear F fa;intro fa F
   refine F.mv ?_ (hw:=(ZQ F rfl rfl (by decide) rfl));clear F fa;intro fa F
   refine ZX F rfl (by decide) (ZQ F rfl rfl (by decide) rfl) (ZG rfl rfl Try.call50 (mpS (F.at rfl) (mpS (F.at rfl) mp0))) (Z2w P2p P2r _ _ _ _ _ (HI2p.out.ext EP2p (by simp)) (HI2r.out.ext EP2r (by simp)) (by rw [z4];omega) (by omega)) fun e w18 hR=>?_
   obtain ⟨rfl,e9⟩:=hR
   refine ⟨_,rfl,?_⟩;clear F fa;intro fa F
   replace q7:=(e9).keep0 q7
   replace E:=Z4 E (e9)
   replace EO:=Z4 EO (e9)
   replace EL1:=Z4 EL1 (e9)
   replace EX:=Z4 EX (e9)
   replace EP1p:=Z4 EP1p (e9)
   replace EP1r:=Z4 EP1r (e9)
   replace EP2p:=Z4 EP2p (e9)
   replace EP2r:=Z4 EP2r (e9)
   clear e9
   rw [decide_eq_true z4] at F
   refine F.vl (Z45 rfl (F.at rfl)) ?_ (hw:=(ZQ F rfl rfl (by decide) rfl));clear F fa;intro fa F
   refine F.vl (Z0H rfl (F.at rfl) (F.at rfl)) ?_;clear F fa;intro fa F
   refine wpList_nil ?_
   refine hK22 _ _ ?_
   clear hK22
   refine cd_F F rfl ?_
   refine wp_skip ?_
   refine hK21 _ _ ?_
   clear hK21
   refine wp_seq_k fun K23 hK23=>?_
   refine wp_region_lit ?_
   refine F.vl (Zt rfl (F.at rfl) Try.underlying28 rfl (by kernel_rfl) q7) ?_;clear F fa;intro fa F
   refine ZX F rfl (by decide) rfl (ZG rfl rfl Try.call61 (mpS (F.at rfl) mp0)) (Z8H (tsI ts i).t _ _ _ _ _ _ _ (HX.out.ext EX (by simp)) m1 m2 m3) fun e w19 hR=>?_
   obtain ⟨L3p,a3p,c3p,rfl,hL3p,hS3p,eX⟩:=hR
   refine ⟨_,rfl,?_⟩;clear F fa;intro fa F
   replace q7:=(eX).keep0 q7
   replace E:=Z4 E (eX)
   replace EO:=Z4 EO (eX)
   replace EL1:=Z4 EL1 (eX)
   replace EX:=Z4 EX (eX)
   replace EP1p:=Z4 EP1p (eX)
   replace EP1r:=Z4 EP1r (eX)
   replace EP2p:=Z4 EP2p (eX)
   replace EP2r:=Z4 EP2r (eX)
   have HL3p:=Lib.hid hS3p
   clear hS3p
   have EP3p:Ext [] w19 w19:=Ext.refl _ _
   refine F.mv ?_;clear F fa;intro fa F
   refine F.vl (Zm rfl (F.at rfl) (get0)) ?_;clear F fa;intro fa F
   refine F.vl (Zm rfl (F.at rfl) (getS (get0))) ?_;clear F fa;intro fa F
   refine F.as ?_;clear F fa;intro fa F
   refine F.as ?_;clear F fa;intro fa F
   refine wpList_nil ?_
   refine hK23 _ _ ?_
   clear hK23
   refine wp_seq_k fun K24 hK24=>?_
   refine wp_region_lit ?_
   refine F.mv ?_;clear F fa;intro fa F
   refine F.mv ?_;clear F fa;intro fa F
   obtain ⟨xb25,xo25,xa25,xr25⟩:=HS.out i (by omega)
   refine F.vl (ZJ (sz:=11) rfl ((F.at rfl).trans (xa25 _ _)) (F.at rfl) Try.underlying32 (by kernel_rfl) (by omega) (by omega)) ?_;clear F fa;intro fa F
   refine F.vl (ZP rfl (F.at rfl) Try.underlying28 rfl (by kernel_rfl) (xr25 _ EO)) ?_;clear F fa;intro fa F
   refine ZX F rfl (by decide) rfl (ZG rfl rfl Try.call74 (mpS (F.at rfl) mp0)) (Z6r (tsI ts i).t hnn (tsI ts i).ga (tsI ts i).ra (tsI ts i).la (tsI ts i).gc (tsI ts i).rc (tsI ts i).lc _ ((HA.out i (by omega)).ext EO (by simp)) m1 m2 m3) fun e w20 hR=>?_
   obtain ⟨L3r,a3r,c3r,rfl,hL3r,hS3r,eX⟩:=hR
   refine ⟨_,rfl,?_⟩;clear F fa;intro fa F
   replace q7:=(eX).keep0 q7
   replace E:=Z4 E (eX)
   replace EO:=Z4 EO (eX)
   replace EL1:=Z4 EL1 (eX)
   replace EX:=Z4 EX (eX)
   replace EP1p:=Z4 EP1p (eX)
   replace EP1r:=Z4 EP1r (eX)
   replace EP2p:=Z4 EP2p (eX)
   replace EP2r:=Z4 EP2r (eX)
   replace EP3p:=Z4 EP3p (eX)
   have HL3r:=Lib.hid hS3r
   clear hS3r
   have EP3r:Ext [] w20 w20:=Ext.refl _ _
   refine F.mv ?_;clear F fa;intro fa F
   refine F.vl (Zm rfl (F.at rfl) (get0)) ?_;clear F fa;intro fa F
   refine F.vl (Zm rfl (F.at rfl) (getS (get0))) ?_;clear F fa;intro fa F
   refine F.as ?_;clear F fa;intro fa F
   refine F.as ?_;clear F fa;intro fa F
   refine wpList_nil ?_
   refine hK24 _ _ ?_
   clear hK24
   refine wp_seq_k fun K26 hK26=>?_
   obtain ⟨z1,z2⟩:=Z9f hL3r
   refine Z0P (Ext [] w20) none follows fun w21 hh eh=>?_
   have q7_:=q7
   replace q7:=Zn hh q7
   have E_:=E
   have zEw21:=E.size
   replace E:=Z4 E eh
   have EO_:=EO
   have zEOw21:=EO.size
   replace EO:=Z4 EO eh
   have EL1_:=EL1
   have zEL1w21:=EL1.size
   replace EL1:=Z4 EL1 eh
   have EX_:=EX
   have zEXw21:=EX.size
   replace EX:=Z4 EX eh
   have EP1p_:=EP1p
   have zEP1pw21:=EP1p.size
   replace EP1p:=Z4 EP1p eh
   have EP1r_:=EP1r
   have zEP1rw21:=EP1r.size
   replace EP1r:=Z4 EP1r eh
   have EP2p_:=EP2p
   have zEP2pw21:=EP2p.size
   replace EP2p:=Z4 EP2p eh
   have EP2r_:=EP2r
   have zEP2rw21:=EP2r.size
   replace EP2r:=Z4 EP2r eh
   have EP3p_:=EP3p
   have zEP3pw21:=EP3p.size
   replace EP3p:=Z4 EP3p eh
   have EP3r_:=EP3r
   have zEP3rw21:=EP3r.size
   replace EP3r:=Z4 EP3r eh
   have eT:=eh
   clear hh eh
   refine F.x (i:=0) rfl (fun w'=>Zi rfl (F.at rfl)) (fun _=>eT) ?_;clear F fa;intro fa F
   refine F.x (i:=1) rfl (fun w'=>Zi rfl (F.at rfl)) (fun _=>eT) ?_;clear F fa;intro fa F
   refine F.x (i:=2) rfl (fun w'=>Z2l (b:=false) rfl (F.at rfl) (F.at rfl) (decide_eq_true ((by omega)))) (fun _=>eT) ?_;clear F fa;intro fa F
   refine F.x (i:=3) rfl (fun w'=>Zi rfl (F.at rfl)) (fun _=>eT) ?_;clear F fa;intro fa F
   refine F.x (i:=4) rfl (fun w'=>Zi rfl (F.at rfl)) (fun _=>eT) ?_ (hw:=(ZQ F rfl rfl (by decide) rfl));clear F fa;intro fa F
   refine F.x (i:=5) rfl (fun w'=>Zi rfl (F.at rfl)) (fun _=>eT) ?_ (hw:=(ZQ F rfl rfl (by decide) rfl));clear F fa;intro fa F
   refine Zv (i:=6) (by kernel_rfl) (Z07 F rfl rfl (by decide) (ZQ F rfl rfl (by decide) rfl) (ZG rfl rfl Try.call72 (mpS (F.at rfl) (mpS (F.at rfl) mp0))) (Z2Q L3p L3r (hL3p.trans hL3r.symm) z2 z1 _ _ _ _ _ (HL3p.out.ext EP3p) (HL3r.out.ext EP3r)) fun e w22 hR=>?_)
   obtain ⟨rfl,e9⟩:=hR
   refine ⟨_,rfl,?_⟩;clear F fa;intro fa F
   replace q7:=(e9).keep0 q7
   replace E:=Z4 E (e9)
   replace EO:=Z4 EO (e9)
   replace EL1:=Z4 EL1 (e9)
   replace EX:=Z4 EX (e9)
   replace EP1p:=Z4 EP1p (e9)
   replace EP1r:=Z4 EP1r (e9)
   replace EP2p:=Z4 EP2p (e9)
   replace EP2r:=Z4 EP2r (e9)
   replace EP3p:=Z4 EP3p (e9)
   replace EP3r:=Z4 EP3r (e9)
   replace eT:=Z4 eT (e9)
   clear e9
   refine ⟨fun _=>eT,?_⟩
   refine F.x (i:=7) rfl (fun w'=>Z45 rfl (F.at rfl)) (fun _=>eT) ?_ (hw:=(ZQ F rfl rfl (by decide) rfl));clear F fa;intro fa F
   refine F.x (i:=8) rfl (fun w'=>Z0H rfl (F.at rfl) (F.at rfl)) (fun _=>eT) ?_;clear F fa;intro fa F
   refine F.x (i:=9) rfl (fun w'=>Zi rfl (F.at rfl)) (fun _=>eT) ?_;clear F fa;intro fa F
   refine F.xr (i:=10) rfl (fun w' hS=>Zt rfl (F.at rfl) Try.underlying28 rfl (by kernel_rfl) (hS.keep q7_ (by simp))) (fun _=>eT) ?_ (hw:=(ZQ F rfl rfl (by decide) rfl));clear F fa;intro fa F
   refine F.x (i:=11) rfl (fun w'=>Zi rfl (F.at rfl)) (fun _=>eT) ?_ (hw:=(ZQ F rfl rfl (by decide) rfl));clear F fa;intro fa F
   refine F.x (i:=12) rfl (fun w'=>Zi rfl (F.at rfl)) (fun _=>eT) ?_ (hw:=(ZQ F rfl rfl (by decide) rfl));clear F fa;intro fa F
   obtain ⟨xb27,xo27,xa27,xr27⟩:=HS.out i (by omega)
   refine F.x (i:=13) rfl (fun w'=>ZJ (sz:=11) rfl ((F.at rfl).trans (xa27 _ _)) (F.at rfl) Try.underlying32 (by kernel_rfl) (by omega) (by omega)) (fun _=>eT) ?_ (hw:=(ZQ F rfl rfl (by decide) rfl));clear F fa;intro fa F
   refine F.xr (i:=14) rfl (fun w' hS=>ZP rfl (F.at rfl) Try.underlying28 rfl (by kernel_rfl) (xr27 _ (EO_.nil hS))) (fun _=>eT) ?_ (hw:=(ZQ F rfl rfl (by decide) rfl));clear F fa;intro fa F
   refine Zv (i:=15) (by kernel_rfl) (Z07 F rfl rfl (by decide) (ZQ F rfl rfl (by decide) rfl) (ZG rfl rfl Try.call37 (mpS (F.at rfl) (mpS (F.at rfl) mp0))) (Z5E (tsI ts i).t gxa rxa lxa (tsI ts i).ga (tsI ts i).ra (tsI ts i).la gxc rxc lxc (tsI ts i).gc (tsI ts i).rc (tsI ts i).lc _ (HX.out.ext EX (by simp)) ((HA.out i (by omega)).ext EO (by simp)) m1 m2 m3) fun e w23 hR=>?_)
   obtain ⟨rfl,e9⟩:=hR
   refine ⟨_,rfl,?_⟩;clear F fa;intro fa F
   replace q7:=(e9).keep0 q7
   replace E:=Z4 E (e9)
   replace EO:=Z4 EO (e9)
   replace EL1:=Z4 EL1 (e9)
   replace EX:=Z4 EX (e9)
   replace EP1p:=Z4 EP1p (e9)
   replace EP1r:=Z4 EP1r (e9)
   replace EP2p:=Z4 EP2p (e9)
   replace EP2r:=Z4 EP2r (e9)
   replace EP3p:=Z4 EP3p (e9)
   replace EP3r:=Z4 EP3r (e9)
   replace eT:=Z4 eT (e9)
   clear e9
   refine ⟨fun _=>eT,?_⟩
   refine F.x (i:=16) rfl (fun w'=>Z45 rfl (F.at rfl)) (fun _=>eT) ?_ (hw:=(ZQ F rfl rfl (by decide) rfl));clear F fa;intro fa F
   refine F.x (i:=17) rfl (fun w'=>Z0H rfl (F.at rfl) (F.at rfl)) (fun _=>eT) ?_;clear F fa;intro fa F
   refine Z0a (by kernel_rfl) ?_ _
   clear eT q7_ E_ EO_ EL1_ EX_ EP1p_ EP1r_ EP2p_ EP2r_ EP3p_ EP3r_
   refine hK26 _ _ ?_
   clear hK26
   refine cd_F F rfl ?_
   refine wp_skip ?_
   refine hK10 _ _ ?_
   clear hK10
   refine wp_region_lit ?_
   refine F.mv ?_;clear F fa;intro fa F
   refine F.vl (Z0F rfl (F.at rfl) (ev_c fa _) (by omega) (by omega)) ?_;clear F fa;intro fa F
   refine F.as ?_;clear F fa;intro fa F
   refine wpList_nil ?_
   show _ ∧ _
   exact ⟨by omega,_,⟨rfl,EL1⟩,F.sub (.c 6 rfl (.c 5 rfl .n))⟩
  ·skip
   refine wp_exit ?_
   refine hK6 _ _ ?_
   clear hK6
   refine wp_seq_k fun K28 hK28=>?_
   refine wp_region_lit ?_
   refine ZX F rfl (by decide) rfl (ZG rfl rfl Try.call25 mp0) (Z6j _) fun e w24 hR=>?_
   obtain ⟨rfl,e9⟩:=hR
   refine ⟨_,rfl,?_⟩;clear F fa;intro fa F
   replace q2:=(e9).keep0 q2
   replace E:=Z4 E (e9)
   replace EO:=Z4 EO (e9)
   clear e9
   refine F.as ?_;clear F fa;intro fa F
   refine wpList_nil ?_
   refine hK28 _ _ ?_
   clear hK28
   refine wp_ret ?_
   (try simp only [Exit.inBlock,Exit.then])
   refine rt_v F (rs_1 F rfl rfl) ?_
   exact ⟨rfl,E⟩
end Go.Proofs.Ytholfdgebdlgjaa
namespace Go.Proofs.Ytholfdgebdlgjaa
open Go.ChangeShapes Go.WideShapes
section
variable {H:Type} {enc:TypeId × Value → H} {P:Program} {w:World}
theorem Z2W {t:TypeId} {fs:Array Field} {base fuel:Nat} {spare:Nat → Bool} {held:Bool} {cs:List Value} {x:DataW H × List MemPlace} (ht:P.underlying t = some (.struct fs)) (hsz:P.cellsOf t = fs.size)
  (hf:∀ (i:Nat) (f:Field),fs[i]? = some f → P.underlying f.type = some (.int .i64) ∧ P.cellsOf f.type = 1 ∧ f.offset = i) (h:DataW.trod enc P w base spare held fuel t cs = some x) :
  ∃ zs:List Int,cs = zs.map (Value.int .i64) ∧ zs.length = fs.size:=by
 obtain ⟨xs,n,-,-,hl,hxl,hx⟩:=DataW.trod_struct ht h
 have each:∀ i:Nat,i < fs.size → ∃ m:Int,cs[i]? = some (.int .i64 m):=by
  intro i hi
  have hg:fs[i]? = some fs[i]:=Array.getElem?_eq_getElem hi
  obtain ⟨f1,f2,f3⟩:=hf i _ hg
  have hq:=hx i _ hg
  rw [f2,f3,List.getElem?_eq_getElem (by omega)] at hq
  obtain ⟨m,hm,-,-⟩:=DataW.trod_int f1 hq
  exact ⟨m,cell_of_cut hm⟩
 refine ⟨cs.map fun v=>match v with | .int _ m=>m | _=>0,?_,by simp [hl,hsz]⟩
 rw [List.map_map]
 refine List.ext_getElem? fun i=>?_
 by_cases hi:i < fs.size
 ·obtain ⟨m,hm⟩:=each i hi
  rw [List.getElem?_map,hm];rfl
 ·rw [List.getElem?_eq_none (by omega),List.getElem?_eq_none (by simp;omega)]
theorem Z4B {t e:TypeId} {fuel sz:Nat} {cs:List Value} {x:DataW H × List MemPlace} (ht:P.underlying t = some (.slice e)) (hsz:P.cellsOf e = sz) (h0:0 < sz)
  (hE:∀ n cs y,DataW.trod enc P w 0 (fun _=>true) true n e cs = some y → ∃ zs:List Int,cs = zs.map (Value.int .i64) ∧ zs.length = sz)
  (h:DataW.trod enc P w 0 (fun _=>true) true fuel t cs = some x) :
  ∃ (a:Option Addr) (c:Nat) (rows:List (List Int)),cs = [.slice a rows.length c] ∧ (∀ r ∈ rows,r.length = sz) ∧ Z0E w (.slice a rows.length c) sz (rows.map (List.map (Value.int .i64))):=by
 rcases DataW.trod_slice ht h with ⟨rfl,-⟩ | ⟨a,len,cap,elems,rest,n,-,rfl,-,-,-,-,hlen,hel,-,-⟩
 ·exact ⟨none,0,[],rfl,by simp,⟨none,0,rfl,by simp,fun h=>absurd rfl h⟩⟩
 have each:∀ i,∃ zs:List Int,i < len → zs.length = sz ∧ ∀ j,j < sz → w.cell? ((a.add (i * sz)).add j) = (zs.map (Value.int .i64))[j]?:=by
  intro i
  by_cases hi:i < len
  ·have hq:=hel i hi
   rw [List.getElem?_eq_getElem (by omega),Option.bind_eq_some_iff] at hq
   obtain ⟨ci,h1,h2⟩:=hq
   obtain ⟨zs,rfl,hz⟩:=hE _ _ _ h2
   rw [hsz] at h1
   exact ⟨zs,fun _=>⟨hz,(World.cells?_some h1).2.2⟩⟩
  ·exact ⟨[],fun h=>absurd h hi⟩
 obtain ⟨f,hf⟩:∃ f:Nat → List Int,∀ i,i < len → (f i).length = sz ∧ ∀ j,j < sz → w.cell? ((a.add (i * sz)).add j) = ((f i).map (Value.int .i64))[j]?:=⟨fun i=>Classical.choose (each i),fun i=>Classical.choose_spec (each i)⟩
 have hL:((List.range len).map f).length = len:=by simp
 refine ⟨some a,cap,(List.range len).map f,by rw [hL],?_,?_⟩
 ·intro r hr
  obtain ⟨i,hi,rfl⟩:=List.mem_map.1 hr
  exact (hf i (List.mem_range.1 hi)).1
 ·refine ⟨some a,cap,by simp,?_,fun hne=>?_⟩
  ·intro r hr
   obtain ⟨r',hr',rfl⟩:=List.mem_map.1 hr
   obtain ⟨i,hi,rfl⟩:=List.mem_map.1 hr'
   rw [List.length_map]
   exact (hf i (List.mem_range.1 hi)).1
  ·have hp:0 < len:=by
    rcases Nat.eq_zero_or_pos len with rfl | h
    ·exact absurd rfl hne
    ·exact h
   obtain ⟨l0,c0⟩:=hf 0 hp
   have c00:=c0 0 h0
   have ha0:(a.add (0 * sz)).add 0 = a:=by rw [Nat.zero_mul];rfl
   rw [ha0,List.getElem?_eq_getElem (by simp;omega)] at c00
   obtain ⟨b,off,spot⟩:=a
   have hs:spot = none:=by
    cases spot with
    | none=>rfl
    | some k =>
     unfold World.cell? at c00
     split at c00 <;> simp at c00
   subst hs
   have hb:b < w.heap.size:=by
    unfold World.cell? at c00
    cases hq:w.heap[b]? with
    | none=>simp [hq] at c00
    | some o=>exact (Array.getElem?_eq_some_iff.1 hq).1
   refine ⟨b,off,rfl,hb,fun i j r hi hj=>?_⟩
   have hil:i < len:=by have:=(List.getElem?_eq_some_iff.1 hi).1;simpa using this
   have hr:r = (f i).map (Value.int .i64):=by simpa [hil] using hi.symm
   have:=(hf i hil).2 j hj
   rw [add_plain,add_plain] at this
   rw [this,hr]
end
theorem Zbb:∀ (rows:List (List Int)),(∀ r ∈ rows,r.length = 2) → ∃ gr:List (Int × Int),gr.length = rows.length ∧ rows.map (List.map (Value.int .i64)) = gr.map Z0K
 | [],_=>⟨[],rfl,rfl⟩
 | r :: rows,h=>by
  obtain ⟨gr,h1,h2⟩:=Zbb rows fun x hx=>h x (List.mem_cons_of_mem _ hx)
  match r,h r (List.mem_cons_self ..) with
  | [a,b],_=>exact ⟨(a,b) :: gr,by simp [h1],by simp [h2,Z0K]⟩
theorem Zb5:∀ (rows:List (List Int)),(∀ r ∈ rows,r.length = 4) → ∃ gr:List (Int × Int × Int × Int),gr.length = rows.length ∧ rows.map (List.map (Value.int .i64)) = gr.map Z0B
 | [],_=>⟨[],rfl,rfl⟩
 | r :: rows,h=>by
  obtain ⟨gr,h1,h2⟩:=Zb5 rows fun x hx=>h x (List.mem_cons_of_mem _ hx)
  match r,h r (List.mem_cons_self ..) with
  | [a,b,c,d],_=>exact ⟨(a,b,c,d) :: gr,by simp [h1],by simp [h2,Z0B]⟩
theorem Zbq:∀ (rows:List (List Int)),(∀ r ∈ rows,r.length = 6) → ∃ gr:List (Int × Int × Int × Int × Int × Int),gr.length = rows.length ∧ rows.map (List.map (Value.int .i64)) = gr.map Z0L
 | [],_=>⟨[],rfl,rfl⟩
 | r :: rows,h=>by
  obtain ⟨gr,h1,h2⟩:=Zbq rows fun x hx=>h x (List.mem_cons_of_mem _ hx)
  match r,h r (List.mem_cons_self ..) with
  | [a,b,c,d,e,f],_=>exact ⟨(a,b,c,d,e,f) :: gr,by simp [h1],by simp [h2,Z0L]⟩
theorem ZfK4:Try.prog.cellsOf 3 = 1:=by kernel_rfl
theorem Zbp {l:List Value} (h:l.length = 11):∃ c0 c1 c2 c3 c4 c5 c6 c7 c8 c9 c10,l = [c0,c1,c2,c3,c4,c5,c6,c7,c8,c9,c10]:=by
 match l,h with
 | [c0,c1,c2,c3,c4,c5,c6,c7,c8,c9,c10],_=>exact ⟨_,_,_,_,_,_,_,_,_,_,_,rfl⟩
theorem Z5n {H:Type} {enc:TypeId × Value → H} {w:World} (n:Nat) (cs:List Value) (y:DataW H × List MemPlace) (h:DataW.trod enc Try.prog w 0 (fun _=>true) true n 23 cs = some y):∃ zs:List Int,cs = zs.map (Value.int .i64) ∧ zs.length = 2:=
 Z2W Try.underlying23 (by kernel_rfl) (by intro i f h;rcases i with _ | _ | i <;> simp at h <;> subst h <;> exact ⟨Try.underlying3,ZfK4,rfl⟩) h
theorem Zav {H:Type} {enc:TypeId × Value → H} {w:World} (n:Nat) (cs:List Value) (y:DataW H × List MemPlace) (h:DataW.trod enc Try.prog w 0 (fun _=>true) true n 66 cs = some y):∃ zs:List Int,cs = zs.map (Value.int .i64) ∧ zs.length = 4:=
 Z2W Try.underlying66 (by kernel_rfl) (by intro i f h;rcases i with _ | _ | _ | _ | i <;> simp at h <;> subst h <;> exact ⟨Try.underlying3,ZfK4,rfl⟩) h
theorem ZbD {l:List Value} (h:l.length = 6):∃ c0 c1 c2 c3 c4 c5,l = [c0,c1,c2,c3,c4,c5]:=by
 match l,h with
 | [c0,c1,c2,c3,c4,c5],_=>exact ⟨_,_,_,_,_,_,rfl⟩
theorem Z2y {H:Type} {enc:TypeId × Value → H} {w:World} {m:Nat} (c:Value) (y:DataW H × List MemPlace) (h:DataW.trod enc Try.prog w 0 (fun _=>true) true m 3 [c] = some y):∃ k:Int,c = .int .i64 k:=by
 obtain ⟨k,hk,-,-⟩:=DataW.trod_int Try.underlying3 h
 simp at hk
 exact ⟨k,hk⟩
theorem Zay {H:Type} {enc:TypeId × Value → H} {w:World} (n:Nat) (cs:List Value) (y:DataW H × List MemPlace) (h:DataW.trod enc Try.prog w 0 (fun _=>true) true n 75 cs = some y):∃ zs:List Int,cs = zs.map (Value.int .i64) ∧ zs.length = 6:=by
 obtain ⟨xs,m,-,-,hl,hxl,hx⟩:=DataW.trod_struct Try.underlying75 h
 obtain ⟨c0,c1,c2,c3,c4,c5,rfl⟩:=ZbD (hl.trans (by kernel_rfl))
 have get:∀ i:Nat,i < 5 → ∃ y,xs[i]? = some y:=fun i hi=>⟨_,List.getElem?_eq_getElem (by rw [hxl];exact hi)⟩
 obtain ⟨y0,e0⟩:=get 0 (by omega)
 obtain ⟨y1,e1⟩:=get 1 (by omega)
 obtain ⟨y2,e2⟩:=get 2 (by omega)
 obtain ⟨y3,e3⟩:=get 3 (by omega)
 obtain ⟨y4,e4⟩:=get 4 (by omega)
 have u0:DataW.trod enc Try.prog w 0 (fun _=>true) true m 3 (([c0,c1,c2,c3,c4,c5].drop 0).take (Try.prog.cellsOf 3)) = some y0:=(hx 0 _ rfl).trans e0
 have u1:DataW.trod enc Try.prog w 0 (fun _=>true) true m 3 (([c0,c1,c2,c3,c4,c5].drop 1).take (Try.prog.cellsOf 3)) = some y1:=(hx 1 _ rfl).trans e1
 have u2:DataW.trod enc Try.prog w 0 (fun _=>true) true m 3 (([c0,c1,c2,c3,c4,c5].drop 2).take (Try.prog.cellsOf 3)) = some y2:=(hx 2 _ rfl).trans e2
 have u3:DataW.trod enc Try.prog w 0 (fun _=>true) true m 3 (([c0,c1,c2,c3,c4,c5].drop 3).take (Try.prog.cellsOf 3)) = some y3:=(hx 3 _ rfl).trans e3
 have u4:DataW.trod enc Try.prog w 0 (fun _=>true) true m 23 (([c0,c1,c2,c3,c4,c5].drop 4).take (Try.prog.cellsOf 23)) = some y4:=(hx 4 _ rfl).trans e4
 have d2:Try.prog.cellsOf 23 = 2:=by kernel_rfl
 simp only [ZfK4,d2,List.drop_succ_cons,List.drop_zero,List.take_succ_cons,List.take_zero] at u0 u1 u2 u3 u4
 obtain ⟨a0,rfl⟩:=Z2y _ _ u0
 obtain ⟨a1,rfl⟩:=Z2y _ _ u1
 obtain ⟨a2,rfl⟩:=Z2y _ _ u2
 obtain ⟨a3,rfl⟩:=Z2y _ _ u3
 obtain ⟨bd,hbd,hbl⟩:=Z5n _ _ _ u4
 match bd,hbl with
 | [b1,b2],_ =>
  simp only [List.map_cons,List.map_nil,List.cons.injEq,and_true] at hbd
  obtain ⟨rfl,rfl⟩:=hbd
  exact ⟨[a0,a1,a2,a3,b1,b2],rfl,rfl⟩
theorem Z7B {H:Type} {enc:TypeId × Value → H} {w:World} {n:Nat} {cs:List Value} {y:DataW H × List MemPlace} (h:DataW.trod enc Try.prog w 0 (fun _=>true) true n 28 cs = some y) :
  ∃ (t:Tp) (ga ra la:Option Addr) (gc rc lc:Nat),cs = [.int .i64 t.S,.int .i64 t.A,.int .i64 t.T,.int .i64 t.bl,.int .i64 t.bm,.int .i64 t.pl,.int .i64 t.pm,.int .i64 t.sl,.slice ga t.gr.length gc,.slice ra t.rd.length rc,.slice la t.lk.length lc] ∧
   IsTp w (.slice ga t.gr.length gc) (.slice ra t.rd.length rc) (.slice la t.lk.length lc) t:=by
 obtain ⟨xs,m,-,-,hl,hxl,hx⟩:=DataW.trod_struct Try.underlying28 h
 obtain ⟨c0,c1,c2,c3,c4,c5,c6,c7,c8,c9,c10,rfl⟩:=Zbp (hl.trans (by kernel_rfl))
 have get:∀ i:Nat,i < 9 → ∃ y,xs[i]? = some y:=fun i hi=>⟨_,List.getElem?_eq_getElem (by rw [hxl];exact hi)⟩
 obtain ⟨y0,e0⟩:=get 0 (by omega)
 obtain ⟨y1,e1⟩:=get 1 (by omega)
 obtain ⟨y2,e2⟩:=get 2 (by omega)
 obtain ⟨y3,e3⟩:=get 3 (by omega)
 obtain ⟨y4,e4⟩:=get 4 (by omega)
 obtain ⟨y5,e5⟩:=get 5 (by omega)
 obtain ⟨y6,e6⟩:=get 6 (by omega)
 obtain ⟨y7,e7⟩:=get 7 (by omega)
 obtain ⟨y8,e8⟩:=get 8 (by omega)
 have u0:DataW.trod enc Try.prog w 0 (fun _=>true) true m 3 (([c0,c1,c2,c3,c4,c5,c6,c7,c8,c9,c10].drop 0).take (Try.prog.cellsOf 3)) = some y0:=(hx 0 _ rfl).trans e0
 have u1:DataW.trod enc Try.prog w 0 (fun _=>true) true m 3 (([c0,c1,c2,c3,c4,c5,c6,c7,c8,c9,c10].drop 1).take (Try.prog.cellsOf 3)) = some y1:=(hx 1 _ rfl).trans e1
 have u2:DataW.trod enc Try.prog w 0 (fun _=>true) true m 3 (([c0,c1,c2,c3,c4,c5,c6,c7,c8,c9,c10].drop 2).take (Try.prog.cellsOf 3)) = some y2:=(hx 2 _ rfl).trans e2
 have u3:DataW.trod enc Try.prog w 0 (fun _=>true) true m 23 (([c0,c1,c2,c3,c4,c5,c6,c7,c8,c9,c10].drop 3).take (Try.prog.cellsOf 23)) = some y3:=(hx 3 _ rfl).trans e3
 have u4:DataW.trod enc Try.prog w 0 (fun _=>true) true m 23 (([c0,c1,c2,c3,c4,c5,c6,c7,c8,c9,c10].drop 5).take (Try.prog.cellsOf 23)) = some y4:=(hx 4 _ rfl).trans e4
 have u5:DataW.trod enc Try.prog w 0 (fun _=>true) true m 3 (([c0,c1,c2,c3,c4,c5,c6,c7,c8,c9,c10].drop 7).take (Try.prog.cellsOf 3)) = some y5:=(hx 5 _ rfl).trans e5
 have u6:DataW.trod enc Try.prog w 0 (fun _=>true) true m 24 (([c0,c1,c2,c3,c4,c5,c6,c7,c8,c9,c10].drop 8).take (Try.prog.cellsOf 24)) = some y6:=(hx 6 _ rfl).trans e6
 have u7:DataW.trod enc Try.prog w 0 (fun _=>true) true m 25 (([c0,c1,c2,c3,c4,c5,c6,c7,c8,c9,c10].drop 9).take (Try.prog.cellsOf 25)) = some y7:=(hx 7 _ rfl).trans e7
 have u8:DataW.trod enc Try.prog w 0 (fun _=>true) true m 26 (([c0,c1,c2,c3,c4,c5,c6,c7,c8,c9,c10].drop 10).take (Try.prog.cellsOf 26)) = some y8:=(hx 8 _ rfl).trans e8
 have d2:Try.prog.cellsOf 23 = 2:=by kernel_rfl
 have s24:Try.prog.cellsOf 24 = 1:=by kernel_rfl
 have s25:Try.prog.cellsOf 25 = 1:=by kernel_rfl
 have s26:Try.prog.cellsOf 26 = 1:=by kernel_rfl
 simp only [ZfK4,d2,s24,s25,s26,List.drop_succ_cons,List.drop_zero,List.take_succ_cons,List.take_zero] at u0 u1 u2 u3 u4 u5 u6 u7 u8
 obtain ⟨S,rfl⟩:=Z2y _ _ u0
 obtain ⟨A,rfl⟩:=Z2y _ _ u1
 obtain ⟨T,rfl⟩:=Z2y _ _ u2
 obtain ⟨sl,rfl⟩:=Z2y _ _ u5
 obtain ⟨bd,hbd,hbl⟩:=Z5n _ _ _ u3
 obtain ⟨pl,hpl,hpll⟩:=Z5n _ _ _ u4
 obtain ⟨ga,gc,gr,hg,hgl,hgr⟩:=Z4B Try.underlying24 d2 (by decide) Z5n u6
 obtain ⟨ra,rc,rd,hr,hrl,hrd⟩:=Z4B Try.underlying25 (sz:=4) (by kernel_rfl) (by decide) Zav u7
 obtain ⟨la,lc,lk,hk,hkl,hlk⟩:=Z4B Try.underlying26 (sz:=6) (by kernel_rfl) (by decide) Zay u8
 obtain ⟨gr',g1,g2⟩:=Zbb gr hgl
 obtain ⟨rd',r1,r2⟩:=Zb5 rd hrl
 obtain ⟨lk',k1,k2⟩:=Zbq lk hkl
 match bd,hbl,pl,hpll with
 | [b1,b2],_,[p1,p2],_ =>
  simp only [List.map_cons,List.map_nil,List.cons.injEq,and_true] at hbd hpl hg hr hk
  obtain ⟨rfl,rfl⟩:=hbd
  obtain ⟨rfl,rfl⟩:=hpl
  subst hg hr hk
  rw [g2,← g1] at hgr
  rw [r2,← r1] at hrd
  rw [k2,← k1] at hlk
  refine ⟨⟨S,A,T,b1,b2,p1,p2,sl,gr',rd',lk'⟩,ga,ra,la,gc,rc,lc,by simp [g1,r1,k1],⟨hgr,hrd,hlk⟩⟩
end Go.Proofs.Ytholfdgebdlgjaa
namespace Go.Proofs.Ytholfdgebdlgjaa.measureEnds
open Go.ChangeShapes Go.WideShapes Go.ChangeAt Go.RowKit
open Go.ChangeMaps (open_string shut_string)
theorem k1:(Rows.measureEndsRow.wf (OpenSpec.ofChange Rows.measureEndsSpec):Bool) = true:=by kernel_rfl
theorem k4:(Try.f21.params.all (Try.pinned.checked.prog.readableRec ·):Bool) = true:=by kernel_rfl
theorem k5:(namedTie Try.pinned.checked.prog Rows.measureEndsRow.named Rows.measureEndsSpec.vars:Bool) = true:=by kernel_rfl
theorem k6:((Rows.measureEndsRow.stops == []):Bool) = true:=by kernel_rfl
theorem k8:((Rows.measureEndsRow.knobs == []):Bool) = true:=by kernel_rfl
theorem k10:((Rows.measureEndsRow.inPlace == Try.pinned.checked.prog.inPlace 21):Bool) = true:=by kernel_rfl
theorem k11:((Rows.measureEndsRow.unfollowed == Try.pinned.checked.prog.unfollowed 21):Bool) = true:=by kernel_rfl
theorem k12:((Rows.measureEndsRow.recurses == Try.pinned.checked.prog.recurses 21):Bool) = true:=by kernel_rfl
theorem k13:((Rows.measureEndsRow.named == Try.pinned.checked.prog.varsNamed 21):Bool) = true:=by kernel_rfl
theorem k14:((Rows.measureEndsRow.maps == (Try.f21.params.toList ++ Rows.measureEndsSpec.plain.varTypes Try.pinned.checked.prog).any (Try.pinned.checked.prog.mapsRec ·)):Bool) = true:=by kernel_rfl
theorem k15:((Rows.measureEndsRow.ifaces == (Try.f21.params.toList ++ Rows.measureEndsSpec.plain.varTypes Try.pinned.checked.prog).any (Try.pinned.checked.prog.ifacesRec ·)):Bool) = true:=by kernel_rfl
theorem k16:((Rows.measureEndsRow.mapsOut == Try.pinned.checked.prog.mapsAmong Try.f21.resultTypes.toList):Bool) = true:=by kernel_rfl
theorem k17:((Rows.measureEndsRow.loops == (Try.f21.params.toList ++ Rows.measureEndsSpec.plain.varTypes Try.pinned.checked.prog).any (Try.pinned.checked.prog.loopsFrom ·)):Bool) = true:=by kernel_rfl
theorem k18:((Rows.measureEndsRow.wideKeys == (Try.f21.params.toList ++ Rows.measureEndsSpec.plain.varTypes Try.pinned.checked.prog ++ Try.f21.resultTypes.toList).any (Try.pinned.checked.prog.wideKeysFrom ·)):Bool) = true:=by kernel_rfl
theorem k19:(Rows.measureEndsSpec.vars.all (Try.pinned.checked.prog.varReadable ·):Bool) = true:=by kernel_rfl
theorem k20:(Try.f21.resultTypes.all (fun t=>Try.pinned.checked.prog.readableRec t && decide (t < Try.pinned.checked.prog.types.size)):Bool) = true:=by kernel_rfl
theorem k21:((Rows.measureEndsRow.ifacesOut == Try.f21.resultTypes.toList.any (Try.pinned.checked.prog.ifacesRec ·)):Bool) = true:=by kernel_rfl
theorem k22:((Rows.measureEndsRow.loopsOut == Try.f21.resultTypes.toList.any (Try.pinned.checked.prog.loopsFrom ·)):Bool) = true:=by kernel_rfl
theorem k23:((Rows.measureEndsRow.plainKeys == Try.pinned.checked.prog.plainKeys):Bool) = true:=by kernel_rfl
theorem k24:(Rows.measureEndsRow.shortTexts.isNone:Bool) = true:=by kernel_rfl
theorem k27:((Rows.measureEndsRow.lifted == Try.pinned.checked.prog.liftsFinal):Bool) = true:=(congrArg (fun x=>(Rows.measureEndsRow.lifted == x)) liftsFinal).trans (by kernel_rfl)
theorem k28:((Try.pinned.checked.prog.make == some Rows.measureEndsRow.make):Bool) = true:=(congrArg (fun x=>(x == some Rows.measureEndsRow.make)) made).trans (by kernel_rfl)
theorem k29:((Rows.measureEndsRow.domain.isEmpty && Rows.measureEndsRow.kinds == []):Bool) = true:=by kernel_rfl
theorem k30:((Rows.measureEndsRow.pinned == Rows.measureEndsRow.pinnedBy):Bool) = true:=by kernel_rfl
theorem k31:((Rows.measureEndsRow.veiled == (Try.f21.params.toList ++ Rows.measureEndsSpec.plain.varTypes Try.pinned.checked.prog ++ Try.f21.resultTypes.toList).any (Try.pinned.checked.prog.veiledRec ·)):Bool) = true:=by kernel_rfl
theorem k32:(Rows.measureEndsRow.veiledFits Try.pinned.checked.prog Try.f21.params.toList (Try.f21.params.toList ++ Rows.measureEndsSpec.plain.varTypes Try.pinned.checked.prog ++ Try.f21.resultTypes.toList):Bool) = true:=by kernel_rfl
theorem closed:joinedFacts Try.pinned.checked.prog 21 Try.f21 Rows.measureEndsSpec Rows.measureEndsRow = true:=Z4Y k1 Z95 ZaB k4 k5 k6 Z8W k8 Z8w k10 k11 k12 k13 k14 k15 k16 k17 k18 k19 k20 k21 k22 k23 k24 stopsHeard mayEnter k27 k28 k29 k30 k31 k32
theorem named:Try.pinned.checked.prog.funcNamed Rows.measureEndsRow.func = some 21:=by kernel_rfl
theorem inst:Try.f21.isInstance Try.pinned.checked.prog Rows.measureEndsRow.origin Rows.measureEndsRow.targs:=of_decide_eq_true (by kernel_rfl)
theorem wrap:Try.f21.isWrapper Try.pinned.checked.prog Rows.measureEndsRow.wrapper Rows.measureEndsRow.mainSum:=by unfold Func.isWrapper;first | (rw [if_pos (by decide +kernel)];kernel_rfl) | (rw [if_neg (by decide +kernel)];exact ⟨rfl,rfl⟩)
theorem laidOut:laidOutB Try.prog = true:=Z95
theorem noInit:Try.prog.inits.idxOf? 21 = none:=by kernel_rfl
theorem sliceInt:Try.prog.cellsOf 3 = 1:=by kernel_rfl
set_option maxRecDepth 100000 in
theorem lifted (walk:∀ (t0:Tp) (ga0 ra0 la0:Option Addr) (gc0 rc0 lc0:Nat) (a1:Option Addr) (len1 cap1:Nat) (z1:List Int) (w:World),IsTp w (.slice ga0 t0.gr.length gc0) (.slice ra0 t0.rd.length rc0) (.slice la0 t0.lk.length lc0) t0 → Z62 .i64 w a1 len1 cap1 z1 →
  Calls Try.prog 21 #[tpV t0 (.slice ga0 t0.gr.length gc0) (.slice ra0 t0.rd.length rc0) (.slice la0 t0.lk.length lc0),.slice a1 len1 cap1] w fun e w'=>e = .returned (.bool true) ∧ Below w.heap.size w w') (os:Os) (started:os.Started) (H:Type) (enc:TypeId × Value → H) :
  ReturnsInHanded {} Try.checked os 21 .any (Rows.measureEndsSpec.pre6 enc Try.prog Try.f21 Rows.measureEndsRow.domain false) (Rows.measureEndsSpec.post enc Try.prog Try.f21 false true false false):=by
 refine returnsInHanded_of_change (C:=Try.checked) own started noInit Try.func21
  (ChangeSpec.witness6 (enc:=enc) (C:=Try.checked) false ⟨#[],#[.agg #[.int .i64 0,.int .i64 0,.int .i64 0,.int .i64 0,.int .i64 0,.int .i64 0,.int .i64 0,.int .i64 0,.slice none 0 0,.slice none 0 0,.slice none 0 0],.slice none 0 0],[]⟩ 8 (by as_aux_lemma=>kernel_rfl) (by as_aux_lemma=>kernel_rfl) (by as_aux_lemma=>kernel_rfl) (by as_aux_lemma=>kernel_rfl)) ?_
 intro W base args ds gs before hval0 hW hcnd _
 have hval:∀ (j:Nat) t v,Try.f21.params[j]? = some t → args[j]? = some v → Value.okWide Try.prog W .any base t v:=hval0
 have hW':=hW
 obtain ⟨p,q,hA0,hV,rfl,hfz,hnd⟩:=hW
 have hA:DataW.TrodAll enc Try.prog W 0 (fun _=>true) true Try.f21.params.toList args.toList ds p:=hA0
 rw [Try.params21] at hA hval
 obtain ⟨v0,vs0,d0,ds0,p0,q0,hargs,rfl,rfl,h0,r0⟩:=trodAll_cons hA
 obtain ⟨v1,vs1,d1,ds1,p1,q1,rfl,rfl,rfl,h1,r1⟩:=trodAll_cons r0
 obtain ⟨rfl,rfl,rfl⟩:=trodAll_nil r1
 obtain rfl:args = #[v0,v1]:=by cases args;simp_all
 obtain ⟨rfl,rfl⟩:=trodVars_none hV
 have k0':=h0
 have lt0:∀ x ∈ p0,x.block < W.heap.size:=by obtain ⟨m,hm⟩:=k0';exact DataW.trod_lt m _ _ _ hm
 have k1':=h1
 have lt1:∀ x ∈ p1,x.block < W.heap.size:=by obtain ⟨m,hm⟩:=k1';exact DataW.trod_lt m _ _ _ hm
 obtain ⟨cs0,rfl,hcs0⟩:=okWide_struct Try.underlying28 (hval 0 28 v0 rfl rfl)
 obtain ⟨t0,ga0,ra0,la0,gc0,rc0,lc0,hl0,w0⟩:∃ (t:Tp) (ga ra la:Option Addr) (gc rc lc:Nat),cs0.toList = [.int .i64 t.S,.int .i64 t.A,.int .i64 t.T,.int .i64 t.bl,.int .i64 t.bm,.int .i64 t.pl,.int .i64 t.pm,.int .i64 t.sl,.slice ga t.gr.length gc,.slice ra t.rd.length rc,.slice la t.lk.length lc] ∧ IsTp W (.slice ga t.gr.length gc) (.slice ra t.rd.length rc) (.slice la t.lk.length lc) t:=by
  obtain ⟨fuel,hf⟩:=h0
  exact Z7B hf
 obtain rfl:cs0 = #[.int .i64 t0.S,.int .i64 t0.A,.int .i64 t0.T,.int .i64 t0.bl,.int .i64 t0.bm,.int .i64 t0.pl,.int .i64 t0.pm,.int .i64 t0.sl,.slice ga0 t0.gr.length gc0,.slice ra0 t0.rd.length rc0,.slice la0 t0.lk.length lc0]:=Array.toList_inj.1 hl0
 obtain ⟨a1,len1,cap1,rfl⟩:=okWide_slice Try.underlying29 (hval 1 29 v1 rfl rfl)
 obtain ⟨z1,w1⟩:∃ zs,Z62 .i64 W a1 len1 cap1 zs:=by
  obtain ⟨fuel,hf⟩:=h1
  rcases open_ints Try.underlying29 Try.underlying3 sliceInt hf with ⟨hcs,_⟩ | ⟨x,l,c,zs,hcs,_,hl,hm,hz,_,hcell,hwz⟩
  ·simp [Value.cells] at hcs
   obtain ⟨rfl,rfl,rfl⟩:=hcs
   exact ⟨[],.inl ⟨rfl,rfl,rfl,rfl⟩⟩
  ·simp [Value.cells] at hcs
   obtain ⟨rfl,rfl,rfl⟩:=hcs
   exact ⟨zs,.inr ⟨_,rfl,hl,hm,by simpa using hz,hcell,hwz⟩⟩
 clear hA0 hval0
 refine (walk t0 ga0 ra0 la0 gc0 rc0 lc0 a1 len1 cap1 z1 W w0 w1).mono fun e W' ⟨he,bel⟩=>?_
 subst he
 exact ⟨_,rfl,_,_,_,[],_,[],hW',trodAll_mk1 (shut_bool Try.underlying4 _),(trodAll_cons_mk (Below.trod laidOut (by as_aux_lemma=>kernel_rfl) (of_decide_eq_true (by as_aux_lemma=>kernel_rfl)) k0' bel lt0) (trodAll_cons_mk (Below.trod laidOut (by as_aux_lemma=>kernel_rfl) (of_decide_eq_true (by as_aux_lemma=>kernel_rfl)) k1' bel lt1) trodAll_mk0)),rfl,bel.frame _,fun h=>by cases h⟩
theorem said_of_walk (walk:∀ (t0:Tp) (ga0 ra0 la0:Option Addr) (gc0 rc0 lc0:Nat) (a1:Option Addr) (len1 cap1:Nat) (z1:List Int) (w:World),IsTp w (.slice ga0 t0.gr.length gc0) (.slice ra0 t0.rd.length rc0) (.slice la0 t0.lk.length lc0) t0 → Z62 .i64 w a1 len1 cap1 z1 →
  Calls Try.prog 21 #[tpV t0 (.slice ga0 t0.gr.length gc0) (.slice ra0 t0.rd.length rc0) (.slice la0 t0.lk.length lc0),.slice a1 len1 cap1] w fun e w'=>e = .returned (.bool true) ∧ Below w.heap.size w w'):Rows.MeasureEndsSaid:=
 OpenClaim.holds_of_wide_leaving 21 Try.f21 rfl rfl rfl rfl rfl rfl rfl ⟨rfl,rfl,rfl,rfl,rfl⟩ rfl rfl rfl rfl rfl named Try.func21 closed
  inst wrap (fun os started H enc _=>Z43 (lifted walk os started H enc))
end Go.Proofs.Ytholfdgebdlgjaa.measureEnds
namespace Go.Proofs.Ytholfdgebdlgjaa
open Go.RowKit
theorem measureEnds_said:Rows.MeasureEndsSaid:=
 measureEnds.said_of_walk fun t ga ra la gc rc lc a1 len1 cap1 z1 w ht h1=>(Z8R t ga ra la gc rc lc a1 len1 cap1 z1 w ht h1).mono fun _ _ ⟨h1,h2⟩=>⟨h1,h2.below⟩
end Go.Proofs.Ytholfdgebdlgjaa
