/- Parts of a proof: LDyeShades, Xk, FrDyeShades, ClDyeShades. No conditions. -/
import Derived.Below
import Derived.ChangeOld
import Derived.Conc.Holds
import Derived.Conc.HoldsTime
import Derived.Leaving
import Derived.OpenShut
import Derived.ProofKit
import Derived.ShutString
import Derived.WalkKit
import Derived.Test.YtfelljbfeoplhaaGreatPsh1
import Derived.Test.YtfelljbfeoplhaaGreatPsh9
import Derived.Test.YtfelljbfeoplhaaGreatPsh12
set_option linter.unusedVariables false
set_option linter.unusedSimpArgs false
set_option linter.unusedSectionVars false
set_option maxRecDepth 100000
set_option maxHeartbeats 4000000
namespace Go.Proofs.YtfelljbfeoplhaaGreat
variable{S:Nat->Prop}
section
open Go.RowKit Ev
variable{μ:Nat}
theorem lawW(a0:Option Addr)(len0 cap0:Nat)(z0:List Int)(w:World)(h:ZaY .i64 w a0 len0 cap0 z0):Calls (Qy.prog 0) 7 #[.slice a0 len0 cap0] w λe w'=>Lift.LawV Lift.PreL e w':=by
 have E:Ext [] w w:=Ext.refl _ _;have G:=(Bk.nil w).ce E;refine(ent 236 Tryz.f7 rfl) λF=>wR λk1=>(F.m) λF=>k1<|wR λk2=>(F.m) λF=>(F.k (Z9g (μ:=0) w a0 len0 cap0 z0 h)) ?_
 rintro _ w1 ⟨b,rfl,hbw0,hbw1,HL,e9⟩;refine⟨_,rfl,λF=>?_⟩;replace G:=(G.ex e9).cl HL;refine(F.m) λF=>k2<|wR λk3=>(F.m) λF=>(F.k (Zej (μ:=0) 4 (by decide) (by decide) w _ b _ _ (G.l 0) (by omega))) ?_
 rintro _ w2 ⟨x,rfl,hv,hd3,hxb,HL,e9⟩;refine⟨_,rfl,λF=>?_⟩;replace G:=G.xl 0 e9 HL;have HV:=Lib.hid hv;have HXB:=Lib.hid hxb;have hl1:=hv.l1;have hl3:=hv.l3;have hd4:=hv.d4;have hb1:=hv.b1;have hb3:=hv.b3;have ht0:=hv.t0;have ht12:=hv.t12;clear hv hxb;replace G:=G.hr [b];refine(F.al G Qy.zeroValue27) @λn4 w3 _ yy F G=>(F.sr G 0) λG=>k3<|wQ λk4=>?_
 have G2:=G;refine(wD [b] none G) λG=>(F.z 0 (G.t 0) F.mo) λF=>(F.z 1 (G.t 0) (F.fd 2)) λF=>(F.zr 2 (G.t 0) λhS=>F.lc (G2.k 0 hS)) λF=>(F.z 3 (G.t 0) F.ln) λF=>(F.z 4 (G.t 0) F.sb) λF=>(F.z 6 (G.t 0) F.mo) λF=>(F.zr 7 (G.t 0) λhS=>F.lb (G2.k 0 hS)) λF=>(F.z 9 (G.t 0) F.mo) λF=>(F.zr 10 (G.t 0) λhS=>F.lb (G2.k 0 hS)) λF=>(aO 5)<|(F.ok (Z0h (μ:=0) w _ b _ _ (((x.L.length:Nat):Int)-1) (G.l 3) (by omega) (by omega) (by omega))) ?_
 rintro _ w6 ⟨u,rfl,hu0,hu1,HL,e9⟩;refine⟨_,rfl,λF=>?_⟩;replace G:=G.xl 3 e9 HL;refine .intro (G.t 0) ?_;obtain⟨lp,rfl⟩:=Int.eq_ofNat_of_zero_le hu0;obtain⟨B1,hB1⟩:∃B1,B1=w6.heap.size:=⟨_,rfl⟩;have hbb1:b<B1:=by rw[hB1];exact Z1s (G.l 3)
 refine(aO 8)<|(F.ok (Z8w (μ:=0) x HV.out w _ b _ _ (G.l 3) (by omega))) ?_
 rintro _ w7 ⟨sa,sc,S,rfl,h6,hS,so,famS,HL,e9⟩;refine⟨_,rfl,λF=>?_⟩;replace G:=G.xl 3 e9 HL;refine .intro (G.t 0) ?_;rw[<-hB1]at so famS;replace G:=(G.co so).cf famS;refine(aO 11)<|(F.ok (Z8i (μ:=0) x HV.out w _ b _ _ (G.l 5) (by omega) (HXB.out.ext (G.e 4)))) ?_
 rintro _ w8 ⟨qa,qc,s,rfl,hs,lo,HL,e9⟩;refine⟨_,rfl,λF=>?_⟩;replace G:=G.xl 5 e9 HL;refine .intro (G.t 2)<|(F.z 12 (G.t 2) F.mo) λF=>(F.z 13 (G.t 2) F.mo) λF=>(F.z 14 (G.t 2) F.mo) λF=>(aD) ?_
 have hxd:=HXB.out _ (G.e 4);have famS:=G.f 0;have so:=G.o 1;have HSL:=Lib.hid (Z0W so famS);have HXD:=Lib.hid hxd;have HSO:=Lib.hid hS;have HSR:=Lib.hid (Zu lo rfl);have HS:=Lib.hid hs;clear hxd hS lo hs;obtain⟨T,hT⟩:∃T,T=S.map (·.2):=⟨_,rfl⟩;have hTl:T.length=S.length:=by rw[hT,Yj]
 have HTR:RowKit.Hid (∀t∈T,RcpOk x t):=Lib.hid λt ht=>by rw[hT]at ht;obtain⟨p,hp,rfl⟩:=List.mem_map.1 ht;exact HSO.out p hp
 have hlp:lp<x.L.length:=by omega
 obtain⟨bn,hbn⟩:∃bn:Nat,x.B=bn:=⟨x.B.toNat,by omega⟩;have hbn2:x.B.toNat=bn:=by omega
 have HSS:=Lib.hid HSL.out.1;replace G:=G.hr [];refine k4<|wR λk5=>(F.y (F.lb (G.q 4))) λF=>(F.m) λF=>(F.m) λF=>(F.k (Z6k (μ:=0) x HV.out lp hlp S HSO.out h6 sa sc _ (HXD.out.ext (G.e 0)) (HSL.out.ext (G.e 0)))) ?_
 rintro _ w9 ⟨ga,gc,rfl,og,e9⟩;refine⟨_,rfl,λF=>?_⟩;replace G:=G.ex e9;rw[<-hT]at F og;have hgl0:(shaR x lp T).length=S.length:=by rw[Ziv,hTl]
 have hgc:=Zap og;have hg:Z6 w9 (.slice ga (shaR x lp T).length gc) 1 ((shaR x lp T).map Z5):=Zu og rfl;rw[hgl0]at F hg;have HPO:=Lib.hid (Ziy HTR.out hd4);have HAT:=Lib.hid (λk i=>@Zkw x T lp HPO.out k i);have HNW:=Lib.hid (λi=>@Zix x T lp HPO.out i);have HME:=Lib.hid (Ziw x lp T);obtain⟨gl,hgl⟩:∃gl,gl=shaR x lp T:=⟨_,rfl⟩;rw[<-hgl]at hg hgl0 HAT HNW HME;have hgc2:S.length<=gc:=by rw[<-hgl0,hgl];exact hgc
 have HG:=Lib.hid hg;have HGS:RowKit.Hid (SlAt [] w9 ga 1 S.length λi=>[.int .i64 (gl.getD i 0)]):=Lib.hid (by rw[<-hgl0];exact Zb (show Z6 w9 (.slice ga gl.length gc) 1 (gl.map Z5) by rw[hgl0];exact HG.out) 0);clear hg og hgc;replace G:=G.hr [];refine(F.m) λF=>(F.y F.xt) λF=>(F.y F.xt) λF=>(F.m) λF=>(F.m) λF=>k5<|wQ λk6=>wR λk7=>(F.m) λF=>(F.y F.neF) λF=>(F.m) λF=>(F.m) λF=>(F.y F.ln) λF=>(F.m) λF=>(F.y F.ln) λF=>(F.y F.neF) λF=>(F.y F.pF) λF=>k7<|(F.cF)<|Yi<|k6<|wQ λk8=>wQ λk9=>Yg ?_
 refine(F.m) λF=>k9<|Yh<|lpC (F.b [4,5,6,7,8]) (G.b [0,1,5,8]) (S.length) (λi=>[(10,.int .i64 ((i:Nat):Int))]) F.u λi hi1 F G=>wQ λk10=>wR λk11=>(F.m) λF=>(F.m) λF=>(F.y F.ln) λF=>(F.y F.ls) λF=>k11<|F.ci (λhc61=>?_) (λhc61=>?_)
 ·refine Yi<|k10<|wQ λk12=>Yh<|wQ λk13=>?_
  have hme:=HME.out _ (Z7 0 (show i<gl.length by omega));have hnw:=HNW.out i (show i<gl.length by omega);have hti:(gl.take i).length=i:=by rw[List.length_take];omega
  refine(wX 22 G) @λw11 G=>(F.sm) λF=>(F.sm) λF=>(F.sx HGS.out i) λxr14 F=>(F.s (F.l1 (xr14 _ (G.e 0)) 0)) λF=>(F.s F.lsF) λF=>(F.sm) λF=>(F.sm) λF=>(F.sm) λF=>(F.sx HGS.out i) λxr15 F=>(F.s (F.l1 (xr15 _ (G.e 0)) 0)) λF=>(F.sm) λF=>(F.s F.ln) λF=>(F.s F.geF) λF=>(F.s F.pF) λF=>(F.sm) λF=>(F.sm) λF=>?_;refine(F.sm) λF=>?_;refine(F.s ((Zeu (size:=1) rfl (F.at rfl) (F.at rfl) Qy.underlying22 (by kernel_rfl) (by omega)))) λF=>(F.sm) λF=>(F.sm) λF=>(F.sx HGS.out i) λxr16 F=>(F.s (F.l1 (xr16 _ (G.e 0)) 0)) λF=>wpStill_nil ?_;have hat:=Z4Q (μ:=0) (gl.take i) (gl.getD i 0) ga gc w11 (by rw[hti,List.map_take];exact Zbs (HG.out.ext (G.e 0) (by simp)) (by rw[Yj];omega)) (by omega);rw[hti]at hat
  refine(F.k (hat)) ?_;rintro _ w12 ⟨rfl,e9⟩;refine⟨_,rfl,λF=>?_⟩;replace G:=G.ex e9;clear hat
  refine(F.y (F.geF (h:=λq=>hnw ((Zhe _ _).1 q)))) λF=>(F.y F.pF) λF=>k13<|(F.cF)<|Yi<|k12<|Yg<|(F.m) λF=>(F.y F.ad) λF=>(F.m) λF=>?_
  show _/\_;exact⟨by omega,F.u,G.u⟩
 ·refine wp_exit<|k8<|wR λk17=>(F.y (F.lb (G.q 2))) λF=>(F.k (Z8S (μ:=0) x _ (HXD.out.ext (G.e 1)) HV.out.sd HV.out.sl)) ?_
  rintro _ w13 ⟨y,rfl,hyB,hyt,hyD,hyL,hyA,e9⟩;refine⟨_,rfl,λF=>?_⟩;replace G:=G.ex e9;have hal:AlkV' y x:=⟨hyB,hyt,hyD,hyL⟩;have hdl:=hal.dl;have hll:=hal.ll;have HWD:=Lib.hid (Zj2 HV.out hd3.2.2 hal);have HYA:=Lib.hid hyA;clear hyB hyt hyD hyL hyA hal;replace G:=G.hr [];refine(F.al G Qy.zeroValue27) @λn11 w14 _ yy F G=>(F.sr G 0) λG=>k17<|wR λk18=>(F.y (F.fd 3)) λF=>(F.y (F.lc (G.q 4))) λF=>(F.y F.ml) λF=>(F.y F.mn) λF=>(F.y (F.fd 3)) λF=>(F.st G 0) λG=>k18<|wQ λk19=>wR λk20=>(F.m) λF=>k20<|Yh<|lpC (F.b [4,5,6,7,8,11]) G (S.length) (λi=>[(12,.int .i64 ((i:Nat):Int))]) F.u λi hi2 F G=>wQ λk21=>wR λk22=>(F.m) λF=>(F.m) λF=>(F.y F.ln) λF=>(F.y F.ls) λF=>k22<|F.ci (λhc99=>?_) (λhc99=>?_)
  ·refine Yi<|k21<|wQ λk23=>Yh<|wR λk24=>(F.m) λF=>k24<|Yh<|lpC (F.b [4,5,6,7,8,11,12]) G (i) (λk=>[(13,.int .i64 ((k:Nat):Int))]) F.u λk hi3 F G=>wQ λk25=>wR λk26=>(F.m) λF=>(F.m) λF=>(F.y F.ls) λF=>k26<|F.ci (λhc104=>?_) (λhc104=>?_)
   ·refine Yi<|k25<|wQ λk27=>Yh<|wQ λk28=>?_
    obtain⟨hAB,hlt⟩:=HAT.out k i (by omega) (by omega);have hmk:=HME.out _ (Z7 0 (show k<gl.length by omega));have hmi:=HME.out _ (Z7 0 (show i<gl.length by omega));obtain⟨ka,hka⟩:=Int.eq_ofNat_of_zero_le hmk.1;obtain⟨ia,hia⟩:=Int.eq_ofNat_of_zero_le hmi.1;simp only[hka,hia]at hAB hlt hmk hmi;obtain⟨ra,rc,hra,hrr⟩:=HSL.out.2 _ (Z7 (.bool true,[]) (show ka<S.length by omega));obtain⟨ma,mc,hma,hmr⟩:=HSL.out.2 _ (Z7 (.bool true,[]) (show ia<S.length by omega));have hrT:T.getD ka []=(S.getD ka (.bool true,[])).2:=by rw[hT];exact key2 (by omega)
    have hmT:T.getD ia []=(S.getD ia (.bool true,[])).2:=by rw[hT];exact key2 (by omega)
    rw[<-hrT]at hra hrr;rw[<-hmT]at hma hmr;have HRR:=Lib.hid hrr;have HMR:=Lib.hid hmr;have HRO:=Lib.hid (HTR.out _ (Z7 [] (show ka<T.length by omega)));have HMO:=Lib.hid (HTR.out _ (Z7 [] (show ia<T.length by omega)));clear hrr hmr;have hrp:prtT T ((ka:Nat):Int)=(T.getD ka []).sum:=Z3M _ 4 (by rw[Int.toNat_natCast,HRO.out.len];exact hd4);have hmp:prtT T ((ia:Nat):Int)=(T.getD ia []).sum:=Z3M _ 4 (by rw[Int.toNat_natCast,HMO.out.len];exact hd4);have hr1:=HRO.out.s1;have hr6:=HRO.out.s6;have hm1:=HMO.out.s1;have hm6:=HMO.out.s6;have hrd:=HRO.out.len;have hmd:=HMO.out.len;have G4:=G;refine(wD [] none G) λG=>(F.zr 0 (G.t 0) λhS=>F.lb (G4.k 4 hS)) λF=>(F.z 1 (G.t 0) F.mo) λF=>(F.z 2 (G.t 0) F.mo) λF=>(F.z 3 (G.t 0) F.mo) λF=>?_;obtain⟨xb29,xo29,xa29,xr29⟩:=HGS.out k (by omega);refine(F.z 4 (G.t 0) (F.is 1 xa29)) λF=>(F.zr 5 (G.t 0) λhS=>F.l1 (xr29 _ ((G4.e 2).nil hS)) 0) λF=>?_;rw[hka]at F;obtain⟨xb30,xo30,xa30,xr30⟩:=HSS.out ka (by omega);refine(F.z 6 (G.t 0) (F.is 1 xa30)) λF=>(F.zr 7 (G.t 0) λhS=>F.l1 (xr30 _ ((G4.e 3).nil hS)) 0) λF=>?_;rw[hra]at F;refine(aO 8)<|(F.ok (Z5t (μ:=0) x HV.out bn hbn (T.getD ka []) hrd HRO.out.bd ra rc _ (HXD.out.ext (G.e 4)) (HRR.out.ext (G.e 4) (by simp)))) ?_
    rintro _ w20 ⟨ua,rfl,uo,e9⟩;refine⟨_,rfl,λF=>?_⟩;replace G:=G.ex e9;refine .intro (G.t 0) ?_;rw[<-hrp]at F;have hsl:(sumL x (val (T.getD ka [])) bn).length=bn:=by simp[sumL]
    have HU:=Lib.hid (Zu uo hsl.symm);clear uo;replace G:=G.hr [];refine(F.z 9 (G.t 1) F.mo) λF=>(F.z 10 (G.t 1) F.xt) λF=>(F.z 11 (G.t 1) F.xt) λF=>(F.z 12 (G.t 1) F.mo) λF=>(F.z 13 (G.t 1) F.mo) λF=>(aD)<|k28<|wQ λk31=>?_
    have G6:=G;refine(wD [] none G) λG=>(F.zr 0 (G.t 0) λhS=>F.lb (G6.k 6 hS)) λF=>(F.z 1 (G.t 0) F.mo) λF=>(F.z 2 (G.t 0) F.mo) λF=>(F.z 3 (G.t 0) F.mo) λF=>?_;obtain⟨xb32,xo32,xa32,xr32⟩:=HGS.out i (by omega);refine(F.z 4 (G.t 0) (F.is 1 xa32)) λF=>(F.zr 5 (G.t 0) λhS=>F.l1 (xr32 _ ((G6.e 4).nil hS)) 0) λF=>?_;rw[hia]at F;obtain⟨xb33,xo33,xa33,xr33⟩:=HSS.out ia (by omega);refine(F.z 6 (G.t 0) (F.is 1 xa33)) λF=>(F.zr 7 (G.t 0) λhS=>F.l1 (xr33 _ ((G6.e 5).nil hS)) 0) λF=>?_;rw[hma]at F;refine(aO 8)<|(F.ok (Z5t (μ:=0) x HV.out bn hbn (T.getD ia []) hmd HMO.out.bd ma mc _ (HXD.out.ext (G.e 6)) (HMR.out.ext (G.e 6) (by simp)))) ?_
    rintro _ w22 ⟨va,rfl,vo,e9⟩;refine⟨_,rfl,λF=>?_⟩;replace G:=G.ex e9;refine .intro (G.t 0) ?_;rw[<-hmp]at F;have hsm:(sumL x (val (T.getD ia [])) bn).length=bn:=by simp[sumL]
    have HU2:=Lib.hid (Zu vo hsm.symm);clear vo;replace G:=G.hr [];refine(F.z 9 (G.t 1) F.mo) λF=>(F.z 10 (G.t 1) F.xt) λF=>(F.z 11 (G.t 1) F.xt) λF=>(F.z 12 (G.t 1) F.mo) λF=>(F.z 13 (G.t 1) F.mo) λF=>(aD)<|k31<|wQ λk34=>?_
    have hWa:dotE (val (x.lamp lp)) (tnE x (val (T.getD ka []))) bn=wghT x T lp ((ka:Nat):Int):=by rw[wghT,hbn2];rfl
    have hWb:dotE (val (x.lamp lp)) (tnE x (val (T.getD ia []))) bn=wghT x T lp ((ia:Nat):Int):=by rw[wghT,hbn2];rfl
    have hda:=Z2R HV.out hlp (λj=>Z8z HV.out HRO.out.tub j) (n:=bn) (by omega);have hdb:=Z2R HV.out hlp (λj=>Z8z HV.out HMO.out.tub j) (n:=bn) (by omega);rw[hWa]at hda;rw[hWb]at hdb;have hpa:=Z0K (show 0<=prtT T ((ia:Nat):Int) by omega) (show prtT T ((ia:Nat):Int)<=6 by omega) hda.1 hda.2 (C:=12960) (by omega);have hpb:=Z0K (show 0<=prtT T ((ka:Nat):Int) by omega) (show prtT T ((ka:Nat):Int)<=6 by omega) hdb.1 hdb.2 (C:=12960) (by omega);have G8:=G;refine(wD [] none G) @λw23 G=>(F.z 0 (G.t 0) F.mo) λF=>(F.zr 1 (G.t 0) λhS=>F.lb (G8.k 8 hS)) λF=>(F.z 2 (G.t 0) F.mo) λF=>(F.z 3 (G.t 0) F.mo) λF=>(F.z 6 (G.t 0) F.mo) λF=>(F.zr 7 (G.t 0) λhS=>F.lb (G8.k 8 hS)) λF=>(F.z 8 (G.t 0) F.mo) λF=>(F.z 9 (G.t 0) F.mo) λF=>?_;have hwe:=Z5z (μ:=0) x HV.out lp hlp bn hbn (sumL x (val (T.getD ka [])) bn) hsl (λn hn=>by have:=Z2z HV.out HRO.out.tub bn n hn;omega) ua bn w23 (HXD.out.ext (G.e 8)) (by rw[hsl];exact HU.out.ext (G.e 3) (by simp));have hdx:=Z1X x (val (T.getD ka [])) (val (x.lamp lp)) bn;rw[hsl]at hwe hdx;rw[hdx,hWa]at hwe;refine(aO 4)<|(F.ok (hwe)) ?_
    rintro _ w24 ⟨rfl,e9⟩;refine⟨_,rfl,λF=>?_⟩;replace G:=G.ex e9;refine .intro (G.t 0) ?_;clear hwe hdx;refine(F.z 5 (G.t 0) F.ml) λF=>?_;have hwe:=Z5z (μ:=0) x HV.out lp hlp bn hbn (sumL x (val (T.getD ia [])) bn) hsm (λn hn=>by have:=Z2z HV.out HMO.out.tub bn n hn;omega) va bn w24 (HXD.out.ext (G.e 8)) (by rw[hsm];exact HU2.out.ext (G.e 1) (by simp));have hdx:=Z1X x (val (T.getD ia [])) (val (x.lamp lp)) bn;rw[hsm]at hwe hdx;rw[hdx,hWb]at hwe;refine(aO 10)<|(F.ok (hwe)) ?_
    rintro _ w25 ⟨rfl,e9⟩;refine⟨_,rfl,λF=>?_⟩;replace G:=G.ex e9;refine .intro (G.t 0) ?_;clear hwe hdx;refine(F.z 11 (G.t 0) F.ml) λF=>(F.z 12 (G.t 0) F.mo) λF=>(F.z 13 (G.t 0) F.mo) λF=>(aD) ?_;obtain⟨A,hA⟩:∃A,A=prtT T ((ia:Nat):Int)*wghT x T lp ((ka:Nat):Int):=⟨_,rfl⟩;obtain⟨B,hB⟩:∃B,B=prtT T ((ka:Nat):Int)*wghT x T lp ((ia:Nat):Int):=⟨_,rfl⟩;rw[<-hA,<-hB]at F hAB hlt;clear hpa hpb hda hdb;refine k34<|wQ λk35=>wQ @λK36 k36=>?_
    replace G:=G.b [1,3,5,6,7,8,9,10]
    suffices hcut:∀{fa:Act} {W:World},Has 236 [] fa [(4,.pointer (some ⟨n4,0,none⟩)),(5,.int .i64 ((lp:Nat):Int)),(6,.slice sa S.length sc),(7,.slice qa s.length qc),(8,.slice ga S.length gc),(11,.pointer (some ⟨n11,0,none⟩)),(12,.int .i64 ((i:Nat):Int)),(13,.int .i64 ((k:Nat):Int)),(161,.bool false)]->Bk W [.q n11 (#[.int .i64 y.B,.slice y.da y.D.length y.dc,.slice y.la y.L.length y.lc,.int .i64 (min 12 (2*x.tol))]) 27,.q n4 (#[.int .i64 x.B,.slice x.da x.D.length x.dc,.slice x.la x.L.length x.lc,.int .i64 x.tol]) 27,.e [] w,.e [] w8,.e [] w9,.e [] w13,.e [] w20,.e [] w22]->True->K36 fa W by
     have G10:=G;refine(wD [] none G) λG=>(F.z 0 (G.t 0) F.mo) λF=>(F.z 1 (G.t 0) F.mo) λF=>(F.z 2 (G.t 0) F.gtF) λF=>(F.z 3 (G.t 0) F.mo) λF=>(F.z 4 (G.t 0) F.mo) λF=>(F.z 5 (G.t 0) F.mo) λF=>(F.z 6 (G.t 0) F.eq) λF=>(F.z 7 (G.t 0) F.mo) λF=>?_
     by_cases hg1:(A=B)
     ·replace F:=F.re (k:=150) rfl (congrArg Value.bool (decide_eq_true hg1))
      refine(F.z 8 (G.t 0) F.mo) λF=>(F.z 9 (G.t 0) F.mo) λF=>?_;obtain⟨xb37,xo37,xa37,xr37⟩:=HGS.out k (by omega);refine(F.z 10 (G.t 0) (F.is 1 xa37)) λF=>(F.zr 11 (G.t 0) λhS=>F.l1 (xr37 _ ((G10.e 4).nil hS)) 0) λF=>?_;rw[hka]at F;refine(F.z 12 (G.t 0) F.mo) λF=>(F.z 13 (G.t 0) F.mo) λF=>?_;obtain⟨xb38,xo38,xa38,xr38⟩:=HGS.out i (by omega);refine(F.z 14 (G.t 0) (F.is 1 xa38)) λF=>(F.zr 15 (G.t 0) λhS=>F.l1 (xr38 _ ((G10.e 4).nil hS)) 0) λF=>?_;rw[hia]at F;refine(F.z 16 (G.t 0) (F.gtF (h:=by have:=hlt (by assumption);omega))) λF=>(F.z 17 (G.t 0) F.pT) λF=>(F.z 18 (G.t 0) F.pF) λF=>(aD)<|hcut F.u G.u trivial
     ·replace F:=F.re (k:=150) rfl (congrArg Value.bool (decide_eq_false hg1))
      refine(F.zn 8 (G.t 0)) λF=>(F.zn 9 (G.t 0)) λF=>(F.zn 10 (G.t 0)) λF=>(F.zn 11 (G.t 0)) λF=>(F.zn 12 (G.t 0)) λF=>(F.zn 13 (G.t 0)) λF=>(F.zn 14 (G.t 0)) λF=>(F.zn 15 (G.t 0)) λF=>(F.zn 16 (G.t 0)) λF=>(F.z 17 (G.t 0) F.pF) λF=>(F.z 18 (G.t 0) F.pF) λF=>(aD)<|hcut F.u G.u trivial
    clear F G;intro  fa w27 F G hlt;refine k36<|(F.cF)<|Yi<|k35<|wQ λk39=>?_
    have G12:=G;refine(wD [] none G) @λw28 G=>(F.zr 0 (G.t 0) λhS=>F.lb (G12.k 1 hS)) λF=>(F.z 1 (G.t 0) F.mo) λF=>(F.z 2 (G.t 0) F.mo) λF=>(F.z 3 (G.t 0) F.mo) λF=>?_;obtain⟨xb40,xo40,xa40,xr40⟩:=HGS.out k (by omega);refine(F.z 4 (G.t 0) (F.is 1 xa40)) λF=>(F.zr 5 (G.t 0) λhS=>F.l1 (xr40 _ ((G12.e 4).nil hS)) 0) λF=>?_;rw[hka]at F;obtain⟨xb41,xo41,xa41,xr41⟩:=HSS.out ka (by omega);refine(F.z 6 (G.t 0) (F.is 1 xa41)) λF=>(F.zr 7 (G.t 0) λhS=>F.l1 (xr41 _ ((G12.e 3).nil hS)) 0) λF=>?_;rw[hra]at F;refine(F.z 8 (G.t 0) F.mo) λF=>?_;have hst:=Lift.stubM_ok x HV.out (T.getD ka []) s HRO.out HS.out ra qa rc qc w28 (HXD.out.ext (G.e 4)) (HRR.out.ext (G.e 4) (by simp)) (HSR.out.ext (G.e 4) (by simp));refine(aO 9)<|(F.okp (hst)) ?_
    rintro _ w29 (⟨⟨rfl,-⟩,e9⟩ | ⟨y1,rfl,hI1,-,e9⟩)
    ·refine .inl ⟨_,rfl,?_⟩
     replace G:=G.ex e9
     (try simp only[Exit.inBlock,Exit.then,Exit.jump,reduceIte])
     refine⟨F.ds,?_⟩;exact Lift.lawV_m HV.out (HXD.out.ext (G.e 4)) HRO.out HS.out rfl rfl (HRR.out.ext (G.e 4) (by simp)) (HSR.out.ext (G.e 4) (by simp))
    refine .inr ⟨_,rfl,λF=>?_⟩;replace G:=G.ex e9;refine .intro (G.t 0) ?_;clear hst;obtain⟨ya1,yc1,rfl,hY1⟩:=Z51 hI1;clear hI1;obtain⟨L1,hL1⟩:∃L1,L1=ZY x.L.length λk=>matE x (val (T.getD ka [])) (val s) [((k:Nat):Int)]:=⟨_,rfl⟩;have hL1n:=Z0y x.L.length λk=>matE x (val (T.getD ka [])) (val s) [((k:Nat):Int)];rw[<-hL1]at F hY1 hL1n;have HY1:=Lib.hid hY1;clear hY1;replace G:=G.hr [];refine(F.z 10 (G.t 1) F.mo) λF=>(F.z 11 (G.t 1) F.xt) λF=>(F.z 12 (G.t 1) F.xt) λF=>(F.z 13 (G.t 1) F.mo) λF=>(F.z 14 (G.t 1) F.mo) λF=>(aD)<|k39<|wQ λk42=>?_
    have G14:=G;refine(wD [] none G) @λw30 G=>(F.zr 0 (G.t 0) λhS=>F.lb (G14.k 3 hS)) λF=>(F.z 1 (G.t 0) F.mo) λF=>(F.z 2 (G.t 0) F.mo) λF=>(F.z 3 (G.t 0) F.mo) λF=>?_;obtain⟨xb43,xo43,xa43,xr43⟩:=HGS.out i (by omega);refine(F.z 4 (G.t 0) (F.is 1 xa43)) λF=>(F.zr 5 (G.t 0) λhS=>F.l1 (xr43 _ ((G14.e 6).nil hS)) 0) λF=>?_;rw[hia]at F;obtain⟨xb44,xo44,xa44,xr44⟩:=HSS.out ia (by omega);refine(F.z 6 (G.t 0) (F.is 1 xa44)) λF=>(F.zr 7 (G.t 0) λhS=>F.l1 (xr44 _ ((G14.e 5).nil hS)) 0) λF=>?_;rw[hma]at F;refine(F.z 8 (G.t 0) F.mo) λF=>?_;have hst:=Lift.stubM_ok x HV.out (T.getD ia []) s HMO.out HS.out ma qa mc qc w30 (HXD.out.ext (G.e 6)) (HMR.out.ext (G.e 6) (by simp)) (HSR.out.ext (G.e 6) (by simp));refine(aO 9)<|(F.okp (hst)) ?_
    rintro _ w31 (⟨⟨rfl,-⟩,e9⟩ | ⟨y2,rfl,hI2,-,e9⟩)
    ·refine .inl ⟨_,rfl,?_⟩
     replace G:=G.ex e9
     (try simp only[Exit.inBlock,Exit.then,Exit.jump,reduceIte])
     refine⟨F.ds,?_⟩;exact Lift.lawV_m HV.out (HXD.out.ext (G.e 6)) HMO.out HS.out rfl rfl (HMR.out.ext (G.e 6) (by simp)) (HSR.out.ext (G.e 6) (by simp))
    refine .inr ⟨_,rfl,λF=>?_⟩;replace G:=G.ex e9;refine .intro (G.t 0) ?_;clear hst;obtain⟨ya2,yc2,rfl,hY2⟩:=Z51 hI2;clear hI2;obtain⟨L2,hL2⟩:∃L2,L2=ZY x.L.length λk=>matE x (val (T.getD ia [])) (val s) [((k:Nat):Int)]:=⟨_,rfl⟩;have hL2n:=Z0y x.L.length λk=>matE x (val (T.getD ia [])) (val s) [((k:Nat):Int)];rw[<-hL2]at F hY2 hL2n;have HY2:=Lib.hid hY2;clear hY2;replace G:=G.hr [];refine(F.z 10 (G.t 1) F.mo) λF=>(F.z 11 (G.t 1) F.xt) λF=>(F.z 12 (G.t 1) F.xt) λF=>(F.z 13 (G.t 1) F.mo) λF=>(F.z 14 (G.t 1) F.mo) λF=>(aD)<|k42<|wQ λk45=>?_
    have HRW:RowKit.Hid (RcpOk (y.tolN (min 12 (2*x.tol))) (T.getD ka [])):=Lib.hid ⟨hrd.trans hdl.symm,HRO.out.bd,hr1,hr6⟩;have HMW:RowKit.Hid (RcpOk (y.tolN (min 12 (2*x.tol))) (T.getD ia [])):=Lib.hid ⟨hmd.trans hdl.symm,HMO.out.bd,hm1,hm6⟩;have G16:=G;refine(wD [] none G) @λw32 G=>(F.zr 0 (G.t 0) λhS=>F.lb (G16.k 4 hS)) λF=>(F.z 1 (G.t 0) F.mo) λF=>(F.z 2 (G.t 0) F.mo) λF=>(F.z 3 (G.t 0) F.mo) λF=>?_;obtain⟨xb46,xo46,xa46,xr46⟩:=HGS.out k (by omega);refine(F.z 4 (G.t 0) (F.is 1 xa46)) λF=>(F.zr 5 (G.t 0) λhS=>F.l1 (xr46 _ ((G16.e 8).nil hS)) 0) λF=>?_;rw[hka]at F;obtain⟨xb47,xo47,xa47,xr47⟩:=HSS.out ka (by omega);refine(F.z 6 (G.t 0) (F.is 1 xa47)) λF=>(F.zr 7 (G.t 0) λhS=>F.l1 (xr47 _ ((G16.e 7).nil hS)) 0) λF=>?_;rw[hra]at F;refine(F.z 8 (G.t 0) F.mo) λF=>(F.z 9 (G.t 0) F.mo) λF=>(F.z 10 (G.t 0) F.mo) λF=>?_;obtain⟨xb48,xo48,xa48,xr48⟩:=HGS.out i (by omega);refine(F.z 11 (G.t 0) (F.is 1 xa48)) λF=>(F.zr 12 (G.t 0) λhS=>F.l1 (xr48 _ ((G16.e 8).nil hS)) 0) λF=>?_;rw[hia]at F;obtain⟨xb49,xo49,xa49,xr49⟩:=HSS.out ia (by omega);refine(F.z 13 (G.t 0) (F.is 1 xa49)) λF=>(F.zr 14 (G.t 0) λhS=>F.l1 (xr49 _ ((G16.e 7).nil hS)) 0) λF=>?_;rw[hma]at F;have hst:=ZaJ (y.tolN (min 12 (2*x.tol))) HWD.out.1 (T.getD ka []) (T.getD ia []) HRW.out HMW.out ra ma rc mc w32 ((HYA.out.ext (G.e 10)).tolN _) (HRR.out.ext (G.e 8) (by simp)) (HMR.out.ext (G.e 8) (by simp));refine(aO 15)<|(F.okp (hst)) ?_
    rintro _ w33 (⟨⟨rfl,-⟩,e9⟩ | ⟨y3,rfl,hI3,-,e9⟩)
    ·refine .inl ⟨_,rfl,?_⟩
     replace G:=G.ex e9
     (try simp only[Exit.inBlock,Exit.then,Exit.jump,reduceIte])
     refine⟨F.ds,?_⟩;exact Lift.lawV_a HWD.out.1 ((HYA.out.ext (G.e 10)).tolN _) HRW.out HMW.out rfl rfl (HRR.out.ext (G.e 8) (by simp)) (HMR.out.ext (G.e 8) (by simp))
    refine .inr ⟨_,rfl,λF=>?_⟩;replace G:=G.ex e9;refine .intro (G.t 0) ?_;clear hst;obtain⟨ya3,yc3,rfl,hY3⟩:=Z51 hI3;clear hI3;obtain⟨L3,hL3⟩:∃L3,L3=ZY (y.tolN (min 12 (2*x.tol))).L.length λk=>alkE (y.tolN (min 12 (2*x.tol))) k (val (T.getD ka [])) (val (T.getD ia [])):=⟨_,rfl⟩;have hL3n:=Z0y (y.tolN (min 12 (2*x.tol))).L.length λk=>alkE (y.tolN (min 12 (2*x.tol))) k (val (T.getD ka [])) (val (T.getD ia []));rw[<-hL3,show (y.tolN (min 12 (2*x.tol))).L.length=x.L.length from hll]at hL3n;rw[<-hL3]at F hY3;have HY3:=Lib.hid hY3;clear hY3;replace G:=G.hr [];refine(F.z 16 (G.t 1) F.mo) λF=>(F.z 17 (G.t 1) F.xt) λF=>(F.z 18 (G.t 1) F.xt) λF=>(F.z 19 (G.t 1) F.mo) λF=>(F.z 20 (G.t 1) F.mo) λF=>(aD)<|k45<|wQ λk50=>?_
    by_cases h1:0<=atI L1 ((lp:Nat):Int)
    ·by_cases h2:0<=atI L2 ((lp:Nat):Int)
     ·have h1i:=h1
      rw[hL1,Z6w hlp]at h1i;have h2i:=h2;rw[hL2,Z6w hlp]at h2i;have h3:0<=atI L3 ((lp:Nat):Int):=by rw[hL3,Z6w (show lp<(y.tolN (min 12 (2*x.tol))).L.length from hll▸hlp)];exact Zi3 (Z3D HRO.out.tub).1 (Z3D HMO.out.tub).1 (show 2*x.tol<=min 12 (2*x.tol) by omega) (HWD.out.2 _ _ _) h1i h2i
      have eT16:=G.e 1;have eT14:=G.e 3;have eT12:=G.e 5;replace G:=G.b [0,2,4,6,7,8,9,10,11,12,13];refine Yg<|(F.m) λF=>(F.y F.neF) λF=>(F.m) λF=>(F.m) λF=>(F.y F.neF) λF=>(F.y F.pF) λF=>(F.m) λF=>(F.m) λF=>(F.y F.neF) λF=>(F.y F.pF) λF=>(F.m) λF=>(F.m) λF=>(F.m) λF=>(F.k0 G (Z4Q (μ:=0) L1 ((lp:Nat):Int) ya1 yc1 _ (HY1.out.ext (G.e 2) (by simp)) (by omega))) λF G=>?_
      refine(F.y F.geT) λF=>(F.m) λF=>(F.m) λF=>(F.m) λF=>(F.k0 G (Z4Q (μ:=0) L2 ((lp:Nat):Int) ya2 yc2 _ (HY2.out.ext (G.e 1) (by simp)) (by omega))) λF G=>(F.y F.geT) λF=>(F.y F.pT) λF=>(F.m) λF=>(F.m) λF=>(F.m) λF=>(F.k0 G (Z4Q (μ:=0) L3 ((lp:Nat):Int) ya3 yc3 _ (HY3.out.ext (G.e 0) (by simp)) (by omega))) λF G=>?_;refine(F.y F.lsF) λF=>(F.y F.pT) λF=>(F.y F.pF) λF=>k50<|(F.cF)<|Yi<|k27 ?_
      replace F:=F.b [4,5,6,7,8,11,12,13];refine Yg<|(F.m) λF=>(F.y F.ad) λF=>(F.m) λF=>?_
      show _/\_;exact⟨by omega,F.u,G.u⟩
     ·have eT16:=G.e 1
      have eT14:=G.e 3;have eT12:=G.e 5;replace G:=G.b [0,2,4,6,7,8,9,10,11,12,13];refine Yg<|(F.m) λF=>(F.y F.neF) λF=>(F.m) λF=>(F.m) λF=>(F.y F.neF) λF=>(F.y F.pF) λF=>(F.m) λF=>(F.m) λF=>(F.y F.neF) λF=>(F.y F.pF) λF=>(F.m) λF=>(F.m) λF=>(F.m) λF=>(F.k0 G (Z4Q (μ:=0) L1 ((lp:Nat):Int) ya1 yc1 _ (HY1.out.ext (G.e 2) (by simp)) (by omega))) λF G=>?_
      refine(F.y F.geT) λF=>(F.m) λF=>(F.m) λF=>(F.m) λF=>(F.k0 G (Z4Q (μ:=0) L2 ((lp:Nat):Int) ya2 yc2 _ (HY2.out.ext (G.e 1) (by simp)) (by omega))) λF G=>(F.y F.geF) λF=>(F.y F.pT) λF=>(F.m) λF=>(F.n) λF=>(F.n) λF=>(F.n) λF=>(F.n) λF=>?_;refine(F.y F.pF) λF=>(F.y F.pF) λF=>k50<|(F.cF)<|Yi<|k27 ?_
      replace F:=F.b [4,5,6,7,8,11,12,13];refine Yg<|(F.m) λF=>(F.y F.ad) λF=>(F.m) λF=>?_
      show _/\_;exact⟨by omega,F.u,G.u⟩
    ·replace G:=G.b [0,2,4,6,7,8,9,10,11,12,13]
     refine Yg<|(F.m) λF=>(F.y F.neF) λF=>(F.m) λF=>(F.m) λF=>(F.y F.neF) λF=>(F.y F.pF) λF=>(F.m) λF=>(F.m) λF=>(F.y F.neF) λF=>(F.y F.pF) λF=>(F.m) λF=>(F.m) λF=>(F.m) λF=>(F.k0 G (Z4Q (μ:=0) L1 ((lp:Nat):Int) ya1 yc1 _ (HY1.out.ext (G.e 2) (by simp)) (by omega))) λF G=>?_
     refine(F.y F.geF) λF=>(F.m) λF=>(F.n) λF=>(F.n) λF=>(F.n) λF=>(F.n) λF=>(F.y F.pF) λF=>(F.m) λF=>(F.n) λF=>(F.n) λF=>(F.n) λF=>(F.n) λF=>(F.y F.pF) λF=>(F.y F.pF) λF=>k50<|(F.cF)<|Yi<|k27 ?_
     replace F:=F.b [4,5,6,7,8,11,12,13];refine Yg<|(F.m) λF=>(F.y F.ad) λF=>(F.m) λF=>?_
     show _/\_;exact⟨by omega,F.u,G.u⟩
   ·refine wp_exit<|k23<|Yg<|(F.m) λF=>(F.y F.ad) λF=>(F.m) λF=>?_
    show _/\_;exact⟨by omega,F.u,G.u⟩
  ·refine wp_exit<|k19<|wR λk51=>(F.k0 G (Z6N (μ:=0) _)) λF G=>(F.m) λF=>k51<|(F.r1) ?_
   exact .inl rfl
end
namespace Lift
open Go Go.Conc Go.RowKit Ev
open Go.ConcM (OsLater)
noncomputable def lB:Code:=(Tryz.f7.body).getD (.refuse "")
theorem ZhI:Tryz.f7.body=some lB:=by kernel_rfl
noncomputable def lF:Frame:={(default:Frame) with fn:=lawF,kind:=.normal}
noncomputable def lA(xs:Array Value):Act:={tmps:=xs++Array.replicate (Tryz.f7.ntmps-xs.size) undef,defers:=[]}
theorem Z3p{Q:Program}(h:Q.funcs[(lawF:Nat)]?=some Tryz.f7)(xs:Array Value): Frame.enter Q lawF xs .normal=lF.at (lA xs) [.code lB]:=by
 simp[Frame.enter,Frame.at,h,ZhI,lF,lA]
theorem lawP:PP.funcs[(lawF:Nat)]?=some Tryz.f7:=by kernel_rfl
theorem lawQ:(Qy.prog 0).funcs[(lawF:Nat)]?=some Tryz.f7:=by kernel_rfl
theorem cl0:ZM PP gJ jmpB true true true false lB=true:=by kernel_rfl
theorem ZhL:PP.inits.idxOf? lawF=none:=by kernel_rfl
theorem ZkN{f:Nat}(h:gJ f=true): gS f=true:=by
 have h1:=Z5R (ZjQ h);unfold gS;rw[List.elem_iff];exact List.mem_append_left _ h1
theorem VR.dup{x y:Value}(h:@VR (jkV TL) (idS S) x y): @VR jk0 (idS S) x x:=by
 have nm:∀{b c:Nat},idS S b=some c->idS S b=some b:=λh=>Z1r (Z0q h).1;have ar:∀{a b:Addr},AR (idS S) a b->AR (idS S) a a:=λh=>by
  cases h with
  | mk q=>exact .mk (nm q)
 induction h with
 | bool b=>exact @VR.bool jk0 _ b
 | int k n=>exact @VR.int jk0 _ k n
 | string s=>exact @VR.string jk0 _ s
 | ptr0=>exact @VR.ptr0 jk0 _
 | ptr q=>exact @VR.ptr jk0 _ _ _ (ar q)
 | sl0 n c=>exact @VR.sl0 jk0 _ n c
 | sl n c q=>exact @VR.sl jk0 _ _ _ n c (ar q)
 | map0=>exact @VR.map0 jk0 _
 | map q=>exact @VR.map jk0 _ _ _ (nm q)
 | func hf hx _ hy _ ih ih2 =>
  refine @VR.func jk0 _ _ _ _ _ _ _ ?_ rfl (λi a b p q=>?_) rfl (λi a b p q=>?_)
  ·cases hf with
   | func f h=>exact @FnR.func jk0 _ f (ZkN h)
   | yield q=>exact @FnR.yield jk0 _ _ _ (nm q)
  ·rw[p]at q
   obtain rfl:=Y1 q;obtain⟨b,hb⟩:∃b,_=some b:=⟨_,Y2 (hx▸(Y0.1 p).1)⟩;exact ih i a b p hb
  ·rw[p]at q
   obtain rfl:=Y1 q;obtain⟨b,hb⟩:∃b,_=some b:=⟨_,Y2 (hy▸(Y0.1 p).1)⟩;exact ih2 i a b p hb
 | func0=>exact @VR.func0 jk0 _
 | iface t _ ih=>exact @VR.iface jk0 _ _ _ t ih
 | iface0=>exact @VR.iface0 jk0 _
 | agg hs _ ih =>
  refine @VR.agg jk0 _ _ _ rfl λi a b p q=>?_;rw[p]at q;obtain rfl:=Y1 q;obtain⟨b,hb⟩:∃b,_=some b:=⟨_,Y2 (hs▸(Y0.1 p).1)⟩;exact ih i a b p hb
 | tuple hs _ ih =>
  refine @VR.tuple jk0 _ _ _ rfl λi a b p q=>?_;rw[p]at q;obtain rfl:=Y1 q;obtain⟨b,hb⟩:∃b,_=some b:=⟨_,Y2 (hs▸(Y0.1 p).1)⟩;exact ih i a b p hb
 | junk _ _ _ _=>exact @VR.junk jk0 _ _ (.inr rfl) (by unfold J0;simp) ⟨by unfold J0;simp,by unfold J0;simp⟩ (by unfold J0;simp)
theorem ZhK(e:Ending)(u:World)(T:Nat->Question->Nat)(h:LawV PreL e (re u T)):LawV PreL e u:=by
 rcases h with h | ⟨t,xs,h0,h1,h2⟩
 ·exact .inl h
 ·exact .inr ⟨t,xs,h0,h1,Zio h2⟩
theorem Zf8:@Z0I (jkV TL) PP ((jkV TL).law lawF) (¬(jkV TL).gd lawF) false lB:=by
 have:=@Z1W (jkV TL) PP gJ true (λf q=>q) (λq=>by cases q) jmpB ZhH lB true true false cl0;have e1:(true=true)=((jkV TL).law lawF):=by
  show (true=true)=(lawF=lawF);simp
 have e2:(true=true)=(¬(jkV TL).gd lawF):=by
  show (true=true)=(¬gJ lawF=true);have:gJ lawF=false:=by decide
  simp[this]
 rw[<-e1,<-e2];exact this
theorem ZjZ{a:Act}(ht:@VRs (jkV TL) (idS S) a.tmps a.tmps)(hd:a.defers=[]): @Stk (jkV TL) PP (Qy.F 0) (idS S) [lF.at a [.code lB]] [lF.at a [.code lB]]:=by
 have hown:(Qy.F 0)[(lawF:Nat)]?=PP.funcs[(lawF:Nat)]?:=lawQ.trans lawP.symm;letI:Jk:=jkV TL;obtain⟨tm,df⟩:=a;obtain rfl:df=[]:=hd;refine⟨.cons ?_ .nil,⟨.inl rfl,λh=>absurd rfl h⟩,trivial⟩;refine @FrR.mk (jkV TL) PP (Qy.F 0) (idS S) _ _ ?c1 ?c2 ?c3 ?c4 ?c5 ?c6 ?c7 ?c8
 case c1=>exact(rfl:(lawF:Nat)=lawF)
 case c2=>exact hown
 case c3=>exact ht
 case c5=>exact⟨.nil,λ_=>rfl⟩
 case c6=>exact .run
 case c7=>exact⟨(rfl:CallKind.normal = .normal),.inl (rfl:CallKind.normal = .normal)⟩
 case c8=>exact .none
 case c4=>exact .cons (.code Zf8) .nil
theorem Zf9{xs:Array Value}(h:@VRs (jkV TL) (idS S) xs xs): @VRs (jkV TL) (idS S) (lA xs).tmps (lA xs).tmps:=by
 letI:Jk:=jkV TL;unfold lA;dsimp only;exact Arr.append h (Arr.replicate _ .undef)
theorem law_run(W:World)(a0:Option Addr)(len0 cap0:Nat)(z0:List Int)(h:ZaY .i64 W a0 len0 cap0 z0)(hb:∀x,a0=some x->x.spot=none/\∃cs e fz,W.heap[x.block]?=some (.cells cs e fz)):
  Run PP (Zj8 W) (solo (G (Frame.enter PP lawF #[.slice a0 len0 cap0] .normal) []) W) #[]:=by
 obtain⟨S,hS⟩:∃S:Nat->Prop,S=λb=>∃x,a0=some x/\b=x.block:=⟨_,rfl⟩;have hpv:PV S (.slice a0 len0 cap0):=by
  cases a0 with
  | none=>trivial
  | some x=>show S x.block;rw[hS];exact⟨x,rfl,rfl⟩
 obtain⟨v,hsh,hwh,hshut⟩:=@Z1F (jkV TL) S W PP (Qy.F 0) trivial (λc hc=>by
  rw[hS]at hc;obtain⟨x,e,rfl⟩:=hc;exact(hb x e).2)
 have hrow:∀T,ZaY .i64 (re v T) a0 len0 cap0 z0:=by
  intro T
  rcases h with h | ⟨x,rfl,h1,h2,h3,h4,h5⟩
  ·exact .inl h
  ·refine .inr ⟨x,rfl,h1,h2,h3,λi hi=>?_,h5⟩
   obtain⟨bb,off,sp⟩:=x;obtain⟨rfl,_⟩:=hb _ rfl;have e:∀n,(⟨bb,off,none⟩:Addr).add n=⟨bb,off+n,none⟩:=λn=>by
    unfold Addr.add
    split
    ·rename_i q;subst q;rfl
    ·rfl
   have h6:=h4 i hi;rw[e]at h6⊢;letI:Jk:=jkV TL;exact Z6I (S:=S) (w:=W) (w1:=W) (v2:=re v T) (λ_ _=>rfl) ⟨hsh.size,hsh.os,hsh.at_⟩ (b:=bb) (o:=off+i) (by rw[hS];exact⟨_,rfl,rfl⟩) h6 trivial
 have hvr:@VRs (jkV TL) (idS S) #[.slice a0 len0 cap0] #[.slice a0 len0 cap0]:=@Arr.one (jkV TL) _ _ (@VR (jkV TL) (idS S)) _ _ (@PV.vr (jkV TL) S _ hpv);have hvr0:@VRs jk0 (idS S) #[.slice a0 len0 cap0] #[.slice a0 len0 cap0]:=@Arr.one jk0 _ _ (@VR jk0 (idS S)) _ _ (@PV.vr jk0 S _ hpv);have hw0:@WH jk0 (@Iv jk0 (Qy.prog 0) (Qy.F 0)) (idS S) v v:=by
  refine @WH.mk jk0 _ _ _ _ (λb c hbc=>?_) (Zd1 S) rfl;obtain⟨hs,rfl⟩:=Z0q hbc;obtain⟨o,o',g1,g2,g3⟩:=@WH.on (jkV TL) _ _ _ _ hwh _ _ hbc;obtain⟨cs,e,g4⟩:=hshut _ _ hbc;rw[g1]at g4;obtain rfl:=Y1 g4;refine⟨_,_,g1,g1,?_⟩
  cases g3 with
  | cells q hf =>
   refine @OR.cells jk0 _ _ _ _ _ _ _ ⟨rfl,λi x y p1 p2=>?_⟩ (.inr rfl);rw[p1]at p2;obtain rfl:=Y1 p2;obtain⟨z,hz⟩:∃z,_=some z:=⟨_,Y2 (q.1▸(Y0.1 p1).1)⟩;exact VR.dup (q.2 i x z p1 hz)
 have hE0:=@Z1Y jk0 (Qy.prog 0) (Qy.F 0) (λf=>gS f=true) (idS S) v v Z2W gokS recS lawF #[.slice a0 len0 cap0] #[.slice a0 len0 cap0] (by decide) hvr0 hw0 (LawV PreL) ZhK (λu q=>by
   rcases q with q | ⟨_,_,_,q,_⟩<;>cases q) (λT=>lawW a0 len0 cap0 z0 (re v T) (hrow T))
 have hfr0:=@Z11 jk0 (Qy.prog 0) (Qy.F 0) (λf=>gS f=true) (idS S) Z2W lawF #[.slice a0 len0 cap0] #[.slice a0 len0 cap0] hvr0 (by decide) gokS .normal (.inl rfl);have hself:@Self jk0 (Qy.prog 0) (Qy.F 0) [Frame.enter (Qy.prog 0) lawF #[.slice a0 len0 cap0] .normal,poison] v:=by
  letI:Jk:=jk0;refine⟨_,[],idS S,rfl,ZhF S,⟨.cons hfr0 .nil,⟨.inl ?_,λh=>absurd rfl h⟩,trivial⟩,⟨hw0.on,hw0.inj,λ_ _=>rfl,rfl⟩⟩;rw[Z3p lawQ]
  rfl
 rw[Z3p lawQ]at hself;have hE1:Ends (Qy.prog 0) (Done PP (Qy.F 0) lawF (LawV PreL)) [lF.at (lA #[.slice a0 len0 cap0]) [.code lB],poison] v:=by
  rw[<-Z3p lawQ];exact hE0
 have hst:=ZjZ (Zf9 hvr) rfl;have hsure:=Zde TL PreL tgtL (R:=LawV PreL) (λt xs u q=>by
   rcases q with q | ⟨t',ys,h0,q,q2⟩
   ·cases q
   ·simp only[Ending.panicked.injEq,List.cons.injEq,and_true]at q
    obtain⟨rfl,rfl⟩:t=t'/\xs=ys:=by
     simp only[bunV]at q;simpa using q
    exact q2) (λx u q=>by
   rcases q with q | ⟨_,_,_,q,_⟩
   ·exact Ending.returned.inj q
   ·cases q) (λch u q=>by
   rcases q with q | ⟨t,ys,h0,q,q2⟩
   ·cases q
   ·exact⟨t,ys,h0,Ending.panicked.inj q⟩) ZhL rfl hst hwh (λa b q=>hshut a b q) hself hE1
 rw[Z3p lawP];have hp:Past (Dk λ_=>False) W.heap.size #[]:=by
  have e:(Dk λ_=>False)=λ_=>False:=by
   funext l
   simp[Dk]
  rw[e];exact past_nil.mono (Nat.zero_le _)
 exact hsure W ⟨rfl,rfl,rfl⟩ #[run1 _ []] none #[] (λ_=>0) rfl (leavers_one _ _) hp
end Lift
namespace dyeShades
open Go Go.ChangeShapes Go.WideShapes Go.ChangeAt Go.RowKit Go.Conc Go.ConcM
open Go.ChangeMaps (open_string shut_string)
theorem k1:(Rows.dyeShadesRow.wf (OpenSpec.ofChange Rows.dyeShadesSpec):Bool)=true:=by kernel_rfl
theorem k4:(Tryz.f7.params.all (Tryz.pinned.checked.prog.readableRec ·):Bool)=true:=by kernel_rfl
theorem k5:(namedTie Tryz.pinned.checked.prog Rows.dyeShadesRow.named Rows.dyeShadesSpec.vars:Bool)=true:=by kernel_rfl
theorem k6:((Rows.dyeShadesRow.stops==[]):Bool)=true:=by kernel_rfl
theorem k8:((Rows.dyeShadesRow.knobs==[]):Bool)=true:=by kernel_rfl
theorem k10:((Rows.dyeShadesRow.inPlace==Tryz.pinned.checked.prog.inPlace 7):Bool)=true:=by kernel_rfl
theorem k11:((Rows.dyeShadesRow.unfollowed==Tryz.pinned.checked.prog.unfollowed 7):Bool)=true:=by kernel_rfl
theorem k12:((Rows.dyeShadesRow.recurses==Tryz.pinned.checked.prog.recurses 7):Bool)=true:=by kernel_rfl
theorem k13:((Rows.dyeShadesRow.named==Tryz.pinned.checked.prog.varsNamed 7):Bool)=true:=by kernel_rfl
theorem k14:((Rows.dyeShadesRow.maps==(Tryz.f7.params.toList++Rows.dyeShadesSpec.plain.varTypes Tryz.pinned.checked.prog).any (Tryz.pinned.checked.prog.mapsRec ·)):Bool)=true:=by kernel_rfl
theorem k15:((Rows.dyeShadesRow.ifaces==(Tryz.f7.params.toList++Rows.dyeShadesSpec.plain.varTypes Tryz.pinned.checked.prog).any (Tryz.pinned.checked.prog.ifacesRec ·)):Bool)=true:=by kernel_rfl
theorem k16:((Rows.dyeShadesRow.mapsOut==Tryz.pinned.checked.prog.mapsAmong Tryz.f7.resultTypes.toList):Bool)=true:=by kernel_rfl
theorem k17:((Rows.dyeShadesRow.loops==(Tryz.f7.params.toList++Rows.dyeShadesSpec.plain.varTypes Tryz.pinned.checked.prog).any (Tryz.pinned.checked.prog.loopsFrom ·)):Bool)=true:=by kernel_rfl
theorem k18:((Rows.dyeShadesRow.wideKeys==(Tryz.f7.params.toList++Rows.dyeShadesSpec.plain.varTypes Tryz.pinned.checked.prog++Tryz.f7.resultTypes.toList).any (Tryz.pinned.checked.prog.wideKeysFrom ·)):Bool)=true:=by kernel_rfl
theorem k19:(Rows.dyeShadesSpec.vars.all (Tryz.pinned.checked.prog.varReadable ·):Bool)=true:=by kernel_rfl
theorem k20:(Tryz.f7.resultTypes.all (λt=>Tryz.pinned.checked.prog.readableRec t&&decide (t<Tryz.pinned.checked.prog.types.size)):Bool)=true:=by kernel_rfl
theorem k21:((Rows.dyeShadesRow.ifacesOut==Tryz.f7.resultTypes.toList.any (Tryz.pinned.checked.prog.ifacesRec ·)):Bool)=true:=by kernel_rfl
theorem k22:((Rows.dyeShadesRow.loopsOut==Tryz.f7.resultTypes.toList.any (Tryz.pinned.checked.prog.loopsFrom ·)):Bool)=true:=by kernel_rfl
theorem k23:((Rows.dyeShadesRow.plainKeys==Tryz.pinned.checked.prog.plainKeys):Bool)=true:=by kernel_rfl
theorem k24:(Rows.dyeShadesRow.shortTexts.isNone:Bool)=true:=by kernel_rfl
theorem k27:((Rows.dyeShadesRow.lifted==Tryz.pinned.checked.prog.liftsFinal):Bool)=true:=(congrArg (λx=>(Rows.dyeShadesRow.lifted==x)) liftsFinal).trans (by kernel_rfl)
theorem k28:((Tryz.pinned.checked.prog.make==some Rows.dyeShadesRow.make):Bool)=true:=(congrArg (λx=>(x==some Rows.dyeShadesRow.make)) made).trans (by kernel_rfl)
theorem k29:((Rows.dyeShadesRow.domain.isEmpty&&Rows.dyeShadesRow.kinds==[]):Bool)=true:=by kernel_rfl
theorem k30:((Rows.dyeShadesRow.pinned==Rows.dyeShadesRow.pinnedBy):Bool)=true:=by kernel_rfl
theorem k31:((Rows.dyeShadesRow.veiled==(Tryz.f7.params.toList++Rows.dyeShadesSpec.plain.varTypes Tryz.pinned.checked.prog++Tryz.f7.resultTypes.toList).any (Tryz.pinned.checked.prog.veiledRec ·)):Bool)=true:=by kernel_rfl
theorem k32:(Rows.dyeShadesRow.veiledFits Tryz.pinned.checked.prog Tryz.f7.params.toList (Tryz.f7.params.toList++Rows.dyeShadesSpec.plain.varTypes Tryz.pinned.checked.prog++Tryz.f7.resultTypes.toList):Bool)=true:=by kernel_rfl
theorem closed:joinedFacts Tryz.pinned.checked.prog 7 Tryz.f7 Rows.dyeShadesSpec Rows.dyeShadesRow=true:=Z5C k1 Zdc Zi1 k4 k5 k6 Zeb k8 Zdb k10 k11 k12 k13 k14 k15 k16 k17 k18 k19 k20 k21 k22 k23 k24 stopsHeard mayEnter k27 k28 k29 k30 k31 k32
theorem named:Tryz.pinned.checked.prog.funcNamed Rows.dyeShadesRow.func=some 7:=by kernel_rfl
theorem inst:Tryz.f7.isInstance Tryz.pinned.checked.prog Rows.dyeShadesRow.origin Rows.dyeShadesRow.targs:=of_decide_eq_true (by kernel_rfl)
theorem wrap:Tryz.f7.isWrapper Tryz.pinned.checked.prog Rows.dyeShadesRow.wrapper Rows.dyeShadesRow.mainSum:=by unfold Func.isWrapper;first | (rw[if_pos (by decide +kernel)];kernel_rfl) | (rw[if_neg (by decide +kernel)];exact⟨rfl,rfl⟩)
theorem laidOut:laidOutB Tryz.prog=true:=Zdc
theorem noInit:Tryz.prog.inits.idxOf? 7=none:=by kernel_rfl
theorem sliceInt:Tryz.prog.cellsOf 3=1:=by kernel_rfl
theorem okWide_cells{P:Program}{w:World}{r:Reach}{base:Nat}{t e:TypeId}{a:Option Addr}{n c:Nat}(ht:P.underlying t=some (.slice e))(h:Value.okWide P w r base t (.slice a n c)): ∀x,a=some x->x.spot=none/\∃cs e fz,w.heap[x.block]?=some (.cells cs e fz):=by
 rintro x rfl;simp only[Value.okWide,ht,Cell.okWide,Cell.ok]at h;obtain⟨_,_,_,h1,row,cells,h2,_⟩:=h;refine⟨h1,?_⟩;unfold World.shape? at h2
 cases hh:w.heap[x.block]? with
 | none=>rw[hh]at h2;cases h2
 | some o =>
  cases o with
  | cells cs e fz=>exact⟨cs,e,fz,rfl⟩
  | _=>rw[hh]at h2;cases h2
theorem lifted(os:Os)(started:os.Started)(H:Type)(enc:TypeId×Value->H)(F:Stop.Interp):
  ReturnsInLeavingWide Rows.dyeShadesRow.assume Tryz.checked os 7 .any (Rows.dyeShadesSpec.pre6 enc Tryz.prog Tryz.f7 Rows.dyeShadesRow.domain false) ((OpenSpec.ofChange Rows.dyeShadesSpec).postWith enc Tryz.prog Tryz.f7 F (outsideKept [.timePasses]) false true false):=by
 refine returnsInLeavingWide_of_change_time (C:=Tryz.checked) own started Tryz.func7
  (ChangeSpec.witness6c (enc:=enc) (C:=Tryz.checked) ⟨#[],#[.slice none 0 0],[]⟩ 8 (by as_aux_lemma=>kernel_rfl) (by as_aux_lemma=>kernel_rfl) (by as_aux_lemma=>kernel_rfl) (by as_aux_lemma=>kernel_rfl)) ?_
 intro W base args ds gs before hval0 hW _ _ _;have hval:∀(j:Nat) t v,Tryz.f7.params[j]?=some t->args[j]?=some v->Value.okWide Tryz.prog W .any base t v:=hval0;have hW':=hW;obtain⟨p,q,hA0,hV,rfl,hfz,hnd⟩:=hW;have hA:DataW.TrodAll enc Tryz.prog W 0 (λ_=>true) true Tryz.f7.params.toList args.toList ds p:=hA0;rw[Tryz.params7]at hA hval;obtain⟨v0,vs0,d0,ds0,p0,q0,hargs,rfl,rfl,h0,r0⟩:=trodAll_cons hA;obtain⟨rfl,rfl,rfl⟩:=trodAll_nil r0;obtain rfl:args=#[v0]:=by cases args;simp_all
 obtain⟨rfl,rfl⟩:=trodVars_none hV;have hok:=hval 0 22 v0 rfl rfl;obtain⟨a0,len0,cap0,rfl⟩:=okWide_slice Tryz.underlying22 hok;have hcl:=okWide_cells Tryz.underlying22 hok;have k0:=h0;have lt0:∀x∈p0,x.block<W.heap.size:=by obtain⟨m,hm⟩:=k0;exact DataW.trod_lt m _ _ _ hm
 obtain⟨z0,w0⟩:∃zs,ZaY .i64 W a0 len0 cap0 zs:=by
  obtain⟨fuel,hf⟩:=h0
  rcases open_ints Tryz.underlying22 Tryz.underlying3 sliceInt hf with⟨hcs,_⟩ | ⟨x,l,c,zs,hcs,_,hl,hm,hz,_,hcell,hwz⟩
  ·simp[Value.cells]at hcs
   obtain⟨rfl,rfl,rfl⟩:=hcs;exact⟨[],.inl ⟨rfl,rfl,rfl,rfl⟩⟩
  ·simp[Value.cells]at hcs
   obtain⟨rfl,rfl,rfl⟩:=hcs;exact⟨zs,.inr ⟨_,rfl,hl,hm,by simpa using hz,hcell,hwz⟩⟩
 clear hA0 hval0;obtain⟨M,last,o,w',t',r1,r2,r3,v,e,hp,g1,g2,g3,g4⟩:=Lift.law_run W a0 len0 cap0 z0 w0 hcl;refine⟨M,last,o,w',t',r1,r2,r3,v,e,⟨?_,hp.2.2.2.1⟩,g1,g2,g3,g4⟩;obtain⟨rfl,hold,hsz,_,hout⟩:=hp;have bel:Below W.heap.size W {w' with os:=W.os,tape:=W.tape}:=⟨rfl,rfl,hout,hsz,hold⟩;have hp2:Rows.dyeShadesSpec.post enc Tryz.prog Tryz.f7 false true false false W #[.slice a0 len0 cap0] (.bool true) {w' with os:=W.os,tape:=W.tape}:=
  ⟨_,_,_,[],_,[],hW',trodAll_mk1 (shut_bool Tryz.underlying4 _),(trodAll_cons_mk (Below.trod laidOut (by as_aux_lemma=>kernel_rfl) (of_decide_eq_true (by as_aux_lemma=>kernel_rfl)) k0 bel lt0) trodAll_mk0),rfl,bel.frame _,λh=>by cases h⟩
 obtain⟨ds,gs,before,pr,pa,pv,q1,q2,q3,q4,q5,_⟩:=hp2;exact⟨ds,gs,before,pr,pa,pv,q1,q2.of_heap (by rfl),q3.of_heap (by rfl),q4.of_heap (by rfl),q5,λh=>by cases h⟩
theorem said:Rows.DyeShadesSaid:=
 OpenClaim.holds_of_wide_leaving_time 7 Tryz.f7 rfl rfl rfl rfl rfl rfl rfl ⟨rfl,rfl,rfl,rfl,rfl⟩ rfl rfl rfl rfl rfl named Tryz.func7 closed
  inst wrap (λos started H enc _ F=>lifted os started H enc F)
end dyeShades
section
variable{μ:Nat}
theorem dyeShades_said:Rows.DyeShadesSaid:=dyeShades.said
end
end Go.Proofs.YtfelljbfeoplhaaGreat
