/- Parts of a proof: Dkv, LDyeSplits, Zm, FrDyeSplits, ClDyeSplits. No conditions. -/
import Derived.Below
import Derived.ChangeOld
import Derived.Conc.Holds
import Derived.Conc.HoldsTime
import Derived.Leaving
import Derived.OpenShut
import Derived.ProofKit
import Derived.ShutString
import Derived.WalkKit
import Derived.Test.YtfelljbfeoplhaaGreatPsp1
import Derived.Test.YtfelljbfeoplhaaGreatPsp8
import Derived.Test.YtfelljbfeoplhaaGreatPsp11
set_option linter.unusedVariables false
set_option linter.unusedSimpArgs false
set_option linter.unusedSectionVars false
set_option maxRecDepth 100000
set_option maxHeartbeats 4000000
namespace Go.Proofs.YtfelljbfeoplhaaGreat
variable{w:Go.World}{base c n:Nat}{a:Option Go.Addr}{e:Go.TypeId}{S:Nat→Prop}
section
open Go.RowKit
variable{μ:Nat}
theorem Z7y{B:Int}:∀(ds met:List (List Int)),(∀d∈ds,numE d B 9=0)→(met++ds).Nodup→dyeE B met ds=0
 | [],_,_,_=>rfl
 | d::ds,met,h,hn=>by
  rw[dyeE,if_neg (by simp[h d (by simp)])];have h1:d ∉ met:=fun hm=>by
   rw[List.nodup_append]at hn;exact hn.2.2 d hm d (by simp) rfl
  rw[if_neg h1];exact Z7y ds (met++[d]) (fun e he=>h e (by simp[he])) (by simpa using hn)
theorem Z5F{B:Int}:∀(ls:List (List Int)),(∀l∈ls,numE l B 3=0∧l.sum≠0)→Z1S B ls=0
 | [],_=>rfl
 | l::ls,h=>by
  obtain⟨h1,h2⟩:=h l (by simp);rw[Z1S,if_neg (by simp[h1]),if_neg h2];exact Z5F ls fun m hm=>h m (by simp[hm])
theorem Zkg{x:Vm}(b1:1≤x.B)(b3:x.B≤3)(d1:1≤x.D.length)(d4:x.D.length≤4)(dl:∀p∈x.D,(p.2.length:Int)=x.B∧∀n∈p.2,0≤n∧n≤9)(nd:(x.D.map (·.2)).Nodup)(l1:1≤x.L.length)(l3:x.L.length≤3)(ll:∀p∈x.L,(p.2.length:Int)=x.B∧∀n∈p.2,0≤n∧n≤3)(ls:∀p∈x.L,p.2.sum≠0)(t0:0≤x.tol)(t12:x.tol≤12):VOk x:=by
 refine⟨?_,b1,b3,d1,d4,dl,l1,l3,ll,t0,t12⟩;have h2:sizE ((x.D.map (·.2)).length:Nat) 4=0:=Z8O (by simp;omega) (by simp;omega);have h4:sizE ((x.L.map (·.2)).length:Nat) 3=0:=Z8O (by simp;omega) (by simp;omega);have h3:dyeE x.B [] (x.D.map (·.2))=0:=Z7y _ _ (fun d hd=>by obtain⟨p,hp,rfl⟩:=List.mem_map.1 hd;exact Z8J (dl p hp).1 (dl p hp).2) (by simpa using nd);have h5:Z1S x.B (x.L.map (·.2))=0:=Z5F _ (fun d hd=>by obtain⟨p,hp,rfl⟩:=List.mem_map.1 hd;exact⟨Z8J (ll p hp).1 (ll p hp).2,ls p hp⟩);rw[chk6 (Z2c.2 ⟨b1,b3⟩) h2 h3 h4 h5,Z2c.2 ⟨t0,t12⟩]
 rfl
theorem ZeL{size m: Nat}{cs:List Value}(h:w.ownsRow base e size (.slice a m c) n cs): n≤c:=by
 rcases h.2 with⟨hv,hn⟩ | ⟨g,cap,cur,hv,-,-,hn,-⟩
 ·injection hv with h1 h2 h3;omega
 ·injection hv with h1 h2 h3;omega
theorem Zhi{W: World}{b b2: Nat}{M:List (Value×List Int)}(oo:w.ownsRow base 22 1 (.slice a M.length c) M.length (M.map (·.1)))(fam:FamT w b2 M)(e:Ext [b] w W)(h1:b<base)(h2:b<b2): Z0s W a M:=
 Z1z (Z0q oo e (by simpa using h1)) (Z0H fam fun v n xs h=>Z0q h e (by simpa using h2))
def Zgu(dm:Nat)(w0:World)(b k:Nat)(nv:Value)(w:World)(e:Ending)(w':World):Prop:=∃x:Vm,e = .returned (.agg #[.int .i64 x.B,.slice x.da x.D.length x.dc,.slice x.la x.L.length x.lc,.int .i64 x.tol])∧VOk x∧(x.D.length≤dm∧x.D.length≤x.dc)∧AtB b x w'∧Zg w0 w' b (k+100) nv∧Ext [b] w w'
theorem Zdx(dm:Nat)(hdm1:1≤dm)(hdm:dm≤4)(w0 w:World)(b k:Nat)(nv:Value)(h:Zg w0 w b k nv)(hk:k≤800000):
  Calls (Qy.prog μ) 13 #[.pointer (some ⟨b,0,none⟩),.int .i64 ((dm:Nat):Int)] w (Zgu dm w0 b k nv w):=by
 have HL:=h;have hbw:=Z2U HL;have hb0:=HL.1;have hws:w0.heap.size≤w.heap.size:=HL.2.2.1.size;have E:Ext [b] w w:=Ext.refl _ _;clear h;have G:=((Bk.nil w).cl HL).ce E;refine(ent 66 Tryz.f13 rfl) fun F=>wR fun k1=>(F.al G Qy.zeroValue27) @fun n4 w1 _ yy F G=>k1<|wR fun k2=>(F.m) fun F=>(F.k (Z7E w0 _ b _ nv 1 3 (G.l 2) (by omega) (by omega) (by omega) (by omega) (by omega))) ?_
 rintro _ w2 ⟨bz,rfl,hbz1,hbz2,HL,e9⟩;refine⟨_,rfl,fun F=>?_⟩;replace G:=G.xl 2 e9 HL;obtain⟨bn,rfl⟩:=Int.eq_ofNat_of_zero_le (show 0≤bz by omega);refine(F.m) fun F=>(F.m) fun F=>(F.k (Z0P w0 _ b _ nv 6 (G.l 2) (by omega) (by omega) (by omega))) ?_;rintro _ w3 ⟨u,rfl,hu0,hu1,HL,e9⟩;refine⟨_,rfl,fun F=>?_⟩;replace G:=G.xl 2 e9 HL;refine(F.bs G 1 #[.int .i64 0,.int .i64 1,.int .i64 1,.int .i64 2,.int .i64 u] Qy.zeroValue3) @fun n15 w4 _ yy F G=>(F.k (Zgb w0 _ b _ nv n15 _ [0,1,1,2,u] (G.l 3) (by omega) (G.q 0) (by omega) (by simp) (by simp))) ?_;rintro _ w5 ⟨tl,rfl,htm,HL,e9⟩;refine⟨_,rfl,fun F=>?_⟩;replace G:=G.xl 3 e9 HL;have htl:0≤tl∧tl≤6:=by simp only[Yc,Ya,or_false]at htm;omega
 replace G:=G.d 0;refine(F.y (F.bv #[.int .i64 ((bn:Nat):Int),.slice none 0 0,.slice none 0 0,.int .i64 tl])) fun F=>(F.al G Qy.zeroValue27) @fun n5 w6 _ yy F G=>(F.sr G 0) fun G=>k2<|wQ fun k3=>wR fun k4=>(F.m) fun F=>(F.m) fun F=>(F.k (Z7E w0 _ b _ nv 1 ((dm:Nat):Int) (G.l 3) (by omega) (by omega) (by omega) (by omega) (by omega))) ?_
 rintro _ w8 ⟨n,rfl,hn1,hn2,HL,e9⟩;refine⟨_,rfl,fun F=>?_⟩;replace G:=G.xl 3 e9 HL;refine(F.m) fun F=>?_;rw[show n=n-((0:Nat):Int) by omega]at F;have hb4:=Z3 (G.q 1);have hb5:=Z3 (G.q 0);have hbb:=Z2U (G.l 3);have hwR0:w.heap.size≤w8.heap.size:=by exact(G.e 2).size
 have oo:w8.ownsRow w8.heap.size 22 1 (.slice none 0 0) 0 (([]:List (Value×List Int)).map (·.1)):=World.ownsRow_nil _ _ _ _;have fam:FamT w8 w8.heap.size []:=Z6E _ _;replace G:=((G.hr [b,n5]).co oo).cf fam;refine k4<|Yh ?_
 replace G:=G.rL 6 (show Zg w0 w8 b (k+4+10*0) nv from Zu (G.l 6) (by omega));refine lpB (F.b [0,4,5]) (G.b [2,4,5]) (dm) (fun i Lv Sv W=>∃da:Option Addr,∃dc:Nat,∃O:List (Value×List Int),Lv=[(6,.int .i64 (n-((i:Nat):Int)))]∧Sv=[.q n5 (#[.int .i64 ((bn:Nat):Int),.slice da O.length dc,.slice none 0 0,.int .i64 tl]) 27,.l w0 b (k+4+10*i) nv]∧W.ownsRow w8.heap.size 22 1 (.slice da O.length dc) O.length (O.map (·.1))∧FamT W w8.heap.size O∧(∀p∈O,(p.2.length:Int)=bn∧∀m∈p.2,0≤m∧m≤9)∧(O.map (·.2)).Nodup∧O.length≤i∧(0<i→0<O.length)∧(i:Int)≤n) ⟨_,_,F.u,G.u,none,0,[],rfl,rfl,(G.o 1),(G.f 0),(by simp),(by simp),(by simp),(by simp),(by omega)⟩ ?_;clear F G;rintro i _ w9 _ _ hi1 ⟨da,dc,O,rfl,rfl,oo,fam,hOB,hnd,hOl,hO1,hin⟩ F G;replace G:=((G.z).co oo).cf fam;refine wQ fun k5=>wR fun k6=>(F.m) fun F=>(F.y F.gt) fun F=>k6<|F.ci (fun hc22=>?_) (fun hc22=>?_)
 ·refine Yi<|k5<|wQ fun k7=>Yh<|wR fun k8=>(F.m) fun F=>(F.y (F.fd 0)) fun F=>(F.y (F.lc (G.q 2))) fun F=>?_
  have fam:=G.f 0;have hflt:=Lib.hid (Z9s fam);obtain⟨B1,hB1⟩:∃B1,B1=w9.heap.size:=⟨_,rfl⟩;rw[←hB1]at hflt;have hB1w:w8.heap.size≤B1:=by rw[hB1];exact(G.e 4).size
  refine(F.k (Z5i w0 _ b _ nv bn 9 (G.l 3) (by omega) (by omega) (by omega) (by omega))) ?_;rintro _ w10 ⟨ra,rc,xs,rfl,hxl,hxb,ro,HL,e9⟩;refine⟨_,rfl,fun F=>?_⟩;replace G:=G.xl 3 e9 HL;rw[←hB1]at ro;replace G:=G.co ro;refine(F.m) fun F=>k8<|wR fun k9=>(F.y (F.fd 1)) fun F=>(F.y (F.lc (G.q 3))) fun F=>(F.m) fun F=>?_
  have ro:=G.o 0;have fam:=G.f 1;have oo:=G.o 2;have hin2:=Zep (μ:=μ) O xs da ra dc rc w10 (Z1z oo fam) (by rw[hxl];exact ZL ro hxl.symm) (by omega) (fun p hp=>by have:=(hOB p hp).1;omega) (by omega);rw[hxl]at hin2;refine(F.k (hin2)) ?_;rintro _ w11 ⟨rfl,e9⟩;refine⟨_,rfl,fun F=>?_⟩;replace G:=G.ex e9;clear hin2;refine(F.y F.nd) fun F=>k9<|F.ci (fun hc33=>?_) (fun hc33=>?_)
  ·have ro:=G.o 0
   have fam:=G.f 1;have fam2:=Z4m (Z4l (b1:=B1) (L:=[(Value.slice ra bn rc,xs)]) ⟨fun p hp=>(by obtain rfl:p=(Value.slice ra bn rc,xs):=(by simpa using hp);rw[show ((Value.slice ra bn rc,xs):Value×List Int).2.length=bn from hxl];exact ro),List.pairwise_singleton _ _⟩ fam hflt.out hB1w) (M:=O++[(Value.slice ra bn rc,xs)]) List.perm_append_comm;have fam:=fam2;clear fam2;obtain⟨P,hP⟩:∃P,P=O++[(Value.slice ra bn rc,xs)]:=⟨_,rfl⟩;have hPl:O.length+1=P.length:=by rw[hP,Ym];rfl
   rw[←hP]at fam;have hPB:∀p∈P,(p.2.length:Int)=bn∧∀m∈p.2,0≤m∧m≤9:=by intro p hp;rw[hP]at hp;rcases List.mem_append.1 hp with hp | hp;(· exact hOB p hp);(· simp only[Yc,Ya,or_false]at hp;subst hp;exact⟨by show ((xs.length:Nat):Int)=_;omega,hxb⟩)
   have hPn:(P.map (·.2)).Nodup:=by rw[hP,List.map_append,List.nodup_append];exact⟨hnd,by simp,fun y hy z hz=>by simp only[List.map_cons,List.map_nil,Yc,Ya,or_false]at hz;subst hz;intro e;subst e;exact hc33 hy⟩
   replace G:=G.rF 1 fam;clear fam;refine Yg<|(F.y (F.fd 1)) fun F=>(F.y (F.lc (G.q 3))) fun F=>(F.m) fun F=>(F.bs G 1 #[.slice ra bn rc] Qy.zeroValue22) fun yy F G=>?_
   have hEs:=(G.e 6).size;have ro:=G.o 1;replace G:=G.d 1;refine ZD F rfl (by decide) (F.want rfl) (ZI rfl (w8.heap.size) (e:=22) (size:=1) (bytes:=24) Qy.underlying25 (by kernel_rfl) (by decide) (F.at rfl) (G.o 2) (F.at rfl) (G.q 0) rfl (by simp[Value.oneCell']) (by omega) (by omega) (by omega)) ?_;clear F;rintro _ v' w13 F ⟨hown',hg⟩;obtain⟨va38,vc38,rfl⟩:=Zo hown';replace G:=(G.d 0).gr 1 hg hown';clear hg hown';have oo:=G.o 1;rw[show O.map (·.1)++[Value.slice ra bn rc]=P.map (·.1) by rw[hP,List.map_append];rfl,hPl]at oo;rw[hPl]at F;replace hOB:=hPB;replace hnd:=hPn;replace hOl:P.length≤i+1:=by omega
   replace hO1:0<i+1→0<P.length:=fun _=>by omega
   replace G:=G.rO 1 oo;clear oo;refine(F.y (F.fd 1)) fun F=>(F.st G 2) @fun w14 G=>k7<|Yg<|(F.m) fun F=>(F.y F.sb) fun F=>?_
   rw[show n-((i:Nat):Int)-1=n-((i+1:Nat):Int) by omega]at F;refine(F.m) fun F=>?_;replace G:=G.rL 3 (show Zg w0 w14 b (k+4+10*(i+1)) nv from Zu (G.l 3) (by omega));show _∧_;exact⟨by omega,_,_,F.u,G.u,_,_,_,rfl,rfl,(G.o 1),(G.f 0),hOB,hnd,hOl,hO1,(by omega)⟩
  ·have hOne:0<O.length:=by have:=Classical.not_not.1 hc33;rcases O with _ | ⟨p,O⟩;(· simp at this);(· simp)
   replace hOl:O.length≤i+1:=by omega
   replace hO1:0<i+1→0<O.length:=fun _=>hOne;refine Yi<|k7<|Yg<|(F.m) fun F=>(F.y F.sb) fun F=>?_
   rw[show n-((i:Nat):Int)-1=n-((i+1:Nat):Int) by omega]at F;refine(F.m) fun F=>?_;replace G:=G.rL 4 (show Zg w0 w11 b (k+4+10*(i+1)) nv from Zu (G.l 4) (by omega));show _∧_;exact⟨by omega,_,_,F.u,G.u,_,_,_,rfl,rfl,(G.o 2),(G.f 1),hOB,hnd,hOl,hO1,(by omega)⟩
 ·refine wp_exit<|k3<|wQ fun k10=>wQ fun k11=>?_
  have oo:=G.o 1;have hdcap:=ZeL oo;have fam:=G.f 0;have hDl:∀W,Ext [b,n4,n5] w9 W→Z0s W da O:=fun W e=>Z1z (Z0q oo e (by simp;omega)) (Z0H fam fun v n xs h=>Z0q h e (by simp;omega));have HDl:=Lib.hid hDl;clear hDl;have hwL0:w.heap.size≤w9.heap.size:=by exact(G.e 6).size
  replace G:=G.hr [b,n4,n5];refine Yg<|(F.m) fun F=>?_
  have fam:=G.f 1;have oo:=G.o 2;replace G:=G.b [0,3,4,6,7];refine(F.k (Z7E w0 _ b _ nv 1 3 (G.l 2) (by omega) (by omega) (by omega) (by omega) (by omega))) ?_;rintro _ w15 ⟨m,rfl,hm1,hm2,HL,e9⟩;refine⟨_,rfl,fun F=>?_⟩;replace G:=G.xl 2 e9 HL;refine(F.m) fun F=>?_;rw[show m=m-((0:Nat):Int) by omega]at F;have oo:w15.ownsRow w9.heap.size 22 1 (.slice none 0 0) 0 (([]:List (Value×List Int)).map (·.1)):=World.ownsRow_nil _ _ _ _;have fam:FamT w15 w9.heap.size []:=Z6E _ _;have hOd:O.length≤dm:=by omega
  replace hO1:0<O.length:=hO1 (by omega);replace G:=(G.co oo).cf fam;refine k11<|Yh ?_
  replace G:=G.rL 4 (show Zg w0 w15 b (k+5+10*dm+10*0) nv from Zu (G.l 4) (by omega));refine lpB (F.b [0,4,5]) (G.b [2,5,6]) (3) (fun j Lv Sv W=>∃la:Option Addr,∃lc:Nat,∃Q:List (Value×List Int),Lv=[(8,.int .i64 (m-((j:Nat):Int)))]∧Sv=[.q n5 (#[.int .i64 ((bn:Nat):Int),.slice da O.length dc,.slice la Q.length lc,.int .i64 tl]) 27,.l w0 b (k+5+10*dm+10*j) nv]∧W.ownsRow w9.heap.size 22 1 (.slice la Q.length lc) Q.length (Q.map (·.1))∧FamT W w9.heap.size Q∧(∀p∈Q,(p.2.length:Int)=bn∧∀m∈p.2,0≤m∧m≤3)∧(∀p∈Q,p.2.sum≠0)∧Q.length=j∧(j:Int)≤m) ⟨_,_,F.u,G.u,none,0,[],rfl,rfl,(G.o 1),(G.f 0),(by simp),(by simp),rfl,(by omega)⟩ ?_;clear F G;rintro j _ w16 _ _ hi2 ⟨la,lc,Q,rfl,rfl,oo,fam,hQB,hQs,hQl,hjm⟩ F G;replace G:=((G.z).co oo).cf fam;refine wQ fun k12=>wR fun k13=>(F.m) fun F=>(F.y F.gt) fun F=>k13<|F.ci (fun hc43=>?_) (fun hc43=>?_)
  ·refine Yi<|k12<|wQ fun k14=>Yh<|wR fun k15=>(F.m) fun F=>(F.y (F.fd 0)) fun F=>(F.y (F.lc (G.q 2))) fun F=>?_
   have fam:=G.f 0;have hflt:=Lib.hid (Z9s fam);obtain⟨B1,hB1⟩:∃B1,B1=w16.heap.size:=⟨_,rfl⟩;rw[←hB1]at hflt;have hB1w:w9.heap.size≤B1:=by rw[hB1];exact(G.e 4).size
   refine(F.k (Z5i w0 _ b _ nv bn 3 (G.l 3) (by omega) (by omega) (by omega) (by omega))) ?_;rintro _ w17 ⟨ra,rc,xs,rfl,hxl,hxb,ro,HL,e9⟩;refine⟨_,rfl,fun F=>?_⟩;replace G:=G.xl 3 e9 HL;rw[←hB1]at ro;replace G:=G.co ro;refine(F.m) fun F=>k15<|wR fun k16=>(F.m) fun F=>(F.m) fun F=>(F.y (F.fd 0)) fun F=>(F.y (F.lc (G.q 3))) fun F=>(F.y F.sb) fun F=>(F.k (Z0P w0 _ b _ nv (((bn:Nat):Int)-1) (G.l 4) (by omega) (by omega) (by omega))) ?_
   rintro _ w18 ⟨v,rfl,hv0,hv1,HL,e9⟩;refine⟨_,rfl,fun F=>?_⟩;replace G:=G.xl 4 e9 HL;obtain⟨v,rfl⟩:=Int.eq_ofNat_of_zero_le hv0;refine(F.m) fun F=>(F.k (Z7E w0 _ b _ nv 1 3 (G.l 4) (by omega) (by omega) (by omega) (by omega) (by omega))) ?_;rintro _ w19 ⟨z,rfl,hz1,hz2,HL,e9⟩;refine⟨_,rfl,fun F=>?_⟩;replace G:=G.xl 4 e9 HL;have ro:=G.o 0;have HS:=Lib.hid (Z0d ro hxl.symm [] (by simp));have hil:=Z2v xs;replace G:=G.hr [];obtain⟨xb17,xo17,xa17,xr17⟩:=HS.out v (by omega);refine(F.y (F.is 1 xa17)) fun F=>?_;replace G:=G.d 0;obtain⟨⟨u0,hcu⟩,hfu,hst⟩:=Z3I (G.o 0) xa17 (j:=v) (p:=xo17+((v:Nat):Int).toNat*1) (by first | omega | (simp;omega)) (by omega);refine Z1n rfl (F.want rfl) (ZU rfl (F.at rfl) (F.at rfl) rfl (by kernel_rfl) hcu hfu) ?_;intro w20 hw;obtain⟨hown',hg⟩:=hst _ _ hw;have ro:=(G.o 0);have fam:=G.f 1;replace G:=G.d 1;replace fam:=Zc9 fam hflt.out ro hg;replace G:=(G.gr 0 hg hown').cf fam;clear hst hcu hfu hw hg hown';have ro:=G.o 1;rw[Z2w]at ro;replace G:=G.rO 1 ro;clear ro;obtain⟨ys,hys⟩:∃ys,ys=xs.set v z:=⟨_,rfl⟩;have hyl:ys.length=bn:=by rw[hys,List.length_set];exact hxl
   have hyb:∀q∈ys,0≤q∧q≤3:=by intro q hq;rw[hys]at hq;rcases List.mem_or_eq_of_mem_set hq with hq | rfl;(· exact hxb q hq);(· omega)
   have hysum:ys.sum≠0:=by have h1:=Zcw (xs:=ys) (fun q hq=>(hyb q hq).1) z (by rw[hys];exact List.mem_set (by omega) z);omega
   have ro:=G.o 1;rw[←hys]at ro;replace G:=G.rO 1 ro;clear ro;refine k16 ?_;have fam:=G.f 0;have ro:=G.o 1;have fam2:=Z4m (Z4l (b1:=B1) (L:=[(Value.slice ra bn rc,ys)]) ⟨fun p hp=>(by obtain rfl:p=(Value.slice ra bn rc,ys):=(by simpa using hp);rw[show ((Value.slice ra bn rc,ys):Value×List Int).2.length=bn from hyl];exact ro),List.pairwise_singleton _ _⟩ fam hflt.out hB1w) (M:=Q++[(Value.slice ra bn rc,ys)]) List.perm_append_comm;have fam:=fam2;clear fam2;obtain⟨P,hP⟩:∃P,P=Q++[(Value.slice ra bn rc,ys)]:=⟨_,rfl⟩;have hPl:Q.length+1=P.length:=by rw[hP,Ym];rfl
   rw[←hP]at fam;have hPB:∀p∈P,(p.2.length:Int)=bn∧∀m∈p.2,0≤m∧m≤3:=by intro p hp;rw[hP]at hp;rcases List.mem_append.1 hp with hp | hp;(· exact hQB p hp);(· simp only[Yc,Ya,or_false]at hp;subst hp;exact⟨by show ((ys.length:Nat):Int)=_;omega,hyb⟩)
   have hPs:∀p∈P,p.2.sum≠0:=by intro p hp;rw[hP]at hp;rcases List.mem_append.1 hp with hp | hp;(· exact hQs p hp);(· simp only[Yc,Ya,or_false]at hp;subst hp;exact hysum)
   replace G:=G.rF 0 fam;clear fam;refine Yg<|(F.y (F.fd 2)) fun F=>(F.y (F.lc (G.q 3))) fun F=>(F.m) fun F=>(F.bs G 1 #[.slice ra bn rc] Qy.zeroValue22) fun yy F G=>?_
   have hEs:=(G.e 6).size;replace G:=G.d 2;refine ZD F rfl (by decide) (F.want rfl) (ZI rfl (w9.heap.size) (e:=22) (size:=1) (bytes:=24) Qy.underlying25 (by kernel_rfl) (by decide) (F.at rfl) (G.o 2) (F.at rfl) (G.q 0) rfl (by simp[Value.oneCell']) (by omega) (by omega) (by omega)) ?_;clear F;rintro _ v' w22 F ⟨hown',hg⟩;obtain⟨va63,vc63,rfl⟩:=Zo hown';replace G:=(G.d 0).gr 1 hg hown';clear hg hown';have oo:=G.o 1;rw[show Q.map (·.1)++[Value.slice ra bn rc]=P.map (·.1) by rw[hP,List.map_append];rfl,hPl]at oo;rw[hPl]at F;replace hQB:=hPB;replace hQs:=hPs;replace hQl:P.length=j+1:=by omega
   replace G:=G.rO 1 oo;clear oo;refine(F.y (F.fd 2)) fun F=>(F.st G 2) @fun w23 G=>k14<|Yg<|(F.m) fun F=>(F.y F.sb) fun F=>?_
   rw[show m-((j:Nat):Int)-1=m-((j+1:Nat):Int) by omega]at F;refine(F.m) fun F=>?_;replace G:=G.rL 3 (show Zg w0 w23 b (k+5+10*dm+10*(j+1)) nv from Zu (G.l 3) (by omega));show _∧_;exact⟨by omega,_,_,F.u,G.u,_,_,_,rfl,rfl,(G.o 1),(G.f 0),hQB,hQs,hQl,(by omega)⟩
  ·refine wp_exit<|k10<|wR fun k18=>(F.y (F.lb (G.q 2))) fun F=>(F.sr G 5) fun G=>k18 ?_
   refine(F.rg (rs_c F rfl rfl Qy.underlying27 rfl (by kernel_rfl) (G.q 5))) ?_;have hbL:b<w9.heap.size:=by omega
   have fam:=G.f 0;have oo:=G.o 1;refine⟨{B:=((bn:Nat):Int),D:=O,da:=da,dc:=dc,L:=Q,la:=la,lc:=lc,tol:=tl},rfl,Zkg (by simp only;omega) (by simp only;omega) (by simp only;omega) (by simp only;omega) hOB hnd (by simp only;omega) (by simp only;omega) hQB hQs (by simp only;omega) (by simp only;omega),⟨hOd,hdcap⟩,fun W e=>⟨HDl.out W ((G.e 4).trans (e.mono (by simp))),Zhi oo fam e hbL hbL⟩,Zu (G.l 3) (by omega),(G.e 6)⟩
end
section
open Go.RowKit Ev
variable{μ:Nat}
theorem lawA(a0:Option Addr)(len0 cap0:Nat)(z0:List Int)(w:World)(h:Zae .i64 w a0 len0 cap0 z0):Calls (Qy.prog 0) 10 #[.slice a0 len0 cap0] w fun e w'=>LawE e w':=by
 have E:Ext [] w w:=Ext.refl _ _;have G:=(Bk.nil w).ce E;refine(ent 183 Tryz.f10 rfl) fun F=>wR fun k1=>(F.m) fun F=>k1<|wR fun k2=>(F.m) fun F=>(F.k (Z8I (μ:=0) w a0 len0 cap0 z0 h)) ?_
 rintro _ w1 ⟨b,rfl,hbw0,hbw1,HL,e9⟩;refine⟨_,rfl,fun F=>?_⟩;replace G:=(G.ex e9).cl HL;refine(F.m) fun F=>k2<|wR fun k3=>(F.m) fun F=>(F.k (Zdx (μ:=0) 4 (by decide) (by decide) w _ b _ _ (G.l 0) (by omega))) ?_
 rintro _ w2 ⟨x,rfl,hv,hd3,hxb,HL,e9⟩;refine⟨_,rfl,fun F=>?_⟩;replace G:=G.xl 0 e9 HL;have HV:=Lib.hid hv;have HXB:=Lib.hid hxb;clear hv hxb;replace G:=G.hr [b];refine(F.al G Qy.zeroValue27) fun yy F G=>(F.sr G 0) fun G=>k3<|wR fun k4=>(F.m) fun F=>(F.y (F.lb (G.q 0))) fun F=>(F.k (Z85 (μ:=0) x HV.out w _ b _ _ (G.l 2) (by omega))) ?_
 rintro _ w5 ⟨sa,sc,S,rfl,h6,hS,so,sf,HL,e9⟩;refine⟨_,rfl,fun F=>?_⟩;replace G:=G.xl 2 e9 HL;refine(F.m) fun F=>?_;have hxd:=HXB.out _ (G.e 1);have HSL:=Lib.hid (Z1z so sf);have HXD:=Lib.hid hxd;have HSO:=Lib.hid hS;clear hxd so sf hS;obtain⟨T,hT⟩:∃T,T=S.map (·.2):=⟨_,rfl⟩;have hTl:T.length=S.length:=by rw[hT,Yj]
 have hl1:=HV.out.l1;have hl3:=HV.out.l3;have hd4:=HV.out.d4;have HSS:=Lib.hid HSL.out.1;replace G:=G.hr [];refine k4<|wR fun k5=>(F.y (F.lb (G.q 1))) fun F=>(F.m) fun F=>(F.k (Zb9 (μ:=0) x HV.out S HSO.out h6 sa sc _ (HXD.out.ext (G.e 0)) (HSL.out.ext (G.e 0)))) ?_
 rintro _ w6 ⟨M,gb,gd,rfl,hM,gl,e9⟩;refine⟨_,rfl,fun F=>?_⟩;replace G:=G.ex e9;rw[←hT]at hM;have HG:=Lib.hid gl;clear gl;have HGS:=Lib.hid HG.out.1;have hMl:M.length=(splL x T).length:=by rw[←hM,Yj]
 have hMb:M.length≤100:=by rw[hMl];have h1:=Z71 x T T.length;have h3:T.length*T.length≤6*6:=Nat.mul_le_mul (by omega) (by omega);unfold splL;omega
 replace G:=G.hr [];refine(F.m) fun F=>(F.y F.xt) fun F=>(F.y F.xt) fun F=>(F.m) fun F=>(F.m) fun F=>k5<|wR fun k6=>(F.y (F.lb (G.q 2))) fun F=>(F.m) fun F=>(F.k (Z5l (μ:=0) x HV.out S HSO.out h6 sa sc _ (HXD.out.ext (G.e 1)) (HSL.out.ext (G.e 1)))) ?_
 rintro _ w7 ⟨rfl,e9⟩;refine⟨_,rfl,fun F=>?_⟩;replace G:=G.ex e9;rw[←hT]at F;refine(F.m) fun F=>(F.y F.xt) fun F=>(F.y F.xt) fun F=>(F.y F.xt) fun F=>(F.m) fun F=>(F.m) fun F=>(F.m) fun F=>k6<|wQ fun k7=>wR fun k8=>(F.m) fun F=>(F.y F.neF) fun F=>k8<|(F.cF)<|Yi<|k7<|wR fun k9=>(F.y (F.fd 2)) fun F=>(F.y (F.lc (G.q 2))) fun F=>(F.y F.ln) fun F=>?_
 obtain⟨B5,hB5⟩:∃B5,B5=w7.heap.size:=⟨_,rfl⟩;have hB5D:w5.heap.size≤B5:=by rw[hB5];exact(G.e 1).size
 have hB5G:w6.heap.size≤B5:=by rw[hB5];exact(G.e 0).size
 have hB5E:w.heap.size≤B5:=by rw[hB5];exact(G.e 5).size
 refine ZD F rfl (by decide) (F.want rfl) (Z4o rfl (B5) (e:=3) (bytes:=8) (z:=.int .i64 0) Qy.underlying22 (by kernel_rfl) rfl (F.at rfl) (F.at rfl) (n:=x.L.length) (by omega) (by decide) (by omega)) ?_;clear F;rintro _ v' w8 F ⟨oo,hg,rfl⟩;obtain⟨n45,hn⟩:=eQ w7.heap.size;rw[←hn]at F oo;have s45:=G.lt hn;replace G:=G.gn hg;clear hg hn;replace G:=G.co oo;have oo:=G.o 0;rw[show List.replicate x.L.length (Value.int .i64 0)=ivs (apL x T 0 0 0) by rw[ZdR];simp[ivs]]at oo;replace G:=G.rO 0 oo;clear oo;refine(F.m) fun F=>k9<|wR fun k10=>(F.m) fun F=>k10<|wQ fun k11=>wR fun k12=>(F.m) fun F=>k12<|Yh<|lpB (F.b [4,5,6,8,9,10,11]) (G.b [1,2,3,6]) (S.length) (fun a Lv Sv W=>Lv=[(12,.int .i64 (((splT x T a).length:Nat):Int)),(13,.int .i64 ((a:Nat):Int))]∧Sv=[]∧W.ownsRow B5 3 1 (.slice (some ⟨n45,0,none⟩) x.L.length x.L.length) x.L.length (ivs (apL x T a 0 0))) ⟨_,_,F.u,G.u,rfl,rfl,(G.o 0)⟩ ?_
 clear F G;rintro a _ w9 _ _ hi1 ⟨rfl,rfl,oo⟩ F G;replace G:=(G.z).co oo;refine wQ fun k13=>wR fun k14=>(F.m) fun F=>(F.m) fun F=>(F.y F.ln) fun F=>(F.y F.ls) fun F=>k14<|F.ci (fun hc49=>?_) (fun hc49=>?_)
 ·refine Yi<|k13<|wQ fun k15=>Yh<|wR fun k16=>(F.m) fun F=>(F.y F.ad) fun F=>?_
  rw[show ((a:Nat):Int)+1=((a+1+0:Nat):Int) by omega]at F;refine(F.m) fun F=>?_;rw[show (splT x T a).length=(splT x T a++splR x T a 0).length by simp[splR]]at F;refine k16<|Yh<|lpB (F.b [4,5,6,8,9,10,11,13]) (G.b [1,2,3,4]) (S.length-(a+1)) (fun k Lv Sv W=>Lv=[(12,.int .i64 (((splT x T a++splR x T a k).length:Nat):Int)),(14,.int .i64 ((a+1+k:Nat):Int))]∧Sv=[]∧W.ownsRow B5 3 1 (.slice (some ⟨n45,0,none⟩) x.L.length x.L.length) x.L.length (ivs (apL x T a k 0))) ⟨_,_,F.u,G.u,rfl,rfl,(G.o 0)⟩ ?_
  clear F G;rintro k _ w10 _ _ hi2 ⟨rfl,rfl,oo⟩ F G;replace G:=(G.z).co oo;refine wQ fun k17=>wR fun k18=>(F.m) fun F=>(F.m) fun F=>(F.y F.ln) fun F=>(F.y F.ls) fun F=>k18<|F.ci (fun hc57=>?_) (fun hc57=>?_)
  ·refine Yi<|k17<|wQ fun k19=>Yh<|wQ fun k20=>?_
   obtain⟨ra,rc,hra,hrr⟩:=HSL.out.2 _ (Z8 (.bool true,[]) (show a<S.length by omega));obtain⟨ma,mc,hma,hmr⟩:=HSL.out.2 _ (Z8 (.bool true,[]) (show a+1+k<S.length by omega));have hro:=HSO.out _ (Z8 (.bool true,[]) (show a<S.length by omega));have hmo:=HSO.out _ (Z8 (.bool true,[]) (show a+1+k<S.length by omega));have hrT:T.getD a []=(S.getD a (.bool true,[])).2:=by rw[hT];exact key2 (by omega)
   have hmT:T.getD (a+1+k) []=(S.getD (a+1+k) (.bool true,[])).2:=by rw[hT];exact key2 (by omega)
   rw[←hrT]at hra hrr hro;rw[←hmT]at hma hmr hmo;have HRR:=Lib.hid hrr;have HMR:=Lib.hid hmr;have HRO:=Lib.hid hro;have HMO:=Lib.hid hmo;clear hrr hmr hro hmo;have G2:=G;refine(wD [] none G) @fun w11 G=>(F.zr 0 (G.t 0) fun hS=>F.lb (G2.k 3 hS)) fun F=>(F.z 1 (G.t 0) F.mo) fun F=>(F.z 2 (G.t 0) F.mo) fun F=>?_;obtain⟨xb21,xo21,xa21,xr21⟩:=HSS.out a (by omega);refine(F.z 3 (G.t 0) (F.is 1 xa21)) fun F=>(F.zr 4 (G.t 0) fun hS=>F.l1 (xr21 _ ((G2.e 2).nil hS)) 0) fun F=>?_;rw[hra]at F;refine(F.z 5 (G.t 0) F.mo) fun F=>(F.z 6 (G.t 0) F.mo) fun F=>?_;obtain⟨xb22,xo22,xa22,xr22⟩:=HSS.out (a+1+k) (by omega);refine(F.z 7 (G.t 0) (F.is 1 xa22)) fun F=>(F.zr 8 (G.t 0) fun hS=>F.l1 (xr22 _ ((G2.e 2).nil hS)) 0) fun F=>?_;rw[hma]at F;obtain⟨B9,hB9⟩:∃B9,B9=w11.heap.size:=⟨_,rfl⟩;have oo:=G.o 1;have h45:n45<B9:=by rw[hB9];exact(oo.lt n45 rfl).2
   have hst:=Za7 x HV.out (T.getD a []) (T.getD (a+1+k) []) HRO.out HMO.out ra ma rc mc w11 (HXD.out.ext (G.e 3)) (HRR.out.ext (G.e 3) (by simp)) (HMR.out.ext (G.e 3) (by simp));refine(aO 9)<|(F.okp (hst)) ?_
   rintro _ w12 (⟨⟨rfl,-⟩,e9⟩ | ⟨y1,rfl,hI1,-,e9⟩)
   ·refine .inl ⟨_,rfl,?_⟩
    replace G:=G.ex e9
    (try simp only[Exit.inBlock,Exit.then,Exit.jump,reduceIte])
    refine⟨F.ds,?_⟩;exact Zji HV.out (HXD.out.ext (G.e 3)) HRO.out HMO.out rfl rfl (HRR.out.ext (G.e 3) (by simp)) (HMR.out.ext (G.e 3) (by simp))
   refine .inr ⟨_,rfl,fun F=>?_⟩;replace G:=G.ex e9;refine .intro (G.t 0) ?_;clear hst;obtain⟨ya,yc,rfl,hY⟩:=Z7G hI1;clear hY;rw[←hB9]at hI1;obtain⟨A,hA⟩:∃A,A=Zw x.L.length fun i=>alkE x i (val (T.getD a [])) (val (T.getD (a+1+k) [])):=⟨_,rfl⟩;rw[←hA]at F hI1;have hAn:A.length≤x.L.length:=by rw[hA];exact Z8u _ _
   have hAr:((A.length:Nat):Int)=likN x T a (a+1+k) x.L.length:=by rw[hA];exact Z9B _ _
   have HY:=Lib.hid hI1;clear hI1;replace G:=G.hr [n45];refine(F.z 10 (G.t 1) F.mo) fun F=>(F.z 11 (G.t 1) F.xt) fun F=>(F.z 12 (G.t 1) F.xt) fun F=>(F.z 13 (G.t 1) F.mo) fun F=>(F.z 14 (G.t 1) F.mo) fun F=>(aD)<|k20<|wQ fun k23=>wR fun k24=>(F.m) fun F=>(F.y F.neF) fun F=>k24<|(F.cF)<|Yi<|k23<|wQ fun k25=>wR fun k26=>(F.m) fun F=>k26<|Yh<|lpB (F.b [4,5,6,8,9,10,11,12,13,14,15]) (G.b [0,3,4,5,6]) (x.L.length) (fun i Lv Sv W=>Lv=[(17,.int .i64 ((i:Nat):Int))]∧Sv=[]∧W.ownsRow B5 3 1 (.slice (some ⟨n45,0,none⟩) x.L.length x.L.length) x.L.length (ivs (apL x T a k i))) ⟨_,_,F.u,G.u,rfl,rfl,(G.o 2)⟩ ?_
   clear F G;rintro i _ w13 _ _ hi3 ⟨rfl,rfl,oo⟩ F G;replace G:=(G.z).co oo;refine wQ fun k27=>wR fun k28=>(F.m) fun F=>(F.m) fun F=>(F.y F.ln) fun F=>(F.y F.ls) fun F=>k28<|F.ci (fun hc78=>?_) (fun hc78=>?_)
   ·refine Yi<|k27<|wQ fun k29=>Yh<|wQ fun k30=>?_
    have hat:=ZdW (n:=x.L.length) (i:=i) (β:=fun i=>alkE x i (val (T.getD a [])) (val (T.getD (a+1+k) []))) (by omega);rw[←hA]at hat
    refine Yg<|(F.m) fun F=>(F.m) fun F=>(F.k0 G (ZiJ (μ:=0) A ((i:Nat):Int) ya yc _ (Zcm HY.out (G.e 1) h45) (by omega))) fun F G=>(F.y F.ls) fun F=>k30<|F.ci (fun hc84=>?_) (fun hc84=>?_)
    ·have hun:unlP x i T a (a+1+k)=true:=by unfold unlP;rw[Bool.not_eq_true',Bool.eq_false_iff];intro q;have:=hat.2 q;omega
     have hal:=Zbn x T a k i;have hag:=ZgB (x:=x) (T:=T) (a:=a) (m:=k) (t:=i) (by omega);have has:=ZgC (x:=x) (T:=T) (a:=a) (m:=k) (t:=i) (by omega);have hst:=Z99 x T a k i;have hbd:=ZiH x T (by omega) (a:=a) (m:=k) (by omega) (by omega) i;have oo:=G.o 0;have HS:=Lib.hid (Z0d oo hal.symm [] (by simp));have hil:=Z2v (apL x T a k i);replace G:=G.hr [];refine Yg<|(F.m) fun F=>(F.m) fun F=>?_
     obtain⟨xb31,xo31,xa31,xr31⟩:=HS.out i (by omega);refine(F.y (F.is 1 xa31)) fun F=>(F.y (F.l1 (xr31 _ (G.e 0)) 0)) fun F=>?_;rw[hag]at F;refine(F.y F.ad) fun F=>?_;obtain⟨xb32,xo32,xa32,xr32⟩:=HS.out i (by omega);refine(F.y (F.is 1 xa32)) fun F=>?_;replace G:=G.d 0;obtain⟨⟨u0,hcu⟩,hfu,hst⟩:=Z3I (G.o 0) xa32 (j:=i) (p:=xo32+((i:Nat):Int).toNat*1) (by first | omega | (simp;omega)) (by omega);refine Z1n rfl (F.want rfl) (ZU rfl (F.at rfl) (F.at rfl) rfl (by kernel_rfl) hcu hfu) ?_;intro w15 hw;obtain⟨hown',hg⟩:=hst _ _ hw;replace G:=G.gr 0 hg hown';clear hst hcu hfu hw hg hown';have oo:=G.o 0;rw[Z2w,show apN x T a k i+1=apN x T a (k+1) i by rw[hst,hun];rfl,has]at oo;replace G:=G.rO 0 oo;clear oo;refine k29<|Yg<|(F.m) fun F=>(F.y F.ad) fun F=>(F.m) fun F=>?_
     show _∧_;exact⟨by omega,_,_,F.u,G.u,rfl,rfl,(G.o 0)⟩
    ·have hun:unlP x i T a (a+1+k)=false:=by unfold unlP;rw[hat.1 (by omega)];rfl
     have oo:=G.o 0;rw[ZdQ hun]at oo;replace G:=G.rO 0 oo;clear oo;refine Yi<|k29<|Yg<|(F.m) fun F=>(F.y F.ad) fun F=>(F.m) fun F=>?_
     show _∧_;exact⟨by omega,_,_,F.u,G.u,rfl,rfl,(G.o 0)⟩
   ·refine wp_exit ?_
    have oo:=G.o 0;rw[show i=x.L.length by omega,ZiG]at oo;replace G:=G.rO 0 oo;clear oo;refine k25<|wQ fun k33=>?_
    by_cases h1:0<A.length
    ·by_cases h2:A.length<x.L.length
     ·have hsp:splB x T a (a+1+k)=true:=by unfold splB;rw[←hAr];simp;omega
      refine Yg<|(F.m) fun F=>(F.y F.ln) fun F=>(F.y F.gtT) fun F=>(F.m) fun F=>(F.m) fun F=>(F.y F.ln) fun F=>(F.y (F.fd 2)) fun F=>(F.y (F.lc (G.q 4))) fun F=>(F.y F.ln) fun F=>(F.y F.lsT) fun F=>(F.y F.pT) fun F=>k33<|(F.cT)<|wQ fun k34=>wQ fun k35=>?_
      obtain⟨hp1,hp2⟩:=ZjT (show a<T.length by omega) (show k<T.length-(a+1) by omega) hsp;obtain⟨pi,hpi⟩:∃pi,pi=(splT x T a++splR x T a k).length:=⟨_,rfl⟩;rw[←hpi]at F hp1 hp2;obtain⟨ga,gc,hga,hgr⟩:=HG.out.2 _ (Z8 (.bool true,[]) (show pi<M.length by omega));have hgm:(M.getD pi (.bool true,[])).2=[((a:Nat):Int),((a+1+k:Nat):Int)]:=by rw[←key2 (by omega),hM,hp2]
      rw[hgm]at hgr hga;have HGR:=Lib.hid hgr;refine Yg<|(F.m) fun F=>(F.m) fun F=>(F.y F.ln) fun F=>(F.y F.geF) fun F=>(F.m) fun F=>(F.m) fun F=>(F.m) fun F=>(F.ix HGS.out pi) fun xr36 F=>(F.y (F.l1 (xr36 _ (G.e 2)) 0)) fun F=>?_
      rw[hga]at F;refine(F.m) fun F=>(F.m) fun F=>(F.bs G 1 #[.int .i64 ((a:Nat):Int),.int .i64 ((a+1+k:Nat):Int)] Qy.zeroValue3) @fun n113 w16 _ yy F G=>(F.k (Z0j (μ:=0) [((a:Nat):Int),((a+1+k:Nat):Int)] [((a:Nat):Int),((a+1+k:Nat):Int)] ga (some ⟨n113,0,none⟩) gc 2 _ (HGR.out.ext (G.e 3) (by simp)) (ZK [((a:Nat):Int),((a+1+k:Nat):Int)] 2 (G.q 0)) (by simp) (by simp))) ?_;rintro _ w17 ⟨rfl,e9⟩;refine⟨_,rfl,fun F=>?_⟩;replace G:=G.ex e9;rw[decide_eq_true (show[((a:Nat):Int),((a+1+k:Nat):Int)]=[((a:Nat):Int),((a+1+k:Nat):Int)] from rfl)]at F;refine(F.y F.nb) fun F=>(F.y F.pF) fun F=>k35<|(F.cF)<|Yi<|k34<|Yg<|(F.m) fun F=>(F.y F.ad) fun F=>?_
      rw[show ((pi:Nat):Int)+1=(((splT x T a++splR x T a (k+1)).length:Nat):Int) by rw[Z4r hsp,←List.append_assoc,Ym,←hpi];rfl]at F;refine(F.m) fun F=>k19<|Yg<|(F.m) fun F=>(F.y F.ad) fun F=>(F.m) fun F=>?_
      show _∧_;exact⟨by omega,_,_,F.u,G.u,rfl,rfl,(G.o 1)⟩
     ·have hsp:splB x T a (a+1+k)=false:=by unfold splB;rw[←hAr];simp;omega
      refine Yg<|(F.m) fun F=>(F.y F.ln) fun F=>(F.y F.gtT) fun F=>(F.m) fun F=>(F.m) fun F=>(F.y F.ln) fun F=>(F.y (F.fd 2)) fun F=>(F.y (F.lc (G.q 4))) fun F=>(F.y F.ln) fun F=>(F.y F.lsF) fun F=>(F.y F.pT) fun F=>?_
      rw[←Z52 hsp]at F;refine k33<|(F.cF)<|Yi<|k19<|Yg<|(F.m) fun F=>(F.y F.ad) fun F=>(F.m) fun F=>?_
      show _∧_;exact⟨by omega,_,_,F.u,G.u,rfl,rfl,(G.o 0)⟩
    ·have hsp:splB x T a (a+1+k)=false:=by unfold splB;rw[←hAr];simp;omega
     refine Yg<|(F.m) fun F=>(F.y F.ln) fun F=>(F.y F.gtF) fun F=>(F.m) fun F=>(F.n) fun F=>(F.n) fun F=>(F.n) fun F=>(F.n) fun F=>(F.n) fun F=>(F.n) fun F=>(F.y F.pF) fun F=>?_
     rw[←Z52 hsp]at F;refine k33<|(F.cF)<|Yi<|k19<|Yg<|(F.m) fun F=>(F.y F.ad) fun F=>(F.m) fun F=>?_
     show _∧_;exact⟨by omega,_,_,F.u,G.u,rfl,rfl,(G.o 0)⟩
  ·refine wp_exit ?_
   rw[show k=T.length-(a+1) by omega,←Z2g]at F;have oo:=G.o 0;rw[show k=T.length-(a+1) by omega,ZdP]at oo;replace G:=G.rO 0 oo;clear oo;refine k15<|Yg<|(F.m) fun F=>(F.y F.ad) fun F=>(F.m) fun F=>?_
   show _∧_;exact⟨by omega,_,_,F.u,G.u,rfl,rfl,(G.o 0)⟩
 ·refine wp_exit ?_
  rw[show a=T.length by omega,show (splT x T T.length).length=M.length by rw[hMl];rfl]at F;have oo:=G.o 0;rw[show a=T.length by omega,ZgA]at oo;replace G:=G.rO 0 oo;clear oo;refine k11<|wR fun k37=>(F.m) fun F=>k37<|wQ fun k38=>wR fun k39=>(F.m) fun F=>?_
  have oo:=G.o 0;have HU:=Lib.hid (ZL oo (show x.L.length=((List.range x.L.length).map (unN x T)).length by simp));have HUS:=Lib.hid (Zh HU.out 0);have hul:((List.range x.L.length).map (unN x T)).length=x.L.length:=by simp
  replace G:=G.hr [];refine k39<|Yh<|lpC (F.b [6,8,9,10,11,12]) (G.b [0,2,3,4,5]) (x.L.length) (fun i=>[(18,.int .i64 ((bst (unN x T) i:Nat):Int)),(19,.int .i64 ((i:Nat):Int))]) F.u fun i hi4 F G=>?_
  have hbl:=Zbw (unN x T) i;refine wQ fun k40=>wR fun k41=>(F.m) fun F=>(F.m) fun F=>(F.y F.ln) fun F=>(F.y F.ls) fun F=>k41<|F.ci (fun hc122=>?_) (fun hc122=>?_)
  ·refine Yi<|k40<|wQ fun k42=>Yh<|wQ fun k43=>?_
   have g1:((List.range x.L.length).map (unN x T)).getD i 0=unN x T i:=by simp[show i<x.L.length by omega]
   have g2:((List.range x.L.length).map (unN x T)).getD (bst (unN x T) i) 0=unN x T (bst (unN x T) i):=by simp[show bst (unN x T) i<x.L.length by omega]
   refine(wX 8 G) fun G=>(F.sm) fun F=>(F.sm) fun F=>(F.sx HUS.out i) fun xr44 F=>(F.s (F.l1 (xr44 _ (G.e 0)) 0)) fun F=>?_;rw[g1]at F;refine(F.sm) fun F=>(F.sm) fun F=>(F.sx HUS.out (((bst (unN x T) i:Nat):Int).toNat)) fun xr45 F=>(F.s (F.l1 (xr45 _ (G.e 0)) 0)) fun F=>?_;rw[Int.toNat_natCast,g2]at F;refine wpStill_nil<|(F.y F.gt) fun F=>k43<|F.ci (fun hc133=>?_) (fun hc133=>?_)
   ·refine Yg<|(F.m) fun F=>(F.m) fun F=>?_
    replace F:=F.re (k:=18) rfl (show Value.int .i64 ((i:Nat):Int) = .int .i64 ((bst (unN x T) (i+1):Nat):Int) by rw[show bst (unN x T) (i+1)=i from if_pos (by omega)]);refine k42<|Yg<|(F.m) fun F=>(F.y F.ad) fun F=>(F.m) fun F=>?_
    show _∧_;exact⟨by omega,F.u,G.u⟩
   ·rw[show bst (unN x T) i=bst (unN x T) (i+1) by show _=if unN x T (bst (unN x T) i)<unN x T i then i else bst (unN x T) i;rw[if_neg (by omega)]]at F
    refine Yi<|k42<|Yg<|(F.m) fun F=>(F.y F.ad) fun F=>(F.m) fun F=>?_
    show _∧_;exact⟨by omega,F.u,G.u⟩
  ·refine wp_exit ?_
   rw[show i=x.L.length by omega]at F;refine k38<|wQ fun k46=>wQ fun k47=>?_
   obtain⟨m,hm⟩:∃m,m=bst (unN x T) x.L.length:=⟨_,rfl⟩;have hml:=Zbw (unN x T) x.L.length;have htl:=Zi1 hl1 T;rw[←hm]at F hml htl;have g1:((List.range x.L.length).map (unN x T)).getD m 0=unN x T m:=by simp[show m<x.L.length by omega]
   refine Yg<|(F.m) fun F=>(F.m) fun F=>(F.ix HUS.out m) fun xr48 F=>(F.y (F.l1 (xr48 _ (G.e 0)) 0)) fun F=>?_
   rw[g1]at F;refine(F.y F.eq) fun F=>k47<|F.ci (fun hc139=>?_) (fun hc139=>?_)
   ·rw[if_pos hc139]at htl
    refine wR fun k49=>(F.m) fun F=>(F.y (F.eqT (h:=by rw[htl]))) fun F=>(F.m) fun F=>(F.m) fun F=>(F.y (F.eqT (h:=by rw[htl]))) fun F=>(F.y F.pT) fun F=>(F.m) fun F=>(F.m) fun F=>(F.y (F.eqT (h:=by rw[htl]))) fun F=>(F.y F.pT) fun F=>(F.m) fun F=>(F.m) fun F=>(F.m) fun F=>(F.y F.ln) fun F=>?_;refine(F.y (F.eqT (h:=rfl))) fun F=>(F.y F.pT) fun F=>(F.m) fun F=>(F.k0 G (Z4h (μ:=0) _)) fun F G=>(F.y F.pT) fun F=>(F.m) fun F=>k49<|(F.r1) ?_
    exact .inl rfl
   ·rw[if_neg hc139]at htl
    refine Yi<|k46<|wR fun k50=>(F.m) fun F=>(F.y (F.eqT (h:=by rw[htl]))) fun F=>(F.m) fun F=>(F.m) fun F=>(F.m) fun F=>(F.y (F.eqT (h:=by rw[htl]))) fun F=>(F.y F.pT) fun F=>(F.m) fun F=>(F.m) fun F=>(F.m) fun F=>(F.m) fun F=>(F.ix HUS.out m) fun xr51 F=>(F.y (F.l1 (xr51 _ (G.e 0)) 0)) fun F=>?_
    rw[g1]at F;refine(F.y (F.eqT (h:=by rw[htl]))) fun F=>(F.y F.pT) fun F=>(F.m) fun F=>(F.m) fun F=>(F.m) fun F=>(F.y F.ln) fun F=>(F.y (F.eqT (h:=rfl))) fun F=>(F.y F.pT) fun F=>(F.m) fun F=>(F.k0 G (Z4h (μ:=0) _)) fun F G=>(F.y F.pT) fun F=>(F.m) fun F=>k50<|(F.r1) ?_
    exact .inl rfl
end
namespace Lift
open Go Go.Conc Go.RowKit Ev
open Go.ConcM (OsLater)
noncomputable def lB : Code := (Tryz.f10.body).getD (.refuse "")
theorem Zh9:Tryz.f10.body=some lB:=by kernel_rfl
noncomputable def lF:Frame:={(default:Frame) with fn:=lawF,kind:=.normal}
noncomputable def lA(xs:Array Value):Act:={tmps:=xs++Array.replicate (Tryz.f10.ntmps-xs.size) undef,defers:=[]}
theorem Z39{Q:Program}(h:Q.funcs[(lawF:Nat)]?=some Tryz.f10)(xs:Array Value): Frame.enter Q lawF xs .normal=lF.at (lA xs) [.code lB]:=by
 simp[Frame.enter,Frame.at,h,Zh9,lF,lA]
theorem lawP:PP.funcs[(lawF:Nat)]?=some Tryz.f10:=by kernel_rfl
theorem lawQ:(Qy.prog 0).funcs[(lawF:Nat)]?=some Tryz.f10:=by kernel_rfl
def jmpB(f n:Nat):Bool:=(f==15&&n==3)||(f==19&&n==0)
theorem cl0:ZR PP gJ jmpB true true true false lB=true:=by kernel_rfl
theorem Zhc:PP.inits.idxOf? lawF=none:=by kernel_rfl
theorem Zk6{f:Nat}(h:gJ f=true): gS f=true:=by
 have h1:=Z5C (Zj8 h);unfold gS;rw[List.elem_iff];exact List.mem_append_left _ h1
theorem VR.dup{x y:Value}(h:@VR jkW (idS S) x y): @VR jk0 (idS S) x x:=by
 have nm:∀{b c:Nat},idS S b=some c→idS S b=some b:=fun h=>Z1i (Z0z h).1;have ar:∀{a b:Addr},AR (idS S) a b→AR (idS S) a a:=fun h=>by
  cases h with
  | mk q=>exact .mk (nm q)
 induction h with
 | bool b=>exact @VR.bool jk0 _ b
 | int k n=>exact @VR.int jk0 _ k n
 | string s=>exact @VR.string jk0 _ s
 | ptr0=>exact @VR.ptr0 jk0 _
 | ptr q=>exact @VR.ptr jk0 _ _ _ (ar q)
 | sl0 n c=>exact @VR.sl0 jk0 _ n c
 | sl n c q=>exact @VR.sl jk0 _ _ _ n c (ar q)
 | map0=>exact @VR.map0 jk0 _
 | map q=>exact @VR.map jk0 _ _ _ (nm q)
 | func hf hx _ hy _ ih ih2 =>
  refine @VR.func jk0 _ _ _ _ _ _ _ ?_ rfl (fun i a b p q=>?_) rfl (fun i a b p q=>?_)
  ·cases hf with
   | func f h=>exact @FnR.func jk0 _ f (Zk6 h)
   | yield q=>exact @FnR.yield jk0 _ _ _ (nm q)
  ·rw[p]at q
   obtain rfl:=Y1 q;obtain⟨b,hb⟩:∃b,_=some b:=⟨_,Y2 (hx▸(Y0.1 p).1)⟩;exact ih i a b p hb
  ·rw[p]at q
   obtain rfl:=Y1 q;obtain⟨b,hb⟩:∃b,_=some b:=⟨_,Y2 (hy▸(Y0.1 p).1)⟩;exact ih2 i a b p hb
 | func0=>exact @VR.func0 jk0 _
 | iface t _ ih=>exact @VR.iface jk0 _ _ _ t ih
 | iface0=>exact @VR.iface0 jk0 _
 | agg hs _ ih =>
  refine @VR.agg jk0 _ _ _ rfl fun i a b p q=>?_;rw[p]at q;obtain rfl:=Y1 q;obtain⟨b,hb⟩:∃b,_=some b:=⟨_,Y2 (hs▸(Y0.1 p).1)⟩;exact ih i a b p hb
 | tuple hs _ ih =>
  refine @VR.tuple jk0 _ _ _ rfl fun i a b p q=>?_;rw[p]at q;obtain rfl:=Y1 q;obtain⟨b,hb⟩:∃b,_=some b:=⟨_,Y2 (hs▸(Y0.1 p).1)⟩;exact ih i a b p hb
 | junk _ _ _ _=>exact @VR.junk jk0 _ _ (.inr rfl) (by unfold J0;simp) ⟨by unfold J0;simp,by unfold J0;simp⟩ (by unfold J0;simp)
theorem ZcY{u:World}{T:Nat→Question→Nat}{xs:List (List Value)}(h:Z7 (re u T) (.slice a n c) 1 xs): Z7 u (.slice a n c) 1 xs:=h
theorem Zhb(e:Ending)(u:World)(T:Nat→Question→Nat)(h:LawE e (re u T)):LawE e u:=by
 letI:Jk:=jk0
 rcases h with h | ⟨xs,h1,x,l,l',a1,a2,c1,c2,h2,h3,h4,h5,h6,h7,h8⟩
 ·exact .inl h
 ·exact .inr ⟨xs,h1,x,l,l',a1,a2,c1,c2,h2,h3,Z6b (v:=re u T) (v2:=u) (fun _ _=>rfl) h4,h5,h6,ZcY h7,ZcY h8⟩
theorem Zet:@Z0E jkW PP (jkW.law lawF) (¬jkW.gd lawF) false lB:=by
 have:=@Z1N jkW PP gJ true (fun f q=>q) (fun q=>by cases q) jmpB (fun f n q=>by
  unfold jmpB at q;simp only[Yo,Y5,beq_iff_eq]at q
  rcases q with⟨rfl,rfl⟩ | ⟨rfl,rfl⟩
  ·exact⟨.inl rfl,rfl⟩
  ·exact⟨.inr rfl,rfl⟩) lB true true false cl0
 have e1:(true=true)=(jkW.law lawF):=by
  show (true=true)=(lawF=lawF);simp
 have e2:(true=true)=(¬jkW.gd lawF):=by
  show (true=true)=(¬gJ lawF=true);have:gJ lawF=false:=by decide
  simp[this]
 rw[←e1,←e2];exact this
theorem Zjj{a:Act}(ht:@VRs jkW (idS S) a.tmps a.tmps)(hd:a.defers=[]): @Stk jkW PP (Qy.F 0) (idS S) [lF.at a [.code lB]] [lF.at a [.code lB]]:=by
 have hown:(Qy.F 0)[(lawF:Nat)]?=PP.funcs[(lawF:Nat)]?:=lawQ.trans lawP.symm;letI:Jk:=jkW;obtain⟨tm,df⟩:=a;obtain rfl:df=[]:=hd;refine⟨.cons ?_ .nil,⟨.inl rfl,fun h=>absurd rfl h⟩,trivial⟩;refine @FrR.mk jkW PP (Qy.F 0) (idS S) _ _ ?c1 ?c2 ?c3 ?c4 ?c5 ?c6 ?c7 ?c8
 case c1=>exact(rfl:(lawF:Nat)=lawF)
 case c2=>exact hown
 case c3=>exact ht
 case c5=>exact⟨.nil,fun _=>rfl⟩
 case c6=>exact .run
 case c7=>exact⟨(rfl:CallKind.normal = .normal),.inl (rfl:CallKind.normal = .normal)⟩
 case c8=>exact .none
 case c4=>exact .cons (.code Zet) .nil
theorem Zev{xs:Array Value}(h:@VRs jkW (idS S) xs xs): @VRs jkW (idS S) (lA xs).tmps (lA xs).tmps:=by
 letI:Jk:=jkW;unfold lA;dsimp only;exact Arr.append h (Arr.replicate _ .undef)
theorem law_run(W:World)(a0:Option Addr)(len0 cap0:Nat)(z0:List Int)(h:Zae .i64 W a0 len0 cap0 z0)(hb:∀x,a0=some x→x.spot=none∧∃cs e fz,W.heap[x.block]?=some (.cells cs e fz)):
  Run PP (Zin W) (solo (G (Frame.enter PP lawF #[.slice a0 len0 cap0] .normal) []) W) #[]:=by
 obtain⟨S,hS⟩:∃S:Nat→Prop,S=fun b=>∃x,a0=some x∧b=x.block:=⟨_,rfl⟩;have hpv:PV S (.slice a0 len0 cap0):=by
  cases a0 with
  | none=>trivial
  | some x=>show S x.block;rw[hS];exact⟨x,rfl,rfl⟩
 obtain⟨v,hsh,hwh,hshut⟩:=@Z28 jkW S W PP (Qy.F 0) trivial (fun c hc=>by
  rw[hS]at hc;obtain⟨x,e,rfl⟩:=hc;exact(hb x e).2)
 have hrow:∀T,Zae .i64 (re v T) a0 len0 cap0 z0:=by
  intro T
  rcases h with h | ⟨x,rfl,h1,h2,h3,h4,h5⟩
  ·exact .inl h
  ·refine .inr ⟨x,rfl,h1,h2,h3,fun i hi=>?_,h5⟩
   obtain⟨bb,off,sp⟩:=x;obtain⟨rfl,_⟩:=hb _ rfl;have e:∀n,(⟨bb,off,none⟩:Addr).add n=⟨bb,off+n,none⟩:=fun n=>by
    unfold Addr.add
    split
    ·rename_i q;subst q;rfl
    ·rfl
   have h6:=h4 i hi;rw[e]at h6⊢;letI:Jk:=jkW;exact Z6n (S:=S) (w:=W) (w1:=W) (v2:=re v T) (fun _ _=>rfl) ⟨hsh.size,hsh.os,hsh.at_⟩ (b:=bb) (o:=off+i) (by rw[hS];exact⟨_,rfl,rfl⟩) h6 trivial
 have hvr:@VRs jkW (idS S) #[.slice a0 len0 cap0] #[.slice a0 len0 cap0]:=@Arr.one jkW _ _ (@VR jkW (idS S)) _ _ (@PV.vr jkW S _ hpv);have hvr0:@VRs jk0 (idS S) #[.slice a0 len0 cap0] #[.slice a0 len0 cap0]:=@Arr.one jk0 _ _ (@VR jk0 (idS S)) _ _ (@PV.vr jk0 S _ hpv);have hw0:@WH jk0 (@Iv jk0 (Qy.prog 0) (Qy.F 0)) (idS S) v v:=by
  refine @WH.mk jk0 _ _ _ _ (fun b c hbc=>?_) (Zci S) rfl;obtain⟨hs,rfl⟩:=Z0z hbc;obtain⟨o,o',g1,g2,g3⟩:=@WH.on jkW _ _ _ _ hwh _ _ hbc;obtain⟨cs,e,g4⟩:=hshut _ _ hbc;rw[g1]at g4;obtain rfl:=Y1 g4;refine⟨_,_,g1,g1,?_⟩
  cases g3 with
  | cells q hf =>
   refine @OR.cells jk0 _ _ _ _ _ _ _ ⟨rfl,fun i x y p1 p2=>?_⟩ (.inr rfl);rw[p1]at p2;obtain rfl:=Y1 p2;obtain⟨z,hz⟩:∃z,_=some z:=⟨_,Y2 (q.1▸(Y0.1 p1).1)⟩;exact VR.dup (q.2 i x z p1 hz)
 have hE0:=@Z1O jk0 (Qy.prog 0) (Qy.F 0) (fun f=>gS f=true) (idS S) v v Z2H gokS recS lawF #[.slice a0 len0 cap0] #[.slice a0 len0 cap0] (by decide) hvr0 hw0 LawE Zhb (fun u q=>by
   rcases q with q | ⟨_,q,_⟩<;>cases q) (fun T=>lawA a0 len0 cap0 z0 (re v T) (hrow T))
 have hfr0:=@Z0V jk0 (Qy.prog 0) (Qy.F 0) (fun f=>gS f=true) (idS S) Z2H lawF #[.slice a0 len0 cap0] #[.slice a0 len0 cap0] hvr0 (by decide) gokS .normal (.inl rfl);have hself:@Self jk0 (Qy.prog 0) (Qy.F 0) [Frame.enter (Qy.prog 0) lawF #[.slice a0 len0 cap0] .normal,poison] v:=by
  letI:Jk:=jk0;refine⟨_,[],idS S,rfl,Zh8 S,⟨.cons hfr0 .nil,⟨.inl ?_,fun h=>absurd rfl h⟩,trivial⟩,⟨hw0.on,hw0.inj,fun _ _=>rfl,rfl⟩⟩;rw[Z39 lawQ]
  rfl
 rw[Z39 lawQ]at hself;have hE1:Ends (Qy.prog 0) (Done PP (Qy.F 0) lawF LawE) [lF.at (lA #[.slice a0 len0 cap0]) [.code lB],poison] v:=by
  rw[←Z39 lawQ];exact hE0
 have hst:=Zjj (Zev hvr) rfl;have hsure:=Zeu (R:=LawE) (fun xs u q=>by
   rcases q with q | ⟨ys,q,q2⟩
   ·cases q
   ·simp only[Ending.panicked.injEq,List.cons.injEq,and_true]at q
    have:xs=ys:=by
     simp only[bunV]at q;simpa using q
    subst this;exact q2) (fun x u q=>by
   rcases q with q | ⟨ys,q,q2⟩
   ·exact Ending.returned.inj q
   ·cases q) (fun ch u q=>by
   rcases q with q | ⟨ys,q,q2⟩
   ·cases q
   ·exact⟨ys,Ending.panicked.inj q⟩) Zhc rfl hst hwh (fun a b q=>hshut a b q) hself hE1
 rw[Z39 lawP];have hp:Past (Dk fun _=>False) W.heap.size #[]:=by
  have e:(Dk fun _=>False)=fun _=>False:=by
   funext l
   simp[Dk]
  rw[e];exact past_nil.mono (Nat.zero_le _)
 exact hsure W ⟨rfl,rfl,rfl⟩ #[run1 _ []] none #[] (fun _=>0) rfl (leavers_one _ _) hp
end Lift
namespace dyeSplits
open Go Go.ChangeShapes Go.WideShapes Go.ChangeAt Go.RowKit Go.Conc Go.ConcM
open Go.ChangeMaps (open_string shut_string)
theorem k1:(Rows.dyeSplitsRow.wf (OpenSpec.ofChange Rows.dyeSplitsSpec):Bool)=true:=by kernel_rfl
theorem k4:(Tryz.f10.params.all (Tryz.pinned.checked.prog.readableRec ·):Bool)=true:=by kernel_rfl
theorem k5:(namedTie Tryz.pinned.checked.prog Rows.dyeSplitsRow.named Rows.dyeSplitsSpec.vars:Bool)=true:=by kernel_rfl
theorem k6:((Rows.dyeSplitsRow.stops==[]):Bool)=true:=by kernel_rfl
theorem k8:((Rows.dyeSplitsRow.knobs==[]):Bool)=true:=by kernel_rfl
theorem k10:((Rows.dyeSplitsRow.inPlace==Tryz.pinned.checked.prog.inPlace 10):Bool)=true:=by kernel_rfl
theorem k11:((Rows.dyeSplitsRow.unfollowed==Tryz.pinned.checked.prog.unfollowed 10):Bool)=true:=by kernel_rfl
theorem k12:((Rows.dyeSplitsRow.recurses==Tryz.pinned.checked.prog.recurses 10):Bool)=true:=by kernel_rfl
theorem k13:((Rows.dyeSplitsRow.named==Tryz.pinned.checked.prog.varsNamed 10):Bool)=true:=by kernel_rfl
theorem k14:((Rows.dyeSplitsRow.maps==(Tryz.f10.params.toList++Rows.dyeSplitsSpec.plain.varTypes Tryz.pinned.checked.prog).any (Tryz.pinned.checked.prog.mapsRec ·)):Bool)=true:=by kernel_rfl
theorem k15:((Rows.dyeSplitsRow.ifaces==(Tryz.f10.params.toList++Rows.dyeSplitsSpec.plain.varTypes Tryz.pinned.checked.prog).any (Tryz.pinned.checked.prog.ifacesRec ·)):Bool)=true:=by kernel_rfl
theorem k16:((Rows.dyeSplitsRow.mapsOut==Tryz.pinned.checked.prog.mapsAmong Tryz.f10.resultTypes.toList):Bool)=true:=by kernel_rfl
theorem k17:((Rows.dyeSplitsRow.loops==(Tryz.f10.params.toList++Rows.dyeSplitsSpec.plain.varTypes Tryz.pinned.checked.prog).any (Tryz.pinned.checked.prog.loopsFrom ·)):Bool)=true:=by kernel_rfl
theorem k18:((Rows.dyeSplitsRow.wideKeys==(Tryz.f10.params.toList++Rows.dyeSplitsSpec.plain.varTypes Tryz.pinned.checked.prog++Tryz.f10.resultTypes.toList).any (Tryz.pinned.checked.prog.wideKeysFrom ·)):Bool)=true:=by kernel_rfl
theorem k19:(Rows.dyeSplitsSpec.vars.all (Tryz.pinned.checked.prog.varReadable ·):Bool)=true:=by kernel_rfl
theorem k20:(Tryz.f10.resultTypes.all (fun t=>Tryz.pinned.checked.prog.readableRec t&&decide (t<Tryz.pinned.checked.prog.types.size)):Bool)=true:=by kernel_rfl
theorem k21:((Rows.dyeSplitsRow.ifacesOut==Tryz.f10.resultTypes.toList.any (Tryz.pinned.checked.prog.ifacesRec ·)):Bool)=true:=by kernel_rfl
theorem k22:((Rows.dyeSplitsRow.loopsOut==Tryz.f10.resultTypes.toList.any (Tryz.pinned.checked.prog.loopsFrom ·)):Bool)=true:=by kernel_rfl
theorem k23:((Rows.dyeSplitsRow.plainKeys==Tryz.pinned.checked.prog.plainKeys):Bool)=true:=by kernel_rfl
theorem k24:(Rows.dyeSplitsRow.shortTexts.isNone:Bool)=true:=by kernel_rfl
theorem k27:((Rows.dyeSplitsRow.lifted==Tryz.pinned.checked.prog.liftsFinal):Bool)=true:=(congrArg (fun x=>(Rows.dyeSplitsRow.lifted==x)) liftsFinal).trans (by kernel_rfl)
theorem k28:((Tryz.pinned.checked.prog.make==some Rows.dyeSplitsRow.make):Bool)=true:=(congrArg (fun x=>(x==some Rows.dyeSplitsRow.make)) made).trans (by kernel_rfl)
theorem k29:((Rows.dyeSplitsRow.domain.isEmpty&&Rows.dyeSplitsRow.kinds==[]):Bool)=true:=by kernel_rfl
theorem k30:((Rows.dyeSplitsRow.pinned==Rows.dyeSplitsRow.pinnedBy):Bool)=true:=by kernel_rfl
theorem k31:((Rows.dyeSplitsRow.veiled==(Tryz.f10.params.toList++Rows.dyeSplitsSpec.plain.varTypes Tryz.pinned.checked.prog++Tryz.f10.resultTypes.toList).any (Tryz.pinned.checked.prog.veiledRec ·)):Bool)=true:=by kernel_rfl
theorem k32:(Rows.dyeSplitsRow.veiledFits Tryz.pinned.checked.prog Tryz.f10.params.toList (Tryz.f10.params.toList++Rows.dyeSplitsSpec.plain.varTypes Tryz.pinned.checked.prog++Tryz.f10.resultTypes.toList):Bool)=true:=by kernel_rfl
theorem closed:joinedFacts Tryz.pinned.checked.prog 10 Tryz.f10 Rows.dyeSplitsSpec Rows.dyeSplitsRow=true:=Z5o k1 Zct Zht k4 k5 k6 Zdm k8 Zcs k10 k11 k12 k13 k14 k15 k16 k17 k18 k19 k20 k21 k22 k23 k24 stopsHeard mayEnter k27 k28 k29 k30 k31 k32
theorem named:Tryz.pinned.checked.prog.funcNamed Rows.dyeSplitsRow.func=some 10:=by kernel_rfl
theorem inst:Tryz.f10.isInstance Tryz.pinned.checked.prog Rows.dyeSplitsRow.origin Rows.dyeSplitsRow.targs:=of_decide_eq_true (by kernel_rfl)
theorem wrap:Tryz.f10.isWrapper Tryz.pinned.checked.prog Rows.dyeSplitsRow.wrapper Rows.dyeSplitsRow.mainSum:=by unfold Func.isWrapper;first | (rw[if_pos (by decide +kernel)];kernel_rfl) | (rw[if_neg (by decide +kernel)];exact⟨rfl,rfl⟩)
theorem laidOut:laidOutB Tryz.prog=true:=Zct
theorem noInit:Tryz.prog.inits.idxOf? 10=none:=by kernel_rfl
theorem sliceInt:Tryz.prog.cellsOf 3=1:=by kernel_rfl
theorem okWide_cells{P:Program}{r:Reach}{t: TypeId}(ht:P.underlying t=some (.slice e))(h:Value.okWide P w r base t (.slice a n c)): ∀x,a=some x→x.spot=none∧∃cs e fz,w.heap[x.block]?=some (.cells cs e fz):=by
 rintro x rfl;simp only[Value.okWide,ht,Cell.okWide,Cell.ok]at h;obtain⟨_,_,_,h1,row,cells,h2,_⟩:=h;refine⟨h1,?_⟩;unfold World.shape? at h2
 cases hh:w.heap[x.block]? with
 | none=>rw[hh]at h2;cases h2
 | some o =>
  cases o with
  | cells cs e fz=>exact⟨cs,e,fz,rfl⟩
  | _=>rw[hh]at h2;cases h2
theorem lifted(os:Os)(started:os.Started)(H:Type)(enc:TypeId×Value→H)(F:Stop.Interp):
  ReturnsInLeavingWide Rows.dyeSplitsRow.assume Tryz.checked os 10 .any (Rows.dyeSplitsSpec.pre6 enc Tryz.prog Tryz.f10 Rows.dyeSplitsRow.domain false) ((OpenSpec.ofChange Rows.dyeSplitsSpec).postWith enc Tryz.prog Tryz.f10 F (outsideKept [.timePasses]) false true false):=by
 refine returnsInLeavingWide_of_change_time (C:=Tryz.checked) own started Tryz.func10
  (ChangeSpec.witness6c (enc:=enc) (C:=Tryz.checked) ⟨#[],#[.slice none 0 0],[]⟩ 8 (by as_aux_lemma=>kernel_rfl) (by as_aux_lemma=>kernel_rfl) (by as_aux_lemma=>kernel_rfl) (by as_aux_lemma=>kernel_rfl)) ?_
 intro W base args ds gs before hval0 hW _ _ _;have hval:∀(j:Nat) t v,Tryz.f10.params[j]?=some t→args[j]?=some v→Value.okWide Tryz.prog W .any base t v:=hval0;have hW':=hW;obtain⟨p,q,hA0,hV,rfl,hfz,hnd⟩:=hW;have hA:DataW.TrodAll enc Tryz.prog W 0 (fun _=>true) true Tryz.f10.params.toList args.toList ds p:=hA0;rw[Tryz.params10]at hA hval;obtain⟨v0,vs0,d0,ds0,p0,q0,hargs,rfl,rfl,h0,r0⟩:=trodAll_cons hA;obtain⟨rfl,rfl,rfl⟩:=trodAll_nil r0;obtain rfl:args=#[v0]:=by cases args;simp_all
 obtain⟨rfl,rfl⟩:=trodVars_none hV;have hok:=hval 0 22 v0 rfl rfl;obtain⟨a0,len0,cap0,rfl⟩:=okWide_slice Tryz.underlying22 hok;have hcl:=okWide_cells Tryz.underlying22 hok;have k0:=h0;have lt0:∀x∈p0,x.block<W.heap.size:=by obtain⟨m,hm⟩:=k0;exact DataW.trod_lt m _ _ _ hm
 obtain⟨z0,w0⟩:∃zs,Zae .i64 W a0 len0 cap0 zs:=by
  obtain⟨fuel,hf⟩:=h0
  rcases open_ints Tryz.underlying22 Tryz.underlying3 sliceInt hf with⟨hcs,_⟩ | ⟨x,l,c,zs,hcs,_,hl,hm,hz,_,hcell,hwz⟩
  ·simp[Value.cells]at hcs
   obtain⟨rfl,rfl,rfl⟩:=hcs;exact⟨[],.inl ⟨rfl,rfl,rfl,rfl⟩⟩
  ·simp[Value.cells]at hcs
   obtain⟨rfl,rfl,rfl⟩:=hcs;exact⟨zs,.inr ⟨_,rfl,hl,hm,by simpa using hz,hcell,hwz⟩⟩
 clear hA0 hval0;obtain⟨M,last,o,w',t',r1,r2,r3,v,e,hp,g1,g2,g3,g4⟩:=Lift.law_run W a0 len0 cap0 z0 w0 hcl;refine⟨M,last,o,w',t',r1,r2,r3,v,e,⟨?_,hp.2.2.2.1⟩,g1,g2,g3,g4⟩;obtain⟨rfl,hold,hsz,_,hout⟩:=hp;have bel:Below W.heap.size W {w' with os:=W.os,tape:=W.tape}:=⟨rfl,rfl,hout,hsz,hold⟩;have hp2:Rows.dyeSplitsSpec.post enc Tryz.prog Tryz.f10 false true false false W #[.slice a0 len0 cap0] (.bool true) {w' with os:=W.os,tape:=W.tape}:=
  ⟨_,_,_,[],_,[],hW',trodAll_mk1 (shut_bool Tryz.underlying4 _),(trodAll_cons_mk (Below.trod laidOut (by as_aux_lemma=>kernel_rfl) (of_decide_eq_true (by as_aux_lemma=>kernel_rfl)) k0 bel lt0) trodAll_mk0),rfl,bel.frame _,fun h=>by cases h⟩
 obtain⟨ds,gs,before,pr,pa,pv,q1,q2,q3,q4,q5,_⟩:=hp2;exact⟨ds,gs,before,pr,pa,pv,q1,q2.of_heap (by rfl),q3.of_heap (by rfl),q4.of_heap (by rfl),q5,fun h=>by cases h⟩
theorem said:Rows.DyeSplitsSaid:=
 OpenClaim.holds_of_wide_leaving_time 10 Tryz.f10 rfl rfl rfl rfl rfl rfl rfl ⟨rfl,rfl,rfl,rfl,rfl⟩ rfl rfl rfl rfl rfl named Tryz.func10 closed
  inst wrap (fun os started H enc _ F=>lifted os started H enc F)
end dyeSplits
section
variable{μ:Nat}
theorem dyeSplits_said:Rows.DyeSplitsSaid:=dyeSplits.said
end
end Go.Proofs.YtfelljbfeoplhaaGreat
