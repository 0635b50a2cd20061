/- Parts of a proof. No conditions. -/
import Derived.DeepKeys4
import Derived.DefersIn
import Derived.Maps.Keyed
import Derived.Maps.Own
import Derived.Maps.Views
import Derived.OrdersIn
import Derived.RecoverIn
import Derived.TacticsIn
import Derived.WideKeyArr
import Derived.Test.YtfelljbfeoplhaaGreatPkh4
set_option linter.unusedVariables false
set_option linter.unusedSimpArgs false
set_option linter.unusedSectionVars false
set_option maxRecDepth 100000
set_option maxHeartbeats 4000000
namespace Go.Proofs.YtfelljbfeoplhaaGreat
variable{f:Nat->Int}{c:Go.Code}{args:List Go.Value}{d ob:Nat}{α:Type}{W W':Go.World}
section
open Go.RowKit
variable{μ:Nat}
section
variable{P:Program}{ρ:Operand->Value}{o:Oper}{w:World}
theorem Z30{x:Operand}{f:FuncId}{l:List Operand}{ts:Array TypeId}{vs:List Value}{us cs zs:Array Value}(ho:o.op = .call {callee:=.value x,args:=l.toArray,argTypes:=ts})(hf:ρ x = .func (.func f) us cs)(hc:∀args w,(callFunc f args).run P w = .ok (.enter f args) w)(ha:l.map ρ=vs)(hx:us++vs.toArray++cs=zs): (execOp ρ o).run P w = .ok (.enter f zs) w:=by
 have ha:=Z9M ha;subst hx;rw[<-ha];unfold execOp;simp[ho,resolve,hf,invoke,hc,go_sem]
end
theorem Z8d(n:Int)(h0:-1000000000000<=n)(h1:n<=1000000000000)(w:World):Calls (Qy.prog μ) 118 #[.int .i64 n] w λe w'=>e = .returned (.int .i64 (max n (-n)))/\Ext [] w w':=by
 have E:=Ext.refl [] w;have G:=(Bk.nil w).ce E;refine(ent 7 Tryz.f118 rfl) λF=>wR λk1=>(F.m) λF=>k1<|wR λk2=>(F.m) λF=>(F.m) λF=>(F.y F.ng) λF=>(F.y F.mx) λF=>(F.m) λF=>k2<|(F.r1) ?_
 exact⟨rfl,(G.e 0)⟩
theorem Z0F{a b A B C:Int}(a0:0<=a)(a1:a<=A)(b0:0<=b)(b1:b<=B)(h:A*B<=C): 0<=a*b/\a*b<=C:=by
 refine⟨Int.mul_nonneg a0 b0,?_⟩;have h1:a*b<=A*b:=Int.mul_le_mul_of_nonneg_right a1 b0;have h2:A*b<=A*B:=Int.mul_le_mul_of_nonneg_left b1 oM;omega
theorem Z3K(hf:TubS f): 0<=prt f/\prt f<=24:=by
 have:=Z7T (f:=f) (a:=0) (b:=6) (n:=4) hf;rw[prt];omega
theorem Z9D{x:Vm}(hv:VOk x){k:Nat}(hk:k<x.L.length)(j:Nat): 0<=val (x.lamp k) j/\val (x.lamp k) j<=3:=by
 obtain⟨-,h⟩:=hv.ll _ (Z5 (.bool true,[]) hk);by_cases hj:j<(x.lamp k).length
 ·exact h _ (Z5 0 hj)
 ·rw[val,Y7,List.getElem?_eq_none oM];simp
theorem Z2S{x:Vm}(hv:VOk x){k:Nat}(hk:k<x.L.length){s:Nat->Int}(hs:∀j,0<=s j/\s j<=240){n:Nat}(hn:n<=3): 0<=dotE (val (x.lamp k)) s n/\dotE (val (x.lamp k)) s n<=2160:=by
 have:=Z7T (f:=λi=>val (x.lamp k) i*s i) (a:=0) (b:=720) (n:=n) λj hj=>Z0F (Z9D hv hk j).1 (Z9D hv hk j).2 (hs j).1 (hs j).2 oM;rw[dotE];omega
def tnE(x:Vm)(f:Nat->Int)(j:Nat):Int:=tonE x f j x.D.length
theorem Zac{x:Vm}(hv:VOk x)(hf:TubS f)(j:Nat): 0<=tnE x f j/\tnE x f j<=240:=by
 have:=Z5J hv hf j (Ye x.D.length);have:=hv.d4;rw[tnE];omega
theorem Z2D(x:Vm)(f:Nat->Int)(a:Nat->Int)(bn:Nat):dotE a (val (sumL x f bn)) (sumL x f bn).length=dotE a (tnE x f) bn:=by
 rw[show (sumL x f bn).length=bn by simp[sumL]];refine Z6w λi hi=>?_;show a i*val (sumL x f bn) i=a i*tnE x f i;congr 1;simp[val,sumL,hi,tnE]
def offE(x:Vm)(k:Nat)(f:Nat->Int)(s:Nat->Int):Int:=dotE (val (x.lamp k)) (tnE x f) x.B.toNat-prt f*dotE (val (x.lamp k)) s x.B.toNat
def Z1s(x:Vm)(s:List Int):Prop:=(s.length:Int)=x.B/\∀n∈s,0<=n/\n<=9
theorem ZeD{x:Vm}{s:List Int}(h:Z1s x s)(j:Nat): 0<=val s j/\val s j<=240:=by
 by_cases hj:j<s.length
 ·have:=h.2 _ (Z5 0 hj);rw[val];omega
 ·rw[val,Y7,List.getElem?_eq_none oM];simp
theorem ZaY{x:Vm}(hv:VOk x){k:Nat}(hk:k<x.L.length)(hf:TubS f){s:List Int}(hs:Z1s x s): -1000000<=offE x k f (val s)/\offE x k f (val s)<=1000000:=by
 have hb:=hv.b3;have h1:=Z2S hv hk (λj=>Zac hv hf j) (n:=x.B.toNat) oM;have h2:=Z2S hv hk (λj=>ZeD hs j) (n:=x.B.toNat) oM;have h3:=Z3K hf;have h4:=Z0F h3.1 h3.2 h2.1 h2.2 (C:=51840) oM;rw[offE];omega
theorem ZhR(x:Vm)(hv:VOk x)(k:Nat)(hk:k<x.L.length)(f:Nat->Int)(hf:TubS f)(s:List Int)(hs:Z1s x s)(a:Option Addr)(c:Nat)(w:World)(h:x.At w)(hr:Z6 w (.slice a s.length c) 1 (s.map Z4)):
  Calls (Qy.prog μ) 88 #[.agg x.vc,.int .i64 ((k:Nat):Int),.agg (tubC f),.slice a s.length c] w λe w'=>e = .returned (.int .i64 (offE x k f (val s)))/\Ext [] w w':=by
 have E:=Ext.refl [] w;have HX:=Lib.hid h;have HV:=Lib.hid hv;have HF:=Lib.hid hf;have HS:=Lib.hid hs;have HR:=Lib.hid hr;have hb1:=hv.b1;have hb3:=hv.b3;obtain⟨bn,hbn⟩:∃bn:Nat,x.B=bn:=⟨x.B.toNat,oM⟩;have hbn2:x.B.toNat=bn:=by omega
 have hsl:s.length=bn:=by have:=hs.1;omega
 have hsb:Hid (∀n∈s,0<=n/\n<=100000):=λn hn=>by have:=hs.2 n hn;omega
 have hb:=ZaY hv hk hf hs;have h1:=Z2S hv hk (λj=>Zac hv hf j) (n:=bn) oM;have h2:=Z2S hv hk (λj=>ZeD hs j) (n:=bn) oM;have h3:=Z3K hf;have h4:=Z0F h3.1 h3.2 h2.1 h2.2 (C:=51840) oM;have hof:offE x k f (val s)=dotE (val (x.lamp k)) (tnE x f) bn-prt f*dotE (val (x.lamp k)) (val s) bn:=by rw[offE,hbn2]
 rw[hof];clear h hv hf hs hr hb hof;have G:=(Bk.nil w).ce E;refine(ent 26 Tryz.f88 rfl) λF=>wR λk1=>(F.bx G) λyy F G=>(F.bx G) λyy F G=>(F.m) λF=>k1<|wR λk2=>(F.y (F.lb (G.q 1))) λF=>(F.y F.mf) λF=>(F.m) λF=>k2<|wQ λk3=>?_
 have G2:=G;refine(wD [] none G) λG=>(F.z 0 (G.t 0) F.mo) λF=>(F.z 1 (G.t 0) F.mo) λF=>(F.zr 2 (G.t 0) λhS=>F.lb (G2.k 1 hS)) λF=>(F.zr 3 (G.t 0) λhS=>F.lb (G2.k 0 hS)) λF=>(F.zr 6 (G.t 0) λhS=>F.lb (G2.k 0 hS)) λF=>(F.z 8 (G.t 0) F.mo) λF=>(F.z 9 (G.t 0) F.mo) λF=>(F.z 10 (G.t 0) F.mo) λF=>(aO 4)<|(F.ok (Z4g x HV.out bn hbn f HF.out _ (HX.out.ext (G.e 3)))) ?_
 rintro _ w4 ⟨a16,rfl,oo,e9⟩;refine kG G e9 λF G=>.intro (G.t 0) ?_;have hrw:=Zw (xs:=sumL x f bn) (row:=Z4) (by rw[<-Z0t,show (sumL x f bn).length=bn by simp[sumL]];exact oo) (λ_=>rfl);have hll:(sumL x f bn).length=bn:=by simp[sumL]
 have hwe:=Z2P (μ:=μ) x HV.out k hk (sumL x f bn) (by rw[hll];omega) (λn hn=>by have:=Z3i HV.out HF.out bn n hn;omega) a16 bn w4 (HX.out.ext (G.e 3)) (by rw[hll];exact hrw);rw[Z2D,hll]at hwe;refine(aO 5)<|(F.okr rfl (Z30 rfl (F.at rfl) Qy.call102 (mpS (F.at rfl) (mpS (F.at rfl) mp0)) sU) hwe) ?_
 rintro _ w5 ⟨rfl,e9⟩;refine kG G e9 λF G=>.intro (G.t 0) ?_;clear oo hrw hwe;refine(aO 7)<|(F.ok0 G (ZY f HF.out.ok _)) @λw6 _ F G=>.intro (G.t 0) ?_
 have hwe:=Z2P (μ:=μ) x HV.out k hk s HS.out.1 hsb.out a c w6 (HX.out.ext (G.e 3)) (HR.out.ext (G.e 3) sU);refine(aO 11)<|(F.okr rfl (Z30 rfl (F.at rfl) Qy.call102 (mpS (F.at rfl) (mpS (F.at rfl) mp0)) sU) hwe) ?_
 rintro _ w7 ⟨rfl,e9⟩;refine kG G e9 λF G=>.intro (G.t 0) ?_;rw[hsl]at F;refine(F.z 12 (G.t 0) F.ml) λF=>(F.z 13 (G.t 0) F.sb) λF=>(F.z 14 (G.t 0) F.mo) λF=>(aD)<|k3<|(F.r1) ?_
 exact⟨rfl,(G.e 3)⟩
def matE(x:Vm)(f:Nat->Int)(s:Nat->Int)(ls:List Int):Bool:=ls.all λl=>decide (max (offE x l.toNat f s) (-offE x l.toNat f s)<=x.tol*prt f)
def Zcn(x:Vm)(ls:List Int):Prop:=∀n∈ls,0<=n/\n<x.L.length
theorem Zj9{x:Vm}{s: Nat->Int}{ls:List Int}{i:Nat}(hi:i<ls.length)(h:x.tol*prt f<max (offE x (ls.getD i 0).toNat f s) (-offE x (ls.getD i 0).toNat f s)): matE x f s ls=false:=by
 rw[matE,List.all_eq_false];exact⟨_,Z5 0 hi,by simp only[decide_eq_true_eq];omega⟩
theorem Zj8{x:Vm}{s: Nat->Int}{ls:List Int}(h:∀j,j<ls.length->max (offE x (ls.getD j 0).toNat f s) (-offE x (ls.getD j 0).toNat f s)<=x.tol*prt f): matE x f s ls=true:=by
 rw[matE,Yl];intro n hn;obtain⟨j,hj,rfl⟩:=List.getElem_of_mem hn;have:=h j hj;rw[Y7,List.getElem?_eq_getElem hj]at this;exact decide_eq_true this
theorem Z7u(x:Vm)(hv:VOk x)(f:Nat->Int)(hf:TubS f)(s:List Int)(hs:Z1s x s)(ls:List Int)(hl:Zcn x ls)(hll:ls.length<=1000)(a b:Option Addr)(c d:Nat)(w:World)(h:x.At w)(hr:Z6 w (.slice a s.length c) 1 (s.map Z4))(hq:Z6 w (.slice b ls.length d) 1 (ls.map Z4)):
  Calls (Qy.prog μ) 80 #[.agg x.vc,.agg (tubC f),.slice a s.length c,.slice b ls.length d] w λe w'=>e = .returned (.bool (matE x f (val s) ls))/\Ext [] w w':=by
 have E:=Ext.refl [] w;have HX:=Lib.hid h;have HV:=Lib.hid hv;have HF:=Lib.hid hf;have HS:=Lib.hid hs;have HR:=Lib.hid hr;have HL:=Lib.hid hl;have HLS:=Lib.hid (Z7 hq 0);have h3:=Z3K hf;have ht0:=hv.t0;have ht1:=hv.t12;have h4:=Z0F ht0 ht1 h3.1 h3.2 (C:=288) oM;clear h hv hf hs hr hl hq;have G:=(Bk.nil w).ce E;refine(ent 31 Tryz.f80 rfl) λF=>wR λk1=>(F.bx G) λyy F G=>(F.bx G) λyy F G=>(F.m) λF=>k1<|wQ λk2=>wR λk3=>(F.m) λF=>(F.y F.ln) λF=>(F.m) λF=>k3<|Yh<|lpB (F.b [2,4,5,11,12]) G ls.length (λi Lv Sv W=>Lv=[(13,.int .i64 ((i:Nat):Int))]/\Sv=[]/\Hid (∀j,j<i->max (offE x (ls.getD j 0).toNat f (val s)) (-offE x (ls.getD j 0).toNat f (val s))<=x.tol*prt f)) ⟨_,_,F.u,G.u,rfl,rfl,Lib.hid (λj hj=>absurd hj oM)⟩ ?_
 clear F G;rintro i _ w3 _ _ hi1 ⟨rfl,rfl,hno⟩ F G;replace G:=G.z;refine wR λk4=>(F.y F.ls) λF=>k4<|wQ λk5=>F.ci (λhc14=>?_) (λhc14=>?_)
 ·refine Yi<|k5<|wQ λk6=>Yh<|wQ λk7=>?_
  obtain⟨hk0,hk1⟩:=HL.out _ (Z5 (l:=ls) (i:=i) 0 oM);obtain⟨k,hkk⟩:∃k:Nat,ls.getD i 0=k:=⟨(ls.getD i 0).toNat,oM⟩;have hkt:(ls.getD i 0).toNat=k:=by omega
  have hkL:k<x.L.length:=by omega
  obtain⟨hb0,hb1⟩:=ZaY HV.out hkL HF.out HS.out;refine Yg<|(F.ix HLS.out i) λxr8 F=>(F.y (F.l1 (xr8 _ (G.e 2)) 0)) λF=>?_
  rw[hkk]at F;refine(F.m) λF=>k7<|wQ λk9=>?_
  have G2:=G;refine(wD [] none G) λG=>(F.zr 0 (G.t 0) λhS=>F.lb (G2.k 1 hS)) λF=>(F.z 1 (G.t 0) F.mo) λF=>(F.zr 2 (G.t 0) λhS=>F.lb (G2.k 0 hS)) λF=>(F.z 3 (G.t 0) F.mo) λF=>(F.z 6 (G.t 0) (F.fd 0)) λF=>(F.z 7 (G.t 0) (F.fd 3)) λF=>(F.zr 8 (G.t 0) λhS=>F.lc (G2.k 1 hS)) λF=>(F.zr 9 (G.t 0) λhS=>F.lb (G2.k 0 hS)) λF=>(aO 4)<|(F.ok0 G (ZhR x HV.out k hkL f HF.out s HS.out a c _ (HX.out.ext (G.e 3)) (HR.out.ext (G.e 3) sU))) λF G=>.intro (G.t 0)<|(aO 5)<|(F.ok0 G (Z8d (offE x k f (val s)) oM oM _)) λF G=>.intro (G.t 0)<|(aO 10)<|(F.ok0 G (ZY f HF.out.ok _)) λF G=>.intro (G.t 0) ?_
  refine(F.z 11 (G.t 0) F.ml) λF=>(F.z 12 (G.t 0) F.gt) λF=>(aD)<|k9<|F.ci (λhc29=>?_) (λhc29=>?_)
  ·rw[<-hkt]at hc29;refine wR λk10=>(F.m) λF=>k10<|(F.r1) ?_
   exact⟨ZK (Zj9 oM hc29).symm,(G.e 3)⟩
  ·have hle:max (offE x (ls.getD i 0).toNat f (val s)) (-offE x (ls.getD i 0).toNat f (val s))<=x.tol*prt f:=by rw[hkt];omega
   refine Yi<|k6<|Yg<|(F.y F.ad) λF=>(F.m) λF=>?_
   show _/\_;exact⟨oM,_,_,F.u,G.u,rfl,rfl,Lib.hid (λj hj=>if e:j=i then e▸hle else hno.out j oM)⟩
 ·refine wp_exit<|k2<|wR λk11=>(F.m) λF=>k11<|(F.r1) ?_
  exact⟨ZK (Zj8 λj hj=>hno.out j oM).symm,(G.e 2)⟩
def alkV(x:Vm)(k:Nat)(f g:Nat->Int):Int:=prt g*dotE (val (x.lamp k)) (tnE x f) x.B.toNat-prt f*dotE (val (x.lamp k)) (tnE x g) x.B.toNat
def alkE(x:Vm)(k:Nat)(f g:Nat->Int):Bool:=decide (max (alkV x k f g) (-alkV x k f g)<=x.tol*prt f*prt g)
variable{μ:Nat}
theorem Zam(x:Vm)(hv:VOk x)(k:Nat)(hk:k<x.L.length)(f g:Nat->Int)(hf:TubS f)(hg:TubS g)(w:World)(h:x.At w):
  Calls (Qy.prog μ) 68 #[.agg x.vc,.int .i64 ((k:Nat):Int),.agg (tubC f),.agg (tubC g)] w λe w'=>e = .returned (.bool (alkE x k f g))/\Ext [] w w':=by
 have E:=Ext.refl [] w;have HX:=Lib.hid h;have HV:=Lib.hid hv;have HF:=Lib.hid hf;have HG:=Lib.hid hg;have hb1:=hv.b1;have hb3:=hv.b3;obtain⟨bn,hbn⟩:∃bn:Nat,x.B=bn:=⟨x.B.toNat,oM⟩;have hbn2:x.B.toNat=bn:=by omega
 have h1:=Z2S hv hk (λj=>Zac hv hf j) (n:=bn) oM;have h2:=Z2S hv hk (λj=>Zac hv hg j) (n:=bn) oM;have h3:=Z3K hf;have h4:=Z3K hg;have h5:=Z0F h4.1 h4.2 h1.1 h1.2 (C:=51840) oM;have h6:=Z0F h3.1 h3.2 h2.1 h2.2 (C:=51840) oM;have h7:=Z0F hv.t0 hv.t12 h3.1 h3.2 (C:=288) oM;have h8:=Z0F h7.1 h7.2 h4.1 h4.2 (C:=6912) oM;have hal:alkE x k f g=decide (max (prt g*dotE (val (x.lamp k)) (tnE x f) bn-prt f*dotE (val (x.lamp k)) (tnE x g) bn) (-(prt g*dotE (val (x.lamp k)) (tnE x f) bn-prt f*dotE (val (x.lamp k)) (tnE x g) bn))<=x.tol*prt f*prt g):=by rw[alkE,alkV,hbn2]
 rw[hal];clear h hv hf hg hal;have G:=(Bk.nil w).ce E;refine(ent 41 Tryz.f68 rfl) λF=>wR λk1=>(F.bx G) λyy F G=>(F.bx G) λyy F G=>(F.bx G) λyy F G=>(F.m) λF=>k1<|wQ λk2=>?_
 have G2:=G;refine(wD [] none G) λG=>(F.zr 0 (G.t 0) λhS=>F.lb (G2.k 1 hS)) λF=>(F.zr 2 (G.t 0) λhS=>F.lb (G2.k 0 hS)) λF=>(aO 1)<|(F.ok0 G (ZY f HF.out.ok _)) λF G=>.intro (G.t 0)<|(aO 3)<|(F.ok0 G (ZY g HG.out.ok _)) λF G=>.intro (G.t 0)<|(F.z 4 (G.t 0) F.mo) λF=>(F.z 5 (G.t 0) F.mo) λF=>(aD)<|k2<|wQ λk3=>?_
 have G4:=G;refine(wD [] none G) λG=>(F.z 0 (G.t 0) F.mo) λF=>(F.zr 1 (G.t 0) λhS=>F.lb (G4.k 3 hS)) λF=>(F.z 2 (G.t 0) F.mo) λF=>(F.zr 3 (G.t 0) λhS=>F.lb (G4.k 3 hS)) λF=>(F.zr 4 (G.t 0) λhS=>F.lb (G4.k 2 hS)) λF=>(F.z 8 (G.t 0) F.mo) λF=>(F.zr 9 (G.t 0) λhS=>F.lb (G4.k 3 hS)) λF=>(F.z 10 (G.t 0) F.mo) λF=>(F.zr 11 (G.t 0) λhS=>F.lb (G4.k 3 hS)) λF=>(F.zr 12 (G.t 0) λhS=>F.lb (G4.k 1 hS)) λF=>(F.z 18 (G.t 0) (F.fd 0)) λF=>(F.z 19 (G.t 0) (F.fd 3)) λF=>(F.zr 20 (G.t 0) λhS=>F.lc (G4.k 3 hS)) λF=>(F.z 21 (G.t 0) F.mo) λF=>?_;refine(F.z 22 (G.t 0) F.ml) λF=>(F.z 23 (G.t 0) F.mo) λF=>(F.z 24 (G.t 0) F.ml) λF=>(aO 5)<|(F.ok (Z4g x HV.out bn hbn f HF.out _ (HX.out.ext (G.e 5)))) ?_
 rintro _ w8 ⟨a20,rfl,oo,e9⟩;refine kG G e9 λF G=>.intro (G.t 0) ?_;have hrw:=Zw (xs:=sumL x f bn) (row:=Z4) (by rw[<-Z0t,show (sumL x f bn).length=bn by simp[sumL]];exact oo) (λ_=>rfl);have hll:(sumL x f bn).length=bn:=by simp[sumL]
 have hwe:=Z2P (μ:=μ) x HV.out k hk (sumL x f bn) (by rw[hll];omega) (λn hn=>by have:=Z3i HV.out HF.out bn n hn;omega) a20 bn w8 (HX.out.ext (G.e 5)) (by rw[hll];exact hrw);rw[Z2D,hll]at hwe;refine(aO 6)<|(F.ok hwe) ?_
 rintro _ w9 ⟨rfl,e9⟩;refine kG G e9 λF G=>.intro (G.t 0) ?_;clear oo hrw hwe;refine(F.z 7 (G.t 0) F.ml) λF=>(aO 13)<|(F.ok (Z4g x HV.out bn hbn g HG.out _ (HX.out.ext (G.e 5)))) ?_
 rintro _ w10 ⟨a28,rfl,oo,e9⟩;refine kG G e9 λF G=>.intro (G.t 0) ?_;have hrw:=Zw (xs:=sumL x g bn) (row:=Z4) (by rw[<-Z0t,show (sumL x g bn).length=bn by simp[sumL]];exact oo) (λ_=>rfl);have hll:(sumL x g bn).length=bn:=by simp[sumL]
 have hwe:=Z2P (μ:=μ) x HV.out k hk (sumL x g bn) (by rw[hll];omega) (λn hn=>by have:=Z3i HV.out HG.out bn n hn;omega) a28 bn w10 (HX.out.ext (G.e 5)) (by rw[hll];exact hrw);rw[Z2D,hll]at hwe;refine(aO 14)<|(F.ok hwe) ?_
 rintro _ w11 ⟨rfl,e9⟩;refine kG G e9 λF G=>.intro (G.t 0) ?_;clear oo hrw hwe;refine(F.z 15 (G.t 0) F.ml) λF=>(F.z 16 (G.t 0) F.sb) λF=>(aO 17)<|(F.ok0 G (Z8d (prt g*dotE (val (x.lamp k)) (tnE x f) bn-prt f*dotE (val (x.lamp k)) (tnE x g) bn) oM oM _)) λF G=>.intro (G.t 0)<|(F.z 25 (G.t 0) F.le) λF=>(F.z 26 (G.t 0) F.mo) λF=>(aD)<|k3<|(F.r1) ?_
 exact⟨rfl,(G.e 5)⟩
theorem Z9U{l:List Int}{m hi:Int}(h1:(l.length:Int)=m)(h2:∀n∈l,0<=n/\n<=hi): numE l m hi=0:=by
 rw[numE,if_neg oM,if_pos];rw[Yl];intro n hn;have:=Z0d.2 (h2 n hn);rw[this];rfl
theorem Z2n(x:Vm)(hv:VOk x)(s:List Int)(hs:Z1s x s)(a:Option Addr)(c:Nat)(w:World)(hr:Z6 w (.slice a s.length c) 1 (s.map Z4)):
  Calls (Qy.prog μ) 78 #[.agg x.vc,.slice a s.length c] w λe w'=>e = .returned (.tuple #[])/\Ext [] w w':=by
 have E:=Ext.refl [] w;have hz:=Z9U hs.1 hs.2;have hlen:=hs.1;have hb3:=hv.b3;have HR:=Lib.hid hr;clear hr hs;have G:=(Bk.nil w).ce E;refine(ent 30 Tryz.f78 rfl) λF=>wR λk1=>(F.bx G) λyy F G=>k1<|wQ λk2=>wR λk3=>(F.m) λF=>(F.y F.ln) λF=>(F.y (F.fd 0)) λF=>(F.y (F.fd 0)) λF=>(F.y (F.lc (G.q 0))) λF=>(F.y F.ls) λF=>k3<|(F.JF)<|Yi<|k2<|wQ λk4=>wR λk5=>(F.m) λF=>(F.y F.ln) λF=>(F.y (F.fd 0)) λF=>(F.y (F.fd 0)) λF=>(F.y (F.lc (G.q 0))) λF=>?_
 refine(F.y F.gt) λF=>k5<|(F.JF)<|Yi<|k4<|wR λk6=>(F.m) λF=>(F.y (F.fd 0)) λF=>(F.y (F.fd 0)) λF=>(F.y (F.lc (G.q 0))) λF=>(F.k (Z1U s x.B 9 a c _ (HR.out.ext (G.e 1) sU) oM oM)) ?_
 rintro _ w2 ⟨rfl,e9⟩;refine kG G e9 λF G=>?_;rw[hz]at F;refine(F.m) λF=>(F.y F.xt) λF=>(F.y F.xt) λF=>(F.m) λF=>(F.m) λF=>k6<|Yg<|(F.m) λF=>(F.k0 G (Z7w _)) λF G=>(F.f0) ?_
 exact⟨rfl,(G.e 1)⟩
def Z5S(x:Vm)(ls:List Int):Prop:=1<=ls.length/\Zcn x ls/\∀i,0<i->i<ls.length->ls.getD (i-1) 0<ls.getD i 0
theorem Z7j(x:Vm)(hv:VOk x)(ls:List Int)(hs:Z5S x ls)(hll:ls.length<=1000)(a:Option Addr)(c:Nat)(w:World)(h:x.At w)(hr:Z6 w (.slice a ls.length c) 1 (ls.map Z4)):
  Calls (Qy.prog μ) 71 #[.agg x.vc,.slice a ls.length c] w λe w'=>e = .returned (.tuple #[])/\Ext [] w w':=by
 have E:=Ext.refl [] w;obtain⟨h1,h2,h3⟩:=hs;have HX:=Lib.hid h;have HV:=Lib.hid hv;have H2:=Lib.hid h2;have H3:=Lib.hid h3;have HS:=Lib.hid (Z7 hr 0);clear hr h2 h3 h hv;have G:=(Bk.nil w).ce E;refine(ent 33 Tryz.f71 rfl) λF=>wR λk1=>(F.bx G) λyy F G=>k1<|wQ λk2=>wR λk3=>(F.m) λF=>(F.y F.ln) λF=>(F.y F.eq) λF=>k3<|(F.JF)<|Yi<|k2<|wR λk4=>(F.m) λF=>(F.y F.ln) λF=>(F.m) λF=>k4<|Yh<|lpC (F.b [1,2,10,11]) G ls.length (λi=>[(12,.int .i64 ((i:Nat):Int))]) F.u λi hi1 F G=>wR λk5=>(F.y F.ls) λF=>k5<|wQ λk6=>F.ci (λhc13=>?_) (λhc13=>?_)
 ·refine Yi<|k6<|wQ λk7=>Yh<|wR λk8=>(F.m) λF=>(F.ix HS.out i) λxr9 F=>(F.y (F.l1 (xr9 _ (G.e 1)) 0)) λF=>(F.m) λF=>(F.m) λF=>k8<|wQ λk10=>?_
  obtain⟨hk0,hk1⟩:=H2.out _ (Z5 (l:=ls) (i:=i) 0 oM);refine Yg<|(F.y (F.lb (G.q 0))) λF=>(F.m) λF=>(F.k0 G (Z9F x HV.out (ls.getD i 0) hk0 hk1 _)) λF G=>k10<|wQ λk11=>?_
  by_cases ci:0<i
  ·have hlt:=H3.out i ci oM;refine Yg<|(F.m) λF=>(F.y F.gtT) λF=>(F.m) λF=>(F.m) λF=>(F.m) λF=>(F.m) λF=>(F.y F.sb) λF=>?_
   rw[show (((i:Nat):Int)-1)=((i-1:Nat):Int) by omega]at F;refine(F.ix HS.out (i-1)) λxr12 F=>(F.y (F.l1 (xr12 _ (G.e 1)) 0)) λF=>(F.y F.leF) λF=>(F.y F.pT) λF=>k11<|(F.cF)<|Yi<|k7<|Yg<|(F.y F.ad) λF=>(F.m) λF=>?_
   show _/\_;exact⟨oM,F.u,G.u⟩
  ·refine Yg<|(F.m) λF=>(F.y F.gtF) λF=>(F.m) λF=>(F.n) λF=>(F.n) λF=>(F.n) λF=>(F.n) λF=>(F.n) λF=>(F.n) λF=>(F.n) λF=>(F.y F.pF) λF=>k11<|(F.cF)<|Yi<|k7<|Yg<|(F.y F.ad) λF=>(F.m) λF=>?_
   show _/\_;exact⟨oM,F.u,G.u⟩
 ·refine wp_exit<|(F.e0) ?_
  exact⟨rfl,(G.e 1)⟩
variable{μ:Nat}
structure RcpOk(x:Vm)(l:List Int):Prop where
 len:l.length=x.D.length
 bd:∀n∈l,0<=n/\n<=6
 s1:1<=l.sum
 s6:l.sum<=6
theorem Z6B{l:List Int}{a b:Int}(h:∀n∈l,a<=n/\n<=b)(h0:a<=0)(h1:0<=b)(k:Nat): a<=val l k/\val l k<=b:=by
 by_cases hk:k<l.length
 ·exact h _ (Z5 0 hk)
 ·rw[val,Y7,List.getElem?_eq_none oM];exact⟨h0,h1⟩
theorem RcpOk.tub{x:Vm}{l:List Int}(h:RcpOk x l): TubS (val l):=λk _=>Z6B h.bd oM oM k
theorem Zb2{w w2:World}{b:Nat}{l:List Int}{T:TypeId}(e:w2=w.setCells b 0 (l.map (Value.int .i64)))(H:w.heap[b]?=some (.cells (tubC zf) T (0,0)))(hl:l.length<=4): w2.heap[b]?=some (.cells (tubC (val l)) T (0,0)):=by
 rw[e]
 match l,hl with
 | [],_=>exact H
 | [p],_=>exact ZU (w2:=w.setCells b 0 [.int .i64 p]) rfl H rfl
 | [p,q],_=>exact Z1Y (w2:=w.setCells b 0 [.int .i64 p,.int .i64 q]) rfl H rfl
 | [p,q,r],_=>exact ZU (w2:=w.setCells b 0 [.int .i64 p,.int .i64 q,.int .i64 r]) (w:=(w.setCells b 0 [.int .i64 p,.int .i64 q])) (o:=2) rfl (Z1Y (w2:=w.setCells b 0 [.int .i64 p,.int .i64 q]) rfl H rfl) rfl
 | [p,q,r,s],_=>exact Z7C (cs:=tubC (val [p,q,r,s])) rfl H rfl
 | p::q::r::s::t::l,h=>simp at h
theorem Z7G{n m:Int}(h1:1<=n)(h2:n<=m): sizE n m=0:=by rw[sizE,if_neg oM,if_neg oM]
theorem Z0B(x:Vm)(hv:VOk x)(l:List Int)(hl:RcpOk x l)(a:Option Addr)(c:Nat)(w:World)(hr:Z6 w (.slice a l.length c) 1 (l.map Z4)):
  Calls (Qy.prog μ) 65 #[.agg x.vc,.slice a l.length c] w λe w'=>e = .returned (.agg (tubC (val l)))/\Ext [] w w':=by
 have E:=Ext.refl [] w;have HR:=Lib.hid hr;have HS:=Lib.hid (Z7 hr 0);have HB:=Lib.hid hl.bd;have HT:=Lib.hid hl.tub.ok;have hlen:=hl.len;have hd1:=hv.d1;have hd4:=hv.d4;have hpr:prt (val l)=l.sum:=Z2s l 4 oM;have hsz:sizE l.sum 6=0:=Z7G hl.s1 hl.s6;clear hr hl hv;have G:=(Bk.nil w).ce E;refine(ent 42 Tryz.f65 rfl) λF=>wR λk1=>(F.bx G) λyy F G=>(F.al G Qy.zeroValue88) λyy F G=>k1<|wQ λk2=>wR λk3=>(F.m) λF=>(F.y F.ln) λF=>(F.y (F.fd 0)) λF=>(F.y (F.fd 1)) λF=>(F.y (F.lc (G.q 1))) λF=>(F.y F.ln) λF=>(F.y F.ls) λF=>k3<|(F.JF)<|Yi<|k2<|wQ λk4=>wR λk5=>(F.m) λF=>(F.y F.ln) λF=>?_
 refine(F.y (F.fd 0)) λF=>(F.y (F.fd 1)) λF=>(F.y (F.lc (G.q 1))) λF=>(F.y F.ln) λF=>(F.y F.gt) λF=>k5<|(F.JF)<|Yi<|k4<|wQ λk6=>wR λk7=>(F.m) λF=>(F.y F.ln) λF=>(F.m) λF=>k7<|Yh<|lpC (F.b [1,4,24,25]) G l.length (λi=>[(26,.int .i64 ((i:Nat):Int))]) F.u λi hi1 F G=>wR λk8=>(F.y F.ls) λF=>k8<|wQ λk9=>F.ci (λhc27=>?_) (λhc27=>?_)
 ·refine Yi<|k9<|wQ λk10=>Yh<|wR λk11=>(F.ix HS.out i) λxr12 F=>(F.y (F.l1 (xr12 _ (G.e 2)) 0)) λF=>(F.m) λF=>k11<|wQ λk13=>?_
  have hno:=Z0d.2 (HB.out _ (Z5 (l:=l) (i:=i) 0 oM));refine Yg<|(F.m) λF=>(F.k0 G (ZX (l.getD i 0) 0 6 _)) λF G=>k13<|(F.jF hno)<|Yi<|k10<|Yg<|(F.y F.ad) λF=>(F.m) λF=>?_
  show _/\_;exact⟨oM,F.u,G.u⟩
 ·refine wp_exit<|k6<|wR λk14=>(F.al G Qy.zeroValue88) @λn7 w5 _ yy F G=>?_
  have q7:=G.q 0;replace q7:w5.heap[n7]?=some (.cells (tubC zf) 88 (0,0)):=q7;replace G:=G.rQ 0 q7;clear q7;refine k14<|wQ λk15=>Yg ?_
  refine(F.y ((Z1r (n:=4) rfl (F.at rfl) kR kR kR))) λF=>(F.m) λF=>?_;have hlr2:=HR.out.ext (G.e 3) sU;obtain⟨sb,so,hsa,-,-⟩:=hlr2.range rfl (by intro e;have hq:=congrArg List.length e;rw[Yj,List.length_nil]at hq;omega);rw[hsa]at hlr2;have hcd:∀j,j<l.length->(w5.cell? ⟨n7,0+j,none⟩).isSome=true:=λj hj=>(by have:=Z2v (G.q 0) (i:=(j:Int)) (k:=j) rfl oM;rw[Nat.mul_one,Int.toNat_natCast]at this;rw[this];rfl);refine sqN F (Zct (l.map (Value.int .i64)) rfl (F.at rfl) ((F.at rfl).trans (congrArg (λz=>Value.slice z _ _) hsa)) Qy.underlying22 kR (by rw[Yj];exact(Nat.min_eq_left oM).symm) (Z6Z hlr2) (by rw[Yj];exact hcd) (by rw[Yj];exact λj _=>Zg (G.q 0) _) (Z4K _)) ?_ (hw:=F.want rfl);clear F;rintro _ w6 F hw;replace G:=G.pr 0 hw (Zb2 hw (G.q 0) oM);refine k15<|wR λk16=>(F.y (F.lb (G.q 0))) λF=>(F.k (ZY (val l) HT.out _)) ?_
  rintro _ w7 ⟨rfl,e9⟩;refine kG G e9 λF G=>?_;rw[hpr]at F;refine(F.k (Z3O l.sum 6 _)) ?_;rintro _ w8 ⟨rfl,e9⟩;refine kG G e9 λF G=>?_;rw[hsz]at F;refine(F.k0 G (Z7w _)) λF G=>k16<|wR λk17=>(F.y (F.lb (G.q 0))) λF=>(F.sr G 1) λG=>k17 ?_
  refine(F.rg (rs_c F rfl rfl Qy.underlying88 rfl kR (G.q 1))) ?_;exact⟨rfl,(G.e 3)⟩
def gcT(f:Nat->Int):Nat->Nat
 | 0=>0
 | k+1=>Nat.gcd (gcT f k) (f k).toNat
def gcE(f:Nat->Int):Nat:=gcT f 4
def lowF(f:Nat->Int)(d:Int)(i:Nat):Nat->Int:=λj=>if j<i then f j / d else f j
theorem Zdw{f:Nat->Int}(hf:TubS f):∀{k:Nat},k<=4->gcT f k<=6
 | 0,_=>by simp[gcT]
 | k+1,hk=>by
  rw[gcT];obtain⟨h0,h1⟩:=hf k oM;by_cases e:(f k).toNat=0
  ·rw[e,Nat.gcd_zero_right];exact Zdw hf oM
  ·exact Yd (Nat.le_of_dvd oM (Nat.gcd_dvd_right _ _)) oM
theorem Zdx{u v:Nat}(h:0<v): Nat.gcd v (u % v)=Nat.gcd u v:=by
 rw[Nat.gcd_comm v,<-Nat.gcd_rec,Nat.gcd_comm]
theorem ZdW(f:Nat->Int)(hf:TubS f)(hg:0<gcE f)(w:World):Calls (Qy.prog μ) 125 #[.agg (tubC f)] w λe w'=>e = .returned (.agg (tubC (lowF f (gcE f) 4)))/\Ext [] w w':=by
 have E:=Ext.refl [] w;have HF:=Lib.hid hf;have hg6:gcE f<=6:=Zdw hf oM;clear hf;have G:=(Bk.nil w).ce E;refine(ent 29 Tryz.f125 rfl) λF=>wR λk1=>(F.bx G) @λn1 w1 _ yy F G=>(F.al G Qy.zeroValue88) λyy F G=>k1<|wR λk2=>(F.m) λF=>?_
 rw[show (0:Int)=((gcT f 0:Nat):Int) from rfl]at F;refine k2<|wQ λk3=>wR λk4=>(F.y (F.lb (G.q 1))) λF=>(F.m) λF=>?_
 rw[show (0:Int)=((0:Nat):Int) from rfl]at F;refine k4<|Yh<|lpC (F.b [1,2,7]) G (4) (λi=>[(3,.int .i64 ((gcT f i:Nat):Int)),(8,.int .i64 ((i:Nat):Int))]) F.u @λ_ w3 i hi1 F G=>wR λk5=>(F.y F.ls) λF=>k5<|wQ λk6=>F.ci (λhc9=>?_) (λhc9=>?_)
 ·refine Yi<|k6<|wQ λk7=>Yh<|wQ λk8=>?_
  obtain⟨hf0,hf1⟩:=HF.out i oM;obtain⟨p,hp⟩:∃p:Nat,f i=p:=⟨(f i).toNat,oM⟩;have hpn:(f i).toNat=p:=by omega
  refine Yg<|(F.y (F.iv 4 (Z6z (k:=i) rfl oM))) λF=>(F.m) λF=>?_
  rw[hp]at F;refine k8<|Yh<|lpB (F.b [1,2,7,8]) G (6) (λj Lv Sv W=>∃u v:Nat,Lv=[(3,.int .i64 ((u:Nat):Int)),(5,.int .i64 ((v:Nat):Int))]/\Sv=[]/\Nat.gcd u v=gcT f (i+1)/\v+j<=6/\u<=6) ⟨_,_,F.u,G.u,_,_,rfl,rfl,(by rw[gcT,hpn]),oM,(Zdw HF.out oM)⟩ ?_
  clear F G;rintro j _ w4 _ _ hi2 ⟨u,v,rfl,rfl,hgc,hvj,hu6⟩ F G;replace G:=G.z;refine wQ λk9=>wR λk10=>(F.m) λF=>(F.y F.gt) λF=>k10<|F.ci (λhc12=>?_) (λhc12=>?_)
  ·refine Yi<|k9<|Yh<|(wX 5 G) λG=>(F.sm) λF=>(F.sm) λF=>(F.sm) λF=>?_
   refine(F.s (Zkh rfl (F.at rfl) (F.at rfl) oM oM)) λF=>(F.sm) λF=>wpStill_nil<|(F.m) λF=>?_
   rw[show (((u:Nat):Int) % ((v:Nat):Int))=((u % v:Nat):Int) from rfl]at F;show _/\_;exact⟨oM,_,_,F.u,G.u,_,_,rfl,rfl,(by rw[<-hgc];exact Zdx oM),(by have:=Nat.mod_lt u (show 0<v by omega);omega),oM⟩
  ·refine wp_exit ?_;have hv0:v=0:=by omega
   rw[show u=gcT f (i+1) by rw[<-hgc,hv0,Nat.gcd_zero_right]]at F;refine k7<|Yg<|(F.y F.ad) λF=>(F.m) λF=>?_
   show _/\_;exact⟨oM,F.u,G.u⟩
 ·refine wp_exit ?_;have hi4:gcT f i=gcE f:=by rw[show i=4 by omega];rfl
  rw[hi4]at F;refine k3<|wQ λk11=>wR λk12=>(F.m) λF=>?_
  rw[show (0:Int)=((0:Nat):Int) from rfl]at F;have q1:=G.q 1;replace q1:w3.heap[n1]?=some (.cells (tubC (lowF f (gcE f) 0)) 88 (0,0)):=q1;replace G:=G.rQ 1 q1;clear q1;refine k12<|Yh<|lpB (F.b [1,2,3]) (G.b [0,2]) (4) (λi Lv Sv W=>Lv=[(18,.int .i64 ((i:Nat):Int))]/\Sv=[.q n1 ((tubC (lowF f (gcE f) i))) 88]) ⟨_,_,F.u,G.u,rfl,rfl⟩ ?_
  clear F G;rintro i _ w6 _ _ hi3 ⟨rfl,rfl⟩ F G;replace G:=G.z;refine wR λk13=>(F.y F.ls) λF=>k13<|wQ λk14=>F.ci (λhc19=>?_) (λhc19=>?_)
  ·refine Yi<|k14<|wQ λk15=>Yh<|wR λk16=>(F.m) λF=>(F.m) λF=>k16 ?_
   obtain⟨hf0,hf1⟩:=HF.out i oM;have hlf:lowF f (gcE f) i i=f i:=if_neg oM;refine Yg<|(F.m) λF=>(F.y (F.ia 4 1)) λF=>(F.y (F.lw (Z2v (G.q 0) (k:=i) rfl oM))) λF=>?_
   rw[hlf]at F;refine(F.m) λF=>?_;refine(F.y (Zhm rfl (F.at rfl) (F.at rfl) oM oM oM)) λF=>(F.y (F.ia 4 1)) λF=>(F.sw G 0 (Z2v (G.q 0) (k:=i) rfl oM) λ_ hw=>Z9Y hw (G.q 0) (k:=i) rfl oM) λG=>?_;have q1:=G.q 0;rw[Z3Z (g:=lowF f (gcE f) (i+1)) (λk hk=>by simp only[upF,lowF];by_cases e:k=i;(· rw[if_pos e,if_pos oM,e]);(by_cases e2:k<i;(· rw[if_neg e,if_pos e2,if_pos oM]);(· rw[if_neg e,if_neg e2,if_neg oM])))]at q1;replace G:=G.rQ 0 q1;clear q1;refine k15<|Yg<|(F.y F.ad) λF=>(F.m) λF=>?_
   show _/\_;exact⟨oM,_,_,F.u,G.u,rfl,rfl⟩
  ·refine wp_exit ?_;have q1:=G.q 0;rw[show i=4 by omega]at q1;replace G:=G.rQ 0 q1;clear q1;refine k11<|wR λk17=>(F.y (F.lb (G.q 0))) λF=>(F.sr G 1) λG=>k17 ?_
   refine(F.rg (rs_c F rfl rfl Qy.underlying88 rfl kR (G.q 1))) ?_;exact⟨rfl,(G.e 2)⟩
variable{μ:Nat}
section
variable{P:Program}{ρ:Operand->Value}{o:Oper}{w:World}
theorem Zbr{x y z:Operand}{t:TypeId}{b n m:Nat}(ho:o.op = .slice t x none (some y) (some z))(hx:ρ x = .pointer (some ⟨b,0,none⟩))(hy:ρ y = .int .i64 (n:Int))(hz:ρ z = .int .i64 (n:Int))(hu:P.underlying t=some (.array (P.arrayLen t) (P.elem t)))(hs:(P.info? (P.elem t)).map (·.size)=some 1)(hm:P.arrayLen t=m)(hn:n<=m):
  (execOp ρ o).run P w = .ok (.value (.slice (some ⟨b,0,none⟩) n n)) w:=by
 have h0:(sizeOf (P.elem t)).run P w = .ok 1 w:=by
  generalize P.elem t=e at hs;cases hq:P.info? e with
  | none=>simp[hq]at hs
  | some j =>
   have hj:j.size=1:=by simpa[hq] using hs
   simp[sizeOf,typeInfo,hq,hj]
 have hr:=run_sliceAt_array_hm (P:=P) w t ⟨b,0,none⟩ hu .i64 .i64 (n:Int) (n:Int) oM oM (by rw[hm];omega);rw[h0]at hr;simp only[Result.andThen_ok,slicedAt,Nat.zero_mul,Nat.sub_zero,Int.toNat_natCast]at hr;have ha:(if n=0 then(⟨b,0,none⟩:Addr) else Addr.add ⟨b,0,none⟩ 0)=⟨b,0,none⟩:=by split<;>rfl
 rw[ha]at hr;clear hu hs hm h0 ha;unfold execOp;simp only[ho,hx,hy,hz,Option.map_none,Option.map_some,Sem.run_bind,hr,Result.andThen_ok,Sem.run_pure]
end
def cutL(f:Nat->Int)(n:Nat):List Int:=(List.range n).map f
theorem Z93{w:World}{b n:Nat}{T:TypeId}{fz:Nat×Nat}(H:w.heap[b]?=some (.cells (tubC f) T fz))(hn:n<=4): SrcAt w 1 (some ⟨b,0,none⟩) n (ivs (cutL f n)):=by
 refine⟨by simp[ivs,cutL],(λh=>by cases h),λa0 ha j v hv=>?_,Z4K _⟩;cases ha;rw[ivs,cutL,Yn,Yn,Option.map_map,Y3]at hv;obtain⟨k,hk,rfl⟩:=hv;obtain⟨hj,rfl⟩:=List.getElem?_eq_some_iff.1 hk;simp only[List.length_range]at hj;have:=Z2v H (i:=(j:Int)) (k:=j) rfl oM;rw[Int.toNat_natCast,Nat.mul_one]at this;simp only[List.getElem_range,Function.comp];rw[Go.WideShapes.add_plain];exact this
theorem Zd2(x:Vm)(hv:VOk x)(f:Nat->Int)(w:World):Calls (Qy.prog μ) 108 #[.agg x.vc,.agg (tubC f)] w λe w'=>∃a c,e = .returned (.slice a x.D.length c)/\w'.ownsRow w.heap.size 3 1 (.slice a x.D.length c) x.D.length (ivs (cutL f x.D.length))/\Ext [] w w':=by
 have E:=Ext.refl [] w;have hd4:=hv.d4;have G:=(Bk.nil w).ce E;refine(ent 14 Tryz.f108 rfl) λF=>wR λk1=>(F.bx G) λyy F G=>(F.bx G) @λn3 w2 _ yy F G=>(F.m) λF=>k1<|wR λk2=>(F.y (F.fd 0)) λF=>(F.y (F.fd 1)) λF=>(F.y (F.lc (G.q 1))) λF=>(F.y F.ln) λF=>(F.m) λF=>k2<|wR λk3=>(F.m) λF=>(F.m) λF=>?_
 refine(F.y ((Zbr (n:=x.D.length) (m:=4) rfl (F.at rfl) (F.at rfl) (F.at rfl) kR kR kR hd4))) λF=>?_;have oo:w2.ownsRow w.heap.size 3 1 (.slice none 0 0) 0 []:=World.ownsRow_nil _ _ _ _;have hEs:=(G.e 2).size;replace G:=G.co oo;refine Zx F rfl dC (F.want rfl) (Z4Y rfl w.heap.size (e:=3) (size:=1) (bytes:=8) Qy.underlying22 kR dC (ev_c _ _) (G.o 0) (F.at rfl) (Z93 (G.q 1) hd4) oM oM oM) ?_;clear F;rintro _ v' w3 F ⟨hown',hg⟩;obtain⟨va13,vc13,rfl⟩:=Zm hown';replace G:=G.gr 0 hg hown';clear hg hown';have oo:=G.o 0;rw[List.nil_append,Nat.zero_add]at oo;rw[Nat.zero_add]at F;replace G:=G.rO 0 oo;clear oo;refine(F.m) λF=>k3<|(F.r1) ?_
 have oo:=G.o 0;exact⟨_,_,rfl,oo,(G.e 3)⟩
def tubR(f:Nat->Int):List Value:=[.int .i64 (f 0),.int .i64 (f 1),.int .i64 (f 2),.int .i64 (f 3)]
def Z3j(T:List (List Int)):List Value:=(T.map λt=>tubR (val t)).flatten
theorem Z5D(x:Vm)(hv:VOk x)(S:List (Value×List Int))(hs:∀p∈S,RcpOk x p.2)(h6:S.length<=6)(a:Option Addr)(c:Nat)(w:World)(h:ZL w a S):
  Calls (Qy.prog μ) 70 #[.agg x.vc,.slice a S.length c] w λe w'=>∃b d,e = .returned (.slice b S.length d)/\w'.ownsRow w.heap.size 88 4 (.slice b S.length d) S.length (Z3j (S.map (·.2)))/\Ext [] w w':=by
 have E:=Ext.refl [] w;have HA:=Lib.hid h;have HS:=Lib.hid h.1;have HV:=Lib.hid hv;have HO:=Lib.hid hs;clear h hv hs;have om:w.ownsRow w.heap.size 88 4 (.slice none 0 0) 0 (Z3j ((S.map (·.2)).take 0)):=World.ownsRow_nil _ _ _ _;have G:=(Bk.nil w).ce E;replace G:=G.co om;refine(ent 26 Tryz.f70 rfl) λF=>wR λk1=>(F.bx G) λyy F G=>(F.m) λF=>k1<|wQ λk2=>wR λk3=>(F.m) λF=>(F.y F.ln) λF=>(F.y F.gt) λF=>k3<|(F.JF)<|Yi<|k2<|wR λk4=>(F.m) λF=>k4<|wQ λk5=>wR λk6=>(F.m) λF=>(F.y F.ln) λF=>(F.m) λF=>k6<|Yh<|lpB (F.b [2,12,13]) (G.b [0,2]) S.length (λi Lv Sv W=>∃va:Option Addr,∃vc:Nat,Lv=[(5,.slice va i vc),(14,.int .i64 ((i:Nat):Int))]/\Sv=[]/\W.ownsRow w.heap.size 88 4 (.slice va i vc) i (Z3j ((S.map (·.2)).take i))) ⟨_,_,F.u,G.u,none,0,rfl,rfl,(G.o 1)⟩ ?_
 clear F G;rintro i _ w2 _ _ hi1 ⟨va,vc,rfl,rfl,om⟩ F G;replace G:=(G.z).co om;refine wR λk7=>(F.y F.ls) λF=>k7<|wQ λk8=>F.ci (λhc15=>?_) (λhc15=>?_)
 ·refine Yi<|k8<|wQ λk9=>Yh<|wQ λk10=>?_
  obtain⟨la,lca,hla,hlr⟩:=HA.out.2 _ (Z5 (.bool true,[]) (show i<S.length by omega));have hrc:=HO.out _ (Z5 (.bool true,[]) (show i<S.length by omega));refine Yg<|(F.ix HS.out i) λxr11 F=>(F.y (F.l1 (xr11 _ (G.e 2)) 0)) λF=>?_
  rw[hla]at F;refine(F.m) λF=>k10<|Yg<|(F.m) λF=>(F.y (F.lb (G.q 1))) λF=>(F.m) λF=>(F.k0 G (Z0B x HV.out (S.getD i (.bool true,[])).2 hrc la lca _ (hlr.ext (G.e 2) sU))) λF G=>(F.bs G 4 #[.int .i64 (val (S.getD i (.bool true,[])).2 0),.int .i64 (val (S.getD i (.bool true,[])).2 1),.int .i64 (val (S.getD i (.bool true,[])).2 2),.int .i64 (val (S.getD i (.bool true,[])).2 3)] Qy.zeroValue88) λyy F G=>?_
  have hEs:=(G.e 3).size;refine Zx F rfl dC (F.want rfl) (ZE rfl w.heap.size (e:=88) (size:=4) (bytes:=32) Qy.underlying93 kR dC (F.at rfl) (G.o 1) (F.at rfl) (G.q 0) rfl (by simp[Value.oneCell']) oM oM oM) ?_;clear F;rintro _ v' w5 F ⟨hown',hg⟩;obtain⟨va23,vc23,rfl⟩:=Zm hown';replace G:=(G.d 0).gr 0 hg hown';clear hg hown';have om:=G.o 0;rw[show Z3j ((S.map (·.2)).take i)++[.int .i64 (val (S.getD i (.bool true,[])).2 0),.int .i64 (val (S.getD i (.bool true,[])).2 1),.int .i64 (val (S.getD i (.bool true,[])).2 2),.int .i64 (val (S.getD i (.bool true,[])).2 3)]=Z3j ((S.map (·.2)).take (i+1)) by rw[Z2t (S.map (·.2)) [] (show i<(S.map (·.2)).length by rw[Yj];omega),Z3j,Z3j,List.map_append,List.flatten_append,Z0k S oM];simp[tubR]]at om;replace G:=G.rO 0 om;clear om;refine(F.m) λF=>k9<|Yg<|(F.y F.ad) λF=>(F.m) λF=>?_
  show _/\_;exact⟨oM,_,_,F.u,G.u,_,_,rfl,rfl,(G.o 0)⟩
 ·refine wp_exit ?_;have om:=G.o 0;rw[List.take_of_length_le (show (S.map (·.2)).length<=i by rw[Yj];omega),show i=S.length by omega]at om;rw[show i=S.length by omega]at F;replace G:=G.rO 0 om;clear om;refine k5<|wR λk12=>(F.m) λF=>(F.m) λF=>k12<|(F.r1) ?_
  have om:=G.o 0;exact⟨_,_,rfl,om,(G.e 2)⟩
variable{μ:Nat}
section
variable{P:Program}{r n:Nat}
def Z5j(o:Oper):Bool:=match o.op with | .defer _=>false | _=>true
theorem Zgb{o:Oper}(h:Z5j o=true): ∀c,o.op ≠ .defer c:=λc e=>by rw[Z5j,e]at h;cases h
theorem Zgt{row:String}{args:Array Value}{w:World}{R:Value->World->Prop}(h:Rows P row args w R): RowsIn (Fence.wide.inRound r) n P row args w R:=by
 intro c cs _;obtain⟨v,w',h1,h2⟩:=h c cs;exact⟨v,w',h1,stepsIn_wide.2 h2⟩
theorem ZcP{f:FuncId}{args:Array Value}{w:World}{R:Ending->World->Prop}(h:Calls P f args w R): CallsIn (Fence.wide.inRound r) n P f args w R:=CallsIn.inRound r (callsIn_wide.2 h)
theorem Zgj{o:Oper}{a:Act}{w:World}{K:Act->World->Prop}{Q:Exit->Act->World->Prop}(hd:Z5j o=true)(h:o.wp P a w K Q): o.wpIn (Fence.wide.inRound r) n P a w K Q:=by
 refine⟨λ_ _=>trivial,?_⟩;rw[Fence.inRound_round,Oper.semAt_some r _ _ (Zgb hd)];unfold Oper.wp at h;generalize (execOp a.eval o).run P w=x at h;have h0:((Fence.wide.inRound r).depth.isSome=true->1<=n):=λh=>by cases h
 cases x with
 | ok x w' =>
  cases x<;>simp only[Oper.upon,Oper.uponIn]at h ⊢ <;> first
   | exact h
   | exact⟨h0,CallsIn.mono (ZcP h) λe w'' he=>by cases e<;>exact he⟩
   | exact⟨h0,RowsIn.mono (Zgt h) λ_ _ he=>he⟩
   | exact h.elim
 | halt x w'=>cases x<;>simp only[Oper.upon,Oper.uponIn]at h ⊢ <;> exact h
theorem Z3G{o:Oper}{a:Act}{w:World}{K K':Act->World->Prop}{Q:Exit->Act->World->Prop}(hd:Z5j o=true)(hK:∀a w,K a w->K' a w)(h:o.wp P a w K Q): o.wpIn (Fence.wide.inRound r) n P a w K' Q:=Oper.wpIn_mono hK (Zgj hd h)
theorem Z7m{ops:Array Oper}{Q:Exit->Act->World->Prop}(hQ:¬LetsOut Q):∀(l:List Oper) (a:Act) (w:World),l.all Z5j=true->wpList P ops Q l a w->wpListIn (Fence.wide.inRound r) n P ops Q l a w
 | [],_,_,_,h=>h
 | o::l,a,w,hd,h=>by
  simp only[List.all_cons,Y5]at hd;unfold wpListIn;unfold wpList at h;by_cases hw:Region.wanted o (yielded ops a.tmps)=true
  ·simp only[hw,if_true]at h⊢;exact Z3G hd.1 (λa w=>Z7m hQ l a w hd.2) (h.resolve_right λh=>hQ h.2)
  ·simp only[hw]at h⊢;exact⟨λ_ _=>trivial,Z7m hQ l _ w hd.2 h⟩
theorem Z5R{l:List Oper}{id:Nat}{Q:Exit->Act->World->Prop}{a:Act}{w:World}(hd:l.all Z5j=true)(hQ:¬LetsOut Q)(h:wpList P l.toArray Q l a w): (Code.region id l.toArray false).wpIn (Fence.wide.inRound r) n P Q a w:=
 wpIn_region_lit (Z7m hQ l a w hd h)
theorem Z6G{ops:Array Oper}{md:Region.Mode}{Q:Exit->Act->World->Prop}(hQ:¬LetsOut Q)(hd:ops.toList.all Z5j=true):∀(fuel:Nat) (listed:Array Bool) (a:Act) (w:World),wpAny P md ops Q fuel listed a w->wpAnyIn (Fence.wide.inRound r) n P md ops Q fuel listed a w
 | 0,_,_,_,h=>h
 | fuel+1,listed,a,w,h=>by
  refine⟨h.1,λi hi=>?_⟩;have h2:=h.2 i hi;unfold wpOp at h2;unfold wpOpIn;cases ho:ops[i]? with
  | none=>simp only[ho]at h2⊢;exact Z6G hQ hd fuel _ a w h2
  | some o =>
   have hdo:Z5j o=true:=Yl.1 hd o (by
    obtain⟨h3,h4⟩:=Y0.1 ho;rw[<-h4];simp)
   simp only[ho]at h2⊢;by_cases hw:Region.wanted o (yielded ops a.tmps)=true
   ·simp only[hw,if_true]at h2⊢;exact Z3G hdo (λa w=>Z6G hQ hd fuel _ a w) (h2.resolve_right λh=>hQ h.2)
   ·simp only[hw]at h2⊢;exact⟨λ_ _=>trivial,Z6G hQ hd fuel _ _ w h2⟩
theorem Zep{Q:Exit->Act->World->Prop}{a:Act}{l:List Oper}{id:Nat}{w:World}(T:World->Prop)(stop:Option Nat)(hm:P.follows .mixedOrders=true)(hd:l.all Z5j=true)(hQ:¬LetsOut Q)(h:∀W:World,W.heap=w.heap->Ext [] w W->Zp P .any l.toArray Q T stop l.toArray.size (Array.replicate l.toArray.size false) a W): (Code.region id l.toArray true).wpIn (Fence.wide.inRound r) n P Q a w:=
 wpIn_region_any hm (Z6G hQ (by simpa using hd) _ _ _ _ (Z6F _ _ _ _ (h _ rfl ⟨rfl,rfl,rfl,Ye _,λ_ _ _=>rfl⟩)))
end
section
variable{P:Program}{G:Fence}{n:Nat}{Q:Exit->Act->World->Prop}{N:Nat}{D:List Deferred}{a:Act}{L:List (Nat×Value)}{w:World}
theorem Zht(F:Has N D a L){k:Nat}{x y:Code}{b:Bool}(hc:L.lookup k=some (.bool b))(hb:b=true)(h:x.wpIn G n P Q a w): (Code.cond (.tmp k) x y).wpIn G n P Q a w:=wpIn_cond_true (by rw[F.at hc,hb]) h
theorem Zkt(F:Has N D a L){k:Nat}{x y:Code}{p:Prop}[Decidable p](hc:L.lookup k=some (.bool (decide p)))(ht:p->x.wpIn G n P Q a w)(hf:¬p->y.wpIn G n P Q a w): (Code.cond (.tmp k) x y).wpIn G n P Q a w:=by
 by_cases h:p
 ·exact wpIn_cond_true (by rw[F.at hc,decide_eq_true h]) (ht h)
 ·exact wpIn_cond_false (by rw[F.at hc,decide_eq_false h]) (hf h)
theorem Zmg(F:Has N D a L){k:Nat}{x y:Code}{b:Bool}(hc:L.lookup k=some (.bool b))(ht:b=true->x.wpIn G n P Q a w)(hf:b=false->y.wpIn G n P Q a w): (Code.cond (.tmp k) x y).wpIn G n P Q a w:=by
 cases b
 ·exact wpIn_cond_false (F.at hc) (hf rfl)
 ·exact wpIn_cond_true (F.at hc) (ht rfl)
theorem ZiY(M:Nat)(I:Nat->Act->World->Prop)(h0:I 0 a w)(round:∀i a w,i<=M->I i a w->c.wpIn G n P (Exit.then (λa' w'=>i<M/\I (i+1) a' w') Q) a w): (Code.loop c).wpIn G n P Q a w:=by
 intro b k cs hro hb hr;have key:∀m i a w,m=M-i->i<=M->I i a w->∃e a' w',Q e a' w'/\ArrivesIn (Machine.fenced P G) P (lone (b.atR a (.code c :: .inLoop c::k)) cs w) b k cs e a' w':=by
  intro m
  induction m with
  | zero =>
   intro i a w hn hi hI;obtain⟨e,a₁,w₁,hq,harr⟩:=round i a w hi hI b (.inLoop c::k) cs hro hb hr;cases e with
   | normal=>exact absurd hq.1 oM
   | _=>exact⟨_,a₁,w₁,hq,.pass (x:=.inLoop c) rfl (λ_ _=>.inl sU) harr⟩
  | succ m ih =>
   intro i a w hn hi hI;obtain⟨e,a₁,w₁,hq,harr⟩:=round i a w hi hI b (.inLoop c::k) cs hro hb hr;cases e with
   | normal =>
    obtain⟨hlt,hI₁⟩:=hq;obtain⟨e₂,a₂,w₂,hq₂,harr₂⟩:=ih (i+1) a₁ w₁ oM hlt hI₁;exact⟨e₂,a₂,w₂,hq₂,.of_steps (StepsIn.trans harr (.one (fenced_calm hb hr rfl) stepR_inLoop)) harr₂⟩
   | _=>exact⟨_,a₁,w₁,hq,.pass (x:=.inLoop c) rfl (λ_ _=>.inl sU) harr⟩
 obtain⟨e,a',w',hq,harr⟩:=key _ 0 a w rfl (Nat.zero_le _) h0;exact⟨e,a',w',hq,.of_steps (.one (fenced_calm hb hr rfl) stepR_loop) harr⟩
theorem ZiX{L0:List (Nat×Value)}(F:Has N D a L0)(M:Nat)(J:Nat->List (Nat×Value)->World->Prop)(h0:∃Lv,J 0 Lv w/\Has N D a (Lv++L0))(round:∀i Lv a w,i<=M->J i Lv w->Has N D a (Lv++L0)->c.wpIn G n P (Exit.then (λa' w'=>i<M/\∃Lv',J (i+1) Lv' w'/\Has N D a' (Lv'++L0)) Q) a w): (Code.loop c).wpIn G n P Q a w:=
 ZiY M (λi a w=>∃Lv,J i Lv w/\Has N D a (Lv++L0)) h0 λi a w hi ⟨Lv,hJ,hF⟩=>round i Lv a w hi hJ hF
end
variable{μ:Nat}
section
variable{P:Program}{fn:Func}{R:Ending->World->Prop}{N:Nat}{D:List Deferred}{a:Act}{L:List (Nat×Value)}{w:World}
theorem Zbw{f:FuncId}(N:Nat)(hf:P.funcs[f]?=some fn)(hb:fn.body=some c)(hN:fn.ntmps=N)(hle:args.length<=N)(h:∀a,Has N [] a (argL 0 args)->c.wp P (bodyPostM Fence.wide 9 P fn R) a w): Calls P f args.toArray w R:=by
 refine(callsIn_wide (n:=9)).1 (callsIn_of_wp_marks hf hb trivial (wpIn_wide.2 (h _ ⟨rfl,by simp;omega,λk v e=>?_⟩)));obtain⟨j,h1,h2⟩:=Z6H _ _ _ _ e;obtain rfl:k=j:=by omega
 have hj:=(List.getElem?_eq_some_iff.1 h2).1;simp only[Y6];rw[Array.getElem?_append_left (by simpa using hj)];simp[h2]
theorem entM{f:FuncId}(N:Nat)(fn:Func)(hb:fn.body=some c)(hf:P.funcs[f]?=some fn:=by kernel_rfl)(hN:fn.ntmps=N:=by rfl)(hle:args.length<=N:=by exact Nat.le_of_ble_eq_true rfl)(h:∀{a},Has N [] a (argL 0 args)->c.wp P (bodyPostM Fence.wide 9 P fn R) a w): Calls P f args.toArray w R:=Zbw N hf hb hN hle λ_ F=>h F
theorem Z4c(F:Has N D a L)(h:LeavesInM Fence.wide 9 P fn a.tmps R D .returning w):bodyPostM Fence.wide 9 P fn R .ret a w:=by
 show LeavesInM _ _ _ _ _ _ a.defers _ _;rw[F.ds];exact h
theorem Z00{tmps:Array Value}{v:Value}(hr:(results fn tmps).run P w = .ok v w)(h:R (.returned v) w): LeavesInM Fence.wide 9 P fn tmps R [] .returning w:=⟨v,hr,h⟩
theorem Z9L{tmps:Array Value}{b:Nat}{args:Array Value}{ds:List Deferred}(hk:w.heap[b]?=some (.deferred (some [])))(h:∀w2,w2=w.putObj b (.deferred none)->LeavesInM Fence.wide 9 P fn tmps R ds .returning w2): LeavesInM Fence.wide 9 P fn tmps R ({target:=.collected b,args:=args}::ds) .returning w:=
 ⟨sU,.inl ⟨b,_,rfl,run_takeDeferred hk,h _ rfl⟩⟩
end
theorem ZfI(xT:TypeId)(w:World):(Instr.typeAssert Value.nilIface xT 135 true).run (Qy.prog μ) w = .ok (.tuple #[.int .i64 0,.bool false]) w:=by
 simp[Instr.typeAssert,run_underlying Qy.underlying135,Qy.zeroValue135,go_sem,Result.andThen]
theorem Z9o(n:Nat)(p:Addr)(w:World):
  CallsDIn Fence.wide n (Qy.prog μ) 63 #[.pointer (some p)] .returning w λe u' w'=>e = .returned (.tuple #[])/\u' = .returning/\w'=w:=by
 refine callsDIn_of_wpSIn Qy.func63 rfl trivial λc₀ cs hu=>?_;apply wpSIn_seq;apply wpSIn_region;simp[wpOpsSIn,Fence.wide,go_sem,recoverD,hu,Tryz.ntmps63,Exit.thenS,ZfI,Result.andThen];apply wpSIn_seq;apply wpSIn_region;simp[wpOpsSIn,Fence.wide,go_sem,Exit.thenS,Array.replicate];refine wpSIn_cond (t:=false) (by simp[Act.eval]) ?_;simp only[Bool.false_eq_true,if_false];refine wpSIn_of_wpIn rfl (wpIn_skip ?_);cases c₀;simp_all [bodyPostS,results,Tryz.results63]
theorem ZQ{fn:Func}{R:Ending->World->Prop}{tmps:Array Value}{w:World}{b:Nat}{ds:List Deferred}(h:LeavesInM Fence.wide 9 (Qy.prog μ) fn tmps R ds .returning w): LeavesInM Fence.wide 9 (Qy.prog μ) fn tmps R ({target:=.fn (.func 63) #[],args:=#[.pointer (some ⟨b,0,none⟩)]}::ds) .returning w:=by
 refine⟨sU,.inr ⟨(λh=>by cases h),_,_,63,#[.pointer (some ⟨b,0,none⟩)],rfl,(by simp[go_sem,Qy.call63]),(λ_ _=>trivial),?_⟩⟩;refine CallsDIn.mono (Z9o 8 ⟨b,0,none⟩ w) ?_;rintro e u' w' ⟨rfl,rfl,rfl⟩;exact h
section
variable{P:Program}{ops:Array Oper}{Q:Exit->Act->World->Prop}{o:Oper}{rest:List Oper}{N:Nat}{D:List Deferred}{a:Act}{L:List (Nat×Value)}{w w':World}{v:Value}
theorem ZgB(F:Has N D a L){d:Deferred}(hd:o.dst=none)(hw:Region.wanted o (yielded ops a.tmps)=true)(hr:(execOp a.eval o).run P w = .ok (.defer d) w)(h:∀a2,Has N (d::D) a2 L->wpList P ops Q rest a2 w): wpList P ops Q (o::rest) a w:=by
 unfold wpList;simp only[hw,if_true,Oper.wp,hr,Oper.upon,hd,Act.put];exact .inl (h _ ⟨by simp[F.ds],F.sz,F.get⟩)
theorem Zi6{ρ:Operand->Value}{f:FuncId}{l:List Operand}{ts:Array TypeId}{vs:List Value}(ho:o.op = .defer {callee:=.value (.func f),args:=l.toArray,argTypes:=ts})(hf:ρ (.func f) = .func (.func f) #[] #[])(ha:l.map ρ=vs): (execOp ρ o).run P w = .ok (.defer {target:=.fn (.func f) #[],args:=vs.toArray}) w:=by
 have ha:=Z9M ha;rw[<-ha];unfold execOp;simp[ho,resolve,hf,go_sem]
theorem Has.df{f:FuncId}{l:List Operand}{ts:Array TypeId}{vs:List Value}(F:Has N D a L)(ho:o.op = .defer {callee:=.value (.func f),args:=l.toArray,argTypes:=ts}:=by rfl)(ha:opvs L l=some vs:=by rfl)(hd:o.dst=none:=by rfl)(hw:ZV L ops o=some true:=by rfl)(h:∀{a2},Has N ({target:=.fn (.func f) #[],args:=vs.toArray}::D) a2 L->wpList P ops Q rest a2 w): wpList P ops Q (o::rest) a w:=ZgB F hd (F.want hw) (Zi6 ho rfl (F.ops ha)) λ_ F=>h F
end
theorem Has.mark{N:Nat}{D:List Deferred}{a:Act}{L:List (Nat×Value)}(F:Has N D a L){d:Deferred}: Has N (d::D) {a with defers:=d::a.defers} L:=⟨by simp[F.ds],F.sz,F.get⟩
theorem ZdJ{w w2:World}{D k:Nat}{o o':Obj}(e:w2=w.putObj D o')(hD:w.heap[D]?=some o)(hc:o.isCells=false){cs:Array Value}{T:TypeId}{fz:Nat×Nat}(h:w.heap[k]?=some (.cells cs T fz)): w2.heap[k]?=some (.cells cs T fz):=by
 have:k≠D:=λe=>by subst e;rw[hD]at h;cases h;cases hc
 rw[e,World.putObj_heap_other this];exact h
theorem ZfG{X:List Nat}{w w2: World}{D:Nat}{o':Obj}(h:Ext X w W)(e:w2=W.putObj D o')(hD:w.heap.size<=D): Ext X w w2:=by
 rw[e];exact⟨h.os,h.tape,h.output,by simpa[World.putObj] using h.size,λk hk hx=>(World.putObj_heap_other oM).trans (h.block k hk hx)⟩
theorem Zgm{w w2:World}{base:Nat}{e:TypeId}{size n:Nat}{v:Value}{xs:List Value}{D:Nat}{o o':Obj}(hw:w2=w.putObj D o')(hD:w.heap[D]?=some o)(hc:o.isCells=false)(h:w.ownsRow base e size v n xs): w2.ownsRow base e size v n xs:=by
 rw[hw];refine h.kept (grownBy_putObj' w D o') ?_;rcases h.2 with⟨rfl,_⟩ | ⟨g,cap,cur,rfl,_,hgb,_⟩
 ·exact .inl rfl
 ·refine .inr λe=>?_;obtain rfl:g=D:=by simpa[Value.ownBlock] using e
  rw[hD]at hgb;cases hgb;cases hc
section
variable{P:Program}{fn:Func}{N:Nat}{D:List Deferred}{a:Act}{L:List (Nat×Value)}{w:World}
theorem Z3D{P:Program}{t:TypeId}{b off:Nat}{v:Value}{d:TypeDesc}{w:World}(hd:P.underlying t=some d)(ha:d.isRow=false)(hc:w.cell? ⟨b,off,none⟩=some v): (loadVar t ⟨b,off,none⟩).run P w = .ok v w:=by
 cases d<;>first | (simp[TypeDesc.isRow]at ha;done) | simp[loadVar,isAgg,underlying,hd,load,hc,Sem.run,go_sem]
theorem Z3e(F:Has N D a L){t s ty b:Nat}{u v:Value}{T:TypeId}{d:TypeDesc}{fz:Nat×Nat}(hr:fn.results=#[.tmp t,.cell s ty])(hv:L.lookup t=some v)(hs:L.lookup s=some (.pointer (some ⟨b,0,none⟩)))(hd:P.underlying ty=some d)(ha:d.isRow=false)(H:w.heap[b]?=some (.cells #[u] T fz)): (results fn a.tmps).run P w = .ok (.tuple #[v,u]) w:=by
 have hl:=Z3D (P:=P) (t:=ty) hd ha ((Z3 H 0).trans get0);have h1:=F.get _ _ hv;have h2:=F.get _ _ hs;simp only[Y6]at h1 h2;simp[results,hr,h1,h2,asAddr,hl,Result.andThen]
theorem Z6j(F:Has N D a L){t r s ty b:Nat}{u v x:Value}{T:TypeId}{d:TypeDesc}{fz:Nat×Nat}(hr:fn.results=#[.tmp t,.tmp r,.cell s ty])(hv:L.lookup t=some v)(hx:L.lookup r=some x)(hs:L.lookup s=some (.pointer (some ⟨b,0,none⟩)))(hd:P.underlying ty=some d)(ha:d.isRow=false)(H:w.heap[b]?=some (.cells #[u] T fz)): (results fn a.tmps).run P w = .ok (.tuple #[v,x,u]) w:=by
 have hl:=Z3D (P:=P) (t:=ty) hd ha ((Z3 H 0).trans get0);have h1:=F.get _ _ hv;have h2:=F.get _ _ hs;have h3:=F.get _ _ hx;simp only[Y6]at h1 h2 h3;simp[results,hr,h1,h2,h3,asAddr,hl,Result.andThen]
end
variable{μ:Nat}
def Z12(ob:Nat)(W:World):Option Nat:=match W.heap[ob]? with
 | some (.cells cs _ _)=>(cs[0]?).bind Value.ownBlock
 | _=>none
def Safe(X:List Nat)(ob k:Nat)(W:World):Prop:=k ∉ X/\k≠ob/\Z12 ob W≠some k
structure KeepR(X:List Nat)(ob:Nat)(A B:World):Prop where
 size:A.heap.size<=B.heap.size
 cells:∀(k:Nat) (cs:Array Value) (T:TypeId) (fz:Nat×Nat),A.heap[k]?=some (.cells cs T fz)->Safe X ob k A->B.heap[k]?=some (.cells cs T fz)
 row:Z12 ob B=Z12 ob A\/∀r,Z12 ob B=some r->A.heap.size<=r
section
variable{X:List Nat}{ob k:Nat}{A B C:World}
theorem Safe.keep(h:Safe X ob k A)(hk:k<A.heap.size)(K:KeepR X ob A B):Safe X ob k B:=by
 refine⟨h.1,h.2.1,λe=>?_⟩;rcases K.row with h1 | h1
 ·exact h.2.2 (by rw[<-h1];exact e)
 ·have:=h1 _ e;omega
theorem Safe.same(h:Safe X ob k A)(e:B.heap[ob]?=A.heap[ob]?):Safe X ob k B:=⟨h.1,h.2.1,by rw[Z12,e];exact h.2.2⟩
theorem KeepR.trans(h:KeepR X ob A B)(k:KeepR X ob B C):KeepR X ob A C:=by
 refine⟨Yd h.size k.size,λi cs T fz hi hs=>k.cells i cs T fz (h.cells i cs T fz hi hs) (hs.keep (Z8 hi) h),?_⟩;rcases k.row with h1 | h1
 ·rw[h1];exact h.row
 ·exact .inr λr e=>Yd h.size (h1 r e)
theorem KeepR.put{l:Nat}{o o':Obj}(hl:A.heap[l]?=some o)(ho:o.isCells=false)(hne:ob≠l):KeepR X ob A (A.putObj l o'):=by
 have h0:(A.putObj l o').heap[ob]?=A.heap[ob]?:=World.putObj_heap_other hne;refine⟨by simp[World.putObj],λi cs T fz hi _=>?_,.inl (by rw[Z12,h0];rfl)⟩;have:i≠l:=λe=>by subst e;rw[hl]at hi;cases hi;cases ho
 rw[World.putObj_heap_other this];exact hi
end
def SeqR{α:Type}(P:Program)(gf:Nat)(lb:Array Value)(encs:α->Array Value)(X:List Nat)(ob:Nat)(xs:List α)(w:World):Prop:=
 ∀(l:Nat) (J:List α->World->Prop) (W:World),w.heap.size<=W.heap.size->(∀k,k<w.heap.size->W.heap[k]?=w.heap[k]?) ->
  (∀s U V,J s U->U.grownBy V none->J s V) ->
  (∀s U V r,J s U->Safe X ob r U->W.heap.size<=r->(∃o:Obj,U.heap[r]?=some o/\o.isCells=true)->U.grownBy V (some r)->J s V) ->
  (∀pre x V,J pre V->pre++[x] <+: xs->YieldAt Fence.wide 0 P l (encs x) V λe V'=>e = .returned (.bool true)/\J (pre++[x]) V'/\KeepR X ob V V') ->
  J [] W->Calls P gf (#[.func (.yield l) #[] #[]]++lb) W λe W'=>(∃v,e = .returned v)/\J xs W'
def ZmP{α:Type}(B:Nat)(X:List Nat)(ob:Nat)(I:List α->World->Prop)(xs:List α)(W:World):Exit->Act->World->Prop
 | .normal,_,W'=>KeepsFrom B W W'/\KeepR X ob W W'/\I xs W'
 | _,_,_=>False
theorem Zcj{l:Nat}{f:FuncId}{tmps:Array Value}{assign body:Code}{w:World}{R:Ending->World->Prop}{P:Program}{m m':Nat}(h:RoundIn Fence.wide m P l f tmps assign body w R): RoundIn Fence.wide m' P l f tmps assign body w R:=⟨h.1,λc cs _=>h.2 c cs (λd h=>by cases h)⟩
theorem Zem{P:Program}{g:Operand}{ps:Array Tmp}{assign body:Code}{Q:Exit->Act->World->Prop}{a:Act}{w:World}{gf:Nat}{lb:Array Value}(hg:a.eval g = .func (.func gf) #[] lb)(eg:∀args w,(callFunc gf args).run P w = .ok (.enter gf args) w){encs:α->Array Value}{X:List Nat}{ob:Nat}{xs:List α}(hseq:SeqR P gf lb encs X ob xs w)(hps:∀x,(encs x).size=ps.size)(hob:ob<w.heap.size)(I:List α->World->Prop)(hI1:∀s U V,I s U->U.grownBy V none->I s V)(hIo:∀s U V r,I s U->w.heap.size<=r->(∃o:Obj,U.heap[r]?=some o/\o.isCells=false)->U.grownBy V (some r)->I s V)(hIc:∀s U V r,I s U->w.heap.size<=r->Safe X ob r U->(∃o:Obj,U.heap[r]?=some o/\o.isCells=true)->U.grownBy V (some r)->I s V)(h0:I [] w)(Ax:List α->α->Act->World->Prop)(hAx:∀pre x a' U V r,Ax pre x a' U->w.heap.size<=r->(∃o:Obj,U.heap[r]?=some o/\o.isCells=false)->U.grownBy V (some r)->Ax pre x a' V) (hassign:∀(l:Nat) (pre:List α) (x:α) (W:World) (K:Act->World->Prop),I pre W->(∀a' W',KeepsFrom w.heap.size W W'->KeepR X ob W W'->Ax pre x a' W'->K a' W') ->
   assign.wpIn (Fence.wide.inRound l) 0 P (Exit.then K (λ_ _ _=>False)) {tmps:=(ps.zip (encs x)).foldl (λt (p,v)=>t.setIfInBounds p v) a.tmps,defers:=[]} W) (hbody:∀(l:Nat) (pre:List α) (x:α) (a':Act) (W:World),Ax pre x a' W->pre++[x] <+: xs->body.wpIn (Fence.wide.inRound l) 0 P (ZmP w.heap.size X ob I (pre++[x]) W) a' W) (hdone:∀(D:Nat) (W:World),w.heap.size<=D->I xs W->W.heap[D]?=some (.deferred (some []))->Q .normal {a with defers:={target:=.collected D,args:=#[]}::a.defers} W):
  (Code.rangeFunc g ps assign body).wp P Q a w:=by
 refine(wpIn_wide (n:=1)).1 (wpIn_rangeFunc λfn hfn=>?_);obtain⟨rec,hrec⟩:∃rec:LoopState->Option Code->Loop,rec=λst pe=>{state:=st,pending:=pe,fn,tmps:=a.tmps,params:=ps,assign,body,defers:=w.heap.size}:=⟨_,rfl⟩;have hput:∀{s:List α} {U:World} {l:Nat} {o:Obj} (o':Obj),I s U->w.heap.size<=l->U.heap[l]?=some o->o.isCells=false->I s (U.putObj l o'):=
  λo' hi hl hu ho=>hIo _ _ _ _ hi hl ⟨_,hu,ho⟩ (grownBy_putObj' _ _ _)
 have hn:∀{l:Nat},w.heap.size<=l->ob≠l:=λh e=>by omega
 have sD:∀(o:Obj),(w.alloc o).heap.size=w.heap.size+1:=λo=>by simp
 obtain⟨W1,hW1⟩:∃W1,W1=(w.alloc (.deferred (some []))).alloc (.loop (rec .ready none)):=⟨_,rfl⟩;have hs1:W1.heap.size=w.heap.size+1+1:=by rw[hW1];simp
 have hL1:W1.heap[w.heap.size+1]?=some (.loop (rec .ready none)):=by rw[hW1];exact Z6M sU
 have hD1:W1.heap[w.heap.size]?=some (.deferred (some [])):=by rw[hW1];exact(Below.heap_alloc _ _ _ sU).trans (World.alloc_heap_new w _)
 have hb1:∀k,k<w.heap.size->W1.heap[k]?=w.heap[k]?:=λk hk=>by
  rw[hW1];exact(Below.heap_alloc _ _ _ (by simp;omega)).trans (Below.heap_alloc _ _ _ hk)
 have hI0:I [] W1:=by rw[hW1];exact hI1 _ _ _ (hI1 _ _ _ h0 (World.grownBy_alloc _ _ _)) (World.grownBy_alloc _ _ _)
 refine⟨w.heap.size+1,[{target:=.collected w.heap.size,args:=#[]}],W1,{target:=.fn (.func gf) lb,args:=#[.func (.yield (w.heap.size+1)) #[] #[]]},W1,gf,
  #[.func (.yield (w.heap.size+1)) #[] #[]]++lb,W1,?_,?_,λ_ _=>trivial,?_,(λh=>by cases h),?_⟩
 ·rw[hW1,hrec];exact run_enterLoop_outer _ _ _ _ _
 ·simp only[resolve,hg];simp[go_sem]
 ·simp[invoke,go_sem,eg]
 ·refine(callsIn_wide.2 (hseq (w.heap.size+1) (λpre W=>I pre W/\W.heap[w.heap.size+1]?=some (.loop (rec .ready none))/\W.heap[w.heap.size]?=some (.deferred (some [])))
   W1 oM hb1 (λs U V h hg'=>⟨hI1 _ _ _ h.1 hg',(hg'.block _ (Z8 h.2.1) sU).trans h.2.1,(hg'.block _ (Z8 h.2.2) sU).trans h.2.2⟩)
   (λs U V r h hsf hr hc hg'=>⟨hIc _ _ _ _ h.1 oM hsf hc hg',(hg'.block _ (Z8 h.2.1) (λe=>by cases e;omega)).trans h.2.1,(hg'.block _ (Z8 h.2.2) (λe=>by cases e;omega)).trans h.2.2⟩)
   ?_ ⟨hI0,hL1,hD1⟩)).mono ?_
  ·rintro pre x W ⟨hi,hl,hk⟩ hpx;have hy:=run_yield (P:=P) (args:=encs x) hl (by rw[hrec];exact hps x);rw[hrec]at hy;refine⟨fn,_,assign,body,hy,roundIn_of_wpIn hfn (hassign _ pre x W _ hi ?_)⟩;clear hy;intro a' Wa hkf hkr hax;have hla:=hkf.same _ _ oM hl rfl;have hka:=hkf.same _ _ (Ye _) hk rfl;refine⟨_,run_beginRound hla (by rw[hrec]),?_⟩;obtain⟨Wb,hWb⟩:∃Wb,Wb=Wa.putObj (w.heap.size+1) (.loop {rec .ready none with state:=.busy}):=⟨_,rfl⟩;have hlb:Wb.heap[w.heap.size+1]?=some (.loop {rec .ready none with state:=.busy}):=by rw[hWb];exact World.putObj_heap_same (Z8 hla)
   have hkb:Wb.heap[w.heap.size]?=some (.deferred (some [])):=by rw[hWb];exact(World.putObj_heap_other oM).trans hka
   have hrb:KeepR X ob Wa Wb:=by rw[hWb];exact KeepR.put hla rfl (hn oM)
   have haxb:Ax pre x a' Wb:=by rw[hWb];exact hAx _ _ _ _ _ _ hax oM ⟨_,hla,rfl⟩ (grownBy_putObj' _ _ _)
   rw[<-hWb];refine wpIn_mono (hbody _ pre x a' Wb haxb hpx) ?_;rintro e a3 W3 hp;cases e with
   | normal =>
    obtain⟨hk3,hr3,hi3⟩:=hp;have hl3:=hk3.same _ _ oM hlb rfl;have he:=run_endRound (P:=P) none hl3;rw[hrec]at he hl3;refine⟨_,_,he,rfl,⟨hput _ hi3 oM hl3 rfl,?_,?_⟩,hkr.trans (hrb.trans (hr3.trans (KeepR.put hl3 rfl (hn oM))))⟩
    ·rw[hrec];exact World.putObj_heap_same (Z8 hl3)
    ·exact(World.putObj_heap_other oM).trans (hk3.same _ _ (Ye _) hkb rfl)
   | _=>exact hp.elim
  ·rintro e W2 ⟨⟨v,rfl⟩,hi,hl,hk⟩;refine⟨none,_,by have:=run_endLoop (P:=P) hl (by rw[hrec];simp);rw[hrec]at this;exact this,hdone _ _ (Ye _) (hput _ hi oM hl rfl) ((World.putObj_heap_other oM).trans hk)⟩
variable{μ:Nat}
section
variable{P:Program}{ops:Array Oper}{Q:Exit->Act->World->Prop}{o:Oper}{rest:List Oper}{N:Nat}{D:List Deferred}{a:Act}{L:List (Nat×Value)}{w w':World}{v:Value}{n:Nat}
theorem Z61{fn:Func}{R:Ending->World->Prop}{f:FuncId}{w:World}(N:Nat)(hf:P.funcs[f]?=some fn)(hb:fn.body=some c)(hN:fn.ntmps=N)(hle:args.length<=N)(h:∀a,Has N [] a (argL 0 args)->c.wpIn Fence.wide 9 P (bodyPost P fn R) a w): Calls P f args.toArray w R:=
 Z1t N hf hb hN hle λa F=>wpIn_wide.1 (h a F)
theorem Zlw(F:Has N D a L)(hd:o.dst=some d)(hN:d<N)(hw:Region.wanted o (yielded ops a.tmps)=true)(hr:(execOp a.eval o).run P w = .ok (.value v) w')(h:∀a2 w2,Has N D a2 ((d,v)::L)->w2=w'->wpListIn Fence.wide n P ops Q rest a2 w2): wpListIn Fence.wide n P ops Q (o::rest) a w:=by
 unfold wpListIn;simp only[hw,if_true];refine⟨λ_ _=>trivial,?_⟩;rw[show Fence.wide.round=none from rfl,Oper.semAt_none,hr,Oper.uponIn_value,hd];exact h _ _ (F.put hN v) rfl
theorem Zez(F:Has N D a L)(hd:o.dst=some d)(hN:d<N)(hw:Region.wanted o (yielded ops a.tmps)=true)(hr:(execOp a.eval o).run P w = .ok (.value v) w)(h:∀a2,Has N D a2 ((d,v)::L)->wpListIn Fence.wide n P ops Q rest a2 w): wpListIn Fence.wide n P ops Q (o::rest) a w:=
 Zlw F hd hN hw hr λa2 w2 F2 e=>by subst e;exact h a2 F2
theorem Zjw(F:Has N D a L)(hd:o.dst=some d)(hN:d<N)(hw:Region.wanted o (yielded ops a.tmps)=false)(h:∀a2,Has N D a2 ((d,undef)::L)->wpListIn Fence.wide n P ops Q rest a2 w): wpListIn Fence.wide n P ops Q (o::rest) a w:=by
 unfold wpListIn;simp only[hw,Bool.false_eq_true,if_false,hd];exact⟨λ_ _=>trivial,h _ (F.put hN undef)⟩
theorem Zgy(F:Has N D a L){l:Nat}{f:FuncId}{tmps:Array Value}{assign body:Code}{R:Ending->World->Prop}(hd:o.dst=some d)(hN:d<N)(hw:Region.wanted o (yielded ops a.tmps)=true)(hr:(execOp a.eval o).run P w = .ok (.round l f tmps assign body) w)(hc:RoundIn Fence.wide 0 P l f tmps assign body w R)(h:∀e w',R e w'->∃v,e = .returned v/\∀a2,Has N D a2 ((d,v)::L)->wpListIn Fence.wide n P ops Q rest a2 w'): wpListIn Fence.wide n P ops Q (o::rest) a w:=by
 unfold wpListIn;simp only[hw,if_true];refine⟨λ_ _=>trivial,?_⟩;rw[show Fence.wide.round=none from rfl,Oper.semAt_none,hr,Oper.uponIn_round];refine⟨(λh=>by cases h),RoundIn.mono (Zcj hc) λe w' hR=>?_⟩;obtain⟨v,rfl,h1⟩:=h e w' hR;show wpListIn _ _ _ _ _ _ _ _;rw[hd];exact h1 _ (F.put hN v)
theorem Has.vlW(F:Has N D a L)(hr:(execOp a.eval o).run P w = .ok (.value v) w)(h:∀a2,Has N D a2 ((d,v)::L)->wpListIn Fence.wide n P ops Q rest a2 w)(hd:o.dst=some d:=by rfl)(hN:d<N:=by decide)(hw:Region.wanted o (yielded ops a.tmps)=true:=by rfl): wpListIn Fence.wide n P ops Q (o::rest) a w:=
 Zez F hd hN hw hr h
theorem Has.mvW(F:Has N D a L){k: Nat}(h:∀a2,Has N D a2 ((d,v)::L)->wpListIn Fence.wide n P ops Q rest a2 w)(ho:o.op = .move (.tmp k):=by rfl)(hl:L.lookup k=some v:=by rfl)(hd:o.dst=some d:=by rfl)(hN:d<N:=by decide)(hw:Region.wanted o (yielded ops a.tmps)=true:=by rfl): wpListIn Fence.wide n P ops Q (o::rest) a w:=
 Zez F hd hN hw (Z3m ho (F.at hl)) h
theorem Has.asW(F:Has N D a L){k: Nat}(h:∀a2,Has N D a2 ((d,v)::L)->wpListIn Fence.wide n P ops Q rest a2 w)(ho:o.op = .assign (.tmp k):=by rfl)(hl:L.lookup k=some v:=by rfl)(hd:o.dst=some d:=by rfl)(hN:d<N:=by decide)(hw:Region.wanted o (yielded ops a.tmps)=true:=by rfl): wpListIn Fence.wide n P ops Q (o::rest) a w:=
 Zez F hd hN hw (Z08 ho (F.at hl)) h
theorem Zia{ρ:Operand->Value}{x:Operand}{l:Nat}{xs:List Operand}{ts:Array TypeId}{vs:List Value}{f:FuncId}{tmps:Array Value}{assign body:Code}(ho:o.op = .call {callee:=.value x,args:=xs.toArray,argTypes:=ts})(hf:ρ x = .func (.yield l) #[] #[])(ha:xs.map ρ=vs)(hy:(Instr.yield l vs.toArray).run P w = .ok (.round l f tmps assign body) w): (execOp ρ o).run P w = .ok (.round l f tmps assign body) w:=by
 subst ha;unfold execOp;simp[ho,resolve,hf,invoke,go_sem,hy]
end
def frL:Nat->Nat->List Int->List (List Int)
 | 0,left,p=>if left=6 then[] else[p]
 | more+1,left,p=>(List.range (left+1)).flatMap λn=>frL more (left-n) (p++[(n:Int)])
def recL(nd:Nat):List (List Int):=frL nd 6 []
def Agr(nd:Nat)(g:Nat->Int)(p:List Int):Prop:=(∀j,j<p.length->g j=val p j)/\∀j,nd<=j->g j=0
theorem Agr.tub{nd:Nat}{g:Nat->Int}{p:List Int}(h:Agr nd g p)(hp:p.length=nd): tubC g=tubC (val p):=by
 refine Z3Z λk hk=>?_;by_cases e:k<p.length
 ·exact h.1 k e
 ·rw[h.2 k oM,val,Y7,List.getElem?_eq_none oM];rfl
theorem Agr.step{nd:Nat}{g:Nat->Int}{p:List Int}(h:Agr nd g p)(hp:p.length<nd)(n:Int):Agr nd (upF g p.length n) (p++[n]):=by
 refine⟨λj hj=>?_,λj hj=>?_⟩
 ·simp only[Ym,List.length_singleton]at hj;by_cases e:j=p.length
  ·subst e;simp[upF,val]
  ·rw[upF,if_neg e,h.1 j oM];simp[val,List.getElem?_append_left (show j<p.length by omega)]
 ·rw[upF,if_neg oM,h.2 j hj]
theorem Agr.back{nd:Nat}{g:Nat->Int}{p:List Int}{n:Int}(h:Agr nd g (p++[n])): Agr nd g p:=by
 refine⟨λj hj=>?_,h.2⟩;rw[h.1 j (by simp;omega)];simp[val,List.getElem?_append_left hj]
theorem Z5b(f:Nat->List α)(k:Nat): (List.range (k+1)).flatMap f=(List.range k).flatMap f++f k:=by
 rw[List.range_succ,List.flatMap_append];simp
theorem Z9z(f:Nat->List α){k n:Nat}(h:k<=n): (List.range k).flatMap f <+: (List.range n).flatMap f:=by
 obtain⟨d,rfl⟩:=Nat.exists_eq_add_of_le h
 induction d with
 | zero=>exact List.prefix_refl _
 | succ d ih=>exact(ih oM).trans ⟨f (k+d),by rw[<-Z5b];rfl⟩
structure ItB(x:Vm)(X:List Nat)(ob nb yb tb gb l:Nat)(g:Nat->Int)(W:World):Prop where
 hn:W.heap[nb]?=some (.cells x.vc 85 (0,0))
 hy:W.heap[yb]?=some (.cells #[.func (.yield l) #[] #[]] 160 (0,0))
 ht:W.heap[tb]?=some (.cells (tubC g) 88 (0,0))
 hg:W.heap[gb]?=some (.cells #[.func (.func 127) #[] #[.pointer (some ⟨nb,0,none⟩),.pointer (some ⟨yb,0,none⟩),.pointer (some ⟨tb,0,none⟩),.pointer (some ⟨gb,0,none⟩)]] 161 (0,0))
 sn:Safe X ob nb W
 sy:Safe X ob yb W
 st:Safe X ob tb W
 sg:Safe X ob gb W
theorem ItB.keep{x:Vm}{X:List Nat}{ob nb yb tb gb l:Nat}{g:Nat->Int}{W W':World}(h:ItB x X ob nb yb tb gb l g W)(k:KeepR X ob W W'):ItB x X ob nb yb tb gb l g W':=
 ⟨k.cells _ _ _ _ h.hn h.sn,k.cells _ _ _ _ h.hy h.sy,k.cells _ _ _ _ h.ht h.st,k.cells _ _ _ _ h.hg h.sg,h.sn.keep (Z8 h.hn) k,h.sy.keep (Z8 h.hy) k,h.st.keep (Z8 h.ht) k,h.sg.keep (Z8 h.hg) k⟩
variable{μ:Nat}
section
variable(x:Vm)(hd4:x.D.length<=4)(X:List Nat)(ob nb yb tb gb l B0:Nat)(J:List (List Int)->World->Prop)(xs:List (List Int))
theorem ZfM(hY:∀pre q V,J pre V->pre++[q] <+: xs->YieldAt Fence.wide 0 (Qy.prog μ) l #[.agg (tubC (val q))] V λe V'=>e = .returned (.bool true)/\J (pre++[q]) V'/\KeepR X ob V V')
  (left:Nat) (hl:left<=6) (p:List Int) (hp:p.length=x.D.length) (g:Nat->Int) (hag:Agr x.D.length g p) (pre:List (List Int)) (W:World) (hJ:J pre W) (hx:pre++frL 0 left p <+: xs) (hb:ItB x X ob nb yb tb gb l g W) :
  Calls (Qy.prog μ) 127 #[.int .i64 ((p.length:Nat):Int),.int .i64 ((left:Nat):Int),.pointer (some ⟨nb,0,none⟩),.pointer (some ⟨yb,0,none⟩),.pointer (some ⟨tb,0,none⟩),.pointer (some ⟨gb,0,none⟩)] W λe W'=>e = .returned (.bool true)/\J (pre++frL 0 left p) W'/\∃g',Agr x.D.length g' p/\ItB x X ob nb yb tb gb l g' W':=by
 have HY:=Lib.hid hY;obtain⟨q2,q3,q4,q5,sn,sy,st,sg⟩:=hb;rw[hag.tub hp]at q4;by_cases h6:left=6
 ·have hfr:frL 0 left p=[]:=by rw[frL,if_pos h6]
  rw[hfr]at hx⊢;rw[List.append_nil];clear hY;refine Z61 40 Qy.func127 rfl Tryz.ntmps127 (Nat.le_of_ble_eq_true rfl) ?_;intro fa F;refine wpIn_seq_k λK1 hK1=>?_;refine wpIn_region_lit ?_;refine F.vlW (Z08 rfl (ev_c fa _)) λfa F=>?_;refine wpListIn_nil ?_;refine hK1 _ _ ?_;refine wpIn_seq_k λK2 hK2=>?_;refine wpIn_seq_k λK3 hK3=>?_;refine wpIn_region_lit ?_;refine F.mvW λfa F=>?_;refine F.vlW (Z0p rfl (F.at rfl) Qy.underlying85 rfl (n:=0) (sz:=4) rfl kR dC) λfa F=>?_;refine F.vlW (Z0p rfl (F.at rfl) Qy.underlying27 rfl (n:=1) (sz:=1) rfl kR dC) λfa F=>?_;refine F.vlW (Z1e rfl (F.at rfl) Qy.underlying25 rfl ((Z3 q2 1).trans (getS get0))) λfa F=>?_;refine F.vlW (Z8a rfl rfl (F.at rfl) Qy.underlying25) λfa F=>?_;refine F.vlW (Zak rfl (F.at rfl) (F.at rfl)) λfa F=>?_;refine wpListIn_nil ?_;refine hK3 _ _ ?_;refine Zht F rfl (decide_eq_true oM) ?_;refine wpIn_seq_k λK4 hK4=>?_;refine wpIn_region_lit ?_;refine F.mvW λfa F=>?_;refine F.vlW (Zaj (b:=true) rfl (F.at rfl) (ev_c fa _) (decide_eq_true oM)) λfa F=>?_;refine F.mvW λfa F=>?_;refine Zjw F rfl dC (Zk0 F rfl rfl dC rfl dC) λfa F=>?_;refine Zjw F rfl dC (Zk0 F rfl rfl dC rfl dC) λfa F=>?_;refine Zjw F rfl dC (Zk0 F rfl rfl dC rfl dC) λfa F=>?_;refine F.vlW (ZcC rfl (F.at rfl) (ev_c fa _)) λfa F=>?_;refine F.asW λfa F=>?_;refine wpListIn_nil ?_;refine hK4 _ _ ?_;refine wpIn_ret ?_
  (try simp only[Exit.inBlock,Exit.then,reduceIte])
  refine rt_v F (rs_1 F rfl rfl) ?_;exact⟨rfl,hJ,_,⟨λj hj=>rfl,λj hj=>(by rw[val,Y7,List.getElem?_eq_none oM];rfl)⟩,q2,q3,q4,q5,sn,sy,st,sg⟩
 ·have hfr:frL 0 left p=[p]:=by rw[frL,if_neg h6]
  rw[hfr]at hx⊢;clear hY;refine Z61 40 Qy.func127 rfl Tryz.ntmps127 (Nat.le_of_ble_eq_true rfl) ?_;intro fa F;refine wpIn_seq_k λK1 hK1=>?_;refine wpIn_region_lit ?_;refine F.vlW (Z08 rfl (ev_c fa _)) λfa F=>?_;refine wpListIn_nil ?_;refine hK1 _ _ ?_;refine wpIn_seq_k λK2 hK2=>?_;refine wpIn_seq_k λK3 hK3=>?_;refine wpIn_region_lit ?_;refine F.mvW λfa F=>?_;refine F.vlW (Z0p rfl (F.at rfl) Qy.underlying85 rfl (n:=0) (sz:=4) rfl kR dC) λfa F=>?_;refine F.vlW (Z0p rfl (F.at rfl) Qy.underlying27 rfl (n:=1) (sz:=1) rfl kR dC) λfa F=>?_;refine F.vlW (Z1e rfl (F.at rfl) Qy.underlying25 rfl ((Z3 q2 1).trans (getS get0))) λfa F=>?_;refine F.vlW (Z8a rfl rfl (F.at rfl) Qy.underlying25) λfa F=>?_;refine F.vlW (Zak rfl (F.at rfl) (F.at rfl)) λfa F=>?_;refine wpListIn_nil ?_;refine hK3 _ _ ?_;refine Zht F rfl (decide_eq_true oM) ?_;refine wpIn_seq_k λK4 hK4=>?_;refine wpIn_region_lit ?_;refine F.mvW λfa F=>?_;refine F.vlW (Zaj (b:=false) rfl (F.at rfl) (ev_c fa _) (decide_eq_false oM)) λfa F=>?_;refine F.mvW λfa F=>?_;refine F.vlW (Z1e rfl (F.at rfl) Qy.underlying160 rfl ((Z3 q3 0).trans get0)) (λfa F=>?_) (hw:=(Zk1 F rfl rfl dC rfl));refine F.vlW (Z28 rfl (F.at rfl) Qy.underlying88 rfl kR q4) (λfa F=>?_) (hw:=(Zk1 F rfl rfl dC rfl));obtain⟨fn,tmps,assign,body,hyy,hR0⟩:=HY.out pre p W hJ hx;refine Zgy F rfl dC (Zk1 F rfl rfl dC rfl) (Zia rfl (F.at rfl) (mpS (F.at rfl) mp0) hyy) hR0 λe w1 hR=>?_;obtain⟨rfl,hJ,hk⟩:=hR;refine⟨_,rfl,λfa F=>?_⟩;refine F.vlW (ZcB rfl (F.at rfl) (F.at rfl)) λfa F=>?_;refine F.asW λfa F=>?_;refine wpListIn_nil ?_;refine hK4 _ _ ?_;refine wpIn_ret ?_
  (try simp only[Exit.inBlock,Exit.then,reduceIte])
  refine rt_v F (rs_1 F rfl rfl) ?_;have hb2:=ItB.keep ⟨q2,q3,q4,q5,sn,sy,st,sg⟩ hk;exact⟨rfl,hJ,_,⟨λj hj=>rfl,λj hj=>(by rw[val,Y7,List.getElem?_eq_none oM];rfl)⟩,hb2⟩
theorem ZbD{w w2:World}{b o:Nat}{v:Value}(e:w2=w.setCell ⟨b,o,none⟩ v): w.grownBy w2 (some b):=by
 rw[e];exact⟨rfl,rfl,rfl,(KeepsWalks.setCell w _ v).size,λk _ hk=>Below.heap_setCell _ _ _ k (λe=>hk (by rw[e]))⟩
theorem ZbE{w w2:World}{b o k:Nat}{v:Value}(e:w2=w.setCell ⟨b,o,none⟩ v)(h:k≠b): w2.heap[k]?=w.heap[k]?:=by
 rw[e];exact Below.heap_setCell _ _ _ k h
include hd4 in
theorem from_step(hB0:B0<=tb)(hnt:nb≠tb)(hyt:yb≠tb)(hgt:gb≠tb)
  (HJ:Hid (∀s U V r,J s U->Safe X ob r U->B0<=r->(∃o:Obj,U.heap[r]?=some o/\o.isCells=true)->U.grownBy V (some r)->J s V))
  (more:Nat) (IH:Hid (∀(left:Nat),left<=6->∀(p:List Int),p.length+more=x.D.length->∀(g:Nat->Int),Agr x.D.length g p->∀(pre:List (List Int)) (W:World),J pre W->pre++frL more left p <+: xs->ItB x X ob nb yb tb gb l g W ->
   Calls (Qy.prog μ) 127 #[.int .i64 ((p.length:Nat):Int),.int .i64 ((left:Nat):Int),.pointer (some ⟨nb,0,none⟩),.pointer (some ⟨yb,0,none⟩),.pointer (some ⟨tb,0,none⟩),.pointer (some ⟨gb,0,none⟩)] W λe W'=>e = .returned (.bool true)/\J (pre++frL more left p) W'/\∃g',Agr x.D.length g' p/\ItB x X ob nb yb tb gb l g' W'))
  (left:Nat) (hl:left<=6) (p:List Int) (hp:p.length+(more+1)=x.D.length) (g:Nat->Int) (hag:Agr x.D.length g p) (pre:List (List Int)) (W:World) (hJ:J pre W) (hx:pre++frL (more+1) left p <+: xs) (hb:ItB x X ob nb yb tb gb l g W) :
  Calls (Qy.prog μ) 127 #[.int .i64 ((p.length:Nat):Int),.int .i64 ((left:Nat):Int),.pointer (some ⟨nb,0,none⟩),.pointer (some ⟨yb,0,none⟩),.pointer (some ⟨tb,0,none⟩),.pointer (some ⟨gb,0,none⟩)] W λe W'=>e = .returned (.bool true)/\J (pre++frL (more+1) left p) W'/\∃g',Agr x.D.length g' p/\ItB x X ob nb yb tb gb l g' W':=by
 obtain⟨q2,q3,q4,q5,sn,sy,st,sg⟩:=hb;have hsto:=st.2.1;obtain⟨fs,hfs⟩:∃fs:Nat->List (List Int),fs=λn=>frL more (left-n) (p++[(n:Int)]):=⟨_,rfl⟩;have hfr:frL (more+1) left p=(List.range (left+1)).flatMap fs:=by rw[hfs];rfl
 rw[hfr]at hx⊢;have hJ:J (pre++(List.range 0).flatMap fs) W:=by simpa using hJ
 have HX:=Lib.hid hx;clear hfr hx;refine Z1t 40 Qy.func127 rfl Tryz.ntmps127 (Nat.le_of_ble_eq_true rfl) ?_;intro fa F;refine wS λK1 hK1=>?_;refine Yg ?_;refine F.vl (Z08 rfl (ev_c fa _)) λfa F=>?_;refine wN<|hK1 _ _<|wS λK2 hK2=>wS λK3 hK3=>?_
 refine Yg ?_;refine F.mv λfa F=>?_;refine F.vl (Z0p rfl (F.at rfl) Qy.underlying85 rfl (n:=0) (sz:=4) rfl kR dC) λfa F=>?_;refine F.vl (Z0p rfl (F.at rfl) Qy.underlying27 rfl (n:=1) (sz:=1) rfl kR dC) λfa F=>?_;refine F.vl (Z1e rfl (F.at rfl) Qy.underlying25 rfl ((Z3 q2 1).trans (getS get0))) λfa F=>?_;refine F.vl (Z8a rfl rfl (F.at rfl) Qy.underlying25) λfa F=>?_;refine F.vl (Zak rfl (F.at rfl) (F.at rfl)) λfa F=>?_;refine wN<|hK3 _ _ ?_
 refine Zmh F rfl (decide_eq_false oM) ?_;refine Yi ?_;refine hK2 _ _<|wS λK4 hK4=>wS λK5 hK5=>?_
 refine Yg ?_;refine F.mv λfa F=>?_;refine F.vl (Z87 rfl (F.at rfl) (ev_c fa _) oM oM) λfa F=>?_;refine F.vl (Z3m rfl (ev_c fa _)) λfa F=>?_;refine wN<|hK5 _ _ ?_
 refine Yh ?_;have F0:=F.sub (.c 0 rfl (.c 1 rfl (.c 4 rfl (.c 5 rfl (.c 24 rfl .n)))));refine Z8E F0 (left+1) (λi Lv W=>∃g:Nat->Int,Lv=[(25,.int .i64 ((i:Nat):Int))]/\W.heap[nb]?=some (.cells x.vc 85 (0,0))/\W.heap[yb]?=some (.cells #[.func (.yield l) #[] #[]] 160 (0,0))/\W.heap[tb]?=some (.cells (tubC g) 88 (0,0))/\W.heap[gb]?=some (.cells #[.func (.func 127) #[] #[.pointer (some ⟨nb,0,none⟩),.pointer (some ⟨yb,0,none⟩),.pointer (some ⟨tb,0,none⟩),.pointer (some ⟨gb,0,none⟩)]] 161 (0,0))/\Agr x.D.length g p/\J (pre++(List.range i).flatMap fs) W/\Safe X ob nb W/\Safe X ob yb W/\Safe X ob tb W/\Safe X ob gb W) ⟨_,⟨g,rfl,q2,q3,q4,q5,hag,hJ,sn,sy,st,sg⟩,F.sub (.c 25 rfl (.c 0 rfl (.c 1 rfl (.c 4 rfl (.c 5 rfl (.c 24 rfl .n))))))⟩ ?_;clear F F0;clear q2 q3 q4 q5;rintro i _ fa w1 hi1 ⟨g,rfl,q2,q3,q4,q5,hag,hJ,sn,sy,st,sg⟩ F;refine wS λK6 hK6=>?_;refine Yg ?_;refine F.vl (Zcx rfl (F.at rfl) (F.at rfl)) λfa F=>?_;refine wN<|hK6 _ _<|wS λK7 hK7=>?_
 refine Zfo F rfl (λhc26=>?_) (λhc26=>?_)
 ·skip;refine Yi ?_;refine hK7 _ _<|wS λK8 hK8=>?_
  refine Yh ?_;refine wS λK9 hK9=>?_;refine Yg ?_;refine F.mv λfa F=>?_;refine F.as λfa F=>?_;refine wN<|hK9 _ _<|wS λK10 hK10=>?_
  refine Yg ?_;refine F.mv λfa F=>?_;refine F.mv λfa F=>?_;refine F.vl (Z4V (n:=4) (sz:=1) rfl (F.at rfl) (F.at rfl) Qy.underlying88 kR oM oM) λfa F=>?_;refine Z3S rfl rfl (ZW rfl (F.at rfl) (F.at rfl) rfl kR (Z2v q4 (k:=p.length) rfl oM) (Zg q4 _)) ?_;intro w2 hw;have hJ2:=HJ.out _ _ _ tb hJ st hB0 ⟨_,q4,rfl⟩ (ZbD hw);have ho:=ZbE (k:=ob) hw (Ne.symm hsto);replace sn:=sn.same ho;replace sy:=sy.same ho;replace st:=st.same ho;replace sg:=sg.same ho;replace q2:=kce hw q2;replace q3:=kce hw q3;replace q4:=Z9Y hw q4 (k:=p.length) rfl oM;replace q5:=kce hw q5;clear hw;refine wpList_nil ?_;have hag2:=hag.step oM ((i:Nat):Int);refine hK10 _ _<|wS λK11 hK11=>?_
  refine Yg ?_;refine F.vl (Z1e rfl (F.at rfl) Qy.underlying161 rfl ((Z3 q5 0).trans get0)) λfa F=>?_;refine F.mv λfa F=>?_;refine F.vl (Z87 rfl (F.at rfl) (ev_c fa _) oM oM) λfa F=>?_;refine F.mv λfa F=>?_;refine F.mv λfa F=>?_;refine F.vl (Zkj rfl (F.at rfl) (F.at rfl) oM oM) λfa F=>?_;rw[show (((p.length:Nat):Int)+1)=(((p++[((i:Nat):Int)]).length:Nat):Int) by simp,show (((left:Nat):Int)-((i:Nat):Int))=((left-i:Nat):Int) by omega]at F;have hpx:(pre++(List.range i).flatMap fs)++frL more (left-i) (p++[((i:Nat):Int)]) <+: xs:=by refine List.IsPrefix.trans ?_ HX.out;rw[List.append_assoc,show frL more (left-i) (p++[((i:Nat):Int)])=fs i by rw[hfs],<-Z5b];exact(List.prefix_append_right_inj _).2 (Z9z fs oM)
  refine sqC F (Z30 rfl (F.at rfl) Qy.call127 (mpS (F.at rfl) (mpS (F.at rfl) mp0)) sU) (IH.out (left-i) oM (p++[((i:Nat):Int)]) (by simp only[Ym,List.length_singleton];omega) _ hag2 _ _ hJ2 hpx ⟨q2,q3,q4,q5,sn,sy,st,sg⟩) λe w3 hR=>?_;obtain⟨rfl,hJ3,g2,hag3,q2,q3,q4,q5,sn,sy,st,sg⟩:=hR;refine⟨_,rfl,λfa F=>?_⟩;refine F.vl (Zi8 rfl (F.at rfl)) λfa F=>?_;refine wpList_nil ?_;replace hag3:=hag3.back;have hJ4:J (pre++(List.range (i+1)).flatMap fs) w3:=by rw[Z5b,<-List.append_assoc,show fs i=frL more (left-i) (p++[((i:Nat):Int)]) by rw[hfs]];exact hJ3
  refine hK11 _ _ ?_;refine cd_F F rfl ?_;refine Yi ?_;refine hK8 _ _ ?_;refine Yg ?_;refine F.vl (Z87 rfl (F.at rfl) (ev_c fa _) oM oM) λfa F=>?_;refine F.mv λfa F=>?_;refine wpList_nil ?_;show _/\_;exact⟨oM,_,⟨g2,rfl,q2,q3,q4,q5,hag3,hJ4,sn,sy,st,sg⟩,F.sub (.c 25 rfl (.c 0 rfl (.c 1 rfl (.c 4 rfl (.c 5 rfl (.c 24 rfl .n))))))⟩
 ·skip;refine wp_exit ?_;refine hK4 _ _<|wS λK12 hK12=>?_
  refine Yg ?_;refine F.vl (Z08 rfl (ev_c fa _)) λfa F=>?_;refine wN<|hK12 _ _ ?_
  refine wp_ret ?_
  (try simp only[Exit.inBlock,Exit.then,reduceIte])
  refine rt_v F (rs_1 F rfl rfl) ?_;have hi:i=left+1:=oM;exact⟨rfl,(by rw[<-hi];exact hJ),g,hag,q2,q3,q4,q5,sn,sy,st,sg⟩
end
variable{μ:Nat}
theorem Z4m(h:Ext [] W W'): W.grownBy W' none:=⟨h.os,h.tape,h.output,h.size,λk hk _=>h.block k hk sU⟩
theorem ZaI(x:Vm)(hd4:x.D.length<=4)(X:List Nat)(ob nb yb tb gb l B0:Nat)(J:List (List Int)->World->Prop)(xs:List (List Int))(hB0:B0<=tb)(hnt:nb≠tb)(hyt:yb≠tb)(hgt:gb≠tb)
  (HJ:Hid (∀s U V r,J s U->Safe X ob r U->B0<=r->(∃o:Obj,U.heap[r]?=some o/\o.isCells=true)->U.grownBy V (some r)->J s V))
  (hY:∀pre q V,J pre V->pre++[q] <+: xs->YieldAt Fence.wide 0 (Qy.prog μ) l #[.agg (tubC (val q))] V λe V'=>e = .returned (.bool true)/\J (pre++[q]) V'/\KeepR X ob V V') :
  ∀(more left:Nat),left<=6->∀(p:List Int),p.length+more=x.D.length->∀(g:Nat->Int),Agr x.D.length g p->∀(pre:List (List Int)) (W:World),J pre W->pre++frL more left p <+: xs->ItB x X ob nb yb tb gb l g W ->
   Calls (Qy.prog μ) 127 #[.int .i64 ((p.length:Nat):Int),.int .i64 ((left:Nat):Int),.pointer (some ⟨nb,0,none⟩),.pointer (some ⟨yb,0,none⟩),.pointer (some ⟨tb,0,none⟩),.pointer (some ⟨gb,0,none⟩)] W λe W'=>e = .returned (.bool true)/\J (pre++frL more left p) W'/\∃g',Agr x.D.length g' p/\ItB x X ob nb yb tb gb l g' W'
 | 0,left,hl,p,hp,g,hag,pre,W,hJ,hx,hb=>ZfM x X ob nb yb tb gb l J xs hY left hl p oM g hag pre W hJ hx hb
 | more+1,left,hl,p,hp,g,hag,pre,W,hJ,hx,hb=>from_step x hd4 X ob nb yb tb gb l B0 J xs hB0 hnt hyt hgt HJ more (Lib.hid (ZaI x hd4 X ob nb yb tb gb l B0 J xs hB0 hnt hyt hgt HJ hY more)) left hl p hp g hag pre W hJ hx hb
theorem Z8O{w: World}(e:W.heap[ob]?=w.heap[ob]?): Z12 ob W=Z12 ob w:=by rw[Z12,e];rfl
theorem Z4p(x:Vm)(hd4:x.D.length<=4)(X:List Nat)(ob nb:Nat)(w:World)(hob:ob<w.heap.size)(hX:∀b∈X,b<w.heap.size)(hrow:∀r,Z12 ob w=some r->r<w.heap.size)(hs:Safe X ob nb w)
  (hn:w.heap[nb]?=some (.cells x.vc 85 (0,0))) :
  SeqR (Qy.prog μ) 126 #[.pointer (some ⟨nb,0,none⟩)] (λq:List Int=>#[.agg (tubC (val q))]) X ob (recL x.D.length) w:=by
 intro l J W hWs hWw hJ1 hJ2 hY h0;have HJ:=Lib.hid hJ2;have HY:=Lib.hid hY;have HJ1:=Lib.hid hJ1;have q1:W.heap[nb]?=some (.cells x.vc 85 (0,0)):=(hWw nb (Z8 hn)).trans hn;have hnbl:=Z8 hn;have hobW:=hWw ob hob;have HXX:=Lib.hid hX;have HRW:=Lib.hid hrow;show Calls _ _ #[.func (.yield l) #[] #[],.pointer (some ⟨nb,0,none⟩)] _ _;have E:Ext [] W W:=Ext.refl _ _;clear hJ1 hJ2 hY hn hX hrow;refine Z1t 8 Qy.func126 rfl Tryz.ntmps126 (Nat.le_of_ble_eq_true rfl) ?_;intro fa F;refine wS λK1 hK1=>?_;refine Yg ?_;refine sqN F (Zcr rfl (F.at rfl)) λfa w1 F hw=>?_;obtain⟨n2,hn⟩:=eQ W.heap.size;rw[<-hn]at F;have s2:=sQ hn;have l2_E:=lQ hn E.size;have m2_1:nb<n2:=by rw[hn];exact Z8 q1
 replace q1:=Zf hw q1;replace E:=Zv E hw;have q2:=Z7x hw rfl hn;clear hw hn;refine wN<|hK1 _ _<|wS λK2 hK2=>?_
 refine Yg ?_;refine sqN F (Z2Z rfl Qy.zeroValue88) λfa w2 F hw=>?_;obtain⟨n3,hn⟩:=eQ w1.heap.size;rw[<-hn]at F;have s3:=sQ hn;have l3_E:=lQ hn E.size;have m3_1:nb<n3:=by rw[hn];exact Z8 q1
 have m3_2:=tQ hn (Z8 q2);replace q1:=Zf hw q1;replace q2:=Zf hw q2;replace E:=Zv E hw;have q3:=Z5i hw hn;clear hw hn;refine wpList_nil ?_;replace q3:w2.heap[n3]?=some (.cells (tubC zf) 88 (0,0)):=q3;refine hK2 _ _<|wS λK3 hK3=>?_
 refine Yg ?_;refine sqN F (Z2Z rfl Qy.zeroValue161) λfa w3 F hw=>?_;obtain⟨n4,hn⟩:=eQ w2.heap.size;rw[<-hn]at F;have s4:=sQ hn;have l4_E:=lQ hn E.size;have m4_1:nb<n4:=by rw[hn];exact Z8 q1
 have m4_2:=tQ hn (Z8 q2);have m4_3:=tQ hn (Z8 q3);replace q1:=Zf hw q1;replace q2:=Zf hw q2;replace q3:=Zf hw q3;replace E:=Zv E hw;have q4:=Z7x hw rfl hn;clear hw hn;refine wN<|hK3 _ _<|wS λK4 hK4=>?_
 refine Yg ?_;refine F.vl (Z5U rfl (Z9M mp0) (Z9M (mpS (F.at rfl) (mpS (F.at rfl) (mpS (F.at rfl) (mpS (F.at rfl) mp0)))))) λfa F=>?_;refine Z3S rfl rfl (ZW rfl (F.at rfl) (F.at rfl) rfl kR ((Z3 q4 0).trans get0) (Zg q4 0)) ?_;intro w4 hw;replace q1:=kce hw q1;replace q2:=kce hw q2;replace q3:=kce hw q3;replace q4:=ZU hw q4 (by simp only[List.setIfInBounds_toArray,lsQ,lzQ];exact rfl);replace E:=ece E hw;clear hw;refine wN<|hK4 _ _ ?_
 refine Yg ?_;refine F.vl (Z1e rfl (F.at rfl) Qy.underlying161 rfl ((Z3 q4 0).trans get0)) λfa F=>?_;have hrW:Z12 ob w4=Z12 ob w:=Z8O ((E.block ob oM sU).trans hobW);have hsf:∀k,w.heap.size<=k->Safe X ob k w4:=λk hk=>⟨λh=>(by have:=HXX.out k h;omega),oM,λe=>(by have:=HRW.out k (hrW.symm.trans e);omega)⟩;have hsn:Safe X ob nb w4:=hs.same ((E.block ob oM sU).trans hobW);have hJn:=HJ1.out [] W w4 h0 (Z4m E);have hall:=ZaI x hd4 X ob nb n2 n3 n4 l W.heap.size J (recL x.D.length) oM oM oM oM HJ HY.out x.D.length 6 oM [] sU zf ⟨λj hj=>absurd hj sU,λj _=>rfl⟩ [] w4 hJn (by exact List.prefix_refl _) ⟨q1,q2,q3,q4,hsn,hsf _ oM,hsf _ oM,hsf _ oM⟩;refine sqC F (Z30 rfl (F.at rfl) Qy.call127 (mpS (ev_c fa _) (mpS (ev_c fa _) mp0)) sU) hall λe w5 hR=>?_;obtain⟨rfl,hJ3,g2,hag3,q1,q2,q3,q4,sn,sy,st,sg⟩:=hR;refine⟨_,rfl,λfa F=>?_⟩;refine wpList_nil ?_
 (try simp only[Exit.inBlock,Exit.then,reduceIte])
 refine Zju F (rs_0 rfl) ?_;exact⟨⟨_,rfl⟩,hJ3⟩
theorem Z5m(x:Vm)(w:World):Calls (Qy.prog μ) 110 #[.agg x.vc] w λe w'=>∃nb,e = .returned (.func (.func 126) #[] #[.pointer (some ⟨nb,0,none⟩)])/\w.heap.size<=nb/\w'.heap[nb]?=some (.cells x.vc 85 (0,0))/\Ext [] w w':=by
 have E:=Ext.refl [] w;have G:=(Bk.nil w).ce E;refine(ent 4 Tryz.f110 rfl) λF=>wR λk1=>(F.bx G) @λn1 w1 _ yy F G=>(F.m) λF=>k1<|wR λk2=>(F.y F.mf) λF=>(F.m) λF=>k2<|(F.r1) ?_
 exact⟨n1,rfl,oM,(G.q 0),(G.e 1)⟩
end
section
open Go.RowKit Go.Maps Go.WideMaps Go.ChangeShapes
variable{μ:Nat}
theorem arrT:ArrKey (Qy.prog μ) 88 3 4:=⟨Qy.underlying88,kR,kR,kR⟩
theorem Zmv:laidOutB (Qy.prog μ)=true:=Qy.laid
theorem rowT:(88:TypeId)<(Qy.prog μ).types.size:=of_decide_eq_true kR
theorem ZkX:(Qy.prog μ).keyTypeAt 2 88=true:=arrT.at 0
theorem lawT:KeyLaw (Qy.prog μ) 88:=deep_law_laid (P:=(Qy.prog μ)) (m:=2) (k:=88) Zmv oM rowT ZkX (by rw[Qy.underlying88])
theorem ZdK:Keyed (Qy.prog μ) 88:=Keyed.of_law lawT
def klT(f:Nat->Int):Lit:=.string (keyBytes [.int .i64 (f 0),.int .i64 (f 1),.int .i64 (f 2),.int .i64 (f 3)])
theorem Z3A(hf:TubS f): keyOf (Qy.prog μ) 88 (.agg (tubC f))=some (klT f):=by
 have hsz:∃m,(Qy.prog μ).types.size=m+1:=by
  have h0:0<(Qy.prog μ).types.size:=Nat.lt_of_le_of_lt (Nat.zero_le _) rowT;revert h0;generalize (Qy.prog μ).types.size=n;intro h0;exact⟨n-1,oM⟩
 have hkt:=arrT.keyType hsz;obtain⟨m,hm⟩:=hsz;have hw:∀k,k<4->(Lit.int .i64 (f k)).wf=true:=λk hk=>by have:=hf k hk;exact WalkArith.wf_i64 oM
 have h0:=hw 0 oM;have h1:=hw 1 oM;have h2:=hw 2 oM;have h3:=hw 3 oM;unfold keyOf;simp only[arrT.hu];rw[if_pos (by simp[hkt,Value.formed,arrT.hu,arrT.size,tubC]),hm];unfold Program.keyLits;simp only[arrT.hu,Value.cells];rw[if_pos (by rw[arrT.size];rfl),show List.range 4=[0,1,2,3] from rfl,List.mapM_cons,List.mapM_cons,List.mapM_cons,List.mapM_cons,List.mapM_nil];simp[arrT.one,Program.keyLits,Qy.underlying3,h0,h1,h2,h3,tubC,klT]
theorem ZkY{g: Nat->Int}(hf:TubS f)(hg:TubS g){k:Nat}(hk:k<4)(h:f k≠g k): klT f≠klT g:=by
 intro e;have h1:=(ZdK (μ:=0)).inj (Z3A (μ:=0) hf) (by rw[e];exact Z3A hg);have h2:tubC f=tubC g:=by simpa using h1
 have:=congrArg (λa:Array Value=>a[k]?) h2;have t1:=Z6z (f:=f) (i:=(k:Int)) (k:=k) rfl hk;have t2:=Z6z (f:=g) (i:=(k:Int)) (k:=k) rfl hk;rw[Int.toNat_natCast]at t1 t2;simp only[t1,t2]at this;exact h (by simpa using this)
theorem Z3J{H:Type}{P:Program}{e:TypeId}(he:P.underlying e=some .bool){v:Value}{z:DataW H×List MemPlace}(h:plainElem P e v=some z): ∃b,v = .bool b/\z=(.lit (.bool b),[]):=by
 unfold plainElem at h;cases v<;>simp[he]at h
 rename_i b;exact⟨b,rfl,by first | exact h.symm | (rw[<-h])⟩
def MapT(w:World)(b:Nat)(out:List (List Int)):Prop:=∃D:DataW Unit,w.ownsMap (Qy.prog μ) 88 (plainElem (Qy.prog μ) 4) b out.length D/\∀f,TubS f->(∀t∈out,∃k,k<4/\f k≠val t k)->D.atKey (klT f) (.lit (.bool false)) = .lit (.bool false)
theorem MapT.kept{w w':World}{b:Nat}{out:List (List Int)}{row:Option Nat}(h:MapT (μ:=μ) w b out)(hg:w.grownBy w' row)(hr:some b≠row):MapT (μ:=μ) w' b out:=by
 obtain⟨D,h1,h2⟩:=h;exact⟨D,h1.kept hg hr,h2⟩
theorem MapT.obj{w:World}{b:Nat}{out:List (List Int)}(h:MapT (μ:=μ) w b out): ∃es clock,w.heap[b]?=some (.map es clock):=by
 obtain⟨D,⟨es,clock,hb,-⟩,-⟩:=h;exact⟨es,clock,hb⟩
theorem MapT.ne{w:World}{b c:Nat}{out:List (List Int)}(h:MapT (μ:=μ) w b out){o:Obj}(H:w.heap[c]?=some o)(ho:∀es k,o ≠ .map es k): b≠c:=by
 intro e;obtain⟨es,k,hb⟩:=h.obj;subst e;rw[H]at hb;exact ho es k (by simpa using hb)
theorem Z03{w w2:World}{b:Nat}{out:List (List Int)}(h:MapT (μ:=μ) w b out)(e:Ext [] w w2): MapT (μ:=μ) w2 b out:=h.kept (Z4m e) sU
theorem Zg4(w:World):MapT (μ:=μ) (w.alloc (.map #[] 0)) w.heap.size []:=⟨.map [],World.ownsMap_made w _ _ _,λf _ _=>rfl⟩
section
variable{ρ:Operand->Value}{o:Oper}{w:World}
theorem Zcy{P:Program}{t:TypeId}(ho:o.op = .makeMap t none): (execOp ρ o).run P w = .ok (.value (.map (some w.heap.size))) (w.alloc (.map #[] 0)):=by
 unfold execOp;simp[ho,run_makeMap,Result.andThen,go_sem]
theorem Zcw{x y:Operand}{b:Nat}{out:List (List Int)}(ho:o.op = .lookup 157 x y false)(hx:ρ x = .map (some b))(hy:ρ y = .agg (tubC f))(hf:TubS f)(h:MapT (μ:=μ) w b out):
  ∃c,(execOp ρ o).run (Qy.prog μ) w = .ok (.value (.bool c)) w/\((∀t∈out,∃k,k<4/\f k≠val t k)->c=false):=by
 obtain⟨D,h1,h2⟩:=h;obtain⟨v,ps,hr,hv⟩:=h1.lookup ZdK Qy.underlying157 (z:=.bool false) (zd:=.lit (.bool false)) (zp:=[]) kR (plainElem_bool Qy.underlying4 false) (Z3A hf);obtain⟨c,rfl,hc⟩:=Z3J Qy.underlying4 hv;refine⟨c,?_,λhn=>?_⟩
 ·unfold execOp;simp[ho,hx,hy,hr,Result.andThen,go_sem]
 ·have h3:=h2 f hf hn;simp only[Y9]at hc;rw[h3]at hc;simpa using hc.1.symm
theorem Zcz{x y z:Operand}{b:Nat}{out:List (List Int)}{t:List Int}(ho:o.op = .mapUpdate 157 x y z)(hx:ρ x = .map (some b))(hy:ρ y = .agg (tubC (val t)))(hz:ρ z = .bool true)(hf:TubS (val t))(hl:out.length<1000)(h:MapT (μ:=μ) w b out):
  ∃w',(execOp ρ o).run (Qy.prog μ) w = .ok .skip w'/\MapT (μ:=μ) w' b (out++[t])/\w.grownBy w' (some b):=by
 obtain⟨D,h1,h2⟩:=h;obtain⟨w',hr,h3,h4⟩:=h1.update ZdK Qy.underlying157 (by simp only[maxLen];omega) (Z3A hf) (plainElem_bool Qy.underlying4 true);refine⟨w',?_,⟨_,by rw[Ym];exact h3,λf hff hn=>?_⟩,h4⟩
 ·unfold execOp;simp[ho,hx,hy,hz,hr,Result.andThen,go_sem]
 ·obtain⟨k,hk,hne⟩:=hn t sU;rw[atKey_put_other (ZkY hff hf hk hne)];exact h2 f hff λu hu=>hn u (by simp[hu])
end
end
section
open Go.RowKit Go.Maps
variable{μ:Nat}
section
variable{P:Program}{ops:Array Oper}{Q:Exit->Act->World->Prop}{o:Oper}{rest:List Oper}{N:Nat}{D:List Deferred}{a:Act}{L:List (Nat×Value)}{w w':World}{v:Value}
theorem ZlA{C:Value->Prop}(F:Has N D a L)(hd:o.dst=some d)(hN:d<N)(hw:Region.wanted o (yielded ops a.tmps)=true)(hr:∃v,(execOp a.eval o).run P w = .ok (.value v) w/\C v)(h:∀a2 v,Has N D a2 ((d,v)::L)->C v->wpList P ops Q rest a2 w): wpList P ops Q (o::rest) a w:=by
 obtain⟨v,h1,h2⟩:=hr;exact Z6n F hd hN hw h1 λa2 F2=>h a2 v F2 h2
theorem ZlB{C:World->Prop}(hd:o.dst=none)(hw:Region.wanted o (yielded ops a.tmps)=true)(hr:∃w',(execOp a.eval o).run P w = .ok .skip w'/\C w')(h:∀w2,C w2->wpList P ops Q rest a w2): wpList P ops Q (o::rest) a w:=by
 obtain⟨w',h1,h2⟩:=hr;exact Z3S hd hw h1 λw2 e=>h w2 (by rw[e];exact h2)
theorem Zbl{G:Fence}{n:Nat}(F:Has N D a L)(h:∀fb,Has N D fb L->c.wpIn G n P Q fb w): c.wpIn G n P Q a w:=h a F
theorem Has.param(F:Has N D a L){p:Nat}(hp:p<N)(v:Value): Has N [] {tmps:=(#[p].zip #[v]).foldl (λt (p,v)=>t.setIfInBounds p v) a.tmps,defers:=[]} ((p,v)::L):=by
 have h:=F.put hp v;have e:({tmps:=(#[p].zip #[v]).foldl (λt (p,v)=>t.setIfInBounds p v) a.tmps,defers:=[]}:Act)={a.put (some p) v with defers:=[]}:=by simp[Act.put]
 rw[e];exact⟨rfl,h.sz,h.get⟩
end
theorem Z1T{w w2:World}{b c:Nat}{out:List (List Int)}{cs:Array Value}{T:TypeId}{fz:Nat×Nat}(h:MapT (μ:=μ) w b out)(hg:w.grownBy w2 (some b))(q:w.heap[c]?=some (.cells cs T fz)): w2.heap[c]?=some (.cells cs T fz):=
 (hg.block c (Z8 q) (λe=>h.ne q (λ_ _ h=>by cases h) (by simpa using e.symm))).trans q
theorem Zgl{w w2:World}{b base n size:Nat}{e:TypeId}{v:Value}{xs:List Value}{out:List (List Int)}(h:MapT (μ:=μ) w b out)(hg:w.grownBy w2 (some b))(ho:w.ownsRow base e size v n xs): w2.ownsRow base e size v n xs:=by
 refine ho.kept hg ?_;rcases ho.2 with⟨rfl,_⟩ | ⟨g,cap,cur,rfl,_,hgb,_⟩
 ·exact .inl rfl
 ·exact .inr λe=>h.ne hgb (λ_ _ h=>by cases h) (by simpa[Value.ownBlock] using e.symm)
theorem ZaD{X:List Nat}{a w w2:World}{b:Nat}(h:Ext X a w)(hg:w.grownBy w2 (some b))(hb:b<a.heap.size->b∈X): Ext X a w2:=
 ⟨hg.os.trans h.os,hg.tape.trans h.tape,hg.output.trans h.output,Yd h.size hg.size,λk hk hx=>(hg.block k (Y8 hk h.size) (λe=>by cases e;exact hx (hb hk))).trans (h.block k hk hx)⟩
theorem Z0Q{X:List Nat}{a w w2:World}{row:Option Nat}(h:Ext X a w)(hg:w.grownBy w2 row)(hb:∀b,row=some b->b<a.heap.size->b∈X): Ext X a w2:=
 ⟨hg.os.trans h.os,hg.tape.trans h.tape,hg.output.trans h.output,Yd h.size hg.size,λk hk hx=>(hg.block k (Y8 hk h.size) (λe=>by cases e;exact hx (hb _ rfl hk))).trans (h.block k hk hx)⟩
theorem Z0j{B:Nat}{X:List Nat}(h:Ext X W W')(hX:∀b∈X,b<B\/∃cs T fz,W.heap[b]?=some (.cells cs T fz)): KeepsFrom B W W':=
 ⟨h.size,λk o hk ho hc=>h.keep ho λhm=>by
  rcases hX k hm with h1 | ⟨cs,T,fz,h1⟩
  ·omega
  ·rw[h1]at ho;cases ho;cases hc⟩
theorem Z0A{X Y:List Nat}(h:Ext X W W')(hX:∀k cs T fz,W.heap[k]?=some (.cells cs T fz)->Safe Y ob k W->k ∉ X)(hr:Z12 ob W'=Z12 ob W\/∀r,Z12 ob W'=some r->W.heap.size<=r): KeepR Y ob W W':=
 ⟨h.size,λk cs T fz hk hs=>h.keep hk (hX k cs T fz hk hs),hr⟩
theorem Z67{Y:List Nat}(h:Ext [] W W')(hob:ob<W.heap.size): KeepR Y ob W W':=
 Z0A h (λ_ _ _ _ _ _=>by simp) (.inl (Z8O (h.block ob hob sU)))
def tubE(f g:Nat->Int):Bool:=(List.range 4).all λi=>decide (f i=g i)
theorem Zbi{g: Nat->Int}: tubE f g=true↔∀k,k<4->f k=g k:=by
 simp[tubE,Yl]
theorem Zix(f g:Nat->Int)(w:World):(Op.equalIn 10000 88 (.agg (tubC f)) (.agg (tubC g))).run (Qy.prog μ) w = .ok (tubE f g) w:=by
 refine Z1G (n:=1) Qy.underlying88 kR _ λi hi=>?_;refine⟨.int .i64 (f i),.int .i64 (g i),?_,?_,run_equalIn_int w _ _ .i64 .i64 _ _ Qy.underlying3⟩
 ·rcases i with _ | _ | _ | _ | i
  ·exact ZT rfl
  ·exact ZT rfl
  ·exact ZT rfl
  ·exact ZT rfl
  ·omega
 ·rcases i with _ | _ | _ | _ | i
  ·exact ZT rfl
  ·exact ZT rfl
  ·exact ZT rfl
  ·exact ZT rfl
  ·omega
section
variable{ρ:Operand->Value}{o:Oper}{w:World}
theorem Zfh{x y:Operand}{t':TypeId}{g: Nat->Int}(ho:o.op = .binOp .neq 88 x y t')(hx:ρ x = .agg (tubC f))(hy:ρ y = .agg (tubC g)):
  (execOp ρ o).run (Qy.prog μ) w = .ok (.value (.bool (!tubE f g))) w:=by
 have hg:(Qy.prog μ).eqGuardType (Qy.prog μ).depth 88=false:=kR
 unfold execOp;simp only[ho,hx,hy,Sem.run_bind,run_eqGuard_agg w .neq 88 x y (tubC f) (tubC g) hg,Result.andThen_ok,run_neq_struct,Zix,Sem.run_pure]
theorem Zcv{x y:Operand}{b:Nat}{out:List (List Int)}(ho:o.op = .lookup 157 x y false)(hx:ρ x = .map (some b))(hy:ρ y = .agg (tubC f))(hf:TubS f)(h:MapT (μ:=μ) w b out):
  ∃v,(execOp ρ o).run (Qy.prog μ) w = .ok (.value v) w/\∃c,v = .bool c/\((∀t∈out,∃k,k<4/\f k≠val t k)->c=false):=by
 obtain⟨c,h1,h2⟩:=Zcw ho hx hy hf h;exact⟨_,h1,c,rfl,h2⟩
end
instance (f:Nat->Int):Decidable (TubS f):=inferInstanceAs (Decidable (∀k,k<4->0<=f k/\f k<=6))
theorem Z7E:∀nd,nd<5->(recL nd).Nodup/\∀q∈recL nd,q.length=nd/\TubS (val q)/\0<gcE (val q)/\1<=q.sum/\q.sum<=6/\∀n∈q,0<=n/\n<=6:=by decide +kernel
theorem Zb5:∀nd,nd<5->(recL nd).length<=500:=by decide +kernel
end
section
open Go Go.RowKit
variable{μ:Nat}
section
variable{P:Program}{G:Fence}{r n:Nat}{Q:Exit->Act->World->Prop}{N:Nat}{D:List Deferred}{a:Act}{L L0:List (Nat×Value)}{w:World}{S:List Fc}
theorem iQ{x y:Code}(h:∀{K:Act->World->Prop},(∀{a w},y.wpIn G n P Q a w->K a w)->x.wpIn G n P (Exit.then K Q) a w): (Code.seq x y).wpIn G n P Q a w:=wpIn_seq_k λK hK=>h λ{a w}=>hK a w
theorem iG{l:List Oper}{id:Nat}(h:wpList P l.toArray Q l a w)(hd:l.all Z5j=true:=by rfl)(hQ:¬LetsOut Q:=by exact λh=>by obtain⟨_,_,h⟩:=h;exact h): (Code.region id l.toArray false).wpIn (Fence.wide.inRound r) n P Q a w:=Z5R hd hQ h
theorem iD{id:Nat}{l:List Oper}(X:List Nat)(stop:Option Nat)(B:Bk w S)(h:∀{W:World},Bk W (.e X w::S)->Zp P .any l.toArray Q (Ext X w) stop l.toArray.size (Array.replicate l.toArray.size false) a W)(hm:P.follows .mixedOrders=true:=by exact follows)(hd:l.all Z5j=true:=by rfl)(hQ:¬LetsOut Q:=by exact λh=>by obtain⟨_,_,h⟩:=h;exact h): (Code.region id l.toArray true).wpIn (Fence.wide.inRound r) n P Q a w:=Zep (Ext X w) stop hm hd hQ λW hh eh=>h ⟨eh.mono sU,B.ex eh⟩
theorem Has.IcT{x:Operand}{d: Code}(F:Has N D a L)(hx:opv L x=some (.bool true):=by rfl)(h:c.wpIn G n P Q a w): (Code.cond x c d).wpIn G n P Q a w:=wpIn_cond_true (F.op hx) h
theorem Has.Ici{k:Nat}{d: Code}{p:Prop}{_:Decidable p}(F:Has N D a L)(ht:p->c.wpIn G n P Q a w)(hf:¬p->d.wpIn G n P Q a w)(hx:L.lookup k=some (.bool (decide p)):=by rfl): (Code.cond (.tmp k) c d).wpIn G n P Q a w:=Zkt F hx ht hf
theorem Has.Icb{k:Nat}{d: Code}{b:Bool}(F:Has N D a L)(ht:b=true->c.wpIn G n P Q a w)(hf:b=false->d.wpIn G n P Q a w)(hx:L.lookup k=some (.bool b):=by rfl): (Code.cond (.tmp k) c d).wpIn G n P Q a w:=Zmg F hx ht hf
theorem lpIB(F:Has N D a L0)(B:Bk w S)(M:Nat)(J:Nat->List (Nat×Value)->List Fc->World->Prop)(h0:∃Lv Sv,Has N D a (Lv++L0)/\Bk w (Sv++S)/\J 0 Lv Sv w)(round:∀i {a w Lv Sv},i<=M->J i Lv Sv w->Has N D a (Lv++L0)->Bk w (Sv++S)->c.wpIn G n P (Exit.then (λa' w'=>i<M/\∃Lv' Sv',Has N D a' (Lv'++L0)/\Bk w' (Sv'++S)/\J (i+1) Lv' Sv' w') Q) a w): (Code.loop c).wpIn G n P Q a w:=by
 obtain⟨Lv,Sv,h3,h2,h1⟩:=h0;refine ZiX F M (λi Lv W=>∃Sv,J i Lv Sv W/\Bk W (Sv++S)) ⟨Lv,⟨Sv,h1,h2⟩,h3⟩ λi Lv a w hi h F=>?_;obtain⟨Sv,h4,h5⟩:=h;refine wpIn_mono (round i hi h4 F h5) λe a w h=>?_;cases e<;>first | exact h | exact⟨h.1,by obtain⟨-,Lv',Sv',h8,h7,h6⟩:=h;exact⟨Lv',⟨Sv',h6,h7⟩,h8⟩⟩
end
section
variable{w w' w2:World}{L:List Fc}{D:Nat}{o o':Obj}
inductive NeD(D:Nat):List Fc->Prop
 | n:NeD D []
 | q {n cs t L} (r:NeD D L):NeD D (.q n cs t::L)
 | e {X w0 L} (h:w0.heap.size<=D) (r:NeD D L):NeD D (.e X w0::L)
 | o {b e s v n xs L} (r:NeD D L):NeD D (.o b e s v n xs::L)
 | l {w0 b k nv L} (h:False) (r:NeD D L):NeD D (.l w0 b k nv::L)
 | f {b M L} (h:False) (r:NeD D L):NeD D (.f b M::L)
theorem Bk.pW(hw:w2=w.putObj D o')(hD:w.heap[D]?=some o)(hc:o.isCells=false):∀{L:List Fc},Bk w L->NeD D L->Bk w2 L
 | [],_,_=>trivial
 | .q .. :: L,B,.q r=>⟨ZdJ hw hD hc B.1,Bk.pW hw hD hc (L:=L) B.2 r⟩
 | .e .. :: L,B,.e h r=>⟨ZfG B.1 hw h,Bk.pW hw hD hc (L:=L) B.2 r⟩
 | .o .. :: L,B,.o r=>⟨Zgm hw hD hc B.1,Bk.pW hw hD hc (L:=L) B.2 r⟩
 | .l .. :: L,B,.l h r=>h.elim
 | .f .. :: L,B,.f h r=>h.elim
theorem Bk.dq{X:List Nat}(B:Bk w L)(i:Nat)(q:W.heap[D]?=some o)(h:nth L i=some (.e X W):=by rfl)(hX:D ∉ X:=by first | exact Ya | (simp only[Yc,Ya,or_false];omega)): w.heap[D]?=some o:=((B.e i h).block D (Y0.1 q).1 hX).trans q
theorem Bk.pw(B:Bk w L)(hw:w2=w.putObj D o')(hD:w.heap[D]?=some o)(hc:o.isCells=false:=by rfl)(hn:NeD D L:=by repeat (first | exact .n | refine .q ?_ | (refine .e oM ?_) | refine .o ?_)):Bk w2 L:=Bk.pW hw hD hc B hn
end
end
section
open Go.RowKit Go.Maps
variable{μ:Nat}
theorem Z9K(h:gcE f=1){k:Nat}(hk:k<4): lowF f (gcE f) 4 k=f k:=by
 rw[lowF,if_pos hk,h];simp
theorem Zmz(hf:TubS f)(hg:0<gcE f): TubS (lowF f (gcE f) 4):=by
 intro k hk;obtain⟨h0,h1⟩:=hf k hk;rw[lowF,if_pos hk];have h2:(1:Int)<=(gcE f:Int):=by omega
 refine⟨Int.ediv_nonneg h0 oM,Int.le_trans (Int.ediv_le_self _ h0) h1⟩
theorem ZaJ{f:Nat->Int}:∀{n:Nat},(∀k,k<n->f k<=0)->gcT f n=0
 | 0,_=>rfl
 | n+1,h=>by
  rw[gcT,ZaJ (n:=n) λk hk=>h k oM,show (f n).toNat=0 by have:=h n oM;omega,Nat.gcd_zero_right]
theorem Zl2(hf:TubS f)(hg:0<gcE f)(h:tubE (lowF f (gcE f) 4) f=true): gcE f=1:=by
 rw[Zbi]at h;by_cases hz:∀k,k<4->f k<=0
 ·rw[gcE,ZaJ hz]at hg;omega
 ·simp only[Classical.not_forall]at hz;obtain⟨k,hk,hp⟩:=hz;have h1:=h k hk;rw[lowF,if_pos hk]at h1;obtain⟨h0,-⟩:=hf k hk;by_cases h2:(gcE f:Int)>=2
  ·have h3:f k / (gcE f:Int)<f k:=Int.ediv_lt_of_lt_mul oM (by
    have:f k*2<=f k*(gcE f:Int):=Int.mul_le_mul_of_nonneg_left h2 h0;omega)
   omega
  ·omega
theorem Z7r(h:gcE f=1): (!tubE (lowF f (gcE f) 4) f)=false:=by rw[Zbi.2 λk hk=>Z9K h hk];rfl
theorem Zar{b:Bool}(h:(!b)=true): b=false:=by cases b;rfl;cases h
theorem Zaq{b:Bool}(h:(!b)=false): b=true:=by cases b;cases h;rfl
def cndE(x:Vm)(s:Nat->Int)(ls:List Int)(t:List Int):Bool:=decide (gcE (val t)=1)&&matE x (val t) s ls
def matL(x:Vm)(s:Nat->Int)(ls:List Int):List (List Int):=(recL x.D.length).filter (cndE x s ls)
theorem Z4l{x:Vm}{s:Nat->Int}{ls t:List Int}(h:gcE (val t)≠1): cndE x s ls t=false:=by rw[cndE,decide_eq_false h];rfl
theorem Z6V{x:Vm}{s:Nat->Int}{ls t:List Int}(h:matE x (val t) s ls=false): cndE x s ls t=false:=by rw[cndE,h,Bool.and_false]
theorem Z6W{x:Vm}{s:Nat->Int}{ls t:List Int}(h1:gcE (val t)=1)(h:matE x (val t) s ls=true): cndE x s ls t=true:=by rw[cndE,h,Bool.and_true];exact decide_eq_true h1
theorem ZlU{t q:List Int}(hl:t.length=q.length)(h4:t.length<=4)(h:t≠q): ∃k,k<4/\val q k≠val t k:=by
 apply Classical.byContradiction;intro hn;refine h (List.ext_getElem hl λk h1 h2=>?_);apply Classical.byContradiction;intro he;refine hn ⟨k,oM,λe=>he ?_⟩;simpa[val,h1,h2] using e.symm
structure MatI(x:Vm)(sv lv:Value)(w:World)(B n3 n4 n5 n7 n8 mb:Nat)(out:List (List Int))(va:Option Addr)(vc:Nat)(W:World):Prop where
 q3:W.heap[n3]?=some (.cells x.vc 85 (0,0))
 q4:W.heap[n4]?=some (.cells #[sv] 22 (0,0))
 q5:W.heap[n5]?=some (.cells #[lv] 22 (0,0))
 q7:W.heap[n7]?=some (.cells #[.slice va out.length vc] 93 (0,0))
 q8:W.heap[n8]?=some (.cells #[.map (some mb)] 157 (0,0))
 oo:W.ownsRow w.heap.size 88 4 (.slice va out.length vc) out.length (Z3j out)
 mp:MapT (μ:=μ) W mb out
 E:Ext [] w W
 sz:B<=W.heap.size
theorem MatI.kept{x:Vm}{sv lv:Value}{w:World}{n3 n4 n5 n7 n8 mb B:Nat}{out:List (List Int)}{va:Option Addr}{vc:Nat}{W V:World}{row:Option Nat}(h:MatI (μ:=μ) x sv lv w B n3 n4 n5 n7 n8 mb out va vc W)(hg:W.grownBy V row)(h1:∀r,row=some r->B<=r)
  (h2:∀r,row=some r->(Value.slice va out.length vc).ownBlock≠some r) (hB:n3<B/\n4<B/\n5<B/\n7<B/\n8<B/\mb<B/\w.heap.size<=B):MatI (μ:=μ) x sv lv w B n3 n4 n5 n7 n8 mb out va vc V:=by
 obtain⟨b3,b4,b5,b7,b8,bm,bw⟩:=hB;have hk:∀{k:Nat} {cs:Array Value} {T:TypeId} {fz:Nat×Nat},W.heap[k]?=some (.cells cs T fz)->k<B->V.heap[k]?=some (.cells cs T fz):=
  λ{k cs T fz} hq hb=>(hg.block k (Z8 hq) (λe=>by have:=h1 k e.symm;omega)).trans hq
 refine⟨hk h.q3 b3,hk h.q4 b4,hk h.q5 b5,hk h.q7 b7,hk h.q8 b8,h.oo.kept hg ?_,h.mp.kept hg (λe=>by have:=h1 mb e.symm;omega),Z0Q h.E hg λb e hl=>(by have:=h1 b e;omega),Yd h.sz hg.size⟩;cases hrow:row with
 | none =>
  cases hob:(Value.slice va out.length vc).ownBlock with
  | none=>exact .inl rfl
  | some g=>exact .inr sU
 | some r=>exact .inr (h2 r hrow)
theorem Z0a{x:Vm}{sv lv:Value}{w:World}{n3 n4 n5 n7 n8 mb B:Nat}{out:List (List Int)}{va:Option Addr}{vc:Nat}{p:List Int->Bool}{q:List Int}(hp:p q=false)(h:MatI (μ:=μ) x sv lv w B n3 n4 n5 n7 n8 mb out va vc W): ∃va vc,MatI (μ:=μ) x sv lv w B n3 n4 n5 n7 n8 mb (if p q then out++[q] else out) va vc W:=by
 rw[hp];exact⟨va,vc,h⟩
theorem Z4O{x:Vm}{sv lv:Value}{w:World}{n3 n4 n5 n7 n8 mb B:Nat}{out:List (List Int)}{va:Option Addr}{vc:Nat}{p:List Int->Bool}{q:List Int}(hp:p q=true)(h:MatI (μ:=μ) x sv lv w B n3 n4 n5 n7 n8 mb (out++[q]) va vc W): ∃va vc,MatI (μ:=μ) x sv lv w B n3 n4 n5 n7 n8 mb (if p q then out++[q] else out) va vc W:=by
 rw[hp];exact⟨va,vc,h⟩
theorem ZM{v:Value}{T:TypeId}{fz:Nat×Nat}(h:W.heap[ob]?=some (.cells #[v] T fz)): Z12 ob W=v.ownBlock:=by rw[Z12,h];rfl
theorem Zec(v:Value)(d:Nat):∃r,(∀b,v.ownBlock=some b->b=r)/\(v.ownBlock=some r\/r=d):=by
 cases h:v.ownBlock with
 | none=>exact⟨d,λb e=>(by cases e),.inr rfl⟩
 | some r=>exact⟨r,λb e=>(by cases e;rfl),.inl rfl⟩
theorem Z3H{w:World}{base n size:Nat}{e:TypeId}{v:Value}{xs:List Value}(h:w.ownsRow base e size v n xs){r:Nat}(hr:v.ownBlock=some r): ∃cs T fz,w.heap[r]?=some (.cells cs T fz):=by
 rcases h.2 with⟨rfl,_⟩ | ⟨g,cap,cur,rfl,_,hgb,_⟩
 ·cases hr
 ·obtain rfl:g=r:=by simpa[Value.ownBlock] using hr
  exact⟨_,_,_,hgb⟩
theorem Z4N{X:List Nat}{w w':World}{b:Nat}{out:List (List Int)}(h:MapT (μ:=μ) w b out)(e:Ext X w w')(hb:b ∉ X): MapT (μ:=μ) w' b out:=by
 obtain⟨D,⟨es,clock,hm,h3,h4,h5⟩,h2⟩:=h;exact⟨D,⟨es,clock,(e.block b (Z8 hm) hb).trans hm,h3,h4,h5⟩,h2⟩
theorem Z38(p:α->Bool)(l:List α)(x:α): (l++[x]).filter p=if p x then l.filter p++[x] else l.filter p:=by
 rw[List.filter_append];by_cases h:p x=true
 ·simp[h]
 ·simp[h]
theorem Zcf(out:List (List Int))(t:List Int):Z3j out++tubR (val t)=Z3j (out++[t]):=by simp[Z3j]
theorem Z9Q(x:Vm)(hv:VOk x)(s:List Int)(hs:Z1s x s)(ls:List Int)(hl:Zcn x ls)(hll:ls.length<=1000)(sa la:Option Addr)(sc lc:Nat)(w:World)(h:x.At w)(hr:Z6 w (.slice sa s.length sc) 1 (s.map Z4))(hq:Z6 w (.slice la ls.length lc) 1 (ls.map Z4)):
  Calls (Qy.prog μ) 107 #[.agg x.vc,.slice sa s.length sc,.slice la ls.length lc] w λe w'=>∃a c,e = .returned (.slice a (matL x (val s) ls).length c)/\w'.ownsRow w.heap.size 88 4 (.slice a (matL x (val s) ls).length c) (matL x (val s) ls).length (Z3j (matL x (val s) ls))/\Ext [] w w':=by
 have E:=Ext.refl [] w;have HX:=Lib.hid h;have HV:=Lib.hid hv;have HS:=Lib.hid hs;have HR:=Lib.hid hr;have HQ:=Lib.hid hq;have HL:=Lib.hid hl;have hd4:=hv.d4;obtain⟨hnd,hrl⟩:=Z7E x.D.length oM;have HND:=Lib.hid hnd;have HRL:=Lib.hid hrl;clear h hv hs hr hq hl hnd hrl;have G:=(Bk.nil w).ce E;refine(entM 40 Tryz.f107 rfl) λF=>wR λk1=>(F.bx G) @λn3 w1 _ yy F G=>(F.bx G) @λn4 w2 _ yy F G=>(F.bx G) @λn5 w3 _ yy F G=>(F.m) λF=>k1<|wR λk2=>(F.al G Qy.zeroValue93) @λn7 w4 _ yy F G=>k2<|wQ λk3=>Yg ?_
 refine sqN F (Zcy rfl) ?_ (hw:=F.want rfl);clear F;rintro _ w5 F hw;obtain⟨n11,hn⟩:=eQ w4.heap.size;rw[<-hn]at F;have s11:=G.lt hn;have map11:MapT (μ:=μ) w5 n11 []:=by rw[hw,hn];exact Zg4 _
 replace G:=G.al hw;clear hw hn;replace G:=G.hr [];refine(F.al G Qy.zeroValue157) @λn8 w6 _ yy F G=>(F.st G 0) λG=>k3<|wQ λk4=>wR λk5=>(F.y (F.lb (G.q 5))) λF=>?_
 have b7':=Z8 (G.q 2);refine(F.k (Z5m x _)) ?_;rintro _ w8 ⟨nb,rfl,hnb,qb,e9⟩;refine kG G e9 λF G=>k5<|Yh ?_
 have q8:=G.q 0;have EM:=G.e 1;have q7:=G.q 2;have q5:=G.q 3;have q4:=G.q 4;have q3:=G.q 5;have E:=G.e 6;clear G;replace map11:=Z03 map11 EM;clear EM;obtain⟨w3,hw3⟩:∃w3,w3=w8:=⟨_,rfl⟩;have b3:=Z8 q3;have b4:=Z8 q4;have b5:=Z8 q5;have b7:=Z8 q7;have b8:=Z8 q8;have bb:=Z8 qb;have bw:=E.size;have bm:n11<w8.heap.size:=(by obtain⟨es,ck,hm⟩:=map11.obj;exact Z8 hm);have hr0:Z12 n7 w8=none:=ZM q7;have hseq:=Z4p (μ:=μ) x hd4 [] n7 nb w8 b7 sU (λr e=>by rw[hr0]at e;cases e) ⟨sU,oM,by rw[hr0];simp⟩ qb;have hI0:∃va vc,MatI (μ:=μ) x (.slice sa s.length sc) (.slice la ls.length lc) w w8.heap.size n3 n4 n5 n7 n8 n11 (([]:List (List Int)).filter (cndE x (val s) ls)) va vc w8:=⟨none,0,q3,q4,q5,q7,q8,World.ownsRow_nil _ _ _ _,map11,E,Ye _⟩;replace F:=F.b [3,4,5,7,8,13];refine Zem (F.at rfl) Qy.call126 hseq (λ_=>rfl) b7 (λpre W=>∃va vc,MatI (μ:=μ) x (.slice sa s.length sc) (.slice la ls.length lc) w w8.heap.size n3 n4 n5 n7 n8 n11 (pre.filter (cndE x (val s) ls)) va vc W) ?h1 ?ho ?hc hI0 (λpre q a' W=>∃nt va vc,Has 40 [] a' [(3,.pointer (some ⟨n3,0,none⟩)),(4,.pointer (some ⟨n4,0,none⟩)),(5,.pointer (some ⟨n5,0,none⟩)),(7,.pointer (some ⟨n7,0,none⟩)),(8,.pointer (some ⟨n8,0,none⟩)),(9,.pointer (some ⟨nt,0,none⟩))]/\MatI (μ:=μ) x (.slice sa s.length sc) (.slice la ls.length lc) w w8.heap.size n3 n4 n5 n7 n8 n11 (pre.filter (cndE x (val s) ls)) va vc W/\W.heap[nt]?=some (.cells (tubC (val q)) 88 (0,0))/\w8.heap.size<=nt/\some nt≠(Value.slice va (pre.filter (cndE x (val s) ls)).length vc).ownBlock) ?hax ?assign ?body ?done
 case h1=>rintro pre U V ⟨va,vc,hI⟩ hg;exact⟨va,vc,hI.kept hg (λr e=>by cases e) (λr e=>by cases e) ⟨b3,b4,b5,b7,b8,bm,bw⟩⟩
 case ho=>rintro pre U V r ⟨va,vc,hI⟩ hr ⟨o,ho,hc⟩ hg;refine⟨va,vc,hI.kept hg (λr' e=>by cases e;exact hr) (λr' e e2=>?_) ⟨b3,b4,b5,b7,b8,bm,bw⟩⟩;cases e;obtain⟨cs,T,fz,hx⟩:=Z3H hI.oo e2;rw[ho]at hx;cases hx;cases hc
 case hc=>rintro pre U V r ⟨va,vc,hI⟩ hr hsf-hg;exact⟨va,vc,hI.kept hg (λr' e=>by cases e;exact hr) (λr' e e2=>by cases e;exact hsf.2.2 (by rw[ZM hI.q7];exact e2)) ⟨b3,b4,b5,b7,b8,bm,bw⟩⟩
 case hax=>rintro pre q a' U V r ⟨nt,va,vc,hF,hI,ht,hn,hno⟩ hr ⟨o,ho,hc⟩ hg;refine⟨nt,va,vc,hF,hI.kept hg (λr' e=>by cases e;exact hr) (λr' e e2=>?_) ⟨b3,b4,b5,b7,b8,bm,bw⟩,(hg.block nt (Z8 ht) (λe=>?_)).trans ht,hn,hno⟩<;>cases e;(· obtain⟨cs,T,fz,hx⟩:=Z3H hI.oo e2;rw[ho]at hx;cases hx;cases hc);(· rw[ho]at ht;cases ht;cases hc)
 case assign =>
  clear map11 q3 q4 q5 q7 q8 qb E hI0;rintro l pre q W K ⟨va,vc,⟨q3,q4,q5,q7,q8,oo,mapm,E,hsz⟩⟩ hK;have hbo:=Z8 q7;refine Zbl (F.param (p:=14) dC (.agg (tubC (val q)))) ?_;clear F;intro fa F;have ER:Ext [] W W:=Ext.refl _ _;have G:=((((((Bk.nil W).ce E).cq q3).cq q4).cq q5).cq q7).cq q8;replace G:=(G.ce ER).co oo;refine iG<|(F.al G Qy.zeroValue88) @λn9 w9 _ yy F G=>(F.sr G 0) λG=>?_
  have oo:=G.o 1;exact hK _ _ (Z0j (G.e 2) sU) (Z67 (G.e 2) hbo) ⟨n9,va,vc,F.sub (.c 3 rfl (.c 4 rfl (.c 5 rfl (.c 7 rfl (.c 8 rfl (.c 9 rfl .n)))))),⟨(G.q 7),(G.q 6),(G.q 5),(G.q 4),(G.q 3),oo,Z03 mapm (G.e 2),(G.e 8),Yd hsz (G.e 2).size⟩,(G.q 0),oM,yy.own 0 rfl⟩
 case body =>
  clear map11 q3 q4 q5 q7 q8 qb E hI0 F;rintro l pre q fa W ⟨nt,va,vc,F,⟨q3,q4,q5,q7,q8,oo,mapm,E,hsz⟩,q9,hnt,hno⟩ hpx;have hqm:q∈recL x.D.length:=hpx.subset sU;obtain⟨hql,hqs,hqg,hq1,hq6,hqb⟩:=HRL.out q hqm;have hqn:q ∉ pre:=λhm=>(by have hn:=hpx.sublist.nodup HND.out;rw[List.nodup_append]at hn;exact hn.2.2 q hm q sU rfl);have hplen:pre.length<=500:=(by have h1:=hpx.length_le;have h2:=Zb5 x.D.length oM;rw[Ym]at h1;omega);have hsn:=Z38 (cndE x (val s) ls) pre q;have hfr:gcE (val q)=1->∀t∈pre.filter (cndE x (val s) ls),∃k,k<4/\lowF (val q) (gcE (val q)) 4 k≠val t k:=λhg t ht=>(by have htp:=(List.mem_filter.1 ht).1;have htl:=(HRL.out t (hpx.subset (by simp[htp]))).1;obtain⟨k,hk,hne⟩:=ZlU (t:=t) (q:=q) oM oM (λe=>hqn (by rw[<-e];exact htp));exact⟨k,hk,by rw[Z9K hg hk];exact hne⟩);have hol:(pre.filter (cndE x (val s) ls)).length<1000:=(by have:=List.length_filter_le (cndE x (val s) ls) pre;omega);obtain⟨out,hout⟩:∃out,out=pre.filter (cndE x (val s) ls):=⟨_,rfl⟩;rw[<-hout]at q7 oo mapm hsn hfr hol hno;have o9_oo:=Lib.hid hno;obtain⟨r,hrr,hrd⟩:=Zec (.slice va out.length vc) n7;have hro:Z12 n7 W=(Value.slice va out.length vc).ownBlock:=ZM q7;have hrc:∀b∈[n11,n7,r],b<w3.heap.size\/∃cs T fz,W.heap[b]?=some (.cells cs T fz):=(by intro b hb;simp only[Yc,Ya,or_false]at hb;rcases hb with rfl | rfl | rfl;(· exact .inl (by rw[hw3];exact bm));(· exact .inl (by rw[hw3];exact b7));(· rcases hrd with h | h;(· exact .inr (Z3H oo h));(· rw[h];exact .inl (by rw[hw3];exact b7))));have hkx:∀k cs T fz,W.heap[k]?=some (.cells cs T fz)->Safe [] n7 k W->k ∉ [n11,n7,r]:=(by intro k cs T fz hk hsf hm;simp only[Yc,Ya,or_false]at hm;rcases hm with rfl | rfl | rfl;(· exact mapm.ne hk (λ_ _ h=>by cases h) rfl);(· exact hsf.2.1 rfl);(· rcases hrd with h | h;(· exact hsf.2.2 (by rw[hro];exact h));(· exact hsf.2.1 h)));have hnr:n11 ∉ [n7,r]:=(by intro hm;simp only[Yc,Ya,or_false]at hm;rcases hm with h | h;(· exact mapm.ne q7 (λ_ _ h=>by cases h) h);(· rcases hrd with k | k;(· obtain⟨cs,T,fz,hx⟩:=Z3H oo k;exact mapm.ne hx (λ_ _ h=>by cases h) h);(· exact mapm.ne q7 (λ_ _ h=>by cases h) (h.trans k))));have ER:Ext [n11,n7,r] W W:=Ext.refl _ _;have EM:Ext [] W W:=Ext.refl _ _;have G:=((((((Bk.nil W).ce E).cq q3).cq q4).cq q5).cq q7).cq q8;replace G:=(((G.ce ER).ce EM).cq q9).co oo;refine wpIn_block<|iQ λk6=>iG<|(F.y (F.lb (G.q 1))) λF=>(F.k0 G (ZdW (val q) hqs hqg _)) λF G=>(F.al G Qy.zeroValue88) λyy F G=>(F.sr G 0) @λw13 G=>k6<|iQ λk7=>iQ λk8=>iG<|(F.y (F.lc (G.q 5))) λF=>(F.y (F.lb (G.q 0))) λF=>?_
  refine ZlA F rfl dC (F.want rfl) (Zcv rfl (F.at rfl) (F.at rfl) (Zmz hqs hqg) (Z03 mapm (G.e 3))) ?_;clear F;rintro _ v' F ⟨c19,rfl,hc19⟩;refine(F.m) λF=>?_;cases hg1:c19
  ·replace F:=F.re (k:=20) rfl (congrArg Value.bool hg1);refine(F.y (F.lb (G.q 0))) λF=>(F.y (F.lb (G.q 2))) λF=>?_;refine(F.y ((Zfh rfl (F.at rfl) (F.at rfl)))) λF=>(F.y F.pF) λF=>(F.m) λF=>?_;cases hg2:(!tubE (lowF (val q) (gcE (val q)) 4) (val q))
   ·replace F:=F.re (k:=25) rfl (congrArg Value.bool hg2);refine(F.y (F.lb (G.q 9))) λF=>(F.y (F.lb (G.q 2))) λF=>(F.y (F.lc (G.q 8))) λF=>(F.y (F.lc (G.q 7))) λF=>(F.k0 G (Z7u x HV.out (val q) hqs s HS.out ls HL.out hll sa la sc lc _ (HX.out.ext (G.e 10)) (HR.out.ext (G.e 10) sU) (HQ.out.ext (G.e 10) sU))) @λw14 _ F G=>(F.y F.nb) λF=>(F.y F.pF) λF=>k8<|F.Icb (λhc32=>?_) (λhc32=>?_)
    ·refine wpIn_exit ?_
     (try simp only[Exit.inBlock,reduceIte])
     show KeepsFrom _ _ _/\KeepR _ _ _ _/\_;rw[<-hw3];refine⟨Z0j (G.e 4) hrc,Z0A (G.e 4) hkx ?_,?_⟩
     ·first | exact .inl ((ZM (G.q 6)).trans hro.symm) | (rcases hblk with hbk | hbk;(· exact .inl ((ZM (G.q 6)).trans (hbk.trans hro.symm)));(· exact .inr λr' e=>by rw[ZM (G.q 6),hbk]at e;cases e;exact hERs))
     ·have hsw:w3.heap.size<=w14.heap.size:=(by rw[hw3];exact Yd hsz (G.e 4).size)
      show ∃va vc,MatI _ _ _ _ _ _ _ _ _ _ _ (List.filter (cndE x (val s) ls) (pre++[q])) va vc _;rw[hsn];have oo:=G.o 1
      first | exact Z0a (Z4l (λhg=>Bool.noConfusion ((hc19 (hfr hg)).symm.trans hg1))) ⟨(G.q 9),(G.q 8),(G.q 7),(G.q 6),(G.q 5),oo,Z03 mapm (G.e 3),(G.e 10),hsw⟩ | exact Z0a (Z4l (λhg=>Bool.noConfusion ((Z7r hg).symm.trans hg2))) ⟨(G.q 9),(G.q 8),(G.q 7),(G.q 6),(G.q 5),oo,Z03 mapm (G.e 3),(G.e 10),hsw⟩ | exact Z0a (Z6V (Zar hc32)) ⟨(G.q 9),(G.q 8),(G.q 7),(G.q 6),(G.q 5),oo,Z03 mapm (G.e 3),(G.e 10),hsw⟩ | exact Z4O (Z6W hgc (Zaq hc32)) ⟨(G.q 9),(G.q 8),(G.q 7),(G.q 6),(G.q 5),oo,Z4N mapm EN hnr,(G.e 10),hsw⟩
    ·refine wpIn_skip<|k7<|iQ λk9=>iG<|(F.y (F.lc (G.q 5))) λF=>(F.y (F.lb (G.q 0))) λF=>?_
     replace mapm:=Z03 mapm (G.e 3);have hgc:=Zl2 hqs hqg (by simpa using hg2);have htc:tubC (lowF (val q) (gcE (val q)) 4)=tubC (val q):=Z3Z λk hk=>Z9K hgc hk;refine ZlB rfl (F.want rfl) (Zcz (t:=q) rfl (F.at rfl) ((F.at rfl).trans (congrArg Value.agg htc)) (ev_c _ _) hqs hol mapm) ?_;rintro w15 ⟨hM',hg⟩;have q10:=G.q 0;have oo:=G.o 1;have q9:=G.q 2;have ER:=G.e 4;have q8:=G.q 5;have q7:=G.q 6;have q5:=G.q 7;have q4:=G.q 8;have q3:=G.q 9;have E:=G.e 10;clear G;replace E:=ZaD E hg (λh=>by first | omega | simp);replace q3:=Z1T mapm hg q3;replace q4:=Z1T mapm hg q4;replace q5:=Z1T mapm hg q5;replace q7:=Z1T mapm hg q7;replace q8:=Z1T mapm hg q8;replace ER:=ZaD ER hg (λh=>by first | omega | simp);replace q9:=Z1T mapm hg q9;replace oo:=Zgl mapm hg oo;replace q10:=Z1T mapm hg q10;replace mapm:=hM';clear hg;have G:=((((((((((Bk.nil w15).ce E).cq q3).cq q4).cq q5).cq q7).cq q8).ce ER).cq q9).co oo).cq q10;clear q10 oo q9 ER q8 q7 q5 q4 q3 E;replace G:=G.hr [n7,r];refine k9<|iG<|(F.y (F.lc (G.q 6))) λF=>(F.y (F.lb (G.q 3))) λF=>(F.bs G 4 #[.int .i64 (val q 0),.int .i64 (val q 1),.int .i64 (val q 2),.int .i64 (val q 3)] Qy.zeroValue88) λyy F G=>?_
     have hEs:=(G.e 11).size;have hERs:=(G.e 5).size;refine Zx F rfl dC (F.want rfl) (Z9k rfl w.heap.size (e:=88) (size:=4) (bytes:=32) Qy.underlying93 kR dC (F.at rfl) (G.o 3) (F.at rfl) (G.q 0) rfl (by simp[Value.oneCell']) oM oM oM) ?_;clear F;rintro _ v' w17 F ⟨hown',⟨hg,hblk⟩⟩;obtain⟨va38,vc38,rfl⟩:=Zm hown';have ER:=G.e 5;have EN:=G.e 1;replace G:=(G.d 5).d 1;replace ER:=Z0Q ER hg (λb hb hl=>by rw[hrr b hb];simp);replace EN:=Z0Q EN hg (λb hb hl=>by rw[hrr b hb];simp);replace G:=(((G.d 0).gr 1 hg hown').ce ER).ce EN;clear hg hown';have oo:=G.o 3;rw[show Z3j out++[.int .i64 (val q 0),.int .i64 (val q 1),.int .i64 (val q 2),.int .i64 (val q 3)]=Z3j (out++[q]) from Zcf out q,show out.length+1=(out++[q]).length by simp]at oo;rw[show out.length+1=(out++[q]).length by simp]at F hblk;replace G:=G.rO 3 oo;clear oo;refine(F.st G 6) @λw18 G=>?_
     (try simp only[Exit.inBlock,reduceIte])
     show KeepsFrom _ _ _/\KeepR _ _ _ _/\_;rw[<-hw3];refine⟨Z0j (G.e 1) hrc,Z0A (G.e 1) hkx ?_,?_⟩
     ·first | exact .inl ((ZM (G.q 6)).trans hro.symm) | (rcases hblk with hbk | hbk;(· exact .inl ((ZM (G.q 6)).trans (hbk.trans hro.symm)));(· exact .inr λr' e=>by rw[ZM (G.q 6),hbk]at e;cases e;exact hERs))
     ·have hsw:w3.heap.size<=w18.heap.size:=(by rw[hw3];exact Yd hsz (G.e 1).size)
      show ∃va vc,MatI _ _ _ _ _ _ _ _ _ _ _ (List.filter (cndE x (val s) ls) (pre++[q])) va vc _;rw[hsn];have oo:=G.o 3
      first | exact Z0a (Z4l (λhg=>Bool.noConfusion ((hc19 (hfr hg)).symm.trans hg1))) ⟨(G.q 9),(G.q 8),(G.q 7),(G.q 6),(G.q 5),oo,Z03 mapm EM,(G.e 10),hsw⟩ | exact Z0a (Z4l (λhg=>Bool.noConfusion ((Z7r hg).symm.trans hg2))) ⟨(G.q 9),(G.q 8),(G.q 7),(G.q 6),(G.q 5),oo,Z03 mapm EM,(G.e 10),hsw⟩ | exact Z0a (Z6V (Zar hc32)) ⟨(G.q 9),(G.q 8),(G.q 7),(G.q 6),(G.q 5),oo,Z03 mapm EM,(G.e 10),hsw⟩ | exact Z4O (Z6W hgc (Zaq hc32)) ⟨(G.q 9),(G.q 8),(G.q 7),(G.q 6),(G.q 5),oo,Z4N mapm (G.e 0) hnr,(G.e 10),hsw⟩
   ·replace F:=F.re (k:=25) rfl (congrArg Value.bool hg2);refine(F.n) λF=>(F.n) λF=>(F.n) λF=>(F.n) λF=>(F.n) λF=>(F.n) λF=>(F.y F.pT) λF=>k8<|(F.IcT)<|wpIn_exit ?_
    (try simp only[Exit.inBlock,reduceIte])
    show KeepsFrom _ _ _/\KeepR _ _ _ _/\_;rw[<-hw3];refine⟨Z0j (G.e 4) hrc,Z0A (G.e 4) hkx ?_,?_⟩
    ·first | exact .inl ((ZM (G.q 6)).trans hro.symm) | (rcases hblk with hbk | hbk;(· exact .inl ((ZM (G.q 6)).trans (hbk.trans hro.symm)));(· exact .inr λr' e=>by rw[ZM (G.q 6),hbk]at e;cases e;exact hERs))
    ·have hsw:w3.heap.size<=w13.heap.size:=(by rw[hw3];exact Yd hsz (G.e 4).size)
     show ∃va vc,MatI _ _ _ _ _ _ _ _ _ _ _ (List.filter (cndE x (val s) ls) (pre++[q])) va vc _;rw[hsn];have oo:=G.o 1
     first | exact Z0a (Z4l (λhg=>Bool.noConfusion ((hc19 (hfr hg)).symm.trans hg1))) ⟨(G.q 9),(G.q 8),(G.q 7),(G.q 6),(G.q 5),oo,Z03 mapm (G.e 3),(G.e 10),hsw⟩ | exact Z0a (Z4l (λhg=>Bool.noConfusion ((Z7r hg).symm.trans hg2))) ⟨(G.q 9),(G.q 8),(G.q 7),(G.q 6),(G.q 5),oo,Z03 mapm (G.e 3),(G.e 10),hsw⟩ | exact Z0a (Z6V (Zar hc32)) ⟨(G.q 9),(G.q 8),(G.q 7),(G.q 6),(G.q 5),oo,Z03 mapm (G.e 3),(G.e 10),hsw⟩ | exact Z4O (Z6W hgc (Zaq hc32)) ⟨(G.q 9),(G.q 8),(G.q 7),(G.q 6),(G.q 5),oo,Z4N mapm EN hnr,(G.e 10),hsw⟩
  ·replace F:=F.re (k:=20) rfl (congrArg Value.bool hg1);refine(F.n) λF=>(F.n) λF=>(F.n) λF=>(F.y F.pT) λF=>(F.m) λF=>(F.n) λF=>(F.n) λF=>(F.n) λF=>(F.n) λF=>(F.n) λF=>(F.n) λF=>(F.y F.pT) λF=>k8<|(F.IcT)<|wpIn_exit ?_
   (try simp only[Exit.inBlock,reduceIte])
   show KeepsFrom _ _ _/\KeepR _ _ _ _/\_;rw[<-hw3];refine⟨Z0j (G.e 4) hrc,Z0A (G.e 4) hkx ?_,?_⟩
   ·first | exact .inl ((ZM (G.q 6)).trans hro.symm) | (rcases hblk with hbk | hbk;(· exact .inl ((ZM (G.q 6)).trans (hbk.trans hro.symm)));(· exact .inr λr' e=>by rw[ZM (G.q 6),hbk]at e;cases e;exact hERs))
   ·have hsw:w3.heap.size<=w13.heap.size:=(by rw[hw3];exact Yd hsz (G.e 4).size)
    show ∃va vc,MatI _ _ _ _ _ _ _ _ _ _ _ (List.filter (cndE x (val s) ls) (pre++[q])) va vc _;rw[hsn];have oo:=G.o 1
    first | exact Z0a (Z4l (λhg=>Bool.noConfusion ((hc19 (hfr hg)).symm.trans hg1))) ⟨(G.q 9),(G.q 8),(G.q 7),(G.q 6),(G.q 5),oo,Z03 mapm (G.e 3),(G.e 10),hsw⟩ | exact Z0a (Z4l (λhg=>Bool.noConfusion ((Z7r hg).symm.trans hg2))) ⟨(G.q 9),(G.q 8),(G.q 7),(G.q 6),(G.q 5),oo,Z03 mapm (G.e 3),(G.e 10),hsw⟩ | exact Z0a (Z6V (Zar hc32)) ⟨(G.q 9),(G.q 8),(G.q 7),(G.q 6),(G.q 5),oo,Z03 mapm (G.e 3),(G.e 10),hsw⟩ | exact Z4O (Z6W hgc (Zaq hc32)) ⟨(G.q 9),(G.q 8),(G.q 7),(G.q 6),(G.q 5),oo,Z4N mapm EN hnr,(G.e 10),hsw⟩
 case done =>
  clear map11 q3 q4 q5 q7 q8 qb E hI0;rintro D W hD ⟨va,vc,⟨q3,q4,q5,q7,q8,oo,mapm,E,hsz⟩⟩ qD;obtain⟨out,hout⟩:∃out,out=matL x (val s) ls:=⟨_,rfl⟩;rw[show (recL x.D.length).filter (cndE x (val s) ls)=out from hout.symm]at q7 oo mapm;have G:=((((((Bk.nil W).ce E).cq q3).cq q4).cq q5).cq q7).cq q8;replace G:=(G.co oo).hr [];replace F:=F.mark (d:={target:=.collected D,args:=#[]});refine k4<|wR λk10=>(F.y (F.lc (G.q 3))) λF=>(F.m) λF=>k10<|wp_ret ?_
  (try simp only[Exit.inBlock,Exit.then,reduceIte])
  refine Z4c F<|Z9L (G.dq 0 qD) λ_ hw=>?_
  replace G:=(G.d 0).pw hw (G.dq 0 qD);refine Z00 (rs_1 F rfl rfl) ?_;subst hout;have oo:=G.o 0;exact⟨va,vc,rfl,oo,(G.e 6)⟩
end
section
open Go.RowKit
variable{μ:Nat}
theorem ZaL(n:Int)(w:World):Calls (Qy.prog μ) 124 #[.int .i64 n] w λe w'=>e = .returned (.bool false)/\Ext [] w w':=by
 have E:=Ext.refl [] w;have G:=(Bk.nil w).ce E;refine(ent 6 Tryz.f124 rfl) λF=>wR λk1=>(F.m) λF=>k1<|wR λk2=>(F.m) λF=>(F.m) λF=>(F.y (F.neF (h:=rfl))) λF=>(F.m) λF=>k2<|(F.r1) ?_
 exact⟨rfl,(G.e 0)⟩
def cmpE(a b:Int):Int:=if a<b then -1 else if b<a then 1 else 0
theorem ZcX(a b:Int)(w:World):Calls (Qy.prog μ) 101 #[.int .i64 a,.int .i64 b] w λe w'=>e = .returned (.int .i64 (cmpE a b))/\Ext [] w w':=by
 have E:=Ext.refl [] w;have G:=(Bk.nil w).ce E;refine(ent 20 Tryz.f101 rfl) λF=>wR λk1=>(F.m) λF=>k1<|wR λk2=>(F.m) λF=>(F.k0 G (ZaL a _)) λF G=>(F.m) λF=>k2<|wR λk3=>(F.m) λF=>(F.k0 G (ZaL b _)) λF G=>(F.m) λF=>k3<|wQ λk4=>wR λk5=>(F.m) λF=>k5<|(F.cF)<|Yi<|k4<|wQ λk6=>wR λk7=>(F.m) λF=>k7<|(F.cF)<|Yi<|k6<|wQ λk8=>wQ λk9=>Yg ?_
 refine(F.m) λF=>(F.m) λF=>(F.y F.ls) λF=>k9<|F.ci (λhc16=>?_) (λhc16=>?_)
 ·refine wR λk10=>(F.m) λF=>k10<|(F.r1) ?_
  first | exact⟨Z9 (by rw[cmpE,if_pos oM]),(G.e 0)⟩ | exact⟨Z9 (by rw[cmpE,if_neg oM,if_pos oM]),(G.e 0)⟩ | exact⟨Z9 (by rw[cmpE,if_neg oM,if_neg oM]),(G.e 0)⟩
 ·refine Yi<|k8<|wQ λk11=>wR λk12=>(F.m) λF=>(F.m) λF=>(F.y F.gt) λF=>k12<|F.ci (λhc19=>?_) (λhc19=>?_)
  ·refine wR λk13=>(F.m) λF=>k13<|(F.r1) ?_
   first | exact⟨Z9 (by rw[cmpE,if_pos oM]),(G.e 0)⟩ | exact⟨Z9 (by rw[cmpE,if_neg oM,if_pos oM]),(G.e 0)⟩ | exact⟨Z9 (by rw[cmpE,if_neg oM,if_neg oM]),(G.e 0)⟩
  ·refine Yi<|k11<|wR λk14=>(F.m) λF=>k14<|(F.r1) ?_
   first | exact⟨Z9 (by rw[cmpE,if_pos oM]),(G.e 0)⟩ | exact⟨Z9 (by rw[cmpE,if_neg oM,if_pos oM]),(G.e 0)⟩ | exact⟨Z9 (by rw[cmpE,if_neg oM,if_neg oM]),(G.e 0)⟩
def cmpL:List Int->List Int->Int
 | [],[]=>0
 | [],_::_=>-1
 | _::_,[]=>1
 | x::xs,y::ys=>if cmpE x y=0 then cmpL xs ys else cmpE x y
theorem Zir{xs ys:List Int}{i:Nat}(hx:i<xs.length)(hy:i<ys.length)(h:cmpE (xs.getD i 0) (ys.getD i 0)=0): cmpL (xs.drop i) (ys.drop i)=cmpL (xs.drop (i+1)) (ys.drop (i+1)):=by
 rw[ZP xs 0 hx,ZP ys 0 hy,cmpL,if_pos h]
theorem Zfp{xs ys:List Int}{i:Nat}(hx:i<xs.length)(hy:i<ys.length)(h:cmpE (xs.getD i 0) (ys.getD i 0)≠0): cmpL (xs.drop i) (ys.drop i)=cmpE (xs.getD i 0) (ys.getD i 0):=by
 rw[ZP xs 0 hx,ZP ys 0 hy,cmpL,if_neg h]
theorem ZcV{xs ys:List Int}{i:Nat}(hx:i<xs.length)(hy:ys.length<=i): cmpL (xs.drop i) (ys.drop i)=1:=by
 rw[ZP xs 0 hx,List.drop_of_length_le hy];rfl
theorem Zbz{xs ys:List Int}{i:Nat}(hx:xs.length<=i)(hy:i<ys.length): cmpL (xs.drop i) (ys.drop i) = -1:=by
 rw[ZP ys 0 hy,List.drop_of_length_le hx];rfl
theorem ZcW{xs ys:List Int}{i:Nat}(hx:xs.length<=i)(hy:ys.length<=i): cmpL (xs.drop i) (ys.drop i)=0:=by
 rw[List.drop_of_length_le hy,List.drop_of_length_le hx];rfl
theorem Z34(xs ys:List Int)(a b:Option Addr)(c d:Nat)(w:World)(hx:Z6 w (.slice a xs.length c) 1 (xs.map Z4))(hy:Z6 w (.slice b ys.length d) 1 (ys.map Z4))(h1:xs.length<=1000)(h2:ys.length<=1000):
  Calls (Qy.prog μ) 76 #[.slice a xs.length c,.slice b ys.length d] w λe w'=>e = .returned (.int .i64 (cmpL xs ys))/\Ext [] w w':=by
 have HS:=Lib.hid (Z7 hx 0);have HU:=Lib.hid (Z7 hy 0);have E:=Ext.refl [] w;clear hx hy;have G:=(Bk.nil w).ce E;refine(ent 36 Tryz.f76 rfl) λF=>wR λk1=>(F.m) λF=>k1<|wQ λk2=>wR λk3=>(F.m) λF=>(F.y F.ln) λF=>(F.m) λF=>k3<|Yh<|lpB (F.b [0,1,9,10]) G xs.length (λi Lv Sv W=>Lv=[(11,.int .i64 ((i:Nat):Int))]/\Sv=[]/\cmpL (xs.drop i) (ys.drop i)=cmpL xs ys/\i<=ys.length) ⟨_,_,F.u,G.u,rfl,rfl,rfl,(Nat.zero_le _)⟩ ?_
 clear F G;rintro i _ w1 _ _ hi1 ⟨rfl,rfl,hc,hiy⟩ F G;replace G:=G.z;refine wR λk4=>(F.y F.ls) λF=>k4<|wQ λk5=>F.ci (λhc12=>?_) (λhc12=>?_)
 ·refine Yi<|k5<|wQ λk6=>Yh<|wR λk7=>(F.m) λF=>(F.ix HS.out i) λxr8 F=>(F.y (F.l1 (xr8 _ (G.e 0)) 0)) λF=>(F.m) λF=>(F.m) λF=>k7<|wQ λk9=>wR λk10=>(F.m) λF=>(F.m) λF=>(F.y F.ln) λF=>(F.y F.ge) λF=>k10<|F.ci (λhc19=>?_) (λhc19=>?_)
  ·refine wR λk11=>(F.m) λF=>k11<|(F.r1) ?_
   exact⟨Z9 (by rw[<-hc,ZcV oM oM]),(G.e 0)⟩
  ·refine Yi<|k9<|wR λk12=>(F.m) λF=>(F.m) λF=>(F.ix HU.out i) λxr13 F=>(F.y (F.l1 (xr13 _ (G.e 0)) 0)) λF=>(F.m) λF=>k12<|wR λk14=>(F.m) λF=>(F.m) λF=>(F.k0 G (ZcX (xs.getD i 0) (ys.getD i 0) _)) λF G=>(F.m) λF=>k14<|wR λk15=>(F.m) λF=>(F.y F.ne) λF=>k15<|F.ci (λhc28=>?_) (λhc28=>?_)
   ·refine wR λk16=>(F.m) λF=>(F.m) λF=>k16<|(F.r1) ?_
    exact⟨Z9 (by rw[<-hc,Zfp oM oM hc28]),(G.e 0)⟩
   ·have hc28:cmpE (xs.getD i 0) (ys.getD i 0)=0:=by omega
    refine Yi<|k6<|Yg<|(F.y F.ad) λF=>(F.m) λF=>?_
    show _/\_;exact⟨oM,_,_,F.u,G.u,rfl,rfl,((Zir oM oM hc28).symm.trans hc),oM⟩
 ·refine wp_exit<|k2<|wQ λk17=>wR λk18=>(F.m) λF=>(F.y F.ln) λF=>(F.m) λF=>(F.y F.ln) λF=>(F.y F.ls) λF=>k18<|F.ci (λhc35=>?_) (λhc35=>?_)
  ·refine wR λk19=>(F.m) λF=>k19<|(F.r1) ?_
   exact⟨Z9 (by rw[<-hc,Zbz oM oM]),(G.e 0)⟩
  ·refine Yi<|k17<|wR λk20=>(F.m) λF=>k20<|(F.r1) ?_
   exact⟨Z9 (by rw[<-hc,ZcW oM oM]),(G.e 0)⟩
variable{μ:Nat}
def noP(Q:Exit->Act->World->Prop):Exit->Act->World->Prop:=λe a w=>match e with
 | .panic _=>False
 | e=>Q e a w
section
variable{P:Program}{Q:Exit->Act->World->Prop}{a:Act}{w:World}{md:Region.Mode}{ops:Array Oper}{T:World->Prop}{stop:Option Nat}{listed:Array Bool}
theorem Zeq{l:List Oper}{id:Nat}(T:World->Prop)(stop:Option Nat)(hm:P.follows .mixedOrders=true)(h:∀W:World,W.heap=w.heap->Ext [] w W->Zp P .any l.toArray (noP Q) T stop l.toArray.size (Array.replicate l.toArray.size false) a W): (Code.region id l.toArray true).wp P Q a w:=
 Code.wp_mono (λe a w h=>by cases e<;>first | exact h | exact h.elim) (Zb6 T stop hm h)
theorem wDN{id:Nat}{l:List Oper}{S:List Fc}(X:List Nat)(stop:Option Nat)(B:Bk w S)(h:∀{W:World},Bk W (.e X w::S)->Zp P .any l.toArray (noP Q) (Ext X w) stop l.toArray.size (Array.replicate l.toArray.size false) a W)(hm:P.follows .mixedOrders=true:=by exact follows): (Code.region id l.toArray true).wp P Q a w:=Zeq (Ext X w) stop hm λW hh eh=>h ⟨eh.mono sU,B.ex eh⟩
theorem aDN{fuel:Nat}(hr:Region.ready md ops listed=[]:=by kernel_rfl)(h:Q .normal a w): Zp P md ops (noP Q) T stop fuel listed a w:=ZcF (Q:=noP Q) hr h fuel
end
section
variable{P:Program}{ρ:Operand->Value}{o:Oper}{w:World}
theorem Z5W{x:Operand}{t:TypeId}{b f n:Nat}(ho:o.op = .slice t x none none none)(hx:ρ x = .pointer (some ⟨b,f,none⟩))(hu:P.underlying t=some (.array (P.arrayLen t) (P.elem t)))(hs:(P.info? (P.elem t)).map (·.size)=some 1)(hn:P.arrayLen t=n):
  (execOp ρ o).run P w = .ok (.value (.slice (some ⟨b,f,none⟩) n n)) w:=by
 have h0:(sizeOf (P.elem t)).run P w = .ok 1 w:=by
  generalize P.elem t=e at hs;cases hq:P.info? e with
  | none=>simp[hq]at hs
  | some j =>
   have hj:j.size=1:=by simpa[hq] using hs
   simp[sizeOf,typeInfo,hq,hj]
 have hr:=run_sliceAt_array_all (P:=P) w t ⟨b,f,none⟩ hu;rw[h0,hn]at hr;simp only[Result.andThen_ok,slicedAt,Nat.zero_mul,Nat.sub_zero]at hr;have ha:(if n=0 then(⟨b,f,none⟩:Addr) else Addr.add ⟨b,f,none⟩ 0)=⟨b,f,none⟩:=by split<;>rfl
 rw[ha]at hr;clear hu hs hn h0 ha;unfold execOp;simp only[ho,hx,Option.map_none,Sem.run_bind,hr,Result.andThen_ok,Sem.run_pure]
end
theorem Zb7{w:World}{b off:Nat}{C:Array Value}{T:TypeId}{fz:Nat×Nat}(xs:List Int)(cap:Nat)(h:w.heap[b]?=some (.cells C T fz))(hc:∀j,j<xs.length->C[off+j]?=some (.int .i64 (xs.getD j 0))): Z6 w (.slice (some ⟨b,off,none⟩) xs.length cap) 1 (xs.map Z4):=by
 refine⟨some ⟨b,off,none⟩,cap,sU,by simp[Z4],λ_=>⟨b,off,rfl,Z8 h,λi j x hi hj=>?_⟩⟩;obtain rfl:j=0:=by omega
 rw[Z3 h];simp only[Yn,Y3]at hi;obtain⟨y,hy,rfl⟩:=hi;obtain⟨h1,h2⟩:=List.getElem?_eq_some_iff.1 hy;rw[Nat.mul_one,Nat.add_zero,hc i h1];simp[Z4,h1,h2]
def setL:List Value->Nat->List Value->List Value
 | xs,_,[]=>xs
 | xs,j,v::vs=>setL (xs.set j v) (j+1) vs
theorem Z7B{b:Nat}{T:TypeId}:∀{vs:List Value} {w w2:World} {off:Nat} {C C':Array Value},w2=w.setCells b off vs->w.heap[b]?=some (.cells C T (0,0))->C'=(setL C.toList off vs).toArray->w2.heap[b]?=some (.cells C' T (0,0))
 | [],w,w2,off,C,C',e,H,h=>by rw[e,h];simpa[World.setCells,setL] using H
 | v::vs,w,w2,off,C,C',e,H,h=>by
  have h1:=ZU (w2:=w.setCell ⟨b,off,none⟩ v) rfl H rfl;exact Z7B (w:=w.setCell ⟨b,off,none⟩ v) (off:=off+1) e h1 (by rw[h,setL,Array.toList_setIfInBounds])
def Z9S(f:Nat->Int)(a b:Int)(s:Bool):Array Value:=#[.int .i64 (f 0),.int .i64 (f 1),.int .i64 (f 2),.int .i64 (f 3),.int .i64 a,.int .i64 b,.bool s]
theorem Ze8(nb:Nat)(g f:Nat->Int)(c d a b:Int)(w:World)(hq:w.heap[nb]?=some (.cells (Z9S g c d false) 129 (0,0))):
  Calls (Qy.prog μ) 109 #[.pointer (some ⟨nb,0,none⟩),.agg #[.int .i64 (f 0),.int .i64 (f 1),.int .i64 (f 2),.int .i64 (f 3)],.agg #[.int .i64 a,.int .i64 b]] w λe w'=>e = .returned (.tuple #[])/\w'.heap[nb]?=some (.cells (Z9S f a b true) 129 (0,0))/\Ext [nb] w w':=by
 have E:Ext [nb] w w:=Ext.refl _ _;have qn:w.heap[nb]?=some (.cells #[.int .i64 (g 0),.int .i64 (g 1),.int .i64 (g 2),.int .i64 (g 3),.int .i64 c,.int .i64 d,.bool false] 129 (0,0)):=hq;clear hq;have G:=(Bk.nil w).ce E;replace G:=G.cq qn;refine(ent 31 Tryz.f109 rfl) λF=>wR λk1=>(F.bx G) λyy F G=>(F.bx G) λyy F G=>k1<|wQ λk2=>(wX 11 G) λG=>(F.sm) λF=>(F.s F.nc) λF=>(F.s (F.fd 6)) λF=>(F.s (F.lc (G.q 2))) λF=>(F.s F.nb) λF=>(F.sm) λF=>(F.sn) λF=>(F.sn) λF=>(F.sn) λF=>?_
 refine(F.sn) λF=>(F.sn) λF=>wpStill_nil<|(F.n) λF=>(F.n) λF=>(F.y F.pT) λF=>k2<|(F.cT)<|Yg<|(F.m) λF=>(F.m) λF=>(F.m) λF=>(F.y (F.lb (G.q 1))) λF=>(F.y (F.lb (G.q 0))) λF=>(F.y F.nc) λF=>(F.y (F.fd 0)) λF=>(F.sW (cs2:=#[.int .i64 (f 0),.int .i64 (f 1),.int .i64 (f 2),.int .i64 (f 3),.int .i64 c,.int .i64 d,.bool false]) G 2 0 λ_ hw=>Z7B hw (G.q 2) rfl) λG=>(F.y F.nc) λF=>(F.y (F.fd 4)) λF=>(F.sW (cs2:=#[.int .i64 (f 0),.int .i64 (f 1),.int .i64 (f 2),.int .i64 (f 3),.int .i64 a,.int .i64 b,.bool false]) G 2 4 λ_ hw=>Z1Y hw (G.q 2) (by simp only[List.setIfInBounds_toArray,lsQ,lzQ];exact rfl)) λG=>?_
 refine(F.y F.nc) λF=>(F.y (F.fd 6)) λF=>(F.st G 2) λG=>(F.f0) ?_;exact⟨rfl,(G.q 2),(G.e 3)⟩
theorem Ze9(nb:Nat)(g f:Nat->Int)(c d a b:Int)(w:World)(hq:w.heap[nb]?=some (.cells (Z9S g c d true) 129 (0,0))):
  Calls (Qy.prog μ) 109 #[.pointer (some ⟨nb,0,none⟩),.agg #[.int .i64 (f 0),.int .i64 (f 1),.int .i64 (f 2),.int .i64 (f 3)],.agg #[.int .i64 a,.int .i64 b]] w λe w'=>e = .returned (.tuple #[])/\w'.heap[nb]?=some (.cells (if cmpL [a,b] [c,d]<0 then Z9S f a b true else Z9S g c d true) 129 (0,0))/\Ext [nb] w w':=by
 have E:Ext [nb] w w:=Ext.refl _ _;have qn:w.heap[nb]?=some (.cells #[.int .i64 (g 0),.int .i64 (g 1),.int .i64 (g 2),.int .i64 (g 3),.int .i64 c,.int .i64 d,.bool true] 129 (0,0)):=hq;clear hq;have G:=(Bk.nil w).ce E;replace G:=G.cq qn;refine(ent 31 Tryz.f109 rfl) λF=>wR λk1=>(F.bx G) λyy F G=>(F.bx G) @λn5 w2 _ yy F G=>k1<|wQ λk2=>(wX 11 G) λG=>(F.sm) λF=>(F.s F.nc) λF=>(F.s (F.fd 6)) λF=>(F.s (F.lc (G.q 2))) λF=>(F.s F.nb) λF=>(F.sm) λF=>?_
 refine(F.s ((Z1r (n:=2) rfl (F.at rfl) kR kR kR))) λF=>(F.sm) λF=>(F.s F.nc) λF=>(F.s (F.fd 4)) λF=>?_;refine(F.s ((Z5W (n:=2) rfl (F.at rfl) kR kR kR))) λF=>wpStill_nil<|(F.k0 G (Z34 [a,b] [c,d] (some ⟨n5,0,none⟩) (some ⟨nb,4,none⟩) 2 2 _ (ZN [a,b] 2 (G.q 0)) (Zb7 [c,d] 2 (G.q 2) (λj hj=>by rcases j with _ | _ | j;(· rfl);(· rfl);(· simp at hj;omega))) sU sU)) λF G=>(F.y F.ls) λF=>(F.y F.pF) λF=>k2<|F.ci (λhc19=>?_) (λhc19=>?_)
 ·refine Yg<|(F.m) λF=>(F.m) λF=>(F.m) λF=>(F.y (F.lb (G.q 1))) λF=>(F.y (F.lb (G.q 0))) λF=>(F.y F.nc) λF=>(F.y (F.fd 0)) λF=>(F.sW (cs2:=#[.int .i64 (f 0),.int .i64 (f 1),.int .i64 (f 2),.int .i64 (f 3),.int .i64 c,.int .i64 d,.bool true]) G 2 0 λ_ hw=>Z7B hw (G.q 2) rfl) λG=>(F.y F.nc) λF=>(F.y (F.fd 4)) λF=>(F.sW (cs2:=#[.int .i64 (f 0),.int .i64 (f 1),.int .i64 (f 2),.int .i64 (f 3),.int .i64 a,.int .i64 b,.bool true]) G 2 4 λ_ hw=>Z1Y hw (G.q 2) (by simp only[List.setIfInBounds_toArray,lsQ,lzQ];exact rfl)) λG=>(F.y F.nc) λF=>(F.y (F.fd 6)) λF=>(F.st G 2) λG=>(F.f0) ?_
  exact⟨rfl,(by rw[if_pos hc19];exact(G.q 2)),(G.e 3)⟩
 ·refine Yi<|(F.e0) ?_
  exact⟨rfl,(by rw[if_neg hc19];exact(G.q 2)),(G.e 3)⟩
variable{μ:Nat}
section
variable{α:Type}(g:α->Nat->Int)(c:α->Int×Int)
def offO:Option α->α->Option α
 | none,t=>some t
 | some u,t=>if cmpL [(c t).1,(c t).2] [(c u).1,(c u).2]<0 then some t else some u
def Z27(l:List α):Option α:=l.foldl (offO c) none
def Z8I:Option α->Array Value
 | none=>Z9S zf 0 0 false
 | some t=>Z9S (g t) (c t).1 (c t).2 true
theorem Z5l(l:List α)(t:α):Z27 c (l++[t])=offO c (Z27 c l) t:=by simp[Z27]
end
theorem Z8J{α:Type}(g:α->Nat->Int)(c:α->Int×Int)(nb:Nat)(o:Option α)(t:α)(w:World)(hq:w.heap[nb]?=some (.cells (Z8I g c o) 129 (0,0))):
  Calls (Qy.prog μ) 109 #[.pointer (some ⟨nb,0,none⟩),.agg #[.int .i64 (g t 0),.int .i64 (g t 1),.int .i64 (g t 2),.int .i64 (g t 3)],.agg #[.int .i64 (c t).1,.int .i64 (c t).2]] w λe w'=>e = .returned (.tuple #[])/\w'.heap[nb]?=some (.cells (Z8I g c (offO c o t)) 129 (0,0))/\Ext [nb] w w':=by
 cases o with
 | none=>exact Ze8 nb zf (g t) 0 0 (c t).1 (c t).2 w hq
 | some u =>
  refine Calls.mono (Ze9 nb (g u) (g t) (c u).1 (c u).2 (c t).1 (c t).2 w hq) ?_;rintro e w' ⟨h1,h2,h3⟩;refine⟨h1,?_,h3⟩;rw[h2,offO];split<;>rfl
def dyeN(f:Nat->Int)(n:Nat):Int:=sumQ (λk=>min (f k) 1) n
def cF(t:List Int):Int×Int:=(dyeN (val t) 4,prt (val t))
def fewR(x:Vm)(s:Nat->Int)(ls:List Int):List Int×Int:=match Z27 cF (matL x s ls) with
 | none=>([],11)
 | some t=>(cutL (val t) x.D.length,0)
def Z3k(r:List Int×Int)(w:World)(e:Ending)(w':World):Prop:=∃a c,e = .returned (.tuple #[.slice a r.1.length c,.int .i64 r.2])/\w'.ownsRow w.heap.size 3 1 (.slice a r.1.length c) r.1.length (ivs r.1)/\Ext [] w w'
theorem Zgo{α:Type}{c:α->Int×Int}{l:List α}{t:α}(h:Z27 c l=some t): t∈l:=by
 have key:∀(l:List α) (o:Option α),l.foldl (offO c) o=some t->t∈l\/o=some t:=by
  intro l
  induction l with
  | nil=>intro o h;exact .inr h
  | cons x l ih =>
   intro o h;rcases ih _ h with h | h
   ·exact .inl (List.mem_cons_of_mem _ h)
   ·cases o with
    | none=>cases h;exact .inl (List.mem_cons_self ..)
    | some u =>
     rw[offO]at h;split at h
     ·cases h;exact .inl (List.mem_cons_self ..)
     ·exact .inr h
 rcases key l none h with h | h
 ·exact h
 ·cases h
theorem Z4D(f:Nat->Int)(n:Nat):(cutL f n).length=n:=by simp[cutL]
theorem Zjb{x:Vm}(hv:VOk x){s:Nat->Int}{ls:List Int}{t:List Int}(h:t∈matL x s ls): t.length=x.D.length/\TubS (val t):=by
 have hm:=(List.mem_filter.1 h).1;have h2:=(Z7E x.D.length (by have:=hv.d4;omega)).2 t hm;exact⟨h2.1,h2.2.1⟩
theorem Zja{x:Vm}(hv:VOk x){s:Nat->Int}{ls:List Int}: (matL x s ls).length<=500:=Yd (List.length_filter_le _ _) (Zb5 x.D.length (by have:=hv.d4;omega))
theorem Z11{α:Type}(d:α){l:List α}{i:Nat}(h:i<l.length): l.getD i d∈l:=by rw[Y7,List.getElem?_eq_getElem h];exact List.getElem_mem h
theorem Z8T{w:World}{base n c:Nat}{a:Option Addr}{T:List (List Int)}(h:w.ownsRow base 88 4 (.slice a n c) n (Z3j T))(hn:n=T.length)(X:List Nat)(hX:∀b∈X,b<base): SlAt X w a 4 T.length (λi=>tubR (val (T.getD i []))):=Z0D (row:=λt:List Int=>tubR (val t)) h hn (λ_=>rfl) X hX []
theorem Zck(x:Vm)(hv:VOk x)(s:List Int)(hs:Z1s x s)(ls:List Int)(hl:Z5S x ls)(hll:ls.length<=1000)(a b:Option Addr)(c d:Nat)(w:World)(h:x.At w)(hr:Z6 w (.slice a s.length c) 1 (s.map Z4))(hq:Z6 w (.slice b ls.length d) 1 (ls.map Z4)):
  Calls (Qy.prog μ) 54 #[.agg x.vc,.slice a s.length c,.slice b ls.length d] w (Z3k (fewR x (val s) ls) w):=by
 have E:=Ext.refl [] w;have HX:=Lib.hid h;have HV:=Lib.hid hv;have HR:=Lib.hid hr;have HQ:=Lib.hid hq;have HL:=Lib.hid hl;have HS:=Lib.hid hs;have hd4:=hv.d4;obtain⟨T,hT⟩:∃T,T=matL x (val s) ls:=⟨_,rfl⟩;have HM:RowKit.Hid (∀t∈T,t.length=x.D.length/\TubS (val t)):=Lib.hid (λt ht=>Zjb hv (by rw[<-hT];exact ht));have htl:T.length<=500:=by rw[hT];exact Zja hv
 clear h hv hr hq hl hs;have G:=(Bk.nil w).ce E;refine(entM 55 Tryz.f54 rfl) λF=>wR λk1=>(F.bx G) λyy F G=>(F.m) λF=>(F.al G Qy.zeroValue30) λyy F G=>k1<|wR λk2=>(F.df) λF=>k2<|wR λk3=>(F.y (F.lb (G.q 1))) λF=>(F.k0 G (Z09 x HV.out _ (HX.out.ext (G.e 2)))) λF G=>(F.al G Qy.zeroValue85) λyy F G=>(F.sr G 0) λG=>k3<|wR λk4=>(F.y (F.lb (G.q 0))) λF=>?_
 refine(F.m) λF=>(F.k0 G (Z2n x HV.out s HS.out a c _ (HR.out.ext (G.e 3) sU))) λF G=>k4<|wR λk5=>(F.y (F.lb (G.q 0))) λF=>(F.m) λF=>(F.k0 G (Z7j x HV.out ls HL.out hll b d _ (HX.out.ext (G.e 3)) (HQ.out.ext (G.e 3) sU))) λF G=>k5<|wR λk6=>(F.al G Qy.zeroValue129) @λn9 w8 _ yy F G=>?_
 have q9:=G.q 0;replace q9:w8.heap[n9]?=some (.cells (Z8I val cF (Z27 cF (T.take 0))) 129 (0,0)):=q9;replace G:=G.rQ 0 q9;clear q9;refine k6<|wQ λk7=>wR λk8=>(F.y (F.lb (G.q 1))) λF=>(F.m) λF=>(F.m) λF=>?_
 have b9:=Z8 (G.q 0);refine(F.k (Z9Q x HV.out s HS.out ls HL.out.2.1 hll a b c d _ (HX.out.ext (G.e 4)) (HR.out.ext (G.e 4) sU) (HQ.out.ext (G.e 4) sU))) ?_;rintro _ w9 ⟨ma,mc,rfl,om,e9⟩;refine kG G e9 λF G=>?_;rw[<-hT]at F om;have HT:=Lib.hid (Z8T om rfl [n9] (by simpa using b9));clear om;replace G:=G.hr [n9];refine(F.y F.ln) λF=>(F.m) λF=>k8<|Yh<|lpB (F.b [7,8,9,26,27]) (G.b [0,2,3,4,5]) T.length (λi Lv Sv W=>Lv=[(28,.int .i64 ((i:Nat):Int))]/\Sv=[.q n9 ((Z8I val cF (Z27 cF (T.take i)))) 129]) ⟨_,_,F.u,G.u,rfl,rfl⟩ ?_
 clear F G;rintro i _ w10 _ _ hi1 ⟨rfl,rfl⟩ F G;replace G:=G.z;refine wR λk9=>(F.y F.ls) λF=>k9<|wQ λk10=>F.ci (λhc29=>?_) (λhc29=>?_)
 ·refine Yi<|k10<|wQ λk11=>Yh<|wR λk12=>(F.ix HT.out i) λxr13 F=>(F.y (F.lr (xr13 _ (G.e 1)))) λF=>(F.al G Qy.zeroValue88) @λn11 w11 _ yy F G=>(F.sr G 0) @λw12 G=>?_
  have hts:=(HM.out (T.getD i []) (Z11 [] oM)).2;have q11:=G.q 0;replace q11:w12.heap[n11]?=some (.cells (tubC (val (T.getD i []))) 88 (0,0)):=q11;replace G:=G.rQ 0 q11;clear q11;refine k12<|wR λk14=>(F.m) λF=>?_
  rw[show (0:Int)=dyeN (val (T.getD i [])) 0 from rfl]at F;refine k14<|wQ λk15=>wR λk16=>(F.y (F.lb (G.q 0))) λF=>(F.m) λF=>k16<|Yh<|lpB (F.b [7,8,9,11,26,27,28,32]) (G.b [2,3,4,5,6]) (4) (λk Lv Sv W=>Lv=[(12,.int .i64 (dyeN (val (T.getD i [])) k)),(33,.int .i64 ((k:Nat):Int))]/\Sv=[.q n9 ((Z8I val cF (Z27 cF (T.take i)))) 129,.q n11 ((tubC (val (T.getD i [])))) 88]/\0<=dyeN (val (T.getD i [])) k/\dyeN (val (T.getD i [])) k<=k) ⟨_,_,F.u,G.u,rfl,rfl,(by simp[dyeN,sumQ])⟩ ?_
  clear F G;rintro k _ w13 _ _ hi2 ⟨rfl,rfl,hdn⟩ F G;replace G:=G.z;refine wR λk17=>(F.y F.ls) λF=>k17<|wQ λk18=>F.ci (λhc34=>?_) (λhc34=>?_)
  ·refine Yi<|k18<|wQ λk19=>Yh<|wR λk20=>(F.y (F.iv 4 (Z6z (k:=k) rfl oM))) λF=>(F.m) λF=>k20 ?_
   have hbk:=hts k oM;refine Yg<|(F.m) λF=>(F.m) λF=>(F.y F.mn) λF=>(F.y F.ad) λF=>(F.m) λF=>?_
   rw[show dyeN (val (T.getD i [])) k+min (val (T.getD i []) k) 1=dyeN (val (T.getD i [])) (k+1) from rfl]at F;refine k19<|Yg<|(F.y F.ad) λF=>(F.m) λF=>?_
   show _/\_;exact⟨oM,_,_,F.u,G.u,rfl,rfl,(by have:=hts k oM;have h2:dyeN (val (T.getD i [])) (k+1)=dyeN (val (T.getD i [])) k+min (val (T.getD i []) k) 1:=rfl;constructor<;>omega)⟩
  ·refine wp_exit ?_;rw[show k=4 by omega]at F;refine k15 ?_;have G2:=G;refine(wDN [n9] none G) λG=>(F.zr 0 (G.t 0) λhS=>F.lb (G2.k 1 hS)) λF=>(F.z 1 (G.t 0) F.mo) λF=>(F.zr 2 (G.t 0) λhS=>F.lb (G2.k 1 hS)) λF=>(aO 3)<|(F.ok0 G (ZY (val (T.getD i [])) hts.ok _)) λF G=>.intro (G.t 0)<|(F.z 4 (G.t 0) (F.bv #[.int .i64 (dyeN (val (T.getD i [])) 4),.int .i64 (prt (val (T.getD i [])))])) λF=>?_
   have q9:=G.q 1;replace G:=G.d 1;refine(aO 5)<|(F.ok (Z8J val cF n9 (Z27 cF (T.take i)) (T.getD i []) _ q9)) ?_
   rintro _ w16 ⟨rfl,q9',e9⟩;refine⟨_,rfl,λF=>?_⟩;replace G:=G.x e9;refine .intro (G.t 0) ?_;rw[<-Z5l,<-Z2t T [] oM]at q9';replace q9:=q9';clear q9';replace G:=G.cq q9;refine(aDN)<|k11<|Yg<|(F.y F.ad) λF=>(F.m) λF=>?_
   show _/\_;exact⟨oM,_,_,F.u,G.u,rfl,rfl⟩
 ·refine wp_exit ?_;have q9:=G.q 0;rw[List.take_of_length_le (show T.length<=i by omega)]at q9;replace G:=G.rQ 0 q9;clear q9;refine k7<|wQ λk21=>wQ λk22=>?_
  by_cases hN:Z27 cF T=none
  ·have q9:=G.q 0;replace q9:w10.heap[n9]?=some (.cells #[.int .i64 (zf 0),.int .i64 (zf 1),.int .i64 (zf 2),.int .i64 (zf 3),.int .i64 0,.int .i64 0,.bool false] 129 (0,0)):=by rw[hN]at q9;exact q9
   replace G:=G.rQ 0 q9;clear q9;refine Yg<|(F.y (F.fd 6)) λF=>(F.y (F.lc (G.q 0))) λF=>(F.y F.nb) λF=>k22<|(F.cT)<|wR λk23=>(F.m) λF=>?_
   have E9:=G.e 1;replace G:=G.d 1;refine(F.st G 2) λG=>k23<|wp_ret ?_
   (try simp only[Exit.inBlock,Exit.then,reduceIte])
   refine Z4c F<|ZQ<|Z00 (Z3e F rfl rfl rfl Qy.underlying30 rfl (G.q 2)) ?_
   rw[fewR,<-hT,hN];exact⟨none,0,rfl,World.ownsRow_nil _ _ _ _,(G.e 4)⟩
  ·obtain⟨t,ht⟩:=Option.ne_none_iff_exists'.1 hN;have htm:=HM.out t (Zgo ht);have q9:=G.q 0;replace q9:w10.heap[n9]?=some (.cells #[.int .i64 (val t 0),.int .i64 (val t 1),.int .i64 (val t 2),.int .i64 (val t 3),.int .i64 (cF t).1,.int .i64 (cF t).2,.bool true] 129 (0,0)):=by rw[ht]at q9;exact q9
   replace G:=G.rQ 0 q9;clear q9;refine Yg<|(F.y (F.fd 6)) λF=>(F.y (F.lc (G.q 0))) λF=>(F.y F.nb) λF=>k22<|(F.cF)<|Yi<|k21<|wR λk24=>(F.y (F.lb (G.q 2))) λF=>(F.y (F.fd 0)) λF=>(F.y (F.lr (Z6i (n:=4) (G.q 0) rfl (midS get0 (midS (getS get0) (midS (getS (getS get0)) (midS (getS (getS (getS get0))) mid0))))))) λF=>?_
   have hEs:=(G.e 5).size;refine(F.k (Zd2 x HV.out (val t) _)) ?_;rintro _ w18 ⟨ca,cc,rfl,oo,e9⟩;refine kG G e9 λF G=>?_;replace oo:=Za oo hEs;replace G:=G.co oo;refine(F.m) λF=>?_;replace G:=G.d 2;refine(F.st G 3) λG=>k24<|wp_ret ?_
   (try simp only[Exit.inBlock,Exit.then,reduceIte])
   refine Z4c F<|ZQ<|Z00 (Z3e F rfl rfl rfl Qy.underlying30 rfl (G.q 3)) ?_
   rw[fewR,<-hT,ht];refine⟨ca,cc,?_,?_,(G.e 5)⟩
   ·simp only[Z4D]
   have oo:=G.o 0
   ·simp only[Z4D];exact oo
variable{μ:Nat}
def Z5h(v a b:Int)(s:Bool):Array Value:=#[.int .i64 v,.int .i64 a,.int .i64 b,.bool s]
theorem ZbO(nb:Nat)(v c d u a b:Int)(w:World)(hq:w.heap[nb]?=some (.cells (Z5h v c d false) 125 (0,0))):
  Calls (Qy.prog μ) 105 #[.pointer (some ⟨nb,0,none⟩),.int .i64 u,.agg #[.int .i64 a,.int .i64 b]] w λe w'=>e = .returned (.tuple #[])/\w'.heap[nb]?=some (.cells (Z5h u a b true) 125 (0,0))/\Ext [nb] w w':=by
 have E:Ext [nb] w w:=Ext.refl _ _;have qn:w.heap[nb]?=some (.cells #[.int .i64 v,.int .i64 c,.int .i64 d,.bool false] 125 (0,0)):=hq;clear hq;have G:=(Bk.nil w).ce E;replace G:=G.cq qn;refine(ent 31 Tryz.f105 rfl) λF=>wR λk1=>(F.bx G) λyy F G=>k1<|wQ λk2=>(wX 11 G) λG=>(F.sm) λF=>(F.s F.nc) λF=>(F.s (F.fd 3)) λF=>(F.s (F.lc (G.q 1))) λF=>(F.s F.nb) λF=>(F.sm) λF=>(F.sn) λF=>(F.sn) λF=>(F.sn) λF=>(F.sn) λF=>(F.sn) λF=>wpStill_nil ?_
 refine(F.n) λF=>(F.n) λF=>(F.y F.pT) λF=>k2<|(F.cT)<|Yg<|(F.m) λF=>(F.m) λF=>(F.m) λF=>(F.m) λF=>(F.y (F.lb (G.q 0))) λF=>(F.y F.nc) λF=>(F.y (F.fd 0)) λF=>(F.st G 1) λG=>(F.y F.nc) λF=>(F.y (F.fd 1)) λF=>(F.sW (cs2:=#[.int .i64 u,.int .i64 a,.int .i64 b,.bool false]) G 1 1 λ_ hw=>Z1Y hw (G.q 1) (by simp only[List.setIfInBounds_toArray,lsQ,lzQ];exact rfl)) λG=>(F.y F.nc) λF=>(F.y (F.fd 3)) λF=>(F.st G 1) λG=>(F.f0) ?_
 exact⟨rfl,(G.q 1),(G.e 2)⟩
theorem ZbP(nb:Nat)(v c d u a b:Int)(w:World)(hq:w.heap[nb]?=some (.cells (Z5h v c d true) 125 (0,0))):
  Calls (Qy.prog μ) 105 #[.pointer (some ⟨nb,0,none⟩),.int .i64 u,.agg #[.int .i64 a,.int .i64 b]] w λe w'=>e = .returned (.tuple #[])/\w'.heap[nb]?=some (.cells (if cmpL [a,b] [c,d]<0 then Z5h u a b true else Z5h v c d true) 125 (0,0))/\Ext [nb] w w':=by
 have E:Ext [nb] w w:=Ext.refl _ _;have qn:w.heap[nb]?=some (.cells #[.int .i64 v,.int .i64 c,.int .i64 d,.bool true] 125 (0,0)):=hq;clear hq;have G:=(Bk.nil w).ce E;replace G:=G.cq qn;refine(ent 31 Tryz.f105 rfl) λF=>wR λk1=>(F.bx G) @λn5 w1 _ yy F G=>k1<|wQ λk2=>(wX 11 G) λG=>(F.sm) λF=>(F.s F.nc) λF=>(F.s (F.fd 3)) λF=>(F.s (F.lc (G.q 1))) λF=>(F.s F.nb) λF=>(F.sm) λF=>?_
 refine(F.s ((Z1r (n:=2) rfl (F.at rfl) kR kR kR))) λF=>(F.sm) λF=>(F.s F.nc) λF=>(F.s (F.fd 1)) λF=>?_;refine(F.s ((Z5W (n:=2) rfl (F.at rfl) kR kR kR))) λF=>wpStill_nil<|(F.k0 G (Z34 [a,b] [c,d] (some ⟨n5,0,none⟩) (some ⟨nb,1,none⟩) 2 2 _ (ZN [a,b] 2 (G.q 0)) (Zb7 [c,d] 2 (G.q 1) (λj hj=>by rcases j with _ | _ | j;(· rfl);(· rfl);(· simp at hj;omega))) sU sU)) λF G=>(F.y F.ls) λF=>(F.y F.pF) λF=>k2<|F.ci (λhc19=>?_) (λhc19=>?_)
 ·refine Yg<|(F.m) λF=>(F.m) λF=>(F.m) λF=>(F.m) λF=>(F.y (F.lb (G.q 0))) λF=>(F.y F.nc) λF=>(F.y (F.fd 0)) λF=>(F.st G 1) λG=>(F.y F.nc) λF=>(F.y (F.fd 1)) λF=>(F.sW (cs2:=#[.int .i64 u,.int .i64 a,.int .i64 b,.bool true]) G 1 1 λ_ hw=>Z1Y hw (G.q 1) (by simp only[List.setIfInBounds_toArray,lsQ,lzQ];exact rfl)) λG=>(F.y F.nc) λF=>(F.y (F.fd 3)) λF=>(F.st G 1) λG=>(F.f0) ?_
  exact⟨rfl,(by rw[if_pos hc19];exact(G.q 1)),(G.e 2)⟩
 ·refine Yi<|(F.e0) ?_
  exact⟨rfl,(by rw[if_neg hc19];exact(G.q 1)),(G.e 2)⟩
def Z6c(c:Nat->Int×Int):Option Nat->Array Value
 | none=>Z5h 0 0 0 false
 | some n=>Z5h ((n:Nat):Int) (c n).1 (c n).2 true
theorem ZbN(c:Nat->Int×Int)(nb:Nat)(o:Option Nat)(n:Nat)(w:World)(hq:w.heap[nb]?=some (.cells (Z6c c o) 125 (0,0))):
  Calls (Qy.prog μ) 105 #[.pointer (some ⟨nb,0,none⟩),.int .i64 ((n:Nat):Int),.agg #[.int .i64 (c n).1,.int .i64 (c n).2]] w λe w'=>e = .returned (.tuple #[])/\w'.heap[nb]?=some (.cells (Z6c c (offO c o n)) 125 (0,0))/\Ext [nb] w w':=by
 cases o with
 | none=>exact ZbO nb 0 0 0 ((n:Nat):Int) (c n).1 (c n).2 w hq
 | some u =>
  refine Calls.mono (ZbP nb ((u:Nat):Int) (c u).1 (c u).2 ((n:Nat):Int) (c n).1 (c n).2 w hq) ?_;rintro e w' ⟨h1,h2,h3⟩;refine⟨h1,?_,h3⟩;rw[h2,offO];split<;>rfl
theorem take_range{n i:Nat}(h:i<n): (List.range n).take (i+1)=(List.range n).take i++[i]:=by
 rw[Z2t (List.range n) 0 (by rw[List.length_range];exact h)];simp[h]
def bI(b:Bool):Int:=if b=true then 1 else 0
def rowU(p:Nat->Bool):Nat->Int
 | 0=>0
 | k+1=>rowU p k+bI (p k)
def triU(p:Nat->Nat->Bool):Nat->Int
 | 0=>0
 | j+1=>triU p j+rowU (p j) j
theorem Zmb(b:Bool):0<=bI b/\bI b<=1:=by cases b<;>simp[bI]
theorem Z9Z(p:Nat->Bool):∀k,0<=rowU p k/\rowU p k<=k
 | 0=>by simp[rowU]
 | k+1=>by have:=Z9Z p k;have:=Zmb (p k);rw[rowU];omega
theorem Z80(p:Nat->Nat->Bool):∀j,j<=6->0<=triU p j/\triU p j<=6*j
 | 0,_=>by simp[triU]
 | j+1,h=>by have:=Z80 p j oM;have:=Z9Z (p j) j;rw[triU];omega
def unlP(x:Vm)(n:Nat)(T:List (List Int))(j k:Nat):Bool:=!alkE x n (val (T.getD j [])) (val (T.getD k []))
def unN(x:Vm)(T:List (List Int))(n:Nat):Int:=triU (unlP x n T) T.length
def cT(x:Vm)(T:List (List Int))(n:Nat):Int×Int:=(-unN x T n,0)
def telR(x:Vm)(T:List (List Int)):Int×Int×Int:=match Z27 (cT x T) (List.range x.L.length) with
 | none=>(0,0,11)
 | some n=>if unN x T n=0 then(0,0,11) else((n:Nat),unN x T n,0)
theorem Zag(x:Vm)(hv:VOk x)(S:List (Value×List Int))(hs:∀p∈S,RcpOk x p.2)(h6:S.length<=6)(a:Option Addr)(c:Nat)(w:World)(h:x.At w)(hl:ZL w a S):
  Calls (Qy.prog μ) 49 #[.agg x.vc,.slice a S.length c] w λe w'=>e = .returned (.tuple #[.int .i64 (telR x (S.map (·.2))).1,.int .i64 (telR x (S.map (·.2))).2.1,.int .i64 (telR x (S.map (·.2))).2.2])/\Ext [] w w':=by
 have E:=Ext.refl [] w;have HX:=Lib.hid h;have HV:=Lib.hid hv;have HL:=Lib.hid hl;have HS:=Lib.hid hs;have hl3:=hv.l3;obtain⟨T,hT⟩:∃T,T=S.map (·.2):=⟨_,rfl⟩;have hTl:T.length=S.length:=by rw[hT,Yj]
 have HM:RowKit.Hid (∀t∈T,TubS (val t)):=Lib.hid (λt ht=>by
  rw[hT]at ht;obtain⟨p,hp,rfl⟩:=List.mem_map.1 ht;exact(hs p hp).tub)
 clear h hv hl hs;have G:=(Bk.nil w).ce E;refine(entM 67 Tryz.f49 rfl) λF=>wR λk1=>(F.bx G) λyy F G=>(F.m) λF=>(F.m) λF=>(F.al G Qy.zeroValue30) λyy F G=>k1<|wR λk2=>(F.df) λF=>k2<|wR λk3=>(F.y (F.lb (G.q 1))) λF=>(F.k0 G (Z09 x HV.out _ (HX.out.ext (G.e 2)))) λF G=>(F.al G Qy.zeroValue85) λyy F G=>(F.sr G 0) λG=>k3<|wQ λk4=>Yg ?_
 refine(F.y (F.lb (G.q 0))) λF=>(F.m) λF=>(F.k (Z5D x HV.out S HS.out h6 a c _ (HL.out.ext (G.e 3)))) ?_;rintro _ w6 ⟨ma,mc,rfl,om,e9⟩;refine kG G e9 λF G=>?_;rw[<-hT,<-hTl]at om;rw[<-hTl]at F;have hrm:=Lib.hid (Zw (row:=λt:List Int=>tubR (val t)) om (λ_=>rfl));clear om;replace G:=G.hr [];refine(F.m) λF=>k4<|wR λk5=>(F.al G Qy.zeroValue125) @λn9 w7 _ yy F G=>?_
 have HTs:=Lib.hid (Z0N (X:=[n9]) hrm.out (λW e=>hrm.out.ext e (by simp;omega)) []);have E9:=(G.e 1).mono (Y:=[n9]) sU;have q9:=G.q 0;replace q9:w7.heap[n9]?=some (.cells (Z6c (cT x T) (Z27 (cT x T) ((List.range x.L.length).take 0))) 125 (0,0)):=q9;replace G:=G.rQ 0 q9;clear q9;replace G:=G.ce E9;refine k5<|wQ λk6=>wR λk7=>(F.y (F.fd 0)) λF=>(F.y (F.fd 2)) λF=>(F.y (F.lc (G.q 3))) λF=>(F.y F.ln) λF=>(F.m) λF=>k7<|Yh<|lpB (F.b [6,7,8,9,22]) (G.b [0,3,4,5,6]) x.L.length (λi Lv Sv W=>Lv=[(23,.int .i64 ((i:Nat):Int))]/\Sv=[.q n9 ((Z6c (cT x T) (Z27 (cT x T) ((List.range x.L.length).take i)))) 125]) ⟨_,_,F.u,G.u,rfl,rfl⟩ ?_
 clear F G;rintro i _ w8 _ _ hi1 ⟨rfl,rfl⟩ F G;replace G:=G.z;refine wR λk8=>(F.y F.ls) λF=>k8<|wQ λk9=>F.ci (λhc24=>?_) (λhc24=>?_)
 ·refine Yi<|k9<|wQ λk10=>Yh<|wR λk11=>(F.m) λF=>(F.m) λF=>k11<|wR λk12=>(F.m) λF=>?_
  rw[show (0:Int)=triU (unlP x i T) 0 from rfl]at F;refine k12<|wQ λk13=>wR λk14=>(F.m) λF=>(F.y F.ln) λF=>(F.m) λF=>k14<|Yh<|lpB (F.b [6,7,8,9,10,22,23,27]) (G.b [1,2,3,4,5]) T.length (λj Lv Sv W=>Lv=[(11,.int .i64 (triU (unlP x i T) j)),(28,.int .i64 ((j:Nat):Int))]/\Sv=[.q n9 ((Z6c (cT x T) (Z27 (cT x T) ((List.range x.L.length).take i)))) 125]) ⟨_,_,F.u,G.u,rfl,rfl⟩ ?_
  clear F G;rintro j _ w9 _ _ hi2 ⟨rfl,rfl⟩ F G;replace G:=G.z;refine wR λk15=>(F.y F.ls) λF=>k15<|wQ λk16=>F.ci (λhc29=>?_) (λhc29=>?_)
  ·refine Yi<|k16<|wQ λk17=>Yh<|wR λk18=>(F.m) λF=>(F.m) λF=>k18<|wR λk19=>(F.m) λF=>(F.m) λF=>?_
   rw[show triU (unlP x i T) j=triU (unlP x i T) j+rowU (unlP x i T j) 0 by rw[rowU,Int.add_zero]]at F;refine k19<|Yh<|lpB (F.b [6,7,8,9,10,12,22,23,27,28,31]) (G.b [1,2,3,4,5]) j (λk Lv Sv W=>Lv=[(11,.int .i64 (triU (unlP x i T) j+rowU (unlP x i T j) k)),(32,.int .i64 ((k:Nat):Int))]/\Sv=[.q n9 ((Z6c (cT x T) (Z27 (cT x T) ((List.range x.L.length).take i)))) 125]) ⟨_,_,F.u,G.u,rfl,rfl⟩ ?_
   clear F G;rintro k _ w10 _ _ hi3 ⟨rfl,rfl⟩ F G;replace G:=G.z;refine wR λk20=>(F.y F.ls) λF=>k20<|wQ λk21=>F.ci (λhc33=>?_) (λhc33=>?_)
   ·refine Yi<|k21<|wQ λk22=>Yh<|wR λk23=>(F.m) λF=>(F.m) λF=>k23<|wQ λk24=>(wX 10 G) λG=>(F.s (F.lb (G.q 2))) λF=>(F.sm) λF=>(F.sm) λF=>(F.sm) λF=>(F.sx HTs.out j) λxr25 F=>(F.s (F.lr (xr25 _ (G.e 1)))) λF=>(F.sm) λF=>(F.sm) λF=>(F.sx HTs.out k) λxr26 F=>(F.s (F.lr (xr26 _ (G.e 1)))) λF=>wpStill_nil<|(F.k0 G (Zam x HV.out i oM (val (T.getD j [])) (val (T.getD k [])) (HM.out _ (Z11 [] oM)) (HM.out _ (Z11 [] oM)) _ (HX.out.ext (G.e 5)))) λF G=>(F.y F.nb) λF=>?_
    have hb1:=Z80 (unlP x i T) j oM;have hb2:=Z9Z (unlP x i T j) k;refine k24<|F.cb (λhc46=>?_) (λhc46=>?_)
    ·refine Yg<|(F.m) λF=>(F.y F.ad) λF=>(F.m) λF=>?_
     rw[show triU (unlP x i T) j+rowU (unlP x i T j) k+1=triU (unlP x i T) j+rowU (unlP x i T j) (k+1) by rw[rowU,show unlP x i T j k=true from hc46];simp[bI];omega]at F;refine k22<|Yg<|(F.y F.ad) λF=>(F.m) λF=>?_
     show _/\_;exact⟨oM,_,_,F.u,G.u,rfl,rfl⟩
    ·rw[show triU (unlP x i T) j+rowU (unlP x i T j) k=triU (unlP x i T) j+rowU (unlP x i T j) (k+1) by rw[rowU,show unlP x i T j k=false from hc46];simp[bI]]at F
     refine Yi<|k22<|Yg<|(F.y F.ad) λF=>(F.m) λF=>?_
     show _/\_;exact⟨oM,_,_,F.u,G.u,rfl,rfl⟩
   ·refine wp_exit ?_;rw[show triU (unlP x i T) j+rowU (unlP x i T j) k=triU (unlP x i T) (j+1) by rw[triU,show k=j by omega]]at F;refine k17<|Yg<|(F.y F.ad) λF=>(F.m) λF=>?_
    show _/\_;exact⟨oM,_,_,F.u,G.u,rfl,rfl⟩
  ·refine wp_exit ?_;rw[show triU (unlP x i T) j=unN x T i by rw[unN,show T.length=j by omega]]at F;refine k13 ?_;have hub:=Z80 (unlP x i T) T.length oM;replace hub:0<=unN x T i/\unN x T i<=6*T.length:=hub;refine Yg<|(F.m) λF=>(F.m) λF=>(F.y F.ng) λF=>(F.y (F.bv #[.int .i64 (-(unN x T i)),.int .i64 0])) λF=>?_
   have q9:=G.q 0;replace G:=G.d 0;refine(F.k (ZbN (cT x T) n9 (Z27 (cT x T) ((List.range x.L.length).take i)) i _ q9)) ?_;rintro _ w13 ⟨rfl,q9',e9⟩;refine⟨_,rfl,λF=>?_⟩;replace G:=G.x e9;rw[<-Z5l,<-take_range oM]at q9';replace q9:=q9';clear q9';replace G:=G.cq q9;refine k10<|Yg<|(F.y F.ad) λF=>(F.m) λF=>?_
   show _/\_;exact⟨oM,_,_,F.u,G.u,rfl,rfl⟩
 ·refine wp_exit ?_;have q9:=G.q 0;rw[List.take_of_length_le (show (List.range x.L.length).length<=i by rw[List.length_range];omega)]at q9;replace G:=G.rQ 0 q9;clear q9;refine k6<|wQ λk27=>wQ λk28=>?_
  by_cases hN:Z27 (cT x T) (List.range x.L.length)=none
  ·have q9:=G.q 0;replace q9:w8.heap[n9]?=some (.cells #[.int .i64 0,.int .i64 0,.int .i64 0,.bool false] 125 (0,0)):=by rw[hN]at q9;exact q9
   replace G:=G.rQ 0 q9;clear q9;refine Yg<|(F.y (F.fd 1)) λF=>?_
   refine(F.y ((Z4V (n:=2) (sz:=1) rfl (F.at rfl) rfl Qy.underlying123 kR oM oM))) λF=>(F.y (F.lc (G.q 0))) λF=>(F.y F.eqT) λF=>k28<|(F.cT)<|wR λk29=>(F.m) λF=>(F.m) λF=>?_
   have E9:=G.e 1;replace G:=G.d 1;refine(F.st G 2) λG=>k29<|wp_ret ?_
   (try simp only[Exit.inBlock,Exit.then,reduceIte])
   refine Z4c F<|ZQ<|Z00 (Z6j F rfl rfl rfl rfl Qy.underlying30 rfl (G.q 2)) ?_
   rw[<-hT,telR,hN];exact⟨rfl,(G.e 4)⟩
  ·obtain⟨n,hn⟩:=Option.ne_none_iff_exists'.1 hN;have hub:=Z80 (unlP x n T) T.length oM;replace hub:0<=unN x T n/\unN x T n<=6*T.length:=hub;have q9:=G.q 0;replace q9:w8.heap[n9]?=some (.cells #[.int .i64 ((n:Nat):Int),.int .i64 (-unN x T n),.int .i64 0,.bool true] 125 (0,0)):=by rw[hn]at q9;exact q9
   replace G:=G.rQ 0 q9;clear q9;refine Yg<|(F.y (F.fd 1)) λF=>?_
   refine(F.y ((Z4V (n:=2) (sz:=1) rfl (F.at rfl) rfl Qy.underlying123 kR oM oM))) λF=>(F.y (F.lc (G.q 0))) λF=>(F.y F.eq) λF=>k28<|F.ci (λhc60=>?_) (λhc60=>?_)
   ·refine wR λk30=>(F.m) λF=>(F.m) λF=>?_;have E9:=G.e 1;replace G:=G.d 1;refine(F.st G 2) λG=>k30<|wp_ret ?_
    (try simp only[Exit.inBlock,Exit.then,reduceIte])
    refine Z4c F<|ZQ<|Z00 (Z6j F rfl rfl rfl rfl Qy.underlying30 rfl (G.q 2)) ?_
    rw[<-hT,telR,hn];simp only[show unN x T n=0 by omega,if_true];exact⟨trivial,(G.e 4)⟩
   ·refine Yi<|k27<|wQ λk31=>(wX 8 G) λG=>(F.s (F.fd 0)) λF=>(F.s (F.lc (G.q 0))) λF=>(F.s (F.fd 1)) λF=>?_
    refine(F.s ((Z4V (n:=2) (sz:=1) rfl (F.at rfl) rfl Qy.underlying123 kR oM oM))) λF=>(F.s (F.lc (G.q 0))) λF=>(F.s F.ng) λF=>(F.sm) λF=>(F.sm) λF=>wpStill_nil ?_;replace G:=G.d 1;refine(F.st G 2) λG=>k31<|wp_ret ?_
    (try simp only[Exit.inBlock,Exit.then,reduceIte])
    refine Z4c F<|ZQ<|Z00 (Z6j F rfl rfl rfl rfl Qy.underlying30 rfl (G.q 2)) ?_
    rw[<-hT,telR,hn];simp only[show ¬unN x T n=0 by omega,if_false];refine⟨?_,(G.e 4)⟩;rw[Int.neg_neg]
variable{μ:Nat}
section
variable{P:Program}{ρ:Operand->Value}{o:Oper}{w:World}
theorem Zm2{x y:Operand}{t t':TypeId}{k:IntKind}{n m:Int}(ho:o.op = .binOp .and t x y t')(hx:ρ x = .int k n)(hy:ρ y = .int k m): (execOp ρ o).run P w = .ok (.value (.int k (bits .and k n m))) w:=by
 unfold execOp;simp[ho,hx,hy,binOp,Op.intBits,eqGuard,go_sem];rfl
theorem R_or{x y:Operand}{t t':TypeId}{k:IntKind}{n m:Int}(ho:o.op = .binOp .or t x y t')(hx:ρ x = .int k n)(hy:ρ y = .int k m): (execOp ρ o).run P w = .ok (.value (.int k (bits .or k n m))) w:=by
 unfold execOp;simp[ho,hx,hy,binOp,Op.intBits,eqGuard,go_sem];rfl
theorem Zki{x y:Operand}{t t':TypeId}{k k':IntKind}{n:Int}{m:Nat}(ho:o.op = .binOp .shl t x y t')(hx:ρ x = .int k n)(hy:ρ y = .int k' m): (execOp ρ o).run P w = .ok (.value (.int k (k.wrap (n*2 ^ min m k.bits)))) w:=by
 unfold execOp;have hm:¬((m:Int)<0):=by omega
 simp[ho,hx,hy,binOp,Op.shift,eqGuard,hm,go_sem]
theorem Zbp{y:Operand}{t:TypeId}{s:ByteArray}{i:Int}{b:UInt8}{k:IntKind}(ho:o.op = .index t (.const (.string s)) y)(hx:ρ (.const (.string s)) = .string s)(hy:ρ y = .int k i)(hu:P.underlying t=some .string)(h0:0<=i)(hb:s[i.toNat]?=some b): (execOp ρ o).run P w = .ok (.value (.int .u8 b.toNat)) w:=by
 unfold execOp;simp[ho,hx,hy,Instr.index,asIntOf,run_underlying hu,h0,hb,go_sem]
end
theorem has8:∀s,s<64->∀n,n<8->bits .and .u8 (((s:Nat):Int).fdiv (2 ^ min n IntKind.u8.bits)) 1=if s.testBit n then 1 else 0:=by decide +kernel
theorem shl8:∀n,n<7->IntKind.u8.wrap (1*2 ^ min n IntKind.u8.bits)=((2 ^ n:Nat):Int):=by decide +kernel
theorem or8:∀s,s<64->∀n,n<6->bits .or .u8 ((s:Nat):Int) ((2 ^ n:Nat):Int)=((s ||| 2 ^ n:Nat):Int):=by decide +kernel
def subB(s f:Nat):Bool:=(List.range 6).all λn=>!s.testBit n||f.testBit n
theorem not8:∀s,s<64->∀f,f<64->decide (bits .andNot .u8 ((s:Nat):Int) ((f:Nat):Int)=0)=subB s f:=by decide +kernel
theorem ZmM:∀s,s<64->∀n,n<6->s ||| 2 ^ n<64:=by decide +kernel
theorem add8:∀s,s<64->IntKind.u8.wrap (((s:Nat):Int)+1)=((s+1:Nat):Int):=by decide +kernel
def Zo(s:Nat):List Int:=((List.range 6).filter s.testBit).map λn=>((n:Nat):Int)
def Z06(s:Nat):Nat:=((List.range 6).filter s.testBit).length
theorem ZkT(s n:Nat)(hs:s<64)(hn:n<8)(w:World):Calls (Qy.prog μ) 120 #[.int .u8 ((s:Nat):Int),.int .i64 ((n:Nat):Int)] w λe w'=>e = .returned (.bool (s.testBit n))/\Ext [] w w':=by
 have E:=Ext.refl [] w;have G:=(Bk.nil w).ce E;refine(ent 10 Tryz.f120 rfl) λF=>wR λk1=>(F.m) λF=>k1<|wR λk2=>(F.m) λF=>(F.m) λF=>?_
 refine(F.y ((Z9g rfl (F.at rfl) (F.at rfl)))) λF=>?_;refine(F.y ((Zm2 rfl (F.at rfl) (ev_c _ _)))) λF=>(F.y F.eq) λF=>(F.m) λF=>k2<|(F.r1) ?_
 exact⟨ZK (by rw[has8 s hs n hn];cases s.testBit n<;>rfl),(G.e 0)⟩
theorem Z5H{s k:Nat}(h:k<6): (((List.range 6).take (k+1)).filter s.testBit)=((List.range 6).take k).filter s.testBit++if s.testBit k then[k] else[]:=by
 rw[take_range h,List.filter_append];by_cases hb:s.testBit k=true<;>simp[hb]
theorem Z7n(s:Nat)(hs:s<64)(w:World):Calls (Qy.prog μ) 74 #[.int .u8 ((s:Nat):Int)] w λe w'=>∃a c,e = .returned (.slice a (Zo s).length c)/\w'.ownsRow w.heap.size 3 1 (.slice a (Zo s).length c) (Zo s).length (ivs (Zo s))/\Ext [] w w':=by
 have E:=Ext.refl [] w;have oo:w.ownsRow w.heap.size 3 1 (.slice none 0 0) 0 (ivs ((((List.range 6).take 0).filter s.testBit).map λn=>((n:Nat):Int))):=World.ownsRow_nil _ _ _ _;have G:=(Bk.nil w).ce E;replace G:=G.co oo;refine(ent 17 Tryz.f74 rfl) λF=>wR λk1=>(F.m) λF=>k1<|wR λk2=>(F.m) λF=>k2<|wQ λk3=>wR λk4=>(F.m) λF=>k4<|Yh<|lpB (F.b [0]) (G.b [1]) (6) (λi Lv Sv W=>∃va:Option Addr,∃k:Nat,∃vc:Nat,Lv=[(3,.slice va k vc),(5,.int .i64 ((i:Nat):Int))]/\Sv=[]/\W.ownsRow w.heap.size 3 1 (.slice va k vc) k (ivs ((((List.range 6).take i).filter s.testBit).map λn=>((n:Nat):Int)))/\k=((((List.range 6).take i).filter s.testBit).map λn=>((n:Nat):Int)).length/\k<=i) ⟨_,_,F.u,G.u,none,0,0,rfl,rfl,(G.o 0),rfl,(Ye _)⟩ ?_
 clear F G;rintro i _ w1 _ _ hi1 ⟨va,k,vc,rfl,rfl,oo,hkl,hk6⟩ F G;replace G:=(G.z).co oo;refine wR λk5=>(F.y F.ls) λF=>k5<|wQ λk6=>F.ci (λhc6=>?_) (λhc6=>?_)
 ·refine Yi<|k6<|wQ λk7=>Yh<|wR λk8=>(F.m) λF=>(F.m) λF=>k8<|wR λk9=>(F.m) λF=>(F.m) λF=>(F.k0 G (ZkT s i hs oM _)) λF G=>k9<|F.cb (λhc10=>?_) (λhc10=>?_)
  ·have hst:=Z5H (s:=s) (show i<6 by omega);rw[if_pos hc10]at hst;refine Yg<|(F.m) λF=>(F.m) λF=>(F.bs G 1 #[.int .i64 ((i:Nat):Int)] Qy.zeroValue3) λyy F G=>?_
   have hEs:=(G.e 2).size;refine Zx F rfl dC (F.want rfl) (ZE rfl w.heap.size (e:=3) (size:=1) (bytes:=8) Qy.underlying22 kR dC (F.at rfl) (G.o 1) (F.at rfl) (G.q 0) rfl (by simp[Value.oneCell']) oM oM oM) ?_;clear F;rintro _ v' w4 F ⟨hown',hg⟩;obtain⟨va14,vc14,rfl⟩:=Zm hown';replace G:=(G.d 0).gr 0 hg hown';clear hg hown';have oo:=G.o 0;rw[Z0z,show ((((List.range 6).take i).filter s.testBit).map λn=>((n:Nat):Int))++[((i:Nat):Int)]=(((List.range 6).take (i+1)).filter s.testBit).map λn=>((n:Nat):Int) by rw[hst,List.map_append];rfl]at oo;replace hkl:k+1=((((List.range 6).take (i+1)).filter s.testBit).map λn=>((n:Nat):Int)).length:=by rw[hst,List.map_append,Ym,<-hkl];rfl
   replace G:=G.rO 0 oo;clear oo;refine(F.m) λF=>k7<|Yg<|(F.y F.ad) λF=>(F.m) λF=>?_
   show _/\_;exact⟨oM,_,_,F.u,G.u,_,_,_,rfl,rfl,(G.o 0),hkl,oM⟩
  ·have hst:=Z5H (s:=s) (show i<6 by omega);rw[if_neg (by rw[hc10];decide),List.append_nil]at hst;have oo:=G.o 0;rw[<-hst]at oo hkl;replace G:=G.rO 0 oo;clear oo;refine Yi<|k7<|Yg<|(F.y F.ad) λF=>(F.m) λF=>?_
   show _/\_;exact⟨oM,_,_,F.u,G.u,_,_,_,rfl,rfl,(G.o 0),hkl,oM⟩
 ·refine wp_exit ?_;have oo:=G.o 0;rw[List.take_of_length_le (show (List.range 6).length<=i by rw[List.length_range];omega)]at oo hkl;replace hkl:k=(Zo s).length:=hkl;replace oo:w1.ownsRow w.heap.size 3 1 (.slice va k vc) k (ivs (Zo s)):=oo;replace G:=G.rO 0 oo;clear oo;refine k3<|wR λk10=>(F.m) λF=>(F.m) λF=>k10<|(F.r1) ?_
  rw[<-hkl];have oo:=G.o 0;exact⟨va,vc,rfl,oo,(G.e 1)⟩
def Zlo:ByteArray:={data:=(([0,1,1,2,1,2,2,3,1,2,2,3,2,3,3,4,1,2,2,3,2,3,3,4,2,3,3,4,3,4,4,5,1,2,2,3,2,3,3,4,2,3,3,4,3,4,4,5,2,3,3,4,3,4,4,5,3,4,4,5,4,5,5,6].append [1,2,2,3,2,3,3,4,2,3,3,4,3,4,4,5,2,3,3,4,3,4,4,5,3,4,4,5,4,5,5,6,2,3,3,4,3,4,4,5,3,4,4,5,4,5,5,6,3,4,4,5,4,5,5,6,4,5,5,6,5,6,6,7]).append ([1,2,2,3,2,3,3,4,2,3,3,4,3,4,4,5,2,3,3,4,3,4,4,5,3,4,4,5,4,5,5,6,2,3,3,4,3,4,4,5,3,4,4,5,4,5,5,6,3,4,4,5,4,5,5,6,4,5,5,6,5,6,6,7].append [2,3,3,4,3,4,4,5,3,4,4,5,4,5,5,6,3,4,4,5,4,5,5,6,4,5,5,6,5,6,6,7,3,4,4,5,4,5,5,6,4,5,5,6,5,6,6,7,4,5,5,6,5,6,6,7,5,6,6,7,6,7,7,8])).toArray}
theorem Zjk:∀s,s<64->Zlo[(((s:Nat):Int)).toNat]?=some (UInt8.ofNat (Z06 s)):=by decide +kernel
theorem Zge:∀s,s<64->IntKind.i64.wrap (((UInt8.ofNat (Z06 s)).toNat:Nat):Int)=((Z06 s:Nat):Int):=by decide +kernel
theorem Zgd(s:Nat)(hs:s<64)(w:World):Calls (Qy.prog μ) 121 #[.int .u8 ((s:Nat):Int)] w λe w'=>e = .returned (.int .i64 ((Z06 s:Nat):Int))/\Ext [] w w':=by
 have E:=Ext.refl [] w;have G:=(Bk.nil w).ce E;refine(ent 6 Tryz.f121 rfl) λF=>wR λk1=>(F.m) λF=>k1<|wR λk2=>(F.m) λF=>?_
 refine(F.y ((Zbp (s:=Zlo) rfl (ev_c _ _) (F.at rfl) Qy.underlying9 oM (Zjk s hs)))) λF=>?_;refine(F.y ((Z3l rfl (F.at rfl) Qy.underlying5 Qy.underlying3))) λF=>(F.m) λF=>k2<|(F.r1) ?_
 exact⟨Z9 (Zge s hs),(G.e 0)⟩
theorem Z4C(s:Nat)(hs:s<64)(w:World):Calls (Qy.prog μ) 75 #[.int .u8 ((s:Nat):Int)] w λe w'=>e = .returned (.int .i64 ((Z06 s:Nat):Int))/\Ext [] w w':=by
 have E:=Ext.refl [] w;have G:=(Bk.nil w).ce E;refine(ent 5 Tryz.f75 rfl) λF=>wR λk1=>(F.m) λF=>k1<|wR λk2=>(F.m) λF=>(F.k0 G (Zgd s hs _)) λF G=>(F.m) λF=>k2<|(F.r1) ?_
 exact⟨rfl,(G.e 0)⟩
end
end Go.Proofs.YtfelljbfeoplhaaGreat
