/- Parts of a proof: Xf, Dkr, Xg, Dks, Dkv, LDyeParts, Xk, FrDyeParts, ClDyeParts. No conditions. -/
import Derived.Below
import Derived.ChangeOld
import Derived.Conc.Holds
import Derived.Conc.HoldsTime
import Derived.Leaving
import Derived.OpenShut
import Derived.ProofKit
import Derived.ShutString
import Derived.WalkKit
import Derived.Test.YtfelljbfeoplhaaGreatPpt1
import Derived.Test.YtfelljbfeoplhaaGreatPpt5
import Derived.Test.YtfelljbfeoplhaaGreatPpt6
import Derived.Test.YtfelljbfeoplhaaGreatPpt9
import Derived.Test.YtfelljbfeoplhaaGreatPpt12
set_option linter.unusedVariables false
set_option linter.unusedSimpArgs false
set_option linter.unusedSectionVars false
set_option maxRecDepth 100000
set_option maxHeartbeats 4000000
namespace Go.Proofs.YtfelljbfeoplhaaGreat
variable{b base c n:Nat}{W w:Go.World}{a:Option Go.Addr}{e:Go.TypeId}{S:Nat->Prop}
section
open Go.RowKit
variable{μ:Nat}
theorem Zg9(x:Vm)(hv:VOk x)(bn:Nat)(hbn:x.B=bn)(l:List Int)(hl:RcpOk x l)(a:Option Addr)(c:Nat)(w:World)(h:x.At w)(hr:Z8 w (.slice a l.length c) 1 (l.map Z7)):
  Calls (Qy.prog μ) 33 #[.agg #[.int .i64 x.B,.slice x.da x.D.length x.dc,.slice x.la x.L.length x.lc,.int .i64 x.tol],.slice a l.length c] w λe w'=>∃u,e = .returned (.tuple #[.slice u bn bn,.int .i64 (prt (val l)),.int .i64 0])/\w'.ownsRow w.heap.size 3 1 (.slice u bn bn) bn (ivs (sumL x (val l) bn))/\Ext [] w w':=by
 have E:Ext [] w w:=Ext.refl _ _;have HX:=Lib.hid h;have HV:=Lib.hid hv;have HR:=Lib.hid hr;have HL:=Lib.hid hl;clear h hv hr hl;have G:=(Bk.nil w).ce E;refine(entM 19 Tryz.f33 rfl) λF=>wR λk1=>(F.bx G) λyy F G=>(F.m) λF=>(F.m) λF=>(F.al G Qy.zeroValue30) λyy F G=>k1<|wR λk2=>(F.df) λF=>k2<|wR λk3=>(F.y (F.lb (G.q 1))) λF=>(F.k0 G (ZZ (μ:=μ) x HV.out _ (HX.out.ext (G.e 2)))) λF G=>(F.al G Qy.zeroValue85) λyy F G=>(F.sr G 0) λG=>k3<|wQ λk4=>Yg ?_
 refine(F.y (F.lb (G.q 0))) λF=>(F.m) λF=>(F.k0 G (Z9 (μ:=μ) x HV.out l HL.out a c _ (HR.out.ext (G.e 3) (by simp)))) λF G=>(F.al G Qy.zeroValue88) λyy F G=>(F.sr G 0) λG=>k4<|wQ λk5=>?_
 have G2:=G;refine(wDN [] (some 7) G) @λw9 G=>(F.zr 0 (G.t 0) λhS=>F.lb (G2.k 1 hS)) λF=>(F.zr 1 (G.t 0) λhS=>F.lb (G2.k 0 hS)) λF=>(F.zr 3 (G.t 0) λhS=>F.lb (G2.k 0 hS)) λF=>?_;obtain⟨B1,hB1⟩:∃B1,B1=w9.heap.size:=⟨_,rfl⟩;have hB1w:w.heap.size<=B1:=by rw[hB1];exact(G.e 5).size
 refine(aO 2)<|(F.ok (Z4f (μ:=μ) x HV.out bn hbn (val l) HL.out.tub _ (HX.out.ext (G.e 5)))) ?_
 rintro _ w10 ⟨u,rfl,uo,e9⟩;refine⟨_,rfl,λF=>?_⟩;replace G:=G.ex e9;refine .intro (G.t 0) ?_;rw[<-hB1]at uo;replace G:=G.co uo;refine(aO 4)<|(F.ok0 G (Z0b (μ:=μ) (val l) HL.out.tub.ok _)) λF G=>.intro (G.t 1)<|(F.z 5 (G.t 1) F.mo) λF=>(F.z 6 (G.t 1) F.mo) λF=>?_
 replace G:=G.d 1;refine(aO 7)<|(F.os G 3) λG=>.intro (gone (by kernel_rfl))<|(aDN)<|k5<|wp_ret ?_
 (try simp only[Exit.inBlock,Exit.then,reduceIte])
 refine Z3O F<|ZY<|Z0R (ZaF F rfl rfl rfl rfl Qy.underlying30 rfl (G.q 3)) ?_
 have uo:=G.o 0;exact⟨u,rfl,Z0v uo hB1w,(G.e 5)⟩
theorem Zei(l:List Int)(hb:∀m∈l,0<=m/\m<=6)(hll:l.length<=1000)(n:Int)(n0:0<=n)(n3:n<=3)(a:Option Addr)(c:Nat)(w:World)(hr:Z8 w (.slice a l.length c) 1 (l.map Z7)):
  Calls (Qy.prog μ) 42 #[.slice a l.length c,.int .i64 n] w λe w'=>∃u uc,e = .returned (.slice u l.length uc)/\w'.ownsRow w.heap.size 3 1 (.slice u l.length uc) l.length (ivs (l.map λm=>n*m))/\Ext [] w w':=by
 have E:Ext [] w w:=Ext.refl _ _;have HS:=Lib.hid (Zj hr 0);have HB:=Lib.hid hb;have oo:w.ownsRow w.heap.size 3 1 (.slice none 0 0) 0 (ivs ((l.take 0).map λm=>n*m)):=World.ownsRow_nil _ _ _ _;clear hr hb;have G:=(Bk.nil w).ce E;replace G:=G.co oo;refine(ent 23 Tryz.f42 rfl) λF=>wR λk1=>(F.m) λF=>k1<|wR λk2=>(F.m) λF=>k2<|wQ λk3=>wR λk4=>(F.m) λF=>k4<|Yh<|lpB (F.b [0,1]) (G.b [1]) (l.length) (λi Lv Sv W=>∃va:Option Addr,∃vc:Nat,Lv=[(5,.slice va i vc),(6,.int .i64 ((i:Nat):Int))]/\Sv=[]/\W.ownsRow w.heap.size 3 1 (.slice va i vc) i (ivs ((l.take i).map λm=>n*m))) ⟨_,_,F.u,G.u,none,0,rfl,rfl,(G.o 0)⟩ ?_
 clear F G;rintro i _ w1 _ _ hi1 ⟨va,vc,rfl,rfl,oo⟩ F G;replace G:=(G.z).co oo;refine wQ λk5=>wR λk6=>(F.m) λF=>(F.m) λF=>(F.y F.ln) λF=>(F.y F.ls) λF=>k6<|F.ci (λhc10=>?_) (λhc10=>?_)
 ·refine Yi<|k5<|wQ λk7=>Yh ?_
  have hbi:=HB.out _ (Zb 0 (show i<l.length by omega));have hmb:=Z0V n0 n3 hbi.1 hbi.2 (C:=18) (by omega);refine Yg<|(F.m) λF=>(F.m) λF=>(F.m) λF=>(F.m) λF=>(F.ix HS.out i) λxr8 F=>(F.y (F.l1 (xr8 _ (G.e 1)) 0)) λF=>(F.y F.ml) λF=>(F.bs G 1 #[.int .i64 (n*(l.getD i 0))] Qy.zeroValue3) λyy F G=>?_
  have hzE:=(G.e 2).size;refine ZK F rfl (by decide) (F.want rfl) (ZX rfl (w.heap.size) (e:=3) (size:=1) (bytes:=8) Qy.underlying22 (by kernel_rfl) (by decide) (F.at rfl) (G.o 1) (F.at rfl) (G.q 0) rfl (by simp[Value.oneCell']) (by omega) (by omega) (by omega)) ?_;clear F;rintro _ v' w3 F ⟨hown',hg⟩;obtain⟨va21,vc21,rfl⟩:=Zw hown';replace G:=(G.d 0).gr 0 hg hown';clear hg hown';have oo:=G.o 0;rw[show ivs ((l.take i).map λm=>n*m)++[.int .i64 (n*l.getD i 0)]=ivs ((l.take (i+1)).map λm=>n*m) by rw[Zef 0 (by omega)];simp[ivs]]at oo;replace G:=G.rO 0 oo;clear oo;refine(F.m) λF=>k7<|Yg<|(F.m) λF=>(F.y F.ad) λF=>(F.m) λF=>?_
  show _/\_;exact⟨by omega,_,_,F.u,G.u,_,_,rfl,rfl,(G.o 0)⟩
 ·refine wp_exit ?_
  have oo:=G.o 0;rw[show i=l.length by omega,List.take_length]at oo;rw[show i=l.length by omega]at F;replace G:=G.rO 0 oo;clear oo;refine k3<|wR λk9=>(F.m) λF=>(F.m) λF=>k9<|(F.r1) ?_
  have oo:=G.o 0;exact⟨va,vc,rfl,oo,(G.e 1)⟩
variable{μ:Nat}
theorem Zeb:∀(xs:List Int) (i:Nat) (v:Int),i<xs.length->(xs.set i v).sum=xs.sum-xs.getD i 0+v
 | [],i,v,h=>by simp at h
 | x::xs,0,v,h=>by simp;omega
 | x::xs,i+1,v,h=>by
  have:=Zeb xs i v (by simpa using h);simp only[List.set_cons_succ,List.sum_cons,this,List.getD_cons_succ];omega
theorem Zal{xs:List Int}(h:∀n∈xs,0<=n): ∀n∈xs,n<=xs.sum:=by
 induction xs with
 | nil=>intro n hn;simp at hn
 | cons x xs ih =>
  intro n hn;have h0:0<=xs.sum:=by
   clear ih hn
   induction xs with
   | nil=>simp
   | cons y ys ih2 =>
    have:=h y (by simp);have:=ih2 λm hm=>h m (by simp only[Yc]at hm⊢;rcases hm with rfl | hm<;>simp[*]);simp only[List.sum_cons];omega
  have hx:=h x (by simp);rw[List.sum_cons]
  rcases Yc.1 hn with rfl | hn
  ·omega
  ·have:=ih (λm hm=>h m (by simp[hm])) n hn;omega
def Zh7(x:Vm)(w0:World)(b k:Nat)(nv:Value)(w:World)(e:Ending)(w':World):Prop:=∃(a:Option Addr) (xs:List Int),e = .returned (.slice a x.D.length x.D.length)/\RcpOk x xs/\w'.ownsRow w.heap.size 3 1 (.slice a x.D.length x.D.length) x.D.length (ivs xs)/\Zm w0 w' b (k+10) nv/\Ext [b] w w'
theorem Z4o(x:Vm)(hv:VOk x)(w0 w:World)(b k:Nat)(nv:Value)(h:Zm w0 w b k nv)(hk:k<=900000):
  Calls (Qy.prog μ) 14 #[.pointer (some ⟨b,0,none⟩),.agg #[.int .i64 x.B,.slice x.da x.D.length x.dc,.slice x.la x.L.length x.lc,.int .i64 x.tol]] w (Zh7 x w0 b k nv w):=by
 have HL:=h;have hbw:=Z2f HL;have hws:w0.heap.size<=w.heap.size:=HL.2.2.1.size;have E:Ext [b] w w:=Ext.refl _ _;have hd1:=hv.d1;have hd4:=hv.d4;clear h hv;have G:=((Bk.nil w).cl HL).ce E;refine(ent 31 Tryz.f14 rfl) λF=>wR λk1=>(F.bx G) @λn3 w1 _ yy F G=>(F.m) λF=>k1<|wR λk2=>(F.y (F.fd 1)) λF=>(F.y (F.lc (G.q 0))) λF=>(F.y F.ln) λF=>?_
 have hEs:=(G.e 1).size;refine ZK F rfl (by decide) (F.want rfl) (Z4Q rfl (w.heap.size) (e:=3) (bytes:=8) (z:=.int .i64 0) Qy.underlying22 (by kernel_rfl) rfl (F.at rfl) (F.at rfl) (n:=x.D.length) (by omega) (by decide) (by omega)) ?_;clear F;rintro _ v' w2 F ⟨oo,hg,rfl⟩;obtain⟨n10,hn⟩:=eQ w1.heap.size;rw[<-hn]at F oo;have s10:=G.lt hn;replace G:=G.gn hg;clear hg hn;replace G:=G.co oo;have oo:=G.o 0;rw[show List.replicate x.D.length (Value.int .i64 0)=ivs (List.replicate x.D.length 0) by simp[ivs]]at oo;replace G:=G.rO 0 oo;clear oo;refine(F.m) λF=>k2<|wQ λk3=>wR λk4=>(F.m) λF=>(F.m) λF=>(F.bs G 1 #[.int .i64 1,.int .i64 2,.int .i64 3,.int .i64 6] Qy.zeroValue3) @λn13 w3 _ yy F G=>(F.k (Zdv w0 _ b _ nv n13 _ [1,2,3,6] (G.l 4) (by omega) (G.q 0) (by omega) (by decide) (by decide))) ?_
 rintro _ w4 ⟨v,rfl,hvm,HL,e9⟩;refine⟨_,rfl,λF=>?_⟩;replace G:=G.xl 4 e9 HL;have hv6:1<=v/\v<=6:=by simp only[Yc,Ya,or_false]at hvm;omega
 refine(F.k (Z8c w0 _ b _ nv 1 v (G.l 4) (by omega) (by omega) (by omega) (by omega) (by omega))) ?_;rintro _ w5 ⟨n,rfl,hn1,hn2,HL,e9⟩;refine⟨_,rfl,λF=>?_⟩;replace G:=(G.xl 4 e9 HL).d 0;refine(F.m) λF=>?_;rw[show n=n-((0:Nat):Int) by omega]at F;refine k4<|Yh ?_
 replace G:=G.rL 3 (show Zm w0 w5 b (k+2+0) nv from ZA (G.l 3) (by omega));refine lpB (F.b [0,5]) (G.b [1,2]) (6) (λi Lv Sv W=>∃xs:List Int,Lv=[(6,.int .i64 (n-((i:Nat):Int)))]/\Sv=[.l w0 b (k+2+i) nv]/\W.ownsRow w.heap.size 3 1 (.slice (some ⟨n10,0,none⟩) x.D.length x.D.length) x.D.length (ivs xs)/\xs.length=x.D.length/\(∀m∈xs,0<=m)/\xs.sum=i/\(i:Int)<=n) ⟨_,_,F.u,G.u,_,rfl,rfl,(G.o 0),(by simp),(by simp),(by simp),(by omega)⟩ ?_;clear F G;rintro i _ w6 _ _ hi1 ⟨xs,rfl,rfl,oo,hxl,hx0,hxs,hin⟩ F G;replace G:=(G.z).co oo;refine wQ λk5=>wR λk6=>(F.m) λF=>(F.y F.gt) λF=>k6<|F.ci (λhc17=>?_) (λhc17=>?_)
 ·refine Yi<|k5<|wQ λk7=>Yh<|Yg<|(F.m) λF=>(F.m) λF=>(F.m) λF=>(F.y F.ln) λF=>(F.y F.sb) λF=>(F.k (Z0K w0 _ b _ nv (((x.D.length:Nat):Int)-1) (G.l 1) (by omega) (by omega) (by omega))) ?_
  rintro _ w7 ⟨u,rfl,hu0,hu1,HL,e9⟩;refine⟨_,rfl,λF=>?_⟩;replace G:=G.xl 1 e9 HL;obtain⟨u,rfl⟩:=Int.eq_ofNat_of_zero_le hu0;have hux:u<xs.length:=by rw[hxl];omega
  have oo:=G.o 0;have HS:=Lib.hid (Z02 oo hxl.symm [] (by simp));have hil:=Z2a xs;have hm0:=hx0 _ (Zb 0 hux);have hmS:=Zal hx0 _ (Zb 0 hux);replace G:=G.hr [];obtain⟨xb8,xo8,xa8,xr8⟩:=HS.out u (by omega);refine(F.y (F.is 1 xa8)) λF=>(F.y (F.l1 (xr8 _ (G.e 0)) 0)) λF=>(F.y F.ad) λF=>?_;obtain⟨xb9,xo9,xa9,xr9⟩:=HS.out u (by omega);refine(F.y (F.is 1 xa9)) λF=>?_;replace G:=G.d 0;obtain⟨⟨u0,hcu⟩,hfu,hst⟩:=Z3k (G.o 0) xa9 (j:=u) (p:=xo9+((u:Nat):Int).toNat*1) (by first | omega | (simp;omega)) (by omega);refine Z0T rfl (F.want rfl) (Z05 rfl (F.at rfl) (F.at rfl) rfl (by kernel_rfl) hcu hfu) ?_;intro w8 hw;obtain⟨hown',hg⟩:=hst _ _ hw;replace G:=G.gr 0 hg hown';clear hst hcu hfu hw hg hown';have oo:=G.o 0;rw[Z2b]at oo;have hst:=Zeb xs u (xs.getD u 0+1) hux;have hx2:∀m∈xs.set u (xs.getD u 0+1),0<=m:=by intro m hm;rcases List.mem_or_eq_of_mem_set hm with hm | rfl;(· exact hx0 m hm);(· omega)
  replace G:=G.rO 0 oo;clear oo;refine k7<|Yg<|(F.m) λF=>(F.y F.sb) λF=>?_
  rw[show n-((i:Nat):Int)-1=n-((i+1:Nat):Int) by omega]at F;refine(F.m) λF=>?_;replace G:=G.rL 1 (show Zm w0 w8 b (k+2+(i+1)) nv from ZA (G.l 1) (by omega));show _/\_;exact⟨by omega,_,_,F.u,G.u,_,rfl,rfl,(G.o 0),(by rw[List.length_set];exact hxl),hx2,(by omega),(by omega)⟩
 ·refine wp_exit<|k3<|wR λk10=>(F.m) λF=>(F.m) λF=>k10<|(F.r1) ?_
  have oo:=G.o 0;refine⟨_,xs,rfl,⟨hxl,λm hm=>⟨hx0 m hm,?_⟩,by omega,by omega⟩,oo,ZA (G.l 1) (by omega),(G.e 3)⟩;have:=Zal hx0 m hm;omega
variable{μ:Nat}
def mulL(n:Int)(l:List Int):List Int:=l.map λm=>n*m
theorem Z7i(n:Int)(l:List Int):(mulL n l).length=l.length:=by simp[mulL]
theorem Zfk(n:Int)(l:List Int)(k:Nat):val (mulL n l) k=n*val l k:=by
 rw[val,val,mulL,Y7,Y7,Yn]
 cases l[k]?<;>simp
theorem Z4S(n:Int):∀l:List Int,(mulL n l).sum=n*l.sum
 | []=>by simp[mulL]
 | a::l=>by
  have:=Z4S n l;simp only[mulL,List.map_cons,List.sum_cons]at this⊢;rw[this,Int.mul_add]
theorem Z4W(c:Int)(f:Nat->Int):∀n,sumQ (λi=>c*f i) n=c*sumQ f n
 | 0=>by simp[sumQ]
 | n+1=>by rw[sumQ,sumQ,Z4W c f n,Int.mul_add]
section
variable(x:Vm)(k:Nat){f h:Nat->Int}{c:Int}(hfc:∀j,h j=c*f j)
include hfc
theorem Z7n:prt h=c*prt f:=(Z24 λj _=>hfc j).trans (Z4W c f 4)
theorem ZcA:dotE (val (x.lamp k)) (tnE x h) x.B.toNat=c*dotE (val (x.lamp k)) (tnE x f) x.B.toNat:=by
 have e2:∀j,tnE x h j=c*tnE x f j:=λj=>by
  unfold tnE tonE;rw[<-Z4W];exact Z24 λd _=>by rw[hfc,Int.mul_assoc]
 unfold dotE;rw[<-Z4W];exact Z24 λd _=>by rw[e2,Int.mul_left_comm]
theorem Zil(s:Nat->Int):offE x k h s=c*offE x k f s:=by
 unfold offE;rw[Z7n hfc,ZcA x k hfc,Int.mul_sub,Int.mul_assoc]
theorem Zic(hc:0<c)(s:Nat->Int):matE x h s [((k:Nat):Int)]=matE x f s [((k:Nat):Int)]:=by
 have key:∀o u:Int,max (c*o) (-(c*o))<=c*u↔max o (-o)<=u:=λo u=>by
  constructor
  ·intro q
   have a1:=Int.le_of_mul_le_mul_left (show c*o<=c*u by omega) hc;have a2:=Int.le_of_mul_le_mul_left (show c*(-o)<=c*u by rw[Int.mul_neg];omega) hc;omega
  ·intro q
   have a1:=Int.mul_le_mul_of_nonneg_left (show o<=u by omega) (Int.le_of_lt hc);have a2:=Int.mul_le_mul_of_nonneg_left (show -o<=u by omega) (Int.le_of_lt hc);rw[Int.mul_neg]at a2;omega
 simp only[matE,List.all_cons,List.all_nil,Bool.and_true,Int.toNat_natCast];refine decide_eq_decide.2 ?_;rw[Zil x k hfc,Z7n hfc,Int.mul_left_comm];exact key _ _
theorem Zhf(ht:0<=x.tol)(hf:0<=prt f)(hc:0<c):alkE x k f h=true:=by
 have h0:alkV x k f h=0:=by
  rw[alkV,Z7n hfc,ZcA x k hfc,Int.mul_left_comm (prt f),Int.mul_assoc];omega
 have hp:=Int.mul_nonneg (Int.mul_nonneg ht hf) (show 0<=prt h by rw[Z7n hfc];exact Int.mul_nonneg (Int.le_of_lt hc) hf);rw[alkE,h0];exact decide_eq_true (by simpa using hp)
end
theorem Zig{x:Vm}{r:List Int}(h:RcpOk x r){c:Int}(hc:0<c)(h6:c*r.sum<=6): RcpOk x (mulL c r):=by
 have hn:=Zal λn hn=>(h.bd n hn).1;refine⟨by rw[Z7i];exact h.len,λm hm=>?_,?_,by rw[Z4S];exact h6⟩
 ·obtain⟨n,hn1,rfl⟩:=List.mem_map.1 hm
  have h1:=h.bd n hn1;have h2:=Int.mul_le_mul_of_nonneg_left (hn n hn1) (Int.le_of_lt hc);exact⟨Int.mul_nonneg (Int.le_of_lt hc) h1.1,by omega⟩
 ·have:=Int.mul_le_mul_of_nonneg_left h.s1 (Int.le_of_lt hc)
  rw[Z4S];omega
theorem Zif{x:Vm}{r:List Int}(h:RcpOk x r){c:Int}(hc:0<c)(h6:¬c*r.sum<=6): rcpE x (mulL c r)=6\/rcpE x (mulL c r)=1:=by
 have hlen:(mulL c r).length=x.D.length:=by rw[Z7i,h.len]
 have h1:=Int.mul_le_mul_of_nonneg_left h.s1 (Int.le_of_lt hc);have hcn:cntE (mulL c r) x.D.length 6=if (mulL c r).all (λn=>!outB n 0 6)=true then 0 else 1:=by
  rw[cntE,if_neg (by omega),if_neg (by omega)]
 unfold rcpE;rw[hcn]
 by_cases ha:(mulL c r).all (λn=>!outB n 0 6)=true
 ·left
  rw[if_pos ha,if_neg (by simp),Z4S,sizE,if_neg (by omega),if_pos (by omega)]
 ·right
  rw[if_neg ha,if_pos (by simp)]
variable{μ:Nat}
def AtB(b:Nat)(x:Vm)(w:World):Prop:=∀W,Ext [b] w W->x.At W
theorem AtB.ext{x:Vm}(h:AtB b x w)(e:Ext [b] w W): AtB b x W:=λV k=>h V (e.trans k)
theorem AtB.at{x:Vm}(h:AtB b x w): x.At w:=h w (Ext.refl _ _)
def Zh8(x:Vm)(w0:World)(b k:Nat)(nv:Value)(w:World)(e:Ending)(w':World):Prop:=∃(a:Option Addr) (c:Nat) (xs:List Int),e = .returned (.slice a xs.length c)/\Z1L x xs/\w'.ownsRow w.heap.size 3 1 (.slice a xs.length c) xs.length (ivs xs)/\Zm w0 w' b (k+20) nv/\Ext [b] w w'
theorem Zjz{s p:Int}(h0:0<=s)(h1:s<=240)(hp:1<=p): 0<=s / p/\s / p<=240:=⟨Int.ediv_nonneg h0 (by omega),Int.le_trans (Int.ediv_le_self _ h0) h1⟩
theorem Z8p(x:Vm)(hv:VOk x)(w0 w:World)(b k:Nat)(nv:Value)(h:Zm w0 w b k nv)(hk:k<=900000)(hx:AtB b x w):
  Calls (Qy.prog μ) 25 #[.pointer (some ⟨b,0,none⟩),.agg #[.int .i64 x.B,.slice x.da x.D.length x.dc,.slice x.la x.L.length x.lc,.int .i64 x.tol]] w (Zh8 x w0 b k nv w):=by
 have HL:=h;have hbw:=Z2f HL;have hb0:=HL.1;have hws:w0.heap.size<=w.heap.size:=HL.2.2.1.size;have E:Ext [b] w w:=Ext.refl _ _;have HX:=Lib.hid hx;have HV:=Lib.hid hv;have hb1:=hv.b1;have hb3:=hv.b3;obtain⟨bn,hbn⟩:∃bn:Nat,x.B=bn:=⟨x.B.toNat,by omega⟩;clear h hv hx;have G:=((Bk.nil w).cl HL).ce E;refine(ent 49 Tryz.f25 rfl) λF=>wR λk1=>(F.bx G) λyy F G=>(F.m) λF=>k1<|wQ λk2=>?_
 have G2:=G;refine(wD [b] none G) λG=>(F.zr 0 (G.t 0) λhS=>F.lb (G2.k 0 hS)) λF=>(F.z 1 (G.t 0) F.mo) λF=>(F.zr 2 (G.t 0) λhS=>F.lb (G2.k 0 hS)) λF=>(aO 3)<|(F.ok (Z4o x HV.out w0 _ b _ nv (G.l 3) (by omega))) ?_
 rintro _ w3 ⟨ra,rl,rfl,hrl,ro,HL,e9⟩;refine⟨_,rfl,λF=>?_⟩;replace G:=G.xl 3 e9 HL;refine .intro (G.t 0) ?_;have hso:=Z8G (μ:=μ) x HV.out bn hbn rl hrl.len (λn hn=>hrl.bd n hn) ra x.D.length w3 (HX.out _ (G.e 2)) (by rw[hrl.len];exact Zv ro hrl.len.symm);rw[hrl.len]at hso;have hbX:=Z2f (G.l 3);refine(aO 4)<|(F.ok (hso)) ?_
 rintro _ w4 ⟨sa,rfl,so,e9⟩;refine⟨_,rfl,λF=>?_⟩;replace G:=G.ex e9;refine .intro (G.t 0) ?_;have hEs0:=(G.e 2).size;have hsl:(sumL x (val rl) bn).length=bn:=by simp[sumL]
 have HSS:=Lib.hid (Z02 so hsl.symm [b] (by simpa using hbX));clear ro so hso;have hs1:=hrl.s1;have hs6:=hrl.s6;have hsb:=Lib.hid (Z4e HV.out hrl.tub bn);replace G:=G.hr [b];refine(F.z 5 (G.t 1) F.mo) λF=>(F.z 6 (G.t 1) F.xt) λF=>(F.z 7 (G.t 1) F.xt) λF=>(F.z 8 (G.t 1) F.mo) λF=>(F.z 9 (G.t 1) F.mo) λF=>(aD)<|k2<|wR λk3=>(F.m) λF=>k3<|wQ λk4=>wQ λk5=>?_
 have oo:w4.ownsRow w4.heap.size 3 1 (.slice none 0 0) 0 (ivs []):=World.ownsRow_nil _ _ _ _;have hwS0:w.heap.size<=w4.heap.size:=(by exact hEs0);replace G:=G.co oo;refine Yg<|(F.m) λF=>k5<|Yh ?_
 replace G:=G.rL 5 (show Zm w0 w4 b (k+10+0) nv from ZA (G.l 5) (by omega));refine lpB (F.b [0,3,5,6]) (G.b [1,3,4]) (bn) (λi Lv Sv W=>∃va:Option Addr,∃vc:Nat,∃xs:List Int,Lv=[(7,.slice va i vc),(8,.int .i64 ((i:Nat):Int))]/\Sv=[.l w0 b (k+10+i) nv]/\W.ownsRow w4.heap.size 3 1 (.slice va i vc) i (ivs xs)/\xs.length=i/\(∀m∈xs,0<=m/\m<=9)) ⟨_,_,F.u,G.u,none,0,[],rfl,rfl,(G.o 0),rfl,(by simp)⟩ ?_;clear F G;rintro i _ w5 _ _ hi1 ⟨va,vc,xs,rfl,rfl,oo,hxl,hxb⟩ F G;replace G:=(G.z).co oo;refine wQ λk6=>wR λk7=>(F.m) λF=>(F.y (F.fd 0)) λF=>(F.y (F.lc (G.q 3))) λF=>?_;rw[hbn]at F;refine(F.y F.ls) λF=>k7<|F.ci (λhc20=>?_) (λhc20=>?_)
 ·refine Yi<|k6<|wQ λk8=>Yh ?_
  obtain⟨hq0,hq1⟩:=hsb.out _ (Zb 0 (show i<(sumL x (val rl) bn).length by omega));obtain⟨hd0,hd1⟩:=Zjz hq0 hq1 hs1;have G4:=G;refine(wD [b] (some 13) G) λG=>(F.z 0 (G.t 0) F.mo) λF=>(F.z 1 (G.t 0) F.mo) λF=>(F.z 2 (G.t 0) F.mo) λF=>?_;obtain⟨xb9,xo9,xa9,xr9⟩:=HSS.out i (by omega);refine(F.z 3 (G.t 0) (F.is 1 xa9)) λF=>(F.zR 4 [6,10,11,12,13] (G.t 0) λhS=>F.l1 (xr9 _ ((G4.e 2).trans hS)) 0) λF=>(F.z 5 (G.t 0) F.mo) λF=>?_;refine F.z 6 (G.t 0) (Zgd rfl (F.at rfl) (F.at rfl) (by omega) (by omega) (by omega)) (h:=λF=>?_);refine(F.z 7 (G.t 0) F.mo) λF=>(aO 8)<|(F.obs G 1 #[.int .i64 0,.int .i64 0,.int .i64 1] Qy.zeroValue3) @λn31 w7 _ yy F G=>.intro (G.t 1)<|(aO 9)<|(F.ok (Zdv w0 _ b _ nv n31 _ [0,0,1] (G.l 3) (by omega) (G.q 0) (by omega) (by decide) (by decide))) ?_
  rintro _ w8 ⟨v,rfl,hvm,HL,e9⟩;refine⟨_,rfl,λF=>?_⟩;replace G:=G.xl 3 e9 HL;refine .intro (G.t 1) ?_;have hv1:0<=v/\v<=1:=by simp only[Yc,Ya,or_false]at hvm;omega
  replace G:=G.d 0;refine(F.z 10 (G.t 0) F.ad) λF=>(F.z 11 (G.t 0) F.mn) λF=>(aO 12)<|(F.obs G 1 #[.int .i64 (min 9 ((((sumL x (val rl) bn).getD i 0) / rl.sum)+v))] Qy.zeroValue3) λyy F G=>.intro (G.t 1) ?_
  have hzE:=(G.e 4).size;replace G:=G.d 1;refine ZN (i:=13) (by kernel_rfl) (Zip F rfl rfl (by decide) (F.want rfl) (ZX rfl (w4.heap.size) (e:=3) (size:=1) (bytes:=8) Qy.underlying22 (by kernel_rfl) (by decide) (F.at rfl) (G.o 1) (F.at rfl) (G.q 0) rfl (by simp[Value.oneCell']) (by omega) (by omega) (by omega)) ?_);clear F;rintro _ v' w10 F ⟨hown',hg⟩;obtain⟨va36,vc36,rfl⟩:=Zw hown';replace G:=(G.d 0).gr 0 hg hown';clear hg hown';refine .intro (gone (by kernel_rfl)) ?_;have oo:=G.o 0;rw[Z1f]at oo;have hx2:(xs++[min 9 ((sumL x (val rl) bn).getD i 0 / rl.sum+v)]).length=i+1:=by rw[Ym,hxl];rfl
  have hx3:∀m∈xs++[min 9 ((sumL x (val rl) bn).getD i 0 / rl.sum+v)],0<=m/\m<=9:=by intro m hm;rcases List.mem_append.1 hm with hm | hm;(· exact hxb m hm);(· simp only[Yc,Ya,or_false]at hm;subst hm;omega)
  replace G:=G.rO 0 oo;clear oo;refine(F.z 14 (gone (by kernel_rfl)) F.mo) λF=>(aD)<|k8<|Yg<|(F.m) λF=>(F.y F.ad) λF=>(F.m) λF=>?_
  replace G:=G.rL 1 (show Zm w0 w10 b (k+10+(i+1)) nv from ZA (G.l 1) (by omega));show _/\_;exact⟨by omega,_,_,F.u,G.u,_,_,_,rfl,rfl,(G.o 0),hx2,hx3⟩
 ·refine wp_exit ?_
  have oo:=G.o 0;rw[show i=bn by omega]at F oo hxl;replace G:=G.rO 0 oo;clear oo;refine k4<|wQ λk10=>wR λk11=>(F.m) λF=>?_
  replace G:=G.d 2;refine(F.k (Z7p w0 _ b _ nv 4 (G.l 1) (by omega) (by omega) (by omega))) ?_;rintro _ w11 ⟨r,rfl,HL,e9⟩;refine⟨_,rfl,λF=>?_⟩;replace G:=G.xl 1 e9 HL;refine k11<|F.cb (λhc38=>?_) (λhc38=>?_)
  ·refine Yg<|(F.m) λF=>(F.m) λF=>(F.y (F.fd 0)) λF=>(F.y (F.lc (G.q 2))) λF=>(F.y F.sb) λF=>?_
   rw[hbn]at F;refine(F.k (Z0K w0 _ b _ nv (((bn:Nat):Int)-1) (G.l 1) (by omega) (by omega) (by omega))) ?_;rintro _ w12 ⟨u,rfl,hu0,hu1,HL,e9⟩;refine⟨_,rfl,λF=>?_⟩;replace G:=G.xl 1 e9 HL;obtain⟨u,rfl⟩:=Int.eq_ofNat_of_zero_le hu0;refine(F.m) λF=>(F.k (Z0K w0 _ b _ nv 9 (G.l 1) (by omega) (by omega) (by omega))) ?_;rintro _ w13 ⟨z,rfl,hz0,hz1,HL,e9⟩;refine⟨_,rfl,λF=>?_⟩;replace G:=G.xl 1 e9 HL;have oo:=G.o 0;have HS:=Lib.hid (Z02 oo hxl.symm [] (by simp));have hil:=Z2a xs;replace G:=G.hr [];obtain⟨xb12,xo12,xa12,xr12⟩:=HS.out u (by omega);refine(F.y (F.is 1 xa12)) λF=>?_;replace G:=G.d 0;obtain⟨⟨u0,hcu⟩,hfu,hst⟩:=Z3k (G.o 0) xa12 (j:=u) (p:=xo12+((u:Nat):Int).toNat*1) (by first | omega | (simp;omega)) (by omega);refine Z0T rfl (F.want rfl) (Z05 rfl (F.at rfl) (F.at rfl) rfl (by kernel_rfl) hcu hfu) ?_;intro w14 hw;obtain⟨hown',hg⟩:=hst _ _ hw;replace G:=G.gr 0 hg hown';clear hst hcu hfu hw hg hown';have oo:=G.o 0;rw[Z2b]at oo;have hx2:(xs.set u z).length=bn:=by rw[List.length_set];exact hxl
   have hx3:∀m∈xs.set u z,0<=m/\m<=9:=by intro m hm;rcases List.mem_or_eq_of_mem_set hm with hm | rfl;(· exact hxb m hm);(· omega)
   replace G:=G.rO 0 oo;clear oo;refine k10<|wR λk13=>(F.m) λF=>(F.m) λF=>k13<|(F.r1) ?_
   have oo:=G.o 0;exact⟨va,vc,xs.set u z,by rw[hx2],⟨by rw[hx2,hbn],hx3⟩,by rw[hx2];exact Z0v oo hwS0,ZA (G.l 1) (by omega),(G.e 3)⟩
  ·refine Yi<|k10<|wR λk14=>(F.m) λF=>(F.m) λF=>k14<|(F.r1) ?_
   have oo:=G.o 0;exact⟨va,vc,xs,by rw[hxl],⟨by rw[hxl,hbn],hxb⟩,by rw[hxl];exact Z0v oo hwS0,ZA (G.l 1) (by omega),(G.e 3)⟩
variable{μ:Nat}
theorem Z84{B:Int}:∀(ds met:List (List Int)),(∀d∈ds,numE d B 9=0)->(met++ds).Nodup->dyeE B met ds=0
 | [],_,_,_=>rfl
 | d::ds,met,h,hn=>by
  rw[dyeE,if_neg (by simp[h d (by simp)])];have h1:d ∉ met:=λhm=>by
   rw[List.nodup_append]at hn;exact hn.2.2 d hm d (by simp) rfl
  rw[if_neg h1];exact Z84 ds (met++[d]) (λe he=>h e (by simp[he])) (by simpa using hn)
theorem Z68{B:Int}:∀(ls:List (List Int)),(∀l∈ls,numE l B 3=0/\l.sum≠0)->Z2e B ls=0
 | [],_=>rfl
 | l::ls,h=>by
  obtain⟨h1,h2⟩:=h l (by simp);rw[Z2e,if_neg (by simp[h1]),if_neg h2];exact Z68 ls λm hm=>h m (by simp[hm])
theorem ZkW{x:Vm}(b1:1<=x.B)(b3:x.B<=3)(d1:1<=x.D.length)(d4:x.D.length<=4)(dl:∀p∈x.D,(p.2.length:Int)=x.B/\∀n∈p.2,0<=n/\n<=9)(nd:(x.D.map (·.2)).Nodup)(l1:1<=x.L.length)(l3:x.L.length<=3)(ll:∀p∈x.L,(p.2.length:Int)=x.B/\∀n∈p.2,0<=n/\n<=3)(ls:∀p∈x.L,p.2.sum≠0)(t0:0<=x.tol)(t12:x.tol<=12):VOk x:=by
 refine⟨?_,b1,b3,d1,d4,dl,l1,l3,ll,t0,t12⟩;have h2:sizE ((x.D.map (·.2)).length:Nat) 4=0:=Z7t (by simp;omega) (by simp;omega);have h4:sizE ((x.L.map (·.2)).length:Nat) 3=0:=Z7t (by simp;omega) (by simp;omega);have h3:dyeE x.B [] (x.D.map (·.2))=0:=Z84 _ _ (λd hd=>by obtain⟨p,hp,rfl⟩:=List.mem_map.1 hd;exact Z9q (dl p hp).1 (dl p hp).2) (by simpa using nd);have h5:Z2e x.B (x.L.map (·.2))=0:=Z68 _ (λd hd=>by obtain⟨p,hp,rfl⟩:=List.mem_map.1 hd;exact⟨Z9q (ll p hp).1 (ll p hp).2,ls p hp⟩);rw[chk6 (Z1g.2 ⟨b1,b3⟩) h2 h3 h4 h5,Z1g.2 ⟨t0,t12⟩]
 rfl
theorem Zft{size m: Nat}{cs:List Value}(h:w.ownsRow base e size (.slice a m c) n cs): n<=c:=by
 rcases h.2 with⟨hv,hn⟩ | ⟨g,cap,cur,hv,-,-,hn,-⟩
 ·injection hv with h1 h2 h3;omega
 ·injection hv with h1 h2 h3;omega
theorem ZhV{b2: Nat}{M:List (Value×List Int)}(oo:w.ownsRow base 22 1 (.slice a M.length c) M.length (M.map (·.1)))(fam:FamT w b2 M)(e:Ext [b] w W)(h1:b<base)(h2:b<b2): Z0M W a M:=
 Z49 (Z0D oo e (by simpa using h1)) (Z0X fam λv n xs h=>Z0D h e (by simpa using h2))
def Zh9(dm:Nat)(w0:World)(b k:Nat)(nv:Value)(w:World)(e:Ending)(w':World):Prop:=∃x:Vm,e = .returned (.agg #[.int .i64 x.B,.slice x.da x.D.length x.dc,.slice x.la x.L.length x.lc,.int .i64 x.tol])/\VOk x/\(x.D.length<=dm/\x.D.length<=x.dc/\x.tol<=6)/\AtB b x w'/\Zm w0 w' b (k+100) nv/\Ext [b] w w'
theorem Zel(dm:Nat)(hdm1:1<=dm)(hdm:dm<=4)(w0 w:World)(b k:Nat)(nv:Value)(h:Zm w0 w b k nv)(hk:k<=800000):
  Calls (Qy.prog μ) 13 #[.pointer (some ⟨b,0,none⟩),.int .i64 ((dm:Nat):Int)] w (Zh9 dm w0 b k nv w):=by
 have HL:=h;have hbw:=Z2f HL;have hb0:=HL.1;have hws:w0.heap.size<=w.heap.size:=HL.2.2.1.size;have E:Ext [b] w w:=Ext.refl _ _;clear h;have G:=((Bk.nil w).cl HL).ce E;refine(ent 66 Tryz.f13 rfl) λF=>wR λk1=>(F.al G Qy.zeroValue27) @λn4 w1 _ yy F G=>k1<|wR λk2=>(F.m) λF=>(F.k (Z8c w0 _ b _ nv 1 3 (G.l 2) (by omega) (by omega) (by omega) (by omega) (by omega))) ?_
 rintro _ w2 ⟨bz,rfl,hbz1,hbz2,HL,e9⟩;refine⟨_,rfl,λF=>?_⟩;replace G:=G.xl 2 e9 HL;obtain⟨bn,rfl⟩:=Int.eq_ofNat_of_zero_le (show 0<=bz by omega);refine(F.m) λF=>(F.m) λF=>(F.k (Z0K w0 _ b _ nv 6 (G.l 2) (by omega) (by omega) (by omega))) ?_;rintro _ w3 ⟨u,rfl,hu0,hu1,HL,e9⟩;refine⟨_,rfl,λF=>?_⟩;replace G:=G.xl 2 e9 HL;refine(F.bs G 1 #[.int .i64 0,.int .i64 1,.int .i64 1,.int .i64 2,.int .i64 u] Qy.zeroValue3) @λn15 w4 _ yy F G=>(F.k (Zdv w0 _ b _ nv n15 _ [0,1,1,2,u] (G.l 3) (by omega) (G.q 0) (by omega) (by simp) (by simp))) ?_;rintro _ w5 ⟨tl,rfl,htm,HL,e9⟩;refine⟨_,rfl,λF=>?_⟩;replace G:=G.xl 3 e9 HL;have htl:0<=tl/\tl<=6:=by simp only[Yc,Ya,or_false]at htm;omega
 replace G:=G.d 0;refine(F.y (F.bv #[.int .i64 ((bn:Nat):Int),.slice none 0 0,.slice none 0 0,.int .i64 tl])) λF=>(F.al G Qy.zeroValue27) @λn5 w6 _ yy F G=>(F.sr G 0) λG=>k2<|wQ λk3=>wR λk4=>(F.m) λF=>(F.m) λF=>(F.k (Z8c w0 _ b _ nv 1 ((dm:Nat):Int) (G.l 3) (by omega) (by omega) (by omega) (by omega) (by omega))) ?_
 rintro _ w8 ⟨n,rfl,hn1,hn2,HL,e9⟩;refine⟨_,rfl,λF=>?_⟩;replace G:=G.xl 3 e9 HL;refine(F.m) λF=>?_;rw[show n=n-((0:Nat):Int) by omega]at F;have hb4:=Z3 (G.q 1);have hb5:=Z3 (G.q 0);have hbb:=Z2f (G.l 3);have hwR0:w.heap.size<=w8.heap.size:=by exact(G.e 2).size
 have oo:w8.ownsRow w8.heap.size 22 1 (.slice none 0 0) 0 (([]:List (Value×List Int)).map (·.1)):=World.ownsRow_nil _ _ _ _;have fam:FamT w8 w8.heap.size []:=ZcS _ _;replace G:=((G.hr [b,n5]).co oo).cf fam;refine k4<|Yh ?_
 replace G:=G.rL 6 (show Zm w0 w8 b (k+4+10*0) nv from ZA (G.l 6) (by omega));refine lpB (F.b [0,4,5]) (G.b [2,4,5]) (dm) (λi Lv Sv W=>∃da:Option Addr,∃dc:Nat,∃O:List (Value×List Int),Lv=[(6,.int .i64 (n-((i:Nat):Int)))]/\Sv=[.q n5 (#[.int .i64 ((bn:Nat):Int),.slice da O.length dc,.slice none 0 0,.int .i64 tl]) 27,.l w0 b (k+4+10*i) nv]/\W.ownsRow w8.heap.size 22 1 (.slice da O.length dc) O.length (O.map (·.1))/\FamT W w8.heap.size O/\(∀p∈O,(p.2.length:Int)=bn/\∀m∈p.2,0<=m/\m<=9)/\(O.map (·.2)).Nodup/\O.length<=i/\(0<i->0<O.length)/\(i:Int)<=n) ⟨_,_,F.u,G.u,none,0,[],rfl,rfl,(G.o 1),(G.f 0),(by simp),(by simp),(by simp),(by simp),(by omega)⟩ ?_;clear F G;rintro i _ w9 _ _ hi1 ⟨da,dc,O,rfl,rfl,oo,fam,hOB,hnd,hOl,hO1,hin⟩ F G;replace G:=((G.z).co oo).cf fam;refine wQ λk5=>wR λk6=>(F.m) λF=>(F.y F.gt) λF=>k6<|F.ci (λhc22=>?_) (λhc22=>?_)
 ·refine Yi<|k5<|wQ λk7=>Yh<|wR λk8=>(F.m) λF=>(F.y (F.fd 0)) λF=>(F.y (F.lc (G.q 2))) λF=>?_
  have fam:=G.f 0;have hflt:=Lib.hid (Zgw fam);obtain⟨B1,hB1⟩:∃B1,B1=w9.heap.size:=⟨_,rfl⟩;rw[<-hB1]at hflt;have hB1w:w8.heap.size<=B1:=by rw[hB1];exact(G.e 4).size
  refine(F.k (Z5L w0 _ b _ nv bn 9 (G.l 3) (by omega) (by omega) (by omega) (by omega))) ?_;rintro _ w10 ⟨ra,rc,xs,rfl,hxl,hxb,ro,HL,e9⟩;refine⟨_,rfl,λF=>?_⟩;replace G:=G.xl 3 e9 HL;rw[<-hB1]at ro;replace G:=G.co ro;refine(F.m) λF=>k8<|wR λk9=>(F.y (F.fd 1)) λF=>(F.y (F.lc (G.q 3))) λF=>(F.m) λF=>?_
  have ro:=G.o 0;have fam:=G.f 1;have oo:=G.o 2;have hin2:=Zf4 (μ:=μ) O xs da ra dc rc w10 (Z49 oo fam) (by rw[hxl];exact Zv ro hxl.symm) (by omega) (λp hp=>by have:=(hOB p hp).1;omega) (by omega);rw[hxl]at hin2;refine(F.k (hin2)) ?_;rintro _ w11 ⟨rfl,e9⟩;refine⟨_,rfl,λF=>?_⟩;replace G:=G.ex e9;clear hin2;refine(F.y F.nd) λF=>k9<|F.ci (λhc33=>?_) (λhc33=>?_)
  ·have ro:=G.o 0
   have fam:=G.f 1;have fam2:=Zac (Zab (b1:=B1) (L:=[(Value.slice ra bn rc,xs)]) ⟨λp hp=>(by obtain rfl:p=(Value.slice ra bn rc,xs):=(by simpa using hp);rw[show ((Value.slice ra bn rc,xs):Value×List Int).2.length=bn from hxl];exact ro),List.pairwise_singleton _ _⟩ fam hflt.out hB1w) (M:=O++[(Value.slice ra bn rc,xs)]) List.perm_append_comm;have fam:=fam2;clear fam2;obtain⟨P,hP⟩:∃P,P=O++[(Value.slice ra bn rc,xs)]:=⟨_,rfl⟩;have hPl:O.length+1=P.length:=by rw[hP,Ym];rfl
   rw[<-hP]at fam;have hPB:∀p∈P,(p.2.length:Int)=bn/\∀m∈p.2,0<=m/\m<=9:=by intro p hp;rw[hP]at hp;rcases List.mem_append.1 hp with hp | hp;(· exact hOB p hp);(· simp only[Yc,Ya,or_false]at hp;subst hp;exact⟨by show ((xs.length:Nat):Int)=_;omega,hxb⟩)
   have hPn:(P.map (·.2)).Nodup:=by rw[hP,List.map_append,List.nodup_append];exact⟨hnd,by simp,λy hy z hz=>by simp only[List.map_cons,List.map_nil,Yc,Ya,or_false]at hz;subst hz;intro e;subst e;exact hc33 hy⟩
   replace G:=G.rF 1 fam;clear fam;refine Yg<|(F.y (F.fd 1)) λF=>(F.y (F.lc (G.q 3))) λF=>(F.m) λF=>(F.bs G 1 #[.slice ra bn rc] Qy.zeroValue22) λyy F G=>?_
   have hEs:=(G.e 6).size;have ro:=G.o 1;replace G:=G.d 1;refine ZK F rfl (by decide) (F.want rfl) (ZX rfl (w8.heap.size) (e:=22) (size:=1) (bytes:=24) Qy.underlying25 (by kernel_rfl) (by decide) (F.at rfl) (G.o 2) (F.at rfl) (G.q 0) rfl (by simp[Value.oneCell']) (by omega) (by omega) (by omega)) ?_;clear F;rintro _ v' w13 F ⟨hown',hg⟩;obtain⟨va38,vc38,rfl⟩:=Zw hown';replace G:=(G.d 0).gr 1 hg hown';clear hg hown';have oo:=G.o 1;rw[show O.map (·.1)++[Value.slice ra bn rc]=P.map (·.1) by rw[hP,List.map_append];rfl,hPl]at oo;rw[hPl]at F;replace hOB:=hPB;replace hnd:=hPn;replace hOl:P.length<=i+1:=by omega
   replace hO1:0<i+1->0<P.length:=λ_=>by omega
   replace G:=G.rO 1 oo;clear oo;refine(F.y (F.fd 1)) λF=>(F.st G 2) @λw14 G=>k7<|Yg<|(F.m) λF=>(F.y F.sb) λF=>?_
   rw[show n-((i:Nat):Int)-1=n-((i+1:Nat):Int) by omega]at F;refine(F.m) λF=>?_;replace G:=G.rL 3 (show Zm w0 w14 b (k+4+10*(i+1)) nv from ZA (G.l 3) (by omega));show _/\_;exact⟨by omega,_,_,F.u,G.u,_,_,_,rfl,rfl,(G.o 1),(G.f 0),hOB,hnd,hOl,hO1,(by omega)⟩
  ·have hOne:0<O.length:=by have:=Classical.not_not.1 hc33;rcases O with _ | ⟨p,O⟩;(· simp at this);(· simp)
   replace hOl:O.length<=i+1:=by omega
   replace hO1:0<i+1->0<O.length:=λ_=>hOne;refine Yi<|k7<|Yg<|(F.m) λF=>(F.y F.sb) λF=>?_
   rw[show n-((i:Nat):Int)-1=n-((i+1:Nat):Int) by omega]at F;refine(F.m) λF=>?_;replace G:=G.rL 4 (show Zm w0 w11 b (k+4+10*(i+1)) nv from ZA (G.l 4) (by omega));show _/\_;exact⟨by omega,_,_,F.u,G.u,_,_,_,rfl,rfl,(G.o 2),(G.f 1),hOB,hnd,hOl,hO1,(by omega)⟩
 ·refine wp_exit<|k3<|wQ λk10=>wQ λk11=>?_
  have oo:=G.o 1;have hdcap:=Zft oo;have fam:=G.f 0;have hDl:∀W,Ext [b,n4,n5] w9 W->Z0M W da O:=λW e=>Z49 (Z0D oo e (by simp;omega)) (Z0X fam λv n xs h=>Z0D h e (by simp;omega));have HDl:=Lib.hid hDl;clear hDl;have hwL0:w.heap.size<=w9.heap.size:=by exact(G.e 6).size
  replace G:=G.hr [b,n4,n5];refine Yg<|(F.m) λF=>?_
  have fam:=G.f 1;have oo:=G.o 2;replace G:=G.b [0,3,4,6,7];refine(F.k (Z8c w0 _ b _ nv 1 3 (G.l 2) (by omega) (by omega) (by omega) (by omega) (by omega))) ?_;rintro _ w15 ⟨m,rfl,hm1,hm2,HL,e9⟩;refine⟨_,rfl,λF=>?_⟩;replace G:=G.xl 2 e9 HL;refine(F.m) λF=>?_;rw[show m=m-((0:Nat):Int) by omega]at F;have oo:w15.ownsRow w9.heap.size 22 1 (.slice none 0 0) 0 (([]:List (Value×List Int)).map (·.1)):=World.ownsRow_nil _ _ _ _;have fam:FamT w15 w9.heap.size []:=ZcS _ _;have hOd:O.length<=dm:=by omega
  replace hO1:0<O.length:=hO1 (by omega);replace G:=(G.co oo).cf fam;refine k11<|Yh ?_
  replace G:=G.rL 4 (show Zm w0 w15 b (k+5+10*dm+10*0) nv from ZA (G.l 4) (by omega));refine lpB (F.b [0,4,5]) (G.b [2,5,6]) (3) (λj Lv Sv W=>∃la:Option Addr,∃lc:Nat,∃Q:List (Value×List Int),Lv=[(8,.int .i64 (m-((j:Nat):Int)))]/\Sv=[.q n5 (#[.int .i64 ((bn:Nat):Int),.slice da O.length dc,.slice la Q.length lc,.int .i64 tl]) 27,.l w0 b (k+5+10*dm+10*j) nv]/\W.ownsRow w9.heap.size 22 1 (.slice la Q.length lc) Q.length (Q.map (·.1))/\FamT W w9.heap.size Q/\(∀p∈Q,(p.2.length:Int)=bn/\∀m∈p.2,0<=m/\m<=3)/\(∀p∈Q,p.2.sum≠0)/\Q.length=j/\(j:Int)<=m) ⟨_,_,F.u,G.u,none,0,[],rfl,rfl,(G.o 1),(G.f 0),(by simp),(by simp),rfl,(by omega)⟩ ?_;clear F G;rintro j _ w16 _ _ hi2 ⟨la,lc,Q,rfl,rfl,oo,fam,hQB,hQs,hQl,hjm⟩ F G;replace G:=((G.z).co oo).cf fam;refine wQ λk12=>wR λk13=>(F.m) λF=>(F.y F.gt) λF=>k13<|F.ci (λhc43=>?_) (λhc43=>?_)
  ·refine Yi<|k12<|wQ λk14=>Yh<|wR λk15=>(F.m) λF=>(F.y (F.fd 0)) λF=>(F.y (F.lc (G.q 2))) λF=>?_
   have fam:=G.f 0;have hflt:=Lib.hid (Zgw fam);obtain⟨B1,hB1⟩:∃B1,B1=w16.heap.size:=⟨_,rfl⟩;rw[<-hB1]at hflt;have hB1w:w9.heap.size<=B1:=by rw[hB1];exact(G.e 4).size
   refine(F.k (Z5L w0 _ b _ nv bn 3 (G.l 3) (by omega) (by omega) (by omega) (by omega))) ?_;rintro _ w17 ⟨ra,rc,xs,rfl,hxl,hxb,ro,HL,e9⟩;refine⟨_,rfl,λF=>?_⟩;replace G:=G.xl 3 e9 HL;rw[<-hB1]at ro;replace G:=G.co ro;refine(F.m) λF=>k15<|wR λk16=>(F.m) λF=>(F.m) λF=>(F.y (F.fd 0)) λF=>(F.y (F.lc (G.q 3))) λF=>(F.y F.sb) λF=>(F.k (Z0K w0 _ b _ nv (((bn:Nat):Int)-1) (G.l 4) (by omega) (by omega) (by omega))) ?_
   rintro _ w18 ⟨v,rfl,hv0,hv1,HL,e9⟩;refine⟨_,rfl,λF=>?_⟩;replace G:=G.xl 4 e9 HL;obtain⟨v,rfl⟩:=Int.eq_ofNat_of_zero_le hv0;refine(F.m) λF=>(F.k (Z8c w0 _ b _ nv 1 3 (G.l 4) (by omega) (by omega) (by omega) (by omega) (by omega))) ?_;rintro _ w19 ⟨z,rfl,hz1,hz2,HL,e9⟩;refine⟨_,rfl,λF=>?_⟩;replace G:=G.xl 4 e9 HL;have ro:=G.o 0;have HS:=Lib.hid (Z02 ro hxl.symm [] (by simp));have hil:=Z2a xs;replace G:=G.hr [];obtain⟨xb17,xo17,xa17,xr17⟩:=HS.out v (by omega);refine(F.y (F.is 1 xa17)) λF=>?_;replace G:=G.d 0;obtain⟨⟨u0,hcu⟩,hfu,hst⟩:=Z3k (G.o 0) xa17 (j:=v) (p:=xo17+((v:Nat):Int).toNat*1) (by first | omega | (simp;omega)) (by omega);refine Z0T rfl (F.want rfl) (Z05 rfl (F.at rfl) (F.at rfl) rfl (by kernel_rfl) hcu hfu) ?_;intro w20 hw;obtain⟨hown',hg⟩:=hst _ _ hw;have ro:=(G.o 0);have fam:=G.f 1;replace G:=G.d 1;replace fam:=ZcR fam hflt.out ro hg;replace G:=(G.gr 0 hg hown').cf fam;clear hst hcu hfu hw hg hown';have ro:=G.o 1;rw[Z2b]at ro;replace G:=G.rO 1 ro;clear ro;obtain⟨ys,hys⟩:∃ys,ys=xs.set v z:=⟨_,rfl⟩;have hyl:ys.length=bn:=by rw[hys,List.length_set];exact hxl
   have hyb:∀q∈ys,0<=q/\q<=3:=by intro q hq;rw[hys]at hq;rcases List.mem_or_eq_of_mem_set hq with hq | rfl;(· exact hxb q hq);(· omega)
   have hysum:ys.sum≠0:=by have h1:=Zal (xs:=ys) (λq hq=>(hyb q hq).1) z (by rw[hys];exact List.mem_set (by omega) z);omega
   have ro:=G.o 1;rw[<-hys]at ro;replace G:=G.rO 1 ro;clear ro;refine k16 ?_;have fam:=G.f 0;have ro:=G.o 1;have fam2:=Zac (Zab (b1:=B1) (L:=[(Value.slice ra bn rc,ys)]) ⟨λp hp=>(by obtain rfl:p=(Value.slice ra bn rc,ys):=(by simpa using hp);rw[show ((Value.slice ra bn rc,ys):Value×List Int).2.length=bn from hyl];exact ro),List.pairwise_singleton _ _⟩ fam hflt.out hB1w) (M:=Q++[(Value.slice ra bn rc,ys)]) List.perm_append_comm;have fam:=fam2;clear fam2;obtain⟨P,hP⟩:∃P,P=Q++[(Value.slice ra bn rc,ys)]:=⟨_,rfl⟩;have hPl:Q.length+1=P.length:=by rw[hP,Ym];rfl
   rw[<-hP]at fam;have hPB:∀p∈P,(p.2.length:Int)=bn/\∀m∈p.2,0<=m/\m<=3:=by intro p hp;rw[hP]at hp;rcases List.mem_append.1 hp with hp | hp;(· exact hQB p hp);(· simp only[Yc,Ya,or_false]at hp;subst hp;exact⟨by show ((ys.length:Nat):Int)=_;omega,hyb⟩)
   have hPs:∀p∈P,p.2.sum≠0:=by intro p hp;rw[hP]at hp;rcases List.mem_append.1 hp with hp | hp;(· exact hQs p hp);(· simp only[Yc,Ya,or_false]at hp;subst hp;exact hysum)
   replace G:=G.rF 0 fam;clear fam;refine Yg<|(F.y (F.fd 2)) λF=>(F.y (F.lc (G.q 3))) λF=>(F.m) λF=>(F.bs G 1 #[.slice ra bn rc] Qy.zeroValue22) λyy F G=>?_
   have hEs:=(G.e 6).size;replace G:=G.d 2;refine ZK F rfl (by decide) (F.want rfl) (ZX rfl (w9.heap.size) (e:=22) (size:=1) (bytes:=24) Qy.underlying25 (by kernel_rfl) (by decide) (F.at rfl) (G.o 2) (F.at rfl) (G.q 0) rfl (by simp[Value.oneCell']) (by omega) (by omega) (by omega)) ?_;clear F;rintro _ v' w22 F ⟨hown',hg⟩;obtain⟨va63,vc63,rfl⟩:=Zw hown';replace G:=(G.d 0).gr 1 hg hown';clear hg hown';have oo:=G.o 1;rw[show Q.map (·.1)++[Value.slice ra bn rc]=P.map (·.1) by rw[hP,List.map_append];rfl,hPl]at oo;rw[hPl]at F;replace hQB:=hPB;replace hQs:=hPs;replace hQl:P.length=j+1:=by omega
   replace G:=G.rO 1 oo;clear oo;refine(F.y (F.fd 2)) λF=>(F.st G 2) @λw23 G=>k14<|Yg<|(F.m) λF=>(F.y F.sb) λF=>?_
   rw[show m-((j:Nat):Int)-1=m-((j+1:Nat):Int) by omega]at F;refine(F.m) λF=>?_;replace G:=G.rL 3 (show Zm w0 w23 b (k+5+10*dm+10*(j+1)) nv from ZA (G.l 3) (by omega));show _/\_;exact⟨by omega,_,_,F.u,G.u,_,_,_,rfl,rfl,(G.o 1),(G.f 0),hQB,hQs,hQl,(by omega)⟩
  ·refine wp_exit<|k10<|wR λk18=>(F.y (F.lb (G.q 2))) λF=>(F.sr G 5) λG=>k18 ?_
   refine(F.rg (rs_c F rfl rfl Qy.underlying27 rfl (by kernel_rfl) (G.q 5))) ?_;have hbL:b<w9.heap.size:=by omega
   have fam:=G.f 0;have oo:=G.o 1;refine⟨{B:=((bn:Nat):Int),D:=O,da:=da,dc:=dc,L:=Q,la:=la,lc:=lc,tol:=tl},rfl,ZkW (by simp only;omega) (by simp only;omega) (by simp only;omega) (by simp only;omega) hOB hnd (by simp only;omega) (by simp only;omega) hQB hQs (by simp only;omega) (by simp only;omega),⟨hOd,hdcap,htl.2⟩,λW e=>⟨HDl.out W ((G.e 4).trans (e.mono (by simp))),ZhV oo fam e hbL hbL⟩,ZA (G.l 3) (by omega),(G.e 6)⟩
end
section
open Go.RowKit Ev
variable{μ:Nat}
theorem Zdm{x:Vm}{l s:List Int}(h:RcpOk x l): matA x l s=Z0z x.L.length λk=>matE x (val l) (val s) [((k:Nat):Int)]:=if_pos (Z1y.2 h)
theorem Zaq{x:Vm}(hv:VOk x)(l s:List Int):(matA x l s).length<=3:=by
 have hl3:=hv.l3;unfold matA
 split
 ·exact Yd (Z3f _ _) hl3
 ·simp
theorem lawW(a0:Option Addr)(len0 cap0:Nat)(z0:List Int)(w:World)(h:Zb1 .i64 w a0 len0 cap0 z0):Calls (Qy.prog 0) 8 #[.slice a0 len0 cap0] w λe w'=>Lift.LawV Lift.PreL e w':=by
 have E:Ext [] w w:=Ext.refl _ _;have G:=(Bk.nil w).ce E;refine(ent 124 Tryz.f8 rfl) λF=>wR λk1=>(F.m) λF=>k1<|wR λk2=>(F.m) λF=>(F.k (Z9p (μ:=0) w a0 len0 cap0 z0 h)) ?_
 rintro _ w1 ⟨b,rfl,hbw0,hbw1,HL,e9⟩;refine⟨_,rfl,λF=>?_⟩;replace G:=(G.ex e9).cl HL;refine(F.m) λF=>k2<|wR λk3=>(F.m) λF=>(F.k (Zel (μ:=0) 4 (by decide) (by decide) w _ b _ _ (G.l 0) (by omega))) ?_
 rintro _ w2 ⟨x,rfl,hv,hd3,hxb,HL,e9⟩;refine⟨_,rfl,λF=>?_⟩;replace G:=G.xl 0 e9 HL;have HV:=Lib.hid hv;have HXB:=Lib.hid hxb;have hl1:=hv.l1;have hl3:=hv.l3;have hd1:=hv.d1;have hd4:=hv.d4;have hb1:=hv.b1;have hb3:=hv.b3;have ht0:=hv.t0;clear hv hxb;replace G:=G.hr [b];refine(F.al G Qy.zeroValue27) λyy F G=>(F.sr G 0) λG=>k3<|wQ λk4=>?_
 have G2:=G;refine(wD [b] none G) @λw5 G=>(F.z 0 (G.t 0) F.mo) λF=>(F.zr 1 (G.t 0) λhS=>F.lb (G2.k 0 hS)) λF=>(F.z 3 (G.t 0) F.mo) λF=>(F.zr 4 (G.t 0) λhS=>F.lb (G2.k 0 hS)) λF=>?_;obtain⟨B2,hB2⟩:∃B2,B2=w5.heap.size:=⟨_,rfl⟩;have hb2:b<B2:=by rw[hB2];exact Z2f (G.l 3)
 refine(aO 2)<|(F.ok (Z4o (μ:=0) x HV.out w _ b _ _ (G.l 3) (by omega))) ?_
 rintro _ w6 ⟨ra,r,rfl,hr,ro,HL,e9⟩;refine⟨_,rfl,λF=>?_⟩;replace G:=G.xl 3 e9 HL;refine .intro (G.t 0) ?_;rw[<-hB2]at ro;replace G:=G.co ro;obtain⟨B3,hB3⟩:∃B3,B3=w6.heap.size:=⟨_,rfl⟩;have hbb3:b<B3:=by rw[hB3];exact Z2f (G.l 4)
 refine(aO 5)<|(F.ok (Z8p (μ:=0) x HV.out w _ b _ _ (G.l 4) (by omega) (HXB.out.ext (G.e 3)))) ?_
 rintro _ w7 ⟨sa,sc,s,rfl,hs,so,HL,e9⟩;refine⟨_,rfl,λF=>?_⟩;replace G:=G.xl 4 e9 HL;refine .intro (G.t 1) ?_;rw[<-hB3]at so;replace G:=G.co so;refine(F.z 6 (G.t 2) F.mo) λF=>(F.z 7 (G.t 2) F.mo) λF=>(aD) ?_;have hxd:=HXB.out _ (G.e 4);have ro:=G.o 1;have HR:=Lib.hid (Zv ro hr.len.symm);have so:=G.o 0;have HSR:=Lib.hid (Zv so rfl);have HXD:=Lib.hid hxd;clear hxd;have HRO:=Lib.hid hr;have HSO:=Lib.hid hs;have hrl:=hr.len;have hr1:=hr.s1;have hr6:=hr.s6;clear hr hs;obtain⟨bn,hbn⟩:∃bn:Nat,x.B=bn:=⟨x.B.toNat,by omega⟩;have hpr:prt (val r)=r.sum:=Z5I r 4 (by omega);have hsl:(sumL x (val r) bn).length=bn:=by simp[sumL]
 replace G:=G.hr [];refine k4<|wR λk5=>(F.y (F.lb (G.q 4))) λF=>(F.m) λF=>?_
 have hst:=Z8G (μ:=0) x HV.out bn hbn r hrl HRO.out.bd ra x.D.length w7 (HXD.out.ext (G.e 0)) (by rw[hrl];exact HR.out.ext (G.e 0) (by simp));rw[hrl]at hst;refine(F.k (hst)) ?_;rintro _ w8 ⟨ua,rfl,uo,e9⟩;refine⟨_,rfl,λF=>?_⟩;replace G:=G.ex e9;clear hst;have HU:=Lib.hid (Zv uo hsl.symm);clear uo;replace G:=G.hr [];refine(F.m) λF=>(F.y F.xt) λF=>(F.y F.xt) λF=>(F.m) λF=>(F.m) λF=>k5<|wR λk6=>(F.y (F.lb (G.q 5))) λF=>(F.m) λF=>?_
 have hst:=Zg9 (μ:=0) x HV.out bn hbn r HRO.out ra x.D.length w8 (HXD.out.ext (G.e 1)) (by rw[hrl];exact HR.out.ext (G.e 1) (by simp));rw[hrl,hpr]at hst;refine(F.k (hst)) ?_;rintro _ w9 ⟨va,rfl,vo,e9⟩;refine⟨_,rfl,λF=>?_⟩;replace G:=G.ex e9;clear hst;have HV2:=Lib.hid (Zv vo hsl.symm);clear vo;replace G:=G.hr [];refine(F.m) λF=>(F.y F.xt) λF=>(F.y F.xt) λF=>(F.y F.xt) λF=>(F.m) λF=>(F.m) λF=>(F.m) λF=>k6<|wR λk7=>(F.y (F.lb (G.q 6))) λF=>(F.m) λF=>(F.m) λF=>?_
 have hst:=Z5G x HV.out r s (by omega) HSO.out ra sa x.D.length sc w9 (HXD.out.ext (G.e 2)) (by rw[hrl];exact HR.out.ext (G.e 2) (by simp)) (HSR.out.ext (G.e 2) (by simp));rw[hrl,Z1y.2 HRO.out]at hst;refine(F.kp (hst)) ?_;rintro _ w10 (⟨⟨rfl,-⟩,e9⟩ | ⟨y1,rfl,hI1,-,e9⟩)
 ·refine .inl ⟨_,rfl,?_⟩
  replace G:=G.ex e9
  (try simp only[Exit.inBlock,Exit.then,Exit.jump,reduceIte])
  refine⟨F.ds,?_⟩;exact Lift.lawV_m HV.out (HXD.out.ext (G.e 2)) (Lift.rcp_ne HRO.out) (by omega) HSO.out hrl rfl (HR.out.ext (G.e 2) (by simp)) (HSR.out.ext (G.e 2) (by simp))
 refine .inr ⟨_,rfl,λF=>?_⟩;replace G:=G.ex e9;clear hst;obtain⟨ya1,yc1,rfl,hY1⟩:=Z5h hI1;clear hI1;have hL1n:=Zaq HV.out r s;obtain⟨L1,hL1⟩:∃L1,L1=matA x r s:=⟨_,rfl⟩;rw[<-hL1]at F hY1 hL1n;rw[Zdm HRO.out]at hL1;have HY1:=Lib.hid hY1;clear hY1;replace G:=G.hr [];refine(F.m) λF=>(F.y F.xt) λF=>(F.y F.xt) λF=>(F.m) λF=>(F.m) λF=>k7<|wQ λk8=>wQ λk9=>?_
 replace G:=G.b [0,1,2,3,7,10];refine Yg<|(F.m) λF=>(F.y F.neF) λF=>(F.m) λF=>(F.m) λF=>(F.y F.neF) λF=>(F.y F.pF) λF=>(F.m) λF=>(F.m) λF=>(F.m) λF=>(F.y F.neF) λF=>(F.y F.pF) λF=>(F.m) λF=>(F.m) λF=>(F.m) λF=>?_
 have hsi:=Z0c (μ:=0) (sumL x (val r) bn) (sumL x (val r) bn) va ua bn bn w10 (by rw[hsl];exact HV2.out.ext (G.e 1) (by simp)) (by rw[hsl];exact HU.out.ext (G.e 2) (by simp)) (by omega) (by omega);rw[hsl,decide_eq_true (show sumL x (val r) bn=sumL x (val r) bn from rfl)]at hsi;refine(F.k (hsi)) ?_;rintro _ w11 ⟨rfl,e9⟩;refine⟨_,rfl,λF=>?_⟩;replace G:=G.ex e9;clear hsi;refine(F.y F.nb) λF=>(F.y F.pF) λF=>k9<|(F.cF)<|Yi<|k8<|wQ λk10=>wR λk11=>(F.m) λF=>k11<|Yh<|lpC (F.b [4,5,6,8,12]) G (2) (λj=>[(14,.int .i64 ((j+2:Nat):Int))]) F.u @λ_ w12 j hi1 F G=>wQ λk12=>wR λk13=>(F.m) λF=>(F.y F.le) λF=>k13<|F.ci (λhc68=>?_) (λhc68=>?_)
 ·refine Yi<|k12<|wQ λk14=>Yh<|wQ λk15=>?_
  obtain⟨c,hc⟩:∃c:Int,c=((j+2:Nat):Int):=⟨_,rfl⟩;have hc0:0<c:=by omega
  have hc3:c<=3:=by omega
  rw[<-hc]at F;have hml:(mulL c r).length=x.D.length:=by rw[Z7i,hrl]
  refine Yg<|(F.m) λF=>(F.m) λF=>?_
  have hst:=Zei (μ:=0) r HRO.out.bd (by omega) c (by omega) hc3 ra x.D.length w12 (by rw[hrl];exact HR.out.ext (G.e 3) (by simp));rw[hrl]at hst;refine(F.k (hst)) ?_;rintro _ w13 ⟨ta,tc,rfl,oT,e9⟩;refine⟨_,rfl,λF=>?_⟩;replace G:=G.ex e9;clear hst;have HT:RowKit.Hid (Z8 w13 (.slice ta x.D.length tc) 1 ((mulL c r).map Z7)):=Lib.hid (Zv oT hml.symm);clear oT;obtain⟨er,her⟩:∃er,er=rcpE x (mulL c r):=⟨_,rfl⟩;replace G:=G.hr [];refine(F.m) λF=>k15<|wR λk16=>(F.y (F.lb (G.q 5))) λF=>(F.m) λF=>(F.m) λF=>?_
  have hst:=Z5G x HV.out (mulL c r) s (by omega) HSO.out ta sa tc sc w13 (HXD.out.ext (G.e 4)) (by rw[hml];exact HT.out.ext (G.e 0) (by simp)) (HSR.out.ext (G.e 4) (by simp));rw[hml,<-her]at hst;refine(F.kp (hst)) ?_;rintro _ w14 (⟨⟨rfl,-⟩,e9⟩ | ⟨y2,rfl,hI2,-,e9⟩)
  ·refine .inl ⟨_,rfl,?_⟩
   replace G:=G.ex e9
   (try simp only[Exit.inBlock,Exit.then,Exit.jump,reduceIte])
   refine⟨F.ds,?_⟩;exact Lift.lawV_m HV.out (HXD.out.ext (G.e 4)) (by intro e;rw[e]at hml;simp at hml;omega) (by omega) HSO.out hml rfl (HT.out.ext (G.e 0) (by simp)) (HSR.out.ext (G.e 4) (by simp))
  refine .inr ⟨_,rfl,λF=>?_⟩;replace G:=G.ex e9;clear hst;obtain⟨ya2,yc2,rfl,hY2⟩:=Z5h hI2;clear hI2;have hL2n:=Zaq HV.out (mulL c r) s;obtain⟨L2,hL2⟩:∃L2,L2=matA x (mulL c r) s:=⟨_,rfl⟩;rw[<-hL2]at F hY2 hL2n;have HY2:=Lib.hid hY2;clear hY2;replace G:=G.hr [];refine(F.m) λF=>(F.y F.xt) λF=>(F.y F.xt) λF=>(F.m) λF=>(F.m) λF=>k16<|wR λk17=>(F.y (F.lb (G.q 6))) λF=>(F.m) λF=>(F.m) λF=>?_
  have hst:=Z8D x HV.out r (mulL c r) HRO.out (by omega) ra ta x.D.length tc w14 (HXD.out.ext (G.e 5)) (by rw[hrl];exact HR.out.ext (G.e 5) (by simp)) (by rw[hml];exact HT.out.ext (G.e 1) (by simp));rw[hml,hrl,<-her]at hst;refine(F.kp (hst)) ?_;rintro _ w15 (⟨⟨rfl,-⟩,e9⟩ | ⟨y3,rfl,hI3,-,e9⟩)
  ·refine .inl ⟨_,rfl,?_⟩
   replace G:=G.ex e9
   (try simp only[Exit.inBlock,Exit.then,Exit.jump,reduceIte])
   refine⟨F.ds,?_⟩;exact Lift.lawV_a HV.out (HXD.out.ext (G.e 5)) HRO.out (by intro e;rw[e]at hml;simp at hml;omega) (by omega) hrl hml (HR.out.ext (G.e 5) (by simp)) (HT.out.ext (G.e 1) (by simp))
  refine .inr ⟨_,rfl,λF=>?_⟩;replace G:=G.ex e9;clear hst;obtain⟨ya3,yc3,rfl,hY3⟩:=Z5h hI3;clear hI3 hY3;have hL3n:=Z6A HV.out r (mulL c r);obtain⟨L3,hL3⟩:∃L3,L3=alkA x r (mulL c r):=⟨_,rfl⟩;rw[<-hL3]at F hL3n;refine(F.m) λF=>(F.y F.xt) λF=>(F.y F.xt) λF=>(F.m) λF=>(F.m) λF=>k17<|wQ λk18=>wR λk19=>(F.m) λF=>(F.m) λF=>?_
  have hcm:=Z0V (show 0<=c by omega) hc3 (show 0<=r.sum by omega) hr6 (C:=18) (by omega);refine(F.y F.ml) λF=>(F.y F.gt) λF=>k19<|F.ci (λhc91=>?_) (λhc91=>?_)
  ·refine wQ λk20=>wQ λk21=>?_
   by_cases he:er=6
   ·refine Yg<|(F.m) λF=>(F.y F.neF) λF=>(F.m) λF=>(F.n) λF=>(F.n) λF=>(F.y F.pF) λF=>(F.m) λF=>(F.m) λF=>(F.m) λF=>(F.y F.neF) λF=>(F.y F.pF) λF=>k21<|(F.cF)<|Yi<|k20<|wp_exit<|k14<|Yg<|(F.m) λF=>(F.y F.ad) λF=>?_
    rw[show c+1=((j+1+2:Nat):Int) by omega]at F;refine(F.m) λF=>?_;show _/\_;exact⟨by omega,F.u,G.u⟩
   ·have he1:er=1:=by have:=Zif HRO.out hc0 (show ¬c*r.sum<=6 by omega);omega
    refine Yg<|(F.m) λF=>(F.y F.neT) λF=>(F.m) λF=>(F.m) λF=>(F.y F.neF) λF=>(F.y F.pT) λF=>(F.m) λF=>(F.m) λF=>(F.m) λF=>(F.y F.neF) λF=>(F.y F.pF) λF=>k21<|(F.cF)<|Yi<|k20<|wp_exit<|k14<|Yg<|(F.m) λF=>(F.y F.ad) λF=>?_
    rw[show c+1=((j+1+2:Nat):Int) by omega]at F;refine(F.m) λF=>?_;show _/\_;exact⟨by omega,F.u,G.u⟩
  ·have hOK:=Zig HRO.out hc0 (by omega)
   have he0:er=0:=her.trans (Z1y.2 hOK);refine Yi<|k18<|wQ λk22=>?_
   have hmv:∀k,val (mulL c r) k=c*val r k:=Zfk c r;have hLL:L2=L1:=by rw[hL2,Zdm hOK,hL1];exact Z48 λk _=>Zic x k hmv hc0 _
   have hL3a:L3.length=x.L.length:=by rw[hL3,alkA,if_pos (Z1y.2 hOK)];exact Zf7 λk _=>Zhf x k hmv ht0 (by rw[hpr];omega) hc0
   refine Yg<|(F.m) λF=>(F.y F.neF) λF=>(F.m) λF=>(F.m) λF=>(F.y F.neF) λF=>(F.y F.pF) λF=>(F.m) λF=>(F.m) λF=>(F.m) λF=>?_
   have hsi:=Z0c (μ:=0) L2 L1 ya2 ya1 yc2 yc1 w15 (HY2.out.ext (G.e 0) (by simp)) (HY1.out.ext (G.e 2) (by simp)) (by omega) (by omega);rw[decide_eq_true hLL]at hsi;refine(F.k (hsi)) ?_;rintro _ w16 ⟨rfl,e9⟩;refine⟨_,rfl,λF=>?_⟩;replace G:=G.ex e9;clear hsi;refine(F.y F.nb) λF=>(F.y F.pF) λF=>(F.m) λF=>(F.m) λF=>(F.y F.ln) λF=>(F.y (F.fd 2)) λF=>(F.y (F.lc (G.q 6))) λF=>(F.y F.ln) λF=>(F.y F.neF) λF=>(F.y F.pF) λF=>k22<|(F.cF)<|Yi<|k14<|Yg<|(F.m) λF=>(F.y F.ad) λF=>?_
   rw[show c+1=((j+1+2:Nat):Int) by omega]at F;refine(F.m) λF=>?_;show _/\_;exact⟨by omega,F.u,G.u⟩
 ·refine wp_exit<|k10<|wR λk23=>(F.k0 G (Z6W (μ:=0) _)) λF G=>(F.m) λF=>k23<|(F.r1) ?_
  exact .inl rfl
end
namespace Lift
open Go Go.Conc Go.RowKit Ev
open Go.ConcM (OsLater)
noncomputable def lB:Code:=(Tryz.f8.body).getD (.refuse "")
theorem ZhN:Tryz.f8.body=some lB:=by kernel_rfl
noncomputable def lF:Frame:={(default:Frame) with fn:=lawF,kind:=.normal}
noncomputable def lA(xs:Array Value):Act:={tmps:=xs++Array.replicate (Tryz.f8.ntmps-xs.size) undef,defers:=[]}
theorem Z3A{Q:Program}(h:Q.funcs[(lawF:Nat)]?=some Tryz.f8)(xs:Array Value): Frame.enter Q lawF xs .normal=lF.at (lA xs) [.code lB]:=by
 simp[Frame.enter,Frame.at,h,ZhN,lF,lA]
theorem lawP:PP.funcs[(lawF:Nat)]?=some Tryz.f8:=by kernel_rfl
theorem lawQ:(Qy.prog 0).funcs[(lawF:Nat)]?=some Tryz.f8:=by kernel_rfl
theorem cl0:ZT PP gJ jmpB true true true false lB=true:=by kernel_rfl
theorem ZhQ:PP.inits.idxOf? lawF=none:=by kernel_rfl
theorem ZkO{f:Nat}(h:gJ f=true): gS f=true:=by
 have h1:=Z65 (ZjR h);unfold gS;rw[List.elem_iff];exact List.mem_append_left _ h1
theorem VR.dup{x y:Value}(h:@VR (jkV TL) (idS S) x y): @VR jk0 (idS S) x x:=by
 have nm:∀{b c:Nat},idS S b=some c->idS S b=some b:=λh=>Z1E (Z0x h).1;have ar:∀{a b:Addr},AR (idS S) a b->AR (idS S) a a:=λh=>by
  cases h with
  | mk q=>exact .mk (nm q)
 induction h with
 | bool b=>exact @VR.bool jk0 _ b
 | int k n=>exact @VR.int jk0 _ k n
 | string s=>exact @VR.string jk0 _ s
 | ptr0=>exact @VR.ptr0 jk0 _
 | ptr q=>exact @VR.ptr jk0 _ _ _ (ar q)
 | sl0 n c=>exact @VR.sl0 jk0 _ n c
 | sl n c q=>exact @VR.sl jk0 _ _ _ n c (ar q)
 | map0=>exact @VR.map0 jk0 _
 | map q=>exact @VR.map jk0 _ _ _ (nm q)
 | func hf hx _ hy _ ih ih2 =>
  refine @VR.func jk0 _ _ _ _ _ _ _ ?_ rfl (λi a b p q=>?_) rfl (λi a b p q=>?_)
  ·cases hf with
   | func f h=>exact @FnR.func jk0 _ f (ZkO h)
   | yield q=>exact @FnR.yield jk0 _ _ _ (nm q)
  ·rw[p]at q
   obtain rfl:=Y1 q;obtain⟨b,hb⟩:∃b,_=some b:=⟨_,Y2 (hx▸(Y0.1 p).1)⟩;exact ih i a b p hb
  ·rw[p]at q
   obtain rfl:=Y1 q;obtain⟨b,hb⟩:∃b,_=some b:=⟨_,Y2 (hy▸(Y0.1 p).1)⟩;exact ih2 i a b p hb
 | func0=>exact @VR.func0 jk0 _
 | iface t _ ih=>exact @VR.iface jk0 _ _ _ t ih
 | iface0=>exact @VR.iface0 jk0 _
 | agg hs _ ih =>
  refine @VR.agg jk0 _ _ _ rfl λi a b p q=>?_;rw[p]at q;obtain rfl:=Y1 q;obtain⟨b,hb⟩:∃b,_=some b:=⟨_,Y2 (hs▸(Y0.1 p).1)⟩;exact ih i a b p hb
 | tuple hs _ ih =>
  refine @VR.tuple jk0 _ _ _ rfl λi a b p q=>?_;rw[p]at q;obtain rfl:=Y1 q;obtain⟨b,hb⟩:∃b,_=some b:=⟨_,Y2 (hs▸(Y0.1 p).1)⟩;exact ih i a b p hb
 | junk _ _ _ _=>exact @VR.junk jk0 _ _ (.inr rfl) (by unfold J0;simp) ⟨by unfold J0;simp,by unfold J0;simp⟩ (by unfold J0;simp)
theorem ZhP(e:Ending)(u:World)(T:Nat->Question->Nat)(h:LawV PreL e (re u T)):LawV PreL e u:=by
 rcases h with h | ⟨t,xs,h0,h1,h2⟩
 ·exact .inl h
 ·exact .inr ⟨t,xs,h0,h1,Ziu h2⟩
theorem Zf9:@Z0L (jkV TL) PP ((jkV TL).law lawF) (¬(jkV TL).gd lawF) false lB:=by
 have:=@Z27 (jkV TL) PP gJ true (λf q=>q) (λq=>by cases q) jmpB ZhM lB true true false cl0;have e1:(true=true)=((jkV TL).law lawF):=by
  show (true=true)=(lawF=lawF);simp
 have e2:(true=true)=(¬(jkV TL).gd lawF):=by
  show (true=true)=(¬gJ lawF=true);have:gJ lawF=false:=by decide
  simp[this]
 rw[<-e1,<-e2];exact this
theorem Zk0{a:Act}(ht:@VRs (jkV TL) (idS S) a.tmps a.tmps)(hd:a.defers=[]): @Stk (jkV TL) PP (Qy.F 0) (idS S) [lF.at a [.code lB]] [lF.at a [.code lB]]:=by
 have hown:(Qy.F 0)[(lawF:Nat)]?=PP.funcs[(lawF:Nat)]?:=lawQ.trans lawP.symm;letI:Jk:=jkV TL;obtain⟨tm,df⟩:=a;obtain rfl:df=[]:=hd;refine⟨.cons ?_ .nil,⟨.inl rfl,λh=>absurd rfl h⟩,trivial⟩;refine @FrR.mk (jkV TL) PP (Qy.F 0) (idS S) _ _ ?c1 ?c2 ?c3 ?c4 ?c5 ?c6 ?c7 ?c8
 case c1=>exact(rfl:(lawF:Nat)=lawF)
 case c2=>exact hown
 case c3=>exact ht
 case c5=>exact⟨.nil,λ_=>rfl⟩
 case c6=>exact .run
 case c7=>exact⟨(rfl:CallKind.normal = .normal),.inl (rfl:CallKind.normal = .normal)⟩
 case c8=>exact .none
 case c4=>exact .cons (.code Zf9) .nil
theorem Zfa{xs:Array Value}(h:@VRs (jkV TL) (idS S) xs xs): @VRs (jkV TL) (idS S) (lA xs).tmps (lA xs).tmps:=by
 letI:Jk:=jkV TL;unfold lA;dsimp only;exact Arr.append h (Arr.replicate _ .undef)
theorem law_run(W:World)(a0:Option Addr)(len0 cap0:Nat)(z0:List Int)(h:Zb1 .i64 W a0 len0 cap0 z0)(hb:∀x,a0=some x->x.spot=none/\∃cs e fz,W.heap[x.block]?=some (.cells cs e fz)):
  Run PP (Zja W) (solo (G (Frame.enter PP lawF #[.slice a0 len0 cap0] .normal) []) W) #[]:=by
 obtain⟨S,hS⟩:∃S:Nat->Prop,S=λb=>∃x,a0=some x/\b=x.block:=⟨_,rfl⟩;have hpv:PV S (.slice a0 len0 cap0):=by
  cases a0 with
  | none=>trivial
  | some x=>show S x.block;rw[hS];exact⟨x,rfl,rfl⟩
 obtain⟨v,hsh,hwh,hshut⟩:=@Z1S (jkV TL) S W PP (Qy.F 0) trivial (λc hc=>by
  rw[hS]at hc;obtain⟨x,e,rfl⟩:=hc;exact(hb x e).2)
 have hrow:∀T,Zb1 .i64 (re v T) a0 len0 cap0 z0:=by
  intro T
  rcases h with h | ⟨x,rfl,h1,h2,h3,h4,h5⟩
  ·exact .inl h
  ·refine .inr ⟨x,rfl,h1,h2,h3,λi hi=>?_,h5⟩
   obtain⟨bb,off,sp⟩:=x;obtain⟨rfl,_⟩:=hb _ rfl;have e:∀n,(⟨bb,off,none⟩:Addr).add n=⟨bb,off+n,none⟩:=λn=>by
    unfold Addr.add
    split
    ·rename_i q;subst q;rfl
    ·rfl
   have h6:=h4 i hi;rw[e]at h6⊢;letI:Jk:=jkV TL;exact Z6Q (S:=S) (w:=W) (w1:=W) (v2:=re v T) (λ_ _=>rfl) ⟨hsh.size,hsh.os,hsh.at_⟩ (b:=bb) (o:=off+i) (by rw[hS];exact⟨_,rfl,rfl⟩) h6 trivial
 have hvr:@VRs (jkV TL) (idS S) #[.slice a0 len0 cap0] #[.slice a0 len0 cap0]:=@Arr.one (jkV TL) _ _ (@VR (jkV TL) (idS S)) _ _ (@PV.vr (jkV TL) S _ hpv);have hvr0:@VRs jk0 (idS S) #[.slice a0 len0 cap0] #[.slice a0 len0 cap0]:=@Arr.one jk0 _ _ (@VR jk0 (idS S)) _ _ (@PV.vr jk0 S _ hpv);have hw0:@WH jk0 (@Iv jk0 (Qy.prog 0) (Qy.F 0)) (idS S) v v:=by
  refine @WH.mk jk0 _ _ _ _ (λb c hbc=>?_) (Zd1 S) rfl;obtain⟨hs,rfl⟩:=Z0x hbc;obtain⟨o,o',g1,g2,g3⟩:=@WH.on (jkV TL) _ _ _ _ hwh _ _ hbc;obtain⟨cs,e,g4⟩:=hshut _ _ hbc;rw[g1]at g4;obtain rfl:=Y1 g4;refine⟨_,_,g1,g1,?_⟩
  cases g3 with
  | cells q hf =>
   refine @OR.cells jk0 _ _ _ _ _ _ _ ⟨rfl,λi x y p1 p2=>?_⟩ (.inr rfl);rw[p1]at p2;obtain rfl:=Y1 p2;obtain⟨z,hz⟩:∃z,_=some z:=⟨_,Y2 (q.1▸(Y0.1 p1).1)⟩;exact VR.dup (q.2 i x z p1 hz)
 have hE0:=@Z28 jk0 (Qy.prog 0) (Qy.F 0) (λf=>gS f=true) (idS S) v v Z37 gokS recS lawF #[.slice a0 len0 cap0] #[.slice a0 len0 cap0] (by decide) hvr0 hw0 (LawV PreL) ZhP (λu q=>by
   rcases q with q | ⟨_,_,_,q,_⟩<;>cases q) (λT=>lawW a0 len0 cap0 z0 (re v T) (hrow T))
 have hfr0:=@Z1b jk0 (Qy.prog 0) (Qy.F 0) (λf=>gS f=true) (idS S) Z37 lawF #[.slice a0 len0 cap0] #[.slice a0 len0 cap0] hvr0 (by decide) gokS .normal (.inl rfl);have hself:@Self jk0 (Qy.prog 0) (Qy.F 0) [Frame.enter (Qy.prog 0) lawF #[.slice a0 len0 cap0] .normal,poison] v:=by
  letI:Jk:=jk0;refine⟨_,[],idS S,rfl,ZhL S,⟨.cons hfr0 .nil,⟨.inl ?_,λh=>absurd rfl h⟩,trivial⟩,⟨hw0.on,hw0.inj,λ_ _=>rfl,rfl⟩⟩;rw[Z3A lawQ]
  rfl
 rw[Z3A lawQ]at hself;have hE1:Ends (Qy.prog 0) (Done PP (Qy.F 0) lawF (LawV PreL)) [lF.at (lA #[.slice a0 len0 cap0]) [.code lB],poison] v:=by
  rw[<-Z3A lawQ];exact hE0
 have hst:=Zk0 (Zfa hvr) rfl;have hsure:=Zde TL PreL tgtL (R:=LawV PreL) (λt xs u q=>by
   rcases q with q | ⟨t',ys,h0,q,q2⟩
   ·cases q
   ·simp only[Ending.panicked.injEq,List.cons.injEq,and_true]at q
    obtain⟨rfl,rfl⟩:t=t'/\xs=ys:=by
     simp only[bunV]at q;simpa using q
    exact q2) (λx u q=>by
   rcases q with q | ⟨_,_,_,q,_⟩
   ·exact Ending.returned.inj q
   ·cases q) (λch u q=>by
   rcases q with q | ⟨t,ys,h0,q,q2⟩
   ·cases q
   ·exact⟨t,ys,h0,Ending.panicked.inj q⟩) ZhQ rfl hst hwh (λa b q=>hshut a b q) hself hE1
 rw[Z3A lawP];have hp:Past (Dk λ_=>False) W.heap.size #[]:=by
  have e:(Dk λ_=>False)=λ_=>False:=by
   funext l
   simp[Dk]
  rw[e];exact past_nil.mono (Nat.zero_le _)
 exact hsure W ⟨rfl,rfl,rfl⟩ #[run1 _ []] none #[] (λ_=>0) rfl (leavers_one _ _) hp
end Lift
namespace dyeParts
open Go Go.ChangeShapes Go.WideShapes Go.ChangeAt Go.RowKit Go.Conc Go.ConcM
open Go.ChangeMaps (open_string shut_string)
theorem k1:(Rows.dyePartsRow.wf (OpenSpec.ofChange Rows.dyePartsSpec):Bool)=true:=by kernel_rfl
theorem k4:(Tryz.f8.params.all (Tryz.pinned.checked.prog.readableRec ·):Bool)=true:=by kernel_rfl
theorem k5:(namedTie Tryz.pinned.checked.prog Rows.dyePartsRow.named Rows.dyePartsSpec.vars:Bool)=true:=by kernel_rfl
theorem k6:((Rows.dyePartsRow.stops==[]):Bool)=true:=by kernel_rfl
theorem k8:((Rows.dyePartsRow.knobs==[]):Bool)=true:=by kernel_rfl
theorem k10:((Rows.dyePartsRow.inPlace==Tryz.pinned.checked.prog.inPlace 8):Bool)=true:=by kernel_rfl
theorem k11:((Rows.dyePartsRow.unfollowed==Tryz.pinned.checked.prog.unfollowed 8):Bool)=true:=by kernel_rfl
theorem k12:((Rows.dyePartsRow.recurses==Tryz.pinned.checked.prog.recurses 8):Bool)=true:=by kernel_rfl
theorem k13:((Rows.dyePartsRow.named==Tryz.pinned.checked.prog.varsNamed 8):Bool)=true:=by kernel_rfl
theorem k14:((Rows.dyePartsRow.maps==(Tryz.f8.params.toList++Rows.dyePartsSpec.plain.varTypes Tryz.pinned.checked.prog).any (Tryz.pinned.checked.prog.mapsRec ·)):Bool)=true:=by kernel_rfl
theorem k15:((Rows.dyePartsRow.ifaces==(Tryz.f8.params.toList++Rows.dyePartsSpec.plain.varTypes Tryz.pinned.checked.prog).any (Tryz.pinned.checked.prog.ifacesRec ·)):Bool)=true:=by kernel_rfl
theorem k16:((Rows.dyePartsRow.mapsOut==Tryz.pinned.checked.prog.mapsAmong Tryz.f8.resultTypes.toList):Bool)=true:=by kernel_rfl
theorem k17:((Rows.dyePartsRow.loops==(Tryz.f8.params.toList++Rows.dyePartsSpec.plain.varTypes Tryz.pinned.checked.prog).any (Tryz.pinned.checked.prog.loopsFrom ·)):Bool)=true:=by kernel_rfl
theorem k18:((Rows.dyePartsRow.wideKeys==(Tryz.f8.params.toList++Rows.dyePartsSpec.plain.varTypes Tryz.pinned.checked.prog++Tryz.f8.resultTypes.toList).any (Tryz.pinned.checked.prog.wideKeysFrom ·)):Bool)=true:=by kernel_rfl
theorem k19:(Rows.dyePartsSpec.vars.all (Tryz.pinned.checked.prog.varReadable ·):Bool)=true:=by kernel_rfl
theorem k20:(Tryz.f8.resultTypes.all (λt=>Tryz.pinned.checked.prog.readableRec t&&decide (t<Tryz.pinned.checked.prog.types.size)):Bool)=true:=by kernel_rfl
theorem k21:((Rows.dyePartsRow.ifacesOut==Tryz.f8.resultTypes.toList.any (Tryz.pinned.checked.prog.ifacesRec ·)):Bool)=true:=by kernel_rfl
theorem k22:((Rows.dyePartsRow.loopsOut==Tryz.f8.resultTypes.toList.any (Tryz.pinned.checked.prog.loopsFrom ·)):Bool)=true:=by kernel_rfl
theorem k23:((Rows.dyePartsRow.plainKeys==Tryz.pinned.checked.prog.plainKeys):Bool)=true:=by kernel_rfl
theorem k24:(Rows.dyePartsRow.shortTexts.isNone:Bool)=true:=by kernel_rfl
theorem k27:((Rows.dyePartsRow.lifted==Tryz.pinned.checked.prog.liftsFinal):Bool)=true:=(congrArg (λx=>(Rows.dyePartsRow.lifted==x)) liftsFinal).trans (by kernel_rfl)
theorem k28:((Tryz.pinned.checked.prog.make==some Rows.dyePartsRow.make):Bool)=true:=(congrArg (λx=>(x==some Rows.dyePartsRow.make)) made).trans (by kernel_rfl)
theorem k29:((Rows.dyePartsRow.domain.isEmpty&&Rows.dyePartsRow.kinds==[]):Bool)=true:=by kernel_rfl
theorem k30:((Rows.dyePartsRow.pinned==Rows.dyePartsRow.pinnedBy):Bool)=true:=by kernel_rfl
theorem k31:((Rows.dyePartsRow.veiled==(Tryz.f8.params.toList++Rows.dyePartsSpec.plain.varTypes Tryz.pinned.checked.prog++Tryz.f8.resultTypes.toList).any (Tryz.pinned.checked.prog.veiledRec ·)):Bool)=true:=by kernel_rfl
theorem k32:(Rows.dyePartsRow.veiledFits Tryz.pinned.checked.prog Tryz.f8.params.toList (Tryz.f8.params.toList++Rows.dyePartsSpec.plain.varTypes Tryz.pinned.checked.prog++Tryz.f8.resultTypes.toList):Bool)=true:=by kernel_rfl
theorem closed:joinedFacts Tryz.pinned.checked.prog 8 Tryz.f8 Rows.dyePartsSpec Rows.dyePartsRow=true:=Z5Q k1 Zdb Zi6 k4 k5 k6 Ze9 k8 Zda k10 k11 k12 k13 k14 k15 k16 k17 k18 k19 k20 k21 k22 k23 k24 stopsHeard mayEnter k27 k28 k29 k30 k31 k32
theorem named:Tryz.pinned.checked.prog.funcNamed Rows.dyePartsRow.func=some 8:=by kernel_rfl
theorem inst:Tryz.f8.isInstance Tryz.pinned.checked.prog Rows.dyePartsRow.origin Rows.dyePartsRow.targs:=of_decide_eq_true (by kernel_rfl)
theorem wrap:Tryz.f8.isWrapper Tryz.pinned.checked.prog Rows.dyePartsRow.wrapper Rows.dyePartsRow.mainSum:=by unfold Func.isWrapper;first | (rw[if_pos (by decide +kernel)];kernel_rfl) | (rw[if_neg (by decide +kernel)];exact⟨rfl,rfl⟩)
theorem laidOut:laidOutB Tryz.prog=true:=Zdb
theorem noInit:Tryz.prog.inits.idxOf? 8=none:=by kernel_rfl
theorem sliceInt:Tryz.prog.cellsOf 3=1:=by kernel_rfl
theorem okWide_cells{P:Program}{r:Reach}{t: TypeId}(ht:P.underlying t=some (.slice e))(h:Value.okWide P w r base t (.slice a n c)): ∀x,a=some x->x.spot=none/\∃cs e fz,w.heap[x.block]?=some (.cells cs e fz):=by
 rintro x rfl;simp only[Value.okWide,ht,Cell.okWide,Cell.ok]at h;obtain⟨_,_,_,h1,row,cells,h2,_⟩:=h;refine⟨h1,?_⟩;unfold World.shape? at h2
 cases hh:w.heap[x.block]? with
 | none=>rw[hh]at h2;cases h2
 | some o =>
  cases o with
  | cells cs e fz=>exact⟨cs,e,fz,rfl⟩
  | _=>rw[hh]at h2;cases h2
theorem lifted(os:Os)(started:os.Started)(H:Type)(enc:TypeId×Value->H)(F:Stop.Interp):
  ReturnsInLeavingWide Rows.dyePartsRow.assume Tryz.checked os 8 .any (Rows.dyePartsSpec.pre6 enc Tryz.prog Tryz.f8 Rows.dyePartsRow.domain false) ((OpenSpec.ofChange Rows.dyePartsSpec).postWith enc Tryz.prog Tryz.f8 F (outsideKept [.timePasses]) false true false):=by
 refine returnsInLeavingWide_of_change_time (C:=Tryz.checked) own started Tryz.func8
  (ChangeSpec.witness6c (enc:=enc) (C:=Tryz.checked) ⟨#[],#[.slice none 0 0],[]⟩ 8 (by as_aux_lemma=>kernel_rfl) (by as_aux_lemma=>kernel_rfl) (by as_aux_lemma=>kernel_rfl) (by as_aux_lemma=>kernel_rfl)) ?_
 intro W base args ds gs before hval0 hW _ _ _;have hval:∀(j:Nat) t v,Tryz.f8.params[j]?=some t->args[j]?=some v->Value.okWide Tryz.prog W .any base t v:=hval0;have hW':=hW;obtain⟨p,q,hA0,hV,rfl,hfz,hnd⟩:=hW;have hA:DataW.TrodAll enc Tryz.prog W 0 (λ_=>true) true Tryz.f8.params.toList args.toList ds p:=hA0;rw[Tryz.params8]at hA hval;obtain⟨v0,vs0,d0,ds0,p0,q0,hargs,rfl,rfl,h0,r0⟩:=trodAll_cons hA;obtain⟨rfl,rfl,rfl⟩:=trodAll_nil r0;obtain rfl:args=#[v0]:=by cases args;simp_all
 obtain⟨rfl,rfl⟩:=trodVars_none hV;have hok:=hval 0 22 v0 rfl rfl;obtain⟨a0,len0,cap0,rfl⟩:=okWide_slice Tryz.underlying22 hok;have hcl:=okWide_cells Tryz.underlying22 hok;have k0:=h0;have lt0:∀x∈p0,x.block<W.heap.size:=by obtain⟨m,hm⟩:=k0;exact DataW.trod_lt m _ _ _ hm
 obtain⟨z0,w0⟩:∃zs,Zb1 .i64 W a0 len0 cap0 zs:=by
  obtain⟨fuel,hf⟩:=h0
  rcases open_ints Tryz.underlying22 Tryz.underlying3 sliceInt hf with⟨hcs,_⟩ | ⟨x,l,c,zs,hcs,_,hl,hm,hz,_,hcell,hwz⟩
  ·simp[Value.cells]at hcs
   obtain⟨rfl,rfl,rfl⟩:=hcs;exact⟨[],.inl ⟨rfl,rfl,rfl,rfl⟩⟩
  ·simp[Value.cells]at hcs
   obtain⟨rfl,rfl,rfl⟩:=hcs;exact⟨zs,.inr ⟨_,rfl,hl,hm,by simpa using hz,hcell,hwz⟩⟩
 clear hA0 hval0;obtain⟨M,last,o,w',t',r1,r2,r3,v,e,hp,g1,g2,g3,g4⟩:=Lift.law_run W a0 len0 cap0 z0 w0 hcl;refine⟨M,last,o,w',t',r1,r2,r3,v,e,⟨?_,hp.2.2.2.1⟩,g1,g2,g3,g4⟩;obtain⟨rfl,hold,hsz,_,hout⟩:=hp;have bel:Below W.heap.size W {w' with os:=W.os,tape:=W.tape}:=⟨rfl,rfl,hout,hsz,hold⟩;have hp2:Rows.dyePartsSpec.post enc Tryz.prog Tryz.f8 false true false false W #[.slice a0 len0 cap0] (.bool true) {w' with os:=W.os,tape:=W.tape}:=
  ⟨_,_,_,[],_,[],hW',trodAll_mk1 (shut_bool Tryz.underlying4 _),(trodAll_cons_mk (Below.trod laidOut (by as_aux_lemma=>kernel_rfl) (of_decide_eq_true (by as_aux_lemma=>kernel_rfl)) k0 bel lt0) trodAll_mk0),rfl,bel.frame _,λh=>by cases h⟩
 obtain⟨ds,gs,before,pr,pa,pv,q1,q2,q3,q4,q5,_⟩:=hp2;exact⟨ds,gs,before,pr,pa,pv,q1,q2.of_heap (by rfl),q3.of_heap (by rfl),q4.of_heap (by rfl),q5,λh=>by cases h⟩
theorem said:Rows.DyePartsSaid:=
 OpenClaim.holds_of_wide_leaving_time 8 Tryz.f8 rfl rfl rfl rfl rfl rfl rfl ⟨rfl,rfl,rfl,rfl,rfl⟩ rfl rfl rfl rfl rfl named Tryz.func8 closed
  inst wrap (λos started H enc _ F=>lifted os started H enc F)
end dyeParts
section
variable{μ:Nat}
theorem dyeParts_said:Rows.DyePartsSaid:=dyeParts.said
end
end Go.Proofs.YtfelljbfeoplhaaGreat
