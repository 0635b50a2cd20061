/- Parts of a proof. No conditions. -/
import Derived.Conc.DeferLaws
import Derived.Conc.MarkLaws
import Derived.Conc.SmallLaws
import Derived.Laws.IdiomCopy
import Derived.Laws.LoneSync
import Derived.Laws.Slices
import Derived.WideShapes
import Derived.Test.YtfelljbfeoplhaaGreatPkh2
import Derived.Test.YtfelljbfeoplhaaGreatPkh3
set_option linter.unusedVariables false
set_option linter.unusedSimpArgs false
set_option linter.unusedSectionVars false
set_option maxRecDepth 100000
set_option maxHeartbeats 4000000
namespace Go.Proofs.YtfelljbfeoplhaaGreat
variable{w:Go.World}{a:Option Go.Addr}{b base bn c d i k n:Nat}{B hi:Int}{l m xs:List Int}{x:Go.Operand}{y:Go.Value}{α:Type}{ds ls:List (List Int)}{M:List (Go.Value×List Int)}{f:Nat->Int}{g:Go.FuncId}{o:Go.Oper}{ρ ρ':Go.Operand->Go.Value}{ops:Array Go.Oper}
section
open Go.RowKit
variable{μ:Nat}
theorem ZdR(w0 w:World)(b k:Nat)(nv:Value)(h:Zi w0 w b k nv)(hk:k<=1000000):
  Calls (Qy.prog μ) 81 #[.pointer (some ⟨b,0,none⟩)] w λe w'=>∃v:Int,e = .returned (.int .u64 v)/\0<=v/\v<72057594037927936/\Zi w0 w' b (k+1) nv/\Ext [b] w w':=by
 obtain⟨hb,⟨na,nc,xs,rfl,hn⟩,E0,d,st,q,hd0,hdk,hs0,hs1⟩:=h;obtain⟨d,rfl⟩:=Int.eq_ofNat_of_zero_le hd0;have E:Ext [b] w w:=Ext.refl _ _;have HS:=Lib.hid (Z0N (X:=[b]) hn (λW e=>hn.ext e (by simp;omega)) 0);have G:=(Bk.nil w).ce E;replace G:=(G.ce E0).cq q;refine(ent 67 Tryz.f81 rfl) λF=>wR λk1=>(F.m) λF=>k1<|wR λk2=>(F.m) λF=>(F.m) λF=>(F.y F.nc) λF=>(F.y (F.fd 2)) λF=>(F.y (F.lc (G.q 0))) λF=>?_
 refine(F.y ((Zal rfl (F.at rfl) (ev_c _ _)))) λF=>?_;refine(F.y ((Z4W rfl (F.at rfl) (ev_c _ _)))) λF=>?_;obtain⟨s1,hs1'⟩:∃s1,s1=IntKind.u64.wrap (IntKind.u64.wrap (st*6364136223846793005)+1442695040888963407):=⟨_,rfl⟩;have hw1:=Z4T (IntKind.u64.wrap (st*6364136223846793005)+1442695040888963407);rw[<-hs1']at F hw1;refine(F.y F.nc) λF=>(F.y (F.fd 2)) λF=>(F.st G 0) λG=>k2<|wQ λk3=>wQ λk4=>(wX 9 G) λG=>(F.sm) λF=>(F.s F.nc) λF=>(F.s (F.fd 1)) λF=>(F.s (F.lc (G.q 0))) λF=>(F.sm) λF=>(F.s F.nc) λF=>(F.s (F.fd 0)) λF=>(F.s (F.lc (G.q 0))) λF=>(F.s F.ln) λF=>wpStill_nil<|(F.y F.ls) λF=>k4<|F.ci (λhc22=>?_) (λhc22=>?_)
 ·have hdx:d<xs.length:=by omega
  refine(wX 20 G) λG=>(F.sm) λF=>(F.sm) λF=>(F.s F.nc) λF=>(F.s (F.fd 2)) λF=>(F.s (F.lc (G.q 0))) λF=>(F.sm) λF=>(F.s F.nc) λF=>(F.s (F.fd 0)) λF=>(F.s (F.lc (G.q 0))) λF=>(F.sm) λF=>(F.s F.nc) λF=>(F.s (F.fd 1)) λF=>(F.s (F.lc (G.q 0))) λF=>(F.sx HS.out d) λxr5 F=>(F.s (F.l1 (xr5 _ (G.e 1)) 0)) λF=>?_;refine(F.s ((Z3l rfl (F.at rfl) Qy.underlying3 Qy.underlying75))) λF=>?_;refine(F.s ((Zal rfl (F.at rfl) (ev_c _ _)))) λF=>?_;refine(F.s ((Z4W rfl (F.at rfl) (F.at rfl)))) λF=>(F.s F.nc) λF=>(F.s (F.fd 2)) λF=>wpStill_nil<|(F.st G 0) λG=>?_
  obtain⟨s2,hs2'⟩:∃s2,s2=IntKind.u64.wrap (s1+IntKind.u64.wrap (IntKind.u64.wrap (xs.getD d 0)*2862933555777941757)):=⟨_,rfl⟩;replace hw1:=Z4T (s1+IntKind.u64.wrap (IntKind.u64.wrap (xs.getD d 0)*2862933555777941757));have q:=G.q 0;rw[<-hs2']at q hw1;replace G:=G.rQ 0 q;clear q;refine k3<|wR λk6=>(F.m) λF=>(F.y F.nc) λF=>(F.y (F.fd 1)) λF=>(F.y (F.lc (G.q 0))) λF=>(F.y F.ad) λF=>(F.y F.nc) λF=>(F.y (F.fd 1)) λF=>(F.st G 0) λG=>k6<|wQ λk7=>(wX 10 G) λG=>(F.sm) λF=>(F.s F.nc) λF=>(F.s (F.fd 2)) λF=>(F.s (F.lc (G.q 0))) λF=>(F.sm) λF=>(F.s F.nc) λF=>(F.s (F.fd 2)) λF=>?_
  refine(F.s (F.lc (G.q 0))) λF=>?_;refine(F.s ((Z9g (m:=29) rfl (F.at rfl) (ev_c _ _)))) λF=>?_;refine(F.s ((Zfi rfl (F.at rfl) (F.at rfl)))) λF=>wpStill_nil<|(F.m) λF=>k7<|wQ λk8=>?_
  replace F:=F.b [3];refine Yg<|(F.m) λF=>?_
  refine(F.y ((Zal rfl (F.at rfl) (ev_c _ _)))) λF=>?_;obtain⟨s3,hs3'⟩:∃s3,s3=IntKind.u64.wrap (bits .xor .u64 s2 (s2.fdiv (2 ^ min 29 IntKind.u64.bits))*2685821657736338717):=⟨_,rfl⟩;have hw3:=Z4T (bits .xor .u64 s2 (s2.fdiv (2 ^ min 29 IntKind.u64.bits))*2685821657736338717);rw[<-hs3']at F hw3;refine(F.m) λF=>k8<|wR λk9=>(F.m) λF=>(F.m) λF=>?_
  refine(F.y ((Z9g (m:=32) rfl (F.at rfl) (ev_c _ _)))) λF=>?_;refine(F.y ((Zfi rfl (F.at rfl) (F.at rfl)))) λF=>?_;refine(F.y ((Z9g (m:=8) rfl (F.at rfl) (ev_c _ _)))) λF=>(F.m) λF=>k9<|(F.r1) ?_
  have hf:=ZaF s3 (min 32 IntKind.u64.bits) hw3.1;have hx:=Zf9 s3 (s3.fdiv (2 ^ min 32 IntKind.u64.bits)) hw3 ⟨hf.1,oM⟩;exact⟨_,rfl,(shr8 hx).1,(shr8 hx).2,⟨hb,⟨na,nc,xs,rfl,hn⟩,(G.e 1),_,s2,(G.q 0),oM,oM,hw1.1,hw1.2⟩,(G.e 2)⟩
 ·obtain⟨s2,hs2'⟩:∃s2,s2=s1:=⟨_,rfl⟩;have q:=G.q 0;rw[<-hs2']at q hw1;replace G:=G.rQ 0 q;clear q;refine Yi<|k3<|wR λk10=>(F.m) λF=>(F.y F.nc) λF=>(F.y (F.fd 1)) λF=>(F.y (F.lc (G.q 0))) λF=>(F.y F.ad) λF=>(F.y F.nc) λF=>(F.y (F.fd 1)) λF=>(F.st G 0) λG=>k10<|wQ λk11=>(wX 10 G) λG=>(F.sm) λF=>(F.s F.nc) λF=>(F.s (F.fd 2)) λF=>(F.s (F.lc (G.q 0))) λF=>(F.sm) λF=>(F.s F.nc) λF=>(F.s (F.fd 2)) λF=>?_
  refine(F.s (F.lc (G.q 0))) λF=>?_;refine(F.s ((Z9g (m:=29) rfl (F.at rfl) (ev_c _ _)))) λF=>?_;refine(F.s ((Zfi rfl (F.at rfl) (F.at rfl)))) λF=>wpStill_nil<|(F.m) λF=>k11<|wR λk12=>(F.m) λF=>?_
  refine(F.y ((Zal rfl (F.at rfl) (ev_c _ _)))) λF=>?_;obtain⟨s3,hs3'⟩:∃s3,s3=IntKind.u64.wrap (bits .xor .u64 s2 (s2.fdiv (2 ^ min 29 IntKind.u64.bits))*2685821657736338717):=⟨_,rfl⟩;have hw3:=Z4T (bits .xor .u64 s2 (s2.fdiv (2 ^ min 29 IntKind.u64.bits))*2685821657736338717);rw[<-hs3']at F hw3;refine(F.m) λF=>k12<|wR λk13=>(F.m) λF=>(F.m) λF=>?_
  refine(F.y ((Z9g (m:=32) rfl (F.at rfl) (ev_c _ _)))) λF=>?_;refine(F.y ((Zfi rfl (F.at rfl) (F.at rfl)))) λF=>?_;refine(F.y ((Z9g (m:=8) rfl (F.at rfl) (ev_c _ _)))) λF=>(F.m) λF=>k13<|(F.r1) ?_
  have hf:=ZaF s3 (min 32 IntKind.u64.bits) hw3.1;have hx:=Zf9 s3 (s3.fdiv (2 ^ min 32 IntKind.u64.bits)) hw3 ⟨hf.1,oM⟩;exact⟨_,rfl,(shr8 hx).1,(shr8 hx).2,⟨hb,⟨na,nc,xs,rfl,hn⟩,(G.e 1),_,s2,(G.q 0),oM,oM,hw1.1,hw1.2⟩,(G.e 2)⟩
theorem Zk(w0 w:World)(b k:Nat)(nv:Value)(n:Int)(h:Zi w0 w b k nv)(hk:k<=1000000)(h0:-1000000<=n)(hn:n<=1000000):
  Calls (Qy.prog μ) 31 #[.pointer (some ⟨b,0,none⟩),.int .i64 n] w λe w'=>∃v:Int,e = .returned (.int .i64 v)/\0<=v/\v<=max n 0/\Zi w0 w' b (k+1) nv/\Ext [b] w w':=by
 have E:Ext [b] w w:=Ext.refl _ _;have HL:=h;clear h;have G:=((Bk.nil w).cl HL).ce E;refine(ent 14 Tryz.f31 rfl) λF=>wR λk1=>(F.m) λF=>k1<|wQ λk2=>wR λk3=>(F.m) λF=>(F.y F.ls) λF=>k3<|F.ci (λhc6=>?_) (λhc6=>?_)
 ·refine wR λk4=>(F.m) λF=>k4<|(F.r1) ?_
  exact⟨0,rfl,oM,oM,Zj (G.l 1) oM,(G.e 0)⟩
 ·refine Yi<|k2<|wR λk5=>(F.m) λF=>(F.k (ZdR w0 _ b k nv (G.l 1) hk)) ?_
  rintro _ w1 ⟨v,rfl,hv1,hv2,HL,e1⟩;refine(kL G 1 e1 HL) λF G=>?_;have hu:=Zh8 (n:=n) ⟨hv1,hv2⟩ ⟨oM,hn⟩;refine(F.m) λF=>(F.y F.ad) λF=>?_;refine(F.y ((Z3l rfl (F.at rfl) Qy.underlying3 Qy.underlying75))) λF=>?_;rw[hu.1]at F;refine(F.y ((Zkg rfl (F.at rfl) (F.at rfl) oM))) λF=>?_;refine(F.y ((Z3l rfl (F.at rfl) Qy.underlying75 Qy.underlying3))) λF=>?_;rw[hu.2.1]at F;refine(F.m) λF=>k5<|(F.r1) ?_
  exact⟨_,rfl,hu.2.2.1,oM,(G.l 1),(G.e 0)⟩
theorem Z8x(w0 w:World)(b k:Nat)(nv:Value)(lo hi:Int)(h:Zi w0 w b k nv)(hk:k<=1000000)(h1:-1000<=lo)(h2:lo<=1000)(h3:-1000<=hi)(h4:hi<=1000):
  Calls (Qy.prog μ) 59 #[.pointer (some ⟨b,0,none⟩),.int .i64 lo,.int .i64 hi] w λe w'=>∃v:Int,e = .returned (.int .i64 v)/\lo<=v/\v<=max lo hi/\Zi w0 w' b (k+1) nv/\Ext [b] w w':=by
 have E:Ext [b] w w:=Ext.refl _ _;have HL:=h;clear h;have G:=((Bk.nil w).cl HL).ce E;refine(ent 14 Tryz.f59 rfl) λF=>wR λk1=>(F.m) λF=>k1<|wR λk2=>(F.m) λF=>(F.m) λF=>(F.m) λF=>(F.m) λF=>(F.y F.sb) λF=>(F.k (Zk w0 _ b k nv (hi-lo) (G.l 1) hk oM oM)) ?_
 rintro _ w1 ⟨v,rfl,hv1,hv2,HL,e1⟩;refine(kL G 1 e1 HL) λF G=>(F.y F.ad) λF=>(F.m) λF=>k2<|(F.r1) ?_
 exact⟨_,rfl,oM,oM,(G.l 1),(G.e 0)⟩
theorem Ze6(w0 w:World)(b k:Nat)(nv:Value)(g:Nat)(T:TypeId)(xs:List Int)(h:Zi w0 w b k nv)(hk:k<=1000000)(hg:w.heap[g]?=some (.cells (xs.map (Value.int .i64)).toArray T (0,0)))(hgb:g≠b)(hx:0<xs.length)(hx2:xs.length<=1000):
  Calls (Qy.prog μ) 60 #[.pointer (some ⟨b,0,none⟩),.slice (some ⟨g,0,none⟩) xs.length xs.length] w λe w'=>∃v:Int,e = .returned (.int .i64 v)/\v∈xs/\Zi w0 w' b (k+1) nv/\Ext [b] w w':=by
 have E:Ext [b] w w:=Ext.refl _ _;have HL:=h;clear h;have HG:Hid (∀W,Ext [b] w W->Z6 W (.slice (some ⟨g,0,none⟩) xs.length xs.length) 1 (xs.map Z4)):=λW e=>ZN xs xs.length (e.keep hg (by simp[hgb]));have HS:=Lib.hid (Z0N (X:=[b]) (HG.out _ E) (λW e=>HG.out _ e) 0);clear hg;have G:=((Bk.nil w).cl HL).ce E;refine(ent 13 Tryz.f60 rfl) λF=>wR λk1=>(F.m) λF=>k1<|wR λk2=>(F.m) λF=>(F.m) λF=>(F.m) λF=>(F.y F.ln) λF=>(F.y F.sb) λF=>(F.k (Zk w0 _ b k nv ((xs.length:Int)-1) (G.l 1) hk oM oM)) ?_
 rintro _ w1 ⟨v,rfl,hv1,hv2,HL,e1⟩;refine(kL G 1 e1 HL) λF G=>?_;obtain⟨i,rfl⟩:=Int.eq_ofNat_of_zero_le hv1;have hil:i<xs.length:=by omega
 refine(F.ix HS.out i) λxr3 F=>(F.y (F.l1 (xr3 _ (G.e 0)) 0)) λF=>(F.m) λF=>k2<|(F.r1) ?_
 exact⟨_,rfl,Z5 0 hil,(G.l 1),(G.e 0)⟩
theorem Z7D(w0 w:World)(b k:Nat)(nv:Value)(n:Int)(h:Zi w0 w b k nv)(hk:k<=1000000)(h0:1<=n)(hn:n<=1000000):
  Calls (Qy.prog μ) 69 #[.pointer (some ⟨b,0,none⟩),.int .i64 n] w λe w'=>∃r,e = .returned (.bool r)/\Zi w0 w' b (k+1) nv/\Ext [b] w w':=by
 have E:Ext [b] w w:=Ext.refl _ _;have G:=(Bk.nil w).ce E;refine(ent 10 Tryz.f69 rfl) λF=>wR λk1=>(F.m) λF=>k1<|wR λk2=>(F.m) λF=>(F.m) λF=>(F.y F.sb) λF=>(F.k (Zk w0 _ b k nv (n-1) h hk oM oM)) ?_
 rintro _ w1 ⟨v,rfl,hv0,hv1,HL,e1⟩;refine⟨_,rfl,λF=>?_⟩;replace G:=G.x e1;refine(F.y F.eq) λF=>(F.m) λF=>k2<|(F.r1) ?_
 exact⟨_,rfl,HL,(G.e 0)⟩
theorem Z9T(w:World)(a:Option Addr)(n c:Nat)(zs:List Int)(h:Z40 .i64 w a n c zs):
  Calls (Qy.prog μ) 12 #[.slice a n c] w λe w'=>∃b,e = .returned (.pointer (some ⟨b,0,none⟩))/\w.heap.size<=b/\b<w'.heap.size/\Zi w w' b 0 (.slice a n c)/\Ext [] w w':=by
 obtain⟨xs,hxl,hr⟩:=Z1Z h;subst hxl;have E:=Ext.refl [] w;have G:=(Bk.nil w).ce E;refine(ent 6 Tryz.f12 rfl) λF=>wR λk1=>(F.m) λF=>k1<|wR λk2=>(F.m) λF=>(F.y (F.bv #[.slice a xs.length c,.int .i64 0,.int .u64 1])) λF=>(F.bx G) @λn5 w1 _ yy F G=>(F.m) λF=>k2<|(F.r1) ?_
 exact⟨n5,rfl,yy.1,Z8 (G.q 0),⟨yy.1,⟨a,c,xs,rfl,hr⟩,(G.e 1).mono (λ_ h=>absurd h sU),0,1,(G.q 0),oM,oM,oM,oM⟩,(G.e 1)⟩
variable{μ:Nat}
theorem ZbG(x:Int):∀u∈Z4 x,u.oneCell'=true:=by simp[Z4,Value.oneCell']
theorem Zz{v:Value}(h:Z0w w v xs)(hl:xs.length<=1000):
  Calls (Qy.prog μ) 27 #[v] w λe w'=>∃a c,e = .returned (.slice a xs.length c)/\w'.ownsRow w.heap.size 3 1 (.slice a xs.length c) xs.length (ivs xs)/\Ext [] w w':=by
 obtain⟨xa,xc,rfl,hx⟩:=h;have E:=Ext.refl [] w;have HX:=Lib.hid hx;clear hx;have G:=(Bk.nil w).ce E;refine(ent 6 Tryz.f27 rfl) λF=>wR λk1=>(F.m) λF=>k1<|wR λk2=>(F.b0 G 3 1) λyy F G=>(F.m) λF=>?_
 have hbl:=Z8 (G.q 0);replace G:=(G.d 0).co (ZbR (base:=w.heap.size) (size:=1) (G.q 0) oM);refine Zx F rfl dC (F.want rfl) (Z4Y rfl w.heap.size (e:=3) (size:=1) (bytes:=8) Qy.underlying22 kR dC (F.at rfl) (G.o 0) (F.at rfl) (Z7N (HX.out.ext (G.e 1) sU) dC (λ_=>rfl) ZbG) oM oM oM) ?_;clear F;rintro _ v' w2 F ⟨hown',hg⟩;rw[Nat.zero_add,List.nil_append]at hown';clear hbl;obtain⟨va5,vc5,rfl⟩:=Zm hown';replace G:=G.gr 0 hg hown';clear hg hown';have ho:=G.o 0;rw[<-Z0t]at ho;replace G:=G.rO 0 ho;clear ho;refine(F.m) λF=>k2<|(F.r1) ?_
 have ho:=G.o 0;exact⟨va5,vc5,rfl,ho,(G.e 1)⟩
theorem Zbc{w': World}{sz: Nat}{row:Nat->List Value}(h:SlAt [] w a sz n row)(e:Ext [] w w'): SlAt [] w' a sz n row:=λi hi=>by
 obtain⟨xb,xo,h1,h2⟩:=h i hi;exact⟨xb,xo,h1,λW hW=>h2 W (e.nil hW)⟩
def ZL(w:World)(a:Option Addr)(L:List (Value×List Int)):Prop:=SlAt [] w a 1 L.length (λi=>[(L.getD i (.bool true,[])).1])/\∀p∈L,Z0w w p.1 p.2
theorem ZL.ext{w W:World}{a:Option Addr}{L:List (Value×List Int)}(h:ZL w a L)(e:Ext [] w W):ZL W a L:=⟨Zbc h.1 e,λp hp=>(h.2 p hp).ext e⟩
theorem ZA(xs ys:List Int)(a b:Option Addr)(ca cb:Nat)(w:World)(hx:Z6 w (.slice a xs.length ca) 1 (xs.map Z4))(hy:Z6 w (.slice b ys.length cb) 1 (ys.map Z4))(h1:xs.length<=1000000)(h2:ys.length<=1000000):
  Calls (Qy.prog μ) 16 #[.slice a xs.length ca,.slice b ys.length cb] w λe w'=>e = .returned (.bool (decide (xs=ys)))/\Ext [] w w':=by
 have HS:=Lib.hid (Z7 hx 0);have HU:=Lib.hid (Z7 hy 0);have E:=Ext.refl [] w;clear hx hy;have G:=(Bk.nil w).ce E;refine(ent 26 Tryz.f16 rfl) λF=>wR λk1=>(F.m) λF=>k1<|wQ λk2=>wR λk3=>(F.m) λF=>(F.y F.ln) λF=>(F.m) λF=>(F.y F.ln) λF=>(F.y F.ne) λF=>k3<|F.ci (λhc10=>?_) (λhc10=>?_)
 ·refine wR λk4=>(F.m) λF=>k4<|(F.r1) ?_
  exact⟨ZK (decide_eq_false λh=>by rw[h]at hc10;omega).symm,(G.e 0)⟩
 ·refine Yi<|k2<|wQ λk5=>wR λk6=>(F.m) λF=>k6<|Yh<|lpB (F.b [0,1]) G xs.length (λi Lv Sv W=>Lv=[(5,.int .i64 ((i:Nat):Int))]/\Sv=[]/\∀j,j<i->xs.getD j 0=ys.getD j 0) ⟨_,_,F.u,G.u,rfl,rfl,λj hj=>absurd hj oM⟩ ?_
  clear F G;rintro i _ w1 _ _ hi1 ⟨rfl,rfl,hb⟩ F G;replace G:=G.z;refine wQ λk7=>wR λk8=>(F.m) λF=>(F.m) λF=>(F.y F.ln) λF=>(F.y F.ls) λF=>k8<|F.ci (λhc14=>?_) (λhc14=>?_)
  ·refine Yi<|k7<|wQ λk9=>Yh<|wQ λk10=>(wX 8 G) λG=>(F.sm) λF=>(F.sm) λF=>(F.sx HS.out i) λxr11 F=>(F.s (F.l1 (xr11 _ (G.e 0)) 0)) λF=>(F.sm) λF=>(F.sm) λF=>(F.sx HU.out i) λxr12 F=>(F.s (F.l1 (xr12 _ (G.e 0)) 0)) λF=>wpStill_nil<|(F.y F.ne) λF=>k10<|F.ci (λhc25=>?_) (λhc25=>?_)
   ·refine wR λk13=>(F.m) λF=>k13<|(F.r1) ?_
    exact⟨ZK (decide_eq_false λh=>hc25 (by rw[h])).symm,(G.e 0)⟩
   ·refine Yi<|k9<|Yg<|(F.m) λF=>(F.y F.ad) λF=>(F.m) λF=>?_
    show _/\_;exact⟨oM,_,_,F.u,G.u,rfl,rfl,λj hj=>if e:j=i then e▸(by simpa using hc25) else hb j oM⟩
  ·refine wp_exit<|k5<|wR λk14=>(F.m) λF=>k14<|(F.r1) ?_
   exact⟨ZK (decide_eq_true (List.ext_getElem oM λj h1 h2=>by have:=hb j oM;simpa[h1,h2] using this)).symm,(G.e 0)⟩
theorem Z3M(L M:List (Value×List Int))(he:L.map (·.2)=M.map (·.2))(hs:∀p∈M,p.2.length<=1000)(hm:M.length<=1000)(a b:Option Addr)(ca cb:Nat)(w:World)(h:ZL w a L)(k:ZL w b M):
  Calls (Qy.prog μ) 48 #[.slice a L.length ca,.slice b M.length cb] w λe w'=>e = .returned (.bool true)/\Ext [] w w':=by
 have E:=Ext.refl [] w;have hl:L.length=M.length:=by have:=congrArg List.length he;simpa using this
 have HL:=Lib.hid h;have HM:=Lib.hid k;have HS:=Lib.hid h.1;have HU:=Lib.hid k.1;have HE:=Lib.hid he;clear h k he;have G:=(Bk.nil w).ce E;refine(ent 27 Tryz.f48 rfl) λF=>wR λk1=>(F.m) λF=>k1<|wQ λk2=>wR λk3=>(F.m) λF=>(F.y F.ln) λF=>(F.m) λF=>(F.y F.ln) λF=>(F.y F.neF) λF=>k3<|(F.cF)<|Yi<|k2<|wQ λk4=>wR λk5=>(F.m) λF=>k5<|Yh<|lpC (F.b [0,1]) G L.length (λi=>[(5,.int .i64 ((i:Nat):Int))]) F.u λi hi1 F G=>wQ λk6=>wR λk7=>(F.m) λF=>(F.m) λF=>(F.y F.ln) λF=>(F.y F.ls) λF=>k7<|F.ci (λhc14=>?_) (λhc14=>?_)
 ·refine Yi<|k6<|wQ λk8=>Yh<|wQ λk9=>?_
  obtain⟨la,lca,hla,hlr⟩:=HL.out.2 _ (Z5 (.bool true,[]) (show i<L.length by omega));obtain⟨ma,mca,hma,hmr⟩:=HM.out.2 _ (Z5 (.bool true,[]) (show i<M.length by omega));have hsame:(L.getD i (.bool true,[])).2=(M.getD i (.bool true,[])).2:=by rw[<-Z7i (λp:Value×List Int=>p.2) (.bool true,[]) L (show i<L.length by omega),<-Z7i (λp:Value×List Int=>p.2) (.bool true,[]) M (show i<M.length by omega),HE.out]
  have hsz:=hs _ (Z5 (.bool true,[]) (show i<M.length by omega));refine(wX 8 G) λG=>(F.sm) λF=>(F.sm) λF=>(F.sx HS.out i) λxr10 F=>(F.s (F.l1 (xr10 _ (G.e 0)) 0)) λF=>?_;rw[hla]at F;refine(F.sm) λF=>(F.sm) λF=>(F.sx HU.out i) λxr11 F=>(F.s (F.l1 (xr11 _ (G.e 0)) 0)) λF=>?_;rw[hma]at F;refine wpStill_nil<|(F.k (ZA _ _ _ _ _ _ _ (hlr.ext (G.e 0) sU) (hmr.ext (G.e 0) sU) (by rw[hsame];omega) oM)) ?_
  rintro _ w3 ⟨rfl,e9⟩;refine kG G e9 λF G=>?_;rw[decide_eq_true hsame]at F;refine(F.y F.nb) λF=>k9<|(F.cF)<|Yi<|k8<|Yg<|(F.m) λF=>(F.y F.ad) λF=>(F.m) λF=>?_
  show _/\_;exact⟨oM,F.u,G.u⟩
 ·refine wp_exit<|k4<|wR λk12=>(F.m) λF=>k12<|(F.r1) ?_
  exact⟨rfl,(G.e 0)⟩
def Zi4(LL:List (List Int))(w:World)(e:Ending)(w':World):Prop:=∃(M:List (Value×List Int)) (b:Option Addr) (d:Nat),e = .returned (.slice b M.length d)/\M.map (·.2)=LL/\w'.ownsRow w.heap.size 22 1 (.slice b M.length d) M.length (M.map (·.1))/\FamT w' w.heap.size M/\Ext [] w w'
theorem Z3r(L:List (Value×List Int))(hl:L.length<=1000)(hs:∀p∈L,p.2.length<=1000)(a:Option Addr)(c:Nat)(w:World)(h:ZL w a L):
  Calls (Qy.prog μ) 44 #[.slice a L.length c] w (Zi4 (L.map (·.2)) w):=by
 have E:=Ext.refl [] w;have HL:=Lib.hid h;have HS:=Lib.hid h.1;have Hs:=Lib.hid hs;clear h hs;have oo:w.ownsRow w.heap.size 22 1 (.slice none 0 0) 0 (([]:List (Value×List Int)).map (·.1)):=World.ownsRow_nil _ _ _ _;have fam:FamT w w.heap.size []:=Z9x _ _;have G:=(Bk.nil w).ce E;replace G:=(G.co oo).cf fam;refine(ent 20 Tryz.f44 rfl) λF=>wR λk1=>(F.m) λF=>k1<|wR λk2=>(F.m) λF=>k2<|wQ λk3=>wR λk4=>(F.m) λF=>k4<|Yh<|lpB (F.b [0]) (G.b [2]) L.length (λi Lv Sv W=>∃va:Option Addr,∃vc:Nat,∃O:List (Value×List Int),Lv=[(3,.slice va O.length vc),(4,.int .i64 ((i:Nat):Int))]/\Sv=[]/\W.ownsRow w.heap.size 22 1 (.slice va O.length vc) O.length (O.map (·.1))/\FamT W w.heap.size O/\O.map (·.2)=(L.map (·.2)).take i) ⟨_,_,F.u,G.u,none,0,[],rfl,rfl,(G.o 1),(G.f 0),rfl⟩ ?_
 clear F G;rintro i _ w1 _ _ hi1 ⟨va,vc,O,rfl,rfl,oo,fam,hO⟩ F G;replace G:=((G.z).co oo).cf fam;have hOl:O.length=i:=by have:=congrArg List.length hO;simp only[Yj,List.length_take]at this;omega
 refine wQ λk5=>wR λk6=>(F.m) λF=>(F.m) λF=>(F.y F.ln) λF=>(F.y F.ls) λF=>k6<|F.ci (λhc8=>?_) (λhc8=>?_)
 ·refine Yi<|k5<|wQ λk7=>Yh ?_
  obtain⟨la,lca,hla,hlr⟩:=HL.out.2 _ (Z5 (.bool true,[]) (show i<L.length by omega));have hsz:=Hs.out _ (Z5 (.bool true,[]) (show i<L.length by omega));refine Yg<|(F.m) λF=>(F.m) λF=>(F.m) λF=>(F.ix HS.out i) λxr8 F=>(F.y (F.l1 (xr8 _ (G.e 2)) 0)) λF=>?_
  rw[hla]at F;have fam:=G.f 0;have hflt:=Lib.hid (Zdp fam);obtain⟨B1,hB1⟩:∃B1,B1=w1.heap.size:=⟨_,rfl⟩;rw[<-hB1]at hflt;have hB1w:w.heap.size<=B1:=by rw[hB1];exact(G.e 2).size
  refine(F.k (Zz (xs:=(L.getD i (.bool true,[])).2) ⟨la,lca,rfl,hlr.ext (G.e 2) sU⟩ hsz)) ?_;rintro _ w2 ⟨ra,rc,rfl,ro,eX⟩;refine⟨_,rfl,λF=>?_⟩;replace G:=G.ex eX;rw[<-hB1]at ro;have fam:=G.f 0;have fam2:=Z7e (Z7d (b1:=B1) (L:=[(Value.slice ra (L.getD i (.bool true,[])).2.length rc,(L.getD i (.bool true,[])).2)]) ⟨λp hp=>(by obtain rfl:p=(Value.slice ra (L.getD i (.bool true,[])).2.length rc,(L.getD i (.bool true,[])).2):=(by simpa using hp);exact ro),List.pairwise_singleton _ _⟩ fam hflt.out hB1w) (M:=O++[(Value.slice ra (L.getD i (.bool true,[])).2.length rc,(L.getD i (.bool true,[])).2)]) List.perm_append_comm;clear ro;have fam:=fam2;clear fam2;replace G:=G.rF 0 fam;clear fam;refine(F.bs G 1 #[.slice ra ((L.getD i (.bool true,[])).2.length) rc] Qy.zeroValue22) λyy F G=>?_;have hEs:=(G.e 3).size;refine Zx F rfl dC (F.want rfl) (ZE rfl w.heap.size (e:=22) (size:=1) (bytes:=24) Qy.underlying25 kR dC (F.at rfl) (G.o 2) (F.at rfl) (G.q 0) rfl (by simp[Value.oneCell']) oM oM oM) ?_;clear F;rintro _ v' w4 F ⟨hown',hg⟩;obtain⟨va18,vc18,rfl⟩:=Zm hown';replace G:=(G.d 0).gr 1 hg hown';clear hg hown';obtain⟨P2,hP2e⟩:∃P2,P2=O++[(Value.slice ra (L.getD i (.bool true,[])).2.length rc,(L.getD i (.bool true,[])).2)]:=⟨_,rfl⟩;have hPl3:O.length+1=P2.length:=by rw[hP2e,Ym];rfl
  have hO3:P2.map (·.2)=(L.map (·.2)).take (i+1):=by rw[hP2e,List.map_append,hO,List.take_add_one,Yn,List.getElem?_eq_getElem (show i<L.length by omega)];simp[Y7,List.getElem?_eq_getElem (show i<L.length by omega)]
  have oo:=G.o 1;rw[show O.map (·.1)++[Value.slice ra (L.getD i (.bool true,[])).2.length rc]=P2.map (·.1) by rw[hP2e,List.map_append];rfl,hPl3]at oo;rw[hPl3]at F;have fam:=G.f 0;rw[<-hP2e]at fam;replace G:=G.rO 1 oo;clear oo;replace G:=G.rF 0 fam;clear fam;refine(F.m) λF=>k7<|Yg<|(F.m) λF=>(F.y F.ad) λF=>(F.m) λF=>?_
  show _/\_;exact⟨oM,_,_,F.u,G.u,_,_,_,rfl,rfl,(G.o 1),(G.f 0),hO3⟩
 ·refine wp_exit ?_;obtain rfl:i=L.length:=by omega
  refine k3<|wR λk9=>(F.m) λF=>(F.m) λF=>k9<|(F.r1) ?_
  have fam:=G.f 0;have oo:=G.o 1;exact⟨O,va,vc,rfl,by rw[hO,List.take_of_length_le sU],oo,fam,(G.e 2)⟩
variable{μ:Nat}
structure Vm where
 B:Int
 D:List (Value×List Int)
 da:Option Addr
 dc:Nat
 L:List (Value×List Int)
 la:Option Addr
 lc:Nat
 tol:Int
abbrev Vm.vc(x:Vm):Array Value:=#[.int .i64 x.B,.slice x.da x.D.length x.dc,.slice x.la x.L.length x.lc,.int .i64 x.tol]
structure Vm.At(x:Vm)(w:World):Prop where
 d:ZL w x.da x.D
 l:ZL w x.la x.L
theorem Vm.At.ext{x:Vm}{w W:World}(h:x.At w)(e:Ext [] w W):x.At W:=⟨h.d.ext e,h.l.ext e⟩
def Zd(L:List (Value×List Int)):Prop:=L.length<=1000/\∀p∈L,p.2.length<=1000
def outB(n lo hi:Int):Bool:=decide (n<lo)||decide (hi<n)
theorem Z0d{n lo: Int}: outB n lo hi=false↔lo<=n/\n<=hi:=by
 simp only[outB,Bool.or_eq_false_iff,decide_eq_false_iff_not];omega
def sizE(n most:Int):Int:=if n=0 then 7 else if most<n then 6 else 0
def numE(l:List Int)(many hi:Int):Int:=if (l.length:Int)≠many then 9 else if l.all (λn=>!outB n 0 hi) then 0 else 1
def numS(l:List Int)(many hi:Int):Int:=if numE l many hi=0 then l.sum else 0
theorem ZX(n lo hi:Int)(w:World):Calls (Qy.prog μ) 92 #[.int .i64 n,.int .i64 lo,.int .i64 hi] w λe w'=>e = .returned (.bool (outB n lo hi))/\Ext [] w w':=by
 have E:=Ext.refl [] w;have hl:outB n lo hi=(decide (n<lo)||decide (hi<n)):=rfl;have G:=(Bk.nil w).ce E;refine(ent 15 Tryz.f92 rfl) λF=>wR λk1=>(F.m) λF=>k1<|wQ λk2=>?_
 by_cases c1:n<lo
 ·refine Yg<|(F.m) λF=>(F.m) λF=>(F.y F.lsT) λF=>(F.m) λF=>(F.n) λF=>(F.n) λF=>(F.n) λF=>(F.y F.pT) λF=>(F.m) λF=>?_
  rw[decide_eq_true c1,Bool.true_or]at hl;refine k2<|(F.r1) ?_
  exact⟨congrArg (λx=>Ending.returned (Value.bool x)) hl.symm,(G.e 0)⟩
 ·by_cases c2:hi<n
  ·refine Yg<|(F.m) λF=>(F.m) λF=>(F.y F.lsF) λF=>(F.m) λF=>(F.m) λF=>(F.m) λF=>(F.y F.gtT) λF=>(F.y F.pF) λF=>(F.m) λF=>?_
   rw[decide_eq_true c2,Bool.or_true]at hl;refine k2<|(F.r1) ?_
   exact⟨congrArg (λx=>Ending.returned (Value.bool x)) hl.symm,(G.e 0)⟩
  ·refine Yg<|(F.m) λF=>(F.m) λF=>(F.y F.lsF) λF=>(F.m) λF=>(F.m) λF=>(F.m) λF=>(F.y F.gtF) λF=>(F.y F.pF) λF=>(F.m) λF=>?_
   rw[decide_eq_false c1,decide_eq_false c2]at hl;refine k2<|(F.r1) ?_
   exact⟨congrArg (λx=>Ending.returned (Value.bool x)) hl.symm,(G.e 0)⟩
theorem Z3O(n m:Int)(w:World):Calls (Qy.prog μ) 93 #[.int .i64 n,.int .i64 m] w λe w'=>e = .returned (.int .i64 (sizE n m))/\Ext [] w w':=by
 have E:=Ext.refl [] w;have G:=(Bk.nil w).ce E;refine(ent 12 Tryz.f93 rfl) λF=>wR λk1=>(F.m) λF=>k1<|wQ λk2=>Yh<|wR λk3=>(F.m) λF=>(F.y F.eq) λF=>(F.m) λF=>k3<|F.ci (λhc5=>?_) (λhc5=>?_)
 ·refine wR λk4=>(F.m) λF=>k4<|(F.r1) ?_
  first | exact⟨Z9 (by rw[sizE,if_pos oM]),(G.e 0)⟩ | exact⟨Z9 (by rw[sizE,if_neg oM,if_pos oM]),(G.e 0)⟩ | exact⟨Z9 (by rw[sizE,if_neg oM,if_neg oM]),(G.e 0)⟩
 ·refine wR λk5=>(F.m) λF=>(F.m) λF=>(F.y F.gt) λF=>(F.m) λF=>k5<|F.ci (λhc8=>?_) (λhc8=>?_)
  ·refine wR λk6=>(F.m) λF=>k6<|(F.r1) ?_
   first | exact⟨Z9 (by rw[sizE,if_pos oM]),(G.e 0)⟩ | exact⟨Z9 (by rw[sizE,if_neg oM,if_pos oM]),(G.e 0)⟩ | exact⟨Z9 (by rw[sizE,if_neg oM,if_neg oM]),(G.e 0)⟩
  ·refine Yi<|k2<|wR λk7=>(F.m) λF=>k7<|(F.r1) ?_
   first | exact⟨Z9 (by rw[sizE,if_pos oM]),(G.e 0)⟩ | exact⟨Z9 (by rw[sizE,if_neg oM,if_pos oM]),(G.e 0)⟩ | exact⟨Z9 (by rw[sizE,if_neg oM,if_neg oM]),(G.e 0)⟩
theorem Z6E(h:∀j,j<i->outB (l.getD j 0) 0 hi=false)(hi':i=l.length): l.all (λn=>!outB n 0 hi)=true:=by
 rw[Yl];intro n hn;obtain⟨j,hj,rfl⟩:=List.getElem_of_mem hn;have:=h j oM;rw[Y7,List.getElem?_eq_getElem hj]at this;simp only[Option.getD_some]at this;rw[this];rfl
theorem Z9i(hil:i<l.length)(h:outB (l.getD i 0) 0 hi=true): l.all (λn=>!outB n 0 hi)=false:=by
 rw[List.all_eq_false];refine⟨l.getD i 0,Z5 0 hil,by rw[h];simp⟩
theorem Z1l(l:List Int)(h:i<l.length): (l.take (i+1)).sum=(l.take i).sum+l.getD i 0:=by
 rw[List.take_add_one,List.getElem?_eq_getElem h,List.sum_append];simp[Y7,List.getElem?_eq_getElem h]
theorem Z1U(l:List Int)(many hi:Int)(a:Option Addr)(c:Nat)(w:World)(h:Z6 w (.slice a l.length c) 1 (l.map Z4))(hl:l.length<=1000)(hh:hi<=1000):
  Calls (Qy.prog μ) 94 #[.slice a l.length c,.int .i64 many,.int .i64 hi] w λe w'=>e = .returned (.tuple #[.int .i64 (numS l many hi),.int .i64 (numE l many hi)])/\Ext [] w w':=by
 have HS:=Lib.hid (Z7 h 0);have E:=Ext.refl [] w;clear h;have G:=(Bk.nil w).ce E;refine(ent 29 Tryz.f94 rfl) λF=>wR λk1=>(F.m) λF=>(F.m) λF=>k1<|wQ λk2=>wR λk3=>(F.m) λF=>(F.y F.ln) λF=>(F.m) λF=>(F.y F.ne) λF=>k3<|F.ci (λhc14=>?_) (λhc14=>?_)
 ·refine wR λk4=>(F.m) λF=>(F.m) λF=>k4<|(F.r2) ?_
  have e:numE l many hi=9:=(by rw[numE,if_pos oM]);exact⟨by rw[numS,e];rfl,(G.e 0)⟩
 ·refine Yi<|k2<|wR λk5=>(F.m) λF=>?_
  rw[show (0:Int)=(l.take 0).sum from rfl]at F;refine k5<|wQ λk6=>wR λk7=>(F.m) λF=>(F.y F.ln) λF=>(F.m) λF=>k7<|Yh<|lpB (F.b [2,15,16]) G l.length (λi Lv Sv W=>Lv=[(8,.int .i64 ((l.take i).sum)),(17,.int .i64 ((i:Nat):Int))]/\Sv=[]/\(∀j,j<i->outB (l.getD j 0) 0 hi=false)/\0<=(l.take i).sum/\(l.take i).sum<=1000*(i:Int)) ⟨_,_,F.u,G.u,rfl,rfl,(λj hj=>absurd hj oM),sU,sU⟩ ?_
  clear F G;rintro i _ w1 _ _ hi1 ⟨rfl,rfl,hb,hs0,hs1⟩ F G;replace G:=G.z;refine wR λk8=>(F.y F.ls) λF=>k8<|wQ λk9=>F.ci (λhc18=>?_) (λhc18=>?_)
  ·refine Yi<|k9<|wQ λk10=>Yh<|wR λk11=>(F.ix HS.out i) λxr12 F=>(F.y (F.l1 (xr12 _ (G.e 0)) 0)) λF=>(F.m) λF=>k11<|wQ λk13=>wR λk14=>(F.m) λF=>(F.m) λF=>(F.k0 G (ZX (l.getD i 0) 0 hi _)) λF G=>k14<|F.cb (λhc23=>?_) (λhc23=>?_)
   ·have hyes:outB (l.getD i 0) 0 hi=true:=by simpa using hc23
    refine wR λk15=>(F.m) λF=>(F.m) λF=>k15<|(F.r2) ?_
    have e:numE l many hi=1:=(by rw[numE,if_neg oM,Z9i oM hyes];rfl);exact⟨by rw[numS,e];rfl,(G.e 0)⟩
   ·have hno:outB (l.getD i 0) 0 hi=false:=by simpa using hc23
    obtain⟨hn1,hn2⟩:=Z0d.1 hno;refine Yi<|k13<|Yg<|(F.m) λF=>(F.m) λF=>(F.y F.ad) λF=>?_
    rw[<-Z1l l (show i<l.length by omega)]at F;refine(F.m) λF=>k10<|Yg<|(F.y F.ad) λF=>(F.m) λF=>?_
    show _/\_;exact⟨oM,_,_,F.u,G.u,rfl,rfl,(λj hj=>if e:j=i then e▸hno else hb j oM),(by rw[Z1l l oM];omega),(by rw[Z1l l oM];omega)⟩
  ·refine wp_exit<|k6<|wR λk16=>(F.m) λF=>(F.m) λF=>(F.m) λF=>k16<|(F.r2) ?_
   have e:numE l many hi=0:=(by rw[numE,if_neg oM,Z6E hb oM];rfl);exact⟨by rw[numS,e,if_pos rfl,List.take_of_length_le oM],(G.e 0)⟩
variable{μ:Nat}
section
variable{P:Program}{ρ:Operand->Value}{o:Oper}{w:World}
theorem Zct{y: Operand}{dT sT elem:TypeId}{off dLen dCap sLen sCap: Nat}{a:Addr}(cs:List Value)(ho:o.op = .call {callee:=.builtin .copy,args:=#[x,y],argTypes:=#[dT,sT]})(hx:ρ x = .slice (some ⟨b,off,none⟩) dLen dCap)(hy:ρ y = .slice (some a) sLen sCap)(hu:P.underlying dT=some (.slice elem))(hs:(P.info? elem).map (·.size)=some 1)(hn:cs.length=Nat.min sLen dLen)(hsrc:∀j v,cs[j]?=some v->w.cell? (a.add j)=some v)(hc:∀j,j<cs.length->(w.cell? ⟨b,off+j,none⟩).isSome=true)(hf:∀j,j<cs.length->w.frozen? ⟨b,off+j,none⟩=false)(h1:∀v∈cs,v.oneCell'=true):
  (execOp ρ o).run P w = .ok (.value (.int .i64 cs.length)) (w.setCells b off cs):=by
 unfold execOp;simp[ho,hx,hy,resolve,invoke,builtin,run_copy_cells w dT sT o.type elem b off dLen dCap a sLen sCap cs hu hs hn hsrc hc hf h1,goInt,go_sem]
theorem Z1r{t:TypeId}(ho:o.op = .slice t x none none none)(hx:ρ x = .pointer (some ⟨b,0,none⟩))(hu:P.underlying t=some (.array (P.arrayLen t) (P.elem t)))(hs:(P.info? (P.elem t)).map (·.size)=some 1)(hn:P.arrayLen t=n):
  (execOp ρ o).run P w = .ok (.value (.slice (some ⟨b,0,none⟩) n n)) w:=by
 have h0:(sizeOf (P.elem t)).run P w = .ok 1 w:=by
  generalize P.elem t=e at hs;cases hq:P.info? e with
  | none=>simp[hq]at hs
  | some j =>
   have hj:j.size=1:=by simpa[hq] using hs
   simp[sizeOf,typeInfo,hq,hj]
 have hr:=run_sliceAt_array_all (P:=P) w t ⟨b,0,none⟩ hu;rw[h0,hn]at hr;simp only[Result.andThen_ok,slicedAt,Nat.zero_mul,Nat.sub_zero]at hr;have ha:(if n=0 then(⟨b,0,none⟩:Addr) else Addr.add ⟨b,0,none⟩ 0)=⟨b,0,none⟩:=by split<;>rfl
 rw[ha]at hr;clear hu hs hn h0 ha;unfold execOp;simp only[ho,hx,Option.map_none,Sem.run_bind,hr,Result.andThen_ok,Sem.run_pure]
end
def Z4t(l:List Int):Array Value:=#[.int .i64 (l.getD 0 0),.int .i64 (l.getD 1 0),.int .i64 (l.getD 2 0)]
theorem Zei{w w2:World}{T:TypeId}(e:w2=w.setCells b 0 (l.map (Value.int .i64)))(H:w.heap[b]?=some (.cells #[.int .i64 0,.int .i64 0,.int .i64 0] T (0,0)))(hl:l.length<=3): w2.heap[b]?=some (.cells (Z4t l) T (0,0)):=by
 match l,hl with
 | [],_=>rw[e];exact H
 | [x],_=>exact ZU (w2:=w2) (by rw[e];rfl) H rfl
 | [x,y],_=>exact Z1Y (w2:=w2) (by rw[e];rfl) H rfl
 | [x,y,z],_=>exact Z7C (cs:=Z4t [x,y,z]) (by rw[e];rfl) H rfl
 | x::y::z::u::l,h=>simp at h
def eqT(l m:List Int):Bool:=(List.range 3).all λi=>decide (l.getD i 0=m.getD i 0)
theorem Ziw(hl:l.length=m.length)(h3:l.length<=3): eqT l m=true↔l=m:=by
 simp only[eqT,Yl,List.mem_range,decide_eq_true_eq];constructor
 ·intro h;refine List.ext_getElem hl λj a b=>?_;simpa[a,b] using h j oM
 ·rintro rfl;exact λ_ _=>rfl
section
variable{ρ:Operand->Value}{o:Oper}{w:World}
theorem Zdg(l m:List Int):(Op.equalIn 10000 116 (.agg (Z4t l)) (.agg (Z4t m))).run (Qy.prog μ) w = .ok (eqT l m) w:=by
 refine Z1G (n:=1) Qy.underlying116 kR _ λi hi=>?_;refine⟨.int .i64 (l.getD i 0),.int .i64 (m.getD i 0),?_,?_,?_⟩
 ·rcases i with _ | _ | _ | i
  ·exact ZT rfl
  ·exact ZT rfl
  ·exact ZT rfl
  ·omega
 ·rcases i with _ | _ | _ | i
  ·exact ZT rfl
  ·exact ZT rfl
  ·exact ZT rfl
  ·omega
 ·exact run_equalIn_int w _ _ .i64 .i64 _ _ Qy.underlying3
theorem Zka{y: Operand}{t':TypeId}(ho:o.op = .binOp .eql 116 x y t')(hx:ρ x = .agg (Z4t l))(hy:ρ y = .agg (Z4t m)):
  (execOp ρ o).run (Qy.prog μ) w = .ok (.value (.bool (eqT l m))) w:=by
 have hg:(Qy.prog μ).eqGuardType (Qy.prog μ).depth 116=false:=kR
 unfold execOp;simp only[ho,hx,hy,Sem.run_bind,run_eqGuard_agg w .eql 116 x y (Z4t l) (Z4t m) hg,Result.andThen_ok,run_eql_struct,Zdg,Sem.run_pure]
end
theorem Z6Z{w:World}{sb so: Nat}(h:Z6 w (.slice (some ⟨sb,so,none⟩) n c) 1 (l.map Z4)): ∀(j:Nat) (v:Value),(l.map (Value.int .i64))[j]?=some v->w.cell? ((⟨sb,so,none⟩:Addr).add j)=some v:=by
 intro j v hv;rw[Yn,Y3]at hv;obtain⟨k,hk,rfl⟩:=hv;have hne:l.map Z4≠[]:=by
  intro e;have hl:l=[]:=by simpa using e
  rw[hl]at hk;simp at hk
 obtain⟨b,off,hb,-,hr⟩:=h.range rfl hne;cases hb;have:=hr j (Z4 k) (by rw[Yn,hk];rfl) 0 (.int .i64 k) rfl;rw[Nat.mul_one,Nat.add_zero]at this;rw[Go.WideShapes.add_plain];exact this
theorem Zfr{w:World}{x z: Value}{T:TypeId}(H:w.heap[b]?=some (.cells #[x,y,z] T (0,0)))(hn:n<=3): (∀j,j<n->(w.cell? ⟨b,0+j,none⟩).isSome=true)/\∀j,j<n->w.frozen? ⟨b,0+j,none⟩=false:=by
 refine⟨λj hj=>?_,λj hj=>Zg H _⟩;rw[Z3 H];rcases j with _ | _ | _ | j
 ·rfl
 ·rfl
 ·rfl
 ·omega
theorem Z4K(l:List Int):∀v∈l.map (Value.int .i64),v.oneCell'=true:=by
 intro v hv;obtain⟨k,-,rfl⟩:=List.mem_map.1 hv;rfl
variable{μ:Nat}
def dyeE(B:Int):List (List Int)->List (List Int)->Int
 | _,[]=>0
 | met,d::ds=>if numE d B 9≠0 then numE d B 9 else if d∈met then 4 else dyeE B (met++[d]) ds
def Z0K(B:Int):List (List Int)->Int
 | []=>0
 | l::ls=>if numE l B 3≠0 then numE l B 3 else if l.sum=0 then 7 else Z0K B ls
def chkE(B:Int)(ds ls:List (List Int))(tol:Int):Int:=
 if outB B 1 3=true then 1 else if sizE ds.length 4≠0 then sizE ds.length 4 else if dyeE B [] ds≠0 then dyeE B [] ds
 else if sizE ls.length 3≠0 then sizE ls.length 3 else if Z0K B ls≠0 then Z0K B ls else if outB tol 0 12=true then 1 else 0
theorem ZP(l:List α)(d:α)(h:i<l.length): l.drop i=l.getD i d::l.drop (i+1):=by
 rw[List.drop_eq_getElem_cons h];simp[Y7,List.getElem?_eq_getElem h]
theorem Z2t(l:List α)(d:α)(h:i<l.length): l.take (i+1)=l.take i++[l.getD i d]:=by
 rw[List.take_add_one,List.getElem?_eq_getElem h];simp[Y7,List.getElem?_eq_getElem h]
theorem Z1B{m h:Int}(e:numE l m h=0): (l.length:Int)=m/\∀n∈l,0<=n/\n<=h:=by
 unfold numE at e;split at e
 ·cases e
 ·rename_i hlen;split at e
  ·rename_i ha;refine⟨oM,λn hn=>?_⟩;have:=Yl.1 ha n hn;exact Z0d.1 (by simpa using this)
  ·cases e
theorem Zda(hi:i<ds.length)(h:numE (ds.getD i []) B 9≠0): dyeE B (ds.take i) (ds.drop i)=numE (ds.getD i []) B 9:=by
 rw[ZP ds [] hi,dyeE,if_pos h]
theorem Z8n{j: Nat}(hi:i<ds.length)(h:numE (ds.getD i []) B 9=0)(hj:j<i)(e:ds.getD j []=ds.getD i []): dyeE B (ds.take i) (ds.drop i)=4:=by
 rw[ZP ds [] hi,dyeE,if_neg (by rw[h];simp),if_pos];rw[<-e,Y7,List.getElem?_eq_getElem (show j<ds.length by omega)];exact List.mem_take_iff_getElem.2 ⟨j,oM,rfl⟩
theorem Zhw(hi:i<ds.length)(h:numE (ds.getD i []) B 9=0)(hn:∀j,j<i->ds.getD j []≠ds.getD i []): dyeE B (ds.take i) (ds.drop i)=dyeE B (ds.take (i+1)) (ds.drop (i+1)):=by
 rw[ZP ds [] hi,dyeE,if_neg (by rw[h];simp),if_neg,<-Z2t ds [] hi];intro hm;obtain⟨j,hj,e⟩:=List.mem_take_iff_getElem.1 hm;have hj':j<i:=by omega
 refine hn j hj' ?_;rw[Y7,List.getElem?_eq_getElem (show j<ds.length by omega)];exact e
theorem ZaO(hi:i<ls.length)(h:numE (ls.getD i []) B 3≠0): Z0K B (ls.drop i)=numE (ls.getD i []) B 3:=by
 rw[ZP ls [] hi,Z0K,if_pos h]
theorem Z8A(hi:i<ls.length)(h:numE (ls.getD i []) B 3=0)(h0:(ls.getD i []).sum=0): Z0K B (ls.drop i)=7:=by
 rw[ZP ls [] hi,Z0K,if_neg (by rw[h];simp),if_pos h0]
theorem ZdN(hi:i<ls.length)(h:numE (ls.getD i []) B 3=0)(h0:(ls.getD i []).sum≠0): Z0K B (ls.drop i)=Z0K B (ls.drop (i+1)):=by
 rw[ZP ls [] hi,Z0K,if_neg (by rw[h];simp),if_neg h0]
def Zce(l:List Int):List Value:=[.int .i64 (l.getD 0 0),.int .i64 (l.getD 1 0),.int .i64 (l.getD 2 0)]
variable{μ:Nat}
theorem Z0k(M:List (Value×List Int))(h:i<M.length): (M.map (·.2)).getD i []=(M.getD i (.bool true,[])).2:=Z7i (λp:Value×List Int=>p.2) (.bool true,[]) M h
section
variable{B tol:Int}{ds ls:List (List Int)}
theorem chk1(h:outB B 1 3=true):chkE B ds ls tol=1:=if_pos h
theorem chk2(h:outB B 1 3=false)(h2:sizE ds.length 4≠0):chkE B ds ls tol=sizE ds.length 4:=by
 rw[chkE,if_neg (by rw[h];decide),if_pos h2]
theorem chk3(h:outB B 1 3=false)(h2:sizE ds.length 4=0)(h3:dyeE B [] ds≠0):chkE B ds ls tol=dyeE B [] ds:=by
 rw[chkE,if_neg (by rw[h];decide),if_neg (by rw[h2];decide),if_pos h3]
theorem chk4(h:outB B 1 3=false)(h2:sizE ds.length 4=0)(h3:dyeE B [] ds=0)(h4:sizE ls.length 3≠0):chkE B ds ls tol=sizE ls.length 3:=by
 rw[chkE,if_neg (by rw[h];decide),if_neg (by rw[h2];decide),if_neg (by rw[h3];decide),if_pos h4]
theorem chk5(h:outB B 1 3=false)(h2:sizE ds.length 4=0)(h3:dyeE B [] ds=0)(h4:sizE ls.length 3=0)(h5:Z0K B ls≠0):chkE B ds ls tol=Z0K B ls:=by
 rw[chkE,if_neg (by rw[h];decide),if_neg (by rw[h2];decide),if_neg (by rw[h3];decide),if_neg (by rw[h4];decide),if_pos h5]
theorem chk6(h:outB B 1 3=false)(h2:sizE ds.length 4=0)(h3:dyeE B [] ds=0)(h4:sizE ls.length 3=0)(h5:Z0K B ls=0):chkE B ds ls tol=if outB tol 0 12=true then 1 else 0:=by
 rw[chkE,if_neg (by rw[h];decide),if_neg (by rw[h2];decide),if_neg (by rw[h3];decide),if_neg (by rw[h4];decide),if_neg (by rw[h5];decide)]
end
theorem Z4i(x:Vm)(w:World)(h:x.At w)(sd:Zd x.D)(sl:Zd x.L):
  Calls (Qy.prog μ) 37 #[.agg x.vc] w λe w'=>e = .returned (.int .i64 (chkE x.B (x.D.map (·.2)) (x.L.map (·.2)) x.tol))/\Ext [] w w':=by
 have E:=Ext.refl [] w;have HA:=Lib.hid h;have HD:=Lib.hid h.d.1;have HL:=Lib.hid h.l.1;have SD:=Lib.hid sd;have SL:=Lib.hid sl;clear h;obtain⟨sd1,sd2⟩:=sd;obtain⟨sl1,sl2⟩:=sl;clear sd2 sl2;obtain⟨ds,hds⟩:∃ds,ds=x.D.map (·.2):=⟨_,rfl⟩;obtain⟨ls,hls⟩:∃ls,ls=x.L.map (·.2):=⟨_,rfl⟩;have hdl:ds.length=x.D.length:=by rw[hds,Yj]
 have hll:ls.length=x.L.length:=by rw[hls,Yj]
 have KD:Hid (∀i,i<x.D.length->ds.getD i []=(x.D.getD i (.bool true,[])).2):=λi hi=>by rw[hds];exact Z0k _ hi
 have KL:Hid (∀i,i<x.L.length->ls.getD i []=(x.L.getD i (.bool true,[])).2):=λi hi=>by rw[hls];exact Z0k _ hi
 rw[<-hds,<-hls];clear hds hls;have om:w.ownsRow w.heap.size 116 3 (.slice none 0 0) 0 (((ds.take 0).map Zce).flatten):=World.ownsRow_nil _ _ _ _;have G:=(Bk.nil w).ce E;replace G:=G.co om;refine(ent 92 Tryz.f37 rfl) λF=>wR λk1=>(F.bx G) λyy F G=>(F.m) λF=>k1<|wQ λk2=>wR λk3=>(F.y (F.fd 0)) λF=>(F.y (F.lc (G.q 0))) λF=>(F.k0 G (ZX x.B 1 3 _)) λF G=>k3<|F.cb (λhc19=>?_) (λhc19=>?_)
 ·have hb1:outB x.B 1 3=true:=by simpa using hc19
  refine wR λk4=>(F.m) λF=>k4<|(F.r1) ?_
  exact⟨Z9 (chk1 hb1).symm,(G.e 2)⟩
 ·have hb1:outB x.B 1 3=false:=by simpa using hc19
  obtain⟨hB1,hB3⟩:=Z0d.1 hb1;refine Yi<|k2<|wQ λk5=>wR λk6=>(F.y (F.fd 1)) λF=>(F.y (F.lc (G.q 0))) λF=>(F.y F.ln) λF=>(F.k0 G (Z3O (x.D.length:Nat) 4 _)) λF G=>(F.m) λF=>k6<|wR λk7=>(F.m) λF=>(F.y F.ne) λF=>k7<|F.ci (λhc25=>?_) (λhc25=>?_)
  ·refine wR λk8=>(F.m) λF=>(F.m) λF=>k8<|(F.r1) ?_
   exact⟨Z9 (by rw[chk2 hb1 (by rw[hdl];exact hc25),hdl]),(G.e 2)⟩
  ·refine Yi<|k5<|wR λk9=>(F.m) λF=>k9<|wQ λk10=>wR λk11=>(F.y (F.fd 1)) λF=>(F.y (F.lc (G.q 0))) λF=>(F.y F.ln) λF=>(F.m) λF=>k11<|Yh<|lpB (F.b [1,28,29]) (G.b [0,2]) x.D.length (λi Lv Sv W=>∃va:Option Addr,∃vc:Nat,Lv=[(4,.slice va i vc),(30,.int .i64 ((i:Nat):Int))]/\Sv=[]/\W.ownsRow w.heap.size 116 3 (.slice va i vc) i (((ds.take i).map Zce).flatten)/\dyeE x.B (ds.take i) (ds.drop i)=dyeE x.B [] ds/\(∀j,j<i->((x.D.getD j (.bool true,[])).2.length:Int)=x.B)) ⟨_,_,F.u,G.u,none,0,rfl,rfl,(G.o 1),rfl,(λj hj=>absurd hj oM)⟩ ?_
   clear F G;rintro i _ w4 _ _ hi1 ⟨va,vc,rfl,rfl,om,hd,hlen⟩ F G;replace G:=(G.z).co om;refine wR λk12=>(F.y F.ls) λF=>k12<|wQ λk13=>F.ci (λhc31=>?_) (λhc31=>?_)
   ·refine Yi<|k13<|wQ λk14=>Yh<|wQ λk15=>?_
    obtain⟨la,lca,hla,hlr⟩:=HA.out.d.2 _ (Z5 (.bool true,[]) (show i<x.D.length by omega));have hsz:=SD.out.2 _ (Z5 (.bool true,[]) (show i<x.D.length by omega));have hkd:=KD.out i oM;refine Yg<|(F.ix HD.out i) λxr16 F=>(F.y (F.l1 (xr16 _ (G.e 2)) 0)) λF=>?_
    rw[hla]at F;refine(F.m) λF=>k15<|wQ λk17=>wR λk18=>(F.m) λF=>(F.y (F.fd 0)) λF=>(F.y (F.lc (G.q 1))) λF=>(F.k0 G (Z1U (x.D.getD i (.bool true,[])).2 x.B 9 la lca _ (hlr.ext (G.e 2) sU) hsz oM)) λF G=>(F.m) λF=>(F.y F.xt) λF=>(F.y F.xt) λF=>(F.m) λF=>(F.m) λF=>k18<|wR λk19=>(F.m) λF=>(F.y F.ne) λF=>k19<|F.ci (λhc42=>?_) (λhc42=>?_)
    ·refine wR λk20=>(F.m) λF=>(F.m) λF=>k20<|(F.r1) ?_
     have e:=Zda (B:=x.B) (ds:=ds) (i:=i) oM (by rw[hkd];exact hc42);rw[hd,hkd]at e;exact⟨Z9 (by rw[chk3 hb1 (by rw[hdl];omega) (by rw[e];exact hc42),e]),(G.e 2)⟩
    ·have hz0:numE (x.D.getD i (.bool true,[])).2 x.B 9=0:=by omega
     obtain⟨hz1,hz2⟩:=Z1B hz0;refine Yi<|k17<|wR λk21=>(F.al G Qy.zeroValue116) λyy F G=>k21<|wQ λk22=>?_
     have hd3':(x.D.getD i (.bool true,[])).2.length<=3:=by omega
     refine Yg ?_;refine(F.y ((Z1r (n:=3) rfl (F.at rfl) kR kR kR))) λF=>(F.m) λF=>?_;have hlr2:=hlr.ext (G.e 3) sU;obtain⟨sb,so,hsa,-,-⟩:=hlr2.range rfl (by intro e;have hq:=congrArg List.length e;rw[Yj,List.length_nil]at hq;omega);rw[hsa]at hlr2;obtain⟨hcd,hcf⟩:=Zfr (G.q 0) (n:=(x.D.getD i (.bool true,[])).2.length) hd3';refine sqN F (Zct ((x.D.getD i (.bool true,[])).2.map (Value.int .i64)) rfl (F.at rfl) ((F.at rfl).trans (congrArg (λz=>Value.slice z _ _) hsa)) Qy.underlying22 kR (by rw[Yj];exact(Nat.min_eq_left hd3').symm) (Z6Z hlr2) (by rw[Yj];exact hcd) (by rw[Yj];exact hcf) (Z4K _)) ?_ (hw:=F.want rfl);clear F;rintro _ w7 F hw;replace G:=G.pr 0 hw (Zei hw (G.q 0) hd3');refine k22<|wQ λk23=>wR λk24=>(F.m) λF=>(F.y F.ln) λF=>(F.m) λF=>?_
     have om:=G.o 1;have HMs:=Lib.hid (Z0D om (show i=(ds.take i).length by rw[List.length_take];omega) (λ_=>rfl) [] sU []);have hml:(ds.take i).length=i:=(by rw[List.length_take];omega);rw[hml]at HMs;replace G:=G.hr [];refine k24<|Yh<|lpB (F.b [1,4,9,28,29,30,47,48]) G i (λj Lv Sv W=>Lv=[(49,.int .i64 ((j:Nat):Int))]/\Sv=[]/\(∀k,k<j->ds.getD k []≠ds.getD i [])) ⟨_,_,F.u,G.u,rfl,rfl,(λk hk=>absurd hk oM)⟩ ?_
     clear F G;rintro j _ w8 _ _ hi2 ⟨rfl,rfl,hn⟩ F G;replace G:=G.z;refine wR λk25=>(F.y F.ls) λF=>k25<|wQ λk26=>F.ci (λhc50=>?_) (λhc50=>?_)
     ·refine Yi<|k26<|wQ λk27=>Yh<|wQ λk28=>?_
      have hjj:(ds.take i).getD j []=ds.getD j []:=by simp[Y7,List.getElem?_take,show j<i by omega]
      have hkj:=KD.out j oM;have hlj:=hlen j oM;refine Yg<|(F.ix HMs.out j) λxr29 F=>(F.y (F.lr (xr29 _ (G.e 0)))) λF=>(F.al G Qy.zeroValue116) λyy F G=>(F.sr G 0) λG=>k28<|wR λk30=>(F.y (F.lb (G.q 0))) λF=>(F.y (F.lb (G.q 2))) λF=>?_
      refine(F.y ((Zka (l:=(ds.take i).getD j []) (m:=(x.D.getD i (.bool true,[])).2) rfl (F.at rfl) (F.at rfl)))) λF=>?_;have hqq:=Ziw (l:=(ds.take i).getD j []) (m:=(x.D.getD i (.bool true,[])).2) (by rw[hjj,hkj];omega) (by rw[hjj,hkj];omega);refine k30<|F.cb (λhc55=>?_) (λhc55=>?_)
      ·have heq:ds.getD j []=ds.getD i []:=by rw[hkd,<-hjj];exact hqq.1 (by simpa using hc55)
       refine wR λk31=>(F.m) λF=>k31<|(F.r1) ?_
       have e:=Z8n (B:=x.B) (ds:=ds) (i:=i) (j:=j) oM (by rw[hkd];exact hz0) oM heq;rw[hd]at e;exact⟨Z9 (by rw[chk3 hb1 (by rw[hdl];omega) (by rw[e];decide),e]),(G.e 5)⟩
      ·have hne:ds.getD j []≠ds.getD i []:=λe=>by rw[hkd,<-hjj]at e;exact Bool.noConfusion (hc55.symm.trans (hqq.2 e))
       refine Yi<|k27<|Yg<|(F.y F.ad) λF=>(F.m) λF=>?_
       show _/\_;exact⟨oM,_,_,F.u,G.u,rfl,rfl,(λk hk=>if e:k=j then e▸hne else hn k oM)⟩
     ·refine wp_exit ?_;have hji:j=i:=by omega
      refine k23<|Yg<|(F.m) λF=>(F.y (F.lb (G.q 1))) λF=>(F.bs G 3 #[.int .i64 ((x.D.getD i (.bool true,[])).2.getD 0 0),.int .i64 ((x.D.getD i (.bool true,[])).2.getD 1 0),.int .i64 ((x.D.getD i (.bool true,[])).2.getD 2 0)] Qy.zeroValue116) λyy F G=>?_
      have hEs:=(G.e 5).size;replace G:=G.d 1;refine Zx F rfl dC (F.want rfl) (ZE rfl w.heap.size (e:=116) (size:=3) (bytes:=24) Qy.underlying113 kR dC (F.at rfl) (G.o 2) (F.at rfl) (G.q 0) rfl (by simp[Value.oneCell']) oM oM oM) ?_;clear F;rintro _ v' w12 F ⟨hown',hg⟩;obtain⟨va60,vc60,rfl⟩:=Zm hown';replace G:=(G.d 0).gr 1 hg hown';clear hg hown';have hd3:=(Zhw (B:=x.B) (ds:=ds) (i:=i) oM (by rw[hkd];exact hz0) (λk hk=>hn k oM)).symm.trans hd;have om:=G.o 1;rw[show ((ds.take i).map Zce).flatten++[.int .i64 ((x.D.getD i (.bool true,[])).2.getD 0 0),.int .i64 ((x.D.getD i (.bool true,[])).2.getD 1 0),.int .i64 ((x.D.getD i (.bool true,[])).2.getD 2 0)]=((ds.take (i+1)).map Zce).flatten by rw[Z2t ds [] (show i<ds.length by omega),List.map_append,List.flatten_append,hkd];simp[Zce]]at om;replace G:=G.rO 1 om;clear om;refine(F.m) λF=>k14<|Yg<|(F.y F.ad) λF=>(F.m) λF=>?_
      show _/\_;exact⟨oM,_,_,F.u,G.u,_,_,rfl,rfl,(G.o 1),hd3,(λj hj=>if e:j=i then e▸hz1 else hlen j oM)⟩
   ·refine wp_exit ?_;have hd0:dyeE x.B [] ds=0:=by rw[<-hd,List.drop_eq_nil_of_le oM];rfl
    refine k10<|wQ λk32=>wR λk33=>(F.y (F.fd 2)) λF=>(F.y (F.lc (G.q 1))) λF=>(F.y F.ln) λF=>(F.k0 G (Z3O (x.L.length:Nat) 3 _)) λF G=>(F.m) λF=>k33<|wR λk34=>(F.m) λF=>(F.y F.ne) λF=>k34<|F.ci (λhc67=>?_) (λhc67=>?_)
    ·refine wR λk35=>(F.m) λF=>(F.m) λF=>k35<|(F.r1) ?_
     exact⟨Z9 (by rw[chk4 hb1 (by rw[hdl];omega) hd0 (by rw[hll];exact hc67),hll]),(G.e 2)⟩
    ·refine Yi<|k32<|wQ λk36=>wR λk37=>(F.y (F.fd 2)) λF=>(F.y (F.lc (G.q 1))) λF=>(F.y F.ln) λF=>(F.m) λF=>k37<|Yh<|lpB (F.b [1,70,71]) G x.L.length (λk Lv Sv W=>Lv=[(72,.int .i64 ((k:Nat):Int))]/\Sv=[]/\Z0K x.B (ls.drop k)=Z0K x.B ls) ⟨_,_,F.u,G.u,rfl,rfl,rfl⟩ ?_
     clear F G;rintro k _ w14 _ _ hi3 ⟨rfl,rfl,hlm⟩ F G;replace G:=G.z;refine wR λk38=>(F.y F.ls) λF=>k38<|wQ λk39=>F.ci (λhc73=>?_) (λhc73=>?_)
     ·refine Yi<|k39<|wQ λk40=>Yh<|wQ λk41=>?_
      obtain⟨la,lca,hla,hlr⟩:=HA.out.l.2 _ (Z5 (.bool true,[]) (show k<x.L.length by omega));have hsz:=SL.out.2 _ (Z5 (.bool true,[]) (show k<x.L.length by omega));have hkl:=KL.out k oM;refine Yg<|(F.ix HL.out k) λxr42 F=>(F.y (F.l1 (xr42 _ (G.e 2)) 0)) λF=>?_
      rw[hla]at F;refine(F.m) λF=>k41<|wR λk43=>(F.m) λF=>(F.y (F.fd 0)) λF=>(F.y (F.lc (G.q 1))) λF=>(F.k0 G (Z1U (x.L.getD k (.bool true,[])).2 x.B 3 la lca _ (hlr.ext (G.e 2) sU) hsz oM)) λF G=>(F.m) λF=>(F.y F.xt) λF=>(F.y F.xt) λF=>(F.m) λF=>(F.m) λF=>k43<|wQ λk44=>wR λk45=>(F.m) λF=>(F.y F.ne) λF=>k45<|F.ci (λhc84=>?_) (λhc84=>?_)
      ·refine wR λk46=>(F.m) λF=>(F.m) λF=>k46<|(F.r1) ?_
       have e:=ZaO (B:=x.B) (ls:=ls) (i:=k) oM (by rw[hkl];exact hc84);rw[hlm,hkl]at e;exact⟨Z9 (by rw[chk5 hb1 (by rw[hdl];omega) hd0 (by rw[hll];omega) (by rw[e];exact hc84),e]),(G.e 2)⟩
      ·have hz0:numE (x.L.getD k (.bool true,[])).2 x.B 3=0:=by omega
       have hsum:numS (x.L.getD k (.bool true,[])).2 x.B 3=(x.L.getD k (.bool true,[])).2.sum:=by rw[numS,if_pos hz0]
       refine Yi<|k44<|wR λk47=>(F.m) λF=>(F.y F.eq) λF=>k47<|F.ci (λhc87=>?_) (λhc87=>?_)
       ·refine wR λk48=>(F.m) λF=>k48<|(F.r1) ?_
        have e:=Z8A (B:=x.B) (ls:=ls) (i:=k) oM (by rw[hkl];exact hz0) (by rw[hkl];omega);rw[hlm]at e;exact⟨Z9 (by rw[chk5 hb1 (by rw[hdl];omega) hd0 (by rw[hll];omega) (by rw[e];decide),e]),(G.e 2)⟩
       ·have hlm3:=(ZdN (B:=x.B) (ls:=ls) (i:=k) oM (by rw[hkl];exact hz0) (by rw[hkl];omega)).symm.trans hlm
        refine Yi<|k40<|Yg<|(F.y F.ad) λF=>(F.m) λF=>?_
        show _/\_;exact⟨oM,_,_,F.u,G.u,rfl,rfl,hlm3⟩
     ·refine wp_exit ?_;have hl0:Z0K x.B ls=0:=by rw[<-hlm,List.drop_eq_nil_of_le oM];rfl
      refine k36<|wQ λk49=>wR λk50=>(F.y (F.fd 3)) λF=>(F.y (F.lc (G.q 1))) λF=>(F.k0 G (ZX x.tol 0 12 _)) λF G=>k50<|F.cb (λhc91=>?_) (λhc91=>?_)
      ·refine wR λk51=>(F.m) λF=>k51<|(F.r1) ?_
       exact⟨Z9 (by rw[chk6 hb1 (by rw[hdl];omega) hd0 (by rw[hll];omega) hl0,if_pos (by simpa using hc91)]),(G.e 2)⟩
      ·refine Yi<|k49<|wR λk52=>(F.m) λF=>k52<|(F.r1) ?_
       exact⟨Z9 (by rw[chk6 hb1 (by rw[hdl];omega) hd0 (by rw[hll];omega) hl0,if_neg (by simpa using hc91)]),(G.e 2)⟩
variable{μ:Nat}
theorem Z8Q(x y:Vm)(w:World)(hx:x.At w)(hy:y.At w)(sd:Zd y.D)(sl:Zd y.L)(hB:x.B=y.B)(hT:x.tol=y.tol)(hD:x.D.map (·.2)=y.D.map (·.2))(hL:x.L.map (·.2)=y.L.map (·.2)):
  Calls (Qy.prog μ) 40 #[.agg x.vc,.agg y.vc] w λe w'=>e = .returned (.bool true)/\Ext [] w w':=by
 have E:=Ext.refl [] w;have HX:=Lib.hid hx;have HY:=Lib.hid hy;have SD:=Lib.hid sd;have SL:=Lib.hid sl;have HD:=Lib.hid hD;have HL:=Lib.hid hL;clear hx hy sd sl hD hL;have G:=(Bk.nil w).ce E;refine(ent 31 Tryz.f40 rfl) λF=>wR λk1=>(F.bx G) λyy F G=>(F.bx G) λyy F G=>(F.m) λF=>k1<|wR λk2=>(F.y (F.fd 0)) λF=>(F.y (F.lc (G.q 1))) λF=>(F.y (F.fd 0)) λF=>(F.y (F.lc (G.q 0))) λF=>(F.y F.eqT) λF=>(F.m) λF=>(F.y (F.fd 3)) λF=>(F.y (F.lc (G.q 1))) λF=>?_
 refine(F.y (F.fd 3)) λF=>(F.y (F.lc (G.q 0))) λF=>(F.y F.eqT) λF=>(F.y F.pT) λF=>(F.m) λF=>(F.y (F.fd 1)) λF=>(F.y (F.lc (G.q 1))) λF=>(F.y (F.fd 1)) λF=>(F.y (F.lc (G.q 0))) λF=>(F.k0 G (Z3M x.D y.D HD.out SD.out.2 SD.out.1 _ _ _ _ _ (HX.out.d.ext (G.e 2)) (HY.out.d.ext (G.e 2)))) λF G=>(F.y F.pT) λF=>(F.m) λF=>?_;refine(F.y (F.fd 2)) λF=>(F.y (F.lc (G.q 1))) λF=>(F.y (F.fd 2)) λF=>(F.y (F.lc (G.q 0))) λF=>(F.k0 G (Z3M x.L y.L HL.out SL.out.2 SL.out.1 _ _ _ _ _ (HX.out.l.ext (G.e 2)) (HY.out.l.ext (G.e 2)))) λF G=>(F.y F.pT) λF=>(F.m) λF=>k2<|(F.r1) ?_
 exact⟨rfl,(G.e 2)⟩
theorem Z0R{b2: Nat}(oo:w.ownsRow b 22 1 (.slice a M.length c) M.length (M.map (·.1)))(fam:FamT w b2 M): ZL w a M:=⟨Z3P oo rfl,λp hp=>Zdq fam hp⟩
theorem Z1z{b': Nat}(h:FamT w b M)(hb:b'<=b): FamT w b' M:=⟨λp hp=>Za (h.1 p hp) hb,h.2⟩
variable{μ:Nat}
theorem Z0X(n lo hi:Int)(w:World):Calls (Qy.prog μ) 89 #[.int .i64 n,.int .i64 lo,.int .i64 hi] w λe w'=>e = .returned (.bool (!outB n lo hi))/\Ext [] w w':=by
 have E:=Ext.refl [] w;have hl:outB n lo hi=(decide (n<lo)||decide (hi<n)):=rfl;have G:=(Bk.nil w).ce E;refine(ent 15 Tryz.f89 rfl) λF=>wR λk1=>(F.m) λF=>k1<|wQ λk2=>?_
 by_cases c1:n<lo
 ·refine Yg<|(F.m) λF=>(F.m) λF=>(F.y F.geF) λF=>(F.m) λF=>(F.n) λF=>(F.n) λF=>(F.n) λF=>(F.y F.pF) λF=>(F.m) λF=>?_
  rw[decide_eq_true c1,Bool.true_or]at hl;refine k2<|(F.r1) ?_
  exact⟨congrArg (λx=>Ending.returned (Value.bool (!x))) hl.symm,(G.e 0)⟩
 ·by_cases c2:hi<n
  ·refine Yg<|(F.m) λF=>(F.m) λF=>(F.y F.geT) λF=>(F.m) λF=>(F.m) λF=>(F.m) λF=>(F.y F.leF) λF=>(F.y F.pT) λF=>(F.m) λF=>?_
   rw[decide_eq_true c2,Bool.or_true]at hl;refine k2<|(F.r1) ?_
   exact⟨congrArg (λx=>Ending.returned (Value.bool (!x))) hl.symm,(G.e 0)⟩
  ·refine Yg<|(F.m) λF=>(F.m) λF=>(F.y F.geT) λF=>(F.m) λF=>(F.m) λF=>(F.m) λF=>(F.y F.leT) λF=>(F.y F.pT) λF=>(F.m) λF=>?_
   rw[decide_eq_false c1,decide_eq_false c2]at hl;refine k2<|(F.r1) ?_
   exact⟨congrArg (λx=>Ending.returned (Value.bool (!x))) hl.symm,(G.e 0)⟩
theorem Z46(n m:Int)(w:World):Calls (Qy.prog μ) 95 #[.int .i64 n,.int .i64 m] w λe w'=>e = .returned (.int .i64 (sizE n m))/\Ext [] w w':=by
 have E:=Ext.refl [] w;have G:=(Bk.nil w).ce E;refine(ent 10 Tryz.f95 rfl) λF=>wR λk1=>(F.m) λF=>k1<|wQ λk2=>wR λk3=>(F.m) λF=>(F.y F.eq) λF=>k3<|F.ci (λhc6=>?_) (λhc6=>?_)
 ·refine wR λk4=>(F.m) λF=>k4<|(F.r1) ?_
  first | exact⟨Z9 (by rw[sizE,if_pos oM]),(G.e 0)⟩ | exact⟨Z9 (by rw[sizE,if_neg oM,if_pos oM]),(G.e 0)⟩ | exact⟨Z9 (by rw[sizE,if_neg oM,if_neg oM]),(G.e 0)⟩
 ·refine Yi<|k2<|wQ λk5=>wR λk6=>(F.m) λF=>(F.m) λF=>(F.y F.gt) λF=>k6<|F.ci (λhc9=>?_) (λhc9=>?_)
  ·refine wR λk7=>(F.m) λF=>k7<|(F.r1) ?_
   first | exact⟨Z9 (by rw[sizE,if_pos oM]),(G.e 0)⟩ | exact⟨Z9 (by rw[sizE,if_neg oM,if_pos oM]),(G.e 0)⟩ | exact⟨Z9 (by rw[sizE,if_neg oM,if_neg oM]),(G.e 0)⟩
  ·refine Yi<|k5<|wR λk8=>(F.m) λF=>k8<|(F.r1) ?_
   first | exact⟨Z9 (by rw[sizE,if_pos oM]),(G.e 0)⟩ | exact⟨Z9 (by rw[sizE,if_neg oM,if_pos oM]),(G.e 0)⟩ | exact⟨Z9 (by rw[sizE,if_neg oM,if_neg oM]),(G.e 0)⟩
theorem Z8j(xs ys:List Int)(a b:Option Addr)(ca cb:Nat)(w:World)(hx:Z6 w (.slice a xs.length ca) 1 (xs.map Z4))(hy:Z6 w (.slice b ys.length cb) 1 (ys.map Z4))(he:xs.length=ys.length)(h1:xs.length<=1000000):
  Calls (Qy.prog μ) 97 #[.slice a xs.length ca,.slice b ys.length cb] w λe w'=>e = .returned (.bool (decide (xs=ys)))/\Ext [] w w':=by
 have HS:=Lib.hid (Z7 hx 0);have HU:=Lib.hid (Z7 hy 0);have E:=Ext.refl [] w;clear hx hy;have G:=(Bk.nil w).ce E;refine(ent 21 Tryz.f97 rfl) λF=>wR λk1=>(F.m) λF=>k1<|wQ λk2=>wR λk3=>(F.m) λF=>k3<|Yh<|lpB (F.b [0,1]) G xs.length (λi Lv Sv W=>Lv=[(5,.int .i64 ((i:Nat):Int))]/\Sv=[]/\∀j,j<i->xs.getD j 0=ys.getD j 0) ⟨_,_,F.u,G.u,rfl,rfl,λj hj=>absurd hj oM⟩ ?_
 clear F G;rintro i _ w1 _ _ hi1 ⟨rfl,rfl,hb⟩ F G;replace G:=G.z;refine wQ λk4=>wR λk5=>(F.m) λF=>(F.m) λF=>(F.y F.ln) λF=>(F.y F.ls) λF=>k5<|F.ci (λhc9=>?_) (λhc9=>?_)
 ·refine Yi<|k4<|wQ λk6=>Yh<|wQ λk7=>(wX 8 G) λG=>(F.sm) λF=>(F.sm) λF=>(F.sx HS.out i) λxr8 F=>(F.s (F.l1 (xr8 _ (G.e 0)) 0)) λF=>(F.sm) λF=>(F.sm) λF=>(F.sx HU.out i) λxr9 F=>(F.s (F.l1 (xr9 _ (G.e 0)) 0)) λF=>wpStill_nil<|(F.y F.ne) λF=>k7<|F.ci (λhc20=>?_) (λhc20=>?_)
  ·refine wR λk10=>(F.m) λF=>k10<|(F.r1) ?_
   exact⟨ZK (decide_eq_false λh=>hc20 (by rw[h])).symm,(G.e 0)⟩
  ·refine Yi<|k6<|Yg<|(F.m) λF=>(F.y F.ad) λF=>(F.m) λF=>?_
   show _/\_;exact⟨oM,_,_,F.u,G.u,rfl,rfl,λj hj=>if e:j=i then e▸(by simpa using hc20) else hb j oM⟩
 ·refine wp_exit<|k2<|wR λk11=>(F.m) λF=>k11<|(F.r1) ?_
  exact⟨ZK (decide_eq_true (List.ext_getElem oM λj h1 h2=>by have:=hb j oM;simpa[h1,h2] using this)).symm,(G.e 0)⟩
theorem Z56(B tol:Int)(dv lv:Value)(l:List Int)(hi:Int)(a:Option Addr)(c:Nat)(w:World)(h:Z6 w (.slice a l.length c) 1 (l.map Z4))(hl:l.length<=1000):
  Calls (Qy.prog μ) 96 #[.agg #[.int .i64 B,dv,lv,.int .i64 tol],.slice a l.length c,.int .i64 hi] w λe w'=>e = .returned (.int .i64 (numE l B hi))/\Ext [] w w':=by
 have HS:=Lib.hid (Z7 h 0);have E:=Ext.refl [] w;clear h;have G:=(Bk.nil w).ce E;refine(ent 26 Tryz.f96 rfl) λF=>wR λk1=>(F.bx G) λyy F G=>(F.m) λF=>k1<|wQ λk2=>wR λk3=>(F.m) λF=>(F.y F.ln) λF=>(F.y (F.fd 0)) λF=>(F.y (F.lc (G.q 0))) λF=>(F.y F.ne) λF=>k3<|F.ci (λhc12=>?_) (λhc12=>?_)
 ·refine wR λk4=>(F.m) λF=>k4<|(F.r1) ?_
  have e:numE l B hi=9:=(by rw[numE,if_pos oM]);exact⟨by rw[e],(G.e 1)⟩
 ·refine Yi<|k2<|wQ λk5=>wR λk6=>(F.m) λF=>k6<|Yh<|lpB (F.b [1,2]) G l.length (λi Lv Sv W=>Lv=[(7,.int .i64 ((i:Nat):Int))]/\Sv=[]/\(∀j,j<i->outB (l.getD j 0) 0 hi=false)) ⟨_,_,F.u,G.u,rfl,rfl,(λj hj=>absurd hj oM)⟩ ?_
  clear F G;rintro i _ w2 _ _ hi1 ⟨rfl,rfl,hb⟩ F G;replace G:=G.z;refine wQ λk7=>wR λk8=>(F.m) λF=>(F.m) λF=>(F.y F.ln) λF=>(F.y F.ls) λF=>k8<|F.ci (λhc16=>?_) (λhc16=>?_)
  ·refine Yi<|k7<|wQ λk9=>Yh<|wR λk10=>(F.m) λF=>(F.m) λF=>(F.ix HS.out i) λxr11 F=>(F.y (F.l1 (xr11 _ (G.e 1)) 0)) λF=>(F.m) λF=>(F.k0 G (Z0X (l.getD i 0) 0 hi _)) λF G=>(F.y F.nb) λF=>k10<|F.cb (λhc25=>?_) (λhc25=>?_)
   ·have hyes:outB (l.getD i 0) 0 hi=true:=by simpa using hc25
    refine wR λk12=>(F.m) λF=>k12<|(F.r1) ?_
    have e:numE l B hi=1:=(by rw[numE,if_neg oM,Z9i oM hyes];rfl);exact⟨by rw[e],(G.e 1)⟩
   ·have hno:outB (l.getD i 0) 0 hi=false:=by simpa using hc25
    refine Yi<|k9<|Yg<|(F.m) λF=>(F.y F.ad) λF=>(F.m) λF=>?_
    show _/\_;exact⟨oM,_,_,F.u,G.u,rfl,rfl,(λj hj=>if e:j=i then e▸hno else hb j oM)⟩
  ·refine wp_exit<|k5<|wR λk13=>(F.m) λF=>k13<|(F.r1) ?_
   have e:numE l B hi=0:=(by rw[numE,if_neg oM,Z6E hb oM];rfl);exact⟨by rw[e],(G.e 1)⟩
def cntE(l:List Int)(many hi:Int):Int:=if (l.length:Int)<many then 7 else if many<l.length then 6 else if l.all (λn=>!outB n 0 hi) then 0 else 1
theorem Z2a(l:List Int)(many hi:Int)(a:Option Addr)(c:Nat)(w:World)(h:Z6 w (.slice a l.length c) 1 (l.map Z4))(hl:l.length<=1000):
  Calls (Qy.prog μ) 90 #[.slice a l.length c,.int .i64 many,.int .i64 hi] w λe w'=>e = .returned (.int .i64 (cntE l many hi))/\Ext [] w w':=by
 have HS:=Lib.hid (Z7 h 0);have E:=Ext.refl [] w;clear h;have G:=(Bk.nil w).ce E;refine(ent 29 Tryz.f90 rfl) λF=>wR λk1=>(F.m) λF=>k1<|wQ λk2=>wR λk3=>(F.m) λF=>(F.y F.ln) λF=>(F.m) λF=>(F.y F.ls) λF=>k3<|F.ci (λhc11=>?_) (λhc11=>?_)
 ·refine wR λk4=>(F.m) λF=>k4<|(F.r1) ?_
  have e:cntE l many hi=7:=(by rw[cntE,if_pos oM]);exact⟨by rw[e],(G.e 0)⟩
 ·refine Yi<|k2<|wQ λk5=>wR λk6=>(F.m) λF=>(F.y F.ln) λF=>(F.m) λF=>(F.y F.gt) λF=>k6<|F.ci (λhc15=>?_) (λhc15=>?_)
  ·refine wR λk7=>(F.m) λF=>k7<|(F.r1) ?_
   have e:cntE l many hi=6:=(by rw[cntE,if_neg oM,if_pos oM]);exact⟨by rw[e],(G.e 0)⟩
  ·refine Yi<|k5<|wQ λk8=>wR λk9=>(F.m) λF=>k9<|Yh<|lpB (F.b [0,2]) G l.length (λi Lv Sv W=>Lv=[(7,.int .i64 ((i:Nat):Int))]/\Sv=[]/\(∀j,j<i->outB (l.getD j 0) 0 hi=false)) ⟨_,_,F.u,G.u,rfl,rfl,(λj hj=>absurd hj oM)⟩ ?_
   clear F G;rintro i _ w1 _ _ hi1 ⟨rfl,rfl,hb⟩ F G;replace G:=G.z;refine wQ λk10=>wR λk11=>(F.m) λF=>(F.m) λF=>(F.y F.ln) λF=>(F.y F.ls) λF=>k11<|F.ci (λhc19=>?_) (λhc19=>?_)
   ·refine Yi<|k10<|wQ λk12=>Yh<|wR λk13=>(F.m) λF=>(F.m) λF=>(F.ix HS.out i) λxr14 F=>(F.y (F.l1 (xr14 _ (G.e 0)) 0)) λF=>(F.m) λF=>(F.k0 G (Z0X (l.getD i 0) 0 hi _)) λF G=>(F.y F.nb) λF=>k13<|F.cb (λhc28=>?_) (λhc28=>?_)
    ·have hyes:outB (l.getD i 0) 0 hi=true:=by simpa using hc28
     refine wR λk15=>(F.m) λF=>k15<|(F.r1) ?_
     have e:cntE l many hi=1:=(by rw[cntE,if_neg oM,if_neg oM,Z9i oM hyes];rfl);exact⟨by rw[e],(G.e 0)⟩
    ·have hno:outB (l.getD i 0) 0 hi=false:=by simpa using hc28
     refine Yi<|k12<|Yg<|(F.m) λF=>(F.y F.ad) λF=>(F.m) λF=>?_
     show _/\_;exact⟨oM,_,_,F.u,G.u,rfl,rfl,(λj hj=>if e:j=i then e▸hno else hb j oM)⟩
   ·refine wp_exit<|k8<|wR λk16=>(F.m) λF=>k16<|(F.r1) ?_
    have e:cntE l many hi=0:=(by rw[cntE,if_neg oM,if_neg oM,Z6E hb oM];rfl);exact⟨by rw[e],(G.e 0)⟩
theorem Z2C(l:List Int)(a:Option Addr)(c:Nat)(w:World)(h:Z6 w (.slice a l.length c) 1 (l.map Z4))(hl:l.length<=1000)(hn:∀n∈l,0<=n/\n<=1000):
  Calls (Qy.prog μ) 86 #[.slice a l.length c] w λe w'=>e = .returned (.int .i64 l.sum)/\Ext [] w w':=by
 have HS:=Lib.hid (Z7 h 0);have HN:=Lib.hid hn;have E:=Ext.refl [] w;clear h hn;have G:=(Bk.nil w).ce E;refine(ent 18 Tryz.f86 rfl) λF=>wR λk1=>(F.m) λF=>k1<|wR λk2=>(F.m) λF=>?_
 rw[show (0:Int)=(l.take 0).sum from rfl]at F;refine k2<|wQ λk3=>wR λk4=>(F.m) λF=>k4<|Yh<|lpB (F.b [0]) G l.length (λi Lv Sv W=>Lv=[(3,.int .i64 ((l.take i).sum)),(4,.int .i64 ((i:Nat):Int))]/\Sv=[]/\0<=(l.take i).sum/\(l.take i).sum<=1000*(i:Int)) ⟨_,_,F.u,G.u,rfl,rfl,sU,sU⟩ ?_
 clear F G;rintro i _ w1 _ _ hi1 ⟨rfl,rfl,hs0,hs1⟩ F G;replace G:=G.z;refine wQ λk5=>wR λk6=>(F.m) λF=>(F.m) λF=>(F.y F.ln) λF=>(F.y F.ls) λF=>k6<|F.ci (λhc8=>?_) (λhc8=>?_)
 ·refine Yi<|k5<|wQ λk7=>Yh ?_
  obtain⟨hn1,hn2⟩:=HN.out _ (Z5 0 (show i<l.length by omega));refine Yg<|(F.m) λF=>(F.m) λF=>(F.m) λF=>(F.ix HS.out i) λxr8 F=>(F.y (F.l1 (xr8 _ (G.e 0)) 0)) λF=>(F.y F.ad) λF=>?_
  rw[<-Z1l l (show i<l.length by omega)]at F;refine(F.m) λF=>k7<|Yg<|(F.m) λF=>(F.y F.ad) λF=>(F.m) λF=>?_
  show _/\_;exact⟨oM,_,_,F.u,G.u,rfl,rfl,(by rw[Z1l l oM];omega),(by rw[Z1l l oM];omega)⟩
 ·refine wp_exit<|k3<|wR λk9=>(F.m) λF=>(F.m) λF=>k9<|(F.r1) ?_
  exact⟨Z9 (by rw[List.take_of_length_le oM]),(G.e 0)⟩
variable{μ:Nat}
def tubC(f:Nat->Int):Array Value:=#[.int .i64 (f 0),.int .i64 (f 1),.int .i64 (f 2),.int .i64 (f 3)]
def upF(f:Nat->Int)(k:Nat)(v:Int):Nat->Int:=λj=>if j=k then v else f j
def zf:Nat->Int:=λ_=>0
theorem Z6z{i:Int}(h:i.toNat=k)(hk:k<4): (tubC f)[i.toNat]?=some (.int .i64 (f k)):=by
 subst h;rcases hi:i.toNat with _ | _ | _ | _ | n
 ·rfl
 ·rfl
 ·rfl
 ·rfl
 ·omega
theorem Z2v{T:TypeId}{fz:Nat×Nat}(H:w.heap[b]?=some (.cells (tubC f) T fz)){i:Int}(h:i.toNat=k)(hk:k<4): w.cell? ⟨b,0+i.toNat*1,none⟩=some (.int .i64 (f k)):=by
 rw[Z3 H,Nat.zero_add,Nat.mul_one];exact Z6z h hk
theorem Z9Y{w2: World}{T:TypeId}{i v:Int}(e:w2=w.setCell ⟨b,0+i.toNat*1,none⟩ (.int .i64 v))(H:w.heap[b]?=some (.cells (tubC f) T (0,0)))(h:i.toNat=k)(hk:k<4): w2.heap[b]?=some (.cells (tubC (upF f k v)) T (0,0)):=by
 refine ZU e H ?_;rw[Nat.zero_add,Nat.mul_one,h];clear e H h
 match k,hk with
 | 0,_=>rfl
 | 1,_=>rfl
 | 2,_=>rfl
 | 3,_=>rfl
theorem Z3Z{g: Nat->Int}(h:∀k,k<4->f k=g k): tubC f=tubC g:=by
 rw[tubC,tubC,h 0 oM,h 1 oM,h 2 oM,h 3 oM]
def sumQ(f:Nat->Int):Nat->Int
 | 0=>0
 | n+1=>sumQ f n+f n
theorem Z6w{f g:Nat->Int}:∀{n:Nat},(∀k,k<n->f k=g k)->sumQ f n=sumQ g n
 | 0,_=>rfl
 | n+1,h=>by rw[sumQ,sumQ,Z6w (n:=n) (λk hk=>h k oM),h n oM]
theorem Z7T{f:Nat->Int}{a b:Int}:∀{n:Nat},(∀k,k<n->a<=f k/\f k<=b)->a*n<=sumQ f n/\sumQ f n<=b*n
 | 0,_=>by simp[sumQ]
 | n+1,h=>by
  have h1:=Z7T (n:=n) (λk hk=>h k oM);have h2:=h n oM;rw[sumQ,show ((n+1:Nat):Int)=(n:Int)+1 from rfl,Int.mul_add,Int.mul_add];omega
theorem Z2s(l:List Int):∀n:Nat,l.length<=n->sumQ (val l) n=l.sum:=by
 have hk:∀n:Nat,n<=l.length->sumQ (val l) n=(l.take n).sum:=by
  intro n
  induction n with
  | zero=>intro _;simp[sumQ]
  | succ n ih=>intro h;rw[sumQ,ih oM,Z1l l oM];rfl
 intro n h
 induction n with
 | zero=>rw[hk 0 oM];have:l=[]:=List.length_eq_zero_iff.1 oM;subst this;rfl
 | succ n ih =>
  by_cases e:l.length=n+1
  ·rw[hk (n+1) oM,List.take_of_length_le oM]
  ·rw[sumQ,ih oM];simp[val,List.getElem?_eq_none (show l.length<=n by omega)]
def prt(f:Nat->Int):Int:=sumQ f 4
def Zkk(f:Nat->Int):Prop:=∀k,k<4->0<=f k/\f k<=1000
theorem ZY(f:Nat->Int)(hf:Zkk f)(w:World):Calls (Qy.prog μ) 83 #[.agg (tubC f)] w λe w'=>e = .returned (.int .i64 (prt f))/\Ext [] w w':=by
 have E:=Ext.refl [] w;have HF:=Lib.hid hf;clear hf;have G:=(Bk.nil w).ce E;refine(ent 15 Tryz.f83 rfl) λF=>wR λk1=>(F.bx G) λyy F G=>(F.m) λF=>k1<|wR λk2=>(F.m) λF=>?_
 rw[show (0:Int)=sumQ f 0 from rfl]at F;refine k2<|wQ λk3=>wR λk4=>(F.y (F.lb (G.q 0))) λF=>(F.m) λF=>?_
 rw[show (0:Int)=((0:Nat):Int) from rfl]at F;refine k4<|Yh<|lpB (F.b [6]) G (4) (λi Lv Sv W=>Lv=[(3,.int .i64 (sumQ f i)),(7,.int .i64 ((i:Nat):Int))]/\Sv=[]/\0<=sumQ f i/\sumQ f i<=1000*(i:Int)) ⟨_,_,F.u,G.u,rfl,rfl,(by simp[sumQ]),(by simp[sumQ])⟩ ?_
 clear F G;rintro i _ w2 _ _ hi1 ⟨rfl,rfl,hs0,hs1⟩ F G;replace G:=G.z;refine wR λk5=>(F.y F.ls) λF=>k5<|wQ λk6=>F.ci (λhc8=>?_) (λhc8=>?_)
 ·refine Yi<|k6<|wQ λk7=>Yh<|wR λk8=>(F.y (F.iv 4 (Z6z (k:=i) rfl oM))) λF=>(F.m) λF=>k8 ?_
  obtain⟨hf0,hf1⟩:=HF.out i oM;refine Yg<|(F.m) λF=>(F.m) λF=>(F.y F.ad) λF=>?_
  rw[show sumQ f i+f i=sumQ f (i+1) from rfl]at F;refine(F.m) λF=>k7<|Yg<|(F.y F.ad) λF=>(F.m) λF=>?_
  show _/\_;exact⟨oM,_,_,F.u,G.u,rfl,rfl,(by rw[sumQ];omega),(by rw[sumQ];omega)⟩
 ·refine wp_exit<|k3<|wR λk9=>(F.m) λF=>(F.m) λF=>k9<|(F.r1) ?_
  have hi:i=4:=oM;exact⟨Z9 (by rw[hi,prt]),(G.e 1)⟩
variable{μ:Nat}
structure VOk(x:Vm):Prop where
 chk:chkE x.B (x.D.map (·.2)) (x.L.map (·.2)) x.tol=0
 b1:1<=x.B
 b3:x.B<=3
 d1:1<=x.D.length
 d4:x.D.length<=4
 dl:∀p∈x.D,(p.2.length:Int)=x.B/\∀n∈p.2,0<=n/\n<=9
 l1:1<=x.L.length
 l3:x.L.length<=3
 ll:∀p∈x.L,(p.2.length:Int)=x.B/\∀n∈p.2,0<=n/\n<=3
 t0:0<=x.tol
 t12:x.tol<=12
theorem VOk.sd{x:Vm}(h:VOk x):Zd x.D:=⟨by have:=h.d4;omega,λp hp=>by have:=(h.dl p hp).1;have:=h.b3;omega⟩
theorem VOk.sl{x:Vm}(h:VOk x):Zd x.L:=⟨by have:=h.l3;omega,λp hp=>by have:=(h.ll p hp).1;have:=h.b3;omega⟩
theorem Z7w(w:World):Calls (Qy.prog μ) 111 #[.int .i64 0] w λe w'=>e = .returned (.tuple #[])/\Ext [] w w':=by
 have E:=Ext.refl [] w;have G:=(Bk.nil w).ce E;refine(ent 6 Tryz.f111 rfl) λF=>wR λk1=>(F.m) λF=>(F.y F.neF) λF=>k1<|(F.cF)<|Yi<|(F.e0) ?_
 exact⟨rfl,(G.e 0)⟩
theorem Z09(x:Vm)(hv:VOk x)(w:World)(h:x.At w):Calls (Qy.prog μ) 64 #[.agg x.vc] w λe w'=>e = .returned (.agg x.vc)/\Ext [] w w':=by
 have E:=Ext.refl [] w;have HX:=Lib.hid h;have HV:=Lib.hid hv;clear h hv;have G:=(Bk.nil w).ce E;refine(ent 8 Tryz.f64 rfl) λF=>wR λk1=>(F.bx G) λyy F G=>(F.al G Qy.zeroValue85) λyy F G=>k1<|wR λk2=>(F.y (F.lb (G.q 1))) λF=>(F.k (Z4i x _ (HX.out.ext (G.e 2)) HV.out.sd HV.out.sl)) ?_
 rintro _ w3 ⟨rfl,e9⟩;refine kG G e9 λF G=>?_;rw[HV.out.chk]at F;refine(F.k0 G (Z7w _)) λF G=>k2<|wR λk3=>(F.y (F.lb (G.q 1))) λF=>(F.y (F.bv x.vc)) λF=>(F.sr G 0) λG=>k3 ?_
 refine(F.rg (rs_c F rfl rfl Qy.underlying85 rfl kR (G.q 0))) ?_;exact⟨rfl,(G.e 2)⟩
theorem Z9F(x:Vm)(hv:VOk x)(n:Int)(h0:0<=n)(h1:n<x.L.length)(w:World):Calls (Qy.prog μ) 87 #[.agg x.vc,.int .i64 n] w λe w'=>e = .returned (.tuple #[])/\Ext [] w w':=by
 have E:=Ext.refl [] w;have ho:outB n 0 (((x.L.length:Nat):Int)-1)=false:=Z0d.2 oM;have hl3:=hv.l3;have G:=(Bk.nil w).ce E;refine(ent 12 Tryz.f87 rfl) λF=>wR λk1=>(F.bx G) λyy F G=>k1<|wR λk2=>(F.m) λF=>(F.y (F.fd 0)) λF=>(F.y (F.fd 2)) λF=>(F.y (F.lc (G.q 0))) λF=>(F.y F.ln) λF=>(F.y F.sb) λF=>(F.k0 G (ZX n 0 (((x.L.length:Nat):Int)-1) _)) λF G=>k2<|(F.jF ho)<|Yi<|(F.e0) ?_
 exact⟨rfl,(G.e 1)⟩
def dotE(a s:Nat->Int)(n:Nat):Int:=sumQ (λi=>a i*s i) n
theorem Z8H{a b:Int}(a0:0<=a)(a1:a<=10)(b0:0<=b)(b1:b<=100000): 0<=a*b/\a*b<=1000000:=by
 refine⟨Int.mul_nonneg a0 b0,?_⟩;have h1:a*b<=10*b:=Int.mul_le_mul_of_nonneg_right a1 b0;omega
def Vm.lamp(x:Vm)(k:Nat):List Int:=(x.L.getD k (.bool true,[])).2
def Vm.dye(x:Vm)(k:Nat):List Int:=(x.D.getD k (.bool true,[])).2
theorem Z2P(x:Vm)(hv:VOk x)(k:Nat)(hk:k<x.L.length)(s:List Int)(hs:(s.length:Int)=x.B)(hb:∀n∈s,0<=n/\n<=100000)(a:Option Addr)(c:Nat)(w:World)(h:x.At w)(hr:Z6 w (.slice a s.length c) 1 (s.map Z4)):
  Calls (Qy.prog μ) 102 #[.agg x.vc,.int .i64 ((k:Nat):Int),.slice a s.length c] w λe w'=>e = .returned (.int .i64 (dotE (val (x.lamp k)) (val s) s.length))/\Ext [] w w':=by
 have E:=Ext.refl [] w;have HL:=Lib.hid h.l.1;have HS:=Lib.hid (Z7 hr 0);obtain⟨la,lca,hla,hlr⟩:=h.l.2 _ (Z5 (.bool true,[]) hk);obtain⟨hll,hln⟩:=hv.ll _ (Z5 (.bool true,[]) hk);have HLR:=Lib.hid (Z7 hlr 0);have HLN:=Lib.hid hln;have HB:=Lib.hid hb;have hl3:=hv.l3;have hb3:=hv.b3;clear h hr hv hlr hln hb;have G:=(Bk.nil w).ce E;refine(ent 32 Tryz.f102 rfl) λF=>wR λk1=>(F.bx G) λyy F G=>(F.m) λF=>k1<|wR λk2=>(F.m) λF=>?_
 rw[show (0:Int)=sumQ (λi=>val (x.lamp k) i*val s i) 0 from rfl]at F;refine k2<|wQ λk3=>wR λk4=>(F.y (F.fd 0)) λF=>(F.y (F.fd 2)) λF=>(F.y (F.lc (G.q 0))) λF=>(F.m) λF=>(F.ix HL.out k) λxr5 F=>(F.y (F.l1 (xr5 _ (G.e 1)) 0)) λF=>?_
 rw[hla]at F;refine(F.y F.ln) λF=>(F.m) λF=>k4<|Yh<|lpB (F.b [2,15,16]) G s.length (λi Lv Sv W=>Lv=[(7,.int .i64 (sumQ (λi=>val (x.lamp k) i*val s i) i)),(17,.int .i64 ((i:Nat):Int))]/\Sv=[]/\0<=sumQ (λi=>val (x.lamp k) i*val s i) i/\sumQ (λi=>val (x.lamp k) i*val s i) i<=1000000*(i:Int)) ⟨_,_,F.u,G.u,rfl,rfl,(by simp[sumQ]),(by simp[sumQ])⟩ ?_
 clear F G;rintro i _ w2 _ _ hi1 ⟨rfl,rfl,hs0,hs1⟩ F G;replace G:=G.z;refine wR λk6=>(F.y F.ls) λF=>k6<|wQ λk7=>F.ci (λhc18=>?_) (λhc18=>?_)
 ·refine Yi<|k7<|wQ λk8=>Yh<|wR λk9=>(F.m) λF=>(F.ix HLR.out i) λxr10 F=>(F.y (F.l1 (xr10 _ (G.e 1)) 0)) λF=>(F.m) λF=>(F.m) λF=>k9 ?_
  obtain⟨hf0,hf1⟩:=HLN.out _ (Z5 (l:=(x.L.getD k (.bool true,[])).2) (i:=i) 0 oM);obtain⟨hg0,hg1⟩:=HB.out _ (Z5 (l:=s) (i:=i) 0 oM);obtain⟨hm0,hm1⟩:=Z8H hf0 oM hg0 hg1;refine Yg<|(F.m) λF=>(F.m) λF=>(F.m) λF=>(F.m) λF=>(F.ix HS.out i) λxr11 F=>(F.y (F.l1 (xr11 _ (G.e 1)) 0)) λF=>(F.y F.ml) λF=>(F.y F.ad) λF=>?_
  rw[show sumQ (λi=>val (x.lamp k) i*val s i) i+(x.L.getD k (.bool true,[])).2.getD i 0*s.getD i 0=sumQ (λi=>val (x.lamp k) i*val s i) (i+1) from rfl]at F;refine(F.m) λF=>k8<|Yg<|(F.y F.ad) λF=>(F.m) λF=>?_
  show _/\_;exact⟨oM,_,_,F.u,G.u,rfl,rfl,(by rw[sumQ];simp only[val,Vm.lamp]at *;omega),(by rw[sumQ];simp only[val,Vm.lamp]at *;omega)⟩
 ·refine wp_exit<|k3<|wR λk12=>(F.m) λF=>(F.m) λF=>k12<|(F.r1) ?_
  have hi:i=s.length:=oM;exact⟨Z9 (by rw[hi,dotE]),(G.e 1)⟩
end
section
open Go.RowKit Lift
variable{μ:Nat}
section
variable[Jk]{C:Inv}{r:Ren}{v w:World}
theorem Z4A(h:WH C r v w){o: Nat}(hb:r b=some c){x:Value}(hx:v.cell? ⟨b,o,none⟩=some x): ∃y,w.cell? ⟨c,o,none⟩=some y/\VR r x y:=by
 obtain⟨p,q,h1,h2,h3⟩:=h.on _ _ hb;unfold World.cell? at hx⊢;rw[h1]at hx;rw[h2];cases h3 with
 | cells k _ =>
  simp only[Option.isSome_none,Bool.false_eq_true,if_false]at hx⊢;rcases k.get o with⟨a,_⟩ | ⟨x1,y1,a,b1,k1⟩
  ·rw[a]at hx;cases hx
  ·rw[a]at hx;obtain rfl:=Y1 hx;exact⟨y1,b1,k1⟩
 | _=>cases hx
theorem Z0h{w:World}{b o:Nat}{x:Value}(h:w.cell? ⟨b,o,none⟩=some x):b<w.heap.size/\∃cs e fz,w.heap[b]?=some (.cells cs e fz):=by
 unfold World.cell? at h;cases e:w.heap[b]? with
 | none=>rw[e]at h;cases h
 | some ob =>
  rw[e]at h;refine⟨(Y0.1 e).1,?_⟩;cases ob<;>first | exact⟨_,_,_,rfl⟩ | cases h
theorem Zb8(h:WH C r v w)(hx:Z6 v (.slice a n c) 1 (xs.map Z4))(hy:VR r (.slice a n c) y): ∃a',y = .slice a' n c/\Z6 w (.slice a' n c) 1 (xs.map Z4):=by
 obtain⟨a0,c0,e0,hl,hc⟩:=hx;simp only[Value.slice.injEq]at e0;obtain⟨rfl,hn,rfl⟩:=e0;cases hy with
 | sl0 =>
  refine⟨none,rfl,none,c,by rw[hn],hl,λhne=>?_⟩;obtain⟨b,off,e,_⟩:=hc hne;cases e
 | @slz a2 _ =>
  refine⟨some a2,rfl,some a2,0,by rw[hn],hl,λhne=>?_⟩;exact absurd (List.length_eq_zero_iff.1 (by rw[Yj]at hn⊢;omega)) hne
 | @sl a1 a2 _ _ q =>
  refine⟨some a2,rfl,some a2,c,by rw[hn],hl,λhne=>?_⟩;obtain⟨b,off,e,hb,hk⟩:=hc hne;obtain rfl:=Y1 e;cases q with
  | @mk _ b' _ _ q =>
   obtain⟨_,h2⟩:b<v.heap.size/\b'<w.heap.size:=by
    obtain⟨p,p',g1,g2,_⟩:=h.on _ _ q;exact⟨(Y0.1 g1).1,(Y0.1 g2).1⟩
   refine⟨b',off,rfl,h2,λi j x hi hj=>?_⟩;have h3:=hk i j x hi hj;rw[Yn]at hi;obtain⟨z,_,rfl⟩:=Y3.1 hi;obtain rfl:j=0:=by omega
   have h4:v.cell? ⟨b,off+i*1+0,none⟩=some (.int .i64 z):=h3;obtain⟨y,h5,h6⟩:=Z4A h q h4;cases h6;exact h5
theorem Zes(h:WH C r v w){x: Value}(hx:Z0w v x xs)(hy:VR r x y): Z0w w y xs:=by
 obtain⟨a,c,rfl,hr⟩:=hx;obtain⟨a',rfl,hr'⟩:=Zb8 h hr hy;exact⟨a',c,rfl,hr'⟩
theorem ZF{w:World}{a:Option Addr}{n:Nat}{f:Nat->Value}:SlAt [] w a 1 n (λi=>[f i])↔∀i,i<n->∃b off,a=some ⟨b,off,none⟩/\w.cell? ⟨b,off+i,none⟩=some (f i):=by
 constructor
 ·intro h i hi;obtain⟨b,off,h1,h2⟩:=h i hi;have e:=h1 0 0;simp only[Value.slice.injEq,and_true]at e;have:=h2 w (Ext.refl _ _) 0 (f i) sU;exact⟨b,off,e,by simpa using this⟩
 ·intro h i hi;obtain⟨b,off,h1,h2⟩:=h i hi;refine⟨b,off,λm c=>by rw[h1],λW e j x hx=>?_⟩;cases j with
  | zero =>
   simp only[List.getElem?_cons_zero,Y4]at hx;subst hx;have:=e.cell (a:=⟨b,off+i,none⟩) (Z0h h2).1 sU;simpa[this] using h2
  | succ j=>simp at hx
end
end
namespace Lift
open Go Go.Conc Go.RowKit
abbrev lawF:FuncId:=6
def lS:List Nat:=Qy.own++[15,26,66,185,186,lawF]
def gS(k:Nat):Bool:=lS.elem k
noncomputable def okS(k:Nat):Bool:=match (Qy.prog 0).funcs[k]? with
 | some fn=>!(fn.name == "runtime.NumGoroutine")&&match fn.body with
  | some c=>ZO (Qy.prog 0) gS (λ_ _=>false) false false false false c
  | none=>false
 | none=>false
theorem ZmN:lS.all okS=true:=kR
theorem Zeb (h:gS k=true): ∃fn c,(Qy.prog 0).funcs[k]?=some fn/\(fn.name == "runtime.NumGoroutine")=false/\fn.body=some c/\ZO (Qy.prog 0) gS (λ_ _=>false) false false false false c=true:=by
 have h1:=Yl.1 ZmN k (List.elem_iff.1 h);unfold okS at h1;cases e:(Qy.prog 0).funcs[k]? with
 | none=>rw[e]at h1;cases h1
 | some fn =>
  rw[e]at h1;simp only[Y5,Bool.not_eq_true']at h1;cases eb:fn.body with
  | none=>have:=h1.2;rw[eb]at this;cases this
  | some c=>have:=h1.2;rw[eb]at this;exact⟨fn,c,rfl,h1.1,eb,this⟩
abbrev jk0:Jk:={j:=False,rest:=[],gd:=λf=>gS f=true}
theorem Z2Y:@Strip jk0 (Qy.prog 0) (Qy.F 0) (@CodeOk jk0 (Qy.prog 0) false) (λf=>gS f=true):=by
 refine @Strip.mk jk0 _ _ _ _ (λf h=>⟨rfl,id⟩) (λf fn h e=>?_) (λf fn c h e eb=>?_) (λf fn h e eb=>?_)<;>obtain⟨fn',c',h1,h2,h3,h4⟩:=Zeb h<;>have e:(Qy.prog 0).funcs[f]?=some fn:=e<;>rw[h1]at e<;>obtain rfl:=Y1 e
 ·exact h2
 ·rw[h3]at eb;obtain rfl:=Y1 eb;refine⟨h1,?_,h⟩;have:=@Z1P jk0 (Qy.prog 0) gS false (λf q=>q) (λ_=>id) (λ_ _=>false) (λf n q=>by cases q) c' false false false h4;have e2:(false=true)=False:=by simp
  rw[e2]at this;exact this
 ·rw[h3]at eb;cases eb
theorem gokS:@GOk jk0 (Qy.prog 0) (Qy.F 0) (λf=>gS f=true):=by
 intro f h;obtain⟨fn,c,h1,h2,h3,h4⟩:=Zeb h;exact⟨rfl,⟨fn,c,h1,h3⟩,h,id⟩
theorem recS:@Rec jk0 (Qy.prog 0):=⟨kR,λ_ h=>h⟩
theorem hQ0:PF (Qy.prog 0) (Qy.F 0)=Qy.prog 0:=rfl
section
variable[Jk]{P:Program}{F:Array Func}{G:FuncId->Prop}{Stop:List Frame->World->Prop}{V V':List Frame}{v v':World}
theorem Z4d(hQ:PF P F=P)(S:Strip P F (CodeOk P false) G)(hg:GOk P F G)(hrec:Rec P)(hP:∀x u,¬Stop [x] u)(k:Reach P Stop V v V' v')(hE:Ends P Stop V v)(h:Self P F V v):Self P F V' v':=by
 induction k with
 | refl=>exact h
 | @step f K v τ f' K' v1 es V' v' hn e t ih =>
  have hE1:Ends P Stop (f'::K') v1:=by
   cases hE with
   | stop q=>exact absurd q hn
   | step ok hk=>exact hk _ _ _ _ _ e
  rcases Self.step hQ S hg hrec h e with⟨rfl,hs⟩ | h1
  ·rw[<-hQ]at hE1;exact absurd hE1 (Z0n hP hs)
  ·exact ih hE1 h1
theorem Z2k{f:Frame}{K:List Frame}(hn:¬Stop (f::K) v)(h:Z5Y P Stop f K v V' v'): Reach P Stop (f::K) v V' v':=by
 obtain⟨τ,f',K',v1,es,e,t⟩:=h;exact .step hn e t
theorem ZbS(hQ:PF P F=P)(S:Strip P F (CodeOk P false) G)(hg:GOk P F G)(hrec:Rec P)(hP:∀x u,¬Stop [x] u){fr:Frame}{ch:List PanicEntry}(hm:fr.mode = .panicking ch)(hd:fr.defers=[])(hf:∃fn,P.funcs[fr.fn]?=some fn)(hE:Ends P Stop [fr,poison] v)(h:Self P F [fr,poison] v):Stop [fr,poison] v:=by
 cases hE with
 | stop q=>exact q
 | step ok hk =>
  exfalso;obtain⟨f0,A,r,hV,hi,hs,hw⟩:=h;simp only[List.cons.injEq]at hV;obtain⟨rfl,hA⟩:=hV;have hA:A=[]:=by
   cases A with
   | nil=>rfl
   | cons a tl=>have:=congrArg List.length hA;simp at this
  subst hA;have hfr:=hs.uncons.1;have hl:fr.leaving (PF P F) v (.panicked ch):=by rw[hQ];exact⟨hm,hd,hf⟩
  obtain⟨ch',h1,h2⟩:=Z3a (w:=re v v.tape) hfr hl true poison [];have hE1:=hk v.tape _ _ _ _ h2;rw[<-hQ]at hE1;have:Sour (poison.raise ch'):=.inr ⟨ch',rfl⟩;exact Z0n hP this hE1
end
section
variable[Jk]{C:Inv}{r:Ren}{u v w:World}
theorem Z5o(hh:∀b,b<v.heap.size->u.heap[b]?=v.heap[b]?)(hw:WH C r v w)(hx:Z6 u (.slice a n c) 1 (xs.map Z4))(hy:VR r (.slice a n c) y): Z6 v (.slice a n c) 1 (xs.map Z4):=by
 obtain⟨a0,c0,e0,hl,hc⟩:=hx;refine⟨a0,c0,e0,hl,λhne=>?_⟩;obtain⟨b,off,rfl,hb,hk⟩:=hc hne;simp only[Value.slice.injEq]at e0;obtain⟨rfl,_,_⟩:=e0;cases hy with
 | @sl a1 a2 _ _ q =>
  cases q with
  | @mk _ b' _ _ q =>
   obtain⟨o,_,h1,_⟩:=hw.on _ _ q;have hlt:=(Y0.1 h1).1;refine⟨b,off,rfl,hlt,λi j x hi hj=>?_⟩;rw[<-hk i j x hi hj];exact(World.cell?_of_block (w:=v) (hh b hlt)).symm
theorem Z7o(hh:∀b,b<v.heap.size->u.heap[b]?=v.heap[b]?)(hw:WH C r v w){L:List (Value×List Int)}(hx:ZL u a L)(hy:VR r (.slice a n c) y): ZL v a L:=by
 obtain⟨h1,h2⟩:=hx;rw[ZF]at h1;have key:∀i,i<L.length->∃b off,a=some ⟨b,off,none⟩/\v.cell? ⟨b,off+i,none⟩=some (L.getD i (.bool true,[])).1/\∃b',r b=some b':=by
  intro i hi;obtain⟨b,off,rfl,hc⟩:=h1 i hi;cases hy with
  | @sl a1 a2 _ _ q =>
   cases q with
   | @mk _ b' _ _ q =>
    obtain⟨o,_,g1,_⟩:=hw.on _ _ q;have hlt:=(Y0.1 g1).1;exact⟨b,off,rfl,by rw[<-hc];exact(World.cell?_of_block (w:=v) (hh b hlt)).symm,b',q⟩
 refine⟨?_,λp hp=>?_⟩
 ·rw[ZF];intro i hi;obtain⟨b,off,e,hc,_⟩:=key i hi;exact⟨b,off,e,hc⟩
 ·obtain⟨i,hi,rfl⟩:=List.getElem_of_mem hp;obtain⟨b,off,e,hc,b',hb⟩:=key i hi;obtain⟨z,_,hz⟩:=Z4A hw hb hc;have e1:L.getD i (.bool true,[])=L[i]:=by simp[hi]
  rw[e1]at hz;obtain⟨a3,c3,e3,hr3⟩:=h2 _ (List.getElem_mem hi);rw[e3]at hz;exact⟨a3,c3,e3,Z5o hh hw hr3 hz⟩
end
end Lift
section
open Go
variable{μ:Nat}
def ToZ(P:Program)(K:List Frame)(Z:Frame->World->Prop)(f:Frame)(w:World):Prop:=∃f' w',Z f' w'/\Steps P (lone f K w) (lone f' K w')
section
variable{P:Program}{K:List Frame}{Z:Frame->World->Prop}{b f:Frame}{a:Act}{k:List Item}{w w':World}{x y c:Code}{ops:Array Oper}{i:Nat}{rest:List Nat}{o:Oper}
theorem ToZ.here(h:Z f w):ToZ P K Z f w:=⟨f,w,h,Steps.refl _ _⟩
theorem ToZ.go{f':Frame}(h:Steps P (lone f K w) (lone f' K w'))(q:ToZ P K Z f' w'): ToZ P K Z f w:=by
 obtain⟨f2,w2,h1,h2⟩:=q;exact⟨f2,w2,h1,h.trans h2⟩
theorem ToZ.one{f':Frame}(h:step P (lone f K w) = .next (lone f' K w'))(q:ToZ P K Z f' w'):ToZ P K Z f w:=q.go (.one h)
theorem tI{e:Exit}{p q:Prop}(h:p): (e=e/\p)\/q:=.inl ⟨rfl,h⟩
theorem Z2u(h:ToZ P K Z (b.at a (.code x :: .code y::k)) w):ToZ P K Z (b.at a (.code (.seq x y)::k)) w:=h.one step_seq
theorem Z5I(h:x.wp P (λe a1 w1=>(e = .normal/\ToZ P K Z (b.at a1 k) w1)\/(e = .ret/\∀td,ToZ P K Z {b.at a1 td with mode:=.returning} w1)\/∃ch,e = .panic ch/\∀td,ToZ P K Z {b.at a1 td with mode:=.panicking ch} w1) a w):ToZ P K Z (b.at a (.code x::k)) w:=by
 obtain⟨e,a1,w1,hq,hr⟩:=h b k K;rcases hq with⟨rfl,h1⟩ | ⟨rfl,h1⟩ | ⟨ch,rfl,h1⟩
 ·exact h1.go hr
 ·obtain⟨td,hr⟩:=hr;exact(h1 td).go hr
 ·obtain⟨td,hr⟩:=hr;exact(h1 td).go hr
end
end
namespace Ev
open Go Lift
def Z3d{α:Type}(P:Program):Sem α->Option α
 | .pure a=>some a
 | .program k=>Z3d P (k P)
 | _=>none
theorem Z1X{P:Program}{s:Sem α}{x:α}(h:Z3d P s=some x)(w:World): s.run P w = .ok x w/\∀es,s.events P w es=es:=by
 induction s with
 | pure a=>simp only[Z3d,Y4]at h;subst h;exact⟨rfl,λ_=>rfl⟩
 | program k ih=>exact ih P h
 | _=>cases h
structure FA where
 fn:FuncId
 n:Nat
 env:List (Nat×Value)
 todo:List Item
 defs:List Deferred
 kind:CallKind
 ret:Bool
structure FOk(a:FA)(f:Frame):Prop where
 fn:f.fn=a.fn
 size:f.tmps.size=a.n
 env:∀t v,a.env.lookup t=some v->f.tmps[t]?=some v
 todo:f.todo=a.todo
 defs:f.defers=a.defs
 kind:f.kind=a.kind
 mode:f.mode=if a.ret then .returning else .run
 round:f.roundOf=none
def FA.val(a:FA):Operand->Option Value
 | .tmp t=>a.env.lookup t
 | .const v=>some v
 | .func f=>some (.func (.func f) #[] #[])
 | .global _=>none
def FA.rho(a:FA)(x:Operand):Value:=(a.val x).getD undef
theorem FOk.val{a:FA}{f:Frame}(h:FOk a f){v:Value}(e:a.val x=some v): f.eval x=v:=by
 cases x with
 | tmp t =>
  have:=h.env t v e;show f.tmps.getD t undef=v;rw[Y6,this];rfl
 | const u=>exact Y1 e
 | func g=>exact Y1 e
 | global g=>cases e
def Zeo:Op->Option (List Operand)
 | .move x | .assign x | .nilCheck x=>some [x]
 | .pick c a b=>some [c,a,b]
 | .binOp _ _ x y _=>some [x,y]
 | .unOp _ _ x=>some [x]
 | .convert _ _ x=>some [x]
 | .fieldAddr _ x _=>some [x]
 | .indexAddr _ x i=>some [x,i]
 | .makeFunc _ xs ys=>some (xs.toList++ys.toList)
 | .typeAssert x _ _ _=>some [x]
 | .extract x _=>some [x]
 | .call c | .defer c=>match c.callee with
  | .value f=>some (f::c.args.toList)
  | _=>none
 | _=>none
theorem Z3F{xs:Array Operand}(h:∀x∈xs.toList,ρ x=ρ' x): xs.map ρ=xs.map ρ':=by
 apply Array.ext';rw[Array.toList_map,Array.toList_map];exact List.map_congr_left h
theorem ZbA{l:List Operand}(hl:Zeo o.op=some l)(h:∀x∈l,ρ x=ρ' x): execOp ρ o=execOp ρ' o:=by
 unfold execOp;cases ho:o.op with
 | move x=>rw[ho]at hl;cases hl;simp only[h x sU]
 | assign x=>rw[ho]at hl;cases hl;simp only[h x sU]
 | nilCheck x=>rw[ho]at hl;cases hl;simp only[h x sU]
 | pick c a b=>rw[ho]at hl;cases hl;simp only[h c sU,h a sU,h b sU]
 | binOp op t x y u=>rw[ho]at hl;cases hl;simp only[h x sU,h y sU]
 | unOp op t x=>rw[ho]at hl;cases hl;simp only[h x sU]
 | convert s d x=>rw[ho]at hl;cases hl;simp only[h x sU]
 | fieldAddr t x i=>rw[ho]at hl;cases hl;simp only[h x sU]
 | indexAddr t x i=>rw[ho]at hl;cases hl;simp only[h x sU,h i sU]
 | typeAssert x t u ok=>rw[ho]at hl;cases hl;simp only[h x sU]
 | extract x i=>rw[ho]at hl;cases hl;simp only[h x sU]
 | makeFunc fn xs ys =>
  rw[ho]at hl;cases hl;simp only[Z3F (xs:=xs) λx hx=>h x (by simp[Array.mem_toList_iff.1 hx]),Z3F (xs:=ys) λx hx=>h x (by simp[Array.mem_toList_iff.1 hx])]
 | call c =>
  rw[ho]at hl;obtain⟨callee,args,argTypes⟩:=c;cases callee with
  | value f =>
   cases hl;dsimp only;unfold resolve;dsimp only;rw[h f sU,Z3F (xs:=args) λx hx=>h x (by simp[Array.mem_toList_iff.1 hx])]
  | _=>cases hl
 | defer c =>
  rw[ho]at hl;obtain⟨callee,args,argTypes⟩:=c;cases callee with
  | value f =>
   cases hl;dsimp only;unfold resolve;dsimp only;rw[h f sU,Z3F (xs:=args) λx hx=>h x (by simp[Array.mem_toList_iff.1 hx])]
  | _=>cases hl
 | _=>simp[ho,Zeo]at hl
def cvOk(P:Program)(s d:TypeId):Bool:=
 match P.underlying s,P.underlying d with
 | some (.pointer t),some .unsafePointer=>(P.info? t).map (λi=>decide (i.size=0))==some false
 | _,_=>false
def FA.op(P:Program)(a:FA)(o:Oper):Option (Next×List Addr):=
 let go:Unit->Option (Next×List Addr):=λ_=>match Zeo o.op with
  | some l=>if l.all λx=>(a.val x).isSome then(Z3d P (execOp a.rho o)).map λn=>(n,[]) else none
  | none=>none
 match o.op with
 | .convert s d x=>match a.val x with
  | some (.pointer (some p))=>if cvOk P s d then some (.value (.pointer (some p)),[p]) else none
  | _=>go ()
 | _=>go ()
theorem Zgf {P:Program} {a:FA} {f:Frame} {o:Oper} {n:Next} {ps:List Addr} (h:FOk a f) (e:a.op P o=some (n,ps)) (w:World) (hp:∀p∈ps,∃v,w.cell? p=some v) :
    (execOp f.eval o).run P w = .ok n w/\∀es,(execOp f.eval o).events P w es=es:=by
  have gen:∀{n:Next} {ps:List Addr},(match Zeo o.op with
    | some l=>if l.all λx=>(a.val x).isSome then(Z3d P (execOp a.rho o)).map λn=>(n,([]:List Addr)) else none
    | none=>none)=some (n,ps)->(execOp f.eval o).run P w = .ok n w/\∀es,(execOp f.eval o).events P w es=es:=by
    intro n ps e;cases hl : Zeo o.op with
    | none=>rw[hl]at e;cases e
    | some l =>
      rw[hl]at e;dsimp only at e;split at e
      · rename_i hk
        have hag:execOp a.rho o=execOp f.eval o:=ZbA hl λx hx=>by
          have := Yl.1 hk x hx;obtain⟨v, hv⟩ := Option.isSome_iff_exists.1 this;rw[h.val hv, FA.rho, hv]; rfl
        obtain⟨m, hm, hm2⟩ := Y3.1 e;simp only[Y9]at hm2;obtain⟨rfl, _⟩ := hm2;rw[hag]at hm;exact Z1X hm w
      · cases e
  unfold FA.op at e;dsimp only at e;cases ho : o.op with
  | convert s d x =>
    rw[ho]at e gen;dsimp only at e;split at e
    · rename_i p hx
      split at e
      · rename_i hcv
        simp only[Y4, Y9]at e;obtain⟨rfl, rfl⟩ := e;obtain⟨v, hv⟩ := hp p sU;unfold cvOk at hcv;split at hcv
        · rename_i t hs hd
          have hz:(P.info? t).map (λi=>decide (i.size=0))=some false:=by simpa using hcv
          have e1 := run_convert_to_unsafe (P := P) (w := w) hs hd hz hv;have e2 := λes => Conc.events_convert_to_unsafe (P := P) (w := w) hs hd hz hv es
          have he : execOp f.eval o = (do pure (Next.value (<- convert s d (.pointer (some p))))) := by
            unfold execOp;rw[ho];dsimp only;rw[h.val hx]
          rw[he];refine⟨?_, λes => ?_⟩
          · simp[e1]
          · simp[e1,e2]
        · cases hcv
      · cases e
    · exact gen e
  | _=>rw[ho]at e gen;exact gen e
def FA.ext(P:Program)(a:FA)(o:Oper):Option (FuncId×List Value):=
 match o.op with
 | .call c=>match c.callee with
  | .value (.func g)=>match P.funcs[g]? with
   | some fn=>if fn.body.isNone then(c.args.toList.mapM a.val).map λvs=>(g,vs) else none
   | none=>none
  | _=>none
 | _=>none
structure Xt where
 dis:FuncId
 en:FuncId
 acq:FuncId
 mrg:FuncId
 says:Bool
 pures:List (FuncId×Value)
inductive XEv where
 | none | dis | en | acq (p:Addr) | mrg (p:Addr)
def XEv.es:XEv->Array Event
 | .none=>#[]
 | .dis=>#[⟨.mark .disable,false,true⟩]
 | .en=>#[⟨.mark .enable,false,true⟩]
 | .acq p=>#[⟨.mark (.acquire p),false,true⟩]
 | .mrg p=>#[⟨.mark (.releaseMerge p),false,true⟩]
def Xt.act(X:Xt)(g:FuncId)(vs:List Value):Option (Value×XEv):=
 if g==X.dis then some (.tuple #[],.dis)
 else if g==X.en then some (.tuple #[],.en)
 else if X.says&&g==X.acq then match vs with
  | [.pointer (some p)]=>some (.tuple #[],.acq p)
  | _=>none
 else if X.says&&g==X.mrg then match vs with
  | [.pointer (some p)]=>some (.tuple #[],.mrg p)
  | _=>none
 else(X.pures.lookup g).map λv=>(v,.none)
structure St where
 top:FA
 rest:List FA
 cvs:List Addr
 mks:List Addr
 deaf:Nat
def FA.put(a:FA)(ops:Array Oper)(i:Nat)(rest:List Nat)(k:List Item)(v:Value):Option FA:=
 match (ops[i]?).bind (·.dst) with
 | some d=>if d<a.n then some {a with env:=(d,v)::a.env,todo:=.inRegion ops rest::k} else none
 | none=>some {a with todo:=.inRegion ops rest::k}
def FA.gd(a:FA)(ops:Array Oper)(o:Oper):Option Bool:=
 match o.guard with
 | none=>some true
 | some (j,want)=>match ((ops[j]?).bind (·.dst)) with
  | none=>some false
  | some d=>match a.env.lookup d with
   | some (.bool b)=>some (b==want)
   | some _=>some false
   | none=>none
structure Mv where
 top:FA
 rest:List FA
 ps:List Addr
 ev:XEv
def XEv.places:XEv->List Addr
 | .acq p | .mrg p=>[p]
 | _=>[]
def St.upd(s:St)(m:Mv):St:={top:=m.top,rest:=m.rest,cvs:=m.ps++s.cvs,mks:=m.ev.places++s.mks,deaf:=match m.ev with | .dis=>s.deaf+1 | .en=>s.deaf-1 | _=>s.deaf}
def Z8o(g:FuncId)(fn:Func)(c:Code)(xs:Array Value)(k:CallKind):FA:=
 {fn:=g,n:=xs.size+(fn.ntmps-xs.size),env:=(List.range xs.size).zip xs.toList,todo:=[.code c],defs:=[],kind:=k,ret:=false}
def FA.to(a:FA)(cs:List FA)(k:List Item):Option Mv:=some ⟨{a with todo:=k},cs,[],.none⟩
def pmove(P:Program)(X:Xt)(a:FA)(r:List FA):Option Mv:=
 match a.ret with
 | true=>match a.defs with
  | d::ds=>match d.target with
   | .fn (.func g) ys=>match P.funcs[g]? with
    | some fn=>match fn.body with
     | some c=>if fn.name == "runtime.NumGoroutine" then none else some ⟨Z8o g fn c (d.args++ys) .deferred,{a with defs:=ds}::r,[],.none⟩
     | none=>if g==X.en then some ⟨{a with defs:=ds},r,[],.en⟩ else none
    | none=>none
   | _=>none
  | []=>match a.kind,r,P.funcs[a.fn]? with
   | .normal,c::cs,some fn=>match c.todo with
    | .inRegion ops (i::rest)::k=>match c.ret,fn.results.toList with
     | false,[]=>(c.put ops i rest k (.tuple #[])).map λc=>⟨c,cs,[],.none⟩
     | false,[.tmp t]=>(a.env.lookup t).bind λv=>(c.put ops i rest k v).map λc=>⟨c,cs,[],.none⟩
     | _,_=>none
    | _=>none
   | .deferred,c::cs,some fn=>match c.ret,fn.results.toList with
    | true,[]=>some ⟨c,cs,[],.none⟩
    | _,_=>none
   | _,_,_=>none
 | false=>match a.todo with
  | []=>some ⟨{a with ret:=true},r,[],.none⟩
  | .code .skip::k=>a.to r k
  | .code (.label _)::k=>a.to r k
  | .code (.seq x y)::k=>a.to r (.code x :: .code y::k)
  | .code (.block i c)::k=>a.to r (.code c :: .inBlock i::k)
  | .code (.loop c)::k=>a.to r (.code c :: .inLoop c::k)
  | .code (.scope c)::k=>a.to r (.code c :: .inScope c::k)
  | .code (.cond x y z)::k=>match a.val x with
   | some (.bool b)=>a.to r (.code (if b then y else z)::k)
   | _=>none
  | .code (.exit i)::k=>(exitTo i k).bind λk=>a.to r k
  | .code .ret::_=>some ⟨{a with ret:=true},r,[],.none⟩
  | .code (.region _ ops false)::k=>a.to r (.inRegion ops (List.range ops.size)::k)
  | .inBlock _::k=>a.to r k
  | .inScope _::k=>a.to r k
  | .inLoop c::k=>a.to r (.code c :: .inLoop c::k)
  | .inRegion _ []::k=>a.to r k
  | .inRegion ops (i::rest)::k=>match ops[i]? with
   | none=>none
   | some o=>match a.gd ops o with
    | some false=>(a.put ops i rest k undef).map λa=>⟨a,r,[],.none⟩
    | some true=>match a.ext P o with
     | some (g,vs)=>if a.kind == .early then none else match X.act g vs with
      | some (v,ev)=>(a.put ops i rest k v).map λa=>⟨a,r,[],ev⟩
      | none=>none
     | none=>match a.op P o with
      | some (.value v,ps)=>(a.put ops i rest k v).map λa=>⟨a,r,ps,.none⟩
      | some (.defer d,ps)=>(a.put ops i rest k undef).map λa=>⟨{a with defs:=d::a.defs},r,ps,.none⟩
      | some (.enter f xs,ps)=>match P.funcs[f]? with
       | some fn=>match fn.body with
        | some c=>some ⟨Z8o f fn c xs .normal,a::r,ps,.none⟩
        | none=>none
       | none=>none
      | _=>none
    | none=>none
  | _=>none
def pn(P:Program)(X:Xt):Nat->St->St
 | 0,s=>s
 | n+1,s=>match pmove P X s.top s.rest with
  | some m=>pn P X n (s.upd m)
  | none=>s
theorem pn_mono(P:Program)(X:Xt):∀(n:Nat) (s:St),(∀p∈s.cvs,p∈(pn P X n s).cvs)/\∀p∈s.mks,p∈(pn P X n s).mks
 | 0,s=>⟨λ_ h=>h,λ_ h=>h⟩
 | n+1,s=>by
  unfold pn;split
  ·obtain⟨h1,h2⟩:=pn_mono P X n (s.upd ‹_›);exact⟨λp hp=>h1 p (List.mem_append_right _ hp),λp hp=>h2 p (List.mem_append_right _ hp)⟩
  ·exact⟨λ_ h=>h,λ_ h=>h⟩
end Ev
namespace Ev
open Go Lift
section
variable{P:Program}{m:Bool}{w:World}{f:Frame}{K:List Frame}
theorem Z20(h:f.mode = .run):stepG P m (run1 f K) w=stepG.exec P m true f K none w:=by
 unfold stepG run1;simp only[h]
theorem Z1E(h:f.mode = .returning):stepG P m (run1 f K) w=unwind P m f K none w:=by
 unfold stepG run1;simp only[h]
theorem Z0M(fn:FuncId):seen P fn #[]=#[]:=rfl
theorem Z0U(g:Goroutine)(w:World)(es:Array Event):GStep.after #[] (.go g w es) = .go g w es:=by simp[GStep.after]
theorem FOk.to{a:FA}(h:FOk a f)(k:List Item):FOk {a with todo:=k} {f with todo:=k}:=⟨h.fn,h.size,h.env,rfl,h.defs,h.kind,h.mode,h.round⟩
theorem FOk.put{a b:FA}(h:FOk a f){ops:Array Oper}{i:Nat}{rest:List Nat}{k:List Item}(ht:a.todo = .inRegion ops (i::rest)::k){v:Value}(e:a.put ops i rest k v=some b):FOk b (f.finish v):=by
 have hft:=h.todo.trans ht;unfold FA.put at e;unfold Frame.finish;rw[hft];dsimp only;cases hd:(ops[i]?).bind (·.dst) with
 | none =>
  rw[hd]at e;obtain rfl:=Y1 e;exact⟨h.fn,h.size,h.env,rfl,h.defs,h.kind,h.mode,h.round⟩
 | some d =>
  rw[hd]at e;dsimp only at e;split at e
  ·rename_i hlt;obtain rfl:=Y1 e;refine⟨h.fn,by simpa using h.size,?_,rfl,h.defs,h.kind,h.mode,h.round⟩;intro t u e;dsimp only at e⊢;rw[Yp]at e;by_cases htd:t=d
   ·subst htd;simp only[beq_self_eq_true]at e;rw[Array.getElem?_setIfInBounds_self_of_lt (by rw[h.size];exact hlt)];exact e
   ·have:(t==d)=false:=by simp[htd]
    rw[this]at e;rw[Yq (Ne.symm htd)];exact h.env t u e
  ·cases e
theorem ZbC{a:FA}(h:FOk a f){b:Bool}(e:a.gd ops o=some b): Region.wanted o (yielded ops f.tmps)=b:=by
 unfold FA.gd at e;unfold Region.wanted;cases hg:o.guard with
 | none=>rw[hg]at e;exact Y1 e
 | some p =>
  obtain⟨j,want⟩:=p;rw[hg]at e;dsimp only at e⊢;unfold yielded;cases hd:(ops[j]?).bind (·.dst) with
  | none=>rw[hd]at e;obtain rfl:=Y1 e;rfl
  | some d =>
   rw[hd]at e;dsimp only at e;simp only[Option.bind_some];cases hl:a.env.lookup d with
   | none=>rw[hl]at e;cases e
   | some v =>
    rw[hl]at e;rw[h.env d v hl];cases v<;>first | (obtain rfl:=Y1 e;rfl) | (obtain rfl:=Y1 e;simp)
end
structure Ext0(P:Program)(g:FuncId)(e:Array Value->Sem Value):Prop where
 ex:∃fn,P.funcs[g]?=some fn/\(fn.name == "runtime.NumGoroutine")=false/\fn.body.isNone=true/\Extern.findNext fn=none/\Extern.find fn=some e
structure XOk(P:Program)(X:Xt):Prop where
 dis:Ext0 P X.dis (λ_=>do mark .disable;pure Extern.Race.none_)
 en:Ext0 P X.en (λ_=>do mark .enable;pure Extern.Race.none_)
 acq:Ext0 P X.acq (Extern.Race.marked .acquire)
 mrg:Ext0 P X.mrg (Extern.Race.marked .releaseMerge)
 pures:∀g v,X.pures.lookup g=some v->Ext0 P g (λ_=>pure v)
section
variable{P:Program}{m:Bool}{w:World}{f:Frame}{fs cs:List Frame}{X:Xt}{ev:XEv}
theorem Z6I(hm:f.mode = .run)(hr:f.roundOf=none):f=f.at ⟨f.tmps,f.defers⟩ f.todo:=by
 obtain⟨a1,a2,a3,a4,a5,a6,a7⟩:=f;dsimp only at hm hr;subst hm hr;rfl
theorem Z39{rest:List Nat}{k:List Item}(hm:f.mode = .run)(hr:f.roundOf=none)(ht:f.todo = .inRegion ops (i::rest)::k)(v:Value):
  f.finish v=f.at ((Act.mk f.tmps f.defers).put ((ops[i]?).bind (·.dst)) v) (.inRegion ops rest::k):=by
 conv=>lhs;rw[Z6I hm hr,ht]
 exact Frame.finish_at _ _ _ _ _ _ _
theorem Z81{a:FA}(h:FOk a f):∀{l:List Operand} {vs:List Value},l.mapM a.val=some vs->l.map f.eval=vs
 | [],vs,e=>by simp at e;simp[e]
 | x::l,vs,e=>by
  simp only[List.mapM_cons,Option.pure_def,Option.bind_eq_bind]at e;obtain⟨v,hv,e⟩:=Option.bind_eq_some_iff.1 e;obtain⟨us,hu,e⟩:=Option.bind_eq_some_iff.1 e;obtain rfl:=Y1 e;rw[List.map_cons,h.val hv,Z81 h hu]
theorem ZaE{a:FA}(h:FOk a f)(hr:a.ret=false){rest:List Nat}{k:List Item}(ht:a.todo = .inRegion ops (i::rest)::k)(ho:ops[i]?=some o)(hg:a.gd ops o=some true)(hk:f.kind ≠ .early){vs:List Value}(he:a.ext P o=some (g,vs)){e:Array Value->Sem Value}(hE:Ext0 P g e){v:Value}{w':World}{evs:Array Event}(hrun:(e vs.toArray).run P w = .ok v w')(hev:(e vs.toArray).events P w #[⟨.mark (.extern g),false,true⟩]=#[⟨.mark (.extern g),false,true⟩]++evs)(hs:∀x∈evs,x.sync=true/\∀g,x.loc ≠ .mark (.extern g)):
  stepG P m (run1 f cs) w = .go (run1 (f.finish v) cs) w' evs:=by
 have hrun':f.mode = .run:=by rw[h.mode,hr];rfl
 unfold FA.ext at he;split at he
 ·rename_i c hop;split at he
  ·rename_i g' hc;split at he
   ·rename_i fn hfn;split at he
    ·obtain⟨us,hu,he⟩:=Y3.1 he;simp only[Y9]at he;obtain⟨rfl,rfl⟩:=he;obtain⟨fn,h1,h2,h3,h4,h5⟩:=hE.ex;obtain⟨callee,args,argTypes⟩:=c;dsimp only at hc hu;subst hc;have hargs:args.map (Act.mk f.tmps f.defers).eval=us.toArray:=by
      have hev0:(Act.mk f.tmps f.defers).eval=f.eval:=by funext x;cases x<;>rfl
      apply Array.ext';rw[Array.toList_map,hev0];exact Z81 h hu
     have hft:=h.todo.trans ht;have hd:(ops[i]?).bind (·.dst)=o.dst:=by rw[ho];rfl
     rw[Z39 hrun' h.round hft,hd]
     conv=>lhs;rw[Z6I hrun' h.round,hft]
     exact Conc.stepG_entry ho (ZbC h hg) hk hop h1 h2 h3 h4 h5 (by rw[hargs];exact hrun) (by rw[hargs];exact hev) hs
    ·cases he
   ·cases he
  ·cases he
 ·cases he
def SOk(a:FA)(r:List FA)(f:Frame)(fs:List Frame):Prop:=FOk a f/\Lis FOk r fs
def Sil(P:Program)(f:Frame)(fs cs:List Frame)(m:Mv):Prop:=
 ∃f' fs',SOk m.top m.rest f' fs'/\∀b w,(∀p∈m.ps,∃v,w.cell? p=some v)->stepG P b (run1 f (fs++cs)) w = .go (run1 f' (fs'++cs)) w m.ev.es
theorem Z1I{a:FA}{r:List FA}{mv:Mv}(h:SOk a r f fs)(hm:f.mode = .run){k:List Item}(q:a.to r k=some mv)(e:∀m w,stepG.exec P m true f (fs++cs) none w = .go (run1 {f with todo:=k} (fs++cs)) w): Sil P f fs cs mv:=by
 obtain rfl:=Y1 q;exact⟨_,fs,⟨h.1.to k,h.2⟩,λm w _=>by rw[Z20 hm,e];rfl⟩
theorem Z6a(h:f.roundOf=none){j:Option Code}(hj:j=none\/j=some .ret): Z05 P m f (fs++cs) w j = .go (run1 {f with mode:=.returning} (fs++cs)) w:=by
 unfold Z05;rw[h];rcases hj with rfl | rfl<;>rfl
theorem Z2l{fn:Func}{tmps:Array Value}{v:Value}(h:(fn.results.toList=[]/\v = .tuple #[])\/∃t,fn.results.toList=[.tmp t]/\v=tmps.getD t undef)(w:World): (results fn tmps).run P w = .ok v w/\∀es,(results fn tmps).events P w es=es:=by
 unfold results;rw[Array.mapM_eq_mapM_toList];rcases h with⟨h,rfl⟩ | ⟨t,h,rfl⟩
 ·rw[h];simp
 ·rw[h];simp
theorem Zkl{P:Program}{X:Xt}(hX:XOk P X){vs:List Value}{v:Value}(e:X.act g vs=some (v,ev)): ∃e,Ext0 P g e/\∀w,(e vs.toArray).run P w = .ok v w/\(e vs.toArray).events P w #[⟨.mark (.extern g),false,true⟩]=#[⟨.mark (.extern g),false,true⟩]++ev.es /\
  ∀x∈ev.es,x.sync=true/\∀g,x.loc ≠ .mark (.extern g):=by
 unfold Xt.act at e;split at e
 ·rename_i hg;have hg:g=X.dis:=by simpa using hg
  subst hg;simp only[Y4,Y9]at e;obtain⟨rfl,rfl⟩:=e;refine⟨_,hX.dis,λw=>⟨by simp[Extern.Race.none_],by simp[XEv.es],λx hx=>?_⟩⟩;simp only[XEv.es,Yb,List.mem_singleton]at hx;subst hx;exact⟨rfl,λg h=>by cases h⟩
 ·split at e
  ·rename_i hg;have hg:g=X.en:=by simpa using hg
   subst hg;simp only[Y4,Y9]at e;obtain⟨rfl,rfl⟩:=e;refine⟨_,hX.en,λw=>⟨by simp[Extern.Race.none_],by simp[XEv.es],λx hx=>?_⟩⟩;simp only[XEv.es,Yb,List.mem_singleton]at hx;subst hx;exact⟨rfl,λg h=>by cases h⟩
  ·split at e
   ·rename_i hg;have hg:g=X.acq:=by simp only[Y5,beq_iff_eq]at hg;exact hg.2
    subst hg;split at e
    ·simp only[Y4,Y9]at e;obtain⟨rfl,rfl⟩:=e;refine⟨_,hX.acq,λw=>⟨by simp[Extern.Race.marked,Extern.Race.at_,Extern.Race.none_],by simp[Extern.Race.marked,Extern.Race.at_,XEv.es],λx hx=>?_⟩⟩;simp only[XEv.es,Yb,List.mem_singleton]at hx;subst hx;exact⟨rfl,λg h=>by cases h⟩
    ·cases e
   ·split at e
    ·rename_i hg;have hg:g=X.mrg:=by simp only[Y5,beq_iff_eq]at hg;exact hg.2
     subst hg;split at e
     ·simp only[Y4,Y9]at e;obtain⟨rfl,rfl⟩:=e;refine⟨_,hX.mrg,λw=>⟨by simp[Extern.Race.marked,Extern.Race.at_,Extern.Race.none_],by simp[Extern.Race.marked,Extern.Race.at_,XEv.es],λx hx=>?_⟩⟩;simp only[XEv.es,Yb,List.mem_singleton]at hx;subst hx;exact⟨rfl,λg h=>by cases h⟩
     ·cases e
    ·obtain⟨u,hu,e⟩:=Y3.1 e;simp only[Y9]at e;obtain⟨rfl,rfl⟩:=e;exact⟨_,hX.pures g u hu,λw=>⟨sU,by simp[XEv.es],λx hx=>by simp[XEv.es]at hx⟩⟩
theorem Z71{fn:Func}{c:Code}(hfn:P.funcs[g]?=some fn)(hc:fn.body=some c)(xs:Array Value)(k:CallKind): FOk (Z8o g fn c xs k) (Frame.enter P g xs k):=by
 unfold Frame.enter Z8o;rw[hfn];refine⟨rfl,sU,?_,by simp[hc],rfl,rfl,rfl,rfl⟩;intro t v hl;dsimp only at hl⊢;have key:∀(l:List Value) (n t:Nat) (v:Value),((List.range' n l.length).zip l).lookup t=some v->n<=t/\l[t-n]?=some v:=by
  intro l
  induction l with
  | nil=>intro n t v h;simp at h
  | cons x l ih =>
   intro n t v h;simp only[List.length_cons,List.range'_succ,List.zip_cons_cons,Yp]at h;by_cases e:t=n
   ·subst e;simp only[beq_self_eq_true,Y4]at h;subst h;simp
   ·have:(t==n)=false:=by simp[e]
    rw[this]at h;obtain⟨h1,h2⟩:=ih (n+1) t v h;refine⟨oM,?_⟩;rw[show t-n=(t-(n+1))+1 by omega,List.getElem?_cons_succ];exact h2
 rw[List.range_eq_range',show xs.size=xs.toList.length by simp]at hl;obtain⟨_,h2⟩:=key xs.toList 0 t v hl;rw[Nat.sub_zero,Array.getElem?_toList]at h2;rw[Array.getElem?_append_left (Y0.1 h2).1];exact h2
theorem pmove_ok(hX:XOk P X){a:FA}{rest:List FA}{mv:Mv}(h:SOk a rest f fs)(e:pmove P X a rest=some mv):Sil P f fs cs mv:=by
 letI:Jk:={j:=False,rest:=[]};obtain⟨hf,hs⟩:=h;have h:SOk a rest f fs:=⟨hf,hs⟩;unfold pmove at e;have hmode:=hf.mode;cases hr:a.ret with
 | true =>
  rw[hr]at e hmode;have hret:f.mode = .returning:=by rw[hmode];rfl
  dsimp only at e;split at e
  ·rename_i d ds hdef;split at e
   ·rename_i g ys htg;split at e
    ·rename_i fn hfn;have hfd:f.defers=d::ds:=hf.defs.trans hdef;obtain⟨t,az⟩:=d;dsimp only at htg;subst htg;have hfa:FOk {fn:=a.fn,n:=a.n,env:=a.env,todo:=a.todo,defs:=ds,kind:=a.kind,ret:=true} {f with defers:=ds}:=⟨hf.fn,hf.size,hf.env,hf.todo,rfl,hf.kind,hmode,hf.round⟩;split at e
     ·rename_i c hc;split at e
      ·cases e
      ·rename_i hname;cases e;refine⟨_,_::fs,⟨Z71 hfn hc (az++ys) .deferred,.cons hfa hs⟩,λm w _=>?_⟩;rw[Z1E hret];unfold unwind;rw[hfd];dsimp only;have hrun:(invoke (.fn (.func g) ys) az).run P w = .ok (.enter g (az++ys)) w/\(invoke (.fn (.func g) ys) az).events P w #[]=#[]:=by
        unfold invoke callFunc;dsimp only;have hname':¬fn.name = "runtime.NumGoroutine":=by simpa using hname
        simp[hfn,hname',hc]
       rw[Z3p hrun.1];unfold lsd;rw[hrun.2,Z0M,Z0U];rfl
     ·split at e
      ·rename_i hb hg;have hg:g=X.en:=by simpa using hg
       subst hg;cases e;refine⟨_,fs,⟨hfa,hs⟩,λm w _=>?_⟩;obtain⟨fn',h1,h2,h3,h4,h5⟩:=hX.en.ex;rw[Z1E hret];unfold unwind;rw[hfd];dsimp only;have hi:invoke (.fn (.func X.en) ys) az=callFunc X.en (az++ys):=rfl;have hrun:(invoke (.fn (.func X.en) ys) az).run P w = .ok (.value (.tuple #[])) w:=by
        rw[hi,run_callFunc_extern h1 h2 h3 h4 h5];simp[Extern.Race.none_]
       have hev:(invoke (.fn (.func X.en) ys) az).events P w #[]=#[⟨.mark (.extern X.en),false,true⟩]++#[⟨.mark .enable,false,true⟩]:=by
        rw[hi,Conc.events_callFunc_extern h1 h2 h3 h4 h5];simp
       rw[Z4z hrun];unfold lsd;rw[hev,Conc.seen_entry _ _ _ (λx hx=>by simp at hx;subst hx;exact⟨rfl,λg h=>by cases h⟩)];rfl
      ·cases e
    ·cases e
   ·cases e
  ·rename_i hdef;split at e
   ·rename_i c cs' fn hkind hfn;split at e
    ·rename_i ops i rest' k htodo;cases hs with
     | @cons _ f0 _ fs0 hc hcs =>
     have fin:∀{v:Value} {b:FA},c.put ops i rest' k v=some b->((fn.results.toList=[]/\v = .tuple #[])\/∃t,fn.results.toList=[.tmp t]/\v=f.tmps.getD t undef)->Sil P f (f0::fs0) cs ⟨b,cs',[],.none⟩:=by
      intro v b hb hv;refine⟨f0.finish v,fs0,⟨hc.put htodo hb,hcs⟩,λm w _=>?_⟩;rw[Z1E hret];unfold unwind;rw[hf.defs,hdef];dsimp only;rw[hret];dsimp only;rw[hf.fn,hfn];dsimp only;obtain⟨r1,r2⟩:=Z2l (P:=P) hv w;simp only[Yf,r1,r2];unfold doReturn;rw[hf.kind,hkind];rfl
     split at e
     ·rename_i hcr hres;obtain⟨b,hb,e⟩:=Y3.1 e;cases e;exact fin hb (.inl ⟨hres,rfl⟩)
     ·rename_i t hcr hres;obtain⟨v,hv,e⟩:=Option.bind_eq_some_iff.1 e;obtain⟨b,hb,e⟩:=Y3.1 e;cases e;refine fin hb (.inr ⟨t,hres,?_⟩);rw[Y6,hf.env t v hv];rfl
     ·cases e
    ·cases e
   ·rename_i c cs' fn hkind hfn;split at e
    ·rename_i hcr hres;cases e;cases hs with
     | @cons _ f0 _ fs0 hc hcs =>
     refine⟨f0,fs0,⟨hc,hcs⟩,λm w _=>?_⟩;have hcm:f0.mode = .returning:=by rw[hc.mode,hcr];rfl
     rw[Z1E hret];unfold unwind;rw[hf.defs,hdef];dsimp only;rw[hret];dsimp only;rw[hf.fn,hfn];dsimp only;obtain⟨r1,r2⟩:=Z2l (P:=P) (fn:=fn) (tmps:=f.tmps) (.inl ⟨hres,rfl⟩) w;simp only[Yf,r1,r2];unfold doReturn;rw[hf.kind,hkind];dsimp only[List.cons_append];rw[hcm];rfl
    ·cases e
   ·cases e
 | false =>
  rw[hr]at e hmode;have hrun:f.mode = .run:=by rw[hmode];rfl
  dsimp only at e;have ht:=hf.todo;have ret:(f.todo=[]\/∃k,f.todo = .code .ret::k)->Sil P f fs cs ⟨{a with ret:=true},rest,[],.none⟩:=by
   intro hx;refine⟨{f with mode:=.returning},fs,⟨⟨hf.fn,hf.size,hf.env,hf.todo,hf.defs,hf.kind,rfl,hf.round⟩,hs⟩,λm w _=>?_⟩;rw[Z20 hrun];rcases hx with hx | ⟨k,hx⟩
   ·rw[ZaA hx,Z6a hf.round (.inl rfl)];rfl
   ·rw[ZaB hx,Z6a hf.round (.inr rfl)];rfl
  have inj:∀{x y:Mv},some x=some y->y=x:=λh=>(Y1 h).symm;split at e<;>(try rename_i htodo;rw[htodo]at ht)
  ·cases inj e;exact ret (.inl ht)
  ·exact Z1I h hrun e λ_ _=>Z79 ht
  ·exact Z1I h hrun e λ_ _=>Z4H ht
  ·exact Z1I h hrun e λ_ _=>Z2T ht
  ·exact Z1I h hrun e λ_ _=>Z4G ht
  ·exact Z1I h hrun e λ_ _=>Z78 ht
  ·exact Z1I h hrun e λ_ _=>Z4I ht
  ·split at e
   ·rename_i b hb;refine Z1I h hrun e λ_ _=>?_;rw[Z58 ht,hf.val hb]
   ·cases e
  ·obtain⟨k',hk',e⟩:=Option.bind_eq_some_iff.1 e;refine Z1I h hrun e λ_ _=>?_;rw[Z59 ht,hk']
  ·cases inj e;exact ret (.inr ⟨_,ht⟩)
  ·exact Z1I h hrun e λ_ _=>Z3y ht
  ·exact Z1I h hrun e λ_ _=>Z2G ht
  ·exact Z1I h hrun e λ_ _=>Z2H ht
  ·exact Z1I h hrun e λ_ _=>Z3w ht
  ·exact Z1I h hrun e λ_ _=>Z75 ht
  ·rename_i ops i l k;split at e
   ·cases e
   ·rename_i o ho;split at e
    ·rename_i hg;obtain⟨b,hb,e⟩:=Y3.1 e;cases e;have hw:=ZbC hf hg;refine⟨f.finish undef,fs,⟨hf.put htodo hb,hs⟩,λm w _=>?_⟩;rw[Z20 hrun,Z1R ht,ho];simp only[Option.map_some,Option.getD_some,hw];rfl
    ·rename_i hg;have hw:=ZbC hf hg;split at e
     ·rename_i g vs hext;split at e
      ·cases e
      ·rename_i hke;have hk:f.kind ≠ .early:=λx=>hke (by rw[<-hf.kind,x];rfl);split at e
       ·rename_i v ev' hact;obtain⟨b,hb,e⟩:=Y3.1 e;cases e;obtain⟨ex,hE,hall⟩:=Zkl hX hact;refine⟨f.finish v,fs,⟨hf.put htodo hb,hs⟩,λm w _=>?_⟩;obtain⟨r1,r2,r3⟩:=hall w;exact ZaE hf hr htodo ho hg hk hext hE r1 r2 r3
       ·cases e
     ·have hop:∀m w,stepG.exec P m true f (fs++cs) none w=stepG.apply P true f (fs++cs) none (execOp f.eval o) w:=λm w=>by
       rw[Z1R ht,ho];simp only[Option.map_some,Option.getD_some,hw,if_true];exact Z4a ht ho (.inl hf.round)
      split at e
      ·rename_i v ps hv;obtain⟨b,hb,e⟩:=Y3.1 e;cases e;refine⟨f.finish v,fs,⟨hf.put htodo hb,hs⟩,λm w hp=>?_⟩;obtain⟨r1,r2⟩:=Zgf hf hv w hp;rw[Z20 hrun,hop,Z0c r1];simp only[lst,r2,ite_self,Z0M,Z0U];rfl
      ·rename_i d ps hv;obtain⟨b,hb,e⟩:=Y3.1 e;cases e;have hfd:FOk {a with defs:=d::a.defs} {f with defers:=d::f.defers}:=⟨hf.fn,hf.size,hf.env,hf.todo,by rw[hf.defs],hf.kind,hf.mode,hf.round⟩;have hb2:FA.put {a with defs:=d::a.defs} ops i l k undef=some {b with defs:=d::b.defs}:=by
        revert hb;unfold FA.put;dsimp only;split
        ·split
         ·intro hb;obtain rfl:=Y1 hb;rfl
         ·intro hb;cases hb
        ·intro hb;obtain rfl:=Y1 hb;rfl
       refine⟨_,fs,⟨hfd.put htodo hb2,hs⟩,λm w hp=>?_⟩;obtain⟨r1,r2⟩:=Zgf hf hv w hp;rw[Z20 hrun,hop,Z1O r1];simp only[lst,r2,ite_self,Z0M,Z0U];rfl
      ·rename_i g xs ps hv;split at e
       ·rename_i fn hfn;split at e
        ·rename_i c hc;cases inj e;have hk2:Z2i f = .normal:=by unfold Z2i;rw[ht]
         refine⟨Frame.enter P g xs .normal,f::fs,⟨Z71 hfn hc xs .normal,.cons hf hs⟩,λm w hp=>?_⟩;obtain⟨r1,r2⟩:=Zgf hf hv w hp;rw[Z20 hrun,hop,Z0q r1,hk2];simp only[lst,r2,ite_self,Z0M,Z0U];rfl
        ·cases e
       ·cases e
      ·cases e
    ·cases e
  ·cases e
end
end Ev
namespace Ev
open Go Lift
def xt:Xt:={dis:=129,en:=130,acq:=143,mrg:=128,says:=true,pures:=[(161,.tuple #[]),(131,.bool false)]}
def xtQ:Xt:={xt with says:=false}
theorem ZiC:Ext0 Tryz.prog 129 (λ_=>do mark .disable;pure Extern.Race.none_):=⟨_,Tryz.func129,kR,kR,kR,kR⟩
theorem ZkK:Ext0 Tryz.prog 130 (λ_=>do mark .enable;pure Extern.Race.none_):=⟨_,Tryz.func130,kR,kR,kR,kR⟩
theorem Z9w:Ext0 Tryz.prog 143 (Extern.Race.marked .acquire):=⟨_,Tryz.func143,kR,kR,kR,kR⟩
theorem Zdl:Ext0 Tryz.prog 128 (Extern.Race.marked .releaseMerge):=⟨_,Tryz.func128,kR,kR,kR,kR⟩
theorem ZkL:Ext0 Tryz.prog 136 (Extern.Race.marked .read):=⟨_,Tryz.func136,kR,kR,kR,kR⟩
theorem ZkM:Ext0 Tryz.prog 146 (Extern.Race.marked .write):=⟨_,Tryz.func146,kR,kR,kR,kR⟩
theorem ZfH:Ext0 Tryz.prog 161 (λ_=>pure (.tuple #[])):=⟨_,Tryz.func161,kR,kR,kR,kR⟩
theorem ZiB:Ext0 Tryz.prog 131 (λ_=>pure (.bool false)):=⟨_,Tryz.func131,kR,kR,kR,kR⟩
theorem Zdk:Ext0 Tryz.prog 160 Extern.Sync.canSpin:=⟨_,Tryz.func160,kR,kR,kR,kR⟩
theorem ZiD:Ext0 Tryz.prog 163 Extern.OsHooks.nano:=⟨_,Tryz.func163,kR,kR,kR,kR⟩
theorem Zdm:Ext0 Tryz.prog 164 Extern.Sync.semacquire:=⟨_,Tryz.func164,kR,kR,kR,kR⟩
theorem ZhB:Ext0 Tryz.prog 166 Extern.Sync.semrelease:=⟨_,Tryz.func166,kR,kR,kR,kR⟩
theorem ZhC:Ext0 Tryz.prog 147 Extern.Sync.semacquire:=⟨_,Tryz.func147,kR,kR,kR,kR⟩
theorem Zdn:Ext0 Tryz.prog 140 Extern.Sync.semrelease:=⟨_,Tryz.func140,kR,kR,kR,kR⟩
theorem Zdi:Ext0 Tryz.prog 154 (Extern.Atomic.casT (.int .i32)):=⟨_,Tryz.func154,kR,kR,kR,kR⟩
theorem ZiA:Ext0 Tryz.prog 156 (Extern.Atomic.update (Op.intArith .add) .i32 true):=⟨_,Tryz.func156,kR,kR,kR,kR⟩
theorem Zdj:Ext0 Tryz.prog 158 (Extern.Atomic.casT (.int .u64)):=⟨_,Tryz.func158,kR,kR,kR,kR⟩
theorem Zdh:Ext0 Tryz.prog 151 (Extern.Atomic.update (Op.intArith .add) .u64 true):=⟨_,Tryz.func151,kR,kR,kR,kR⟩
theorem Z49:Ext0 Tryz.prog 152 (Extern.Atomic.loadT (.int .u64)):=⟨_,Tryz.func152,kR,kR,kR,kR⟩
theorem ZiE:Ext0 Tryz.prog 153 Extern.Atomic.storeT:=⟨_,Tryz.func153,kR,kR,kR,kR⟩
theorem xok:XOk Tryz.prog xt where
 dis:=ZiC
 en:=ZkK
 acq:=Z9w
 mrg:=Zdl
 pures:=by
  intro g v h;simp only[xt,Yp,List.lookup_nil]at h;split at h
  ·rename_i e;obtain rfl:=eq_of_beq e;cases h;exact ZfH
  ·split at h
   ·rename_i e;obtain rfl:=eq_of_beq e;cases h;exact ZiB
   ·cases h
theorem xokQ:XOk Tryz.prog xtQ:=⟨xok.dis,xok.en,xok.acq,xok.mrg,xok.pures⟩
end Ev
namespace Ev
open Go Lift
def St.pend(s:St):Option Oper:=
 if s.top.ret||s.top.kind == .early then none else match s.top.todo with
 | .inRegion ops (i::_)::_=>match ops[i]? with
  | some o=>match s.top.gd ops o with
   | some true=>some o
   | _=>none
  | none=>none
 | _=>none
def St.ext(P:Program)(s:St):Option (FuncId×List Value):=s.pend.bind (s.top.ext P)
def St.lod(s:St):Option (TypeId×Addr):=s.pend.bind λo=>match o.op with
 | .load t x=>match s.top.val x with
  | some (.pointer (some p))=>some (t,p)
  | _=>none
 | _=>none
def St.sto(s:St):Option (TypeId×Addr×Value):=s.pend.bind λo=>match o.op with
 | .store t x y=>match s.top.val x,s.top.val y with
  | some (.pointer (some p)),some v=>some (t,p,v)
  | _,_=>none
 | _=>none
def St.cal(P:Program)(s:St):Option (FuncId×Array Value):=s.pend.bind λo=>match s.top.op P o with
 | some (.enter f xs,[])=>some (f,xs)
 | _=>none
def St.ans(s:St)(v:Value):Option St:=
 match s.top.todo with
 | .inRegion ops (i::rest)::k=>(s.top.put ops i rest k v).map λa=>{s with top:=a}
 | _=>none
section
variable{P:Program}{m:Bool}{w w':World}{f:Frame}{fs cs:List Frame}{s s':St}
theorem Z0s(h:s.pend=some o): ∃ops i rest k,s.top.todo = .inRegion ops (i::rest)::k/\ops[i]?=some o/\s.top.gd ops o=some true/\s.top.ret=false/\s.top.kind ≠ .early:=by
 unfold St.pend at h;split at h
 ·cases h
 ·rename_i hk;simp only[Yo,not_or,Bool.not_eq_true]at hk;split at h
  ·rename_i ops i rest k ht;split at h
   ·rename_i o' ho;split at h
    ·rename_i hg;obtain rfl:=Y1 h;exact⟨ops,i,rest,k,ht,ho,hg,hk.1,λe=>by rw[e]at hk;exact absurd hk.2 dC⟩
    ·cases h
   ·cases h
  ·cases h
theorem Z29{rest:List Nat}{k:List Item}(h:SOk s.top s.rest f fs)(ht:s.top.todo = .inRegion ops (i::rest)::k){v:Value}(ha:s.ans v=some s'): SOk s'.top s'.rest (f.finish v) fs/\s'.cvs=s.cvs/\s'.mks=s.mks/\s'.deaf=s.deaf:=by
 unfold St.ans at ha;rw[ht]at ha;obtain⟨a,hp,rfl⟩:=Y3.1 ha;exact⟨⟨h.1.put ht hp,h.2⟩,rfl,rfl,rfl⟩
theorem Z2U(h:SOk s.top s.rest f fs){vs:List Value}(he:s.ext P=some (g,vs)){e:Array Value->Sem Value}(hE:Ext0 P g e){v:Value}{evs:Array Event}(hrun:(e vs.toArray).run P w = .ok v w')(hev:(e vs.toArray).events P w #[⟨.mark (.extern g),false,true⟩]=#[⟨.mark (.extern g),false,true⟩]++evs)(hs:∀x∈evs,x.sync=true/\∀g,x.loc ≠ .mark (.extern g))(ha:s.ans v=some s'):
  stepG P m (run1 f (fs++cs)) w = .go (run1 (f.finish v) (fs++cs)) w' evs/\SOk s'.top s'.rest (f.finish v) fs:=by
 obtain⟨o,hp,hx⟩:=Option.bind_eq_some_iff.1 he;obtain⟨ops,i,rest,k,ht,ho,hg,hr,hk⟩:=Z0s hp;exact⟨ZaE h.1 hr ht ho hg (by rw[h.1.kind];exact hk) hx hE hrun hev hs,(Z29 h ht ha).1⟩
theorem Z1D(h:SOk s.top s.rest f fs)(hp:s.pend=some o)(hnd:∀c,o.op ≠ .defer c): stepG P m (run1 f (fs++cs)) w=stepG.apply P true f (fs++cs) none (execOp f.eval o) w:=by
 letI:Jk:={j:=False,rest:=[]};obtain⟨ops,i,rest,k,ht,ho,hg,hr,hk⟩:=Z0s hp;have hft:=h.1.todo.trans ht;rw[Z20 (by rw[h.1.mode,hr];rfl),Z1R hft,ho];simp only[Option.map_some,Option.getD_some,ZbC h.1 hg,if_true];exact Z4a hft ho (.inl h.1.round)
theorem Z8C{t:TypeId}(ha:(isAgg t).run P w = .ok false w){p:Addr}{v:Value}(hc:w.cell? p=some v): (Instr.loadAt t (.pointer (some p))).run P w = .ok v w/\(Instr.loadAt t (.pointer (some p))).events P w #[]=#[⟨.cell p,false,false⟩]:=by
 have hl:(load p .plain).run P w = .ok v w:=by simp only[load,Sem.run,hc]
 constructor
 ·simp[Instr.loadAt,Instr.sureAddr,loadVar,ha,hc]
 ·simp[Instr.loadAt,Instr.sureAddr,loadVar,ha,hl,hc]
theorem ZhD (h:SOk s.top s.rest f fs) {t:TypeId} {p:Addr} (he:s.lod=some (t,p)) (hag:(isAgg t).run P w = .ok false w) {v:Value} (hc:w.cell? p=some v) (ha:s.ans v=some s') :
    stepG P m (run1 f (fs++cs)) w = .go (run1 (f.finish v) (fs++cs)) w (seen P f.fn #[⟨.cell p,false,false⟩])/\SOk s'.top s'.rest (f.finish v) fs:=by
  letI : Jk := {j := False, rest := []};obtain⟨o, hp, hx⟩ := Option.bind_eq_some_iff.1 he;obtain⟨ops, i, rest, k, ht, ho, hg, hret, hk⟩ := Z0s hp;refine⟨?_, (Z29 h ht ha).1⟩;split at hx
  · rename_i t' x hop
    split at hx
    · rename_i q hq
      simp only[Y4, Y9]at hx;obtain⟨rfl, rfl⟩ := hx;rw[Z1D h hp (by rw[hop]; simp)];obtain⟨r1, r2⟩ := Z8C hag hc
      have hex : execOp f.eval o = (do pure (Next.value (<- Instr.loadAt t' (.pointer (some q))))) := by
        unfold execOp;rw[hop];dsimp only;rw[h.1.val hq]
      have e1:(execOp f.eval o).run P w = .ok (.value v) w:=by rw[hex];simp[r1]
      have e2:(execOp f.eval o).events P w #[]=#[⟨.cell q,false,false⟩]:=by rw[hex];simp[r1,r2]
      rw[Z0c e1];unfold lst;have hke : (f.kind==CallKind.early)=false := by
        cases hkk:f.kind<;>first | rfl | (rw[h.1.kind]at hkk;exact absurd hkk hk)
      rw[hke, e2];simp[GStep.after]
    · cases hx
  · cases hx
theorem Z7R{t:TypeId}(ha:(sizeOf t).run P w = .ok 1 w){p:Addr}{u v:Value}(h1:v.oneCell'=true)(h2:v.cells=#[v])(hc:w.cell? p=some u)(hz:w.frozen? p=false):
  (Instr.storeAt t (.pointer (some p)) v).run P w = .ok () (w.setCell p v)/\(Instr.storeAt t (.pointer (some p)) v).events P w #[]=#[⟨.cell p,true,false⟩]:=by
 have hl:(store p v .plain).run P w = .ok () (w.setCell p v):=by rw[run_store P w p v .plain h1];simp[hc,hz]
 have hp0:p.add 0=p:=by obtain⟨b,o,s⟩:=p;rfl
 have he:=events_store P w #[] p v .plain h1;rw[hc]at he;simp only[hz]at he;constructor
 ·simp[Instr.storeAt,Instr.sureAddr,storeVar,ha,h2,storeCells,hp0,hl]
 ·simp[Instr.storeAt,Instr.sureAddr,storeVar,ha,h2,storeCells,hp0,hl,he]
theorem ZhX(h:SOk s.top s.rest f fs){t:TypeId}{p:Addr}{v:Value}(he:s.sto=some (t,p,v))(hag:(sizeOf t).run P w = .ok 1 w)(h1:v.oneCell'=true)(h2:v.cells=#[v]){u:Value}(hc:w.cell? p=some u)(hz:w.frozen? p=false)(ha:s.ans undef=some s'):
  stepG P m (run1 f (fs++cs)) w = .go (run1 (f.finish undef) (fs++cs)) (w.setCell p v) (seen P f.fn #[⟨.cell p,true,false⟩])/\SOk s'.top s'.rest (f.finish undef) fs:=by
 letI:Jk:={j:=False,rest:=[]};obtain⟨o,hp,hx⟩:=Option.bind_eq_some_iff.1 he;obtain⟨ops,i,rest,k,ht,ho,hg,hret,hk⟩:=Z0s hp;refine⟨?_,(Z29 h ht ha).1⟩;split at hx
 ·rename_i t' x y hop;split at hx
  ·rename_i q z hq hy;simp only[Y4,Y9]at hx;obtain⟨rfl,rfl,rfl⟩:=hx;rw[Z1D h hp (by rw[hop];simp)];obtain⟨r1,r2⟩:=Z7R (P:=P) hag h1 h2 hc hz
   have hex:execOp f.eval o=(do Instr.storeAt t' (.pointer (some q)) z;pure Next.skip):=by
    unfold execOp;rw[hop];dsimp only;rw[h.1.val hq,h.1.val hy]
   have e1:(execOp f.eval o).run P w = .ok .skip (w.setCell q z):=by rw[hex];simp[r1]
   have e2:(execOp f.eval o).events P w #[]=#[⟨.cell q,true,false⟩]:=by rw[hex];simp[r1,r2]
   rw[Z2z e1];unfold lst;have hke:(f.kind==CallKind.early)=false:=by
    cases hkk:f.kind<;>first | rfl | (rw[h.1.kind]at hkk;exact absurd hkk hk)
   rw[hke,e2];simp[GStep.after]
  ·cases hx
 ·cases hx
theorem Zhs(h:SOk s.top s.rest f fs){xs:Array Value}(he:s.cal P=some (g,xs)): stepG P m (run1 f (fs++cs)) w = .go (run1 (Frame.enter P g xs .normal) (f::(fs++cs))) w #[]:=by
 letI:Jk:={j:=False,rest:=[]};obtain⟨o,hp,hx⟩:=Option.bind_eq_some_iff.1 he;obtain⟨ops,i,rest,k,ht,ho,hg,hret,hk⟩:=Z0s hp;split at hx
 ·rename_i f' ys hop;simp only[Y4,Y9]at hx;obtain⟨rfl,rfl⟩:=hx;obtain⟨r1,r2⟩:=Zgf h.1 hop w sU;have hnd:∀c,o.op ≠ .defer c:=by
   intro c hc;have:=r1;unfold execOp at this;rw[hc]at this;dsimp only at this;simp only[Sem.run_bind,Sem.run_pure]at this;revert this;cases (resolve f.eval c o.type).run P w<;>simp
  rw[Z1D h hp hnd,Z0q r1];have hk2:Z2i f = .normal:=by unfold Z2i;rw[h.1.todo.trans ht]
  unfold lst;rw[hk2,r2];simp only[ite_self,Z0M,Z0U]
 ·cases hx
def FA.cut(l:List Nat)(a:FA):FA:={a with env:=l.filterMap λt=>(a.env.lookup t).map λv=>(t,v)}
theorem Zd3{a:FA}(h:FOk a f)(l:List Nat):FOk (a.cut l) f:=by
 refine⟨h.fn,h.size,λt v e=>h.env t v ?_,h.todo,h.defs,h.kind,h.mode,h.round⟩;dsimp only[FA.cut]at e
 induction l with
 | nil=>cases e
 | cons x l ih =>
  rw[List.filterMap_cons]at e;cases hx:a.env.lookup x with
  | none=>rw[hx]at e;exact ih e
  | some u =>
   rw[hx]at e;simp only[Option.map_some,Yp]at e;split at e
   ·rename_i he;have he:t=x:=by simpa using he
    subst he;obtain rfl:=Y1 e;exact hx
   ·exact ih e
def cuts:List (List Nat)->List FA->List FA
 | l::ls,a::az=>a.cut l::cuts ls az
 | _,az=>az
theorem Zd4:∀(ls:List (List Nat)) {az:List FA} {fs:List Frame},Lis FOk az fs->Lis FOk (cuts ls az) fs
 | [],_,_,h=>by unfold cuts;exact h
 | l::ls,_,_,.nil=>.nil
 | l::ls,_,_,.cons h t=>.cons (Zd3 h l) (Zd4 ls t)
def St.cut(l:List Nat)(ls:List (List Nat))(s:St):St:={top:=s.top.cut l,rest:=cuts ls s.rest,cvs:=[],mks:=[],deaf:=s.deaf}
theorem Z2R(h:SOk s.top s.rest f fs)(l:List Nat)(ls:List (List Nat)):SOk (s.cut l ls).top (s.cut l ls).rest f fs:=⟨Zd3 h.1 l,Zd4 ls h.2⟩
end
end Ev
namespace Ev
open Go Lift
noncomputable abbrev PP:Program:=Tryz.prog
abbrev pa(N o:Nat):Value:=.pointer (some ⟨N,o,none⟩)
abbrev iw(n:Int):Value:=.int .i32 n
abbrev qw(n:Int):Value:=.int .i64 n
noncomputable def Z60(f:FuncId):Code:=((PP.funcs[f]?).bind (·.body)).getD .skip
def St.an(s:St)(v:Value):St:=(s.ans v).getD s
structure Wk where
 N:Nat
 W:Nat
 I:Nat
 L:Nat
 B:Nat
 D:Nat
 n:Nat
 c:Nat
 lamp:Nat
 clo:Value
def k0:Wk:=⟨0,0,0,0,0,0,1,1,0,.nilFunc⟩
noncomputable def edg(X:Xt)(s:St)(v:Value)(l:List Nat)(ls:List (List Nat)):Bool×St×List Addr×List Addr:=
 ((s.ans v).isSome,(pn PP X 200 (s.an v)).cut l ls,(pn PP X 200 (s.an v)).cvs,(pn PP X 200 (s.an v)).mks)
noncomputable def edgN(n:Nat)(X:Xt)(s:St)(v:Value)(l:List Nat)(ls:List (List Nat)):Bool×St×List Addr×List Addr:=
 ((s.ans v).isSome,(pn PP X n (s.an v)).cut l ls,(pn PP X n (s.an v)).cvs,(pn PP X n (s.an v)).mks)
noncomputable def mv(X:Xt)(s:St)(v:Value)(l:List Nat)(ls:List (List Nat)):St:=(edg X s v l ls).2.1
noncomputable def sW(k:Wk):St:={top:={fn:=113,n:=13,env:=[(0,pa k.W 0),(1,pa k.I 0),(2,pa k.L 0),(3,pa k.N 0),(4,pa k.B 0)],todo:=[.code (Z60 113)],defs:=[],kind:=.deferred,ret:=false},rest:=[],cvs:=[],mks:=[],deaf:=0}
noncomputable def cW1(k:Wk):St:=(pn PP xt 200 (sW k)).cut [1,2,3,4] []
noncomputable def cW2(k:Wk):St:=mv xt (cW1 k) k.clo [2,3,4,5] []
noncomputable def cW3(k:Wk):St:=((cW2 k).an (qw k.lamp)).cut [2,3,4,5,6] []
noncomputable def cL0(k:Wk):St:=mv xt (cW3 k) (.bool true) [0,5] [[],[2,3,4]]
noncomputable def cR0(k:Wk):St:=mv xt (cL0 k) (.bool false) [0,2,3,4,5,12] [[],[],[2,3,4]]
noncomputable def slow(k:Wk)(td:List Item)(env:List (Nat×Value)):St:={(cR0 k) with top:={(cR0 k).top with todo:=td,env:=env}}
noncomputable def sSp:St:=pn PP xt 200 ((cR0 k0).an (iw 9))
noncomputable def sC1:St:=pn PP xt 200 (sSp.an (.bool true))
noncomputable def sR1:St:=pn PP xt 200 (sC1.an (.bool false))
noncomputable def sC2:St:=pn PP xt 200 ((cR0 k0).an (iw 1))
noncomputable def sC2b:St:=pn PP xt 200 (sC2.an (.bool false))
noncomputable def sR3:St:=pn PP xt 200 (sC2b.an (.bool false))
noncomputable def sT1:St:=pn PP xt 200 (sC2b.an (.bool true))
noncomputable def sS1:St:=pn PP xt 200 (sT1.an (qw 1))
noncomputable def sT2:St:=pn PP xt 200 (sS1.an (.tuple #[]))
noncomputable def sR2:St:=pn PP xt 200 (sT2.an (qw 3000000))
noncomputable def sA1:St:=pn PP xt 200 (sR2.an (iw 12))
noncomputable def cSp(k:Wk)(old:Int)(aw sv:Bool)(it wst:Int):St:=slow k sSp.top.todo [(0,pa k.N 0),(2,qw wst),(3,.bool sv),(4,.bool aw),(5,qw it),(6,iw old),(17,.bool true),(18,qw it)]
noncomputable def cC1(k:Wk)(it wst:Int):St:=slow k sC1.top.todo [(0,pa k.N 0),(2,qw wst),(3,.bool false),(4,.bool false),(5,qw it),(33,.bool true),(36,pa k.N 0),(37,iw 9),(39,iw 11)]
noncomputable def cR1(k:Wk)(aw sv:Bool)(it wst:Int):St:=slow k sR1.top.todo [(0,pa k.N 0),(2,qw wst),(3,.bool sv),(4,.bool aw),(5,qw it),(47,pa k.N 0)]
noncomputable def cC2(k:Wk)(old nw:Int)(aw sv:Bool)(it wst:Int):St:=slow k sC2b.top.todo [(0,pa k.N 0),(2,qw wst),(3,.bool sv),(4,.bool aw),(5,qw it),(6,iw old),(77,pa k.N 0),(78,iw old),(79,iw nw)]
noncomputable def cR3(k:Wk)(aw sv:Bool)(it wst:Int):St:=slow k sR3.top.todo [(0,pa k.N 0),(2,qw wst),(3,.bool sv),(4,.bool aw),(5,qw it),(133,pa k.N 0)]
noncomputable def cT1(k:Wk)(sv:Bool)(q:Value):St:=slow k sT1.top.todo [(0,pa k.N 0),(3,.bool sv),(8,q)]
noncomputable def cS1(k:Wk)(sv:Bool)(wst:Int)(q:Value):St:=slow k sS1.top.todo [(0,pa k.N 0),(2,qw wst),(3,.bool sv),(91,pa k.N 1),(92,q)]
noncomputable def cT2(k:Wk)(wst:Int):St:=slow k sT2.top.todo [(0,pa k.N 0),(2,qw wst),(95,.bool false)]
noncomputable def cR2(k:Wk)(sv:Bool)(wst:Int):St:=slow k sR2.top.todo [(0,pa k.N 0),(2,qw wst),(3,.bool sv),(103,pa k.N 0)]
noncomputable def cA1(k:Wk)(d:Int):St:=slow k sA1.top.todo [(0,pa k.N 0),(128,pa k.N 0),(129,iw d)]
noncomputable def tdQ:List Item:=(pn PP xt 23 (sC2b.an (.bool true))).top.todo
noncomputable def cQ(k:Wk)(sv:Bool)(wst:Int)(q:Value)(b:Bool):St:=slow k tdQ [(0,pa k.N 0),(2,qw wst),(3,.bool sv),(8,q),(87,.bool b)]
noncomputable def cIn(k:Wk):St:=mv xt (cL0 k) (.bool true) [2,3,4] []
noncomputable def cI2(k:Wk):St:=mv xt (cIn k) (.slice (some ⟨k.D,0,none⟩) k.n k.c) [2,3,9] []
noncomputable def ZmU(k:Wk)(env:List (Nat×Value)):St:={(cI2 k) with top:={(cI2 k).top with env:=env,todo:=(pn PP xt 200 ((cI2 k0).an (qw 0))).top.todo}}
noncomputable def cSt(k:Wk):St:=ZmU k [(3,pa k.N 0),(11,pa k.D k.lamp)]
noncomputable def cUl(k:Wk):St:=mv xt (cSt k) undef [0,5] [[],[]]
noncomputable def cU0(k:Wk):St:=mv xt (cUl k) (iw 0) [0,13] [[],[]]
noncomputable def unl(k:Wk):List FA:=(cuts [[],[],[]] (pn PP xt 200 ((cU0 k).an (iw 8))).rest)
noncomputable def sUc:St:=pn PP xt 200 ((cU0 k0).an (iw 8))
noncomputable def sUr:St:=pn PP xt 200 (sUc.an (.bool false))
noncomputable def sUs:St:=pn PP xt 200 (sUc.an (.bool true))
noncomputable def sUt:St:=pn PP xt 200 ((cU0 k0).an (iw 12))
noncomputable def cUc(k:Wk)(old:Int):St:={sUc with top:={sUc.top with env:=[(0,pa k.N 0),(27,pa k.N 0),(28,iw old),(29,iw (if old=8 then 2 else 10))]},rest:=unl k,cvs:=[],mks:=[]}
noncomputable def cUr(k:Wk):St:={sUr with top:={sUr.top with env:=[(0,pa k.N 0),(37,pa k.N 0)]},rest:=unl k,cvs:=[],mks:=[]}
noncomputable def cUs(k:Wk):St:={sUs with top:={sUs.top with env:=[(33,pa k.N 1)]},rest:=unl k,cvs:=[],mks:=[]}
noncomputable def cUt(k:Wk):St:={sUt with top:={sUt.top with env:=[(41,pa k.N 1)]},rest:=unl k,cvs:=[],mks:=[]}
noncomputable def cWr(k:Wk):St:=mv xtQ (cW3 k) (.bool false) [0,1,12] [[],[]]
noncomputable def cD1(k:Wk):St:=mv xtQ (cWr k) (.tuple #[]) [7,8] [[0,1,4],[],[]]
noncomputable def cD2(k:Wk):St:=mv xtQ (cD1 k) (.int .u64 1) [5] [[0,1,4,6,8],[],[]]
noncomputable def cD3(k:Wk):St:=mv xtQ (cD2 k) (.int .u64 1) [6,7] [[0,4,8],[],[]]
noncomputable def cD4(k:Wk):St:=mv xtQ (cD3 k) (.tuple #[]) [8,115] [[],[]]
noncomputable def cZ(k:Wk):St:=mv xtQ (cD1 k) (.int .u64 4294967296) [] []
theorem ZfA(k:Wk)(sv:Bool)(wst:Int)(q:Value):((pn PP xt 200 (cQ k sv wst q true)).cut [0,3,8] [[],[],[2,3,4]],(pn PP xt 200 (cQ k sv wst q true)).cvs,(pn PP xt 200 (cQ k sv wst q true)).mks)=(cT1 k sv q,[],[]):=kR
theorem Zde(k:Wk)(sv:Bool)(wst:Int)(q:Value):((pn PP xt 200 (cQ k sv wst q false)).cut [0,2,3,91,92] [[],[],[2,3,4]],(pn PP xt 200 (cQ k sv wst q false)).cvs,(pn PP xt 200 (cQ k sv wst q false)).mks)=(cS1 k sv wst q,[],[]):=kR
theorem e_in(k:Wk):edg xt (cIn k) (.slice (some ⟨k.D,0,none⟩) k.n k.c) [2,3,9] []=(true,cI2 k,[],[]):=kR
theorem e_st(k:Wk):edg xt (cSt k) undef [0,5] [[],[]]=(true,cUl k,[],[]):=kR
theorem e_ul(k:Wk)(z:Int):edg xt (cUl k) (iw z) [0,13] [[],[]]=(true,cU0 k,[⟨k.N,0,none⟩],[⟨k.N,0,none⟩]):=kR
section
variable(k:Wk)
theorem e_w0:edg xtQ (cW3 k) (.bool false) [0,1,12] [[],[]]=(true,cWr k,[⟨k.W,0,none⟩],[]):=kR
theorem e_w1:edg xt (cW3 k) (.bool true) [0,5] [[],[2,3,4]]=(true,cL0 k,[],[]):=kR
theorem e_wr:edg xtQ (cWr k) (.tuple #[]) [7,8] [[0,1,4],[],[]]=(true,cD1 k,[],[]):=kR
theorem Zhx:edg xtQ (cD1 k) (.int .u64 0) [] []=(true,cZ k,[],[]):=kR
theorem Zhy:edg xtQ (cD1 k) (.int .u64 4294967296) [] []=(true,cZ k,[],[]):=kR
theorem Zhz:edg xtQ (cD1 k) (.int .u64 8589934592) [] []=(true,cZ k,[],[]):=kR
theorem Zdc:edg xtQ (cD1 k) (.int .u64 4294967297) [] []=(true,cZ k,[],[]):=kR
theorem Zdd:edg xtQ (cD1 k) (.int .u64 8589934593) [] []=(true,cZ k,[],[]):=kR
theorem Zdb:edg xtQ (cD1 k) (.int .u64 1) [5] [[0,1,4,6,8],[],[]]=(true,cD2 k,[],[]):=kR
theorem e_d2:edg xtQ (cD2 k) (.int .u64 1) [6,7] [[0,4,8],[],[]]=(true,cD3 k,[],[]):=kR
theorem e_d3:edg xtQ (cD3 k) (.tuple #[]) [8,115] [[],[]]=(true,cD4 k,[],[]):=kR
theorem e_d4:edg xtQ (cD4 k) (.tuple #[]) [] []=(true,cZ k,[],[]):=kR
end
end Ev
namespace Ev
open Go Lift
def sqL:Code->Code | .seq x _=>x | c=>c
def sqR:Code->Code | .seq _ y=>y | c=>c
noncomputable def cBlk:Code:=sqR (sqL (sqR (sqR (sqR (sqR (Z60 66))))))
noncomputable def Z6N:Code:=sqR (sqR (sqR (sqR (sqR (Z60 66)))))
def T0:Nat->Value:=λ_=>undef
def A42:List Nat:=[0,1,2,3,4,5,6,7,8,9,10,11,12,13,14,15,16,17,18,19,20,21,22,23,24,25,26,27,28,29,30,31,32,33,34,35,36,37,38,39,40,41]
noncomputable def edm(m:Nat)(X:Xt)(s:St)(ls:List (List Nat)):St×List Addr×List Addr:=((pn PP X m s).cut A42 ls,(pn PP X m s).cvs,(pn PP X m s).mks)
noncomputable def und(k:Wk)(td:List Item)(env:List (Nat×Value)):St:={top:={fn:=66,n:=42,env:=env,todo:=td,defs:=[],kind:=.normal,ret:=false},rest:=[],cvs:=[],mks:=[],deaf:=0}
noncomputable def sM(k:Wk)(T:Nat->Value)(n:Int):St:=und k [.code cBlk,.code Z6N] [(0,T 0),(1,T 1),(2,T 2),(3,pa k.I 0),(4,T 4),(5,pa k.W 0),(6,pa k.N 0),(7,pa k.B 0),(8,T 8),(9,T 9),(10,T 10),(11,T 11),(12,T 12),(13,T 13),(14,T 14),(15,T 15),(16,T 16),(17,T 17),(18,T 18),(19,T 19),(20,qw n),(21,qw 0),(22,T 22),(23,T 23),(24,T 24),(25,T 25),(26,T 26),(27,T 27),(28,T 28),(29,T 29),(30,T 30),(31,T 31),(32,T 32),(33,T 33),(34,T 34),(35,T 35),(36,T 36),(37,T 37),(38,T 38),(39,T 39),(40,T 40),(41,T 41)]
noncomputable def tdMc:List Item:=(pn PP xtQ 7 (sM k0 T0 1)).top.todo
noncomputable def cMc(k:Wk)(T:Nat->Value)(n i:Int)(b:Bool)(x:Value)(u:Nat->Value):St:=und k tdMc [(0,T 0),(1,T 1),(2,T 2),(3,pa k.I 0),(4,T 4),(5,pa k.W 0),(6,pa k.N 0),(7,pa k.B 0),(8,x),(9,T 9),(10,T 10),(11,T 11),(12,T 12),(13,T 13),(14,T 14),(15,T 15),(16,T 16),(17,T 17),(18,T 18),(19,T 19),(20,qw n),(21,qw i),(22,.bool b),(23,u 23),(24,u 24),(25,u 25),(26,u 26),(27,T 27),(28,T 28),(29,T 29),(30,T 30),(31,T 31),(32,T 32),(33,T 33),(34,T 34),(35,T 35),(36,T 36),(37,T 37),(38,T 38),(39,T 39),(40,T 40),(41,T 41)]
noncomputable def tdMa:List Item:=(pn PP xtQ 200 (cMc k0 T0 1 0 true undef T0)).top.todo
noncomputable def cMa(k:Wk)(T:Nat->Value)(n i:Int)(x:Value)(u:Nat->Value):St:=und k tdMa [(0,T 0),(1,T 1),(2,T 2),(3,pa k.I 0),(4,T 4),(5,pa k.W 0),(6,pa k.N 0),(7,pa k.B 0),(8,x),(9,T 9),(10,T 10),(11,T 11),(12,T 12),(13,T 13),(14,T 14),(15,T 15),(16,T 16),(17,T 17),(18,T 18),(19,T 19),(20,qw n),(21,qw i),(22,.bool true),(23,qw i),(24,u 24),(25,u 25),(26,u 26),(27,T 27),(28,T 28),(29,T 29),(30,T 30),(31,T 31),(32,T 32),(33,T 33),(34,T 34),(35,T 35),(36,T 36),(37,T 37),(38,T 38),(39,T 39),(40,T 40),(41,T 41)]
noncomputable def tdMs:List Item:=(((cMa k0 T0 1 0 undef T0).an (pa 0 0))).top.todo
noncomputable def cMs(k:Wk)(T:Nat->Value)(n i:Int)(L:Nat)(u:Nat->Value):St:=und k tdMs [(0,T 0),(1,T 1),(2,T 2),(3,pa k.I 0),(4,T 4),(5,pa k.W 0),(6,pa k.N 0),(7,pa k.B 0),(8,pa L 0),(9,T 9),(10,T 10),(11,T 11),(12,T 12),(13,T 13),(14,T 14),(15,T 15),(16,T 16),(17,T 17),(18,T 18),(19,T 19),(20,qw n),(21,qw i),(22,.bool true),(23,qw i),(24,u 24),(25,u 25),(26,u 26),(27,T 27),(28,T 28),(29,T 29),(30,T 30),(31,T 31),(32,T 32),(33,T 33),(34,T 34),(35,T 35),(36,T 36),(37,T 37),(38,T 38),(39,T 39),(40,T 40),(41,T 41)]
noncomputable def mvm(X:Xt)(s:St)(v:Value)(l:List Nat)(ls:List (List Nat)):St:=(edg X s v l ls).2.1
noncomputable def cMd(k:Wk)(T:Nat->Value)(n i:Int)(L:Nat)(u:Nat->Value):St:=mvm xtQ (cMs k T n i L u) undef [7,8] [[0,1,4],A42]
noncomputable def cMr(k:Wk)(T:Nat->Value)(n i:Int)(L:Nat)(u:Nat->Value):St:=mvm xtQ (cMd k T n i L u) (.int .u64 4294967296) [0,1,4,6,7,8,71] [A42]
noncomputable def tdMg:List Item:=(pn PP xtQ 200 ((cMd k0 T0 1 0 0 T0).an (.int .u64 (8589934592)))).top.todo
noncomputable def cMg(k:Wk)(T:Nat->Value)(n i:Int)(L:Nat)(u:Nat->Value):St:=und k tdMg [(0,T 0),(1,T 1),(2,T 2),(3,pa k.I 0),(4,T 4),(5,pa k.W 0),(6,pa k.N 0),(7,pa k.B 0),(8,pa L 0),(9,T 9),(10,T 10),(11,T 11),(12,T 12),(13,T 13),(14,T 14),(15,T 15),(16,T 16),(17,T 17),(18,T 18),(19,T 19),(20,qw n),(21,qw i),(22,.bool true),(23,qw i),(24,.tuple #[]),(25,(.func (.func 113) #[] #[pa k.W 0,pa k.I 0,pa L 0,pa k.N 0,pa k.B 0])),(26,u 26),(27,T 27),(28,T 28),(29,T 29),(30,T 30),(31,T 31),(32,T 32),(33,T 33),(34,T 34),(35,T 35),(36,T 36),(37,T 37),(38,T 38),(39,T 39),(40,T 40),(41,T 41)]
noncomputable def cMw1(k:Wk)(T:Nat->Value)(n i:Int)(x:Value)(u:Nat->Value):St:={(pn PP xtQ 200 (cMc k T n i false x u)).cut [5] [[0],A42] with cvs:=[]}
noncomputable def cMw2(k:Wk)(T:Nat->Value)(n i:Int)(x:Value)(v:Int)(u:Nat->Value):St:=mvm xtQ (cMw1 k T n i x u) (.int .u64 v) [9,10,11] [[0,2,4],A42]
noncomputable def cMq(k:Wk)(T:Nat->Value)(n i:Int)(x:Value)(u:Nat->Value):St:=mvm xtQ (cMw1 k T n i x u) (.int .u64 0) [0,2,4,22] [A42]
noncomputable def cMx(k:Wk)(T:Nat->Value)(n i:Int)(x:Value)(v:Int)(u:Nat->Value):St:=mvm xtQ (cMw2 k T n i x v u) (.bool true) [0,2,56] [A42]
noncomputable def cMw3(k:Wk)(T:Nat->Value)(n i:Int)(x:Value)(u:Nat->Value):St:={(mvm xtQ (cMx k T n i x 4294967296 u) (.tuple #[]) [0,70,71] [A42]) with cvs:=[]}
noncomputable def cMw4(k:Wk)(T:Nat->Value)(n i:Int)(x:Value)(u:Nat->Value):St:=mvm xtQ (cMw3 k T n i x u) (.tuple #[]) [5] [[0],A42]
noncomputable def cMy(k:Wk)(T:Nat->Value)(n i:Int)(x:Value)(u:Nat->Value):St:=mvm xtQ (cMw4 k T n i x u) (.int .u64 0) [6,80] [A42]
noncomputable def tdMf:List Item:=(pn PP xtQ 200 ((cMq k0 T0 1 0 undef T0).an (.tuple #[]))).top.todo
noncomputable def cMf(k:Wk)(T:Nat->Value)(n i:Int)(x:Value)(u:Nat->Value):St:=und k tdMf [(0,T 0),(1,T 1),(2,T 2),(3,pa k.I 0),(4,T 4),(5,pa k.W 0),(6,pa k.N 0),(7,pa k.B 0),(8,x),(9,.slice none 0 0),(10,T 10),(11,T 11),(12,T 12),(13,T 13),(14,T 14),(15,T 15),(16,T 16),(17,T 17),(18,T 18),(19,T 19),(20,qw n),(21,qw i),(22,.bool false),(23,u 23),(24,u 24),(25,u 25),(26,u 26),(27,.tuple #[]),(28,T 28),(29,T 29),(30,T 30),(31,T 31),(32,T 32),(33,T 33),(34,T 34),(35,T 35),(36,T 36),(37,T 37),(38,T 38),(39,T 39),(40,T 40),(41,T 41)]
theorem Zj1(k:Wk)(T:Nat->Value)(n:Int):edm 7 xtQ (sM k T n) []=(cMc k T n 0 (decide (0<n)) (T 8) T,[],[]):=kR
theorem Zl7(k:Wk)(T:Nat->Value)(n i:Int)(x:Value)(u:Nat->Value):edm 200 xtQ (cMc k T n i true x u) []=(cMa k T n i x u,[],[]):=kR
theorem ZmB(k:Wk)(T:Nat->Value)(n i:Int)(x:Value)(L:Nat)(u:Nat->Value):((cMa k T n i x u).ans (pa L 0))=some ((cMa k T n i x u).an (pa L 0))/\((cMa k T n i x u).an (pa L 0)).cut A42 []=cMs k T n i L u:=⟨kR,kR⟩
section
variable(k:Wk)(T:Nat->Value)(n i:Int)(L:Nat)(u:Nat->Value)
theorem Zl6:edg xtQ (cMs k T n i L u) undef [7,8] [[0,1,4],A42]=(true,cMd k T n i L u,[],[]):=kR
theorem ZhG:edg xtQ (cMd k T n i L u) (.int .u64 4294967296) [0,1,4,6,7,8,71] [A42]=(true,cMr k T n i L u,[⟨k.W,1,none⟩],[]):=kR
theorem ZhH:edg xtQ (cMd k T n i L u) (.int .u64 (8589934592)) A42 []=(true,cMg k T n i L u,[],[]):=kR
theorem ZhI:edg xtQ (cMd k T n i L u) (.int .u64 (12884901888)) A42 []=(true,cMg k T n i L u,[],[]):=kR
theorem ZhJ:edg xtQ (cMr k T n i L u) (.tuple #[]) A42 []=(true,cMg k T n i L u,[],[]):=kR
theorem m_go:edgN 12 xtQ (cMg k T n i L u) undef A42 []=(true,cMc k T n (IntKind.i64.wrap (i+1)) (decide (IntKind.i64.wrap (i+1)<n)) (pa L 0) (λj=>if j=23 then qw i else if j=24 then .tuple #[] else if j=25 then(.func (.func 113) #[] #[pa k.W 0,pa k.I 0,pa L 0,pa k.N 0,pa k.B 0]) else qw (IntKind.i64.wrap (i+1))),[],[]):=kR
end
section
variable(k:Wk)(T:Nat->Value)(n i:Int)(x:Value)(u:Nat->Value)
theorem Zlb:((pn PP xtQ 200 (cMc k T n i false x u)).cut [5] [[0],A42],(pn PP xtQ 200 (cMc k T n i false x u)).cvs,(pn PP xtQ 200 (cMc k T n i false x u)).mks)=(cMw1 k T n i x u,[],[]):=kR
theorem ZhK:edg xtQ (cMw1 k T n i x u) (.int .u64 0) [0,2,4,22] [A42]=(true,cMq k T n i x u,[⟨k.W,0,none⟩],[]):=kR
theorem ZhL:edg xtQ (cMw1 k T n i x u) (.int .u64 4294967296) [9,10,11] [[0,2,4],A42]=(true,cMw2 k T n i x 4294967296 u,[],[]):=kR
theorem ZhM:edg xtQ (cMw1 k T n i x u) (.int .u64 8589934592) [9,10,11] [[0,2,4],A42]=(true,cMw2 k T n i x 8589934592 u,[],[]):=kR
theorem ZhN:edg xtQ (cMw1 k T n i x u) (.int .u64 12884901888) [9,10,11] [[0,2,4],A42]=(true,cMw2 k T n i x 12884901888 u,[],[]):=kR
theorem Zj2:edg xtQ (cMw2 k T n i x 4294967296 u) (.bool false) [5] [[0],A42]=(true,cMw1 k T n i x u,[],[]):=kR
theorem Zj3:edg xtQ (cMw2 k T n i x 8589934592 u) (.bool false) [5] [[0],A42]=(true,cMw1 k T n i x u,[],[]):=kR
theorem Zj4:edg xtQ (cMw2 k T n i x 12884901888 u) (.bool false) [5] [[0],A42]=(true,cMw1 k T n i x u,[],[]):=kR
theorem Zl8:edg xtQ (cMw2 k T n i x 4294967296 u) (.bool true) [0,2,56] [A42]=(true,cMx k T n i x 4294967296 u,[⟨k.W,1,none⟩],[]):=kR
theorem Zl9:edg xtQ (cMw2 k T n i x 8589934592 u) (.bool true) [0,2,56] [A42]=(true,cMx k T n i x 8589934592 u,[⟨k.W,1,none⟩],[]):=kR
theorem Zla:edg xtQ (cMw2 k T n i x 12884901888 u) (.bool true) [0,2,56] [A42]=(true,cMx k T n i x 12884901888 u,[⟨k.W,1,none⟩],[]):=kR
theorem ZmC:edg xtQ (cMx k T n i x 4294967296 u) (.tuple #[]) [0,70,71] [A42]=(true,cMw3 k T n i x u,[],[]):=kR
theorem ZmD:edg xtQ (cMx k T n i x 8589934592 u) (.tuple #[]) [0,70,71] [A42]=(true,cMw3 k T n i x u,[],[]):=kR
theorem ZmE:edg xtQ (cMx k T n i x 12884901888 u) (.tuple #[]) [0,70,71] [A42]=(true,cMw3 k T n i x u,[],[]):=kR
theorem m_w3:edg xtQ (cMw3 k T n i x u) (.tuple #[]) [5] [[0],A42]=(true,cMw4 k T n i x u,[],[]):=kR
theorem m_w4:edg xtQ (cMw4 k T n i x u) (.int .u64 0) [6,80] [A42]=(true,cMy k T n i x u,[⟨k.W,0,none⟩],[]):=kR
theorem m_q:edg xtQ (cMq k T n i x u) (.tuple #[]) A42 []=(true,cMf k T n i x u,[],[]):=kR
theorem m_y:edg xtQ (cMy k T n i x u) (.tuple #[]) A42 []=(true,cMf k T n i x u,[],[]):=kR
end
end Ev
section
open Go.RowKit Ev
variable{μ:Nat}
def Vm.val(x:Vm):Value:=.agg x.vc
def pt(n:Nat):Value:=.pointer (some ⟨n,0,none⟩)
structure UnA(x:Vm)(cf:FuncId)(ys:Array Value)(w:World)(b f:Frame)(w':World):Prop where
 ex:∃(a:Act) (n3 n5 n6 n7 n16:Nat),f=b.at a [.code (.refuse ""),.code (.refuse "")] /\
  Has 42 [] a [(0,x.val),(1,.func (.func cf) #[] ys),(3,pt n3),(5,pt n5),(6,pt n6),(7,pt n7),(20,.int .i64 ((x.L.length:Nat):Int)),(21,.int .i64 0)] /\
  w'.heap[n3]?=some (.cells #[.func (.func cf) #[] ys] 92 (0,0))/\w'.heap[n5]?=some (.cells #[.int .u64 0,.int .u32 0] 146 (0,0))/\w'.heap[n6]?=some (.cells #[.int .i32 0,.int .u32 0] 150 (0,0)) /\
  w'.heap[n7]?=some (.cells #[.slice (some ⟨n16,0,none⟩) x.L.length x.L.length] 151 (0,0))/\w'.heap[n16]?=some (.cells (List.replicate x.L.length (Value.bool false)).toArray 4 (0,0)) /\
  w.heap.size<=n3/\n3<n5/\n5<n6/\n6<n16/\n16<n7/\Ext [] w w'
theorem Zeg{e:TypeId}{g: Nat}{xs:List Value}(h:w.ownsRow base e 1 (.slice (some ⟨g,0,none⟩) n n) n xs): w.heap[g]?=some (.cells xs.toArray e (0,0)):=by
 obtain⟨h1,h2 | ⟨g',cap,cur,h3,h4,h5,h6,h7,h8,h9⟩⟩:=h
 ·cases h2.1
 ·simp only[Value.slice.injEq,Y4,Addr.mk.injEq]at h3;obtain⟨⟨rfl,_⟩,_,rfl⟩:=h3;rw[h5];have:cur=xs.toArray:=by
   apply Array.ext';rw[<-h9,List.take_of_length_le (by rw[Array.length_toList,h8];exact Ye _)]
  rw[this]
noncomputable def uB:Code:=Tryz.f66.body.getD .skip
noncomputable def cPre:Code:=.seq (sqL uB) (.seq (sqL (sqR uB)) (.seq (sqL (sqR (sqR uB))) (.seq (sqL (sqR (sqR (sqR uB)))) (.seq (.seq (sqL (sqL (sqR (sqR (sqR (sqR uB)))))) (.refuse "")) (.refuse "")))))
theorem ZlS(x:Vm)(hx:x.L.length<=3)(cf:FuncId)(ys:Array Value)(w:World)(fb:Frame)(fa:Act)(F:Has 42 [] fa [(0,x.val),(1,.func (.func cf) #[] ys)]):ToZ (Qy.prog 2) [Lift.poison] (UnA x cf ys w fb) (fb.at fa [.code cPre]) w:=by
 have E:=Ext.refl [] w;unfold Vm.val at F;refine Z2u ?_;refine Z5I ?_;refine Yg ?_;refine sqN F (Zcr rfl (F.at rfl)) λfa w1 F hw=>?_;obtain⟨n2,hn⟩:=eQ w.heap.size;rw[<-hn]at F;have s2:=sQ hn;have l2_E:=lQ hn E.size;replace E:=Zv E hw;have q2:=Z5i hw hn;clear hw hn;refine sqN F (Zcr rfl (F.at rfl)) λfa w2 F hw=>?_;obtain⟨n3,hn⟩:=eQ w1.heap.size;rw[<-hn]at F;have s3:=sQ hn;have l3_E:=lQ hn E.size;have m3_2:=tQ hn (Z8 q2);replace q2:=Zf hw q2;replace E:=Zv E hw;have q3:=Z7x hw rfl hn;clear hw hn;refine F.vl (Z08 rfl (ev_c fa _)) λfa F=>?_;refine wpList_nil ?_;refine .inl ⟨rfl,?_⟩;refine Z2u ?_;refine Z5I ?_;refine Yg ?_;refine sqN F (Z2Z rfl Qy.zeroValue146) λfa w3 F hw=>?_;obtain⟨n5,hn⟩:=eQ w2.heap.size;rw[<-hn]at F;have s5:=sQ hn;have l5_E:=lQ hn E.size;have m5_2:=tQ hn (Z8 q2);have m5_3:=tQ hn (Z8 q3);replace q2:=Zf hw q2;replace q3:=Zf hw q3;replace E:=Zv E hw;have q5:=Z5i hw hn;clear hw hn;refine wpList_nil ?_;refine .inl ⟨rfl,?_⟩;refine Z2u ?_;refine Z5I ?_;refine Yg ?_;refine sqN F (Z2Z rfl Qy.zeroValue150) λfa w4 F hw=>?_;obtain⟨n6,hn⟩:=eQ w3.heap.size;rw[<-hn]at F;have s6:=sQ hn;have l6_E:=lQ hn E.size;have m6_2:=tQ hn (Z8 q2);have m6_3:=tQ hn (Z8 q3);have m6_5:=tQ hn (Z8 q5);replace q2:=Zf hw q2;replace q3:=Zf hw q3;replace q5:=Zf hw q5;replace E:=Zv E hw;have q6:=Z5i hw hn;clear hw hn;refine wpList_nil ?_;refine .inl ⟨rfl,?_⟩;refine Z2u ?_;refine Z5I ?_;refine Yg ?_;refine F.vl (Z0p rfl (F.at rfl) Qy.underlying85 rfl (n:=0) (sz:=4) rfl kR dC) λfa F=>?_;refine F.vl (Z0p rfl (F.at rfl) Qy.underlying27 rfl (n:=2) (sz:=1) rfl kR dC) λfa F=>?_;refine F.vl (Z1e rfl (F.at rfl) Qy.underlying25 rfl ((Z3 q2 2).trans (getS (getS get0)))) λfa F=>?_;refine F.vl (Z8a rfl rfl (F.at rfl) Qy.underlying25) λfa F=>?_;have hzE:=E.size;have hz6:=Z8 q6;refine Zx F rfl dC rfl (Z2L rfl w.heap.size (e:=4) (bytes:=1) (z:=.bool false) Qy.underlying151 kR rfl (F.at rfl) (F.at rfl) (n:=x.L.length) oM dC oM) ?_;clear F fa;rintro fa v' w5 F ⟨oo,hg,rfl⟩;obtain⟨n16,hn⟩:=eQ w4.heap.size;rw[<-hn]at F oo;have s16:=sQ hn;replace q2:=Z2h hg q2;replace q3:=Z2h hg q3;replace q5:=Z2h hg q5;replace q6:=Z2h hg q6;replace E:=Z7b E hg;clear hg hn;have hz16:=Z8 (Zeg oo);refine sqN F (Z2Z rfl Qy.zeroValue151) λfa w6 F hw=>?_;obtain⟨n7,hn⟩:=eQ w5.heap.size;rw[<-hn]at F;have s7:=sQ hn;have l7_E:=lQ hn E.size;have m7_2:=tQ hn (Z8 q2);have m7_3:=tQ hn (Z8 q3);have m7_5:=tQ hn (Z8 q5);have m7_6:=tQ hn (Z8 q6);have o7_oo:=Lib.hid (Z1C oo hn);replace oo:=Z0S hw oo;replace q2:=Zf hw q2;replace q3:=Zf hw q3;replace q5:=Zf hw q5;replace q6:=Zf hw q6;replace E:=Zv E hw;have q7:=Z7x hw rfl hn;clear hw hn;refine Z3S rfl rfl (ZW rfl (F.at rfl) (F.at rfl) rfl kR ((Z3 q7 0).trans get0) (Zg q7 0)) ?_;intro w7 hw;replace oo:=Z2M hw oo (Z0r oo q7 dC);replace q2:=kce hw q2;replace q3:=kce hw q3;replace q5:=kce hw q5;replace q6:=kce hw q6;replace q7:=ZU hw q7 (by simp only[List.setIfInBounds_toArray,lsQ,lzQ];exact rfl);replace E:=ece E hw;clear hw;refine wpList_nil ?_;refine .inl ⟨rfl,?_⟩;refine Z2u ?_;refine Z2u ?_;refine Z5I ?_;refine Yg ?_;refine F.vl (Z0p rfl (F.at rfl) Qy.underlying85 rfl (n:=0) (sz:=4) rfl kR dC) λfa F=>?_;refine F.vl (Z0p rfl (F.at rfl) Qy.underlying27 rfl (n:=2) (sz:=1) rfl kR dC) λfa F=>?_;refine F.vl (Z1e rfl (F.at rfl) Qy.underlying25 rfl ((Z3 q2 2).trans (getS (getS get0)))) λfa F=>?_;refine F.vl (Z8a rfl rfl (F.at rfl) Qy.underlying25) λfa F=>?_;refine F.vl (Z3m rfl (ev_c fa _)) λfa F=>?_;refine wpList_nil ?_;refine .inl ⟨rfl,?_⟩;exact ToZ.here ⟨fa,n3,n5,n6,n7,n16,rfl,F.sub (.c 0 rfl (.c 1 rfl (.c 3 rfl (.c 5 rfl (.c 6 rfl (.c 7 rfl (.c 20 rfl (.c 21 rfl .n)))))))),q3,q5,q6,q7,Zeg oo,oM,oM,oM,oM,oM,E⟩
end
section
open Go.RowKit
variable{μ:Nat}
theorem ZH(h:w.ownsRow base 3 1 (.slice a n c) n (ivs xs))(hn:n=xs.length)(X:List Nat)(hX:∀b∈X,b<base): SlAt X w a 1 xs.length (λi=>[.int .i64 (xs.getD i 0)]):=by
 rw[Z0t]at h;exact Z0D h hn (λ_=>rfl) X hX 0
theorem Z1i(xs:List Int):(ivs xs).length=xs.length:=by simp[ivs]
theorem Z1j(xs:List Int)(i:Nat)(v:Int):(ivs xs).set i (.int .i64 v)=ivs (xs.set i v):=by simp[ivs,List.map_set]
def TubS(f:Nat->Int):Prop:=∀k,k<4->0<=f k/\f k<=6
theorem TubS.ok(h:TubS f): Zkk f:=λk hk=>by have:=h k hk;omega
def tonE(x:Vm)(f:Nat->Int)(j d:Nat):Int:=sumQ (λd=>f d*val (x.dye d) j) d
def sumR(x:Vm)(f:Nat->Int)(bn d i:Nat):List Int:=(List.range bn).map λj=>tonE x f j (if j<i then d+1 else d)
def sumL(x:Vm)(f:Nat->Int)(bn:Nat):List Int:=(List.range bn).map λj=>tonE x f j x.D.length
theorem Z7W(x:Vm)(f:Nat->Int)(bn d i:Nat):(sumR x f bn d i).length=bn:=by simp[sumR]
theorem Z5F(x:Vm)(f:Nat->Int)(bn:Nat):ivs (sumR x f bn 0 0)=List.replicate bn (.int .i64 0):=by
 rw[sumR,ivs,List.map_map,List.eq_replicate_iff];refine⟨sU,λb hb=>?_⟩;obtain⟨j,-,rfl⟩:=List.mem_map.1 hb;simp[tonE,sumQ]
theorem Z7V(x:Vm)(f:Nat->Int)(d:Nat)(h:i<bn): (sumR x f bn d i).getD i 0=tonE x f i d:=by simp[sumR,h]
theorem Z7X(x:Vm)(f:Nat->Int)(d:Nat)(h:i<bn): (sumR x f bn d i).set i (tonE x f i (d+1))=sumR x f bn d (i+1):=by
 refine List.ext_getElem (by simp[sumR]) λj h1 h2=>?_;rw[List.getElem_set];by_cases e:i=j
 ·subst e;simp[sumR]
 ·rw[if_neg e];simp only[sumR,List.getElem_map,List.getElem_range];congr 1;by_cases e2:j<i
  ·rw[if_pos e2,if_pos oM]
  ·rw[if_neg e2,if_neg oM]
theorem Z5E(x:Vm)(f:Nat->Int)(bn d:Nat):sumR x f bn d bn=sumR x f bn (d+1) 0:=by
 refine List.map_congr_left λj hj=>?_;rw[if_pos (by simpa using hj),if_neg oM]
theorem Z7U(x:Vm)(f:Nat->Int)(bn:Nat):sumR x f bn x.D.length 0=sumL x f bn:=by
 refine List.map_congr_left λj hj=>?_;rw[if_neg oM]
theorem Zau{x:Vm}(hv:VOk x)(hd:d<x.D.length)(j:Nat): 0<=val (x.dye d) j/\val (x.dye d) j<=9:=by
 obtain⟨-,h⟩:=hv.dl _ (Z5 (.bool true,[]) hd);by_cases hj:j<(x.dye d).length
 ·exact h _ (Z5 0 hj)
 ·rw[val,Y7,List.getElem?_eq_none oM];simp
theorem Z5J{x:Vm}(hv:VOk x)(hf:TubS f)(j:Nat)(hd:d<=x.D.length): 0<=tonE x f j d/\tonE x f j d<=60*d:=by
 have:=Z7T (f:=λd=>f d*val (x.dye d) j) (a:=0) (b:=60) (n:=d) λk hk=>?_
 ·rw[tonE];omega
 ·have h4:=hv.d4;obtain⟨h1,h2⟩:=hf k oM;obtain⟨h3,h5⟩:=Zau hv (d:=k) oM j;refine⟨Int.mul_nonneg h1 h3,?_⟩;have:f k*val (x.dye k) j<=6*val (x.dye k) j:=Int.mul_le_mul_of_nonneg_right h2 h3;show f k*val (x.dye k) j<=60;omega
theorem Z3i{x:Vm}(hv:VOk x)(hf:TubS f)(bn:Nat): ∀n∈sumL x f bn,0<=n/\n<=240:=by
 intro n hn;obtain⟨j,-,rfl⟩:=List.mem_map.1 hn;have:=Z5J hv hf j (Ye x.D.length);have:=hv.d4;omega
theorem Z4g(x:Vm)(hv:VOk x)(bn:Nat)(hbn:x.B=bn)(f:Nat->Int)(hf:TubS f)(w:World)(h:x.At w):
  Calls (Qy.prog μ) 82 #[.agg x.vc,.agg (tubC f)] w λe w'=>∃a,e = .returned (.slice a bn bn)/\w'.ownsRow w.heap.size 3 1 (.slice a bn bn) bn (ivs (sumL x f bn))/\Ext [] w w':=by
 have E:=Ext.refl [] w;have HX:=Lib.hid h;have HD:=Lib.hid h.d.1;have HV:=Lib.hid hv;have HF:=Lib.hid hf;have hd4:=hv.d4;have hb1:=hv.b1;have hb3:=hv.b3;clear h hv hf;have G:=(Bk.nil w).ce E;refine(ent 44 Tryz.f82 rfl) λF=>wR λk1=>(F.bx G) λyy F G=>(F.bx G) @λn3 w2 _ yy F G=>(F.m) λF=>k1<|wR λk2=>(F.y (F.fd 0)) λF=>(F.y (F.fd 0)) λF=>(F.y (F.lc (G.q 1))) λF=>?_
 rw[hbn]at F;have hEs:=(G.e 2).size;refine Zx F rfl dC (F.want rfl) (Z2L rfl w.heap.size (e:=3) (bytes:=8) (z:=.int .i64 0) Qy.underlying22 kR rfl (F.at rfl) (F.at rfl) (n:=bn) oM dC oM) ?_;clear F;rintro _ v' w3 F ⟨oo,hg,rfl⟩;obtain⟨n13,hn⟩:=eQ w2.heap.size;rw[<-hn]at F oo;have s13:=G.lt hn;replace G:=G.gn hg;clear hg hn;replace G:=G.co oo;have oo:=G.o 0;rw[<-Z5F x f bn]at oo;replace G:=G.rO 0 oo;clear oo;refine(F.m) λF=>k2<|wQ λk3=>wR λk4=>(F.y (F.fd 0)) λF=>(F.y (F.fd 1)) λF=>(F.y (F.lc (G.q 2))) λF=>(F.y F.ln) λF=>(F.m) λF=>k4<|Yh<|lpB (F.b [3,5,16,17]) (G.b [1,2,3]) x.D.length (λd Lv Sv W=>Lv=[(18,.int .i64 ((d:Nat):Int))]/\Sv=[]/\W.ownsRow w.heap.size 3 1 (.slice (some ⟨n13,0,none⟩) bn bn) bn (ivs (sumR x f bn d 0))) ⟨_,_,F.u,G.u,rfl,rfl,(G.o 0)⟩ ?_
 clear F G;rintro d _ w4 _ _ hi1 ⟨rfl,rfl,oo⟩ F G;replace G:=(G.z).co oo;refine wR λk5=>(F.y F.ls) λF=>k5<|wQ λk6=>F.ci (λhc19=>?_) (λhc19=>?_)
 ·refine Yi<|k6<|wQ λk7=>Yh<|wQ λk8=>?_
  obtain⟨la,lca,hla,hlr⟩:=HX.out.d.2 _ (Z5 (.bool true,[]) (show d<x.D.length by omega));have hlen:=(HV.out.dl _ (Z5 (.bool true,[]) (show d<x.D.length by omega))).1;have hlb:(x.D.getD d (.bool true,[])).2.length=bn:=by omega
  have HLR:=Lib.hid (Z7 hlr 0);refine Yg<|(F.m) λF=>(F.ix HD.out d) λxr9 F=>(F.y (F.l1 (xr9 _ (G.e 3)) 0)) λF=>?_
  rw[hla]at F;refine(F.m) λF=>(F.m) λF=>k8<|wR λk10=>(F.m) λF=>(F.y F.ln) λF=>(F.m) λF=>k10<|Yh<|lpB (F.b [3,5,6,16,17,18,23,24]) (G.b [1,2,3]) bn (λi Lv Sv W=>Lv=[(25,.int .i64 ((i:Nat):Int))]/\Sv=[]/\W.ownsRow w.heap.size 3 1 (.slice (some ⟨n13,0,none⟩) bn bn) bn (ivs (sumR x f bn d i))) ⟨_,_,F.u,G.u,rfl,rfl,(G.o 0)⟩ ?_
  clear F G;rintro i _ w5 _ _ hi2 ⟨rfl,rfl,oo⟩ F G;replace G:=(G.z).co oo;refine wR λk11=>(F.y F.ls) λF=>k11<|wQ λk12=>F.ci (λhc26=>?_) (λhc26=>?_)
  ·refine Yi<|k12<|wQ λk13=>Yh<|wR λk14=>(F.m) λF=>(F.ix HLR.out i) λxr15 F=>(F.y (F.l1 (xr15 _ (G.e 3)) 0)) λF=>(F.m) λF=>(F.m) λF=>k14 ?_
   have hml:=Z7W x f bn d i;have hmk:=Z7V x f d (show i<bn by omega);have hst:=Z7X x f d (show i<bn by omega);have oo:=G.o 0;have HS:=Lib.hid (ZH oo hml.symm [] sU);have hil:=Z1i (sumR x f bn d i);obtain⟨hf0,hf1⟩:=HF.out d oM;obtain⟨hg0,hg1⟩:=Zau HV.out (show d<x.D.length by omega) i;simp only[val,Vm.dye]at hg0 hg1;obtain⟨hp0,hp1⟩:=Z8H hf0 oM hg0 oM;obtain⟨ht0,ht1⟩:=Z5J HV.out HF.out i (show d<=x.D.length by omega);replace G:=G.hr [];refine(wX 11 G) λG=>(F.sm) λF=>(F.sm) λF=>?_;obtain⟨xb16,xo16,xa16,xr16⟩:=HS.out i oM;refine(F.s (F.is 1 xa16)) λF=>(F.s (F.l1 (xr16 _ (G.e 0)) 0)) λF=>(F.sm) λF=>(F.s (F.ia 4 1)) λF=>(F.s (F.lw (Z2v (G.q 2) (k:=d) rfl oM))) λF=>(F.sm) λF=>(F.s F.ml) λF=>(F.s F.ad) λF=>?_;obtain⟨xb17,xo17,xa17,xr17⟩:=HS.out i oM;refine(F.s (F.is 1 xa17)) λF=>wpStill_nil ?_;replace G:=G.d 0;obtain⟨⟨u0,hcu⟩,hfu,hst⟩:=Z1n (G.o 0) xa17 (j:=i) (p:=xo17+((i:Nat):Int).toNat*1) (by first | omega | (simp;omega)) oM;refine Z3S rfl (F.want rfl) (ZW rfl (F.at rfl) (F.at rfl) rfl kR hcu hfu) ?_;intro w7 hw;obtain⟨hown',hg⟩:=hst _ _ hw;replace G:=G.gr 0 hg hown';clear hst hcu hfu hw hg hown';have oo:=G.o 0;rw[Z1j,hmk,show tonE x f i d+f d*(x.D.getD d (.bool true,[])).2.getD i 0=tonE x f i (d+1) from rfl,hst]at oo;replace G:=G.rO 0 oo;clear oo;refine k13<|Yg<|(F.y F.ad) λF=>(F.m) λF=>?_
   show _/\_;exact⟨oM,_,_,F.u,G.u,rfl,rfl,(G.o 0)⟩
  ·refine wp_exit ?_;have oo:=G.o 0;rw[show i=bn by omega,Z5E]at oo;replace G:=G.rO 0 oo;clear oo;refine k7<|Yg<|(F.y F.ad) λF=>(F.m) λF=>?_
   show _/\_;exact⟨oM,_,_,F.u,G.u,rfl,rfl,(G.o 0)⟩
 ·refine wp_exit ?_;have oo:=G.o 0;rw[show d=x.D.length by omega,Z7U]at oo;replace G:=G.rO 0 oo;clear oo;refine k3<|wR λk18=>(F.m) λF=>(F.m) λF=>k18<|(F.r1) ?_
  have oo:=G.o 0;exact⟨_,rfl,oo,(G.e 3)⟩
end
end Go.Proofs.YtfelljbfeoplhaaGreat
