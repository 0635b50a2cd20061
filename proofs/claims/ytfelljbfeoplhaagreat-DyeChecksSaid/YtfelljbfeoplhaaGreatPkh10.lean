/- Parts of a proof: Eb, Eg, LDyeChecks, Em, Ef, FrDyeChecks, ClDyeChecks. No conditions. -/
import Derived.ChangeOld
import Derived.ChangeSlices
import Derived.Conc.HoldsTime
import Derived.OpenShut
import Derived.ShutString
import Derived.Test.YtfelljbfeoplhaaGreatPkh9
set_option linter.unusedVariables false
set_option linter.unusedSimpArgs false
set_option linter.unusedSectionVars false
set_option maxRecDepth 100000
set_option maxHeartbeats 4000000
namespace Go.Proofs.YtfelljbfeoplhaaGreat
variable{b n:Nat}{W w:Go.World}{a:Option Go.Addr}{T e t:Go.TypeId}{fz:Nat×Nat}{cs l:List Go.Value}{v:Go.Value}
section
open Go.RowKit
variable{μ:Nat}
theorem Zel(x:Vm)(sd:Zd x.D)(sl:Zd x.L)(l:List Int)(hl:l.length<=1000)(a:Option Addr)(c:Nat)(w:World)(h:x.At w)(hr:Z6 w (.slice a l.length c) 1 (l.map Z4)):
  Calls (Qy.prog μ) 34 #[.agg x.vc,.slice a l.length c] w (Z2x (sumV x l) w):=by
 have E:=Ext.refl [] w;have HX:=Lib.hid h;have HR:=Lib.hid hr;clear h hr;obtain⟨e1,he1⟩:∃e1,e1=x.err:=⟨_,rfl⟩;have hcor:sumE x l=if e1≠0 then e1 else rcpE x l:=by subst he1;rfl
 have G:=(Bk.nil w).ce E;refine(ent 25 Tryz.f34 rfl) λF=>wR λk1=>(F.bx G) λyy F G=>(F.m) λF=>(F.m) λF=>(F.m) λF=>k1<|wQ λk2=>wR λk3=>(F.y (F.lb (G.q 0))) λF=>(F.k (Z2B x _ (HX.out.ext (G.e 1)) sd sl)) ?_
 rintro _ w2 ⟨rfl,e9⟩;refine kG G e9 λF G=>?_;rw[show chkE x.B (x.D.map (·.2)) (x.L.map (·.2)) x.tol=e1 from he1.symm]at F;refine(F.m) λF=>k3<|wR λk4=>(F.m) λF=>(F.y F.ne) λF=>k4<|F.ci (λhc12=>?_) (λhc12=>?_)
 ·rw[if_pos hc12]at hcor;refine wR λk5=>(F.m) λF=>(F.m) λF=>(F.m) λF=>(F.m) λF=>k5<|(F.r3) ?_
  exact Z24 (by rw[hcor];exact hc12) ⟨by rw[hcor],(G.e 1)⟩
 ·rw[if_neg hc12]at hcor;refine Yi<|k2<|wQ λk6=>wR λk7=>(F.y (F.lb (G.q 0))) λF=>(F.m) λF=>(F.k0 G (Z37 x sd.1 l hl a c _ (HR.out.ext (G.e 1) sU))) @λw3 _ F G=>(F.m) λF=>k7<|wR λk8=>(F.m) λF=>(F.y F.ne) λF=>k8<|F.ci (λhc18=>?_) (λhc18=>?_)
  ·refine wR λk9=>(F.m) λF=>(F.m) λF=>(F.m) λF=>(F.m) λF=>k9<|(F.r3) ?_
   exact Z24 (by rw[hcor];exact hc18) ⟨by rw[hcor],(G.e 1)⟩
  ·have hc0:sumE x l=0:=hcor.trans (Classical.not_not.1 hc18);have HV:=Lib.hid (Z7S hc0).1;have HT:=Lib.hid (Z7S hc0).2;have htl:=HT.out.len;have hb1:=HV.out.b1;obtain⟨bn,hbn⟩:∃bn:Nat,x.B=bn:=⟨x.B.toNat,oM⟩;refine Yi<|k6<|wR λk10=>(F.y (F.lb (G.q 0))) λF=>(F.m) λF=>?_
   obtain⟨B1,hB1⟩:∃B1,B1=w3.heap.size:=⟨_,rfl⟩;have hB1w:w.heap.size<=B1:=by rw[hB1];exact(G.e 1).size
   refine(F.k (Zat (μ:=μ) x HV.out bn hbn l htl HT.out.bd a c _ (HX.out.ext (G.e 1)) (HR.out.ext (G.e 1) sU))) ?_;rintro _ w4 ⟨u,rfl,uo,e9⟩;refine kG G e9 λF G=>?_;rw[<-hB1]at uo;replace G:=G.co uo;refine(F.m) λF=>(F.k0 G (Z2C (μ:=μ) l a c _ (HR.out.ext (G.e 2) sU) hl (λn hn=>by have:=HT.out.bd n hn;omega))) λF G=>(F.m) λF=>(F.m) λF=>(F.m) λF=>k10<|(F.r3) ?_
   have uo:=G.o 0;exact Z96 HV.out HT.out hc0 hbn ⟨u,rfl,Za uo hB1w,(G.e 2)⟩
theorem Zgr(x:Vm)(sd:Zd x.D)(sl:Zd x.L)(n:Int)(l:List Int)(hl:l.length<=1000)(s:List Int)(hs:s.length<=1000)(a b:Option Addr)(c d:Nat)(w:World)(h:x.At w)(hr:Z6 w (.slice a l.length c) 1 (l.map Z4))(hq:Z6 w (.slice b s.length d) 1 (s.map Z4)):
  Calls (Qy.prog μ) 36 #[.agg x.vc,.int .i64 n,.slice a l.length c,.slice b s.length d] w λe w'=>e = .returned (.tuple #[.int .i64 (offV x n l s).1,.int .i64 (offV x n l s).2])/\Ext [] w w':=by
 have E:=Ext.refl [] w;have HX:=Lib.hid h;have HR:=Lib.hid hr;have HQ:=Lib.hid hq;have hll:=sl.1;clear h hr hq;obtain⟨e1,he1⟩:∃e1,e1=x.err:=⟨_,rfl⟩;obtain⟨bb,hbb⟩:∃bb,bb=outB n 0 (((x.L.length:Nat):Int)-1):=⟨_,rfl⟩;have hcor:offR x n l s=if e1≠0 then e1 else if Z5d x n≠0 then Z5d x n else if rcpE x l≠0 then rcpE x l else cntE s x.B 9:=by subst he1;rfl
 have hlo:Z5d x n=if bb=true then 3 else 0:=by subst hbb;rfl
 have G:=(Bk.nil w).ce E;refine(ent 43 Tryz.f36 rfl) λF=>wR λk1=>(F.bx G) λyy F G=>(F.m) λF=>(F.m) λF=>k1<|wQ λk2=>wR λk3=>(F.y (F.lb (G.q 0))) λF=>(F.k (Z2B x _ (HX.out.ext (G.e 1)) sd sl)) ?_
 rintro _ w2 ⟨rfl,e9⟩;refine kG G e9 λF G=>?_;rw[show chkE x.B (x.D.map (·.2)) (x.L.map (·.2)) x.tol=e1 from he1.symm]at F;refine(F.m) λF=>k3<|wR λk4=>(F.m) λF=>(F.y F.ne) λF=>k4<|F.ci (λhc16=>?_) (λhc16=>?_)
 ·rw[if_pos hc16]at hcor;refine wR λk5=>(F.m) λF=>(F.m) λF=>(F.m) λF=>k5<|(F.r2) ?_
  rw[offV,if_neg (by rw[hcor];exact hc16),hcor];exact⟨rfl,(G.e 1)⟩
 ·rw[if_neg hc16]at hcor;refine Yi<|k2<|wQ λk6=>wR λk7=>(F.m) λF=>(F.y (F.fd 2)) λF=>(F.y (F.lc (G.q 0))) λF=>(F.y F.ln) λF=>(F.y F.sb) λF=>(F.k (Z0X n 0 (((x.L.length:Nat):Int)-1) _)) ?_
  rintro _ w3 ⟨rfl,e9⟩;refine kG G e9 λF G=>?_;rw[show (!outB n 0 (((x.L.length:Nat):Int)-1)) = !bb by rw[hbb]]at F;refine(F.y F.nb) λF=>k7<|F.cb (λhc24=>?_) (λhc24=>?_)
  ·have hb1:bb=true:=by simpa using hc24
   rw[if_pos hb1]at hlo;rw[if_pos (by rw[hlo];decide),hlo]at hcor;refine wR λk8=>(F.m) λF=>(F.m) λF=>k8<|(F.r2) ?_
   rw[offV,if_neg (by rw[hcor];decide),hcor];exact⟨rfl,(G.e 1)⟩
  ·have hb1:bb=false:=by simpa using hc24
   rw[hb1,if_neg dC]at hlo;rw[if_neg (by simpa using hlo)]at hcor;refine Yi<|k6<|wQ λk9=>wR λk10=>(F.y (F.lb (G.q 0))) λF=>(F.m) λF=>(F.k0 G (Z37 x sd.1 l hl a c _ (HR.out.ext (G.e 1) sU))) λF G=>(F.m) λF=>k10<|wR λk11=>(F.m) λF=>(F.y F.ne) λF=>k11<|F.ci (λhc29=>?_) (λhc29=>?_)
   ·rw[if_pos hc29]at hcor;refine wR λk12=>(F.m) λF=>(F.m) λF=>(F.m) λF=>k12<|(F.r2) ?_
    rw[offV,if_neg (by rw[hcor];exact hc29),hcor];exact⟨rfl,(G.e 1)⟩
   ·rw[if_neg hc29]at hcor;refine Yi<|k9<|wQ λk13=>wR λk14=>(F.m) λF=>(F.y (F.fd 0)) λF=>(F.y (F.lc (G.q 0))) λF=>(F.k0 G (Z2a s x.B 9 b d _ (HQ.out.ext (G.e 1) sU) hs)) λF G=>(F.m) λF=>k14<|wR λk15=>(F.m) λF=>(F.y F.ne) λF=>k15<|F.ci (λhc36=>?_) (λhc36=>?_)
    ·refine wR λk16=>(F.m) λF=>(F.m) λF=>(F.m) λF=>k16<|(F.r2) ?_
     rw[offV,if_neg (by rw[hcor];exact hc36),hcor];exact⟨rfl,(G.e 1)⟩
    ·have hc0:offR x n l s=0:=hcor.trans (Classical.not_not.1 hc36);obtain⟨hv,⟨hn0,hn1⟩,ht,hsm⟩:=Ze7 hc0;obtain⟨k,hk⟩:∃k:Nat,n=k:=⟨n.toNat,oM⟩;have htl:=ht.len;refine Yi<|k13<|wR λk17=>(F.y (F.lb (G.q 0))) λF=>(F.m) λF=>?_
     rw[hk]at F;refine(F.m) λF=>(F.m) λF=>(F.k0 G (Zd8 (μ:=μ) x hv k oM l htl ht.bd s hsm a b c d _ (HX.out.ext (G.e 1)) (HR.out.ext (G.e 1) sU) (HQ.out.ext (G.e 1) sU))) λF G=>(F.m) λF=>(F.m) λF=>k17<|(F.r2) ?_
     rw[offV,if_pos hc0,hk];exact⟨rfl,(G.e 1)⟩
theorem Zg5{x:Vm}{f s:Nat->Int}{k:Nat}: matE x f s [((k:Nat):Int)]=decide (max (offE x k f s) (-offE x k f s)<=x.tol*prt f):=by
 simp[matE]
theorem Zgq(x:Vm)(sd:Zd x.D)(sl:Zd x.L)(l:List Int)(hl:l.length<=1000)(s:List Int)(hs:s.length<=1000)(a b:Option Addr)(c d:Nat)(w:World)(h:x.At w)(hr:Z6 w (.slice a l.length c) 1 (l.map Z4))(hq:Z6 w (.slice b s.length d) 1 (s.map Z4)):
  Calls (Qy.prog μ) 39 #[.agg x.vc,.slice a l.length c,.slice b s.length d] w (Z3k (matL2 x l s,matR x l s) w):=by
 have E:=Ext.refl [] w;have HX:=Lib.hid h;have HR:=Lib.hid hr;have HQ:=Lib.hid hq;have hll:=sl.1;clear h hr hq;obtain⟨e1,he1⟩:∃e1,e1=x.err:=⟨_,rfl⟩;have hcor:matR x l s=if e1≠0 then e1 else if rcpE x l≠0 then rcpE x l else cntE s x.B 9:=by subst he1;rfl
 have oo:w.ownsRow w.heap.size 3 1 (.slice none 0 0) 0 (ivs ((((List.range x.L.length).take 0).filter λk=>matE x (val l) (val s) [((k:Nat):Int)]).map λn=>((n:Nat):Int))):=World.ownsRow_nil _ _ _ _;have G:=(Bk.nil w).ce E;replace G:=G.co oo;refine(ent 48 Tryz.f39 rfl) λF=>wR λk1=>(F.bx G) λyy F G=>(F.m) λF=>(F.m) λF=>k1<|wQ λk2=>wR λk3=>(F.y (F.lb (G.q 0))) λF=>(F.k (Z2B x _ (HX.out.ext (G.e 2)) sd sl)) ?_
 rintro _ w2 ⟨rfl,e9⟩;refine kG G e9 λF G=>?_;rw[show chkE x.B (x.D.map (·.2)) (x.L.map (·.2)) x.tol=e1 from he1.symm]at F;refine(F.m) λF=>k3<|wR λk4=>(F.m) λF=>(F.y F.ne) λF=>k4<|F.ci (λhc16=>?_) (λhc16=>?_)
 ·rw[if_pos hc16]at hcor;refine wR λk5=>(F.m) λF=>(F.m) λF=>(F.m) λF=>k5<|(F.r2) ?_
  rw[matL2,if_neg (by rw[hcor];exact hc16),hcor];exact⟨none,0,rfl,World.ownsRow_nil _ _ _ _,(G.e 2)⟩
 ·rw[if_neg hc16]at hcor;refine Yi<|k2<|wQ λk6=>wR λk7=>(F.y (F.lb (G.q 0))) λF=>(F.m) λF=>(F.k0 G (Z37 x sd.1 l hl a c _ (HR.out.ext (G.e 2) sU))) λF G=>(F.m) λF=>k7<|wR λk8=>(F.m) λF=>(F.y F.ne) λF=>k8<|F.ci (λhc22=>?_) (λhc22=>?_)
  ·rw[if_pos hc22]at hcor;refine wR λk9=>(F.m) λF=>(F.m) λF=>(F.m) λF=>k9<|(F.r2) ?_
   rw[matL2,if_neg (by rw[hcor];exact hc22),hcor];exact⟨none,0,rfl,World.ownsRow_nil _ _ _ _,(G.e 2)⟩
  ·rw[if_neg hc22]at hcor;refine Yi<|k6<|wQ λk10=>wR λk11=>(F.m) λF=>(F.y (F.fd 0)) λF=>(F.y (F.lc (G.q 0))) λF=>(F.k0 G (Z2a s x.B 9 b d _ (HQ.out.ext (G.e 2) sU) hs)) λF G=>(F.m) λF=>k11<|wR λk12=>(F.m) λF=>(F.y F.ne) λF=>k12<|F.ci (λhc29=>?_) (λhc29=>?_)
   ·refine wR λk13=>(F.m) λF=>(F.m) λF=>(F.m) λF=>k13<|(F.r2) ?_
    rw[matL2,if_neg (by rw[hcor];exact hc29),hcor];exact⟨none,0,rfl,World.ownsRow_nil _ _ _ _,(G.e 2)⟩
   ·have hc0:matR x l s=0:=hcor.trans (Classical.not_not.1 hc29);obtain⟨hv,ht,hsm⟩:=Z7t hc0;have htl:=ht.len;have HV:=Lib.hid hv;have HT:=Lib.hid ht;have HS:=Lib.hid hsm;clear hv ht hsm;refine Yi<|k10<|wR λk14=>(F.m) λF=>k14<|wQ λk15=>wR λk16=>(F.m) λF=>k16<|Yh<|lpB (F.b [1,2,3]) (G.b [0,2]) x.L.length (λi Lv Sv W=>∃va:Option Addr,∃k:Nat,∃vc:Nat,Lv=[(11,.slice va k vc),(12,.int .i64 ((i:Nat):Int))]/\Sv=[]/\W.ownsRow w.heap.size 3 1 (.slice va k vc) k (ivs ((((List.range x.L.length).take i).filter λk=>matE x (val l) (val s) [((k:Nat):Int)]).map λn=>((n:Nat):Int)))/\k=((((List.range x.L.length).take i).filter λk=>matE x (val l) (val s) [((k:Nat):Int)]).map λn=>((n:Nat):Int)).length/\k<=i) ⟨_,_,F.u,G.u,none,0,0,rfl,rfl,(G.o 1),rfl,(Ye _)⟩ ?_
    clear F G;rintro i _ w5 _ _ hi1 ⟨va,k,vc,rfl,rfl,oo,hkl,hk6⟩ F G;replace G:=(G.z).co oo;refine wQ λk17=>wR λk18=>(F.m) λF=>(F.y (F.fd 2)) λF=>(F.y (F.lc (G.q 1))) λF=>(F.y F.ln) λF=>(F.y F.ls) λF=>k18<|F.ci (λhc35=>?_) (λhc35=>?_)
    ·refine Yi<|k17<|wQ λk19=>Yh<|wR λk20=>(F.y (F.lb (G.q 1))) λF=>(F.m) λF=>(F.m) λF=>(F.m) λF=>(F.k (Z9t (μ:=μ) x HV.out i oM l htl HT.out.bd s HS.out a b c d _ (HX.out.ext (G.e 2)) (HR.out.ext (G.e 2) sU) (HQ.out.ext (G.e 2) sU))) ?_
     rintro _ w6 ⟨rfl,e9⟩;refine kG G e9 λF G=>?_;rw[<-Zg5]at F;refine k20<|F.cb (λhc42=>?_) (λhc42=>?_)
     ·have hst:=Z1A (β:=λk=>matE x (val l) (val s) [((k:Nat):Int)]) (show i<x.L.length by omega);rw[if_pos hc42]at hst;refine Yg<|(F.m) λF=>(F.m) λF=>(F.bs G 1 #[.int .i64 ((i:Nat):Int)] Qy.zeroValue3) λyy F G=>?_
      have hEs:=(G.e 3).size;refine Zx F rfl dC (F.want rfl) (ZE rfl w.heap.size (e:=3) (size:=1) (bytes:=8) Qy.underlying22 kR dC (F.at rfl) (G.o 1) (F.at rfl) (G.q 0) rfl (by simp[Value.oneCell']) oM oM oM) ?_;clear F;rintro _ v' w8 F ⟨hown',hg⟩;obtain⟨va46,vc46,rfl⟩:=Zm hown';replace G:=(G.d 0).gr 0 hg hown';clear hg hown';have oo:=G.o 0;rw[Z0z,show ((((List.range x.L.length).take i).filter λk=>matE x (val l) (val s) [((k:Nat):Int)]).map λn=>((n:Nat):Int))++[((i:Nat):Int)]=(((List.range x.L.length).take (i+1)).filter λk=>matE x (val l) (val s) [((k:Nat):Int)]).map λn=>((n:Nat):Int) by rw[hst,List.map_append];rfl]at oo;replace hkl:k+1=((((List.range x.L.length).take (i+1)).filter λk=>matE x (val l) (val s) [((k:Nat):Int)]).map λn=>((n:Nat):Int)).length:=by rw[hst,List.map_append,Ym,<-hkl];rfl
      replace G:=G.rO 0 oo;clear oo;refine(F.m) λF=>k19<|Yg<|(F.m) λF=>(F.y F.ad) λF=>(F.m) λF=>?_
      show _/\_;exact⟨oM,_,_,F.u,G.u,_,_,_,rfl,rfl,(G.o 0),hkl,oM⟩
     ·have hst:=Z1A (β:=λk=>matE x (val l) (val s) [((k:Nat):Int)]) (show i<x.L.length by omega);rw[if_neg (by simpa using hc42),List.append_nil]at hst;have oo:=G.o 0;rw[<-hst]at oo hkl;replace G:=G.rO 0 oo;clear oo;refine Yi<|k19<|Yg<|(F.m) λF=>(F.y F.ad) λF=>(F.m) λF=>?_
      show _/\_;exact⟨oM,_,_,F.u,G.u,_,_,_,rfl,rfl,(G.o 0),hkl,oM⟩
    ·refine wp_exit ?_;have oo:=G.o 0;rw[List.take_of_length_le (show (List.range x.L.length).length<=i by rw[List.length_range];omega)]at oo hkl;replace hkl:k=(Z1d x.L.length λk=>matE x (val l) (val s) [((k:Nat):Int)]).length:=hkl;replace oo:w5.ownsRow w.heap.size 3 1 (.slice va k vc) k (ivs (Z1d x.L.length λk=>matE x (val l) (val s) [((k:Nat):Int)])):=oo;replace G:=G.rO 0 oo;clear oo;refine k15<|wR λk21=>(F.m) λF=>(F.m) λF=>(F.m) λF=>k21<|(F.r2) ?_
     have oo:=G.o 0;rw[matL2,if_pos hc0,hc0];subst hkl;exact⟨va,vc,rfl,oo,(G.e 2)⟩
variable{μ:Nat}
theorem SameV.err{y x:Vm}(h:SameV y x):y.err=x.err:=by rw[Vm.err,Vm.err,h.B,h.D,h.L,h.tol]
theorem SameV.rcp{y x:Vm}(h:SameV y x)(l:List Int):rcpE y l=rcpE x l:=by rw[rcpE,rcpE,h.dl]
theorem SameV.mat1{y x:Vm}(h:SameV y x)(f s:Nat->Int)(ls:List Int):matE y f s ls=matE x f s ls:=by
 rw[matE,matE];congr 1;funext l;rw[h.off,h.tol]
theorem SameV.sumV{y x:Vm}(h:SameV y x)(l:List Int):Go.Proofs.YtfelljbfeoplhaaGreat.sumV y l=Go.Proofs.YtfelljbfeoplhaaGreat.sumV x l:=by
 have ht:∀f bn,sumL y f bn=sumL x f bn:=λf bn=>by
  rw[sumL,sumL];congr 1;funext j;rw[h.dl,h.ton]
 have h1:sumE y l=sumE x l:=by rw[sumE,sumE,h.err,h.rcp]
 unfold Go.Proofs.YtfelljbfeoplhaaGreat.sumV;rw[h1,ht,h.B]
theorem SameV.offV{y x:Vm}(h:SameV y x)(n:Int)(t s:List Int):Go.Proofs.YtfelljbfeoplhaaGreat.offV y n t s=Go.Proofs.YtfelljbfeoplhaaGreat.offV x n t s:=by
 have h1:offR y n t s=offR x n t s:=by rw[offR,offR,h.err,h.rcp,h.B,Z5d,Z5d,h.ll]
 unfold Go.Proofs.YtfelljbfeoplhaaGreat.offV;rw[h1,h.off]
theorem SameV.matR{y x:Vm}(h:SameV y x)(l s:List Int):Go.Proofs.YtfelljbfeoplhaaGreat.matR y l s=Go.Proofs.YtfelljbfeoplhaaGreat.matR x l s:=by
 rw[Go.Proofs.YtfelljbfeoplhaaGreat.matR,Go.Proofs.YtfelljbfeoplhaaGreat.matR,h.err,h.rcp,h.B]
theorem SameV.matL2{y x:Vm}(h:SameV y x)(l s:List Int):Go.Proofs.YtfelljbfeoplhaaGreat.matL2 y l s=Go.Proofs.YtfelljbfeoplhaaGreat.matL2 x l s:=by
 unfold Go.Proofs.YtfelljbfeoplhaaGreat.matL2;rw[h.matR,h.ll];congr 2;funext k;rw[h.mat1]
theorem Zh2(x:Vm)(l:List Int):(sumV x l).1.length<=1000:=by
 unfold sumV;split
 ·rename_i h;have h3:=(Z7S h).1.b3;simp only[sumL,Yj,List.length_range];omega
 ·simp
theorem Z4F(l:List Int):decide (l=l)=true:=decide_eq_true rfl
theorem ZjZ{X:List Vm}{i:Nat}(h:i<X.length): vsI X i∈X:=Z5 vm0 h
theorem Zbb{sz: Nat}{row:Nat->List Value}(h:∀W,Ext [b] w W->SlAt [] W a sz n row): SlAt [b] w a sz n row:=λi hi=>by
 obtain⟨c,off,h1,-⟩:=h w (Ext.refl _ _) i hi;refine⟨c,off,h1,λW hW=>?_⟩;obtain⟨c2,off2,h3,h4⟩:=h W hW i hi;have:=(h1 0 0).symm.trans (h3 0 0);simp only[Value.slice.injEq,Y4,Addr.mk.injEq]at this;obtain⟨⟨rfl,rfl,-⟩,-⟩:=this;exact h4 W (Ext.refl _ _)
theorem Zgs{c: Nat}{zs:List Int}(h:Z40 .i64 w a n c zs)(e:Ext [] w W): Z40 .i64 W a n c zs:=by
 rcases h with h | ⟨x,rfl,hl,hm,hz,hc,hw⟩
 ·exact .inl h
 ·refine .inr ⟨x,rfl,hl,hm,hz,λi hi=>?_,hw⟩;have:=hc i hi;have hb:(x.add i).block<w.heap.size:=by
   unfold World.cell? at this;cases hq:w.heap[(x.add i).block]? with
   | none=>simp[hq]at this
   | some o=>exact(Y0.1 hq).1
  rw[e.cell hb sU];exact this
theorem Zdu{v1 v2 v3 v4:Value}{l1 l2 l3 l4:List Int}(h:w.heap[b]?=some (.cells #[v1,v2,v3,v4] T fz))(r1:Z0w w v1 l1)(r2:Z0w w v2 l2)(r3:Z0w w v3 l3)(r4:Z0w w v4 l4)(b1:l1.length<=20)(b2:l2.length<=20)(b3:l3.length<=20)(b4:l4.length<=20): ∃R:List (Value×List Int),R.length=4/\(∀p∈R,p.2.length<=20)/\ZL w (some ⟨b,0,none⟩) R:=
 ⟨[(v1,l1),(v2,l2),(v3,l3),(v4,l4)],rfl,λp hp=>by
  simp only[Yc,Ya,or_false]at hp;rcases hp with rfl | rfl | rfl | rfl<;>assumption,Z7p [(v1,l1),(v2,l2),(v3,l3),(v4,l4)] h λp hp=>by
  simp only[Yc,Ya,or_false]at hp;rcases hp with rfl | rfl | rfl | rfl<;>assumption⟩
theorem ZfL{a1 a2 a3 a4:Int}(h:w.heap[b]?=some (.cells #[.int .i64 a1,.int .i64 a2,.int .i64 a3,.int .i64 a4] T fz)): ∃R:List Int,R.length=4/\SlAt [] w (some ⟨b,0,none⟩) 1 4 (λi=>[.int .i64 (R.getD i 0)]):=
 ⟨[a1,a2,a3,a4],rfl,Z7 (Z8P (xs:=[a1,a2,a3,a4]) (row:=Z4) h (sz:=1) (λ_=>rfl)) 0⟩
end
section
open Go.RowKit Ev
variable{μ:Nat}
theorem lawW(x:Vm)(n0:Int)(r s:List Int)(ra sa na:Option Addr)(rc sc nn nc:Nat)(z:List Int)(w:World)(hx:x.At w)(hr:Z6 w (.slice ra r.length rc) 1 (r.map Z4))(hs:Z6 w (.slice sa s.length sc) 1 (s.map Z4))(hn:Z40 .i64 w na nn nc z):
  Calls (Qy.prog 0) 6 #[.agg x.vc,.int .i64 n0,.slice ra r.length rc,.slice sa s.length sc,.slice na nn nc] w λe w'=>Lift.LawV Lift.PreL e w':=by
 have E:=Ext.refl [] w;have HX:=Lib.hid hx;have HR:=Lib.hid hr;have HS:=Lib.hid hs;have HN:=Lib.hid hn;clear hx hr hs hn;have G:=(Bk.nil w).ce E;refine(ent 254 Tryz.f6 rfl) λF=>wR λk1=>(F.bx G) λyy F G=>(F.m) λF=>k1<|wQ λk2=>wR λk3=>(F.y (F.lb (G.q 0))) λF=>(F.k0 G (Zg2 (μ:=0) x _ (HX.out.ext (G.e 1)))) λF G=>(F.m) λF=>?_
 cases hg1:(ZdT x)
 ·replace F:=F.re (k:=34) rfl (congrArg Value.bool hg1);refine(F.m) λF=>(F.y F.ln) λF=>(F.y F.gt) λF=>(F.y F.pF) λF=>(F.m) λF=>?_;by_cases hg2:(20<((r.length:Nat):Int))
  ·replace F:=F.re (k:=39) rfl (congrArg Value.bool (decide_eq_true hg2));refine(F.n) λF=>(F.n) λF=>(F.n) λF=>(F.y F.pT) λF=>k3<|(F.cT)<|wR λk4=>(F.k0 G (Z2E (μ:=0) _)) λF G=>(F.m) λF=>k4<|(F.r1) ?_
   exact .inl rfl
  ·replace F:=F.re (k:=39) rfl (congrArg Value.bool (decide_eq_false hg2));refine(F.m) λF=>(F.y F.ln) λF=>(F.y F.gt) λF=>(F.y F.pF) λF=>k3<|F.ci (λhc43=>?_) (λhc43=>?_)
   ·refine wR λk5=>(F.k0 G (Z2E (μ:=0) _)) λF G=>(F.m) λF=>k5<|(F.r1) ?_
    exact .inl rfl
   ·obtain⟨⟨hD1,hD2⟩,⟨hL1,hL2⟩⟩:=Zg1 (by simpa using hg1);have hrl:r.length<=20:=by omega
    have hsl:s.length<=20:=by omega
    have SD:Zd x.D:=⟨oM,λp hp=>by have:=hD2 p hp;omega⟩;have SL:Zd x.L:=⟨oM,λp hp=>by have:=hL2 p hp;omega⟩;refine Yi<|k2<|wR λk6=>(F.m) λF=>?_
    have HXN:=Lib.hid (HX.out.ext (G.e 1));have hzE:=(G.e 1).size;have hz5:=Z8 (G.q 0);refine(F.k (Z9T (μ:=0) _ na nn nc z (Zgs HN.out (G.e 1)))) ?_;rintro _ w5 ⟨b,rfl,hbw0,hbw1,HL,e9⟩;refine⟨_,rfl,λF=>?_⟩;replace G:=(G.ex e9).cl HL;refine(F.m) λF=>k6<|wR λk7=>(F.y (F.lb (G.q 1))) λF=>(F.m) λF=>(F.k (Zgx (μ:=0) x SD SL _ _ b _ _ (G.l 0) oM HXN.out)) ?_
    rintro _ w6 ⟨va,y,z2,rfl,hv,hzd,hzl,hvs,HL,e9⟩;refine(kL G 0 e9 HL) λF G=>?_;obtain⟨X,hXe⟩:∃X,X=[x,y,z2,y]:=⟨_,rfl⟩;rw[<-hXe]at hvs;have hX4:X.length=4:=(by rw[hXe];rfl);have hX1:vsI X 1=y:=(by rw[hXe];rfl);have HV:=Lib.hid hv;have hSm:RowKit.Hid (∀u∈X,Zd u.D/\Zd u.L):=Lib.hid (λu hu=>(by rw[hXe]at hu;simp only[Yc,Ya,or_false]at hu;rcases hu with rfl | rfl | rfl | rfl;(· exact⟨SD,SL⟩);(· exact⟨hv.sd,hv.sl⟩);(· exact⟨hzd,hzl⟩);(· exact⟨hv.sd,hv.sl⟩)));have hym:y∈X:=(by rw[hXe];simp);have HVB:=Lib.hid hvs;have HVS:=Lib.hid (Zbb (λW hW=>(by have:=Z7 (hvs W hW).rows vm0;exact this)));rw[hX4]at HVS;clear hv hvs hXe hzd hzl;replace G:=G.hr [b];refine(F.m) λF=>k7<|wQ λk8=>?_
    have G2:=G;refine(wD [b] none G) @λw7 G=>(F.z 0 (G.t 0) F.mo) λF=>(F.z 1 (G.t 0) F.mo) λF=>?_;obtain⟨xb9,xo9,xa9,xr9⟩:=HVS.out 1 oM;refine(F.z 2 (G.t 0) (F.is 4 xa9)) λF=>(F.zr 3 (G.t 0) λhS=>F.lr (xr9 _ ((G2.e 0).trans hS))) λF=>?_;replace F:=F.re (k:=53) rfl (show Value.agg (vsI X 1).vc = .agg y.vc by rw[hX1]);refine(F.z 5 (G.t 0) F.mo) λF=>(F.z 6 (G.t 0) F.mo) λF=>?_;obtain⟨xb10,xo10,xa10,xr10⟩:=HVS.out 1 oM;refine(F.z 7 (G.t 0) (F.is 4 xa10)) λF=>(F.zr 8 (G.t 0) λhS=>F.lr (xr10 _ ((G2.e 0).trans hS))) λF=>?_;replace F:=F.re (k:=58) rfl (show Value.agg (vsI X 1).vc = .agg y.vc by rw[hX1]);obtain⟨B1,hB1⟩:∃B1,B1=w7.heap.size:=⟨_,rfl⟩;have hb1:b<B1:=by rw[hB1];exact Z0l (G.l 2)
    refine(aO 4)<|(F.ok (Z4o (μ:=0) y HV.out _ _ b _ _ (G.l 2) oM)) ?_
    rintro _ w8 ⟨oa,o,rfl,ho,oo,HL,e9⟩;refine(kL G 2 e9 HL) λF G=>.intro (G.t 0) ?_;rw[<-hB1]at oo;replace G:=G.co oo;obtain⟨B2,hB2⟩:∃B2,B2=w8.heap.size:=⟨_,rfl⟩;have hb2:b<B2:=by rw[hB2];exact Z0l (G.l 3)
    refine(aO 9)<|(F.ok (Z8R (μ:=0) y HV.out _ _ b _ _ (G.l 3) oM (λW hW=>(HVB.out W ((G.e 2).trans hW)).at_ y hym))) ?_
    rintro _ w9 ⟨pa,pc,p,rfl,hp,po,HL,e9⟩;refine(kL G 3 e9 HL) λF G=>.intro (G.t 1) ?_;rw[<-hB2]at po;replace G:=G.co po;refine(F.z 10 (G.t 2) F.mo) λF=>(F.z 11 (G.t 2) F.mo) λF=>(aD) ?_;have hol:=ho.len;have hy4:=HV.out.d4;have hpl:=hp.1;have hyb:=HV.out.b3;have hyl3:=HV.out.l3;have hyl1:=HV.out.l1;have oo:=G.o 1;have HO:=Lib.hid (λW (e:Ext [b] w9 W)=>Zh (ZG oo e (by simpa using hb1)) hol.symm);have po:=G.o 0;have HP:=Lib.hid (λW (e:Ext [b] w9 W)=>Zh (ZG po e (by simpa using hb2)) rfl);have HVA:=Lib.hid (λW (e:Ext [b] w9 W)=>HVB.out W ((G.e 3).trans e));have hbD:=Z0l (G.l 4);clear ho hp HVB HVS;have HVS:=Lib.hid (show SlAt [b] w9 va 4 4 (λi=>vmC (vsI X i)) from Zbb (λW hW=>(by have:=Z7 (HVA.out W hW).rows vm0;rw[hX4]at this;exact this)));replace G:=G.hr [b];refine k8<|wQ @λK11 k11=>?_
    replace G:=G.b [0,5,6,7]
    suffices hcut:∀(n64 n69 n87:Nat) (g1 g2:Int) {fa:Act} {W:World},Has 254 [] fa [(12,.slice va 4 4),(15,.slice (some ⟨n64,0,none⟩) 4 4),(16,.slice (some ⟨n69,0,none⟩) 4 4),(17,.slice (some ⟨n87,0,none⟩) 4 4)]->Bk W [.q n87 (#[.int .i64 n0,.int .i64 g1,.int .i64 g2,.int .i64 n0]) 3,.q n69 (#[.slice sa s.length sc,.slice pa p.length pc,.slice pa p.length pc,.slice pa p.length pc]) 22,.q n64 (#[.slice ra r.length rc,.slice oa y.D.length y.D.length,.slice oa y.D.length y.D.length,.slice ra r.length rc]) 22,.e [] w,.e [b] w9]->w.heap.size<=n64/\w9.heap.size<=n64/\w.heap.size<=n69/\w9.heap.size<=n69/\w.heap.size<=n87/\w9.heap.size<=n87/\n64≠n69/\n64≠n87/\n69≠n87->K11 fa W by
     have G4:=G;refine(wD [b] (some 27) G) λG=>(F.z 0 (G.t 0) F.mo) λF=>(F.z 1 (G.t 0) F.mo) λF=>(F.z 2 (G.t 0) F.mo) λF=>(F.z 3 (G.t 0) F.mo) λF=>(F.z 5 (G.t 0) F.mo) λF=>(F.z 6 (G.t 0) F.mo) λF=>(F.z 7 (G.t 0) F.mo) λF=>(F.z 8 (G.t 0) F.mo) λF=>(F.z 10 (G.t 0) F.mo) λF=>(F.z 11 (G.t 0) F.mo) λF=>(F.z 12 (G.t 0) F.mo) λF=>?_;obtain⟨xb12,xo12,xa12,xr12⟩:=HVS.out 1 oM;refine(F.z 13 (G.t 0) (F.is 4 xa12)) λF=>(F.z 14 (G.t 0) (F.fd (xo12+(1:Int).toNat*4+2))) λF=>(F.zR 15 [16,17,18,25,27] (G.t 0) λhS=>F.l1 (xr12 _ ((G4.e 0).trans hS)) 2) λF=>?_;replace F:=F.re (k:=75) rfl (show Value.slice (vsI X 1).la (vsI X 1).L.length (vsI X 1).lc = .slice y.la y.L.length y.lc by rw[hX1]);refine(F.z 16 (G.t 0) F.ln) λF=>(F.z 17 (G.t 0) F.sb) λF=>(F.z 19 (G.t 0) F.mo) λF=>(F.z 20 (G.t 0) F.mo) λF=>?_;obtain⟨xb13,xo13,xa13,xr13⟩:=HVS.out 1 oM;refine(F.z 21 (G.t 0) (F.is 4 xa13)) λF=>(F.z 22 (G.t 0) (F.fd (xo13+(1:Int).toNat*4+2))) λF=>(F.zR 23 [24,25,27] (G.t 0) λhS=>F.l1 (xr13 _ ((G4.e 0).trans hS)) 2) λF=>?_;replace F:=F.re (k:=83) rfl (show Value.slice (vsI X 1).la (vsI X 1).L.length (vsI X 1).lc = .slice y.la y.L.length y.lc by rw[hX1]);refine(F.z 24 (G.t 0) F.ln) λF=>(F.z 26 (G.t 0) F.mo) λF=>Z6J (i:=4) (j:=9) (k:=18) kR ?_ ?_ ?_
     ·refine(F.obs G 1 #[.slice ra r.length rc,.slice oa y.D.length y.D.length,.slice oa y.D.length y.D.length,.slice ra r.length rc] Qy.zeroValue22) @λn64 w11 _ yy F G=>.intro (G.t 1)<|Z01 (i:=9) (j:=18) kR ?_ ?_
      ·refine(F.obs G 1 #[.slice sa s.length sc,.slice pa p.length pc,.slice pa p.length pc,.slice pa p.length pc] Qy.zeroValue22) @λn69 w12 _ yy F G=>.intro (G.t 2)<|(aO 18)<|(F.ok (Zk (μ:=0) _ _ b _ _ (((y.L.length:Nat):Int)-1) (G.l 4) oM oM oM)) ?_
       rintro _ w13 ⟨g1,rfl,hg10,hg11,HL,e9⟩;refine(kL G 4 e9 HL) λF G=>.intro (G.t 2)<|(aO 25)<|(F.ok (Zk (μ:=0) _ _ b _ _ ((y.L.length:Nat):Int) (G.l 4) oM oM oM)) ?_
       rintro _ w14 ⟨g2,rfl,hg20,hg21,HL,e9⟩;refine(kL G 4 e9 HL) λF G=>.intro (G.t 2)<|(F.z 28 (G.t 2) F.mo) λF=>(F.z 29 (G.t 2) F.mo) λF=>(aO 27)<|(F.obs G 1 #[.int .i64 n0,.int .i64 g1,.int .i64 g2,.int .i64 n0] Qy.zeroValue3) @λn87 w15 _ yy F G=>.intro (gone kR)<|(F.z 30 (gone kR) F.mo) λF=>(aD)<|hcut _ _ _ _ _ F.u G.u oM
      ·refine(F.ok (Zk (μ:=0) _ _ b _ _ (((y.L.length:Nat):Int)-1) (G.l 3) oM oM oM)) ?_;rintro _ w16 ⟨g1,rfl,hg10,hg11,HL,e9⟩;refine(kL G 3 e9 HL) λF G=>.intro (G.t 1)<|Z01 (i:=9) (j:=25) kR ?_ ?_
       ·refine(F.obs G 1 #[.slice sa s.length sc,.slice pa p.length pc,.slice pa p.length pc,.slice pa p.length pc] Qy.zeroValue22) @λn69 w17 _ yy F G=>.intro (G.t 2)<|(aO 25)<|(F.ok (Zk (μ:=0) _ _ b _ _ ((y.L.length:Nat):Int) (G.l 4) oM oM oM)) ?_
        rintro _ w18 ⟨g2,rfl,hg20,hg21,HL,e9⟩;refine(kL G 4 e9 HL) λF G=>.intro (G.t 2)<|(F.z 28 (G.t 2) F.mo) λF=>(F.z 29 (G.t 2) F.mo) λF=>(aO 27)<|(F.obs G 1 #[.int .i64 n0,.int .i64 g1,.int .i64 g2,.int .i64 n0] Qy.zeroValue3) @λn87 w19 _ yy F G=>.intro (gone kR)<|(F.z 30 (gone kR) F.mo) λF=>(aD)<|hcut _ _ _ _ _ F.u G.u oM
       ·refine(F.ok (Zk (μ:=0) _ _ b _ _ ((y.L.length:Nat):Int) (G.l 3) oM oM oM)) ?_;rintro _ w20 ⟨g2,rfl,hg20,hg21,HL,e9⟩;refine(kL G 3 e9 HL) λF G=>.intro (G.t 1)<|(F.z 28 (G.t 1) F.mo) λF=>Z01 (i:=9) (j:=27) kR ?_ ?_
        ·refine(F.obs G 1 #[.slice sa s.length sc,.slice pa p.length pc,.slice pa p.length pc,.slice pa p.length pc] Qy.zeroValue22) @λn69 w21 _ yy F G=>.intro (G.t 2)<|(F.z 29 (G.t 2) F.mo) λF=>(aO 27)<|(F.obs G 1 #[.int .i64 n0,.int .i64 g1,.int .i64 g2,.int .i64 n0] Qy.zeroValue3) @λn87 w22 _ yy F G=>.intro (gone kR)<|(F.z 30 (gone kR) F.mo) λF=>(aD)<|hcut _ _ _ _ _ F.u G.u oM
        ·refine(F.obs G 1 #[.int .i64 n0,.int .i64 g1,.int .i64 g2,.int .i64 n0] Qy.zeroValue3) @λn87 w23 _ yy F G=>.intro (gone kR)<|(aO 9)<|(F.obs G 1 #[.slice sa s.length sc,.slice pa p.length pc,.slice pa p.length pc,.slice pa p.length pc] Qy.zeroValue22) @λn69 w24 _ yy F G=>.intro (gone kR)<|(F.z 29 (gone kR) F.mo) λF=>(F.z 30 (gone kR) F.mo) λF=>(aD)<|hcut _ _ _ _ _ F.u G.u oM
     ·refine(F.obs G 1 #[.slice sa s.length sc,.slice pa p.length pc,.slice pa p.length pc,.slice pa p.length pc] Qy.zeroValue22) @λn69 w25 _ yy F G=>.intro (G.t 1)<|Z01 (i:=4) (j:=18) kR ?_ ?_
      ·refine(F.obs G 1 #[.slice ra r.length rc,.slice oa y.D.length y.D.length,.slice oa y.D.length y.D.length,.slice ra r.length rc] Qy.zeroValue22) @λn64 w26 _ yy F G=>.intro (G.t 2)<|(aO 18)<|(F.ok (Zk (μ:=0) _ _ b _ _ (((y.L.length:Nat):Int)-1) (G.l 4) oM oM oM)) ?_
       rintro _ w27 ⟨g1,rfl,hg10,hg11,HL,e9⟩;refine(kL G 4 e9 HL) λF G=>.intro (G.t 2)<|(aO 25)<|(F.ok (Zk (μ:=0) _ _ b _ _ ((y.L.length:Nat):Int) (G.l 4) oM oM oM)) ?_
       rintro _ w28 ⟨g2,rfl,hg20,hg21,HL,e9⟩;refine(kL G 4 e9 HL) λF G=>.intro (G.t 2)<|(F.z 28 (G.t 2) F.mo) λF=>(F.z 29 (G.t 2) F.mo) λF=>(aO 27)<|(F.obs G 1 #[.int .i64 n0,.int .i64 g1,.int .i64 g2,.int .i64 n0] Qy.zeroValue3) @λn87 w29 _ yy F G=>.intro (gone kR)<|(F.z 30 (gone kR) F.mo) λF=>(aD)<|hcut _ _ _ _ _ F.u G.u oM
      ·refine(F.ok (Zk (μ:=0) _ _ b _ _ (((y.L.length:Nat):Int)-1) (G.l 3) oM oM oM)) ?_;rintro _ w30 ⟨g1,rfl,hg10,hg11,HL,e9⟩;refine(kL G 3 e9 HL) λF G=>.intro (G.t 1)<|Z01 (i:=4) (j:=25) kR ?_ ?_
       ·refine(F.obs G 1 #[.slice ra r.length rc,.slice oa y.D.length y.D.length,.slice oa y.D.length y.D.length,.slice ra r.length rc] Qy.zeroValue22) @λn64 w31 _ yy F G=>.intro (G.t 2)<|(aO 25)<|(F.ok (Zk (μ:=0) _ _ b _ _ ((y.L.length:Nat):Int) (G.l 4) oM oM oM)) ?_
        rintro _ w32 ⟨g2,rfl,hg20,hg21,HL,e9⟩;refine(kL G 4 e9 HL) λF G=>.intro (G.t 2)<|(F.z 28 (G.t 2) F.mo) λF=>(F.z 29 (G.t 2) F.mo) λF=>(aO 27)<|(F.obs G 1 #[.int .i64 n0,.int .i64 g1,.int .i64 g2,.int .i64 n0] Qy.zeroValue3) @λn87 w33 _ yy F G=>.intro (gone kR)<|(F.z 30 (gone kR) F.mo) λF=>(aD)<|hcut _ _ _ _ _ F.u G.u oM
       ·refine(F.ok (Zk (μ:=0) _ _ b _ _ ((y.L.length:Nat):Int) (G.l 3) oM oM oM)) ?_;rintro _ w34 ⟨g2,rfl,hg20,hg21,HL,e9⟩;refine(kL G 3 e9 HL) λF G=>.intro (G.t 1)<|Z01 (i:=4) (j:=27) kR ?_ ?_
        ·refine(F.obs G 1 #[.slice ra r.length rc,.slice oa y.D.length y.D.length,.slice oa y.D.length y.D.length,.slice ra r.length rc] Qy.zeroValue22) @λn64 w35 _ yy F G=>.intro (G.t 2)<|(F.z 28 (G.t 2) F.mo) λF=>(F.z 29 (G.t 2) F.mo) λF=>(aO 27)<|(F.obs G 1 #[.int .i64 n0,.int .i64 g1,.int .i64 g2,.int .i64 n0] Qy.zeroValue3) @λn87 w36 _ yy F G=>.intro (gone kR)<|(F.z 30 (gone kR) F.mo) λF=>(aD)<|hcut _ _ _ _ _ F.u G.u oM
        ·refine(F.obs G 1 #[.int .i64 n0,.int .i64 g1,.int .i64 g2,.int .i64 n0] Qy.zeroValue3) @λn87 w37 _ yy F G=>.intro (gone kR)<|(aO 4)<|(F.obs G 1 #[.slice ra r.length rc,.slice oa y.D.length y.D.length,.slice oa y.D.length y.D.length,.slice ra r.length rc] Qy.zeroValue22) @λn64 w38 _ yy F G=>.intro (gone kR)<|(F.z 28 (gone kR) F.mo) λF=>(F.z 29 (gone kR) F.mo) λF=>(F.z 30 (gone kR) F.mo) λF=>(aD)<|hcut _ _ _ _ _ F.u G.u oM
     ·refine(F.ok (Zk (μ:=0) _ _ b _ _ (((y.L.length:Nat):Int)-1) (G.l 2) oM oM oM)) ?_;rintro _ w39 ⟨g1,rfl,hg10,hg11,HL,e9⟩;refine(kL G 2 e9 HL) λF G=>.intro (G.t 0)<|Z6J (i:=4) (j:=9) (k:=25) kR ?_ ?_ ?_
      ·refine(F.obs G 1 #[.slice ra r.length rc,.slice oa y.D.length y.D.length,.slice oa y.D.length y.D.length,.slice ra r.length rc] Qy.zeroValue22) @λn64 w40 _ yy F G=>.intro (G.t 1)<|Z01 (i:=9) (j:=25) kR ?_ ?_
       ·refine(F.obs G 1 #[.slice sa s.length sc,.slice pa p.length pc,.slice pa p.length pc,.slice pa p.length pc] Qy.zeroValue22) @λn69 w41 _ yy F G=>.intro (G.t 2)<|(aO 25)<|(F.ok (Zk (μ:=0) _ _ b _ _ ((y.L.length:Nat):Int) (G.l 4) oM oM oM)) ?_
        rintro _ w42 ⟨g2,rfl,hg20,hg21,HL,e9⟩;refine(kL G 4 e9 HL) λF G=>.intro (G.t 2)<|(F.z 28 (G.t 2) F.mo) λF=>(F.z 29 (G.t 2) F.mo) λF=>(aO 27)<|(F.obs G 1 #[.int .i64 n0,.int .i64 g1,.int .i64 g2,.int .i64 n0] Qy.zeroValue3) @λn87 w43 _ yy F G=>.intro (gone kR)<|(F.z 30 (gone kR) F.mo) λF=>(aD)<|hcut _ _ _ _ _ F.u G.u oM
       ·refine(F.ok (Zk (μ:=0) _ _ b _ _ ((y.L.length:Nat):Int) (G.l 3) oM oM oM)) ?_;rintro _ w44 ⟨g2,rfl,hg20,hg21,HL,e9⟩;refine(kL G 3 e9 HL) λF G=>.intro (G.t 1)<|(F.z 28 (G.t 1) F.mo) λF=>Z01 (i:=9) (j:=27) kR ?_ ?_
        ·refine(F.obs G 1 #[.slice sa s.length sc,.slice pa p.length pc,.slice pa p.length pc,.slice pa p.length pc] Qy.zeroValue22) @λn69 w45 _ yy F G=>.intro (G.t 2)<|(F.z 29 (G.t 2) F.mo) λF=>(aO 27)<|(F.obs G 1 #[.int .i64 n0,.int .i64 g1,.int .i64 g2,.int .i64 n0] Qy.zeroValue3) @λn87 w46 _ yy F G=>.intro (gone kR)<|(F.z 30 (gone kR) F.mo) λF=>(aD)<|hcut _ _ _ _ _ F.u G.u oM
        ·refine(F.obs G 1 #[.int .i64 n0,.int .i64 g1,.int .i64 g2,.int .i64 n0] Qy.zeroValue3) @λn87 w47 _ yy F G=>.intro (gone kR)<|(aO 9)<|(F.obs G 1 #[.slice sa s.length sc,.slice pa p.length pc,.slice pa p.length pc,.slice pa p.length pc] Qy.zeroValue22) @λn69 w48 _ yy F G=>.intro (gone kR)<|(F.z 29 (gone kR) F.mo) λF=>(F.z 30 (gone kR) F.mo) λF=>(aD)<|hcut _ _ _ _ _ F.u G.u oM
      ·refine(F.obs G 1 #[.slice sa s.length sc,.slice pa p.length pc,.slice pa p.length pc,.slice pa p.length pc] Qy.zeroValue22) @λn69 w49 _ yy F G=>.intro (G.t 1)<|Z01 (i:=4) (j:=25) kR ?_ ?_
       ·refine(F.obs G 1 #[.slice ra r.length rc,.slice oa y.D.length y.D.length,.slice oa y.D.length y.D.length,.slice ra r.length rc] Qy.zeroValue22) @λn64 w50 _ yy F G=>.intro (G.t 2)<|(aO 25)<|(F.ok (Zk (μ:=0) _ _ b _ _ ((y.L.length:Nat):Int) (G.l 4) oM oM oM)) ?_
        rintro _ w51 ⟨g2,rfl,hg20,hg21,HL,e9⟩;refine(kL G 4 e9 HL) λF G=>.intro (G.t 2)<|(F.z 28 (G.t 2) F.mo) λF=>(F.z 29 (G.t 2) F.mo) λF=>(aO 27)<|(F.obs G 1 #[.int .i64 n0,.int .i64 g1,.int .i64 g2,.int .i64 n0] Qy.zeroValue3) @λn87 w52 _ yy F G=>.intro (gone kR)<|(F.z 30 (gone kR) F.mo) λF=>(aD)<|hcut _ _ _ _ _ F.u G.u oM
       ·refine(F.ok (Zk (μ:=0) _ _ b _ _ ((y.L.length:Nat):Int) (G.l 3) oM oM oM)) ?_;rintro _ w53 ⟨g2,rfl,hg20,hg21,HL,e9⟩;refine(kL G 3 e9 HL) λF G=>.intro (G.t 1)<|Z01 (i:=4) (j:=27) kR ?_ ?_
        ·refine(F.obs G 1 #[.slice ra r.length rc,.slice oa y.D.length y.D.length,.slice oa y.D.length y.D.length,.slice ra r.length rc] Qy.zeroValue22) @λn64 w54 _ yy F G=>.intro (G.t 2)<|(F.z 28 (G.t 2) F.mo) λF=>(F.z 29 (G.t 2) F.mo) λF=>(aO 27)<|(F.obs G 1 #[.int .i64 n0,.int .i64 g1,.int .i64 g2,.int .i64 n0] Qy.zeroValue3) @λn87 w55 _ yy F G=>.intro (gone kR)<|(F.z 30 (gone kR) F.mo) λF=>(aD)<|hcut _ _ _ _ _ F.u G.u oM
        ·refine(F.obs G 1 #[.int .i64 n0,.int .i64 g1,.int .i64 g2,.int .i64 n0] Qy.zeroValue3) @λn87 w56 _ yy F G=>.intro (gone kR)<|(aO 4)<|(F.obs G 1 #[.slice ra r.length rc,.slice oa y.D.length y.D.length,.slice oa y.D.length y.D.length,.slice ra r.length rc] Qy.zeroValue22) @λn64 w57 _ yy F G=>.intro (gone kR)<|(F.z 28 (gone kR) F.mo) λF=>(F.z 29 (gone kR) F.mo) λF=>(F.z 30 (gone kR) F.mo) λF=>(aD)<|hcut _ _ _ _ _ F.u G.u oM
      ·refine(F.ok (Zk (μ:=0) _ _ b _ _ ((y.L.length:Nat):Int) (G.l 2) oM oM oM)) ?_;rintro _ w58 ⟨g2,rfl,hg20,hg21,HL,e9⟩;refine(kL G 2 e9 HL) λF G=>.intro (G.t 0)<|Z6J (i:=4) (j:=9) (k:=27) kR ?_ ?_ ?_
       ·refine(F.obs G 1 #[.slice ra r.length rc,.slice oa y.D.length y.D.length,.slice oa y.D.length y.D.length,.slice ra r.length rc] Qy.zeroValue22) @λn64 w59 _ yy F G=>.intro (G.t 1)<|(F.z 28 (G.t 1) F.mo) λF=>Z01 (i:=9) (j:=27) kR ?_ ?_
        ·refine(F.obs G 1 #[.slice sa s.length sc,.slice pa p.length pc,.slice pa p.length pc,.slice pa p.length pc] Qy.zeroValue22) @λn69 w60 _ yy F G=>.intro (G.t 2)<|(F.z 29 (G.t 2) F.mo) λF=>(aO 27)<|(F.obs G 1 #[.int .i64 n0,.int .i64 g1,.int .i64 g2,.int .i64 n0] Qy.zeroValue3) @λn87 w61 _ yy F G=>.intro (gone kR)<|(F.z 30 (gone kR) F.mo) λF=>(aD)<|hcut _ _ _ _ _ F.u G.u oM
        ·refine(F.obs G 1 #[.int .i64 n0,.int .i64 g1,.int .i64 g2,.int .i64 n0] Qy.zeroValue3) @λn87 w62 _ yy F G=>.intro (gone kR)<|(aO 9)<|(F.obs G 1 #[.slice sa s.length sc,.slice pa p.length pc,.slice pa p.length pc,.slice pa p.length pc] Qy.zeroValue22) @λn69 w63 _ yy F G=>.intro (gone kR)<|(F.z 29 (gone kR) F.mo) λF=>(F.z 30 (gone kR) F.mo) λF=>(aD)<|hcut _ _ _ _ _ F.u G.u oM
       ·refine(F.obs G 1 #[.slice sa s.length sc,.slice pa p.length pc,.slice pa p.length pc,.slice pa p.length pc] Qy.zeroValue22) @λn69 w64 _ yy F G=>.intro (G.t 1)<|Z01 (i:=4) (j:=27) kR ?_ ?_
        ·refine(F.obs G 1 #[.slice ra r.length rc,.slice oa y.D.length y.D.length,.slice oa y.D.length y.D.length,.slice ra r.length rc] Qy.zeroValue22) @λn64 w65 _ yy F G=>.intro (G.t 2)<|(F.z 28 (G.t 2) F.mo) λF=>(F.z 29 (G.t 2) F.mo) λF=>(aO 27)<|(F.obs G 1 #[.int .i64 n0,.int .i64 g1,.int .i64 g2,.int .i64 n0] Qy.zeroValue3) @λn87 w66 _ yy F G=>.intro (gone kR)<|(F.z 30 (gone kR) F.mo) λF=>(aD)<|hcut _ _ _ _ _ F.u G.u oM
        ·refine(F.obs G 1 #[.int .i64 n0,.int .i64 g1,.int .i64 g2,.int .i64 n0] Qy.zeroValue3) @λn87 w67 _ yy F G=>.intro (gone kR)<|(aO 4)<|(F.obs G 1 #[.slice ra r.length rc,.slice oa y.D.length y.D.length,.slice oa y.D.length y.D.length,.slice ra r.length rc] Qy.zeroValue22) @λn64 w68 _ yy F G=>.intro (gone kR)<|(F.z 28 (gone kR) F.mo) λF=>(F.z 29 (gone kR) F.mo) λF=>(F.z 30 (gone kR) F.mo) λF=>(aD)<|hcut _ _ _ _ _ F.u G.u oM
       ·refine(F.obs G 1 #[.int .i64 n0,.int .i64 g1,.int .i64 g2,.int .i64 n0] Qy.zeroValue3) @λn87 w69 _ yy F G=>.intro (gone kR)<|Z01 (i:=4) (j:=9) kR ?_ ?_
        ·refine(F.obs G 1 #[.slice ra r.length rc,.slice oa y.D.length y.D.length,.slice oa y.D.length y.D.length,.slice ra r.length rc] Qy.zeroValue22) @λn64 w70 _ yy F G=>.intro (gone kR)<|(F.z 28 (gone kR) F.mo) λF=>(aO 9)<|(F.obs G 1 #[.slice sa s.length sc,.slice pa p.length pc,.slice pa p.length pc,.slice pa p.length pc] Qy.zeroValue22) @λn69 w71 _ yy F G=>.intro (gone kR)<|(F.z 29 (gone kR) F.mo) λF=>(F.z 30 (gone kR) F.mo) λF=>(aD)<|hcut _ _ _ _ _ F.u G.u oM
        ·refine(F.obs G 1 #[.slice sa s.length sc,.slice pa p.length pc,.slice pa p.length pc,.slice pa p.length pc] Qy.zeroValue22) @λn69 w72 _ yy F G=>.intro (gone kR)<|(aO 4)<|(F.obs G 1 #[.slice ra r.length rc,.slice oa y.D.length y.D.length,.slice oa y.D.length y.D.length,.slice ra r.length rc] Qy.zeroValue22) @λn64 w73 _ yy F G=>.intro (gone kR)<|(F.z 28 (gone kR) F.mo) λF=>(F.z 29 (gone kR) F.mo) λF=>(F.z 30 (gone kR) F.mo) λF=>(aD)<|hcut _ _ _ _ _ F.u G.u oM
    clear F G;intro n64 n69 n87 g1 g2 fa w74 F G hlt;refine k11<|wQ λk14=>wQ λk15=>?_
    have ro:Z0w w74 (.slice oa y.D.length y.D.length) o:=⟨oa,y.D.length,(by rw[hol]),(by rw[hol];exact HO.out _ (G.e 4))⟩;have rp:Z0w w74 (.slice pa p.length pc) p:=⟨pa,pc,rfl,HP.out _ (G.e 4)⟩;have rr:Z0w w74 (.slice ra r.length rc) r:=⟨ra,rc,rfl,HR.out.ext (G.e 3) sU⟩;have rs:Z0w w74 (.slice sa s.length sc) s:=⟨sa,sc,rfl,HS.out.ext (G.e 3) sU⟩;obtain⟨R,hR4,hRs,hRA⟩:=Zdu (G.q 2) rr ro ro rr oM oM oM oM;obtain⟨U,hU4,hUs,hUA⟩:=Zdu (G.q 1) rs rp rp rp oM oM oM oM;obtain⟨NS,hN4,hNS⟩:=ZfL (G.q 0);have hR1:=Lib.hid (show SlAt [] w74 (some ⟨n64,0,none⟩) 1 4 (λi=>[(R.getD i (.bool true,[])).1]) from(by have:=hRA.1;rwa[hR4]at this));have hU1:=Lib.hid (show SlAt [] w74 (some ⟨n69,0,none⟩) 1 4 (λi=>[(U.getD i (.bool true,[])).1]) from(by have:=hUA.1;rwa[hU4]at this));have hN1:=Lib.hid hNS;have HRA:=Lib.hid hRA;have HUA:=Lib.hid hUA;have HVA2:=Lib.hid (show ∀k,k<4->(vsI X k).At w74 from λk hk=>Zn9 (HVA.out _ (G.e 4)) oM);have HVS2:=Lib.hid (show SlAt [] w74 va 4 4 (λi=>vmC (vsI X i)) from(by have:=Z7 (HVA.out _ (G.e 4)).rows vm0;rw[hX4]at this;exact this));clear ro rp rr rs hRA hUA hNS HO HP HVA HVS;replace G:=(((G.hr []).d 3).d 2).d 1;refine Yg<|(F.m) λF=>k15<|Yh<|lpC (F.b [12,15,16,17]) (G.b [0,1]) (4) (λi=>[(18,.int .i64 ((i:Nat):Int))]) F.u λi hi1 F G=>wQ λk16=>wR λk17=>(F.m) λF=>(F.m) λF=>(F.y F.ln) λF=>(F.y F.ls) λF=>k17<|F.ci (λhc91=>?_) (λhc91=>?_)
    ·refine Yi<|k16<|wQ λk18=>Yh<|wQ @λK19 k19=>?_
     obtain⟨m1,m2⟩:=hSm.out _ (ZjZ (show i<X.length by omega));obtain⟨ta,tc,hta,htr⟩:=HRA.out.2 _ (Z5 (.bool true,[]) (show i<R.length by omega));obtain⟨ua,uc,hua,hur⟩:=HUA.out.2 _ (Z5 (.bool true,[]) (show i<U.length by omega));have ht20:=hRs _ (Z5 (.bool true,[]) (show i<R.length by omega));have hu20:=hUs _ (Z5 (.bool true,[]) (show i<U.length by omega));obtain⟨t,ht⟩:∃t,t=(R.getD i (.bool true,[])).2:=⟨_,rfl⟩;rw[<-ht]at hta htr ht20;obtain⟨n,hn⟩:∃n,n=(U.getD i (.bool true,[])).2:=⟨_,rfl⟩;rw[<-hn]at hua hur hu20;obtain⟨v,hv⟩:∃v,v=NS.getD i 0:=⟨_,rfl⟩;have HTR:=Lib.hid htr;have HUR:=Lib.hid hur;clear htr hur
     suffices hcut:∀(n19:Nat) (u:Vm) (ta2 ua2:Option Addr) (tc2 uc2:Nat) {fa:Act} {W:World},Has 254 [] fa [(12,.slice va 4 4),(15,.slice (some ⟨n64,0,none⟩) 4 4),(16,.slice (some ⟨n69,0,none⟩) 4 4),(17,.slice (some ⟨n87,0,none⟩) 4 4),(18,.int .i64 ((i:Nat):Int)),(19,.pointer (some ⟨n19,0,none⟩)),(20,.slice ta2 t.length tc2),(21,.slice ua2 n.length uc2)]->Bk W [.q n19 u.vc 27,.e [] w,.e [] w74,.o w.heap.size 22 1 (.slice u.da u.D.length u.dc) u.D.length ((u.D.map (·.1))),.f w.heap.size u.D,.o w.heap.size 22 1 (.slice u.la u.L.length u.lc) u.L.length ((u.L.map (·.1))),.f w.heap.size u.L,.o w.heap.size 3 1 (.slice ta2 t.length tc2) t.length (ivs t),.o w.heap.size 3 1 (.slice ua2 n.length uc2) n.length (ivs n)]->w.heap.size<=n19/\w74.heap.size<=n19->(RowKit.Hid (SameV u (vsI X i)))->K19 fa W by
      have G6:=G;refine(wD [] none G) λG=>(F.z 0 (G.t 0) F.mo) λF=>(F.z 1 (G.t 0) F.mo) λF=>?_;obtain⟨xb20,xo20,xa20,xr20⟩:=HVS2.out i oM;refine(F.z 2 (G.t 0) (F.is 4 xa20)) λF=>(F.zr 3 (G.t 0) λhS=>F.lr (xr20 _ ((G6.e 0).nil hS))) λF=>(F.z 5 (G.t 0) F.mo) λF=>(F.z 6 (G.t 0) F.mo) λF=>?_;obtain⟨xb21,xo21,xa21,xr21⟩:=hR1.out i oM;refine(F.z 7 (G.t 0) (F.is 1 xa21)) λF=>(F.zr 8 (G.t 0) λhS=>F.l1 (xr21 _ ((G6.e 0).nil hS)) 0) λF=>?_;rw[hta]at F;refine(F.z 10 (G.t 0) F.mo) λF=>(F.z 11 (G.t 0) F.mo) λF=>?_;obtain⟨xb22,xo22,xa22,xr22⟩:=hU1.out i oM;refine(F.z 12 (G.t 0) (F.is 1 xa22)) λF=>(F.zr 13 (G.t 0) λhS=>F.l1 (xr22 _ ((G6.e 0).nil hS)) 0) λF=>?_;rw[hua]at F;refine Z01 (i:=4) (j:=15) kR ?_ ?_
      ·have hle4:=(G.e 2).size;refine(F.ok (Z35 (μ:=0) (vsI X i) _ ((HVA2.out i oM).ext (G.e 1)) m1 m2)) ?_;rintro _ w77 ⟨u,rfl,huB,hut,huD,huL,oo1,fam1,oo2,fam2,-,e9⟩;refine kG G e9 λF G=>.intro (G.t 0) ?_;have HSV:=Lib.hid (SameV.mk huB hut huD huL);replace oo1:=Za (base':=w.heap.size) oo1 hle4;replace fam1:=Z1z fam1 hle4;replace oo2:=Za (base':=w.heap.size) oo2 hle4;replace fam2:=Z1z fam2 hle4;replace G:=(((G.co oo1).cf fam1).co oo2).cf fam2;refine Z01 (i:=9) (j:=15) kR ?_ ?_
       ·have hle9:=(G.e 6).size;refine(F.ok (Zz (μ:=0) (w:=_) ⟨ta,tc,rfl,HTR.out.ext (G.e 5) sU⟩ oM)) ?_;rintro _ w78 ⟨ta2,tc2,rfl,tto,e9⟩;refine kG G e9 λF G=>.intro (G.t 4) ?_;replace tto:=Za (base':=w.heap.size) tto hle9;replace G:=G.co tto;refine Z01 (i:=14) (j:=15) kR ?_ ?_
        ·have hle14:=(G.e 7).size;refine(F.ok (Zz (μ:=0) (w:=_) ⟨ua,uc,rfl,HUR.out.ext (G.e 6) sU⟩ oM)) ?_;rintro _ w79 ⟨ua2,uc2,rfl,uo,e9⟩;refine kG G e9 λF G=>.intro (G.t 5) ?_;replace uo:=Za (base':=w.heap.size) uo hle14;replace G:=G.co uo;refine(aO 15)<|(F.oa G Qy.zeroValue27) @λn19 w80 _ yy F G=>.intro (G.t 7)<|(aO 16)<|(F.or G 0) λG=>.intro (G.t 7)<|(F.z 17 (G.t 7) F.mo) λF=>(F.z 18 (G.t 7) F.mo) λF=>(aD)<|hcut _ _ _ _ _ _ F.u G.u oM HSV
        ·refine(F.oa G Qy.zeroValue27) @λn19 w82 _ yy F G=>.intro (G.t 6) ?_;have hle14:=(G.e 8).size;refine(aO 14)<|(F.ok (Zz (μ:=0) (w:=_) ⟨ua,uc,rfl,HUR.out.ext (G.e 7) sU⟩ oM)) ?_
         rintro _ w83 ⟨ua2,uc2,rfl,uo,e9⟩;refine kG G e9 λF G=>.intro (G.t 6) ?_;replace uo:=Za (base':=w.heap.size) uo hle14;replace G:=G.co uo;refine(aO 16)<|(F.or G 1) λG=>.intro (G.t 7)<|(F.z 17 (G.t 7) F.mo) λF=>(F.z 18 (G.t 7) F.mo) λF=>(aD)<|hcut _ _ _ _ _ _ F.u G.u oM HSV
       ·refine(F.oa G Qy.zeroValue27) @λn19 w85 _ yy F G=>.intro (G.t 5) ?_;have hle9:=(G.e 7).size;refine(aO 9)<|(F.ok (Zz (μ:=0) (w:=_) ⟨ta,tc,rfl,HTR.out.ext (G.e 6) sU⟩ oM)) ?_
        rintro _ w86 ⟨ta2,tc2,rfl,tto,e9⟩;refine kG G e9 λF G=>.intro (G.t 5) ?_;replace tto:=Za (base':=w.heap.size) tto hle9;replace G:=G.co tto;have hle14:=(G.e 8).size;refine(aO 14)<|(F.ok (Zz (μ:=0) (w:=_) ⟨ua,uc,rfl,HUR.out.ext (G.e 7) sU⟩ oM)) ?_
        rintro _ w87 ⟨ua2,uc2,rfl,uo,e9⟩;refine kG G e9 λF G=>.intro (G.t 6) ?_;replace uo:=Za (base':=w.heap.size) uo hle14;replace G:=G.co uo;refine(aO 16)<|(F.or G 2) λG=>.intro (G.t 7)<|(F.z 17 (G.t 7) F.mo) λF=>(F.z 18 (G.t 7) F.mo) λF=>(aD)<|hcut _ _ _ _ _ _ F.u G.u oM HSV
      ·refine(F.oa G Qy.zeroValue27) @λn19 w89 _ yy F G=>.intro (G.t 1) ?_;have hle4:=(G.e 3).size;refine(aO 4)<|(F.ok (Z35 (μ:=0) (vsI X i) _ ((HVA2.out i oM).ext (G.e 2)) m1 m2)) ?_
       rintro _ w90 ⟨u,rfl,huB,hut,huD,huL,oo1,fam1,oo2,fam2,-,e9⟩;refine kG G e9 λF G=>.intro (G.t 1) ?_;have HSV:=Lib.hid (SameV.mk huB hut huD huL);replace oo1:=Za (base':=w.heap.size) oo1 hle4;replace fam1:=Z1z fam1 hle4;replace oo2:=Za (base':=w.heap.size) oo2 hle4;replace fam2:=Z1z fam2 hle4;replace G:=(((G.co oo1).cf fam1).co oo2).cf fam2;have hle9:=(G.e 7).size;refine(aO 9)<|(F.ok (Zz (μ:=0) (w:=_) ⟨ta,tc,rfl,HTR.out.ext (G.e 6) sU⟩ oM)) ?_
       rintro _ w91 ⟨ta2,tc2,rfl,tto,e9⟩;refine kG G e9 λF G=>.intro (G.t 5) ?_;replace tto:=Za (base':=w.heap.size) tto hle9;replace G:=G.co tto;have hle14:=(G.e 8).size;refine(aO 14)<|(F.ok (Zz (μ:=0) (w:=_) ⟨ua,uc,rfl,HUR.out.ext (G.e 7) sU⟩ oM)) ?_
       rintro _ w92 ⟨ua2,uc2,rfl,uo,e9⟩;refine kG G e9 λF G=>.intro (G.t 6) ?_;replace uo:=Za (base':=w.heap.size) uo hle14;replace G:=G.co uo;refine(aO 16)<|(F.or G 6) λG=>.intro (G.t 7)<|(F.z 17 (G.t 7) F.mo) λF=>(F.z 18 (G.t 7) F.mo) λF=>(aD)<|hcut _ _ _ _ _ _ F.u G.u oM HSV
     clear F G;intro n19 u ta2 ua2 tc2 uc2 fa w94 F G hlt HSV;refine k19<|wQ λk23=>?_
     have oo1:=G.o 3;have fam1:=G.f 4;have oo2:=G.o 5;have fam2:=G.f 6;have HU:=Lib.hid (show u.At w94 from⟨Z0R oo1 fam1,Z0R oo2 fam2⟩);have tto:=G.o 7;have HT2:=Lib.hid (Zh tto rfl);have uo:=G.o 8;have HU2:=Lib.hid (Zh uo rfl);have HC:=Lib.hid (show Lift.Cl u w94 from⟨Lift.cel_own oo1,Lift.cel_own oo2,λp hp=>Lift.cel_own (fam1.1 p hp),λp hp=>Lift.cel_own (fam2.1 p hp)⟩);have HK1:=Lib.hid (Lift.cel_own tto);have HK2:=Lib.hid (Lift.cel_own uo);have s1:=Z1J m1 HSV.out.D;have s2:=Z1J m2 HSV.out.L;replace G:=G.hr [];refine Yg<|(F.y (F.lb (G.q 1))) λF=>(F.m) λF=>?_
     obtain⟨g,hg⟩:∃g,g=sumV (vsI X i) t:=⟨_,rfl⟩;have hco:=Zf7 (μ:=0) u s1 s2 t oM ta2 tc2 w94 (HU.out.ext (G.e 0)) (HT2.out.ext (G.e 0) sU);rw[HSV.out.sumV,<-hg]at hco;refine(F.k hco) ?_;rintro _ w95 ⟨ga,gc,rfl,og,e9⟩;refine kG G e9 λF G=>?_;have hgl:g.1.length<=1000:=(by rw[hg];exact Zh2 _ _);have HG:=Lib.hid (Zh og rfl);clear og hco;replace G:=G.hr [];refine(F.m) λF=>(F.y F.xt) λF=>(F.y F.xt) λF=>(F.y F.xt) λF=>(F.m) λF=>(F.m) λF=>(F.m) λF=>k23<|wQ λk24=>?_
     replace G:=G.b [0,1,2,3,4];have G8:=G;refine(wD [] none G) @λw96 G=>(F.z 0 (G.t 0) F.mo) λF=>(F.z 1 (G.t 0) F.mo) λF=>?_;obtain⟨xb25,xo25,xa25,xr25⟩:=HVS2.out i oM;refine(F.z 2 (G.t 0) (F.is 4 xa25)) λF=>(F.zr 3 (G.t 0) λhS=>F.lr (xr25 _ ((G8.e 4).nil hS))) λF=>(F.z 4 (G.t 0) F.mo) λF=>(F.z 5 (G.t 0) F.mo) λF=>?_;obtain⟨xb26,xo26,xa26,xr26⟩:=hR1.out i oM;refine(F.z 6 (G.t 0) (F.is 1 xa26)) λF=>(F.zr 7 (G.t 0) λhS=>F.l1 (xr26 _ ((G8.e 4).nil hS)) 0) λF=>?_;rw[hta]at F;have hdo:=Zel (μ:=0) (vsI X i) m1 m2 t oM ta tc w96 ((HVA2.out i oM).ext (G.e 5)) (HTR.out.ext (G.e 5) sU);rw[<-hg]at hdo;refine(aO 8)<|(F.ok hdo) ?_
     rintro _ w97 ⟨ha,hc,rfl,hh,e9⟩;refine kG G e9 λF G=>.intro (G.t 0) ?_;have HH:=Lib.hid (Zh hh rfl);clear hh hdo;replace G:=G.hr [];refine(F.z 9 (G.t 1) F.mo) λF=>(F.z 10 (G.t 1) F.xt) λF=>(F.z 11 (G.t 1) F.xt) λF=>(F.z 12 (G.t 1) F.xt) λF=>(F.z 13 (G.t 1) F.mo) λF=>(F.z 14 (G.t 1) F.mo) λF=>(F.z 15 (G.t 1) F.mo) λF=>(aD)<|k24<|wQ λk27=>?_
     have G10:=G;refine(wD [] none G) @λw98 G=>(F.zr 0 (G.t 0) λhS=>F.lb (G10.k 4 hS)) λF=>(F.z 1 (G.t 0) F.mo) λF=>(F.z 2 (G.t 0) F.mo) λF=>?_;obtain⟨xb28,xo28,xa28,xr28⟩:=hN1.out i oM;refine(F.z 3 (G.t 0) (F.is 1 xa28)) λF=>(F.zr 4 (G.t 0) λhS=>F.l1 (xr28 _ ((G10.e 6).nil hS)) 0) λF=>?_;rw[<-hv]at F;refine(F.z 5 (G.t 0) F.mo) λF=>(F.z 6 (G.t 0) F.mo) λF=>?_;obtain⟨f,hf⟩:∃f,f=offV (vsI X i) v t n:=⟨_,rfl⟩;have hco:=Zhc (μ:=0) u s1 s2 v t oM n oM ta2 ua2 tc2 uc2 w98 (HU.out.ext (G.e 4)) (HT2.out.ext (G.e 4) sU) (HU2.out.ext (G.e 4) sU);rw[HSV.out.offV,<-hf]at hco;refine(aO 7)<|(F.ok hco) ?_
     rintro _ w99 ⟨rfl,e9⟩;refine kG G e9 λF G=>.intro (G.t 0) ?_;clear hco;refine(F.z 8 (G.t 0) F.mo) λF=>(F.z 9 (G.t 0) F.xt) λF=>(F.z 10 (G.t 0) F.xt) λF=>(F.z 11 (G.t 0) F.mo) λF=>(F.z 12 (G.t 0) F.mo) λF=>(aD)<|k27<|wQ λk29=>?_
     have G12:=G;refine(wD [] none G) @λw100 G=>(F.z 0 (G.t 0) F.mo) λF=>(F.z 1 (G.t 0) F.mo) λF=>?_;obtain⟨xb30,xo30,xa30,xr30⟩:=HVS2.out i oM;refine(F.z 2 (G.t 0) (F.is 4 xa30)) λF=>(F.zr 3 (G.t 0) λhS=>F.lr (xr30 _ ((G12.e 7).nil hS))) λF=>(F.z 4 (G.t 0) F.mo) λF=>(F.z 5 (G.t 0) F.mo) λF=>?_;obtain⟨xb31,xo31,xa31,xr31⟩:=hN1.out i oM;refine(F.z 6 (G.t 0) (F.is 1 xa31)) λF=>(F.zr 7 (G.t 0) λhS=>F.l1 (xr31 _ ((G12.e 7).nil hS)) 0) λF=>?_;rw[<-hv]at F;refine(F.z 8 (G.t 0) F.mo) λF=>(F.z 9 (G.t 0) F.mo) λF=>?_;obtain⟨xb32,xo32,xa32,xr32⟩:=hR1.out i oM;refine(F.z 10 (G.t 0) (F.is 1 xa32)) λF=>(F.zr 11 (G.t 0) λhS=>F.l1 (xr32 _ ((G12.e 7).nil hS)) 0) λF=>?_;rw[hta]at F;refine(F.z 12 (G.t 0) F.mo) λF=>(F.z 13 (G.t 0) F.mo) λF=>?_;obtain⟨xb33,xo33,xa33,xr33⟩:=hU1.out i oM;refine(F.z 14 (G.t 0) (F.is 1 xa33)) λF=>(F.zr 15 (G.t 0) λhS=>F.l1 (xr33 _ ((G12.e 7).nil hS)) 0) λF=>?_;rw[hua]at F;have hdo:=Zgr (μ:=0) (vsI X i) m1 m2 v t oM n oM ta ua tc uc w100 ((HVA2.out i oM).ext (G.e 8)) (HTR.out.ext (G.e 8) sU) (HUR.out.ext (G.e 8) sU);rw[<-hf]at hdo;refine(aO 16)<|(F.ok hdo) ?_
     rintro _ w101 ⟨rfl,e9⟩;refine kG G e9 λF G=>.intro (G.t 0) ?_;clear hdo;refine(F.z 17 (G.t 0) F.mo) λF=>(F.z 18 (G.t 0) F.xt) λF=>(F.z 19 (G.t 0) F.xt) λF=>(F.z 20 (G.t 0) F.mo) λF=>(F.z 21 (G.t 0) F.mo) λF=>(aD)<|k29<|wQ λk34=>wQ λk35=>?_
     obtain⟨e0,he0⟩:∃e0,e0=(vsI X i).err:=⟨_,rfl⟩;have he1:=HSV.out.err;rw[<-he0]at he1;replace F:=F.b [12,15,16,17,18,19,20,21,22,23,24,25,26,27,28,29,30,31];replace G:=G.b [2,4,5,6,7,8];have G14:=G;refine(wD [] none G) @λw102 G=>(F.zr 0 (G.t 0) λhS=>F.lb (G14.k 3 hS)) λF=>(F.z 2 (G.t 0) F.mo) λF=>(F.z 3 (G.t 0) F.mo) λF=>?_;obtain⟨xb36,xo36,xa36,xr36⟩:=HVS2.out i oM;refine(F.z 4 (G.t 0) (F.is 4 xa36)) λF=>(F.zr 5 (G.t 0) λhS=>F.lr (xr36 _ ((G14.e 5).nil hS))) λF=>?_;have hco:=Z4i (μ:=0) u w102 (HU.out.ext (G.e 3)) s1 s2;rw[show chkE u.B (u.D.map (·.2)) (u.L.map (·.2)) u.tol=e0 from he1]at hco;refine(aO 1)<|(F.ok hco) ?_
     rintro _ w103 ⟨rfl,e9⟩;refine kG G e9 λF G=>.intro (G.t 0) ?_;clear hco;have hdo:=Z2B (μ:=0) (vsI X i) w103 ((HVA2.out i oM).ext (G.e 6)) m1 m2;rw[show chkE (vsI X i).B ((vsI X i).D.map (·.2)) ((vsI X i).L.map (·.2)) (vsI X i).tol=e0 from he0.symm]at hdo;refine(aO 6)<|(F.ok hdo) ?_
     rintro _ w104 ⟨rfl,e9⟩;refine kG G e9 λF G=>.intro (G.t 0) ?_;clear hdo;refine(F.z 7 (G.t 0) F.neF) λF=>(F.z 8 (G.t 0) F.mo) λF=>(F.z 9 (G.t 0) F.mo) λF=>(F.z 10 (G.t 0) F.mo) λF=>(F.z 11 (G.t 0) F.neF) λF=>(F.z 12 (G.t 0) F.pF) λF=>(F.z 13 (G.t 0) F.mo) λF=>(F.z 14 (G.t 0) F.mo) λF=>(F.z 15 (G.t 0) F.mo) λF=>(F.z 16 (G.t 0) F.neF) λF=>(F.z 17 (G.t 0) F.pF) λF=>(F.z 18 (G.t 0) F.mo) λF=>(F.z 19 (G.t 0) F.mo) λF=>(F.z 20 (G.t 0) F.mo) λF=>?_;refine(F.z 21 (G.t 0) F.neF) λF=>(F.z 22 (G.t 0) F.pF) λF=>(F.z 23 (G.t 0) F.mo) λF=>(F.z 24 (G.t 0) F.mo) λF=>(F.z 25 (G.t 0) F.mo) λF=>(F.z 26 (G.t 0) F.neF) λF=>(F.z 27 (G.t 0) F.pF) λF=>(F.z 28 (G.t 0) F.mo) λF=>(F.z 29 (G.t 0) F.mo) λF=>(F.z 30 (G.t 0) F.mo) λF=>(aO 31)<|(F.ok (ZA (μ:=0) g.1 g.1 ga ha gc hc _ (HG.out.ext (G.e 2) sU) (HH.out.ext (G.e 1) sU) oM oM)) ?_
     rintro _ w105 ⟨rfl,e9⟩;refine kG G e9 λF G=>.intro (G.t 0) ?_;rw[Z4F]at F;refine(F.z 32 (G.t 0) F.nb) λF=>(F.z 33 (G.t 0) F.pF) λF=>(aD)<|k35<|(F.cF)<|Yi<|k34<|wR λk37=>(F.y (F.lb (G.q 4))) λF=>(F.m) λF=>(F.m) λF=>?_
     obtain⟨er,her⟩:∃er,er=matR (vsI X i) t n:=⟨_,rfl⟩;obtain⟨L1,hL1⟩:∃L1,L1=matL2 (vsI X i) t n:=⟨_,rfl⟩;have hL1n:L1.length<=6:=(by rw[hL1];exact Z9N _ _);have hst:=Z95 u s1 s2 t n oM oM ta2 ua2 tc2 uc2 w105 (HU.out.ext (G.e 3)) (HT2.out.ext (G.e 3) sU) (HU2.out.ext (G.e 3) sU);rw[HSV.out.matR,HSV.out.matL2,<-her,<-hL1]at hst;refine(F.kp hst) ?_;rintro _ w106 (⟨⟨rfl,-⟩,e9⟩ | ⟨y1,rfl,hI1,-,e9⟩)
     ·refine .inl ⟨_,rfl,?_⟩;replace G:=G.ex e9
      (try simp only[Exit.inBlock,Exit.then,Exit.jump,reduceIte])
      refine⟨F.ds,?_⟩;exact Lift.lawV_m s1 s2 (HU.out.ext (G.e 3)) (HC.out.ext (G.e 3)) oM oM rfl rfl (HT2.out.ext (G.e 3) sU) (HU2.out.ext (G.e 3) sU) (HK1.out.ext (G.e 3)) (HK2.out.ext (G.e 3))
     refine .inr ⟨_,rfl,λF=>?_⟩;replace G:=G.ex e9;clear hst;obtain⟨ya1,yc1,rfl,hY1⟩:=ZdF hI1;clear hI1;have HY1:=Lib.hid hY1;clear hY1;replace G:=G.hr [];refine(F.m) λF=>(F.y F.xt) λF=>(F.y F.xt) λF=>(F.m) λF=>(F.m) λF=>k37<|wQ λk38=>?_
     have G16:=G;refine(wD [] none G) @λw107 G=>(F.z 0 (G.t 0) F.mo) λF=>(F.z 1 (G.t 0) F.mo) λF=>?_;obtain⟨xb39,xo39,xa39,xr39⟩:=HVS2.out i oM;refine(F.z 2 (G.t 0) (F.is 4 xa39)) λF=>(F.zr 3 (G.t 0) λhS=>F.lr (xr39 _ ((G16.e 7).nil hS))) λF=>(F.z 4 (G.t 0) F.mo) λF=>(F.z 5 (G.t 0) F.mo) λF=>?_;obtain⟨xb40,xo40,xa40,xr40⟩:=hR1.out i oM;refine(F.z 6 (G.t 0) (F.is 1 xa40)) λF=>(F.zr 7 (G.t 0) λhS=>F.l1 (xr40 _ ((G16.e 7).nil hS)) 0) λF=>?_;rw[hta]at F;refine(F.z 8 (G.t 0) F.mo) λF=>(F.z 9 (G.t 0) F.mo) λF=>?_;obtain⟨xb41,xo41,xa41,xr41⟩:=hU1.out i oM;refine(F.z 10 (G.t 0) (F.is 1 xa41)) λF=>(F.zr 11 (G.t 0) λhS=>F.l1 (xr41 _ ((G16.e 7).nil hS)) 0) λF=>?_;rw[hua]at F;have hdo:=Zgq (μ:=0) (vsI X i) m1 m2 t oM n oM ta ua tc uc w107 ((HVA2.out i oM).ext (G.e 8)) (HTR.out.ext (G.e 8) sU) (HUR.out.ext (G.e 8) sU);rw[<-her,<-hL1]at hdo;refine(aO 12)<|(F.ok hdo) ?_
     rintro _ w108 ⟨ma,mc,rfl,hh,e9⟩;refine kG G e9 λF G=>.intro (G.t 0) ?_;have HM:=Lib.hid (Zh hh rfl);clear hh hdo;replace G:=G.hr [];refine(F.z 13 (G.t 1) F.mo) λF=>(F.z 14 (G.t 1) F.xt) λF=>(F.z 15 (G.t 1) F.xt) λF=>(F.z 16 (G.t 1) F.mo) λF=>(F.z 17 (G.t 1) F.mo) λF=>(aD)<|k38<|wQ λk42=>?_
     replace F:=F.b [12,15,16,17,18,19,20,21,22,24,25,27];replace G:=G.b [0,2,4,5,6,7,8,9];have G18:=G;refine(wD [] none G) λG=>(F.z 0 (G.t 0) F.mo) λF=>(F.z 1 (G.t 0) F.mo) λF=>(F.z 2 (G.t 0) F.neF) λF=>(F.z 3 (G.t 0) F.mo) λF=>(F.z 4 (G.t 0) F.mo) λF=>(F.z 5 (G.t 0) F.mo) λF=>(aO 6)<|(F.ok (ZA (μ:=0) L1 L1 ya1 ma yc1 mc _ (HY1.out.ext (G.e 2) sU) (HM.out.ext (G.e 1) sU) oM oM)) ?_
     rintro _ w110 ⟨rfl,e9⟩;refine kG G e9 λF G=>.intro (G.t 0) ?_;rw[Z4F]at F;refine(F.z 7 (G.t 0) F.nb) λF=>(F.z 8 (G.t 0) F.pF) λF=>(F.z 9 (G.t 0) F.mo) λF=>(F.zr 10 (G.t 0) λhS=>F.lb (G18.k 5 hS)) λF=>(F.z 11 (G.t 0) F.mo) λF=>(F.z 12 (G.t 0) F.mo) λF=>?_;obtain⟨xb43,xo43,xa43,xr43⟩:=HVS2.out i oM;refine(F.z 13 (G.t 0) (F.is 4 xa43)) λF=>(F.zr 14 (G.t 0) λhS=>F.lr (xr43 _ ((G18.e 7).nil hS))) λF=>(aO 15)<|(F.ok0 G (Z8Q (μ:=0) u (vsI X i) _ (HU.out.ext (G.e 5)) ((HVA2.out i oM).ext (G.e 8)) m1 m2 HSV.out.B HSV.out.tol HSV.out.D HSV.out.L)) λF G=>.intro (G.t 0)<|(F.z 16 (G.t 0) F.nb) λF=>(F.z 17 (G.t 0) F.pF) λF=>(F.z 18 (G.t 0) F.mo) λF=>(F.z 19 (G.t 0) F.mo) λF=>(F.z 20 (G.t 0) F.mo) λF=>(F.z 21 (G.t 0) F.mo) λF=>?_
     obtain⟨xb44,xo44,xa44,xr44⟩:=hR1.out i oM;refine(F.z 22 (G.t 0) (F.is 1 xa44)) λF=>(F.zr 23 (G.t 0) λhS=>F.l1 (xr44 _ ((G18.e 7).nil hS)) 0) λF=>?_;rw[hta]at F;refine(aO 24)<|(F.ok (ZA (μ:=0) t t ta2 ta tc2 tc _ (HT2.out.ext (G.e 5) sU) (HTR.out.ext (G.e 8) sU) oM oM)) ?_
     rintro _ w112 ⟨rfl,e9⟩;refine kG G e9 λF G=>.intro (G.t 0) ?_;rw[Z4F]at F;refine(F.z 25 (G.t 0) F.nb) λF=>(F.z 26 (G.t 0) F.pF) λF=>(F.z 27 (G.t 0) F.mo) λF=>(F.z 28 (G.t 0) F.mo) λF=>(F.z 29 (G.t 0) F.mo) λF=>(F.z 30 (G.t 0) F.mo) λF=>?_;obtain⟨xb45,xo45,xa45,xr45⟩:=hU1.out i oM;refine(F.z 31 (G.t 0) (F.is 1 xa45)) λF=>(F.zr 32 (G.t 0) λhS=>F.l1 (xr45 _ ((G18.e 7).nil hS)) 0) λF=>?_;rw[hua]at F;refine(aO 33)<|(F.ok (ZA (μ:=0) n n ua2 ua uc2 uc _ (HU2.out.ext (G.e 5) sU) (HUR.out.ext (G.e 8) sU) oM oM)) ?_
     rintro _ w113 ⟨rfl,e9⟩;refine kG G e9 λF G=>.intro (G.t 0) ?_;rw[Z4F]at F;refine(F.z 34 (G.t 0) F.nb) λF=>(F.z 35 (G.t 0) F.pF) λF=>(aD)<|k42<|(F.cF)<|Yi<|k18<|Yg<|(F.m) λF=>(F.y F.ad) λF=>(F.m) λF=>?_
     show _/\_;exact⟨oM,F.u,G.u⟩
    ·refine wp_exit<|k14<|wR λk46=>(F.k0 G (Z2E (μ:=0) _)) λF G=>(F.m) λF=>k46<|(F.r1) ?_
     exact .inl rfl
 ·replace F:=F.re (k:=34) rfl (congrArg Value.bool hg1);refine(F.n) λF=>(F.n) λF=>(F.n) λF=>(F.y F.pT) λF=>(F.m) λF=>(F.n) λF=>(F.n) λF=>(F.n) λF=>(F.y F.pT) λF=>k3<|(F.cT)<|wR λk47=>(F.k0 G (Z2E (μ:=0) _)) λF G=>(F.m) λF=>k47<|(F.r1) ?_
  exact .inl rfl
end
namespace Lift
open Go Go.Conc Go.RowKit Ev
theorem Zi1{L:List (Value×List Int)}(hx:ZL W a L)(hw:∀p∈L,Wrd W p.1)(hm:∀p∈L,p.1∈l): ∀p∈L,PV (SB W l) p.1\/∃b,p.1 = .slice (some b) 0 0:=λp hp=>by
 obtain⟨a3,c3,e3,_⟩:=hx.2 p hp;rcases hw p hp with h | h
 ·have h1:=hm p hp;rw[e3]at h h1⊢;exact .inl (ZbU h1 h)
 ·exact .inr h
theorem law_runC(W:World)(x:Vm)(n0:Int)(a1:Option Addr)(n1 c1:Nat)(z1:List Int)(a2:Option Addr)(n2 c2:Nat)(z2:List Int)(a3:Option Addr)(n3 c3:Nat)(z3:List Int)(hx:x.At W)(hd:∀p∈x.D,Wrd W p.1)(hl:∀p∈x.L,Wrd W p.1)(kd:Cel W (.slice x.da x.D.length x.dc))(kl:Cel W (.slice x.la x.L.length x.lc))
  (h1:Z40 .i64 W a1 n1 c1 z1) (k1:Cel W (.slice a1 n1 c1)) (h2:Z40 .i64 W a2 n2 c2 z2) (k2:Cel W (.slice a2 n2 c2)) (h3:Z40 .i64 W a3 n3 c3 z3) (k3:Cel W (.slice a3 n3 c3)) :
  Run PP (Zi5 W) (solo (G (Frame.enter PP lawF #[.agg x.vc,.int .i64 n0,.slice a1 n1 c1,.slice a2 n2 c2,.slice a3 n3 c3] .normal) []) W) #[]:=by
 obtain⟨r,rfl,hr⟩:=Z1Z h1;obtain⟨s,rfl,hs⟩:=Z1Z h2;obtain⟨l,hlE⟩:∃l,l=[.slice x.da x.D.length x.dc,.slice x.la x.L.length x.lc,.slice a1 r.length c1,.slice a2 s.length c2,.slice a3 n3 c3]++(x.D.map (·.1)++x.L.map (·.1)):=⟨_,rfl⟩;have hdp:PV (SB W l) (.slice x.da x.D.length x.dc):=ZbU (by rw[hlE];simp) kd;have hlp:PV (SB W l) (.slice x.la x.L.length x.lc):=ZbU (by rw[hlE];simp) kl;have p1:PV (SB W l) (.slice a1 r.length c1):=ZbU (by rw[hlE];simp) k1;have p2:PV (SB W l) (.slice a2 s.length c2):=ZbU (by rw[hlE];simp) k2;have p3:PV (SB W l) (.slice a3 n3 c3):=ZbU (by rw[hlE];simp) k3;have hmD:∀p∈x.D,p.1∈l:=λp hp=>by rw[hlE];exact List.mem_append_right _ (List.mem_append_left _ (List.mem_map.2 ⟨p,hp,rfl⟩))
 have hmL:∀p∈x.L,p.1∈l:=λp hp=>by rw[hlE];exact List.mem_append_right _ (List.mem_append_right _ (List.mem_map.2 ⟨p,hp,rfl⟩))
 refine ZfW W (SB W l) _ Zgv (λy hy=>?_) λv hsh T=>?_
 ·simp only[Yb,Yc,Ya,or_false]at hy;rcases hy with rfl | rfl | rfl | rfl | rfl
  ·refine .inr ⟨_,rfl,λy hy=>?_⟩;simp only[Yb,Yc,Ya,or_false]at hy;rcases hy with rfl | rfl | rfl | rfl
   ·trivial
   ·exact hdp
   ·exact hlp
   ·trivial
  ·exact .inl trivial
  ·exact .inl p1
  ·exact .inl p2
  ·exact .inl p3
 ·have sh2:Shadow (SB W l) W (re v T):=⟨hsh.size,hsh.os,hsh.at_⟩;obtain⟨x',e,hx'⟩:=ZlV sh2 hx hdp hlp (Zi1 hx.d hd hmD) (Zi1 hx.l hl hmL);have q:=lawW x' n0 r s a1 a2 a3 c1 c2 n3 c3 z3 (re v T) hx' (@Z2m jk0 _ _ _ _ (λ_ _=>rfl) sh2 _ _ _ _ p1 hr) (@Z2m jk0 _ _ _ _ (λ_ _=>rfl) sh2 _ _ _ _ p2 hs) (ZfR hsh p3 h3);unfold Vm.val at e;rw[e]at q;exact q
end Lift
section
open Go.ChangeShapes Go.WideShapes Go.RowKit
variable{μ:Nat}
section
variable{H:Type}{enc:TypeId×Value->H}{P:Program}{w:World}
theorem Z8K{Q:Value->Prop}{fuel:Nat}{x:DataW H×List MemPlace}(ht:P.underlying t=some (.slice e))(hsz:P.cellsOf e=1)(hE:∀n v y,DataW.trod enc P w 0 (λ_=>true) true n e [v]=some y->Q v)(h:DataW.trod enc P w 0 (λ_=>true) true fuel t cs=some x):
  ∃(a:Option Addr) (c:Nat) (vs:List Value),cs=[.slice a vs.length c]/\(∀v∈vs,Q v)/\Z6 w (.slice a vs.length c) 1 (vs.map λv=>[v]):=by
 rcases DataW.trod_slice ht h with⟨rfl,-⟩ | ⟨a,len,cap,elems,rest,n,-,rfl,-,-,-,-,hlen,hel,-,-⟩
 ·exact⟨none,0,[],rfl,sU,⟨none,0,rfl,sU,λh=>absurd rfl h⟩⟩
 have each:∀i,∃v:Value,i<len->Q v/\w.cell? (a.add i)=some v:=by
  intro i;by_cases hi:i<len
  ·have hq:=hel i hi;rw[List.getElem?_eq_getElem oM,Option.bind_eq_some_iff]at hq;obtain⟨ci,h1,h2⟩:=hq;rw[hsz]at h1;obtain⟨-,hl,hc⟩:=World.cells?_some h1
   match ci,hl with
   | [v],_ =>
    refine⟨v,λ_=>⟨hE _ _ _ h2,?_⟩⟩;have:=hc 0 oM;rw[Nat.mul_one]at this;have h00:(a.add i).add 0=a.add i:=rfl;rw[h00]at this;simpa using this
  ·exact⟨.bool true,λh=>absurd h hi⟩
 obtain⟨f,hf⟩:∃f:Nat->Value,∀i,i<len->Q (f i)/\w.cell? (a.add i)=some (f i):=⟨λi=>Classical.choose (each i),λi=>Classical.choose_spec (each i)⟩;have hL:((List.range len).map f).length=len:=by simp
 refine⟨some a,cap,(List.range len).map f,by rw[hL],?_,?_⟩
 ·intro r hr;obtain⟨i,hi,rfl⟩:=List.mem_map.1 hr;exact(hf i (List.mem_range.1 hi)).1
 ·refine⟨some a,cap,sU,?_,λhne=>?_⟩
  ·intro r hr;obtain⟨r',hr',rfl⟩:=List.mem_map.1 hr;rfl
  ·have hp:0<len:=by
    rcases Nat.eq_zero_or_pos len with rfl | h
    ·exact absurd rfl hne
    ·exact h
   have c0:=(hf 0 hp).2;have ha0:a.add 0=a:=rfl;rw[ha0]at c0;obtain⟨b,off,spot⟩:=a;have hs:spot=none:=by
    cases spot with
    | none=>rfl
    | some k =>
     unfold World.cell? at c0;split at c0<;>simp at c0
   subst hs;have hb:b<w.heap.size:=by
    unfold World.cell? at c0;cases hq:w.heap[b]? with
    | none=>simp[hq]at c0
    | some o=>exact(Y0.1 hq).1
   refine⟨b,off,rfl,hb,λi j r hi hj=>?_⟩;have hil:i<len:=by have:=(List.getElem?_eq_some_iff.1 hi).1;simpa using this
   have hr:r=[f i]:=by simpa[hil] using hi.symm
   subst hr;have hj0:j=0:=by simpa using hj
   subst hj0;have:=(hf i hil).2;rw[add_plain]at this;simpa using this
end
theorem Z97:∀(vs:List Value),(∀v∈vs,∃k:Int,v = .int .i64 k)->∃xs:List Int,xs.length=vs.length/\(vs.map λv=>[v])=xs.map Z4
 | [],_=>⟨[],rfl,rfl⟩
 | v::vs,h=>by
  obtain⟨xs,h1,h2⟩:=Z97 vs λx hx=>h x (List.mem_cons_of_mem _ hx);obtain⟨k,rfl⟩:=h v (List.mem_cons_self ..);exact⟨k::xs,by simp[h1],by simp[h2,Z4]⟩
theorem Z98{w:World}:∀(vs:List Value),(∀v∈vs,∃xs:List Int,Z0w w v xs)->∃L:List (Value×List Int),L.length=vs.length/\(vs.map λv=>[v])=L.map (λp=>[p.1])/\∀p∈L,Z0w w p.1 p.2
 | [],_=>⟨[],rfl,rfl,sU⟩
 | v::vs,h=>by
  obtain⟨L,h1,h2,h3⟩:=Z98 vs λx hx=>h x (List.mem_cons_of_mem _ hx);obtain⟨xs,hx⟩:=h v (List.mem_cons_self ..);exact⟨(v,xs)::L,by simp[h1],by simp[h2],λp hp=>by rcases Yc.1 hp with rfl | hp;(· exact hx);(· exact h3 p hp)⟩
theorem Z9y:Tryz.prog.cellsOf 3=1:=kR
theorem ZkO:Tryz.prog.cellsOf 22=1:=kR
theorem ZkN:Tryz.prog.cellsOf 25=1:=kR
section
variable{H:Type}{enc:TypeId×Value->H}{w:World}
theorem Z7A(n:Nat)(c:Value)(y:DataW H×List MemPlace)(h:DataW.trod enc Tryz.prog w 0 (λ_=>true) true n 3 [c]=some y):∃k:Int,c = .int .i64 k:=by
 obtain⟨k,hk,-,-⟩:=DataW.trod_int Tryz.underlying3 h;simp at hk;exact⟨k,hk⟩
theorem Zgg(n:Nat)(v:Value)(y:DataW H×List MemPlace)(h:DataW.trod enc Tryz.prog w 0 (λ_=>true) true n 22 [v]=some y):∃xs:List Int,Z0w w v xs:=by
 obtain⟨a,c,vs,h1,h2,h3⟩:=Z8K (Q:=λv=>∃k:Int,v = .int .i64 k) Tryz.underlying22 Z9y Z7A h;obtain⟨xs,hx1,hx2⟩:=Z97 vs h2;simp only[List.cons.injEq,and_true]at h1;subst h1;rw[hx2,<-hx1]at h3;exact⟨xs,a,c,by rw[hx1],h3⟩
theorem Zas{a:Addr}(h:w.cell? a=some v): a.spot=none/\∃cs e fz,w.heap[a.block]?=some (.cells cs e fz):=by
 obtain⟨b,off,spot⟩:=a;have hs:spot=none:=by
  cases spot with
  | none=>rfl
  | some k =>
   unfold World.cell? at h;split at h<;>simp at h
 subst hs;exact⟨rfl,(@Z0h Lift.jk0 _ _ _ _ h).2⟩
theorem Zgi(n:Nat)(v:Value)(y:DataW H×List MemPlace)(h:DataW.trod enc Tryz.prog w 0 (λ_=>true) true n 22 [v]=some y):Lift.Wrd w v:=by
 rcases DataW.trod_slice Tryz.underlying22 h with⟨hv,-⟩ | ⟨a,len,cap,elems,rest,m,-,hv,-,-,hlc,-,hlen,hel,hrs,-⟩
 ·simp only[List.cons.injEq,and_true]at hv;subst hv;exact .inl trivial
 ·simp only[List.cons.injEq,and_true]at hv;subst hv;have key:∀(b:Addr) (z:DataW H×List MemPlace),(w.cells? 0 b (Tryz.prog.cellsOf 3)).bind (DataW.trod enc Tryz.prog w 0 (λ_=>true) true m 3)=some z->∃v,w.cell? b=some v:=by
   intro b z hz;obtain⟨ci,h1,-⟩:=Option.bind_eq_some_iff.1 hz;rw[Z9y]at h1;obtain⟨-,hl,hc⟩:=World.cells?_some h1;have h0:=hc 0 oM;rw[show b.add 0=b from rfl,List.getElem?_eq_getElem oM]at h0;exact⟨_,h0⟩
  by_cases h0:0<len
  ·have hq:=hel 0 h0;rw[List.getElem?_eq_getElem oM]at hq;obtain⟨v,hv⟩:=key _ _ hq;rw[Nat.zero_mul]at hv;exact .inl (Zas hv)
  ·obtain rfl:len=0:=by omega
   by_cases h1:0<cap
   ·obtain⟨hr1,hr2⟩:=hrs rfl;have hq:=hr2 0 oM;rw[List.getElem?_eq_getElem oM]at hq;obtain⟨v,hv⟩:=key _ _ hq;rw[Nat.zero_add,Nat.zero_mul]at hv;exact .inl (Zas hv)
   ·obtain rfl:cap=0:=by omega
    exact .inr ⟨a,rfl⟩
theorem Z6e{y:DataW H×List MemPlace}(h:DataW.trod enc Tryz.prog w 0 (λ_=>true) true n 25 cs=some y): ∃(a:Option Addr) (c:Nat) (L:List (Value×List Int)),cs=[.slice a L.length c]/\ZL w a L/\∀p∈L,Lift.Wrd w p.1:=by
 obtain⟨a,c,vs,h1,h2,h3⟩:=Z8K (Q:=λv=>(∃xs:List Int,Z0w w v xs)/\Lift.Wrd w v) Tryz.underlying25 ZkO (λn v y h=>⟨Zgg n v y h,Zgi n v y h⟩) h;obtain⟨L,hl1,hl2,hl3⟩:=Z98 vs λv hv=>(h2 v hv).1;have hw:∀p∈L,Lift.Wrd w p.1:=λp hp=>by
  have:[p.1]∈vs.map λv=>[v]:=by rw[hl2];exact List.mem_map.2 ⟨p,hp,rfl⟩
  obtain⟨v,hv,e⟩:=List.mem_map.1 this;obtain rfl:v=p.1:=by simpa using e
  exact(h2 _ hv).2
 subst h1;rw[hl2,<-hl1]at h3;exact⟨a,c,L,by rw[hl1],⟨Z7 (row:=λp:Value×List Int=>[p.1]) h3 (.bool true,[]),hl3⟩,hw⟩
theorem Zmw(h:l.length=4): ∃c0 c1 c2 c3,l=[c0,c1,c2,c3]:=by
 match l,h with
 | [c0,c1,c2,c3],_=>exact⟨_,_,_,_,rfl⟩
theorem Zgh{y:DataW H×List MemPlace}(h:DataW.trod enc Tryz.prog w 0 (λ_=>true) true n 27 cs=some y):
  ∃x:Vm,cs=[.int .i64 x.B,.slice x.da x.D.length x.dc,.slice x.la x.L.length x.lc,.int .i64 x.tol]/\x.At w/\(∀p∈x.D,Lift.Wrd w p.1)/\∀p∈x.L,Lift.Wrd w p.1:=by
 obtain⟨xs,m,-,-,hl,hxl,hx⟩:=DataW.trod_struct Tryz.underlying27 h;obtain⟨c0,c1,c2,c3,rfl⟩:=Zmw (hl.trans kR);have get:∀i:Nat,i<4->∃y,xs[i]?=some y:=λi hi=>⟨_,List.getElem?_eq_getElem (by rw[hxl];exact hi)⟩;obtain⟨y0,e0⟩:=get 0 oM;obtain⟨y1,e1⟩:=get 1 oM;obtain⟨y2,e2⟩:=get 2 oM;obtain⟨y3,e3⟩:=get 3 oM;have u0:DataW.trod enc Tryz.prog w 0 (λ_=>true) true m 3 (([c0,c1,c2,c3].drop 0).take (Tryz.prog.cellsOf 3))=some y0:=(hx 0 _ rfl).trans e0;have u1:DataW.trod enc Tryz.prog w 0 (λ_=>true) true m 25 (([c0,c1,c2,c3].drop 1).take (Tryz.prog.cellsOf 25))=some y1:=(hx 1 _ rfl).trans e1;have u2:DataW.trod enc Tryz.prog w 0 (λ_=>true) true m 25 (([c0,c1,c2,c3].drop 2).take (Tryz.prog.cellsOf 25))=some y2:=(hx 2 _ rfl).trans e2;have u3:DataW.trod enc Tryz.prog w 0 (λ_=>true) true m 3 (([c0,c1,c2,c3].drop 3).take (Tryz.prog.cellsOf 3))=some y3:=(hx 3 _ rfl).trans e3;simp only[Z9y,ZkN,List.drop_succ_cons,List.drop_zero,List.take_succ_cons,List.take_zero]at u0 u1 u2 u3;obtain⟨B,rfl⟩:=Z7A _ _ _ u0;obtain⟨T,rfl⟩:=Z7A _ _ _ u3;obtain⟨a,c,D,hD,hA,hA2⟩:=Z6e u1;obtain⟨a',c',L,hL,hB,hB2⟩:=Z6e u2;simp only[List.cons.injEq,and_true]at hD hL;subst hD hL;exact⟨⟨B,D,a,c,L,a',c',T⟩,rfl,⟨hA,hB⟩,hA2,hB2⟩
theorem Z6d{P:Program}{w:World}{r:Reach}{base:Nat}(ht:P.underlying t=some (.slice e))(h:Cell.okWide P w r base t v): Lift.Cel w v:=by
 cases v with
 | slice a n c =>
  cases a with
  | none=>trivial
  | some x =>
   simp only[ht,Cell.okWide,Cell.ok]at h;obtain⟨_,_,_,h1,row,cells,h2,_⟩:=h;refine⟨h1,?_⟩;unfold World.shape? at h2;cases hh:w.heap[x.block]? with
   | none=>rw[hh]at h2;cases h2
   | some o =>
    cases o with
    | cells cs e fz=>exact⟨cs,e,fz,rfl⟩
    | _=>rw[hh]at h2;cases h2
 | _=>trivial
theorem ZbQ{w:World}{r:Reach}{base:Nat}{cs:Array Value}(h:Value.okWide Tryz.prog w r base 27 (.agg cs)): ∀v,cs[1]?=some v\/cs[2]?=some v->Lift.Cel w v:=by
 simp only[Value.okWide,Tryz.underlying27]at h;obtain⟨cs',e,_,ts,h1,_,h2⟩:=h;obtain rfl:cs=cs':=by simpa using e
 have h3:ts=[3,25,25,3]:=Y1 (h1.symm.trans kR);subst h3;intro v hv;rcases hv with hv | hv<;>obtain⟨u,k1,k2⟩:=h2 _ v hv<;>obtain rfl:=Y1 k1<;>exact Z6d Tryz.underlying25 k2
end
end
namespace dyeChecks
open Go Go.ChangeShapes Go.WideShapes Go.ChangeAt Go.RowKit Go.Conc Go.ConcM
open Go.ChangeMaps (open_string shut_string)
theorem k1:(Rows.dyeChecksRow.wf (OpenSpec.ofChange Rows.dyeChecksSpec):Bool)=true:=kR
theorem k4:(Tryz.f6.params.all (Tryz.pinned.checked.prog.readableRec ·):Bool)=true:=kR
theorem k5:(namedTie Tryz.pinned.checked.prog Rows.dyeChecksRow.named Rows.dyeChecksSpec.vars:Bool)=true:=kR
theorem k6:((Rows.dyeChecksRow.stops==[]):Bool)=true:=kR
theorem k8:((Rows.dyeChecksRow.knobs==[]):Bool)=true:=kR
theorem k10:((Rows.dyeChecksRow.inPlace==Tryz.pinned.checked.prog.inPlace 6):Bool)=true:=kR
theorem k11:((Rows.dyeChecksRow.unfollowed==Tryz.pinned.checked.prog.unfollowed 6):Bool)=true:=kR
theorem k12:((Rows.dyeChecksRow.recurses==Tryz.pinned.checked.prog.recurses 6):Bool)=true:=kR
theorem k13:((Rows.dyeChecksRow.named==Tryz.pinned.checked.prog.varsNamed 6):Bool)=true:=kR
theorem k14:((Rows.dyeChecksRow.maps==(Tryz.f6.params.toList++Rows.dyeChecksSpec.plain.varTypes Tryz.pinned.checked.prog).any (Tryz.pinned.checked.prog.mapsRec ·)):Bool)=true:=kR
theorem k15:((Rows.dyeChecksRow.ifaces==(Tryz.f6.params.toList++Rows.dyeChecksSpec.plain.varTypes Tryz.pinned.checked.prog).any (Tryz.pinned.checked.prog.ifacesRec ·)):Bool)=true:=kR
theorem k16:((Rows.dyeChecksRow.mapsOut==Tryz.pinned.checked.prog.mapsAmong Tryz.f6.resultTypes.toList):Bool)=true:=kR
theorem k17:((Rows.dyeChecksRow.loops==(Tryz.f6.params.toList++Rows.dyeChecksSpec.plain.varTypes Tryz.pinned.checked.prog).any (Tryz.pinned.checked.prog.loopsFrom ·)):Bool)=true:=kR
theorem k18:((Rows.dyeChecksRow.wideKeys==(Tryz.f6.params.toList++Rows.dyeChecksSpec.plain.varTypes Tryz.pinned.checked.prog++Tryz.f6.resultTypes.toList).any (Tryz.pinned.checked.prog.wideKeysFrom ·)):Bool)=true:=kR
theorem k19:(Rows.dyeChecksSpec.vars.all (Tryz.pinned.checked.prog.varReadable ·):Bool)=true:=kR
theorem k20:(Tryz.f6.resultTypes.all (λt=>Tryz.pinned.checked.prog.readableRec t&&decide (t<Tryz.pinned.checked.prog.types.size)):Bool)=true:=kR
theorem k21:((Rows.dyeChecksRow.ifacesOut==Tryz.f6.resultTypes.toList.any (Tryz.pinned.checked.prog.ifacesRec ·)):Bool)=true:=kR
theorem k22:((Rows.dyeChecksRow.loopsOut==Tryz.f6.resultTypes.toList.any (Tryz.pinned.checked.prog.loopsFrom ·)):Bool)=true:=kR
theorem k23:((Rows.dyeChecksRow.plainKeys==Tryz.pinned.checked.prog.plainKeys):Bool)=true:=kR
theorem k24:(Rows.dyeChecksRow.shortTexts.isNone:Bool)=true:=kR
theorem k27:((Rows.dyeChecksRow.lifted==Tryz.pinned.checked.prog.liftsFinal):Bool)=true:=(congrArg (λx=>(Rows.dyeChecksRow.lifted==x)) liftsFinal).trans kR
theorem k28:((Tryz.pinned.checked.prog.make==some Rows.dyeChecksRow.make):Bool)=true:=(congrArg (λx=>(x==some Rows.dyeChecksRow.make)) made).trans kR
theorem k29:((Rows.dyeChecksRow.domain.isEmpty&&Rows.dyeChecksRow.kinds==[]):Bool)=true:=kR
theorem k30:((Rows.dyeChecksRow.pinned==Rows.dyeChecksRow.pinnedBy):Bool)=true:=kR
theorem k31:((Rows.dyeChecksRow.veiled==(Tryz.f6.params.toList++Rows.dyeChecksSpec.plain.varTypes Tryz.pinned.checked.prog++Tryz.f6.resultTypes.toList).any (Tryz.pinned.checked.prog.veiledRec ·)):Bool)=true:=kR
theorem k32:(Rows.dyeChecksRow.veiledFits Tryz.pinned.checked.prog Tryz.f6.params.toList (Tryz.f6.params.toList++Rows.dyeChecksSpec.plain.varTypes Tryz.pinned.checked.prog++Tryz.f6.resultTypes.toList):Bool)=true:=kR
theorem closed:joinedFacts Tryz.pinned.checked.prog 6 Tryz.f6 Rows.dyeChecksSpec Rows.dyeChecksRow=true:=Z5O k1 ZdM Zj6 k4 k5 k6 ZeR k8 ZdL k10 k11 k12 k13 k14 k15 k16 k17 k18 k19 k20 k21 k22 k23 k24 stopsHeard mayEnter k27 k28 k29 k30 k31 k32
theorem named:Tryz.pinned.checked.prog.funcNamed Rows.dyeChecksRow.func=some 6:=kR
theorem inst:Tryz.f6.isInstance Tryz.pinned.checked.prog Rows.dyeChecksRow.origin Rows.dyeChecksRow.targs:=of_decide_eq_true kR
theorem wrap:Tryz.f6.isWrapper Tryz.pinned.checked.prog Rows.dyeChecksRow.wrapper Rows.dyeChecksRow.mainSum:=by unfold Func.isWrapper;first | (rw[if_pos (by decide +kernel)];kernel_rfl) | (rw[if_neg (by decide +kernel)];exact⟨rfl,rfl⟩)
theorem laidOut:laidOutB Tryz.prog=true:=ZdM
theorem noInit:Tryz.prog.inits.idxOf? 6=none:=kR
theorem sliceInt:Tryz.prog.cellsOf 3=1:=kR
theorem okWide_celV{P:Program}{r:Reach}{base:Nat}(ht:P.underlying t=some (.slice e))(h:Value.okWide P w r base t v): Lift.Cel w v:=by
 simp only[Value.okWide,ht]at h;exact Z6d ht h
theorem lifted(os:Os)(started:os.Started)(H:Type)(enc:TypeId×Value->H)(F:Stop.Interp):
  ReturnsInLeavingWide Rows.dyeChecksRow.assume Tryz.checked os 6 .any (Rows.dyeChecksSpec.pre6 enc Tryz.prog Tryz.f6 Rows.dyeChecksRow.domain false) ((OpenSpec.ofChange Rows.dyeChecksSpec).postWith enc Tryz.prog Tryz.f6 F (outsideKept [.timePasses]) false true false):=by
 refine returnsInLeavingWide_of_change_time (C:=Tryz.checked) own started Tryz.func6
  (ChangeSpec.witness6c (enc:=enc) (C:=Tryz.checked) ⟨#[],#[.agg #[.int .i64 0,.slice none 0 0,.slice none 0 0,.int .i64 0],.int .i64 0,.slice none 0 0,.slice none 0 0,.slice none 0 0],[]⟩ 8 (by as_aux_lemma=>kernel_rfl) (by as_aux_lemma=>kernel_rfl) (by as_aux_lemma=>kernel_rfl) (by as_aux_lemma=>kernel_rfl)) ?_
 intro W base args ds gs before hval0 hW _ _ _;have hval:∀(j:Nat) t v,Tryz.f6.params[j]?=some t->args[j]?=some v->Value.okWide Tryz.prog W .any base t v:=hval0;have hW':=hW;obtain⟨p,q,hA0,hV,rfl,hfz,hnd⟩:=hW;have hA:DataW.TrodAll enc Tryz.prog W 0 (λ_=>true) true Tryz.f6.params.toList args.toList ds p:=hA0;rw[Tryz.params6]at hA hval;obtain⟨v0,vs0,d0,ds0,p0,q0,hargs,rfl,rfl,h0,r0⟩:=trodAll_cons hA;obtain⟨v1,vs1,d1,ds1,p1,q1,rfl,rfl,rfl,h1,r1⟩:=trodAll_cons r0;obtain⟨v2,vs2,d2,ds2,p2,q2,rfl,rfl,rfl,h2,r2⟩:=trodAll_cons r1;obtain⟨v3,vs3,d3,ds3,p3,q3,rfl,rfl,rfl,h3,r3⟩:=trodAll_cons r2;obtain⟨v4,vs4,d4,ds4,p4,q4,rfl,rfl,rfl,h4,r4⟩:=trodAll_cons r3;obtain⟨rfl,rfl,rfl⟩:=trodAll_nil r4;obtain rfl:args=#[v0,v1,v2,v3,v4]:=by cases args;simp_all
 obtain⟨rfl,rfl⟩:=trodVars_none hV;have k0':=h0;have lt0:∀x∈p0,x.block<W.heap.size:=by obtain⟨m,hm⟩:=k0';exact DataW.trod_lt m _ _ _ hm
 have k1':=h1;have lt1:∀x∈p1,x.block<W.heap.size:=by obtain⟨m,hm⟩:=k1';exact DataW.trod_lt m _ _ _ hm
 have k2':=h2;have lt2:∀x∈p2,x.block<W.heap.size:=by obtain⟨m,hm⟩:=k2';exact DataW.trod_lt m _ _ _ hm
 have k3':=h3;have lt3:∀x∈p3,x.block<W.heap.size:=by obtain⟨m,hm⟩:=k3';exact DataW.trod_lt m _ _ _ hm
 have k4':=h4;have lt4:∀x∈p4,x.block<W.heap.size:=by obtain⟨m,hm⟩:=k4';exact DataW.trod_lt m _ _ _ hm
 obtain⟨cs0,rfl,hcs0⟩:=okWide_struct Tryz.underlying27 (hval 0 27 v0 rfl rfl);have hcw0:=ZbQ (hval 0 27 _ rfl rfl);obtain⟨x0,hl0,w0,wd0,wl0⟩:∃x:Vm,cs0.toList=[.int .i64 x.B,.slice x.da x.D.length x.dc,.slice x.la x.L.length x.lc,.int .i64 x.tol]/\x.At W/\(∀p∈x.D,Lift.Wrd W p.1)/\∀p∈x.L,Lift.Wrd W p.1:=by
  obtain⟨fuel,hf⟩:=h0;exact Zgh hf
 obtain rfl:cs0=x0.vc:=Array.toList_inj.1 hl0;obtain⟨x1,rfl⟩:=okWide_int Tryz.underlying3 (hval 1 3 v1 rfl rfl);obtain⟨a2,len2,cap2,rfl⟩:=okWide_slice Tryz.underlying22 (hval 2 22 v2 rfl rfl);have hce2:Lift.Cel W (.slice a2 len2 cap2):=okWide_celV Tryz.underlying22 (hval 2 22 _ rfl rfl);obtain⟨z2,w2⟩:∃zs,Z40 .i64 W a2 len2 cap2 zs:=by
  obtain⟨fuel,hf⟩:=h2;rcases open_ints Tryz.underlying22 Tryz.underlying3 sliceInt hf with⟨hcs,_⟩ | ⟨x,l,c,zs,hcs,_,hl,hm,hz,_,hcell,hwz⟩
  ·simp[Value.cells]at hcs;obtain⟨rfl,rfl,rfl⟩:=hcs;exact⟨[],.inl ⟨rfl,rfl,rfl,rfl⟩⟩
  ·simp[Value.cells]at hcs;obtain⟨rfl,rfl,rfl⟩:=hcs;exact⟨zs,.inr ⟨_,rfl,hl,hm,by simpa using hz,hcell,hwz⟩⟩
 obtain⟨a3,len3,cap3,rfl⟩:=okWide_slice Tryz.underlying22 (hval 3 22 v3 rfl rfl);have hce3:Lift.Cel W (.slice a3 len3 cap3):=okWide_celV Tryz.underlying22 (hval 3 22 _ rfl rfl);obtain⟨z3,w3⟩:∃zs,Z40 .i64 W a3 len3 cap3 zs:=by
  obtain⟨fuel,hf⟩:=h3;rcases open_ints Tryz.underlying22 Tryz.underlying3 sliceInt hf with⟨hcs,_⟩ | ⟨x,l,c,zs,hcs,_,hl,hm,hz,_,hcell,hwz⟩
  ·simp[Value.cells]at hcs;obtain⟨rfl,rfl,rfl⟩:=hcs;exact⟨[],.inl ⟨rfl,rfl,rfl,rfl⟩⟩
  ·simp[Value.cells]at hcs;obtain⟨rfl,rfl,rfl⟩:=hcs;exact⟨zs,.inr ⟨_,rfl,hl,hm,by simpa using hz,hcell,hwz⟩⟩
 obtain⟨a4,len4,cap4,rfl⟩:=okWide_slice Tryz.underlying22 (hval 4 22 v4 rfl rfl);have hce4:Lift.Cel W (.slice a4 len4 cap4):=okWide_celV Tryz.underlying22 (hval 4 22 _ rfl rfl);obtain⟨z4,w4⟩:∃zs,Z40 .i64 W a4 len4 cap4 zs:=by
  obtain⟨fuel,hf⟩:=h4;rcases open_ints Tryz.underlying22 Tryz.underlying3 sliceInt hf with⟨hcs,_⟩ | ⟨x,l,c,zs,hcs,_,hl,hm,hz,_,hcell,hwz⟩
  ·simp[Value.cells]at hcs;obtain⟨rfl,rfl,rfl⟩:=hcs;exact⟨[],.inl ⟨rfl,rfl,rfl,rfl⟩⟩
  ·simp[Value.cells]at hcs;obtain⟨rfl,rfl,rfl⟩:=hcs;exact⟨zs,.inr ⟨_,rfl,hl,hm,by simpa using hz,hcell,hwz⟩⟩
 clear hA0 hval0;obtain⟨M,last,o,w',t',r1,r2,r3,v,e,hp,g1,g2,g3,g4⟩:=Lift.law_runC W x0 x1 a2 len2 cap2 z2 a3 len3 cap3 z3 a4 len4 cap4 z4 w0 wd0 wl0 (hcw0 _ (.inl rfl)) (hcw0 _ (.inr rfl)) w2 hce2 w3 hce3 w4 hce4;refine⟨M,last,o,w',t',r1,r2,r3,v,e,⟨?_,hp.2.2.2.1⟩,g1,g2,g3,g4⟩;obtain⟨rfl,hold,hsz,_,hout⟩:=hp;have bel:Below W.heap.size W {w' with os:=W.os,tape:=W.tape}:=⟨rfl,rfl,hout,hsz,hold⟩;have hp2:Rows.dyeChecksSpec.post enc Tryz.prog Tryz.f6 false true false false W #[.agg x0.vc,.int .i64 x1,.slice a2 len2 cap2,.slice a3 len3 cap3,.slice a4 len4 cap4] (.bool true) {w' with os:=W.os,tape:=W.tape}:=
  ⟨_,_,_,[],_,[],hW',trodAll_mk1 (shut_bool Tryz.underlying4 _),(trodAll_cons_mk (Below.trod laidOut (by as_aux_lemma=>kernel_rfl) (of_decide_eq_true (by as_aux_lemma=>kernel_rfl)) k0' bel lt0) (trodAll_cons_mk (Below.trod laidOut (by as_aux_lemma=>kernel_rfl) (of_decide_eq_true (by as_aux_lemma=>kernel_rfl)) k1' bel lt1) (trodAll_cons_mk (Below.trod laidOut (by as_aux_lemma=>kernel_rfl) (of_decide_eq_true (by as_aux_lemma=>kernel_rfl)) k2' bel lt2) (trodAll_cons_mk (Below.trod laidOut (by as_aux_lemma=>kernel_rfl) (of_decide_eq_true (by as_aux_lemma=>kernel_rfl)) k3' bel lt3) (trodAll_cons_mk (Below.trod laidOut (by as_aux_lemma=>kernel_rfl) (of_decide_eq_true (by as_aux_lemma=>kernel_rfl)) k4' bel lt4) trodAll_mk0))))),rfl,bel.frame _,λh=>by cases h⟩
 obtain⟨ds,gs,before,pr,pa,pv,q1,q2,q3,q4,q5,_⟩:=hp2;exact⟨ds,gs,before,pr,pa,pv,q1,q2.of_heap (by rfl),q3.of_heap (by rfl),q4.of_heap (by rfl),q5,λh=>by cases h⟩
theorem said:Rows.DyeChecksSaid:=
 OpenClaim.holds_of_wide_leaving_time 6 Tryz.f6 rfl rfl rfl rfl rfl rfl rfl ⟨rfl,rfl,rfl,rfl,rfl⟩ rfl rfl rfl rfl rfl named Tryz.func6 closed
  inst wrap (λos started H enc _ F=>lifted os started H enc F)
end dyeChecks
section
variable{μ:Nat}
theorem dyeChecks_said:Rows.DyeChecksSaid:=dyeChecks.said
end
end Go.Proofs.YtfelljbfeoplhaaGreat
