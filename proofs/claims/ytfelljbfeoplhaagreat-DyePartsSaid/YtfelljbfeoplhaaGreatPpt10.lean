/- Parts of a proof: Wf, Wg, Wh, Wi, Wj, Wk, Wl, Wm, Wn, Wo, Wp. No conditions. -/
import Derived.Conc.MuStep0
import Derived.Conc.Own2
import Derived.Conc.QuitsD
import Derived.Test.YtfelljbfeoplhaaGreatPpt1
import Derived.Test.YtfelljbfeoplhaaGreatPpt9
set_option linter.unusedVariables false
set_option linter.unusedSimpArgs false
set_option linter.unusedSectionVars false
set_option maxRecDepth 100000
set_option maxHeartbeats 4000000
namespace Go.Proofs.YtfelljbfeoplhaaGreat
variable{n q:Nat}{l:List Nat}{ls:List (List Nat)}{cvs mks:List Go.Addr}{fn:Go.FuncId}{pos:String}{α:Type}
namespace Lift
open Go Go.Conc Ev
open Mx (mvt isSp isR1 isS1 sm sms OUT)
open Go.ConcM (OsLater)
variable[Jk]
section
variable(N W I L B D c:Nat)(clo:Value)
theorem ZeJ:edg xt (cI2 ⟨N,W,I,L,B,D,1,c,0,clo⟩) (qw 0) [3,11] []=(true,cSt ⟨N,W,I,L,B,D,1,c,0,clo⟩,[],[]):=by kernel_rfl
theorem ZeK:edg xt (cI2 ⟨N,W,I,L,B,D,2,c,0,clo⟩) (qw 0) [3,11] []=(true,cSt ⟨N,W,I,L,B,D,2,c,0,clo⟩,[],[]):=by kernel_rfl
theorem ZeM:edg xt (cI2 ⟨N,W,I,L,B,D,2,c,1,clo⟩) (qw 1) [3,11] []=(true,cSt ⟨N,W,I,L,B,D,2,c,1,clo⟩,[],[]):=by kernel_rfl
theorem ZeL:edg xt (cI2 ⟨N,W,I,L,B,D,3,c,0,clo⟩) (qw 0) [3,11] []=(true,cSt ⟨N,W,I,L,B,D,3,c,0,clo⟩,[],[]):=by kernel_rfl
theorem ZeN:edg xt (cI2 ⟨N,W,I,L,B,D,3,c,1,clo⟩) (qw 1) [3,11] []=(true,cSt ⟨N,W,I,L,B,D,3,c,1,clo⟩,[],[]):=by kernel_rfl
theorem ZeO:edg xt (cI2 ⟨N,W,I,L,B,D,3,c,2,clo⟩) (qw 2) [3,11] []=(true,cSt ⟨N,W,I,L,B,D,3,c,2,clo⟩,[],[]):=by kernel_rfl
end
theorem Z0s(X:Xt)(s:St)(v:Value)(l:List Nat)(ls:List (List Nat)):edg X s v l ls=edgN 200 X s v l ls:=rfl
theorem Zg{X:Xt}{s dst:St}{v:Value}(e:edg X s v l ls=(true,dst,cvs,mks)): (s.ans v).isSome=true:=by
 unfold edg at e;simp only[Y9]at e;exact e.1
theorem Z3z{X:Xt}{s dst:St}{v:Value}(e:edgN n X s v l ls=(true,dst,cvs,mks)): (s.ans v).isSome=true:=by
 unfold edgN at e;simp only[Y9]at e;exact e.1
theorem e_i2(k:Wk)(h:k.lamp<k.n)(h3:k.n<=3):edg xt (cI2 k) (qw k.lamp) [3,11] []=(true,cSt k,[],[]):=by
 obtain⟨N,W,I,L,B,D,n,c,l,clo⟩:=k;dsimp only at h h3;have:(l=0/\n=1)\/(l=0/\n=2)\/(l=1/\n=2)\/(l=0/\n=3)\/(l=1/\n=3)\/(l=2/\n=3):=by omega
 rcases this with⟨rfl,rfl⟩ | ⟨rfl,rfl⟩ | ⟨rfl,rfl⟩ | ⟨rfl,rfl⟩ | ⟨rfl,rfl⟩ | ⟨rfl,rfl⟩
 ·exact ZeJ ..
 ·exact ZeK ..
 ·exact ZeM ..
 ·exact ZeL ..
 ·exact ZeN ..
 ·exact ZeO ..
section
variable{K:Cx}{k:Wk}{RO O:Nat->Prop}{tl cs:List Frame}{c it it' mu mu' dd ms x:Nat}{w w1:World}{s:Sh}{g:Goroutine}{m:Bool}{Stop:(Nat->Prop)->Nat->Goroutine->World->Prop}{d:Nat}{f:Frame}{fs:List Frame}{wst wst' z:Int}{q q' v:Value}
theorem Z1q(hx:x<42)(h:SOk (plc k x it' wst q).top (plc k x it' wst q).rest f fs):WT PP m K RO (Z0N k tl x it') O (plc k x it' wst q).deaf (run1 f (fs++tl)) w:=
 .stop λ_ _=>⟨Z4T k x it' wst q hx,f,fs,wst,q,h,rfl⟩
theorem WT.load{st:St}{T:TypeId}{p:Addr}(h:SOk st.top st.rest f fs)(he:st.lod=some (T,p))(hq:(PP.funcs[st.top.fn]?).any (·.norace)=false)(hag:Z3l PP (isAgg T)=some false)(hc:∀w1,Rely K O w w1->w1.cell? p=some v)(ho:O p.block)(ha:(st.ans v).isSome=true)
  (n:SOk (st.an v).top (st.an v).rest (f.finish v) fs->∀w1,Rely K O w w1->WT PP m K RO Stop O d (run1 (f.finish v) (fs++tl)) w1):WT PP m K RO Stop O d (run1 f (fs++tl)) w:=by
 refine WT.go rfl λw1 hw=>?_;obtain⟨e1,h1⟩:=Zhm (P:=PP) (m:=m) (cs:=tl) h he hq (w:=w1) (Z2i hag w1).1 (hc w1 hw) ha;refine⟨_,w1,_,e1,⟨λ_ _ _=>rfl,λ_ _=>rfl,Ye _,rfl,rfl,λe hm=>?_⟩,?_⟩
 ·simp only[Yb,List.mem_singleton]at hm
  subst hm;refine .inl ⟨p,false,rfl,.inl ho,?_,by simp⟩;have:=hc w1 hw;unfold World.cell? at this
  cases hb:w1.heap[p.block]? with
  | none=>rw[hb]at this;cases this
  | some o=>exact(Y0.1 hb).1
 ·rw[Z0P O w1 w1 rfl]
  exact n h1 w1 hw
theorem Z3m(hS:ShAt K w s)(r:Rely K O w w1):∃s1,ShAt K w1 s1:=r.live ⟨s,hS⟩
theorem Zf3(W:Wok K k)(hS:ShAt K w s)(hB:Bx k O w)(h:SOk (cIn k).top (cIn k).rest f fs):WT PP false K RO (Z0N k tl 32 0) O (cIn k).deaf (run1 f (fs++tl)) w:=by
 have d0:(cIn k).deaf=0:=by kernel_rfl
 have d2:(cI2 k).deaf=0:=by kernel_rfl
 have n1:(PP.funcs[(cIn k).top.fn]?).any (·.norace)=false:=by kernel_rfl
 have n2:(PP.funcs[(cI2 k).top.fn]?).any (·.norace)=false:=by kernel_rfl
 have l1:(cIn k).lod=some (151,⟨k.B,0,none⟩):=by kernel_rfl
 have l2:(cI2 k).lod=some (3,⟨k.L,0,none⟩):=by kernel_rfl
 have a1:Z3l PP (isAgg 151)=some false:=by kernel_rfl
 have a2:Z3l PP (isAgg 3)=some false:=by kernel_rfl
 rw[d0];refine WT.load h l1 n1 a1 (λw1 hw=>?_) hB.ob (Zg (e_in k)) λh1 w1 hw=>?_
 ·obtain⟨T,fz,e⟩:=(hB.rely hw).found
  rw[Z04 e];rfl
 obtain⟨s1,hS1⟩:=Z3m hS hw;have hB1:=hB.rely hw;refine WT.edge xok ((Z0s ..).symm.trans (e_in k)) hS1 (by simp) (by simp) d0 h1 λf2 fs2 h2=>?_;rw[d2];refine WT.load h2 l2 n2 a2 (λw2 hw2=>?_) hB1.ol (Zg (e_i2 k W.lamp W.small)) λh3 w2 hw2=>?_
 ·obtain⟨T,fz,e⟩:=(hB1.rely hw2).lamp
  rw[Z04 e];rfl
 obtain⟨s2,hS2⟩:=Z3m hS1 hw2;exact WT.edge xok ((Z0s ..).symm.trans (e_i2 k W.lamp W.small)) hS2 (by simp) (by simp) d2 h3 λf4 fs4 h4=>Z1q (wst:=0) (q:=undef) (by decide) h4
theorem Zg4(W:Wok K k)(hS:ShAt K w s)(h:SOk (cUl k).top (cUl k).rest f fs):WT PP false K RO (Z0N k tl 36 0) O (cUl k).deaf (run1 f (fs++tl)) w:=by
 have n1:(PP.funcs[(cUl k).top.fn]?).any (·.norace)=true:=by kernel_rfl
 have l1:(cUl k).lod=some (21,⟨k.N,0,none⟩):=by kernel_rfl
 have a1:Z3l PP (isAgg 21)=some false:=by kernel_rfl
 rw[W.N]at l1;refine WT.go rfl λw1 hw=>?_;obtain⟨s1,hS1⟩:=Z3m hS hw;obtain⟨e1,h1⟩:=Zge (P:=PP) (m:=false) (cs:=tl) h l1 n1 (w:=w1) (Z2i a1 w1).1 hS1.mu0 (Zg (e_ul k s1.mu));refine⟨_,w1,_,e1,⟨λ_ _ _=>rfl,λ_ _=>rfl,Ye _,rfl,rfl,by simp⟩,?_⟩;rw[Z0P O w1 w1 rfl];refine WT.edge xok ((Z0s ..).symm.trans (e_ul k s1.mu)) hS1 (by simp[W.N]) (by simp[W.N]) rfl h1 λf2 fs2 h2=>Z1q (wst:=0) (q:=undef) (by decide) h2
theorem Z2B(h1:isSp c=false)(h2:isR1 c=false):((isSp c=true/\isR1 x=true)\/(isR1 c=true/\isSp x=true))->sm x it'<sm c it:=by
 rintro (⟨h,_⟩ | ⟨h,_⟩)
 ·rw[h1]at h;cases h
 ·rw[h2]at h;cases h
theorem ZdG(h0:isSp c=false)(h1:isR1 c=true)(h2:isSp x=true\/isSp x=false)(hi:it'=it):((isSp c=true/\isR1 x=true)\/(isR1 c=true/\isSp x=true))->sm x it'<sm c it:=by
 rintro (⟨h,_⟩ | ⟨_,h⟩)
 ·rw[h0]at h;cases h
 ·unfold sm
  rw[h,h0,h1,hi];simp only[cond_true,cond_false];omega
theorem ZiD(h0:isSp c=true)(h1:isR1 c=false)(h2:isSp x=false)(hi:it'=it+1)(h4:it<5):((isSp c=true/\isR1 x=true)\/(isR1 c=true/\isSp x=true))->sm x it'<sm c it:=by
 rintro (⟨_,h⟩ | ⟨h,_⟩)
 ·unfold sm
  rw[h,h0,h2,hi];simp only[cond_true,cond_false];omega
 ·rw[h1]at h;cases h
theorem ZkB(h1:isR1 c=false)(h2:isR1 x=false):((isSp c=true/\isR1 x=true)\/(isR1 c=true/\isSp x=true))->sm x it'<sm c it:=by
 rintro (⟨_,h⟩ | ⟨h,_⟩)
 ·rw[h2]at h;cases h
 ·rw[h1]at h;cases h
noncomputable def Z30(c mu x mu' dd:Nat):Bool:=match mvt c mu with
 | none=>false
 | some l=>l.any λ(a,b,e)=>Nat.beq a x&&Nat.beq b mu'&&Nat.beq e dd
theorem Zdr(h:Z30 c mu x mu' dd=true):∃l,mvt c mu=some l/\(x,mu',dd)∈l:=by
 unfold Z30 at h
 cases e:mvt c mu with
 | none=>rw[e]at h;cases h
 | some l =>
  rw[e]at h;obtain⟨⟨a,b,e⟩,hm,h⟩:=List.any_eq_true.1 h;simp only[Y5,Nat.beq_eq]at h;obtain⟨⟨rfl,rfl⟩,rfl⟩:=h;exact⟨l,rfl,hm⟩
theorem Z9a{X:Xt}{dst:St}(hX:XOk PP X)(e:edgN n X (plc k c it wst q) v l ls=(true,dst,cvs,mks))(W:Wok K k)(hc:c<42)(hcv:∀p∈cvs,p=⟨k.N,0,none⟩\/p=⟨k.W,0,none⟩)(hmk:∀p∈mks,p=⟨k.N,0,none⟩)(hm:Z30 c mu x mu' dd=true)(hi:itOk x it')(hs:((isSp c=true/\isR1 x=true)\/(isR1 c=true/\isSp x=true))->sm x it'<sm c it)(go:∀{f fs w s},ShAt K w s->Bx k O w->SOk dst.top dst.rest f fs->WT PP false K RO (Z0N k tl x it') O dst.deaf (run1 f (fs++tl)) w): Lead K k RO O tl c it mu wst q v mu' dd:=
 ⟨x,it',Zdr hm,hi,hs,Z3z e,λ{f fs w s} hS hB h=>WT.edge hX e hS (by rw[<-W.N,<-W.W];exact hcv) (λp hp=>by rw[hmk p hp];exact W.N) (Z4T k c it wst q hc) h λf' fs' h'=>go hS hB h'⟩
theorem ZhR{X:Xt}(hX:XOk PP X)(e:edgN n X (plc k c it wst q) v l ls=(true,plc k x it' wst' q',cvs,mks))(W:Wok K k)(hc:c<42)(hx:x<42)(hcv:∀p∈cvs,p=⟨k.N,0,none⟩\/p=⟨k.W,0,none⟩)(hmk:∀p∈mks,p=⟨k.N,0,none⟩)(hm:Z30 c mu x mu' dd=true)(hi:itOk x it')(hs:((isSp c=true/\isR1 x=true)\/(isR1 c=true/\isSp x=true))->sm x it'<sm c it): Lead K k RO O tl c it mu wst q v mu' dd:=
 Z9a hX e W hc hcv hmk hm hi hs λhS hB h=>Z1q hx h
theorem Zih(H:Prem K k O c it s mu ms w)(h:SOk (plc k c it wst q).top (plc k c it wst q).rest f fs)(hs1:isS1 c=true)(hx:∃vs,(plc k c it wst q).ext PP=some (164,pa k.N 1::vs))(hn:mvt c mu=some []):Z1s K k RO O tl c it s mu ms (run1 f (fs++tl)) w:=by
 obtain⟨vs,hx⟩:=hx;rw[H.ok.N]at hx;exact .inl ⟨hs1,H.s1 hs1 hn,Z8V h hx ZcP (by rw[H.sh.mu1,H.vms,H.s1 hs1 hn];rfl)⟩
theorem Z9s{X:Xt}{st dst:St}(hX:XOk PP X)(e:((pn PP X n st).cut l ls,(pn PP X n st).cvs,(pn PP X n st).mks)=(dst,[],[]))(h:SOk st.top st.rest f fs)(k:∀f' fs',SOk dst.top dst.rest f' fs'->WT PP m K RO Stop O dst.deaf (run1 f' (fs'++cs)) w): WT PP m K RO Stop O st.deaf (run1 f (fs++cs)) w:=by
 simp only[Y9]at e;obtain⟨rfl,e2,e3⟩:=e;refine WT.pn hX n st h h.1.round (by rw[e2];simp) (by rw[e3];simp) λf' fs' h'=>?_;have:=k f' fs' (Z32 h' l ls);rw[Z2g]at this;exact this
theorem Zk1{x1 x2:Nat}{sv:Bool}(W:Wok K k)(hc:c<42)(e:edgN n xt (plc k c it wst q) (.bool true) [0,2,3,8,87] [[],[],[2,3,4]]=(true,cQ k sv wst (.bool (!decide (wst=0))) (decide (wst=0)),[],[]))(hx1:x1<42)(hx2:x2<42)(h1:∀q,plc k x1 0 wst q=cT1 k sv q)(h2:∀q,plc k x2 0 wst q=cS1 k sv wst q)(m1:Z30 c mu x1 mu' 1=true)(m2:Z30 c mu x2 mu' 1=true)(i1:itOk x1 0)(i2:itOk x2 0)(s1:((isSp c=true/\isR1 x1=true)\/(isR1 c=true/\isSp x1=true))->sm x1 0<sm c it)(s2:((isSp c=true/\isR1 x2=true)\/(isR1 c=true/\isSp x2=true))->sm x2 0<sm c it): Lead K k RO O tl c it mu wst q (.bool true) mu' 1:=by
 generalize hb:decide (wst=0)=b at e
 cases b
 ·refine⟨x2,0,Zdr m2,i2,s2,Z3z e,λ{f fs w s} hS hB h=>WT.edge xok e hS (by simp) (by simp) (Z4T k c it wst q hc) h λf' fs' h'=>Z9s xok (ZcG k sv wst _) h' λf2 fs2 h3=>?_⟩
  rw[<-h2]at h3⊢;exact Z1q hx2 h3
 ·refine⟨x1,0,Zdr m1,i1,s1,Z3z e,λ{f fs w s} hS hB h=>WT.edge xok e hS (by simp) (by simp) (Z4T k c it wst q hc) h λf' fs' h'=>Z9s xok (ZeP k sv wst _) h' λf2 fs2 h3=>?_⟩
  rw[<-h1]at h3⊢;exact Z1q hx1 h3
theorem Zj6(h:it<=4):IntKind.i64.wrap ((it:Int)+1)=((it+1:Nat):Int):=by
 have:it=0\/it=1\/it=2\/it=3\/it=4:=by omega
 rcases this with rfl | rfl | rfl | rfl | rfl<;>rfl
theorem Ziv:∀p∈([]:List Addr),p=⟨k.N,0,none⟩\/p=⟨k.W,0,none⟩:=by simp
theorem Zay:∀p∈([]:List Addr),p=⟨k.N,0,none⟩:=by simp
theorem ZlQ:∀p∈[(⟨k.N,0,none⟩:Addr)],p=⟨k.N,0,none⟩\/p=⟨k.W,0,none⟩:=by simp
theorem Zkt:∀p∈[(⟨k.N,0,none⟩:Addr)],p=⟨k.N,0,none⟩:=by simp
theorem Zd7(h:x≠1):itOk x 0:=⟨by omega,λe=>absurd e h⟩
theorem ZjW(hi:it<=4)(h:x≠1):itOk x it:=⟨hi,λe=>absurd e h⟩
def clc(x:Nat):List Nat:=bif Nat.ble x 0 then[0,128,129] else bif Nat.ble x 1 then[0,2,3,4,5,33,36,37,39] else bif Nat.ble x 13 then[0,2,3,4,5,6,77,78,79] else bif Nat.ble x 15 then[0,1,12] else bif Nat.ble x 16 then[0,2,3,4,5,12] else bif Nat.ble x 19 then[0,2,3,4,5,47] else bif Nat.ble x 21 then[0,2,3,103] else bif Nat.ble x 24 then[0,2,3,4,5,133] else bif Nat.ble x 26 then[0,2,3,91,92] else bif Nat.ble x 31 then[0,2,3,4,5,6,17,18] else bif Nat.ble x 35 then[0,2,95] else bif Nat.ble x 38 then[0,27,28,29] else bif Nat.ble x 39 then[0,37] else bif Nat.ble x 40 then[33] else[41]
def cls(x:Nat):List (List Nat):=bif Nat.beq x 15 then[[],[]] else bif Nat.ble x 35 then[[],[],[2,3,4]] else[[],[],[]]
def ccv(k:Wk)(x:Nat):List Addr:=bif Nat.beq x 15 then[⟨k.W,0,none⟩] else[]
noncomputable def cXt(x:Nat):Xt:=bif Nat.beq x 15 then xtQ else xt
theorem cXok(x:Nat):XOk PP (cXt x):=by unfold cXt;cases Nat.beq x 15;exact xok;exact xokQ
theorem Zjt:∀p∈ccv k x,p=⟨k.N,0,none⟩\/p=⟨k.W,0,none⟩:=by unfold ccv;cases Nat.beq x 15<;>simp
theorem i0(h:x≠1:=by decide):itOk x 0:=Zd7 h
theorem i1(H:Prem K k O c it s mu ms w)(h:x≠1:=by decide):itOk x it:=ZjW H.it.1 h
theorem lTi(H:Prem K k O c it s mu ms w)(hi:itOk x it')(hz:z=(it':Int))(e:edg (cXt x) (plc k c it wst q) v (clc x) (cls x)=(true,plcI k x z wst' q,ccv k x,[]))(hc:c<42)(hx:x<42)
  (hm:Z30 c mu x mu' dd=true) (hs:((isSp c=true/\isR1 x=true)\/(isR1 c=true/\isSp x=true))->sm x it'<sm c it):Lead K k RO O tl c it mu wst q v mu' dd:=by
 subst hz;exact ZhR (cXok x) e H.ok hc hx Zjt Zay hm hi hs
theorem l0(H:Prem K k O c it s mu ms w)(x:Nat)(wst':Int:=wst)(e:edg (cXt x) (plc k c it wst q) v (clc x) (cls x)=(true,plcI k x (0:Nat) wst' q,ccv k x,[]):=by kernel_rfl)(hi:itOk x 0:=by exact i0)(hc:c<42:=by decide)(hx:x<42:=by decide)
  (hm:Z30 c mu x mu' dd=true:=by kernel_rfl) (hs:((isSp c=true/\isR1 x=true)\/(isR1 c=true/\isSp x=true))->sm x 0<sm c it:=by exact Z2B rfl rfl):Lead K k RO O tl c it mu wst q v mu' dd:=lTi H hi rfl e hc hx hm hs
theorem l1(H:Prem K k O c it s mu ms w)(x:Nat)(hi:itOk x it:=by exact i1 H)(e:edg (cXt x) (plc k c it wst q) v (clc x) (cls x)=(true,plcI k x it wst q,ccv k x,[]):=by kernel_rfl)(hc:c<42:=by decide)(hx:x<42:=by decide)
  (hm:Z30 c mu x mu' dd=true:=by kernel_rfl) (hs:((isSp c=true/\isR1 x=true)\/(isR1 c=true/\isSp x=true))->sm x it<sm c it:=by first | exact Z2B rfl rfl | exact ZkB rfl rfl | exact ZdG rfl rfl (.inl rfl) rfl | exact ZdG rfl rfl (.inr rfl) rfl):Lead K k RO O tl c it mu wst q v mu' dd:=lTi H hi rfl e hc hx hm hs
theorem l2(H:Prem K k O c it s mu ms w)(h4:it<4)(x:Nat)(e:edg (cXt x) (plc k c it wst q) v (clc x) (cls x)=(true,plcI k x (IntKind.i64.wrap ((it:Int)+1)) wst q,ccv k x,[]):=by kernel_rfl)(hc:c<42:=by decide)(hx:x<42:=by decide)
  (hm:Z30 c mu x mu' dd=true:=by kernel_rfl) (hn:x≠1:=by decide) (hs:((isSp c=true/\isR1 x=true)\/(isR1 c=true/\isSp x=true))->sm x (it+1)<sm c it:=by first | exact Z2B rfl rfl | exact ZiD rfl rfl rfl rfl (Nat.lt_succ_of_lt ‹_›)):Lead K k RO O tl c it mu wst q v mu' dd:=lTi H (ZjW h4 hn) (Zj6 H.it.1) e hc hx hm hs
theorem lG(H:Prem K k O c it s mu ms w)(e:edg xt (plc k c it wst q) v [2,3,4] []=(true,cIn k,[⟨k.N,0,none⟩],[⟨k.N,0,none⟩]):=by kernel_rfl)(hc:c<42:=by decide)(hm:Z30 c mu 32 mu' dd=true:=by kernel_rfl):Lead K k RO O tl c it mu wst q v mu' dd:=
 Z9a xok e H.ok hc ZlQ Zkt hm (Zd7 (by decide)) (λh=>absurd h (by rintro (⟨_,h⟩ | ⟨_,h⟩)<;>cases h)) λhS hB h=>Zf3 H.ok hS hB h
theorem lQ(H:Prem K k O c it s mu ms w)(x1 x2:Nat)(e:edgN 23 xt (plc k c it wst q) (.bool true) [0,2,3,8,87] [[],[],[2,3,4]]=(true,cQ k (Nat.beq x1 34) wst (.bool (!decide (wst=0))) (decide (wst=0)),[],[]):=by kernel_rfl)(hc:c<42:=by decide)(h1:x1<42:=by decide)(h2:x2<42:=by decide)
  (t1:∀q,plc k x1 0 wst q=cT1 k (Nat.beq x1 34) q:=by exact λ_=>rfl) (t2:∀q,plc k x2 0 wst q=cS1 k (Nat.beq x1 34) wst q:=by exact λ_=>rfl) (m1:Z30 c mu x1 mu' 1=true:=by kernel_rfl) (m2:Z30 c mu x2 mu' 1=true:=by kernel_rfl) (n1:x1≠1:=by decide) (n2:x2≠1:=by decide)
  (r:isSp c=false:=by rfl) (r1:isR1 c=false:=by rfl):Lead K k RO O tl c it mu wst q (.bool true) mu' 1:=Zk1 H.ok hc e h1 h2 t1 t2 m1 m2 (Zd7 n1) (Zd7 n2) (Z2B r r1) (Z2B r r1)
theorem lW(H:Prem K k O c it s mu ms w)(e:edg xt (plc k c it wst q) (qw z) [0,2,3,103] [[],[],[2,3,4]]=(true,cR2 k (decide (1000000<IntKind.i64.wrap (z-wst))) wst,[],[]):=by kernel_rfl)(hc:c<42:=by decide)(m1:Z30 c mu 20 mu' dd=true:=by kernel_rfl)(m2:Z30 c mu 21 mu' dd=true:=by kernel_rfl)
  (r:isSp c=false:=by rfl) (r1:isR1 c=false:=by rfl):Lead K k RO O tl c it mu wst q (qw z) mu' dd:=by
 cases hz:decide (1000000<IntKind.i64.wrap (z-wst))<;>rw[hz]at e
 ·exact lTi (x:=20) H i0 rfl e hc (by decide) m1 (Z2B r r1)
 ·exact lTi (x:=21) H i0 rfl e hc (by decide) m2 (Z2B r r1)
def cas(c:Nat):Nat×Nat:=bif Nat.ble c 14 then[(0,0),(9,11),(0,1),(1,9),(2,1),(2,1),(2,3),(3,9),(3,13),(8,9),(9,17),(10,9),(10,9),(11,17),(0,1)].getD c (0,0) else bif Nat.beq c 37 then(8,2) else(16,10)
def adz(c:Nat):Int:=bif Nat.beq c 0 then -11 else -1
section
variable(H:Prem K k O c it s mu ms w)(h:SOk (plc k c it wst q).top (plc k c it wst q).rest f fs)
include H h
theorem mH(A:Off3 K k)(n:Lead K k RO O tl c it mu wst q (.bool true) (cas c).2 1)(hx:(plc k c it wst q).ext PP=some (154,[pa k.N 0,iw ((cas c).1:Nat),iw ((cas c).2:Nat)]):=by kernel_rfl)(hc:c≠32:=by decide)(hd:dpc c=1:=by rfl)(he:(mu:Int)=(cas c).1:=by rfl):Z1s K k RO O tl c it s mu ms (run1 f (fs++tl)) w:=
 ZgL H h A hc hd hx (λ_=>⟨_,rfl,n⟩) λe=>absurd he e
theorem mM(A:Off3 K k)(n:Lead K k RO O tl c it mu wst q (.bool false) mu 1)(hx:(plc k c it wst q).ext PP=some (154,[pa k.N 0,iw ((cas c).1:Nat),iw ((cas c).2:Nat)]):=by kernel_rfl)(hc:c≠32:=by decide)(hd:dpc c=1:=by rfl)(he:Nat.beq mu (cas c).1=false:=by rfl):Z1s K k RO O tl c it s mu ms (run1 f (fs++tl)) w:=
 ZgL H h A hc hd hx (λe=>absurd (Int.ofNat.inj e) (Nat.ne_of_beq_eq_false he)) λ_=>n
theorem mL(n:Lead K k RO O tl c it mu wst q (iw mu) mu 1)(hx:(plc k c it wst q).lod=some (21,⟨k.N,0,none⟩):=by kernel_rfl)(hq:(PP.funcs[(plc k c it wst q).top.fn]?).any (·.norace)=true:=by kernel_rfl)(hc:c≠32:=by decide):Z1s K k RO O tl c it s mu ms (run1 f (fs++tl)) w:=
 Zki H h hc hx hq (by kernel_rfl) n
theorem mP(n:Lead K k RO O tl c it mu wst q (.bool false) mu 1)(y:it<4->Lead K k RO O tl c it mu wst q (.bool true) mu 1)(hx:(plc k c it wst q).ext PP=some (160,[qw it]):=by kernel_rfl)(hc:c≠32:=by decide):Z1s K k RO O tl c it s mu ms (run1 f (fs++tl)) w:=Zii H h hc hx n y
theorem mT(n:∀z:Int,Lead K k RO O tl c it mu wst q (qw z) mu 1)(hx:(plc k c it wst q).ext PP=some (163,[]):=by kernel_rfl)(hc:c≠32:=by decide):Z1s K k RO O tl c it s mu ms (run1 f (fs++tl)) w:=Zkj H h hc hx n
theorem mA(A:Off3 K k)(mu':Nat)(n:Lead K k RO O tl c it mu wst q (iw mu') mu' 1)(hx:(plc k c it wst q).ext PP=some (156,[pa k.N 0,iw (adz c)]):=by kernel_rfl)(hc:c≠32:=by decide)(hd:dpc c=1:=by rfl)(hz:IntKind.i32.wrap ((mu:Int)+adz c)=(mu':Int):=by rfl):Z1s K k RO O tl c it s mu ms (run1 f (fs++tl)) w:=Zkh H h A hc hd hx hz n
theorem mS(A:Off3 K k)(n:Lead K k RO O tl c it mu wst q (.tuple #[]) mu 0)(hx:(plc k c it wst q).ext PP=some (164,[pa k.N 1,q,qw 2]):=by kernel_rfl)(hc:c≠32:=by decide)(hs:isS1 c=true:=by rfl):Z1s K k RO O tl c it s mu ms (run1 f (fs++tl)) w:=Zkm H h A hc hs hx n
theorem mN(hx:(plc k c it wst q).ext PP=some (164,[pa k.N 1,q,qw 2]):=by kernel_rfl)(hs:isS1 c=true:=by rfl)(hn:mvt c mu=some []:=by kernel_rfl):Z1s K k RO O tl c it s mu ms (run1 f (fs++tl)) w:=Zih H h hs ⟨_,hx⟩ hn
theorem mR(A:Off3 K k)(b:Bool)(n:Lead K k RO O tl c it mu wst q (.tuple #[]) mu 2)(hx:(plc k c it wst q).ext PP=some (166,[pa k.N 1,.bool b,qw 2]):=by kernel_rfl)(hc:c≠32:=by decide):Z1s K k RO O tl c it s mu ms (run1 f (fs++tl)) w:=Zkl H h A hc hx n
end
theorem mW(H:Prem K k O 32 it s mu ms w)(h:SOk (plc k 32 it wst q).top (plc k 32 it wst q).rest f fs)(A:Off3 K k)(hm:Z30 32 mu 36 mu 1=true:=by kernel_rfl):Z1s K k RO O tl 32 it s mu ms (run1 f (fs++tl)) w:=
 Zkk H h A rfl (T:=4) (by kernel_rfl) (by kernel_rfl) (by kernel_rfl) (Z9a (x:=36) (it':=0) (dst:=cUl k) xok (e_st k) H.ok (by decide) Ziv Zay hm i0 (Z2B rfl rfl) (λhS hB h=>Zg4 H.ok hS h))
def prs:List (Nat×Nat):=[(0,12),(1,0),(1,1),(1,2),(1,8),(1,9),(2,0),(2,1),(3,0),(3,1),(3,2),(3,8),(3,9),(4,2),(4,3),(5,2),(5,3),(6,0),(6,1),(6,2),(7,2),(7,3),(8,2),(8,3),(9,0),(9,1),(9,2),(9,8),(10,0),(10,1),(10,2),(10,8),(10,9),(11,10),(12,10),(13,10),(13,11),(14,0),(14,1),(14,2),(14,8),(14,9),(16,0),(16,1),(16,2),(16,8),(16,9),(17,0),(17,1),(17,2),(17,8),(17,9),(18,2),(18,3),(18,10),(18,11),(19,2),(19,3),(20,2),(20,3),(20,10),(21,2),(21,3),(21,10),(21,12),(22,0),(22,1),(22,2),(22,8),(22,9),(23,2),(23,3),(23,10),(24,2),(24,3),(25,2),(25,3),(25,8),(25,9),(25,10),(25,11),(25,16),(25,17),(26,12),(26,13),(27,0),(27,1),(27,2),(27,8),(27,9),(28,2),(28,3),(29,2),(29,3),(30,0),(30,1),(30,2),(30,8),(30,9),(31,10),(31,11),(32,1),(32,3),(32,9),(32,11),(32,13),(32,17),(33,2),(33,3),(33,8),(33,9),(33,10),(33,11),(33,16),(33,17),(34,12),(34,13),(35,2),(35,3),(35,10),(36,1),(36,3),(36,9),(36,11),(36,13),(36,17),(37,0),(37,1),(37,2),(37,8),(37,9),(38,16),(39,0),(39,1),(39,2),(39,8),(39,9),(40,2),(40,3),(40,10),(41,12)]
theorem moves(hp:(c,mu)∈prs)(H:Prem K k O c it s mu ms w)(A:Off3 K k)(hat:Z0N k tl c it O d g w):Z1s K k RO O tl c it s mu ms g w:=by
 obtain⟨_,f,fs,wst,q,h,rfl⟩:=hat
 simp only[prs,Yc,Y9,Ya,or_false]at hp
 rcases hp with⟨rfl,rfl⟩ | ⟨rfl,rfl⟩ | ⟨rfl,rfl⟩ | ⟨rfl,rfl⟩ | ⟨rfl,rfl⟩ | ⟨rfl,rfl⟩ | ⟨rfl,rfl⟩ | ⟨rfl,rfl⟩ | ⟨rfl,rfl⟩ | ⟨rfl,rfl⟩ | ⟨rfl,rfl⟩ | ⟨rfl,rfl⟩ | ⟨rfl,rfl⟩ | ⟨rfl,rfl⟩ | ⟨rfl,rfl⟩ | ⟨rfl,rfl⟩ | ⟨rfl,rfl⟩ | ⟨rfl,rfl⟩ | ⟨rfl,rfl⟩ | ⟨rfl,rfl⟩ | ⟨rfl,rfl⟩ | ⟨rfl,rfl⟩ | ⟨rfl,rfl⟩ | ⟨rfl,rfl⟩ | ⟨rfl,rfl⟩ | ⟨rfl,rfl⟩ | ⟨rfl,rfl⟩ | ⟨rfl,rfl⟩ | ⟨rfl,rfl⟩ | ⟨rfl,rfl⟩ | ⟨rfl,rfl⟩ | ⟨rfl,rfl⟩ | ⟨rfl,rfl⟩ | ⟨rfl,rfl⟩ | ⟨rfl,rfl⟩ | ⟨rfl,rfl⟩ | ⟨rfl,rfl⟩ | ⟨rfl,rfl⟩ | ⟨rfl,rfl⟩ | ⟨rfl,rfl⟩ | ⟨rfl,rfl⟩ | ⟨rfl,rfl⟩ | ⟨rfl,rfl⟩ | ⟨rfl,rfl⟩ | ⟨rfl,rfl⟩ | ⟨rfl,rfl⟩ | ⟨rfl,rfl⟩ | ⟨rfl,rfl⟩ | ⟨rfl,rfl⟩ | ⟨rfl,rfl⟩ | ⟨rfl,rfl⟩ | ⟨rfl,rfl⟩ | ⟨rfl,rfl⟩ | ⟨rfl,rfl⟩ | ⟨rfl,rfl⟩ | ⟨rfl,rfl⟩ | ⟨rfl,rfl⟩ | ⟨rfl,rfl⟩ | ⟨rfl,rfl⟩ | ⟨rfl,rfl⟩ | ⟨rfl,rfl⟩ | ⟨rfl,rfl⟩ | ⟨rfl,rfl⟩ | ⟨rfl,rfl⟩ | ⟨rfl,rfl⟩ | ⟨rfl,rfl⟩ | ⟨rfl,rfl⟩ | ⟨rfl,rfl⟩ | ⟨rfl,rfl⟩ | ⟨rfl,rfl⟩ | ⟨rfl,rfl⟩ | ⟨rfl,rfl⟩ | ⟨rfl,rfl⟩ | ⟨rfl,rfl⟩ | ⟨rfl,rfl⟩ | ⟨rfl,rfl⟩ | ⟨rfl,rfl⟩ | ⟨rfl,rfl⟩ | ⟨rfl,rfl⟩ | ⟨rfl,rfl⟩ | ⟨rfl,rfl⟩ | ⟨rfl,rfl⟩ | ⟨rfl,rfl⟩ | ⟨rfl,rfl⟩ | ⟨rfl,rfl⟩ | ⟨rfl,rfl⟩ | ⟨rfl,rfl⟩ | ⟨rfl,rfl⟩ | ⟨rfl,rfl⟩ | ⟨rfl,rfl⟩ | ⟨rfl,rfl⟩ | ⟨rfl,rfl⟩ | ⟨rfl,rfl⟩ | ⟨rfl,rfl⟩ | ⟨rfl,rfl⟩ | ⟨rfl,rfl⟩ | ⟨rfl,rfl⟩ | ⟨rfl,rfl⟩ | ⟨rfl,rfl⟩ | ⟨rfl,rfl⟩ | ⟨rfl,rfl⟩ | ⟨rfl,rfl⟩ | ⟨rfl,rfl⟩ | ⟨rfl,rfl⟩ | ⟨rfl,rfl⟩ | ⟨rfl,rfl⟩ | ⟨rfl,rfl⟩ | ⟨rfl,rfl⟩ | ⟨rfl,rfl⟩ | ⟨rfl,rfl⟩ | ⟨rfl,rfl⟩ | ⟨rfl,rfl⟩ | ⟨rfl,rfl⟩ | ⟨rfl,rfl⟩ | ⟨rfl,rfl⟩ | ⟨rfl,rfl⟩ | ⟨rfl,rfl⟩ | ⟨rfl,rfl⟩ | ⟨rfl,rfl⟩ | ⟨rfl,rfl⟩ | ⟨rfl,rfl⟩ | ⟨rfl,rfl⟩ | ⟨rfl,rfl⟩ | ⟨rfl,rfl⟩ | ⟨rfl,rfl⟩ | ⟨rfl,rfl⟩ | ⟨rfl,rfl⟩ | ⟨rfl,rfl⟩ | ⟨rfl,rfl⟩ | ⟨rfl,rfl⟩ | ⟨rfl,rfl⟩ | ⟨rfl,rfl⟩ | ⟨rfl,rfl⟩ | ⟨rfl,rfl⟩ | ⟨rfl,rfl⟩ | ⟨rfl,rfl⟩ | ⟨rfl,rfl⟩ | ⟨rfl,rfl⟩ | ⟨rfl,rfl⟩ | ⟨rfl,rfl⟩ | ⟨rfl,rfl⟩
 exact mA H h A 1 (lG H)
 iterate 4 exact mM H h A (l2 H (H.it.2 rfl) 17)
 exact mH H h A (l2 H (H.it.2 rfl) 18);exact mH H h A (lG H)
 iterate 2 exact mM H h A (l1 H 22)
 exact mH H h A (lQ H 33 25)
 iterate 3 exact mM H h A (l1 H 22)
 exact mH H h A (lG H);exact mM H h A (l1 H 23);exact mH H h A (lG H);exact mM H h A (l1 H 24)
 iterate 2 exact mM H h A (l1 H 22)
 exact mH H h A (lG H);exact mM H h A (l1 H 23);exact mH H h A (lQ H 33 25);exact mM H h A (l1 H 24);exact mH H h A (lQ H 34 26)
 iterate 3 exact mM H h A (l1 H 22)
 exact mH H h A (lG H)
 iterate 4 exact mM H h A (l1 H 22)
 exact mH H h A (lQ H 33 25)
 iterate 2 exact mH H h A (lG H)
 exact mM H h A (l1 H 23);exact mH H h A (lQ H 33 25);exact mH H h A (lG H)
 iterate 4 exact mM H h A (l0 H 16)
 exact mL H h (l0 H 2 0);exact mL H h (l0 H 27 0);exact mL H h (l0 H 6 0);exact mL H h (l0 H 9 0);exact mL H h (l0 H 30 0);exact mL H h (l1 H 2);exact mL H h (l1 H 27);exact mL H h (l1 H 6);exact mL H h (l1 H 9);exact mL H h (l1 H 30);exact mL H h (l1 H 4);exact mL H h (l1 H 28);exact mL H h (l1 H 11);exact mL H h (l1 H 31);exact mL H h (l1 H 5);exact mL H h (l1 H 29);exact mL H h (l0 H 4);exact mL H h (l0 H 28);exact mL H h (l0 H 11);exact mL H h (l0 H 5);exact mL H h (l0 H 29);exact mL H h (l0 H 12);exact mL H h (l0 H 0);exact mL H h (l1 H 2);exact mL H h (l1 H 27);exact mL H h (l1 H 6);exact mL H h (l1 H 9);exact mL H h (l1 H 30);exact mL H h (l1 H 4);exact mL H h (l1 H 28);exact mL H h (l1 H 11);exact mL H h (l1 H 5);exact mL H h (l1 H 29)
 iterate 2 exact mS H h A (l0 H 35)
 iterate 2 exact mN H h
 exact mS H h A (l0 H 35)
 iterate 3 exact mN H h
 exact mS H h A (l0 H 21);exact mN H h
 iterate 5 exact mP H h (l1 H 3) λh4=>l2 H h4 17
 iterate 2 exact mP H h (l1 H 7) λh4=>l2 H h4 18
 iterate 2 exact mP H h (l1 H 8) λh4=>l2 H h4 19
 iterate 5 exact mP H h (l1 H 10) λh4=>l1 H 1 ⟨H.it.1,λ_=>h4⟩
 iterate 2 exact mP H h (l1 H 13) λh4=>l2 H h4 18
 iterate 6 exact mW H h A
 iterate 8 exact mT H h λz=>l0 H 25 z
 iterate 2 exact mT H h λz=>l0 H 26 z
 iterate 3 exact mT H h λz=>lW H
 exact mA H h A 0 (l0 H 15);exact mA H h A 2 (l0 H 15);exact mA H h A 8 (l0 H 37);exact mA H h A 10 (l0 H 15);exact mA H h A 12 (l0 H 41);exact mA H h A 16 (l0 H 38)
 iterate 3 exact mM H h A (l0 H 39)
 exact mH H h A (l0 H 40);exact mM H h A (l0 H 39);exact mH H h A (l0 H 40)
 iterate 3 exact mL H h (l0 H 15)
 exact mL H h (l0 H 37);exact mL H h (l0 H 15)
 iterate 3 exact mR H h A false (l0 H 15)
 exact mR H h A true (l0 H 15)
end
end Lift
namespace Lift
open Go Go.Conc Ev
open Mx (mvt isSp isR1 isS1 sm sms OUT lk)
open Go.ConcM (OsLater)
variable[Jk]
noncomputable def bot:Frame:={(default:Frame) with fn:=PP.funcs.size,defers:=[],mode:=.panicking [goexitEntry]}
def Slip(Stop:Nat->Goroutine->Prop):Nat->Nat->Goroutine->Prop
 | 0,d,g=>Stop d g
 | n+1,d,g=>Stop d g\/(g.status = .running/\∃g' es,(∀e∈es,Event.mute e=true)/\(∀w,stepG PP false g w = .go g' w es)/\Slip Stop n (deafBehind d es) g')
section
variable{K:Cx}{k:Wk}{RO O:Nat->Prop}{cs:List Frame}{w w1:World}{s:Sh}{f:Frame}{fs:List Frame}{d n:Nat}
theorem ZaA{X:Xt}(hX:XOk PP X){q:Nat}:∀(n:Nat) (st:St) {f:Frame} {fs:List Frame},SOk st.top st.rest f fs->(pn PP X n st).cvs=[]->(pn PP X n st).mks=[] ->
  (∀f' fs',SOk (pn PP X n st).top (pn PP X n st).rest f' fs'->QuitsD PP q (pn PP X n st).deaf (run1 f' (fs'++cs)))->∃q',QuitsD PP q' st.deaf (run1 f (fs++cs))
 | 0,st,f,fs,h,hc,hm,k=>⟨q,k f fs h⟩
 | n+1,st,f,fs,h,hc,hm,k=>by
  unfold pn at hc hm k
  cases e:pmove PP X st.top st.rest with
  | none=>rw[e]at k;exact⟨q,k f fs h⟩
  | some mv =>
   rw[e]at hc hm k;dsimp only at hc hm k;obtain⟨f',fs',h',hs⟩:=pmove_ok (cs:=cs) hX h e;obtain⟨m1,m2⟩:=pn_mono PP X n (st.upd mv);obtain⟨q',hq⟩:=ZaA hX n (st.upd mv) h' hc hm k;have hps:mv.ps=[]:=by
    cases hp:mv.ps with
    | nil=>rfl
    | cons a l =>
     have:=m1 a (List.mem_append_left _ (by rw[hp];simp));rw[hc]at this
     cases this
   have hpl:mv.ev.places=[]:=by
    cases hp:mv.ev.places with
    | nil=>rfl
    | cons a l =>
     have:=m2 a (List.mem_append_left _ (by rw[hp];simp));rw[hm]at this
     cases this
   refine⟨q'+1,.inr ⟨rfl,_,mv.ev.es,λx hx=>?_,λw=>hs false w (by rw[hps];simp),by rw[<-Z4X];exact hq⟩⟩
   cases hv:mv.ev with
   | none=>rw[hv]at hx;simp[XEv.es]at hx
   | dis=>rw[hv]at hx;simp[XEv.es]at hx;subst hx;rfl
   | en=>rw[hv]at hx;simp[XEv.es]at hx;subst hx;rfl
   | acq p=>rw[hv]at hpl;cases hpl
   | mrg p=>rw[hv]at hpl;cases hpl
theorem ZdV{X:Xt}(hX:XOk PP X){Stop:Nat->Goroutine->Prop}{q:Nat}:∀(n:Nat) (st:St) {f:Frame} {fs:List Frame},SOk st.top st.rest f fs->(pn PP X n st).cvs=[]->(pn PP X n st).mks=[] ->
  (∀f' fs',SOk (pn PP X n st).top (pn PP X n st).rest f' fs'->Slip Stop q (pn PP X n st).deaf (run1 f' (fs'++cs)))->∃q',Slip Stop q' st.deaf (run1 f (fs++cs))
 | 0,st,f,fs,h,hc,hm,k=>⟨q,k f fs h⟩
 | n+1,st,f,fs,h,hc,hm,k=>by
  unfold pn at hc hm k
  cases e:pmove PP X st.top st.rest with
  | none=>rw[e]at k;exact⟨q,k f fs h⟩
  | some mv =>
   rw[e]at hc hm k;dsimp only at hc hm k;obtain⟨f',fs',h',hs⟩:=pmove_ok (cs:=cs) hX h e;obtain⟨m1,m2⟩:=pn_mono PP X n (st.upd mv);obtain⟨q',hq⟩:=ZdV hX n (st.upd mv) h' hc hm k;have hps:mv.ps=[]:=by
    cases hp:mv.ps with
    | nil=>rfl
    | cons a l =>
     have:=m1 a (List.mem_append_left _ (by rw[hp];simp));rw[hc]at this
     cases this
   have hpl:mv.ev.places=[]:=by
    cases hp:mv.ev.places with
    | nil=>rfl
    | cons a l =>
     have:=m2 a (List.mem_append_left _ (by rw[hp];simp));rw[hm]at this
     cases this
   refine⟨q'+1,.inr ⟨rfl,_,mv.ev.es,λx hx=>?_,λw=>hs false w (by rw[hps];simp),by rw[<-Z4X];exact hq⟩⟩
   cases hv:mv.ev with
   | none=>rw[hv]at hx;simp[XEv.es]at hx
   | dis=>rw[hv]at hx;simp[XEv.es]at hx;subst hx;rfl
   | en=>rw[hv]at hx;simp[XEv.es]at hx;subst hx;rfl
   | acq p=>rw[hv]at hpl;cases hpl
   | mrg p=>rw[hv]at hpl;cases hpl
theorem Z3R{X:Xt}(hX:XOk PP X){Stop:Nat->Goroutine->Prop}{src dst:St}{v:Value}(e:edg X src v l ls=(true,dst,[],[]))(hd:src.deaf=d)(h:SOk (src.an v).top (src.an v).rest f fs)(go:∀f' fs',SOk dst.top dst.rest f' fs'->Stop dst.deaf (run1 f' (fs'++cs))): ∃q,Slip Stop q d (run1 f (fs++cs)):=by
 have hd2:d=(src.an v).deaf:=by rw[<-hd];exact(Z4C (ZR (Zg e))).1.symm
 rw[hd2];unfold edg at e;simp only[Y9]at e;obtain⟨_,e2,e3,e4⟩:=e;refine ZdV hX 200 (src.an v) h e3 e4 (q:=0) λf' fs' h'=>?_;have h2:=Z32 h' l ls;rw[e2]at h2;have hz:=go f' fs' h2;have:(pn PP X 200 (src.an v)).deaf=dst.deaf:=by rw[<-e2];rfl
 rw[this];exact hz
theorem Ziy(h:SOk (cZ k).top (cZ k).rest f fs):QuitsD PP 2 0 (run1 f (fs++[bot])):=by
 have h1:(cZ k).top.ret=true:=by kernel_rfl
 have h2:(cZ k).top.defs=[]:=by kernel_rfl
 have h3:(cZ k).top.kind = .deferred:=by kernel_rfl
 have h4:(cZ k).rest=[]:=by kernel_rfl
 have h5:(cZ k).top.fn=113:=by kernel_rfl
 obtain⟨hf,hr⟩:=h;rw[h4]at hr
 cases hr
 have hm:f.mode = .returning:=by rw[hf.mode,h1];rfl
 have hd:f.defers=[]:=hf.defs.trans h2;have hk:f.kind = .deferred:=hf.kind.trans h3;have hfn:PP.funcs[f.fn]?=some Tryz.f113:=by rw[hf.fn,h5];exact Tryz.func113
 refine .inr ⟨rfl,run1 bot [],#[],by simp,λw=>?_,.inr ⟨rfl,{run1 bot [] with status:=.finished},#[],by simp,λw=>?_,rfl,rfl⟩⟩
 ·show stepG PP false (run1 f [bot]) w=_
  rw[Z1W hm];unfold unwind;rw[hd];dsimp only;rw[hm];dsimp only;rw[hfn];dsimp only;obtain⟨r1,r2⟩:=Z2D (P:=PP) (fn:=Tryz.f113) (tmps:=f.tmps) (v:=.tuple #[]) (.inl ⟨by kernel_rfl,rfl⟩) w;simp only[Yf,r1,r2,Z10,Z19];unfold doReturn;rw[hk]
  rfl
 ·have hc:bot.catches PP=false:=by
   have ht:bot.todo=[]:=rfl;unfold Frame.catches
   split
   ·rename_i e2
    rw[ht]at e2
    cases e2
   ·rfl
  show unwind PP false bot [] none w=_;unfold unwind;show (if bot.catches PP then _ else _)=_;rw[hc]
  rfl
theorem Z18{X:Xt}(hX:XOk PP X){src:St}{v:Value}(e:edg X src v [] []=(true,cZ k,[],[]))(hd:src.deaf=d)(h:SOk (src.an v).top (src.an v).rest f fs): ∃q,QuitsD PP q d (run1 f (fs++[bot])):=by
 have hd2:d=(src.an v).deaf:=by rw[<-hd];exact(Z4C (ZR (Zg e))).1.symm
 have h0:(cZ k).deaf=0:=by kernel_rfl
 rw[hd2];unfold edg at e;simp only[Y9]at e;obtain⟨_,e2,e3,e4⟩:=e;refine ZaA hX 200 (src.an v) h e3 e4 (q:=2) λf' fs' h'=>?_;have h2:=Z32 h' [] [];rw[e2]at h2;have hz:=Ziy h2;have:(pn PP X 200 (src.an v)).deaf=0:=by rw[<-h0,<-e2];rfl
 rw[this];exact hz
noncomputable def plD(k:Wk):Nat->St
 | 1=>cD1 k
 | 2=>cD2 k
 | 3=>cD3 k
 | _=>cD4 k
def Z1C(k:Wk)(tl:List Frame)(n:Nat)(d:Nat)(g:Goroutine):Prop:=
 d=1/\∃f fs,SOk (plD k n).top (plD k n).rest f fs/\g=run1 f (fs++tl)
theorem Z3c(k:Wk):(cD1 k).deaf=1:=by kernel_rfl
theorem Zcw(k:Wk):(cD2 k).deaf=1:=by kernel_rfl
theorem Zcx(k:Wk):(cD3 k).deaf=1:=by kernel_rfl
theorem Zcy(k:Wk):(cD4 k).deaf=1:=by kernel_rfl
theorem Zj5(k:Wk):(cWr k).deaf=0:=by kernel_rfl
theorem ZiN(W:Wok K k)(hS:ShAt K w s){it:Nat}{g:Goroutine}(h:Z0N k cs OUT it O d g w):
  d=0/\∃g',stepG PP false g w = .go g' w #[⟨.mark (.releaseMerge ⟨K.Wg,0,none⟩),false,true⟩]/\∃q,Slip (Z1C k cs 1) q 0 g':=by
 obtain⟨hd,f,fs,wst,q,h,rfl⟩:=h;have hx:(cWr k).ext PP=some (128,[pa k.W 0]):=by kernel_rfl
 rw[W.W]at hx;have h':SOk (cWr k).top (cWr k).rest f fs:=h;obtain⟨e1,h1⟩:=Z58 (P:=PP) (m:=false) (cs:=cs) (w:=w) (λa g=>by simp) h' hx ZcO (Zg (e_wr k));exact⟨hd,_,e1,Z3R xokQ (e_wr k) (Zj5 k) h1 λf' fs' h2=>⟨Z3c k,f',fs',h2,rfl⟩⟩
theorem ZkZ(n:Nat)(h1:1<=n)(h2:n<=3)(b:Nat)(hb:b<=1):IntKind.u64.wrap (((n:Int)*4294967296+b)+18446744069414584320)=((n-1:Nat):Int)*4294967296+b:=by
 have:n=1\/n=2\/n=3:=by omega
 have hb:b=0\/b=1:=by omega
 rcases this with rfl | rfl | rfl<;>rcases hb with rfl | rfl<;>decide
theorem ZiJ(W:Wok K k)(hS:ShAt K w s){g:Goroutine}(h:Z1C k [bot] 1 d g){n b:Nat}(h1:1<=n)(h3:n<=3)(hb:b<=1)(hs:s.wg=(n:Int)*4294967296+b):
  d=1/\∃g' w',stepG PP false g w = .go g' w' #[⟨.cell ⟨K.Wg,0,none⟩,false,true⟩,⟨.cell ⟨K.Wg,0,none⟩,true,true⟩]/\Eff K w w' {s with wg:=((n-1:Nat):Int)*4294967296+b} /\
   if n=1/\b=1 then ∃q,Slip (Z1C k [bot] 2) q 1 g' else ∃q,QuitsD PP q 1 g':=by
 obtain⟨hd,f,fs,h,rfl⟩:=h;have hx:(cD1 k).ext PP=some (151,[pa k.W 0,.int .u64 18446744069414584320]):=by kernel_rfl
 rw[W.W]at hx;have h':SOk (cD1 k).top (cD1 k).rest f fs:=h;have ew:=ZkZ n h1 h3 b hb;have hc:w.cell? ⟨K.Wg,0,none⟩=some (.int .u64 ((n:Int)*4294967296+b)):=by rw[hS.wg0,hs]
 have ha:((cD1 k).ans (.int .u64 (IntKind.u64.wrap (((n:Int)*4294967296+b)+18446744069414584320)))).isSome=true:=by
  rw[ew];have:n=1\/n=2\/n=3:=by omega
  have hb:b=0\/b=1:=by omega
  rcases this with rfl | rfl | rfl<;>rcases hb with rfl | rfl
  ·exact Zg (Zgq k)
  ·exact Zg (ZcD k)
  ·exact Zg (Zgr k)
  ·exact Zg (ZcE k)
  ·exact Zg (Zgs k)
  ·exact Zg (ZcF k)
 obtain⟨e1,hk⟩:=Zc8 (P:=PP) (m:=false) (cs:=[bot]) h' hx ZcK hc (hS.wgz 0) ha;rw[ew]at e1 hk;have hE:=Eff.wg0 W.ap hS (((n-1:Nat):Int)*4294967296+b);refine⟨hd,_,_,e1,hE,?_⟩;have:n=1\/n=2\/n=3:=by omega
 have hb:b=0\/b=1:=by omega
 rcases this with rfl | rfl | rfl<;>rcases hb with rfl | rfl
 ·rw[if_neg (by omega)];exact Z18 xokQ (Zgq k) (Z3c k) hk
 ·rw[if_pos ⟨rfl,rfl⟩]
  exact Z3R xokQ (ZcD k) (Z3c k) hk λf' fs' h2=>⟨Zcw k,f',fs',h2,rfl⟩
 ·rw[if_neg (by omega)];exact Z18 xokQ (Zgr k) (Z3c k) hk
 ·rw[if_neg (by omega)];exact Z18 xokQ (ZcE k) (Z3c k) hk
 ·rw[if_neg (by omega)];exact Z18 xokQ (Zgs k) (Z3c k) hk
 ·rw[if_neg (by omega)];exact Z18 xokQ (ZcF k) (Z3c k) hk
theorem ZiK(W:Wok K k)(hS:ShAt K w s){g:Goroutine}(h:Z1C k [bot] 2 d g)(hs:s.wg=1):
  d=1/\∃g',stepG PP false g w = .go g' w #[⟨.cell ⟨K.Wg,0,none⟩,false,true⟩]/\∃q,Slip (Z1C k [bot] 3) q 1 g':=by
 obtain⟨hd,f,fs,h,rfl⟩:=h;have hx:(cD2 k).ext PP=some (152,[pa k.W 0]):=by kernel_rfl
 rw[W.W]at hx;obtain⟨e1,hk⟩:=Z43 (P:=PP) (m:=false) (cs:=[bot]) h hx Z47 (v:=1) (by rw[hS.wg0,hs]) (Zg (e_d2 k));exact⟨hd,_,e1,Z3R xokQ (e_d2 k) (Zcw k) hk λf' fs' h2=>⟨Zcx k,f',fs',h2,rfl⟩⟩
theorem ZiL(W:Wok K k)(hS:ShAt K w s){g:Goroutine}(h:Z1C k [bot] 3 d g):
  d=1/\∃g' w',stepG PP false g w = .go g' w' #[⟨.cell ⟨K.Wg,0,none⟩,true,true⟩]/\Eff K w w' {s with wg:=0}/\∃q,Slip (Z1C k [bot] 4) q 1 g':=by
 obtain⟨hd,f,fs,h,rfl⟩:=h;have hx:(cD3 k).ext PP=some (153,[pa k.W 0,.int .u64 0]):=by kernel_rfl
 rw[W.W]at hx;obtain⟨e1,hk⟩:=ZeC (P:=PP) (m:=false) (cs:=[bot]) h hx ZhD hS.wg0 (hS.wgz 0) (Zg (e_d3 k));have hE:=Eff.wg0 W.ap hS 0;exact⟨hd,_,_,e1,hE,Z3R xokQ (e_d3 k) (Zcx k) hk λf' fs' h2=>⟨Zcy k,f',fs',h2,rfl⟩⟩
theorem ZiM(W:Wok K k)(hS:ShAt K w s){g:Goroutine}(h:Z1C k [bot] 4 d g)(hs:s.ws=0):
  d=1/\mayWake PP g=true/\∃g' w',stepG PP false g w = .go g' w' (semEvents ⟨K.Wg,1,none⟩)/\Eff K w w' {s with ws:=1}/\∃q,QuitsD PP q 1 g':=by
 obtain⟨hd,f,fs,h,rfl⟩:=h;have hx:(cD4 k).ext PP=some (140,[pa k.W 1,.bool false,qw 0]):=by kernel_rfl
 have hx0:=hx;rw[W.W]at hx;obtain⟨e1,hk⟩:=Zgf (P:=PP) (m:=false) (cs:=[bot]) h hx ZcQ (n:=0) (by rw[hS.wg1,hs]) (hS.wgz 1) (Zg (e_d4 k));refine⟨hd,Z9V h hx0 ZcQ,_,_,e1,Eff.wg1 W.ap hS 1,Z18 xokQ (e_d4 k) (Zcy k) hk⟩
end
end Lift
namespace Lift
open Go Go.Conc Ev
open Mx (mvt isSp isR1 isS1 sm sms OUT L0)
variable[Jk]
section
variable{F:Array Func}{G:FuncId->Prop}{K:Cx}{k:Wk}{RO O U:Nat->Prop}{cs:List Frame}{v w w1:World}{s:Sh}{f:Frame}{fs:List Frame}{d n:Nat}{r:Ren}
structure Bi(k:Wk)(w:World):Prop where
 is:∃T fz,w.heap[k.I]?=some (.cells #[k.clo] T fz)
 found:∃T fz,w.heap[k.B]?=some (.cells #[.slice (some ⟨k.D,0,none⟩) k.n k.c] T fz)
 lamp:∃T fz,w.heap[k.L]?=some (.cells #[qw k.lamp] T fz)
theorem Bi.on(h:Bi k w)(e:∀c,c=k.I\/c=k.B\/c=k.L->w1.heap[c]?=w.heap[c]?):Bi k w1:=
 ⟨by rw[e _ (.inl rfl)];exact h.is,by rw[e _ (.inr (.inl rfl))];exact h.found,by rw[e _ (.inr (.inr rfl))];exact h.lamp⟩
def task(k:Wk):Deferred:={target:=.fn (.func 113) #[pa k.W 0,pa k.I 0,pa k.L 0,pa k.N 0,pa k.B 0],args:=#[]}
theorem Zcb(P:Program)(m:Bool)(w:World)(f:FuncId)(c xs:Array Value):stepG P m (born P {target:=.fn (.func f) c,args:=xs}) w=callDeferred P { (born P {target:=.fn (.func f) c,args:=xs}).frame with defers:=[]} [] none {target:=.fn (.func f) c,args:=xs} w:=by
 unfold stepG born
 rfl
theorem Ze7(m:Bool)(w:World):stepG PP m (born PP (task k)) w = .go (run1 (Frame.enter PP 113 #[pa k.W 0,pa k.I 0,pa k.L 0,pa k.N 0,pa k.B 0] .deferred) [bot]) w #[]:=by
 have hfn:PP.funcs[113]?=some Tryz.f113:=Tryz.func113;have hname:¬(Tryz.f113).name = "runtime.NumGoroutine":=by
  have:((Tryz.f113).name == "runtime.NumGoroutine")=false:=by kernel_rfl
  simpa using this
 have hb:(Tryz.f113).body=some (Z5Z 113):=by kernel_rfl
 have hrun:(invoke (.fn (.func 113) #[pa k.W 0,pa k.I 0,pa k.L 0,pa k.N 0,pa k.B 0]) #[]).run PP w = .ok (.enter 113 #[pa k.W 0,pa k.I 0,pa k.L 0,pa k.N 0,pa k.B 0]) w/\(invoke (.fn (.func 113) #[pa k.W 0,pa k.I 0,pa k.L 0,pa k.N 0,pa k.B 0]) #[]).events PP w #[]=#[]:=by
  unfold invoke callFunc;dsimp only;simp[hfn,hname,hb]
 refine(Zcb PP m w _ _ _).trans ?_;rw[Z3v hrun.1];unfold lsd;rw[hrun.2,Z10,Z19]
 rfl
section
variable(k:Wk)
theorem e_c1:edg xt (cW1 k) k.clo [2,3,4,5] []=(true,cW2 k,[],[]):=by kernel_rfl
theorem Zjr:(cW1 k).lod=some (92,⟨k.I,0,none⟩):=by kernel_rfl
theorem Zjs:(cW2 k).lod=some (3,⟨k.L,0,none⟩):=by kernel_rfl
theorem Zlc:(PP.funcs[(cW1 k).top.fn]?).any (·.norace)=false:=by kernel_rfl
theorem Zld:(PP.funcs[(cW2 k).top.fn]?).any (·.norace)=false:=by kernel_rfl
theorem Zce:(cW1 k).deaf=0:=by kernel_rfl
theorem Zhp:(cW2 k).deaf=0:=by kernel_rfl
theorem Zcf:(cW3 k).deaf=0:=by kernel_rfl
theorem Zhq:((cW2 k).ans (qw k.lamp)).isSome=true:=by kernel_rfl
end
theorem Zl9:Z3l PP (isAgg 92)=some false:=by kernel_rfl
theorem agg3:Z3l PP (isAgg 3)=some false:=by kernel_rfl
theorem Zkx(k:Wk):(sW k).top=Z85 113 Tryz.f113 (Z5Z 113) #[pa k.W 0,pa k.I 0,pa k.L 0,pa k.N 0,pa k.B 0] .deferred:=by kernel_rfl
theorem ZlS(k:Wk):((pn PP xt 200 (sW k)).cut [1,2,3,4] [],(pn PP xt 200 (sW k)).cvs,(pn PP xt 200 (sW k)).mks)=(cW1 k,[],[]):=by kernel_rfl
theorem Z8K(S:Strip PP F (CodeOk PP false) G)(hg:GOk PP F G)(hrec:Rec PP)(W:Wok K k)(hS:ShAt K w s)(hb:Bi k w)(hU:∀c,U c↔c=k.I\/c=k.B\/c=k.L)(hu:∀c,U c->O c)(hno:¬O K.Mu/\¬O K.Wg/\¬O K.Fd){gf:FuncId}{xs ys:Array Value}(hcal:(cW3 k).cal PP=some (gf,ys))(g:G gf)(ha:VRs r xs ys)(hw:WH (Iv PP F) r v w)(hf:Fit RO O r v)(hr:Ros RO U r w){b:Bool}{R:Ending->World->Prop}(hR:∀e u T,R e (re u T)->R e u)(hb1:∀e u,R e u->e = .returned (.bool b))(hC:∀T,Calls (PF PP F) gf xs (re v T) R): WT PP false K RO (Z0N k [bot] (bif b then L0 else OUT) 0) O 0 (born PP (task k)) w:=by
 refine WT.go rfl λw1 hl=>⟨_,w1,_,Ze7 false w1,⟨λ_ _ _=>rfl,λ_ _=>rfl,Ye _,rfl,rfl,by simp⟩,?_⟩;rw[Z0P O w1 w1 rfl];have hb1':Bi k w1:=hb.on λc hc=>hl.keep c (hu c ((hU c).2 hc));have hw1:=Z4h hw hl hf.own;have hr1:=hr.rely hl;obtain⟨s1,hS1⟩:=Z3m hS hl;have hfn:PP.funcs[113]?=some Tryz.f113:=Tryz.func113;have hbd:(Tryz.f113).body=some (Z5Z 113):=by kernel_rfl
 have hk0:SOk (sW k).top (sW k).rest (Frame.enter PP 113 #[pa k.W 0,pa k.I 0,pa k.L 0,pa k.N 0,pa k.B 0] .deferred) []:=⟨by rw[Zkx];exact Z6X hfn hbd _ .deferred,.nil⟩;have:=Z9s (m:=false) (K:=K) (RO:=RO) (O:=O) (w:=w1) (Stop:=Z0N k [bot] (bif b then L0 else OUT) 0) (cs:=[bot]) xok (ZlS k) hk0 λf1 fs1 h1=>by
  rw[Zce];refine WT.load h1 (Zjr k) (Zlc k) Zl9 (λw2 h2=>?_) (hu _ ((hU _).2 (.inl rfl))) (Zg (e_c1 k)) λh2 w2 hl2=>?_
  ·obtain⟨T,fz,e⟩:=hb1'.is
   rw[Z04 (by rw[h2.keep _ (hu _ ((hU _).2 (.inl rfl)))];exact e)];rfl
  have hb2:Bi k w2:=hb1'.on λc hc=>hl2.keep c (hu c ((hU c).2 hc));have hw2:=Z4h hw1 hl2 hf.own;have hr2:=hr1.rely hl2;obtain⟨s2,hS2⟩:=Z3m hS1 hl2;refine WT.edge xok ((Z0s ..).symm.trans (e_c1 k)) hS2 (by simp) (by simp) (Zce k) h2 λf3 fs3 h3=>?_;rw[Zhp];refine WT.load h3 (Zjs k) (Zld k) agg3 (λw3 h4=>?_) (hu _ ((hU _).2 (.inr (.inr rfl)))) (Zhq k) λh4 w3 hl3=>?_
  ·obtain⟨T,fz,e⟩:=hb2.lamp
   rw[Z04 (by rw[h4.keep _ (hu _ ((hU _).2 (.inr (.inr rfl))))];exact e)];rfl
  have hb3:Bi k w3:=hb2.on λc hc=>hl3.keep c (hu c ((hU c).2 hc));have hw3:=Z4h hw2 hl3 hf.own;have hr3:=hr2.rely hl3;obtain⟨s3,hS3⟩:=Z3m hS2 hl3;have h5:SOk (cW3 k).top (cW3 k).rest (f3.finish (qw k.lamp)) fs3:=Z32 h4 [2,3,4,5,6] [];refine WT.go rfl λw4 hl4=>⟨_,w4,_,Zgk h5 hcal,⟨λ_ _ _=>rfl,λ_ _=>rfl,Ye _,rfl,rfl,by simp⟩,?_⟩;rw[Z0P O w4 w4 rfl];have hb4:Bi k w4:=hb3.on λc hc=>hl4.keep c (hu c ((hU c).2 hc));have hw4:=Z4h hw3 hl4 hf.own;have hr4:=hr3.rely hl4;obtain⟨s4,hS4⟩:=Z3m hS3 hl4;refine Zen (U:=U) (J:=λO u=>Bi k u/\(∀c,U c->O c)/\(∃s,ShAt K u s)/\(¬O K.Mu/\¬O K.Wg/\¬O K.Fd)) ?_ ?_ S hg hrec g ha hw4 hf hr4 ⟨hb4,hu,⟨s4,hS4⟩,hno⟩ hR (λu h=>by cases hb1 _ _ h) (λu ch h=>by cases hb1 _ _ h) hC (c:=f3.finish (qw k.lamp)) (cs:=fs3++[bot]) λr' v' w' O' x y hx hy hw' hf' hr' hj'=>?_
  ·rintro O w w1 hl ⟨j1,j2,j3,j4⟩
   exact⟨j1.on λc hc=>hl.keep c (j2 c ((hU c).2 hc)),j2,hl.live j3,j4⟩
  ·rintro O w w' es hG hk ⟨j1,j2,⟨s,j3⟩,j4⟩
   have l1:=(Y0.1 j3.mu).1;have l2:=(Y0.1 j3.wg).1;have l3:=(Y0.1 j3.fd).1;refine⟨j1.on λc hc=>hk c ((hU c).2 hc),λc hc=>.inl (j2 c hc),⟨s,by rw[hG.far _ l1 j4.1];exact j3.mu,by rw[hG.far _ l2 j4.2.1];exact j3.wg,by rw[hG.far _ l3 j4.2.2];exact j3.fd⟩,?_⟩;exact⟨λh=>h.elim j4.1 λh=>by omega,λh=>h.elim j4.2.1 λh=>by omega,λh=>h.elim j4.2.2 λh=>by omega⟩
  ·obtain⟨hbi,_,⟨s',hS'⟩,_⟩:=hj'
   have hx1:=hb1 _ _ hx;simp only[Ending.returned.injEq]at hx1;subst hx1;have hy1:y = .bool b:=by cases hy;rfl
   subst hy1;obtain⟨o,hp,_⟩:=Option.bind_eq_some_iff.1 hcal;obtain⟨ops,i,rest,kk,ht,_⟩:=Z0H hp
   cases b
   ·obtain⟨h6,_⟩:=Z2t h5 ht (ZR (Zg (e_w0 k)))
    refine WT.edge xokQ ((Z0s ..).symm.trans (e_w0 k)) hS' (by simp[W.W]) (by simp) (Zcf k) h6 λf7 fs7 h7=>?_;exact Z1q (x:=OUT) (it':=0) (wst:=0) (q:=undef) (by decide) h7
   ·obtain⟨h6,_⟩:=Z2t h5 ht (ZR (Zg (e_w1 k)))
    refine WT.edge xok ((Z0s ..).symm.trans (e_w1 k)) hS' (by simp) (by simp) (Zcf k) h6 λf7 fs7 h7=>?_;exact Z1q (x:=L0) (it':=0) (wst:=0) (q:=undef) (by decide) h7
 exact this
end
end Lift
namespace Lift
open Go Go.Conc Ev
open Go.ConcM (OsLater)
variable[Jk]
section
variable{P:Program}{K:Cx}{w:World}{f:Frame}{fs cs:List Frame}{st:St}{m:Bool}
theorem ZeB(h:SOk st.top st.rest f fs){o:Oper}(hp:st.pend=some o){T:TypeId}(ho:o.op = .alloc T){z:Value}(hz:Z3l P (zeroValue T)=some z)(ha:(st.ans (.pointer (some ⟨w.heap.size,0,none⟩))).isSome=true):
  stepG P m (run1 f (fs++cs)) w = .go (run1 (f.finish (.pointer (some ⟨w.heap.size,0,none⟩))) (fs++cs)) (w.alloc (.cells z.cells T)) #[]/\SOk (st.an (.pointer (some ⟨w.heap.size,0,none⟩))).top (st.an (.pointer (some ⟨w.heap.size,0,none⟩))).rest (f.finish (.pointer (some ⟨w.heap.size,0,none⟩))) fs:=by
 obtain⟨ops,i,rest,k,ht,hop,hg,hret,hk⟩:=Z0H hp;refine⟨?_,(Z2t h ht (ZR ha)).1⟩;letI:Jk:={j:=False,rest:=[]};rw[Z1V h hp (by rw[ho];simp)];obtain⟨r1,r2⟩:=Z2i hz w;have e1:(execOp f.eval o).run P w = .ok (.value (.pointer (some ⟨w.heap.size,0,none⟩))) (w.alloc (.cells z.cells T)):=by
  unfold execOp;simp only[ho,Instr.alloc,Sem.run_bind,r1,Result.andThen_ok];simp only[newVar,newRow,newObj,Sem.run_bind,Sem.run_pure]
  rfl
 have e2:(execOp f.eval o).events P w #[]=#[]:=by
  unfold execOp;simp[ho,Instr.alloc,r1,r2,newVar,newRow,newObj]
  rfl
 rw[Z0q e1];unfold lst;have hke:(f.kind==CallKind.early)=false:=by
  cases hkk:f.kind<;>first | rfl | (rw[h.1.kind]at hkk;exact absurd hkk hk)
 rw[hke,e2];simp[GStep.after,Z10]
theorem Zla(h:SOk st.top st.rest f fs){o:Oper}(hp:st.pend=some o){c:Call}(ho:o.op = .go c){x:Operand}(hc:c.callee = .value x)(hx0:c.args=#[]){g:FuncId}{caps:Array Value}(hx:st.top.val x=some (.func (.func g) #[] caps))(ha:(st.ans undef).isSome=true):
  stepG P m (run1 f (fs++cs)) w = .spawn (run1 (f.finish undef) (fs++cs)) (born P {target:=.fn (.func g) caps,args:=#[]}) w #[]/\SOk (st.an undef).top (st.an undef).rest (f.finish undef) fs:=by
 obtain⟨ops,i,rest,k,ht,hop,hg,hret,hk⟩:=Z0H hp;refine⟨?_,(Z2t h ht (ZR ha)).1⟩;have hf:=h.1;have hrun':f.mode = .run:=by rw[hf.mode,hret];rfl
 have hft:=hf.todo.trans ht;have hev0:(Act.mk f.tmps f.defers).eval=f.eval:=by funext x;cases x<;>rfl
 obtain⟨callee,args,argTypes⟩:=c;dsimp only at hc hx0;subst hc hx0;have hex:(execOp (Act.mk f.tmps f.defers).eval o).run P w = .ok (.spawn {target:=.fn (.func g) caps,args:=#[]}) w/\(execOp (Act.mk f.tmps f.defers).eval o).events P w #[]=#[]:=by
  unfold execOp;rw[ho];dsimp only;unfold resolve;dsimp only;rw[hev0,hf.val hx];simp[Deferred.ofValue]
 have hd:(ops[i]?).bind (·.dst)=o.dst:=by rw[hop];rfl
 rw[Z3e hrun' hf.round hft,hd]
 conv=>lhs;rw[Z6E hrun' hf.round,hft]
 have:=stepG_spawn (P:=P) (main:=m) (b:=f) (a:=⟨f.tmps,f.defers⟩) (k:=k) (rest:=rest) (cs:=fs++cs) (w:=w) (w':=w) (d:={target:=.fn (.func g) caps,args:=#[]}) hop (Zbf hf hg) (by rw[hf.kind];exact hk) hex.1 rfl;refine this.trans ?_;unfold listed;rw[hex.2]
 rfl
end
def Z8Q(m:Bool)(K:Cx)(Stop:Nat->Goroutine->Prop):Nat->Nat->Goroutine->Prop
 | 0,d,g=>Stop d g
 | n+1,d,g=>Stop d g\/(g.status = .running/\∃g' es,(∀e∈es,Event.mute e=true)/\(∀w,(∃s,ShAt K w s)->stepG PP m g w = .go g' w es)/\Z8Q m K Stop n (deafBehind d es) g')
def WM(m:Bool)(K:Cx)(Stop:Nat->Goroutine->Prop)(d:Nat)(g:Goroutine):Prop:=∃q,Z8Q m K Stop q d g
theorem Z7v{m:Bool}{K:Cx}{X:Xt}(hX:XOk PP X){Stop:Nat->Goroutine->Prop}{cs:List Frame}:∀(n:Nat) (st:St) {f:Frame} {fs:List Frame},SOk st.top st.rest f fs->(∀p∈(pn PP X n st).cvs,p=⟨K.Wg,0,none⟩\/p=⟨K.Wg,1,none⟩)->(pn PP X n st).mks=[] ->
  (∀f' fs',SOk (pn PP X n st).top (pn PP X n st).rest f' fs'->WM m K Stop (pn PP X n st).deaf (run1 f' (fs'++cs)))->WM m K Stop st.deaf (run1 f (fs++cs))
 | 0,st,f,fs,h,hc,hm,k=>k f fs h
 | n+1,st,f,fs,h,hc,hm,k=>by
  unfold pn at hc hm k
  cases e:pmove PP X st.top st.rest with
  | none=>rw[e]at k;exact k f fs h
  | some mv =>
   rw[e]at hc hm k;dsimp only at hc hm k;obtain⟨f',fs',h',hs⟩:=pmove_ok (cs:=cs) hX h e;obtain⟨m1,m2⟩:=pn_mono PP X n (st.upd mv);obtain⟨q',hq⟩:=Z7v hX n (st.upd mv) h' hc hm k;have hpl:mv.ev.places=[]:=by
    cases hp:mv.ev.places with
    | nil=>rfl
    | cons a l =>
     have:=m2 a (List.mem_append_left _ (by rw[hp];simp));rw[hm]at this
     cases this
   refine⟨q'+1,.inr ⟨rfl,_,mv.ev.es,λx hx=>?_,λw hw=>hs m w λp hp=>?_,by rw[<-Z4X];exact hq⟩⟩
   ·cases hv:mv.ev with
    | none=>rw[hv]at hx;simp[XEv.es]at hx
    | dis=>rw[hv]at hx;simp[XEv.es]at hx;subst hx;rfl
    | en=>rw[hv]at hx;simp[XEv.es]at hx;subst hx;rfl
    | acq p=>rw[hv]at hpl;cases hpl
    | mrg p=>rw[hv]at hpl;cases hpl
   ·obtain⟨s,hs'⟩:=hw
    rcases hc p (m1 p (List.mem_append_left _ hp)) with rfl | rfl
    ·exact⟨_,hs'.wg0⟩
    ·exact⟨_,hs'.wg1⟩
theorem Ziw{m:Bool}{K:Cx}{Stop:Nat->Goroutine->Prop}{cs fs:List Frame}{f:Frame}{X:Xt}{st dst:St}{n:Nat}(hX:XOk PP X)(e:((pn PP X n st).cut l ls,(pn PP X n st).cvs,(pn PP X n st).mks)=(dst,[],[]))(h:SOk st.top st.rest f fs)(k:∀f' fs',SOk dst.top dst.rest f' fs'->WM m K Stop (dst.deaf) (run1 f' (fs'++cs))): WM m K Stop (st.deaf) (run1 f (fs++cs)):=by
 simp only[Y9]at e;obtain⟨rfl,e2,e3⟩:=e;refine Z7v hX n st h (by rw[e2];simp) e3 λf' fs' h'=>?_;have:=k f' fs' (Z32 h' l ls);rw[Z2g]at this;exact this
inductive CT where
 | ma (i:Nat) | ms (i L:Nat) | md (i L:Nat) | mr (i L:Nat) | mg (i L:Nat) | w1 | w2 (v:Nat) | mx (v:Nat) | w3 | w4 | my | mq
def kk:Nat->Int
 | 1=>4294967296
 | 2=>8589934592
 | _=>12884901888
noncomputable def plM(k:Wk)(T:Nat->Value)(n:Nat)(x:Value)(u:Nat->Value):CT->St
 | .ma i=>cMa k T n i x u
 | .ms i L=>cMs k T n i L u
 | .md i L=>cMd k T n i L u
 | .mr i L=>cMr k T n i L u
 | .mg i L=>cMg k T n i L u
 | .w1=>cMw1 k T n n x u
 | .w2 v=>cMw2 k T n n x (kk v) u
 | .mx v=>cMx k T n n x (kk v) u
 | .w3=>cMw3 k T n n x u
 | .w4=>cMw4 k T n n x u
 | .my=>cMy k T n n x u
 | .mq=>cMq k T n n x u
def dM:CT->Nat
 | .ma _ | .ms _ _ | .mg _ _ | .my | .mq=>0
 | _=>1
def ZQ(k:Wk)(T:Nat->Value)(n:Nat)(cs:List Frame)(tag:CT)(d:Nat)(g:Goroutine):Prop:=
 d=dM tag/\∃x u f fs,SOk (plM k T n x u tag).top (plM k T n x u tag).rest f fs/\g=run1 f (fs++cs)
section
variable{K:Cx}{k:Wk}{T:Nat->Value}{n i L v:Nat}{cs:List Frame}{w:World}{s:Sh}{f:Frame}{fs:List Frame}{tag:CT}{x:Value}{u:Nat->Value}{d:Nat}{m:Bool}
abbrev NO:Nat->Prop:=λ_=>False
theorem dm_a:(plM k T n x u (.ma i)).deaf=0:=by kernel_rfl
theorem dm_s:(plM k T n x u (.ms i L)).deaf=0:=by kernel_rfl
theorem dm_d:(plM k T n x u (.md i L)).deaf=1:=by kernel_rfl
theorem dm_r:(plM k T n x u (.mr i L)).deaf=1:=by kernel_rfl
theorem dm_g:(plM k T n x u (.mg i L)).deaf=0:=by kernel_rfl
theorem dm_1:(plM k T n x u .w1).deaf=1:=by kernel_rfl
theorem ZjA:(plM k T n x u (.w2 1)).deaf=1:=by kernel_rfl
theorem ZjB:(plM k T n x u (.w2 2)).deaf=1:=by kernel_rfl
theorem ZjC:(plM k T n x u (.w2 3)).deaf=1:=by kernel_rfl
theorem Zlj:(plM k T n x u (.mx 1)).deaf=1:=by kernel_rfl
theorem Zlk:(plM k T n x u (.mx 2)).deaf=1:=by kernel_rfl
theorem Zll:(plM k T n x u (.mx 3)).deaf=1:=by kernel_rfl
theorem dm_2(h:1<=v/\v<=3):(plM k T n x u (.w2 v)).deaf=1:=by
 have:v=1\/v=2\/v=3:=by omega
 rcases this with rfl | rfl | rfl
 ·exact ZjA
 ·exact ZjB
 ·exact ZjC
theorem dm_x(h:1<=v/\v<=3):(plM k T n x u (.mx v)).deaf=1:=by
 have:v=1\/v=2\/v=3:=by omega
 rcases this with rfl | rfl | rfl
 ·exact Zlj
 ·exact Zlk
 ·exact Zll
theorem dm_3:(plM k T n x u .w3).deaf=1:=by kernel_rfl
theorem dm_4:(plM k T n x u .w4).deaf=1:=by kernel_rfl
theorem dm_y:(plM k T n x u .my).deaf=0:=by kernel_rfl
theorem dm_q:(plM k T n x u .mq).deaf=0:=by kernel_rfl
theorem ZgV(h:SOk (plM k T n x u tag).top (plM k T n x u tag).rest f fs):WM m K (ZQ k T n cs tag) (dM tag) (run1 f (fs++cs)):=
 ⟨0,rfl,x,u,f,fs,h,rfl⟩
theorem Z0i(e:(plM k T n x u tag).deaf=dM tag)(h:SOk (plM k T n x u tag).top (plM k T n x u tag).rest f fs):WM m K (ZQ k T n cs tag) ((plM k T n x u tag).deaf) (run1 f (fs++cs)):=by
 rw[e];exact ZgV h
theorem edgM{X:Xt}(hX:XOk PP X)(W:Wok K k){src dst:St}{v:Value}{Stop:Nat->Goroutine->Prop}(e:edgN q X src v l ls=(true,dst,cvs,mks))(hS:ShAt K w s)(hcv:∀p∈cvs,p=⟨k.W,0,none⟩\/p=⟨k.W,1,none⟩)(hmk:mks=[])(hd:src.deaf=d)(h:SOk (src.an v).top (src.an v).rest f fs)(go:∀f' fs',SOk dst.top dst.rest f' fs'->WM m K Stop (dst.deaf) (run1 f' (fs'++cs))): WM m K Stop d (run1 f (fs++cs)):=by
 unfold edgN at e;simp only[Y9]at e;obtain⟨e1,rfl,rfl,rfl⟩:=e;have hd2:d=(src.an v).deaf:=by rw[<-hd];exact(Z4C (ZR e1)).1.symm
 rw[hd2];refine Z7v hX q (src.an v) h (λp hp=>?_) hmk λf' fs' h'=>?_
 ·rw[<-W.W];exact hcv p hp
 ·have:=go f' fs' (Z32 h' l ls)
  rw[Z2g]at this;exact this
theorem ZcW(hi:i<=n)(h:SOk (cMc k T n i (decide ((i:Int)<n)) x u).top (cMc k T n i (decide ((i:Int)<n)) x u).rest f fs):WM m K (ZQ k T n cs (if i<n then .ma i else .w1)) ((cMc k T n i (decide ((i:Int)<n)) x u).deaf) (run1 f (fs++cs)):=by
 by_cases hlt:i<n
 ·have:decide ((i:Int)<n)=true:=by simp[hlt]
  rw[this]at h⊢;rw[if_pos hlt];refine Ziw xokQ (Zk7 k T n i x u) h λf' fs' h'=>?_;exact Z0i (tag:=.ma i) (x:=x) (u:=u) dm_a h'
 ·obtain rfl:i=n:=by omega
  have:decide ((i:Int)<i)=false:=by simp
  rw[this]at h⊢;rw[if_neg hlt];refine Ziw xokQ (Zkb k T i i x u) h λf' fs' h'=>?_;exact Z0i (tag:=.w1) (x:=x) (u:=u) dm_1 h'
theorem Zmd(v:Nat)(h:v<=2):IntKind.u64.wrap ((v:Int)*4294967296+4294967296)=((v+1:Nat):Int)*4294967296:=by
 have:v=0\/v=1\/v=2:=by omega
 rcases this with rfl | rfl | rfl<;>decide
variable(W:Wok K k)(hS:ShAt K w s)
include W hS
theorem ZlV{g:Goroutine}(h:ZQ k T n cs (.ma i) d g): d=0/\∃g',stepG PP m g w = .go g' (w.alloc (.cells #[.int .i64 0] 3)) #[]/\WM m K (ZQ k T n cs (.ms i w.heap.size)) 0 g':=by
 obtain⟨hd,x,u,f,fs,h,rfl⟩:=h;have hp:(plM k T n x u (.ma i)).pend.map (·.op)=some (.alloc 3):=by kernel_rfl
 obtain⟨o,hp,ho⟩:=Y3.1 hp;obtain⟨a1,a2⟩:=ZlB k T n i x w.heap.size u;obtain⟨e1,h1⟩:=ZeB (P:=PP) (m:=m) (cs:=cs) (w:=w) h hp ho (z:=.int .i64 0) (by kernel_rfl) (by rw[show plM k T n x u (.ma i)=cMa k T n i x u from rfl,a1];rfl);refine⟨hd,_,e1,?_⟩;have h2:=Z32 h1 A42 [];rw[show plM k T n x u (.ma i)=cMa k T n i x u from rfl,a2]at h2;exact ZgV (tag:=.ms i w.heap.size) (x:=x) (u:=u) h2
theorem ZlZ{g:Goroutine}(h:ZQ k T n cs (.ms i L) d g){z:Value}{TT:TypeId}(hL:w.heap[L]?=some (.cells #[z] TT (0,0)))(hne:L≠K.Mu/\L≠K.Wg/\L≠K.Fd):
  d=0/\∃g',stepG PP m g w = .go g' (w.setCell ⟨L,0,none⟩ (qw i)) #[⟨.cell ⟨L,0,none⟩,true,false⟩]/\WM m K (ZQ k T n cs (.md i L)) 0 g':=by
 obtain⟨hd,x,u,f,fs,h,rfl⟩:=h;have hx:(cMs k T n i L u).sto=some (3,⟨L,0,none⟩,qw i):=by kernel_rfl
 have hq:(PP.funcs[(cMs k T n i L u).top.fn]?).any (·.norace)=false:=by kernel_rfl
 have hs1:Z3l PP (sizeOf 3)=some 1:=by kernel_rfl
 obtain⟨e1,h1⟩:=Zgh (P:=PP) (m:=m) (cs:=cs) (w:=w) (st:=cMs k T n i L u) h hx hq (Z2i hs1 w).1 rfl rfl (u:=z) (by rw[Z04 hL];rfl) (Z1v hL 0) (Zg (Zk6 k T n i L u));have hS2:ShAt K (w.setCell ⟨L,0,none⟩ (qw i)) s:=⟨by rw[ZJ (Ne.symm hne.1)];exact hS.mu,by rw[ZJ (Ne.symm hne.2.1)];exact hS.wg,by rw[ZJ (Ne.symm hne.2.2)];exact hS.fd⟩;refine⟨hd,_,e1,edgM xokQ W ((Z0s ..).symm.trans (Zk6 k T n i L u)) hS2 (by simp) rfl (dm_s (x:=x)) h1 λf' fs' h2=>?_⟩;exact Z0i (tag:=.md i L) (x:=x) (u:=u) dm_d h2
theorem ZlW{g:Goroutine}(h:ZQ k T n cs (.md i L) d g)(hv:v<=2)(hs:s.wg=(v:Int)*4294967296):
  d=1/\∃g' w',stepG PP m g w = .go g' w' #[⟨.cell ⟨K.Wg,0,none⟩,false,true⟩,⟨.cell ⟨K.Wg,0,none⟩,true,true⟩]/\Eff K w w' {s with wg:=((v+1:Nat):Int)*4294967296}/\WM m K (ZQ k T n cs (if v=0 then .mr i L else .mg i L)) 1 g':=by
 obtain⟨hd,x,u,f,fs,h,rfl⟩:=h;have hx:(cMd k T n i L u).ext PP=some (151,[pa k.W 0,.int .u64 4294967296]):=by kernel_rfl
 rw[W.W]at hx;have ew:=Zmd v hv;have hv3:v=0\/v=1\/v=2:=by omega
 have ha:((cMd k T n i L u).ans (.int .u64 (IntKind.u64.wrap ((v:Int)*4294967296+4294967296)))).isSome=true:=by
  rw[ew]
  rcases hv3 with rfl | rfl | rfl
  ·exact Zg (ZgB k T n i L u)
  ·exact Zg (ZgC k T n i L u)
  ·exact Zg (ZgD k T n i L u)
 obtain⟨e1,h1⟩:=Zc8 (P:=PP) (m:=m) (cs:=cs) (w:=w) (st:=cMd k T n i L u) h hx ZcK (by rw[hS.wg0,hs]) (hS.wgz 0) ha;rw[ew]at e1 h1;have hE:=Eff.wg0 W.ap hS (((v+1:Nat):Int)*4294967296);refine⟨hd,_,_,e1,hE,?_⟩
 rcases hv3 with rfl | rfl | rfl
 ·rw[if_pos rfl]
  refine edgM xokQ W ((Z0s ..).symm.trans (ZgB k T n i L u)) hE.sh (by simp) rfl (dm_d (x:=x)) h1 λf' fs' h2=>?_;exact Z0i (tag:=.mr i L) (x:=x) (u:=u) dm_r h2
 ·rw[if_neg (by omega)]
  refine edgM xokQ W ((Z0s ..).symm.trans (ZgC k T n i L u)) hE.sh (by simp) rfl (dm_d (x:=x)) h1 λf' fs' h2=>?_;exact Z0i (tag:=.mg i L) (x:=x) (u:=u) dm_g h2
 ·rw[if_neg (by omega)]
  refine edgM xokQ W ((Z0s ..).symm.trans (ZgD k T n i L u)) hE.sh (by simp) rfl (dm_d (x:=x)) h1 λf' fs' h2=>?_;exact Z0i (tag:=.mg i L) (x:=x) (u:=u) dm_g h2
theorem ZlY{g:Goroutine}(h:ZQ k T n cs (.mr i L) d g): d=1/\∃g',stepG PP m g w = .go g' w #[⟨.mark (.read ⟨K.Wg,1,none⟩),false,true⟩]/\WM m K (ZQ k T n cs (.mg i L)) 1 g':=by
 obtain⟨hd,x,u,f,fs,h,rfl⟩:=h;have hx:(cMr k T n i L u).ext PP=some (136,[pa k.W 1]):=by kernel_rfl
 rw[W.W]at hx;obtain⟨e1,h1⟩:=Z58 (P:=PP) (m:=m) (cs:=cs) (w:=w) (st:=cMr k T n i L u) (λa g=>by simp) h hx ZjP (Zg (ZgE k T n i L u));refine⟨hd,_,e1,edgM xokQ W ((Z0s ..).symm.trans (ZgE k T n i L u)) hS (by simp) rfl (dm_r (x:=x)) h1 λf' fs' h2=>?_⟩;exact Z0i (tag:=.mg i L) (x:=x) (u:=u) dm_g h2
theorem ZlX{g:Goroutine}(h:ZQ k T n cs (.mg i L) d g)(hi:i<n)(hn:n<=3): d=0/\∃g',stepG PP m g w = .spawn g' (born PP (task {k with L:=L})) w #[]/\WM m K (ZQ k T n cs (if i+1<n then .ma (i+1) else .w1)) 0 g':=by
 obtain⟨hd,x,u,f,fs,h,rfl⟩:=h;have hp:(cMg k T n i L u).pend.map (·.op)=some (.go {callee:=.value (.tmp 25),args:=#[],argTypes:=#[]}):=by kernel_rfl
 have hx:(cMg k T n i L u).top.val (.tmp 25)=some (.func (.func 113) #[] #[pa k.W 0,pa k.I 0,pa L 0,pa k.N 0,pa k.B 0]):=by kernel_rfl
 obtain⟨o,hp,ho⟩:=Y3.1 hp;have e:=m_go k T n i L u;have ew:IntKind.i64.wrap ((i:Int)+1)=((i+1:Nat):Int):=by
  have:i=0\/i=1\/i=2:=by omega
  rcases this with rfl | rfl | rfl<;>rfl
 rw[ew]at e;obtain⟨e1,h1⟩:=Zla (P:=PP) (m:=m) (cs:=cs) (w:=w) (st:=cMg k T n i L u) h hp ho rfl rfl hx (Z3z e);refine⟨hd,_,e1,edgM xokQ W e hS (by simp) rfl (dm_g (x:=x)) h1 λf' fs' h2=>?_⟩;have hm:=ZcW (m:=m) (K:=K) (cs:=cs) (by omega:i+1<=n) h2;exact hm
end
end Lift
namespace Lift
open Go Go.Conc Ev
open Go.ConcM (OsLater)
variable[Jk]
section
variable{K:Cx}{k:Wk}{T:Nat->Value}{n i L v:Nat}{cs:List Frame}{w:World}{s:Sh}{f:Frame}{fs:List Frame}{tag:CT}{x:Value}{u:Nat->Value}{d:Nat}{m:Bool}
theorem ZfW(h:SOk (sM k T n).top (sM k T n).rest f fs):WM m K (ZQ k T n cs (if 0<n then .ma 0 else .w1)) 0 (run1 f (fs++cs)):=by
 have e:=ZhZ k T n;have e0:decide ((0:Int)<(n:Int))=decide (((0:Nat):Int)<(n:Int)):=rfl;exact Ziw xokQ e h λf' fs' h'=>ZcW (i:=0) (Nat.zero_le n) h'
theorem Zma:(cMw2 k T n n x (kk 1) u).ext PP=some (158,[pa k.W 0,.int .u64 (((1:Nat):Int)*4294967296),.int .u64 (((1:Nat):Int)*4294967296+1)]):=by kernel_rfl
theorem ZlI:(cMx k T n n x (kk 1) u).ext PP=some (146,[pa k.W 1]):=by kernel_rfl
theorem Zmb:(cMw2 k T n n x (kk 2) u).ext PP=some (158,[pa k.W 0,.int .u64 (((2:Nat):Int)*4294967296),.int .u64 (((2:Nat):Int)*4294967296+1)]):=by kernel_rfl
theorem ZlJ:(cMx k T n n x (kk 2) u).ext PP=some (146,[pa k.W 1]):=by kernel_rfl
theorem Zmc:(cMw2 k T n n x (kk 3) u).ext PP=some (158,[pa k.W 0,.int .u64 (((3:Nat):Int)*4294967296),.int .u64 (((3:Nat):Int)*4294967296+1)]):=by kernel_rfl
theorem ZlK:(cMx k T n n x (kk 3) u).ext PP=some (146,[pa k.W 1]):=by kernel_rfl
variable(W:Wok K k)(hS:ShAt K w s)
include W hS
theorem Zm2{g:Goroutine}(h:ZQ k T n cs .w1 d g)(hv:v<=3)(hs:s.wg=(v:Int)*4294967296):
  d=1/\∃g',stepG PP m g w = .go g' w #[⟨.cell ⟨K.Wg,0,none⟩,false,true⟩]/\WM m K (ZQ k T n cs (if v=0 then .mq else .w2 v)) 1 g':=by
 obtain⟨hd,x,u,f,fs,h,rfl⟩:=h;have hx:(cMw1 k T n n x u).ext PP=some (152,[pa k.W 0]):=by kernel_rfl
 rw[W.W]at hx;have hv3:v=0\/v=1\/v=2\/v=3:=by omega
 have hc:w.cell? ⟨K.Wg,0,none⟩=some (.int .u64 ((v:Int)*4294967296)):=by rw[hS.wg0,hs]
 rcases hv3 with rfl | rfl | rfl | rfl
 ·obtain⟨e1,h1⟩:=Z43 (P:=PP) (m:=m) (cs:=cs) (w:=w) (st:=cMw1 k T n n x u) h hx Z47 hc (Zg (ZgF k T n n x u))
  rw[if_pos rfl];exact⟨hd,_,e1,edgM xokQ W ((Z0s ..).symm.trans (ZgF k T n n x u)) hS (by simp) rfl (dm_1 (x:=x)) h1 λf' fs' h2=>Z0i (tag:=.mq) (x:=x) (u:=u) dm_q h2⟩
 ·obtain⟨e1,h1⟩:=Z43 (P:=PP) (m:=m) (cs:=cs) (w:=w) (st:=cMw1 k T n n x u) h hx Z47 hc (Zg (ZgG k T n n x u))
  rw[if_neg (by omega)];exact⟨hd,_,e1,edgM xokQ W ((Z0s ..).symm.trans (ZgG k T n n x u)) hS (by simp) rfl (dm_1 (x:=x)) h1 λf' fs' h2=>Z0i (tag:=.w2 1) (x:=x) (u:=u) ZjA h2⟩
 ·obtain⟨e1,h1⟩:=Z43 (P:=PP) (m:=m) (cs:=cs) (w:=w) (st:=cMw1 k T n n x u) h hx Z47 hc (Zg (ZgH k T n n x u))
  rw[if_neg (by omega)];exact⟨hd,_,e1,edgM xokQ W ((Z0s ..).symm.trans (ZgH k T n n x u)) hS (by simp) rfl (dm_1 (x:=x)) h1 λf' fs' h2=>Z0i (tag:=.w2 2) (x:=x) (u:=u) ZjB h2⟩
 ·obtain⟨e1,h1⟩:=Z43 (P:=PP) (m:=m) (cs:=cs) (w:=w) (st:=cMw1 k T n n x u) h hx Z47 hc (Zg (ZgI k T n n x u))
  rw[if_neg (by omega)];exact⟨hd,_,e1,edgM xokQ W ((Z0s ..).symm.trans (ZgI k T n n x u)) hS (by simp) rfl (dm_1 (x:=x)) h1 λf' fs' h2=>Z0i (tag:=.w2 3) (x:=x) (u:=u) ZjC h2⟩
theorem ZkX(h1:1<=v)(h3:v<=3):(cMw2 k T n n x (kk v) u).ext PP=some (158,[pa k.W 0,.int .u64 ((v:Int)*4294967296),.int .u64 ((v:Int)*4294967296+1)]):=by
 have:v=1\/v=2\/v=3:=by omega
 rcases this with rfl | rfl | rfl
 ·exact Zma
 ·exact Zmb
 ·exact Zmc
theorem Zm9(h1:1<=v)(h3:v<=3):∃l ls,edg xtQ (cMw2 k T n n x (kk v) u) (.bool true) l ls=(true,cMx k T n n x (kk v) u,[⟨k.W,1,none⟩],[]):=by
 have:v=1\/v=2\/v=3:=by omega
 rcases this with rfl | rfl | rfl
 ·exact⟨_,_,Zk8 k T n n x u⟩
 ·exact⟨_,_,Zk9 k T n n x u⟩
 ·exact⟨_,_,Zka k T n n x u⟩
theorem Zm8(h1:1<=v)(h3:v<=3):∃l ls,edg xtQ (cMw2 k T n n x (kk v) u) (.bool false) l ls=(true,cMw1 k T n n x u,[],[]):=by
 have:v=1\/v=2\/v=3:=by omega
 rcases this with rfl | rfl | rfl
 ·exact⟨_,_,Zi0 k T n n x u⟩
 ·exact⟨_,_,Zi1 k T n n x u⟩
 ·exact⟨_,_,Zi2 k T n n x u⟩
theorem Zm3{g:Goroutine}(h:ZQ k T n cs (.w2 v) d g)(h1:1<=v)(h3:v<=3){v':Nat}(hs:s.wg=(v':Int)*4294967296):
  d=1/\if v'=v then ∃g' w',stepG PP m g w = .go g' w' #[⟨.cell ⟨K.Wg,0,none⟩,false,true⟩,⟨.cell ⟨K.Wg,0,none⟩,true,true⟩]/\Eff K w w' {s with wg:=(v:Int)*4294967296+1}/\WM m K (ZQ k T n cs (.mx v)) 1 g'
   else ∃g',stepG PP m g w = .go g' w #[⟨.cell ⟨K.Wg,0,none⟩,false,true⟩]/\WM m K (ZQ k T n cs .w1) 1 g':=by
 obtain⟨hd,x,u,f,fs,h,rfl⟩:=h;have hx:=ZkX (T:=T) (n:=n) (x:=x) (u:=u) W hS h1 h3;rw[W.W]at hx;obtain⟨l,ls,e1⟩:=Zm9 (T:=T) (n:=n) (x:=x) (u:=u) W hS h1 h3;obtain⟨l0,ls0,e0⟩:=Zm8 (T:=T) (n:=n) (x:=x) (u:=u) W hS h1 h3;refine⟨hd,?_⟩
 split
 ·rename_i he
  subst he;obtain⟨s1,k1⟩:=Z5X (P:=PP) (m:=m) (cs:=cs) (w:=w) (st:=cMw2 k T n n x (kk v') u) h hx ZcM (by rw[hS.wg0,hs]) (hS.wgz 0) (Zg e1);have hE:=Eff.wg0 W.ap hS ((v':Int)*4294967296+1);exact⟨_,_,s1,hE,edgM xokQ W ((Z0s ..).symm.trans e1) hE.sh (by simp) rfl (dm_2 (x:=x) ⟨h1,h3⟩) k1 λf' fs' h2=>Z0i (tag:=.mx v') (x:=x) (u:=u) (dm_x ⟨h1,h3⟩) h2⟩
 ·rename_i he
  obtain⟨s1,k1⟩:=Z57 (P:=PP) (m:=m) (cs:=cs) (w:=w) (st:=cMw2 k T n n x (kk v) u) h hx ZcM (by rw[hS.wg0,hs]) (hS.wgz 0) (by omega) (Zg e0);exact⟨_,s1,edgM xokQ W ((Z0s ..).symm.trans e0) hS (by simp) rfl (dm_2 (x:=x) ⟨h1,h3⟩) k1 λf' fs' h2=>Z0i (tag:=.w1) (x:=x) (u:=u) dm_1 h2⟩
theorem mx_e(h1:1<=v)(h3:v<=3):∃l ls,edg xtQ (cMx k T n n x (kk v) u) (.tuple #[]) l ls=(true,cMw3 k T n n x u,[],[]):=by
 have:v=1\/v=2\/v=3:=by omega
 rcases this with rfl | rfl | rfl
 ·exact⟨_,_,ZlC k T n n x u⟩
 ·exact⟨_,_,ZlD k T n n x u⟩
 ·exact⟨_,_,ZlE k T n n x u⟩
theorem Zkn(h1:1<=v)(h3:v<=3):(cMx k T n n x (kk v) u).ext PP=some (146,[pa k.W 1]):=by
 have:v=1\/v=2\/v=3:=by omega
 rcases this with rfl | rfl | rfl
 ·exact ZlI
 ·exact ZlJ
 ·exact ZlK
theorem Zm0{g:Goroutine}(h:ZQ k T n cs (.mx v) d g)(h1:1<=v)(h3:v<=3): d=1/\∃g',stepG PP m g w = .go g' w #[⟨.mark (.write ⟨K.Wg,1,none⟩),false,true⟩]/\WM m K (ZQ k T n cs .w3) 1 g':=by
 obtain⟨hd,x,u,f,fs,h,rfl⟩:=h;have hx:=Zkn (T:=T) (n:=n) (x:=x) (u:=u) W hS h1 h3;rw[W.W]at hx;obtain⟨l,ls,e1⟩:=mx_e (T:=T) (n:=n) (x:=x) (u:=u) W hS h1 h3;obtain⟨s1,k1⟩:=Z58 (P:=PP) (m:=m) (cs:=cs) (w:=w) (st:=cMx k T n n x (kk v) u) (λa g=>by simp) h hx ZjQ (Zg e1);exact⟨hd,_,s1,edgM xokQ W ((Z0s ..).symm.trans e1) hS (by simp) rfl (dm_x (x:=x) ⟨h1,h3⟩) k1 λf' fs' h2=>Z0i (tag:=.w3) (x:=x) (u:=u) dm_3 h2⟩
theorem Zm4{g:Goroutine}(h:ZQ k T n cs .w3 d g): d=1/\(s.ws=0->stepG PP m g w = .go {g with status:=.blocked} w #[]) /\
  (s.ws=1->∃g' w',stepG PP m g w = .go g' w' (semEvents ⟨K.Wg,1,none⟩)/\Eff K w w' {s with ws:=0}/\WM m K (ZQ k T n cs .w4) 1 g'):=by
 obtain⟨hd,x,u,f,fs,h,rfl⟩:=h;have hx:∃vs,(cMw3 k T n n x u).ext PP=some (147,pa k.W 1::vs):=⟨[.bool false],by kernel_rfl⟩;obtain⟨vs,hx⟩:=hx;rw[W.W]at hx;refine⟨hd,λh0=>Z8V (st:=cMw3 k T n n x u) h hx Zgv (by rw[hS.wg1,h0]),λh1=>?_⟩;obtain⟨s1,k1⟩:=Zgg (P:=PP) (m:=m) (cs:=cs) (w:=w) (st:=cMw3 k T n n x u) (n:=1) h hx Zgv (by rw[hS.wg1,h1]) (by decide) (hS.wgz 1) (Zg (m_w3 k T n n x u));have hE:=Eff.wg1 W.ap hS 0;exact⟨_,_,s1,hE,edgM xokQ W ((Z0s ..).symm.trans (m_w3 k T n n x u)) hE.sh (by simp) rfl (dm_3 (x:=x)) k1 λf' fs' h2=>Z0i (tag:=.w4) (x:=x) (u:=u) dm_4 h2⟩
theorem Zm5{g:Goroutine}(h:ZQ k T n cs .w4 d g)(hs:s.wg=0): d=1/\∃g',stepG PP m g w = .go g' w #[⟨.cell ⟨K.Wg,0,none⟩,false,true⟩]/\WM m K (ZQ k T n cs .my) 1 g':=by
 obtain⟨hd,x,u,f,fs,h,rfl⟩:=h;have hx:(cMw4 k T n n x u).ext PP=some (152,[pa k.W 0]):=by kernel_rfl
 rw[W.W]at hx;obtain⟨e1,h1⟩:=Z43 (P:=PP) (m:=m) (cs:=cs) (w:=w) (st:=cMw4 k T n n x u) (v:=0) h hx Z47 (by rw[hS.wg0,hs]) (Zg (m_w4 k T n n x u));exact⟨hd,_,e1,edgM xokQ W ((Z0s ..).symm.trans (m_w4 k T n n x u)) hS (by simp) rfl (dm_4 (x:=x)) h1 λf' fs' h2=>Z0i (tag:=.my) (x:=x) (u:=u) dm_y h2⟩
theorem ZkL{g:Goroutine}(ht:tag = .my\/tag = .mq)(h:ZQ k T n cs tag d g): d=0/\∃x u f fs,stepG PP m g w = .go (run1 f (fs++cs)) w #[⟨.mark (.acquire ⟨K.Wg,0,none⟩),false,true⟩]/\SOk ((plM k T n x u tag).an (.tuple #[])).top ((plM k T n x u tag).an (.tuple #[])).rest f fs:=by
 rcases ht with rfl | rfl
 ·obtain⟨hd,x,u,f,fs,h,rfl⟩:=h
  have hx:(cMy k T n n x u).ext PP=some (143,[pa k.W 0]):=by kernel_rfl
  rw[W.W]at hx;obtain⟨e1,h1⟩:=Z58 (P:=PP) (m:=m) (cs:=cs) (w:=w) (st:=cMy k T n n x u) (λa g=>by simp) h hx Z94 (Zg (m_y k T n n x u));exact⟨hd,x,u,_,fs,e1,h1⟩
 ·obtain⟨hd,x,u,f,fs,h,rfl⟩:=h
  have hx:(cMq k T n n x u).ext PP=some (143,[pa k.W 0]):=by kernel_rfl
  rw[W.W]at hx;obtain⟨e1,h1⟩:=Z58 (P:=PP) (m:=m) (cs:=cs) (w:=w) (st:=cMq k T n n x u) (λa g=>by simp) h hx Z94 (Zg (m_q k T n n x u));exact⟨hd,x,u,_,fs,e1,h1⟩
end
end Lift
namespace Lift
open Go Go.Conc Ev
open Mx (mvt isSp isR1 isS1 sm sms OUT L0 lk sticks)
open Go.ConcM (OsLater woken_by_blocked)
open Go.ConcN (upd upd_ne upd_same)
variable[Jk]
inductive Hh where
 | leaf
 | node (f:World->Hh)
def Hh.sub(a b:Hh):Prop:=∃f w,b = .node f/\a=f w
theorem Hh.wf:WellFounded Hh.sub:=by
 refine⟨λa=>?_⟩
 induction a with
 | leaf=>exact⟨_,λb ⟨f,w,e,_⟩=>by cases e⟩
 | node f ih=>exact⟨_,λb ⟨f',w,e,hb⟩=>by cases e;rw[hb];exact ih w⟩
inductive WTh(P:Program)(m:Bool)(K:Cx)(RO:Nat->Prop)(Stop:(Nat->Prop)->Nat->Goroutine->World->Prop):Hh->(Nat->Prop)->Nat->Goroutine->World->Prop
 | stop {h O d g w} (hs:∀w1,Rely K O w w1->Stop O d g w1):WTh P m K RO Stop h O d g w
 | step {f O d g w} (hr:g.status = .running) (ok:∀w1,Rely K O w w1->∃g' w' es,stepG P m g w1 = .go g' w' es/\Guar K RO O w1 w' es)
   (hk:∀w1,Rely K O w w1->∀g' w' es,stepG P m g w1 = .go g' w' es->WTh P m K RO Stop (f w1) (Grow O w1 w') (deafBehind d es) g' w'):WTh P m K RO Stop (.node f) O d g w
section
variable{P:Program}{K:Cx}{m:Bool}{d:Nat}{RO O:Nat->Prop}{Stop:(Nat->Prop)->Nat->Goroutine->World->Prop}{w w' w1:World}{g:Goroutine}{h:Hh}
theorem WT.height(t:WT P m K RO Stop O d g w):∃h,WTh P m K RO Stop h O d g w:=by
 induction t with
 | stop hs=>exact⟨.leaf,.stop hs⟩
 | @step O d g w hr ok _ ih =>
  classical
  have key:∀w1,∃h:Hh,Rely K O w w1->∀g' w' es,stepG P m g w1 = .go g' w' es->WTh P m K RO Stop h (Grow O w1 w') (deafBehind d es) g' w':=by
   intro w1
   by_cases hw:Rely K O w w1
   ·obtain⟨g',w',es,e,hG⟩:=ok w1 hw
    obtain⟨h,hh⟩:=ih w1 hw g' w' es e;refine⟨h,λ_ g2 w2 es2 e2=>?_⟩;rw[e]at e2;simp only[GStep.go.injEq]at e2;obtain⟨rfl,rfl,rfl⟩:=e2;exact hh
   ·exact⟨.leaf,λh=>absurd h hw⟩
  exact⟨.node λw1=>Classical.choose (key w1),.step hr ok λw1 hw=>Classical.choose_spec (key w1) hw⟩
theorem WTh.rely(t:WTh P m K RO Stop h O d g w)(k:Rely K O w w1):WTh P m K RO Stop h O d g w1:=by
 cases t with
 | stop hs=>exact .stop λw2 h2=>hs w2 (k.trans h2)
 | step hr ok hk=>exact .step hr (λw2 h2=>ok w2 (k.trans h2)) λw2 h2=>hk w2 (k.trans h2)
theorem WTh.running(hS:∀O d g w,Stop O d g w->g.status = .running)(t:WTh P m K RO Stop h O d g w):g.status = .running:=by
 cases t with
 | stop hs=>exact hS _ _ _ _ (hs w (Rely.refl K O w))
 | step hr _ _=>exact hr
theorem WTh.cases'(t:WTh P m K RO Stop h O d g w):Stop O d g w\/∃g' w' es h',stepG P m g w = .go g' w' es/\Guar K RO O w w' es/\WTh P m K RO Stop h' (Grow O w w') (deafBehind d es) g' w'/\Hh.sub h' h:=by
 cases t with
 | stop hs=>exact .inl (hs w (Rely.refl K O w))
 | @step f _ _ _ _ hr ok hk =>
  obtain⟨g',w',es,e,hG⟩:=ok w (Rely.refl K O w);exact .inr ⟨g',w',es,_,e,hG,hk w (Rely.refl K O w) g' w' es e,f,w,rfl,rfl⟩
end
inductive WS where
 | no | mx (c it:Nat) | d1 | d2 | d3 | d4 | qt
namespace WS
def code(b:Bool):WS->Nat
 | .no=>bif b then L0 else OUT
 | .mx c _=>c
 | _=>OUT
def stg:WS->Nat
 | .no=>8
 | .mx _ _=>7
 | .d1=>5
 | .d2=>4
 | .d3=>3
 | .d4=>2
 | .qt=>0
def spn:WS->Nat
 | .mx c it=>sm c it
 | _=>0
def cnt:WS->Nat
 | .mx _ _ | .d1=>1
 | _=>0
end WS
def pend:CT->Nat
 | .mr _ _ | .mg _ _=>1
 | _=>0
def Zak:CT->Prop
 | .mx _ | .w3 | .w4 | .my | .mq=>False
 | _=>True
def ZjV:CT->Prop
 | .w4 | .my | .mq=>True
 | _=>False
def Z8e:CT->Prop
 | .mx _ | .w3=>True
 | _=>False
def tagJ(n:Nat):CT->Nat
 | .ma i | .ms i _ | .md i _ | .mr i _ | .mg i _=>i
 | _=>n
def Z7I(n:Nat):CT->Prop
 | .ma i | .ms i _ | .md i _ | .mr i _ | .mg i _=>i<n
 | .w2 v | .mx v=>1<=v/\v<=3
 | _=>True
def vsum(ws:Nat->WS):Nat:=(ws 0).cnt+(ws 1).cnt+(ws 2).cnt
def phi(n v:Nat):CT->Nat
 | .ma i=>100+10*(n-i)+5
 | .ms i _=>100+10*(n-i)+4
 | .md i _=>100+10*(n-i)+3
 | .mr i _=>100+10*(n-i)+2
 | .mg i _=>100+10*(n-i)+1
 | .w1=>50+2*v+1
 | .w2 v'=>50+2*v'
 | .mx _=>40
 | .w3=>30
 | .w4=>20
 | .my | .mq=>10
def pst(c:Nat):Bool:=Nat.beq c 36||Nat.beq c 37||Nat.beq c 38||Nat.beq c 39||Nat.beq c 40||Nat.beq c 41||Nat.beq c OUT
inductive Mode(ws:Nat->WS):CT->Int->Int->Prop
 | opn {tag:CT}:Zak tag->(∀x,ws x = .no\/(∃c it,ws x = .mx c it)\/ws x = .d1\/ws x = .qt)->(∀v,tag = .w2 v->vsum ws<=v)->Mode ws tag (((vsum ws+pend tag:Nat):Int)*4294967296) 0
 | reg {tag:CT}:Z8e tag->(∀x,ws x = .no\/(∃c it,ws x = .mx c it)\/ws x = .d1\/ws x = .qt)->1<=vsum ws->Mode ws tag ((vsum ws:Int)*4294967296+1) 0
 | last {tag:CT} (L:Nat):Z8e tag->L<3->(ws L = .d2\/ws L = .d3)->(∀x,x≠L->ws x = .no\/ws x = .qt)->Mode ws tag 1 0
 | last4 {tag:CT} (L:Nat):Z8e tag->L<3->ws L = .d4->(∀x,x≠L->ws x = .no\/ws x = .qt)->Mode ws tag 0 0
 | sema {tag:CT}:Z8e tag->(∀x,ws x = .no\/ws x = .qt)->Mode ws tag 0 1
 | fin {tag:CT}:ZjV tag->(∀x,ws x = .no\/ws x = .qt)->Mode ws tag 0 0
structure Ph where
 K:Cx
 k:Wk
 T:Nat->Value
 n:Nat
 cs:List Frame
 D:Nat->Prop
 m0:Nat
 p0:Nat
 β:Nat->Bool
 wS:World
structure Da where
 tag:CT
 ws:Nat->WS
 Lb:Nat->Nat
 Z:Zn
 h0:Nat
 h:Nat->Hh
 q:Nat->Nat
 d0:Nat
 r:Nat
 mu:Nat
 ms:Nat
 s:Sh
def Ph.kx(X:Ph)(Lb:Nat->Nat)(x:Nat):Wk:={X.k with L:=Lb x,lamp:=x}
section
variable(X:Ph)(Y:Da)
def Cal(a:Goroutine)(w:World):Prop:=
 Z8Q true X.K (ZQ X.k X.T X.n X.cs Y.tag) Y.h0 Y.d0 a\/(Y.tag = .w3/\Y.s.ws=0/\a.status = .blocked/\a.offers=none/\ZQ X.k X.T X.n X.cs .w3 Y.d0 {a with status:=.running})
def Wrk(x d:Nat)(g:Goroutine)(w:World):Prop:=
 match Y.ws x with
 | .no=>False
 | .mx c it=>itOk c it/\(WTh PP false X.K (Y.Z.RO x) (Z0N (X.kx Y.Lb x) [bot] c it) (Y.h x) (Y.Z.O x) d g w\/(isS1 c=true/\Y.ms=0/\g.status = .blocked/\g.offers=none/\Z0N (X.kx Y.Lb x) [bot] c it (Y.Z.O x) d {g with status:=.running} w))
 | .d1=>Slip (Z1C (X.kx Y.Lb x) [bot] 1) (Y.q (X.m0+x)) d g
 | .d2=>Slip (Z1C (X.kx Y.Lb x) [bot] 2) (Y.q (X.m0+x)) d g
 | .d3=>Slip (Z1C (X.kx Y.Lb x) [bot] 3) (Y.q (X.m0+x)) d g
 | .d4=>Slip (Z1C (X.kx Y.Lb x) [bot] 4) (Y.q (X.m0+x)) d g
 | .qt=>QuitsD PP (Y.q (X.m0+x)) d g
def curL(tag:CT)(c:Nat):Prop:=match tag with
 | .ms _ L | .md _ L | .mr _ L | .mg _ L=>c=L
 | _=>False
structure Ci(gs:Array Goroutine)(w:World)(t:Trace):Prop where
 size:gs.size=X.m0+Y.Z.j
 zm:Y.Z.m0=X.m0
 zj:Y.Z.j=tagJ X.n Y.tag
 tok:Z7I X.n Y.tag
 old:∀i g,0<i->i<X.m0->gs[i]?=some g->QuitsD PP (Y.q i) (Deaf t i) g
 cal:∃a,gs[0]?=some a/\Cal X Y a w
 wrk:∀x,x<Y.Z.j->∃g,gs[X.m0+x]?=some g/\Wrk X Y x (Deaf t (X.m0+x)) g w
 no:∀x,Y.Z.j<=x->Y.ws x = .no
 sh:ShAt X.K w Y.s
 vmu:Y.s.mu=(Y.mu:Int)
 vms:Y.s.ms=(Y.ms:Int)
 tab:lk ((Y.ws 0).code (X.β 0)) ((Y.ws 1).code (X.β 1)) ((Y.ws 2).code (X.β 2)) Y.mu Y.ms=some Y.r
 out:∀x,X.β x=false->(Y.ws x).code (X.β x)=OUT
 len:Y.s.fd.length=X.n
 fd:∀x,x<X.n->Y.s.fd[x]?=some (X.β x&&pst ((Y.ws x).code (X.β x)))
 mode:Mode Y.ws Y.tag Y.s.wg Y.s.ws
 bx:∀x,x<Y.Z.j->Bx (X.kx Y.Lb x) (Y.Z.RO x) w/\Off3 X.K (X.kx Y.Lb x)
 low:∀x c,x<Y.Z.j->Y.Z.O x c->c<w.heap.size
 new:∀x c,x<Y.Z.j->c<X.wS.heap.size->Y.Z.O x c->Y.Z.RO x c
 ro:∀x c,Y.Z.RO x c->Y.Z.O x c
 om:Y.Z.Om=curL Y.tag
 lmp:∀c,curL Y.tag c->X.wS.heap.size<=c/\c<w.heap.size/\∃z TT,w.heap[c]?=some (.cells #[z] TT (0,0))/\((∀i L,Y.tag ≠ .ms i L)->z=qw (Y.Z.j:Int))
 sep:Sep X.K X.D Y.Z
 ti:TI X.K X.D Y.Z w.heap.size X.p0 Y.d0 t
 said:∀x,x<Y.Z.j->(∀c it,Y.ws x ≠ .mx c it)->Said X.K Y.Z X.p0 t x
 kept:∀c,c<X.wS.heap.size->c≠X.K.Mu->c≠X.K.Wg->c≠X.K.Fd->w.heap[c]?=X.wS.heap[c]?
 grow:X.wS.heap.size<=w.heap.size
 os:OsLater X.wS.os w.os
 outp:w.output=X.wS.output
structure PhOk:Prop where
 n3:X.n<=3
 m0:0<X.m0
 ok:∀Lb x,x<X.n->Wok X.K (X.kx Lb x)
 wok:Wok X.K X.k
 kn:X.k.n=X.n
 βn:∀x,X.n<=x->X.β x=false
 dlow:∀c,X.D c->c<X.wS.heap.size
 isB:∃T fz,X.wS.heap[X.k.I]?=some (.cells #[X.k.clo] T fz)
 fdB:∃T fz,X.wS.heap[X.k.B]?=some (.cells #[.slice (some ⟨X.k.D,0,none⟩) X.k.n X.k.c] T fz)
 iO:X.k.I≠X.K.Mu/\X.k.I≠X.K.Wg/\X.k.I≠X.K.Fd/\¬X.D X.k.I
 bO:X.k.B≠X.K.Mu/\X.k.B≠X.K.Wg/\X.k.B≠X.K.Fd/\¬X.D X.k.B
end
end Lift
namespace Lift
open Go Go.Conc Ev
open Mx (mvt isSp isR1 isS1 sm sms OUT L0 lk sticks)
open Go.ConcM (OsLater woken_by_blocked)
open Go.ConcN (upd upd_ne upd_same)
variable[Jk]
theorem Z1c{a b:Os}(h:OsLater a b):b.env=a.env:=by
 obtain⟨d,rfl⟩:=h
 rfl
section
variable{X:Ph}{Y Y':Da}{gs:Array Goroutine}{w w':World}{t:Trace}{a g g':Goroutine}{es:Array Event}{x:Nat}{d:Nat}
def Zb7(g g':Goroutine):Prop:=mayWake PP g=true/\g'.status = .running
theorem Z8J(hb:a.status = .blocked)(ho:a.offers=none):woken PP g g' w a=a\/woken PP g g' w a={a with status:=.running}:=by
 unfold woken
 split
 ·refine .inr ?_
  unfold Goroutine.again;rw[hb,ho]
 ·exact .inl rfl
theorem Z6w(hb:a.status = .blocked)(ho:a.offers=none)(h:Zb7 g g'):woken PP g g' w a={a with status:=.running}:=by
 unfold woken;rw[h.1,h.2];simp only[Bool.true_and];rw[if_pos (by decide)];unfold Goroutine.again;rw[hb,ho]
theorem Z5F{k:Wk}{T:Nat->Value}{cs:List Frame}{tag:CT}: ∀d g,ZQ k T n cs tag d g->g.status = .running:=by
 rintro d g ⟨_,x,u,f,fs,_,rfl⟩
 rfl
theorem Z5u{K:Cx}{k:Wk}{T:Nat->Value}{d: Nat}{cs:List Frame}{tag:CT}{g:Goroutine}{m:Bool}(h:Z8Q m K (ZQ k T n cs tag) q d g): g.status = .running:=by
 cases q with
 | zero=>exact Z5F _ _ h
 | succ q=>exact h.elim (Z5F _ _) λh=>h.1
theorem Zbx{m:Bool}{K:Cx}{Stop:Nat->Goroutine->Prop}{d:Nat}{g:Goroutine}(h:Stop d g): ∀q,Z8Q m K Stop q d g
 | 0=>h
 | q+1=>.inl h
theorem Z23{k:Wk}{cs:List Frame}{c it:Nat}: ∀O d g w,Z0N k cs c it O d g w->g.status = .running:=by
 rintro O d g w ⟨_,f,fs,wst,q,_,rfl⟩
 rfl
theorem Z0p{k:Wk}{cs:List Frame}{d: Nat}{g:Goroutine}(h:Slip (Z1C k cs n) q d g): g.status = .running:=by
 have:∀d g,Z1C k cs n d g->g.status = .running:=by
  rintro d g ⟨_,f,fs,_,rfl⟩
  rfl
 cases q with
 | zero=>exact this _ _ h
 | succ q=>exact h.elim (this _ _) λh=>h.1
theorem Cal.keep(h:Cal X Y a w)(l:Rely X.K NO w w')(e1:Y'.tag=Y.tag)(e2:Y'.h0=Y.h0)(e3:Y'.d0=Y.d0)(hw:Y.s.ws=0->Y'.s.ws=0\/Zb7 g g'):Cal X Y' (woken PP g g' w' a) w':=by
 unfold Cal at h⊢;rw[e1,e2,e3]
 rcases h with h | ⟨h1,h2,h3,h4,h5⟩
 ·rw[woken_running (Z5u h)]
  exact .inl h
 ·rw[h1]
  have go:Z8Q true X.K (ZQ X.k X.T X.n X.cs .w3) Y.h0 Y.d0 {a with status:=.running}:=Zbx h5 _
  rcases hw h2 with hw | hw
  ·rcases Z8J (w:=w') (g:=g) (g':=g') h3 h4 with e | e
   ·rw[e];exact .inr ⟨rfl,hw,h3,h4,h5⟩
   ·rw[e];exact .inl go
  ·rw[Z6w h3 h4 hw];exact .inl go
theorem Wrk.keep(h:Wrk X Y x d a w)(l:Rely X.K (Y.Z.O x) w w')(e1:Y'.ws x=Y.ws x)(e2:Y'.h x=Y.h x)(e3:Y'.Z.O x=Y.Z.O x)(e4:Y'.Z.RO x=Y.Z.RO x)(e5:Y'.Lb x=Y.Lb x)(e6:Y'.q (X.m0+x)=Y.q (X.m0+x))(hw:Y.ms=0->Y'.ms=0\/Zb7 g g'):Wrk X Y' x d (woken PP g g' w' a) w':=by
 have ek:X.kx Y'.Lb x=X.kx Y.Lb x:=by unfold Ph.kx;rw[e5]
 unfold Wrk at h⊢;rw[e1,e2,e3,e4,e6,ek]
 cases hs:Y.ws x with
 | no=>rw[hs]at h;exact h
 | mx c it =>
  rw[hs]at h;dsimp only at h⊢;obtain⟨hi,h⟩:=h;refine⟨hi,?_⟩
  rcases h with h | ⟨h1,h2,h3,h4,h5⟩
  ·rw[woken_running (h.running Z23)]
   exact .inl (h.rely l)
  ·have go:∀w,WTh PP false X.K (Y.Z.RO x) (Z0N (X.kx Y.Lb x) [bot] c it) (Y.h x) (Y.Z.O x) d {a with status:=.running} w:=λw=>.stop λw1 _=>h5
   rcases hw h2 with hw | hw
   ·rcases Z8J (w:=w') (g:=g) (g':=g') h3 h4 with e | e
    ·rw[e];exact .inr ⟨h1,hw,h3,h4,h5⟩
    ·rw[e];exact .inl (go _)
   ·rw[Z6w h3 h4 hw];exact .inl (go _)
 | d1=>rw[hs]at h;dsimp only at h⊢;rw[woken_running (Z0p h)];exact h
 | d2=>rw[hs]at h;dsimp only at h⊢;rw[woken_running (Z0p h)];exact h
 | d3=>rw[hs]at h;dsimp only at h⊢;rw[woken_running (Z0p h)];exact h
 | d4=>rw[hs]at h;dsimp only at h⊢;rw[woken_running (Z0p h)];exact h
 | qt=>rw[hs]at h;dsimp only at h⊢;rw[woken_quitsD h];exact h
def Da.wk(Y:Da)(m0 x:Nat)(σ:WS)(O':Nat->Prop)(hx:Hh)(qx:Nat)(s:Sh)(mu ms r:Nat):Da:=
 {Y with ws:=upd Y.ws x σ,Z:={Y.Z with O:=upd Y.Z.O x O'},h:=upd Y.h x hx,q:=upd Y.q (m0+x) qx,s:=s,mu:=mu,ms:=ms,r:=r}
theorem Z0t{i j:Nat}{f:Goroutine->Goroutine}(h:i≠j): ((gs.map f).setIfInBounds i g')[j]?=(gs[j]?).map f:=by
 rw[Yq h,Array.getElem?_map]
theorem Z2V{i:Nat}{f:Goroutine->Goroutine}(h:i<gs.size): ((gs.map f).setIfInBounds i g')[i]?=some g':=by
 rw[Array.getElem?_setIfInBounds_self_of_lt (by simpa using h)]
theorem Ci.wstep(C:Ci X Y gs w t)(hok:PhOk X)(hx:x<Y.Z.j)(hg:gs[X.m0+x]?=some g){σ:WS}{hx':Hh}{qx:Nat}{s':Sh}{mu' ms' r':Nat}(hfar:∀c,c<w.heap.size->¬Y.Z.O x c->c≠X.K.Mu->c≠X.K.Wg->c≠X.K.Fd->w'.heap[c]?=w.heap[c]?)(hro:∀c,Y.Z.RO x c->w'.heap[c]?=w.heap[c]?)(hsize:w.heap.size<=w'.heap.size)(hos:OsLater w.os w'.os)(hout:w'.output=w.output)(sh':ShAt X.K w' s')(vmu':s'.mu=(mu':Int))(vms':s'.ms=(ms':Int))(tab':lk (((upd Y.ws x σ) 0).code (X.β 0)) (((upd Y.ws x σ) 1).code (X.β 1)) (((upd Y.ws x σ) 2).code (X.β 2)) mu' ms'=some r')(out':X.β x=false->σ.code (X.β x)=OUT)(len':s'.fd.length=X.n)(fd':∀y,y<X.n->s'.fd[y]?=some (X.β y&&pst (((upd Y.ws x σ) y).code (X.β y))))(mode':Mode (upd Y.ws x σ) Y.tag s'.wg s'.ws)(hev:EvT X.K {Y.Z with O:=upd Y.Z.O x (Grow (Y.Z.O x) w w')} x w'.heap.size (Deaf t (X.m0+x)) es)(hwk:(Y.ms=0->ms'=0\/Zb7 g g')/\(Y.s.ws=0->s'.ws=0\/Zb7 g g'))(hown:Wrk X (Y.wk X.m0 x σ (Grow (Y.Z.O x) w w') hx' qx s' mu' ms' r') x (deafBehind (Deaf t (X.m0+x)) es) g' w')(hsaid:(∀c it,σ ≠ .mx c it)->Said X.K Y.Z X.p0 (t++MemOp.ofEvents (X.m0+x) fn pos es) x):
  Ci X (Y.wk X.m0 x σ (Grow (Y.Z.O x) w w') hx' qx s' mu' ms' r') ((gs.map (woken PP g g' w')).setIfInBounds (X.m0+x) g') w' (t++MemOp.ofEvents (X.m0+x) fn pos es):=by
 have hlt:X.m0+x<gs.size:=(Y0.1 hg).1;have hm0:=hok.m0;have l1:=(Y0.1 C.sh.mu).1;have l2:=(Y0.1 C.sh.wg).1;have l3:=(Y0.1 C.sh.fd).1;have S:=C.sep;have hu:∀op∈MemOp.ofEvents (X.m0+x) fn pos es,op.g=X.m0+x:=λop hop=>by obtain⟨e,_,rfl⟩:=Go.Conc.mem_ofEvents hop;rfl
 -- what others may rely on
 have hrel:∀y,y<Y.Z.j->y≠x->Rely X.K (Y.Z.O y) w w':=λy hy hne=>⟨λc hc=>by
  by_cases ho:Y.Z.O x c
  ·exact hro c (S.two x y c hx hy (Ne.symm hne) ho hc).1
  ·have:=S.shared y c hy hc
   exact hfar c (C.low y c hy hc) ho this.1 this.2.1 this.2.2.1,hsize,Z1c hos,λ_=>⟨s',sh'⟩⟩
 have hZO:∀y,y≠x->(upd Y.Z.O x (Grow (Y.Z.O x) w w')) y=Y.Z.O y:=λy hy=>upd_ne _ _ hy;have hZx:(upd Y.Z.O x (Grow (Y.Z.O x) w w')) x=Grow (Y.Z.O x) w w':=upd_same _ _ _;have S':Sep X.K X.D {Y.Z with O:=upd Y.Z.O x (Grow (Y.Z.O x) w w')}:=by
  refine⟨λi c hi hc=>?_,λi i' c hi hi' hne hc hc'=>?_,λc hc=>S.own c hc,S.fd⟩
  ·by_cases hix:i=x
   ·subst hix
    dsimp only at hc;rw[hZx]at hc
    rcases hc with hc | ⟨hc,_⟩
    ·exact S.shared i c hx hc
    ·refine⟨by omega,by omega,by omega,λhd=>?_,λho=>?_⟩
     ·have:=hok.dlow c hd
      have:=C.grow;omega
     ·dsimp only at ho
      rw[C.om]at ho;have:=(C.lmp c ho).2.1;omega
   ·dsimp only at hc
    rw[hZO i hix]at hc;exact S.shared i c hi hc
  ·dsimp only at hc hc'
   by_cases hix:i=x
   ·subst hix
    rw[hZx]at hc;rw[hZO i' (Ne.symm hne)]at hc'
    rcases hc with hc | ⟨hc,_⟩
    ·exact S.two i i' c hi hi' hne hc hc'
    ·have:=C.low i' c hi' hc'
     omega
   ·rw[hZO i hix]at hc
    by_cases hix':i'=x
    ·subst hix'
     rw[hZx]at hc'
     rcases hc' with hc' | ⟨hc',_⟩
     ·exact S.two i i' c hi hi' hne hc hc'
     ·have:=C.low i c hi hc
      omega
    ·rw[hZO i' hix']at hc'
     exact S.two i i' c hi hi' hne hc hc'
 have kz:Zle Y.Z {Y.Z with O:=upd Y.Z.O x (Grow (Y.Z.O x) w w')} w.heap.size:=by
  refine⟨rfl,rfl,λy c hc=>?_,λy c hc=>?_,rfl,rfl⟩
  ·by_cases hy:y=x
   ·subst hy;dsimp only;rw[hZx];exact .inl hc
   ·dsimp only;rw[hZO y hy];exact hc
  ·by_cases hy:y=x
   ·subst hy
    dsimp only at hc;rw[hZx]at hc;exact hc.imp id λh=>h.1
   ·dsimp only at hc
    rw[hZO y hy]at hc;exact .inl hc
 have hTI:TI X.K X.D {Y.Z with O:=upd Y.Z.O x (Grow (Y.Z.O x) w w')} w'.heap.size X.p0 Y.d0 (t++MemOp.ofEvents (X.m0+x) fn pos es):=by
  have:=C.ti.worker (B':=w'.heap.size) S' kz hsize hx (fn:=fn) (pos:=pos) (es:=es) rfl (by rw[C.zm];exact hev);rw[C.zm]at this;exact this
 have hdo:∀i,i≠X.m0+x->Deaf (t++MemOp.ofEvents (X.m0+x) fn pos es) i=Deaf t i:=λi hi=>Deaf_other t (Ne.symm hi) _ hu;refine⟨Eq.trans (by simp) C.size,C.zm,C.zj,C.tok,λi y h0 hi hy=>?_,?_,λy hy=>?_,λy hy=>?_,sh',vmu',vms',tab',λy hy=>?_,len',fd',mode',λy hy=>?_,λy c hy hc=>?_,λy c hy hc ho=>?_,λy c hc=>?_,C.om,λc hc=>?_,S',hTI,λy hy hs=>?_,λc hc h1 h2 h3=>?_,Yd C.grow hsize,OsLater.trans C.os hos,hout.trans C.outp⟩
 ·rw[Z0t (by omega)]at hy
  obtain⟨z,hz,rfl⟩:=Y3.1 hy;have hq:=C.old i z h0 hi hz;rw[woken_quitsD hq,hdo i (by omega)];show QuitsD PP (upd Y.q (X.m0+x) qx i) _ _;rw[upd_ne _ _ (by omega)];exact hq
 ·obtain⟨a,h0,ha⟩:=C.cal
  refine⟨_,by rw[Z0t (by omega),h0];rfl,ha.keep ⟨λc hc=>hc.elim,hsize,Z1c hos,λ_=>⟨s',sh'⟩⟩ rfl rfl rfl hwk.2⟩
 ·by_cases hyx:y=x
  ·subst hyx
   refine⟨g',Z2V hlt,?_⟩;rw[Deaf_own];exact hown
  ·obtain⟨z,hz,hw⟩:=C.wrk y hy
   refine⟨_,by rw[Z0t (by omega),hz];rfl,?_⟩;rw[hdo _ (by omega)];exact hw.keep (hrel y hy hyx) (upd_ne _ _ hyx) (upd_ne _ _ hyx) (hZO y hyx) rfl rfl (upd_ne _ _ (by omega)) hwk.1
 ·have hy':Y.Z.j<=y:=hy
  show upd Y.ws x σ y = .no;rw[upd_ne _ _ (by omega)];exact C.no y hy'
 ·show (upd Y.ws x σ y).code _=OUT
  by_cases hyx:y=x
  ·subst hyx;rw[upd_same];exact out' hy
  ·rw[upd_ne _ _ hyx];exact C.out y hy
 ·obtain⟨b1,b2⟩:=C.bx y hy
  refine⟨?_,b2⟩
  by_cases hyx:y=x
  ·subst hyx
   exact b1.rely ⟨λc hc=>hro c hc,hsize,Z1c hos,λ_=>⟨s',sh'⟩⟩
  ·have:=hrel y hy hyx
   exact b1.rely ⟨λc hc=>this.keep c (C.ro y c hc),hsize,Z1c hos,λ_=>⟨s',sh'⟩⟩
 ·show c<w'.heap.size
  have hc':upd Y.Z.O x (Grow (Y.Z.O x) w w') y c:=hc
  by_cases hyx:y=x
  ·subst hyx
   rw[hZx]at hc'
   rcases hc' with hc' | ⟨_,hc'⟩
   ·have:=C.low y c hy hc'
    omega
   ·exact hc'
  ·rw[hZO y hyx]at hc'
   have:=C.low y c hy hc';omega
 ·have ho':upd Y.Z.O x (Grow (Y.Z.O x) w w') y c:=ho
  show Y.Z.RO y c
  by_cases hyx:y=x
  ·subst hyx
   rw[hZx]at ho'
   rcases ho' with ho' | ⟨ho',_⟩
   ·exact C.new y c hy hc ho'
   ·have:=C.grow
    omega
  ·rw[hZO y hyx]at ho'
   exact C.new y c hy hc ho'
 ·show upd Y.Z.O x (Grow (Y.Z.O x) w w') y c
  have hc':Y.Z.RO y c:=hc
  by_cases hyx:y=x
  ·subst hyx;rw[hZx];exact .inl (C.ro y c hc')
  ·rw[hZO y hyx];exact C.ro y c hc'
 ·have hc':curL Y.tag c:=hc
  obtain⟨a1,a2,z,TT,a3,a4⟩:=C.lmp c hc';refine⟨a1,by omega,z,TT,?_,a4⟩;have hn:¬Y.Z.O x c:=λho=>(S.shared x c hx ho).2.2.2.2 (by rw[C.om];exact hc');have:=S.own c (by rw[C.om];exact hc');rw[hfar c a2 hn this.1 this.2.1 this.2.2.1];exact a3
 ·have hs':∀c it,upd Y.ws x σ y ≠ .mx c it:=hs
  show Said X.K _ X.p0 _ y
  by_cases hyx:y=x
  ·subst hyx
   rw[upd_same]at hs';exact hsaid hs'
  ·rw[upd_ne _ _ hyx]at hs'
   have:=(C.said y hy hs').other (g:=X.m0+x) (by rw[C.zm];omega) hu;exact this
 ·have:w'.heap[c]?=w.heap[c]?:=by
   by_cases ho:Y.Z.O x c
   ·exact hro c (C.new x c hx hc ho)
   ·exact hfar c (Y8 hc C.grow) ho h1 h2 h3
  rw[this];exact C.kept c hc h1 h2 h3
end
end Lift
namespace Lift
open Go Go.Conc Ev
open Mx
open Go.ConcM (OsLater woken_by_blocked)
open Go.ConcN (upd upd_ne upd_same sumTo)
variable[Jk]
inductive DLst(b d:Nat):Array Event->Prop
 | nil:DLst b d #[]
 | rd (o:Nat):0<d->DLst b d #[⟨.cell ⟨b,o,none⟩,false,true⟩]
 | wr (o:Nat):0<d->DLst b d #[⟨.cell ⟨b,o,none⟩,true,true⟩]
 | rw (o:Nat):0<d->DLst b d #[⟨.cell ⟨b,o,none⟩,false,true⟩,⟨.cell ⟨b,o,none⟩,true,true⟩]
 | sem (o:Nat):DLst b d (semEvents ⟨b,o,none⟩)
section
variable{K:Cx}{Z:Zn}{x B d b:Nat}{es:Array Event}
theorem Z2U{a e:α}{l:List α}(h:(List.toArray (a::l))[n]?=some e): (n=0/\e=a)\/∃m,n=m+1/\l[m]?=some e:=by
 cases n with
 | zero=>exact .inl ⟨rfl,by simpa using h.symm⟩
 | succ m=>exact .inr ⟨m,rfl,by simpa using h⟩
theorem DLst.deaf(h:DLst b d es):deafBehind d es=d:=by
 cases h<;>first | rfl | (simp[semEvents,deafBehind])
theorem DLst.evT(h:DLst b d es)(hb:b=K.Mu\/b=K.Wg)(hl:b<B):EvT K Z x B d es:=by
 have cell:∀o wr,(MemAct.ofEvent ⟨.cell ⟨b,o,none⟩,wr,true⟩).low B/\(Event.mk (.cell ⟨b,o,none⟩) wr true).loc ≠ .mark (.release ⟨K.Wg,0,none⟩):=λo wr=>⟨hl,by simp⟩;have tch:∀{o wr a},(MemAct.ofEvent ⟨.cell ⟨b,o,none⟩,wr,true⟩).touch?=some a->Z8N K a.loc/\a.kind = .atomic:=by
  intro o wr a h;simp only[MemAct.ofEvent,MemAct.touch?,Y4]at h;subst h;exact⟨⟨_,rfl,hb⟩,rfl⟩
 cases h with
 | nil=>intro n e h;simp at h
 | rd o hd =>
  intro n e h
  rcases Z2U h with⟨rfl,rfl⟩ | ⟨m,_,h⟩
  ·exact⟨(cell o false).1,(cell o false).2,λa h1 _=>.inr ⟨(tch h1).1,(tch h1).2,by simpa[deafBehind] using hd⟩⟩
  ·cases h
 | wr o hd =>
  intro n e h
  rcases Z2U h with⟨rfl,rfl⟩ | ⟨m,_,h⟩
  ·exact⟨(cell o true).1,(cell o true).2,λa h1 _=>.inr ⟨(tch h1).1,(tch h1).2,by simpa[deafBehind] using hd⟩⟩
  ·cases h
 | rw o hd =>
  intro n e h
  rcases Z2U h with⟨rfl,rfl⟩ | ⟨m,rfl,h⟩
  ·exact⟨(cell o false).1,(cell o false).2,λa h1 _=>.inr ⟨(tch h1).1,(tch h1).2,by simpa[deafBehind] using hd⟩⟩
  ·cases m with
   | zero =>
    have h':some _=some e:=h;obtain rfl:=Y1 h';exact⟨(cell o true).1,(cell o true).2,λa h1 _=>.inr ⟨(tch h1).1,(tch h1).2,by simpa[deafBehind] using hd⟩⟩
   | succ m=>cases h
 | sem o =>
  intro n e h;unfold semEvents at h⊢
  rcases Z2U h with⟨rfl,rfl⟩ | ⟨m,rfl,h⟩
  ·exact⟨trivial,by simp,λa h1 _=>by simp[MemAct.ofEvent,MemAct.touch?]at h1⟩
  ·match m,h with
   | 0,h =>
    have h':some _=some e:=h;obtain rfl:=Y1 h';exact⟨(cell o false).1,(cell o false).2,λa h1 _=>.inr ⟨(tch h1).1,(tch h1).2,by simp[deafBehind]⟩⟩
   | 1,h =>
    have h':some _=some e:=h;obtain rfl:=Y1 h';exact⟨(cell o true).1,(cell o true).2,λa h1 _=>.inr ⟨(tch h1).1,(tch h1).2,by simp[deafBehind]⟩⟩
   | 2,h =>
    have h':some _=some e:=h;obtain rfl:=Y1 h';exact⟨trivial,by simp,λa h1 _=>by simp[MemAct.ofEvent,MemAct.touch?]at h1⟩
   | m+3,h=>cases h
theorem DLst.noplain(h:DLst b d es):∀e∈es,∀a,(MemAct.ofEvent e).touch?=some a->a.kind ≠ .plain:=by
 cases h<;>intro e he a ha<;>simp[semEvents]at he
 ·subst he;simp[MemAct.ofEvent,MemAct.touch?]at ha;subst ha;simp
 ·subst he;simp[MemAct.ofEvent,MemAct.touch?]at ha;subst ha;simp
 ·rcases he with rfl | rfl<;>(simp[MemAct.ofEvent,MemAct.touch?]at ha;subst ha;simp)
 ·rcases he with rfl | rfl | rfl | rfl<;>simp[MemAct.ofEvent,MemAct.touch?]at ha<;>(subst ha;simp)
theorem DLst.evM{Om:Nat->Prop}(h:DLst b d es)(hb:b=K.Mu\/b=K.Wg)(hl:b<B): EvM K Om B es:=by
 intro e he;obtain⟨n,hn⟩:=Array.mem_iff_getElem?.1 he;obtain⟨h1,h2,h3⟩:=h.evT (K:=K) (Z:=⟨0,0,λ_ _=>False,λ_ _=>False,λ_=>False⟩) (x:=0) hb hl n e hn;refine⟨h1,h2,λa ha hm=>?_⟩
 rcases h3 a ha hm with⟨hp,_⟩ | ⟨hd,hk,_⟩
 ·exact absurd hp (h.noplain e he a ha)
 ·exact .inr ⟨hd,by rw[hk];simp⟩
theorem Lst.evT{k:Wk}(h:Lst K k d es)(hMu:K.Mu<B)(hFd:K.Fd<B)(hx:k.lamp=x):EvT K Z x B d es:=by
 cases h with
 | nil=>exact DLst.nil.evT (b:=K.Mu) (.inl rfl) hMu
 | rd o hd=>exact(DLst.rd o hd).evT (.inl rfl) hMu
 | rw o hd=>exact(DLst.rw o hd).evT (.inl rfl) hMu
 | sem o=>exact(DLst.sem o).evT (.inl rfl) hMu
 | put =>
  intro n e h
  rcases Z2U h with⟨rfl,rfl⟩ | ⟨m,_,h⟩
  ·refine⟨hFd,by simp,λa h1 _=>.inl ?_⟩
   simp only[MemAct.ofEvent,MemAct.touch?,Y4]at h1;subst h1;exact⟨rfl,.inr (by rw[hx])⟩
  ·cases h
theorem ZeR{RO O:Nat->Prop}{w w':World}(hG:Guar K RO O w w' es)(hO:∀c,Grow O w w' c->Z.O x c)(hR:Z.RO x=RO)(hW:K.Mu<w'.heap.size): EvT K Z x w'.heap.size d es:=by
 intro n e h;have he:=hG.ev e (Yk h)
 rcases he with⟨a,wr,rfl,h1,h2,h3⟩ | ⟨c,wr,rfl,h1,h2,h3⟩ | rfl | rfl | rfl | rfl | ⟨p,hp,rfl⟩ | ⟨p,hp,rfl⟩
 ·refine⟨h2,by simp,λb hb _=>.inl ?_⟩
  simp only[MemAct.ofEvent,MemAct.touch?,Y4]at hb;subst hb;exact⟨rfl,.inl ⟨a.block,rfl,hO _ h1,by rw[hR];exact h3⟩⟩
 ·have e0:MemAct.ofEvent ⟨.obj c,wr,false⟩ = .access ⟨.obj c,wr,false⟩:=by cases wr<;>rfl
  refine⟨by rw[e0];exact h2,by simp,λb hb _=>.inl ?_⟩;rw[e0]at hb;simp only[MemAct.touch?,Y4]at hb;subst hb;exact⟨rfl,.inl ⟨c,rfl,hO _ h1,by rw[hR];exact h3⟩⟩
 ·exact⟨trivial,by simp,λb hb _=>by simp[MemAct.ofEvent,MemAct.touch?]at hb⟩
 ·refine⟨trivial,by simp,λb hb hm=>?_⟩
  simp[MemAct.ofEvent,MemAct.touch?]at hb;subst hb
  cases hm
 ·exact⟨trivial,by simp,λb hb _=>by simp[MemAct.ofEvent,MemAct.touch?]at hb⟩
 ·exact⟨trivial,by simp,λb hb _=>by simp[MemAct.ofEvent,MemAct.touch?]at hb⟩
 ·exact⟨by show p.block<_;rw[hp];exact hW,by simp,λb hb _=>by simp[MemAct.ofEvent,MemAct.touch?]at hb⟩
 ·exact⟨by show p.block<_;rw[hp];exact hW,by simp,λb hb _=>by simp[MemAct.ofEvent,MemAct.touch?]at hb⟩
end
noncomputable def pin(c mu:Nat):Bool:=Nat.beq c OUT||prs.any λp=>Nat.beq p.1 c&&Nat.beq p.2 mu
noncomputable def pok(c mu:Nat):Bool:=match mvt c mu with
 | none=>false
 | some l=>l.all λp=>(bif Nat.beq c 32 then pst p.1 else(bif pst c then pst p.1 else !pst p.1))&&Nat.ble p.2.2 2
theorem Zg2:tall (λa b c mu _ _=>(pin a mu&&pin b mu&&pin c mu)&&(pok a mu&&pok b mu&&pok c mu))=true:=by kernel_rfl
section
variable{a b c mu ms r x:Nat}{f:Nat->Nat}
theorem ZhT(h:lk a b c mu ms=some r):pin a mu=true/\pok a mu=true:=by
 have h1:=Zan Zg2 h;simp only[Y5]at h1;obtain⟨g1,g2⟩:=h1
 rcases ZkR a b c with⟨e1,e2,e3⟩ | ⟨e1,e2,e3⟩ | ⟨e1,e2,e3⟩ | ⟨e1,e2,e3⟩ | ⟨e1,e2,e3⟩ | ⟨e1,e2,e3⟩<;>rw[<-e1,<-e2,<-e3]at g1 g2 <;>
  exact⟨by first | exact g1.1.1 | exact g1.1.2 | exact g1.2,by first | exact g2.1.1 | exact g2.1.2 | exact g2.2⟩
theorem Zlx(hx:x<3):∃y z,(∀v,lk ((upd f x v) 0) ((upd f x v) 1) ((upd f x v) 2) mu ms=lk v y z mu ms)/\(∀v mu' ms',lk ((upd f x v) 0) ((upd f x v) 1) ((upd f x v) 2) mu' ms'=lk v y z mu' ms'):=by
 have:x=0\/x=1\/x=2:=by omega
 rcases this with rfl | rfl | rfl
 ·refine⟨f 1,f 2,λv=>?_,λv mu' ms'=>?_⟩<;>rw[upd_same,upd_ne _ _ (by omega),upd_ne _ _ (by omega)]
 ·refine⟨f 0,f 2,λv=>?_,λv mu' ms'=>?_⟩<;>rw[upd_same,upd_ne _ _ (by omega),upd_ne _ _ (by omega),lk_1]
 ·refine⟨f 0,f 1,λv=>?_,λv mu' ms'=>?_⟩<;>rw[upd_same,upd_ne _ _ (by omega),upd_ne _ _ (by omega),lk_2,lk_1]
theorem Z2n(f:Nat->α)(x:Nat): upd f x (f x)=f:=by
 funext y
 by_cases h:y=x
 ·subst h;rw[upd_same]
 ·rw[upd_ne _ _ h]
theorem Zed(hx:x<3)(h:lk (f 0) (f 1) (f 2) mu ms=some r):∃y z,lk (f x) y z mu ms=some r/\∀v mu' ms',lk ((upd f x v) 0) ((upd f x v) 1) ((upd f x v) 2) mu' ms'=lk v y z mu' ms':=by
 obtain⟨y,z,h1,h2⟩:=Zlx (f:=f) (mu:=mu) (ms:=ms) hx;have:=h1 (f x);rw[Z2n]at this;exact⟨y,z,by rw[<-this];exact h,h2⟩
theorem Zkr(h:pin c mu=true):c=OUT\/(c,mu)∈prs:=by
 unfold pin at h;simp only[Yo,Nat.beq_eq,List.any_eq_true,Y5]at h
 rcases h with h | ⟨⟨p,q⟩,h1,h2,h3⟩
 ·exact .inl h
 ·dsimp only at h2 h3
  subst h2 h3;exact .inr h1
theorem Zks{l:List (Nat×Nat×Nat)}{y mu' d:Nat}(h:pok c mu=true)(hl:mvt c mu=some l)(hm:(y,mu',d)∈l): (c=32->pst y=true)/\(c≠32->pst y=pst c)/\d<=2:=by
 unfold pok at h;rw[hl]at h;have:=Yl.1 h _ hm;dsimp only at this;rw[Y5,Nat.ble_eq]at this;obtain⟨this,hd⟩:=this
 by_cases hc:c=32
 ·subst hc
  exact⟨λ_=>this,λe=>absurd rfl e,hd⟩
 ·have hb:Nat.beq c 32=false:=by
   cases hb:Nat.beq c 32
   ·rfl
   ·exact absurd (Nat.eq_of_beq_eq_true hb) hc
  rw[hb]at this;refine⟨λe=>absurd e hc,λ_=>?_,hd⟩
  cases hp:pst c
  ·rw[hp]at this;simpa using this
  ·rw[hp]at this;exact this
end
theorem Z9b{β: Type}{r:α->α->Prop}{s:β->β->Prop}(hr:WellFounded r)(hs:WellFounded s): WellFounded (Prod.Lex r s):=⟨λ⟨a,b⟩=>Prod.lexAccessible (hr.apply a) (λb=>hs.apply b) b⟩
def ltn(a b:Nat):Prop:=a<b
theorem Z8g:WellFounded ltn:=Nat.lt_wfRel.wf
abbrev Mt:=Nat×Nat×Nat×Hh×Hh×Hh×Nat×Nat
def Mr:Mt->Mt->Prop:=Prod.Lex ltn (Prod.Lex ltn (Prod.Lex ltn (Prod.Lex Hh.sub (Prod.Lex Hh.sub (Prod.Lex Hh.sub (Prod.Lex ltn ltn))))))
theorem Zl0:WellFounded Mr:=Z9b Z8g (Z9b Z8g (Z9b Z8g (Z9b Hh.wf (Z9b Hh.wf (Z9b Hh.wf (Z9b Z8g Z8g))))))
def flg:Option Goroutine->Nat
 | some g=>if g.status = .running then 1 else 0
 | none=>0
def fl(gs:Array Goroutine):Nat:=sumTo gs.size λi=>flg gs[i]?
def mu1(X:Ph)(Y:Da):Nat:=phi X.n (vsum Y.ws) Y.tag+Y.r+((Y.ws 0).stg+(Y.ws 1).stg+(Y.ws 2).stg)
def mu2(Y:Da):Nat:=(Y.ws 0).spn+(Y.ws 1).spn+(Y.ws 2).spn
def mea(X:Ph)(Y:Da)(gs:Array Goroutine):Mt:=(mu1 X Y,mu2 Y,Y.h0,Y.h 0,Y.h 1,Y.h 2,sumTo gs.size Y.q,fl gs)
section
variable{X:Ph}{Y Y':Da}{gs gs':Array Goroutine}
theorem Zbm(h:mu1 X Y'<mu1 X Y):Mr (mea X Y' gs') (mea X Y gs):=.left _ _ h
theorem ZlF(h1:mu1 X Y'=mu1 X Y)(h:mu2 Y'<mu2 Y):Mr (mea X Y' gs') (mea X Y gs):=by
 unfold mea;rw[h1];exact .right _ (.left _ _ h)
theorem ZlG(h1:mu1 X Y'=mu1 X Y)(h2:mu2 Y'=mu2 Y)(h:Y'.h0<Y.h0):Mr (mea X Y' gs') (mea X Y gs):=by
 unfold mea;rw[h1,h2];exact .right _ (.right _ (.left _ _ h))
theorem ZlH{x:Nat}(hx:x<3)(h1:mu1 X Y'=mu1 X Y)(h2:mu2 Y'=mu2 Y)(h3:Y'.h0=Y.h0){z:Hh}(h4:Y'.h=upd Y.h x z)(h:Hh.sub z (Y.h x)): Mr (mea X Y' gs') (mea X Y gs):=by
 unfold mea;rw[h1,h2,h3,h4];have:x=0\/x=1\/x=2:=by omega
 rcases this with rfl | rfl | rfl
 ·rw[upd_same];exact .right _ (.right _ (.right _ (.left _ _ h)))
 ·rw[upd_same,upd_ne _ _ (by omega:(0:Nat)≠1)];exact .right _ (.right _ (.right _ (.right _ (.left _ _ h))))
 ·rw[upd_same,upd_ne _ _ (by omega:(0:Nat)≠2),upd_ne _ _ (by omega:(1:Nat)≠2)];exact .right _ (.right _ (.right _ (.right _ (.right _ (.left _ _ h)))))
theorem Zke(h1:mu1 X Y'=mu1 X Y)(h2:mu2 Y'=mu2 Y)(h3:Y'.h0=Y.h0)(h4:Y'.h=Y.h)(h:sumTo gs'.size Y'.q<sumTo gs.size Y.q):Mr (mea X Y' gs') (mea X Y gs):=by
 unfold mea;rw[h1,h2,h3,h4];exact .right _ (.right _ (.right _ (.right _ (.right _ (.right _ (.left _ _ h))))))
end
end Lift
namespace Lift
open Go Go.Conc Ev
open Mx
open Go.ConcM (OsLater woken_by_blocked)
open Go.ConcN (upd upd_ne upd_same sumTo sumTo_upd)
variable[Jk]
section
variable{X:Ph}{Y:Da}{gs:Array Goroutine}{w:World}{t:Trace}{g:Goroutine}{x d:Nat}{sl:Option (Nat×Nat)}
theorem Z9E{tag:CT}(h:Z7I n tag): tagJ n tag<=n:=by
 cases tag<;>simp only[tagJ,Z7I]at h ⊢ <;> omega
theorem Ci.x3(C:Ci X Y gs w t)(hok:PhOk X)(hx:x<Y.Z.j):x<X.n/\x<3:=by
 have:=Z9E C.tok;rw[<-C.zj]at this;have:=hok.n3;omega
def Z0U(X:Ph)(Y:Da)(gs:Array Goroutine)(w:World)(sl:Option (Nat×Nat))(t:Trace)(i:Nat):Prop:=
 ∃Y' gs' w' ops,runT PP (crowd gs w sl) i=(.next (crowd gs' w' sl),ops)/\Ci X Y' gs' w' (t++ops)/\Mr (mea X Y' gs') (mea X Y gs)
theorem Ci.quiet(C:Ci X Y gs w t)(hok:PhOk X)(hx:x<Y.Z.j)(hg:gs[X.m0+x]?=some g){Stop:(Nat->Prop)->Nat->Goroutine->World->Prop}{g':Goroutine}{w':World}{es:Array Event}{h':Hh}{c it:Nat}(hws:Y.ws x = .mx c it)(hgo:stepG PP false g w = .go g' w' es)(hG:Guar X.K (Y.Z.RO x) (Y.Z.O x) w w' es)(hh:WTh PP false X.K (Y.Z.RO x) Stop h' (Grow (Y.Z.O x) w w') (deafBehind (Deaf t (X.m0+x)) es) g' w')(hs:Hh.sub h' (Y.h x))(mk:∀d',WTh PP false X.K (Y.Z.RO x) Stop h' (Grow (Y.Z.O x) w w') d' g' w'->Wrk X (Y.wk X.m0 x (Y.ws x) (Grow (Y.Z.O x) w w') h' (Y.q (X.m0+x)) Y.s Y.mu Y.ms Y.r) x d' g' w'): Z0U X Y gs w sl t (X.m0+x):=by
 obtain⟨hxn,hx3⟩:=C.x3 hok hx;have hm0:=hok.m0;have S:=C.sep;have l1:=(Y0.1 C.sh.mu).1;have l2:=(Y0.1 C.sh.wg).1;have l3:=(Y0.1 C.sh.fd).1;have hn1:¬Y.Z.O x X.K.Mu:=λh=>(S.shared x _ hx h).1 rfl;have hn2:¬Y.Z.O x X.K.Wg:=λh=>(S.shared x _ hx h).2.1 rfl;have hn3:¬Y.Z.O x X.K.Fd:=λh=>(S.shared x _ hx h).2.2.1 rfl;have hsh:ShAt X.K w' Y.s:=⟨by rw[hG.far _ l1 hn1];exact C.sh.mu,by rw[hG.far _ l2 hn2];exact C.sh.wg,by rw[hG.far _ l3 hn3];exact C.sh.fd⟩;have eu:upd Y.ws x (Y.ws x)=Y.ws:=Z2n _ _;have hrun:=runT_crowd_go (P:=PP) (sl:=sl) (i:=X.m0+x) hg (by rw[show (X.m0+x==0)=false by simp;omega];exact hgo);refine⟨_,_,w',_,hrun,C.wstep hok hx hg (σ:=Y.ws x) (hx':=h') (qx:=Y.q (X.m0+x)) (s':=Y.s) (mu':=Y.mu) (ms':=Y.ms) (r':=Y.r) (λc h1 h2 _ _ _=>hG.far c h1 h2) hG.ro hG.size (by rw[hG.os];exact OsLater.refl _) hG.out hsh C.vmu C.vms (by rw[eu];exact C.tab) (C.out x) C.len (by rw[eu];exact C.fd) (by rw[eu];exact C.mode)
  (ZeR hG (λc hc=>by dsimp only;rw[upd_same];exact hc) rfl (Y8 l1 hG.size)) ⟨λh=>.inl h,λh=>.inl h⟩ (mk _ hh) (λhs=>absurd hws (hs c it)),?_⟩
 exact ZlH hx3 (by simp only[mu1,Da.wk,eu]) (by simp only[mu2,Da.wk,eu]) rfl rfl hs
theorem Za4{K:Cx}{Z:Zn}{B:Nat}{es:Array Event}(hm:∀e∈es,Event.mute e=true): EvT K Z x B d es:=by
 intro n e h;have he:=hm e (Yk h);refine⟨low_mute he B,λh=>?_,λa ha=>by rw[touch_mute he]at ha;cases ha⟩;obtain⟨loc,wr,sy⟩:=e;dsimp only at h;subst h
 cases he
theorem Ci.slip(C:Ci X Y gs w t)(hok:PhOk X)(hx:x<Y.Z.j)(hg:gs[X.m0+x]?=some g){g':Goroutine}{es:Array Event}(hws:∀c it,Y.ws x ≠ .mx c it)(hm:∀e∈es,Event.mute e=true)(hgo:stepG PP false g w = .go g' w es)(hq:q<Y.q (X.m0+x))(mk:Wrk X (Y.wk X.m0 x (Y.ws x) (Y.Z.O x) (Y.h x) q Y.s Y.mu Y.ms Y.r) x (deafBehind (Deaf t (X.m0+x)) es) g' w): Z0U X Y gs w sl t (X.m0+x):=by
 obtain⟨hxn,hx3⟩:=C.x3 hok hx;have hm0:=hok.m0;have eu:upd Y.ws x (Y.ws x)=Y.ws:=Z2n _ _;have eg:Grow (Y.Z.O x) w w=Y.Z.O x:=Z0P _ _ _ rfl;have hlt:X.m0+x<gs.size:=(Y0.1 hg).1;have hrun:=runT_crowd_go (P:=PP) (sl:=sl) (i:=X.m0+x) hg (by rw[show (X.m0+x==0)=false by simp;omega];exact hgo);refine⟨_,_,w,_,hrun,C.wstep hok hx hg (σ:=Y.ws x) (hx':=Y.h x) (qx:=q) (s':=Y.s) (mu':=Y.mu) (ms':=Y.ms) (r':=Y.r) (λc _ _ _ _ _=>rfl) (λ_ _=>rfl) (Ye _) (OsLater.refl _) rfl C.sh C.vmu C.vms (by rw[eu];exact C.tab) (C.out x) C.len (by rw[eu];exact C.fd) (by rw[eu];exact C.mode)
  (Za4 hm) ⟨λh=>.inl h,λh=>.inl h⟩ (by rw[eg];exact mk) (λhs=>?_),?_⟩
 ·have:=C.said x hx hs
  exact this.same λe he a ha=>by rw[touch_mute (hm e he)]at ha;cases ha
 ·refine Zke (by simp only[mu1,Da.wk,eu]) (by simp only[mu2,Da.wk,eu]) rfl (by simp only[Da.wk,Z2n]) ?_
  have h1:((gs.map (woken PP g g' w)).setIfInBounds (X.m0+x) g').size=gs.size:=by simp
  rw[h1];show sumTo gs.size (upd Y.q (X.m0+x) q)<_;have hsum:sumTo gs.size (upd Y.q (X.m0+x) q)+Y.q (X.m0+x)=sumTo gs.size Y.q+q:=by
   have:=sumTo_upd Y.q q id hlt;simpa using this
  omega
theorem Ci.leave(C:Ci X Y gs w t)(hok:PhOk X){i:Nat}(h0:0<i)(hi:i<X.m0)(hg:gs[i]?=some g)(hr:g.status = .running):Z0U X Y gs w sl t i:=by
 have hq:=C.old i g h0 hi hg;have hlt:i<gs.size:=(Y0.1 hg).1
 cases hqi:Y.q i with
 | zero=>rw[hqi]at hq;rw[hq.1]at hr;cases hr
 | succ k =>
  rw[hqi]at hq
  rcases hq with⟨hf,_⟩ | ⟨_,g',es,hm,hst,hq'⟩
  ·rw[hf]at hr;cases hr
  have hrun:=runT_crowd_go (P:=PP) (sl:=sl) (i:=i) hg (by rw[show (i==0)=false by simp;omega];exact hst w);have hu:∀op∈MemOp.ofEvents i g.frame.fn g.frame.place es,op.g=i:=λop hop=>by obtain⟨e,_,rfl⟩:=Go.Conc.mem_ofEvents hop;rfl
  have hdo:∀y,y≠i->Deaf (t++MemOp.ofEvents i g.frame.fn g.frame.place es) y=Deaf t y:=λy hy=>Deaf_other t (Ne.symm hy) _ hu;refine⟨{Y with q:=upd Y.q i k},_,w,_,hrun,?_,?_⟩
  ·refine {C with size:=Eq.trans (by simp) C.size,old:=λy z hy0 hy hz=>?_,cal:=?_,wrk:=λy hy=>?_,ti:=C.ti.leaver (by omega) (by rw[C.zm];omega) hm,said:=λy hy hs=>(C.said y hy hs).other (g:=i) (by rw[C.zm];omega) hu}
   ·by_cases hyi:y=i
    ·subst hyi
     rw[Z2V hlt]at hz;obtain rfl:=Y1 hz;rw[Deaf_own];show QuitsD PP (upd Y.q y k y) _ _;rw[upd_same];exact hq'
    ·rw[Z0t (Ne.symm hyi)]at hz
     obtain⟨z',hz',rfl⟩:=Y3.1 hz;have hq2:=C.old y z' hy0 hy hz';rw[woken_quitsD hq2,hdo y hyi];show QuitsD PP (upd Y.q i k y) _ _;rw[upd_ne _ _ hyi];exact hq2
   ·obtain⟨a,ha,hc⟩:=C.cal
    exact⟨_,by rw[Z0t (by omega),ha];rfl,hc.keep (Rely.refl _ _ _) rfl rfl rfl λh=>.inl h⟩
   ·obtain⟨z,hz,hw⟩:=C.wrk y hy
    refine⟨_,by rw[Z0t (by omega),hz];rfl,?_⟩;rw[hdo _ (by omega)];exact hw.keep (Rely.refl _ _ _) rfl rfl rfl rfl rfl (upd_ne _ _ (by omega)) λh=>.inl h
  ·refine Zke rfl rfl rfl rfl ?_
   have h1:((gs.map (woken PP g g' w)).setIfInBounds i g').size=gs.size:=by simp
   rw[h1];show sumTo gs.size (upd Y.q i k)<_;have hsum:sumTo gs.size (upd Y.q i k)+Y.q i=sumTo gs.size Y.q+k:=by
    have:=sumTo_upd Y.q k id hlt;simpa using this
   omega
end
end Lift
namespace Lift
open Go Go.Conc Ev
open Mx
open Go.ConcM (OsLater woken_by_blocked)
open Go.ConcN (upd upd_ne upd_same sumTo sumTo_upd)
variable[Jk]
section
variable{X:Ph}{Y:Da}{gs:Array Goroutine}{w:World}{t:Trace}{g:Goroutine}{x d c it:Nat}{sl:Option (Nat×Nat)}{ws:Nat->WS}{σ:WS}{tag:CT}{a b:Int}
def sum3(f:WS->Nat)(ws:Nat->WS):Nat:=f (ws 0)+f (ws 1)+f (ws 2)
theorem Z14(f:WS->Nat)(hx:x<3):sum3 f (upd ws x σ)+f (ws x)=sum3 f ws+f σ:=by
 have:x=0\/x=1\/x=2:=by omega
 unfold sum3
 rcases this with rfl | rfl | rfl
 ·rw[upd_same,upd_ne _ _ (by omega:(1:Nat)≠0),upd_ne _ _ (by omega:(2:Nat)≠0)];omega
 ·rw[upd_same,upd_ne _ _ (by omega:(0:Nat)≠1),upd_ne _ _ (by omega:(2:Nat)≠1)];omega
 ·rw[upd_same,upd_ne _ _ (by omega:(0:Nat)≠2),upd_ne _ _ (by omega:(1:Nat)≠2)];omega
theorem Zfv{v v': Nat}(h:v'<=v)(tag:CT): phi n v' tag<=phi n v tag:=by
 cases tag<;>simp only[phi]<;>omega
theorem Z7O:vsum ws=sum3 WS.cnt ws:=rfl
theorem Z1x:mu1 X Y=phi X.n (sum3 WS.cnt Y.ws) Y.tag+Y.r+sum3 WS.stg Y.ws:=rfl
theorem ZgK:mu2 Y=sum3 WS.spn Y.ws:=rfl
theorem Mode.same(h:Mode ws tag a b)(hx:x<3)(h1:(∃c it,ws x = .mx c it)\/ws x = .d1)(h2:(∃c it,σ = .mx c it)\/σ = .d1):Mode (upd ws x σ) tag a b:=by
 have c1:(ws x).cnt=1:=by rcases h1 with⟨c,it,e⟩ | e<;>rw[e]<;>rfl
 have c2:σ.cnt=1:=by rcases h2 with⟨c,it,e⟩ | e<;>rw[e]<;>rfl
 have hv:vsum (upd ws x σ)=vsum ws:=by
  have:=Z14 (ws:=ws) (σ:=σ) WS.cnt hx;rw[Z7O,Z7O];omega
 have hall:(∀y,ws y = .no\/(∃c it,ws y = .mx c it)\/ws y = .d1\/ws y = .qt)->∀y,upd ws x σ y = .no\/(∃c it,upd ws x σ y = .mx c it)\/upd ws x σ y = .d1\/upd ws x σ y = .qt:=by
  intro h y
  by_cases hy:y=x
  ·subst hy
   rw[upd_same]
   rcases h2 with e | e
   ·exact .inr (.inl e)
   ·exact .inr (.inr (.inl e))
  ·rw[upd_ne _ _ hy];exact h y
 have bad:∀{q:Prop},(ws x = .no\/ws x = .qt)->q:=by
  intro q h
  rcases h with e | e<;>rw[e]at c1<;>cases c1
 cases h with
 | opn h1 h2 h3 =>
  have:=Mode.opn (ws:=upd ws x σ) h1 (hall h2) (λv e=>by rw[hv];exact h3 v e);rw[hv]at this;exact this
 | reg h1 h2 h3 =>
  have:=Mode.reg (ws:=upd ws x σ) h1 (hall h2) (by rw[hv];exact h3);rw[hv]at this;exact this
 | last L h1 h2 h3 h4 =>
  by_cases hL:x=L
  ·subst hL
   rcases h3 with e | e<;>rw[e]at c1<;>cases c1
  ·exact bad (h4 x hL)
 | last4 L h1 h2 h3 h4 =>
  by_cases hL:x=L
  ·subst hL
   rw[h3]at c1;cases c1
  ·exact bad (h4 x hL)
 | sema h1 h2=>exact bad (h2 x)
 | fin h1 h2=>exact bad (h2 x)
theorem ZeF(β:Nat->Bool):(λy=>((upd ws x σ) y).code (β y))=upd (λy=>(ws y).code (β y)) x (σ.code (β x)):=by
 funext y
 by_cases hy:y=x
 ·subst hy;rw[upd_same,upd_same]
 ·rw[upd_ne _ _ hy,upd_ne _ _ hy]
theorem Ci.tab0(C:Ci X Y gs w t)(hx:x<3):∃y z,lk ((Y.ws x).code (X.β x)) y z Y.mu Y.ms=some Y.r/\∀σ mu' ms',lk (((upd Y.ws x σ) 0).code (X.β 0)) (((upd Y.ws x σ) 1).code (X.β 1)) (((upd Y.ws x σ) 2).code (X.β 2)) mu' ms'=lk (σ.code (X.β x)) y z mu' ms':=by
 obtain⟨y,z,h1,h2⟩:=Zed (f:=λy=>(Y.ws y).code (X.β y)) hx C.tab;refine⟨y,z,h1,λσ mu' ms'=>?_⟩;have:=h2 (σ.code (X.β x)) mu' ms';rw[<-ZeF]at this;exact this
theorem Ci.tabS(C:Ci X Y gs w t)(h:σ.code (X.β x)=(Y.ws x).code (X.β x)):(∀y,((upd Y.ws x σ) y).code (X.β y)=(Y.ws y).code (X.β y)):=by
 intro y
 by_cases hy:y=x
 ·subst hy;rw[upd_same];exact h
 ·rw[upd_ne _ _ hy]
theorem Zae{i:Nat}{g':Goroutine}(hg:gs[i]?=some g)(hr:g.status = .running)(hb:g'.status = .blocked): fl ((gs.map (woken PP g g' w)).setIfInBounds i g')<fl gs:=by
 have hlt:i<gs.size:=(Y0.1 hg).1;have e1:gs.map (woken PP g g' w)=gs:=by
  have:woken PP g g' w=id:=by funext o;exact woken_by_blocked hb
  rw[this,Array.map_id]
 rw[e1];unfold fl;have hs:(gs.setIfInBounds i g').size=gs.size:=by simp
 rw[hs];have e2:(λj=>flg (gs.setIfInBounds i g')[j]?)=upd (λj=>flg gs[j]?) i 0:=by
  funext j
  by_cases hj:j=i
  ·subst hj
   rw[upd_same,Array.getElem?_setIfInBounds_self_of_lt hlt];simp[flg,hb]
  ·rw[upd_ne _ _ hj,Yq (Ne.symm hj)]
 rw[e2];have hsum:sumTo gs.size (upd (λj=>flg gs[j]?) i 0)+flg gs[i]?=sumTo gs.size (λj=>flg gs[j]?)+0:=by
  have:=sumTo_upd (λj=>flg gs[j]?) 0 id hlt;simpa using this
 rw[hg]at hsum;simp only[flg,hr,if_true]at hsum;simp only[flg]at hsum⊢;omega
theorem ZgJ{Y':Da}{gs':Array Goroutine}(h1:mu1 X Y'=mu1 X Y)(h2:mu2 Y'=mu2 Y)(h3:Y'.h0=Y.h0)(h4:Y'.h=Y.h)(h5:Y'.q=Y.q)(hs:gs'.size=gs.size)(h:fl gs'<fl gs): Mr (mea X Y' gs') (mea X Y gs):=by
 unfold mea;rw[h1,h2,h3,h4,h5,hs];exact .right _ (.right _ (.right _ (.right _ (.right _ (.right _ (.right _ h))))))
theorem Ci.move(C:Ci X Y gs w t)(hok:PhOk X)(hx:x<Y.Z.j)(hg:gs[X.m0+x]?=some g)(hws:Y.ws x = .mx c it)(hi:itOk c it)(hc:c≠OUT)(hat:Z0N (X.kx Y.Lb x) [bot] c it (Y.Z.O x) (Deaf t (X.m0+x)) g w):Z0U X Y gs w sl t (X.m0+x):=by
 obtain⟨hxn,hx3⟩:=C.x3 hok hx;have hm0:=hok.m0;have S:=C.sep;obtain⟨y,z,ht1,ht2⟩:=C.tab0 hx3;have hcode:(Y.ws x).code (X.β x)=c:=by rw[hws];rfl
 rw[hcode]at ht1;obtain⟨hpin,hpok⟩:=ZhT ht1;obtain⟨_,_,hms,_⟩:=Z4O ht1;obtain⟨hbx,hoff⟩:=C.bx x hx;have hβ:X.β x=true:=by
  cases hb:X.β x
  ·have:=C.out x hb
   rw[hcode]at this;exact absurd this hc
  ·rfl
 have hd:Deaf t (X.m0+x)=dpc c:=hat.1;have hgr:g.status = .running:=Z23 _ _ _ _ hat
 have H:Prem X.K (X.kx Y.Lb x) (Y.Z.O x) c it Y.s Y.mu Y.ms w:=⟨hok.ok _ _ hxn,C.sh,⟨hbx.found,hbx.lamp,C.ro _ _ hbx.ob,C.ro _ _ hbx.ol⟩,C.vmu,C.vms,hms,hi,by rw[C.len];exact hok.kn.symm,Zly ht1⟩;have l1:=(Y0.1 C.sh.mu).1;have l3:=(Y0.1 C.sh.fd).1
 rcases moves (RO:=Y.Z.RO x) ((Zkr hpin).resolve_left hc) H hoff hat with⟨hs1,hm0',hgo⟩ | ⟨l,x',mu',dd,it',g',w',es,hl,hm,hdd,hgo,hE,hL,hi',hsp,hWT,hwk⟩
 ·-- it waits
  have eu:upd Y.ws x (Y.ws x)=Y.ws:=Z2n _ _;have eg:Grow (Y.Z.O x) w w=Y.Z.O x:=Z0P _ _ _ rfl;have hrun:=runT_crowd_go (P:=PP) (sl:=sl) (i:=X.m0+x) hg (by rw[show (X.m0+x==0)=false by simp;omega];exact hgo);refine⟨_,_,w,_,hrun,C.wstep hok hx hg (σ:=Y.ws x) (hx':=Y.h x) (qx:=Y.q (X.m0+x)) (s':=Y.s) (mu':=Y.mu) (ms':=Y.ms) (r':=Y.r) (λc _ _ _ _ _=>rfl) (λ_ _=>rfl) (Ye _) (OsLater.refl _) rfl C.sh C.vmu C.vms (by rw[eu];exact C.tab) (C.out x) C.len (by rw[eu];exact C.fd) (by rw[eu];exact C.mode)
   (Za4 (by simp)) ⟨λh=>.inl h,λh=>.inl h⟩ ?_ (λhs=>absurd hws (hs c it)),?_⟩
  ·unfold Wrk Da.wk
   dsimp only;rw[upd_same,hws];dsimp only;rw[upd_same,eg];refine⟨hi,.inr ⟨hs1,hm0',rfl,?_,?_⟩⟩
   ·obtain⟨_,f,fs,wst,q,_,rfl⟩:=hat
    rfl
   ·obtain⟨h1,f,fs,wst,q,h2,rfl⟩:=hat
    exact⟨h1,f,fs,wst,q,h2,rfl⟩
  ·exact ZgJ (by simp only[mu1,Da.wk,eu]) (by simp only[mu2,Da.wk,eu]) rfl (by simp only[Da.wk,Z2n]) (by simp only[Da.wk,Z2n]) (by simp) (Zae hg hgr rfl)
 ·obtain⟨h',hh⟩:=hWT.height
  obtain⟨r',hr1,hr2⟩:=ZhU ht1 hl hm hdd;obtain⟨p1,p2,p3⟩:=Zks hpok hl hm;have eg:Grow (Y.Z.O x) w w'=Y.Z.O x:=Z0P _ _ _ hE.size;have hgr':g'.status = .running:=hh.running Z23;have hrun:=runT_crowd_go (P:=PP) (sl:=sl) (i:=X.m0+x) hg (by rw[show (X.m0+x==0)=false by simp;omega];exact hgo);have e32:(32:Nat)=32:=rfl;refine⟨_,_,w',_,hrun,C.wstep hok hx hg (σ:=.mx x' it') (hx':=h') (qx:=Y.q (X.m0+x)) (s':=_) (mu':=mu') (ms':=sms Y.ms dd) (r':=r') (λc _ _ h1 h2 h3=>hE.same c h1 h2 h3) (λc hc=>?_) (Nat.le_of_eq hE.size.symm) hE.os hE.out hE.sh rfl rfl (by rw[ht2];exact hr1) (λh=>by rw[hβ]at h;cases h) ?_ (λy hy=>?_) (C.mode.same hx3 (.inl ⟨c,it,hws⟩) (.inl ⟨x',it',rfl⟩))
   (by rw[hd];exact hL.evT (by rw[hE.size];exact l1) (by rw[hE.size];exact l3) rfl) ⟨λh0=>?_,λh=>.inl h⟩ ?_ (λhs=>absurd rfl (hs x' it')),?_⟩
  ·have:=S.shared x c hx (C.ro x c hc)
   exact hE.same c this.1 this.2.1 this.2.2.1
  ·dsimp only
   split
   ·rw[List.length_set];exact C.len
   ·exact C.len
  ·dsimp only
   have hf:=C.fd y hy
   by_cases hyx:y=x
   ·subst hyx
    rw[hcode,hβ]at hf;rw[upd_same,hβ];show _=some (true&&pst x')
    split
    ·rename_i h32
     rw[p1 h32];show (Y.s.fd.set y true)[y]?=_;have hlen:y<Y.s.fd.length:=by rw[C.len];exact hy
     rw[List.getElem?_set_self hlen]
     rfl
    ·rename_i h32
     rw[p2 h32];exact hf
   ·rw[upd_ne _ _ hyx]
    split
    ·show (Y.s.fd.set x true)[y]?=_
     rw[List.getElem?_set_ne (Ne.symm hyx)];exact hf
    ·exact hf
  ·by_cases h2:dd=2
   ·exact .inr ⟨hwk h2,hgr'⟩
   ·refine .inl ?_
    unfold sms;omega
  ·unfold Wrk Da.wk
   dsimp only;rw[upd_same];dsimp only;rw[upd_same,upd_same,eg,hd,hL.deaf];exact⟨hi',.inl hh⟩
  ·have s1:=Z14 (ws:=Y.ws) (σ:=.mx x' it') WS.cnt hx3
   have s2:=Z14 (ws:=Y.ws) (σ:=.mx x' it') WS.stg hx3;have s3:=Z14 (ws:=Y.ws) (σ:=.mx x' it') WS.spn hx3;rw[hws]at s1 s2 s3;simp only[WS.cnt,WS.stg,WS.spn]at s1 s2 s3
   rcases hr2 with hr2 | ⟨hr2,hr3⟩
   ·refine Zbm ?_
    rw[Z1x,Z1x];show phi X.n (sum3 WS.cnt (upd Y.ws x (.mx x' it'))) Y.tag+r'+sum3 WS.stg (upd Y.ws x (.mx x' it'))<_;rw[show sum3 WS.cnt (upd Y.ws x (.mx x' it'))=sum3 WS.cnt Y.ws by simp only[WS.cnt]at *;omega];omega
   ·refine ZlF ?_ ?_
    ·rw[Z1x,Z1x]
     show phi X.n (sum3 WS.cnt (upd Y.ws x (.mx x' it'))) Y.tag+r'+sum3 WS.stg (upd Y.ws x (.mx x' it'))=_;rw[show sum3 WS.cnt (upd Y.ws x (.mx x' it'))=sum3 WS.cnt Y.ws by simp only[WS.cnt]at *;omega];omega
    ·rw[ZgK,ZgK]
     show sum3 WS.spn (upd Y.ws x (.mx x' it'))<_;have:=hsp hr3;omega
end
end Lift
namespace Lift
open Go Go.Conc Ev
open Mx
open Go.ConcM (OsLater woken_by_blocked quitsD_running)
open Go.ConcN (upd upd_ne upd_same sumTo sumTo_upd)
variable[Jk]
section
variable{X:Ph}{Y:Da}{gs:Array Goroutine}{w w':World}{t:Trace}{g g':Goroutine}{x d c it:Nat}{sl:Option (Nat×Nat)}{ws:Nat->WS}{σ:WS}{tag:CT}{a b:Int}{es:Array Event}
theorem Ci.group(C:Ci X Y gs w t)(hok:PhOk X)(hx:x<Y.Z.j)(hg:gs[X.m0+x]?=some g){s':Sh}(hgo:stepG PP false g w = .go g' w' es)(hE:Eff X.K w w' s')(e1:s'.mu=Y.s.mu)(e2:s'.ms=Y.s.ms)(e3:s'.fd=Y.s.fd)(hcode:σ.code (X.β x)=(Y.ws x).code (X.β x))(hmode:Mode (upd Y.ws x σ) Y.tag s'.wg s'.ws)(hev:∀Z:Zn,EvT X.K Z x w'.heap.size (Deaf t (X.m0+x)) es)(hwk:Y.s.ws=0->s'.ws=0\/Zb7 g g')(hown:∀Y',Y'.ws x=σ->Y'.q (X.m0+x)=q->Y'.Lb=Y.Lb->Wrk X Y' x (deafBehind (Deaf t (X.m0+x)) es) g' w')(hsaid:Said X.K Y.Z X.p0 (t++MemOp.ofEvents (X.m0+x) g.frame.fn g.frame.place es) x)(hcnt:σ.cnt<=(Y.ws x).cnt)(hstg:σ.stg<(Y.ws x).stg): Z0U X Y gs w sl t (X.m0+x):=by
 obtain⟨hxn,hx3⟩:=C.x3 hok hx;have hm0:=hok.m0;have S:=C.sep;have hT:=C.tabS (σ:=σ) hcode;have hrun:=runT_crowd_go (P:=PP) (sl:=sl) (i:=X.m0+x) hg (by rw[show (X.m0+x==0)=false by simp;omega];exact hgo);refine⟨_,_,w',_,hrun,C.wstep hok hx hg (σ:=σ) (hx':=Y.h x) (qx:=q) (s':=s') (mu':=Y.mu) (ms':=Y.ms) (r':=Y.r) (λc _ _ h1 h2 h3=>hE.same c h1 h2 h3) (λc hc=>?_) (Nat.le_of_eq hE.size.symm) hE.os hE.out hE.sh (by rw[e1];exact C.vmu) (by rw[e2];exact C.vms) (by rw[hT,hT,hT];exact C.tab) (λh=>by rw[hcode];exact C.out x h) (by rw[e3];exact C.len) (λy hy=>by rw[hT,e3];exact C.fd y hy) hmode
  (hev _) ⟨λh=>.inl h,hwk⟩ (hown _ (upd_same _ _ _) (upd_same _ _ _) rfl) (λ_=>hsaid),?_⟩
 ·have:=S.shared x c hx (C.ro x c hc)
  exact hE.same c this.1 this.2.1 this.2.2.1
 ·refine Zbm ?_
  have s1:=Z14 (ws:=Y.ws) (σ:=σ) WS.cnt hx3;have s2:=Z14 (ws:=Y.ws) (σ:=σ) WS.stg hx3;rw[Z1x,Z1x];show phi X.n (sum3 WS.cnt (upd Y.ws x σ)) Y.tag+Y.r+sum3 WS.stg (upd Y.ws x σ)<_;have:=Zfv (n:=X.n) (show sum3 WS.cnt (upd Y.ws x σ)<=sum3 WS.cnt Y.ws by omega) Y.tag;omega
theorem DLst.saidK(C:Ci X Y gs w t)(hx:x<Y.Z.j)(hs:∀c it,Y.ws x ≠ .mx c it){bk dd:Nat}(h:DLst bk dd es): Said X.K Y.Z X.p0 (t++MemOp.ofEvents (X.m0+x) fn pos es) x:=
 (C.said x hx hs).same h.noplain
theorem Z9H(C:Ci X Y gs w t)(hok:PhOk X):vsum Y.ws<=Y.Z.j:=by
 have h3:Y.Z.j<=3:=by
  have:=Z9E C.tok;rw[<-C.zj]at this;have:=hok.n3;omega
 have c1:∀y,(Y.ws y).cnt<=1:=λy=>by cases Y.ws y<;>simp[WS.cnt]
 have c0:∀y,Y.Z.j<=y->(Y.ws y).cnt=0:=λy hy=>by rw[C.no y hy];rfl
 have a0:=c1 0;have a1:=c1 1;have a2:=c1 2;unfold vsum;have:Y.Z.j=0\/Y.Z.j=1\/Y.Z.j=2\/Y.Z.j=3:=by omega
 rcases this with e | e | e | e
 ·have:=c0 0 (by omega);have:=c0 1 (by omega);have:=c0 2 (by omega);omega
 ·have:=c0 1 (by omega);have:=c0 2 (by omega);omega
 ·have:=c0 2 (by omega);omega
 ·omega
theorem Z8I(C:Ci X Y gs w t)(hok:PhOk X):vsum Y.ws+pend Y.tag<=3:=by
 have h1:=Z9H C hok;have h2:=C.zj;have h3:=C.tok;have h4:=hok.n3
 cases ht:Y.tag<;>rw[ht]at h2 h3<;>simp only[tagJ,Z7I,pend]at h2 h3 ⊢ <;> omega
theorem ZkY(h:ws x = .d1)(hx:x<3):1<=vsum ws:=by
 have:x=0\/x=1\/x=2:=by omega
 unfold vsum
 rcases this with rfl | rfl | rfl<;>rw[h]<;>simp only[WS.cnt]<;>omega
theorem Mode.at1(h:Mode ws tag a b)(hx:x<3)(h1:ws x = .d1)(h3:vsum ws+pend tag<=3)(hno:∀y,3<=y->ws y = .no):
  b=0/\∃n e:Nat,1<=n/\n<=3/\e<=1/\a=(n:Int)*4294967296+e/\(n=1/\e=1->Mode (upd ws x .d2) tag (((n-1:Nat):Int)*4294967296+e) 0)/\(¬(n=1/\e=1)->Mode (upd ws x .qt) tag (((n-1:Nat):Int)*4294967296+e) 0):=by
 have hv:=ZkY h1 hx;have vq:vsum (upd ws x .qt)=vsum ws-1:=by
  have:=Z14 (ws:=ws) (σ:=.qt) WS.cnt hx;rw[h1]at this;simp only[WS.cnt]at this;rw[Z7O,Z7O];omega
 have hall:(∀y,ws y = .no\/(∃c it,ws y = .mx c it)\/ws y = .d1\/ws y = .qt)->∀y,upd ws x .qt y = .no\/(∃c it,upd ws x .qt y = .mx c it)\/upd ws x .qt y = .d1\/upd ws x .qt y = .qt:=by
  intro h y
  by_cases hy:y=x
  ·subst hy
   rw[upd_same];exact .inr (.inr (.inr rfl))
  ·rw[upd_ne _ _ hy];exact h y
 have bad:∀{q:Prop},(ws x = .no\/ws x = .qt)->q:=by
  intro q h
  rcases h with e | e<;>rw[e]at h1<;>cases h1
 cases h with
 | opn k1 k2 k3 =>
  refine⟨rfl,vsum ws+pend tag,0,by omega,h3,by omega,by simp,by omega,λ_=>?_⟩;have:=Mode.opn (ws:=upd ws x .qt) k1 (hall k2) (λv e=>by rw[vq];have:=k3 v e;omega);rw[vq]at this;have e:vsum ws+pend tag-1=vsum ws-1+pend tag:=by omega
  rw[e];simpa using this
 | reg k1 k2 k3 =>
  refine⟨rfl,vsum ws,1,hv,by omega,by omega,by simp,λh=>?_,λh=>?_⟩
  ·rw[h.1]
   refine Mode.last x k1 hx (.inl (upd_same _ _ _)) λy hy=>?_;rw[upd_ne _ _ hy]
   rcases Nat.lt_or_ge y 3 with hy3 | hy3
   ·have hc:(ws y).cnt=0:=by
     have h:=h.1;unfold vsum at h;have cx:(ws x).cnt=1:=by rw[h1];rfl
     have e1:x=0\/x=1\/x=2:=by omega
     have e2:y=0\/y=1\/y=2:=by omega
     rcases e1 with rfl | rfl | rfl<;>rcases e2 with rfl | rfl | rfl<;>omega
    rcases k2 y with e | ⟨c,it,e⟩ | e | e
    ·exact .inl e
    ·rw[e]at hc;cases hc
    ·rw[e]at hc;cases hc
    ·exact .inr e
   ·exact .inl (hno y hy3)
  ·have:=Mode.reg (ws:=upd ws x .qt) k1 (hall k2) (by rw[vq];omega)
   rw[vq]at this;exact this
 | last L k1 k2 k3 k4 =>
  by_cases hL:x=L
  ·subst hL
   rcases k3 with e | e<;>rw[e]at h1<;>cases h1
  ·exact bad (k4 x hL)
 | last4 L k1 k2 k3 k4 =>
  by_cases hL:x=L
  ·subst hL
   rw[k3]at h1;cases h1
  ·exact bad (k4 x hL)
 | sema k1 k2=>exact bad (k2 x)
 | fin k1 k2=>exact bad (k2 x)
theorem Ci.no3(C:Ci X Y gs w t)(hok:PhOk X):∀y,3<=y->Y.ws y = .no:=λy hy=>C.no y (by
 have:=Z9E C.tok;rw[<-C.zj]at this;have:=hok.n3;omega)
theorem Ci.word(C:Ci X Y gs w t)(hok:PhOk X)(hx:x<Y.Z.j)(hg:gs[X.m0+x]?=some g)(hws:Y.ws x = .mx OUT it)(hat:Z0N (X.kx Y.Lb x) [bot] OUT it (Y.Z.O x) (Deaf t (X.m0+x)) g w):Z0U X Y gs w sl t (X.m0+x):=by
 obtain⟨hxn,hx3⟩:=C.x3 hok hx;obtain⟨hd,g',hgo,q,hq⟩:=ZiN (hok.ok _ _ hxn) C.sh hat
 have l2:=(Y0.1 C.sh.wg).1;refine C.group hok hx hg (σ:=.d1) (q:=q) hgo (Eff.nil C.sh (OsLater.refl _) rfl rfl) rfl rfl rfl (by rw[hws];rfl) (C.mode.same hx3 (.inl ⟨OUT,it,hws⟩) (.inr rfl)) (λZ=>?_) (λh=>.inl h) (λY' h1 h2 h3=>?_) ?_ (by rw[hws];exact Ye 1) (by rw[hws];show (5:Nat)<7;decide)
 ·intro n e he
  rcases Z2U he with⟨_,rfl⟩ | ⟨m,_,h⟩
  ·exact⟨l2,by simp,λa ha _=>by simp[MemAct.ofEvent,MemAct.touch?]at ha⟩
  ·cases h
 ·unfold Wrk
  rw[h1,h2,h3,hd];exact hq
 ·have:=Said.now (K:=X.K) (Z:=Y.Z) (x:=x) C.ti.start (fn:=g.frame.fn) (pos:=g.frame.place) (by rw[C.zm];exact hd)
  rw[C.zm]at this;exact this
theorem Ci.done1(C:Ci X Y gs w t)(hok:PhOk X)(hx:x<Y.Z.j)(hg:gs[X.m0+x]?=some g)(hws:Y.ws x = .d1)(hat:Z1C (X.kx Y.Lb x) [bot] 1 (Deaf t (X.m0+x)) g):Z0U X Y gs w sl t (X.m0+x):=by
 obtain⟨hxn,hx3⟩:=C.x3 hok hx;obtain⟨hb0,n,e,h1,h3,he,ha,m1,m2⟩:=C.mode.at1 hx3 hws (Z8I C hok) (C.no3 hok);obtain⟨hd,g',w',hgo,hE,hr⟩:=ZiJ (hok.ok _ _ hxn) C.sh hat h1 h3 he ha;have l2:=(Y0.1 C.sh.wg).1;have hL:DLst X.K.Wg 1 #[⟨.cell ⟨X.K.Wg,0,none⟩,false,true⟩,⟨.cell ⟨X.K.Wg,0,none⟩,true,true⟩]:=.rw 0 Nat.one_pos;have hs0:∀c it,Y.ws x ≠ .mx c it:=λc it h=>by rw[hws]at h;cases h
 by_cases hc:n=1/\e=1
 ·rw[if_pos hc]at hr
  obtain⟨q,hq⟩:=hr;refine C.group hok hx hg (σ:=.d2) (q:=q) hgo hE rfl rfl rfl (by rw[hws];rfl) (by rw[hb0];exact m1 hc) (λZ=>by rw[hd,hE.size];exact hL.evT (.inr rfl) l2) (λh=>.inl h) (λY' k1 k2 k3=>?_) (hL.saidK C hx hs0) (by rw[hws];decide) (by rw[hws];decide);unfold Wrk;rw[k1,k2,k3,hd,hL.deaf];exact hq
 ·rw[if_neg hc]at hr
  obtain⟨q,hq⟩:=hr;refine C.group hok hx hg (σ:=.qt) (q:=q) hgo hE rfl rfl rfl (by rw[hws];rfl) (by rw[hb0];exact m2 hc) (λZ=>by rw[hd,hE.size];exact hL.evT (.inr rfl) l2) (λh=>.inl h) (λY' k1 k2 k3=>?_) (hL.saidK C hx hs0) (by rw[hws];decide) (by rw[hws];decide);unfold Wrk;rw[k1,k2,hd,hL.deaf];exact hq
theorem Mode.at23(h:Mode ws tag a b)(hx:x<3)(h1:ws x = .d2\/ws x = .d3):a=1/\b=0/\Z8e tag/\∀y,y≠x->ws y = .no\/ws y = .qt:=by
 have bad:∀{q:Prop},(ws x = .no\/(∃c it,ws x = .mx c it)\/ws x = .d1\/ws x = .qt)->q:=by
  intro q h
  rcases h1 with k | k<;>rw[k]at h<;>rcases h with e | ⟨c,it,e⟩ | e | e<;>cases e
 cases h with
 | opn _ k _=>exact bad (k x)
 | reg _ k _=>exact bad (k x)
 | last L k1 k2 k3 k4 =>
  by_cases hL:x=L
  ·subst hL;exact⟨rfl,rfl,k1,k4⟩
  ·exact bad ((k4 x hL).elim .inl λh=>.inr (.inr (.inr h)))
 | last4 L k1 k2 k3 k4 =>
  by_cases hL:x=L
  ·subst hL
   rcases h1 with e | e<;>rw[e]at k3<;>cases k3
  ·exact bad ((k4 x hL).elim .inl λh=>.inr (.inr (.inr h)))
 | sema k1 k2=>exact bad ((k2 x).elim .inl λh=>.inr (.inr (.inr h)))
 | fin k1 k2=>exact bad ((k2 x).elim .inl λh=>.inr (.inr (.inr h)))
theorem Mode.at4(h:Mode ws tag a b)(hx:x<3)(h1:ws x = .d4):a=0/\b=0/\Z8e tag/\∀y,y≠x->ws y = .no\/ws y = .qt:=by
 have bad:∀{q:Prop},(ws x = .no\/(∃c it,ws x = .mx c it)\/ws x = .d1\/ws x = .qt)->q:=by
  intro q h;rw[h1]at h
  rcases h with e | ⟨c,it,e⟩ | e | e<;>cases e
 cases h with
 | opn _ k _=>exact bad (k x)
 | reg _ k _=>exact bad (k x)
 | last L k1 k2 k3 k4 =>
  by_cases hL:x=L
  ·subst hL
   rw[h1]at k3
   rcases k3 with e | e<;>cases e
  ·exact bad ((k4 x hL).elim .inl λh=>.inr (.inr (.inr h)))
 | last4 L k1 k2 k3 k4 =>
  by_cases hL:x=L
  ·subst hL;exact⟨rfl,rfl,k1,k4⟩
  ·exact bad ((k4 x hL).elim .inl λh=>.inr (.inr (.inr h)))
 | sema k1 k2=>exact bad ((k2 x).elim .inl λh=>.inr (.inr (.inr h)))
 | fin k1 k2=>exact bad ((k2 x).elim .inl λh=>.inr (.inr (.inr h)))
theorem Ci.done2(C:Ci X Y gs w t)(hok:PhOk X)(hx:x<Y.Z.j)(hg:gs[X.m0+x]?=some g)(hws:Y.ws x = .d2)(hat:Z1C (X.kx Y.Lb x) [bot] 2 (Deaf t (X.m0+x)) g):Z0U X Y gs w sl t (X.m0+x):=by
 obtain⟨hxn,hx3⟩:=C.x3 hok hx;obtain⟨ha,hb,hr,hy⟩:=C.mode.at23 hx3 (.inl hws);obtain⟨hd,g',hgo,q,hq⟩:=ZiK (hok.ok _ _ hxn) C.sh hat ha;have l2:=(Y0.1 C.sh.wg).1;have hL:DLst X.K.Wg 1 #[⟨.cell ⟨X.K.Wg,0,none⟩,false,true⟩]:=.rd 0 Nat.one_pos;have hs0:∀c it,Y.ws x ≠ .mx c it:=λc it h=>by rw[hws]at h;cases h
 refine C.group hok hx hg (σ:=.d3) (q:=q) hgo (Eff.nil C.sh (OsLater.refl _) rfl rfl) rfl rfl rfl (by rw[hws];rfl) (by rw[ha,hb];exact .last x hr hx3 (.inr (upd_same _ _ _)) λy h=>by rw[upd_ne _ _ h];exact hy y h) (λZ=>by rw[hd];exact hL.evT (.inr rfl) l2) (λh=>.inl h) (λY' k1 k2 k3=>?_) (hL.saidK C hx hs0) (by rw[hws];decide) (by rw[hws];decide);unfold Wrk;rw[k1,k2,k3,hd,hL.deaf];exact hq
theorem Ci.done3(C:Ci X Y gs w t)(hok:PhOk X)(hx:x<Y.Z.j)(hg:gs[X.m0+x]?=some g)(hws:Y.ws x = .d3)(hat:Z1C (X.kx Y.Lb x) [bot] 3 (Deaf t (X.m0+x)) g):Z0U X Y gs w sl t (X.m0+x):=by
 obtain⟨hxn,hx3⟩:=C.x3 hok hx;obtain⟨ha,hb,hr,hy⟩:=C.mode.at23 hx3 (.inr hws);obtain⟨hd,g',w',hgo,hE,q,hq⟩:=ZiL (hok.ok _ _ hxn) C.sh hat
 have l2:=(Y0.1 C.sh.wg).1;have hL:DLst X.K.Wg 1 #[⟨.cell ⟨X.K.Wg,0,none⟩,true,true⟩]:=.wr 0 Nat.one_pos;have hs0:∀c it,Y.ws x ≠ .mx c it:=λc it h=>by rw[hws]at h;cases h
 refine C.group hok hx hg (σ:=.d4) (q:=q) hgo hE rfl rfl rfl (by rw[hws];rfl) (by rw[hb];exact .last4 x hr hx3 (upd_same _ _ _) λy h=>by rw[upd_ne _ _ h];exact hy y h) (λZ=>by rw[hd,hE.size];exact hL.evT (.inr rfl) l2) (λh=>.inl h) (λY' k1 k2 k3=>?_) (hL.saidK C hx hs0) (by rw[hws];decide) (by rw[hws];decide);unfold Wrk;rw[k1,k2,k3,hd,hL.deaf];exact hq
theorem Ci.done4(C:Ci X Y gs w t)(hok:PhOk X)(hx:x<Y.Z.j)(hg:gs[X.m0+x]?=some g)(hws:Y.ws x = .d4)(hat:Z1C (X.kx Y.Lb x) [bot] 4 (Deaf t (X.m0+x)) g):Z0U X Y gs w sl t (X.m0+x):=by
 obtain⟨hxn,hx3⟩:=C.x3 hok hx;obtain⟨ha,hb,hr,hy⟩:=C.mode.at4 hx3 hws;obtain⟨hd,hwk,g',w',hgo,hE,q,hq⟩:=ZiM (hok.ok _ _ hxn) C.sh hat hb;have l2:=(Y0.1 C.sh.wg).1;have hL:DLst X.K.Wg 1 (semEvents ⟨X.K.Wg,1,none⟩):=.sem 1;have hs0:∀c it,Y.ws x ≠ .mx c it:=λc it h=>by rw[hws]at h;cases h
 have hall:∀y,upd Y.ws x .qt y = .no\/upd Y.ws x .qt y = .qt:=λy=>by
  by_cases h:y=x
  ·subst h;exact .inr (upd_same _ _ _)
  ·rw[upd_ne _ _ h];exact hy y h
 refine C.group hok hx hg (σ:=.qt) (q:=q) hgo hE rfl rfl rfl (by rw[hws];rfl) (by rw[ha];exact .sema hr hall) (λZ=>by rw[hd,hE.size];exact hL.evT (.inr rfl) l2) (λ_=>.inr ⟨hwk,quitsD_running hq⟩) (λY' k1 k2 k3=>?_) (hL.saidK C hx hs0) (by rw[hws];decide) (by rw[hws];decide);unfold Wrk;rw[k1,k2,hd,hL.deaf];exact hq
theorem Ci.slipD(C:Ci X Y gs w t)(hok:PhOk X)(hx:x<Y.Z.j)(hg:gs[X.m0+x]?=some g)(hs:∀c it,Y.ws x ≠ .mx c it)(h:Slip (Z1C (X.kx Y.Lb x) [bot] n) (Y.q (X.m0+x)) (Deaf t (X.m0+x)) g)(mk:∀Y' d' g',Y'.ws x=Y.ws x->Y'.Lb=Y.Lb->Slip (Z1C (X.kx Y.Lb x) [bot] n) (Y'.q (X.m0+x)) d' g'->Wrk X Y' x d' g' w): Z1C (X.kx Y.Lb x) [bot] n (Deaf t (X.m0+x)) g\/Z0U X Y gs w sl t (X.m0+x):=by
 cases hq:Y.q (X.m0+x) with
 | zero=>rw[hq]at h;exact .inl h
 | succ q =>
  rw[hq]at h
  rcases h with h | ⟨_,g',es,hm,hgo,h'⟩
  ·exact .inl h
  ·refine .inr (C.slip hok hx hg hs hm (hgo w) (q:=q) (by rw[hq];exact Nat.lt_succ_self q) (mk _ _ _ (upd_same _ _ _) rfl ?_))
   show Slip _ (upd Y.q (X.m0+x) q (X.m0+x)) _ _;rw[upd_same];exact h'
theorem Ci.work(C:Ci X Y gs w t)(hok:PhOk X)(hx:x<Y.Z.j)(hg:gs[X.m0+x]?=some g)(hr:g.status = .running):Z0U X Y gs w sl t (X.m0+x):=by
 obtain⟨g0,hg0,hw⟩:=C.wrk x hx;rw[hg]at hg0;obtain rfl:=Y1 hg0;have hw0:=hw;unfold Wrk at hw
 cases hws:Y.ws x with
 | no=>rw[hws]at hw;exact hw.elim
 | mx c it =>
  rw[hws]at hw;dsimp only at hw;obtain⟨hi,hw | ⟨_,_,hb,_,_⟩⟩:=hw
  ·rcases hw.cases' with hat | ⟨g',w',es,h',hgo,hG,hh,hs⟩
   ·by_cases hc:c=OUT
    ·subst hc;exact C.word hok hx hg hws hat
    ·exact C.move hok hx hg hws hi hc hat
   ·refine C.quiet hok hx hg hws hgo hG hh hs λd' hh=>?_
    unfold Wrk Da.wk;dsimp only;rw[upd_same,hws];dsimp only;rw[upd_same,upd_same];exact⟨hi,.inl hh⟩
  ·rw[hb]at hr;cases hr
 | d1 =>
  rw[hws]at hw
  rcases C.slipD hok hx hg (λc it h=>by rw[hws]at h;cases h) hw (λY' d' g' k1 k2 k3=>by unfold Wrk;rw[k1,hws,k2];exact k3) with h | h
  ·exact C.done1 hok hx hg hws h
  ·exact h
 | d2 =>
  rw[hws]at hw
  rcases C.slipD hok hx hg (λc it h=>by rw[hws]at h;cases h) hw (λY' d' g' k1 k2 k3=>by unfold Wrk;rw[k1,hws,k2];exact k3) with h | h
  ·exact C.done2 hok hx hg hws h
  ·exact h
 | d3 =>
  rw[hws]at hw
  rcases C.slipD hok hx hg (λc it h=>by rw[hws]at h;cases h) hw (λY' d' g' k1 k2 k3=>by unfold Wrk;rw[k1,hws,k2];exact k3) with h | h
  ·exact C.done3 hok hx hg hws h
  ·exact h
 | d4 =>
  rw[hws]at hw
  rcases C.slipD hok hx hg (λc it h=>by rw[hws]at h;cases h) hw (λY' d' g' k1 k2 k3=>by unfold Wrk;rw[k1,hws,k2];exact k3) with h | h
  ·exact C.done4 hok hx hg hws h
  ·exact h
 | qt =>
  rw[hws]at hw;dsimp only at hw
  cases hq:Y.q (X.m0+x) with
  | zero=>rw[hq]at hw;rw[hw.1]at hr;cases hr
  | succ q =>
   rw[hq]at hw
   rcases hw with⟨hf,_⟩ | ⟨_,g',es,hm,hgo,h'⟩
   ·rw[hf]at hr;cases hr
   ·refine C.slip hok hx hg (λc it h=>by rw[hws]at h;cases h) hm (hgo w) (q:=q) (by rw[hq];exact Nat.lt_succ_self q) ?_
    unfold Wrk Da.wk;dsimp only;rw[upd_same,hws];dsimp only;rw[upd_same];exact h'
end
end Lift
end Go.Proofs.YtfelljbfeoplhaaGreat
