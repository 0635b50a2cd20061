/- Parts of a proof: Wq, Wr, Wu, Wv, Ww, Uc, Ud, Ue, Yb, Yc, Qj, Yd, Ye, Yf, Zh, Za, Zi. No conditions. -/
import Derived.Test.YtfelljbfeoplhaaGreatPpt1
import Derived.Test.YtfelljbfeoplhaaGreatPpt3
import Derived.Test.YtfelljbfeoplhaaGreatPpt5
import Derived.Test.YtfelljbfeoplhaaGreatPpt6
import Derived.Test.YtfelljbfeoplhaaGreatPpt7
import Derived.Test.YtfelljbfeoplhaaGreatPpt8
import Derived.Test.YtfelljbfeoplhaaGreatPpt9
import Derived.Test.YtfelljbfeoplhaaGreatPpt10
set_option linter.unusedVariables false
set_option linter.unusedSimpArgs false
set_option linter.unusedSectionVars false
set_option maxRecDepth 100000
set_option maxHeartbeats 4000000
namespace Go.Proofs.YtfelljbfeoplhaaGreat
variable{Om:Nat->Prop}{B b base c k n o:Nat}{Q:Go.Program}{R:Go.Value->Go.Value->Prop}{xs ys:Array Go.Value}{a:Option Go.Addr}{L:List (Go.Value×List Int)}{v v' w w' w0:Go.World}{l:List Int}{u x y:Go.Value}{fs:List Go.Frame}
namespace Lift
open Go Go.Conc Ev
open Mx
open Go.ConcM (OsLater woken_by_blocked quitsD_running)
open Go.ConcN (upd upd_ne upd_same sumTo sumTo_upd)
variable[Jk]
section
variable{X:Ph}{Y:Da}{gs:Array Goroutine}{w w':World}{t:Trace}{a a':Goroutine}{sl:Option (Nat×Nat)}{es:Array Event}
def Big(X:Ph)(Y:Da)(c:Nat):Prop:=X.wS.heap.size<=c/\c≠X.K.Mu/\c≠X.K.Wg/\c≠X.K.Fd/\∀x,x<Y.Z.j->¬Y.Z.O x c
theorem ZiB(S:Sep X.K X.D Y.Z)(hok:PhOk X):Sep X.K X.D {Y.Z with Om:=Big X Y} where
 shared:=λi c hi hc=>⟨(S.shared i c hi hc).1,(S.shared i c hi hc).2.1,(S.shared i c hi hc).2.2.1,(S.shared i c hi hc).2.2.2.1,λh=>h.2.2.2.2 i hi hc⟩
 two:=S.two
 own:=λc hc=>⟨hc.2.1,hc.2.2.1,hc.2.2.2.1,λhd=>by have:=hok.dlow c hd;have:=hc.1;omega⟩
 fd:=S.fd
theorem Z6Z{K:Cx}(hm:∀e∈es,Event.mute e=true): EvM K Om B es:=λe he=>by
 have h:=hm e he;refine⟨low_mute h B,λh'=>?_,λa ha=>by rw[touch_mute h]at ha;cases ha⟩;obtain⟨loc,wr,sy⟩:=e;dsimp only at h';subst h'
 cases h
def Da.cl(Y:Da)(tag:CT)(h0:Nat)(d0:Nat)(s:Sh):Da:={Y with tag:=tag,h0:=h0,d0:=d0,s:=s,Z:={Y.Z with Om:=curL tag}}
theorem TI.om{K:Cx}{D:Nat->Prop}{Z:Zn}{p0 dm: Nat}{t:Trace}(h:TI K D Z B p0 dm t)(Om:Nat->Prop): TI K D {Z with Om:=Om} B p0 dm t:=
 ⟨h.clean,h.known,h.work,h.over,h.hears,h.above,h.seen,h.norel,h.start,h.first⟩
theorem Ci.cstep(C:Ci X Y gs w t)(hok:PhOk X)(h0:gs[0]?=some a){tag':CT}{h0':Nat}{s':Sh}{fn:FuncId}{pos:String}(hkeep:∀c,c<w.heap.size->c≠X.K.Mu->c≠X.K.Wg->c≠X.K.Fd->¬curL tag' c->w'.heap[c]?=w.heap[c]?)(hsize:w.heap.size<=w'.heap.size)(hos:OsLater w.os w'.os)(hout:w'.output=w.output)(sh':ShAt X.K w' s')(e1:s'.mu=Y.s.mu)(e2:s'.ms=Y.s.ms)(e3:s'.fd=Y.s.fd)(hj:tagJ X.n tag'=tagJ X.n Y.tag)(htok:Z7I X.n tag')(mode':Mode Y.ws tag' s'.wg s'.ws)(hev:EvM X.K (Big X Y) w'.heap.size es)(hcal:Cal X (Y.cl tag' h0' (deafBehind Y.d0 es) s') a' w')(hlmp:∀c,curL tag' c->Big X Y c/\c<w'.heap.size/\∃z TT,w'.heap[c]?=some (.cells #[z] TT (0,0))/\((∀i L,tag' ≠ .ms i L)->z=qw (Y.Z.j:Int))):
  Ci X (Y.cl tag' h0' (deafBehind Y.d0 es) s') ((gs.map (woken PP a a' w')).setIfInBounds 0 a') w' (t++MemOp.ofEvents 0 fn pos es):=by
 have hlt:0<gs.size:=(Y0.1 h0).1;have hm0:=hok.m0;have S:=C.sep;have hu:∀op∈MemOp.ofEvents 0 fn pos es,op.g=0:=λop hop=>by obtain⟨e,_,rfl⟩:=Go.Conc.mem_ofEvents hop;rfl
 have hdo:∀i,i≠0->Deaf (t++MemOp.ofEvents 0 fn pos es) i=Deaf t i:=λi hi=>Deaf_other t (Ne.symm hi) _ hu;have hrel:∀y,y<Y.Z.j->Rely X.K (Y.Z.O y) w w':=λy hy=>⟨λc hc=>by
  have:=S.shared y c hy hc;exact hkeep c (C.low y c hy hc) this.1 this.2.1 this.2.2.1 λhL=>(hlmp c hL).1.2.2.2.2 y hy hc,hsize,Z1c hos,λ_=>⟨s',sh'⟩⟩
 have hTI:TI X.K X.D {Y.Z with Om:=curL tag'} w'.heap.size X.p0 (deafBehind Y.d0 es) (t++MemOp.ofEvents 0 fn pos es):=
  ((C.ti.om (Big X Y)).starter (ZiB S hok) hsize hev).om (curL tag')
 refine⟨Eq.trans (by simp) C.size,C.zm,C.zj.trans hj.symm,htok,λi y hi0 hi hy=>?_,⟨a',Z2V hlt,hcal⟩,λy hy=>?_,C.no,sh',e1.trans C.vmu,e2.trans C.vms,C.tab,C.out,by show s'.fd.length=_;rw[e3];exact C.len,λy hy=>by show s'.fd[y]?=_;rw[e3];exact C.fd y hy,mode',λy hy=>?_,λy c hy hc=>Y8 (C.low y c hy hc) hsize,C.new,C.ro,rfl,λc hc=>?_,?_,hTI,λy hy hs=>?_,λc hc h1 h2 h3=>?_,Yd C.grow hsize,OsLater.trans C.os hos,hout.trans C.outp⟩
 ·rw[Z0t (by omega)]at hy
  obtain⟨z,hz,rfl⟩:=Y3.1 hy;have hq:=C.old i z hi0 hi hz;rw[woken_quitsD hq,hdo i (by omega)];exact hq
 ·obtain⟨z,hz,hw⟩:=C.wrk y hy
  refine⟨_,by rw[Z0t (by omega),hz];rfl,?_⟩;rw[hdo _ (by omega)];exact hw.keep (hrel y hy) rfl rfl rfl rfl rfl rfl λh=>.inl h
 ·obtain⟨b1,b2⟩:=C.bx y hy
  refine⟨?_,b2⟩;have:=hrel y hy;exact b1.rely ⟨λc hc=>this.keep c (C.ro y c hc),hsize,Z1c hos,λ_=>⟨s',sh'⟩⟩
 ·obtain⟨b1,b2,z,TT,b3,b4⟩:=hlmp c hc
  exact⟨b1.1,b2,z,TT,b3,b4⟩
 ·exact⟨λi c hi hc=>⟨(S.shared i c hi hc).1,(S.shared i c hi hc).2.1,(S.shared i c hi hc).2.2.1,(S.shared i c hi hc).2.2.2.1,λhL=>(hlmp c hL).1.2.2.2.2 i hi hc⟩,S.two,λc hL=>by
   have hb:=(hlmp c hL).1;exact⟨hb.2.1,hb.2.2.1,hb.2.2.2.1,λhd=>by have:=hok.dlow c hd;have:=hb.1;omega⟩,S.fd⟩
 ·exact(C.said y hy hs).other (g:=0) (by show 0≠Y.Z.m0+y;rw[C.zm];omega) hu
 ·rw[<-C.kept c hc h1 h2 h3]
  refine hkeep c (Y8 hc C.grow) h1 h2 h3 λhL=>?_;have:=(hlmp c hL).1.1;omega
theorem Z59(C:Ci X Y gs w t)(h:curL Y.tag c): Big X Y c:=by
 have ho:Y.Z.Om c:=by rw[C.om];exact h
 have h1:=C.sep.own c ho;exact⟨(C.lmp c h).1,h1.1,h1.2.1,h1.2.2.1,λx hx hO=>(C.sep.shared x c hx hO).2.2.2.2 ho⟩
theorem Ci.cquiet(C:Ci X Y gs w t)(hok:PhOk X)(h0:gs[0]?=some a){q:Nat}(hq:q<Y.h0)(hm:∀e∈es,Event.mute e=true)(hgo:stepG PP true a w = .go a' w es)(hh:Z8Q true X.K (ZQ X.k X.T X.n X.cs Y.tag) q (deafBehind Y.d0 es) a'): Z0U X Y gs w sl t 0:=by
 have hrun:=runT_crowd_go (P:=PP) (sl:=sl) (i:=0) h0 (show stepG PP (0==0) a w=_ from hgo);refine⟨_,_,w,_,hrun,C.cstep hok h0 (tag':=Y.tag) (h0':=q) (s':=Y.s) (λc _ _ _ _ _=>rfl) (Ye _) (OsLater.refl _) rfl C.sh rfl rfl rfl rfl C.tok C.mode (Z6Z hm) (.inl hh) (λc hc=>⟨Z59 C hc,(C.lmp c hc).2.1,(C.lmp c hc).2.2⟩),?_⟩;exact ZlG rfl rfl hq
theorem Ci.cstop(C:Ci X Y gs w t)(hok:PhOk X)(h0:gs[0]?=some a){tag':CT}{s':Sh}(hgo:stepG PP true a w = .go a' w' es)(hE:Eff X.K w w' s')(e1:s'.mu=Y.s.mu)(e2:s'.ms=Y.s.ms)(e3:s'.fd=Y.s.fd)
  (hj:tagJ X.n tag'=tagJ X.n Y.tag) (htok:Z7I X.n tag') (mode':Mode Y.ws tag' s'.wg s'.ws) (hev:EvM X.K (Big X Y) w'.heap.size es) (hcal:WM true X.K (ZQ X.k X.T X.n X.cs tag') (deafBehind Y.d0 es) a') (hL:∀c,curL tag' c->curL Y.tag c) (hms:(∀i L,tag' ≠ .ms i L)->∀c,curL tag' c->∀i L,Y.tag ≠ .ms i L)
  (hphi:phi X.n (vsum Y.ws) tag'<phi X.n (vsum Y.ws) Y.tag):Z0U X Y gs w sl t 0:=by
 obtain⟨q,hq⟩:=hcal;have hrun:=runT_crowd_go (P:=PP) (sl:=sl) (i:=0) h0 (show stepG PP (0==0) a w=_ from hgo);refine⟨_,_,w',_,hrun,C.cstep hok h0 (tag':=tag') (h0':=q) (s':=s') (λc _ h1 h2 h3 _=>hE.same c h1 h2 h3) (Nat.le_of_eq hE.size.symm) hE.os hE.out hE.sh e1 e2 e3 hj htok mode' hev (.inl hq) (λc hc=>?_),?_⟩
 ·have hb:=Z59 C (hL c hc)
  obtain⟨b1,b2,z,TT,b3,b4⟩:=C.lmp c (hL c hc);refine⟨hb,by rw[hE.size];exact b2,z,TT,by rw[hE.same c hb.2.1 hb.2.2.1 hb.2.2.2.1];exact b3,λh=>b4 (hms h c hc)⟩
 ·refine Zbm ?_
  rw[Z1x,Z1x];show phi X.n (vsum Y.ws) tag'+Y.r+_<phi X.n (vsum Y.ws) Y.tag+Y.r+_;exact Nat.add_lt_add_right (Nat.add_lt_add_right hphi _) _
end
end Lift
namespace Lift
open Go Go.Conc Ev
open Mx
open Go.ConcM (OsLater woken_by_blocked quitsD_running)
open Go.ConcN (upd upd_ne upd_same sumTo sumTo_upd)
variable[Jk]
section
variable{X:Ph}{Y:Da}{gs:Array Goroutine}{w w':World}{t:Trace}{a a':Goroutine}{sl:Option (Nat×Nat)}{es:Array Event}{ws:Nat->WS}{tag tag':CT}{p q:Int}{i L v:Nat}
def Ziq(ws:Nat->WS):Prop:=∀x,ws x = .no\/(∃c it,ws x = .mx c it)\/ws x = .d1\/ws x = .qt
def Zir(ws:Nat->WS):Prop:=∀x,ws x = .no\/ws x = .qt
theorem Mode.op(h:Mode ws tag p q)(ho:Zak tag):Ziq ws/\(∀v,tag = .w2 v->vsum ws<=v)/\p=((vsum ws+pend tag:Nat):Int)*4294967296/\q=0:=by
 cases h with
 | opn h1 h2 h3=>exact⟨h2,h3,rfl,rfl⟩
 | reg h1=>cases tag<;>first | exact h1.elim | exact ho.elim
 | last L h1=>cases tag<;>first | exact h1.elim | exact ho.elim
 | last4 L h1=>cases tag<;>first | exact h1.elim | exact ho.elim
 | sema h1=>cases tag<;>first | exact h1.elim | exact ho.elim
 | fin h1=>cases tag<;>first | exact h1.elim | exact ho.elim
theorem Mode.fi(h:Mode ws tag p q)(ho:ZjV tag):Zir ws/\p=0/\q=0:=by
 cases h with
 | opn h1 h2 h3=>cases tag<;>first | exact h1.elim | exact ho.elim
 | reg h1=>cases tag<;>first | exact h1.elim | exact ho.elim
 | last L h1=>cases tag<;>first | exact h1.elim | exact ho.elim
 | last4 L h1=>cases tag<;>first | exact h1.elim | exact ho.elim
 | sema h1=>cases tag<;>first | exact h1.elim | exact ho.elim
 | fin h1 h2=>exact⟨h2,rfl,rfl⟩
theorem Mode.re(h:Mode ws tag p q)(ho:Z8e tag)(h':Z8e tag'):Mode ws tag' p q:=by
 cases h with
 | opn h1 h2 h3=>cases tag<;>first | exact h1.elim | exact ho.elim
 | reg h1 h2 h3=>exact .reg h' h2 h3
 | last L h1 h2 h3 h4=>exact .last L h' h2 h3 h4
 | last4 L h1 h2 h3 h4=>exact .last4 L h' h2 h3 h4
 | sema h1 h2=>exact .sema h' h2
 | fin h1=>cases tag<;>first | exact h1.elim | exact ho.elim
theorem Mode.w3(h:Mode ws .w3 p q):q=0\/(q=1/\p=0/\Zir ws):=by
 cases h with
 | opn h1 h2 h3=>exact h1.elim
 | reg h1 h2 h3=>exact .inl rfl
 | last L h1 h2 h3 h4=>exact .inl rfl
 | last4 L h1 h2 h3 h4=>exact .inl rfl
 | sema h1 h2=>exact .inr ⟨rfl,rfl,h2⟩
 | fin h1=>exact .inl rfl
theorem Zis(h:Ziq ws)(h0:vsum ws=0)(hno:∀y,3<=y->ws y = .no):Zir ws:=by
 intro y
 rcases Nat.lt_or_ge y 3 with hy | hy
 ·have hc:(ws y).cnt=0:=by
   unfold vsum at h0;have:y=0\/y=1\/y=2:=by omega
   rcases this with rfl | rfl | rfl<;>omega
  rcases h y with e | ⟨c,it,e⟩ | e | e
  ·exact .inl e
  ·rw[e]at hc;cases hc
  ·rw[e]at hc;cases hc
  ·exact .inr e
 ·exact .inl (hno y hy)
theorem Za3{K:Cx}{wr:Bool}(h:K.Wg<B): EvM K Om B #[⟨.mark (bif wr then .write ⟨K.Wg,1,none⟩ else .read ⟨K.Wg,1,none⟩),false,true⟩]:=by
 intro e he;simp only[Yb,List.mem_singleton]at he;subst he
 cases wr
 ·refine⟨h,by simp,λa ha _=>.inr ?_⟩
  simp only[cond_false,MemAct.ofEvent,MemAct.touch?,Y4]at ha;subst ha;exact⟨⟨_,rfl,.inr rfl⟩,by simp⟩
 ·refine⟨h,by simp,λa ha _=>.inr ?_⟩
  simp only[cond_true,MemAct.ofEvent,MemAct.touch?,Y4]at ha;subst ha;exact⟨⟨_,rfl,.inr rfl⟩,by simp⟩
variable(C:Ci X Y gs w t)(hok:PhOk X)(h0:gs[0]?=some a)
include C hok h0
theorem Zlm(ht:Y.tag = .ma i)(hat:ZQ X.k X.T X.n X.cs (.ma i) Y.d0 a):Z0U X Y gs w sl t 0:=by
 obtain⟨hd,a',hgo,q,hq⟩:=ZlV (m:=true) (w:=w) hok.wok C.sh hat
 have l1:=(Y0.1 C.sh.mu).1;have l2:=(Y0.1 C.sh.wg).1;have l3:=(Y0.1 C.sh.fd).1;have hold:∀c,c<w.heap.size->(w.alloc (.cells #[.int .i64 0] 3)).heap[c]?=w.heap[c]?:=λc hc=>by
  show (w.heap.push _)[c]?=_;rw[Array.getElem?_push,if_neg (by omega)]
 have hnew:(w.alloc (.cells #[.int .i64 0] 3)).heap[w.heap.size]?=some (.cells #[.int .i64 0] 3 (0,0)):=by
  show (w.heap.push _)[w.heap.size]?=_;rw[Array.getElem?_push,if_pos rfl]
 have hsz:(w.alloc (.cells #[.int .i64 0] 3)).heap.size=w.heap.size+1:=by
  show (w.heap.push _).size=_;simp
 have htok:=C.tok;obtain⟨m1,m2,m3,m4⟩:=C.mode.op (by rw[ht];trivial);rw[ht]at htok m3;have hrun:=runT_crowd_go (P:=PP) (sl:=sl) (i:=0) h0 (show stepG PP (0==0) a w=_ from hgo);refine⟨_,_,_,_,hrun,C.cstep hok h0 (tag':=.ms i w.heap.size) (h0':=q) (s':=Y.s) (λc hc _ _ _ _=>hold c hc) (by omega) (OsLater.refl _) rfl ⟨by rw[hold _ l1];exact C.sh.mu,by rw[hold _ l2];exact C.sh.wg,by rw[hold _ l3];exact C.sh.fd⟩ rfl rfl rfl (by rw[ht];rfl) htok (by rw[m3,m4];exact .opn (tag:=.ms i w.heap.size) trivial m1 (λv e=>by cases e)) (Z6Z (by simp)) (.inl ?_) (λc hc=>?_),?_⟩
 ·rw[hd];exact hq
 ·have hc':c=w.heap.size:=hc
  subst hc';refine⟨⟨C.grow,by omega,by omega,by omega,λx hx ho=>?_⟩,by omega,_,_,hnew,λh=>absurd rfl (h i w.heap.size)⟩;have:=C.low x _ hx ho;omega
 ·refine Zbm ?_
  rw[Z1x,Z1x];show phi X.n (vsum Y.ws) (.ms i w.heap.size)+Y.r+_<phi X.n (vsum Y.ws) Y.tag+Y.r+_;rw[ht];exact Nat.add_lt_add_right (Nat.add_lt_add_right (by simp only[phi];omega) _) _
theorem Zlp(ht:Y.tag = .ms i L)(hat:ZQ X.k X.T X.n X.cs (.ms i L) Y.d0 a):Z0U X Y gs w sl t 0:=by
 have hcur:curL Y.tag L:=by rw[ht];rfl
 have hb:=Z59 C hcur;obtain⟨b1,b2,z,TT,b3,_⟩:=C.lmp L hcur;obtain⟨hd,a',hgo,q,hq⟩:=ZlZ (m:=true) (w:=w) hok.wok C.sh hat b3 ⟨hb.2.1,hb.2.2.1,hb.2.2.2.1⟩;have htok:=C.tok;have hzj:=C.zj;obtain⟨m1,m2,m3,m4⟩:=C.mode.op (by rw[ht];trivial);rw[ht]at htok m3 hzj;have hrun:=runT_crowd_go (P:=PP) (sl:=sl) (i:=0) h0 (show stepG PP (0==0) a w=_ from hgo);have hsz:(w.setCell ⟨L,0,none⟩ (qw i)).heap.size=w.heap.size:=by simp[World.setCell]
 refine⟨_,_,_,_,hrun,C.cstep hok h0 (tag':=.md i L) (h0':=q) (s':=Y.s) (λc hc _ _ _ hn=>ZJ λe=>hn e) (by rw[hsz];exact Ye _) (OsLater.refl _) rfl ⟨by rw[ZJ (Ne.symm hb.2.1)];exact C.sh.mu,by rw[ZJ (Ne.symm hb.2.2.1)];exact C.sh.wg,by rw[ZJ (Ne.symm hb.2.2.2.1)];exact C.sh.fd⟩ rfl rfl rfl (by rw[ht];rfl) htok (by rw[m3,m4];exact .opn (tag:=.md i L) trivial m1 (λv e=>by cases e)) ?_ (.inl ?_) (λc hc=>?_),?_⟩
 ·intro e he
  simp only[Yb,List.mem_singleton]at he;subst he;refine⟨by show L<_;rw[hsz];exact b2,by simp,λb hb' _=>.inl ?_⟩;simp only[MemAct.ofEvent,MemAct.touch?,Y4]at hb';subst hb';exact⟨rfl,L,rfl,hb⟩
 ·rw[hd];exact hq
 ·have hc':c=L:=hc
  subst hc';refine⟨hb,by rw[hsz];exact b2,qw i,TT,by rw[Z1Z b3];rfl,λ_=>?_⟩;rw[hzj];rfl
 ·refine Zbm ?_
  rw[Z1x,Z1x];show phi X.n (vsum Y.ws) (.md i L)+Y.r+_<phi X.n (vsum Y.ws) Y.tag+Y.r+_;rw[ht];exact Nat.add_lt_add_right (Nat.add_lt_add_right (by simp only[phi];omega) _) _
theorem Zln(ht:Y.tag = .md i L)(hat:ZQ X.k X.T X.n X.cs (.md i L) Y.d0 a):Z0U X Y gs w sl t 0:=by
 have htok:=C.tok;have hzj:=C.zj;obtain⟨m1,m2,m3,m4⟩:=C.mode.op (by rw[ht];trivial);rw[ht]at htok m3 hzj;have hv:vsum Y.ws<=2:=by
  have:=Z9H C hok;have:=hok.n3;simp only[tagJ,Z7I]at hzj htok;omega
 have l2:=(Y0.1 C.sh.wg).1;obtain⟨hd,a',w',hgo,hE,hq⟩:=ZlW (m:=true) (w:=w) hok.wok C.sh hat (v:=vsum Y.ws) hv (by rw[m3];rfl);have hL:DLst X.K.Wg 1 #[⟨.cell ⟨X.K.Wg,0,none⟩,false,true⟩,⟨.cell ⟨X.K.Wg,0,none⟩,true,true⟩]:=.rw 0 Nat.one_pos
 by_cases h1:vsum Y.ws=0
 ·rw[if_pos h1]at hq
  refine C.cstop hok h0 (tag':=.mr i L) hgo hE rfl rfl rfl (by rw[ht];rfl) (by exact htok) (by rw[m4];exact .opn (tag:=.mr i L) trivial m1 (λv e=>by cases e)) (hL.evM (.inr rfl) (by rw[hE.size];exact l2)) (by rw[hd,hL.deaf];exact hq) (λc hc=>by rw[ht];exact hc) (λ_ c _ i L e=>by rw[ht]at e;cases e) (by rw[ht];simp only[phi];omega)
 ·rw[if_neg h1]at hq
  refine C.cstop hok h0 (tag':=.mg i L) hgo hE rfl rfl rfl (by rw[ht];rfl) (by exact htok) (by rw[m4];exact .opn (tag:=.mg i L) trivial m1 (λv e=>by cases e)) (hL.evM (.inr rfl) (by rw[hE.size];exact l2)) (by rw[hd,hL.deaf];exact hq) (λc hc=>by rw[ht];exact hc) (λ_ c _ i L e=>by rw[ht]at e;cases e) (by rw[ht];simp only[phi];omega)
theorem Zlo(ht:Y.tag = .mr i L)(hat:ZQ X.k X.T X.n X.cs (.mr i L) Y.d0 a):Z0U X Y gs w sl t 0:=by
 have htok:=C.tok;obtain⟨m1,m2,m3,m4⟩:=C.mode.op (by rw[ht];trivial);rw[ht]at htok m3;have l2:=(Y0.1 C.sh.wg).1;obtain⟨hd,a',hgo,hq⟩:=ZlY (m:=true) (w:=w) hok.wok C.sh hat
 refine C.cstop hok h0 (tag':=.mg i L) hgo (Eff.nil C.sh (OsLater.refl _) rfl rfl) rfl rfl rfl (by rw[ht];rfl) (by exact htok) (by rw[m3,m4];exact .opn (tag:=.mg i L) trivial m1 (λv e=>by cases e)) (Za3 (wr:=false) l2) (by rw[hd];exact hq) (λc hc=>by rw[ht];exact hc) (λ_ c _ i L e=>by rw[ht]at e;cases e) (by rw[ht];simp only[phi];omega)
theorem Zlr(ht:Y.tag = .w1)(hat:ZQ X.k X.T X.n X.cs .w1 Y.d0 a):Z0U X Y gs w sl t 0:=by
 obtain⟨m1,m2,m3,m4⟩:=C.mode.op (by rw[ht];trivial);rw[ht]at m3;have hv:vsum Y.ws<=3:=by have:=Z8I C hok;omega
 have l2:=(Y0.1 C.sh.wg).1;obtain⟨hd,a',hgo,hq⟩:=Zm2 (m:=true) (w:=w) hok.wok C.sh hat (v:=vsum Y.ws) hv (by rw[m3];rfl);have hL:DLst X.K.Wg 1 #[⟨.cell ⟨X.K.Wg,0,none⟩,false,true⟩]:=.rd 0 Nat.one_pos
 by_cases h1:vsum Y.ws=0
 ·rw[if_pos h1]at hq
  have hm:Mode Y.ws .mq Y.s.wg Y.s.ws:=by
   rw[m3,m4,h1];exact .fin trivial (Zis m1 h1 (C.no3 hok))
  exact C.cstop hok h0 (tag':=.mq) hgo (Eff.nil C.sh (OsLater.refl _) rfl rfl) rfl rfl rfl (by rw[ht];rfl) trivial hm (hL.evM (.inr rfl) l2) (by rw[hd,hL.deaf];exact hq) (λc hc=>hc.elim) (λ_ c hc=>hc.elim) (by rw[ht];simp only[phi];omega)
 ·rw[if_neg h1]at hq
  have hm:Mode Y.ws (.w2 (vsum Y.ws)) Y.s.wg Y.s.ws:=by
   rw[m3,m4];exact .opn (tag:=.w2 (vsum Y.ws)) trivial m1 (λv e=>by cases e;exact Ye _)
  exact C.cstop hok h0 (tag':=.w2 (vsum Y.ws)) hgo (Eff.nil C.sh (OsLater.refl _) rfl rfl) rfl rfl rfl (by rw[ht];rfl) ⟨by omega,hv⟩ hm (hL.evM (.inr rfl) l2) (by rw[hd,hL.deaf];exact hq) (λc hc=>hc.elim) (λ_ c hc=>hc.elim) (by rw[ht];simp only[phi];omega)
theorem Zls(ht:Y.tag = .w2 v)(hat:ZQ X.k X.T X.n X.cs (.w2 v) Y.d0 a):Z0U X Y gs w sl t 0:=by
 have htok:=C.tok;obtain⟨m1,m2,m3,m4⟩:=C.mode.op (by rw[ht];trivial);have hle:=m2 v ht;rw[ht]at m3 htok;have l2:=(Y0.1 C.sh.wg).1;obtain⟨hd,hq⟩:=Zm3 (m:=true) (w:=w) hok.wok C.sh hat htok.1 htok.2 (v':=vsum Y.ws) (by rw[m3];rfl)
 by_cases h1:vsum Y.ws=v
 ·rw[if_pos h1]at hq
  obtain⟨a',w',hgo,hE,hq⟩:=hq;have hL:DLst X.K.Wg 1 #[⟨.cell ⟨X.K.Wg,0,none⟩,false,true⟩,⟨.cell ⟨X.K.Wg,0,none⟩,true,true⟩]:=.rw 0 Nat.one_pos;have hm:Mode Y.ws (.mx v) ((v:Int)*4294967296+1) Y.s.ws:=by
   rw[m4,<-h1];exact .reg (tag:=.mx (vsum Y.ws)) trivial m1 (by rw[h1];exact htok.1)
  exact C.cstop hok h0 (tag':=.mx v) hgo hE rfl rfl rfl (by rw[ht];rfl) htok hm (hL.evM (.inr rfl) (by rw[hE.size];exact l2)) (by rw[hd,hL.deaf];exact hq) (λc hc=>hc.elim) (λ_ c hc=>hc.elim) (by rw[ht];simp only[phi];omega)
 ·rw[if_neg h1]at hq
  obtain⟨a',hgo,hq⟩:=hq;have hL:DLst X.K.Wg 1 #[⟨.cell ⟨X.K.Wg,0,none⟩,false,true⟩]:=.rd 0 Nat.one_pos;have hm:Mode Y.ws .w1 Y.s.wg Y.s.ws:=by
   rw[m3,m4];exact .opn (tag:=.w1) trivial m1 (λv e=>by cases e)
  exact C.cstop hok h0 (tag':=.w1) hgo (Eff.nil C.sh (OsLater.refl _) rfl rfl) rfl rfl rfl (by rw[ht];rfl) trivial hm (hL.evM (.inr rfl) l2) (by rw[hd,hL.deaf];exact hq) (λc hc=>hc.elim) (λ_ c hc=>hc.elim) (by rw[ht];simp only[phi];omega)
theorem Zlq(ht:Y.tag = .mx v)(hat:ZQ X.k X.T X.n X.cs (.mx v) Y.d0 a):Z0U X Y gs w sl t 0:=by
 have htok:=C.tok;have hm:=C.mode;rw[ht]at htok hm;have l2:=(Y0.1 C.sh.wg).1;obtain⟨hd,a',hgo,hq⟩:=Zm0 (m:=true) (w:=w) hok.wok C.sh hat htok.1 htok.2;exact C.cstop hok h0 (tag':=.w3) hgo (Eff.nil C.sh (OsLater.refl _) rfl rfl) rfl rfl rfl (by rw[ht];rfl) trivial (hm.re trivial trivial) (Za3 (wr:=true) l2) (by rw[hd];exact hq) (λc hc=>hc.elim) (λ_ c hc=>hc.elim) (by rw[ht];simp only[phi];omega)
theorem Zlt(ht:Y.tag = .w3)(hat:ZQ X.k X.T X.n X.cs .w3 Y.d0 a):Z0U X Y gs w sl t 0:=by
 have hm:=C.mode;rw[ht]at hm;have l2:=(Y0.1 C.sh.wg).1;obtain⟨hd,hb,hg⟩:=Zm4 (m:=true) (w:=w) hok.wok C.sh hat
 rcases hm.w3 with h1 | ⟨h1,h2,h3⟩
 ·have hgo:=hb h1
  have hrun:=runT_crowd_go (P:=PP) (sl:=sl) (i:=0) h0 (show stepG PP (0==0) a w=_ from hgo);refine⟨_,_,w,_,hrun,C.cstep hok h0 (tag':=Y.tag) (h0':=Y.h0) (s':=Y.s) (λc _ _ _ _ _=>rfl) (Ye _) (OsLater.refl _) rfl C.sh rfl rfl rfl rfl C.tok C.mode (Z6Z (by simp)) (.inr ⟨ht,h1,rfl,?_,?_⟩) (λc hc=>⟨Z59 C hc,(C.lmp c hc).2.1,(C.lmp c hc).2.2⟩),?_⟩
  ·obtain⟨_,x,u,f,fs,_,rfl⟩:=hat
   rfl
  ·obtain⟨k1,x,u,f,fs,k2,rfl⟩:=hat
   exact⟨k1,x,u,f,fs,k2,rfl⟩
  ·exact ZgJ rfl rfl rfl rfl rfl (by simp) (Zae h0 (Z5F _ _ hat) rfl)
 ·obtain⟨a',w',hgo,hE,hq⟩:=hg h1
  have hL:DLst X.K.Wg 1 (semEvents ⟨X.K.Wg,1,none⟩):=.sem 1;exact C.cstop hok h0 (tag':=.w4) hgo hE rfl rfl rfl (by rw[ht];rfl) trivial (by rw[h2];exact .fin (tag:=.w4) trivial h3) (hL.evM (.inr rfl) (by rw[hE.size];exact l2)) (by rw[hd,hL.deaf];exact hq) (λc hc=>hc.elim) (λ_ c hc=>hc.elim) (by rw[ht];simp only[phi];omega)
theorem Zlu(ht:Y.tag = .w4)(hat:ZQ X.k X.T X.n X.cs .w4 Y.d0 a):Z0U X Y gs w sl t 0:=by
 obtain⟨m1,m2,m3⟩:=C.mode.fi (by rw[ht];trivial);have l2:=(Y0.1 C.sh.wg).1;obtain⟨hd,a',hgo,hq⟩:=Zm5 (m:=true) (w:=w) hok.wok C.sh hat m2;have hL:DLst X.K.Wg 1 #[⟨.cell ⟨X.K.Wg,0,none⟩,false,true⟩]:=.rd 0 Nat.one_pos;exact C.cstop hok h0 (tag':=.my) hgo (Eff.nil C.sh (OsLater.refl _) rfl rfl) rfl rfl rfl (by rw[ht];rfl) trivial (by rw[m2,m3];exact .fin (tag:=.my) trivial m1) (hL.evM (.inr rfl) l2) (by rw[hd,hL.deaf];exact hq) (λc hc=>hc.elim) (λ_ c hc=>hc.elim) (by rw[ht];simp only[phi];omega)
end
end Lift
namespace Lift
open Go Go.Conc Ev
open Mx
open Go.ConcM (OsLater woken_by_blocked quitsD_running)
open Go.ConcN (upd upd_ne upd_same sumTo sumTo_upd)
variable[Jk]
section
variable{F:Array Func}{G:FuncId->Prop}{X:Ph}{Y Y':Da}{gs:Array Goroutine}{w w':World}{t:Trace}{a a':Goroutine}{sl:Option (Nat×Nat)}{es:Array Event}{i L x d:Nat}
def Job(F:Array Func)(G:FuncId->Prop)(X:Ph)(x:Nat):Prop:=
 ∃(gf:FuncId) (xs ys:Array Value) (r:Ren) (v:World) (R:Ending->World->Prop),(∀L,(cW3 {X.k with L:=L,lamp:=x}).cal PP=some (gf,ys))/\G gf/\VRs r xs ys/\WH (Iv PP F) r v X.wS /\
  (∀b c,r b=some c->Shut v b/\c≠X.K.Mu/\c≠X.K.Wg/\c≠X.K.Fd/\¬X.D c/\c≠X.k.I/\c≠X.k.B)/\(∀e u T,R e (re u T)->R e u)/\(∀e u,R e u->e = .returned (.bool (X.β x)))/\∀T,Calls (PF PP F) gf xs (re v T) R
theorem Wrk.re(h:Wrk X Y x d a w)(e1:Y'.ws x=Y.ws x)(e2:Y'.h x=Y.h x)(e3:Y'.Z.O x=Y.Z.O x)(e4:Y'.Z.RO x=Y.Z.RO x)(e5:Y'.Lb x=Y.Lb x)(e6:Y'.q (X.m0+x)=Y.q (X.m0+x))(e7:Y'.ms=Y.ms):Wrk X Y' x d a w:=by
 have ek:X.kx Y'.Lb x=X.kx Y.Lb x:=by unfold Ph.kx;rw[e5]
 unfold Wrk at h⊢;rw[e1,e2,e3,e4,e6,ek,e7];exact h
theorem Ci.go(C:Ci X Y gs w t)(hok:PhOk X)(S:Strip PP F (CodeOk PP false) G)(hg:GOk PP F G)(hrec:Rec PP)(h0:gs[0]?=some a)(J:Job F G X i)(ht:Y.tag = .mg i L)(hat:ZQ X.k X.T X.n X.cs (.mg i L) Y.d0 a):Z0U X Y gs w sl t 0:=by
 obtain⟨gf,xs,ys,r,v,R,jcal,jG,jv,jw,jn,jR,jb,jC⟩:=J;have hm0:=hok.m0;have htok:=C.tok;have hzj:=C.zj;obtain⟨m1,m2,m3,m4⟩:=C.mode.op (by rw[ht];trivial);rw[ht]at htok m3 hzj;have hin:i<X.n:=htok;have hij:Y.Z.j=i:=hzj;have hcur:curL Y.tag L:=by rw[ht];rfl
 have hb:=Z59 C hcur;obtain⟨b1,b2,z,TT,b3,b4⟩:=C.lmp L hcur;have hz:z=qw (i:Int):=by rw[b4 (λi' L' e=>by rw[ht]at e;cases e),hij]
 subst hz;have Sp:=C.sep;have l1:=(Y0.1 C.sh.mu).1;have hno:Y.ws i = .no:=C.no i (by omega)
 -- the blocks of the new worker
 let Oi:Nat->Prop:=λc=>(∃b,r b=some c)\/c=X.k.I\/c=X.k.B\/c=L
 have hold:∀c,(∃b,r b=some c)->c<X.wS.heap.size:=λc ⟨b,hb⟩=>by
  obtain⟨o,o',_,h2,_⟩:=jw.on b c hb;exact(Y0.1 h2).1
 have hIl:X.k.I<X.wS.heap.size:=by obtain⟨T,fz,e⟩:=hok.isB;exact(Y0.1 e).1
 have hBl:X.k.B<X.wS.heap.size:=by obtain⟨T,fz,e⟩:=hok.fdB;exact(Y0.1 e).1
 have hOold:∀c,Oi c->c<X.wS.heap.size\/c=L:=by
  rintro c (h | h | h | h)
  ·exact .inl (hold c h)
  ·subst h;exact .inl hIl
  ·subst h;exact .inl hBl
  ·exact .inr h
 have hOsh:∀c,Oi c->c≠X.K.Mu/\c≠X.K.Wg/\c≠X.K.Fd/\¬X.D c:=by
  rintro c (⟨b,h⟩ | h | h | h)
  ·have:=jn b c h
   exact⟨this.2.1,this.2.2.1,this.2.2.2.1,this.2.2.2.2.1⟩
  ·subst h;exact hok.iO
  ·subst h;exact hok.bO
  ·subst h
   exact⟨hb.2.1,hb.2.2.1,hb.2.2.2.1,λhd=>by have:=hok.dlow _ hd;have:=hb.1;omega⟩
 have hOl:∀c,Oi c->c<w.heap.size:=λc hc=>by
  rcases hOold c hc with h | h
  ·exact Y8 h C.grow
  ·subst h;exact b2
 have hkept:∀c,Oi c->c<X.wS.heap.size->w.heap[c]?=X.wS.heap[c]?:=λc hc hl=>C.kept c hl (hOsh c hc).1 (hOsh c hc).2.1 (hOsh c hc).2.2.1;have hIk:w.heap[X.k.I]?=X.wS.heap[X.k.I]?:=hkept _ (.inr (.inl rfl)) hIl;have hBk:w.heap[X.k.B]?=X.wS.heap[X.k.B]?:=hkept _ (.inr (.inr (.inl rfl))) hBl;have W:=hok.ok (upd Y.Lb i L) i hin;have ek:X.kx (upd Y.Lb i L) i={X.k with L:=L,lamp:=i}:=by unfold Ph.kx;rw[upd_same]
 rw[ek]at W
 -- the worker's stretch
 have hWH:WH (Iv PP F) r v w:=⟨λb c hb=>by
  rw[hkept c (.inl ⟨b,hb⟩) (hold c ⟨b,hb⟩)];exact jw.on b c hb,jw.inj,jw.env.trans (Z1c C.os).symm⟩
 have hbi:Bi {X.k with L:=L,lamp:=i} w:=⟨by rw[hIk];exact hok.isB,by rw[hBk];exact hok.fdB,⟨TT,(0,0),b3⟩⟩;have hWT:=Z8K (RO:=Oi) (O:=Oi) (U:=λc=>c=X.k.I\/c=X.k.B\/c=L) S hg hrec W C.sh hbi (λc=>Iff.rfl) (λc hc=>.inr hc) ⟨λh=>(hOsh _ h).1 rfl,λh=>(hOsh _ h).2.1 rfl,λh=>(hOsh _ h).2.2.1 rfl⟩ (jcal L) jG jv hWH ⟨λb c hb=>.inl ⟨b,hb⟩,λb c hb _=>(jn b c hb).1⟩
  ⟨hOl,λc hc=>⟨hOl c (.inr hc),λb hb=>by
   have:=jn b c hb
   rcases hc with h | h | h
   ·exact this.2.2.2.2.2.1 h
   ·exact this.2.2.2.2.2.2 h
   ·have:=hold c ⟨b,hb⟩
    omega⟩⟩ jR jb jC
 obtain⟨hgt,hhx⟩:=hWT.height;obtain⟨hd,a',hgo,q,hq⟩:=ZlX (m:=true) (w:=w) hok.wok C.sh hat hin hok.n3;have hrun:=runT_crowd_spawn (P:=PP) (sl:=sl) (i:=0) h0 (show stepG PP (0==0) a w=_ from hgo);have hct:∀c,¬curL (if i+1<X.n then CT.ma (i+1) else .w1) c:=λc h=>by
  split at h<;>exact h
 have hlt:0<gs.size:=(Y0.1 h0).1;have hsz:=C.size;generalize htag:(if i+1<X.n then CT.ma (i+1) else .w1)=tag' at hq hct;have hjt:tagJ X.n tag'=i+1:=by
  subst htag
  split
  ·rfl
  ·show X.n=i+1
   omega
 have htk:Z7I X.n tag':=by
  subst htag
  split
  ·assumption
  ·trivial
 have hop':Zak tag'/\pend tag'=0/\∀v,tag' ≠ .w2 v:=by
  subst htag
  split
  ·exact⟨trivial,rfl,λv e=>by cases e⟩
  ·exact⟨trivial,rfl,λv e=>by cases e⟩
 have hphi:phi X.n (vsum Y.ws+1) tag'<phi X.n (vsum Y.ws) Y.tag:=by
  have:=Z9H C hok;have:=hok.n3;subst htag;rw[ht]
  split<;>simp only[phi]<;>omega
 have hL3:i<3:=by have:=hok.n3;omega
 have hget:∀k,k≠0->k<gs.size->((gs.setIfInBounds 0 a').push (born PP (task {X.k with L:=L})))[k]?=gs[k]?:=λk hk hkl=>by
  rw[Array.getElem?_push,if_neg (by simp;omega),Yq (Ne.symm hk)]
 have hops:(((MemOp.ofEvents 0 a.frame.fn a.frame.place #[]).push {g:=0,fn:=a.frame.fn,pos:=a.frame.place,act:=.go gs.size}).push {g:=gs.size,fn:=(born PP (task {X.k with L:=L})).frame.fn,pos:=a.frame.place,act:=.start})=#[{g:=0,fn:=a.frame.fn,pos:=a.frame.place,act:=.go gs.size},{g:=gs.size,fn:=(born PP (task {X.k with L:=L})).frame.fn,pos:=a.frame.place,act:=.start}]:=by
  rw[ofEvents_eq];simp
 rw[hops]at hrun;generalize hxo:({g:=0,fn:=a.frame.fn,pos:=a.frame.place,act:=.go gs.size}:MemOp)=xo at hrun;generalize hyo:({g:=gs.size,fn:=(born PP (task {X.k with L:=L})).frame.fn,pos:=a.frame.place,act:=.start}:MemOp)=yo at hrun;have hx1:xo.g=0/\xo.act = .go (Y.Z.m0+Y.Z.j):=by subst hxo;exact⟨rfl,by rw[C.zm,<-hsz]⟩
 have hy1:yo.g=Y.Z.m0+Y.Z.j/\yo.act = .start:=by subst hyo;exact⟨by rw[C.zm,<-hsz],rfl⟩
 have hdf:∀g,Deaf (t++#[xo,yo]) g=Deaf t g:=by
  intro g;have e:t++#[xo,yo]=(t++#[xo])++#[yo]:=by apply Array.ext';simp
  rw[e,Deaf_push,Deaf_push];simp only[deafStep,hx1.2,hy1.2]
 let Y':Da:={Y with tag:=tag',ws:=upd Y.ws i (.mx (bif X.β i then L0 else OUT) 0),Lb:=upd Y.Lb i L,Z:={m0:=Y.Z.m0,j:=Y.Z.j+1,O:=upd Y.Z.O i Oi,RO:=upd Y.Z.RO i Oi,Om:=curL tag'},h0:=q,h:=upd Y.h i hgt,d0:=0}
 have S':Sep X.K X.D Y'.Z:=by
  refine⟨λk c hk hc=>?_,λk k' c hk hk' hne hc hc'=>?_,λc hc=>absurd hc (hct c),Sp.fd⟩
  ·have hc:upd Y.Z.O i Oi k c:=hc
   by_cases hki:k=i
   ·subst hki
    rw[upd_same]at hc;have:=hOsh c hc;exact⟨this.1,this.2.1,this.2.2.1,this.2.2.2,hct c⟩
   ·rw[upd_ne _ _ hki]at hc
    have hk:k<Y.Z.j+1:=hk;have:=Sp.shared k c (by omega) hc;exact⟨this.1,this.2.1,this.2.2.1,this.2.2.2.1,hct c⟩
  ·have c1:upd Y.Z.O i Oi k c:=hc
   have c2:upd Y.Z.O i Oi k' c:=hc';have hk:k<Y.Z.j+1:=hk;have hk':k'<Y.Z.j+1:=hk';show upd Y.Z.RO i Oi k c/\upd Y.Z.RO i Oi k' c;have one:∀k,k<Y.Z.j+1->k≠i->Y.Z.O k c->Oi c->Y.Z.RO k c:=λk hk hki ho hO=>by
    rcases hOold c hO with h | h
    ·exact C.new k c (by omega) h ho
    ·subst h;exact absurd ho (hb.2.2.2.2 k (by omega))
   by_cases hki:k=i
   ·subst hki
    rw[upd_same]at c1⊢;rw[upd_ne _ _ (Ne.symm hne)]at c2⊢;exact⟨c1,one k' hk' (Ne.symm hne) c2 c1⟩
   ·rw[upd_ne _ _ hki]at c1⊢
    by_cases hki':k'=i
    ·subst hki'
     rw[upd_same]at c2⊢;exact⟨one k hk hki c1 c2,c2⟩
    ·rw[upd_ne _ _ hki']at c2⊢
     exact Sp.two k k' c (by omega) (by omega) hne c1 c2
 have kz:Zone Y.Z Y'.Z:=⟨rfl,rfl,λx hx=>upd_ne _ _ (by omega),λx hx=>upd_ne _ _ (by omega)⟩;have hTI0:TI X.K X.D Y.Z w.heap.size X.p0 0 t:=by have:=C.ti;rw[hd]at this;exact this
 have hcode:∀y,(Y'.ws y).code (X.β y)=(Y.ws y).code (X.β y):=λy=>by
  show (upd Y.ws i _ y).code _=_
  by_cases hy:y=i
  ·subst hy;rw[upd_same,hno];rfl
  ·rw[upd_ne _ _ hy]
 have hvs:vsum Y'.ws=vsum Y.ws+1:=by
  have:=Z14 (ws:=Y.ws) (σ:=.mx (bif X.β i then L0 else OUT) 0) WS.cnt hL3;rw[hno]at this;simp only[WS.cnt]at this;show sum3 WS.cnt (upd Y.ws i _)=sum3 WS.cnt Y.ws+1;omega
 have hss:sum3 WS.stg Y'.ws+8=sum3 WS.stg Y.ws+7:=by
  have:=Z14 (ws:=Y.ws) (σ:=.mx (bif X.β i then L0 else OUT) 0) WS.stg hL3;rw[hno]at this;exact this
 refine⟨Y',_,w,_,hrun,?_,?_⟩
 ·refine⟨by simp[Y'];omega,C.zm,by show Y.Z.j+1=_;rw[hjt];omega,htk,λk g hk0 hk hgk=>?_,⟨a',?_,.inl hq⟩,λx hx=>?_,λx hx=>?_,C.sh,C.vmu,C.vms,by rw[hcode,hcode,hcode];exact C.tab,λx hx=>by rw[hcode];exact C.out x hx,C.len,λx hx=>by rw[hcode];exact C.fd x hx,?_,λx hx=>?_,λx c hx hc=>?_,λx c hx hc ho=>?_,λx c hc=>?_,rfl,λc hc=>absurd hc (hct c),S',hTI0.spawn S' kz hx1 hy1,λx hx hs=>?_,C.kept,C.grow,C.os,C.outp⟩
  ·rw[hget k (by omega) (by omega)]at hgk
   rw[hdf];exact C.old k g hk0 hk hgk
  ·rw[Array.getElem?_push,if_neg (by simp;omega),Array.getElem?_setIfInBounds_self_of_lt hlt]
  ·have hx:x<Y.Z.j+1:=hx
   rcases Nat.lt_or_ge x Y.Z.j with hxj | hxj
   ·obtain⟨g,hg,hw⟩:=C.wrk x hxj
    refine⟨g,by rw[hget _ (by omega) (by omega)];exact hg,?_⟩;rw[hdf];exact hw.re (upd_ne _ _ (by omega)) (upd_ne _ _ (by omega)) (upd_ne _ _ (by omega)) (upd_ne _ _ (by omega)) (upd_ne _ _ (by omega)) rfl rfl
   ·obtain rfl:x=i:=by omega
    refine⟨born PP (task {X.k with L:=L}),by rw[Array.getElem?_push,if_pos (by simp;omega)],?_⟩;rw[hdf,C.ti.above _ (by rw[C.zm];omega)];have e1:Y'.ws x = .mx (bif X.β x then L0 else OUT) 0:=upd_same _ _ _;unfold Wrk;rw[e1];dsimp only;refine⟨Zd7 (by cases X.β x<;>decide),.inl ?_⟩;show WTh PP false X.K (upd Y.Z.RO x Oi x) (Z0N (X.kx (upd Y.Lb x L) x) [bot] _ 0) (upd Y.h x hgt x) (upd Y.Z.O x Oi x) 0 _ w;rw[upd_same,upd_same,upd_same,ek];exact hhx
  ·have hx:Y.Z.j+1<=x:=hx
   show upd Y.ws i _ x = .no;rw[upd_ne _ _ (by omega)];exact C.no x (by omega)
  ·rw[m4]
   have:=Mode.opn (ws:=Y'.ws) (tag:=tag') hop'.1 (λx=>?_) (λv e=>absurd e (hop'.2.2 v))
   ·rw[hop'.2.1,hvs]at this
    rw[m3];exact this
   ·by_cases hxi:x=i
    ·subst hxi;exact .inr (.inl ⟨_,_,upd_same _ _ _⟩)
    ·rw[show Y'.ws x=Y.ws x from upd_ne _ _ hxi];exact m1 x
  ·have hx:x<Y.Z.j+1:=hx
   show Bx (X.kx (upd Y.Lb i L) x) (upd Y.Z.RO i Oi x) w/\Off3 X.K (X.kx (upd Y.Lb i L) x)
   by_cases hxi:x=i
   ·subst hxi
    rw[ek,upd_same];exact⟨⟨hbi.found,hbi.lamp,.inr (.inr (.inl rfl)),.inr (.inr (.inr rfl))⟩,⟨⟨hok.bO.1,hok.bO.2.1,hok.bO.2.2.1⟩,⟨hb.2.1,hb.2.2.1,hb.2.2.2.1⟩⟩⟩
   ·have e2:X.kx (upd Y.Lb i L) x=X.kx Y.Lb x:=by unfold Ph.kx;rw[upd_ne _ _ hxi]
    rw[e2,upd_ne _ _ hxi];exact C.bx x (by omega)
  ·have hx:x<Y.Z.j+1:=hx
   have hc:upd Y.Z.O i Oi x c:=hc
   by_cases hxi:x=i
   ·subst hxi;rw[upd_same]at hc;exact hOl c hc
   ·rw[upd_ne _ _ hxi]at hc;exact C.low x c (by omega) hc
  ·have hx:x<Y.Z.j+1:=hx
   have ho:upd Y.Z.O i Oi x c:=ho;show upd Y.Z.RO i Oi x c
   by_cases hxi:x=i
   ·subst hxi;rw[upd_same]at ho⊢;exact ho
   ·rw[upd_ne _ _ hxi]at ho⊢;exact C.new x c (by omega) hc ho
  ·have hc:upd Y.Z.RO i Oi x c:=hc
   show upd Y.Z.O i Oi x c
   by_cases hxi:x=i
   ·subst hxi;rw[upd_same]at hc⊢;exact hc
   ·rw[upd_ne _ _ hxi]at hc⊢;exact C.ro x c hc
  ·have hx:x<Y.Z.j+1:=hx
   have hs:∀c it,upd Y.ws i (.mx (bif X.β i then L0 else OUT) 0) x ≠ .mx c it:=hs
   by_cases hxi:x=i
   ·subst hxi;exact absurd (upd_same _ _ _) (hs _ _)
   ·rw[upd_ne _ _ hxi]at hs
    have:=(C.said x (by omega) hs).keep (u:=#[xo,yo]) λk b hk _ hb'=>?_
    ·exact this
    ·obtain⟨op,hop,hoa⟩:=touch_of hb'
     rcases getElem?_append_cases hop with⟨h,_⟩ | ⟨_,h⟩
     ·omega
     ·simp only[Yb,Yc,Ya,or_false]at h
      rcases h with rfl | rfl
      ·rw[hx1.2]at hoa;cases hoa
      ·rw[hy1.2]at hoa;cases hoa
 ·refine Zbm ?_
  rw[Z1x,Z1x];show phi X.n (vsum Y'.ws) tag'+Y.r+sum3 WS.stg Y'.ws<phi X.n (vsum Y.ws) Y.tag+Y.r+_;rw[hvs];omega
end
end Lift
namespace Lift
open Go Go.Conc Ev
open Mx
open Go.ConcM (OsLater woken_by_blocked quitsD_running)
open Go.ConcN (upd upd_ne upd_same sumTo sumTo_upd)
variable[Jk]
section
variable{F:Array Func}{G:FuncId->Prop}{X:Ph}{Y Y':Da}{gs:Array Goroutine}{w w':World}{t:Trace}{a a' g:Goroutine}{sl:Option (Nat×Nat)}{x d:Nat}{Post:Value->World->Prop}
theorem Wrk.rely(h:Wrk X Y x d a w)(l:Rely X.K (Y.Z.O x) w w'):Wrk X Y x d a w':=by
 unfold Wrk at h⊢
 cases hs:Y.ws x with
 | mx c it =>
  rw[hs]at h;dsimp only at h⊢;exact⟨h.1,h.2.imp (λh=>h.rely l) id⟩
 | _=>rw[hs]at h;exact h
theorem Ci.at (C:Ci X Y gs w t) (d:Nat):Ci X Y gs (w.at d) t:=
  { C with
    cal:=C.cal
    wrk:=λx hx=>let ⟨g,h1,h2⟩:=C.wrk x hx;⟨g,h1,h2.rely ⟨λ_ _=>rfl,Ye _,rfl,λh=>let ⟨s,hs⟩:=h;⟨s,⟨hs.mu,hs.wg,hs.fd⟩⟩⟩⟩
    sh:=⟨C.sh.mu,C.sh.wg,C.sh.fd⟩
    bx := λx hx => let ⟨h1, h2⟩ := C.bx x hx; ⟨⟨h1.found, h1.lamp, h1.ob, h1.ol⟩, h2⟩ }
theorem Wrk.run(h:Wrk X Y x d g w)(h1:∀c it,Y.ws x = .mx c it->¬(isS1 c=true/\Y.ms=0))(h2:Y.ws x ≠ .qt):g.status = .running:=by
 unfold Wrk at h
 cases hs:Y.ws x with
 | no=>rw[hs]at h;exact h.elim
 | mx c it =>
  rw[hs]at h;dsimp only at h
  rcases h.2 with k | ⟨k1,k2,_⟩
  ·exact k.running Z23
  ·exact absurd ⟨k1,k2⟩ (h1 c it hs)
 | d1=>rw[hs]at h;exact Z0p h
 | d2=>rw[hs]at h;exact Z0p h
 | d3=>rw[hs]at h;exact Z0p h
 | d4=>rw[hs]at h;exact Z0p h
 | qt=>exact absurd hs h2
theorem Wrk.awake(h:Wrk X Y x d g w):awake g:=by
 unfold Wrk at h;intro t
 cases hs:Y.ws x with
 | no=>rw[hs]at h;exact h.elim
 | mx c it =>
  rw[hs]at h;dsimp only at h
  rcases h.2 with k | ⟨_,_,k,_⟩
  ·rw[k.running Z23];simp
  ·rw[k];simp
 | d1=>rw[hs]at h;rw[Z0p h];simp
 | d2=>rw[hs]at h;rw[Z0p h];simp
 | d3=>rw[hs]at h;rw[Z0p h];simp
 | d4=>rw[hs]at h;rw[Z0p h];simp
 | qt =>
  rw[hs]at h;dsimp only at h
  rcases h.status with k | k<;>rw[k]<;>simp
theorem Cal.awake(h:Cal X Y a w):awake a:=by
 intro t
 rcases h with h | ⟨_,_,h,_⟩
 ·rw[Z5u h];simp
 ·rw[h];simp
theorem Ci.awake(C:Ci X Y gs w t)(hok:PhOk X):∀g∈gs,Go.Conc.awake g:=by
 intro g hg;obtain⟨i,hi,rfl⟩:=Array.mem_iff_getElem.1 hg;have hgi:gs[i]?=some gs[i]:=Y2 hi;have hm0:=hok.m0
 rcases Nat.eq_zero_or_pos i with h0 | h0
 ·subst h0
  obtain⟨a,ha,hc⟩:=C.cal;rw[hgi]at ha;obtain rfl:=Y1 ha;exact hc.awake
 ·rcases Nat.lt_or_ge i X.m0 with h1 | h1
  ·have:=C.old i _ h0 h1 hgi
   intro t
   rcases this.status with k | k<;>rw[k]<;>simp
  ·have hx:i-X.m0<Y.Z.j:=by have:=C.size;omega
   obtain⟨g,hg',hw⟩:=C.wrk _ hx;rw[show X.m0+(i-X.m0)=i by omega,hgi]at hg';obtain rfl:=Y1 hg';exact hw.awake
theorem Ci.runs(C:Ci X Y gs w t)(hok:PhOk X):∃(i:Nat) (g:Goroutine),gs[i]?=some g/\g.status = .running:=by
 obtain⟨a,ha,hc⟩:=C.cal
 rcases hc with h | ⟨h1,h2,_⟩
 ·exact⟨0,a,ha,Z5u h⟩
 have hm:=C.mode;have hzj:=C.zj;rw[h1]at hm hzj;have hjn:Y.Z.j=X.n:=hzj;have wk:∀x,x<Y.Z.j->(∀c it,Y.ws x = .mx c it->¬(isS1 c=true/\Y.ms=0))->Y.ws x ≠ .qt->∃(i:Nat) (g:Goroutine),gs[i]?=some g/\g.status = .running:=λx hx k1 k2=>by
  obtain⟨g,hg,hw⟩:=C.wrk x hx;exact⟨_,g,hg,hw.run k1 k2⟩
 have inj:∀x,Y.ws x ≠ .no->x<Y.Z.j:=λx hx=>by
  rcases Nat.lt_or_ge x Y.Z.j with h | h
  ·exact h
  ·exact absurd (C.no x h) hx
 have key:1<=vsum Y.ws->Ziq Y.ws->∃(i:Nat) (g:Goroutine),gs[i]?=some g/\g.status = .running:=by
  intro hv ho
  -- one that is out of the lock,or one that may move
  have one:∀x,x<3->sticks ((Y.ws x).code (X.β x)) Y.ms=false->∃(i:Nat) (g:Goroutine),gs[i]?=some g/\g.status = .running:=by
   intro x hx3 hst;unfold sticks at hst;simp only[Bool.or_eq_false_iff]at hst;have hne:(Y.ws x).code (X.β x)≠OUT:=λe=>by rw[e]at hst;cases hst.1
   have hxj:x<Y.Z.j:=by
    rcases Nat.lt_or_ge x Y.Z.j with h | h
    ·exact h
    ·exact absurd (C.out x (hok.βn x (by omega))) hne
   refine wk x hxj (λc it e=>?_) λe=>?_
   ·rw[e]at hst
    have h:=hst.2;show ¬(isS1 c=true/\Y.ms=0);rintro⟨k1,k2⟩;have h':(isS1 c&&Nat.beq Y.ms 0)=false:=h;rw[k1,k2]at h'
    cases h'
   ·rw[e]at hne;exact hne rfl
  have ent:=(Z4O C.tab).2.1
  cases s0:sticks ((Y.ws 0).code (X.β 0)) Y.ms
  ·exact one 0 (by omega) s0
  cases s1:sticks ((Y.ws 1).code (X.β 1)) Y.ms
  ·exact one 1 (by omega) s1
  cases s2:sticks ((Y.ws 2).code (X.β 2)) Y.ms
  ·exact one 2 (by omega) s2
  obtain⟨o0,o1,o2⟩:=ent s0 s1 s2;have hcs:∃x,x<3/\(Y.ws x).cnt=1/\(Y.ws x).code (X.β x)=OUT:=by
   have cn:∀y,(Y.ws y).cnt<=1:=λy=>by cases Y.ws y<;>simp[WS.cnt]
   have:=cn 0;have:=cn 1;have:=cn 2;unfold vsum at hv
   by_cases k0:(Y.ws 0).cnt=1
   ·exact⟨0,by omega,k0,o0⟩
   by_cases k1:(Y.ws 1).cnt=1
   ·exact⟨1,by omega,k1,o1⟩
   ·exact⟨2,by omega,by omega,o2⟩
  obtain⟨x,hx3,hc,hcode⟩:=hcs;refine wk x (inj x λe=>by rw[e]at hc;cases hc) (λc it e=>?_) λe=>by rw[e]at hc;cases hc
  rw[e]at hcode;have hcode:c=OUT:=hcode;subst hcode;rintro⟨k1,_⟩;revert k1
  decide
 generalize hp:Y.s.wg=p at hm;generalize hq:Y.s.ws=q at hm h2
 cases hm with
 | opn k=>exact k.elim
 | reg _ k2 k3=>exact key k3 k2
 | last L _ k2 k3 _ =>
  refine wk L (inj L λe=>by rw[e]at k3;rcases k3 with k | k<;>cases k) (λc it e=>by rw[e]at k3;rcases k3 with k | k<;>cases k) λe=>by rw[e]at k3;rcases k3 with k | k<;>cases k
 | last4 L _ k2 k3 _=>exact wk L (inj L λe=>by rw[e]at k3;cases k3) (λc it e=>by rw[e]at k3;cases k3) λe=>by rw[e]at k3;cases k3
 | sema _ k2=>cases h2
 | fin k=>exact k.elim
def Fin(X:Ph)(Post:Value->World->Prop):Prop:=∀(w':World) (tag:CT) (x:Value) (u:Nat->Value) (f:Frame) (fs:List Frame) (s:Sh),tag = .my\/tag = .mq->SOk ((plM X.k X.T X.n x u tag).an (.tuple #[])).top ((plM X.k X.T X.n x u tag).an (.tuple #[])).rest f fs ->
 (∀c,c<X.wS.heap.size->c≠X.K.Mu->c≠X.K.Wg->c≠X.K.Fd->w'.heap[c]?=X.wS.heap[c]?)->X.wS.heap.size<=w'.heap.size->OsLater X.wS.os w'.os->w'.output=X.wS.output->ShAt X.K w' s->s.fd.length=X.n->(∀x,x<X.n->s.fd[x]?=some (X.β x)) ->
 Sure PP Post (λc=>X.D c\/c=X.K.Mu\/c=X.K.Wg) (run1 f (fs++X.cs)) w'
theorem Ci.end(C:Ci X Y gs w t)(hok:PhOk X)(hf:Fin X Post)(h0:gs[0]?=some a)(ht:Y.tag = .my\/Y.tag = .mq)(hat:ZQ X.k X.T X.n X.cs Y.tag Y.d0 a){m0:Machine}(hst:stepT PP m0=runT PP (crowd gs w sl) 0):Run PP Post m0 t:=by
 have hm0:=hok.m0;obtain⟨hd,x,u,f,fs,hgo,hk⟩:=ZkL (m:=true) (w:=w) hok.wok C.sh ht hat
 obtain⟨m1,_,_⟩:=C.mode.fi (by rcases ht with h | h<;>rw[h]<;>trivial);have hq:∀y,y<Y.Z.j->Y.ws y = .qt:=λy hy=>by
  rcases m1 y with e | e
  ·obtain⟨g,_,hw⟩:=C.wrk y hy
   unfold Wrk at hw;rw[e]at hw;exact hw.elim
  ·exact e
 have hjn:Y.Z.j=X.n:=by rcases ht with h | h<;>(have:=C.zj;rw[h]at this;exact this)
 have l2:=(Y0.1 C.sh.wg).1;have hlt:0<gs.size:=(Y0.1 h0).1;have hrun:=runT_crowd_go (P:=PP) (sl:=sl) (i:=0) h0 (show stepG PP (0==0) a w=_ from hgo);have hti:TI X.K X.D Y.Z w.heap.size X.p0 0 t:=by have:=C.ti;rw[hd]at this;exact this
 have hP:=hti.join (λy hy=>C.said y hy λc it e=>by rw[hq y hy]at e;cases e) l2 (fn:=a.frame.fn) (pos:=a.frame.place);have hL:Leavers PP t gs Y.q:=by
  refine⟨λi g hi hg=>?_,λj hj=>C.ti.above j (by rw[C.zm];have:=C.size;omega)⟩
  rcases Nat.lt_or_ge i X.m0 with h1 | h1
  ·exact C.old i g hi h1 hg
  ·have hx:i-X.m0<Y.Z.j:=by
    have:=(Y0.1 hg).1;have:=C.size;omega
   obtain⟨g',hg',hw⟩:=C.wrk _ hx;rw[show X.m0+(i-X.m0)=i by omega,hg]at hg';obtain rfl:=Y1 hg';unfold Wrk at hw;rw[hq _ hx,show X.m0+(i-X.m0)=i by omega]at hw;exact hw
 have hfd:∀y,y<X.n->Y.s.fd[y]?=some (X.β y):=λy hy=>by
  rw[C.fd y hy,hq y (by omega)];show some (X.β y&&pst OUT)=_;rw[show pst OUT=true from rfl,Bool.and_true]
 have hS:=hf w Y.tag x u f fs Y.s ht hk C.kept C.grow C.os C.outp C.sh C.len hfd;exact Run.next (hst.trans hrun) (hS w (Like.refl w) _ sl _ Y.q (Z2V hlt) (Z35 hlt hL) hP)
theorem phase(hok:PhOk X)(S:Strip PP F (CodeOk PP false) G)(hg:GOk PP F G)(hrec:Rec PP)(J:∀x,x<X.n->Job F G X x)(hf:Fin X Post):∀(M:Mt) (Y:Da) (gs:Array Goroutine) (w:World) (sl:Option (Nat×Nat)) (t:Trace),mea X Y gs=M->Ci X Y gs w t->Run PP Post (crowd gs w sl) t:=by
 intro M
 induction M using Zl0.induction with
 | _ M ih =>
 intro Y gs w sl t hM C;subst hM;have hm0:=hok.m0;obtain⟨i,g,d,sl',hi,hr,hst⟩:=crowd_pick (P:=PP) (w:=w) (sl:=sl) (C.awake hok) (C.runs hok);have C':=C.at d;have mv:Z0U X Y gs (w.at d) sl' t i->Run PP Post (crowd gs w sl) t:=by
  rintro⟨Y',gs',w',ops,e,C2,hlt⟩;exact Run.next (hst.trans e) (ih _ hlt Y' gs' w' sl' _ rfl C2)
 rcases Nat.eq_zero_or_pos i with h0 | h0
 ·subst h0
  obtain⟨a,ha,hc⟩:=C'.cal;rw[hi]at ha;obtain rfl:=Y1 ha
  rcases hc with hc | ⟨_,_,hb,_⟩
  ·have stop:ZQ X.k X.T X.n X.cs Y.tag Y.d0 g->Run PP Post (crowd gs w sl) t:=by
    intro hat
    cases ht:Y.tag with
    | ma i=>rw[ht]at hat;exact mv (Zlm C' hok hi ht hat)
    | ms i L=>rw[ht]at hat;exact mv (Zlp C' hok hi ht hat)
    | md i L=>rw[ht]at hat;exact mv (Zln C' hok hi ht hat)
    | mr i L=>rw[ht]at hat;exact mv (Zlo C' hok hi ht hat)
    | mg i L =>
     have htok:=C.tok;rw[ht]at hat htok;exact mv (C'.go hok S hg hrec hi (J i htok) ht hat)
    | w1=>rw[ht]at hat;exact mv (Zlr C' hok hi ht hat)
    | w2 v=>rw[ht]at hat;exact mv (Zls C' hok hi ht hat)
    | mx v=>rw[ht]at hat;exact mv (Zlq C' hok hi ht hat)
    | w3=>rw[ht]at hat;exact mv (Zlt C' hok hi ht hat)
    | w4=>rw[ht]at hat;exact mv (Zlu C' hok hi ht hat)
    | my=>exact C'.end hok hf hi (.inl ht) hat hst
    | mq=>exact C'.end hok hf hi (.inr ht) hat hst
   cases hq:Y.h0 with
   | zero=>rw[hq]at hc;exact stop hc
   | succ q =>
    rw[hq]at hc
    rcases hc with hc | ⟨_,g',es,hm,hgo,hc⟩
    ·exact stop hc
    ·exact mv (C'.cquiet hok hi (q:=q) (by rw[hq];exact Nat.lt_succ_self q) hm (hgo _ ⟨_,C'.sh⟩) hc)
  ·rw[hb]at hr;cases hr
 ·rcases Nat.lt_or_ge i X.m0 with h1 | h1
  ·exact mv (C'.leave hok h0 h1 hi hr)
  ·have hx:i-X.m0<Y.Z.j:=by
    have:=(Y0.1 hi).1;have:=C.size;omega
   have e:X.m0+(i-X.m0)=i:=by omega
   have:=C'.work (sl:=sl') hok hx (by rw[e];exact hi) hr;rw[e]at this;exact mv this
end
end Lift
namespace Lift
open Go Go.Conc Ev
open Mx
open Go.ConcM (OsLater woken_by_blocked quitsD_running)
open Go.ConcN (upd upd_ne upd_same sumTo sumTo_upd)
variable[Jk]
def pnq(P:Program)(X:Xt):Nat->St->Bool
 | 0,_=>true
 | n+1,s=>match pmove P X s.top s.rest with
  | some m=>(match m.ev with | .none=>true | _=>false)&&pnq P X n (s.upd m)
  | none=>true
section
variable{F:Array Func}{G:FuncId->Prop}{X:Ph}{w w':World}{Post:Value->World->Prop}{D:Nat->Prop}{f:Frame}{fs cs:List Frame}{k:Wk}{T:Nat->Value}{n:Nat}{x:Value}{u:Nat->Value}
theorem Sure.pn{X:Xt}(hX:XOk PP X):∀(n:Nat) (st:St) {f:Frame} {fs:List Frame},SOk st.top st.rest f fs->pnq PP X n st=true->(pn PP X n st).cvs=[] ->
  (∀f' fs',SOk (pn PP X n st).top (pn PP X n st).rest f' fs'->Sure PP Post D (run1 f' (fs'++cs)) w)->Sure PP Post D (run1 f (fs++cs)) w
 | 0,st,f,fs,h,hq,hc,k=>k f fs h
 | n+1,st,f,fs,h,hq,hc,k=>by
  unfold Ev.pn at hc k;unfold pnq at hq
  cases e:pmove PP X st.top st.rest with
  | none=>rw[e]at k;exact k f fs h
  | some mv =>
   rw[e]at hc k hq;dsimp only at hc k hq;rw[Y5]at hq;obtain⟨q1,q2⟩:=hq;obtain⟨f',fs',h',hs⟩:=pmove_ok (cs:=cs) hX h e;obtain⟨m1,_⟩:=pn_mono PP X n (st.upd mv);have hps:mv.ps=[]:=by
    cases hp:mv.ps with
    | nil=>rfl
    | cons a l =>
     have:=m1 a (List.mem_append_left _ (by rw[hp];simp));rw[hc]at this
     cases this
   have hev:mv.ev = .none:=by
    cases hv:mv.ev<;>rw[hv]at q1<;>first | rfl | cases q1
   have hgo:=Sure.pn hX n (st.upd mv) h' q2 hc k;refine Sure.step rfl λw1 hl=>⟨_,w1,_,hs true w1 (by rw[hps];simp),?_,by rw[hl.1];exact Ye _,hgo.like hl⟩;rw[hev];simp[XEv.es]
theorem q_y:pnq PP xtQ 200 ((cMy k T n n x u).an (.tuple #[]))=true:=by kernel_rfl
theorem q_q:pnq PP xtQ 200 ((cMq k T n n x u).an (.tuple #[]))=true:=by kernel_rfl
def Z7Q(X:Ph)(Post:Value->World->Prop):Prop:=∀(w':World) (x:Value) (u:Nat->Value) (f:Frame) (fs:List Frame) (s:Sh),SOk (cMf X.k X.T X.n X.n x u).top (cMf X.k X.T X.n X.n x u).rest f fs ->
 (∀c,c<X.wS.heap.size->c≠X.K.Mu->c≠X.K.Wg->c≠X.K.Fd->w'.heap[c]?=X.wS.heap[c]?)->X.wS.heap.size<=w'.heap.size->OsLater X.wS.os w'.os->w'.output=X.wS.output->ShAt X.K w' s->s.fd.length=X.n->(∀x,x<X.n->s.fd[x]?=some (X.β x)) ->
 Sure PP Post (λc=>X.D c\/c=X.K.Mu\/c=X.K.Wg) (run1 f (fs++X.cs)) w'
theorem Z7Q.fin(h:Z7Q X Post):Fin X Post:=by
 intro w' tag x u f fs s ht hk h1 h2 h3 h4 h5 h6 h7
 rcases ht with rfl | rfl
 ·have e:=m_y X.k X.T X.n X.n x u
  unfold edg at e;simp only[Y9]at e;obtain⟨_,e2,e3,_⟩:=e;refine Sure.pn xokQ 200 _ hk q_y e3 λf' fs' h'=>?_;have h2':=Z32 h' A42 [];have e2':=e2;rw[show plM X.k X.T X.n x u .my=cMy X.k X.T X.n X.n x u from rfl,e2']at h2';exact h w' x u f' fs' s h2' h1 h2 h3 h4 h5 h6 h7
 ·have e:=m_q X.k X.T X.n X.n x u
  unfold edg at e;simp only[Y9]at e;obtain⟨_,e2,e3,_⟩:=e;refine Sure.pn xokQ 200 _ hk q_q e3 λf' fs' h'=>?_;have h2':=Z32 h' A42 [];have e2':=e2;rw[show plM X.k X.T X.n x u .mq=cMq X.k X.T X.n X.n x u from rfl,e2']at h2';exact h w' x u f' fs' s h2' h1 h2 h3 h4 h5 h6 h7
def Ph.re(X:Ph)(m0 p0:Nat)(w1:World):Ph:={X with m0:=m0,p0:=p0,wS:=w1}
theorem Sure.phase(hok:PhOk X)(S:Strip PP F (CodeOk PP false) G)(hg:GOk PP F G)(hrec:Rec PP)(J:∀x,x<X.n->Job F G X x)(hb:Z7Q X Post)
  (hfd:X.K.Fd≠X.K.Mu/\X.K.Fd≠X.K.Wg/\¬X.D X.K.Fd) (hsh:ShAt X.K X.wS ⟨0,0,0,0,List.replicate X.n false⟩) (h:SOk (sM X.k X.T X.n).top (sM X.k X.T X.n).rest f fs):Sure PP Post X.D (run1 f (fs++X.cs)) X.wS:=by
 intro w1 hl gs sl t q h0 hL hP;have hlt:0<gs.size:=(Y0.1 h0).1;have hX1:PhOk (X.re gs.size t.size w1):=⟨hok.n3,hlt,hok.ok,hok.wok,hok.kn,hok.βn,λc hc=>by show c<w1.heap.size;rw[hl.1];exact hok.dlow c hc,by show ∃T fz,w1.heap[X.k.I]?=_;rw[hl.1];exact hok.isB,by show ∃T fz,w1.heap[X.k.B]?=_;rw[hl.1];exact hok.fdB,hok.iO,hok.bO⟩;have hJ:∀x,x<X.n->Job F G (X.re gs.size t.size w1) x:=λx hx=>by
  obtain⟨gf,xs,ys,r,v,R,j1,j2,j3,j4,j5,j6,j7,j8⟩:=J x hx;exact⟨gf,xs,ys,r,v,R,j1,j2,j3,j4.of rfl hl.1 (by show v.os.env=w1.os.env;rw[hl.2.1];exact j4.env),j5,j6,j7,j8⟩
 have hB:Z7Q (X.re gs.size t.size w1) Post:=λw' x u f fs s k1 k2 k3 k4 k5 k6 k7 k8=>by
  refine hb w' x u f fs s k1 (λc h1 h2 h3 h4=>?_) ?_ ?_ ?_ k6 k7 k8
  ·have:=k2 c (by show c<w1.heap.size;rw[hl.1];exact h1) h2 h3 h4
   rw[this];show w1.heap[c]?=_;rw[hl.1]
  ·have k3:w1.heap.size<=w'.heap.size:=k3
   rw[hl.1]at k3;exact k3
  ·have k4:OsLater w1.os w'.os:=k4
   rw[hl.2.1]at k4;exact k4
  ·have k5:w'.output=w1.output:=k5
   rw[hl.2.2]at k5;exact k5
 obtain⟨q0,hq0⟩:=ZfW (m:=true) (K:=X.K) (cs:=X.cs) h;obtain⟨r,hr⟩:=Option.isSome_iff_exists.1 (Zfc (X.β 0) (X.β 1) (X.β 2));have hct:∀c,¬curL (if 0<X.n then CT.ma 0 else .w1) c:=λc h=>by
  split at h<;>exact h
 generalize htag:(if 0<X.n then CT.ma 0 else .w1)=tag at hq0 hct;have hjt:tagJ X.n tag=0:=by
  subst htag
  split
  ·rfl
  ·show X.n=0
   omega
 have htk:Z7I X.n tag:=by
  subst htag
  split
  ·assumption
  ·trivial
 have hop:Zak tag/\pend tag=0/\∀v,tag ≠ .w2 v:=by
  subst htag
  split
  ·exact⟨trivial,rfl,λv e=>by cases e⟩
  ·exact⟨trivial,rfl,λv e=>by cases e⟩
 have hC:Ci (X.re gs.size t.size w1) {tag:=tag,ws:=λ_=>.no,Lb:=λ_=>0,Z:=⟨gs.size,0,λ_ _=>False,λ_ _=>False,curL tag⟩,h0:=q0,h:=λ_=>.leaf,q:=q,d0:=0,r:=r,mu:=0,ms:=0,s:=⟨0,0,0,0,List.replicate X.n false⟩} gs w1 t:=by
  refine⟨rfl,rfl,hjt.symm,htk,λi g h1 _ hg=>hL.old i g h1 hg,⟨_,h0,.inl hq0⟩,λx hx=>absurd hx (Nat.not_lt_zero _),λ_ _=>rfl,⟨by rw[hl.1];exact hsh.mu,by rw[hl.1];exact hsh.wg,by rw[hl.1];exact hsh.fd⟩,rfl,rfl,hr,λx hx=>?_,by simp[Ph.re],λx hx=>?_,?_,λx hx=>absurd hx (Nat.not_lt_zero _),λx c hx=>absurd hx (Nat.not_lt_zero _),λx c hx=>absurd hx (Nat.not_lt_zero _),λx c h=>h.elim,rfl,λc hc=>absurd hc (hct c),?_,?_,λx hx=>absurd hx (Nat.not_lt_zero _),λc _ _ _ _=>rfl,Ye _,OsLater.refl _,rfl⟩
  ·show (bif X.β x then L0 else OUT)=OUT
   have hx:X.β x=false:=hx;rw[hx];rfl
  ·have hx:x<X.n:=hx
   show (List.replicate X.n false)[x]?=some (X.β x&&pst (bif X.β x then L0 else OUT));rw[List.getElem?_replicate,if_pos hx]
   cases X.β x<;>rfl
  ·have:=Mode.opn (ws:=λ_=>WS.no) (tag:=tag) hop.1 (λx=>.inl rfl) (λv e=>absurd e (hop.2.2 v))
   rw[hop.2.1]at this;exact this
  ·exact⟨λi c hi=>absurd hi (Nat.not_lt_zero _),λi i' c hi=>absurd hi (Nat.not_lt_zero _),λc hc=>absurd hc (hct c),hfd⟩
  ·have:=TI.begin (K:=X.K) (hP.mono (B':=w1.heap.size) (by rw[hl.1];exact Ye _)) hlt hL.above (λ_ _=>False) (λ_ _=>False) (curL tag)
   exact this
 exact Lift.phase hX1 S hg hrec hJ hB.fin _ _ gs w1 sl t rfl hC
end
end Lift
namespace Lift
open Go Go.Conc Go.RowKit Ev
theorem Zm7:uB = .seq (sqL uB) (.seq (sqL (sqR uB)) (.seq (sqL (sqR (sqR uB))) (.seq (sqL (sqR (sqR (sqR uB)))) (.seq (.seq (sqL (sqL (sqR (sqR (sqR (sqR uB)))))) cBlk) Z6J)))):=by kernel_rfl
theorem ZiR:Tryz.f66.body=some uB:=by kernel_rfl
noncomputable def uF:Frame:={(default:Frame) with fn:=66,kind:=.normal}
def uA(xs:Array Value):Act:={tmps:=xs++Array.replicate (42-xs.size) undef,defers:=[]}
theorem ZcH(h:Q.funcs[(66:Nat)]?=some Tryz.f66)(xs:Array Value): Frame.enter Q 66 xs .normal=uF.at (uA xs) [.code uB]:=by
 simp[Frame.enter,Frame.at,h,ZiR,uF,uA,Tryz.ntmps66]
def PF1(S:Nat->Prop)(x:Value):Prop:=PV S x\/∃f ys,x = .func (.func f) #[] ys/\∀y∈ys,PV S y
section
variable[Jk]{S:Nat->Prop}{r:Ren}
theorem Z9U(h:Arr R xs ys)(k:∀x∈xs,∀y,R x y->y=x): ys=xs:=by
 refine Array.ext h.1.symm λi h1 h2=>?_;exact k _ (Array.getElem_mem h2) _ (h.2 i _ _ (Y2 h2) (Y2 h1))
theorem PF1.same(hi:Idn r){x y:Value}(h:PF1 S x)(k:VR r x y):y=x:=by
 rcases h with h | ⟨f,ys,rfl,h⟩
 ·exact h.same hi k
 ·cases k with
  | @func _ f' _ xs' _ ys' hf hx h1 hy k =>
   cases hf with
   | func _ g =>
    have e1:xs'=#[]:=Array.eq_empty_of_size_eq_zero hx.symm;have e2:ys'=ys:=Z9U (R:=VR r) ⟨hy,k⟩ λx hx y q=>(h x hx).same hi q;rw[e1,e2]
theorem ZF(hi:Idn r){C:Inv}(h:WH C r v w)(hb:∃c,r b=some c){cs:Array Value}{e:TypeId}(q:v.heap[b]?=some (.cells cs e (0,0)))(hs:cs.size≠0)(hp:∀x∈cs,PF1 S x): w.heap[b]?=some (.cells cs e (0,0)):=by
 obtain⟨c,hc⟩:=hb;obtain rfl:=hi _ _ hc;obtain⟨cs',e1,e2⟩:=Z82 h hc q hs;rw[e1,Z9U e2 λx hx y k=>(hp x hx).same hi k]
theorem Zf2(hi:Idn r){a a':Act}{N:Nat}{L:List (Nat×Value)}(F:Has N [] a L)(h:VRs r a.tmps a'.tmps)(hd:Lis (DR r) a.defers a'.defers)(hN:∀p∈L,p.1<N)(hp:∀k v,L.lookup k=some v->PF1 S v): Has N [] a' L:=by
 obtain⟨at',ad'⟩:=a';refine⟨?_,by rw[<-h.1];exact F.sz,λk v e=>?_⟩
 ·have:=F.ds
  rw[this]at hd
  cases hd;rfl
 ·have h1:=F.get k v e
  have hk:k<N:=by
   have:(k,v)∈L:=by
    clear F hp hN h1
    induction L with
    | nil=>cases e
    | cons p L ih =>
     rw[Yp]at e
     split at e
     ·rename_i q
      obtain rfl:=Y1 e;rw[beq_iff_eq]at q;subst q;exact List.mem_cons_self
     ·exact List.mem_cons_of_mem _ (ih e)
   exact hN _ this
  have h2:k<a.tmps.size:=by rw[F.sz];exact hk
  have h3:k<at'.size:=by rw[<-h.1];exact h2
  simp only[Y6]at h1⊢;rw[Y2 h2]at h1;rw[Y2 h3];simp only[Option.getD_some]at h1⊢;have:=h.2 k _ _ (Y2 h2) (Y2 h3);rw[h1]at this;exact(hp k v e).same hi this
def UnS(x:Vm)(cf:FuncId)(ys:Array Value)(v:World)(V:List Frame)(u:World):Prop:=∃T0 T f',V=[f',poison]/\UnA x cf ys (re v T0) uF f' (re u T)
theorem Z1u{J:Jk}(hj:J.j)(hg:∀f,J.gd f↔gT f=true)(hl:∀f,¬J.law f){c:Code}(h:ZT PP gT (λ_ _=>false) true false true false c=true): Z0L PP (Jk.law 66) (¬Jk.gd 66) false c:=by
 have:=@Z27 J Tryz.prog gT true (λf q=>(hg f).2 q) (λq=>by cases q) (λ_ _=>false) (λf n q=>by cases q) c false true false h;have e1:(false=true)=False:=by simp
 have e2:(true=true)=True:=by simp
 rw[e1,e2]at this;have e3:J.law 66=False:=by simp[hl]
 have e4:(¬J.gd 66)=True:=by
  rw[hg];simp only[eq_iff_iff,iff_true]
  decide
 show @Z0L J PP (J.law 66) (¬J.gd 66) false c;rw[e3,e4];exact this
theorem cr0:ZT PP gT (λ_ _=>false) true false true false (sqL uB)=true:=by kernel_rfl
theorem cr1:ZT PP gT (λ_ _=>false) true false true false (sqL (sqR uB))=true:=by kernel_rfl
theorem cr2:ZT PP gT (λ_ _=>false) true false true false (sqL (sqR (sqR uB)))=true:=by kernel_rfl
theorem cr3:ZT PP gT (λ_ _=>false) true false true false (sqL (sqR (sqR (sqR uB))))=true:=by kernel_rfl
theorem cr4:ZT PP gT (λ_ _=>false) true false true false (sqL (sqL (sqR (sqR (sqR (sqR uB))))))=true:=by kernel_rfl
theorem Zhi{x:Vm}{cf:FuncId}(hcf:Jk.gd cf)(hda:PV S (.slice x.da x.D.length x.dc))(hla:PV S (.slice x.la x.L.length x.lc))(hys:∀y∈ys,PV S y):
  VRs (idS S) #[x.val,.func (.func cf) #[] ys] #[x.val,.func (.func cf) #[] ys]:=by
 refine⟨rfl,λi a b h1 h2=>?_⟩;rw[h1]at h2;obtain rfl:=Y1 h2;have:a=x.val\/a = .func (.func cf) #[] ys:=by
  have:=Yk h1;simpa using this
 rcases this with rfl | rfl
 ·refine .agg rfl λi a b h1 h2=>?_
  rw[h1]at h2;obtain rfl:=Y1 h2;have:=Yk h1;simp only[Yb,Yc,Ya,or_false]at this
  rcases this with rfl | rfl | rfl | rfl
  ·exact .int _ _
  ·exact hda.vr
  ·exact hla.vr
  ·exact .int _ _
 ·refine .func (.func _ hcf) rfl (by simp) rfl λi a b h1 h2=>?_
  rw[h1]at h2;obtain rfl:=Y1 h2;exact(hys _ (Yk h1)).vr
theorem ZkS(p q:Value):Has 42 [] (uA #[p,q]) [(0,p),(1,q)]:=by
 refine⟨rfl,by simp[uA],λk u e=>?_⟩;rw[Yp]at e
 split at e
 ·rename_i q
  rw[beq_iff_eq]at q;subst q;obtain rfl:=Y1 e;simp[uA]
 ·rw[Yp]at e
  split at e
  ·rename_i q
   rw[beq_iff_eq]at q;subst q;obtain rfl:=Y1 e;simp[uA]
  ·cases e
theorem ZiS{J:Jk}(hj:J.j)(hg:∀f,J.gd f↔gT f=true)(hl:∀f,¬J.law f)(hr:J.rest=[.code cBlk,.code Z6J]){D:Nat->Prop}{Post:Value->World->Prop}{x:Vm}{cf:FuncId}{cs:List Frame}(h1:1<=x.L.length)(h3:x.L.length<=3)(hcf:gT cf=true)(hS:∀b,S b->∃cs e fz,w.heap[b]?=some (.cells cs e fz))(hSD:∀b,S b->¬D b)(hD:∀c,D c->c<w.heap.size)(hda:PV S (.slice x.da x.D.length x.dc))(hla:PV S (.slice x.la x.L.length x.lc))(hys:∀y∈ys,PV S y) (next:∀(a:Act) (w':World) (n3 n5 n6 n7 n16:Nat),Has 42 [] a [(3,pt n3),(5,pt n5),(6,pt n6),(7,pt n7),(20,.int .i64 ((x.L.length:Nat):Int)),(21,.int .i64 0)] ->
   w'.heap[n3]?=some (.cells #[.func (.func cf) #[] ys] 92 (0,0))->w'.heap[n5]?=some (.cells #[.int .u64 0,.int .u32 0] 146 (0,0))->w'.heap[n6]?=some (.cells #[.int .i32 0,.int .u32 0] 150 (0,0)) ->
   w'.heap[n7]?=some (.cells #[.slice (some ⟨n16,0,none⟩) x.L.length x.L.length] 151 (0,0))->w'.heap[n16]?=some (.cells (List.replicate x.L.length (Value.bool false)).toArray 4 (0,0)) ->
   w.heap.size<=n3->n3<n5->n5<n6->n6<n16->n16<n7->(∀b,b<w.heap.size->w'.heap[b]?=w.heap[b]?)->w'.os=w.os->w'.output=w.output->w.heap.size<=w'.heap.size->Sure PP Post D (run1 (uF.at a [.code cBlk,.code Z6J]) cs) w'):
  Sure PP Post D (run1 (Frame.enter PP 66 #[x.val,.func (.func cf) #[] ys] .normal) cs) w:=by
 have hS2:Strip PP (Qy.F 2) (CodeOk PP false) (λf=>gT f=true):=strip_T hj hg hl 2;have hG:GOk PP (Qy.F 2) (λf=>gT f=true):=ZhJ hg hl 2;have hR:Rec PP:=rec_T hl;obtain⟨v,hsh,hwh,hshut⟩:=Z1S (P:=PP) (F:=Qy.F 2) (w:=w) hj hS;have hown:(Qy.F 2)[(66:Nat)]?=PP.funcs[(66:Nat)]?:=Qy.own66.trans (by kernel_rfl);have hargs:=Zhi (S:=S) (x:=x) (cf:=cf) (ys:=ys) ((hg cf).2 hcf) hda hla hys;rw[ZcH (Q:=PP) (by kernel_rfl)];have hfr:FrR PP (Qy.F 2) (idS S) (uF.at (uA #[x.val,.func (.func cf) #[] ys]) [.code cPre]) (uF.at (uA #[x.val,.func (.func cf) #[] ys]) [.code uB]):=by
  refine⟨rfl,hown,?_,?_,⟨.nil,λq=>absurd q (hl _)⟩,.run,⟨rfl,.inl rfl⟩,.none⟩
  ·refine Arr.append hargs ⟨rfl,λi a b q1 q2=>?_⟩
   rw[q1]at q2;obtain rfl:=Y1 q2;have:=Yk q1;simp only[Array.mem_replicate]at this;rw[this.2];exact .undef
  ·have:=Zm7
   generalize h:uB=z at this;refine Todo.cut rfl (λ_=>⟨rfl,rfl⟩) ?_;rw[this,<-h];exact .seq (Z1u hj hg hl cr0) (.seq (Z1u hj hg hl cr1) (.seq (Z1u hj hg hl cr2) (.seq (Z1u hj hg hl cr3) (.left (.seq (Z1u hj hg hl cr4) (.stop hr))))))
 have hst:Stk PP (Qy.F 2) (idS S) [uF.at (uA #[x.val,.func (.func cf) #[] ys]) [.code cPre]] [uF.at (uA #[x.val,.func (.func cf) #[] ys]) [.code uB]]:=⟨.cons hfr .nil,⟨.inl rfl,λh=>absurd rfl h⟩,trivial⟩;have hF:=ZkS x.val (.func (.func cf) #[] ys);have hEn:Ends (PF PP (Qy.F 2)) (UnS x cf ys v) [uF.at (uA #[x.val,.func (.func cf) #[] ys]) [.code cPre],poison] v:=by
  obtain⟨T0,hw0⟩:=hwh.tape;obtain⟨σ,hw2⟩:=hw0.retape v.tape;refine Z0O hS2 hG hR ?_ (.inl ⟨[],_,[],_,_,rfl,hst,hw2⟩) λT=>?_
  ·rintro V u T ⟨T1,T2,f',e,q⟩
   exact⟨T1,T2,f',e,q⟩
  ·obtain⟨f',w',hz,n,hn⟩:=ZkU x h3 cf ys (re v T) uF _ hF
   exact⟨n,f',[poison],w',hn,T,w'.tape,f',rfl,hz⟩
 refine Sure.lone (A:=[]) (B:=[]) hS2 hG hR (λy u=>by rintro⟨T1,T2,f',e,q⟩;cases e) hEn rfl hst hwh ⟨λb c hb=>by obtain⟨q1,rfl⟩:=Z0x hb;exact hSD _ q1,hD⟩ ?_;intro f' A' g' B' r' v' w' hs hst' hw' hk;obtain⟨T1,T2,f2,e,hq⟩:=hs;simp only[List.cons.injEq]at e;obtain⟨rfl,e⟩:=e;have hA:A'=[]:=by
  cases A' with
  | nil=>rfl
  | cons a0 l0 =>
   have:=congrArg List.length e;simp at this
 subst hA;have hB:B'=[]:=by
  obtain⟨_,h,_⟩:=hst'.uncons;have:=h.rel
  cases B' with
  | nil=>rfl
  | cons b bs=>cases this
 subst hB;obtain⟨a,n3,n5,n6,n7,n16,rfl,F,q3,q5,q6,q7,q16,l3,l5,l6,l16,l7,E⟩:=hq.ex;have hi:Idn r':=λb c hb=>by
  rcases (hk.par hsh.size).2.1 b c hb with q | q
  ·exact(Z0x q).2
  ·exact q.symm
 have hf:=hst'.uncons.1;obtain⟨gfn,gt,gtodo,gdef,gmode,gkind,gound⟩:=g';obtain⟨f1,_,f3,f4,f5,f6,f7,f8⟩:=hf;have e1:gtodo=[.code cBlk,.code Z6J]:=by
  have f4:Todo _ _ _ _ _ [.code (.refuse ""),.code (.refuse "")] gtodo:=f4
  cases f4 with
  | cons x y =>
   cases x with
   | code hc=>exact hc.elim
  | cut _ _ h =>
   cases h with
   | stop h=>rw[<-h,hr]
 have e2:gmode = .run:=by cases f6;rfl
 have e3:gound=none:=by cases f8;rfl
 obtain⟨f7,_⟩:=f7;obtain⟨f5,_⟩:=f5;dsimp only[Frame.at,uF]at f1 f3 f5 f7;subst e1 e2 e3 f1 f7;have slot:∀k n,k<42->a.tmps.getD k undef=pt n->∃c,r' n=some c:=by
  intro k n hk e;have h2:k<a.tmps.size:=by rw[F.sz];exact hk
  have h3:k<gt.size:=by rw[<-f3.1];exact h2
  have:=f3.2 k _ _ (Y2 h2) (Y2 h3);rw[Y6,Y2 h2]at e;simp only[Option.getD_some]at e;rw[e]at this;generalize gt[k]=z at this
  cases this with
  | ptr q=>cases q with | mk q=>exact⟨_,q⟩
 have F2:Has 42 [] a [(3,pt n3),(5,pt n5),(6,pt n6),(7,pt n7),(20,.int .i64 ((x.L.length:Nat):Int)),(21,.int .i64 0)]:=F.sub (.c 3 rfl (.c 5 rfl (.c 6 rfl (.c 7 rfl (.c 20 rfl (.c 21 rfl .n))))));have s3:=slot 3 n3 (by decide) (F2.get 3 _ rfl);have s5:=slot 5 n5 (by decide) (F2.get 5 _ rfl);have s6:=slot 6 n6 (by decide) (F2.get 6 _ rfl);have s7:=slot 7 n7 (by decide) (F2.get 7 _ rfl);have o7:=ZF (S:=λ_=>True) hi hw' s7 q7 (by simp) (by simp[PF1,PV]);have s16:∃c,r' n16=some c:=by
  obtain⟨c,hc⟩:=s7;obtain⟨cs',_,k2⟩:=Z82 hw' hc q7 (by simp);have:=k2.2 0 _ (cs'[0]'(by rw[<-k2.1];simp)) rfl (Y2 _);generalize cs'[0]'(by rw[<-k2.1];simp)=z at this
  cases this with
  | sl _ _ q=>cases q with | mk q=>exact⟨_,q⟩
 refine next ⟨gt,gdef⟩ w' n3 n5 n6 n7 n16 (Zf2 (S:=λ_=>True) hi F2 f3 f5 (by simp) ?_) (ZF (S:=S) hi hw' s3 q3 (by simp) ?_) (ZF (S:=S) hi hw' s5 q5 (by simp) (by simp[PF1,PV])) (ZF (S:=S) hi hw' s6 q6 (by simp) (by simp[PF1,PV])) o7 (ZF (S:=S) hi hw' s16 q16 (by simp only[List.size_toArray,List.length_replicate];omega) ?_) (by rw[<-hsh.size];exact l3) l5 l6 l16 l7 ?_ hk.os.2.symm hk.out hk.sizeW
 ·intro k u e
  have:u=pt n3\/u=pt n5\/u=pt n6\/u=pt n7\/u = .int .i64 ((x.L.length:Nat):Int)\/u = .int .i64 0:=by
   simp only[Yp,List.lookup_nil]at e
   repeat' split at e
   all_goals first | (cases e;done) | (obtain rfl:=Y1 e;simp)
  rcases this with rfl | rfl | rfl | rfl | rfl | rfl<;>exact .inl trivial
 ·intro y hy
  simp only[Yb,Yc,Ya,or_false]at hy;exact .inr ⟨_,_,hy,hys⟩
 ·intro y hy
  simp only[Yb,List.mem_replicate]at hy;rw[hy.2];exact .inl trivial
 ·intro b hb
  by_cases q:S b
  ·exact hk.shutW b b (hshut _ _ (Z1E q)) (Z1E q)
  ·refine hk.far b hb λc hc=>?_
   obtain⟨q1,q2⟩:=Z0x hc;exact q (q2▸q1)
end
end Lift
namespace Lift
open Go Go.Conc Go.RowKit Ev Mx
open Go.ConcM (OsLater)
noncomputable def tT:Code:=sqR (sqR Z6J)
def rgO:Code->Array Oper | .region _ o _=>o | _=>#[]
def rgI:Code->Nat | .region i _ _=>i | _=>0
theorem Zm6:tT = .seq (.seq (.region (rgI (sqL (sqL tT))) (rgO (sqL (sqL tT))) false) (sqR (sqL tT))) (sqR tT):=by kernel_rfl
theorem Zeg:tdMf=[.inRegion (rgO (sqL (sqL tT))) (List.range (rgO (sqL (sqL tT))).size),.code (sqR (sqL tT)),.code (sqR tT)]:=by kernel_rfl
theorem Z7F{P:Program}{m m1 m2:Machine}(h:Steps P m m2)(h1:step P m = .next m1)(ne:m≠m2): Steps P m1 m2:=by
 obtain⟨n,hn⟩:=h
 cases n with
 | zero =>
  simp only[runN,Stepped.next.injEq]at hn;exact absurd hn ne
 | succ n =>
  refine⟨n,?_⟩;simpa[runN,h1] using hn
theorem Z6t{P:Program}{b fr:Frame}{a:Act}{K:List Frame}{w: World}(hm:b.mode = .run)(hb:fr.mode ≠ .run)(h:Steps P (lone (b.at a [.code tT]) K w) (lone fr K w')): Steps P (lone (b.at a tdMf) K w) (lone fr K w'):=by
 have ne:∀td,lone (b.at a td) K w≠lone fr K w':=λtd e=>by
  have e2:=congrArg (λm=>m.gs[0]?.map λg=>g.frame.mode) e;simp only[lone,List.getElem?_toArray,List.getElem?_cons_zero,Option.map_some,Y4]at e2;exact hb (e2▸rfl)
 rw[Zm6]at h;have h1:=Z7F h step_seq (ne _);have h2:=Z7F h1 step_seq (ne _);have h3:=Z7F h2 step_region (ne _);rw[Zeg];exact h3
theorem Zee(hn:n<=3)(β:Nat->Bool){n7 n16:Nat}{T:TypeId}{fz:Nat×Nat}{w:World}{fa:Act}(F:Has 42 [] fa [(7,pt n7),(9,.slice none 0 0)])(q7:w.heap[n7]?=some (.cells #[.slice (some ⟨n16,0,none⟩) n n] T fz))(q16:∀k,k<n->w.cell? ⟨n16,k,none⟩=some (.bool (β k)))(h16:n16<w.heap.size):
  ∃e fr w',Steps (Qy.prog 2) (lone (uF.at fa tdMf) [poison] w) (lone fr [poison] w')/\fr.fn=66/\fr.leaving (Qy.prog 2) w' e/\UnR w (Z0z n β) e w':=by
 obtain⟨e,a',w',hq,harr⟩:=ZiT n hn β n7 n16 T fz fz w fa F q7 q16 h16 uF [] [poison];have own:(Qy.prog 2).funcs[(66:Nat)]?=some Tryz.f66:=Qy.own66
 cases e with
 | normal =>
  obtain⟨hd,v,hr,hR⟩:=hq;exact⟨.returned v,_,w',Z6t rfl (by simp[Frame.at]) (Steps.trans harr (.one Go.step_end)),rfl,⟨rfl,hd,rfl,_,own,hr⟩,hR⟩
 | ret =>
  obtain⟨hd,v,hr,hR⟩:=hq;obtain⟨td,hs⟩:=harr;exact⟨.returned v,_,w',Z6t rfl (by simp[Frame.at]) hs,rfl,⟨rfl,hd,rfl,_,own,hr⟩,hR⟩
 | panic ch =>
  obtain⟨_,v,e,_⟩:=hq
  cases e
 | outgrown =>
  obtain⟨v,e,_⟩:=hq
  cases e
 | _=>exact hq.elim
theorem ct1:ZT PP gT (λ_ _=>false) true false true false (sqL (sqL tT))=true:=by kernel_rfl
theorem ct2:ZT PP gT (λ_ _=>false) true false true false (sqR (sqL tT))=true:=by kernel_rfl
theorem ct3:ZT PP gT (λ_ _=>false) true false true false (sqR tT)=true:=by kernel_rfl
structure UnE(l:List Int)(w w':World)(y:Value)(Mu Wg:Nat):Prop where
 lst:IntR w.heap.size w' l y
 old:∀b,b<w.heap.size->w'.heap[b]?=w.heap[b]?
 size:w.heap.size<=w'.heap.size
 os:OsLater w.os w'.os
 out:w'.output=w.output
 mu:w.heap.size<=Mu/\Mu<w'.heap.size
 wg:w.heap.size<=Wg/\Wg<w'.heap.size
 ne:∀g n c,y = .slice (some ⟨g,0,none⟩) n c->g≠Mu/\g≠Wg
theorem ZhY{J:Jk}{C:Inv}{r:Ren}{w: World}(hi:Idn r)(h:WH C r v w){base': Nat}(hb:base'<=base)(hx:IntR base v l x)(hy:VR r x y): IntR base' w l y:=by
 rcases hx with⟨h1,rfl⟩ | ⟨g,c,h1,rfl,h2,h3,hm,h4⟩
 ·cases hy
  exact .inl ⟨h1,rfl⟩
 ·have e:y = .slice (some ⟨g,0,none⟩) l.length c:=PV.same (S:=λ_=>True) hi trivial hy
  have hg:∃c,r g=some c:=by
   cases hy with
   | sl _ _ q=>cases q with | mk q=>exact⟨_,q⟩
  refine .inr ⟨g,c,h1,e,Yd hb h2,h3,hm,ZF (S:=λ_=>True) hi h hg h4 ?_ ?_⟩
  ·simp only[List.size_toArray,Ym,List.length_replicate,ivs,Yj]
   have:0<l.length:=List.length_pos_iff.2 h1;omega
  ·intro x hx
   simp only[Yb,List.mem_append,ivs,List.mem_map,List.mem_replicate]at hx
   rcases hx with⟨z,_,rfl⟩ | ⟨_,rfl⟩<;>exact .inl trivial
section
variable{J:Jk}(hj:J.j)(hg:∀f,J.gd f↔gT f=true)(hl:∀f,¬J.law f){D:Nat->Prop}{Post:Value->World->Prop}{w:World}
include hj hg hl
theorem ZiU(hn:n<=3)(β:Nat->Bool){n7 n16:Nat}{T7 T16:TypeId}{fz:Nat×Nat}{f c:Frame}{cs:List Frame}(h1:f.fn=66)(h2:f.tmps.size=42)(h3:f.todo=tdMf)(h4:f.defers=[])(h5:f.kind = .normal)(h6:f.mode = .run)(h7:f.roundOf=none)(e7:f.tmps[7]?=some (pt n7))(e9:f.tmps[9]?=some (.slice none 0 0))(q7:w.heap[n7]?=some (.cells #[.slice (some ⟨n16,0,none⟩) n n] T7 fz))(q16:w.heap[n16]?=some (.cells ((List.range n).map λk=>Value.bool (β k)).toArray T16 (0,0)))(h716:n7≠n16)(hD:∀c,D c->c<w.heap.size)(hD7:¬D n7)(hD16:¬D n16)(ret:∀w' y,IntR w.heap.size w' (Z0z n β) y->(∀b,b<w.heap.size->w'.heap[b]?=w.heap[b]?)->w.heap.size<=w'.heap.size->w'.os=w.os->w'.output=w.output->Sure PP Post D (run1 (c.finish y) cs) w'):
  Sure PP Post D (run1 f (c::cs)) w:=by
 obtain⟨ffn,ft,ftd,fdf,fm,fk,fr⟩:=f;dsimp only at h1 h2 h3 h4 h5 h6 h7 e7 e9;subst h1 h3 h4 h5 h6 h7;have hS2:Strip PP (Qy.F 2) (CodeOk PP false) (λf=>gT f=true):=strip_T hj hg hl 2;have hG:GOk PP (Qy.F 2) (λf=>gT f=true):=ZhJ hg hl 2;have hR:Rec PP:=rec_T hl;obtain⟨v,hsh,hwh,hshut⟩:=Z1S (P:=PP) (F:=Qy.F 2) (w:=w) (S:=λc=>c=n7\/c=n16) hj (by
  rintro c (rfl | rfl)
  ·exact⟨_,_,_,q7⟩
  ·exact⟨_,_,_,q16⟩)
 obtain⟨xs,hxs,hpv⟩:=Zgt (S:=λc=>c=n7\/c=n16) hj ft;have hown:(Qy.F 2)[(66:Nat)]?=PP.funcs[(66:Nat)]?:=Qy.own66.trans (by kernel_rfl);have hfr:FrR PP (Qy.F 2) (idS λc=>c=n7\/c=n16) (uF.at ⟨xs,[]⟩ tdMf) {fn:=66,tmps:=ft,todo:=tdMf,defers:=[],mode:=.run,kind:=.normal,roundOf:=none}:=by
  refine⟨rfl,hown,hxs,?_,⟨.nil,λq=>absurd q (hl _)⟩,.run,⟨rfl,.inl rfl⟩,.none⟩;show Todo PP (Jk.law 66) (¬Jk.gd 66) false _ tdMf tdMf;rw[Zeg];have c1:=Z1u hj hg hl ct1;have c2:=Z1u hj hg hl ct2;have c3:=Z1u hj hg hl ct3;have e1:sqL (sqL tT) = .region (rgI (sqL (sqL tT))) (rgO (sqL (sqL tT))) false:=by kernel_rfl
  rw[e1]at c1;exact .cons (.inRegion c1) (.cons (.code c2) (.cons (.code c3) .nil))
 have hst:Stk PP (Qy.F 2) (idS λc=>c=n7\/c=n16) [uF.at ⟨xs,[]⟩ tdMf] [{fn:=66,tmps:=ft,todo:=tdMf,defers:=[],mode:=.run,kind:=.normal,roundOf:=none}]:=⟨.cons hfr .nil,⟨.inl rfl,λh=>absurd rfl h⟩,trivial⟩;have hF:Has 42 [] (⟨xs,[]⟩:Act) [(7,pt n7),(9,.slice none 0 0)]:=by
  have hsz:xs.size=42:=hxs.1.trans h2;refine⟨rfl,hsz,λk u e=>?_⟩;show xs.getD k undef=u;rw[Y6];rw[Yp]at e
  split at e
  ·rename_i q
   rw[beq_iff_eq]at q;subst q;obtain rfl:=Y1 e;rw[hpv 7 _ e7 (.inl rfl)];rfl
  ·rw[Yp]at e
   split at e
   ·rename_i q
    rw[beq_iff_eq]at q;subst q;obtain rfl:=Y1 e;rw[hpv 9 _ e9 trivial];rfl
   ·cases e
 obtain⟨cs7,p7,p7s,p7v⟩:=hsh.at_ n7 (.inl rfl) _ _ _ q7;have hc7:cs7=#[.slice (some ⟨n16,0,none⟩) n n]:=by
  refine Array.ext p7s λi i1 i2=>?_;have:i=0:=by simp at i2;omega
  subst this;have:=p7v 0 (.slice (some ⟨n16,0,none⟩) n n) rfl (.inr rfl);rw[Y2 i1]at this;exact Y1 this
 subst hc7;obtain⟨cs16,p16,p16s,p16v⟩:=hsh.at_ n16 (.inr rfl) _ _ _ q16;have hc16:∀k,k<n->v.cell? ⟨n16,k,none⟩=some (.bool (β k)):=λk hk=>by
  have:=p16v k (.bool (β k)) (by simp[hk]) trivial;unfold World.cell?;rw[p16];exact this
 have h16:n16<v.heap.size:=(Y0.1 p16).1;have hEn:Ends (PF PP (Qy.F 2)) (Done PP (Qy.F 2) 66 (λe u=>∃T0 T,UnR (re v T0) (Z0z n β) e (re u T))) [uF.at ⟨xs,[]⟩ tdMf,poison] v:=by
  obtain⟨T0,hw0⟩:=hwh.tape;obtain⟨σ,hw2⟩:=hw0.retape v.tape;refine Z0O hS2 hG hR ?_ (.inl ⟨[],_,[],_,_,rfl,hst,hw2⟩) λT=>?_
  ·rintro V u T ⟨T',e,fr,k1,k2,k3,⟨T1,T2,k4⟩,k5⟩
   exact⟨T',e,fr,k1,k2,k3,⟨T1,T2,k4⟩,k5⟩
  ·obtain⟨e,fr,w',⟨m,hm⟩,k1,k2,k3⟩:=Zee (w:=re v T) hn β hF p7 hc16 h16
   refine⟨m,fr,[poison],w',hm,w'.tape,e,fr,rfl,k1,k2,⟨T,w'.tape,k3⟩,?_⟩;obtain⟨x,rfl,_⟩:=k3;simp
 refine Sure.done hS2 hG hR hEn hst hwh ⟨λb c hb=>?_,hD⟩ (λr' v' w' x y hRx hv hw' hk ho=>?_) (λr' v' w' ch ch' hRx=>?_)
 ·obtain⟨q1,rfl⟩:=Z0x hb
  rcases q1 with rfl | rfl
  ·exact hD7
  ·exact hD16
 ·obtain⟨T0,T1,x',e,hx,hE⟩:=hRx
  obtain rfl:=Ending.returned.inj e;have hi:Idn r':=λb c hb=>by
   rcases (hk.par hsh.size).2.1 b c hb with q | q
   ·exact(Z0x q).2
   ·exact q.symm
  refine ret w' y (ZhY hi hw' (Nat.le_of_eq hsh.size.symm) hx hv) (λb hb=>?_) hk.sizeW hk.os.2.symm hk.out
  by_cases q:b=n7\/b=n16
  ·exact hk.shutW b b (hshut _ _ (Z1E q)) (Z1E q)
  ·refine hk.far b hb λc hc=>?_
   obtain⟨q1,q2⟩:=Z0x hc;exact q (q2▸q1)
 ·obtain⟨T0,T1,x',e,_⟩:=hRx
  cases e
end
end Lift
namespace Lift
open Go Go.Conc Go.RowKit Ev Mx
open Go.ConcM (OsLater)
noncomputable abbrev jkU:Jk:={j:=True,rest:=[.code cBlk,.code Z6J],gd:=λf=>gT f=true}
def AskU(S:Nat->Prop)(w:World)(cf:FuncId)(ys:Array Value)(β:Nat->Bool)(n:Nat):Prop:=
 ∀(w1 v:World),(∀c,S c->w1.heap[c]?=w.heap[c]?)->Shadow S w1 v->∀k,k<n->Calls (Qy.prog 2) cf (#[.int .i64 ((k:Nat):Int)]++ys) v (λe _=>e = .returned (.bool (β k)))
noncomputable def phX (x:Vm) (cf:FuncId) (ys:Array Value) (a:Act) (cs:List Frame) (D:Nat->Prop) (β:Nat->Bool) (w:World) (n3 n5 n6 n7 n16:Nat):Ph:=
  { K := { Mu := n6, Wg := n5, Fd := n16, tM := 150, tW := 146, tB := 4 }
    k:={N:=n6,W:=n5,I:=n3,L:=0,B:=n7,D:=n16,n:=x.L.length,c:=x.L.length,lamp:=0,clo:=.func (.func cf) #[] ys}
    T := λi => a.tmps.getD i undef, n := x.L.length, cs := cs, D := D, m0 := 1, p0 := 0, β := β, wS := w }
theorem Zlg(k:Wk)(ys:Array Value)(e:k.clo = .func (.func 79) #[] ys)(L x:Nat):(cW3 {k with L:=L,lamp:=x}).cal PP=some (79,#[.int .i64 ((x:Nat):Int)]++ys):=by
 obtain⟨N,W,I,_,B,Dd,n,c,_,clo⟩:=k;dsimp only at e;subst e
 kernel_rfl
theorem Zlf(k:Wk)(ys:Array Value)(e:k.clo = .func (.func 67) #[] ys)(L x:Nat):(cW3 {k with L:=L,lamp:=x}).cal PP=some (67,#[.int .i64 ((x:Nat):Int)]++ys):=by
 obtain⟨N,W,I,_,B,Dd,n,c,_,clo⟩:=k;dsimp only at e;subst e
 kernel_rfl
theorem ZkT{S:Nat->Prop}{J:Jk}(hys:∀y∈ys,PV S y)(k:Nat): VRs (idS S) (#[.int .i64 ((k:Nat):Int)]++ys) (#[.int .i64 ((k:Nat):Int)]++ys):=by
 refine Arr.append ⟨rfl,λi a b h1 h2=>?_⟩ ⟨rfl,λi a b h1 h2=>?_⟩
 ·rw[h1]at h2
  obtain rfl:=Y1 h2;have:=Yk h1;simp only[Yb,Yc,Ya,or_false]at this;subst this;exact .int _ _
 ·rw[h1]at h2
  obtain rfl:=Y1 h2;exact(hys _ (Yk h1)).vr
theorem ZlR{k:Wk}{T:Nat->Value}{n:Int}{a:Act}(hT:T=λi=>a.tmps.getD i undef)(F:Has 42 [] a [(3,pt k.I),(5,pt k.W),(6,pt k.N),(7,pt k.B),(20,.int .i64 n),(21,.int .i64 0)]): SOk (sM k T n).top (sM k T n).rest (uF.at a [.code cBlk,.code Z6J]) []:=by
 refine⟨⟨rfl,F.sz,λt v e=>?_,rfl,F.ds,rfl,rfl,rfl⟩,.nil⟩;have hm:∀(L:List (Nat×Value)),L.lookup t=some v->(t,v)∈L:=by
  intro L
  induction L with
  | nil=>intro e;cases e
  | cons p L ih =>
   intro e;rw[Yp]at e
   split at e
   ·rename_i q
    obtain rfl:=Y1 e;rw[beq_iff_eq]at q;subst q;exact List.mem_cons_self
   ·exact List.mem_cons_of_mem _ (ih e)
 have h1:=hm _ e;have key:t<42/\a.tmps.getD t undef=v:=by
  have f3:=F.get 3 _ rfl;have f5:=F.get 5 _ rfl;have f6:=F.get 6 _ rfl;have f7:=F.get 7 _ rfl;have f20:=F.get 20 _ rfl;have f21:=F.get 21 _ rfl;subst hT;have all:∀p∈(sM k (λi=>a.tmps.getD i undef) n).top.env,p.1<42/\a.tmps.getD p.1 undef=p.2:=by
   simp only[sM,und,List.forall_mem_cons]
   repeat' apply And.intro
   all_goals first | decide | rfl | assumption | (intro p hp;cases hp)
  exact all _ h1
 have h2:t<a.tmps.size:=by rw[F.sz];exact key.1
 show a.tmps[t]?=some v;rw[Y2 h2];have:=key.2;rw[Y6,Y2 h2]at this;exact congrArg some this
theorem Z8d{base': Nat}(h:IntR base w l y)(hb:base'<=base): IntR base' w l y:=by
 rcases h with h | ⟨g,c,h1,h2,h3,h4,h5⟩
 ·exact .inl h
 ·exact .inr ⟨g,c,h1,h2,Yd hb h3,h4,h5⟩
theorem Z8H {D:Nat->Prop} {Post:Value->World->Prop} {S:Nat->Prop} {x:Vm} {cf:FuncId} {ys:Array Value} {β:Nat->Bool} {w:World} {c:Frame} {cs:List Frame}
    (h1:1<=x.L.length) (h3:x.L.length<=3) (hcf:cf=79\/cf=67) (hS:∀b,S b->∃cs e fz,w.heap[b]?=some (.cells cs e fz)) (hSD:∀b,S b->¬D b) (hD:∀c,D c->c<w.heap.size)
    (hda:PV S (.slice x.da x.D.length x.dc)) (hla:PV S (.slice x.la x.L.length x.lc)) (hys:∀y∈ys,PV S y) (hβ:∀k,x.L.length<=k->β k=false) (hask:AskU S w cf ys β x.L.length)
    (ret:∀w' y Mu Wg,UnE (Z0z x.L.length β) w w' y Mu Wg->Sure PP Post (λc=>D c\/c=Mu\/c=Wg) (run1 (c.finish y) cs) w') :
    Sure PP Post D (run1 (Frame.enter PP 66 #[x.val,.func (.func cf) #[] ys] .normal) (c::cs)) w:=by
  letI : Jk := jkU;have hgc : gT cf=true := by rcases hcf with rfl | rfl<;>decide
  refine ZiS (J := jkU) trivial (λf => Iff.rfl) (λf => id) rfl h1 h3 hgc hS hSD hD hda hla hys λa w1 n3 n5 n6 n7 n16 F q3 q5 q6 q7 q16 l3 l5 l6 l16 l7 old os out hsz => ?_;have b7 : n7<w1.heap.size := (Y0.1 q7).1;have nD : ∀b, w.heap.size<=b->¬D b := λb hb hd => absurd (hD b hd) (by omega);have ap : Apt {Mu := n6, Wg := n5, Fd := n16, tM := 150, tW := 146, tB := 4} := ⟨by show n6≠n5; omega, by show n6≠n16; omega, by show n5≠n16; omega⟩;have hX : PhOk (phX x cf ys a (c::cs) D β w1 n3 n5 n6 n7 n16) :=
    { n3 := h3, m0 := Nat.one_pos, ok := λLb y hy => ⟨ap, rfl, rfl, rfl, hy, h3⟩, wok := ⟨ap, rfl, rfl, rfl, h1, h3⟩, kn := rfl, βn := hβ, dlow := λb hb => Y8 (hD b hb) hsz
      isB:=⟨_,_,q3⟩,fdB:=⟨_,_,q7⟩
      iO:=⟨by show n3≠n6;omega,by show n3≠n5;omega,by show n3≠n16;omega,nD n3 l3⟩
      bO := ⟨by show n7 ≠ n6; omega, by show n7 ≠ n5; omega, by show n7 ≠ n16; omega, nD n7 (by omega)⟩ }
  have hS1:∀b,S b->∃cs e fz,w1.heap[b]?=some (.cells cs e fz):=λb hb=>by
    obtain⟨q1, q2, q3, q4⟩ := hS b hb;exact⟨q1, q2, q3, by rw[old b (Y0.1 q4).1]; exact q4⟩
  have hSl:∀b,S b->b<w.heap.size:=λb hb=>by
    obtain⟨q1, q2, q3, q4⟩ := hS b hb;exact(Y0.1 q4).1
  obtain⟨v, hsh, hwh, hshut⟩ := Z1S (P := PP) (F := Qy.F 2) (w := w1) (S := S) trivial hS1;have hJ : ∀y, y<(phX x cf ys a (c::cs) D β w1 n3 n5 n6 n7 n16).n->Job (Qy.F 2) (λf => gT f=true) (phX x cf ys a (c::cs) D β w1 n3 n5 n6 n7 n16) y := λy hy => by
    refine⟨cf,_,#[.int .i64 ((y:Nat):Int)]++ys,idS S,v,λe _=>e = .returned (.bool (β y)),λL=>?_,hgc,ZkT hys y,hwh,λb d hb=>?_,λe u T h=>h,λe u h=>h,λT=>?_⟩
    · rcases hcf with rfl | rfl
      · exact Zlg _ ys rfl L y
      · exact Zlf _ ys rfl L y
    · obtain⟨s1,rfl⟩:=Z0x hb
      have := hSl _ s1;refine⟨hshut _ _ (Z1E s1), ?_, ?_, ?_, hSD _ s1, ?_, ?_⟩
      · show d≠n6;omega
      · show d≠n5;omega
      · show d≠n16;omega
      · show d≠n3;omega
      · show d≠n7;omega
    · exact hask w1 (re v T) (λb hb=>old b (hSl b hb)) ⟨hsh.size,hsh.os,hsh.at_⟩ y hy
  have hB:Z7Q (phX x cf ys a (c::cs) D β w1 n3 n5 n6 n7 n16) Post:=by
    intro w' z u f fs s hk hold hsz' hos hout hsA hlen hfd;obtain⟨hk1, hk2⟩ := hk;have hfs : fs=[] := by
      have hk2:Lis FOk [] fs:=hk2
      cases hk2;rfl
    subst hfs;have q7' : w'.heap[n7]?=some (.cells #[.slice (some ⟨n16, 0, none⟩) x.L.length x.L.length] 151 (0, 0)) := by
      rw[hold n7 b7 (by show n7≠n6; omega) (by show n7≠n5; omega) (by show n7≠n16; omega)];exact q7
    have hfdl:s.fd.map Value.bool=(List.range x.L.length).map λk=>Value.bool (β k):=by
      apply List.ext_getElem?;intro i;have hlen : s.fd.length=x.L.length := hlen
      rcases Nat.lt_or_ge i x.L.length with hi | hi
      · have:=hfd i hi
        rw[Yn,Yn,this,List.getElem?_range hi];rfl
      · rw[List.getElem?_eq_none (by rw[Yj];omega),List.getElem?_eq_none (by rw[Yj,List.length_range];omega)]
    have q16':w'.heap[n16]?=some (.cells ((List.range x.L.length).map λk=>Value.bool (β k)).toArray 4 (0,0)):=by
      rw[<-hfdl];exact hsA.fd
    have e7 : f.tmps[7]?=some (pt n7) := hk1.env 7 _ rfl;have e9 : f.tmps[9]?=some (.slice none 0 0) := hk1.env 9 _ rfl;have hsz' : w1.heap.size<=w'.heap.size := hsz';refine ZiU (J := jkU) (c := c) (cs := cs) trivial (λf => Iff.rfl) (λf => id) h3 β hk1.fn hk1.size hk1.todo hk1.defs hk1.kind hk1.mode hk1.round e7 e9 q7' q16' (by omega) ?_ ?_ ?_ λw2 y r1 r2 r3 r4 r5 => ?_
    · rintro b (hb | hb | hb)
      · exact Y8 (hD b hb) (by omega)
      · have hb:b=n6:=hb
        omega
      · have hb:b=n5:=hb
        omega
    · rintro (hb | hb | hb)
      · exact nD n7 (by omega) hb
      · have hb:n7=n6:=hb
        omega
      · have hb:n7=n5:=hb
        omega
    · rintro (hb | hb | hb)
      · exact nD n16 (by omega) hb
      · have hb:n16=n6:=hb
        omega
      · have hb:n16=n5:=hb
        omega
    · refine ret w2 y n6 n5 ⟨Z8d r1 (by omega),λb hb=>?_,by omega,?_,by rw[r5,hout];exact out,⟨by omega,by omega⟩,⟨by omega,by omega⟩,λg n d e=>?_⟩
      · rw[r2 b (by omega),hold b (by show b<w1.heap.size;omega) (by show b≠n6;omega) (by show b≠n5;omega) (by show b≠n16;omega)]
        exact old b hb
      · rw[r4,<-os]
        exact hos
      · rcases r1 with⟨_,k2⟩ | ⟨g',d',_,k2,k3,_⟩
        · rw[k2]at e;cases e
        · rw[k2]at e
          simp only[Value.slice.injEq, Y4, Addr.mk.injEq]at e;obtain⟨⟨rfl, _⟩, _⟩ := e;exact⟨by omega, by omega⟩
  exact Sure.phase hX (strip_T (J:=jkU) trivial (λf=>Iff.rfl) (λf=>id) 2) (ZhJ (J:=jkU) (λf=>Iff.rfl) (λf=>id) 2) (rec_T (J:=jkU) λf=>id) hJ hB ⟨by show n16≠n6;omega,by show n16≠n5;omega,nD n16 (by omega)⟩ ⟨q6,q5,by
    show w1.heap[n16]?=some (.cells ((List.replicate x.L.length false).map Value.bool).toArray 4 (0, 0));rw[List.map_replicate];exact q16⟩ (ZlR rfl F)
end Lift
namespace Lift
open Go Go.Conc Go.RowKit Ev
section
variable{P:Program}{m:Bool}{w w':World}{f:Frame}{fs cs:List Frame}{s s':St}
theorem Za5(a:Addr):∀(n i:Nat) (acc:Array Value) (w:World) (es:Array Event),(∀j,j<n->(w.cell? (a.add (i+j))).isSome)->∀ev∈(loadCellsFrom a i n acc).events P w es,ev∈es\/∃j,ev=⟨.cell (a.add j),false,false⟩
 | 0,_,_,_,_,_=>λev h=>.inl (by simpa[loadCellsFrom] using h)
 | n+1,i,acc,w,es,hc=>λev h=>by
  simp only[loadCellsFrom,Sem.events_bind]at h;obtain⟨u,hu⟩:=Option.isSome_iff_exists.1 (hc 0 (by omega));simp only[Nat.add_zero]at hu;have hr:(load (a.add i)).run P w = .ok u w:=by simp[hu]
  rw[hr]at h
  rcases Za5 a n (i+1) (acc.push u) w _ (λj hj=>by have:=hc (j+1) (by omega);rwa[show i+(j+1)=i+1+j by omega]at this) ev h with h | h
  ·rw[events_load,hu]at h
   rcases Array.mem_push.1 h with h | rfl
   ·exact .inl h
   ·exact .inr ⟨i,rfl⟩
  ·exact .inr h
theorem Zjm (h:SOk s.top s.rest f fs) {t:TypeId} {b:Nat} (he:s.lod=some (t,⟨b,0,none⟩)) {ys:Array Value} {T:TypeId} {fz:Nat×Nat} (hb:w.heap[b]?=some (.cells ys T fz)) {d:TypeDesc} (hd:P.underlying t=some d) (hr:d.isRow=true) (hi:(P.info? t).map (·.size)=some ys.size) (ha:s.ans (.agg ys)=some s') :
    ∃es,stepG P m (run1 f (fs++cs)) w = .go (run1 (f.finish (.agg ys)) (fs++cs)) w es/\(∀x∈es,∃j,x=⟨.cell ((⟨b,0,none⟩:Addr).add j),false,false⟩)/\SOk s'.top s'.rest (f.finish (.agg ys)) fs:=by
  letI : Jk := {j := False, rest := []};obtain⟨o, hp, hx⟩ := Option.bind_eq_some_iff.1 he;obtain⟨ops, i, rest, k, ht, ho, hg, hret, hk⟩ := Z0H hp
  split at hx
  · rename_i t' x hop
    split at hx
    · rename_i q hq
      simp only[Y4, Y9]at hx;obtain⟨rfl, rfl⟩ := hx;have e1 : (execOp f.eval o).run P w = .ok (.value (.agg ys)) w := Zc hop (h.1.val hq) hd hr hi hb
      have hex : execOp f.eval o = (do pure (Next.value (<- Instr.loadAt t' (.pointer (some ⟨b, 0, none⟩))))) := by
        unfold execOp;rw[hop];dsimp only;rw[h.1.val hq]
      have hag:(isAgg t').run P w = .ok true w:=by
        rw[hex]at e1;simp only[Instr.loadAt, Instr.sureAddr, loadVar, isAgg, run_underlying hd, Sem.run_bind, Sem.run_pure, Result.andThen];rw[<-hr]
        cases d<;>rfl
      have hsz:(sizeOf t').run P w = .ok ys.size w:=by
        obtain⟨i, hi1, hi2⟩ := Y3.1 hi;rw[<-hi2];unfold sizeOf typeInfo;simp[Sem.run, hi1, go_sem, Result.andThen]
      have e2:∀x∈(execOp f.eval o).events P w #[],∃j,x=⟨.cell ((⟨b,0,none⟩:Addr).add j),false,false⟩:=by
        intro x hx;have hx2 : x∈(loadCellsFrom ⟨b, 0, none⟩ 0 ys.size #[]).events P w #[] := by
          rw[hex]at hx;simp[Instr.loadAt, Instr.sureAddr, loadVar, hag, hsz, loadCells]at hx;revert hx
          cases (loadCellsFrom ⟨b,0,none⟩ 0 ys.size #[]).run P w<;>exact λh=>h
        have hz:∀j,j<ys.size->(w.cell? ((⟨b,0,none⟩:Addr).add (0+j))).isSome:=λj hj=>by
          have:(⟨b,0,none⟩:Addr).add (0+j)=⟨b,j,none⟩:=by rw[Addr.add_lit,Nat.zero_add,Nat.zero_add]
          rw[this,Z1 hb,Y2 hj];rfl
        rcases Za5 _ _ _ _ _ _ hz x hx2 with q | q
        · simp at q
        · exact q
      refine⟨_,by
        rw[Z1V h hp (by rw[hop];simp),Z0q e1];rfl,λx hx=>?_,(Z2t h ht ha).1⟩
      have := Conc.mem_seen (show x∈lst P f (execOp f.eval o) w from hx);have hke : (f.kind==CallKind.early)=false := by
        cases hkk:f.kind<;>first | rfl | (rw[h.1.kind]at hkk;exact absurd hkk hk)
      rw[hke]at this;exact e2 x this
    · cases hx
  · cases hx
def rcvB(s:St):Bool:=match s.pend with
 | some o=>match o.op with
  | .call c=>match c.callee with
   | .builtin .recover=>true
   | _=>false
  | _=>false
 | none=>false
theorem Zku(hrec:P.follows .rangeFuncRecover=true)(h:SOk s.top s.rest f fs)(he:rcvB s=true)(hk:tryRecover f (fs++cs)=none)(ha:s.ans .nilIface=some s'):
  stepG P m (run1 f (fs++cs)) w = .go (run1 (f.finish .nilIface) (fs++cs)) w #[]/\SOk s'.top s'.rest (f.finish .nilIface) fs:=by
 letI:Jk:={j:=False,rest:=[]};unfold rcvB at he
 split at he
 ·rename_i o hp
  obtain⟨ops,i,rest,k,ht,ho,hg,hret,hkd⟩:=Z0H hp;refine⟨?_,(Z2t h ht ha).1⟩
  split at he
  ·rename_i c hop
   split at he
   ·rename_i hc
    have hr:(execOp f.eval o).run P w = .ok .recover w/\(execOp f.eval o).events P w #[]=#[]:=by
     unfold execOp;rw[hop];dsimp only;unfold resolve;rw[hc];simp[invoke,builtin]
    rw[Z1V h hp (by rw[hop];simp),Z2O hrec hr.1 hk];unfold lst;rw[hr.2];simp[GStep.after,Z10]
   ·cases he
  ·cases he
 ·cases he
theorem Zk5{a:FA}(h:FOk a f)(hr:a.ret=true)(hd:a.defs=[])(hk:a.kind = .normal){fn:Func}(hf:P.funcs[a.fn]?=some fn){t1 t2:Nat}{T:TypeId}(hres:fn.results=#[.tmp t1,.cell t2 T])(e1:a.env.lookup t1=some y)(e2:a.env.lookup t2=some (pt b))(hag:(isAgg T).run P w = .ok false w)(hc:w.cell? ⟨b,0,none⟩=some u)(c:Frame):
  ∃es,stepG P m (run1 f (c::cs)) w = .go (run1 (c.finish (.tuple #[y,u])) cs) w es/\∀x∈es,x=⟨.cell ⟨b,0,none⟩,false,false⟩:=by
 have g1:f.tmps[t1]?.getD undef=y:=by rw[h.env _ _ e1];rfl
 have g2:f.tmps[t2]?.getD undef=pt b:=by rw[h.env _ _ e2];rfl
 have hl:(load ⟨b,0,none⟩ .plain).run P w = .ok u w:=by simp only[load,Sem.run,hc]
 have hrun:(results fn f.tmps).run P w = .ok (.tuple #[y,u]) w/\(results fn f.tmps).events P w #[]=#[⟨.cell ⟨b,0,none⟩,false,false⟩]:=by
  unfold results;rw[hres]
  constructor
  ·simp[g1,g2,pt,loadVar,hag,hc,asAddr,Result.andThen]
  ·simp[g1,g2,pt,loadVar,hag,hc,hl,asAddr,Result.andThen]
 have gm:f.mode = .returning:=by rw[h.mode,hr];rfl
 have gd:f.defers=[]:=h.defs.trans hd;have gf:P.funcs[f.fn]?=some fn:=by rw[h.fn];exact hf
 refine⟨seen P f.fn ((results fn f.tmps).events P w #[])++#[],?_,λx hx=>?_⟩
 ·unfold stepG run1
  simp only[gm];unfold unwind;simp only[gd,gm,gf,Yf,hrun.1];unfold doReturn;simp only[h.kind.trans hk]
  rfl
 ·rw[Array.append_empty]at hx
  have:=Conc.mem_seen hx;rw[hrun.2]at this;simpa using this
end
end Lift
namespace Lift
open Go Go.Conc Go.RowKit Ev
open Go.ConcM (OsLater)
section
variable[Jk]{C:Inv}{r:Ren}{v w w1 v2:World}{S:Nat->Prop}
def Rg(r:Ren)(w:World):Nat->Prop:=λc=>(∃b,r b=some c)/\∃cs e fz,w.heap[c]?=some (.cells cs e fz)
theorem Zkv(h:WH C r v w)(hb:r b=some c)(hx:v.cell? ⟨b,o,none⟩=some x): Rg r w c:=by
 obtain⟨y,hy,_⟩:=Z4F h hb hx;exact⟨⟨b,hb⟩,(Z0J hy).2⟩
theorem ZdO(h:WH C r v w){xs:List Int}(hx:Z8 v (.slice a n c) 1 (xs.map Z7))(hne:xs≠[])(hy:VR r (.slice a n c) y): PV (Rg r w) y:=by
 obtain⟨a0,c0,e0,hl,hc⟩:=hx;simp only[Value.slice.injEq]at e0;obtain⟨rfl,hn,rfl⟩:=e0;obtain⟨b,off,rfl,hb,hk⟩:=hc (by simpa using hne)
 cases hy with
 | @sl a1 a2 _ _ q =>
  cases q with
  | @mk _ b' _ _ q =>
   obtain⟨z,zs,rfl⟩:∃z zs,xs=z::zs:=by cases xs with | nil=>exact absurd rfl hne | cons z zs=>exact⟨z,zs,rfl⟩
   exact Zkv h q (hk 0 0 (Z7 z) (by simp) (by simp))
theorem Zgy(h:WH C r v w)(hn:n=L.length)(h0:L≠[])(hp:∀p∈L,p.2≠[])(hx:Z0M v a L)(hy:VR r (.slice a n c) y):
  ∃a' L',y = .slice a' n c/\PV (Rg r w) (.slice a' n c)/\Z0M w a' L'/\L'.map (·.2)=L.map (·.2)/\∀p∈L',PV (Rg r w) p.1:=by
 obtain⟨h1,h2⟩:=hx;rw[Z0e]at h1;have hl0:0<L.length:=List.length_pos_iff.2 h0;obtain⟨b,off,rfl,hc0⟩:=h1 0 hl0
 cases hy with
 | @sl a1 a2 _ _ q =>
  cases q with
  | @mk _ b' _ _ q =>
   have ex:∀i:_root_.Fin L.length,∃z,VR r (L.getD i (.bool true,[])).1 z/\w.cell? ⟨b',off+i,none⟩=some z:=by
    intro i;obtain⟨b1,off1,e,hc⟩:=h1 i i.2;simp only[Y4,Addr.mk.injEq,and_true]at e;obtain⟨rfl,rfl⟩:=e;obtain⟨z,hz,hv⟩:=Z4F h q hc;exact⟨z,hv,hz⟩
   obtain⟨f,hf⟩:=Classical.axiomOfChoice ex;refine⟨_,(List.finRange L.length).map λi=>(f i,(L.getD i (.bool true,[])).2),rfl,Zkv h q hc0,⟨?_,?_⟩,?_,?_⟩
   ·rw[Z0e]
    intro i hi;simp only[Yj,List.length_finRange]at hi;refine⟨b',off,rfl,?_⟩;rw[(hf ⟨i,hi⟩).2];simp[hi]
   ·intro p hp
    obtain⟨i,-,rfl⟩:=List.mem_map.1 hp;have:=ZdM h (h2 _ (Zb (.bool true,[]) i.2)) (hf i).1;exact this
   ·rw[List.map_map]
    apply List.ext_getElem
    ·simp
    ·intro i q1 q2
     simp at q1;simp[q1]
   ·intro p hp'
    obtain⟨i,-,rfl⟩:=List.mem_map.1 hp';have hm:=Zb (.bool true,[]) i.2 (l:=L);obtain⟨a3,c3,e3,hr3⟩:=h2 _ hm;have hv:=(hf i).1;rw[e3]at hv;exact ZdO h hr3 (hp _ hm) hv
theorem Z6Q(hw:∀c,S c->w1.heap[c]?=w.heap[c]?)(sh:Shadow S w1 v2)(hb:S b)(hx:w.cell? ⟨b,o,none⟩=some x)(hp:PV S x): v2.cell? ⟨b,o,none⟩=some x:=by
 obtain⟨_,cs,e,fz,hc⟩:=Z0J hx;obtain⟨cs',h1,h2,h3⟩:=sh.at_ b hb cs e fz (by rw[hw b hb];exact hc);unfold World.cell? at hx⊢;rw[hc]at hx;rw[h1];exact h3 o x hx hp
theorem Zgz(hw:∀c,S c->w1.heap[c]?=w.heap[c]?)(sh:Shadow S w1 v2){a:Option Addr}{n c:Nat}{L:List (Value×List Int)}(ha:PV S (.slice a n c))(hp:∀p∈L,PV S p.1)(hx:Z0M w a L):Z0M v2 a L:=by
 obtain⟨h1,h2⟩:=hx;rw[Z0e]at h1;refine⟨?_,λp hm=>?_⟩
 ·rw[Z0e]
  intro i hi;obtain⟨b,off,rfl,hc⟩:=h1 i hi;exact⟨b,off,rfl,Z6Q hw sh ha hc (hp _ (Zb (.bool true,[]) hi))⟩
 ·obtain⟨a3,c3,e3,a4,c4,e4,hl,hc⟩:=h2 p hm
  refine⟨a3,c3,e3,a4,c4,e4,hl,λhne=>?_⟩;obtain⟨b,off,rfl,hb,hk⟩:=hc hne;have hs:=hp p hm;rw[e3]at hs;simp only[Value.slice.injEq]at e4;obtain⟨rfl,_⟩:=e4;have key:∀i j x,(p.2.map Z7)[i]?=some x->j<1->v2.cell? ⟨b,off+i*1+j,none⟩=x[j]?:=by
   intro i j x hi hj;have:=hk i j x hi hj;rw[Yn]at hi;obtain⟨z,_,rfl⟩:=Y3.1 hi;obtain rfl:j=0:=by omega
   exact Z6Q hw sh hs this trivial
  refine⟨b,off,rfl,?_,key⟩
  cases hq:p.2 with
  | nil=>rw[hq]at hne;exact absurd rfl hne
  | cons z zs=>exact(Z0J (key 0 0 (Z7 z) (by rw[hq];rfl) (by omega))).1
theorem Zam(hh:∀b,b<v.heap.size->v2.heap[b]?=v.heap[b]?)(hx:Z0M v a L): Z0M v2 a L:=by
 have cell:∀{b o x},v.cell? ⟨b,o,none⟩=some x->v2.cell? ⟨b,o,none⟩=some x:=λ{b o x} hx=>by
  have:=hh b (Z0J hx).1;unfold World.cell? at hx⊢;rw[this];exact hx
 obtain⟨h1,h2⟩:=hx;rw[Z0e]at h1;refine⟨?_,λp hm=>?_⟩
 ·rw[Z0e]
  intro i hi;obtain⟨b,off,rfl,hc⟩:=h1 i hi;exact⟨b,off,rfl,cell hc⟩
 ·obtain⟨a3,c3,e3,a4,c4,e4,hl,hc⟩:=h2 p hm
  refine⟨a3,c3,e3,a4,c4,e4,hl,λhne=>?_⟩;obtain⟨b,off,rfl,hb,hk⟩:=hc hne;have key:∀i j x,(p.2.map Z7)[i]?=some x->j<1->v2.cell? ⟨b,off+i*1+j,none⟩=x[j]?:=by
   intro i j x hi hj;have:=hk i j x hi hj;rw[Yn]at hi;obtain⟨z,_,rfl⟩:=Y3.1 hi;obtain rfl:j=0:=by omega
   exact cell this
  refine⟨b,off,rfl,?_,key⟩
  cases hq:p.2 with
  | nil=>rw[hq]at hne;exact absurd rfl hne
  | cons z zs=>exact(Z0J (key 0 0 (Z7 z) (by rw[hq];rfl) (by omega))).1
theorem Z1D{x:Vm}(hh:∀b,b<v.heap.size->v2.heap[b]?=v.heap[b]?)(h:x.At v):x.At v2:=⟨Zam hh h.d,Zam hh h.l⟩
theorem Z2F(hw:∀c,S c->w1.heap[c]?=w.heap[c]?)(sh:Shadow S w1 v2){a:Option Addr}{n c:Nat}{xs:List Int}(ha:PV S (.slice a n c))(hx:Z8 w (.slice a n c) 1 (xs.map Z7)):Z8 v2 (.slice a n c) 1 (xs.map Z7):=by
 obtain⟨a4,c4,e4,hl,hc⟩:=hx;refine⟨a4,c4,e4,hl,λhne=>?_⟩;obtain⟨b,off,rfl,hb,hk⟩:=hc hne;simp only[Value.slice.injEq]at e4;obtain⟨rfl,_⟩:=e4;have key:∀i j x,(xs.map Z7)[i]?=some x->j<1->v2.cell? ⟨b,off+i*1+j,none⟩=x[j]?:=by
  intro i j x hi hj;have:=hk i j x hi hj;rw[Yn]at hi;obtain⟨z,_,rfl⟩:=Y3.1 hi;obtain rfl:j=0:=by omega
  exact Z6Q hw sh ha this trivial
 refine⟨b,off,rfl,?_,key⟩
 cases hq:xs with
 | nil=>rw[hq]at hne;exact absurd rfl hne
 | cons z zs=>exact(Z0J (key 0 0 (Z7 z) (by rw[hq];rfl) (by omega))).1
theorem PV.imp{S S':Nat->Prop}(h:∀b,S b->S' b)(k:PV S x): PV S' x:=by
 cases x with
 | int _ _=>trivial
 | bool _=>trivial
 | pointer a=>cases a with
  | none=>exact k.elim
  | some a=>exact h _ k
 | slice a n c=>cases a with
  | none=>trivial
  | some a=>exact h _ k
 | _=>exact k.elim
theorem Z5Y(hw:∀c,S c->w1.heap[c]?=w.heap[c]?)(sh:Shadow S w1 v2){b:Nat}(hb:S b){cs:Array Value}{e:TypeId}{fz:Nat×Nat}(h:w.heap[b]?=some (.cells cs e fz))(hp:∀x∈cs,PV S x):v2.heap[b]?=some (.cells cs e (0,cs.size)):=by
 obtain⟨cs',h1,h2,h3⟩:=sh.at_ b hb cs e fz (by rw[hw b hb];exact h);have:cs'=cs:=by
  refine Array.ext h2 λi i1 i2=>?_;have:=h3 i _ (Y2 i2) (hp _ (Array.getElem_mem i2));rw[Y2 i1]at this;exact Y1 this
 rw[this]at h1;exact h1
theorem arr4{a b c d:Value}(h:Arr R #[a,b,c,d] ys): ∃a' b' c' d',ys=#[a',b',c',d']/\R a a'/\R b b'/\R c c'/\R d d':=by
 have hl:=h.lis;generalize hy:ys.toList=l at hl
 cases hl with
 | cons h1 t =>
  cases t with
  | cons h2 t =>
   cases t with
   | cons h3 t =>
    cases t with
    | cons h4 t =>
     cases t with
     | nil=>exact⟨_,_,_,_,Array.ext' hy,h1,h2,h3,h4⟩
theorem arr1{a:Value}(h:Arr R #[a] ys): ∃a',ys=#[a']/\R a a':=by
 have hl:=h.lis;generalize hy:ys.toList=l at hl
 cases hl with
 | cons h1 t =>
  cases t with
  | nil=>exact⟨_,Array.ext' hy,h1⟩
end
end Lift
namespace Lift
open Go
def gJ(k:Nat):Bool:=gB k && !([19,53,54,55,56,107].elem k)
noncomputable def okJ(k:Nat):Bool:=match Tryz.prog.funcs[k]? with
 | some fn=>!(fn.name == "runtime.NumGoroutine")&&match fn.body with
  | some c=>ZT Tryz.prog gJ (λ_ _=>false) true false false false c
  | none=>false
 | none=>false
theorem ownJ:Qy.own.all (λk=>!gJ k||okJ k)=true:=by kernel_rfl
theorem ZjR(h:gJ k=true): gB k=true:=by
 unfold gJ at h;rw[Y5]at h;exact h.1
theorem Zav (h:gJ k=true): k∈Qy.own/\∃fn c,Tryz.prog.funcs[k]?=some fn/\(fn.name == "runtime.NumGoroutine")=false/\fn.body=some c/\ZT Tryz.prog gJ (λ_ _=>false) true false false false c=true:=by
 have h0:=Z65 (ZjR h);have h1:=Yl.1 ownJ k h0;rw[h]at h1;simp only[Bool.not_true,Bool.false_or]at h1;unfold okJ at h1;refine⟨h0,?_⟩
 cases e:Tryz.prog.funcs[k]? with
 | none=>rw[e]at h1;cases h1
 | some fn =>
  rw[e]at h1;simp only[Y5,Bool.not_eq_true']at h1
  cases eb:fn.body with
  | none=>have:=h1.2;rw[eb]at this;cases this
  | some c=>have:=h1.2;rw[eb]at this;exact⟨fn,c,rfl,h1.1,eb,this⟩
section
variable{J:Jk}(hj:J.j)(hg:∀f,J.gd f↔gJ f=true)(hl:∀f,gJ f=true->¬J.law f)(μ:Nat)
include hg hl
include hj in
theorem strip_J:@Strip J Tryz.prog (Qy.F μ) (@CodeOk J Tryz.prog false) (λf=>gJ f=true):=by
 refine @Strip.mk J _ _ _ _ (λf h=>⟨Qy.same μ f (Zav ((hg f).1 h)).1,hl f ((hg f).1 h)⟩) (λf fn h e=>?_) (λf fn c h e eb=>?_) (λf fn h e eb=>?_)<;>rw[Qy.same μ f (Zav ((hg f).1 h)).1]at e<;>obtain⟨_,fn',c',h1,h2,h3,h4⟩:=Zav ((hg f).1 h)<;>rw[h1]at e<;>obtain rfl:=Y1 e
 ·exact h2
 ·rw[h3]at eb
  obtain rfl:=Y1 eb;refine⟨h1,?_,(hg f).1 h⟩;have:=@Z27 J Tryz.prog gJ true (λf q=>(hg f).2 q) (λq=>by cases q) (λ_ _=>false) (λf n q=>by cases q) c' false false false h4;have e2:(false=true)=False:=by simp
  rw[e2]at this;exact this
 ·rw[h3]at eb;cases eb
theorem ZhI:@GOk J Tryz.prog (Qy.F μ) (λf=>gJ f=true):=by
 intro f h;obtain⟨h0,fn,c,h1,h2,h3,h4⟩:=Zav h;have e:=Qy.same μ f h0;exact⟨e,⟨fn,c,e.trans h1,h3⟩,(hg f).2 h,hl f h⟩
theorem Z91{n:FuncId}(hn:gJ n=false)(hnl:¬J.law n){c:Code}(h:ZT Tryz.prog gJ (λ_ _=>false) true false true false c=true): @Z0L J Tryz.prog (J.law n) (¬J.gd n) false c:=by
 have:=@Z27 J Tryz.prog gJ true (λf q=>(hg f).2 q) (λq=>by cases q) (λ_ _=>false) (λf n q=>by cases q) c false true false h;have e1:(false=true)=False:=by simp
 have e2:(true=true)=True:=by simp
 rw[e1,e2]at this;have e3:J.law n=False:=by simp[hnl]
 have e4:(¬J.gd n)=True:=by
  rw[hg];simp[hn]
 rw[e3,e4];exact this
end
end Lift
namespace Lift
open Go Go.Conc Go.RowKit Ev Mx
open Go.ConcM (OsLater)
section
variable[Jk]
variable{D:Nat->Prop}{Post:Value->World->Prop}{w:World}{f:Frame}{fs cs:List Frame}{s s':St}
theorem Z93{a:Addr}(h:¬D a.block)(hl:a.block<w.heap.size)(wr:Bool): EvL (Dk D) w.heap.size ⟨.cell a,wr,false⟩:=by
 refine⟨λx hx hs=>?_,by simp,by simp,hl⟩;simp only[MemAct.ofEvent,MemAct.touch?,Y4]at hx;subst hx
 rcases hs with⟨a',e,hd⟩ | ⟨c,e,_⟩
 ·simp only[Loc.cell.injEq]at e
  subst e;exact absurd hd h
 ·cases e
theorem Sure.agl(h:SOk s.top s.rest f fs){t:TypeId}{b:Nat}(he:s.lod=some (t,⟨b,0,none⟩)){T:TypeId}{fz:Nat×Nat}(hb:w.heap[b]?=some (.cells ys T fz)){d:TypeDesc}(hd:PP.underlying t=some d)(hr:d.isRow=true)(hi:(PP.info? t).map (·.size)=some ys.size)(ha:s.ans (.agg ys)=some s')(hD:¬D b)(k:∀f',SOk s'.top s'.rest f' fs->Sure PP Post D (run1 f' (fs++cs)) w): Sure PP Post D (run1 f (fs++cs)) w:=by
 refine Sure.step rfl λw1 hl=>?_;obtain⟨es,e,he2,k2⟩:=Zjm (m:=true) (cs:=cs) (w:=w1) h he (by rw[hl.1];exact hb) hd hr hi ha;refine⟨_,w1,es,e,λx hx=>?_,by rw[hl.1];exact Ye _,(k _ k2).like hl⟩;obtain⟨j,rfl⟩:=he2 x hx;rw[Addr.add_lit];refine Z93 hD ?_ _;have:=(Y0.1 hb).1;rw[hl.1];exact this
theorem Sure.cal(h:SOk s.top s.rest f fs){g:FuncId}(he:s.cal PP=some (g,xs))(k:Sure PP Post D (run1 (Frame.enter PP g xs .normal) (f::(fs++cs))) w): Sure PP Post D (run1 f (fs++cs)) w:=
 Sure.step rfl λw1 hl=>⟨_,w1,#[],Zgk h he,by simp,by rw[hl.1];exact Ye _,k.like hl⟩
theorem Zcg(h:SOk s.top s.rest f fs){g:FuncId}(he:s.cal PP=some (g,xs)){y:Value}(ha:s.ans y=some s'): SOk s'.top s'.rest (f.finish y) fs:=by
 obtain⟨o,hp,hx⟩:=Option.bind_eq_some_iff.1 he;obtain⟨ops,i,rest,k,ht,ho,hg,hret,hk⟩:=Z0H hp;exact(Z2t h ht ha).1
theorem Sure.sto(h:SOk s.top s.rest f fs){t:TypeId}{p:Addr}{v:Value}(he:s.sto=some (t,p,v))(hag:∀w,(sizeOf t).run PP w = .ok 1 w)(h1:v.oneCell'=true)(h2:v.cells=#[v])(hc:w.cell? p=some u)(hz:w.frozen? p=false)(ha:s.ans undef=some s')(hD:¬D p.block)(k:∀f',SOk s'.top s'.rest f' fs->Sure PP Post D (run1 f' (fs++cs)) (w.setCell p v)): Sure PP Post D (run1 f (fs++cs)) w:=by
 refine Sure.step rfl λw1 hl=>?_;have hc1:w1.cell? p=some u:=by rw[<-hc];unfold World.cell?;rw[hl.1]
 have hz1:w1.frozen? p=false:=by rw[<-hz];unfold World.frozen?;rw[hl.1]
 obtain⟨e,k2⟩:=ZgU (m:=true) (cs:=cs) (w:=w1) h he (hag w1) h1 h2 hc1 hz1 ha;have hsz:w.heap.size<=(w1.setCell p v).heap.size:=by rw[<-hl.1];exact Nat.le_of_eq (by simp[World.setCell])
 refine⟨_,_,_,e,λx hx=>?_,hsz,(k _ k2).like ⟨?_,?_,?_⟩⟩
 ·have:=Conc.mem_seen hx
  simp only[Array.mem_singleton,Yb,List.mem_singleton]at this;subst this;refine Z93 hD ?_ _;have hq:p.block<w.heap.size:=by
   cases hh:w.heap[p.block]? with
   | none=>unfold World.cell? at hc;rw[hh]at hc;simp at hc
   | some o=>exact(Y0.1 hh).1
  exact Y8 hq hsz
 ·simp only[World.setCell,hl.1]
 ·exact hl.2.1
 ·exact hl.2.2
theorem Sure.rcv(h:SOk s.top s.rest f fs)(he:rcvB s=true)(hk:tryRecover f (fs++cs)=none)(ha:s.ans .nilIface=some s')(k:∀f',SOk s'.top s'.rest f' fs->Sure PP Post D (run1 f' (fs++cs)) w):Sure PP Post D (run1 f (fs++cs)) w:=by
 refine Sure.step rfl λw1 hl=>?_;obtain⟨e,k2⟩:=Zku (P:=PP) (m:=true) (cs:=cs) (w:=w1) recP h he hk ha;exact⟨_,w1,#[],e,by simp,by rw[hl.1];exact Ye _,(k _ k2).like hl⟩
theorem Sure.lv2{a:FA}(h:FOk a f)(hr:a.ret=true)(hd:a.defs=[])(hk:a.kind = .normal){fn:Func}(hf:PP.funcs[a.fn]?=some fn){t1 t2:Nat}{T:TypeId}(hres:fn.results=#[.tmp t1,.cell t2 T]){y: Value}{b:Nat}(e1:a.env.lookup t1=some y)(e2:a.env.lookup t2=some (pt b))(hag:∀w,(isAgg T).run PP w = .ok false w)(hc:w.cell? ⟨b,0,none⟩=some u)(hD:¬D b){c:Frame}(k:Sure PP Post D (run1 (c.finish (.tuple #[y,u])) cs) w): Sure PP Post D (run1 f (c::cs)) w:=by
 refine Sure.step rfl λw1 hl=>?_;have hc1:w1.cell? ⟨b,0,none⟩=some u:=by rw[<-hc];unfold World.cell?;rw[hl.1]
 obtain⟨es,e,he⟩:=Zk5 (m:=true) (cs:=cs) (w:=w1) h hr hd hk hf hres e1 e2 (hag w1) hc1 c;refine⟨_,w1,es,e,λx hx=>?_,by rw[hl.1];exact Ye _,k.like hl⟩;rw[he x hx];refine Z93 hD ?_ _;rw[hl.1];exact(Z0J (o:=0) hc).1
theorem ZaS{f g:Frame}{K:List Frame}(hk:f.kind = .deferred)(hm:g.mode = .returning): tryRecover f (g::K)=none:=by
 unfold tryRecover;rw[hk];dsimp only;rw[hm]
end
noncomputable def tA:Code:=sqR (sqR (sqR (sqR aB)))
theorem Zjk:aB = .seq (sqL aB) (.seq (sqL (sqR aB)) (.seq (sqL (sqR (sqR aB))) (.seq (sqL (sqR (sqR (sqR aB)))) tA))):=by kernel_rfl
theorem Zc4:Tryz.f15.body=some aB:=by kernel_rfl
noncomputable def aF:Frame:={(default:Frame) with fn:=15,kind:=.normal}
def aA(xs:Array Value):Act:={tmps:=xs++Array.replicate (22-xs.size) undef,defers:=[]}
theorem Z86(h:Q.funcs[(15:Nat)]?=some Tryz.f15)(xs:Array Value): Frame.enter Q 15 xs .normal=aF.at (aA xs) [.code aB]:=by
 simp[Frame.enter,Frame.at,h,Zc4,aF,aA,Tryz.ntmps15]
noncomputable abbrev jkA:Jk:={j:=True,rest:=[.code tA],gd:=λf=>gJ f=true}
theorem ca0:ZT PP gJ (λ_ _=>false) true false true false (sqL aB)=true:=by kernel_rfl
theorem ca1:ZT PP gJ (λ_ _=>false) true false true false (sqL (sqR aB))=true:=by kernel_rfl
theorem ca2:ZT PP gJ (λ_ _=>false) true false true false (sqL (sqR (sqR aB)))=true:=by kernel_rfl
theorem ca3:ZT PP gJ (λ_ _=>false) true false true false (sqL (sqR (sqR (sqR aB))))=true:=by kernel_rfl
noncomputable def sA0(c7 c8 c9 c10:Nat):St:={top:={fn:=15,n:=22,env:=[(7,pt c7),(8,pt c8),(9,pt c9),(10,pt c10)],todo:=[.code tA],defs:=[Z0g c7],kind:=.normal,ret:=false},rest:=[],cvs:=[],mks:=[],deaf:=0}
noncomputable def sA1(c7 c8 c9 c10:Nat):St:=pn PP xtQ 40 (sA0 c7 c8 c9 c10)
noncomputable def sA2(c7 c8 c9 c10:Nat)(b:Value):St:=pn PP xtQ 1 ((sA1 c7 c8 c9 c10).an b)
noncomputable def sA3(c7 c8 c9 c10:Nat)(b y:Value):St:=pn PP xtQ 40 ((sA2 c7 c8 c9 c10 b).an y)
noncomputable def sA4(c7 c8 c9 c10:Nat)(b y:Value):St:=pn PP xtQ 40 ((sA3 c7 c8 c9 c10 b y).an undef)
noncomputable def sA5(c7 c8 c9 c10:Nat)(b y:Value):St:=pn PP xtQ 40 ((sA4 c7 c8 c9 c10 b y).an .nilIface)
section
variable(c7 c8 c9 c10:Nat)(b y:Value)
theorem kA1:(pnq PP xtQ 40 (sA0 c7 c8 c9 c10),(sA1 c7 c8 c9 c10).cvs,(sA1 c7 c8 c9 c10).lod,(sA1 c7 c8 c9 c10).ans b,(sA1 c7 c8 c9 c10).rest)=(true,[],some (85,⟨c8,0,none⟩),some ((sA1 c7 c8 c9 c10).an b),[]):=by kernel_rfl
theorem kA2:(pnq PP xtQ 1 ((sA1 c7 c8 c9 c10).an b),(sA2 c7 c8 c9 c10 b).cvs,(sA2 c7 c8 c9 c10 b).cal PP,(sA2 c7 c8 c9 c10 b).ans y,(sA2 c7 c8 c9 c10 b).rest)=(true,[],some (66,#[b,.func (.func 67) #[] #[pt c8,pt c9,pt c10]]),some ((sA2 c7 c8 c9 c10 b).an y),[]):=by kernel_rfl
theorem kA3:(pnq PP xtQ 40 ((sA2 c7 c8 c9 c10 b).an y),(sA3 c7 c8 c9 c10 b y).cvs,(sA3 c7 c8 c9 c10 b y).sto,(sA3 c7 c8 c9 c10 b y).ans undef,(sA3 c7 c8 c9 c10 b y).rest)=(true,[],some (30,⟨c7,0,none⟩,.int .i64 0),some ((sA3 c7 c8 c9 c10 b y).an undef),[]):=by kernel_rfl
theorem kA4:(pnq PP xtQ 40 ((sA3 c7 c8 c9 c10 b y).an undef),(sA4 c7 c8 c9 c10 b y).cvs,rcvB (sA4 c7 c8 c9 c10 b y),(sA4 c7 c8 c9 c10 b y).ans .nilIface,(sA4 c7 c8 c9 c10 b y).rest.map (·.ret),(sA4 c7 c8 c9 c10 b y).top.kind)=(true,[],true,some ((sA4 c7 c8 c9 c10 b y).an .nilIface),[true],.deferred):=by kernel_rfl
theorem kA5:(pnq PP xtQ 40 ((sA4 c7 c8 c9 c10 b y).an .nilIface),(sA5 c7 c8 c9 c10 b y).cvs,(sA5 c7 c8 c9 c10 b y).top.ret,(sA5 c7 c8 c9 c10 b y).top.defs,(sA5 c7 c8 c9 c10 b y).top.kind,(sA5 c7 c8 c9 c10 b y).top.fn,(sA5 c7 c8 c9 c10 b y).top.env.lookup 6,(sA5 c7 c8 c9 c10 b y).top.env.lookup 7,(sA5 c7 c8 c9 c10 b y).rest)
  = (true,[],true,[],.normal,15,some y,some (pt c7),[]):=by kernel_rfl
end
end Lift
namespace Lift
open Go Go.Conc Go.RowKit Ev Mx
open Go.ConcM (OsLater)
structure VatC(D S:Nat->Prop)(x:Vm)(w:World):Prop where
 blk:∀b,S b->∃cs e fz,w.heap[b]?=some (.cells cs e fz)
 off:∀b,S b->¬D b
 low:∀c,D c->c<w.heap.size
 da:PV S (.slice x.da x.D.length x.dc)
 la:PV S (.slice x.la x.L.length x.lc)
 dp:∀p∈x.D,PV S p.1
 lp:∀p∈x.L,PV S p.1
 at_:x.At w
theorem VatC.shadow{D:Nat->Prop}{x:Vm}{S:Nat->Prop}{w w1 v:World}(H:VatC D S x w)(hw:∀c,S c->w1.heap[c]?=w.heap[c]?)(sh:Shadow S w1 v): x.At v:=
 ⟨@Zgz jkN _ _ _ _ hw sh _ _ _ _ H.da H.dp H.at_.d,@Zgz jkN _ _ _ _ hw sh _ _ _ _ H.la H.lp H.at_.l⟩
def alkB(x:Vm)(f g:Nat->Int)(k:Nat):Bool:=decide (k<x.L.length)&&alkE x k f g
section
variable[Jk]{C:Inv}{r:Ren}{v w:World}{D:Nat->Prop}
theorem Z5m{B:Int}(hB:1<=B){p:Value×List Int}(h:(p.2.length:Int)=B): p.2≠[]:=by
 intro e;rw[e]at h;simp at h;omega
theorem ZgY{x:Vm}(hv:VOk x)(hx:x.At v)(hw:WH C r v w)(ho:Off D r w)(hy:VR r x.val y): ∃x':Vm,y=x'.val/\AlkV' x' x/\VatC D (Rg r w) x' w:=by
 have hy:VR r (.agg #[.int .i64 x.B,.slice x.da x.D.length x.dc,.slice x.la x.L.length x.lc,.int .i64 x.tol]) y:=hy;have d0:x.D≠[]:=by intro e;have:=hv.d1;rw[e]at this;simp at this
 have l0:x.L≠[]:=by intro e;have:=hv.l1;rw[e]at this;simp at this
 cases hy with
 | @agg _ ys hs1 hs2 =>
  obtain⟨y1,y2,y3,y4,rfl,h1,h2,h3,h4⟩:=arr4 (R:=VR r) ⟨hs1,hs2⟩
  cases h1
  cases h4
  obtain⟨da,D',rfl,pd,ad,md,qd⟩:=Zgy hw rfl d0 (λp hp=>Z5m hv.b1 (hv.dl p hp).1) hx.d h2;obtain⟨la,L',rfl,pl,al,ml,ql⟩:=Zgy hw rfl l0 (λp hp=>Z5m hv.b1 (hv.ll p hp).1) hx.l h3;have dl:D'.length=x.D.length:=by have:=congrArg List.length md;simpa using this
  have ll:L'.length=x.L.length:=by have:=congrArg List.length ml;simpa using this
  refine⟨{B:=x.B,D:=D',da:=da,dc:=x.dc,L:=L',la:=la,lc:=x.lc,tol:=x.tol},by simp only[Vm.val,dl,ll],⟨rfl,rfl,md,ml⟩,⟨λb hb=>hb.2,λb hb hd=>?_,ho.low,?_,?_,qd,ql,⟨ad,al⟩⟩⟩
  ·obtain⟨⟨a,ha⟩,_⟩:=hb
   exact ho.names a b ha hd
  ·rw[dl];exact pd
  ·rw[ll];exact pl
theorem Z4U(hw:WH C r v w)(hl:l≠[])(hr:Z8 v (.slice a l.length c) 1 (l.map Z7))(hy:VR r (.slice a l.length c) y): ∃a',y = .slice a' l.length c/\Z8 w (.slice a' l.length c) 1 (l.map Z7)/\PV (Rg r w) (.slice a' l.length c):=by
 have h1:=ZdO hw hr hl hy;obtain⟨a',rfl,h2⟩:=ZaE hw hr hy;exact⟨a',rfl,h2,h1⟩
end
def AlS(x:Vm)(f g:Nat->Int)(v:World)(V:List Frame)(u:World):Prop:=∃T0 T f',V=[f',poison]/\AlA x f g (re v T0) aF f' (re u T)
theorem Zha{J:Jk}(hj:J.j)(hg:∀f,J.gd f↔gJ f=true)(hn:∀f,¬J.law f)(hr0:J.rest=[.code tA]){D S:Nat->Prop}{Post:Value->World->Prop}{w:World}{x:Vm}(hv:VOk x)(H:VatC D S x w){l': List Int}(hl:RcpOk x l)(hl':RcpOk x l'){a1 a2:Option Addr}{c1 c2:Nat}(hr:Z8 w (.slice a1 l.length c1) 1 (l.map Z7))(hr':Z8 w (.slice a2 l'.length c2) 1 (l'.map Z7))(p1:PV S (.slice a1 l.length c1))(p2:PV S (.slice a2 l'.length c2)){cs:List Frame} (next:∀(S':Nat->Prop) (a:Act) (w':World) (c7 c8 c9 c10:Nat),VatC D S' x w'->a.tmps.size=22->a.tmps[7]?=some (pt c7)->a.tmps[8]?=some (pt c8)->a.tmps[9]?=some (pt c9)->a.tmps[10]?=some (pt c10)->a.defers=[Z0g c7] ->
   S' c7->S' c8->S' c9->S' c10->w'.heap[c7]?=some (.cells #[.int .i64 0] 30 (0,0))->w'.heap[c8]?=some (.cells #[.int .i64 x.B,.slice x.da x.D.length x.dc,.slice x.la x.L.length x.lc,.int .i64 x.tol] 85 (0,0)) ->
   w'.heap[c9]?=some (.cells (tubC (val l)) 88 (0,0))->w'.heap[c10]?=some (.cells (tubC (val l')) 88 (0,0))->(∀b,b<w.heap.size->w'.heap[b]?=w.heap[b]?)->w.heap.size<=w'.heap.size->w'.os=w.os->w'.output=w.output->Sure PP Post D (run1 (aF.at a [.code tA]) cs) w'):
  Sure PP Post D (run1 (Frame.enter PP 15 #[x.val,.slice a1 l.length c1,.slice a2 l'.length c2] .normal) cs) w:=by
 have hS2:Strip PP (Qy.F 1) (CodeOk PP false) (λf=>gJ f=true):=strip_J hj hg (λf _=>hn f) 1;have hG:GOk PP (Qy.F 1) (λf=>gJ f=true):=ZhI hg (λf _=>hn f) 1;have hR:Rec PP:=⟨recP,hn⟩;obtain⟨v,hsh,hwh,hshut⟩:=Z1S (P:=PP) (F:=Qy.F 1) (w:=w) hj H.blk;have hat:x.At v:=H.shadow (λ_ _=>rfl) hsh;have hrv:=@Z2F jkN _ _ _ _ (λ_ _=>rfl) hsh _ _ _ _ p1 hr;have hrv':=@Z2F jkN _ _ _ _ (λ_ _=>rfl) hsh _ _ _ _ p2 hr';have hown:(Qy.F 1)[(15:Nat)]?=PP.funcs[(15:Nat)]?:=Qy.own15.trans (by kernel_rfl);rw[Z86 (Q:=PP) (by kernel_rfl)];have cj:∀{c:Code},ZT PP gJ (λ_ _=>false) true false true false c=true->Z0L PP (Jk.law 15) (¬Jk.gd 15) false c:=λq=>Z91 hg (λf _=>hn f) (by decide) (hn _) q;obtain⟨xs,hxs⟩:∃xs:Array Value,xs=#[x.val,.slice a1 l.length c1,.slice a2 l'.length c2]:=⟨_,rfl⟩;have hargs:VRs (idS S) xs xs:=by
  rw[hxs];refine⟨rfl,λi a b h1 h2=>?_⟩;rw[h1]at h2;obtain rfl:=Y1 h2;have:=Yk h1;simp only[Yb,Yc,Ya,or_false]at this
  rcases this with rfl | rfl | rfl
  ·refine .agg rfl λi a b h1 h2=>?_
   rw[h1]at h2;obtain rfl:=Y1 h2;have:=Yk h1;simp only[Yb,Yc,Ya,or_false]at this
   rcases this with rfl | rfl | rfl | rfl
   ·exact .int _ _
   ·exact H.da.vr
   ·exact H.la.vr
   ·exact .int _ _
  ·exact p1.vr
  ·exact p2.vr
 rw[<-hxs];have hfr:FrR PP (Qy.F 1) (idS S) (aF.at (aA xs) [.code cAli]) (aF.at (aA xs) [.code aB]):=by
  refine @FrR.mk J PP (Qy.F 1) (idS S) _ _ ?c1 ?c2 ?c3 ?c4 ?c5 ?c6 ?c7 ?c8
  case c1=>exact(rfl:(15:Nat)=15)
  case c2=>exact hown
  case c5=>exact⟨.nil,λq=>absurd q (hn _)⟩
  case c6=>exact .run
  case c7=>exact⟨(rfl:CallKind.normal = .normal),.inl (rfl:CallKind.normal = .normal)⟩
  case c8=>exact .none
  ·show VRs (idS S) (xs++Array.replicate (22-xs.size) undef) (xs++Array.replicate (22-xs.size) undef)
   exact Arr.append hargs (Arr.replicate _ .undef)
  ·have:=Zjk
   generalize hq:aB=z at this;refine Todo.cut rfl (λ_=>⟨rfl,rfl⟩) ?_;rw[this,<-hq];exact .seq (cj ca0) (.seq (cj ca1) (.seq (cj ca2) (.seq (cj ca3) (.stop hr0))))
 have hst:Stk PP (Qy.F 1) (idS S) [aF.at (aA xs) [.code cAli]] [aF.at (aA xs) [.code aB]]:=⟨.cons hfr .nil,⟨.inl rfl,λh=>absurd rfl h⟩,trivial⟩;have hF:Has 22 [] (aA xs) [(0,x.val),(1,.slice a1 l.length c1),(2,.slice a2 l'.length c2)]:=by
  rw[hxs];refine⟨rfl,by simp[aA],λk u e=>?_⟩;simp only[Yp,List.lookup_nil]at e
  repeat' split at e
  all_goals first | (cases e;done) | (rename_i q;rw[beq_iff_eq]at q;subst q;obtain rfl:=Y1 e;simp[aA])
 have hEn:Ends (PF PP (Qy.F 1)) (AlS x (val l) (val l') v) [aF.at (aA xs) [.code cAli],poison] v:=by
  obtain⟨T0,hw0⟩:=hwh.tape;obtain⟨σ,hw2⟩:=hw0.retape v.tape;refine Z0O hS2 hG hR ?_ (.inl ⟨[],_,[],_,_,rfl,hst,hw2⟩) λT=>?_
  ·rintro V u T ⟨T1,T2,f',e,q⟩
   exact⟨T1,T2,f',e,q⟩
  ·obtain⟨f',w',hz,n,hn⟩:=Zjo x hv l l' hl hl' a1 a2 c1 c2 (re v T) (Z1D (v:=v) (v2:=re v T) (λb _=>rfl) hat) hrv hrv' aF _ hF
   exact⟨n,f',[poison],w',hn,T,w'.tape,f',rfl,hz⟩
 refine Sure.lone (A:=[]) (B:=[]) hS2 hG hR (λy u=>by rintro⟨T1,T2,f',e,q⟩;cases e) hEn rfl hst hwh ⟨λb c hb=>by obtain⟨q1,rfl⟩:=Z0x hb;exact H.off _ q1,H.low⟩ ?_;intro f' A' g' B' r' v' w' hs hst' hw' hk;obtain⟨T1,T2,f2,e,hq⟩:=hs;simp only[List.cons.injEq]at e;obtain⟨rfl,e⟩:=e;have hA:A'=[]:=by
  cases A' with
  | nil=>rfl
  | cons a0 l0 =>
   have:=congrArg List.length e;simp at this
 subst hA;have hB:B'=[]:=by
  obtain⟨_,h,_⟩:=hst'.uncons;have:=h.rel
  cases B' with
  | nil=>rfl
  | cons b bs=>cases this
 subst hB;obtain⟨a,n7,n8,n9,n10,rfl,F,q7,q8,q9,q10,l7,l8,l9,l10,m8,m9,m10,E⟩:=hq.ex;have hi:Idn r':=λb c hb=>by
  rcases (hk.par hsh.size).2.1 b c hb with q | q
  ·exact(Z0x q).2
  ·exact q.symm
 have hf:=hst'.uncons.1;obtain⟨gfn,gt,gtodo,gdef,gmode,gkind,gound⟩:=g';obtain⟨f1,_,f3,f4,f5,f6,f7,f8⟩:=hf;have e1:gtodo=[.code tA]:=by
  have f4:Todo _ _ _ _ _ [.code (.refuse "")] gtodo:=f4
  cases f4 with
  | cons x y =>
   cases x with
   | code hc=>exact hc.elim
  | tail=>exact hr0
  | cut _ _ h =>
   cases h with
   | stop h=>rw[<-h,hr0]
 have e2:gmode = .run:=by cases f6;rfl
 have e3:gound=none:=by cases f8;rfl
 obtain⟨f7,_⟩:=f7;obtain⟨f5,_⟩:=f5;dsimp only[Frame.at,aF]at f1 f3 f5 f7;subst e1 e2 e3 f1 f7;have slot:∀k n,k<22->a.tmps.getD k undef=pt n->r' n=some n/\gt[k]?=some (pt n):=by
  intro k n hk e;have h2:k<a.tmps.size:=by rw[F.sz];exact hk
  have h3:k<gt.size:=by rw[<-f3.1];exact h2
  have:=f3.2 k _ _ (Y2 h2) (Y2 h3);rw[Y6,Y2 h2]at e;simp only[Option.getD_some]at e;rw[e]at this;rw[Y2 h3];generalize gt[k]=z at this
  cases this with
  | ptr q =>
   cases q with
   | mk q =>
    obtain rfl:=hi _ _ q;exact⟨q,rfl⟩
 obtain⟨s7,g7⟩:=slot 7 n7 (by decide) (F.get 7 _ rfl);obtain⟨s8,g8⟩:=slot 8 n8 (by decide) (F.get 8 _ rfl);obtain⟨s9,g9⟩:=slot 9 n9 (by decide) (F.get 9 _ rfl);obtain⟨s10,g10⟩:=slot 10 n10 (by decide) (F.get 10 _ rfl);have tb:∀(f:Nat->Int),∀y∈tubC f,PF1 S y:=by
  intro f y hy;simp only[tubC,Yb,Yc,Ya,or_false]at hy
  rcases hy with rfl | rfl | rfl | rfl<;>exact .inl trivial
 have k7:=ZF (S:=S) hi hw' ⟨_,s7⟩ q7 (by simp) (by simp[PF1,PV]);have k8:=ZF (S:=S) hi hw' ⟨_,s8⟩ q8 (by simp) (by
  intro y hy;simp only[Yb,Yc,Ya,or_false]at hy
  rcases hy with rfl | rfl | rfl | rfl
  ·exact .inl trivial
  ·exact .inl H.da
  ·exact .inl H.la
  ·exact .inl trivial)
 have k9:=ZF (S:=S) hi hw' ⟨_,s9⟩ q9 (by simp[tubC]) (tb _);have k10:=ZF (S:=S) hi hw' ⟨_,s10⟩ q10 (by simp[tubC]) (tb _);have hd:gdef=[Z0g n7]:=by
  have hds:a.defers=[Z0g n7]:=F.ds;rw[hds]at f5
  cases f5 with
  | cons d t =>
   cases t
   obtain⟨d1,d2⟩:=d;rename_i d0;obtain⟨dt,da⟩:=d0;dsimp only[Z0g]at d1 d2;obtain⟨y,rfl,hy⟩:=arr1 d2
   cases d1 with
   | fn hf q =>
    cases hf
    have:_=(#[]:Array Value):=Array.eq_empty_of_size_eq_zero q.1.symm;subst this
    cases hy with
    | ptr z =>
     cases z with
     | mk z =>
      obtain rfl:=hi _ _ z
      rfl
 have hold:∀b,b<w.heap.size->w'.heap[b]?=w.heap[b]?:=by
  intro b hb
  by_cases q:S b
  ·exact hk.shutW b b (hshut _ _ (Z1E q)) (Z1E q)
  ·refine hk.far b hb λc hc=>?_
   obtain⟨q1,q2⟩:=Z0x hc;exact q (q2▸q1)
 have hsz:w.heap.size<=w'.heap.size:=hk.sizeW;have vs:v.heap.size=w.heap.size:=hsh.size;have l7:v.heap.size<=n7:=l7;have l8:v.heap.size<=n8:=l8;have l9:v.heap.size<=n9:=l9;have l10:v.heap.size<=n10:=l10;have hin:∀b,S b->(S b\/b=n7\/b=n8\/b=n9\/b=n10):=λb h=>.inl h;refine next (λb=>S b\/b=n7\/b=n8\/b=n9\/b=n10) ⟨gt,gdef⟩ w' n7 n8 n9 n10 ⟨λb hb=>?_,λb hb hd=>?_,λc hc=>Y8 (H.low c hc) hsz,H.da.imp hin,H.la.imp hin,λp hp=>(H.dp p hp).imp hin,λp hp=>(H.lp p hp).imp hin,Z1D (v:=w) hold H.at_⟩ (by show gt.size=22;rw[<-f3.1];exact F.sz) g7 g8 g9 g10 hd (.inr (.inl rfl)) (.inr (.inr (.inl rfl))) (.inr (.inr (.inr (.inl rfl)))) (.inr (.inr (.inr (.inr rfl)))) k7 k8 k9 k10 hold hsz hk.os.2.symm hk.out
 ·rcases hb with h | rfl | rfl | rfl | rfl
  ·obtain⟨cs0,e0,fz0,h0⟩:=H.blk b h
   exact⟨cs0,e0,fz0,by rw[hold b (Y0.1 h0).1];exact h0⟩
  ·exact⟨_,_,_,k7⟩
  ·exact⟨_,_,_,k8⟩
  ·exact⟨_,_,_,k9⟩
  ·exact⟨_,_,_,k10⟩
 ·have:=H.low b hd
  rcases hb with h | rfl | rfl | rfl | rfl
  ·exact H.off b h hd
  all_goals omega
end Lift
namespace Lift
open Go Go.Conc Go.RowKit Ev Mx
open Go.ConcM (OsLater)
theorem Zd5(h:IntR base w l y)(e:∀b:Nat,w'.heap[b]?=w.heap[b]?): IntR base w' l y:=by
 rcases h with h | ⟨g,c,h1,h2,h3,h4,h5,h6⟩
 ·exact .inl h
 ·exact .inr ⟨g,c,h1,h2,h3,h4,h5,(e g).trans h6⟩
theorem ZaG{T:TypeId}{fz:Nat×Nat}(h:w.heap[b]?=some (.cells #[x] T fz))(c:Nat): (w.setCell ⟨b,0,none⟩ x).heap[c]?=w.heap[c]?:=by
 simp only[World.setCell]
 by_cases e:b=c
 ·subst e
  have:=(Y0.1 h).1;rw[Array.getElem?_modify];simp[h]
 ·rw[Array.getElem?_modify]
  simp[e]
theorem ZaU{w3 w4: World}{Mu Wg:Nat}(hold:∀b:Nat,b<w.heap.size->w'.heap[b]?=w.heap[b]?)(hsz:w.heap.size<=w'.heap.size)(hos:w'.os=w.os)(hout:w'.output=w.output)(U:UnE l w' w3 y Mu Wg)(e:∀b:Nat,w4.heap[b]?=w3.heap[b]?)(hs:w4.heap.size=w3.heap.size)(ho:w4.os=w3.os)(hu:w4.output=w3.output): UnE l w w4 y Mu Wg:=by
 refine⟨Zd5 (Z8d U.lst hsz) e,λb hb=>?_,?_,?_,?_,⟨Yd hsz U.mu.1,by rw[hs];exact U.mu.2⟩,⟨Yd hsz U.wg.1,by rw[hs];exact U.wg.2⟩,U.ne⟩
 ·rw[e,U.old b (Y8 hb hsz),hold b hb]
 ·rw[hs];exact Yd hsz U.size
 ·rw[ho,<-hos];exact U.os
 ·rw[hu,U.out,hout]
theorem Zkw{c7 c8 c9 c10:Nat}{a:Act}(hsz:a.tmps.size=22)(g7:a.tmps[7]?=some (pt c7))(g8:a.tmps[8]?=some (pt c8))(g9:a.tmps[9]?=some (pt c9))(g10:a.tmps[10]?=some (pt c10))(hd:a.defers=[Z0g c7]):
  SOk (sA0 c7 c8 c9 c10).top (sA0 c7 c8 c9 c10).rest (aF.at a [.code tA]) []:=by
 refine⟨⟨rfl,hsz,λt u e=>?_,rfl,hd,rfl,rfl,rfl⟩,.nil⟩;have e:[(7,pt c7),(8,pt c8),(9,pt c9),(10,pt c10)].lookup t=some u:=e;show a.tmps[t]?=some u;simp only[Yp,List.lookup_nil]at e
 repeat' split at e
 all_goals first | (cases e;done) | (rename_i q;rw[beq_iff_eq]at q;subst q;obtain rfl:=Y1 e;assumption)
theorem Z2A{xs:List FA}(h:Lis FOk xs fs)(e:xs=[]): fs=[]:=by
 subst e
 cases h;rfl
theorem Zdg{xs:List FA}(h:Lis FOk xs fs)(e:xs.map (·.ret)=[true]): ∃g,fs=[g]/\g.mode = .returning:=by
 cases h with
 | nil=>cases e
 | cons a t =>
  simp only[List.map_cons,List.cons.injEq,List.map_eq_nil_iff]at e;obtain⟨e1,rfl⟩:=e
  cases t
  exact⟨_,rfl,by rw[a.mode,e1];rfl⟩
theorem Z7Y:(PP.info? 85).map (·.size)=some 4:=by kernel_rfl
theorem Za2(w:World):(sizeOf 30).run PP w = .ok 1 w:=by kernel_rfl
theorem ZcJ(w:World):(isAgg 30).run PP w = .ok false w:=by kernel_rfl
theorem Z9T:PP.funcs[(15:Nat)]?=some Tryz.f15:=by kernel_rfl
theorem Zhd:Tryz.f15.results=#[.tmp 6,.cell 7 30]:=by kernel_rfl
theorem Zc5{D S:Nat->Prop}{Post:Value->World->Prop}{x:Vm}(hv:VOk x)(H0:VatC D S x w){l': List Int}(hl:RcpOk x l)(hl':RcpOk x l'){a1 a2:Option Addr}{c1 c2:Nat}(hr:Z8 w (.slice a1 l.length c1) 1 (l.map Z7))(hr':Z8 w (.slice a2 l'.length c2) 1 (l'.map Z7))(r1:PV S (.slice a1 l.length c1))(r2:PV S (.slice a2 l'.length c2)){c:Frame}{cs:List Frame}(ret:∀w' y Mu Wg,UnE (Z0z x.L.length (alkB x (val l) (val l'))) w w' y Mu Wg->Sure PP Post (λc=>D c\/c=Mu\/c=Wg) (run1 (c.finish (.tuple #[y,.int .i64 0])) cs) w'):
  Sure PP Post D (run1 (Frame.enter PP 15 #[x.val,.slice a1 l.length c1,.slice a2 l'.length c2] .normal) (c::cs)) w:=by
 letI:Jk:=jkA;refine Zha (J:=jkA) trivial (λf=>Iff.rfl) (λf h=>h) rfl hv H0 hl hl' hr hr' r1 r2 λS a w' c7 c8 c9 c10 H hsz g7 g8 g9 g10 hd s7 s8 s9 s10 q7 q8 q9 q10 hold hsz' hos' hout'=>?_;have k0:=Zkw hsz g7 g8 g9 g10 hd;have b7:c7<w'.heap.size:=(Y0.1 q7).1;obtain⟨B,hB⟩:∃B:Value,B = .agg #[.int .i64 x.B,.slice x.da x.D.length x.dc,.slice x.la x.L.length x.lc,.int .i64 x.tol]:=⟨_,rfl⟩;obtain⟨p1,p2,p3,p4,p5⟩:=by simpa only[Y9] using kA1 c7 c8 c9 c10 B
 refine Sure.pn (cs:=c::cs) xokQ 40 (sA0 c7 c8 c9 c10) k0 p1 p2 λf1 fs1 k1=>?_;obtain rfl:=Z2A k1.2 p5;refine Sure.agl (s:=sA1 c7 c8 c9 c10) k1 p3 q8 Tryz.underlying85 rfl Z7Y (by rw[<-hB];exact p4) (H.off _ s8) λf2 k2=>?_;obtain⟨p1,p2,p3,p4,p5⟩:=by simpa only[Y9] using kA2 c7 c8 c9 c10 B undef
 refine Sure.pn (cs:=c::cs) xokQ 1 _ k2 p1 p2 λf3 fs3 k3=>?_;obtain rfl:=Z2A k3.2 p5;refine Sure.cal (s:=sA2 c7 c8 c9 c10 B) k3 p3 ?_;rw[hB];refine Z8H (x:=x) (S:=S) (ys:=#[pt c8,pt c9,pt c10]) (β:=alkB x (val l) (val l')) (c:=f3) hv.l1 hv.l3 (.inr rfl) H.blk H.off H.low H.da H.la ?_ ?_ ?_ ?_
 ·intro y hy
  simp only[Yb,Yc,Ya,or_false]at hy
  rcases hy with rfl | rfl | rfl
  ·exact s8
  ·exact s9
  ·exact s10
 ·intro k hk
  have:¬k<x.L.length:=by omega
  simp[alkB,this]
 ·intro w1 v1 hw1 sh k hk
  have hat:x.At v1:=H.shadow hw1 sh;have h8:=@Z5Y jkN _ _ _ _ hw1 sh _ s8 _ _ _ q8 (by
   intro y hy;simp only[Yb,Yc,Ya,or_false]at hy
   rcases hy with rfl | rfl | rfl | rfl
   ·trivial
   ·exact H.da
   ·exact H.la
   ·trivial)
  have tb:∀(f:Nat->Int),∀y∈tubC f,PV S y:=by
   intro f y hy;simp only[tubC,Yb,Yc,Ya,or_false]at hy
   rcases hy with rfl | rfl | rfl | rfl<;>trivial
  have h9:=@Z5Y jkN _ _ _ _ hw1 sh _ s9 _ _ _ q9 (tb _);have h10:=@Z5Y jkN _ _ _ _ hw1 sh _ s10 _ _ _ q10 (tb _);have hc:=Z7W (μ:=2) x hv k hk (val l) (val l') (hl.tub) (hl'.tub) c8 c9 c10 _ _ _ _ _ _ v1 hat h8 h9 h10;have hk2:k<x.L.length:=by omega
  have e:alkB x (val l) (val l') k=alkE x k (val l) (val l'):=by
   simp[alkB,hk2]
  rw[e];exact hc.mono λ_ _ q=>q.1
 ·intro w3 y Mu Wg U
  obtain⟨_,_,p3',p4',_⟩:=by simpa only[Y9] using kA2 c7 c8 c9 c10 B y
  have k4:=Zcg k3 p3' p4';obtain⟨p1,p2,p3,p4,p5⟩:=by simpa only[Y9] using kA3 c7 c8 c9 c10 B y
  refine Sure.pn (cs:=c::cs) xokQ 40 _ k4 p1 p2 λf5 fs5 k5=>?_;obtain rfl:=Z2A k5.2 p5;have q7':w3.heap[c7]?=some (.cells #[.int .i64 0] 30 (0,0)):=by rw[U.old c7 b7];exact q7
  have hD7:¬(D c7\/c7=Mu\/c7=Wg):=by
   have m1:=U.mu.1;have m2:=U.wg.1;rintro (q | q | q)
   ·exact H.off _ s7 q
   ·omega
   ·omega
  refine Sure.sto (s:=sA3 c7 c8 c9 c10 B y) k5 p3 Za2 rfl rfl ((Z1 q7' 0).trans rfl) (Zd q7' 0) p4 hD7 λf6 k6=>?_;have hset:=ZaG (x:=.int .i64 0) q7';obtain⟨w4,hw4⟩:∃w4,w4=w3.setCell ⟨c7,0,none⟩ (.int .i64 0):=⟨_,rfl⟩;have hs4:w4.heap.size=w3.heap.size:=by rw[hw4];simp[World.setCell]
  have ho4:w4.os=w3.os:=by rw[hw4];rfl
  have hu4:w4.output=w3.output:=by rw[hw4];rfl
  rw[<-hw4]at hset⊢;obtain⟨p1,p2,p3,p4,p5,p6⟩:=by simpa only[Y9] using kA4 c7 c8 c9 c10 B y
  refine Sure.pn (cs:=c::cs) xokQ 40 _ k6 p1 p2 λf7 fs7 k7=>?_;obtain⟨g,rfl,hg⟩:=Zdg k7.2 p5;refine Sure.rcv (s:=sA4 c7 c8 c9 c10 B y) k7 p3 (ZaS (k7.1.kind.trans p6) hg) p4 λf8 k8=>?_;obtain⟨p1,p2,p3,p4,p5,p6,p7,p8,p9⟩:=by simpa only[Y9] using kA5 c7 c8 c9 c10 B y
  refine Sure.pn (cs:=c::cs) xokQ 40 _ k8 p1 p2 λf9 fs9 k9=>?_;obtain rfl:=Z2A k9.2 p9;refine Sure.lv2 (a:=(sA5 c7 c8 c9 c10 B y).top) k9.1 p3 p4 p5 (by rw[p6];exact Z9T) Zhd p7 p8 ZcJ ((Z1 ((hset c7).trans q7') 0).trans rfl) hD7 ?_;exact ret w4 y Mu Wg (ZaU hold hsz' hos' hout' U hset hs4 ho4 hu4)
end Lift
namespace Lift
open Go Go.Conc Go.RowKit Ev
open Go.ConcM (OsLater)
theorem lawJ(f:FuncId)(h:gJ f=true):¬f=lawF:=by
 rintro rfl;revert h
 decide
section
variable[Jk]{C:Inv}{r:Ren}{v w u w':World}{D:Nat->Prop}
theorem Zj4(hw:WH C r v w)(hu:∀b,b<v.heap.size->u.heap[b]?=v.heap[b]?)(hv:∀b,b<w.heap.size->w'.heap[b]?=w.heap[b]?)(he:u.os.env=w'.os.env){a b:Nat}{cs:Array Value}{e:TypeId}
  (h1:u.heap[a]?=some (.cells cs e (0,0))) (h2:w'.heap[b]?=some (.cells cs e (0,0))) (ha:v.heap.size<=a) (hb:w.heap.size<=b) (hcs:∀x∈cs,∃n,x = .int .i64 n):WH C (r.add a b) u w'/\r.le (r.add a b):=by
 have hlt:∀c d,r c=some d->c<v.heap.size/\d<w.heap.size:=λc d q=>by
  obtain⟨o,o',g1,g2,_⟩:=hw.on _ _ q;exact⟨(Y0.1 g1).1,(Y0.1 g2).1⟩
 have hinj:Inj (r.add a b):=λx y c hx hy=>by
  unfold Ren.add at hx hy
  split at hx<;>split at hy
  ·omega
  ·have:=(hlt _ _ hy).2
   obtain rfl:=Y1 hx;omega
  ·have:=(hlt _ _ hx).2
   obtain rfl:=Y1 hy;omega
  ·exact hw.inj _ _ _ hx hy
 have hle:r.le (r.add a b):=⟨λx c h=>by
  unfold Ren.add;rw[if_neg (by have:=(hlt _ _ h).1;omega)];exact h,λ_=>hinj⟩
 refine⟨⟨λx c h=>?_,hinj,he⟩,hle⟩;unfold Ren.add at h
 split at h
 ·rename_i q
  subst q;obtain rfl:=Y1 h;refine⟨_,_,h1,h2,.cells ⟨rfl,λi y z hy hz=>?_⟩ (.inl ⟨rfl,rfl⟩)⟩;rw[hy]at hz;obtain rfl:=Y1 hz;obtain⟨n,rfl⟩:=hcs _ (Yk hy);exact .int _ _
 ·obtain⟨o,o',g1,g2,g3⟩:=hw.on _ _ h
  exact⟨o,o',by rw[hu _ (hlt _ _ h).1];exact g1,by rw[hv _ (hlt _ _ h).2];exact g2,g3.mono hle⟩
theorem Zem(hw:WH C r v w)(hu:∀b,b<v.heap.size->u.heap[b]?=v.heap[b]?)(hv:∀b,b<w.heap.size->w'.heap[b]?=w.heap[b]?)(he:u.os.env=w'.os.env):WH C r u w':=
 ⟨λx c h=>by
  obtain⟨o,o',g1,g2,g3⟩:=hw.on _ _ h;exact⟨o,o',by rw[hu _ (Y0.1 g1).1];exact g1,by rw[hv _ (Y0.1 g2).1];exact g2,g3⟩,hw.inj,he⟩
theorem arr3{a b c:Value}(h:Arr R #[a,b,c] ys): ∃a' b' c',ys=#[a',b',c']/\R a a'/\R b b'/\R c c':=by
 have hl:=h.lis;generalize hy:ys.toList=l at hl
 cases hl with
 | cons h1 t =>
  cases t with
  | cons h2 t =>
   cases t with
   | cons h3 t =>
    cases t with
    | nil=>exact⟨_,_,_,Array.ext' hy,h1,h2,h3⟩
theorem ZlT(h:xs.size=3): ∃a b c,xs=#[a,b,c]:=by
 obtain⟨l⟩:=xs
 match l,h with
 | [a,b,c],_=>exact⟨a,b,c,rfl⟩
end
theorem Z9r{o o':Os}(h:OsLater o o'):o'.env=o.env:=by
 obtain⟨d,rfl⟩:=h
 rfl
structure KeptW(v u w w':World)(r r':Ren):Prop where
 lone:∀b,b<v.heap.size->u.heap[b]?=v.heap[b]?
 old:∀b,b<w.heap.size->w'.heap[b]?=w.heap[b]?
 size:w.heap.size<=w'.heap.size
 os:OsLater w.os w'.os
 out:w'.output=w.output
 new:∀a b,r' a=some b->r a=some b\/w.heap.size<=b
def tG(c:Nat):Nat->Question->Nat:=λ_ q=>match q with
 | .appendCap n _ _=>if n=7 then 0 else c-n
 | _=>0
end Lift
namespace Lift
open Go Go.Conc
open Go.ConcN (sumTo upd sumTo_upd upd_ne upd_same)
variable[Jk]
section
variable{P:Program}{F:Array Func}{G:FuncId->Prop}{Post:Value->World->Prop}{D:Nat->Prop}{g:Goroutine}{v w w':World}{r:Ren}
theorem Sure.moves2(hr:g.status = .running)
  (hm:∀w1,Like w w1->∀(gs:Array Goroutine) sl t q w0 sl0,gs[0]?=some g->Leavers P t gs q->Past (Dk D) w.heap.size t->stepT P (crowd gs w0 sl0)=runT P (crowd gs w1 sl) 0->Run P Post (crowd gs w0 sl0) t):Sure P Post D g w:=by
 have key:∀(M:Nat) w1,Like w w1->∀(gs:Array Goroutine) sl t q,sumTo gs.size q<M->gs[0]?=some g->Leavers P t gs q->Past (Dk D) w.heap.size t->Run P Post (crowd gs w1 sl) t:=by
  intro M
  induction M with
  | zero=>exact λw1 hw gs sl t q hM=>absurd hM (Nat.not_lt_zero _)
  | succ M ih =>
   intro w1 hw gs sl t q hM h0 hL hP;obtain⟨i,x,d,sl',hi,hx,hst⟩:=crowd_pick (P:=P) (w:=w1) (sl:=sl) (Z4i h0 hr hL) ⟨0,g,h0,hr⟩
   rcases Nat.eq_zero_or_pos i with rfl | hpos
   ·exact hm (w1.at d) (hw.at d) gs sl' t q _ _ h0 hL hP hst
   ·have hq:=hL.old i x hpos hi
    have hi0:(i==0)=false:=by simp;omega
    have hlt:i<gs.size:=(Y0.1 hi).1
    cases hqi:q i with
    | zero=>rw[hqi]at hq;rw[hq.1]at hx;cases hx
    | succ k =>
     rw[hqi]at hq
     rcases hq with⟨hf,_⟩ | ⟨_,x',es,hmu,hstp,hq'⟩
     ·rw[hf]at hx;cases hx
     have hrunT:=runT_crowd_go (P:=P) (sl:=sl') (i:=i) hi (by rw[hi0];exact hstp (w1.at d));have hsz:((gs.map (woken P x x' (w1.at d))).setIfInBounds i x').size=gs.size:=by simp
     have hsum:sumTo gs.size (upd q i k)+(k+1)=sumTo gs.size q+k:=by
      have:=sumTo_upd q k id hlt;simpa[hqi] using this
     have hne:i≠0:=by omega
     refine Run.next (hst.trans hrunT) (ih (w1.at d) (hw.at d) _ sl' _ (upd q i k) (by rw[hsz];omega) ?_ ⟨λj y hj hy=>?_,λj hj=>?_⟩ (hP.mute hne hmu))
     ·rw[Yq hne,Array.getElem?_map,h0]
      simp[woken_run hr]
     ·by_cases hji:i=j
      ·subst hji
       rw[Array.getElem?_setIfInBounds_self_of_lt (by simpa using hlt)]at hy;obtain rfl:=Y1 hy;rw[upd_same,Deaf_own];exact hq'
      ·rw[Yq hji,Array.getElem?_map]at hy
       obtain⟨z,hz,rfl⟩:=Y3.1 hy;have hqj:=hL.old j z hj hz;rw[woken_quitsD hqj,upd_ne q k (Ne.symm hji),Deaf_other t hji _ (λop hop=>by obtain⟨e,_,rfl⟩:=Go.Conc.mem_ofEvents hop;rfl)];exact hqj
     ·rw[Deaf_other t (g':=i) (by simp at hj;omega) _ (λop hop=>by obtain⟨e,_,rfl⟩:=Go.Conc.mem_ofEvents hop;rfl)]
      exact hL.above j (by simpa using hj)
 exact λw1 hw gs sl t q h0 hL hP=>key _ w1 hw gs sl t q (Nat.lt_succ_self _) h0 hL hP
theorem Sure.last(hr:g.status = .running)(h:∀w1,Like w w1->∃x w' es,stepG P true g w1 = .ended (.done x) w' es/\(∀e∈es,EvL (Dk D) w'.heap.size e)/\w.heap.size<=w'.heap.size/\Post x w'):Sure P Post D g w:=by
 refine Sure.moves2 hr λw1 hw gs sl t q w0 sl0 h0 hL hP hm=>?_;obtain⟨x,w',es,hend,hes,hsz,hpost⟩:=h w1 hw;have hrunT:=runT_many_ended (P:=P) (sl:=sl) (i:=0) h0 (show stepG P (0==0) g w1=_ from hend);have hP':=(hP.mono hsz).own (fn:=g.frame.fn) (pos:=g.frame.place) hes;refine Run.end (hm.trans hrunT) ⟨x,rfl,hpost,hP'.clean,hP'.over,⟨λy hy=>?_,rfl⟩,λj y hy hj=>?_⟩
 ·obtain⟨j,hj⟩:=List.mem_iff_getElem?.1 hy
  rw[List.getElem?_drop]at hj;exact⟨_,(hL.old (1+j) y (by omega) (by simpa[crowd] using hj)).leaves⟩
 ·have hq:=hL.old j y (by omega) hy
  refine⟨q j,?_⟩;have e:(t++MemOp.ofEvents 0 g.frame.fn g.frame.place es).deaf j (t++MemOp.ofEvents 0 g.frame.fn g.frame.place es).size=Deaf t j:=
   Deaf_other t (g:=j) (g':=0) (by omega) _ (λop hop=>by obtain⟨e,_,rfl⟩:=Go.Conc.mem_ofEvents hop;rfl)
  rw[e];exact hq.hears _
theorem Zdf{fr g:Frame}(hf:FrR P F r fr g)(hw:WH (Iv P F) r v w){T:Nat->Question->Nat}(hl:fr.leaving (PF P F) (re v T) (.returned x))(hi:P.inits.idxOf? g.fn=none):
  ∃r' T' y w' ns,stepG P true (run1 g []) w = .ended (.done y) w' ns/\VR r' x y/\WR (Iv P F) r' (re v T') w'/\Kept r r' (re v T') (re v T') w w'/\∀e∈ns,EvG r' (re v T') w' e:=by
 obtain⟨hm,hd,hk,fn,hfn,hr⟩:=hl;obtain⟨T',hw'⟩:=hw.tape;have hr':=Z4q hf.tmps hw hr T';have o:=(Z22 (P:=P) (F:=F) (fn:=fn) hf.tmps).sim (re v T') w hw' #[];rw[hr']at o;obtain⟨r',y,w',ns,e,hw2,hn,hkk,he⟩:=o;have gm:g.mode = .returning:=by
  have:=hf.mode;rw[hm]at this;generalize g.mode=z at this⊢
  cases this
  rfl
 have gd:g.defers=[]:=by
  have:=hf.defers.1;rw[hd]at this;generalize g.defers=z at this⊢
  cases this
  rfl
 have gk:g.kind = .normal:=hf.kind.1▸hk;have gf:P.funcs[g.fn]?=some fn:=by rw[<-hf.fn,<-hf.own];exact hfn
 have e1:(results fn g.tmps).run P w = .ok y w':=by
  have:=congrArg Prod.fst e;simpa only[Yf] using this
 have e2:(results fn g.tmps).events P w #[]=#[]++ns:=by
  have:=congrArg Prod.snd e;simpa only[Yf] using this
 refine⟨r',T',y,w',seen P g.fn ((results fn g.tmps).events P w #[])++#[],?_,hn,hw2,hkk,?_⟩
 ·unfold stepG run1
  simp only[gm];unfold unwind;simp only[gd,gm,gf,Yf,e1];unfold doReturn;simp only[gk,hi]
  rfl
 ·intro x hx
  rw[Array.append_empty]at hx;exact Z0S e2 he x hx
end
end Lift
namespace Lift
open Go Go.Conc Go.RowKit Ev
open Go.ConcM (OsLater)
structure Since(w0:World)(r:Ren)(v w:World):Prop where
 old:∀b,b<w0.heap.size->w.heap[b]?=w0.heap[b]?
 size:w0.heap.size<=w.heap.size
 os:OsLater w0.os w.os
 out:w.output=w0.output
 shut:∀a b,r a=some b->b<w0.heap.size->Shut v a
theorem Since.kep[Jk]{r r':Ren}(k:Kep r r' v v' w w')(h:Since w0 r v w): Since w0 r' v' w':=by
 refine⟨λb hb=>?_,Yd h.size k.sizeW,?_,?_,λa b q hb=>?_⟩
 ·rw[<-h.old b hb]
  by_cases hn:∃a,r a=some b
  ·obtain⟨a,ha⟩:=hn
   exact k.shutW a b (h.shut a b ha hb) ha
  ·exact k.far b (Y8 hb h.size) λa ha=>hn ⟨a,ha⟩
 ·have:w'.os=w.os:=k.os.2.symm
  rw[this];exact h.os
 ·have:w'.output=w.output:=k.out
  rw[this];exact h.out
 ·rcases k.new a b q with q | ⟨_,q⟩
  ·exact k.shutS (h.shut a b q hb)
  ·have:=h.size
   omega
theorem Since.more{r r':Ren}(k:KeptW v v' w w' r r')(hlt:∀a b,r a=some b->a<v.heap.size)(h:Since w0 r v w): Since w0 r' v' w':=by
 refine⟨λb hb=>(k.old b (Y8 hb h.size)).trans (h.old b hb),Yd h.size k.size,h.os.trans k.os,k.out.trans h.out,λa b q hb=>?_⟩
 rcases k.new a b q with q | q
 ·obtain⟨cs,e,z⟩:=h.shut a b q hb
  exact⟨cs,e,(k.lone a (hlt a b q)).trans z⟩
 ·have:=h.size
  omega
def Zja(w0:World)(x:Value)(w:World):Prop:=x = .bool true/\(∀b,b<w0.heap.size->w.heap[b]?=w0.heap[b]?)/\w0.heap.size<=w.heap.size/\OsLater w0.os w.os/\w.output=w0.output
end Lift
end Go.Proofs.YtfelljbfeoplhaaGreat
