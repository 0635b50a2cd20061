/- Parts of a proof. No conditions. -/
import Derived.Test.YtfelljbfeoplhaaGreatPkh7
set_option linter.unusedVariables false
set_option linter.unusedSimpArgs false
set_option linter.unusedSectionVars false
set_option maxRecDepth 100000
set_option maxHeartbeats 4000000
namespace Go.Proofs.YtfelljbfeoplhaaGreat
variable{B b base i k n q t1 t2:Nat}{v v' w w' w0:Go.World}{fn:Go.Func}{pos:String}{D Om S:Nat->Prop}{c:Go.Code}{R:Go.Value->Go.Value->Prop}{xs ys:Array Go.Value}{a:Go.Act}{P:Go.Program}{T:Go.TypeId}{l:List Int}{u y:Go.Value}{g:Go.FuncId}{fs:List Go.Frame}{h m:Int}
namespace Lift
open Go Go.Conc Ev
open Mx
open Go.ConcM (OsLater woken_by_blocked)
open Go.ConcN (upd upd_ne upd_same sumTo sumTo_upd)
variable[Jk]
section
variable{X:Ph}{Y:Da}{gs:Array Goroutine}{w:World}{t:Trace}{g:Goroutine}{x d c it:Nat}{sl:Option (Nat×Nat)}{ws:Nat->WS}{σ:WS}{tag:CT}{a b:Int}
def sum3(f:WS->Nat)(ws:Nat->WS):Nat:=f (ws 0)+f (ws 1)+f (ws 2)
theorem Z0P(f:WS->Nat)(hx:x<3):sum3 f (upd ws x σ)+f (ws x)=sum3 f ws+f σ:=by
 have:x=0\/x=1\/x=2:=by omega
 unfold sum3;rcases this with rfl | rfl | rfl
 ·rw[upd_same,upd_ne _ _ (by omega:(1:Nat)≠0),upd_ne _ _ (by omega:(2:Nat)≠0)];omega
 ·rw[upd_same,upd_ne _ _ (by omega:(0:Nat)≠1),upd_ne _ _ (by omega:(2:Nat)≠1)];omega
 ·rw[upd_same,upd_ne _ _ (by omega:(0:Nat)≠2),upd_ne _ _ (by omega:(1:Nat)≠2)];omega
theorem Zgn{v v': Nat}(h:v'<=v)(tag:CT): phi n v' tag<=phi n v tag:=by
 cases tag<;>simp only[phi]<;>omega
theorem Z83:vsum ws=sum3 WS.cnt ws:=rfl
theorem Z1k:mu1 X Y=phi X.n (sum3 WS.cnt Y.ws) Y.tag+Y.r+sum3 WS.stg Y.ws:=rfl
theorem ZhP:mu2 Y=sum3 WS.spn Y.ws:=rfl
theorem Mode.same(h:Mode ws tag a b)(hx:x<3)(h1:(∃c it,ws x = .mx c it)\/ws x = .d1)(h2:(∃c it,σ = .mx c it)\/σ = .d1):Mode (upd ws x σ) tag a b:=by
 have c1:(ws x).cnt=1:=by rcases h1 with⟨c,it,e⟩ | e<;>rw[e]<;>rfl
 have c2:σ.cnt=1:=by rcases h2 with⟨c,it,e⟩ | e<;>rw[e]<;>rfl
 have hv:vsum (upd ws x σ)=vsum ws:=by
  have:=Z0P (ws:=ws) (σ:=σ) WS.cnt hx;rw[Z83,Z83];omega
 have hall:(∀y,ws y = .no\/(∃c it,ws y = .mx c it)\/ws y = .d1\/ws y = .qt)->∀y,upd ws x σ y = .no\/(∃c it,upd ws x σ y = .mx c it)\/upd ws x σ y = .d1\/upd ws x σ y = .qt:=by
  intro h y;by_cases hy:y=x
  ·subst hy;rw[upd_same];rcases h2 with e | e
   ·exact .inr (.inl e)
   ·exact .inr (.inr (.inl e))
  ·rw[upd_ne _ _ hy];exact h y
 have bad:∀{q:Prop},(ws x = .no\/ws x = .qt)->q:=by
  intro q h;rcases h with e | e<;>rw[e]at c1<;>cases c1
 cases h with
 | opn h1 h2 h3 =>
  have:=Mode.opn (ws:=upd ws x σ) h1 (hall h2) (λv e=>by rw[hv];exact h3 v e);rw[hv]at this;exact this
 | reg h1 h2 h3 =>
  have:=Mode.reg (ws:=upd ws x σ) h1 (hall h2) (by rw[hv];exact h3);rw[hv]at this;exact this
 | last L h1 h2 h3 h4 =>
  by_cases hL:x=L
  ·subst hL;rcases h3 with e | e<;>rw[e]at c1<;>cases c1
  ·exact bad (h4 x hL)
 | last4 L h1 h2 h3 h4 =>
  by_cases hL:x=L
  ·subst hL;rw[h3]at c1;cases c1
  ·exact bad (h4 x hL)
 | sema h1 h2=>exact bad (h2 x)
 | fin h1 h2=>exact bad (h2 x)
theorem Zfq(β:Nat->Bool):(λy=>((upd ws x σ) y).code (β y))=upd (λy=>(ws y).code (β y)) x (σ.code (β x)):=by
 funext y;by_cases hy:y=x
 ·subst hy;rw[upd_same,upd_same]
 ·rw[upd_ne _ _ hy,upd_ne _ _ hy]
theorem Ci.tab0(C:Ci X Y gs w t)(hx:x<3):∃y z,lk ((Y.ws x).code (X.β x)) y z Y.mu Y.ms=some Y.r/\∀σ mu' ms',lk (((upd Y.ws x σ) 0).code (X.β 0)) (((upd Y.ws x σ) 1).code (X.β 1)) (((upd Y.ws x σ) 2).code (X.β 2)) mu' ms'=lk (σ.code (X.β x)) y z mu' ms':=by
 obtain⟨y,z,h1,h2⟩:=ZeW (f:=λy=>(Y.ws y).code (X.β y)) hx C.tab;refine⟨y,z,h1,λσ mu' ms'=>?_⟩;have:=h2 (σ.code (X.β x)) mu' ms';rw[<-Zfq]at this;exact this
theorem Ci.tabS(C:Ci X Y gs w t)(h:σ.code (X.β x)=(Y.ws x).code (X.β x)):(∀y,((upd Y.ws x σ) y).code (X.β y)=(Y.ws y).code (X.β y)):=by
 intro y;by_cases hy:y=x
 ·subst hy;rw[upd_same];exact h
 ·rw[upd_ne _ _ hy]
theorem ZaG{g':Goroutine}(hg:gs[i]?=some g)(hr:g.status = .running)(hb:g'.status = .blocked): fl ((gs.map (woken PP g g' w)).setIfInBounds i g')<fl gs:=by
 have hlt:i<gs.size:=(Y0.1 hg).1;have e1:gs.map (woken PP g g' w)=gs:=by
  have:woken PP g g' w=id:=by funext o;exact woken_by_blocked hb
  rw[this,Array.map_id]
 rw[e1];unfold fl;have hs:(gs.setIfInBounds i g').size=gs.size:=by simp
 rw[hs];have e2:(λj=>flg (gs.setIfInBounds i g')[j]?)=upd (λj=>flg gs[j]?) i 0:=by
  funext j;by_cases hj:j=i
  ·subst hj;rw[upd_same,Array.getElem?_setIfInBounds_self_of_lt hlt];simp[flg,hb]
  ·rw[upd_ne _ _ hj,Yq (Ne.symm hj)]
 rw[e2];have hsum:sumTo gs.size (upd (λj=>flg gs[j]?) i 0)+flg gs[i]?=sumTo gs.size (λj=>flg gs[j]?)+0:=by
  have:=sumTo_upd (λj=>flg gs[j]?) 0 id hlt;simpa using this
 rw[hg]at hsum;simp only[flg,hr,if_true]at hsum;simp only[flg]at hsum⊢;omega
theorem ZhO{Y':Da}{gs':Array Goroutine}(h1:mu1 X Y'=mu1 X Y)(h2:mu2 Y'=mu2 Y)(h3:Y'.h0=Y.h0)(h4:Y'.h=Y.h)(h5:Y'.q=Y.q)(hs:gs'.size=gs.size)(h:fl gs'<fl gs): Mr (mea X Y' gs') (mea X Y gs):=by
 unfold mea;rw[h1,h2,h3,h4,h5,hs];exact .right _ (.right _ (.right _ (.right _ (.right _ (.right _ (.right _ h))))))
theorem Ci.move(C:Ci X Y gs w t)(hok:PhOk X)(hx:x<Y.Z.j)(hg:gs[X.m0+x]?=some g)(hws:Y.ws x = .mx c it)(hi:itOk c it)(hc:c≠OUT)(hat:Z0x (X.kx Y.Lb x) [bot] c it (Y.Z.O x) (Deaf t (X.m0+x)) g w):Z0E X Y gs w sl t (X.m0+x):=by
 obtain⟨hxn,hx3⟩:=C.x3 hok hx;have hm0:=hok.m0;have S:=C.sep;obtain⟨y,z,ht1,ht2⟩:=C.tab0 hx3;have hcode:(Y.ws x).code (X.β x)=c:=by rw[hws];rfl
 rw[hcode]at ht1;obtain⟨hpin,hpok⟩:=ZiT ht1;obtain⟨_,_,hms,_⟩:=Z4L ht1;obtain⟨hbx,hoff⟩:=C.bx x hx;have hβ:X.β x=true:=by
  cases hb:X.β x
  ·have:=C.out x hb;rw[hcode]at this;exact absurd this hc
  ·rfl
 have hd:Deaf t (X.m0+x)=dpc c:=hat.1;have hgr:g.status = .running:=Z1N _ _ _ _ hat
 have H:Prem X.K (X.kx Y.Lb x) (Y.Z.O x) c it Y.s Y.mu Y.ms w:=⟨hok.ok _ _ hxn,C.sh,⟨hbx.found,hbx.lamp,C.ro _ _ hbx.ob,C.ro _ _ hbx.ol⟩,C.vmu,C.vms,hms,hi,by rw[C.len];exact hok.kn.symm,Zmy ht1⟩;have l1:=(Y0.1 C.sh.mu).1;have l3:=(Y0.1 C.sh.fd).1;rcases moves (RO:=Y.Z.RO x) ((Zlr hpin).resolve_left hc) H hoff hat with⟨hs1,hm0',hgo⟩ | ⟨l,x',mu',dd,it',g',w',es,hl,hm,hdd,hgo,hE,hL,hi',hsp,hWT,hwk⟩
 ·-- it waits
  have eu:upd Y.ws x (Y.ws x)=Y.ws:=Z25 _ _;have eg:Grow (Y.Z.O x) w w=Y.Z.O x:=Z0y _ _ _ rfl;have hrun:=runT_crowd_go (P:=PP) (sl:=sl) (i:=X.m0+x) hg (by rw[show (X.m0+x==0)=false by simp;omega];exact hgo);refine⟨_,_,w,_,hrun,C.wstep hok hx hg (σ:=Y.ws x) (hx':=Y.h x) (qx:=Y.q (X.m0+x)) (s':=Y.s) (mu':=Y.mu) (ms':=Y.ms) (r':=Y.r) (λc _ _ _ _ _=>rfl) (λ_ _=>rfl) (Ye _) (OsLater.refl _) rfl C.sh C.vmu C.vms (by rw[eu];exact C.tab) (C.out x) C.len (by rw[eu];exact C.fd) (by rw[eu];exact C.mode)
   (Zay sU) ⟨λh=>.inl h,λh=>.inl h⟩ ?_ (λhs=>absurd hws (hs c it)),?_⟩
  ·unfold Wrk Da.wk;dsimp only;rw[upd_same,hws];dsimp only;rw[upd_same,eg];refine⟨hi,.inr ⟨hs1,hm0',rfl,?_,?_⟩⟩
   ·obtain⟨_,f,fs,wst,q,_,rfl⟩:=hat
    rfl
   ·obtain⟨h1,f,fs,wst,q,h2,rfl⟩:=hat
    exact⟨h1,f,fs,wst,q,h2,rfl⟩
  ·exact ZhO (by simp only[mu1,Da.wk,eu]) (by simp only[mu2,Da.wk,eu]) rfl (by simp only[Da.wk,Z25]) (by simp only[Da.wk,Z25]) sU (ZaG hg hgr rfl)
 ·obtain⟨h',hh⟩:=hWT.height;obtain⟨r',hr1,hr2⟩:=ZiU ht1 hl hm hdd;obtain⟨p1,p2,p3⟩:=Zls hpok hl hm;have eg:Grow (Y.Z.O x) w w'=Y.Z.O x:=Z0y _ _ _ hE.size;have hgr':g'.status = .running:=hh.running Z1N;have hrun:=runT_crowd_go (P:=PP) (sl:=sl) (i:=X.m0+x) hg (by rw[show (X.m0+x==0)=false by simp;omega];exact hgo);have e32:(32:Nat)=32:=rfl;refine⟨_,_,w',_,hrun,C.wstep hok hx hg (σ:=.mx x' it') (hx':=h') (qx:=Y.q (X.m0+x)) (s':=_) (mu':=mu') (ms':=sms Y.ms dd) (r':=r') (λc _ _ h1 h2 h3=>hE.same c h1 h2 h3) (λc hc=>?_) (Nat.le_of_eq hE.size.symm) hE.os hE.out hE.sh rfl rfl (by rw[ht2];exact hr1) (λh=>by rw[hβ]at h;cases h) ?_ (λy hy=>?_) (C.mode.same hx3 (.inl ⟨c,it,hws⟩) (.inl ⟨x',it',rfl⟩))
   (by rw[hd];exact hL.evT (by rw[hE.size];exact l1) (by rw[hE.size];exact l3) rfl) ⟨λh0=>?_,λh=>.inl h⟩ ?_ (λhs=>absurd rfl (hs x' it')),?_⟩
  ·have:=S.shared x c hx (C.ro x c hc);exact hE.same c this.1 this.2.1 this.2.2.1
  ·dsimp only;split
   ·rw[List.length_set];exact C.len
   ·exact C.len
  ·dsimp only;have hf:=C.fd y hy;by_cases hyx:y=x
   ·subst hyx;rw[hcode,hβ]at hf;rw[upd_same,hβ];show _=some (true&&pst x');split
    ·rename_i h32;rw[p1 h32];show (Y.s.fd.set y true)[y]?=_;have hlen:y<Y.s.fd.length:=by rw[C.len];exact hy
     rw[List.getElem?_set_self hlen];rfl
    ·rename_i h32;rw[p2 h32];exact hf
   ·rw[upd_ne _ _ hyx];split
    ·show (Y.s.fd.set x true)[y]?=_;rw[List.getElem?_set_ne (Ne.symm hyx)];exact hf
    ·exact hf
  ·by_cases h2:dd=2
   ·exact .inr ⟨hwk h2,hgr'⟩
   ·refine .inl ?_;unfold sms;omega
  ·unfold Wrk Da.wk;dsimp only;rw[upd_same];dsimp only;rw[upd_same,upd_same,eg,hd,hL.deaf];exact⟨hi',.inl hh⟩
  ·have s1:=Z0P (ws:=Y.ws) (σ:=.mx x' it') WS.cnt hx3;have s2:=Z0P (ws:=Y.ws) (σ:=.mx x' it') WS.stg hx3;have s3:=Z0P (ws:=Y.ws) (σ:=.mx x' it') WS.spn hx3;rw[hws]at s1 s2 s3;simp only[WS.cnt,WS.stg,WS.spn]at s1 s2 s3;rcases hr2 with hr2 | ⟨hr2,hr3⟩
   ·refine ZbL ?_;rw[Z1k,Z1k];show phi X.n (sum3 WS.cnt (upd Y.ws x (.mx x' it'))) Y.tag+r'+sum3 WS.stg (upd Y.ws x (.mx x' it'))<_;rw[show sum3 WS.cnt (upd Y.ws x (.mx x' it'))=sum3 WS.cnt Y.ws by simp only[WS.cnt]at *;omega];omega
   ·refine ZmF ?_ ?_
    ·rw[Z1k,Z1k];show phi X.n (sum3 WS.cnt (upd Y.ws x (.mx x' it'))) Y.tag+r'+sum3 WS.stg (upd Y.ws x (.mx x' it'))=_;rw[show sum3 WS.cnt (upd Y.ws x (.mx x' it'))=sum3 WS.cnt Y.ws by simp only[WS.cnt]at *;omega];omega
    ·rw[ZhP,ZhP];show sum3 WS.spn (upd Y.ws x (.mx x' it'))<_;have:=hsp hr3;omega
end
end Lift
namespace Lift
open Go Go.Conc Ev
open Mx
open Go.ConcM (OsLater woken_by_blocked quitsD_running)
open Go.ConcN (upd upd_ne upd_same sumTo sumTo_upd)
variable[Jk]
section
variable{X:Ph}{Y:Da}{gs:Array Goroutine}{w w':World}{t:Trace}{g g':Goroutine}{x d c it:Nat}{sl:Option (Nat×Nat)}{ws:Nat->WS}{σ:WS}{tag:CT}{a b:Int}{es:Array Event}
theorem Ci.group(C:Ci X Y gs w t)(hok:PhOk X)(hx:x<Y.Z.j)(hg:gs[X.m0+x]?=some g){s':Sh}(hgo:stepG PP false g w = .go g' w' es)(hE:Eff X.K w w' s')(e1:s'.mu=Y.s.mu)(e2:s'.ms=Y.s.ms)(e3:s'.fd=Y.s.fd)(hcode:σ.code (X.β x)=(Y.ws x).code (X.β x))(hmode:Mode (upd Y.ws x σ) Y.tag s'.wg s'.ws)(hev:∀Z:Zn,EvT X.K Z x w'.heap.size (Deaf t (X.m0+x)) es)(hwk:Y.s.ws=0->s'.ws=0\/Zbt g g')(hown:∀Y',Y'.ws x=σ->Y'.q (X.m0+x)=q->Y'.Lb=Y.Lb->Wrk X Y' x (deafBehind (Deaf t (X.m0+x)) es) g' w')(hsaid:Said X.K Y.Z X.p0 (t++MemOp.ofEvents (X.m0+x) g.frame.fn g.frame.place es) x)(hcnt:σ.cnt<=(Y.ws x).cnt)(hstg:σ.stg<(Y.ws x).stg): Z0E X Y gs w sl t (X.m0+x):=by
 obtain⟨hxn,hx3⟩:=C.x3 hok hx;have hm0:=hok.m0;have S:=C.sep;have hT:=C.tabS (σ:=σ) hcode;have hrun:=runT_crowd_go (P:=PP) (sl:=sl) (i:=X.m0+x) hg (by rw[show (X.m0+x==0)=false by simp;omega];exact hgo);refine⟨_,_,w',_,hrun,C.wstep hok hx hg (σ:=σ) (hx':=Y.h x) (qx:=q) (s':=s') (mu':=Y.mu) (ms':=Y.ms) (r':=Y.r) (λc _ _ h1 h2 h3=>hE.same c h1 h2 h3) (λc hc=>?_) (Nat.le_of_eq hE.size.symm) hE.os hE.out hE.sh (by rw[e1];exact C.vmu) (by rw[e2];exact C.vms) (by rw[hT,hT,hT];exact C.tab) (λh=>by rw[hcode];exact C.out x h) (by rw[e3];exact C.len) (λy hy=>by rw[hT,e3];exact C.fd y hy) hmode
  (hev _) ⟨λh=>.inl h,hwk⟩ (hown _ (upd_same _ _ _) (upd_same _ _ _) rfl) (λ_=>hsaid),?_⟩
 ·have:=S.shared x c hx (C.ro x c hc);exact hE.same c this.1 this.2.1 this.2.2.1
 ·refine ZbL ?_;have s1:=Z0P (ws:=Y.ws) (σ:=σ) WS.cnt hx3;have s2:=Z0P (ws:=Y.ws) (σ:=σ) WS.stg hx3;rw[Z1k,Z1k];show phi X.n (sum3 WS.cnt (upd Y.ws x σ)) Y.tag+Y.r+sum3 WS.stg (upd Y.ws x σ)<_;have:=Zgn (n:=X.n) (show sum3 WS.cnt (upd Y.ws x σ)<=sum3 WS.cnt Y.ws by omega) Y.tag;omega
theorem DLst.saidK(C:Ci X Y gs w t)(hx:x<Y.Z.j)(hs:∀c it,Y.ws x ≠ .mx c it){fn:FuncId}{bk dd:Nat}(h:DLst bk dd es): Said X.K Y.Z X.p0 (t++MemOp.ofEvents (X.m0+x) fn pos es) x:=
 (C.said x hx hs).same h.noplain
theorem Zae(C:Ci X Y gs w t)(hok:PhOk X):vsum Y.ws<=Y.Z.j:=by
 have h3:Y.Z.j<=3:=by
  have:=Zaa C.tok;rw[<-C.zj]at this;have:=hok.n3;omega
 have c1:∀y,(Y.ws y).cnt<=1:=λy=>by cases Y.ws y<;>simp[WS.cnt]
 have c0:∀y,Y.Z.j<=y->(Y.ws y).cnt=0:=λy hy=>by rw[C.no y hy];rfl
 have a0:=c1 0;have a1:=c1 1;have a2:=c1 2;unfold vsum;have:Y.Z.j=0\/Y.Z.j=1\/Y.Z.j=2\/Y.Z.j=3:=by omega
 rcases this with e | e | e | e
 ·have:=c0 0 oM;have:=c0 1 oM;have:=c0 2 oM;omega
 ·have:=c0 1 oM;have:=c0 2 oM;omega
 ·have:=c0 2 oM;omega
 ·omega
theorem Z99(C:Ci X Y gs w t)(hok:PhOk X):vsum Y.ws+pend Y.tag<=3:=by
 have h1:=Zae C hok;have h2:=C.zj;have h3:=C.tok;have h4:=hok.n3;cases ht:Y.tag<;>rw[ht]at h2 h3<;>simp only[tagJ,Z7Y,pend]at h2 h3 ⊢ <;> omega
theorem ZlZ(h:ws x = .d1)(hx:x<3):1<=vsum ws:=by
 have:x=0\/x=1\/x=2:=by omega
 unfold vsum;rcases this with rfl | rfl | rfl<;>rw[h]<;>simp only[WS.cnt]<;>omega
theorem Mode.at1(h:Mode ws tag a b)(hx:x<3)(h1:ws x = .d1)(h3:vsum ws+pend tag<=3)(hno:∀y,3<=y->ws y = .no):
  b=0/\∃n e:Nat,1<=n/\n<=3/\e<=1/\a=(n:Int)*4294967296+e/\(n=1/\e=1->Mode (upd ws x .d2) tag (((n-1:Nat):Int)*4294967296+e) 0)/\(¬(n=1/\e=1)->Mode (upd ws x .qt) tag (((n-1:Nat):Int)*4294967296+e) 0):=by
 have hv:=ZlZ h1 hx;have vq:vsum (upd ws x .qt)=vsum ws-1:=by
  have:=Z0P (ws:=ws) (σ:=.qt) WS.cnt hx;rw[h1]at this;simp only[WS.cnt]at this;rw[Z83,Z83];omega
 have hall:(∀y,ws y = .no\/(∃c it,ws y = .mx c it)\/ws y = .d1\/ws y = .qt)->∀y,upd ws x .qt y = .no\/(∃c it,upd ws x .qt y = .mx c it)\/upd ws x .qt y = .d1\/upd ws x .qt y = .qt:=by
  intro h y;by_cases hy:y=x
  ·subst hy;rw[upd_same];exact .inr (.inr (.inr rfl))
  ·rw[upd_ne _ _ hy];exact h y
 have bad:∀{q:Prop},(ws x = .no\/ws x = .qt)->q:=by
  intro q h;rcases h with e | e<;>rw[e]at h1<;>cases h1
 cases h with
 | opn k1 k2 k3 =>
  refine⟨rfl,vsum ws+pend tag,0,oM,h3,oM,sU,oM,λ_=>?_⟩;have:=Mode.opn (ws:=upd ws x .qt) k1 (hall k2) (λv e=>by rw[vq];have:=k3 v e;omega);rw[vq]at this;have e:vsum ws+pend tag-1=vsum ws-1+pend tag:=by omega
  rw[e];simpa using this
 | reg k1 k2 k3 =>
  refine⟨rfl,vsum ws,1,hv,oM,oM,sU,λh=>?_,λh=>?_⟩
  ·rw[h.1];refine Mode.last x k1 hx (.inl (upd_same _ _ _)) λy hy=>?_;rw[upd_ne _ _ hy];rcases Nat.lt_or_ge y 3 with hy3 | hy3
   ·have hc:(ws y).cnt=0:=by
     have h:=h.1;unfold vsum at h;have cx:(ws x).cnt=1:=by rw[h1];rfl
     have e1:x=0\/x=1\/x=2:=by omega
     have e2:y=0\/y=1\/y=2:=by omega
     rcases e1 with rfl | rfl | rfl<;>rcases e2 with rfl | rfl | rfl<;>omega
    rcases k2 y with e | ⟨c,it,e⟩ | e | e
    ·exact .inl e
    ·rw[e]at hc;cases hc
    ·rw[e]at hc;cases hc
    ·exact .inr e
   ·exact .inl (hno y hy3)
  ·have:=Mode.reg (ws:=upd ws x .qt) k1 (hall k2) (by rw[vq];omega)
   rw[vq]at this;exact this
 | last L k1 k2 k3 k4 =>
  by_cases hL:x=L
  ·subst hL;rcases k3 with e | e<;>rw[e]at h1<;>cases h1
  ·exact bad (k4 x hL)
 | last4 L k1 k2 k3 k4 =>
  by_cases hL:x=L
  ·subst hL;rw[k3]at h1;cases h1
  ·exact bad (k4 x hL)
 | sema k1 k2=>exact bad (k2 x)
 | fin k1 k2=>exact bad (k2 x)
theorem Ci.no3(C:Ci X Y gs w t)(hok:PhOk X):∀y,3<=y->Y.ws y = .no:=λy hy=>C.no y (by
 have:=Zaa C.tok;rw[<-C.zj]at this;have:=hok.n3;omega)
theorem Ci.word(C:Ci X Y gs w t)(hok:PhOk X)(hx:x<Y.Z.j)(hg:gs[X.m0+x]?=some g)(hws:Y.ws x = .mx OUT it)(hat:Z0x (X.kx Y.Lb x) [bot] OUT it (Y.Z.O x) (Deaf t (X.m0+x)) g w):Z0E X Y gs w sl t (X.m0+x):=by
 obtain⟨hxn,hx3⟩:=C.x3 hok hx;obtain⟨hd,g',hgo,q,hq⟩:=ZjI (hok.ok _ _ hxn) C.sh hat
 have l2:=(Y0.1 C.sh.wg).1;refine C.group hok hx hg (σ:=.d1) (q:=q) hgo (Eff.nil C.sh (OsLater.refl _) rfl rfl) rfl rfl rfl (by rw[hws];rfl) (C.mode.same hx3 (.inl ⟨OUT,it,hws⟩) (.inr rfl)) (λZ=>?_) (λh=>.inl h) (λY' h1 h2 h3=>?_) ?_ (by rw[hws];exact Ye 1) (by rw[hws];show (5:Nat)<7;decide)
 ·intro n e he;rcases Z2I he with⟨_,rfl⟩ | ⟨m,_,h⟩
  ·exact⟨l2,sU,λa ha _=>by simp[MemAct.ofEvent,MemAct.touch?]at ha⟩
  ·cases h
 ·unfold Wrk;rw[h1,h2,h3,hd];exact hq
 ·have:=Said.now (K:=X.K) (Z:=Y.Z) (x:=x) C.ti.start (fn:=g.frame.fn) (pos:=g.frame.place) (by rw[C.zm];exact hd)
  rw[C.zm]at this;exact this
theorem Ci.done1(C:Ci X Y gs w t)(hok:PhOk X)(hx:x<Y.Z.j)(hg:gs[X.m0+x]?=some g)(hws:Y.ws x = .d1)(hat:Z1m (X.kx Y.Lb x) [bot] 1 (Deaf t (X.m0+x)) g):Z0E X Y gs w sl t (X.m0+x):=by
 obtain⟨hxn,hx3⟩:=C.x3 hok hx;obtain⟨hb0,n,e,h1,h3,he,ha,m1,m2⟩:=C.mode.at1 hx3 hws (Z99 C hok) (C.no3 hok);obtain⟨hd,g',w',hgo,hE,hr⟩:=ZjE (hok.ok _ _ hxn) C.sh hat h1 h3 he ha;have l2:=(Y0.1 C.sh.wg).1;have hL:DLst X.K.Wg 1 #[⟨.cell ⟨X.K.Wg,0,none⟩,false,true⟩,⟨.cell ⟨X.K.Wg,0,none⟩,true,true⟩]:=.rw 0 Nat.one_pos;have hs0:∀c it,Y.ws x ≠ .mx c it:=λc it h=>by rw[hws]at h;cases h
 by_cases hc:n=1/\e=1
 ·rw[if_pos hc]at hr;obtain⟨q,hq⟩:=hr;refine C.group hok hx hg (σ:=.d2) (q:=q) hgo hE rfl rfl rfl (by rw[hws];rfl) (by rw[hb0];exact m1 hc) (λZ=>by rw[hd,hE.size];exact hL.evT (.inr rfl) l2) (λh=>.inl h) (λY' k1 k2 k3=>?_) (hL.saidK C hx hs0) (by rw[hws];decide) (by rw[hws];decide);unfold Wrk;rw[k1,k2,k3,hd,hL.deaf];exact hq
 ·rw[if_neg hc]at hr;obtain⟨q,hq⟩:=hr;refine C.group hok hx hg (σ:=.qt) (q:=q) hgo hE rfl rfl rfl (by rw[hws];rfl) (by rw[hb0];exact m2 hc) (λZ=>by rw[hd,hE.size];exact hL.evT (.inr rfl) l2) (λh=>.inl h) (λY' k1 k2 k3=>?_) (hL.saidK C hx hs0) (by rw[hws];decide) (by rw[hws];decide);unfold Wrk;rw[k1,k2,hd,hL.deaf];exact hq
theorem Mode.at23(h:Mode ws tag a b)(hx:x<3)(h1:ws x = .d2\/ws x = .d3):a=1/\b=0/\Z8z tag/\∀y,y≠x->ws y = .no\/ws y = .qt:=by
 have bad:∀{q:Prop},(ws x = .no\/(∃c it,ws x = .mx c it)\/ws x = .d1\/ws x = .qt)->q:=by
  intro q h;rcases h1 with k | k<;>rw[k]at h<;>rcases h with e | ⟨c,it,e⟩ | e | e<;>cases e
 cases h with
 | opn _ k _=>exact bad (k x)
 | reg _ k _=>exact bad (k x)
 | last L k1 k2 k3 k4 =>
  by_cases hL:x=L
  ·subst hL;exact⟨rfl,rfl,k1,k4⟩
  ·exact bad ((k4 x hL).elim .inl λh=>.inr (.inr (.inr h)))
 | last4 L k1 k2 k3 k4 =>
  by_cases hL:x=L
  ·subst hL;rcases h1 with e | e<;>rw[e]at k3<;>cases k3
  ·exact bad ((k4 x hL).elim .inl λh=>.inr (.inr (.inr h)))
 | sema k1 k2=>exact bad ((k2 x).elim .inl λh=>.inr (.inr (.inr h)))
 | fin k1 k2=>exact bad ((k2 x).elim .inl λh=>.inr (.inr (.inr h)))
theorem Mode.at4(h:Mode ws tag a b)(hx:x<3)(h1:ws x = .d4):a=0/\b=0/\Z8z tag/\∀y,y≠x->ws y = .no\/ws y = .qt:=by
 have bad:∀{q:Prop},(ws x = .no\/(∃c it,ws x = .mx c it)\/ws x = .d1\/ws x = .qt)->q:=by
  intro q h;rw[h1]at h;rcases h with e | ⟨c,it,e⟩ | e | e<;>cases e
 cases h with
 | opn _ k _=>exact bad (k x)
 | reg _ k _=>exact bad (k x)
 | last L k1 k2 k3 k4 =>
  by_cases hL:x=L
  ·subst hL;rw[h1]at k3;rcases k3 with e | e<;>cases e
  ·exact bad ((k4 x hL).elim .inl λh=>.inr (.inr (.inr h)))
 | last4 L k1 k2 k3 k4 =>
  by_cases hL:x=L
  ·subst hL;exact⟨rfl,rfl,k1,k4⟩
  ·exact bad ((k4 x hL).elim .inl λh=>.inr (.inr (.inr h)))
 | sema k1 k2=>exact bad ((k2 x).elim .inl λh=>.inr (.inr (.inr h)))
 | fin k1 k2=>exact bad ((k2 x).elim .inl λh=>.inr (.inr (.inr h)))
theorem Ci.done2(C:Ci X Y gs w t)(hok:PhOk X)(hx:x<Y.Z.j)(hg:gs[X.m0+x]?=some g)(hws:Y.ws x = .d2)(hat:Z1m (X.kx Y.Lb x) [bot] 2 (Deaf t (X.m0+x)) g):Z0E X Y gs w sl t (X.m0+x):=by
 obtain⟨hxn,hx3⟩:=C.x3 hok hx;obtain⟨ha,hb,hr,hy⟩:=C.mode.at23 hx3 (.inl hws);obtain⟨hd,g',hgo,q,hq⟩:=ZjF (hok.ok _ _ hxn) C.sh hat ha;have l2:=(Y0.1 C.sh.wg).1;have hL:DLst X.K.Wg 1 #[⟨.cell ⟨X.K.Wg,0,none⟩,false,true⟩]:=.rd 0 Nat.one_pos;have hs0:∀c it,Y.ws x ≠ .mx c it:=λc it h=>by rw[hws]at h;cases h
 refine C.group hok hx hg (σ:=.d3) (q:=q) hgo (Eff.nil C.sh (OsLater.refl _) rfl rfl) rfl rfl rfl (by rw[hws];rfl) (by rw[ha,hb];exact .last x hr hx3 (.inr (upd_same _ _ _)) λy h=>by rw[upd_ne _ _ h];exact hy y h) (λZ=>by rw[hd];exact hL.evT (.inr rfl) l2) (λh=>.inl h) (λY' k1 k2 k3=>?_) (hL.saidK C hx hs0) (by rw[hws];decide) (by rw[hws];decide);unfold Wrk;rw[k1,k2,k3,hd,hL.deaf];exact hq
theorem Ci.done3(C:Ci X Y gs w t)(hok:PhOk X)(hx:x<Y.Z.j)(hg:gs[X.m0+x]?=some g)(hws:Y.ws x = .d3)(hat:Z1m (X.kx Y.Lb x) [bot] 3 (Deaf t (X.m0+x)) g):Z0E X Y gs w sl t (X.m0+x):=by
 obtain⟨hxn,hx3⟩:=C.x3 hok hx;obtain⟨ha,hb,hr,hy⟩:=C.mode.at23 hx3 (.inr hws);obtain⟨hd,g',w',hgo,hE,q,hq⟩:=ZjG (hok.ok _ _ hxn) C.sh hat
 have l2:=(Y0.1 C.sh.wg).1;have hL:DLst X.K.Wg 1 #[⟨.cell ⟨X.K.Wg,0,none⟩,true,true⟩]:=.wr 0 Nat.one_pos;have hs0:∀c it,Y.ws x ≠ .mx c it:=λc it h=>by rw[hws]at h;cases h
 refine C.group hok hx hg (σ:=.d4) (q:=q) hgo hE rfl rfl rfl (by rw[hws];rfl) (by rw[hb];exact .last4 x hr hx3 (upd_same _ _ _) λy h=>by rw[upd_ne _ _ h];exact hy y h) (λZ=>by rw[hd,hE.size];exact hL.evT (.inr rfl) l2) (λh=>.inl h) (λY' k1 k2 k3=>?_) (hL.saidK C hx hs0) (by rw[hws];decide) (by rw[hws];decide);unfold Wrk;rw[k1,k2,k3,hd,hL.deaf];exact hq
theorem Ci.done4(C:Ci X Y gs w t)(hok:PhOk X)(hx:x<Y.Z.j)(hg:gs[X.m0+x]?=some g)(hws:Y.ws x = .d4)(hat:Z1m (X.kx Y.Lb x) [bot] 4 (Deaf t (X.m0+x)) g):Z0E X Y gs w sl t (X.m0+x):=by
 obtain⟨hxn,hx3⟩:=C.x3 hok hx;obtain⟨ha,hb,hr,hy⟩:=C.mode.at4 hx3 hws;obtain⟨hd,hwk,g',w',hgo,hE,q,hq⟩:=ZjH (hok.ok _ _ hxn) C.sh hat hb;have l2:=(Y0.1 C.sh.wg).1;have hL:DLst X.K.Wg 1 (semEvents ⟨X.K.Wg,1,none⟩):=.sem 1;have hs0:∀c it,Y.ws x ≠ .mx c it:=λc it h=>by rw[hws]at h;cases h
 have hall:∀y,upd Y.ws x .qt y = .no\/upd Y.ws x .qt y = .qt:=λy=>by
  by_cases h:y=x
  ·subst h;exact .inr (upd_same _ _ _)
  ·rw[upd_ne _ _ h];exact hy y h
 refine C.group hok hx hg (σ:=.qt) (q:=q) hgo hE rfl rfl rfl (by rw[hws];rfl) (by rw[ha];exact .sema hr hall) (λZ=>by rw[hd,hE.size];exact hL.evT (.inr rfl) l2) (λ_=>.inr ⟨hwk,quitsD_running hq⟩) (λY' k1 k2 k3=>?_) (hL.saidK C hx hs0) (by rw[hws];decide) (by rw[hws];decide);unfold Wrk;rw[k1,k2,hd,hL.deaf];exact hq
theorem Ci.slipD(C:Ci X Y gs w t)(hok:PhOk X)(hx:x<Y.Z.j)(hg:gs[X.m0+x]?=some g)(hs:∀c it,Y.ws x ≠ .mx c it)(h:Slip (Z1m (X.kx Y.Lb x) [bot] n) (Y.q (X.m0+x)) (Deaf t (X.m0+x)) g)(mk:∀Y' d' g',Y'.ws x=Y.ws x->Y'.Lb=Y.Lb->Slip (Z1m (X.kx Y.Lb x) [bot] n) (Y'.q (X.m0+x)) d' g'->Wrk X Y' x d' g' w): Z1m (X.kx Y.Lb x) [bot] n (Deaf t (X.m0+x)) g\/Z0E X Y gs w sl t (X.m0+x):=by
 cases hq:Y.q (X.m0+x) with
 | zero=>rw[hq]at h;exact .inl h
 | succ q =>
  rw[hq]at h;rcases h with h | ⟨_,g',es,hm,hgo,h'⟩
  ·exact .inl h
  ·refine .inr (C.slip hok hx hg hs hm (hgo w) (q:=q) (by rw[hq];exact Nat.lt_succ_self q) (mk _ _ _ (upd_same _ _ _) rfl ?_))
   show Slip _ (upd Y.q (X.m0+x) q (X.m0+x)) _ _;rw[upd_same];exact h'
theorem Ci.work(C:Ci X Y gs w t)(hok:PhOk X)(hx:x<Y.Z.j)(hg:gs[X.m0+x]?=some g)(hr:g.status = .running):Z0E X Y gs w sl t (X.m0+x):=by
 obtain⟨g0,hg0,hw⟩:=C.wrk x hx;rw[hg]at hg0;obtain rfl:=Y1 hg0;have hw0:=hw;unfold Wrk at hw;cases hws:Y.ws x with
 | no=>rw[hws]at hw;exact hw.elim
 | mx c it =>
  rw[hws]at hw;dsimp only at hw;obtain⟨hi,hw | ⟨_,_,hb,_,_⟩⟩:=hw
  ·rcases hw.cases' with hat | ⟨g',w',es,h',hgo,hG,hh,hs⟩
   ·by_cases hc:c=OUT
    ·subst hc;exact C.word hok hx hg hws hat
    ·exact C.move hok hx hg hws hi hc hat
   ·refine C.quiet hok hx hg hws hgo hG hh hs λd' hh=>?_;unfold Wrk Da.wk;dsimp only;rw[upd_same,hws];dsimp only;rw[upd_same,upd_same];exact⟨hi,.inl hh⟩
  ·rw[hb]at hr;cases hr
 | d1 =>
  rw[hws]at hw;rcases C.slipD hok hx hg (λc it h=>by rw[hws]at h;cases h) hw (λY' d' g' k1 k2 k3=>by unfold Wrk;rw[k1,hws,k2];exact k3) with h | h
  ·exact C.done1 hok hx hg hws h
  ·exact h
 | d2 =>
  rw[hws]at hw;rcases C.slipD hok hx hg (λc it h=>by rw[hws]at h;cases h) hw (λY' d' g' k1 k2 k3=>by unfold Wrk;rw[k1,hws,k2];exact k3) with h | h
  ·exact C.done2 hok hx hg hws h
  ·exact h
 | d3 =>
  rw[hws]at hw;rcases C.slipD hok hx hg (λc it h=>by rw[hws]at h;cases h) hw (λY' d' g' k1 k2 k3=>by unfold Wrk;rw[k1,hws,k2];exact k3) with h | h
  ·exact C.done3 hok hx hg hws h
  ·exact h
 | d4 =>
  rw[hws]at hw;rcases C.slipD hok hx hg (λc it h=>by rw[hws]at h;cases h) hw (λY' d' g' k1 k2 k3=>by unfold Wrk;rw[k1,hws,k2];exact k3) with h | h
  ·exact C.done4 hok hx hg hws h
  ·exact h
 | qt =>
  rw[hws]at hw;dsimp only at hw;cases hq:Y.q (X.m0+x) with
  | zero=>rw[hq]at hw;rw[hw.1]at hr;cases hr
  | succ q =>
   rw[hq]at hw;rcases hw with⟨hf,_⟩ | ⟨_,g',es,hm,hgo,h'⟩
   ·rw[hf]at hr;cases hr
   ·refine C.slip hok hx hg (λc it h=>by rw[hws]at h;cases h) hm (hgo w) (q:=q) (by rw[hq];exact Nat.lt_succ_self q) ?_
    unfold Wrk Da.wk;dsimp only;rw[upd_same,hws];dsimp only;rw[upd_same];exact h'
end
end Lift
namespace Lift
open Go Go.Conc Ev
open Mx
open Go.ConcM (OsLater woken_by_blocked quitsD_running)
open Go.ConcN (upd upd_ne upd_same sumTo sumTo_upd)
variable[Jk]
section
variable{X:Ph}{Y:Da}{gs:Array Goroutine}{w w':World}{t:Trace}{a a':Goroutine}{sl:Option (Nat×Nat)}{es:Array Event}
def Big(X:Ph)(Y:Da)(c:Nat):Prop:=X.wS.heap.size<=c/\c≠X.K.Mu/\c≠X.K.Wg/\c≠X.K.Fd/\∀x,x<Y.Z.j->¬Y.Z.O x c
theorem Zjv(S:Sep X.K X.D Y.Z)(hok:PhOk X):Sep X.K X.D {Y.Z with Om:=Big X Y} where
 shared:=λi c hi hc=>⟨(S.shared i c hi hc).1,(S.shared i c hi hc).2.1,(S.shared i c hi hc).2.2.1,(S.shared i c hi hc).2.2.2.1,λh=>h.2.2.2.2 i hi hc⟩
 two:=S.two
 own:=λc hc=>⟨hc.2.1,hc.2.2.1,hc.2.2.2.1,λhd=>by have:=hok.dlow c hd;have:=hc.1;omega⟩
 fd:=S.fd
theorem Z73{K:Cx}(hm:∀e∈es,Event.mute e=true): EvM K Om B es:=λe he=>by
 have h:=hm e he;refine⟨low_mute h B,λh'=>?_,λa ha=>by rw[touch_mute h]at ha;cases ha⟩;obtain⟨loc,wr,sy⟩:=e;dsimp only at h';subst h';cases h
def Da.cl(Y:Da)(tag:CT)(h0:Nat)(d0:Nat)(s:Sh):Da:={Y with tag:=tag,h0:=h0,d0:=d0,s:=s,Z:={Y.Z with Om:=curL tag}}
theorem TI.om{K:Cx}{Z:Zn}{p0 dm: Nat}{t:Trace}(h:TI K D Z B p0 dm t)(Om:Nat->Prop): TI K D {Z with Om:=Om} B p0 dm t:=
 ⟨h.clean,h.known,h.work,h.over,h.hears,h.above,h.seen,h.norel,h.start,h.first⟩
theorem Ci.cstep(C:Ci X Y gs w t)(hok:PhOk X)(h0:gs[0]?=some a){tag':CT}{h0':Nat}{s':Sh}{fn:FuncId}(hkeep:∀c,c<w.heap.size->c≠X.K.Mu->c≠X.K.Wg->c≠X.K.Fd->¬curL tag' c->w'.heap[c]?=w.heap[c]?)(hsize:w.heap.size<=w'.heap.size)(hos:OsLater w.os w'.os)(hout:w'.output=w.output)(sh':ShAt X.K w' s')(e1:s'.mu=Y.s.mu)(e2:s'.ms=Y.s.ms)(e3:s'.fd=Y.s.fd)(hj:tagJ X.n tag'=tagJ X.n Y.tag)(htok:Z7Y X.n tag')(mode':Mode Y.ws tag' s'.wg s'.ws)(hev:EvM X.K (Big X Y) w'.heap.size es)(hcal:Cal X (Y.cl tag' h0' (deafBehind Y.d0 es) s') a' w')(hlmp:∀c,curL tag' c->Big X Y c/\c<w'.heap.size/\∃z TT,w'.heap[c]?=some (.cells #[z] TT (0,0))/\((∀i L,tag' ≠ .ms i L)->z=qw (Y.Z.j:Int))):
  Ci X (Y.cl tag' h0' (deafBehind Y.d0 es) s') ((gs.map (woken PP a a' w')).setIfInBounds 0 a') w' (t++MemOp.ofEvents 0 fn pos es):=by
 have hlt:0<gs.size:=(Y0.1 h0).1;have hm0:=hok.m0;have S:=C.sep;have hu:∀op∈MemOp.ofEvents 0 fn pos es,op.g=0:=λop hop=>by obtain⟨e,_,rfl⟩:=Go.Conc.mem_ofEvents hop;rfl
 have hdo:∀i,i≠0->Deaf (t++MemOp.ofEvents 0 fn pos es) i=Deaf t i:=λi hi=>Deaf_other t (Ne.symm hi) _ hu;have hrel:∀y,y<Y.Z.j->Rely X.K (Y.Z.O y) w w':=λy hy=>⟨λc hc=>by
  have:=S.shared y c hy hc;exact hkeep c (C.low y c hy hc) this.1 this.2.1 this.2.2.1 λhL=>(hlmp c hL).1.2.2.2.2 y hy hc,hsize,Z0Z hos,λ_=>⟨s',sh'⟩⟩
 have hTI:TI X.K X.D {Y.Z with Om:=curL tag'} w'.heap.size X.p0 (deafBehind Y.d0 es) (t++MemOp.ofEvents 0 fn pos es):=
  ((C.ti.om (Big X Y)).starter (Zjv S hok) hsize hev).om (curL tag')
 refine⟨Eq.trans sU C.size,C.zm,C.zj.trans hj.symm,htok,λi y hi0 hi hy=>?_,⟨a',Z2J hlt,hcal⟩,λy hy=>?_,C.no,sh',e1.trans C.vmu,e2.trans C.vms,C.tab,C.out,by show s'.fd.length=_;rw[e3];exact C.len,λy hy=>by show s'.fd[y]?=_;rw[e3];exact C.fd y hy,mode',λy hy=>?_,λy c hy hc=>Y8 (C.low y c hy hc) hsize,C.new,C.ro,rfl,λc hc=>?_,?_,hTI,λy hy hs=>?_,λc hc h1 h2 h3=>?_,Yd C.grow hsize,OsLater.trans C.os hos,hout.trans C.outp⟩
 ·rw[Z0f oM]at hy;obtain⟨z,hz,rfl⟩:=Y3.1 hy;have hq:=C.old i z hi0 hi hz;rw[woken_quitsD hq,hdo i oM];exact hq
 ·obtain⟨z,hz,hw⟩:=C.wrk y hy;refine⟨_,by rw[Z0f oM,hz];rfl,?_⟩;rw[hdo _ oM];exact hw.keep (hrel y hy) rfl rfl rfl rfl rfl rfl λh=>.inl h
 ·obtain⟨b1,b2⟩:=C.bx y hy;refine⟨?_,b2⟩;have:=hrel y hy;exact b1.rely ⟨λc hc=>this.keep c (C.ro y c hc),hsize,Z0Z hos,λ_=>⟨s',sh'⟩⟩
 ·obtain⟨b1,b2,z,TT,b3,b4⟩:=hlmp c hc;exact⟨b1.1,b2,z,TT,b3,b4⟩
 ·exact⟨λi c hi hc=>⟨(S.shared i c hi hc).1,(S.shared i c hi hc).2.1,(S.shared i c hi hc).2.2.1,(S.shared i c hi hc).2.2.2.1,λhL=>(hlmp c hL).1.2.2.2.2 i hi hc⟩,S.two,λc hL=>by
   have hb:=(hlmp c hL).1;exact⟨hb.2.1,hb.2.2.1,hb.2.2.2.1,λhd=>by have:=hok.dlow c hd;have:=hb.1;omega⟩,S.fd⟩
 ·exact(C.said y hy hs).other (g:=0) (by show 0≠Y.Z.m0+y;rw[C.zm];omega) hu
 ·rw[<-C.kept c hc h1 h2 h3];refine hkeep c (Y8 hc C.grow) h1 h2 h3 λhL=>?_;have:=(hlmp c hL).1.1;omega
theorem Z54(C:Ci X Y gs w t){c:Nat}(h:curL Y.tag c): Big X Y c:=by
 have ho:Y.Z.Om c:=by rw[C.om];exact h
 have h1:=C.sep.own c ho;exact⟨(C.lmp c h).1,h1.1,h1.2.1,h1.2.2.1,λx hx hO=>(C.sep.shared x c hx hO).2.2.2.2 ho⟩
theorem Ci.cquiet(C:Ci X Y gs w t)(hok:PhOk X)(h0:gs[0]?=some a)(hq:q<Y.h0)(hm:∀e∈es,Event.mute e=true)(hgo:stepG PP true a w = .go a' w es)(hh:Z9h true X.K (ZB X.k X.T X.n X.cs Y.tag) q (deafBehind Y.d0 es) a'): Z0E X Y gs w sl t 0:=by
 have hrun:=runT_crowd_go (P:=PP) (sl:=sl) (i:=0) h0 (show stepG PP (0==0) a w=_ from hgo);refine⟨_,_,w,_,hrun,C.cstep hok h0 (tag':=Y.tag) (h0':=q) (s':=Y.s) (λc _ _ _ _ _=>rfl) (Ye _) (OsLater.refl _) rfl C.sh rfl rfl rfl rfl C.tok C.mode (Z73 hm) (.inl hh) (λc hc=>⟨Z54 C hc,(C.lmp c hc).2.1,(C.lmp c hc).2.2⟩),?_⟩;exact ZmG rfl rfl hq
theorem Ci.cstop(C:Ci X Y gs w t)(hok:PhOk X)(h0:gs[0]?=some a){tag':CT}{s':Sh}(hgo:stepG PP true a w = .go a' w' es)(hE:Eff X.K w w' s')(e1:s'.mu=Y.s.mu)(e2:s'.ms=Y.s.ms)(e3:s'.fd=Y.s.fd)
  (hj:tagJ X.n tag'=tagJ X.n Y.tag) (htok:Z7Y X.n tag') (mode':Mode Y.ws tag' s'.wg s'.ws) (hev:EvM X.K (Big X Y) w'.heap.size es) (hcal:WM true X.K (ZB X.k X.T X.n X.cs tag') (deafBehind Y.d0 es) a') (hL:∀c,curL tag' c->curL Y.tag c) (hms:(∀i L,tag' ≠ .ms i L)->∀c,curL tag' c->∀i L,Y.tag ≠ .ms i L)
  (hphi:phi X.n (vsum Y.ws) tag'<phi X.n (vsum Y.ws) Y.tag):Z0E X Y gs w sl t 0:=by
 obtain⟨q,hq⟩:=hcal;have hrun:=runT_crowd_go (P:=PP) (sl:=sl) (i:=0) h0 (show stepG PP (0==0) a w=_ from hgo);refine⟨_,_,w',_,hrun,C.cstep hok h0 (tag':=tag') (h0':=q) (s':=s') (λc _ h1 h2 h3 _=>hE.same c h1 h2 h3) (Nat.le_of_eq hE.size.symm) hE.os hE.out hE.sh e1 e2 e3 hj htok mode' hev (.inl hq) (λc hc=>?_),?_⟩
 ·have hb:=Z54 C (hL c hc);obtain⟨b1,b2,z,TT,b3,b4⟩:=C.lmp c (hL c hc);refine⟨hb,by rw[hE.size];exact b2,z,TT,by rw[hE.same c hb.2.1 hb.2.2.1 hb.2.2.2.1];exact b3,λh=>b4 (hms h c hc)⟩
 ·refine ZbL ?_;rw[Z1k,Z1k];show phi X.n (vsum Y.ws) tag'+Y.r+_<phi X.n (vsum Y.ws) Y.tag+Y.r+_;exact Nat.add_lt_add_right (Nat.add_lt_add_right hphi _) _
end
end Lift
namespace Lift
open Go Go.Conc Ev
open Mx
open Go.ConcM (OsLater woken_by_blocked quitsD_running)
open Go.ConcN (upd upd_ne upd_same sumTo sumTo_upd)
variable[Jk]
section
variable{X:Ph}{Y:Da}{gs:Array Goroutine}{w w':World}{t:Trace}{a a':Goroutine}{sl:Option (Nat×Nat)}{es:Array Event}{ws:Nat->WS}{tag tag':CT}{p q:Int}{i L v:Nat}
def Zjl(ws:Nat->WS):Prop:=∀x,ws x = .no\/(∃c it,ws x = .mx c it)\/ws x = .d1\/ws x = .qt
def Zjm(ws:Nat->WS):Prop:=∀x,ws x = .no\/ws x = .qt
theorem Mode.op(h:Mode ws tag p q)(ho:ZaM tag):Zjl ws/\(∀v,tag = .w2 v->vsum ws<=v)/\p=((vsum ws+pend tag:Nat):Int)*4294967296/\q=0:=by
 cases h with
 | opn h1 h2 h3=>exact⟨h2,h3,rfl,rfl⟩
 | reg h1=>cases tag<;>first | exact h1.elim | exact ho.elim
 | last L h1=>cases tag<;>first | exact h1.elim | exact ho.elim
 | last4 L h1=>cases tag<;>first | exact h1.elim | exact ho.elim
 | sema h1=>cases tag<;>first | exact h1.elim | exact ho.elim
 | fin h1=>cases tag<;>first | exact h1.elim | exact ho.elim
theorem Mode.fi(h:Mode ws tag p q)(ho:ZkU tag):Zjm ws/\p=0/\q=0:=by
 cases h with
 | opn h1 h2 h3=>cases tag<;>first | exact h1.elim | exact ho.elim
 | reg h1=>cases tag<;>first | exact h1.elim | exact ho.elim
 | last L h1=>cases tag<;>first | exact h1.elim | exact ho.elim
 | last4 L h1=>cases tag<;>first | exact h1.elim | exact ho.elim
 | sema h1=>cases tag<;>first | exact h1.elim | exact ho.elim
 | fin h1 h2=>exact⟨h2,rfl,rfl⟩
theorem Mode.re(h:Mode ws tag p q)(ho:Z8z tag)(h':Z8z tag'):Mode ws tag' p q:=by
 cases h with
 | opn h1 h2 h3=>cases tag<;>first | exact h1.elim | exact ho.elim
 | reg h1 h2 h3=>exact .reg h' h2 h3
 | last L h1 h2 h3 h4=>exact .last L h' h2 h3 h4
 | last4 L h1 h2 h3 h4=>exact .last4 L h' h2 h3 h4
 | sema h1 h2=>exact .sema h' h2
 | fin h1=>cases tag<;>first | exact h1.elim | exact ho.elim
theorem Mode.w3(h:Mode ws .w3 p q):q=0\/(q=1/\p=0/\Zjm ws):=by
 cases h with
 | opn h1 h2 h3=>exact h1.elim
 | reg h1 h2 h3=>exact .inl rfl
 | last L h1 h2 h3 h4=>exact .inl rfl
 | last4 L h1 h2 h3 h4=>exact .inl rfl
 | sema h1 h2=>exact .inr ⟨rfl,rfl,h2⟩
 | fin h1=>exact .inl rfl
theorem Zjn(h:Zjl ws)(h0:vsum ws=0)(hno:∀y,3<=y->ws y = .no):Zjm ws:=by
 intro y;rcases Nat.lt_or_ge y 3 with hy | hy
 ·have hc:(ws y).cnt=0:=by
   unfold vsum at h0;have:y=0\/y=1\/y=2:=by omega
   rcases this with rfl | rfl | rfl<;>omega
  rcases h y with e | ⟨c,it,e⟩ | e | e
  ·exact .inl e
  ·rw[e]at hc;cases hc
  ·rw[e]at hc;cases hc
  ·exact .inr e
 ·exact .inl (hno y hy)
theorem Zax{K:Cx}{wr:Bool}(h:K.Wg<B): EvM K Om B #[⟨.mark (bif wr then .write ⟨K.Wg,1,none⟩ else .read ⟨K.Wg,1,none⟩),false,true⟩]:=by
 intro e he;simp only[Yb,List.mem_singleton]at he;subst he;cases wr
 ·refine⟨h,sU,λa ha _=>.inr ?_⟩;simp only[cond_false,MemAct.ofEvent,MemAct.touch?,Y4]at ha;subst ha;exact⟨⟨_,rfl,.inr rfl⟩,sU⟩
 ·refine⟨h,sU,λa ha _=>.inr ?_⟩;simp only[cond_true,MemAct.ofEvent,MemAct.touch?,Y4]at ha;subst ha;exact⟨⟨_,rfl,.inr rfl⟩,sU⟩
variable(C:Ci X Y gs w t)(hok:PhOk X)(h0:gs[0]?=some a)
include C hok h0
theorem Zml(ht:Y.tag = .ma i)(hat:ZB X.k X.T X.n X.cs (.ma i) Y.d0 a):Z0E X Y gs w sl t 0:=by
 obtain⟨hd,a',hgo,q,hq⟩:=ZmW (m:=true) (w:=w) hok.wok C.sh hat
 have l1:=(Y0.1 C.sh.mu).1;have l2:=(Y0.1 C.sh.wg).1;have l3:=(Y0.1 C.sh.fd).1;have hold:∀c,c<w.heap.size->(w.alloc (.cells #[.int .i64 0] 3)).heap[c]?=w.heap[c]?:=λc hc=>by
  show (w.heap.push _)[c]?=_;rw[Array.getElem?_push,if_neg oM]
 have hnew:(w.alloc (.cells #[.int .i64 0] 3)).heap[w.heap.size]?=some (.cells #[.int .i64 0] 3 (0,0)):=by
  show (w.heap.push _)[w.heap.size]?=_;rw[Array.getElem?_push,if_pos rfl]
 have hsz:(w.alloc (.cells #[.int .i64 0] 3)).heap.size=w.heap.size+1:=by
  show (w.heap.push _).size=_;simp
 have htok:=C.tok;obtain⟨m1,m2,m3,m4⟩:=C.mode.op (by rw[ht];trivial);rw[ht]at htok m3;have hrun:=runT_crowd_go (P:=PP) (sl:=sl) (i:=0) h0 (show stepG PP (0==0) a w=_ from hgo);refine⟨_,_,_,_,hrun,C.cstep hok h0 (tag':=.ms i w.heap.size) (h0':=q) (s':=Y.s) (λc hc _ _ _ _=>hold c hc) oM (OsLater.refl _) rfl ⟨by rw[hold _ l1];exact C.sh.mu,by rw[hold _ l2];exact C.sh.wg,by rw[hold _ l3];exact C.sh.fd⟩ rfl rfl rfl (by rw[ht];rfl) htok (by rw[m3,m4];exact .opn (tag:=.ms i w.heap.size) trivial m1 (λv e=>by cases e)) (Z73 sU) (.inl ?_) (λc hc=>?_),?_⟩
 ·rw[hd];exact hq
 ·have hc':c=w.heap.size:=hc;subst hc';refine⟨⟨C.grow,oM,oM,oM,λx hx ho=>?_⟩,oM,_,_,hnew,λh=>absurd rfl (h i w.heap.size)⟩;have:=C.low x _ hx ho;omega
 ·refine ZbL ?_;rw[Z1k,Z1k];show phi X.n (vsum Y.ws) (.ms i w.heap.size)+Y.r+_<phi X.n (vsum Y.ws) Y.tag+Y.r+_;rw[ht];exact Nat.add_lt_add_right (Nat.add_lt_add_right (by simp only[phi];omega) _) _
theorem Zmo(ht:Y.tag = .ms i L)(hat:ZB X.k X.T X.n X.cs (.ms i L) Y.d0 a):Z0E X Y gs w sl t 0:=by
 have hcur:curL Y.tag L:=by rw[ht];rfl
 have hb:=Z54 C hcur;obtain⟨b1,b2,z,TT,b3,_⟩:=C.lmp L hcur;obtain⟨hd,a',hgo,q,hq⟩:=Zn0 (m:=true) (w:=w) hok.wok C.sh hat b3 ⟨hb.2.1,hb.2.2.1,hb.2.2.2.1⟩;have htok:=C.tok;have hzj:=C.zj;obtain⟨m1,m2,m3,m4⟩:=C.mode.op (by rw[ht];trivial);rw[ht]at htok m3 hzj;have hrun:=runT_crowd_go (P:=PP) (sl:=sl) (i:=0) h0 (show stepG PP (0==0) a w=_ from hgo);have hsz:(w.setCell ⟨L,0,none⟩ (qw i)).heap.size=w.heap.size:=by simp[World.setCell]
 refine⟨_,_,_,_,hrun,C.cstep hok h0 (tag':=.md i L) (h0':=q) (s':=Y.s) (λc hc _ _ _ hn=>ZD λe=>hn e) (by rw[hsz];exact Ye _) (OsLater.refl _) rfl ⟨by rw[ZD (Ne.symm hb.2.1)];exact C.sh.mu,by rw[ZD (Ne.symm hb.2.2.1)];exact C.sh.wg,by rw[ZD (Ne.symm hb.2.2.2.1)];exact C.sh.fd⟩ rfl rfl rfl (by rw[ht];rfl) htok (by rw[m3,m4];exact .opn (tag:=.md i L) trivial m1 (λv e=>by cases e)) ?_ (.inl ?_) (λc hc=>?_),?_⟩
 ·intro e he;simp only[Yb,List.mem_singleton]at he;subst he;refine⟨by show L<_;rw[hsz];exact b2,sU,λb hb' _=>.inl ?_⟩;simp only[MemAct.ofEvent,MemAct.touch?,Y4]at hb';subst hb';exact⟨rfl,L,rfl,hb⟩
 ·rw[hd];exact hq
 ·have hc':c=L:=hc;subst hc';refine⟨hb,by rw[hsz];exact b2,qw i,TT,by rw[Z1H b3];rfl,λ_=>?_⟩;rw[hzj];rfl
 ·refine ZbL ?_;rw[Z1k,Z1k];show phi X.n (vsum Y.ws) (.md i L)+Y.r+_<phi X.n (vsum Y.ws) Y.tag+Y.r+_;rw[ht];exact Nat.add_lt_add_right (Nat.add_lt_add_right (by simp only[phi];omega) _) _
theorem Zmm(ht:Y.tag = .md i L)(hat:ZB X.k X.T X.n X.cs (.md i L) Y.d0 a):Z0E X Y gs w sl t 0:=by
 have htok:=C.tok;have hzj:=C.zj;obtain⟨m1,m2,m3,m4⟩:=C.mode.op (by rw[ht];trivial);rw[ht]at htok m3 hzj;have hv:vsum Y.ws<=2:=by
  have:=Zae C hok;have:=hok.n3;simp only[tagJ,Z7Y]at hzj htok;omega
 have l2:=(Y0.1 C.sh.wg).1;obtain⟨hd,a',w',hgo,hE,hq⟩:=ZmX (m:=true) (w:=w) hok.wok C.sh hat (v:=vsum Y.ws) hv (by rw[m3];rfl);have hL:DLst X.K.Wg 1 #[⟨.cell ⟨X.K.Wg,0,none⟩,false,true⟩,⟨.cell ⟨X.K.Wg,0,none⟩,true,true⟩]:=.rw 0 Nat.one_pos;by_cases h1:vsum Y.ws=0
 ·rw[if_pos h1]at hq;refine C.cstop hok h0 (tag':=.mr i L) hgo hE rfl rfl rfl (by rw[ht];rfl) (by exact htok) (by rw[m4];exact .opn (tag:=.mr i L) trivial m1 (λv e=>by cases e)) (hL.evM (.inr rfl) (by rw[hE.size];exact l2)) (by rw[hd,hL.deaf];exact hq) (λc hc=>by rw[ht];exact hc) (λ_ c _ i L e=>by rw[ht]at e;cases e) (by rw[ht];simp only[phi];omega)
 ·rw[if_neg h1]at hq;refine C.cstop hok h0 (tag':=.mg i L) hgo hE rfl rfl rfl (by rw[ht];rfl) (by exact htok) (by rw[m4];exact .opn (tag:=.mg i L) trivial m1 (λv e=>by cases e)) (hL.evM (.inr rfl) (by rw[hE.size];exact l2)) (by rw[hd,hL.deaf];exact hq) (λc hc=>by rw[ht];exact hc) (λ_ c _ i L e=>by rw[ht]at e;cases e) (by rw[ht];simp only[phi];omega)
theorem Zmn(ht:Y.tag = .mr i L)(hat:ZB X.k X.T X.n X.cs (.mr i L) Y.d0 a):Z0E X Y gs w sl t 0:=by
 have htok:=C.tok;obtain⟨m1,m2,m3,m4⟩:=C.mode.op (by rw[ht];trivial);rw[ht]at htok m3;have l2:=(Y0.1 C.sh.wg).1;obtain⟨hd,a',hgo,hq⟩:=ZmZ (m:=true) (w:=w) hok.wok C.sh hat
 refine C.cstop hok h0 (tag':=.mg i L) hgo (Eff.nil C.sh (OsLater.refl _) rfl rfl) rfl rfl rfl (by rw[ht];rfl) (by exact htok) (by rw[m3,m4];exact .opn (tag:=.mg i L) trivial m1 (λv e=>by cases e)) (Zax (wr:=false) l2) (by rw[hd];exact hq) (λc hc=>by rw[ht];exact hc) (λ_ c _ i L e=>by rw[ht]at e;cases e) (by rw[ht];simp only[phi];omega)
theorem Zmq(ht:Y.tag = .w1)(hat:ZB X.k X.T X.n X.cs .w1 Y.d0 a):Z0E X Y gs w sl t 0:=by
 obtain⟨m1,m2,m3,m4⟩:=C.mode.op (by rw[ht];trivial);rw[ht]at m3;have hv:vsum Y.ws<=3:=by have:=Z99 C hok;omega
 have l2:=(Y0.1 C.sh.wg).1;obtain⟨hd,a',hgo,hq⟩:=Zn3 (m:=true) (w:=w) hok.wok C.sh hat (v:=vsum Y.ws) hv (by rw[m3];rfl);have hL:DLst X.K.Wg 1 #[⟨.cell ⟨X.K.Wg,0,none⟩,false,true⟩]:=.rd 0 Nat.one_pos;by_cases h1:vsum Y.ws=0
 ·rw[if_pos h1]at hq;have hm:Mode Y.ws .mq Y.s.wg Y.s.ws:=by
   rw[m3,m4,h1];exact .fin trivial (Zjn m1 h1 (C.no3 hok))
  exact C.cstop hok h0 (tag':=.mq) hgo (Eff.nil C.sh (OsLater.refl _) rfl rfl) rfl rfl rfl (by rw[ht];rfl) trivial hm (hL.evM (.inr rfl) l2) (by rw[hd,hL.deaf];exact hq) (λc hc=>hc.elim) (λ_ c hc=>hc.elim) (by rw[ht];simp only[phi];omega)
 ·rw[if_neg h1]at hq;have hm:Mode Y.ws (.w2 (vsum Y.ws)) Y.s.wg Y.s.ws:=by
   rw[m3,m4];exact .opn (tag:=.w2 (vsum Y.ws)) trivial m1 (λv e=>by cases e;exact Ye _)
  exact C.cstop hok h0 (tag':=.w2 (vsum Y.ws)) hgo (Eff.nil C.sh (OsLater.refl _) rfl rfl) rfl rfl rfl (by rw[ht];rfl) ⟨oM,hv⟩ hm (hL.evM (.inr rfl) l2) (by rw[hd,hL.deaf];exact hq) (λc hc=>hc.elim) (λ_ c hc=>hc.elim) (by rw[ht];simp only[phi];omega)
theorem Zmr(ht:Y.tag = .w2 v)(hat:ZB X.k X.T X.n X.cs (.w2 v) Y.d0 a):Z0E X Y gs w sl t 0:=by
 have htok:=C.tok;obtain⟨m1,m2,m3,m4⟩:=C.mode.op (by rw[ht];trivial);have hle:=m2 v ht;rw[ht]at m3 htok;have l2:=(Y0.1 C.sh.wg).1;obtain⟨hd,hq⟩:=Zn4 (m:=true) (w:=w) hok.wok C.sh hat htok.1 htok.2 (v':=vsum Y.ws) (by rw[m3];rfl);by_cases h1:vsum Y.ws=v
 ·rw[if_pos h1]at hq;obtain⟨a',w',hgo,hE,hq⟩:=hq;have hL:DLst X.K.Wg 1 #[⟨.cell ⟨X.K.Wg,0,none⟩,false,true⟩,⟨.cell ⟨X.K.Wg,0,none⟩,true,true⟩]:=.rw 0 Nat.one_pos;have hm:Mode Y.ws (.mx v) ((v:Int)*4294967296+1) Y.s.ws:=by
   rw[m4,<-h1];exact .reg (tag:=.mx (vsum Y.ws)) trivial m1 (by rw[h1];exact htok.1)
  exact C.cstop hok h0 (tag':=.mx v) hgo hE rfl rfl rfl (by rw[ht];rfl) htok hm (hL.evM (.inr rfl) (by rw[hE.size];exact l2)) (by rw[hd,hL.deaf];exact hq) (λc hc=>hc.elim) (λ_ c hc=>hc.elim) (by rw[ht];simp only[phi];omega)
 ·rw[if_neg h1]at hq;obtain⟨a',hgo,hq⟩:=hq;have hL:DLst X.K.Wg 1 #[⟨.cell ⟨X.K.Wg,0,none⟩,false,true⟩]:=.rd 0 Nat.one_pos;have hm:Mode Y.ws .w1 Y.s.wg Y.s.ws:=by
   rw[m3,m4];exact .opn (tag:=.w1) trivial m1 (λv e=>by cases e)
  exact C.cstop hok h0 (tag':=.w1) hgo (Eff.nil C.sh (OsLater.refl _) rfl rfl) rfl rfl rfl (by rw[ht];rfl) trivial hm (hL.evM (.inr rfl) l2) (by rw[hd,hL.deaf];exact hq) (λc hc=>hc.elim) (λ_ c hc=>hc.elim) (by rw[ht];simp only[phi];omega)
theorem Zmp(ht:Y.tag = .mx v)(hat:ZB X.k X.T X.n X.cs (.mx v) Y.d0 a):Z0E X Y gs w sl t 0:=by
 have htok:=C.tok;have hm:=C.mode;rw[ht]at htok hm;have l2:=(Y0.1 C.sh.wg).1;obtain⟨hd,a',hgo,hq⟩:=Zn1 (m:=true) (w:=w) hok.wok C.sh hat htok.1 htok.2;exact C.cstop hok h0 (tag':=.w3) hgo (Eff.nil C.sh (OsLater.refl _) rfl rfl) rfl rfl rfl (by rw[ht];rfl) trivial (hm.re trivial trivial) (Zax (wr:=true) l2) (by rw[hd];exact hq) (λc hc=>hc.elim) (λ_ c hc=>hc.elim) (by rw[ht];simp only[phi];omega)
theorem Zms(ht:Y.tag = .w3)(hat:ZB X.k X.T X.n X.cs .w3 Y.d0 a):Z0E X Y gs w sl t 0:=by
 have hm:=C.mode;rw[ht]at hm;have l2:=(Y0.1 C.sh.wg).1;obtain⟨hd,hb,hg⟩:=Zn5 (m:=true) (w:=w) hok.wok C.sh hat
 rcases hm.w3 with h1 | ⟨h1,h2,h3⟩
 ·have hgo:=hb h1;have hrun:=runT_crowd_go (P:=PP) (sl:=sl) (i:=0) h0 (show stepG PP (0==0) a w=_ from hgo);refine⟨_,_,w,_,hrun,C.cstep hok h0 (tag':=Y.tag) (h0':=Y.h0) (s':=Y.s) (λc _ _ _ _ _=>rfl) (Ye _) (OsLater.refl _) rfl C.sh rfl rfl rfl rfl C.tok C.mode (Z73 sU) (.inr ⟨ht,h1,rfl,?_,?_⟩) (λc hc=>⟨Z54 C hc,(C.lmp c hc).2.1,(C.lmp c hc).2.2⟩),?_⟩
  ·obtain⟨_,x,u,f,fs,_,rfl⟩:=hat
   rfl
  ·obtain⟨k1,x,u,f,fs,k2,rfl⟩:=hat
   exact⟨k1,x,u,f,fs,k2,rfl⟩
  ·exact ZhO rfl rfl rfl rfl rfl sU (ZaG h0 (Z5C _ _ hat) rfl)
 ·obtain⟨a',w',hgo,hE,hq⟩:=hg h1;have hL:DLst X.K.Wg 1 (semEvents ⟨X.K.Wg,1,none⟩):=.sem 1;exact C.cstop hok h0 (tag':=.w4) hgo hE rfl rfl rfl (by rw[ht];rfl) trivial (by rw[h2];exact .fin (tag:=.w4) trivial h3) (hL.evM (.inr rfl) (by rw[hE.size];exact l2)) (by rw[hd,hL.deaf];exact hq) (λc hc=>hc.elim) (λ_ c hc=>hc.elim) (by rw[ht];simp only[phi];omega)
theorem Zmt(ht:Y.tag = .w4)(hat:ZB X.k X.T X.n X.cs .w4 Y.d0 a):Z0E X Y gs w sl t 0:=by
 obtain⟨m1,m2,m3⟩:=C.mode.fi (by rw[ht];trivial);have l2:=(Y0.1 C.sh.wg).1;obtain⟨hd,a',hgo,hq⟩:=Zn6 (m:=true) (w:=w) hok.wok C.sh hat m2;have hL:DLst X.K.Wg 1 #[⟨.cell ⟨X.K.Wg,0,none⟩,false,true⟩]:=.rd 0 Nat.one_pos;exact C.cstop hok h0 (tag':=.my) hgo (Eff.nil C.sh (OsLater.refl _) rfl rfl) rfl rfl rfl (by rw[ht];rfl) trivial (by rw[m2,m3];exact .fin (tag:=.my) trivial m1) (hL.evM (.inr rfl) l2) (by rw[hd,hL.deaf];exact hq) (λc hc=>hc.elim) (λ_ c hc=>hc.elim) (by rw[ht];simp only[phi];omega)
end
end Lift
namespace Lift
open Go Go.Conc Ev
open Mx
open Go.ConcM (OsLater woken_by_blocked quitsD_running)
open Go.ConcN (upd upd_ne upd_same sumTo sumTo_upd)
variable[Jk]
section
variable{F:Array Func}{G:FuncId->Prop}{X:Ph}{Y Y':Da}{gs:Array Goroutine}{w w':World}{t:Trace}{a a':Goroutine}{sl:Option (Nat×Nat)}{es:Array Event}{i L x d:Nat}
def Job(F:Array Func)(G:FuncId->Prop)(X:Ph)(x:Nat):Prop:=
 ∃(gf:FuncId) (xs ys:Array Value) (r:Ren) (v:World) (R:Ending->World->Prop),(∀L,(cW3 {X.k with L:=L,lamp:=x}).cal PP=some (gf,ys))/\G gf/\VRs r xs ys/\WH (Iv PP F) r v X.wS /\
  (∀b c,r b=some c->Shut v b/\c≠X.K.Mu/\c≠X.K.Wg/\c≠X.K.Fd/\¬X.D c/\c≠X.k.I/\c≠X.k.B)/\(∀e u T,R e (re u T)->R e u)/\(∀e u,R e u->e = .returned (.bool (X.β x)))/\∀T,Calls (PF PP F) gf xs (re v T) R
theorem Wrk.re(h:Wrk X Y x d a w)(e1:Y'.ws x=Y.ws x)(e2:Y'.h x=Y.h x)(e3:Y'.Z.O x=Y.Z.O x)(e4:Y'.Z.RO x=Y.Z.RO x)(e5:Y'.Lb x=Y.Lb x)(e6:Y'.q (X.m0+x)=Y.q (X.m0+x))(e7:Y'.ms=Y.ms):Wrk X Y' x d a w:=by
 have ek:X.kx Y'.Lb x=X.kx Y.Lb x:=by unfold Ph.kx;rw[e5]
 unfold Wrk at h⊢;rw[e1,e2,e3,e4,e6,ek,e7];exact h
theorem Ci.go(C:Ci X Y gs w t)(hok:PhOk X)(S:Strip PP F (CodeOk PP false) G)(hg:GOk PP F G)(hrec:Rec PP)(h0:gs[0]?=some a)(J:Job F G X i)(ht:Y.tag = .mg i L)(hat:ZB X.k X.T X.n X.cs (.mg i L) Y.d0 a):Z0E X Y gs w sl t 0:=by
 obtain⟨gf,xs,ys,r,v,R,jcal,jG,jv,jw,jn,jR,jb,jC⟩:=J;have hm0:=hok.m0;have htok:=C.tok;have hzj:=C.zj;obtain⟨m1,m2,m3,m4⟩:=C.mode.op (by rw[ht];trivial);rw[ht]at htok m3 hzj;have hin:i<X.n:=htok;have hij:Y.Z.j=i:=hzj;have hcur:curL Y.tag L:=by rw[ht];rfl
 have hb:=Z54 C hcur;obtain⟨b1,b2,z,TT,b3,b4⟩:=C.lmp L hcur;have hz:z=qw (i:Int):=by rw[b4 (λi' L' e=>by rw[ht]at e;cases e),hij]
 subst hz;have Sp:=C.sep;have l1:=(Y0.1 C.sh.mu).1;have hno:Y.ws i = .no:=C.no i oM
 -- the blocks of the new worker
 let Oi:Nat->Prop:=λc=>(∃b,r b=some c)\/c=X.k.I\/c=X.k.B\/c=L
 have hold:∀c,(∃b,r b=some c)->c<X.wS.heap.size:=λc ⟨b,hb⟩=>by
  obtain⟨o,o',_,h2,_⟩:=jw.on b c hb;exact(Y0.1 h2).1
 have hIl:X.k.I<X.wS.heap.size:=by obtain⟨T,fz,e⟩:=hok.isB;exact(Y0.1 e).1
 have hBl:X.k.B<X.wS.heap.size:=by obtain⟨T,fz,e⟩:=hok.fdB;exact(Y0.1 e).1
 have hOold:∀c,Oi c->c<X.wS.heap.size\/c=L:=by
  rintro c (h | h | h | h)
  ·exact .inl (hold c h)
  ·subst h;exact .inl hIl
  ·subst h;exact .inl hBl
  ·exact .inr h
 have hOsh:∀c,Oi c->c≠X.K.Mu/\c≠X.K.Wg/\c≠X.K.Fd/\¬X.D c:=by
  rintro c (⟨b,h⟩ | h | h | h)
  ·have:=jn b c h;exact⟨this.2.1,this.2.2.1,this.2.2.2.1,this.2.2.2.2.1⟩
  ·subst h;exact hok.iO
  ·subst h;exact hok.bO
  ·subst h;exact⟨hb.2.1,hb.2.2.1,hb.2.2.2.1,λhd=>by have:=hok.dlow _ hd;have:=hb.1;omega⟩
 have hOl:∀c,Oi c->c<w.heap.size:=λc hc=>by
  rcases hOold c hc with h | h
  ·exact Y8 h C.grow
  ·subst h;exact b2
 have hkept:∀c,Oi c->c<X.wS.heap.size->w.heap[c]?=X.wS.heap[c]?:=λc hc hl=>C.kept c hl (hOsh c hc).1 (hOsh c hc).2.1 (hOsh c hc).2.2.1;have hIk:w.heap[X.k.I]?=X.wS.heap[X.k.I]?:=hkept _ (.inr (.inl rfl)) hIl;have hBk:w.heap[X.k.B]?=X.wS.heap[X.k.B]?:=hkept _ (.inr (.inr (.inl rfl))) hBl;have W:=hok.ok (upd Y.Lb i L) i hin;have ek:X.kx (upd Y.Lb i L) i={X.k with L:=L,lamp:=i}:=by unfold Ph.kx;rw[upd_same]
 rw[ek]at W
 -- the worker's stretch
 have hWH:WH (Iv PP F) r v w:=⟨λb c hb=>by
  rw[hkept c (.inl ⟨b,hb⟩) (hold c ⟨b,hb⟩)];exact jw.on b c hb,jw.inj,jw.env.trans (Z0Z C.os).symm⟩
 have hbi:Bi {X.k with L:=L,lamp:=i} w:=⟨by rw[hIk];exact hok.isB,by rw[hBk];exact hok.fdB,⟨TT,(0,0),b3⟩⟩;have hWT:=Z9b (RO:=Oi) (O:=Oi) (U:=λc=>c=X.k.I\/c=X.k.B\/c=L) S hg hrec W C.sh hbi (λc=>Iff.rfl) (λc hc=>.inr hc) ⟨λh=>(hOsh _ h).1 rfl,λh=>(hOsh _ h).2.1 rfl,λh=>(hOsh _ h).2.2.1 rfl⟩ (jcal L) jG jv hWH ⟨λb c hb=>.inl ⟨b,hb⟩,λb c hb _=>(jn b c hb).1⟩
  ⟨hOl,λc hc=>⟨hOl c (.inr hc),λb hb=>by
   have:=jn b c hb;rcases hc with h | h | h
   ·exact this.2.2.2.2.2.1 h
   ·exact this.2.2.2.2.2.2 h
   ·have:=hold c ⟨b,hb⟩;omega⟩⟩ jR jb jC
 obtain⟨hgt,hhx⟩:=hWT.height;obtain⟨hd,a',hgo,q,hq⟩:=ZmY (m:=true) (w:=w) hok.wok C.sh hat hin hok.n3;have hrun:=runT_crowd_spawn (P:=PP) (sl:=sl) (i:=0) h0 (show stepG PP (0==0) a w=_ from hgo);have hct:∀c,¬curL (if i+1<X.n then CT.ma (i+1) else .w1) c:=λc h=>by
  split at h<;>exact h
 have hlt:0<gs.size:=(Y0.1 h0).1;have hsz:=C.size;generalize htag:(if i+1<X.n then CT.ma (i+1) else .w1)=tag' at hq hct;have hjt:tagJ X.n tag'=i+1:=by
  subst htag;split
  ·rfl
  ·show X.n=i+1;omega
 have htk:Z7Y X.n tag':=by
  subst htag;split
  ·assumption
  ·trivial
 have hop':ZaM tag'/\pend tag'=0/\∀v,tag' ≠ .w2 v:=by
  subst htag;split
  ·exact⟨trivial,rfl,λv e=>by cases e⟩
  ·exact⟨trivial,rfl,λv e=>by cases e⟩
 have hphi:phi X.n (vsum Y.ws+1) tag'<phi X.n (vsum Y.ws) Y.tag:=by
  have:=Zae C hok;have:=hok.n3;subst htag;rw[ht];split<;>simp only[phi]<;>omega
 have hL3:i<3:=by have:=hok.n3;omega
 have hget:∀k,k≠0->k<gs.size->((gs.setIfInBounds 0 a').push (born PP (task {X.k with L:=L})))[k]?=gs[k]?:=λk hk hkl=>by
  rw[Array.getElem?_push,if_neg (by simp;omega),Yq (Ne.symm hk)]
 have hops:(((MemOp.ofEvents 0 a.frame.fn a.frame.place #[]).push {g:=0,fn:=a.frame.fn,pos:=a.frame.place,act:=.go gs.size}).push {g:=gs.size,fn:=(born PP (task {X.k with L:=L})).frame.fn,pos:=a.frame.place,act:=.start})=#[{g:=0,fn:=a.frame.fn,pos:=a.frame.place,act:=.go gs.size},{g:=gs.size,fn:=(born PP (task {X.k with L:=L})).frame.fn,pos:=a.frame.place,act:=.start}]:=by
  rw[ofEvents_eq];simp
 rw[hops]at hrun;generalize hxo:({g:=0,fn:=a.frame.fn,pos:=a.frame.place,act:=.go gs.size}:MemOp)=xo at hrun;generalize hyo:({g:=gs.size,fn:=(born PP (task {X.k with L:=L})).frame.fn,pos:=a.frame.place,act:=.start}:MemOp)=yo at hrun;have hx1:xo.g=0/\xo.act = .go (Y.Z.m0+Y.Z.j):=by subst hxo;exact⟨rfl,by rw[C.zm,<-hsz]⟩
 have hy1:yo.g=Y.Z.m0+Y.Z.j/\yo.act = .start:=by subst hyo;exact⟨by rw[C.zm,<-hsz],rfl⟩
 have hdf:∀g,Deaf (t++#[xo,yo]) g=Deaf t g:=by
  intro g;have e:t++#[xo,yo]=(t++#[xo])++#[yo]:=by apply Array.ext';simp
  rw[e,Deaf_push,Deaf_push];simp only[deafStep,hx1.2,hy1.2]
 let Y':Da:={Y with tag:=tag',ws:=upd Y.ws i (.mx (bif X.β i then L0 else OUT) 0),Lb:=upd Y.Lb i L,Z:={m0:=Y.Z.m0,j:=Y.Z.j+1,O:=upd Y.Z.O i Oi,RO:=upd Y.Z.RO i Oi,Om:=curL tag'},h0:=q,h:=upd Y.h i hgt,d0:=0}
 have S':Sep X.K X.D Y'.Z:=by
  refine⟨λk c hk hc=>?_,λk k' c hk hk' hne hc hc'=>?_,λc hc=>absurd hc (hct c),Sp.fd⟩
  ·have hc:upd Y.Z.O i Oi k c:=hc;by_cases hki:k=i
   ·subst hki;rw[upd_same]at hc;have:=hOsh c hc;exact⟨this.1,this.2.1,this.2.2.1,this.2.2.2,hct c⟩
   ·rw[upd_ne _ _ hki]at hc;have hk:k<Y.Z.j+1:=hk;have:=Sp.shared k c oM hc;exact⟨this.1,this.2.1,this.2.2.1,this.2.2.2.1,hct c⟩
  ·have c1:upd Y.Z.O i Oi k c:=hc;have c2:upd Y.Z.O i Oi k' c:=hc';have hk:k<Y.Z.j+1:=hk;have hk':k'<Y.Z.j+1:=hk';show upd Y.Z.RO i Oi k c/\upd Y.Z.RO i Oi k' c;have one:∀k,k<Y.Z.j+1->k≠i->Y.Z.O k c->Oi c->Y.Z.RO k c:=λk hk hki ho hO=>by
    rcases hOold c hO with h | h
    ·exact C.new k c oM h ho
    ·subst h;exact absurd ho (hb.2.2.2.2 k oM)
   by_cases hki:k=i
   ·subst hki;rw[upd_same]at c1⊢;rw[upd_ne _ _ (Ne.symm hne)]at c2⊢;exact⟨c1,one k' hk' (Ne.symm hne) c2 c1⟩
   ·rw[upd_ne _ _ hki]at c1⊢;by_cases hki':k'=i
    ·subst hki';rw[upd_same]at c2⊢;exact⟨one k hk hki c1 c2,c2⟩
    ·rw[upd_ne _ _ hki']at c2⊢;exact Sp.two k k' c oM oM hne c1 c2
 have kz:Zone Y.Z Y'.Z:=⟨rfl,rfl,λx hx=>upd_ne _ _ oM,λx hx=>upd_ne _ _ oM⟩;have hTI0:TI X.K X.D Y.Z w.heap.size X.p0 0 t:=by have:=C.ti;rw[hd]at this;exact this
 have hcode:∀y,(Y'.ws y).code (X.β y)=(Y.ws y).code (X.β y):=λy=>by
  show (upd Y.ws i _ y).code _=_;by_cases hy:y=i
  ·subst hy;rw[upd_same,hno];rfl
  ·rw[upd_ne _ _ hy]
 have hvs:vsum Y'.ws=vsum Y.ws+1:=by
  have:=Z0P (ws:=Y.ws) (σ:=.mx (bif X.β i then L0 else OUT) 0) WS.cnt hL3;rw[hno]at this;simp only[WS.cnt]at this;show sum3 WS.cnt (upd Y.ws i _)=sum3 WS.cnt Y.ws+1;omega
 have hss:sum3 WS.stg Y'.ws+8=sum3 WS.stg Y.ws+7:=by
  have:=Z0P (ws:=Y.ws) (σ:=.mx (bif X.β i then L0 else OUT) 0) WS.stg hL3;rw[hno]at this;exact this
 refine⟨Y',_,w,_,hrun,?_,?_⟩
 ·refine⟨by simp[Y'];omega,C.zm,by show Y.Z.j+1=_;rw[hjt];omega,htk,λk g hk0 hk hgk=>?_,⟨a',?_,.inl hq⟩,λx hx=>?_,λx hx=>?_,C.sh,C.vmu,C.vms,by rw[hcode,hcode,hcode];exact C.tab,λx hx=>by rw[hcode];exact C.out x hx,C.len,λx hx=>by rw[hcode];exact C.fd x hx,?_,λx hx=>?_,λx c hx hc=>?_,λx c hx hc ho=>?_,λx c hc=>?_,rfl,λc hc=>absurd hc (hct c),S',hTI0.spawn S' kz hx1 hy1,λx hx hs=>?_,C.kept,C.grow,C.os,C.outp⟩
  ·rw[hget k oM oM]at hgk;rw[hdf];exact C.old k g hk0 hk hgk
  ·rw[Array.getElem?_push,if_neg (by simp;omega),Array.getElem?_setIfInBounds_self_of_lt hlt]
  ·have hx:x<Y.Z.j+1:=hx;rcases Nat.lt_or_ge x Y.Z.j with hxj | hxj
   ·obtain⟨g,hg,hw⟩:=C.wrk x hxj;refine⟨g,by rw[hget _ oM oM];exact hg,?_⟩;rw[hdf];exact hw.re (upd_ne _ _ oM) (upd_ne _ _ oM) (upd_ne _ _ oM) (upd_ne _ _ oM) (upd_ne _ _ oM) rfl rfl
   ·obtain rfl:x=i:=by omega
    refine⟨born PP (task {X.k with L:=L}),by rw[Array.getElem?_push,if_pos (by simp;omega)],?_⟩;rw[hdf,C.ti.above _ (by rw[C.zm];omega)];have e1:Y'.ws x = .mx (bif X.β x then L0 else OUT) 0:=upd_same _ _ _;unfold Wrk;rw[e1];dsimp only;refine⟨ZdH (by cases X.β x<;>decide),.inl ?_⟩;show WTh PP false X.K (upd Y.Z.RO x Oi x) (Z0x (X.kx (upd Y.Lb x L) x) [bot] _ 0) (upd Y.h x hgt x) (upd Y.Z.O x Oi x) 0 _ w;rw[upd_same,upd_same,upd_same,ek];exact hhx
  ·have hx:Y.Z.j+1<=x:=hx;show upd Y.ws i _ x = .no;rw[upd_ne _ _ oM];exact C.no x oM
  ·rw[m4];have:=Mode.opn (ws:=Y'.ws) (tag:=tag') hop'.1 (λx=>?_) (λv e=>absurd e (hop'.2.2 v))
   ·rw[hop'.2.1,hvs]at this;rw[m3];exact this
   ·by_cases hxi:x=i
    ·subst hxi;exact .inr (.inl ⟨_,_,upd_same _ _ _⟩)
    ·rw[show Y'.ws x=Y.ws x from upd_ne _ _ hxi];exact m1 x
  ·have hx:x<Y.Z.j+1:=hx;show Bx (X.kx (upd Y.Lb i L) x) (upd Y.Z.RO i Oi x) w/\Off3 X.K (X.kx (upd Y.Lb i L) x);by_cases hxi:x=i
   ·subst hxi;rw[ek,upd_same];exact⟨⟨hbi.found,hbi.lamp,.inr (.inr (.inl rfl)),.inr (.inr (.inr rfl))⟩,⟨⟨hok.bO.1,hok.bO.2.1,hok.bO.2.2.1⟩,⟨hb.2.1,hb.2.2.1,hb.2.2.2.1⟩⟩⟩
   ·have e2:X.kx (upd Y.Lb i L) x=X.kx Y.Lb x:=by unfold Ph.kx;rw[upd_ne _ _ hxi]
    rw[e2,upd_ne _ _ hxi];exact C.bx x oM
  ·have hx:x<Y.Z.j+1:=hx;have hc:upd Y.Z.O i Oi x c:=hc;by_cases hxi:x=i
   ·subst hxi;rw[upd_same]at hc;exact hOl c hc
   ·rw[upd_ne _ _ hxi]at hc;exact C.low x c oM hc
  ·have hx:x<Y.Z.j+1:=hx;have ho:upd Y.Z.O i Oi x c:=ho;show upd Y.Z.RO i Oi x c;by_cases hxi:x=i
   ·subst hxi;rw[upd_same]at ho⊢;exact ho
   ·rw[upd_ne _ _ hxi]at ho⊢;exact C.new x c oM hc ho
  ·have hc:upd Y.Z.RO i Oi x c:=hc;show upd Y.Z.O i Oi x c;by_cases hxi:x=i
   ·subst hxi;rw[upd_same]at hc⊢;exact hc
   ·rw[upd_ne _ _ hxi]at hc⊢;exact C.ro x c hc
  ·have hx:x<Y.Z.j+1:=hx;have hs:∀c it,upd Y.ws i (.mx (bif X.β i then L0 else OUT) 0) x ≠ .mx c it:=hs;by_cases hxi:x=i
   ·subst hxi;exact absurd (upd_same _ _ _) (hs _ _)
   ·rw[upd_ne _ _ hxi]at hs;have:=(C.said x oM hs).keep (u:=#[xo,yo]) λk b hk _ hb'=>?_
    ·exact this
    ·obtain⟨op,hop,hoa⟩:=touch_of hb';rcases getElem?_append_cases hop with⟨h,_⟩ | ⟨_,h⟩
     ·omega
     ·simp only[Yb,Yc,Ya,or_false]at h;rcases h with rfl | rfl
      ·rw[hx1.2]at hoa;cases hoa
      ·rw[hy1.2]at hoa;cases hoa
 ·refine ZbL ?_;rw[Z1k,Z1k];show phi X.n (vsum Y'.ws) tag'+Y.r+sum3 WS.stg Y'.ws<phi X.n (vsum Y.ws) Y.tag+Y.r+_;rw[hvs];omega
end
end Lift
namespace Lift
open Go Go.Conc Ev
open Mx
open Go.ConcM (OsLater woken_by_blocked quitsD_running)
open Go.ConcN (upd upd_ne upd_same sumTo sumTo_upd)
variable[Jk]
section
variable{F:Array Func}{G:FuncId->Prop}{X:Ph}{Y Y':Da}{gs:Array Goroutine}{w w':World}{t:Trace}{a a' g:Goroutine}{sl:Option (Nat×Nat)}{x d:Nat}{Post:Value->World->Prop}
theorem Wrk.rely(h:Wrk X Y x d a w)(l:Rely X.K (Y.Z.O x) w w'):Wrk X Y x d a w':=by
 unfold Wrk at h⊢;cases hs:Y.ws x with
 | mx c it =>
  rw[hs]at h;dsimp only at h⊢;exact⟨h.1,h.2.imp (λh=>h.rely l) id⟩
 | _=>rw[hs]at h;exact h
theorem Ci.at (C:Ci X Y gs w t) (d:Nat):Ci X Y gs (w.at d) t:=
  { C with
    cal:=C.cal
    wrk:=λx hx=>let ⟨g,h1,h2⟩:=C.wrk x hx;⟨g,h1,h2.rely ⟨λ_ _=>rfl,Ye _,rfl,λh=>let ⟨s,hs⟩:=h;⟨s,⟨hs.mu,hs.wg,hs.fd⟩⟩⟩⟩
    sh:=⟨C.sh.mu,C.sh.wg,C.sh.fd⟩
    bx := λx hx => let ⟨h1, h2⟩ := C.bx x hx; ⟨⟨h1.found, h1.lamp, h1.ob, h1.ol⟩, h2⟩ }
theorem Wrk.run(h:Wrk X Y x d g w)(h1:∀c it,Y.ws x = .mx c it->¬(isS1 c=true/\Y.ms=0))(h2:Y.ws x ≠ .qt):g.status = .running:=by
 unfold Wrk at h;cases hs:Y.ws x with
 | no=>rw[hs]at h;exact h.elim
 | mx c it =>
  rw[hs]at h;dsimp only at h;rcases h.2 with k | ⟨k1,k2,_⟩
  ·exact k.running Z1N
  ·exact absurd ⟨k1,k2⟩ (h1 c it hs)
 | d1=>rw[hs]at h;exact Z0b h
 | d2=>rw[hs]at h;exact Z0b h
 | d3=>rw[hs]at h;exact Z0b h
 | d4=>rw[hs]at h;exact Z0b h
 | qt=>exact absurd hs h2
theorem Wrk.awake(h:Wrk X Y x d g w):awake g:=by
 unfold Wrk at h;intro t;cases hs:Y.ws x with
 | no=>rw[hs]at h;exact h.elim
 | mx c it =>
  rw[hs]at h;dsimp only at h;rcases h.2 with k | ⟨_,_,k,_⟩
  ·rw[k.running Z1N];simp
  ·rw[k];simp
 | d1=>rw[hs]at h;rw[Z0b h];simp
 | d2=>rw[hs]at h;rw[Z0b h];simp
 | d3=>rw[hs]at h;rw[Z0b h];simp
 | d4=>rw[hs]at h;rw[Z0b h];simp
 | qt =>
  rw[hs]at h;dsimp only at h;rcases h.status with k | k<;>rw[k]<;>simp
theorem Cal.awake(h:Cal X Y a w):awake a:=by
 intro t;rcases h with h | ⟨_,_,h,_⟩
 ·rw[Z5q h];simp
 ·rw[h];simp
theorem Ci.awake(C:Ci X Y gs w t)(hok:PhOk X):∀g∈gs,Go.Conc.awake g:=by
 intro g hg;obtain⟨i,hi,rfl⟩:=Array.mem_iff_getElem.1 hg;have hgi:gs[i]?=some gs[i]:=Y2 hi;have hm0:=hok.m0;rcases Nat.eq_zero_or_pos i with h0 | h0
 ·subst h0;obtain⟨a,ha,hc⟩:=C.cal;rw[hgi]at ha;obtain rfl:=Y1 ha;exact hc.awake
 ·rcases Nat.lt_or_ge i X.m0 with h1 | h1
  ·have:=C.old i _ h0 h1 hgi;intro t;rcases this.status with k | k<;>rw[k]<;>simp
  ·have hx:i-X.m0<Y.Z.j:=by have:=C.size;omega
   obtain⟨g,hg',hw⟩:=C.wrk _ hx;rw[show X.m0+(i-X.m0)=i by omega,hgi]at hg';obtain rfl:=Y1 hg';exact hw.awake
theorem Ci.runs(C:Ci X Y gs w t)(hok:PhOk X):∃(i:Nat) (g:Goroutine),gs[i]?=some g/\g.status = .running:=by
 obtain⟨a,ha,hc⟩:=C.cal;rcases hc with h | ⟨h1,h2,_⟩
 ·exact⟨0,a,ha,Z5q h⟩
 have hm:=C.mode;have hzj:=C.zj;rw[h1]at hm hzj;have hjn:Y.Z.j=X.n:=hzj;have wk:∀x,x<Y.Z.j->(∀c it,Y.ws x = .mx c it->¬(isS1 c=true/\Y.ms=0))->Y.ws x ≠ .qt->∃(i:Nat) (g:Goroutine),gs[i]?=some g/\g.status = .running:=λx hx k1 k2=>by
  obtain⟨g,hg,hw⟩:=C.wrk x hx;exact⟨_,g,hg,hw.run k1 k2⟩
 have inj:∀x,Y.ws x ≠ .no->x<Y.Z.j:=λx hx=>by
  rcases Nat.lt_or_ge x Y.Z.j with h | h
  ·exact h
  ·exact absurd (C.no x h) hx
 have key:1<=vsum Y.ws->Zjl Y.ws->∃(i:Nat) (g:Goroutine),gs[i]?=some g/\g.status = .running:=by
  intro hv ho
  -- one that is out of the lock,or one that may move
  have one:∀x,x<3->sticks ((Y.ws x).code (X.β x)) Y.ms=false->∃(i:Nat) (g:Goroutine),gs[i]?=some g/\g.status = .running:=by
   intro x hx3 hst;unfold sticks at hst;simp only[Bool.or_eq_false_iff]at hst;have hne:(Y.ws x).code (X.β x)≠OUT:=λe=>by rw[e]at hst;cases hst.1
   have hxj:x<Y.Z.j:=by
    rcases Nat.lt_or_ge x Y.Z.j with h | h
    ·exact h
    ·exact absurd (C.out x (hok.βn x oM)) hne
   refine wk x hxj (λc it e=>?_) λe=>?_
   ·rw[e]at hst;have h:=hst.2;show ¬(isS1 c=true/\Y.ms=0);rintro⟨k1,k2⟩;have h':(isS1 c&&Nat.beq Y.ms 0)=false:=h;rw[k1,k2]at h';cases h'
   ·rw[e]at hne;exact hne rfl
  have ent:=(Z4L C.tab).2.1;cases s0:sticks ((Y.ws 0).code (X.β 0)) Y.ms
  ·exact one 0 oM s0
  cases s1:sticks ((Y.ws 1).code (X.β 1)) Y.ms
  ·exact one 1 oM s1
  cases s2:sticks ((Y.ws 2).code (X.β 2)) Y.ms
  ·exact one 2 oM s2
  obtain⟨o0,o1,o2⟩:=ent s0 s1 s2;have hcs:∃x,x<3/\(Y.ws x).cnt=1/\(Y.ws x).code (X.β x)=OUT:=by
   have cn:∀y,(Y.ws y).cnt<=1:=λy=>by cases Y.ws y<;>simp[WS.cnt]
   have:=cn 0;have:=cn 1;have:=cn 2;unfold vsum at hv;by_cases k0:(Y.ws 0).cnt=1
   ·exact⟨0,oM,k0,o0⟩
   by_cases k1:(Y.ws 1).cnt=1
   ·exact⟨1,oM,k1,o1⟩
   ·exact⟨2,oM,oM,o2⟩
  obtain⟨x,hx3,hc,hcode⟩:=hcs;refine wk x (inj x λe=>by rw[e]at hc;cases hc) (λc it e=>?_) λe=>by rw[e]at hc;cases hc
  rw[e]at hcode;have hcode:c=OUT:=hcode;subst hcode;rintro⟨k1,_⟩;revert k1;decide
 generalize hp:Y.s.wg=p at hm;generalize hq:Y.s.ws=q at hm h2;cases hm with
 | opn k=>exact k.elim
 | reg _ k2 k3=>exact key k3 k2
 | last L _ k2 k3 _ =>
  refine wk L (inj L λe=>by rw[e]at k3;rcases k3 with k | k<;>cases k) (λc it e=>by rw[e]at k3;rcases k3 with k | k<;>cases k) λe=>by rw[e]at k3;rcases k3 with k | k<;>cases k
 | last4 L _ k2 k3 _=>exact wk L (inj L λe=>by rw[e]at k3;cases k3) (λc it e=>by rw[e]at k3;cases k3) λe=>by rw[e]at k3;cases k3
 | sema _ k2=>cases h2
 | fin k=>exact k.elim
def Fin(X:Ph)(Post:Value->World->Prop):Prop:=∀(w':World) (tag:CT) (x:Value) (u:Nat->Value) (f:Frame) (fs:List Frame) (s:Sh),tag = .my\/tag = .mq->SOk ((plM X.k X.T X.n x u tag).an (.tuple #[])).top ((plM X.k X.T X.n x u tag).an (.tuple #[])).rest f fs ->
 (∀c,c<X.wS.heap.size->c≠X.K.Mu->c≠X.K.Wg->c≠X.K.Fd->w'.heap[c]?=X.wS.heap[c]?)->X.wS.heap.size<=w'.heap.size->OsLater X.wS.os w'.os->w'.output=X.wS.output->ShAt X.K w' s->s.fd.length=X.n->(∀x,x<X.n->s.fd[x]?=some (X.β x)) ->
 Sure PP Post (λc=>X.D c\/c=X.K.Mu\/c=X.K.Wg) (run1 f (fs++X.cs)) w'
theorem Ci.end(C:Ci X Y gs w t)(hok:PhOk X)(hf:Fin X Post)(h0:gs[0]?=some a)(ht:Y.tag = .my\/Y.tag = .mq)(hat:ZB X.k X.T X.n X.cs Y.tag Y.d0 a){m0:Machine}(hst:stepT PP m0=runT PP (crowd gs w sl) 0):Run PP Post m0 t:=by
 have hm0:=hok.m0;obtain⟨hd,x,u,f,fs,hgo,hk⟩:=ZlJ (m:=true) (w:=w) hok.wok C.sh ht hat
 obtain⟨m1,_,_⟩:=C.mode.fi (by rcases ht with h | h<;>rw[h]<;>trivial);have hq:∀y,y<Y.Z.j->Y.ws y = .qt:=λy hy=>by
  rcases m1 y with e | e
  ·obtain⟨g,_,hw⟩:=C.wrk y hy;unfold Wrk at hw;rw[e]at hw;exact hw.elim
  ·exact e
 have hjn:Y.Z.j=X.n:=by rcases ht with h | h<;>(have:=C.zj;rw[h]at this;exact this)
 have l2:=(Y0.1 C.sh.wg).1;have hlt:0<gs.size:=(Y0.1 h0).1;have hrun:=runT_crowd_go (P:=PP) (sl:=sl) (i:=0) h0 (show stepG PP (0==0) a w=_ from hgo);have hti:TI X.K X.D Y.Z w.heap.size X.p0 0 t:=by have:=C.ti;rw[hd]at this;exact this
 have hP:=hti.join (λy hy=>C.said y hy λc it e=>by rw[hq y hy]at e;cases e) l2 (fn:=a.frame.fn) (pos:=a.frame.place);have hL:Leavers PP t gs Y.q:=by
  refine⟨λi g hi hg=>?_,λj hj=>C.ti.above j (by rw[C.zm];have:=C.size;omega)⟩;rcases Nat.lt_or_ge i X.m0 with h1 | h1
  ·exact C.old i g hi h1 hg
  ·have hx:i-X.m0<Y.Z.j:=by
    have:=(Y0.1 hg).1;have:=C.size;omega
   obtain⟨g',hg',hw⟩:=C.wrk _ hx;rw[show X.m0+(i-X.m0)=i by omega,hg]at hg';obtain rfl:=Y1 hg';unfold Wrk at hw;rw[hq _ hx,show X.m0+(i-X.m0)=i by omega]at hw;exact hw
 have hfd:∀y,y<X.n->Y.s.fd[y]?=some (X.β y):=λy hy=>by
  rw[C.fd y hy,hq y oM];show some (X.β y&&pst OUT)=_;rw[show pst OUT=true from rfl,Bool.and_true]
 have hS:=hf w Y.tag x u f fs Y.s ht hk C.kept C.grow C.os C.outp C.sh C.len hfd;exact Run.next (hst.trans hrun) (hS w (Like.refl w) _ sl _ Y.q (Z2J hlt) (Z2V hlt hL) hP)
theorem phase(hok:PhOk X)(S:Strip PP F (CodeOk PP false) G)(hg:GOk PP F G)(hrec:Rec PP)(J:∀x,x<X.n->Job F G X x)(hf:Fin X Post):∀(M:Mt) (Y:Da) (gs:Array Goroutine) (w:World) (sl:Option (Nat×Nat)) (t:Trace),mea X Y gs=M->Ci X Y gs w t->Run PP Post (crowd gs w sl) t:=by
 intro M
 induction M using Zm1.induction with
 | _ M ih =>
 intro Y gs w sl t hM C;subst hM;have hm0:=hok.m0;obtain⟨i,g,d,sl',hi,hr,hst⟩:=crowd_pick (P:=PP) (w:=w) (sl:=sl) (C.awake hok) (C.runs hok);have C':=C.at d;have mv:Z0E X Y gs (w.at d) sl' t i->Run PP Post (crowd gs w sl) t:=by
  rintro⟨Y',gs',w',ops,e,C2,hlt⟩;exact Run.next (hst.trans e) (ih _ hlt Y' gs' w' sl' _ rfl C2)
 rcases Nat.eq_zero_or_pos i with h0 | h0
 ·subst h0;obtain⟨a,ha,hc⟩:=C'.cal;rw[hi]at ha;obtain rfl:=Y1 ha;rcases hc with hc | ⟨_,_,hb,_⟩
  ·have stop:ZB X.k X.T X.n X.cs Y.tag Y.d0 g->Run PP Post (crowd gs w sl) t:=by
    intro hat
    cases ht:Y.tag with
    | ma i=>rw[ht]at hat;exact mv (Zml C' hok hi ht hat)
    | ms i L=>rw[ht]at hat;exact mv (Zmo C' hok hi ht hat)
    | md i L=>rw[ht]at hat;exact mv (Zmm C' hok hi ht hat)
    | mr i L=>rw[ht]at hat;exact mv (Zmn C' hok hi ht hat)
    | mg i L =>
     have htok:=C.tok;rw[ht]at hat htok;exact mv (C'.go hok S hg hrec hi (J i htok) ht hat)
    | w1=>rw[ht]at hat;exact mv (Zmq C' hok hi ht hat)
    | w2 v=>rw[ht]at hat;exact mv (Zmr C' hok hi ht hat)
    | mx v=>rw[ht]at hat;exact mv (Zmp C' hok hi ht hat)
    | w3=>rw[ht]at hat;exact mv (Zms C' hok hi ht hat)
    | w4=>rw[ht]at hat;exact mv (Zmt C' hok hi ht hat)
    | my=>exact C'.end hok hf hi (.inl ht) hat hst
    | mq=>exact C'.end hok hf hi (.inr ht) hat hst
   cases hq:Y.h0 with
   | zero=>rw[hq]at hc;exact stop hc
   | succ q =>
    rw[hq]at hc;rcases hc with hc | ⟨_,g',es,hm,hgo,hc⟩
    ·exact stop hc
    ·exact mv (C'.cquiet hok hi (q:=q) (by rw[hq];exact Nat.lt_succ_self q) hm (hgo _ ⟨_,C'.sh⟩) hc)
  ·rw[hb]at hr;cases hr
 ·rcases Nat.lt_or_ge i X.m0 with h1 | h1
  ·exact mv (C'.leave hok h0 h1 hi hr)
  ·have hx:i-X.m0<Y.Z.j:=by
    have:=(Y0.1 hi).1;have:=C.size;omega
   have e:X.m0+(i-X.m0)=i:=by omega
   have:=C'.work (sl:=sl') hok hx (by rw[e];exact hi) hr;rw[e]at this;exact mv this
end
end Lift
namespace Lift
open Go Go.Conc Ev
open Mx
open Go.ConcM (OsLater woken_by_blocked quitsD_running)
open Go.ConcN (upd upd_ne upd_same sumTo sumTo_upd)
variable[Jk]
def pnq(P:Program)(X:Xt):Nat->St->Bool
 | 0,_=>true
 | n+1,s=>match pmove P X s.top s.rest with
  | some m=>(match m.ev with | .none=>true | _=>false)&&pnq P X n (s.upd m)
  | none=>true
section
variable{F:Array Func}{G:FuncId->Prop}{X:Ph}{w w':World}{Post:Value->World->Prop}{D:Nat->Prop}{f:Frame}{fs cs:List Frame}{k:Wk}{T:Nat->Value}{n:Nat}{x:Value}{u:Nat->Value}
theorem Sure.pn{X:Xt}(hX:XOk PP X):∀(n:Nat) (st:St) {f:Frame} {fs:List Frame},SOk st.top st.rest f fs->pnq PP X n st=true->(pn PP X n st).cvs=[] ->
  (∀f' fs',SOk (pn PP X n st).top (pn PP X n st).rest f' fs'->Sure PP Post D (run1 f' (fs'++cs)) w)->Sure PP Post D (run1 f (fs++cs)) w
 | 0,st,f,fs,h,hq,hc,k=>k f fs h
 | n+1,st,f,fs,h,hq,hc,k=>by
  unfold Ev.pn at hc k;unfold pnq at hq;cases e:pmove PP X st.top st.rest with
  | none=>rw[e]at k;exact k f fs h
  | some mv =>
   rw[e]at hc k hq;dsimp only at hc k hq;rw[Y5]at hq;obtain⟨q1,q2⟩:=hq;obtain⟨f',fs',h',hs⟩:=pmove_ok (cs:=cs) hX h e;obtain⟨m1,_⟩:=pn_mono PP X n (st.upd mv);have hps:mv.ps=[]:=by
    cases hp:mv.ps with
    | nil=>rfl
    | cons a l =>
     have:=m1 a (List.mem_append_left _ (by rw[hp];simp));rw[hc]at this;cases this
   have hev:mv.ev = .none:=by
    cases hv:mv.ev<;>rw[hv]at q1<;>first | rfl | cases q1
   have hgo:=Sure.pn hX n (st.upd mv) h' q2 hc k;refine Sure.step rfl λw1 hl=>⟨_,w1,_,hs true w1 (by rw[hps];simp),?_,by rw[hl.1];exact Ye _,hgo.like hl⟩;rw[hev];simp[XEv.es]
theorem q_y:pnq PP xtQ 200 ((cMy k T n n x u).an (.tuple #[]))=true:=kR
theorem q_q:pnq PP xtQ 200 ((cMq k T n n x u).an (.tuple #[]))=true:=kR
def Z86(X:Ph)(Post:Value->World->Prop):Prop:=∀(w':World) (x:Value) (u:Nat->Value) (f:Frame) (fs:List Frame) (s:Sh),SOk (cMf X.k X.T X.n X.n x u).top (cMf X.k X.T X.n X.n x u).rest f fs ->
 (∀c,c<X.wS.heap.size->c≠X.K.Mu->c≠X.K.Wg->c≠X.K.Fd->w'.heap[c]?=X.wS.heap[c]?)->X.wS.heap.size<=w'.heap.size->OsLater X.wS.os w'.os->w'.output=X.wS.output->ShAt X.K w' s->s.fd.length=X.n->(∀x,x<X.n->s.fd[x]?=some (X.β x)) ->
 Sure PP Post (λc=>X.D c\/c=X.K.Mu\/c=X.K.Wg) (run1 f (fs++X.cs)) w'
theorem Z86.fin(h:Z86 X Post):Fin X Post:=by
 intro w' tag x u f fs s ht hk h1 h2 h3 h4 h5 h6 h7;rcases ht with rfl | rfl
 ·have e:=m_y X.k X.T X.n X.n x u;unfold edg at e;simp only[Y9]at e;obtain⟨_,e2,e3,_⟩:=e;refine Sure.pn xokQ 200 _ hk q_y e3 λf' fs' h'=>?_;have h2':=Z2R h' A42 [];have e2':=e2;rw[show plM X.k X.T X.n x u .my=cMy X.k X.T X.n X.n x u from rfl,e2']at h2';exact h w' x u f' fs' s h2' h1 h2 h3 h4 h5 h6 h7
 ·have e:=m_q X.k X.T X.n X.n x u;unfold edg at e;simp only[Y9]at e;obtain⟨_,e2,e3,_⟩:=e;refine Sure.pn xokQ 200 _ hk q_q e3 λf' fs' h'=>?_;have h2':=Z2R h' A42 [];have e2':=e2;rw[show plM X.k X.T X.n x u .mq=cMq X.k X.T X.n X.n x u from rfl,e2']at h2';exact h w' x u f' fs' s h2' h1 h2 h3 h4 h5 h6 h7
def Ph.re(X:Ph)(m0 p0:Nat)(w1:World):Ph:={X with m0:=m0,p0:=p0,wS:=w1}
theorem Sure.phase(hok:PhOk X)(S:Strip PP F (CodeOk PP false) G)(hg:GOk PP F G)(hrec:Rec PP)(J:∀x,x<X.n->Job F G X x)(hb:Z86 X Post)
  (hfd:X.K.Fd≠X.K.Mu/\X.K.Fd≠X.K.Wg/\¬X.D X.K.Fd) (hsh:ShAt X.K X.wS ⟨0,0,0,0,List.replicate X.n false⟩) (h:SOk (sM X.k X.T X.n).top (sM X.k X.T X.n).rest f fs):Sure PP Post X.D (run1 f (fs++X.cs)) X.wS:=by
 intro w1 hl gs sl t q h0 hL hP;have hlt:0<gs.size:=(Y0.1 h0).1;have hX1:PhOk (X.re gs.size t.size w1):=⟨hok.n3,hlt,hok.ok,hok.wok,hok.kn,hok.βn,λc hc=>by show c<w1.heap.size;rw[hl.1];exact hok.dlow c hc,by show ∃T fz,w1.heap[X.k.I]?=_;rw[hl.1];exact hok.isB,by show ∃T fz,w1.heap[X.k.B]?=_;rw[hl.1];exact hok.fdB,hok.iO,hok.bO⟩;have hJ:∀x,x<X.n->Job F G (X.re gs.size t.size w1) x:=λx hx=>by
  obtain⟨gf,xs,ys,r,v,R,j1,j2,j3,j4,j5,j6,j7,j8⟩:=J x hx;exact⟨gf,xs,ys,r,v,R,j1,j2,j3,j4.of rfl hl.1 (by show v.os.env=w1.os.env;rw[hl.2.1];exact j4.env),j5,j6,j7,j8⟩
 have hB:Z86 (X.re gs.size t.size w1) Post:=λw' x u f fs s k1 k2 k3 k4 k5 k6 k7 k8=>by
  refine hb w' x u f fs s k1 (λc h1 h2 h3 h4=>?_) ?_ ?_ ?_ k6 k7 k8
  ·have:=k2 c (by show c<w1.heap.size;rw[hl.1];exact h1) h2 h3 h4
   rw[this];show w1.heap[c]?=_;rw[hl.1]
  ·have k3:w1.heap.size<=w'.heap.size:=k3;rw[hl.1]at k3;exact k3
  ·have k4:OsLater w1.os w'.os:=k4;rw[hl.2.1]at k4;exact k4
  ·have k5:w'.output=w1.output:=k5;rw[hl.2.2]at k5;exact k5
 obtain⟨q0,hq0⟩:=ZgX (m:=true) (K:=X.K) (cs:=X.cs) h;obtain⟨r,hr⟩:=Option.isSome_iff_exists.1 (ZfZ (X.β 0) (X.β 1) (X.β 2));have hct:∀c,¬curL (if 0<X.n then CT.ma 0 else .w1) c:=λc h=>by
  split at h<;>exact h
 generalize htag:(if 0<X.n then CT.ma 0 else .w1)=tag at hq0 hct;have hjt:tagJ X.n tag=0:=by
  subst htag;split
  ·rfl
  ·show X.n=0;omega
 have htk:Z7Y X.n tag:=by
  subst htag;split
  ·assumption
  ·trivial
 have hop:ZaM tag/\pend tag=0/\∀v,tag ≠ .w2 v:=by
  subst htag;split
  ·exact⟨trivial,rfl,λv e=>by cases e⟩
  ·exact⟨trivial,rfl,λv e=>by cases e⟩
 have hC:Ci (X.re gs.size t.size w1) {tag:=tag,ws:=λ_=>.no,Lb:=λ_=>0,Z:=⟨gs.size,0,λ_ _=>False,λ_ _=>False,curL tag⟩,h0:=q0,h:=λ_=>.leaf,q:=q,d0:=0,r:=r,mu:=0,ms:=0,s:=⟨0,0,0,0,List.replicate X.n false⟩} gs w1 t:=by
  refine⟨rfl,rfl,hjt.symm,htk,λi g h1 _ hg=>hL.old i g h1 hg,⟨_,h0,.inl hq0⟩,λx hx=>absurd hx (Nat.not_lt_zero _),λ_ _=>rfl,⟨by rw[hl.1];exact hsh.mu,by rw[hl.1];exact hsh.wg,by rw[hl.1];exact hsh.fd⟩,rfl,rfl,hr,λx hx=>?_,by simp[Ph.re],λx hx=>?_,?_,λx hx=>absurd hx (Nat.not_lt_zero _),λx c hx=>absurd hx (Nat.not_lt_zero _),λx c hx=>absurd hx (Nat.not_lt_zero _),λx c h=>h.elim,rfl,λc hc=>absurd hc (hct c),?_,?_,λx hx=>absurd hx (Nat.not_lt_zero _),λc _ _ _ _=>rfl,Ye _,OsLater.refl _,rfl⟩
  ·show (bif X.β x then L0 else OUT)=OUT;have hx:X.β x=false:=hx;rw[hx];rfl
  ·have hx:x<X.n:=hx;show (List.replicate X.n false)[x]?=some (X.β x&&pst (bif X.β x then L0 else OUT));rw[List.getElem?_replicate,if_pos hx];cases X.β x<;>rfl
  ·have:=Mode.opn (ws:=λ_=>WS.no) (tag:=tag) hop.1 (λx=>.inl rfl) (λv e=>absurd e (hop.2.2 v));rw[hop.2.1]at this;exact this
  ·exact⟨λi c hi=>absurd hi (Nat.not_lt_zero _),λi i' c hi=>absurd hi (Nat.not_lt_zero _),λc hc=>absurd hc (hct c),hfd⟩
  ·have:=TI.begin (K:=X.K) (hP.mono (B':=w1.heap.size) (by rw[hl.1];exact Ye _)) hlt hL.above (λ_ _=>False) (λ_ _=>False) (curL tag)
   exact this
 exact Lift.phase hX1 S hg hrec hJ hB.fin _ _ gs w1 sl t rfl hC
end
end Lift
namespace Lift
open Go Go.Conc Go.RowKit Ev
theorem Zn8:uB = .seq (sqL uB) (.seq (sqL (sqR uB)) (.seq (sqL (sqR (sqR uB))) (.seq (sqL (sqR (sqR (sqR uB)))) (.seq (.seq (sqL (sqL (sqR (sqR (sqR (sqR uB)))))) cBlk) Z6N)))):=kR
theorem ZjL:Tryz.f66.body=some uB:=kR
noncomputable def uF:Frame:={(default:Frame) with fn:=66,kind:=.normal}
def uA(xs:Array Value):Act:={tmps:=xs++Array.replicate (42-xs.size) undef,defers:=[]}
theorem Zdf{Q:Program}(h:Q.funcs[(66:Nat)]?=some Tryz.f66)(xs:Array Value): Frame.enter Q 66 xs .normal=uF.at (uA xs) [.code uB]:=by
 simp[Frame.enter,Frame.at,h,ZjL,uF,uA,Tryz.ntmps66]
def PF1(S:Nat->Prop)(x:Value):Prop:=PV S x\/∃f ys,x = .func (.func f) #[] ys/\∀y∈ys,PV S y
section
variable[Jk]{S:Nat->Prop}{r:Ren}
theorem Zan(h:Arr R xs ys)(k:∀x∈xs,∀y,R x y->y=x): ys=xs:=by
 refine Array.ext h.1.symm λi h1 h2=>?_;exact k _ (Array.getElem_mem h2) _ (h.2 i _ _ (Y2 h2) (Y2 h1))
theorem PF1.same(hi:Idn r){x y:Value}(h:PF1 S x)(k:VR r x y):y=x:=by
 rcases h with h | ⟨f,ys,rfl,h⟩
 ·exact h.same hi k
 ·cases k with
  | @func _ f' _ xs' _ ys' hf hx h1 hy k =>
   cases hf with
   | func _ g =>
    have e1:xs'=#[]:=Array.eq_empty_of_size_eq_zero hx.symm;have e2:ys'=ys:=Zan (R:=VR r) ⟨hy,k⟩ λx hx y q=>(h x hx).same hi q;rw[e1,e2]
theorem ZS(hi:Idn r){C:Inv}(h:WH C r v w)(hb:∃c,r b=some c){cs:Array Value}{e:TypeId}(q:v.heap[b]?=some (.cells cs e (0,0)))(hs:cs.size≠0)(hp:∀x∈cs,PF1 S x): w.heap[b]?=some (.cells cs e (0,0)):=by
 obtain⟨c,hc⟩:=hb;obtain rfl:=hi _ _ hc;obtain⟨cs',e1,e2⟩:=Z8i h hc q hs;rw[e1,Zan e2 λx hx y k=>(hp x hx).same hi k]
theorem ZfO(hi:Idn r){a': Act}{N:Nat}{L:List (Nat×Value)}(F:Has N [] a L)(h:VRs r a.tmps a'.tmps)(hd:Lis (DR r) a.defers a'.defers)(hN:∀p∈L,p.1<N)(hp:∀k v,L.lookup k=some v->PF1 S v): Has N [] a' L:=by
 obtain⟨at',ad'⟩:=a';refine⟨?_,by rw[<-h.1];exact F.sz,λk v e=>?_⟩
 ·have:=F.ds;rw[this]at hd;cases hd;rfl
 ·have h1:=F.get k v e;have hk:k<N:=by
   have:(k,v)∈L:=by
    clear F hp hN h1
    induction L with
    | nil=>cases e
    | cons p L ih =>
     rw[Yp]at e;split at e
     ·rename_i q;obtain rfl:=Y1 e;rw[beq_iff_eq]at q;subst q;exact List.mem_cons_self
     ·exact List.mem_cons_of_mem _ (ih e)
   exact hN _ this
  have h2:k<a.tmps.size:=by rw[F.sz];exact hk
  have h3:k<at'.size:=by rw[<-h.1];exact h2
  simp only[Y6]at h1⊢;rw[Y2 h2]at h1;rw[Y2 h3];simp only[Option.getD_some]at h1⊢;have:=h.2 k _ _ (Y2 h2) (Y2 h3);rw[h1]at this;exact(hp k v e).same hi this
def UnS(x:Vm)(cf:FuncId)(ys:Array Value)(v:World)(V:List Frame)(u:World):Prop:=∃T0 T f',V=[f',poison]/\UnA x cf ys (re v T0) uF f' (re u T)
theorem Z1f{J:Jk}(hj:J.j)(hg:∀f,J.gd f↔gT f=true)(hl:∀f,¬J.law f)(h:ZO PP gT (λ_ _=>false) true false true false c=true): Z0I PP (Jk.law 66) (¬Jk.gd 66) false c:=by
 have:=@Z1P J Tryz.prog gT true (λf q=>(hg f).2 q) (λq=>by cases q) (λ_ _=>false) (λf n q=>by cases q) c false true false h;have e1:(false=true)=False:=by simp
 have e2:(true=true)=True:=by simp
 rw[e1,e2]at this;have e3:J.law 66=False:=by simp[hl]
 have e4:(¬J.gd 66)=True:=by
  rw[hg];simp only[eq_iff_iff,iff_true];decide
 show @Z0I J PP (J.law 66) (¬J.gd 66) false c;rw[e3,e4];exact this
theorem cr0:ZO PP gT (λ_ _=>false) true false true false (sqL uB)=true:=kR
theorem cr1:ZO PP gT (λ_ _=>false) true false true false (sqL (sqR uB))=true:=kR
theorem cr2:ZO PP gT (λ_ _=>false) true false true false (sqL (sqR (sqR uB)))=true:=kR
theorem cr3:ZO PP gT (λ_ _=>false) true false true false (sqL (sqR (sqR (sqR uB))))=true:=kR
theorem cr4:ZO PP gT (λ_ _=>false) true false true false (sqL (sqL (sqR (sqR (sqR (sqR uB))))))=true:=kR
theorem Zig{x:Vm}{cf:FuncId}(hcf:Jk.gd cf)(hda:PV S (.slice x.da x.D.length x.dc))(hla:PV S (.slice x.la x.L.length x.lc))(hys:∀y∈ys,PV S y):
  VRs (idS S) #[x.val,.func (.func cf) #[] ys] #[x.val,.func (.func cf) #[] ys]:=by
 refine⟨rfl,λi a b h1 h2=>?_⟩;rw[h1]at h2;obtain rfl:=Y1 h2;have:a=x.val\/a = .func (.func cf) #[] ys:=by
  have:=Yk h1;simpa using this
 rcases this with rfl | rfl
 ·refine .agg rfl λi a b h1 h2=>?_;rw[h1]at h2;obtain rfl:=Y1 h2;have:=Yk h1;simp only[Yb,Yc,Ya,or_false]at this;rcases this with rfl | rfl | rfl | rfl
  ·exact .int _ _
  ·exact hda.vr
  ·exact hla.vr
  ·exact .int _ _
 ·refine .func (.func _ hcf) rfl sU rfl λi a b h1 h2=>?_;rw[h1]at h2;obtain rfl:=Y1 h2;exact(hys _ (Yk h1)).vr
theorem ZlQ(p q:Value):Has 42 [] (uA #[p,q]) [(0,p),(1,q)]:=by
 refine⟨rfl,by simp[uA],λk u e=>?_⟩;rw[Yp]at e;split at e
 ·rename_i q;rw[beq_iff_eq]at q;subst q;obtain rfl:=Y1 e;simp[uA]
 ·rw[Yp]at e;split at e
  ·rename_i q;rw[beq_iff_eq]at q;subst q;obtain rfl:=Y1 e;simp[uA]
  ·cases e
theorem ZjM{J:Jk}(hj:J.j)(hg:∀f,J.gd f↔gT f=true)(hl:∀f,¬J.law f)(hr:J.rest=[.code cBlk,.code Z6N]){Post:Value->World->Prop}{x:Vm}{cf:FuncId}{cs:List Frame}(h1:1<=x.L.length)(h3:x.L.length<=3)(hcf:gT cf=true)(hS:∀b,S b->∃cs e fz,w.heap[b]?=some (.cells cs e fz))(hSD:∀b,S b->¬D b)(hD:∀c,D c->c<w.heap.size)(hda:PV S (.slice x.da x.D.length x.dc))(hla:PV S (.slice x.la x.L.length x.lc))(hys:∀y∈ys,PV S y) (next:∀(a:Act) (w':World) (n3 n5 n6 n7 n16:Nat),Has 42 [] a [(3,pt n3),(5,pt n5),(6,pt n6),(7,pt n7),(20,.int .i64 ((x.L.length:Nat):Int)),(21,.int .i64 0)] ->
   w'.heap[n3]?=some (.cells #[.func (.func cf) #[] ys] 92 (0,0))->w'.heap[n5]?=some (.cells #[.int .u64 0,.int .u32 0] 146 (0,0))->w'.heap[n6]?=some (.cells #[.int .i32 0,.int .u32 0] 150 (0,0)) ->
   w'.heap[n7]?=some (.cells #[.slice (some ⟨n16,0,none⟩) x.L.length x.L.length] 151 (0,0))->w'.heap[n16]?=some (.cells (List.replicate x.L.length (Value.bool false)).toArray 4 (0,0)) ->
   w.heap.size<=n3->n3<n5->n5<n6->n6<n16->n16<n7->(∀b,b<w.heap.size->w'.heap[b]?=w.heap[b]?)->w'.os=w.os->w'.output=w.output->w.heap.size<=w'.heap.size->Sure PP Post D (run1 (uF.at a [.code cBlk,.code Z6N]) cs) w'):
  Sure PP Post D (run1 (Frame.enter PP 66 #[x.val,.func (.func cf) #[] ys] .normal) cs) w:=by
 have hS2:Strip PP (Qy.F 2) (CodeOk PP false) (λf=>gT f=true):=strip_T hj hg hl 2;have hG:GOk PP (Qy.F 2) (λf=>gT f=true):=ZiI hg hl 2;have hR:Rec PP:=rec_T hl;obtain⟨v,hsh,hwh,hshut⟩:=Z2d (P:=PP) (F:=Qy.F 2) (w:=w) hj hS;have hown:(Qy.F 2)[(66:Nat)]?=PP.funcs[(66:Nat)]?:=Qy.own66.trans kR;have hargs:=Zig (S:=S) (x:=x) (cf:=cf) (ys:=ys) ((hg cf).2 hcf) hda hla hys;rw[Zdf (Q:=PP) kR];have hfr:FrR PP (Qy.F 2) (idS S) (uF.at (uA #[x.val,.func (.func cf) #[] ys]) [.code cPre]) (uF.at (uA #[x.val,.func (.func cf) #[] ys]) [.code uB]):=by
  refine⟨rfl,hown,?_,?_,⟨.nil,λq=>absurd q (hl _)⟩,.run,⟨rfl,.inl rfl⟩,.none⟩
  ·refine Arr.append hargs ⟨rfl,λi a b q1 q2=>?_⟩;rw[q1]at q2;obtain rfl:=Y1 q2;have:=Yk q1;simp only[Array.mem_replicate]at this;rw[this.2];exact .undef
  ·have:=Zn8;generalize h:uB=z at this;refine Todo.cut rfl (λ_=>⟨rfl,rfl⟩) ?_;rw[this,<-h];exact .seq (Z1f hj hg hl cr0) (.seq (Z1f hj hg hl cr1) (.seq (Z1f hj hg hl cr2) (.seq (Z1f hj hg hl cr3) (.left (.seq (Z1f hj hg hl cr4) (.stop hr))))))
 have hst:Stk PP (Qy.F 2) (idS S) [uF.at (uA #[x.val,.func (.func cf) #[] ys]) [.code cPre]] [uF.at (uA #[x.val,.func (.func cf) #[] ys]) [.code uB]]:=⟨.cons hfr .nil,⟨.inl rfl,λh=>absurd rfl h⟩,trivial⟩;have hF:=ZlQ x.val (.func (.func cf) #[] ys);have hEn:Ends (PF PP (Qy.F 2)) (UnS x cf ys v) [uF.at (uA #[x.val,.func (.func cf) #[] ys]) [.code cPre],poison] v:=by
  obtain⟨T0,hw0⟩:=hwh.tape;obtain⟨σ,hw2⟩:=hw0.retape v.tape;refine Z1g hS2 hG hR ?_ (.inl ⟨[],_,[],_,_,rfl,hst,hw2⟩) λT=>?_
  ·rintro V u T ⟨T1,T2,f',e,q⟩;exact⟨T1,T2,f',e,q⟩
  ·obtain⟨f',w',hz,n,hn⟩:=ZlS x h3 cf ys (re v T) uF _ hF;exact⟨n,f',[poison],w',hn,T,w'.tape,f',rfl,hz⟩
 refine Sure.lone (A:=[]) (B:=[]) hS2 hG hR (λy u=>by rintro⟨T1,T2,f',e,q⟩;cases e) hEn rfl hst hwh ⟨λb c hb=>by obtain⟨q1,rfl⟩:=Z0H hb;exact hSD _ q1,hD⟩ ?_;intro f' A' g' B' r' v' w' hs hst' hw' hk;obtain⟨T1,T2,f2,e,hq⟩:=hs;simp only[List.cons.injEq]at e;obtain⟨rfl,e⟩:=e;have hA:A'=[]:=by
  cases A' with
  | nil=>rfl
  | cons a0 l0 =>
   have:=congrArg List.length e;simp at this
 subst hA;have hB:B'=[]:=by
  obtain⟨_,h,_⟩:=hst'.uncons;have:=h.rel;cases B' with
  | nil=>rfl
  | cons b bs=>cases this
 subst hB;obtain⟨a,n3,n5,n6,n7,n16,rfl,F,q3,q5,q6,q7,q16,l3,l5,l6,l16,l7,E⟩:=hq.ex;have hi:Idn r':=λb c hb=>by
  rcases (hk.par hsh.size).2.1 b c hb with q | q
  ·exact(Z0H q).2
  ·exact q.symm
 have hf:=hst'.uncons.1;obtain⟨gfn,gt,gtodo,gdef,gmode,gkind,gound⟩:=g';obtain⟨f1,_,f3,f4,f5,f6,f7,f8⟩:=hf;have e1:gtodo=[.code cBlk,.code Z6N]:=by
  have f4:Todo _ _ _ _ _ [.code (.refuse ""),.code (.refuse "")] gtodo:=f4;cases f4 with
  | cons x y =>
   cases x with
   | code hc=>exact hc.elim
  | cut _ _ h =>
   cases h with
   | stop h=>rw[<-h,hr]
 have e2:gmode = .run:=by cases f6;rfl
 have e3:gound=none:=by cases f8;rfl
 obtain⟨f7,_⟩:=f7;obtain⟨f5,_⟩:=f5;dsimp only[Frame.at,uF]at f1 f3 f5 f7;subst e1 e2 e3 f1 f7;have slot:∀k n,k<42->a.tmps.getD k undef=pt n->∃c,r' n=some c:=by
  intro k n hk e;have h2:k<a.tmps.size:=by rw[F.sz];exact hk
  have h3:k<gt.size:=by rw[<-f3.1];exact h2
  have:=f3.2 k _ _ (Y2 h2) (Y2 h3);rw[Y6,Y2 h2]at e;simp only[Option.getD_some]at e;rw[e]at this;generalize gt[k]=z at this;cases this with
  | ptr q=>cases q with | mk q=>exact⟨_,q⟩
 have F2:Has 42 [] a [(3,pt n3),(5,pt n5),(6,pt n6),(7,pt n7),(20,.int .i64 ((x.L.length:Nat):Int)),(21,.int .i64 0)]:=F.sub (.c 3 rfl (.c 5 rfl (.c 6 rfl (.c 7 rfl (.c 20 rfl (.c 21 rfl .n))))));have s3:=slot 3 n3 dC (F2.get 3 _ rfl);have s5:=slot 5 n5 dC (F2.get 5 _ rfl);have s6:=slot 6 n6 dC (F2.get 6 _ rfl);have s7:=slot 7 n7 dC (F2.get 7 _ rfl);have o7:=ZS (S:=λ_=>True) hi hw' s7 q7 sU (by simp[PF1,PV]);have s16:∃c,r' n16=some c:=by
  obtain⟨c,hc⟩:=s7;obtain⟨cs',_,k2⟩:=Z8i hw' hc q7 sU;have:=k2.2 0 _ (cs'[0]'(by rw[<-k2.1];simp)) rfl (Y2 _);generalize cs'[0]'(by rw[<-k2.1];simp)=z at this;cases this with
  | sl _ _ q=>cases q with | mk q=>exact⟨_,q⟩
 refine next ⟨gt,gdef⟩ w' n3 n5 n6 n7 n16 (ZfO (S:=λ_=>True) hi F2 f3 f5 sU ?_) (ZS (S:=S) hi hw' s3 q3 sU ?_) (ZS (S:=S) hi hw' s5 q5 sU (by simp[PF1,PV])) (ZS (S:=S) hi hw' s6 q6 sU (by simp[PF1,PV])) o7 (ZS (S:=S) hi hw' s16 q16 (by simp only[List.size_toArray,List.length_replicate];omega) ?_) (by rw[<-hsh.size];exact l3) l5 l6 l16 l7 ?_ hk.os.2.symm hk.out hk.sizeW
 ·intro k u e;have:u=pt n3\/u=pt n5\/u=pt n6\/u=pt n7\/u = .int .i64 ((x.L.length:Nat):Int)\/u = .int .i64 0:=by
   simp only[Yp,List.lookup_nil]at e
   repeat' split at e
   all_goals first | (cases e;done) | (obtain rfl:=Y1 e;simp)
  rcases this with rfl | rfl | rfl | rfl | rfl | rfl<;>exact .inl trivial
 ·intro y hy;simp only[Yb,Yc,Ya,or_false]at hy;exact .inr ⟨_,_,hy,hys⟩
 ·intro y hy;simp only[Yb,List.mem_replicate]at hy;rw[hy.2];exact .inl trivial
 ·intro b hb;by_cases q:S b
  ·exact hk.shutW b b (hshut _ _ (Z2f q)) (Z2f q)
  ·refine hk.far b hb λc hc=>?_;obtain⟨q1,q2⟩:=Z0H hc;exact q (q2▸q1)
end
end Lift
namespace Lift
open Go Go.Conc Go.RowKit Ev Mx
open Go.ConcM OsLater
noncomputable def tT:Code:=sqR (sqR Z6N)
def rgO:Code->Array Oper | .region _ o _=>o | _=>#[]
def rgI:Code->Nat | .region i _ _=>i | _=>0
theorem Zn7:tT = .seq (.seq (.region (rgI (sqL (sqL tT))) (rgO (sqL (sqL tT))) false) (sqR (sqL tT))) (sqR tT):=kR
theorem ZeY:tdMf=[.inRegion (rgO (sqL (sqL tT))) (List.range (rgO (sqL (sqL tT))).size),.code (sqR (sqL tT)),.code (sqR tT)]:=kR
theorem Z7Q{m m1 m2:Machine}(h:Steps P m m2)(h1:step P m = .next m1)(ne:m≠m2): Steps P m1 m2:=by
 obtain⟨n,hn⟩:=h;cases n with
 | zero =>
  simp only[runN,Stepped.next.injEq]at hn;exact absurd hn ne
 | succ n =>
  refine⟨n,?_⟩;simpa[runN,h1] using hn
theorem Z6x{b fr:Frame}{K:List Frame}{w: World}(hm:b.mode = .run)(hb:fr.mode ≠ .run)(h:Steps P (lone (b.at a [.code tT]) K w) (lone fr K w')): Steps P (lone (b.at a tdMf) K w) (lone fr K w'):=by
 have ne:∀td,lone (b.at a td) K w≠lone fr K w':=λtd e=>by
  have e2:=congrArg (λm=>m.gs[0]?.map λg=>g.frame.mode) e;simp only[lone,List.getElem?_toArray,List.getElem?_cons_zero,Option.map_some,Y4]at e2;exact hb (e2▸rfl)
 rw[Zn7]at h;have h1:=Z7Q h step_seq (ne _);have h2:=Z7Q h1 step_seq (ne _);have h3:=Z7Q h2 step_region (ne _);rw[ZeY];exact h3
theorem ZeX(hn:n<=3)(β:Nat->Bool){n7 n16:Nat}{fz:Nat×Nat}{w:World}{fa:Act}(F:Has 42 [] fa [(7,pt n7),(9,.slice none 0 0)])(q7:w.heap[n7]?=some (.cells #[.slice (some ⟨n16,0,none⟩) n n] T fz))(q16:∀k,k<n->w.cell? ⟨n16,k,none⟩=some (.bool (β k)))(h16:n16<w.heap.size):
  ∃e fr w',Steps (Qy.prog 2) (lone (uF.at fa tdMf) [poison] w) (lone fr [poison] w')/\fr.fn=66/\fr.leaving (Qy.prog 2) w' e/\UnR w (Z1d n β) e w':=by
 obtain⟨e,a',w',hq,harr⟩:=ZjN n hn β n7 n16 T fz fz w fa F q7 q16 h16 uF [] [poison];have own:(Qy.prog 2).funcs[(66:Nat)]?=some Tryz.f66:=Qy.own66;cases e with
 | normal =>
  obtain⟨hd,v,hr,hR⟩:=hq;exact⟨.returned v,_,w',Z6x rfl (by simp[Frame.at]) (Steps.trans harr (.one Go.step_end)),rfl,⟨rfl,hd,rfl,_,own,hr⟩,hR⟩
 | ret =>
  obtain⟨hd,v,hr,hR⟩:=hq;obtain⟨td,hs⟩:=harr;exact⟨.returned v,_,w',Z6x rfl (by simp[Frame.at]) hs,rfl,⟨rfl,hd,rfl,_,own,hr⟩,hR⟩
 | panic ch =>
  obtain⟨_,v,e,_⟩:=hq;cases e
 | outgrown =>
  obtain⟨v,e,_⟩:=hq;cases e
 | _=>exact hq.elim
theorem ct1:ZO PP gT (λ_ _=>false) true false true false (sqL (sqL tT))=true:=kR
theorem ct2:ZO PP gT (λ_ _=>false) true false true false (sqR (sqL tT))=true:=kR
theorem ct3:ZO PP gT (λ_ _=>false) true false true false (sqR tT)=true:=kR
structure UnE(l:List Int)(w w':World)(y:Value)(Mu Wg:Nat):Prop where
 lst:IntR w.heap.size w' l y
 old:∀b,b<w.heap.size->w'.heap[b]?=w.heap[b]?
 size:w.heap.size<=w'.heap.size
 os:OsLater w.os w'.os
 out:w'.output=w.output
 mu:w.heap.size<=Mu/\Mu<w'.heap.size
 wg:w.heap.size<=Wg/\Wg<w'.heap.size
 ne:∀g n c,y = .slice (some ⟨g,0,none⟩) n c->g≠Mu/\g≠Wg
theorem ZiZ{J:Jk}{C:Inv}{r:Ren}{w: World}(hi:Idn r)(h:WH C r v w){base': Nat}(hb:base'<=base){x: Value}(hx:IntR base v l x)(hy:VR r x y): IntR base' w l y:=by
 rcases hx with⟨h1,rfl⟩ | ⟨g,c,h1,rfl,h2,h3,hm,h4⟩
 ·cases hy;exact .inl ⟨h1,rfl⟩
 ·have e:y = .slice (some ⟨g,0,none⟩) l.length c:=PV.same (S:=λ_=>True) hi ⟨trivial,rfl⟩ hy;have hg:∃c,r g=some c:=by
   cases hy with
   | sl _ _ q=>cases q with | mk q=>exact⟨_,q⟩
  refine .inr ⟨g,c,h1,e,Yd hb h2,h3,hm,ZS (S:=λ_=>True) hi h hg h4 ?_ ?_⟩
  ·simp only[List.size_toArray,Ym,List.length_replicate,ivs,Yj];have:0<l.length:=List.length_pos_iff.2 h1;omega
  ·intro x hx;simp only[Yb,List.mem_append,ivs,List.mem_map,List.mem_replicate]at hx;rcases hx with⟨z,_,rfl⟩ | ⟨_,rfl⟩<;>exact .inl trivial
section
variable{J:Jk}(hj:J.j)(hg:∀f,J.gd f↔gT f=true)(hl:∀f,¬J.law f){D:Nat->Prop}{Post:Value->World->Prop}{w:World}
include hj hg hl
theorem ZjO(hn:n<=3)(β:Nat->Bool){n7 n16:Nat}{T7 T16:TypeId}{fz:Nat×Nat}{f c:Frame}{cs:List Frame}(h1:f.fn=66)(h2:f.tmps.size=42)(h3:f.todo=tdMf)(h4:f.defers=[])(h5:f.kind = .normal)(h6:f.mode = .run)(h7:f.roundOf=none)(e7:f.tmps[7]?=some (pt n7))(e9:f.tmps[9]?=some (.slice none 0 0))(q7:w.heap[n7]?=some (.cells #[.slice (some ⟨n16,0,none⟩) n n] T7 fz))(q16:w.heap[n16]?=some (.cells ((List.range n).map λk=>Value.bool (β k)).toArray T16 (0,0)))(h716:n7≠n16)(hD:∀c,D c->c<w.heap.size)(hD7:¬D n7)(hD16:¬D n16)(ret:∀w' y,IntR w.heap.size w' (Z1d n β) y->(∀b,b<w.heap.size->w'.heap[b]?=w.heap[b]?)->w.heap.size<=w'.heap.size->w'.os=w.os->w'.output=w.output->Sure PP Post D (run1 (c.finish y) cs) w'):
  Sure PP Post D (run1 f (c::cs)) w:=by
 obtain⟨ffn,ft,ftd,fdf,fm,fk,fr⟩:=f;dsimp only at h1 h2 h3 h4 h5 h6 h7 e7 e9;subst h1 h3 h4 h5 h6 h7;have hS2:Strip PP (Qy.F 2) (CodeOk PP false) (λf=>gT f=true):=strip_T hj hg hl 2;have hG:GOk PP (Qy.F 2) (λf=>gT f=true):=ZiI hg hl 2;have hR:Rec PP:=rec_T hl;obtain⟨v,hsh,hwh,hshut⟩:=Z2d (P:=PP) (F:=Qy.F 2) (w:=w) (S:=λc=>c=n7\/c=n16) hj (by
  rintro c (rfl | rfl)
  ·exact⟨_,_,_,q7⟩
  ·exact⟨_,_,_,q16⟩)
 obtain⟨xs,hxs,hpv,_⟩:=ZhA (S:=λc=>c=n7\/c=n16) hj ft;have hown:(Qy.F 2)[(66:Nat)]?=PP.funcs[(66:Nat)]?:=Qy.own66.trans kR;have hfr:FrR PP (Qy.F 2) (idS λc=>c=n7\/c=n16) (uF.at ⟨xs,[]⟩ tdMf) {fn:=66,tmps:=ft,todo:=tdMf,defers:=[],mode:=.run,kind:=.normal,roundOf:=none}:=by
  refine⟨rfl,hown,hxs,?_,⟨.nil,λq=>absurd q (hl _)⟩,.run,⟨rfl,.inl rfl⟩,.none⟩;show Todo PP (Jk.law 66) (¬Jk.gd 66) false _ tdMf tdMf;rw[ZeY];have c1:=Z1f hj hg hl ct1;have c2:=Z1f hj hg hl ct2;have c3:=Z1f hj hg hl ct3;have e1:sqL (sqL tT) = .region (rgI (sqL (sqL tT))) (rgO (sqL (sqL tT))) false:=kR
  rw[e1]at c1;exact .cons (.inRegion c1) (.cons (.code c2) (.cons (.code c3) .nil))
 have hst:Stk PP (Qy.F 2) (idS λc=>c=n7\/c=n16) [uF.at ⟨xs,[]⟩ tdMf] [{fn:=66,tmps:=ft,todo:=tdMf,defers:=[],mode:=.run,kind:=.normal,roundOf:=none}]:=⟨.cons hfr .nil,⟨.inl rfl,λh=>absurd rfl h⟩,trivial⟩;have hF:Has 42 [] (⟨xs,[]⟩:Act) [(7,pt n7),(9,.slice none 0 0)]:=by
  have hsz:xs.size=42:=hxs.1.trans h2;refine⟨rfl,hsz,λk u e=>?_⟩;show xs.getD k undef=u;rw[Y6];rw[Yp]at e;split at e
  ·rename_i q;rw[beq_iff_eq]at q;subst q;obtain rfl:=Y1 e;rw[hpv 7 _ e7 (.inl rfl)];rfl
  ·rw[Yp]at e;split at e
   ·rename_i q;rw[beq_iff_eq]at q;subst q;obtain rfl:=Y1 e;rw[hpv 9 _ e9 trivial];rfl
   ·cases e
 obtain⟨cs7,p7,p7s,p7v,_⟩:=hsh.at_ n7 (.inl rfl) _ _ _ q7;have hc7:cs7=#[.slice (some ⟨n16,0,none⟩) n n]:=by
  refine Array.ext p7s λi i1 i2=>?_;have:i=0:=by simp at i2;omega
  subst this;have:=p7v 0 (.slice (some ⟨n16,0,none⟩) n n) rfl ⟨.inr rfl,rfl⟩;rw[Y2 i1]at this;exact Y1 this
 subst hc7;obtain⟨cs16,p16,p16s,p16v,_⟩:=hsh.at_ n16 (.inr rfl) _ _ _ q16;have hc16:∀k,k<n->v.cell? ⟨n16,k,none⟩=some (.bool (β k)):=λk hk=>by
  have:=p16v k (.bool (β k)) (by simp[hk]) trivial;unfold World.cell?;rw[p16];exact this
 have h16:n16<v.heap.size:=(Y0.1 p16).1;have hEn:Ends (PF PP (Qy.F 2)) (Done PP (Qy.F 2) 66 (λe u=>∃T0 T,UnR (re v T0) (Z1d n β) e (re u T))) [uF.at ⟨xs,[]⟩ tdMf,poison] v:=by
  obtain⟨T0,hw0⟩:=hwh.tape;obtain⟨σ,hw2⟩:=hw0.retape v.tape;refine Z1g hS2 hG hR ?_ (.inl ⟨[],_,[],_,_,rfl,hst,hw2⟩) λT=>?_
  ·rintro V u T ⟨T',e,fr,k1,k2,k3,⟨T1,T2,k4⟩,k5⟩;exact⟨T',e,fr,k1,k2,k3,⟨T1,T2,k4⟩,k5⟩
  ·obtain⟨e,fr,w',⟨m,hm⟩,k1,k2,k3⟩:=ZeX (w:=re v T) hn β hF p7 hc16 h16;refine⟨m,fr,[poison],w',hm,w'.tape,e,fr,rfl,k1,k2,⟨T,w'.tape,k3⟩,?_⟩;obtain⟨x,rfl,_⟩:=k3;simp
 refine Sure.done hS2 hG hR hEn hst hwh ⟨λb c hb=>?_,hD⟩ (λr' v' w' x y hRx hv hw' hk ho=>?_) (λr' v' w' ch ch' hRx=>?_)
 ·obtain⟨q1,rfl⟩:=Z0H hb;rcases q1 with rfl | rfl
  ·exact hD7
  ·exact hD16
 ·obtain⟨T0,T1,x',e,hx,hE⟩:=hRx;obtain rfl:=Ending.returned.inj e;have hi:Idn r':=λb c hb=>by
   rcases (hk.par hsh.size).2.1 b c hb with q | q
   ·exact(Z0H q).2
   ·exact q.symm
  refine ret w' y (ZiZ hi hw' (Nat.le_of_eq hsh.size.symm) hx hv) (λb hb=>?_) hk.sizeW hk.os.2.symm hk.out;by_cases q:b=n7\/b=n16
  ·exact hk.shutW b b (hshut _ _ (Z2f q)) (Z2f q)
  ·refine hk.far b hb λc hc=>?_;obtain⟨q1,q2⟩:=Z0H hc;exact q (q2▸q1)
 ·obtain⟨T0,T1,x',e,_⟩:=hRx;cases e
end
end Lift
namespace Lift
open Go Go.Conc Go.RowKit Ev Mx
open Go.ConcM OsLater
noncomputable abbrev jkU:Jk:={j:=True,rest:=[.code cBlk,.code Z6N],gd:=λf=>gT f=true}
def AskU(S:Nat->Prop)(w:World)(cf:FuncId)(ys:Array Value)(β:Nat->Bool)(n:Nat):Prop:=
 ∀(w1 v:World),(∀c,S c->w1.heap[c]?=w.heap[c]?)->Shadow S w1 v->∀k,k<n->Calls (Qy.prog 2) cf (#[.int .i64 ((k:Nat):Int)]++ys) v (λe _=>e = .returned (.bool (β k)))
noncomputable def phX (x:Vm) (cf:FuncId) (ys:Array Value) (a:Act) (cs:List Frame) (D:Nat->Prop) (β:Nat->Bool) (w:World) (n3 n5 n6 n7 n16:Nat):Ph:=
  { K := { Mu := n6, Wg := n5, Fd := n16, tM := 150, tW := 146, tB := 4 }
    k:={N:=n6,W:=n5,I:=n3,L:=0,B:=n7,D:=n16,n:=x.L.length,c:=x.L.length,lamp:=0,clo:=.func (.func cf) #[] ys}
    T := λi => a.tmps.getD i undef, n := x.L.length, cs := cs, D := D, m0 := 1, p0 := 0, β := β, wS := w }
theorem Zmf(k:Wk)(ys:Array Value)(e:k.clo = .func (.func 79) #[] ys)(L x:Nat):(cW3 {k with L:=L,lamp:=x}).cal PP=some (79,#[.int .i64 ((x:Nat):Int)]++ys):=by
 obtain⟨N,W,I,_,B,Dd,n,c,_,clo⟩:=k;dsimp only at e;subst e
 kernel_rfl
theorem Zme(k:Wk)(ys:Array Value)(e:k.clo = .func (.func 67) #[] ys)(L x:Nat):(cW3 {k with L:=L,lamp:=x}).cal PP=some (67,#[.int .i64 ((x:Nat):Int)]++ys):=by
 obtain⟨N,W,I,_,B,Dd,n,c,_,clo⟩:=k;dsimp only at e;subst e
 kernel_rfl
theorem ZlR{J:Jk}(hys:∀y∈ys,PV S y)(k:Nat): VRs (idS S) (#[.int .i64 ((k:Nat):Int)]++ys) (#[.int .i64 ((k:Nat):Int)]++ys):=by
 refine Arr.append ⟨rfl,λi a b h1 h2=>?_⟩ ⟨rfl,λi a b h1 h2=>?_⟩
 ·rw[h1]at h2;obtain rfl:=Y1 h2;have:=Yk h1;simp only[Yb,Yc,Ya,or_false]at this;subst this;exact .int _ _
 ·rw[h1]at h2;obtain rfl:=Y1 h2;exact(hys _ (Yk h1)).vr
theorem ZmR{k:Wk}{T:Nat->Value}{n:Int}(hT:T=λi=>a.tmps.getD i undef)(F:Has 42 [] a [(3,pt k.I),(5,pt k.W),(6,pt k.N),(7,pt k.B),(20,.int .i64 n),(21,.int .i64 0)]): SOk (sM k T n).top (sM k T n).rest (uF.at a [.code cBlk,.code Z6N]) []:=by
 refine⟨⟨rfl,F.sz,λt v e=>?_,rfl,F.ds,rfl,rfl,rfl⟩,.nil⟩;have hm:∀(L:List (Nat×Value)),L.lookup t=some v->(t,v)∈L:=by
  intro L
  induction L with
  | nil=>intro e;cases e
  | cons p L ih =>
   intro e;rw[Yp]at e;split at e
   ·rename_i q;obtain rfl:=Y1 e;rw[beq_iff_eq]at q;subst q;exact List.mem_cons_self
   ·exact List.mem_cons_of_mem _ (ih e)
 have h1:=hm _ e;have key:t<42/\a.tmps.getD t undef=v:=by
  have f3:=F.get 3 _ rfl;have f5:=F.get 5 _ rfl;have f6:=F.get 6 _ rfl;have f7:=F.get 7 _ rfl;have f20:=F.get 20 _ rfl;have f21:=F.get 21 _ rfl;subst hT;have all:∀p∈(sM k (λi=>a.tmps.getD i undef) n).top.env,p.1<42/\a.tmps.getD p.1 undef=p.2:=by
   simp only[sM,und,List.forall_mem_cons]
   repeat' apply And.intro
   all_goals first | decide | rfl | assumption | (intro p hp;cases hp)
  exact all _ h1
 have h2:t<a.tmps.size:=by rw[F.sz];exact key.1
 show a.tmps[t]?=some v;rw[Y2 h2];have:=key.2;rw[Y6,Y2 h2]at this;exact congrArg some this
theorem Z8y{base': Nat}(h:IntR base w l y)(hb:base'<=base): IntR base' w l y:=by
 rcases h with h | ⟨g,c,h1,h2,h3,h4,h5⟩
 ·exact .inl h
 ·exact .inr ⟨g,c,h1,h2,Yd hb h3,h4,h5⟩
theorem Zf0 {D:Nat->Prop} {Post:Value->World->Prop} {S:Nat->Prop} {x:Vm} {cf:FuncId} {ys:Array Value} {β:Nat->Bool} {w:World} {c:Frame} {cs:List Frame}
    (h1:1<=x.L.length) (h3:x.L.length<=3) (hcf:cf=79\/cf=67) (hS:∀b,S b->∃cs e fz,w.heap[b]?=some (.cells cs e fz)) (hSD:∀b,S b->¬D b) (hD:∀c,D c->c<w.heap.size)
    (hda:PV S (.slice x.da x.D.length x.dc)) (hla:PV S (.slice x.la x.L.length x.lc)) (hys:∀y∈ys,PV S y) (hβ:∀k,x.L.length<=k->β k=false) (hask:AskU S w cf ys β x.L.length)
    (ret:∀w' y Mu Wg,UnE (Z1d x.L.length β) w w' y Mu Wg->Sure PP Post (λc=>D c\/c=Mu\/c=Wg) (run1 (c.finish y) cs) w') :
    Sure PP Post D (run1 (Frame.enter PP 66 #[x.val,.func (.func cf) #[] ys] .normal) (c::cs)) w:=by
  letI : Jk := jkU;have hgc : gT cf=true := by rcases hcf with rfl | rfl<;>decide
  refine ZjM (J := jkU) trivial (λf => Iff.rfl) (λf => id) rfl h1 h3 hgc hS hSD hD hda hla hys λa w1 n3 n5 n6 n7 n16 F q3 q5 q6 q7 q16 l3 l5 l6 l16 l7 old os out hsz => ?_;have b7 : n7<w1.heap.size := (Y0.1 q7).1;have nD : ∀b, w.heap.size<=b->¬D b := λb hb hd => absurd (hD b hd) oM;have ap : Apt {Mu := n6, Wg := n5, Fd := n16, tM := 150, tW := 146, tB := 4} := ⟨by show n6≠n5; omega, by show n6≠n16; omega, by show n5≠n16; omega⟩;have hX : PhOk (phX x cf ys a (c::cs) D β w1 n3 n5 n6 n7 n16) :=
    { n3 := h3, m0 := Nat.one_pos, ok := λLb y hy => ⟨ap, rfl, rfl, rfl, hy, h3⟩, wok := ⟨ap, rfl, rfl, rfl, h1, h3⟩, kn := rfl, βn := hβ, dlow := λb hb => Y8 (hD b hb) hsz
      isB:=⟨_,_,q3⟩,fdB:=⟨_,_,q7⟩
      iO:=⟨by show n3≠n6;omega,by show n3≠n5;omega,by show n3≠n16;omega,nD n3 l3⟩
      bO := ⟨by show n7 ≠ n6; omega, by show n7 ≠ n5; omega, by show n7 ≠ n16; omega, nD n7 oM⟩ }
  have hS1:∀b,S b->∃cs e fz,w1.heap[b]?=some (.cells cs e fz):=λb hb=>by
    obtain⟨q1, q2, q3, q4⟩ := hS b hb;exact⟨q1, q2, q3, by rw[old b (Y0.1 q4).1]; exact q4⟩
  have hSl:∀b,S b->b<w.heap.size:=λb hb=>by
    obtain⟨q1, q2, q3, q4⟩ := hS b hb;exact(Y0.1 q4).1
  obtain⟨v, hsh, hwh, hshut⟩ := Z2d (P := PP) (F := Qy.F 2) (w := w1) (S := S) trivial hS1;have hJ : ∀y, y<(phX x cf ys a (c::cs) D β w1 n3 n5 n6 n7 n16).n->Job (Qy.F 2) (λf => gT f=true) (phX x cf ys a (c::cs) D β w1 n3 n5 n6 n7 n16) y := λy hy => by
    refine⟨cf,_,#[.int .i64 ((y:Nat):Int)]++ys,idS S,v,λe _=>e = .returned (.bool (β y)),λL=>?_,hgc,ZlR hys y,hwh,λb d hb=>?_,λe u T h=>h,λe u h=>h,λT=>?_⟩
    · rcases hcf with rfl | rfl
      · exact Zmf _ ys rfl L y
      · exact Zme _ ys rfl L y
    · obtain⟨s1,rfl⟩:=Z0H hb
      have := hSl _ s1;refine⟨hshut _ _ (Z2f s1), ?_, ?_, ?_, hSD _ s1, ?_, ?_⟩
      · show d≠n6;omega
      · show d≠n5;omega
      · show d≠n16;omega
      · show d≠n3;omega
      · show d≠n7;omega
    · exact hask w1 (re v T) (λb hb=>old b (hSl b hb)) ⟨hsh.size,hsh.os,hsh.at_⟩ y hy
  have hB:Z86 (phX x cf ys a (c::cs) D β w1 n3 n5 n6 n7 n16) Post:=by
    intro w' z u f fs s hk hold hsz' hos hout hsA hlen hfd;obtain⟨hk1, hk2⟩ := hk;have hfs : fs=[] := by
      have hk2 : Lis FOk [] fs := hk2;cases hk2; rfl
    subst hfs;have q7' : w'.heap[n7]?=some (.cells #[.slice (some ⟨n16, 0, none⟩) x.L.length x.L.length] 151 (0, 0)) := by
      rw[hold n7 b7 (by show n7≠n6; omega) (by show n7≠n5; omega) (by show n7≠n16; omega)];exact q7
    have hfdl:s.fd.map Value.bool=(List.range x.L.length).map λk=>Value.bool (β k):=by
      apply List.ext_getElem?;intro i;have hlen : s.fd.length=x.L.length := hlen;rcases Nat.lt_or_ge i x.L.length with hi | hi
      · have:=hfd i hi
        rw[Yn,Yn,this,List.getElem?_range hi];rfl
      · rw[List.getElem?_eq_none (by rw[Yj];omega),List.getElem?_eq_none (by rw[Yj,List.length_range];omega)]
    have q16':w'.heap[n16]?=some (.cells ((List.range x.L.length).map λk=>Value.bool (β k)).toArray 4 (0,0)):=by
      rw[<-hfdl];exact hsA.fd
    have e7 : f.tmps[7]?=some (pt n7) := hk1.env 7 _ rfl;have e9 : f.tmps[9]?=some (.slice none 0 0) := hk1.env 9 _ rfl;have hsz' : w1.heap.size<=w'.heap.size := hsz';refine ZjO (J := jkU) (c := c) (cs := cs) trivial (λf => Iff.rfl) (λf => id) h3 β hk1.fn hk1.size hk1.todo hk1.defs hk1.kind hk1.mode hk1.round e7 e9 q7' q16' oM ?_ ?_ ?_ λw2 y r1 r2 r3 r4 r5 => ?_
    · rintro b (hb | hb | hb)
      · exact Y8 (hD b hb) oM
      · have hb:b=n6:=hb
        omega
      · have hb:b=n5:=hb
        omega
    · rintro (hb | hb | hb)
      · exact nD n7 oM hb
      · have hb:n7=n6:=hb
        omega
      · have hb:n7=n5:=hb
        omega
    · rintro (hb | hb | hb)
      · exact nD n16 oM hb
      · have hb:n16=n6:=hb
        omega
      · have hb:n16=n5:=hb
        omega
    · refine ret w2 y n6 n5 ⟨Z8y r1 oM,λb hb=>?_,oM,?_,by rw[r5,hout];exact out,⟨oM,oM⟩,⟨oM,oM⟩,λg n d e=>?_⟩
      · rw[r2 b oM,hold b (by show b<w1.heap.size;omega) (by show b≠n6;omega) (by show b≠n5;omega) (by show b≠n16;omega)]
        exact old b hb
      · rw[r4,<-os]
        exact hos
      · rcases r1 with⟨_,k2⟩ | ⟨g',d',_,k2,k3,_⟩
        · rw[k2]at e;cases e
        · rw[k2]at e
          simp only[Value.slice.injEq, Y4, Addr.mk.injEq]at e;obtain⟨⟨rfl, _⟩, _⟩ := e;exact⟨oM, by omega⟩
  exact Sure.phase hX (strip_T (J:=jkU) trivial (λf=>Iff.rfl) (λf=>id) 2) (ZiI (J:=jkU) (λf=>Iff.rfl) (λf=>id) 2) (rec_T (J:=jkU) λf=>id) hJ hB ⟨by show n16≠n6;omega,by show n16≠n5;omega,nD n16 oM⟩ ⟨q6,q5,by
    show w1.heap[n16]?=some (.cells ((List.replicate x.L.length false).map Value.bool).toArray 4 (0, 0));rw[List.map_replicate];exact q16⟩ (ZmR rfl F)
end Lift
namespace Lift
open Go Go.Conc Go.RowKit Ev
section
variable{P:Program}{m:Bool}{w w':World}{f:Frame}{fs cs:List Frame}{s s':St}
theorem Zaz(a:Addr):∀(n i:Nat) (acc:Array Value) (w:World) (es:Array Event),(∀j,j<n->(w.cell? (a.add (i+j))).isSome)->∀ev∈(loadCellsFrom a i n acc).events P w es,ev∈es\/∃j,ev=⟨.cell (a.add j),false,false⟩
 | 0,_,_,_,_,_=>λev h=>.inl (by simpa[loadCellsFrom] using h)
 | n+1,i,acc,w,es,hc=>λev h=>by
  simp only[loadCellsFrom,Sem.events_bind]at h;obtain⟨u,hu⟩:=Option.isSome_iff_exists.1 (hc 0 oM);simp only[Nat.add_zero]at hu;have hr:(load (a.add i)).run P w = .ok u w:=by simp[hu]
  rw[hr]at h;rcases Zaz a n (i+1) (acc.push u) w _ (λj hj=>by have:=hc (j+1) oM;rwa[show i+(j+1)=i+1+j by omega]at this) ev h with h | h
  ·rw[events_load,hu]at h;rcases Array.mem_push.1 h with h | rfl
   ·exact .inl h
   ·exact .inr ⟨i,rfl⟩
  ·exact .inr h
theorem Zkm (h:SOk s.top s.rest f fs) {t:TypeId} {b:Nat} (he:s.lod=some (t,⟨b,0,none⟩)) {ys:Array Value} {T:TypeId} {fz:Nat×Nat} (hb:w.heap[b]?=some (.cells ys T fz)) {d:TypeDesc} (hd:P.underlying t=some d) (hr:d.isRow=true) (hi:(P.info? t).map (·.size)=some ys.size) (ha:s.ans (.agg ys)=some s') :
    ∃es,stepG P m (run1 f (fs++cs)) w = .go (run1 (f.finish (.agg ys)) (fs++cs)) w es/\(∀x∈es,∃j,x=⟨.cell ((⟨b,0,none⟩:Addr).add j),false,false⟩)/\SOk s'.top s'.rest (f.finish (.agg ys)) fs:=by
  letI : Jk := {j := False, rest := []};obtain⟨o, hp, hx⟩ := Option.bind_eq_some_iff.1 he;obtain⟨ops, i, rest, k, ht, ho, hg, hret, hk⟩ := Z0s hp;split at hx
  · rename_i t' x hop
    split at hx
    · rename_i q hq
      simp only[Y4, Y9]at hx;obtain⟨rfl, rfl⟩ := hx;have e1 : (execOp f.eval o).run P w = .ok (.value (.agg ys)) w := Z28 hop (h.1.val hq) hd hr hi hb
      have hex : execOp f.eval o = (do pure (Next.value (<- Instr.loadAt t' (.pointer (some ⟨b, 0, none⟩))))) := by
        unfold execOp;rw[hop];dsimp only;rw[h.1.val hq]
      have hag:(isAgg t').run P w = .ok true w:=by
        rw[hex]at e1;simp only[Instr.loadAt, Instr.sureAddr, loadVar, isAgg, run_underlying hd, Sem.run_bind, Sem.run_pure, Result.andThen];rw[<-hr];cases d<;>rfl
      have hsz:(sizeOf t').run P w = .ok ys.size w:=by
        obtain⟨i, hi1, hi2⟩ := Y3.1 hi;rw[<-hi2];unfold sizeOf typeInfo;simp[Sem.run, hi1, go_sem, Result.andThen]
      have e2:∀x∈(execOp f.eval o).events P w #[],∃j,x=⟨.cell ((⟨b,0,none⟩:Addr).add j),false,false⟩:=by
        intro x hx;have hx2 : x∈(loadCellsFrom ⟨b, 0, none⟩ 0 ys.size #[]).events P w #[] := by
          rw[hex]at hx;simp[Instr.loadAt, Instr.sureAddr, loadVar, hag, hsz, loadCells]at hx;revert hx;cases (loadCellsFrom ⟨b, 0, none⟩ 0 ys.size #[]).run P w<;>exact λh => h
        have hz:∀j,j<ys.size->(w.cell? ((⟨b,0,none⟩:Addr).add (0+j))).isSome:=λj hj=>by
          have:(⟨b,0,none⟩:Addr).add (0+j)=⟨b,j,none⟩:=by rw[Addr.add_lit,Nat.zero_add,Nat.zero_add]
          rw[this,Z3 hb,Y2 hj];rfl
        rcases Zaz _ _ _ _ _ _ hz x hx2 with q | q
        · simp at q
        · exact q
      refine⟨_,by
        rw[Z1D h hp (by rw[hop];simp),Z0c e1];rfl,λx hx=>?_,(Z29 h ht ha).1⟩
      have := Conc.mem_seen (show x∈lst P f (execOp f.eval o) w from hx);have hke : (f.kind==CallKind.early)=false := by
        cases hkk:f.kind<;>first | rfl | (rw[h.1.kind]at hkk;exact absurd hkk hk)
      rw[hke]at this;exact e2 x this
    · cases hx
  · cases hx
def rcvB(s:St):Bool:=match s.pend with
 | some o=>match o.op with
  | .call c=>match c.callee with
   | .builtin .recover=>true
   | _=>false
  | _=>false
 | none=>false
theorem Zlu(hrec:P.follows .rangeFuncRecover=true)(h:SOk s.top s.rest f fs)(he:rcvB s=true)(hk:tryRecover f (fs++cs)=none)(ha:s.ans .nilIface=some s'):
  stepG P m (run1 f (fs++cs)) w = .go (run1 (f.finish .nilIface) (fs++cs)) w #[]/\SOk s'.top s'.rest (f.finish .nilIface) fs:=by
 letI:Jk:={j:=False,rest:=[]};unfold rcvB at he;split at he
 ·rename_i o hp;obtain⟨ops,i,rest,k,ht,ho,hg,hret,hkd⟩:=Z0s hp;refine⟨?_,(Z29 h ht ha).1⟩;split at he
  ·rename_i c hop;split at he
   ·rename_i hc;have hr:(execOp f.eval o).run P w = .ok .recover w/\(execOp f.eval o).events P w #[]=#[]:=by
     unfold execOp;rw[hop];dsimp only;unfold resolve;rw[hc];simp[invoke,builtin]
    rw[Z1D h hp (by rw[hop];simp),Z2y hrec hr.1 hk];unfold lst;rw[hr.2];simp[GStep.after,Z0M]
   ·cases he
  ·cases he
 ·cases he
theorem Zl4{a:FA}(h:FOk a f)(hr:a.ret=true)(hd:a.defs=[])(hk:a.kind = .normal)(hf:P.funcs[a.fn]?=some fn)(hres:fn.results=#[.tmp t1,.cell t2 T])(e1:a.env.lookup t1=some y)(e2:a.env.lookup t2=some (pt b))(hag:(isAgg T).run P w = .ok false w)(hc:w.cell? ⟨b,0,none⟩=some u)(c:Frame):
  ∃es,stepG P m (run1 f (c::cs)) w = .go (run1 (c.finish (.tuple #[y,u])) cs) w es/\∀x∈es,x=⟨.cell ⟨b,0,none⟩,false,false⟩:=by
 have g1:f.tmps[t1]?.getD undef=y:=by rw[h.env _ _ e1];rfl
 have g2:f.tmps[t2]?.getD undef=pt b:=by rw[h.env _ _ e2];rfl
 have hl:(load ⟨b,0,none⟩ .plain).run P w = .ok u w:=by simp only[load,Sem.run,hc]
 have hrun:(results fn f.tmps).run P w = .ok (.tuple #[y,u]) w/\(results fn f.tmps).events P w #[]=#[⟨.cell ⟨b,0,none⟩,false,false⟩]:=by
  unfold results;rw[hres];constructor
  ·simp[g1,g2,pt,loadVar,hag,hc,asAddr,Result.andThen]
  ·simp[g1,g2,pt,loadVar,hag,hc,hl,asAddr,Result.andThen]
 have gm:f.mode = .returning:=by rw[h.mode,hr];rfl
 have gd:f.defers=[]:=h.defs.trans hd;have gf:P.funcs[f.fn]?=some fn:=by rw[h.fn];exact hf
 refine⟨seen P f.fn ((results fn f.tmps).events P w #[])++#[],?_,λx hx=>?_⟩
 ·unfold stepG run1;simp only[gm];unfold unwind;simp only[gd,gm,gf,Yf,hrun.1];unfold doReturn;simp only[h.kind.trans hk];rfl
 ·rw[Array.append_empty]at hx;have:=Conc.mem_seen hx;rw[hrun.2]at this;simpa using this
end
end Lift
namespace Lift
open Go Go.Conc Go.RowKit Ev
open Go.ConcM OsLater
section
variable[Jk]{C:Inv}{r:Ren}{v w w1 v2:World}{S:Nat->Prop}
def Rg(r:Ren)(w:World):Nat->Prop:=λc=>(∃b,r b=some c)/\∃cs e fz,w.heap[c]?=some (.cells cs e fz)
theorem Z55(hw:∀c,S c->w1.heap[c]?=w.heap[c]?)(sh:Shadow S w1 v2){o: Nat}(hb:S b){x:Value}(hx:w.cell? ⟨b,o,none⟩=some x)(hp:PV S x): v2.cell? ⟨b,o,none⟩=some x:=by
 obtain⟨_,cs,e,fz,hc⟩:=Z0h hx;obtain⟨cs',h1,h2,h3,_⟩:=sh.at_ b hb cs e fz (by rw[hw b hb];exact hc);unfold World.cell? at hx⊢;rw[hc]at hx;rw[h1];exact h3 o x hx hp
theorem ZhE(hw:∀c,S c->w1.heap[c]?=w.heap[c]?)(sh:Shadow S w1 v2){a:Option Addr}{n c:Nat}{L:List (Value×List Int)}(ha:PV S (.slice a n c))(hp:∀p∈L,PV S p.1)(hx:ZL w a L):ZL v2 a L:=by
 obtain⟨h1,h2⟩:=hx;rw[ZF]at h1;refine⟨?_,λp hm=>?_⟩
 ·rw[ZF];intro i hi;obtain⟨b,off,rfl,hc⟩:=h1 i hi;exact⟨b,off,rfl,Z55 hw sh ha.1 hc (hp _ (Z5 (.bool true,[]) hi))⟩
 ·obtain⟨a3,c3,e3,a4,c4,e4,hl,hc⟩:=h2 p hm;refine⟨a3,c3,e3,a4,c4,e4,hl,λhne=>?_⟩;obtain⟨b,off,rfl,hb,hk⟩:=hc hne;have hs:=hp p hm;rw[e3]at hs;simp only[Value.slice.injEq]at e4;obtain⟨rfl,_⟩:=e4;have key:∀i j x,(p.2.map Z4)[i]?=some x->j<1->v2.cell? ⟨b,off+i*1+j,none⟩=x[j]?:=by
   intro i j x hi hj;have:=hk i j x hi hj;rw[Yn]at hi;obtain⟨z,_,rfl⟩:=Y3.1 hi;obtain rfl:j=0:=by omega
   exact Z55 hw sh hs.1 this trivial
  refine⟨b,off,rfl,?_,key⟩;cases hq:p.2 with
  | nil=>rw[hq]at hne;exact absurd rfl hne
  | cons z zs=>exact(Z0h (key 0 0 (Z4 z) (by rw[hq];rfl) oM)).1
theorem ZaP(hh:∀b,b<v.heap.size->v2.heap[b]?=v.heap[b]?){a:Option Addr}{L:List (Value×List Int)}(hx:ZL v a L): ZL v2 a L:=by
 have cell:∀{b o x},v.cell? ⟨b,o,none⟩=some x->v2.cell? ⟨b,o,none⟩=some x:=λ{b o x} hx=>by
  have:=hh b (Z0h hx).1;unfold World.cell? at hx⊢;rw[this];exact hx
 obtain⟨h1,h2⟩:=hx;rw[ZF]at h1;refine⟨?_,λp hm=>?_⟩
 ·rw[ZF];intro i hi;obtain⟨b,off,rfl,hc⟩:=h1 i hi;exact⟨b,off,rfl,cell hc⟩
 ·obtain⟨a3,c3,e3,a4,c4,e4,hl,hc⟩:=h2 p hm;refine⟨a3,c3,e3,a4,c4,e4,hl,λhne=>?_⟩;obtain⟨b,off,rfl,hb,hk⟩:=hc hne;have key:∀i j x,(p.2.map Z4)[i]?=some x->j<1->v2.cell? ⟨b,off+i*1+j,none⟩=x[j]?:=by
   intro i j x hi hj;have:=hk i j x hi hj;rw[Yn]at hi;obtain⟨z,_,rfl⟩:=Y3.1 hi;obtain rfl:j=0:=by omega
   exact cell this
  refine⟨b,off,rfl,?_,key⟩;cases hq:p.2 with
  | nil=>rw[hq]at hne;exact absurd rfl hne
  | cons z zs=>exact(Z0h (key 0 0 (Z4 z) (by rw[hq];rfl) oM)).1
theorem Z51{x:Vm}(hh:∀b,b<v.heap.size->v2.heap[b]?=v.heap[b]?)(h:x.At v):x.At v2:=⟨ZaP hh h.d,ZaP hh h.l⟩
theorem Z2m(hw:∀c,S c->w1.heap[c]?=w.heap[c]?)(sh:Shadow S w1 v2){a:Option Addr}{n c:Nat}{xs:List Int}(ha:PV S (.slice a n c))(hx:Z6 w (.slice a n c) 1 (xs.map Z4)):Z6 v2 (.slice a n c) 1 (xs.map Z4):=by
 obtain⟨a4,c4,e4,hl,hc⟩:=hx;refine⟨a4,c4,e4,hl,λhne=>?_⟩;obtain⟨b,off,rfl,hb,hk⟩:=hc hne;simp only[Value.slice.injEq]at e4;obtain⟨rfl,_⟩:=e4;have key:∀i j x,(xs.map Z4)[i]?=some x->j<1->v2.cell? ⟨b,off+i*1+j,none⟩=x[j]?:=by
  intro i j x hi hj;have:=hk i j x hi hj;rw[Yn]at hi;obtain⟨z,_,rfl⟩:=Y3.1 hi;obtain rfl:j=0:=by omega
  exact Z55 hw sh ha.1 this trivial
 refine⟨b,off,rfl,?_,key⟩;cases hq:xs with
 | nil=>rw[hq]at hne;exact absurd rfl hne
 | cons z zs=>exact(Z0h (key 0 0 (Z4 z) (by rw[hq];rfl) oM)).1
theorem PV.imp{S S':Nat->Prop}(h:∀b,S b->S' b){x:Value}(k:PV S x): PV S' x:=by
 cases x with
 | int _ _=>trivial
 | bool _=>trivial
 | pointer a=>cases a with
  | none=>exact k.elim
  | some a=>exact h _ k
 | slice a n c=>cases a with
  | none=>trivial
  | some a=>exact⟨h _ k.1,k.2⟩
 | _=>exact k.elim
theorem ZcI(hw:∀c,S c->w1.heap[c]?=w.heap[c]?)(sh:Shadow S w1 v2){b:Nat}(hb:S b){cs:Array Value}{e:TypeId}{fz:Nat×Nat}(h:w.heap[b]?=some (.cells cs e fz))(hp:∀x∈cs,PV S x):v2.heap[b]?=some (.cells cs e (0,cs.size)):=by
 obtain⟨cs',h1,h2,h3,_⟩:=sh.at_ b hb cs e fz (by rw[hw b hb];exact h);have:cs'=cs:=by
  refine Array.ext h2 λi i1 i2=>?_;have:=h3 i _ (Y2 i2) (hp _ (Array.getElem_mem i2));rw[Y2 i1]at this;exact Y1 this
 rw[this]at h1;exact h1
theorem arr4{a b c d:Value}(h:Arr R #[a,b,c,d] ys): ∃a' b' c' d',ys=#[a',b',c',d']/\R a a'/\R b b'/\R c c'/\R d d':=by
 have hl:=h.lis;generalize hy:ys.toList=l at hl;cases hl with
 | cons h1 t =>
  cases t with
  | cons h2 t =>
   cases t with
   | cons h3 t =>
    cases t with
    | cons h4 t =>
     cases t with
     | nil=>exact⟨_,_,_,_,Array.ext' hy,h1,h2,h3,h4⟩
theorem arr1{a:Value}(h:Arr R #[a] ys): ∃a',ys=#[a']/\R a a':=by
 have hl:=h.lis;generalize hy:ys.toList=l at hl;cases hl with
 | cons h1 t =>
  cases t with
  | nil=>exact⟨_,Array.ext' hy,h1⟩
end
end Lift
namespace Lift
open Go
def gJ(k:Nat):Bool:=gB k && !([19,53,54,55,56,107].elem k)
noncomputable def okJ(k:Nat):Bool:=match Tryz.prog.funcs[k]? with
 | some fn=>!(fn.name == "runtime.NumGoroutine")&&match fn.body with
  | some c=>ZO Tryz.prog gJ (λ_ _=>false) true false false false c
  | none=>false
 | none=>false
theorem ownJ:Qy.own.all (λk=>!gJ k||okJ k)=true:=kR
theorem ZkP(h:gJ k=true): gB k=true:=by
 unfold gJ at h;rw[Y5]at h;exact h.1
theorem ZaZ (h:gJ k=true): k∈Qy.own/\∃fn c,Tryz.prog.funcs[k]?=some fn/\(fn.name == "runtime.NumGoroutine")=false/\fn.body=some c/\ZO Tryz.prog gJ (λ_ _=>false) true false false false c=true:=by
 have h0:=Z65 (ZkP h);have h1:=Yl.1 ownJ k h0;rw[h]at h1;simp only[Bool.not_true,Bool.false_or]at h1;unfold okJ at h1;refine⟨h0,?_⟩;cases e:Tryz.prog.funcs[k]? with
 | none=>rw[e]at h1;cases h1
 | some fn =>
  rw[e]at h1;simp only[Y5,Bool.not_eq_true']at h1;cases eb:fn.body with
  | none=>have:=h1.2;rw[eb]at this;cases this
  | some c=>have:=h1.2;rw[eb]at this;exact⟨fn,c,rfl,h1.1,eb,this⟩
section
variable{J:Jk}(hj:J.j)(hg:∀f,J.gd f↔gJ f=true)(hl:∀f,gJ f=true->¬J.law f)(μ:Nat)
include hg hl
include hj in
theorem strip_J:@Strip J Tryz.prog (Qy.F μ) (@CodeOk J Tryz.prog false) (λf=>gJ f=true):=by
 refine @Strip.mk J _ _ _ _ (λf h=>⟨Qy.same μ f (ZaZ ((hg f).1 h)).1,hl f ((hg f).1 h)⟩) (λf fn h e=>?_) (λf fn c h e eb=>?_) (λf fn h e eb=>?_)<;>rw[Qy.same μ f (ZaZ ((hg f).1 h)).1]at e<;>obtain⟨_,fn',c',h1,h2,h3,h4⟩:=ZaZ ((hg f).1 h)<;>rw[h1]at e<;>obtain rfl:=Y1 e
 ·exact h2
 ·rw[h3]at eb;obtain rfl:=Y1 eb;refine⟨h1,?_,(hg f).1 h⟩;have:=@Z1P J Tryz.prog gJ true (λf q=>(hg f).2 q) (λq=>by cases q) (λ_ _=>false) (λf n q=>by cases q) c' false false false h4;have e2:(false=true)=False:=by simp
  rw[e2]at this;exact this
 ·rw[h3]at eb;cases eb
theorem ZkQ:@GOk J Tryz.prog (Qy.F μ) (λf=>gJ f=true):=by
 intro f h;obtain⟨h0,fn,c,h1,h2,h3,h4⟩:=ZaZ h;have e:=Qy.same μ f h0;exact⟨e,⟨fn,c,e.trans h1,h3⟩,(hg f).2 h,hl f h⟩
theorem Zit{n:FuncId}(hn:gJ n=false)(hnl:¬J.law n)(h:ZO Tryz.prog gJ (λ_ _=>false) true false true false c=true): @Z0I J Tryz.prog (J.law n) (¬J.gd n) false c:=by
 have:=@Z1P J Tryz.prog gJ true (λf q=>(hg f).2 q) (λq=>by cases q) (λ_ _=>false) (λf n q=>by cases q) c false true false h;have e1:(false=true)=False:=by simp
 have e2:(true=true)=True:=by simp
 rw[e1,e2]at this;have e3:J.law n=False:=by simp[hnl]
 have e4:(¬J.gd n)=True:=by
  rw[hg];simp[hn]
 rw[e3,e4];exact this
end
end Lift
namespace Lift
open Go Go.Conc Go.RowKit Ev Mx
open Go.ConcM OsLater
section
variable[Jk]
variable{D:Nat->Prop}{Post:Value->World->Prop}{w:World}{f:Frame}{fs cs:List Frame}{s s':St}
theorem Z9v{a:Addr}(h:¬D a.block)(hl:a.block<w.heap.size)(wr:Bool): EvL (Dk D) w.heap.size ⟨.cell a,wr,false⟩:=by
 refine⟨λx hx hs=>?_,sU,sU,hl⟩;simp only[MemAct.ofEvent,MemAct.touch?,Y4]at hx;subst hx;rcases hs with⟨a',e,hd⟩ | ⟨c,e,_⟩
 ·simp only[Loc.cell.injEq]at e;subst e;exact absurd hd h
 ·cases e
theorem Sure.agl(h:SOk s.top s.rest f fs){t:TypeId}(he:s.lod=some (t,⟨b,0,none⟩)){fz:Nat×Nat}(hb:w.heap[b]?=some (.cells ys T fz)){d:TypeDesc}(hd:PP.underlying t=some d)(hr:d.isRow=true)(hi:(PP.info? t).map (·.size)=some ys.size)(ha:s.ans (.agg ys)=some s')(hD:¬D b)(k:∀f',SOk s'.top s'.rest f' fs->Sure PP Post D (run1 f' (fs++cs)) w): Sure PP Post D (run1 f (fs++cs)) w:=by
 refine Sure.step rfl λw1 hl=>?_;obtain⟨es,e,he2,k2⟩:=Zkm (m:=true) (cs:=cs) (w:=w1) h he (by rw[hl.1];exact hb) hd hr hi ha;refine⟨_,w1,es,e,λx hx=>?_,by rw[hl.1];exact Ye _,(k _ k2).like hl⟩;obtain⟨j,rfl⟩:=he2 x hx;rw[Addr.add_lit];refine Z9v hD ?_ _;have:=(Y0.1 hb).1;rw[hl.1];exact this
theorem Sure.cal(h:SOk s.top s.rest f fs)(he:s.cal PP=some (g,xs))(k:Sure PP Post D (run1 (Frame.enter PP g xs .normal) (f::(fs++cs))) w): Sure PP Post D (run1 f (fs++cs)) w:=
 Sure.step rfl λw1 hl=>⟨_,w1,#[],Zhs h he,sU,by rw[hl.1];exact Ye _,k.like hl⟩
theorem Zip(h:SOk s.top s.rest f fs)(he:s.cal PP=some (g,xs))(ha:s.ans y=some s'): SOk s'.top s'.rest (f.finish y) fs:=by
 obtain⟨o,hp,hx⟩:=Option.bind_eq_some_iff.1 he;obtain⟨ops,i,rest,k,ht,ho,hg,hret,hk⟩:=Z0s hp;exact(Z29 h ht ha).1
theorem Sure.sto(h:SOk s.top s.rest f fs){t:TypeId}{p:Addr}{v:Value}(he:s.sto=some (t,p,v))(hag:∀w,(sizeOf t).run PP w = .ok 1 w)(h1:v.oneCell'=true)(h2:v.cells=#[v])(hc:w.cell? p=some u)(hz:w.frozen? p=false)(ha:s.ans undef=some s')(hD:¬D p.block)(k:∀f',SOk s'.top s'.rest f' fs->Sure PP Post D (run1 f' (fs++cs)) (w.setCell p v)): Sure PP Post D (run1 f (fs++cs)) w:=by
 refine Sure.step rfl λw1 hl=>?_;have hc1:w1.cell? p=some u:=by rw[<-hc];unfold World.cell?;rw[hl.1]
 have hz1:w1.frozen? p=false:=by rw[<-hz];unfold World.frozen?;rw[hl.1]
 obtain⟨e,k2⟩:=ZhX (m:=true) (cs:=cs) (w:=w1) h he (hag w1) h1 h2 hc1 hz1 ha;have hsz:w.heap.size<=(w1.setCell p v).heap.size:=by rw[<-hl.1];exact Nat.le_of_eq (by simp[World.setCell])
 refine⟨_,_,_,e,λx hx=>?_,hsz,(k _ k2).like ⟨?_,?_,?_⟩⟩
 ·have:=Conc.mem_seen hx;simp only[Array.mem_singleton,Yb,List.mem_singleton]at this;subst this;refine Z9v hD ?_ _;have hq:p.block<w.heap.size:=by
   cases hh:w.heap[p.block]? with
   | none=>unfold World.cell? at hc;rw[hh]at hc;simp at hc
   | some o=>exact(Y0.1 hh).1
  exact Y8 hq hsz
 ·simp only[World.setCell,hl.1]
 ·exact hl.2.1
 ·exact hl.2.2
theorem Sure.rcv(h:SOk s.top s.rest f fs)(he:rcvB s=true)(hk:tryRecover f (fs++cs)=none)(ha:s.ans .nilIface=some s')(k:∀f',SOk s'.top s'.rest f' fs->Sure PP Post D (run1 f' (fs++cs)) w):Sure PP Post D (run1 f (fs++cs)) w:=by
 refine Sure.step rfl λw1 hl=>?_;obtain⟨e,k2⟩:=Zlu (P:=PP) (m:=true) (cs:=cs) (w:=w1) recP h he hk ha;exact⟨_,w1,#[],e,sU,by rw[hl.1];exact Ye _,(k _ k2).like hl⟩
theorem Sure.lv2{a:FA}(h:FOk a f)(hr:a.ret=true)(hd:a.defs=[])(hk:a.kind = .normal)(hf:PP.funcs[a.fn]?=some fn)(hres:fn.results=#[.tmp t1,.cell t2 T])(e1:a.env.lookup t1=some y)(e2:a.env.lookup t2=some (pt b))(hag:∀w,(isAgg T).run PP w = .ok false w)(hc:w.cell? ⟨b,0,none⟩=some u)(hD:¬D b){c:Frame}(k:Sure PP Post D (run1 (c.finish (.tuple #[y,u])) cs) w): Sure PP Post D (run1 f (c::cs)) w:=by
 refine Sure.step rfl λw1 hl=>?_;have hc1:w1.cell? ⟨b,0,none⟩=some u:=by rw[<-hc];unfold World.cell?;rw[hl.1]
 obtain⟨es,e,he⟩:=Zl4 (m:=true) (cs:=cs) (w:=w1) h hr hd hk hf hres e1 e2 (hag w1) hc1 c;refine⟨_,w1,es,e,λx hx=>?_,by rw[hl.1];exact Ye _,k.like hl⟩;rw[he x hx];refine Z9v hD ?_ _;rw[hl.1];exact(Z0h (o:=0) hc).1
theorem Zh5{f g:Frame}{K:List Frame}(hk:f.kind = .deferred)(hm:g.mode = .returning): tryRecover f (g::K)=none:=by
 unfold tryRecover;rw[hk];dsimp only;rw[hm]
end
noncomputable def tA:Code:=sqR (sqR (sqR (sqR aB)))
noncomputable def sA0(c7 c8 c9 c10:Nat):St:={top:={fn:=15,n:=22,env:=[(7,pt c7),(8,pt c8),(9,pt c9),(10,pt c10)],todo:=[.code tA],defs:=[Z0V c7],kind:=.normal,ret:=false},rest:=[],cvs:=[],mks:=[],deaf:=0}
noncomputable def sA1(c7 c8 c9 c10:Nat):St:=pn PP xtQ 40 (sA0 c7 c8 c9 c10)
end Lift
namespace Lift
open Go Go.Conc
open Go.ConcN (sumTo upd sumTo_upd upd_ne upd_same)
variable[Jk]
section
variable{P:Program}{F:Array Func}{G:FuncId->Prop}{Post:Value->World->Prop}{D:Nat->Prop}{g:Goroutine}{v w w':World}{r:Ren}
theorem Sure.moves2(hr:g.status = .running)
  (hm:∀w1,Like w w1->∀(gs:Array Goroutine) sl t q w0 sl0,gs[0]?=some g->Leavers P t gs q->Past (Dk D) w.heap.size t->stepT P (crowd gs w0 sl0)=runT P (crowd gs w1 sl) 0->Run P Post (crowd gs w0 sl0) t):Sure P Post D g w:=by
 have key:∀(M:Nat) w1,Like w w1->∀(gs:Array Goroutine) sl t q,sumTo gs.size q<M->gs[0]?=some g->Leavers P t gs q->Past (Dk D) w.heap.size t->Run P Post (crowd gs w1 sl) t:=by
  intro M
  induction M with
  | zero=>exact λw1 hw gs sl t q hM=>absurd hM (Nat.not_lt_zero _)
  | succ M ih =>
   intro w1 hw gs sl t q hM h0 hL hP;obtain⟨i,x,d,sl',hi,hx,hst⟩:=crowd_pick (P:=P) (w:=w1) (sl:=sl) (Z4k h0 hr hL) ⟨0,g,h0,hr⟩;rcases Nat.eq_zero_or_pos i with rfl | hpos
   ·exact hm (w1.at d) (hw.at d) gs sl' t q _ _ h0 hL hP hst
   ·have hq:=hL.old i x hpos hi;have hi0:(i==0)=false:=by simp;omega
    have hlt:i<gs.size:=(Y0.1 hi).1;cases hqi:q i with
    | zero=>rw[hqi]at hq;rw[hq.1]at hx;cases hx
    | succ k =>
     rw[hqi]at hq;rcases hq with⟨hf,_⟩ | ⟨_,x',es,hmu,hstp,hq'⟩
     ·rw[hf]at hx;cases hx
     have hrunT:=runT_crowd_go (P:=P) (sl:=sl') (i:=i) hi (by rw[hi0];exact hstp (w1.at d));have hsz:((gs.map (woken P x x' (w1.at d))).setIfInBounds i x').size=gs.size:=by simp
     have hsum:sumTo gs.size (upd q i k)+(k+1)=sumTo gs.size q+k:=by
      have:=sumTo_upd q k id hlt;simpa[hqi] using this
     have hne:i≠0:=by omega
     refine Run.next (hst.trans hrunT) (ih (w1.at d) (hw.at d) _ sl' _ (upd q i k) (by rw[hsz];omega) ?_ ⟨λj y hj hy=>?_,λj hj=>?_⟩ (hP.mute hne hmu))
     ·rw[Yq hne,Array.getElem?_map,h0];simp[woken_run hr]
     ·by_cases hji:i=j
      ·subst hji;rw[Array.getElem?_setIfInBounds_self_of_lt (by simpa using hlt)]at hy;obtain rfl:=Y1 hy;rw[upd_same,Deaf_own];exact hq'
      ·rw[Yq hji,Array.getElem?_map]at hy;obtain⟨z,hz,rfl⟩:=Y3.1 hy;have hqj:=hL.old j z hj hz;rw[woken_quitsD hqj,upd_ne q k (Ne.symm hji),Deaf_other t hji _ (λop hop=>by obtain⟨e,_,rfl⟩:=Go.Conc.mem_ofEvents hop;rfl)];exact hqj
     ·rw[Deaf_other t (g':=i) (by simp at hj;omega) _ (λop hop=>by obtain⟨e,_,rfl⟩:=Go.Conc.mem_ofEvents hop;rfl)]
      exact hL.above j (by simpa using hj)
 exact λw1 hw gs sl t q h0 hL hP=>key _ w1 hw gs sl t q (Nat.lt_succ_self _) h0 hL hP
theorem Sure.last(hr:g.status = .running)(h:∀w1,Like w w1->∃x w' es,stepG P true g w1 = .ended (.done x) w' es/\(∀e∈es,EvL (Dk D) w'.heap.size e)/\w.heap.size<=w'.heap.size/\Post x w'):Sure P Post D g w:=by
 refine Sure.moves2 hr λw1 hw gs sl t q w0 sl0 h0 hL hP hm=>?_;obtain⟨x,w',es,hend,hes,hsz,hpost⟩:=h w1 hw;have hrunT:=runT_many_ended (P:=P) (sl:=sl) (i:=0) h0 (show stepG P (0==0) g w1=_ from hend);have hP':=(hP.mono hsz).own (fn:=g.frame.fn) (pos:=g.frame.place) hes;refine Run.end (hm.trans hrunT) ⟨x,rfl,hpost,hP'.clean,hP'.over,⟨λy hy=>?_,rfl⟩,λj y hy hj=>?_⟩
 ·obtain⟨j,hj⟩:=List.mem_iff_getElem?.1 hy;rw[List.getElem?_drop]at hj;exact⟨_,(hL.old (1+j) y oM (by simpa[crowd] using hj)).leaves⟩
 ·have hq:=hL.old j y oM hy;refine⟨q j,?_⟩;have e:(t++MemOp.ofEvents 0 g.frame.fn g.frame.place es).deaf j (t++MemOp.ofEvents 0 g.frame.fn g.frame.place es).size=Deaf t j:=
   Deaf_other t (g:=j) (g':=0) oM _ (λop hop=>by obtain⟨e,_,rfl⟩:=Go.Conc.mem_ofEvents hop;rfl)
  rw[e];exact hq.hears _
theorem ZdQ{fr g:Frame}(hf:FrR P F r fr g)(hw:WH (Iv P F) r v w){T:Nat->Question->Nat}{x:Value}(hl:fr.leaving (PF P F) (re v T) (.returned x))(hi:P.inits.idxOf? g.fn=none):
  ∃r' T' y w' ns,stepG P true (run1 g []) w = .ended (.done y) w' ns/\VR r' x y/\WR (Iv P F) r' (re v T') w'/\Kept r r' (re v T') (re v T') w w'/\∀e∈ns,EvG r' (re v T') w' e:=by
 obtain⟨hm,hd,hk,fn,hfn,hr⟩:=hl;obtain⟨T',hw'⟩:=hw.tape;have hr':=Z4q hf.tmps hw hr T';have o:=(Z1M (P:=P) (F:=F) (fn:=fn) hf.tmps).sim (re v T') w hw' #[];rw[hr']at o;obtain⟨r',y,w',ns,e,hw2,hn,hkk,he⟩:=o;have gm:g.mode = .returning:=by
  have:=hf.mode;rw[hm]at this;generalize g.mode=z at this⊢;cases this;rfl
 have gd:g.defers=[]:=by
  have:=hf.defers.1;rw[hd]at this;generalize g.defers=z at this⊢;cases this;rfl
 have gk:g.kind = .normal:=hf.kind.1▸hk;have gf:P.funcs[g.fn]?=some fn:=by rw[<-hf.fn,<-hf.own];exact hfn
 have e1:(results fn g.tmps).run P w = .ok y w':=by
  have:=congrArg Prod.fst e;simpa only[Yf] using this
 have e2:(results fn g.tmps).events P w #[]=#[]++ns:=by
  have:=congrArg Prod.snd e;simpa only[Yf] using this
 refine⟨r',T',y,w',seen P g.fn ((results fn g.tmps).events P w #[])++#[],?_,hn,hw2,hkk,?_⟩
 ·unfold stepG run1;simp only[gm];unfold unwind;simp only[gd,gm,gf,Yf,e1];unfold doReturn;simp only[gk,hi];rfl
 ·intro x hx;rw[Array.append_empty]at hx;exact Z0C e2 he x hx
end
end Lift
namespace Lift
open Go Go.Conc Go.RowKit Ev Mx
open Go.ConcM OsLater
noncomputable def fF(f:FuncId):Frame:={(default:Frame) with fn:=f,kind:=.normal}
def fA(N:Nat)(xs:Array Value):Act:={tmps:=xs++Array.replicate (N-xs.size) undef,defers:=[]}
def HdS(Z:World->Frame->World->Prop)(v:World)(V:List Frame)(u:World):Prop:=∃T0 T f',V=[f',poison]/\Z (re v T0) f' (re u T)
structure Snc(w0:World)(r:Ren)(v w:World):Prop where
 old:∀b,b<w0.heap.size->w.heap[b]?=w0.heap[b]?
 size:w0.heap.size<=w.heap.size
 os:w.os=w0.os
 out:w.output=w0.output
 shut:∀a b,r a=some b->b<w0.heap.size->Shut v a
theorem Snc.kep[Jk]{r r':Ren}(k:Kep r r' v v' w w')(h:Snc w0 r v w): Snc w0 r' v' w':=by
 refine⟨λb hb=>?_,Yd h.size k.sizeW,k.os.2.symm.trans h.os,k.out.trans h.out,λa b q hb=>?_⟩
 ·rw[<-h.old b hb];by_cases hn:∃a,r a=some b
  ·obtain⟨a,ha⟩:=hn;exact k.shutW a b (h.shut a b ha hb) ha
  ·exact k.far b (Y8 hb h.size) λa ha=>hn ⟨a,ha⟩
 ·rcases k.new a b q with q | ⟨_,q⟩
  ·exact k.shutS (h.shut a b q hb)
  ·have:=h.size;omega
theorem Z8w{J:Jk}(hj:J.j)(hg:∀f,J.gd f↔gJ f=true)(hn:∀f,¬J.law f){Post:Value->World->Prop}(hblk:∀b,S b->∃cs e fz,w.heap[b]?=some (.cells cs e fz))(hoff:∀b,S b->¬D b)(hlow:∀c,D c->c<w.heap.size){f:FuncId}{N:Nat}(hown:(Qy.F 1)[(f:Nat)]?=PP.funcs[(f:Nat)]?)(hargs:@VRs J (idS S) xs xs){c': Code}(hc:@Todo J PP (J.law f) (¬J.gd f) false (idS S) [.code c] [.code c']){Z:World->Frame->World->Prop}(hrun:∀v,Shadow S w v->∀T,ToZ (Qy.prog 1) [poison] (Z (re v T)) ((fF f).at (fA N xs) [.code c]) (re v T)){cs:List Frame}(next:∀v f' v' r' g' w' T1 T2,Shadow S w v->Z (re v T1) f' (re v' T2) -> @FrR J PP (Qy.F 1) r' f' g' -> @WH J (@Iv J PP (Qy.F 1)) r' v' w'->Idn r'->Off D r' w'->Snc w r' v' w'->Sure PP Post D (run1 g' cs) w'):
  Sure PP Post D (run1 ((fF f).at (fA N xs) [.code c']) cs) w:=by
 have hS2:Strip PP (Qy.F 1) (CodeOk PP false) (λf=>gJ f=true):=strip_J hj hg (λf _=>hn f) 1;have hG:GOk PP (Qy.F 1) (λf=>gJ f=true):=ZkQ hg (λf _=>hn f) 1;have hR:Rec PP:=⟨recP,hn⟩;obtain⟨v,hsh,hwh,hshut⟩:=Z2d (P:=PP) (F:=Qy.F 1) (w:=w) hj hblk;have hfr:FrR PP (Qy.F 1) (idS S) ((fF f).at (fA N xs) [.code c]) ((fF f).at (fA N xs) [.code c']):=by
  refine @FrR.mk J PP (Qy.F 1) (idS S) _ _ ?c1 ?c2 ?c3 ?c4 ?c5 ?c6 ?c7 ?c8
  case c1=>exact(rfl:(f:Nat)=f)
  case c2=>exact hown
  case c4=>exact hc
  case c5=>exact⟨.nil,λq=>absurd q (hn _)⟩
  case c6=>exact .run
  case c7=>exact⟨(rfl:CallKind.normal = .normal),.inl (rfl:CallKind.normal = .normal)⟩
  case c8=>exact .none
  ·show VRs (idS S) (xs++Array.replicate (N-xs.size) undef) (xs++Array.replicate (N-xs.size) undef);exact Arr.append hargs (Arr.replicate _ .undef)
 have hst:Stk PP (Qy.F 1) (idS S) [(fF f).at (fA N xs) [.code c]] [(fF f).at (fA N xs) [.code c']]:=⟨.cons hfr .nil,⟨.inl rfl,λh=>absurd rfl h⟩,trivial⟩;have hEn:Ends (PF PP (Qy.F 1)) (HdS Z v) [(fF f).at (fA N xs) [.code c],poison] v:=by
  obtain⟨T0,hw0⟩:=hwh.tape;obtain⟨σ,hw2⟩:=hw0.retape v.tape;refine Z1g hS2 hG hR ?_ (.inl ⟨[],_,[],_,_,rfl,hst,hw2⟩) λT=>?_
  ·rintro V u T ⟨T1,T2,f',e,q⟩;exact⟨T1,T2,f',e,q⟩
  ·obtain⟨f',w',hz,n,hn⟩:=hrun v hsh T;exact⟨n,f',[poison],w',hn,T,w'.tape,f',rfl,hz⟩
 have hof:Off D (idS S) w:=⟨λb c hb=>by obtain⟨q1,rfl⟩:=Z0H hb;exact hoff _ q1,hlow⟩;refine Sure.lone (A:=[]) (B:=[]) hS2 hG hR (λy u=>by rintro⟨T1,T2,f',e,q⟩;cases e) hEn rfl hst hwh hof ?_;intro f' A' g' B' r' v' w' hs hst' hw' hk;obtain⟨T1,T2,f2,e,hq⟩:=hs;simp only[List.cons.injEq]at e;obtain⟨rfl,e⟩:=e;have hA:A'=[]:=by
  cases A' with
  | nil=>rfl
  | cons a0 l0 =>
   have:=congrArg List.length e;simp at this
 subst hA;have hB:B'=[]:=by
  obtain⟨_,h,_⟩:=hst'.uncons;have:=h.rel;cases B' with
  | nil=>rfl
  | cons b bs=>cases this
 subst hB;have hi:Idn r':=λb c hb=>by
  rcases (hk.par hsh.size).2.1 b c hb with q | q
  ·exact(Z0H q).2
  ·exact q.symm
 have hsn:Snc w r' v' w':=Snc.kep hk ⟨λ_ _=>rfl,Ye _,rfl,rfl,λa b q _=>hshut a b q⟩;have ho':Off D r' w':=⟨λb c hb hd=>by
  rcases hk.new b c hb with q | ⟨_,q⟩
  ·exact hof.names b c q hd
  ·have:=hlow c hd;omega,λc hc=>Y8 (hlow c hc) hk.sizeW⟩
 exact next v f' v' r' g' w' T1 T2 hsh hq hst'.uncons.1 hw' hi ho' hsn
theorem ZjK{K:List Frame}{Z:Frame->World->Prop}{b:Frame}{R:Ending->World->Prop}(hf:P.funcs[b.fn]?=some fn)(hk:b.kind = .normal)(h:c.wp P (bodyPostM Fence.wide 9 P fn R) a w)(ho:∀w',¬R .outgrown w')(hz:∀e fr w',fr.leaving P w' e->R e w'->Z fr w'): ToZ P K Z (b.at a [.code c]) w:=by
 refine Z5I ?_;have key:∀(a1:Act) (w1:World) (u:FrameMode) td,LeavesInM Fence.wide 9 P fn a1.tmps R a1.defers u w1->ToZ P K Z {b.at a1 td with mode:=u} w1:=by
  intro a1 w1 u td hl;obtain⟨e,w2,fr,h1,h2,h3,h4⟩:=leaves_stepsInM (F:=Fence.wide) (n:=9) a1.defers u w1 {b.at a1 td with mode:=u} K rfl rfl rfl hf hk trivial (by simp[Fence.room,Fence.wide]) hl;cases e with
  | outgrown=>exact absurd h1 (ho _)
  | returned v=>exact⟨fr,w2,hz _ _ _ h4 h1,h2.comes⟩
  | panicked ch=>exact⟨fr,w2,hz _ _ _ h4 h1,h2.comes⟩
 refine wp_mono h λe a1 w1 q=>?_;cases e with
 | normal=>exact .inl ⟨rfl,ToZ.one Go.step_end (key a1 w1 .returning [] q)⟩
 | ret=>exact .inr (.inl ⟨rfl,λtd=>key a1 w1 .returning td q⟩)
 | panic ch=>exact .inr (.inr ⟨ch,rfl,λtd=>key a1 w1 _ td q⟩)
 | exit i=>exact q.elim
 | goto l=>exact q.elim
 | outgrown=>exact absurd q (ho _)
theorem ZiK {J:Jk} {r':Ren} {f:FuncId} {N:Nat} {L:List (Nat×Value)} {n7:Nat} {t:Code} {g':Frame} (hi:Idn r') (hf:@FrR J PP (Qy.F 1) r' ((fF f).at a [.code (.refuse "")]) g') (F:Has N [Z0V n7] a L) (hr0:J.rest=[.code t]):
  ∃gt,g'=(fF f).at ⟨gt,[Z0V n7]⟩ [.code t]/\gt.size=N/\∀k n,k<N->L.lookup k=some (pt n)->r' n=some n/\gt[k]?=some (pt n):=by
 obtain⟨gfn,gt,gtodo,gdef,gmode,gkind,gound⟩:=g';obtain⟨f1,_,f3,f4,f5,f6,f7,f8⟩:=hf;have e1:gtodo=[.code t]:=by
  have f4:Todo _ _ _ _ _ [.code (.refuse "")] gtodo:=f4;cases f4 with
  | cons x y =>
   cases x with
   | code hc=>exact hc.elim
  | tail=>exact hr0
  | cut _ _ h =>
   cases h with
   | stop h=>rw[<-h,hr0]
 have e2:gmode = .run:=by cases f6;rfl
 have e3:gound=none:=by cases f8;rfl
 obtain⟨f7,_⟩:=f7;obtain⟨f5,_⟩:=f5;dsimp only[Frame.at,fF]at f1 f3 f5 f7;subst e1 e2 e3 f1 f7;have hd:gdef=[Z0V n7]:=by
  have hds:a.defers=[Z0V n7]:=F.ds;rw[hds]at f5;cases f5 with
  | cons d t =>
   cases t;obtain⟨d1,d2⟩:=d;rename_i d0;obtain⟨dt,da⟩:=d0;dsimp only[Z0V]at d1 d2;obtain⟨y,rfl,hy⟩:=arr1 d2;cases d1 with
   | fn hf q =>
    cases hf;have:_=(#[]:Array Value):=Array.eq_empty_of_size_eq_zero q.1.symm;subst this;cases hy with
    | ptr z =>
     cases z with
     | mk z =>
      obtain rfl:=hi _ _ z;rfl
 subst hd;refine⟨gt,rfl,by rw[<-f3.1];exact F.sz,λk n hk e=>?_⟩;have e:=F.get k _ e;have h2:k<a.tmps.size:=by rw[F.sz];exact hk
 have h3:k<gt.size:=by rw[<-f3.1];exact h2
 have:=f3.2 k _ _ (Y2 h2) (Y2 h3);rw[Y6,Y2 h2]at e;simp only[Option.getD_some]at e;rw[e]at this;rw[Y2 h3];generalize gt[k]=z at this;cases this with
 | ptr q =>
  cases q with
  | mk q =>
   obtain rfl:=hi _ _ q;exact⟨q,rfl⟩
theorem Z4S[Jk](h:∀x∈xs,VR (idS S) x x): VRs (idS S) xs xs:=
 ⟨rfl,λi a b h1 h2=>by
  rw[h1]at h2;obtain rfl:=Y1 h2;exact h _ (Yk h1)⟩
end Lift
namespace Lift
open Go Go.Conc Go.RowKit Ev Mx
open Go.ConcM OsLater
structure VatC(D S:Nat->Prop)(x:Vm)(w:World):Prop where
 blk:∀b,S b->∃cs e fz,w.heap[b]?=some (.cells cs e fz)
 off:∀b,S b->¬D b
 low:∀c,D c->c<w.heap.size
 da:PV S (.slice x.da x.D.length x.dc)
 la:PV S (.slice x.la x.L.length x.lc)
 dp:∀p∈x.D,PV S p.1
 lp:∀p∈x.L,PV S p.1
 at_:x.At w
theorem VatC.shadow{x:Vm}{w1: World}(H:VatC D S x w)(hw:∀c,S c->w1.heap[c]?=w.heap[c]?)(sh:Shadow S w1 v): x.At v:=
 ⟨@ZhE jkN _ _ _ _ hw sh _ _ _ _ H.da H.dp H.at_.d,@ZhE jkN _ _ _ _ hw sh _ _ _ _ H.la H.lp H.at_.l⟩
theorem ZaU[Jk]{x:Vm}(H:VatC D S x w){z: Value}(p1:PV S y)(p2:PV S z): VRs (idS S) #[x.val,y,z] #[x.val,y,z]:=by
 refine Z4S λq hq=>?_;simp only[Yb,Yc,Ya,or_false]at hq;rcases hq with rfl | rfl | rfl
 ·refine .agg rfl (Z4S (xs:=x.vc) λq hq=>?_).2;simp only[Yb,Yc,Ya,or_false]at hq;rcases hq with rfl | rfl | rfl | rfl
  ·exact .int _ _
  ·exact H.da.vr
  ·exact H.la.vr
  ·exact .int _ _
 ·exact p1.vr
 ·exact p2.vr
end Lift
namespace Lift
open Go Go.Conc Go.RowKit Ev Mx
open Go.ConcM OsLater
theorem ZdE(h:IntR base w l y)(e:∀b:Nat,w'.heap[b]?=w.heap[b]?): IntR base w' l y:=by
 rcases h with h | ⟨g,c,h1,h2,h3,h4,h5,h6⟩
 ·exact .inl h
 ·exact .inr ⟨g,c,h1,h2,h3,h4,h5,(e g).trans h6⟩
theorem Zgw{x:Value}{fz:Nat×Nat}(h:w.heap[b]?=some (.cells #[x] T fz))(c:Nat): (w.setCell ⟨b,0,none⟩ x).heap[c]?=w.heap[c]?:=by
 simp only[World.setCell];by_cases e:b=c
 ·subst e;have:=(Y0.1 h).1;rw[Array.getElem?_modify];simp[h]
 ·rw[Array.getElem?_modify];simp[e]
theorem Zh7{w3 w4: World}{Mu Wg:Nat}(hold:∀b:Nat,b<w.heap.size->w'.heap[b]?=w.heap[b]?)(hsz:w.heap.size<=w'.heap.size)(hos:w'.os=w.os)(hout:w'.output=w.output)(U:UnE l w' w3 y Mu Wg)(e:∀b:Nat,w4.heap[b]?=w3.heap[b]?)(hs:w4.heap.size=w3.heap.size)(ho:w4.os=w3.os)(hu:w4.output=w3.output): UnE l w w4 y Mu Wg:=by
 refine⟨ZdE (Z8y U.lst hsz) e,λb hb=>?_,?_,?_,?_,⟨Yd hsz U.mu.1,by rw[hs];exact U.mu.2⟩,⟨Yd hsz U.wg.1,by rw[hs];exact U.wg.2⟩,U.ne⟩
 ·rw[e,U.old b (Y8 hb hsz),hold b hb]
 ·rw[hs];exact Yd hsz U.size
 ·rw[ho,<-hos];exact U.os
 ·rw[hu,U.out,hout]
theorem Z7l{xs:List FA}(h:Lis FOk xs fs)(e:xs=[]): fs=[]:=by
 subst e;cases h;rfl
theorem ZiR{xs:List FA}(h:Lis FOk xs fs)(e:xs.map (·.ret)=[true]): ∃g,fs=[g]/\g.mode = .returning:=by
 cases h with
 | nil=>cases e
 | cons a t =>
  simp only[List.map_cons,List.cons.injEq,List.map_eq_nil_iff]at e;obtain⟨e1,rfl⟩:=e;cases t;exact⟨_,rfl,by rw[a.mode,e1];rfl⟩
theorem ZcG:(PP.info? 85).map (·.size)=some 4:=kR
theorem ZfB(w:World):(sizeOf 30).run PP w = .ok 1 w:=kR
theorem Ziy(w:World):(isAgg 30).run PP w = .ok false w:=kR
end Lift
namespace Lift
open Go Go.Conc Go.RowKit Ev
open Go.ConcM OsLater
theorem lawJ(f:FuncId)(h:gJ f=true):¬f=lawF:=by
 rintro rfl;revert h;decide
section
variable[Jk]{C:Inv}{r:Ren}{v w u w':World}{D:Nat->Prop}
theorem Zk2(hw:WH C r v w)(hu:∀b,b<v.heap.size->u.heap[b]?=v.heap[b]?)(hv:∀b,b<w.heap.size->w'.heap[b]?=w.heap[b]?)(he:u.os.env=w'.os.env){a b:Nat}{cs:Array Value}{e:TypeId}
  (h1:u.heap[a]?=some (.cells cs e (0,0))) (h2:w'.heap[b]?=some (.cells cs e (0,0))) (ha:v.heap.size<=a) (hb:w.heap.size<=b) (hcs:∀x∈cs,∃n,x = .int .i64 n):WH C (r.add a b) u w'/\r.le (r.add a b):=by
 have hlt:∀c d,r c=some d->c<v.heap.size/\d<w.heap.size:=λc d q=>by
  obtain⟨o,o',g1,g2,_⟩:=hw.on _ _ q;exact⟨(Y0.1 g1).1,(Y0.1 g2).1⟩
 have hinj:Inj (r.add a b):=λx y c hx hy=>by
  unfold Ren.add at hx hy;split at hx<;>split at hy
  ·omega
  ·have:=(hlt _ _ hy).2;obtain rfl:=Y1 hx;omega
  ·have:=(hlt _ _ hx).2;obtain rfl:=Y1 hy;omega
  ·exact hw.inj _ _ _ hx hy
 have hle:r.le (r.add a b):=⟨λx c h=>by
  unfold Ren.add;rw[if_neg (by have:=(hlt _ _ h).1;omega)];exact h,λ_=>hinj⟩
 refine⟨⟨λx c h=>?_,hinj,he⟩,hle⟩;unfold Ren.add at h;split at h
 ·rename_i q;subst q;obtain rfl:=Y1 h;refine⟨_,_,h1,h2,.cells ⟨rfl,λi y z hy hz=>?_⟩ (.inl ⟨rfl,rfl⟩)⟩;rw[hy]at hz;obtain rfl:=Y1 hz;obtain⟨n,rfl⟩:=hcs _ (Yk hy);exact .int _ _
 ·obtain⟨o,o',g1,g2,g3⟩:=hw.on _ _ h;exact⟨o,o',by rw[hu _ (hlt _ _ h).1];exact g1,by rw[hv _ (hlt _ _ h).2];exact g2,g3.mono hle⟩
theorem Zf2(hw:WH C r v w)(hu:∀b,b<v.heap.size->u.heap[b]?=v.heap[b]?)(hv:∀b,b<w.heap.size->w'.heap[b]?=w.heap[b]?)(he:u.os.env=w'.os.env):WH C r u w':=
 ⟨λx c h=>by
  obtain⟨o,o',g1,g2,g3⟩:=hw.on _ _ h;exact⟨o,o',by rw[hu _ (Y0.1 g1).1];exact g1,by rw[hv _ (Y0.1 g2).1];exact g2,g3⟩,hw.inj,he⟩
theorem arr3{a b c:Value}(h:Arr R #[a,b,c] ys): ∃a' b' c',ys=#[a',b',c']/\R a a'/\R b b'/\R c c':=by
 have hl:=h.lis;generalize hy:ys.toList=l at hl;cases hl with
 | cons h1 t =>
  cases t with
  | cons h2 t =>
   cases t with
   | cons h3 t =>
    cases t with
    | nil=>exact⟨_,_,_,Array.ext' hy,h1,h2,h3⟩
theorem ZmT(h:xs.size=3): ∃a b c,xs=#[a,b,c]:=by
 obtain⟨l⟩:=xs
 match l,h with
 | [a,b,c],_=>exact⟨a,b,c,rfl⟩
end
theorem Z9W{o o':Os}(h:OsLater o o'):o'.env=o.env:=by
 obtain⟨d,rfl⟩:=h;rfl
structure KeptW(v u w w':World)(r r':Ren):Prop where
 lone:∀b,b<v.heap.size->u.heap[b]?=v.heap[b]?
 old:∀b,b<w.heap.size->w'.heap[b]?=w.heap[b]?
 size:w.heap.size<=w'.heap.size
 os:OsLater w.os w'.os
 out:w'.output=w.output
 new:∀a b,r' a=some b->r a=some b\/w.heap.size<=b
def tG(c:Nat):Nat->Question->Nat:=λ_ q=>match q with
 | .appendCap n _ _=>if n=7 then 0 else c-n
 | _=>0
end Lift
namespace Lift
open Go Go.Conc Go.RowKit Ev
open Go.ConcM OsLater
structure Since(w0:World)(r:Ren)(v w:World):Prop where
 old:∀b,b<w0.heap.size->w.heap[b]?=w0.heap[b]?
 size:w0.heap.size<=w.heap.size
 os:OsLater w0.os w.os
 out:w.output=w0.output
 shut:∀a b,r a=some b->b<w0.heap.size->Shut v a
theorem Since.kep[Jk]{r r':Ren}(k:Kep r r' v v' w w')(h:Since w0 r v w): Since w0 r' v' w':=by
 refine⟨λb hb=>?_,Yd h.size k.sizeW,?_,?_,λa b q hb=>?_⟩
 ·rw[<-h.old b hb];by_cases hn:∃a,r a=some b
  ·obtain⟨a,ha⟩:=hn;exact k.shutW a b (h.shut a b ha hb) ha
  ·exact k.far b (Y8 hb h.size) λa ha=>hn ⟨a,ha⟩
 ·have:w'.os=w.os:=k.os.2.symm;rw[this];exact h.os
 ·have:w'.output=w.output:=k.out;rw[this];exact h.out
 ·rcases k.new a b q with q | ⟨_,q⟩
  ·exact k.shutS (h.shut a b q hb)
  ·have:=h.size;omega
theorem Since.more{r r':Ren}(k:KeptW v v' w w' r r')(hlt:∀a b,r a=some b->a<v.heap.size)(h:Since w0 r v w): Since w0 r' v' w':=by
 refine⟨λb hb=>(k.old b (Y8 hb h.size)).trans (h.old b hb),Yd h.size k.size,h.os.trans k.os,k.out.trans h.out,λa b q hb=>?_⟩;rcases k.new a b q with q | q
 ·obtain⟨cs,e,z⟩:=h.shut a b q hb;exact⟨cs,e,(k.lone a (hlt a b q)).trans z⟩
 ·have:=h.size;omega
def Zi5(w0:World)(x:Value)(w:World):Prop:=x = .bool true/\(∀b,b<w0.heap.size->w.heap[b]?=w0.heap[b]?)/\w0.heap.size<=w.heap.size/\OsLater w0.os w.os/\w.output=w0.output
end Lift
section
open Go.RowKit
variable{μ:Nat}
theorem ZdU{er:Int}{e:Ending}(h:er=0)(he:e = .returned (.tuple #[]))(E:Ext [] w w'): Z2w er w e w':=⟨.inl ⟨h,he⟩,E⟩
theorem Z4M{er r:Int}{e:Ending}(h:er=r)(hr:r≠0)(he:e = .panicked [fltV r])(E:Ext [] w w'): Z2w er w e w':=⟨.inr ⟨by rw[h];exact hr,by rw[h];exact he⟩,E⟩
theorem Z6X(hl:(l.length:Int)<m): cntE l m h=7:=if_pos hl
theorem Z4B(hl:m<(l.length:Int)): cntE l m h=6:=by rw[cntE,if_neg oM,if_pos hl]
theorem Z9s(hl:(l.length:Int)=m): cntE l m h=numE l m h:=by
 rw[cntE,if_neg oM,if_neg oM];exact(if_neg (show ¬(l.length:Int)≠m from λh=>h hl)).symm
theorem Z6k(x:Vm)(hv:VOk x)(s:List Int)(hl:s.length<=1000)(a:Option Addr)(c:Nat)(w:World)(hr:Z6 w (.slice a s.length c) 1 (s.map Z4)):
  Calls (Qy.prog μ) 78 #[.agg x.vc,.slice a s.length c] w (Z2w (cntE s x.B 9) w):=by
 have E:=Ext.refl [] w;have hb3:=hv.b3;have HR:=Lib.hid hr;clear hr;have G:=(Bk.nil w).ce E;refine(ent 30 Tryz.f78 rfl) λF=>wR λk1=>(F.bx G) λyy F G=>k1<|wQ λk2=>wR λk3=>(F.m) λF=>(F.y F.ln) λF=>(F.y (F.fd 0)) λF=>(F.y (F.fd 0)) λF=>(F.y (F.lc (G.q 0))) λF=>(F.y F.ls) λF=>k3<|F.ci (λhc11=>?_) (λhc11=>?_)
 ·refine Yg<|(F.y (F.mi Qy.underlying135)) λF=>(F.px) ?_
  (try simp only[Exit.inBlock,Exit.then,Exit.jump,reduceIte])
  refine⟨F.ds,?_⟩;exact Z4M (Z6X oM) dC rfl (G.e 1)
 ·refine Yi<|k2<|wQ λk4=>wR λk5=>(F.m) λF=>(F.y F.ln) λF=>(F.y (F.fd 0)) λF=>(F.y (F.fd 0)) λF=>(F.y (F.lc (G.q 0))) λF=>(F.y F.gt) λF=>k5<|F.ci (λhc18=>?_) (λhc18=>?_)
  ·refine Yg<|(F.y (F.mi Qy.underlying135)) λF=>(F.px) ?_
   (try simp only[Exit.inBlock,Exit.then,Exit.jump,reduceIte])
   refine⟨F.ds,?_⟩;exact Z4M (Z4B oM) dC rfl (G.e 1)
  ·refine Yi<|k4<|wR λk6=>(F.m) λF=>(F.y (F.fd 0)) λF=>(F.y (F.fd 0)) λF=>(F.y (F.lc (G.q 0))) λF=>(F.k0 G (Z1U s x.B 9 a c _ (HR.out.ext (G.e 1) sU) oM oM)) λF G=>(F.m) λF=>(F.y F.xt) λF=>(F.y F.xt) λF=>(F.m) λF=>(F.m) λF=>k6 ?_
   by_cases hz:numE s x.B 9=0
   ·rw[hz]at F;refine Yg<|(F.m) λF=>(F.k0 G (Z7w _)) λF G=>(F.f0) ?_
    exact ZdU ((Z9s oM).trans hz) rfl (G.e 1)
   ·refine Yg<|(F.m) λF=>(F.kx G (Z7v _ hz _)) λG=>?_
    (try simp only[Exit.inBlock,Exit.then,Exit.jump,reduceIte])
    refine⟨F.ds,?_⟩;exact Z4M (Z9s oM) hz rfl (G.e 1)
theorem ZaN(x:Vm)(hl3:x.L.length<=1000)(n:Int)(w:World):Calls (Qy.prog μ) 87 #[.agg x.vc,.int .i64 n] w (Z2w (if outB n 0 (((x.L.length:Nat):Int)-1)=true then 3 else 0) w):=by
 have E:=Ext.refl [] w;obtain⟨bb,hbb⟩:∃bb,bb=outB n 0 (((x.L.length:Nat):Int)-1):=⟨_,rfl⟩;rw[<-hbb];have G:=(Bk.nil w).ce E;refine(ent 12 Tryz.f87 rfl) λF=>wR λk1=>(F.bx G) λyy F G=>k1<|wR λk2=>(F.m) λF=>(F.y (F.fd 0)) λF=>(F.y (F.fd 2)) λF=>(F.y (F.lc (G.q 0))) λF=>(F.y F.ln) λF=>(F.y F.sb) λF=>(F.k (ZX n 0 (((x.L.length:Nat):Int)-1) _)) ?_
 rintro _ w2 ⟨rfl,e9⟩;refine kG G e9 λF G=>?_;rw[<-hbb]at F;refine k2<|F.cb (λhc10=>?_) (λhc10=>?_)
 ·refine Yg<|(F.y (F.mi Qy.underlying135)) λF=>(F.px) ?_
  (try simp only[Exit.inBlock,Exit.then,Exit.jump,reduceIte])
  refine⟨F.ds,?_⟩;exact Z4M (if_pos hc10) dC rfl (G.e 1)
 ·refine Yi<|(F.e0) ?_
  exact ZdU (if_neg (by simpa using hc10)) rfl (G.e 1)
theorem Z7q{er r:Int}{e:Ending}(h:Z2w er w e w')(he:er=r)(hr:r≠0): e = .panicked [fltV r]/\Ext [] w w':=by
 subst he;rcases h with⟨⟨h1,-⟩ | ⟨-,h1⟩,E⟩
 ·exact absurd h1 hr
 ·exact⟨h1,E⟩
theorem ZiW{er:Int}{e:Ending}(h:Z2w er w e w')(he:er=0): e = .returned (.tuple #[])/\Ext [] w w':=by
 subst he;rcases h with⟨⟨-,h1⟩ | ⟨h1,-⟩,E⟩
 ·exact⟨h1,E⟩
 ·exact absurd rfl h1
variable{μ:Nat}
def rcpE(x:Vm)(l:List Int):Int:=if cntE l x.D.length 6≠0 then cntE l x.D.length 6 else sizE l.sum 6
theorem ZcZ(hl:(l.length:Int)=m)(hi:i<l.length)(ho:outB (l.getD i 0) 0 h=true): cntE l m h=1:=by
 rw[cntE,if_neg oM,if_neg oM,if_neg];intro e;have:=Yl.1 e _ (Z5 0 hi);rw[ho]at this;simp at this
theorem Zhv(hl:(l.length:Int)=m)(hb:∀n∈l,0<=n/\n<=h): cntE l m h=0:=by
 rw[cntE,if_neg oM,if_neg oM,if_pos];exact Yl.2 λn hn=>by rw[Z0d.2 (hb n hn)];rfl
theorem Zi0:∀{l:List Int},(∀n∈l,0<=n)->0<=l.sum
 | [],_=>by simp
 | n::l,h=>by
  have h1:=h n sU;have h2:=Zi0 (l:=l) (λm hm=>h m (by simp[hm]));rw[List.sum_cons];omega
theorem Z3L{x:Vm}: rcpE x l=0↔RcpOk x l:=by
 constructor
 ·intro h;unfold rcpE at h;by_cases hc:cntE l x.D.length 6=0
  ·rw[if_neg (by simpa using hc)]at h;have hlen:l.length=x.D.length:=by
    rcases Nat.lt_trichotomy l.length x.D.length with e | e | e
    ·rw[Z6X oM]at hc;omega
    ·exact e
    ·rw[Z4B oM]at hc;omega
   have hbd:∀n∈l,0<=n/\n<=6:=λn hn=>by
    obtain⟨k,hk,rfl⟩:=List.getElem_of_mem hn;have hg:l.getD k 0=l[k]:=by simp[Y7,List.getElem?_eq_getElem hk]
    rw[<-hg];apply Z0d.1;cases e:outB (l.getD k 0) 0 6
    ·rfl
    ·rw[ZcZ oM hk e]at hc;omega
   have hnn:=Zi0 (λn hn=>(hbd n hn).1);refine⟨hlen,hbd,?_,?_⟩
   ·unfold sizE at h;split at h<;>(try split at h)<;>omega
   ·unfold sizE at h;split at h<;>(try split at h)<;>omega
  ·rw[if_pos hc]at h;exact absurd h hc
 ·intro h;have hc:cntE l x.D.length 6=0:=Zhv (by rw[h.len]) h.bd;rw[rcpE,if_neg (by simpa using hc)];exact Z7G h.s1 h.s6
theorem Z4b(x:Vm)(hv:VOk x)(l:List Int)(hl:l.length<=1000)(he:rcpE x l≠0)(a:Option Addr)(c:Nat)(w:World)(hr:Z6 w (.slice a l.length c) 1 (l.map Z4)):
  Calls (Qy.prog μ) 65 #[.agg x.vc,.slice a l.length c] w λe w'=>e = .panicked [fltV (rcpE x l)]/\Ext [] w w':=by
 have E:=Ext.refl [] w;have HR:=Lib.hid hr;have HS:=Lib.hid (Z7 hr 0);have hd1:=hv.d1;have hd4:=hv.d4;clear hr hv;obtain⟨er,her⟩:∃er,er=rcpE x l:=⟨_,rfl⟩;rw[<-her]at he⊢;unfold rcpE at her;have G:=(Bk.nil w).ce E;refine(ent 42 Tryz.f65 rfl) λF=>wR λk1=>(F.bx G) λyy F G=>(F.al G Qy.zeroValue88) λyy F G=>k1<|wQ λk2=>wR λk3=>(F.m) λF=>(F.y F.ln) λF=>(F.y (F.fd 0)) λF=>(F.y (F.fd 1)) λF=>(F.y (F.lc (G.q 1))) λF=>(F.y F.ln) λF=>(F.y F.ls) λF=>k3<|F.ci (λhc14=>?_) (λhc14=>?_)
 ·refine Yg<|(F.y (F.mi Qy.underlying135)) λF=>(F.px) ?_
  (try simp only[Exit.inBlock,Exit.then,Exit.jump,reduceIte])
  refine⟨F.ds,?_⟩;rw[her,Z6X oM];exact⟨rfl,(G.e 2)⟩
 ·refine Yi<|k2<|wQ λk4=>wR λk5=>(F.m) λF=>(F.y F.ln) λF=>(F.y (F.fd 0)) λF=>(F.y (F.fd 1)) λF=>(F.y (F.lc (G.q 1))) λF=>(F.y F.ln) λF=>(F.y F.gt) λF=>k5<|F.ci (λhc22=>?_) (λhc22=>?_)
  ·refine Yg<|(F.y (F.mi Qy.underlying135)) λF=>(F.px) ?_
   (try simp only[Exit.inBlock,Exit.then,Exit.jump,reduceIte])
   refine⟨F.ds,?_⟩;rw[her,Z4B oM];exact⟨rfl,(G.e 2)⟩
  ·refine Yi<|k4<|wQ λk6=>wR λk7=>(F.m) λF=>(F.y F.ln) λF=>(F.m) λF=>k7<|Yh<|lpB (F.b [1,4,24,25]) G l.length (λi Lv Sv W=>Lv=[(26,.int .i64 ((i:Nat):Int))]/\Sv=[]/\RowKit.Hid (∀j,j<i->outB (l.getD j 0) 0 6=false)) ⟨_,_,F.u,G.u,rfl,rfl,Lib.hid (λj hj=>absurd hj oM)⟩ ?_
   clear F G;rintro i _ w3 _ _ hi1 ⟨rfl,rfl,hb⟩ F G;replace G:=G.z;refine wR λk8=>(F.y F.ls) λF=>k8<|wQ λk9=>F.ci (λhc27=>?_) (λhc27=>?_)
   ·refine Yi<|k9<|wQ λk10=>Yh<|wR λk11=>(F.ix HS.out i) λxr12 F=>(F.y (F.l1 (xr12 _ (G.e 2)) 0)) λF=>(F.m) λF=>k11<|wQ λk13=>?_
    by_cases ho:outB (l.getD i 0) 0 6=true
    ·refine Yg<|(F.m) λF=>(F.k (ZX (l.getD i 0) 0 6 _)) ?_
     rintro _ w4 ⟨rfl,e9⟩;refine kG G e9 λF G=>?_;rw[ho]at F;refine k13<|(F.cT)<|Yg<|(F.y (F.mi Qy.underlying135)) λF=>(F.px) ?_
     (try simp only[Exit.inBlock,Exit.then,Exit.jump,reduceIte])
     refine⟨F.ds,?_⟩;rw[her,ZcZ oM oM ho];exact⟨rfl,(G.e 2)⟩
    ·refine Yg<|(F.m) λF=>(F.k (ZX (l.getD i 0) 0 6 _)) ?_
     rintro _ w5 ⟨rfl,e9⟩;refine kG G e9 λF G=>?_;rw[show outB (l.getD i 0) 0 6=false by simpa using ho]at F;refine k13<|(F.cF)<|Yi<|k10<|Yg<|(F.y F.ad) λF=>(F.m) λF=>?_
     show _/\_;exact⟨oM,_,_,F.u,G.u,rfl,rfl,Lib.hid (λj hj=>(by rcases Nat.lt_or_ge j i with h | h;exact hb.out j h;rw[show j=i by omega];simpa using ho))⟩
   ·refine wp_exit ?_;have HB:=Lib.hid (λn (hn:n∈l)=>(by obtain⟨k,hk,rfl⟩:=List.getElem_of_mem hn;have:=hb.out k oM;rw[Y7,List.getElem?_eq_getElem hk]at this;exact Z0d.1 this:0<=n/\n<=6));have hpr:prt (val l)=l.sum:=Z2s l 4 oM;have HT:=Lib.hid (λk (_:k<4)=>(by have:=Z6B HB.out oM oM k;omega:0<=val l k/\val l k<=1000));have hcz:cntE l x.D.length 6=0:=Zhv oM HB.out;rw[if_neg (by simpa using hcz)]at her;refine k6<|wR λk14=>(F.al G Qy.zeroValue88) @λn7 w6 _ yy F G=>?_
    have q7:=G.q 0;replace q7:w6.heap[n7]?=some (.cells (tubC zf) 88 (0,0)):=q7;replace G:=G.rQ 0 q7;clear q7;refine k14<|wQ λk15=>Yg ?_
    refine(F.y ((Z1r (n:=4) rfl (F.at rfl) kR kR kR))) λF=>(F.m) λF=>?_;have hlr2:=HR.out.ext (G.e 3) sU;obtain⟨sb,so,hsa,-,-⟩:=hlr2.range rfl (by intro e;have hq:=congrArg List.length e;rw[Yj,List.length_nil]at hq;omega);rw[hsa]at hlr2;have hcd:∀j,j<l.length->(w6.cell? ⟨n7,0+j,none⟩).isSome=true:=λj hj=>(by have:=Z2v (G.q 0) (i:=(j:Int)) (k:=j) rfl oM;rw[Nat.mul_one,Int.toNat_natCast]at this;rw[this];rfl);refine sqN F (Zct (l.map (Value.int .i64)) rfl (F.at rfl) ((F.at rfl).trans (congrArg (λz=>Value.slice z _ _) hsa)) Qy.underlying22 kR (by rw[Yj];exact(Nat.min_eq_left oM).symm) (Z6Z hlr2) (by rw[Yj];exact hcd) (by rw[Yj];exact λj _=>Zg (G.q 0) _) (Z4K _)) ?_ (hw:=F.want rfl);clear F;rintro _ w7 F hw;replace G:=G.pr 0 hw (Zb2 hw (G.q 0) oM);refine k15<|wR λk16=>(F.y (F.lb (G.q 0))) λF=>(F.k (ZY (val l) HT.out _)) ?_
    rintro _ w8 ⟨rfl,e9⟩;refine kG G e9 λF G=>?_;rw[hpr]at F;refine(F.k (Z3O l.sum 6 _)) ?_;rintro _ w9 ⟨rfl,e9⟩;refine kG G e9 λF G=>?_;rw[<-her]at F;refine(F.kx G (Z7v er he _)) λG=>?_
    (try simp only[Exit.inBlock,Exit.then,Exit.jump,reduceIte])
    refine⟨F.ds,?_⟩;exact⟨rfl,(G.e 3)⟩
end
section
open Go.RowKit Ev
variable{μ:Nat}
theorem Z8f(x:Vm)(hv:VOk x)(k:Nat)(hk:k<x.L.length)(f:Nat->Int)(hf:TubS f)(s:List Int)(hs:Z1s x s)(sa:Option Addr)(sc:Nat)(n8 n9 n5:Nat)(T8 T9 T5:TypeId)(z8 z9 z5:Nat×Nat)(w:World)(h:x.At w)(hr:Z6 w (.slice sa s.length sc) 1 (s.map Z4))
  (q8:w.heap[n8]?=some (.cells x.vc T8 z8)) (q9:w.heap[n9]?=some (.cells (tubC f) T9 z9)) (q5:w.heap[n5]?=some (.cells #[.slice sa s.length sc] T5 z5)) :
  Calls (Qy.prog μ) 79 #[.int .i64 ((k:Nat):Int),.pointer (some ⟨n8,0,none⟩),.pointer (some ⟨n9,0,none⟩),.pointer (some ⟨n5,0,none⟩)] w λe w'=>e = .returned (.bool (matE x f (val s) [((k:Nat):Int)]))/\Ext [] w w':=by
 have E:=Ext.refl [] w;have HX:=Lib.hid h;have HV:=Lib.hid hv;have HR:=Lib.hid hr;clear h hv hr;refine Z1t 12 Qy.func79 rfl Tryz.ntmps79 (Nat.le_of_ble_eq_true rfl) ?_;intro fa F;refine wS λK1 hK1=>?_;refine Yg ?_;refine F.vl (Z08 rfl (ev_c fa _)) λfa F=>?_;refine wN<|hK1 _ _<|wS λK2 hK2=>?_
 refine Yg ?_;refine F.vl (Z28 rfl (F.at rfl) Qy.underlying85 rfl kR q8) λfa F=>?_;refine F.vl (Z28 rfl (F.at rfl) Qy.underlying88 rfl kR q9) λfa F=>?_;refine F.vl (Z1e rfl (F.at rfl) Qy.underlying22 rfl ((Z3 q5 0).trans get0)) λfa F=>?_;refine F.mv λfa F=>?_;refine sqN F (Z0J rfl (prS (F.at rfl) pr0) Qy.underlying22 (size:=1) kR dC dC Qy.zeroValue3 (cells:=#[.int .i64 ((k:Nat):Int)]) kR) λfa w1 F hw=>?_;obtain⟨n10,hn⟩:=eQ w.heap.size;rw[<-hn]at F;have s10:=sQ hn;have l10_E:=lQ hn E.size;have m10_8:=tQ hn (Z8 q8);have m10_9:=tQ hn (Z8 q9);have m10_5:=tQ hn (Z8 q5);replace q8:=Zf hw q8;replace q9:=Zf hw q9;replace q5:=Zf hw q5;replace E:=Zv E hw;have q10:=Z0m hw hn;clear hw hn;refine sqC F (Zcs rfl rfl Qy.call80 (mpS (F.at rfl) (mpS (F.at rfl) (mpS (F.at rfl) (mpS (F.at rfl) mp0))))) (Z7u (μ:=μ) x HV.out f hf s hs [((k:Nat):Int)] (by intro n hn;obtain rfl:=List.mem_singleton.1 hn;omega) sU sa (some ⟨n10,0,none⟩) sc 1 _ (HX.out.ext E) (HR.out.ext E sU) (ZN [((k:Nat):Int)] 1 q10)) λe w2 hR=>?_;obtain⟨rfl,e9⟩:=hR;refine⟨_,rfl,λfa F=>?_⟩;replace q8:=(e9).keep0 q8;replace q9:=(e9).keep0 q9;replace q5:=(e9).keep0 q5;replace q10:=(e9).keep0 q10;replace E:=Z7c E e9;clear e9;refine F.as λfa F=>?_;refine wN<|hK2 _ _ ?_
 refine wp_ret ?_
 (try simp only[Exit.inBlock,Exit.then,reduceIte])
 refine rt_v F (rs_1 F rfl rfl) ?_;exact⟨rfl,E⟩
noncomputable def mB:Code:=Tryz.f26.body.getD .skip
noncomputable def cMat:Code:=.seq (sqL mB) (.seq (sqL (sqR mB)) (.seq (sqL (sqR (sqR mB))) (.seq (sqL (sqR (sqR (sqR mB)))) (.seq (sqL (sqR (sqR (sqR (sqR mB))))) (.refuse "")))))
structure MaA(x:Vm)(f:Nat->Int)(s:List Int)(sa:Option Addr)(sc:Nat)(w:World)(b fr:Frame)(w':World):Prop where
 ex:∃(a:Act) (n7 n8 n9 n5:Nat),fr=b.at a [.code (.refuse "")] /\
  Has 21 [Z0V n7] a [(7,pt n7),(8,pt n8),(9,pt n9),(5,pt n5)] /\
  w'.heap[n7]?=some (.cells #[.int .i64 0] 30 (0,0))/\w'.heap[n8]?=some (.cells x.vc 85 (0,0)) /\
  w'.heap[n9]?=some (.cells (tubC f) 88 (0,0))/\w'.heap[n5]?=some (.cells #[.slice sa s.length sc] 22 (0,0)) /\
  w.heap.size<=n7/\w.heap.size<=n8/\w.heap.size<=n9/\w.heap.size<=n5/\n7≠n8/\n7≠n9/\n7≠n5/\Ext [] w w'
theorem Zlc(x:Vm)(hv:VOk x)(l s:List Int)(hl:RcpOk x l)(hs:Z1s x s)(a1 a2:Option Addr)(c1 c2:Nat)(w:World)(h:x.At w)(hr:Z6 w (.slice a1 l.length c1) 1 (l.map Z4))(hr':Z6 w (.slice a2 s.length c2) 1 (s.map Z4))
  (fb:Frame) (fa:Act) (F:Has 21 [] fa [(0,x.val),(1,.slice a1 l.length c1),(2,.slice a2 s.length c2)]):ToZ (Qy.prog 1) [Lift.poison] (MaA x (val l) s a2 c2 w fb) (fb.at fa [.code cMat]) w:=by
 have E:=Ext.refl [] w;have HX:=Lib.hid h;have HV:=Lib.hid hv;have HR:=Lib.hid hr;have HR':=Lib.hid hr';have HL:=Lib.hid hl;have HS:=Lib.hid hs;clear h hv hr hr' hl hs;unfold Vm.val at F;have G:=(Bk.nil w).ce E;refine Z2u<|Z5I<|Yg<|(F.bx G) λyy F G=>(F.bx G) @λn5 w2 _ yy F G=>(F.m) λF=>(F.al G Qy.zeroValue30) @λn7 w3 _ yy F G=>tI<|Z2u<|Z5I<|Yg<|(F.df) λF=>tI<|Z2u<|Z5I<|Yg<|(F.y (F.lb (G.q 2))) λF=>(F.k0 G (Z09 (μ:=1) x HV.out _ (HX.out.ext (G.e 3)))) λF G=>(F.al G Qy.zeroValue85) @λn8 w5 _ yy F G=>(F.sr G 0) λG=>tI<|Z2u<|Z5I<|Yg ?_
 refine(F.y (F.lb (G.q 0))) λF=>(F.m) λF=>(F.k (Z0B (μ:=1) x HV.out l HL.out a1 c1 _ (HR.out.ext (G.e 4) sU))) ?_;rintro _ w7 ⟨rfl,e9⟩;refine kG G e9 λF G=>?_;unfold tubC at F;refine(F.al G Qy.zeroValue88) @λn9 w8 _ yy F G=>(F.sr G 0) λG=>tI<|Z2u<|Z5I<|Yg<|(F.y (F.lb (G.q 1))) λF=>(F.y (F.lc (G.q 3))) λF=>(F.k0 G (Z2n (μ:=1) x HV.out s HS.out a2 c2 _ (HR'.out.ext (G.e 5) sU))) λF G=>tI ?_
 exact ToZ.here ⟨_,n7,n8,n9,n5,rfl,F.u,G.q 2,G.q 1,G.q 0,G.q 3,oM,oM,oM,oM,oM,oM,oM,G.e 5⟩
end
end Go.Proofs.YtfelljbfeoplhaaGreat
