/- Parts of a proof: Ww, Uc, Ud, Ue, Yb, Yc, Qj, Yd, Ye, Yf, Zh, Za, Zi, Dfm, Dfn, Xa, Xb, Xc, Xe. No conditions. -/
import Derived.Defers
import Derived.Test.YtfelljbfeoplhaaGreatPpo1
import Derived.Test.YtfelljbfeoplhaaGreatPpo3
import Derived.Test.YtfelljbfeoplhaaGreatPpo5
import Derived.Test.YtfelljbfeoplhaaGreatPpo6
import Derived.Test.YtfelljbfeoplhaaGreatPpo7
import Derived.Test.YtfelljbfeoplhaaGreatPpo8
import Derived.Test.YtfelljbfeoplhaaGreatPpo10
set_option linter.unusedVariables false
set_option linter.unusedSimpArgs false
set_option linter.unusedSectionVars false
set_option maxRecDepth 100000
set_option maxHeartbeats 4000000
namespace Go.Proofs.YtfelljbfeoplhaaGreat
variable{R:Go.Value→Go.Value→Prop}{xs ys:Array Go.Value}{a:Option Go.Addr}{L:List (Go.Value×List Int)}{b base c k n o t1 t2:Nat}{P:Go.Program}{S:Nat→Prop}{T:Go.TypeId}{v v' w w' w0:Go.World}{l:List Int}{u x y:Go.Value}{fn:Go.Func}{g:Go.FuncId}{fs:List Go.Frame}{h m:Int}
namespace Lift
open Go Go.Conc Ev
open Mx
open Go.ConcM (OsLater woken_by_blocked quitsD_running)
open Go.ConcN (upd upd_ne upd_same sumTo sumTo_upd)
variable[Jk]
def pnq(P:Program)(X:Xt):Nat→St→Bool
 | 0,_=>true
 | n+1,s=>match pmove P X s.top s.rest with
  | some m=>(match m.ev with | .none=>true | _=>false)&&pnq P X n (s.upd m)
  | none=>true
section
variable{F:Array Func}{G:FuncId→Prop}{X:Ph}{w w':World}{Post:Value→World→Prop}{D:Nat→Prop}{f:Frame}{fs cs:List Frame}{k:Wk}{T:Nat→Value}{n:Nat}{x:Value}{u:Nat→Value}
theorem Sure.pn{X:Xt}(hX:XOk PP X):∀(n:Nat) (st:St) {f:Frame} {fs:List Frame},SOk st.top st.rest f fs→pnq PP X n st=true→(pn PP X n st).cvs=[] →
  (∀f' fs',SOk (pn PP X n st).top (pn PP X n st).rest f' fs'→Sure PP Post D (run1 f' (fs'++cs)) w)→Sure PP Post D (run1 f (fs++cs)) w
 | 0,st,f,fs,h,hq,hc,k=>k f fs h
 | n+1,st,f,fs,h,hq,hc,k=>by
  unfold Ev.pn at hc k;unfold pnq at hq
  cases e:pmove PP X st.top st.rest with
  | none=>rw[e]at k;exact k f fs h
  | some mv =>
   rw[e]at hc k hq;dsimp only at hc k hq;rw[Y5]at hq;obtain⟨q1,q2⟩:=hq;obtain⟨f',fs',h',hs⟩:=pmove_ok (cs:=cs) hX h e;obtain⟨m1,_⟩:=pn_mono PP X n (st.upd mv);have hps:mv.ps=[]:=by
    cases hp:mv.ps with
    | nil=>rfl
    | cons a l =>
     have:=m1 a (List.mem_append_left _ (by rw[hp];simp));rw[hc]at this
     cases this
   have hev:mv.ev = .none:=by
    cases hv:mv.ev<;>rw[hv]at q1<;>first | rfl | cases q1
   have hgo:=Sure.pn hX n (st.upd mv) h' q2 hc k;refine Sure.step rfl fun w1 hl=>⟨_,w1,_,hs true w1 (by rw[hps];simp),?_,by rw[hl.1];exact Ye _,hgo.like hl⟩;rw[hev];simp[XEv.es]
theorem q_y:pnq PP xtQ 200 ((cMy k T n n x u).an (.tuple #[]))=true:=by kernel_rfl
theorem q_q:pnq PP xtQ 200 ((cMq k T n n x u).an (.tuple #[]))=true:=by kernel_rfl
def Z7E(X:Ph)(Post:Value→World→Prop):Prop:=∀(w':World) (x:Value) (u:Nat→Value) (f:Frame) (fs:List Frame) (s:Sh),SOk (cMf X.k X.T X.n X.n x u).top (cMf X.k X.T X.n X.n x u).rest f fs →
 (∀c,c<X.wS.heap.size→c≠X.K.Mu→c≠X.K.Wg→c≠X.K.Fd→w'.heap[c]?=X.wS.heap[c]?)→X.wS.heap.size≤w'.heap.size→OsLater X.wS.os w'.os→w'.output=X.wS.output→ShAt X.K w' s→s.fd.length=X.n→(∀x,x<X.n→s.fd[x]?=some (X.β x)) →
 Sure PP Post (fun c=>X.D c∨c=X.K.Mu∨c=X.K.Wg) (run1 f (fs++X.cs)) w'
theorem Z7E.fin(h:Z7E X Post):Fin X Post:=by
 intro w' tag x u f fs s ht hk h1 h2 h3 h4 h5 h6 h7
 rcases ht with rfl | rfl
 ·have e:=m_y X.k X.T X.n X.n x u
  unfold edg at e;simp only[Y9]at e;obtain⟨_,e2,e3,_⟩:=e;refine Sure.pn xokQ 200 _ hk q_y e3 fun f' fs' h'=>?_;have h2':=Z2Q h' A42 [];have e2':=e2;rw[show plM X.k X.T X.n x u .my=cMy X.k X.T X.n X.n x u from rfl,e2']at h2';exact h w' x u f' fs' s h2' h1 h2 h3 h4 h5 h6 h7
 ·have e:=m_q X.k X.T X.n X.n x u
  unfold edg at e;simp only[Y9]at e;obtain⟨_,e2,e3,_⟩:=e;refine Sure.pn xokQ 200 _ hk q_q e3 fun f' fs' h'=>?_;have h2':=Z2Q h' A42 [];have e2':=e2;rw[show plM X.k X.T X.n x u .mq=cMq X.k X.T X.n X.n x u from rfl,e2']at h2';exact h w' x u f' fs' s h2' h1 h2 h3 h4 h5 h6 h7
def Ph.re(X:Ph)(m0 p0:Nat)(w1:World):Ph:={X with m0:=m0,p0:=p0,wS:=w1}
theorem Sure.phase(hok:PhOk X)(S:Strip PP F (CodeOk PP false) G)(hg:GOk PP F G)(hrec:Rec PP)(J:∀x,x<X.n→Job F G X x)(hb:Z7E X Post)
  (hfd:X.K.Fd≠X.K.Mu∧X.K.Fd≠X.K.Wg∧¬X.D X.K.Fd) (hsh:ShAt X.K X.wS ⟨0,0,0,0,List.replicate X.n false⟩) (h:SOk (sM X.k X.T X.n).top (sM X.k X.T X.n).rest f fs):Sure PP Post X.D (run1 f (fs++X.cs)) X.wS:=by
 intro w1 hl gs sl t q h0 hL hP;have hlt:0<gs.size:=(Y0.1 h0).1;have hX1:PhOk (X.re gs.size t.size w1):=⟨hok.n3,hlt,hok.ok,hok.wok,hok.kn,hok.βn,fun c hc=>by show c<w1.heap.size;rw[hl.1];exact hok.dlow c hc,by show ∃T fz,w1.heap[X.k.I]?=_;rw[hl.1];exact hok.isB,by show ∃T fz,w1.heap[X.k.B]?=_;rw[hl.1];exact hok.fdB,hok.iO,hok.bO⟩;have hJ:∀x,x<X.n→Job F G (X.re gs.size t.size w1) x:=fun x hx=>by
  obtain⟨gf,xs,ys,r,v,R,j1,j2,j3,j4,j5,j6,j7,j8⟩:=J x hx;exact⟨gf,xs,ys,r,v,R,j1,j2,j3,j4.of rfl hl.1 (by show v.os.env=w1.os.env;rw[hl.2.1];exact j4.env),j5,j6,j7,j8⟩
 have hB:Z7E (X.re gs.size t.size w1) Post:=fun w' x u f fs s k1 k2 k3 k4 k5 k6 k7 k8=>by
  refine hb w' x u f fs s k1 (fun c h1 h2 h3 h4=>?_) ?_ ?_ ?_ k6 k7 k8
  ·have:=k2 c (by show c<w1.heap.size;rw[hl.1];exact h1) h2 h3 h4
   rw[this];show w1.heap[c]?=_;rw[hl.1]
  ·have k3:w1.heap.size≤w'.heap.size:=k3
   rw[hl.1]at k3;exact k3
  ·have k4:OsLater w1.os w'.os:=k4
   rw[hl.2.1]at k4;exact k4
  ·have k5:w'.output=w1.output:=k5
   rw[hl.2.2]at k5;exact k5
 obtain⟨q0,hq0⟩:=ZfH (m:=true) (K:=X.K) (cs:=X.cs) h;obtain⟨r,hr⟩:=Option.isSome_iff_exists.1 (ZeW (X.β 0) (X.β 1) (X.β 2));have hct:∀c,¬curL (if 0<X.n then CT.ma 0 else .w1) c:=fun c h=>by
  split at h<;>exact h
 generalize htag:(if 0<X.n then CT.ma 0 else .w1)=tag at hq0 hct;have hjt:tagJ X.n tag=0:=by
  subst htag
  split
  ·rfl
  ·show X.n=0
   omega
 have htk:Z7w X.n tag:=by
  subst htag
  split
  ·assumption
  ·trivial
 have hop:Z9Z tag∧pend tag=0∧∀v,tag ≠ .w2 v:=by
  subst htag
  split
  ·exact⟨trivial,rfl,fun v e=>by cases e⟩
  ·exact⟨trivial,rfl,fun v e=>by cases e⟩
 have hC:Ci (X.re gs.size t.size w1) {tag:=tag,ws:=fun _=>.no,Lb:=fun _=>0,Z:=⟨gs.size,0,fun _ _=>False,fun _ _=>False,curL tag⟩,h0:=q0,h:=fun _=>.leaf,q:=q,d0:=0,r:=r,mu:=0,ms:=0,s:=⟨0,0,0,0,List.replicate X.n false⟩} gs w1 t:=by
  refine⟨rfl,rfl,hjt.symm,htk,fun i g h1 _ hg=>hL.old i g h1 hg,⟨_,h0,.inl hq0⟩,fun x hx=>absurd hx (Nat.not_lt_zero _),fun _ _=>rfl,⟨by rw[hl.1];exact hsh.mu,by rw[hl.1];exact hsh.wg,by rw[hl.1];exact hsh.fd⟩,rfl,rfl,hr,fun x hx=>?_,by simp[Ph.re],fun x hx=>?_,?_,fun x hx=>absurd hx (Nat.not_lt_zero _),fun x c hx=>absurd hx (Nat.not_lt_zero _),fun x c hx=>absurd hx (Nat.not_lt_zero _),fun x c h=>h.elim,rfl,fun c hc=>absurd hc (hct c),?_,?_,fun x hx=>absurd hx (Nat.not_lt_zero _),fun c _ _ _ _=>rfl,Ye _,OsLater.refl _,rfl⟩
  ·show (bif X.β x then L0 else OUT)=OUT
   have hx:X.β x=false:=hx;rw[hx];rfl
  ·have hx:x<X.n:=hx
   show (List.replicate X.n false)[x]?=some (X.β x&&pst (bif X.β x then L0 else OUT));rw[List.getElem?_replicate,if_pos hx]
   cases X.β x<;>rfl
  ·have:=Mode.opn (ws:=fun _=>WS.no) (tag:=tag) hop.1 (fun x=>.inl rfl) (fun v e=>absurd e (hop.2.2 v))
   rw[hop.2.1]at this;exact this
  ·exact⟨fun i c hi=>absurd hi (Nat.not_lt_zero _),fun i i' c hi=>absurd hi (Nat.not_lt_zero _),fun c hc=>absurd hc (hct c),hfd⟩
  ·have:=TI.begin (K:=X.K) (hP.mono (B':=w1.heap.size) (by rw[hl.1];exact Ye _)) hlt hL.above (fun _ _=>False) (fun _ _=>False) (curL tag)
   exact this
 exact Lift.phase hX1 S hg hrec hJ hB.fin _ _ gs w1 sl t rfl hC
end
end Lift
namespace Lift
open Go Go.Conc Go.RowKit Ev
theorem ZlQ:uB = .seq (sqL uB) (.seq (sqL (sqR uB)) (.seq (sqL (sqR (sqR uB))) (.seq (sqL (sqR (sqR (sqR uB)))) (.seq (.seq (sqL (sqL (sqR (sqR (sqR (sqR uB)))))) cBlk) Z6v)))):=by kernel_rfl
theorem Ziz:Tryz.f66.body=some uB:=by kernel_rfl
noncomputable def uF:Frame:={(default:Frame) with fn:=66,kind:=.normal}
def uA(xs:Array Value):Act:={tmps:=xs++Array.replicate (42-xs.size) undef,defers:=[]}
theorem Zcs{Q:Program}(h:Q.funcs[(66:Nat)]?=some Tryz.f66)(xs:Array Value): Frame.enter Q 66 xs .normal=uF.at (uA xs) [.code uB]:=by
 simp[Frame.enter,Frame.at,h,Ziz,uF,uA,Tryz.ntmps66]
def PF1(S:Nat→Prop)(x:Value):Prop:=PV S x∨∃f ys,x = .func (.func f) #[] ys∧∀y∈ys,PV S y
section
variable[Jk]{S:Nat→Prop}{r:Ren}
theorem Z9B(h:Arr R xs ys)(k:∀x∈xs,∀y,R x y→y=x): ys=xs:=by
 refine Array.ext h.1.symm fun i h1 h2=>?_;exact k _ (Array.getElem_mem h2) _ (h.2 i _ _ (Y2 h2) (Y2 h1))
theorem PF1.same(hi:Idn r){x y:Value}(h:PF1 S x)(k:VR r x y):y=x:=by
 rcases h with h | ⟨f,ys,rfl,h⟩
 ·exact h.same hi k
 ·cases k with
  | @func _ f' _ xs' _ ys' hf hx h1 hy k =>
   cases hf with
   | func _ g =>
    have e1:xs'=#[]:=Array.eq_empty_of_size_eq_zero hx.symm;have e2:ys'=ys:=Z9B (R:=VR r) ⟨hy,k⟩ fun x hx y q=>(h x hx).same hi q;rw[e1,e2]
theorem ZW(hi:Idn r){C:Inv}(h:WH C r v w)(hb:∃c,r b=some c){cs:Array Value}{e:TypeId}(q:v.heap[b]?=some (.cells cs e (0,0)))(hs:cs.size≠0)(hp:∀x∈cs,PF1 S x): w.heap[b]?=some (.cells cs e (0,0)):=by
 obtain⟨c,hc⟩:=hb;obtain rfl:=hi _ _ hc;obtain⟨cs',e1,e2⟩:=Z7P h hc q hs;rw[e1,Z9B e2 fun x hx y k=>(hp x hx).same hi k]
theorem ZeN(hi:Idn r){a a':Act}{N:Nat}{L:List (Nat×Value)}(F:Has N [] a L)(h:VRs r a.tmps a'.tmps)(hd:Lis (DR r) a.defers a'.defers)(hN:∀p∈L,p.1<N)(hp:∀k v,L.lookup k=some v→PF1 S v): Has N [] a' L:=by
 obtain⟨at',ad'⟩:=a';refine⟨?_,by rw[←h.1];exact F.sz,fun k v e=>?_⟩
 ·have:=F.ds
  rw[this]at hd
  cases hd;rfl
 ·have h1:=F.get k v e
  have hk:k<N:=by
   have:(k,v)∈L:=by
    clear F hp hN h1
    induction L with
    | nil=>cases e
    | cons p L ih =>
     rw[Yp]at e
     split at e
     ·rename_i q
      obtain rfl:=Y1 e;rw[beq_iff_eq]at q;subst q;exact List.mem_cons_self
     ·exact List.mem_cons_of_mem _ (ih e)
   exact hN _ this
  have h2:k<a.tmps.size:=by rw[F.sz];exact hk
  have h3:k<at'.size:=by rw[←h.1];exact h2
  simp only[Y6]at h1⊢;rw[Y2 h2]at h1;rw[Y2 h3];simp only[Option.getD_some]at h1⊢;have:=h.2 k _ _ (Y2 h2) (Y2 h3);rw[h1]at this;exact(hp k v e).same hi this
def UnS(x:Vm)(cf:FuncId)(ys:Array Value)(v:World)(V:List Frame)(u:World):Prop:=∃T0 T f',V=[f',poison]∧UnA x cf ys (re v T0) uF f' (re u T)
theorem Z1g{J:Jk}(hj:J.j)(hg:∀f,J.gd f↔gT f=true)(hl:∀f,¬J.law f){c:Code}(h:ZR PP gT (fun _ _=>false) true false true false c=true): Z0G PP (Jk.law 66) (¬Jk.gd 66) false c:=by
 have:=@Z1T J Tryz.prog gT true (fun f q=>(hg f).2 q) (fun q=>by cases q) (fun _ _=>false) (fun f n q=>by cases q) c false true false h;have e1:(false=true)=False:=by simp
 have e2:(true=true)=True:=by simp
 rw[e1,e2]at this;have e3:J.law 66=False:=by simp[hl]
 have e4:(¬J.gd 66)=True:=by
  rw[hg];simp only[eq_iff_iff,iff_true]
  decide
 show @Z0G J PP (J.law 66) (¬J.gd 66) false c;rw[e3,e4];exact this
theorem cr0:ZR PP gT (fun _ _=>false) true false true false (sqL uB)=true:=by kernel_rfl
theorem cr1:ZR PP gT (fun _ _=>false) true false true false (sqL (sqR uB))=true:=by kernel_rfl
theorem cr2:ZR PP gT (fun _ _=>false) true false true false (sqL (sqR (sqR uB)))=true:=by kernel_rfl
theorem cr3:ZR PP gT (fun _ _=>false) true false true false (sqL (sqR (sqR (sqR uB))))=true:=by kernel_rfl
theorem cr4:ZR PP gT (fun _ _=>false) true false true false (sqL (sqL (sqR (sqR (sqR (sqR uB))))))=true:=by kernel_rfl
theorem Zh1{x:Vm}{cf:FuncId}(hcf:Jk.gd cf)(hda:PV S (.slice x.da x.D.length x.dc))(hla:PV S (.slice x.la x.L.length x.lc))(hys:∀y∈ys,PV S y):
  VRs (idS S) #[x.val,.func (.func cf) #[] ys] #[x.val,.func (.func cf) #[] ys]:=by
 refine⟨rfl,fun i a b h1 h2=>?_⟩;rw[h1]at h2;obtain rfl:=Y1 h2;have:a=x.val∨a = .func (.func cf) #[] ys:=by
  have:=Yk h1;simpa using this
 rcases this with rfl | rfl
 ·refine .agg rfl fun i a b h1 h2=>?_
  rw[h1]at h2;obtain rfl:=Y1 h2;have:=Yk h1;simp only[Yb,Yc,Ya,or_false]at this
  rcases this with rfl | rfl | rfl | rfl
  ·exact .int _ _
  ·exact hda.vr
  ·exact hla.vr
  ·exact .int _ _
 ·refine .func (.func _ hcf) rfl (by simp) rfl fun i a b h1 h2=>?_
  rw[h1]at h2;obtain rfl:=Y1 h2;exact(hys _ (Yk h1)).vr
theorem Zkz(p q:Value):Has 42 [] (uA #[p,q]) [(0,p),(1,q)]:=by
 refine⟨rfl,by simp[uA],fun k u e=>?_⟩;rw[Yp]at e
 split at e
 ·rename_i q
  rw[beq_iff_eq]at q;subst q;obtain rfl:=Y1 e;simp[uA]
 ·rw[Yp]at e
  split at e
  ·rename_i q
   rw[beq_iff_eq]at q;subst q;obtain rfl:=Y1 e;simp[uA]
  ·cases e
theorem ZiA{J:Jk}(hj:J.j)(hg:∀f,J.gd f↔gT f=true)(hl:∀f,¬J.law f)(hr:J.rest=[.code cBlk,.code Z6v]){D:Nat→Prop}{Post:Value→World→Prop}{x:Vm}{cf:FuncId}{cs:List Frame}(h1:1≤x.L.length)(h3:x.L.length≤3)(hcf:gT cf=true)(hS:∀b,S b→∃cs e fz,w.heap[b]?=some (.cells cs e fz))(hSD:∀b,S b→¬D b)(hD:∀c,D c→c<w.heap.size)(hda:PV S (.slice x.da x.D.length x.dc))(hla:PV S (.slice x.la x.L.length x.lc))(hys:∀y∈ys,PV S y) (next:∀(a:Act) (w':World) (n3 n5 n6 n7 n16:Nat),Has 42 [] a [(3,pt n3),(5,pt n5),(6,pt n6),(7,pt n7),(20,.int .i64 ((x.L.length:Nat):Int)),(21,.int .i64 0)] →
   w'.heap[n3]?=some (.cells #[.func (.func cf) #[] ys] 92 (0,0))→w'.heap[n5]?=some (.cells #[.int .u64 0,.int .u32 0] 146 (0,0))→w'.heap[n6]?=some (.cells #[.int .i32 0,.int .u32 0] 150 (0,0)) →
   w'.heap[n7]?=some (.cells #[.slice (some ⟨n16,0,none⟩) x.L.length x.L.length] 151 (0,0))→w'.heap[n16]?=some (.cells (List.replicate x.L.length (Value.bool false)).toArray 4 (0,0)) →
   w.heap.size≤n3→n3<n5→n5<n6→n6<n16→n16<n7→(∀b,b<w.heap.size→w'.heap[b]?=w.heap[b]?)→w'.os=w.os→w'.output=w.output→w.heap.size≤w'.heap.size→Sure PP Post D (run1 (uF.at a [.code cBlk,.code Z6v]) cs) w'):
  Sure PP Post D (run1 (Frame.enter PP 66 #[x.val,.func (.func cf) #[] ys] .normal) cs) w:=by
 have hS2:Strip PP (Qy.F 2) (CodeOk PP false) (fun f=>gT f=true):=strip_T hj hg hl 2;have hG:GOk PP (Qy.F 2) (fun f=>gT f=true):=Zht hg hl 2;have hR:Rec PP:=rec_T hl;obtain⟨v,hsh,hwh,hshut⟩:=Z2f (P:=PP) (F:=Qy.F 2) (w:=w) hj hS;have hown:(Qy.F 2)[(66:Nat)]?=PP.funcs[(66:Nat)]?:=Qy.own66.trans (by kernel_rfl);have hargs:=Zh1 (S:=S) (x:=x) (cf:=cf) (ys:=ys) ((hg cf).2 hcf) hda hla hys;rw[Zcs (Q:=PP) (by kernel_rfl)];have hfr:FrR PP (Qy.F 2) (idS S) (uF.at (uA #[x.val,.func (.func cf) #[] ys]) [.code cPre]) (uF.at (uA #[x.val,.func (.func cf) #[] ys]) [.code uB]):=by
  refine⟨rfl,hown,?_,?_,⟨.nil,fun q=>absurd q (hl _)⟩,.run,⟨rfl,.inl rfl⟩,.none⟩
  ·refine Arr.append hargs ⟨rfl,fun i a b q1 q2=>?_⟩
   rw[q1]at q2;obtain rfl:=Y1 q2;have:=Yk q1;simp only[Array.mem_replicate]at this;rw[this.2];exact .undef
  ·have:=ZlQ
   generalize h:uB=z at this;refine Todo.cut rfl (fun _=>⟨rfl,rfl⟩) ?_;rw[this,←h];exact .seq (Z1g hj hg hl cr0) (.seq (Z1g hj hg hl cr1) (.seq (Z1g hj hg hl cr2) (.seq (Z1g hj hg hl cr3) (.left (.seq (Z1g hj hg hl cr4) (.stop hr))))))
 have hst:Stk PP (Qy.F 2) (idS S) [uF.at (uA #[x.val,.func (.func cf) #[] ys]) [.code cPre]] [uF.at (uA #[x.val,.func (.func cf) #[] ys]) [.code uB]]:=⟨.cons hfr .nil,⟨.inl rfl,fun h=>absurd rfl h⟩,trivial⟩;have hF:=Zkz x.val (.func (.func cf) #[] ys);have hEn:Ends (PF PP (Qy.F 2)) (UnS x cf ys v) [uF.at (uA #[x.val,.func (.func cf) #[] ys]) [.code cPre],poison] v:=by
  obtain⟨T0,hw0⟩:=hwh.tape;obtain⟨σ,hw2⟩:=hw0.retape v.tape;refine Z1h hS2 hG hR ?_ (.inl ⟨[],_,[],_,_,rfl,hst,hw2⟩) fun T=>?_
  ·rintro V u T ⟨T1,T2,f',e,q⟩
   exact⟨T1,T2,f',e,q⟩
  ·obtain⟨f',w',hz,n,hn⟩:=ZkB x h3 cf ys (re v T) uF _ hF
   exact⟨n,f',[poison],w',hn,T,w'.tape,f',rfl,hz⟩
 refine Sure.lone (A:=[]) (B:=[]) hS2 hG hR (fun y u=>by rintro⟨T1,T2,f',e,q⟩;cases e) hEn rfl hst hwh ⟨fun b c hb=>by obtain⟨q1,rfl⟩:=Z0F hb;exact hSD _ q1,hD⟩ ?_;intro f' A' g' B' r' v' w' hs hst' hw' hk;obtain⟨T1,T2,f2,e,hq⟩:=hs;simp only[List.cons.injEq]at e;obtain⟨rfl,e⟩:=e;have hA:A'=[]:=by
  cases A' with
  | nil=>rfl
  | cons a0 l0 =>
   have:=congrArg List.length e;simp at this
 subst hA;have hB:B'=[]:=by
  obtain⟨_,h,_⟩:=hst'.uncons;have:=h.rel
  cases B' with
  | nil=>rfl
  | cons b bs=>cases this
 subst hB;obtain⟨a,n3,n5,n6,n7,n16,rfl,F,q3,q5,q6,q7,q16,l3,l5,l6,l16,l7,E⟩:=hq.ex;have hi:Idn r':=fun b c hb=>by
  rcases (hk.par hsh.size).2.1 b c hb with q | q
  ·exact(Z0F q).2
  ·exact q.symm
 have hf:=hst'.uncons.1;obtain⟨gfn,gt,gtodo,gdef,gmode,gkind,gound⟩:=g';obtain⟨f1,_,f3,f4,f5,f6,f7,f8⟩:=hf;have e1:gtodo=[.code cBlk,.code Z6v]:=by
  have f4 : Todo _ _ _ _ _ [.code (.refuse ""), .code (.refuse "")] gtodo := f4
  cases f4 with
  | cons x y =>
   cases x with
   | code hc=>exact hc.elim
  | cut _ _ h =>
   cases h with
   | stop h=>rw[←h,hr]
 have e2:gmode = .run:=by cases f6;rfl
 have e3:gound=none:=by cases f8;rfl
 obtain⟨f7,_⟩:=f7;obtain⟨f5,_⟩:=f5;dsimp only[Frame.at,uF]at f1 f3 f5 f7;subst e1 e2 e3 f1 f7;have slot:∀k n,k<42→a.tmps.getD k undef=pt n→∃c,r' n=some c:=by
  intro k n hk e;have h2:k<a.tmps.size:=by rw[F.sz];exact hk
  have h3:k<gt.size:=by rw[←f3.1];exact h2
  have:=f3.2 k _ _ (Y2 h2) (Y2 h3);rw[Y6,Y2 h2]at e;simp only[Option.getD_some]at e;rw[e]at this;generalize gt[k]=z at this
  cases this with
  | ptr q=>cases q with | mk q=>exact⟨_,q⟩
 have F2:Has 42 [] a [(3,pt n3),(5,pt n5),(6,pt n6),(7,pt n7),(20,.int .i64 ((x.L.length:Nat):Int)),(21,.int .i64 0)]:=F.sub (.c 3 rfl (.c 5 rfl (.c 6 rfl (.c 7 rfl (.c 20 rfl (.c 21 rfl .n))))));have s3:=slot 3 n3 (by decide) (F2.get 3 _ rfl);have s5:=slot 5 n5 (by decide) (F2.get 5 _ rfl);have s6:=slot 6 n6 (by decide) (F2.get 6 _ rfl);have s7:=slot 7 n7 (by decide) (F2.get 7 _ rfl);have o7:=ZW (S:=fun _=>True) hi hw' s7 q7 (by simp) (by simp[PF1,PV]);have s16:∃c,r' n16=some c:=by
  obtain⟨c,hc⟩:=s7;obtain⟨cs',_,k2⟩:=Z7P hw' hc q7 (by simp);have:=k2.2 0 _ (cs'[0]'(by rw[←k2.1];simp)) rfl (Y2 _);generalize cs'[0]'(by rw[←k2.1];simp)=z at this
  cases this with
  | sl _ _ q=>cases q with | mk q=>exact⟨_,q⟩
 refine next ⟨gt,gdef⟩ w' n3 n5 n6 n7 n16 (ZeN (S:=fun _=>True) hi F2 f3 f5 (by simp) ?_) (ZW (S:=S) hi hw' s3 q3 (by simp) ?_) (ZW (S:=S) hi hw' s5 q5 (by simp) (by simp[PF1,PV])) (ZW (S:=S) hi hw' s6 q6 (by simp) (by simp[PF1,PV])) o7 (ZW (S:=S) hi hw' s16 q16 (by simp only[List.size_toArray,List.length_replicate];omega) ?_) (by rw[←hsh.size];exact l3) l5 l6 l16 l7 ?_ hk.os.2.symm hk.out hk.sizeW
 ·intro k u e
  have:u=pt n3∨u=pt n5∨u=pt n6∨u=pt n7∨u = .int .i64 ((x.L.length:Nat):Int)∨u = .int .i64 0:=by
   simp only[Yp,List.lookup_nil]at e
   repeat' split at e
   all_goals first | (cases e;done) | (obtain rfl:=Y1 e;simp)
  rcases this with rfl | rfl | rfl | rfl | rfl | rfl<;>exact .inl trivial
 ·intro y hy
  simp only[Yb,Yc,Ya,or_false]at hy;exact .inr ⟨_,_,hy,hys⟩
 ·intro y hy
  simp only[Yb,List.mem_replicate]at hy;rw[hy.2];exact .inl trivial
 ·intro b hb
  by_cases q:S b
  ·exact hk.shutW b b (hshut _ _ (Z2h q)) (Z2h q)
  ·refine hk.far b hb fun c hc=>?_
   obtain⟨q1,q2⟩:=Z0F hc;exact q (q2▸q1)
end
end Lift
namespace Lift
open Go Go.Conc Go.RowKit Ev Mx
open Go.ConcM (OsLater)
noncomputable def tT:Code:=sqR (sqR Z6v)
def rgO:Code→Array Oper | .region _ o _=>o | _=>#[]
def rgI:Code→Nat | .region i _ _=>i | _=>0
theorem ZlP:tT = .seq (.seq (.region (rgI (sqL (sqL tT))) (rgO (sqL (sqL tT))) false) (sqR (sqL tT))) (sqR tT):=by kernel_rfl
theorem Ze2:tdMf=[.inRegion (rgO (sqL (sqL tT))) (List.range (rgO (sqL (sqL tT))).size),.code (sqR (sqL tT)),.code (sqR tT)]:=by kernel_rfl
theorem Z7t{m m1 m2:Machine}(h:Steps P m m2)(h1:step P m = .next m1)(ne:m≠m2): Steps P m1 m2:=by
 obtain⟨n,hn⟩:=h
 cases n with
 | zero =>
  simp only[runN,Stepped.next.injEq]at hn;exact absurd hn ne
 | succ n =>
  refine⟨n,?_⟩;simpa[runN,h1] using hn
theorem Z6g{b fr:Frame}{a:Act}{K:List Frame}{w: World}(hm:b.mode = .run)(hb:fr.mode ≠ .run)(h:Steps P (lone (b.at a [.code tT]) K w) (lone fr K w')): Steps P (lone (b.at a tdMf) K w) (lone fr K w'):=by
 have ne:∀td,lone (b.at a td) K w≠lone fr K w':=fun td e=>by
  have e2:=congrArg (fun m=>m.gs[0]?.map fun g=>g.frame.mode) e;simp only[lone,List.getElem?_toArray,List.getElem?_cons_zero,Option.map_some,Y4]at e2;exact hb (e2▸rfl)
 rw[ZlP]at h;have h1:=Z7t h step_seq (ne _);have h2:=Z7t h1 step_seq (ne _);have h3:=Z7t h2 step_region (ne _);rw[Ze2];exact h3
theorem Ze1(hn:n≤3)(β:Nat→Bool){n7 n16:Nat}{fz:Nat×Nat}{w:World}{fa:Act}(F:Has 42 [] fa [(7,pt n7),(9,.slice none 0 0)])(q7:w.heap[n7]?=some (.cells #[.slice (some ⟨n16,0,none⟩) n n] T fz))(q16:∀k,k<n→w.cell? ⟨n16,k,none⟩=some (.bool (β k)))(h16:n16<w.heap.size):
  ∃e fr w',Steps (Qy.prog 2) (lone (uF.at fa tdMf) [poison] w) (lone fr [poison] w')∧fr.fn=66∧fr.leaving (Qy.prog 2) w' e∧UnR w (Z0r n β) e w':=by
 obtain⟨e,a',w',hq,harr⟩:=ZiB n hn β n7 n16 T fz fz w fa F q7 q16 h16 uF [] [poison];have own:(Qy.prog 2).funcs[(66:Nat)]?=some Tryz.f66:=Qy.own66
 cases e with
 | normal =>
  obtain⟨hd,v,hr,hR⟩:=hq;exact⟨.returned v,_,w',Z6g rfl (by simp[Frame.at]) (Steps.trans harr (.one Go.step_end)),rfl,⟨rfl,hd,rfl,_,own,hr⟩,hR⟩
 | ret =>
  obtain⟨hd,v,hr,hR⟩:=hq;obtain⟨td,hs⟩:=harr;exact⟨.returned v,_,w',Z6g rfl (by simp[Frame.at]) hs,rfl,⟨rfl,hd,rfl,_,own,hr⟩,hR⟩
 | panic ch =>
  obtain⟨_,v,e,_⟩:=hq
  cases e
 | outgrown =>
  obtain⟨v,e,_⟩:=hq
  cases e
 | _=>exact hq.elim
theorem ct1:ZR PP gT (fun _ _=>false) true false true false (sqL (sqL tT))=true:=by kernel_rfl
theorem ct2:ZR PP gT (fun _ _=>false) true false true false (sqR (sqL tT))=true:=by kernel_rfl
theorem ct3:ZR PP gT (fun _ _=>false) true false true false (sqR tT)=true:=by kernel_rfl
structure UnE(l:List Int)(w w':World)(y:Value)(Mu Wg:Nat):Prop where
 lst:IntR w.heap.size w' l y
 old:∀b,b<w.heap.size→w'.heap[b]?=w.heap[b]?
 size:w.heap.size≤w'.heap.size
 os:OsLater w.os w'.os
 out:w'.output=w.output
 mu:w.heap.size≤Mu∧Mu<w'.heap.size
 wg:w.heap.size≤Wg∧Wg<w'.heap.size
 ne:∀g n c,y = .slice (some ⟨g,0,none⟩) n c→g≠Mu∧g≠Wg
theorem ZhJ{J:Jk}{C:Inv}{r:Ren}{w: World}(hi:Idn r)(h:WH C r v w){base': Nat}(hb:base'≤base)(hx:IntR base v l x)(hy:VR r x y): IntR base' w l y:=by
 rcases hx with⟨h1,rfl⟩ | ⟨g,c,h1,rfl,h2,h3,hm,h4⟩
 ·cases hy
  exact .inl ⟨h1,rfl⟩
 ·have e:y = .slice (some ⟨g,0,none⟩) l.length c:=PV.same (S:=fun _=>True) hi trivial hy
  have hg:∃c,r g=some c:=by
   cases hy with
   | sl _ _ q=>cases q with | mk q=>exact⟨_,q⟩
  refine .inr ⟨g,c,h1,e,Yd hb h2,h3,hm,ZW (S:=fun _=>True) hi h hg h4 ?_ ?_⟩
  ·simp only[List.size_toArray,Ym,List.length_replicate,ivs,Yj]
   have:0<l.length:=List.length_pos_iff.2 h1;omega
  ·intro x hx
   simp only[Yb,List.mem_append,ivs,List.mem_map,List.mem_replicate]at hx
   rcases hx with⟨z,_,rfl⟩ | ⟨_,rfl⟩<;>exact .inl trivial
section
variable{J:Jk}(hj:J.j)(hg:∀f,J.gd f↔gT f=true)(hl:∀f,¬J.law f){D:Nat→Prop}{Post:Value→World→Prop}{w:World}
include hj hg hl
theorem ZiC(hn:n≤3)(β:Nat→Bool){n7 n16:Nat}{T7 T16:TypeId}{fz:Nat×Nat}{f c:Frame}{cs:List Frame}(h1:f.fn=66)(h2:f.tmps.size=42)(h3:f.todo=tdMf)(h4:f.defers=[])(h5:f.kind = .normal)(h6:f.mode = .run)(h7:f.roundOf=none)(e7:f.tmps[7]?=some (pt n7))(e9:f.tmps[9]?=some (.slice none 0 0))(q7:w.heap[n7]?=some (.cells #[.slice (some ⟨n16,0,none⟩) n n] T7 fz))(q16:w.heap[n16]?=some (.cells ((List.range n).map fun k=>Value.bool (β k)).toArray T16 (0,0)))(h716:n7≠n16)(hD:∀c,D c→c<w.heap.size)(hD7:¬D n7)(hD16:¬D n16)(ret:∀w' y,IntR w.heap.size w' (Z0r n β) y→(∀b,b<w.heap.size→w'.heap[b]?=w.heap[b]?)→w.heap.size≤w'.heap.size→w'.os=w.os→w'.output=w.output→Sure PP Post D (run1 (c.finish y) cs) w'):
  Sure PP Post D (run1 f (c::cs)) w:=by
 obtain⟨ffn,ft,ftd,fdf,fm,fk,fr⟩:=f;dsimp only at h1 h2 h3 h4 h5 h6 h7 e7 e9;subst h1 h3 h4 h5 h6 h7;have hS2:Strip PP (Qy.F 2) (CodeOk PP false) (fun f=>gT f=true):=strip_T hj hg hl 2;have hG:GOk PP (Qy.F 2) (fun f=>gT f=true):=Zht hg hl 2;have hR:Rec PP:=rec_T hl;obtain⟨v,hsh,hwh,hshut⟩:=Z2f (P:=PP) (F:=Qy.F 2) (w:=w) (S:=fun c=>c=n7∨c=n16) hj (by
  rintro c (rfl | rfl)
  ·exact⟨_,_,_,q7⟩
  ·exact⟨_,_,_,q16⟩)
 obtain⟨xs,hxs,hpv⟩:=Zgg (S:=fun c=>c=n7∨c=n16) hj ft;have hown:(Qy.F 2)[(66:Nat)]?=PP.funcs[(66:Nat)]?:=Qy.own66.trans (by kernel_rfl);have hfr:FrR PP (Qy.F 2) (idS fun c=>c=n7∨c=n16) (uF.at ⟨xs,[]⟩ tdMf) {fn:=66,tmps:=ft,todo:=tdMf,defers:=[],mode:=.run,kind:=.normal,roundOf:=none}:=by
  refine⟨rfl,hown,hxs,?_,⟨.nil,fun q=>absurd q (hl _)⟩,.run,⟨rfl,.inl rfl⟩,.none⟩;show Todo PP (Jk.law 66) (¬Jk.gd 66) false _ tdMf tdMf;rw[Ze2];have c1:=Z1g hj hg hl ct1;have c2:=Z1g hj hg hl ct2;have c3:=Z1g hj hg hl ct3;have e1:sqL (sqL tT) = .region (rgI (sqL (sqL tT))) (rgO (sqL (sqL tT))) false:=by kernel_rfl
  rw[e1]at c1;exact .cons (.inRegion c1) (.cons (.code c2) (.cons (.code c3) .nil))
 have hst:Stk PP (Qy.F 2) (idS fun c=>c=n7∨c=n16) [uF.at ⟨xs,[]⟩ tdMf] [{fn:=66,tmps:=ft,todo:=tdMf,defers:=[],mode:=.run,kind:=.normal,roundOf:=none}]:=⟨.cons hfr .nil,⟨.inl rfl,fun h=>absurd rfl h⟩,trivial⟩;have hF:Has 42 [] (⟨xs,[]⟩:Act) [(7,pt n7),(9,.slice none 0 0)]:=by
  have hsz:xs.size=42:=hxs.1.trans h2;refine⟨rfl,hsz,fun k u e=>?_⟩;show xs.getD k undef=u;rw[Y6];rw[Yp]at e
  split at e
  ·rename_i q
   rw[beq_iff_eq]at q;subst q;obtain rfl:=Y1 e;rw[hpv 7 _ e7 (.inl rfl)];rfl
  ·rw[Yp]at e
   split at e
   ·rename_i q
    rw[beq_iff_eq]at q;subst q;obtain rfl:=Y1 e;rw[hpv 9 _ e9 trivial];rfl
   ·cases e
 obtain⟨cs7,p7,p7s,p7v⟩:=hsh.at_ n7 (.inl rfl) _ _ _ q7;have hc7:cs7=#[.slice (some ⟨n16,0,none⟩) n n]:=by
  refine Array.ext p7s fun i i1 i2=>?_;have:i=0:=by simp at i2;omega
  subst this;have:=p7v 0 (.slice (some ⟨n16,0,none⟩) n n) rfl (.inr rfl);rw[Y2 i1]at this;exact Y1 this
 subst hc7;obtain⟨cs16,p16,p16s,p16v⟩:=hsh.at_ n16 (.inr rfl) _ _ _ q16;have hc16:∀k,k<n→v.cell? ⟨n16,k,none⟩=some (.bool (β k)):=fun k hk=>by
  have:=p16v k (.bool (β k)) (by simp[hk]) trivial;unfold World.cell?;rw[p16];exact this
 have h16:n16<v.heap.size:=(Y0.1 p16).1;have hEn:Ends (PF PP (Qy.F 2)) (Done PP (Qy.F 2) 66 (fun e u=>∃T0 T,UnR (re v T0) (Z0r n β) e (re u T))) [uF.at ⟨xs,[]⟩ tdMf,poison] v:=by
  obtain⟨T0,hw0⟩:=hwh.tape;obtain⟨σ,hw2⟩:=hw0.retape v.tape;refine Z1h hS2 hG hR ?_ (.inl ⟨[],_,[],_,_,rfl,hst,hw2⟩) fun T=>?_
  ·rintro V u T ⟨T',e,fr,k1,k2,k3,⟨T1,T2,k4⟩,k5⟩
   exact⟨T',e,fr,k1,k2,k3,⟨T1,T2,k4⟩,k5⟩
  ·obtain⟨e,fr,w',⟨m,hm⟩,k1,k2,k3⟩:=Ze1 (w:=re v T) hn β hF p7 hc16 h16
   refine⟨m,fr,[poison],w',hm,w'.tape,e,fr,rfl,k1,k2,⟨T,w'.tape,k3⟩,?_⟩;obtain⟨x,rfl,_⟩:=k3;simp
 refine Sure.done hS2 hG hR hEn hst hwh ⟨fun b c hb=>?_,hD⟩ (fun r' v' w' x y hRx hv hw' hk ho=>?_) (fun r' v' w' ch ch' hRx=>?_)
 ·obtain⟨q1,rfl⟩:=Z0F hb
  rcases q1 with rfl | rfl
  ·exact hD7
  ·exact hD16
 ·obtain⟨T0,T1,x',e,hx,hE⟩:=hRx
  obtain rfl:=Ending.returned.inj e;have hi:Idn r':=fun b c hb=>by
   rcases (hk.par hsh.size).2.1 b c hb with q | q
   ·exact(Z0F q).2
   ·exact q.symm
  refine ret w' y (ZhJ hi hw' (Nat.le_of_eq hsh.size.symm) hx hv) (fun b hb=>?_) hk.sizeW hk.os.2.symm hk.out
  by_cases q:b=n7∨b=n16
  ·exact hk.shutW b b (hshut _ _ (Z2h q)) (Z2h q)
  ·refine hk.far b hb fun c hc=>?_
   obtain⟨q1,q2⟩:=Z0F hc;exact q (q2▸q1)
 ·obtain⟨T0,T1,x',e,_⟩:=hRx
  cases e
end
end Lift
namespace Lift
open Go Go.Conc Go.RowKit Ev Mx
open Go.ConcM (OsLater)
noncomputable abbrev jkU:Jk:={j:=True,rest:=[.code cBlk,.code Z6v],gd:=fun f=>gT f=true}
def AskU(S:Nat→Prop)(w:World)(cf:FuncId)(ys:Array Value)(β:Nat→Bool)(n:Nat):Prop:=
 ∀(w1 v:World),(∀c,S c→w1.heap[c]?=w.heap[c]?)→Shadow S w1 v→∀k,k<n→Calls (Qy.prog 2) cf (#[.int .i64 ((k:Nat):Int)]++ys) v (fun e _=>e = .returned (.bool (β k)))
noncomputable def phX (x : Vm) (cf : FuncId) (ys : Array Value) (a : Act) (cs : List Frame) (D : Nat → Prop) (β : Nat → Bool) (w : World) (n3 n5 n6 n7 n16 : Nat) : Ph :=
  { K := { Mu := n6, Wg := n5, Fd := n16, tM := 150, tW := 146, tB := 4 }
    k := { N := n6, W := n5, I := n3, L := 0, B := n7, D := n16, n := x.L.length, c := x.L.length, lamp := 0, clo := .func (.func cf) #[] ys }
    T := fun i => a.tmps.getD i undef, n := x.L.length, cs := cs, D := D, m0 := 1, p0 := 0, β := β, wS := w }
theorem ZkY(k:Wk)(ys:Array Value)(e:k.clo = .func (.func 79) #[] ys)(L x:Nat):(cW3 {k with L:=L,lamp:=x}).cal PP=some (79,#[.int .i64 ((x:Nat):Int)]++ys):=by
 obtain⟨N,W,I,_,B,Dd,n,c,_,clo⟩:=k;dsimp only at e;subst e
 kernel_rfl
theorem ZkX(k:Wk)(ys:Array Value)(e:k.clo = .func (.func 67) #[] ys)(L x:Nat):(cW3 {k with L:=L,lamp:=x}).cal PP=some (67,#[.int .i64 ((x:Nat):Int)]++ys):=by
 obtain⟨N,W,I,_,B,Dd,n,c,_,clo⟩:=k;dsimp only at e;subst e
 kernel_rfl
theorem ZkA{J:Jk}(hys:∀y∈ys,PV S y)(k:Nat): VRs (idS S) (#[.int .i64 ((k:Nat):Int)]++ys) (#[.int .i64 ((k:Nat):Int)]++ys):=by
 refine Arr.append ⟨rfl,fun i a b h1 h2=>?_⟩ ⟨rfl,fun i a b h1 h2=>?_⟩
 ·rw[h1]at h2
  obtain rfl:=Y1 h2;have:=Yk h1;simp only[Yb,Yc,Ya,or_false]at this;subst this;exact .int _ _
 ·rw[h1]at h2
  obtain rfl:=Y1 h2;exact(hys _ (Yk h1)).vr
theorem ZlA{k:Wk}{T:Nat→Value}{n:Int}{a:Act}(hT:T=fun i=>a.tmps.getD i undef)(F:Has 42 [] a [(3,pt k.I),(5,pt k.W),(6,pt k.N),(7,pt k.B),(20,.int .i64 n),(21,.int .i64 0)]): SOk (sM k T n).top (sM k T n).rest (uF.at a [.code cBlk,.code Z6v]) []:=by
 refine⟨⟨rfl,F.sz,fun t v e=>?_,rfl,F.ds,rfl,rfl,rfl⟩,.nil⟩;have hm:∀(L:List (Nat×Value)),L.lookup t=some v→(t,v)∈L:=by
  intro L
  induction L with
  | nil=>intro e;cases e
  | cons p L ih =>
   intro e;rw[Yp]at e
   split at e
   ·rename_i q
    obtain rfl:=Y1 e;rw[beq_iff_eq]at q;subst q;exact List.mem_cons_self
   ·exact List.mem_cons_of_mem _ (ih e)
 have h1:=hm _ e;have key:t<42∧a.tmps.getD t undef=v:=by
  have f3:=F.get 3 _ rfl;have f5:=F.get 5 _ rfl;have f6:=F.get 6 _ rfl;have f7:=F.get 7 _ rfl;have f20:=F.get 20 _ rfl;have f21:=F.get 21 _ rfl;subst hT;have all:∀p∈(sM k (fun i=>a.tmps.getD i undef) n).top.env,p.1<42∧a.tmps.getD p.1 undef=p.2:=by
   simp only[sM,und,List.forall_mem_cons]
   repeat' apply And.intro
   all_goals first | decide | rfl | assumption | (intro p hp;cases hp)
  exact all _ h1
 have h2:t<a.tmps.size:=by rw[F.sz];exact key.1
 show a.tmps[t]?=some v;rw[Y2 h2];have:=key.2;rw[Y6,Y2 h2]at this;exact congrArg some this
theorem Z82{base': Nat}(h:IntR base w l y)(hb:base'≤base): IntR base' w l y:=by
 rcases h with h | ⟨g,c,h1,h2,h3,h4,h5⟩
 ·exact .inl h
 ·exact .inr ⟨g,c,h1,h2,Yd hb h3,h4,h5⟩
theorem Ze4 {D : Nat → Prop} {Post : Value → World → Prop} {S : Nat → Prop} {x : Vm} {cf : FuncId} {ys : Array Value} {β : Nat → Bool} {w : World} {c : Frame} {cs : List Frame}
    (h1 : 1 ≤ x.L.length) (h3 : x.L.length ≤ 3) (hcf : cf = 79 ∨ cf = 67) (hS : ∀ b, S b → ∃ cs e fz, w.heap[b]? = some (.cells cs e fz)) (hSD : ∀ b, S b → ¬ D b) (hD : ∀ c, D c → c < w.heap.size)
    (hda : PV S (.slice x.da x.D.length x.dc)) (hla : PV S (.slice x.la x.L.length x.lc)) (hys : ∀ y ∈ ys, PV S y) (hβ : ∀ k, x.L.length ≤ k → β k = false) (hask : AskU S w cf ys β x.L.length)
    (ret : ∀ w' y Mu Wg, UnE (Z0r x.L.length β) w w' y Mu Wg → Sure PP Post (fun c => D c ∨ c = Mu ∨ c = Wg) (run1 (c.finish y) cs) w') :
    Sure PP Post D (run1 (Frame.enter PP 66 #[x.val, .func (.func cf) #[] ys] .normal) (c :: cs)) w := by
  letI : Jk := jkU;have hgc : gT cf=true := by rcases hcf with rfl | rfl<;>decide
  refine ZiA (J := jkU) trivial (fun f => Iff.rfl) (fun f => id) rfl h1 h3 hgc hS hSD hD hda hla hys fun a w1 n3 n5 n6 n7 n16 F q3 q5 q6 q7 q16 l3 l5 l6 l16 l7 old os out hsz => ?_;have b7 : n7<w1.heap.size := (Y0.1 q7).1;have nD : ∀b, w.heap.size≤b→¬D b := fun b hb hd => absurd (hD b hd) (by omega);have ap : Apt {Mu := n6, Wg := n5, Fd := n16, tM := 150, tW := 146, tB := 4} := ⟨by show n6≠n5; omega, by show n6≠n16; omega, by show n5≠n16; omega⟩;have hX : PhOk (phX x cf ys a (c::cs) D β w1 n3 n5 n6 n7 n16) :=
    { n3 := h3, m0 := Nat.one_pos, ok := fun Lb y hy => ⟨ap, rfl, rfl, rfl, hy, h3⟩, wok := ⟨ap, rfl, rfl, rfl, h1, h3⟩, kn := rfl, βn := hβ, dlow := fun b hb => Y8 (hD b hb) hsz
      isB := ⟨_, _, q3⟩, fdB := ⟨_, _, q7⟩
      iO := ⟨by show n3 ≠ n6; omega, by show n3 ≠ n5; omega, by show n3 ≠ n16; omega, nD n3 l3⟩
      bO := ⟨by show n7 ≠ n6; omega, by show n7 ≠ n5; omega, by show n7 ≠ n16; omega, nD n7 (by omega)⟩ }
  have hS1 : ∀ b, S b → ∃ cs e fz, w1.heap[b]? = some (.cells cs e fz) := fun b hb => by
    obtain⟨q1, q2, q3, q4⟩ := hS b hb;exact⟨q1, q2, q3, by rw[old b (Y0.1 q4).1]; exact q4⟩
  have hSl : ∀ b, S b → b < w.heap.size := fun b hb => by
    obtain⟨q1, q2, q3, q4⟩ := hS b hb;exact(Y0.1 q4).1
  obtain⟨v, hsh, hwh, hshut⟩ := Z2f (P := PP) (F := Qy.F 2) (w := w1) (S := S) trivial hS1;have hJ : ∀y, y<(phX x cf ys a (c::cs) D β w1 n3 n5 n6 n7 n16).n→Job (Qy.F 2) (fun f => gT f=true) (phX x cf ys a (c::cs) D β w1 n3 n5 n6 n7 n16) y := fun y hy => by
    refine ⟨cf, _, #[.int .i64 ((y : Nat) : Int)] ++ ys, idS S, v, fun e _ => e = .returned (.bool (β y)), fun L => ?_, hgc, ZkA hys y, hwh, fun b d hb => ?_, fun e u T h => h, fun e u h => h, fun T => ?_⟩
    · rcases hcf with rfl | rfl
      · exact ZkY _ ys rfl L y
      · exact ZkX _ ys rfl L y
    · obtain ⟨s1, rfl⟩ := Z0F hb
      have := hSl _ s1;refine⟨hshut _ _ (Z2h s1), ?_, ?_, ?_, hSD _ s1, ?_, ?_⟩
      · show d ≠ n6; omega
      · show d ≠ n5; omega
      · show d ≠ n16; omega
      · show d ≠ n3; omega
      · show d ≠ n7; omega
    · exact hask w1 (re v T) (fun b hb => old b (hSl b hb)) ⟨hsh.size, hsh.os, hsh.at_⟩ y hy
  have hB : Z7E (phX x cf ys a (c :: cs) D β w1 n3 n5 n6 n7 n16) Post := by
    intro w' z u f fs s hk hold hsz' hos hout hsA hlen hfd;obtain⟨hk1, hk2⟩ := hk;have hfs : fs=[] := by
      have hk2 : Lis FOk [] fs := hk2
      cases hk2; rfl
    subst hfs;have q7' : w'.heap[n7]?=some (.cells #[.slice (some ⟨n16, 0, none⟩) x.L.length x.L.length] 151 (0, 0)) := by
      rw[hold n7 b7 (by show n7≠n6; omega) (by show n7≠n5; omega) (by show n7≠n16; omega)];exact q7
    have hfdl : s.fd.map Value.bool = (List.range x.L.length).map fun k => Value.bool (β k) := by
      apply List.ext_getElem?;intro i;have hlen : s.fd.length=x.L.length := hlen
      rcases Nat.lt_or_ge i x.L.length with hi | hi
      · have := hfd i hi
        rw [Yn, Yn, this, List.getElem?_range hi]; rfl
      · rw [List.getElem?_eq_none (by rw [Yj]; omega), List.getElem?_eq_none (by rw [Yj, List.length_range]; omega)]
    have q16' : w'.heap[n16]? = some (.cells ((List.range x.L.length).map fun k => Value.bool (β k)).toArray 4 (0, 0)) := by
      rw[←hfdl];exact hsA.fd
    have e7 : f.tmps[7]?=some (pt n7) := hk1.env 7 _ rfl;have e9 : f.tmps[9]?=some (.slice none 0 0) := hk1.env 9 _ rfl;have hsz' : w1.heap.size≤w'.heap.size := hsz';refine ZiC (J := jkU) (c := c) (cs := cs) trivial (fun f => Iff.rfl) (fun f => id) h3 β hk1.fn hk1.size hk1.todo hk1.defs hk1.kind hk1.mode hk1.round e7 e9 q7' q16' (by omega) ?_ ?_ ?_ fun w2 y r1 r2 r3 r4 r5 => ?_
    · rintro b (hb | hb | hb)
      · exact Y8 (hD b hb) (by omega)
      · have hb : b = n6 := hb
        omega
      · have hb : b = n5 := hb
        omega
    · rintro (hb | hb | hb)
      · exact nD n7 (by omega) hb
      · have hb : n7 = n6 := hb
        omega
      · have hb : n7 = n5 := hb
        omega
    · rintro (hb | hb | hb)
      · exact nD n16 (by omega) hb
      · have hb : n16 = n6 := hb
        omega
      · have hb : n16 = n5 := hb
        omega
    · refine ret w2 y n6 n5 ⟨Z82 r1 (by omega), fun b hb => ?_, by omega, ?_, by rw [r5, hout]; exact out, ⟨by omega, by omega⟩, ⟨by omega, by omega⟩, fun g n d e => ?_⟩
      · rw [r2 b (by omega), hold b (by show b < w1.heap.size; omega) (by show b ≠ n6; omega) (by show b ≠ n5; omega) (by show b ≠ n16; omega)]
        exact old b hb
      · rw [r4, ← os]
        exact hos
      · rcases r1 with ⟨_, k2⟩ | ⟨g', d', _, k2, k3, _⟩
        · rw [k2] at e; cases e
        · rw [k2] at e
          simp only[Value.slice.injEq, Y4, Addr.mk.injEq]at e;obtain⟨⟨rfl, _⟩, _⟩ := e;exact⟨by omega, by omega⟩
  exact Sure.phase hX (strip_T (J := jkU) trivial (fun f => Iff.rfl) (fun f => id) 2) (Zht (J := jkU) (fun f => Iff.rfl) (fun f => id) 2) (rec_T (J := jkU) fun f => id) hJ hB ⟨by show n16 ≠ n6; omega, by show n16 ≠ n5; omega, nD n16 (by omega)⟩ ⟨q6, q5, by
    show w1.heap[n16]?=some (.cells ((List.replicate x.L.length false).map Value.bool).toArray 4 (0, 0));rw[List.map_replicate];exact q16⟩ (ZlA rfl F)
end Lift
namespace Lift
open Go Go.Conc Go.RowKit Ev
section
variable{P:Program}{m:Bool}{w w':World}{f:Frame}{fs cs:List Frame}{s s':St}
theorem Z9K(a:Addr):∀(n i:Nat) (acc:Array Value) (w:World) (es:Array Event),(∀j,j<n→(w.cell? (a.add (i+j))).isSome)→∀ev∈(loadCellsFrom a i n acc).events P w es,ev∈es∨∃j,ev=⟨.cell (a.add j),false,false⟩
 | 0,_,_,_,_,_=>fun ev h=>.inl (by simpa[loadCellsFrom] using h)
 | n+1,i,acc,w,es,hc=>fun ev h=>by
  simp only[loadCellsFrom,Sem.events_bind]at h;obtain⟨u,hu⟩:=Option.isSome_iff_exists.1 (hc 0 (by omega));simp only[Nat.add_zero]at hu;have hr:(load (a.add i)).run P w = .ok u w:=by simp[hu]
  rw[hr]at h
  rcases Z9K a n (i+1) (acc.push u) w _ (fun j hj=>by have:=hc (j+1) (by omega);rwa[show i+(j+1)=i+1+j by omega]at this) ev h with h | h
  ·rw[events_load,hu]at h
   rcases Array.mem_push.1 h with h | rfl
   ·exact .inl h
   ·exact .inr ⟨i,rfl⟩
  ·exact .inr h
theorem Zj4 (h : SOk s.top s.rest f fs) {t : TypeId} {b : Nat} (he : s.lod = some (t, ⟨b, 0, none⟩)) {ys : Array Value} {T : TypeId} {fz : Nat × Nat} (hb : w.heap[b]? = some (.cells ys T fz)) {d : TypeDesc} (hd : P.underlying t = some d) (hr : d.isRow = true) (hi : (P.info? t).map (·.size) = some ys.size) (ha : s.ans (.agg ys) = some s') :
    ∃ es, stepG P m (run1 f (fs ++ cs)) w = .go (run1 (f.finish (.agg ys)) (fs ++ cs)) w es ∧ (∀ x ∈ es, ∃ j, x = ⟨.cell ((⟨b, 0, none⟩ : Addr).add j), false, false⟩) ∧ SOk s'.top s'.rest (f.finish (.agg ys)) fs := by
  letI : Jk := {j := False, rest := []};obtain⟨o, hp, hx⟩ := Option.bind_eq_some_iff.1 he;obtain⟨ops, i, rest, k, ht, ho, hg, hret, hk⟩ := Z0t hp
  split at hx
  · rename_i t' x hop
    split at hx
    · rename_i q hq
      simp only[Y4, Y9]at hx;obtain⟨rfl, rfl⟩ := hx;have e1 : (execOp f.eval o).run P w = .ok (.value (.agg ys)) w := Zc hop (h.1.val hq) hd hr hi hb
      have hex : execOp f.eval o = (do pure (Next.value (← Instr.loadAt t' (.pointer (some ⟨b, 0, none⟩))))) := by
        unfold execOp; rw [hop]; dsimp only; rw [h.1.val hq]
      have hag : (isAgg t').run P w = .ok true w := by
        rw[hex]at e1;simp only[Instr.loadAt, Instr.sureAddr, loadVar, isAgg, run_underlying hd, Sem.run_bind, Sem.run_pure, Result.andThen];rw[←hr]
        cases d <;> rfl
      have hsz : (sizeOf t').run P w = .ok ys.size w := by
        obtain⟨i, hi1, hi2⟩ := Y3.1 hi;rw[←hi2];unfold sizeOf typeInfo;simp[Sem.run, hi1, go_sem, Result.andThen]
      have e2 : ∀ x ∈ (execOp f.eval o).events P w #[], ∃ j, x = ⟨.cell ((⟨b, 0, none⟩ : Addr).add j), false, false⟩ := by
        intro x hx;have hx2 : x∈(loadCellsFrom ⟨b, 0, none⟩ 0 ys.size #[]).events P w #[] := by
          rw[hex]at hx;simp[Instr.loadAt, Instr.sureAddr, loadVar, hag, hsz, loadCells]at hx;revert hx
          cases (loadCellsFrom ⟨b, 0, none⟩ 0 ys.size #[]).run P w <;> exact fun h => h
        have hz : ∀ j, j < ys.size → (w.cell? ((⟨b, 0, none⟩ : Addr).add (0 + j))).isSome := fun j hj => by
          have : (⟨b, 0, none⟩ : Addr).add (0 + j) = ⟨b, j, none⟩ := by rw [Addr.add_lit, Nat.zero_add, Nat.zero_add]
          rw [this, Z1 hb, Y2 hj]; rfl
        rcases Z9K _ _ _ _ _ _ hz x hx2 with q | q
        · simp at q
        · exact q
      refine ⟨_, by
        rw [Z1H h hp (by rw [hop]; simp), Z0f e1]; rfl, fun x hx => ?_, (Z2a h ht ha).1⟩
      have := Conc.mem_seen (show x∈lst P f (execOp f.eval o) w from hx);have hke : (f.kind==CallKind.early)=false := by
        cases hkk : f.kind <;> first | rfl | (rw [h.1.kind] at hkk; exact absurd hkk hk)
      rw[hke]at this;exact e2 x this
    · cases hx
  · cases hx
def rcvB(s:St):Bool:=match s.pend with
 | some o=>match o.op with
  | .call c=>match c.callee with
   | .builtin .recover=>true
   | _=>false
  | _=>false
 | none=>false
theorem Zkb(hrec:P.follows .rangeFuncRecover=true)(h:SOk s.top s.rest f fs)(he:rcvB s=true)(hk:tryRecover f (fs++cs)=none)(ha:s.ans .nilIface=some s'):
  stepG P m (run1 f (fs++cs)) w = .go (run1 (f.finish .nilIface) (fs++cs)) w #[]∧SOk s'.top s'.rest (f.finish .nilIface) fs:=by
 letI:Jk:={j:=False,rest:=[]};unfold rcvB at he
 split at he
 ·rename_i o hp
  obtain⟨ops,i,rest,k,ht,ho,hg,hret,hkd⟩:=Z0t hp;refine⟨?_,(Z2a h ht ha).1⟩
  split at he
  ·rename_i c hop
   split at he
   ·rename_i hc
    have hr:(execOp f.eval o).run P w = .ok .recover w∧(execOp f.eval o).events P w #[]=#[]:=by
     unfold execOp;rw[hop];dsimp only;unfold resolve;rw[hc];simp[invoke,builtin]
    rw[Z1H h hp (by rw[hop];simp),Z2A hrec hr.1 hk];unfold lst;rw[hr.2];simp[GStep.after,Z0L]
   ·cases he
  ·cases he
 ·cases he
theorem ZjM{a:FA}(h:FOk a f)(hr:a.ret=true)(hd:a.defs=[])(hk:a.kind = .normal)(hf:P.funcs[a.fn]?=some fn)(hres:fn.results=#[.tmp t1,.cell t2 T])(e1:a.env.lookup t1=some y)(e2:a.env.lookup t2=some (pt b))(hag:(isAgg T).run P w = .ok false w)(hc:w.cell? ⟨b,0,none⟩=some u)(c:Frame):
  ∃es,stepG P m (run1 f (c::cs)) w = .go (run1 (c.finish (.tuple #[y,u])) cs) w es∧∀x∈es,x=⟨.cell ⟨b,0,none⟩,false,false⟩:=by
 have g1:f.tmps[t1]?.getD undef=y:=by rw[h.env _ _ e1];rfl
 have g2:f.tmps[t2]?.getD undef=pt b:=by rw[h.env _ _ e2];rfl
 have hl:(load ⟨b,0,none⟩ .plain).run P w = .ok u w:=by simp only[load,Sem.run,hc]
 have hrun:(results fn f.tmps).run P w = .ok (.tuple #[y,u]) w∧(results fn f.tmps).events P w #[]=#[⟨.cell ⟨b,0,none⟩,false,false⟩]:=by
  unfold results;rw[hres]
  constructor
  ·simp[g1,g2,pt,loadVar,hag,hc,asAddr,Result.andThen]
  ·simp[g1,g2,pt,loadVar,hag,hc,hl,asAddr,Result.andThen]
 have gm:f.mode = .returning:=by rw[h.mode,hr];rfl
 have gd:f.defers=[]:=h.defs.trans hd;have gf:P.funcs[f.fn]?=some fn:=by rw[h.fn];exact hf
 refine⟨seen P f.fn ((results fn f.tmps).events P w #[])++#[],?_,fun x hx=>?_⟩
 ·unfold stepG run1
  simp only[gm];unfold unwind;simp only[gd,gm,gf,Yf,hrun.1];unfold doReturn;simp only[h.kind.trans hk]
  rfl
 ·rw[Array.append_empty]at hx
  have:=Conc.mem_seen hx;rw[hrun.2]at this;simpa using this
end
end Lift
namespace Lift
open Go Go.Conc Go.RowKit Ev
open Go.ConcM (OsLater)
section
variable[Jk]{C:Inv}{r:Ren}{v w w1 v2:World}{S:Nat→Prop}
def Rg(r:Ren)(w:World):Nat→Prop:=fun c=>(∃b,r b=some c)∧∃cs e fz,w.heap[c]?=some (.cells cs e fz)
theorem Zkc(h:WH C r v w)(hb:r b=some c)(hx:v.cell? ⟨b,o,none⟩=some x): Rg r w c:=by
 obtain⟨y,hy,_⟩:=Z4o h hb hx;exact⟨⟨b,hb⟩,(Z0v hy).2⟩
theorem Zdz(h:WH C r v w){xs:List Int}(hx:Z7 v (.slice a n c) 1 (xs.map Z6))(hne:xs≠[])(hy:VR r (.slice a n c) y): PV (Rg r w) y:=by
 obtain⟨a0,c0,e0,hl,hc⟩:=hx;simp only[Value.slice.injEq]at e0;obtain⟨rfl,hn,rfl⟩:=e0;obtain⟨b,off,rfl,hb,hk⟩:=hc (by simpa using hne)
 cases hy with
 | @sl a1 a2 _ _ q =>
  cases q with
  | @mk _ b' _ _ q =>
   obtain⟨z,zs,rfl⟩:∃z zs,xs=z::zs:=by cases xs with | nil=>exact absurd rfl hne | cons z zs=>exact⟨z,zs,rfl⟩
   exact Zkc h q (hk 0 0 (Z6 z) (by simp) (by simp))
theorem Zgl(h:WH C r v w)(hn:n=L.length)(h0:L≠[])(hp:∀p∈L,p.2≠[])(hx:Z0x v a L)(hy:VR r (.slice a n c) y):
  ∃a' L',y = .slice a' n c∧PV (Rg r w) (.slice a' n c)∧Z0x w a' L'∧L'.map (·.2)=L.map (·.2)∧∀p∈L',PV (Rg r w) p.1:=by
 obtain⟨h1,h2⟩:=hx;rw[Z03]at h1;have hl0:0<L.length:=List.length_pos_iff.2 h0;obtain⟨b,off,rfl,hc0⟩:=h1 0 hl0
 cases hy with
 | @sl a1 a2 _ _ q =>
  cases q with
  | @mk _ b' _ _ q =>
   have ex:∀i:_root_.Fin L.length,∃z,VR r (L.getD i (.bool true,[])).1 z∧w.cell? ⟨b',off+i,none⟩=some z:=by
    intro i;obtain⟨b1,off1,e,hc⟩:=h1 i i.2;simp only[Y4,Addr.mk.injEq,and_true]at e;obtain⟨rfl,rfl⟩:=e;obtain⟨z,hz,hv⟩:=Z4o h q hc;exact⟨z,hv,hz⟩
   obtain⟨f,hf⟩:=Classical.axiomOfChoice ex;refine⟨_,(List.finRange L.length).map fun i=>(f i,(L.getD i (.bool true,[])).2),rfl,Zkc h q hc0,⟨?_,?_⟩,?_,?_⟩
   ·rw[Z03]
    intro i hi;simp only[Yj,List.length_finRange]at hi;refine⟨b',off,rfl,?_⟩;rw[(hf ⟨i,hi⟩).2];simp[hi]
   ·intro p hp
    obtain⟨i,-,rfl⟩:=List.mem_map.1 hp;have:=Zdw h (h2 _ (Z8 (.bool true,[]) i.2)) (hf i).1;exact this
   ·rw[List.map_map]
    apply List.ext_getElem
    ·simp
    ·intro i q1 q2
     simp at q1;simp[q1]
   ·intro p hp'
    obtain⟨i,-,rfl⟩:=List.mem_map.1 hp';have hm:=Z8 (.bool true,[]) i.2 (l:=L);obtain⟨a3,c3,e3,hr3⟩:=h2 _ hm;have hv:=(hf i).1;rw[e3]at hv;exact Zdz h hr3 (hp _ hm) hv
theorem Z6B(hw:∀c,S c→w1.heap[c]?=w.heap[c]?)(sh:Shadow S w1 v2)(hb:S b)(hx:w.cell? ⟨b,o,none⟩=some x)(hp:PV S x): v2.cell? ⟨b,o,none⟩=some x:=by
 obtain⟨_,cs,e,fz,hc⟩:=Z0v hx;obtain⟨cs',h1,h2,h3⟩:=sh.at_ b hb cs e fz (by rw[hw b hb];exact hc);unfold World.cell? at hx⊢;rw[hc]at hx;rw[h1];exact h3 o x hx hp
theorem Zgm(hw:∀c,S c→w1.heap[c]?=w.heap[c]?)(sh:Shadow S w1 v2){a:Option Addr}{n c:Nat}{L:List (Value×List Int)}(ha:PV S (.slice a n c))(hp:∀p∈L,PV S p.1)(hx:Z0x w a L):Z0x v2 a L:=by
 obtain⟨h1,h2⟩:=hx;rw[Z03]at h1;refine⟨?_,fun p hm=>?_⟩
 ·rw[Z03]
  intro i hi;obtain⟨b,off,rfl,hc⟩:=h1 i hi;exact⟨b,off,rfl,Z6B hw sh ha hc (hp _ (Z8 (.bool true,[]) hi))⟩
 ·obtain⟨a3,c3,e3,a4,c4,e4,hl,hc⟩:=h2 p hm
  refine⟨a3,c3,e3,a4,c4,e4,hl,fun hne=>?_⟩;obtain⟨b,off,rfl,hb,hk⟩:=hc hne;have hs:=hp p hm;rw[e3]at hs;simp only[Value.slice.injEq]at e4;obtain⟨rfl,_⟩:=e4;have key:∀i j x,(p.2.map Z6)[i]?=some x→j<1→v2.cell? ⟨b,off+i*1+j,none⟩=x[j]?:=by
   intro i j x hi hj;have:=hk i j x hi hj;rw[Yn]at hi;obtain⟨z,_,rfl⟩:=Y3.1 hi;obtain rfl:j=0:=by omega
   exact Z6B hw sh hs this trivial
  refine⟨b,off,rfl,?_,key⟩
  cases hq:p.2 with
  | nil=>rw[hq]at hne;exact absurd rfl hne
  | cons z zs=>exact(Z0v (key 0 0 (Z6 z) (by rw[hq];rfl) (by omega))).1
theorem Za2(hh:∀b,b<v.heap.size→v2.heap[b]?=v.heap[b]?)(hx:Z0x v a L): Z0x v2 a L:=by
 have cell:∀{b o x},v.cell? ⟨b,o,none⟩=some x→v2.cell? ⟨b,o,none⟩=some x:=fun {b o x} hx=>by
  have:=hh b (Z0v hx).1;unfold World.cell? at hx⊢;rw[this];exact hx
 obtain⟨h1,h2⟩:=hx;rw[Z03]at h1;refine⟨?_,fun p hm=>?_⟩
 ·rw[Z03]
  intro i hi;obtain⟨b,off,rfl,hc⟩:=h1 i hi;exact⟨b,off,rfl,cell hc⟩
 ·obtain⟨a3,c3,e3,a4,c4,e4,hl,hc⟩:=h2 p hm
  refine⟨a3,c3,e3,a4,c4,e4,hl,fun hne=>?_⟩;obtain⟨b,off,rfl,hb,hk⟩:=hc hne;have key:∀i j x,(p.2.map Z6)[i]?=some x→j<1→v2.cell? ⟨b,off+i*1+j,none⟩=x[j]?:=by
   intro i j x hi hj;have:=hk i j x hi hj;rw[Yn]at hi;obtain⟨z,_,rfl⟩:=Y3.1 hi;obtain rfl:j=0:=by omega
   exact cell this
  refine⟨b,off,rfl,?_,key⟩
  cases hq:p.2 with
  | nil=>rw[hq]at hne;exact absurd rfl hne
  | cons z zs=>exact(Z0v (key 0 0 (Z6 z) (by rw[hq];rfl) (by omega))).1
theorem Z4P{x:Vm}(hh:∀b,b<v.heap.size→v2.heap[b]?=v.heap[b]?)(h:x.At v):x.At v2:=⟨Za2 hh h.d,Za2 hh h.l⟩
theorem Z7f(hw:∀c,S c→w1.heap[c]?=w.heap[c]?)(sh:Shadow S w1 v2){a:Option Addr}{n c:Nat}{xs:List Int}(ha:PV S (.slice a n c))(hx:Z7 w (.slice a n c) 1 (xs.map Z6)):Z7 v2 (.slice a n c) 1 (xs.map Z6):=by
 obtain⟨a4,c4,e4,hl,hc⟩:=hx;refine⟨a4,c4,e4,hl,fun hne=>?_⟩;obtain⟨b,off,rfl,hb,hk⟩:=hc hne;simp only[Value.slice.injEq]at e4;obtain⟨rfl,_⟩:=e4;have key:∀i j x,(xs.map Z6)[i]?=some x→j<1→v2.cell? ⟨b,off+i*1+j,none⟩=x[j]?:=by
  intro i j x hi hj;have:=hk i j x hi hj;rw[Yn]at hi;obtain⟨z,_,rfl⟩:=Y3.1 hi;obtain rfl:j=0:=by omega
  exact Z6B hw sh ha this trivial
 refine⟨b,off,rfl,?_,key⟩
 cases hq:xs with
 | nil=>rw[hq]at hne;exact absurd rfl hne
 | cons z zs=>exact(Z0v (key 0 0 (Z6 z) (by rw[hq];rfl) (by omega))).1
theorem PV.imp{S S':Nat→Prop}(h:∀b,S b→S' b)(k:PV S x): PV S' x:=by
 cases x with
 | int _ _=>trivial
 | bool _=>trivial
 | pointer a=>cases a with
  | none=>exact k.elim
  | some a=>exact h _ k
 | slice a n c=>cases a with
  | none=>trivial
  | some a=>exact h _ k
 | _=>exact k.elim
theorem ZbW(hw:∀c,S c→w1.heap[c]?=w.heap[c]?)(sh:Shadow S w1 v2){b:Nat}(hb:S b){cs:Array Value}{e:TypeId}{fz:Nat×Nat}(h:w.heap[b]?=some (.cells cs e fz))(hp:∀x∈cs,PV S x):v2.heap[b]?=some (.cells cs e (0,cs.size)):=by
 obtain⟨cs',h1,h2,h3⟩:=sh.at_ b hb cs e fz (by rw[hw b hb];exact h);have:cs'=cs:=by
  refine Array.ext h2 fun i i1 i2=>?_;have:=h3 i _ (Y2 i2) (hp _ (Array.getElem_mem i2));rw[Y2 i1]at this;exact Y1 this
 rw[this]at h1;exact h1
theorem arr4{a b c d:Value}(h:Arr R #[a,b,c,d] ys): ∃a' b' c' d',ys=#[a',b',c',d']∧R a a'∧R b b'∧R c c'∧R d d':=by
 have hl:=h.lis;generalize hy:ys.toList=l at hl
 cases hl with
 | cons h1 t =>
  cases t with
  | cons h2 t =>
   cases t with
   | cons h3 t =>
    cases t with
    | cons h4 t =>
     cases t with
     | nil=>exact⟨_,_,_,_,Array.ext' hy,h1,h2,h3,h4⟩
theorem arr1{a:Value}(h:Arr R #[a] ys): ∃a',ys=#[a']∧R a a':=by
 have hl:=h.lis;generalize hy:ys.toList=l at hl
 cases hl with
 | cons h1 t =>
  cases t with
  | nil=>exact⟨_,Array.ext' hy,h1⟩
end
end Lift
namespace Lift
open Go
def gJ(k:Nat):Bool:=gB k && !([19,53,54,55,56,107].elem k)
noncomputable def okJ(k:Nat):Bool:=match Tryz.prog.funcs[k]? with
 | some fn => !(fn.name == "runtime.NumGoroutine")&&match fn.body with
  | some c=>ZR Tryz.prog gJ (fun _ _=>false) true false false false c
  | none=>false
 | none=>false
theorem ownJ:Qy.own.all (fun k=>!gJ k||okJ k)=true:=by kernel_rfl
theorem Zjx(h:gJ k=true): gB k=true:=by
 unfold gJ at h;rw[Y5]at h;exact h.1
theorem Zab (h : gJ k=true): k∈Qy.own∧∃fn c, Tryz.prog.funcs[k]?=some fn∧(fn.name == "runtime.NumGoroutine")=false∧fn.body=some c∧ZR Tryz.prog gJ (fun _ _ => false) true false false false c=true := by
 have h0:=Z5R (Zjx h);have h1:=Yl.1 ownJ k h0;rw[h]at h1;simp only[Bool.not_true,Bool.false_or]at h1;unfold okJ at h1;refine⟨h0,?_⟩
 cases e:Tryz.prog.funcs[k]? with
 | none=>rw[e]at h1;cases h1
 | some fn =>
  rw[e]at h1;simp only[Y5,Bool.not_eq_true']at h1
  cases eb:fn.body with
  | none=>have:=h1.2;rw[eb]at this;cases this
  | some c=>have:=h1.2;rw[eb]at this;exact⟨fn,c,rfl,h1.1,eb,this⟩
section
variable{J:Jk}(hj:J.j)(hg:∀f,J.gd f↔gJ f=true)(hl:∀f,gJ f=true→¬J.law f)(μ:Nat)
include hg hl
include hj in
theorem strip_J:@Strip J Tryz.prog (Qy.F μ) (@CodeOk J Tryz.prog false) (fun f=>gJ f=true):=by
 refine @Strip.mk J _ _ _ _ (fun f h=>⟨Qy.same μ f (Zab ((hg f).1 h)).1,hl f ((hg f).1 h)⟩) (fun f fn h e=>?_) (fun f fn c h e eb=>?_) (fun f fn h e eb=>?_)<;>rw[Qy.same μ f (Zab ((hg f).1 h)).1]at e<;>obtain⟨_,fn',c',h1,h2,h3,h4⟩:=Zab ((hg f).1 h)<;>rw[h1]at e<;>obtain rfl:=Y1 e
 ·exact h2
 ·rw[h3]at eb
  obtain rfl:=Y1 eb;refine⟨h1,?_,(hg f).1 h⟩;have:=@Z1T J Tryz.prog gJ true (fun f q=>(hg f).2 q) (fun q=>by cases q) (fun _ _=>false) (fun f n q=>by cases q) c' false false false h4;have e2:(false=true)=False:=by simp
  rw[e2]at this;exact this
 ·rw[h3]at eb;cases eb
theorem Zjy:@GOk J Tryz.prog (Qy.F μ) (fun f=>gJ f=true):=by
 intro f h;obtain⟨h0,fn,c,h1,h2,h3,h4⟩:=Zab h;have e:=Qy.same μ f h0;exact⟨e,⟨fn,c,e.trans h1,h3⟩,(hg f).2 h,hl f h⟩
theorem Zhc{n:FuncId}(hn:gJ n=false)(hnl:¬J.law n){c:Code}(h:ZR Tryz.prog gJ (fun _ _=>false) true false true false c=true): @Z0G J Tryz.prog (J.law n) (¬J.gd n) false c:=by
 have:=@Z1T J Tryz.prog gJ true (fun f q=>(hg f).2 q) (fun q=>by cases q) (fun _ _=>false) (fun f n q=>by cases q) c false true false h;have e1:(false=true)=False:=by simp
 have e2:(true=true)=True:=by simp
 rw[e1,e2]at this;have e3:J.law n=False:=by simp[hnl]
 have e4:(¬J.gd n)=True:=by
  rw[hg];simp[hn]
 rw[e3,e4];exact this
end
end Lift
namespace Lift
open Go Go.Conc Go.RowKit Ev Mx
open Go.ConcM (OsLater)
section
variable[Jk]
variable{D:Nat→Prop}{Post:Value→World→Prop}{w:World}{f:Frame}{fs cs:List Frame}{s s':St}
theorem Z8O{a:Addr}(h:¬D a.block)(hl:a.block<w.heap.size)(wr:Bool): EvL (Dk D) w.heap.size ⟨.cell a,wr,false⟩:=by
 refine⟨fun x hx hs=>?_,by simp,by simp,hl⟩;simp only[MemAct.ofEvent,MemAct.touch?,Y4]at hx;subst hx
 rcases hs with⟨a',e,hd⟩ | ⟨c,e,_⟩
 ·simp only[Loc.cell.injEq]at e
  subst e;exact absurd hd h
 ·cases e
theorem Sure.agl(h:SOk s.top s.rest f fs){t:TypeId}(he:s.lod=some (t,⟨b,0,none⟩)){fz:Nat×Nat}(hb:w.heap[b]?=some (.cells ys T fz)){d:TypeDesc}(hd:PP.underlying t=some d)(hr:d.isRow=true)(hi:(PP.info? t).map (·.size)=some ys.size)(ha:s.ans (.agg ys)=some s')(hD:¬D b)(k:∀f',SOk s'.top s'.rest f' fs→Sure PP Post D (run1 f' (fs++cs)) w): Sure PP Post D (run1 f (fs++cs)) w:=by
 refine Sure.step rfl fun w1 hl=>?_;obtain⟨es,e,he2,k2⟩:=Zj4 (m:=true) (cs:=cs) (w:=w1) h he (by rw[hl.1];exact hb) hd hr hi ha;refine⟨_,w1,es,e,fun x hx=>?_,by rw[hl.1];exact Ye _,(k _ k2).like hl⟩;obtain⟨j,rfl⟩:=he2 x hx;rw[Addr.add_lit];refine Z8O hD ?_ _;have:=(Y0.1 hb).1;rw[hl.1];exact this
theorem Sure.cal(h:SOk s.top s.rest f fs)(he:s.cal PP=some (g,xs))(k:Sure PP Post D (run1 (Frame.enter PP g xs .normal) (f::(fs++cs))) w): Sure PP Post D (run1 f (fs++cs)) w:=
 Sure.step rfl fun w1 hl=>⟨_,w1,#[],Zg8 h he,by simp,by rw[hl.1];exact Ye _,k.like hl⟩
theorem Zh9(h:SOk s.top s.rest f fs)(he:s.cal PP=some (g,xs))(ha:s.ans y=some s'): SOk s'.top s'.rest (f.finish y) fs:=by
 obtain⟨o,hp,hx⟩:=Option.bind_eq_some_iff.1 he;obtain⟨ops,i,rest,k,ht,ho,hg,hret,hk⟩:=Z0t hp;exact(Z2a h ht ha).1
theorem Sure.sto(h:SOk s.top s.rest f fs){t:TypeId}{p:Addr}{v:Value}(he:s.sto=some (t,p,v))(hag:∀w,(sizeOf t).run PP w = .ok 1 w)(h1:v.oneCell'=true)(h2:v.cells=#[v])(hc:w.cell? p=some u)(hz:w.frozen? p=false)(ha:s.ans undef=some s')(hD:¬D p.block)(k:∀f',SOk s'.top s'.rest f' fs→Sure PP Post D (run1 f' (fs++cs)) (w.setCell p v)): Sure PP Post D (run1 f (fs++cs)) w:=by
 refine Sure.step rfl fun w1 hl=>?_;have hc1:w1.cell? p=some u:=by rw[←hc];unfold World.cell?;rw[hl.1]
 have hz1:w1.frozen? p=false:=by rw[←hz];unfold World.frozen?;rw[hl.1]
 obtain⟨e,k2⟩:=ZgH (m:=true) (cs:=cs) (w:=w1) h he (hag w1) h1 h2 hc1 hz1 ha;have hsz:w.heap.size≤(w1.setCell p v).heap.size:=by rw[←hl.1];exact Nat.le_of_eq (by simp[World.setCell])
 refine⟨_,_,_,e,fun x hx=>?_,hsz,(k _ k2).like ⟨?_,?_,?_⟩⟩
 ·have:=Conc.mem_seen hx
  simp only[Array.mem_singleton,Yb,List.mem_singleton]at this;subst this;refine Z8O hD ?_ _;have hq:p.block<w.heap.size:=by
   cases hh:w.heap[p.block]? with
   | none=>unfold World.cell? at hc;rw[hh]at hc;simp at hc
   | some o=>exact(Y0.1 hh).1
  exact Y8 hq hsz
 ·simp only[World.setCell,hl.1]
 ·exact hl.2.1
 ·exact hl.2.2
theorem Sure.rcv(h:SOk s.top s.rest f fs)(he:rcvB s=true)(hk:tryRecover f (fs++cs)=none)(ha:s.ans .nilIface=some s')(k:∀f',SOk s'.top s'.rest f' fs→Sure PP Post D (run1 f' (fs++cs)) w):Sure PP Post D (run1 f (fs++cs)) w:=by
 refine Sure.step rfl fun w1 hl=>?_;obtain⟨e,k2⟩:=Zkb (P:=PP) (m:=true) (cs:=cs) (w:=w1) recP h he hk ha;exact⟨_,w1,#[],e,by simp,by rw[hl.1];exact Ye _,(k _ k2).like hl⟩
theorem Sure.lv2{a:FA}(h:FOk a f)(hr:a.ret=true)(hd:a.defs=[])(hk:a.kind = .normal)(hf:PP.funcs[a.fn]?=some fn)(hres:fn.results=#[.tmp t1,.cell t2 T])(e1:a.env.lookup t1=some y)(e2:a.env.lookup t2=some (pt b))(hag:∀w,(isAgg T).run PP w = .ok false w)(hc:w.cell? ⟨b,0,none⟩=some u)(hD:¬D b){c:Frame}(k:Sure PP Post D (run1 (c.finish (.tuple #[y,u])) cs) w): Sure PP Post D (run1 f (c::cs)) w:=by
 refine Sure.step rfl fun w1 hl=>?_;have hc1:w1.cell? ⟨b,0,none⟩=some u:=by rw[←hc];unfold World.cell?;rw[hl.1]
 obtain⟨es,e,he⟩:=ZjM (m:=true) (cs:=cs) (w:=w1) h hr hd hk hf hres e1 e2 (hag w1) hc1 c;refine⟨_,w1,es,e,fun x hx=>?_,by rw[hl.1];exact Ye _,k.like hl⟩;rw[he x hx];refine Z8O hD ?_ _;rw[hl.1];exact(Z0v (o:=0) hc).1
theorem ZfN{f g:Frame}{K:List Frame}(hk:f.kind = .deferred)(hm:g.mode = .returning): tryRecover f (g::K)=none:=by
 unfold tryRecover;rw[hk];dsimp only;rw[hm]
end
noncomputable def tA:Code:=sqR (sqR (sqR (sqR aB)))
noncomputable def sA0(c7 c8 c9 c10:Nat):St:={top:={fn:=15,n:=22,env:=[(7,pt c7),(8,pt c8),(9,pt c9),(10,pt c10)],todo:=[.code tA],defs:=[Z2c c7],kind:=.normal,ret:=false},rest:=[],cvs:=[],mks:=[],deaf:=0}
noncomputable def sA1(c7 c8 c9 c10:Nat):St:=pn PP xtQ 40 (sA0 c7 c8 c9 c10)
end Lift
namespace Lift
open Go Go.Conc Go.RowKit Ev Mx
open Go.ConcM (OsLater)
structure VatC(D S:Nat→Prop)(x:Vm)(w:World):Prop where
 blk:∀b,S b→∃cs e fz,w.heap[b]?=some (.cells cs e fz)
 off:∀b,S b→¬D b
 low:∀c,D c→c<w.heap.size
 da:PV S (.slice x.da x.D.length x.dc)
 la:PV S (.slice x.la x.L.length x.lc)
 dp:∀p∈x.D,PV S p.1
 lp:∀p∈x.L,PV S p.1
 at_:x.At w
theorem VatC.shadow{D:Nat→Prop}{x:Vm}{w w1 v:World}(H:VatC D S x w)(hw:∀c,S c→w1.heap[c]?=w.heap[c]?)(sh:Shadow S w1 v): x.At v:=
 ⟨@Zgm jkN _ _ _ _ hw sh _ _ _ _ H.da H.dp H.at_.d,@Zgm jkN _ _ _ _ hw sh _ _ _ _ H.la H.lp H.at_.l⟩
section
variable[Jk]{C:Inv}{r:Ren}{v w:World}{D:Nat→Prop}
theorem Z55{B:Int}(hB:1≤B){p:Value×List Int}(h:(p.2.length:Int)=B): p.2≠[]:=by
 intro e;rw[e]at h;simp at h;omega
theorem ZkF{x:Vm}(hv:VOk x)(hx:x.At v)(hw:WH C r v w)(ho:Off D r w)(hy:VR r x.val y): ∃x':Vm,y=x'.val∧AlkV' x' x∧VatC D (Rg r w) x' w:=by
 have hy:VR r (.agg #[.int .i64 x.B,.slice x.da x.D.length x.dc,.slice x.la x.L.length x.lc,.int .i64 x.tol]) y:=hy;have d0:x.D≠[]:=by intro e;have:=hv.d1;rw[e]at this;simp at this
 have l0:x.L≠[]:=by intro e;have:=hv.l1;rw[e]at this;simp at this
 cases hy with
 | @agg _ ys hs1 hs2 =>
  obtain⟨y1,y2,y3,y4,rfl,h1,h2,h3,h4⟩:=arr4 (R:=VR r) ⟨hs1,hs2⟩
  cases h1
  cases h4
  obtain⟨da,D',rfl,pd,ad,md,qd⟩:=Zgl hw rfl d0 (fun p hp=>Z55 hv.b1 (hv.dl p hp).1) hx.d h2;obtain⟨la,L',rfl,pl,al,ml,ql⟩:=Zgl hw rfl l0 (fun p hp=>Z55 hv.b1 (hv.ll p hp).1) hx.l h3;have dl:D'.length=x.D.length:=by have:=congrArg List.length md;simpa using this
  have ll:L'.length=x.L.length:=by have:=congrArg List.length ml;simpa using this
  refine⟨{B:=x.B,D:=D',da:=da,dc:=x.dc,L:=L',la:=la,lc:=x.lc,tol:=x.tol},by simp only[Vm.val,dl,ll],⟨rfl,rfl,md,ml⟩,⟨fun b hb=>hb.2,fun b hb hd=>?_,ho.low,?_,?_,qd,ql,⟨ad,al⟩⟩⟩
  ·obtain⟨⟨a,ha⟩,_⟩:=hb
   exact ho.names a b ha hd
  ·rw[dl];exact pd
  ·rw[ll];exact pl
theorem Zan(hw:WH C r v w)(hl:l≠[])(hr:Z7 v (.slice a l.length c) 1 (l.map Z6))(hy:VR r (.slice a l.length c) y): ∃a',y = .slice a' l.length c∧Z7 w (.slice a' l.length c) 1 (l.map Z6)∧PV (Rg r w) (.slice a' l.length c):=by
 have h1:=Zdz hw hr hl hy;obtain⟨a',rfl,h2⟩:=Zam hw hr hy;exact⟨a',rfl,h2,h1⟩
end
end Lift
namespace Lift
open Go Go.Conc Go.RowKit Ev Mx
open Go.ConcM (OsLater)
theorem ZcP(h:IntR base w l y)(e:∀b:Nat,w'.heap[b]?=w.heap[b]?): IntR base w' l y:=by
 rcases h with h | ⟨g,c,h1,h2,h3,h4,h5,h6⟩
 ·exact .inl h
 ·exact .inr ⟨g,c,h1,h2,h3,h4,h5,(e g).trans h6⟩
theorem Zfk{fz:Nat×Nat}(h:w.heap[b]?=some (.cells #[x] T fz))(c:Nat): (w.setCell ⟨b,0,none⟩ x).heap[c]?=w.heap[c]?:=by
 simp only[World.setCell]
 by_cases e:b=c
 ·subst e
  have:=(Y0.1 h).1;rw[Array.getElem?_modify];simp[h]
 ·rw[Array.getElem?_modify]
  simp[e]
theorem ZfP{w3 w4: World}{Mu Wg:Nat}(hold:∀b:Nat,b<w.heap.size→w'.heap[b]?=w.heap[b]?)(hsz:w.heap.size≤w'.heap.size)(hos:w'.os=w.os)(hout:w'.output=w.output)(U:UnE l w' w3 y Mu Wg)(e:∀b:Nat,w4.heap[b]?=w3.heap[b]?)(hs:w4.heap.size=w3.heap.size)(ho:w4.os=w3.os)(hu:w4.output=w3.output): UnE l w w4 y Mu Wg:=by
 refine⟨ZcP (Z82 U.lst hsz) e,fun b hb=>?_,?_,?_,?_,⟨Yd hsz U.mu.1,by rw[hs];exact U.mu.2⟩,⟨Yd hsz U.wg.1,by rw[hs];exact U.wg.2⟩,U.ne⟩
 ·rw[e,U.old b (Y8 hb hsz),hold b hb]
 ·rw[hs];exact Yd hsz U.size
 ·rw[ho,←hos];exact U.os
 ·rw[hu,U.out,hout]
theorem Z6Z{xs:List FA}(h:Lis FOk xs fs)(e:xs=[]): fs=[]:=by
 subst e
 cases h;rfl
theorem ZhC{xs:List FA}(h:Lis FOk xs fs)(e:xs.map (·.ret)=[true]): ∃g,fs=[g]∧g.mode = .returning:=by
 cases h with
 | nil=>cases e
 | cons a t =>
  simp only[List.map_cons,List.cons.injEq,List.map_eq_nil_iff]at e;obtain⟨e1,rfl⟩:=e
  cases t
  exact⟨_,rfl,by rw[a.mode,e1];rfl⟩
theorem ZbU:(PP.info? 85).map (·.size)=some 4:=by kernel_rfl
theorem ZeB(w:World):(sizeOf 30).run PP w = .ok 1 w:=by kernel_rfl
theorem Zhi(w:World):(isAgg 30).run PP w = .ok false w:=by kernel_rfl
end Lift
namespace Lift
open Go Go.Conc Go.RowKit Ev
open Go.ConcM (OsLater)
theorem lawJ(f:FuncId)(h:gJ f=true):¬f=lawF:=by
 rintro rfl;revert h
 decide
section
variable[Jk]{C:Inv}{r:Ren}{v w u w':World}{D:Nat→Prop}
theorem ZiM(hw:WH C r v w)(hu:∀b,b<v.heap.size→u.heap[b]?=v.heap[b]?)(hv:∀b,b<w.heap.size→w'.heap[b]?=w.heap[b]?)(he:u.os.env=w'.os.env){a b:Nat}{cs:Array Value}{e:TypeId}
  (h1:u.heap[a]?=some (.cells cs e (0,0))) (h2:w'.heap[b]?=some (.cells cs e (0,0))) (ha:v.heap.size≤a) (hb:w.heap.size≤b) (hcs:∀x∈cs,∃n,x = .int .i64 n):WH C (r.add a b) u w'∧r.le (r.add a b):=by
 have hlt:∀c d,r c=some d→c<v.heap.size∧d<w.heap.size:=fun c d q=>by
  obtain⟨o,o',g1,g2,_⟩:=hw.on _ _ q;exact⟨(Y0.1 g1).1,(Y0.1 g2).1⟩
 have hinj:Inj (r.add a b):=fun x y c hx hy=>by
  unfold Ren.add at hx hy
  split at hx<;>split at hy
  ·omega
  ·have:=(hlt _ _ hy).2
   obtain rfl:=Y1 hx;omega
  ·have:=(hlt _ _ hx).2
   obtain rfl:=Y1 hy;omega
  ·exact hw.inj _ _ _ hx hy
 have hle:r.le (r.add a b):=⟨fun x c h=>by
  unfold Ren.add;rw[if_neg (by have:=(hlt _ _ h).1;omega)];exact h,fun _=>hinj⟩
 refine⟨⟨fun x c h=>?_,hinj,he⟩,hle⟩;unfold Ren.add at h
 split at h
 ·rename_i q
  subst q;obtain rfl:=Y1 h;refine⟨_,_,h1,h2,.cells ⟨rfl,fun i y z hy hz=>?_⟩ (.inl ⟨rfl,rfl⟩)⟩;rw[hy]at hz;obtain rfl:=Y1 hz;obtain⟨n,rfl⟩:=hcs _ (Yk hy);exact .int _ _
 ·obtain⟨o,o',g1,g2,g3⟩:=hw.on _ _ h
  exact⟨o,o',by rw[hu _ (hlt _ _ h).1];exact g1,by rw[hv _ (hlt _ _ h).2];exact g2,g3.mono hle⟩
theorem Ze6(hw:WH C r v w)(hu:∀b,b<v.heap.size→u.heap[b]?=v.heap[b]?)(hv:∀b,b<w.heap.size→w'.heap[b]?=w.heap[b]?)(he:u.os.env=w'.os.env):WH C r u w':=
 ⟨fun x c h=>by
  obtain⟨o,o',g1,g2,g3⟩:=hw.on _ _ h;exact⟨o,o',by rw[hu _ (Y0.1 g1).1];exact g1,by rw[hv _ (Y0.1 g2).1];exact g2,g3⟩,hw.inj,he⟩
theorem arr3{a b c:Value}(h:Arr R #[a,b,c] ys): ∃a' b' c',ys=#[a',b',c']∧R a a'∧R b b'∧R c c':=by
 have hl:=h.lis;generalize hy:ys.toList=l at hl
 cases hl with
 | cons h1 t =>
  cases t with
  | cons h2 t =>
   cases t with
   | cons h3 t =>
    cases t with
    | nil=>exact⟨_,_,_,Array.ext' hy,h1,h2,h3⟩
theorem ZlC(h:xs.size=3): ∃a b c,xs=#[a,b,c]:=by
 obtain⟨l⟩:=xs
 match l,h with
 | [a,b,c],_=>exact⟨a,b,c,rfl⟩
end
theorem Z9b{o o':Os}(h:OsLater o o'):o'.env=o.env:=by
 obtain⟨d,rfl⟩:=h
 rfl
structure KeptW(v u w w':World)(r r':Ren):Prop where
 lone:∀b,b<v.heap.size→u.heap[b]?=v.heap[b]?
 old:∀b,b<w.heap.size→w'.heap[b]?=w.heap[b]?
 size:w.heap.size≤w'.heap.size
 os:OsLater w.os w'.os
 out:w'.output=w.output
 new:∀a b,r' a=some b→r a=some b∨w.heap.size≤b
def tG(c:Nat):Nat→Question→Nat:=fun _ q=>match q with
 | .appendCap n _ _=>if n=7 then 0 else c-n
 | _=>0
end Lift
namespace Lift
open Go Go.Conc
open Go.ConcN (sumTo upd sumTo_upd upd_ne upd_same)
variable[Jk]
section
variable{P:Program}{F:Array Func}{G:FuncId→Prop}{Post:Value→World→Prop}{D:Nat→Prop}{g:Goroutine}{v w w':World}{r:Ren}
theorem Sure.moves2(hr:g.status = .running)
  (hm:∀w1,Like w w1→∀(gs:Array Goroutine) sl t q w0 sl0,gs[0]?=some g→Leavers P t gs q→Past (Dk D) w.heap.size t→stepT P (crowd gs w0 sl0)=runT P (crowd gs w1 sl) 0→Run P Post (crowd gs w0 sl0) t):Sure P Post D g w:=by
 have key:∀(M:Nat) w1,Like w w1→∀(gs:Array Goroutine) sl t q,sumTo gs.size q<M→gs[0]?=some g→Leavers P t gs q→Past (Dk D) w.heap.size t→Run P Post (crowd gs w1 sl) t:=by
  intro M
  induction M with
  | zero=>exact fun w1 hw gs sl t q hM=>absurd hM (Nat.not_lt_zero _)
  | succ M ih =>
   intro w1 hw gs sl t q hM h0 hL hP;obtain⟨i,x,d,sl',hi,hx,hst⟩:=crowd_pick (P:=P) (w:=w1) (sl:=sl) (Z44 h0 hr hL) ⟨0,g,h0,hr⟩
   rcases Nat.eq_zero_or_pos i with rfl | hpos
   ·exact hm (w1.at d) (hw.at d) gs sl' t q _ _ h0 hL hP hst
   ·have hq:=hL.old i x hpos hi
    have hi0:(i==0)=false:=by simp;omega
    have hlt:i<gs.size:=(Y0.1 hi).1
    cases hqi:q i with
    | zero=>rw[hqi]at hq;rw[hq.1]at hx;cases hx
    | succ k =>
     rw[hqi]at hq
     rcases hq with⟨hf,_⟩ | ⟨_,x',es,hmu,hstp,hq'⟩
     ·rw[hf]at hx;cases hx
     have hrunT:=runT_crowd_go (P:=P) (sl:=sl') (i:=i) hi (by rw[hi0];exact hstp (w1.at d));have hsz:((gs.map (woken P x x' (w1.at d))).setIfInBounds i x').size=gs.size:=by simp
     have hsum:sumTo gs.size (upd q i k)+(k+1)=sumTo gs.size q+k:=by
      have:=sumTo_upd q k id hlt;simpa[hqi] using this
     have hne:i≠0:=by omega
     refine Run.next (hst.trans hrunT) (ih (w1.at d) (hw.at d) _ sl' _ (upd q i k) (by rw[hsz];omega) ?_ ⟨fun j y hj hy=>?_,fun j hj=>?_⟩ (hP.mute hne hmu))
     ·rw[Yq hne,Array.getElem?_map,h0]
      simp[woken_run hr]
     ·by_cases hji:i=j
      ·subst hji
       rw[Array.getElem?_setIfInBounds_self_of_lt (by simpa using hlt)]at hy;obtain rfl:=Y1 hy;rw[upd_same,Deaf_own];exact hq'
      ·rw[Yq hji,Array.getElem?_map]at hy
       obtain⟨z,hz,rfl⟩:=Y3.1 hy;have hqj:=hL.old j z hj hz;rw[woken_quitsD hqj,upd_ne q k (Ne.symm hji),Deaf_other t hji _ (fun op hop=>by obtain⟨e,_,rfl⟩:=Go.Conc.mem_ofEvents hop;rfl)];exact hqj
     ·rw[Deaf_other t (g':=i) (by simp at hj;omega) _ (fun op hop=>by obtain⟨e,_,rfl⟩:=Go.Conc.mem_ofEvents hop;rfl)]
      exact hL.above j (by simpa using hj)
 exact fun w1 hw gs sl t q h0 hL hP=>key _ w1 hw gs sl t q (Nat.lt_succ_self _) h0 hL hP
theorem Sure.last(hr:g.status = .running)(h:∀w1,Like w w1→∃x w' es,stepG P true g w1 = .ended (.done x) w' es∧(∀e∈es,EvL (Dk D) w'.heap.size e)∧w.heap.size≤w'.heap.size∧Post x w'):Sure P Post D g w:=by
 refine Sure.moves2 hr fun w1 hw gs sl t q w0 sl0 h0 hL hP hm=>?_;obtain⟨x,w',es,hend,hes,hsz,hpost⟩:=h w1 hw;have hrunT:=runT_many_ended (P:=P) (sl:=sl) (i:=0) h0 (show stepG P (0==0) g w1=_ from hend);have hP':=(hP.mono hsz).own (fn:=g.frame.fn) (pos:=g.frame.place) hes;refine Run.end (hm.trans hrunT) ⟨x,rfl,hpost,hP'.clean,hP'.over,⟨fun y hy=>?_,rfl⟩,fun j y hy hj=>?_⟩
 ·obtain⟨j,hj⟩:=List.mem_iff_getElem?.1 hy
  rw[List.getElem?_drop]at hj;exact⟨_,(hL.old (1+j) y (by omega) (by simpa[crowd] using hj)).leaves⟩
 ·have hq:=hL.old j y (by omega) hy
  refine⟨q j,?_⟩;have e:(t++MemOp.ofEvents 0 g.frame.fn g.frame.place es).deaf j (t++MemOp.ofEvents 0 g.frame.fn g.frame.place es).size=Deaf t j:=
   Deaf_other t (g:=j) (g':=0) (by omega) _ (fun op hop=>by obtain⟨e,_,rfl⟩:=Go.Conc.mem_ofEvents hop;rfl)
  rw[e];exact hq.hears _
theorem ZcZ{fr g:Frame}(hf:FrR P F r fr g)(hw:WH (Iv P F) r v w){T:Nat→Question→Nat}(hl:fr.leaving (PF P F) (re v T) (.returned x))(hi:P.inits.idxOf? g.fn=none):
  ∃r' T' y w' ns,stepG P true (run1 g []) w = .ended (.done y) w' ns∧VR r' x y∧WR (Iv P F) r' (re v T') w'∧Kept r r' (re v T') (re v T') w w'∧∀e∈ns,EvG r' (re v T') w' e:=by
 obtain⟨hm,hd,hk,fn,hfn,hr⟩:=hl;obtain⟨T',hw'⟩:=hw.tape;have hr':=Z4a hf.tmps hw hr T';have o:=(Z1O (P:=P) (F:=F) (fn:=fn) hf.tmps).sim (re v T') w hw' #[];rw[hr']at o;obtain⟨r',y,w',ns,e,hw2,hn,hkk,he⟩:=o;have gm:g.mode = .returning:=by
  have:=hf.mode;rw[hm]at this;generalize g.mode=z at this⊢
  cases this
  rfl
 have gd:g.defers=[]:=by
  have:=hf.defers.1;rw[hd]at this;generalize g.defers=z at this⊢
  cases this
  rfl
 have gk:g.kind = .normal:=hf.kind.1▸hk;have gf:P.funcs[g.fn]?=some fn:=by rw[←hf.fn,←hf.own];exact hfn
 have e1:(results fn g.tmps).run P w = .ok y w':=by
  have:=congrArg Prod.fst e;simpa only[Yf] using this
 have e2:(results fn g.tmps).events P w #[]=#[]++ns:=by
  have:=congrArg Prod.snd e;simpa only[Yf] using this
 refine⟨r',T',y,w',seen P g.fn ((results fn g.tmps).events P w #[])++#[],?_,hn,hw2,hkk,?_⟩
 ·unfold stepG run1
  simp only[gm];unfold unwind;simp only[gd,gm,gf,Yf,e1];unfold doReturn;simp only[gk,hi]
  rfl
 ·intro x hx
  rw[Array.append_empty]at hx;exact Z0D e2 he x hx
end
end Lift
namespace Lift
open Go Go.Conc Go.RowKit Ev
open Go.ConcM (OsLater)
structure Since(w0:World)(r:Ren)(v w:World):Prop where
 old:∀b,b<w0.heap.size→w.heap[b]?=w0.heap[b]?
 size:w0.heap.size≤w.heap.size
 os:OsLater w0.os w.os
 out:w.output=w0.output
 shut:∀a b,r a=some b→b<w0.heap.size→Shut v a
theorem Since.kep[Jk]{r r':Ren}(k:Kep r r' v v' w w')(h:Since w0 r v w): Since w0 r' v' w':=by
 refine⟨fun b hb=>?_,Yd h.size k.sizeW,?_,?_,fun a b q hb=>?_⟩
 ·rw[←h.old b hb]
  by_cases hn:∃a,r a=some b
  ·obtain⟨a,ha⟩:=hn
   exact k.shutW a b (h.shut a b ha hb) ha
  ·exact k.far b (Y8 hb h.size) fun a ha=>hn ⟨a,ha⟩
 ·have:w'.os=w.os:=k.os.2.symm
  rw[this];exact h.os
 ·have:w'.output=w.output:=k.out
  rw[this];exact h.out
 ·rcases k.new a b q with q | ⟨_,q⟩
  ·exact k.shutS (h.shut a b q hb)
  ·have:=h.size
   omega
theorem Since.more{r r':Ren}(k:KeptW v v' w w' r r')(hlt:∀a b,r a=some b→a<v.heap.size)(h:Since w0 r v w): Since w0 r' v' w':=by
 refine⟨fun b hb=>(k.old b (Y8 hb h.size)).trans (h.old b hb),Yd h.size k.size,h.os.trans k.os,k.out.trans h.out,fun a b q hb=>?_⟩
 rcases k.new a b q with q | q
 ·obtain⟨cs,e,z⟩:=h.shut a b q hb
  exact⟨cs,e,(k.lone a (hlt a b q)).trans z⟩
 ·have:=h.size
  omega
def ZiS(w0:World)(x:Value)(w:World):Prop:=x = .bool true∧(∀b,b<w0.heap.size→w.heap[b]?=w0.heap[b]?)∧w0.heap.size≤w.heap.size∧OsLater w0.os w.os∧w.output=w0.output
end Lift
section
open Go.RowKit
variable{μ:Nat}
theorem Zcb(hl:(l.length:Int)<m): cntE l m h=7:=if_pos hl
theorem Z9G(hl:m<(l.length:Int)): cntE l m h=6:=by rw[cntE,if_neg (by omega),if_pos hl]
variable{μ:Nat}
def rcpE(x:Vm)(l:List Int):Int:=if cntE l x.D.length 6≠0 then cntE l x.D.length 6 else sizE l.sum 6
theorem Zcc{i:Nat}(hl:(l.length:Int)=m)(hi:i<l.length)(ho:outB (l.getD i 0) 0 h=true): cntE l m h=1:=by
 rw[cntE,if_neg (by omega),if_neg (by omega),if_neg];intro e;have:=Yl.1 e _ (Z8 0 hi);rw[ho]at this;simp at this
theorem Zgc(hl:(l.length:Int)=m)(hb:∀n∈l,0≤n∧n≤h): cntE l m h=0:=by
 rw[cntE,if_neg (by omega),if_neg (by omega),if_pos];exact Yl.2 fun n hn=>by rw[Z12.2 (hb n hn)];rfl
theorem ZgK:∀{l:List Int},(∀n∈l,0≤n)→0≤l.sum
 | [],_=>by simp
 | n::l,h=>by
  have h1:=h n (by simp);have h2:=ZgK (l:=l) (fun m hm=>h m (by simp[hm]));rw[List.sum_cons];omega
theorem Z2J{x:Vm}: rcpE x l=0↔RcpOk x l:=by
 constructor
 ·intro h
  unfold rcpE at h
  by_cases hc:cntE l x.D.length 6=0
  ·rw[if_neg (by simpa using hc)]at h
   have hlen:l.length=x.D.length:=by
    rcases Nat.lt_trichotomy l.length x.D.length with e | e | e
    ·rw[Zcb (by omega)]at hc;omega
    ·exact e
    ·rw[Z9G (by omega)]at hc;omega
   have hbd:∀n∈l,0≤n∧n≤6:=fun n hn=>by
    obtain⟨k,hk,rfl⟩:=List.getElem_of_mem hn;have hg:l.getD k 0=l[k]:=by simp[Y7,List.getElem?_eq_getElem hk]
    rw[←hg];apply Z12.1
    cases e:outB (l.getD k 0) 0 6
    ·rfl
    ·rw[Zcc (by omega) hk e]at hc;omega
   have hnn:=ZgK (fun n hn=>(hbd n hn).1);refine⟨hlen,hbd,?_,?_⟩
   ·unfold sizE at h;split at h<;>(try split at h)<;>omega
   ·unfold sizE at h;split at h<;>(try split at h)<;>omega
  ·rw[if_pos hc]at h;exact absurd h hc
 ·intro h
  have hc:cntE l x.D.length 6=0:=Zgc (by rw[h.len]) h.bd;rw[rcpE,if_neg (by simpa using hc)];exact Z7g h.s1 h.s6
theorem Z64(x:Vm)(hv:VOk x)(l:List Int)(hl:l.length≤1000)(he:rcpE x l≠0)(a:Option Addr)(c:Nat)(w:World)(hr:Z7 w (.slice a l.length c) 1 (l.map Z6)):
  Calls (Qy.prog μ) 65 #[.agg #[.int .i64 x.B,.slice x.da x.D.length x.dc,.slice x.la x.L.length x.lc,.int .i64 x.tol],.slice a l.length c] w fun e w'=>e = .panicked [fltV (rcpE x l)]∧Ext [] w w':=by
 have E:Ext [] w w:=Ext.refl _ _;have HR:=Lib.hid hr;have HS:=Lib.hid (Za hr 0);have hd1:=hv.d1;have hd4:=hv.d4;clear hr hv;obtain⟨er,her⟩:∃er,er=rcpE x l:=⟨_,rfl⟩;rw[←her]at he⊢;unfold rcpE at her;refine ZQ 42 Qy.func65 rfl Tryz.ntmps65 (Nat.le_of_ble_eq_true rfl) ?_;intro fa F;refine wS fun K1 hK1=>?_;refine Yg ?_;refine sqN F (Z1Q rfl (F.at rfl)) fun fa w1 F hw=>?_;obtain⟨n2,hn⟩:=eQ w.heap.size;rw[←hn]at F;have s2:=sQ hn;have l2_E:=lQ hn E.size;replace E:=Z5 E hw;have q2:=ZD hw hn;clear hw hn;refine sqN F (ZE rfl Qy.zeroValue88) fun fa w2 F hw=>?_;obtain⟨n4,hn⟩:=eQ w1.heap.size;rw[←hn]at F;have s4:=sQ hn;have l4_E:=lQ hn E.size;have m4_2:=tQ hn (Z3 q2);replace q2:=Z0 hw q2;replace E:=Z5 E hw;have q4:=ZD hw hn;clear hw hn;refine wN<|hK1 _ _<|wS fun K2 hK2=>wS fun K3 hK3=>?_
 refine Yg ?_;refine F.mv fun fa F=>?_;refine F.vl (Z3b rfl rfl (F.at rfl) Qy.underlying22) fun fa F=>?_;refine F.vl (ZF rfl (F.at rfl) Qy.underlying85 rfl (n:=0) (sz:=4) rfl (by kernel_rfl) (by decide)) fun fa F=>?_;refine F.vl (ZF rfl (F.at rfl) Qy.underlying27 rfl (n:=1) (sz:=1) rfl (by kernel_rfl) (by decide)) fun fa F=>?_;refine F.vl (Zv rfl (F.at rfl) Qy.underlying25 rfl ((Z1 q2 1).trans (getS (get0)))) fun fa F=>?_;refine F.vl (Z3b rfl rfl (F.at rfl) Qy.underlying25) fun fa F=>?_;refine F.vl (Z5z rfl (F.at rfl) (F.at rfl)) fun fa F=>?_;refine wN<|hK3 _ _ ?_
 refine Z7N F rfl (fun hc14=>?_) (fun hc14=>?_)
 ·skip
  refine Yg ?_;refine F.vl ((Z3c rfl (ev_c fa _) Qy.underlying135)) fun fa F=>?_;refine Z2K rfl (Z3M rfl (F.at rfl)) ?_
  (try simp only[Exit.inBlock,Exit.then,Exit.jump,reduceIte])
  refine⟨F.ds,?_⟩;rw[her,Zcb (by omega)];exact⟨rfl,E⟩
 ·skip
  refine Yi ?_;refine hK2 _ _<|wS fun K4 hK4=>wS fun K5 hK5=>?_
  refine Yg ?_;refine F.mv fun fa F=>?_;refine F.vl (Z3b rfl rfl (F.at rfl) Qy.underlying22) fun fa F=>?_;refine F.vl (ZF rfl (F.at rfl) Qy.underlying85 rfl (n:=0) (sz:=4) rfl (by kernel_rfl) (by decide)) fun fa F=>?_;refine F.vl (ZF rfl (F.at rfl) Qy.underlying27 rfl (n:=1) (sz:=1) rfl (by kernel_rfl) (by decide)) fun fa F=>?_;refine F.vl (Zv rfl (F.at rfl) Qy.underlying25 rfl ((Z1 q2 1).trans (getS (get0)))) fun fa F=>?_;refine F.vl (Z3b rfl rfl (F.at rfl) Qy.underlying25) fun fa F=>?_;refine F.vl (ZgO rfl (F.at rfl) (F.at rfl)) fun fa F=>?_;refine wN<|hK5 _ _ ?_
  refine Z7N F rfl (fun hc22=>?_) (fun hc22=>?_)
  ·skip
   refine Yg ?_;refine F.vl ((Z3c rfl (ev_c fa _) Qy.underlying135)) fun fa F=>?_;refine Z2K rfl (Z3M rfl (F.at rfl)) ?_
   (try simp only[Exit.inBlock,Exit.then,Exit.jump,reduceIte])
   refine⟨F.ds,?_⟩;rw[her,Z9G (by omega)];exact⟨rfl,E⟩
  ·skip
   refine Yi ?_;refine hK4 _ _<|wS fun K6 hK6=>wS fun K7 hK7=>?_
   refine Yg ?_;refine F.mv fun fa F=>?_;refine F.vl (Z3b rfl rfl (F.at rfl) Qy.underlying22) fun fa F=>?_;refine F.vl (Z1f rfl (ev_c fa _)) fun fa F=>?_;refine wN<|hK7 _ _ ?_
   refine Yh ?_;have F0:=F.sub (.c 1 rfl (.c 4 rfl (.c 24 rfl (.c 25 rfl .n))));refine Z5Y F0 (l.length) (fun i Lv W=>Lv=[(26,.int .i64 ((i:Nat):Int))]∧Ext [] w W∧W.heap[n2]?=some (.cells #[.int .i64 x.B,.slice x.da x.D.length x.dc,.slice x.la x.L.length x.lc,.int .i64 x.tol] 85 (0,0))∧W.heap[n4]?=some (.cells #[.int .i64 0,.int .i64 0,.int .i64 0,.int .i64 0] 88 (0,0))∧RowKit.Hid (∀j,j<i→outB (l.getD j 0) 0 6=false)) ⟨_,⟨rfl,E,q2,q4,Lib.hid (fun j hj=>absurd hj (by omega))⟩,F.sub (.c 26 rfl (.c 1 rfl (.c 4 rfl (.c 24 rfl (.c 25 rfl .n)))))⟩ ?_;clear F F0;clear E q2 q4;rintro i _ fa w3 hi1 ⟨rfl,E,q2,q4,hb⟩ F;refine wS fun K8 hK8=>?_;refine Yg ?_;refine F.vl (Z5z rfl (F.at rfl) (F.at rfl)) fun fa F=>?_;refine wN<|hK8 _ _<|wS fun K9 hK9=>?_
   refine Z7N F rfl (fun hc27=>?_) (fun hc27=>?_)
   ·skip
    refine Yi ?_;refine hK9 _ _<|wS fun K10 hK10=>?_
    refine Yh ?_;refine wS fun K11 hK11=>?_;refine Yg ?_;obtain⟨xb12,xo12,xa12,xr12⟩:=HS.out i (by omega);refine F.vl (Z4G (sz:=1) rfl ((F.at rfl).trans (xa12 _ _)) (F.at rfl) Qy.underlying22 (by kernel_rfl) (by omega) (by omega)) fun fa F=>?_;refine F.vl (Zv rfl (F.at rfl) Qy.underlying3 rfl (xr12 _ E 0 _ rfl)) fun fa F=>?_;refine F.as fun fa F=>?_;refine wN<|hK11 _ _<|wS fun K13 hK13=>?_
    by_cases ho:outB (l.getD i 0) 0 6=true
    ·skip
     refine Yg ?_;refine F.mv fun fa F=>?_;refine sqC F (Zy rfl rfl Qy.call92 (mpS (F.at rfl) (mpS (ev_c fa _) (mpS (ev_c fa _) mp0)))) (Z0i (l.getD i 0) 0 6 _) fun e w4 hR=>?_;obtain⟨rfl,e9⟩:=hR;refine⟨_,rfl,fun fa F=>?_⟩;replace q2:=(e9).keep0 q2;replace q4:=(e9).keep0 q4;replace E:=Zb E (e9);clear e9;rw[ho]at F;refine wN<|hK13 _ _ ?_
     refine cd_T F rfl ?_;refine Yg ?_;refine F.vl ((Z3c rfl (ev_c fa _) Qy.underlying135)) fun fa F=>?_;refine Z2K rfl (Z3M rfl (F.at rfl)) ?_
     (try simp only[Exit.inBlock,Exit.then,Exit.jump,reduceIte])
     refine⟨F.ds,?_⟩;rw[her,Zcc (by omega) (by omega) ho];exact⟨rfl,E⟩
    ·skip
     refine Yg ?_;refine F.mv fun fa F=>?_;refine sqC F (Zy rfl rfl Qy.call92 (mpS (F.at rfl) (mpS (ev_c fa _) (mpS (ev_c fa _) mp0)))) (Z0i (l.getD i 0) 0 6 _) fun e w5 hR=>?_;obtain⟨rfl,e9⟩:=hR;refine⟨_,rfl,fun fa F=>?_⟩;replace q2:=(e9).keep0 q2;replace q4:=(e9).keep0 q4;replace E:=Zb E (e9);clear e9;rw[show outB (l.getD i 0) 0 6=false by simpa using ho]at F;refine wN<|hK13 _ _ ?_
     refine cd_F F rfl ?_;refine Yi ?_;refine hK10 _ _ ?_;refine Yg ?_;refine F.vl (Z5y rfl (F.at rfl) (ev_c fa _) (by omega) (by omega)) fun fa F=>?_;refine F.mv fun fa F=>?_;refine wpList_nil ?_;show _∧_;exact⟨by omega,_,⟨rfl,E,q2,q4,Lib.hid (fun j hj=>(by rcases Nat.lt_or_ge j i with h | h;exact hb.out j h;rw[show j=i by omega];simpa using ho))⟩,F.sub (.c 26 rfl (.c 1 rfl (.c 4 rfl (.c 24 rfl (.c 25 rfl .n)))))⟩
   ·skip
    refine wp_exit ?_;have HB:=Lib.hid (fun n (hn:n∈l)=>(by obtain⟨k,hk,rfl⟩:=List.getElem_of_mem hn;have:=hb.out k (by omega);rw[Y7,List.getElem?_eq_getElem hk]at this;exact Z12.1 this:0≤n∧n≤6));have hpr:prt (val l)=l.sum:=Z2v l 4 (by omega);have HT:=Lib.hid (fun k (_:k<4)=>(by have:=Z8t HB.out (by omega) (by omega) k;omega:0≤val l k∧val l k≤1000));have hcz:cntE l x.D.length 6=0:=Zgc (by omega) HB.out;rw[if_neg (by simpa using hcz)]at her;refine hK6 _ _<|wS fun K14 hK14=>?_
    refine Yg ?_;refine sqN F (ZE rfl Qy.zeroValue88) fun fa w6 F hw=>?_;obtain⟨n7,hn⟩:=eQ w3.heap.size;rw[←hn]at F;have s7:=sQ hn;have l7_E:=lQ hn E.size;have m7_2:=tQ hn (Z3 q2);have m7_4:=tQ hn (Z3 q4);replace q2:=Z0 hw q2;replace q4:=Z0 hw q4;replace E:=Z5 E hw;have q7:=ZD hw hn;clear hw hn;refine wpList_nil ?_;replace q7:w6.heap[n7]?=some (.cells (tubC zf) 88 (0,0)):=q7;refine hK14 _ _<|wS fun K15 hK15=>?_
    refine Yg ?_;refine F.vl ((Z1y (n:=4) rfl (F.at rfl) (by kernel_rfl) (by kernel_rfl) (by kernel_rfl))) fun fa F=>?_;refine F.mv fun fa F=>?_;have hlr2:=HR.out.ext E (by simp);obtain⟨sb,so,hsa,-,-⟩:=hlr2.range rfl (by intro e;have hq:=congrArg List.length e;rw[Yj,List.length_nil]at hq;omega);rw[hsa]at hlr2;have hcd:∀j,j<l.length→(w6.cell? ⟨n7,0+j,none⟩).isSome=true:=fun j hj=>(by have:=Z2y q7 (i:=(j:Int)) (k:=j) rfl (by omega);rw[Nat.mul_one,Int.toNat_natCast]at this;rw[this];rfl);refine sqN F (ZbI (l.map (Value.int .i64)) rfl (F.at rfl) ((F.at rfl).trans (congrArg (fun z=>Value.slice z _ _) hsa)) Qy.underlying22 (by kernel_rfl) (by rw[Yj];exact(Nat.min_eq_left (by omega)).symm) (Z6F hlr2) (by rw[Yj];exact hcd) (by rw[Yj];exact fun j _=>Z9 q7 _) (Z4v _)) fun fa w7 F hw=>?_;replace q2:=kcs hw q2;replace q4:=kcs hw q4;replace q7:=Zag hw q7 (by omega);replace E:=ecs E hw;clear hw;refine wN<|hK15 _ _<|wS fun K16 hK16=>?_
    refine Yg ?_;refine F.vl (Zc rfl (F.at rfl) Qy.underlying88 rfl (by kernel_rfl) q7) fun fa F=>?_;refine sqC F (Zy rfl rfl Qy.call83 (mpS (F.at rfl) mp0)) (Z08 (val l) HT.out _) fun e w8 hR=>?_;obtain⟨rfl,e9⟩:=hR;refine⟨_,rfl,fun fa F=>?_⟩;replace q2:=(e9).keep0 q2;replace q4:=(e9).keep0 q4;replace q7:=(e9).keep0 q7;replace E:=Zb E (e9);clear e9;rw[hpr]at F;refine sqC F (Zy rfl rfl Qy.call93 (mpS (F.at rfl) (mpS (ev_c fa _) mp0))) (Z3B l.sum 6 _) fun e w9 hR=>?_;obtain⟨rfl,e9⟩:=hR;refine⟨_,rfl,fun fa F=>?_⟩;replace q2:=(e9).keep0 q2;replace q4:=(e9).keep0 q4;replace q7:=(e9).keep0 q7;replace E:=Zb E (e9);clear e9;rw[←her]at F;refine Z7k rfl (Zy rfl rfl Qy.call111 (mpS (F.at rfl) mp0)) (Zf5 er he _) fun e w10 hR=>?_;obtain⟨rfl,e9⟩:=hR;refine⟨_,rfl,?_⟩;replace q2:=(e9).keep0 q2;replace q4:=(e9).keep0 q4;replace q7:=(e9).keep0 q7;replace E:=Zb E (e9)
    (try simp only[Exit.inBlock,Exit.then,Exit.jump,reduceIte])
    refine⟨F.ds,?_⟩;exact⟨rfl,E⟩
end
section
open Go.RowKit Ev
variable{μ:Nat}
theorem Z7K(x:Vm)(hv:VOk x)(k:Nat)(hk:k<x.L.length)(f:Nat→Int)(hf:TubS f)(s:List Int)(hs:Z1z x s)(sa:Option Addr)(sc:Nat)(n8 n9 n5:Nat)(T8 T9 T5:TypeId)(z8 z9 z5:Nat×Nat)(w:World)(h:x.At w)(hr:Z7 w (.slice sa s.length sc) 1 (s.map Z6))
  (q8:w.heap[n8]?=some (.cells #[.int .i64 x.B,.slice x.da x.D.length x.dc,.slice x.la x.L.length x.lc,.int .i64 x.tol] T8 z8)) (q9:w.heap[n9]?=some (.cells (tubC f) T9 z9)) (q5:w.heap[n5]?=some (.cells #[.slice sa s.length sc] T5 z5)) :
  Calls (Qy.prog μ) 79 #[.int .i64 ((k:Nat):Int),.pointer (some ⟨n8,0,none⟩),.pointer (some ⟨n9,0,none⟩),.pointer (some ⟨n5,0,none⟩)] w fun e w'=>e = .returned (.bool (matE x f (val s) [((k:Nat):Int)]))∧Ext [] w w':=by
 have E:Ext [] w w:=Ext.refl _ _;have HX:=Lib.hid h;have HV:=Lib.hid hv;have HR:=Lib.hid hr;clear h hv hr;refine ZQ 12 Qy.func79 rfl Tryz.ntmps79 (Nat.le_of_ble_eq_true rfl) ?_;intro fa F;refine wS fun K1 hK1=>?_;refine Yg ?_;refine F.vl (Zx rfl (ev_c fa _)) fun fa F=>?_;refine wN<|hK1 _ _<|wS fun K2 hK2=>?_
 refine Yg ?_;refine F.vl (Zc rfl (F.at rfl) Qy.underlying85 rfl (by kernel_rfl) q8) fun fa F=>?_;refine F.vl (Zc rfl (F.at rfl) Qy.underlying88 rfl (by kernel_rfl) q9) fun fa F=>?_;refine F.vl (Zv rfl (F.at rfl) Qy.underlying22 rfl ((Z1 q5 0).trans (get0))) fun fa F=>?_;refine F.mv fun fa F=>?_;refine sqN F (ZM rfl (prS (F.at rfl) pr0) Qy.underlying22 (size:=1) (by kernel_rfl) (by decide) (by decide) Qy.zeroValue3 (cells:=#[.int .i64 ((k:Nat):Int)]) (by kernel_rfl)) fun fa w1 F hw=>?_;obtain⟨n10,hn⟩:=eQ w.heap.size;rw[←hn]at F;have s10:=sQ hn;have l10_E:=lQ hn E.size;have m10_8:=tQ hn (Z3 q8);have m10_9:=tQ hn (Z3 q9);have m10_5:=tQ hn (Z3 q5);replace q8:=Z0 hw q8;replace q9:=Z0 hw q9;replace q5:=Z0 hw q5;replace E:=Z5 E hw;have q10:=ZT hw hn;clear hw hn;refine sqC F (Zy rfl rfl Qy.call80 (mpS (F.at rfl) (mpS (F.at rfl) (mpS (F.at rfl) (mpS (F.at rfl) mp0))))) (Z74 (μ:=μ) x HV.out f hf s hs [((k:Nat):Int)] (by intro n hn;obtain rfl:=List.mem_singleton.1 hn;omega) (by simp) sa (some ⟨n10,0,none⟩) sc 1 _ (HX.out.ext E) (HR.out.ext E (by simp)) (ZP [((k:Nat):Int)] 1 q10)) fun e w2 hR=>?_;obtain⟨rfl,e9⟩:=hR;refine⟨_,rfl,fun fa F=>?_⟩;replace q8:=(e9).keep0 q8;replace q9:=(e9).keep0 q9;replace q5:=(e9).keep0 q5;replace q10:=(e9).keep0 q10;replace E:=Zb E (e9);clear e9;refine F.as fun fa F=>?_;refine wN<|hK2 _ _ ?_
 refine wp_ret ?_
 (try simp only[Exit.inBlock,Exit.then,reduceIte])
 refine rt_v F (rs_1 F rfl rfl) ?_;exact⟨rfl,E⟩
noncomputable def mB:Code:=Tryz.f26.body.getD .skip
noncomputable def cMat : Code := .seq (sqL mB) (.seq (sqL (sqR mB)) (.seq (sqL (sqR (sqR mB))) (.seq (sqL (sqR (sqR (sqR mB)))) (.seq (sqL (sqR (sqR (sqR (sqR mB))))) (.refuse "")))))
structure MaA(x:Vm)(f:Nat→Int)(s:List Int)(sa:Option Addr)(sc:Nat)(w:World)(b fr:Frame)(w':World):Prop where
 ex : ∃(a : Act) (n7 n8 n9 n5 : Nat), fr=b.at a [.code (.refuse "")] ∧
  Has 21 [Z2c n7] a [(7,pt n7),(8,pt n8),(9,pt n9),(5,pt n5)] ∧
  w'.heap[n7]?=some (.cells #[.int .i64 0] 30 (0,0))∧w'.heap[n8]?=some (.cells #[.int .i64 x.B,.slice x.da x.D.length x.dc,.slice x.la x.L.length x.lc,.int .i64 x.tol] 85 (0,0)) ∧
  w'.heap[n9]?=some (.cells (tubC f) 88 (0,0))∧w'.heap[n5]?=some (.cells #[.slice sa s.length sc] 22 (0,0)) ∧
  w.heap.size≤n7∧w.heap.size≤n8∧w.heap.size≤n9∧w.heap.size≤n5∧n7≠n8∧n7≠n9∧n7≠n5∧Ext [] w w'
theorem ZjU(x:Vm)(hv:VOk x)(l s:List Int)(hl:RcpOk x l)(hs:Z1z x s)(a1 a2:Option Addr)(c1 c2:Nat)(w:World)(h:x.At w)(hr:Z7 w (.slice a1 l.length c1) 1 (l.map Z6))(hr':Z7 w (.slice a2 s.length c2) 1 (s.map Z6))
  (fb:Frame) (fa:Act) (F:Has 21 [] fa [(0,x.val),(1,.slice a1 l.length c1),(2,.slice a2 s.length c2)]):ToZ (Qy.prog 1) [Lift.poison] (MaA x (val l) s a2 c2 w fb) (fb.at fa [.code cMat]) w:=by
 have E:Ext [] w w:=Ext.refl _ _;have HX:=Lib.hid h;have HV:=Lib.hid hv;have HR:=Lib.hid hr;have HR':=Lib.hid hr';have HL:=Lib.hid hl;have HS:=Lib.hid hs;clear h hv hr hr' hl hs;unfold Vm.val at F;have G:=(Bk.nil w).ce E;refine Z2x<|Z5u<|Yg<|(F.bx G) fun yy F G=>(F.bx G) @fun n5 w2 _ yy F G=>(F.m) fun F=>(F.al G Qy.zeroValue30) @fun n7 w3 _ yy F G=>tI<|Z2x<|Z5u<|Yg<|(F.df) fun F=>tI<|Z2x<|Z5u<|Yg<|(F.y (F.lb (G.q 2))) fun F=>(F.k0 G (Z0u (μ:=1) x HV.out _ (HX.out.ext (G.e 3)))) fun F G=>(F.al G Qy.zeroValue85) @fun n8 w5 _ yy F G=>(F.sr G 0) fun G=>tI<|Z2x<|Z5u<|Yg ?_
 refine(F.y (F.lb (G.q 0))) fun F=>(F.m) fun F=>(F.k (Z2o (μ:=1) x HV.out l HL.out a1 c1 _ (HR.out.ext (G.e 4) (by simp)))) ?_;rintro _ w7 ⟨rfl,e9⟩;refine⟨_,rfl,fun F=>?_⟩;replace G:=G.ex e9;unfold tubC at F;refine(F.al G Qy.zeroValue88) @fun n9 w8 _ yy F G=>(F.sr G 0) fun G=>tI<|Z2x<|Z5u<|Yg<|(F.y (F.lb (G.q 1))) fun F=>(F.y (F.lc (G.q 3))) fun F=>(F.k0 G (Z2q (μ:=1) x HV.out s HS.out a2 c2 _ (HR'.out.ext (G.e 5) (by simp)))) fun F G=>tI ?_
 exact ToZ.here ⟨_,n7,n8,n9,n5,rfl,F.u,G.q 2,G.q 1,G.q 0,G.q 3,by omega,by omega,by omega,by omega,by omega,by omega,by omega,G.e 5⟩
theorem ZjT(x:Vm)(hv:VOk x)(l:List Int)(hl:l.length≤1000)(he:rcpE x l≠0)(a1 a2:Option Addr)(c1 m2 c2:Nat)(w:World)(h:x.At w)(hr:Z7 w (.slice a1 l.length c1) 1 (l.map Z6))
  (fa:Act) (F:Has 21 [] fa [(0,x.val),(1,.slice a1 l.length c1),(2,.slice a2 m2 c2)]):cMat.wp (Qy.prog 1) (bodyPostM Fence.wide 9 (Qy.prog 1) Tryz.f26 fun e w'=>e = .returned (.tuple #[.slice none 0 0,.int .i64 (rcpE x l)])∧Ext [] w w') fa w:=by
 have E:Ext [] w w:=Ext.refl _ _;have HX:=Lib.hid h;have HV:=Lib.hid hv;have HR:=Lib.hid hr;clear h hv hr;obtain⟨er,her⟩:∃er,er=rcpE x l:=⟨_,rfl⟩;unfold Vm.val at F;refine wS fun K1 hK1=>?_;refine Yg ?_;refine sqN F (Z1Q rfl (F.at rfl)) fun fa w1 F hw=>?_;obtain⟨n3,hn⟩:=eQ w.heap.size;rw[←hn]at F;have s3:=sQ hn;have l3_E:=lQ hn E.size;replace E:=Z5 E hw;have q3:=ZD hw hn;clear hw hn;refine sqN F (Z1Q rfl (F.at rfl)) fun fa w2 F hw=>?_;obtain⟨n5,hn⟩:=eQ w1.heap.size;rw[←hn]at F;have s5:=sQ hn;have l5_E:=lQ hn E.size;have m5_3:=tQ hn (Z3 q3);replace q3:=Z0 hw q3;replace E:=Z5 E hw;have q5:=Z0h hw rfl hn;clear hw hn;refine F.vl (Zx rfl (ev_c fa _)) fun fa F=>?_;refine sqN F (ZE rfl Qy.zeroValue30) fun fa w3 F hw=>?_;obtain⟨n7,hn⟩:=eQ w2.heap.size;rw[←hn]at F;have s7:=sQ hn;have l7_E:=lQ hn E.size;have m7_3:=tQ hn (Z3 q3);have m7_5:=tQ hn (Z3 q5);replace q3:=Z0 hw q3;replace q5:=Z0 hw q5;replace E:=Z5 E hw;have q7:=Z0h hw rfl hn;clear hw hn;refine wN<|hK1 _ _<|wS fun K2 hK2=>?_
 refine Yg ?_;refine Z4A F rfl rfl (Z6l rfl rfl (mpS (F.at rfl) mp0)) fun fa F=>?_;refine wN<|hK2 _ _<|wS fun K3 hK3=>?_
 refine Yg ?_;refine F.vl (Zc rfl (F.at rfl) Qy.underlying27 rfl (by kernel_rfl) q3) fun fa F=>?_;refine sqC F (Zy rfl rfl Qy.call64 (mpS (F.at rfl) mp0)) (Z0u (μ:=1) x HV.out _ (HX.out.ext E)) fun e w4 hR=>?_;obtain⟨rfl,e9⟩:=hR;refine⟨_,rfl,fun fa F=>?_⟩;replace q3:=(e9).keep0 q3;replace q5:=(e9).keep0 q5;replace q7:=(e9).keep0 q7;replace E:=Zb E (e9);clear e9;refine sqN F (ZE rfl Qy.zeroValue85) fun fa w5 F hw=>?_;obtain⟨n8,hn⟩:=eQ w4.heap.size;rw[←hn]at F;have s8:=sQ hn;have l8_E:=lQ hn E.size;have m8_3:=tQ hn (Z3 q3);have m8_5:=tQ hn (Z3 q5);have m8_7:=tQ hn (Z3 q7);replace q3:=Z0 hw q3;replace q5:=Z0 hw q5;replace q7:=Z0 hw q7;replace E:=Z5 E hw;have q8:=ZD hw hn;clear hw hn;refine Z0N rfl rfl (Z01 rfl (F.at rfl) (F.at rfl) (by kernel_rfl) (by first | (simp[Value.oneCell'];done) | (simp[Value.oneCell',id];done)) q8 rfl) ?_;intro w6 hw;replace q3:=kcs hw q3;replace q5:=kcs hw q5;replace q7:=kcs hw q7;replace q8:=Z14 hw q8 rfl;replace E:=ecs E hw;clear hw;refine wN<|hK3 _ _<|wS fun K4 hK4=>?_
 refine Yg ?_;refine F.vl (Zc rfl (F.at rfl) Qy.underlying85 rfl (by kernel_rfl) q8) fun fa F=>?_;refine F.mv fun fa F=>?_;refine Z7k rfl (Zy rfl rfl Qy.call65 (mpS (F.at rfl) (mpS (F.at rfl) mp0))) ((Z64 (μ:=1) x HV.out l hl he a1 c1 _ (HR.out.ext E (by simp)))) fun e w7 hR=>?_;obtain⟨rfl,e9⟩:=hR;refine⟨_,rfl,?_⟩;replace q3:=(e9).keep0 q3;replace q5:=(e9).keep0 q5;replace q7:=(e9).keep0 q7;replace q8:=(e9).keep0 q8;replace E:=Zb E (e9)
 (try simp only[Exit.inBlock,Exit.then,Exit.jump,reduceIte])
 refine Zkd F ?_;refine Zd3 q7 fun w8 hw=>?_;replace q3:=kce hw q3;replace q5:=kce hw q5;replace q7:=Zz hw q7 (by simp only[List.setIfInBounds_toArray,lsQ,lzQ];exact rfl);replace q8:=kce hw q8;replace E:=ece E hw;clear hw;refine Z1l (Z5D F rfl rfl rfl Qy.underlying30 rfl q7) ?_;exact⟨rfl,E⟩
end
namespace Lift
open Go Go.Conc Go.RowKit Ev Mx
open Go.ConcM (OsLater)
noncomputable def fF(f:FuncId):Frame:={(default:Frame) with fn:=f,kind:=.normal}
def fA(N:Nat)(xs:Array Value):Act:={tmps:=xs++Array.replicate (N-xs.size) undef,defers:=[]}
def HdS(Z:World→Frame→World→Prop)(v:World)(V:List Frame)(u:World):Prop:=∃T0 T f',V=[f',poison]∧Z (re v T0) f' (re u T)
structure Snc(w0:World)(r:Ren)(v w:World):Prop where
 old:∀b,b<w0.heap.size→w.heap[b]?=w0.heap[b]?
 size:w0.heap.size≤w.heap.size
 os:w.os=w0.os
 out:w.output=w0.output
 shut:∀a b,r a=some b→b<w0.heap.size→Shut v a
theorem Snc.kep[Jk]{r r':Ren}(k:Kep r r' v v' w w')(h:Snc w0 r v w): Snc w0 r' v' w':=by
 refine⟨fun b hb=>?_,Yd h.size k.sizeW,k.os.2.symm.trans h.os,k.out.trans h.out,fun a b q hb=>?_⟩
 ·rw[←h.old b hb]
  by_cases hn:∃a,r a=some b
  ·obtain⟨a,ha⟩:=hn
   exact k.shutW a b (h.shut a b ha hb) ha
  ·exact k.far b (Y8 hb h.size) fun a ha=>hn ⟨a,ha⟩
 ·rcases k.new a b q with q | ⟨_,q⟩
  ·exact k.shutS (h.shut a b q hb)
  ·have:=h.size
   omega
theorem Z80{J:Jk}(hj:J.j)(hg:∀f,J.gd f↔gJ f=true)(hn:∀f,¬J.law f){D: Nat→Prop}{Post:Value→World→Prop}(hblk:∀b,S b→∃cs e fz,w.heap[b]?=some (.cells cs e fz))(hoff:∀b,S b→¬D b)(hlow:∀c,D c→c<w.heap.size){f:FuncId}{N:Nat}(hown:(Qy.F 1)[(f:Nat)]?=PP.funcs[(f:Nat)]?)(hargs:@VRs J (idS S) xs xs){c c':Code}(hc:@Todo J PP (J.law f) (¬J.gd f) false (idS S) [.code c] [.code c']){Z:World→Frame→World→Prop}(hrun:∀v,Shadow S w v→∀T,ToZ (Qy.prog 1) [poison] (Z (re v T)) ((fF f).at (fA N xs) [.code c]) (re v T)){cs:List Frame}(next:∀v f' v' r' g' w' T1 T2,Shadow S w v→Z (re v T1) f' (re v' T2) → @FrR J PP (Qy.F 1) r' f' g' → @WH J (@Iv J PP (Qy.F 1)) r' v' w'→Idn r'→Off D r' w'→Snc w r' v' w'→Sure PP Post D (run1 g' cs) w'):
  Sure PP Post D (run1 ((fF f).at (fA N xs) [.code c']) cs) w:=by
 have hS2:Strip PP (Qy.F 1) (CodeOk PP false) (fun f=>gJ f=true):=strip_J hj hg (fun f _=>hn f) 1;have hG:GOk PP (Qy.F 1) (fun f=>gJ f=true):=Zjy hg (fun f _=>hn f) 1;have hR:Rec PP:=⟨recP,hn⟩;obtain⟨v,hsh,hwh,hshut⟩:=Z2f (P:=PP) (F:=Qy.F 1) (w:=w) hj hblk;have hfr:FrR PP (Qy.F 1) (idS S) ((fF f).at (fA N xs) [.code c]) ((fF f).at (fA N xs) [.code c']):=by
  refine @FrR.mk J PP (Qy.F 1) (idS S) _ _ ?c1 ?c2 ?c3 ?c4 ?c5 ?c6 ?c7 ?c8
  case c1=>exact(rfl:(f:Nat)=f)
  case c2=>exact hown
  case c4=>exact hc
  case c5=>exact⟨.nil,fun q=>absurd q (hn _)⟩
  case c6=>exact .run
  case c7=>exact⟨(rfl:CallKind.normal = .normal),.inl (rfl:CallKind.normal = .normal)⟩
  case c8=>exact .none
  ·show VRs (idS S) (xs++Array.replicate (N-xs.size) undef) (xs++Array.replicate (N-xs.size) undef)
   exact Arr.append hargs (Arr.replicate _ .undef)
 have hst:Stk PP (Qy.F 1) (idS S) [(fF f).at (fA N xs) [.code c]] [(fF f).at (fA N xs) [.code c']]:=⟨.cons hfr .nil,⟨.inl rfl,fun h=>absurd rfl h⟩,trivial⟩;have hEn:Ends (PF PP (Qy.F 1)) (HdS Z v) [(fF f).at (fA N xs) [.code c],poison] v:=by
  obtain⟨T0,hw0⟩:=hwh.tape;obtain⟨σ,hw2⟩:=hw0.retape v.tape;refine Z1h hS2 hG hR ?_ (.inl ⟨[],_,[],_,_,rfl,hst,hw2⟩) fun T=>?_
  ·rintro V u T ⟨T1,T2,f',e,q⟩
   exact⟨T1,T2,f',e,q⟩
  ·obtain⟨f',w',hz,n,hn⟩:=hrun v hsh T
   exact⟨n,f',[poison],w',hn,T,w'.tape,f',rfl,hz⟩
 have hof:Off D (idS S) w:=⟨fun b c hb=>by obtain⟨q1,rfl⟩:=Z0F hb;exact hoff _ q1,hlow⟩;refine Sure.lone (A:=[]) (B:=[]) hS2 hG hR (fun y u=>by rintro⟨T1,T2,f',e,q⟩;cases e) hEn rfl hst hwh hof ?_;intro f' A' g' B' r' v' w' hs hst' hw' hk;obtain⟨T1,T2,f2,e,hq⟩:=hs;simp only[List.cons.injEq]at e;obtain⟨rfl,e⟩:=e;have hA:A'=[]:=by
  cases A' with
  | nil=>rfl
  | cons a0 l0 =>
   have:=congrArg List.length e;simp at this
 subst hA;have hB:B'=[]:=by
  obtain⟨_,h,_⟩:=hst'.uncons;have:=h.rel
  cases B' with
  | nil=>rfl
  | cons b bs=>cases this
 subst hB;have hi:Idn r':=fun b c hb=>by
  rcases (hk.par hsh.size).2.1 b c hb with q | q
  ·exact(Z0F q).2
  ·exact q.symm
 have hsn:Snc w r' v' w':=Snc.kep hk ⟨fun _ _=>rfl,Ye _,rfl,rfl,fun a b q _=>hshut a b q⟩;have ho':Off D r' w':=⟨fun b c hb hd=>by
  rcases hk.new b c hb with q | ⟨_,q⟩
  ·exact hof.names b c q hd
  ·have:=hlow c hd
   omega,fun c hc=>Y8 (hlow c hc) hk.sizeW⟩
 exact next v f' v' r' g' w' T1 T2 hsh hq hst'.uncons.1 hw' hi ho' hsn
theorem Ziy{K:List Frame}{Z:Frame→World→Prop}{b:Frame}{a:Act}{c:Code}{R:Ending→World→Prop}(hf:P.funcs[b.fn]?=some fn)(hk:b.kind = .normal)(h:c.wp P (bodyPostM Fence.wide 9 P fn R) a w)(ho:∀w',¬R .outgrown w')(hz:∀e fr w',fr.leaving P w' e→R e w'→Z fr w'): ToZ P K Z (b.at a [.code c]) w:=by
 refine Z5u ?_;have key:∀(a1:Act) (w1:World) (u:FrameMode) td,LeavesInM Fence.wide 9 P fn a1.tmps R a1.defers u w1→ToZ P K Z {b.at a1 td with mode:=u} w1:=by
  intro a1 w1 u td hl;obtain⟨e,w2,fr,h1,h2,h3,h4⟩:=leaves_stepsInM (F:=Fence.wide) (n:=9) a1.defers u w1 {b.at a1 td with mode:=u} K rfl rfl rfl hf hk trivial (by simp[Fence.room,Fence.wide]) hl
  cases e with
  | outgrown=>exact absurd h1 (ho _)
  | returned v=>exact⟨fr,w2,hz _ _ _ h4 h1,h2.comes⟩
  | panicked ch=>exact⟨fr,w2,hz _ _ _ h4 h1,h2.comes⟩
 refine wp_mono h fun e a1 w1 q=>?_
 cases e with
 | normal=>exact .inl ⟨rfl,ToZ.one Go.step_end (key a1 w1 .returning [] q)⟩
 | ret=>exact .inr (.inl ⟨rfl,fun td=>key a1 w1 .returning td q⟩)
 | panic ch=>exact .inr (.inr ⟨ch,rfl,fun td=>key a1 w1 _ td q⟩)
 | exit i=>exact q.elim
 | goto l=>exact q.elim
 | outgrown=>exact absurd q (ho _)
end Lift
namespace Lift
open Go Go.Conc Go.RowKit Ev Mx
open Go.ConcM (OsLater)
noncomputable def tM:Code:=sqR (sqR (sqR (sqR (sqR mB))))
theorem Zlj:mB = .seq (sqL mB) (.seq (sqL (sqR mB)) (.seq (sqL (sqR (sqR mB))) (.seq (sqL (sqR (sqR (sqR mB)))) (.seq (sqL (sqR (sqR (sqR (sqR mB))))) tM)))):=by kernel_rfl
theorem Zd4:Tryz.f26.body=some mB:=by kernel_rfl
theorem Z7V(xs:Array Value):Frame.enter PP 26 xs .normal=(fF 26).at (fA 21 xs) [.code mB]:=by
 have h:PP.funcs[(26:Nat)]?=some Tryz.f26:=by kernel_rfl
 simp[Frame.enter,Frame.at,h,Zd4,fF,fA,Tryz.ntmps26]
noncomputable abbrev jkM:Jk:={j:=True,rest:=[.code tM],gd:=fun f=>gJ f=true}
theorem cm0:ZR PP gJ (fun _ _=>false) true false true false (sqL mB)=true:=by kernel_rfl
theorem cm1:ZR PP gJ (fun _ _=>false) true false true false (sqL (sqR mB))=true:=by kernel_rfl
theorem cm2:ZR PP gJ (fun _ _=>false) true false true false (sqL (sqR (sqR mB)))=true:=by kernel_rfl
theorem cm3:ZR PP gJ (fun _ _=>false) true false true false (sqL (sqR (sqR (sqR mB))))=true:=by kernel_rfl
theorem cm4:ZR PP gJ (fun _ _=>false) true false true false (sqL (sqR (sqR (sqR (sqR mB)))))=true:=by kernel_rfl
noncomputable def mt0(c7 c8 c9 c5:Nat):St:={top:={fn:=26,n:=21,env:=[(7,pt c7),(8,pt c8),(9,pt c9),(5,pt c5)],todo:=[.code tM],defs:=[Z2c c7],kind:=.normal,ret:=false},rest:=[],cvs:=[],mks:=[],deaf:=0}
noncomputable def mt1(c7 c8 c9 c5:Nat):St:=pn PP xtQ 40 (mt0 c7 c8 c9 c5)
noncomputable def mt2(c7 c8 c9 c5:Nat)(b:Value):St:=pn PP xtQ 1 ((mt1 c7 c8 c9 c5).an b)
noncomputable def mt3(c7 c8 c9 c5:Nat)(b y:Value):St:=pn PP xtQ 40 ((mt2 c7 c8 c9 c5 b).an y)
noncomputable def mt4(c7 c8 c9 c5:Nat)(b y:Value):St:=pn PP xtQ 40 ((mt3 c7 c8 c9 c5 b y).an undef)
noncomputable def mt5(c7 c8 c9 c5:Nat)(b y:Value):St:=pn PP xtQ 40 ((mt4 c7 c8 c9 c5 b y).an .nilIface)
section
variable(c7 c8 c9 c5:Nat)(b y:Value)
theorem kM1:(pnq PP xtQ 40 (mt0 c7 c8 c9 c5),(mt1 c7 c8 c9 c5).cvs,(mt1 c7 c8 c9 c5).lod,(mt1 c7 c8 c9 c5).ans b,(mt1 c7 c8 c9 c5).rest)=(true,[],some (85,⟨c8,0,none⟩),some ((mt1 c7 c8 c9 c5).an b),[]):=by kernel_rfl
theorem kM2:(pnq PP xtQ 1 ((mt1 c7 c8 c9 c5).an b),(mt2 c7 c8 c9 c5 b).cvs,(mt2 c7 c8 c9 c5 b).cal PP,(mt2 c7 c8 c9 c5 b).ans y,(mt2 c7 c8 c9 c5 b).rest)=(true,[],some (66,#[b,.func (.func 79) #[] #[pt c8,pt c9,pt c5]]),some ((mt2 c7 c8 c9 c5 b).an y),[]):=by kernel_rfl
theorem kM3:(pnq PP xtQ 40 ((mt2 c7 c8 c9 c5 b).an y),(mt3 c7 c8 c9 c5 b y).cvs,(mt3 c7 c8 c9 c5 b y).sto,(mt3 c7 c8 c9 c5 b y).ans undef,(mt3 c7 c8 c9 c5 b y).rest)=(true,[],some (30,⟨c7,0,none⟩,.int .i64 0),some ((mt3 c7 c8 c9 c5 b y).an undef),[]):=by kernel_rfl
theorem kM4:(pnq PP xtQ 40 ((mt3 c7 c8 c9 c5 b y).an undef),(mt4 c7 c8 c9 c5 b y).cvs,rcvB (mt4 c7 c8 c9 c5 b y),(mt4 c7 c8 c9 c5 b y).ans .nilIface,(mt4 c7 c8 c9 c5 b y).rest.map (·.ret),(mt4 c7 c8 c9 c5 b y).top.kind)=(true,[],true,some ((mt4 c7 c8 c9 c5 b y).an .nilIface),[true],.deferred):=by kernel_rfl
theorem kM5:(pnq PP xtQ 40 ((mt4 c7 c8 c9 c5 b y).an .nilIface),(mt5 c7 c8 c9 c5 b y).cvs,(mt5 c7 c8 c9 c5 b y).top.ret,(mt5 c7 c8 c9 c5 b y).top.defs,(mt5 c7 c8 c9 c5 b y).top.kind,(mt5 c7 c8 c9 c5 b y).top.fn,(mt5 c7 c8 c9 c5 b y).top.env.lookup 6,(mt5 c7 c8 c9 c5 b y).top.env.lookup 7,(mt5 c7 c8 c9 c5 b y).rest)
  = (true,[],true,[],.normal,26,some y,some (pt c7),[]):=by kernel_rfl
end
theorem ZaB[Jk](h:∀x∈xs,VR (idS S) x x): VRs (idS S) xs xs:=
 ⟨rfl,fun i a b h1 h2=>by
  rw[h1]at h2;obtain rfl:=Y1 h2;exact h _ (Yk h1)⟩
theorem Za7[Jk]{D: Nat→Prop}{x:Vm}(H:VatC D S x w){y z:Value}(p1:PV S y)(p2:PV S z): VRs (idS S) #[x.val,y,z] #[x.val,y,z]:=by
 refine ZaB fun q hq=>?_;simp only[Yb,Yc,Ya,or_false]at hq
 rcases hq with rfl | rfl | rfl
 ·refine .agg rfl (ZaB (xs:=#[.int .i64 x.B,.slice x.da x.D.length x.dc,.slice x.la x.L.length x.lc,.int .i64 x.tol]) fun q hq=>?_).2
  simp only[Yb,Yc,Ya,or_false]at hq
  rcases hq with rfl | rfl | rfl | rfl
  ·exact .int _ _
  ·exact H.da.vr
  ·exact H.la.vr
  ·exact .int _ _
 ·exact p1.vr
 ·exact p2.vr
theorem Za9{J:Jk}(hg:∀f,J.gd f↔gJ f=true)(hn:∀f,¬J.law f)(hr0:J.rest=[.code tM]): @Todo J PP (J.law 26) (¬J.gd 26) false (idS S) [.code cMat] [.code mB]:=by
 have cj:∀{c:Code},ZR PP gJ (fun _ _=>false) true false true false c=true→Z0G PP (Jk.law 26) (¬Jk.gd 26) false c:=fun q=>Zhc hg (fun f _=>hn f) (by decide) (hn _) q;have:=Zlj;generalize hq:mB=z at this;refine Todo.cut rfl (fun _=>⟨rfl,rfl⟩) ?_;rw[this,←hq];exact .seq (cj cm0) (.seq (cj cm1) (.seq (cj cm2) (.seq (cj cm3) (.seq (cj cm4) (.stop hr0)))))
theorem Zd7{y0 y1 y2:Value}: Has 21 [] (fA 21 #[y0,y1,y2]) [(0,y0),(1,y1),(2,y2)]:=by
 refine⟨rfl,by simp[fA],fun k u e=>?_⟩;simp only[Yp,List.lookup_nil]at e
 repeat' split at e
 all_goals first | (cases e;done) | (rename_i q;rw[beq_iff_eq]at q;subst q;obtain rfl:=Y1 e;simp[fA])
theorem Zd8:(Qy.F 1)[(26:Nat)]?=PP.funcs[(26:Nat)]?:=Qy.own26.trans (by kernel_rfl)
theorem Za8:PP.funcs[(26:Nat)]?=some Tryz.f26:=by kernel_rfl
theorem arr2[Jk]{a b:Value}(h:Arr R #[a,b] ys): ∃a' b',ys=#[a',b']∧R a a'∧R b b':=by
 have hl:=h.lis;generalize hy:ys.toList=l at hl
 cases hl with
 | cons h1 t =>
  cases t with
  | cons h2 t =>
   cases t with
   | nil=>exact⟨_,_,Array.ext' hy,h1,h2⟩
theorem Zdy[Jk]{v2: World}(hh:∀b,b<v.heap.size→v2.heap[b]?=v.heap[b]?){xs:List Int}(hx:Z7 v (.slice a n c) 1 (xs.map Z6)): Z7 v2 (.slice a n c) 1 (xs.map Z6):=by
 obtain⟨a4,c4,e4,hl,hc⟩:=hx;refine⟨a4,c4,e4,hl,fun hne=>?_⟩;obtain⟨b,off,rfl,hb,hk⟩:=hc hne;have key:∀i j x,(xs.map Z6)[i]?=some x→j<1→v2.cell? ⟨b,off+i*1+j,none⟩=x[j]?:=by
  intro i j x hi hj;rw[←hk i j x hi hj];unfold World.cell?;rw[hh b hb]
 refine⟨b,off,rfl,?_,key⟩
 cases hq:xs with
 | nil=>rw[hq]at hne;exact absurd rfl hne
 | cons z zs=>exact(Z0v (key 0 0 (Z6 z) (by rw[hq];rfl) (by omega))).1
theorem Zf0{J:Jk}(hj:J.j)(hg:∀f,J.gd f↔gJ f=true)(hn:∀f,¬J.law f)(hr0:J.rest=[.code tM]){D: Nat→Prop}{Post:Value→World→Prop}{x:Vm}(hv:VOk x)(H:VatC D S x w){s: List Int}(hl:RcpOk x l)(hs:Z1z x s){a1 a2:Option Addr}{c1 c2:Nat}(hr:Z7 w (.slice a1 l.length c1) 1 (l.map Z6))(hr':Z7 w (.slice a2 s.length c2) 1 (s.map Z6))(p1:PV S (.slice a1 l.length c1))(p2:PV S (.slice a2 s.length c2)){cs:List Frame} (next:∀(S':Nat→Prop) (a:Act) (w':World) (c7 c8 c9 c5:Nat),VatC D S' x w'→PV S' (.slice a2 s.length c2)→a.tmps.size=21→a.tmps[7]?=some (pt c7)→a.tmps[8]?=some (pt c8)→a.tmps[9]?=some (pt c9)→a.tmps[5]?=some (pt c5)→a.defers=[Z2c c7] →
   S' c7→S' c8→S' c9→S' c5→w'.heap[c7]?=some (.cells #[.int .i64 0] 30 (0,0))→w'.heap[c8]?=some (.cells #[.int .i64 x.B,.slice x.da x.D.length x.dc,.slice x.la x.L.length x.lc,.int .i64 x.tol] 85 (0,0)) →
   w'.heap[c9]?=some (.cells (tubC (val l)) 88 (0,0))→w'.heap[c5]?=some (.cells #[.slice a2 s.length c2] 22 (0,0))→(∀b,b<w.heap.size→w'.heap[b]?=w.heap[b]?)→w.heap.size≤w'.heap.size→w'.os=w.os→w'.output=w.output→Sure PP Post D (run1 ((fF 26).at a [.code tM]) cs) w'):
  Sure PP Post D (run1 (Frame.enter PP 26 #[x.val,.slice a1 l.length c1,.slice a2 s.length c2] .normal) cs) w:=by
 rw[Z7V];refine Z80 hj hg hn H.blk H.off H.low Zd8 (Za7 H p1 p2) (Za9 hg hn hr0) (Z:=fun v=>MaA x (val l) s a2 c2 v (fF 26)) (fun v hsh T=>?_) fun v f' v' r' g' w' T1 T2 hsh hq hf hw' hi ho hsn=>?_
 ·exact ZjU x hv l s hl hs a1 a2 c1 c2 (re v T) (Z4P (v:=v) (v2:=re v T) (fun b _=>rfl) (H.shadow (fun _ _=>rfl) hsh)) (@Z7f jkN _ _ _ _ (fun _ _=>rfl) hsh _ _ _ _ p1 hr) (@Z7f jkN _ _ _ _ (fun _ _=>rfl) hsh _ _ _ _ p2 hr') _ _ Zd7
 obtain⟨a,n7,n8,n9,n5,rfl,F,q7,q8,q9,q5,-,-,-,-,-,-,-,E⟩:=hq.ex;obtain⟨gfn,gt,gtodo,gdef,gmode,gkind,gound⟩:=g';obtain⟨f1,_,f3,f4,f5,f6,f7,f8⟩:=hf;have e1:gtodo=[.code tM]:=by
  have f4 : Todo _ _ _ _ _ [.code (.refuse "")] gtodo := f4
  cases f4 with
  | cons x y =>
   cases x with
   | code hc=>exact hc.elim
  | tail=>exact hr0
  | cut _ _ h =>
   cases h with
   | stop h=>rw[←h,hr0]
 have e2:gmode = .run:=by cases f6;rfl
 have e3:gound=none:=by cases f8;rfl
 obtain⟨f7,_⟩:=f7;obtain⟨f5,_⟩:=f5;dsimp only[Frame.at,fF]at f1 f3 f5 f7;subst e1 e2 e3 f1 f7;have slot:∀k n,k<21→a.tmps.getD k undef=pt n→r' n=some n∧gt[k]?=some (pt n):=by
  intro k n hk e;have h2:k<a.tmps.size:=by rw[F.sz];exact hk
  have h3:k<gt.size:=by rw[←f3.1];exact h2
  have:=f3.2 k _ _ (Y2 h2) (Y2 h3);rw[Y6,Y2 h2]at e;simp only[Option.getD_some]at e;rw[e]at this;rw[Y2 h3];generalize gt[k]=z at this
  cases this with
  | ptr q =>
   cases q with
   | mk q =>
    obtain rfl:=hi _ _ q;exact⟨q,rfl⟩
 obtain⟨s7,g7⟩:=slot 7 n7 (by decide) (F.get 7 _ rfl);obtain⟨s8,g8⟩:=slot 8 n8 (by decide) (F.get 8 _ rfl);obtain⟨s9,g9⟩:=slot 9 n9 (by decide) (F.get 9 _ rfl);obtain⟨s5,g5⟩:=slot 5 n5 (by decide) (F.get 5 _ rfl);have k7:=ZW (S:=S) hi hw' ⟨_,s7⟩ q7 (by simp) (by simp[PF1,PV]);have k8:=ZW (S:=S) hi hw' ⟨_,s8⟩ q8 (by simp) (by
  intro y hy;simp only[Yb,Yc,Ya,or_false]at hy
  rcases hy with rfl | rfl | rfl | rfl
  ·exact .inl trivial
  ·exact .inl H.da
  ·exact .inl H.la
  ·exact .inl trivial)
 have k9:=ZW (S:=S) hi hw' ⟨_,s9⟩ q9 (by simp[tubC]) (by
  intro y hy;simp only[tubC,Yb,Yc,Ya,or_false]at hy
  rcases hy with rfl | rfl | rfl | rfl<;>exact .inl trivial)
 have k5:=ZW (S:=S) hi hw' ⟨_,s5⟩ q5 (by simp) (by
  intro y hy;obtain rfl:=List.mem_singleton.1 (by simpa using hy);exact .inl p2)
 have hd:gdef=[Z2c n7]:=by
  have hds:a.defers=[Z2c n7]:=F.ds;rw[hds]at f5
  cases f5 with
  | cons d t =>
   cases t
   obtain⟨d1,d2⟩:=d;rename_i d0;obtain⟨dt,da⟩:=d0;dsimp only[Z2c]at d1 d2;obtain⟨y,rfl,hy⟩:=arr1 d2
   cases d1 with
   | fn hf q =>
    cases hf
    have:_=(#[]:Array Value):=Array.eq_empty_of_size_eq_zero q.1.symm;subst this
    cases hy with
    | ptr z =>
     cases z with
     | mk z =>
      obtain rfl:=hi _ _ z
      rfl
 have hin:∀b,S b→(S b∨b=n7∨b=n8∨b=n9∨b=n5):=fun b h=>.inl h;refine next (fun b=>S b∨b=n7∨b=n8∨b=n9∨b=n5) ⟨gt,gdef⟩ w' n7 n8 n9 n5 ⟨fun b hb=>?_,fun b hb hD=>?_,ho.low,H.da.imp hin,H.la.imp hin,fun p hp=>(H.dp p hp).imp hin,fun p hp=>(H.lp p hp).imp hin,Z4P (v:=w) hsn.old H.at_⟩ (p2.imp hin) (by show gt.size=21;rw[←f3.1];exact F.sz) g7 g8 g9 g5 hd (.inr (.inl rfl)) (.inr (.inr (.inl rfl))) (.inr (.inr (.inr (.inl rfl)))) (.inr (.inr (.inr (.inr rfl)))) k7 k8 k9 k5 hsn.old hsn.size hsn.os hsn.out
 ·rcases hb with h | rfl | rfl | rfl | rfl
  ·obtain⟨cs0,e0,fz0,h0⟩:=H.blk b h
   exact⟨cs0,e0,fz0,by rw[hsn.old b (Y0.1 h0).1];exact h0⟩
  ·exact⟨_,_,_,k7⟩
  ·exact⟨_,_,_,k8⟩
  ·exact⟨_,_,_,k9⟩
  ·exact⟨_,_,_,k5⟩
 ·rcases hb with h | rfl | rfl | rfl | rfl
  ·exact H.off b h hD
  ·exact ho.names _ _ s7 hD
  ·exact ho.names _ _ s8 hD
  ·exact ho.names _ _ s9 hD
  ·exact ho.names _ _ s5 hD
def matB(x:Vm)(f s:Nat→Int)(k:Nat):Bool:=decide (k<x.L.length)&&matE x f s [((k:Nat):Int)]
theorem ZjX{c7 c8 c9 c5:Nat}{a:Act}(hsz:a.tmps.size=21)(g7:a.tmps[7]?=some (pt c7))(g8:a.tmps[8]?=some (pt c8))(g9:a.tmps[9]?=some (pt c9))(g5:a.tmps[5]?=some (pt c5))(hd:a.defers=[Z2c c7]):
  SOk (mt0 c7 c8 c9 c5).top (mt0 c7 c8 c9 c5).rest ((fF 26).at a [.code tM]) []:=by
 refine⟨⟨rfl,hsz,fun t u e=>?_,rfl,hd,rfl,rfl,rfl⟩,.nil⟩;have e:[(7,pt c7),(8,pt c8),(9,pt c9),(5,pt c5)].lookup t=some u:=e;show a.tmps[t]?=some u;simp only[Yp,List.lookup_nil]at e
 repeat' split at e
 all_goals first | (cases e;done) | (rename_i q;rw[beq_iff_eq]at q;subst q;obtain rfl:=Y1 e;assumption)
theorem ZhY:Tryz.f26.results=#[.tmp 6,.cell 7 30]:=by kernel_rfl
theorem Z93{D: Nat→Prop}{Post:Value→World→Prop}{x:Vm}(hv:VOk x)(H0:VatC D S x w){s: List Int}(hl:RcpOk x l)(hs:Z1z x s){a1 a2:Option Addr}{c1 c2:Nat}(hr:Z7 w (.slice a1 l.length c1) 1 (l.map Z6))(hr':Z7 w (.slice a2 s.length c2) 1 (s.map Z6))(r1:PV S (.slice a1 l.length c1))(r2:PV S (.slice a2 s.length c2)){c:Frame}{cs:List Frame}(ret:∀w' y Mu Wg,UnE (Z0r x.L.length (matB x (val l) (val s))) w w' y Mu Wg→Sure PP Post (fun c=>D c∨c=Mu∨c=Wg) (run1 (c.finish (.tuple #[y,.int .i64 0])) cs) w'):
  Sure PP Post D (run1 (Frame.enter PP 26 #[x.val,.slice a1 l.length c1,.slice a2 s.length c2] .normal) (c::cs)) w:=by
 letI:Jk:=jkM;refine Zf0 (J:=jkM) trivial (fun f=>Iff.rfl) (fun f h=>h) rfl hv H0 hl hs hr hr' r1 r2 fun S a w' c7 c8 c9 c5 H ps hsz g7 g8 g9 g5 hd s7 s8 s9 s5 q7 q8 q9 q5 hold hsz' hos' hout'=>?_;have k0:=ZjX hsz g7 g8 g9 g5 hd;have hrw:Z7 w' (.slice a2 s.length c2) 1 (s.map Z6):=Zdy hold hr';have b7:c7<w'.heap.size:=(Y0.1 q7).1;obtain⟨B,hB⟩:∃B:Value,B = .agg #[.int .i64 x.B,.slice x.da x.D.length x.dc,.slice x.la x.L.length x.lc,.int .i64 x.tol]:=⟨_,rfl⟩;obtain⟨p1,p2,p3,p4,p5⟩:=by simpa only[Y9] using kM1 c7 c8 c9 c5 B
 refine Sure.pn (cs:=c::cs) xokQ 40 (mt0 c7 c8 c9 c5) k0 p1 p2 fun f1 fs1 k1=>?_;obtain rfl:=Z6Z k1.2 p5;refine Sure.agl (s:=mt1 c7 c8 c9 c5) k1 p3 q8 Tryz.underlying85 rfl ZbU (by rw[←hB];exact p4) (H.off _ s8) fun f2 k2=>?_;obtain⟨p1,p2,p3,p4,p5⟩:=by simpa only[Y9] using kM2 c7 c8 c9 c5 B undef
 refine Sure.pn (cs:=c::cs) xokQ 1 _ k2 p1 p2 fun f3 fs3 k3=>?_;obtain rfl:=Z6Z k3.2 p5;refine Sure.cal (s:=mt2 c7 c8 c9 c5 B) k3 p3 ?_;rw[hB];refine Ze4 (x:=x) (S:=S) (ys:=#[pt c8,pt c9,pt c5]) (β:=matB x (val l) (val s)) (c:=f3) hv.l1 hv.l3 (.inl rfl) H.blk H.off H.low H.da H.la ?_ ?_ ?_ ?_
 ·intro y hy
  simp only[Yb,Yc,Ya,or_false]at hy
  rcases hy with rfl | rfl | rfl
  ·exact s8
  ·exact s9
  ·exact s5
 ·intro k hk
  have:¬k<x.L.length:=by omega
  simp[matB,this]
 ·intro w1 v1 hw1 sh k hk
  have hat:x.At v1:=H.shadow hw1 sh;have h8:=@ZbW jkN _ _ _ _ hw1 sh _ s8 _ _ _ q8 (by
   intro y hy;simp only[Yb,Yc,Ya,or_false]at hy
   rcases hy with rfl | rfl | rfl | rfl
   ·trivial
   ·exact H.da
   ·exact H.la
   ·trivial)
  have h9:=@ZbW jkN _ _ _ _ hw1 sh _ s9 _ _ _ q9 (by
   intro y hy;simp only[tubC,Yb,Yc,Ya,or_false]at hy
   rcases hy with rfl | rfl | rfl | rfl<;>trivial)
  have h5:=@ZbW jkN _ _ _ _ hw1 sh _ s5 _ _ _ q5 (by
   intro y hy;obtain rfl:=List.mem_singleton.1 (by simpa using hy);exact ps)
  have hc:=Z7K (μ:=2) x hv k hk (val l) (hl.tub) s hs a2 c2 c8 c9 c5 _ _ _ _ _ _ v1 hat (@Z7f jkN _ _ _ _ hw1 sh _ _ _ _ ps hrw) h8 h9 h5;have hk2:k<x.L.length:=by omega
  have e:matB x (val l) (val s) k=matE x (val l) (val s) [((k:Nat):Int)]:=by
   simp[matB,hk2]
  rw[e];exact hc.mono fun _ _ q=>q.1
 ·intro w3 y Mu Wg U
  obtain⟨_,_,p3',p4',_⟩:=by simpa only[Y9] using kM2 c7 c8 c9 c5 B y
  have k4:=Zh9 k3 p3' p4';obtain⟨p1,p2,p3,p4,p5⟩:=by simpa only[Y9] using kM3 c7 c8 c9 c5 B y
  refine Sure.pn (cs:=c::cs) xokQ 40 _ k4 p1 p2 fun f5 fs5 k5=>?_;obtain rfl:=Z6Z k5.2 p5;have q7':w3.heap[c7]?=some (.cells #[.int .i64 0] 30 (0,0)):=by rw[U.old c7 b7];exact q7
  have hD7:¬(D c7∨c7=Mu∨c7=Wg):=by
   have m1:=U.mu.1;have m2:=U.wg.1;rintro (q | q | q)
   ·exact H.off _ s7 q
   ·omega
   ·omega
  refine Sure.sto (s:=mt3 c7 c8 c9 c5 B y) k5 p3 ZeB rfl rfl ((Z1 q7' 0).trans rfl) (Z9 q7' 0) p4 hD7 fun f6 k6=>?_;have hset:=Zfk (x:=.int .i64 0) q7';obtain⟨w4,hw4⟩:∃w4,w4=w3.setCell ⟨c7,0,none⟩ (.int .i64 0):=⟨_,rfl⟩;have hs4:w4.heap.size=w3.heap.size:=by rw[hw4];simp[World.setCell]
  have ho4:w4.os=w3.os:=by rw[hw4];rfl
  have hu4:w4.output=w3.output:=by rw[hw4];rfl
  rw[←hw4]at hset⊢;obtain⟨p1,p2,p3,p4,p5,p6⟩:=by simpa only[Y9] using kM4 c7 c8 c9 c5 B y
  refine Sure.pn (cs:=c::cs) xokQ 40 _ k6 p1 p2 fun f7 fs7 k7=>?_;obtain⟨g,rfl,hg⟩:=ZhC k7.2 p5;refine Sure.rcv (s:=mt4 c7 c8 c9 c5 B y) k7 p3 (ZfN (k7.1.kind.trans p6) hg) p4 fun f8 k8=>?_;obtain⟨p1,p2,p3,p4,p5,p6,p7,p8,p9⟩:=by simpa only[Y9] using kM5 c7 c8 c9 c5 B y
  refine Sure.pn (cs:=c::cs) xokQ 40 _ k8 p1 p2 fun f9 fs9 k9=>?_;obtain rfl:=Z6Z k9.2 p9;refine Sure.lv2 (a:=(mt5 c7 c8 c9 c5 B y).top) k9.1 p3 p4 p5 (by rw[p6];exact Za8) ZhY p7 p8 Zhi ((Z1 ((hset c7).trans q7') 0).trans rfl) hD7 ?_;exact ret w4 y Mu Wg (ZfP hold hsz' hos' hout' U hset hs4 ho4 hu4)
theorem Z94{D: Nat→Prop}{Post:Value→World→Prop}{x:Vm}(hv:VOk x)(H:VatC D S x w)(hl:l.length≤1000)(he:rcpE x l≠0){a1 a2:Option Addr}{c1 m2 c2:Nat}(hr:Z7 w (.slice a1 l.length c1) 1 (l.map Z6))(p1:PV S (.slice a1 l.length c1))(p2:PV S (.slice a2 m2 c2)){c:Frame}{cs:List Frame}(ret:∀w',(∀b,b<w.heap.size→w'.heap[b]?=w.heap[b]?)→w.heap.size≤w'.heap.size→w'.os=w.os→w'.output=w.output→Sure PP Post D (run1 (c.finish (.tuple #[.slice none 0 0,.int .i64 (rcpE x l)])) cs) w'):
  Sure PP Post D (run1 (Frame.enter PP 26 #[x.val,.slice a1 l.length c1,.slice a2 m2 c2] .normal) (c::cs)) w:=by
 letI:Jk:=jkM;rw[Z7V];refine Z80 (J:=jkM) trivial (fun f=>Iff.rfl) (fun f h=>h) H.blk H.off H.low Zd8 (Za7 H p1 p2) (Za9 (J:=jkM) (fun f=>Iff.rfl) (fun f h=>h) rfl) (Z:=fun v fr u=>fr.leaving (PF PP (Qy.F 1)) u (.returned (.tuple #[.slice none 0 0,.int .i64 (rcpE x l)]))) (fun v hsh T=>?_) fun v f' v' r' g' w' T1 T2 hsh hq hf hw' hi ho hsn=>?_
 ·exact Ziy (P:=Qy.prog 1) Qy.own26 rfl (ZjT x hv l hl he a1 a2 c1 m2 c2 (re v T) (Z4P (v:=v) (v2:=re v T) (fun b _=>rfl) (H.shadow (fun _ _=>rfl) hsh)) (@Z7f jkN _ _ _ _ (fun _ _=>rfl) hsh _ _ _ _ p1 hr) _ Zd7) (fun w' q=>by cases q.1) fun e fr w' q1 q2=>by rw[q2.1]at q1;exact q1
 refine Sure.step rfl fun w1 hl1=>?_;have hw1:WH (Iv PP (Qy.F 1)) r' v' w1:=hw'.of rfl hl1.1 (by rw[hl1.2.1];exact hw'.env);obtain⟨r2,T3,y,w2,ns,e2,hvy,hw2,hk2,hev⟩:=Z3r hf hw1 hq true c cs;have hy:y = .tuple #[.slice none 0 0,.int .i64 (rcpE x l)]:=by
  cases hvy with
  | @tuple _ ys h1 h2 =>
   obtain⟨y1,y2,rfl,g1,g2⟩:=arr2 (R:=VR r2) ⟨h1,h2⟩
   cases g1
   cases g2
   rfl
 subst hy;have ho2:=(ho.like hl1).kept hk2;have h4:Kep r' r2 v' v' w' w2:=Kep.of (v0:=re v' T3) (v':=re v' T3) ⟨rfl,rfl,rfl⟩ hl1 hk2;have h3:Snc w r2 v' w2:=hsn.kep h4;exact⟨_,w2,ns,e2,fun e he=>Z7Y (hev e he) ho2.names,by rw[←hl1.1];exact hk2.sizeW,ret w2 h3.old h3.size h3.os h3.out⟩
end Lift
section
open Go.RowKit Ev
variable{μ:Nat}
def matA(x:Vm)(l s:List Int):List Int:=if rcpE x l=0 then Z0r x.L.length fun k=>matE x (val l) (val s) [((k:Nat):Int)] else[]
theorem ZhZ(x:Vm)(hv:VOk x)(l s:List Int)(hl:RcpOk x l)(hs:Z1z x s)(a1 a2:Option Addr)(c1 c2:Nat)(w:World)(h:x.At w)(hr:Z7 w (.slice a1 l.length c1) 1 (l.map Z6))(hr':Z7 w (.slice a2 s.length c2) 1 (s.map Z6)):
  Calls (Qy.prog 0) 185 #[.agg #[.int .i64 x.B,.slice x.da x.D.length x.dc,.slice x.la x.L.length x.lc,.int .i64 x.tol],.slice a1 l.length c1,.slice a2 s.length c2] w fun e w'=>∃y,e = .returned (.tuple #[y,.int .i64 0])∧IntR w.heap.size w' (Z0r x.L.length fun k=>matE x (val l) (val s) [((k:Nat):Int)]) y∧Ext [] w w':=by
 have E:Ext [] w w:=Ext.refl _ _;have HX:=Lib.hid h;have HV:=Lib.hid hv;have HR:=Lib.hid hr;have HR':=Lib.hid hr';have HL:=Lib.hid hl;have HS:=Lib.hid hs;have hl3:=hv.l3;clear h hv hr hr' hl hs;have G:=(Bk.nil w).ce E;refine(entM 21 Tryz.f26 rfl) fun F=>wR fun k1=>(F.bx G) fun yy F G=>(F.bx G) @fun n5 w2 _ yy F G=>(F.m) fun F=>(F.al G Qy.zeroValue30) @fun n7 w3 _ yy F G=>k1<|wR fun k2=>(F.df) fun F=>k2<|wR fun k3=>(F.y (F.lb (G.q 2))) fun F=>(F.k0 G (Z0u (μ:=0) x HV.out _ (HX.out.ext (G.e 3)))) fun F G=>(F.al G Qy.zeroValue85) @fun n8 w5 _ yy F G=>(F.sr G 0) fun G=>k3<|wQ fun k4=>Yg ?_
 refine(F.y (F.lb (G.q 0))) fun F=>(F.m) fun F=>(F.k (Z2o (μ:=0) x HV.out l HL.out a1 c1 _ (HR.out.ext (G.e 4) (by simp)))) ?_;rintro _ w7 ⟨rfl,e9⟩;refine⟨_,rfl,fun F=>?_⟩;replace G:=G.ex e9;unfold tubC at F;refine(F.al G Qy.zeroValue88) @fun n9 w8 _ yy F G=>(F.sr G 0) fun G=>k4<|wR fun k5=>(F.y (F.lb (G.q 1))) fun F=>(F.y (F.lc (G.q 3))) fun F=>(F.k0 G (Z2q (μ:=0) x HV.out s HS.out a2 c2 _ (HR'.out.ext (G.e 5) (by simp)))) @fun w10 _ F G=>k5<|wR fun k6=>(F.y (F.lb (G.q 1))) fun F=>(F.y F.mf) fun F=>?_
 obtain⟨B0,hB0⟩:∃B0,B0=w10.heap.size:=⟨_,rfl⟩;have hb7:n7<B0:=by rw[hB0];exact Z3 (G.q 2)
 have hEs:w.heap.size≤B0:=by rw[hB0];exact(G.e 5).size
 have hask:∀k,k<x.L.length→∀W,Ext [] w10 W→Calls (Qy.prog 0) 79 (#[]++[.int .i64 ((k:Nat):Int)].toArray++#[.pointer (some ⟨n8,0,none⟩),.pointer (some ⟨n9,0,none⟩),.pointer (some ⟨n5,0,none⟩)]) W fun e w'=>e = .returned (.bool (matE x (val l) (val s) [((k:Nat):Int)]))∧Ext [] W w':=fun k hk W eW=>Z7K (μ:=0) x HV.out k hk (val l) HL.out.tub s HS.out a2 c2 n8 n9 n5 _ _ _ _ _ _ W ((HX.out.ext (G.e 5)).ext eW) ((HR'.out.ext (G.e 5) (by simp)).ext eW (by simp)) (eW.keep0 (G.q 1)) (eW.keep0 (G.q 0)) (eW.keep0 (G.q 3));refine(F.k (ZfR x hl3 79 #[.pointer (some ⟨n8,0,none⟩),.pointer (some ⟨n9,0,none⟩),.pointer (some ⟨n5,0,none⟩)] (fun k=>matE x (val l) (val s) [((k:Nat):Int)]) Qy.call79 _ hask)) ?_;rintro _ w11 ⟨y,rfl,hI,e9⟩;refine⟨_,rfl,fun F=>?_⟩;replace G:=G.ex e9;clear hask;rw[←hB0]at hI;replace G:=G.hr [n7];refine(F.m) fun F=>(F.st G 3) fun G=>k6<|wp_ret ?_
 (try simp only[Exit.inBlock,Exit.then,reduceIte])
 refine Z4f F<|ZZ<|Z1l (Z5D F rfl rfl rfl Qy.underlying30 rfl (G.q 3)) ?_
 exact⟨y,rfl,Z9X hI (G.e 0) (by simp;omega) hEs,(G.e 6)⟩
theorem Zf2(x:Vm)(hv:VOk x)(l:List Int)(hl:l.length≤1000)(he:rcpE x l≠0)(a1 a2:Option Addr)(c1 m2 c2:Nat)(w:World)(h:x.At w)(hr:Z7 w (.slice a1 l.length c1) 1 (l.map Z6)):
  Calls (Qy.prog 0) 185 #[.agg #[.int .i64 x.B,.slice x.da x.D.length x.dc,.slice x.la x.L.length x.lc,.int .i64 x.tol],.slice a1 l.length c1,.slice a2 m2 c2] w fun e w'=>e = .returned (.tuple #[.slice none 0 0,.int .i64 (rcpE x l)])∧Ext [] w w':=by
 have E:Ext [] w w:=Ext.refl _ _;have HX:=Lib.hid h;have HV:=Lib.hid hv;have HR:=Lib.hid hr;clear h hv hr;obtain⟨er,her⟩:∃er,er=rcpE x l:=⟨_,rfl⟩;refine Z2D 21 Qy.func185 rfl Tryz.ntmps26 (Nat.le_of_ble_eq_true rfl) ?_;intro fa F;refine wS fun K1 hK1=>?_;refine Yg ?_;refine sqN F (Z1Q rfl (F.at rfl)) fun fa w1 F hw=>?_;obtain⟨n3,hn⟩:=eQ w.heap.size;rw[←hn]at F;have s3:=sQ hn;have l3_E:=lQ hn E.size;replace E:=Z5 E hw;have q3:=ZD hw hn;clear hw hn;refine sqN F (Z1Q rfl (F.at rfl)) fun fa w2 F hw=>?_;obtain⟨n5,hn⟩:=eQ w1.heap.size;rw[←hn]at F;have s5:=sQ hn;have l5_E:=lQ hn E.size;have m5_3:=tQ hn (Z3 q3);replace q3:=Z0 hw q3;replace E:=Z5 E hw;have q5:=Z0h hw rfl hn;clear hw hn;refine F.vl (Zx rfl (ev_c fa _)) fun fa F=>?_;refine sqN F (ZE rfl Qy.zeroValue30) fun fa w3 F hw=>?_;obtain⟨n7,hn⟩:=eQ w2.heap.size;rw[←hn]at F;have s7:=sQ hn;have l7_E:=lQ hn E.size;have m7_3:=tQ hn (Z3 q3);have m7_5:=tQ hn (Z3 q5);replace q3:=Z0 hw q3;replace q5:=Z0 hw q5;replace E:=Z5 E hw;have q7:=Z0h hw rfl hn;clear hw hn;refine wN<|hK1 _ _<|wS fun K2 hK2=>?_
 refine Yg ?_;refine Z4A F rfl rfl (Z6l rfl rfl (mpS (F.at rfl) mp0)) fun fa F=>?_;refine wN<|hK2 _ _<|wS fun K3 hK3=>?_
 refine Yg ?_;refine F.vl (Zc rfl (F.at rfl) Qy.underlying27 rfl (by kernel_rfl) q3) fun fa F=>?_;refine sqC F (Zy rfl rfl Qy.call64 (mpS (F.at rfl) mp0)) (Z0u (μ:=0) x HV.out _ (HX.out.ext E)) fun e w4 hR=>?_;obtain⟨rfl,e9⟩:=hR;refine⟨_,rfl,fun fa F=>?_⟩;replace q3:=(e9).keep0 q3;replace q5:=(e9).keep0 q5;replace q7:=(e9).keep0 q7;replace E:=Zb E (e9);clear e9;refine sqN F (ZE rfl Qy.zeroValue85) fun fa w5 F hw=>?_;obtain⟨n8,hn⟩:=eQ w4.heap.size;rw[←hn]at F;have s8:=sQ hn;have l8_E:=lQ hn E.size;have m8_3:=tQ hn (Z3 q3);have m8_5:=tQ hn (Z3 q5);have m8_7:=tQ hn (Z3 q7);replace q3:=Z0 hw q3;replace q5:=Z0 hw q5;replace q7:=Z0 hw q7;replace E:=Z5 E hw;have q8:=ZD hw hn;clear hw hn;refine Z0N rfl rfl (Z01 rfl (F.at rfl) (F.at rfl) (by kernel_rfl) (by first | (simp[Value.oneCell'];done) | (simp[Value.oneCell',id];done)) q8 rfl) ?_;intro w6 hw;replace q3:=kcs hw q3;replace q5:=kcs hw q5;replace q7:=kcs hw q7;replace q8:=Z14 hw q8 rfl;replace E:=ecs E hw;clear hw;refine wN<|hK3 _ _<|wS fun K4 hK4=>?_
 refine Yg ?_;refine F.vl (Zc rfl (F.at rfl) Qy.underlying85 rfl (by kernel_rfl) q8) fun fa F=>?_;refine F.mv fun fa F=>?_;refine Z7k rfl (Zy rfl rfl Qy.call65 (mpS (F.at rfl) (mpS (F.at rfl) mp0))) ((Z64 (μ:=0) x HV.out l hl he a1 c1 _ (HR.out.ext E (by simp)))) fun e w7 hR=>?_;obtain⟨rfl,e9⟩:=hR;refine⟨_,rfl,?_⟩;replace q3:=(e9).keep0 q3;replace q5:=(e9).keep0 q5;replace q7:=(e9).keep0 q7;replace q8:=(e9).keep0 q8;replace E:=Zb E (e9)
 (try simp only[Exit.inBlock,Exit.then,Exit.jump,reduceIte])
 refine Zkd F ?_;refine Zd3 q7 fun w8 hw=>?_;replace q3:=kce hw q3;replace q5:=kce hw q5;replace q7:=Zz hw q7 (by simp only[List.setIfInBounds_toArray,lsQ,lzQ];exact rfl);replace q8:=kce hw q8;replace E:=ece E hw;clear hw;refine Z1l (Z5D F rfl rfl rfl Qy.underlying30 rfl q7) ?_;exact⟨rfl,E⟩
theorem Qy.ntmps188:Qy.f188.ntmps=13:=rfl
theorem ZdW(y0 y1 y2:Value)(w:World)(hb:∀d,7<(Question.appendCap 7 0 3).cut (w.tape d (.appendCap 7 0 3))):Calls (Qy.prog 0) 26 #[y0,y1,y2] w fun e w'=>e = .panicked [bunV 26 #[y0,y1,y2]]∧Ext [] w w':=by
 have E:Ext [] w w:=Ext.refl _ _;refine ZQ 13 Qy.func26 rfl Qy.ntmps188 (Nat.le_of_ble_eq_true rfl) ?_;intro fa F;refine wS fun K1 hK1=>?_;refine Yg ?_;refine sqN F (ZM rfl pr0 Qy.underlying22 (size:=1) (by kernel_rfl) (by decide) (by decide) Qy.zeroValue3 (cells:=#[.int .i64 0,.int .i64 0,.int .i64 0,.int .i64 0,.int .i64 0,.int .i64 0,.int .i64 0]) (by kernel_rfl)) fun fa w1 F hw=>?_;obtain⟨n3,hn⟩:=eQ w.heap.size;rw[←hn]at F;have s3:=sQ hn;have l3_E:=lQ hn E.size;replace E:=Z5 E hw;have q3:=ZT hw hn;clear hw hn;have htp:=E.tape;refine ZK F rfl (by decide) rfl (ZbG rfl Qy.underlying22 (by kernel_rfl) (F.at rfl) q3 (by decide) (by decide) (by decide)) ?_;clear F fa;rintro fa v' w2 F ⟨⟨b4,K,rfl,d4,hK⟩,e9⟩;replace q3:=(e9).keep0 q3;replace E:=Zb E (e9);rw[htp]at hK;have hb1:=hb d4;rw[←hK]at hb1;refine F.vl ((ZiU rfl (F.at rfl) Qy.underlying22)) fun fa F=>?_;refine F.vl (ZbL (b:=true) rfl (ev_c fa _) (F.at rfl) (decide_eq_true ((by omega)))) fun fa F=>?_;refine wN<|hK1 _ _<|wS fun K2 hK2=>?_
 refine cd_T F rfl ?_;refine Yg ?_;refine F.vl (Z2z rfl (Z52 (mpS (F.at rfl) (mpS (F.at rfl) (mpS (F.at rfl) mp0)))) (Z52 mp0)) fun fa F=>?_;refine F.vl ((Z5H rfl (F.at rfl) ZkC (by intro m e;cases e))) fun fa F=>?_;refine Z2K rfl (Z3M rfl (F.at rfl)) ?_
 (try simp only[Exit.inBlock,Exit.then,Exit.jump,reduceIte])
 refine⟨F.ds,?_⟩;exact⟨rfl,E⟩
theorem Z3J(x:Vm)(hv:VOk x)(l s:List Int)(hll:l.length≤1000)(hs:Z1z x s)(a1 a2:Option Addr)(c1 c2:Nat)(w:World)(h:x.At w)(hr:Z7 w (.slice a1 l.length c1) 1 (l.map Z6))(hr':Z7 w (.slice a2 s.length c2) 1 (s.map Z6)):
  Calls (Qy.prog 0) 26 #[.agg #[.int .i64 x.B,.slice x.da x.D.length x.dc,.slice x.la x.L.length x.lc,.int .i64 x.tol],.slice a1 l.length c1,.slice a2 s.length c2] w fun e w' =>
   ((e = .panicked [bunV 26 #[.agg #[.int .i64 x.B,.slice x.da x.D.length x.dc,.slice x.la x.L.length x.lc,.int .i64 x.tol],.slice a1 l.length c1,.slice a2 s.length c2]]∧∃d,7<(Question.appendCap 7 0 3).cut (w.tape d (.appendCap 7 0 3)))∧Ext [] w w') ∨
   ∃y,e = .returned (.tuple #[y,.int .i64 (rcpE x l)])∧IntR w.heap.size w' (matA x l s) y∧ZbD w y∧Ext [] w w':=by
 have E:Ext [] w w:=Ext.refl _ _;have hseq:∀W,Ext [] w W→Calls (Qy.prog 0) 185 #[.agg #[.int .i64 x.B,.slice x.da x.D.length x.dc,.slice x.la x.L.length x.lc,.int .i64 x.tol],.slice a1 l.length c1,.slice a2 s.length c2] W fun e w'=>∃y,e = .returned (.tuple #[y,.int .i64 (rcpE x l)])∧IntR W.heap.size w' (matA x l s) y∧Ext [] W w':=by
  intro W eW;unfold matA
  by_cases he:rcpE x l=0
  ·rw[if_pos he,he]
   exact ZhZ x hv l s (Z2J.1 he) hs a1 a2 c1 c2 W (h.ext eW) (hr.ext eW (by simp)) (hr'.ext eW (by simp))
  ·rw[if_neg he]
   exact(Zf2 x hv l hll he a1 a2 c1 s.length c2 W (h.ext eW) (hr.ext eW (by simp))).mono fun e w' q=>⟨_,q.1,.inl ⟨rfl,rfl⟩,q.2⟩
 have hml:(matA x l s).length≤1000:=by
  unfold matA
  split
  ·have:=List.length_filter_le (fun k:Nat=>matE x (val l) (val s) [(k:Int)]) (List.range x.L.length)
   have hl3:=hv.l3;simp only[Z0r,Yj];simp only[List.length_range]at this;omega
  ·simp
 have HQ:=Lib.hid hseq;clear h hv hr hr' hs hseq;refine ZQ 13 Qy.func26 rfl Qy.ntmps188 (Nat.le_of_ble_eq_true rfl) ?_;intro fa F;refine wS fun K1 hK1=>?_;refine Yg ?_;refine sqN F (ZM rfl pr0 Qy.underlying22 (size:=1) (by kernel_rfl) (by decide) (by decide) Qy.zeroValue3 (cells:=#[.int .i64 0,.int .i64 0,.int .i64 0,.int .i64 0,.int .i64 0,.int .i64 0,.int .i64 0]) (by kernel_rfl)) fun fa w1 F hw=>?_;obtain⟨n3,hn⟩:=eQ w.heap.size;rw[←hn]at F;have s3:=sQ hn;have l3_E:=lQ hn E.size;replace E:=Z5 E hw;have q3:=ZT hw hn;clear hw hn;have htp:=E.tape;refine ZK F rfl (by decide) rfl (ZbG rfl Qy.underlying22 (by kernel_rfl) (F.at rfl) q3 (by decide) (by decide) (by decide)) ?_;clear F fa;rintro fa v' w2 F ⟨⟨b4,K,rfl,d4,hK⟩,e9⟩;replace q3:=(e9).keep0 q3;replace E:=Zb E (e9);rw[htp]at hK;refine F.vl ((ZiU rfl (F.at rfl) Qy.underlying22)) fun fa F=>?_;refine F.vl (Z5z rfl (ev_c fa _) (F.at rfl)) fun fa F=>?_;refine wN<|hK1 _ _<|wS fun K2 hK2=>?_
 refine Z7N F rfl (fun hc6=>?_) (fun hc6=>?_)
 ·skip
  refine Yg ?_;refine F.vl (Z2z rfl (Z52 (mpS (F.at rfl) (mpS (F.at rfl) (mpS (F.at rfl) mp0)))) (Z52 mp0)) fun fa F=>?_;refine F.vl ((Z5H rfl (F.at rfl) ZkC (by intro m e;cases e))) fun fa F=>?_;refine Z2K rfl (Z3M rfl (F.at rfl)) ?_
  (try simp only[Exit.inBlock,Exit.then,Exit.jump,reduceIte])
  refine⟨F.ds,?_⟩;exact .inl ⟨⟨rfl,d4,by rw[←hK];exact Int.ofNat_lt.1 (by simpa using hc6)⟩,E⟩
 ·skip
  refine Yi ?_;refine hK2 _ _<|wS fun K3 hK3=>?_
  refine Yg ?_;refine sqC F (Zy rfl rfl Qy.call185 (mpS (F.at rfl) (mpS (F.at rfl) (mpS (F.at rfl) mp0)))) (HQ.out _ E) fun e w3 hR=>?_;obtain⟨y,rfl,hI,e9⟩:=hR;refine⟨_,rfl,fun fa F=>?_⟩;replace q3:=(e9).keep0 q3;replace E:=Zb E (e9);clear e9;refine F.vl (Z4F rfl (F.at rfl) (get0)) fun fa F=>?_;refine F.vl (Z4F rfl (F.at rfl) (getS (get0))) fun fa F=>?_;have hEs:=E.size;have htp:=E.tape;refine ZK F rfl (by decide) rfl (Zed rfl Qy.underlying22 (by kernel_rfl) (F.at rfl) hI hml) ?_;clear F fa;rintro fa v' w4 F ⟨hI2,e9,hC⟩;replace q3:=(e9).keep0 q3;replace E:=Zb E (e9);refine wN<|hK3 _ _ ?_
  refine wp_ret ?_
  (try simp only[Exit.inBlock,Exit.then,reduceIte])
  refine rt_v F (rs_2 F rfl rfl rfl) ?_;exact .inr ⟨_,rfl,Z9X hI2 (Ext.refl [] _) (by simp) (by omega),(by unfold ZbD at hC⊢;rw[htp]at hC;exact hC),E⟩
end
end Go.Proofs.YtfelljbfeoplhaaGreat
