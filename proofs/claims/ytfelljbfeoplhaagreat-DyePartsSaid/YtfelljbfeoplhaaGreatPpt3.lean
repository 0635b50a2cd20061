/- Parts of a proof: Gsr, Gsl, Gcl, Gco, Ja, Jb, Jc, Ck, Je, Qs, Ux. No conditions. -/
import Derived.Conc.Beside
import Derived.Test.YtfelljbfeoplhaaGreatPpt1
import Derived.Test.YtfelljbfeoplhaaGreatPpt2
set_option linter.unusedVariables false
set_option linter.unusedSimpArgs false
set_option linter.unusedSectionVars false
set_option maxRecDepth 100000
set_option maxHeartbeats 4000000
namespace Go.Proofs.YtfelljbfeoplhaaGreat
variable{gs:Array Go.Goroutine}{q:Nat->Nat}{xs ys:Array Go.Value}{x:Go.Value}{fr g:Go.Frame}{α:Type}{t:Go.TypeId}{k:Nat}
namespace Lift
open Go Go.Conc
open Go.ConcN (sumTo upd sumTo_upd upd_ne upd_same)
variable[Jk]
def Dk(D:Nat->Prop):Go.Loc->Prop:=λl=>(∃a,l = .cell a/\D a.block)\/∃c,l = .obj c/\D c
def Run(P:Program)(Post:Value->World->Prop)(m:Machine)(t:Trace):Prop:=
 ∃N last o w' t',runNT P (N+1) m t=(.ended o w',t')/\runN P N m = .next last/\step P last = .ended o w'/\Conc.Good P Post last o w' t'
def Like(w w1:World):Prop:=w1.heap=w.heap/\w1.os=w.os/\w1.output=w.output
theorem Like.refl(w:World):Like w w:=⟨rfl,rfl,rfl⟩
theorem Like.trans{a b c:World}(h:Like a b)(k:Like b c):Like a c:=⟨k.1.trans h.1,k.2.1.trans h.2.1,k.2.2.trans h.2.2⟩
theorem Like.at{a b:World}(h:Like a b)(d:Nat): Like a (b.at d):=⟨h.1,h.2.1,h.2.2⟩
section
variable{P:Program}{Post:Value->World->Prop}{D:Nat->Prop}{m m':Machine}{t:Trace}{ops:Array MemOp}{g:Goroutine}{w w':World}
theorem Run.next(h:stepT P m=(.next m',ops))(k:Run P Post m' (t++ops)):Run P Post m t:=by
 obtain⟨n,last,o,w,t',h1,h2,h3,h4⟩:=k;exact⟨n+1,last,o,w,t',by rw[runNT_succ_next h];exact h1,by rw[runN_succ_next h];exact h2,h3,h4⟩
theorem Run.end{o:Outcome}{w:World}(h:stepT P m=(.ended o w,ops))(k:Conc.Good P Post m o w (t++ops)): Run P Post m t:=
 ⟨0,m,o,w,t++ops,by simp[runNT,h],rfl,by simp[step,h],k⟩
def Sure(P:Program)(Post:Value->World->Prop)(D:Nat->Prop)(g:Goroutine)(w:World):Prop:=
 ∀w1,Like w w1->∀(gs:Array Goroutine) sl t q,gs[0]?=some g->Leavers P t gs q->Past (Dk D) w.heap.size t->Run P Post (crowd gs w1 sl) t
theorem Sure.like(h:Sure P Post D g w)(k:Like w w'):Sure P Post D g w':=λw1 hw gs sl t q h0 hL hP=>h w1 (k.trans hw) gs sl t q h0 hL (k.1▸hP)
theorem Z4i(h0:gs[0]?=some g)(hr:g.status = .running)(hL:Leavers P t gs q): ∀x∈gs,awake x:=by
 intro x hx;obtain⟨i,hi,rfl⟩:=Array.mem_iff_getElem.1 hx
 rcases Nat.eq_zero_or_pos i with rfl | hpos
 ·have:gs[0]=g:=by simpa[Y2 hi] using h0
  rw[this];exact awake_of (.inl hr)
 ·exact awake_of ((hL.old i _ hpos (Y2 hi)).status.elim .inl λx=>.inr (.inr x))
theorem Sure.moves(hr:g.status = .running)
  (hm:∀w1,Like w w1->∀(gs:Array Goroutine) sl t q,gs[0]?=some g->Leavers P t gs q->Past (Dk D) w.heap.size t->∀m0,stepT P m0=runT P (crowd gs w1 sl) 0->Run P Post m0 t):Sure P Post D g w:=by
 have key:∀(M:Nat) w1,Like w w1->∀(gs:Array Goroutine) sl t q,sumTo gs.size q<M->gs[0]?=some g->Leavers P t gs q->Past (Dk D) w.heap.size t->Run P Post (crowd gs w1 sl) t:=by
  intro M
  induction M with
  | zero=>exact λw1 hw gs sl t q hM=>absurd hM (Nat.not_lt_zero _)
  | succ M ih =>
   intro w1 hw gs sl t q hM h0 hL hP;obtain⟨i,x,d,sl',hi,hx,hst⟩:=crowd_pick (P:=P) (w:=w1) (sl:=sl) (Z4i h0 hr hL) ⟨0,g,h0,hr⟩
   rcases Nat.eq_zero_or_pos i with rfl | hpos
   ·exact hm (w1.at d) (hw.at d) gs sl' t q h0 hL hP _ hst
   ·have hq:=hL.old i x hpos hi
    have hi0:(i==0)=false:=by simp;omega
    have hlt:i<gs.size:=(Y0.1 hi).1
    cases hqi:q i with
    | zero=>rw[hqi]at hq;rw[hq.1]at hx;cases hx
    | succ k =>
     rw[hqi]at hq
     rcases hq with⟨hf,_⟩ | ⟨_,x',es,hmu,hstp,hq'⟩
     ·rw[hf]at hx;cases hx
     have hrunT:=runT_crowd_go (P:=P) (sl:=sl') (i:=i) hi (by rw[hi0];exact hstp (w1.at d));have hsz:((gs.map (woken P x x' (w1.at d))).setIfInBounds i x').size=gs.size:=by simp
     have hsum:sumTo gs.size (upd q i k)+(k+1)=sumTo gs.size q+k:=by
      have:=sumTo_upd q k id hlt;simpa[hqi] using this
     have hne:i≠0:=by omega
     refine Run.next (hst.trans hrunT) (ih (w1.at d) (hw.at d) _ sl' _ (upd q i k) (by rw[hsz];omega) ?_ ⟨λj y hj hy=>?_,λj hj=>?_⟩ (hP.mute hne hmu))
     ·rw[Yq hne,Array.getElem?_map,h0]
      simp[woken_run hr]
     ·by_cases hji:i=j
      ·subst hji
       rw[Array.getElem?_setIfInBounds_self_of_lt (by simpa using hlt)]at hy;obtain rfl:=Y1 hy;rw[upd_same,Deaf_own];exact hq'
      ·rw[Yq hji,Array.getElem?_map]at hy
       obtain⟨z,hz,rfl⟩:=Y3.1 hy;have hqj:=hL.old j z hj hz;rw[woken_quitsD hqj,upd_ne q k (Ne.symm hji),Deaf_other t hji _ (λop hop=>by obtain⟨e,_,rfl⟩:=Go.Conc.mem_ofEvents hop;rfl)];exact hqj
     ·rw[Deaf_other t (g':=i) (by simp at hj;omega) _ (λop hop=>by obtain⟨e,_,rfl⟩:=Go.Conc.mem_ofEvents hop;rfl)]
      exact hL.above j (by simpa using hj)
 exact λw1 hw gs sl t q h0 hL hP=>key _ w1 hw gs sl t q (Nat.lt_succ_self _) h0 hL hP
theorem Z35{g':Goroutine}{fn:FuncId}{pos:String}{es:Array Event}{w1:World}(hlt:0<gs.size)(hL:Leavers P t gs q):
  Leavers P (t++MemOp.ofEvents 0 fn pos es) ((gs.map (woken P g g' w1)).setIfInBounds 0 g') q:=
 ⟨λj x hj hx=>by
  have hne:0≠j:=by omega
  rw[Yq hne,Array.getElem?_map]at hx;obtain⟨y,hy,rfl⟩:=Y3.1 hx;have hq:=hL.old j y hj hy;rw[woken_quitsD hq,Deaf_other t (by omega) _ (λop hop=>by obtain⟨e,_,rfl⟩:=Go.Conc.mem_ofEvents hop;rfl)];exact hq,λj hj=>by
  rw[Deaf_other t (g':=0) (by simp at hj;omega) _ (λop hop=>by obtain⟨e,_,rfl⟩:=Go.Conc.mem_ofEvents hop;rfl)];exact hL.above j (by simpa using hj)⟩
theorem Sure.step(hr:g.status = .running)
  (h:∀w1,Like w w1->∃g' w' es,stepG P true g w1 = .go g' w' es/\(∀e∈es,EvL (Dk D) w'.heap.size e)/\w.heap.size<=w'.heap.size/\Sure P Post D g' w'):Sure P Post D g w:=by
 refine Sure.moves hr λw1 hw gs sl t q h0 hL hP m0 hm=>?_;obtain⟨g',w',es,hst,he,hsz,hs⟩:=h w1 hw;have hrunT:=runT_crowd_go (P:=P) (sl:=sl) (i:=0) h0 (show stepG P (0==0) g w1=_ from hst);have hlt:0<gs.size:=(Y0.1 h0).1;exact Run.next (hm.trans hrunT) (hs w' (Like.refl _) _ sl _ q (by simp[hlt]) (Z35 hlt hL) ((hP.mono hsz).own he))
end
end Lift
namespace Lift
open Go Go.Conc
variable[Jk]
def Kep(r r':Ren)(v v' w w':World):Prop:=Kept r r' v {v' with tape:=v.tape,drawn:=v.drawn} w {w' with tape:=w.tape,drawn:=w.drawn}
theorem Kep.of{r r':Ren}{v v0 v' w w0 w':World}(hv:Like v v0)(hw:Like w w0)(k:Kept r r' v0 v' w0 w'): Kep r r' v v' w w':=by
 obtain⟨a1,a2,a3,a4,a5⟩:=v0;obtain⟨b1,b2,b3,b4,b5⟩:=w0;obtain⟨h1,h2,h5⟩:=hv;obtain⟨h3,h4,h6⟩:=hw;dsimp only at h1 h2 h3 h4 h5 h6;subst h1 h2 h3 h4 h5 h6;exact⟨k.le,rfl,rfl,⟨0,rfl,rfl⟩,k.os,k.sizeV,k.sizeW,k.far,k.new,k.shut,k.cells,k.farV,k.shutW,k.par,k.out⟩
theorem Kep.refl(r:Ren)(v w:World):Kep r r v v w w:=Kep.of (Like.refl _) (Like.refl _) (Kept.refl r v w)
theorem Kep.trans{r r' r'':Ren}{v v' v'' w w' w'':World}(h:Kep r r' v v' w w')(k:Kep r' r'' v' v'' w' w''):Kep r r'' v v'' w w'':=by
 have k2:Kept r' r'' {v' with tape:=v.tape,drawn:=v.drawn} {v'' with tape:=v.tape,drawn:=v.drawn} {w' with tape:=w.tape,drawn:=w.drawn} {w'' with tape:=w.tape,drawn:=w.drawn}:=
  ⟨k.le,rfl,rfl,⟨0,rfl,rfl⟩,k.os,k.sizeV,k.sizeW,k.far,k.new,k.shut,k.cells,k.farV,k.shutW,k.par,k.out⟩
 exact Kept.trans h k2
section
variable{P:Program}{F:Array Func}{G:FuncId->Prop}{Post:Value->World->Prop}{D:Nat->Prop}{r r':Ren}{v v' w w':World}
structure Off(D:Nat->Prop)(r:Ren)(w:World):Prop where
 names:∀b c,r b=some c->¬D c
 low:∀c,D c->c<w.heap.size
theorem Off.kept(h:Off D r w)(k:Kept r r' v v' w w'):Off D r' w':=
 ⟨λb c hb hd=>by
  rcases k.new b c hb with q | ⟨_,q⟩
  ·exact h.names b c q hd
  ·have:=h.low c hd
   omega,λc hd=>Y8 (h.low c hd) k.sizeW⟩
theorem Off.like(h:Off D r w)(k:Like w w'):Off D r w':=⟨h.names,λc hd=>by rw[k.1];exact h.low c hd⟩
theorem Z63{e:Event}(h:EvG r v w e)(ho:∀b c,r b=some c->¬D c):EvL (Dk D) w.heap.size e:=by
 rcases h with⟨a,wr,b,rfl,hb,hl,_⟩ | ⟨c,wr,b,rfl,hb,hl,_⟩ | rfl | rfl
 ·refine⟨λx hx hs=>?_,by simp,by simp,hl⟩
  simp only[MemAct.ofEvent,MemAct.touch?,Y4]at hx;subst hx
  rcases hs with⟨a',e,hd⟩ | ⟨c,e,_⟩
  ·simp only[Go.Loc.cell.injEq]at e
   subst e;exact absurd hd (ho _ _ hb)
  ·cases e
 ·have e0:MemAct.ofEvent ⟨.obj c,wr,false⟩ = .access ⟨.obj c,wr,false⟩:=by cases wr<;>rfl
  refine⟨λx hx hs=>?_,by simp,by simp,by rw[e0];exact hl⟩;rw[e0]at hx;simp only[MemAct.touch?,Y4]at hx;subst hx
  rcases hs with⟨a',e,_⟩ | ⟨c',e,hd⟩
  ·cases e
  ·simp only[Go.Loc.obj.injEq]at e
   subst e;exact absurd hd (ho _ _ hb)
 ·exact⟨λx hx hs=>by simp[MemAct.ofEvent,MemAct.touch?]at hx,by simp,by simp,trivial⟩
 ·refine⟨λx hx hs=>?_,by simp,by simp,trivial⟩
  simp only[MemAct.ofEvent,MemAct.touch?,Y4]at hx;subst hx
  rcases hs with⟨a',e,_⟩ | ⟨c',e,_⟩<;>cases e
theorem Sure.lone(S:Strip P F (CodeOk P false) G)(hg:GOk P F G)(hrec:Rec P){Stop:List Frame->World->Prop}(hP:∀x u,¬Stop [x] u){cs:List Frame}{V:List Frame}(hE:Ends (PF P F) Stop V v):
  ∀{f A g B r w},V=f::(A++[poison])->Stk P F r (f::A) (g::B)->WH (Iv P F) r v w->Off D r w ->
   (∀f' A' g' B' r' v' w',Stop (f'::(A'++[poison])) v'->Stk P F r' (f'::A') (g'::B')->WH (Iv P F) r' v' w'->Kep r r' v v' w w'->Sure P Post D (run1 g' (B'++cs)) w')->Sure P Post D (run1 g (B++cs)) w:=by
 induction hE with
 | @stop V v h =>
  intro f A g B r w hV hs hw ho fin;subst hV;exact fin _ _ _ _ _ _ _ h hs hw (Kep.refl _ _ _)
 | @step f K v ok h ih =>
  intro f0 A g B r w hV hs hw ho fin;simp only[List.cons.injEq]at hV;obtain⟨rfl,rfl⟩:=hV;refine Sure.step rfl λw1 hl=>?_;have hw1:WH (Iv P F) r v w1:=hw.of rfl hl.1 (by rw[hl.2.1];exact hw.env);obtain⟨τ,f',K',v',es,e,hc⟩:=Z5E S hg hrec.1 hs hw1 (λq=>hrec.2 _ q.1) ok true cs
  rcases hc with⟨rfl,hx⟩ | ⟨A',g',B',r',w',ns,rfl,e2,hs',hw',hk,he⟩
  ·exact absurd (h τ _ _ _ _ e) (Z0A hP hx)
  ·have hk2:Kep r r' v v' w w':=Kep.of (v0:=re v τ) ⟨rfl,rfl,rfl⟩ hl hk
   refine⟨_,w',ns,e2,λx hx=>Z63 (he x hx) ((ho.like hl).kept hk).names,by rw[<-hl.1];exact hk.sizeW,?_⟩;exact ih τ _ _ _ _ e rfl hs' hw'.h ((ho.like hl).kept hk) λf2 A2 g2 B2 r2 v2 w2 h1 h2 h3 h4=>fin f2 A2 g2 B2 r2 v2 w2 h1 h2 h3 (hk2.trans h4)
end
end Lift
namespace Lift
open Go Go.Conc
variable[Jk]
section
variable{P:Program}{F:Array Func}{G:FuncId->Prop}{Post:Value->World->Prop}{D:Nat->Prop}{r r':Ren}{v v' w w':World}
theorem WH.some(h:WH (Iv P F) r v w)(T:Nat->Question->Nat):∃σ,WR (Iv P F) r (re v T) (re w σ):=by
 obtain⟨T',h'⟩:=h.tape;obtain⟨σ,h2⟩:=h'.retape T;exact⟨σ,h2⟩
theorem Z4q{fn:Func}(ht:VRs r xs ys)(hw:WH (Iv P F) r v w){T:Nat->Question->Nat}(h:(results fn xs).run (PF P F) (re v T) = .ok x (re v T))(T':Nat->Question->Nat):
  (results fn xs).run (PF P F) (re v T') = .ok x (re v T'):=by
 obtain⟨σ,h1⟩:=hw.some T;have:=(Z22 (P:=P) (F:=F) (fn:=fn) ht).local (re v T) _ h1 (re v T) (.inl ⟨x,h⟩) T' (λi q a b=>absurd b (Nat.not_lt.2 a)) #[];have e:=congrArg Prod.fst this;simp only[Yf]at e;rw[h]at e;exact e
theorem Z2z(hf:FrR P F r fr g)(hw:WH (Iv P F) r v w){T:Nat->Question->Nat}(hl:fr.leaving (PF P F) (re v T) (.returned x))(m:Bool)(c:Frame)(cs:List Frame):
  ∃r' T' y w' ns,stepG P m (run1 g (c::cs)) w = .go (run1 (c.finish y) cs) w' ns/\VR r' x y/\WR (Iv P F) r' (re v T') w'/\Kept r r' (re v T') (re v T') w w'/\∀e∈ns,EvG r' (re v T') w' e:=by
 obtain⟨hm,hd,hk,fn,hfn,hr⟩:=hl;obtain⟨T',hw'⟩:=hw.tape;have hr':=Z4q hf.tmps hw hr T';have o:=(Z22 (P:=P) (F:=F) (fn:=fn) hf.tmps).sim (re v T') w hw' #[];rw[hr']at o;obtain⟨r',y,w',ns,e,hw2,hn,hkk,he⟩:=o;have gm:g.mode = .returning:=by
  have:=hf.mode;rw[hm]at this;generalize g.mode=z at this⊢
  cases this
  rfl
 have gd:g.defers=[]:=by
  have:=hf.defers.1;rw[hd]at this;generalize g.defers=z at this⊢
  cases this
  rfl
 have gk:g.kind = .normal:=hf.kind.1▸hk;have gf:P.funcs[g.fn]?=some fn:=by rw[<-hf.fn,<-hf.own];exact hfn
 have e1:(results fn g.tmps).run P w = .ok y w':=by
  have:=congrArg Prod.fst e;simpa only[Yf] using this
 have e2:(results fn g.tmps).events P w #[]=#[]++ns:=by
  have:=congrArg Prod.snd e;simpa only[Yf] using this
 refine⟨r',T',y,w',seen P g.fn ((results fn g.tmps).events P w #[])++#[],?_,hn,hw2,hkk,?_⟩
 ·unfold stepG run1
  simp only[gm];unfold unwind;simp only[gd,gm,gf,Yf,e1];unfold doReturn;simp only[gk]
  rfl
 ·intro x hx
  rw[Array.append_empty]at hx;exact Z0S e2 he x hx
theorem Z3g(hf:FrR P F r fr g){u:World}{ch:List PanicEntry}(hl:fr.leaving (PF P F) u (.panicked ch))(m:Bool)(c:Frame)(cs:List Frame):
  ∃ch',Lis (PR r) ch ch'/\stepG P m (run1 g (c::cs)) w = .go (run1 (c.raise ch') cs) w #[]:=by
 obtain⟨hm,hd,fn,hfn⟩:=hl;have gm:=hf.mode;rw[hm]at gm;generalize hz:g.mode=z at gm
 cases gm with
 | panicking q =>
  refine⟨_,q,?_⟩;have gd:g.defers=[]:=by
   have:=hf.defers.1;rw[hd]at this;generalize g.defers=z at this⊢
   cases this
   rfl
  have c2:g.catches P=false:=by
   unfold Frame.catches
   split
   ·rename_i e2;exact absurd e2 ((Z7l hf).2 _ _ _ _ _)
   ·rfl
  unfold stepG run1;simp only[hz];unfold unwind;simp only[gd,hz,c2]
  rfl
theorem Sure.done(S:Strip P F (CodeOk P false) G)(hg:GOk P F G)(hrec:Rec P){f:FuncId}{fr0 gr0:Frame}{R:Ending->World->Prop}(hE:Ends (PF P F) (Done P F f R) [fr0,poison] v)(hst:Stk P F r [fr0] [gr0])(hw:WH (Iv P F) r v w)(ho:Off D r w){c:Frame}{cs:List Frame}(ret:∀r' v' w' x y,R (.returned x) v'->VR r' x y->WH (Iv P F) r' v' w'->Kep r r' v v' w w'->Off D r' w'->Sure P Post D (run1 (c.finish y) cs) w')(pan:∀r' v' w' ch ch',R (.panicked ch) v'->Lis (PR r') ch ch'->WH (Iv P F) r' v' w'->Kep r r' v v' w w'->Off D r' w'->Sure P Post D (run1 (c.raise ch') cs) w'):
  Sure P Post D (run1 gr0 (c::cs)) w:=by
 refine Sure.lone (A:=[]) (B:=[]) S hg hrec Z3x hE rfl hst hw ho ?_;intro f' A' g' B' r' v' w' hs hst hw' hk;obtain⟨T,e,fr,h1,h2,h3,h4,h5⟩:=hs;simp only[List.cons.injEq]at h1;obtain⟨rfl,h1⟩:=h1;have hA:A'=[]:=by
  cases A' with
  | nil=>rfl
  | cons a az =>
   have:=congrArg List.length h1;simp at this
 subst hA;have hB:B'=[]:=by
  obtain⟨_,h,_⟩:=hst.uncons;have:=h.rel
  cases B' with
  | nil=>rfl
  | cons b bs=>cases this
 subst hB;have hf:=hst.uncons.1;have ho':Off D r' w':=⟨λb c hb hd=>by
  rcases hk.new b c hb with q | ⟨_,q⟩
  ·exact ho.names b c q hd
  ·have:=ho.low c hd
   omega,λc hd=>Y8 (ho.low c hd) hk.sizeW⟩
 cases e with
 | outgrown=>exact absurd rfl h5
 | returned x =>
  refine Sure.step rfl λw1 hl=>?_;have hw1:WH (Iv P F) r' v' w1:=hw'.of rfl hl.1 (by rw[hl.2.1];exact hw'.env);obtain⟨r2,T2,y,w2,ns,e2,hv,hw2,hk2,he⟩:=Z2z hf hw1 h3 true c cs;have ho2:=(ho'.like hl).kept hk2;refine⟨_,w2,ns,e2,λx hx=>Z63 (he x hx) ho2.names,by rw[<-hl.1];exact hk2.sizeW,?_⟩;have hk3:Kep r' r2 v' v' w' w2:=Kep.of (v0:=re v' T2) (v':=re v' T2) ⟨rfl,rfl,rfl⟩ hl hk2;exact ret r2 v' w2 x y h4 hv (hw2.h.of rfl rfl hw2.env) (hk.trans hk3) ho2
 | panicked ch =>
  refine Sure.step rfl λw1 hl=>?_;have hw1:WH (Iv P F) r' v' w1:=hw'.of rfl hl.1 (by rw[hl.2.1];exact hw'.env);obtain⟨ch',hc,e2⟩:=Z3g (w:=w1) hf h3 true c cs;refine⟨_,w1,#[],e2,by simp,by rw[hl.1];exact Ye _,?_⟩;exact(pan r' v' w' ch ch' h4 hc hw' hk ho').like hl
theorem Sure.called(S:Strip P F (CodeOk P false) G)(hg:GOk P F G)(hrec:Rec P){f:FuncId}{xs ys:Array Value}(g:G f)(ha:VRs r xs ys)(hw:WH (Iv P F) r v w)(ho:Off D r w){R:Ending->World->Prop}
  (hR:∀e u T,R e (re u T)->R e u) (hn:∀u,¬R .outgrown u) (hC:∀T,Calls (PF P F) f xs (re v T) R) {c:Frame} {cs:List Frame}
  (ret:∀r' v' w' x y,R (.returned x) v'->VR r' x y->WH (Iv P F) r' v' w'->Kep r r' v v' w w'->Off D r' w'->Sure P Post D (run1 (c.finish y) cs) w')
  (pan:∀r' v' w' ch ch',R (.panicked ch) v'->Lis (PR r') ch ch'->WH (Iv P F) r' v' w'->Kep r r' v v' w w'->Off D r' w'->Sure P Post D (run1 (c.raise ch') cs) w') :
  Sure P Post D (run1 (Frame.enter P f ys .normal) (c::cs)) w:=by
 have hfr:=Z1b S ha g hg (k:=.normal) (.inl rfl);have hE:=Z28 S hg hrec g ha hw hR hn hC;exact Sure.done S hg hrec hE ⟨.cons hfr .nil,⟨.inl rfl,λh=>absurd rfl h⟩,trivial⟩ hw ho ret pan
end
end Lift
namespace Lift
open Go Go.Conc
variable[Jk]
section
variable{P:Program}{F:Array Func}{G:FuncId->Prop}{Post:Value->World->Prop}{D:Nat->Prop}{r r':Ren}{v v' w w':World}{b:Frame}{cs:List Frame}
structure AcR(r:Ren)(a a':Act):Prop where
 tmps:VRs r a.tmps a'.tmps
 defers:Lis (DR r) a.defers a'.defers
theorem AcR.mono(h:r.le r'){a a':Act}(k:AcR r a a'):AcR r' a a':=⟨VRs.mono h k.tmps,k.defers.imp λ_ _=>DR.mono h⟩
end
end Lift
namespace Lift
open Go Go.Conc
variable[Jk]
inductive Reach(Q:Program)(Stop:List Frame->World->Prop):List Frame->World->List Frame->World->Prop
 | refl {V v}:Reach Q Stop V v V v
 | step {f K v τ f' K' v1 es V' v'} (hn:¬Stop (f::K) v) (h:stepG Q true (run1 f K) (re v τ) = .go (run1 f' K') v1 es) (t:Reach Q Stop (f'::K') v1 V' v'):Reach Q Stop (f::K) v V' v'
section
variable{Q P:Program}{F:Array Func}{G:FuncId->Prop}{Post:Value->World->Prop}{r r':Ren}{v v' w w':World}{Stop:List Frame->World->Prop}{V V':List Frame}
theorem Ends.reach(h:Ends Q Stop V v)(k:Reach Q Stop V v V' v'):Ends Q Stop V' v':=by
 induction k with
 | refl=>exact h
 | step hn e _ ih =>
  cases h with
  | stop q=>exact absurd q hn
  | step ok hk=>exact ih (hk _ _ _ _ _ e)
theorem Reach.trans{V'':List Frame}{v'':World}(h:Reach Q Stop V v V' v')(k:Reach Q Stop V' v' V'' v''): Reach Q Stop V v V'' v'':=by
 induction h with
 | refl=>exact k
 | step hn e _ ih=>exact .step hn e (ih k)
def Z5W(Q:Program)(Stop:List Frame->World->Prop)(f:Frame)(K:List Frame)(v:World)(V':List Frame)(v':World):Prop:=
 ∃τ f' K' v1 es,stepG Q true (run1 f K) (re v τ) = .go (run1 f' K') v1 es/\Reach Q Stop (f'::K') v1 V' v'
theorem Sure.jumps(S:Strip P F (CodeOk P false) G)(hg:GOk P F G)(hrec:P.follows .rangeFuncRecover=true)(hP:∀x u,¬Stop [x] u){cs:List Frame}{I:List Frame->World->Prop}(hI:∀f K v τ f' K' v' es,I (f::K) v->stepG (PF P F) true (run1 f K) (re v τ) = .go (run1 f' K') v' es->(K'=[]/\Sour f')\/I (f'::K') v'){J:(Nat->Prop)->Ren->World->World->Prop}(hJ:∀D r r' v v' w w',Kep r r' v v' w w'->J D r v w->J D r' v' w') (H:∀D f g r v w,Stk P F r [f] [g]->WH (Iv P F) r v w->Off D r w->J D r v w->I [f,poison] v->Pend f->Ends (PF P F) Stop [f,poison] v ->
   (∀x y r' v' w' D',Z5W (PF P F) Stop f [poison] v [f.finish x,poison] v'->I [f.finish x,poison] v'->Stk P F r' [f] [g]->VR r' x y->WH (Iv P F) r' v' w'->Off D' r' w'->J D' r' v' w'->Sure P Post D' (run1 (g.finish y) cs) w') ->
   Sure P Post D (run1 g cs) w) (fin:∀D f A g B r v w,Stop (f::(A++[poison])) v->Stk P F r (f::A) (g::B)->WH (Iv P F) r v w->Off D r w->J D r v w->Sure P Post D (run1 g (B++cs)) w) (hE:Ends (PF P F) Stop V v): ∀D f A g B r w,V=f::(A++[poison])->Stk P F r (f::A) (g::B)->WH (Iv P F) r v w->Off D r w->J D r v w->I V v->Sure P Post D (run1 g (B++cs)) w:=by
 have key:∀V' v',Reach (PF P F) Stop V v V' v'->∀D f A g B r w,V'=f::(A++[poison])->Stk P F r (f::A) (g::B)->WH (Iv P F) r v' w->Off D r w->J D r v' w->I V' v'->Sure P Post D (run1 g (B++cs)) w:=by
  induction hE with
  | stop h =>
   intro V' v' hr D f A g B r w hV hs hw ho hj hi
   cases hr with
   | refl=>subst hV;exact fin D _ _ _ _ _ _ _ h hs hw ho hj
   | step hn _ _=>exact absurd h hn
  | @step f K v ok h ih =>
   intro V' v' hr
   cases hr with
   | step _ e t=>exact ih _ _ _ _ _ e _ _ t
   | refl =>
    intro D f0 A g B r w hV hs hw ho hj hi;simp only[List.cons.injEq]at hV;obtain⟨rfl,rfl⟩:=hV
    by_cases np:Pend f
    ·have hA:A=[]:=by
      cases A with
      | nil=>rfl
      | cons a az=>exact absurd np.1 (hs.uncons.2.2.2 (by simp))
     subst hA;have hB:B=[]:=by
      have:=hs.uncons.2.1.rel
      cases this
      rfl
     subst hB;refine H D f g r v w hs hw ho hj hi np (.step ok h) λx y r' v' w' D' hr hi' hs' hx hw' ho' hj'=>?_;obtain⟨τ,f',K',v1,es,e,t⟩:=hr;obtain⟨q1,q2,q3⟩:=hs'.uncons;exact ih _ _ _ _ _ e _ _ t D' (f.finish x) [] (g.finish y) [] r' w' rfl (q2.cons (q1.finish hx) (q3.finish x)) hw' ho' hj' hi'
    ·refine Sure.step rfl λw1 hl=>?_
     have hw1:WH (Iv P F) r v w1:=hw.of rfl hl.1 (by rw[hl.2.1];exact hw.env);obtain⟨τ,f',K',v',es,e,hc⟩:=Z5E S hg hrec hs hw1 np ok true cs
     rcases hc with⟨rfl,hx⟩ | ⟨A',g',B',r',w',ns,rfl,e2,hs',hw',hk,he⟩
     ·exact absurd (h τ _ _ _ _ e) (Z0A hP hx)
     ·have hk2:Kep r r' v v' w w':=Kep.of (v0:=re v τ) ⟨rfl,rfl,rfl⟩ hl hk
      refine⟨_,w',ns,e2,λx hx=>Z63 (he x hx) ((ho.like hl).kept hk).names,by rw[<-hl.1];exact hk.sizeW,?_⟩;refine ih τ _ _ _ _ e _ _ .refl D f' A' g' B' r' w' rfl hs' hw'.h ((ho.like hl).kept hk) (hJ _ _ _ _ _ _ _ hk2 hj) ?_
      rcases hI _ _ _ _ _ _ _ _ hi e with⟨q,_⟩ | q
      ·simp at q
      ·exact q
 exact λD f A g B r w=>key _ _ .refl D f A g B r w
end
end Lift
namespace Lift
open Go Go.Conc
variable[Jk]
section
variable{P:Program}{F:Array Func}{G:FuncId->Prop}{C:Inv}{r r':Ren}{u u' v v' w w':World}{Stop:List Frame->World->Prop}{V V':List Frame}
structure AtCall(f:Frame)(jf:FuncId)(c:Call):Prop where
 ex:∃ops i rest k o,f.mode = .run/\f.todo = .inRegion ops (i::rest)::k/\ops[i]?=some o/\Region.wanted o (yielded ops f.tmps)=true/\o.op = .call c/\c.callee = .value (.func jf)
theorem Pend.at{f:Frame}(h:Pend f):∃jf c,Jk.jmp jf/\AtCall f jf c/\(∀x∈c.args,∃t,x = .tmp t)/\c.args.size=Jk.ar jf:=by
 obtain⟨_,hm,ops,i,rest,k,o,h1,h2,h3,h4⟩:=h
 cases ho:o.op with
 | call c =>
  rw[ho]at h4;obtain⟨⟨jf,h5,h6,h8⟩,h7⟩:=h4;exact⟨jf,c,h6,⟨ops,i,rest,k,o,hm,h1,h2,h3,ho,h5⟩,h7,h8⟩
 | _=>rw[ho]at h4;exact h4.elim
theorem ZbR{f: Frame}(hf:FrR P F r f g)(ops:Array Oper)(o:Oper): Region.wanted o (yielded ops f.tmps)=Region.wanted o (yielded ops g.tmps):=by
 have:yielded ops f.tmps=yielded ops g.tmps:=by
  funext j
  unfold yielded
  cases ((ops[j]?).bind (·.dst)) with
  | none=>rfl
  | some t =>
   simp only[Option.bind_some]
   rcases hf.tmps.get t with⟨a,b⟩ | ⟨x,y,a,b,q⟩
   ·rw[a,b]
   ·rw[a,b]
    cases q with
    | junk _ _ _ m=>cases y<;>first | rfl | exact absurd rfl (m.2.2 _)
    | _=>rfl
 rw[this]
theorem AtCall.rel{f g:Frame}(hf:FrR P F r f g){jf:FuncId}{c:Call}(h:AtCall f jf c):AtCall g jf c:=by
 obtain⟨ops,i,rest,k,o,hm,h1,h2,h3,h4,h5⟩:=h.ex;have ht:=hf.todo;have hmd:=hf.mode;rw[h1]at ht;rw[hm]at hmd;rw[ZbR hf]at h3;generalize hz:g.todo=z at ht;generalize hy:g.mode=y at hmd
 cases hmd
 cases ht with
 | cons a t =>
  cases a with
  | inRegion _=>exact⟨ops,i,rest,_,o,hy,hz,h2,h3,h4,h5⟩
theorem ZdQ(fn:FuncId):seen P fn #[]=#[]:=by
 unfold seen
 rfl
theorem AtCall.step {f:Frame} {jf:FuncId} {c:Call} (h:AtCall f jf c) {fn:Func} {b:Code} (hf:P.funcs[jf]?=some fn) (hb:fn.body=some b) (hn:(fn.name == "runtime.NumGoroutine")=false) (hk:f.kind = .normal\/f.kind = .deferred) (m:Bool) (K:List Frame) (w:World) :
    stepG P m (run1 f K) w = .go (run1 (Frame.enter P jf (c.args.map f.eval) .normal) (f::K)) w #[]:=by
  obtain⟨ops, i, rest, k, o, hm, h1, h2, h3, h4, h5⟩ := h.ex;have he : f.eval (.func jf) = .func (.func jf) #[] #[] := rfl;have hex : (execOp f.eval o).run P w = .ok (.enter jf (c.args.map f.eval)) w/\(execOp f.eval o).events P w #[]=#[] := by
    have : execOp f.eval o = (do let d <- resolve f.eval c o.type; invoke d.target d.args) := by
      unfold execOp;rw[h4]
    rw[this];unfold resolve;rw[h5];simp only[he, Deferred.ofValue, pure_bind, invoke, callFunc];have e2 : #[]++c.args.map f.eval++#[]=c.args.map f.eval := by simp
    rw[e2];have e3 : ∀(Z : Program->Sem Next), (program >>= Z).run P w=(Z P).run P w/\(program >>= Z).events P w #[]=(Z P).events P w #[] := λZ => ⟨rfl, rfl⟩;have e4 := e3 λp => match p.funcs[jf]? with
      | none=>stuck "call: no such function"
      | some fn=>if fn.name == "runtime.NumGoroutine" then pure .numGoroutine
        else if fn.body.isNone then do
          mark (.extern jf)
          if let some e:=Extern.findNext fn then return <-e (c.args.map f.eval)
          match Extern.find fn with
          | some e=>pure (.value (<-e (c.args.map f.eval)))
          | none =>
            if fn.name.endsWith ".init" && !fn.name.startsWith "(" && !fn.name.startsWith "gosem." then pure (.value (.tuple #[]))
            else unsupported (.extern fn.name)
        else pure (.enter jf (c.args.map f.eval))
    simp only[hf, hb, hn, Bool.false_eq_true, if_false, Option.isNone_some]at e4;exact⟨e4.1, e4.2⟩
  have e1:stepG P m (run1 f K) w=stepG.exec P m true f K none w:=by
    unfold stepG run1;simp only[hm]
  rw[e1, Z29 h1, if_pos (by simp[h2, h3]), Z4a h1 h2 (.inr λc e => by rw[h4]at e; cases e), Z0F hex.1];unfold lst;have ke : (f.kind==CallKind.early)=false := by rcases hk with q | q<;>rw[q]<;>rfl
  have kk:Z2y f = .normal:=by unfold Z2y;rw[h1]
  rw[ke, kk];simp only[Bool.false_eq_true, if_false];rw[hex.2, ZdQ];simp[GStep.after]
def Idn(r:Ren):Prop:=∀b c,r b=some c->c=b
theorem Zc7{R:α->α->Prop}(hR:∀x y,R x y->x=y){xs ys:Array α}(h:Arr R xs ys): xs=ys:=by
 apply Array.ext h.1;intro i h1 h2;exact hR _ _ (h.2 i _ _ (Y2 h1) (Y2 h2))
theorem AR.id(hi:Idn r){a b:Addr}(h:AR r a b):a=b:=by
 cases h with
 | mk q=>rw[hi _ _ q]
theorem VR.id(nj:¬Jk.j)(hi:Idn r){x y:Value}(h:VR r x y):x=y:=by
 have arr:∀{xs ys:Array Value},xs.size=ys.size->(∀(i:Nat) x y,xs[i]?=some x->ys[i]?=some y->x=y)->xs=ys:=λhs hk=>Zc7 (R:=Eq) (λ_ _ e=>e) ⟨hs,hk⟩
 induction h with
 | ptr q=>rw[q.id hi]
 | sl n c q=>rw[q.id hi]
 | map q=>rw[hi _ _ q]
 | @func f f' xs xs' ys ys' hf hx _ hy _ ih ih2 =>
  rw[arr hx ih,arr hy ih2]
  cases hf with
  | func f h=>rfl
  | yield q=>rw[hi _ _ q]
 | iface t _ ih=>rw[ih]
 | agg hs _ ih=>rw[arr hs ih]
 | tuple hs _ ih=>rw[arr hs ih]
 | junk j=>exact(j.resolve_left nj).symm
 | _=>rfl
theorem ZaW(nj:¬Jk.j)(hi:Idn r)(h:VRs r xs ys): xs=ys:=Zc7 (λ_ _=>VR.id nj hi) h
theorem Zk2{R:α->α->Prop}(hR:∀x y,R x y->x=y){xs ys:List α}(h:Lis R xs ys): xs=ys:=by
 induction h with
 | nil=>rfl
 | cons a _ ih=>rw[hR _ _ a,ih]
theorem TR.id(nj:¬Jk.j)(hi:Idn r){x y:Target}(h:TR r x y):x=y:=by
 cases h with
 | fn hf q =>
  rw[ZaW nj hi q]
  cases hf with
  | func f h=>rfl
  | yield q=>rw[hi _ _ q]
 | nil=>rfl
 | collected q=>rw[hi _ _ q]
theorem OR.id(nj:¬Jk.j)(hi:Idn r){o o':Obj}(h:OR C r o o'):(∃cs e,o = .cells cs e (0,cs.size))\/o=o':=by
 cases h with
 | @cells cs cs' e fr fr' q hf =>
  rcases hf with⟨rfl,rfl⟩ | rfl
  ·exact .inr (by rw[ZaW nj hi q])
  ·exact .inl ⟨cs,e,rfl⟩
 | number l q=>exact .inr (by rw[q.id hi])
 | map n q =>
  refine .inr ?_;rw[Zc7 (λa b (k:ER r a b)=>?_) q];obtain⟨k1,v1,b1⟩:=a;obtain⟨k2,v2,b2⟩:=b;obtain⟨h1,h2,h3⟩:=k;have e1:=VR.id nj hi h1;have e2:=VR.id nj hi h2;dsimp only at e1 e2 h3;rw[e1,e2,h3]
 | @loop l l' q =>
  refine .inr ?_;obtain⟨q1,q2,q3,q4,q5,q6,q7,q8⟩:=q;obtain⟨a1,a2,a3,a4,a5,a6,a7,a8⟩:=l;obtain⟨b1,b2,b3,b4,b5,b6,b7,b8⟩:=l';have e4:=ZaW nj hi q4;have e8:=hi _ _ q8;dsimp only at *;rw[q1,q2.1,q3.1,e4,q5,q6.1,q7.1,e8]
 | def0=>exact .inr rfl
 | def1 q =>
  refine .inr ?_;rw[Zk2 (λa b (k:DR r a b)=>?_) q];obtain⟨t1,a1⟩:=a;obtain⟨t2,a2⟩:=b;obtain⟨h1,h2⟩:=k;have e1:=TR.id nj hi h1;have e2:=ZaW nj hi h2;dsimp only at e1 e2;rw[e1,e2]
theorem Kep.old(nj:¬Jk.j)(hi:Idn r')(k:Kep r r' v v' v u')(hw:WH C r' v' u'){b:Nat}(hb:b<v.heap.size)(e:v'.heap[b]?=v.heap[b]?):u'.heap[b]?=v.heap[b]?:=by
 cases hr:r b with
 | none =>
  refine k.far b hb λa q=>?_;have:=hi _ _ (k.le.1 _ _ q);subst this;rw[hr]at q
  cases q
 | some c =>
  have hc:=hi _ _ (k.le.1 _ _ hr);subst hc;obtain⟨o,o',h1,h2,ho⟩:=hw.on _ _ (k.le.1 _ _ hr)
  rcases OR.id nj hi ho with⟨cs,e',rfl⟩ | rfl
  ·exact k.shutW _ _ ⟨cs,e',e▸h1⟩ hr
  ·rw[h2,<-e,h1]
theorem Kep.fresh(nj:¬Jk.j)(hi:Idn r')(hw:WH C r' v' u'){b:Nat}{o:Obj}(hb:r' b=some b)(e:v'.heap[b]?=some o)(ns:¬∃cs e,o = .cells cs e (0,cs.size)):u'.heap[b]?=some o:=by
 obtain⟨o1,o',h1,h2,ho⟩:=hw.on _ _ hb;rw[e]at h1;obtain rfl:=Y1 h1
 rcases OR.id nj hi ho with q | rfl
 ·exact absurd q ns
 ·exact h2
end
end Lift
namespace Lift
open Go Go.Conc
variable[Jk]
section
variable{P:Program}{F:Array Func}{G:FuncId->Prop}{r r':Ren}{u u' v v' w w':World}{Stop:List Frame->World->Prop}{V V':List Frame}
theorem Z98(hi:Idn r)(hs:v.heap.size=u.heap.size)(k:Kept r r' v v' u u'):Idn r'/\v'.heap.size=u'.heap.size:=by
 obtain⟨h1,h2,_⟩:=k.par hs;refine⟨λb c q=>?_,h1⟩
 rcases h2 _ _ q with q | q
 ·exact hi _ _ q
 ·exact q.symm
def Self(P:Program)(F:Array Func)(V:List Frame)(v:World):Prop:=
 ∃f A r,V=f::(A++[poison])/\Idn r/\Stk P F r (f::A) (f::A)/\WR (Iv P F) r v v
theorem WR.re(h:WR (Iv P F) r v v)(τ:Nat->Question->Nat):WR (Iv P F) r (re v τ) (re v τ):=⟨h.on,h.inj,λ_ _=>rfl,rfl⟩
theorem ZaM(S:Strip P F (CodeOk P false) G)(hg:GOk P F G)(hrec:Rec P){f f': Frame}{A B K':List Frame}{es:Array Event}(hs:Stk P F r (f::A) (g::B))(hw:WR (Iv P F) r v u)(m:Bool)(cs:List Frame)(e:stepG (PF P F) true (run1 f (A++[poison])) v = .go (run1 f' K') v' es):
  (K'=[]/\Sour f')\/∃A' g' B' r' u' ns,K'=A'++[poison]/\stepG P m (run1 g (B++cs)) u = .go (run1 g' (B'++cs)) u' ns/\Stk P F r' (f'::A') (g'::B')/\WR (Iv P F) r' v' u'/\Kept r r' v v' u u':=by
 have h:=Z7E (cs:=cs) (m:=m) S hg hrec.1 hs hw λq=>hrec.2 _ q.1;rw[e]at h
 rcases h with h | ⟨r',g',W,u',ns,h0,_,_,_,⟨A',B',h4,h5,h6,h7⟩,h8,h9,h10⟩
 ·refine .inl ?_
  rcases h with h | ⟨c,h⟩
  ·simp only[run1,Goroutine.mk.injEq]at h
   exact⟨h.2.1,.inl h.1⟩
  ·simp only[run1,Goroutine.mk.injEq]at h
   exact⟨h.2.1,.inr ⟨c,h.1⟩⟩
 ·cases A' with
  | nil=>exact absurd rfl h6
  | cons a az =>
   cases B' with
   | nil=>have:=h7.rel;cases this
   | cons b bs =>
    simp only[run1,List.cons_append,List.cons.injEq]at h4 h5;obtain⟨rfl,rfl⟩:=h4;obtain⟨rfl,rfl⟩:=h5;exact .inr ⟨az,_,bs,r',u',ns,rfl,h0,h7,h8,h9⟩
theorem Self.step(hQ:PF P F=P)(S:Strip P F (CodeOk P false) G)(hg:GOk P F G)(hrec:Rec P){f f':Frame}{K K':List Frame}{τ:Nat->Question->Nat}{es:Array Event}(h:Self P F (f::K) v)
  (e:stepG P true (run1 f K) (re v τ) = .go (run1 f' K') v' es):(K'=[]/\Sour f')\/Self P F (f'::K') v':=by
 obtain⟨f0,A,r,hV,hi,hs,hw⟩:=h;simp only[List.cons.injEq]at hV;obtain⟨rfl,rfl⟩:=hV;have e0:=e;rw[<-hQ]at e0
 rcases ZaM S hg hrec hs (hw.re τ) true [poison] e0 with h | ⟨A',g',B',r',u',ns,rfl,e2,h1,h2,h3⟩
 ·exact .inl h
 ·rw[e]at e2
  simp only[GStep.go.injEq,run1,Goroutine.mk.injEq,and_true]at e2;obtain⟨⟨rfl,q⟩,rfl,_⟩:=e2;obtain rfl:A'=B':=List.append_cancel_right q;exact .inr ⟨_,_,r',rfl,(Z98 hi rfl h3).1,h1,h2⟩
theorem Self.seat(hQ:PF P F=P){f:Frame}{K:List Frame}(h:Self P F (f::K) v): Seat P F f K v:=by
 obtain⟨f0,A,r,hV,hi,hs,hw⟩:=h;simp only[List.cons.injEq]at hV;obtain⟨rfl,rfl⟩:=hV;exact .inl ⟨_,_,_,_,_,rfl,hs,hw⟩
theorem ZfX{f:Frame}{K:List Frame}{m':Machine}(h:step P (lone f K v) = .next m')(hx:(∃o w2 es,stepG P true (run1 f K) v = .ended o w2 es)\/∃f' K' v' es,stepG P true (run1 f K) v = .go (run1 f' K') v' es):
  ∃f' K' v' es,stepG P true (run1 f K) v = .go (run1 f' K') v' es/\m'=lone f' K' v':=by
 rcases hx with⟨o,w2,es,e⟩ | ⟨f',K',v',es,e⟩
 ·rw[step_end e]at h;cases h
 ·rw[Ze8 e]at h
  injection h with h
  exact⟨_,_,_,_,e,h.symm⟩
theorem Zhu(hQ:PF P F=P)(S:Strip P F (CodeOk P false) G)(hg:GOk P F G)(hrec:Rec P)(hS:∀V v,Stop V v->V.length=2){f:Frame}:
  ∀(n:Nat) {a b a':Frame} {A B:List Frame} {r:Ren} {v u v':World},runN P n (lone a (A++[poison]) v) = .next (lone a' [poison] v')->Stk P F r (a::A) (b::B)->WR (Iv P F) r v u->Idn r->v.heap.size=u.heap.size ->
   ∃b' r' u',Reach P Stop (b::(B++[f,poison])) u (b'::[f,poison]) u'/\Stk P F r' [a'] [b']/\WR (Iv P F) r' v' u'/\Idn r'/\Kept r r' v v' u u':=by
 intro n
 induction n with
 | zero =>
  intro a b a' A B r v u v' h hs hw hi hz
  injection h with h
  have e1:v=v':=congrArg (·.world) h;have e2:=congrArg (·.gs) h;simp only[lone,Array.mk.injEq,List.cons.injEq,Goroutine.mk.injEq,and_true]at e2;obtain⟨rfl,e3⟩:=e2;subst e1;have hA:A=[]:=by simpa using e3
  subst hA;have hB:B=[]:=by
   have:=hs.uncons.2.1.rel
   cases this
   rfl
  subst hB;exact⟨b,r,u,.refl,hs,hw,hi,Kept.refl _ _ _⟩
 | succ n ih =>
  intro a b a' A B r v u v' h hs hw hi hz;have hst:=Seat.step S hg hrec (f:=a) (K:=A++[poison]) (.inl ⟨_,_,_,_,_,rfl,hs,hw⟩) v.tape;rw[hQ]at hst;have h0:runN P (n+1) (lone a (A++[poison]) v)=match step P (lone a (A++[poison]) v) with | .next m=>runN P n m | e=>e:=rfl
  rw[h0]at h
  cases hx:step P (lone a (A++[poison]) v) with
  | ended o w2=>rw[hx]at h;cases h
  | next m1 =>
   rw[hx]at h;obtain⟨a1,K1,v1,es,e,rfl⟩:=ZfX hx (by
    rcases hst with q | ⟨f',K',v',es,e,_⟩
    ·exact .inl q
    ·exact .inr ⟨f',K',v',es,e⟩)
   have e0:=e;rw[<-hQ]at e0
   rcases ZaM S hg hrec hs hw true [f,poison] e0 with⟨rfl,q⟩ | ⟨A1,b1,B1,r1,u1,ns,rfl,e2,h1,h2,h3⟩
   ·exfalso
    dsimp only at h
    cases n with
    | zero =>
     injection h with h
     have e2:=congrArg (·.gs) h;simp only[lone,Array.mk.injEq,List.cons.injEq,Goroutine.mk.injEq]at e2;exact absurd e2.1.2.1 (by simp)
    | succ n =>
     obtain⟨o,w2,es2,e3⟩:=Z2h (Q:=P) q v1;have h1:runN P (n+1) (lone a1 [] v1)=match step P (lone a1 [] v1) with | .next m=>runN P n m | e=>e:=rfl
     rw[h1,step_end e3]at h
     cases h
   ·obtain⟨i1,i2⟩:=Z98 hi hz h3
    obtain⟨b',r',u',t,q1,q2,q3,q4⟩:=ih h h1 h2 i1 i2;refine⟨b',r',u',.step (τ:=u.tape) (λq=>?_) e2 t,q1,q2,q3,h3.trans q4⟩;have:=hS _ _ q;simp at this
theorem ZjX{T T':Nat->Question->Nat}(k:Kept r r' (re v T) (re v' T') u u'):Kep r r' v v' u u':=
 ⟨k.le,rfl,rfl,⟨0,rfl,rfl⟩,k.os,k.sizeV,k.sizeW,k.far,k.new,k.shut,k.cells,k.farV,k.shutW,k.par,k.out⟩
theorem Z6V(hQ:PF P F=P)(S:Strip P F (CodeOk P false) G)(hg:GOk P F G)(hrec:Rec P)(hS:∀V v,Stop V v->V.length=2){f:Frame}{jf:FuncId}{c:Call}(hs:Stk P F r [f] [f])(hw:WR (Iv P F) r v v)(hi:Idn r)
  (hc:AtCall f jf c) (gf:G jf) (ha:∀x∈c.args,RdOk x) (T:Nat->Question->Nat) {R:Ending->World->Prop} (hn:∀u,¬R .outgrown u) (hC:Calls P jf (c.args.map f.eval) (re v T) R) :
  ∃e v' u' r',R e v'/\Idn r'/\WH (Iv P F) r' v' u'/\Kep r r' v v' v u' /\
   ((∃x y,e = .returned x/\VR r' x y/\Z5W P Stop f [poison] v [f.finish y,poison] u')\/∃ch ch',e = .panicked ch/\Lis (PR r') ch ch'/\Z5W P Stop f [poison] v [f.raise ch',poison] u'):=by
 obtain⟨h1,⟨fn,b,h2,h3⟩,h4,h5⟩:=hg jf gf;rw[h1]at h2;have hf:=hs.uncons.1;have hst:=hc.step h2 h3 (S.name _ _ h4 (h1▸h2)) hf.kind.2 true [poison] (re v T);have hfr:=Z1b S (Z2R hf.env ha) gf hg (k:=.normal) (.inl rfl);rw[hQ]at hfr;have hS1:Stk P F r [Frame.enter P jf (c.args.map f.eval) .normal] [Frame.enter P jf (c.args.map f.eval) .normal]:=⟨.cons hfr .nil,⟨.inl rfl,λh=>absurd rfl h⟩,trivial⟩;obtain⟨e,v',fr,hR,hcm,hfn,hl⟩:=hC [poison];have run:∀n,runN P n (lone (Frame.enter P jf (c.args.map f.eval) .normal) [poison] (re v T)) = .next (lone fr [poison] v')->∃b' r' u',Reach P Stop [Frame.enter P jf (c.args.map f.eval) .normal,f,poison] (re v T) (b'::[f,poison]) u'/\Stk P F r' [fr] [b']/\WR (Iv P F) r' v' u'/\Idn r'/\Kept r r' (re v T) v' (re v T) u':=
  λn hn=>Zhu hQ S hg hrec hS n (A:=[]) (B:=[]) hn hS1 (hw.re T) hi rfl
 cases e with
 | outgrown=>exact absurd hR (hn _)
 | returned x =>
  obtain⟨n,hn⟩:=hcm;obtain⟨b',r',u',t,q1,q2,q3,q4⟩:=run n hn;have hl':fr.leaving (PF P F) (re v' v'.tape) (.returned x):=by rw[hQ];exact hl
  obtain⟨r2,T2,y,u2,ns,s1,s2,s3,s4,_⟩:=Z2z q1.uncons.1 q2.h hl' true f [poison];have z:=(q4.par rfl).1;obtain⟨i1,_⟩:=Z98 q3 (by exact z) s4;refine⟨_,v',u2,r2,hR,i1,s3.h.of rfl rfl s3.env,(Kep.of (v:=v) (v0:=Lift.re v T) (w:=v) (w0:=Lift.re v T) ⟨rfl,rfl,rfl⟩ ⟨rfl,rfl,rfl⟩ q4).trans (ZjX s4),.inl ⟨x,y,rfl,s2,T,_,_,_,_,hst,t.trans (.step (τ:=u'.tape) (λq=>?_) s1 .refl)⟩⟩;have:=hS _ _ q;simp at this
 | panicked ch =>
  obtain⟨n,hn⟩:=hcm;obtain⟨b',r',u',t,q1,q2,q3,q4⟩:=run n hn;have hl':fr.leaving (PF P F) v' (.panicked ch):=by rw[hQ];exact hl
  obtain⟨ch',s1,s2⟩:=Z3g (w:=u') q1.uncons.1 hl' true f [poison];refine⟨_,v',u',r',hR,q3,q2.h,Kep.of (v:=v) (v0:=Lift.re v T) (w:=v) (w0:=Lift.re v T) ⟨rfl,rfl,rfl⟩ ⟨rfl,rfl,rfl⟩ q4,.inr ⟨ch,ch',rfl,s1,T,_,_,_,_,hst,t.trans (.step (τ:=u'.tape) (λq=>?_) s2 .refl)⟩⟩;have:=hS _ _ q;simp at this
end
end Lift
namespace Lift
open Go Go.Conc
variable[Jk]
section
variable{P:Program}
def plB:Nat->Value->Bool
 | _,.bool _=>true
 | _,.int _ _=>true
 | _,.string _=>true
 | _,.pointer none=>true
 | _,.slice none _ _=>true
 | _,.map none=>true
 | _,.nilFunc=>true
 | _,.nilIface=>true
 | n+1,.iface _ v=>plB n v
 | n+1,.agg xs=>xs.all (plB n)
 | n+1,.tuple xs=>xs.all (plB n)
 | _,_=>false
theorem ZgO:∀(n:Nat) (v:Value),plB n v=true->Z5U v:=by
 have arr:∀(n:Nat) (xs:Array Value),(∀v,plB n v=true->Z5U v)->xs.all (plB n)=true->∀r,VRs r xs xs:=by
  intro n xs ih h r;refine⟨rfl,λi x y a b=>?_⟩;rw[a]at b;obtain rfl:=Y1 b;exact ih x (Array.all_eq_true_iff_forall_mem.1 h x (Yk a)) r
 intro n
 induction n with
 | zero =>
  intro v h r
  cases v with
  | bool b=>exact .bool b
  | int k n=>exact .int k n
  | string s=>exact .string s
  | pointer a=>cases a<;>first | exact .ptr0 | cases h
  | slice a n c=>cases a<;>first | exact .sl0 n c | cases h
  | map a=>cases a<;>first | exact .map0 | cases h
  | nilFunc=>exact .func0
  | nilIface=>exact .iface0
  | _=>cases h
 | succ n ih =>
  intro v h r
  cases v with
  | bool b=>exact .bool b
  | int k n=>exact .int k n
  | string s=>exact .string s
  | pointer a=>cases a<;>first | exact .ptr0 | cases h
  | slice a n c=>cases a<;>first | exact .sl0 n c | cases h
  | map a=>cases a<;>first | exact .map0 | cases h
  | nilFunc=>exact .func0
  | nilIface=>exact .iface0
  | iface t v=>exact .iface t (ih v h r)
  | agg xs=>exact .aggA (arr n xs ih h r)
  | tuple xs=>exact .tupA (arr n xs ih h r)
  | _=>cases h
def zB(P:Program)(t:TypeId):Bool:=match P.info? t with
 | some i=>match i.zero with
  | some v=>plB 8 v
  | none=>true
 | none=>true
theorem Z9K(h:zB P t=true): ZOk P t:=by
 intro i v h1 h2;unfold zB at h;rw[h1]at h;dsimp only at h;rw[h2]at h;exact ZgO 8 v h
def eqB(P:Program)(sj:Bool):Nat->TypeId->Bool
 | 0,_=>true
 | d+1,t=>match P.underlying t with
  | some .bool=>true
  | some .string=>true
  | some (.slice _)=>true
  | some (.map _ _)=>true
  | some (.func _ _ _)=>!sj
  | some (.int _)=>match P.info? t with
   | some i=>match i.desc with
    | .named n _=>n != "sync.copyChecker"
    | _=>true
   | none=>true
  | some (.struct fs)=>fs.all λf=>eqB P sj d f.type
  | some (.array _ e)=>eqB P sj d e
  | _=>false
theorem Za1{sj:Bool}(nj:sj=false->¬Jk.j):∀(d:Nat) (t:TypeId),eqB P sj d t=true->EqOk P d t
 | 0,_,_=>trivial
 | d+1,t,h=>by
  unfold eqB at h;unfold EqOk
  cases hu:P.underlying t with
  | none=>rw[hu]at h;cases h
  | some k =>
   rw[hu]at h
   cases k with
   | int _ =>
    intro i hi u e;rw[hi]at h;dsimp only at h;rw[e]at h;simp at h
   | struct fs=>exact λf hf=>Za1 nj d _ (Array.all_eq_true_iff_forall_mem.1 h f hf)
   | array n e=>exact Za1 nj d _ h
   | func _ _ _=>exact nj (by simpa using h)
   | _=>first | trivial | cases h
def seB(P:Program)(f:TypeId->Bool)(t:TypeId):Bool:=match P.underlying t with
 | some (.slice e)=>f e
 | _=>true
def rdB(gd:Nat->Bool):Operand->Bool
 | .const v=>plB 8 v
 | .global _=>false
 | .func f=>gd f
 | .tmp _=>true
def badB(P:Program):Bool:=(P.info? 1000000).isNone
def clB(P:Program)(gd:Nat->Bool)(sj:Bool)(c:Call):Bool:=c.args.all (rdB gd)&&match c.callee with
 | .value f=>rdB gd f&&badB P
 | .invoke _ _=>false
 | .builtin .append=>(match c.argTypes[1]? with
   | some t=>match P.underlying t with
    | some (.slice _)=>true
    | some .string=>true
    | _=>false
   | none=>true)&&match c.argTypes[0]? with
   | some t=>seB P (zB P) t
   | none=>true
 | .builtin .copy=>true
 | .builtin .len=>true
 | .builtin .cap=>true
 | .builtin .min=>true
 | .builtin .max=>true
 | .builtin .recover=>true
 | .builtin _=>false
def intB(P:Program)(t:TypeId):Bool:=match P.underlying t with
 | some (.int _)=>true
 | _=>false
def mapB(P:Program)(t:TypeId):Bool:=match P.underlying t with
 | some (.map k e)=>eqB P false Op.maxDepth k&&zB P e
 | _=>true
def opB(P:Program)(gd:Nat->Bool)(sj:Bool):Op->Bool
 | .move x=>rdB gd x
 | .assign x=>rdB gd x
 | .pick c a b=>rdB gd c&&(rdB gd a&&rdB gd b)
 | .alloc t=>zB P t
 | .box _ x=>rdB gd x
 | .build t ps=>zB P t&&ps.all λp=>rdB gd p.2
 | .buildSlice t _ ps=>seB P (zB P) t&&ps.all λp=>rdB gd p.2
 | .load _ a=>rdB gd a
 | .store _ a x=>rdB gd a&&rdB gd x
 | .nilCheck x=>rdB gd x&&badB P
 | .binOp .eql t x y _=>eqB P sj Op.maxDepth t&&(rdB gd x&&rdB gd y)
 | .binOp .neq t x y _=>eqB P sj Op.maxDepth t&&(rdB gd x&&rdB gd y)
 | .binOp _ t x y _=>rdB gd x&&rdB gd y
 | .unOp _ _ x=>rdB gd x
 | .convert s d x=>intB P s&&(intB P d&&rdB gd x)
 | .makeInterface _ x=>rdB gd x
 | .makeFunc (.func f) xs ys=>gd f&&(xs.all (rdB gd)&&ys.all (rdB gd))
 | .makeMap _ x=>x.all (rdB gd)
 | .makeSlice t l c=>seB P (zB P) t&&(rdB gd l&&rdB gd c)
 | .slice _ x lo hi mx=>rdB gd x&&(lo.all (rdB gd)&&(hi.all (rdB gd)&&mx.all (rdB gd)))
 | .fieldAddr _ x _=>rdB gd x
 | .indexAddr _ x i=>rdB gd x&&rdB gd i
 | .index _ x i=>rdB gd x&&rdB gd i
 | .lookup t x i _=>!sj&&(mapB P t&&(rdB gd x&&rdB gd i))
 | .mapUpdate t m k x=>!sj&&(mapB P t&&(rdB gd m&&(rdB gd k&&rdB gd x)))
 | .typeAssert x _ u ok=>ok&&(zB P u&&rdB gd x)
 | .extract t _=>rdB gd t
 | .call c=>clB P gd sj c
 | .defer c=>clB P gd sj c&&match c.callee with
  | .value (.func _)=>true
  | _=>false
 | .panic x=>rdB gd x
 | _=>false
section
variable{gd:Nat->Bool}{sj:Bool}(hgd:∀f,gd f=true->Jk.gd f)(nj:sj=false->¬Jk.j)
include hgd
theorem ZB{x:Operand}(h:rdB gd x=true): RdOk x:=by
 cases x with
 | tmp t=>trivial
 | const v=>exact ZgO 8 v h
 | global g=>cases h
 | func f=>exact hgd f h
theorem ZdI{xs:Array Operand}(h:xs.all (rdB gd)=true): ∀x∈xs,RdOk x:=λx hx=>ZB hgd (Array.all_eq_true_iff_forall_mem.1 h x hx)
theorem ZgP{xs:Array (Nat×Operand)}(h:(xs.all λp=>rdB gd p.2)=true): ∀x∈xs,RdOk x.2:=λx hx=>ZB hgd (Array.all_eq_true_iff_forall_mem.1 h x hx)
theorem ZaB{x:Option Operand}(h:x.all (rdB gd)=true): ∀y,x=some y->RdOk y:=by
 rintro y rfl;exact ZB hgd h
omit hgd in
theorem seB_ok{f:TypeId->Bool}(h:seB P f t=true){e:TypeId}(k:P.underlying t=some (.slice e)): f e=true:=by
 unfold seB at h;rw[k]at h;exact h
omit hgd in
theorem intB_ok(h:intB P t=true): ∃k,P.underlying t=some (.int k):=by
 unfold intB at h
 cases e:P.underlying t with
 | none=>rw[e]at h;cases h
 | some d =>
  rw[e]at h
  cases d<;>first | exact⟨_,rfl⟩ | cases h
omit hgd in
theorem badB_ok(h:badB P=true):Z7P P:=by simpa[badB,Z7P] using h
theorem Zgn(nj:sj=false->¬Jk.j){c:Call}(h:clB P gd sj c=true):ClOk P c:=by
 unfold clB at h;unfold ClOk;simp only[Y5]at h;refine⟨ZdI hgd h.1,?_⟩;have h2:=h.2
 cases hc:c.callee with
 | value f=>rw[hc]at h2;simp only[Y5]at h2;exact⟨ZB hgd h2.1,badB_ok h2.2⟩
 | invoke x n=>rw[hc]at h2;cases h2
 | builtin b =>
  rw[hc]at h2
  cases b<;>dsimp only at h2 ⊢ <;> first | trivial | (cases h2;done) | skip
  simp only[Y5]at h2;refine⟨λt ht=>?_,λt e ht he=>?_⟩
  ·have h3:=h2.1
   rw[ht]at h3;dsimp only at h3
   cases e:P.underlying t with
   | none=>rw[e]at h3;cases h3
   | some d =>
    rw[e]at h3
    cases d<;>first | exact .inl ⟨_,rfl⟩ | exact .inr rfl | cases h3
  ·have h3:=h2.2
   rw[ht]at h3;exact Z9K (seB_ok h3 he)
include nj
theorem Zdl(hs:sj=false)(h:mapB P t=true): ZbW P t:=by
 refine⟨nj hs,λk e he=>?_⟩;unfold mapB at h;rw[he]at h;simp only[Y5]at h;exact⟨Za1 (λ_=>nj hs) _ _ h.1,Z9K h.2⟩
theorem Zkp{o:Op}(h:opB P gd sj o=true):OpOk P o:=by
 unfold OpOk
 cases o with
 | move x=>exact ZB hgd h
 | assign x=>exact ZB hgd h
 | pick c a b=>simp only[opB,Y5]at h;exact⟨ZB hgd h.1,ZB hgd h.2.1,ZB hgd h.2.2⟩
 | alloc t=>exact Z9K h
 | box t x=>exact ZB hgd h
 | build t ps=>simp only[opB,Y5]at h;exact⟨Z9K h.1,ZgP hgd h.2⟩
 | buildSlice t n ps=>simp only[opB,Y5]at h;exact⟨λe he=>Z9K (seB_ok h.1 he),ZgP hgd h.2⟩
 | load t a=>exact ZB hgd h
 | store t a x=>simp only[opB,Y5]at h;exact⟨ZB hgd h.1,ZB hgd h.2⟩
 | nilCheck x=>simp only[opB,Y5]at h;exact⟨ZB hgd h.1,badB_ok h.2⟩
 | binOp op t x y u =>
  have:(op = .eql\/op = .neq->eqB P sj Op.maxDepth t=true)/\rdB gd x=true/\rdB gd y=true:=by
   cases op<;>simp only[opB,Y5]at h<;>first | exact⟨λ_=>h.1,h.2.1,h.2.2⟩ | exact⟨λq=>(by rcases q with q | q<;>cases q),h.1,h.2⟩
  exact⟨λq=>Za1 nj _ _ (this.1 q),ZB hgd this.2.1,ZB hgd this.2.2⟩
 | unOp op t x=>exact ZB hgd h
 | convert s d x=>simp only[opB,Y5]at h;exact⟨⟨intB_ok h.1,intB_ok h.2.1⟩,ZB hgd h.2.2⟩
 | makeInterface t x=>exact ZB hgd h
 | makeFunc fn xs ys =>
  cases fn with
  | func f=>simp only[opB,Y5]at h;exact⟨⟨f,rfl,hgd f h.1⟩,ZdI hgd h.2.1,ZdI hgd h.2.2⟩
  | _=>cases h
 | makeMap t x=>exact ZaB hgd h
 | makeSlice t l c=>simp only[opB,Y5]at h;exact⟨λe he=>Z9K (seB_ok h.1 he),ZB hgd h.2.1,ZB hgd h.2.2⟩
 | slice t x lo hi mx=>simp only[opB,Y5]at h;exact⟨ZB hgd h.1,ZaB hgd h.2.1,ZaB hgd h.2.2.1,ZaB hgd h.2.2.2⟩
 | fieldAddr t x n=>exact ZB hgd h
 | indexAddr t x i=>simp only[opB,Y5]at h;exact⟨ZB hgd h.1,ZB hgd h.2⟩
 | index t x i=>simp only[opB,Y5]at h;exact⟨ZB hgd h.1,ZB hgd h.2⟩
 | lookup t x i c=>simp only[opB,Y5,Bool.not_eq_true']at h;exact⟨Zdl hgd nj h.1 h.2.1,ZB hgd h.2.2.1,ZB hgd h.2.2.2⟩
 | mapUpdate t a b c=>simp only[opB,Y5,Bool.not_eq_true']at h;exact⟨Zdl hgd nj h.1 h.2.1,ZB hgd h.2.2.1,ZB hgd h.2.2.2.1,ZB hgd h.2.2.2.2⟩
 | typeAssert x t u ok=>simp only[opB,Y5]at h;exact⟨h.1,Z9K h.2.1,ZB hgd h.2.2⟩
 | extract t n=>exact ZB hgd h
 | call c=>exact Zgn hgd nj h
 | defer c =>
  simp only[opB,Y5]at h;refine⟨Zgn hgd nj h.1,?_⟩
  cases hc:c.callee with
  | value f =>
   have h2:=h.2;rw[hc]at h2
   cases f with
   | func g=>exact⟨_,rfl,g,rfl⟩
   | _=>cases h2
  | _=>have:=h.2;rw[hc]at this;cases this
 | panic x=>exact ZB hgd h
 | _=>cases h
def dfB:Op->Bool
 | .defer _=>false
 | _=>true
def jcB(jmp:Nat->Nat->Bool):Op->Bool
 | .call c=>(match c.callee with
  | .value (.func f)=>jmp f c.args.size
  | _=>false)&&c.args.all (λx=>match x with
   | .tmp _=>true
   | _=>false)
 | _=>false
def ZT(P:Program)(gd:Nat->Bool)(jmp:Nat->Nat->Bool)(sj J N:Bool):Bool->Code->Bool
 | b,.region _ ops _=>ops.all λo=>(opB P gd sj o.op||(J&&jcB jmp o.op))&&(dfB o.op || !(b||J))
 | b,.seq x y=>ZT P gd jmp sj J N b x&&ZT P gd jmp sj J N b y
 | b,.cond c x y=>rdB gd c&&(ZT P gd jmp sj J N b x&&ZT P gd jmp sj J N b y)
 | b,.block _ x=>ZT P gd jmp sj J N b x
 | b,.loop x=>ZT P gd jmp sj J N b x
 | b,.scope x=>ZT P gd jmp sj J N b x
 | _,.rangeFunc f _ x y=>(!N&&badB P)&&(rdB gd f&&(ZT P gd jmp sj false false true x&&ZT P gd jmp sj false false true y))
 | _,.refuse _=>false
 | _,_=>true
theorem Z27{jmp:Nat->Nat->Bool}(hj:∀f n,jmp f n=true->Jk.jmp f/\n=Jk.ar f){c:Code}:∀{J N b:Bool},ZT P gd jmp sj J N b c=true->Z0L P (J=true) (N=true) b c:=by
 induction c with
 | region i ops d =>
  intro J N b h o ho;have h1:=Array.all_eq_true_iff_forall_mem.1 h o ho;simp only[Y5,Yo]at h1;refine⟨?_,λhb c e=>?_⟩
  ·rcases h1.1 with q | ⟨q1,q2⟩
   ·exact .inl (Zkp hgd nj q)
   ·refine .inr ⟨q1,?_⟩
    unfold jcB at q2;unfold Zer
    cases hop:o.op with
    | call c =>
     rw[hop]at q2;simp only[Y5]at q2;refine⟨?_,λx hx=>?_⟩
     rotate_left
     ·have q3:=Array.all_eq_true_iff_forall_mem.1 q2.2 x hx
      cases x with
      | tmp t=>exact⟨t,rfl⟩
      | _=>cases q3
     cases hc:c.callee with
     | value f =>
      have h3:=q2.1;rw[hc]at h3
      cases f with
      | func f=>exact⟨f,rfl,hj f _ h3⟩
      | _=>cases h3
     | _=>have h3:=q2.1;rw[hc]at h3;cases h3
    | _=>rw[hop]at q2;cases q2
  ·have h2:=h1.2
   rw[e]at h2;simp only[dfB,Bool.false_eq_true,false_or,Bool.not_eq_true',Bool.or_eq_false_iff]at h2
   rcases hb with hb | hb
   ·rw[h2.1]at hb;cases hb
   ·rw[h2.2]at hb;cases hb
 | seq x y ihx ihy=>intro J N b h;simp only[ZT,Y5]at h;exact⟨ihx h.1,ihy h.2⟩
 | cond c x y ihx ihy=>intro J N b h;simp only[ZT,Y5]at h;exact⟨ZB hgd h.1,ihx h.2.1,ihy h.2.2⟩
 | block i x ih=>intro J N b h;exact ih h
 | loop x ih=>intro J N b h;exact ih h
 | scope x ih=>intro J N b h;exact ih h
 | rangeFunc f ps x y ihx ihy =>
  intro J N b h;simp only[ZT,Y5,Bool.not_eq_true']at h;obtain⟨⟨rfl,hbd⟩,h1,h2,h3⟩:=h;have e:(false=true)=False:=by simp
  have hx:=ihx h2;have hy:=ihy h3;rw[e]at hx hy⊢;exact⟨ZB hgd h1,hx,hy,id,badB_ok hbd⟩
 | refuse y=>intro J N b h;cases h
 | _=>intro J N b h;trivial
end
end
end Lift
namespace Lift
open Go Go.Conc
section
variable[Jk]
variable{P:Program}{C:Inv}{r r':Ren}{v v' w w':World}
theorem Z82(h:WH C r v w){b c:Nat}(hb:r b=some c){cs:Array Value}{e:TypeId}(q:v.heap[b]?=some (.cells cs e (0,0)))(hs:cs.size≠0): ∃cs',w.heap[c]?=some (.cells cs' e (0,0))/\VRs r cs cs':=by
 obtain⟨o,o',h1,h2,h3⟩:=h.on _ _ hb;rw[q]at h1;obtain rfl:=Y1 h1
 cases h3 with
 | cells p hf =>
  rcases hf with⟨_,rfl⟩ | hf
  ·exact⟨_,h2,p⟩
  ·simp only[Y9,true_and]at hf
   exact absurd hf.symm hs
end
end Lift
namespace Lift
open Go
def gB(k:Nat):Bool:=Qy.own.elem k
theorem Z65(h:gB k=true): k∈Qy.own:=List.elem_iff.1 h
abbrev jkN:Jk:={j:=False,rest:=[],gd:=λf=>gB f=true}
noncomputable def okFn(k:Nat):Bool:=match Tryz.prog.funcs[k]? with
 | some fn=>!(fn.name == "runtime.NumGoroutine")&&match fn.body with
  | some c=>ZT Tryz.prog gB (λ_ _=>false) false false false false c
  | none=>false
 | none=>false
theorem Zkq:Qy.own.all okFn=true:=by kernel_rfl
theorem Zdy (h:gB k=true): ∃fn c,Tryz.prog.funcs[k]?=some fn/\(fn.name == "runtime.NumGoroutine")=false/\fn.body=some c/\ZT Tryz.prog gB (λ_ _=>false) false false false false c=true:=by
 have h1:=Yl.1 Zkq k (Z65 h);unfold okFn at h1
 cases e:Tryz.prog.funcs[k]? with
 | none=>rw[e]at h1;cases h1
 | some fn =>
  rw[e]at h1;simp only[Y5,Bool.not_eq_true']at h1
  cases eb:fn.body with
  | none=>have:=h1.2;rw[eb]at this;cases this
  | some c=>have:=h1.2;rw[eb]at this;exact⟨fn,c,rfl,h1.1,eb,this⟩
section
variable{J:Jk}(nj:¬J.j)(hg:∀f,J.gd f↔gB f=true)(hl:∀f,gB f=true->¬J.law f)(μ:Nat)
include nj hg hl
theorem ZfZ:@Strip J Tryz.prog (Qy.F μ) (@CodeOk J Tryz.prog false) (λf=>gB f=true):=by
 refine @Strip.mk J _ _ _ _ (λf h=>⟨Qy.same μ f (Z65 ((hg f).1 h)),hl f ((hg f).1 h)⟩) (λf fn h e=>?_) (λf fn c h e eb=>?_) (λf fn h e eb=>?_)<;>rw[Qy.same μ f (Z65 ((hg f).1 h))]at e<;>obtain⟨fn',c',h1,h2,h3,h4⟩:=Zdy ((hg f).1 h)<;>rw[h1]at e<;>obtain rfl:=Y1 e
 ·exact h2
 ·rw[h3]at eb
  obtain rfl:=Y1 eb;refine⟨h1,?_,(hg f).1 h⟩;have:=@Z27 J Tryz.prog gB false (λf q=>(hg f).2 q) (λ_=>nj) (λ_ _=>false) (λf n q=>by cases q) c' false false false h4;have e2:(false=true)=False:=by simp
  rw[e2]at this;exact this
 ·rw[h3]at eb;cases eb
theorem ZjS:@GOk J Tryz.prog (Qy.F μ) (λf=>gB f=true):=by
 intro f h;obtain⟨fn,c,h1,h2,h3,h4⟩:=Zdy h;have e:=Qy.same μ f (Z65 h);exact⟨e,⟨fn,c,e.trans h1,h3⟩,(hg f).2 h,hl f h⟩
end
theorem ZkM(μ:Nat):@Strip jkN Tryz.prog (Qy.F μ) (@CodeOk jkN Tryz.prog false) (λf=>gB f=true):=ZfZ (J:=jkN) id (λ_=>Iff.rfl) (λ_ _ h=>h) μ
theorem gokN(μ:Nat):@GOk jkN Tryz.prog (Qy.F μ) (λf=>gB f=true):=ZjS (J:=jkN) id (λ_=>Iff.rfl) (λ_ _ h=>h) μ
theorem recP:Tryz.prog.follows .rangeFuncRecover=true:=by kernel_rfl
theorem recN:@Rec jkN Tryz.prog:=⟨recP,λ_ h=>h⟩
def gT(k:Nat):Bool:=[79,67,80,68,88,82,83,102,118].elem k
noncomputable def okgT(k:Nat):Bool:=Qy.own.elem k&&match Tryz.prog.funcs[k]? with
 | some fn=>!(fn.name == "runtime.NumGoroutine")&&match fn.body with
  | some c=>ZT Tryz.prog gT (λ_ _=>false) true false false false c
  | none=>false
 | none=>false
theorem ZlO:[79,67,80,68,88,82,83,102,118].all okgT=true:=by kernel_rfl
theorem Z7m (h:gT k=true): k∈Qy.own/\∃fn c,Tryz.prog.funcs[k]?=some fn/\(fn.name == "runtime.NumGoroutine")=false/\fn.body=some c/\ZT Tryz.prog gT (λ_ _=>false) true false false false c=true:=by
 have h1:=Yl.1 ZlO k (List.elem_iff.1 h);unfold okgT at h1;rw[Y5]at h1;obtain⟨h0,h1⟩:=h1;refine⟨List.elem_iff.1 h0,?_⟩
 cases e:Tryz.prog.funcs[k]? with
 | none=>rw[e]at h1;cases h1
 | some fn =>
  rw[e]at h1;simp only[Y5,Bool.not_eq_true']at h1
  cases eb:fn.body with
  | none=>have:=h1.2;rw[eb]at this;cases this
  | some c=>have:=h1.2;rw[eb]at this;exact⟨fn,c,rfl,h1.1,eb,this⟩
section
variable{J:Jk}(hj:J.j)(hg:∀f,J.gd f↔gT f=true)(hl:∀f,¬J.law f)(μ:Nat)
include hg hl
include hj in
theorem strip_T:@Strip J Tryz.prog (Qy.F μ) (@CodeOk J Tryz.prog false) (λf=>gT f=true):=by
 refine @Strip.mk J _ _ _ _ (λf h=>⟨Qy.same μ f (Z7m ((hg f).1 h)).1,hl f⟩) (λf fn h e=>?_) (λf fn c h e eb=>?_) (λf fn h e eb=>?_)<;>rw[Qy.same μ f (Z7m ((hg f).1 h)).1]at e<;>obtain⟨_,fn',c',h1,h2,h3,h4⟩:=Z7m ((hg f).1 h)<;>rw[h1]at e<;>obtain rfl:=Y1 e
 ·exact h2
 ·rw[h3]at eb
  obtain rfl:=Y1 eb;refine⟨h1,?_,(hg f).1 h⟩;have:=@Z27 J Tryz.prog gT true (λf q=>(hg f).2 q) (λq=>by cases q) (λ_ _=>false) (λf n q=>by cases q) c' false false false h4;have e2:(false=true)=False:=by simp
  rw[e2]at this;exact this
 ·rw[h3]at eb;cases eb
theorem ZhJ:@GOk J Tryz.prog (Qy.F μ) (λf=>gT f=true):=by
 intro f h;obtain⟨h0,fn,c,h1,h2,h3,h4⟩:=Z7m h;have e:=Qy.same μ f h0;exact⟨e,⟨fn,c,e.trans h1,h3⟩,(hg f).2 h,hl f⟩
omit hg in
theorem rec_T:@Rec J Tryz.prog:=⟨recP,hl⟩
end
end Lift
namespace Lift
open Go Go.Conc
def PV(S:Nat->Prop):Value->Prop
 | .int _ _=>True
 | .bool _=>True
 | .pointer (some a)=>S a.block
 | .slice none _ _=>True
 | .slice (some a) _ _=>S a.block
 | _=>False
open Classical in
noncomputable def idS(S:Nat->Prop):Ren:=λb=>if S b then some b else none
theorem Z1E{S:Nat->Prop}{b:Nat}(h:S b): idS S b=some b:=if_pos h
theorem Z0x{S:Nat->Prop}{b c:Nat}(h:idS S b=some c): S b/\c=b:=by
 unfold idS at h
 split at h
 ·exact⟨by assumption,(Y1 h).symm⟩
 ·cases h
theorem Zd1(S:Nat->Prop):Inj (idS S):=λa b c h k=>by rw[<-(Z0x h).2,<-(Z0x k).2]
theorem ZhL(S:Nat->Prop):Idn (idS S):=λb c h=>(Z0x h).2
section
variable[Jk]{S:Nat->Prop}{r:Ren}{w:World}
theorem PV.vr{x:Value}(h:PV S x):VR (idS S) x x:=by
 cases x with
 | int k n=>exact .int k n
 | bool b=>exact .bool b
 | pointer a =>
  cases a with
  | none=>exact h.elim
  | some a=>exact .ptr (.mk (Z1E h))
 | slice a n c =>
  cases a with
  | none=>exact .sl0 n c
  | some a=>exact .sl n c (.mk (Z1E h))
 | _=>exact h.elim
theorem PV.same(hi:Idn r){y: Value}(h:PV S x)(k:VR r x y): y=x:=by
 cases k with
 | int k n=>rfl
 | bool b=>rfl
 | ptr q=>rw[q.id hi]
 | sl0 n c=>rfl
 | sl n c q=>rw[q.id hi]
 | _=>exact h.elim
theorem Zax{R:Value->Value->Prop}(h:∀(i:Nat) y,ys[i]?=some y->∃x,R x y): ∃xs:Array Value,Arr R xs ys:=by
 have h':∀i:Fin ys.size,∃x,R x ys[i]:=λi=>h i _ (Y2 i.2);obtain⟨f,hf⟩:=Classical.axiomOfChoice h';refine⟨Array.ofFn f,by simp,λi x y a b=>?_⟩;obtain⟨h1,h2⟩:=Y0.1 b;have h3:i<(Array.ofFn f).size:=by simpa using h1
 rw[Y2 h3]at a;simp only[Array.getElem_ofFn,Y4]at a;have:=hf ⟨i,h1⟩;rw[a]at this;exact h2▸this
theorem Zhy(j:Jk.j):∀(n:Nat) (y:Value),SizeOf.sizeOf y<n->∃x,VR r x y:=by
 intro n
 induction n with
 | zero=>intro y h;exact absurd h (Nat.not_lt_zero _)
 | succ n ih =>
  intro y hy;have junk:(∀xs,y ≠ .agg xs)->(y ≠ .nilIface/\∀xs,y ≠ .tuple xs)->(y ≠ .pointer none/\y ≠ .nilFunc/\∀b,y ≠ .bool b)->∃x,VR r x y:=λa b c=>⟨J0,.junk (.inl j) a b c⟩;have arr:∀ys:Array Value,SizeOf.sizeOf ys<n->∃xs,VRs r xs ys:=λys hs=>Zax λi y hi=>ih y (by
   have:=Array.sizeOf_lt_of_mem (Yk hi);omega)
  cases y with
  | bool b=>exact⟨_,.bool b⟩
  | int k n=>exact⟨_,.int k n⟩
  | string s=>exact⟨_,.string s⟩
  | pointer a =>
   cases a with
   | none=>exact⟨_,.ptr0⟩
   | some a=>exact junk (by simp) ⟨by simp,by simp⟩ (by simp)
  | nilFunc=>exact⟨_,.func0⟩
  | nilIface=>exact⟨_,.iface0⟩
  | agg ys =>
   obtain⟨xs,h⟩:=arr ys (by simp only[Value.agg.sizeOf_spec]at hy;omega);exact⟨_,.aggA h⟩
  | tuple ys =>
   obtain⟨xs,h⟩:=arr ys (by simp only[Value.tuple.sizeOf_spec]at hy;omega);exact⟨_,.tupA h⟩
  | _=>exact junk (by simp) ⟨by simp,by simp⟩ (by simp)
theorem Zgt(j:Jk.j)(ys:Array Value):∃xs:Array Value,VRs (idS S) xs ys/\∀(i:Nat) y,ys[i]?=some y->PV S y->xs[i]?=some y:=by
 have:=Zax (R:=λx y=>VR (idS S) x y/\(PV S y->x=y)) (ys:=ys) λi y hi=>by
  by_cases h:PV S y
  ·exact⟨y,h.vr,λ_=>rfl⟩
  ·obtain⟨x,hx⟩:=Zhy (r:=idS S) j _ y (Nat.lt_succ_self _)
   exact⟨x,hx,λq=>absurd q h⟩
 obtain⟨xs,h1,h2⟩:=this;refine⟨xs,⟨h1,λi x y a b=>(h2 i x y a b).1⟩,λi y hi hp=>?_⟩;have h3:i<xs.size:=by rw[h1];exact(Y0.1 hi).1
 have:=(h2 i _ y (Y2 h3) hi).2 hp;rw[Y2 h3,this]
structure Shadow(S:Nat->Prop)(w v:World):Prop where
 size:v.heap.size=w.heap.size
 os:v.os=w.os
 at_:∀c,S c->∀cs e fz,w.heap[c]?=some (.cells cs e fz)->∃cs',v.heap[c]?=some (.cells cs' e (0,cs'.size))/\cs'.size=cs.size/\∀(i:Nat) x,cs[i]?=some x->PV S x->cs'[i]?=some x
theorem Z1S{P:Program}{F:Array Func}(j:Jk.j)(h:∀c,S c->∃cs e fz,w.heap[c]?=some (.cells cs e fz)):∃v,Shadow S w v/\WH (Iv P F) (idS S) v w/\∀b c,idS S b=some c->Shut v b:=by
 obtain⟨f,hf⟩:=Classical.axiomOfChoice λys:Array Value=>Zgt (S:=S) j ys
 classical
 let g:Nat->Obj->Obj:=λc o=>if S c then(match o with
  | .cells cs e _=>.cells (f cs) e (0,(f cs).size)
  | o=>o) else o
 have hg:∀c,S c->∀cs e fz,w.heap[c]?=some (.cells cs e fz)->(w.heap.mapIdx g)[c]?=some (.cells (f cs) e (0,(f cs).size)):=by
  intro c hc cs e fz hx;rw[Array.getElem?_mapIdx,hx];simp only[Option.map_some,g,if_pos hc]
 refine⟨{w with heap:=w.heap.mapIdx g},⟨by simp,rfl,λc hc cs e fz hx=>⟨f cs,hg c hc cs e fz hx,(hf cs).1.1,λi x hi hp=>(hf cs).2 i x hi hp⟩⟩,⟨λb c hb=>?_,Zd1 S,rfl⟩,λb c hb=>?_⟩
 ·obtain⟨hs,rfl⟩:=Z0x hb
  obtain⟨cs,e,fz,hx⟩:=h _ hs;exact⟨_,_,hg _ hs cs e fz hx,hx,.cells (hf cs).1 (.inr rfl)⟩
 ·obtain⟨hs,rfl⟩:=Z0x hb
  obtain⟨cs,e,fz,hx⟩:=h _ hs;exact⟨_,_,hg _ hs cs e fz hx⟩
end
end Lift
end Go.Proofs.YtfelljbfeoplhaaGreat
