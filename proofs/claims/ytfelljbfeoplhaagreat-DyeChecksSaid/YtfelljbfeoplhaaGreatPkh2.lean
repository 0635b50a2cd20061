/- Parts of a proof. No conditions. -/
import Derived.Calls
import Derived.Conc.Beside
import Derived.Test.YtfelljbfeoplhaaGreatPkh1
set_option linter.unusedVariables false
set_option linter.unusedSimpArgs false
set_option linter.unusedSectionVars false
set_option maxRecDepth 100000
set_option maxHeartbeats 4000000
namespace Go.Proofs.YtfelljbfeoplhaaGreat
variable{d:Go.Deferred}{b c k l l':Nat}{g:Go.Frame}{α:Type}{Q:Go.Program}{fn:Go.FuncId}{gs:Array Go.Goroutine}{q:Nat->Nat}{ys:Array Go.Value}{t:Go.TypeId}
namespace Lift
open Go
variable[Jk]
section
variable{P:Program}{F:Array Func}{G:FuncId->Prop}{r:Ren}{cs:List Frame}{v w:World}
theorem ZJ.go{f: Frame}{A B:List Frame}{v' w':World}{r':Ren}{es ns:Array Event}(h:Stk P F r' (f::A) (g::B))(hw:WR (Iv P F) r' v' w')(hk:Kept r r' v v' w w')(he:∀e∈ns,EvG r' v w' e):
  ZJ P F cs r v w (.go (run1 f (A++[poison])) v' es) (.go (run1 g (B++cs)) w' ns):=.inr ⟨r',g,B++cs,w',ns,rfl,rfl,rfl,rfl,⟨f::A,g::B,rfl,rfl,sU,h⟩,hw,hk,he⟩
theorem Z5n{f: Frame}{A B:List Frame}(hs:Stk P F r (f::A) (g::B)):
  (tryRecover f (A++[poison])=none/\tryRecover g (B++cs)=none)\/∃x A' y B',tryRecover f (A++[poison])=some (x,A'++[poison])/\tryRecover g (B++cs)=some (y,B'++cs)/\VR r x y/\Stk P F r A' B'/\Low f A':=by
 obtain⟨hf,hs,hd⟩:=hs.uncons;obtain⟨k1,k2⟩:=hf.kind;rcases k2 with k2 | k2
 ·refine .inl ⟨?_,?_⟩
  ·unfold tryRecover;rw[k2]
  ·unfold tryRecover;rw[<-k1,k2]
 ·obtain⟨c,cb⟩:=hs;cases c with
  | nil =>
   rcases hd.1 with hd | hd
   ·rw[k2]at hd;cases hd
   ·exact absurd rfl hd
  | @cons a b az bs hab hrest =>
   have km:=hab.mode;simp only[List.cons_append];unfold tryRecover;rw[<-k1,k2];dsimp only;generalize ha:a.mode=am at km;generalize hb:b.mode=bm at km;cases km with
   | run=>exact .inl ⟨rfl,rfl⟩
   | returning=>exact .inl ⟨rfl,rfl⟩
   | panicking q =>
    cases q with
    | nil=>exact .inl ⟨rfl,rfl⟩
    | @cons p q ps qs hpq hps =>
     obtain⟨pv,pr,pg⟩:=p;obtain⟨qv,qr,qg⟩:=q;obtain⟨h1,h2,h3⟩:=hpq;obtain rfl:pr=qr:=h2;obtain rfl:pg=qg:=h3;cases pr<;>cases pg<;>first | exact .inl ⟨rfl,rfl⟩ | skip
     obtain⟨hfr,hst,hk⟩:=Stk.uncons (P:=P) (F:=F) (r:=r) (f:=a) (g:=b) ⟨.cons hab hrest,cb⟩;refine .inr ⟨_,_::az,_,_::bs,rfl,rfl,h1,hst.cons ⟨hab.fn,hab.own,hab.tmps,hab.todo,hab.defers,.panicking (.cons ⟨h1,rfl,rfl⟩ hps),hab.kind,hab.round⟩ hk,.inr sU,λ_=>hd.2 sU⟩
theorem Z7y{f: Frame}(h:FrR P F r f g): (∀d b x s k,f.todo ≠ .call d b x s::k)/\∀d b x s k,g.todo ≠ .call d b x s::k:=by
 have:=h.todo;constructor
 ·intro d b x s k e;rw[e]at this;generalize g.todo=y at this;cases this with
  | cons a _=>cases a
 ·intro d b x s k e;rw[e]at this;generalize f.todo=y at this;generalize hz:(Item.call d b x s::k)=z at this;cases this with
  | nil=>cases hz
  | cons a _=>cases hz;cases a
  | tail _ hk=>cases hk _ (by rw[<-hz];rfl)
  | cut _ _ _=>cases hz
theorem Z0Y(S:Strip P F (CodeOk P false) G){f:FuncId}{xs ys:Array Value}(h:VRs r xs ys)(g:G f)(hg:∀f,G f->F[f]?=P.funcs[f]?/\(∃fn c,F[f]?=some fn/\fn.body=some c)/\Jk.gd f/\¬Jk.law f){k:CallKind}(hk:k = .normal\/k = .deferred):
  FrR P F r (Frame.enter (PF P F) f xs k) (Frame.enter P f ys k):=by
 obtain⟨e,⟨fn,c,hf,hc⟩,gf,nl⟩:=hg f g;have e0:(PF P F).funcs=F:=rfl;have hp:P.funcs[f]?=some fn:=e▸hf;unfold Frame.enter;rw[e0,hf,hp];obtain⟨_,h2,_⟩:=S.own f fn c gf hf hc;refine⟨rfl,e,?_,?_,⟨.nil,λ_=>rfl⟩,.run,⟨rfl,hk⟩,.none⟩
 ·simp only[h.1];exact h.append (Arr.replicate _ .undef)
 ·simp only[Option.bind_some,hc,Option.getD_some];exact .cons (.code (J:=Jk.law f) (N:=¬Jk.gd f) (h2.weak nl (λh=>h gf))) .nil
theorem Z8p{f:FuncId}{xs:Array Value}{k:CallKind}{A:List Frame}{P:Program}(nl:¬Jk.law f)(h:k = .normal\/A≠[]): Low (Frame.enter P f xs k) A:=⟨h,λ_=>nl⟩
def GOk(P:Program)(F:Array Func)(G:FuncId->Prop):Prop:=∀f,G f->F[f]?=P.funcs[f]?/\(∃fn c,F[f]?=some fn/\fn.body=some c)/\Jk.gd f/\¬Jk.law f
def Z2i(fr:Frame):CallKind:=match fr.todo with | .call _ true _ _::_=>.wrapped | _=>.normal
def lst(P:Program)(fr:Frame)(s:Sem Next)(w:World):Array Event:=seen P fr.fn (if fr.kind == .early then #[] else s.events P w #[])
section
variable{f:Frame}{C:List Frame}{s:Sem Next}{w':World}
theorem Z0c{x:Value}(h:s.run P w = .ok (.value x) w'): stepG.apply P true f C none s w = .after (lst P f s w) (.go (run1 (f.finish x) C) w'):=by
 unfold stepG.apply;simp only[if_true,Yf,h];rfl
theorem Z2z(h:s.run P w = .ok .skip w'):stepG.apply P true f C none s w = .after (lst P f s w) (.go (run1 (f.finish undef) C) w'):=by
 unfold stepG.apply;simp only[if_true,Yf,h];rfl
theorem Z0q{x:FuncId}{xs:Array Value}(h:s.run P w = .ok (.enter x xs) w'): stepG.apply P true f C none s w = .after (lst P f s w) (.go (run1 (Frame.enter P x xs (Z2i f)) (f::C)) w'):=by
 unfold stepG.apply;simp only[if_true,Yf,h];rfl
theorem Z32{x:FuncId}{xs:Array Value}{a b:Code}(h:s.run P w = .ok (.round l x xs a b) w'): stepG.apply P true f C none s w = .after (lst P f s w) (.go (run1 (Frame.round l x xs a b .normal) (f::C)) w'):=by
 unfold stepG.apply;simp only[if_true,Yf,h];rfl
theorem Z1O(h:s.run P w = .ok (.defer d) w'): stepG.apply P true f C none s w = .after (lst P f s w) (.go (run1 (Frame.finish {f with defers:=d::f.defers} undef) C) w'):=by
 unfold stepG.apply;simp only[if_true,Yf,h];rfl
theorem Z31{x:Value}(h:s.run P w = .halt (.panic x) w'): stepG.apply P true f C none s w = .after (lst P f s w) (.go (run1 (f.raise [{v:=x,recovered:=false}]) C) w'):=by
 unfold stepG.apply;simp only[if_true,Yf,h];rfl
theorem Z2y(hrec:P.follows .rangeFuncRecover=true)(h:s.run P w = .ok .recover w')(k:tryRecover f C=none):stepG.apply P true f C none s w = .after (lst P f s w) (.go (run1 (f.finish .nilIface) C) w'):=by
 unfold stepG.apply;simp only[if_true,Yf,h,hrec,k];cases f.roundOf<;>rfl
theorem Z42(hrec:P.follows .rangeFuncRecover=true){x:Value}{C':List Frame}(h:s.run P w = .ok .recover w')(k:tryRecover f C=some (x,C')): stepG.apply P true f C none s w = .after (lst P f s w) (.go (run1 (f.finish x) C') w'):=by
 unfold stepG.apply;simp only[if_true,Yf,h,hrec,k];cases f.roundOf<;>rfl
theorem Z41{x:Halt}(h:s.run P w = .halt x w')(d:Dies x):∃o w2 es,stepG.apply P true f C none s w = .ended o w2 es:=by
 unfold stepG.apply;simp only[if_true,Yf,h];cases x with
 | stuck y=>exact⟨_,_,_,rfl⟩
 | unsupported y=>cases y<;>first | exact⟨_,_,_,rfl⟩ | exact d.elim
 | _=>exact d.elim
end
theorem Z5c{f: Frame}(h:FrR P F r f g): Z2i f = .normal/\Z2i g = .normal:=by
 have:=h.todo;unfold Z2i;generalize f.todo=x at this⊢;generalize g.todo=y at this⊢;cases this with
 | nil=>exact⟨rfl,rfl⟩
 | cons a b=>cases a<;>exact⟨rfl,rfl⟩
 | cut _ _ _=>exact⟨rfl,rfl⟩
 | tail _ hk =>
  refine⟨rfl,?_⟩;split
  ·rename_i e;cases hk _ (by rw[e];rfl)
  ·rfl
theorem Z4Z(S:Strip P F (CodeOk P false) G)(hg:GOk P F G)(hrec:P.follows .rangeFuncRecover=true){f: Frame}{A B:List Frame}(hs:Stk P F r (f::A) (g::B))(hw:WR (Iv P F) r v w){s s':Sem Next}{df:Prop}(hdf:df->¬Jk.law f.fn)(h:SR (PF P F) P (Iv P F) (NR (Iv P F) G df) r s s'): ZJ P F cs r v w (stepG.apply (PF P F) true f (A++[poison]) none s v) (stepG.apply P true g (B++cs) none s' w):=by
 obtain⟨hf,hst,hd⟩:=hs.uncons;have o:=h.sim v w hw #[];have ke2:(g.kind==CallKind.early)=false:=by rw[<-hf.kind.1];rcases hf.kind.2 with q | q<;>rw[q]<;>rfl
 have go_:∀{r':Ren} {f' g':Frame} {A' B':List Frame} {v' w':World} {ns:Array Event} (e1:Array Event),s'.events P w #[]=#[]++ns->Stk P F r' (f'::A') (g'::B')->WR (Iv P F) r' v' w'->Kept r r' v v' w w'->(∀e∈ns,EvG r' v w' e) ->
   ZJ P F cs r v w (.after e1 (.go (run1 f' (A'++[poison])) v')) (.after (lst P g s' w) (.go (run1 g' (B'++cs)) w')):=by
  intro r' f' g' A' B' v' w' ns e1 he h1 h2 h3 h4;refine ZJ.go h1 h2 h3 λe hm=>?_;simp only[Array.append_empty]at hm;have:=Conc.mem_seen hm;rw[ke2,he]at this;simp only[Bool.false_eq_true,if_false,Array.empty_append]at this;exact h4 e this
 rw[Yf]at o;cases hr:s.run (PF P F) v with
 | halt x v' =>
  rw[hr]at o;cases x with
  | panic x =>
   obtain⟨r',x',w',ns,e,hw',hx,hk,he⟩:=o;simp only[Y9]at e;rw[Z31 hr,Z31 e.1];exact go_ _ e.2 ((hst.mono hk.le).cons ((hf.mono hk.le).raise (.cons ⟨hx,rfl,rfl⟩ .nil)) (hd.raise _)) hw' hk he
  | stuck y =>
   obtain⟨o2,w2,es,e⟩:=Z41 (f:=f) (C:=A++[poison]) hr trivial;rw[e];trivial
  | unsupported y =>
   obtain⟨o2,w2,es,e⟩:=Z41 (f:=f) (C:=A++[poison]) hr o;rw[e];trivial
  | _=>exact o.elim
 | ok n v' =>
  rw[hr]at o;obtain⟨r',b,w',ns,e,hw',hn,hk,he⟩:=o;simp only[Y9]at e;obtain⟨e1,e2⟩:=e;have hf':=hf.mono hk.le;have hst':=hst.mono hk.le;cases hn with
  | value q =>
   rw[Z0c hr,Z0c e1];exact go_ _ e2 (hst'.cons (hf'.finish q) (hd.finish _)) hw' hk he
  | skip =>
   rw[Z2z hr,Z2z e1];exact go_ _ e2 (hst'.cons (hf'.finish .undef) (hd.finish _)) hw' hk he
  | enter gf q =>
   rw[Z0q hr,Z0q e1,(Z5c hf).1,(Z5c hf).2];exact go_ (A':=f::A) (B':=g::B) _ e2 ((hst'.cons hf' hd).cons (Z0Y S q gf hg (.inl rfl)) (Z8p (hg _ gf).2.2.2 (.inl rfl))) hw' hk he
  | round hl hn q ha hb =>
   rw[Z32 hr,Z32 e1];refine go_ (A':=f::A) (B':=g::B) _ e2 ((hst'.cons hf' hd).cons ?_ ⟨.inl rfl,λ_=>(S.same _ hn).2⟩) hw' hk he;exact⟨rfl,(S.same _ hn).1,q,.cons (.code (ha.weak (S.same _ hn).2 (λh=>h hn))) (.cons .begin_ (.cons (.code (hb.weak (S.same _ hn).2 (λh=>h hn))) .nil)),⟨.nil,λ_=>rfl⟩,.run,⟨rfl,.inl rfl⟩,.some hl⟩
  | defer dq q =>
   rw[Z1O hr,Z1O e1];have hfd:FrR P F r' {f with defers:=_::f.defers} {g with defers:=_::g.defers}:=⟨hf'.fn,hf'.own,hf'.tmps,hf'.todo,⟨.cons q hf'.defers.1,λl=>absurd l (hdf dq)⟩,hf'.mode,hf'.kind,hf'.round⟩;refine go_ (A':=A) (B':=B) _ e2 (hst'.cons (hfd.finish .undef) (Low.finish (f:={f with defers:=_::f.defers}) hd _)) hw' hk he
  | recover =>
   rcases Z5n (cs:=cs) (hst'.cons hf' hd) with⟨h1,h2⟩ | ⟨x,A',y,B',h1,h2,h3,h4,h5⟩
   ·rw[Z2y (P:=PF P F) hrec hr h1,Z2y hrec e1 h2];exact go_ _ e2 (hst'.cons (hf'.finish .iface0) (hd.finish _)) hw' hk he
   ·rw[Z42 (P:=PF P F) hrec hr h1,Z42 hrec e1 h2];exact go_ _ e2 (h4.cons (hf'.finish h3) (h5.finish _)) hw' hk he
end
end Lift
namespace Lift
open Go
variable[Jk]
section
variable{P:Program}{F:Array Func}{G:FuncId->Prop}{r:Ren}{cs:List Frame}{v w:World}
theorem ZJ.lift{r₁:Ren}{v₁ w₁:World}{x y:GStep}{e1 e2:Array Event}(hk:Kept r r₁ v v₁ w w₁)(he:∀e∈e2,EvG r₁ v w₁ e)(h:ZJ P F cs r₁ v₁ w₁ x y):ZJ P F cs r v w (.after e1 x) (.after e2 y):=by
 cases x with
 | go g v' es =>
  rcases h with h | ⟨r',f,W,w',ns,rfl,h1,h2,h3,h4,h5,h6,h7⟩
  ·exact .inl h
  ·refine .inr ⟨r',f,W,w',e2++ns,rfl,h1,h2,h3,h4,h5,hk.trans h6,λe hm=>?_⟩;rcases Array.mem_append.1 hm with q | q
   ·exact(he e q).more h6.le h6.sizeW
   ·exact(h7 e q).lift hk
 | ended o v' es=>trivial
 | _=>exact h.elim
theorem ZJ.still{f: Frame}{A B:List Frame}(h:Stk P F r (f::A) (g::B))(hw:WR (Iv P F) r v w): ZJ P F cs r v w (.go (run1 f (A++[poison])) v) (.go (run1 g (B++cs)) w):=ZJ.go h hw (Kept.refl _ _ _) sU
theorem ZfY{ps qs:List PanicEntry}(h:Lis (PR r) ps qs):Lis (PR r) (ps.dropWhile (!·.goexit)) (qs.dropWhile (!·.goexit)):=by
 induction h with
 | nil=>exact .nil
 | cons a t ih =>
  rw[List.dropWhile_cons,List.dropWhile_cons,a.2.2];split
  ·exact ih
  ·exact .cons a t
theorem Z2c{f: Frame}{A B:List Frame}(hs:Stk P F r (f::A) (g::B))(hw:WR (Iv P F) r v w){x y:Value}(hx:VR r x y){m:Bool}:
  ZJ P F cs r v w (doReturn (PF P F) true f (A++[poison]) none x v) (doReturn P m g (B++cs) none y w):=by
 obtain⟨hf,hst,hd⟩:=hs.uncons;obtain⟨c,cb⟩:=hst;obtain⟨k1,k2⟩:=hf.kind;cases c with
 | nil =>
  have hk:=hd.1.resolve_right sU;unfold doReturn;simp only[List.nil_append,hk];exact .inl (.inl rfl)
 | @cons a b az bs hab hrest =>
  obtain⟨hfr,hst,hk⟩:=Stk.uncons (P:=P) (F:=F) (r:=r) (f:=a) (g:=b) ⟨.cons hab hrest,cb⟩;unfold doReturn;simp only[List.cons_append,<-k1];rcases k2 with k2 | k2
  ·simp only[k2];exact ZJ.still (hst.cons (hfr.finish hx) (hk.finish _)) hw
  ·simp only[k2];have km:=hfr.mode;have out:∀{am bm:FrameMode},MR r am bm->ZJ P F cs r v w (.go (run1 {a with mode:=am} (az++[poison])) v) (.go (run1 {b with mode:=bm} (bs++cs)) w):=λq =>
    ZJ.still (hst.cons ⟨hfr.fn,hfr.own,hfr.tmps,hfr.todo,hfr.defers,q,hfr.kind,hfr.round⟩ hk) hw
   have same:ZJ P F cs r v w (.go (run1 a (az++[poison])) v) (.go (run1 b (bs++cs)) w):=ZJ.still (hst.cons hfr hk) hw;generalize ha:a.mode=am at km;generalize hb:b.mode=bm at km;cases km with
   | run=>exact same
   | returning=>exact same
   | panicking q =>
    cases q with
    | nil=>exact same
    | @cons p q ps qs hpq hps =>
     obtain⟨pv,pr,pg⟩:=p;obtain⟨qv,qr,qg⟩:=q;obtain⟨h1,h2,h3⟩:=hpq;obtain rfl:pr=qr:=h2;cases pr
     ·exact same
     ·have:=ZfY hps;dsimp only;generalize ps.dropWhile (!·.goexit)=d1 at this⊢;generalize qs.dropWhile (!·.goexit)=d2 at this⊢;cases this with
      | nil=>exact out .returning
      | cons u t=>exact out (.panicking (.cons u t))
theorem Z1M{fn:Func}{xs: Array Value}(h:VRs r xs ys): SR (PF P F) P (Iv P F) VA r (results fn xs) (results fn ys):=by
 unfold results;rw[Array.mapM_eq_mapM_toList,Array.mapM_eq_mapM_toList];simp only[map_eq_pure_bind,bind_assoc,pure_bind];have key:∀(l:List ResultVar) {r:Ren} {f g:List Value->Sem Value},VRs r xs ys->(∀r',r.le r'->∀us vs,Lis (VR r') us vs->SR (PF P F) P (Iv P F) VA r' (f us) (g vs)) ->
   SR (PF P F) P (Iv P F) VA r
    (l.mapM (λ| .tmp t=>pure (xs.getD t undef) | .cell a t=>(do loadVar t (<-asAddr (xs.getD a undef)):Sem Value)) >>= f)
    (l.mapM (λ| .tmp t=>pure (ys.getD t undef) | .cell a t=>(do loadVar t (<-asAddr (ys.getD a undef)):Sem Value)) >>= g):=by
  intro l
  induction l with
  | nil=>exact λh k=>k _ (Ren.le_refl _) _ _ .nil
  | cons a l ih =>
   intro r f g h k;have gt:∀{r':Ren} (t:Tmp),r.le r'->VR r' (xs.getD t undef) (ys.getD t undef):=by
    intro r' t hr;rw[Y6,Y6];rcases (VRs.mono hr h).get t with⟨a,b⟩ | ⟨x,y,a,b,q⟩
    ·rw[a,b];exact .undef
    ·rw[a,b];exact q
   simp only[List.mapM_cons,bind_assoc,pure_bind];have step:SR (PF P F) P (Iv P F) VA r
     (match a with | .tmp t=>pure (xs.getD t undef) | .cell a t=>(do loadVar t (<-asAddr (xs.getD a undef)):Sem Value))
     (match a with | .tmp t=>pure (ys.getD t undef) | .cell a t=>(do loadVar t (<-asAddr (ys.getD a undef)):Sem Value)):=by
    cases a with
    | tmp t=>exact .pure (gt t (Ren.le_refl _))
    | cell a t=>exact Z2 (Z8W (gt a (Ren.le_refl _))) λ_ _ x y q=>Z6u q
   refine Z2 step λr1 hr1 x y q=>?_;exact ih (VRs.mono hr1 h) λr2 hr2 us vs huv=>k r2 (Ren.le_trans hr1 hr2) _ _ (.cons (q.mono hr2) huv)
 refine key _ h λr' hr us vs huv=>?_;cases huv with
 | nil=>exact .pure (.tupA .nil)
 | @cons u v us vs a t =>
  cases t with
  | nil=>exact .pure a
  | cons b t =>
   refine .pure ?_;rw[dif_neg sU,dif_neg sU];exact .tupA (Lis.arr (.cons a (.cons b t)))
theorem Zer(S:Strip P F (CodeOk P false) G){f:FuncId}{xs: Array Value}{a b:Code}{k:CallKind}(hk:k = .normal\/k = .deferred)(hl:r l=some l')(hn:(Iv P F).fn f)(q:VRs r xs ys)(ha:(Iv P F).code a)(hb:(Iv P F).code b):
  FrR P F r (Frame.round l f xs a b k) (Frame.round l' f ys a b k):=
 ⟨rfl,(S.same _ hn).1,q,.cons (.code (ha.weak (S.same _ hn).2 (λh=>h hn))) (.cons .begin_ (.cons (.code (hb.weak (S.same _ hn).2 (λh=>h hn))) .nil)),⟨.nil,λ_=>rfl⟩,.run,⟨rfl,hk⟩,.some hl⟩
def lsd(P:Program)(fr:Frame)(t:Target)(az:Array Value)(w:World):Array Event:=seen P fr.fn ((invoke t az).events P w #[])
section
variable{f:Frame}{K:List Frame}{x:Fn}{xs az:Array Value}{w':World}
theorem Z4z{y:Value}(h:(invoke (.fn x xs) az).run P w = .ok (.value y) w'): callDeferred P f K none ⟨.fn x xs,az⟩ w = .after (lsd P f (.fn x xs) az w) (.go (run1 f K) w'):=by
 unfold callDeferred;simp only[Yf,h];rfl
theorem Z9r(h:(invoke (.fn x xs) az).run P w = .ok .skip w'):callDeferred P f K none ⟨.fn x xs,az⟩ w = .after (lsd P f (.fn x xs) az w) (.go (run1 f K) w'):=by
 unfold callDeferred;simp only[Yf,h];rfl
theorem Z6Q(h:(invoke (.fn x xs) az).run P w = .ok (.defer d) w'): callDeferred P f K none ⟨.fn x xs,az⟩ w = .after (lsd P f (.fn x xs) az w) (.go (run1 f K) w'):=by
 unfold callDeferred;simp only[Yf,h];rfl
theorem Z3p{y:FuncId}(h:(invoke (.fn x xs) az).run P w = .ok (.enter y ys) w'): callDeferred P f K none ⟨.fn x xs,az⟩ w = .after (lsd P f (.fn x xs) az w) (.go (run1 (Frame.enter P y ys .deferred) (f::K)) w'):=by
 unfold callDeferred;simp only[Yf,h];rfl
theorem Z6T{y:FuncId}{a b:Code}(h:(invoke (.fn x xs) az).run P w = .ok (.round l y ys a b) w'): callDeferred P f K none ⟨.fn x xs,az⟩ w = .after (lsd P f (.fn x xs) az w) (.go (run1 (Frame.round l y ys a b .deferred) (f::K)) w'):=by
 unfold callDeferred;simp only[Yf,h];rfl
theorem Z6S{y:Value}(h:(invoke (.fn x xs) az).run P w = .halt (.panic y) w'): callDeferred P f K none ⟨.fn x xs,az⟩ w = .after (lsd P f (.fn x xs) az w) (.go (run1 (f.raise [{v:=y,recovered:=false}]) K) w'):=by
 unfold callDeferred;simp only[Yf,h];rfl
theorem Z9q{y:Halt}(h:(invoke (.fn x xs) az).run P w = .halt y w')(d:Dies y):∃o w2 es,callDeferred P f K none ⟨.fn x xs,az⟩ w = .ended o w2 es:=by
 unfold callDeferred;simp only[Yf,h];cases y with
 | stuck y=>exact⟨_,_,_,rfl⟩
 | unsupported y=>exact⟨_,_,_,rfl⟩
 | _=>exact d.elim
theorem ZcQ: ∃o w2 es,callDeferred P f K none ⟨.collected b,az⟩ w = .ended o w2 es:=by
 unfold callDeferred;exact⟨_,_,_,rfl⟩
theorem ZcR{ps:List PanicEntry}(hm:f.mode = .panicking ps):∃o w2 es,callDeferred P f K none ⟨.nil,az⟩ w = .ended o w2 es:=by
 unfold callDeferred;rw[hm];exact⟨_,_,_,rfl⟩
theorem Z6R (hm:f.mode = .run\/f.mode = .returning):callDeferred P f K none ⟨.nil,az⟩ w = .after (lsd P f .nil az w) (.go (run1 (f.raise [{ v:=.iface P.rt.errorString (strVal "invalid memory address or nil pointer dereference"),recovered:=false }]) K) w):=by
 unfold callDeferred;rcases hm with hm | hm
 ·simp only[Yf];rw[hm];rfl
 ·simp only[Yf];rw[hm];rfl
theorem ZcS(h:(invoke (.fn x xs) az).run P w = .ok .recover w'):callDeferred P f K none ⟨.fn x xs,az⟩ w = .after (lsd P f (.fn x xs) az w) (match f.mode,tryRecover f K with
  | .returning,some (_,K')=>.go (run1 f K') w'
  | _,_=>.go (run1 f K) w'):=by
 unfold callDeferred;simp only[Yf,h];rfl
end
theorem Z26(S:Strip P F (CodeOk P false) G)(hg:GOk P F G){f: Frame}{A B:List Frame}(hs:Stk P F r (f::A) (g::B))(hw:WR (Iv P F) r v w){d': Deferred}(hd:DR r d d'):
  ZJ P F cs r v w (callDeferred (PF P F) f (A++[poison]) none d v) (callDeferred P g (B++cs) none d' w):=by
 obtain⟨hf,hst,hb⟩:=hs.uncons;have o:=(Z2q (df:=True) S hd.1 hd.2).sim v w hw #[];obtain⟨t,az⟩:=d;obtain⟨t',bs⟩:=d';obtain⟨ht,ha⟩:=hd;dsimp only at ht ha o;rw[Yf]at o;have go_:∀{r':Ren} {f' g':Frame} {A' B':List Frame} {v' w':World} {ns:Array Event} (e1:Array Event),(invoke t' bs).events P w #[]=#[]++ns->Stk P F r' (f'::A') (g'::B')->WR (Iv P F) r' v' w'->Kept r r' v v' w w'->(∀e∈ns,EvG r' v w' e) ->
   ZJ P F cs r v w (.after e1 (.go (run1 f' (A'++[poison])) v')) (.after (lsd P g t' bs w) (.go (run1 g' (B'++cs)) w')):=by
  intro r' f' g' A' B' v' w' ns e1 he h1 h2 h3 h4;refine ZJ.go h1 h2 h3 λe hm=>?_;simp only[Array.append_empty]at hm;have:=Conc.mem_seen hm;rw[he]at this;simp only[Array.empty_append]at this;exact h4 e this
 cases ht with
 | nil =>
  have km:=hf.mode;have run_:(f.mode = .run\/f.mode = .returning)->(g.mode = .run\/g.mode = .returning)->ZJ P F cs r v w (callDeferred (PF P F) f (A++[poison]) none ⟨.nil,az⟩ v) (callDeferred P g (B++cs) none ⟨.nil,bs⟩ w):=by
   intro h1 h2;rw[Z6R h1,Z6R h2];exact go_ (ns:=#[]) _ rfl (hst.cons (hf.raise (.cons ⟨.iface _ (.string _),rfl,rfl⟩ .nil)) (hb.raise _)) hw (Kept.refl _ _ _) sU
  generalize hx:f.mode=fm at km;generalize hy:g.mode=gm at km;cases km with
  | run=>exact run_ (.inl hx) (.inl hy)
  | returning=>exact run_ (.inr hx) (.inr hy)
  | panicking q =>
   obtain⟨o2,w2,es,e⟩:=ZcR (P:=PF P F) (K:=A++[poison]) (az:=az) (w:=v) hx;rw[e];trivial
 | collected q =>
  obtain⟨o2,w2,es,e⟩:=ZcQ (P:=PF P F) (f:=f) (K:=A++[poison]) (az:=az) (w:=v);rw[e];trivial
 | fn hfn hx =>
  cases hr:(invoke (.fn _ _) az).run (PF P F) v with
  | halt x v' =>
   rw[hr]at o;cases x with
   | panic x =>
    obtain⟨r',x',w',ns,e,hw',hx,hk,he⟩:=o;simp only[Y9]at e;rw[Z6S hr,Z6S e.1];exact go_ _ e.2 ((hst.mono hk.le).cons ((hf.mono hk.le).raise (.cons ⟨hx,rfl,rfl⟩ .nil)) (hb.raise _)) hw' hk he
   | stuck y =>
    obtain⟨o2,w2,es,e⟩:=Z9q (f:=f) (K:=A++[poison]) hr trivial;rw[e];trivial
   | unsupported y =>
    obtain⟨o2,w2,es,e⟩:=Z9q (f:=f) (K:=A++[poison]) hr o;rw[e];trivial
   | _=>exact o.elim
  | ok n v' =>
   rw[hr]at o;obtain⟨r',b,w',ns,e,hw',hn,hk,he⟩:=o;simp only[Y9]at e;obtain⟨e1,e2⟩:=e;have hf':=hf.mono hk.le;have hst':=hst.mono hk.le;cases hn with
   | value q=>rw[Z4z hr,Z4z e1];exact go_ _ e2 (hst'.cons hf' hb) hw' hk he
   | skip=>rw[Z9r hr,Z9r e1];exact go_ _ e2 (hst'.cons hf' hb) hw' hk he
   | enter gf q=>rw[Z3p hr,Z3p e1];exact go_ (A':=f::A) (B':=g::B) _ e2 ((hst'.cons hf' hb).cons (Z0Y S q gf hg (.inr rfl)) (Z8p (hg _ gf).2.2.2 (.inr sU))) hw' hk he
   | round hl hn q ha hb2=>rw[Z6T hr,Z6T e1];exact go_ (A':=f::A) (B':=g::B) _ e2 ((hst'.cons hf' hb).cons (Zer S (.inr rfl) hl hn q ha hb2) ⟨.inr sU,λ_=>(S.same _ hn).2⟩) hw' hk he
   | defer _ q=>rw[Z6Q hr,Z6Q e1];exact go_ _ e2 (hst'.cons hf' hb) hw' hk he
   | recover =>
    rw[ZcS hr,ZcS e1];have same:=λe0=>go_ (f':=f) (g':=g) (A':=A) (B':=B) e0 e2 (hst'.cons hf' hb) hw' hk he;have km:=hf'.mode;generalize f.mode=fm at km⊢;generalize g.mode=gm at km⊢;rcases Z5n (cs:=cs) (hst'.cons hf' hb) with⟨h1,h2⟩ | ⟨x,A',y,B',h1,h2,h3,h4,h5⟩
    ·rw[h1,h2];cases km<;>exact same _
    ·rw[h1,h2];cases km with
     | returning=>exact go_ (A':=A') (B':=B') _ e2 (h4.cons hf' h5) hw' hk he
     | run=>exact same _
     | panicking q=>exact same _
end
end Lift
namespace Lift
open Go
variable[Jk]
section
variable{P:Program}{F:Array Func}{G:FuncId->Prop}{r:Ren}{cs:List Frame}{v w:World}
theorem Z0C{es:Array Event}{ns:Array Event}{r':Ren}{w':World}(h:es=#[]++ns)(he:∀e∈ns,EvG r' v w' e): ∀e∈seen P g.fn es,EvG r' v w' e:=λe hm=>by
 have:=Conc.mem_seen hm;rw[h]at this;simp only[Array.empty_append]at this;exact he e this
theorem ZeN(h:r b=some c): SR (PF P F) P (Iv P F) (λr a b=>Lis (DR r) a b) r (Instr.takeDeferred b) (Instr.takeDeferred c):=by
 unfold Instr.takeDeferred;refine Z8Z h λr' hr o o' ho=>?_;cases ho with
 | def1 q=>exact .setObj (hr.1 _ _ h) .def0 sU (.pure q)
 | _=>exact Z1
theorem Z6A(S:Strip P F (CodeOk P false) G)(hg:GOk P F G){f: Frame}{A B:List Frame}(hs:Stk P F r (f::A) (g::B))(hw:WR (Iv P F) r v w){m:Bool}:
  ZJ P F cs r v w (unwind (PF P F) true f (A++[poison]) none v) (unwind P m g (B++cs) none w):=by
 obtain⟨hf,hst,hb⟩:=hs.uncons;have hd:=hf.defers.1;have nl:f.defers≠[]->¬Jk.law f.fn:=λh l=>h (hf.defers.2 l);unfold unwind;generalize f.defers=ds at hd nl⊢;generalize g.defers=es at hd⊢;have with_:∀{r':Ren} {xs ys:List Deferred},r.le r'->Lis (DR r') xs ys->ds≠[]->Stk P F r' ({f with defers:=xs}::A) ({g with defers:=ys}::B):=by
  intro r' xs ys hr q hne;have hf':=hf.mono hr;exact(hst.mono hr).cons ⟨hf'.fn,hf'.own,hf'.tmps,hf'.todo,⟨q,λl=>absurd l (nl hne)⟩,hf'.mode,hf'.kind,hf'.round⟩ hb
 cases hd with
 | @cons d e ds es hde hrest =>
  obtain⟨t,az⟩:=d;obtain⟨t',bs⟩:=e;have hde0:=hde;obtain⟨ht,ha⟩:=hde;dsimp only at ht ha;cases ht with
  | collected q =>
   have o:=(ZeN (P:=P) (F:=F) q).sim v w hw #[];simp only[Yf]at o⊢;cases hr:(Instr.takeDeferred _).run (PF P F) v with
   | halt x v'=>trivial
   | ok n v' =>
    rw[hr]at o;obtain⟨r',b,w',ns,e,hw',hn,hk,he⟩:=o;simp only[Y9]at e;rw[e.1,e.2];refine ZJ.lift hk (Z0C rfl he) (ZJ.still (with_ hk.le (hn.append (hrest.imp λ_ _=>DR.mono hk.le)) sU) hw')
  | nil=>exact Z26 S hg (with_ (Ren.le_refl _) hrest sU) hw hde0
  | fn a b=>exact Z26 S hg (with_ (Ren.le_refl _) hrest sU) hw hde0
 | nil =>
  have km:=hf.mode;dsimp only;generalize hx:f.mode=fm at km;generalize hy:g.mode=gm at km;cases km with
  | run=>trivial
  | panicking q =>
   have c1:f.catches (PF P F)=false:=by
    unfold Frame.catches;split
    ·rename_i e2;exact absurd e2 ((Z7y hf).1 _ _ _ _ _)
    ·rfl
   have c2:g.catches P=false:=by
    unfold Frame.catches;split
    ·rename_i e2;exact absurd e2 ((Z7y hf).2 _ _ _ _ _)
    ·rfl
   dsimp only;rw[c1,c2];obtain⟨c,cb⟩:=hst;cases c with
   | nil=>exact .inl (.inr ⟨_,rfl⟩)
   | @cons a b az bs hab hrest =>
    obtain⟨hfr,hst,hk⟩:=Stk.uncons (P:=P) (F:=F) (r:=r) (f:=a) (g:=b) ⟨.cons hab hrest,cb⟩;exact ZJ.still (hst.cons (hfr.raise q) (hk.raise _)) hw
  | returning =>
   dsimp only;have e0:(PF P F).funcs=F:=rfl;rw[e0,hf.own,<-hf.fn];cases hfn:P.funcs[f.fn]? with
   | none =>
    refine Z2c hs hw ?_;rw[Y6,Y6];rcases hf.tmps.get 0 with⟨a,b⟩ | ⟨x,y,a,b,q⟩
    ·rw[a,b];exact .undef
    ·rw[a,b];exact q
   | some fn =>
    have o:=(Z1M (P:=P) (F:=F) (fn:=fn) hf.tmps).sim v w hw #[];simp only[Yf]at o⊢;cases hr:(results fn f.tmps).run (PF P F) v with
    | halt x v'=>cases x<;>trivial
    | ok n v' =>
     rw[hr]at o;obtain⟨r',b,w',ns,e,hw',hn,hk,he⟩:=o;simp only[Y9]at e;rw[e.1,e.2];rw[hf.fn];exact ZJ.lift hk (Z0C rfl he) (Z2c (hs.mono hk.le) hw' hn)
end
end Lift
namespace Lift
open Go
variable[Jk]
section
variable{P:Program}{F:Array Func}{G:FuncId->Prop}{r:Ren}{cs:List Frame}{v w:World}
theorem ZfF{J N:Prop}{d:Bool}(i:Nat){k k':List Item}(h:Todo P J N d r k k'): (exitTo i k=none/\(exitTo i k'=none\/d=false))\/∃a b,exitTo i k=some a/\exitTo i k'=some b/\Todo P J N d r a b:=by
 induction h with
 | nil=>exact .inl ⟨rfl,.inl rfl⟩
 | tail hd _=>exact .inl ⟨rfl,.inr hd⟩
 | cut hd hl _=>exact .inl ⟨(hl i).1,.inr hd⟩
 | cons a t ih =>
  cases a with
  | inBlock j =>
   unfold exitTo;by_cases e:(j==i)=true
   ·simp only[e,if_true];exact .inr ⟨_,_,rfl,rfl,t⟩
   ·simp only[e];exact ih
  | _=>exact ih
theorem ZiH{J N:Prop}{e:Bool}(l:Nat)(c:Code): ∀d,Z0I P J N e c->findLabel c l=some d->Z0I P J N e d:=by
 induction c with
 | seq a b iha ihb =>
  intro d h e;unfold findLabel at e;cases ha:findLabel a l with
  | some x =>
   rw[ha]at e;obtain rfl:=Y1 e;exact⟨iha x h.1 ha,h.2⟩
  | none =>
   rw[ha]at e;exact ihb d h.2 e
 | label j =>
  intro d h e;unfold findLabel at e;split at e
  ·obtain rfl:=Y1 e;trivial
  ·cases e
 | _=>intro d h e;cases e
theorem ZfN{J N:Prop}{d:Bool}(l:Nat){k k':List Item}(h:Todo P J N d r k k'): (gotoIn l k=none/\(gotoIn l k'=none\/d=false))\/∃a b,gotoIn l k=some a/\gotoIn l k'=some b/\Todo P J N d r a b:=by
 induction h with
 | nil=>exact .inl ⟨rfl,.inl rfl⟩
 | tail hd _=>exact .inl ⟨rfl,.inr hd⟩
 | cut hd hl _=>exact .inl ⟨(hl l).2,.inr hd⟩
 | cons a t ih =>
  cases a with
  | @inScope c hc =>
   unfold gotoIn;cases e:findLabel c l with
   | some d=>exact .inr ⟨_,_,rfl,rfl,.cons (.code (ZiH l c d hc e)) (.cons (.inScope hc) t)⟩
   | none=>exact ih
  | _=>exact ih
def Z05(p:Program)(main:Bool)(fr:Frame)(C:List Frame)(w:World)(jump:Option Code):GStep:=
 match fr.roundOf with
 | none=>if jump matches none | some .ret then .go (run1 {fr with mode:=.returning} C) w else .ended (.stuck "exit, goto: no such block or label" (fr.pos p)) w
 | some l=>.after (seen p fr.fn ((Instr.endRound l jump).events p w #[])) (match (Instr.endRound l jump).run p w with
  | .ok v w=>doReturn p main fr C none v w
  | .halt _ w=>.ended (.stuck "range over a function: no such loop" (fr.pos p)) w)
section
variable{m:Bool}{f:Frame}{K:List Frame}{k:List Item}{c a b:Code}{i:Nat}
theorem ZaA(h:f.todo=[]):stepG.exec P m true f K none w=Z05 P m f K w none:=by
 unfold stepG.exec Z05;rw[h];simp only[Yf];cases f.roundOf<;>rfl
theorem ZaB(h:f.todo = .code .ret::k):stepG.exec P m true f K none w=Z05 P m f K w (some .ret):=by
 unfold stepG.exec Z05;rw[h];simp only[Yf];cases f.roundOf<;>rfl
theorem Z79(h:f.todo = .code .skip::k):stepG.exec P m true f K none w = .go (run1 {f with todo:=k} K) w:=by unfold stepG.exec;rw[h];rfl
theorem Z4H(h:f.todo = .code (.label i)::k):stepG.exec P m true f K none w = .go (run1 {f with todo:=k} K) w:=by unfold stepG.exec;rw[h];rfl
theorem Z2G(h:f.todo = .inBlock i::k):stepG.exec P m true f K none w = .go (run1 {f with todo:=k} K) w:=by unfold stepG.exec;rw[h];rfl
theorem Z2H(h:f.todo = .inScope c::k):stepG.exec P m true f K none w = .go (run1 {f with todo:=k} K) w:=by unfold stepG.exec;rw[h];rfl
theorem Z2T(h:f.todo = .code (.seq a b)::k):stepG.exec P m true f K none w = .go (run1 {f with todo:=.code a :: .code b::k} K) w:=by unfold stepG.exec;rw[h];rfl
theorem Z4G(h:f.todo = .code (.block i c)::k):stepG.exec P m true f K none w = .go (run1 {f with todo:=.code c :: .inBlock i::k} K) w:=by unfold stepG.exec;rw[h];rfl
theorem Z78(h:f.todo = .code (.loop c)::k):stepG.exec P m true f K none w = .go (run1 {f with todo:=.code c :: .inLoop c::k} K) w:=by unfold stepG.exec;rw[h];rfl
theorem Z3w(h:f.todo = .inLoop c::k):stepG.exec P m true f K none w = .go (run1 {f with todo:=.code c :: .inLoop c::k} K) w:=by unfold stepG.exec;rw[h];rfl
theorem Z4I(h:f.todo = .code (.scope c)::k):stepG.exec P m true f K none w = .go (run1 {f with todo:=.code c :: .inScope c::k} K) w:=by unfold stepG.exec;rw[h];rfl
theorem Z58{x:Operand}(h:f.todo = .code (.cond x a b)::k): stepG.exec P m true f K none w=match f.eval x with
  | .bool t=>.go (run1 {f with todo:=.code (if t then a else b)::k} K) w
  | _=>.ended (.stuck "cond: bool expected" (f.pos P)) w:=by unfold stepG.exec;rw[h];rfl
theorem Z59(h:f.todo = .code (.exit i)::k):stepG.exec P m true f K none w=match exitTo i k with
  | some k'=>.go (run1 {f with todo:=k'} K) w
  | none=>Z05 P m f K w (some (.exit i)):=by
 unfold stepG.exec Z05;rw[h];simp only[Yf];cases exitTo i k with
 | some k'=>rfl
 | none=>cases f.roundOf<;>rfl
theorem Z77(h:f.todo = .code (.goto i)::k):stepG.exec P m true f K none w=match gotoIn i k with
  | some k'=>.go (run1 {f with todo:=k'} K) w
  | none=>Z05 P m f K w (some (.goto i)):=by
 unfold stepG.exec Z05;rw[h];simp only[Yf];cases gotoIn i k with
 | some k'=>rfl
 | none=>cases f.roundOf<;>rfl
theorem Z1y{y:String}(h:f.todo = .code (.refuse y)::k): ∃z,stepG.exec P m true f K none w = .ended (.unsupported z (f.pos P)) w:=⟨_,by unfold stepG.exec;rw[h]⟩
theorem Z74 (h:f.todo = .beginRound::k):stepG.exec P m true f K none w=stepG.apply P true f K none (do f.roundOf.elim (stuck "beginRound: no round") Instr.beginRound;pure .skip) w:=by unfold stepG.exec;rw[h]
theorem Z64(h:f.todo = .inRangeFunc l::k): ∃o w2 es,stepG.exec P m true f K none w = .ended o w2 es:=by unfold stepG.exec;rw[h];exact⟨_,_,_,rfl⟩
theorem Z10(h:f.todo = .endRangeFunc l::k): stepG.exec P m true f K none w = .after (seen P f.fn ((Instr.endLoop l).events P w #[])) (match (Instr.endLoop l).run P w with
  | .ok jump w=>.go (run1 {f with todo:=(jump.map Item.code).toList++k} K) w
  | .halt (.panic v) w=>.go (run1 (f.raise [{v,recovered:=false}]) K) w
  | .halt _ w=>.ended (.stuck "range over a function: no such loop" (f.pos P)) w):=by
 unfold stepG.exec;rw[h];simp only[Yf];rfl
theorem Z3y{ops:Array Oper}(h:f.todo = .code (.region i ops false)::k): stepG.exec P m true f K none w = .go (run1 {f with todo:=.inRegion ops (List.range ops.size)::k} K) w:=by unfold stepG.exec;rw[h];rfl
theorem Z76{ops:Array Oper}(h:f.todo = .code (.region i ops true)::k): stepG.exec P m true f K none w =
  .go (run1 {f with todo:=.inRegion ops (Region.schedule (P.follows .mixedOrders) ops (w.tape w.drawn (.order f.fn i)))::k} K) {w with drawn:=w.drawn+1}:=by unfold stepG.exec;rw[h];rfl
theorem Z75{ops:Array Oper}(h:f.todo = .inRegion ops []::k): stepG.exec P m true f K none w = .go (run1 {f with todo:=k} K) w:=by unfold stepG.exec;rw[h];rfl
theorem Z1R{ops:Array Oper}{rest:List Nat}(h:f.todo = .inRegion ops (i::rest)::k): stepG.exec P m true f K none w =
  if ((ops[i]?).map (Region.wanted · (yielded ops f.tmps))).getD false then stepG.oper P true f K none w else .go (run1 (f.finish undef) K) w:=by unfold stepG.exec;rw[h];rfl
theorem Z3x {x:Operand} {ps:Array Tmp} (h:f.todo = .code (.rangeFunc x ps a b)::k):stepG.exec P m true f K none w =
    .after (seen P f.fn ((Instr.enterLoop f.fn f.tmps ps a b f.roundOf).events P w #[])) (match (Instr.enterLoop f.fn f.tmps ps a b f.roundOf).run P w with
      | .ok (l, mark) w => stepG.apply P true { f with todo := .inRangeFunc l :: k, defers := mark ++ f.defers } K none (do let d <- resolve f.eval { callee := .value x, args := #[.const (.func (.yield l) #[] #[])], argTypes := #[] } 0; invoke d.target d.args) w
      | .halt _ w=>.ended (.stuck "range over a function: no such loop" (f.pos P)) w):=by
  unfold stepG.exec;rw[h];simp only[Yf];rfl
end
theorem Z5v(h:r l=some l'){j:Option Code}(hj:∀c,j=some c->CodeOk P true c): SR (PF P F) P (Iv P F) VA r (Instr.endRound l j) (Instr.endRound l' j):=by
 unfold Instr.endRound;refine Z1L h λr' hr o o' ho=>?_;exact .setObj (hr.1 _ _ h) (.loop ⟨rfl,⟨rfl,hj⟩,ho.fn,ho.tmps,ho.params,ho.assign,ho.body,ho.defers⟩) sU (.pure (.bool _))
theorem Z3U(h:r l=some l'): SR (PF P F) P (Iv P F) EQ r (Instr.beginRound l) (Instr.beginRound l'):=by
 unfold Instr.beginRound;refine Z1L h λr' hr o o' ho=>?_;refine .setObj (hr.1 _ _ h) (.loop ⟨rfl,ho.pending,ho.fn,ho.tmps,ho.params,ho.assign,ho.body,ho.defers⟩) sU ?_;show SR _ _ _ _ _ (match o.state with | .ready=>pure () | .done=>_ | .busy=>_ | .exhausted=>_) (match o'.state with | .ready=>pure () | .done=>_ | .busy=>_ | .exhausted=>_);rw[ho.state];cases o'.state with
 | ready=>exact .pure rfl
 | _=>exact Z0v
theorem Z6q(h:r l=some l'): SR (PF P F) P (Iv P F) (λ_ a b=>a=b/\∀c,a=some c->CodeOk P true c) r (Instr.endLoop l) (Instr.endLoop l'):=by
 unfold Instr.endLoop;refine Z1L h λr' hr o o' ho=>?_;rw[ho.state];refine Zu (λ_=>Z3g Z0v) λ_=>?_;refine .setObj (hr.1 _ _ h) (.loop ⟨rfl,ho.pending,ho.fn,ho.tmps,ho.params,ho.assign,ho.body,ho.defers⟩) sU ?_;exact .pure ⟨ho.pending.1,ho.pending.2⟩
theorem Z2p {f:FuncId} (hf:(Iv P F).fn f) {xs ys:Array Value} (h:VRs r xs ys) {ps:Array Tmp} {a b:Code} (ha:CodeOk P true a) (hb:CodeOk P true b) {x y:Option Nat} (k:RoR r x y) :
    SR (PF P F) P (Iv P F) (λr p q=>r p.1=some q.1/\Lis (DR r) p.2 q.2) r (Instr.enterLoop f xs ps a b x) (Instr.enterLoop f ys ps a b y):=by
  unfold Instr.enterLoop;have last : ∀{r' : Ren} {d d' : Nat} {ms ms' : List Deferred}, r.le r'->r' d=some d'->Lis (DR r') ms ms'->SR (PF P F) P (Iv P F) (λr p q => r p.1=some q.1/\Lis (DR r) p.2 q.2) r'
      (do pure (<- newObj (.loop { state := .ready, pending := none, fn := f, tmps := xs, params := ps, assign := a, body := b, defers := d }), ms))
      (do pure (<- newObj (.loop { state := .ready, pending := none, fn := f, tmps := ys, params := ps, assign := a, body := b, defers := d' }), ms')) :=
    λhr hd hm=>SR.new (.loop ⟨rfl,⟨rfl,sU⟩,⟨rfl,hf⟩,VRs.mono hr h,rfl,⟨rfl,ha⟩,⟨rfl,hb⟩,hd⟩) λr2 hr2 b c hb=>.pure ⟨hb,hm.imp λ_ _=>DR.mono hr2⟩
  cases k with
  | some q =>
    simp only[bind_assoc, pure_bind];refine Z1L q λr' hr o o' ho => ?_;exact last hr ho.defers .nil
  | none =>
    simp only[bind_assoc, pure_bind];exact SR.new (.def1 .nil) λr' hr b c hb => last hr hb (.cons ⟨.collected hb, .nil⟩ .nil)
theorem Z3C{f: Frame}{A B:List Frame}(hs:Stk P F r (f::A) (g::B))(hw:WR (Iv P F) r v w){j:Option Code}(hj:∀c,j=some c->CodeOk P true c){m:Bool}:
  ZJ P F cs r v w (Z05 (PF P F) true f (A++[poison]) v j) (Z05 P m g (B++cs) w j):=by
 obtain⟨hf,hst,hd⟩:=hs.uncons;have hr:=hf.round;have ret:ZJ P F cs r v w (.go (run1 {f with mode:=.returning} (A++[poison])) v) (.go (run1 {g with mode:=.returning} (B++cs)) w):=
  ZJ.still (hst.cons ⟨hf.fn,hf.own,hf.tmps,hf.todo,hf.defers,.returning,hf.kind,hf.round⟩ hd) hw
 unfold Z05;generalize f.roundOf=x at hr ret⊢;generalize g.roundOf=y at hr ret⊢;cases hr with
 | none =>
  dsimp only;cases j with
  | none=>exact ret
  | some c=>cases c<;>first | exact ret | trivial
 | some q =>
  have o:=(Z5v (P:=P) (F:=F) q hj).sim v w hw #[];simp only[Yf]at o;dsimp only;cases hr:(Instr.endRound _ j).run (PF P F) v with
  | halt x v'=>trivial
  | ok n v' =>
   rw[hr]at o;obtain⟨r',b,w',ns,e,hw',hn,hk,he⟩:=o;simp only[Y9]at e;rw[e.1];exact ZJ.lift hk (Z0C e.2 he) (Z2c (hs.mono hk.le) hw' hn)
theorem Z4a{f:Frame}{K:List Frame}{ops:Array Oper}{i:Nat}{rest:List Nat}{k:List Item}{o:Oper}(h:f.todo = .inRegion ops (i::rest)::k)(ho:ops[i]?=some o)(hd:f.roundOf=none\/∀c,o.op ≠ .defer c):
  stepG.oper P true f K none w=stepG.apply P true f K none (execOp f.eval o) w:=by
 unfold stepG.oper Frame.oper?;rw[h];simp only[ho];rcases hd with hd | hd
 ·rw[hd]
 ·split
  ·rename_i e;exact absurd e (hd _)
  ·rfl
theorem Z69 {m:Bool} {f:Frame} {K:List Frame} {u:World} {c:Code} (h:f.roundOf.isSome=false) (hc:c ≠ .ret): Z05 Q m f K u (some c) = .ended (.stuck "exit, goto: no such block or label" (f.pos Q)) u:=by
 unfold Z05;cases hx:f.roundOf with
 | none=>cases c<;>first | rfl | exact absurd rfl hc
 | some l=>rw[hx]at h;cases h
theorem Z7Z{f: Frame}{A B:List Frame}(hs:Stk P F r (f::A) (g::B)){k k':List Item}(q:Todo P (Jk.law f.fn) (¬Jk.gd f.fn) f.roundOf.isSome r k k'): Stk P F r ({f with todo:=k}::A) ({g with todo:=k'}::B):=by
 obtain⟨hf,hst,hd⟩:=hs.uncons;exact hst.cons ⟨hf.fn,hf.own,hf.tmps,q,hf.defers,hf.mode,hf.kind,hf.round⟩ hd
def Pend(f:Frame):Prop:=Jk.law f.fn/\f.mode = .run/\∃ops i rest k o,f.todo = .inRegion ops (i::rest)::k/\ops[i]?=some o/\Region.wanted o (yielded ops f.tmps)=true/\Zfc o.op
theorem ZfE (S:Strip P F (CodeOk P false) G) (hg:GOk P F G) (hrec:P.follows .rangeFuncRecover=true) {f g:Frame} {A B:List Frame} (hs:Stk P F r (f::A) (g::B)) (hw:WR (Iv P F) r v w) (hm:f.mode = .run) (np:¬Pend f) {m:Bool} :
    ZJ P F cs r v w (stepG.exec (PF P F) true true f (A++[poison]) none v) (stepG.exec P m true g (B++cs) none w):=by
  obtain⟨hf, hst, hd⟩ := hs.uncons;have ht := hf.todo;have to_ : ∀{k k' : List Item}, Todo P (Jk.law f.fn) (¬Jk.gd f.fn) f.roundOf.isSome r k k'->ZJ P F cs r v w (.go (run1 {f with todo := k} (A++[poison])) v) (.go (run1 {g with todo := k'} (B++cs)) w) := λq => ZJ.still (Z7Z hs q) hw;generalize h1 : f.todo=fk at ht;generalize h2 : g.todo=gk at ht;cases ht with
  | nil=>rw[ZaA h1,ZaA h2];exact Z3C hs hw sU
  | tail _ _=>rw[(Z1y h1).choose_spec];trivial
  | cut hd0 hl h =>
    cases h with
    | stop _=>rw[(Z1y h1).choose_spec];trivial
    | seq hx t=>rw[Z2T h1,Z2T h2];exact to_ (.cons (.code hx) (.cut hd0 hl t))
    | left t=>rw[Z2T h1,Z2T h2];exact to_ (.cut hd0 hl t)
  | @cons a b k k' hab hk =>
    cases hab with
    | @code c hc =>
      cases c with
      | skip=>rw[Z79 h1,Z79 h2];exact to_ hk
      | label i=>rw[Z4H h1,Z4H h2];exact to_ hk
      | ret=>rw[ZaB h1,ZaB h2];exact Z3C hs hw (by intro c e;cases e;trivial)
      | seq x y=>rw[Z2T h1,Z2T h2];exact to_ (.cons (.code hc.1) (.cons (.code hc.2) hk))
      | block i x=>rw[Z4G h1,Z4G h2];exact to_ (.cons (.code hc) (.cons (.inBlock i) hk))
      | loop x=>rw[Z78 h1,Z78 h2];exact to_ (.cons (.code hc) (.cons (.inLoop hc) hk))
      | scope x=>rw[Z4I h1,Z4I h2];exact to_ (.cons (.code hc) (.cons (.inScope hc) hk))
      | refuse y=>rw[(Z1y h1).choose_spec];trivial
      | cond x y z =>
        rw[Z58 h1, Z58 h2];have hx := hf.env x hc.1;generalize f.eval x=p at hx⊢;generalize g.eval x=q at hx⊢;cases hx with
        | bool t =>
          cases t
          · exact to_ (.cons (.code hc.2.2) hk)
          · exact to_ (.cons (.code hc.2.1) hk)
        | _=>trivial
      | exit i =>
        rw[Z59 h1, Z59 h2];rcases ZfF i hk with⟨p, q | q⟩ | ⟨p, q, e1, e2, e3⟩
        · rw[p,q];exact Z3C hs hw (by intro c e;cases e;trivial)
        · rw[p,Z69 q sU];trivial
        · rw[e1,e2];exact to_ e3
      | goto i =>
        rw[Z77 h1, Z77 h2];rcases ZfN i hk with⟨p, q | q⟩ | ⟨p, q, e1, e2, e3⟩
        · rw[p,q];exact Z3C hs hw (by intro c e;cases e;trivial)
        · rw[p,Z69 q sU];trivial
        · rw[e1,e2];exact to_ e3
      | region i ops draw =>
        cases draw with
        | false=>rw[Z3y h1,Z3y h2];exact to_ (.cons (.inRegion hc) hk)
        | true =>
          rw[Z76 h1, Z76 h2];have e : v.tape v.drawn (.order f.fn i)=w.tape w.drawn (.order g.fn i) := by rw[hf.fn]; exact hw.tape 0 _
          rw[e];refine ZJ.go (Z7Z hs (.cons (.inRegion hc) hk)) hw.draw ?_ sU
          exact { le := Ren.le_refl _, tapeV := rfl, tapeW := rfl, drawn := ⟨1, rfl, rfl⟩, os := ⟨rfl, rfl⟩, sizeV := Ye _, sizeW := Ye _
                  far := λ_ _ _ => rfl, new := λ_ _ hb => .inl hb, shut := λ_ _ => rfl, cells := λ_ _ _ _ hi => ⟨_, _, hi⟩, farV := λ_ _ _ => rfl, shutW := λ_ _ _ _ => rfl, par := λe => ⟨e, λ_ _ hb => .inl hb, λi h1 h2 => absurd h2 (by dsimp only; omega)⟩ }
      | rangeFunc x ps y z =>
        rw[Z3x h1, Z3x h2];have hown : (Iv P F).fn f.fn := Classical.not_not.1 hc.2.2.2.1;have o := (Z2p (ps := ps) hown hf.tmps hc.2.1 hc.2.2.1 hf.round).sim v w hw #[];simp only[Yf]at o;cases hr : (Instr.enterLoop f.fn f.tmps ps y z f.roundOf).run (PF P F) v with
        | halt x v'=>trivial
        | ok n v' =>
          rw[hr]at o;obtain⟨r', b, w', ns, e, hw', hn, hkk, he⟩ := o;simp only[Y9]at e;rw[hf.fn]at e;rw[e.1];obtain⟨l, mk⟩ := n;obtain⟨l', mk'⟩ := b;obtain⟨hl, hm⟩ := hn;have hf' := hf.mono hkk.le;refine ZJ.lift hkk (Z0C e.2 he) (Z4Z (df := False) (f := {f with todo := .inRangeFunc l::k, defers := mk++f.defers}) (g := {g with todo := .inRangeFunc l'::k', defers := mk'++g.defers}) S hg hrec ((hst.mono hkk.le).cons ?_ hd) hw' (λq => q.elim) ?_)
          · exact⟨hf'.fn,hf'.own,hf'.tmps,.cons (.inRange hc.2.2.2.1 hl) (hk.mono hkk.le),⟨hm.append hf'.defers.1,λl=>absurd l (S.same _ hown).2⟩,hf'.mode,hf'.kind,hf'.round⟩
          · by_cases hz:f.eval x=J0
            · refine .dead ?_
              unfold resolve;dsimp only;rw[hz];exact Z48 hc.2.2.2.2 _
            refine Z2 (A := DR) ?_ λ_ _ a b q => Z2q S q.1 q.2;unfold resolve;have hy : VR r' (.func (.yield l) #[] #[]) (.func (.yield l') #[] #[]) := .func (.yield hl) rfl sU rfl sU;refine Z4f hz (hf'.env x hc.1) ?_;have e3 : ∀(h : Operand->Value) (z : Operand), #[z].map h=#[h z] := λh z => by simp
            rw[e3, e3];exact Arr.one hy
    | inBlock i=>rw[Z2G h1,Z2G h2];exact to_ hk
    | inLoop hc=>rw[Z3w h1,Z3w h2];exact to_ (.cons (.code hc) (.cons (.inLoop hc) hk))
    | inScope hc=>rw[Z2H h1,Z2H h2];exact to_ hk
    | inRange n q =>
      obtain⟨o, w2, es, e⟩ := Z64 (P := PF P F) (m := true) (K := A++[poison]) (w := v) h1;rw[e]; trivial
    | begin_ =>
      rw[Z74 h1, Z74 h2];refine Z4Z (df := False) S hg hrec hs hw (λq => q.elim) (sr_u ?_);have hr := hf.round;generalize f.roundOf=x at hr⊢;generalize g.roundOf=y at hr⊢;cases hr with
      | none=>exact Z1
      | some q=>exact Z3U q
    | endRange nj q =>
      rw[Z10 h1, Z10 h2];have o := (Z6q (P := P) (F := F) q).sim v w hw #[];simp only[Yf]at o;cases hr : (Instr.endLoop _).run (PF P F) v with
      | halt x v' =>
        rw[hr]at o;cases x with
        | panic x =>
          obtain⟨r', x', w', ns, e, hw', hx, hkk, he⟩ := o;simp only[Y9]at e;rw[e.1];exact ZJ.lift hkk (Z0C e.2 he) (ZJ.still ((hst.mono hkk.le).cons ((hf.mono hkk.le).raise (.cons ⟨hx, rfl, rfl⟩ .nil)) (hd.raise _)) hw')
        | _=>trivial
      | ok n v' =>
        rw[hr]at o;obtain⟨r', b, w', ns, e, hw', hn, hkk, he⟩ := o;simp only[Y9]at e;rw[e.1];obtain⟨rfl, hn⟩ := hn;refine ZJ.lift hkk (Z0C e.2 he) (ZJ.still (Z7Z (hs.mono hkk.le) ?_) hw');have hk' := hk.mono (s := r') hkk.le;cases n with
        | none=>exact hk'
        | some c=>exact .cons (.code ((hn c rfl).out (S.same _ (Classical.not_not.1 nj)).2 nj)) hk'
    | @inRegion ops todo hops =>
      cases todo with
      | nil=>rw[Z75 h1,Z75 h2];exact to_ hk
      | cons i rest =>
        rw[Z1R h1, Z1R h2];have hy : ∀o, Region.wanted o (yielded ops f.tmps)=Region.wanted o (yielded ops g.tmps) := by
          intro o;have : yielded ops f.tmps=yielded ops g.tmps := by
            funext j;unfold yielded;cases ((ops[j]?).bind (·.dst)) with
            | none=>rfl
            | some t =>
              simp only[Option.bind_some];rcases hf.tmps.get t with⟨a, b⟩ | ⟨x, y, a, b, q⟩
              · rw[a,b]
              · rw[a,b]
                cases q with
                | junk _ _ _ m=>cases y<;>first | rfl | exact absurd rfl (m.2.2 _)
                | _=>rfl
          rw[this]
        simp only[hy];have fin : ZJ P F cs r v w (.go (run1 (f.finish undef) (A++[poison])) v) (.go (run1 (g.finish undef) (B++cs)) w) := ZJ.still (hst.cons (hf.finish .undef) (hd.finish _)) hw;cases ho : ops[i]? with
        | none=>exact fin
        | some o =>
          by_cases hwant:((some o).map (Region.wanted · (yielded ops g.tmps))).getD false=true
          · rw[if_pos hwant,if_pos hwant]
            have hop := hops o (Yk ho);have hro : (f.roundOf=none/\g.roundOf=none)\/∀c, o.op ≠ .defer c := by
              have hr := hf.round;have h3 := hop.2;generalize f.roundOf=x at hr h3⊢;generalize g.roundOf=y at hr⊢;cases hr with
              | none=>exact .inl ⟨rfl,rfl⟩
              | some q=>exact .inr (h3 (.inl rfl))
            rw[Z4a h1 ho (hro.imp (·.1) id), Z4a h2 ho (hro.imp (·.2) id)];refine Z4Z S hg hrec hs hw (λ⟨c, e⟩ l => hop.2 (.inr l) c e) (Z8Y S hw.inj (λ_ => rfl) hf.env (hop.1.resolve_right λq => np ⟨q.1, hm, ops, i, rest, k, o, h1, ho, ?_, q.2⟩));rw[hy]; simpa using hwant
          · rw[if_neg hwant,if_neg hwant];exact fin
theorem Z7P(S:Strip P F (CodeOk P false) G)(hg:GOk P F G)(hrec:P.follows .rangeFuncRecover=true){f: Frame}{A B:List Frame}(hs:Stk P F r (f::A) (g::B))(hw:WR (Iv P F) r v w)(np:¬Pend f){m:Bool}:
  ZJ P F cs r v w (stepG (PF P F) true (run1 f (A++[poison])) v) (stepG P m (run1 g (B++cs)) w):=by
 have hm:=(hs.uncons).1.mode;have e1:∀{Q:Program} {b:Bool} {x:Frame} {K:List Frame} {u:World},x.mode = .run->stepG Q b (run1 x K) u=stepG.exec Q b true x K none u:=by
  intro Q b x K u h;unfold stepG run1;simp only[h]
 have e2:∀{Q:Program} {b:Bool} {x:Frame} {K:List Frame} {u:World},x.mode ≠ .run->stepG Q b (run1 x K) u=unwind Q b x K none u:=by
  intro Q b x K u h;unfold stepG run1;cases hx:x.mode with
  | run=>exact absurd hx h
  | _=>simp only[hx]
 generalize hx:f.mode=p at hm;generalize hy:g.mode=q at hm;cases hm with
 | run=>rw[e1 hx,e1 hy];exact ZfE S hg hrec hs hw hx np
 | returning=>rw[e2 (by rw[hx];simp),e2 (by rw[hy];simp)];exact Z6A S hg hs hw
 | panicking q=>rw[e2 (by rw[hx];simp),e2 (by rw[hy];simp)];exact Z6A S hg hs hw
end
end Lift
namespace Lift
open Go
variable[Jk]
def re(w:World)(T:Nat->Question->Nat):World:={w with tape:=T}
def Result.re{α:Type}(T:Nat->Question->Nat):Result α->Result α
 | .ok a w=>.ok a (Lift.re w T)
 | .halt h w=>.halt h (Lift.re w T)
def Zfa(T S:Nat->Question->Nat)(lo hi:Nat):Prop:=∀i q,lo<=i->i<hi->T i q=S i q
section
variable{Q P:Program}{C:Inv}{r:Ren}{v w:World}
theorem WR.cells{b c o:Nat}{s:Option Nat}{x:Value}(h:WR C r v w)(hb:r b=some c)(hx:v.cell? ⟨b,o,s⟩=some x):
  s=none/\∃cs cs' e fr fr' x',v.heap[b]?=some (.cells cs e fr)/\w.heap[c]?=some (.cells cs' e fr')/\cs[o]?=some x/\cs'[o]?=some x'/\VR r x x'/\VRs r cs cs'/\((fr=(0,0)/\fr'=(0,0))\/fr=(0,cs.size)):=by
 obtain⟨p,p',h1,h2,ho⟩:=h.on b c hb;unfold World.cell? at hx;rw[h1]at hx;cases ho with
 | @cells cs cs' e fr fr' q hf =>
  cases s with
  | some s=>simp at hx
  | none =>
   simp at hx;rcases q.get o with⟨a,_⟩ | ⟨y,y',a,b,k⟩
   ·rw[a]at hx;cases hx
   ·rw[a]at hx;obtain rfl:=Y1 hx;exact⟨rfl,_,_,_,_,_,_,h1,h2,a,b,k,q,hf⟩
 | _=>simp at hx
theorem WR.store{b c o:Nat}{x z z':Value}(h:WR C r v w)(hb:r b=some c)(hx:v.cell? ⟨b,o,none⟩=some x)(hf:v.frozen? ⟨b,o,none⟩=false)(hz:VR r z z'):
  WR C r (v.setCell ⟨b,o,none⟩ z) (w.setCell ⟨c,o,none⟩ z'):=by
 obtain⟨_,cs,cs',e,fr,fr',x',h1,h2,h3,h4,h5,h6,h7⟩:=h.cells hb hx;have hfr:fr=(0,0)/\fr'=(0,0):=by
  rcases h7 with q | q
  ·exact q
  ·have hlt:o<cs.size:=(Y0.1 h3).1;unfold World.frozen? at hf;rw[h1,q]at hf;simp at hf;omega
 have hv':∀i,(v.setCell ⟨b,o,none⟩ z).heap[i]?=if b=i then some (.cells (cs.setIfInBounds o z) e fr) else v.heap[i]?:=by
  intro i;simp only[World.setCell,Array.getElem?_modify];by_cases e':b=i
  ·subst e';simp[h1]
  ·simp[e']
 have hw':∀i,(w.setCell ⟨c,o,none⟩ z').heap[i]?=if c=i then some (.cells (cs'.setIfInBounds o z') e fr') else w.heap[i]?:=by
  intro i;simp only[World.setCell,Array.getElem?_modify];by_cases e':c=i
  ·subst e';simp[h2]
  ·simp[e']
 exact h.turn hb (.cells (h6.set o hz) (.inl hfr)) hv' hw' ⟨rfl,rfl,rfl,rfl,rfl,rfl⟩
def Live{α:Type}(x:Result α)(v':World):Prop:=(∃a,x = .ok a v')\/∃y,x = .halt (.panic y) v'
theorem Live.kept{β: Type}{A:Ren->α->β->Prop}{s:Sem α}{s':Sem β}(k:SR Q P C A r s s')(h:WR C r v w){v':World}(hl:Live (s.run Q v) v'): v.drawn<=v'.drawn/\v'.tape=v.tape:=by
 have o:=k.sim v w h #[];rcases hl with⟨a,e⟩ | ⟨y,e⟩
 ·rw[e]at o;obtain⟨_,_,_,_,_,_,_,hk,_⟩:=o;obtain⟨n,h1,_⟩:=hk.drawn;exact⟨oM,hk.tapeV⟩
 ·rw[e]at o;obtain⟨_,_,_,_,_,_,_,hk,_⟩:=o;obtain⟨n,h1,_⟩:=hk.drawn;exact⟨oM,hk.tapeV⟩
theorem Z0L{h:Halt}{v v':World}(d:Dies h): ¬Live (.halt h v:Result α) v':=by
 rintro (⟨a,e⟩ | ⟨y,e⟩)
 ·cases e
 ·cases e;exact d
theorem Ze4{o: Nat}{s:Option Nat}{m:Bool}(h:WR C r v w)(hb:r b=some c)(hx:v.cell? ⟨b,o,s⟩=none): ∃x,v.farLoad Q ⟨b,o,s⟩ m = .error x/\Dies x/\∀z,v.farStore Q ⟨b,o,s⟩ z m = .error x\/∃y,v.farStore Q ⟨b,o,s⟩ z m = .error y/\Dies y:=by
 obtain⟨p,p',h1,h2,ho⟩:=h.on b c hb;unfold World.farLoad World.farStore World.noCell;rw[h1];cases ho<;>exact⟨_,rfl,trivial,λz=>.inr ⟨_,rfl,trivial⟩⟩
theorem SR.local{β: Type}{A:Ren->α->β->Prop}{s:Sem α}{s':Sem β}(k:SR Q P C A r s s'): ∀v w:World,WR C r v w->∀v',Live (s.run Q v) v'->∀T,Zfa T v.tape v.drawn v'.drawn->∀es,
  s.runT Q (re v T) es=(Result.re T (s.runT Q v es).1,(s.runT Q v es).2):=by
 induction k with
 | pure q=>exact λv w h v' hl T ht es=>rfl
 | @load r a a' k k' ha _ ih =>
  intro v w h v' hl T ht es;cases ha with
  | @mk b c o s hb =>
  cases hx:v.cell? ⟨b,o,s⟩ with
  | none =>
   obtain⟨x,e,d,_⟩:=Ze4 (Q:=Q) (m:=false) h hb hx;refine absurd hl ?_;have:(Sem.load .plain ⟨b,o,s⟩ k).run Q v = .halt x v:=by
    simp only[Sem.run,hx];rw[show (Mode.plain==Mode.atomic)=false from rfl,e]
   rw[this];exact Z0L d
  | some x =>
   obtain⟨rfl,cs,cs',e,fr,fr',x',_,_,_,_,hr,_⟩:=h.cells hb hx;have hx2:(re v T).cell? ⟨b,o,none⟩=some x:=hx;have e1:(Sem.load .plain ⟨b,o,none⟩ k).run Q v=(k x).run Q v:=by simp only[Sem.run,hx]
   rw[e1]at hl;unfold Sem.runT;simp only[hx,hx2];exact ih _ (Ren.le_refl _) x x' hr v w h v' hl T ht _
 | @store r a a' z z' k k' ha hz _ ih =>
  intro v w h v' hl T ht es;cases ha with
  | @mk b c o s hb =>
  by_cases hag:(∃xs,z = .agg xs)\/∃xs,z = .tuple xs
  ·rcases hag with⟨xs,rfl⟩ | ⟨xs,rfl⟩
   ·exact absurd hl (Z0L (h:=.stuck "store: not the value of one cell") trivial)
   ·exact absurd hl (Z0L (h:=.stuck "store: not the value of one cell") trivial)
  have na:(∀xs,z ≠ .agg xs)/\∀xs,z ≠ .tuple xs:=⟨λxs e=>hag (.inl ⟨xs,e⟩),λxs e=>hag (.inr ⟨xs,e⟩)⟩;have run1:∀u,(Sem.store .plain ⟨b,o,s⟩ z k).run Q u=match u.cell? ⟨b,o,s⟩ with
    | some _=>if u.frozen? ⟨b,o,s⟩ then .halt (.unsupported (.unsafePointer "a write to bytes that a string shares")) u else k.run Q (u.setCell ⟨b,o,s⟩ z)
    | none=>match u.farStore Q ⟨b,o,s⟩ z false with | .ok (w,_)=>k.run Q w | .error h=>.halt h u:=by
   intro u;cases z<;>first | exact absurd rfl (na.1 _) | exact absurd rfl (na.2 _) | rfl
  have run2:∀u,(Sem.store .plain ⟨b,o,s⟩ z k).runT Q u es=match u.cell? ⟨b,o,s⟩ with
    | some _=>if u.frozen? ⟨b,o,s⟩ then(.halt (.unsupported (.unsafePointer "a write to bytes that a string shares")) u,es) else k.runT Q (u.setCell ⟨b,o,s⟩ z) (es.push ⟨.cell ⟨b,o,s⟩,true,false⟩)
    | none=>match u.farStore Q ⟨b,o,s⟩ z false with | .ok (w,touched)=>k.runT Q w (es++touched.toArray.map (⟨.cell ·,true,false⟩)) | .error h=>(.halt h u,es):=by
   intro u;cases z<;>first | exact absurd rfl (na.1 _) | exact absurd rfl (na.2 _) | rfl
  cases hx:v.cell? ⟨b,o,s⟩ with
  | none =>
   obtain⟨x,e,d,f⟩:=Ze4 (Q:=Q) (m:=false) h hb hx;refine absurd hl ?_;rw[run1,hx];rcases f z with f | ⟨y,f,d2⟩
   ·rw[f];exact Z0L d
   ·rw[f];exact Z0L d2
  | some x =>
   obtain⟨rfl,_⟩:=h.cells hb hx;have hx2:(re v T).cell? ⟨b,o,none⟩=some x:=hx;cases hf:v.frozen? ⟨b,o,none⟩ with
   | true =>
    refine absurd hl ?_;rw[run1,hx,hf];exact Z0L (h:=.unsupported (.unsafePointer "a write to bytes that a string shares")) trivial
   | false =>
    have hf2:(re v T).frozen? ⟨b,o,none⟩=false:=hf;rw[run1,hx,hf]at hl;rw[run2,run2,hx,hx2,hf,hf2];exact ih _ _ (h.store hb hx hf hz) v' hl T ht _
 | @new r o o' k k' ho _ ih =>
  intro v w h v' hl T ht es;have hR:∃r' c w',r.le r'/\r' v.heap.size=some c/\WR C r' {v with heap:=v.heap.push o} w':=by
   have o2:=(SR.new (Q:=Q) (P:=P) (A:=λr (a b:Nat)=>r a=some b) ho (λr' _ b c hb=>.pure hb)).sim v w h #[];obtain⟨r',b,w',ns,_,h1,h2,h3,_⟩:=o2;exact⟨r',b,w',h3.le,h2,h1⟩
  obtain⟨r',c,w',h1,h2,h3⟩:=hR;unfold Sem.runT;exact ih r' h1 _ _ h2 _ _ h3 v' hl T ht es
 | @shape r b b' k k' hb _ ih =>
  intro v w h v' hl T ht es;unfold Sem.runT;exact ih _ v w h v' hl T ht es
 | @getObj r b b' k k' hb _ ih =>
  intro v w h v' hl T ht es;obtain⟨o,o',h1,h2,ho⟩:=h.on b b' hb;have h1':(re v T).heap[b]?=some o:=h1;rcases ho.flip with⟨cs,e,f,rfl⟩ | ⟨n1,n2,n3⟩
  ·refine absurd hl ?_;have:(Sem.getObj b k).run Q v = .halt (.stuck "getObj: a row of cells") v:=by simp only[Sem.run,h1]
   rw[this];exact Z0L (h:=.stuck _) trivial
  ·have e1:(Sem.getObj b k).run Q v=(k o).run Q v:=by
    conv=>lhs;unfold Sem.run
    rw[h1];cases o<;>first | exact absurd rfl (n1 _ _ _) | rfl
   have e2:∀u:World,u.heap[b]?=some o->(Sem.getObj b k).runT Q u es=(k o).runT Q u (es.push ⟨.obj b,false,o.isChan⟩):=by
    intro u hu
    conv=>lhs;unfold Sem.runT
    rw[hu];cases o<;>first | exact absurd rfl (n1 _ _ _) | rfl
   rw[e1]at hl;rw[e2 _ h1,e2 _ h1'];exact ih _ (Ren.le_refl _) o o' ho v w h v' hl T ht _
 | @setObj r b b' o o' k k' hb ho hc _ ih =>
  intro v w h v' hl T ht es;obtain⟨x,x',h1,h2,hx⟩:=h.on b b' hb;have h1':(re v T).heap[b]?=some x:=h1;rcases hx.flip with⟨cs,e,f,rfl⟩ | ⟨n1,n2,n3⟩
  ·refine absurd hl ?_;have:(Sem.setObj b o k).run Q v = .halt (.stuck "setObj: a row of cells") v:=by simp only[Sem.run,h1]
   rw[this];exact Z0L (h:=.stuck _) trivial
  ·have e1:(Sem.setObj b o k).run Q v=k.run Q {v with heap:=v.heap.setIfInBounds b o}:=by
    conv=>lhs;unfold Sem.run
    rw[h1];cases x<;>first | exact absurd rfl (n1 _ _ _) | rfl
   have e2:∀u:World,u.heap[b]?=some x->(Sem.setObj b o k).runT Q u es=k.runT Q {u with heap:=u.heap.setIfInBounds b o} (es.push ⟨.obj b,true,o.isChan⟩):=by
    intro u hu
    conv=>lhs;unfold Sem.runT
    rw[hu];cases x<;>first | exact absurd rfl (n1 _ _ _) | rfl
   have hR:∃w',WR C r {v with heap:=v.heap.setIfInBounds b o} w':=by
    have hl2:=h.lt hb;refine⟨{w with heap:=w.heap.setIfInBounds b' o'},h.turn hb ho (λi=>?_) (λi=>?_) ⟨rfl,rfl,rfl,rfl,rfl,rfl⟩⟩
    ·show (v.heap.setIfInBounds b o)[i]?=_;rw[Array.getElem?_setIfInBounds];by_cases e':b=i
     ·subst e';simp[hl2.1]
     ·simp[e']
    ·show (w.heap.setIfInBounds b' o')[i]?=_;rw[Array.getElem?_setIfInBounds];by_cases e':b'=i
     ·subst e';simp[hl2.2]
     ·simp[e']
   obtain⟨w',hR⟩:=hR;rw[e1]at hl;rw[e2 _ h1,e2 _ h1'];exact ih _ _ hR v' hl T ht _
 | @choose r q k k' k0 ih =>
  intro v w h v' hl T ht es;unfold Sem.runT;by_cases hf:q.forced=true
  ·simp only[hf,if_true];simp only[Sem.run,hf,if_true]at hl;exact ih 0 v w h v' hl T ht es
  ·simp only[Sem.run,hf]at hl;simp only[hf];have hk:=Live.kept (k0 _) h.draw hl;have e:T v.drawn q=v.tape v.drawn q:=ht _ _ (Ye _) (by have:=hk.1;simp at this;omega);have e2:(re v T).tape (re v T).drawn q=v.tape v.drawn q:=e;simp only[e2];exact ih _ {v with drawn:=v.drawn+1} _ h.draw v' hl T (λi q h1 h2=>ht i q (by simp at h1;omega) h2) es
 | program _ ih =>
  intro v w h v' hl T ht es;unfold Sem.runT;exact ih v w h v' hl T ht es
 | room _ ih =>
  intro v w h v' hl T ht es;unfold Sem.runT;exact ih v w h v' hl T ht _
 | @env r k k' _ ih =>
  intro v w h v' hl T ht es;unfold Sem.runT;rw[Z5G,Z5G];simp only[Sem.run,Z5G]at hl;exact ih _ v w h v' hl T ht _
 | panic q=>exact λv w h v' hl T ht es=>rfl
 | dead q =>
  intro v w h v' hl T ht es;obtain⟨x,w',e,d⟩:=q v;rw[e]at hl;exact absurd hl (Z0L d)
end
end Lift
namespace Lift
open Go
variable[Jk]
def Loc(X:World->GStep)(v:World):Prop:=∀g v' es,X v = .go g v' es->(v.drawn<=v'.drawn/\v'.tape=v.tape)/\∀T,Zfa T v.tape v.drawn v'.drawn->X (re v T) = .go g (re v' T) es
section
variable{P:Program}{F:Array Func}{G:FuncId->Prop}{r:Ren}{v w:World}{α β:Type}
theorem Zl(g:Goroutine)(es:Array Event):Loc (λu=>.go g u es) v:=by
 intro g' v' es' h;simp only[GStep.go.injEq]at h;obtain⟨rfl,rfl,rfl⟩:=h;exact⟨⟨Ye _,rfl⟩,λT _=>rfl⟩
theorem Z02{X:World->GStep}(h:∃o w2 es,X v = .ended o w2 es):Loc X v:=by
 obtain⟨o,w2,es,e⟩:=h;intro g' v' es' h;rw[e]at h;cases h
theorem Loc.congr{X Y:World->GStep}(h:Loc Y v)(e:∀u,X u=Y u):Loc X v:=by
 intro g v' es h';rw[e]at h';obtain⟨h1,h2⟩:=h g v' es h';exact⟨h1,λT hT=>by rw[e];exact h2 T hT⟩
theorem Z3b{C:Inv}{A:Ren->α->β->Prop}{s:Sem α}{s':Sem β}(k:SR Q P C A r s s')(h:WR C r v w){X:World->GStep}{Y:α->World->GStep}{Z:Value->World->GStep}(hY:∀a v1,s.run Q v = .ok a v1->(∃r' b,A r' a b)->Loc (Y a) v1/\∀u u1,s.run Q u = .ok a u1->X u = .after (seen Q fn (s.events Q u #[])) (Y a u1))(hZ:∀x v1,s.run Q v = .halt (.panic x) v1->Loc (Z x) v1/\∀u u1,s.run Q u = .halt (.panic x) u1->X u = .after (seen Q fn (s.events Q u #[])) (Z x u1))(hD:∀x u1,s.run Q v = .halt x u1->Dies x->∃o w2 es,X v = .ended o w2 es): Loc X v:=by
 have o:=k.sim v w h #[];have go_:∀{res:Result α} {v1:World} {Yv:World->GStep},s.run Q v=res->Live res v1->(∀T,Result.re T res=(match res with | .ok a _=>.ok a (re v1 T) | .halt x _=>.halt x (re v1 T)))->Loc Yv v1 ->
   X v = .after (seen Q fn (s.events Q v #[])) (Yv v1)->(∀T,s.run Q (re v T)=Result.re T res->X (re v T) = .after (seen Q fn (s.events Q (re v T) #[])) (Yv (re v1 T)))->Loc X v:=by
  intro res v1 Yv hr hl hre hloc e1 e2 g v' es hX;rw[e1]at hX;have hl':Live (s.run Q v) v1:=hr▸hl;obtain⟨k1,k2⟩:=Live.kept k h hl';cases hy:Yv v1 with
  | go g1 w1 es1 =>
   rw[hy]at hX;simp only[GStep.after,GStep.go.injEq]at hX;obtain⟨rfl,rfl,rfl⟩:=hX;obtain⟨⟨h1,h2⟩,h3⟩:=hloc _ _ _ hy;refine⟨⟨Yd k1 h1,h2.trans k2⟩,λT hT=>?_⟩;have hloc2:=k.local v w h v1 hl' T (λi q a b=>hT i q a (Y8 b h1)) #[];rw[Yf,Yf]at hloc2;simp only[Y9]at hloc2;rw[e2 T (by rw[hloc2.1,hr]),hloc2.2];rw[h3 T (λi q a b=>by rw[k2];exact hT i q (Yd k1 a) b)];rfl
  | _=>rw[hy]at hX;cases hX
 cases hr:s.run Q v with
 | ok a v1 =>
  rw[hr]at o;obtain⟨r',b,w',ns,e,hw',hn,hk,he⟩:=o;obtain⟨h1,h2⟩:=hY a v1 hr ⟨r',b,hn⟩;exact go_ hr (.inl ⟨a,rfl⟩) (λT=>rfl) h1 (h2 v v1 hr) λT e=>h2 _ _ e
 | halt x v1 =>
  rw[hr]at o;cases x with
  | panic x =>
   obtain⟨h1,h2⟩:=hZ x v1 hr;exact go_ hr (.inr ⟨x,rfl⟩) (λT=>rfl) h1 (h2 v v1 hr) λT e=>h2 _ _ e
  | stuck y=>exact Z02 (hD _ _ hr trivial)
  | unsupported y=>exact Z02 (hD _ _ hr o)
  | _=>exact o.elim
def Z8e(P:Program)(f:Frame)(K:List Frame):Next->World->GStep
 | .value x,u=>.go (run1 (f.finish x) K) u
 | .skip,u=>.go (run1 (f.finish undef) K) u
 | .enter g xs,u=>.go (run1 (Frame.enter P g xs (Z2i f)) (f::K)) u
 | .round l g xs a b,u=>.go (run1 (Frame.round l g xs a b .normal) (f::K)) u
 | .defer d,u=>.go (run1 (Frame.finish {f with defers:=d::f.defers} undef) K) u
 | .recover,u=>match tryRecover f K with
  | some (x,K')=>.go (run1 (f.finish x) K') u
  | none=>.go (run1 (f.finish .nilIface) K) u
 | _,u=>.ended default u
theorem Z5e(hrec:P.follows .rangeFuncRecover=true){f:Frame}{K:List Frame}(hk:f.kind = .normal\/f.kind = .deferred){df:Prop}{s s':Sem Next}(h:SR (PF P F) P (Iv P F) (NR (Iv P F) G df) r s s')(hw:WR (Iv P F) r v w):
  Loc (λu=>stepG.apply (PF P F) true f K none s u) v:=by
 have hrec':(PF P F).follows .rangeFuncRecover=true:=hrec;have ke:(f.kind==CallKind.early)=false:=by rcases hk with q | q<;>rw[q]<;>rfl
 have el:∀u,lst (PF P F) f s u=seen (PF P F) f.fn (s.events (PF P F) u #[]):=by intro u;unfold lst;rw[ke];rfl
 refine Z3b h hw (fn:=f.fn) (Y:=Z8e (PF P F) f K) (Z:=λx u=>.go (run1 (f.raise [{v:=x,recovered:=false}]) K) u) ?_ ?_ ?_
 ·rintro a v1 _ ⟨r',b,hn⟩;cases hn with
  | value q=>exact⟨Zl _ _,λu u1 e=>by rw[Z0c e,el];rfl⟩
  | skip=>exact⟨Zl _ _,λu u1 e=>by rw[Z2z e,el];rfl⟩
  | enter gf q=>exact⟨Zl _ _,λu u1 e=>by rw[Z0q e,el];rfl⟩
  | round hl hn q ha hb=>exact⟨Zl _ _,λu u1 e=>by rw[Z32 e,el];rfl⟩
  | defer _ q=>exact⟨Zl _ _,λu u1 e=>by rw[Z1O e,el];rfl⟩
  | recover =>
   cases ht:tryRecover f K with
   | none=>exact⟨(Zl (run1 (f.finish .nilIface) K) #[]).congr λu=>by simp only[Z8e,ht],λu u1 e=>by rw[Z2y hrec' e ht,el];simp only[Z8e,ht]⟩
   | some p =>
    obtain⟨x,K'⟩:=p;exact⟨(Zl (run1 (f.finish x) K') #[]).congr λu=>by simp only[Z8e,ht],λu u1 e=>by rw[Z42 hrec' e ht,el];simp only[Z8e,ht]⟩
 ·exact λx v1 _=>⟨Zl _ _,λu u1 e=>by rw[Z31 e,el]⟩
 ·exact λx u1 e d=>Z41 e d
theorem Z9I{m:Bool}{f a:Frame}{K:List Frame}{x:Value}(hk:f.kind = .normal\/f.kind = .deferred): Loc (λu=>doReturn P m f (a::K) none x u) v:=by
 rcases hk with hk | hk
 ·exact(Zl (run1 (a.finish x) K) #[]).congr λu=>by unfold doReturn;simp only[hk];rfl
 ·refine(Zl (run1 (match a.mode with
    | .panicking ({recovered:=true,..}::older)=>(match older.dropWhile (!·.goexit) with
     | []=>{a with mode:=.returning}
     | rest=>{a with mode:=.panicking rest})
    | _=>a) K) #[]).congr λu=>?_
  unfold doReturn;simp only[hk];rfl
def cdY(P:Program)(f:Frame)(K:List Frame):Next->World->GStep
 | .enter g xs,u=>.go (run1 (Frame.enter P g xs .deferred) (f::K)) u
 | .round l g xs a b,u=>.go (run1 (Frame.round l g xs a b .deferred) (f::K)) u
 | .recover,u=>match f.mode,tryRecover f K with
  | .returning,some (_,K')=>.go (run1 f K') u
  | _,_=>.go (run1 f K) u
 | _,u=>.go (run1 f K) u
theorem Z4n(S:Strip P F (CodeOk P false) G){f:Frame}{K:List Frame}{d': Deferred}(hd:DR r d d')(hw:WR (Iv P F) r v w): Loc (λu=>callDeferred (PF P F) f K none d u) v:=by
 have k:=Z2q (C:=Iv P F) (df:=False) S hd.1 hd.2;obtain⟨t,az⟩:=d;obtain⟨t',bs⟩:=d';obtain⟨ht,ha⟩:=hd;dsimp only at ht ha k;cases ht with
 | nil =>
  cases hm:f.mode with
  | run =>
   refine(Zl (run1 (f.raise [{ v:=.iface (PF P F).rt.errorString (strVal "invalid memory address or nil pointer dereference"),recovered:=false }]) K) (seen (PF P F) f.fn #[]++#[])).congr λu=>?_;rw[Z6R (.inl hm)];rfl
  | returning =>
   refine(Zl (run1 (f.raise [{ v:=.iface (PF P F).rt.errorString (strVal "invalid memory address or nil pointer dereference"),recovered:=false }]) K) (seen (PF P F) f.fn #[]++#[])).congr λu=>?_;rw[Z6R (.inr hm)];rfl
  | panicking ps=>exact Z02 (ZcR hm)
 | collected q=>exact Z02 ZcQ
 | fn hfn hx =>
  refine Z3b k hw (fn:=f.fn) (Y:=cdY (PF P F) f K) (Z:=λx u=>.go (run1 (f.raise [{v:=x,recovered:=false}]) K) u) ?_ ?_ ?_
  ·rintro a v1 _ ⟨r',b,hn⟩;cases hn with
   | value q=>exact⟨Zl _ _,λu u1 e=>by rw[Z4z e];rfl⟩
   | skip=>exact⟨Zl _ _,λu u1 e=>by rw[Z9r e];rfl⟩
   | enter gf q=>exact⟨Zl _ _,λu u1 e=>by rw[Z3p e];rfl⟩
   | round hl hn q ha hb=>exact⟨Zl _ _,λu u1 e=>by rw[Z6T e];rfl⟩
   | defer _ q=>exact⟨Zl _ _,λu u1 e=>by rw[Z6Q e];rfl⟩
   | recover =>
    refine⟨?_,λu u1 e=>by rw[ZcS e];rfl⟩;cases hm:f.mode with
    | run=>exact(Zl (run1 f K) #[]).congr λu=>by simp only[cdY,hm]
    | panicking ps=>exact(Zl (run1 f K) #[]).congr λu=>by simp only[cdY,hm]
    | returning =>
     cases ht:tryRecover f K with
     | none=>exact(Zl (run1 f K) #[]).congr λu=>by simp only[cdY,hm,ht]
     | some p=>exact(Zl (run1 f p.2) #[]).congr λu=>by simp only[cdY,hm,ht]
  ·exact λx v1 _=>⟨Zl _ _,λu u1 e=>by rw[Z6S e];rfl⟩
  ·exact λx u1 e d=>Z9q e d
end
end Lift
namespace Lift
open Go
variable[Jk]
section
variable{P:Program}{F:Array Func}{G:FuncId->Prop}{r:Ren}{v w:World}{α β:Type}
theorem Z3E{f: Frame}{A B:List Frame}(hs:Stk P F r (f::A) (g::B))(hw:WR (Iv P F) r v w){j:Option Code}(hj:∀c,j=some c->CodeOk P true c): Loc (λu=>Z05 (PF P F) true f (A++[poison]) u j) v:=by
 have hr:=hs.uncons.1.round;have hk:=hs.uncons.1.kind.2;obtain⟨a,K,hAK⟩:∃a K,A++[poison]=a::K:=by cases A<;>exact⟨_,_,rfl⟩
 rw[hAK];cases hro:f.roundOf with
 | none =>
  by_cases e:(match j with | none=>true | some .ret=>true | _=>false)=true
  ·refine(Zl (run1 {f with mode:=.returning} (a::K)) #[]).congr λu=>?_;unfold Z05;simp only[hro];cases j with
   | none=>rfl
   | some c=>cases c<;>first | rfl | cases e
  ·refine Z02 ?_;unfold Z05;simp only[hro];cases j with
   | none=>exact absurd rfl e
   | some c=>cases c<;>first | exact absurd rfl e | exact⟨_,_,_,rfl⟩
 | some l =>
  rw[hro]at hr;generalize g.roundOf=y at hr;cases hr with
  | some q =>
   refine Z3b (Z5v (P:=P) (F:=F) q hj) hw (fn:=f.fn) (Y:=λx u=>doReturn (PF P F) true f (a::K) none x u) (Z:=λx u=>.ended (.stuck "range over a function: no such loop" (f.pos (PF P F))) u) ?_ ?_ ?_
   ·intro x v1 e _;refine⟨Z9I hk,λu u1 e=>?_⟩;unfold Z05;simp only[hro,e]
   ·intro x v1 e;refine⟨Z02 ⟨_,_,_,rfl⟩,λu u1 e=>?_⟩;unfold Z05;simp only[hro,e]
   ·intro x u1 e d;unfold Z05;simp only[hro,e];exact⟨_,_,_,rfl⟩
theorem Z6b(S:Strip P F (CodeOk P false) G){f: Frame}{A B:List Frame}(hs:Stk P F r (f::A) (g::B))(hw:WR (Iv P F) r v w): Loc (λu=>unwind (PF P F) true f (A++[poison]) none u) v:=by
 have hd:=hs.uncons.1.defers.1;have hk:=hs.uncons.1.kind.2;have hf:=hs.uncons.1;obtain⟨a,K,hAK⟩:∃a K,A++[poison]=a::K:=by cases A<;>exact⟨_,_,rfl⟩
 rw[hAK];cases h1:f.defers with
 | cons d ds =>
  rw[h1]at hd;generalize g.defers=es at hd;cases hd with
  | @cons d e ds es hde hrest =>
   obtain⟨t,az⟩:=d;obtain⟨t',bs⟩:=e;have hde0:=hde;obtain⟨ht,ha⟩:=hde;dsimp only at ht ha;cases ht with
   | @collected b c q =>
    refine Z3b (ZeN (P:=P) (F:=F) q) hw (fn:=f.fn) (Y:=λx u=>.go (run1 {f with defers:=x++ds} (a::K)) u) (Z:=λx u=>.ended (.stuck "the deferred calls of a range-over-func loop have been taken" (f.pos (PF P F))) u) ?_ ?_ ?_
    ·exact λx v1 e _=>⟨Zl _ _,λu u1 e=>by unfold unwind;simp only[h1,Yf,e];rfl⟩
    ·exact λx v1 e=>⟨Z02 ⟨_,_,_,rfl⟩,λu u1 e=>by unfold unwind;simp only[h1,Yf,e]⟩
    ·exact λx u1 e d=>by unfold unwind;simp only[h1,Yf,e];exact⟨_,_,_,rfl⟩
   | nil=>exact(Z4n S hde0 hw (f:={f with defers:=ds}) (K:=a::K)).congr λu=>by unfold unwind;simp only[h1]
   | fn x y=>exact(Z4n S hde0 hw (f:={f with defers:=ds}) (K:=a::K)).congr λu=>by unfold unwind;simp only[h1]
 | nil =>
  cases hm:f.mode with
  | run =>
   refine Z02 ⟨.stuck "unwind: the frame is running" (f.pos (PF P F)),v,#[],?_⟩;unfold unwind;simp only[h1,hm]
  | panicking ps =>
   have c1:f.catches (PF P F)=false:=by
    unfold Frame.catches;split
    ·rename_i e2;exact absurd e2 ((Z7y hf).1 _ _ _ _ _)
    ·rfl
   refine(Zl (run1 (a.raise ps) K) #[]).congr λu=>?_;unfold unwind;simp only[h1,hm,c1];rfl
  | returning =>
   have e0:(PF P F).funcs=F:=rfl;cases hfn:F[f.fn]? with
   | none=>exact(Z9I (P:=PF P F) (m:=true) (a:=a) (K:=K) (x:=f.tmps.getD 0 undef) hk).congr λu=>by unfold unwind;simp only[h1,hm,e0,hfn]
   | some fn =>
    refine Z3b (Z1M (P:=P) (F:=F) (fn:=fn) hf.tmps) hw (fn:=f.fn) (Y:=λx u=>doReturn (PF P F) true f (a::K) none x u) (Z:=λx u=>.ended (.stuck "return: the result variables cannot be read" (f.pos (PF P F))) u) ?_ ?_ ?_
    ·exact λx v1 e _=>⟨Z9I hk,λu u1 e=>by unfold unwind;simp only[h1,hm,e0,hfn,Yf,e]⟩
    ·exact λx v1 e=>⟨Z02 ⟨_,_,_,rfl⟩,λu u1 e=>by unfold unwind;simp only[h1,hm,e0,hfn,Yf,e]⟩
    ·intro x u1 e d;unfold unwind;simp only[h1,hm,e0,hfn,Yf,e];cases x<;>exact⟨_,_,_,rfl⟩
theorem Zg0 (S:Strip P F (CodeOk P false) G) (hrec:P.follows .rangeFuncRecover=true) {f g:Frame} {A B:List Frame} (hs:Stk P F r (f::A) (g::B)) (hw:WR (Iv P F) r v w) (hm:f.mode = .run) (np:¬Pend f) :
    Loc (λu=>stepG.exec (PF P F) true true f (A++[poison]) none u) v:=by
  obtain⟨hf, hst, hd⟩ := hs.uncons;have ht := hf.todo;have hk := hf.kind.2;generalize h1 : f.todo=fk at ht;generalize h2 : g.todo=gk at ht;cases ht with
  | nil=>exact(Z3E hs hw sU).congr λu=>ZaA h1
  | tail _ _=>exact Z02 ⟨_,_,_,(Z1y h1).choose_spec⟩
  | cut _ _ h =>
    cases h with
    | stop _=>exact Z02 ⟨_,_,_,(Z1y h1).choose_spec⟩
    | seq _ _=>exact(Zl _ _).congr λu=>Z2T h1
    | left _=>exact(Zl _ _).congr λu=>Z2T h1
  | @cons a b k k' hab hk2 =>
    cases hab with
    | @code c hc =>
      cases c with
      | skip=>exact(Zl _ _).congr λu=>Z79 h1
      | label i=>exact(Zl _ _).congr λu=>Z4H h1
      | ret=>exact(Z3E hs hw (by intro c e;cases e;trivial)).congr λu=>ZaB h1
      | seq x y=>exact(Zl _ _).congr λu=>Z2T h1
      | block i x=>exact(Zl _ _).congr λu=>Z4G h1
      | loop x=>exact(Zl _ _).congr λu=>Z78 h1
      | scope x=>exact(Zl _ _).congr λu=>Z4I h1
      | refuse y=>exact Z02 ⟨_,_,_,(Z1y h1).choose_spec⟩
      | cond x y z =>
        cases hx:f.eval x with
        | bool t=>exact(Zl (run1 {f with todo:=.code (if t then y else z)::k} (A++[poison])) #[]).congr λu=>by rw[Z58 h1,hx]
        | _=>exact Z02 ⟨_,_,_,by rw[Z58 h1,hx]⟩
      | exit i =>
        cases e:exitTo i k with
        | some k2=>exact(Zl (run1 {f with todo:=k2} (A++[poison])) #[]).congr λu=>by rw[Z59 h1,e]
        | none=>exact(Z3E hs hw (j:=some (.exit i)) (by intro c e;cases e;trivial)).congr λu=>by rw[Z59 h1,e]
      | goto i =>
        cases e:gotoIn i k with
        | some k2=>exact(Zl (run1 {f with todo:=k2} (A++[poison])) #[]).congr λu=>by rw[Z77 h1,e]
        | none=>exact(Z3E hs hw (j:=some (.goto i)) (by intro c e;cases e;trivial)).congr λu=>by rw[Z77 h1,e]
      | region i ops draw =>
        cases draw with
        | false=>exact(Zl _ _).congr λu=>Z3y h1
        | true =>
          intro g' v' es h;dsimp only at h⊢;rw[Z76 h1]at h;simp only[GStep.go.injEq]at h;obtain⟨rfl, rfl, rfl⟩ := h;refine⟨⟨sU, rfl⟩, λT hT => ?_⟩;rw[Z76 h1];have e : (re v T).tape (re v T).drawn (.order f.fn i)=v.tape v.drawn (.order f.fn i) := hT _ _ (Ye _) (Nat.lt_succ_self _);rw[e];rfl
      | rangeFunc x ps y z =>
        have hown : (Iv P F).fn f.fn := Classical.not_not.1 hc.2.2.2.1;refine Z3b (Z2p (ps := ps) hown hf.tmps hc.2.1 hc.2.2.1 hf.round) hw (fn := f.fn)
          (Y := λn u => stepG.apply (PF P F) true { f with todo := .inRangeFunc n.1 :: k, defers := n.2 ++ f.defers } (A ++ [poison]) none (do let d <- resolve f.eval { callee := .value x, args := #[.const (.func (.yield n.1) #[] #[])], argTypes := #[] } 0; invoke d.target d.args) u)
          (Z:=λx u=>.ended (.stuck "range over a function: no such loop" (f.pos (PF P F))) u) ?_ ?_ ?_
        · intro n v1 e _
          have o := (Z2p (P := P) (F := F) (ps := ps) hown hf.tmps hc.2.1 hc.2.2.1 hf.round).sim v w hw #[];rw[e]at o;obtain⟨r', b, w', ns, _, hw', hn, hkk, _⟩ := o;obtain⟨l, mk⟩ := n;obtain⟨l', mk'⟩ := b;obtain⟨hl, hm⟩ := hn;have hf' := hf.mono hkk.le
          refine⟨Z5e (G := G) (df := False) (f := {f with todo := .inRangeFunc l::k, defers := mk++f.defers}) (s' := (do let d <-resolve g.eval {callee := .value x, args := #[.const (.func (.yield l') #[] #[])], argTypes := #[]} 0; invoke d.target d.args)) hrec hk ?_ hw', λu u1 e => by rw[Z3x h1, e]⟩;by_cases hz : f.eval x=J0
          · refine .dead ?_
            unfold resolve;dsimp only;rw[hz];exact Z48 hc.2.2.2.2 _
          refine Z2 (A := DR) ?_ λ_ _ a b q => Z2q S q.1 q.2;unfold resolve;have hy : VR r' (.func (.yield l) #[] #[]) (.func (.yield l') #[] #[]) := .func (.yield hl) rfl sU rfl sU;refine Z4f hz (hf'.env x hc.1) ?_;have e3 : ∀(h : Operand->Value) (z : Operand), #[z].map h=#[h z] := λh z => by simp
          rw[e3, e3];exact Arr.one hy
        · exact λn v1 e=>⟨Z02 ⟨_,_,_,rfl⟩,λu u1 e=>by rw[Z3x h1,e]⟩
        · exact λn u1 e d=>by rw[Z3x h1,e];exact⟨_,_,_,rfl⟩
    | inBlock i=>exact(Zl _ _).congr λu=>Z2G h1
    | inLoop hc=>exact(Zl _ _).congr λu=>Z3w h1
    | inScope hc=>exact(Zl _ _).congr λu=>Z2H h1
    | inRange _ q=>exact Z02 (Z64 h1)
    | begin_ =>
      have hr:=hf.round
      refine(Z5e (G := G) (df := False) (s' := (do g.roundOf.elim (stuck "beginRound: no round") Instr.beginRound; pure .skip)) hrec hk (sr_u ?_) hw).congr λu => Z74 h1;generalize f.roundOf=x at hr⊢;generalize g.roundOf=y at hr⊢;cases hr with
      | none=>exact Z1
      | some q=>exact Z3U q
    | @endRange l l' _ q =>
      refine Z3b (Z6q (P:=P) (F:=F) q) hw (fn:=f.fn) (Y:=λj u=>.go (run1 {f with todo:=(j.map Item.code).toList++k} (A++[poison])) u) (Z:=λx u=>.go (run1 (f.raise [{v:=x,recovered:=false}]) (A++[poison])) u) ?_ ?_ ?_
      · exact λj v1 e _=>⟨Zl _ _,λu u1 e=>by rw[Z10 h1,e]⟩
      · exact λx v1 e=>⟨Zl _ _,λu u1 e=>by rw[Z10 h1,e]⟩
      · intro x u1 e d
        rw[Z10 h1, e];cases x<;>first | exact⟨_, _, _, rfl⟩ | exact d.elim
    | @inRegion ops todo hops =>
      cases todo with
      | nil=>exact(Zl _ _).congr λu=>Z75 h1
      | cons i rest =>
        cases ho:ops[i]? with
        | none=>exact(Zl (run1 (f.finish undef) (A++[poison])) #[]).congr λu=>by rw[Z1R h1,ho];rfl
        | some o =>
          by_cases hwant:Region.wanted o (yielded ops f.tmps)=true
          · have hop:=hops o (Yk ho)
            have hro:f.roundOf=none\/∀c,o.op ≠ .defer c:=by
              cases hx:f.roundOf with
              | none=>exact .inl rfl
              | some l=>exact .inr (hop.2 (.inl (by rw[hx];rfl)))
            refine(Z5e (K := A++[poison]) hrec hk (Z8Y S hw.inj (λ_ => rfl) hf.env (hop.1.resolve_right λq => np ⟨q.1, hm, ops, i, rest, k, o, h1, ho, hwant, q.2⟩)) hw).congr λu => ?_;rw[Z1R h1, ho, Z4a h1 ho hro];simp[hwant]
          · refine(Zl (run1 (f.finish undef) (A++[poison])) #[]).congr λu=>?_
            rw[Z1R h1, ho];simp[hwant]
theorem Zcd(S:Strip P F (CodeOk P false) G)(hrec:P.follows .rangeFuncRecover=true){f: Frame}{A B:List Frame}(hs:Stk P F r (f::A) (g::B))(hw:WR (Iv P F) r v w)(np:¬Pend f):
  Loc (λu=>stepG (PF P F) true (run1 f (A++[poison])) u) v:=by
 cases hx:f.mode with
 | run=>exact(Zg0 S hrec hs hw hx np).congr λu=>by unfold stepG run1;simp only[hx]
 | returning=>exact(Z6b S hs hw).congr λu=>by unfold stepG run1;simp only[hx]
 | panicking q=>exact(Z6b S hs hw).congr λu=>by unfold stepG run1;simp only[hx]
end
end Lift
namespace Lift
open Go
variable[Jk]
section
variable{P:Program}{F:Array Func}{G:FuncId->Prop}{r:Ren}{v w:World}
theorem WR.retape{C:Inv}(h:WR C r v w)(τ:Nat->Question->Nat):∃σ,WR C r (re v τ) (re w σ):=
 ⟨λi q=>τ (i-w.drawn+v.drawn) q,h.on,h.inj,λi q=>by
  show τ (v.drawn+i) q=τ (w.drawn+i-w.drawn+v.drawn) q;congr 1;omega,h.env⟩
def Rec(P:Program):Prop:=P.follows .rangeFuncRecover=true/\∀f,¬Jk.law f
theorem Z8v(S:Strip P F (CodeOk P false) G)(hg:GOk P F G)(hrec:Rec P){f: Frame}{A B:List Frame}(hs:Stk P F r (f::A) (g::B))(hw:WR (Iv P F) r v w):
  (∃o w2 es,stepG (PF P F) true (run1 f (A++[poison])) v = .ended o w2 es) \/
  (∃x v' es,stepG (PF P F) true (run1 f (A++[poison])) v = .go (run1 x []) v' es/\(x=poison\/∃c,x={poison with mode:=.panicking c})) \/
  ∃f' A' g' B' r' v' w' es,stepG (PF P F) true (run1 f (A++[poison])) v = .go (run1 f' (A'++[poison])) v' es/\Stk P F r' (f'::A') (g'::B')/\WR (Iv P F) r' v' w':=by
 have h:=Z7P (cs:=[]) (m:=true) S hg hrec.1 hs hw λq=>hrec.2 _ q.1;cases e:stepG (PF P F) true (run1 f (A++[poison])) v with
 | ended o w2 es=>exact .inl ⟨_,_,_,rfl⟩
 | go g' v' es =>
  rw[e]at h;rcases h with (h | ⟨c,h⟩) | ⟨r',f',W,w',ns,_,h1,h2,h3,⟨A',B',h4,h5,h6,h7⟩,h8,_⟩
  ·exact .inr (.inl ⟨_,_,_,by rw[h],.inl rfl⟩)
  ·exact .inr (.inl ⟨_,_,_,by rw[h],.inr ⟨c,rfl⟩⟩)
  ·cases A' with
   | nil=>exact absurd rfl h6
   | cons a az =>
    cases B' with
    | nil=>have:=h7.rel;cases this
    | cons b bs =>
     simp only[List.cons_append,List.cons.injEq]at h4;obtain⟨fr,cl,st,dy,off⟩:=g';dsimp only at h1 h2 h3 h4;obtain⟨rfl,rfl⟩:=h4;subst h1 h2 h3;exact .inr (.inr ⟨_,az,b,bs,r',v',w',es,rfl,h7,h8⟩)
 | _=>rw[e]at h;exact h.elim
theorem Z1W{x:Frame}(hx:x=poison\/∃c,x={poison with mode:=.panicking c})(u:World): ∃o w2 es,stepG Q true (run1 x []) u = .ended o w2 es:=by
 rcases hx with rfl | ⟨c,rfl⟩
 ·exact⟨_,_,_,rfl⟩
 ·exact⟨_,_,_,rfl⟩
inductive Ends(Q:Program)(Stop:List Frame->World->Prop):List Frame->World->Prop
 | stop {V v} (h:Stop V v):Ends Q Stop V v
 | step {f K v} (ok:∀τ,∃f' K' v' es,stepG Q true (run1 f K) (re v τ) = .go (run1 f' K') v' es)
   (h:∀τ f' K' v' es,stepG Q true (run1 f K) (re v τ) = .go (run1 f' K') v' es->Ends Q Stop (f'::K') v'):Ends Q Stop (f::K) v
theorem Ends.re{Stop:List Frame->World->Prop}(hS:∀V v T,Stop V v->Stop V (Lift.re v T)){V:List Frame}{v:World}(h:Ends Q Stop V v)(T:Nat->Question->Nat): Ends Q Stop V (Lift.re v T):=by
 cases h with
 | stop h=>exact .stop (hS _ _ _ h)
 | step ok h=>exact .step ok h
def Seat(P:Program)(F:Array Func)(f:Frame)(K:List Frame)(v:World):Prop:=
 (∃A g B r w,K=A++[poison]/\Stk P F r (f::A) (g::B)/\WR (Iv P F) r v w)\/(K=[]/\(f=poison\/∃c,f={poison with mode:=.panicking c}))
theorem Seat.step(S:Strip P F (CodeOk P false) G)(hg:GOk P F G)(hrec:Rec P){f:Frame}{K:List Frame}(h:Seat P F f K v)(τ:Nat->Question->Nat):
  (∃o w2 es,stepG (PF P F) true (run1 f K) (re v τ) = .ended o w2 es)\/∃f' K' v' es,stepG (PF P F) true (run1 f K) (re v τ) = .go (run1 f' K') v' es/\Seat P F f' K' v':=by
 rcases h with⟨A,g,B,r,w,rfl,hs,hw⟩ | ⟨rfl,hx⟩
 ·obtain⟨σ,hw'⟩:=hw.retape τ;rcases Z8v S hg hrec hs hw' with h | ⟨x,v',es,e,hx⟩ | ⟨f',A',g',B',r',v',w',es,e,h1,h2⟩
  ·exact .inl h
  ·exact .inr ⟨_,_,_,_,e,.inr ⟨rfl,hx⟩⟩
  ·exact .inr ⟨_,_,_,_,e,.inl ⟨_,_,_,_,_,rfl,h1,h2⟩⟩
 ·exact .inl (Z1W hx _)
theorem Seat.loc(S:Strip P F (CodeOk P false) G)(hrec:Rec P){f:Frame}{K:List Frame}(h:Seat P F f K v)(τ:Nat->Question->Nat): Loc (λu=>stepG (PF P F) true (run1 f K) u) (re v τ):=by
 rcases h with⟨A,g,B,r,w,rfl,hs,hw⟩ | ⟨rfl,hx⟩
 ·obtain⟨σ,hw'⟩:=hw.retape τ;exact Zcd S hrec.1 hs hw' λq=>hrec.2 _ q.1
 ·exact Z02 (Z1W hx _)
section
variable{Stop:List Frame->World->Prop}
structure Bad(P:Program)(F:Array Func)(Stop:List Frame->World->Prop) where
 f:Frame
 K:List Frame
 v:World
 seat:Seat P F f K v
 bad:¬Ends (PF P F) Stop (f::K) v
def Bad.Next(x:Bad P F Stop)(T:Nat->Question->Nat)(y:Option (Bad P F Stop)):Prop:=
 (∀i q,i<x.v.drawn->T i q=x.v.tape i q)/\match y with
  | some y=>∃es,stepG (PF P F) true (run1 x.f x.K) (re x.v T) = .go (run1 y.f y.K) y.v es
  | none=>∃o w2 es,stepG (PF P F) true (run1 x.f x.K) (re x.v T) = .ended o w2 es
theorem Bad.next(S:Strip P F (CodeOk P false) G)(hg:GOk P F G)(hrec:Rec P)(hS:∀V v T,Stop V v->Stop V (Lift.re v T))(x:Bad P F Stop):∃T y,x.Next T y:=by
 have:∃τ,(∃o w2 es,stepG (PF P F) true (run1 x.f x.K) (re x.v τ) = .ended o w2 es)\/∃f' K' v' es,stepG (PF P F) true (run1 x.f x.K) (re x.v τ) = .go (run1 f' K') v' es/\Seat P F f' K' v'/\¬Ends (PF P F) Stop (f'::K') v':=by
  refine Classical.byContradiction λhn=>x.bad ?_;have hn':∀τ,∃f' K' v' es,stepG (PF P F) true (run1 x.f x.K) (re x.v τ) = .go (run1 f' K') v' es/\Ends (PF P F) Stop (f'::K') v':=by
   intro τ;rcases x.seat.step S hg hrec τ with h | ⟨f',K',v',es,e,hs⟩
   ·exact absurd ⟨τ,.inl h⟩ hn
   ·exact⟨f',K',v',es,e,Classical.byContradiction λhb=>hn ⟨τ,.inr ⟨f',K',v',es,e,hs,hb⟩⟩⟩
  refine .step (λτ=>?_) (λτ f' K' v' es e=>?_)
  ·obtain⟨f',K',v',es,e,_⟩:=hn' τ;exact⟨f',K',v',es,e⟩
  ·obtain⟨f2,K2,v2,es2,e2,h2⟩:=hn' τ;rw[e]at e2;simp only[GStep.go.injEq,run1,Goroutine.mk.injEq]at e2;obtain⟨⟨rfl,rfl,_⟩,rfl,_⟩:=e2;exact h2
 obtain⟨τ,hτ⟩:=this
 let T:Nat->Question->Nat:=λi q=>if i<x.v.drawn then x.v.tape i q else τ i q
 have hT:∀i q,i<x.v.drawn->T i q=x.v.tape i q:=λi q h=>if_pos h;have hA:∀hi,Zfa τ T x.v.drawn hi:=λhi i q h1 _=>(if_neg oM).symm;rcases x.seat.step S hg hrec T with h | ⟨f',K',v',es,e,hs⟩
 ·exact⟨T,none,hT,h⟩
 ·obtain⟨⟨h1,h2⟩,h3⟩:=x.seat.loc S hrec T _ _ _ e;have e3:stepG (PF P F) true (run1 x.f x.K) (re x.v τ) = .go (run1 f' K') (re v' τ) es:=h3 τ (hA _);rcases hτ with⟨o,w2,es2,q⟩ | ⟨f2,K2,v2,es2,q,_,hb⟩
  ·rw[q]at e3;cases e3
  ·rw[q]at e3;simp only[GStep.go.injEq,run1,Goroutine.mk.injEq]at e3;obtain⟨⟨rfl,rfl,_⟩,rfl,_⟩:=e3;exact⟨T,some ⟨_,_,v',hs,λhE=>hb (hE.re hS τ)⟩,hT,es,e⟩
section
variable{Stop:List Frame->World->Prop}
structure Way(P:Program)(F:Array Func)(Stop:List Frame->World->Prop) where
 tp:Bad P F Stop->Nat->Question->Nat
 y:Bad P F Stop->Option (Bad P F Stop)
 h:∀x:Bad P F Stop,x.Next (tp x) (y x)
def Way.chain(W:Way P F Stop)(x:Bad P F Stop):Nat->Option (Bad P F Stop)
 | 0=>some x
 | k+1=>(W.chain x k).bind W.y
theorem Way.up(W:Way P F Stop)(S:Strip P F (CodeOk P false) G)(hrec:Rec P){x y:Bad P F Stop}(h:W.y x=some y):x.v.drawn<=y.v.drawn:=by
 have:=(W.h x).2;rw[h]at this;obtain⟨es,e⟩:=this;exact(x.seat.loc S hrec _ _ _ _ e).1.1
theorem Way.mono(W:Way P F Stop)(S:Strip P F (CodeOk P false) G)(hrec:Rec P){x0 x z:Bad P F Stop}{j:Nat}(hj:W.chain x0 j=some x):
  ∀n,W.chain x0 (j+1+n)=some z->∃y,W.y x=some y/\y.v.drawn<=z.v.drawn:=by
 intro n
 induction n generalizing z with
 | zero =>
  intro h;simp only[Nat.add_zero,Way.chain,hj,Option.bind_some]at h;exact⟨z,h,Ye _⟩
 | succ n ih =>
  intro h;rw[show j+1+(n+1)=(j+1+n)+1 from rfl,Way.chain]at h;obtain⟨m,hm,hz⟩:=Option.bind_eq_some_iff.1 h;obtain⟨y,hy,hle⟩:=ih hm;exact⟨y,hy,Yd hle (W.up S hrec hz)⟩
def Way.own(W:Way P F Stop)(x:Bad P F Stop)(i:Nat):Prop:=x.v.drawn<=i/\∀y,W.y x=some y->i<y.v.drawn
theorem Way.tape(W:Way P F Stop)(S:Strip P F (CodeOk P false) G)(hrec:Rec P)(x0:Bad P F Stop):
  ∃T:Nat->Question->Nat,∀k x,W.chain x0 k=some x->∀i q,W.own x i->T i q=W.tp x i q:=by
 have un:∀j k x z i,W.chain x0 j=some x->W.chain x0 k=some z->W.own x i->W.own z i->x=z:=by
  intro j k x z i hj hk ho hz;rcases Nat.lt_trichotomy j k with h | h | h
  ·obtain⟨n,rfl⟩:∃n,k=j+1+n:=⟨k-(j+1),oM⟩;obtain⟨y,hy,hle⟩:=W.mono S hrec hj n hk;have:=ho.2 y hy;have:=hz.1;omega
  ·subst h;rw[hj]at hk;exact Y1 hk
  ·obtain⟨n,rfl⟩:∃n,j=k+1+n:=⟨j-(k+1),oM⟩;obtain⟨y,hy,hle⟩:=W.mono S hrec hk n hj;have:=hz.2 y hy;have:=ho.1;omega
 have:∀i,∃t:Question->Nat,∀k x,W.chain x0 k=some x->W.own x i->∀q,t q=W.tp x i q:=by
  intro i;by_cases h:∃k x,W.chain x0 k=some x/\W.own x i
  ·obtain⟨k,x,hk,ho⟩:=h;exact⟨W.tp x i,λk' x' hk' ho' q=>by rw[un k k' x x' i hk hk' ho ho']⟩
  ·exact⟨λ_=>0,λk x hk ho=>absurd ⟨k,x,hk,ho⟩ h⟩
 obtain⟨t,ht⟩:=Classical.axiomOfChoice this;exact⟨t,λk x hk i q ho=>ht i k x hk ho q⟩
theorem ZeQ{f f':Frame}{K K':List Frame}{v v':World}{es:Array Event}(h:stepG Q true (run1 f K) v = .go (run1 f' K') v' es): step Q (lone f K v) = .next (lone f' K' v'):=
 step_lone_go (by rw[show ({frame:=f,callers:=K,status:=.running,dying:=none}:Goroutine)=run1 f K from rfl,h];rfl)
theorem step_end{f:Frame}{K:List Frame}{v w:World}{o:Outcome}{es:Array Event}(h:stepG Q true (run1 f K) v = .ended o w es): step Q (lone f K v) = .ended o w:=
 step_lone_ended (by rw[show ({frame:=f,callers:=K,status:=.running,dying:=none}:Goroutine)=run1 f K from rfl,h];rfl)
theorem Zev{m m1 m2:Machine}(h:runN Q k m = .next m1)(h':step Q m1 = .next m2): runN Q (k+1) m = .next m2:=by
 rw[runN_add,h];simp[runN,h']
theorem Way.runs(W:Way P F Stop)(S:Strip P F (CodeOk P false) G)(hrec:Rec P)(x0:Bad P F Stop){T:Nat->Question->Nat}(hT:∀k x,W.chain x0 k=some x->∀i q,W.own x i->T i q=W.tp x i q):
  ∀k x,W.chain x0 k=some x->runN (PF P F) k (lone x0.f x0.K (re x0.v T)) = .next (lone x.f x.K (re x.v T)):=by
 intro k
 induction k with
 | zero =>
  intro x h;simp only[Way.chain,Y4]at h;subst h;rfl
 | succ k ih =>
  intro z h;rw[Way.chain]at h;obtain⟨x,hx,hz⟩:=Option.bind_eq_some_iff.1 h;refine Zev (ih x hx) ?_;have hn:=(W.h x).2;rw[hz]at hn;obtain⟨es,e⟩:=hn;have:=(x.seat.loc S hrec _ _ _ _ e).2 T λi q h1 h2=>hT k x hx i q ⟨h1,λy hy=>by
   rw[hz]at hy;obtain rfl:=Y1 hy;exact h2⟩
  exact ZeQ this
theorem Z1g(S:Strip P F (CodeOk P false) G)(hg:GOk P F G)(hrec:Rec P)(hS:∀V v T,Stop V v->Stop V (Lift.re v T)){f:Frame}{K:List Frame}(hst:Seat P F f K v)(h:∀T,∃n f' K' v',runN (PF P F) n (lone f K (re v T)) = .next (lone f' K' v')/\Stop (f'::K') v'): Ends (PF P F) Stop (f::K) v:=by
 refine Classical.byContradiction λhb=>?_;have hW:∃W:Way P F Stop,True:=by
  obtain⟨tp,h1⟩:=Classical.axiomOfChoice λx:Bad P F Stop=>x.next S hg hrec hS;obtain⟨y,h2⟩:=Classical.axiomOfChoice h1;exact⟨⟨tp,y,h2⟩,trivial⟩
 obtain⟨W,-⟩:=hW
 let x0:Bad P F Stop:=⟨f,K,v,hst,hb⟩
 obtain⟨T,hT⟩:=W.tape S hrec x0;have hr:=W.runs S hrec x0 hT;obtain⟨n,f',K',v',hn,hs⟩:=h T;cases hc:W.chain x0 n with
 | some x =>
  have e:=hr n x hc;rw[show lone x0.f x0.K (re x0.v T)=lone f K (re v T) from rfl,hn]at e;injection e with e
  have e1:v'=re x.v T:=congrArg (·.world) e;have e2:=congrArg (·.gs) e;simp only[lone,Array.mk.injEq,List.cons.injEq,Goroutine.mk.injEq,and_true]at e2;obtain⟨rfl,rfl,_⟩:=e2;subst e1;have h3:Stop (x.f::x.K) (re (re x.v T) x.v.tape):=hS _ _ x.v.tape hs;exact x.bad (.stop h3)
 | none =>
  have:∀n,W.chain x0 n=none->∃k x,k<n/\W.chain x0 k=some x/\W.y x=none:=by
   intro n
   induction n with
   | zero=>intro h;cases h
   | succ n ih =>
    intro h;cases hm:W.chain x0 n with
    | none =>
     obtain⟨k,x,h1,h2,h3⟩:=ih hm;exact⟨k,x,oM,h2,h3⟩
    | some x =>
     rw[Way.chain,hm]at h;exact⟨n,x,oM,hm,h⟩
  obtain⟨k,x,hk,hx,hy⟩:=this n hc;have hA:∀hi,Zfa (W.tp x) T x.v.drawn hi:=λhi i q h1 _=>(hT k x hx i q ⟨h1,λy h=>by rw[hy]at h;cases h⟩).symm;have hnx:=(W.h x).2;rw[hy]at hnx;obtain⟨o,w2,es,he⟩:=hnx;rcases x.seat.step S hg hrec T with⟨o,w2,es,e⟩ | ⟨g,K2,v2,es2,e,_⟩
  ·obtain⟨j,rfl⟩:∃j,n=k+(1+j):=⟨n-k-1,oM⟩;have h1:=hr k x hx;rw[show lone x0.f x0.K (re x0.v T)=lone f K (re v T) from rfl]at h1;rw[runN_add,h1,Nat.add_comm 1 j]at hn;simp only[runN,step_end e]at hn;cases hn
  ·have:stepG (PF P F) true (run1 x.f x.K) (re (re x.v T) (W.tp x))=_:=(x.seat.loc S hrec T _ _ _ e).2 (W.tp x) (hA _);rw[show re (re x.v T) (W.tp x)=re x.v (W.tp x) from rfl,he]at this;cases this
end
end
end
end Lift
namespace Lift
open Go
variable[Jk]
structure WH(C:Inv)(r:Ren)(v w:World):Prop where
 on:∀b c,r b=some c->∃o o',v.heap[b]?=some o/\w.heap[c]?=some o'/\OR C r o o'
 inj:Inj r
 env:v.os.env=w.os.env
section
variable{P:Program}{F:Array Func}{G:FuncId->Prop}{r:Ren}{v w:World}{C:Inv}
theorem WR.h(h:WR C r v w):WH C r v w:=⟨h.on,h.inj,h.env⟩
theorem WH.tape(h:WH C r v w):∃T,WR C r (re v T) w:=
 ⟨λi q=>w.tape (w.drawn+(i-v.drawn)) q,h.on,h.inj,λi q=>by
  show w.tape (w.drawn+(v.drawn+i-v.drawn)) q=_;rw[Nat.add_sub_cancel_left],h.env⟩
theorem WH.of(h:WH C r v w){v' w':World}(hv:v'.heap=v.heap)(hw:w'.heap=w.heap)(e:v'.os.env=w'.os.env): WH C r v' w':=
 ⟨by rw[hv,hw];exact h.on,h.inj,e⟩
def Sour(x:Frame):Prop:=x=poison\/∃c,x={poison with mode:=.panicking c}
theorem Z0n{Stop:List Frame->World->Prop}(hP:∀x u,¬Stop [x] u){x:Frame}(hx:Sour x){u:World}: ¬Ends (PF P F) Stop [x] u:=by
 intro h;cases h with
 | stop h=>exact hP _ _ h
 | step ok _ =>
  obtain⟨f',K',v',es,e⟩:=ok u.tape;obtain⟨o,w2,es2,e2⟩:=Z1W (Q:=PF P F) hx (re u u.tape);rw[e2]at e;cases e
theorem Z5B(S:Strip P F (CodeOk P false) G)(hg:GOk P F G)(hrec:P.follows .rangeFuncRecover=true){f: Frame}{A B:List Frame}(hs:Stk P F r (f::A) (g::B))(hw:WH (Iv P F) r v w)(np:¬Pend f)(ok:∀τ,∃f' K' v' es,stepG (PF P F) true (run1 f (A++[poison])) (re v τ) = .go (run1 f' K') v' es)(m:Bool)(cs:List Frame):
  ∃τ f' K' v' es,stepG (PF P F) true (run1 f (A++[poison])) (re v τ) = .go (run1 f' K') v' es /\
   ((K'=[]/\Sour f')\/∃A' g' B' r' w' ns,K'=A'++[poison]/\stepG P m (run1 g (B++cs)) w = .go (run1 g' (B'++cs)) w' ns/\Stk P F r' (f'::A') (g'::B')/\WR (Iv P F) r' v' w'/\Kept r r' (re v τ) v' w w'/\∀e∈ns,EvG r' (re v τ) w' e):=by
 obtain⟨τ,hw⟩:=hw.tape;obtain⟨f',K',v',es,e⟩:=ok τ;refine⟨τ,f',K',v',es,e,?_⟩;have h:=Z7P (cs:=cs) (m:=m) S hg hrec hs hw np;rw[e]at h;rcases h with h | ⟨r',g',W,w',ns,h0,_,_,_,⟨A',B',h4,h5,h6,h7⟩,h8,h9,h10⟩
 ·refine .inl ?_;rcases h with h | ⟨c,h⟩
  ·simp only[run1,Goroutine.mk.injEq]at h;exact⟨h.2.1,.inl h.1⟩
  ·simp only[run1,Goroutine.mk.injEq]at h;exact⟨h.2.1,.inr ⟨c,h.1⟩⟩
 ·cases A' with
  | nil=>exact absurd rfl h6
  | cons a az =>
   cases B' with
   | nil=>have:=h7.rel;cases this
   | cons b bs =>
    simp only[run1,List.cons_append,List.cons.injEq]at h4 h5;obtain⟨rfl,rfl⟩:=h4;obtain⟨rfl,rfl⟩:=h5;exact .inr ⟨az,_,bs,r',w',ns,rfl,h0,h7,h8,h9,h10⟩
def Done(P:Program)(F:Array Func)(f:FuncId)(R:Ending->World->Prop)(V:List Frame)(u:World):Prop:=
 ∃T e fr,V=[fr,poison]/\fr.fn=f/\fr.leaving (PF P F) (re u T) e/\R e u/\e ≠ .outgrown
theorem Z3t{f:FuncId}{R:Ending->World->Prop}(x:Frame)(u:World): ¬Done P F f R [x] u:=by
 rintro⟨T,e,fr,h,_⟩;cases h
theorem Z1Q(S:Strip P F (CodeOk P false) G)(hg:GOk P F G)(hrec:Rec P){f:FuncId}{xs ys:Array Value}(g:G f)(ha:VRs r xs ys)(hw:WH (Iv P F) r v w){R:Ending->World->Prop}
  (hR:∀e u T,R e (re u T)->R e u) (ho:∀u,¬R .outgrown u) (hC:∀T,Calls (PF P F) f xs (re v T) R) :
  Ends (PF P F) (Done P F f R) [Frame.enter (PF P F) f xs .normal,poison] v:=by
 have hfr:=Z0Y S ha g hg (k:=.normal) (.inl rfl);obtain⟨T,hwT⟩:=hw.tape;have hseat:Seat P F (Frame.enter (PF P F) f xs .normal) [poison] v:=by
  obtain⟨σ,hw2⟩:=hwT.retape v.tape;exact .inl ⟨[],_,[],r,_,rfl,⟨.cons hfr .nil,⟨.inl rfl,λh=>absurd rfl h⟩,trivial⟩,hw2⟩
 refine Z1g S hg hrec ?_ hseat λT=>?_
 ·rintro V u T ⟨T',e,fr,h1,h2,h3,h4,h5⟩;exact⟨T',e,fr,h1,h2,h3,hR e (re u T) u.tape h4,h5⟩
 ·obtain⟨e,w',fr,h1,h2,h3,h4⟩:=hC T [poison];cases e with
  | outgrown=>exact absurd h1 (ho _)
  | returned x =>
   obtain⟨n,hn⟩:=h2;exact⟨n,fr,[poison],w',hn,w'.tape,_,fr,rfl,h3,h4,h1,sU⟩
  | panicked c =>
   obtain⟨n,hn⟩:=h2;exact⟨n,fr,[poison],w',hn,w'.tape,_,fr,rfl,h3,h4,h1,sU⟩
end
end Lift
namespace Lift
open Go Go.Conc
open Go.ConcN (sumTo upd sumTo_upd upd_ne upd_same)
variable[Jk]
def Dk(D:Nat->Prop):Go.Loc->Prop:=λl=>(∃a,l = .cell a/\D a.block)\/∃c,l = .obj c/\D c
def Run(P:Program)(Post:Value->World->Prop)(m:Machine)(t:Trace):Prop:=
 ∃N last o w' t',runNT P (N+1) m t=(.ended o w',t')/\runN P N m = .next last/\step P last = .ended o w'/\Conc.Good P Post last o w' t'
def Like(w w1:World):Prop:=w1.heap=w.heap/\w1.os=w.os/\w1.output=w.output
theorem Like.refl(w:World):Like w w:=⟨rfl,rfl,rfl⟩
theorem Like.trans{a b c:World}(h:Like a b)(k:Like b c):Like a c:=⟨k.1.trans h.1,k.2.1.trans h.2.1,k.2.2.trans h.2.2⟩
theorem Like.at{a b:World}(h:Like a b)(d:Nat): Like a (b.at d):=⟨h.1,h.2.1,h.2.2⟩
section
variable{P:Program}{Post:Value->World->Prop}{D:Nat->Prop}{m m':Machine}{t:Trace}{ops:Array MemOp}{g:Goroutine}{w w':World}
theorem Run.next(h:stepT P m=(.next m',ops))(k:Run P Post m' (t++ops)):Run P Post m t:=by
 obtain⟨n,last,o,w,t',h1,h2,h3,h4⟩:=k;exact⟨n+1,last,o,w,t',by rw[runNT_succ_next h];exact h1,by rw[runN_succ_next h];exact h2,h3,h4⟩
theorem Run.end{o:Outcome}{w:World}(h:stepT P m=(.ended o w,ops))(k:Conc.Good P Post m o w (t++ops)): Run P Post m t:=
 ⟨0,m,o,w,t++ops,by simp[runNT,h],rfl,by simp[step,h],k⟩
def Sure(P:Program)(Post:Value->World->Prop)(D:Nat->Prop)(g:Goroutine)(w:World):Prop:=
 ∀w1,Like w w1->∀(gs:Array Goroutine) sl t q,gs[0]?=some g->Leavers P t gs q->Past (Dk D) w.heap.size t->Run P Post (crowd gs w1 sl) t
theorem Sure.like(h:Sure P Post D g w)(k:Like w w'):Sure P Post D g w':=λw1 hw gs sl t q h0 hL hP=>h w1 (k.trans hw) gs sl t q h0 hL (k.1▸hP)
theorem Z4k(h0:gs[0]?=some g)(hr:g.status = .running)(hL:Leavers P t gs q): ∀x∈gs,awake x:=by
 intro x hx;obtain⟨i,hi,rfl⟩:=Array.mem_iff_getElem.1 hx;rcases Nat.eq_zero_or_pos i with rfl | hpos
 ·have:gs[0]=g:=by simpa[Y2 hi] using h0
  rw[this];exact awake_of (.inl hr)
 ·exact awake_of ((hL.old i _ hpos (Y2 hi)).status.elim .inl λx=>.inr (.inr x))
theorem Sure.moves(hr:g.status = .running)
  (hm:∀w1,Like w w1->∀(gs:Array Goroutine) sl t q,gs[0]?=some g->Leavers P t gs q->Past (Dk D) w.heap.size t->∀m0,stepT P m0=runT P (crowd gs w1 sl) 0->Run P Post m0 t):Sure P Post D g w:=by
 have key:∀(M:Nat) w1,Like w w1->∀(gs:Array Goroutine) sl t q,sumTo gs.size q<M->gs[0]?=some g->Leavers P t gs q->Past (Dk D) w.heap.size t->Run P Post (crowd gs w1 sl) t:=by
  intro M
  induction M with
  | zero=>exact λw1 hw gs sl t q hM=>absurd hM (Nat.not_lt_zero _)
  | succ M ih =>
   intro w1 hw gs sl t q hM h0 hL hP;obtain⟨i,x,d,sl',hi,hx,hst⟩:=crowd_pick (P:=P) (w:=w1) (sl:=sl) (Z4k h0 hr hL) ⟨0,g,h0,hr⟩;rcases Nat.eq_zero_or_pos i with rfl | hpos
   ·exact hm (w1.at d) (hw.at d) gs sl' t q h0 hL hP _ hst
   ·have hq:=hL.old i x hpos hi;have hi0:(i==0)=false:=by simp;omega
    have hlt:i<gs.size:=(Y0.1 hi).1;cases hqi:q i with
    | zero=>rw[hqi]at hq;rw[hq.1]at hx;cases hx
    | succ k =>
     rw[hqi]at hq;rcases hq with⟨hf,_⟩ | ⟨_,x',es,hmu,hstp,hq'⟩
     ·rw[hf]at hx;cases hx
     have hrunT:=runT_crowd_go (P:=P) (sl:=sl') (i:=i) hi (by rw[hi0];exact hstp (w1.at d));have hsz:((gs.map (woken P x x' (w1.at d))).setIfInBounds i x').size=gs.size:=by simp
     have hsum:sumTo gs.size (upd q i k)+(k+1)=sumTo gs.size q+k:=by
      have:=sumTo_upd q k id hlt;simpa[hqi] using this
     have hne:i≠0:=by omega
     refine Run.next (hst.trans hrunT) (ih (w1.at d) (hw.at d) _ sl' _ (upd q i k) (by rw[hsz];omega) ?_ ⟨λj y hj hy=>?_,λj hj=>?_⟩ (hP.mute hne hmu))
     ·rw[Yq hne,Array.getElem?_map,h0];simp[woken_run hr]
     ·by_cases hji:i=j
      ·subst hji;rw[Array.getElem?_setIfInBounds_self_of_lt (by simpa using hlt)]at hy;obtain rfl:=Y1 hy;rw[upd_same,Deaf_own];exact hq'
      ·rw[Yq hji,Array.getElem?_map]at hy;obtain⟨z,hz,rfl⟩:=Y3.1 hy;have hqj:=hL.old j z hj hz;rw[woken_quitsD hqj,upd_ne q k (Ne.symm hji),Deaf_other t hji _ (λop hop=>by obtain⟨e,_,rfl⟩:=Go.Conc.mem_ofEvents hop;rfl)];exact hqj
     ·rw[Deaf_other t (g':=i) (by simp at hj;omega) _ (λop hop=>by obtain⟨e,_,rfl⟩:=Go.Conc.mem_ofEvents hop;rfl)]
      exact hL.above j (by simpa using hj)
 exact λw1 hw gs sl t q h0 hL hP=>key _ w1 hw gs sl t q (Nat.lt_succ_self _) h0 hL hP
theorem Z2V{g':Goroutine}{pos:String}{es:Array Event}{w1:World}(hlt:0<gs.size)(hL:Leavers P t gs q):
  Leavers P (t++MemOp.ofEvents 0 fn pos es) ((gs.map (woken P g g' w1)).setIfInBounds 0 g') q:=
 ⟨λj x hj hx=>by
  have hne:0≠j:=by omega
  rw[Yq hne,Array.getElem?_map]at hx;obtain⟨y,hy,rfl⟩:=Y3.1 hx;have hq:=hL.old j y hj hy;rw[woken_quitsD hq,Deaf_other t oM _ (λop hop=>by obtain⟨e,_,rfl⟩:=Go.Conc.mem_ofEvents hop;rfl)];exact hq,λj hj=>by
  rw[Deaf_other t (g':=0) (by simp at hj;omega) _ (λop hop=>by obtain⟨e,_,rfl⟩:=Go.Conc.mem_ofEvents hop;rfl)];exact hL.above j (by simpa using hj)⟩
theorem Sure.step(hr:g.status = .running)
  (h:∀w1,Like w w1->∃g' w' es,stepG P true g w1 = .go g' w' es/\(∀e∈es,EvL (Dk D) w'.heap.size e)/\w.heap.size<=w'.heap.size/\Sure P Post D g' w'):Sure P Post D g w:=by
 refine Sure.moves hr λw1 hw gs sl t q h0 hL hP m0 hm=>?_;obtain⟨g',w',es,hst,he,hsz,hs⟩:=h w1 hw;have hrunT:=runT_crowd_go (P:=P) (sl:=sl) (i:=0) h0 (show stepG P (0==0) g w1=_ from hst);have hlt:0<gs.size:=(Y0.1 h0).1;exact Run.next (hm.trans hrunT) (hs w' (Like.refl _) _ sl _ q (by simp[hlt]) (Z2V hlt hL) ((hP.mono hsz).own he))
end
end Lift
namespace Lift
open Go Go.Conc
variable[Jk]
def Kep(r r':Ren)(v v' w w':World):Prop:=Kept r r' v {v' with tape:=v.tape,drawn:=v.drawn} w {w' with tape:=w.tape,drawn:=w.drawn}
theorem Kep.of{r r':Ren}{v v0 v' w w0 w':World}(hv:Like v v0)(hw:Like w w0)(k:Kept r r' v0 v' w0 w'): Kep r r' v v' w w':=by
 obtain⟨a1,a2,a3,a4,a5⟩:=v0;obtain⟨b1,b2,b3,b4,b5⟩:=w0;obtain⟨h1,h2,h5⟩:=hv;obtain⟨h3,h4,h6⟩:=hw;dsimp only at h1 h2 h3 h4 h5 h6;subst h1 h2 h3 h4 h5 h6;exact⟨k.le,rfl,rfl,⟨0,rfl,rfl⟩,k.os,k.sizeV,k.sizeW,k.far,k.new,k.shut,k.cells,k.farV,k.shutW,k.par,k.out⟩
theorem Kep.refl(r:Ren)(v w:World):Kep r r v v w w:=Kep.of (Like.refl _) (Like.refl _) (Kept.refl r v w)
theorem Kep.trans{r r' r'':Ren}{v v' v'' w w' w'':World}(h:Kep r r' v v' w w')(k:Kep r' r'' v' v'' w' w''):Kep r r'' v v'' w w'':=by
 have k2:Kept r' r'' {v' with tape:=v.tape,drawn:=v.drawn} {v'' with tape:=v.tape,drawn:=v.drawn} {w' with tape:=w.tape,drawn:=w.drawn} {w'' with tape:=w.tape,drawn:=w.drawn}:=
  ⟨k.le,rfl,rfl,⟨0,rfl,rfl⟩,k.os,k.sizeV,k.sizeW,k.far,k.new,k.shut,k.cells,k.farV,k.shutW,k.par,k.out⟩
 exact Kept.trans h k2
section
variable{P:Program}{F:Array Func}{G:FuncId->Prop}{Post:Value->World->Prop}{D:Nat->Prop}{r r':Ren}{v v' w w':World}
structure Off(D:Nat->Prop)(r:Ren)(w:World):Prop where
 names:∀b c,r b=some c->¬D c
 low:∀c,D c->c<w.heap.size
theorem Off.kept(h:Off D r w)(k:Kept r r' v v' w w'):Off D r' w':=
 ⟨λb c hb hd=>by
  rcases k.new b c hb with q | ⟨_,q⟩
  ·exact h.names b c q hd
  ·have:=h.low c hd;omega,λc hd=>Y8 (h.low c hd) k.sizeW⟩
theorem Off.like(h:Off D r w)(k:Like w w'):Off D r w':=⟨h.names,λc hd=>by rw[k.1];exact h.low c hd⟩
theorem Z8t{e:Event}(h:EvG r v w e)(ho:∀b c,r b=some c->¬D c):EvL (Dk D) w.heap.size e:=by
 rcases h with⟨a,wr,b,rfl,hb,hl,_⟩ | ⟨c,wr,b,rfl,hb,hl,_⟩ | rfl | rfl
 ·refine⟨λx hx hs=>?_,sU,sU,hl⟩;simp only[MemAct.ofEvent,MemAct.touch?,Y4]at hx;subst hx;rcases hs with⟨a',e,hd⟩ | ⟨c,e,_⟩
  ·simp only[Go.Loc.cell.injEq]at e;subst e;exact absurd hd (ho _ _ hb)
  ·cases e
 ·have e0:MemAct.ofEvent ⟨.obj c,wr,false⟩ = .access ⟨.obj c,wr,false⟩:=by cases wr<;>rfl
  refine⟨λx hx hs=>?_,sU,sU,by rw[e0];exact hl⟩;rw[e0]at hx;simp only[MemAct.touch?,Y4]at hx;subst hx;rcases hs with⟨a',e,_⟩ | ⟨c',e,hd⟩
  ·cases e
  ·simp only[Go.Loc.obj.injEq]at e;subst e;exact absurd hd (ho _ _ hb)
 ·exact⟨λx hx hs=>by simp[MemAct.ofEvent,MemAct.touch?]at hx,sU,sU,trivial⟩
 ·refine⟨λx hx hs=>?_,sU,sU,trivial⟩;simp only[MemAct.ofEvent,MemAct.touch?,Y4]at hx;subst hx;rcases hs with⟨a',e,_⟩ | ⟨c',e,_⟩<;>cases e
theorem Sure.lone(S:Strip P F (CodeOk P false) G)(hg:GOk P F G)(hrec:Rec P){Stop:List Frame->World->Prop}(hP:∀x u,¬Stop [x] u){cs:List Frame}{V:List Frame}(hE:Ends (PF P F) Stop V v):
  ∀{f A g B r w},V=f::(A++[poison])->Stk P F r (f::A) (g::B)->WH (Iv P F) r v w->Off D r w ->
   (∀f' A' g' B' r' v' w',Stop (f'::(A'++[poison])) v'->Stk P F r' (f'::A') (g'::B')->WH (Iv P F) r' v' w'->Kep r r' v v' w w'->Sure P Post D (run1 g' (B'++cs)) w')->Sure P Post D (run1 g (B++cs)) w:=by
 induction hE with
 | @stop V v h =>
  intro f A g B r w hV hs hw ho fin;subst hV;exact fin _ _ _ _ _ _ _ h hs hw (Kep.refl _ _ _)
 | @step f K v ok h ih =>
  intro f0 A g B r w hV hs hw ho fin;simp only[List.cons.injEq]at hV;obtain⟨rfl,rfl⟩:=hV;refine Sure.step rfl λw1 hl=>?_;have hw1:WH (Iv P F) r v w1:=hw.of rfl hl.1 (by rw[hl.2.1];exact hw.env);obtain⟨τ,f',K',v',es,e,hc⟩:=Z5B S hg hrec.1 hs hw1 (λq=>hrec.2 _ q.1) ok true cs;rcases hc with⟨rfl,hx⟩ | ⟨A',g',B',r',w',ns,rfl,e2,hs',hw',hk,he⟩
  ·exact absurd (h τ _ _ _ _ e) (Z0n hP hx)
  ·have hk2:Kep r r' v v' w w':=Kep.of (v0:=re v τ) ⟨rfl,rfl,rfl⟩ hl hk;refine⟨_,w',ns,e2,λx hx=>Z8t (he x hx) ((ho.like hl).kept hk).names,by rw[<-hl.1];exact hk.sizeW,?_⟩;exact ih τ _ _ _ _ e rfl hs' hw'.h ((ho.like hl).kept hk) λf2 A2 g2 B2 r2 v2 w2 h1 h2 h3 h4=>fin f2 A2 g2 B2 r2 v2 w2 h1 h2 h3 (hk2.trans h4)
end
end Lift
namespace Lift
open Go Go.Conc
variable[Jk]
section
variable{P:Program}{F:Array Func}{G:FuncId->Prop}{Post:Value->World->Prop}{D:Nat->Prop}{r r':Ren}{v v' w w':World}
theorem WH.some(h:WH (Iv P F) r v w)(T:Nat->Question->Nat):∃σ,WR (Iv P F) r (re v T) (re w σ):=by
 obtain⟨T',h'⟩:=h.tape;obtain⟨σ,h2⟩:=h'.retape T;exact⟨σ,h2⟩
theorem Z4q{fn:Func}{xs: Array Value}(ht:VRs r xs ys)(hw:WH (Iv P F) r v w){T:Nat->Question->Nat}{x:Value}(h:(results fn xs).run (PF P F) (re v T) = .ok x (re v T))(T':Nat->Question->Nat):
  (results fn xs).run (PF P F) (re v T') = .ok x (re v T'):=by
 obtain⟨σ,h1⟩:=hw.some T;have:=(Z1M (P:=P) (F:=F) (fn:=fn) ht).local (re v T) _ h1 (re v T) (.inl ⟨x,h⟩) T' (λi q a b=>absurd b (Nat.not_lt.2 a)) #[];have e:=congrArg Prod.fst this;simp only[Yf]at e;rw[h]at e;exact e
theorem Z3B{fr: Frame}(hf:FrR P F r fr g)(hw:WH (Iv P F) r v w){T:Nat->Question->Nat}{x:Value}(hl:fr.leaving (PF P F) (re v T) (.returned x))(m:Bool)(c:Frame)(cs:List Frame):
  ∃r' T' y w' ns,stepG P m (run1 g (c::cs)) w = .go (run1 (c.finish y) cs) w' ns/\VR r' x y/\WR (Iv P F) r' (re v T') w'/\Kept r r' (re v T') (re v T') w w'/\∀e∈ns,EvG r' (re v T') w' e:=by
 obtain⟨hm,hd,hk,fn,hfn,hr⟩:=hl;obtain⟨T',hw'⟩:=hw.tape;have hr':=Z4q hf.tmps hw hr T';have o:=(Z1M (P:=P) (F:=F) (fn:=fn) hf.tmps).sim (re v T') w hw' #[];rw[hr']at o;obtain⟨r',y,w',ns,e,hw2,hn,hkk,he⟩:=o;have gm:g.mode = .returning:=by
  have:=hf.mode;rw[hm]at this;generalize g.mode=z at this⊢;cases this;rfl
 have gd:g.defers=[]:=by
  have:=hf.defers.1;rw[hd]at this;generalize g.defers=z at this⊢;cases this;rfl
 have gk:g.kind = .normal:=hf.kind.1▸hk;have gf:P.funcs[g.fn]?=some fn:=by rw[<-hf.fn,<-hf.own];exact hfn
 have e1:(results fn g.tmps).run P w = .ok y w':=by
  have:=congrArg Prod.fst e;simpa only[Yf] using this
 have e2:(results fn g.tmps).events P w #[]=#[]++ns:=by
  have:=congrArg Prod.snd e;simpa only[Yf] using this
 refine⟨r',T',y,w',seen P g.fn ((results fn g.tmps).events P w #[])++#[],?_,hn,hw2,hkk,?_⟩
 ·unfold stepG run1;simp only[gm];unfold unwind;simp only[gd,gm,gf,Yf,e1];unfold doReturn;simp only[gk];rfl
 ·intro x hx;rw[Array.append_empty]at hx;exact Z0C e2 he x hx
theorem Z3a{fr: Frame}(hf:FrR P F r fr g){u:World}{ch:List PanicEntry}(hl:fr.leaving (PF P F) u (.panicked ch))(m:Bool)(c:Frame)(cs:List Frame):
  ∃ch',Lis (PR r) ch ch'/\stepG P m (run1 g (c::cs)) w = .go (run1 (c.raise ch') cs) w #[]:=by
 obtain⟨hm,hd,fn,hfn⟩:=hl;have gm:=hf.mode;rw[hm]at gm;generalize hz:g.mode=z at gm;cases gm with
 | panicking q =>
  refine⟨_,q,?_⟩;have gd:g.defers=[]:=by
   have:=hf.defers.1;rw[hd]at this;generalize g.defers=z at this⊢;cases this;rfl
  have c2:g.catches P=false:=by
   unfold Frame.catches;split
   ·rename_i e2;exact absurd e2 ((Z7y hf).2 _ _ _ _ _)
   ·rfl
  unfold stepG run1;simp only[hz];unfold unwind;simp only[gd,hz,c2];rfl
theorem Sure.done(S:Strip P F (CodeOk P false) G)(hg:GOk P F G)(hrec:Rec P){f:FuncId}{fr0 gr0:Frame}{R:Ending->World->Prop}(hE:Ends (PF P F) (Done P F f R) [fr0,poison] v)(hst:Stk P F r [fr0] [gr0])(hw:WH (Iv P F) r v w)(ho:Off D r w){c:Frame}{cs:List Frame}(ret:∀r' v' w' x y,R (.returned x) v'->VR r' x y->WH (Iv P F) r' v' w'->Kep r r' v v' w w'->Off D r' w'->Sure P Post D (run1 (c.finish y) cs) w')(pan:∀r' v' w' ch ch',R (.panicked ch) v'->Lis (PR r') ch ch'->WH (Iv P F) r' v' w'->Kep r r' v v' w w'->Off D r' w'->Sure P Post D (run1 (c.raise ch') cs) w'):
  Sure P Post D (run1 gr0 (c::cs)) w:=by
 refine Sure.lone (A:=[]) (B:=[]) S hg hrec Z3t hE rfl hst hw ho ?_;intro f' A' g' B' r' v' w' hs hst hw' hk;obtain⟨T,e,fr,h1,h2,h3,h4,h5⟩:=hs;simp only[List.cons.injEq]at h1;obtain⟨rfl,h1⟩:=h1;have hA:A'=[]:=by
  cases A' with
  | nil=>rfl
  | cons a az =>
   have:=congrArg List.length h1;simp at this
 subst hA;have hB:B'=[]:=by
  obtain⟨_,h,_⟩:=hst.uncons;have:=h.rel;cases B' with
  | nil=>rfl
  | cons b bs=>cases this
 subst hB;have hf:=hst.uncons.1;have ho':Off D r' w':=⟨λb c hb hd=>by
  rcases hk.new b c hb with q | ⟨_,q⟩
  ·exact ho.names b c q hd
  ·have:=ho.low c hd;omega,λc hd=>Y8 (ho.low c hd) hk.sizeW⟩
 cases e with
 | outgrown=>exact absurd rfl h5
 | returned x =>
  refine Sure.step rfl λw1 hl=>?_;have hw1:WH (Iv P F) r' v' w1:=hw'.of rfl hl.1 (by rw[hl.2.1];exact hw'.env);obtain⟨r2,T2,y,w2,ns,e2,hv,hw2,hk2,he⟩:=Z3B hf hw1 h3 true c cs;have ho2:=(ho'.like hl).kept hk2;refine⟨_,w2,ns,e2,λx hx=>Z8t (he x hx) ho2.names,by rw[<-hl.1];exact hk2.sizeW,?_⟩;have hk3:Kep r' r2 v' v' w' w2:=Kep.of (v0:=re v' T2) (v':=re v' T2) ⟨rfl,rfl,rfl⟩ hl hk2;exact ret r2 v' w2 x y h4 hv (hw2.h.of rfl rfl hw2.env) (hk.trans hk3) ho2
 | panicked ch =>
  refine Sure.step rfl λw1 hl=>?_;have hw1:WH (Iv P F) r' v' w1:=hw'.of rfl hl.1 (by rw[hl.2.1];exact hw'.env);obtain⟨ch',hc,e2⟩:=Z3a (w:=w1) hf h3 true c cs;refine⟨_,w1,#[],e2,sU,by rw[hl.1];exact Ye _,?_⟩;exact(pan r' v' w' ch ch' h4 hc hw' hk ho').like hl
theorem Sure.called(S:Strip P F (CodeOk P false) G)(hg:GOk P F G)(hrec:Rec P){f:FuncId}{xs ys:Array Value}(g:G f)(ha:VRs r xs ys)(hw:WH (Iv P F) r v w)(ho:Off D r w){R:Ending->World->Prop}
  (hR:∀e u T,R e (re u T)->R e u) (hn:∀u,¬R .outgrown u) (hC:∀T,Calls (PF P F) f xs (re v T) R) {c:Frame} {cs:List Frame}
  (ret:∀r' v' w' x y,R (.returned x) v'->VR r' x y->WH (Iv P F) r' v' w'->Kep r r' v v' w w'->Off D r' w'->Sure P Post D (run1 (c.finish y) cs) w')
  (pan:∀r' v' w' ch ch',R (.panicked ch) v'->Lis (PR r') ch ch'->WH (Iv P F) r' v' w'->Kep r r' v v' w w'->Off D r' w'->Sure P Post D (run1 (c.raise ch') cs) w') :
  Sure P Post D (run1 (Frame.enter P f ys .normal) (c::cs)) w:=by
 have hfr:=Z0Y S ha g hg (k:=.normal) (.inl rfl);have hE:=Z1Q S hg hrec g ha hw hR hn hC;exact Sure.done S hg hrec hE ⟨.cons hfr .nil,⟨.inl rfl,λh=>absurd rfl h⟩,trivial⟩ hw ho ret pan
end
end Lift
namespace Lift
open Go Go.Conc
variable[Jk]
inductive Reach(Q:Program)(Stop:List Frame->World->Prop):List Frame->World->List Frame->World->Prop
 | refl {V v}:Reach Q Stop V v V v
 | step {f K v τ f' K' v1 es V' v'} (hn:¬Stop (f::K) v) (h:stepG Q true (run1 f K) (re v τ) = .go (run1 f' K') v1 es) (t:Reach Q Stop (f'::K') v1 V' v'):Reach Q Stop (f::K) v V' v'
section
variable{Q P:Program}{F:Array Func}{G:FuncId->Prop}{Post:Value->World->Prop}{r r':Ren}{v v' w w':World}{Stop:List Frame->World->Prop}{V V':List Frame}
theorem Ends.reach(h:Ends Q Stop V v)(k:Reach Q Stop V v V' v'):Ends Q Stop V' v':=by
 induction k with
 | refl=>exact h
 | step hn e _ ih =>
  cases h with
  | stop q=>exact absurd q hn
  | step ok hk=>exact ih (hk _ _ _ _ _ e)
theorem Reach.trans{V'':List Frame}{v'':World}(h:Reach Q Stop V v V' v')(k:Reach Q Stop V' v' V'' v''): Reach Q Stop V v V'' v'':=by
 induction h with
 | refl=>exact k
 | step hn e _ ih=>exact .step hn e (ih k)
def Z5Y(Q:Program)(Stop:List Frame->World->Prop)(f:Frame)(K:List Frame)(v:World)(V':List Frame)(v':World):Prop:=
 ∃τ f' K' v1 es,stepG Q true (run1 f K) (re v τ) = .go (run1 f' K') v1 es/\Reach Q Stop (f'::K') v1 V' v'
theorem Sure.jumps(S:Strip P F (CodeOk P false) G)(hg:GOk P F G)(hrec:P.follows .rangeFuncRecover=true)(hP:∀x u,¬Stop [x] u){cs:List Frame}{I:List Frame->World->Prop}(hI:∀f K v τ f' K' v' es,I (f::K) v->stepG (PF P F) true (run1 f K) (re v τ) = .go (run1 f' K') v' es->(K'=[]/\Sour f')\/I (f'::K') v'){J:(Nat->Prop)->Ren->World->World->Prop}(hJ:∀D r r' v v' w w',Kep r r' v v' w w'->J D r v w->J D r' v' w') (H:∀D f g r v w,Stk P F r [f] [g]->WH (Iv P F) r v w->Off D r w->J D r v w->I [f,poison] v->Pend f->Ends (PF P F) Stop [f,poison] v ->
   (∀x y r' v' w' D',Z5Y (PF P F) Stop f [poison] v [f.finish x,poison] v'->I [f.finish x,poison] v'->Stk P F r' [f] [g]->VR r' x y->WH (Iv P F) r' v' w'->Off D' r' w'->J D' r' v' w'->Sure P Post D' (run1 (g.finish y) cs) w') ->
   Sure P Post D (run1 g cs) w) (fin:∀D f A g B r v w,Stop (f::(A++[poison])) v->Stk P F r (f::A) (g::B)->WH (Iv P F) r v w->Off D r w->J D r v w->Sure P Post D (run1 g (B++cs)) w) (hE:Ends (PF P F) Stop V v): ∀D f A g B r w,V=f::(A++[poison])->Stk P F r (f::A) (g::B)->WH (Iv P F) r v w->Off D r w->J D r v w->I V v->Sure P Post D (run1 g (B++cs)) w:=by
 have key:∀V' v',Reach (PF P F) Stop V v V' v'->∀D f A g B r w,V'=f::(A++[poison])->Stk P F r (f::A) (g::B)->WH (Iv P F) r v' w->Off D r w->J D r v' w->I V' v'->Sure P Post D (run1 g (B++cs)) w:=by
  induction hE with
  | stop h =>
   intro V' v' hr D f A g B r w hV hs hw ho hj hi;cases hr with
   | refl=>subst hV;exact fin D _ _ _ _ _ _ _ h hs hw ho hj
   | step hn _ _=>exact absurd h hn
  | @step f K v ok h ih =>
   intro V' v' hr;cases hr with
   | step _ e t=>exact ih _ _ _ _ _ e _ _ t
   | refl =>
    intro D f0 A g B r w hV hs hw ho hj hi;simp only[List.cons.injEq]at hV;obtain⟨rfl,rfl⟩:=hV;by_cases np:Pend f
    ·have hA:A=[]:=by
      cases A with
      | nil=>rfl
      | cons a az=>exact absurd np.1 (hs.uncons.2.2.2 sU)
     subst hA;have hB:B=[]:=by
      have:=hs.uncons.2.1.rel;cases this;rfl
     subst hB;refine H D f g r v w hs hw ho hj hi np (.step ok h) λx y r' v' w' D' hr hi' hs' hx hw' ho' hj'=>?_;obtain⟨τ,f',K',v1,es,e,t⟩:=hr;obtain⟨q1,q2,q3⟩:=hs'.uncons;exact ih _ _ _ _ _ e _ _ t D' (f.finish x) [] (g.finish y) [] r' w' rfl (q2.cons (q1.finish hx) (q3.finish x)) hw' ho' hj' hi'
    ·refine Sure.step rfl λw1 hl=>?_;have hw1:WH (Iv P F) r v w1:=hw.of rfl hl.1 (by rw[hl.2.1];exact hw.env);obtain⟨τ,f',K',v',es,e,hc⟩:=Z5B S hg hrec hs hw1 np ok true cs;rcases hc with⟨rfl,hx⟩ | ⟨A',g',B',r',w',ns,rfl,e2,hs',hw',hk,he⟩
     ·exact absurd (h τ _ _ _ _ e) (Z0n hP hx)
     ·have hk2:Kep r r' v v' w w':=Kep.of (v0:=re v τ) ⟨rfl,rfl,rfl⟩ hl hk;refine⟨_,w',ns,e2,λx hx=>Z8t (he x hx) ((ho.like hl).kept hk).names,by rw[<-hl.1];exact hk.sizeW,?_⟩;refine ih τ _ _ _ _ e _ _ .refl D f' A' g' B' r' w' rfl hs' hw'.h ((ho.like hl).kept hk) (hJ _ _ _ _ _ _ _ hk2 hj) ?_;rcases hI _ _ _ _ _ _ _ _ hi e with⟨q,_⟩ | q
      ·simp at q
      ·exact q
 exact λD f A g B r w=>key _ _ .refl D f A g B r w
end
end Lift
namespace Lift
open Go Go.Conc
variable[Jk]
section
variable{P:Program}{F:Array Func}{G:FuncId->Prop}{C:Inv}{r r':Ren}{u u' v v' w w':World}{Stop:List Frame->World->Prop}{V V':List Frame}
structure AtCall(f:Frame)(jf:FuncId)(c:Call):Prop where
 ex:∃ops i rest k o,f.mode = .run/\f.todo = .inRegion ops (i::rest)::k/\ops[i]?=some o/\Region.wanted o (yielded ops f.tmps)=true/\o.op = .call c/\c.callee = .value (.func jf)
theorem Pend.at{f:Frame}(h:Pend f):∃jf c,Jk.jmp jf/\AtCall f jf c/\(∀x∈c.args,∃t,x = .tmp t)/\c.args.size=Jk.ar jf:=by
 obtain⟨_,hm,ops,i,rest,k,o,h1,h2,h3,h4⟩:=h;cases ho:o.op with
 | call c =>
  rw[ho]at h4;obtain⟨⟨jf,h5,h6,h8⟩,h7⟩:=h4;exact⟨jf,c,h6,⟨ops,i,rest,k,o,hm,h1,h2,h3,ho,h5⟩,h7,h8⟩
 | _=>rw[ho]at h4;exact h4.elim
theorem Zci{f: Frame}(hf:FrR P F r f g)(ops:Array Oper)(o:Oper): Region.wanted o (yielded ops f.tmps)=Region.wanted o (yielded ops g.tmps):=by
 have:yielded ops f.tmps=yielded ops g.tmps:=by
  funext j;unfold yielded;cases ((ops[j]?).bind (·.dst)) with
  | none=>rfl
  | some t =>
   simp only[Option.bind_some];rcases hf.tmps.get t with⟨a,b⟩ | ⟨x,y,a,b,q⟩
   ·rw[a,b]
   ·rw[a,b];cases q with
    | junk _ _ _ m=>cases y<;>first | rfl | exact absurd rfl (m.2.2 _)
    | _=>rfl
 rw[this]
theorem AtCall.rel{f g:Frame}(hf:FrR P F r f g){jf:FuncId}{c:Call}(h:AtCall f jf c):AtCall g jf c:=by
 obtain⟨ops,i,rest,k,o,hm,h1,h2,h3,h4,h5⟩:=h.ex;have ht:=hf.todo;have hmd:=hf.mode;rw[h1]at ht;rw[hm]at hmd;rw[Zci hf]at h3;generalize hz:g.todo=z at ht;generalize hy:g.mode=y at hmd;cases hmd;cases ht with
 | cons a t =>
  cases a with
  | inRegion _=>exact⟨ops,i,rest,_,o,hy,hz,h2,h3,h4,h5⟩
theorem Zew(fn:FuncId):seen P fn #[]=#[]:=by
 unfold seen;rfl
theorem AtCall.step {f:Frame} {jf:FuncId} {c:Call} (h:AtCall f jf c) {fn:Func} {b:Code} (hf:P.funcs[jf]?=some fn) (hb:fn.body=some b) (hn:(fn.name == "runtime.NumGoroutine")=false) (hk:f.kind = .normal\/f.kind = .deferred) (m:Bool) (K:List Frame) (w:World) :
    stepG P m (run1 f K) w = .go (run1 (Frame.enter P jf (c.args.map f.eval) .normal) (f::K)) w #[]:=by
  obtain⟨ops, i, rest, k, o, hm, h1, h2, h3, h4, h5⟩ := h.ex;have he : f.eval (.func jf) = .func (.func jf) #[] #[] := rfl;have hex : (execOp f.eval o).run P w = .ok (.enter jf (c.args.map f.eval)) w/\(execOp f.eval o).events P w #[]=#[] := by
    have : execOp f.eval o = (do let d <- resolve f.eval c o.type; invoke d.target d.args) := by
      unfold execOp;rw[h4]
    rw[this];unfold resolve;rw[h5];simp only[he, Deferred.ofValue, pure_bind, invoke, callFunc];have e2 : #[]++c.args.map f.eval++#[]=c.args.map f.eval := by simp
    rw[e2];have e3 : ∀(Z : Program->Sem Next), (program >>= Z).run P w=(Z P).run P w/\(program >>= Z).events P w #[]=(Z P).events P w #[] := λZ => ⟨rfl, rfl⟩;have e4 := e3 λp => match p.funcs[jf]? with
      | none=>stuck "call: no such function"
      | some fn=>if fn.name == "runtime.NumGoroutine" then pure .numGoroutine
        else if fn.body.isNone then do
          mark (.extern jf)
          if let some e:=Extern.findNext fn then return <-e (c.args.map f.eval)
          match Extern.find fn with
          | some e=>pure (.value (<-e (c.args.map f.eval)))
          | none =>
            if fn.name.endsWith ".init" && !fn.name.startsWith "(" && !fn.name.startsWith "gosem." then pure (.value (.tuple #[]))
            else unsupported (.extern fn.name)
        else pure (.enter jf (c.args.map f.eval))
    simp only[hf, hb, hn, Bool.false_eq_true, if_false, Option.isNone_some]at e4;exact⟨e4.1, e4.2⟩
  have e1:stepG P m (run1 f K) w=stepG.exec P m true f K none w:=by
    unfold stepG run1;simp only[hm]
  rw[e1, Z1R h1, if_pos (by simp[h2, h3]), Z4a h1 h2 (.inr λc e => by rw[h4]at e; cases e), Z0q hex.1];unfold lst;have ke : (f.kind==CallKind.early)=false := by rcases hk with q | q<;>rw[q]<;>rfl
  have kk:Z2i f = .normal:=by unfold Z2i;rw[h1]
  rw[ke, kk];simp only[Bool.false_eq_true, if_false];rw[hex.2, Zew];simp[GStep.after]
def Idn(r:Ren):Prop:=∀b c,r b=some c->c=b
theorem ZcD{R:α->α->Prop}(hR:∀x y,R x y->x=y){xs ys:Array α}(h:Arr R xs ys): xs=ys:=by
 apply Array.ext h.1;intro i h1 h2;exact hR _ _ (h.2 i _ _ (Y2 h1) (Y2 h2))
theorem AR.id(hi:Idn r){a b:Addr}(h:AR r a b):a=b:=by
 cases h with
 | mk q=>rw[hi _ _ q]
theorem VR.id(nj:¬Jk.j)(hi:Idn r){x y:Value}(h:VR r x y):x=y:=by
 have arr:∀{xs ys:Array Value},xs.size=ys.size->(∀(i:Nat) x y,xs[i]?=some x->ys[i]?=some y->x=y)->xs=ys:=λhs hk=>ZcD (R:=Eq) (λ_ _ e=>e) ⟨hs,hk⟩
 induction h with
 | ptr q=>rw[q.id hi]
 | sl n c q=>rw[q.id hi]
 | slz j=>rw[j.resolve_left nj]
 | map q=>rw[hi _ _ q]
 | @func f f' xs xs' ys ys' hf hx _ hy _ ih ih2 =>
  rw[arr hx ih,arr hy ih2];cases hf with
  | func f h=>rfl
  | yield q=>rw[hi _ _ q]
 | iface t _ ih=>rw[ih]
 | agg hs _ ih=>rw[arr hs ih]
 | tuple hs _ ih=>rw[arr hs ih]
 | junk j=>exact(j.resolve_left nj).symm
 | _=>rfl
theorem Zbj(nj:¬Jk.j)(hi:Idn r){xs: Array Value}(h:VRs r xs ys): xs=ys:=ZcD (λ_ _=>VR.id nj hi) h
theorem Zl1{R:α->α->Prop}(hR:∀x y,R x y->x=y){xs ys:List α}(h:Lis R xs ys): xs=ys:=by
 induction h with
 | nil=>rfl
 | cons a _ ih=>rw[hR _ _ a,ih]
theorem TR.id(nj:¬Jk.j)(hi:Idn r){x y:Target}(h:TR r x y):x=y:=by
 cases h with
 | fn hf q =>
  rw[Zbj nj hi q];cases hf with
  | func f h=>rfl
  | yield q=>rw[hi _ _ q]
 | nil=>rfl
 | collected q=>rw[hi _ _ q]
theorem OR.id(nj:¬Jk.j)(hi:Idn r){o o':Obj}(h:OR C r o o'):(∃cs e,o = .cells cs e (0,cs.size))\/o=o':=by
 cases h with
 | @cells cs cs' e fr fr' q hf =>
  rcases hf with⟨rfl,rfl⟩ | rfl
  ·exact .inr (by rw[Zbj nj hi q])
  ·exact .inl ⟨cs,e,rfl⟩
 | number l q=>exact .inr (by rw[q.id hi])
 | map n q =>
  refine .inr ?_;rw[ZcD (λa b (k:ER r a b)=>?_) q];obtain⟨k1,v1,b1⟩:=a;obtain⟨k2,v2,b2⟩:=b;obtain⟨h1,h2,h3⟩:=k;have e1:=VR.id nj hi h1;have e2:=VR.id nj hi h2;dsimp only at e1 e2 h3;rw[e1,e2,h3]
 | @loop l l' q =>
  refine .inr ?_;obtain⟨q1,q2,q3,q4,q5,q6,q7,q8⟩:=q;obtain⟨a1,a2,a3,a4,a5,a6,a7,a8⟩:=l;obtain⟨b1,b2,b3,b4,b5,b6,b7,b8⟩:=l';have e4:=Zbj nj hi q4;have e8:=hi _ _ q8;dsimp only at *;rw[q1,q2.1,q3.1,e4,q5,q6.1,q7.1,e8]
 | def0=>exact .inr rfl
 | def1 q =>
  refine .inr ?_;rw[Zl1 (λa b (k:DR r a b)=>?_) q];obtain⟨t1,a1⟩:=a;obtain⟨t2,a2⟩:=b;obtain⟨h1,h2⟩:=k;have e1:=TR.id nj hi h1;have e2:=Zbj nj hi h2;dsimp only at e1 e2;rw[e1,e2]
theorem Kep.old(nj:¬Jk.j)(hi:Idn r')(k:Kep r r' v v' v u')(hw:WH C r' v' u'){b:Nat}(hb:b<v.heap.size)(e:v'.heap[b]?=v.heap[b]?):u'.heap[b]?=v.heap[b]?:=by
 cases hr:r b with
 | none =>
  refine k.far b hb λa q=>?_;have:=hi _ _ (k.le.1 _ _ q);subst this;rw[hr]at q;cases q
 | some c =>
  have hc:=hi _ _ (k.le.1 _ _ hr);subst hc;obtain⟨o,o',h1,h2,ho⟩:=hw.on _ _ (k.le.1 _ _ hr);rcases OR.id nj hi ho with⟨cs,e',rfl⟩ | rfl
  ·exact k.shutW _ _ ⟨cs,e',e▸h1⟩ hr
  ·rw[h2,<-e,h1]
theorem Kep.fresh(nj:¬Jk.j)(hi:Idn r')(hw:WH C r' v' u'){b:Nat}{o:Obj}(hb:r' b=some b)(e:v'.heap[b]?=some o)(ns:¬∃cs e,o = .cells cs e (0,cs.size)):u'.heap[b]?=some o:=by
 obtain⟨o1,o',h1,h2,ho⟩:=hw.on _ _ hb;rw[e]at h1;obtain rfl:=Y1 h1;rcases OR.id nj hi ho with q | rfl
 ·exact absurd q ns
 ·exact h2
end
end Lift
namespace Lift
open Go Go.Conc
variable[Jk]
section
variable{P:Program}{F:Array Func}{G:FuncId->Prop}{r r':Ren}{u u' v v' w w':World}{Stop:List Frame->World->Prop}{V V':List Frame}
theorem Z9C(hi:Idn r)(hs:v.heap.size=u.heap.size)(k:Kept r r' v v' u u'):Idn r'/\v'.heap.size=u'.heap.size:=by
 obtain⟨h1,h2,_⟩:=k.par hs;refine⟨λb c q=>?_,h1⟩;rcases h2 _ _ q with q | q
 ·exact hi _ _ q
 ·exact q.symm
def Self(P:Program)(F:Array Func)(V:List Frame)(v:World):Prop:=
 ∃f A r,V=f::(A++[poison])/\Idn r/\Stk P F r (f::A) (f::A)/\WR (Iv P F) r v v
theorem WR.re(h:WR (Iv P F) r v v)(τ:Nat->Question->Nat):WR (Iv P F) r (re v τ) (re v τ):=⟨h.on,h.inj,λ_ _=>rfl,rfl⟩
theorem Zbg(S:Strip P F (CodeOk P false) G)(hg:GOk P F G)(hrec:Rec P){f f': Frame}{A B K':List Frame}{es:Array Event}(hs:Stk P F r (f::A) (g::B))(hw:WR (Iv P F) r v u)(m:Bool)(cs:List Frame)(e:stepG (PF P F) true (run1 f (A++[poison])) v = .go (run1 f' K') v' es):
  (K'=[]/\Sour f')\/∃A' g' B' r' u' ns,K'=A'++[poison]/\stepG P m (run1 g (B++cs)) u = .go (run1 g' (B'++cs)) u' ns/\Stk P F r' (f'::A') (g'::B')/\WR (Iv P F) r' v' u'/\Kept r r' v v' u u':=by
 have h:=Z7P (cs:=cs) (m:=m) S hg hrec.1 hs hw λq=>hrec.2 _ q.1;rw[e]at h;rcases h with h | ⟨r',g',W,u',ns,h0,_,_,_,⟨A',B',h4,h5,h6,h7⟩,h8,h9,h10⟩
 ·refine .inl ?_;rcases h with h | ⟨c,h⟩
  ·simp only[run1,Goroutine.mk.injEq]at h;exact⟨h.2.1,.inl h.1⟩
  ·simp only[run1,Goroutine.mk.injEq]at h;exact⟨h.2.1,.inr ⟨c,h.1⟩⟩
 ·cases A' with
  | nil=>exact absurd rfl h6
  | cons a az =>
   cases B' with
   | nil=>have:=h7.rel;cases this
   | cons b bs =>
    simp only[run1,List.cons_append,List.cons.injEq]at h4 h5;obtain⟨rfl,rfl⟩:=h4;obtain⟨rfl,rfl⟩:=h5;exact .inr ⟨az,_,bs,r',u',ns,rfl,h0,h7,h8,h9⟩
theorem Self.step(hQ:PF P F=P)(S:Strip P F (CodeOk P false) G)(hg:GOk P F G)(hrec:Rec P){f f':Frame}{K K':List Frame}{τ:Nat->Question->Nat}{es:Array Event}(h:Self P F (f::K) v)
  (e:stepG P true (run1 f K) (re v τ) = .go (run1 f' K') v' es):(K'=[]/\Sour f')\/Self P F (f'::K') v':=by
 obtain⟨f0,A,r,hV,hi,hs,hw⟩:=h;simp only[List.cons.injEq]at hV;obtain⟨rfl,rfl⟩:=hV;have e0:=e;rw[<-hQ]at e0;rcases Zbg S hg hrec hs (hw.re τ) true [poison] e0 with h | ⟨A',g',B',r',u',ns,rfl,e2,h1,h2,h3⟩
 ·exact .inl h
 ·rw[e]at e2;simp only[GStep.go.injEq,run1,Goroutine.mk.injEq,and_true]at e2;obtain⟨⟨rfl,q⟩,rfl,_⟩:=e2;obtain rfl:A'=B':=List.append_cancel_right q;exact .inr ⟨_,_,r',rfl,(Z9C hi rfl h3).1,h1,h2⟩
theorem ZgY{f:Frame}{K:List Frame}{m':Machine}(h:step P (lone f K v) = .next m')(hx:(∃o w2 es,stepG P true (run1 f K) v = .ended o w2 es)\/∃f' K' v' es,stepG P true (run1 f K) v = .go (run1 f' K') v' es):
  ∃f' K' v' es,stepG P true (run1 f K) v = .go (run1 f' K') v' es/\m'=lone f' K' v':=by
 rcases hx with⟨o,w2,es,e⟩ | ⟨f',K',v',es,e⟩
 ·rw[step_end e]at h;cases h
 ·rw[ZeQ e]at h;injection h with h
  exact⟨_,_,_,_,e,h.symm⟩
theorem Ziv(hQ:PF P F=P)(S:Strip P F (CodeOk P false) G)(hg:GOk P F G)(hrec:Rec P)(hS:∀V v,Stop V v->V.length=2){f:Frame}:
  ∀(n:Nat) {a b a':Frame} {A B:List Frame} {r:Ren} {v u v':World},runN P n (lone a (A++[poison]) v) = .next (lone a' [poison] v')->Stk P F r (a::A) (b::B)->WR (Iv P F) r v u->Idn r->v.heap.size=u.heap.size ->
   ∃b' r' u',Reach P Stop (b::(B++[f,poison])) u (b'::[f,poison]) u'/\Stk P F r' [a'] [b']/\WR (Iv P F) r' v' u'/\Idn r'/\Kept r r' v v' u u':=by
 intro n
 induction n with
 | zero =>
  intro a b a' A B r v u v' h hs hw hi hz;injection h with h
  have e1:v=v':=congrArg (·.world) h;have e2:=congrArg (·.gs) h;simp only[lone,Array.mk.injEq,List.cons.injEq,Goroutine.mk.injEq,and_true]at e2;obtain⟨rfl,e3⟩:=e2;subst e1;have hA:A=[]:=by simpa using e3
  subst hA;have hB:B=[]:=by
   have:=hs.uncons.2.1.rel;cases this;rfl
  subst hB;exact⟨b,r,u,.refl,hs,hw,hi,Kept.refl _ _ _⟩
 | succ n ih =>
  intro a b a' A B r v u v' h hs hw hi hz;have hst:=Seat.step S hg hrec (f:=a) (K:=A++[poison]) (.inl ⟨_,_,_,_,_,rfl,hs,hw⟩) v.tape;rw[hQ]at hst;have h0:runN P (n+1) (lone a (A++[poison]) v)=match step P (lone a (A++[poison]) v) with | .next m=>runN P n m | e=>e:=rfl
  rw[h0]at h;cases hx:step P (lone a (A++[poison]) v) with
  | ended o w2=>rw[hx]at h;cases h
  | next m1 =>
   rw[hx]at h;obtain⟨a1,K1,v1,es,e,rfl⟩:=ZgY hx (by
    rcases hst with q | ⟨f',K',v',es,e,_⟩
    ·exact .inl q
    ·exact .inr ⟨f',K',v',es,e⟩)
   have e0:=e;rw[<-hQ]at e0;rcases Zbg S hg hrec hs hw true [f,poison] e0 with⟨rfl,q⟩ | ⟨A1,b1,B1,r1,u1,ns,rfl,e2,h1,h2,h3⟩
   ·exfalso;dsimp only at h;cases n with
    | zero =>
     injection h with h
     have e2:=congrArg (·.gs) h;simp only[lone,Array.mk.injEq,List.cons.injEq,Goroutine.mk.injEq]at e2;exact absurd e2.1.2.1 sU
    | succ n =>
     obtain⟨o,w2,es2,e3⟩:=Z1W (Q:=P) q v1;have h1:runN P (n+1) (lone a1 [] v1)=match step P (lone a1 [] v1) with | .next m=>runN P n m | e=>e:=rfl
     rw[h1,step_end e3]at h;cases h
   ·obtain⟨i1,i2⟩:=Z9C hi hz h3;obtain⟨b',r',u',t,q1,q2,q3,q4⟩:=ih h h1 h2 i1 i2;refine⟨b',r',u',.step (τ:=u.tape) (λq=>?_) e2 t,q1,q2,q3,h3.trans q4⟩;have:=hS _ _ q;simp at this
theorem ZkW{T T':Nat->Question->Nat}(k:Kept r r' (re v T) (re v' T') u u'):Kep r r' v v' u u':=
 ⟨k.le,rfl,rfl,⟨0,rfl,rfl⟩,k.os,k.sizeV,k.sizeW,k.far,k.new,k.shut,k.cells,k.farV,k.shutW,k.par,k.out⟩
theorem Z70(hQ:PF P F=P)(S:Strip P F (CodeOk P false) G)(hg:GOk P F G)(hrec:Rec P)(hS:∀V v,Stop V v->V.length=2){f:Frame}{jf:FuncId}{c:Call}(hs:Stk P F r [f] [f])(hw:WR (Iv P F) r v v)(hi:Idn r)
  (hc:AtCall f jf c) (gf:G jf) (ha:∀x∈c.args,RdOk x) (T:Nat->Question->Nat) {R:Ending->World->Prop} (hn:∀u,¬R .outgrown u) (hC:Calls P jf (c.args.map f.eval) (re v T) R) :
  ∃e v' u' r',R e v'/\Idn r'/\WH (Iv P F) r' v' u'/\Kep r r' v v' v u' /\
   ((∃x y,e = .returned x/\VR r' x y/\Z5Y P Stop f [poison] v [f.finish y,poison] u')\/∃ch ch',e = .panicked ch/\Lis (PR r') ch ch'/\Z5Y P Stop f [poison] v [f.raise ch',poison] u'):=by
 obtain⟨h1,⟨fn,b,h2,h3⟩,h4,h5⟩:=hg jf gf;rw[h1]at h2;have hf:=hs.uncons.1;have hst:=hc.step h2 h3 (S.name _ _ h4 (h1▸h2)) hf.kind.2 true [poison] (re v T);have hfr:=Z0Y S (Z2F hf.env ha) gf hg (k:=.normal) (.inl rfl);rw[hQ]at hfr;have hS1:Stk P F r [Frame.enter P jf (c.args.map f.eval) .normal] [Frame.enter P jf (c.args.map f.eval) .normal]:=⟨.cons hfr .nil,⟨.inl rfl,λh=>absurd rfl h⟩,trivial⟩;obtain⟨e,v',fr,hR,hcm,hfn,hl⟩:=hC [poison];have run:∀n,runN P n (lone (Frame.enter P jf (c.args.map f.eval) .normal) [poison] (re v T)) = .next (lone fr [poison] v')->∃b' r' u',Reach P Stop [Frame.enter P jf (c.args.map f.eval) .normal,f,poison] (re v T) (b'::[f,poison]) u'/\Stk P F r' [fr] [b']/\WR (Iv P F) r' v' u'/\Idn r'/\Kept r r' (re v T) v' (re v T) u':=
  λn hn=>Ziv hQ S hg hrec hS n (A:=[]) (B:=[]) hn hS1 (hw.re T) hi rfl
 cases e with
 | outgrown=>exact absurd hR (hn _)
 | returned x =>
  obtain⟨n,hn⟩:=hcm;obtain⟨b',r',u',t,q1,q2,q3,q4⟩:=run n hn;have hl':fr.leaving (PF P F) (re v' v'.tape) (.returned x):=by rw[hQ];exact hl
  obtain⟨r2,T2,y,u2,ns,s1,s2,s3,s4,_⟩:=Z3B q1.uncons.1 q2.h hl' true f [poison];have z:=(q4.par rfl).1;obtain⟨i1,_⟩:=Z9C q3 (by exact z) s4;refine⟨_,v',u2,r2,hR,i1,s3.h.of rfl rfl s3.env,(Kep.of (v:=v) (v0:=Lift.re v T) (w:=v) (w0:=Lift.re v T) ⟨rfl,rfl,rfl⟩ ⟨rfl,rfl,rfl⟩ q4).trans (ZkW s4),.inl ⟨x,y,rfl,s2,T,_,_,_,_,hst,t.trans (.step (τ:=u'.tape) (λq=>?_) s1 .refl)⟩⟩;have:=hS _ _ q;simp at this
 | panicked ch =>
  obtain⟨n,hn⟩:=hcm;obtain⟨b',r',u',t,q1,q2,q3,q4⟩:=run n hn;have hl':fr.leaving (PF P F) v' (.panicked ch):=by rw[hQ];exact hl
  obtain⟨ch',s1,s2⟩:=Z3a (w:=u') q1.uncons.1 hl' true f [poison];refine⟨_,v',u',r',hR,q3,q2.h,Kep.of (v:=v) (v0:=Lift.re v T) (w:=v) (w0:=Lift.re v T) ⟨rfl,rfl,rfl⟩ ⟨rfl,rfl,rfl⟩ q4,.inr ⟨ch,ch',rfl,s1,T,_,_,_,_,hst,t.trans (.step (τ:=u'.tape) (λq=>?_) s2 .refl)⟩⟩;have:=hS _ _ q;simp at this
end
end Lift
namespace Lift
open Go Go.Conc
variable[Jk]
section
variable{P:Program}
def plB:Nat->Value->Bool
 | _,.bool _=>true
 | _,.int _ _=>true
 | _,.string _=>true
 | _,.pointer none=>true
 | _,.slice none _ _=>true
 | _,.map none=>true
 | _,.nilFunc=>true
 | _,.nilIface=>true
 | n+1,.iface _ v=>plB n v
 | n+1,.agg xs=>xs.all (plB n)
 | n+1,.tuple xs=>xs.all (plB n)
 | _,_=>false
theorem ZhS:∀(n:Nat) (v:Value),plB n v=true->Z5T v:=by
 have arr:∀(n:Nat) (xs:Array Value),(∀v,plB n v=true->Z5T v)->xs.all (plB n)=true->∀r,VRs r xs xs:=by
  intro n xs ih h r;refine⟨rfl,λi x y a b=>?_⟩;rw[a]at b;obtain rfl:=Y1 b;exact ih x (Array.all_eq_true_iff_forall_mem.1 h x (Yk a)) r
 intro n
 induction n with
 | zero =>
  intro v h r;cases v with
  | bool b=>exact .bool b
  | int k n=>exact .int k n
  | string s=>exact .string s
  | pointer a=>cases a<;>first | exact .ptr0 | cases h
  | slice a n c=>cases a<;>first | exact .sl0 n c | cases h
  | map a=>cases a<;>first | exact .map0 | cases h
  | nilFunc=>exact .func0
  | nilIface=>exact .iface0
  | _=>cases h
 | succ n ih =>
  intro v h r;cases v with
  | bool b=>exact .bool b
  | int k n=>exact .int k n
  | string s=>exact .string s
  | pointer a=>cases a<;>first | exact .ptr0 | cases h
  | slice a n c=>cases a<;>first | exact .sl0 n c | cases h
  | map a=>cases a<;>first | exact .map0 | cases h
  | nilFunc=>exact .func0
  | nilIface=>exact .iface0
  | iface t v=>exact .iface t (ih v h r)
  | agg xs=>exact .aggA (arr n xs ih h r)
  | tuple xs=>exact .tupA (arr n xs ih h r)
  | _=>cases h
def zB(P:Program)(t:TypeId):Bool:=match P.info? t with
 | some i=>match i.zero with
  | some v=>plB 8 v
  | none=>true
 | none=>true
theorem Zah(h:zB P t=true): ZOk P t:=by
 intro i v h1 h2;unfold zB at h;rw[h1]at h;dsimp only at h;rw[h2]at h;exact ZhS 8 v h
def eqB(P:Program)(sj:Bool):Nat->TypeId->Bool
 | 0,_=>true
 | d+1,t=>match P.underlying t with
  | some .bool=>true
  | some .string=>true
  | some (.slice _)=>true
  | some (.map _ _)=>true
  | some (.func _ _ _)=>!sj
  | some (.int _)=>match P.info? t with
   | some i=>match i.desc with
    | .named n _=>n != "sync.copyChecker"
    | _=>true
   | none=>true
  | some (.struct fs)=>fs.all λf=>eqB P sj d f.type
  | some (.array _ e)=>eqB P sj d e
  | _=>false
theorem Zaw{sj:Bool}(nj:sj=false->¬Jk.j):∀(d:Nat) (t:TypeId),eqB P sj d t=true->EqOk P d t
 | 0,_,_=>trivial
 | d+1,t,h=>by
  unfold eqB at h;unfold EqOk;cases hu:P.underlying t with
  | none=>rw[hu]at h;cases h
  | some k =>
   rw[hu]at h;cases k with
   | int _ =>
    intro i hi u e;rw[hi]at h;dsimp only at h;rw[e]at h;simp at h
   | struct fs=>exact λf hf=>Zaw nj d _ (Array.all_eq_true_iff_forall_mem.1 h f hf)
   | array n e=>exact Zaw nj d _ h
   | func _ _ _=>exact nj (by simpa using h)
   | _=>first | trivial | cases h
def seB(P:Program)(f:TypeId->Bool)(t:TypeId):Bool:=match P.underlying t with
 | some (.slice e)=>f e
 | _=>true
def rdB(gd:Nat->Bool):Operand->Bool
 | .const v=>plB 8 v
 | .global _=>false
 | .func f=>gd f
 | .tmp _=>true
def badB(P:Program):Bool:=(P.info? 1000000).isNone
def clB(P:Program)(gd:Nat->Bool)(sj:Bool)(c:Call):Bool:=c.args.all (rdB gd)&&match c.callee with
 | .value f=>rdB gd f&&badB P
 | .invoke _ _=>false
 | .builtin .append=>(match c.argTypes[1]? with
   | some t=>match P.underlying t with
    | some (.slice _)=>true
    | some .string=>true
    | _=>false
   | none=>true)&&match c.argTypes[0]? with
   | some t=>seB P (zB P) t
   | none=>true
 | .builtin .copy=>true
 | .builtin .len=>true
 | .builtin .cap=>true
 | .builtin .min=>true
 | .builtin .max=>true
 | .builtin .recover=>true
 | .builtin _=>false
def intB(P:Program)(t:TypeId):Bool:=match P.underlying t with
 | some (.int _)=>true
 | _=>false
def mapB(P:Program)(t:TypeId):Bool:=match P.underlying t with
 | some (.map k e)=>eqB P false Op.maxDepth k&&zB P e
 | _=>true
def opB(P:Program)(gd:Nat->Bool)(sj:Bool):Op->Bool
 | .move x=>rdB gd x
 | .assign x=>rdB gd x
 | .pick c a b=>rdB gd c&&(rdB gd a&&rdB gd b)
 | .alloc t=>zB P t
 | .box _ x=>rdB gd x
 | .build t ps=>zB P t&&ps.all λp=>rdB gd p.2
 | .buildSlice t _ ps=>seB P (zB P) t&&ps.all λp=>rdB gd p.2
 | .load _ a=>rdB gd a
 | .store _ a x=>rdB gd a&&rdB gd x
 | .nilCheck x=>rdB gd x&&badB P
 | .binOp .eql t x y _=>eqB P sj Op.maxDepth t&&(rdB gd x&&rdB gd y)
 | .binOp .neq t x y _=>eqB P sj Op.maxDepth t&&(rdB gd x&&rdB gd y)
 | .binOp _ t x y _=>rdB gd x&&rdB gd y
 | .unOp _ _ x=>rdB gd x
 | .convert s d x=>intB P s&&(intB P d&&rdB gd x)
 | .makeInterface _ x=>rdB gd x
 | .makeFunc (.func f) xs ys=>gd f&&(xs.all (rdB gd)&&ys.all (rdB gd))
 | .makeMap _ x=>x.all (rdB gd)
 | .makeSlice t l c=>seB P (zB P) t&&(rdB gd l&&rdB gd c)
 | .slice _ x lo hi mx=>rdB gd x&&(lo.all (rdB gd)&&(hi.all (rdB gd)&&mx.all (rdB gd)))
 | .fieldAddr _ x _=>rdB gd x
 | .indexAddr _ x i=>rdB gd x&&rdB gd i
 | .index _ x i=>rdB gd x&&rdB gd i
 | .lookup t x i _=>!sj&&(mapB P t&&(rdB gd x&&rdB gd i))
 | .mapUpdate t m k x=>!sj&&(mapB P t&&(rdB gd m&&(rdB gd k&&rdB gd x)))
 | .typeAssert x _ u ok=>ok&&(zB P u&&rdB gd x)
 | .extract t _=>rdB gd t
 | .call c=>clB P gd sj c
 | .defer c=>clB P gd sj c&&match c.callee with
  | .value (.func _)=>true
  | _=>false
 | .panic x=>rdB gd x
 | _=>false
section
variable{gd:Nat->Bool}{sj:Bool}(hgd:∀f,gd f=true->Jk.gd f)(nj:sj=false->¬Jk.j)
include hgd
theorem Zt{x:Operand}(h:rdB gd x=true): RdOk x:=by
 cases x with
 | tmp t=>trivial
 | const v=>exact ZhS 8 v h
 | global g=>cases h
 | func f=>exact hgd f h
theorem Zen{xs:Array Operand}(h:xs.all (rdB gd)=true): ∀x∈xs,RdOk x:=λx hx=>Zt hgd (Array.all_eq_true_iff_forall_mem.1 h x hx)
theorem ZhT{xs:Array (Nat×Operand)}(h:(xs.all λp=>rdB gd p.2)=true): ∀x∈xs,RdOk x.2:=λx hx=>Zt hgd (Array.all_eq_true_iff_forall_mem.1 h x hx)
theorem Zb4{x:Option Operand}(h:x.all (rdB gd)=true): ∀y,x=some y->RdOk y:=by
 rintro y rfl;exact Zt hgd h
omit hgd in
theorem seB_ok{f:TypeId->Bool}(h:seB P f t=true){e:TypeId}(k:P.underlying t=some (.slice e)): f e=true:=by
 unfold seB at h;rw[k]at h;exact h
omit hgd in
theorem intB_ok(h:intB P t=true): ∃k,P.underlying t=some (.int k):=by
 unfold intB at h;cases e:P.underlying t with
 | none=>rw[e]at h;cases h
 | some d =>
  rw[e]at h;cases d<;>first | exact⟨_,rfl⟩ | cases h
omit hgd in
theorem badB_ok(h:badB P=true):Z85 P:=by simpa[badB,Z85] using h
theorem Zhu(nj:sj=false->¬Jk.j){c:Call}(h:clB P gd sj c=true):ClOk P c:=by
 unfold clB at h;unfold ClOk;simp only[Y5]at h;refine⟨Zen hgd h.1,?_⟩;have h2:=h.2;cases hc:c.callee with
 | value f=>rw[hc]at h2;simp only[Y5]at h2;exact⟨Zt hgd h2.1,badB_ok h2.2⟩
 | invoke x n=>rw[hc]at h2;cases h2
 | builtin b =>
  rw[hc]at h2;cases b<;>dsimp only at h2 ⊢ <;> first | trivial | (cases h2;done) | skip
  simp only[Y5]at h2;refine⟨λt ht=>?_,λt e ht he=>?_⟩
  ·have h3:=h2.1;rw[ht]at h3;dsimp only at h3;cases e:P.underlying t with
   | none=>rw[e]at h3;cases h3
   | some d =>
    rw[e]at h3;cases d<;>first | exact .inl ⟨_,rfl⟩ | exact .inr rfl | cases h3
  ·have h3:=h2.2;rw[ht]at h3;exact Zah (seB_ok h3 he)
include nj
theorem ZdZ(hs:sj=false)(h:mapB P t=true): Zco P t:=by
 refine⟨nj hs,λk e he=>?_⟩;unfold mapB at h;rw[he]at h;simp only[Y5]at h;exact⟨Zaw (λ_=>nj hs) _ _ h.1,Zah h.2⟩
theorem Zlp{o:Op}(h:opB P gd sj o=true):OpOk P o:=by
 unfold OpOk;cases o with
 | move x=>exact Zt hgd h
 | assign x=>exact Zt hgd h
 | pick c a b=>simp only[opB,Y5]at h;exact⟨Zt hgd h.1,Zt hgd h.2.1,Zt hgd h.2.2⟩
 | alloc t=>exact Zah h
 | box t x=>exact Zt hgd h
 | build t ps=>simp only[opB,Y5]at h;exact⟨Zah h.1,ZhT hgd h.2⟩
 | buildSlice t n ps=>simp only[opB,Y5]at h;exact⟨λe he=>Zah (seB_ok h.1 he),ZhT hgd h.2⟩
 | load t a=>exact Zt hgd h
 | store t a x=>simp only[opB,Y5]at h;exact⟨Zt hgd h.1,Zt hgd h.2⟩
 | nilCheck x=>simp only[opB,Y5]at h;exact⟨Zt hgd h.1,badB_ok h.2⟩
 | binOp op t x y u =>
  have:(op = .eql\/op = .neq->eqB P sj Op.maxDepth t=true)/\rdB gd x=true/\rdB gd y=true:=by
   cases op<;>simp only[opB,Y5]at h<;>first | exact⟨λ_=>h.1,h.2.1,h.2.2⟩ | exact⟨λq=>(by rcases q with q | q<;>cases q),h.1,h.2⟩
  exact⟨λq=>Zaw nj _ _ (this.1 q),Zt hgd this.2.1,Zt hgd this.2.2⟩
 | unOp op t x=>exact Zt hgd h
 | convert s d x=>simp only[opB,Y5]at h;exact⟨⟨intB_ok h.1,intB_ok h.2.1⟩,Zt hgd h.2.2⟩
 | makeInterface t x=>exact Zt hgd h
 | makeFunc fn xs ys =>
  cases fn with
  | func f=>simp only[opB,Y5]at h;exact⟨⟨f,rfl,hgd f h.1⟩,Zen hgd h.2.1,Zen hgd h.2.2⟩
  | _=>cases h
 | makeMap t x=>exact Zb4 hgd h
 | makeSlice t l c=>simp only[opB,Y5]at h;exact⟨λe he=>Zah (seB_ok h.1 he),Zt hgd h.2.1,Zt hgd h.2.2⟩
 | slice t x lo hi mx=>simp only[opB,Y5]at h;exact⟨Zt hgd h.1,Zb4 hgd h.2.1,Zb4 hgd h.2.2.1,Zb4 hgd h.2.2.2⟩
 | fieldAddr t x n=>exact Zt hgd h
 | indexAddr t x i=>simp only[opB,Y5]at h;exact⟨Zt hgd h.1,Zt hgd h.2⟩
 | index t x i=>simp only[opB,Y5]at h;exact⟨Zt hgd h.1,Zt hgd h.2⟩
 | lookup t x i c=>simp only[opB,Y5,Bool.not_eq_true']at h;exact⟨ZdZ hgd nj h.1 h.2.1,Zt hgd h.2.2.1,Zt hgd h.2.2.2⟩
 | mapUpdate t a b c=>simp only[opB,Y5,Bool.not_eq_true']at h;exact⟨ZdZ hgd nj h.1 h.2.1,Zt hgd h.2.2.1,Zt hgd h.2.2.2.1,Zt hgd h.2.2.2.2⟩
 | typeAssert x t u ok=>simp only[opB,Y5]at h;exact⟨h.1,Zah h.2.1,Zt hgd h.2.2⟩
 | extract t n=>exact Zt hgd h
 | call c=>exact Zhu hgd nj h
 | defer c =>
  simp only[opB,Y5]at h;refine⟨Zhu hgd nj h.1,?_⟩;cases hc:c.callee with
  | value f =>
   have h2:=h.2;rw[hc]at h2;cases f with
   | func g=>exact⟨_,rfl,g,rfl⟩
   | _=>cases h2
  | _=>have:=h.2;rw[hc]at this;cases this
 | panic x=>exact Zt hgd h
 | _=>cases h
def dfB:Op->Bool
 | .defer _=>false
 | _=>true
def jcB(jmp:Nat->Nat->Bool):Op->Bool
 | .call c=>(match c.callee with
  | .value (.func f)=>jmp f c.args.size
  | _=>false)&&c.args.all (λx=>match x with
   | .tmp _=>true
   | _=>false)
 | _=>false
def ZO(P:Program)(gd:Nat->Bool)(jmp:Nat->Nat->Bool)(sj J N:Bool):Bool->Code->Bool
 | b,.region _ ops _=>ops.all λo=>(opB P gd sj o.op||(J&&jcB jmp o.op))&&(dfB o.op || !(b||J))
 | b,.seq x y=>ZO P gd jmp sj J N b x&&ZO P gd jmp sj J N b y
 | b,.cond c x y=>rdB gd c&&(ZO P gd jmp sj J N b x&&ZO P gd jmp sj J N b y)
 | b,.block _ x=>ZO P gd jmp sj J N b x
 | b,.loop x=>ZO P gd jmp sj J N b x
 | b,.scope x=>ZO P gd jmp sj J N b x
 | _,.rangeFunc f _ x y=>(!N&&badB P)&&(rdB gd f&&(ZO P gd jmp sj false false true x&&ZO P gd jmp sj false false true y))
 | _,.refuse _=>false
 | _,_=>true
theorem Z1P{jmp:Nat->Nat->Bool}(hj:∀f n,jmp f n=true->Jk.jmp f/\n=Jk.ar f){c:Code}:∀{J N b:Bool},ZO P gd jmp sj J N b c=true->Z0I P (J=true) (N=true) b c:=by
 induction c with
 | region i ops d =>
  intro J N b h o ho;have h1:=Array.all_eq_true_iff_forall_mem.1 h o ho;simp only[Y5,Yo]at h1;refine⟨?_,λhb c e=>?_⟩
  ·rcases h1.1 with q | ⟨q1,q2⟩
   ·exact .inl (Zlp hgd nj q)
   ·refine .inr ⟨q1,?_⟩;unfold jcB at q2;unfold Zfc;cases hop:o.op with
    | call c =>
     rw[hop]at q2;simp only[Y5]at q2;refine⟨?_,λx hx=>?_⟩
     rotate_left
     ·have q3:=Array.all_eq_true_iff_forall_mem.1 q2.2 x hx;cases x with
      | tmp t=>exact⟨t,rfl⟩
      | _=>cases q3
     cases hc:c.callee with
     | value f =>
      have h3:=q2.1;rw[hc]at h3;cases f with
      | func f=>exact⟨f,rfl,hj f _ h3⟩
      | _=>cases h3
     | _=>have h3:=q2.1;rw[hc]at h3;cases h3
    | _=>rw[hop]at q2;cases q2
  ·have h2:=h1.2;rw[e]at h2;simp only[dfB,Bool.false_eq_true,false_or,Bool.not_eq_true',Bool.or_eq_false_iff]at h2;rcases hb with hb | hb
   ·rw[h2.1]at hb;cases hb
   ·rw[h2.2]at hb;cases hb
 | seq x y ihx ihy=>intro J N b h;simp only[ZO,Y5]at h;exact⟨ihx h.1,ihy h.2⟩
 | cond c x y ihx ihy=>intro J N b h;simp only[ZO,Y5]at h;exact⟨Zt hgd h.1,ihx h.2.1,ihy h.2.2⟩
 | block i x ih=>intro J N b h;exact ih h
 | loop x ih=>intro J N b h;exact ih h
 | scope x ih=>intro J N b h;exact ih h
 | rangeFunc f ps x y ihx ihy =>
  intro J N b h;simp only[ZO,Y5,Bool.not_eq_true']at h;obtain⟨⟨rfl,hbd⟩,h1,h2,h3⟩:=h;have e:(false=true)=False:=by simp
  have hx:=ihx h2;have hy:=ihy h3;rw[e]at hx hy⊢;exact⟨Zt hgd h1,hx,hy,id,badB_ok hbd⟩
 | refuse y=>intro J N b h;cases h
 | _=>intro J N b h;trivial
end
end
end Lift
namespace Lift
open Go Go.Conc
section
variable[Jk]
variable{P:Program}{C:Inv}{r r':Ren}{v v' w w':World}
theorem Z8i(h:WH C r v w)(hb:r b=some c){cs:Array Value}{e:TypeId}(q:v.heap[b]?=some (.cells cs e (0,0)))(hs:cs.size≠0): ∃cs',w.heap[c]?=some (.cells cs' e (0,0))/\VRs r cs cs':=by
 obtain⟨o,o',h1,h2,h3⟩:=h.on _ _ hb;rw[q]at h1;obtain rfl:=Y1 h1;cases h3 with
 | cells p hf =>
  rcases hf with⟨_,rfl⟩ | hf
  ·exact⟨_,h2,p⟩
  ·simp only[Y9,true_and]at hf;exact absurd hf.symm hs
end
end Lift
namespace Lift
open Go
def gB(k:Nat):Bool:=Qy.own.elem k
theorem Z65(h:gB k=true): k∈Qy.own:=List.elem_iff.1 h
abbrev jkN:Jk:={j:=False,rest:=[],gd:=λf=>gB f=true}
noncomputable def okFn(k:Nat):Bool:=match Tryz.prog.funcs[k]? with
 | some fn=>!(fn.name == "runtime.NumGoroutine")&&match fn.body with
  | some c=>ZO Tryz.prog gB (λ_ _=>false) false false false false c
  | none=>false
 | none=>false
theorem Zlq:Qy.own.all okFn=true:=kR
theorem Zea (h:gB k=true): ∃fn c,Tryz.prog.funcs[k]?=some fn/\(fn.name == "runtime.NumGoroutine")=false/\fn.body=some c/\ZO Tryz.prog gB (λ_ _=>false) false false false false c=true:=by
 have h1:=Yl.1 Zlq k (Z65 h);unfold okFn at h1;cases e:Tryz.prog.funcs[k]? with
 | none=>rw[e]at h1;cases h1
 | some fn =>
  rw[e]at h1;simp only[Y5,Bool.not_eq_true']at h1;cases eb:fn.body with
  | none=>have:=h1.2;rw[eb]at this;cases this
  | some c=>have:=h1.2;rw[eb]at this;exact⟨fn,c,rfl,h1.1,eb,this⟩
section
variable{J:Jk}(nj:¬J.j)(hg:∀f,J.gd f↔gB f=true)(hl:∀f,gB f=true->¬J.law f)(μ:Nat)
include nj hg hl
theorem Zh0:@Strip J Tryz.prog (Qy.F μ) (@CodeOk J Tryz.prog false) (λf=>gB f=true):=by
 refine @Strip.mk J _ _ _ _ (λf h=>⟨Qy.same μ f (Z65 ((hg f).1 h)),hl f ((hg f).1 h)⟩) (λf fn h e=>?_) (λf fn c h e eb=>?_) (λf fn h e eb=>?_)<;>rw[Qy.same μ f (Z65 ((hg f).1 h))]at e<;>obtain⟨fn',c',h1,h2,h3,h4⟩:=Zea ((hg f).1 h)<;>rw[h1]at e<;>obtain rfl:=Y1 e
 ·exact h2
 ·rw[h3]at eb;obtain rfl:=Y1 eb;refine⟨h1,?_,(hg f).1 h⟩;have:=@Z1P J Tryz.prog gB false (λf q=>(hg f).2 q) (λ_=>nj) (λ_ _=>false) (λf n q=>by cases q) c' false false false h4;have e2:(false=true)=False:=by simp
  rw[e2]at this;exact this
 ·rw[h3]at eb;cases eb
theorem ZkR:@GOk J Tryz.prog (Qy.F μ) (λf=>gB f=true):=by
 intro f h;obtain⟨fn,c,h1,h2,h3,h4⟩:=Zea h;have e:=Qy.same μ f (Z65 h);exact⟨e,⟨fn,c,e.trans h1,h3⟩,(hg f).2 h,hl f h⟩
end
theorem ZlK(μ:Nat):@Strip jkN Tryz.prog (Qy.F μ) (@CodeOk jkN Tryz.prog false) (λf=>gB f=true):=Zh0 (J:=jkN) id (λ_=>Iff.rfl) (λ_ _ h=>h) μ
theorem gokN(μ:Nat):@GOk jkN Tryz.prog (Qy.F μ) (λf=>gB f=true):=ZkR (J:=jkN) id (λ_=>Iff.rfl) (λ_ _ h=>h) μ
theorem recP:Tryz.prog.follows .rangeFuncRecover=true:=kR
theorem recN:@Rec jkN Tryz.prog:=⟨recP,λ_ h=>h⟩
def gT(k:Nat):Bool:=[79,67,80,68,88,82,83,102,118].elem k
noncomputable def okgT(k:Nat):Bool:=Qy.own.elem k&&match Tryz.prog.funcs[k]? with
 | some fn=>!(fn.name == "runtime.NumGoroutine")&&match fn.body with
  | some c=>ZO Tryz.prog gT (λ_ _=>false) true false false false c
  | none=>false
 | none=>false
theorem ZmO:[79,67,80,68,88,82,83,102,118].all okgT=true:=kR
theorem Z7z (h:gT k=true): k∈Qy.own/\∃fn c,Tryz.prog.funcs[k]?=some fn/\(fn.name == "runtime.NumGoroutine")=false/\fn.body=some c/\ZO Tryz.prog gT (λ_ _=>false) true false false false c=true:=by
 have h1:=Yl.1 ZmO k (List.elem_iff.1 h);unfold okgT at h1;rw[Y5]at h1;obtain⟨h0,h1⟩:=h1;refine⟨List.elem_iff.1 h0,?_⟩;cases e:Tryz.prog.funcs[k]? with
 | none=>rw[e]at h1;cases h1
 | some fn =>
  rw[e]at h1;simp only[Y5,Bool.not_eq_true']at h1;cases eb:fn.body with
  | none=>have:=h1.2;rw[eb]at this;cases this
  | some c=>have:=h1.2;rw[eb]at this;exact⟨fn,c,rfl,h1.1,eb,this⟩
section
variable{J:Jk}(hj:J.j)(hg:∀f,J.gd f↔gT f=true)(hl:∀f,¬J.law f)(μ:Nat)
include hg hl
include hj in
theorem strip_T:@Strip J Tryz.prog (Qy.F μ) (@CodeOk J Tryz.prog false) (λf=>gT f=true):=by
 refine @Strip.mk J _ _ _ _ (λf h=>⟨Qy.same μ f (Z7z ((hg f).1 h)).1,hl f⟩) (λf fn h e=>?_) (λf fn c h e eb=>?_) (λf fn h e eb=>?_)<;>rw[Qy.same μ f (Z7z ((hg f).1 h)).1]at e<;>obtain⟨_,fn',c',h1,h2,h3,h4⟩:=Z7z ((hg f).1 h)<;>rw[h1]at e<;>obtain rfl:=Y1 e
 ·exact h2
 ·rw[h3]at eb;obtain rfl:=Y1 eb;refine⟨h1,?_,(hg f).1 h⟩;have:=@Z1P J Tryz.prog gT true (λf q=>(hg f).2 q) (λq=>by cases q) (λ_ _=>false) (λf n q=>by cases q) c' false false false h4;have e2:(false=true)=False:=by simp
  rw[e2]at this;exact this
 ·rw[h3]at eb;cases eb
theorem ZiI:@GOk J Tryz.prog (Qy.F μ) (λf=>gT f=true):=by
 intro f h;obtain⟨h0,fn,c,h1,h2,h3,h4⟩:=Z7z h;have e:=Qy.same μ f h0;exact⟨e,⟨fn,c,e.trans h1,h3⟩,(hg f).2 h,hl f⟩
omit hg in
theorem rec_T:@Rec J Tryz.prog:=⟨recP,hl⟩
end
end Lift
namespace Lift
open Go Go.Conc
def PV(S:Nat->Prop):Value->Prop
 | .int _ _=>True
 | .bool _=>True
 | .pointer (some a)=>S a.block
 | .slice none _ _=>True
 | .slice (some a) _ _=>S a.block/\a.spot=none
 | _=>False
open Classical in
noncomputable def idS(S:Nat->Prop):Ren:=λb=>if S b then some b else none
theorem Z2f{S:Nat->Prop}(h:S b): idS S b=some b:=if_pos h
theorem Z0H{S:Nat->Prop}(h:idS S b=some c): S b/\c=b:=by
 unfold idS at h;split at h
 ·exact⟨by assumption,(Y1 h).symm⟩
 ·cases h
theorem ZdA(S:Nat->Prop):Inj (idS S):=λa b c h k=>by rw[<-(Z0H h).2,<-(Z0H k).2]
theorem ZiL(S:Nat->Prop):Idn (idS S):=λb c h=>(Z0H h).2
section
variable[Jk]{S:Nat->Prop}{r:Ren}{w:World}
theorem PV.vr{x:Value}(h:PV S x): VR (idS S) x x:=by
 cases x with
 | int k n=>exact .int k n
 | bool b=>exact .bool b
 | pointer a =>
  cases a with
  | none=>exact h.elim
  | some a=>exact .ptr (.mk (Z2f h))
 | slice a n c =>
  cases a with
  | none=>exact .sl0 n c
  | some a=>exact .sl n c (.mk (Z2f h.1))
 | _=>exact h.elim
theorem PV.same(hi:Idn r){x y:Value}(h:PV S x)(k:VR r x y): y=x:=by
 cases k with
 | int k n=>rfl
 | bool b=>rfl
 | ptr q=>rw[q.id hi]
 | sl0 n c=>rfl
 | sl n c q=>rw[q.id hi]
 | slz j=>exact absurd h.2 dC
 | _=>exact h.elim
theorem Zb0{R:Value->Value->Prop}(h:∀(i:Nat) y,ys[i]?=some y->∃x,R x y): ∃xs:Array Value,Arr R xs ys:=by
 have h':∀i:Fin ys.size,∃x,R x ys[i]:=λi=>h i _ (Y2 i.2);obtain⟨f,hf⟩:=Classical.axiomOfChoice h';refine⟨Array.ofFn f,sU,λi x y a b=>?_⟩;obtain⟨h1,h2⟩:=Y0.1 b;have h3:i<(Array.ofFn f).size:=by simpa using h1
 rw[Y2 h3]at a;simp only[Array.getElem_ofFn,Y4]at a;have:=hf ⟨i,h1⟩;rw[a]at this;exact h2▸this
theorem Ziz(j:Jk.j):∀(n:Nat) (y:Value),SizeOf.sizeOf y<n->∃x,VR r x y:=by
 intro n
 induction n with
 | zero=>intro y h;exact absurd h (Nat.not_lt_zero _)
 | succ n ih =>
  intro y hy;have junk:(∀xs,y ≠ .agg xs)->(y ≠ .nilIface/\∀xs,y ≠ .tuple xs)->(y ≠ .pointer none/\y ≠ .nilFunc/\∀b,y ≠ .bool b)->∃x,VR r x y:=λa b c=>⟨J0,.junk (.inl j) a b c⟩;have arr:∀ys:Array Value,SizeOf.sizeOf ys<n->∃xs,VRs r xs ys:=λys hs=>Zb0 λi y hi=>ih y (by
   have:=Array.sizeOf_lt_of_mem (Yk hi);omega)
  cases y with
  | bool b=>exact⟨_,.bool b⟩
  | int k n=>exact⟨_,.int k n⟩
  | string s=>exact⟨_,.string s⟩
  | pointer a =>
   cases a with
   | none=>exact⟨_,.ptr0⟩
   | some a=>exact junk sU ⟨sU,sU⟩ sU
  | nilFunc=>exact⟨_,.func0⟩
  | nilIface=>exact⟨_,.iface0⟩
  | agg ys =>
   obtain⟨xs,h⟩:=arr ys (by simp only[Value.agg.sizeOf_spec]at hy;omega);exact⟨_,.aggA h⟩
  | tuple ys =>
   obtain⟨xs,h⟩:=arr ys (by simp only[Value.tuple.sizeOf_spec]at hy;omega);exact⟨_,.tupA h⟩
  | _=>exact junk sU ⟨sU,sU⟩ sU
theorem ZhA(j:Jk.j)(ys:Array Value):∃xs:Array Value,VRs (idS S) xs ys/\(∀(i:Nat) y,ys[i]?=some y->PV S y->xs[i]?=some y)/\∀(i:Nat) a,ys[i]?=some (.slice (some a) 0 0)->¬PV S (.slice (some a) 0 0)->xs[i]?=some (.slice (some Z0) 0 0):=by
 have:=Zb0 (R:=λx y=>VR (idS S) x y/\(PV S y->x=y)/\∀a,y = .slice (some a) 0 0->¬PV S y->x = .slice (some Z0) 0 0) (ys:=ys) λi y hi=>by
  by_cases h:PV S y
  ·exact⟨y,h.vr,λ_=>rfl,λ_ _ q=>absurd h q⟩
  ·by_cases hz:∃a,y = .slice (some a) 0 0
   ·obtain⟨a,rfl⟩:=hz;exact⟨_,.slz (.inl j),λq=>absurd q h,λ_ _ _=>rfl⟩
   ·obtain⟨x,hx⟩:=Ziz (r:=idS S) j _ y (Nat.lt_succ_self _);exact⟨x,hx,λq=>absurd q h,λa e=>absurd ⟨a,e⟩ hz⟩
 obtain⟨xs,h1,h2⟩:=this;have key:∀(i:Nat) y,ys[i]?=some y->∃x,xs[i]?=some x/\(PV S y->x=y)/\∀a,y = .slice (some a) 0 0->¬PV S y->x = .slice (some Z0) 0 0:=λi y hi=>by
  have h3:i<xs.size:=by rw[h1];exact(Y0.1 hi).1
  exact⟨_,Y2 h3,(h2 i _ y (Y2 h3) hi).2⟩
 refine⟨xs,⟨h1,λi x y a b=>(h2 i x y a b).1⟩,λi y hi hp=>?_,λi a hi hp=>?_⟩
 ·obtain⟨x,q1,q2,_⟩:=key i y hi;rw[q1,q2 hp]
 ·obtain⟨x,q1,_,q2⟩:=key i _ hi;rw[q1,q2 a rfl hp]
structure Shadow(S:Nat->Prop)(w v:World):Prop where
 size:v.heap.size=w.heap.size
 os:v.os=w.os
 at_:∀c,S c->∀cs e fz,w.heap[c]?=some (.cells cs e fz)->∃cs',v.heap[c]?=some (.cells cs' e (0,cs'.size))/\cs'.size=cs.size/\(∀(i:Nat) x,cs[i]?=some x->PV S x->cs'[i]?=some x)/\∀(i:Nat) a,cs[i]?=some (.slice (some a) 0 0)->¬PV S (.slice (some a) 0 0)->cs'[i]?=some (.slice (some Z0) 0 0)
theorem Z2d{P:Program}{F:Array Func}(j:Jk.j)(h:∀c,S c->∃cs e fz,w.heap[c]?=some (.cells cs e fz)):∃v,Shadow S w v/\WH (Iv P F) (idS S) v w/\∀b c,idS S b=some c->Shut v b:=by
 obtain⟨f,hf⟩:=Classical.axiomOfChoice λys:Array Value=>ZhA (S:=S) j ys
 classical
 let g:Nat->Obj->Obj:=λc o=>if S c then(match o with
  | .cells cs e _=>.cells (f cs) e (0,(f cs).size)
  | o=>o) else o
 have hg:∀c,S c->∀cs e fz,w.heap[c]?=some (.cells cs e fz)->(w.heap.mapIdx g)[c]?=some (.cells (f cs) e (0,(f cs).size)):=by
  intro c hc cs e fz hx;rw[Array.getElem?_mapIdx,hx];simp only[Option.map_some,g,if_pos hc]
 refine⟨{w with heap:=w.heap.mapIdx g},⟨sU,rfl,λc hc cs e fz hx=>⟨f cs,hg c hc cs e fz hx,(hf cs).1.1,(hf cs).2⟩⟩,⟨λb c hb=>?_,ZdA S,rfl⟩,λb c hb=>?_⟩
 ·obtain⟨hs,rfl⟩:=Z0H hb;obtain⟨cs,e,fz,hx⟩:=h _ hs;exact⟨_,_,hg _ hs cs e fz hx,hx,.cells (hf cs).1 (.inr rfl)⟩
 ·obtain⟨hs,rfl⟩:=Z0H hb;obtain⟨cs,e,fz,hx⟩:=h _ hs;exact⟨_,_,hg _ hs cs e fz hx⟩
end
end Lift
end Go.Proofs.YtfelljbfeoplhaaGreat
