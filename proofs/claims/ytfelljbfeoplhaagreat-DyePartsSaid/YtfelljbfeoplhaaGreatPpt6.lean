/- Parts of a proof: Ew, Au, Exo, Mc, Md, Un, Dvc, Dvd, Dve, Dvf, Dvg, Dri, Drj, Drc, Drd. No conditions. -/
import Derived.Conc.DeferLaws
import Derived.Conc.MarkLaws
import Derived.Defers
import Derived.DefersIn
import Derived.KernelRfl
import Derived.OrdersIn
import Derived.RangeFuncBound
import Derived.RangeFuncCalls
import Derived.RangeFuncFrom
import Derived.RangeFuncKeeps
import Derived.RangeFuncLeaves
import Derived.RangeFuncNested
import Derived.Recover
import Derived.RecoverIn
import Derived.TacticsIn
import Derived.Test.YtfelljbfeoplhaaGreatProg
import Derived.Test.YtfelljbfeoplhaaGreatPpt1
import Derived.Test.YtfelljbfeoplhaaGreatPpt5
set_option linter.unusedVariables false
set_option linter.unusedSimpArgs false
set_option linter.unusedSectionVars false
set_option maxRecDepth 100000
set_option maxHeartbeats 4000000
namespace Go.Proofs.YtfelljbfeoplhaaGreat
variable{ops:Array Go.Oper}{o:Go.Oper}{b:Bool}{bn d i k n:Nat}{c x y:Go.Code}{f s:Nat->Int}{ls:List Int}{args:List Go.Value}
namespace Ev
open Go Lift
section
variable{P:Program}{m:Bool}{w:World}{f:Frame}{K:List Frame}
theorem Z2k(h:f.mode = .run):stepG P m (run1 f K) w=stepG.exec P m true f K none w:=by
 unfold stepG run1;simp only[h]
theorem Z1W(h:f.mode = .returning):stepG P m (run1 f K) w=unwind P m f K none w:=by
 unfold stepG run1;simp only[h]
theorem Z10(fn:FuncId):seen P fn #[]=#[]:=rfl
theorem Z19(g:Goroutine)(w:World)(es:Array Event):GStep.after #[] (.go g w es) = .go g w es:=by simp[GStep.after]
theorem FOk.to{a:FA}(h:FOk a f)(k:List Item):FOk {a with todo:=k} {f with todo:=k}:=⟨h.fn,h.size,h.env,rfl,h.defs,h.kind,h.mode,h.round⟩
theorem FOk.put{a b:FA}(h:FOk a f){ops:Array Oper}{i:Nat}{rest:List Nat}{k:List Item}(ht:a.todo = .inRegion ops (i::rest)::k){v:Value}(e:a.put ops i rest k v=some b):FOk b (f.finish v):=by
 have hft:=h.todo.trans ht;unfold FA.put at e;unfold Frame.finish;rw[hft];dsimp only
 cases hd:(ops[i]?).bind (·.dst) with
 | none =>
  rw[hd]at e;obtain rfl:=Y1 e;exact⟨h.fn,h.size,h.env,rfl,h.defs,h.kind,h.mode,h.round⟩
 | some d =>
  rw[hd]at e;dsimp only at e
  split at e
  ·rename_i hlt
   obtain rfl:=Y1 e;refine⟨h.fn,by simpa using h.size,?_,rfl,h.defs,h.kind,h.mode,h.round⟩;intro t u e;dsimp only at e⊢;rw[Yp]at e
   by_cases htd:t=d
   ·subst htd
    simp only[beq_self_eq_true]at e;rw[Array.getElem?_setIfInBounds_self_of_lt (by rw[h.size];exact hlt)];exact e
   ·have:(t==d)=false:=by simp[htd]
    rw[this]at e;rw[Yq (Ne.symm htd)];exact h.env t u e
  ·cases e
theorem Zbf{a:FA}(h:FOk a f)(e:a.gd ops o=some b): Region.wanted o (yielded ops f.tmps)=b:=by
 unfold FA.gd at e;unfold Region.wanted
 cases hg:o.guard with
 | none=>rw[hg]at e;exact Y1 e
 | some p =>
  obtain⟨j,want⟩:=p;rw[hg]at e;dsimp only at e⊢;unfold yielded
  cases hd:(ops[j]?).bind (·.dst) with
  | none=>rw[hd]at e;obtain rfl:=Y1 e;rfl
  | some d =>
   rw[hd]at e;dsimp only at e;simp only[Option.bind_some]
   cases hl:a.env.lookup d with
   | none=>rw[hl]at e;cases e
   | some v =>
    rw[hl]at e;rw[h.env d v hl]
    cases v<;>first | (obtain rfl:=Y1 e;rfl) | (obtain rfl:=Y1 e;simp)
end
structure Ext0(P:Program)(g:FuncId)(e:Array Value->Sem Value):Prop where
 ex:∃fn,P.funcs[g]?=some fn/\(fn.name == "runtime.NumGoroutine")=false/\fn.body.isNone=true/\Extern.findNext fn=none/\Extern.find fn=some e
structure XOk(P:Program)(X:Xt):Prop where
 dis:Ext0 P X.dis (λ_=>do mark .disable;pure Extern.Race.none_)
 en:Ext0 P X.en (λ_=>do mark .enable;pure Extern.Race.none_)
 acq:Ext0 P X.acq (Extern.Race.marked .acquire)
 mrg:Ext0 P X.mrg (Extern.Race.marked .releaseMerge)
 pures:∀g v,X.pures.lookup g=some v->Ext0 P g (λ_=>pure v)
section
variable{P:Program}{m:Bool}{w:World}{f:Frame}{fs cs:List Frame}{X:Xt}{ev:XEv}
theorem Z6E(hm:f.mode = .run)(hr:f.roundOf=none):f=f.at ⟨f.tmps,f.defers⟩ f.todo:=by
 obtain⟨a1,a2,a3,a4,a5,a6,a7⟩:=f;dsimp only at hm hr;subst hm hr
 rfl
theorem Z3e{rest:List Nat}{k:List Item}(hm:f.mode = .run)(hr:f.roundOf=none)(ht:f.todo = .inRegion ops (i::rest)::k)(v:Value):
  f.finish v=f.at ((Act.mk f.tmps f.defers).put ((ops[i]?).bind (·.dst)) v) (.inRegion ops rest::k):=by
 conv=>lhs;rw[Z6E hm hr,ht]
 exact Frame.finish_at _ _ _ _ _ _ _
theorem Z7M{a:FA}(h:FOk a f):∀{l:List Operand} {vs:List Value},l.mapM a.val=some vs->l.map f.eval=vs
 | [],vs,e=>by simp at e;simp[e]
 | x::l,vs,e=>by
  simp only[List.mapM_cons,Option.pure_def,Option.bind_eq_bind]at e;obtain⟨v,hv,e⟩:=Option.bind_eq_some_iff.1 e;obtain⟨us,hu,e⟩:=Option.bind_eq_some_iff.1 e;obtain rfl:=Y1 e;rw[List.map_cons,h.val hv,Z7M h hu]
theorem Zaa{a:FA}(h:FOk a f)(hr:a.ret=false){rest:List Nat}{k:List Item}(ht:a.todo = .inRegion ops (i::rest)::k)(ho:ops[i]?=some o)(hg:a.gd ops o=some true)(hk:f.kind ≠ .early){g:FuncId}{vs:List Value}(he:a.ext P o=some (g,vs)){e:Array Value->Sem Value}(hE:Ext0 P g e){v:Value}{w':World}{evs:Array Event}(hrun:(e vs.toArray).run P w = .ok v w')(hev:(e vs.toArray).events P w #[⟨.mark (.extern g),false,true⟩]=#[⟨.mark (.extern g),false,true⟩]++evs)(hs:∀x∈evs,x.sync=true/\∀g,x.loc ≠ .mark (.extern g)):
  stepG P m (run1 f cs) w = .go (run1 (f.finish v) cs) w' evs:=by
 have hrun':f.mode = .run:=by rw[h.mode,hr];rfl
 unfold FA.ext at he
 split at he
 ·rename_i c hop
  split at he
  ·rename_i g' hc
   split at he
   ·rename_i fn hfn
    split at he
    ·obtain⟨us,hu,he⟩:=Y3.1 he
     simp only[Y9]at he;obtain⟨rfl,rfl⟩:=he;obtain⟨fn,h1,h2,h3,h4,h5⟩:=hE.ex;obtain⟨callee,args,argTypes⟩:=c;dsimp only at hc hu;subst hc;have hargs:args.map (Act.mk f.tmps f.defers).eval=us.toArray:=by
      have hev0:(Act.mk f.tmps f.defers).eval=f.eval:=by funext x;cases x<;>rfl
      apply Array.ext';rw[Array.toList_map,hev0];exact Z7M h hu
     have hft:=h.todo.trans ht;have hd:(ops[i]?).bind (·.dst)=o.dst:=by rw[ho];rfl
     rw[Z3e hrun' h.round hft,hd]
     conv=>lhs;rw[Z6E hrun' h.round,hft]
     exact Conc.stepG_entry ho (Zbf h hg) hk hop h1 h2 h3 h4 h5 (by rw[hargs];exact hrun) (by rw[hargs];exact hev) hs
    ·cases he
   ·cases he
  ·cases he
 ·cases he
def SOk(a:FA)(r:List FA)(f:Frame)(fs:List Frame):Prop:=FOk a f/\Lis FOk r fs
def Sil(P:Program)(f:Frame)(fs cs:List Frame)(m:Mv):Prop:=
 ∃f' fs',SOk m.top m.rest f' fs'/\∀b w,(∀p∈m.ps,∃v,w.cell? p=some v)->stepG P b (run1 f (fs++cs)) w = .go (run1 f' (fs'++cs)) w m.ev.es
theorem Z20{a:FA}{r:List FA}{mv:Mv}(h:SOk a r f fs)(hm:f.mode = .run){k:List Item}(q:a.to r k=some mv)(e:∀m w,stepG.exec P m true f (fs++cs) none w = .go (run1 {f with todo:=k} (fs++cs)) w): Sil P f fs cs mv:=by
 obtain rfl:=Y1 q;exact⟨_,fs,⟨h.1.to k,h.2⟩,λm w _=>by rw[Z2k hm,e];rfl⟩
theorem Z6a(h:f.roundOf=none){j:Option Code}(hj:j=none\/j=some .ret): Z0k P m f (fs++cs) w j = .go (run1 {f with mode:=.returning} (fs++cs)) w:=by
 unfold Z0k;rw[h]
 rcases hj with rfl | rfl<;>rfl
theorem Z2D{fn:Func}{tmps:Array Value}{v:Value}(h:(fn.results.toList=[]/\v = .tuple #[])\/∃t,fn.results.toList=[.tmp t]/\v=tmps.getD t undef)(w:World): (results fn tmps).run P w = .ok v w/\∀es,(results fn tmps).events P w es=es:=by
 unfold results;rw[Array.mapM_eq_mapM_toList]
 rcases h with⟨h,rfl⟩ | ⟨t,h,rfl⟩
 ·rw[h];simp
 ·rw[h];simp
theorem Zjl{P:Program}{X:Xt}(hX:XOk P X){g:FuncId}{vs:List Value}{v:Value}(e:X.act g vs=some (v,ev)): ∃e,Ext0 P g e/\∀w,(e vs.toArray).run P w = .ok v w/\(e vs.toArray).events P w #[⟨.mark (.extern g),false,true⟩]=#[⟨.mark (.extern g),false,true⟩]++ev.es /\
  ∀x∈ev.es,x.sync=true/\∀g,x.loc ≠ .mark (.extern g):=by
 unfold Xt.act at e
 split at e
 ·rename_i hg
  have hg:g=X.dis:=by simpa using hg
  subst hg;simp only[Y4,Y9]at e;obtain⟨rfl,rfl⟩:=e;refine⟨_,hX.dis,λw=>⟨by simp[Extern.Race.none_],by simp[XEv.es],λx hx=>?_⟩⟩;simp only[XEv.es,Yb,List.mem_singleton]at hx;subst hx;exact⟨rfl,λg h=>by cases h⟩
 ·split at e
  ·rename_i hg
   have hg:g=X.en:=by simpa using hg
   subst hg;simp only[Y4,Y9]at e;obtain⟨rfl,rfl⟩:=e;refine⟨_,hX.en,λw=>⟨by simp[Extern.Race.none_],by simp[XEv.es],λx hx=>?_⟩⟩;simp only[XEv.es,Yb,List.mem_singleton]at hx;subst hx;exact⟨rfl,λg h=>by cases h⟩
  ·split at e
   ·rename_i hg
    have hg:g=X.acq:=by simp only[Y5,beq_iff_eq]at hg;exact hg.2
    subst hg
    split at e
    ·simp only[Y4,Y9]at e
     obtain⟨rfl,rfl⟩:=e;refine⟨_,hX.acq,λw=>⟨by simp[Extern.Race.marked,Extern.Race.at_,Extern.Race.none_],by simp[Extern.Race.marked,Extern.Race.at_,XEv.es],λx hx=>?_⟩⟩;simp only[XEv.es,Yb,List.mem_singleton]at hx;subst hx;exact⟨rfl,λg h=>by cases h⟩
    ·cases e
   ·split at e
    ·rename_i hg
     have hg:g=X.mrg:=by simp only[Y5,beq_iff_eq]at hg;exact hg.2
     subst hg
     split at e
     ·simp only[Y4,Y9]at e
      obtain⟨rfl,rfl⟩:=e;refine⟨_,hX.mrg,λw=>⟨by simp[Extern.Race.marked,Extern.Race.at_,Extern.Race.none_],by simp[Extern.Race.marked,Extern.Race.at_,XEv.es],λx hx=>?_⟩⟩;simp only[XEv.es,Yb,List.mem_singleton]at hx;subst hx;exact⟨rfl,λg h=>by cases h⟩
     ·cases e
    ·obtain⟨u,hu,e⟩:=Y3.1 e
     simp only[Y9]at e;obtain⟨rfl,rfl⟩:=e;exact⟨_,hX.pures g u hu,λw=>⟨by simp,by simp[XEv.es],λx hx=>by simp[XEv.es]at hx⟩⟩
theorem Z6X{g:FuncId}{fn:Func}(hfn:P.funcs[g]?=some fn)(hc:fn.body=some c)(xs:Array Value)(k:CallKind): FOk (Z85 g fn c xs k) (Frame.enter P g xs k):=by
 unfold Frame.enter Z85;rw[hfn];refine⟨rfl,by simp,?_,by simp[hc],rfl,rfl,rfl,rfl⟩;intro t v hl;dsimp only at hl⊢;have key:∀(l:List Value) (n t:Nat) (v:Value),((List.range' n l.length).zip l).lookup t=some v->n<=t/\l[t-n]?=some v:=by
  intro l
  induction l with
  | nil=>intro n t v h;simp at h
  | cons x l ih =>
   intro n t v h;simp only[List.length_cons,List.range'_succ,List.zip_cons_cons,Yp]at h
   by_cases e:t=n
   ·subst e
    simp only[beq_self_eq_true,Y4]at h;subst h;simp
   ·have:(t==n)=false:=by simp[e]
    rw[this]at h;obtain⟨h1,h2⟩:=ih (n+1) t v h;refine⟨by omega,?_⟩;rw[show t-n=(t-(n+1))+1 by omega,List.getElem?_cons_succ];exact h2
 rw[List.range_eq_range',show xs.size=xs.toList.length by simp]at hl;obtain⟨_,h2⟩:=key xs.toList 0 t v hl;rw[Nat.sub_zero,Array.getElem?_toList]at h2;rw[Array.getElem?_append_left (Y0.1 h2).1];exact h2
theorem pmove_ok(hX:XOk P X){a:FA}{rest:List FA}{mv:Mv}(h:SOk a rest f fs)(e:pmove P X a rest=some mv):Sil P f fs cs mv:=by
 letI:Jk:={j:=False,rest:=[]};obtain⟨hf,hs⟩:=h;have h:SOk a rest f fs:=⟨hf,hs⟩;unfold pmove at e;have hmode:=hf.mode
 cases hr:a.ret with
 | true =>
  rw[hr]at e hmode;have hret:f.mode = .returning:=by rw[hmode];rfl
  dsimp only at e
  split at e
  ·rename_i d ds hdef
   split at e
   ·rename_i g ys htg
    split at e
    ·rename_i fn hfn
     have hfd:f.defers=d::ds:=hf.defs.trans hdef;obtain⟨t,az⟩:=d;dsimp only at htg;subst htg;have hfa:FOk {fn:=a.fn,n:=a.n,env:=a.env,todo:=a.todo,defs:=ds,kind:=a.kind,ret:=true} {f with defers:=ds}:=⟨hf.fn,hf.size,hf.env,hf.todo,rfl,hf.kind,hmode,hf.round⟩
     split at e
     ·rename_i c hc
      split at e
      ·cases e
      ·rename_i hname
       cases e
       refine⟨_,_::fs,⟨Z6X hfn hc (az++ys) .deferred,.cons hfa hs⟩,λm w _=>?_⟩;rw[Z1W hret];unfold unwind;rw[hfd];dsimp only;have hrun:(invoke (.fn (.func g) ys) az).run P w = .ok (.enter g (az++ys)) w/\(invoke (.fn (.func g) ys) az).events P w #[]=#[]:=by
        unfold invoke callFunc;dsimp only;have hname':¬fn.name = "runtime.NumGoroutine":=by simpa using hname
        simp[hfn,hname',hc]
       rw[Z3v hrun.1];unfold lsd;rw[hrun.2,Z10,Z19]
       rfl
     ·split at e
      ·rename_i hb hg
       have hg:g=X.en:=by simpa using hg
       subst hg
       cases e
       refine⟨_,fs,⟨hfa,hs⟩,λm w _=>?_⟩;obtain⟨fn',h1,h2,h3,h4,h5⟩:=hX.en.ex;rw[Z1W hret];unfold unwind;rw[hfd];dsimp only;have hi:invoke (.fn (.func X.en) ys) az=callFunc X.en (az++ys):=rfl;have hrun:(invoke (.fn (.func X.en) ys) az).run P w = .ok (.value (.tuple #[])) w:=by
        rw[hi,run_callFunc_extern h1 h2 h3 h4 h5];simp[Extern.Race.none_]
       have hev:(invoke (.fn (.func X.en) ys) az).events P w #[]=#[⟨.mark (.extern X.en),false,true⟩]++#[⟨.mark .enable,false,true⟩]:=by
        rw[hi,Conc.events_callFunc_extern h1 h2 h3 h4 h5];simp
       rw[Z4E hrun];unfold lsd;rw[hev,Conc.seen_entry _ _ _ (λx hx=>by simp at hx;subst hx;exact⟨rfl,λg h=>by cases h⟩)]
       rfl
      ·cases e
    ·cases e
   ·cases e
  ·rename_i hdef
   split at e
   ·rename_i c cs' fn hkind hfn
    split at e
    ·rename_i ops i rest' k htodo
     cases hs with
     | @cons _ f0 _ fs0 hc hcs =>
     have fin:∀{v:Value} {b:FA},c.put ops i rest' k v=some b->((fn.results.toList=[]/\v = .tuple #[])\/∃t,fn.results.toList=[.tmp t]/\v=f.tmps.getD t undef)->Sil P f (f0::fs0) cs ⟨b,cs',[],.none⟩:=by
      intro v b hb hv;refine⟨f0.finish v,fs0,⟨hc.put htodo hb,hcs⟩,λm w _=>?_⟩;rw[Z1W hret];unfold unwind;rw[hf.defs,hdef];dsimp only;rw[hret];dsimp only;rw[hf.fn,hfn];dsimp only;obtain⟨r1,r2⟩:=Z2D (P:=P) hv w;simp only[Yf,r1,r2];unfold doReturn;rw[hf.kind,hkind]
      rfl
     split at e
     ·rename_i hcr hres
      obtain⟨b,hb,e⟩:=Y3.1 e
      cases e
      exact fin hb (.inl ⟨hres,rfl⟩)
     ·rename_i t hcr hres
      obtain⟨v,hv,e⟩:=Option.bind_eq_some_iff.1 e;obtain⟨b,hb,e⟩:=Y3.1 e
      cases e
      refine fin hb (.inr ⟨t,hres,?_⟩);rw[Y6,hf.env t v hv];rfl
     ·cases e
    ·cases e
   ·rename_i c cs' fn hkind hfn
    split at e
    ·rename_i hcr hres
     cases e
     cases hs with
     | @cons _ f0 _ fs0 hc hcs =>
     refine⟨f0,fs0,⟨hc,hcs⟩,λm w _=>?_⟩;have hcm:f0.mode = .returning:=by rw[hc.mode,hcr];rfl
     rw[Z1W hret];unfold unwind;rw[hf.defs,hdef];dsimp only;rw[hret];dsimp only;rw[hf.fn,hfn];dsimp only;obtain⟨r1,r2⟩:=Z2D (P:=P) (fn:=fn) (tmps:=f.tmps) (.inl ⟨hres,rfl⟩) w;simp only[Yf,r1,r2];unfold doReturn;rw[hf.kind,hkind];dsimp only[List.cons_append];rw[hcm]
     rfl
    ·cases e
   ·cases e
 | false =>
  rw[hr]at e hmode;have hrun:f.mode = .run:=by rw[hmode];rfl
  dsimp only at e;have ht:=hf.todo;have ret:(f.todo=[]\/∃k,f.todo = .code .ret::k)->Sil P f fs cs ⟨{a with ret:=true},rest,[],.none⟩:=by
   intro hx;refine⟨{f with mode:=.returning},fs,⟨⟨hf.fn,hf.size,hf.env,hf.todo,hf.defs,hf.kind,rfl,hf.round⟩,hs⟩,λm w _=>?_⟩;rw[Z2k hrun]
   rcases hx with hx | ⟨k,hx⟩
   ·rw[Za6 hx,Z6a hf.round (.inl rfl)];rfl
   ·rw[Za7 hx,Z6a hf.round (.inr rfl)];rfl
  have inj:∀{x y:Mv},some x=some y->y=x:=λh=>(Y1 h).symm
  split at e<;>(try rename_i htodo;rw[htodo]at ht)
  ·cases inj e;exact ret (.inl ht)
  ·exact Z20 h hrun e λ_ _=>Z75 ht
  ·exact Z20 h hrun e λ_ _=>Z4K ht
  ·exact Z20 h hrun e λ_ _=>Z33 ht
  ·exact Z20 h hrun e λ_ _=>Z4J ht
  ·exact Z20 h hrun e λ_ _=>Z74 ht
  ·exact Z20 h hrun e λ_ _=>Z4L ht
  ·split at e
   ·rename_i b hb
    refine Z20 h hrun e λ_ _=>?_;rw[Z5b ht,hf.val hb]
   ·cases e
  ·obtain⟨k',hk',e⟩:=Option.bind_eq_some_iff.1 e
   refine Z20 h hrun e λ_ _=>?_;rw[Z5c ht,hk']
  ·cases inj e;exact ret (.inr ⟨_,ht⟩)
  ·exact Z20 h hrun e λ_ _=>Z3D ht
  ·exact Z20 h hrun e λ_ _=>Z2S ht
  ·exact Z20 h hrun e λ_ _=>Z2T ht
  ·exact Z20 h hrun e λ_ _=>Z3B ht
  ·exact Z20 h hrun e λ_ _=>Z71 ht
  ·rename_i ops i l k
   split at e
   ·cases e
   ·rename_i o ho
    split at e
    ·rename_i hg
     obtain⟨b,hb,e⟩:=Y3.1 e
     cases e
     have hw:=Zbf hf hg;refine⟨f.finish undef,fs,⟨hf.put htodo hb,hs⟩,λm w _=>?_⟩;rw[Z2k hrun,Z29 ht,ho];simp only[Option.map_some,Option.getD_some,hw]
     rfl
    ·rename_i hg
     have hw:=Zbf hf hg
     split at e
     ·rename_i g vs hext
      split at e
      ·cases e
      ·rename_i hke
       have hk:f.kind ≠ .early:=λx=>hke (by rw[<-hf.kind,x];rfl)
       split at e
       ·rename_i v ev' hact
        obtain⟨b,hb,e⟩:=Y3.1 e
        cases e
        obtain⟨ex,hE,hall⟩:=Zjl hX hact;refine⟨f.finish v,fs,⟨hf.put htodo hb,hs⟩,λm w _=>?_⟩;obtain⟨r1,r2,r3⟩:=hall w;exact Zaa hf hr htodo ho hg hk hext hE r1 r2 r3
       ·cases e
     ·have hop:∀m w,stepG.exec P m true f (fs++cs) none w=stepG.apply P true f (fs++cs) none (execOp f.eval o) w:=λm w=>by
       rw[Z29 ht,ho];simp only[Option.map_some,Option.getD_some,hw,if_true];exact Z4a ht ho (.inl hf.round)
      split at e
      ·rename_i v ps hv
       obtain⟨b,hb,e⟩:=Y3.1 e
       cases e
       refine⟨f.finish v,fs,⟨hf.put htodo hb,hs⟩,λm w hp=>?_⟩;obtain⟨r1,r2⟩:=Zfr hf hv w hp;rw[Z2k hrun,hop,Z0q r1];simp only[lst,r2,ite_self,Z10,Z19]
       rfl
      ·rename_i d ps hv
       obtain⟨b,hb,e⟩:=Y3.1 e
       cases e
       have hfd:FOk {a with defs:=d::a.defs} {f with defers:=d::f.defers}:=⟨hf.fn,hf.size,hf.env,hf.todo,by rw[hf.defs],hf.kind,hf.mode,hf.round⟩;have hb2:FA.put {a with defs:=d::a.defs} ops i l k undef=some {b with defs:=d::b.defs}:=by
        revert hb;unfold FA.put;dsimp only
        split
        ·split
         ·intro hb;obtain rfl:=Y1 hb;rfl
         ·intro hb;cases hb
        ·intro hb;obtain rfl:=Y1 hb;rfl
       refine⟨_,fs,⟨hfd.put htodo hb2,hs⟩,λm w hp=>?_⟩;obtain⟨r1,r2⟩:=Zfr hf hv w hp;rw[Z2k hrun,hop,Z26 r1];simp only[lst,r2,ite_self,Z10,Z19]
       rfl
      ·rename_i g xs ps hv
       split at e
       ·rename_i fn hfn
        split at e
        ·rename_i c hc
         cases inj e
         have hk2:Z2y f = .normal:=by unfold Z2y;rw[ht]
         refine⟨Frame.enter P g xs .normal,f::fs,⟨Z6X hfn hc xs .normal,.cons hf hs⟩,λm w hp=>?_⟩;obtain⟨r1,r2⟩:=Zfr hf hv w hp;rw[Z2k hrun,hop,Z0F r1,hk2];simp only[lst,r2,ite_self,Z10,Z19]
         rfl
        ·cases e
       ·cases e
      ·cases e
    ·cases e
  ·cases e
end
end Ev
namespace Ev
open Go Lift
def xt:Xt:={dis:=129,en:=130,acq:=143,mrg:=128,says:=true,pures:=[(161,.tuple #[]),(131,.bool false)]}
def xtQ:Xt:={xt with says:=false}
theorem ZhB:Ext0 Tryz.prog 129 (λ_=>do mark .disable;pure Extern.Race.none_):=⟨_,Tryz.func129,by kernel_rfl,by kernel_rfl,by kernel_rfl,by kernel_rfl⟩
theorem ZjO:Ext0 Tryz.prog 130 (λ_=>do mark .enable;pure Extern.Race.none_):=⟨_,Tryz.func130,by kernel_rfl,by kernel_rfl,by kernel_rfl,by kernel_rfl⟩
theorem Z94:Ext0 Tryz.prog 143 (Extern.Race.marked .acquire):=⟨_,Tryz.func143,by kernel_rfl,by kernel_rfl,by kernel_rfl,by kernel_rfl⟩
theorem ZcO:Ext0 Tryz.prog 128 (Extern.Race.marked .releaseMerge):=⟨_,Tryz.func128,by kernel_rfl,by kernel_rfl,by kernel_rfl,by kernel_rfl⟩
theorem ZjP:Ext0 Tryz.prog 136 (Extern.Race.marked .read):=⟨_,Tryz.func136,by kernel_rfl,by kernel_rfl,by kernel_rfl,by kernel_rfl⟩
theorem ZjQ:Ext0 Tryz.prog 146 (Extern.Race.marked .write):=⟨_,Tryz.func146,by kernel_rfl,by kernel_rfl,by kernel_rfl,by kernel_rfl⟩
theorem ZeV:Ext0 Tryz.prog 161 (λ_=>pure (.tuple #[])):=⟨_,Tryz.func161,by kernel_rfl,by kernel_rfl,by kernel_rfl,by kernel_rfl⟩
theorem ZhA:Ext0 Tryz.prog 131 (λ_=>pure (.bool false)):=⟨_,Tryz.func131,by kernel_rfl,by kernel_rfl,by kernel_rfl,by kernel_rfl⟩
theorem ZcN:Ext0 Tryz.prog 160 Extern.Sync.canSpin:=⟨_,Tryz.func160,by kernel_rfl,by kernel_rfl,by kernel_rfl,by kernel_rfl⟩
theorem ZhC:Ext0 Tryz.prog 163 Extern.OsHooks.nano:=⟨_,Tryz.func163,by kernel_rfl,by kernel_rfl,by kernel_rfl,by kernel_rfl⟩
theorem ZcP:Ext0 Tryz.prog 164 Extern.Sync.semacquire:=⟨_,Tryz.func164,by kernel_rfl,by kernel_rfl,by kernel_rfl,by kernel_rfl⟩
theorem Zgu:Ext0 Tryz.prog 166 Extern.Sync.semrelease:=⟨_,Tryz.func166,by kernel_rfl,by kernel_rfl,by kernel_rfl,by kernel_rfl⟩
theorem Zgv:Ext0 Tryz.prog 147 Extern.Sync.semacquire:=⟨_,Tryz.func147,by kernel_rfl,by kernel_rfl,by kernel_rfl,by kernel_rfl⟩
theorem ZcQ:Ext0 Tryz.prog 140 Extern.Sync.semrelease:=⟨_,Tryz.func140,by kernel_rfl,by kernel_rfl,by kernel_rfl,by kernel_rfl⟩
theorem ZcL:Ext0 Tryz.prog 154 (Extern.Atomic.casT (.int .i32)):=⟨_,Tryz.func154,by kernel_rfl,by kernel_rfl,by kernel_rfl,by kernel_rfl⟩
theorem Zhz:Ext0 Tryz.prog 156 (Extern.Atomic.update (Op.intArith .add) .i32 true):=⟨_,Tryz.func156,by kernel_rfl,by kernel_rfl,by kernel_rfl,by kernel_rfl⟩
theorem ZcM:Ext0 Tryz.prog 158 (Extern.Atomic.casT (.int .u64)):=⟨_,Tryz.func158,by kernel_rfl,by kernel_rfl,by kernel_rfl,by kernel_rfl⟩
theorem ZcK:Ext0 Tryz.prog 151 (Extern.Atomic.update (Op.intArith .add) .u64 true):=⟨_,Tryz.func151,by kernel_rfl,by kernel_rfl,by kernel_rfl,by kernel_rfl⟩
theorem Z47:Ext0 Tryz.prog 152 (Extern.Atomic.loadT (.int .u64)):=⟨_,Tryz.func152,by kernel_rfl,by kernel_rfl,by kernel_rfl,by kernel_rfl⟩
theorem ZhD:Ext0 Tryz.prog 153 Extern.Atomic.storeT:=⟨_,Tryz.func153,by kernel_rfl,by kernel_rfl,by kernel_rfl,by kernel_rfl⟩
theorem xok:XOk Tryz.prog xt where
 dis:=ZhB
 en:=ZjO
 acq:=Z94
 mrg:=ZcO
 pures:=by
  intro g v h;simp only[xt,Yp,List.lookup_nil]at h
  split at h
  ·rename_i e;obtain rfl:=eq_of_beq e;cases h;exact ZeV
  ·split at h
   ·rename_i e;obtain rfl:=eq_of_beq e;cases h;exact ZhA
   ·cases h
theorem xokQ:XOk Tryz.prog xtQ:=⟨xok.dis,xok.en,xok.acq,xok.mrg,xok.pures⟩
end Ev
namespace Ev
open Go Lift
def St.pend(s:St):Option Oper:=
 if s.top.ret||s.top.kind == .early then none else match s.top.todo with
 | .inRegion ops (i::_)::_=>match ops[i]? with
  | some o=>match s.top.gd ops o with
   | some true=>some o
   | _=>none
  | none=>none
 | _=>none
def St.ext(P:Program)(s:St):Option (FuncId×List Value):=s.pend.bind (s.top.ext P)
def St.lod(s:St):Option (TypeId×Addr):=s.pend.bind λo=>match o.op with
 | .load t x=>match s.top.val x with
  | some (.pointer (some p))=>some (t,p)
  | _=>none
 | _=>none
def St.sto(s:St):Option (TypeId×Addr×Value):=s.pend.bind λo=>match o.op with
 | .store t x y=>match s.top.val x,s.top.val y with
  | some (.pointer (some p)),some v=>some (t,p,v)
  | _,_=>none
 | _=>none
def St.cal(P:Program)(s:St):Option (FuncId×Array Value):=s.pend.bind λo=>match s.top.op P o with
 | some (.enter f xs,[])=>some (f,xs)
 | _=>none
def St.ans(s:St)(v:Value):Option St:=
 match s.top.todo with
 | .inRegion ops (i::rest)::k=>(s.top.put ops i rest k v).map λa=>{s with top:=a}
 | _=>none
section
variable{P:Program}{m:Bool}{w w':World}{f:Frame}{fs cs:List Frame}{s s':St}
theorem Z0H(h:s.pend=some o): ∃ops i rest k,s.top.todo = .inRegion ops (i::rest)::k/\ops[i]?=some o/\s.top.gd ops o=some true/\s.top.ret=false/\s.top.kind ≠ .early:=by
 unfold St.pend at h
 split at h
 ·cases h
 ·rename_i hk
  simp only[Yo,not_or,Bool.not_eq_true]at hk
  split at h
  ·rename_i ops i rest k ht
   split at h
   ·rename_i o' ho
    split at h
    ·rename_i hg
     obtain rfl:=Y1 h;exact⟨ops,i,rest,k,ht,ho,hg,hk.1,λe=>by rw[e]at hk;exact absurd hk.2 (by decide)⟩
    ·cases h
   ·cases h
  ·cases h
theorem Z2t{rest:List Nat}{k:List Item}(h:SOk s.top s.rest f fs)(ht:s.top.todo = .inRegion ops (i::rest)::k){v:Value}(ha:s.ans v=some s'): SOk s'.top s'.rest (f.finish v) fs/\s'.cvs=s.cvs/\s'.mks=s.mks/\s'.deaf=s.deaf:=by
 unfold St.ans at ha;rw[ht]at ha;obtain⟨a,hp,rfl⟩:=Y3.1 ha;exact⟨⟨h.1.put ht hp,h.2⟩,rfl,rfl,rfl⟩
theorem Z34(h:SOk s.top s.rest f fs){g:FuncId}{vs:List Value}(he:s.ext P=some (g,vs)){e:Array Value->Sem Value}(hE:Ext0 P g e){v:Value}{evs:Array Event}(hrun:(e vs.toArray).run P w = .ok v w')(hev:(e vs.toArray).events P w #[⟨.mark (.extern g),false,true⟩]=#[⟨.mark (.extern g),false,true⟩]++evs)(hs:∀x∈evs,x.sync=true/\∀g,x.loc ≠ .mark (.extern g))(ha:s.ans v=some s'):
  stepG P m (run1 f (fs++cs)) w = .go (run1 (f.finish v) (fs++cs)) w' evs/\SOk s'.top s'.rest (f.finish v) fs:=by
 obtain⟨o,hp,hx⟩:=Option.bind_eq_some_iff.1 he;obtain⟨ops,i,rest,k,ht,ho,hg,hr,hk⟩:=Z0H hp;exact⟨Zaa h.1 hr ht ho hg (by rw[h.1.kind];exact hk) hx hE hrun hev hs,(Z2t h ht ha).1⟩
theorem Z1V(h:SOk s.top s.rest f fs)(hp:s.pend=some o)(hnd:∀c,o.op ≠ .defer c): stepG P m (run1 f (fs++cs)) w=stepG.apply P true f (fs++cs) none (execOp f.eval o) w:=by
 letI:Jk:={j:=False,rest:=[]};obtain⟨ops,i,rest,k,ht,ho,hg,hr,hk⟩:=Z0H hp;have hft:=h.1.todo.trans ht;rw[Z2k (by rw[h.1.mode,hr];rfl),Z29 hft,ho];simp only[Option.map_some,Option.getD_some,Zbf h.1 hg,if_true];exact Z4a hft ho (.inl h.1.round)
theorem Z8f{t:TypeId}(ha:(isAgg t).run P w = .ok false w){p:Addr}{v:Value}(hc:w.cell? p=some v): (Instr.loadAt t (.pointer (some p))).run P w = .ok v w/\(Instr.loadAt t (.pointer (some p))).events P w #[]=#[⟨.cell p,false,false⟩]:=by
 have hl:(load p .plain).run P w = .ok v w:=by simp only[load,Sem.run,hc]
 constructor
 ·simp[Instr.loadAt,Instr.sureAddr,loadVar,ha,hc]
 ·simp[Instr.loadAt,Instr.sureAddr,loadVar,ha,hl,hc]
theorem Zgx (h:SOk s.top s.rest f fs) {t:TypeId} {p:Addr} (he:s.lod=some (t,p)) (hag:(isAgg t).run P w = .ok false w) {v:Value} (hc:w.cell? p=some v) (ha:s.ans v=some s') :
    stepG P m (run1 f (fs++cs)) w = .go (run1 (f.finish v) (fs++cs)) w (seen P f.fn #[⟨.cell p,false,false⟩])/\SOk s'.top s'.rest (f.finish v) fs:=by
  letI : Jk := {j := False, rest := []};obtain⟨o, hp, hx⟩ := Option.bind_eq_some_iff.1 he;obtain⟨ops, i, rest, k, ht, ho, hg, hret, hk⟩ := Z0H hp;refine⟨?_, (Z2t h ht ha).1⟩
  split at hx
  · rename_i t' x hop
    split at hx
    · rename_i q hq
      simp only[Y4, Y9]at hx;obtain⟨rfl, rfl⟩ := hx;rw[Z1V h hp (by rw[hop]; simp)];obtain⟨r1, r2⟩ := Z8f hag hc
      have hex : execOp f.eval o = (do pure (Next.value (<- Instr.loadAt t' (.pointer (some q))))) := by
        unfold execOp;rw[hop];dsimp only;rw[h.1.val hq]
      have e1:(execOp f.eval o).run P w = .ok (.value v) w:=by rw[hex];simp[r1]
      have e2:(execOp f.eval o).events P w #[]=#[⟨.cell q,false,false⟩]:=by rw[hex];simp[r1,r2]
      rw[Z0q e1];unfold lst;have hke : (f.kind==CallKind.early)=false := by
        cases hkk:f.kind<;>first | rfl | (rw[h.1.kind]at hkk;exact absurd hkk hk)
      rw[hke, e2];simp[GStep.after]
    · cases hx
  · cases hx
theorem Z7G{t:TypeId}(ha:(sizeOf t).run P w = .ok 1 w){p:Addr}{u v:Value}(h1:v.oneCell'=true)(h2:v.cells=#[v])(hc:w.cell? p=some u)(hz:w.frozen? p=false):
  (Instr.storeAt t (.pointer (some p)) v).run P w = .ok () (w.setCell p v)/\(Instr.storeAt t (.pointer (some p)) v).events P w #[]=#[⟨.cell p,true,false⟩]:=by
 have hl:(store p v .plain).run P w = .ok () (w.setCell p v):=by rw[run_store P w p v .plain h1];simp[hc,hz]
 have hp0:p.add 0=p:=by obtain⟨b,o,s⟩:=p;rfl
 have he:=events_store P w #[] p v .plain h1;rw[hc]at he;simp only[hz]at he
 constructor
 ·simp[Instr.storeAt,Instr.sureAddr,storeVar,ha,h2,storeCells,hp0,hl]
 ·simp[Instr.storeAt,Instr.sureAddr,storeVar,ha,h2,storeCells,hp0,hl,he]
theorem ZgU(h:SOk s.top s.rest f fs){t:TypeId}{p:Addr}{v:Value}(he:s.sto=some (t,p,v))(hag:(sizeOf t).run P w = .ok 1 w)(h1:v.oneCell'=true)(h2:v.cells=#[v]){u:Value}(hc:w.cell? p=some u)(hz:w.frozen? p=false)(ha:s.ans undef=some s'):
  stepG P m (run1 f (fs++cs)) w = .go (run1 (f.finish undef) (fs++cs)) (w.setCell p v) (seen P f.fn #[⟨.cell p,true,false⟩])/\SOk s'.top s'.rest (f.finish undef) fs:=by
 letI:Jk:={j:=False,rest:=[]};obtain⟨o,hp,hx⟩:=Option.bind_eq_some_iff.1 he;obtain⟨ops,i,rest,k,ht,ho,hg,hret,hk⟩:=Z0H hp;refine⟨?_,(Z2t h ht ha).1⟩
 split at hx
 ·rename_i t' x y hop
  split at hx
  ·rename_i q z hq hy
   simp only[Y4,Y9]at hx;obtain⟨rfl,rfl,rfl⟩:=hx;rw[Z1V h hp (by rw[hop];simp)];obtain⟨r1,r2⟩:=Z7G (P:=P) hag h1 h2 hc hz
   have hex:execOp f.eval o=(do Instr.storeAt t' (.pointer (some q)) z;pure Next.skip):=by
    unfold execOp;rw[hop];dsimp only;rw[h.1.val hq,h.1.val hy]
   have e1:(execOp f.eval o).run P w = .ok .skip (w.setCell q z):=by rw[hex];simp[r1]
   have e2:(execOp f.eval o).events P w #[]=#[⟨.cell q,true,false⟩]:=by rw[hex];simp[r1,r2]
   rw[Z2P e1];unfold lst;have hke:(f.kind==CallKind.early)=false:=by
    cases hkk:f.kind<;>first | rfl | (rw[h.1.kind]at hkk;exact absurd hkk hk)
   rw[hke,e2];simp[GStep.after]
  ·cases hx
 ·cases hx
theorem Zgk(h:SOk s.top s.rest f fs){g:FuncId}{xs:Array Value}(he:s.cal P=some (g,xs)): stepG P m (run1 f (fs++cs)) w = .go (run1 (Frame.enter P g xs .normal) (f::(fs++cs))) w #[]:=by
 letI:Jk:={j:=False,rest:=[]};obtain⟨o,hp,hx⟩:=Option.bind_eq_some_iff.1 he;obtain⟨ops,i,rest,k,ht,ho,hg,hret,hk⟩:=Z0H hp
 split at hx
 ·rename_i f' ys hop
  simp only[Y4,Y9]at hx;obtain⟨rfl,rfl⟩:=hx;obtain⟨r1,r2⟩:=Zfr h.1 hop w (by simp);have hnd:∀c,o.op ≠ .defer c:=by
   intro c hc;have:=r1;unfold execOp at this;rw[hc]at this;dsimp only at this;simp only[Sem.run_bind,Sem.run_pure]at this;revert this
   cases (resolve f.eval c o.type).run P w<;>simp
  rw[Z1V h hp hnd,Z0F r1];have hk2:Z2y f = .normal:=by unfold Z2y;rw[h.1.todo.trans ht]
  unfold lst;rw[hk2,r2];simp only[ite_self,Z10,Z19]
 ·cases hx
def FA.cut(l:List Nat)(a:FA):FA:={a with env:=l.filterMap λt=>(a.env.lookup t).map λv=>(t,v)}
theorem Zcu{a:FA}(h:FOk a f)(l:List Nat):FOk (a.cut l) f:=by
 refine⟨h.fn,h.size,λt v e=>h.env t v ?_,h.todo,h.defs,h.kind,h.mode,h.round⟩;dsimp only[FA.cut]at e
 induction l with
 | nil=>cases e
 | cons x l ih =>
  rw[List.filterMap_cons]at e
  cases hx:a.env.lookup x with
  | none=>rw[hx]at e;exact ih e
  | some u =>
   rw[hx]at e;simp only[Option.map_some,Yp]at e
   split at e
   ·rename_i he
    have he:t=x:=by simpa using he
    subst he;obtain rfl:=Y1 e;exact hx
   ·exact ih e
def cuts:List (List Nat)->List FA->List FA
 | l::ls,a::az=>a.cut l::cuts ls az
 | _,az=>az
theorem Zcv:∀(ls:List (List Nat)) {az:List FA} {fs:List Frame},Lis FOk az fs->Lis FOk (cuts ls az) fs
 | [],_,_,h=>by unfold cuts;exact h
 | l::ls,_,_,.nil=>.nil
 | l::ls,_,_,.cons h t=>.cons (Zcu h l) (Zcv ls t)
def St.cut(l:List Nat)(ls:List (List Nat))(s:St):St:={top:=s.top.cut l,rest:=cuts ls s.rest,cvs:=[],mks:=[],deaf:=s.deaf}
theorem Z32(h:SOk s.top s.rest f fs)(l:List Nat)(ls:List (List Nat)):SOk (s.cut l ls).top (s.cut l ls).rest f fs:=⟨Zcu h.1 l,Zcv ls h.2⟩
end
end Ev
namespace Ev
open Go Lift
noncomputable abbrev PP:Program:=Tryz.prog
abbrev pa(N o:Nat):Value:=.pointer (some ⟨N,o,none⟩)
abbrev iw(n:Int):Value:=.int .i32 n
abbrev qw(n:Int):Value:=.int .i64 n
noncomputable def Z5Z(f:FuncId):Code:=((PP.funcs[f]?).bind (·.body)).getD .skip
def St.an(s:St)(v:Value):St:=(s.ans v).getD s
structure Wk where
 N:Nat
 W:Nat
 I:Nat
 L:Nat
 B:Nat
 D:Nat
 n:Nat
 c:Nat
 lamp:Nat
 clo:Value
def k0:Wk:=⟨0,0,0,0,0,0,1,1,0,.nilFunc⟩
noncomputable def edg(X:Xt)(s:St)(v:Value)(l:List Nat)(ls:List (List Nat)):Bool×St×List Addr×List Addr:=
 ((s.ans v).isSome,(pn PP X 200 (s.an v)).cut l ls,(pn PP X 200 (s.an v)).cvs,(pn PP X 200 (s.an v)).mks)
noncomputable def edgN(n:Nat)(X:Xt)(s:St)(v:Value)(l:List Nat)(ls:List (List Nat)):Bool×St×List Addr×List Addr:=
 ((s.ans v).isSome,(pn PP X n (s.an v)).cut l ls,(pn PP X n (s.an v)).cvs,(pn PP X n (s.an v)).mks)
noncomputable def mv(X:Xt)(s:St)(v:Value)(l:List Nat)(ls:List (List Nat)):St:=(edg X s v l ls).2.1
noncomputable def sW(k:Wk):St:={top:={fn:=113,n:=13,env:=[(0,pa k.W 0),(1,pa k.I 0),(2,pa k.L 0),(3,pa k.N 0),(4,pa k.B 0)],todo:=[.code (Z5Z 113)],defs:=[],kind:=.deferred,ret:=false},rest:=[],cvs:=[],mks:=[],deaf:=0}
noncomputable def cW1(k:Wk):St:=(pn PP xt 200 (sW k)).cut [1,2,3,4] []
noncomputable def cW2(k:Wk):St:=mv xt (cW1 k) k.clo [2,3,4,5] []
noncomputable def cW3(k:Wk):St:=((cW2 k).an (qw k.lamp)).cut [2,3,4,5,6] []
noncomputable def cL0(k:Wk):St:=mv xt (cW3 k) (.bool true) [0,5] [[],[2,3,4]]
noncomputable def cR0(k:Wk):St:=mv xt (cL0 k) (.bool false) [0,2,3,4,5,12] [[],[],[2,3,4]]
noncomputable def slow(k:Wk)(td:List Item)(env:List (Nat×Value)):St:={(cR0 k) with top:={(cR0 k).top with todo:=td,env:=env}}
noncomputable def sSp:St:=pn PP xt 200 ((cR0 k0).an (iw 9))
noncomputable def sC1:St:=pn PP xt 200 (sSp.an (.bool true))
noncomputable def sR1:St:=pn PP xt 200 (sC1.an (.bool false))
noncomputable def sC2:St:=pn PP xt 200 ((cR0 k0).an (iw 1))
noncomputable def sC2b:St:=pn PP xt 200 (sC2.an (.bool false))
noncomputable def sR3:St:=pn PP xt 200 (sC2b.an (.bool false))
noncomputable def sT1:St:=pn PP xt 200 (sC2b.an (.bool true))
noncomputable def sS1:St:=pn PP xt 200 (sT1.an (qw 1))
noncomputable def sT2:St:=pn PP xt 200 (sS1.an (.tuple #[]))
noncomputable def sR2:St:=pn PP xt 200 (sT2.an (qw 3000000))
noncomputable def sA1:St:=pn PP xt 200 (sR2.an (iw 12))
noncomputable def cSp(k:Wk)(old:Int)(aw sv:Bool)(it wst:Int):St:=slow k sSp.top.todo [(0,pa k.N 0),(2,qw wst),(3,.bool sv),(4,.bool aw),(5,qw it),(6,iw old),(17,.bool true),(18,qw it)]
noncomputable def cC1(k:Wk)(it wst:Int):St:=slow k sC1.top.todo [(0,pa k.N 0),(2,qw wst),(3,.bool false),(4,.bool false),(5,qw it),(33,.bool true),(36,pa k.N 0),(37,iw 9),(39,iw 11)]
noncomputable def cR1(k:Wk)(aw sv:Bool)(it wst:Int):St:=slow k sR1.top.todo [(0,pa k.N 0),(2,qw wst),(3,.bool sv),(4,.bool aw),(5,qw it),(47,pa k.N 0)]
noncomputable def cC2(k:Wk)(old nw:Int)(aw sv:Bool)(it wst:Int):St:=slow k sC2b.top.todo [(0,pa k.N 0),(2,qw wst),(3,.bool sv),(4,.bool aw),(5,qw it),(6,iw old),(77,pa k.N 0),(78,iw old),(79,iw nw)]
noncomputable def cR3(k:Wk)(aw sv:Bool)(it wst:Int):St:=slow k sR3.top.todo [(0,pa k.N 0),(2,qw wst),(3,.bool sv),(4,.bool aw),(5,qw it),(133,pa k.N 0)]
noncomputable def cT1(k:Wk)(sv:Bool)(q:Value):St:=slow k sT1.top.todo [(0,pa k.N 0),(3,.bool sv),(8,q)]
noncomputable def cS1(k:Wk)(sv:Bool)(wst:Int)(q:Value):St:=slow k sS1.top.todo [(0,pa k.N 0),(2,qw wst),(3,.bool sv),(91,pa k.N 1),(92,q)]
noncomputable def cT2(k:Wk)(wst:Int):St:=slow k sT2.top.todo [(0,pa k.N 0),(2,qw wst),(95,.bool false)]
noncomputable def cR2(k:Wk)(sv:Bool)(wst:Int):St:=slow k sR2.top.todo [(0,pa k.N 0),(2,qw wst),(3,.bool sv),(103,pa k.N 0)]
noncomputable def cA1(k:Wk)(d:Int):St:=slow k sA1.top.todo [(0,pa k.N 0),(128,pa k.N 0),(129,iw d)]
noncomputable def tdQ:List Item:=(pn PP xt 23 (sC2b.an (.bool true))).top.todo
noncomputable def cQ(k:Wk)(sv:Bool)(wst:Int)(q:Value)(b:Bool):St:=slow k tdQ [(0,pa k.N 0),(2,qw wst),(3,.bool sv),(8,q),(87,.bool b)]
noncomputable def cIn(k:Wk):St:=mv xt (cL0 k) (.bool true) [2,3,4] []
noncomputable def cI2(k:Wk):St:=mv xt (cIn k) (.slice (some ⟨k.D,0,none⟩) k.n k.c) [2,3,9] []
noncomputable def ZlU(k:Wk)(env:List (Nat×Value)):St:={(cI2 k) with top:={(cI2 k).top with env:=env,todo:=(pn PP xt 200 ((cI2 k0).an (qw 0))).top.todo}}
noncomputable def cSt(k:Wk):St:=ZlU k [(3,pa k.N 0),(11,pa k.D k.lamp)]
noncomputable def cUl(k:Wk):St:=mv xt (cSt k) undef [0,5] [[],[]]
noncomputable def cU0(k:Wk):St:=mv xt (cUl k) (iw 0) [0,13] [[],[]]
noncomputable def unl(k:Wk):List FA:=(cuts [[],[],[]] (pn PP xt 200 ((cU0 k).an (iw 8))).rest)
noncomputable def sUc:St:=pn PP xt 200 ((cU0 k0).an (iw 8))
noncomputable def sUr:St:=pn PP xt 200 (sUc.an (.bool false))
noncomputable def sUs:St:=pn PP xt 200 (sUc.an (.bool true))
noncomputable def sUt:St:=pn PP xt 200 ((cU0 k0).an (iw 12))
noncomputable def cUc(k:Wk)(old:Int):St:={sUc with top:={sUc.top with env:=[(0,pa k.N 0),(27,pa k.N 0),(28,iw old),(29,iw (if old=8 then 2 else 10))]},rest:=unl k,cvs:=[],mks:=[]}
noncomputable def cUr(k:Wk):St:={sUr with top:={sUr.top with env:=[(0,pa k.N 0),(37,pa k.N 0)]},rest:=unl k,cvs:=[],mks:=[]}
noncomputable def cUs(k:Wk):St:={sUs with top:={sUs.top with env:=[(33,pa k.N 1)]},rest:=unl k,cvs:=[],mks:=[]}
noncomputable def cUt(k:Wk):St:={sUt with top:={sUt.top with env:=[(41,pa k.N 1)]},rest:=unl k,cvs:=[],mks:=[]}
noncomputable def cWr(k:Wk):St:=mv xtQ (cW3 k) (.bool false) [0,1,12] [[],[]]
noncomputable def cD1(k:Wk):St:=mv xtQ (cWr k) (.tuple #[]) [7,8] [[0,1,4],[],[]]
noncomputable def cD2(k:Wk):St:=mv xtQ (cD1 k) (.int .u64 1) [5] [[0,1,4,6,8],[],[]]
noncomputable def cD3(k:Wk):St:=mv xtQ (cD2 k) (.int .u64 1) [6,7] [[0,4,8],[],[]]
noncomputable def cD4(k:Wk):St:=mv xtQ (cD3 k) (.tuple #[]) [8,115] [[],[]]
noncomputable def cZ(k:Wk):St:=mv xtQ (cD1 k) (.int .u64 4294967296) [] []
theorem ZeP(k:Wk)(sv:Bool)(wst:Int)(q:Value):((pn PP xt 200 (cQ k sv wst q true)).cut [0,3,8] [[],[],[2,3,4]],(pn PP xt 200 (cQ k sv wst q true)).cvs,(pn PP xt 200 (cQ k sv wst q true)).mks)=(cT1 k sv q,[],[]):=by kernel_rfl
theorem ZcG(k:Wk)(sv:Bool)(wst:Int)(q:Value):((pn PP xt 200 (cQ k sv wst q false)).cut [0,2,3,91,92] [[],[],[2,3,4]],(pn PP xt 200 (cQ k sv wst q false)).cvs,(pn PP xt 200 (cQ k sv wst q false)).mks)=(cS1 k sv wst q,[],[]):=by kernel_rfl
theorem e_in(k:Wk):edg xt (cIn k) (.slice (some ⟨k.D,0,none⟩) k.n k.c) [2,3,9] []=(true,cI2 k,[],[]):=by kernel_rfl
theorem e_st(k:Wk):edg xt (cSt k) undef [0,5] [[],[]]=(true,cUl k,[],[]):=by kernel_rfl
theorem e_ul(k:Wk)(z:Int):edg xt (cUl k) (iw z) [0,13] [[],[]]=(true,cU0 k,[⟨k.N,0,none⟩],[⟨k.N,0,none⟩]):=by kernel_rfl
section
variable(k:Wk)
theorem e_w0:edg xtQ (cW3 k) (.bool false) [0,1,12] [[],[]]=(true,cWr k,[⟨k.W,0,none⟩],[]):=by kernel_rfl
theorem e_w1:edg xt (cW3 k) (.bool true) [0,5] [[],[2,3,4]]=(true,cL0 k,[],[]):=by kernel_rfl
theorem e_wr:edg xtQ (cWr k) (.tuple #[]) [7,8] [[0,1,4],[],[]]=(true,cD1 k,[],[]):=by kernel_rfl
theorem Zgq:edg xtQ (cD1 k) (.int .u64 0) [] []=(true,cZ k,[],[]):=by kernel_rfl
theorem Zgr:edg xtQ (cD1 k) (.int .u64 4294967296) [] []=(true,cZ k,[],[]):=by kernel_rfl
theorem Zgs:edg xtQ (cD1 k) (.int .u64 8589934592) [] []=(true,cZ k,[],[]):=by kernel_rfl
theorem ZcE:edg xtQ (cD1 k) (.int .u64 4294967297) [] []=(true,cZ k,[],[]):=by kernel_rfl
theorem ZcF:edg xtQ (cD1 k) (.int .u64 8589934593) [] []=(true,cZ k,[],[]):=by kernel_rfl
theorem ZcD:edg xtQ (cD1 k) (.int .u64 1) [5] [[0,1,4,6,8],[],[]]=(true,cD2 k,[],[]):=by kernel_rfl
theorem e_d2:edg xtQ (cD2 k) (.int .u64 1) [6,7] [[0,4,8],[],[]]=(true,cD3 k,[],[]):=by kernel_rfl
theorem e_d3:edg xtQ (cD3 k) (.tuple #[]) [8,115] [[],[]]=(true,cD4 k,[],[]):=by kernel_rfl
theorem e_d4:edg xtQ (cD4 k) (.tuple #[]) [] []=(true,cZ k,[],[]):=by kernel_rfl
end
end Ev
namespace Ev
open Go Lift
def sqL:Code->Code | .seq x _=>x | c=>c
def sqR:Code->Code | .seq _ y=>y | c=>c
noncomputable def cBlk:Code:=sqR (sqL (sqR (sqR (sqR (sqR (Z5Z 66))))))
noncomputable def Z6J:Code:=sqR (sqR (sqR (sqR (sqR (Z5Z 66)))))
def T0:Nat->Value:=λ_=>undef
def A42:List Nat:=[0,1,2,3,4,5,6,7,8,9,10,11,12,13,14,15,16,17,18,19,20,21,22,23,24,25,26,27,28,29,30,31,32,33,34,35,36,37,38,39,40,41]
noncomputable def edm(m:Nat)(X:Xt)(s:St)(ls:List (List Nat)):St×List Addr×List Addr:=((pn PP X m s).cut A42 ls,(pn PP X m s).cvs,(pn PP X m s).mks)
noncomputable def und(k:Wk)(td:List Item)(env:List (Nat×Value)):St:={top:={fn:=66,n:=42,env:=env,todo:=td,defs:=[],kind:=.normal,ret:=false},rest:=[],cvs:=[],mks:=[],deaf:=0}
noncomputable def sM(k:Wk)(T:Nat->Value)(n:Int):St:=und k [.code cBlk,.code Z6J] [(0,T 0),(1,T 1),(2,T 2),(3,pa k.I 0),(4,T 4),(5,pa k.W 0),(6,pa k.N 0),(7,pa k.B 0),(8,T 8),(9,T 9),(10,T 10),(11,T 11),(12,T 12),(13,T 13),(14,T 14),(15,T 15),(16,T 16),(17,T 17),(18,T 18),(19,T 19),(20,qw n),(21,qw 0),(22,T 22),(23,T 23),(24,T 24),(25,T 25),(26,T 26),(27,T 27),(28,T 28),(29,T 29),(30,T 30),(31,T 31),(32,T 32),(33,T 33),(34,T 34),(35,T 35),(36,T 36),(37,T 37),(38,T 38),(39,T 39),(40,T 40),(41,T 41)]
noncomputable def tdMc:List Item:=(pn PP xtQ 7 (sM k0 T0 1)).top.todo
noncomputable def cMc(k:Wk)(T:Nat->Value)(n i:Int)(b:Bool)(x:Value)(u:Nat->Value):St:=und k tdMc [(0,T 0),(1,T 1),(2,T 2),(3,pa k.I 0),(4,T 4),(5,pa k.W 0),(6,pa k.N 0),(7,pa k.B 0),(8,x),(9,T 9),(10,T 10),(11,T 11),(12,T 12),(13,T 13),(14,T 14),(15,T 15),(16,T 16),(17,T 17),(18,T 18),(19,T 19),(20,qw n),(21,qw i),(22,.bool b),(23,u 23),(24,u 24),(25,u 25),(26,u 26),(27,T 27),(28,T 28),(29,T 29),(30,T 30),(31,T 31),(32,T 32),(33,T 33),(34,T 34),(35,T 35),(36,T 36),(37,T 37),(38,T 38),(39,T 39),(40,T 40),(41,T 41)]
noncomputable def tdMa:List Item:=(pn PP xtQ 200 (cMc k0 T0 1 0 true undef T0)).top.todo
noncomputable def cMa(k:Wk)(T:Nat->Value)(n i:Int)(x:Value)(u:Nat->Value):St:=und k tdMa [(0,T 0),(1,T 1),(2,T 2),(3,pa k.I 0),(4,T 4),(5,pa k.W 0),(6,pa k.N 0),(7,pa k.B 0),(8,x),(9,T 9),(10,T 10),(11,T 11),(12,T 12),(13,T 13),(14,T 14),(15,T 15),(16,T 16),(17,T 17),(18,T 18),(19,T 19),(20,qw n),(21,qw i),(22,.bool true),(23,qw i),(24,u 24),(25,u 25),(26,u 26),(27,T 27),(28,T 28),(29,T 29),(30,T 30),(31,T 31),(32,T 32),(33,T 33),(34,T 34),(35,T 35),(36,T 36),(37,T 37),(38,T 38),(39,T 39),(40,T 40),(41,T 41)]
noncomputable def tdMs:List Item:=(((cMa k0 T0 1 0 undef T0).an (pa 0 0))).top.todo
noncomputable def cMs(k:Wk)(T:Nat->Value)(n i:Int)(L:Nat)(u:Nat->Value):St:=und k tdMs [(0,T 0),(1,T 1),(2,T 2),(3,pa k.I 0),(4,T 4),(5,pa k.W 0),(6,pa k.N 0),(7,pa k.B 0),(8,pa L 0),(9,T 9),(10,T 10),(11,T 11),(12,T 12),(13,T 13),(14,T 14),(15,T 15),(16,T 16),(17,T 17),(18,T 18),(19,T 19),(20,qw n),(21,qw i),(22,.bool true),(23,qw i),(24,u 24),(25,u 25),(26,u 26),(27,T 27),(28,T 28),(29,T 29),(30,T 30),(31,T 31),(32,T 32),(33,T 33),(34,T 34),(35,T 35),(36,T 36),(37,T 37),(38,T 38),(39,T 39),(40,T 40),(41,T 41)]
noncomputable def mvm(X:Xt)(s:St)(v:Value)(l:List Nat)(ls:List (List Nat)):St:=(edg X s v l ls).2.1
noncomputable def cMd(k:Wk)(T:Nat->Value)(n i:Int)(L:Nat)(u:Nat->Value):St:=mvm xtQ (cMs k T n i L u) undef [7,8] [[0,1,4],A42]
noncomputable def cMr(k:Wk)(T:Nat->Value)(n i:Int)(L:Nat)(u:Nat->Value):St:=mvm xtQ (cMd k T n i L u) (.int .u64 4294967296) [0,1,4,6,7,8,71] [A42]
noncomputable def tdMg:List Item:=(pn PP xtQ 200 ((cMd k0 T0 1 0 0 T0).an (.int .u64 (8589934592)))).top.todo
noncomputable def cMg(k:Wk)(T:Nat->Value)(n i:Int)(L:Nat)(u:Nat->Value):St:=und k tdMg [(0,T 0),(1,T 1),(2,T 2),(3,pa k.I 0),(4,T 4),(5,pa k.W 0),(6,pa k.N 0),(7,pa k.B 0),(8,pa L 0),(9,T 9),(10,T 10),(11,T 11),(12,T 12),(13,T 13),(14,T 14),(15,T 15),(16,T 16),(17,T 17),(18,T 18),(19,T 19),(20,qw n),(21,qw i),(22,.bool true),(23,qw i),(24,.tuple #[]),(25,(.func (.func 113) #[] #[pa k.W 0,pa k.I 0,pa L 0,pa k.N 0,pa k.B 0])),(26,u 26),(27,T 27),(28,T 28),(29,T 29),(30,T 30),(31,T 31),(32,T 32),(33,T 33),(34,T 34),(35,T 35),(36,T 36),(37,T 37),(38,T 38),(39,T 39),(40,T 40),(41,T 41)]
noncomputable def cMw1(k:Wk)(T:Nat->Value)(n i:Int)(x:Value)(u:Nat->Value):St:={(pn PP xtQ 200 (cMc k T n i false x u)).cut [5] [[0],A42] with cvs:=[]}
noncomputable def cMw2(k:Wk)(T:Nat->Value)(n i:Int)(x:Value)(v:Int)(u:Nat->Value):St:=mvm xtQ (cMw1 k T n i x u) (.int .u64 v) [9,10,11] [[0,2,4],A42]
noncomputable def cMq(k:Wk)(T:Nat->Value)(n i:Int)(x:Value)(u:Nat->Value):St:=mvm xtQ (cMw1 k T n i x u) (.int .u64 0) [0,2,4,22] [A42]
noncomputable def cMx(k:Wk)(T:Nat->Value)(n i:Int)(x:Value)(v:Int)(u:Nat->Value):St:=mvm xtQ (cMw2 k T n i x v u) (.bool true) [0,2,56] [A42]
noncomputable def cMw3(k:Wk)(T:Nat->Value)(n i:Int)(x:Value)(u:Nat->Value):St:={(mvm xtQ (cMx k T n i x 4294967296 u) (.tuple #[]) [0,70,71] [A42]) with cvs:=[]}
noncomputable def cMw4(k:Wk)(T:Nat->Value)(n i:Int)(x:Value)(u:Nat->Value):St:=mvm xtQ (cMw3 k T n i x u) (.tuple #[]) [5] [[0],A42]
noncomputable def cMy(k:Wk)(T:Nat->Value)(n i:Int)(x:Value)(u:Nat->Value):St:=mvm xtQ (cMw4 k T n i x u) (.int .u64 0) [6,80] [A42]
noncomputable def tdMf:List Item:=(pn PP xtQ 200 ((cMq k0 T0 1 0 undef T0).an (.tuple #[]))).top.todo
noncomputable def cMf(k:Wk)(T:Nat->Value)(n i:Int)(x:Value)(u:Nat->Value):St:=und k tdMf [(0,T 0),(1,T 1),(2,T 2),(3,pa k.I 0),(4,T 4),(5,pa k.W 0),(6,pa k.N 0),(7,pa k.B 0),(8,x),(9,.slice none 0 0),(10,T 10),(11,T 11),(12,T 12),(13,T 13),(14,T 14),(15,T 15),(16,T 16),(17,T 17),(18,T 18),(19,T 19),(20,qw n),(21,qw i),(22,.bool false),(23,u 23),(24,u 24),(25,u 25),(26,u 26),(27,.tuple #[]),(28,T 28),(29,T 29),(30,T 30),(31,T 31),(32,T 32),(33,T 33),(34,T 34),(35,T 35),(36,T 36),(37,T 37),(38,T 38),(39,T 39),(40,T 40),(41,T 41)]
theorem ZhZ(k:Wk)(T:Nat->Value)(n:Int):edm 7 xtQ (sM k T n) []=(cMc k T n 0 (decide (0<n)) (T 8) T,[],[]):=by kernel_rfl
theorem Zk7(k:Wk)(T:Nat->Value)(n i:Int)(x:Value)(u:Nat->Value):edm 200 xtQ (cMc k T n i true x u) []=(cMa k T n i x u,[],[]):=by kernel_rfl
theorem ZlB(k:Wk)(T:Nat->Value)(n i:Int)(x:Value)(L:Nat)(u:Nat->Value):((cMa k T n i x u).ans (pa L 0))=some ((cMa k T n i x u).an (pa L 0))/\((cMa k T n i x u).an (pa L 0)).cut A42 []=cMs k T n i L u:=⟨by kernel_rfl,by kernel_rfl⟩
section
variable(k:Wk)(T:Nat->Value)(n i:Int)(L:Nat)(u:Nat->Value)
theorem Zk6:edg xtQ (cMs k T n i L u) undef [7,8] [[0,1,4],A42]=(true,cMd k T n i L u,[],[]):=by kernel_rfl
theorem ZgB:edg xtQ (cMd k T n i L u) (.int .u64 4294967296) [0,1,4,6,7,8,71] [A42]=(true,cMr k T n i L u,[⟨k.W,1,none⟩],[]):=by kernel_rfl
theorem ZgC:edg xtQ (cMd k T n i L u) (.int .u64 (8589934592)) A42 []=(true,cMg k T n i L u,[],[]):=by kernel_rfl
theorem ZgD:edg xtQ (cMd k T n i L u) (.int .u64 (12884901888)) A42 []=(true,cMg k T n i L u,[],[]):=by kernel_rfl
theorem ZgE:edg xtQ (cMr k T n i L u) (.tuple #[]) A42 []=(true,cMg k T n i L u,[],[]):=by kernel_rfl
theorem m_go:edgN 12 xtQ (cMg k T n i L u) undef A42 []=(true,cMc k T n (IntKind.i64.wrap (i+1)) (decide (IntKind.i64.wrap (i+1)<n)) (pa L 0) (λj=>if j=23 then qw i else if j=24 then .tuple #[] else if j=25 then(.func (.func 113) #[] #[pa k.W 0,pa k.I 0,pa L 0,pa k.N 0,pa k.B 0]) else qw (IntKind.i64.wrap (i+1))),[],[]):=by kernel_rfl
end
section
variable(k:Wk)(T:Nat->Value)(n i:Int)(x:Value)(u:Nat->Value)
theorem Zkb:((pn PP xtQ 200 (cMc k T n i false x u)).cut [5] [[0],A42],(pn PP xtQ 200 (cMc k T n i false x u)).cvs,(pn PP xtQ 200 (cMc k T n i false x u)).mks)=(cMw1 k T n i x u,[],[]):=by kernel_rfl
theorem ZgF:edg xtQ (cMw1 k T n i x u) (.int .u64 0) [0,2,4,22] [A42]=(true,cMq k T n i x u,[⟨k.W,0,none⟩],[]):=by kernel_rfl
theorem ZgG:edg xtQ (cMw1 k T n i x u) (.int .u64 4294967296) [9,10,11] [[0,2,4],A42]=(true,cMw2 k T n i x 4294967296 u,[],[]):=by kernel_rfl
theorem ZgH:edg xtQ (cMw1 k T n i x u) (.int .u64 8589934592) [9,10,11] [[0,2,4],A42]=(true,cMw2 k T n i x 8589934592 u,[],[]):=by kernel_rfl
theorem ZgI:edg xtQ (cMw1 k T n i x u) (.int .u64 12884901888) [9,10,11] [[0,2,4],A42]=(true,cMw2 k T n i x 12884901888 u,[],[]):=by kernel_rfl
theorem Zi0:edg xtQ (cMw2 k T n i x 4294967296 u) (.bool false) [5] [[0],A42]=(true,cMw1 k T n i x u,[],[]):=by kernel_rfl
theorem Zi1:edg xtQ (cMw2 k T n i x 8589934592 u) (.bool false) [5] [[0],A42]=(true,cMw1 k T n i x u,[],[]):=by kernel_rfl
theorem Zi2:edg xtQ (cMw2 k T n i x 12884901888 u) (.bool false) [5] [[0],A42]=(true,cMw1 k T n i x u,[],[]):=by kernel_rfl
theorem Zk8:edg xtQ (cMw2 k T n i x 4294967296 u) (.bool true) [0,2,56] [A42]=(true,cMx k T n i x 4294967296 u,[⟨k.W,1,none⟩],[]):=by kernel_rfl
theorem Zk9:edg xtQ (cMw2 k T n i x 8589934592 u) (.bool true) [0,2,56] [A42]=(true,cMx k T n i x 8589934592 u,[⟨k.W,1,none⟩],[]):=by kernel_rfl
theorem Zka:edg xtQ (cMw2 k T n i x 12884901888 u) (.bool true) [0,2,56] [A42]=(true,cMx k T n i x 12884901888 u,[⟨k.W,1,none⟩],[]):=by kernel_rfl
theorem ZlC:edg xtQ (cMx k T n i x 4294967296 u) (.tuple #[]) [0,70,71] [A42]=(true,cMw3 k T n i x u,[],[]):=by kernel_rfl
theorem ZlD:edg xtQ (cMx k T n i x 8589934592 u) (.tuple #[]) [0,70,71] [A42]=(true,cMw3 k T n i x u,[],[]):=by kernel_rfl
theorem ZlE:edg xtQ (cMx k T n i x 12884901888 u) (.tuple #[]) [0,70,71] [A42]=(true,cMw3 k T n i x u,[],[]):=by kernel_rfl
theorem m_w3:edg xtQ (cMw3 k T n i x u) (.tuple #[]) [5] [[0],A42]=(true,cMw4 k T n i x u,[],[]):=by kernel_rfl
theorem m_w4:edg xtQ (cMw4 k T n i x u) (.int .u64 0) [6,80] [A42]=(true,cMy k T n i x u,[⟨k.W,0,none⟩],[]):=by kernel_rfl
theorem m_q:edg xtQ (cMq k T n i x u) (.tuple #[]) A42 []=(true,cMf k T n i x u,[],[]):=by kernel_rfl
theorem m_y:edg xtQ (cMy k T n i x u) (.tuple #[]) A42 []=(true,cMf k T n i x u,[],[]):=by kernel_rfl
end
end Ev
section
open Go.RowKit Ev
variable{μ:Nat}
def Vm.val(x:Vm):Value:=.agg #[.int .i64 x.B,.slice x.da x.D.length x.dc,.slice x.la x.L.length x.lc,.int .i64 x.tol]
def pt(n:Nat):Value:=.pointer (some ⟨n,0,none⟩)
structure UnA(x:Vm)(cf:FuncId)(ys:Array Value)(w:World)(b f:Frame)(w':World):Prop where
 ex:∃(a:Act) (n3 n5 n6 n7 n16:Nat),f=b.at a [.code (.refuse ""),.code (.refuse "")] /\
  Has 42 [] a [(0,x.val),(1,.func (.func cf) #[] ys),(3,pt n3),(5,pt n5),(6,pt n6),(7,pt n7),(20,.int .i64 ((x.L.length:Nat):Int)),(21,.int .i64 0)] /\
  w'.heap[n3]?=some (.cells #[.func (.func cf) #[] ys] 92 (0,0))/\w'.heap[n5]?=some (.cells #[.int .u64 0,.int .u32 0] 146 (0,0))/\w'.heap[n6]?=some (.cells #[.int .i32 0,.int .u32 0] 150 (0,0)) /\
  w'.heap[n7]?=some (.cells #[.slice (some ⟨n16,0,none⟩) x.L.length x.L.length] 151 (0,0))/\w'.heap[n16]?=some (.cells (List.replicate x.L.length (Value.bool false)).toArray 4 (0,0)) /\
  w.heap.size<=n3/\n3<n5/\n5<n6/\n6<n16/\n16<n7/\Ext [] w w'
theorem ZdC{w:World}{base:Nat}{e:TypeId}{g: Nat}{xs:List Value}(h:w.ownsRow base e 1 (.slice (some ⟨g,0,none⟩) n n) n xs): w.heap[g]?=some (.cells xs.toArray e (0,0)):=by
 obtain⟨h1,h2 | ⟨g',cap,cur,h3,h4,h5,h6,h7,h8,h9⟩⟩:=h
 ·cases h2.1
 ·simp only[Value.slice.injEq,Y4,Addr.mk.injEq]at h3
  obtain⟨⟨rfl,_⟩,_,rfl⟩:=h3;rw[h5];have:cur=xs.toArray:=by
   apply Array.ext';rw[<-h9,List.take_of_length_le (by rw[Array.length_toList,h8];exact Ye _)]
  rw[this]
noncomputable def uB:Code:=Tryz.f66.body.getD .skip
noncomputable def cPre:Code:=.seq (sqL uB) (.seq (sqL (sqR uB)) (.seq (sqL (sqR (sqR uB))) (.seq (sqL (sqR (sqR (sqR uB)))) (.seq (.seq (sqL (sqL (sqR (sqR (sqR (sqR uB)))))) (.refuse "")) (.refuse "")))))
theorem ZkU(x:Vm)(hx:x.L.length<=3)(cf:FuncId)(ys:Array Value)(w:World)(fb:Frame)(fa:Act)(F:Has 42 [] fa [(0,x.val),(1,.func (.func cf) #[] ys)]):ToZ (Qy.prog 2) [Lift.poison] (UnA x cf ys w fb) (fb.at fa [.code cPre]) w:=by
 have E:Ext [] w w:=Ext.refl _ _;unfold Vm.val at F;refine Z1r ?_;refine Z3o ?_;refine Yg ?_;refine sqN F (Z1B rfl (F.at rfl)) λfa w1 F hw=>?_;obtain⟨n2,hn⟩:=eQ w.heap.size;rw[<-hn]at F;have s2:=sQ hn;have l2_E:=lQ hn E.size;replace E:=Z2 E hw;have q2:=Zf hw hn;clear hw hn;refine sqN F (Z1B rfl (F.at rfl)) λfa w2 F hw=>?_;obtain⟨n3,hn⟩:=eQ w1.heap.size;rw[<-hn]at F;have s3:=sQ hn;have l3_E:=lQ hn E.size;have m3_2:=tQ hn (Z3 q2);replace q2:=Z0 hw q2;replace E:=Z2 E hw;have q3:=Z09 hw rfl hn;clear hw hn;refine F.vl (ZC rfl (ev_c fa _)) λfa F=>?_;refine wpList_nil ?_;refine .inl ⟨rfl,?_⟩;refine Z1r ?_;refine Z3o ?_;refine Yg ?_;refine sqN F (Ze rfl Qy.zeroValue146) λfa w3 F hw=>?_;obtain⟨n5,hn⟩:=eQ w2.heap.size;rw[<-hn]at F;have s5:=sQ hn;have l5_E:=lQ hn E.size;have m5_2:=tQ hn (Z3 q2);have m5_3:=tQ hn (Z3 q3);replace q2:=Z0 hw q2;replace q3:=Z0 hw q3;replace E:=Z2 E hw;have q5:=Zf hw hn;clear hw hn;refine wpList_nil ?_;refine .inl ⟨rfl,?_⟩;refine Z1r ?_;refine Z3o ?_;refine Yg ?_;refine sqN F (Ze rfl Qy.zeroValue150) λfa w4 F hw=>?_;obtain⟨n6,hn⟩:=eQ w3.heap.size;rw[<-hn]at F;have s6:=sQ hn;have l6_E:=lQ hn E.size;have m6_2:=tQ hn (Z3 q2);have m6_3:=tQ hn (Z3 q3);have m6_5:=tQ hn (Z3 q5);replace q2:=Z0 hw q2;replace q3:=Z0 hw q3;replace q5:=Z0 hw q5;replace E:=Z2 E hw;have q6:=Zf hw hn;clear hw hn;refine wpList_nil ?_;refine .inl ⟨rfl,?_⟩;refine Z1r ?_;refine Z3o ?_;refine Yg ?_;refine F.vl (ZO rfl (F.at rfl) Qy.underlying85 rfl (n:=0) (sz:=4) rfl (by kernel_rfl) (by decide)) λfa F=>?_;refine F.vl (ZO rfl (F.at rfl) Qy.underlying27 rfl (n:=2) (sz:=1) rfl (by kernel_rfl) (by decide)) λfa F=>?_;refine F.vl (ZH rfl (F.at rfl) Qy.underlying25 rfl ((Z1 q2 2).trans (getS (getS (get0))))) λfa F=>?_;refine F.vl (Z3r rfl rfl (F.at rfl) Qy.underlying25) λfa F=>?_;have hzE:=E.size;have hz6:=Z3 q6;refine ZK F rfl (by decide) rfl (Z4Q rfl (w.heap.size) (e:=4) (bytes:=1) (z:=.bool false) Qy.underlying151 (by kernel_rfl) rfl (F.at rfl) (F.at rfl) (n:=x.L.length) (by omega) (by decide) (by omega)) ?_;clear F fa;rintro fa v' w5 F ⟨oo,hg,rfl⟩;obtain⟨n16,hn⟩:=eQ w4.heap.size;rw[<-hn]at F oo;have s16:=sQ hn;replace q2:=Z2x hg q2;replace q3:=Z2x hg q3;replace q5:=Z2x hg q5;replace q6:=Z2x hg q6;replace E:=Z77 E hg;clear hg hn;have hz16:=Z3 (ZdC oo);refine sqN F (Ze rfl Qy.zeroValue151) λfa w6 F hw=>?_;obtain⟨n7,hn⟩:=eQ w5.heap.size;rw[<-hn]at F;have s7:=sQ hn;have l7_E:=lQ hn E.size;have m7_2:=tQ hn (Z3 q2);have m7_3:=tQ hn (Z3 q3);have m7_5:=tQ hn (Z3 q5);have m7_6:=tQ hn (Z3 q6);have o7_oo:=Lib.hid (Z0u oo hn);replace oo:=Z0d hw oo;replace q2:=Z0 hw q2;replace q3:=Z0 hw q3;replace q5:=Z0 hw q5;replace q6:=Z0 hw q6;replace E:=Z2 E hw;have q7:=Z09 hw rfl hn;clear hw hn;refine Z0T rfl rfl (Z05 rfl (F.at rfl) (F.at rfl) rfl (by kernel_rfl) ((Z1 q7 0).trans (get0)) (Zd q7 0)) ?_;intro w7 hw;replace oo:=Z17 hw oo (Z0a oo q7 (by decide));replace q2:=kce hw q2;replace q3:=kce hw q3;replace q5:=kce hw q5;replace q6:=kce hw q6;replace q7:=ZG hw q7 (by simp only[List.setIfInBounds_toArray,lsQ,lzQ];exact rfl);replace E:=ece E hw;clear hw;refine wpList_nil ?_;refine .inl ⟨rfl,?_⟩;refine Z1r ?_;refine Z1r ?_;refine Z3o ?_;refine Yg ?_;refine F.vl (ZO rfl (F.at rfl) Qy.underlying85 rfl (n:=0) (sz:=4) rfl (by kernel_rfl) (by decide)) λfa F=>?_;refine F.vl (ZO rfl (F.at rfl) Qy.underlying27 rfl (n:=2) (sz:=1) rfl (by kernel_rfl) (by decide)) λfa F=>?_;refine F.vl (ZH rfl (F.at rfl) Qy.underlying25 rfl ((Z1 q2 2).trans (getS (getS (get0))))) λfa F=>?_;refine F.vl (Z3r rfl rfl (F.at rfl) Qy.underlying25) λfa F=>?_;refine F.vl (Z0E rfl (ev_c fa _)) λfa F=>?_;refine wpList_nil ?_;refine .inl ⟨rfl,?_⟩;exact ToZ.here ⟨fa,n3,n5,n6,n7,n16,rfl,F.sub (.c 0 rfl (.c 1 rfl (.c 3 rfl (.c 5 rfl (.c 6 rfl (.c 7 rfl (.c 20 rfl (.c 21 rfl .n)))))))),q3,q5,q6,q7,ZdC oo,by omega,by omega,by omega,by omega,by omega,E⟩
end
section
open Go.RowKit
variable{μ:Nat}
theorem Z02{w:World}{base c: Nat}{a:Option Addr}{xs:List Int}(h:w.ownsRow base 3 1 (.slice a n c) n (ivs xs))(hn:n=xs.length)(X:List Nat)(hX:∀b∈X,b<base): SlAt X w a 1 xs.length (λi=>[.int .i64 (xs.getD i 0)]):=by
 rw[Z1w]at h;exact Z1z h hn (λ_=>rfl) X hX 0
theorem Z2a(xs:List Int):(ivs xs).length=xs.length:=by simp[ivs]
theorem Z2b(xs:List Int)(i:Nat)(v:Int):(ivs xs).set i (.int .i64 v)=ivs (xs.set i v):=by simp[ivs,List.map_set]
def TubS(f:Nat->Int):Prop:=∀k,k<4->0<=f k/\f k<=6
theorem TubS.ok(h:TubS f): Zjj f:=λk hk=>by have:=h k hk;omega
def tonE(x:Vm)(f:Nat->Int)(j d:Nat):Int:=sumQ (λd=>f d*val (x.dye d) j) d
def sumR(x:Vm)(f:Nat->Int)(bn d i:Nat):List Int:=(List.range bn).map λj=>tonE x f j (if j<i then d+1 else d)
def sumL(x:Vm)(f:Nat->Int)(bn:Nat):List Int:=(List.range bn).map λj=>tonE x f j x.D.length
theorem ZaP(x:Vm)(f:Nat->Int)(bn d i:Nat):(sumR x f bn d i).length=bn:=by simp[sumR]
theorem Z8F(x:Vm)(f:Nat->Int)(bn:Nat):ivs (sumR x f bn 0 0)=List.replicate bn (.int .i64 0):=by
 rw[sumR,ivs,List.map_map,List.eq_replicate_iff];refine⟨by simp,λb hb=>?_⟩;obtain⟨j,-,rfl⟩:=List.mem_map.1 hb;simp[tonE,sumQ]
theorem ZaO(x:Vm)(f:Nat->Int)(d:Nat)(h:i<bn): (sumR x f bn d i).getD i 0=tonE x f i d:=by simp[sumR,h]
theorem ZaQ(x:Vm)(f:Nat->Int)(d:Nat)(h:i<bn): (sumR x f bn d i).set i (tonE x f i (d+1))=sumR x f bn d (i+1):=by
 refine List.ext_getElem (by simp[sumR]) λj h1 h2=>?_;rw[List.getElem_set]
 by_cases e:i=j
 ·subst e
  simp[sumR]
 ·rw[if_neg e]
  simp only[sumR,List.getElem_map,List.getElem_range]
  congr 1
  by_cases e2:j<i
  ·rw[if_pos e2,if_pos (by omega)]
  ·rw[if_neg e2,if_neg (by omega)]
theorem Z8E(x:Vm)(f:Nat->Int)(bn d:Nat):sumR x f bn d bn=sumR x f bn (d+1) 0:=by
 refine List.map_congr_left λj hj=>?_;rw[if_pos (by simpa using hj),if_neg (by omega)]
theorem ZaN(x:Vm)(f:Nat->Int)(bn:Nat):sumR x f bn x.D.length 0=sumL x f bn:=by
 refine List.map_congr_left λj hj=>?_;rw[if_neg (by omega)]
theorem ZcB{x:Vm}(hv:VOk x)(hd:d<x.D.length)(j:Nat): 0<=val (x.dye d) j/\val (x.dye d) j<=9:=by
 obtain⟨-,h⟩:=hv.dl _ (Zb (.bool true,[]) hd)
 by_cases hj:j<(x.dye d).length
 ·exact h _ (Zb 0 hj)
 ·rw[val,Y7,List.getElem?_eq_none (by omega)];simp
theorem Z7K{x:Vm}(hv:VOk x)(hf:TubS f)(j:Nat)(hd:d<=x.D.length): 0<=tonE x f j d/\tonE x f j d<=60*d:=by
 have:=Z7H (f:=λd=>f d*val (x.dye d) j) (a:=0) (b:=60) (n:=d) λk hk=>?_
 ·rw[tonE];omega
 ·have h4:=hv.d4
  obtain⟨h1,h2⟩:=hf k (by omega);obtain⟨h3,h5⟩:=ZcB hv (d:=k) (by omega) j;refine⟨Int.mul_nonneg h1 h3,?_⟩;have:f k*val (x.dye k) j<=6*val (x.dye k) j:=Int.mul_le_mul_of_nonneg_right h2 h3;show f k*val (x.dye k) j<=60;omega
theorem Z4e{x:Vm}(hv:VOk x)(hf:TubS f)(bn:Nat): ∀n∈sumL x f bn,0<=n/\n<=240:=by
 intro n hn;obtain⟨j,-,rfl⟩:=List.mem_map.1 hn;have:=Z7K hv hf j (Ye x.D.length);have:=hv.d4;omega
theorem Z4f(x:Vm)(hv:VOk x)(bn:Nat)(hbn:x.B=bn)(f:Nat->Int)(hf:TubS f)(w:World)(h:x.At w):
  Calls (Qy.prog μ) 82 #[.agg #[.int .i64 x.B,.slice x.da x.D.length x.dc,.slice x.la x.L.length x.lc,.int .i64 x.tol],.agg (tubC f)] w λe w'=>∃a,e = .returned (.slice a bn bn)/\w'.ownsRow w.heap.size 3 1 (.slice a bn bn) bn (ivs (sumL x f bn))/\Ext [] w w':=by
 have E:Ext [] w w:=Ext.refl _ _;have HX:=Lib.hid h;have HD:=Lib.hid h.d.1;have HV:=Lib.hid hv;have HF:=Lib.hid hf;have hd4:=hv.d4;have hb1:=hv.b1;have hb3:=hv.b3;clear h hv hf;have G:=(Bk.nil w).ce E;refine(ent 44 Tryz.f82 rfl) λF=>wR λk1=>(F.bx G) λyy F G=>(F.bx G) @λn3 w2 _ yy F G=>(F.m) λF=>k1<|wR λk2=>(F.y (F.fd 0)) λF=>(F.y (F.fd 0)) λF=>(F.y (F.lc (G.q 1))) λF=>?_
 rw[hbn]at F;have hEs:=(G.e 2).size;refine ZK F rfl (by decide) (F.want rfl) (Z4Q rfl (w.heap.size) (e:=3) (bytes:=8) (z:=.int .i64 0) Qy.underlying22 (by kernel_rfl) rfl (F.at rfl) (F.at rfl) (n:=bn) (by omega) (by decide) (by omega)) ?_;clear F;rintro _ v' w3 F ⟨oo,hg,rfl⟩;obtain⟨n13,hn⟩:=eQ w2.heap.size;rw[<-hn]at F oo;have s13:=G.lt hn;replace G:=G.gn hg;clear hg hn;replace G:=G.co oo;have oo:=G.o 0;rw[<-Z8F x f bn]at oo;replace G:=G.rO 0 oo;clear oo;refine(F.m) λF=>k2<|wQ λk3=>wR λk4=>(F.y (F.fd 0)) λF=>(F.y (F.fd 1)) λF=>(F.y (F.lc (G.q 2))) λF=>(F.y F.ln) λF=>(F.m) λF=>k4<|Yh<|lpB (F.b [3,5,16,17]) (G.b [1,2,3]) (x.D.length) (λd Lv Sv W=>Lv=[(18,.int .i64 ((d:Nat):Int))]/\Sv=[]/\W.ownsRow w.heap.size 3 1 (.slice (some ⟨n13,0,none⟩) bn bn) bn (ivs (sumR x f bn d 0))) ⟨_,_,F.u,G.u,rfl,rfl,(G.o 0)⟩ ?_
 clear F G;rintro d _ w4 _ _ hi1 ⟨rfl,rfl,oo⟩ F G;replace G:=(G.z).co oo;refine wR λk5=>(F.y F.ls) λF=>k5<|wQ λk6=>F.ci (λhc19=>?_) (λhc19=>?_)
 ·refine Yi<|k6<|wQ λk7=>Yh<|wQ λk8=>?_
  obtain⟨la,lca,hla,hlr⟩:=HX.out.d.2 _ (Zb (.bool true,[]) (show d<x.D.length by omega));have hlen:=(HV.out.dl _ (Zb (.bool true,[]) (show d<x.D.length by omega))).1;have hlb:(x.D.getD d (.bool true,[])).2.length=bn:=by omega
  have HLR:=Lib.hid (Zj hlr 0);refine Yg<|(F.m) λF=>(F.ix HD.out d) λxr9 F=>(F.y (F.l1 (xr9 _ (G.e 3)) 0)) λF=>?_
  rw[hla]at F;refine(F.m) λF=>(F.m) λF=>k8<|wR λk10=>(F.m) λF=>(F.y F.ln) λF=>(F.m) λF=>k10<|Yh<|lpB (F.b [3,5,6,16,17,18,23,24]) (G.b [1,2,3]) (bn) (λi Lv Sv W=>Lv=[(25,.int .i64 ((i:Nat):Int))]/\Sv=[]/\W.ownsRow w.heap.size 3 1 (.slice (some ⟨n13,0,none⟩) bn bn) bn (ivs (sumR x f bn d i))) ⟨_,_,F.u,G.u,rfl,rfl,(G.o 0)⟩ ?_
  clear F G;rintro i _ w5 _ _ hi2 ⟨rfl,rfl,oo⟩ F G;replace G:=(G.z).co oo;refine wR λk11=>(F.y F.ls) λF=>k11<|wQ λk12=>F.ci (λhc26=>?_) (λhc26=>?_)
  ·refine Yi<|k12<|wQ λk13=>Yh<|wR λk14=>(F.m) λF=>(F.ix HLR.out i) λxr15 F=>(F.y (F.l1 (xr15 _ (G.e 3)) 0)) λF=>(F.m) λF=>(F.m) λF=>k14 ?_
   have hml:=ZaP x f bn d i;have hmk:=ZaO x f d (show i<bn by omega);have hst:=ZaQ x f d (show i<bn by omega);have oo:=G.o 0;have HS:=Lib.hid (Z02 oo hml.symm [] (by simp));have hil:=Z2a (sumR x f bn d i);obtain⟨hf0,hf1⟩:=HF.out d (by omega);obtain⟨hg0,hg1⟩:=ZcB HV.out (show d<x.D.length by omega) i;simp only[val,Vm.dye]at hg0 hg1;obtain⟨hp0,hp1⟩:=Zdq hf0 (by omega) hg0 (by omega);obtain⟨ht0,ht1⟩:=Z7K HV.out HF.out i (show d<=x.D.length by omega);replace G:=G.hr [];refine(wX 11 G) λG=>(F.sm) λF=>(F.sm) λF=>?_;obtain⟨xb16,xo16,xa16,xr16⟩:=HS.out i (by omega);refine(F.s (F.is 1 xa16)) λF=>(F.s (F.l1 (xr16 _ (G.e 0)) 0)) λF=>(F.sm) λF=>(F.s (F.ia 4 1)) λF=>(F.s (F.lw (Z2M (G.q 2) (k:=d) rfl (by omega)))) λF=>(F.sm) λF=>(F.s F.ml) λF=>(F.s F.ad) λF=>?_;obtain⟨xb17,xo17,xa17,xr17⟩:=HS.out i (by omega);refine(F.s (F.is 1 xa17)) λF=>wpStill_nil ?_;replace G:=G.d 0;obtain⟨⟨u0,hcu⟩,hfu,hst⟩:=Z3k (G.o 0) xa17 (j:=i) (p:=xo17+((i:Nat):Int).toNat*1) (by first | omega | (simp;omega)) (by omega);refine Z0T rfl (F.want rfl) (Z05 rfl (F.at rfl) (F.at rfl) rfl (by kernel_rfl) hcu hfu) ?_;intro w7 hw;obtain⟨hown',hg⟩:=hst _ _ hw;replace G:=G.gr 0 hg hown';clear hst hcu hfu hw hg hown';have oo:=G.o 0;rw[Z2b,hmk,show tonE x f i d+f d*(x.D.getD d (.bool true,[])).2.getD i 0=tonE x f i (d+1) from rfl,hst]at oo;replace G:=G.rO 0 oo;clear oo;refine k13<|Yg<|(F.y F.ad) λF=>(F.m) λF=>?_
   show _/\_;exact⟨by omega,_,_,F.u,G.u,rfl,rfl,(G.o 0)⟩
  ·refine wp_exit ?_
   have oo:=G.o 0;rw[show i=bn by omega,Z8E]at oo;replace G:=G.rO 0 oo;clear oo;refine k7<|Yg<|(F.y F.ad) λF=>(F.m) λF=>?_
   show _/\_;exact⟨by omega,_,_,F.u,G.u,rfl,rfl,(G.o 0)⟩
 ·refine wp_exit ?_
  have oo:=G.o 0;rw[show d=x.D.length by omega,ZaN]at oo;replace G:=G.rO 0 oo;clear oo;refine k3<|wR λk18=>(F.m) λF=>(F.m) λF=>k18<|(F.r1) ?_
  have oo:=G.o 0;exact⟨_,rfl,oo,(G.e 3)⟩
variable{μ:Nat}
section
variable{P:Program}{ρ:Operand->Value}{o:Oper}{w:World}
theorem Z38{x:Operand}{f:FuncId}{l:List Operand}{ts:Array TypeId}{vs:List Value}{us cs zs:Array Value}(ho:o.op = .call {callee:=.value x,args:=l.toArray,argTypes:=ts})(hf:ρ x = .func (.func f) us cs)(hc:∀args w,(callFunc f args).run P w = .ok (.enter f args) w)(ha:l.map ρ=vs)(hx:us++vs.toArray++cs=zs): (execOp ρ o).run P w = .ok (.enter f zs) w:=by
 have ha:=Z3i ha;subst hx;rw[<-ha];unfold execOp;simp[ho,resolve,hf,invoke,hc,go_sem]
end
theorem Z7U(n:Int)(h0:-1000000000000<=n)(h1:n<=1000000000000)(w:World):Calls (Qy.prog μ) 118 #[.int .i64 n] w λe w'=>e = .returned (.int .i64 (max n (-n)))/\Ext [] w w':=by
 have E:Ext [] w w:=Ext.refl _ _;have G:=(Bk.nil w).ce E;refine(ent 7 Tryz.f118 rfl) λF=>wR λk1=>(F.m) λF=>k1<|wR λk2=>(F.m) λF=>(F.m) λF=>(F.y F.ng) λF=>(F.y F.mx) λF=>(F.m) λF=>k2<|(F.r1) ?_
 exact⟨rfl,(G.e 0)⟩
theorem Z0V{a b A B C:Int}(a0:0<=a)(a1:a<=A)(b0:0<=b)(b1:b<=B)(h:A*B<=C): 0<=a*b/\a*b<=C:=by
 refine⟨Int.mul_nonneg a0 b0,?_⟩;have h1:a*b<=A*b:=Int.mul_le_mul_of_nonneg_right a1 b0;have h2:A*b<=A*B:=Int.mul_le_mul_of_nonneg_left b1 (by omega);omega
theorem Z5r(hf:TubS f): 0<=prt f/\prt f<=24:=by
 have:=Z7H (f:=f) (a:=0) (b:=6) (n:=4) hf;rw[prt];omega
theorem Zdc{x:Vm}(hv:VOk x)(hk:k<x.L.length)(j:Nat): 0<=val (x.lamp k) j/\val (x.lamp k) j<=3:=by
 obtain⟨-,h⟩:=hv.ll _ (Zb (.bool true,[]) hk)
 by_cases hj:j<(x.lamp k).length
 ·exact h _ (Zb 0 hj)
 ·rw[val,Y7,List.getElem?_eq_none (by omega)];simp
theorem Z4k{x:Vm}(hv:VOk x)(hk:k<x.L.length)(hs:∀j,0<=s j/\s j<=240)(hn:n<=3): 0<=dotE (val (x.lamp k)) s n/\dotE (val (x.lamp k)) s n<=2160:=by
 have:=Z7H (f:=λi=>val (x.lamp k) i*s i) (a:=0) (b:=720) (n:=n) λj hj=>Z0V (Zdc hv hk j).1 (Zdc hv hk j).2 (hs j).1 (hs j).2 (by omega);rw[dotE];omega
def tnE(x:Vm)(f:Nat->Int)(j:Nat):Int:=tonE x f j x.D.length
theorem ZbL{x:Vm}(hv:VOk x)(hf:TubS f)(j:Nat): 0<=tnE x f j/\tnE x f j<=240:=by
 have:=Z7K hv hf j (Ye x.D.length);have:=hv.d4;rw[tnE];omega
theorem Z3y(x:Vm)(f:Nat->Int)(a:Nat->Int)(bn:Nat):dotE a (val (sumL x f bn)) (sumL x f bn).length=dotE a (tnE x f) bn:=by
 rw[show (sumL x f bn).length=bn by simp[sumL]];refine Z24 λi hi=>?_;show a i*val (sumL x f bn) i=a i*tnE x f i
 congr 1
 simp[val,sumL,hi,tnE]
def offE(x:Vm)(k:Nat)(f:Nat->Int)(s:Nat->Int):Int:=dotE (val (x.lamp k)) (tnE x f) x.B.toNat-prt f*dotE (val (x.lamp k)) s x.B.toNat
def Z1L(x:Vm)(s:List Int):Prop:=(s.length:Int)=x.B/\∀n∈s,0<=n/\n<=9
theorem ZgS{x:Vm}{s:List Int}(h:Z1L x s)(j:Nat): 0<=val s j/\val s j<=240:=by
 by_cases hj:j<s.length
 ·have:=h.2 _ (Zb 0 hj)
  rw[val];omega
 ·rw[val,Y7,List.getElem?_eq_none (by omega)];simp
theorem ZgM{x:Vm}(hv:VOk x)(hk:k<x.L.length)(hf:TubS f){s:List Int}(hs:Z1L x s): -1000000<=offE x k f (val s)/\offE x k f (val s)<=1000000:=by
 have hb:=hv.b3;have h1:=Z4k hv hk (λj=>ZbL hv hf j) (n:=x.B.toNat) (by omega);have h2:=Z4k hv hk (λj=>ZgS hs j) (n:=x.B.toNat) (by omega);have h3:=Z5r hf;have h4:=Z0V h3.1 h3.2 h2.1 h2.2 (C:=51840) (by omega);rw[offE];omega
theorem ZgN(x:Vm)(hv:VOk x)(k:Nat)(hk:k<x.L.length)(f:Nat->Int)(hf:TubS f)(s:List Int)(hs:Z1L x s)(a:Option Addr)(c:Nat)(w:World)(h:x.At w)(hr:Z8 w (.slice a s.length c) 1 (s.map Z7)):
  Calls (Qy.prog μ) 88 #[.agg #[.int .i64 x.B,.slice x.da x.D.length x.dc,.slice x.la x.L.length x.lc,.int .i64 x.tol],.int .i64 ((k:Nat):Int),.agg (tubC f),.slice a s.length c] w λe w'=>e = .returned (.int .i64 (offE x k f (val s)))/\Ext [] w w':=by
 have E:Ext [] w w:=Ext.refl _ _;have HX:=Lib.hid h;have HV:=Lib.hid hv;have HF:=Lib.hid hf;have HS:=Lib.hid hs;have HR:=Lib.hid hr;have hb1:=hv.b1;have hb3:=hv.b3;obtain⟨bn,hbn⟩:∃bn:Nat,x.B=bn:=⟨x.B.toNat,by omega⟩;have hbn2:x.B.toNat=bn:=by omega
 have hsl:s.length=bn:=by have:=hs.1;omega
 have hsb:Hid (∀n∈s,0<=n/\n<=100000):=λn hn=>by have:=hs.2 n hn;omega
 have hb:=ZgM hv hk hf hs;have h1:=Z4k hv hk (λj=>ZbL hv hf j) (n:=bn) (by omega);have h2:=Z4k hv hk (λj=>ZgS hs j) (n:=bn) (by omega);have h3:=Z5r hf;have h4:=Z0V h3.1 h3.2 h2.1 h2.2 (C:=51840) (by omega);have hof:offE x k f (val s)=dotE (val (x.lamp k)) (tnE x f) bn-prt f*dotE (val (x.lamp k)) (val s) bn:=by rw[offE,hbn2]
 rw[hof];clear h hv hf hs hr hb hof;have G:=(Bk.nil w).ce E;refine(ent 26 Tryz.f88 rfl) λF=>wR λk1=>(F.bx G) λyy F G=>(F.bx G) λyy F G=>(F.m) λF=>k1<|wR λk2=>(F.y (F.lb (G.q 1))) λF=>(F.y F.mf) λF=>(F.m) λF=>k2<|wQ λk3=>?_
 have G2:=G;refine(wD [] none G) λG=>(F.z 0 (G.t 0) F.mo) λF=>(F.z 1 (G.t 0) F.mo) λF=>(F.zr 2 (G.t 0) λhS=>F.lb (G2.k 1 hS)) λF=>(F.zr 3 (G.t 0) λhS=>F.lb (G2.k 0 hS)) λF=>(F.zr 6 (G.t 0) λhS=>F.lb (G2.k 0 hS)) λF=>(F.z 8 (G.t 0) F.mo) λF=>(F.z 9 (G.t 0) F.mo) λF=>(F.z 10 (G.t 0) F.mo) λF=>(aO 4)<|(F.ok (Z4f x HV.out bn hbn f HF.out _ (HX.out.ext (G.e 3)))) ?_
 rintro _ w4 ⟨a16,rfl,oo,e9⟩;refine⟨_,rfl,λF=>?_⟩;replace G:=G.ex e9;refine .intro (G.t 0) ?_;have hrw:=ZM (xs:=sumL x f bn) (row:=Z7) (by rw[<-Z1w,show (sumL x f bn).length=bn by simp[sumL]];exact oo) (λ_=>rfl);have hll:(sumL x f bn).length=bn:=by simp[sumL]
 have hwe:=Z2Z (μ:=μ) x HV.out k hk (sumL x f bn) (by rw[hll];omega) (λn hn=>by have:=Z4e HV.out HF.out bn n hn;omega) a16 bn w4 (HX.out.ext (G.e 3)) (by rw[hll];exact hrw);rw[Z3y,hll]at hwe;refine(aO 5)<|(F.okr rfl (Z38 rfl (F.at rfl) Qy.call102 (mpS (F.at rfl) (mpS (F.at rfl) mp0)) (by simp)) (hwe)) ?_
 rintro _ w5 ⟨rfl,e9⟩;refine⟨_,rfl,λF=>?_⟩;replace G:=G.ex e9;refine .intro (G.t 0) ?_;clear oo hrw hwe;refine(aO 7)<|(F.ok0 G (Z0b f HF.out.ok _)) @λw6 _ F G=>.intro (G.t 0) ?_
 have hwe:=Z2Z (μ:=μ) x HV.out k hk s HS.out.1 hsb.out a c w6 (HX.out.ext (G.e 3)) (HR.out.ext (G.e 3) (by simp));refine(aO 11)<|(F.okr rfl (Z38 rfl (F.at rfl) Qy.call102 (mpS (F.at rfl) (mpS (F.at rfl) mp0)) (by simp)) (hwe)) ?_
 rintro _ w7 ⟨rfl,e9⟩;refine⟨_,rfl,λF=>?_⟩;replace G:=G.ex e9;refine .intro (G.t 0) ?_;rw[hsl]at F;refine(F.z 12 (G.t 0) F.ml) λF=>(F.z 13 (G.t 0) F.sb) λF=>(F.z 14 (G.t 0) F.mo) λF=>(aD)<|k3<|(F.r1) ?_
 exact⟨rfl,(G.e 3)⟩
def matE(x:Vm)(f:Nat->Int)(s:Nat->Int)(ls:List Int):Bool:=ls.all λl=>decide (max (offE x l.toNat f s) (-offE x l.toNat f s)<=x.tol*prt f)
def ZbV(x:Vm)(ls:List Int):Prop:=∀n∈ls,0<=n/\n<x.L.length
theorem Zi9{x:Vm}(hi:i<ls.length)(h:x.tol*prt f<max (offE x (ls.getD i 0).toNat f s) (-offE x (ls.getD i 0).toNat f s)): matE x f s ls=false:=by
 rw[matE,List.all_eq_false];exact⟨_,Zb 0 hi,by simp only[decide_eq_true_eq];omega⟩
theorem Zi8{x:Vm}(h:∀j,j<ls.length->max (offE x (ls.getD j 0).toNat f s) (-offE x (ls.getD j 0).toNat f s)<=x.tol*prt f): matE x f s ls=true:=by
 rw[matE,Yl];intro n hn;obtain⟨j,hj,rfl⟩:=List.getElem_of_mem hn;have:=h j hj;rw[Y7,List.getElem?_eq_getElem hj]at this;exact decide_eq_true this
theorem Z7h(x:Vm)(hv:VOk x)(f:Nat->Int)(hf:TubS f)(s:List Int)(hs:Z1L x s)(ls:List Int)(hl:ZbV x ls)(hll:ls.length<=1000)(a b:Option Addr)(c d:Nat)(w:World)(h:x.At w)(hr:Z8 w (.slice a s.length c) 1 (s.map Z7))(hq:Z8 w (.slice b ls.length d) 1 (ls.map Z7)):
  Calls (Qy.prog μ) 80 #[.agg #[.int .i64 x.B,.slice x.da x.D.length x.dc,.slice x.la x.L.length x.lc,.int .i64 x.tol],.agg (tubC f),.slice a s.length c,.slice b ls.length d] w λe w'=>e = .returned (.bool (matE x f (val s) ls))/\Ext [] w w':=by
 have E:Ext [] w w:=Ext.refl _ _;have HX:=Lib.hid h;have HV:=Lib.hid hv;have HF:=Lib.hid hf;have HS:=Lib.hid hs;have HR:=Lib.hid hr;have HL:=Lib.hid hl;have HLS:=Lib.hid (Zj hq 0);have h3:=Z5r hf;have ht0:=hv.t0;have ht1:=hv.t12;have h4:=Z0V ht0 ht1 h3.1 h3.2 (C:=288) (by omega);clear h hv hf hs hr hl hq;have G:=(Bk.nil w).ce E;refine(ent 31 Tryz.f80 rfl) λF=>wR λk1=>(F.bx G) λyy F G=>(F.bx G) λyy F G=>(F.m) λF=>k1<|wQ λk2=>wR λk3=>(F.m) λF=>(F.y F.ln) λF=>(F.m) λF=>k3<|Yh<|lpB (F.b [2,4,5,11,12]) G (ls.length) (λi Lv Sv W=>Lv=[(13,.int .i64 ((i:Nat):Int))]/\Sv=[]/\Hid (∀j,j<i->max (offE x (ls.getD j 0).toNat f (val s)) (-offE x (ls.getD j 0).toNat f (val s))<=x.tol*prt f)) ⟨_,_,F.u,G.u,rfl,rfl,Lib.hid (λj hj=>absurd hj (by omega))⟩ ?_
 clear F G;rintro i _ w3 _ _ hi1 ⟨rfl,rfl,hno⟩ F G;replace G:=G.z;refine wR λk4=>(F.y F.ls) λF=>k4<|wQ λk5=>F.ci (λhc14=>?_) (λhc14=>?_)
 ·refine Yi<|k5<|wQ λk6=>Yh<|wQ λk7=>?_
  obtain⟨hk0,hk1⟩:=HL.out _ (Zb (l:=ls) (i:=i) 0 (by omega));obtain⟨k,hkk⟩:∃k:Nat,ls.getD i 0=k:=⟨(ls.getD i 0).toNat,by omega⟩;have hkt:(ls.getD i 0).toNat=k:=by omega
  have hkL:k<x.L.length:=by omega
  obtain⟨hb0,hb1⟩:=ZgM HV.out hkL HF.out HS.out;refine Yg<|(F.ix HLS.out i) λxr8 F=>(F.y (F.l1 (xr8 _ (G.e 2)) 0)) λF=>?_
  rw[hkk]at F;refine(F.m) λF=>k7<|wQ λk9=>?_
  have G2:=G;refine(wD [] none G) λG=>(F.zr 0 (G.t 0) λhS=>F.lb (G2.k 1 hS)) λF=>(F.z 1 (G.t 0) F.mo) λF=>(F.zr 2 (G.t 0) λhS=>F.lb (G2.k 0 hS)) λF=>(F.z 3 (G.t 0) F.mo) λF=>(F.z 6 (G.t 0) (F.fd 0)) λF=>(F.z 7 (G.t 0) (F.fd 3)) λF=>(F.zr 8 (G.t 0) λhS=>F.lc (G2.k 1 hS)) λF=>(F.zr 9 (G.t 0) λhS=>F.lb (G2.k 0 hS)) λF=>(aO 4)<|(F.ok0 G (ZgN x HV.out k hkL f HF.out s HS.out a c _ (HX.out.ext (G.e 3)) (HR.out.ext (G.e 3) (by simp)))) λF G=>.intro (G.t 0)<|(aO 5)<|(F.ok0 G (Z7U (offE x k f (val s)) (by omega) (by omega) _)) λF G=>.intro (G.t 0)<|(aO 10)<|(F.ok0 G (Z0b f HF.out.ok _)) λF G=>.intro (G.t 0) ?_
  refine(F.z 11 (G.t 0) F.ml) λF=>(F.z 12 (G.t 0) F.gt) λF=>(aD)<|k9<|F.ci (λhc29=>?_) (λhc29=>?_)
  ·rw[<-hkt]at hc29
   refine wR λk10=>(F.m) λF=>k10<|(F.r1) ?_
   exact⟨Z0Z (Zi9 (by omega) hc29).symm,(G.e 3)⟩
  ·have hle:max (offE x (ls.getD i 0).toNat f (val s)) (-offE x (ls.getD i 0).toNat f (val s))<=x.tol*prt f:=by rw[hkt];omega
   refine Yi<|k6<|Yg<|(F.y F.ad) λF=>(F.m) λF=>?_
   show _/\_;exact⟨by omega,_,_,F.u,G.u,rfl,rfl,Lib.hid (λj hj=>if e:j=i then e▸hle else hno.out j (by omega))⟩
 ·refine wp_exit<|k2<|wR λk11=>(F.m) λF=>k11<|(F.r1) ?_
  exact⟨Z0Z (Zi8 λj hj=>hno.out j (by omega)).symm,(G.e 2)⟩
def alkV(x:Vm)(k:Nat)(f g:Nat->Int):Int:=prt g*dotE (val (x.lamp k)) (tnE x f) x.B.toNat-prt f*dotE (val (x.lamp k)) (tnE x g) x.B.toNat
def alkE(x:Vm)(k:Nat)(f g:Nat->Int):Bool:=decide (max (alkV x k f g) (-alkV x k f g)<=x.tol*prt f*prt g)
variable{μ:Nat}
theorem Z6z(x:Vm)(hv:VOk x)(k:Nat)(hk:k<x.L.length)(f g:Nat->Int)(hf:TubS f)(hg:TubS g)(w:World)(h:x.At w):
  Calls (Qy.prog μ) 68 #[.agg #[.int .i64 x.B,.slice x.da x.D.length x.dc,.slice x.la x.L.length x.lc,.int .i64 x.tol],.int .i64 ((k:Nat):Int),.agg (tubC f),.agg (tubC g)] w λe w'=>e = .returned (.bool (alkE x k f g))/\Ext [] w w':=by
 have E:Ext [] w w:=Ext.refl _ _;have HX:=Lib.hid h;have HV:=Lib.hid hv;have HF:=Lib.hid hf;have HG:=Lib.hid hg;have hb1:=hv.b1;have hb3:=hv.b3;obtain⟨bn,hbn⟩:∃bn:Nat,x.B=bn:=⟨x.B.toNat,by omega⟩;have hbn2:x.B.toNat=bn:=by omega
 have h1:=Z4k hv hk (λj=>ZbL hv hf j) (n:=bn) (by omega);have h2:=Z4k hv hk (λj=>ZbL hv hg j) (n:=bn) (by omega);have h3:=Z5r hf;have h4:=Z5r hg;have h5:=Z0V h4.1 h4.2 h1.1 h1.2 (C:=51840) (by omega);have h6:=Z0V h3.1 h3.2 h2.1 h2.2 (C:=51840) (by omega);have h7:=Z0V hv.t0 hv.t12 h3.1 h3.2 (C:=288) (by omega);have h8:=Z0V h7.1 h7.2 h4.1 h4.2 (C:=6912) (by omega);have hal:alkE x k f g=decide (max (prt g*dotE (val (x.lamp k)) (tnE x f) bn-prt f*dotE (val (x.lamp k)) (tnE x g) bn) (-(prt g*dotE (val (x.lamp k)) (tnE x f) bn-prt f*dotE (val (x.lamp k)) (tnE x g) bn))<=x.tol*prt f*prt g):=by rw[alkE,alkV,hbn2]
 rw[hal];clear h hv hf hg hal;have G:=(Bk.nil w).ce E;refine(ent 41 Tryz.f68 rfl) λF=>wR λk1=>(F.bx G) λyy F G=>(F.bx G) λyy F G=>(F.bx G) λyy F G=>(F.m) λF=>k1<|wQ λk2=>?_
 have G2:=G;refine(wD [] none G) λG=>(F.zr 0 (G.t 0) λhS=>F.lb (G2.k 1 hS)) λF=>(F.zr 2 (G.t 0) λhS=>F.lb (G2.k 0 hS)) λF=>(aO 1)<|(F.ok0 G (Z0b f HF.out.ok _)) λF G=>.intro (G.t 0)<|(aO 3)<|(F.ok0 G (Z0b g HG.out.ok _)) λF G=>.intro (G.t 0)<|(F.z 4 (G.t 0) F.mo) λF=>(F.z 5 (G.t 0) F.mo) λF=>(aD)<|k2<|wQ λk3=>?_
 have G4:=G;refine(wD [] none G) λG=>(F.z 0 (G.t 0) F.mo) λF=>(F.zr 1 (G.t 0) λhS=>F.lb (G4.k 3 hS)) λF=>(F.z 2 (G.t 0) F.mo) λF=>(F.zr 3 (G.t 0) λhS=>F.lb (G4.k 3 hS)) λF=>(F.zr 4 (G.t 0) λhS=>F.lb (G4.k 2 hS)) λF=>(F.z 8 (G.t 0) F.mo) λF=>(F.zr 9 (G.t 0) λhS=>F.lb (G4.k 3 hS)) λF=>(F.z 10 (G.t 0) F.mo) λF=>(F.zr 11 (G.t 0) λhS=>F.lb (G4.k 3 hS)) λF=>(F.zr 12 (G.t 0) λhS=>F.lb (G4.k 1 hS)) λF=>(F.z 18 (G.t 0) (F.fd 0)) λF=>(F.z 19 (G.t 0) (F.fd 3)) λF=>(F.zr 20 (G.t 0) λhS=>F.lc (G4.k 3 hS)) λF=>(F.z 21 (G.t 0) F.mo) λF=>?_;refine(F.z 22 (G.t 0) F.ml) λF=>(F.z 23 (G.t 0) F.mo) λF=>(F.z 24 (G.t 0) F.ml) λF=>(aO 5)<|(F.ok (Z4f x HV.out bn hbn f HF.out _ (HX.out.ext (G.e 5)))) ?_
 rintro _ w8 ⟨a20,rfl,oo,e9⟩;refine⟨_,rfl,λF=>?_⟩;replace G:=G.ex e9;refine .intro (G.t 0) ?_;have hrw:=ZM (xs:=sumL x f bn) (row:=Z7) (by rw[<-Z1w,show (sumL x f bn).length=bn by simp[sumL]];exact oo) (λ_=>rfl);have hll:(sumL x f bn).length=bn:=by simp[sumL]
 have hwe:=Z2Z (μ:=μ) x HV.out k hk (sumL x f bn) (by rw[hll];omega) (λn hn=>by have:=Z4e HV.out HF.out bn n hn;omega) a20 bn w8 (HX.out.ext (G.e 5)) (by rw[hll];exact hrw);rw[Z3y,hll]at hwe;refine(aO 6)<|(F.ok (hwe)) ?_
 rintro _ w9 ⟨rfl,e9⟩;refine⟨_,rfl,λF=>?_⟩;replace G:=G.ex e9;refine .intro (G.t 0) ?_;clear oo hrw hwe;refine(F.z 7 (G.t 0) F.ml) λF=>(aO 13)<|(F.ok (Z4f x HV.out bn hbn g HG.out _ (HX.out.ext (G.e 5)))) ?_
 rintro _ w10 ⟨a28,rfl,oo,e9⟩;refine⟨_,rfl,λF=>?_⟩;replace G:=G.ex e9;refine .intro (G.t 0) ?_;have hrw:=ZM (xs:=sumL x g bn) (row:=Z7) (by rw[<-Z1w,show (sumL x g bn).length=bn by simp[sumL]];exact oo) (λ_=>rfl);have hll:(sumL x g bn).length=bn:=by simp[sumL]
 have hwe:=Z2Z (μ:=μ) x HV.out k hk (sumL x g bn) (by rw[hll];omega) (λn hn=>by have:=Z4e HV.out HG.out bn n hn;omega) a28 bn w10 (HX.out.ext (G.e 5)) (by rw[hll];exact hrw);rw[Z3y,hll]at hwe;refine(aO 14)<|(F.ok (hwe)) ?_
 rintro _ w11 ⟨rfl,e9⟩;refine⟨_,rfl,λF=>?_⟩;replace G:=G.ex e9;refine .intro (G.t 0) ?_;clear oo hrw hwe;refine(F.z 15 (G.t 0) F.ml) λF=>(F.z 16 (G.t 0) F.sb) λF=>(aO 17)<|(F.ok0 G (Z7U (prt g*dotE (val (x.lamp k)) (tnE x f) bn-prt f*dotE (val (x.lamp k)) (tnE x g) bn) (by omega) (by omega) _)) λF G=>.intro (G.t 0)<|(F.z 25 (G.t 0) F.le) λF=>(F.z 26 (G.t 0) F.mo) λF=>(aD)<|k3<|(F.r1) ?_
 exact⟨rfl,(G.e 5)⟩
theorem Z9q{l:List Int}{m hi:Int}(h1:(l.length:Int)=m)(h2:∀n∈l,0<=n/\n<=hi): numE l m hi=0:=by
 rw[numE,if_neg (by omega),if_pos];rw[Yl];intro n hn;have:=Z1g.2 (h2 n hn);rw[this];rfl
theorem Z2G(x:Vm)(hv:VOk x)(s:List Int)(hs:Z1L x s)(a:Option Addr)(c:Nat)(w:World)(hr:Z8 w (.slice a s.length c) 1 (s.map Z7)):
  Calls (Qy.prog μ) 78 #[.agg #[.int .i64 x.B,.slice x.da x.D.length x.dc,.slice x.la x.L.length x.lc,.int .i64 x.tol],.slice a s.length c] w λe w'=>e = .returned (.tuple #[])/\Ext [] w w':=by
 have E:Ext [] w w:=Ext.refl _ _;have hz:=Z9q hs.1 hs.2;have hlen:=hs.1;have hb3:=hv.b3;have HR:=Lib.hid hr;clear hr hs;have G:=(Bk.nil w).ce E;refine(ent 30 Tryz.f78 rfl) λF=>wR λk1=>(F.bx G) λyy F G=>k1<|wQ λk2=>wR λk3=>(F.m) λF=>(F.y F.ln) λF=>(F.y (F.fd 0)) λF=>(F.y (F.fd 0)) λF=>(F.y (F.lc (G.q 0))) λF=>(F.y F.ls) λF=>k3<|(F.JF)<|Yi<|k2<|wQ λk4=>wR λk5=>(F.m) λF=>(F.y F.ln) λF=>(F.y (F.fd 0)) λF=>(F.y (F.fd 0)) λF=>(F.y (F.lc (G.q 0))) λF=>?_
 refine(F.y F.gt) λF=>k5<|(F.JF)<|Yi<|k4<|wR λk6=>(F.m) λF=>(F.y (F.fd 0)) λF=>(F.y (F.fd 0)) λF=>(F.y (F.lc (G.q 0))) λF=>(F.k (Z3j s x.B 9 a c _ (HR.out.ext (G.e 1) (by simp)) (by omega) (by omega))) ?_
 rintro _ w2 ⟨rfl,e9⟩;refine⟨_,rfl,λF=>?_⟩;replace G:=G.ex e9;rw[hz]at F;refine(F.m) λF=>(F.y F.xt) λF=>(F.y F.xt) λF=>(F.m) λF=>(F.m) λF=>k6<|Yg<|(F.m) λF=>(F.k0 G (Z9n _)) λF G=>(F.f0) ?_
 exact⟨rfl,(G.e 1)⟩
def Z5T(x:Vm)(ls:List Int):Prop:=1<=ls.length/\ZbV x ls/\∀i,0<i->i<ls.length->ls.getD (i-1) 0<ls.getD i 0
theorem Z7b(x:Vm)(hv:VOk x)(ls:List Int)(hs:Z5T x ls)(hll:ls.length<=1000)(a:Option Addr)(c:Nat)(w:World)(h:x.At w)(hr:Z8 w (.slice a ls.length c) 1 (ls.map Z7)):
  Calls (Qy.prog μ) 71 #[.agg #[.int .i64 x.B,.slice x.da x.D.length x.dc,.slice x.la x.L.length x.lc,.int .i64 x.tol],.slice a ls.length c] w λe w'=>e = .returned (.tuple #[])/\Ext [] w w':=by
 have E:Ext [] w w:=Ext.refl _ _;obtain⟨h1,h2,h3⟩:=hs;have HX:=Lib.hid h;have HV:=Lib.hid hv;have H2:=Lib.hid h2;have H3:=Lib.hid h3;have HS:=Lib.hid (Zj hr 0);clear hr h2 h3 h hv;have G:=(Bk.nil w).ce E;refine(ent 33 Tryz.f71 rfl) λF=>wR λk1=>(F.bx G) λyy F G=>k1<|wQ λk2=>wR λk3=>(F.m) λF=>(F.y F.ln) λF=>(F.y F.eq) λF=>k3<|(F.JF)<|Yi<|k2<|wR λk4=>(F.m) λF=>(F.y F.ln) λF=>(F.m) λF=>k4<|Yh<|lpC (F.b [1,2,10,11]) G (ls.length) (λi=>[(12,.int .i64 ((i:Nat):Int))]) F.u λi hi1 F G=>wR λk5=>(F.y F.ls) λF=>k5<|wQ λk6=>F.ci (λhc13=>?_) (λhc13=>?_)
 ·refine Yi<|k6<|wQ λk7=>Yh<|wR λk8=>(F.m) λF=>(F.ix HS.out i) λxr9 F=>(F.y (F.l1 (xr9 _ (G.e 1)) 0)) λF=>(F.m) λF=>(F.m) λF=>k8<|wQ λk10=>?_
  obtain⟨hk0,hk1⟩:=H2.out _ (Zb (l:=ls) (i:=i) 0 (by omega));refine Yg<|(F.y (F.lb (G.q 0))) λF=>(F.m) λF=>(F.k0 G (Z99 x HV.out (ls.getD i 0) hk0 hk1 _)) λF G=>k10<|wQ λk11=>?_
  by_cases ci:0<i
  ·have hlt:=H3.out i ci (by omega)
   refine Yg<|(F.m) λF=>(F.y F.gtT) λF=>(F.m) λF=>(F.m) λF=>(F.m) λF=>(F.m) λF=>(F.y F.sb) λF=>?_
   rw[show (((i:Nat):Int)-1)=((i-1:Nat):Int) by omega]at F;refine(F.ix HS.out (i-1)) λxr12 F=>(F.y (F.l1 (xr12 _ (G.e 1)) 0)) λF=>(F.y F.leF) λF=>(F.y F.pT) λF=>k11<|(F.cF)<|Yi<|k7<|Yg<|(F.y F.ad) λF=>(F.m) λF=>?_
   show _/\_;exact⟨by omega,F.u,G.u⟩
  ·refine Yg<|(F.m) λF=>(F.y F.gtF) λF=>(F.m) λF=>(F.n) λF=>(F.n) λF=>(F.n) λF=>(F.n) λF=>(F.n) λF=>(F.n) λF=>(F.n) λF=>(F.y F.pF) λF=>k11<|(F.cF)<|Yi<|k7<|Yg<|(F.y F.ad) λF=>(F.m) λF=>?_
   show _/\_;exact⟨by omega,F.u,G.u⟩
 ·refine wp_exit<|(F.e0) ?_
  exact⟨rfl,(G.e 1)⟩
variable{μ:Nat}
structure RcpOk(x:Vm)(l:List Int):Prop where
 len:l.length=x.D.length
 bd:∀n∈l,0<=n/\n<=6
 s1:1<=l.sum
 s6:l.sum<=6
theorem Zek{l:List Int}{a b:Int}(h:∀n∈l,a<=n/\n<=b)(h0:a<=0)(h1:0<=b)(k:Nat): a<=val l k/\val l k<=b:=by
 by_cases hk:k<l.length
 ·exact h _ (Zb 0 hk)
 ·rw[val,Y7,List.getElem?_eq_none (by omega)];exact⟨h0,h1⟩
theorem RcpOk.tub{x:Vm}{l:List Int}(h:RcpOk x l): TubS (val l):=λk _=>Zek h.bd (by omega) (by omega) k
theorem Zaz{w w2:World}{b:Nat}{l:List Int}{T:TypeId}(e:w2=w.setCells b 0 (l.map (Value.int .i64)))(H:w.heap[b]?=some (.cells (tubC zf) T (0,0)))(hl:l.length<=4): w2.heap[b]?=some (.cells (tubC (val l)) T (0,0)):=by
 rw[e]
 match l,hl with
 | [],_=>exact H
 | [p],_=>exact ZG (w2:=w.setCells b 0 [.int .i64 p]) rfl H rfl
 | [p,q],_=>exact Z2j (w2:=w.setCells b 0 [.int .i64 p,.int .i64 q]) rfl H rfl
 | [p,q,r],_=>exact ZG (w2:=w.setCells b 0 [.int .i64 p,.int .i64 q,.int .i64 r]) (w:=(w.setCells b 0 [.int .i64 p,.int .i64 q])) (o:=2) rfl (Z2j (w2:=w.setCells b 0 [.int .i64 p,.int .i64 q]) rfl H rfl) rfl
 | [p,q,r,s],_=>exact Z0I (cs:=tubC (val [p,q,r,s])) rfl H rfl
 | p::q::r::s::t::l,h=>simp at h
theorem Z7t{n m:Int}(h1:1<=n)(h2:n<=m): sizE n m=0:=by rw[sizE,if_neg (by omega),if_neg (by omega)]
theorem Z9(x:Vm)(hv:VOk x)(l:List Int)(hl:RcpOk x l)(a:Option Addr)(c:Nat)(w:World)(hr:Z8 w (.slice a l.length c) 1 (l.map Z7)):
  Calls (Qy.prog μ) 65 #[.agg #[.int .i64 x.B,.slice x.da x.D.length x.dc,.slice x.la x.L.length x.lc,.int .i64 x.tol],.slice a l.length c] w λe w'=>e = .returned (.agg (tubC (val l)))/\Ext [] w w':=by
 have E:Ext [] w w:=Ext.refl _ _;have HR:=Lib.hid hr;have HS:=Lib.hid (Zj hr 0);have HB:=Lib.hid hl.bd;have HT:=Lib.hid hl.tub.ok;have hlen:=hl.len;have hd1:=hv.d1;have hd4:=hv.d4;have hpr:prt (val l)=l.sum:=Z5I l 4 (by omega);have hsz:sizE l.sum 6=0:=Z7t hl.s1 hl.s6;clear hr hl hv;have G:=(Bk.nil w).ce E;refine(ent 42 Tryz.f65 rfl) λF=>wR λk1=>(F.bx G) λyy F G=>(F.al G Qy.zeroValue88) λyy F G=>k1<|wQ λk2=>wR λk3=>(F.m) λF=>(F.y F.ln) λF=>(F.y (F.fd 0)) λF=>(F.y (F.fd 1)) λF=>(F.y (F.lc (G.q 1))) λF=>(F.y F.ln) λF=>(F.y F.ls) λF=>k3<|(F.JF)<|Yi<|k2<|wQ λk4=>wR λk5=>(F.m) λF=>(F.y F.ln) λF=>?_
 refine(F.y (F.fd 0)) λF=>(F.y (F.fd 1)) λF=>(F.y (F.lc (G.q 1))) λF=>(F.y F.ln) λF=>(F.y F.gt) λF=>k5<|(F.JF)<|Yi<|k4<|wQ λk6=>wR λk7=>(F.m) λF=>(F.y F.ln) λF=>(F.m) λF=>k7<|Yh<|lpC (F.b [1,4,24,25]) G (l.length) (λi=>[(26,.int .i64 ((i:Nat):Int))]) F.u λi hi1 F G=>wR λk8=>(F.y F.ls) λF=>k8<|wQ λk9=>F.ci (λhc27=>?_) (λhc27=>?_)
 ·refine Yi<|k9<|wQ λk10=>Yh<|wR λk11=>(F.ix HS.out i) λxr12 F=>(F.y (F.l1 (xr12 _ (G.e 2)) 0)) λF=>(F.m) λF=>k11<|wQ λk13=>?_
  have hno:=Z1g.2 (HB.out _ (Zb (l:=l) (i:=i) 0 (by omega)));refine Yg<|(F.m) λF=>(F.k0 G (Z0r (l.getD i 0) 0 6 _)) λF G=>k13<|(F.jF (hno))<|Yi<|k10<|Yg<|(F.y F.ad) λF=>(F.m) λF=>?_
  show _/\_;exact⟨by omega,F.u,G.u⟩
 ·refine wp_exit<|k6<|wR λk14=>(F.al G Qy.zeroValue88) @λn7 w5 _ yy F G=>?_
  have q7:=G.q 0;replace q7:w5.heap[n7]?=some (.cells (tubC zf) 88 (0,0)):=q7;replace G:=G.rQ 0 q7;clear q7;refine k14<|wQ λk15=>Yg ?_
  refine(F.y ((Z1K (n:=4) rfl (F.at rfl) (by kernel_rfl) (by kernel_rfl) (by kernel_rfl)))) λF=>(F.m) λF=>?_;have hlr2:=HR.out.ext (G.e 3) (by simp);obtain⟨sb,so,hsa,-,-⟩:=hlr2.range rfl (by intro e;have hq:=congrArg List.length e;rw[Yj,List.length_nil]at hq;omega);rw[hsa]at hlr2;have hcd:∀j,j<l.length->(w5.cell? ⟨n7,0+j,none⟩).isSome=true:=λj hj=>(by have:=Z2M (G.q 0) (i:=(j:Int)) (k:=j) rfl (by omega);rw[Nat.mul_one,Int.toNat_natCast]at this;rw[this];rfl);refine sqN F (ZbY (l.map (Value.int .i64)) rfl (F.at rfl) ((F.at rfl).trans (congrArg (λz=>Value.slice z _ _) hsa)) Qy.underlying22 (by kernel_rfl) (by rw[Yj];exact(Nat.min_eq_left (by omega)).symm) (Z6U hlr2) (by rw[Yj];exact hcd) (by rw[Yj];exact λj _=>Zd (G.q 0) _) (Z4N _)) ?_ (hw:=F.want rfl);clear F;rintro _ w6 F hw;replace G:=G.pr 0 hw (Zaz hw (G.q 0) (by omega));refine k15<|wR λk16=>(F.y (F.lb (G.q 0))) λF=>(F.k (Z0b (val l) HT.out _)) ?_
  rintro _ w7 ⟨rfl,e9⟩;refine⟨_,rfl,λF=>?_⟩;replace G:=G.ex e9;rw[hpr]at F;refine(F.k (Z3Q l.sum 6 _)) ?_;rintro _ w8 ⟨rfl,e9⟩;refine⟨_,rfl,λF=>?_⟩;replace G:=G.ex e9;rw[hsz]at F;refine(F.k0 G (Z9n _)) λF G=>k16<|wR λk17=>(F.y (F.lb (G.q 0))) λF=>(F.sr G 1) λG=>k17 ?_
  refine(F.rg (rs_c F rfl rfl Qy.underlying88 rfl (by kernel_rfl) (G.q 1))) ?_;exact⟨rfl,(G.e 3)⟩
def gcT(f:Nat->Int):Nat->Nat
 | 0=>0
 | k+1=>Nat.gcd (gcT f k) (f k).toNat
def gcE(f:Nat->Int):Nat:=gcT f 4
def lowF(f:Nat->Int)(d:Int)(i:Nat):Nat->Int:=λj=>if j<i then f j / d else f j
theorem ZcX{f:Nat->Int}(hf:TubS f):∀{k:Nat},k<=4->gcT f k<=6
 | 0,_=>by simp[gcT]
 | k+1,hk=>by
  rw[gcT];obtain⟨h0,h1⟩:=hf k (by omega)
  by_cases e:(f k).toNat=0
  ·rw[e,Nat.gcd_zero_right];exact ZcX hf (by omega)
  ·exact Yd (Nat.le_of_dvd (by omega) (Nat.gcd_dvd_right _ _)) (by omega)
theorem ZcY{u v:Nat}(h:0<v): Nat.gcd v (u % v)=Nat.gcd u v:=by
 rw[Nat.gcd_comm v,<-Nat.gcd_rec,Nat.gcd_comm]
theorem Zdj(f:Nat->Int)(hf:TubS f)(hg:0<gcE f)(w:World):Calls (Qy.prog μ) 125 #[.agg (tubC f)] w λe w'=>e = .returned (.agg (tubC (lowF f (gcE f) 4)))/\Ext [] w w':=by
 have E:Ext [] w w:=Ext.refl _ _;have HF:=Lib.hid hf;have hg6:gcE f<=6:=ZcX hf (by omega);clear hf;have G:=(Bk.nil w).ce E;refine(ent 29 Tryz.f125 rfl) λF=>wR λk1=>(F.bx G) @λn1 w1 _ yy F G=>(F.al G Qy.zeroValue88) λyy F G=>k1<|wR λk2=>(F.m) λF=>?_
 rw[show (0:Int)=((gcT f 0:Nat):Int) from rfl]at F;refine k2<|wQ λk3=>wR λk4=>(F.y (F.lb (G.q 1))) λF=>(F.m) λF=>?_
 rw[show (0:Int)=((0:Nat):Int) from rfl]at F;refine k4<|Yh<|lpC (F.b [1,2,7]) G (4) (λi=>[(3,.int .i64 ((gcT f i:Nat):Int)),(8,.int .i64 ((i:Nat):Int))]) F.u @λ_ w3 i hi1 F G=>wR λk5=>(F.y F.ls) λF=>k5<|wQ λk6=>F.ci (λhc9=>?_) (λhc9=>?_)
 ·refine Yi<|k6<|wQ λk7=>Yh<|wQ λk8=>?_
  obtain⟨hf0,hf1⟩:=HF.out i (by omega);obtain⟨p,hp⟩:∃p:Nat,f i=p:=⟨(f i).toNat,by omega⟩;have hpn:(f i).toNat=p:=by omega
  refine Yg<|(F.y (F.iv 4 (Z6u (k:=i) rfl (by omega)))) λF=>(F.m) λF=>?_
  rw[hp]at F;refine k8<|Yh<|lpB (F.b [1,2,7,8]) G (6) (λj Lv Sv W=>∃u v:Nat,Lv=[(3,.int .i64 ((u:Nat):Int)),(5,.int .i64 ((v:Nat):Int))]/\Sv=[]/\Nat.gcd u v=gcT f (i+1)/\v+j<=6/\u<=6) ⟨_,_,F.u,G.u,_,_,rfl,rfl,(by rw[gcT,hpn]),(by omega),(ZcX HF.out (by omega))⟩ ?_
  clear F G;rintro j _ w4 _ _ hi2 ⟨u,v,rfl,rfl,hgc,hvj,hu6⟩ F G;replace G:=G.z;refine wQ λk9=>wR λk10=>(F.m) λF=>(F.y F.gt) λF=>k10<|F.ci (λhc12=>?_) (λhc12=>?_)
  ·refine Yi<|k9<|Yh<|(wX 5 G) λG=>(F.sm) λF=>(F.sm) λF=>(F.sm) λF=>?_
   refine(F.s (Zjh rfl (F.at rfl) (F.at rfl) (by omega) (by omega))) λF=>(F.sm) λF=>wpStill_nil<|(F.m) λF=>?_
   rw[show (((u:Nat):Int) % ((v:Nat):Int))=((u % v:Nat):Int) from rfl]at F;show _/\_;exact⟨by omega,_,_,F.u,G.u,_,_,rfl,rfl,(by rw[<-hgc];exact ZcY (by omega)),(by have:=Nat.mod_lt u (show 0<v by omega);omega),(by omega)⟩
  ·refine wp_exit ?_
   have hv0:v=0:=by omega
   rw[show u=gcT f (i+1) by rw[<-hgc,hv0,Nat.gcd_zero_right]]at F;refine k7<|Yg<|(F.y F.ad) λF=>(F.m) λF=>?_
   show _/\_;exact⟨by omega,F.u,G.u⟩
 ·refine wp_exit ?_
  have hi4:gcT f i=gcE f:=by rw[show i=4 by omega];rfl
  rw[hi4]at F;refine k3<|wQ λk11=>wR λk12=>(F.m) λF=>?_
  rw[show (0:Int)=((0:Nat):Int) from rfl]at F;have q1:=G.q 1;replace q1:w3.heap[n1]?=some (.cells (tubC (lowF f (gcE f) 0)) 88 (0,0)):=q1;replace G:=G.rQ 1 q1;clear q1;refine k12<|Yh<|lpB (F.b [1,2,3]) (G.b [0,2]) (4) (λi Lv Sv W=>Lv=[(18,.int .i64 ((i:Nat):Int))]/\Sv=[.q n1 ((tubC (lowF f (gcE f) i))) 88]) ⟨_,_,F.u,G.u,rfl,rfl⟩ ?_
  clear F G;rintro i _ w6 _ _ hi3 ⟨rfl,rfl⟩ F G;replace G:=G.z;refine wR λk13=>(F.y F.ls) λF=>k13<|wQ λk14=>F.ci (λhc19=>?_) (λhc19=>?_)
  ·refine Yi<|k14<|wQ λk15=>Yh<|wR λk16=>(F.m) λF=>(F.m) λF=>k16 ?_
   obtain⟨hf0,hf1⟩:=HF.out i (by omega);have hlf:lowF f (gcE f) i i=f i:=if_neg (by omega);refine Yg<|(F.m) λF=>(F.y (F.ia 4 1)) λF=>(F.y (F.lw (Z2M (G.q 0) (k:=i) rfl (by omega)))) λF=>?_
   rw[hlf]at F;refine(F.m) λF=>?_;refine(F.y (Zgd rfl (F.at rfl) (F.at rfl) (by omega) (by omega) (by omega))) λF=>(F.y (F.ia 4 1)) λF=>(F.sw G 0 (Z2M (G.q 0) (k:=i) rfl (by omega)) λ_ hw=>Z9t hw (G.q 0) (k:=i) rfl (by omega)) λG=>?_;have q1:=G.q 0;rw[Z3Z (g:=lowF f (gcE f) (i+1)) (λk hk=>by simp only[upF,lowF];by_cases e:k=i;(· rw[if_pos e,if_pos (by omega),e]);(by_cases e2:k<i;(· rw[if_neg e,if_pos e2,if_pos (by omega)]);(· rw[if_neg e,if_neg e2,if_neg (by omega)])))]at q1;replace G:=G.rQ 0 q1;clear q1;refine k15<|Yg<|(F.y F.ad) λF=>(F.m) λF=>?_
   show _/\_;exact⟨by omega,_,_,F.u,G.u,rfl,rfl⟩
  ·refine wp_exit ?_
   have q1:=G.q 0;rw[show i=4 by omega]at q1;replace G:=G.rQ 0 q1;clear q1;refine k11<|wR λk17=>(F.y (F.lb (G.q 0))) λF=>(F.sr G 1) λG=>k17 ?_
   refine(F.rg (rs_c F rfl rfl Qy.underlying88 rfl (by kernel_rfl) (G.q 1))) ?_;exact⟨rfl,(G.e 2)⟩
variable{μ:Nat}
section
variable{P:Program}{ρ:Operand->Value}{o:Oper}{w:World}
theorem Zb5{x y z:Operand}{t:TypeId}{b m: Nat}(ho:o.op = .slice t x none (some y) (some z))(hx:ρ x = .pointer (some ⟨b,0,none⟩))(hy:ρ y = .int .i64 (n:Int))(hz:ρ z = .int .i64 (n:Int))(hu:P.underlying t=some (.array (P.arrayLen t) (P.elem t)))(hs:(P.info? (P.elem t)).map (·.size)=some 1)(hm:P.arrayLen t=m)(hn:n<=m):
  (execOp ρ o).run P w = .ok (.value (.slice (some ⟨b,0,none⟩) n n)) w:=by
 have h0:(sizeOf (P.elem t)).run P w = .ok 1 w:=by
  generalize P.elem t=e at hs
  cases hq:P.info? e with
  | none=>simp[hq]at hs
  | some j =>
   have hj:j.size=1:=by simpa[hq] using hs
   simp[sizeOf,typeInfo,hq,hj]
 have hr:=run_sliceAt_array_hm (P:=P) w t ⟨b,0,none⟩ hu .i64 .i64 (n:Int) (n:Int) (by omega) (by omega) (by rw[hm];omega);rw[h0]at hr;simp only[Result.andThen_ok,slicedAt,Nat.zero_mul,Nat.sub_zero,Int.toNat_natCast]at hr;have ha:(if n=0 then(⟨b,0,none⟩:Addr) else Addr.add ⟨b,0,none⟩ 0)=⟨b,0,none⟩:=by split<;>rfl
 rw[ha]at hr;clear hu hs hm h0 ha;unfold execOp;simp only[ho,hx,hy,hz,Option.map_none,Option.map_some,Sem.run_bind,hr,Result.andThen_ok,Sem.run_pure]
end
def cutL(f:Nat->Int)(n:Nat):List Int:=(List.range n).map f
theorem Z8B{w:World}{b: Nat}{T:TypeId}{fz:Nat×Nat}(H:w.heap[b]?=some (.cells (tubC f) T fz))(hn:n<=4): SrcAt w 1 (some ⟨b,0,none⟩) n (ivs (cutL f n)):=by
 refine⟨by simp[ivs,cutL],(λh=>by cases h),λa0 ha j v hv=>?_,Z4N _⟩
 cases ha
 rw[ivs,cutL,Yn,Yn,Option.map_map,Y3]at hv;obtain⟨k,hk,rfl⟩:=hv;obtain⟨hj,rfl⟩:=List.getElem?_eq_some_iff.1 hk;simp only[List.length_range]at hj;have:=Z2M H (i:=(j:Int)) (k:=j) rfl (by omega);rw[Int.toNat_natCast,Nat.mul_one]at this;simp only[List.getElem_range,Function.comp];rw[Go.WideShapes.add_plain];exact this
theorem Zct(x:Vm)(hv:VOk x)(f:Nat->Int)(w:World):Calls (Qy.prog μ) 108 #[.agg #[.int .i64 x.B,.slice x.da x.D.length x.dc,.slice x.la x.L.length x.lc,.int .i64 x.tol],.agg (tubC f)] w λe w'=>∃a c,e = .returned (.slice a x.D.length c)/\w'.ownsRow w.heap.size 3 1 (.slice a x.D.length c) x.D.length (ivs (cutL f x.D.length))/\Ext [] w w':=by
 have E:Ext [] w w:=Ext.refl _ _;have hd4:=hv.d4;refine ZS 14 Qy.func108 rfl Tryz.ntmps108 (Nat.le_of_ble_eq_true rfl) ?_;intro fa F;refine wS λK1 hK1=>?_;refine Yg ?_;refine sqN F (Z1B rfl (F.at rfl)) λfa w1 F hw=>?_;obtain⟨n2,hn⟩:=eQ w.heap.size;rw[<-hn]at F;have s2:=sQ hn;have l2_E:=lQ hn E.size;replace E:=Z2 E hw;have q2:=Zf hw hn;clear hw hn;refine sqN F (Z1B rfl (F.at rfl)) λfa w2 F hw=>?_;obtain⟨n3,hn⟩:=eQ w1.heap.size;rw[<-hn]at F;have s3:=sQ hn;have l3_E:=lQ hn E.size;have m3_2:=tQ hn (Z3 q2);replace q2:=Z0 hw q2;replace E:=Z2 E hw;have q3:=Zf hw hn;clear hw hn;refine F.vl (ZC rfl (ev_c fa _)) λfa F=>?_;refine wN<|hK1 _ _<|wS λK2 hK2=>?_
 refine Yg ?_;refine F.vl (ZO rfl (F.at rfl) Qy.underlying85 rfl (n:=0) (sz:=4) rfl (by kernel_rfl) (by decide)) λfa F=>?_;refine F.vl (ZO rfl (F.at rfl) Qy.underlying27 rfl (n:=1) (sz:=1) rfl (by kernel_rfl) (by decide)) λfa F=>?_;refine F.vl (ZH rfl (F.at rfl) Qy.underlying25 rfl ((Z1 q2 1).trans (getS (get0)))) λfa F=>?_;refine F.vl (Z3r rfl rfl (F.at rfl) Qy.underlying25) λfa F=>?_;refine F.as λfa F=>?_;refine wN<|hK2 _ _<|wS λK3 hK3=>?_
 refine Yg ?_;refine F.mv λfa F=>?_;refine F.mv λfa F=>?_;refine F.vl ((Zb5 (n:=x.D.length) (m:=4) rfl (F.at rfl) (F.at rfl) (F.at rfl) (by kernel_rfl) (by kernel_rfl) (by kernel_rfl) hd4)) λfa F=>?_;have oo:w2.ownsRow w.heap.size 3 1 (.slice none 0 0) 0 []:=World.ownsRow_nil _ _ _ _;have hEs:=E.size;refine ZK F rfl (by decide) rfl (Z8T rfl (w.heap.size) (e:=3) (size:=1) (bytes:=8) Qy.underlying22 (by kernel_rfl) (by decide) (ev_c fa _) oo (F.at rfl) (Z8B q3 hd4) (by omega) (by omega) (by omega)) ?_;clear F fa;rintro fa v' w3 F ⟨hown',hg⟩;obtain⟨va13,vc13,rfl⟩:=Zw hown';replace q2:=Z08 oo hg q2 (by decide);replace q3:=Z08 oo hg q3 (by decide);replace E:=Z0G E oo hg (by omega);replace oo:=hown';clear hg;rw[List.nil_append,Nat.zero_add]at oo;rw[Nat.zero_add]at F;refine F.as λfa F=>?_;refine wN<|hK3 _ _ ?_
 refine wp_ret ?_
 (try simp only[Exit.inBlock,Exit.then,reduceIte])
 refine rt_v F (rs_1 F rfl rfl) ?_;exact⟨_,_,rfl,oo,E⟩
def tubR(f:Nat->Int):List Value:=[.int .i64 (f 0),.int .i64 (f 1),.int .i64 (f 2),.int .i64 (f 3)]
def Z3p(T:List (List Int)):List Value:=(T.map λt=>tubR (val t)).flatten
theorem Z5H(x:Vm)(hv:VOk x)(S:List (Value×List Int))(hs:∀p∈S,RcpOk x p.2)(h6:S.length<=6)(a:Option Addr)(c:Nat)(w:World)(h:Z0M w a S):
  Calls (Qy.prog μ) 70 #[.agg #[.int .i64 x.B,.slice x.da x.D.length x.dc,.slice x.la x.L.length x.lc,.int .i64 x.tol],.slice a S.length c] w λe w'=>∃b d,e = .returned (.slice b S.length d)/\w'.ownsRow w.heap.size 88 4 (.slice b S.length d) S.length (Z3p (S.map (·.2)))/\Ext [] w w':=by
 have E:Ext [] w w:=Ext.refl _ _;have HA:=Lib.hid h;have HS:=Lib.hid h.1;have HV:=Lib.hid hv;have HO:=Lib.hid hs;clear h hv hs;have om:w.ownsRow w.heap.size 88 4 (.slice none 0 0) 0 (Z3p ((S.map (·.2)).take 0)):=World.ownsRow_nil _ _ _ _;have G:=(Bk.nil w).ce E;replace G:=G.co om;refine(ent 26 Tryz.f70 rfl) λF=>wR λk1=>(F.bx G) λyy F G=>(F.m) λF=>k1<|wQ λk2=>wR λk3=>(F.m) λF=>(F.y F.ln) λF=>(F.y F.gt) λF=>k3<|(F.JF)<|Yi<|k2<|wR λk4=>(F.m) λF=>k4<|wQ λk5=>wR λk6=>(F.m) λF=>(F.y F.ln) λF=>(F.m) λF=>k6<|Yh<|lpB (F.b [2,12,13]) (G.b [0,2]) (S.length) (λi Lv Sv W=>∃va:Option Addr,∃vc:Nat,Lv=[(5,.slice va i vc),(14,.int .i64 ((i:Nat):Int))]/\Sv=[]/\W.ownsRow w.heap.size 88 4 (.slice va i vc) i (Z3p ((S.map (·.2)).take i))) ⟨_,_,F.u,G.u,none,0,rfl,rfl,(G.o 1)⟩ ?_
 clear F G;rintro i _ w2 _ _ hi1 ⟨va,vc,rfl,rfl,om⟩ F G;replace G:=(G.z).co om;refine wR λk7=>(F.y F.ls) λF=>k7<|wQ λk8=>F.ci (λhc15=>?_) (λhc15=>?_)
 ·refine Yi<|k8<|wQ λk9=>Yh<|wQ λk10=>?_
  obtain⟨la,lca,hla,hlr⟩:=HA.out.2 _ (Zb (.bool true,[]) (show i<S.length by omega));have hrc:=HO.out _ (Zb (.bool true,[]) (show i<S.length by omega));refine Yg<|(F.ix HS.out i) λxr11 F=>(F.y (F.l1 (xr11 _ (G.e 2)) 0)) λF=>?_
  rw[hla]at F;refine(F.m) λF=>k10<|Yg<|(F.m) λF=>(F.y (F.lb (G.q 1))) λF=>(F.m) λF=>(F.k0 G (Z9 x HV.out (S.getD i (.bool true,[])).2 hrc la lca _ (hlr.ext (G.e 2) (by simp)))) λF G=>(F.bs G 4 #[.int .i64 (val (S.getD i (.bool true,[])).2 0),.int .i64 (val (S.getD i (.bool true,[])).2 1),.int .i64 (val (S.getD i (.bool true,[])).2 2),.int .i64 (val (S.getD i (.bool true,[])).2 3)] Qy.zeroValue88) λyy F G=>?_
  have hEs:=(G.e 3).size;refine ZK F rfl (by decide) (F.want rfl) (ZX rfl (w.heap.size) (e:=88) (size:=4) (bytes:=32) Qy.underlying93 (by kernel_rfl) (by decide) (F.at rfl) (G.o 1) (F.at rfl) (G.q 0) rfl (by simp[Value.oneCell']) (by omega) (by omega) (by omega)) ?_;clear F;rintro _ v' w5 F ⟨hown',hg⟩;obtain⟨va23,vc23,rfl⟩:=Zw hown';replace G:=(G.d 0).gr 0 hg hown';clear hg hown';have om:=G.o 0;rw[show Z3p ((S.map (·.2)).take i)++[.int .i64 (val (S.getD i (.bool true,[])).2 0),.int .i64 (val (S.getD i (.bool true,[])).2 1),.int .i64 (val (S.getD i (.bool true,[])).2 2),.int .i64 (val (S.getD i (.bool true,[])).2 3)]=Z3p ((S.map (·.2)).take (i+1)) by rw[Z2L (S.map (·.2)) [] (show i<(S.map (·.2)).length by rw[Yj];omega),Z3p,Z3p,List.map_append,List.flatten_append,Z2d S (by omega)];simp[tubR]]at om;replace G:=G.rO 0 om;clear om;refine(F.m) λF=>k9<|Yg<|(F.y F.ad) λF=>(F.m) λF=>?_
  show _/\_;exact⟨by omega,_,_,F.u,G.u,_,_,rfl,rfl,(G.o 0)⟩
 ·refine wp_exit ?_
  have om:=G.o 0;rw[List.take_of_length_le (show (S.map (·.2)).length<=i by rw[Yj];omega),show i=S.length by omega]at om;rw[show i=S.length by omega]at F;replace G:=G.rO 0 om;clear om;refine k5<|wR λk12=>(F.m) λF=>(F.m) λF=>k12<|(F.r1) ?_
  have om:=G.o 0;exact⟨_,_,rfl,om,(G.e 2)⟩
variable{μ:Nat}
section
variable{P:Program}{r n:Nat}
def Z7k(o:Oper):Bool:=match o.op with | .defer _=>false | _=>true
theorem Zfn(h:Z7k o=true): ∀c,o.op ≠ .defer c:=λc e=>by rw[Z7k,e]at h;cases h
theorem Zfy{row:String}{args:Array Value}{w:World}{R:Value->World->Prop}(h:Rows P row args w R): RowsIn (Fence.wide.inRound r) n P row args w R:=by
 intro c cs _;obtain⟨v,w',h1,h2⟩:=h c cs;exact⟨v,w',h1,stepsIn_wide.2 h2⟩
theorem Zch{f:FuncId}{args:Array Value}{w:World}{R:Ending->World->Prop}(h:Calls P f args w R): CallsIn (Fence.wide.inRound r) n P f args w R:=CallsIn.inRound r (callsIn_wide.2 h)
theorem Zfs{a:Act}{w:World}{K:Act->World->Prop}{Q:Exit->Act->World->Prop}(hd:Z7k o=true)(h:o.wp P a w K Q): o.wpIn (Fence.wide.inRound r) n P a w K Q:=by
 refine⟨λ_ _=>trivial,?_⟩;rw[Fence.inRound_round,Oper.semAt_some r _ _ (Zfn hd)];unfold Oper.wp at h;generalize (execOp a.eval o).run P w=x at h;have h0:((Fence.wide.inRound r).depth.isSome=true->1<=n):=λh=>by cases h
 cases x with
 | ok x w' =>
  cases x<;>simp only[Oper.upon,Oper.uponIn]at h ⊢ <;> first
   | exact h
   | exact⟨h0,CallsIn.mono (Zch h) λe w'' he=>by cases e<;>exact he⟩
   | exact⟨h0,RowsIn.mono (Zfy h) λ_ _ he=>he⟩
   | exact h.elim
 | halt x w'=>cases x<;>simp only[Oper.upon,Oper.uponIn]at h ⊢ <;> exact h
theorem Z3L{a:Act}{w:World}{K K':Act->World->Prop}{Q:Exit->Act->World->Prop}(hd:Z7k o=true)(hK:∀a w,K a w->K' a w)(h:o.wp P a w K Q): o.wpIn (Fence.wide.inRound r) n P a w K' Q:=Oper.wpIn_mono hK (Zfs hd h)
theorem Z7d{ops:Array Oper}{Q:Exit->Act->World->Prop}(hQ:¬LetsOut Q):∀(l:List Oper) (a:Act) (w:World),l.all Z7k=true->wpList P ops Q l a w->wpListIn (Fence.wide.inRound r) n P ops Q l a w
 | [],_,_,_,h=>h
 | o::l,a,w,hd,h=>by
  simp only[List.all_cons,Y5]at hd;unfold wpListIn;unfold wpList at h
  by_cases hw:Region.wanted o (yielded ops a.tmps)=true
  ·simp only[hw,if_true]at h⊢
   exact Z3L hd.1 (λa w=>Z7d hQ l a w hd.2) (h.resolve_right λh=>hQ h.2)
  ·simp only[hw]at h⊢
   exact⟨λ_ _=>trivial,Z7d hQ l _ w hd.2 h⟩
theorem Zl{l:List Oper}{id:Nat}{Q:Exit->Act->World->Prop}{a:Act}{w:World}(hd:l.all Z7k=true)(hQ:¬LetsOut Q)(h:wpList P l.toArray Q l a w): (Code.region id l.toArray false).wpIn (Fence.wide.inRound r) n P Q a w:=
 wpIn_region_lit (Z7d hQ l a w hd h)
theorem Z6C{ops:Array Oper}{md:Region.Mode}{Q:Exit->Act->World->Prop}(hQ:¬LetsOut Q)(hd:ops.toList.all Z7k=true):∀(fuel:Nat) (listed:Array Bool) (a:Act) (w:World),wpAny P md ops Q fuel listed a w->wpAnyIn (Fence.wide.inRound r) n P md ops Q fuel listed a w
 | 0,_,_,_,h=>h
 | fuel+1,listed,a,w,h=>by
  refine⟨h.1,λi hi=>?_⟩;have h2:=h.2 i hi;unfold wpOp at h2;unfold wpOpIn
  cases ho:ops[i]? with
  | none=>simp only[ho]at h2⊢;exact Z6C hQ hd fuel _ a w h2
  | some o =>
   have hdo:Z7k o=true:=Yl.1 hd o (by
    obtain⟨h3,h4⟩:=Y0.1 ho;rw[<-h4];simp)
   simp only[ho]at h2⊢
   by_cases hw:Region.wanted o (yielded ops a.tmps)=true
   ·simp only[hw,if_true]at h2⊢
    exact Z3L hdo (λa w=>Z6C hQ hd fuel _ a w) (h2.resolve_right λh=>hQ h.2)
   ·simp only[hw]at h2⊢
    exact⟨λ_ _=>trivial,Z6C hQ hd fuel _ _ w h2⟩
theorem Z8m{Q:Exit->Act->World->Prop}{a:Act}{l:List Oper}{id:Nat}{w:World}(T:World->Prop)(stop:Option Nat)(hm:P.follows .mixedOrders=true)(hd:l.all Z7k=true)(hQ:¬LetsOut Q)(h:∀W:World,W.heap=w.heap->Ext [] w W->Zq P .any l.toArray Q T stop l.toArray.size (Array.replicate l.toArray.size false) a W): (Code.region id l.toArray true).wpIn (Fence.wide.inRound r) n P Q a w:=
 wpIn_region_any hm (Z6C hQ (by simpa using hd) _ _ _ _ (Z6B _ _ _ _ (h _ rfl ⟨rfl,rfl,rfl,Ye _,λ_ _ _=>rfl⟩)))
end
section
variable{P:Program}{G:Fence}{n:Nat}{Q:Exit->Act->World->Prop}{N:Nat}{D:List Deferred}{a:Act}{L:List (Nat×Value)}{w:World}
theorem Zju(F:Has N D a L)(hc:L.lookup k=some (.bool true))(h:x.wpIn G n P Q a w): (Code.cond (.tmp k) x y).wpIn G n P Q a w:=wpIn_cond_true (F.at hc) h
theorem Zgl(F:Has N D a L)(hc:L.lookup k=some (.bool b))(hb:b=true)(h:x.wpIn G n P Q a w): (Code.cond (.tmp k) x y).wpIn G n P Q a w:=wpIn_cond_true (by rw[F.at hc,hb]) h
theorem Zgm(F:Has N D a L){p:Prop}[Decidable p](hc:L.lookup k=some (.bool (decide p)))(ht:p->x.wpIn G n P Q a w)(hf:¬p->y.wpIn G n P Q a w): (Code.cond (.tmp k) x y).wpIn G n P Q a w:=by
 by_cases h:p
 ·exact wpIn_cond_true (by rw[F.at hc,decide_eq_true h]) (ht h)
 ·exact wpIn_cond_false (by rw[F.at hc,decide_eq_false h]) (hf h)
theorem Zjv(F:Has N D a L)(hc:L.lookup k=some (.bool b))(ht:b=true->x.wpIn G n P Q a w)(hf:b=false->y.wpIn G n P Q a w): (Code.cond (.tmp k) x y).wpIn G n P Q a w:=by
 cases b
 ·exact wpIn_cond_false (F.at hc) (hf rfl)
 ·exact wpIn_cond_true (F.at hc) (ht rfl)
theorem ZhX(M:Nat)(I:Nat->Act->World->Prop)(h0:I 0 a w)(round:∀i a w,i<=M->I i a w->c.wpIn G n P (Exit.then (λa' w'=>i<M/\I (i+1) a' w') Q) a w): (Code.loop c).wpIn G n P Q a w:=by
 intro b k cs hro hb hr;have key:∀m i a w,m=M-i->i<=M->I i a w->∃e a' w',Q e a' w'/\ArrivesIn (Machine.fenced P G) P (lone (b.atR a (.code c :: .inLoop c::k)) cs w) b k cs e a' w':=by
  intro m
  induction m with
  | zero =>
   intro i a w hn hi hI;obtain⟨e,a₁,w₁,hq,harr⟩:=round i a w hi hI b (.inLoop c::k) cs hro hb hr
   cases e with
   | normal=>exact absurd hq.1 (by omega)
   | _=>exact⟨_,a₁,w₁,hq,.pass (x:=.inLoop c) rfl (λ_ _=>.inl (by simp)) harr⟩
  | succ m ih =>
   intro i a w hn hi hI;obtain⟨e,a₁,w₁,hq,harr⟩:=round i a w hi hI b (.inLoop c::k) cs hro hb hr
   cases e with
   | normal =>
    obtain⟨hlt,hI₁⟩:=hq;obtain⟨e₂,a₂,w₂,hq₂,harr₂⟩:=ih (i+1) a₁ w₁ (by omega) hlt hI₁;exact⟨e₂,a₂,w₂,hq₂,.of_steps (StepsIn.trans harr (.one (fenced_calm hb hr rfl) stepR_inLoop)) harr₂⟩
   | _=>exact⟨_,a₁,w₁,hq,.pass (x:=.inLoop c) rfl (λ_ _=>.inl (by simp)) harr⟩
 obtain⟨e,a',w',hq,harr⟩:=key _ 0 a w rfl (Nat.zero_le _) h0;exact⟨e,a',w',hq,.of_steps (.one (fenced_calm hb hr rfl) stepR_loop) harr⟩
theorem ZhW{L0:List (Nat×Value)}(F:Has N D a L0)(M:Nat)(J:Nat->List (Nat×Value)->World->Prop)(h0:∃Lv,J 0 Lv w/\Has N D a (Lv++L0))(round:∀i Lv a w,i<=M->J i Lv w->Has N D a (Lv++L0)->c.wpIn G n P (Exit.then (λa' w'=>i<M/\∃Lv',J (i+1) Lv' w'/\Has N D a' (Lv'++L0)) Q) a w): (Code.loop c).wpIn G n P Q a w:=
 ZhX M (λi a w=>∃Lv,J i Lv w/\Has N D a (Lv++L0)) h0 λi a w hi ⟨Lv,hJ,hF⟩=>round i Lv a w hi hJ hF
end
variable{μ:Nat}
section
variable{P:Program}{fn:Func}{R:Ending->World->Prop}{N:Nat}{D:List Deferred}{a:Act}{L:List (Nat×Value)}{w:World}
theorem Z1M{f:FuncId}(N:Nat)(hf:P.funcs[f]?=some fn)(hb:fn.body=some c)(hN:fn.ntmps=N)(hle:args.length<=N)(h:∀a,Has N [] a (argL 0 args)->c.wp P (bodyPostM Fence.wide 9 P fn R) a w): Calls P f args.toArray w R:=by
 refine(callsIn_wide (n:=9)).1 (callsIn_of_wp_marks hf hb trivial (wpIn_wide.2 (h _ ⟨rfl,by simp;omega,λk v e=>?_⟩)));obtain⟨j,h1,h2⟩:=Z6D _ _ _ _ e;obtain rfl:k=j:=by omega
 have hj:=(List.getElem?_eq_some_iff.1 h2).1;simp only[Y6];rw[Array.getElem?_append_left (by simpa using hj)];simp[h2]
theorem entM{f:FuncId}(N:Nat)(fn:Func)(hb:fn.body=some c)(hf:P.funcs[f]?=some fn:=by kernel_rfl)(hN:fn.ntmps=N:=by rfl)(hle:args.length<=N:=by exact Nat.le_of_ble_eq_true rfl)(h:∀{a},Has N [] a (argL 0 args)->c.wp P (bodyPostM Fence.wide 9 P fn R) a w): Calls P f args.toArray w R:=Z1M N hf hb hN hle λ_ F=>h F
theorem Z3O(F:Has N D a L)(h:LeavesInM Fence.wide 9 P fn a.tmps R D .returning w):bodyPostM Fence.wide 9 P fn R .ret a w:=by
 show LeavesInM _ _ _ _ _ _ a.defers _ _;rw[F.ds];exact h
theorem Z0R{tmps:Array Value}{v:Value}(hr:(results fn tmps).run P w = .ok v w)(h:R (.returned v) w): LeavesInM Fence.wide 9 P fn tmps R [] .returning w:=⟨v,hr,h⟩
theorem Z9g{tmps:Array Value}{b:Nat}{args:Array Value}{ds:List Deferred}(hk:w.heap[b]?=some (.deferred (some [])))(h:∀w2,w2=w.putObj b (.deferred none)->LeavesInM Fence.wide 9 P fn tmps R ds .returning w2): LeavesInM Fence.wide 9 P fn tmps R ({target:=.collected b,args:=args}::ds) .returning w:=
 ⟨by simp,.inl ⟨b,_,rfl,run_takeDeferred hk,h _ rfl⟩⟩
end
theorem ZeW(xT:TypeId)(w:World):(Instr.typeAssert Value.nilIface xT 135 true).run (Qy.prog μ) w = .ok (.tuple #[.int .i64 0,.bool false]) w:=by
 simp[Instr.typeAssert,run_underlying Qy.underlying135,Qy.zeroValue135,go_sem,Result.andThen]
theorem Z8X(n:Nat)(p:Addr)(w:World):
  CallsDIn Fence.wide n (Qy.prog μ) 63 #[.pointer (some p)] .returning w λe u' w'=>e = .returned (.tuple #[])/\u' = .returning/\w'=w:=by
 refine callsDIn_of_wpSIn Qy.func63 rfl trivial λc₀ cs hu=>?_;apply wpSIn_seq;apply wpSIn_region;simp[wpOpsSIn,Fence.wide,go_sem,recoverD,hu,Tryz.ntmps63,Exit.thenS,ZeW,Result.andThen];apply wpSIn_seq;apply wpSIn_region;simp[wpOpsSIn,Fence.wide,go_sem,Exit.thenS,Array.replicate];refine wpSIn_cond (t:=false) (by simp[Act.eval]) ?_;simp only[Bool.false_eq_true,if_false];refine wpSIn_of_wpIn rfl (wpIn_skip ?_)
 cases c₀
 simp_all [bodyPostS,results,Tryz.results63]
theorem ZY{fn:Func}{R:Ending->World->Prop}{tmps:Array Value}{w:World}{b:Nat}{ds:List Deferred}(h:LeavesInM Fence.wide 9 (Qy.prog μ) fn tmps R ds .returning w): LeavesInM Fence.wide 9 (Qy.prog μ) fn tmps R ({target:=.fn (.func 63) #[],args:=#[.pointer (some ⟨b,0,none⟩)]}::ds) .returning w:=by
 refine⟨by simp,.inr ⟨(λh=>by cases h),_,_,63,#[.pointer (some ⟨b,0,none⟩)],rfl,(by simp[go_sem,Qy.call63]),(λ_ _=>trivial),?_⟩⟩;refine CallsDIn.mono (Z8X 8 ⟨b,0,none⟩ w) ?_;rintro e u' w' ⟨rfl,rfl,rfl⟩;exact h
section
variable{P:Program}{ops:Array Oper}{Q:Exit->Act->World->Prop}{o:Oper}{rest:List Oper}{N:Nat}{D:List Deferred}{a:Act}{L:List (Nat×Value)}{w w':World}{v:Value}
theorem Z2W(F:Has N D a L){d:Deferred}(hd:o.dst=none)(hw:Region.wanted o (yielded ops a.tmps)=true)(hr:(execOp a.eval o).run P w = .ok (.defer d) w)(h:∀a2,Has N (d::D) a2 L->wpList P ops Q rest a2 w): wpList P ops Q (o::rest) a w:=by
 unfold wpList;simp only[hw,if_true,Oper.wp,hr,Oper.upon,hd,Act.put];exact .inl (h _ ⟨by simp[F.ds],F.sz,F.get⟩)
theorem Z40{ρ:Operand->Value}{f:FuncId}{l:List Operand}{ts:Array TypeId}{vs:List Value}(ho:o.op = .defer {callee:=.value (.func f),args:=l.toArray,argTypes:=ts})(hf:ρ (.func f) = .func (.func f) #[] #[])(ha:l.map ρ=vs): (execOp ρ o).run P w = .ok (.defer {target:=.fn (.func f) #[],args:=vs.toArray}) w:=by
 have ha:=Z3i ha;rw[<-ha];unfold execOp;simp[ho,resolve,hf,go_sem]
theorem Has.df{f:FuncId}{l:List Operand}{ts:Array TypeId}{vs:List Value}(F:Has N D a L)(ho:o.op = .defer {callee:=.value (.func f),args:=l.toArray,argTypes:=ts}:=by rfl)(ha:opvs L l=some vs:=by rfl)(hd:o.dst=none:=by rfl)(hw:Z0j L ops o=some true:=by rfl)(h:∀{a2},Has N ({target:=.fn (.func f) #[],args:=vs.toArray}::D) a2 L->wpList P ops Q rest a2 w): wpList P ops Q (o::rest) a w:=Z2W F hd (F.want hw) (Z40 ho rfl (F.ops ha)) λ_ F=>h F
end
theorem Has.mark{N:Nat}{D:List Deferred}{a:Act}{L:List (Nat×Value)}(F:Has N D a L){d:Deferred}: Has N (d::D) {a with defers:=d::a.defers} L:=⟨by simp[F.ds],F.sz,F.get⟩
theorem ZE{w w2:World}{D: Nat}{o o':Obj}(e:w2=w.putObj D o')(hD:w.heap[D]?=some o)(hc:o.isCells=false){cs:Array Value}{T:TypeId}{fz:Nat×Nat}(h:w.heap[k]?=some (.cells cs T fz)): w2.heap[k]?=some (.cells cs T fz):=by
 have:k≠D:=λe=>by subst e;rw[hD]at h;cases h;cases hc
 rw[e,World.putObj_heap_other this];exact h
theorem Z78{X:List Nat}{w W w2:World}{D:Nat}{o':Obj}(h:Ext X w W)(e:w2=W.putObj D o')(hD:w.heap.size<=D): Ext X w w2:=by
 rw[e];exact⟨h.os,h.tape,h.output,by simpa[World.putObj] using h.size,λk hk hx=>(World.putObj_heap_other (by omega)).trans (h.block k hk hx)⟩
theorem Zaw{w w2:World}{base:Nat}{e:TypeId}{size: Nat}{v:Value}{xs:List Value}{D:Nat}{o o':Obj}(hw:w2=w.putObj D o')(hD:w.heap[D]?=some o)(hc:o.isCells=false)(h:w.ownsRow base e size v n xs): w2.ownsRow base e size v n xs:=by
 rw[hw];refine h.kept (grownBy_putObj' w D o') ?_
 rcases h.2 with⟨rfl,_⟩ | ⟨g,cap,cur,rfl,_,hgb,_⟩
 ·exact .inl rfl
 ·refine .inr λe=>?_
  obtain rfl:g=D:=by simpa[Value.ownBlock] using e
  rw[hD]at hgb;cases hgb;cases hc
section
variable{P:Program}{fn:Func}{N:Nat}{D:List Deferred}{a:Act}{L:List (Nat×Value)}{w:World}
theorem Z3H{P:Program}{t:TypeId}{b off:Nat}{v:Value}{d:TypeDesc}{w:World}(hd:P.underlying t=some d)(ha:d.isRow=false)(hc:w.cell? ⟨b,off,none⟩=some v): (loadVar t ⟨b,off,none⟩).run P w = .ok v w:=by
 cases d<;>first | (simp[TypeDesc.isRow]at ha;done) | simp[loadVar,isAgg,underlying,hd,load,hc,Sem.run,go_sem]
theorem Z4w(F:Has N D a L){t s ty b:Nat}{u v:Value}{T:TypeId}{d:TypeDesc}{fz:Nat×Nat}(hr:fn.results=#[.tmp t,.cell s ty])(hv:L.lookup t=some v)(hs:L.lookup s=some (.pointer (some ⟨b,0,none⟩)))(hd:P.underlying ty=some d)(ha:d.isRow=false)(H:w.heap[b]?=some (.cells #[u] T fz)): (results fn a.tmps).run P w = .ok (.tuple #[v,u]) w:=by
 have hl:=Z3H (P:=P) (t:=ty) hd ha ((Z1 H 0).trans get0);have h1:=F.get _ _ hv;have h2:=F.get _ _ hs;simp only[Y6]at h1 h2;simp[results,hr,h1,h2,asAddr,hl,Result.andThen]
theorem ZaF(F:Has N D a L){t r s ty b:Nat}{u v x:Value}{T:TypeId}{d:TypeDesc}{fz:Nat×Nat}(hr:fn.results=#[.tmp t,.tmp r,.cell s ty])(hv:L.lookup t=some v)(hx:L.lookup r=some x)(hs:L.lookup s=some (.pointer (some ⟨b,0,none⟩)))(hd:P.underlying ty=some d)(ha:d.isRow=false)(H:w.heap[b]?=some (.cells #[u] T fz)): (results fn a.tmps).run P w = .ok (.tuple #[v,x,u]) w:=by
 have hl:=Z3H (P:=P) (t:=ty) hd ha ((Z1 H 0).trans get0);have h1:=F.get _ _ hv;have h2:=F.get _ _ hs;have h3:=F.get _ _ hx;simp only[Y6]at h1 h2 h3;simp[results,hr,h1,h2,h3,asAddr,hl,Result.andThen]
end
variable{μ:Nat}
def Z1i(ob:Nat)(W:World):Option Nat:=match W.heap[ob]? with
 | some (.cells cs _ _)=>(cs[0]?).bind Value.ownBlock
 | _=>none
def Safe(X:List Nat)(ob k:Nat)(W:World):Prop:=k ∉ X/\k≠ob/\Z1i ob W≠some k
structure KeepR(X:List Nat)(ob:Nat)(A B:World):Prop where
 size:A.heap.size<=B.heap.size
 cells:∀(k:Nat) (cs:Array Value) (T:TypeId) (fz:Nat×Nat),A.heap[k]?=some (.cells cs T fz)->Safe X ob k A->B.heap[k]?=some (.cells cs T fz)
 row:Z1i ob B=Z1i ob A\/∀r,Z1i ob B=some r->A.heap.size<=r
section
variable{X:List Nat}{ob k:Nat}{A B C:World}
theorem Safe.keep(h:Safe X ob k A)(hk:k<A.heap.size)(K:KeepR X ob A B):Safe X ob k B:=by
 refine⟨h.1,h.2.1,λe=>?_⟩
 rcases K.row with h1 | h1
 ·exact h.2.2 (by rw[<-h1];exact e)
 ·have:=h1 _ e;omega
theorem Safe.same(h:Safe X ob k A)(e:B.heap[ob]?=A.heap[ob]?):Safe X ob k B:=⟨h.1,h.2.1,by rw[Z1i,e];exact h.2.2⟩
theorem KeepR.refl:KeepR X ob A A:=⟨Ye _,λ_ _ _ _ h _=>h,.inl rfl⟩
theorem KeepR.trans(h:KeepR X ob A B)(k:KeepR X ob B C):KeepR X ob A C:=by
 refine⟨Yd h.size k.size,λi cs T fz hi hs=>k.cells i cs T fz (h.cells i cs T fz hi hs) (hs.keep (Z3 hi) h),?_⟩
 rcases k.row with h1 | h1
 ·rw[h1];exact h.row
 ·exact .inr λr e=>Yd h.size (h1 r e)
theorem KeepR.put{l:Nat}{o o':Obj}(hl:A.heap[l]?=some o)(ho:o.isCells=false)(hne:ob≠l):KeepR X ob A (A.putObj l o'):=by
 have h0:(A.putObj l o').heap[ob]?=A.heap[ob]?:=World.putObj_heap_other hne;refine⟨by simp[World.putObj],λi cs T fz hi _=>?_,.inl (by rw[Z1i,h0];rfl)⟩;have:i≠l:=λe=>by subst e;rw[hl]at hi;cases hi;cases ho
 rw[World.putObj_heap_other this];exact hi
end
def SeqR{α:Type}(P:Program)(gf:Nat)(lb:Array Value)(encs:α->Array Value)(X:List Nat)(ob:Nat)(xs:List α)(w:World):Prop:=
 ∀(l:Nat) (J:List α->World->Prop) (W:World),w.heap.size<=W.heap.size->(∀k,k<w.heap.size->W.heap[k]?=w.heap[k]?) ->
  (∀s U V,J s U->U.grownBy V none->J s V) ->
  (∀s U V r,J s U->Safe X ob r U->W.heap.size<=r->(∃o:Obj,U.heap[r]?=some o/\o.isCells=true)->U.grownBy V (some r)->J s V) ->
  (∀pre x V,J pre V->pre++[x] <+: xs->YieldAt Fence.wide 0 P l (encs x) V λe V'=>e = .returned (.bool true)/\J (pre++[x]) V'/\KeepR X ob V V') ->
  J [] W->Calls P gf (#[.func (.yield l) #[] #[]]++lb) W λe W'=>(∃v,e = .returned v)/\J xs W'
def ZlP{α:Type}(B:Nat)(X:List Nat)(ob:Nat)(I:List α->World->Prop)(xs:List α)(W:World):Exit->Act->World->Prop
 | .normal,_,W'=>KeepsFrom B W W'/\KeepR X ob W W'/\I xs W'
 | _,_,_=>False
theorem ZbS{l:Nat}{f:FuncId}{tmps:Array Value}{assign body:Code}{w:World}{R:Ending->World->Prop}{P:Program}{m m':Nat}(h:RoundIn Fence.wide m P l f tmps assign body w R): RoundIn Fence.wide m' P l f tmps assign body w R:=⟨h.1,λc cs _=>h.2 c cs (λd h=>by cases h)⟩
theorem ZdH{α:Type}{P:Program}{g:Operand}{ps:Array Tmp}{assign body:Code}{Q:Exit->Act->World->Prop}{a:Act}{w:World}{gf:Nat}{lb:Array Value}(hg:a.eval g = .func (.func gf) #[] lb)(eg:∀args w,(callFunc gf args).run P w = .ok (.enter gf args) w){encs:α->Array Value}{X:List Nat}{ob:Nat}{xs:List α}(hseq:SeqR P gf lb encs X ob xs w)(hps:∀x,(encs x).size=ps.size)(hob:ob<w.heap.size)(I:List α->World->Prop)(hI1:∀s U V,I s U->U.grownBy V none->I s V)(hIo:∀s U V r,I s U->w.heap.size<=r->(∃o:Obj,U.heap[r]?=some o/\o.isCells=false)->U.grownBy V (some r)->I s V)(hIc:∀s U V r,I s U->w.heap.size<=r->Safe X ob r U->(∃o:Obj,U.heap[r]?=some o/\o.isCells=true)->U.grownBy V (some r)->I s V)(h0:I [] w)(Ax:List α->α->Act->World->Prop)(hAx:∀pre x a' U V r,Ax pre x a' U->w.heap.size<=r->(∃o:Obj,U.heap[r]?=some o/\o.isCells=false)->U.grownBy V (some r)->Ax pre x a' V) (hassign:∀(l:Nat) (pre:List α) (x:α) (W:World) (K:Act->World->Prop),I pre W->(∀a' W',KeepsFrom w.heap.size W W'->KeepR X ob W W'->Ax pre x a' W'->K a' W') ->
   assign.wpIn (Fence.wide.inRound l) 0 P (Exit.then K (λ_ _ _=>False)) {tmps:=(ps.zip (encs x)).foldl (λt (p,v)=>t.setIfInBounds p v) a.tmps,defers:=[]} W) (hbody:∀(l:Nat) (pre:List α) (x:α) (a':Act) (W:World),Ax pre x a' W->pre++[x] <+: xs->body.wpIn (Fence.wide.inRound l) 0 P (ZlP w.heap.size X ob I (pre++[x]) W) a' W) (hdone:∀(D:Nat) (W:World),w.heap.size<=D->I xs W->W.heap[D]?=some (.deferred (some []))->Q .normal {a with defers:={target:=.collected D,args:=#[]}::a.defers} W):
  (Code.rangeFunc g ps assign body).wp P Q a w:=by
 refine(wpIn_wide (n:=1)).1 (wpIn_rangeFunc λfn hfn=>?_);obtain⟨rec,hrec⟩:∃rec:LoopState->Option Code->Loop,rec=λst pe=>{state:=st,pending:=pe,fn,tmps:=a.tmps,params:=ps,assign,body,defers:=w.heap.size}:=⟨_,rfl⟩;have hput:∀{s:List α} {U:World} {l:Nat} {o:Obj} (o':Obj),I s U->w.heap.size<=l->U.heap[l]?=some o->o.isCells=false->I s (U.putObj l o'):=
  λo' hi hl hu ho=>hIo _ _ _ _ hi hl ⟨_,hu,ho⟩ (grownBy_putObj' _ _ _)
 have hn:∀{l:Nat},w.heap.size<=l->ob≠l:=λh e=>by omega
 have sD:∀(o:Obj),(w.alloc o).heap.size=w.heap.size+1:=λo=>by simp
 obtain⟨W1,hW1⟩:∃W1,W1=(w.alloc (.deferred (some []))).alloc (.loop (rec .ready none)):=⟨_,rfl⟩;have hs1:W1.heap.size=w.heap.size+1+1:=by rw[hW1];simp
 have hL1:W1.heap[w.heap.size+1]?=some (.loop (rec .ready none)):=by rw[hW1];exact Z6I (by simp)
 have hD1:W1.heap[w.heap.size]?=some (.deferred (some [])):=by rw[hW1];exact(Below.heap_alloc _ _ _ (by simp)).trans (World.alloc_heap_new w _)
 have hb1:∀k,k<w.heap.size->W1.heap[k]?=w.heap[k]?:=λk hk=>by
  rw[hW1];exact(Below.heap_alloc _ _ _ (by simp;omega)).trans (Below.heap_alloc _ _ _ hk)
 have hI0:I [] W1:=by rw[hW1];exact hI1 _ _ _ (hI1 _ _ _ h0 (World.grownBy_alloc _ _ _)) (World.grownBy_alloc _ _ _)
 refine⟨w.heap.size+1,[{target:=.collected w.heap.size,args:=#[]}],W1,{target:=.fn (.func gf) lb,args:=#[.func (.yield (w.heap.size+1)) #[] #[]]},W1,gf,
  #[.func (.yield (w.heap.size+1)) #[] #[]]++lb,W1,?_,?_,λ_ _=>trivial,?_,(λh=>by cases h),?_⟩
 ·rw[hW1,hrec];exact run_enterLoop_outer _ _ _ _ _
 ·simp only[resolve,hg]
  simp[go_sem]
 ·simp[invoke,go_sem,eg]
 ·refine(callsIn_wide.2 (hseq (w.heap.size+1) (λpre W=>I pre W/\W.heap[w.heap.size+1]?=some (.loop (rec .ready none))/\W.heap[w.heap.size]?=some (.deferred (some [])))
   W1 (by omega) hb1 (λs U V h hg'=>⟨hI1 _ _ _ h.1 hg',(hg'.block _ (Z3 h.2.1) (by simp)).trans h.2.1,(hg'.block _ (Z3 h.2.2) (by simp)).trans h.2.2⟩)
   (λs U V r h hsf hr hc hg'=>⟨hIc _ _ _ _ h.1 (by omega) hsf hc hg',(hg'.block _ (Z3 h.2.1) (λe=>by cases e;omega)).trans h.2.1,(hg'.block _ (Z3 h.2.2) (λe=>by cases e;omega)).trans h.2.2⟩)
   ?_ ⟨hI0,hL1,hD1⟩)).mono ?_
  ·rintro pre x W ⟨hi,hl,hk⟩ hpx
   have hy:=run_yield (P:=P) (args:=encs x) hl (by rw[hrec];exact hps x);rw[hrec]at hy;refine⟨fn,_,assign,body,hy,roundIn_of_wpIn hfn (hassign _ pre x W _ hi ?_)⟩;clear hy;intro a' Wa hkf hkr hax;have hla:=hkf.same _ _ (by omega) hl rfl;have hka:=hkf.same _ _ (Ye _) hk rfl;refine⟨_,run_beginRound hla (by rw[hrec]),?_⟩;obtain⟨Wb,hWb⟩:∃Wb,Wb=Wa.putObj (w.heap.size+1) (.loop {rec .ready none with state:=.busy}):=⟨_,rfl⟩;have hlb:Wb.heap[w.heap.size+1]?=some (.loop {rec .ready none with state:=.busy}):=by rw[hWb];exact World.putObj_heap_same (Z3 hla)
   have hkb:Wb.heap[w.heap.size]?=some (.deferred (some [])):=by rw[hWb];exact(World.putObj_heap_other (by omega)).trans hka
   have hrb:KeepR X ob Wa Wb:=by rw[hWb];exact KeepR.put hla rfl (hn (by omega))
   have haxb:Ax pre x a' Wb:=by rw[hWb];exact hAx _ _ _ _ _ _ hax (by omega) ⟨_,hla,rfl⟩ (grownBy_putObj' _ _ _)
   rw[<-hWb];refine wpIn_mono (hbody _ pre x a' Wb haxb hpx) ?_;rintro e a3 W3 hp
   cases e with
   | normal =>
    obtain⟨hk3,hr3,hi3⟩:=hp;have hl3:=hk3.same _ _ (by omega) hlb rfl;have he:=run_endRound (P:=P) none hl3;rw[hrec]at he hl3;refine⟨_,_,he,rfl,⟨hput _ hi3 (by omega) hl3 rfl,?_,?_⟩,hkr.trans (hrb.trans (hr3.trans (KeepR.put hl3 rfl (hn (by omega)))))⟩
    ·rw[hrec];exact World.putObj_heap_same (Z3 hl3)
    ·exact(World.putObj_heap_other (by omega)).trans (hk3.same _ _ (Ye _) hkb rfl)
   | _=>exact hp.elim
  ·rintro e W2 ⟨⟨v,rfl⟩,hi,hl,hk⟩
   refine⟨none,_,by have:=run_endLoop (P:=P) hl (by rw[hrec];simp);rw[hrec]at this;exact this,hdone _ _ (Ye _) (hput _ hi (by omega) hl rfl) ((World.putObj_heap_other (by omega)).trans hk)⟩
variable{μ:Nat}
section
variable{P:Program}{ops:Array Oper}{Q:Exit->Act->World->Prop}{o:Oper}{rest:List Oper}{N:Nat}{D:List Deferred}{a:Act}{L:List (Nat×Value)}{w w':World}{v:Value}{n:Nat}
theorem Z60{fn:Func}{R:Ending->World->Prop}{f:FuncId}{w:World}(N:Nat)(hf:P.funcs[f]?=some fn)(hb:fn.body=some c)(hN:fn.ntmps=N)(hle:args.length<=N)(h:∀a,Has N [] a (argL 0 args)->c.wpIn Fence.wide 9 P (bodyPost P fn R) a w): Calls P f args.toArray w R:=
 ZS N hf hb hN hle λa F=>wpIn_wide.1 (h a F)
theorem Zky(F:Has N D a L)(hd:o.dst=some d)(hN:d<N)(hw:Region.wanted o (yielded ops a.tmps)=true)(hr:(execOp a.eval o).run P w = .ok (.value v) w')(h:∀a2 w2,Has N D a2 ((d,v)::L)->w2=w'->wpListIn Fence.wide n P ops Q rest a2 w2): wpListIn Fence.wide n P ops Q (o::rest) a w:=by
 unfold wpListIn;simp only[hw,if_true];refine⟨λ_ _=>trivial,?_⟩;rw[show Fence.wide.round=none from rfl,Oper.semAt_none,hr,Oper.uponIn_value,hd];exact h _ _ (F.put hN v) rfl
theorem ZdT(F:Has N D a L)(hd:o.dst=some d)(hN:d<N)(hw:Region.wanted o (yielded ops a.tmps)=true)(hr:(execOp a.eval o).run P w = .ok (.value v) w)(h:∀a2,Has N D a2 ((d,v)::L)->wpListIn Fence.wide n P ops Q rest a2 w): wpListIn Fence.wide n P ops Q (o::rest) a w:=
 Zky F hd hN hw hr λa2 w2 F2 e=>by subst e;exact h a2 F2
theorem ZiC(F:Has N D a L)(hd:o.dst=some d)(hN:d<N)(hw:Region.wanted o (yielded ops a.tmps)=false)(h:∀a2,Has N D a2 ((d,undef)::L)->wpListIn Fence.wide n P ops Q rest a2 w): wpListIn Fence.wide n P ops Q (o::rest) a w:=by
 unfold wpListIn;simp only[hw,Bool.false_eq_true,if_false,hd];exact⟨λ_ _=>trivial,h _ (F.put hN undef)⟩
theorem ZfA(F:Has N D a L){l:Nat}{f:FuncId}{tmps:Array Value}{assign body:Code}{R:Ending->World->Prop}(hd:o.dst=some d)(hN:d<N)(hw:Region.wanted o (yielded ops a.tmps)=true)(hr:(execOp a.eval o).run P w = .ok (.round l f tmps assign body) w)(hc:RoundIn Fence.wide 0 P l f tmps assign body w R)(h:∀e w',R e w'->∃v,e = .returned v/\∀a2,Has N D a2 ((d,v)::L)->wpListIn Fence.wide n P ops Q rest a2 w'): wpListIn Fence.wide n P ops Q (o::rest) a w:=by
 unfold wpListIn;simp only[hw,if_true];refine⟨λ_ _=>trivial,?_⟩;rw[show Fence.wide.round=none from rfl,Oper.semAt_none,hr,Oper.uponIn_round];refine⟨(λh=>by cases h),RoundIn.mono (ZbS hc) λe w' hR=>?_⟩;obtain⟨v,rfl,h1⟩:=h e w' hR;show wpListIn _ _ _ _ _ _ _ _;rw[hd];exact h1 _ (F.put hN v)
theorem Has.vlW(F:Has N D a L)(hr:(execOp a.eval o).run P w = .ok (.value v) w)(h:∀a2,Has N D a2 ((d,v)::L)->wpListIn Fence.wide n P ops Q rest a2 w)(hd:o.dst=some d:=by rfl)(hN:d<N:=by decide)(hw:Region.wanted o (yielded ops a.tmps)=true:=by rfl): wpListIn Fence.wide n P ops Q (o::rest) a w:=
 ZdT F hd hN hw hr h
theorem Has.mvW(F:Has N D a L)(h:∀a2,Has N D a2 ((d,v)::L)->wpListIn Fence.wide n P ops Q rest a2 w)(ho:o.op = .move (.tmp k):=by rfl)(hl:L.lookup k=some v:=by rfl)(hd:o.dst=some d:=by rfl)(hN:d<N:=by decide)(hw:Region.wanted o (yielded ops a.tmps)=true:=by rfl): wpListIn Fence.wide n P ops Q (o::rest) a w:=
 ZdT F hd hN hw (Z0E ho (F.at hl)) h
theorem Has.asW(F:Has N D a L)(h:∀a2,Has N D a2 ((d,v)::L)->wpListIn Fence.wide n P ops Q rest a2 w)(ho:o.op = .assign (.tmp k):=by rfl)(hl:L.lookup k=some v:=by rfl)(hd:o.dst=some d:=by rfl)(hN:d<N:=by decide)(hw:Region.wanted o (yielded ops a.tmps)=true:=by rfl): wpListIn Fence.wide n P ops Q (o::rest) a w:=
 ZdT F hd hN hw (ZC ho (F.at hl)) h
theorem Zh6{ρ:Operand->Value}{x:Operand}{l:Nat}{xs:List Operand}{ts:Array TypeId}{vs:List Value}{f:FuncId}{tmps:Array Value}{assign body:Code}(ho:o.op = .call {callee:=.value x,args:=xs.toArray,argTypes:=ts})(hf:ρ x = .func (.yield l) #[] #[])(ha:xs.map ρ=vs)(hy:(Instr.yield l vs.toArray).run P w = .ok (.round l f tmps assign body) w): (execOp ρ o).run P w = .ok (.round l f tmps assign body) w:=by
 subst ha;unfold execOp;simp[ho,resolve,hf,invoke,go_sem,hy]
end
def frL:Nat->Nat->List Int->List (List Int)
 | 0,left,p=>if left=6 then[] else[p]
 | more+1,left,p=>(List.range (left+1)).flatMap λn=>frL more (left-n) (p++[(n:Int)])
def recL(nd:Nat):List (List Int):=frL nd 6 []
def Agr(nd:Nat)(g:Nat->Int)(p:List Int):Prop:=(∀j,j<p.length->g j=val p j)/\∀j,nd<=j->g j=0
theorem Agr.tub{nd:Nat}{g:Nat->Int}{p:List Int}(h:Agr nd g p)(hp:p.length=nd): tubC g=tubC (val p):=by
 refine Z3Z λk hk=>?_
 by_cases e:k<p.length
 ·exact h.1 k e
 ·rw[h.2 k (by omega),val,Y7,List.getElem?_eq_none (by omega)];rfl
theorem Agr.step{nd:Nat}{g:Nat->Int}{p:List Int}(h:Agr nd g p)(hp:p.length<nd)(n:Int):Agr nd (upF g p.length n) (p++[n]):=by
 refine⟨λj hj=>?_,λj hj=>?_⟩
 ·simp only[Ym,List.length_singleton]at hj
  by_cases e:j=p.length
  ·subst e;simp[upF,val]
  ·rw[upF,if_neg e,h.1 j (by omega)];simp[val,List.getElem?_append_left (show j<p.length by omega)]
 ·rw[upF,if_neg (by omega),h.2 j hj]
theorem Agr.back{nd:Nat}{g:Nat->Int}{p:List Int}{n:Int}(h:Agr nd g (p++[n])): Agr nd g p:=by
 refine⟨λj hj=>?_,h.2⟩;rw[h.1 j (by simp;omega)];simp[val,List.getElem?_append_left hj]
theorem Z5f{α:Type}(f:Nat->List α)(k:Nat): (List.range (k+1)).flatMap f=(List.range k).flatMap f++f k:=by
 rw[List.range_succ,List.flatMap_append];simp
theorem Z95{α:Type}(f:Nat->List α){n: Nat}(h:k<=n): (List.range k).flatMap f <+: (List.range n).flatMap f:=by
 obtain⟨d,rfl⟩:=Nat.exists_eq_add_of_le h
 induction d with
 | zero=>exact List.prefix_refl _
 | succ d ih=>exact(ih (by omega)).trans ⟨f (k+d),by rw[<-Z5f];rfl⟩
structure ItB(x:Vm)(X:List Nat)(ob nb yb tb gb l:Nat)(g:Nat->Int)(W:World):Prop where
 hn:W.heap[nb]?=some (.cells #[.int .i64 x.B,.slice x.da x.D.length x.dc,.slice x.la x.L.length x.lc,.int .i64 x.tol] 85 (0,0))
 hy:W.heap[yb]?=some (.cells #[.func (.yield l) #[] #[]] 160 (0,0))
 ht:W.heap[tb]?=some (.cells (tubC g) 88 (0,0))
 hg:W.heap[gb]?=some (.cells #[.func (.func 127) #[] #[.pointer (some ⟨nb,0,none⟩),.pointer (some ⟨yb,0,none⟩),.pointer (some ⟨tb,0,none⟩),.pointer (some ⟨gb,0,none⟩)]] 161 (0,0))
 sn:Safe X ob nb W
 sy:Safe X ob yb W
 st:Safe X ob tb W
 sg:Safe X ob gb W
theorem ItB.keep{x:Vm}{X:List Nat}{ob nb yb tb gb l:Nat}{g:Nat->Int}{W W':World}(h:ItB x X ob nb yb tb gb l g W)(k:KeepR X ob W W'):ItB x X ob nb yb tb gb l g W':=
 ⟨k.cells _ _ _ _ h.hn h.sn,k.cells _ _ _ _ h.hy h.sy,k.cells _ _ _ _ h.ht h.st,k.cells _ _ _ _ h.hg h.sg,h.sn.keep (Z3 h.hn) k,h.sy.keep (Z3 h.hy) k,h.st.keep (Z3 h.ht) k,h.sg.keep (Z3 h.hg) k⟩
end
end Go.Proofs.YtfelljbfeoplhaaGreat
