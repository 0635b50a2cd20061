/- Parts of a proof: Gbu, Gex, Gfr, Gst, Gsu, Gsx, Gsy, Gko, Gkp, Gkq, Gen, Gca. No conditions. -/
import Derived.Calls
import Derived.Conc.Listed
import Derived.Test.YtfelljbfeoplhaaGreatPpt1
set_option linter.unusedVariables false
set_option linter.unusedSimpArgs false
set_option linter.unusedSectionVars false
set_option maxRecDepth 100000
set_option maxHeartbeats 4000000
namespace Go.Proofs.YtfelljbfeoplhaaGreat
variable{v' w':Go.World}{α β:Type}
namespace Lift
open Go
variable[Jk]
section
variable{P:Program}{F:Array Func}{C:Inv}{r:Ren}{α β γ δ:Type}{A:Ren->α->β->Prop}{B:Ren->γ->δ->Prop}
theorem Z7C {t u:TypeId} (hz:ZOk P u) {x y:Value} (h:VR r x y):SR (PF P F) P C VA r (Instr.typeAssert x t u true) (Instr.typeAssert y t u true):=by
  have fails : SR (PF P F) P C VA r (do pure (.tuple #[<- zeroValue u, .bool false])) (do pure (.tuple #[<- zeroValue u, .bool false])) :=
    Z3n hz λv hv=>.pure (.tupA (Arr.two (hv r) (.bool _)))
  have holds : ∀{a b : Value}, VR r a b->SR (PF P F) P C VA r (pure (.tuple #[a, .bool true])) (pure (.tuple #[b, .bool true])) := λq => .pure (.tupA (Arr.two q (.bool _)));unfold Instr.typeAssert;refine Zi λd hd => ?_
  cases d with
  | interface ms =>
    cases h with
    | iface0=>exact fails
    | iface w q =>
      refine Z1I λi _=>?_
      cases Instr.missingMethod ms i.methods with
      | none=>exact holds (.iface w q)
      | some m=>exact fails
    | _=>exact Z5
  | _ =>
    cases h with
    | iface0=>exact fails
    | iface w q=>exact ZL (λ_=>holds q) λ_=>fails
    | _=>exact Z5
theorem Z4V{x y:Value}(h:VR r x y): SR (PF P F) P C EQ r (Builtin.lenOf x) (Builtin.lenOf y):=by
 cases h<;>first | exact Z5 | exact .pure rfl
theorem Z0f{x y:Value}(h:VR r x y)(n m:Nat): SR (PF P F) P C VRs r (Builtin.firstCells n m x) (Builtin.firstCells n m y):=by
 cases h with
 | sl0 a b=>exact .pure .nil
 | sl a b q=>exact Z4r q _
 | string s =>
  refine .pure (Arr.map (R:=λa b=>a=b) ⟨rfl,λi x y a b=>?_⟩ λx y e=>?_)
  ·rw[a]at b;exact Y1 b
  ·subst e;exact .int _ _
 | _=>exact Z5
theorem Z45{s:Sem α}{f:α->Sem β}(h:∀w,∃a w',s.run (PF P F) w = .ok a w')(k:∀a,Dead (PF P F) (f a)):Dead (PF P F) (s >>= f):=λw=>by
 obtain⟨a,w',e⟩:=h w;obtain⟨x,w2,e2,d⟩:=k a w';refine⟨x,w2,?_,d⟩;show (Sem.bind s f).run _ _=_;rw[Sem.run_bind',e];exact e2
def Calm(Q:Program)(s:Sem α):Prop:=∀w,∃a w',s.run Q w = .ok a w'
theorem Z1N(a:α):Calm (PF P F) (pure a:Sem α):=λw=>⟨a,w,rfl⟩
theorem Z3u{s:Sem α}{f:α->Sem β}(h:Calm (PF P F) s)(k:∀a,Calm (PF P F) (f a)):Calm (PF P F) (s >>= f):=λw=>by
 obtain⟨a,w',e⟩:=h w;obtain⟨b,w2,e2⟩:=k a w';refine⟨b,w2,?_⟩;show (Sem.bind s f).run _ _=_;rw[Sem.run_bind',e];exact e2
theorem Zba(b:Nat):Calm (PF P F) (shape b):=λw=>⟨_,w,rfl⟩
theorem Z8W(a:Addr):Calm (PF P F) (frozen a):=λw=>⟨_,w,rfl⟩
theorem Z61(a:Addr)(n:Nat):Calm (PF P F) (Builtin.holdsCells a n):=by
 unfold Builtin.holdsCells;refine Z3u (Zba _) λs=>?_
 cases s<;>exact Z1N _
theorem Zbb (a b c:Nat) (x:Option Addr) (y:Value):Calm (PF P F) (Builtin.mayShare a b c x y):=by
  have tail:Calm (PF P F) (match y with
      | .slice (some b) _ _ => do pure (!(<- Builtin.holdsCells b (c * a)) || x.any (·.block == b.block))
      | _=>pure false:Sem Bool):=by
    cases y with
    | slice b n m =>
      cases b with
      | none=>exact Z1N _
      | some b=>exact Z3u (Z61 _ _) λ_=>Z1N _
    | _=>exact Z1N _
  unfold Builtin.mayShare
  cases x with
  | none =>
    simp only[pure_bind];exact tail
  | some x =>
    simp only[bind_assoc];refine Z3u (Z61 _ _) λz => ?_
    cases z
    · simp only[pure_bind]
      exact Z1N (P:=P) (F:=F) _
    · simp only[bind_assoc,pure_bind]
      refine Z3u (Z8W _) λz=>?_
      cases z
      · exact tail
      · exact Z1N (P:=P) (F:=F) _
theorem Z3S {elem:TypeId} (hz:ZOk P elem) {size m sCap need:Nat} {s s' x x':Value} (hs:VR r s s') (h:VR r x x') (k:Nat) :
    SR (PF P F) P C VA r
      (do let newCap <- choose (.appendCap need sCap elem)
          askRoom (newCap*(<-typeInfo elem).bytes)
          let old <-Builtin.firstCells size m s
          let new <-Builtin.firstCells size k x
          let rest:=Builtin.zeroCells (<-zeroValue elem).cells (newCap-need)
          pure (.slice (some (<-newRow elem (old++new++rest))) need newCap))
      (do let newCap <- choose (.appendCap need sCap elem)
          askRoom (newCap*(<-typeInfo elem).bytes)
          let old <-Builtin.firstCells size m s'
          let new <-Builtin.firstCells size k x'
          let rest:=Builtin.zeroCells (<-zeroValue elem).cells (newCap-need)
          pure (.slice (some (<-newRow elem (old++new++rest))) need newCap)):=by
  refine Z3V λc => ?_;refine Z1I λi _ => ?_;refine Z6 Z6m ?_;rintro r1 hr1 _ _ _;refine Z6 (Z0f (hs.mono hr1) _ _) λr2 hr2 a b hab => ?_;refine Z6 (Z0f (h.mono (Ren.le_trans hr1 hr2)) _ _) λr3 hr3 a2 b2 hab2 => ?_;refine Z3n hz λv hv => ?_;exact Z6 (Z2K (((VRs.mono hr3 hab).append hab2).append (Z7N (VR.arr1 hv) _))) λ_ _ a b q => .pure (.sl _ _ q)
def Zj9(P:Program)(ts:Array TypeId):Prop:=
 (∀t,ts[1]?=some t->(∃e,P.underlying t=some (.slice e))\/P.underlying t=some .string)/\∀t e,ts[0]?=some t->P.underlying t=some (.slice e)->ZOk P e
theorem ZdX {ts:Array TypeId} (ok:Zj9 P ts) {t:TypeId} {xs ys:Array Value} (h:VRs r xs ys):SR (PF P F) P C VA r (Builtin.append_ ts t xs) (Builtin.append_ ts t ys):=by
  unfold Builtin.append_
  cases e0:ts[0]? with
  | none=>exact Z5
  | some st =>
  rcases h.get 0 with⟨a0,b0⟩ | ⟨s,s',a0,b0,hs⟩
  · simp only[a0,b0];exact Z5
  rcases h.get 1 with⟨a1,b1⟩ | ⟨x,x',a1,b1,hx⟩
  · simp only[a0,b0,a1,b1];exact Z5
  simp only[a0, b0, a1, b1];refine Zi λd hd => ?_
  cases d<;>try exact Z5
  rename_i elem;have hz := ok.2 _ _ e0 hd
  have huge : ∀ (size sLen n : Nat) (base : Option Addr) (x : Value) (w : Unit -> Sem Value), Dead (PF P F) ((do
      let b <-Builtin.mayShare size sLen n base x
      if (!b) = true then do
          mark Mark.noRoom
          unsupported (Unsupported.resourceLimit "append: a slice or a string whose bytes no memory bears")
        else unsupported (Unsupported.resourceLimit "append: a slice or a string whose bytes no memory bears")) >>= w):=by
    intro size sLen n base x w;refine(Z45 (Zbb _ _ _ _ _) λb => ?_).bind _
    cases b
    · exact Z45 (λw=>⟨(),w,rfl⟩) λ_=>Zu (by simp)
    · exact Zu (by simp)
  have flat:∀{f g:Bool->Sem Value},SR (PF P F) P C VA r (f false) (g false) ->
      SR (PF P F) P C VA r (match ts[1]? with | some xType=>(underlying xType >>= λd=>(pure (match d with | .int _=>true | _=>false):Sem Bool) >>= f) | none=>(pure false:Sem Bool) >>= f)
        (match ts[1]? with | some xType=>(underlying xType >>= λd=>(pure (match d with | .int _=>true | _=>false):Sem Bool) >>= g) | none=>(pure false:Sem Bool) >>= g):=by
    intro f g h
    cases e1:ts[1]? with
    | none=>exact h
    | some t1 =>
      refine Zi λd1 hd1=>?_
      rcases ok.1 t1 e1 with⟨e,q⟩ | q
      · obtain rfl:d1 = .slice e:=Y1 (hd1.symm.trans q)
        exact h
      · obtain rfl:d1 = .string:=Y1 (hd1.symm.trans q)
        exact h
  cases hs with
  | sl0 sLen sCap =>
    refine ZV λsize => ?_;refine flat ?_;simp only[pure_bind, Bool.false_eq_true, if_false, Bool.not_false, if_true, false_or];refine Z6 (Z4V hx) ?_;rintro r1 hr1 n _ rfl;refine ZL (λ_ => Z6 (Z0f (hx.mono hr1) _ _) λ_ _ _ _ _ => .pure (.sl0 _ _)) λ_ => ?_;refine Z1I λi _ => ?_;refine ZL (λ_ => Z4d Z12) λ_ => ?_;refine Z1I λi2 _ => ?_;exact ZL (λ_ => .dead (huge _ _ _ _ _ _)) λ_ => Z3S hz (.sl0 _ _) (hx.mono hr1) _
  | sl sLen sCap q =>
    refine ZV λsize => ?_;refine flat ?_;simp only[pure_bind, Bool.false_eq_true, if_false, Bool.not_false, if_true, false_or];refine Z6 (Z4V hx) ?_;rintro r1 hr1 n _ rfl;refine ZL (λ_ => Z6 (Z0f (hx.mono hr1) _ _) λr2 hr2 u v huv => ?_) λ_ => ?_
    · refine Z6 (Z2m huv.lis ((q.mono (Ren.le_trans hr1 hr2)).add _) 0) λr3 hr3 _ _ _=>?_
      exact .pure (.sl _ _ (q.mono (Ren.le_trans hr1 (Ren.le_trans hr2 hr3))))
    refine Z1I λi _ => ?_;refine ZL (λ_ => Z4d Z12) λ_ => ?_;refine Z1I λi2 _ => ?_;exact ZL (λ_ => .dead (huge _ _ _ _ _ _)) λ_ => Z3S hz (.sl _ _ (q.mono hr1)) (hx.mono hr1) _
  | _=>exact Z5
theorem ZiF{ts:Array TypeId}{t:TypeId}{xs ys:Array Value}(h:VRs r xs ys): SR (PF P F) P C VA r (Builtin.copy_ ts t xs) (Builtin.copy_ ts t ys):=by
 unfold Builtin.copy_
 cases e0:ts[0]? with
 | none=>exact Z5
 | some st =>
 rcases h.get 0 with⟨a0,b0⟩ | ⟨s,s',a0,b0,hs⟩
 ·simp only[a0,b0];exact Z5
 rcases h.get 1 with⟨a1,b1⟩ | ⟨x,x',a1,b1,hx⟩
 ·simp only[a0,b0,a1,b1];exact Z5
 simp only[a0,b0,a1,b1];refine Zi λd hd=>?_
 cases d<;>try exact Z5
 cases hs with
 | sl0 n c =>
  refine Z6 (Z4V hx) ?_;rintro r1 hr1 n _ rfl;refine ZV λm=>?_;exact Z6 (Z0f (hx.mono hr1) _ _) λ_ _ _ _ _=>.pure (.int _ _)
 | sl n c q =>
  refine Z6 (Z4V hx) ?_;rintro r1 hr1 n _ rfl;refine ZV λm=>?_;refine Z6 (Z0f (hx.mono hr1) _ _) λr2 hr2 u v huv=>?_;exact Z6 (Z2m huv.lis (q.mono (Ren.le_trans hr1 hr2)) 0) λ_ _ _ _ _=>.pure (.int _ _)
 | _=>exact Z5
theorem ZkF{ts:Array TypeId}{t:TypeId}{xs ys:Array Value}(h:VRs r xs ys): SR (PF P F) P C VA r (Builtin.cap_ ts t xs) (Builtin.cap_ ts t ys):=by
 unfold Builtin.cap_
 cases e0:ts[0]? with
 | none=>exact Z5
 | some st =>
 rcases h.get 0 with⟨a0,b0⟩ | ⟨s,s',a0,b0,hs⟩
 ·simp only[a0,b0];exact Z5
 simp only[a0,b0];refine Zi λd hd=>?_
 cases d with
 | array n e=>exact .pure (.int _ _)
 | pointer e =>
  refine Zi λd2 hd2=>?_
  cases d2<;>first | exact .pure (.int _ _) | exact Z5
 | slice e=>cases hs<;>first | exact .pure (.int _ _) | exact Z5
 | chan e f=>cases hs<;>exact Z5
 | _=>exact Z5
theorem ZkG{ts:Array TypeId}{t:TypeId}{xs ys:Array Value}(h:VRs r xs ys): SR (PF P F) P C VA r (Builtin.len_ ts t xs) (Builtin.len_ ts t ys):=by
 unfold Builtin.len_
 cases e0:ts[0]? with
 | none=>exact Z5
 | some st =>
 rcases h.get 0 with⟨a0,b0⟩ | ⟨s,s',a0,b0,hs⟩
 ·simp only[a0,b0];exact Z5
 simp only[a0,b0];refine Zi λd hd=>?_
 cases d with
 | array n e=>exact .pure (.int _ _)
 | pointer e =>
  refine Zi λd2 hd2=>?_
  cases d2<;>first | exact Z5 | exact .pure (.int _ _)
 | map k e =>
  cases hs with
  | map0=>exact .pure (.int _ _)
  | map q =>
   refine Z8x q λr1 hr1 o o' ho=>?_
   cases ho with
   | map n he =>
    have e:=he.1;simp only[e];exact .pure (.int _ _)
   | _=>exact Z5
  | _=>exact Z5
 | _=>cases hs<;>first | exact Z5 | exact .pure (.int _ _)
theorem ZiI{x y u v:Value}(h:VR r x y)(k:VR r u v): SR (PF P F) P C VA r (Builtin.min2 x u) (Builtin.min2 y v):=by
 cases h with
 | int i n=>cases k<;>first | exact .pure (.int _ _) | exact Z5 | exact Zx (by simp)
 | string s =>
  cases k with
  | string s2=>exact Z6 Z1o λ_ _ a b q=>Z6 (Z5v q) (by rintro _ _ z _ rfl;exact .pure (.string _))
  | _=>first | exact Z5 | exact Zx (by simp)
 | _=>cases k<;>first | exact Z5 | exact Zx (by simp)
theorem ZiH{x y u v:Value}(h:VR r x y)(k:VR r u v): SR (PF P F) P C VA r (Builtin.max2 x u) (Builtin.max2 y v):=by
 cases h with
 | int i n=>cases k<;>first | exact .pure (.int _ _) | exact Z5 | exact Zx (by simp)
 | string s =>
  cases k with
  | string s2=>exact Z6 Z1o λ_ _ a b q=>Z6 (Z5v q) (by rintro _ _ z _ rfl;exact .pure (.string _))
  | _=>first | exact Z5 | exact Zx (by simp)
 | _=>cases k<;>first | exact Z5 | exact Zx (by simp)
theorem ZaJ{f:Value->Value->Sem Value}(hf:∀{r:Ren} {x y u v:Value},VR r x y->VR r u v->SR (PF P F) P C VA r (f x u) (f y v)){xs ys:List Value}{r:Ren}(h:Lis (VR r) xs ys):
  ∀{x y:Value},VR r x y->SR (PF P F) P C VA r (xs.foldlM f x) (ys.foldlM f y):=by
 induction xs generalizing ys r with
 | nil=>cases h;exact λq=>.pure q
 | cons a xs ih =>
  cases h with
  | cons a t =>
  intro x y q;simp only[List.foldlM_cons];exact Z6 (hf q a) λr1 hr1 u v huv=>ih (t.imp λ_ _=>VR.mono hr1) huv
theorem ZkJ{ts:Array TypeId}{t:TypeId}{xs ys:Array Value}(h:VRs r xs ys): SR (PF P F) P C VA r (Builtin.min_ ts t xs) (Builtin.min_ ts t ys):=by
 unfold Builtin.min_;have:=h.lis;generalize xs.toList=l at this⊢;generalize ys.toList=l' at this⊢
 cases this with
 | nil=>exact Z5
 | cons a t=>exact ZaJ ZiI t a
theorem ZkI{ts:Array TypeId}{t:TypeId}{xs ys:Array Value}(h:VRs r xs ys): SR (PF P F) P C VA r (Builtin.max_ ts t xs) (Builtin.max_ ts t ys):=by
 unfold Builtin.max_;have:=h.lis;generalize xs.toList=l at this⊢;generalize ys.toList=l' at this⊢
 cases this with
 | nil=>exact Z5
 | cons a t=>exact ZaJ ZiH t a
theorem ZbF{x y:Value}(h:VR r x y): SR (PF P F) P C VA r (Instr.panic x) (Instr.panic y):=by
 cases h with
 | iface t q=>exact .panic (.iface t q)
 | iface0 =>
  refine Z6 (A:=EQ) (SR.env λe=>SR.program (.pure rfl)) ?_;rintro r1 hr1 n _ rfl;refine ZL (λ_=>.panic .iface0) λ_=>?_;refine Z1n ?_;unfold elemOf;simp only[bind_assoc];refine Zi λd hd=>?_
  cases d<;>try exact Z3W
  simp only[pure_bind];exact Z6 (Z5C (.aggA .nil)) λ_ _ a b q=>.panic (.iface _ (.ptr q))
 | _=>exact Z5
def CvOk(P:Program)(s d:TypeId):Prop:=(∃k,P.underlying s=some (.int k))/\∃k,P.underlying d=some (.int k)
theorem Zby{s d:TypeId}(ok:CvOk P s d){x y:Value}(h:VR r x y): SR (PF P F) P C VA r (convert s d x) (convert s d y):=by
 obtain⟨⟨k,hk⟩,⟨j,hj⟩⟩:=ok;unfold convert;refine Zi λa ha=>Zi λb hb=>?_;obtain rfl:a = .int k:=Y1 (ha.symm.trans hk);obtain rfl:b = .int j:=Y1 (hb.symm.trans hj)
 cases h<;>first | exact .pure (.int _ _) | exact Zx (by simp)
end
end Lift
namespace Lift
open Go
variable[Jk]
inductive NR(C:Inv)(G:FuncId->Prop)(df:Prop)(r:Ren):Next->Next->Prop
 | value {x y} (h:VR r x y):NR C G df r (.value x) (.value y)
 | skip:NR C G df r .skip .skip
 | enter {f xs ys} (g:G f) (h:VRs r xs ys):NR C G df r (.enter f xs) (.enter f ys)
 | round {l l' f xs ys a b} (hl:r l=some l') (hf:C.fn f) (h:VRs r xs ys) (ha:C.code a) (hb:C.code b):NR C G df r (.round l f xs a b) (.round l' f ys a b)
 | defer {d d'} (hd:df) (h:DR r d d'):NR C G df r (.defer d) (.defer d')
 | recover:NR C G df r .recover .recover
structure Strip(P:Program)(F:Array Func)(K:Code->Prop)(G:FuncId->Prop):Prop where
 same:∀f:FuncId,Jk.gd f->F[f]?=P.funcs[f]?/\¬Jk.law f
 name:∀(f:FuncId) (fn:Func),Jk.gd f->F[f]?=some fn->(fn.name == "runtime.NumGoroutine")=false
 own:∀(f:FuncId) (fn:Func) (c:Code),Jk.gd f->F[f]?=some fn->fn.body=some c->P.funcs[f]?=some fn/\K c/\G f
 none:∀(f:FuncId) (fn:Func),Jk.gd f->F[f]?=some fn->fn.body = .none->Extern.findNext fn = .none/\Extern.find fn = .none/\(fn.name.endsWith ".init" && !fn.name.startsWith "(" && !fn.name.startsWith "gosem.")=false
section
variable{P:Program}{F:Array Func}{C:Inv}{K:Code->Prop}{G:FuncId->Prop}{df:Prop}{r:Ren}{α β γ δ:Type}{A:Ren->α->β->Prop}{B:Ren->γ->δ->Prop}
theorem Z9x(S:Strip P F K G){f:FuncId}(gf:Jk.gd f){xs ys:Array Value}(h:VRs r xs ys): SR (PF P F) P C (NR C G df) r (callFunc f xs) (callFunc f ys):=by
 unfold callFunc;refine Z1n ?_;have e0:(PF P F).funcs=F:=rfl;rw[e0]
 cases e:F[f]? with
 | none=>exact Z5
 | some fn =>
  have hn:=S.name f fn gf e
  cases hb:fn.body with
  | some c =>
   obtain⟨hp,hc,hg⟩:=S.own f fn c gf e hb;simp only[hp,hn,hb,Bool.false_eq_true,if_false,Option.isNone_some];exact .pure (.enter hg h)
  | none =>
   obtain⟨h1,h2,h3⟩:=S.none f fn gf e hb;refine .dead ?_;simp only[hn,hb,Bool.false_eq_true,if_false,Option.isNone_none,if_true,h1,h2,h3];exact Z45 (λw=>⟨(),w,rfl⟩) λ_=>Zu (by simp)
theorem Zj3{ps:List Tmp}{az bs:List Value}(h:Lis (VR r) az bs): ∀{us vs:Array Value},VRs r us vs ->
  VRs r ((ps.zip az).foldl (λtmps (t,a)=>tmps.setIfInBounds t a) us) ((ps.zip bs).foldl (λtmps (t,a)=>tmps.setIfInBounds t a) vs):=by
 induction h generalizing ps with
 | nil=>simp
 | cons a _ ih =>
  cases ps with
  | nil=>simp
  | cons p ps =>
   intro us vs k;simp only[List.zip_cons_cons,List.foldl_cons];exact ih (k.set _ a)
theorem Z21{l l':Nat}(h:r l=some l'){f:Loop->Sem γ}{g:Loop->Sem δ}(t:∀r',r.le r'->∀o o',LpR C r' o o'->SR (PF P F) P C B r' (f o) (g o')): SR (PF P F) P C B r (Instr.getLoop l >>= f) (Instr.getLoop l' >>= g):=by
 unfold Instr.getLoop;simp only[bind_assoc];refine Z8x h λr' hr o o' ho=>?_
 cases ho with
 | loop q=>exact t r' hr _ _ q
 | _=>exact Z3W
theorem ZfU{l l':Nat}(h:r l=some l'){xs ys:Array Value}(k:VRs r xs ys): SR (PF P F) P C (NR C G df) r (Instr.yield l xs) (Instr.yield l' ys):=by
 unfold Instr.yield;refine Z21 h λr' hr o o' ho=>?_;rw[k.1,ho.params,ho.fn.1];refine ZL (λ_=>Z3W) λ_=>?_;rw[ho.assign.1,ho.body.1];refine .pure (.round (hr.1 _ _ h) (ho.fn.1▸ho.fn.2) ?_ (ho.assign.1▸ho.assign.2) (ho.body.1▸ho.body.2));rw[<-Array.foldl_toList,<-Array.foldl_toList];simp only[Array.toList_zip];exact Zj3 (VRs.mono hr k).lis ho.tmps
theorem Z2J(S:Strip P F K G){t t':Target}{xs ys:Array Value}(h:TR r t t')(k:VRs r xs ys): SR (PF P F) P C (NR C G df) r (invoke t xs) (invoke t' ys):=by
 cases h with
 | nil=>exact Z1l
 | collected q=>exact Z5
 | fn hf hx =>
  cases hf with
  | func f gf=>exact Z9x S gf (k.append hx)
  | yield q=>exact ZfU q k
def RdOk:Operand->Prop
 | .const v=>Z5U v
 | .global _=>False
 | .func f=>Jk.gd f
 | _=>True
def EnvR(r:Ren)(e e':Operand->Value):Prop:=∀x,RdOk x->VR r (e x) (e' x)
def Z7P(P:Program):Prop:=P.info? 1000000=none
def ClOk(P:Program)(c:Call):Prop:=(∀x∈c.args,RdOk x)/\match c.callee with
 | .value f=>RdOk f/\Z7P P
 | .invoke _ _=>False
 | .builtin .append=>Zj9 P c.argTypes
 | .builtin .copy | .builtin .len | .builtin .cap | .builtin .min | .builtin .max | .builtin .recover=>True
 | .builtin _=>False
def OpOk(P:Program):Op->Prop
 | .move x | .assign x=>RdOk x
 | .pick c a b=>RdOk c/\RdOk a/\RdOk b
 | .alloc t=>ZOk P t
 | .box _ x=>RdOk x
 | .build t ps=>ZOk P t/\∀p∈ps,RdOk p.2
 | .buildSlice t _ ps=>(∀e,P.underlying t=some (.slice e)->ZOk P e)/\∀p∈ps,RdOk p.2
 | .load _ a=>RdOk a
 | .store _ a x=>RdOk a/\RdOk x
 | .nilCheck x=>RdOk x/\Z7P P
 | .binOp op t x y _=>Zeq P op t/\RdOk x/\RdOk y
 | .unOp _ _ x=>RdOk x
 | .convert s d x=>CvOk P s d/\RdOk x
 | .makeInterface _ x=>RdOk x
 | .makeFunc fn xs ys=>(∃f,fn = .func f/\Jk.gd f)/\(∀x∈xs,RdOk x)/\∀x∈ys,RdOk x
 | .makeMap _ x=>∀y,x=some y->RdOk y
 | .makeSlice t l c=>(∀e,P.underlying t=some (.slice e)->ZOk P e)/\RdOk l/\RdOk c
 | .slice _ x lo hi mx=>RdOk x/\(∀y,lo=some y->RdOk y)/\(∀y,hi=some y->RdOk y)/\∀y,mx=some y->RdOk y
 | .fieldAddr _ x _=>RdOk x
 | .indexAddr _ x i | .index _ x i=>RdOk x/\RdOk i
 | .lookup t x i _=>ZbW P t/\RdOk x/\RdOk i
 | .mapUpdate t m k x=>ZbW P t/\RdOk m/\RdOk k/\RdOk x
 | .typeAssert x _ u ok=>ok=true/\ZOk P u/\RdOk x
 | .extract t _=>RdOk t
 | .call c=>ClOk P c
 | .defer c=>ClOk P c/\∃f,c.callee = .value f/\∃g,f = .func g
 | .panic x=>RdOk x
 | _=>False
theorem Z4c{x y:Value}{xs ys:Array Value}(nz:x≠J0)(h:VR r x y)(k:VRs r xs ys): SR (PF P F) P C DR r (Deferred.ofValue x xs) (Deferred.ofValue y ys):=by
 cases h with
 | func hf hx q hy q2=>exact .pure ⟨.fn hf ⟨hy,q2⟩,Arr.append ⟨hx,q⟩ k⟩
 | func0=>exact .pure ⟨.nil,k⟩
 | junk _ _ _ _=>exact absurd rfl nz
 | _=>exact Z5
theorem Z92(hb:Z7P P)(n:Nat)(v:Value)(name:String):Dead (PF P F) (method n 1000000 v name):=by
 cases n with
 | zero=>unfold method;first | exact Zk | exact Zu (by simp)
 | succ n=>unfold method;exact Z5a λi hi=>by rw[hb]at hi;cases hi
theorem Z46 (hb : Z7P P) (xs : Array Value) : Dead (PF P F) (do let d <- Deferred.ofValue J0 xs; invoke d.target d.args) := by
  show Dead _ (invoke (.fn (.method "") #[]) (#[.iface 1000000 (.bool false)]++xs));have e : (#[Value.iface 1000000 (.bool false)]++xs)[0]?=some (.iface 1000000 (.bool false)) := by rw[Array.getElem?_append_left (by decide)]; rfl
  unfold invoke;simp only[e];unfold callMethod;refine Z2u ?_;exact(Z92 hb _ _ _).bind _
theorem Zcz (hb:Z7P P) (n:Nat) {f:Option Bool->Sem α} (h:Dead (PF P F) (f none)):Dead (PF P F) (nilAhead n 1000000 (.bool false) "" >>= f):=by
 cases n with
 | zero=>exact h
 | succ n=>unfold nilAhead;exact(Z5a λi hi=>by rw[hb]at hi;cases hi).bind _
theorem sr_v {x : Sem Value} {y : Sem Value} (h : SR (PF P F) P C VA r x y) : SR (PF P F) P C (NR C G df) r (do pure (.value (<- x))) (do pure (.value (<- y))) := Z6 h λ_ _ a b q => .pure (.value q)
theorem sr_u{x:Sem Unit}{y:Sem Unit}(h:SR (PF P F) P C EQ r x y):SR (PF P F) P C (NR C G df) r (do x;pure .skip) (do y;pure .skip):=Z6 h λ_ _ a b q=>.pure .skip
theorem Z2R{e e':Operand->Value}(h:EnvR r e e'){xs:Array Operand}(k:∀x∈xs,RdOk x):VRs r (xs.map e) (xs.map e'):=by
 refine⟨by simp,λi x y a b=>?_⟩;simp only[Array.getElem?_map]at a b;obtain⟨z,hz,rfl⟩:=Y3.1 a;rw[hz]at b;obtain rfl:=Y1 b;exact h z (k z (Yk hz))
theorem Z89{e e':Operand->Value}(h:EnvR r e e'){xs:Array (Nat×Operand)}(k:∀x∈xs,RdOk x.2): Arr (PaR r) (xs.map λ(i,x)=>(i,e x)) (xs.map λ(i,x)=>(i,e' x)):=by
 refine⟨by simp,λi x y a b=>?_⟩;simp only[Array.getElem?_map]at a b;obtain⟨z,hz,rfl⟩:=Y3.1 a;rw[hz]at b;obtain rfl:=Y1 b;exact⟨rfl,h _ (k z (Yk hz))⟩
theorem Z6Y{e e':Operand->Value}(h:EnvR r e e'){x:Option Operand}(k:∀y,x=some y->RdOk y): OpR (VR r) (x.map e) (x.map e'):=by
 cases x with
 | none=>exact .none
 | some x=>exact .some (h x (k x rfl))
theorem Z6s{e e':Operand->Value}(h:EnvR r e e'){c:Call}{t:TypeId}{f:Operand}(hc:c.callee = .value f)(ok:ClOk P c)(nz:e f≠J0): SR (PF P F) P C DR r (resolve e c t) (resolve e' c t):=by
 obtain⟨h1,h2⟩:=ok;rw[hc]at h2;unfold resolve;rw[hc];exact Z4c nz (h f h2.1) (Z2R h h1)
theorem ZiE (S:Strip P F K G) {e e':Operand->Value} (h:EnvR r e e') {c:Call} {t:TypeId} (ok:ClOk P c) :
    SR (PF P F) P C (NR C G df) r (do let d <- resolve e c t; invoke d.target d.args) (do let d <- resolve e' c t; invoke d.target d.args) := by
  cases hc:c.callee with
  | value f =>
    by_cases nz:e f=J0
    · obtain⟨_,h2⟩:=ok
      rw[hc]at h2;refine .dead ?_;unfold resolve;rw[hc];dsimp only;rw[nz];exact Z46 h2.2 _
    · exact Z6 (Z6s h hc ok nz) λ_ _ a b q=>Z2J S q.1 q.2
  | invoke x n=>unfold ClOk at ok;rw[hc]at ok;exact ok.2.elim
  | builtin b =>
    obtain⟨h1, h2⟩ := ok;rw[hc]at h2;have k := Z2R h h1;unfold resolve;rw[hc];simp only[pure_bind]
    cases b<;>first | exact h2.elim | exact sr_v (ZdX h2 k) | exact sr_v (ZiF k) | exact sr_v (ZkG k) | exact sr_v (ZkF k) | exact sr_v (ZkJ k) | exact sr_v (ZkI k) | exact .pure .recover
theorem Z8w(S:Strip P F K G)(hi:Inj r){e e':Operand->Value}(he:∀g,e (.func g) = .func (.func g) #[] #[])(h:EnvR r e e'){o:Oper}(ok:OpOk P o.op): SR (PF P F) P C (NR C G (∃c,o.op = .defer c)) r (execOp e o) (execOp e' o):=by
 unfold execOp
 cases ho:o.op with
 | move x=>rw[ho]at ok;exact .pure (.value (h x ok))
 | assign x=>rw[ho]at ok;exact .pure (.value (h x ok))
 | pick c a b =>
  rw[ho]at ok;refine Z6 (Z5v (h c ok.1)) ?_;rintro r1 hr1 z _ rfl
  cases z
  ·exact .pure (.value ((h b ok.2.2).mono hr1))
  ·exact .pure (.value ((h a ok.2.1).mono hr1))
 | alloc t=>rw[ho]at ok;exact sr_v (ZfD ok)
 | box t x=>rw[ho]at ok;exact sr_v (ZkE (h x ok))
 | build t ps=>rw[ho]at ok;exact sr_v (ZfF ok.1 (Z89 h ok.2))
 | buildSlice t n ps=>rw[ho]at ok;exact sr_v (Z7y ok.1 (Z89 h ok.2))
 | load t a=>rw[ho]at ok;exact sr_v (Ze0 (h a ok))
 | store t a x=>rw[ho]at ok;exact sr_u (ZbI (h a ok.1) (h x ok.2))
 | nilCheck x =>
  rw[ho]at ok;have hx:=h x ok.1;dsimp only;generalize e x=v at hx⊢;generalize e' x=v' at hx⊢
  cases hx with
  | func hf a b c d =>
   cases hf with
   | func f gf=>exact .pure (.value (.func (.func f gf) a b c d))
   | yield q=>exact .pure (.value (.func (.yield q) a b c d))
  | ptr0=>exact Z1l
  | func0=>exact Z1l
  | iface0=>exact Z1l
  | bool b=>exact .pure (.value (.bool b))
  | int k n=>exact .pure (.value (.int k n))
  | string s=>exact .pure (.value (.string s))
  | ptr q=>exact .pure (.value (.ptr q))
  | sl0 a b=>exact .pure (.value (.sl0 a b))
  | sl a b q=>exact .pure (.value (.sl a b q))
  | map0=>exact .pure (.value .map0)
  | map q=>exact .pure (.value (.map q))
  | iface t q=>exact .pure (.value (.iface t q))
  | agg a b=>exact .pure (.value (.agg a b))
  | tuple a b=>exact .pure (.value (.tuple a b))
  | junk j _ _ _ =>
   refine .dead ?_;unfold J0;dsimp only;refine Z2u ?_;exact Zcz ok.2 _ λw=>⟨_,w,rfl,trivial⟩
 | binOp op t x y u =>
  rw[ho]at ok;refine sr_v ?_;refine Z6 (Zbz (h x ok.2.1) (h y ok.2.2)) ?_;rintro r1 hr1 _ _ _;exact ZfE ok.1 ((h x ok.2.1).mono hr1) ((h y ok.2.2).mono hr1)
 | unOp op t x=>rw[ho]at ok;exact sr_v (ZfT (h x ok))
 | convert s d x=>rw[ho]at ok;exact sr_v (Zby ok.1 (h x ok.2))
 | makeInterface t x=>rw[ho]at ok;exact sr_v (Z4y (h x ok))
 | makeFunc fn xs ys =>
  rw[ho]at ok;obtain⟨⟨f,rfl,gf⟩,h1,h2⟩:=ok;exact sr_v (Z9A (.func f gf) (Z2R h h1) (Z2R h h2))
 | makeMap t x=>rw[ho]at ok;exact sr_v (ZbE (Z6Y h ok))
 | makeSlice t l c=>rw[ho]at ok;exact sr_v (Z8y ok.1 (h l ok.2.1) (h c ok.2.2))
 | slice t x lo hi mx=>rw[ho]at ok;exact sr_v (ZbH (h x ok.1) (Z6Y h ok.2.1) (Z6Y h ok.2.2.1) (Z6Y h ok.2.2.2))
 | fieldAddr s x f=>rw[ho]at ok;exact sr_v (ZbC (h x ok) f)
 | indexAddr t x i=>rw[ho]at ok;exact sr_v (ZbD (h x ok.1) (h i ok.2))
 | index t x i=>rw[ho]at ok;exact sr_v (ZfN (h x ok.1) (h i ok.2))
 | lookup t x i c=>rw[ho]at ok;exact sr_v (Ze1 ok.1 (h x ok.2.1) (h i ok.2.2) c)
 | mapUpdate t m k x=>rw[ho]at ok;exact sr_u (Z8z hi ok.1 (h m ok.2.1) (h k ok.2.2.1) (h x ok.2.2.2))
 | typeAssert x t u c =>
  rw[ho]at ok;obtain⟨rfl,h1,h2⟩:=ok;exact sr_v (Z7C h1 (h x h2))
 | extract t i=>rw[ho]at ok;exact sr_v (ZbB (h t ok) i)
 | call c=>rw[ho]at ok;exact ZiE S h ok
 | defer c =>
  rw[ho]at ok;obtain⟨h1,f,hc,hf⟩:=ok;have nz:e f≠J0:=λq=>by
   have h2:=h1.2;rw[hc]at h2;obtain⟨g,rfl⟩:=hf;rw[he]at q;unfold J0 at q
   cases q
  exact Z6 (Z6s h hc h1 nz) λ_ _ a b q=>.pure (.defer ⟨_,rfl⟩ q)
 | panic x=>rw[ho]at ok;exact sr_v (ZbF (h x ok))
 | _=>rw[ho]at ok;exact ok.elim
end
end Lift
namespace Lift
open Go
variable[Jk]
def Zer:Op->Prop
 | .call c=>(∃f,c.callee = .value (.func f)/\Jk.jmp f/\c.args.size=Jk.ar f)/\∀x∈c.args,∃t,x = .tmp t
 | _=>False
def Z0L(P:Program)(J N:Prop)(b:Bool):Code->Prop
 | .region _ ops _=>∀o∈ops,(OpOk P o.op\/(J/\Zer o.op))/\(b=true\/J->∀c,o.op ≠ .defer c)
 | .seq x y=>Z0L P J N b x/\Z0L P J N b y
 | .cond c x y=>RdOk c/\Z0L P J N b x/\Z0L P J N b y
 | .block _ x | .loop x | .scope x=>Z0L P J N b x
 | .rangeFunc f _ x y=>RdOk f/\Z0L P False False true x/\Z0L P False False true y/\¬N/\Z7P P
 | .refuse _=>False
 | _=>True
abbrev CodeOk(P:Program)(b:Bool):Code->Prop:=Z0L P False False b
theorem Z0L.out{P:Program}{J N:Prop}{b:Bool}{c:Code}(nj:¬J)(nn:¬N): CodeOk P true c->Z0L P J N b c:=by
 induction c with
 | region i ops d=>exact λh o ho=>⟨.inl ((h o ho).1.resolve_right λq=>q.1),λ_=>(h o ho).2 (.inl rfl)⟩
 | seq x y ihx ihy=>exact λh=>⟨ihx h.1,ihy h.2⟩
 | cond c x y ihx ihy=>exact λh=>⟨h.1,ihx h.2.1,ihy h.2.2⟩
 | block i x ih=>exact λh=>ih h
 | loop x ih=>exact λh=>ih h
 | scope x ih=>exact λh=>ih h
 | rangeFunc f ps x y _ _=>exact λh=>⟨h.1,h.2.1,h.2.2.1,nn,h.2.2.2.2⟩
 | refuse y=>exact λh=>h
 | _=>exact λ_=>trivial
theorem Z0L.weak{P:Program}{J N:Prop}{b:Bool}{c:Code}(nj:¬J)(nn:¬N): CodeOk P b c->Z0L P J N b c:=by
 induction c with
 | region i ops d=>exact λh o ho=>⟨.inl ((h o ho).1.resolve_right λq=>q.1),λq=>(h o ho).2 (.inl (q.resolve_right nj))⟩
 | seq x y ihx ihy=>exact λh=>⟨ihx h.1,ihy h.2⟩
 | cond c x y ihx ihy=>exact λh=>⟨h.1,ihx h.2.1,ihy h.2.2⟩
 | block i x ih=>exact λh=>ih h
 | loop x ih=>exact λh=>ih h
 | scope x ih=>exact λh=>ih h
 | rangeFunc f ps x y _ _=>exact λh=>⟨h.1,h.2.1,h.2.2.1,nn,h.2.2.2.2⟩
 | refuse y=>exact λh=>h
 | _=>exact λ_=>trivial
def Iv(P:Program)(F:Array Func):Inv:=⟨CodeOk P true,Jk.gd⟩
inductive IR(P:Program)(J N:Prop)(d:Bool)(r:Ren):Item->Item->Prop
 | code {c} (h:Z0L P J N d c):IR P J N d r (.code c) (.code c)
 | inBlock (i):IR P J N d r (.inBlock i) (.inBlock i)
 | inLoop {c} (h:Z0L P J N d c):IR P J N d r (.inLoop c) (.inLoop c)
 | inScope {c} (h:Z0L P J N d c):IR P J N d r (.inScope c) (.inScope c)
 | inRegion {ops todo} (h:∀o∈ops,(OpOk P o.op\/(J/\Zer o.op))/\(d=true\/J->∀c,o.op ≠ .defer c)):IR P J N d r (.inRegion ops todo) (.inRegion ops todo)
 | inRange {l l'} (nj:¬N) (h:r l=some l'):IR P J N d r (.inRangeFunc l) (.inRangeFunc l')
 | endRange {l l'} (nj:¬N) (h:r l=some l'):IR P J N d r (.endRangeFunc l) (.endRangeFunc l')
 | begin_:IR P J N d r .beginRound .beginRound
def mild:Item->Bool
 | .code _ | .inBlock _ | .inLoop _ | .inScope _=>true
 | _=>false
inductive Cut(P:Program)(J N:Prop)(d:Bool):Code->Code->List Item->Prop
 | stop {y k} (h:Jk.rest = .code y::k):Cut P J N d (.refuse "") y k
 | seq {x c c' k} (h:Z0L P J N d x) (t:Cut P J N d c c' k):Cut P J N d (.seq x c) (.seq x c') k
 | left {c c' y k} (t:Cut P J N d c c' (.code y::k)):Cut P J N d (.seq c (.refuse "")) (.seq c' y) k
inductive Todo(P:Program)(J N:Prop)(d:Bool)(r:Ren):List Item->List Item->Prop
 | nil:Todo P J N d r [] []
 | cons {x y k k'} (h:IR P J N d r x y) (t:Todo P J N d r k k'):Todo P J N d r (x::k) (y::k')
 | tail (hd:d=false) (hk:∀x,Jk.rest.head?=some x->mild x=true):Todo P J N d r [.code (.refuse "")] Jk.rest
 | cut {c c' l k} (hd:d=false) (hl:∀i,exitTo i l=none/\gotoIn i l=none) (h:Cut P J N d c c' k):Todo P J N d r (.code c::l) (.code c'::k)
def PR(r:Ren)(p q:PanicEntry):Prop:=VR r p.v q.v/\p.recovered=q.recovered/\p.goexit=q.goexit
inductive MR(r:Ren):FrameMode->FrameMode->Prop
 | run:MR r .run .run
 | returning:MR r .returning .returning
 | panicking {ps qs} (h:Lis (PR r) ps qs):MR r (.panicking ps) (.panicking qs)
inductive RoR(r:Ren):Option Nat->Option Nat->Prop
 | none:RoR r none none
 | some {l l'} (h:r l=some l'):RoR r (some l) (some l')
structure FrR(P:Program)(F:Array Func)(r:Ren)(f g:Frame):Prop where
 fn:f.fn=g.fn
 own:F[f.fn]?=P.funcs[f.fn]?
 tmps:VRs r f.tmps g.tmps
 todo:Todo P (Jk.law f.fn) (¬Jk.gd f.fn) f.roundOf.isSome r f.todo g.todo
 defers:Lis (DR r) f.defers g.defers/\(Jk.law f.fn->f.defers=[])
 mode:MR r f.mode g.mode
 kind:f.kind=g.kind/\(f.kind = .normal\/f.kind = .deferred)
 round:RoR r f.roundOf g.roundOf
section
variable{P:Program}{F:Array Func}{G:FuncId->Prop}{r s:Ren}
theorem IR.mono{J N:Prop}{d:Bool}(h:r.le s){x y:Item}(k:IR P J N d r x y):IR P J N d s x y:=by
 cases k with
 | code h=>exact .code h
 | inBlock i=>exact .inBlock i
 | inLoop h=>exact .inLoop h
 | inScope h=>exact .inScope h
 | inRegion h=>exact .inRegion h
 | inRange n q=>exact .inRange n (h.1 _ _ q)
 | endRange n q=>exact .endRange n (h.1 _ _ q)
 | begin_=>exact .begin_
theorem Todo.mono{J N:Prop}{d:Bool}(h:r.le s){x y:List Item}(k:Todo P J N d r x y):Todo P J N d s x y:=by
 induction k with
 | nil=>exact .nil
 | cons a _ ih=>exact .cons (a.mono h) ih
 | tail hd hk=>exact .tail hd hk
 | cut hd hl h=>exact .cut hd hl h
theorem PR.mono(h:r.le s){x y:PanicEntry}(k:PR r x y):PR s x y:=⟨k.1.mono h,k.2⟩
theorem MR.mono(h:r.le s){x y:FrameMode}(k:MR r x y):MR s x y:=by
 cases k with
 | run=>exact .run
 | returning=>exact .returning
 | panicking q=>exact .panicking (q.imp λ_ _=>PR.mono h)
theorem RoR.mono(h:r.le s){x y:Option Nat}(k:RoR r x y):RoR s x y:=by
 cases k with
 | none=>exact .none
 | some q=>exact .some (h.1 _ _ q)
theorem FrR.mono(h:r.le s){f g:Frame}(k:FrR P F r f g):FrR P F s f g:=
 ⟨k.fn,k.own,VRs.mono h k.tmps,k.todo.mono h,⟨k.defers.1.imp λ_ _=>DR.mono h,k.defers.2⟩,k.mode.mono h,k.kind,k.round.mono h⟩
theorem FrR.env{f g:Frame}(k:FrR P F r f g):EnvR r f.eval g.eval:=by
 intro x hx
 cases x with
 | tmp t =>
  show VR r (f.tmps.getD t undef) (g.tmps.getD t undef);rw[Y6,Y6]
  rcases k.tmps.get t with⟨a,b⟩ | ⟨x,y,a,b,q⟩
  ·rw[a,b];exact .undef
  ·rw[a,b];exact q
 | const v=>exact hx r
 | global g=>exact hx.elim
 | func f=>exact .func (.func f hx) rfl (by simp) rfl (by simp)
theorem FrR.finish{f g:Frame}(k:FrR P F r f g){x y:Value}(h:VR r x y):FrR P F r (f.finish x) (g.finish y):=by
 have kt:=k.todo;obtain⟨ft,fm⟩:∃t,t=f.todo:=⟨_,rfl⟩;obtain⟨gt,gm⟩:∃t,t=g.todo:=⟨_,rfl⟩;unfold Frame.finish;rw[<-fm,<-gm]at kt⊢
 cases kt with
 | nil=>exact k
 | @cons a b az bs hab ht =>
  cases hab with
  | @inRegion ops todo hops =>
   cases todo with
   | nil=>exact k
   | cons i rest =>
    refine⟨k.fn,k.own,?_,.cons (.inRegion hops) ht,k.defers,k.mode,k.kind,k.round⟩;dsimp only
    cases ((ops[i]?).bind (·.dst)) with
    | none=>exact k.tmps
    | some d=>exact k.tmps.set d h
  | inRange n q=>exact⟨k.fn,k.own,k.tmps,.cons (.endRange n q) ht,k.defers,k.mode,k.kind,k.round⟩
  | begin_=>exact⟨k.fn,k.own,k.tmps,ht,k.defers,k.mode,k.kind,k.round⟩
  | _=>exact k
 | cut hd hl h=>exact k
 | tail hd hk =>
  generalize (Jk.rest:List Item)=z at hk⊢
  cases z with
  | nil=>exact k
  | cons y ys =>
   have:=hk y rfl
   cases y<;>first | exact k | cases this
theorem FrR.raise{f g:Frame}(k:FrR P F r f g){ps qs:List PanicEntry}(h:Lis (PR r) ps qs):FrR P F r (f.raise ps) (g.raise qs):=by
 unfold Frame.raise;have km:=k.mode;generalize f.mode=a at km⊢;generalize g.mode=b at km⊢
 cases km with
 | run=>exact⟨k.fn,k.own,k.tmps,k.todo,k.defers,.panicking h,k.kind,k.round⟩
 | returning=>exact⟨k.fn,k.own,k.tmps,k.todo,k.defers,.panicking h,k.kind,k.round⟩
 | panicking q=>exact⟨k.fn,k.own,k.tmps,k.todo,k.defers,.panicking (h.append q),k.kind,k.round⟩
def poison:Frame:={ fn:=0,tmps:=#[],todo:=[.code (.refuse "")],defers:=[{ target:=.nil,args:=#[] }],mode:=.run,kind:=.normal,roundOf:=none }
def Low(f:Frame)(A:List Frame):Prop:=(f.kind = .normal\/A≠[])/\(A≠[]->¬Jk.law f.fn)
def LowL:List Frame->Prop
 | []=>True
 | f::A=>Low f A/\LowL A
theorem Low.raise{f:Frame}{A:List Frame}(h:Low f A)(ps:List PanicEntry):Low (f.raise ps) A:=by
 unfold Frame.raise
 split<;>exact h
theorem Low.finish{f:Frame}{A:List Frame}(h:Low f A)(x:Value):Low (f.finish x) A:=by
 unfold Frame.finish
 split<;>exact h
structure Stk(P:Program)(F:Array Func)(r:Ren)(A B:List Frame):Prop where
 rel:Lis (FrR P F r) A B
 low:LowL A
theorem Stk.mono(h:r.le s){A B:List Frame}(k:Stk P F r A B):Stk P F s A B:=⟨k.rel.imp λ_ _=>FrR.mono h,k.low⟩
theorem Stk.cons{A B:List Frame}{f g:Frame}(h:FrR P F r f g)(k:Stk P F r A B)(hk:Low f A):Stk P F r (f::A) (g::B):=⟨.cons h k.rel,hk,k.low⟩
theorem Stk.uncons{A B:List Frame}{f g:Frame}(k:Stk P F r (f::A) (g::B)):FrR P F r f g/\Stk P F r A B/\Low f A:=by
 obtain⟨h,t⟩:=k
 cases h with
 | cons h1 h2=>exact⟨h1,⟨h2,t.2⟩,t.1⟩
def run1(f:Frame)(cs:List Frame):Goroutine:={frame:=f,callers:=cs,status:=.running,dying:=none}
def Sunk(g:Goroutine):Prop:=g=run1 poison []\/∃c,g=run1 {poison with mode:=.panicking c} []
def ZP(P:Program)(F:Array Func)(cs:List Frame)(r:Ren)(v w:World):GStep->GStep->Prop
 | .go g v' _,q=>Sunk g\/∃r' f W w' ns,q = .go (run1 f W) w' ns/\g.status = .running/\g.dying=none/\g.offers=none/\(∃A B,g.frame::g.callers=A++[poison]/\f::W=B++cs/\A≠[]/\Stk P F r' A B)/\WR (Iv P F) r' v' w'/\Kept r r' v v' w w'/\∀e∈ns,EvG r' v w' e
 | .ended _ _ _,_=>True
 | _,_=>False
end
end Lift
namespace Lift
open Go
variable[Jk]
section
variable{P:Program}{F:Array Func}{G:FuncId->Prop}{r:Ren}{cs:List Frame}{v w:World}
theorem ZP.go{f g:Frame}{A B:List Frame}{w': World}{r':Ren}{es ns:Array Event}(h:Stk P F r' (f::A) (g::B))(hw:WR (Iv P F) r' v' w')(hk:Kept r r' v v' w w')(he:∀e∈ns,EvG r' v w' e):
  ZP P F cs r v w (.go (run1 f (A++[poison])) v' es) (.go (run1 g (B++cs)) w' ns):=.inr ⟨r',g,B++cs,w',ns,rfl,rfl,rfl,rfl,⟨f::A,g::B,rfl,rfl,by simp,h⟩,hw,hk,he⟩
theorem ZP.after{e1 e2:Array Event}{x y:GStep}(h:ZP P F cs r v w x y)(he:∀r' w',r.le r'->(∀e∈e2,EvG r' v w' e)):ZP P F cs r v w (.after e1 x) (.after e2 y):=by
 cases x with
 | go g v' es =>
  rcases h with h | ⟨r',f,W,w',ns,rfl,h1,h2,h3,h4,h5,h6,h7⟩
  ·exact .inl h
  ·exact .inr ⟨r',f,W,w',e2++ns,rfl,h1,h2,h3,h4,h5,h6,λe hm=>(Array.mem_append.1 hm).elim (he r' w' h6.le e) (h7 e)⟩
 | ended o v' es=>trivial
 | _=>exact h.elim
theorem Z5t{f g:Frame}{A B:List Frame}(hs:Stk P F r (f::A) (g::B)):
  (tryRecover f (A++[poison])=none/\tryRecover g (B++cs)=none)\/∃x A' y B',tryRecover f (A++[poison])=some (x,A'++[poison])/\tryRecover g (B++cs)=some (y,B'++cs)/\VR r x y/\Stk P F r A' B'/\Low f A':=by
 obtain⟨hf,hs,hd⟩:=hs.uncons;obtain⟨k1,k2⟩:=hf.kind
 rcases k2 with k2 | k2
 ·refine .inl ⟨?_,?_⟩
  ·unfold tryRecover;rw[k2]
  ·unfold tryRecover;rw[<-k1,k2]
 ·obtain⟨c,cb⟩:=hs
  cases c with
  | nil =>
   rcases hd.1 with hd | hd
   ·rw[k2]at hd;cases hd
   ·exact absurd rfl hd
  | @cons a b az bs hab hrest =>
   have km:=hab.mode;simp only[List.cons_append];unfold tryRecover;rw[<-k1,k2];dsimp only;generalize ha:a.mode=am at km;generalize hb:b.mode=bm at km
   cases km with
   | run=>exact .inl ⟨rfl,rfl⟩
   | returning=>exact .inl ⟨rfl,rfl⟩
   | panicking q =>
    cases q with
    | nil=>exact .inl ⟨rfl,rfl⟩
    | @cons p q ps qs hpq hps =>
     obtain⟨pv,pr,pg⟩:=p;obtain⟨qv,qr,qg⟩:=q;obtain⟨h1,h2,h3⟩:=hpq;obtain rfl:pr=qr:=h2;obtain rfl:pg=qg:=h3
     cases pr<;>cases pg<;>first | exact .inl ⟨rfl,rfl⟩ | skip
     obtain⟨hfr,hst,hk⟩:=Stk.uncons (P:=P) (F:=F) (r:=r) (f:=a) (g:=b) ⟨.cons hab hrest,cb⟩;refine .inr ⟨_,_::az,_,_::bs,rfl,rfl,h1,hst.cons ⟨hab.fn,hab.own,hab.tmps,hab.todo,hab.defers,.panicking (.cons ⟨h1,rfl,rfl⟩ hps),hab.kind,hab.round⟩ hk,.inr (by simp),λ_=>hd.2 (by simp)⟩
theorem Z7l{f g:Frame}(h:FrR P F r f g): (∀d b x s k,f.todo ≠ .call d b x s::k)/\∀d b x s k,g.todo ≠ .call d b x s::k:=by
 have:=h.todo
 constructor
 ·intro d b x s k e
  rw[e]at this;generalize g.todo=y at this
  cases this with
  | cons a _=>cases a
 ·intro d b x s k e
  rw[e]at this;generalize f.todo=y at this;generalize hz:(Item.call d b x s::k)=z at this
  cases this with
  | nil=>cases hz
  | cons a _=>cases hz;cases a
  | tail _ hk=>cases hk _ (by rw[<-hz];rfl)
  | cut _ _ _=>cases hz
theorem Z1b(S:Strip P F (CodeOk P false) G){f:FuncId}{xs ys:Array Value}(h:VRs r xs ys)(g:G f)(hg:∀f,G f->F[f]?=P.funcs[f]?/\(∃fn c,F[f]?=some fn/\fn.body=some c)/\Jk.gd f/\¬Jk.law f){k:CallKind}(hk:k = .normal\/k = .deferred):
  FrR P F r (Frame.enter (PF P F) f xs k) (Frame.enter P f ys k):=by
 obtain⟨e,⟨fn,c,hf,hc⟩,gf,nl⟩:=hg f g;have e0:(PF P F).funcs=F:=rfl;have hp:P.funcs[f]?=some fn:=e▸hf;unfold Frame.enter;rw[e0,hf,hp];obtain⟨_,h2,_⟩:=S.own f fn c gf hf hc;refine⟨rfl,e,?_,?_,⟨.nil,λ_=>rfl⟩,.run,⟨rfl,hk⟩,.none⟩
 ·simp only[h.1]
  exact h.append (Arr.replicate _ .undef)
 ·simp only[Option.bind_some,hc,Option.getD_some]
  exact .cons (.code (J:=Jk.law f) (N:=¬Jk.gd f) (h2.weak nl (λh=>h gf))) .nil
theorem Z87{f:FuncId}{xs:Array Value}{k:CallKind}{A:List Frame}{P:Program}(nl:¬Jk.law f)(h:k = .normal\/A≠[]): Low (Frame.enter P f xs k) A:=⟨h,λ_=>nl⟩
def GOk(P:Program)(F:Array Func)(G:FuncId->Prop):Prop:=∀f,G f->F[f]?=P.funcs[f]?/\(∃fn c,F[f]?=some fn/\fn.body=some c)/\Jk.gd f/\¬Jk.law f
def Z2y(fr:Frame):CallKind:=match fr.todo with | .call _ true _ _::_=>.wrapped | _=>.normal
def lst(P:Program)(fr:Frame)(s:Sem Next)(w:World):Array Event:=seen P fr.fn (if fr.kind == .early then #[] else s.events P w #[])
section
variable{f:Frame}{C:List Frame}{s:Sem Next}{w':World}
theorem Z0q{x:Value}(h:s.run P w = .ok (.value x) w'): stepG.apply P true f C none s w = .after (lst P f s w) (.go (run1 (f.finish x) C) w'):=by
 unfold stepG.apply;simp only[if_true,Yf,h]
 rfl
theorem Z2P(h:s.run P w = .ok .skip w'):stepG.apply P true f C none s w = .after (lst P f s w) (.go (run1 (f.finish undef) C) w'):=by
 unfold stepG.apply;simp only[if_true,Yf,h]
 rfl
theorem Z0F{x:FuncId}{xs:Array Value}(h:s.run P w = .ok (.enter x xs) w'): stepG.apply P true f C none s w = .after (lst P f s w) (.go (run1 (Frame.enter P x xs (Z2y f)) (f::C)) w'):=by
 unfold stepG.apply;simp only[if_true,Yf,h]
 rfl
theorem Z3a{l:Nat}{x:FuncId}{xs:Array Value}{a b:Code}(h:s.run P w = .ok (.round l x xs a b) w'): stepG.apply P true f C none s w = .after (lst P f s w) (.go (run1 (Frame.round l x xs a b .normal) (f::C)) w'):=by
 unfold stepG.apply;simp only[if_true,Yf,h]
 rfl
theorem Z26{d:Deferred}(h:s.run P w = .ok (.defer d) w'): stepG.apply P true f C none s w = .after (lst P f s w) (.go (run1 (Frame.finish {f with defers:=d::f.defers} undef) C) w'):=by
 unfold stepG.apply;simp only[if_true,Yf,h]
 rfl
theorem Z39{x:Value}(h:s.run P w = .halt (.panic x) w'): stepG.apply P true f C none s w = .after (lst P f s w) (.go (run1 (f.raise [{v:=x,recovered:=false}]) C) w'):=by
 unfold stepG.apply;simp only[if_true,Yf,h]
 rfl
theorem Z2O(hrec:P.follows .rangeFuncRecover=true)(h:s.run P w = .ok .recover w')(k:tryRecover f C=none):stepG.apply P true f C none s w = .after (lst P f s w) (.go (run1 (f.finish .nilIface) C) w'):=by
 unfold stepG.apply;simp only[if_true,Yf,h,hrec,k]
 cases f.roundOf<;>rfl
theorem Z42(hrec:P.follows .rangeFuncRecover=true){x:Value}{C':List Frame}(h:s.run P w = .ok .recover w')(k:tryRecover f C=some (x,C')): stepG.apply P true f C none s w = .after (lst P f s w) (.go (run1 (f.finish x) C') w'):=by
 unfold stepG.apply;simp only[if_true,Yf,h,hrec,k]
 cases f.roundOf<;>rfl
theorem Z41{x:Halt}(h:s.run P w = .halt x w')(d:Dies x):∃o w2 es,stepG.apply P true f C none s w = .ended o w2 es:=by
 unfold stepG.apply;simp only[if_true,Yf,h]
 cases x with
 | stuck y=>exact⟨_,_,_,rfl⟩
 | unsupported y=>cases y<;>first | exact⟨_,_,_,rfl⟩ | exact d.elim
 | _=>exact d.elim
end
theorem Z5i{f g:Frame}(h:FrR P F r f g): Z2y f = .normal/\Z2y g = .normal:=by
 have:=h.todo;unfold Z2y;generalize f.todo=x at this⊢;generalize g.todo=y at this⊢
 cases this with
 | nil=>exact⟨rfl,rfl⟩
 | cons a b=>cases a<;>exact⟨rfl,rfl⟩
 | cut _ _ _=>exact⟨rfl,rfl⟩
 | tail _ hk =>
  refine⟨rfl,?_⟩
  split
  ·rename_i e;cases hk _ (by rw[e];rfl)
  ·rfl
theorem Z56(S:Strip P F (CodeOk P false) G)(hg:GOk P F G)(hrec:P.follows .rangeFuncRecover=true){f g:Frame}{A B:List Frame}(hs:Stk P F r (f::A) (g::B))(hw:WR (Iv P F) r v w){s s':Sem Next}{df:Prop}(hdf:df->¬Jk.law f.fn)(h:SR (PF P F) P (Iv P F) (NR (Iv P F) G df) r s s'): ZP P F cs r v w (stepG.apply (PF P F) true f (A++[poison]) none s v) (stepG.apply P true g (B++cs) none s' w):=by
 obtain⟨hf,hst,hd⟩:=hs.uncons;have o:=h.sim v w hw #[];have ke2:(g.kind==CallKind.early)=false:=by rw[<-hf.kind.1];rcases hf.kind.2 with q | q<;>rw[q]<;>rfl
 have go_:∀{r':Ren} {f' g':Frame} {A' B':List Frame} {v' w':World} {ns:Array Event} (e1:Array Event),s'.events P w #[]=#[]++ns->Stk P F r' (f'::A') (g'::B')->WR (Iv P F) r' v' w'->Kept r r' v v' w w'->(∀e∈ns,EvG r' v w' e) ->
   ZP P F cs r v w (.after e1 (.go (run1 f' (A'++[poison])) v')) (.after (lst P g s' w) (.go (run1 g' (B'++cs)) w')):=by
  intro r' f' g' A' B' v' w' ns e1 he h1 h2 h3 h4;refine ZP.go h1 h2 h3 λe hm=>?_;simp only[Array.append_empty]at hm;have:=Conc.mem_seen hm;rw[ke2,he]at this;simp only[Bool.false_eq_true,if_false,Array.empty_append]at this;exact h4 e this
 rw[Yf]at o
 cases hr:s.run (PF P F) v with
 | halt x v' =>
  rw[hr]at o
  cases x with
  | panic x =>
   obtain⟨r',x',w',ns,e,hw',hx,hk,he⟩:=o;simp only[Y9]at e;rw[Z39 hr,Z39 e.1];exact go_ _ e.2 ((hst.mono hk.le).cons ((hf.mono hk.le).raise (.cons ⟨hx,rfl,rfl⟩ .nil)) (hd.raise _)) hw' hk he
  | stuck y =>
   obtain⟨o2,w2,es,e⟩:=Z41 (f:=f) (C:=A++[poison]) hr trivial;rw[e];trivial
  | unsupported y =>
   obtain⟨o2,w2,es,e⟩:=Z41 (f:=f) (C:=A++[poison]) hr o;rw[e];trivial
  | _=>exact o.elim
 | ok n v' =>
  rw[hr]at o;obtain⟨r',b,w',ns,e,hw',hn,hk,he⟩:=o;simp only[Y9]at e;obtain⟨e1,e2⟩:=e;have hf':=hf.mono hk.le;have hst':=hst.mono hk.le
  cases hn with
  | value q =>
   rw[Z0q hr,Z0q e1];exact go_ _ e2 (hst'.cons (hf'.finish q) (hd.finish _)) hw' hk he
  | skip =>
   rw[Z2P hr,Z2P e1];exact go_ _ e2 (hst'.cons (hf'.finish .undef) (hd.finish _)) hw' hk he
  | enter gf q =>
   rw[Z0F hr,Z0F e1,(Z5i hf).1,(Z5i hf).2];exact go_ (A':=f::A) (B':=g::B) _ e2 ((hst'.cons hf' hd).cons (Z1b S q gf hg (.inl rfl)) (Z87 (hg _ gf).2.2.2 (.inl rfl))) hw' hk he
  | round hl hn q ha hb =>
   rw[Z3a hr,Z3a e1];refine go_ (A':=f::A) (B':=g::B) _ e2 ((hst'.cons hf' hd).cons ?_ ⟨.inl rfl,λ_=>(S.same _ hn).2⟩) hw' hk he;exact⟨rfl,(S.same _ hn).1,q,.cons (.code (ha.weak (S.same _ hn).2 (λh=>h hn))) (.cons .begin_ (.cons (.code (hb.weak (S.same _ hn).2 (λh=>h hn))) .nil)),⟨.nil,λ_=>rfl⟩,.run,⟨rfl,.inl rfl⟩,.some hl⟩
  | defer dq q =>
   rw[Z26 hr,Z26 e1];have hfd:FrR P F r' {f with defers:=_::f.defers} {g with defers:=_::g.defers}:=⟨hf'.fn,hf'.own,hf'.tmps,hf'.todo,⟨.cons q hf'.defers.1,λl=>absurd l (hdf dq)⟩,hf'.mode,hf'.kind,hf'.round⟩;refine go_ (A':=A) (B':=B) _ e2 (hst'.cons (hfd.finish .undef) (Low.finish (f:={f with defers:=_::f.defers}) hd _)) hw' hk he
  | recover =>
   rcases Z5t (cs:=cs) (hst'.cons hf' hd) with⟨h1,h2⟩ | ⟨x,A',y,B',h1,h2,h3,h4,h5⟩
   ·rw[Z2O (P:=PF P F) hrec hr h1,Z2O hrec e1 h2]
    exact go_ _ e2 (hst'.cons (hf'.finish .iface0) (hd.finish _)) hw' hk he
   ·rw[Z42 (P:=PF P F) hrec hr h1,Z42 hrec e1 h2]
    exact go_ _ e2 (h4.cons (hf'.finish h3) (h5.finish _)) hw' hk he
end
end Lift
namespace Lift
open Go
variable[Jk]
section
variable{P:Program}{F:Array Func}{G:FuncId->Prop}{r:Ren}{cs:List Frame}{v w:World}
theorem ZP.lift{r₁:Ren}{v₁ w₁:World}{x y:GStep}{e1 e2:Array Event}(hk:Kept r r₁ v v₁ w w₁)(he:∀e∈e2,EvG r₁ v w₁ e)(h:ZP P F cs r₁ v₁ w₁ x y):ZP P F cs r v w (.after e1 x) (.after e2 y):=by
 cases x with
 | go g v' es =>
  rcases h with h | ⟨r',f,W,w',ns,rfl,h1,h2,h3,h4,h5,h6,h7⟩
  ·exact .inl h
  ·refine .inr ⟨r',f,W,w',e2++ns,rfl,h1,h2,h3,h4,h5,hk.trans h6,λe hm=>?_⟩
   rcases Array.mem_append.1 hm with q | q
   ·exact(he e q).more h6.le h6.sizeW
   ·exact(h7 e q).lift hk
 | ended o v' es=>trivial
 | _=>exact h.elim
theorem ZP.still{f g:Frame}{A B:List Frame}(h:Stk P F r (f::A) (g::B))(hw:WR (Iv P F) r v w): ZP P F cs r v w (.go (run1 f (A++[poison])) v) (.go (run1 g (B++cs)) w):=ZP.go h hw (Kept.refl _ _ _) (by simp)
theorem Zfb{ps qs:List PanicEntry}(h:Lis (PR r) ps qs):Lis (PR r) (ps.dropWhile (!·.goexit)) (qs.dropWhile (!·.goexit)):=by
 induction h with
 | nil=>exact .nil
 | cons a t ih =>
  rw[List.dropWhile_cons,List.dropWhile_cons,a.2.2]
  split
  ·exact ih
  ·exact .cons a t
theorem Z2v{f g:Frame}{A B:List Frame}(hs:Stk P F r (f::A) (g::B))(hw:WR (Iv P F) r v w){x y:Value}(hx:VR r x y){m:Bool}:
  ZP P F cs r v w (doReturn (PF P F) true f (A++[poison]) none x v) (doReturn P m g (B++cs) none y w):=by
 obtain⟨hf,hst,hd⟩:=hs.uncons;obtain⟨c,cb⟩:=hst;obtain⟨k1,k2⟩:=hf.kind
 cases c with
 | nil =>
  have hk:=hd.1.resolve_right (by simp);unfold doReturn;simp only[List.nil_append,hk];exact .inl (.inl rfl)
 | @cons a b az bs hab hrest =>
  obtain⟨hfr,hst,hk⟩:=Stk.uncons (P:=P) (F:=F) (r:=r) (f:=a) (g:=b) ⟨.cons hab hrest,cb⟩;unfold doReturn;simp only[List.cons_append,<-k1]
  rcases k2 with k2 | k2
  ·simp only[k2]
   exact ZP.still (hst.cons (hfr.finish hx) (hk.finish _)) hw
  ·simp only[k2]
   have km:=hfr.mode;have out:∀{am bm:FrameMode},MR r am bm->ZP P F cs r v w (.go (run1 {a with mode:=am} (az++[poison])) v) (.go (run1 {b with mode:=bm} (bs++cs)) w):=λq =>
    ZP.still (hst.cons ⟨hfr.fn,hfr.own,hfr.tmps,hfr.todo,hfr.defers,q,hfr.kind,hfr.round⟩ hk) hw
   have same:ZP P F cs r v w (.go (run1 a (az++[poison])) v) (.go (run1 b (bs++cs)) w):=ZP.still (hst.cons hfr hk) hw;generalize ha:a.mode=am at km;generalize hb:b.mode=bm at km
   cases km with
   | run=>exact same
   | returning=>exact same
   | panicking q =>
    cases q with
    | nil=>exact same
    | @cons p q ps qs hpq hps =>
     obtain⟨pv,pr,pg⟩:=p;obtain⟨qv,qr,qg⟩:=q;obtain⟨h1,h2,h3⟩:=hpq;obtain rfl:pr=qr:=h2
     cases pr
     ·exact same
     ·have:=Zfb hps
      dsimp only;generalize ps.dropWhile (!·.goexit)=d1 at this⊢;generalize qs.dropWhile (!·.goexit)=d2 at this⊢
      cases this with
      | nil=>exact out .returning
      | cons u t=>exact out (.panicking (.cons u t))
theorem Z22{fn:Func}{xs ys:Array Value}(h:VRs r xs ys): SR (PF P F) P (Iv P F) VA r (results fn xs) (results fn ys):=by
 unfold results;rw[Array.mapM_eq_mapM_toList,Array.mapM_eq_mapM_toList];simp only[map_eq_pure_bind,bind_assoc,pure_bind];have key:∀(l:List ResultVar) {r:Ren} {f g:List Value->Sem Value},VRs r xs ys->(∀r',r.le r'->∀us vs,Lis (VR r') us vs->SR (PF P F) P (Iv P F) VA r' (f us) (g vs)) ->
   SR (PF P F) P (Iv P F) VA r
    (l.mapM (λ| .tmp t=>pure (xs.getD t undef) | .cell a t=>(do loadVar t (<-asAddr (xs.getD a undef)):Sem Value)) >>= f)
    (l.mapM (λ| .tmp t=>pure (ys.getD t undef) | .cell a t=>(do loadVar t (<-asAddr (ys.getD a undef)):Sem Value)) >>= g):=by
  intro l
  induction l with
  | nil=>exact λh k=>k _ (Ren.le_refl _) _ _ .nil
  | cons a l ih =>
   intro r f g h k;have gt:∀{r':Ren} (t:Tmp),r.le r'->VR r' (xs.getD t undef) (ys.getD t undef):=by
    intro r' t hr;rw[Y6,Y6]
    rcases (VRs.mono hr h).get t with⟨a,b⟩ | ⟨x,y,a,b,q⟩
    ·rw[a,b];exact .undef
    ·rw[a,b];exact q
   simp only[List.mapM_cons,bind_assoc,pure_bind];have step:SR (PF P F) P (Iv P F) VA r
     (match a with | .tmp t=>pure (xs.getD t undef) | .cell a t=>(do loadVar t (<-asAddr (xs.getD a undef)):Sem Value))
     (match a with | .tmp t=>pure (ys.getD t undef) | .cell a t=>(do loadVar t (<-asAddr (ys.getD a undef)):Sem Value)):=by
    cases a with
    | tmp t=>exact .pure (gt t (Ren.le_refl _))
    | cell a t=>exact Z6 (Z8u (gt a (Ren.le_refl _))) λ_ _ x y q=>Z6r q
   refine Z6 step λr1 hr1 x y q=>?_;exact ih (VRs.mono hr1 h) λr2 hr2 us vs huv=>k r2 (Ren.le_trans hr1 hr2) _ _ (.cons (q.mono hr2) huv)
 refine key _ h λr' hr us vs huv=>?_
 cases huv with
 | nil=>exact .pure (.tupA .nil)
 | @cons u v us vs a t =>
  cases t with
  | nil=>exact .pure a
  | cons b t =>
   refine .pure ?_;rw[dif_neg (by simp),dif_neg (by simp)];exact .tupA (Lis.arr (.cons a (.cons b t)))
theorem ZdL(S:Strip P F (CodeOk P false) G){l l':Nat}{f:FuncId}{xs ys:Array Value}{a b:Code}{k:CallKind}(hk:k = .normal\/k = .deferred)(hl:r l=some l')(hn:(Iv P F).fn f)(q:VRs r xs ys)(ha:(Iv P F).code a)(hb:(Iv P F).code b):
  FrR P F r (Frame.round l f xs a b k) (Frame.round l' f ys a b k):=
 ⟨rfl,(S.same _ hn).1,q,.cons (.code (ha.weak (S.same _ hn).2 (λh=>h hn))) (.cons .begin_ (.cons (.code (hb.weak (S.same _ hn).2 (λh=>h hn))) .nil)),⟨.nil,λ_=>rfl⟩,.run,⟨rfl,hk⟩,.some hl⟩
def lsd(P:Program)(fr:Frame)(t:Target)(az:Array Value)(w:World):Array Event:=seen P fr.fn ((invoke t az).events P w #[])
section
variable{f:Frame}{K:List Frame}{x:Fn}{xs az:Array Value}{w':World}
theorem Z4E{y:Value}(h:(invoke (.fn x xs) az).run P w = .ok (.value y) w'): callDeferred P f K none ⟨.fn x xs,az⟩ w = .after (lsd P f (.fn x xs) az w) (.go (run1 f K) w'):=by
 unfold callDeferred;simp only[Yf,h]
 rfl
theorem Z90(h:(invoke (.fn x xs) az).run P w = .ok .skip w'):callDeferred P f K none ⟨.fn x xs,az⟩ w = .after (lsd P f (.fn x xs) az w) (.go (run1 f K) w'):=by
 unfold callDeferred;simp only[Yf,h]
 rfl
theorem Z6K{d:Deferred}(h:(invoke (.fn x xs) az).run P w = .ok (.defer d) w'): callDeferred P f K none ⟨.fn x xs,az⟩ w = .after (lsd P f (.fn x xs) az w) (.go (run1 f K) w'):=by
 unfold callDeferred;simp only[Yf,h]
 rfl
theorem Z3v{y:FuncId}{ys:Array Value}(h:(invoke (.fn x xs) az).run P w = .ok (.enter y ys) w'): callDeferred P f K none ⟨.fn x xs,az⟩ w = .after (lsd P f (.fn x xs) az w) (.go (run1 (Frame.enter P y ys .deferred) (f::K)) w'):=by
 unfold callDeferred;simp only[Yf,h]
 rfl
theorem Z6O{l:Nat}{y:FuncId}{ys:Array Value}{a b:Code}(h:(invoke (.fn x xs) az).run P w = .ok (.round l y ys a b) w'): callDeferred P f K none ⟨.fn x xs,az⟩ w = .after (lsd P f (.fn x xs) az w) (.go (run1 (Frame.round l y ys a b .deferred) (f::K)) w'):=by
 unfold callDeferred;simp only[Yf,h]
 rfl
theorem Z6N{y:Value}(h:(invoke (.fn x xs) az).run P w = .halt (.panic y) w'): callDeferred P f K none ⟨.fn x xs,az⟩ w = .after (lsd P f (.fn x xs) az w) (.go (run1 (f.raise [{v:=y,recovered:=false}]) K) w'):=by
 unfold callDeferred;simp only[Yf,h]
 rfl
theorem Z8Z{y:Halt}(h:(invoke (.fn x xs) az).run P w = .halt y w')(d:Dies y):∃o w2 es,callDeferred P f K none ⟨.fn x xs,az⟩ w = .ended o w2 es:=by
 unfold callDeferred;simp only[Yf,h]
 cases y with
 | stuck y=>exact⟨_,_,_,rfl⟩
 | unsupported y=>exact⟨_,_,_,rfl⟩
 | _=>exact d.elim
theorem Zci{b:Nat}: ∃o w2 es,callDeferred P f K none ⟨.collected b,az⟩ w = .ended o w2 es:=by
 unfold callDeferred;exact⟨_,_,_,rfl⟩
theorem Zcj{ps:List PanicEntry}(hm:f.mode = .panicking ps):∃o w2 es,callDeferred P f K none ⟨.nil,az⟩ w = .ended o w2 es:=by
 unfold callDeferred;rw[hm];exact⟨_,_,_,rfl⟩
theorem Z6M (hm:f.mode = .run\/f.mode = .returning):callDeferred P f K none ⟨.nil,az⟩ w = .after (lsd P f .nil az w) (.go (run1 (f.raise [{ v:=.iface P.rt.errorString (strVal "invalid memory address or nil pointer dereference"),recovered:=false }]) K) w):=by
 unfold callDeferred
 rcases hm with hm | hm
 ·simp only[Yf]
  rw[hm]
  rfl
 ·simp only[Yf]
  rw[hm]
  rfl
theorem Zck(h:(invoke (.fn x xs) az).run P w = .ok .recover w'):callDeferred P f K none ⟨.fn x xs,az⟩ w = .after (lsd P f (.fn x xs) az w) (match f.mode,tryRecover f K with
  | .returning,some (_,K')=>.go (run1 f K') w'
  | _,_=>.go (run1 f K) w'):=by
 unfold callDeferred;simp only[Yf,h]
 rfl
end
theorem Z2o(S:Strip P F (CodeOk P false) G)(hg:GOk P F G){f g:Frame}{A B:List Frame}(hs:Stk P F r (f::A) (g::B))(hw:WR (Iv P F) r v w){d d':Deferred}(hd:DR r d d'):
  ZP P F cs r v w (callDeferred (PF P F) f (A++[poison]) none d v) (callDeferred P g (B++cs) none d' w):=by
 obtain⟨hf,hst,hb⟩:=hs.uncons;have o:=(Z2J (df:=True) S hd.1 hd.2).sim v w hw #[];obtain⟨t,az⟩:=d;obtain⟨t',bs⟩:=d';obtain⟨ht,ha⟩:=hd;dsimp only at ht ha o;rw[Yf]at o;have go_:∀{r':Ren} {f' g':Frame} {A' B':List Frame} {v' w':World} {ns:Array Event} (e1:Array Event),(invoke t' bs).events P w #[]=#[]++ns->Stk P F r' (f'::A') (g'::B')->WR (Iv P F) r' v' w'->Kept r r' v v' w w'->(∀e∈ns,EvG r' v w' e) ->
   ZP P F cs r v w (.after e1 (.go (run1 f' (A'++[poison])) v')) (.after (lsd P g t' bs w) (.go (run1 g' (B'++cs)) w')):=by
  intro r' f' g' A' B' v' w' ns e1 he h1 h2 h3 h4;refine ZP.go h1 h2 h3 λe hm=>?_;simp only[Array.append_empty]at hm;have:=Conc.mem_seen hm;rw[he]at this;simp only[Array.empty_append]at this;exact h4 e this
 cases ht with
 | nil =>
  have km:=hf.mode;have run_:(f.mode = .run\/f.mode = .returning)->(g.mode = .run\/g.mode = .returning)->ZP P F cs r v w (callDeferred (PF P F) f (A++[poison]) none ⟨.nil,az⟩ v) (callDeferred P g (B++cs) none ⟨.nil,bs⟩ w):=by
   intro h1 h2;rw[Z6M h1,Z6M h2];exact go_ (ns:=#[]) _ rfl (hst.cons (hf.raise (.cons ⟨.iface _ (.string _),rfl,rfl⟩ .nil)) (hb.raise _)) hw (Kept.refl _ _ _) (by simp)
  generalize hx:f.mode=fm at km;generalize hy:g.mode=gm at km
  cases km with
  | run=>exact run_ (.inl hx) (.inl hy)
  | returning=>exact run_ (.inr hx) (.inr hy)
  | panicking q =>
   obtain⟨o2,w2,es,e⟩:=Zcj (P:=PF P F) (K:=A++[poison]) (az:=az) (w:=v) hx;rw[e];trivial
 | collected q =>
  obtain⟨o2,w2,es,e⟩:=Zci (P:=PF P F) (f:=f) (K:=A++[poison]) (az:=az) (w:=v);rw[e];trivial
 | fn hfn hx =>
  cases hr:(invoke (.fn _ _) az).run (PF P F) v with
  | halt x v' =>
   rw[hr]at o
   cases x with
   | panic x =>
    obtain⟨r',x',w',ns,e,hw',hx,hk,he⟩:=o;simp only[Y9]at e;rw[Z6N hr,Z6N e.1];exact go_ _ e.2 ((hst.mono hk.le).cons ((hf.mono hk.le).raise (.cons ⟨hx,rfl,rfl⟩ .nil)) (hb.raise _)) hw' hk he
   | stuck y =>
    obtain⟨o2,w2,es,e⟩:=Z8Z (f:=f) (K:=A++[poison]) hr trivial;rw[e];trivial
   | unsupported y =>
    obtain⟨o2,w2,es,e⟩:=Z8Z (f:=f) (K:=A++[poison]) hr o;rw[e];trivial
   | _=>exact o.elim
  | ok n v' =>
   rw[hr]at o;obtain⟨r',b,w',ns,e,hw',hn,hk,he⟩:=o;simp only[Y9]at e;obtain⟨e1,e2⟩:=e;have hf':=hf.mono hk.le;have hst':=hst.mono hk.le
   cases hn with
   | value q=>rw[Z4E hr,Z4E e1];exact go_ _ e2 (hst'.cons hf' hb) hw' hk he
   | skip=>rw[Z90 hr,Z90 e1];exact go_ _ e2 (hst'.cons hf' hb) hw' hk he
   | enter gf q=>rw[Z3v hr,Z3v e1];exact go_ (A':=f::A) (B':=g::B) _ e2 ((hst'.cons hf' hb).cons (Z1b S q gf hg (.inr rfl)) (Z87 (hg _ gf).2.2.2 (.inr (by simp)))) hw' hk he
   | round hl hn q ha hb2=>rw[Z6O hr,Z6O e1];exact go_ (A':=f::A) (B':=g::B) _ e2 ((hst'.cons hf' hb).cons (ZdL S (.inr rfl) hl hn q ha hb2) ⟨.inr (by simp),λ_=>(S.same _ hn).2⟩) hw' hk he
   | defer _ q=>rw[Z6K hr,Z6K e1];exact go_ _ e2 (hst'.cons hf' hb) hw' hk he
   | recover =>
    rw[Zck hr,Zck e1];have same:=λe0=>go_ (f':=f) (g':=g) (A':=A) (B':=B) e0 e2 (hst'.cons hf' hb) hw' hk he;have km:=hf'.mode;generalize f.mode=fm at km⊢;generalize g.mode=gm at km⊢
    rcases Z5t (cs:=cs) (hst'.cons hf' hb) with⟨h1,h2⟩ | ⟨x,A',y,B',h1,h2,h3,h4,h5⟩
    ·rw[h1,h2]
     cases km<;>exact same _
    ·rw[h1,h2]
     cases km with
     | returning=>exact go_ (A':=A') (B':=B') _ e2 (h4.cons hf' h5) hw' hk he
     | run=>exact same _
     | panicking q=>exact same _
end
end Lift
namespace Lift
open Go
variable[Jk]
section
variable{P:Program}{F:Array Func}{G:FuncId->Prop}{r:Ren}{cs:List Frame}{v w:World}
theorem Z0S{g:Frame}{es:Array Event}{ns:Array Event}{r':Ren}(h:es=#[]++ns)(he:∀e∈ns,EvG r' v w' e): ∀e∈seen P g.fn es,EvG r' v w' e:=λe hm=>by
 have:=Conc.mem_seen hm;rw[h]at this;simp only[Array.empty_append]at this;exact he e this
theorem Ze5{b c:Nat}(h:r b=some c): SR (PF P F) P (Iv P F) (λr a b=>Lis (DR r) a b) r (Instr.takeDeferred b) (Instr.takeDeferred c):=by
 unfold Instr.takeDeferred;refine Z8x h λr' hr o o' ho=>?_
 cases ho with
 | def1 q=>exact .setObj (hr.1 _ _ h) .def0 (by simp) (.pure q)
 | _=>exact Z5
theorem Z6v(S:Strip P F (CodeOk P false) G)(hg:GOk P F G){f g:Frame}{A B:List Frame}(hs:Stk P F r (f::A) (g::B))(hw:WR (Iv P F) r v w){m:Bool}:
  ZP P F cs r v w (unwind (PF P F) true f (A++[poison]) none v) (unwind P m g (B++cs) none w):=by
 obtain⟨hf,hst,hb⟩:=hs.uncons;have hd:=hf.defers.1;have nl:f.defers≠[]->¬Jk.law f.fn:=λh l=>h (hf.defers.2 l);unfold unwind;generalize f.defers=ds at hd nl⊢;generalize g.defers=es at hd⊢;have with_:∀{r':Ren} {xs ys:List Deferred},r.le r'->Lis (DR r') xs ys->ds≠[]->Stk P F r' ({f with defers:=xs}::A) ({g with defers:=ys}::B):=by
  intro r' xs ys hr q hne;have hf':=hf.mono hr;exact(hst.mono hr).cons ⟨hf'.fn,hf'.own,hf'.tmps,hf'.todo,⟨q,λl=>absurd l (nl hne)⟩,hf'.mode,hf'.kind,hf'.round⟩ hb
 cases hd with
 | @cons d e ds es hde hrest =>
  obtain⟨t,az⟩:=d;obtain⟨t',bs⟩:=e;have hde0:=hde;obtain⟨ht,ha⟩:=hde;dsimp only at ht ha
  cases ht with
  | collected q =>
   have o:=(Ze5 (P:=P) (F:=F) q).sim v w hw #[];simp only[Yf]at o⊢
   cases hr:(Instr.takeDeferred _).run (PF P F) v with
   | halt x v'=>trivial
   | ok n v' =>
    rw[hr]at o;obtain⟨r',b,w',ns,e,hw',hn,hk,he⟩:=o;simp only[Y9]at e;rw[e.1,e.2];refine ZP.lift hk (Z0S rfl he) (ZP.still (with_ hk.le (hn.append (hrest.imp λ_ _=>DR.mono hk.le)) (by simp)) hw')
  | nil=>exact Z2o S hg (with_ (Ren.le_refl _) hrest (by simp)) hw hde0
  | fn a b=>exact Z2o S hg (with_ (Ren.le_refl _) hrest (by simp)) hw hde0
 | nil =>
  have km:=hf.mode;dsimp only;generalize hx:f.mode=fm at km;generalize hy:g.mode=gm at km
  cases km with
  | run=>trivial
  | panicking q =>
   have c1:f.catches (PF P F)=false:=by
    unfold Frame.catches
    split
    ·rename_i e2;exact absurd e2 ((Z7l hf).1 _ _ _ _ _)
    ·rfl
   have c2:g.catches P=false:=by
    unfold Frame.catches
    split
    ·rename_i e2;exact absurd e2 ((Z7l hf).2 _ _ _ _ _)
    ·rfl
   dsimp only;rw[c1,c2];obtain⟨c,cb⟩:=hst
   cases c with
   | nil=>exact .inl (.inr ⟨_,rfl⟩)
   | @cons a b az bs hab hrest =>
    obtain⟨hfr,hst,hk⟩:=Stk.uncons (P:=P) (F:=F) (r:=r) (f:=a) (g:=b) ⟨.cons hab hrest,cb⟩;exact ZP.still (hst.cons (hfr.raise q) (hk.raise _)) hw
  | returning =>
   dsimp only;have e0:(PF P F).funcs=F:=rfl;rw[e0,hf.own,<-hf.fn]
   cases hfn:P.funcs[f.fn]? with
   | none =>
    refine Z2v hs hw ?_;rw[Y6,Y6]
    rcases hf.tmps.get 0 with⟨a,b⟩ | ⟨x,y,a,b,q⟩
    ·rw[a,b];exact .undef
    ·rw[a,b];exact q
   | some fn =>
    have o:=(Z22 (P:=P) (F:=F) (fn:=fn) hf.tmps).sim v w hw #[];simp only[Yf]at o⊢
    cases hr:(results fn f.tmps).run (PF P F) v with
    | halt x v'=>cases x<;>trivial
    | ok n v' =>
     rw[hr]at o;obtain⟨r',b,w',ns,e,hw',hn,hk,he⟩:=o;simp only[Y9]at e;rw[e.1,e.2];rw[hf.fn];exact ZP.lift hk (Z0S rfl he) (Z2v (hs.mono hk.le) hw' hn)
end
end Lift
namespace Lift
open Go
variable[Jk]
section
variable{P:Program}{F:Array Func}{G:FuncId->Prop}{r:Ren}{cs:List Frame}{v w:World}
theorem ZeU{J N:Prop}{d:Bool}(i:Nat){k k':List Item}(h:Todo P J N d r k k'): (exitTo i k=none/\(exitTo i k'=none\/d=false))\/∃a b,exitTo i k=some a/\exitTo i k'=some b/\Todo P J N d r a b:=by
 induction h with
 | nil=>exact .inl ⟨rfl,.inl rfl⟩
 | tail hd _=>exact .inl ⟨rfl,.inr hd⟩
 | cut hd hl _=>exact .inl ⟨(hl i).1,.inr hd⟩
 | cons a t ih =>
  cases a with
  | inBlock j =>
   unfold exitTo
   by_cases e:(j==i)=true
   ·simp only[e,if_true];exact .inr ⟨_,_,rfl,rfl,t⟩
   ·simp only[e];exact ih
  | _=>exact ih
theorem ZhH{J N:Prop}{e:Bool}(l:Nat)(c:Code): ∀d,Z0L P J N e c->findLabel c l=some d->Z0L P J N e d:=by
 induction c with
 | seq a b iha ihb =>
  intro d h e;unfold findLabel at e
  cases ha:findLabel a l with
  | some x =>
   rw[ha]at e;obtain rfl:=Y1 e;exact⟨iha x h.1 ha,h.2⟩
  | none =>
   rw[ha]at e;exact ihb d h.2 e
 | label j =>
  intro d h e;unfold findLabel at e
  split at e
  ·obtain rfl:=Y1 e;trivial
  ·cases e
 | _=>intro d h e;cases e
theorem Zf1{J N:Prop}{d:Bool}(l:Nat){k k':List Item}(h:Todo P J N d r k k'): (gotoIn l k=none/\(gotoIn l k'=none\/d=false))\/∃a b,gotoIn l k=some a/\gotoIn l k'=some b/\Todo P J N d r a b:=by
 induction h with
 | nil=>exact .inl ⟨rfl,.inl rfl⟩
 | tail hd _=>exact .inl ⟨rfl,.inr hd⟩
 | cut hd hl _=>exact .inl ⟨(hl l).2,.inr hd⟩
 | cons a t ih =>
  cases a with
  | @inScope c hc =>
   unfold gotoIn
   cases e:findLabel c l with
   | some d=>exact .inr ⟨_,_,rfl,rfl,.cons (.code (ZhH l c d hc e)) (.cons (.inScope hc) t)⟩
   | none=>exact ih
  | _=>exact ih
def Z0k(p:Program)(main:Bool)(fr:Frame)(C:List Frame)(w:World)(jump:Option Code):GStep:=
 match fr.roundOf with
 | none=>if jump matches none | some .ret then .go (run1 {fr with mode:=.returning} C) w else .ended (.stuck "exit, goto: no such block or label" (fr.pos p)) w
 | some l=>.after (seen p fr.fn ((Instr.endRound l jump).events p w #[])) (match (Instr.endRound l jump).run p w with
  | .ok v w=>doReturn p main fr C none v w
  | .halt _ w=>.ended (.stuck "range over a function: no such loop" (fr.pos p)) w)
section
variable{m:Bool}{f:Frame}{K:List Frame}{k:List Item}{c a b:Code}{i:Nat}
theorem Za6(h:f.todo=[]):stepG.exec P m true f K none w=Z0k P m f K w none:=by
 unfold stepG.exec Z0k;rw[h];simp only[Yf]
 cases f.roundOf<;>rfl
theorem Za7(h:f.todo = .code .ret::k):stepG.exec P m true f K none w=Z0k P m f K w (some .ret):=by
 unfold stepG.exec Z0k;rw[h];simp only[Yf]
 cases f.roundOf<;>rfl
theorem Z75(h:f.todo = .code .skip::k):stepG.exec P m true f K none w = .go (run1 {f with todo:=k} K) w:=by unfold stepG.exec;rw[h];rfl
theorem Z4K(h:f.todo = .code (.label i)::k):stepG.exec P m true f K none w = .go (run1 {f with todo:=k} K) w:=by unfold stepG.exec;rw[h];rfl
theorem Z2S(h:f.todo = .inBlock i::k):stepG.exec P m true f K none w = .go (run1 {f with todo:=k} K) w:=by unfold stepG.exec;rw[h];rfl
theorem Z2T(h:f.todo = .inScope c::k):stepG.exec P m true f K none w = .go (run1 {f with todo:=k} K) w:=by unfold stepG.exec;rw[h];rfl
theorem Z33(h:f.todo = .code (.seq a b)::k):stepG.exec P m true f K none w = .go (run1 {f with todo:=.code a :: .code b::k} K) w:=by unfold stepG.exec;rw[h];rfl
theorem Z4J(h:f.todo = .code (.block i c)::k):stepG.exec P m true f K none w = .go (run1 {f with todo:=.code c :: .inBlock i::k} K) w:=by unfold stepG.exec;rw[h];rfl
theorem Z74(h:f.todo = .code (.loop c)::k):stepG.exec P m true f K none w = .go (run1 {f with todo:=.code c :: .inLoop c::k} K) w:=by unfold stepG.exec;rw[h];rfl
theorem Z3B(h:f.todo = .inLoop c::k):stepG.exec P m true f K none w = .go (run1 {f with todo:=.code c :: .inLoop c::k} K) w:=by unfold stepG.exec;rw[h];rfl
theorem Z4L(h:f.todo = .code (.scope c)::k):stepG.exec P m true f K none w = .go (run1 {f with todo:=.code c :: .inScope c::k} K) w:=by unfold stepG.exec;rw[h];rfl
theorem Z5b{x:Operand}(h:f.todo = .code (.cond x a b)::k): stepG.exec P m true f K none w=match f.eval x with
  | .bool t=>.go (run1 {f with todo:=.code (if t then a else b)::k} K) w
  | _=>.ended (.stuck "cond: bool expected" (f.pos P)) w:=by unfold stepG.exec;rw[h];rfl
theorem Z5c(h:f.todo = .code (.exit i)::k):stepG.exec P m true f K none w=match exitTo i k with
  | some k'=>.go (run1 {f with todo:=k'} K) w
  | none=>Z0k P m f K w (some (.exit i)):=by
 unfold stepG.exec Z0k;rw[h];simp only[Yf]
 cases exitTo i k with
 | some k'=>rfl
 | none=>cases f.roundOf<;>rfl
theorem Z73(h:f.todo = .code (.goto i)::k):stepG.exec P m true f K none w=match gotoIn i k with
  | some k'=>.go (run1 {f with todo:=k'} K) w
  | none=>Z0k P m f K w (some (.goto i)):=by
 unfold stepG.exec Z0k;rw[h];simp only[Yf]
 cases gotoIn i k with
 | some k'=>rfl
 | none=>cases f.roundOf<;>rfl
theorem Z1R{y:String}(h:f.todo = .code (.refuse y)::k): ∃z,stepG.exec P m true f K none w = .ended (.unsupported z (f.pos P)) w:=⟨_,by unfold stepG.exec;rw[h]⟩
theorem Z70 (h:f.todo = .beginRound::k):stepG.exec P m true f K none w=stepG.apply P true f K none (do f.roundOf.elim (stuck "beginRound: no round") Instr.beginRound;pure .skip) w:=by unfold stepG.exec;rw[h]
theorem Z64{l:Nat}(h:f.todo = .inRangeFunc l::k): ∃o w2 es,stepG.exec P m true f K none w = .ended o w2 es:=by unfold stepG.exec;rw[h];exact⟨_,_,_,rfl⟩
theorem Z1d{l:Nat}(h:f.todo = .endRangeFunc l::k): stepG.exec P m true f K none w = .after (seen P f.fn ((Instr.endLoop l).events P w #[])) (match (Instr.endLoop l).run P w with
  | .ok jump w=>.go (run1 {f with todo:=(jump.map Item.code).toList++k} K) w
  | .halt (.panic v) w=>.go (run1 (f.raise [{v,recovered:=false}]) K) w
  | .halt _ w=>.ended (.stuck "range over a function: no such loop" (f.pos P)) w):=by
 unfold stepG.exec;rw[h];simp only[Yf]
 rfl
theorem Z3D{ops:Array Oper}(h:f.todo = .code (.region i ops false)::k): stepG.exec P m true f K none w = .go (run1 {f with todo:=.inRegion ops (List.range ops.size)::k} K) w:=by unfold stepG.exec;rw[h];rfl
theorem Z72{ops:Array Oper}(h:f.todo = .code (.region i ops true)::k): stepG.exec P m true f K none w =
  .go (run1 {f with todo:=.inRegion ops (Region.schedule (P.follows .mixedOrders) ops (w.tape w.drawn (.order f.fn i)))::k} K) {w with drawn:=w.drawn+1}:=by unfold stepG.exec;rw[h];rfl
theorem Z71{ops:Array Oper}(h:f.todo = .inRegion ops []::k): stepG.exec P m true f K none w = .go (run1 {f with todo:=k} K) w:=by unfold stepG.exec;rw[h];rfl
theorem Z29{ops:Array Oper}{rest:List Nat}(h:f.todo = .inRegion ops (i::rest)::k): stepG.exec P m true f K none w =
  if ((ops[i]?).map (Region.wanted · (yielded ops f.tmps))).getD false then stepG.oper P true f K none w else .go (run1 (f.finish undef) K) w:=by unfold stepG.exec;rw[h];rfl
theorem Z3C {x:Operand} {ps:Array Tmp} (h:f.todo = .code (.rangeFunc x ps a b)::k):stepG.exec P m true f K none w =
    .after (seen P f.fn ((Instr.enterLoop f.fn f.tmps ps a b f.roundOf).events P w #[])) (match (Instr.enterLoop f.fn f.tmps ps a b f.roundOf).run P w with
      | .ok (l, mark) w => stepG.apply P true { f with todo := .inRangeFunc l :: k, defers := mark ++ f.defers } K none (do let d <- resolve f.eval { callee := .value x, args := #[.const (.func (.yield l) #[] #[])], argTypes := #[] } 0; invoke d.target d.args) w
      | .halt _ w=>.ended (.stuck "range over a function: no such loop" (f.pos P)) w):=by
  unfold stepG.exec;rw[h];simp only[Yf]
  rfl
end
theorem Z5y{l l':Nat}(h:r l=some l'){j:Option Code}(hj:∀c,j=some c->CodeOk P true c): SR (PF P F) P (Iv P F) VA r (Instr.endRound l j) (Instr.endRound l' j):=by
 unfold Instr.endRound;refine Z21 h λr' hr o o' ho=>?_;exact .setObj (hr.1 _ _ h) (.loop ⟨rfl,⟨rfl,hj⟩,ho.fn,ho.tmps,ho.params,ho.assign,ho.body,ho.defers⟩) (by simp) (.pure (.bool _))
theorem Z3U{l l':Nat}(h:r l=some l'): SR (PF P F) P (Iv P F) EQ r (Instr.beginRound l) (Instr.beginRound l'):=by
 unfold Instr.beginRound;refine Z21 h λr' hr o o' ho=>?_;refine .setObj (hr.1 _ _ h) (.loop ⟨rfl,ho.pending,ho.fn,ho.tmps,ho.params,ho.assign,ho.body,ho.defers⟩) (by simp) ?_;show SR _ _ _ _ _ (match o.state with | .ready=>pure () | .done=>_ | .busy=>_ | .exhausted=>_) (match o'.state with | .ready=>pure () | .done=>_ | .busy=>_ | .exhausted=>_);rw[ho.state]
 cases o'.state with
 | ready=>exact .pure rfl
 | _=>exact Z12
theorem Z6n{l l':Nat}(h:r l=some l'): SR (PF P F) P (Iv P F) (λ_ a b=>a=b/\∀c,a=some c->CodeOk P true c) r (Instr.endLoop l) (Instr.endLoop l'):=by
 unfold Instr.endLoop;refine Z21 h λr' hr o o' ho=>?_;rw[ho.state];refine ZL (λ_=>Z4d Z12) λ_=>?_;refine .setObj (hr.1 _ _ h) (.loop ⟨rfl,ho.pending,ho.fn,ho.tmps,ho.params,ho.assign,ho.body,ho.defers⟩) (by simp) ?_;exact .pure ⟨ho.pending.1,ho.pending.2⟩
theorem Z2I {f:FuncId} (hf:(Iv P F).fn f) {xs ys:Array Value} (h:VRs r xs ys) {ps:Array Tmp} {a b:Code} (ha:CodeOk P true a) (hb:CodeOk P true b) {x y:Option Nat} (k:RoR r x y) :
    SR (PF P F) P (Iv P F) (λr p q=>r p.1=some q.1/\Lis (DR r) p.2 q.2) r (Instr.enterLoop f xs ps a b x) (Instr.enterLoop f ys ps a b y):=by
  unfold Instr.enterLoop;have last : ∀{r' : Ren} {d d' : Nat} {ms ms' : List Deferred}, r.le r'->r' d=some d'->Lis (DR r') ms ms'->SR (PF P F) P (Iv P F) (λr p q => r p.1=some q.1/\Lis (DR r) p.2 q.2) r'
      (do pure (<- newObj (.loop { state := .ready, pending := none, fn := f, tmps := xs, params := ps, assign := a, body := b, defers := d }), ms))
      (do pure (<- newObj (.loop { state := .ready, pending := none, fn := f, tmps := ys, params := ps, assign := a, body := b, defers := d' }), ms')) :=
    λhr hd hm=>SR.new (.loop ⟨rfl,⟨rfl,by simp⟩,⟨rfl,hf⟩,VRs.mono hr h,rfl,⟨rfl,ha⟩,⟨rfl,hb⟩,hd⟩) λr2 hr2 b c hb=>.pure ⟨hb,hm.imp λ_ _=>DR.mono hr2⟩
  cases k with
  | some q =>
    simp only[bind_assoc, pure_bind];refine Z21 q λr' hr o o' ho => ?_;exact last hr ho.defers .nil
  | none =>
    simp only[bind_assoc, pure_bind];exact SR.new (.def1 .nil) λr' hr b c hb => last hr hb (.cons ⟨.collected hb, .nil⟩ .nil)
theorem Z3G{f g:Frame}{A B:List Frame}(hs:Stk P F r (f::A) (g::B))(hw:WR (Iv P F) r v w){j:Option Code}(hj:∀c,j=some c->CodeOk P true c){m:Bool}:
  ZP P F cs r v w (Z0k (PF P F) true f (A++[poison]) v j) (Z0k P m g (B++cs) w j):=by
 obtain⟨hf,hst,hd⟩:=hs.uncons;have hr:=hf.round;have ret:ZP P F cs r v w (.go (run1 {f with mode:=.returning} (A++[poison])) v) (.go (run1 {g with mode:=.returning} (B++cs)) w):=
  ZP.still (hst.cons ⟨hf.fn,hf.own,hf.tmps,hf.todo,hf.defers,.returning,hf.kind,hf.round⟩ hd) hw
 unfold Z0k;generalize f.roundOf=x at hr ret⊢;generalize g.roundOf=y at hr ret⊢
 cases hr with
 | none =>
  dsimp only
  cases j with
  | none=>exact ret
  | some c=>cases c<;>first | exact ret | trivial
 | some q =>
  have o:=(Z5y (P:=P) (F:=F) q hj).sim v w hw #[];simp only[Yf]at o;dsimp only
  cases hr:(Instr.endRound _ j).run (PF P F) v with
  | halt x v'=>trivial
  | ok n v' =>
   rw[hr]at o;obtain⟨r',b,w',ns,e,hw',hn,hk,he⟩:=o;simp only[Y9]at e;rw[e.1];exact ZP.lift hk (Z0S e.2 he) (Z2v (hs.mono hk.le) hw' hn)
theorem Z4a{f:Frame}{K:List Frame}{ops:Array Oper}{i:Nat}{rest:List Nat}{k:List Item}{o:Oper}(h:f.todo = .inRegion ops (i::rest)::k)(ho:ops[i]?=some o)(hd:f.roundOf=none\/∀c,o.op ≠ .defer c):
  stepG.oper P true f K none w=stepG.apply P true f K none (execOp f.eval o) w:=by
 unfold stepG.oper Frame.oper?;rw[h];simp only[ho]
 rcases hd with hd | hd
 ·rw[hd]
 ·split
  ·rename_i e;exact absurd e (hd _)
  ·rfl
theorem Z69 {Q:Program} {m:Bool} {f:Frame} {K:List Frame} {u:World} {c:Code} (h:f.roundOf.isSome=false) (hc:c ≠ .ret): Z0k Q m f K u (some c) = .ended (.stuck "exit, goto: no such block or label" (f.pos Q)) u:=by
 unfold Z0k
 cases hx:f.roundOf with
 | none=>cases c<;>first | rfl | exact absurd rfl hc
 | some l=>rw[hx]at h;cases h
theorem Z7J{f g:Frame}{A B:List Frame}(hs:Stk P F r (f::A) (g::B)){k k':List Item}(q:Todo P (Jk.law f.fn) (¬Jk.gd f.fn) f.roundOf.isSome r k k'): Stk P F r ({f with todo:=k}::A) ({g with todo:=k'}::B):=by
 obtain⟨hf,hst,hd⟩:=hs.uncons;exact hst.cons ⟨hf.fn,hf.own,hf.tmps,q,hf.defers,hf.mode,hf.kind,hf.round⟩ hd
def Pend(f:Frame):Prop:=Jk.law f.fn/\f.mode = .run/\∃ops i rest k o,f.todo = .inRegion ops (i::rest)::k/\ops[i]?=some o/\Region.wanted o (yielded ops f.tmps)=true/\Zer o.op
theorem ZeT (S:Strip P F (CodeOk P false) G) (hg:GOk P F G) (hrec:P.follows .rangeFuncRecover=true) {f g:Frame} {A B:List Frame} (hs:Stk P F r (f::A) (g::B)) (hw:WR (Iv P F) r v w) (hm:f.mode = .run) (np:¬Pend f) {m:Bool} :
    ZP P F cs r v w (stepG.exec (PF P F) true true f (A++[poison]) none v) (stepG.exec P m true g (B++cs) none w):=by
  obtain⟨hf, hst, hd⟩ := hs.uncons;have ht := hf.todo;have to_ : ∀{k k' : List Item}, Todo P (Jk.law f.fn) (¬Jk.gd f.fn) f.roundOf.isSome r k k'->ZP P F cs r v w (.go (run1 {f with todo := k} (A++[poison])) v) (.go (run1 {g with todo := k'} (B++cs)) w) := λq => ZP.still (Z7J hs q) hw;generalize h1 : f.todo=fk at ht;generalize h2 : g.todo=gk at ht
  cases ht with
  | nil=>rw[Za6 h1,Za6 h2];exact Z3G hs hw (by simp)
  | tail _ _=>rw[(Z1R h1).choose_spec];trivial
  | cut hd0 hl h =>
    cases h with
    | stop _=>rw[(Z1R h1).choose_spec];trivial
    | seq hx t=>rw[Z33 h1,Z33 h2];exact to_ (.cons (.code hx) (.cut hd0 hl t))
    | left t=>rw[Z33 h1,Z33 h2];exact to_ (.cut hd0 hl t)
  | @cons a b k k' hab hk =>
    cases hab with
    | @code c hc =>
      cases c with
      | skip=>rw[Z75 h1,Z75 h2];exact to_ hk
      | label i=>rw[Z4K h1,Z4K h2];exact to_ hk
      | ret=>rw[Za7 h1,Za7 h2];exact Z3G hs hw (by intro c e;cases e;trivial)
      | seq x y=>rw[Z33 h1,Z33 h2];exact to_ (.cons (.code hc.1) (.cons (.code hc.2) hk))
      | block i x=>rw[Z4J h1,Z4J h2];exact to_ (.cons (.code hc) (.cons (.inBlock i) hk))
      | loop x=>rw[Z74 h1,Z74 h2];exact to_ (.cons (.code hc) (.cons (.inLoop hc) hk))
      | scope x=>rw[Z4L h1,Z4L h2];exact to_ (.cons (.code hc) (.cons (.inScope hc) hk))
      | refuse y=>rw[(Z1R h1).choose_spec];trivial
      | cond x y z =>
        rw[Z5b h1, Z5b h2];have hx := hf.env x hc.1;generalize f.eval x=p at hx⊢;generalize g.eval x=q at hx⊢
        cases hx with
        | bool t =>
          cases t
          · exact to_ (.cons (.code hc.2.2) hk)
          · exact to_ (.cons (.code hc.2.1) hk)
        | _=>trivial
      | exit i =>
        rw[Z5c h1,Z5c h2]
        rcases ZeU i hk with⟨p,q | q⟩ | ⟨p,q,e1,e2,e3⟩
        · rw[p,q];exact Z3G hs hw (by intro c e;cases e;trivial)
        · rw[p,Z69 q (by simp)];trivial
        · rw[e1,e2];exact to_ e3
      | goto i =>
        rw[Z73 h1,Z73 h2]
        rcases Zf1 i hk with⟨p,q | q⟩ | ⟨p,q,e1,e2,e3⟩
        · rw[p,q];exact Z3G hs hw (by intro c e;cases e;trivial)
        · rw[p,Z69 q (by simp)];trivial
        · rw[e1,e2];exact to_ e3
      | region i ops draw =>
        cases draw with
        | false=>rw[Z3D h1,Z3D h2];exact to_ (.cons (.inRegion hc) hk)
        | true =>
          rw[Z72 h1, Z72 h2];have e : v.tape v.drawn (.order f.fn i)=w.tape w.drawn (.order g.fn i) := by rw[hf.fn]; exact hw.tape 0 _
          rw[e];refine ZP.go (Z7J hs (.cons (.inRegion hc) hk)) hw.draw ?_ (by simp)
          exact { le := Ren.le_refl _, tapeV := rfl, tapeW := rfl, drawn := ⟨1, rfl, rfl⟩, os := ⟨rfl, rfl⟩, sizeV := Ye _, sizeW := Ye _
                  far := λ_ _ _ => rfl, new := λ_ _ hb => .inl hb, shut := λ_ _ => rfl, cells := λ_ _ _ _ hi => ⟨_, _, hi⟩, farV := λ_ _ _ => rfl, shutW := λ_ _ _ _ => rfl, par := λe => ⟨e, λ_ _ hb => .inl hb, λi h1 h2 => absurd h2 (by dsimp only; omega)⟩ }
      | rangeFunc x ps y z =>
        rw[Z3C h1, Z3C h2];have hown : (Iv P F).fn f.fn := Classical.not_not.1 hc.2.2.2.1;have o := (Z2I (ps := ps) hown hf.tmps hc.2.1 hc.2.2.1 hf.round).sim v w hw #[];simp only[Yf]at o
        cases hr:(Instr.enterLoop f.fn f.tmps ps y z f.roundOf).run (PF P F) v with
        | halt x v'=>trivial
        | ok n v' =>
          rw[hr]at o;obtain⟨r', b, w', ns, e, hw', hn, hkk, he⟩ := o;simp only[Y9]at e;rw[hf.fn]at e;rw[e.1];obtain⟨l, mk⟩ := n;obtain⟨l', mk'⟩ := b;obtain⟨hl, hm⟩ := hn;have hf' := hf.mono hkk.le;refine ZP.lift hkk (Z0S e.2 he) (Z56 (df := False) (f := {f with todo := .inRangeFunc l::k, defers := mk++f.defers}) (g := {g with todo := .inRangeFunc l'::k', defers := mk'++g.defers}) S hg hrec ((hst.mono hkk.le).cons ?_ hd) hw' (λq => q.elim) ?_)
          · exact⟨hf'.fn,hf'.own,hf'.tmps,.cons (.inRange hc.2.2.2.1 hl) (hk.mono hkk.le),⟨hm.append hf'.defers.1,λl=>absurd l (S.same _ hown).2⟩,hf'.mode,hf'.kind,hf'.round⟩
          · by_cases hz:f.eval x=J0
            · refine .dead ?_
              unfold resolve;dsimp only;rw[hz];exact Z46 hc.2.2.2.2 _
            refine Z6 (A := DR) ?_ λ_ _ a b q => Z2J S q.1 q.2;unfold resolve;have hy : VR r' (.func (.yield l) #[] #[]) (.func (.yield l') #[] #[]) := .func (.yield hl) rfl (by simp) rfl (by simp);refine Z4c hz (hf'.env x hc.1) ?_;have e3 : ∀(h : Operand->Value) (z : Operand), #[z].map h=#[h z] := λh z => by simp
            rw[e3, e3];exact Arr.one hy
    | inBlock i=>rw[Z2S h1,Z2S h2];exact to_ hk
    | inLoop hc=>rw[Z3B h1,Z3B h2];exact to_ (.cons (.code hc) (.cons (.inLoop hc) hk))
    | inScope hc=>rw[Z2T h1,Z2T h2];exact to_ hk
    | inRange n q =>
      obtain⟨o, w2, es, e⟩ := Z64 (P := PF P F) (m := true) (K := A++[poison]) (w := v) h1;rw[e]; trivial
    | begin_ =>
      rw[Z70 h1, Z70 h2];refine Z56 (df := False) S hg hrec hs hw (λq => q.elim) (sr_u ?_);have hr := hf.round;generalize f.roundOf=x at hr⊢;generalize g.roundOf=y at hr⊢
      cases hr with
      | none=>exact Z5
      | some q=>exact Z3U q
    | endRange nj q =>
      rw[Z1d h1, Z1d h2];have o := (Z6n (P := P) (F := F) q).sim v w hw #[];simp only[Yf]at o
      cases hr:(Instr.endLoop _).run (PF P F) v with
      | halt x v' =>
        rw[hr]at o
        cases x with
        | panic x =>
          obtain⟨r', x', w', ns, e, hw', hx, hkk, he⟩ := o;simp only[Y9]at e;rw[e.1];exact ZP.lift hkk (Z0S e.2 he) (ZP.still ((hst.mono hkk.le).cons ((hf.mono hkk.le).raise (.cons ⟨hx, rfl, rfl⟩ .nil)) (hd.raise _)) hw')
        | _=>trivial
      | ok n v' =>
        rw[hr]at o;obtain⟨r', b, w', ns, e, hw', hn, hkk, he⟩ := o;simp only[Y9]at e;rw[e.1];obtain⟨rfl, hn⟩ := hn;refine ZP.lift hkk (Z0S e.2 he) (ZP.still (Z7J (hs.mono hkk.le) ?_) hw');have hk' := hk.mono (s := r') hkk.le
        cases n with
        | none=>exact hk'
        | some c=>exact .cons (.code ((hn c rfl).out (S.same _ (Classical.not_not.1 nj)).2 nj)) hk'
    | @inRegion ops todo hops =>
      cases todo with
      | nil=>rw[Z71 h1,Z71 h2];exact to_ hk
      | cons i rest =>
        rw[Z29 h1, Z29 h2];have hy : ∀o, Region.wanted o (yielded ops f.tmps)=Region.wanted o (yielded ops g.tmps) := by
          intro o;have : yielded ops f.tmps=yielded ops g.tmps := by
            funext j
            unfold yielded
            cases ((ops[j]?).bind (·.dst)) with
            | none=>rfl
            | some t =>
              simp only[Option.bind_some]
              rcases hf.tmps.get t with⟨a,b⟩ | ⟨x,y,a,b,q⟩
              · rw[a,b]
              · rw[a,b]
                cases q with
                | junk _ _ _ m=>cases y<;>first | rfl | exact absurd rfl (m.2.2 _)
                | _=>rfl
          rw[this]
        simp only[hy];have fin : ZP P F cs r v w (.go (run1 (f.finish undef) (A++[poison])) v) (.go (run1 (g.finish undef) (B++cs)) w) := ZP.still (hst.cons (hf.finish .undef) (hd.finish _)) hw
        cases ho:ops[i]? with
        | none=>exact fin
        | some o =>
          by_cases hwant:((some o).map (Region.wanted · (yielded ops g.tmps))).getD false=true
          · rw[if_pos hwant,if_pos hwant]
            have hop := hops o (Yk ho);have hro : (f.roundOf=none/\g.roundOf=none)\/∀c, o.op ≠ .defer c := by
              have hr := hf.round;have h3 := hop.2;generalize f.roundOf=x at hr h3⊢;generalize g.roundOf=y at hr⊢
              cases hr with
              | none=>exact .inl ⟨rfl,rfl⟩
              | some q=>exact .inr (h3 (.inl rfl))
            rw[Z4a h1 ho (hro.imp (·.1) id), Z4a h2 ho (hro.imp (·.2) id)];refine Z56 S hg hrec hs hw (λ⟨c, e⟩ l => hop.2 (.inr l) c e) (Z8w S hw.inj (λ_ => rfl) hf.env (hop.1.resolve_right λq => np ⟨q.1, hm, ops, i, rest, k, o, h1, ho, ?_, q.2⟩));rw[hy]; simpa using hwant
          · rw[if_neg hwant,if_neg hwant];exact fin
theorem Z7E(S:Strip P F (CodeOk P false) G)(hg:GOk P F G)(hrec:P.follows .rangeFuncRecover=true){f g:Frame}{A B:List Frame}(hs:Stk P F r (f::A) (g::B))(hw:WR (Iv P F) r v w)(np:¬Pend f){m:Bool}:
  ZP P F cs r v w (stepG (PF P F) true (run1 f (A++[poison])) v) (stepG P m (run1 g (B++cs)) w):=by
 have hm:=(hs.uncons).1.mode;have e1:∀{Q:Program} {b:Bool} {x:Frame} {K:List Frame} {u:World},x.mode = .run->stepG Q b (run1 x K) u=stepG.exec Q b true x K none u:=by
  intro Q b x K u h;unfold stepG run1;simp only[h]
 have e2:∀{Q:Program} {b:Bool} {x:Frame} {K:List Frame} {u:World},x.mode ≠ .run->stepG Q b (run1 x K) u=unwind Q b x K none u:=by
  intro Q b x K u h;unfold stepG run1
  cases hx:x.mode with
  | run=>exact absurd hx h
  | _=>simp only[hx]
 generalize hx:f.mode=p at hm;generalize hy:g.mode=q at hm
 cases hm with
 | run=>rw[e1 hx,e1 hy];exact ZeT S hg hrec hs hw hx np
 | returning=>rw[e2 (by rw[hx];simp),e2 (by rw[hy];simp)];exact Z6v S hg hs hw
 | panicking q=>rw[e2 (by rw[hx];simp),e2 (by rw[hy];simp)];exact Z6v S hg hs hw
end
end Lift
namespace Lift
open Go
variable[Jk]
def re(w:World)(T:Nat->Question->Nat):World:={w with tape:=T}
def Result.re{α:Type}(T:Nat->Question->Nat):Result α->Result α
 | .ok a w=>.ok a (Lift.re w T)
 | .halt h w=>.halt h (Lift.re w T)
def Zep(T S:Nat->Question->Nat)(lo hi:Nat):Prop:=∀i q,lo<=i->i<hi->T i q=S i q
section
variable{Q P:Program}{C:Inv}{r:Ren}{v w:World}
theorem WR.cells{b c o:Nat}{s:Option Nat}{x:Value}(h:WR C r v w)(hb:r b=some c)(hx:v.cell? ⟨b,o,s⟩=some x):
  s=none/\∃cs cs' e fr fr' x',v.heap[b]?=some (.cells cs e fr)/\w.heap[c]?=some (.cells cs' e fr')/\cs[o]?=some x/\cs'[o]?=some x'/\VR r x x'/\VRs r cs cs'/\((fr=(0,0)/\fr'=(0,0))\/fr=(0,cs.size)):=by
 obtain⟨p,p',h1,h2,ho⟩:=h.on b c hb;unfold World.cell? at hx;rw[h1]at hx
 cases ho with
 | @cells cs cs' e fr fr' q hf =>
  cases s with
  | some s=>simp at hx
  | none =>
   simp at hx
   rcases q.get o with⟨a,_⟩ | ⟨y,y',a,b,k⟩
   ·rw[a]at hx;cases hx
   ·rw[a]at hx
    obtain rfl:=Y1 hx;exact⟨rfl,_,_,_,_,_,_,h1,h2,a,b,k,q,hf⟩
 | _=>simp at hx
theorem WR.store{b c o:Nat}{x z z':Value}(h:WR C r v w)(hb:r b=some c)(hx:v.cell? ⟨b,o,none⟩=some x)(hf:v.frozen? ⟨b,o,none⟩=false)(hz:VR r z z'):
  WR C r (v.setCell ⟨b,o,none⟩ z) (w.setCell ⟨c,o,none⟩ z'):=by
 obtain⟨_,cs,cs',e,fr,fr',x',h1,h2,h3,h4,h5,h6,h7⟩:=h.cells hb hx;have hfr:fr=(0,0)/\fr'=(0,0):=by
  rcases h7 with q | q
  ·exact q
  ·have hlt:o<cs.size:=(Y0.1 h3).1
   unfold World.frozen? at hf;rw[h1,q]at hf;simp at hf;omega
 have hv':∀i,(v.setCell ⟨b,o,none⟩ z).heap[i]?=if b=i then some (.cells (cs.setIfInBounds o z) e fr) else v.heap[i]?:=by
  intro i;simp only[World.setCell,Array.getElem?_modify]
  by_cases e':b=i
  ·subst e';simp[h1]
  ·simp[e']
 have hw':∀i,(w.setCell ⟨c,o,none⟩ z').heap[i]?=if c=i then some (.cells (cs'.setIfInBounds o z') e fr') else w.heap[i]?:=by
  intro i;simp only[World.setCell,Array.getElem?_modify]
  by_cases e':c=i
  ·subst e';simp[h2]
  ·simp[e']
 exact h.turn hb (.cells (h6.set o hz) (.inl hfr)) hv' hw' ⟨rfl,rfl,rfl,rfl,rfl,rfl⟩
def Live{α:Type}(x:Result α)(v':World):Prop:=(∃a,x = .ok a v')\/∃y,x = .halt (.panic y) v'
theorem Live.kept{A:Ren->α->β->Prop}{s:Sem α}{s':Sem β}(k:SR Q P C A r s s')(h:WR C r v w)(hl:Live (s.run Q v) v'): v.drawn<=v'.drawn/\v'.tape=v.tape:=by
 have o:=k.sim v w h #[]
 rcases hl with⟨a,e⟩ | ⟨y,e⟩
 ·rw[e]at o
  obtain⟨_,_,_,_,_,_,_,hk,_⟩:=o;obtain⟨n,h1,_⟩:=hk.drawn;exact⟨by omega,hk.tapeV⟩
 ·rw[e]at o
  obtain⟨_,_,_,_,_,_,_,hk,_⟩:=o;obtain⟨n,h1,_⟩:=hk.drawn;exact⟨by omega,hk.tapeV⟩
theorem Z0Y{h:Halt}{v: World}(d:Dies h): ¬Live (.halt h v:Result α) v':=by
 rintro (⟨a,e⟩ | ⟨y,e⟩)
 ·cases e
 ·cases e;exact d
theorem Zds{b c o:Nat}{s:Option Nat}{m:Bool}(h:WR C r v w)(hb:r b=some c)(hx:v.cell? ⟨b,o,s⟩=none): ∃x,v.farLoad Q ⟨b,o,s⟩ m = .error x/\Dies x/\∀z,v.farStore Q ⟨b,o,s⟩ z m = .error x\/∃y,v.farStore Q ⟨b,o,s⟩ z m = .error y/\Dies y:=by
 obtain⟨p,p',h1,h2,ho⟩:=h.on b c hb;unfold World.farLoad World.farStore World.noCell;rw[h1]
 cases ho<;>exact⟨_,rfl,trivial,λz=>.inr ⟨_,rfl,trivial⟩⟩
theorem SR.local{A:Ren->α->β->Prop}{s:Sem α}{s':Sem β}(k:SR Q P C A r s s'): ∀v w:World,WR C r v w->∀v',Live (s.run Q v) v'->∀T,Zep T v.tape v.drawn v'.drawn->∀es,
  s.runT Q (re v T) es=(Result.re T (s.runT Q v es).1,(s.runT Q v es).2):=by
 induction k with
 | pure q=>exact λv w h v' hl T ht es=>rfl
 | @load r a a' k k' ha _ ih =>
  intro v w h v' hl T ht es
  cases ha with
  | @mk b c o s hb =>
  cases hx:v.cell? ⟨b,o,s⟩ with
  | none =>
   obtain⟨x,e,d,_⟩:=Zds (Q:=Q) (m:=false) h hb hx;refine absurd hl ?_;have:(Sem.load .plain ⟨b,o,s⟩ k).run Q v = .halt x v:=by
    simp only[Sem.run,hx];rw[show (Mode.plain==Mode.atomic)=false from rfl,e]
   rw[this];exact Z0Y d
  | some x =>
   obtain⟨rfl,cs,cs',e,fr,fr',x',_,_,_,_,hr,_⟩:=h.cells hb hx;have hx2:(re v T).cell? ⟨b,o,none⟩=some x:=hx;have e1:(Sem.load .plain ⟨b,o,none⟩ k).run Q v=(k x).run Q v:=by simp only[Sem.run,hx]
   rw[e1]at hl;unfold Sem.runT;simp only[hx,hx2];exact ih _ (Ren.le_refl _) x x' hr v w h v' hl T ht _
 | @store r a a' z z' k k' ha hz _ ih =>
  intro v w h v' hl T ht es
  cases ha with
  | @mk b c o s hb =>
  by_cases hag:(∃xs,z = .agg xs)\/∃xs,z = .tuple xs
  ·rcases hag with⟨xs,rfl⟩ | ⟨xs,rfl⟩
   ·exact absurd hl (Z0Y (h:=.stuck "store: not the value of one cell") trivial)
   ·exact absurd hl (Z0Y (h:=.stuck "store: not the value of one cell") trivial)
  have na:(∀xs,z ≠ .agg xs)/\∀xs,z ≠ .tuple xs:=⟨λxs e=>hag (.inl ⟨xs,e⟩),λxs e=>hag (.inr ⟨xs,e⟩)⟩;have run1:∀u,(Sem.store .plain ⟨b,o,s⟩ z k).run Q u=match u.cell? ⟨b,o,s⟩ with
    | some _=>if u.frozen? ⟨b,o,s⟩ then .halt (.unsupported (.unsafePointer "a write to bytes that a string shares")) u else k.run Q (u.setCell ⟨b,o,s⟩ z)
    | none=>match u.farStore Q ⟨b,o,s⟩ z false with | .ok (w,_)=>k.run Q w | .error h=>.halt h u:=by
   intro u
   cases z<;>first | exact absurd rfl (na.1 _) | exact absurd rfl (na.2 _) | rfl
  have run2:∀u,(Sem.store .plain ⟨b,o,s⟩ z k).runT Q u es=match u.cell? ⟨b,o,s⟩ with
    | some _=>if u.frozen? ⟨b,o,s⟩ then(.halt (.unsupported (.unsafePointer "a write to bytes that a string shares")) u,es) else k.runT Q (u.setCell ⟨b,o,s⟩ z) (es.push ⟨.cell ⟨b,o,s⟩,true,false⟩)
    | none=>match u.farStore Q ⟨b,o,s⟩ z false with | .ok (w,touched)=>k.runT Q w (es++touched.toArray.map (⟨.cell ·,true,false⟩)) | .error h=>(.halt h u,es):=by
   intro u
   cases z<;>first | exact absurd rfl (na.1 _) | exact absurd rfl (na.2 _) | rfl
  cases hx:v.cell? ⟨b,o,s⟩ with
  | none =>
   obtain⟨x,e,d,f⟩:=Zds (Q:=Q) (m:=false) h hb hx;refine absurd hl ?_;rw[run1,hx]
   rcases f z with f | ⟨y,f,d2⟩
   ·rw[f];exact Z0Y d
   ·rw[f];exact Z0Y d2
  | some x =>
   obtain⟨rfl,_⟩:=h.cells hb hx;have hx2:(re v T).cell? ⟨b,o,none⟩=some x:=hx
   cases hf:v.frozen? ⟨b,o,none⟩ with
   | true =>
    refine absurd hl ?_;rw[run1,hx,hf];exact Z0Y (h:=.unsupported (.unsafePointer "a write to bytes that a string shares")) trivial
   | false =>
    have hf2:(re v T).frozen? ⟨b,o,none⟩=false:=hf;rw[run1,hx,hf]at hl;rw[run2,run2,hx,hx2,hf,hf2];exact ih _ _ (h.store hb hx hf hz) v' hl T ht _
 | @new r o o' k k' ho _ ih =>
  intro v w h v' hl T ht es;have hR:∃r' c w',r.le r'/\r' v.heap.size=some c/\WR C r' {v with heap:=v.heap.push o} w':=by
   have o2:=(SR.new (Q:=Q) (P:=P) (A:=λr (a b:Nat)=>r a=some b) ho (λr' _ b c hb=>.pure hb)).sim v w h #[];obtain⟨r',b,w',ns,_,h1,h2,h3,_⟩:=o2;exact⟨r',b,w',h3.le,h2,h1⟩
  obtain⟨r',c,w',h1,h2,h3⟩:=hR;unfold Sem.runT;exact ih r' h1 _ _ h2 _ _ h3 v' hl T ht es
 | @shape r b b' k k' hb _ ih =>
  intro v w h v' hl T ht es;unfold Sem.runT;exact ih _ v w h v' hl T ht es
 | @getObj r b b' k k' hb _ ih =>
  intro v w h v' hl T ht es;obtain⟨o,o',h1,h2,ho⟩:=h.on b b' hb;have h1':(re v T).heap[b]?=some o:=h1
  rcases ho.flip with⟨cs,e,f,rfl⟩ | ⟨n1,n2,n3⟩
  ·refine absurd hl ?_
   have:(Sem.getObj b k).run Q v = .halt (.stuck "getObj: a row of cells") v:=by simp only[Sem.run,h1]
   rw[this];exact Z0Y (h:=.stuck _) trivial
  ·have e1:(Sem.getObj b k).run Q v=(k o).run Q v:=by
    conv=>lhs;unfold Sem.run
    rw[h1]
    cases o<;>first | exact absurd rfl (n1 _ _ _) | rfl
   have e2:∀u:World,u.heap[b]?=some o->(Sem.getObj b k).runT Q u es=(k o).runT Q u (es.push ⟨.obj b,false,o.isChan⟩):=by
    intro u hu
    conv=>lhs;unfold Sem.runT
    rw[hu]
    cases o<;>first | exact absurd rfl (n1 _ _ _) | rfl
   rw[e1]at hl;rw[e2 _ h1,e2 _ h1'];exact ih _ (Ren.le_refl _) o o' ho v w h v' hl T ht _
 | @setObj r b b' o o' k k' hb ho hc _ ih =>
  intro v w h v' hl T ht es;obtain⟨x,x',h1,h2,hx⟩:=h.on b b' hb;have h1':(re v T).heap[b]?=some x:=h1
  rcases hx.flip with⟨cs,e,f,rfl⟩ | ⟨n1,n2,n3⟩
  ·refine absurd hl ?_
   have:(Sem.setObj b o k).run Q v = .halt (.stuck "setObj: a row of cells") v:=by simp only[Sem.run,h1]
   rw[this];exact Z0Y (h:=.stuck _) trivial
  ·have e1:(Sem.setObj b o k).run Q v=k.run Q {v with heap:=v.heap.setIfInBounds b o}:=by
    conv=>lhs;unfold Sem.run
    rw[h1]
    cases x<;>first | exact absurd rfl (n1 _ _ _) | rfl
   have e2:∀u:World,u.heap[b]?=some x->(Sem.setObj b o k).runT Q u es=k.runT Q {u with heap:=u.heap.setIfInBounds b o} (es.push ⟨.obj b,true,o.isChan⟩):=by
    intro u hu
    conv=>lhs;unfold Sem.runT
    rw[hu]
    cases x<;>first | exact absurd rfl (n1 _ _ _) | rfl
   have hR:∃w',WR C r {v with heap:=v.heap.setIfInBounds b o} w':=by
    have hl2:=h.lt hb;refine⟨{w with heap:=w.heap.setIfInBounds b' o'},h.turn hb ho (λi=>?_) (λi=>?_) ⟨rfl,rfl,rfl,rfl,rfl,rfl⟩⟩
    ·show (v.heap.setIfInBounds b o)[i]?=_
     rw[Array.getElem?_setIfInBounds]
     by_cases e':b=i
     ·subst e';simp[hl2.1]
     ·simp[e']
    ·show (w.heap.setIfInBounds b' o')[i]?=_
     rw[Array.getElem?_setIfInBounds]
     by_cases e':b'=i
     ·subst e';simp[hl2.2]
     ·simp[e']
   obtain⟨w',hR⟩:=hR;rw[e1]at hl;rw[e2 _ h1,e2 _ h1'];exact ih _ _ hR v' hl T ht _
 | @choose r q k k' k0 ih =>
  intro v w h v' hl T ht es;unfold Sem.runT
  by_cases hf:q.forced=true
  ·simp only[hf,if_true]
   simp only[Sem.run,hf,if_true]at hl;exact ih 0 v w h v' hl T ht es
  ·simp only[Sem.run,hf]at hl
   simp only[hf];have hk:=Live.kept (k0 _) h.draw hl;have e:T v.drawn q=v.tape v.drawn q:=ht _ _ (Ye _) (by have:=hk.1;simp at this;omega);have e2:(re v T).tape (re v T).drawn q=v.tape v.drawn q:=e;simp only[e2];exact ih _ {v with drawn:=v.drawn+1} _ h.draw v' hl T (λi q h1 h2=>ht i q (by simp at h1;omega) h2) es
 | program _ ih =>
  intro v w h v' hl T ht es;unfold Sem.runT;exact ih v w h v' hl T ht es
 | room _ ih =>
  intro v w h v' hl T ht es;unfold Sem.runT;exact ih v w h v' hl T ht _
 | @env r k k' _ ih =>
  intro v w h v' hl T ht es;unfold Sem.runT;rw[Z5J,Z5J];simp only[Sem.run,Z5J]at hl;exact ih _ v w h v' hl T ht _
 | panic q=>exact λv w h v' hl T ht es=>rfl
 | dead q =>
  intro v w h v' hl T ht es;obtain⟨x,w',e,d⟩:=q v;rw[e]at hl;exact absurd hl (Z0Y d)
end
end Lift
namespace Lift
open Go
variable[Jk]
def Loc(X:World->GStep)(v:World):Prop:=∀g v' es,X v = .go g v' es->(v.drawn<=v'.drawn/\v'.tape=v.tape)/\∀T,Zep T v.tape v.drawn v'.drawn->X (re v T) = .go g (re v' T) es
section
variable{P:Program}{F:Array Func}{G:FuncId->Prop}{r:Ren}{v w:World}{α β:Type}
theorem Zp(g:Goroutine)(es:Array Event):Loc (λu=>.go g u es) v:=by
 intro g' v' es' h;simp only[GStep.go.injEq]at h;obtain⟨rfl,rfl,rfl⟩:=h;exact⟨⟨Ye _,rfl⟩,λT _=>rfl⟩
theorem Z0h{X:World->GStep}(h:∃o w2 es,X v = .ended o w2 es):Loc X v:=by
 obtain⟨o,w2,es,e⟩:=h;intro g' v' es' h;rw[e]at h
 cases h
theorem Loc.congr{X Y:World->GStep}(h:Loc Y v)(e:∀u,X u=Y u):Loc X v:=by
 intro g v' es h';rw[e]at h';obtain⟨h1,h2⟩:=h g v' es h';exact⟨h1,λT hT=>by rw[e];exact h2 T hT⟩
theorem Z3h{Q:Program}{C:Inv}{A:Ren->α->β->Prop}{s:Sem α}{s':Sem β}(k:SR Q P C A r s s')(h:WR C r v w){X:World->GStep}{fn:FuncId}{Y:α->World->GStep}{Z:Value->World->GStep}(hY:∀a v1,s.run Q v = .ok a v1->(∃r' b,A r' a b)->Loc (Y a) v1/\∀u u1,s.run Q u = .ok a u1->X u = .after (seen Q fn (s.events Q u #[])) (Y a u1))(hZ:∀x v1,s.run Q v = .halt (.panic x) v1->Loc (Z x) v1/\∀u u1,s.run Q u = .halt (.panic x) u1->X u = .after (seen Q fn (s.events Q u #[])) (Z x u1))(hD:∀x u1,s.run Q v = .halt x u1->Dies x->∃o w2 es,X v = .ended o w2 es): Loc X v:=by
 have o:=k.sim v w h #[];have go_:∀{res:Result α} {v1:World} {Yv:World->GStep},s.run Q v=res->Live res v1->(∀T,Result.re T res=(match res with | .ok a _=>.ok a (re v1 T) | .halt x _=>.halt x (re v1 T)))->Loc Yv v1 ->
   X v = .after (seen Q fn (s.events Q v #[])) (Yv v1)->(∀T,s.run Q (re v T)=Result.re T res->X (re v T) = .after (seen Q fn (s.events Q (re v T) #[])) (Yv (re v1 T)))->Loc X v:=by
  intro res v1 Yv hr hl hre hloc e1 e2 g v' es hX;rw[e1]at hX;have hl':Live (s.run Q v) v1:=hr▸hl;obtain⟨k1,k2⟩:=Live.kept k h hl'
  cases hy:Yv v1 with
  | go g1 w1 es1 =>
   rw[hy]at hX;simp only[GStep.after,GStep.go.injEq]at hX;obtain⟨rfl,rfl,rfl⟩:=hX;obtain⟨⟨h1,h2⟩,h3⟩:=hloc _ _ _ hy;refine⟨⟨Yd k1 h1,h2.trans k2⟩,λT hT=>?_⟩;have hloc2:=k.local v w h v1 hl' T (λi q a b=>hT i q a (Y8 b h1)) #[];rw[Yf,Yf]at hloc2;simp only[Y9]at hloc2;rw[e2 T (by rw[hloc2.1,hr]),hloc2.2];rw[h3 T (λi q a b=>by rw[k2];exact hT i q (Yd k1 a) b)]
   rfl
  | _=>rw[hy]at hX;cases hX
 cases hr:s.run Q v with
 | ok a v1 =>
  rw[hr]at o;obtain⟨r',b,w',ns,e,hw',hn,hk,he⟩:=o;obtain⟨h1,h2⟩:=hY a v1 hr ⟨r',b,hn⟩;exact go_ hr (.inl ⟨a,rfl⟩) (λT=>rfl) h1 (h2 v v1 hr) λT e=>h2 _ _ e
 | halt x v1 =>
  rw[hr]at o
  cases x with
  | panic x =>
   obtain⟨h1,h2⟩:=hZ x v1 hr;exact go_ hr (.inr ⟨x,rfl⟩) (λT=>rfl) h1 (h2 v v1 hr) λT e=>h2 _ _ e
  | stuck y=>exact Z0h (hD _ _ hr trivial)
  | unsupported y=>exact Z0h (hD _ _ hr o)
  | _=>exact o.elim
def Z7V(P:Program)(f:Frame)(K:List Frame):Next->World->GStep
 | .value x,u=>.go (run1 (f.finish x) K) u
 | .skip,u=>.go (run1 (f.finish undef) K) u
 | .enter g xs,u=>.go (run1 (Frame.enter P g xs (Z2y f)) (f::K)) u
 | .round l g xs a b,u=>.go (run1 (Frame.round l g xs a b .normal) (f::K)) u
 | .defer d,u=>.go (run1 (Frame.finish {f with defers:=d::f.defers} undef) K) u
 | .recover,u=>match tryRecover f K with
  | some (x,K')=>.go (run1 (f.finish x) K') u
  | none=>.go (run1 (f.finish .nilIface) K) u
 | _,u=>.ended default u
theorem Z5j(hrec:P.follows .rangeFuncRecover=true){f:Frame}{K:List Frame}(hk:f.kind = .normal\/f.kind = .deferred){df:Prop}{s s':Sem Next}(h:SR (PF P F) P (Iv P F) (NR (Iv P F) G df) r s s')(hw:WR (Iv P F) r v w):
  Loc (λu=>stepG.apply (PF P F) true f K none s u) v:=by
 have hrec':(PF P F).follows .rangeFuncRecover=true:=hrec;have ke:(f.kind==CallKind.early)=false:=by rcases hk with q | q<;>rw[q]<;>rfl
 have el:∀u,lst (PF P F) f s u=seen (PF P F) f.fn (s.events (PF P F) u #[]):=by intro u;unfold lst;rw[ke];rfl
 refine Z3h h hw (fn:=f.fn) (Y:=Z7V (PF P F) f K) (Z:=λx u=>.go (run1 (f.raise [{v:=x,recovered:=false}]) K) u) ?_ ?_ ?_
 ·rintro a v1 _ ⟨r',b,hn⟩
  cases hn with
  | value q=>exact⟨Zp _ _,λu u1 e=>by rw[Z0q e,el];rfl⟩
  | skip=>exact⟨Zp _ _,λu u1 e=>by rw[Z2P e,el];rfl⟩
  | enter gf q=>exact⟨Zp _ _,λu u1 e=>by rw[Z0F e,el];rfl⟩
  | round hl hn q ha hb=>exact⟨Zp _ _,λu u1 e=>by rw[Z3a e,el];rfl⟩
  | defer _ q=>exact⟨Zp _ _,λu u1 e=>by rw[Z26 e,el];rfl⟩
  | recover =>
   cases ht:tryRecover f K with
   | none=>exact⟨(Zp (run1 (f.finish .nilIface) K) #[]).congr λu=>by simp only[Z7V,ht],λu u1 e=>by rw[Z2O hrec' e ht,el];simp only[Z7V,ht]⟩
   | some p =>
    obtain⟨x,K'⟩:=p;exact⟨(Zp (run1 (f.finish x) K') #[]).congr λu=>by simp only[Z7V,ht],λu u1 e=>by rw[Z42 hrec' e ht,el];simp only[Z7V,ht]⟩
 ·exact λx v1 _=>⟨Zp _ _,λu u1 e=>by rw[Z39 e,el]⟩
 ·exact λx u1 e d=>Z41 e d
theorem Z9c{m:Bool}{f a:Frame}{K:List Frame}{x:Value}(hk:f.kind = .normal\/f.kind = .deferred): Loc (λu=>doReturn P m f (a::K) none x u) v:=by
 rcases hk with hk | hk
 ·exact(Zp (run1 (a.finish x) K) #[]).congr λu=>by unfold doReturn;simp only[hk];rfl
 ·refine(Zp (run1 (match a.mode with
    | .panicking ({recovered:=true,..}::older)=>(match older.dropWhile (!·.goexit) with
     | []=>{a with mode:=.returning}
     | rest=>{a with mode:=.panicking rest})
    | _=>a) K) #[]).congr λu=>?_
  unfold doReturn;simp only[hk]
  rfl
def cdY(P:Program)(f:Frame)(K:List Frame):Next->World->GStep
 | .enter g xs,u=>.go (run1 (Frame.enter P g xs .deferred) (f::K)) u
 | .round l g xs a b,u=>.go (run1 (Frame.round l g xs a b .deferred) (f::K)) u
 | .recover,u=>match f.mode,tryRecover f K with
  | .returning,some (_,K')=>.go (run1 f K') u
  | _,_=>.go (run1 f K) u
 | _,u=>.go (run1 f K) u
theorem Z4m(S:Strip P F (CodeOk P false) G){f:Frame}{K:List Frame}{d d':Deferred}(hd:DR r d d')(hw:WR (Iv P F) r v w): Loc (λu=>callDeferred (PF P F) f K none d u) v:=by
 have k:=Z2J (C:=Iv P F) (df:=False) S hd.1 hd.2;obtain⟨t,az⟩:=d;obtain⟨t',bs⟩:=d';obtain⟨ht,ha⟩:=hd;dsimp only at ht ha k
 cases ht with
 | nil =>
  cases hm:f.mode with
  | run =>
   refine(Zp (run1 (f.raise [{ v:=.iface (PF P F).rt.errorString (strVal "invalid memory address or nil pointer dereference"),recovered:=false }]) K) (seen (PF P F) f.fn #[]++#[])).congr λu=>?_;rw[Z6M (.inl hm)]
   rfl
  | returning =>
   refine(Zp (run1 (f.raise [{ v:=.iface (PF P F).rt.errorString (strVal "invalid memory address or nil pointer dereference"),recovered:=false }]) K) (seen (PF P F) f.fn #[]++#[])).congr λu=>?_;rw[Z6M (.inr hm)]
   rfl
  | panicking ps=>exact Z0h (Zcj hm)
 | collected q=>exact Z0h Zci
 | fn hfn hx =>
  refine Z3h k hw (fn:=f.fn) (Y:=cdY (PF P F) f K) (Z:=λx u=>.go (run1 (f.raise [{v:=x,recovered:=false}]) K) u) ?_ ?_ ?_
  ·rintro a v1 _ ⟨r',b,hn⟩
   cases hn with
   | value q=>exact⟨Zp _ _,λu u1 e=>by rw[Z4E e];rfl⟩
   | skip=>exact⟨Zp _ _,λu u1 e=>by rw[Z90 e];rfl⟩
   | enter gf q=>exact⟨Zp _ _,λu u1 e=>by rw[Z3v e];rfl⟩
   | round hl hn q ha hb=>exact⟨Zp _ _,λu u1 e=>by rw[Z6O e];rfl⟩
   | defer _ q=>exact⟨Zp _ _,λu u1 e=>by rw[Z6K e];rfl⟩
   | recover =>
    refine⟨?_,λu u1 e=>by rw[Zck e];rfl⟩
    cases hm:f.mode with
    | run=>exact(Zp (run1 f K) #[]).congr λu=>by simp only[cdY,hm]
    | panicking ps=>exact(Zp (run1 f K) #[]).congr λu=>by simp only[cdY,hm]
    | returning =>
     cases ht:tryRecover f K with
     | none=>exact(Zp (run1 f K) #[]).congr λu=>by simp only[cdY,hm,ht]
     | some p=>exact(Zp (run1 f p.2) #[]).congr λu=>by simp only[cdY,hm,ht]
  ·exact λx v1 _=>⟨Zp _ _,λu u1 e=>by rw[Z6N e];rfl⟩
  ·exact λx u1 e d=>Z8Z e d
end
end Lift
namespace Lift
open Go
variable[Jk]
section
variable{P:Program}{F:Array Func}{G:FuncId->Prop}{r:Ren}{v w:World}{α β:Type}
theorem Z3I{f g:Frame}{A B:List Frame}(hs:Stk P F r (f::A) (g::B))(hw:WR (Iv P F) r v w){j:Option Code}(hj:∀c,j=some c->CodeOk P true c): Loc (λu=>Z0k (PF P F) true f (A++[poison]) u j) v:=by
 have hr:=hs.uncons.1.round;have hk:=hs.uncons.1.kind.2;obtain⟨a,K,hAK⟩:∃a K,A++[poison]=a::K:=by cases A<;>exact⟨_,_,rfl⟩
 rw[hAK]
 cases hro:f.roundOf with
 | none =>
  by_cases e:(match j with | none=>true | some .ret=>true | _=>false)=true
  ·refine(Zp (run1 {f with mode:=.returning} (a::K)) #[]).congr λu=>?_
   unfold Z0k;simp only[hro]
   cases j with
   | none=>rfl
   | some c=>cases c<;>first | rfl | cases e
  ·refine Z0h ?_
   unfold Z0k;simp only[hro]
   cases j with
   | none=>exact absurd rfl e
   | some c=>cases c<;>first | exact absurd rfl e | exact⟨_,_,_,rfl⟩
 | some l =>
  rw[hro]at hr;generalize g.roundOf=y at hr
  cases hr with
  | some q =>
   refine Z3h (Z5y (P:=P) (F:=F) q hj) hw (fn:=f.fn) (Y:=λx u=>doReturn (PF P F) true f (a::K) none x u) (Z:=λx u=>.ended (.stuck "range over a function: no such loop" (f.pos (PF P F))) u) ?_ ?_ ?_
   ·intro x v1 e _
    refine⟨Z9c hk,λu u1 e=>?_⟩;unfold Z0k;simp only[hro,e]
   ·intro x v1 e
    refine⟨Z0h ⟨_,_,_,rfl⟩,λu u1 e=>?_⟩;unfold Z0k;simp only[hro,e]
   ·intro x u1 e d
    unfold Z0k;simp only[hro,e];exact⟨_,_,_,rfl⟩
theorem Z6b(S:Strip P F (CodeOk P false) G){f g:Frame}{A B:List Frame}(hs:Stk P F r (f::A) (g::B))(hw:WR (Iv P F) r v w): Loc (λu=>unwind (PF P F) true f (A++[poison]) none u) v:=by
 have hd:=hs.uncons.1.defers.1;have hk:=hs.uncons.1.kind.2;have hf:=hs.uncons.1;obtain⟨a,K,hAK⟩:∃a K,A++[poison]=a::K:=by cases A<;>exact⟨_,_,rfl⟩
 rw[hAK]
 cases h1:f.defers with
 | cons d ds =>
  rw[h1]at hd;generalize g.defers=es at hd
  cases hd with
  | @cons d e ds es hde hrest =>
   obtain⟨t,az⟩:=d;obtain⟨t',bs⟩:=e;have hde0:=hde;obtain⟨ht,ha⟩:=hde;dsimp only at ht ha
   cases ht with
   | @collected b c q =>
    refine Z3h (Ze5 (P:=P) (F:=F) q) hw (fn:=f.fn) (Y:=λx u=>.go (run1 {f with defers:=x++ds} (a::K)) u) (Z:=λx u=>.ended (.stuck "the deferred calls of a range-over-func loop have been taken" (f.pos (PF P F))) u) ?_ ?_ ?_
    ·exact λx v1 e _=>⟨Zp _ _,λu u1 e=>by unfold unwind;simp only[h1,Yf,e];rfl⟩
    ·exact λx v1 e=>⟨Z0h ⟨_,_,_,rfl⟩,λu u1 e=>by unfold unwind;simp only[h1,Yf,e]⟩
    ·exact λx u1 e d=>by unfold unwind;simp only[h1,Yf,e];exact⟨_,_,_,rfl⟩
   | nil=>exact(Z4m S hde0 hw (f:={f with defers:=ds}) (K:=a::K)).congr λu=>by unfold unwind;simp only[h1]
   | fn x y=>exact(Z4m S hde0 hw (f:={f with defers:=ds}) (K:=a::K)).congr λu=>by unfold unwind;simp only[h1]
 | nil =>
  cases hm:f.mode with
  | run =>
   refine Z0h ⟨.stuck "unwind: the frame is running" (f.pos (PF P F)),v,#[],?_⟩;unfold unwind;simp only[h1,hm]
  | panicking ps =>
   have c1:f.catches (PF P F)=false:=by
    unfold Frame.catches
    split
    ·rename_i e2;exact absurd e2 ((Z7l hf).1 _ _ _ _ _)
    ·rfl
   refine(Zp (run1 (a.raise ps) K) #[]).congr λu=>?_;unfold unwind;simp only[h1,hm,c1]
   rfl
  | returning =>
   have e0:(PF P F).funcs=F:=rfl
   cases hfn:F[f.fn]? with
   | none=>exact(Z9c (P:=PF P F) (m:=true) (a:=a) (K:=K) (x:=f.tmps.getD 0 undef) hk).congr λu=>by unfold unwind;simp only[h1,hm,e0,hfn]
   | some fn =>
    refine Z3h (Z22 (P:=P) (F:=F) (fn:=fn) hf.tmps) hw (fn:=f.fn) (Y:=λx u=>doReturn (PF P F) true f (a::K) none x u) (Z:=λx u=>.ended (.stuck "return: the result variables cannot be read" (f.pos (PF P F))) u) ?_ ?_ ?_
    ·exact λx v1 e _=>⟨Z9c hk,λu u1 e=>by unfold unwind;simp only[h1,hm,e0,hfn,Yf,e]⟩
    ·exact λx v1 e=>⟨Z0h ⟨_,_,_,rfl⟩,λu u1 e=>by unfold unwind;simp only[h1,hm,e0,hfn,Yf,e]⟩
    ·intro x u1 e d
     unfold unwind;simp only[h1,hm,e0,hfn,Yf,e]
     cases x<;>exact⟨_,_,_,rfl⟩
theorem Zfd (S:Strip P F (CodeOk P false) G) (hrec:P.follows .rangeFuncRecover=true) {f g:Frame} {A B:List Frame} (hs:Stk P F r (f::A) (g::B)) (hw:WR (Iv P F) r v w) (hm:f.mode = .run) (np:¬Pend f) :
    Loc (λu=>stepG.exec (PF P F) true true f (A++[poison]) none u) v:=by
  obtain⟨hf, hst, hd⟩ := hs.uncons;have ht := hf.todo;have hk := hf.kind.2;generalize h1 : f.todo=fk at ht;generalize h2 : g.todo=gk at ht
  cases ht with
  | nil=>exact(Z3I hs hw (by simp)).congr λu=>Za6 h1
  | tail _ _=>exact Z0h ⟨_,_,_,(Z1R h1).choose_spec⟩
  | cut _ _ h =>
    cases h with
    | stop _=>exact Z0h ⟨_,_,_,(Z1R h1).choose_spec⟩
    | seq _ _=>exact(Zp _ _).congr λu=>Z33 h1
    | left _=>exact(Zp _ _).congr λu=>Z33 h1
  | @cons a b k k' hab hk2 =>
    cases hab with
    | @code c hc =>
      cases c with
      | skip=>exact(Zp _ _).congr λu=>Z75 h1
      | label i=>exact(Zp _ _).congr λu=>Z4K h1
      | ret=>exact(Z3I hs hw (by intro c e;cases e;trivial)).congr λu=>Za7 h1
      | seq x y=>exact(Zp _ _).congr λu=>Z33 h1
      | block i x=>exact(Zp _ _).congr λu=>Z4J h1
      | loop x=>exact(Zp _ _).congr λu=>Z74 h1
      | scope x=>exact(Zp _ _).congr λu=>Z4L h1
      | refuse y=>exact Z0h ⟨_,_,_,(Z1R h1).choose_spec⟩
      | cond x y z =>
        cases hx:f.eval x with
        | bool t=>exact(Zp (run1 {f with todo:=.code (if t then y else z)::k} (A++[poison])) #[]).congr λu=>by rw[Z5b h1,hx]
        | _=>exact Z0h ⟨_,_,_,by rw[Z5b h1,hx]⟩
      | exit i =>
        cases e:exitTo i k with
        | some k2=>exact(Zp (run1 {f with todo:=k2} (A++[poison])) #[]).congr λu=>by rw[Z5c h1,e]
        | none=>exact(Z3I hs hw (j:=some (.exit i)) (by intro c e;cases e;trivial)).congr λu=>by rw[Z5c h1,e]
      | goto i =>
        cases e:gotoIn i k with
        | some k2=>exact(Zp (run1 {f with todo:=k2} (A++[poison])) #[]).congr λu=>by rw[Z73 h1,e]
        | none=>exact(Z3I hs hw (j:=some (.goto i)) (by intro c e;cases e;trivial)).congr λu=>by rw[Z73 h1,e]
      | region i ops draw =>
        cases draw with
        | false=>exact(Zp _ _).congr λu=>Z3D h1
        | true =>
          intro g' v' es h;dsimp only at h⊢;rw[Z72 h1]at h;simp only[GStep.go.injEq]at h;obtain⟨rfl, rfl, rfl⟩ := h;refine⟨⟨by simp, rfl⟩, λT hT => ?_⟩;rw[Z72 h1];have e : (re v T).tape (re v T).drawn (.order f.fn i)=v.tape v.drawn (.order f.fn i) := hT _ _ (Ye _) (Nat.lt_succ_self _);rw[e]
          rfl
      | rangeFunc x ps y z =>
        have hown : (Iv P F).fn f.fn := Classical.not_not.1 hc.2.2.2.1;refine Z3h (Z2I (ps := ps) hown hf.tmps hc.2.1 hc.2.2.1 hf.round) hw (fn := f.fn)
          (Y := λn u => stepG.apply (PF P F) true { f with todo := .inRangeFunc n.1 :: k, defers := n.2 ++ f.defers } (A ++ [poison]) none (do let d <- resolve f.eval { callee := .value x, args := #[.const (.func (.yield n.1) #[] #[])], argTypes := #[] } 0; invoke d.target d.args) u)
          (Z:=λx u=>.ended (.stuck "range over a function: no such loop" (f.pos (PF P F))) u) ?_ ?_ ?_
        · intro n v1 e _
          have o := (Z2I (P := P) (F := F) (ps := ps) hown hf.tmps hc.2.1 hc.2.2.1 hf.round).sim v w hw #[];rw[e]at o;obtain⟨r', b, w', ns, _, hw', hn, hkk, _⟩ := o;obtain⟨l, mk⟩ := n;obtain⟨l', mk'⟩ := b;obtain⟨hl, hm⟩ := hn;have hf' := hf.mono hkk.le
          refine ⟨Z5j (G := G) (df := False) (f := { f with todo := .inRangeFunc l :: k, defers := mk ++ f.defers }) (s' := (do let d <- resolve g.eval { callee := .value x, args := #[.const (.func (.yield l') #[] #[])], argTypes := #[] } 0; invoke d.target d.args)) hrec hk ?_ hw', λu u1 e => by rw [Z3C h1, e]⟩
          by_cases hz:f.eval x=J0
          · refine .dead ?_
            unfold resolve;dsimp only;rw[hz];exact Z46 hc.2.2.2.2 _
          refine Z6 (A := DR) ?_ λ_ _ a b q => Z2J S q.1 q.2;unfold resolve;have hy : VR r' (.func (.yield l) #[] #[]) (.func (.yield l') #[] #[]) := .func (.yield hl) rfl (by simp) rfl (by simp);refine Z4c hz (hf'.env x hc.1) ?_;have e3 : ∀(h : Operand->Value) (z : Operand), #[z].map h=#[h z] := λh z => by simp
          rw[e3, e3];exact Arr.one hy
        · exact λn v1 e=>⟨Z0h ⟨_,_,_,rfl⟩,λu u1 e=>by rw[Z3C h1,e]⟩
        · exact λn u1 e d=>by rw[Z3C h1,e];exact⟨_,_,_,rfl⟩
    | inBlock i=>exact(Zp _ _).congr λu=>Z2S h1
    | inLoop hc=>exact(Zp _ _).congr λu=>Z3B h1
    | inScope hc=>exact(Zp _ _).congr λu=>Z2T h1
    | inRange _ q=>exact Z0h (Z64 h1)
    | begin_ =>
      have hr:=hf.round
      refine(Z5j (G := G) (df := False) (s' := (do g.roundOf.elim (stuck "beginRound: no round") Instr.beginRound; pure .skip)) hrec hk (sr_u ?_) hw).congr λu => Z70 h1;generalize f.roundOf=x at hr⊢;generalize g.roundOf=y at hr⊢
      cases hr with
      | none=>exact Z5
      | some q=>exact Z3U q
    | @endRange l l' _ q =>
      refine Z3h (Z6n (P:=P) (F:=F) q) hw (fn:=f.fn) (Y:=λj u=>.go (run1 {f with todo:=(j.map Item.code).toList++k} (A++[poison])) u) (Z:=λx u=>.go (run1 (f.raise [{v:=x,recovered:=false}]) (A++[poison])) u) ?_ ?_ ?_
      · exact λj v1 e _=>⟨Zp _ _,λu u1 e=>by rw[Z1d h1,e]⟩
      · exact λx v1 e=>⟨Zp _ _,λu u1 e=>by rw[Z1d h1,e]⟩
      · intro x u1 e d
        rw[Z1d h1,e]
        cases x<;>first | exact⟨_,_,_,rfl⟩ | exact d.elim
    | @inRegion ops todo hops =>
      cases todo with
      | nil=>exact(Zp _ _).congr λu=>Z71 h1
      | cons i rest =>
        cases ho:ops[i]? with
        | none=>exact(Zp (run1 (f.finish undef) (A++[poison])) #[]).congr λu=>by rw[Z29 h1,ho];rfl
        | some o =>
          by_cases hwant:Region.wanted o (yielded ops f.tmps)=true
          · have hop:=hops o (Yk ho)
            have hro:f.roundOf=none\/∀c,o.op ≠ .defer c:=by
              cases hx:f.roundOf with
              | none=>exact .inl rfl
              | some l=>exact .inr (hop.2 (.inl (by rw[hx];rfl)))
            refine(Z5j (K := A++[poison]) hrec hk (Z8w S hw.inj (λ_ => rfl) hf.env (hop.1.resolve_right λq => np ⟨q.1, hm, ops, i, rest, k, o, h1, ho, hwant, q.2⟩)) hw).congr λu => ?_;rw[Z29 h1, ho, Z4a h1 ho hro];simp[hwant]
          · refine(Zp (run1 (f.finish undef) (A++[poison])) #[]).congr λu=>?_
            rw[Z29 h1, ho];simp[hwant]
theorem ZbK(S:Strip P F (CodeOk P false) G)(hrec:P.follows .rangeFuncRecover=true){f g:Frame}{A B:List Frame}(hs:Stk P F r (f::A) (g::B))(hw:WR (Iv P F) r v w)(np:¬Pend f):
  Loc (λu=>stepG (PF P F) true (run1 f (A++[poison])) u) v:=by
 cases hx:f.mode with
 | run=>exact(Zfd S hrec hs hw hx np).congr λu=>by unfold stepG run1;simp only[hx]
 | returning=>exact(Z6b S hs hw).congr λu=>by unfold stepG run1;simp only[hx]
 | panicking q=>exact(Z6b S hs hw).congr λu=>by unfold stepG run1;simp only[hx]
end
end Lift
namespace Lift
open Go
variable[Jk]
section
variable{P:Program}{F:Array Func}{G:FuncId->Prop}{r:Ren}{v w:World}
theorem WR.retape{C:Inv}(h:WR C r v w)(τ:Nat->Question->Nat):∃σ,WR C r (re v τ) (re w σ):=
 ⟨λi q=>τ (i-w.drawn+v.drawn) q,h.on,h.inj,λi q=>by
  show τ (v.drawn+i) q=τ (w.drawn+i-w.drawn+v.drawn) q
  congr 1
  omega,h.env⟩
def Rec(P:Program):Prop:=P.follows .rangeFuncRecover=true/\∀f,¬Jk.law f
theorem Z8b(S:Strip P F (CodeOk P false) G)(hg:GOk P F G)(hrec:Rec P){f g:Frame}{A B:List Frame}(hs:Stk P F r (f::A) (g::B))(hw:WR (Iv P F) r v w):
  (∃o w2 es,stepG (PF P F) true (run1 f (A++[poison])) v = .ended o w2 es) \/
  (∃x v' es,stepG (PF P F) true (run1 f (A++[poison])) v = .go (run1 x []) v' es/\(x=poison\/∃c,x={poison with mode:=.panicking c})) \/
  ∃f' A' g' B' r' v' w' es,stepG (PF P F) true (run1 f (A++[poison])) v = .go (run1 f' (A'++[poison])) v' es/\Stk P F r' (f'::A') (g'::B')/\WR (Iv P F) r' v' w':=by
 have h:=Z7E (cs:=[]) (m:=true) S hg hrec.1 hs hw λq=>hrec.2 _ q.1
 cases e:stepG (PF P F) true (run1 f (A++[poison])) v with
 | ended o w2 es=>exact .inl ⟨_,_,_,rfl⟩
 | go g' v' es =>
  rw[e]at h
  rcases h with (h | ⟨c,h⟩) | ⟨r',f',W,w',ns,_,h1,h2,h3,⟨A',B',h4,h5,h6,h7⟩,h8,_⟩
  ·exact .inr (.inl ⟨_,_,_,by rw[h],.inl rfl⟩)
  ·exact .inr (.inl ⟨_,_,_,by rw[h],.inr ⟨c,rfl⟩⟩)
  ·cases A' with
   | nil=>exact absurd rfl h6
   | cons a az =>
    cases B' with
    | nil=>have:=h7.rel;cases this
    | cons b bs =>
     simp only[List.cons_append,List.cons.injEq]at h4;obtain⟨fr,cl,st,dy,off⟩:=g';dsimp only at h1 h2 h3 h4;obtain⟨rfl,rfl⟩:=h4;subst h1 h2 h3;exact .inr (.inr ⟨_,az,b,bs,r',v',w',es,rfl,h7,h8⟩)
 | _=>rw[e]at h;exact h.elim
theorem Z2h{Q:Program}{x:Frame}(hx:x=poison\/∃c,x={poison with mode:=.panicking c})(u:World): ∃o w2 es,stepG Q true (run1 x []) u = .ended o w2 es:=by
 rcases hx with rfl | ⟨c,rfl⟩
 ·exact⟨_,_,_,rfl⟩
 ·exact⟨_,_,_,rfl⟩
inductive Ends(Q:Program)(Stop:List Frame->World->Prop):List Frame->World->Prop
 | stop {V v} (h:Stop V v):Ends Q Stop V v
 | step {f K v} (ok:∀τ,∃f' K' v' es,stepG Q true (run1 f K) (re v τ) = .go (run1 f' K') v' es)
   (h:∀τ f' K' v' es,stepG Q true (run1 f K) (re v τ) = .go (run1 f' K') v' es->Ends Q Stop (f'::K') v'):Ends Q Stop (f::K) v
theorem Ends.re{Q:Program}{Stop:List Frame->World->Prop}(hS:∀V v T,Stop V v->Stop V (Lift.re v T)){V:List Frame}{v:World}(h:Ends Q Stop V v)(T:Nat->Question->Nat): Ends Q Stop V (Lift.re v T):=by
 cases h with
 | stop h=>exact .stop (hS _ _ _ h)
 | step ok h=>exact .step ok h
def Seat(P:Program)(F:Array Func)(f:Frame)(K:List Frame)(v:World):Prop:=
 (∃A g B r w,K=A++[poison]/\Stk P F r (f::A) (g::B)/\WR (Iv P F) r v w)\/(K=[]/\(f=poison\/∃c,f={poison with mode:=.panicking c}))
theorem Seat.step(S:Strip P F (CodeOk P false) G)(hg:GOk P F G)(hrec:Rec P){f:Frame}{K:List Frame}(h:Seat P F f K v)(τ:Nat->Question->Nat):
  (∃o w2 es,stepG (PF P F) true (run1 f K) (re v τ) = .ended o w2 es)\/∃f' K' v' es,stepG (PF P F) true (run1 f K) (re v τ) = .go (run1 f' K') v' es/\Seat P F f' K' v':=by
 rcases h with⟨A,g,B,r,w,rfl,hs,hw⟩ | ⟨rfl,hx⟩
 ·obtain⟨σ,hw'⟩:=hw.retape τ
  rcases Z8b S hg hrec hs hw' with h | ⟨x,v',es,e,hx⟩ | ⟨f',A',g',B',r',v',w',es,e,h1,h2⟩
  ·exact .inl h
  ·exact .inr ⟨_,_,_,_,e,.inr ⟨rfl,hx⟩⟩
  ·exact .inr ⟨_,_,_,_,e,.inl ⟨_,_,_,_,_,rfl,h1,h2⟩⟩
 ·exact .inl (Z2h hx _)
theorem Seat.loc(S:Strip P F (CodeOk P false) G)(hrec:Rec P){f:Frame}{K:List Frame}(h:Seat P F f K v)(τ:Nat->Question->Nat): Loc (λu=>stepG (PF P F) true (run1 f K) u) (re v τ):=by
 rcases h with⟨A,g,B,r,w,rfl,hs,hw⟩ | ⟨rfl,hx⟩
 ·obtain⟨σ,hw'⟩:=hw.retape τ
  exact ZbK S hrec.1 hs hw' λq=>hrec.2 _ q.1
 ·exact Z0h (Z2h hx _)
section
variable{Stop:List Frame->World->Prop}
structure Bad(P:Program)(F:Array Func)(Stop:List Frame->World->Prop) where
 f:Frame
 K:List Frame
 v:World
 seat:Seat P F f K v
 bad:¬Ends (PF P F) Stop (f::K) v
def Bad.Next(x:Bad P F Stop)(T:Nat->Question->Nat)(y:Option (Bad P F Stop)):Prop:=
 (∀i q,i<x.v.drawn->T i q=x.v.tape i q)/\match y with
  | some y=>∃es,stepG (PF P F) true (run1 x.f x.K) (re x.v T) = .go (run1 y.f y.K) y.v es
  | none=>∃o w2 es,stepG (PF P F) true (run1 x.f x.K) (re x.v T) = .ended o w2 es
theorem Bad.next(S:Strip P F (CodeOk P false) G)(hg:GOk P F G)(hrec:Rec P)(hS:∀V v T,Stop V v->Stop V (Lift.re v T))(x:Bad P F Stop):∃T y,x.Next T y:=by
 have:∃τ,(∃o w2 es,stepG (PF P F) true (run1 x.f x.K) (re x.v τ) = .ended o w2 es)\/∃f' K' v' es,stepG (PF P F) true (run1 x.f x.K) (re x.v τ) = .go (run1 f' K') v' es/\Seat P F f' K' v'/\¬Ends (PF P F) Stop (f'::K') v':=by
  refine Classical.byContradiction λhn=>x.bad ?_;have hn':∀τ,∃f' K' v' es,stepG (PF P F) true (run1 x.f x.K) (re x.v τ) = .go (run1 f' K') v' es/\Ends (PF P F) Stop (f'::K') v':=by
   intro τ
   rcases x.seat.step S hg hrec τ with h | ⟨f',K',v',es,e,hs⟩
   ·exact absurd ⟨τ,.inl h⟩ hn
   ·exact⟨f',K',v',es,e,Classical.byContradiction λhb=>hn ⟨τ,.inr ⟨f',K',v',es,e,hs,hb⟩⟩⟩
  refine .step (λτ=>?_) (λτ f' K' v' es e=>?_)
  ·obtain⟨f',K',v',es,e,_⟩:=hn' τ
   exact⟨f',K',v',es,e⟩
  ·obtain⟨f2,K2,v2,es2,e2,h2⟩:=hn' τ
   rw[e]at e2;simp only[GStep.go.injEq,run1,Goroutine.mk.injEq]at e2;obtain⟨⟨rfl,rfl,_⟩,rfl,_⟩:=e2;exact h2
 obtain⟨τ,hτ⟩:=this
 let T:Nat->Question->Nat:=λi q=>if i<x.v.drawn then x.v.tape i q else τ i q
 have hT:∀i q,i<x.v.drawn->T i q=x.v.tape i q:=λi q h=>if_pos h;have hA:∀hi,Zep τ T x.v.drawn hi:=λhi i q h1 _=>(if_neg (by omega)).symm
 rcases x.seat.step S hg hrec T with h | ⟨f',K',v',es,e,hs⟩
 ·exact⟨T,none,hT,h⟩
 ·obtain⟨⟨h1,h2⟩,h3⟩:=x.seat.loc S hrec T _ _ _ e
  have e3:stepG (PF P F) true (run1 x.f x.K) (re x.v τ) = .go (run1 f' K') (re v' τ) es:=h3 τ (hA _)
  rcases hτ with⟨o,w2,es2,q⟩ | ⟨f2,K2,v2,es2,q,_,hb⟩
  ·rw[q]at e3;cases e3
  ·rw[q]at e3
   simp only[GStep.go.injEq,run1,Goroutine.mk.injEq]at e3;obtain⟨⟨rfl,rfl,_⟩,rfl,_⟩:=e3;exact⟨T,some ⟨_,_,v',hs,λhE=>hb (hE.re hS τ)⟩,hT,es,e⟩
section
variable{Stop:List Frame->World->Prop}
structure Way(P:Program)(F:Array Func)(Stop:List Frame->World->Prop) where
 tp:Bad P F Stop->Nat->Question->Nat
 y:Bad P F Stop->Option (Bad P F Stop)
 h:∀x:Bad P F Stop,x.Next (tp x) (y x)
def Way.chain(W:Way P F Stop)(x:Bad P F Stop):Nat->Option (Bad P F Stop)
 | 0=>some x
 | k+1=>(W.chain x k).bind W.y
theorem Way.up(W:Way P F Stop)(S:Strip P F (CodeOk P false) G)(hrec:Rec P){x y:Bad P F Stop}(h:W.y x=some y):x.v.drawn<=y.v.drawn:=by
 have:=(W.h x).2;rw[h]at this;obtain⟨es,e⟩:=this;exact(x.seat.loc S hrec _ _ _ _ e).1.1
theorem Way.mono(W:Way P F Stop)(S:Strip P F (CodeOk P false) G)(hrec:Rec P){x0 x z:Bad P F Stop}{j:Nat}(hj:W.chain x0 j=some x):
  ∀n,W.chain x0 (j+1+n)=some z->∃y,W.y x=some y/\y.v.drawn<=z.v.drawn:=by
 intro n
 induction n generalizing z with
 | zero =>
  intro h;simp only[Nat.add_zero,Way.chain,hj,Option.bind_some]at h;exact⟨z,h,Ye _⟩
 | succ n ih =>
  intro h;rw[show j+1+(n+1)=(j+1+n)+1 from rfl,Way.chain]at h;obtain⟨m,hm,hz⟩:=Option.bind_eq_some_iff.1 h;obtain⟨y,hy,hle⟩:=ih hm;exact⟨y,hy,Yd hle (W.up S hrec hz)⟩
def Way.own(W:Way P F Stop)(x:Bad P F Stop)(i:Nat):Prop:=x.v.drawn<=i/\∀y,W.y x=some y->i<y.v.drawn
theorem Way.tape(W:Way P F Stop)(S:Strip P F (CodeOk P false) G)(hrec:Rec P)(x0:Bad P F Stop):
  ∃T:Nat->Question->Nat,∀k x,W.chain x0 k=some x->∀i q,W.own x i->T i q=W.tp x i q:=by
 have un:∀j k x z i,W.chain x0 j=some x->W.chain x0 k=some z->W.own x i->W.own z i->x=z:=by
  intro j k x z i hj hk ho hz
  rcases Nat.lt_trichotomy j k with h | h | h
  ·obtain⟨n,rfl⟩:∃n,k=j+1+n:=⟨k-(j+1),by omega⟩
   obtain⟨y,hy,hle⟩:=W.mono S hrec hj n hk;have:=ho.2 y hy;have:=hz.1;omega
  ·subst h
   rw[hj]at hk;exact Y1 hk
  ·obtain⟨n,rfl⟩:∃n,j=k+1+n:=⟨j-(k+1),by omega⟩
   obtain⟨y,hy,hle⟩:=W.mono S hrec hk n hj;have:=hz.2 y hy;have:=ho.1;omega
 have:∀i,∃t:Question->Nat,∀k x,W.chain x0 k=some x->W.own x i->∀q,t q=W.tp x i q:=by
  intro i
  by_cases h:∃k x,W.chain x0 k=some x/\W.own x i
  ·obtain⟨k,x,hk,ho⟩:=h
   exact⟨W.tp x i,λk' x' hk' ho' q=>by rw[un k k' x x' i hk hk' ho ho']⟩
  ·exact⟨λ_=>0,λk x hk ho=>absurd ⟨k,x,hk,ho⟩ h⟩
 obtain⟨t,ht⟩:=Classical.axiomOfChoice this;exact⟨t,λk x hk i q ho=>ht i k x hk ho q⟩
theorem Ze8{Q:Program}{f f':Frame}{K K':List Frame}{v: World}{es:Array Event}(h:stepG Q true (run1 f K) v = .go (run1 f' K') v' es): step Q (lone f K v) = .next (lone f' K' v'):=
 step_lone_go (by rw[show ({frame:=f,callers:=K,status:=.running,dying:=none}:Goroutine)=run1 f K from rfl,h];rfl)
theorem step_end{Q:Program}{f:Frame}{K:List Frame}{v w:World}{o:Outcome}{es:Array Event}(h:stepG Q true (run1 f K) v = .ended o w es): step Q (lone f K v) = .ended o w:=
 step_lone_ended (by rw[show ({frame:=f,callers:=K,status:=.running,dying:=none}:Goroutine)=run1 f K from rfl,h];rfl)
theorem ZdP{Q:Program}{m m1 m2:Machine}{k:Nat}(h:runN Q k m = .next m1)(h':step Q m1 = .next m2): runN Q (k+1) m = .next m2:=by
 rw[runN_add,h];simp[runN,h']
theorem Way.runs(W:Way P F Stop)(S:Strip P F (CodeOk P false) G)(hrec:Rec P)(x0:Bad P F Stop){T:Nat->Question->Nat}(hT:∀k x,W.chain x0 k=some x->∀i q,W.own x i->T i q=W.tp x i q):
  ∀k x,W.chain x0 k=some x->runN (PF P F) k (lone x0.f x0.K (re x0.v T)) = .next (lone x.f x.K (re x.v T)):=by
 intro k
 induction k with
 | zero =>
  intro x h;simp only[Way.chain,Y4]at h;subst h
  rfl
 | succ k ih =>
  intro z h;rw[Way.chain]at h;obtain⟨x,hx,hz⟩:=Option.bind_eq_some_iff.1 h;refine ZdP (ih x hx) ?_;have hn:=(W.h x).2;rw[hz]at hn;obtain⟨es,e⟩:=hn;have:=(x.seat.loc S hrec _ _ _ _ e).2 T λi q h1 h2=>hT k x hx i q ⟨h1,λy hy=>by
   rw[hz]at hy;obtain rfl:=Y1 hy;exact h2⟩
  exact Ze8 this
theorem Z0O(S:Strip P F (CodeOk P false) G)(hg:GOk P F G)(hrec:Rec P)(hS:∀V v T,Stop V v->Stop V (Lift.re v T)){f:Frame}{K:List Frame}(hst:Seat P F f K v)(h:∀T,∃n f' K' v',runN (PF P F) n (lone f K (re v T)) = .next (lone f' K' v')/\Stop (f'::K') v'): Ends (PF P F) Stop (f::K) v:=by
 refine Classical.byContradiction λhb=>?_;have hW:∃W:Way P F Stop,True:=by
  obtain⟨tp,h1⟩:=Classical.axiomOfChoice λx:Bad P F Stop=>x.next S hg hrec hS;obtain⟨y,h2⟩:=Classical.axiomOfChoice h1;exact⟨⟨tp,y,h2⟩,trivial⟩
 obtain⟨W,-⟩:=hW
 let x0:Bad P F Stop:=⟨f,K,v,hst,hb⟩
 obtain⟨T,hT⟩:=W.tape S hrec x0;have hr:=W.runs S hrec x0 hT;obtain⟨n,f',K',v',hn,hs⟩:=h T
 cases hc:W.chain x0 n with
 | some x =>
  have e:=hr n x hc;rw[show lone x0.f x0.K (re x0.v T)=lone f K (re v T) from rfl,hn]at e
  injection e with e
  have e1:v'=re x.v T:=congrArg (·.world) e;have e2:=congrArg (·.gs) e;simp only[lone,Array.mk.injEq,List.cons.injEq,Goroutine.mk.injEq,and_true]at e2;obtain⟨rfl,rfl,_⟩:=e2;subst e1;have h3:Stop (x.f::x.K) (re (re x.v T) x.v.tape):=hS _ _ x.v.tape hs;exact x.bad (.stop h3)
 | none =>
  have:∀n,W.chain x0 n=none->∃k x,k<n/\W.chain x0 k=some x/\W.y x=none:=by
   intro n
   induction n with
   | zero=>intro h;cases h
   | succ n ih =>
    intro h
    cases hm:W.chain x0 n with
    | none =>
     obtain⟨k,x,h1,h2,h3⟩:=ih hm;exact⟨k,x,by omega,h2,h3⟩
    | some x =>
     rw[Way.chain,hm]at h;exact⟨n,x,by omega,hm,h⟩
  obtain⟨k,x,hk,hx,hy⟩:=this n hc;have hA:∀hi,Zep (W.tp x) T x.v.drawn hi:=λhi i q h1 _=>(hT k x hx i q ⟨h1,λy h=>by rw[hy]at h;cases h⟩).symm;have hnx:=(W.h x).2;rw[hy]at hnx;obtain⟨o,w2,es,he⟩:=hnx
  rcases x.seat.step S hg hrec T with⟨o,w2,es,e⟩ | ⟨g,K2,v2,es2,e,_⟩
  ·obtain⟨j,rfl⟩:∃j,n=k+(1+j):=⟨n-k-1,by omega⟩
   have h1:=hr k x hx;rw[show lone x0.f x0.K (re x0.v T)=lone f K (re v T) from rfl]at h1;rw[runN_add,h1,Nat.add_comm 1 j]at hn;simp only[runN,step_end e]at hn
   cases hn
  ·have:stepG (PF P F) true (run1 x.f x.K) (re (re x.v T) (W.tp x))=_:=(x.seat.loc S hrec T _ _ _ e).2 (W.tp x) (hA _)
   rw[show re (re x.v T) (W.tp x)=re x.v (W.tp x) from rfl,he]at this
   cases this
end
end
end
end Lift
namespace Lift
open Go
variable[Jk]
structure WH(C:Inv)(r:Ren)(v w:World):Prop where
 on:∀b c,r b=some c->∃o o',v.heap[b]?=some o/\w.heap[c]?=some o'/\OR C r o o'
 inj:Inj r
 env:v.os.env=w.os.env
section
variable{P:Program}{F:Array Func}{G:FuncId->Prop}{r:Ren}{v w:World}{C:Inv}
theorem WR.h(h:WR C r v w):WH C r v w:=⟨h.on,h.inj,h.env⟩
theorem WH.tape(h:WH C r v w):∃T,WR C r (re v T) w:=
 ⟨λi q=>w.tape (w.drawn+(i-v.drawn)) q,h.on,h.inj,λi q=>by
  show w.tape (w.drawn+(v.drawn+i-v.drawn)) q=_;rw[Nat.add_sub_cancel_left],h.env⟩
theorem WH.of(h:WH C r v w)(hv:v'.heap=v.heap)(hw:w'.heap=w.heap)(e:v'.os.env=w'.os.env): WH C r v' w':=
 ⟨by rw[hv,hw];exact h.on,h.inj,e⟩
def Sour(x:Frame):Prop:=x=poison\/∃c,x={poison with mode:=.panicking c}
theorem Z0A{Stop:List Frame->World->Prop}(hP:∀x u,¬Stop [x] u){x:Frame}(hx:Sour x){u:World}: ¬Ends (PF P F) Stop [x] u:=by
 intro h
 cases h with
 | stop h=>exact hP _ _ h
 | step ok _ =>
  obtain⟨f',K',v',es,e⟩:=ok u.tape;obtain⟨o,w2,es2,e2⟩:=Z2h (Q:=PF P F) hx (re u u.tape);rw[e2]at e
  cases e
theorem Z5E(S:Strip P F (CodeOk P false) G)(hg:GOk P F G)(hrec:P.follows .rangeFuncRecover=true){f g:Frame}{A B:List Frame}(hs:Stk P F r (f::A) (g::B))(hw:WH (Iv P F) r v w)(np:¬Pend f)(ok:∀τ,∃f' K' v' es,stepG (PF P F) true (run1 f (A++[poison])) (re v τ) = .go (run1 f' K') v' es)(m:Bool)(cs:List Frame):
  ∃τ f' K' v' es,stepG (PF P F) true (run1 f (A++[poison])) (re v τ) = .go (run1 f' K') v' es /\
   ((K'=[]/\Sour f')\/∃A' g' B' r' w' ns,K'=A'++[poison]/\stepG P m (run1 g (B++cs)) w = .go (run1 g' (B'++cs)) w' ns/\Stk P F r' (f'::A') (g'::B')/\WR (Iv P F) r' v' w'/\Kept r r' (re v τ) v' w w'/\∀e∈ns,EvG r' (re v τ) w' e):=by
 obtain⟨τ,hw⟩:=hw.tape;obtain⟨f',K',v',es,e⟩:=ok τ;refine⟨τ,f',K',v',es,e,?_⟩;have h:=Z7E (cs:=cs) (m:=m) S hg hrec hs hw np;rw[e]at h
 rcases h with h | ⟨r',g',W,w',ns,h0,_,_,_,⟨A',B',h4,h5,h6,h7⟩,h8,h9,h10⟩
 ·refine .inl ?_
  rcases h with h | ⟨c,h⟩
  ·simp only[run1,Goroutine.mk.injEq]at h
   exact⟨h.2.1,.inl h.1⟩
  ·simp only[run1,Goroutine.mk.injEq]at h
   exact⟨h.2.1,.inr ⟨c,h.1⟩⟩
 ·cases A' with
  | nil=>exact absurd rfl h6
  | cons a az =>
   cases B' with
   | nil=>have:=h7.rel;cases this
   | cons b bs =>
    simp only[run1,List.cons_append,List.cons.injEq]at h4 h5;obtain⟨rfl,rfl⟩:=h4;obtain⟨rfl,rfl⟩:=h5;exact .inr ⟨az,_,bs,r',w',ns,rfl,h0,h7,h8,h9,h10⟩
def Done(P:Program)(F:Array Func)(f:FuncId)(R:Ending->World->Prop)(V:List Frame)(u:World):Prop:=
 ∃T e fr,V=[fr,poison]/\fr.fn=f/\fr.leaving (PF P F) (re u T) e/\R e u/\e ≠ .outgrown
theorem Z3x{f:FuncId}{R:Ending->World->Prop}(x:Frame)(u:World): ¬Done P F f R [x] u:=by
 rintro⟨T,e,fr,h,_⟩
 cases h
theorem Z28(S:Strip P F (CodeOk P false) G)(hg:GOk P F G)(hrec:Rec P){f:FuncId}{xs ys:Array Value}(g:G f)(ha:VRs r xs ys)(hw:WH (Iv P F) r v w){R:Ending->World->Prop}
  (hR:∀e u T,R e (re u T)->R e u) (ho:∀u,¬R .outgrown u) (hC:∀T,Calls (PF P F) f xs (re v T) R) :
  Ends (PF P F) (Done P F f R) [Frame.enter (PF P F) f xs .normal,poison] v:=by
 have hfr:=Z1b S ha g hg (k:=.normal) (.inl rfl);obtain⟨T,hwT⟩:=hw.tape;have hseat:Seat P F (Frame.enter (PF P F) f xs .normal) [poison] v:=by
  obtain⟨σ,hw2⟩:=hwT.retape v.tape;exact .inl ⟨[],_,[],r,_,rfl,⟨.cons hfr .nil,⟨.inl rfl,λh=>absurd rfl h⟩,trivial⟩,hw2⟩
 refine Z0O S hg hrec ?_ hseat λT=>?_
 ·rintro V u T ⟨T',e,fr,h1,h2,h3,h4,h5⟩
  exact⟨T',e,fr,h1,h2,h3,hR e (re u T) u.tape h4,h5⟩
 ·obtain⟨e,w',fr,h1,h2,h3,h4⟩:=hC T [poison]
  cases e with
  | outgrown=>exact absurd h1 (ho _)
  | returned x =>
   obtain⟨n,hn⟩:=h2;exact⟨n,fr,[poison],w',hn,w'.tape,_,fr,rfl,h3,h4,h1,by simp⟩
  | panicked c =>
   obtain⟨n,hn⟩:=h2;exact⟨n,fr,[poison],w',hn,w'.tape,_,fr,rfl,h3,h4,h1,by simp⟩
end
end Lift
end Go.Proofs.YtfelljbfeoplhaaGreat
