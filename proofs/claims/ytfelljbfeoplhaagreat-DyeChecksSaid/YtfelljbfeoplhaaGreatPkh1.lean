/- Parts of a proof. No conditions. -/
import Derived.Below
import Derived.Conc.Events
import Derived.Conc.Holds
import Derived.Conc.Listed
import Derived.KernelRfl
import Derived.Laws.Sem
import Derived.Leaving
import Derived.ProofKit
import Derived.StepT
import Derived.Test.YtfelljbfeoplhaaGreatProg
import Derived.Test.YtfelljbfeoplhaaGreatRows
import Derived.WalkKit
import GoSem.ClaimDataLaid
import GoSem.ClaimOpen
import GoSem.Step
set_option linter.unusedVariables false
set_option linter.unusedSimpArgs false
set_option linter.unusedSectionVars false
set_option maxRecDepth 100000
set_option maxHeartbeats 4000000
namespace Go.Proofs.YtfelljbfeoplhaaGreat
section
theorem lsQ{α:Type}{a b:α}{l:List α}{n:Nat}:(a::l).set (n+1) b=a::l.set n b:=rfl
theorem lzQ{α:Type}{a b:α}{l:List α}:(a::l).set 0 b=b::l:=rfl
open Go Go.RowKit
theorem wN{P:Program}{ops:Array Oper}{Q:Exit->Act->World->Prop}{a:Act}{w:World}(h:Q .normal a w):wpList P ops Q [] a w:=h
theorem wS{P:Program}{Q:Exit->Act->World->Prop}{a:Act}{w:World}{x y:Code}(h:∀K:Act->World->Prop,(∀a w,y.wp P Q a w->K a w)->x.wp P (Exit.then K Q) a w):(Code.seq x y).wp P Q a w:=wp_seq_k h
theorem wG{P:Program}{Q:Exit->Act->World->Prop}{a:Act}{w:World}{id:Nat}{l:List Oper}(h:wpList P l.toArray Q l a w):(Code.region id l.toArray false).wp P Q a w:=wp_region_lit h
theorem lQ{a b n:Nat}(h:n=b)(k:a<=b):a<=n:=h▸k
theorem tQ{a b n:Nat}(h:n=b)(k:a<b):a<n:=h▸k
theorem eQ(a:Nat):∃n,n=a:=⟨a,rfl⟩
theorem sQ{a n:Nat}(h:n=a):a<=n:=Nat.le_of_eq h.symm
theorem oM{p:Prop}(h:p:=by omega):p:=h
theorem sU{p:Prop}(h:p:=by simp):p:=h
theorem kR{p:Prop}(h:p:=by kernel_rfl):p:=h
theorem dC{p:Prop}(h:p:=by decide):p:=h
theorem Y0:type_of% @Array.getElem?_eq_some_iff.{0}:=@Array.getElem?_eq_some_iff.{0}
theorem Y1:type_of% @Option.some.inj.{0}:=@Option.some.inj.{0}
theorem Y2:type_of% @Array.getElem?_eq_getElem.{0}:=@Array.getElem?_eq_getElem.{0}
theorem Y3:type_of% @Option.map_eq_some_iff.{0,0}:=@Option.map_eq_some_iff.{0,0}
theorem Y4:type_of% @Option.some.injEq.{0}:=@Option.some.injEq.{0}
theorem Y5:type_of% @Bool.and_eq_true:=@Bool.and_eq_true
theorem Y6:type_of% @Array.getD_eq_getD_getElem?.{0}:=@Array.getD_eq_getD_getElem?.{0}
theorem Y7:type_of% @List.getD_eq_getElem?_getD.{0}:=@List.getD_eq_getElem?_getD.{0}
theorem Y8:type_of% @Nat.lt_of_lt_of_le:=@Nat.lt_of_lt_of_le
theorem Y9:type_of% @Prod.mk.injEq.{0,0}:=@Prod.mk.injEq.{0,0}
theorem Ya:type_of% @List.not_mem_nil.{0}:=@List.not_mem_nil.{0}
theorem Yb:type_of% @List.mem_toArray.{0}:=@List.mem_toArray.{0}
theorem Yc:type_of% @List.mem_cons.{0}:=@List.mem_cons.{0}
theorem Yd:type_of% @Nat.le_trans:=@Nat.le_trans
theorem Ye:type_of% @Nat.le_refl:=@Nat.le_refl
theorem Yf:type_of% @Go.Sem.runT_eq:=@Go.Sem.runT_eq
theorem Yg:type_of% @Go.wp_region_lit:=@Go.wp_region_lit
theorem Yh:type_of% @Go.wp_block:=@Go.wp_block
theorem Yi:type_of% @Go.wp_skip:=@Go.wp_skip
theorem Yj:type_of% @List.length_map.{0,0}:=@List.length_map.{0,0}
theorem Yk:type_of% @Array.mem_of_getElem?.{0}:=@Array.mem_of_getElem?.{0}
theorem Yl:type_of% @List.all_eq_true.{0}:=@List.all_eq_true.{0}
theorem Ym:type_of% @List.length_append.{0}:=@List.length_append.{0}
theorem Yn:type_of% @List.getElem?_map.{0,0}:=@List.getElem?_map.{0,0}
theorem Yo:type_of% @Bool.or_eq_true:=@Bool.or_eq_true
theorem Yp:type_of% @List.lookup_cons.{0,0}:=@List.lookup_cons.{0,0}
theorem Yq:type_of% @Array.getElem?_setIfInBounds_ne.{0}:=@Array.getElem?_setIfInBounds_ne.{0}
end
variable{α β:Type}{why:String}{z:Array Go.Value}
section
open Go Go.RowKit
def Z40(k:IntKind)(w:World)(a:Option Addr)(len cap:Nat)(zs:List Int):Prop:=
 (a=none/\len=0/\cap=0/\zs=[]) \/
 ∃x,a=some x/\len<=cap/\cap<=maxLen/\zs.length=cap/\(∀i,i<zs.length->w.cell? (x.add i)=some (.int k (zs.getD i 0)))/\∀n∈zs,(Lit.int k n).wf=true
theorem Z5O{P:Program}{f:FuncId}{fn:Func}{s:ChangeSpec}{c:OpenClaim}(h1:(c.wf (OpenSpec.ofChange s):Bool)=true)(h2:(laidOutB P:Bool)=true)(h3:(mapsRowed P:Bool)=true)(h4:(fn.params.all (P.readableRec ·):Bool)=true)(h5:(namedTie P c.named s.vars:Bool)=true)(h6:((c.stops==[]):Bool)=true)(h7:((P.stops==[]):Bool)=true)(h8:((c.knobs==[]):Bool)=true)(h9:((P.stopKnobs==[]):Bool)=true)(h10:((c.inPlace==P.inPlace f):Bool)=true)(h11:((c.unfollowed==P.unfollowed f):Bool)=true)(h12:((c.recurses==P.recurses f):Bool)=true)(h13:((c.named==P.varsNamed f):Bool)=true)(h14:((c.maps==(fn.params.toList++s.plain.varTypes P).any (P.mapsRec ·)):Bool)=true)(h15:((c.ifaces==(fn.params.toList++s.plain.varTypes P).any (P.ifacesRec ·)):Bool)=true)(h16:((c.mapsOut==P.mapsAmong fn.resultTypes.toList):Bool)=true)(h17:((c.loops==(fn.params.toList++s.plain.varTypes P).any (P.loopsFrom ·)):Bool)=true)(h18:((c.wideKeys==(fn.params.toList++s.plain.varTypes P++fn.resultTypes.toList).any (P.wideKeysFrom ·)):Bool)=true)(h19:(s.vars.all (P.varReadable ·):Bool)=true)(h20:(fn.resultTypes.all (λt=>P.readableRec t&&decide (t<P.types.size)):Bool)=true)(h21:((c.ifacesOut==fn.resultTypes.toList.any (P.ifacesRec ·)):Bool)=true)(h22:((c.loopsOut==fn.resultTypes.toList.any (P.loopsFrom ·)):Bool)=true)(h23:((c.plainKeys==P.plainKeys):Bool)=true)(h24:(c.shortTexts.isNone:Bool)=true)(h25:(P.stopsHeard:Bool)=true)(h26:(P.mayEnter:Bool)=true)(h27:((c.lifted==P.liftsFinal):Bool)=true)(h28:((P.make==some c.make):Bool)=true)(h29:((c.domain.isEmpty&&c.kinds==[]):Bool)=true)(h30:((c.pinned==c.pinnedBy):Bool)=true)(h31:((c.veiled==(fn.params.toList++s.plain.varTypes P++fn.resultTypes.toList).any (P.veiledRec ·)):Bool)=true)(h32:(c.veiledFits P fn.params.toList (fn.params.toList++s.plain.varTypes P++fn.resultTypes.toList):Bool)=true): joinedFacts P f fn s c=true:=by
 unfold joinedFacts;simp only[Y5]at h29;have h29':(c.kinds==(if c.domain.isEmpty then[] else fn.params.toList.map λt=>match P.underlying t with | some (.int k)=>some k | _=>none))=true:=by rw[if_pos h29.1];exact h29.2
 simp only[Y5];exact⟨⟨⟨⟨⟨⟨⟨⟨⟨⟨⟨⟨⟨⟨⟨⟨⟨⟨⟨⟨⟨⟨⟨⟨⟨⟨⟨⟨⟨⟨⟨h1,h2⟩,h3⟩,h4⟩,h5⟩,h6⟩,h7⟩,h8⟩,h9⟩,h10⟩,h11⟩,h12⟩,h13⟩,h14⟩,h15⟩,h16⟩,h17⟩,h18⟩,h19⟩,h20⟩,h21⟩,h22⟩,h23⟩,h24⟩,h25⟩,h26⟩,h27⟩,h28⟩,h29'⟩,h30⟩,h31⟩,h32⟩
def eP:List Nat:=[103,97,108,108,111,111,110,47,103,97,108,108,111,111,110,108,97,119,48,54,46,68,121,101]
def eC:List Char:=[99,117,116].map Char.ofNat
def eR:List (List Char):=([[97,116]]++[[65,108,105,107,101],[77,111,115,116],[80,111,117,114,101,100],[67,104,101,99,107,115],[83,104,97,100,101,115],[80,97,114,116,115],[80,97,105,114,115],[83,112,108,105,116,115],[75,110,111,119,110]].map λl=>eP++l).map (List.map Char.ofNat)
def eA:List (List Char):=[[104,97,114,110,101,115,115],[53,55,101,102,48,100,56,101,98,98,48,55,49,53,52,56,57,55,101,48,97,55,52,48,100,48,102,98,53,49,97,100,53,97,102,50,97,97,53,50,52,48,52,50,53,98,100,52,97,57,48,100,102,56,51,49,51,97,55,98,48,52,55,100]].map (List.map Char.ofNat)++eC::eR
theorem ZdC:Tryz.prog.initOrder=String.ofList (eA.intersperse [Char.ofNat 32]).flatten:=kR
theorem ZdD:wordsSigns Tryz.prog.initOrder.toList=eA:=by
 rw[ZdC,String.toList_ofList]
 kernel_rfl
theorem Z9R {P:Program} {c:List Char} {rest ws2:List (List Char)} (h:behindMainWord (wordsSigns P.initOrder.toList)=c::rest) (hs:stripLifts liftWords (c::rest)=([],ws2)) (hc:(ws2.head?==some "cut".toList)=true) (hl:P.laysLater=false) (hb:P.bearsReflect=false) (hd:P.doorFits []=true): P.mayEnter=true:=by
 unfold Program.mayEnter;rw[h];simp only[hs,hc,hl,hb,hd];simp
theorem Zap:behindMainWord (wordsSigns Tryz.prog.initOrder.toList)=eC::eR:=by
 rw[ZdD]
 kernel_rfl
theorem ZhZ:stripLifts liftWords (eC::eR)=([],eC::eR):=kR
theorem ZiJ:((eC::eR).head?==some "cut".toList)=true:=kR
theorem laysLater:Tryz.prog.laysLater=false:=kR
theorem bearsReflect:Tryz.prog.bearsReflect=false:=kR
theorem doorFits:Tryz.prog.doorFits []=true:=kR
theorem Z7k {P:Program} {c:List Char} {rest ws2:List (List Char)} (h:behindMainWord (wordsSigns P.initOrder.toList)=c::rest) (hs:stripLifts liftWords (c::rest)=([],ws2)) (hc:(c == "carried".toList)=false): P.liftsFinal=false:=by
 unfold Program.liftsFinal Program.headLifts;rw[h];simp only[hs,List.head?_cons];have e:(some c==some "carried".toList)=false:=hc;rw[e];simp
theorem Zj5 {P:Program} {c:List Char} {rest:List (List Char)} (h:behindMainWord (wordsSigns P.initOrder.toList)=c::rest) (hg:(c == "gc".toList)=false) (hp:(c == "spec".toList)=false) (hc:(c == "cut".toList)=true): P.make=some .cut:=by
 unfold Program.make;rw[h];simp only[hg,hp,hc];simp
theorem ZbM:(eC == "carried".toList)=false:=kR
theorem ZmL:(eC == "gc".toList)=false:=kR
theorem Zjh:(eC == "spec".toList)=false:=kR
theorem Zmu:(eC == "cut".toList)=true:=kR
theorem liftsFinal:Tryz.prog.liftsFinal=false:=Z7k Zap ZhZ ZbM
theorem made:Tryz.prog.make=some .cut:=Zj5 Zap ZmL Zjh Zmu
theorem ZdM:laidOutB Tryz.pinned.checked.prog=true:=kR
theorem Zj6:mapsRowed Tryz.pinned.checked.prog=true:=kR
theorem ZeR:(Tryz.pinned.checked.prog.stops==[])=true:=kR
theorem ZdL:(Tryz.pinned.checked.prog.stopKnobs==[])=true:=kR
theorem stopsHeard:Tryz.pinned.checked.prog.stopsHeard=true:=kR
theorem own:ownKnob Tryz.prog.godebug=none:=kR
theorem mayEnter:Tryz.prog.mayEnter=true:=Z9R Zap ZhZ ZiJ laysLater bearsReflect doorFits
end
namespace Lift
open Go
class Jk where
 j:Prop
 rest:List Item
 gd:FuncId->Prop:=λ_=>True
 law:FuncId->Prop:=λ_=>False
 jmp:FuncId->Prop:=λ_=>False
 ar:FuncId->Nat:=λ_=>3
variable[Jk]
abbrev Ren:=Nat->Option Nat
def Inj(r:Ren):Prop:=∀a b c,r a=some c->r b=some c->a=b
def Ren.le(r s:Ren):Prop:=(∀b c,r b=some c->s b=some c)/\(Inj r->Inj s)
theorem Ren.le_refl(r:Ren):r.le r:=⟨λ_ _ h=>h,id⟩
theorem Ren.le_trans{r s t:Ren}(h:r.le s)(k:s.le t):r.le t:=⟨λb c x=>k.1 b c (h.1 b c x),λi=>k.2 (h.2 i)⟩
inductive AR(r:Ren):Addr->Addr->Prop
 | mk {b c o s} (h:r b=some c):AR r ⟨b,o,s⟩ ⟨c,o,s⟩
inductive FnR(r:Ren):Fn->Fn->Prop
 | func f (h:Jk.gd f):FnR r (.func f) (.func f)
 | yield {l l'} (h:r l=some l'):FnR r (.yield l) (.yield l')
def J0:Value:=.func (.method "") #[.iface 1000000 (.bool false)] #[]
def Z0:Addr:=⟨0,0,some 0⟩
inductive VR(r:Ren):Value->Value->Prop
 | bool (b):VR r (.bool b) (.bool b)
 | int (k n):VR r (.int k n) (.int k n)
 | string (s):VR r (.string s) (.string s)
 | ptr0:VR r (.pointer none) (.pointer none)
 | ptr {a a'} (h:AR r a a'):VR r (.pointer (some a)) (.pointer (some a'))
 | sl0 (n c):VR r (.slice none n c) (.slice none n c)
 | sl {a a'} (n c) (h:AR r a a'):VR r (.slice (some a) n c) (.slice (some a') n c)
 /-- A slice without cells,wherever it points. -/
 | slz {a} (j:Jk.j\/a=Z0):VR r (.slice (some Z0) 0 0) (.slice (some a) 0 0)
 | map0:VR r (.map none) (.map none)
 | map {m m'} (h:r m=some m'):VR r (.map (some m)) (.map (some m'))
 | func {f f' xs xs' ys ys'} (hf:FnR r f f') (hx:xs.size=xs'.size) (h:∀(i:Nat) x x',xs[i]?=some x->xs'[i]?=some x'->VR r x x')
   (hy:ys.size=ys'.size) (k:∀(i:Nat) x x',ys[i]?=some x->ys'[i]?=some x'->VR r x x'):VR r (.func f xs ys) (.func f' xs' ys')
 | func0:VR r .nilFunc .nilFunc
 | iface {v v'} t (h:VR r v v'):VR r (.iface t v) (.iface t v')
 | iface0:VR r .nilIface .nilIface
 | agg {xs xs'} (hs:xs.size=xs'.size) (h:∀(i:Nat) x x',xs[i]?=some x->xs'[i]?=some x'->VR r x x'):VR r (.agg xs) (.agg xs')
 | tuple {xs xs'} (hs:xs.size=xs'.size) (h:∀(i:Nat) x x',xs[i]?=some x->xs'[i]?=some x'->VR r x x'):VR r (.tuple xs) (.tuple xs')
 /-- What the first does not know. -/
 | junk {y} (j:Jk.j\/y=J0) (h:∀xs,y ≠ .agg xs) (n:y ≠ .nilIface/\∀xs,y ≠ .tuple xs) (m:y ≠ .pointer none/\y ≠ .nilFunc/\∀b,y ≠ .bool b):VR r J0 y
def Arr{α β:Type}(R:α->β->Prop)(xs:Array α)(ys:Array β):Prop:=xs.size=ys.size/\∀(i:Nat) x y,xs[i]?=some x->ys[i]?=some y->R x y
inductive Lis{α β:Type}(R:α->β->Prop):List α->List β->Prop
 | nil:Lis R [] []
 | cons {x y xs ys} (h:R x y) (t:Lis R xs ys):Lis R (x::xs) (y::ys)
theorem AR.mono{r s:Ren}(h:r.le s){a b:Addr}(k:AR r a b):AR s a b:=by cases k with | mk q=>exact .mk (h.1 _ _ q)
theorem FnR.mono{r s:Ren}(h:r.le s){a b:Fn}(k:FnR r a b):FnR s a b:=by
 cases k with
 | func f h=>exact .func f h
 | yield q=>exact .yield (h.1 _ _ q)
theorem VR.mono{r s:Ren}(h:r.le s){x y:Value}(k:VR r x y):VR s x y:=by
 induction k with
 | bool b=>exact .bool b
 | int k n=>exact .int k n
 | string s=>exact .string s
 | ptr0=>exact .ptr0
 | ptr q=>exact .ptr (q.mono h)
 | sl0 n c=>exact .sl0 n c
 | sl n c q=>exact .sl n c (q.mono h)
 | slz j=>exact .slz j
 | map0=>exact .map0
 | map q=>exact .map (h.1 _ _ q)
 | func hf hx _ hy _ ih ih2=>exact .func (hf.mono h) hx (λi x x' a b=>ih i x x' a b) hy (λi x x' a b=>ih2 i x x' a b)
 | func0=>exact .func0
 | iface t _ ih=>exact .iface t ih
 | iface0=>exact .iface0
 | agg hs _ ih=>exact .agg hs (λi x x' a b=>ih i x x' a b)
 | tuple hs _ ih=>exact .tuple hs (λi x x' a b=>ih i x x' a b)
 | junk j h n m=>exact .junk j h n m
theorem Arr.imp{R S:α->β->Prop}{xs:Array α}{ys:Array β}(h:Arr R xs ys)(k:∀x y,R x y->S x y): Arr S xs ys:=⟨h.1,λi x y a b=>k _ _ (h.2 i x y a b)⟩
theorem Lis.imp{R S:α->β->Prop}{xs:List α}{ys:List β}(h:Lis R xs ys)(k:∀x y,R x y->S x y): Lis S xs ys:=by
 induction h with
 | nil=>exact .nil
 | cons a _ ih=>exact .cons (k _ _ a) ih
theorem Lis.length{R:α->β->Prop}{xs:List α}{ys:List β}(h:Lis R xs ys): xs.length=ys.length:=by
 induction h with
 | nil=>rfl
 | cons _ _ ih=>simp[ih]
theorem Lis.append{R:α->β->Prop}{xs xs':List α}{ys ys':List β}(h:Lis R xs ys)(k:Lis R xs' ys'): Lis R (xs++xs') (ys++ys'):=by
 induction h with
 | nil=>exact k
 | cons a _ ih=>exact .cons a ih
theorem Lis.get{R:α->β->Prop}{xs:List α}{ys:List β}(h:Lis R xs ys)(i:Nat): (xs[i]?=none/\ys[i]?=none)\/∃x y,xs[i]?=some x/\ys[i]?=some y/\R x y:=by
 induction h generalizing i with
 | nil=>exact .inl ⟨rfl,rfl⟩
 | cons a _ ih =>
  cases i with
  | zero=>exact .inr ⟨_,_,rfl,rfl,a⟩
  | succ i=>simpa using ih i
theorem Arr.get{α β:Type}{R:α->β->Prop}{xs:Array α}{ys:Array β}(h:Arr R xs ys)(i:Nat):(xs[i]?=none/\ys[i]?=none)\/∃x y,xs[i]?=some x/\ys[i]?=some y/\R x y:=by
 by_cases hi:i<xs.size
 ·have hj:i<ys.size:=h.1▸hi;exact .inr ⟨xs[i],ys[i],Y2 hi,Y2 hj,h.2 i _ _ (Y2 hi) (Y2 hj)⟩
 ·have hj:¬i<ys.size:=h.1▸hi;exact .inl ⟨Array.getElem?_eq_none (Nat.le_of_not_lt hi),Array.getElem?_eq_none (Nat.le_of_not_lt hj)⟩
theorem Arr.lis{R:α->β->Prop}{xs:Array α}{ys:Array β}(h:Arr R xs ys): Lis R xs.toList ys.toList:=by
 obtain⟨xs⟩:=xs;obtain⟨ys⟩:=ys;obtain⟨h1,h2⟩:=h;simp only[List.size_toArray]at h1
 induction xs generalizing ys with
 | nil=>cases ys with | nil=>exact .nil | cons _ _=>simp at h1
 | cons x xs ih =>
  cases ys with
  | nil=>simp at h1
  | cons y ys =>
   refine .cons (h2 0 x y sU sU) (ih ys (λi a b ha hb=>h2 (i+1) a b (by simpa using ha) (by simpa using hb)) (by simpa using h1))
theorem Lis.arr{R:α->β->Prop}{xs:List α}{ys:List β}(h:Lis R xs ys): Arr R xs.toArray ys.toArray:=by
 refine⟨by simpa using h.length,λi x y a b=>?_⟩;rcases h.get i with⟨n,_⟩ | ⟨u,v,hu,hv,q⟩
 ·simp only[List.getElem?_toArray,n]at a;cases a
 ·simp only[List.getElem?_toArray,hu,hv,Y4]at a b;exact a▸b▸q
theorem Arr.of_lis{R:α->β->Prop}{xs:Array α}{ys:Array β}(h:Lis R xs.toList ys.toList): Arr R xs ys:=by simpa using h.arr
theorem Arr.append{α β:Type}{R:α->β->Prop}{xs xs':Array α}{ys ys':Array β}(h:Arr R xs ys)(k:Arr R xs' ys'):Arr R (xs++xs') (ys++ys'):=
 .of_lis (by simpa using h.lis.append k.lis)
theorem Arr.push{R:α->β->Prop}{xs:Array α}{ys:Array β}{x:α}{y:β}(h:Arr R xs ys)(k:R x y): Arr R (xs.push x) (ys.push y):=
 .of_lis (by simpa using h.lis.append (.cons k .nil))
theorem Arr.nil{α β:Type}{R:α->β->Prop}:Arr R (#[]:Array α) (#[]:Array β):=⟨rfl,λi x y h=>by simp at h⟩
theorem Arr.set{R:α->β->Prop}{xs:Array α}{ys:Array β}(h:Arr R xs ys)(i:Nat){x:α}{y:β}(k:R x y): Arr R (xs.setIfInBounds i x) (ys.setIfInBounds i y):=by
 refine⟨by simpa using h.1,λj a b ha hb=>?_⟩;rw[Array.getElem?_setIfInBounds]at ha hb;by_cases e:i=j
 ·subst e;simp only[if_true]at ha hb;split at ha
  ·split at hb
   ·simp only[Y4]at ha hb;exact ha▸hb▸k
   ·cases hb
  ·cases ha
 ·simp only[e,if_false]at ha hb;exact h.2 j a b ha hb
theorem Arr.replicate{R:α->β->Prop}{x:α}{y:β}(n:Nat)(k:R x y): Arr R (Array.replicate n x) (Array.replicate n y):=by
 refine⟨sU,λi a b ha hb=>?_⟩;simp only[Array.getElem?_replicate]at ha hb;split at ha
 ·simp_all
 ·cases ha
theorem Arr.map{α β γ δ:Type}{R:α->β->Prop}{S:γ->δ->Prop}{xs:Array α}{ys:Array β}{f:α->γ}{g:β->δ}(h:Arr R xs ys)(k:∀x y,R x y->S (f x) (g y)):Arr S (xs.map f) (ys.map g):=by
 refine⟨by simpa using h.1,λi a b ha hb=>?_⟩;simp only[Array.getElem?_map]at ha hb;obtain⟨x,hx,rfl⟩:=Y3.1 ha;obtain⟨y,hy,rfl⟩:=Y3.1 hb;exact k _ _ (h.2 i x y hx hy)
theorem Arr.extract{R:α->β->Prop}{xs:Array α}{ys:Array β}(h:Arr R xs ys)(i j:Nat): Arr R (xs.extract i j) (ys.extract i j):=by
 refine⟨by simp[h.1],λk a b ha hb=>?_⟩;simp only[Array.getElem?_extract]at ha hb;split at ha
 ·split at hb
  ·exact h.2 _ a b ha hb
  ·cases hb
 ·cases ha
abbrev VRs(r:Ren):=Arr (VR r)
theorem VR.aggA{r:Ren}{xs ys:Array Value}(h:VRs r xs ys): VR r (.agg xs) (.agg ys):=.agg h.1 h.2
theorem VR.tupA{r:Ren}{xs ys:Array Value}(h:VRs r xs ys): VR r (.tuple xs) (.tuple ys):=.tuple h.1 h.2
theorem VR.undef{r:Ren}:VR r undef undef:=.tupA .nil
end Lift
namespace Lift
open Go
variable[Jk]
inductive TR(r:Ren):Target->Target->Prop
 | fn {f f' xs xs'} (hf:FnR r f f') (h:VRs r xs xs'):TR r (.fn f xs) (.fn f' xs')
 | nil:TR r .nil .nil
 | collected {b c} (h:r b=some c):TR r (.collected b) (.collected c)
def DR(r:Ren)(d d':Deferred):Prop:=TR r d.target d'.target/\VRs r d.args d'.args
def ER(r:Ren)(e e':MapEntry):Prop:=VR r e.key e'.key/\VR r e.val e'.val/\e.born=e'.born
structure Inv where
 code:Code->Prop
 fn:FuncId->Prop
structure LpR(C:Inv)(r:Ren)(l l':Loop):Prop where
 state:l.state=l'.state
 pending:l.pending=l'.pending/\∀c,l.pending=some c->C.code c
 fn:l.fn=l'.fn/\C.fn l.fn
 tmps:VRs r l.tmps l'.tmps
 params:l.params=l'.params
 assign:l.assign=l'.assign/\C.code l.assign
 body:l.body=l'.body/\C.code l.body
 defers:r l.defers=some l'.defers
inductive OR(C:Inv)(r:Ren):Obj->Obj->Prop
 | cells {cs cs' e fr fr'} (h:VRs r cs cs') (hf:(fr=(0,0)/\fr'=(0,0))\/fr=(0,cs.size)):OR C r (.cells cs e fr) (.cells cs' e fr')
 | number {a b} l (h:AR r a b):OR C r (.number a l) (.number b l)
 | map {es es'} n (h:Arr (ER r) es es'):OR C r (.map es n) (.map es' n)
 | loop {l l'} (h:LpR C r l l'):OR C r (.loop l) (.loop l')
 | def0:OR C r (.deferred none) (.deferred none)
 | def1 {ds ds'} (h:Lis (DR r) ds ds'):OR C r (.deferred (some ds)) (.deferred (some ds'))
theorem TR.mono{r s:Ren}(h:r.le s){x y:Target}(k:TR r x y):TR s x y:=by
 cases k with
 | fn hf q=>exact .fn (hf.mono h) (q.imp λ_ _=>VR.mono h)
 | nil=>exact .nil
 | collected q=>exact .collected (h.1 _ _ q)
theorem DR.mono{r s:Ren}(h:r.le s){x y:Deferred}(k:DR r x y):DR s x y:=⟨k.1.mono h,k.2.imp λ_ _=>VR.mono h⟩
theorem ER.mono{r s:Ren}(h:r.le s){x y:MapEntry}(k:ER r x y):ER s x y:=⟨k.1.mono h,k.2.1.mono h,k.2.2⟩
theorem LpR.mono{C:Inv}{r s:Ren}(h:r.le s){x y:Loop}(k:LpR C r x y):LpR C s x y:=
 ⟨k.state,k.pending,k.fn,k.tmps.imp λ_ _=>VR.mono h,k.params,k.assign,k.body,h.1 _ _ k.defers⟩
theorem OR.mono{C:Inv}{r s:Ren}(h:r.le s){x y:Obj}(k:OR C r x y):OR C s x y:=by
 cases k with
 | cells q hf=>exact .cells (q.imp λ_ _=>VR.mono h) hf
 | number l q=>exact .number l (q.mono h)
 | map n q=>exact .map n (q.imp λ_ _=>ER.mono h)
 | loop q=>exact .loop (q.mono h)
 | def0=>exact .def0
 | def1 q=>exact .def1 (q.imp λ_ _=>DR.mono h)
def Dies:Halt->Prop
 | .stuck _=>True
 | .unsupported (.initOrder _)=>False
 | .unsupported _=>True
 | _=>False
def Dead{α:Type}(Q:Program)(s:Sem α):Prop:=∀w,∃h w',s.run Q w = .halt h w'/\Dies h
section
variable{Q P:Program}{C:Inv}
inductive SR(Q P:Program)(C:Inv){α β:Type}(A:Ren->α->β->Prop):Ren->Sem α->Sem β->Prop
 | pure {r a b} (h:A r a b):SR Q P C A r (.pure a) (.pure b)
 | load {r a a' k k'} (h:AR r a a') (t:∀r',r.le r'->∀x x',VR r' x x'->SR Q P C A r' (k x) (k' x')):SR Q P C A r (.load .plain a k) (.load .plain a' k')
 | store {r a a' v v' k k'} (h:AR r a a') (hv:VR r v v') (t:SR Q P C A r k k'):SR Q P C A r (.store .plain a v k) (.store .plain a' v' k')
 | new {r o o' k k'} (h:OR C r o o') (t:∀r',r.le r'->∀b b',r' b=some b'->SR Q P C A r' (k b) (k' b')):SR Q P C A r (.new o k) (.new o' k')
 | shape {r b b' k k'} (h:r b=some b') (t:∀s,SR Q P C A r (k s) (k' s)):SR Q P C A r (.shape b k) (.shape b' k')
 | getObj {r b b' k k'} (h:r b=some b') (t:∀r',r.le r'->∀o o',OR C r' o o'->SR Q P C A r' (k o) (k' o')):SR Q P C A r (.getObj b k) (.getObj b' k')
 | setObj {r b b' o o' k k'} (h:r b=some b') (ho:OR C r o o') (hc:∀cs e f,o ≠ .cells cs e f) (t:SR Q P C A r k k'):SR Q P C A r (.setObj b o k) (.setObj b' o' k')
 | choose {r q k k'} (t:∀n,SR Q P C A r (k n) (k' n)):SR Q P C A r (.choose q k) (.choose q k')
 | program {r k k'} (t:SR Q P C A r (k Q) (k' P)):SR Q P C A r (.program k) (.program k')
 | room {r k k'} (t:SR Q P C A r k k'):SR Q P C A r (.mark .noRoom k) (.mark .noRoom k')
 | env {r k k'} (t:∀e,SR Q P C A r (k (.strings e)) (k' (.strings e))):SR Q P C A r (.sys .env k) (.sys .env k')
 | panic {r x x'} (h:VR r x x'):SR Q P C A r (.halt (.panic x)) (.halt (.panic x'))
 | dead {r s s'} (h:Dead Q s):SR Q P C A r s s'
theorem Dead.bind{s:Sem α}(h:Dead Q s)(f:α->Sem β): Dead Q (s.bind f):=λw=>by
 obtain⟨x,w',hr,hd⟩:=h w;exact⟨x,w',by rw[Sem.run_bind',hr];rfl,hd⟩
theorem SR.bind{α β γ δ:Type}{A:Ren->α->β->Prop}{B:Ren->γ->δ->Prop}{r:Ren}{x:Sem α}{y:Sem β}{f:α->Sem γ}{g:β->Sem δ}(k:SR Q P C A r x y)
  (h:∀r',r.le r'->∀a b,A r' a b->SR Q P C B r' (f a) (g b)):SR Q P C B r (x.bind f) (y.bind g):=by
 induction k with
 | pure q=>exact h _ (Ren.le_refl _) _ _ q
 | load q _ ih=>exact .load q λr' h' x x' hx=>ih r' h' x x' hx λs hs=>h s (Ren.le_trans h' hs)
 | store q hv _ ih=>exact .store q hv (ih h)
 | new q _ ih=>exact .new q λr' h' b b' hb=>ih r' h' b b' hb λs hs=>h s (Ren.le_trans h' hs)
 | shape q _ ih=>exact .shape q λx=>ih x h
 | getObj q _ ih=>exact .getObj q λr' h' o o' ho=>ih r' h' o o' ho λs hs=>h s (Ren.le_trans h' hs)
 | setObj q ho hc _ ih=>exact .setObj q ho hc (ih h)
 | choose _ ih=>exact .choose λn=>ih n h
 | program _ ih=>exact .program (ih h)
 | room _ ih=>exact .room (ih h)
 | env _ ih=>exact .env λe=>ih e h
 | panic q=>exact .panic q
 | dead q=>exact .dead (q.bind _)
theorem SR.imp{A B:Ren->α->β->Prop}{r:Ren}{x:Sem α}{y:Sem β}(k:SR Q P C A r x y)(h:∀r' a b,r.le r'->A r' a b->B r' a b): SR Q P C B r x y:=by
 have:=k.bind (f:=Sem.pure) (g:=Sem.pure) (B:=B) λr' hr a b q=>.pure (h r' a b hr q)
 rwa[Sem.bind_pure',Sem.bind_pure']at this
structure WR(C:Inv)(r:Ren)(v w:World):Prop where
 on:∀b c,r b=some c->∃o o',v.heap[b]?=some o/\w.heap[c]?=some o'/\OR C r o o'
 inj:Inj r
 tape:∀i q,v.tape (v.drawn+i) q=w.tape (w.drawn+i) q
 env:v.os.env=w.os.env
def Shut(v:World)(b:Nat):Prop:=∃cs e,v.heap[b]?=some (.cells cs e (0,cs.size))
def EvG(r:Ren)(v w:World)(e:Event):Prop:=
 (∃a wr b,e=⟨.cell a,wr,false⟩/\r b=some a.block/\a.block<w.heap.size/\(wr=true->¬Shut v b)) \/
 (∃c wr b,e=⟨.obj c,wr,false⟩/\r b=some c/\c<w.heap.size/\¬∃cs e f,v.heap[b]?=some (.cells cs e f))\/e=⟨.mark .noRoom,false,true⟩\/e=⟨.output,true,false⟩
structure Kept(r r':Ren)(v v' w w':World):Prop where
 le:r.le r'
 tapeV:v'.tape=v.tape
 tapeW:w'.tape=w.tape
 drawn:∃n,v'.drawn=v.drawn+n/\w'.drawn=w.drawn+n
 os:v.os=v'.os/\w.os=w'.os
 sizeV:v.heap.size<=v'.heap.size
 sizeW:w.heap.size<=w'.heap.size
 far:∀(c:Nat),c<w.heap.size->(∀b,r b≠some c)->w'.heap[c]?=w.heap[c]?
 new:∀b c,r' b=some c->r b=some c\/(v.heap.size<=b/\w.heap.size<=c)
 shut:∀(b:Nat),Shut v b->v'.heap[b]?=v.heap[b]?
 cells:∀(b:Nat) cs e f,v.heap[b]?=some (.cells cs e f)->∃cs' f',v'.heap[b]?=some (.cells cs' e f')
 farV:∀(b:Nat),b<v.heap.size->r b=none->v'.heap[b]?=v.heap[b]?
 shutW:∀b c,Shut v b->r b=some c->w'.heap[c]?=w.heap[c]?
 par:v.heap.size=w.heap.size->v'.heap.size=w'.heap.size/\(∀b c,r' b=some c->r b=some c\/b=c)/\∀c,w.heap.size<=c->c<w'.heap.size->r' c=some c
 out:w'.output=w.output:=by rfl
theorem Kept.refl(r:Ren)(v w:World):Kept r r v v w w:=
 ⟨Ren.le_refl _,rfl,rfl,⟨0,rfl,rfl⟩,⟨rfl,rfl⟩,Ye _,Ye _,λ_ _ _=>rfl,λ_ _ h=>.inl h,λ_ _=>rfl,λ_ _ _ _ h=>⟨_,_,h⟩,λ_ _ _=>rfl,λ_ _ _ _=>rfl,λh=>⟨h,λ_ _ h=>.inl h,λc h1 h2=>by omega⟩,rfl⟩
theorem Kept.shutS{r r':Ren}{v v' w w':World}(h:Kept r r' v v' w w'){b:Nat}(k:Shut v b): Shut v' b:=by
 obtain⟨cs,e,q⟩:=k;exact⟨cs,e,by rw[h.shut b ⟨cs,e,q⟩,q]⟩
theorem Kept.trans{r r' r'':Ren}{v v' v'' w w' w'':World}(h:Kept r r' v v' w w')(k:Kept r' r'' v' v'' w' w''):Kept r r'' v v'' w w'' where
 le:=Ren.le_trans h.le k.le
 tapeV:=k.tapeV.trans h.tapeV
 tapeW:=k.tapeW.trans h.tapeW
 drawn:=by
  obtain⟨n,h1,h2⟩:=h.drawn;obtain⟨m,k1,k2⟩:=k.drawn;exact⟨n+m,oM,oM⟩
 os:=⟨h.os.1.trans k.os.1,h.os.2.trans k.os.2⟩
 sizeV:=Yd h.sizeV k.sizeV
 sizeW:=Yd h.sizeW k.sizeW
 far:=λc hc hf=>by
  rw[k.far c (Y8 hc h.sizeW) λb hb=>?_,h.far c hc hf];rcases h.new b c hb with q | ⟨_,q⟩
  ·exact hf b q
  ·omega
 new:=λb c hb=>by
  rcases k.new b c hb with q | ⟨q1,q2⟩
  ·exact h.new b c q
  ·exact .inr ⟨Yd h.sizeV q1,Yd h.sizeW q2⟩
 shut:=λb hb=>by rw[k.shut b (h.shutS hb),h.shut b hb]
 cells:=λb cs e f hb=>let ⟨cs',f',q⟩:=h.cells b cs e f hb;k.cells b cs' e f' q
 farV:=λb hb hr=>by
  rw[k.farV b (Y8 hb h.sizeV) ?_,h.farV b hb hr];cases hx:r' b with
  | none=>rfl
  | some c =>
   rcases h.new b c hx with q | ⟨q,_⟩
   ·rw[hr]at q;cases q
   ·omega
 shutW:=λb c hb hr=>by rw[k.shutW b c (h.shutS hb) (h.le.1 _ _ hr),h.shutW b c hb hr]
 par:=λe=>by
  obtain⟨h1,h2,h3⟩:=h.par e;obtain⟨k1,k2,k3⟩:=k.par h1;refine⟨k1,λb c hb=>?_,λc hc1 hc2=>?_⟩
  ·rcases k2 b c hb with q | q
   ·exact h2 b c q
   ·exact .inr q
  ·by_cases hc:c<w'.heap.size
   ·exact k.le.1 _ _ (h3 c hc1 hc)
   ·exact k3 c oM hc2
 out:=k.out.trans h.out
theorem EvG.lift{r r' r'':Ren}{v v' w' w'':World}{w:World}(h:Kept r r' v v' w w'){e:Event}(k:EvG r'' v' w'' e): EvG r'' v w'' e:=by
 rcases k with⟨a,wr,b,he,hb,hl,hs⟩ | ⟨c,wr,b,he,hb,hl,hs⟩ | he
 ·exact .inl ⟨a,wr,b,he,hb,hl,λhw q=>hs hw (h.shutS q)⟩
 ·exact .inr (.inl ⟨c,wr,b,he,hb,hl,λ⟨cs,t,f,q⟩=>by
   obtain⟨cs',f',q'⟩:=h.cells b cs t f q;exact hs ⟨cs',t,f',q'⟩⟩)
 ·exact .inr (.inr he)
theorem EvG.more{r r':Ren}{v w w':World}(h:r.le r')(hw:w.heap.size<=w'.heap.size){e:Event}(k:EvG r v w e): EvG r' v w' e:=by
 rcases k with⟨a,wr,b,he,hb,hl,hs⟩ | ⟨c,wr,b,he,hb,hl,hs⟩ | he
 ·exact .inl ⟨a,wr,b,he,h.1 _ _ hb,Y8 hl hw,hs⟩
 ·exact .inr (.inl ⟨c,wr,b,he,h.1 _ _ hb,Y8 hl hw,hs⟩)
 ·exact .inr (.inr he)
def Out(C:Inv){α β:Type}(A:Ren->α->β->Prop)(r:Ren)(v w:World)(es:Array Event):Result α->Result β×Array Event->Prop
 | .ok a v',q=>∃r' b w' ns,q=(.ok b w',es++ns)/\WR C r' v' w'/\A r' a b/\Kept r r' v v' w w'/\∀e∈ns,EvG r' v w' e
 | .halt (.panic x) v',q=>∃r' x' w' ns,q=(.halt (.panic x') w',es++ns)/\WR C r' v' w'/\VR r' x x'/\Kept r r' v v' w w'/\∀e∈ns,EvG r' v w' e
 | .halt x _,_=>Dies x
theorem Out.step{α β:Type}{A:Ren->α->β->Prop}{r r₁:Ren}{v v₁ w w₁:World}{es ns:Array Event}{x:Result α}{y:Result β×Array Event}(hk:Kept r r₁ v v₁ w w₁)(he:∀e∈ns,EvG r₁ v w₁ e)
  (h:Out C A r₁ v₁ w₁ (es++ns) x y):Out C A r v w es x y:=by
 cases x with
 | ok a v' =>
  obtain⟨r',b,w',n2,rfl,hw,ha,hk2,he2⟩:=h;refine⟨r',b,w',ns++n2,by rw[Array.append_assoc],hw,ha,hk.trans hk2,λe hm=>?_⟩;rcases Array.mem_append.1 hm with q | q
  ·exact(he e q).more hk2.le hk2.sizeW
  ·exact(he2 e q).lift hk
 | halt x v' =>
  cases x with
  | panic x =>
   obtain⟨r',b,w',n2,rfl,hw,ha,hk2,he2⟩:=h;refine⟨r',b,w',ns++n2,by rw[Array.append_assoc],hw,ha,hk.trans hk2,λe hm=>?_⟩;rcases Array.mem_append.1 hm with q | q
   ·exact(he e q).more hk2.le hk2.sizeW
   ·exact(he2 e q).lift hk
  | _=>exact h
theorem Out.dies{A:Ren->α->β->Prop}{r:Ren}{v w:World}{es:Array Event}{x:Halt}{v':World}{y:Result β×Array Event}(h:Dies x): Out C A r v w es (.halt x v':Result α) y:=by
 cases x<;>first | exact h | exact h.elim
end
end Lift
namespace Lift
open Go
variable[Jk]
section
variable{Q P:Program}{C:Inv}{r:Ren}{v w:World}
theorem WR.lt{b c:Nat}(h:WR C r v w)(q:r b=some c): b<v.heap.size/\c<w.heap.size:=by
 obtain⟨o,o',h1,h2,_⟩:=h.on b c q;exact⟨(Y0.1 h1).1,(Y0.1 h2).1⟩
theorem WR.turn{b c:Nat}{o o':Obj}{v' w':World}(h:WR C r v w)(q:r b=some c)(ho:OR C r o o')(hv:∀i,v'.heap[i]?=if b=i then some o else v.heap[i]?)(hw:∀i,w'.heap[i]?=if c=i then some o' else w.heap[i]?)(t:v'.tape=v.tape/\v'.drawn=v.drawn/\w'.tape=w.tape/\w'.drawn=w.drawn/\v'.os=v.os/\w'.os=w.os): WR C r v' w' where
 on:=λx y hx=>by
  by_cases e:b=x
  ·subst e;obtain rfl:c=y:=Y1 (q.symm.trans hx);exact⟨o,o',by rw[hv,if_pos rfl],by rw[hw,if_pos rfl],ho⟩
  ·have:c≠y:=λe'=>e (h.inj b x c q (e'▸hx));rw[hv,if_neg e,hw,if_neg this];exact h.on x y hx
 inj:=h.inj
 tape:=λi q=>by rw[t.1,t.2.1,t.2.2.1,t.2.2.2.1];exact h.tape i q
 env:=by rw[t.2.2.2.2.1,t.2.2.2.2.2];exact h.env
theorem ZjA{A:Ren->α->β->Prop}{a a':Addr}{k:Value->Sem α}{k':Value->Sem β}(h:WR C r v w)(ha:AR r a a')(es:Array Event)(t:∀x x',VR r x x'->∀es',Out C A r v w es' ((k x).run Q v) ((k' x').runT P w es')):
  Out C A r v w es ((Sem.load .plain a k).run Q v) ((Sem.load .plain a' k').runT P w es):=by
 cases ha with
 | @mk b c o s hb =>
 obtain⟨x,x',h1,h2,ho⟩:=h.on b c hb;have hl:=(h.lt hb).2;have none_:v.cell? ⟨b,o,s⟩=none->(∀p e,x ≠ .pending p e)->(∀p e,x ≠ .view p e)->Out C A r v w es ((Sem.load .plain ⟨b,o,s⟩ k).run Q v) ((Sem.load .plain ⟨c,o,s⟩ k').runT P w es):=by
  intro hn hp hv;simp only[Sem.run,hn,World.farLoad,World.noCell,h1];cases x<;>first | exact absurd rfl (hp _ _) | exact absurd rfl (hv _ _) | exact Out.dies trivial
 cases ho with
 | @cells cs cs' e fr fr' q hf =>
  have e1:v.cell? ⟨b,o,s⟩=if s.isSome then none else cs[o]?:=by simp only[World.cell?,h1]
  have e2:w.cell? ⟨c,o,s⟩=if s.isSome then none else cs'[o]?:=by simp only[World.cell?,h2]
  by_cases hs:s.isSome
  ·exact none_ (by rw[e1,if_pos hs]) sU sU
  ·rcases q.get o with⟨n,_⟩ | ⟨y,y',hy,hy',hr⟩
   ·exact none_ (by rw[e1,if_neg hs,n]) sU sU
   ·rw[if_neg hs,hy]at e1;rw[if_neg hs,hy']at e2;simp only[Sem.run,e1];unfold Sem.runT;simp only[e2];refine Out.step (ns:=#[⟨.cell ⟨c,o,s⟩,false,false⟩]) (Kept.refl r v w) (λev hm=>?_) ?_
    ·obtain rfl:=Array.mem_singleton.1 hm;exact .inl ⟨_,_,b,rfl,hb,hl,sU⟩
    ·rw[Array.push_eq_append];exact t y y' hr (es++#[⟨.cell ⟨c,o,s⟩,false,false⟩])
 | _=>exact none_ (by simp only[World.cell?,h1]) sU sU
theorem ZgT {α β:Type} {A:Ren->α->β->Prop} {a a':Addr} {z z':Value} {k:Sem α} {k':Sem β} (h:WR C r v w) (ha:AR r a a') (hz:VR r z z') (es:Array Event)
    (t:∀v' w',WR C r v' w'->∀es',Out C A r v' w' es' (k.run Q v') (k'.runT P w' es')) :
    Out C A r v w es ((Sem.store .plain a z k).run Q v) ((Sem.store .plain a' z' k').runT P w es):=by
  cases ha with
  | @mk b c o s hb =>
  obtain⟨x, x', h1, h2, ho⟩ := h.on b c hb;have hl := h.lt hb;by_cases hag : (∃xs, z = .agg xs)\/∃xs, z = .tuple xs
  · rcases hag with⟨xs,rfl⟩ | ⟨xs,rfl⟩
    · exact Out.dies (by simp[Dies])
    · exact Out.dies (by simp[Dies])
  have na : (∀xs, z ≠ .agg xs)/\∀xs, z ≠ .tuple xs := ⟨λxs e => hag (.inl ⟨xs, e⟩), λxs e => hag (.inr ⟨xs, e⟩)⟩;have na' : (∀xs, z' ≠ .agg xs)/\∀xs, z' ≠ .tuple xs := by
    constructor<;>intro xs e<;>subst e<;>cases hz<;>first | exact na.1 _ rfl | exact na.2 _ rfl | (rename_i h n m;first | exact h _ rfl | exact n.2 _ rfl)
  have run1:(Sem.store .plain ⟨b,o,s⟩ z k).run Q v=match v.cell? ⟨b,o,s⟩ with
      | some _=>if v.frozen? ⟨b,o,s⟩ then .halt (.unsupported (.unsafePointer "a write to bytes that a string shares")) v else k.run Q (v.setCell ⟨b,o,s⟩ z)
      | none=>match v.farStore Q ⟨b,o,s⟩ z false with | .ok (w,_)=>k.run Q w | .error h=>.halt h v:=by
    cases z<;>first | exact absurd rfl (na.1 _) | exact absurd rfl (na.2 _) | rfl
  have run2:(Sem.store .plain ⟨c,o,s⟩ z' k').runT P w es=match w.cell? ⟨c,o,s⟩ with
      | some _=>if w.frozen? ⟨c,o,s⟩ then(.halt (.unsupported (.unsafePointer "a write to bytes that a string shares")) w,es) else k'.runT P (w.setCell ⟨c,o,s⟩ z') (es.push ⟨.cell ⟨c,o,s⟩,true,false⟩)
      | none=>match w.farStore P ⟨c,o,s⟩ z' false with | .ok (w,touched)=>k'.runT P w (es++touched.toArray.map (⟨.cell ·,true,false⟩)) | .error h=>(.halt h w,es):=by
    cases z'<;>first | exact absurd rfl (na'.1 _) | exact absurd rfl (na'.2 _) | rfl
  have none_:v.cell? ⟨b,o,s⟩=none->(∀p e,x ≠ .pending p e)->(∀p e,x ≠ .view p e)->Out C A r v w es ((Sem.store .plain ⟨b,o,s⟩ z k).run Q v) ((Sem.store .plain ⟨c,o,s⟩ z' k').runT P w es):=by
    intro hn hp hv;rw[run1];simp only[hn, World.farStore, World.noCell, h1];cases x<;>first | exact absurd rfl (hp _ _) | exact absurd rfl (hv _ _) | exact Out.dies trivial
  cases ho with
  | @cells cs cs' e fr fr' q hf =>
    have e1:v.cell? ⟨b,o,s⟩=if s.isSome then none else cs[o]?:=by simp only[World.cell?,h1]
    have e2:w.cell? ⟨c,o,s⟩=if s.isSome then none else cs'[o]?:=by simp only[World.cell?,h2]
    by_cases hs:s.isSome
    · exact none_ (by rw[e1,if_pos hs]) sU sU
    · rcases q.get o with⟨n,_⟩ | ⟨y,y',hy,hy',_⟩
      · exact none_ (by rw[e1,if_neg hs,n]) sU sU
      · rw[if_neg hs,hy]at e1
        rw[if_neg hs, hy']at e2;have f1 : v.frozen? ⟨b, o, s⟩=(decide (fr.1<=o)&&decide (o<fr.2)) := by simp only[World.frozen?, h1]
        rw[run1, run2, e1, e2];have hlt : o<cs.size := (Y0.1 hy).1;rcases hf with⟨hf, rfl⟩ | hf
        case inr =>
          have:v.frozen? ⟨b,o,s⟩=true:=by rw[f1,hf];simpa using hlt
          simp only[this, if_true];exact Out.dies trivial
        have f2:w.frozen? ⟨c,o,s⟩=false:=by simp[World.frozen?,h2]
        simp only[f2];have f3 : v.frozen? ⟨b, o, s⟩=false := by rw[f1, hf]; simp
        simp only[f3];have hv' : ∀i, (v.setCell ⟨b, o, s⟩ z).heap[i]?=if b=i then some (.cells (cs.setIfInBounds o z) e fr) else v.heap[i]? := by
          intro i;simp only[World.setCell, Array.getElem?_modify];by_cases e' : b=i
          · subst e';simp[h1,hs]
          · simp[e']
        have hw':∀i,(w.setCell ⟨c,o,s⟩ z').heap[i]?=if c=i then some (.cells (cs'.setIfInBounds o z') e (0,0)) else w.heap[i]?:=by
          intro i;simp only[World.setCell, Array.getElem?_modify];by_cases e' : c=i
          · subst e';simp[h2,hs]
          · simp[e']
        have hR := h.turn (v' := v.setCell ⟨b, o, s⟩ z) (w' := w.setCell ⟨c, o, s⟩ z') hb (.cells (q.set o hz) (.inl ⟨hf, rfl⟩)) hv' hw' ⟨rfl, rfl, rfl, rfl, rfl, rfl⟩;have nsh : ¬Shut v b := λ⟨cs2, e2, q2⟩ => by
          rw[h1]at q2;simp only[Y4, Obj.cells.injEq]at q2;obtain⟨rfl, _, q3⟩ := q2;rw[hf]at q3;simp only[Y9, true_and]at q3;omega
        refine Out.step (r₁:=r) (v₁:=v.setCell ⟨b,o,s⟩ z) (w₁:=w.setCell ⟨c,o,s⟩ z') (ns:=#[⟨.cell ⟨c,o,s⟩,true,false⟩]) ?_ (λev hm=>?_) ?_
        · exact {
            le:=Ren.le_refl _,tapeV:=rfl,tapeW:=rfl,drawn:=⟨0,rfl,rfl⟩,os:=⟨rfl,rfl⟩
            sizeV:=by simp[World.setCell],sizeW:=by simp[World.setCell]
            far:=λi _ hf2=>by rw[hw',if_neg (λe':c=i=>hf2 b (e'▸hb))]
            new:=λ_ _ hb2=>.inl hb2
            shut:=λi hi=>by rw[hv',if_neg (λe':b=i=>nsh (e'▸hi))]
            cells:=λi cs2 e2 f2 hi=>by
              rw[hv'];by_cases e' : b=i
              · subst e'
                rw[h1]at hi;simp only[Y4, Obj.cells.injEq]at hi;obtain⟨_, rfl, _⟩ := hi;exact⟨_, _, if_pos rfl⟩
              · rw[if_neg e'];exact⟨_,_,hi⟩
            farV:=λi _ hi=>by rw[hv',if_neg (λe':b=i=>by rw[e',hi]at hb;cases hb)]
            shutW:=λi j hi hj=>by rw[hw',if_neg (λe':c=j=>nsh (h.inj b i c hb (e'▸hj)▸hi))]
            par := λe => ⟨by simpa [World.setCell] using e, λ_ _ hb => .inl hb, λi h1 h2 => by simp [World.setCell] at h2; omega⟩ }
        · obtain rfl:=Array.mem_singleton.1 hm
          exact .inl ⟨_,_,b,rfl,hb,by simpa[World.setCell] using hl.2,λ_=>nsh⟩
        · rw[Array.push_eq_append];exact t _ _ hR (es++#[⟨.cell ⟨c,o,s⟩,true,false⟩])
  | _=>exact none_ (by simp only[World.cell?,h1]) sU sU
def Ren.add(r:Ren)(b c:Nat):Ren:=λx=>if x=b then some c else r x
theorem ZlI {α β:Type} {A:Ren->α->β->Prop} {o o':Obj} {k:Nat->Sem α} {k':Nat->Sem β} (h:WR C r v w) (ho:OR C r o o') (es:Array Event)
    (t:∀r',r.le r'->∀b c,r' b=some c->∀v' w',WR C r' v' w'->∀es',Out C A r' v' w' es' ((k b).run Q v') ((k' c).runT P w' es')) :
    Out C A r v w es ((Sem.new o k).run Q v) ((Sem.new o' k').runT P w es):=by
  have hin:Inj (r.add v.heap.size w.heap.size):=λa b c ha hb=>by
    unfold Ren.add at ha hb;split at ha<;>split at hb
    · omega
    · simp only[Y4]at ha;have:=(h.lt hb).2;omega
    · simp only[Y4]at hb;have:=(h.lt ha).2;omega
    · exact h.inj a b c ha hb
  have hle:r.le (r.add v.heap.size w.heap.size):=⟨λb c hb=>by
    unfold Ren.add;rw[if_neg (by have := (h.lt hb).1; omega), hb], λ_ => hin⟩
  have hnew : r.add v.heap.size w.heap.size v.heap.size=some w.heap.size := if_pos rfl;have hR : WR C (r.add v.heap.size w.heap.size) {v with heap := v.heap.push o} {w with heap := w.heap.push o'} := by
    refine⟨λb c hb=>?_,hin,h.tape,h.env⟩
    · unfold Ren.add at hb
      split at hb
      · rename_i e
        subst e;simp only[Y4]at hb;subst hb;exact⟨o, o', by simp, by simp, ho.mono hle⟩
      · obtain⟨x,x',h1,h2,h3⟩:=h.on b c hb
        have hl := h.lt hb;refine⟨x, x', ?_, ?_, h3.mono hle⟩
        · rw[Array.getElem?_push,if_neg oM];exact h1
        · rw[Array.getElem?_push,if_neg oM];exact h2
  simp only[Sem.run];unfold Sem.runT
  have hk : Kept r (r.add v.heap.size w.heap.size) v { v with heap := v.heap.push o } w { w with heap := w.heap.push o' } := {
    le:=hle,tapeV:=rfl,tapeW:=rfl,drawn:=⟨0,rfl,rfl⟩,os:=⟨rfl,rfl⟩
    sizeV:=by simp,sizeW:=by simp
    far:=λi hi _=>by simp only[Array.getElem?_push];rw[if_neg oM]
    new:=λb c hb=>by
      unfold Ren.add at hb;split at hb
      · simp only[Y4]at hb
        exact .inr ⟨oM,oM⟩
      · exact .inl hb
    shut:=λb hb=>by
      obtain⟨cs, e, q⟩ := hb;have := (Y0.1 q).1;simp only[Array.getElem?_push]; rw[if_neg oM]
    cells:=λb cs e f q=>by
      have := (Y0.1 q).1;simp only[Array.getElem?_push]; rw[if_neg oM]; exact⟨_, _, q⟩
    farV:=λb hb _=>by simp only[Array.getElem?_push];rw[if_neg oM]
    shutW:=λb c _ hr=>by
      have := (h.lt hr).2;simp only[Array.getElem?_push]; rw[if_neg oM]
    par:=λe=>⟨by simp[e],λb c hb=>by
      unfold Ren.add at hb;split at hb
      · simp only[Y4]at hb
        exact .inr oM
      · exact .inl hb,λc h1 h2=>by
      simp only[Array.size_push]at h2;obtain rfl : c=w.heap.size := by omega
      unfold Ren.add
      rw [if_pos e.symm]⟩ }
  have := t _ hle _ _ hnew _ _ hR es;refine Out.step (ns := #[]) hk sU ?_;simpa using this
theorem OR.flip{o o':Obj}(h:OR C r o o'): (∃cs e f,o = .cells cs e f)\/((∀cs e f,o ≠ .cells cs e f)/\(∀cs e f,o' ≠ .cells cs e f)/\o'.isChan=false):=by
 cases h with
 | cells _ _=>exact .inl ⟨_,_,_,rfl⟩
 | _=>exact .inr ⟨sU,sU,rfl⟩
theorem ZeG{A:Ren->α->β->Prop}{b c:Nat}{k:Obj->Sem α}{k':Obj->Sem β}(h:WR C r v w)(hb:r b=some c)(es:Array Event)(t:∀o o',OR C r o o'->∀es',Out C A r v w es' ((k o).run Q v) ((k' o').runT P w es')):
  Out C A r v w es ((Sem.getObj b k).run Q v) ((Sem.getObj c k').runT P w es):=by
 obtain⟨o,o',h1,h2,ho⟩:=h.on b c hb;have hl:=(h.lt hb).2;rcases ho.flip with⟨cs,e,f,rfl⟩ | ⟨n1,n2,n3⟩
 ·simp only[Sem.run,h1];exact Out.dies trivial
 ·have e1:(Sem.getObj b k).run Q v=(k o).run Q v:=by
   conv=>lhs;unfold Sem.run
   rw[h1];cases o<;>first | exact absurd rfl (n1 _ _ _) | rfl
  have e2:(Sem.getObj c k').runT P w es=(k' o').runT P w (es++#[⟨.obj c,false,false⟩]):=by
   rw[<-Array.push_eq_append]
   conv=>lhs;unfold Sem.runT
   rw[h2];cases o'<;>first | exact absurd rfl (n2 _ _ _) | (cases n3;done) | rfl
  rw[e1,e2];refine Out.step (ns:=#[⟨.obj c,false,false⟩]) (Kept.refl r v w) (λev hm=>?_) (t o o' ho _);obtain rfl:=Array.mem_singleton.1 hm;exact .inr (.inl ⟨_,_,b,rfl,hb,hl,λ⟨cs,e,f,q⟩=>n1 cs e f (by rw[h1]at q;exact Y1 q)⟩)
theorem ZeM {α β:Type} {A:Ren->α->β->Prop} {b c:Nat} {o o':Obj} {k:Sem α} {k':Sem β} (h:WR C r v w) (hb:r b=some c) (ho:OR C r o o') (hc:∀cs e f,o ≠ .cells cs e f) (es:Array Event)
    (t:∀v' w',WR C r v' w'->∀es',Out C A r v' w' es' (k.run Q v') (k'.runT P w' es')) :
    Out C A r v w es ((Sem.setObj b o k).run Q v) ((Sem.setObj c o' k').runT P w es):=by
  obtain⟨x, x', h1, h2, hx⟩ := h.on b c hb;have hl := h.lt hb;rcases hx.flip with⟨cs, e, f, rfl⟩ | ⟨n1, n2, n3⟩
  · simp only[Sem.run,h1]
    exact Out.dies trivial
  · have e1:(Sem.setObj b o k).run Q v=k.run Q {v with heap:=v.heap.setIfInBounds b o}:=by
      have:(Sem.setObj b o k).run Q v=match v.heap[b]? with | some (.cells ..)=>.halt (.stuck "setObj: a row of cells") v | some _=>k.run Q {v with heap:=v.heap.setIfInBounds b o} | none=>.halt (.stuck "setObj: no such block") v:=rfl
      rw[this, h1];cases x<;>first | exact absurd rfl (n1 _ _ _) | rfl
    have n4:o'.isChan=false:=by
      rcases ho.flip with⟨cs,e,f,rfl⟩ | ⟨_,_,q⟩
      · exact absurd rfl (hc _ _ _)
      · exact q
    have e2:(Sem.setObj c o' k').runT P w es=k'.runT P {w with heap:=w.heap.setIfInBounds c o'} (es++#[⟨.obj c,true,false⟩]):=by
      have:(Sem.setObj c o' k').runT P w es=match w.heap[c]? with | some (.cells ..)=>(.halt (.stuck "setObj: a row of cells") w,es) | some _=>k'.runT P {w with heap:=w.heap.setIfInBounds c o'} (es.push ⟨.obj c,true,o'.isChan⟩) | none=>(.halt (.stuck "setObj: no such block") w,es):=rfl
      rw[this, h2, <-Array.push_eq_append, n4];cases x'<;>first | exact absurd rfl (n2 _ _ _) | rfl
    have hv':∀i,(v.heap.setIfInBounds b o)[i]?=if b=i then some o else v.heap[i]?:=λi=>by
      rw[Array.getElem?_setIfInBounds];by_cases e' : b=i
      · subst e';simp[hl.1]
      · simp[e']
    have hw':∀i,(w.heap.setIfInBounds c o')[i]?=if c=i then some o' else w.heap[i]?:=λi=>by
      rw[Array.getElem?_setIfInBounds];by_cases e' : c=i
      · subst e';simp[hl.2]
      · simp[e']
    have hR := h.turn (v' := {v with heap := v.heap.setIfInBounds b o}) (w' := {w with heap := w.heap.setIfInBounds c o'}) hb ho hv' hw' ⟨rfl, rfl, rfl, rfl, rfl, rfl⟩;have nb : ∀cs e f, v.heap[b]?≠some (.cells cs e f) := λcs e f q => n1 cs e f (by rw[h1]at q; exact Y1 q);rw[e1, e2];refine Out.step (r₁ := r) (ns := #[⟨.obj c, true, false⟩]) ?_ (λev hm => ?_) (t _ _ hR _)
    · exact {
        le:=Ren.le_refl _,tapeV:=rfl,tapeW:=rfl,drawn:=⟨0,rfl,rfl⟩,os:=⟨rfl,rfl⟩
        sizeV:=by simp,sizeW:=by simp
        far:=λi _ hf2=>by
          show (w.heap.setIfInBounds c o')[i]?=_;rw[hw', if_neg (λe' : c=i => hf2 b (e'▸hb))]
        new:=λ_ _ hb2=>.inl hb2
        shut:=λi hi=>by
          show (v.heap.setIfInBounds b o)[i]?=_;rw[hv', if_neg (λe' : b=i => ?_)];obtain⟨cs, e, q⟩ := hi;exact nb _ _ _ (e'▸q)
        cells:=λi cs2 e2 f2 hi=>by
          show ∃cs' f', (v.heap.setIfInBounds b o)[i]?=_;rw[hv', if_neg (λe' : b=i => nb _ _ _ (e'▸hi))];exact⟨_, _, hi⟩
        farV:=λi _ hi=>by
          show (v.heap.setIfInBounds b o)[i]?=_;rw[hv', if_neg (λe' : b=i => by rw[e', hi]at hb; cases hb)]
        shutW:=λi j hi hj=>by
          show (w.heap.setIfInBounds c o')[j]?=_;rw[hw', if_neg (λe' : c=j => ?_)];obtain⟨cs, e, q⟩ := hi;exact nb _ _ _ (h.inj b i c hb (e'▸hj)▸q)
        par := λe => ⟨by simpa using e, λ_ _ hb => .inl hb, λi h1 h2 => by simp at h2; omega⟩ }
    · obtain rfl:=Array.mem_singleton.1 hm
      exact .inr (.inl ⟨_,_,b,rfl,hb,by simpa using hl.2,λ⟨cs,e,f,q⟩=>nb cs e f q⟩)
theorem ZgQ{b c:Nat}(h:WR C r v w)(hb:r b=some c): v.shape? b=w.shape? c:=by
 obtain⟨o,o',h1,h2,ho⟩:=h.on b c hb;cases ho with
 | cells q _=>simp only[World.shape?,h1,h2,q.1]
 | _=>simp only[World.shape?,h1,h2]
theorem WR.draw(h:WR C r v w):WR C r {v with drawn:=v.drawn+1} {w with drawn:=w.drawn+1}:=
 ⟨h.on,h.inj,λi q=>by
  have:=h.tape (1+i) q;simpa only[Nat.add_assoc] using this,h.env⟩
theorem Z5G(w:World):w.sys .env=(.strings w.os.env,w):=rfl
theorem SR.sim {α β:Type} {A:Ren->α->β->Prop} {s:Sem α} {s':Sem β} (k:SR Q P C A r s s'):∀(v w:World),WR C r v w->∀es,Out C A r v w es (s.run Q v) (s'.runT P w es):=by
  induction k with
  | @pure r a b q =>
    intro v w h es;refine⟨r, _, w, #[], ?_, h, q, Kept.refl _ _ _, by simp⟩;unfold Sem.runT;simp
  | load q _ ih=>exact λv w h es=>ZjA h q es λx x' hx es'=>ih _ (Ren.le_refl _) x x' hx v w h es'
  | store q hv _ ih=>exact λv w h es=>ZgT h q hv es λv' w' h' es'=>ih v' w' h' es'
  | new q _ ih=>exact λv w h es=>ZlI h q es λr' h' b c hb v' w' hw es'=>ih r' h' b c hb v' w' hw es'
  | shape q _ ih =>
    intro v w h es;simp only[Sem.run];unfold Sem.runT;rw[ZgQ h q];exact ih _ v w h es
  | getObj q _ ih=>exact λv w h es=>ZeG h q es λo o' ho es'=>ih _ (Ren.le_refl _) o o' ho v w h es'
  | setObj q ho hc _ ih=>exact λv w h es=>ZeM h q ho hc es λv' w' h' es'=>ih v' w' h' es'
  | @choose r q k k' _ ih =>
    intro v w h es;simp only[Sem.run];unfold Sem.runT;split
    · exact ih 0 v w h es
    · have e:v.tape v.drawn q=w.tape w.drawn q:=h.tape 0 q
      rw[e]
      have hk : Kept r r v { v with drawn := v.drawn + 1 } w { w with drawn := w.drawn + 1 } := {
        le:=Ren.le_refl _,tapeV:=rfl,tapeW:=rfl,drawn:=⟨1,rfl,rfl⟩,os:=⟨rfl,rfl⟩,sizeV:=Ye _,sizeW:=Ye _
        far := λ_ _ _ => rfl, new := λ_ _ hb => .inl hb, shut := λ_ _ => rfl, cells := λ_ _ _ _ hi => ⟨_, _, hi⟩, farV := λ_ _ _ => rfl, shutW := λ_ _ _ _ => rfl, par := λe => ⟨e, λ_ _ hb => .inl hb, λi h1 h2 => absurd h2 (by dsimp only; omega)⟩ }
      have := ih (q.cut (w.tape w.drawn q)) _ _ h.draw es;refine Out.step (ns := #[]) hk sU ?_;simpa using this
  | program _ ih =>
    intro v w h es;simp only[Sem.run];unfold Sem.runT;exact ih v w h es
  | @room r k k' _ ih =>
    intro v w h es;simp only[Sem.run];unfold Sem.runT;rw[Array.push_eq_append];refine Out.step (ns := #[⟨.mark .noRoom, false, true⟩]) (Kept.refl _ v w) (λev hm => ?_) (ih v w h _);exact .inr (.inr (.inl (Array.mem_singleton.1 hm)))
  | @env r k k' _ ih =>
    intro v w h es;simp only[Sem.run, Z5G];unfold Sem.runT;rw[Z5G, Array.push_eq_append, h.env];refine Out.step (ns := #[⟨.output, true, false⟩]) (Kept.refl _ v w) (λev hm => ?_) (ih _ v w h _);exact .inr (.inr (.inr (Array.mem_singleton.1 hm)))
  | @panic r x x' q =>
    intro v w h es;refine⟨r, x', w, #[], ?_, h, q, Kept.refl _ _ _, by simp⟩;unfold Sem.runT;simp
  | dead q =>
    intro v w h es;obtain⟨x, w', hr, hd⟩ := q v;rw[hr];exact Out.dies hd
end
end Lift
namespace Lift
open Go
def PF(P:Program)(F:Array Func):Program:={P with funcs:=F,globals:=#[]}
theorem ZdB(P:Program)(F:Array Func)(f:Nat)(t:TypeId):Made.infoAt (PF P F).toTables f t=Made.infoAt P.toTables f t:=by
 induction f generalizing t with
 | zero=>rfl
 | succ f ih =>
  have e:Made.infoAt (PF P F).toTables f=Made.infoAt P.toTables f:=funext ih;have e2:(PF P F).types=P.types:=rfl;simp only[Made.infoAt,e,e2]
theorem info_pf{P:Program}{F:Array Func}(t:TypeId): (PF P F).info? t=P.info? t:=by
 have e2:(PF P F).types=P.types:=rfl;unfold Tables.info?;simp only[ZdB,e2]
theorem under_pf{P:Program}{F:Array Func}(t:TypeId): (PF P F).underlying t=P.underlying t:=by
 unfold Program.underlying;simp only[info_pf]
theorem Z1v{P:Program}{F:Array Func}(t:TypeId): (PF P F).cellsOf t=P.cellsOf t:=by
 unfold Program.cellsOf;simp only[info_pf]
theorem Z2A{P:Program}{F:Array Func}(t:TypeId): (PF P F).bytesOf t=P.bytesOf t:=by
 unfold Program.bytesOf;simp only[info_pf]
theorem Z4E{P:Program}{F:Array Func}: (PF P F).depth=P.depth:=rfl
theorem Z66{P:Program}{F:Array Func}: (PF P F).globals=#[]:=rfl
variable[Jk]
def Z5T(v:Value):Prop:=∀r:Ren,VR r v v
abbrev EQ{α:Type}:Ren->α->α->Prop:=λ_ a b=>a=b
abbrev VA:Ren->Value->Value->Prop:=VR
def ZOk(P:Program)(t:TypeId):Prop:=∀i v,P.info? t=some i->i.zero=some v->Z5T v
section
variable{P:Program}{F:Array Func}{C:Inv}{r:Ren}{α β γ δ:Type}{A:Ren->α->β->Prop}{B:Ren->γ->δ->Prop}
theorem Z2{x:Sem α}{y:Sem β}{f:α->Sem γ}{g:β->Sem δ}(k:SR (PF P F) P C A r x y)(h:∀r',r.le r'->∀a b,A r' a b->SR (PF P F) P C B r' (f a) (g b)):
  SR (PF P F) P C B r (x >>= f) (y >>= g):=SR.bind k h
theorem Z1{y:Sem β}: SR (PF P F) P C A r (stuck why) y:=.dead λw=>⟨_,w,rfl,trivial⟩
theorem Zr{u:Unsupported}{y:Sem β}(h:∀g,u ≠ .initOrder g):SR (PF P F) P C A r (unsupported u) y:=.dead λw=>⟨_,w,rfl,by cases u<;>first | exact absurd rfl (h _) | trivial⟩
theorem Z18{f:Program->Sem γ}{g:Program->Sem δ}(h:SR (PF P F) P C B r (f (PF P F)) (g P)):SR (PF P F) P C B r (program >>= f) (program >>= g):=SR.program h
theorem Z3W{q:Question}{f:Nat->Sem γ}{g:Nat->Sem δ}(h:∀n,SR (PF P F) P C B r (f n) (g n)):SR (PF P F) P C B r (choose q >>= f) (choose q >>= g):=SR.choose h
theorem Ze: Dead (PF P F) (stuck why:Sem α):=λw=>⟨_,w,rfl,trivial⟩
theorem Zq{u:Unsupported}(h:∀g,u ≠ .initOrder g):Dead (PF P F) (unsupported u:Sem α):=λw=>⟨_,w,rfl,by cases u<;>first | exact absurd rfl (h _) | trivial⟩
theorem Z0G{t:TypeId}{f:TypeInfo->Sem γ}{g:TypeInfo->Sem δ}(h:∀i,P.info? t=some i->SR (PF P F) P C B r (f i) (g i)): SR (PF P F) P C B r (typeInfo t >>= f) (typeInfo t >>= g):=by
 refine SR.program ?_;show SR _ _ _ _ _ (Sem.bind (match (PF P F).info? t with | some i=>pure i | none=>stuck "no such type") f) (Sem.bind (match P.info? t with | some i=>pure i | none=>stuck "no such type") g);rw[info_pf];cases k:P.info? t with
 | none=>exact .dead (Ze.bind _)
 | some i=>exact h i k
theorem Zc{t:TypeId}{f:TypeDesc->Sem γ}{g:TypeDesc->Sem δ}(h:∀d,P.underlying t=some d->SR (PF P F) P C B r (f d) (g d)): SR (PF P F) P C B r (underlying t >>= f) (underlying t >>= g):=by
 refine SR.program ?_;show SR _ _ _ _ _ (Sem.bind (match (PF P F).underlying t with | some i=>pure i | none=>stuck "no such type") f) (Sem.bind (match P.underlying t with | some i=>pure i | none=>stuck "no such type") g);rw[under_pf];cases k:P.underlying t with
 | none=>exact .dead (Ze.bind _)
 | some i=>exact h i k
theorem Zy{t:TypeId}{f:Nat->Sem γ}{g:Nat->Sem δ}(h:∀n,SR (PF P F) P C B r (f n) (g n)): SR (PF P F) P C B r (sizeOf t >>= f) (sizeOf t >>= g):=by
 show SR _ _ _ _ _ ((typeInfo t >>= λi=>pure i.size) >>= f) ((typeInfo t >>= λi=>pure i.size) >>= g);simp only[bind_assoc,pure_bind];exact Z0G λi _=>h _
theorem Zbe{t:TypeId}{f:Bool->Sem γ}{g:Bool->Sem δ}(h:∀n,SR (PF P F) P C B r (f n) (g n)): SR (PF P F) P C B r (isAgg t >>= f) (isAgg t >>= g):=by
 unfold isAgg;simp only[bind_assoc];refine Zc λd _=>?_;cases d<;>simp only[pure_bind]<;>exact h _
theorem Z3h{t:TypeId}{f:Value->Sem γ}{g:Value->Sem δ}(hz:ZOk P t)(h:∀v,Z5T v->SR (PF P F) P C B r (f v) (g v)): SR (PF P F) P C B r (zeroValue t >>= f) (zeroValue t >>= g):=by
 unfold zeroValue;simp only[bind_assoc];refine Z0G λi hi=>?_;cases k:i.zero with
 | none=>exact .dead ((Zq sU).bind _)
 | some v=>simp only[pure_bind];exact h v (hz i v hi k)
theorem Z2r{t:TypeId}{xs ys:Array Value}(h:VRs r xs ys): SR (PF P F) P C AR r (newRow t xs) (newRow t ys):=
 SR.new (.cells h (.inl ⟨rfl,rfl⟩)) λr' _ b c hb=>.pure (.mk hb)
theorem Arr.one{α β:Type}{R:α->β->Prop}{x:α}{y:β}(h:R x y): Arr R #[x] #[y]:=Arr.nil.push h
theorem Arr.two{α β:Type}{R:α->β->Prop}{x x':α}{y y':β}(h:R x y)(k:R x' y'): Arr R #[x,x'] #[y,y']:=(Arr.one h).push k
theorem VR.cells{x y:Value}(h:VR r x y):VRs r x.cells y.cells:=by
 have h0:=h;cases h with
 | agg hs k=>exact⟨hs,k⟩
 | junk _ hn _ _ =>
  have:y.cells=#[y]:=by cases y<;>first | rfl | exact absurd rfl (hn _)
  rw[this];exact Arr.one h0
 | _=>exact Arr.one h0
theorem VRs.mono{s:Ren}(h:r.le s){xs ys:Array Value}(k:VRs r xs ys):VRs s xs ys:=k.imp λ_ _=>VR.mono h
theorem Z5z{t:TypeId}{x y:Value}(h:VR r x y): SR (PF P F) P C AR r (newVar t x) (newVar t y):=Z2r h.cells
theorem Z1K{x y:Value}(h:VR r x y): SR (PF P F) P C EQ r (asIntOf x) (asIntOf y):=by
 cases h<;>first | exact Z1 | exact Zr sU | exact .pure rfl
theorem Z3T{x y:Value}(h:VR r x y): SR (PF P F) P C EQ r (asInt x) (asInt y):=
 Z2 (Z1K h) λ_ _ a b e=>by subst e;exact .pure rfl
theorem Z5s{x y:Value}(h:VR r x y): SR (PF P F) P C EQ r (asBool x) (asBool y):=by
 cases h<;>first | exact Z1 | exact .pure rfl
theorem Z8X{x y:Int}{s:Bool}{c:BoundsCode}{α β:Type}{A:Ren->α->β->Prop}: SR (PF P F) P C A r (runtimePanic (.bounds x y s c)) (runtimePanic (.bounds x y s c)):=
 Z18 (.panic (.iface _ (.aggA ((((Arr.one (.int _ _)).push (.int _ _)).push (.bool _)).push (.int _ _)))))
theorem Z0v{m:String}{α β:Type}{A:Ren->α->β->Prop}: SR (PF P F) P C A r (runtimePanic (.error m)) (runtimePanic (.error m)):=Z18 (.panic (.iface _ (.string _)))
theorem ZgP{m:String}{α β:Type}{A:Ren->α->β->Prop}: SR (PF P F) P C A r (runtimePanic (.plain m)) (runtimePanic (.plain m)):=Z18 (.panic (.iface _ (.string _)))
theorem Z16{α β:Type}{A:Ren->α->β->Prop}: SR (PF P F) P C A r (runtimePanic .nilDeref) (runtimePanic .nilDeref):=Z18 (.panic (.iface _ (.string _)))
theorem ZI{k:IntKind}{x y:Int}{c:BoundsCode}{α β:Type}{A:Ren->α->β->Prop}: SR (PF P F) P C A r (boundsPanic k x y c) (boundsPanic k x y c):=by
 unfold boundsPanic;simp only[bind_assoc,pure_bind,map_eq_pure_bind];split
 ·exact Z3W λn=>Z8X
 ·exact Z8X
theorem Z8W{x y:Value}(h:VR r x y): SR (PF P F) P C AR r (asAddr x) (asAddr y):=by
 cases h<;>first | exact Z1 | exact Z16 | (rename_i q;exact .pure q)
theorem Z1a{x y:Value}(h:VR r x y): SR (PF P F) P C AR r (Instr.sureAddr x) (Instr.sureAddr y):=by
 cases h<;>first | exact Z1 | (rename_i q;exact .pure q)
theorem AR.add{a b:Addr}(h:AR r a b)(n:Nat):AR r (a.add n) (b.add n):=by
 cases h with
 | mk q =>
  unfold Addr.add;split
  ·exact .mk q
  ·exact .mk q
theorem Zbf{a b:Addr}(h:AR r a b): SR (PF P F) P C VA r (load a) (load b):=.load h λ_ _ _ _ hx=>.pure hx
theorem Za5{a b:Addr}(h:AR r a b)(n:Nat): ∀(i:Nat) (xs ys:Array Value),VRs r xs ys->SR (PF P F) P C VRs r (loadCellsFrom a i n xs) (loadCellsFrom b i n ys):=by
 induction n generalizing r with
 | zero=>exact λi xs ys k=>.pure k
 | succ n ih =>
  intro i xs ys k;exact Z2 (Zbf (h.add i)) λr' hr x y hx=>ih (h.mono hr) (i+1) _ _ ((VRs.mono hr k).push hx)
theorem Z4r{a b:Addr}(h:AR r a b)(n:Nat): SR (PF P F) P C VRs r (loadCells a n) (loadCells b n):=Za5 h n 0 _ _ .nil
theorem Z23{a b:Addr}{xs ys:List Value}(k:Lis (VR r) xs ys): AR r a b->∀i,SR (PF P F) P C EQ r (storeCells a xs i) (storeCells b ys i):=by
 induction k with
 | nil=>exact λ_ i=>.pure rfl
 | cons hx _ ih=>exact λh i=>.store (h.add i) hx (ih h (i+1))
theorem Z6u{t:TypeId}{a b:Addr}(h:AR r a b): SR (PF P F) P C VA r (loadVar t a) (loadVar t b):=by
 unfold loadVar;refine Zbe λn=>?_;split
 ·exact Zy λn=>Z2 (Z4r h n) λ_ _ xs ys k=>.pure (.aggA k)
 ·exact Zbf h
theorem Za7{t:TypeId}{a b:Addr}{x y:Value}(h:AR r a b)(hx:VR r x y): SR (PF P F) P C EQ r (storeVar t a x) (storeVar t b y):=by
 unfold storeVar;refine Zy λn=>?_;rw[hx.cells.1];split
 ·exact .dead (Ze.bind _)
 ·exact Z23 hx.cells.lis h 0
theorem Z17{t:TypeId}{xs ys:Array Value}(h:VRs r xs ys)(o:Nat): SR (PF P F) P C VA r (part t xs o) (part t ys o):=by
 unfold part;refine Zbe λn=>?_;split
 ·exact Zy λn=>.pure (.aggA (h.extract _ _))
 ·rcases h.get o with⟨a,b⟩ | ⟨x,y,a,b,k⟩
  ·rw[a];exact Z1
  ·rw[a,b];exact .pure k
theorem Z6p{n:Nat}: SR (PF P F) P C EQ r (askRoom n) (askRoom n):=by
 unfold askRoom;split
 ·exact .room (.pure rfl)
 ·exact .pure rfl
end
end Lift
section
open Go
def Qy.f187:Go.Func:=
{name:= "u",origin:= "",params:=#[85,90],resultTypes:=#[22],nfree:=0,ntmps:=14,
 results:=#[Go.ResultVar.tmp 8],
 body:=
  some
   ((Go.Code.region 0
    #[{ dst:=some 2,op:=Go.Op.box 85 (Go.Operand.tmp 0),type:=0,pos:= "",after:=#[],guard:=none },
     { dst:=some 3,op:=Go.Op.fieldAddr 85 (Go.Operand.tmp 2) 0,type:=0,pos:= "",after:=#[{ on:=0,ground:=Go.Ground.data }],guard:=none },
     { dst:=some 4,op:=Go.Op.fieldAddr 27 (Go.Operand.tmp 3) 2,type:=0,pos:= "",after:=#[{ on:=1,ground:=Go.Ground.data }],guard:=none },
     { dst:=some 5,op:=Go.Op.load 25 (Go.Operand.tmp 4),type:=25,pos:= "",after:=#[{ on:=2,ground:=Go.Ground.data }],guard:=none },
     { dst:=some 6,op:=(Go.Op.call { callee:=Go.Callee.builtin Go.Builtin.len,args:=#[(Go.Operand.tmp 5)],argTypes:=#[25] }),type:=3,pos:= "",after:=#[{ on:=3,ground:=Go.Ground.data }],guard:=none },
     { dst:=some 7,op:=Go.Op.move (Go.Operand.const (Go.Value.int Go.IntKind.i64 0)),type:=3,pos:= "",after:=#[],guard:=none },
     { dst:=some 8,op:=Go.Op.assign (Go.Operand.const (Go.Value.slice none 0 0)),type:=22,pos:= "",after:=#[],guard:=none }]
    false).seq
  ((Go.Code.block 0 (Go.Code.loop ((Go.Code.region 1
    #[{ dst:=some 9,op:=Go.Op.binOp Go.BinOp.lss 3 (Go.Operand.tmp 7) (Go.Operand.tmp 6) 3,type:=4,pos:= "",after:=#[],guard:=none }]
    false).seq
  ((Go.Code.cond (Go.Operand.tmp 9) Go.Code.skip (Go.Code.exit 0)).seq
  ((Go.Code.region 2
    #[{ dst:=some 10,op:=(Go.Op.call { callee:=Go.Callee.value (Go.Operand.tmp 1),args:=#[(Go.Operand.tmp 7)],argTypes:=#[3] }),type:=4,pos:= "",after:=#[],guard:=none }]
    false).seq
  ((Go.Code.cond (Go.Operand.tmp 10) (Go.Code.region 3
    #[{ dst:=some 11,op:=Go.Op.buildSlice 22 1 #[(0,(Go.Operand.tmp 7))],type:=22,pos:= "",after:=#[],guard:=none },
     { dst:=some 12,op:=(Go.Op.call { callee:=Go.Callee.builtin Go.Builtin.append,args:=#[(Go.Operand.tmp 8),(Go.Operand.tmp 11)],argTypes:=#[22,22] }),type:=22,pos:= "",after:=#[{ on:=0,ground:=Go.Ground.data }],guard:=none },
     { dst:=some 8,op:=Go.Op.assign (Go.Operand.tmp 12),type:=22,pos:= "",after:=#[{ on:=1,ground:=Go.Ground.data }],guard:=none }]
    false) Go.Code.skip).seq
  (Go.Code.region 4
    #[{ dst:=some 13,op:=Go.Op.binOp Go.BinOp.add 3 (Go.Operand.tmp 7) (Go.Operand.const (Go.Value.int Go.IntKind.i64 1)) 3,type:=3,pos:= "",after:=#[],guard:=none },
     { dst:=some 7,op:=Go.Op.move (Go.Operand.tmp 13),type:=3,pos:= "",after:=#[{ on:=0,ground:=Go.Ground.data }],guard:=none }]
    false))))))).seq
  Go.Code.ret)),
 norace:=false,tmpNames:=#[] }
def Qy.f188:Go.Func:=
{name:= "s",origin:= "",params:=#[27,22,22],resultTypes:=#[22,30],nfree:=0,ntmps:=13,
 results:=#[Go.ResultVar.tmp 11,Go.ResultVar.tmp 10],
 body:=
  some
   ((Go.Code.region 0
    #[{ dst:=some 3,op:=Go.Op.buildSlice 22 7 #[],type:=22,pos:= "",after:=#[],guard:=none },
     { dst:=some 4,op:=(Go.Op.call { callee:=Go.Callee.builtin Go.Builtin.append,args:=#[(Go.Operand.const (Go.Value.slice none 0 0)),(Go.Operand.tmp 3)],argTypes:=#[22,22] }),type:=22,pos:= "",after:=#[{ on:=0,ground:=Go.Ground.data }],guard:=none },
     { dst:=some 5,op:=(Go.Op.call { callee:=Go.Callee.builtin Go.Builtin.cap,args:=#[(Go.Operand.tmp 4)],argTypes:=#[22] }),type:=3,pos:= "",after:=#[{ on:=1,ground:=Go.Ground.data }],guard:=none },
     { dst:=some 6,op:=Go.Op.binOp Go.BinOp.lss 3 (Go.Operand.const (Go.Value.int Go.IntKind.i64 7)) (Go.Operand.tmp 5) 3,type:=4,pos:= "",after:=#[{ on:=2,ground:=Go.Ground.data }],guard:=none }]
    false).seq
  ((Go.Code.cond (Go.Operand.tmp 6) (Go.Code.region 1
    #[{ dst:=some 7,op:=Go.Op.makeFunc (Go.Fn.func 26) #[(Go.Operand.tmp 0),(Go.Operand.tmp 1),(Go.Operand.tmp 2)] #[],type:=0,pos:= "",after:=#[],guard:=none },
     { dst:=some 12,op:=Go.Op.makeInterface 90 (Go.Operand.tmp 7),type:=0,pos:= "",after:=#[{ on:=0,ground:=Go.Ground.data }],guard:=none },
     { dst:=none,op:=Go.Op.panic (Go.Operand.tmp 12),type:=0,pos:= "",after:=#[{ on:=1,ground:=Go.Ground.data }],guard:=none }]
    false) Go.Code.skip).seq
  ((Go.Code.region 2
    #[{ dst:=some 8,op:=(Go.Op.call { callee:=Go.Callee.value (Go.Operand.func 185),args:=#[(Go.Operand.tmp 0),(Go.Operand.tmp 1),(Go.Operand.tmp 2)],argTypes:=#[27,22,22] }),type:=0,pos:= "",after:=#[],guard:=none },
     { dst:=some 9,op:=Go.Op.extract (Go.Operand.tmp 8) 0,type:=22,pos:= "",after:=#[{ on:=0,ground:=Go.Ground.data }],guard:=none },
     { dst:=some 10,op:=Go.Op.extract (Go.Operand.tmp 8) 1,type:=30,pos:= "",after:=#[{ on:=0,ground:=Go.Ground.data }],guard:=none },
     { dst:=some 11,op:=(Go.Op.call { callee:=Go.Callee.builtin Go.Builtin.append,args:=#[(Go.Operand.const (Go.Value.slice none 0 0)),(Go.Operand.tmp 9)],argTypes:=#[22,22] }),type:=22,pos:= "",after:=#[{ on:=1,ground:=Go.Ground.data }],guard:=none }]
    false).seq
  Go.Code.ret))),
 norace:=false,tmpNames:=#[] }
def Qy.f189:Go.Func:=
{name:= "s",origin:= "",params:=#[27,22,22],resultTypes:=#[22,30],nfree:=0,ntmps:=13,
 results:=#[Go.ResultVar.tmp 11,Go.ResultVar.tmp 10],
 body:=
  some
   ((Go.Code.region 0
    #[{ dst:=some 3,op:=Go.Op.buildSlice 22 7 #[],type:=22,pos:= "",after:=#[],guard:=none },
     { dst:=some 4,op:=(Go.Op.call { callee:=Go.Callee.builtin Go.Builtin.append,args:=#[(Go.Operand.const (Go.Value.slice none 0 0)),(Go.Operand.tmp 3)],argTypes:=#[22,22] }),type:=22,pos:= "",after:=#[{ on:=0,ground:=Go.Ground.data }],guard:=none },
     { dst:=some 5,op:=(Go.Op.call { callee:=Go.Callee.builtin Go.Builtin.cap,args:=#[(Go.Operand.tmp 4)],argTypes:=#[22] }),type:=3,pos:= "",after:=#[{ on:=1,ground:=Go.Ground.data }],guard:=none },
     { dst:=some 6,op:=Go.Op.binOp Go.BinOp.lss 3 (Go.Operand.const (Go.Value.int Go.IntKind.i64 7)) (Go.Operand.tmp 5) 3,type:=4,pos:= "",after:=#[{ on:=2,ground:=Go.Ground.data }],guard:=none }]
    false).seq
  ((Go.Code.cond (Go.Operand.tmp 6) (Go.Code.region 1
    #[{ dst:=some 7,op:=Go.Op.makeFunc (Go.Fn.func 15) #[(Go.Operand.tmp 0),(Go.Operand.tmp 1),(Go.Operand.tmp 2)] #[],type:=0,pos:= "",after:=#[],guard:=none },
     { dst:=some 12,op:=Go.Op.makeInterface 90 (Go.Operand.tmp 7),type:=0,pos:= "",after:=#[{ on:=0,ground:=Go.Ground.data }],guard:=none },
     { dst:=none,op:=Go.Op.panic (Go.Operand.tmp 12),type:=0,pos:= "",after:=#[{ on:=1,ground:=Go.Ground.data }],guard:=none }]
    false) Go.Code.skip).seq
  ((Go.Code.region 2
    #[{ dst:=some 8,op:=(Go.Op.call { callee:=Go.Callee.value (Go.Operand.func 186),args:=#[(Go.Operand.tmp 0),(Go.Operand.tmp 1),(Go.Operand.tmp 2)],argTypes:=#[27,22,22] }),type:=0,pos:= "",after:=#[],guard:=none },
     { dst:=some 9,op:=Go.Op.extract (Go.Operand.tmp 8) 0,type:=22,pos:= "",after:=#[{ on:=0,ground:=Go.Ground.data }],guard:=none },
     { dst:=some 10,op:=Go.Op.extract (Go.Operand.tmp 8) 1,type:=30,pos:= "",after:=#[{ on:=0,ground:=Go.Ground.data }],guard:=none },
     { dst:=some 11,op:=(Go.Op.call { callee:=Go.Callee.builtin Go.Builtin.append,args:=#[(Go.Operand.const (Go.Value.slice none 0 0)),(Go.Operand.tmp 9)],argTypes:=#[22,22] }),type:=22,pos:= "",after:=#[{ on:=1,ground:=Go.Ground.data }],guard:=none }]
    false).seq
  Go.Code.ret))),
 norace:=false,tmpNames:=#[] }
def Qy.fx:Go.Func:={ name:= "x",origin:= "",params:=#[],resultTypes:=#[],nfree:=0,ntmps:=0,results:=#[],body:=none,norace:=false,tmpNames:=#[] }
def Qy.by(μ:Nat)(a b c:Go.Func):Go.Func:=match μ with
 | 0=>a
 | 1=>b
 | _=>c
def Qy.own:List Nat:=[12,13,14,16,17,18,19,20,21,22,23,24,25,27,28,29,30,31,32,33,34,35,36,37,38,39,40,41,42,43,44,45,46,47,48,49,50,51,52,53,54,55,56,58,59,60,61,62,63,64,65,67,68,69,70,71,72,73,74,75,76,77,78,79,80,81,82,83,84,85,86,87,88,89,90,91,92,93,94,95,96,97,98,99,100,101,102,103,104,105,106,107,108,109,110,111,118,119,120,121,122,123,124,125,126,127,148,149,159,167]
noncomputable def Qy.spec(μ k:Nat):Go.Func:=
 if k==66 then Qy.by μ Qy.f187 Qy.fx Tryz.f66
 else if k==26 then Qy.by μ Qy.f188 Tryz.f26 Qy.fx
 else if k==15 then Qy.by μ Qy.f189 Tryz.f15 Qy.fx
 else if ([3,4,5,6,7,8,9,10,11]:List Nat).elem k then Qy.by μ ((Tryz.prog.funcs[k]?).getD Qy.fx) Qy.fx Qy.fx
 else if k==185 then Tryz.f26
 else if k==186 then Tryz.f15
 else Qy.fx
noncomputable def Qy.ent(μ k:Nat):Go.Func:=if Qy.own.elem k then(Tryz.prog.funcs[k]?).getD Qy.fx else Qy.spec μ k
noncomputable def Qy.F(μ:Nat):Array Go.Func:=((List.range 187).map (Qy.ent μ)).toArray
noncomputable def Qy.prog(μ:Nat):Program:=Lift.PF Tryz.prog (Qy.F μ)
theorem Qy.own_lt:Qy.own.all (λk=>decide (k<185))=true:=kR
theorem Qy.F_get(μ k:Nat)(h:k<187):(Qy.F μ)[k]?=some (Qy.ent μ k):=by
 unfold Qy.F;simp[h]
theorem Qy.same(μ k:Nat)(h:k∈Qy.own):(Qy.F μ)[k]?=Tryz.prog.funcs[k]?:=by
 have h1:=of_decide_eq_true (Yl.1 Qy.own_lt k h);rw[Qy.F_get μ k oM];have h2:k<Tryz.prog.funcs.size:=Nat.lt_of_lt_of_eq h1 kR;unfold Qy.ent;rw[if_pos (List.elem_eq_true_of_mem h),Y2 h2];rfl
theorem Z6P {P:Program} {f:FuncId} {fn:Func} {c:Code} (h:P.funcs[f]?=some fn) (hb:fn.body=some c) (hn:(fn.name == "runtime.NumGoroutine")=false) (args:Array Value) (w:World): (callFunc f args).run P w = .ok (.enter f args) w:=by
 have e3:∀(Z:Program->Sem Next),(program >>= Z).run P w=(Z P).run P w:=λZ=>rfl;unfold callFunc;rw[e3];simp only[h,hb,hn];rfl
theorem zvF{P:Program}{F:Array Func}(t:TypeId)(w:World){v:Value}(h:(zeroValue t).run P w = .ok v w): (zeroValue t).run (Lift.PF P F) w = .ok v w:=by
 have e3:∀(Q:Program) (Z:Program->Sem Value),(program >>= Z).run Q w=(Z Q).run Q w:=λQ Z=>rfl;unfold zeroValue typeInfo at h⊢;simp only[bind_assoc]at h⊢;rw[e3]at h⊢;rw[Lift.info_pf];cases e:P.info? t with
 | none=>rw[e]at h;cases h
 | some i =>
  rw[e]at h;simp only[pure_bind]at h⊢;cases ez:i.zero with
  | none=>rw[ez]at h;cases h
  | some z=>rw[ez]at h;exact h
theorem unP{μ t:Nat}{d:TypeDesc}(h:Tryz.prog.underlying t=some d):(Qy.prog μ).underlying t=some d:=(Lift.under_pf (P:=Tryz.prog) (F:=Qy.F μ) t).trans h
theorem zvP{μ t:Nat}{v:Value}(h:∀w:World,(zeroValue t).run Tryz.prog w = .ok v w):∀w:World,(zeroValue t).run (Qy.prog μ) w = .ok v w:=λw=>zvF (F:=Qy.F μ) t w (h w)
abbrev Qy.Cl(μ k:Nat):Prop:=∀(args:Array Value) (w:World),(callFunc k args).run (Qy.prog μ) w = .ok (.enter k args) w
section
variable{μ:Nat}
theorem Qy.func63:(Qy.prog μ).funcs[63]?=some Tryz.f63:=kR
theorem Qy.call63:Qy.Cl μ 63:=Z6P Qy.func63 rfl kR
theorem Qy.func73:(Qy.prog μ).funcs[73]?=some Tryz.f73:=kR
theorem Qy.call73:Qy.Cl μ 73:=Z6P Qy.func73 rfl kR
theorem Qy.func79:(Qy.prog μ).funcs[79]?=some Tryz.f79:=kR
theorem Qy.call79:Qy.Cl μ 79:=Z6P Qy.func79 rfl kR
theorem Qy.func80:(Qy.prog μ).funcs[80]?=some Tryz.f80:=kR
theorem Qy.call80:Qy.Cl μ 80:=Z6P Qy.func80 rfl kR
theorem Qy.func100:(Qy.prog μ).funcs[100]?=some Tryz.f100:=kR
theorem Qy.call100:Qy.Cl μ 100:=Z6P Qy.func100 rfl kR
theorem Qy.func102:(Qy.prog μ).funcs[102]?=some Tryz.f102:=kR
theorem Qy.call102:Qy.Cl μ 102:=Z6P Qy.func102 rfl kR
theorem Qy.func126:(Qy.prog μ).funcs[126]?=some Tryz.f126:=kR
theorem Qy.call126:Qy.Cl μ 126:=Z6P Qy.func126 rfl kR
theorem Qy.func127:(Qy.prog μ).funcs[127]?=some Tryz.f127:=kR
theorem Qy.call127:Qy.Cl μ 127:=Z6P Qy.func127 rfl kR
theorem Qy.func185:(Qy.prog μ).funcs[185]?=some Tryz.f26:=kR
theorem Qy.call185:Qy.Cl μ 185:=Z6P Qy.func185 rfl kR
theorem Qy.func66:(Qy.prog 0).funcs[66]?=some Qy.f187:=kR
theorem Qy.own66:(Qy.prog 2).funcs[66]?=some Tryz.f66:=kR
theorem Qy.own26:(Qy.prog 1).funcs[26]?=some Tryz.f26:=kR
theorem Qy.func26:(Qy.prog 0).funcs[26]?=some Qy.f188:=kR
theorem Qy.underlying3:type_of% (@unP μ 3 _ Tryz.underlying3):=unP Tryz.underlying3
theorem Qy.zeroValue3:type_of% (@zvP μ 3 _ Tryz.zeroValue3):=zvP Tryz.zeroValue3
theorem Qy.underlying4:type_of% (@unP μ 4 _ Tryz.underlying4):=unP Tryz.underlying4
theorem Qy.underlying5:type_of% (@unP μ 5 _ Tryz.underlying5):=unP Tryz.underlying5
theorem Qy.underlying9:type_of% (@unP μ 9 _ Tryz.underlying9):=unP Tryz.underlying9
theorem Qy.underlying22:type_of% (@unP μ 22 _ Tryz.underlying22):=unP Tryz.underlying22
theorem Qy.zeroValue22:type_of% (@zvP μ 22 _ Tryz.zeroValue22):=zvP Tryz.zeroValue22
theorem Qy.underlying25:type_of% (@unP μ 25 _ Tryz.underlying25):=unP Tryz.underlying25
theorem Qy.underlying27:type_of% (@unP μ 27 _ Tryz.underlying27):=unP Tryz.underlying27
theorem Qy.zeroValue27:type_of% (@zvP μ 27 _ Tryz.zeroValue27):=zvP Tryz.zeroValue27
theorem Qy.underlying30:type_of% (@unP μ 30 _ Tryz.underlying30):=unP Tryz.underlying30
theorem Qy.zeroValue30:type_of% (@zvP μ 30 _ Tryz.zeroValue30):=zvP Tryz.zeroValue30
theorem Qy.underlying75:type_of% (@unP μ 75 _ Tryz.underlying75):=unP Tryz.underlying75
theorem Qy.underlying85:type_of% (@unP μ 85 _ Tryz.underlying85):=unP Tryz.underlying85
theorem Qy.zeroValue85:type_of% (@zvP μ 85 _ Tryz.zeroValue85):=zvP Tryz.zeroValue85
theorem Qy.underlying88:type_of% (@unP μ 88 _ Tryz.underlying88):=unP Tryz.underlying88
theorem Qy.zeroValue88:type_of% (@zvP μ 88 _ Tryz.zeroValue88):=zvP Tryz.zeroValue88
theorem Qy.underlying93:type_of% (@unP μ 93 _ Tryz.underlying93):=unP Tryz.underlying93
theorem Qy.zeroValue93:type_of% (@zvP μ 93 _ Tryz.zeroValue93):=zvP Tryz.zeroValue93
theorem Qy.zeroValue97:type_of% (@zvP μ 97 _ Tryz.zeroValue97):=zvP Tryz.zeroValue97
theorem Qy.underlying113:type_of% (@unP μ 113 _ Tryz.underlying113):=unP Tryz.underlying113
theorem Qy.underlying116:type_of% (@unP μ 116 _ Tryz.underlying116):=unP Tryz.underlying116
theorem Qy.zeroValue116:type_of% (@zvP μ 116 _ Tryz.zeroValue116):=zvP Tryz.zeroValue116
theorem Qy.underlying123:type_of% (@unP μ 123 _ Tryz.underlying123):=unP Tryz.underlying123
theorem Qy.zeroValue125:type_of% (@zvP μ 125 _ Tryz.zeroValue125):=zvP Tryz.zeroValue125
theorem Qy.zeroValue129:type_of% (@zvP μ 129 _ Tryz.zeroValue129):=zvP Tryz.zeroValue129
theorem Qy.underlying135:type_of% (@unP μ 135 _ Tryz.underlying135):=unP Tryz.underlying135
theorem Qy.zeroValue135:type_of% (@zvP μ 135 _ Tryz.zeroValue135):=zvP Tryz.zeroValue135
theorem Qy.zeroValue146:type_of% (@zvP μ 146 _ Tryz.zeroValue146):=zvP Tryz.zeroValue146
theorem Qy.zeroValue150:type_of% (@zvP μ 150 _ Tryz.zeroValue150):=zvP Tryz.zeroValue150
theorem Qy.underlying151:type_of% (@unP μ 151 _ Tryz.underlying151):=unP Tryz.underlying151
theorem Qy.zeroValue151:type_of% (@zvP μ 151 _ Tryz.zeroValue151):=zvP Tryz.zeroValue151
theorem Qy.underlying157:type_of% (@unP μ 157 _ Tryz.underlying157):=unP Tryz.underlying157
theorem Qy.zeroValue157:type_of% (@zvP μ 157 _ Tryz.zeroValue157):=zvP Tryz.zeroValue157
theorem Qy.underlying160:type_of% (@unP μ 160 _ Tryz.underlying160):=unP Tryz.underlying160
theorem Qy.underlying161:type_of% (@unP μ 161 _ Tryz.underlying161):=unP Tryz.underlying161
theorem Qy.zeroValue161:type_of% (@zvP μ 161 _ Tryz.zeroValue161):=zvP Tryz.zeroValue161
theorem Qy.laid:laidOutB (Qy.prog μ)=true:=by
 match μ with
 | 0=>show laidOutB (Qy.prog 0)=true;kernel_rfl
 | 1=>show laidOutB (Qy.prog 1)=true;kernel_rfl
 | n+2=>show laidOutB (Qy.prog (n+2))=true;kernel_rfl
end
end
namespace Lift
open Go
variable[Jk]
section
variable{P:Program}{F:Array Func}{C:Inv}{r:Ren}{α β γ δ:Type}{A:Ren->α->β->Prop}{B:Ren->γ->δ->Prop}
theorem Zu{p:Prop}[Decidable p]{x x':Sem α}{y y':Sem β}(h:p->SR (PF P F) P C A r x y)(k:¬p->SR (PF P F) P C A r x' y'): SR (PF P F) P C A r (if p then x else x') (if p then y else y'):=by
 by_cases q:p
 ·rw[if_pos q,if_pos q];exact h q
 ·rw[if_neg q,if_neg q];exact k q
theorem VR.arr1{v:Value}(h:Z5T v): VRs r v.cells v.cells:=(h r).cells
theorem vr_get!{xs ys:Array Value}(h:VRs r xs ys)(i:Nat): VR r xs[i]! ys[i]!:=by
 rcases h.get i with⟨a,b⟩ | ⟨x,y,a,b,k⟩
 ·rw[getElem!_def,getElem!_def,a,b];exact .bool _
 ·rw[getElem!_def,getElem!_def,a,b];exact k
theorem Z5L(h:VRs r z z)(n:Nat): VRs r ((Array.range n).map (z[· % z.size]!)) ((Array.range n).map (z[· % z.size]!)):=by
 refine Arr.map (R:=λa b=>a=b) ⟨rfl,λi x y a b=>?_⟩ λx y e=>?_
 ·rw[a]at b;exact Y1 b
 ·subst e;exact vr_get! h _
theorem Z82(h:VRs r z z)(n:Nat): VRs r (Builtin.zeroCells z n) (Builtin.zeroCells z n):=by
 unfold Builtin.zeroCells;refine Arr.map (R:=λa b=>a=b) ⟨rfl,λi x y a b=>?_⟩ λx y e=>?_
 ·rw[a]at b;exact Y1 b
 ·subst e;exact vr_get! h _
theorem ZgE{t:TypeId}(hz:ZOk P t): SR (PF P F) P C VA r (Instr.alloc t true (.tuple #[])) (Instr.alloc t true (.tuple #[])):=by
 unfold Instr.alloc;refine Z3h hz λv hv=>?_;exact Z2 (Z5z (hv r)) λ_ _ a b h=>.pure (.ptr h)
theorem ZlC{t:TypeId}{x y:Value}(h:VR r x y): SR (PF P F) P C VA r (Instr.box t x) (Instr.box t y):=
 Z2 (Z5z h) λ_ _ a b h=>.pure (.ptr h)
def PaR(r:Ren)(p q:Nat×Value):Prop:=p.1=q.1/\VR r p.2 q.2
theorem ZjX{xs ys:Array Value}(off:Nat): ∀(zs ws:List (Value×Nat)) (us vs:Array Value),Lis (λp q=>VR r p.1 q.1/\p.2=q.2) zs ws->VRs r us vs ->
  VRs r (zs.foldl (λcs (c,j)=>cs.setIfInBounds (off+j) c) us) (ws.foldl (λcs (c,j)=>cs.setIfInBounds (off+j) c) vs):=by
 intro zs ws us vs h
 induction h generalizing us vs with
 | nil=>exact λk=>k
 | @cons x y xs ys hx _ ih =>
  intro k;obtain⟨x1,x2⟩:=x;obtain⟨y1,y2⟩:=y;obtain⟨h1,rfl⟩:=hx;exact ih _ _ (k.set _ h1)
theorem ZiS{xs ys:List Value}(h:Lis (VR r) xs ys)(n:Nat): Lis (λp q=>VR r p.1 q.1/\p.2=q.2) (xs.zipIdx n) (ys.zipIdx n):=by
 induction h generalizing n with
 | nil=>exact .nil
 | cons a _ ih=>exact .cons ⟨a,rfl⟩ (ih _)
theorem Zha{x y:Value}(h:VR r x y)(off:Nat){us vs:Array Value}(k:VRs r us vs):
  VRs r (x.cells.zipIdx.foldl (λcs (c,j)=>cs.setIfInBounds (off+j) c) us) (y.cells.zipIdx.foldl (λcs (c,j)=>cs.setIfInBounds (off+j) c) vs):=by
 rw[<-Array.foldl_toList,<-Array.foldl_toList];refine ZjX (xs:=us) (ys:=vs) off _ _ _ _ ?_ k;have:=ZiS h.cells.lis 0;simpa using this
theorem Z7f{place:Nat->Option (Nat×Nat)}{ps qs:List (Nat×Value)}(h:Lis (PaR r) ps qs): ∀{us vs:Array Value},VRs r us vs ->
  (Instr.fill place us ps=none/\Instr.fill place vs qs=none)\/∃a b,Instr.fill place us ps=some a/\Instr.fill place vs qs=some b/\VRs r a b:=by
 induction h with
 | nil=>exact λk=>.inr ⟨_,_,rfl,rfl,k⟩
 | @cons x y xs ys hx _ ih =>
  intro us vs k;obtain⟨i,x⟩:=x;obtain⟨j,y⟩:=y;obtain⟨e,hx⟩:=hx;obtain rfl:i=j:=e;have hx:VR r x y:=hx;unfold Instr.fill;cases place i with
  | none=>exact .inl ⟨rfl,rfl⟩
  | some p =>
   simp only[hx.cells.1,k.1];split
   ·exact .inl ⟨rfl,rfl⟩
   ·exact ih (Zha hx _ k)
theorem Zc9 (fs:List Field) {f g} (h:∀xs:List (Nat×Nat),SR (PF P F) P C B r (f xs) (g xs)) :
    SR (PF P F) P C B r ((fs.mapM λx => (do pure (x.offset, <- sizeOf x.type) : Sem (Nat × Nat))) >>= f) ((fs.mapM λx => (do pure (x.offset, <- sizeOf x.type) : Sem (Nat × Nat))) >>= g) := by
  induction fs generalizing f g with
  | nil=>simp only[List.mapM_nil,pure_bind];exact h _
  | cons x fs ih =>
    simp only[List.mapM_cons, bind_assoc, pure_bind];refine Zy λn => ?_;exact ih λxs => h _
theorem ZgG{t:TypeId}(hz:ZOk P t){ps qs:Array (Nat×Value)}(h:Arr (PaR r) ps qs): SR (PF P F) P C VA r (Instr.build t ps) (Instr.build t qs):=by
 unfold Instr.build;refine Z3h hz λv hv=>?_;refine Zc λd _=>?_;cases d<;>try exact Z1
 ·rename_i len elem _;refine Zy λn=>?_;rcases Z7f (place:=λi=>some (i*n,n)) h.lis (VR.arr1 (r:=r) hv) with⟨a,b⟩ | ⟨x,y,a,b,k⟩
  ·simp only[a];exact Z1
  ·simp only[a,b];exact .pure (.aggA k)
 ·rename_i fields _;simp only[Array.mapM_eq_mapM_toList,map_eq_pure_bind,bind_assoc,pure_bind];refine Zc9 fields.toList λxs=>?_;rcases Z7f (place:=λi=>xs.toArray[i]?) h.lis (VR.arr1 (r:=r) hv) with⟨a,b⟩ | ⟨x,y,a,b,k⟩
  ·simp only[a];exact Z1
  ·simp only[a,b];exact .pure (.aggA k)
theorem Z7I {t:TypeId} (hz:∀e,P.underlying t=some (.slice e)->ZOk P e) {n:Nat} {ps qs:Array (Nat×Value)} (h:Arr (PaR r) ps qs):SR (PF P F) P C VA r (Instr.buildSlice t n ps) (Instr.buildSlice t n qs):=by
  unfold Instr.buildSlice;refine Zc λd hd => ?_;cases d<;>try exact Z1
  rename_i elem;refine Zy λm => ?_;have key : ∀z : Array Value, VRs r z z->SR (PF P F) P C VA r
      (match Instr.fill (λi=>some (i*m,m)) ((Array.range (n*m)).map (z[· % z.size]!)) ps.toList with
        | some cells => do pure (.slice (some (<- newRow elem cells)) n n)
        | _=>stuck "buildSlice: a part of the wrong size")
      (match Instr.fill (λi=>some (i*m,m)) ((Array.range (n*m)).map (z[· % z.size]!)) qs.toList with
        | some cells => do pure (.slice (some (<- newRow elem cells)) n n)
        | _=>stuck "buildSlice: a part of the wrong size"):=by
    intro z hz;rcases Z7f (place := λi => some (i*m, m)) h.lis (Z5L hz (n*m)) with⟨a, b⟩ | ⟨x, y, a, b, k⟩
    · simp only[a];exact Z1
    · simp only[a,b]
      exact Z2 (Z2r k) λ_ _ a b h=>.pure (.sl _ _ h)
  simp only[bind_assoc, pure_bind];refine Zu (λ_ => .dead ((Zq sU).bind _)) λ_ => ?_;refine Zu (λ_ => key _ .nil) λ_ => ?_;exact Z3h (hz _ hd) λv hv => key _ (VR.arr1 hv)
theorem ZeI{t:TypeId}{x y:Value}(h:VR r x y): SR (PF P F) P C VA r (Instr.loadAt t x) (Instr.loadAt t y):=
 Z2 (Z1a h) λ_ _ a b k=>Z6u k
theorem Zcb{t:TypeId}{x y u v:Value}(h:VR r x y)(hv:VR r u v): SR (PF P F) P C EQ r (Instr.storeAt t x u) (Instr.storeAt t y v):=
 Z2 (Z1a h) λ_ hr a b k=>Za7 k (hv.mono hr)
theorem Z92{b c:Nat}(h:r b=some c){f:Option (Addr×TypeId)->Sem γ}{g:Option (Addr×TypeId)->Sem δ}(k:∀r',r.le r'->SR (PF P F) P C B r' (f none) (g none)): SR (PF P F) P C B r (viewAt b >>= f) (viewAt c >>= g):=by
 unfold viewAt;simp only[bind_assoc];refine SR.shape h λs=>?_;cases s with
 | some s=>exact k r (Ren.le_refl _)
 | none =>
  refine SR.getObj h λr' hr o o' ho=>?_;cases ho<;>exact k r' hr
theorem ZeK{a b:Addr}(h:AR r a b){f:Unit->Sem γ}{g:Unit->Sem δ}(k:∀r',r.le r'->SR (PF P F) P C B r' (f ()) (g ())): SR (PF P F) P C B r (noView a >>= f) (noView b >>= g):=by
 cases h with
 | mk h =>
 unfold noView;simp only[bind_assoc];exact Z92 h λr' hr=>k r' hr
theorem Z3n(d:Nat)(t:TypeId)(o:Nat):byteOfCell (PF P F) d t o=byteOfCell P d t o:=by
 induction d generalizing t o with
 | zero=>rfl
 | succ d ih=>
  simp only[byteOfCell,under_pf,Z1v,Z2A,ih]
theorem Z5t{a b:Addr}(h:AR r a b): SR (PF P F) P C EQ r (byteOf a) (byteOf b):=by
 have h0:=h;cases h with
 | @mk b c o s h =>
 unfold byteOf;cases s with
 | some s=>exact .pure rfl
 | none =>
  simp only[pure_bind,bind_assoc];refine Z18 ?_;refine ZeK h0 λr' hr=>?_;refine SR.shape (hr.1 _ _ h) λs=>?_;cases s with
  | none=>exact Z1
  | some s =>
   simp only[Z3n,Z1v,Z2A,Z4E];refine Zu ?_ ?_
   ·exact λ_=>.pure rfl
   ·intro _;cases byteOfCell P P.depth s.1 (o % P.cellsOf s.1) with
    | none=>exact Z1
    | some x=>exact .pure rfl
theorem ZeL{a b:Addr}(h:AR r a b)(n m:Nat): SR (PF P F) P C AR r (partAt a n m) (partAt b n m):=by
 unfold partAt;refine Z2 (Z5t h) ?_;rintro r' hr x _ rfl;have hp:AR r' {block:=a.block,off:=a.off+n} {block:=b.block,off:=b.off+n}:=by
  cases h with
  | mk h=>exact .mk (hr.1 _ _ h)
 refine Z2 (Z5t hp) ?_;rintro r2 hr2 y _ rfl;refine .pure ?_;cases h with
 | mk h =>
  split
  ·exact .mk (hr2.1 _ _ (hr.1 _ _ h))
  ·exact .mk (hr2.1 _ _ (hr.1 _ _ h))
theorem Z7K{a b:Addr}(h:AR r a b)(f:Field): SR (PF P F) P C AR r (fieldPlace a f) (fieldPlace b f):=by
 unfold fieldPlace;refine Zy λn=>Zu (λ_=>ZeL h _ _) λ_=>.pure (h.add _)
theorem Zc5{t:TypeId}{x y:Value}(h:VR r x y)(i:Nat): SR (PF P F) P C VA r (Instr.fieldAt t x i) (Instr.fieldAt t y i):=by
 unfold Instr.fieldAt;refine Zc λd _=>?_;cases d<;>try exact Z1
 rename_i fs _;dsimp only;cases fs[i]? with
 | none=>exact Z1
 | some f=>exact Z2 (Z1a h) λ_ _ a b k=>Z2 (Z7K k f) λ_ _ a b k=>.pure (.ptr k)
theorem Zc6 {t:TypeId} {x y i j:Value} (h:VR r x y) (hi:VR r i j):SR (PF P F) P C VA r (Instr.indexAt t x i) (Instr.indexAt t y j):=by
  unfold Instr.indexAt;refine Z2 (Z1K hi) ?_;rintro r1 hr1 ⟨k, n⟩ _ rfl;simp only[bind_assoc];refine Zc λd hd => ?_;have at_ : ∀{r' : Ren} {a b : Addr} (len : Nat) (elem : TypeId) (tiny : Bool), AR r' a b->SR (PF P F) P C VA r'
      (if 0 <= n /\ n < len then do pure (.pointer (some (a.add (n.toNat * (<- sizeOf elem))))) else if tiny = true then unsupported (.noEntry "op/indexAddr.an index out of range at an array of length 0 or 1 (ledger 616)") else boundsPanic k n len .index)
      (if 0 <= n /\ n < len then do pure (.pointer (some (b.add (n.toNat * (<- sizeOf elem))))) else if tiny = true then unsupported (.noEntry "op/indexAddr.an index out of range at an array of length 0 or 1 (ledger 616)") else boundsPanic k n len .index) :=
    λlen elem tiny q=>Zu (λ_=>Zy λm=>.pure (.ptr (q.add _))) λ_=>Zu (λ_=>Zr sU) λ_=>ZI
  have under2:∀{r':Ren} {f g:TypeDesc->Sem Value},SR (PF P F) P C VA r' (f d) (g d)->SR (PF P F) P C VA r' (underlying t >>= f) (underlying t >>= g):=λq=>Zc λd' hd'=>by
    obtain rfl : d=d' := Y1 (hd.symm.trans hd');exact q
  cases d<;>try exact .dead (Ze.bind _)
  · cases h with
    | sl0 len cap =>
      simp only[pure_bind];exact under2 ZI
    | sl len cap q =>
      simp only[pure_bind];refine under2 ?_;exact at_ _ _ _ (q.mono hr1)
    | slz j =>
      simp only[pure_bind];refine under2 ?_;refine Zu (λq => ?_) λ_ => Zu (λ_ => Zr sU) λ_ => ZI;exfalso;omega
    | _=>exact .dead (Ze.bind _)
  · simp only[bind_assoc,pure_bind]
    refine Z2 (Z1a (h.mono hr1)) λr2 hr2 a b q => ?_;refine under2 ?_;exact at_ _ _ _ q
end
end Lift
namespace Lift
open Go
variable[Jk]
section
variable{P:Program}{F:Array Func}{C:Inv}{r:Ren}{α β γ δ:Type}{A:Ren->α->β->Prop}{B:Ren->γ->δ->Prop}
theorem Z3g{x:Sem α}{y:Sem β}{f:α->Sem γ}{g:β->Sem δ}(h:SR (PF P F) P C (λ_ _ _=>False) r x y):SR (PF P F) P C B r (x >>= f) (y >>= g):=Z2 h λ_ _ _ _ q=>q.elim
theorem Z0O{x y:Value}(h:VR r x y)(n:Nat)(c:BoundsCode): SR (PF P F) P C EQ r (Instr.sliceBound x n c) (Instr.sliceBound y n c):=by
 refine Z2 (Z1K h) ?_;rintro r1 hr1 ⟨k,n⟩ _ rfl;exact Zu (λ_=>.pure rfl) λ_=>ZI
inductive OpR{α β:Type}(R:α->β->Prop):Option α->Option β->Prop
 | none:OpR R none none
 | some {x y} (h:R x y):OpR R (some x) (some y)
theorem OpR.mono{s:Ren}(h:r.le s){x y:Option Value}(k:OpR (VR r) x y):OpR (VR s) x y:=by
 cases k with
 | none=>exact .none
 | some q=>exact .some (q.mono h)
theorem ZlF (c:BoundsCode) (x z:Nat) (l l':Option Value):OpR (VR r) l l'->SR (PF P F) P C EQ r
      (match l with | some v => (do let y <- Instr.sliceBound v x c; pure (y, x, z)) | none => pure (0, x, z))
      (match l' with | some v => (do let y <- Instr.sliceBound v x c; pure (y, x, z)) | none => pure (0, x, z)) := by
  intro hl;cases hl with
  | none=>exact .pure rfl
  | some q =>
    refine Z2 (Z0O q _ _) ?_;rintro _ _ y _ rfl;exact .pure rfl
theorem Z07{b:Bool}{n c:Nat}{l l' h h' m m':Option Value}(hl:OpR (VR r) l l')(hh:OpR (VR r) h h')(hm:OpR (VR r) m m'):
  SR (PF P F) P C EQ r (Instr.sliceBounds b n c l h m) (Instr.sliceBounds b n c l' h' m'):=by
 have low:=λ{r1:Ren} (c:BoundsCode) (x z:Nat) (hr:r.le r1)=>ZlF (P:=P) (F:=F) (C:=C) c x z l l' (hl.mono hr);unfold Instr.sliceBounds;cases hm with
 | none =>
  cases hh with
  | none=>simp only[pure_bind];exact low _ _ _ (Ren.le_refl _)
  | some q =>
   simp only[pure_bind];refine Z2 (Z0O q _ _) ?_;rintro r1 hr1 x _ rfl;exact low _ _ _ hr1
 | some qm =>
  refine Z2 (Z0O qm _ _) ?_;rintro r1 hr1 z _ rfl;cases hh with
  | none=>exact .dead (Ze.bind _)
  | some q =>
   refine Z2 (Z0O (q.mono hr1) _ _) ?_;rintro r2 hr2 x _ rfl;simp only[pure_bind];exact low _ _ _ (Ren.le_trans hr1 hr2)
theorem Z3V{x y:Value}(h:VR r x y)(c:BoundsCode): SR (PF P F) P C (λ_ a b=>a=0/\b=0) r (Instr.sliceBound x 0 c) (Instr.sliceBound y 0 c):=by
 refine Z2 (Z1K h) ?_;rintro r1 hr1 ⟨k,n⟩ _ rfl;exact Zu (λq=>.pure ⟨oM,oM⟩) λ_=>ZI
theorem ZjB (c:BoundsCode) (l l':Option Value):OpR (VR r) l l'->SR (PF P F) P C (λ_ a b=>a=(0,0,0)/\b=(0,0,0)) r
      (match l with | some v => (do let y <- Instr.sliceBound v 0 c; pure (y, 0, 0)) | none => pure (0, 0, 0))
      (match l' with | some v => (do let y <- Instr.sliceBound v 0 c; pure (y, 0, 0)) | none => pure (0, 0, 0)) := by
  intro hl;cases hl with
  | none=>exact .pure ⟨rfl,rfl⟩
  | some q =>
    refine Z2 (Z3V q _) ?_;rintro _ _ _ _ ⟨rfl, rfl⟩;exact .pure ⟨rfl, rfl⟩
theorem Zc0{b:Bool}{l l' h h' m m':Option Value}(hl:OpR (VR r) l l')(hh:OpR (VR r) h h')(hm:OpR (VR r) m m'):
  SR (PF P F) P C (λ_ a b=>a=(0,0,0)/\b=(0,0,0)) r (Instr.sliceBounds b 0 0 l h m) (Instr.sliceBounds b 0 0 l' h' m'):=by
 have low:=λ{r1:Ren} (c:BoundsCode) (hr:r.le r1)=>ZjB (P:=P) (F:=F) (C:=C) c l l' (hl.mono hr);unfold Instr.sliceBounds;cases hm with
 | none =>
  cases hh with
  | none=>simp only[pure_bind];exact low _ (Ren.le_refl _)
  | some q =>
   simp only[pure_bind];refine Z2 (Z3V q _) ?_;rintro r1 hr1 _ _ ⟨rfl,rfl⟩;exact low _ hr1
 | some qm =>
  refine Z2 (Z3V qm _) ?_;rintro r1 hr1 _ _ ⟨rfl,rfl⟩;cases hh with
  | none=>exact .dead (Ze.bind _)
  | some q =>
   refine Z2 (Z3V (q.mono hr1) _) ?_;rintro r2 hr2 _ _ ⟨rfl,rfl⟩;simp only[pure_bind];exact low _ (Ren.le_trans hr1 hr2)
theorem AR.addIf{a b:Addr}(h:AR r a b)(p:Prop)[Decidable p](n:Nat): AR r (if p then a else a.add n) (if p then b else b.add n):=by
 split
 ·exact h
 ·exact h.add n
theorem ZgS{t:TypeId}{x y:Value}{l l' h h' m m':Option Value}(hx:VR r x y)(hl:OpR (VR r) l l')(hh:OpR (VR r) h h')(hm:OpR (VR r) m m'):
  SR (PF P F) P C VA r (Instr.slice t x l h m) (Instr.slice t y l' h' m'):=by
 unfold Instr.slice;refine Zc λd hd=>?_;cases d<;>try exact Z1
 ·cases hx<;>try exact Z1
  have e:m.isSome=m'.isSome:=by cases hm<;>rfl
  simp only[e];refine Zu (λ_=>.dead (Ze.bind _)) λ_=>?_;refine Z2 (Z07 hl hh .none) ?_;rintro r1 hr1 ⟨a,b,c⟩ _ rfl;exact .pure (.string _)
 ·refine Z2 (Z8W hx) λr1 hr1 a b q=>?_;refine Zc λd hd=>?_;cases d<;>try exact Z1
  refine Z2 (Z07 (hl.mono hr1) (hh.mono hr1) (hm.mono hr1)) ?_;rintro r2 hr2 ⟨l,h,m⟩ _ rfl;exact Zy λn=>.pure (.sl _ _ ((q.mono hr2).addIf _ _))
 ·cases hx<;>try exact Z1
  ·refine Z2 (Z07 hl hh hm) ?_;rintro r2 hr2 ⟨l,h,m⟩ _ rfl;refine Zy λn=>?_;simp only[Option.map_none,ite_self];exact .pure (.sl0 _ _)
  ·rename_i q;refine Z2 (Z07 hl hh hm) ?_;rintro r2 hr2 ⟨l,h,m⟩ _ rfl;refine Zy λn=>?_;simp only[Option.map_some];by_cases e:m=l
   ·simp only[if_pos e];exact .pure (.sl _ _ (q.mono hr2))
   ·simp only[if_neg e];exact .pure (.sl _ _ ((q.mono hr2).add _))
  ·rename_i j;refine Z2 (Zc0 hl hh hm) ?_;rintro r2 hr2 _ _ ⟨rfl,rfl⟩;refine Zy λn=>?_;rw[if_pos rfl,if_pos rfl];exact .pure (.slz j)
theorem Zca{t:TypeId}{x y:Value}{l l' h h' m m':Option Value}(hx:VR r x y)(hl:OpR (VR r) l l')(hh:OpR (VR r) h h')(hm:OpR (VR r) m m'):
  SR (PF P F) P C VA r (Instr.sliceAt t x l h m) (Instr.sliceAt t y l' h' m'):=by
 unfold Instr.sliceAt;refine Zc λd hd=>?_;cases d<;>try exact ZgS hx hl hh hm
 refine Z2 (Z1a hx) λr1 hr1 a b q=>?_;refine Z2 (Z07 (hl.mono hr1) (hh.mono hr1) (hm.mono hr1)) ?_;rintro r2 hr2 ⟨l,h,m⟩ _ rfl;exact Zy λn=>.pure (.sl _ _ ((q.mono hr2).addIf _ _))
theorem ZgO{t:TypeId}{x y i j:Value}(hx:VR r x y)(hi:VR r i j): SR (PF P F) P C VA r (Instr.index t x i) (Instr.index t y j):=by
 unfold Instr.index;refine Z2 (Z1K hi) ?_;rintro r1 hr1 ⟨k,n⟩ _ rfl;refine Zc λd hd=>?_;cases d<;>try exact Z1
 ·cases hx<;>try exact Z1
  rename_i s;dsimp only;cases (if 0<=n then s[n.toNat]? else none) with
  | none=>exact ZI
  | some b=>exact .pure (.int _ _)
 ·cases hx<;>try exact Z1
  rename_i hs q;exact Zu (λ_=>Zy λm=>Z17 (VRs.mono hr1 ⟨hs,q⟩) _) λ_=>ZI
theorem Zc4{x y:Value}(h:VR r x y)(i:Nat): SR (PF P F) P C VA r (Instr.extract x i) (Instr.extract y i):=by
 cases h<;>try exact Z1
 rename_i hs q;unfold Instr.extract;rcases Arr.get ⟨hs,q⟩ i with⟨a,b⟩ | ⟨x,y,a,b,k⟩
 ·simp only[a];exact Z1
 ·simp only[a,b];exact .pure k
theorem Z4u{t:TypeId}{x y:Value}(h:VR r x y): SR (PF P F) P C VA r (Instr.makeInterface t x) (Instr.makeInterface t y):=by
 unfold Instr.makeInterface;refine Zc λd hd=>?_;cases d<;>first | exact Z1 | exact .pure (.iface _ h)
theorem Za6{f g:Fn}{xs ys us vs:Array Value}(hf:FnR r f g)(h:VRs r xs ys)(k:VRs r us vs): SR (PF P F) P C VA r (Instr.makeFunc f xs us) (Instr.makeFunc g ys vs):=.pure (.func hf h.1 h.2 k.1 k.2)
theorem Zc7 {t:TypeId} {x y:Option Value} (h:OpR (VR r) x y):SR (PF P F) P C VA r (Instr.makeMap t x) (Instr.makeMap t y):=by
  have last : ∀ {r' : Ren}, SR (PF P F) P C VA r' (do pure (.map (some (<- newObj (.map #[] 0))))) (do pure (.map (some (<- newObj (.map #[] 0))))) :=
    SR.new (.map 0 .nil) λr' _ b c hb=>.pure (.map hb)
  unfold Instr.makeMap;cases h with
  | none=>simp only[pure_bind];exact last
  | some q =>
    refine Zc λd hd => ?_;cases d<;>try exact .dead (Ze.bind _)
    refine Z2 (Z3T q) ?_;rintro r2 hr2 n _ rfl;exact last
theorem Z90{t:TypeId}(hz:∀e,P.underlying t=some (.slice e)->ZOk P e){x y u v:Value}(h:VR r x y)(k:VR r u v): SR (PF P F) P C VA r (Instr.makeSlice t x u) (Instr.makeSlice t y v):=by
 unfold Instr.makeSlice;refine Zc λd hd=>?_;cases d<;>try exact Z1
 rename_i elem;refine Z2 (Z3T h) ?_;rintro r1 hr1 n _ rfl;refine Z2 (Z3T (k.mono hr1)) ?_;rintro r2 hr2 c _ rfl;refine Z0G λi hi=>?_;simp only[bind_assoc,pure_bind];refine Zu (λ_=>?_) λ_=>?_
 ·refine Zu (λ_=>Z3g Z0v) λ_=>Zu (λ_=>Z3g Z0v) λ_=>Z3W λ_=>Z3g Z0v
 ·refine Z2 Z6p ?_;rintro r3 hr3 _ _ _;refine Zy λm=>?_;refine Zu (λe=>?_) λ_=>?_
  ·rw[e];exact Z2 (Z2r (Z5L .nil _)) λ_ _ a b q=>.pure (.sl _ _ q)
  ·exact Z3h (hz _ hd) λv hv=>Z2 (Z2r (Z5L (VR.arr1 hv) _)) λ_ _ a b q=>.pure (.sl _ _ q)
end
end Lift
namespace Lift
open Go
variable[Jk]
section
variable{P:Program}{F:Array Func}{C:Inv}{r:Ren}{α β γ δ:Type}{A:Ren->α->β->Prop}{B:Ren->γ->δ->Prop}
theorem Z5w{op:BinOp}{k:IntKind}{x y:Int}: SR (PF P F) P C VA r (Op.intArith op k x y) (Op.intArith op k x y):=by
 cases op<;>first | exact Z1 | exact .pure (.int _ _)
theorem Z5x{op:BinOp}{x y:Int}: SR (PF P F) P C VA r (Op.intCmp op x y) (Op.intCmp op x y):=by
 cases op<;>first | exact Z1 | exact .pure (.bool _)
theorem Z6t{op:BinOp}{k:IntKind}{x y:Int}: SR (PF P F) P C VA r (Op.intBits op k x y) (Op.intBits op k x y):=by
 cases op<;>first | exact Z1 | exact .pure (.int _ _)
theorem ZeH{op:BinOp}{k:IntKind}{x y:Int}: SR (PF P F) P C VA r (Op.intDiv op k x y) (Op.intDiv op k x y):=by
 unfold Op.intDiv;refine Zu (λ_=>Z0v) λ_=>?_;cases op<;>first | exact Z1 | exact .pure (.int _ _)
theorem ZgR{op:BinOp}{k j:IntKind}{x y:Int}: SR (PF P F) P C VA r (Op.shift op k x j y) (Op.shift op k x j y):=by
 unfold Op.shift;refine Zu (λ_=>Z0v) λ_=>?_;cases op<;>first | exact Z1 | exact .pure (.int _ _)
theorem Z19{op:BinOp}{x y:ByteArray}:SR (PF P F) P C VA r (Op.stringOp op x y) (Op.stringOp op x y):=by
 unfold Op.stringOp;cases op<;>first | exact Z1 | exact .pure (.bool _) | exact Zu (λ_=>Zr sU) λ_=>.pure (.string _)
theorem ZgU{op:UnOp}{x y:Value}(h:VR r x y): SR (PF P F) P C VA r (Op.unary op x) (Op.unary op y):=by
 unfold Op.unary;cases op<;>cases h<;>first | exact Z1 | exact Z5w | exact Z6t | exact .pure (.bool _) | exact Zr sU
theorem Z5A{b c:Nat}(h:r b=some c): SR (PF P F) P C (λr x y=>(x=none/\y=none)\/∃a a' l,x=some (a,l)/\y=some (a',l)/\AR r a a') r (numberAt b) (numberAt c):=by
 unfold numberAt;refine SR.shape h λs=>?_;cases s with
 | some s=>exact .pure (.inl ⟨rfl,rfl⟩)
 | none =>
  refine SR.getObj h λr' hr o o' ho=>?_;cases ho<;>first | exact .pure (.inl ⟨rfl,rfl⟩) | (rename_i q;exact .pure (.inr ⟨_,_,_,rfl,rfl,q⟩))
theorem Z14{a b:Addr}(h:AR r a b): SR (PF P F) P C (λr x y=>AR r x.1 y.1/\x.2=y.2) r (behindNumber a) (behindNumber b):=by
 unfold behindNumber;have h0:=h;cases h with
 | mk h =>
 refine Z2 (Z5A h) λr' hr x y q=>?_;rcases q with⟨rfl,rfl⟩ | ⟨a,a',l,rfl,rfl,q⟩
 ·exact .pure ⟨h0.mono hr,rfl⟩
 ·exact .pure ⟨q,rfl⟩
theorem Z2N{ι σ:Type}(l:List ι){f g:ι->σ->Sem (ForInStep σ)}: ∀(s:σ) {r:Ren},(∀a,a∈l->∀s r',r.le r'->SR (PF P F) P C EQ r' (f a s) (g a s))->SR (PF P F) P C EQ r (forIn l s f) (forIn l s g):=by
 induction l with
 | nil=>exact λs r _=>.pure rfl
 | cons a l ih =>
  intro s r h;simp only[List.forIn_cons];refine Z2 (h a sU s r (Ren.le_refl _)) ?_;rintro r1 hr1 x _ rfl;cases x with
  | done s=>exact .pure rfl
  | yield s=>exact ih s λa ha s r' hr=>h a (by simp[ha]) s r' (Ren.le_trans hr1 hr)
def EqOk(P:Program):Nat->TypeId->Prop
 | 0,_=>True
 | d+1,t=>match P.underlying t with
  | some .bool | some .string | some (.slice _) | some (.map _ _)=>True
  | some (.func _ _ _)=>¬Jk.j
  | some (.int _)=>∀i,P.info? t=some i->∀u,i.desc ≠ .named "sync.copyChecker" u
  | some (.struct fs)=>∀f∈fs,EqOk P d f.type
  | some (.array _ e)=>EqOk P d e
  | _=>False
def EqAt(P:Program)(F:Array Func)(C:Inv)(d:Nat):Prop:=∀(t:TypeId) {r:Ren} {x y u v:Value},EqOk P d t->VR r x y->VR r u v->SR (PF P F) P C EQ r (Op.equalIn d t x u) (Op.equalIn d t y v)
theorem ZgJ {d:Nat} (ih:EqAt P F C d) {elem:TypeId} (ok:EqOk P d elem) {len:Nat} {xs xs' ys ys':Array Value} (h:VRs r xs xs') (k:VRs r ys ys') :
    SR (PF P F) P C EQ r
      (do let n <- sizeOf elem
          for i in [0:len] do
            if !(<-Op.equalIn d elem (<-part elem xs (i*n)) (<-part elem ys (i*n))) then return false
          pure true)
      (do let n <- sizeOf elem
          for i in [0:len] do
            if !(<-Op.equalIn d elem (<-part elem xs' (i*n)) (<-part elem ys' (i*n))) then return false
          pure true):=by
  refine Zy λn => ?_;simp only[Std.Legacy.Range.forIn_eq_forIn_range'];refine Z2 (Z2N _ _ λi _ s r' hr => ?_) ?_
  · refine Z2 (Z17 (VRs.mono hr h) _) λr1 hr1 a b q=>?_
    refine Z2 (Z17 (VRs.mono (Ren.le_trans hr hr1) k) _) λr2 hr2 a2 b2 q2 => ?_;refine Z2 (ih _ ok (q.mono hr2) q2) ?_;rintro r3 hr3 z _ rfl;cases z<;>exact .pure rfl
  · rintro r1 hr1 z _ rfl
    obtain⟨z, _⟩ := z;cases z<;>exact .pure rfl
theorem ZgL {d:Nat} (ih:EqAt P F C d) {t:TypeId} {fs:Array Field} (ok:∀f∈fs,EqOk P d f.type) {xs xs' ys ys':Array Value} (h:VRs r xs xs') (k:VRs r ys ys') (why:String) (st:(PF P F).stoodInHeld t=P.stoodInHeld t) :
    SR (PF P F) P C EQ r
      (do if (<- program).stoodInHeld t then unsupported (.noEntry why)
          for f in fs do
            if f.name ≠ "_" then
              if !(<-Op.equalIn d f.type (<-part f.type xs f.offset) (<-part f.type ys f.offset)) then return false
          pure true)
      (do if (<- program).stoodInHeld t then unsupported (.noEntry why)
          for f in fs do
            if f.name ≠ "_" then
              if !(<-Op.equalIn d f.type (<-part f.type xs' f.offset) (<-part f.type ys' f.offset)) then return false
          pure true):=by
  refine Z18 ?_;rw[st];refine Zu (λ_ => .dead ((Zq sU).bind _)) λ_ => ?_;simp only[<-Array.forIn_toList];refine Z2 (Z2N _ _ λf hf s r' hr => ?_) ?_
  · refine Zu (λ_=>?_) λ_=>.pure rfl
    refine Z2 (Z17 (VRs.mono hr h) _) λr1 hr1 a b q => ?_;refine Z2 (Z17 (VRs.mono (Ren.le_trans hr hr1) k) _) λr2 hr2 a2 b2 q2 => ?_;refine Z2 (ih _ (ok f (by simpa using hf)) (q.mono hr2) q2) ?_;rintro r3 hr3 z _ rfl;cases z<;>exact .pure rfl
  · rintro r1 hr1 z _ rfl
    obtain⟨z, _⟩ := z;cases z<;>exact .pure rfl
theorem Z2b{f:Program->Sem α}(h:Dead (PF P F) (f (PF P F))):Dead (PF P F) (program >>= f):=h
theorem Z57{t:TypeId}{f:TypeInfo->Sem α}(h:∀i,P.info? t=some i->Dead (PF P F) (f i)): Dead (PF P F) (typeInfo t >>= f):=by
 refine Z2b (f:=λp=>(match p.info? t with | some i=>pure i | none=>stuck "no such type") >>= f) ?_;rw[info_pf];cases e:P.info? t with
 | none=>exact Ze.bind _
 | some i=>exact h i e
theorem ZgK {t:TypeId} (ok:∀i,P.info? t=some i->∀u,i.desc ≠ .named "sync.copyChecker" u) {a a' b b':Addr} (h:AR r a a') (k:AR r b b') :
    SR (PF P F) P C EQ r
      (do let (a, b) := ((<- behindNumber a).1, (<- behindNumber b).1)
          if a.block==b.block&&a.block<(<-program).globals.size then return (<-byteOf a)==(<-byteOf b)
          let .named "sync.copyChecker" _:=(<-typeInfo t).desc | unsupported .addressObserved
          if a==b then pure true else unsupported .addressObserved)
      (do let (a, b) := ((<- behindNumber a').1, (<- behindNumber b').1)
          if a.block==b.block&&a.block<(<-program).globals.size then return (<-byteOf a)==(<-byteOf b)
          let .named "sync.copyChecker" _:=(<-typeInfo t).desc | unsupported .addressObserved
          if a==b then pure true else unsupported .addressObserved):=by
  refine Z2 (Z14 h) λr1 hr1 x x' hx => ?_;refine Z2 (Z14 (k.mono hr1)) λr2 hr2 y y' hy => ?_;refine .dead (Z2b ?_);have e : (x.1.block==y.1.block&&decide (x.1.block<(PF P F).globals.size))=false := by simp[Z66]
  simp only[e];refine Z57 λi hi => ?_;have := ok i hi;split
  · rename_i q
    exact absurd q (this _)
  · exact Zq sU
theorem Zc3(hs:∀t,(PF P F).stoodInHeld t=P.stoodInHeld t)(d:Nat):EqAt P F C d:=by
 induction d with
 | zero=>exact λt r x y u v _ _ _=>Zr sU
 | succ d ih =>
  intro t r x y u v ok hx hu;unfold Op.equalIn;refine Zc λk hk=>?_;unfold EqOk at ok;rw[hk]at ok;cases k<;>try exact ok.elim
  ·cases hx<;>cases hu<;>first | exact Z1 | exact .pure rfl
  ·rename_i kk;cases hx with
   | int k n =>
    rcases n with (_ | n) | n<;>cases hu<;>first | exact Z1 | exact Zr sU | exact .pure rfl | exact Zu (λ_=>.pure rfl) λ_=>Z1
   | ptr0=>cases hu<;>first | exact Zr sU | exact Z1
   | ptr q =>
    cases hu with
    | int j m=>rcases m with (_ | m) | m<;>first | exact .pure rfl | exact Zr sU
    | ptr q2=>exact ZgK ok q q2
    | _=>exact Zr sU
   | _ =>
    cases hu with
    | int j m=>rcases m with (_ | m) | m<;>first | exact Z1 | exact Zr sU
    | _=>first | exact Z1 | exact Zr sU
  ·cases hx<;>cases hu<;>first | exact Z1 | exact .pure rfl
  ·cases hx<;>cases hu<;>first | exact Z1 | exact .pure rfl
  ·cases hx with
   | agg h1 q1 =>
    cases hu with
    | agg h2 q2=>exact ZgJ ih ok ⟨h1,q1⟩ ⟨h2,q2⟩
    | _=>exact Z1
   | _=>cases hu<;>exact Z1
  ·cases hx<;>cases hu<;>first | exact Z1 | exact .pure rfl
  ·cases hx with
   | agg h1 q1 =>
    cases hu with
    | agg h2 q2=>exact ZgL ih ok ⟨h1,q1⟩ ⟨h2,q2⟩ _ (hs t)
    | _=>exact Z1
   | _=>cases hu<;>exact Z1
  ·cases hx<;>cases hu<;>first | exact Z1 | exact .pure rfl | (rename_i j _ _ _;rcases j with j | rfl<;>first | exact absurd j ok | exact Z1 | exact .pure rfl) | (rename_i j _ _ _ j2 _ _ _;rcases j with j | rfl<;>rcases j2 with j2 | rfl<;>first | exact absurd j ok | exact absurd j2 ok | exact Z1 | exact .pure rfl)
end
end Lift
namespace Lift
open Go
variable[Jk]
section
variable{P:Program}{F:Array Func}{C:Inv}{r:Ren}{α β γ δ:Type}{A:Ren->α->β->Prop}{B:Ren->γ->δ->Prop}
theorem Zfk(d:Nat):∀t u,(PF P F).alikeButTags d t u=P.alikeButTags d t u:=by
 induction d with
 | zero=>exact λ_ _=>rfl
 | succ d ih =>
  intro t u;simp only[Program.alikeButTags,info_pf,ih]
theorem Zcg(t:TypeId):(PF P F).underlyingId t=P.underlyingId t:=by
 unfold Program.underlyingId;simp only[info_pf]
theorem ZgZ(t:TypeId):(PF P F).stoodInHeld t=P.stoodInHeld t:=by
 have e:(PF P F).cutTypes=P.cutTypes:=rfl;unfold Program.stoodInHeld Program.stoodInAs;simp only[info_pf,under_pf,Zfk,Zcg,e,Z4E]
theorem Z7J{t:TypeId}(ok:EqOk P Op.maxDepth t){x y u v:Value}(h:VR r x y)(k:VR r u v): SR (PF P F) P C EQ r (Op.equal t x u) (Op.equal t y v):=Zc3 ZgZ _ t ok h k
def GuAt(P:Program)(F:Array Func)(C:Inv)(d:Nat):Prop:=∀(t:TypeId) {r:Ren} {x y u v:Value},VR r x y->VR r u v->SR (PF P F) P C EQ r (Op.eqGuardIn d t x u) (Op.eqGuardIn d t y v)
theorem ZgM {d:Nat} (ih:GuAt P F C d) {elem:TypeId} {len:Nat} {xs xs' ys ys':Array Value} (h:VRs r xs xs') (k:VRs r ys ys') :
    SR (PF P F) P C EQ r
      (do let n <- sizeOf elem
          for i in [0:len] do
            if <-Op.eqGuardIn d elem (<-part elem xs (i*n)) (<-part elem ys (i*n)) then return true
          pure false)
      (do let n <- sizeOf elem
          for i in [0:len] do
            if <-Op.eqGuardIn d elem (<-part elem xs' (i*n)) (<-part elem ys' (i*n)) then return true
          pure false):=by
  refine Zy λn => ?_;simp only[Std.Legacy.Range.forIn_eq_forIn_range'];refine Z2 (Z2N _ _ λi _ s r' hr => ?_) ?_
  · refine Z2 (Z17 (VRs.mono hr h) _) λr1 hr1 a b q=>?_
    refine Z2 (Z17 (VRs.mono (Ren.le_trans hr hr1) k) _) λr2 hr2 a2 b2 q2 => ?_;refine Z2 (ih _ (q.mono hr2) q2) ?_;rintro r3 hr3 z _ rfl;cases z<;>exact .pure rfl
  · rintro r1 hr1 z _ rfl
    obtain⟨z, _⟩ := z;cases z<;>exact .pure rfl
theorem ZgN {d:Nat} (ih:GuAt P F C d) {fs:Array Field} {xs xs' ys ys':Array Value} (h:VRs r xs xs') (k:VRs r ys ys') :
    SR (PF P F) P C EQ r
      (do for f in fs do
            if f.name ≠ "_" then
              if <-Op.eqGuardIn d f.type (<-part f.type xs f.offset) (<-part f.type ys f.offset) then return true
          pure false)
      (do for f in fs do
            if f.name ≠ "_" then
              if <-Op.eqGuardIn d f.type (<-part f.type xs' f.offset) (<-part f.type ys' f.offset) then return true
          pure false):=by
  simp only[<-Array.forIn_toList];refine Z2 (Z2N _ _ λf hf s r' hr => ?_) ?_
  · refine Zu (λ_=>?_) λ_=>.pure rfl
    refine Z2 (Z17 (VRs.mono hr h) _) λr1 hr1 a b q => ?_;refine Z2 (Z17 (VRs.mono (Ren.le_trans hr hr1) k) _) λr2 hr2 a2 b2 q2 => ?_;refine Z2 (ih _ (q.mono hr2) q2) ?_;rintro r3 hr3 z _ rfl;cases z<;>exact .pure rfl
  · rintro r1 hr1 z _ rfl
    obtain⟨z, _⟩ := z;cases z<;>exact .pure rfl
theorem Z6s(d:Nat):GuAt P F C d:=by
 induction d with
 | zero=>exact λt r x y u v _ _=>Zr sU
 | succ d ih =>
  intro t r x y u v hx hu;unfold Op.eqGuardIn;refine Zc λk hk=>?_;cases k with
  | interface ms =>
   cases hx with
   | junk _ h1 n1 _=>cases y<;>first | exact absurd rfl (h1 _) | exact absurd rfl n1.1 | exact .pure rfl
   | iface0 =>
    cases hu with
    | junk _ h1 n1 _=>cases v<;>first | exact absurd rfl (h1 _) | exact absurd rfl n1.1 | exact .pure rfl
    | _=>exact .pure rfl
   | _=>exact .pure rfl
  | array n e =>
   cases hx with
   | agg h1 q1 =>
    cases hu with
    | agg h2 q2=>exact ZgM ih ⟨h1,q1⟩ ⟨h2,q2⟩
    | junk _ h1 n1 _=>cases v<;>first | exact absurd rfl (h1 _) | exact .pure rfl
    | _=>exact .pure rfl
   | junk _ h1 n1 _=>cases y<;>first | exact absurd rfl (h1 _) | exact .pure rfl
   | _=>exact .pure rfl
  | struct fs =>
   cases hx with
   | agg h1 q1 =>
    cases hu with
    | agg h2 q2=>exact ZgN ih ⟨h1,q1⟩ ⟨h2,q2⟩
    | junk _ h1 n1 _=>cases v<;>first | exact absurd rfl (h1 _) | exact .pure rfl
    | _=>exact .pure rfl
   | junk _ h1 n1 _=>cases y<;>first | exact absurd rfl (h1 _) | exact .pure rfl
   | _=>exact .pure rfl
  | _=>exact .pure rfl
theorem Z5N(d:Nat):∀t,(PF P F).eqGuardType d t=P.eqGuardType d t:=by
 induction d with
 | zero=>exact λ_=>rfl
 | succ d ih =>
  intro t;simp only[Program.eqGuardType,under_pf,ih]
theorem Zc2{op:BinOp}{t:TypeId}{a b:Operand}{x y u v:Value}(h:VR r x y)(k:VR r u v): SR (PF P F) P C EQ r (eqGuard op t a b x u) (eqGuard op t a b y v):=by
 unfold eqGuard;refine Zu (λ_=>.pure rfl) λ_=>?_;cases h with
 | iface0 =>
  cases k with
  | iface0 =>
   refine Zu (λ_=>.pure rfl) λ_=>?_;refine Z2 (Z6s _ _ .iface0 .iface0) ?_;rintro _ _ z _ rfl;exact Zu (λ_=>Zr sU) λ_=>.pure rfl
  | junk _ h1 n1 _=>cases v<;>first | exact absurd rfl (h1 _) | exact absurd rfl n1.1 | exact .pure rfl
  | _=>exact .pure rfl
 | agg h1 q1 =>
  cases k with
  | agg h2 q2 =>
   refine Z18 (Z18 ?_);rw[Z5N,Z4E];refine Zu (λ_=>.pure rfl) λ_=>?_;refine Z2 (Z6s _ _ (.agg h1 q1) (.agg h2 q2)) ?_;rintro _ _ z _ rfl;exact Zu (λ_=>Zr sU) λ_=>.pure rfl
  | junk _ h1 n1 _=>cases v<;>first | exact absurd rfl (h1 _) | exact absurd rfl n1.1 | exact .pure rfl
  | _=>exact .pure rfl
 | junk _ h1 n1 _=>cases y<;>first | exact absurd rfl (h1 _) | exact absurd rfl n1.1 | exact .pure rfl
 | _=>exact .pure rfl
end
end Lift
namespace Lift
open Go
variable[Jk]
section
variable{P:Program}{F:Array Func}{C:Inv}{r:Ren}{α β γ δ:Type}{A:Ren->α->β->Prop}{B:Ren->γ->δ->Prop}
theorem Z6U(d:Nat):∀t o,cellOfByte (PF P F) d t o=cellOfByte P d t o:=by
 induction d with
 | zero=>exact λ_ _=>rfl
 | succ d ih =>
  intro t o;simp only[cellOfByte,under_pf,Z1v,Z2A,ih]
theorem ZcU(d:Nat)(e:TypeId)(n o:Nat)(b:Int):cellAtBytes (PF P F) d e n o b=cellAtBytes P d e n o b:=by
 simp only[cellAtBytes,Z6U,Z3n,Z1v,Z2A]
theorem Z4s{t:TypeId}{a b:Addr}{x y:Value}(h:AR r a b)(k:VR r x y): SR (PF P F) P C (λr x y=>∃a b,x = .pointer (some a)/\y = .pointer (some b)/\AR r a b) r
  (Builtin.unsafeAdd_ #[] t #[.pointer (some a),x]) (Builtin.unsafeAdd_ #[] t #[.pointer (some b),y]):=by
 have h0:=h;cases h with
 | @mk b c o s h =>
 unfold Builtin.unsafeAdd_;refine Z2 (Z3T k) ?_;rintro r1 hr1 n _ rfl;refine Zu (λ_=>?_) λ_=>?_
 ·refine Z92 (hr1.1 _ _ h) λr2 hr2=>?_;exact .pure ⟨_,_,rfl,rfl,.mk (hr2.1 _ _ (hr1.1 _ _ h))⟩
 ·refine Zu (λ_=>.dead ((Zq sU).bind _)) λ_=>?_;refine SR.shape (hr1.1 _ _ h) λs=>?_;cases s with
  | none=>exact Zr (λ_=>by simp)
  | some s =>
   refine Z18 ?_;simp only[ZcU,Z1v,Z4E];cases cellAtBytes P P.depth s.1 (s.2 / P.cellsOf s.1) o n with
   | none=>exact Zr (λ_=>by simp)
   | some z=>exact .pure ⟨_,_,rfl,rfl,.mk (hr1.1 _ _ h)⟩
theorem Z1q {t:TypeId} {a b:Addr} {x y:Value} (h:AR r a b) (k:VR r x y):SR (PF P F) P C VA r (movedNumber t (.pointer (some a)) x) (movedNumber t (.pointer (some b)) y):=by
  unfold movedNumber;refine Zc λd hd => ?_;have rest : SR (PF P F) P C VA r
    (do let (a, lost) <- behindNumber a
        match <-Builtin.unsafeAdd_ #[] t #[.pointer (some a),x] with
        | .pointer (some b)=>asNumber b lost
        | v=>pure v)
    (do let (a, lost) <- behindNumber b
        match <-Builtin.unsafeAdd_ #[] t #[.pointer (some a),y] with
        | .pointer (some b)=>asNumber b lost
        | v=>pure v):=by
    refine Z2 (Z14 h) λr1 hr1 p q hpq => ?_;obtain⟨p1, p2⟩ := p;obtain⟨q1, q2⟩ := q;obtain⟨hp, rfl⟩ := hpq;refine Z2 (Z4s hp (k.mono hr1)) λr2 hr2 u v huv => ?_;obtain⟨a, b, rfl, rfl, q⟩ := huv;exact SR.new (.number _ q) λr' _ b c hb => .pure (.ptr (.mk hb))
  cases d<;>first | exact rest | exact Zu (λ_=>.dead ((Zq sU).bind _)) (λh=>absurd rfl h)
theorem Zft{a b:Addr}: Dead (PF P F) (Op.twoPlaces a b):=by
 unfold Op.twoPlaces;refine Z2b ?_;have e:(a.block != b.block||decide (a.block>=(PF P F).globals.size))=true:=by simp[Z66]
 simp only[e,if_true];exact(Zq sU).bind _
theorem Z6o{k:IntKind}{a b:Addr}(h:AR r a b)(n:Int): SR (PF P F) P C VA r (Op.addrMod k a n) (Op.addrMod k b n):=by
 have h0:=h;cases h with
 | mk h =>
 unfold Op.addrMod;refine SR.shape h λs=>?_;cases s with
 | none=>exact Zr (λ_=>by simp)
 | some s =>
  refine Z0G λi _=>?_;refine Zu (λ_=>.dead ((Zq sU).bind _)) λ_=>?_;refine Z2 (Z5t h0) ?_;rintro _ _ z _ rfl;exact .pure (.int _ _)
theorem Z5y{t:TypeId}{a b:Addr}{x y:Value}(h:AR r a b)(k:VR r x y): SR (PF P F) P C VA r (movedPointer t (.pointer (some a)) x) (movedPointer t (.pointer (some b)) y):=by
 have h0:=h;cases h with
 | mk h =>
 unfold movedPointer;refine Z2 (Z5A h) λr1 hr1 p q hpq=>?_;rcases hpq with⟨rfl,rfl⟩ | ⟨a,a',l,rfl,rfl,_⟩
 ·refine SR.imp (Z4s (t:=t) (h0.mono hr1) (k.mono hr1)) ?_;rintro r2 u v _ ⟨a,b,rfl,rfl,q⟩;exact .ptr q
 ·exact Zu (λ_=>.dead ((Zq sU).bind _)) (λh=>absurd rfl h)
theorem Z3Y{t:TypeId}{x y:Value}(k:VR r x y): SR (PF P F) P C VA r (Builtin.unsafeAdd_ #[] t #[.pointer none,x]) (Builtin.unsafeAdd_ #[] t #[.pointer none,y]):=by
 unfold Builtin.unsafeAdd_;refine Z2 (Z3T k) ?_;rintro r1 hr1 n _ rfl;refine Zu (λ_=>Zr sU) λ_=>?_;exact Zu (λ_=>.dead ((Zq sU).bind _)) λ_=>Zr sU
theorem Z15{t:TypeId}{x y:Value}(k:VR r x y): SR (PF P F) P C VA r (movedNumber t (.pointer none) x) (movedNumber t (.pointer none) y):=by
 unfold movedNumber;refine Zc λd hd=>?_;have rest:=Z3Y (P:=P) (F:=F) (C:=C) (t:=t) k;cases d<;>first | exact rest | exact Zu (λ_=>.dead ((Zq sU).bind _)) (λh=>absurd rfl h)
theorem Z4v{t:TypeId}{x y:Value}(k:VR r x y): SR (PF P F) P C VA r (movedPointer t (.pointer none) x) (movedPointer t (.pointer none) y):=Z3Y (t:=t) k
theorem Z63{t:TypeId}{f:TypeDesc->Sem α}(h:∀k,(PF P F).underlying t=some k->Dead (PF P F) (f k)): Dead (PF P F) (underlying t >>= f):=by
 show Dead _ (Sem.program λp=>Sem.bind (match p.underlying t with | some i=>pure i | none=>stuck "no such type") f);intro w;show ∃h w',(Sem.bind (match (PF P F).underlying t with | some i=>pure i | none=>stuck "no such type") f).run (PF P F) w = .halt h w'/\Dies h;cases e:(PF P F).underlying t with
 | none=>exact(Ze.bind _) w
 | some i=>exact h i e w
theorem Z3s(j:Jk.j)(d:Nat)(t:TypeId)(ok:EqOk P d t)(x:Value):Dead (PF P F) (Op.equalIn d t J0 x)/\Dead (PF P F) (Op.equalIn d t x J0):=by
 cases d with
 | zero=>exact⟨Zq sU,Zq sU⟩
 | succ d =>
  unfold Op.equalIn;constructor
  ·refine Z63 λk hk=>?_;rw[under_pf]at hk;unfold EqOk at ok;rw[hk]at ok;cases k<;>first | exact absurd j ok | exact Ze | (cases x<;>first | exact Ze | exact Zq sU)
  ·refine Z63 λk hk=>?_;rw[under_pf]at hk;unfold EqOk at ok;rw[hk]at ok;cases k<;>first | exact absurd j ok | exact Ze | (cases x<;>first | exact Ze | exact Zq sU | (rename_i a;cases a<;>first | exact Ze | exact Zq sU) | (rename_i a _ _;cases a<;>exact Ze))
def Zfb(P:Program)(op:BinOp)(t:TypeId):Prop:=(op = .eql\/op = .neq)->EqOk P Op.maxDepth t
theorem Z8l(j:Jk.j){op:BinOp}{t:TypeId}(ok:Zfb P op t){x:Value}: Dead (PF P F) (binOp op t J0 x):=by
 cases op with
 | eql=>exact(Z3s j _ t (ok (.inl rfl)) x).1.bind _
 | neq=>exact(Z3s j _ t (ok (.inr rfl)) x).1.bind _
 | _=>cases x<;>first | exact Ze | exact Zq sU
theorem Z1x(j:Jk.j){op:BinOp}{t:TypeId}(ok:Zfb P op t){x:Value}: Dead (PF P F) (binOp op t x J0):=by
 cases op with
 | eql=>cases x<;>exact(Z3s j _ t (ok (.inl rfl)) _).2.bind _
 | neq=>cases x<;>exact(Z3s j _ t (ok (.inr rfl)) _).2.bind _
 | _=>cases x<;>first | exact Ze | exact Zq sU | (rename_i a;cases a<;>first | exact Ze | exact Zq sU)
theorem ZgF {op:BinOp} {t:TypeId} (ok:Zfb P op t) {x y u v:Value} (h:VR r x y) (k:VR r u v):SR (PF P F) P C VA r (binOp op t x u) (binOp op t y v):=by
  cases op with
  | eql =>
    have q : SR (PF P F) P C VA r (do pure (.bool (<- Op.equal t x u))) (do pure (.bool (<- Op.equal t y v))) :=
      Z2 (Z7J (ok (.inl rfl)) h k) (by rintro _ _ z _ rfl;exact .pure (.bool _))
    cases h with
    | int i n =>
      cases k with
      | int j m=>exact Zu (λ_=>Z1) λ_=>Z5x
      | junk j _ _ _ =>
        rcases j with j | rfl
        · exact .dead (Z1x j ok)
        · exact q
      | _=>exact q
    | string a =>
      cases k with
      | string b=>exact(Z19 (op:=.eql):SR (PF P F) P C VA r (Op.stringOp .eql a b) (Op.stringOp .eql a b))
      | junk j _ _ _ =>
        rcases j with j | rfl
        · exact .dead (Z1x j ok)
        · exact q
      | _=>exact q
    | junk j _ _ _ =>
      rcases j with j | rfl
      · exact .dead (Z8l j ok)
      · cases k<;>exact q
    | _ =>
      cases k with
      | junk j _ _ _ =>
        rcases j with j | rfl
        · exact .dead (Z1x j ok)
        · exact q
      | _=>exact q
  | neq =>
    have q : SR (PF P F) P C VA r (do pure (.bool (!(<- Op.equal t x u)))) (do pure (.bool (!(<- Op.equal t y v)))) :=
      Z2 (Z7J (ok (.inr rfl)) h k) (by rintro _ _ z _ rfl;exact .pure (.bool _))
    cases h with
    | int i n =>
      cases k with
      | int j m=>exact Zu (λ_=>Z1) λ_=>Z5x
      | junk j _ _ _ =>
        rcases j with j | rfl
        · exact .dead (Z1x j ok)
        · exact q
      | _=>exact q
    | string a =>
      cases k with
      | string b=>exact(Z19 (op:=.neq):SR (PF P F) P C VA r (Op.stringOp .neq a b) (Op.stringOp .neq a b))
      | junk j _ _ _ =>
        rcases j with j | rfl
        · exact .dead (Z1x j ok)
        · exact q
      | _=>exact q
    | junk j _ _ _ =>
      rcases j with j | rfl
      · exact .dead (Z8l j ok)
      · cases k<;>exact q
    | _ =>
      cases k with
      | junk j _ _ _ =>
        rcases j with j | rfl
        · exact .dead (Z1x j ok)
        · exact q
      | _=>exact q
  | _ =>
    unfold binOp;cases h with
    | int i n =>
      cases k with
      | int j m=>first | exact ZgR | (exact Zu (λ_=>Z1) λ_=>(by first | exact Z5w | exact ZeH | exact Z6t | exact Z5x))
      | ptr q=>first | exact Z1q q (.int _ _) | (refine Z2 (Z14 q) ?_;rintro r1 _ a b ⟨h,_⟩;exact Z6o h _) | exact Zr (λ_=>by simp) | exact Z1
      | ptr0=>first | exact Z15 (.int _ _) | exact Z1 | exact Zr (λ_=>by simp)
      | junk _ _ _ _=>first | exact Z1 | exact Zr (λ_=>by simp)
      | _=>first | exact Z1 | exact Zr (λ_=>by simp)
    | ptr0 =>
      cases k with
      | int j m =>
        have h1 := Z4v (P := P) (F := F) (C := C) (t := t) (r := r) (.int j m);have h2 := Z15 (P := P) (F := F) (C := C) (t := t) (r := r) (.int j m)
        first | exact h2 | exact Z15 (.int _ _) | (refine Zc λd hd=>?_;cases d<;>first | exact h1 | exact h2) | exact Zr (λ_=>by simp) | exact Z1
      | _=>first | exact Z1 | exact Zr (λ_=>by simp)
    | string a =>
      cases k with
      | string b=>exact Z19
      | _=>first | exact Z1 | exact Zr (λ_=>by simp)
    | ptr q =>
      cases k with
      | int j m=>first | (refine Z2 (Z14 q) ?_;rintro r1 _ a b ⟨h,_⟩;exact Z6o h _) | exact Z1q q (.int _ _) | (refine Zc λd hd=>?_;cases d<;>first | exact Z5y q (.int _ _) | exact Z1q q (.int _ _)) | exact Zr (λ_=>by simp) | exact Z1
      | ptr q2=>first | exact Zr (λ_=>by simp) | exact Z1 | (refine Z2 (Z14 q) ?_;rintro r1 hr1 a b ⟨h,_⟩;refine Z2 (Z14 (q2.mono hr1)) ?_;rintro r2 hr2 a2 b2 ⟨h2,_⟩;exact .dead (Zft.bind _))
      | _=>first | exact Zr (λ_=>by simp) | exact Z1
    | _=>cases k<;>first | exact Z1 | exact Zr (λ_=>by simp)
end
end Lift
namespace Lift
open Go
variable[Jk]
section
variable{P:Program}{F:Array Func}{C:Inv}{r:Ren}{α β γ δ:Type}{A:Ren->α->β->Prop}{B:Ren->γ->δ->Prop}
theorem Z8Z{b c:Nat}{f:Obj->Sem γ}{g:Obj->Sem δ}(h:r b=some c)(t:∀r',r.le r'->∀o o',OR C r' o o'->SR (PF P F) P C B r' (f o) (g o')): SR (PF P F) P C B r (getObj b >>= f) (getObj c >>= g):=SR.getObj h t
theorem Z3X{f:α->Sem γ}{y:Sem δ}: SR (PF P F) P C B r (stuck why >>= f) y:=.dead (Ze.bind _)
theorem AR.beq(hi:Inj r){a a' b b':Addr}(h:AR r a a')(k:AR r b b'): (a==b)=(a'==b'):=by
 cases h with
 | @mk x y o s h =>
 cases k with
 | @mk x2 y2 o2 s2 k =>
 rw[Bool.eq_iff_iff];simp only[beq_iff_eq,Addr.mk.injEq];constructor
 ·rintro⟨rfl,q⟩;exact⟨Y1 (h.symm.trans k),q⟩
 ·rintro⟨rfl,q⟩;exact⟨hi _ _ _ h k,q⟩
theorem Zif{xs xs' ys ys':List Value}(p:Value->Value->Bool)(q:∀x x' y y',VR r x x'->VR r y y'->p x y=p x' y')(h:Lis (VR r) xs xs')(k:Lis (VR r) ys ys'):
  (xs.zip ys).all (λ(x,y)=>p x y)=(xs'.zip ys').all (λ(x,y)=>p x y):=by
 induction h generalizing ys ys' with
 | nil=>rfl
 | cons a _ ih =>
  cases k with
  | nil=>rfl
  | cons b t=>simp only[List.zip_cons_cons,List.all_cons,q _ _ _ _ a b,ih t]
theorem Za0(nj:¬Jk.j)(hi:Inj r)(n:Nat):∀{x x' y y':Value},VR r x x'->VR r y y'->Instr.sameBits n x y=Instr.sameBits n x' y':=by
 induction n with
 | zero =>
  intro x x' y y' h k;cases h with
  | ptr q =>
   cases k with
   | ptr q2 =>
    have:=AR.beq hi q q2;simp only[Instr.sameBits];rw[Bool.eq_iff_iff]at this⊢;simpa using this
   | junk j _ _ _ =>
    rcases j with j | rfl
    ·exact absurd j nj
    ·rfl
   | _=>rfl
  | junk j _ _ _ =>
   rcases j with j | rfl
   ·exact absurd j nj
   ·cases k<;>first | rfl | (rename_i j _ _ _;rcases j with j | rfl<;>first | exact absurd j nj | rfl)
  | _=>cases k<;>first | rfl | (rename_i j _ _ _;rcases j with j | rfl<;>first | exact absurd j nj | rfl)
 | succ n ih =>
  intro x x' y y' h k;cases h with
  | iface t q =>
   cases k with
   | iface u q2=>simp only[Instr.sameBits,ih q q2]
   | junk j _ _ _ =>
    rcases j with j | rfl
    ·exact absurd j nj
    ·rfl
   | _=>rfl
  | agg h1 q1 =>
   cases k with
   | agg h2 q2=>simp only[Instr.sameBits,h1,h2,Zif _ (λ_ _ _ _ a b=>ih a b) (Arr.lis ⟨h1,q1⟩) (Arr.lis ⟨h2,q2⟩)]
   | junk j _ _ _ =>
    rcases j with j | rfl
    ·exact absurd j nj
    ·rfl
   | _=>rfl
  | ptr q =>
   cases k with
   | ptr q2 =>
    have:=AR.beq hi q q2;simp only[Instr.sameBits];rw[Bool.eq_iff_iff]at this⊢;simpa using this
   | junk j _ _ _ =>
    rcases j with j | rfl
    ·exact absurd j nj
    ·rfl
   | _=>rfl
  | junk j _ _ _ =>
   rcases j with j | rfl
   ·exact absurd j nj
   ·cases k<;>first | rfl | (rename_i j _ _ _;rcases j with j | rfl<;>first | exact absurd j nj | rfl)
  | _=>cases k<;>first | rfl | (rename_i j _ _ _;rcases j with j | rfl<;>first | exact absurd j nj | rfl)
def OpV(r:Ren):Option (Nat×Value)->Option (Nat×Value)->Prop
 | none,none=>True
 | some p,some q=>p.1=q.1/\VR r p.2 q.2
 | _,_=>False
theorem Za4{x x' y y':Value}(nj:¬Jk.j)(hi:Inj r)(h:VR r x x')(k:VR r y y'): SR (PF P F) P C VA r (Instr.keyThatStays x y) (Instr.keyThatStays x' y'):=by
 unfold Instr.keyThatStays;rw[Za0 nj hi _ h k];refine Zu (λ_=>.pure k) λ_=>Z3W λn=>?_;split
 ·exact .pure k
 ·exact .pure h
def CkAt(P:Program)(F:Array Func)(C:Inv)(e:Bool)(d:Nat):Prop:=∀(t:TypeId) {r:Ren} {x y:Value},EqOk P d t->VR r x y->SR (PF P F) P C EQ r (Instr.checkKey e d t x) (Instr.checkKey e d t y)
theorem ZgH {b:Bool} {d:Nat} (ih:CkAt P F C b d) {elem:TypeId} (ok:EqOk P d elem) {len:Nat} {xs xs':Array Value} (h:VRs r xs xs') :
    SR (PF P F) P C EQ r
      (do for i in [0:len] do Instr.checkKey b d elem (<- part elem xs (i * (<- sizeOf elem))))
      (do for i in [0:len] do Instr.checkKey b d elem (<- part elem xs' (i * (<- sizeOf elem)))) := by
  simp only[Std.Legacy.Range.forIn_eq_forIn_range'];refine Z2 (Z2N _ _ λi _ s r' hr => ?_) ?_
  · refine Zy λn=>?_
    refine Z2 (Z17 (VRs.mono hr h) _) λr1 hr1 a b q => ?_;refine Z2 (ih _ ok q) ?_;rintro r3 hr3 z _ rfl;exact .pure rfl
  · rintro r1 hr1 z _ rfl
    exact .pure rfl
theorem ZgI {b:Bool} {d:Nat} (ih:CkAt P F C b d) {fs:Array Field} (ok:∀f∈fs,EqOk P d f.type) {xs xs':Array Value} (h:VRs r xs xs') :
    SR (PF P F) P C EQ r
      (do for f in fs do
            if f.name ≠ "_" then Instr.checkKey b d f.type (<-part f.type xs f.offset))
      (do for f in fs do
            if f.name ≠ "_" then Instr.checkKey b d f.type (<-part f.type xs' f.offset)):=by
  simp only[<-Array.forIn_toList];refine Z2 (Z2N _ _ λf hf s r' hr => ?_) ?_
  · refine Zu (λ_=>?_) λ_=>.pure rfl
    refine Z2 (Z17 (VRs.mono hr h) _) λr1 hr1 a b q => ?_;refine Z2 (ih _ (ok f (by simpa using hf)) q) ?_;rintro r3 hr3 z _ rfl;exact .pure rfl
  · rintro r1 hr1 z _ rfl
    exact .pure rfl
theorem Z5u{b:Bool}(d:Nat): CkAt P F C b d:=by
 induction d with
 | zero=>exact λt r x y _ _=>Zr sU
 | succ d ih =>
  intro t r x y ok hx;unfold Instr.checkKey;refine Zc λk hk=>?_;unfold EqOk at ok;rw[hk]at ok;cases k with
  | array n e =>
   cases hx with
   | agg h1 q1=>exact ZgH ih ok ⟨h1,q1⟩
   | _=>exact Z1
  | struct fs =>
   cases hx with
   | agg h1 q1=>exact ZgI ih ok ⟨h1,q1⟩
   | _=>exact Z1
  | _=>first | exact ok.elim | exact .pure rfl
def Slw:Value->Prop
 | .int _ _=>False
 | .string _=>False
 | .bool _=>False
 | _=>True
theorem ZhV(nj:¬Jk.j){x x':Value}(h:VR r x x'): x=x'\/(Slw x/\Slw x'):=by
 cases h with
 | junk j _ _ _ =>
  rcases j with j | rfl
  ·exact absurd j nj
  ·exact .inl rfl
 | _=>first | exact .inl rfl | exact .inr ⟨trivial,trivial⟩
theorem Z21{d:TypeDesc}{x y:Value}(h:Slw x\/Slw y): Instr.sameNow d x y=none:=by
 cases d<;>first | rfl | (cases x<;>first | rfl | (cases y<;>first | rfl | exact(h.elim (λq=>False.elim q) λq=>False.elim q)))
theorem ZbT(nj:¬Jk.j){d:TypeDesc}{x x' y y':Value}(h:VR r x x')(k:VR r y y'): Instr.sameNow d x y=Instr.sameNow d x' y':=by
 rcases ZhV nj h with rfl | ⟨a,b⟩
 ·rcases ZhV nj k with rfl | ⟨a,b⟩
  ·rfl
  ·rw[Z21 (.inr a),Z21 (.inr b)]
 ·rw[Z21 (.inl a),Z21 (.inl b)]
theorem ZbB(nj:¬Jk.j){d:TypeDesc}{x x':Value}(h:VR r x x'){es es':List MapEntry}(k:Lis (ER r) es es')(i:Nat):
  (Instr.findNow d x es i=none/\Instr.findNow d x' es' i=none)\/∃p q,Instr.findNow d x es i=some p/\Instr.findNow d x' es' i=some q/\OpV r p q:=by
 induction k generalizing i with
 | nil=>exact .inr ⟨none,none,rfl,rfl,trivial⟩
 | cons a _ ih =>
  unfold Instr.findNow;rw[ZbT nj h a.1];split
  ·exact .inr ⟨_,_,rfl,rfl,rfl,a.2.1⟩
  ·exact ih _
  ·exact .inl ⟨rfl,rfl⟩
theorem Z7L{t:TypeId}(ok:EqOk P Op.maxDepth t){es es':List MapEntry}{r:Ren}(k:Lis (ER r) es es'): ∀{x x':Value} (i:Nat),VR r x x'->SR (PF P F) P C OpV r (Instr.findAsking t x es i) (Instr.findAsking t x' es' i):=by
 induction es generalizing es' r with
 | nil=>cases k;exact λi _=>.pure trivial
 | cons e es ih =>
  cases k with
  | cons a k =>
  intro x x' i h;unfold Instr.findAsking;refine Z2 (Z7J ok h a.1) ?_;rintro r1 hr1 z _ rfl;refine Zu (λ_=>.pure ⟨rfl,a.2.1.mono hr1⟩) λ_=>?_;exact ih (k.imp λ_ _=>ER.mono hr1) _ (h.mono hr1)
theorem Z6r(nj:¬Jk.j){t:TypeId}(ok:EqOk P Op.maxDepth t){x x':Value}(h:VR r x x'){es es':List MapEntry}(k:Lis (ER r) es es'): SR (PF P F) P C OpV r (Instr.findKey t x es) (Instr.findKey t x' es'):=by
 unfold Instr.findKey;refine Zc λd hd=>?_;rcases ZbB nj (d:=d) h k 0 with⟨a,b⟩ | ⟨p,q,a,b,c⟩
 ·rw[a,b];exact Z7L ok k _ h
 ·rw[a,b];exact .pure c
def Zco(P:Program)(t:TypeId):Prop:=¬Jk.j/\∀k e,P.underlying t=some (.map k e)->EqOk P Op.maxDepth k/\ZOk P e
theorem ZeJ {t:TypeId} (ok:Zco P t) {x x' i i':Value} (h:VR r x x') (k:VR r i i') (c:Bool):SR (PF P F) P C VA r (Instr.lookup t x i c) (Instr.lookup t x' i' c):=by
  unfold Instr.lookup;refine Zc λd hd => ?_;cases d<;>try exact Z1
  rename_i key elem;obtain⟨ok1, ok2⟩ := ok.2 _ _ hd;have nj := ok.1;have rest : ∀{r' : Ren} (es es' : Array MapEntry), r.le r'->Arr (ER r') es es'->SR (PF P F) P C VA r'
      (do Instr.checkKey es.isEmpty 10000 key i
          let (v,ok) <-match <-Instr.findKey key i es.toList with
            | some (_,v)=>pure (v,true)
            | none=>pure (<-zeroValue elem,false)
          pure (if c then .tuple #[v,.bool ok] else v))
      (do Instr.checkKey es'.isEmpty 10000 key i'
          let (v,ok) <-match <-Instr.findKey key i' es'.toList with
            | some (_,v)=>pure (v,true)
            | none=>pure (<-zeroValue elem,false)
          pure (if c then .tuple #[v,.bool ok] else v)):=by
    intro r' es es' hr he;have e : es.isEmpty=es'.isEmpty := by simp only[Array.isEmpty, he.1]
    rw[e];refine Z2 (Z5u 10000 _ ok1 (k.mono hr)) ?_;rintro r1 hr1 _ _ _;refine Z2 (Z6r nj ok1 (k.mono (Ren.le_trans hr hr1)) (he.imp λ_ _ => ER.mono hr1).lis) λr2 hr2 p q hpq => ?_;have out : ∀{r3 : Ren} {v v' : Value} (b : Bool), VR r3 v v'->SR (PF P F) P C VA r3 (pure (if c then .tuple #[v, .bool b] else v)) (pure (if c then .tuple #[v', .bool b] else v')) := by
      intro r3 v v' b hv;cases c
      · exact .pure hv
      · exact .pure (.tupA (Arr.two hv (.bool _)))
    cases p with
    | none =>
      cases q with
      | none=>simp only[bind_assoc,pure_bind];exact Z3h ok2 λv hv=>out _ (hv _)
      | some q=>exact hpq.elim
    | some p =>
      cases q with
      | none=>exact hpq.elim
      | some q =>
        obtain⟨p1, p2⟩ := p;obtain⟨q1, q2⟩ := q;simp only[pure_bind];exact out _ hpq.2
  cases h<;>try exact .dead (Ze.bind _)
  · simp only[pure_bind];exact rest _ _ (Ren.le_refl _) .nil
  · rename_i q
    simp only[bind_assoc];refine Z8Z q λr' hr o o' ho => ?_;cases ho with
    | map n he =>
      simp only[pure_bind];exact rest _ _ hr he
    | _=>exact Z3X
theorem ZkI{es es':Array MapEntry}(h:Arr (ER r) es es')(i:Nat){f g:MapEntry->MapEntry}(k:∀a b,ER r a b->ER r (f a) (g b)):Arr (ER r) (es.modify i f) (es'.modify i g):=by
 refine⟨by simpa using h.1,λj a b ha hb=>?_⟩;rw[Array.getElem?_modify]at ha hb;split at ha
 ·rename_i e;rw[if_pos e]at hb;obtain⟨x,hx,rfl⟩:=Y3.1 ha;obtain⟨y,hy,rfl⟩:=Y3.1 hb;exact k _ _ (h.2 j x y hx hy)
 ·rename_i e;rw[if_neg e]at hb;exact h.2 j a b ha hb
theorem Z91(hi:Inj r){t:TypeId}(ok:Zco P t){x x' i i' v v':Value}(h:VR r x x')(k:VR r i i')(hv:VR r v v'): SR (PF P F) P C EQ r (Instr.mapUpdate t x i v) (Instr.mapUpdate t x' i' v'):=by
 unfold Instr.mapUpdate;refine Zc λd hd=>?_;cases d<;>try exact Z1
 rename_i key elem;obtain⟨ok1,ok2⟩:=ok.2 _ _ hd;have nj:=ok.1;cases h with
 | map0=>exact ZgP
 | map q =>
  refine Z8Z q λr1 hr1 o o' ho=>?_;cases ho with
  | @map es es' n he =>
   refine Z2 (Z5u 10000 _ ok1 (k.mono hr1)) ?_;rintro r2 hr2 _ _ _;refine Z2 (Z6r nj ok1 (k.mono (Ren.le_trans hr1 hr2)) (he.imp λ_ _=>ER.mono hr2).lis) λr3 hr3 p q' hpq=>?_;have hr:=Ren.le_trans hr1 (Ren.le_trans hr2 hr3);have he3:=he.imp λ_ _=>ER.mono (Ren.le_trans hr2 hr3);cases p with
   | none =>
    cases q' with
    | none=>exact .setObj (hr.1 _ _ q) (.map _ (he3.push ⟨k.mono hr,hv.mono hr,rfl⟩)) sU (.pure rfl)
    | some q'=>exact hpq.elim
   | some p =>
    cases q' with
    | none=>exact hpq.elim
    | some q' =>
     obtain⟨p1,p2⟩:=p;obtain⟨q1,q2⟩:=q';obtain⟨e,_⟩:=hpq;obtain rfl:p1=q1:=e;have hk:VR r3 ((es[p1]?.map (·.key)).getD i) ((es'[p1]?.map (·.key)).getD i'):=by
      rcases he3.get p1 with⟨a,b⟩ | ⟨x,y,a,b,c⟩
      ·rw[a,b];exact k.mono hr
      ·rw[a,b];exact c.1
     refine Z2 (Za4 nj (hr.2 hi) hk (k.mono hr)) λr4 hr4 z z' hz=>?_;have hr5:=Ren.le_trans hr hr4;exact .setObj (hr5.1 _ _ q) (.map _ (ZkI (he3.imp λ_ _=>ER.mono hr4) _ λa b hab=>⟨hz,hv.mono hr5,hab.2.2⟩)) sU (.pure rfl)
  | _=>exact Z1
 | _=>exact Z1
end
end Lift
namespace Lift
open Go
variable[Jk]
section
variable{P:Program}{F:Array Func}{C:Inv}{r:Ren}{α β γ δ:Type}{A:Ren->α->β->Prop}{B:Ren->γ->δ->Prop}
theorem Z7M {t u:TypeId} (hz:ZOk P u) {x y:Value} (h:VR r x y):SR (PF P F) P C VA r (Instr.typeAssert x t u true) (Instr.typeAssert y t u true):=by
  have fails : SR (PF P F) P C VA r (do pure (.tuple #[<- zeroValue u, .bool false])) (do pure (.tuple #[<- zeroValue u, .bool false])) :=
    Z3h hz λv hv=>.pure (.tupA (Arr.two (hv r) (.bool _)))
  have holds : ∀{a b : Value}, VR r a b->SR (PF P F) P C VA r (pure (.tuple #[a, .bool true])) (pure (.tuple #[b, .bool true])) := λq => .pure (.tupA (Arr.two q (.bool _)));unfold Instr.typeAssert;refine Zc λd hd => ?_;cases d with
  | interface ms =>
    cases h with
    | iface0=>exact fails
    | iface w q =>
      refine Z0G λi _ => ?_;cases Instr.missingMethod ms i.methods with
      | none=>exact holds (.iface w q)
      | some m=>exact fails
    | _=>exact Z1
  | _ =>
    cases h with
    | iface0=>exact fails
    | iface w q=>exact Zu (λ_=>holds q) λ_=>fails
    | _=>exact Z1
def Lz(x:Value)(n:Nat):Prop:=x = .slice (some Z0) 0 0->n=0
theorem Z2O{x y:Value}(h:VR r x y): SR (PF P F) P C (λ_ a b=>a=b/\Lz x a) r (Builtin.lenOf x) (Builtin.lenOf y):=by
 cases h<;>first | exact Z1 | exact .pure ⟨rfl,λe=>by first | (cases e;done) | (cases e;rfl)⟩
theorem Z2X{x y:Value}(h:VR r x y)(n:Nat): SR (PF P F) P C (λ_ a b=>a=#[]/\b=#[]) r (Builtin.firstCells n 0 x) (Builtin.firstCells n 0 y):=by
 have e:∀a:Addr,loadCells a (0*n)=pure #[]:=λa=>by rw[Nat.zero_mul];rfl
 have e2:∀s:ByteArray,(s.extract 0 0).data=#[]:=λs=>by
  apply Array.eq_empty_of_size_eq_zero;have:=ByteArray.size_extract (a:=s) (b:=0) (e:=0);rw[ByteArray.size]at this;omega
 cases h<;>first | exact Z1 | exact .pure ⟨rfl,rfl⟩ | (unfold Builtin.firstCells;simp only[e,e2,Array.map_empty];exact .pure ⟨rfl,rfl⟩)
theorem ZZ{x y:Value}(h:VR r x y)(n m:Nat)(hm:Lz x m): SR (PF P F) P C VRs r (Builtin.firstCells n m x) (Builtin.firstCells n m y):=by
 cases h with
 | sl0 a b=>exact .pure .nil
 | sl a b q=>exact Z4r q _
 | slz j =>
  obtain rfl:=hm rfl;unfold Builtin.firstCells;rw[Nat.zero_mul];exact .pure .nil
 | string s =>
  refine .pure (Arr.map (R:=λa b=>a=b) ⟨rfl,λi x y a b=>?_⟩ λx y e=>?_)
  ·rw[a]at b;exact Y1 b
  ·subst e;exact .int _ _
 | _=>exact Z1
theorem Z47{s:Sem α}{f:α->Sem β}(h:∀w,∃a w',s.run (PF P F) w = .ok a w')(k:∀a,Dead (PF P F) (f a)):Dead (PF P F) (s >>= f):=λw=>by
 obtain⟨a,w',e⟩:=h w;obtain⟨x,w2,e2,d⟩:=k a w';refine⟨x,w2,?_,d⟩;show (Sem.bind s f).run _ _=_;rw[Sem.run_bind',e];exact e2
def Calm(Q:Program)(s:Sem α):Prop:=∀w,∃a w',s.run Q w = .ok a w'
theorem Z1u(a:α):Calm (PF P F) (pure a:Sem α):=λw=>⟨a,w,rfl⟩
theorem Z3o{s:Sem α}{f:α->Sem β}(h:Calm (PF P F) s)(k:∀a,Calm (PF P F) (f a)):Calm (PF P F) (s >>= f):=λw=>by
 obtain⟨a,w',e⟩:=h w;obtain⟨b,w2,e2⟩:=k a w';refine⟨b,w2,?_⟩;show (Sem.bind s f).run _ _=_;rw[Sem.run_bind',e];exact e2
theorem Zbx(b:Nat):Calm (PF P F) (shape b):=λw=>⟨_,w,rfl⟩
theorem Z9n(a:Addr):Calm (PF P F) (frozen a):=λw=>⟨_,w,rfl⟩
theorem Z62(a:Addr)(n:Nat):Calm (PF P F) (Builtin.holdsCells a n):=by
 unfold Builtin.holdsCells;refine Z3o (Zbx _) λs=>?_;cases s<;>exact Z1u _
theorem Zby (a b c:Nat) (x:Option Addr) (y:Value):Calm (PF P F) (Builtin.mayShare a b c x y):=by
  have tail:Calm (PF P F) (match y with
      | .slice (some b) _ _ => do pure (!(<- Builtin.holdsCells b (c * a)) || x.any (·.block == b.block))
      | _=>pure false:Sem Bool):=by
    cases y with
    | slice b n m =>
      cases b with
      | none=>exact Z1u _
      | some b=>exact Z3o (Z62 _ _) λ_=>Z1u _
    | _=>exact Z1u _
  unfold Builtin.mayShare;cases x with
  | none =>
    simp only[pure_bind];exact tail
  | some x =>
    simp only[bind_assoc];refine Z3o (Z62 _ _) λz => ?_;cases z
    · simp only[pure_bind]
      exact Z1u (P:=P) (F:=F) _
    · simp only[bind_assoc,pure_bind]
      refine Z3o (Z9n _) λz => ?_;cases z
      · exact tail
      · exact Z1u (P:=P) (F:=F) _
theorem Z22 {elem:TypeId} (hz:ZOk P elem) {size m sCap need:Nat} {s s' x x':Value} (hs:VR r s s') (h:VR r x x') (k:Nat) (hm:Lz s m) (hk:Lz x k) :
    SR (PF P F) P C VA r
      (do let newCap <- choose (.appendCap need sCap elem)
          askRoom (newCap*(<-typeInfo elem).bytes)
          let old <-Builtin.firstCells size m s
          let new <-Builtin.firstCells size k x
          let rest:=Builtin.zeroCells (<-zeroValue elem).cells (newCap-need)
          pure (.slice (some (<-newRow elem (old++new++rest))) need newCap))
      (do let newCap <- choose (.appendCap need sCap elem)
          askRoom (newCap*(<-typeInfo elem).bytes)
          let old <-Builtin.firstCells size m s'
          let new <-Builtin.firstCells size k x'
          let rest:=Builtin.zeroCells (<-zeroValue elem).cells (newCap-need)
          pure (.slice (some (<-newRow elem (old++new++rest))) need newCap)):=by
  refine Z3W λc => ?_;refine Z0G λi _ => ?_;refine Z2 Z6p ?_;rintro r1 hr1 _ _ _;refine Z2 (ZZ (hs.mono hr1) _ _ hm) λr2 hr2 a b hab => ?_;refine Z2 (ZZ (h.mono (Ren.le_trans hr1 hr2)) _ _ hk) λr3 hr3 a2 b2 hab2 => ?_;refine Z3h hz λv hv => ?_;exact Z2 (Z2r (((VRs.mono hr3 hab).append hab2).append (Z82 (VR.arr1 hv) _))) λ_ _ a b q => .pure (.sl _ _ q)
def Zk6(P:Program)(ts:Array TypeId):Prop:=
 (∀t,ts[1]?=some t->(∃e,P.underlying t=some (.slice e))\/P.underlying t=some .string)/\∀t e,ts[0]?=some t->P.underlying t=some (.slice e)->ZOk P e
theorem ZeF {ts:Array TypeId} (ok:Zk6 P ts) {t:TypeId} {xs ys:Array Value} (h:VRs r xs ys):SR (PF P F) P C VA r (Builtin.append_ ts t xs) (Builtin.append_ ts t ys):=by
  unfold Builtin.append_;cases e0 : ts[0]? with
  | none=>exact Z1
  | some st =>
  rcases h.get 0 with⟨a0,b0⟩ | ⟨s,s',a0,b0,hs⟩
  · simp only[a0,b0];exact Z1
  rcases h.get 1 with⟨a1,b1⟩ | ⟨x,x',a1,b1,hx⟩
  · simp only[a0,b0,a1,b1];exact Z1
  simp only[a0, b0, a1, b1];refine Zc λd hd => ?_;cases d<;>try exact Z1
  rename_i elem;have hz := ok.2 _ _ e0 hd
  have huge : ∀ (size sLen n : Nat) (base : Option Addr) (x : Value) (w : Unit -> Sem Value), Dead (PF P F) ((do
      let b <-Builtin.mayShare size sLen n base x
      if (!b) = true then do
          mark Mark.noRoom
          unsupported (Unsupported.resourceLimit "append: a slice or a string whose bytes no memory bears")
        else unsupported (Unsupported.resourceLimit "append: a slice or a string whose bytes no memory bears")) >>= w):=by
    intro size sLen n base x w;refine(Z47 (Zby _ _ _ _ _) λb => ?_).bind _;cases b
    · exact Z47 (λw=>⟨(),w,rfl⟩) λ_=>Zq sU
    · exact Zq sU
  have flat:∀{f g:Bool->Sem Value},SR (PF P F) P C VA r (f false) (g false) ->
      SR (PF P F) P C VA r (match ts[1]? with | some xType=>(underlying xType >>= λd=>(pure (match d with | .int _=>true | _=>false):Sem Bool) >>= f) | none=>(pure false:Sem Bool) >>= f)
        (match ts[1]? with | some xType=>(underlying xType >>= λd=>(pure (match d with | .int _=>true | _=>false):Sem Bool) >>= g) | none=>(pure false:Sem Bool) >>= g):=by
    intro f g h;cases e1 : ts[1]? with
    | none=>exact h
    | some t1 =>
      refine Zc λd1 hd1 => ?_;rcases ok.1 t1 e1 with⟨e, q⟩ | q
      · obtain rfl:d1 = .slice e:=Y1 (hd1.symm.trans q)
        exact h
      · obtain rfl:d1 = .string:=Y1 (hd1.symm.trans q)
        exact h
  cases hs with
  | sl0 sLen sCap =>
    refine Zy λsize => ?_;refine flat ?_;simp only[pure_bind, Bool.false_eq_true, if_false, Bool.not_false, if_true, false_or];refine Z2 (Z2O hx) ?_;rintro r1 hr1 n _ ⟨rfl, hn⟩;refine Zu (λ_ => Z2 (ZZ (hx.mono hr1) _ _ hn) λ_ _ _ _ _ => .pure (.sl0 _ _)) λ_ => ?_;refine Z0G λi _ => ?_;refine Zu (λ_ => Z3g Z0v) λ_ => ?_;refine Z0G λi2 _ => ?_;exact Zu (λ_ => .dead (huge _ _ _ _ _ _)) λ_ => Z22 hz (.sl0 _ _) (hx.mono hr1) _ (λe => by cases e) hn
  | sl sLen sCap q =>
    refine Zy λsize => ?_;refine flat ?_;simp only[pure_bind, Bool.false_eq_true, if_false, Bool.not_false, if_true, false_or];refine Z2 (Z2O hx) ?_;rintro r1 hr1 n _ ⟨rfl, hn⟩;refine Zu (λ_ => Z2 (ZZ (hx.mono hr1) _ _ hn) λr2 hr2 u v huv => ?_) λ_ => ?_
    · refine Z2 (Z23 huv.lis ((q.mono (Ren.le_trans hr1 hr2)).add _) 0) λr3 hr3 _ _ _=>?_
      exact .pure (.sl _ _ (q.mono (Ren.le_trans hr1 (Ren.le_trans hr2 hr3))))
    refine Z0G λi _ => ?_;refine Zu (λ_ => Z3g Z0v) λ_ => ?_;refine Z0G λi2 _ => ?_;exact Zu (λ_ => .dead (huge _ _ _ _ _ _)) λ_ => Z22 hz (.sl _ _ (q.mono hr1)) (hx.mono hr1) _ (λe => by cases e; rfl) hn
  | slz jz =>
    refine Zy λsize => ?_;refine flat ?_;simp only[pure_bind, Bool.false_eq_true, if_false, Bool.not_false, if_true, false_or];refine Z2 (Z2O hx) ?_;rintro r1 hr1 n _ ⟨rfl, hn⟩;refine Zu (λq => ?_) λ_ => ?_
    · obtain rfl:n=0:=by omega
      refine Z2 (Z2X (hx.mono hr1) _) ?_;rintro r2 hr2 _ _ ⟨rfl, rfl⟩;exact .pure (.slz jz)
    refine Z0G λi _ => ?_;refine Zu (λ_ => Z3g Z0v) λ_ => ?_;refine Z0G λi2 _ => ?_;exact Zu (λ_ => .dead (huge _ _ _ _ _ _)) λ_ => Z22 hz (.slz jz) (hx.mono hr1) _ (λe => rfl) hn
  | _=>exact Z1
theorem Zjz{ts:Array TypeId}{t:TypeId}{xs ys:Array Value}(h:VRs r xs ys): SR (PF P F) P C VA r (Builtin.copy_ ts t xs) (Builtin.copy_ ts t ys):=by
 unfold Builtin.copy_;cases e0:ts[0]? with
 | none=>exact Z1
 | some st =>
 rcases h.get 0 with⟨a0,b0⟩ | ⟨s,s',a0,b0,hs⟩
 ·simp only[a0,b0];exact Z1
 rcases h.get 1 with⟨a1,b1⟩ | ⟨x,x',a1,b1,hx⟩
 ·simp only[a0,b0,a1,b1];exact Z1
 simp only[a0,b0,a1,b1];refine Zc λd hd=>?_;cases d<;>try exact Z1
 cases hs with
 | sl0 n c =>
  refine Z2 (Z2O hx) ?_;rintro r1 hr1 n _ ⟨rfl,hn⟩;refine Zy λm=>?_;exact Z2 (ZZ (hx.mono hr1) _ _ (λe=>by rw[hn e];exact Nat.zero_min _)) λ_ _ _ _ _=>.pure (.int _ _)
 | sl n c q =>
  refine Z2 (Z2O hx) ?_;rintro r1 hr1 n _ ⟨rfl,hn⟩;refine Zy λm=>?_;refine Z2 (ZZ (hx.mono hr1) _ _ (λe=>by rw[hn e];exact Nat.zero_min _)) λr2 hr2 u v huv=>?_;exact Z2 (Z23 huv.lis (q.mono (Ren.le_trans hr1 hr2)) 0) λ_ _ _ _ _=>.pure (.int _ _)
 | slz jz =>
  refine Z2 (Z2O hx) ?_;rintro r1 hr1 n _ ⟨rfl,hn⟩;refine Zy λm=>?_;rw[show Nat.min n 0=0 from Nat.min_zero n];refine Z2 (Z2X (hx.mono hr1) _) ?_;rintro r2 hr2 _ _ ⟨rfl,rfl⟩;exact .pure (.int _ _)
 | _=>exact Z1
theorem ZlD{ts:Array TypeId}{t:TypeId}{xs ys:Array Value}(h:VRs r xs ys): SR (PF P F) P C VA r (Builtin.cap_ ts t xs) (Builtin.cap_ ts t ys):=by
 unfold Builtin.cap_;cases e0:ts[0]? with
 | none=>exact Z1
 | some st =>
 rcases h.get 0 with⟨a0,b0⟩ | ⟨s,s',a0,b0,hs⟩
 ·simp only[a0,b0];exact Z1
 simp only[a0,b0];refine Zc λd hd=>?_;cases d with
 | array n e=>exact .pure (.int _ _)
 | pointer e =>
  refine Zc λd2 hd2=>?_;cases d2<;>first | exact .pure (.int _ _) | exact Z1
 | slice e=>cases hs<;>first | exact .pure (.int _ _) | exact Z1
 | chan e f=>cases hs<;>exact Z1
 | _=>exact Z1
theorem ZlE{ts:Array TypeId}{t:TypeId}{xs ys:Array Value}(h:VRs r xs ys): SR (PF P F) P C VA r (Builtin.len_ ts t xs) (Builtin.len_ ts t ys):=by
 unfold Builtin.len_;cases e0:ts[0]? with
 | none=>exact Z1
 | some st =>
 rcases h.get 0 with⟨a0,b0⟩ | ⟨s,s',a0,b0,hs⟩
 ·simp only[a0,b0];exact Z1
 simp only[a0,b0];refine Zc λd hd=>?_;cases d with
 | array n e=>exact .pure (.int _ _)
 | pointer e =>
  refine Zc λd2 hd2=>?_;cases d2<;>first | exact Z1 | exact .pure (.int _ _)
 | map k e =>
  cases hs with
  | map0=>exact .pure (.int _ _)
  | map q =>
   refine Z8Z q λr1 hr1 o o' ho=>?_;cases ho with
   | map n he =>
    have e:=he.1;simp only[e];exact .pure (.int _ _)
   | _=>exact Z1
  | _=>exact Z1
 | _=>cases hs<;>first | exact Z1 | exact .pure (.int _ _)
theorem ZjD{x y u v:Value}(h:VR r x y)(k:VR r u v): SR (PF P F) P C VA r (Builtin.min2 x u) (Builtin.min2 y v):=by
 cases h with
 | int i n=>cases k<;>first | exact .pure (.int _ _) | exact Z1 | exact Zr sU
 | string s =>
  cases k with
  | string s2=>exact Z2 Z19 λ_ _ a b q=>Z2 (Z5s q) (by rintro _ _ z _ rfl;exact .pure (.string _))
  | _=>first | exact Z1 | exact Zr sU
 | _=>cases k<;>first | exact Z1 | exact Zr sU
theorem ZjC{x y u v:Value}(h:VR r x y)(k:VR r u v): SR (PF P F) P C VA r (Builtin.max2 x u) (Builtin.max2 y v):=by
 cases h with
 | int i n=>cases k<;>first | exact .pure (.int _ _) | exact Z1 | exact Zr sU
 | string s =>
  cases k with
  | string s2=>exact Z2 Z19 λ_ _ a b q=>Z2 (Z5s q) (by rintro _ _ z _ rfl;exact .pure (.string _))
  | _=>first | exact Z1 | exact Zr sU
 | _=>cases k<;>first | exact Z1 | exact Zr sU
theorem Zbd{f:Value->Value->Sem Value}(hf:∀{r:Ren} {x y u v:Value},VR r x y->VR r u v->SR (PF P F) P C VA r (f x u) (f y v)){xs ys:List Value}{r:Ren}(h:Lis (VR r) xs ys):
  ∀{x y:Value},VR r x y->SR (PF P F) P C VA r (xs.foldlM f x) (ys.foldlM f y):=by
 induction xs generalizing ys r with
 | nil=>cases h;exact λq=>.pure q
 | cons a xs ih =>
  cases h with
  | cons a t =>
  intro x y q;simp only[List.foldlM_cons];exact Z2 (hf q a) λr1 hr1 u v huv=>ih (t.imp λ_ _=>VR.mono hr1) huv
theorem ZlH{ts:Array TypeId}{t:TypeId}{xs ys:Array Value}(h:VRs r xs ys): SR (PF P F) P C VA r (Builtin.min_ ts t xs) (Builtin.min_ ts t ys):=by
 unfold Builtin.min_;have:=h.lis;generalize xs.toList=l at this⊢;generalize ys.toList=l' at this⊢;cases this with
 | nil=>exact Z1
 | cons a t=>exact Zbd ZjD t a
theorem ZlG{ts:Array TypeId}{t:TypeId}{xs ys:Array Value}(h:VRs r xs ys): SR (PF P F) P C VA r (Builtin.max_ ts t xs) (Builtin.max_ ts t ys):=by
 unfold Builtin.max_;have:=h.lis;generalize xs.toList=l at this⊢;generalize ys.toList=l' at this⊢;cases this with
 | nil=>exact Z1
 | cons a t=>exact Zbd ZjC t a
theorem Zc8{x y:Value}(h:VR r x y): SR (PF P F) P C VA r (Instr.panic x) (Instr.panic y):=by
 cases h with
 | iface t q=>exact .panic (.iface t q)
 | iface0 =>
  refine Z2 (A:=EQ) (SR.env λe=>SR.program (.pure rfl)) ?_;rintro r1 hr1 n _ rfl;refine Zu (λ_=>.panic .iface0) λ_=>?_;refine Z18 ?_;unfold elemOf;simp only[bind_assoc];refine Zc λd hd=>?_;cases d<;>try exact Z3X
  simp only[pure_bind];exact Z2 (Z5z (.aggA .nil)) λ_ _ a b q=>.panic (.iface _ (.ptr q))
 | _=>exact Z1
def CvOk(P:Program)(s d:TypeId):Prop:=(∃k,P.underlying s=some (.int k))/\∃k,P.underlying d=some (.int k)
theorem Zc1{s d:TypeId}(ok:CvOk P s d){x y:Value}(h:VR r x y): SR (PF P F) P C VA r (convert s d x) (convert s d y):=by
 obtain⟨⟨k,hk⟩,⟨j,hj⟩⟩:=ok;unfold convert;refine Zc λa ha=>Zc λb hb=>?_;obtain rfl:a = .int k:=Y1 (ha.symm.trans hk);obtain rfl:b = .int j:=Y1 (hb.symm.trans hj);cases h<;>first | exact .pure (.int _ _) | exact Zr sU
end
end Lift
namespace Lift
open Go
variable[Jk]
inductive NR(C:Inv)(G:FuncId->Prop)(df:Prop)(r:Ren):Next->Next->Prop
 | value {x y} (h:VR r x y):NR C G df r (.value x) (.value y)
 | skip:NR C G df r .skip .skip
 | enter {f xs ys} (g:G f) (h:VRs r xs ys):NR C G df r (.enter f xs) (.enter f ys)
 | round {l l' f xs ys a b} (hl:r l=some l') (hf:C.fn f) (h:VRs r xs ys) (ha:C.code a) (hb:C.code b):NR C G df r (.round l f xs a b) (.round l' f ys a b)
 | defer {d d'} (hd:df) (h:DR r d d'):NR C G df r (.defer d) (.defer d')
 | recover:NR C G df r .recover .recover
structure Strip(P:Program)(F:Array Func)(K:Code->Prop)(G:FuncId->Prop):Prop where
 same:∀f:FuncId,Jk.gd f->F[f]?=P.funcs[f]?/\¬Jk.law f
 name:∀(f:FuncId) (fn:Func),Jk.gd f->F[f]?=some fn->(fn.name == "runtime.NumGoroutine")=false
 own:∀(f:FuncId) (fn:Func) (c:Code),Jk.gd f->F[f]?=some fn->fn.body=some c->P.funcs[f]?=some fn/\K c/\G f
 none:∀(f:FuncId) (fn:Func),Jk.gd f->F[f]?=some fn->fn.body = .none->Extern.findNext fn = .none/\Extern.find fn = .none/\(fn.name.endsWith ".init" && !fn.name.startsWith "(" && !fn.name.startsWith "gosem.")=false
section
variable{P:Program}{F:Array Func}{C:Inv}{K:Code->Prop}{G:FuncId->Prop}{df:Prop}{r:Ren}{α β γ δ:Type}{A:Ren->α->β->Prop}{B:Ren->γ->δ->Prop}
theorem Za3(S:Strip P F K G){f:FuncId}(gf:Jk.gd f){xs ys:Array Value}(h:VRs r xs ys): SR (PF P F) P C (NR C G df) r (callFunc f xs) (callFunc f ys):=by
 unfold callFunc;refine Z18 ?_;have e0:(PF P F).funcs=F:=rfl;rw[e0];cases e:F[f]? with
 | none=>exact Z1
 | some fn =>
  have hn:=S.name f fn gf e;cases hb:fn.body with
  | some c =>
   obtain⟨hp,hc,hg⟩:=S.own f fn c gf e hb;simp only[hp,hn,hb,Bool.false_eq_true,if_false,Option.isNone_some];exact .pure (.enter hg h)
  | none =>
   obtain⟨h1,h2,h3⟩:=S.none f fn gf e hb;refine .dead ?_;simp only[hn,hb,Bool.false_eq_true,if_false,Option.isNone_none,if_true,h1,h2,h3];exact Z47 (λw=>⟨(),w,rfl⟩) λ_=>Zq sU
theorem ZjY{ps:List Tmp}{az bs:List Value}(h:Lis (VR r) az bs): ∀{us vs:Array Value},VRs r us vs ->
  VRs r ((ps.zip az).foldl (λtmps (t,a)=>tmps.setIfInBounds t a) us) ((ps.zip bs).foldl (λtmps (t,a)=>tmps.setIfInBounds t a) vs):=by
 induction h generalizing ps with
 | nil=>simp
 | cons a _ ih =>
  cases ps with
  | nil=>simp
  | cons p ps =>
   intro us vs k;simp only[List.zip_cons_cons,List.foldl_cons];exact ih (k.set _ a)
theorem Z1L{l l':Nat}(h:r l=some l'){f:Loop->Sem γ}{g:Loop->Sem δ}(t:∀r',r.le r'->∀o o',LpR C r' o o'->SR (PF P F) P C B r' (f o) (g o')): SR (PF P F) P C B r (Instr.getLoop l >>= f) (Instr.getLoop l' >>= g):=by
 unfold Instr.getLoop;simp only[bind_assoc];refine Z8Z h λr' hr o o' ho=>?_;cases ho with
 | loop q=>exact t r' hr _ _ q
 | _=>exact Z3X
theorem ZgV{l l':Nat}(h:r l=some l'){xs ys:Array Value}(k:VRs r xs ys): SR (PF P F) P C (NR C G df) r (Instr.yield l xs) (Instr.yield l' ys):=by
 unfold Instr.yield;refine Z1L h λr' hr o o' ho=>?_;rw[k.1,ho.params,ho.fn.1];refine Zu (λ_=>Z3X) λ_=>?_;rw[ho.assign.1,ho.body.1];refine .pure (.round (hr.1 _ _ h) (ho.fn.1▸ho.fn.2) ?_ (ho.assign.1▸ho.assign.2) (ho.body.1▸ho.body.2));rw[<-Array.foldl_toList,<-Array.foldl_toList];simp only[Array.toList_zip];exact ZjY (VRs.mono hr k).lis ho.tmps
theorem Z2q(S:Strip P F K G){t t':Target}{xs ys:Array Value}(h:TR r t t')(k:VRs r xs ys): SR (PF P F) P C (NR C G df) r (invoke t xs) (invoke t' ys):=by
 cases h with
 | nil=>exact Z16
 | collected q=>exact Z1
 | fn hf hx =>
  cases hf with
  | func f gf=>exact Za3 S gf (k.append hx)
  | yield q=>exact ZgV q k
def RdOk:Operand->Prop
 | .const v=>Z5T v
 | .global _=>False
 | .func f=>Jk.gd f
 | _=>True
def EnvR(r:Ren)(e e':Operand->Value):Prop:=∀x,RdOk x->VR r (e x) (e' x)
def Z85(P:Program):Prop:=P.info? 1000000=none
def ClOk(P:Program)(c:Call):Prop:=(∀x∈c.args,RdOk x)/\match c.callee with
 | .value f=>RdOk f/\Z85 P
 | .invoke _ _=>False
 | .builtin .append=>Zk6 P c.argTypes
 | .builtin .copy | .builtin .len | .builtin .cap | .builtin .min | .builtin .max | .builtin .recover=>True
 | .builtin _=>False
def OpOk(P:Program):Op->Prop
 | .move x | .assign x=>RdOk x
 | .pick c a b=>RdOk c/\RdOk a/\RdOk b
 | .alloc t=>ZOk P t
 | .box _ x=>RdOk x
 | .build t ps=>ZOk P t/\∀p∈ps,RdOk p.2
 | .buildSlice t _ ps=>(∀e,P.underlying t=some (.slice e)->ZOk P e)/\∀p∈ps,RdOk p.2
 | .load _ a=>RdOk a
 | .store _ a x=>RdOk a/\RdOk x
 | .nilCheck x=>RdOk x/\Z85 P
 | .binOp op t x y _=>Zfb P op t/\RdOk x/\RdOk y
 | .unOp _ _ x=>RdOk x
 | .convert s d x=>CvOk P s d/\RdOk x
 | .makeInterface _ x=>RdOk x
 | .makeFunc fn xs ys=>(∃f,fn = .func f/\Jk.gd f)/\(∀x∈xs,RdOk x)/\∀x∈ys,RdOk x
 | .makeMap _ x=>∀y,x=some y->RdOk y
 | .makeSlice t l c=>(∀e,P.underlying t=some (.slice e)->ZOk P e)/\RdOk l/\RdOk c
 | .slice _ x lo hi mx=>RdOk x/\(∀y,lo=some y->RdOk y)/\(∀y,hi=some y->RdOk y)/\∀y,mx=some y->RdOk y
 | .fieldAddr _ x _=>RdOk x
 | .indexAddr _ x i | .index _ x i=>RdOk x/\RdOk i
 | .lookup t x i _=>Zco P t/\RdOk x/\RdOk i
 | .mapUpdate t m k x=>Zco P t/\RdOk m/\RdOk k/\RdOk x
 | .typeAssert x _ u ok=>ok=true/\ZOk P u/\RdOk x
 | .extract t _=>RdOk t
 | .call c=>ClOk P c
 | .defer c=>ClOk P c/\∃f,c.callee = .value f/\∃g,f = .func g
 | .panic x=>RdOk x
 | _=>False
theorem Z4f{x y:Value}{xs ys:Array Value}(nz:x≠J0)(h:VR r x y)(k:VRs r xs ys): SR (PF P F) P C DR r (Deferred.ofValue x xs) (Deferred.ofValue y ys):=by
 cases h with
 | func hf hx q hy q2=>exact .pure ⟨.fn hf ⟨hy,q2⟩,Arr.append ⟨hx,q⟩ k⟩
 | func0=>exact .pure ⟨.nil,k⟩
 | junk _ _ _ _=>exact absurd rfl nz
 | _=>exact Z1
theorem Z9u(hb:Z85 P)(n:Nat)(v:Value)(name:String):Dead (PF P F) (method n 1000000 v name):=by
 cases n with
 | zero=>unfold method;first | exact Ze | exact Zq sU
 | succ n=>unfold method;exact Z57 λi hi=>by rw[hb]at hi;cases hi
theorem Z48 (hb : Z85 P) (xs : Array Value) : Dead (PF P F) (do let d <- Deferred.ofValue J0 xs; invoke d.target d.args) := by
  show Dead _ (invoke (.fn (.method "") #[]) (#[.iface 1000000 (.bool false)]++xs));have e : (#[Value.iface 1000000 (.bool false)]++xs)[0]?=some (.iface 1000000 (.bool false)) := by rw[Array.getElem?_append_left dC]; rfl
  unfold invoke;simp only[e];unfold callMethod;refine Z2b ?_;exact(Z9u hb _ _ _).bind _
theorem Zd9 (hb:Z85 P) (n:Nat) {f:Option Bool->Sem α} (h:Dead (PF P F) (f none)):Dead (PF P F) (nilAhead n 1000000 (.bool false) "" >>= f):=by
 cases n with
 | zero=>exact h
 | succ n=>unfold nilAhead;exact(Z57 λi hi=>by rw[hb]at hi;cases hi).bind _
theorem sr_v {x : Sem Value} {y : Sem Value} (h : SR (PF P F) P C VA r x y) : SR (PF P F) P C (NR C G df) r (do pure (.value (<- x))) (do pure (.value (<- y))) := Z2 h λ_ _ a b q => .pure (.value q)
theorem sr_u{x:Sem Unit}{y:Sem Unit}(h:SR (PF P F) P C EQ r x y):SR (PF P F) P C (NR C G df) r (do x;pure .skip) (do y;pure .skip):=Z2 h λ_ _ a b q=>.pure .skip
theorem Z2F{e e':Operand->Value}(h:EnvR r e e'){xs:Array Operand}(k:∀x∈xs,RdOk x):VRs r (xs.map e) (xs.map e'):=by
 refine⟨sU,λi x y a b=>?_⟩;simp only[Array.getElem?_map]at a b;obtain⟨z,hz,rfl⟩:=Y3.1 a;rw[hz]at b;obtain rfl:=Y1 b;exact h z (k z (Yk hz))
theorem Z8r{e e':Operand->Value}(h:EnvR r e e'){xs:Array (Nat×Operand)}(k:∀x∈xs,RdOk x.2): Arr (PaR r) (xs.map λ(i,x)=>(i,e x)) (xs.map λ(i,x)=>(i,e' x)):=by
 refine⟨sU,λi x y a b=>?_⟩;simp only[Array.getElem?_map]at a b;obtain⟨z,hz,rfl⟩:=Y3.1 a;rw[hz]at b;obtain rfl:=Y1 b;exact⟨rfl,h _ (k z (Yk hz))⟩
theorem Z72{e e':Operand->Value}(h:EnvR r e e'){x:Option Operand}(k:∀y,x=some y->RdOk y): OpR (VR r) (x.map e) (x.map e'):=by
 cases x with
 | none=>exact .none
 | some x=>exact .some (h x (k x rfl))
theorem Z6v{e e':Operand->Value}(h:EnvR r e e'){c:Call}{t:TypeId}{f:Operand}(hc:c.callee = .value f)(ok:ClOk P c)(nz:e f≠J0): SR (PF P F) P C DR r (resolve e c t) (resolve e' c t):=by
 obtain⟨h1,h2⟩:=ok;rw[hc]at h2;unfold resolve;rw[hc];exact Z4f nz (h f h2.1) (Z2F h h1)
theorem Zjy (S:Strip P F K G) {e e':Operand->Value} (h:EnvR r e e') {c:Call} {t:TypeId} (ok:ClOk P c) :
    SR (PF P F) P C (NR C G df) r (do let d <- resolve e c t; invoke d.target d.args) (do let d <- resolve e' c t; invoke d.target d.args) := by
  cases hc:c.callee with
  | value f =>
    by_cases nz:e f=J0
    · obtain⟨_,h2⟩:=ok
      rw[hc]at h2;refine .dead ?_;unfold resolve;rw[hc];dsimp only;rw[nz];exact Z48 h2.2 _
    · exact Z2 (Z6v h hc ok nz) λ_ _ a b q=>Z2q S q.1 q.2
  | invoke x n=>unfold ClOk at ok;rw[hc]at ok;exact ok.2.elim
  | builtin b =>
    obtain⟨h1, h2⟩ := ok;rw[hc]at h2;have k := Z2F h h1;unfold resolve;rw[hc];simp only[pure_bind];cases b<;>first | exact h2.elim | exact sr_v (ZeF h2 k) | exact sr_v (Zjz k) | exact sr_v (ZlE k) | exact sr_v (ZlD k) | exact sr_v (ZlH k) | exact sr_v (ZlG k) | exact .pure .recover
theorem Z8Y(S:Strip P F K G)(hi:Inj r){e e':Operand->Value}(he:∀g,e (.func g) = .func (.func g) #[] #[])(h:EnvR r e e'){o:Oper}(ok:OpOk P o.op): SR (PF P F) P C (NR C G (∃c,o.op = .defer c)) r (execOp e o) (execOp e' o):=by
 unfold execOp;cases ho:o.op with
 | move x=>rw[ho]at ok;exact .pure (.value (h x ok))
 | assign x=>rw[ho]at ok;exact .pure (.value (h x ok))
 | pick c a b =>
  rw[ho]at ok;refine Z2 (Z5s (h c ok.1)) ?_;rintro r1 hr1 z _ rfl;cases z
  ·exact .pure (.value ((h b ok.2.2).mono hr1))
  ·exact .pure (.value ((h a ok.2.1).mono hr1))
 | alloc t=>rw[ho]at ok;exact sr_v (ZgE ok)
 | box t x=>rw[ho]at ok;exact sr_v (ZlC (h x ok))
 | build t ps=>rw[ho]at ok;exact sr_v (ZgG ok.1 (Z8r h ok.2))
 | buildSlice t n ps=>rw[ho]at ok;exact sr_v (Z7I ok.1 (Z8r h ok.2))
 | load t a=>rw[ho]at ok;exact sr_v (ZeI (h a ok))
 | store t a x=>rw[ho]at ok;exact sr_u (Zcb (h a ok.1) (h x ok.2))
 | nilCheck x =>
  rw[ho]at ok;have hx:=h x ok.1;dsimp only;generalize e x=v at hx⊢;generalize e' x=v' at hx⊢;cases hx with
  | func hf a b c d =>
   cases hf with
   | func f gf=>exact .pure (.value (.func (.func f gf) a b c d))
   | yield q=>exact .pure (.value (.func (.yield q) a b c d))
  | ptr0=>exact Z16
  | func0=>exact Z16
  | iface0=>exact Z16
  | bool b=>exact .pure (.value (.bool b))
  | int k n=>exact .pure (.value (.int k n))
  | string s=>exact .pure (.value (.string s))
  | ptr q=>exact .pure (.value (.ptr q))
  | sl0 a b=>exact .pure (.value (.sl0 a b))
  | sl a b q=>exact .pure (.value (.sl a b q))
  | slz j=>exact .pure (.value (.slz j))
  | map0=>exact .pure (.value .map0)
  | map q=>exact .pure (.value (.map q))
  | iface t q=>exact .pure (.value (.iface t q))
  | agg a b=>exact .pure (.value (.agg a b))
  | tuple a b=>exact .pure (.value (.tuple a b))
  | junk j _ _ _ =>
   refine .dead ?_;unfold J0;dsimp only;refine Z2b ?_;exact Zd9 ok.2 _ λw=>⟨_,w,rfl,trivial⟩
 | binOp op t x y u =>
  rw[ho]at ok;refine sr_v ?_;refine Z2 (Zc2 (h x ok.2.1) (h y ok.2.2)) ?_;rintro r1 hr1 _ _ _;exact ZgF ok.1 ((h x ok.2.1).mono hr1) ((h y ok.2.2).mono hr1)
 | unOp op t x=>rw[ho]at ok;exact sr_v (ZgU (h x ok))
 | convert s d x=>rw[ho]at ok;exact sr_v (Zc1 ok.1 (h x ok.2))
 | makeInterface t x=>rw[ho]at ok;exact sr_v (Z4u (h x ok))
 | makeFunc fn xs ys =>
  rw[ho]at ok;obtain⟨⟨f,rfl,gf⟩,h1,h2⟩:=ok;exact sr_v (Za6 (.func f gf) (Z2F h h1) (Z2F h h2))
 | makeMap t x=>rw[ho]at ok;exact sr_v (Zc7 (Z72 h ok))
 | makeSlice t l c=>rw[ho]at ok;exact sr_v (Z90 ok.1 (h l ok.2.1) (h c ok.2.2))
 | slice t x lo hi mx=>rw[ho]at ok;exact sr_v (Zca (h x ok.1) (Z72 h ok.2.1) (Z72 h ok.2.2.1) (Z72 h ok.2.2.2))
 | fieldAddr s x f=>rw[ho]at ok;exact sr_v (Zc5 (h x ok) f)
 | indexAddr t x i=>rw[ho]at ok;exact sr_v (Zc6 (h x ok.1) (h i ok.2))
 | index t x i=>rw[ho]at ok;exact sr_v (ZgO (h x ok.1) (h i ok.2))
 | lookup t x i c=>rw[ho]at ok;exact sr_v (ZeJ ok.1 (h x ok.2.1) (h i ok.2.2) c)
 | mapUpdate t m k x=>rw[ho]at ok;exact sr_u (Z91 hi ok.1 (h m ok.2.1) (h k ok.2.2.1) (h x ok.2.2.2))
 | typeAssert x t u c =>
  rw[ho]at ok;obtain⟨rfl,h1,h2⟩:=ok;exact sr_v (Z7M h1 (h x h2))
 | extract t i=>rw[ho]at ok;exact sr_v (Zc4 (h t ok) i)
 | call c=>rw[ho]at ok;exact Zjy S h ok
 | defer c =>
  rw[ho]at ok;obtain⟨h1,f,hc,hf⟩:=ok;have nz:e f≠J0:=λq=>by
   have h2:=h1.2;rw[hc]at h2;obtain⟨g,rfl⟩:=hf;rw[he]at q;unfold J0 at q;cases q
  exact Z2 (Z6v h hc h1 nz) λ_ _ a b q=>.pure (.defer ⟨_,rfl⟩ q)
 | panic x=>rw[ho]at ok;exact sr_v (Zc8 (h x ok))
 | _=>rw[ho]at ok;exact ok.elim
end
end Lift
namespace Lift
open Go
variable[Jk]
def Zfc:Op->Prop
 | .call c=>(∃f,c.callee = .value (.func f)/\Jk.jmp f/\c.args.size=Jk.ar f)/\∀x∈c.args,∃t,x = .tmp t
 | _=>False
def Z0I(P:Program)(J N:Prop)(b:Bool):Code->Prop
 | .region _ ops _=>∀o∈ops,(OpOk P o.op\/(J/\Zfc o.op))/\(b=true\/J->∀c,o.op ≠ .defer c)
 | .seq x y=>Z0I P J N b x/\Z0I P J N b y
 | .cond c x y=>RdOk c/\Z0I P J N b x/\Z0I P J N b y
 | .block _ x | .loop x | .scope x=>Z0I P J N b x
 | .rangeFunc f _ x y=>RdOk f/\Z0I P False False true x/\Z0I P False False true y/\¬N/\Z85 P
 | .refuse _=>False
 | _=>True
abbrev CodeOk(P:Program)(b:Bool):Code->Prop:=Z0I P False False b
theorem Z0I.out{P:Program}{J N:Prop}{b:Bool}{c:Code}(nj:¬J)(nn:¬N): CodeOk P true c->Z0I P J N b c:=by
 induction c with
 | region i ops d=>exact λh o ho=>⟨.inl ((h o ho).1.resolve_right λq=>q.1),λ_=>(h o ho).2 (.inl rfl)⟩
 | seq x y ihx ihy=>exact λh=>⟨ihx h.1,ihy h.2⟩
 | cond c x y ihx ihy=>exact λh=>⟨h.1,ihx h.2.1,ihy h.2.2⟩
 | block i x ih=>exact λh=>ih h
 | loop x ih=>exact λh=>ih h
 | scope x ih=>exact λh=>ih h
 | rangeFunc f ps x y _ _=>exact λh=>⟨h.1,h.2.1,h.2.2.1,nn,h.2.2.2.2⟩
 | refuse y=>exact λh=>h
 | _=>exact λ_=>trivial
theorem Z0I.weak{P:Program}{J N:Prop}{b:Bool}{c:Code}(nj:¬J)(nn:¬N): CodeOk P b c->Z0I P J N b c:=by
 induction c with
 | region i ops d=>exact λh o ho=>⟨.inl ((h o ho).1.resolve_right λq=>q.1),λq=>(h o ho).2 (.inl (q.resolve_right nj))⟩
 | seq x y ihx ihy=>exact λh=>⟨ihx h.1,ihy h.2⟩
 | cond c x y ihx ihy=>exact λh=>⟨h.1,ihx h.2.1,ihy h.2.2⟩
 | block i x ih=>exact λh=>ih h
 | loop x ih=>exact λh=>ih h
 | scope x ih=>exact λh=>ih h
 | rangeFunc f ps x y _ _=>exact λh=>⟨h.1,h.2.1,h.2.2.1,nn,h.2.2.2.2⟩
 | refuse y=>exact λh=>h
 | _=>exact λ_=>trivial
def Iv(P:Program)(F:Array Func):Inv:=⟨CodeOk P true,Jk.gd⟩
inductive IR(P:Program)(J N:Prop)(d:Bool)(r:Ren):Item->Item->Prop
 | code {c} (h:Z0I P J N d c):IR P J N d r (.code c) (.code c)
 | inBlock (i):IR P J N d r (.inBlock i) (.inBlock i)
 | inLoop {c} (h:Z0I P J N d c):IR P J N d r (.inLoop c) (.inLoop c)
 | inScope {c} (h:Z0I P J N d c):IR P J N d r (.inScope c) (.inScope c)
 | inRegion {ops todo} (h:∀o∈ops,(OpOk P o.op\/(J/\Zfc o.op))/\(d=true\/J->∀c,o.op ≠ .defer c)):IR P J N d r (.inRegion ops todo) (.inRegion ops todo)
 | inRange {l l'} (nj:¬N) (h:r l=some l'):IR P J N d r (.inRangeFunc l) (.inRangeFunc l')
 | endRange {l l'} (nj:¬N) (h:r l=some l'):IR P J N d r (.endRangeFunc l) (.endRangeFunc l')
 | begin_:IR P J N d r .beginRound .beginRound
def mild:Item->Bool
 | .code _ | .inBlock _ | .inLoop _ | .inScope _=>true
 | _=>false
inductive Cut(P:Program)(J N:Prop)(d:Bool):Code->Code->List Item->Prop
 | stop {y k} (h:Jk.rest = .code y::k):Cut P J N d (.refuse "") y k
 | seq {x c c' k} (h:Z0I P J N d x) (t:Cut P J N d c c' k):Cut P J N d (.seq x c) (.seq x c') k
 | left {c c' y k} (t:Cut P J N d c c' (.code y::k)):Cut P J N d (.seq c (.refuse "")) (.seq c' y) k
inductive Todo(P:Program)(J N:Prop)(d:Bool)(r:Ren):List Item->List Item->Prop
 | nil:Todo P J N d r [] []
 | cons {x y k k'} (h:IR P J N d r x y) (t:Todo P J N d r k k'):Todo P J N d r (x::k) (y::k')
 | tail (hd:d=false) (hk:∀x,Jk.rest.head?=some x->mild x=true):Todo P J N d r [.code (.refuse "")] Jk.rest
 | cut {c c' l k} (hd:d=false) (hl:∀i,exitTo i l=none/\gotoIn i l=none) (h:Cut P J N d c c' k):Todo P J N d r (.code c::l) (.code c'::k)
def PR(r:Ren)(p q:PanicEntry):Prop:=VR r p.v q.v/\p.recovered=q.recovered/\p.goexit=q.goexit
inductive MR(r:Ren):FrameMode->FrameMode->Prop
 | run:MR r .run .run
 | returning:MR r .returning .returning
 | panicking {ps qs} (h:Lis (PR r) ps qs):MR r (.panicking ps) (.panicking qs)
inductive RoR(r:Ren):Option Nat->Option Nat->Prop
 | none:RoR r none none
 | some {l l'} (h:r l=some l'):RoR r (some l) (some l')
structure FrR(P:Program)(F:Array Func)(r:Ren)(f g:Frame):Prop where
 fn:f.fn=g.fn
 own:F[f.fn]?=P.funcs[f.fn]?
 tmps:VRs r f.tmps g.tmps
 todo:Todo P (Jk.law f.fn) (¬Jk.gd f.fn) f.roundOf.isSome r f.todo g.todo
 defers:Lis (DR r) f.defers g.defers/\(Jk.law f.fn->f.defers=[])
 mode:MR r f.mode g.mode
 kind:f.kind=g.kind/\(f.kind = .normal\/f.kind = .deferred)
 round:RoR r f.roundOf g.roundOf
section
variable{P:Program}{F:Array Func}{G:FuncId->Prop}{r s:Ren}
theorem IR.mono{J N:Prop}{d:Bool}(h:r.le s){x y:Item}(k:IR P J N d r x y):IR P J N d s x y:=by
 cases k with
 | code h=>exact .code h
 | inBlock i=>exact .inBlock i
 | inLoop h=>exact .inLoop h
 | inScope h=>exact .inScope h
 | inRegion h=>exact .inRegion h
 | inRange n q=>exact .inRange n (h.1 _ _ q)
 | endRange n q=>exact .endRange n (h.1 _ _ q)
 | begin_=>exact .begin_
theorem Todo.mono{J N:Prop}{d:Bool}(h:r.le s){x y:List Item}(k:Todo P J N d r x y):Todo P J N d s x y:=by
 induction k with
 | nil=>exact .nil
 | cons a _ ih=>exact .cons (a.mono h) ih
 | tail hd hk=>exact .tail hd hk
 | cut hd hl h=>exact .cut hd hl h
theorem PR.mono(h:r.le s){x y:PanicEntry}(k:PR r x y):PR s x y:=⟨k.1.mono h,k.2⟩
theorem MR.mono(h:r.le s){x y:FrameMode}(k:MR r x y):MR s x y:=by
 cases k with
 | run=>exact .run
 | returning=>exact .returning
 | panicking q=>exact .panicking (q.imp λ_ _=>PR.mono h)
theorem RoR.mono(h:r.le s){x y:Option Nat}(k:RoR r x y):RoR s x y:=by
 cases k with
 | none=>exact .none
 | some q=>exact .some (h.1 _ _ q)
theorem FrR.mono(h:r.le s){f g:Frame}(k:FrR P F r f g):FrR P F s f g:=
 ⟨k.fn,k.own,VRs.mono h k.tmps,k.todo.mono h,⟨k.defers.1.imp λ_ _=>DR.mono h,k.defers.2⟩,k.mode.mono h,k.kind,k.round.mono h⟩
theorem FrR.env{f g:Frame}(k:FrR P F r f g):EnvR r f.eval g.eval:=by
 intro x hx;cases x with
 | tmp t =>
  show VR r (f.tmps.getD t undef) (g.tmps.getD t undef);rw[Y6,Y6];rcases k.tmps.get t with⟨a,b⟩ | ⟨x,y,a,b,q⟩
  ·rw[a,b];exact .undef
  ·rw[a,b];exact q
 | const v=>exact hx r
 | global g=>exact hx.elim
 | func f=>exact .func (.func f hx) rfl sU rfl sU
theorem FrR.finish{f g:Frame}(k:FrR P F r f g){x y:Value}(h:VR r x y):FrR P F r (f.finish x) (g.finish y):=by
 have kt:=k.todo;obtain⟨ft,fm⟩:∃t,t=f.todo:=⟨_,rfl⟩;obtain⟨gt,gm⟩:∃t,t=g.todo:=⟨_,rfl⟩;unfold Frame.finish;rw[<-fm,<-gm]at kt⊢;cases kt with
 | nil=>exact k
 | @cons a b az bs hab ht =>
  cases hab with
  | @inRegion ops todo hops =>
   cases todo with
   | nil=>exact k
   | cons i rest =>
    refine⟨k.fn,k.own,?_,.cons (.inRegion hops) ht,k.defers,k.mode,k.kind,k.round⟩;dsimp only;cases ((ops[i]?).bind (·.dst)) with
    | none=>exact k.tmps
    | some d=>exact k.tmps.set d h
  | inRange n q=>exact⟨k.fn,k.own,k.tmps,.cons (.endRange n q) ht,k.defers,k.mode,k.kind,k.round⟩
  | begin_=>exact⟨k.fn,k.own,k.tmps,ht,k.defers,k.mode,k.kind,k.round⟩
  | _=>exact k
 | cut hd hl h=>exact k
 | tail hd hk =>
  generalize (Jk.rest:List Item)=z at hk⊢;cases z with
  | nil=>exact k
  | cons y ys =>
   have:=hk y rfl;cases y<;>first | exact k | cases this
theorem FrR.raise{f g:Frame}(k:FrR P F r f g){ps qs:List PanicEntry}(h:Lis (PR r) ps qs):FrR P F r (f.raise ps) (g.raise qs):=by
 unfold Frame.raise;have km:=k.mode;generalize f.mode=a at km⊢;generalize g.mode=b at km⊢;cases km with
 | run=>exact⟨k.fn,k.own,k.tmps,k.todo,k.defers,.panicking h,k.kind,k.round⟩
 | returning=>exact⟨k.fn,k.own,k.tmps,k.todo,k.defers,.panicking h,k.kind,k.round⟩
 | panicking q=>exact⟨k.fn,k.own,k.tmps,k.todo,k.defers,.panicking (h.append q),k.kind,k.round⟩
def poison:Frame:={ fn:=0,tmps:=#[],todo:=[.code (.refuse "")],defers:=[{ target:=.nil,args:=#[] }],mode:=.run,kind:=.normal,roundOf:=none }
def Low(f:Frame)(A:List Frame):Prop:=(f.kind = .normal\/A≠[])/\(A≠[]->¬Jk.law f.fn)
def LowL:List Frame->Prop
 | []=>True
 | f::A=>Low f A/\LowL A
theorem Low.raise{f:Frame}{A:List Frame}(h:Low f A)(ps:List PanicEntry):Low (f.raise ps) A:=by
 unfold Frame.raise;split<;>exact h
theorem Low.finish{f:Frame}{A:List Frame}(h:Low f A)(x:Value):Low (f.finish x) A:=by
 unfold Frame.finish;split<;>exact h
structure Stk(P:Program)(F:Array Func)(r:Ren)(A B:List Frame):Prop where
 rel:Lis (FrR P F r) A B
 low:LowL A
theorem Stk.mono(h:r.le s){A B:List Frame}(k:Stk P F r A B):Stk P F s A B:=⟨k.rel.imp λ_ _=>FrR.mono h,k.low⟩
theorem Stk.cons{A B:List Frame}{f g:Frame}(h:FrR P F r f g)(k:Stk P F r A B)(hk:Low f A):Stk P F r (f::A) (g::B):=⟨.cons h k.rel,hk,k.low⟩
theorem Stk.uncons{A B:List Frame}{f g:Frame}(k:Stk P F r (f::A) (g::B)):FrR P F r f g/\Stk P F r A B/\Low f A:=by
 obtain⟨h,t⟩:=k;cases h with
 | cons h1 h2=>exact⟨h1,⟨h2,t.2⟩,t.1⟩
def run1(f:Frame)(cs:List Frame):Goroutine:={frame:=f,callers:=cs,status:=.running,dying:=none}
def Sunk(g:Goroutine):Prop:=g=run1 poison []\/∃c,g=run1 {poison with mode:=.panicking c} []
def ZJ(P:Program)(F:Array Func)(cs:List Frame)(r:Ren)(v w:World):GStep->GStep->Prop
 | .go g v' _,q=>Sunk g\/∃r' f W w' ns,q = .go (run1 f W) w' ns/\g.status = .running/\g.dying=none/\g.offers=none/\(∃A B,g.frame::g.callers=A++[poison]/\f::W=B++cs/\A≠[]/\Stk P F r' A B)/\WR (Iv P F) r' v' w'/\Kept r r' v v' w w'/\∀e∈ns,EvG r' v w' e
 | .ended _ _ _,_=>True
 | _,_=>False
end
end Lift
end Go.Proofs.YtfelljbfeoplhaaGreat
