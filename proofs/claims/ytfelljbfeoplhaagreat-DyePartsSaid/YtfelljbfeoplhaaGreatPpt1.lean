/- Parts of a proof: Enter, Lr, Ls, Lt, Lu, Qp, Lv, Lw, Lx, Ly, Lz, Gma. No conditions. -/
import Derived.Below
import Derived.Conc.Events
import Derived.Conc.Holds
import Derived.KernelRfl
import Derived.Laws.Sem
import Derived.Leaving
import Derived.ProofKit
import Derived.StepT
import Derived.Test.YtfelljbfeoplhaaGreatProg
import Derived.Test.YtfelljbfeoplhaaGreatRows
import Derived.WalkKit
import GoSem.ClaimDataLaid
import GoSem.ClaimOpen
import GoSem.Step
set_option linter.unusedVariables false
set_option linter.unusedSimpArgs false
set_option linter.unusedSectionVars false
set_option maxRecDepth 100000
set_option maxHeartbeats 4000000
namespace Go.Proofs.YtfelljbfeoplhaaGreat
section
theorem lsQ{α:Type}{a b:α}{l:List α}{n:Nat}:(a::l).set (n+1) b=a::l.set n b:=rfl
theorem lzQ{α:Type}{a b:α}{l:List α}:(a::l).set 0 b=b::l:=rfl
open Go Go.RowKit
theorem wN{P:Program}{ops:Array Oper}{Q:Exit->Act->World->Prop}{a:Act}{w:World}(h:Q .normal a w):wpList P ops Q [] a w:=h
theorem wS{P:Program}{Q:Exit->Act->World->Prop}{a:Act}{w:World}{x y:Code}(h:∀K:Act->World->Prop,(∀a w,y.wp P Q a w->K a w)->x.wp P (Exit.then K Q) a w):(Code.seq x y).wp P Q a w:=wp_seq_k h
theorem wG{P:Program}{Q:Exit->Act->World->Prop}{a:Act}{w:World}{id:Nat}{l:List Oper}(h:wpList P l.toArray Q l a w):(Code.region id l.toArray false).wp P Q a w:=wp_region_lit h
theorem lQ{a b n:Nat}(h:n=b)(k:a<=b):a<=n:=h▸k
theorem tQ{a b n:Nat}(h:n=b)(k:a<b):a<n:=h▸k
theorem eQ(a:Nat):∃n,n=a:=⟨a,rfl⟩
theorem sQ{a n:Nat}(h:n=a):a<=n:=Nat.le_of_eq h.symm
theorem Y0:type_of% @Array.getElem?_eq_some_iff.{0}:=@Array.getElem?_eq_some_iff.{0}
theorem Y1:type_of% @Option.some.inj.{0}:=@Option.some.inj.{0}
theorem Y2:type_of% @Array.getElem?_eq_getElem.{0}:=@Array.getElem?_eq_getElem.{0}
theorem Y3:type_of% @Option.map_eq_some_iff.{0,0}:=@Option.map_eq_some_iff.{0,0}
theorem Y4:type_of% @Option.some.injEq.{0}:=@Option.some.injEq.{0}
theorem Y5:type_of% @Bool.and_eq_true:=@Bool.and_eq_true
theorem Y6:type_of% @Array.getD_eq_getD_getElem?.{0}:=@Array.getD_eq_getD_getElem?.{0}
theorem Y7:type_of% @List.getD_eq_getElem?_getD.{0}:=@List.getD_eq_getElem?_getD.{0}
theorem Y8:type_of% @Nat.lt_of_lt_of_le:=@Nat.lt_of_lt_of_le
theorem Y9:type_of% @Prod.mk.injEq.{0,0}:=@Prod.mk.injEq.{0,0}
theorem Ya:type_of% @List.not_mem_nil.{0}:=@List.not_mem_nil.{0}
theorem Yb:type_of% @List.mem_toArray.{0}:=@List.mem_toArray.{0}
theorem Yc:type_of% @List.mem_cons.{0}:=@List.mem_cons.{0}
theorem Yd:type_of% @Nat.le_trans:=@Nat.le_trans
theorem Ye:type_of% @Nat.le_refl:=@Nat.le_refl
theorem Yf:type_of% @Go.Sem.runT_eq:=@Go.Sem.runT_eq
theorem Yg:type_of% @Go.wp_region_lit:=@Go.wp_region_lit
theorem Yh:type_of% @Go.wp_block:=@Go.wp_block
theorem Yi:type_of% @Go.wp_skip:=@Go.wp_skip
theorem Yj:type_of% @List.length_map.{0,0}:=@List.length_map.{0,0}
theorem Yk:type_of% @Array.mem_of_getElem?.{0}:=@Array.mem_of_getElem?.{0}
theorem Yl:type_of% @List.all_eq_true.{0}:=@List.all_eq_true.{0}
theorem Ym:type_of% @List.length_append.{0}:=@List.length_append.{0}
theorem Yn:type_of% @List.getElem?_map.{0,0}:=@List.getElem?_map.{0,0}
theorem Yo:type_of% @Bool.or_eq_true:=@Bool.or_eq_true
theorem Yp:type_of% @List.lookup_cons.{0,0}:=@List.lookup_cons.{0,0}
theorem Yq:type_of% @Array.getElem?_setIfInBounds_ne.{0}:=@Array.getElem?_setIfInBounds_ne.{0}
end
variable{α β:Type}{why:String}{z:Array Go.Value}
section
open Go Go.RowKit
def Zb1(k:IntKind)(w:World)(a:Option Addr)(len cap:Nat)(zs:List Int):Prop:=
 (a=none/\len=0/\cap=0/\zs=[]) \/
 ∃x,a=some x/\len<=cap/\cap<=maxLen/\zs.length=cap/\(∀i,i<zs.length->w.cell? (x.add i)=some (.int k (zs.getD i 0)))/\∀n∈zs,(Lit.int k n).wf=true
theorem Z5Q{P:Program}{f:FuncId}{fn:Func}{s:ChangeSpec}{c:OpenClaim}(h1:(c.wf (OpenSpec.ofChange s):Bool)=true)(h2:(laidOutB P:Bool)=true)(h3:(mapsRowed P:Bool)=true)(h4:(fn.params.all (P.readableRec ·):Bool)=true)(h5:(namedTie P c.named s.vars:Bool)=true)(h6:((c.stops==[]):Bool)=true)(h7:((P.stops==[]):Bool)=true)(h8:((c.knobs==[]):Bool)=true)(h9:((P.stopKnobs==[]):Bool)=true)(h10:((c.inPlace==P.inPlace f):Bool)=true)(h11:((c.unfollowed==P.unfollowed f):Bool)=true)(h12:((c.recurses==P.recurses f):Bool)=true)(h13:((c.named==P.varsNamed f):Bool)=true)(h14:((c.maps==(fn.params.toList++s.plain.varTypes P).any (P.mapsRec ·)):Bool)=true)(h15:((c.ifaces==(fn.params.toList++s.plain.varTypes P).any (P.ifacesRec ·)):Bool)=true)(h16:((c.mapsOut==P.mapsAmong fn.resultTypes.toList):Bool)=true)(h17:((c.loops==(fn.params.toList++s.plain.varTypes P).any (P.loopsFrom ·)):Bool)=true)(h18:((c.wideKeys==(fn.params.toList++s.plain.varTypes P++fn.resultTypes.toList).any (P.wideKeysFrom ·)):Bool)=true)(h19:(s.vars.all (P.varReadable ·):Bool)=true)(h20:(fn.resultTypes.all (λt=>P.readableRec t&&decide (t<P.types.size)):Bool)=true)(h21:((c.ifacesOut==fn.resultTypes.toList.any (P.ifacesRec ·)):Bool)=true)(h22:((c.loopsOut==fn.resultTypes.toList.any (P.loopsFrom ·)):Bool)=true)(h23:((c.plainKeys==P.plainKeys):Bool)=true)(h24:(c.shortTexts.isNone:Bool)=true)(h25:(P.stopsHeard:Bool)=true)(h26:(P.mayEnter:Bool)=true)(h27:((c.lifted==P.liftsFinal):Bool)=true)(h28:((P.make==some c.make):Bool)=true)(h29:((c.domain.isEmpty&&c.kinds==[]):Bool)=true)(h30:((c.pinned==c.pinnedBy):Bool)=true)(h31:((c.veiled==(fn.params.toList++s.plain.varTypes P++fn.resultTypes.toList).any (P.veiledRec ·)):Bool)=true)(h32:(c.veiledFits P fn.params.toList (fn.params.toList++s.plain.varTypes P++fn.resultTypes.toList):Bool)=true): joinedFacts P f fn s c=true:=by
 unfold joinedFacts;simp only[Y5]at h29;have h29':(c.kinds==(if c.domain.isEmpty then[] else fn.params.toList.map λt=>match P.underlying t with | some (.int k)=>some k | _=>none))=true:=by rw[if_pos h29.1];exact h29.2
 simp only[Y5];exact⟨⟨⟨⟨⟨⟨⟨⟨⟨⟨⟨⟨⟨⟨⟨⟨⟨⟨⟨⟨⟨⟨⟨⟨⟨⟨⟨⟨⟨⟨⟨h1,h2⟩,h3⟩,h4⟩,h5⟩,h6⟩,h7⟩,h8⟩,h9⟩,h10⟩,h11⟩,h12⟩,h13⟩,h14⟩,h15⟩,h16⟩,h17⟩,h18⟩,h19⟩,h20⟩,h21⟩,h22⟩,h23⟩,h24⟩,h25⟩,h26⟩,h27⟩,h28⟩,h29'⟩,h30⟩,h31⟩,h32⟩
theorem Zd3:∃r:List Nat,Tryz.prog.initOrder=String.ofList (r.map Char.ofNat)/\r=[104,97,114,110,101,115,115,32,53,55,101,102,48,100,56,101,98,98,48,55,49,53,52,56,57,55,101,48,97,55,52,48,100,48,102,98,53,49,97,100,53,97,102,50,97,97,53,50,52,48,52,50,53,98,100,52,97,57,48,100,102,56,51,49,51,97,55,98,48,52,55,100,32,99,117,116,32,97,116,32,103,97,108,108,111,111,110,47,103,97,108,108,111,111,110,108,97,119,48,54,46,68,121,101,65,108,105,107,101,32,103,97,108,108,111,111,110,47,103,97,108,108,111,111,110,108,97,119,48,54,46,68,121,101,77,111,115,116,32,103,97,108,108,111,111,110,47,103,97,108,108,111,111,110,108,97,119,48,54,46,68,121,101,80,111,117,114,101,100,32,103,97,108,108,111,111,110,47,103,97,108,108,111,111,110,108,97,119,48,54,46,68,121,101,67,104,101,99,107,115,32,103,97,108,108,111,111,110,47,103,97,108,108,111,111,110,108,97,119,48,54,46,68,121,101,83,104,97,100,101,115,32,103,97,108,108,111,111,110,47,103,97,108,108,111,111,110,108,97,119,48,54,46,68,121,101,80,97,114,116,115,32,103,97,108,108,111,111,110,47,103,97,108,108,111,111,110,108,97,119,48,54,46,68,121,101,80,97,105,114,115,32,103,97,108,108,111,111,110,47,103,97,108,108,111,111,110,108,97,119,48,54,46,68,121,101,83,112,108,105,116,115,32,103,97,108,108,111,111,110,47,103,97,108,108,111,111,110,108,97,119,48,54,46,68,121,101,75,110,111,119,110]:=⟨_,by kernel_rfl,rfl⟩
theorem Zd4:wordsSigns Tryz.prog.initOrder.toList=[[104,97,114,110,101,115,115],[53,55,101,102,48,100,56,101,98,98,48,55,49,53,52,56,57,55,101,48,97,55,52,48,100,48,102,98,53,49,97,100,53,97,102,50,97,97,53,50,52,48,52,50,53,98,100,52,97,57,48,100,102,56,51,49,51,97,55,98,48,52,55,100],[99,117,116],[97,116],[103,97,108,108,111,111,110,47,103,97,108,108,111,111,110,108,97,119,48,54,46,68,121,101,65,108,105,107,101],[103,97,108,108,111,111,110,47,103,97,108,108,111,111,110,108,97,119,48,54,46,68,121,101,77,111,115,116],[103,97,108,108,111,111,110,47,103,97,108,108,111,111,110,108,97,119,48,54,46,68,121,101,80,111,117,114,101,100],[103,97,108,108,111,111,110,47,103,97,108,108,111,111,110,108,97,119,48,54,46,68,121,101,67,104,101,99,107,115],[103,97,108,108,111,111,110,47,103,97,108,108,111,111,110,108,97,119,48,54,46,68,121,101,83,104,97,100,101,115],[103,97,108,108,111,111,110,47,103,97,108,108,111,111,110,108,97,119,48,54,46,68,121,101,80,97,114,116,115],[103,97,108,108,111,111,110,47,103,97,108,108,111,111,110,108,97,119,48,54,46,68,121,101,80,97,105,114,115],[103,97,108,108,111,111,110,47,103,97,108,108,111,111,110,108,97,119,48,54,46,68,121,101,83,112,108,105,116,115],[103,97,108,108,111,111,110,47,103,97,108,108,111,111,110,108,97,119,48,54,46,68,121,101,75,110,111,119,110]].map (λw=>w.map Char.ofNat):=by
 obtain⟨r,hr,hr2⟩:=Zd3;rw[hr,String.toList_ofList,hr2]
 kernel_rfl
theorem Z9m {P:Program} {c:List Char} {rest ws2:List (List Char)} (h:behindMainWord (wordsSigns P.initOrder.toList)=c::rest) (hs:stripLifts liftWords (c::rest)=([],ws2)) (hc:(ws2.head?==some "cut".toList)=true) (hl:P.laysLater=false) (hb:P.bearsReflect=false) (hd:P.doorFits []=true): P.mayEnter=true:=by
 unfold Program.mayEnter;rw[h];simp only[hs,hc,hl,hb,hd];simp
theorem Z9W:behindMainWord (wordsSigns Tryz.prog.initOrder.toList)=[99,117,116].map Char.ofNat::[[97,116],[103,97,108,108,111,111,110,47,103,97,108,108,111,111,110,108,97,119,48,54,46,68,121,101,65,108,105,107,101],[103,97,108,108,111,111,110,47,103,97,108,108,111,111,110,108,97,119,48,54,46,68,121,101,77,111,115,116],[103,97,108,108,111,111,110,47,103,97,108,108,111,111,110,108,97,119,48,54,46,68,121,101,80,111,117,114,101,100],[103,97,108,108,111,111,110,47,103,97,108,108,111,111,110,108,97,119,48,54,46,68,121,101,67,104,101,99,107,115],[103,97,108,108,111,111,110,47,103,97,108,108,111,111,110,108,97,119,48,54,46,68,121,101,83,104,97,100,101,115],[103,97,108,108,111,111,110,47,103,97,108,108,111,111,110,108,97,119,48,54,46,68,121,101,80,97,114,116,115],[103,97,108,108,111,111,110,47,103,97,108,108,111,111,110,108,97,119,48,54,46,68,121,101,80,97,105,114,115],[103,97,108,108,111,111,110,47,103,97,108,108,111,111,110,108,97,119,48,54,46,68,121,101,83,112,108,105,116,115],[103,97,108,108,111,111,110,47,103,97,108,108,111,111,110,108,97,119,48,54,46,68,121,101,75,110,111,119,110]].map (λw=>w.map Char.ofNat):=by
 rw[Zd4]
 kernel_rfl
theorem ZgW:stripLifts liftWords ([99,117,116].map Char.ofNat::[[97,116],[103,97,108,108,111,111,110,47,103,97,108,108,111,111,110,108,97,119,48,54,46,68,121,101,65,108,105,107,101],[103,97,108,108,111,111,110,47,103,97,108,108,111,111,110,108,97,119,48,54,46,68,121,101,77,111,115,116],[103,97,108,108,111,111,110,47,103,97,108,108,111,111,110,108,97,119,48,54,46,68,121,101,80,111,117,114,101,100],[103,97,108,108,111,111,110,47,103,97,108,108,111,111,110,108,97,119,48,54,46,68,121,101,67,104,101,99,107,115],[103,97,108,108,111,111,110,47,103,97,108,108,111,111,110,108,97,119,48,54,46,68,121,101,83,104,97,100,101,115],[103,97,108,108,111,111,110,47,103,97,108,108,111,111,110,108,97,119,48,54,46,68,121,101,80,97,114,116,115],[103,97,108,108,111,111,110,47,103,97,108,108,111,111,110,108,97,119,48,54,46,68,121,101,80,97,105,114,115],[103,97,108,108,111,111,110,47,103,97,108,108,111,111,110,108,97,119,48,54,46,68,121,101,83,112,108,105,116,115],[103,97,108,108,111,111,110,47,103,97,108,108,111,111,110,108,97,119,48,54,46,68,121,101,75,110,111,119,110]].map (λw=>w.map Char.ofNat))=([],[99,117,116].map Char.ofNat::[[97,116],[103,97,108,108,111,111,110,47,103,97,108,108,111,111,110,108,97,119,48,54,46,68,121,101,65,108,105,107,101],[103,97,108,108,111,111,110,47,103,97,108,108,111,111,110,108,97,119,48,54,46,68,121,101,77,111,115,116],[103,97,108,108,111,111,110,47,103,97,108,108,111,111,110,108,97,119,48,54,46,68,121,101,80,111,117,114,101,100],[103,97,108,108,111,111,110,47,103,97,108,108,111,111,110,108,97,119,48,54,46,68,121,101,67,104,101,99,107,115],[103,97,108,108,111,111,110,47,103,97,108,108,111,111,110,108,97,119,48,54,46,68,121,101,83,104,97,100,101,115],[103,97,108,108,111,111,110,47,103,97,108,108,111,111,110,108,97,119,48,54,46,68,121,101,80,97,114,116,115],[103,97,108,108,111,111,110,47,103,97,108,108,111,111,110,108,97,119,48,54,46,68,121,101,80,97,105,114,115],[103,97,108,108,111,111,110,47,103,97,108,108,111,111,110,108,97,119,48,54,46,68,121,101,83,112,108,105,116,115],[103,97,108,108,111,111,110,47,103,97,108,108,111,111,110,108,97,119,48,54,46,68,121,101,75,110,111,119,110]].map (λw=>w.map Char.ofNat)):=by kernel_rfl
theorem ZhK:((([99,117,116].map Char.ofNat::[[97,116],[103,97,108,108,111,111,110,47,103,97,108,108,111,111,110,108,97,119,48,54,46,68,121,101,65,108,105,107,101],[103,97,108,108,111,111,110,47,103,97,108,108,111,111,110,108,97,119,48,54,46,68,121,101,77,111,115,116],[103,97,108,108,111,111,110,47,103,97,108,108,111,111,110,108,97,119,48,54,46,68,121,101,80,111,117,114,101,100],[103,97,108,108,111,111,110,47,103,97,108,108,111,111,110,108,97,119,48,54,46,68,121,101,67,104,101,99,107,115],[103,97,108,108,111,111,110,47,103,97,108,108,111,111,110,108,97,119,48,54,46,68,121,101,83,104,97,100,101,115],[103,97,108,108,111,111,110,47,103,97,108,108,111,111,110,108,97,119,48,54,46,68,121,101,80,97,114,116,115],[103,97,108,108,111,111,110,47,103,97,108,108,111,111,110,108,97,119,48,54,46,68,121,101,80,97,105,114,115],[103,97,108,108,111,111,110,47,103,97,108,108,111,111,110,108,97,119,48,54,46,68,121,101,83,112,108,105,116,115],[103,97,108,108,111,111,110,47,103,97,108,108,111,111,110,108,97,119,48,54,46,68,121,101,75,110,111,119,110]].map (λw=>w.map Char.ofNat)):List (List Char)).head?==some "cut".toList)=true:=by kernel_rfl
theorem laysLater:Tryz.prog.laysLater=false:=by kernel_rfl
theorem bearsReflect:Tryz.prog.bearsReflect=false:=by kernel_rfl
theorem doorFits:Tryz.prog.doorFits []=true:=by kernel_rfl
theorem Z7c {P:Program} {c:List Char} {rest ws2:List (List Char)} (h:behindMainWord (wordsSigns P.initOrder.toList)=c::rest) (hs:stripLifts liftWords (c::rest)=([],ws2)) (hc:(c == "carried".toList)=false): P.liftsFinal=false:=by
 unfold Program.liftsFinal Program.headLifts;rw[h];simp only[hs,List.head?_cons];have e:(some c==some "carried".toList)=false:=hc;rw[e];simp
theorem Zi3 {P:Program} {c:List Char} {rest:List (List Char)} (h:behindMainWord (wordsSigns P.initOrder.toList)=c::rest) (hg:(c == "gc".toList)=false) (hp:(c == "spec".toList)=false) (hc:(c == "cut".toList)=true): P.make=some .cut:=by
 unfold Program.make;rw[h];simp only[hg,hp,hc];simp
theorem Zbn:([99,117,116].map Char.ofNat == "carried".toList)=false:=by kernel_rfl
theorem ZlL:([99,117,116].map Char.ofNat == "gc".toList)=false:=by kernel_rfl
theorem Zik:([99,117,116].map Char.ofNat == "spec".toList)=false:=by kernel_rfl
theorem Zlv:([99,117,116].map Char.ofNat == "cut".toList)=true:=by kernel_rfl
theorem liftsFinal:Tryz.prog.liftsFinal=false:=Z7c Z9W ZgW Zbn
theorem made:Tryz.prog.make=some .cut:=Zi3 Z9W ZlL Zik Zlv
theorem Zdb:laidOutB Tryz.pinned.checked.prog=true:=by kernel_rfl
theorem Zi6:mapsRowed Tryz.pinned.checked.prog=true:=by kernel_rfl
theorem Ze9:(Tryz.pinned.checked.prog.stops==[])=true:=by kernel_rfl
theorem Zda:(Tryz.pinned.checked.prog.stopKnobs==[])=true:=by kernel_rfl
theorem stopsHeard:Tryz.pinned.checked.prog.stopsHeard=true:=by kernel_rfl
theorem own:ownKnob Tryz.prog.godebug=none:=by kernel_rfl
theorem mayEnter:Tryz.prog.mayEnter=true:=Z9m Z9W ZgW ZhK laysLater bearsReflect doorFits
end
namespace Lift
open Go
class Jk where
 j:Prop
 rest:List Item
 gd:FuncId->Prop:=λ_=>True
 law:FuncId->Prop:=λ_=>False
 jmp:FuncId->Prop:=λ_=>False
 ar:FuncId->Nat:=λ_=>3
variable[Jk]
abbrev Ren:=Nat->Option Nat
def Inj(r:Ren):Prop:=∀a b c,r a=some c->r b=some c->a=b
def Ren.le(r s:Ren):Prop:=(∀b c,r b=some c->s b=some c)/\(Inj r->Inj s)
theorem Ren.le_refl(r:Ren):r.le r:=⟨λ_ _ h=>h,id⟩
theorem Ren.le_trans{r s t:Ren}(h:r.le s)(k:s.le t):r.le t:=⟨λb c x=>k.1 b c (h.1 b c x),λi=>k.2 (h.2 i)⟩
inductive AR(r:Ren):Addr->Addr->Prop
 | mk {b c o s} (h:r b=some c):AR r ⟨b,o,s⟩ ⟨c,o,s⟩
inductive FnR(r:Ren):Fn->Fn->Prop
 | func (f) (h:Jk.gd f):FnR r (.func f) (.func f)
 | yield {l l'} (h:r l=some l'):FnR r (.yield l) (.yield l')
def J0:Value:=.func (.method "") #[.iface 1000000 (.bool false)] #[]
inductive VR(r:Ren):Value->Value->Prop
 | bool (b):VR r (.bool b) (.bool b)
 | int (k n):VR r (.int k n) (.int k n)
 | string (s):VR r (.string s) (.string s)
 | ptr0:VR r (.pointer none) (.pointer none)
 | ptr {a a'} (h:AR r a a'):VR r (.pointer (some a)) (.pointer (some a'))
 | sl0 (n c):VR r (.slice none n c) (.slice none n c)
 | sl {a a'} (n c) (h:AR r a a'):VR r (.slice (some a) n c) (.slice (some a') n c)
 | map0:VR r (.map none) (.map none)
 | map {m m'} (h:r m=some m'):VR r (.map (some m)) (.map (some m'))
 | func {f f' xs xs' ys ys'} (hf:FnR r f f') (hx:xs.size=xs'.size) (h:∀(i:Nat) x x',xs[i]?=some x->xs'[i]?=some x'->VR r x x')
   (hy:ys.size=ys'.size) (k:∀(i:Nat) x x',ys[i]?=some x->ys'[i]?=some x'->VR r x x'):VR r (.func f xs ys) (.func f' xs' ys')
 | func0:VR r .nilFunc .nilFunc
 | iface {v v'} (t) (h:VR r v v'):VR r (.iface t v) (.iface t v')
 | iface0:VR r .nilIface .nilIface
 | agg {xs xs'} (hs:xs.size=xs'.size) (h:∀(i:Nat) x x',xs[i]?=some x->xs'[i]?=some x'->VR r x x'):VR r (.agg xs) (.agg xs')
 | tuple {xs xs'} (hs:xs.size=xs'.size) (h:∀(i:Nat) x x',xs[i]?=some x->xs'[i]?=some x'->VR r x x'):VR r (.tuple xs) (.tuple xs')
 /-- What the first does not know. -/
 | junk {y} (j:Jk.j\/y=J0) (h:∀xs,y ≠ .agg xs) (n:y ≠ .nilIface/\∀xs,y ≠ .tuple xs) (m:y ≠ .pointer none/\y ≠ .nilFunc/\∀b,y ≠ .bool b):VR r J0 y
def Arr{α β:Type}(R:α->β->Prop)(xs:Array α)(ys:Array β):Prop:=xs.size=ys.size/\∀(i:Nat) x y,xs[i]?=some x->ys[i]?=some y->R x y
inductive Lis{α β:Type}(R:α->β->Prop):List α->List β->Prop
 | nil:Lis R [] []
 | cons {x y xs ys} (h:R x y) (t:Lis R xs ys):Lis R (x::xs) (y::ys)
theorem AR.mono{r s:Ren}(h:r.le s){a b:Addr}(k:AR r a b):AR s a b:=by cases k with | mk q=>exact .mk (h.1 _ _ q)
theorem FnR.mono{r s:Ren}(h:r.le s){a b:Fn}(k:FnR r a b):FnR s a b:=by
 cases k with
 | func f h=>exact .func f h
 | yield q=>exact .yield (h.1 _ _ q)
theorem VR.mono{r s:Ren}(h:r.le s){x y:Value}(k:VR r x y):VR s x y:=by
 induction k with
 | bool b=>exact .bool b
 | int k n=>exact .int k n
 | string s=>exact .string s
 | ptr0=>exact .ptr0
 | ptr q=>exact .ptr (q.mono h)
 | sl0 n c=>exact .sl0 n c
 | sl n c q=>exact .sl n c (q.mono h)
 | map0=>exact .map0
 | map q=>exact .map (h.1 _ _ q)
 | func hf hx _ hy _ ih ih2=>exact .func (hf.mono h) hx (λi x x' a b=>ih i x x' a b) hy (λi x x' a b=>ih2 i x x' a b)
 | func0=>exact .func0
 | iface t _ ih=>exact .iface t ih
 | iface0=>exact .iface0
 | agg hs _ ih=>exact .agg hs (λi x x' a b=>ih i x x' a b)
 | tuple hs _ ih=>exact .tuple hs (λi x x' a b=>ih i x x' a b)
 | junk j h n m=>exact .junk j h n m
theorem Arr.imp{R S:α->β->Prop}{xs:Array α}{ys:Array β}(h:Arr R xs ys)(k:∀x y,R x y->S x y): Arr S xs ys:=⟨h.1,λi x y a b=>k _ _ (h.2 i x y a b)⟩
theorem Lis.imp{R S:α->β->Prop}{xs:List α}{ys:List β}(h:Lis R xs ys)(k:∀x y,R x y->S x y): Lis S xs ys:=by
 induction h with
 | nil=>exact .nil
 | cons a _ ih=>exact .cons (k _ _ a) ih
theorem Lis.length{R:α->β->Prop}{xs:List α}{ys:List β}(h:Lis R xs ys): xs.length=ys.length:=by
 induction h with
 | nil=>rfl
 | cons _ _ ih=>simp[ih]
theorem Lis.append{R:α->β->Prop}{xs xs':List α}{ys ys':List β}(h:Lis R xs ys)(k:Lis R xs' ys'): Lis R (xs++xs') (ys++ys'):=by
 induction h with
 | nil=>exact k
 | cons a _ ih=>exact .cons a ih
theorem Lis.get{R:α->β->Prop}{xs:List α}{ys:List β}(h:Lis R xs ys)(i:Nat): (xs[i]?=none/\ys[i]?=none)\/∃x y,xs[i]?=some x/\ys[i]?=some y/\R x y:=by
 induction h generalizing i with
 | nil=>exact .inl ⟨rfl,rfl⟩
 | cons a _ ih =>
  cases i with
  | zero=>exact .inr ⟨_,_,rfl,rfl,a⟩
  | succ i=>simpa using ih i
theorem Arr.get{α β:Type}{R:α->β->Prop}{xs:Array α}{ys:Array β}(h:Arr R xs ys)(i:Nat):(xs[i]?=none/\ys[i]?=none)\/∃x y,xs[i]?=some x/\ys[i]?=some y/\R x y:=by
 by_cases hi:i<xs.size
 ·have hj:i<ys.size:=h.1▸hi
  exact .inr ⟨xs[i],ys[i],Y2 hi,Y2 hj,h.2 i _ _ (Y2 hi) (Y2 hj)⟩
 ·have hj:¬i<ys.size:=h.1▸hi
  exact .inl ⟨Array.getElem?_eq_none (Nat.le_of_not_lt hi),Array.getElem?_eq_none (Nat.le_of_not_lt hj)⟩
theorem Arr.lis{R:α->β->Prop}{xs:Array α}{ys:Array β}(h:Arr R xs ys): Lis R xs.toList ys.toList:=by
 obtain⟨xs⟩:=xs;obtain⟨ys⟩:=ys;obtain⟨h1,h2⟩:=h;simp only[List.size_toArray]at h1
 induction xs generalizing ys with
 | nil=>cases ys with | nil=>exact .nil | cons _ _=>simp at h1
 | cons x xs ih =>
  cases ys with
  | nil=>simp at h1
  | cons y ys =>
   refine .cons (h2 0 x y (by simp) (by simp)) (ih ys (λi a b ha hb=>h2 (i+1) a b (by simpa using ha) (by simpa using hb)) (by simpa using h1))
theorem Lis.arr{R:α->β->Prop}{xs:List α}{ys:List β}(h:Lis R xs ys): Arr R xs.toArray ys.toArray:=by
 refine⟨by simpa using h.length,λi x y a b=>?_⟩
 rcases h.get i with⟨n,_⟩ | ⟨u,v,hu,hv,q⟩
 ·simp only[List.getElem?_toArray,n]at a;cases a
 ·simp only[List.getElem?_toArray,hu,hv,Y4]at a b
  exact a▸b▸q
theorem Arr.of_lis{R:α->β->Prop}{xs:Array α}{ys:Array β}(h:Lis R xs.toList ys.toList): Arr R xs ys:=by simpa using h.arr
theorem Arr.append{α β:Type}{R:α->β->Prop}{xs xs':Array α}{ys ys':Array β}(h:Arr R xs ys)(k:Arr R xs' ys'):Arr R (xs++xs') (ys++ys'):=
 .of_lis (by simpa using h.lis.append k.lis)
theorem Arr.push{R:α->β->Prop}{xs:Array α}{ys:Array β}{x:α}{y:β}(h:Arr R xs ys)(k:R x y): Arr R (xs.push x) (ys.push y):=
 .of_lis (by simpa using h.lis.append (.cons k .nil))
theorem Arr.nil{α β:Type}{R:α->β->Prop}:Arr R (#[]:Array α) (#[]:Array β):=⟨rfl,λi x y h=>by simp at h⟩
theorem Arr.set{R:α->β->Prop}{xs:Array α}{ys:Array β}(h:Arr R xs ys)(i:Nat){x:α}{y:β}(k:R x y): Arr R (xs.setIfInBounds i x) (ys.setIfInBounds i y):=by
 refine⟨by simpa using h.1,λj a b ha hb=>?_⟩;rw[Array.getElem?_setIfInBounds]at ha hb
 by_cases e:i=j
 ·subst e
  simp only[if_true]at ha hb
  split at ha
  ·split at hb
   ·simp only[Y4]at ha hb;exact ha▸hb▸k
   ·cases hb
  ·cases ha
 ·simp only[e,if_false]at ha hb
  exact h.2 j a b ha hb
theorem Arr.replicate{R:α->β->Prop}{x:α}{y:β}(n:Nat)(k:R x y): Arr R (Array.replicate n x) (Array.replicate n y):=by
 refine⟨by simp,λi a b ha hb=>?_⟩;simp only[Array.getElem?_replicate]at ha hb
 split at ha
 ·simp_all
 ·cases ha
theorem Arr.map{α β γ δ:Type}{R:α->β->Prop}{S:γ->δ->Prop}{xs:Array α}{ys:Array β}{f:α->γ}{g:β->δ}(h:Arr R xs ys)(k:∀x y,R x y->S (f x) (g y)):Arr S (xs.map f) (ys.map g):=by
 refine⟨by simpa using h.1,λi a b ha hb=>?_⟩;simp only[Array.getElem?_map]at ha hb;obtain⟨x,hx,rfl⟩:=Y3.1 ha;obtain⟨y,hy,rfl⟩:=Y3.1 hb;exact k _ _ (h.2 i x y hx hy)
theorem Arr.extract{R:α->β->Prop}{xs:Array α}{ys:Array β}(h:Arr R xs ys)(i j:Nat): Arr R (xs.extract i j) (ys.extract i j):=by
 refine⟨by simp[h.1],λk a b ha hb=>?_⟩;simp only[Array.getElem?_extract]at ha hb
 split at ha
 ·split at hb
  ·exact h.2 _ a b ha hb
  ·cases hb
 ·cases ha
abbrev VRs(r:Ren):=Arr (VR r)
theorem VR.aggA{r:Ren}{xs ys:Array Value}(h:VRs r xs ys): VR r (.agg xs) (.agg ys):=.agg h.1 h.2
theorem VR.tupA{r:Ren}{xs ys:Array Value}(h:VRs r xs ys): VR r (.tuple xs) (.tuple ys):=.tuple h.1 h.2
theorem VR.undef{r:Ren}:VR r undef undef:=.tupA .nil
end Lift
namespace Lift
open Go
variable[Jk]
inductive TR(r:Ren):Target->Target->Prop
 | fn {f f' xs xs'} (hf:FnR r f f') (h:VRs r xs xs'):TR r (.fn f xs) (.fn f' xs')
 | nil:TR r .nil .nil
 | collected {b c} (h:r b=some c):TR r (.collected b) (.collected c)
def DR(r:Ren)(d d':Deferred):Prop:=TR r d.target d'.target/\VRs r d.args d'.args
def ER(r:Ren)(e e':MapEntry):Prop:=VR r e.key e'.key/\VR r e.val e'.val/\e.born=e'.born
structure Inv where
 code:Code->Prop
 fn:FuncId->Prop
structure LpR(C:Inv)(r:Ren)(l l':Loop):Prop where
 state:l.state=l'.state
 pending:l.pending=l'.pending/\∀c,l.pending=some c->C.code c
 fn:l.fn=l'.fn/\C.fn l.fn
 tmps:VRs r l.tmps l'.tmps
 params:l.params=l'.params
 assign:l.assign=l'.assign/\C.code l.assign
 body:l.body=l'.body/\C.code l.body
 defers:r l.defers=some l'.defers
inductive OR(C:Inv)(r:Ren):Obj->Obj->Prop
 | cells {cs cs' e fr fr'} (h:VRs r cs cs') (hf:(fr=(0,0)/\fr'=(0,0))\/fr=(0,cs.size)):OR C r (.cells cs e fr) (.cells cs' e fr')
 | number {a b} (l) (h:AR r a b):OR C r (.number a l) (.number b l)
 | map {es es'} (n) (h:Arr (ER r) es es'):OR C r (.map es n) (.map es' n)
 | loop {l l'} (h:LpR C r l l'):OR C r (.loop l) (.loop l')
 | def0:OR C r (.deferred none) (.deferred none)
 | def1 {ds ds'} (h:Lis (DR r) ds ds'):OR C r (.deferred (some ds)) (.deferred (some ds'))
theorem TR.mono{r s:Ren}(h:r.le s){x y:Target}(k:TR r x y):TR s x y:=by
 cases k with
 | fn hf q=>exact .fn (hf.mono h) (q.imp λ_ _=>VR.mono h)
 | nil=>exact .nil
 | collected q=>exact .collected (h.1 _ _ q)
theorem DR.mono{r s:Ren}(h:r.le s){x y:Deferred}(k:DR r x y):DR s x y:=⟨k.1.mono h,k.2.imp λ_ _=>VR.mono h⟩
theorem ER.mono{r s:Ren}(h:r.le s){x y:MapEntry}(k:ER r x y):ER s x y:=⟨k.1.mono h,k.2.1.mono h,k.2.2⟩
theorem LpR.mono{C:Inv}{r s:Ren}(h:r.le s){x y:Loop}(k:LpR C r x y):LpR C s x y:=
 ⟨k.state,k.pending,k.fn,k.tmps.imp λ_ _=>VR.mono h,k.params,k.assign,k.body,h.1 _ _ k.defers⟩
theorem OR.mono{C:Inv}{r s:Ren}(h:r.le s){x y:Obj}(k:OR C r x y):OR C s x y:=by
 cases k with
 | cells q hf=>exact .cells (q.imp λ_ _=>VR.mono h) hf
 | number l q=>exact .number l (q.mono h)
 | map n q=>exact .map n (q.imp λ_ _=>ER.mono h)
 | loop q=>exact .loop (q.mono h)
 | def0=>exact .def0
 | def1 q=>exact .def1 (q.imp λ_ _=>DR.mono h)
def Dies:Halt->Prop
 | .stuck _=>True
 | .unsupported (.initOrder _)=>False
 | .unsupported _=>True
 | _=>False
def Dead{α:Type}(Q:Program)(s:Sem α):Prop:=∀w,∃h w',s.run Q w = .halt h w'/\Dies h
section
variable{Q P:Program}{C:Inv}
inductive SR(Q P:Program)(C:Inv){α β:Type}(A:Ren->α->β->Prop):Ren->Sem α->Sem β->Prop
 | pure {r a b} (h:A r a b):SR Q P C A r (.pure a) (.pure b)
 | load {r a a' k k'} (h:AR r a a') (t:∀r',r.le r'->∀x x',VR r' x x'->SR Q P C A r' (k x) (k' x')):SR Q P C A r (.load .plain a k) (.load .plain a' k')
 | store {r a a' v v' k k'} (h:AR r a a') (hv:VR r v v') (t:SR Q P C A r k k'):SR Q P C A r (.store .plain a v k) (.store .plain a' v' k')
 | new {r o o' k k'} (h:OR C r o o') (t:∀r',r.le r'->∀b b',r' b=some b'->SR Q P C A r' (k b) (k' b')):SR Q P C A r (.new o k) (.new o' k')
 | shape {r b b' k k'} (h:r b=some b') (t:∀s,SR Q P C A r (k s) (k' s)):SR Q P C A r (.shape b k) (.shape b' k')
 | getObj {r b b' k k'} (h:r b=some b') (t:∀r',r.le r'->∀o o',OR C r' o o'->SR Q P C A r' (k o) (k' o')):SR Q P C A r (.getObj b k) (.getObj b' k')
 | setObj {r b b' o o' k k'} (h:r b=some b') (ho:OR C r o o') (hc:∀cs e f,o ≠ .cells cs e f) (t:SR Q P C A r k k'):SR Q P C A r (.setObj b o k) (.setObj b' o' k')
 | choose {r q k k'} (t:∀n,SR Q P C A r (k n) (k' n)):SR Q P C A r (.choose q k) (.choose q k')
 | program {r k k'} (t:SR Q P C A r (k Q) (k' P)):SR Q P C A r (.program k) (.program k')
 | room {r k k'} (t:SR Q P C A r k k'):SR Q P C A r (.mark .noRoom k) (.mark .noRoom k')
 | env {r k k'} (t:∀e,SR Q P C A r (k (.strings e)) (k' (.strings e))):SR Q P C A r (.sys .env k) (.sys .env k')
 | panic {r x x'} (h:VR r x x'):SR Q P C A r (.halt (.panic x)) (.halt (.panic x'))
 | dead {r s s'} (h:Dead Q s):SR Q P C A r s s'
theorem Dead.bind{s:Sem α}(h:Dead Q s)(f:α->Sem β): Dead Q (s.bind f):=λw=>by
 obtain⟨x,w',hr,hd⟩:=h w;exact⟨x,w',by rw[Sem.run_bind',hr];rfl,hd⟩
theorem SR.mono{α β:Type}{A:Ren->α->β->Prop}(hA:∀r s,r.le s->∀a b,A r a b->A s a b){r s:Ren}(h:r.le s){x:Sem α}{y:Sem β}(k:SR Q P C A r x y):SR Q P C A s x y:=by
 induction k generalizing s with
 | pure q=>exact .pure (hA _ _ h _ _ q)
 | load q _ ih=>exact .load (q.mono h) λr' h' x x' hx=>ih r' (Ren.le_trans h h') x x' hx (Ren.le_refl _)
 | store q hv _ ih=>exact .store (q.mono h) (hv.mono h) (ih h)
 | new q _ ih=>exact .new (q.mono h) λr' h' b b' hb=>ih r' (Ren.le_trans h h') b b' hb (Ren.le_refl _)
 | shape q _ ih=>exact .shape (h.1 _ _ q) λx=>ih x h
 | getObj q _ ih=>exact .getObj (h.1 _ _ q) λr' h' o o' ho=>ih r' (Ren.le_trans h h') o o' ho (Ren.le_refl _)
 | setObj q ho hc _ ih=>exact .setObj (h.1 _ _ q) (ho.mono h) hc (ih h)
 | choose _ ih=>exact .choose λn=>ih n h
 | program _ ih=>exact .program (ih h)
 | room _ ih=>exact .room (ih h)
 | env _ ih=>exact .env λe=>ih e h
 | panic q=>exact .panic (q.mono h)
 | dead q=>exact .dead q
theorem SR.bind{α β γ δ:Type}{A:Ren->α->β->Prop}{B:Ren->γ->δ->Prop}{r:Ren}{x:Sem α}{y:Sem β}{f:α->Sem γ}{g:β->Sem δ}(k:SR Q P C A r x y)
  (h:∀r',r.le r'->∀a b,A r' a b->SR Q P C B r' (f a) (g b)):SR Q P C B r (x.bind f) (y.bind g):=by
 induction k with
 | pure q=>exact h _ (Ren.le_refl _) _ _ q
 | load q _ ih=>exact .load q λr' h' x x' hx=>ih r' h' x x' hx λs hs=>h s (Ren.le_trans h' hs)
 | store q hv _ ih=>exact .store q hv (ih h)
 | new q _ ih=>exact .new q λr' h' b b' hb=>ih r' h' b b' hb λs hs=>h s (Ren.le_trans h' hs)
 | shape q _ ih=>exact .shape q λx=>ih x h
 | getObj q _ ih=>exact .getObj q λr' h' o o' ho=>ih r' h' o o' ho λs hs=>h s (Ren.le_trans h' hs)
 | setObj q ho hc _ ih=>exact .setObj q ho hc (ih h)
 | choose _ ih=>exact .choose λn=>ih n h
 | program _ ih=>exact .program (ih h)
 | room _ ih=>exact .room (ih h)
 | env _ ih=>exact .env λe=>ih e h
 | panic q=>exact .panic q
 | dead q=>exact .dead (q.bind _)
theorem SR.imp{A B:Ren->α->β->Prop}{r:Ren}{x:Sem α}{y:Sem β}(k:SR Q P C A r x y)(h:∀r' a b,r.le r'->A r' a b->B r' a b): SR Q P C B r x y:=by
 have:=k.bind (f:=Sem.pure) (g:=Sem.pure) (B:=B) λr' hr a b q=>.pure (h r' a b hr q)
 rwa[Sem.bind_pure',Sem.bind_pure']at this
structure WR(C:Inv)(r:Ren)(v w:World):Prop where
 on:∀b c,r b=some c->∃o o',v.heap[b]?=some o/\w.heap[c]?=some o'/\OR C r o o'
 inj:Inj r
 tape:∀i q,v.tape (v.drawn+i) q=w.tape (w.drawn+i) q
 env:v.os.env=w.os.env
def Shut(v:World)(b:Nat):Prop:=∃cs e,v.heap[b]?=some (.cells cs e (0,cs.size))
def EvG(r:Ren)(v w:World)(e:Event):Prop:=
 (∃a wr b,e=⟨.cell a,wr,false⟩/\r b=some a.block/\a.block<w.heap.size/\(wr=true->¬Shut v b)) \/
 (∃c wr b,e=⟨.obj c,wr,false⟩/\r b=some c/\c<w.heap.size/\¬∃cs e f,v.heap[b]?=some (.cells cs e f))\/e=⟨.mark .noRoom,false,true⟩\/e=⟨.output,true,false⟩
structure Kept(r r':Ren)(v v' w w':World):Prop where
 le:r.le r'
 tapeV:v'.tape=v.tape
 tapeW:w'.tape=w.tape
 drawn:∃n,v'.drawn=v.drawn+n/\w'.drawn=w.drawn+n
 os:v.os=v'.os/\w.os=w'.os
 sizeV:v.heap.size<=v'.heap.size
 sizeW:w.heap.size<=w'.heap.size
 far:∀(c:Nat),c<w.heap.size->(∀b,r b≠some c)->w'.heap[c]?=w.heap[c]?
 new:∀b c,r' b=some c->r b=some c\/(v.heap.size<=b/\w.heap.size<=c)
 shut:∀(b:Nat),Shut v b->v'.heap[b]?=v.heap[b]?
 cells:∀(b:Nat) cs e f,v.heap[b]?=some (.cells cs e f)->∃cs' f',v'.heap[b]?=some (.cells cs' e f')
 farV:∀(b:Nat),b<v.heap.size->r b=none->v'.heap[b]?=v.heap[b]?
 shutW:∀b c,Shut v b->r b=some c->w'.heap[c]?=w.heap[c]?
 par:v.heap.size=w.heap.size->v'.heap.size=w'.heap.size/\(∀b c,r' b=some c->r b=some c\/b=c)/\∀c,w.heap.size<=c->c<w'.heap.size->r' c=some c
 out:w'.output=w.output:=by rfl
theorem Kept.refl(r:Ren)(v w:World):Kept r r v v w w:=
 ⟨Ren.le_refl _,rfl,rfl,⟨0,rfl,rfl⟩,⟨rfl,rfl⟩,Ye _,Ye _,λ_ _ _=>rfl,λ_ _ h=>.inl h,λ_ _=>rfl,λ_ _ _ _ h=>⟨_,_,h⟩,λ_ _ _=>rfl,λ_ _ _ _=>rfl,λh=>⟨h,λ_ _ h=>.inl h,λc h1 h2=>by omega⟩,rfl⟩
theorem Kept.shutS{r r':Ren}{v v' w w':World}(h:Kept r r' v v' w w'){b:Nat}(k:Shut v b): Shut v' b:=by
 obtain⟨cs,e,q⟩:=k;exact⟨cs,e,by rw[h.shut b ⟨cs,e,q⟩,q]⟩
theorem Kept.trans{r r' r'':Ren}{v v' v'' w w' w'':World}(h:Kept r r' v v' w w')(k:Kept r' r'' v' v'' w' w''):Kept r r'' v v'' w w'' where
 le:=Ren.le_trans h.le k.le
 tapeV:=k.tapeV.trans h.tapeV
 tapeW:=k.tapeW.trans h.tapeW
 drawn:=by
  obtain⟨n,h1,h2⟩:=h.drawn;obtain⟨m,k1,k2⟩:=k.drawn;exact⟨n+m,by omega,by omega⟩
 os:=⟨h.os.1.trans k.os.1,h.os.2.trans k.os.2⟩
 sizeV:=Yd h.sizeV k.sizeV
 sizeW:=Yd h.sizeW k.sizeW
 far:=λc hc hf=>by
  rw[k.far c (Y8 hc h.sizeW) λb hb=>?_,h.far c hc hf]
  rcases h.new b c hb with q | ⟨_,q⟩
  ·exact hf b q
  ·omega
 new:=λb c hb=>by
  rcases k.new b c hb with q | ⟨q1,q2⟩
  ·exact h.new b c q
  ·exact .inr ⟨Yd h.sizeV q1,Yd h.sizeW q2⟩
 shut:=λb hb=>by rw[k.shut b (h.shutS hb),h.shut b hb]
 cells:=λb cs e f hb=>let ⟨cs',f',q⟩:=h.cells b cs e f hb;k.cells b cs' e f' q
 farV:=λb hb hr=>by
  rw[k.farV b (Y8 hb h.sizeV) ?_,h.farV b hb hr]
  cases hx:r' b with
  | none=>rfl
  | some c =>
   rcases h.new b c hx with q | ⟨q,_⟩
   ·rw[hr]at q;cases q
   ·omega
 shutW:=λb c hb hr=>by rw[k.shutW b c (h.shutS hb) (h.le.1 _ _ hr),h.shutW b c hb hr]
 par:=λe=>by
  obtain⟨h1,h2,h3⟩:=h.par e;obtain⟨k1,k2,k3⟩:=k.par h1;refine⟨k1,λb c hb=>?_,λc hc1 hc2=>?_⟩
  ·rcases k2 b c hb with q | q
   ·exact h2 b c q
   ·exact .inr q
  ·by_cases hc:c<w'.heap.size
   ·exact k.le.1 _ _ (h3 c hc1 hc)
   ·exact k3 c (by omega) hc2
 out:=k.out.trans h.out
theorem EvG.lift{r r' r'':Ren}{v v' w' w'':World}{w:World}(h:Kept r r' v v' w w'){e:Event}(k:EvG r'' v' w'' e): EvG r'' v w'' e:=by
 rcases k with⟨a,wr,b,he,hb,hl,hs⟩ | ⟨c,wr,b,he,hb,hl,hs⟩ | he
 ·exact .inl ⟨a,wr,b,he,hb,hl,λhw q=>hs hw (h.shutS q)⟩
 ·exact .inr (.inl ⟨c,wr,b,he,hb,hl,λ⟨cs,t,f,q⟩=>by
   obtain⟨cs',f',q'⟩:=h.cells b cs t f q;exact hs ⟨cs',t,f',q'⟩⟩)
 ·exact .inr (.inr he)
theorem EvG.more{r r':Ren}{v w w':World}(h:r.le r')(hw:w.heap.size<=w'.heap.size){e:Event}(k:EvG r v w e): EvG r' v w' e:=by
 rcases k with⟨a,wr,b,he,hb,hl,hs⟩ | ⟨c,wr,b,he,hb,hl,hs⟩ | he
 ·exact .inl ⟨a,wr,b,he,h.1 _ _ hb,Y8 hl hw,hs⟩
 ·exact .inr (.inl ⟨c,wr,b,he,h.1 _ _ hb,Y8 hl hw,hs⟩)
 ·exact .inr (.inr he)
def Out(C:Inv){α β:Type}(A:Ren->α->β->Prop)(r:Ren)(v w:World)(es:Array Event):Result α->Result β×Array Event->Prop
 | .ok a v',q=>∃r' b w' ns,q=(.ok b w',es++ns)/\WR C r' v' w'/\A r' a b/\Kept r r' v v' w w'/\∀e∈ns,EvG r' v w' e
 | .halt (.panic x) v',q=>∃r' x' w' ns,q=(.halt (.panic x') w',es++ns)/\WR C r' v' w'/\VR r' x x'/\Kept r r' v v' w w'/\∀e∈ns,EvG r' v w' e
 | .halt x _,_=>Dies x
theorem Out.step{α β:Type}{A:Ren->α->β->Prop}{r r₁:Ren}{v v₁ w w₁:World}{es ns:Array Event}{x:Result α}{y:Result β×Array Event}(hk:Kept r r₁ v v₁ w w₁)(he:∀e∈ns,EvG r₁ v w₁ e)
  (h:Out C A r₁ v₁ w₁ (es++ns) x y):Out C A r v w es x y:=by
 cases x with
 | ok a v' =>
  obtain⟨r',b,w',n2,rfl,hw,ha,hk2,he2⟩:=h;refine⟨r',b,w',ns++n2,by rw[Array.append_assoc],hw,ha,hk.trans hk2,λe hm=>?_⟩
  rcases Array.mem_append.1 hm with q | q
  ·exact(he e q).more hk2.le hk2.sizeW
  ·exact(he2 e q).lift hk
 | halt x v' =>
  cases x with
  | panic x =>
   obtain⟨r',b,w',n2,rfl,hw,ha,hk2,he2⟩:=h;refine⟨r',b,w',ns++n2,by rw[Array.append_assoc],hw,ha,hk.trans hk2,λe hm=>?_⟩
   rcases Array.mem_append.1 hm with q | q
   ·exact(he e q).more hk2.le hk2.sizeW
   ·exact(he2 e q).lift hk
  | _=>exact h
theorem Out.dies{A:Ren->α->β->Prop}{r:Ren}{v w:World}{es:Array Event}{x:Halt}{v':World}{y:Result β×Array Event}(h:Dies x): Out C A r v w es (.halt x v':Result α) y:=by
 cases x<;>first | exact h | exact h.elim
end
end Lift
namespace Lift
open Go
variable[Jk]
section
variable{Q P:Program}{C:Inv}{r:Ren}{v w:World}
theorem WR.lt{b c:Nat}(h:WR C r v w)(q:r b=some c): b<v.heap.size/\c<w.heap.size:=by
 obtain⟨o,o',h1,h2,_⟩:=h.on b c q;exact⟨(Y0.1 h1).1,(Y0.1 h2).1⟩
theorem WR.turn{b c:Nat}{o o':Obj}{v' w':World}(h:WR C r v w)(q:r b=some c)(ho:OR C r o o')(hv:∀i,v'.heap[i]?=if b=i then some o else v.heap[i]?)(hw:∀i,w'.heap[i]?=if c=i then some o' else w.heap[i]?)(t:v'.tape=v.tape/\v'.drawn=v.drawn/\w'.tape=w.tape/\w'.drawn=w.drawn/\v'.os=v.os/\w'.os=w.os): WR C r v' w' where
 on:=λx y hx=>by
  by_cases e:b=x
  ·subst e
   obtain rfl:c=y:=Y1 (q.symm.trans hx);exact⟨o,o',by rw[hv,if_pos rfl],by rw[hw,if_pos rfl],ho⟩
  ·have:c≠y:=λe'=>e (h.inj b x c q (e'▸hx))
   rw[hv,if_neg e,hw,if_neg this];exact h.on x y hx
 inj:=h.inj
 tape:=λi q=>by rw[t.1,t.2.1,t.2.2.1,t.2.2.2.1];exact h.tape i q
 env:=by rw[t.2.2.2.2.1,t.2.2.2.2.2];exact h.env
theorem ZiG{A:Ren->α->β->Prop}{a a':Addr}{k:Value->Sem α}{k':Value->Sem β}(h:WR C r v w)(ha:AR r a a')(es:Array Event)(t:∀x x',VR r x x'->∀es',Out C A r v w es' ((k x).run Q v) ((k' x').runT P w es')):
  Out C A r v w es ((Sem.load .plain a k).run Q v) ((Sem.load .plain a' k').runT P w es):=by
 cases ha with
 | @mk b c o s hb =>
 obtain⟨x,x',h1,h2,ho⟩:=h.on b c hb;have hl:=(h.lt hb).2;have none_:v.cell? ⟨b,o,s⟩=none->(∀p e,x ≠ .pending p e)->(∀p e,x ≠ .view p e)->Out C A r v w es ((Sem.load .plain ⟨b,o,s⟩ k).run Q v) ((Sem.load .plain ⟨c,o,s⟩ k').runT P w es):=by
  intro hn hp hv;simp only[Sem.run,hn,World.farLoad,World.noCell,h1]
  cases x<;>first | exact absurd rfl (hp _ _) | exact absurd rfl (hv _ _) | exact Out.dies trivial
 cases ho with
 | @cells cs cs' e fr fr' q hf =>
  have e1:v.cell? ⟨b,o,s⟩=if s.isSome then none else cs[o]?:=by simp only[World.cell?,h1]
  have e2:w.cell? ⟨c,o,s⟩=if s.isSome then none else cs'[o]?:=by simp only[World.cell?,h2]
  by_cases hs:s.isSome
  ·exact none_ (by rw[e1,if_pos hs]) (by simp) (by simp)
  ·rcases q.get o with⟨n,_⟩ | ⟨y,y',hy,hy',hr⟩
   ·exact none_ (by rw[e1,if_neg hs,n]) (by simp) (by simp)
   ·rw[if_neg hs,hy]at e1
    rw[if_neg hs,hy']at e2;simp only[Sem.run,e1];unfold Sem.runT;simp only[e2];refine Out.step (ns:=#[⟨.cell ⟨c,o,s⟩,false,false⟩]) (Kept.refl r v w) (λev hm=>?_) ?_
    ·obtain rfl:=Array.mem_singleton.1 hm
     exact .inl ⟨_,_,b,rfl,hb,hl,by simp⟩
    ·rw[Array.push_eq_append];exact t y y' hr (es++#[⟨.cell ⟨c,o,s⟩,false,false⟩])
 | _=>exact none_ (by simp only[World.cell?,h1]) (by simp) (by simp)
theorem ZfS {α β:Type} {A:Ren->α->β->Prop} {a a':Addr} {z z':Value} {k:Sem α} {k':Sem β} (h:WR C r v w) (ha:AR r a a') (hz:VR r z z') (es:Array Event)
    (t:∀v' w',WR C r v' w'->∀es',Out C A r v' w' es' (k.run Q v') (k'.runT P w' es')) :
    Out C A r v w es ((Sem.store .plain a z k).run Q v) ((Sem.store .plain a' z' k').runT P w es):=by
  cases ha with
  | @mk b c o s hb =>
  obtain⟨x, x', h1, h2, ho⟩ := h.on b c hb;have hl := h.lt hb
  by_cases hag:(∃xs,z = .agg xs)\/∃xs,z = .tuple xs
  · rcases hag with⟨xs,rfl⟩ | ⟨xs,rfl⟩
    · exact Out.dies (by simp[Dies])
    · exact Out.dies (by simp[Dies])
  have na : (∀xs, z ≠ .agg xs)/\∀xs, z ≠ .tuple xs := ⟨λxs e => hag (.inl ⟨xs, e⟩), λxs e => hag (.inr ⟨xs, e⟩)⟩;have na' : (∀xs, z' ≠ .agg xs)/\∀xs, z' ≠ .tuple xs := by
    constructor<;>intro xs e<;>subst e<;>cases hz<;>first | exact na.1 _ rfl | exact na.2 _ rfl | (rename_i h n m;first | exact h _ rfl | exact n.2 _ rfl)
  have run1:(Sem.store .plain ⟨b,o,s⟩ z k).run Q v=match v.cell? ⟨b,o,s⟩ with
      | some _=>if v.frozen? ⟨b,o,s⟩ then .halt (.unsupported (.unsafePointer "a write to bytes that a string shares")) v else k.run Q (v.setCell ⟨b,o,s⟩ z)
      | none=>match v.farStore Q ⟨b,o,s⟩ z false with | .ok (w,_)=>k.run Q w | .error h=>.halt h v:=by
    cases z<;>first | exact absurd rfl (na.1 _) | exact absurd rfl (na.2 _) | rfl
  have run2:(Sem.store .plain ⟨c,o,s⟩ z' k').runT P w es=match w.cell? ⟨c,o,s⟩ with
      | some _=>if w.frozen? ⟨c,o,s⟩ then(.halt (.unsupported (.unsafePointer "a write to bytes that a string shares")) w,es) else k'.runT P (w.setCell ⟨c,o,s⟩ z') (es.push ⟨.cell ⟨c,o,s⟩,true,false⟩)
      | none=>match w.farStore P ⟨c,o,s⟩ z' false with | .ok (w,touched)=>k'.runT P w (es++touched.toArray.map (⟨.cell ·,true,false⟩)) | .error h=>(.halt h w,es):=by
    cases z'<;>first | exact absurd rfl (na'.1 _) | exact absurd rfl (na'.2 _) | rfl
  have none_:v.cell? ⟨b,o,s⟩=none->(∀p e,x ≠ .pending p e)->(∀p e,x ≠ .view p e)->Out C A r v w es ((Sem.store .plain ⟨b,o,s⟩ z k).run Q v) ((Sem.store .plain ⟨c,o,s⟩ z' k').runT P w es):=by
    intro hn hp hv;rw[run1];simp only[hn, World.farStore, World.noCell, h1]
    cases x<;>first | exact absurd rfl (hp _ _) | exact absurd rfl (hv _ _) | exact Out.dies trivial
  cases ho with
  | @cells cs cs' e fr fr' q hf =>
    have e1:v.cell? ⟨b,o,s⟩=if s.isSome then none else cs[o]?:=by simp only[World.cell?,h1]
    have e2:w.cell? ⟨c,o,s⟩=if s.isSome then none else cs'[o]?:=by simp only[World.cell?,h2]
    by_cases hs:s.isSome
    · exact none_ (by rw[e1,if_pos hs]) (by simp) (by simp)
    · rcases q.get o with⟨n,_⟩ | ⟨y,y',hy,hy',_⟩
      · exact none_ (by rw[e1,if_neg hs,n]) (by simp) (by simp)
      · rw[if_neg hs,hy]at e1
        rw[if_neg hs, hy']at e2;have f1 : v.frozen? ⟨b, o, s⟩=(decide (fr.1<=o)&&decide (o<fr.2)) := by simp only[World.frozen?, h1]
        rw[run1, run2, e1, e2];have hlt : o<cs.size := (Y0.1 hy).1
        rcases hf with⟨hf,rfl⟩ | hf
        case inr =>
          have:v.frozen? ⟨b,o,s⟩=true:=by rw[f1,hf];simpa using hlt
          simp only[this, if_true];exact Out.dies trivial
        have f2:w.frozen? ⟨c,o,s⟩=false:=by simp[World.frozen?,h2]
        simp only[f2];have f3 : v.frozen? ⟨b, o, s⟩=false := by rw[f1, hf]; simp
        simp only[f3];have hv' : ∀i, (v.setCell ⟨b, o, s⟩ z).heap[i]?=if b=i then some (.cells (cs.setIfInBounds o z) e fr) else v.heap[i]? := by
          intro i;simp only[World.setCell, Array.getElem?_modify]
          by_cases e':b=i
          · subst e';simp[h1,hs]
          · simp[e']
        have hw':∀i,(w.setCell ⟨c,o,s⟩ z').heap[i]?=if c=i then some (.cells (cs'.setIfInBounds o z') e (0,0)) else w.heap[i]?:=by
          intro i;simp only[World.setCell, Array.getElem?_modify]
          by_cases e':c=i
          · subst e';simp[h2,hs]
          · simp[e']
        have hR := h.turn (v' := v.setCell ⟨b, o, s⟩ z) (w' := w.setCell ⟨c, o, s⟩ z') hb (.cells (q.set o hz) (.inl ⟨hf, rfl⟩)) hv' hw' ⟨rfl, rfl, rfl, rfl, rfl, rfl⟩;have nsh : ¬Shut v b := λ⟨cs2, e2, q2⟩ => by
          rw[h1]at q2;simp only[Y4, Obj.cells.injEq]at q2;obtain⟨rfl, _, q3⟩ := q2;rw[hf]at q3;simp only[Y9, true_and]at q3;omega
        refine Out.step (r₁:=r) (v₁:=v.setCell ⟨b,o,s⟩ z) (w₁:=w.setCell ⟨c,o,s⟩ z') (ns:=#[⟨.cell ⟨c,o,s⟩,true,false⟩]) ?_ (λev hm=>?_) ?_
        · exact {
            le:=Ren.le_refl _,tapeV:=rfl,tapeW:=rfl,drawn:=⟨0,rfl,rfl⟩,os:=⟨rfl,rfl⟩
            sizeV:=by simp[World.setCell],sizeW:=by simp[World.setCell]
            far:=λi _ hf2=>by rw[hw',if_neg (λe':c=i=>hf2 b (e'▸hb))]
            new:=λ_ _ hb2=>.inl hb2
            shut:=λi hi=>by rw[hv',if_neg (λe':b=i=>nsh (e'▸hi))]
            cells:=λi cs2 e2 f2 hi=>by
              rw[hv']
              by_cases e':b=i
              · subst e'
                rw[h1]at hi;simp only[Y4, Obj.cells.injEq]at hi;obtain⟨_, rfl, _⟩ := hi;exact⟨_, _, if_pos rfl⟩
              · rw[if_neg e'];exact⟨_,_,hi⟩
            farV:=λi _ hi=>by rw[hv',if_neg (λe':b=i=>by rw[e',hi]at hb;cases hb)]
            shutW:=λi j hi hj=>by rw[hw',if_neg (λe':c=j=>nsh (h.inj b i c hb (e'▸hj)▸hi))]
            par := λe => ⟨by simpa [World.setCell] using e, λ_ _ hb => .inl hb, λi h1 h2 => by simp [World.setCell] at h2; omega⟩ }
        · obtain rfl:=Array.mem_singleton.1 hm
          exact .inl ⟨_,_,b,rfl,hb,by simpa[World.setCell] using hl.2,λ_=>nsh⟩
        · rw[Array.push_eq_append];exact t _ _ hR (es++#[⟨.cell ⟨c,o,s⟩,true,false⟩])
  | _=>exact none_ (by simp only[World.cell?,h1]) (by simp) (by simp)
def Ren.add(r:Ren)(b c:Nat):Ren:=λx=>if x=b then some c else r x
theorem ZkK {α β:Type} {A:Ren->α->β->Prop} {o o':Obj} {k:Nat->Sem α} {k':Nat->Sem β} (h:WR C r v w) (ho:OR C r o o') (es:Array Event)
    (t:∀r',r.le r'->∀b c,r' b=some c->∀v' w',WR C r' v' w'->∀es',Out C A r' v' w' es' ((k b).run Q v') ((k' c).runT P w' es')) :
    Out C A r v w es ((Sem.new o k).run Q v) ((Sem.new o' k').runT P w es):=by
  have hin:Inj (r.add v.heap.size w.heap.size):=λa b c ha hb=>by
    unfold Ren.add at ha hb
    split at ha<;>split at hb
    · omega
    · simp only[Y4]at ha;have:=(h.lt hb).2;omega
    · simp only[Y4]at hb;have:=(h.lt ha).2;omega
    · exact h.inj a b c ha hb
  have hle:r.le (r.add v.heap.size w.heap.size):=⟨λb c hb=>by
    unfold Ren.add;rw[if_neg (by have := (h.lt hb).1; omega), hb], λ_ => hin⟩
  have hnew : r.add v.heap.size w.heap.size v.heap.size=some w.heap.size := if_pos rfl;have hR : WR C (r.add v.heap.size w.heap.size) {v with heap := v.heap.push o} {w with heap := w.heap.push o'} := by
    refine⟨λb c hb=>?_,hin,h.tape,h.env⟩
    · unfold Ren.add at hb
      split at hb
      · rename_i e
        subst e;simp only[Y4]at hb;subst hb;exact⟨o, o', by simp, by simp, ho.mono hle⟩
      · obtain⟨x,x',h1,h2,h3⟩:=h.on b c hb
        have hl := h.lt hb;refine⟨x, x', ?_, ?_, h3.mono hle⟩
        · rw[Array.getElem?_push,if_neg (by omega)];exact h1
        · rw[Array.getElem?_push,if_neg (by omega)];exact h2
  simp only[Sem.run];unfold Sem.runT
  have hk : Kept r (r.add v.heap.size w.heap.size) v { v with heap := v.heap.push o } w { w with heap := w.heap.push o' } := {
    le:=hle,tapeV:=rfl,tapeW:=rfl,drawn:=⟨0,rfl,rfl⟩,os:=⟨rfl,rfl⟩
    sizeV:=by simp,sizeW:=by simp
    far:=λi hi _=>by simp only[Array.getElem?_push];rw[if_neg (by omega)]
    new:=λb c hb=>by
      unfold Ren.add at hb
      split at hb
      · simp only[Y4]at hb
        exact .inr ⟨by omega,by omega⟩
      · exact .inl hb
    shut:=λb hb=>by
      obtain⟨cs, e, q⟩ := hb;have := (Y0.1 q).1;simp only[Array.getElem?_push]; rw[if_neg (by omega)]
    cells:=λb cs e f q=>by
      have := (Y0.1 q).1;simp only[Array.getElem?_push]; rw[if_neg (by omega)]; exact⟨_, _, q⟩
    farV:=λb hb _=>by simp only[Array.getElem?_push];rw[if_neg (by omega)]
    shutW:=λb c _ hr=>by
      have := (h.lt hr).2;simp only[Array.getElem?_push]; rw[if_neg (by omega)]
    par:=λe=>⟨by simp[e],λb c hb=>by
      unfold Ren.add at hb
      split at hb
      · simp only[Y4]at hb
        exact .inr (by omega)
      · exact .inl hb,λc h1 h2=>by
      simp only[Array.size_push]at h2;obtain rfl : c=w.heap.size := by omega
      unfold Ren.add
      rw [if_pos e.symm]⟩ }
  have := t _ hle _ _ hnew _ _ hR es;refine Out.step (ns := #[]) hk (by simp) ?_;simpa using this
theorem OR.flip{o o':Obj}(h:OR C r o o'): (∃cs e f,o = .cells cs e f)\/((∀cs e f,o ≠ .cells cs e f)/\(∀cs e f,o' ≠ .cells cs e f)/\o'.isChan=false):=by
 cases h with
 | cells _ _=>exact .inl ⟨_,_,_,rfl⟩
 | _=>exact .inr ⟨by simp,by simp,rfl⟩
theorem ZdY{A:Ren->α->β->Prop}{b c:Nat}{k:Obj->Sem α}{k':Obj->Sem β}(h:WR C r v w)(hb:r b=some c)(es:Array Event)(t:∀o o',OR C r o o'->∀es',Out C A r v w es' ((k o).run Q v) ((k' o').runT P w es')):
  Out C A r v w es ((Sem.getObj b k).run Q v) ((Sem.getObj c k').runT P w es):=by
 obtain⟨o,o',h1,h2,ho⟩:=h.on b c hb;have hl:=(h.lt hb).2
 rcases ho.flip with⟨cs,e,f,rfl⟩ | ⟨n1,n2,n3⟩
 ·simp only[Sem.run,h1]
  exact Out.dies trivial
 ·have e1:(Sem.getObj b k).run Q v=(k o).run Q v:=by
   conv=>lhs;unfold Sem.run
   rw[h1]
   cases o<;>first | exact absurd rfl (n1 _ _ _) | rfl
  have e2:(Sem.getObj c k').runT P w es=(k' o').runT P w (es++#[⟨.obj c,false,false⟩]):=by
   rw[<-Array.push_eq_append]
   conv=>lhs;unfold Sem.runT
   rw[h2]
   cases o'<;>first | exact absurd rfl (n2 _ _ _) | (cases n3;done) | rfl
  rw[e1,e2];refine Out.step (ns:=#[⟨.obj c,false,false⟩]) (Kept.refl r v w) (λev hm=>?_) (t o o' ho _);obtain rfl:=Array.mem_singleton.1 hm;exact .inr (.inl ⟨_,_,b,rfl,hb,hl,λ⟨cs,e,f,q⟩=>n1 cs e f (by rw[h1]at q;exact Y1 q)⟩)
theorem Ze4 {α β:Type} {A:Ren->α->β->Prop} {b c:Nat} {o o':Obj} {k:Sem α} {k':Sem β} (h:WR C r v w) (hb:r b=some c) (ho:OR C r o o') (hc:∀cs e f,o ≠ .cells cs e f) (es:Array Event)
    (t:∀v' w',WR C r v' w'->∀es',Out C A r v' w' es' (k.run Q v') (k'.runT P w' es')) :
    Out C A r v w es ((Sem.setObj b o k).run Q v) ((Sem.setObj c o' k').runT P w es):=by
  obtain⟨x, x', h1, h2, hx⟩ := h.on b c hb;have hl := h.lt hb
  rcases hx.flip with⟨cs,e,f,rfl⟩ | ⟨n1,n2,n3⟩
  · simp only[Sem.run,h1]
    exact Out.dies trivial
  · have e1:(Sem.setObj b o k).run Q v=k.run Q {v with heap:=v.heap.setIfInBounds b o}:=by
      have:(Sem.setObj b o k).run Q v=match v.heap[b]? with | some (.cells ..)=>.halt (.stuck "setObj: a row of cells") v | some _=>k.run Q {v with heap:=v.heap.setIfInBounds b o} | none=>.halt (.stuck "setObj: no such block") v:=rfl
      rw[this,h1]
      cases x<;>first | exact absurd rfl (n1 _ _ _) | rfl
    have n4:o'.isChan=false:=by
      rcases ho.flip with⟨cs,e,f,rfl⟩ | ⟨_,_,q⟩
      · exact absurd rfl (hc _ _ _)
      · exact q
    have e2:(Sem.setObj c o' k').runT P w es=k'.runT P {w with heap:=w.heap.setIfInBounds c o'} (es++#[⟨.obj c,true,false⟩]):=by
      have:(Sem.setObj c o' k').runT P w es=match w.heap[c]? with | some (.cells ..)=>(.halt (.stuck "setObj: a row of cells") w,es) | some _=>k'.runT P {w with heap:=w.heap.setIfInBounds c o'} (es.push ⟨.obj c,true,o'.isChan⟩) | none=>(.halt (.stuck "setObj: no such block") w,es):=rfl
      rw[this,h2,<-Array.push_eq_append,n4]
      cases x'<;>first | exact absurd rfl (n2 _ _ _) | rfl
    have hv':∀i,(v.heap.setIfInBounds b o)[i]?=if b=i then some o else v.heap[i]?:=λi=>by
      rw[Array.getElem?_setIfInBounds]
      by_cases e':b=i
      · subst e';simp[hl.1]
      · simp[e']
    have hw':∀i,(w.heap.setIfInBounds c o')[i]?=if c=i then some o' else w.heap[i]?:=λi=>by
      rw[Array.getElem?_setIfInBounds]
      by_cases e':c=i
      · subst e';simp[hl.2]
      · simp[e']
    have hR := h.turn (v' := {v with heap := v.heap.setIfInBounds b o}) (w' := {w with heap := w.heap.setIfInBounds c o'}) hb ho hv' hw' ⟨rfl, rfl, rfl, rfl, rfl, rfl⟩;have nb : ∀cs e f, v.heap[b]?≠some (.cells cs e f) := λcs e f q => n1 cs e f (by rw[h1]at q; exact Y1 q);rw[e1, e2];refine Out.step (r₁ := r) (ns := #[⟨.obj c, true, false⟩]) ?_ (λev hm => ?_) (t _ _ hR _)
    · exact {
        le:=Ren.le_refl _,tapeV:=rfl,tapeW:=rfl,drawn:=⟨0,rfl,rfl⟩,os:=⟨rfl,rfl⟩
        sizeV:=by simp,sizeW:=by simp
        far:=λi _ hf2=>by
          show (w.heap.setIfInBounds c o')[i]?=_;rw[hw', if_neg (λe' : c=i => hf2 b (e'▸hb))]
        new:=λ_ _ hb2=>.inl hb2
        shut:=λi hi=>by
          show (v.heap.setIfInBounds b o)[i]?=_;rw[hv', if_neg (λe' : b=i => ?_)];obtain⟨cs, e, q⟩ := hi;exact nb _ _ _ (e'▸q)
        cells:=λi cs2 e2 f2 hi=>by
          show ∃cs' f', (v.heap.setIfInBounds b o)[i]?=_;rw[hv', if_neg (λe' : b=i => nb _ _ _ (e'▸hi))];exact⟨_, _, hi⟩
        farV:=λi _ hi=>by
          show (v.heap.setIfInBounds b o)[i]?=_;rw[hv', if_neg (λe' : b=i => by rw[e', hi]at hb; cases hb)]
        shutW:=λi j hi hj=>by
          show (w.heap.setIfInBounds c o')[j]?=_;rw[hw', if_neg (λe' : c=j => ?_)];obtain⟨cs, e, q⟩ := hi;exact nb _ _ _ (h.inj b i c hb (e'▸hj)▸q)
        par := λe => ⟨by simpa using e, λ_ _ hb => .inl hb, λi h1 h2 => by simp at h2; omega⟩ }
    · obtain rfl:=Array.mem_singleton.1 hm
      exact .inr (.inl ⟨_,_,b,rfl,hb,by simpa using hl.2,λ⟨cs,e,f,q⟩=>nb cs e f q⟩)
theorem ZfP{b c:Nat}(h:WR C r v w)(hb:r b=some c): v.shape? b=w.shape? c:=by
 obtain⟨o,o',h1,h2,ho⟩:=h.on b c hb
 cases ho with
 | cells q _=>simp only[World.shape?,h1,h2,q.1]
 | _=>simp only[World.shape?,h1,h2]
theorem WR.draw(h:WR C r v w):WR C r {v with drawn:=v.drawn+1} {w with drawn:=w.drawn+1}:=
 ⟨h.on,h.inj,λi q=>by
  have:=h.tape (1+i) q;simpa only[Nat.add_assoc] using this,h.env⟩
theorem Z5J(w:World):w.sys .env=(.strings w.os.env,w):=rfl
theorem SR.sim {α β:Type} {A:Ren->α->β->Prop} {s:Sem α} {s':Sem β} (k:SR Q P C A r s s'):∀(v w:World),WR C r v w->∀es,Out C A r v w es (s.run Q v) (s'.runT P w es):=by
  induction k with
  | @pure r a b q =>
    intro v w h es;refine⟨r, _, w, #[], ?_, h, q, Kept.refl _ _ _, by simp⟩;unfold Sem.runT;simp
  | load q _ ih=>exact λv w h es=>ZiG h q es λx x' hx es'=>ih _ (Ren.le_refl _) x x' hx v w h es'
  | store q hv _ ih=>exact λv w h es=>ZfS h q hv es λv' w' h' es'=>ih v' w' h' es'
  | new q _ ih=>exact λv w h es=>ZkK h q es λr' h' b c hb v' w' hw es'=>ih r' h' b c hb v' w' hw es'
  | shape q _ ih =>
    intro v w h es;simp only[Sem.run];unfold Sem.runT;rw[ZfP h q];exact ih _ v w h es
  | getObj q _ ih=>exact λv w h es=>ZdY h q es λo o' ho es'=>ih _ (Ren.le_refl _) o o' ho v w h es'
  | setObj q ho hc _ ih=>exact λv w h es=>Ze4 h q ho hc es λv' w' h' es'=>ih v' w' h' es'
  | @choose r q k k' _ ih =>
    intro v w h es;simp only[Sem.run];unfold Sem.runT
    split
    · exact ih 0 v w h es
    · have e:v.tape v.drawn q=w.tape w.drawn q:=h.tape 0 q
      rw[e]
      have hk : Kept r r v { v with drawn := v.drawn + 1 } w { w with drawn := w.drawn + 1 } := {
        le:=Ren.le_refl _,tapeV:=rfl,tapeW:=rfl,drawn:=⟨1,rfl,rfl⟩,os:=⟨rfl,rfl⟩,sizeV:=Ye _,sizeW:=Ye _
        far := λ_ _ _ => rfl, new := λ_ _ hb => .inl hb, shut := λ_ _ => rfl, cells := λ_ _ _ _ hi => ⟨_, _, hi⟩, farV := λ_ _ _ => rfl, shutW := λ_ _ _ _ => rfl, par := λe => ⟨e, λ_ _ hb => .inl hb, λi h1 h2 => absurd h2 (by dsimp only; omega)⟩ }
      have := ih (q.cut (w.tape w.drawn q)) _ _ h.draw es;refine Out.step (ns := #[]) hk (by simp) ?_;simpa using this
  | program _ ih =>
    intro v w h es;simp only[Sem.run];unfold Sem.runT;exact ih v w h es
  | @room r k k' _ ih =>
    intro v w h es;simp only[Sem.run];unfold Sem.runT;rw[Array.push_eq_append];refine Out.step (ns := #[⟨.mark .noRoom, false, true⟩]) (Kept.refl _ v w) (λev hm => ?_) (ih v w h _);exact .inr (.inr (.inl (Array.mem_singleton.1 hm)))
  | @env r k k' _ ih =>
    intro v w h es;simp only[Sem.run, Z5J];unfold Sem.runT;rw[Z5J, Array.push_eq_append, h.env];refine Out.step (ns := #[⟨.output, true, false⟩]) (Kept.refl _ v w) (λev hm => ?_) (ih _ v w h _);exact .inr (.inr (.inr (Array.mem_singleton.1 hm)))
  | @panic r x x' q =>
    intro v w h es;refine⟨r, x', w, #[], ?_, h, q, Kept.refl _ _ _, by simp⟩;unfold Sem.runT;simp
  | dead q =>
    intro v w h es;obtain⟨x, w', hr, hd⟩ := q v;rw[hr];exact Out.dies hd
end
end Lift
namespace Lift
open Go
def PF(P:Program)(F:Array Func):Program:={P with funcs:=F,globals:=#[]}
theorem Zd2(P:Program)(F:Array Func)(f:Nat)(t:TypeId):Made.infoAt (PF P F).toTables f t=Made.infoAt P.toTables f t:=by
 induction f generalizing t with
 | zero=>rfl
 | succ f ih =>
  have e:Made.infoAt (PF P F).toTables f=Made.infoAt P.toTables f:=funext ih;have e2:(PF P F).types=P.types:=rfl;simp only[Made.infoAt,e,e2]
theorem info_pf{P:Program}{F:Array Func}(t:TypeId): (PF P F).info? t=P.info? t:=by
 have e2:(PF P F).types=P.types:=rfl;unfold Tables.info?;simp only[Zd2,e2]
theorem under_pf{P:Program}{F:Array Func}(t:TypeId): (PF P F).underlying t=P.underlying t:=by
 unfold Program.underlying;simp only[info_pf]
theorem Z1O{P:Program}{F:Array Func}(t:TypeId): (PF P F).cellsOf t=P.cellsOf t:=by
 unfold Program.cellsOf;simp only[info_pf]
theorem Z2Q{P:Program}{F:Array Func}(t:TypeId): (PF P F).bytesOf t=P.bytesOf t:=by
 unfold Program.bytesOf;simp only[info_pf]
theorem Z4I{P:Program}{F:Array Func}: (PF P F).depth=P.depth:=rfl
theorem Z66{P:Program}{F:Array Func}: (PF P F).globals=#[]:=rfl
variable[Jk]
def Z5U(v:Value):Prop:=∀r:Ren,VR r v v
abbrev EQ{α:Type}:Ren->α->α->Prop:=λ_ a b=>a=b
abbrev VA:Ren->Value->Value->Prop:=VR
def ZOk(P:Program)(t:TypeId):Prop:=∀i v,P.info? t=some i->i.zero=some v->Z5U v
section
variable{P:Program}{F:Array Func}{C:Inv}{r:Ren}{α β γ δ:Type}{A:Ren->α->β->Prop}{B:Ren->γ->δ->Prop}
theorem Z6{x:Sem α}{y:Sem β}{f:α->Sem γ}{g:β->Sem δ}(k:SR (PF P F) P C A r x y)(h:∀r',r.le r'->∀a b,A r' a b->SR (PF P F) P C B r' (f a) (g b)):
  SR (PF P F) P C B r (x >>= f) (y >>= g):=SR.bind k h
theorem Z5{y:Sem β}: SR (PF P F) P C A r (stuck why) y:=.dead λw=>⟨_,w,rfl,trivial⟩
theorem Zx{u:Unsupported}{y:Sem β}(h:∀g,u ≠ .initOrder g):SR (PF P F) P C A r (unsupported u) y:=.dead λw=>⟨_,w,rfl,by cases u<;>first | exact absurd rfl (h _) | trivial⟩
theorem Z1n{f:Program->Sem γ}{g:Program->Sem δ}(h:SR (PF P F) P C B r (f (PF P F)) (g P)):SR (PF P F) P C B r (program >>= f) (program >>= g):=SR.program h
theorem Z3V{q:Question}{f:Nat->Sem γ}{g:Nat->Sem δ}(h:∀n,SR (PF P F) P C B r (f n) (g n)):SR (PF P F) P C B r (choose q >>= f) (choose q >>= g):=SR.choose h
theorem Zk: Dead (PF P F) (stuck why:Sem α):=λw=>⟨_,w,rfl,trivial⟩
theorem Zu{u:Unsupported}(h:∀g,u ≠ .initOrder g):Dead (PF P F) (unsupported u:Sem α):=λw=>⟨_,w,rfl,by cases u<;>first | exact absurd rfl (h _) | trivial⟩
theorem Z1I{t:TypeId}{f:TypeInfo->Sem γ}{g:TypeInfo->Sem δ}(h:∀i,P.info? t=some i->SR (PF P F) P C B r (f i) (g i)): SR (PF P F) P C B r (typeInfo t >>= f) (typeInfo t >>= g):=by
 refine SR.program ?_;show SR _ _ _ _ _ (Sem.bind (match (PF P F).info? t with | some i=>pure i | none=>stuck "no such type") f) (Sem.bind (match P.info? t with | some i=>pure i | none=>stuck "no such type") g);rw[info_pf]
 cases k:P.info? t with
 | none=>exact .dead (Zk.bind _)
 | some i=>exact h i k
theorem Zi{t:TypeId}{f:TypeDesc->Sem γ}{g:TypeDesc->Sem δ}(h:∀d,P.underlying t=some d->SR (PF P F) P C B r (f d) (g d)): SR (PF P F) P C B r (underlying t >>= f) (underlying t >>= g):=by
 refine SR.program ?_;show SR _ _ _ _ _ (Sem.bind (match (PF P F).underlying t with | some i=>pure i | none=>stuck "no such type") f) (Sem.bind (match P.underlying t with | some i=>pure i | none=>stuck "no such type") g);rw[under_pf]
 cases k:P.underlying t with
 | none=>exact .dead (Zk.bind _)
 | some i=>exact h i k
theorem ZV{t:TypeId}{f:Nat->Sem γ}{g:Nat->Sem δ}(h:∀n,SR (PF P F) P C B r (f n) (g n)): SR (PF P F) P C B r (sizeOf t >>= f) (sizeOf t >>= g):=by
 show SR _ _ _ _ _ ((typeInfo t >>= λi=>pure i.size) >>= f) ((typeInfo t >>= λi=>pure i.size) >>= g);simp only[bind_assoc,pure_bind];exact Z1I λi _=>h _
theorem ZaK{t:TypeId}{f:Bool->Sem γ}{g:Bool->Sem δ}(h:∀n,SR (PF P F) P C B r (f n) (g n)): SR (PF P F) P C B r (isAgg t >>= f) (isAgg t >>= g):=by
 unfold isAgg;simp only[bind_assoc];refine Zi λd _=>?_
 cases d<;>simp only[pure_bind]<;>exact h _
theorem Z3n{t:TypeId}{f:Value->Sem γ}{g:Value->Sem δ}(hz:ZOk P t)(h:∀v,Z5U v->SR (PF P F) P C B r (f v) (g v)): SR (PF P F) P C B r (zeroValue t >>= f) (zeroValue t >>= g):=by
 unfold zeroValue;simp only[bind_assoc];refine Z1I λi hi=>?_
 cases k:i.zero with
 | none=>exact .dead ((Zu (by simp)).bind _)
 | some v=>simp only[pure_bind];exact h v (hz i v hi k)
theorem Z2K{t:TypeId}{xs ys:Array Value}(h:VRs r xs ys): SR (PF P F) P C AR r (newRow t xs) (newRow t ys):=
 SR.new (.cells h (.inl ⟨rfl,rfl⟩)) λr' _ b c hb=>.pure (.mk hb)
theorem Arr.one{α β:Type}{R:α->β->Prop}{x:α}{y:β}(h:R x y):Arr R #[x] #[y]:=Arr.nil.push h
theorem Arr.two{α β:Type}{R:α->β->Prop}{x x':α}{y y':β}(h:R x y)(k:R x' y'): Arr R #[x,x'] #[y,y']:=(Arr.one h).push k
theorem VR.cells{x y:Value}(h:VR r x y):VRs r x.cells y.cells:=by
 have h0:=h
 cases h with
 | agg hs k=>exact⟨hs,k⟩
 | junk _ hn _ _ =>
  have:y.cells=#[y]:=by cases y<;>first | rfl | exact absurd rfl (hn _)
  rw[this];exact Arr.one h0
 | _=>exact Arr.one h0
theorem VRs.mono{s:Ren}(h:r.le s){xs ys:Array Value}(k:VRs r xs ys):VRs s xs ys:=k.imp λ_ _=>VR.mono h
theorem Z5C{t:TypeId}{x y:Value}(h:VR r x y): SR (PF P F) P C AR r (newVar t x) (newVar t y):=Z2K h.cells
theorem Z2X{x y:Value}(h:VR r x y): SR (PF P F) P C EQ r (asIntOf x) (asIntOf y):=by
 cases h<;>first | exact Z5 | exact Zx (by simp) | exact .pure rfl
theorem Z3T{x y:Value}(h:VR r x y): SR (PF P F) P C EQ r (asInt x) (asInt y):=
 Z6 (Z2X h) λ_ _ a b e=>by subst e;exact .pure rfl
theorem Z5v{x y:Value}(h:VR r x y): SR (PF P F) P C EQ r (asBool x) (asBool y):=by
 cases h<;>first | exact Z5 | exact .pure rfl
theorem Z8v{x y:Int}{s:Bool}{c:BoundsCode}{α β:Type}{A:Ren->α->β->Prop}: SR (PF P F) P C A r (runtimePanic (.bounds x y s c)) (runtimePanic (.bounds x y s c)):=
 Z1n (.panic (.iface _ (.aggA ((((Arr.one (.int _ _)).push (.int _ _)).push (.bool _)).push (.int _ _)))))
theorem Z12{m:String}{α β:Type}{A:Ren->α->β->Prop}: SR (PF P F) P C A r (runtimePanic (.error m)) (runtimePanic (.error m)):=Z1n (.panic (.iface _ (.string _)))
theorem ZfO{m:String}{α β:Type}{A:Ren->α->β->Prop}: SR (PF P F) P C A r (runtimePanic (.plain m)) (runtimePanic (.plain m)):=Z1n (.panic (.iface _ (.string _)))
theorem Z1l{α β:Type}{A:Ren->α->β->Prop}: SR (PF P F) P C A r (runtimePanic .nilDeref) (runtimePanic .nilDeref):=Z1n (.panic (.iface _ (.string _)))
theorem Z0m{k:IntKind}{x y:Int}{c:BoundsCode}{α β:Type}{A:Ren->α->β->Prop}: SR (PF P F) P C A r (boundsPanic k x y c) (boundsPanic k x y c):=by
 unfold boundsPanic;simp only[bind_assoc,pure_bind,map_eq_pure_bind]
 split
 ·exact Z3V λn=>Z8v
 ·exact Z8v
theorem Z8u{x y:Value}(h:VR r x y): SR (PF P F) P C AR r (asAddr x) (asAddr y):=by
 cases h<;>first | exact Z5 | exact Z1l | (rename_i q;exact .pure q)
theorem Z1p{x y:Value}(h:VR r x y): SR (PF P F) P C AR r (Instr.sureAddr x) (Instr.sureAddr y):=by
 cases h<;>first | exact Z5 | (rename_i q;exact .pure q)
theorem AR.add{a b:Addr}(h:AR r a b)(n:Nat):AR r (a.add n) (b.add n):=by
 cases h with
 | mk q =>
  unfold Addr.add
  split
  ·exact .mk q
  ·exact .mk q
theorem ZaL{a b:Addr}(h:AR r a b): SR (PF P F) P C VA r (load a) (load b):=.load h λ_ _ _ _ hx=>.pure hx
theorem Z9z{a b:Addr}(h:AR r a b)(n:Nat): ∀(i:Nat) (xs ys:Array Value),VRs r xs ys->SR (PF P F) P C VRs r (loadCellsFrom a i n xs) (loadCellsFrom b i n ys):=by
 induction n generalizing r with
 | zero=>exact λi xs ys k=>.pure k
 | succ n ih =>
  intro i xs ys k;exact Z6 (ZaL (h.add i)) λr' hr x y hx=>ih (h.mono hr) (i+1) _ _ ((VRs.mono hr k).push hx)
theorem Z4r{a b:Addr}(h:AR r a b)(n:Nat): SR (PF P F) P C VRs r (loadCells a n) (loadCells b n):=Z9z h n 0 _ _ .nil
theorem Z2m{a b:Addr}{xs ys:List Value}(k:Lis (VR r) xs ys): AR r a b->∀i,SR (PF P F) P C EQ r (storeCells a xs i) (storeCells b ys i):=by
 induction k with
 | nil=>exact λ_ i=>.pure rfl
 | cons hx _ ih=>exact λh i=>.store (h.add i) hx (ih h (i+1))
theorem Z6r{t:TypeId}{a b:Addr}(h:AR r a b): SR (PF P F) P C VA r (loadVar t a) (loadVar t b):=by
 unfold loadVar;refine ZaK λn=>?_
 split
 ·exact ZV λn=>Z6 (Z4r h n) λ_ _ xs ys k=>.pure (.aggA k)
 ·exact ZaL h
theorem Z9B{t:TypeId}{a b:Addr}{x y:Value}(h:AR r a b)(hx:VR r x y): SR (PF P F) P C EQ r (storeVar t a x) (storeVar t b y):=by
 unfold storeVar;refine ZV λn=>?_;rw[hx.cells.1]
 split
 ·exact .dead (Zk.bind _)
 ·exact Z2m hx.cells.lis h 0
theorem Z1m{t:TypeId}{xs ys:Array Value}(h:VRs r xs ys)(o:Nat): SR (PF P F) P C VA r (part t xs o) (part t ys o):=by
 unfold part;refine ZaK λn=>?_
 split
 ·exact ZV λn=>.pure (.aggA (h.extract _ _))
 ·rcases h.get o with⟨a,b⟩ | ⟨x,y,a,b,k⟩
  ·rw[a];exact Z5
  ·rw[a,b];exact .pure k
theorem Z6m{n:Nat}: SR (PF P F) P C EQ r (askRoom n) (askRoom n):=by
 unfold askRoom
 split
 ·exact .room (.pure rfl)
 ·exact .pure rfl
end
end Lift
section
open Go
def Qy.f187:Go.Func:=
{name:= "u",origin:= "",params:=#[85,90],resultTypes:=#[22],nfree:=0,ntmps:=14,
 results:=#[Go.ResultVar.tmp 8],
 body:=
  some
   ((Go.Code.region 0
    #[{ dst:=some 2,op:=Go.Op.box 85 (Go.Operand.tmp 0),type:=0,pos:= "",after:=#[],guard:=none },
     { dst:=some 3,op:=Go.Op.fieldAddr 85 (Go.Operand.tmp 2) 0,type:=0,pos:= "",after:=#[{ on:=0,ground:=Go.Ground.data }],guard:=none },
     { dst:=some 4,op:=Go.Op.fieldAddr 27 (Go.Operand.tmp 3) 2,type:=0,pos:= "",after:=#[{ on:=1,ground:=Go.Ground.data }],guard:=none },
     { dst:=some 5,op:=Go.Op.load 25 (Go.Operand.tmp 4),type:=25,pos:= "",after:=#[{ on:=2,ground:=Go.Ground.data }],guard:=none },
     { dst:=some 6,op:=(Go.Op.call { callee:=Go.Callee.builtin Go.Builtin.len,args:=#[(Go.Operand.tmp 5)],argTypes:=#[25] }),type:=3,pos:= "",after:=#[{ on:=3,ground:=Go.Ground.data }],guard:=none },
     { dst:=some 7,op:=Go.Op.move (Go.Operand.const (Go.Value.int Go.IntKind.i64 0)),type:=3,pos:= "",after:=#[],guard:=none },
     { dst:=some 8,op:=Go.Op.assign (Go.Operand.const (Go.Value.slice none 0 0)),type:=22,pos:= "",after:=#[],guard:=none }]
    false).seq
  ((Go.Code.block 0 (Go.Code.loop ((Go.Code.region 1
    #[{ dst:=some 9,op:=Go.Op.binOp Go.BinOp.lss 3 (Go.Operand.tmp 7) (Go.Operand.tmp 6) 3,type:=4,pos:= "",after:=#[],guard:=none }]
    false).seq
  ((Go.Code.cond (Go.Operand.tmp 9) Go.Code.skip (Go.Code.exit 0)).seq
  ((Go.Code.region 2
    #[{ dst:=some 10,op:=(Go.Op.call { callee:=Go.Callee.value (Go.Operand.tmp 1),args:=#[(Go.Operand.tmp 7)],argTypes:=#[3] }),type:=4,pos:= "",after:=#[],guard:=none }]
    false).seq
  ((Go.Code.cond (Go.Operand.tmp 10) (Go.Code.region 3
    #[{ dst:=some 11,op:=Go.Op.buildSlice 22 1 #[(0,(Go.Operand.tmp 7))],type:=22,pos:= "",after:=#[],guard:=none },
     { dst:=some 12,op:=(Go.Op.call { callee:=Go.Callee.builtin Go.Builtin.append,args:=#[(Go.Operand.tmp 8),(Go.Operand.tmp 11)],argTypes:=#[22,22] }),type:=22,pos:= "",after:=#[{ on:=0,ground:=Go.Ground.data }],guard:=none },
     { dst:=some 8,op:=Go.Op.assign (Go.Operand.tmp 12),type:=22,pos:= "",after:=#[{ on:=1,ground:=Go.Ground.data }],guard:=none }]
    false) Go.Code.skip).seq
  (Go.Code.region 4
    #[{ dst:=some 13,op:=Go.Op.binOp Go.BinOp.add 3 (Go.Operand.tmp 7) (Go.Operand.const (Go.Value.int Go.IntKind.i64 1)) 3,type:=3,pos:= "",after:=#[],guard:=none },
     { dst:=some 7,op:=Go.Op.move (Go.Operand.tmp 13),type:=3,pos:= "",after:=#[{ on:=0,ground:=Go.Ground.data }],guard:=none }]
    false))))))).seq
  Go.Code.ret)),
 norace:=false,tmpNames:=#[] }
def Qy.f188:Go.Func:=
{name:= "s",origin:= "",params:=#[27,22,22],resultTypes:=#[22,30],nfree:=0,ntmps:=13,
 results:=#[Go.ResultVar.tmp 11,Go.ResultVar.tmp 10],
 body:=
  some
   ((Go.Code.region 0
    #[{ dst:=some 3,op:=Go.Op.buildSlice 22 7 #[],type:=22,pos:= "",after:=#[],guard:=none },
     { dst:=some 4,op:=(Go.Op.call { callee:=Go.Callee.builtin Go.Builtin.append,args:=#[(Go.Operand.const (Go.Value.slice none 0 0)),(Go.Operand.tmp 3)],argTypes:=#[22,22] }),type:=22,pos:= "",after:=#[{ on:=0,ground:=Go.Ground.data }],guard:=none },
     { dst:=some 5,op:=(Go.Op.call { callee:=Go.Callee.builtin Go.Builtin.cap,args:=#[(Go.Operand.tmp 4)],argTypes:=#[22] }),type:=3,pos:= "",after:=#[{ on:=1,ground:=Go.Ground.data }],guard:=none },
     { dst:=some 6,op:=Go.Op.binOp Go.BinOp.lss 3 (Go.Operand.const (Go.Value.int Go.IntKind.i64 7)) (Go.Operand.tmp 5) 3,type:=4,pos:= "",after:=#[{ on:=2,ground:=Go.Ground.data }],guard:=none }]
    false).seq
  ((Go.Code.cond (Go.Operand.tmp 6) (Go.Code.region 1
    #[{ dst:=some 7,op:=Go.Op.makeFunc (Go.Fn.func 26) #[(Go.Operand.tmp 0),(Go.Operand.tmp 1),(Go.Operand.tmp 2)] #[],type:=0,pos:= "",after:=#[],guard:=none },
     { dst:=some 12,op:=Go.Op.makeInterface 90 (Go.Operand.tmp 7),type:=0,pos:= "",after:=#[{ on:=0,ground:=Go.Ground.data }],guard:=none },
     { dst:=none,op:=Go.Op.panic (Go.Operand.tmp 12),type:=0,pos:= "",after:=#[{ on:=1,ground:=Go.Ground.data }],guard:=none }]
    false) Go.Code.skip).seq
  ((Go.Code.region 2
    #[{ dst:=some 8,op:=(Go.Op.call { callee:=Go.Callee.value (Go.Operand.func 185),args:=#[(Go.Operand.tmp 0),(Go.Operand.tmp 1),(Go.Operand.tmp 2)],argTypes:=#[27,22,22] }),type:=0,pos:= "",after:=#[],guard:=none },
     { dst:=some 9,op:=Go.Op.extract (Go.Operand.tmp 8) 0,type:=22,pos:= "",after:=#[{ on:=0,ground:=Go.Ground.data }],guard:=none },
     { dst:=some 10,op:=Go.Op.extract (Go.Operand.tmp 8) 1,type:=30,pos:= "",after:=#[{ on:=0,ground:=Go.Ground.data }],guard:=none },
     { dst:=some 11,op:=(Go.Op.call { callee:=Go.Callee.builtin Go.Builtin.append,args:=#[(Go.Operand.const (Go.Value.slice none 0 0)),(Go.Operand.tmp 9)],argTypes:=#[22,22] }),type:=22,pos:= "",after:=#[{ on:=1,ground:=Go.Ground.data }],guard:=none }]
    false).seq
  Go.Code.ret))),
 norace:=false,tmpNames:=#[] }
def Qy.f189:Go.Func:=
{name:= "s",origin:= "",params:=#[27,22,22],resultTypes:=#[22,30],nfree:=0,ntmps:=13,
 results:=#[Go.ResultVar.tmp 11,Go.ResultVar.tmp 10],
 body:=
  some
   ((Go.Code.region 0
    #[{ dst:=some 3,op:=Go.Op.buildSlice 22 7 #[],type:=22,pos:= "",after:=#[],guard:=none },
     { dst:=some 4,op:=(Go.Op.call { callee:=Go.Callee.builtin Go.Builtin.append,args:=#[(Go.Operand.const (Go.Value.slice none 0 0)),(Go.Operand.tmp 3)],argTypes:=#[22,22] }),type:=22,pos:= "",after:=#[{ on:=0,ground:=Go.Ground.data }],guard:=none },
     { dst:=some 5,op:=(Go.Op.call { callee:=Go.Callee.builtin Go.Builtin.cap,args:=#[(Go.Operand.tmp 4)],argTypes:=#[22] }),type:=3,pos:= "",after:=#[{ on:=1,ground:=Go.Ground.data }],guard:=none },
     { dst:=some 6,op:=Go.Op.binOp Go.BinOp.lss 3 (Go.Operand.const (Go.Value.int Go.IntKind.i64 7)) (Go.Operand.tmp 5) 3,type:=4,pos:= "",after:=#[{ on:=2,ground:=Go.Ground.data }],guard:=none }]
    false).seq
  ((Go.Code.cond (Go.Operand.tmp 6) (Go.Code.region 1
    #[{ dst:=some 7,op:=Go.Op.makeFunc (Go.Fn.func 15) #[(Go.Operand.tmp 0),(Go.Operand.tmp 1),(Go.Operand.tmp 2)] #[],type:=0,pos:= "",after:=#[],guard:=none },
     { dst:=some 12,op:=Go.Op.makeInterface 90 (Go.Operand.tmp 7),type:=0,pos:= "",after:=#[{ on:=0,ground:=Go.Ground.data }],guard:=none },
     { dst:=none,op:=Go.Op.panic (Go.Operand.tmp 12),type:=0,pos:= "",after:=#[{ on:=1,ground:=Go.Ground.data }],guard:=none }]
    false) Go.Code.skip).seq
  ((Go.Code.region 2
    #[{ dst:=some 8,op:=(Go.Op.call { callee:=Go.Callee.value (Go.Operand.func 186),args:=#[(Go.Operand.tmp 0),(Go.Operand.tmp 1),(Go.Operand.tmp 2)],argTypes:=#[27,22,22] }),type:=0,pos:= "",after:=#[],guard:=none },
     { dst:=some 9,op:=Go.Op.extract (Go.Operand.tmp 8) 0,type:=22,pos:= "",after:=#[{ on:=0,ground:=Go.Ground.data }],guard:=none },
     { dst:=some 10,op:=Go.Op.extract (Go.Operand.tmp 8) 1,type:=30,pos:= "",after:=#[{ on:=0,ground:=Go.Ground.data }],guard:=none },
     { dst:=some 11,op:=(Go.Op.call { callee:=Go.Callee.builtin Go.Builtin.append,args:=#[(Go.Operand.const (Go.Value.slice none 0 0)),(Go.Operand.tmp 9)],argTypes:=#[22,22] }),type:=22,pos:= "",after:=#[{ on:=1,ground:=Go.Ground.data }],guard:=none }]
    false).seq
  Go.Code.ret))),
 norace:=false,tmpNames:=#[] }
def Qy.fx:Go.Func:={ name:= "x",origin:= "",params:=#[],resultTypes:=#[],nfree:=0,ntmps:=0,results:=#[],body:=none,norace:=false,tmpNames:=#[] }
def Qy.by(μ:Nat)(a b c:Go.Func):Go.Func:=match μ with
 | 0=>a
 | 1=>b
 | _=>c
def Qy.own:List Nat:=[12,13,14,16,17,18,19,20,21,22,23,24,25,27,28,29,30,31,32,33,34,35,36,37,38,39,40,41,42,43,44,45,46,47,48,49,50,51,52,53,54,55,56,58,59,60,61,62,63,64,65,67,68,69,70,71,72,73,74,75,76,77,78,79,80,81,82,83,84,85,86,87,88,89,90,91,92,93,94,95,96,97,98,99,100,101,102,103,104,105,106,107,108,109,110,111,118,119,120,121,122,123,124,125,126,127,148,149,159,167]
noncomputable def Qy.spec(μ k:Nat):Go.Func:=
 if k==66 then Qy.by μ Qy.f187 Qy.fx Tryz.f66
 else if k==26 then Qy.by μ Qy.f188 Tryz.f26 Qy.fx
 else if k==15 then Qy.by μ Qy.f189 Tryz.f15 Qy.fx
 else if ([3,4,5,6,7,8,9,10,11]:List Nat).elem k then Qy.by μ ((Tryz.prog.funcs[k]?).getD Qy.fx) Qy.fx Qy.fx
 else if k==185 then Tryz.f26
 else if k==186 then Tryz.f15
 else Qy.fx
noncomputable def Qy.ent(μ k:Nat):Go.Func:=if Qy.own.elem k then(Tryz.prog.funcs[k]?).getD Qy.fx else Qy.spec μ k
noncomputable def Qy.F(μ:Nat):Array Go.Func:=((List.range 187).map (Qy.ent μ)).toArray
noncomputable def Qy.prog(μ:Nat):Program:=Lift.PF Tryz.prog (Qy.F μ)
theorem Qy.own_lt:Qy.own.all (λk=>decide (k<185))=true:=by kernel_rfl
theorem Qy.F_get(μ k:Nat)(h:k<187):(Qy.F μ)[k]?=some (Qy.ent μ k):=by
 unfold Qy.F;simp[h]
theorem Qy.same(μ k:Nat)(h:k∈Qy.own):(Qy.F μ)[k]?=Tryz.prog.funcs[k]?:=by
 have h1:=of_decide_eq_true (Yl.1 Qy.own_lt k h);rw[Qy.F_get μ k (by omega)];have h2:k<Tryz.prog.funcs.size:=Nat.lt_of_lt_of_eq h1 (by kernel_rfl);unfold Qy.ent;rw[if_pos (List.elem_eq_true_of_mem h),Y2 h2]
 rfl
theorem Z0W {P:Program} {f:FuncId} {fn:Func} {c:Code} (h:P.funcs[f]?=some fn) (hb:fn.body=some c) (hn:(fn.name == "runtime.NumGoroutine")=false) (args:Array Value) (w:World): (callFunc f args).run P w = .ok (.enter f args) w:=by
 have e3:∀(Z:Program->Sem Next),(program >>= Z).run P w=(Z P).run P w:=λZ=>rfl;unfold callFunc;rw[e3];simp only[h,hb,hn]
 rfl
theorem zvF{P:Program}{F:Array Func}(t:TypeId)(w:World){v:Value}(h:(zeroValue t).run P w = .ok v w): (zeroValue t).run (Lift.PF P F) w = .ok v w:=by
 have e3:∀(Q:Program) (Z:Program->Sem Value),(program >>= Z).run Q w=(Z Q).run Q w:=λQ Z=>rfl;unfold zeroValue typeInfo at h⊢;simp only[bind_assoc]at h⊢;rw[e3]at h⊢;rw[Lift.info_pf]
 cases e:P.info? t with
 | none=>rw[e]at h;cases h
 | some i =>
  rw[e]at h;simp only[pure_bind]at h⊢
  cases ez:i.zero with
  | none=>rw[ez]at h;cases h
  | some z=>rw[ez]at h;exact h
theorem unP{μ t:Nat}{d:TypeDesc}(h:Tryz.prog.underlying t=some d):(Qy.prog μ).underlying t=some d:=(Lift.under_pf (P:=Tryz.prog) (F:=Qy.F μ) t).trans h
theorem zvP{μ t:Nat}{v:Value}(h:∀w:World,(zeroValue t).run Tryz.prog w = .ok v w):∀w:World,(zeroValue t).run (Qy.prog μ) w = .ok v w:=λw=>zvF (F:=Qy.F μ) t w (h w)
abbrev Qy.Cl(μ k:Nat):Prop:=∀(args:Array Value) (w:World),(callFunc k args).run (Qy.prog μ) w = .ok (.enter k args) w
section
variable{μ:Nat}
theorem Qy.func56:(Qy.prog μ).funcs[56]?=some Tryz.f56:=by kernel_rfl
theorem Qy.func63:(Qy.prog μ).funcs[63]?=some Tryz.f63:=by kernel_rfl
theorem Qy.call63:Qy.Cl μ 63:=Z0W Qy.func63 rfl (by kernel_rfl)
theorem Qy.func64:(Qy.prog μ).funcs[64]?=some Tryz.f64:=by kernel_rfl
theorem Qy.call64:Qy.Cl μ 64:=Z0W Qy.func64 rfl (by kernel_rfl)
theorem Qy.func65:(Qy.prog μ).funcs[65]?=some Tryz.f65:=by kernel_rfl
theorem Qy.call65:Qy.Cl μ 65:=Z0W Qy.func65 rfl (by kernel_rfl)
theorem Qy.func67:(Qy.prog μ).funcs[67]?=some Tryz.f67:=by kernel_rfl
theorem Qy.call67:Qy.Cl μ 67:=Z0W Qy.func67 rfl (by kernel_rfl)
theorem Qy.func68:(Qy.prog μ).funcs[68]?=some Tryz.f68:=by kernel_rfl
theorem Qy.call68:Qy.Cl μ 68:=Z0W Qy.func68 rfl (by kernel_rfl)
theorem Qy.func71:(Qy.prog μ).funcs[71]?=some Tryz.f71:=by kernel_rfl
theorem Qy.call71:Qy.Cl μ 71:=Z0W Qy.func71 rfl (by kernel_rfl)
theorem Qy.func73:(Qy.prog μ).funcs[73]?=some Tryz.f73:=by kernel_rfl
theorem Qy.call73:Qy.Cl μ 73:=Z0W Qy.func73 rfl (by kernel_rfl)
theorem Qy.func78:(Qy.prog μ).funcs[78]?=some Tryz.f78:=by kernel_rfl
theorem Qy.call78:Qy.Cl μ 78:=Z0W Qy.func78 rfl (by kernel_rfl)
theorem Qy.func79:(Qy.prog μ).funcs[79]?=some Tryz.f79:=by kernel_rfl
theorem Qy.call79:Qy.Cl μ 79:=Z0W Qy.func79 rfl (by kernel_rfl)
theorem Qy.func80:(Qy.prog μ).funcs[80]?=some Tryz.f80:=by kernel_rfl
theorem Qy.call80:Qy.Cl μ 80:=Z0W Qy.func80 rfl (by kernel_rfl)
theorem Qy.func83:(Qy.prog μ).funcs[83]?=some Tryz.f83:=by kernel_rfl
theorem Qy.call83:Qy.Cl μ 83:=Z0W Qy.func83 rfl (by kernel_rfl)
theorem Qy.func92:(Qy.prog μ).funcs[92]?=some Tryz.f92:=by kernel_rfl
theorem Qy.call92:Qy.Cl μ 92:=Z0W Qy.func92 rfl (by kernel_rfl)
theorem Qy.func93:(Qy.prog μ).funcs[93]?=some Tryz.f93:=by kernel_rfl
theorem Qy.call93:Qy.Cl μ 93:=Z0W Qy.func93 rfl (by kernel_rfl)
theorem Qy.func100:(Qy.prog μ).funcs[100]?=some Tryz.f100:=by kernel_rfl
theorem Qy.call100:Qy.Cl μ 100:=Z0W Qy.func100 rfl (by kernel_rfl)
theorem Qy.func102:(Qy.prog μ).funcs[102]?=some Tryz.f102:=by kernel_rfl
theorem Qy.call102:Qy.Cl μ 102:=Z0W Qy.func102 rfl (by kernel_rfl)
theorem Qy.func107:(Qy.prog μ).funcs[107]?=some Tryz.f107:=by kernel_rfl
theorem Qy.func108:(Qy.prog μ).funcs[108]?=some Tryz.f108:=by kernel_rfl
theorem Qy.call108:Qy.Cl μ 108:=Z0W Qy.func108 rfl (by kernel_rfl)
theorem Qy.func109:(Qy.prog μ).funcs[109]?=some Tryz.f109:=by kernel_rfl
theorem Qy.call109:Qy.Cl μ 109:=Z0W Qy.func109 rfl (by kernel_rfl)
theorem Qy.func110:(Qy.prog μ).funcs[110]?=some Tryz.f110:=by kernel_rfl
theorem Qy.call110:Qy.Cl μ 110:=Z0W Qy.func110 rfl (by kernel_rfl)
theorem Qy.func111:(Qy.prog μ).funcs[111]?=some Tryz.f111:=by kernel_rfl
theorem Qy.call111:Qy.Cl μ 111:=Z0W Qy.func111 rfl (by kernel_rfl)
theorem Qy.func125:(Qy.prog μ).funcs[125]?=some Tryz.f125:=by kernel_rfl
theorem Qy.call125:Qy.Cl μ 125:=Z0W Qy.func125 rfl (by kernel_rfl)
theorem Qy.func126:(Qy.prog μ).funcs[126]?=some Tryz.f126:=by kernel_rfl
theorem Qy.call126:Qy.Cl μ 126:=Z0W Qy.func126 rfl (by kernel_rfl)
theorem Qy.func127:(Qy.prog μ).funcs[127]?=some Tryz.f127:=by kernel_rfl
theorem Qy.call127:Qy.Cl μ 127:=Z0W Qy.func127 rfl (by kernel_rfl)
theorem Qy.func185:(Qy.prog μ).funcs[185]?=some Tryz.f26:=by kernel_rfl
theorem Qy.call185:Qy.Cl μ 185:=Z0W Qy.func185 rfl (by kernel_rfl)
theorem Qy.func186:(Qy.prog μ).funcs[186]?=some Tryz.f15:=by kernel_rfl
theorem Qy.call186:Qy.Cl μ 186:=Z0W Qy.func186 rfl (by kernel_rfl)
theorem Qy.func66:(Qy.prog 0).funcs[66]?=some Qy.f187:=by kernel_rfl
theorem Qy.own66:(Qy.prog 2).funcs[66]?=some Tryz.f66:=by kernel_rfl
theorem Qy.own26:(Qy.prog 1).funcs[26]?=some Tryz.f26:=by kernel_rfl
theorem Qy.own15:(Qy.prog 1).funcs[15]?=some Tryz.f15:=by kernel_rfl
theorem Qy.func26:(Qy.prog 0).funcs[26]?=some Qy.f188:=by kernel_rfl
theorem Qy.func15:(Qy.prog 0).funcs[15]?=some Qy.f189:=by kernel_rfl
theorem Qy.func8:(Qy.prog 0).funcs[8]?=some Tryz.f8:=by kernel_rfl
theorem Qy.underlying3:type_of% (@unP μ 3 _ Tryz.underlying3):=unP Tryz.underlying3
theorem Qy.zeroValue3:type_of% (@zvP μ 3 _ Tryz.zeroValue3):=zvP Tryz.zeroValue3
theorem Qy.underlying4:type_of% (@unP μ 4 _ Tryz.underlying4):=unP Tryz.underlying4
theorem Qy.underlying5:type_of% (@unP μ 5 _ Tryz.underlying5):=unP Tryz.underlying5
theorem Qy.underlying9:type_of% (@unP μ 9 _ Tryz.underlying9):=unP Tryz.underlying9
theorem Qy.underlying22:type_of% (@unP μ 22 _ Tryz.underlying22):=unP Tryz.underlying22
theorem Qy.zeroValue22:type_of% (@zvP μ 22 _ Tryz.zeroValue22):=zvP Tryz.zeroValue22
theorem Qy.underlying25:type_of% (@unP μ 25 _ Tryz.underlying25):=unP Tryz.underlying25
theorem Qy.underlying27:type_of% (@unP μ 27 _ Tryz.underlying27):=unP Tryz.underlying27
theorem Qy.zeroValue27:type_of% (@zvP μ 27 _ Tryz.zeroValue27):=zvP Tryz.zeroValue27
theorem Qy.underlying30:type_of% (@unP μ 30 _ Tryz.underlying30):=unP Tryz.underlying30
theorem Qy.zeroValue30:type_of% (@zvP μ 30 _ Tryz.zeroValue30):=zvP Tryz.zeroValue30
theorem Qy.underlying75:type_of% (@unP μ 75 _ Tryz.underlying75):=unP Tryz.underlying75
theorem Qy.underlying85:type_of% (@unP μ 85 _ Tryz.underlying85):=unP Tryz.underlying85
theorem Qy.zeroValue85:type_of% (@zvP μ 85 _ Tryz.zeroValue85):=zvP Tryz.zeroValue85
theorem Qy.underlying88:type_of% (@unP μ 88 _ Tryz.underlying88):=unP Tryz.underlying88
theorem Qy.zeroValue88:type_of% (@zvP μ 88 _ Tryz.zeroValue88):=zvP Tryz.zeroValue88
theorem Qy.underlying93:type_of% (@unP μ 93 _ Tryz.underlying93):=unP Tryz.underlying93
theorem Qy.zeroValue93:type_of% (@zvP μ 93 _ Tryz.zeroValue93):=zvP Tryz.zeroValue93
theorem Qy.zeroValue97:type_of% (@zvP μ 97 _ Tryz.zeroValue97):=zvP Tryz.zeroValue97
theorem Qy.underlying113:type_of% (@unP μ 113 _ Tryz.underlying113):=unP Tryz.underlying113
theorem Qy.underlying116:type_of% (@unP μ 116 _ Tryz.underlying116):=unP Tryz.underlying116
theorem Qy.zeroValue116:type_of% (@zvP μ 116 _ Tryz.zeroValue116):=zvP Tryz.zeroValue116
theorem Qy.underlying123:type_of% (@unP μ 123 _ Tryz.underlying123):=unP Tryz.underlying123
theorem Qy.zeroValue125:type_of% (@zvP μ 125 _ Tryz.zeroValue125):=zvP Tryz.zeroValue125
theorem Qy.underlying129:type_of% (@unP μ 129 _ Tryz.underlying129):=unP Tryz.underlying129
theorem Qy.zeroValue129:type_of% (@zvP μ 129 _ Tryz.zeroValue129):=zvP Tryz.zeroValue129
theorem Qy.underlying135:type_of% (@unP μ 135 _ Tryz.underlying135):=unP Tryz.underlying135
theorem Qy.zeroValue135:type_of% (@zvP μ 135 _ Tryz.zeroValue135):=zvP Tryz.zeroValue135
theorem Qy.zeroValue146:type_of% (@zvP μ 146 _ Tryz.zeroValue146):=zvP Tryz.zeroValue146
theorem Qy.zeroValue150:type_of% (@zvP μ 150 _ Tryz.zeroValue150):=zvP Tryz.zeroValue150
theorem Qy.underlying151:type_of% (@unP μ 151 _ Tryz.underlying151):=unP Tryz.underlying151
theorem Qy.zeroValue151:type_of% (@zvP μ 151 _ Tryz.zeroValue151):=zvP Tryz.zeroValue151
theorem Qy.underlying157:type_of% (@unP μ 157 _ Tryz.underlying157):=unP Tryz.underlying157
theorem Qy.zeroValue157:type_of% (@zvP μ 157 _ Tryz.zeroValue157):=zvP Tryz.zeroValue157
theorem Qy.underlying160:type_of% (@unP μ 160 _ Tryz.underlying160):=unP Tryz.underlying160
theorem Qy.underlying161:type_of% (@unP μ 161 _ Tryz.underlying161):=unP Tryz.underlying161
theorem Qy.zeroValue161:type_of% (@zvP μ 161 _ Tryz.zeroValue161):=zvP Tryz.zeroValue161
theorem Qy.laid:laidOutB (Qy.prog μ)=true:=by
 match μ with
 | 0=>show laidOutB (Qy.prog 0)=true;kernel_rfl
 | 1=>show laidOutB (Qy.prog 1)=true;kernel_rfl
 | n+2=>show laidOutB (Qy.prog (n+2))=true;kernel_rfl
end
end
namespace Lift
open Go
variable[Jk]
section
variable{P:Program}{F:Array Func}{C:Inv}{r:Ren}{α β γ δ:Type}{A:Ren->α->β->Prop}{B:Ren->γ->δ->Prop}
theorem ZL{p:Prop}[Decidable p]{x x':Sem α}{y y':Sem β}(h:p->SR (PF P F) P C A r x y)(k:¬p->SR (PF P F) P C A r x' y'): SR (PF P F) P C A r (if p then x else x') (if p then y else y'):=by
 by_cases q:p
 ·rw[if_pos q,if_pos q];exact h q
 ·rw[if_neg q,if_neg q];exact k q
theorem VR.arr1{v:Value}(h:Z5U v): VRs r v.cells v.cells:=(h r).cells
theorem vr_get!{xs ys:Array Value}(h:VRs r xs ys)(i:Nat): VR r xs[i]! ys[i]!:=by
 rcases h.get i with⟨a,b⟩ | ⟨x,y,a,b,k⟩
 ·rw[getElem!_def,getElem!_def,a,b];exact .bool _
 ·rw[getElem!_def,getElem!_def,a,b];exact k
theorem Z5M(h:VRs r z z)(n:Nat): VRs r ((Array.range n).map (z[· % z.size]!)) ((Array.range n).map (z[· % z.size]!)):=by
 refine Arr.map (R:=λa b=>a=b) ⟨rfl,λi x y a b=>?_⟩ λx y e=>?_
 ·rw[a]at b;exact Y1 b
 ·subst e;exact vr_get! h _
theorem Z7N(h:VRs r z z)(n:Nat): VRs r (Builtin.zeroCells z n) (Builtin.zeroCells z n):=by
 unfold Builtin.zeroCells;refine Arr.map (R:=λa b=>a=b) ⟨rfl,λi x y a b=>?_⟩ λx y e=>?_
 ·rw[a]at b;exact Y1 b
 ·subst e;exact vr_get! h _
theorem ZfD{t:TypeId}(hz:ZOk P t): SR (PF P F) P C VA r (Instr.alloc t true (.tuple #[])) (Instr.alloc t true (.tuple #[])):=by
 unfold Instr.alloc;refine Z3n hz λv hv=>?_;exact Z6 (Z5C (hv r)) λ_ _ a b h=>.pure (.ptr h)
theorem ZkE{t:TypeId}{x y:Value}(h:VR r x y): SR (PF P F) P C VA r (Instr.box t x) (Instr.box t y):=
 Z6 (Z5C h) λ_ _ a b h=>.pure (.ptr h)
def PaR(r:Ren)(p q:Nat×Value):Prop:=p.1=q.1/\VR r p.2 q.2
theorem Zj2{xs ys:Array Value}(off:Nat): ∀(zs ws:List (Value×Nat)) (us vs:Array Value),Lis (λp q=>VR r p.1 q.1/\p.2=q.2) zs ws->VRs r us vs ->
  VRs r (zs.foldl (λcs (c,j)=>cs.setIfInBounds (off+j) c) us) (ws.foldl (λcs (c,j)=>cs.setIfInBounds (off+j) c) vs):=by
 intro zs ws us vs h
 induction h generalizing us vs with
 | nil=>exact λk=>k
 | @cons x y xs ys hx _ ih =>
  intro k;obtain⟨x1,x2⟩:=x;obtain⟨y1,y2⟩:=y;obtain⟨h1,rfl⟩:=hx;exact ih _ _ (k.set _ h1)
theorem ZhS{xs ys:List Value}(h:Lis (VR r) xs ys)(n:Nat): Lis (λp q=>VR r p.1 q.1/\p.2=q.2) (xs.zipIdx n) (ys.zipIdx n):=by
 induction h generalizing n with
 | nil=>exact .nil
 | cons a _ ih=>exact .cons ⟨a,rfl⟩ (ih _)
theorem Zg7{x y:Value}(h:VR r x y)(off:Nat){us vs:Array Value}(k:VRs r us vs):
  VRs r (x.cells.zipIdx.foldl (λcs (c,j)=>cs.setIfInBounds (off+j) c) us) (y.cells.zipIdx.foldl (λcs (c,j)=>cs.setIfInBounds (off+j) c) vs):=by
 rw[<-Array.foldl_toList,<-Array.foldl_toList];refine Zj2 (xs:=us) (ys:=vs) off _ _ _ _ ?_ k;have:=ZhS h.cells.lis 0;simpa using this
theorem Z79{place:Nat->Option (Nat×Nat)}{ps qs:List (Nat×Value)}(h:Lis (PaR r) ps qs): ∀{us vs:Array Value},VRs r us vs ->
  (Instr.fill place us ps=none/\Instr.fill place vs qs=none)\/∃a b,Instr.fill place us ps=some a/\Instr.fill place vs qs=some b/\VRs r a b:=by
 induction h with
 | nil=>exact λk=>.inr ⟨_,_,rfl,rfl,k⟩
 | @cons x y xs ys hx _ ih =>
  intro us vs k;obtain⟨i,x⟩:=x;obtain⟨j,y⟩:=y;obtain⟨e,hx⟩:=hx;obtain rfl:i=j:=e;have hx:VR r x y:=hx;unfold Instr.fill
  cases place i with
  | none=>exact .inl ⟨rfl,rfl⟩
  | some p =>
   simp only[hx.cells.1,k.1]
   split
   ·exact .inl ⟨rfl,rfl⟩
   ·exact ih (Zg7 hx _ k)
theorem ZbG (fs:List Field) {f g} (h:∀xs:List (Nat×Nat),SR (PF P F) P C B r (f xs) (g xs)) :
    SR (PF P F) P C B r ((fs.mapM λx => (do pure (x.offset, <- sizeOf x.type) : Sem (Nat × Nat))) >>= f) ((fs.mapM λx => (do pure (x.offset, <- sizeOf x.type) : Sem (Nat × Nat))) >>= g) := by
  induction fs generalizing f g with
  | nil=>simp only[List.mapM_nil,pure_bind];exact h _
  | cons x fs ih =>
    simp only[List.mapM_cons, bind_assoc, pure_bind];refine ZV λn => ?_;exact ih λxs => h _
theorem ZfF{t:TypeId}(hz:ZOk P t){ps qs:Array (Nat×Value)}(h:Arr (PaR r) ps qs): SR (PF P F) P C VA r (Instr.build t ps) (Instr.build t qs):=by
 unfold Instr.build;refine Z3n hz λv hv=>?_;refine Zi λd _=>?_
 cases d<;>try exact Z5
 ·rename_i len elem _
  refine ZV λn=>?_
  rcases Z79 (place:=λi=>some (i*n,n)) h.lis (VR.arr1 (r:=r) hv) with⟨a,b⟩ | ⟨x,y,a,b,k⟩
  ·simp only[a];exact Z5
  ·simp only[a,b];exact .pure (.aggA k)
 ·rename_i fields _
  simp only[Array.mapM_eq_mapM_toList,map_eq_pure_bind,bind_assoc,pure_bind];refine ZbG fields.toList λxs=>?_
  rcases Z79 (place:=λi=>xs.toArray[i]?) h.lis (VR.arr1 (r:=r) hv) with⟨a,b⟩ | ⟨x,y,a,b,k⟩
  ·simp only[a];exact Z5
  ·simp only[a,b];exact .pure (.aggA k)
theorem Z7y {t:TypeId} (hz:∀e,P.underlying t=some (.slice e)->ZOk P e) {n:Nat} {ps qs:Array (Nat×Value)} (h:Arr (PaR r) ps qs):SR (PF P F) P C VA r (Instr.buildSlice t n ps) (Instr.buildSlice t n qs):=by
  unfold Instr.buildSlice;refine Zi λd hd => ?_
  cases d<;>try exact Z5
  rename_i elem;refine ZV λm => ?_;have key : ∀z : Array Value, VRs r z z->SR (PF P F) P C VA r
      (match Instr.fill (λi=>some (i*m,m)) ((Array.range (n*m)).map (z[· % z.size]!)) ps.toList with
        | some cells => do pure (.slice (some (<- newRow elem cells)) n n)
        | _=>stuck "buildSlice: a part of the wrong size")
      (match Instr.fill (λi=>some (i*m,m)) ((Array.range (n*m)).map (z[· % z.size]!)) qs.toList with
        | some cells => do pure (.slice (some (<- newRow elem cells)) n n)
        | _=>stuck "buildSlice: a part of the wrong size"):=by
    intro z hz
    rcases Z79 (place:=λi=>some (i*m,m)) h.lis (Z5M hz (n*m)) with⟨a,b⟩ | ⟨x,y,a,b,k⟩
    · simp only[a];exact Z5
    · simp only[a,b]
      exact Z6 (Z2K k) λ_ _ a b h=>.pure (.sl _ _ h)
  simp only[bind_assoc, pure_bind];refine ZL (λ_ => .dead ((Zu (by simp)).bind _)) λ_ => ?_;refine ZL (λ_ => key _ .nil) λ_ => ?_;exact Z3n (hz _ hd) λv hv => key _ (VR.arr1 hv)
theorem Ze0{t:TypeId}{x y:Value}(h:VR r x y): SR (PF P F) P C VA r (Instr.loadAt t x) (Instr.loadAt t y):=
 Z6 (Z1p h) λ_ _ a b k=>Z6r k
theorem ZbI{t:TypeId}{x y u v:Value}(h:VR r x y)(hv:VR r u v): SR (PF P F) P C EQ r (Instr.storeAt t x u) (Instr.storeAt t y v):=
 Z6 (Z1p h) λ_ hr a b k=>Z9B k (hv.mono hr)
theorem Z8A{b c:Nat}(h:r b=some c){f:Option (Addr×TypeId)->Sem γ}{g:Option (Addr×TypeId)->Sem δ}(k:∀r',r.le r'->SR (PF P F) P C B r' (f none) (g none)): SR (PF P F) P C B r (viewAt b >>= f) (viewAt c >>= g):=by
 unfold viewAt;simp only[bind_assoc];refine SR.shape h λs=>?_
 cases s with
 | some s=>exact k r (Ren.le_refl _)
 | none =>
  refine SR.getObj h λr' hr o o' ho=>?_
  cases ho<;>exact k r' hr
theorem Ze2{a b:Addr}(h:AR r a b){f:Unit->Sem γ}{g:Unit->Sem δ}(k:∀r',r.le r'->SR (PF P F) P C B r' (f ()) (g ())): SR (PF P F) P C B r (noView a >>= f) (noView b >>= g):=by
 cases h with
 | mk h =>
 unfold noView;simp only[bind_assoc];exact Z8A h λr' hr=>k r' hr
theorem Z3t(d:Nat)(t:TypeId)(o:Nat):byteOfCell (PF P F) d t o=byteOfCell P d t o:=by
 induction d generalizing t o with
 | zero=>rfl
 | succ d ih=>
  simp only[byteOfCell,under_pf,Z1O,Z2Q,ih]
theorem Z5w{a b:Addr}(h:AR r a b): SR (PF P F) P C EQ r (byteOf a) (byteOf b):=by
 have h0:=h
 cases h with
 | @mk b c o s h =>
 unfold byteOf
 cases s with
 | some s=>exact .pure rfl
 | none =>
  simp only[pure_bind,bind_assoc];refine Z1n ?_;refine Ze2 h0 λr' hr=>?_;refine SR.shape (hr.1 _ _ h) λs=>?_
  cases s with
  | none=>exact Z5
  | some s =>
   simp only[Z3t,Z1O,Z2Q,Z4I];refine ZL ?_ ?_
   ·exact λ_=>.pure rfl
   ·intro _
    cases byteOfCell P P.depth s.1 (o % P.cellsOf s.1) with
    | none=>exact Z5
    | some x=>exact .pure rfl
theorem Ze3{a b:Addr}(h:AR r a b)(n m:Nat): SR (PF P F) P C AR r (partAt a n m) (partAt b n m):=by
 unfold partAt;refine Z6 (Z5w h) ?_;rintro r' hr x _ rfl;have hp:AR r' {block:=a.block,off:=a.off+n} {block:=b.block,off:=b.off+n}:=by
  cases h with
  | mk h=>exact .mk (hr.1 _ _ h)
 refine Z6 (Z5w hp) ?_;rintro r2 hr2 y _ rfl;refine .pure ?_
 cases h with
 | mk h =>
  split
  ·exact .mk (hr2.1 _ _ (hr.1 _ _ h))
  ·exact .mk (hr2.1 _ _ (hr.1 _ _ h))
theorem Z7A{a b:Addr}(h:AR r a b)(f:Field): SR (PF P F) P C AR r (fieldPlace a f) (fieldPlace b f):=by
 unfold fieldPlace;refine ZV λn=>ZL (λ_=>Ze3 h _ _) λ_=>.pure (h.add _)
theorem ZbC{t:TypeId}{x y:Value}(h:VR r x y)(i:Nat): SR (PF P F) P C VA r (Instr.fieldAt t x i) (Instr.fieldAt t y i):=by
 unfold Instr.fieldAt;refine Zi λd _=>?_
 cases d<;>try exact Z5
 rename_i fs _;dsimp only
 cases fs[i]? with
 | none=>exact Z5
 | some f=>exact Z6 (Z1p h) λ_ _ a b k=>Z6 (Z7A k f) λ_ _ a b k=>.pure (.ptr k)
theorem ZbD {t:TypeId} {x y i j:Value} (h:VR r x y) (hi:VR r i j):SR (PF P F) P C VA r (Instr.indexAt t x i) (Instr.indexAt t y j):=by
  unfold Instr.indexAt;refine Z6 (Z2X hi) ?_;rintro r1 hr1 ⟨k, n⟩ _ rfl;simp only[bind_assoc];refine Zi λd hd => ?_;have at_ : ∀{r' : Ren} {a b : Addr} (len : Nat) (elem : TypeId) (tiny : Bool), AR r' a b->SR (PF P F) P C VA r'
      (if 0 <= n /\ n < len then do pure (.pointer (some (a.add (n.toNat * (<- sizeOf elem))))) else if tiny = true then unsupported (.noEntry "op/indexAddr.an index out of range at an array of length 0 or 1 (ledger 616)") else boundsPanic k n len .index)
      (if 0 <= n /\ n < len then do pure (.pointer (some (b.add (n.toNat * (<- sizeOf elem))))) else if tiny = true then unsupported (.noEntry "op/indexAddr.an index out of range at an array of length 0 or 1 (ledger 616)") else boundsPanic k n len .index) :=
    λlen elem tiny q=>ZL (λ_=>ZV λm=>.pure (.ptr (q.add _))) λ_=>ZL (λ_=>Zx (by simp)) λ_=>Z0m
  have under2:∀{r':Ren} {f g:TypeDesc->Sem Value},SR (PF P F) P C VA r' (f d) (g d)->SR (PF P F) P C VA r' (underlying t >>= f) (underlying t >>= g):=λq=>Zi λd' hd'=>by
    obtain rfl : d=d' := Y1 (hd.symm.trans hd');exact q
  cases d<;>try exact .dead (Zk.bind _)
  · cases h with
    | sl0 len cap =>
      simp only[pure_bind];exact under2 Z0m
    | sl len cap q =>
      simp only[pure_bind];refine under2 ?_;exact at_ _ _ _ (q.mono hr1)
    | _=>exact .dead (Zk.bind _)
  · simp only[bind_assoc,pure_bind]
    refine Z6 (Z1p (h.mono hr1)) λr2 hr2 a b q => ?_;refine under2 ?_;exact at_ _ _ _ q
end
end Lift
namespace Lift
open Go
variable[Jk]
section
variable{P:Program}{F:Array Func}{C:Inv}{r:Ren}{α β γ δ:Type}{A:Ren->α->β->Prop}{B:Ren->γ->δ->Prop}
theorem Z4d{x:Sem α}{y:Sem β}{f:α->Sem γ}{g:β->Sem δ}(h:SR (PF P F) P C (λ_ _ _=>False) r x y):SR (PF P F) P C B r (x >>= f) (y >>= g):=Z6 h λ_ _ _ _ q=>q.elim
theorem Z13{x y:Value}(h:VR r x y)(n:Nat)(c:BoundsCode): SR (PF P F) P C EQ r (Instr.sliceBound x n c) (Instr.sliceBound y n c):=by
 refine Z6 (Z2X h) ?_;rintro r1 hr1 ⟨k,n⟩ _ rfl;exact ZL (λ_=>.pure rfl) λ_=>Z0m
inductive OpR{α β:Type}(R:α->β->Prop):Option α->Option β->Prop
 | none:OpR R none none
 | some {x y} (h:R x y):OpR R (some x) (some y)
theorem OpR.mono{s:Ren}(h:r.le s){x y:Option Value}(k:OpR (VR r) x y):OpR (VR s) x y:=by
 cases k with
 | none=>exact .none
 | some q=>exact .some (q.mono h)
theorem ZkH (c:BoundsCode) (x z:Nat) (l l':Option Value):OpR (VR r) l l'->SR (PF P F) P C EQ r
      (match l with | some v => (do let y <- Instr.sliceBound v x c; pure (y, x, z)) | none => pure (0, x, z))
      (match l' with | some v => (do let y <- Instr.sliceBound v x c; pure (y, x, z)) | none => pure (0, x, z)) := by
  intro hl
  cases hl with
  | none=>exact .pure rfl
  | some q =>
    refine Z6 (Z13 q _ _) ?_;rintro _ _ y _ rfl;exact .pure rfl
theorem Z0n{b:Bool}{n c:Nat}{l l' h h' m m':Option Value}(hl:OpR (VR r) l l')(hh:OpR (VR r) h h')(hm:OpR (VR r) m m'):
  SR (PF P F) P C EQ r (Instr.sliceBounds b n c l h m) (Instr.sliceBounds b n c l' h' m'):=by
 have low:=λ{r1:Ren} (c:BoundsCode) (x z:Nat) (hr:r.le r1)=>ZkH (P:=P) (F:=F) (C:=C) c x z l l' (hl.mono hr);unfold Instr.sliceBounds
 cases hm with
 | none =>
  cases hh with
  | none=>simp only[pure_bind];exact low _ _ _ (Ren.le_refl _)
  | some q =>
   simp only[pure_bind];refine Z6 (Z13 q _ _) ?_;rintro r1 hr1 x _ rfl;exact low _ _ _ hr1
 | some qm =>
  refine Z6 (Z13 qm _ _) ?_;rintro r1 hr1 z _ rfl
  cases hh with
  | none=>exact .dead (Zk.bind _)
  | some q =>
   refine Z6 (Z13 (q.mono hr1) _ _) ?_;rintro r2 hr2 x _ rfl;simp only[pure_bind];exact low _ _ _ (Ren.le_trans hr1 hr2)
theorem AR.addIf{a b:Addr}(h:AR r a b)(p:Prop)[Decidable p](n:Nat): AR r (if p then a else a.add n) (if p then b else b.add n):=by
 split
 ·exact h
 ·exact h.add n
theorem ZfR{t:TypeId}{x y:Value}{l l' h h' m m':Option Value}(hx:VR r x y)(hl:OpR (VR r) l l')(hh:OpR (VR r) h h')(hm:OpR (VR r) m m'):
  SR (PF P F) P C VA r (Instr.slice t x l h m) (Instr.slice t y l' h' m'):=by
 unfold Instr.slice;refine Zi λd hd=>?_
 cases d<;>try exact Z5
 ·cases hx<;>try exact Z5
  have e:m.isSome=m'.isSome:=by cases hm<;>rfl
  simp only[e];refine ZL (λ_=>.dead (Zk.bind _)) λ_=>?_;refine Z6 (Z0n hl hh .none) ?_;rintro r1 hr1 ⟨a,b,c⟩ _ rfl;exact .pure (.string _)
 ·refine Z6 (Z8u hx) λr1 hr1 a b q=>?_
  refine Zi λd hd=>?_
  cases d<;>try exact Z5
  refine Z6 (Z0n (hl.mono hr1) (hh.mono hr1) (hm.mono hr1)) ?_;rintro r2 hr2 ⟨l,h,m⟩ _ rfl;exact ZV λn=>.pure (.sl _ _ ((q.mono hr2).addIf _ _))
 ·cases hx<;>try exact Z5
  ·refine Z6 (Z0n hl hh hm) ?_
   rintro r2 hr2 ⟨l,h,m⟩ _ rfl;refine ZV λn=>?_;simp only[Option.map_none,ite_self];exact .pure (.sl0 _ _)
  ·rename_i q
   refine Z6 (Z0n hl hh hm) ?_;rintro r2 hr2 ⟨l,h,m⟩ _ rfl;refine ZV λn=>?_;simp only[Option.map_some]
   by_cases e:m=l
   ·simp only[if_pos e];exact .pure (.sl _ _ (q.mono hr2))
   ·simp only[if_neg e];exact .pure (.sl _ _ ((q.mono hr2).add _))
theorem ZbH{t:TypeId}{x y:Value}{l l' h h' m m':Option Value}(hx:VR r x y)(hl:OpR (VR r) l l')(hh:OpR (VR r) h h')(hm:OpR (VR r) m m'):
  SR (PF P F) P C VA r (Instr.sliceAt t x l h m) (Instr.sliceAt t y l' h' m'):=by
 unfold Instr.sliceAt;refine Zi λd hd=>?_
 cases d<;>try exact ZfR hx hl hh hm
 refine Z6 (Z1p hx) λr1 hr1 a b q=>?_;refine Z6 (Z0n (hl.mono hr1) (hh.mono hr1) (hm.mono hr1)) ?_;rintro r2 hr2 ⟨l,h,m⟩ _ rfl;exact ZV λn=>.pure (.sl _ _ ((q.mono hr2).addIf _ _))
theorem ZfN{t:TypeId}{x y i j:Value}(hx:VR r x y)(hi:VR r i j): SR (PF P F) P C VA r (Instr.index t x i) (Instr.index t y j):=by
 unfold Instr.index;refine Z6 (Z2X hi) ?_;rintro r1 hr1 ⟨k,n⟩ _ rfl;refine Zi λd hd=>?_
 cases d<;>try exact Z5
 ·cases hx<;>try exact Z5
  rename_i s;dsimp only
  cases (if 0<=n then s[n.toNat]? else none) with
  | none=>exact Z0m
  | some b=>exact .pure (.int _ _)
 ·cases hx<;>try exact Z5
  rename_i hs q;exact ZL (λ_=>ZV λm=>Z1m (VRs.mono hr1 ⟨hs,q⟩) _) λ_=>Z0m
theorem ZbB{x y:Value}(h:VR r x y)(i:Nat): SR (PF P F) P C VA r (Instr.extract x i) (Instr.extract y i):=by
 cases h<;>try exact Z5
 rename_i hs q;unfold Instr.extract
 rcases Arr.get ⟨hs,q⟩ i with⟨a,b⟩ | ⟨x,y,a,b,k⟩
 ·simp only[a];exact Z5
 ·simp only[a,b];exact .pure k
theorem Z4y{t:TypeId}{x y:Value}(h:VR r x y): SR (PF P F) P C VA r (Instr.makeInterface t x) (Instr.makeInterface t y):=by
 unfold Instr.makeInterface;refine Zi λd hd=>?_
 cases d<;>first | exact Z5 | exact .pure (.iface _ h)
theorem Z9A{f g:Fn}{xs ys us vs:Array Value}(hf:FnR r f g)(h:VRs r xs ys)(k:VRs r us vs): SR (PF P F) P C VA r (Instr.makeFunc f xs us) (Instr.makeFunc g ys vs):=.pure (.func hf h.1 h.2 k.1 k.2)
theorem ZbE {t:TypeId} {x y:Option Value} (h:OpR (VR r) x y):SR (PF P F) P C VA r (Instr.makeMap t x) (Instr.makeMap t y):=by
  have last : ∀ {r' : Ren}, SR (PF P F) P C VA r' (do pure (.map (some (<- newObj (.map #[] 0))))) (do pure (.map (some (<- newObj (.map #[] 0))))) :=
    SR.new (.map 0 .nil) λr' _ b c hb=>.pure (.map hb)
  unfold Instr.makeMap
  cases h with
  | none=>simp only[pure_bind];exact last
  | some q =>
    refine Zi λd hd=>?_
    cases d<;>try exact .dead (Zk.bind _)
    refine Z6 (Z3T q) ?_;rintro r2 hr2 n _ rfl;exact last
theorem Z8y{t:TypeId}(hz:∀e,P.underlying t=some (.slice e)->ZOk P e){x y u v:Value}(h:VR r x y)(k:VR r u v): SR (PF P F) P C VA r (Instr.makeSlice t x u) (Instr.makeSlice t y v):=by
 unfold Instr.makeSlice;refine Zi λd hd=>?_
 cases d<;>try exact Z5
 rename_i elem;refine Z6 (Z3T h) ?_;rintro r1 hr1 n _ rfl;refine Z6 (Z3T (k.mono hr1)) ?_;rintro r2 hr2 c _ rfl;refine Z1I λi hi=>?_;simp only[bind_assoc,pure_bind];refine ZL (λ_=>?_) λ_=>?_
 ·refine ZL (λ_=>Z4d Z12) λ_=>ZL (λ_=>Z4d Z12) λ_=>Z3V λ_=>Z4d Z12
 ·refine Z6 Z6m ?_
  rintro r3 hr3 _ _ _;refine ZV λm=>?_;refine ZL (λe=>?_) λ_=>?_
  ·rw[e]
   exact Z6 (Z2K (Z5M .nil _)) λ_ _ a b q=>.pure (.sl _ _ q)
  ·exact Z3n (hz _ hd) λv hv=>Z6 (Z2K (Z5M (VR.arr1 hv) _)) λ_ _ a b q=>.pure (.sl _ _ q)
end
end Lift
namespace Lift
open Go
variable[Jk]
section
variable{P:Program}{F:Array Func}{C:Inv}{r:Ren}{α β γ δ:Type}{A:Ren->α->β->Prop}{B:Ren->γ->δ->Prop}
theorem Z5z{op:BinOp}{k:IntKind}{x y:Int}: SR (PF P F) P C VA r (Op.intArith op k x y) (Op.intArith op k x y):=by
 cases op<;>first | exact Z5 | exact .pure (.int _ _)
theorem Z5A{op:BinOp}{x y:Int}: SR (PF P F) P C VA r (Op.intCmp op x y) (Op.intCmp op x y):=by
 cases op<;>first | exact Z5 | exact .pure (.bool _)
theorem Z6q{op:BinOp}{k:IntKind}{x y:Int}: SR (PF P F) P C VA r (Op.intBits op k x y) (Op.intBits op k x y):=by
 cases op<;>first | exact Z5 | exact .pure (.int _ _)
theorem ZdZ{op:BinOp}{k:IntKind}{x y:Int}: SR (PF P F) P C VA r (Op.intDiv op k x y) (Op.intDiv op k x y):=by
 unfold Op.intDiv;refine ZL (λ_=>Z12) λ_=>?_
 cases op<;>first | exact Z5 | exact .pure (.int _ _)
theorem ZfQ{op:BinOp}{k j:IntKind}{x y:Int}: SR (PF P F) P C VA r (Op.shift op k x j y) (Op.shift op k x j y):=by
 unfold Op.shift;refine ZL (λ_=>Z12) λ_=>?_
 cases op<;>first | exact Z5 | exact .pure (.int _ _)
theorem Z1o{op:BinOp}{x y:ByteArray}:SR (PF P F) P C VA r (Op.stringOp op x y) (Op.stringOp op x y):=by
 unfold Op.stringOp
 cases op<;>first | exact Z5 | exact .pure (.bool _) | exact ZL (λ_=>Zx (by simp)) λ_=>.pure (.string _)
theorem ZfT{op:UnOp}{x y:Value}(h:VR r x y): SR (PF P F) P C VA r (Op.unary op x) (Op.unary op y):=by
 unfold Op.unary
 cases op<;>cases h<;>first | exact Z5 | exact Z5z | exact Z6q | exact .pure (.bool _) | exact Zx (by simp)
theorem Z5D{b c:Nat}(h:r b=some c): SR (PF P F) P C (λr x y=>(x=none/\y=none)\/∃a a' l,x=some (a,l)/\y=some (a',l)/\AR r a a') r (numberAt b) (numberAt c):=by
 unfold numberAt;refine SR.shape h λs=>?_
 cases s with
 | some s=>exact .pure (.inl ⟨rfl,rfl⟩)
 | none =>
  refine SR.getObj h λr' hr o o' ho=>?_
  cases ho<;>first | exact .pure (.inl ⟨rfl,rfl⟩) | (rename_i q;exact .pure (.inr ⟨_,_,_,rfl,rfl,q⟩))
theorem Z1j{a b:Addr}(h:AR r a b): SR (PF P F) P C (λr x y=>AR r x.1 y.1/\x.2=y.2) r (behindNumber a) (behindNumber b):=by
 unfold behindNumber;have h0:=h
 cases h with
 | mk h =>
 refine Z6 (Z5D h) λr' hr x y q=>?_
 rcases q with⟨rfl,rfl⟩ | ⟨a,a',l,rfl,rfl,q⟩
 ·exact .pure ⟨h0.mono hr,rfl⟩
 ·exact .pure ⟨q,rfl⟩
theorem Z2Y{ι σ:Type}(l:List ι){f g:ι->σ->Sem (ForInStep σ)}: ∀(s:σ) {r:Ren},(∀a,a∈l->∀s r',r.le r'->SR (PF P F) P C EQ r' (f a s) (g a s))->SR (PF P F) P C EQ r (forIn l s f) (forIn l s g):=by
 induction l with
 | nil=>exact λs r _=>.pure rfl
 | cons a l ih =>
  intro s r h;simp only[List.forIn_cons];refine Z6 (h a (by simp) s r (Ren.le_refl _)) ?_;rintro r1 hr1 x _ rfl
  cases x with
  | done s=>exact .pure rfl
  | yield s=>exact ih s λa ha s r' hr=>h a (by simp[ha]) s r' (Ren.le_trans hr1 hr)
def EqOk(P:Program):Nat->TypeId->Prop
 | 0,_=>True
 | d+1,t=>match P.underlying t with
  | some .bool | some .string | some (.slice _) | some (.map _ _)=>True
  | some (.func _ _ _)=>¬Jk.j
  | some (.int _)=>∀i,P.info? t=some i->∀u,i.desc ≠ .named "sync.copyChecker" u
  | some (.struct fs)=>∀f∈fs,EqOk P d f.type
  | some (.array _ e)=>EqOk P d e
  | _=>False
def EqAt(P:Program)(F:Array Func)(C:Inv)(d:Nat):Prop:=∀(t:TypeId) {r:Ren} {x y u v:Value},EqOk P d t->VR r x y->VR r u v->SR (PF P F) P C EQ r (Op.equalIn d t x u) (Op.equalIn d t y v)
theorem ZfI {d:Nat} (ih:EqAt P F C d) {elem:TypeId} (ok:EqOk P d elem) {len:Nat} {xs xs' ys ys':Array Value} (h:VRs r xs xs') (k:VRs r ys ys') :
    SR (PF P F) P C EQ r
      (do let n <- sizeOf elem
          for i in [0:len] do
            if !(<-Op.equalIn d elem (<-part elem xs (i*n)) (<-part elem ys (i*n))) then return false
          pure true)
      (do let n <- sizeOf elem
          for i in [0:len] do
            if !(<-Op.equalIn d elem (<-part elem xs' (i*n)) (<-part elem ys' (i*n))) then return false
          pure true):=by
  refine ZV λn => ?_;simp only[Std.Legacy.Range.forIn_eq_forIn_range'];refine Z6 (Z2Y _ _ λi _ s r' hr => ?_) ?_
  · refine Z6 (Z1m (VRs.mono hr h) _) λr1 hr1 a b q=>?_
    refine Z6 (Z1m (VRs.mono (Ren.le_trans hr hr1) k) _) λr2 hr2 a2 b2 q2 => ?_;refine Z6 (ih _ ok (q.mono hr2) q2) ?_;rintro r3 hr3 z _ rfl
    cases z<;>exact .pure rfl
  · rintro r1 hr1 z _ rfl
    obtain⟨z,_⟩:=z
    cases z<;>exact .pure rfl
theorem ZfK {d:Nat} (ih:EqAt P F C d) {t:TypeId} {fs:Array Field} (ok:∀f∈fs,EqOk P d f.type) {xs xs' ys ys':Array Value} (h:VRs r xs xs') (k:VRs r ys ys') (why:String) (st:(PF P F).stoodInHeld t=P.stoodInHeld t) :
    SR (PF P F) P C EQ r
      (do if (<- program).stoodInHeld t then unsupported (.noEntry why)
          for f in fs do
            if f.name ≠ "_" then
              if !(<-Op.equalIn d f.type (<-part f.type xs f.offset) (<-part f.type ys f.offset)) then return false
          pure true)
      (do if (<- program).stoodInHeld t then unsupported (.noEntry why)
          for f in fs do
            if f.name ≠ "_" then
              if !(<-Op.equalIn d f.type (<-part f.type xs' f.offset) (<-part f.type ys' f.offset)) then return false
          pure true):=by
  refine Z1n ?_;rw[st];refine ZL (λ_ => .dead ((Zu (by simp)).bind _)) λ_ => ?_;simp only[<-Array.forIn_toList];refine Z6 (Z2Y _ _ λf hf s r' hr => ?_) ?_
  · refine ZL (λ_=>?_) λ_=>.pure rfl
    refine Z6 (Z1m (VRs.mono hr h) _) λr1 hr1 a b q => ?_;refine Z6 (Z1m (VRs.mono (Ren.le_trans hr hr1) k) _) λr2 hr2 a2 b2 q2 => ?_;refine Z6 (ih _ (ok f (by simpa using hf)) (q.mono hr2) q2) ?_;rintro r3 hr3 z _ rfl
    cases z<;>exact .pure rfl
  · rintro r1 hr1 z _ rfl
    obtain⟨z,_⟩:=z
    cases z<;>exact .pure rfl
theorem Z2u{f:Program->Sem α}(h:Dead (PF P F) (f (PF P F))):Dead (PF P F) (program >>= f):=h
theorem Z5a{t:TypeId}{f:TypeInfo->Sem α}(h:∀i,P.info? t=some i->Dead (PF P F) (f i)): Dead (PF P F) (typeInfo t >>= f):=by
 refine Z2u (f:=λp=>(match p.info? t with | some i=>pure i | none=>stuck "no such type") >>= f) ?_;rw[info_pf]
 cases e:P.info? t with
 | none=>exact Zk.bind _
 | some i=>exact h i e
theorem ZfJ {t:TypeId} (ok:∀i,P.info? t=some i->∀u,i.desc ≠ .named "sync.copyChecker" u) {a a' b b':Addr} (h:AR r a a') (k:AR r b b') :
    SR (PF P F) P C EQ r
      (do let (a, b) := ((<- behindNumber a).1, (<- behindNumber b).1)
          if a.block==b.block&&a.block<(<-program).globals.size then return (<-byteOf a)==(<-byteOf b)
          let .named "sync.copyChecker" _:=(<-typeInfo t).desc | unsupported .addressObserved
          if a==b then pure true else unsupported .addressObserved)
      (do let (a, b) := ((<- behindNumber a').1, (<- behindNumber b').1)
          if a.block==b.block&&a.block<(<-program).globals.size then return (<-byteOf a)==(<-byteOf b)
          let .named "sync.copyChecker" _:=(<-typeInfo t).desc | unsupported .addressObserved
          if a==b then pure true else unsupported .addressObserved):=by
  refine Z6 (Z1j h) λr1 hr1 x x' hx => ?_;refine Z6 (Z1j (k.mono hr1)) λr2 hr2 y y' hy => ?_;refine .dead (Z2u ?_);have e : (x.1.block==y.1.block&&decide (x.1.block<(PF P F).globals.size))=false := by simp[Z66]
  simp only[e];refine Z5a λi hi => ?_;have := ok i hi
  split
  · rename_i q
    exact absurd q (this _)
  · exact Zu (by simp)
theorem ZbA(hs:∀t,(PF P F).stoodInHeld t=P.stoodInHeld t)(d:Nat):EqAt P F C d:=by
 induction d with
 | zero=>exact λt r x y u v _ _ _=>Zx (by simp)
 | succ d ih =>
  intro t r x y u v ok hx hu;unfold Op.equalIn;refine Zi λk hk=>?_;unfold EqOk at ok;rw[hk]at ok
  cases k<;>try exact ok.elim
  ·cases hx<;>cases hu<;>first | exact Z5 | exact .pure rfl
  ·rename_i kk
   cases hx with
   | int k n =>
    rcases n with (_ | n) | n<;>cases hu<;>first | exact Z5 | exact Zx (by simp) | exact .pure rfl | exact ZL (λ_=>.pure rfl) λ_=>Z5
   | ptr0=>cases hu<;>first | exact Zx (by simp) | exact Z5
   | ptr q =>
    cases hu with
    | int j m=>rcases m with (_ | m) | m<;>first | exact .pure rfl | exact Zx (by simp)
    | ptr q2=>exact ZfJ ok q q2
    | _=>exact Zx (by simp)
   | _ =>
    cases hu with
    | int j m=>rcases m with (_ | m) | m<;>first | exact Z5 | exact Zx (by simp)
    | _=>first | exact Z5 | exact Zx (by simp)
  ·cases hx<;>cases hu<;>first | exact Z5 | exact .pure rfl
  ·cases hx<;>cases hu<;>first | exact Z5 | exact .pure rfl
  ·cases hx with
   | agg h1 q1 =>
    cases hu with
    | agg h2 q2=>exact ZfI ih ok ⟨h1,q1⟩ ⟨h2,q2⟩
    | _=>exact Z5
   | _=>cases hu<;>exact Z5
  ·cases hx<;>cases hu<;>first | exact Z5 | exact .pure rfl
  ·cases hx with
   | agg h1 q1 =>
    cases hu with
    | agg h2 q2=>exact ZfK ih ok ⟨h1,q1⟩ ⟨h2,q2⟩ _ (hs t)
    | _=>exact Z5
   | _=>cases hu<;>exact Z5
  ·cases hx<;>cases hu<;>first | exact Z5 | exact .pure rfl | (rename_i j _ _ _;rcases j with j | rfl<;>first | exact absurd j ok | exact Z5 | exact .pure rfl) | (rename_i j _ _ _ j2 _ _ _;rcases j with j | rfl<;>rcases j2 with j2 | rfl<;>first | exact absurd j ok | exact absurd j2 ok | exact Z5 | exact .pure rfl)
end
end Lift
namespace Lift
open Go
variable[Jk]
section
variable{P:Program}{F:Array Func}{C:Inv}{r:Ren}{α β γ δ:Type}{A:Ren->α->β->Prop}{B:Ren->γ->δ->Prop}
theorem Zez(d:Nat):∀t u,(PF P F).alikeButTags d t u=P.alikeButTags d t u:=by
 induction d with
 | zero=>exact λ_ _=>rfl
 | succ d ih =>
  intro t u;simp only[Program.alikeButTags,info_pf,ih]
theorem ZbO(t:TypeId):(PF P F).underlyingId t=P.underlyingId t:=by
 unfold Program.underlyingId;simp only[info_pf]
theorem ZfY(t:TypeId):(PF P F).stoodInHeld t=P.stoodInHeld t:=by
 have e:(PF P F).cutTypes=P.cutTypes:=rfl;unfold Program.stoodInHeld Program.stoodInAs;simp only[info_pf,under_pf,Zez,ZbO,e,Z4I]
theorem Z7z{t:TypeId}(ok:EqOk P Op.maxDepth t){x y u v:Value}(h:VR r x y)(k:VR r u v): SR (PF P F) P C EQ r (Op.equal t x u) (Op.equal t y v):=ZbA ZfY _ t ok h k
def GuAt(P:Program)(F:Array Func)(C:Inv)(d:Nat):Prop:=∀(t:TypeId) {r:Ren} {x y u v:Value},VR r x y->VR r u v->SR (PF P F) P C EQ r (Op.eqGuardIn d t x u) (Op.eqGuardIn d t y v)
theorem ZfL {d:Nat} (ih:GuAt P F C d) {elem:TypeId} {len:Nat} {xs xs' ys ys':Array Value} (h:VRs r xs xs') (k:VRs r ys ys') :
    SR (PF P F) P C EQ r
      (do let n <- sizeOf elem
          for i in [0:len] do
            if <-Op.eqGuardIn d elem (<-part elem xs (i*n)) (<-part elem ys (i*n)) then return true
          pure false)
      (do let n <- sizeOf elem
          for i in [0:len] do
            if <-Op.eqGuardIn d elem (<-part elem xs' (i*n)) (<-part elem ys' (i*n)) then return true
          pure false):=by
  refine ZV λn => ?_;simp only[Std.Legacy.Range.forIn_eq_forIn_range'];refine Z6 (Z2Y _ _ λi _ s r' hr => ?_) ?_
  · refine Z6 (Z1m (VRs.mono hr h) _) λr1 hr1 a b q=>?_
    refine Z6 (Z1m (VRs.mono (Ren.le_trans hr hr1) k) _) λr2 hr2 a2 b2 q2 => ?_;refine Z6 (ih _ (q.mono hr2) q2) ?_;rintro r3 hr3 z _ rfl
    cases z<;>exact .pure rfl
  · rintro r1 hr1 z _ rfl
    obtain⟨z,_⟩:=z
    cases z<;>exact .pure rfl
theorem ZfM {d:Nat} (ih:GuAt P F C d) {fs:Array Field} {xs xs' ys ys':Array Value} (h:VRs r xs xs') (k:VRs r ys ys') :
    SR (PF P F) P C EQ r
      (do for f in fs do
            if f.name ≠ "_" then
              if <-Op.eqGuardIn d f.type (<-part f.type xs f.offset) (<-part f.type ys f.offset) then return true
          pure false)
      (do for f in fs do
            if f.name ≠ "_" then
              if <-Op.eqGuardIn d f.type (<-part f.type xs' f.offset) (<-part f.type ys' f.offset) then return true
          pure false):=by
  simp only[<-Array.forIn_toList];refine Z6 (Z2Y _ _ λf hf s r' hr => ?_) ?_
  · refine ZL (λ_=>?_) λ_=>.pure rfl
    refine Z6 (Z1m (VRs.mono hr h) _) λr1 hr1 a b q => ?_;refine Z6 (Z1m (VRs.mono (Ren.le_trans hr hr1) k) _) λr2 hr2 a2 b2 q2 => ?_;refine Z6 (ih _ (q.mono hr2) q2) ?_;rintro r3 hr3 z _ rfl
    cases z<;>exact .pure rfl
  · rintro r1 hr1 z _ rfl
    obtain⟨z,_⟩:=z
    cases z<;>exact .pure rfl
theorem Z6p(d:Nat):GuAt P F C d:=by
 induction d with
 | zero=>exact λt r x y u v _ _=>Zx (by simp)
 | succ d ih =>
  intro t r x y u v hx hu;unfold Op.eqGuardIn;refine Zi λk hk=>?_
  cases k with
  | interface ms =>
   cases hx with
   | junk _ h1 n1 _=>cases y<;>first | exact absurd rfl (h1 _) | exact absurd rfl n1.1 | exact .pure rfl
   | iface0 =>
    cases hu with
    | junk _ h1 n1 _=>cases v<;>first | exact absurd rfl (h1 _) | exact absurd rfl n1.1 | exact .pure rfl
    | _=>exact .pure rfl
   | _=>exact .pure rfl
  | array n e =>
   cases hx with
   | agg h1 q1 =>
    cases hu with
    | agg h2 q2=>exact ZfL ih ⟨h1,q1⟩ ⟨h2,q2⟩
    | junk _ h1 n1 _=>cases v<;>first | exact absurd rfl (h1 _) | exact .pure rfl
    | _=>exact .pure rfl
   | junk _ h1 n1 _=>cases y<;>first | exact absurd rfl (h1 _) | exact .pure rfl
   | _=>exact .pure rfl
  | struct fs =>
   cases hx with
   | agg h1 q1 =>
    cases hu with
    | agg h2 q2=>exact ZfM ih ⟨h1,q1⟩ ⟨h2,q2⟩
    | junk _ h1 n1 _=>cases v<;>first | exact absurd rfl (h1 _) | exact .pure rfl
    | _=>exact .pure rfl
   | junk _ h1 n1 _=>cases y<;>first | exact absurd rfl (h1 _) | exact .pure rfl
   | _=>exact .pure rfl
  | _=>exact .pure rfl
theorem Z5P(d:Nat):∀t,(PF P F).eqGuardType d t=P.eqGuardType d t:=by
 induction d with
 | zero=>exact λ_=>rfl
 | succ d ih =>
  intro t;simp only[Program.eqGuardType,under_pf,ih]
theorem Zbz{op:BinOp}{t:TypeId}{a b:Operand}{x y u v:Value}(h:VR r x y)(k:VR r u v): SR (PF P F) P C EQ r (eqGuard op t a b x u) (eqGuard op t a b y v):=by
 unfold eqGuard;refine ZL (λ_=>.pure rfl) λ_=>?_
 cases h with
 | iface0 =>
  cases k with
  | iface0 =>
   refine ZL (λ_=>.pure rfl) λ_=>?_;refine Z6 (Z6p _ _ .iface0 .iface0) ?_;rintro _ _ z _ rfl;exact ZL (λ_=>Zx (by simp)) λ_=>.pure rfl
  | junk _ h1 n1 _=>cases v<;>first | exact absurd rfl (h1 _) | exact absurd rfl n1.1 | exact .pure rfl
  | _=>exact .pure rfl
 | agg h1 q1 =>
  cases k with
  | agg h2 q2 =>
   refine Z1n (Z1n ?_);rw[Z5P,Z4I];refine ZL (λ_=>.pure rfl) λ_=>?_;refine Z6 (Z6p _ _ (.agg h1 q1) (.agg h2 q2)) ?_;rintro _ _ z _ rfl;exact ZL (λ_=>Zx (by simp)) λ_=>.pure rfl
  | junk _ h1 n1 _=>cases v<;>first | exact absurd rfl (h1 _) | exact absurd rfl n1.1 | exact .pure rfl
  | _=>exact .pure rfl
 | junk _ h1 n1 _=>cases y<;>first | exact absurd rfl (h1 _) | exact absurd rfl n1.1 | exact .pure rfl
 | _=>exact .pure rfl
end
end Lift
namespace Lift
open Go
variable[Jk]
section
variable{P:Program}{F:Array Func}{C:Inv}{r:Ren}{α β γ δ:Type}{A:Ren->α->β->Prop}{B:Ren->γ->δ->Prop}
theorem Z6P(d:Nat):∀t o,cellOfByte (PF P F) d t o=cellOfByte P d t o:=by
 induction d with
 | zero=>exact λ_ _=>rfl
 | succ d ih =>
  intro t o;simp only[cellOfByte,under_pf,Z1O,Z2Q,ih]
theorem Zcl(d:Nat)(e:TypeId)(n o:Nat)(b:Int):cellAtBytes (PF P F) d e n o b=cellAtBytes P d e n o b:=by
 simp only[cellAtBytes,Z6P,Z3t,Z1O,Z2Q]
theorem Z4s{t:TypeId}{a b:Addr}{x y:Value}(h:AR r a b)(k:VR r x y): SR (PF P F) P C (λr x y=>∃a b,x = .pointer (some a)/\y = .pointer (some b)/\AR r a b) r
  (Builtin.unsafeAdd_ #[] t #[.pointer (some a),x]) (Builtin.unsafeAdd_ #[] t #[.pointer (some b),y]):=by
 have h0:=h
 cases h with
 | @mk b c o s h =>
 unfold Builtin.unsafeAdd_;refine Z6 (Z3T k) ?_;rintro r1 hr1 n _ rfl;refine ZL (λ_=>?_) λ_=>?_
 ·refine Z8A (hr1.1 _ _ h) λr2 hr2=>?_
  exact .pure ⟨_,_,rfl,rfl,.mk (hr2.1 _ _ (hr1.1 _ _ h))⟩
 ·refine ZL (λ_=>.dead ((Zu (by simp)).bind _)) λ_=>?_
  refine SR.shape (hr1.1 _ _ h) λs=>?_
  cases s with
  | none=>exact Zx (λ_=>by simp)
  | some s =>
   refine Z1n ?_;simp only[Zcl,Z1O,Z4I]
   cases cellAtBytes P P.depth s.1 (s.2 / P.cellsOf s.1) o n with
   | none=>exact Zx (λ_=>by simp)
   | some z=>exact .pure ⟨_,_,rfl,rfl,.mk (hr1.1 _ _ h)⟩
theorem Z1J {t:TypeId} {a b:Addr} {x y:Value} (h:AR r a b) (k:VR r x y):SR (PF P F) P C VA r (movedNumber t (.pointer (some a)) x) (movedNumber t (.pointer (some b)) y):=by
  unfold movedNumber;refine Zi λd hd => ?_;have rest : SR (PF P F) P C VA r
    (do let (a, lost) <- behindNumber a
        match <-Builtin.unsafeAdd_ #[] t #[.pointer (some a),x] with
        | .pointer (some b)=>asNumber b lost
        | v=>pure v)
    (do let (a, lost) <- behindNumber b
        match <-Builtin.unsafeAdd_ #[] t #[.pointer (some a),y] with
        | .pointer (some b)=>asNumber b lost
        | v=>pure v):=by
    refine Z6 (Z1j h) λr1 hr1 p q hpq => ?_;obtain⟨p1, p2⟩ := p;obtain⟨q1, q2⟩ := q;obtain⟨hp, rfl⟩ := hpq;refine Z6 (Z4s hp (k.mono hr1)) λr2 hr2 u v huv => ?_;obtain⟨a, b, rfl, rfl, q⟩ := huv;exact SR.new (.number _ q) λr' _ b c hb => .pure (.ptr (.mk hb))
  cases d<;>first | exact rest | exact ZL (λ_=>.dead ((Zu (by simp)).bind _)) (λh=>absurd rfl h)
theorem ZeI{a b:Addr}: Dead (PF P F) (Op.twoPlaces a b):=by
 unfold Op.twoPlaces;refine Z2u ?_;have e:(a.block != b.block||decide (a.block>=(PF P F).globals.size))=true:=by simp[Z66]
 simp only[e,if_true];exact(Zu (by simp)).bind _
theorem Z6l{k:IntKind}{a b:Addr}(h:AR r a b)(n:Int): SR (PF P F) P C VA r (Op.addrMod k a n) (Op.addrMod k b n):=by
 have h0:=h
 cases h with
 | mk h =>
 unfold Op.addrMod;refine SR.shape h λs=>?_
 cases s with
 | none=>exact Zx (λ_=>by simp)
 | some s =>
  refine Z1I λi _=>?_;refine ZL (λ_=>.dead ((Zu (by simp)).bind _)) λ_=>?_;refine Z6 (Z5w h0) ?_;rintro _ _ z _ rfl;exact .pure (.int _ _)
theorem Z5B{t:TypeId}{a b:Addr}{x y:Value}(h:AR r a b)(k:VR r x y): SR (PF P F) P C VA r (movedPointer t (.pointer (some a)) x) (movedPointer t (.pointer (some b)) y):=by
 have h0:=h
 cases h with
 | mk h =>
 unfold movedPointer;refine Z6 (Z5D h) λr1 hr1 p q hpq=>?_
 rcases hpq with⟨rfl,rfl⟩ | ⟨a,a',l,rfl,rfl,_⟩
 ·refine SR.imp (Z4s (t:=t) (h0.mono hr1) (k.mono hr1)) ?_
  rintro r2 u v _ ⟨a,b,rfl,rfl,q⟩;exact .ptr q
 ·exact ZL (λ_=>.dead ((Zu (by simp)).bind _)) (λh=>absurd rfl h)
theorem Z3X{t:TypeId}{x y:Value}(k:VR r x y): SR (PF P F) P C VA r (Builtin.unsafeAdd_ #[] t #[.pointer none,x]) (Builtin.unsafeAdd_ #[] t #[.pointer none,y]):=by
 unfold Builtin.unsafeAdd_;refine Z6 (Z3T k) ?_;rintro r1 hr1 n _ rfl;refine ZL (λ_=>Zx (by simp)) λ_=>?_;exact ZL (λ_=>.dead ((Zu (by simp)).bind _)) λ_=>Zx (by simp)
theorem Z1k{t:TypeId}{x y:Value}(k:VR r x y): SR (PF P F) P C VA r (movedNumber t (.pointer none) x) (movedNumber t (.pointer none) y):=by
 unfold movedNumber;refine Zi λd hd=>?_;have rest:=Z3X (P:=P) (F:=F) (C:=C) (t:=t) k
 cases d<;>first | exact rest | exact ZL (λ_=>.dead ((Zu (by simp)).bind _)) (λh=>absurd rfl h)
theorem Z4z{t:TypeId}{x y:Value}(k:VR r x y): SR (PF P F) P C VA r (movedPointer t (.pointer none) x) (movedPointer t (.pointer none) y):=Z3X (t:=t) k
theorem Z62{t:TypeId}{f:TypeDesc->Sem α}(h:∀k,(PF P F).underlying t=some k->Dead (PF P F) (f k)): Dead (PF P F) (underlying t >>= f):=by
 show Dead _ (Sem.program λp=>Sem.bind (match p.underlying t with | some i=>pure i | none=>stuck "no such type") f);intro w;show ∃h w',(Sem.bind (match (PF P F).underlying t with | some i=>pure i | none=>stuck "no such type") f).run (PF P F) w = .halt h w'/\Dies h
 cases e:(PF P F).underlying t with
 | none=>exact(Zk.bind _) w
 | some i=>exact h i e w
theorem Z3w(j:Jk.j)(d:Nat)(t:TypeId)(ok:EqOk P d t)(x:Value):Dead (PF P F) (Op.equalIn d t J0 x)/\Dead (PF P F) (Op.equalIn d t x J0):=by
 cases d with
 | zero=>exact⟨Zu (by simp),Zu (by simp)⟩
 | succ d =>
  unfold Op.equalIn
  constructor
  ·refine Z62 λk hk=>?_
   rw[under_pf]at hk;unfold EqOk at ok;rw[hk]at ok
   cases k<;>first | exact absurd j ok | exact Zk | (cases x<;>first | exact Zk | exact Zu (by simp))
  ·refine Z62 λk hk=>?_
   rw[under_pf]at hk;unfold EqOk at ok;rw[hk]at ok
   cases k<;>first | exact absurd j ok | exact Zk | (cases x<;>first | exact Zk | exact Zu (by simp) | (rename_i a;cases a<;>first | exact Zk | exact Zu (by simp)) | (rename_i a _ _;cases a<;>exact Zk))
def Zeq(P:Program)(op:BinOp)(t:TypeId):Prop:=(op = .eql\/op = .neq)->EqOk P Op.maxDepth t
theorem Z83(j:Jk.j){op:BinOp}{t:TypeId}(ok:Zeq P op t){x:Value}: Dead (PF P F) (binOp op t J0 x):=by
 cases op with
 | eql=>exact(Z3w j _ t (ok (.inl rfl)) x).1.bind _
 | neq=>exact(Z3w j _ t (ok (.inr rfl)) x).1.bind _
 | _=>cases x<;>first | exact Zk | exact Zu (by simp)
theorem Z1Q(j:Jk.j){op:BinOp}{t:TypeId}(ok:Zeq P op t){x:Value}: Dead (PF P F) (binOp op t x J0):=by
 cases op with
 | eql=>cases x<;>exact(Z3w j _ t (ok (.inl rfl)) _).2.bind _
 | neq=>cases x<;>exact(Z3w j _ t (ok (.inr rfl)) _).2.bind _
 | _=>cases x<;>first | exact Zk | exact Zu (by simp) | (rename_i a;cases a<;>first | exact Zk | exact Zu (by simp))
theorem ZfE {op:BinOp} {t:TypeId} (ok:Zeq P op t) {x y u v:Value} (h:VR r x y) (k:VR r u v):SR (PF P F) P C VA r (binOp op t x u) (binOp op t y v):=by
  cases op with
  | eql =>
    have q : SR (PF P F) P C VA r (do pure (.bool (<- Op.equal t x u))) (do pure (.bool (<- Op.equal t y v))) :=
      Z6 (Z7z (ok (.inl rfl)) h k) (by rintro _ _ z _ rfl;exact .pure (.bool _))
    cases h with
    | int i n =>
      cases k with
      | int j m=>exact ZL (λ_=>Z5) λ_=>Z5A
      | junk j _ _ _ =>
        rcases j with j | rfl
        · exact .dead (Z1Q j ok)
        · exact q
      | _=>exact q
    | string a =>
      cases k with
      | string b=>exact(Z1o (op:=.eql):SR (PF P F) P C VA r (Op.stringOp .eql a b) (Op.stringOp .eql a b))
      | junk j _ _ _ =>
        rcases j with j | rfl
        · exact .dead (Z1Q j ok)
        · exact q
      | _=>exact q
    | junk j _ _ _ =>
      rcases j with j | rfl
      · exact .dead (Z83 j ok)
      · cases k<;>exact q
    | _ =>
      cases k with
      | junk j _ _ _ =>
        rcases j with j | rfl
        · exact .dead (Z1Q j ok)
        · exact q
      | _=>exact q
  | neq =>
    have q : SR (PF P F) P C VA r (do pure (.bool (!(<- Op.equal t x u)))) (do pure (.bool (!(<- Op.equal t y v)))) :=
      Z6 (Z7z (ok (.inr rfl)) h k) (by rintro _ _ z _ rfl;exact .pure (.bool _))
    cases h with
    | int i n =>
      cases k with
      | int j m=>exact ZL (λ_=>Z5) λ_=>Z5A
      | junk j _ _ _ =>
        rcases j with j | rfl
        · exact .dead (Z1Q j ok)
        · exact q
      | _=>exact q
    | string a =>
      cases k with
      | string b=>exact(Z1o (op:=.neq):SR (PF P F) P C VA r (Op.stringOp .neq a b) (Op.stringOp .neq a b))
      | junk j _ _ _ =>
        rcases j with j | rfl
        · exact .dead (Z1Q j ok)
        · exact q
      | _=>exact q
    | junk j _ _ _ =>
      rcases j with j | rfl
      · exact .dead (Z83 j ok)
      · cases k<;>exact q
    | _ =>
      cases k with
      | junk j _ _ _ =>
        rcases j with j | rfl
        · exact .dead (Z1Q j ok)
        · exact q
      | _=>exact q
  | _ =>
    unfold binOp
    cases h with
    | int i n =>
      cases k with
      | int j m=>first | exact ZfQ | (exact ZL (λ_=>Z5) λ_=>(by first | exact Z5z | exact ZdZ | exact Z6q | exact Z5A))
      | ptr q=>first | exact Z1J q (.int _ _) | (refine Z6 (Z1j q) ?_;rintro r1 _ a b ⟨h,_⟩;exact Z6l h _) | exact Zx (λ_=>by simp) | exact Z5
      | ptr0=>first | exact Z1k (.int _ _) | exact Z5 | exact Zx (λ_=>by simp)
      | junk _ _ _ _=>first | exact Z5 | exact Zx (λ_=>by simp)
      | _=>first | exact Z5 | exact Zx (λ_=>by simp)
    | ptr0 =>
      cases k with
      | int j m =>
        have h1 := Z4z (P := P) (F := F) (C := C) (t := t) (r := r) (.int j m);have h2 := Z1k (P := P) (F := F) (C := C) (t := t) (r := r) (.int j m)
        first | exact h2 | exact Z1k (.int _ _) | (refine Zi λd hd=>?_;cases d<;>first | exact h1 | exact h2) | exact Zx (λ_=>by simp) | exact Z5
      | _=>first | exact Z5 | exact Zx (λ_=>by simp)
    | string a =>
      cases k with
      | string b=>exact Z1o
      | _=>first | exact Z5 | exact Zx (λ_=>by simp)
    | ptr q =>
      cases k with
      | int j m=>first | (refine Z6 (Z1j q) ?_;rintro r1 _ a b ⟨h,_⟩;exact Z6l h _) | exact Z1J q (.int _ _) | (refine Zi λd hd=>?_;cases d<;>first | exact Z5B q (.int _ _) | exact Z1J q (.int _ _)) | exact Zx (λ_=>by simp) | exact Z5
      | ptr q2=>first | exact Zx (λ_=>by simp) | exact Z5 | (refine Z6 (Z1j q) ?_;rintro r1 hr1 a b ⟨h,_⟩;refine Z6 (Z1j (q2.mono hr1)) ?_;rintro r2 hr2 a2 b2 ⟨h2,_⟩;exact .dead (ZeI.bind _))
      | _=>first | exact Zx (λ_=>by simp) | exact Z5
    | _=>cases k<;>first | exact Z5 | exact Zx (λ_=>by simp)
end
end Lift
namespace Lift
open Go
variable[Jk]
section
variable{P:Program}{F:Array Func}{C:Inv}{r:Ren}{α β γ δ:Type}{A:Ren->α->β->Prop}{B:Ren->γ->δ->Prop}
theorem Z8x{b c:Nat}{f:Obj->Sem γ}{g:Obj->Sem δ}(h:r b=some c)(t:∀r',r.le r'->∀o o',OR C r' o o'->SR (PF P F) P C B r' (f o) (g o')): SR (PF P F) P C B r (getObj b >>= f) (getObj c >>= g):=SR.getObj h t
theorem Z3W{f:α->Sem γ}{y:Sem δ}: SR (PF P F) P C B r (stuck why >>= f) y:=.dead (Zk.bind _)
theorem AR.beq(hi:Inj r){a a' b b':Addr}(h:AR r a a')(k:AR r b b'): (a==b)=(a'==b'):=by
 cases h with
 | @mk x y o s h =>
 cases k with
 | @mk x2 y2 o2 s2 k =>
 rw[Bool.eq_iff_iff];simp only[beq_iff_eq,Addr.mk.injEq]
 constructor
 ·rintro⟨rfl,q⟩
  exact⟨Y1 (h.symm.trans k),q⟩
 ·rintro⟨rfl,q⟩
  exact⟨hi _ _ _ h k,q⟩
theorem Zhh{xs xs' ys ys':List Value}(p:Value->Value->Bool)(q:∀x x' y y',VR r x x'->VR r y y'->p x y=p x' y')(h:Lis (VR r) xs xs')(k:Lis (VR r) ys ys'):
  (xs.zip ys).all (λ(x,y)=>p x y)=(xs'.zip ys').all (λ(x,y)=>p x y):=by
 induction h generalizing ys ys' with
 | nil=>rfl
 | cons a _ ih =>
  cases k with
  | nil=>rfl
  | cons b t=>simp only[List.zip_cons_cons,List.all_cons,q _ _ _ _ a b,ih t]
theorem Z9v(nj:¬Jk.j)(hi:Inj r)(n:Nat):∀{x x' y y':Value},VR r x x'->VR r y y'->Instr.sameBits n x y=Instr.sameBits n x' y':=by
 induction n with
 | zero =>
  intro x x' y y' h k
  cases h with
  | ptr q =>
   cases k with
   | ptr q2 =>
    have:=AR.beq hi q q2;simp only[Instr.sameBits];rw[Bool.eq_iff_iff]at this⊢;simpa using this
   | junk j _ _ _ =>
    rcases j with j | rfl
    ·exact absurd j nj
    ·rfl
   | _=>rfl
  | junk j _ _ _ =>
   rcases j with j | rfl
   ·exact absurd j nj
   ·cases k<;>first | rfl | (rename_i j _ _ _;rcases j with j | rfl<;>first | exact absurd j nj | rfl)
  | _=>cases k<;>first | rfl | (rename_i j _ _ _;rcases j with j | rfl<;>first | exact absurd j nj | rfl)
 | succ n ih =>
  intro x x' y y' h k
  cases h with
  | iface t q =>
   cases k with
   | iface u q2=>simp only[Instr.sameBits,ih q q2]
   | junk j _ _ _ =>
    rcases j with j | rfl
    ·exact absurd j nj
    ·rfl
   | _=>rfl
  | agg h1 q1 =>
   cases k with
   | agg h2 q2=>simp only[Instr.sameBits,h1,h2,Zhh _ (λ_ _ _ _ a b=>ih a b) (Arr.lis ⟨h1,q1⟩) (Arr.lis ⟨h2,q2⟩)]
   | junk j _ _ _ =>
    rcases j with j | rfl
    ·exact absurd j nj
    ·rfl
   | _=>rfl
  | ptr q =>
   cases k with
   | ptr q2 =>
    have:=AR.beq hi q q2;simp only[Instr.sameBits];rw[Bool.eq_iff_iff]at this⊢;simpa using this
   | junk j _ _ _ =>
    rcases j with j | rfl
    ·exact absurd j nj
    ·rfl
   | _=>rfl
  | junk j _ _ _ =>
   rcases j with j | rfl
   ·exact absurd j nj
   ·cases k<;>first | rfl | (rename_i j _ _ _;rcases j with j | rfl<;>first | exact absurd j nj | rfl)
  | _=>cases k<;>first | rfl | (rename_i j _ _ _;rcases j with j | rfl<;>first | exact absurd j nj | rfl)
def OpV(r:Ren):Option (Nat×Value)->Option (Nat×Value)->Prop
 | none,none=>True
 | some p,some q=>p.1=q.1/\VR r p.2 q.2
 | _,_=>False
theorem Z9y{x x' y y':Value}(nj:¬Jk.j)(hi:Inj r)(h:VR r x x')(k:VR r y y'): SR (PF P F) P C VA r (Instr.keyThatStays x y) (Instr.keyThatStays x' y'):=by
 unfold Instr.keyThatStays;rw[Z9v nj hi _ h k];refine ZL (λ_=>.pure k) λ_=>Z3V λn=>?_
 split
 ·exact .pure k
 ·exact .pure h
def CkAt(P:Program)(F:Array Func)(C:Inv)(e:Bool)(d:Nat):Prop:=∀(t:TypeId) {r:Ren} {x y:Value},EqOk P d t->VR r x y->SR (PF P F) P C EQ r (Instr.checkKey e d t x) (Instr.checkKey e d t y)
theorem ZfG {b:Bool} {d:Nat} (ih:CkAt P F C b d) {elem:TypeId} (ok:EqOk P d elem) {len:Nat} {xs xs':Array Value} (h:VRs r xs xs') :
    SR (PF P F) P C EQ r
      (do for i in [0:len] do Instr.checkKey b d elem (<- part elem xs (i * (<- sizeOf elem))))
      (do for i in [0:len] do Instr.checkKey b d elem (<- part elem xs' (i * (<- sizeOf elem)))) := by
  simp only[Std.Legacy.Range.forIn_eq_forIn_range'];refine Z6 (Z2Y _ _ λi _ s r' hr => ?_) ?_
  · refine ZV λn=>?_
    refine Z6 (Z1m (VRs.mono hr h) _) λr1 hr1 a b q => ?_;refine Z6 (ih _ ok q) ?_;rintro r3 hr3 z _ rfl;exact .pure rfl
  · rintro r1 hr1 z _ rfl
    exact .pure rfl
theorem ZfH {b:Bool} {d:Nat} (ih:CkAt P F C b d) {fs:Array Field} (ok:∀f∈fs,EqOk P d f.type) {xs xs':Array Value} (h:VRs r xs xs') :
    SR (PF P F) P C EQ r
      (do for f in fs do
            if f.name ≠ "_" then Instr.checkKey b d f.type (<-part f.type xs f.offset))
      (do for f in fs do
            if f.name ≠ "_" then Instr.checkKey b d f.type (<-part f.type xs' f.offset)):=by
  simp only[<-Array.forIn_toList];refine Z6 (Z2Y _ _ λf hf s r' hr => ?_) ?_
  · refine ZL (λ_=>?_) λ_=>.pure rfl
    refine Z6 (Z1m (VRs.mono hr h) _) λr1 hr1 a b q => ?_;refine Z6 (ih _ (ok f (by simpa using hf)) q) ?_;rintro r3 hr3 z _ rfl;exact .pure rfl
  · rintro r1 hr1 z _ rfl
    exact .pure rfl
theorem Z5x{b:Bool}(d:Nat): CkAt P F C b d:=by
 induction d with
 | zero=>exact λt r x y _ _=>Zx (by simp)
 | succ d ih =>
  intro t r x y ok hx;unfold Instr.checkKey;refine Zi λk hk=>?_;unfold EqOk at ok;rw[hk]at ok
  cases k with
  | array n e =>
   cases hx with
   | agg h1 q1=>exact ZfG ih ok ⟨h1,q1⟩
   | _=>exact Z5
  | struct fs =>
   cases hx with
   | agg h1 q1=>exact ZfH ih ok ⟨h1,q1⟩
   | _=>exact Z5
  | _=>first | exact ok.elim | exact .pure rfl
def Slw:Value->Prop
 | .int _ _=>False
 | .string _=>False
 | .bool _=>False
 | _=>True
theorem ZgR(nj:¬Jk.j){x x':Value}(h:VR r x x'): x=x'\/(Slw x/\Slw x'):=by
 cases h with
 | junk j _ _ _ =>
  rcases j with j | rfl
  ·exact absurd j nj
  ·exact .inl rfl
 | _=>first | exact .inl rfl | exact .inr ⟨trivial,trivial⟩
theorem Z2l{d:TypeDesc}{x y:Value}(h:Slw x\/Slw y): Instr.sameNow d x y=none:=by
 cases d<;>first | rfl | (cases x<;>first | rfl | (cases y<;>first | rfl | exact(h.elim (λq=>False.elim q) λq=>False.elim q)))
theorem Zbs(nj:¬Jk.j){d:TypeDesc}{x x' y y':Value}(h:VR r x x')(k:VR r y y'): Instr.sameNow d x y=Instr.sameNow d x' y':=by
 rcases ZgR nj h with rfl | ⟨a,b⟩
 ·rcases ZgR nj k with rfl | ⟨a,b⟩
  ·rfl
  ·rw[Z2l (.inr a),Z2l (.inr b)]
 ·rw[Z2l (.inl a),Z2l (.inl b)]
theorem Zbe(nj:¬Jk.j){d:TypeDesc}{x x':Value}(h:VR r x x'){es es':List MapEntry}(k:Lis (ER r) es es')(i:Nat):
  (Instr.findNow d x es i=none/\Instr.findNow d x' es' i=none)\/∃p q,Instr.findNow d x es i=some p/\Instr.findNow d x' es' i=some q/\OpV r p q:=by
 induction k generalizing i with
 | nil=>exact .inr ⟨none,none,rfl,rfl,trivial⟩
 | cons a _ ih =>
  unfold Instr.findNow;rw[Zbs nj h a.1]
  split
  ·exact .inr ⟨_,_,rfl,rfl,rfl,a.2.1⟩
  ·exact ih _
  ·exact .inl ⟨rfl,rfl⟩
theorem Z7B{t:TypeId}(ok:EqOk P Op.maxDepth t){es es':List MapEntry}{r:Ren}(k:Lis (ER r) es es'): ∀{x x':Value} (i:Nat),VR r x x'->SR (PF P F) P C OpV r (Instr.findAsking t x es i) (Instr.findAsking t x' es' i):=by
 induction es generalizing es' r with
 | nil=>cases k;exact λi _=>.pure trivial
 | cons e es ih =>
  cases k with
  | cons a k =>
  intro x x' i h;unfold Instr.findAsking;refine Z6 (Z7z ok h a.1) ?_;rintro r1 hr1 z _ rfl;refine ZL (λ_=>.pure ⟨rfl,a.2.1.mono hr1⟩) λ_=>?_;exact ih (k.imp λ_ _=>ER.mono hr1) _ (h.mono hr1)
theorem Z6o(nj:¬Jk.j){t:TypeId}(ok:EqOk P Op.maxDepth t){x x':Value}(h:VR r x x'){es es':List MapEntry}(k:Lis (ER r) es es'): SR (PF P F) P C OpV r (Instr.findKey t x es) (Instr.findKey t x' es'):=by
 unfold Instr.findKey;refine Zi λd hd=>?_
 rcases Zbe nj (d:=d) h k 0 with⟨a,b⟩ | ⟨p,q,a,b,c⟩
 ·rw[a,b];exact Z7B ok k _ h
 ·rw[a,b];exact .pure c
def ZbW(P:Program)(t:TypeId):Prop:=¬Jk.j/\∀k e,P.underlying t=some (.map k e)->EqOk P Op.maxDepth k/\ZOk P e
theorem Ze1 {t:TypeId} (ok:ZbW P t) {x x' i i':Value} (h:VR r x x') (k:VR r i i') (c:Bool):SR (PF P F) P C VA r (Instr.lookup t x i c) (Instr.lookup t x' i' c):=by
  unfold Instr.lookup;refine Zi λd hd => ?_
  cases d<;>try exact Z5
  rename_i key elem;obtain⟨ok1, ok2⟩ := ok.2 _ _ hd;have nj := ok.1;have rest : ∀{r' : Ren} (es es' : Array MapEntry), r.le r'->Arr (ER r') es es'->SR (PF P F) P C VA r'
      (do Instr.checkKey es.isEmpty 10000 key i
          let (v,ok) <-match <-Instr.findKey key i es.toList with
            | some (_,v)=>pure (v,true)
            | none=>pure (<-zeroValue elem,false)
          pure (if c then .tuple #[v,.bool ok] else v))
      (do Instr.checkKey es'.isEmpty 10000 key i'
          let (v,ok) <-match <-Instr.findKey key i' es'.toList with
            | some (_,v)=>pure (v,true)
            | none=>pure (<-zeroValue elem,false)
          pure (if c then .tuple #[v,.bool ok] else v)):=by
    intro r' es es' hr he;have e : es.isEmpty=es'.isEmpty := by simp only[Array.isEmpty, he.1]
    rw[e];refine Z6 (Z5x 10000 _ ok1 (k.mono hr)) ?_;rintro r1 hr1 _ _ _;refine Z6 (Z6o nj ok1 (k.mono (Ren.le_trans hr hr1)) (he.imp λ_ _ => ER.mono hr1).lis) λr2 hr2 p q hpq => ?_;have out : ∀{r3 : Ren} {v v' : Value} (b : Bool), VR r3 v v'->SR (PF P F) P C VA r3 (pure (if c then .tuple #[v, .bool b] else v)) (pure (if c then .tuple #[v', .bool b] else v')) := by
      intro r3 v v' b hv
      cases c
      · exact .pure hv
      · exact .pure (.tupA (Arr.two hv (.bool _)))
    cases p with
    | none =>
      cases q with
      | none=>simp only[bind_assoc,pure_bind];exact Z3n ok2 λv hv=>out _ (hv _)
      | some q=>exact hpq.elim
    | some p =>
      cases q with
      | none=>exact hpq.elim
      | some q =>
        obtain⟨p1, p2⟩ := p;obtain⟨q1, q2⟩ := q;simp only[pure_bind];exact out _ hpq.2
  cases h<;>try exact .dead (Zk.bind _)
  · simp only[pure_bind];exact rest _ _ (Ren.le_refl _) .nil
  · rename_i q
    simp only[bind_assoc];refine Z8x q λr' hr o o' ho => ?_
    cases ho with
    | map n he =>
      simp only[pure_bind];exact rest _ _ hr he
    | _=>exact Z3W
theorem ZjM{es es':Array MapEntry}(h:Arr (ER r) es es')(i:Nat){f g:MapEntry->MapEntry}(k:∀a b,ER r a b->ER r (f a) (g b)):Arr (ER r) (es.modify i f) (es'.modify i g):=by
 refine⟨by simpa using h.1,λj a b ha hb=>?_⟩;rw[Array.getElem?_modify]at ha hb
 split at ha
 ·rename_i e
  rw[if_pos e]at hb;obtain⟨x,hx,rfl⟩:=Y3.1 ha;obtain⟨y,hy,rfl⟩:=Y3.1 hb;exact k _ _ (h.2 j x y hx hy)
 ·rename_i e
  rw[if_neg e]at hb;exact h.2 j a b ha hb
theorem Z8z(hi:Inj r){t:TypeId}(ok:ZbW P t){x x' i i' v v':Value}(h:VR r x x')(k:VR r i i')(hv:VR r v v'): SR (PF P F) P C EQ r (Instr.mapUpdate t x i v) (Instr.mapUpdate t x' i' v'):=by
 unfold Instr.mapUpdate;refine Zi λd hd=>?_
 cases d<;>try exact Z5
 rename_i key elem;obtain⟨ok1,ok2⟩:=ok.2 _ _ hd;have nj:=ok.1
 cases h with
 | map0=>exact ZfO
 | map q =>
  refine Z8x q λr1 hr1 o o' ho=>?_
  cases ho with
  | @map es es' n he =>
   refine Z6 (Z5x 10000 _ ok1 (k.mono hr1)) ?_;rintro r2 hr2 _ _ _;refine Z6 (Z6o nj ok1 (k.mono (Ren.le_trans hr1 hr2)) (he.imp λ_ _=>ER.mono hr2).lis) λr3 hr3 p q' hpq=>?_;have hr:=Ren.le_trans hr1 (Ren.le_trans hr2 hr3);have he3:=he.imp λ_ _=>ER.mono (Ren.le_trans hr2 hr3)
   cases p with
   | none =>
    cases q' with
    | none=>exact .setObj (hr.1 _ _ q) (.map _ (he3.push ⟨k.mono hr,hv.mono hr,rfl⟩)) (by simp) (.pure rfl)
    | some q'=>exact hpq.elim
   | some p =>
    cases q' with
    | none=>exact hpq.elim
    | some q' =>
     obtain⟨p1,p2⟩:=p;obtain⟨q1,q2⟩:=q';obtain⟨e,_⟩:=hpq;obtain rfl:p1=q1:=e;have hk:VR r3 ((es[p1]?.map (·.key)).getD i) ((es'[p1]?.map (·.key)).getD i'):=by
      rcases he3.get p1 with⟨a,b⟩ | ⟨x,y,a,b,c⟩
      ·rw[a,b];exact k.mono hr
      ·rw[a,b];exact c.1
     refine Z6 (Z9y nj (hr.2 hi) hk (k.mono hr)) λr4 hr4 z z' hz=>?_;have hr5:=Ren.le_trans hr hr4;exact .setObj (hr5.1 _ _ q) (.map _ (ZjM (he3.imp λ_ _=>ER.mono hr4) _ λa b hab=>⟨hz,hv.mono hr5,hab.2.2⟩)) (by simp) (.pure rfl)
  | _=>exact Z5
 | _=>exact Z5
end
end Lift
end Go.Proofs.YtfelljbfeoplhaaGreat
