/- Parts of a proof: Xa, Xb, Xc, Xe, Xh, Xi, Xo, Xy, Xz, Xu, Dkr, Dst, Dks, Dkv. No conditions. -/
import Derived.Defers
import Derived.Test.YtfelljbfeoplhaaGreatPsh1
import Derived.Test.YtfelljbfeoplhaaGreatPsh5
import Derived.Test.YtfelljbfeoplhaaGreatPsh6
import Derived.Test.YtfelljbfeoplhaaGreatPsh7
import Derived.Test.YtfelljbfeoplhaaGreatPsh8
import Derived.Test.YtfelljbfeoplhaaGreatPsh9
import Derived.Test.YtfelljbfeoplhaaGreatPsh11
set_option linter.unusedVariables false
set_option linter.unusedSimpArgs false
set_option linter.unusedSectionVars false
set_option maxRecDepth 100000
set_option maxHeartbeats 4000000
namespace Go.Proofs.YtfelljbfeoplhaaGreat
variable{W u v w w':Go.World}{D S:Nat->Prop}{xs:Array Go.Value}{a a1 a2:Option Go.Addr}{b base c c1 c2 cap k m n n1 n2 size:Nat}{Post:Go.Value->Go.World->Prop}{l s:List Int}{cs:List Go.Frame}{o:Go.Oper}{e:Go.TypeId}
section
open Go.RowKit Ev
variable{μ:Nat}
theorem Z7Q(x:Vm)(hv:VOk x)(k:Nat)(hk:k<x.L.length)(f:Nat->Int)(hf:TubS f)(s:List Int)(hs:Z1U x s)(sa:Option Addr)(sc:Nat)(n8 n9 n5:Nat)(T8 T9 T5:TypeId)(z8 z9 z5:Nat×Nat)(w:World)(h:x.At w)(hr:Z6 w (.slice sa s.length sc) 1 (s.map Z5))
  (q8:w.heap[n8]?=some (.cells #[.int .i64 x.B,.slice x.da x.D.length x.dc,.slice x.la x.L.length x.lc,.int .i64 x.tol] T8 z8)) (q9:w.heap[n9]?=some (.cells (tubC f) T9 z9)) (q5:w.heap[n5]?=some (.cells #[.slice sa s.length sc] T5 z5)) :
  Calls (Qy.prog μ) 79 #[.int .i64 ((k:Nat):Int),.pointer (some ⟨n8,0,none⟩),.pointer (some ⟨n9,0,none⟩),.pointer (some ⟨n5,0,none⟩)] w λe w'=>e = .returned (.bool (matE x f (val s) [((k:Nat):Int)]))/\Ext [] w w':=by
 have E:Ext [] w w:=Ext.refl _ _;have HX:=Lib.hid h;have HV:=Lib.hid hv;have HR:=Lib.hid hr;clear h hv hr;refine ZO 12 Qy.func79 rfl Tryz.ntmps79 (Nat.le_of_ble_eq_true rfl) ?_;intro fa F;refine wS λK1 hK1=>?_;refine Yg ?_;refine F.vl (ZE rfl (ev_c fa _)) λfa F=>?_;refine wN<|hK1 _ _<|wS λK2 hK2=>?_
 refine Yg ?_;refine F.vl (Ze rfl (F.at rfl) Qy.underlying85 rfl (by kernel_rfl) q8) λfa F=>?_;refine F.vl (Ze rfl (F.at rfl) Qy.underlying88 rfl (by kernel_rfl) q9) λfa F=>?_;refine F.vl (ZF rfl (F.at rfl) Qy.underlying22 rfl ((Z0 q5 0).trans (get0))) λfa F=>?_;refine F.mv λfa F=>?_;refine sqN F (Zz rfl (prS (F.at rfl) pr0) Qy.underlying22 (size:=1) (by kernel_rfl) (by decide) (by decide) Qy.zeroValue3 (cells:=#[.int .i64 ((k:Nat):Int)]) (by kernel_rfl)) λfa w1 F hw=>?_;obtain⟨n10,hn⟩:=eQ w.heap.size;rw[<-hn]at F;have s10:=sQ hn;have l10_E:=lQ hn E.size;have m10_8:=tQ hn (Z3 q8);have m10_9:=tQ hn (Z3 q9);have m10_5:=tQ hn (Z3 q5);replace q8:=Z1 hw q8;replace q9:=Z1 hw q9;replace q5:=Z1 hw q5;replace E:=Z8 E hw;have q10:=ZD hw hn;clear hw hn;refine sqC F (Z00 rfl rfl Qy.call80 (mpS (F.at rfl) (mpS (F.at rfl) (mpS (F.at rfl) (mpS (F.at rfl) mp0))))) (Z7b (μ:=μ) x HV.out f hf s hs [((k:Nat):Int)] (by intro n hn;obtain rfl:=List.mem_singleton.1 hn;omega) (by simp) sa (some ⟨n10,0,none⟩) sc 1 _ (HX.out.ext E) (HR.out.ext E (by simp)) (ZR [((k:Nat):Int)] 1 q10)) λe w2 hR=>?_;obtain⟨rfl,e9⟩:=hR;refine⟨_,rfl,λfa F=>?_⟩;replace q8:=(e9).keep0 q8;replace q9:=(e9).keep0 q9;replace q5:=(e9).keep0 q5;replace q10:=(e9).keep0 q10;replace E:=Zg E (e9);clear e9;refine F.as λfa F=>?_;refine wN<|hK2 _ _ ?_
 refine wp_ret ?_
 (try simp only[Exit.inBlock,Exit.then,reduceIte])
 refine rt_v F (rs_1 F rfl rfl) ?_;exact⟨rfl,E⟩
noncomputable def mB:Code:=Tryz.f26.body.getD .skip
noncomputable def cMat:Code:=.seq (sqL mB) (.seq (sqL (sqR mB)) (.seq (sqL (sqR (sqR mB))) (.seq (sqL (sqR (sqR (sqR mB)))) (.seq (sqL (sqR (sqR (sqR (sqR mB))))) (.refuse "")))))
structure MaA(x:Vm)(f:Nat->Int)(s:List Int)(sa:Option Addr)(sc:Nat)(w:World)(b fr:Frame)(w':World):Prop where
 ex:∃(a:Act) (n7 n8 n9 n5:Nat),fr=b.at a [.code (.refuse "")] /\
  Has 21 [Z0p n7] a [(7,pt n7),(8,pt n8),(9,pt n9),(5,pt n5)] /\
  w'.heap[n7]?=some (.cells #[.int .i64 0] 30 (0,0))/\w'.heap[n8]?=some (.cells #[.int .i64 x.B,.slice x.da x.D.length x.dc,.slice x.la x.L.length x.lc,.int .i64 x.tol] 85 (0,0)) /\
  w'.heap[n9]?=some (.cells (tubC f) 88 (0,0))/\w'.heap[n5]?=some (.cells #[.slice sa s.length sc] 22 (0,0)) /\
  w.heap.size<=n7/\w.heap.size<=n8/\w.heap.size<=n9/\w.heap.size<=n5/\n7≠n8/\n7≠n9/\n7≠n5/\Ext [] w w'
theorem Zkb(x:Vm)(hv:VOk x)(l s:List Int)(hl:RcpOk x l)(hs:Z1U x s)(a1 a2:Option Addr)(c1 c2:Nat)(w:World)(h:x.At w)(hr:Z6 w (.slice a1 l.length c1) 1 (l.map Z5))(hr':Z6 w (.slice a2 s.length c2) 1 (s.map Z5))
  (fb:Frame) (fa:Act) (F:Has 21 [] fa [(0,x.val),(1,.slice a1 l.length c1),(2,.slice a2 s.length c2)]):ToZ (Qy.prog 1) [Lift.poison] (MaA x (val l) s a2 c2 w fb) (fb.at fa [.code cMat]) w:=by
 have E:Ext [] w w:=Ext.refl _ _;have HX:=Lib.hid h;have HV:=Lib.hid hv;have HR:=Lib.hid hr;have HR':=Lib.hid hr';have HL:=Lib.hid hl;have HS:=Lib.hid hs;clear h hv hr hr' hl hs;unfold Vm.val at F;have G:=(Bk.nil w).ce E;refine Z1i<|Z3O<|Yg<|(F.bx G) λyy F G=>(F.bx G) @λn5 w2 _ yy F G=>(F.m) λF=>(F.al G Qy.zeroValue30) @λn7 w3 _ yy F G=>tI<|Z1i<|Z3O<|Yg<|(F.df) λF=>tI<|Z1i<|Z3O<|Yg<|(F.y (F.lb (G.q 2))) λF=>(F.k0 G (Z0A (μ:=1) x HV.out _ (HX.out.ext (G.e 3)))) λF G=>(F.al G Qy.zeroValue85) @λn8 w5 _ yy F G=>(F.sr G 0) λG=>tI<|Z1i<|Z3O<|Yg ?_
 refine(F.y (F.lb (G.q 0))) λF=>(F.m) λF=>(F.k (Z9 (μ:=1) x HV.out l HL.out a1 c1 _ (HR.out.ext (G.e 4) (by simp)))) ?_;rintro _ w7 ⟨rfl,e9⟩;refine⟨_,rfl,λF=>?_⟩;replace G:=G.ex e9;unfold tubC at F;refine(F.al G Qy.zeroValue88) @λn9 w8 _ yy F G=>(F.sr G 0) λG=>tI<|Z1i<|Z3O<|Yg<|(F.y (F.lb (G.q 1))) λF=>(F.y (F.lc (G.q 3))) λF=>(F.k0 G (Z2u (μ:=1) x HV.out s HS.out a2 c2 _ (HR'.out.ext (G.e 5) (by simp)))) λF G=>tI ?_
 exact ToZ.here ⟨_,n7,n8,n9,n5,rfl,F.u,G.q 2,G.q 1,G.q 0,G.q 3,by omega,by omega,by omega,by omega,by omega,by omega,by omega,G.e 5⟩
end
namespace Lift
open Go Go.Conc Go.RowKit Ev Mx
open Go.ConcM (OsLater)
noncomputable def fF(f:FuncId):Frame:={(default:Frame) with fn:=f,kind:=.normal}
def fA(N:Nat)(xs:Array Value):Act:={tmps:=xs++Array.replicate (N-xs.size) undef,defers:=[]}
def HdS(Z:World->Frame->World->Prop)(v:World)(V:List Frame)(u:World):Prop:=∃T0 T f',V=[f',poison]/\Z (re v T0) f' (re u T)
structure Snc(w0:World)(r:Ren)(v w:World):Prop where
 old:∀b,b<w0.heap.size->w.heap[b]?=w0.heap[b]?
 size:w0.heap.size<=w.heap.size
 os:w.os=w0.os
 out:w.output=w0.output
 shut:∀a b,r a=some b->b<w0.heap.size->Shut v a
theorem Snc.kep[Jk]{w0:World}{r r':Ren}{v': World}(k:Kep r r' v v' w w')(h:Snc w0 r v w): Snc w0 r' v' w':=by
 refine⟨λb hb=>?_,Yd h.size k.sizeW,k.os.2.symm.trans h.os,k.out.trans h.out,λa b q hb=>?_⟩
 ·rw[<-h.old b hb]
  by_cases hn:∃a,r a=some b
  ·obtain⟨a,ha⟩:=hn
   exact k.shutW a b (h.shut a b ha hb) ha
  ·exact k.far b (Y8 hb h.size) λa ha=>hn ⟨a,ha⟩
 ·rcases k.new a b q with q | ⟨_,q⟩
  ·exact k.shutS (h.shut a b q hb)
  ·have:=h.size
   omega
theorem Zd0{J:Jk}(hj:J.j)(hg:∀f,J.gd f↔gJ f=true)(hn:∀f,¬J.law f)(hblk:∀b,S b->∃cs e fz,w.heap[b]?=some (.cells cs e fz))(hoff:∀b,S b->¬D b)(hlow:∀c,D c->c<w.heap.size){f:FuncId}{N:Nat}(hown:(Qy.F 1)[(f:Nat)]?=PP.funcs[(f:Nat)]?)(hargs:@VRs J (idS S) xs xs){c c':Code}(hc:@Todo J PP (J.law f) (¬J.gd f) false (idS S) [.code c] [.code c']){Z:World->Frame->World->Prop}(hrun:∀v,Shadow S w v->∀T,ToZ (Qy.prog 1) [poison] (Z (re v T)) ((fF f).at (fA N xs) [.code c]) (re v T))(next:∀v f' v' r' g' w' T1 T2,Shadow S w v->Z (re v T1) f' (re v' T2) -> @FrR J PP (Qy.F 1) r' f' g' -> @WH J (@Iv J PP (Qy.F 1)) r' v' w'->Idn r'->Off D r' w'->Snc w r' v' w'->Sure PP Post D (run1 g' cs) w'):
  Sure PP Post D (run1 ((fF f).at (fA N xs) [.code c']) cs) w:=by
 have hS2:Strip PP (Qy.F 1) (CodeOk PP false) (λf=>gJ f=true):=strip_J hj hg (λf _=>hn f) 1;have hG:GOk PP (Qy.F 1) (λf=>gJ f=true):=ZhC hg (λf _=>hn f) 1;have hR:Rec PP:=⟨recP,hn⟩;obtain⟨v,hsh,hwh,hshut⟩:=Z1F (P:=PP) (F:=Qy.F 1) (w:=w) hj hblk;have hfr:FrR PP (Qy.F 1) (idS S) ((fF f).at (fA N xs) [.code c]) ((fF f).at (fA N xs) [.code c']):=by
  refine @FrR.mk J PP (Qy.F 1) (idS S) _ _ ?c1 ?c2 ?c3 ?c4 ?c5 ?c6 ?c7 ?c8
  case c1=>exact(rfl:(f:Nat)=f)
  case c2=>exact hown
  case c4=>exact hc
  case c5=>exact⟨.nil,λq=>absurd q (hn _)⟩
  case c6=>exact .run
  case c7=>exact⟨(rfl:CallKind.normal = .normal),.inl (rfl:CallKind.normal = .normal)⟩
  case c8=>exact .none
  ·show VRs (idS S) (xs++Array.replicate (N-xs.size) undef) (xs++Array.replicate (N-xs.size) undef)
   exact Arr.append hargs (Arr.replicate _ .undef)
 have hst:Stk PP (Qy.F 1) (idS S) [(fF f).at (fA N xs) [.code c]] [(fF f).at (fA N xs) [.code c']]:=⟨.cons hfr .nil,⟨.inl rfl,λh=>absurd rfl h⟩,trivial⟩;have hEn:Ends (PF PP (Qy.F 1)) (HdS Z v) [(fF f).at (fA N xs) [.code c],poison] v:=by
  obtain⟨T0,hw0⟩:=hwh.tape;obtain⟨σ,hw2⟩:=hw0.retape v.tape;refine Z0D hS2 hG hR ?_ (.inl ⟨[],_,[],_,_,rfl,hst,hw2⟩) λT=>?_
  ·rintro V u T ⟨T1,T2,f',e,q⟩
   exact⟨T1,T2,f',e,q⟩
  ·obtain⟨f',w',hz,n,hn⟩:=hrun v hsh T
   exact⟨n,f',[poison],w',hn,T,w'.tape,f',rfl,hz⟩
 have hof:Off D (idS S) w:=⟨λb c hb=>by obtain⟨q1,rfl⟩:=Z0q hb;exact hoff _ q1,hlow⟩;refine Sure.lone (A:=[]) (B:=[]) hS2 hG hR (λy u=>by rintro⟨T1,T2,f',e,q⟩;cases e) hEn rfl hst hwh hof ?_;intro f' A' g' B' r' v' w' hs hst' hw' hk;obtain⟨T1,T2,f2,e,hq⟩:=hs;simp only[List.cons.injEq]at e;obtain⟨rfl,e⟩:=e;have hA:A'=[]:=by
  cases A' with
  | nil=>rfl
  | cons a0 l0 =>
   have:=congrArg List.length e;simp at this
 subst hA;have hB:B'=[]:=by
  obtain⟨_,h,_⟩:=hst'.uncons;have:=h.rel
  cases B' with
  | nil=>rfl
  | cons b bs=>cases this
 subst hB;have hi:Idn r':=λb c hb=>by
  rcases (hk.par hsh.size).2.1 b c hb with q | q
  ·exact(Z0q q).2
  ·exact q.symm
 have hsn:Snc w r' v' w':=Snc.kep hk ⟨λ_ _=>rfl,Ye _,rfl,rfl,λa b q _=>hshut a b q⟩;have ho':Off D r' w':=⟨λb c hb hd=>by
  rcases hk.new b c hb with q | ⟨_,q⟩
  ·exact hof.names b c q hd
  ·have:=hlow c hd
   omega,λc hc=>Y8 (hlow c hc) hk.sizeW⟩
 exact next v f' v' r' g' w' T1 T2 hsh hq hst'.uncons.1 hw' hi ho' hsn
end Lift
namespace Lift
open Go Go.Conc Go.RowKit Ev Mx
open Go.ConcM (OsLater)
noncomputable def tM:Code:=sqR (sqR (sqR (sqR (sqR mB))))
theorem Zlz:mB = .seq (sqL mB) (.seq (sqL (sqR mB)) (.seq (sqL (sqR (sqR mB))) (.seq (sqL (sqR (sqR (sqR mB)))) (.seq (sqL (sqR (sqR (sqR (sqR mB))))) tM)))):=by kernel_rfl
theorem Zdl:Tryz.f26.body=some mB:=by kernel_rfl
theorem ZcH(xs:Array Value):Frame.enter PP 26 xs .normal=(fF 26).at (fA 21 xs) [.code mB]:=by
 have h:PP.funcs[(26:Nat)]?=some Tryz.f26:=by kernel_rfl
 simp[Frame.enter,Frame.at,h,Zdl,fF,fA,Tryz.ntmps26]
noncomputable abbrev jkM:Jk:={j:=True,rest:=[.code tM],gd:=λf=>gJ f=true}
theorem cm0:ZM PP gJ (λ_ _=>false) true false true false (sqL mB)=true:=by kernel_rfl
theorem cm1:ZM PP gJ (λ_ _=>false) true false true false (sqL (sqR mB))=true:=by kernel_rfl
theorem cm2:ZM PP gJ (λ_ _=>false) true false true false (sqL (sqR (sqR mB)))=true:=by kernel_rfl
theorem cm3:ZM PP gJ (λ_ _=>false) true false true false (sqL (sqR (sqR (sqR mB))))=true:=by kernel_rfl
theorem cm4:ZM PP gJ (λ_ _=>false) true false true false (sqL (sqR (sqR (sqR (sqR mB)))))=true:=by kernel_rfl
noncomputable def mt0(c7 c8 c9 c5:Nat):St:={top:={fn:=26,n:=21,env:=[(7,pt c7),(8,pt c8),(9,pt c9),(5,pt c5)],todo:=[.code tM],defs:=[Z0p c7],kind:=.normal,ret:=false},rest:=[],cvs:=[],mks:=[],deaf:=0}
noncomputable def mt1(c7 c8 c9 c5:Nat):St:=pn PP xtQ 40 (mt0 c7 c8 c9 c5)
noncomputable def mt2(c7 c8 c9 c5:Nat)(b:Value):St:=pn PP xtQ 1 ((mt1 c7 c8 c9 c5).an b)
noncomputable def mt3(c7 c8 c9 c5:Nat)(b y:Value):St:=pn PP xtQ 40 ((mt2 c7 c8 c9 c5 b).an y)
noncomputable def mt4(c7 c8 c9 c5:Nat)(b y:Value):St:=pn PP xtQ 40 ((mt3 c7 c8 c9 c5 b y).an undef)
noncomputable def mt5(c7 c8 c9 c5:Nat)(b y:Value):St:=pn PP xtQ 40 ((mt4 c7 c8 c9 c5 b y).an .nilIface)
section
variable(c7 c8 c9 c5:Nat)(b y:Value)
theorem kM1:(pnq PP xtQ 40 (mt0 c7 c8 c9 c5),(mt1 c7 c8 c9 c5).cvs,(mt1 c7 c8 c9 c5).lod,(mt1 c7 c8 c9 c5).ans b,(mt1 c7 c8 c9 c5).rest)=(true,[],some (85,⟨c8,0,none⟩),some ((mt1 c7 c8 c9 c5).an b),[]):=by kernel_rfl
theorem kM2:(pnq PP xtQ 1 ((mt1 c7 c8 c9 c5).an b),(mt2 c7 c8 c9 c5 b).cvs,(mt2 c7 c8 c9 c5 b).cal PP,(mt2 c7 c8 c9 c5 b).ans y,(mt2 c7 c8 c9 c5 b).rest)=(true,[],some (66,#[b,.func (.func 79) #[] #[pt c8,pt c9,pt c5]]),some ((mt2 c7 c8 c9 c5 b).an y),[]):=by kernel_rfl
theorem kM3:(pnq PP xtQ 40 ((mt2 c7 c8 c9 c5 b).an y),(mt3 c7 c8 c9 c5 b y).cvs,(mt3 c7 c8 c9 c5 b y).sto,(mt3 c7 c8 c9 c5 b y).ans undef,(mt3 c7 c8 c9 c5 b y).rest)=(true,[],some (30,⟨c7,0,none⟩,.int .i64 0),some ((mt3 c7 c8 c9 c5 b y).an undef),[]):=by kernel_rfl
theorem kM4:(pnq PP xtQ 40 ((mt3 c7 c8 c9 c5 b y).an undef),(mt4 c7 c8 c9 c5 b y).cvs,rcvB (mt4 c7 c8 c9 c5 b y),(mt4 c7 c8 c9 c5 b y).ans .nilIface,(mt4 c7 c8 c9 c5 b y).rest.map (·.ret),(mt4 c7 c8 c9 c5 b y).top.kind)=(true,[],true,some ((mt4 c7 c8 c9 c5 b y).an .nilIface),[true],.deferred):=by kernel_rfl
theorem kM5:(pnq PP xtQ 40 ((mt4 c7 c8 c9 c5 b y).an .nilIface),(mt5 c7 c8 c9 c5 b y).cvs,(mt5 c7 c8 c9 c5 b y).top.ret,(mt5 c7 c8 c9 c5 b y).top.defs,(mt5 c7 c8 c9 c5 b y).top.kind,(mt5 c7 c8 c9 c5 b y).top.fn,(mt5 c7 c8 c9 c5 b y).top.env.lookup 6,(mt5 c7 c8 c9 c5 b y).top.env.lookup 7,(mt5 c7 c8 c9 c5 b y).rest)
  = (true,[],true,[],.normal,26,some y,some (pt c7),[]):=by kernel_rfl
end
theorem ZaU[Jk](h:∀x∈xs,VR (idS S) x x): VRs (idS S) xs xs:=
 ⟨rfl,λi a b h1 h2=>by
  rw[h1]at h2;obtain rfl:=Y1 h2;exact h _ (Yk h1)⟩
theorem Zff[Jk]{x:Vm}(H:VatC D S x w){y z:Value}(p1:PV S y)(p2:PV S z): VRs (idS S) #[x.val,y,z] #[x.val,y,z]:=by
 refine ZaU λq hq=>?_;simp only[Yb,Yc,Ya,or_false]at hq
 rcases hq with rfl | rfl | rfl
 ·refine .agg rfl (ZaU (xs:=#[.int .i64 x.B,.slice x.da x.D.length x.dc,.slice x.la x.L.length x.lc,.int .i64 x.tol]) λq hq=>?_).2
  simp only[Yb,Yc,Ya,or_false]at hq
  rcases hq with rfl | rfl | rfl | rfl
  ·exact .int _ _
  ·exact H.da.vr
  ·exact H.la.vr
  ·exact .int _ _
 ·exact p1.vr
 ·exact p2.vr
theorem Zfh{J:Jk}(hg:∀f,J.gd f↔gJ f=true)(hn:∀f,¬J.law f)(hr0:J.rest=[.code tM]): @Todo J PP (J.law 26) (¬J.gd 26) false (idS S) [.code cMat] [.code mB]:=by
 have cj:∀{c:Code},ZM PP gJ (λ_ _=>false) true false true false c=true->Z0I PP (Jk.law 26) (¬Jk.gd 26) false c:=λq=>Zcq hg (λf _=>hn f) (by decide) (hn _) q;have:=Zlz;generalize hq:mB=z at this;refine Todo.cut rfl (λ_=>⟨rfl,rfl⟩) ?_;rw[this,<-hq];exact .seq (cj cm0) (.seq (cj cm1) (.seq (cj cm2) (.seq (cj cm3) (.seq (cj cm4) (.stop hr0)))))
theorem Zi6{y0 y1 y2:Value}: Has 21 [] (fA 21 #[y0,y1,y2]) [(0,y0),(1,y1),(2,y2)]:=by
 refine⟨rfl,by simp[fA],λk u e=>?_⟩;simp only[Yp,List.lookup_nil]at e
 repeat' split at e
 all_goals first | (cases e;done) | (rename_i q;rw[beq_iff_eq]at q;subst q;obtain rfl:=Y1 e;simp[fA])
theorem Zi9:(Qy.F 1)[(26:Nat)]?=PP.funcs[(26:Nat)]?:=Qy.own26.trans (by kernel_rfl)
theorem Zal:PP.funcs[(26:Nat)]?=some Tryz.f26:=by kernel_rfl
theorem ZdM[Jk]{v2: World}(hh:∀b,b<v.heap.size->v2.heap[b]?=v.heap[b]?){xs:List Int}(hx:Z6 v (.slice a n c) 1 (xs.map Z5)): Z6 v2 (.slice a n c) 1 (xs.map Z5):=by
 obtain⟨a4,c4,e4,hl,hc⟩:=hx;refine⟨a4,c4,e4,hl,λhne=>?_⟩;obtain⟨b,off,rfl,hb,hk⟩:=hc hne;have key:∀i j x,(xs.map Z5)[i]?=some x->j<1->v2.cell? ⟨b,off+i*1+j,none⟩=x[j]?:=by
  intro i j x hi hj;rw[<-hk i j x hi hj];unfold World.cell?;rw[hh b hb]
 refine⟨b,off,rfl,?_,key⟩
 cases hq:xs with
 | nil=>rw[hq]at hne;exact absurd rfl hne
 | cons z zs=>exact(Z0B (key 0 0 (Z5 z) (by rw[hq];rfl) (by omega))).1
theorem Zfg{J:Jk}(hj:J.j)(hg:∀f,J.gd f↔gJ f=true)(hn:∀f,¬J.law f)(hr0:J.rest=[.code tM]){x:Vm}(hv:VOk x)(H:VatC D S x w)(hl:RcpOk x l)(hs:Z1U x s)(hr:Z6 w (.slice a1 l.length c1) 1 (l.map Z5))(hr':Z6 w (.slice a2 s.length c2) 1 (s.map Z5))(p1:PV S (.slice a1 l.length c1))(p2:PV S (.slice a2 s.length c2)) (next:∀(S':Nat->Prop) (a:Act) (w':World) (c7 c8 c9 c5:Nat),VatC D S' x w'->PV S' (.slice a2 s.length c2)->a.tmps.size=21->a.tmps[7]?=some (pt c7)->a.tmps[8]?=some (pt c8)->a.tmps[9]?=some (pt c9)->a.tmps[5]?=some (pt c5)->a.defers=[Z0p c7] ->
   S' c7->S' c8->S' c9->S' c5->w'.heap[c7]?=some (.cells #[.int .i64 0] 30 (0,0))->w'.heap[c8]?=some (.cells #[.int .i64 x.B,.slice x.da x.D.length x.dc,.slice x.la x.L.length x.lc,.int .i64 x.tol] 85 (0,0)) ->
   w'.heap[c9]?=some (.cells (tubC (val l)) 88 (0,0))->w'.heap[c5]?=some (.cells #[.slice a2 s.length c2] 22 (0,0))->(∀b,b<w.heap.size->w'.heap[b]?=w.heap[b]?)->w.heap.size<=w'.heap.size->w'.os=w.os->w'.output=w.output->Sure PP Post D (run1 ((fF 26).at a [.code tM]) cs) w'):
  Sure PP Post D (run1 (Frame.enter PP 26 #[x.val,.slice a1 l.length c1,.slice a2 s.length c2] .normal) cs) w:=by
 rw[ZcH];refine Zd0 hj hg hn H.blk H.off H.low Zi9 (Zff H p1 p2) (Zfh hg hn hr0) (Z:=λv=>MaA x (val l) s a2 c2 v (fF 26)) (λv hsh T=>?_) λv f' v' r' g' w' T1 T2 hsh hq hf hw' hi ho hsn=>?_
 ·exact Zkb x hv l s hl hs a1 a2 c1 c2 (re v T) (Z2j (v:=v) (v2:=re v T) (λb _=>rfl) (H.shadow (λ_ _=>rfl) hsh)) (@Z5e jkN _ _ _ _ (λ_ _=>rfl) hsh _ _ _ _ p1 hr) (@Z5e jkN _ _ _ _ (λ_ _=>rfl) hsh _ _ _ _ p2 hr') _ _ Zi6
 obtain⟨a,n7,n8,n9,n5,rfl,F,q7,q8,q9,q5,-,-,-,-,-,-,-,E⟩:=hq.ex;obtain⟨gfn,gt,gtodo,gdef,gmode,gkind,gound⟩:=g';obtain⟨f1,_,f3,f4,f5,f6,f7,f8⟩:=hf;have e1:gtodo=[.code tM]:=by
  have f4:Todo _ _ _ _ _ [.code (.refuse "")] gtodo:=f4
  cases f4 with
  | cons x y =>
   cases x with
   | code hc=>exact hc.elim
  | tail=>exact hr0
  | cut _ _ h =>
   cases h with
   | stop h=>rw[<-h,hr0]
 have e2:gmode = .run:=by cases f6;rfl
 have e3:gound=none:=by cases f8;rfl
 obtain⟨f7,_⟩:=f7;obtain⟨f5,_⟩:=f5;dsimp only[Frame.at,fF]at f1 f3 f5 f7;subst e1 e2 e3 f1 f7;have slot:∀k n,k<21->a.tmps.getD k undef=pt n->r' n=some n/\gt[k]?=some (pt n):=by
  intro k n hk e;have h2:k<a.tmps.size:=by rw[F.sz];exact hk
  have h3:k<gt.size:=by rw[<-f3.1];exact h2
  have:=f3.2 k _ _ (Y2 h2) (Y2 h3);rw[Y6,Y2 h2]at e;simp only[Option.getD_some]at e;rw[e]at this;rw[Y2 h3];generalize gt[k]=z at this
  cases this with
  | ptr q =>
   cases q with
   | mk q =>
    obtain rfl:=hi _ _ q;exact⟨q,rfl⟩
 obtain⟨s7,g7⟩:=slot 7 n7 (by decide) (F.get 7 _ rfl);obtain⟨s8,g8⟩:=slot 8 n8 (by decide) (F.get 8 _ rfl);obtain⟨s9,g9⟩:=slot 9 n9 (by decide) (F.get 9 _ rfl);obtain⟨s5,g5⟩:=slot 5 n5 (by decide) (F.get 5 _ rfl);have k7:=Zx (S:=S) hi hw' ⟨_,s7⟩ q7 (by simp) (by simp[PF1,PV]);have k8:=Zx (S:=S) hi hw' ⟨_,s8⟩ q8 (by simp) (by
  intro y hy;simp only[Yb,Yc,Ya,or_false]at hy
  rcases hy with rfl | rfl | rfl | rfl
  ·exact .inl trivial
  ·exact .inl H.da
  ·exact .inl H.la
  ·exact .inl trivial)
 have k9:=Zx (S:=S) hi hw' ⟨_,s9⟩ q9 (by simp[tubC]) (by
  intro y hy;simp only[tubC,Yb,Yc,Ya,or_false]at hy
  rcases hy with rfl | rfl | rfl | rfl<;>exact .inl trivial)
 have k5:=Zx (S:=S) hi hw' ⟨_,s5⟩ q5 (by simp) (by
  intro y hy;obtain rfl:=List.mem_singleton.1 (by simpa using hy);exact .inl p2)
 have hd:gdef=[Z0p n7]:=by
  have hds:a.defers=[Z0p n7]:=F.ds;rw[hds]at f5
  cases f5 with
  | cons d t =>
   cases t
   obtain⟨d1,d2⟩:=d;rename_i d0;obtain⟨dt,da⟩:=d0;dsimp only[Z0p]at d1 d2;obtain⟨y,rfl,hy⟩:=arr1 d2
   cases d1 with
   | fn hf q =>
    cases hf
    have:_=(#[]:Array Value):=Array.eq_empty_of_size_eq_zero q.1.symm;subst this
    cases hy with
    | ptr z =>
     cases z with
     | mk z =>
      obtain rfl:=hi _ _ z
      rfl
 have hin:∀b,S b->(S b\/b=n7\/b=n8\/b=n9\/b=n5):=λb h=>.inl h;refine next (λb=>S b\/b=n7\/b=n8\/b=n9\/b=n5) ⟨gt,gdef⟩ w' n7 n8 n9 n5 ⟨λb hb=>?_,λb hb hD=>?_,ho.low,H.da.imp hin,H.la.imp hin,λp hp=>(H.dp p hp).imp hin,λp hp=>(H.lp p hp).imp hin,Z2j (v:=w) hsn.old H.at_⟩ (p2.imp hin) (by show gt.size=21;rw[<-f3.1];exact F.sz) g7 g8 g9 g5 hd (.inr (.inl rfl)) (.inr (.inr (.inl rfl))) (.inr (.inr (.inr (.inl rfl)))) (.inr (.inr (.inr (.inr rfl)))) k7 k8 k9 k5 hsn.old hsn.size hsn.os hsn.out
 ·rcases hb with h | rfl | rfl | rfl | rfl
  ·obtain⟨cs0,e0,fz0,h0⟩:=H.blk b h
   exact⟨cs0,e0,fz0,by rw[hsn.old b (Y0.1 h0).1];exact h0⟩
  ·exact⟨_,_,_,k7⟩
  ·exact⟨_,_,_,k8⟩
  ·exact⟨_,_,_,k9⟩
  ·exact⟨_,_,_,k5⟩
 ·rcases hb with h | rfl | rfl | rfl | rfl
  ·exact H.off b h hD
  ·exact ho.names _ _ s7 hD
  ·exact ho.names _ _ s8 hD
  ·exact ho.names _ _ s9 hD
  ·exact ho.names _ _ s5 hD
def matB(x:Vm)(f s:Nat->Int)(k:Nat):Bool:=decide (k<x.L.length)&&matE x f s [((k:Nat):Int)]
theorem Zke{c7 c8 c9 c5:Nat}{a:Act}(hsz:a.tmps.size=21)(g7:a.tmps[7]?=some (pt c7))(g8:a.tmps[8]?=some (pt c8))(g9:a.tmps[9]?=some (pt c9))(g5:a.tmps[5]?=some (pt c5))(hd:a.defers=[Z0p c7]):
  SOk (mt0 c7 c8 c9 c5).top (mt0 c7 c8 c9 c5).rest ((fF 26).at a [.code tM]) []:=by
 refine⟨⟨rfl,hsz,λt u e=>?_,rfl,hd,rfl,rfl,rfl⟩,.nil⟩;have e:[(7,pt c7),(8,pt c8),(9,pt c9),(5,pt c5)].lookup t=some u:=e;show a.tmps[t]?=some u;simp only[Yp,List.lookup_nil]at e
 repeat' split at e
 all_goals first | (cases e;done) | (rename_i q;rw[beq_iff_eq]at q;subst q;obtain rfl:=Y1 e;assumption)
theorem Zia:Tryz.f26.results=#[.tmp 6,.cell 7 30]:=by kernel_rfl
theorem Z9b{x:Vm}(hv:VOk x)(H0:VatC D S x w)(hl:RcpOk x l)(hs:Z1U x s)(hr:Z6 w (.slice a1 l.length c1) 1 (l.map Z5))(hr':Z6 w (.slice a2 s.length c2) 1 (s.map Z5))(r1:PV S (.slice a1 l.length c1))(r2:PV S (.slice a2 s.length c2)){c:Frame}(ret:∀w' y Mu Wg,UnE (ZY x.L.length (matB x (val l) (val s))) w w' y Mu Wg->Sure PP Post (λc=>D c\/c=Mu\/c=Wg) (run1 (c.finish (.tuple #[y,.int .i64 0])) cs) w'):
  Sure PP Post D (run1 (Frame.enter PP 26 #[x.val,.slice a1 l.length c1,.slice a2 s.length c2] .normal) (c::cs)) w:=by
 letI:Jk:=jkM;refine Zfg (J:=jkM) trivial (λf=>Iff.rfl) (λf h=>h) rfl hv H0 hl hs hr hr' r1 r2 λS a w' c7 c8 c9 c5 H ps hsz g7 g8 g9 g5 hd s7 s8 s9 s5 q7 q8 q9 q5 hold hsz' hos' hout'=>?_;have k0:=Zke hsz g7 g8 g9 g5 hd;have hrw:Z6 w' (.slice a2 s.length c2) 1 (s.map Z5):=ZdM hold hr';have b7:c7<w'.heap.size:=(Y0.1 q7).1;obtain⟨B,hB⟩:∃B:Value,B = .agg #[.int .i64 x.B,.slice x.da x.D.length x.dc,.slice x.la x.L.length x.lc,.int .i64 x.tol]:=⟨_,rfl⟩;obtain⟨p1,p2,p3,p4,p5⟩:=by simpa only[Y9] using kM1 c7 c8 c9 c5 B
 refine Sure.pn (cs:=c::cs) xokQ 40 (mt0 c7 c8 c9 c5) k0 p1 p2 λf1 fs1 k1=>?_;obtain rfl:=Z2p k1.2 p5;refine Sure.agl (s:=mt1 c7 c8 c9 c5) k1 p3 q8 Tryz.underlying85 rfl Z7R (by rw[<-hB];exact p4) (H.off _ s8) λf2 k2=>?_;obtain⟨p1,p2,p3,p4,p5⟩:=by simpa only[Y9] using kM2 c7 c8 c9 c5 B undef
 refine Sure.pn (cs:=c::cs) xokQ 1 _ k2 p1 p2 λf3 fs3 k3=>?_;obtain rfl:=Z2p k3.2 p5;refine Sure.cal (s:=mt2 c7 c8 c9 c5 B) k3 p3 ?_;rw[hB];refine Z8A (x:=x) (S:=S) (ys:=#[pt c8,pt c9,pt c5]) (β:=matB x (val l) (val s)) (c:=f3) hv.l1 hv.l3 (.inl rfl) H.blk H.off H.low H.da H.la ?_ ?_ ?_ ?_
 ·intro y hy
  simp only[Yb,Yc,Ya,or_false]at hy
  rcases hy with rfl | rfl | rfl
  ·exact s8
  ·exact s9
  ·exact s5
 ·intro k hk
  have:¬k<x.L.length:=by omega
  simp[matB,this]
 ·intro w1 v1 hw1 sh k hk
  have hat:x.At v1:=H.shadow hw1 sh;have h8:=@Z5L jkN _ _ _ _ hw1 sh _ s8 _ _ _ q8 (by
   intro y hy;simp only[Yb,Yc,Ya,or_false]at hy
   rcases hy with rfl | rfl | rfl | rfl
   ·trivial
   ·exact H.da
   ·exact H.la
   ·trivial)
  have h9:=@Z5L jkN _ _ _ _ hw1 sh _ s9 _ _ _ q9 (by
   intro y hy;simp only[tubC,Yb,Yc,Ya,or_false]at hy
   rcases hy with rfl | rfl | rfl | rfl<;>trivial)
  have h5:=@Z5L jkN _ _ _ _ hw1 sh _ s5 _ _ _ q5 (by
   intro y hy;obtain rfl:=List.mem_singleton.1 (by simpa using hy);exact ps)
  have hc:=Z7Q (μ:=2) x hv k hk (val l) (hl.tub) s hs a2 c2 c8 c9 c5 _ _ _ _ _ _ v1 hat (@Z5e jkN _ _ _ _ hw1 sh _ _ _ _ ps hrw) h8 h9 h5;have hk2:k<x.L.length:=by omega
  have e:matB x (val l) (val s) k=matE x (val l) (val s) [((k:Nat):Int)]:=by
   simp[matB,hk2]
  rw[e];exact hc.mono λ_ _ q=>q.1
 ·intro w3 y Mu Wg U
  obtain⟨_,_,p3',p4',_⟩:=by simpa only[Y9] using kM2 c7 c8 c9 c5 B y
  have k4:=Zch k3 p3' p4';obtain⟨p1,p2,p3,p4,p5⟩:=by simpa only[Y9] using kM3 c7 c8 c9 c5 B y
  refine Sure.pn (cs:=c::cs) xokQ 40 _ k4 p1 p2 λf5 fs5 k5=>?_;obtain rfl:=Z2p k5.2 p5;have q7':w3.heap[c7]?=some (.cells #[.int .i64 0] 30 (0,0)):=by rw[U.old c7 b7];exact q7
  have hD7:¬(D c7\/c7=Mu\/c7=Wg):=by
   have m1:=U.mu.1;have m2:=U.wg.1;rintro (q | q | q)
   ·exact H.off _ s7 q
   ·omega
   ·omega
  refine Sure.sto (s:=mt3 c7 c8 c9 c5 B y) k5 p3 Z9U rfl rfl ((Z0 q7' 0).trans rfl) (Za q7' 0) p4 hD7 λf6 k6=>?_;have hset:=Zaz (x:=.int .i64 0) q7';obtain⟨w4,hw4⟩:∃w4,w4=w3.setCell ⟨c7,0,none⟩ (.int .i64 0):=⟨_,rfl⟩;have hs4:w4.heap.size=w3.heap.size:=by rw[hw4];simp[World.setCell]
  have ho4:w4.os=w3.os:=by rw[hw4];rfl
  have hu4:w4.output=w3.output:=by rw[hw4];rfl
  rw[<-hw4]at hset⊢;obtain⟨p1,p2,p3,p4,p5,p6⟩:=by simpa only[Y9] using kM4 c7 c8 c9 c5 B y
  refine Sure.pn (cs:=c::cs) xokQ 40 _ k6 p1 p2 λf7 fs7 k7=>?_;obtain⟨g,rfl,hg⟩:=Zdh k7.2 p5;refine Sure.rcv (s:=mt4 c7 c8 c9 c5 B y) k7 p3 (ZaP (k7.1.kind.trans p6) hg) p4 λf8 k8=>?_;obtain⟨p1,p2,p3,p4,p5,p6,p7,p8,p9⟩:=by simpa only[Y9] using kM5 c7 c8 c9 c5 B y
  refine Sure.pn (cs:=c::cs) xokQ 40 _ k8 p1 p2 λf9 fs9 k9=>?_;obtain rfl:=Z2p k9.2 p9;refine Sure.lv2 (a:=(mt5 c7 c8 c9 c5 B y).top) k9.1 p3 p4 p5 (by rw[p6];exact Zal) Zia p7 p8 ZcK ((Z0 ((hset c7).trans q7') 0).trans rfl) hD7 ?_;exact ret w4 y Mu Wg (ZaR hold hsz' hos' hout' U hset hs4 ho4 hu4)
end Lift
section
open Go.RowKit Ev
variable{μ:Nat}
theorem Zib(x:Vm)(hv:VOk x)(l s:List Int)(hl:RcpOk x l)(hs:Z1U x s)(a1 a2:Option Addr)(c1 c2:Nat)(w:World)(h:x.At w)(hr:Z6 w (.slice a1 l.length c1) 1 (l.map Z5))(hr':Z6 w (.slice a2 s.length c2) 1 (s.map Z5)):
  Calls (Qy.prog 0) 185 #[.agg #[.int .i64 x.B,.slice x.da x.D.length x.dc,.slice x.la x.L.length x.lc,.int .i64 x.tol],.slice a1 l.length c1,.slice a2 s.length c2] w λe w'=>∃y,e = .returned (.tuple #[y,.int .i64 0])/\IntR w.heap.size w' (ZY x.L.length λk=>matE x (val l) (val s) [((k:Nat):Int)]) y/\Ext [] w w':=by
 have E:Ext [] w w:=Ext.refl _ _;have HX:=Lib.hid h;have HV:=Lib.hid hv;have HR:=Lib.hid hr;have HR':=Lib.hid hr';have HL:=Lib.hid hl;have HS:=Lib.hid hs;have hl3:=hv.l3;clear h hv hr hr' hl hs;have G:=(Bk.nil w).ce E;refine(entM 21 Tryz.f26 rfl) λF=>wR λk1=>(F.bx G) λyy F G=>(F.bx G) @λn5 w2 _ yy F G=>(F.m) λF=>(F.al G Qy.zeroValue30) @λn7 w3 _ yy F G=>k1<|wR λk2=>(F.df) λF=>k2<|wR λk3=>(F.y (F.lb (G.q 2))) λF=>(F.k0 G (Z0A (μ:=0) x HV.out _ (HX.out.ext (G.e 3)))) λF G=>(F.al G Qy.zeroValue85) @λn8 w5 _ yy F G=>(F.sr G 0) λG=>k3<|wQ λk4=>Yg ?_
 refine(F.y (F.lb (G.q 0))) λF=>(F.m) λF=>(F.k (Z9 (μ:=0) x HV.out l HL.out a1 c1 _ (HR.out.ext (G.e 4) (by simp)))) ?_;rintro _ w7 ⟨rfl,e9⟩;refine⟨_,rfl,λF=>?_⟩;replace G:=G.ex e9;unfold tubC at F;refine(F.al G Qy.zeroValue88) @λn9 w8 _ yy F G=>(F.sr G 0) λG=>k4<|wR λk5=>(F.y (F.lb (G.q 1))) λF=>(F.y (F.lc (G.q 3))) λF=>(F.k0 G (Z2u (μ:=0) x HV.out s HS.out a2 c2 _ (HR'.out.ext (G.e 5) (by simp)))) @λw10 _ F G=>k5<|wR λk6=>(F.y (F.lb (G.q 1))) λF=>(F.y F.mf) λF=>?_
 obtain⟨B0,hB0⟩:∃B0,B0=w10.heap.size:=⟨_,rfl⟩;have hb7:n7<B0:=by rw[hB0];exact Z3 (G.q 2)
 have hEs:w.heap.size<=B0:=by rw[hB0];exact(G.e 5).size
 have hask:∀k,k<x.L.length->∀W,Ext [] w10 W->Calls (Qy.prog 0) 79 (#[]++[.int .i64 ((k:Nat):Int)].toArray++#[.pointer (some ⟨n8,0,none⟩),.pointer (some ⟨n9,0,none⟩),.pointer (some ⟨n5,0,none⟩)]) W λe w'=>e = .returned (.bool (matE x (val l) (val s) [((k:Nat):Int)]))/\Ext [] W w':=λk hk W eW=>Z7Q (μ:=0) x HV.out k hk (val l) HL.out.tub s HS.out a2 c2 n8 n9 n5 _ _ _ _ _ _ W ((HX.out.ext (G.e 5)).ext eW) ((HR'.out.ext (G.e 5) (by simp)).ext eW (by simp)) (eW.keep0 (G.q 1)) (eW.keep0 (G.q 0)) (eW.keep0 (G.q 3));refine(F.k (ZaS x hl3 79 #[.pointer (some ⟨n8,0,none⟩),.pointer (some ⟨n9,0,none⟩),.pointer (some ⟨n5,0,none⟩)] (λk=>matE x (val l) (val s) [((k:Nat):Int)]) Qy.call79 _ hask)) ?_;rintro _ w11 ⟨y,rfl,hI,e9⟩;refine⟨_,rfl,λF=>?_⟩;replace G:=G.ex e9;clear hask;rw[<-hB0]at hI;replace G:=G.hr [n7];refine(F.m) λF=>(F.st G 3) λG=>k6<|wp_ret ?_
 (try simp only[Exit.inBlock,Exit.then,reduceIte])
 refine Z40 F<|ZT<|Z1I (Z7l F rfl rfl rfl Qy.underlying30 rfl (G.q 3)) ?_
 exact⟨y,rfl,Z4z hI (G.e 0) (by simp;omega) hEs,(G.e 6)⟩
theorem Qy.ntmps188:Qy.f188.ntmps=13:=rfl
theorem Zec(y0 y1 y2:Value)(w:World)(hb:∀d,7<(Question.appendCap 7 0 3).cut (w.tape d (.appendCap 7 0 3))):Calls (Qy.prog 0) 26 #[y0,y1,y2] w λe w'=>e = .panicked [bunV 26 #[y0,y1,y2]]/\Ext [] w w':=by
 have E:Ext [] w w:=Ext.refl _ _;refine ZO 13 Qy.func26 rfl Qy.ntmps188 (Nat.le_of_ble_eq_true rfl) ?_;intro fa F;refine wS λK1 hK1=>?_;refine Yg ?_;refine sqN F (Zz rfl pr0 Qy.underlying22 (size:=1) (by kernel_rfl) (by decide) (by decide) Qy.zeroValue3 (cells:=#[.int .i64 0,.int .i64 0,.int .i64 0,.int .i64 0,.int .i64 0,.int .i64 0,.int .i64 0]) (by kernel_rfl)) λfa w1 F hw=>?_;obtain⟨n3,hn⟩:=eQ w.heap.size;rw[<-hn]at F;have s3:=sQ hn;have l3_E:=lQ hn E.size;replace E:=Z8 E hw;have q3:=ZD hw hn;clear hw hn;have htp:=E.tape;refine Zw F rfl (by decide) rfl (Z6m rfl Qy.underlying22 (by kernel_rfl) (F.at rfl) q3 (by decide) (by decide) (by decide)) ?_;clear F fa;rintro fa v' w2 F ⟨⟨b4,K,rfl,d4,hK⟩,e9⟩;replace q3:=(e9).keep0 q3;replace E:=Zg E (e9);rw[htp]at hK;have hb1:=hb d4;rw[<-hK]at hb1;refine F.vl ((Zes rfl (F.at rfl) Qy.underlying22)) λfa F=>?_;refine F.vl (Z9J (b:=true) rfl (ev_c fa _) (F.at rfl) (decide_eq_true ((by omega)))) λfa F=>?_;refine wN<|hK1 _ _<|wS λK2 hK2=>?_
 refine cd_T F rfl ?_;refine Yg ?_;refine F.vl (Z0U rfl (Z39 (mpS (F.at rfl) (mpS (F.at rfl) (mpS (F.at rfl) mp0)))) (Z39 mp0)) λfa F=>?_;refine F.vl ((Z2A rfl (F.at rfl) Zg2 (by intro m e;cases e))) λfa F=>?_;refine Z4F rfl (Z6q rfl (F.at rfl)) ?_
 (try simp only[Exit.inBlock,Exit.then,Exit.jump,reduceIte])
 refine⟨F.ds,?_⟩;exact⟨rfl,E⟩
theorem ZfX(x:Vm)(l s L:List Int)(er:Int)(hml:L.length<=1000)(a1 a2:Option Addr)(c1 c2:Nat)(w:World)
  (hseq:∀W,Ext [] w W->Calls (Qy.prog 0) 185 #[.agg #[.int .i64 x.B,.slice x.da x.D.length x.dc,.slice x.la x.L.length x.lc,.int .i64 x.tol],.slice a1 l.length c1,.slice a2 s.length c2] W λe w'=>∃y,e = .returned (.tuple #[y,.int .i64 er])/\IntR W.heap.size w' L y/\Ext [] W w') :
  Calls (Qy.prog 0) 26 #[.agg #[.int .i64 x.B,.slice x.da x.D.length x.dc,.slice x.la x.L.length x.lc,.int .i64 x.tol],.slice a1 l.length c1,.slice a2 s.length c2] w λe w' =>
   ((e = .panicked [bunV 26 #[.agg #[.int .i64 x.B,.slice x.da x.D.length x.dc,.slice x.la x.L.length x.lc,.int .i64 x.tol],.slice a1 l.length c1,.slice a2 s.length c2]]/\∃d,7<(Question.appendCap 7 0 3).cut (w.tape d (.appendCap 7 0 3)))/\Ext [] w w') \/
   ∃y,e = .returned (.tuple #[y,.int .i64 er])/\IntR w.heap.size w' L y/\Z7J w y/\Ext [] w w':=by
 have E:Ext [] w w:=Ext.refl _ _;have HQ:=Lib.hid hseq;clear hseq;refine ZO 13 Qy.func26 rfl Qy.ntmps188 (Nat.le_of_ble_eq_true rfl) ?_;intro fa F;refine wS λK1 hK1=>?_;refine Yg ?_;refine sqN F (Zz rfl pr0 Qy.underlying22 (size:=1) (by kernel_rfl) (by decide) (by decide) Qy.zeroValue3 (cells:=#[.int .i64 0,.int .i64 0,.int .i64 0,.int .i64 0,.int .i64 0,.int .i64 0,.int .i64 0]) (by kernel_rfl)) λfa w1 F hw=>?_;obtain⟨n3,hn⟩:=eQ w.heap.size;rw[<-hn]at F;have s3:=sQ hn;have l3_E:=lQ hn E.size;replace E:=Z8 E hw;have q3:=ZD hw hn;clear hw hn;have htp:=E.tape;refine Zw F rfl (by decide) rfl (Z6m rfl Qy.underlying22 (by kernel_rfl) (F.at rfl) q3 (by decide) (by decide) (by decide)) ?_;clear F fa;rintro fa v' w2 F ⟨⟨b4,K,rfl,d4,hK⟩,e9⟩;replace q3:=(e9).keep0 q3;replace E:=Zg E (e9);rw[htp]at hK;refine F.vl ((Zes rfl (F.at rfl) Qy.underlying22)) λfa F=>?_;refine F.vl (Z6p rfl (ev_c fa _) (F.at rfl)) λfa F=>?_;refine wN<|hK1 _ _<|wS λK2 hK2=>?_
 refine Zb9 F rfl (λhc6=>?_) (λhc6=>?_)
 ·skip
  refine Yg ?_;refine F.vl (Z0U rfl (Z39 (mpS (F.at rfl) (mpS (F.at rfl) (mpS (F.at rfl) mp0)))) (Z39 mp0)) λfa F=>?_;refine F.vl ((Z2A rfl (F.at rfl) Zg2 (by intro m e;cases e))) λfa F=>?_;refine Z4F rfl (Z6q rfl (F.at rfl)) ?_
  (try simp only[Exit.inBlock,Exit.then,Exit.jump,reduceIte])
  refine⟨F.ds,?_⟩;exact .inl ⟨⟨rfl,d4,by rw[<-hK];exact Int.ofNat_lt.1 (by simpa using hc6)⟩,E⟩
 ·skip
  refine Yi ?_;refine hK2 _ _<|wS λK3 hK3=>?_
  refine Yg ?_;refine sqC F (Z00 rfl rfl Qy.call185 (mpS (F.at rfl) (mpS (F.at rfl) (mpS (F.at rfl) mp0)))) (HQ.out _ E) λe w3 hR=>?_;obtain⟨y,rfl,hI,e9⟩:=hR;refine⟨_,rfl,λfa F=>?_⟩;replace q3:=(e9).keep0 q3;replace E:=Zg E (e9);clear e9;refine F.vl (Z2h rfl (F.at rfl) (get0)) λfa F=>?_;refine F.vl (Z2h rfl (F.at rfl) (getS (get0))) λfa F=>?_;have hEs:=E.size;have htp:=E.tape;refine Zw F rfl (by decide) rfl (Z9E rfl Qy.underlying22 (by kernel_rfl) (F.at rfl) hI hml) ?_;clear F fa;rintro fa v' w4 F ⟨hI2,e9,hC⟩;replace q3:=(e9).keep0 q3;replace E:=Zg E (e9);refine wN<|hK3 _ _ ?_
  refine wp_ret ?_
  (try simp only[Exit.inBlock,Exit.then,reduceIte])
  refine rt_v F (rs_2 F rfl rfl rfl) ?_;exact .inr ⟨_,rfl,Z4z hI2 (Ext.refl [] _) (by simp) (by omega),(by unfold Z7J at hC⊢;rw[htp]at hC;exact hC),E⟩
end
namespace Lift
open Go Go.Conc Go.RowKit Ev
open Go.ConcM (OsLater)
abbrev jkV(TG:FuncId->Prop):Jk:={j:=True,rest:=[],gd:=λf=>gJ f=true,law:=λf=>f=lawF,jmp:=λf=>TG f\/f=19,ar:=λf=>if f=19 then 0 else 3}
theorem ZkM(TG:FuncId->Prop):@Strip (jkV TG) PP (Qy.F 0) (@CodeOk (jkV TG) PP false) (λf=>gJ f=true):=strip_J (J:=jkV TG) trivial (λ_=>Iff.rfl) lawJ 0
theorem gokV(TG:FuncId->Prop):@GOk (jkV TG) PP (Qy.F 0) (λf=>gJ f=true):=ZhC (J:=jkV TG) (λ_=>Iff.rfl) lawJ 0
structure CoA(D:Nat->Prop)(L:List Int)(w w':World)(y:Value)(D':Nat->Prop):Prop where
 lst:IntR w.heap.size w' L y
 old:∀b,b<w.heap.size->w'.heap[b]?=w.heap[b]?
 size:w.heap.size<=w'.heap.size
 os:OsLater w.os w'.os
 out:w'.output=w.output
 dis:∀c,D' c->D c\/w.heap.size<=c
 low:∀c,D' c->c<w'.heap.size
 ne:∀g n c,y = .slice (some ⟨g,0,none⟩) n c->w.heap.size<=g->¬D' g
def CoT(TG:FuncId->Prop)(t:FuncId)(Pre:Array Value->World->Prop):Prop:=∀{D:Nat->Prop} {r:Ren} {v w u:World} {xs zs:Array Value},Pre xs u->(∀b,b<v.heap.size->u.heap[b]?=v.heap[b]?) -> @WH (jkV TG) (@Iv (jkV TG) PP (Qy.F 0)) r v w->Off D r w -> @VRs (jkV TG) r xs zs ->
 ∃(L:List Int) (er:Int),L.length<=6 /\
  (∀tp,Calls (Qy.prog 0) t xs (re v tp) λe u=>((e = .panicked [bunV t xs]/\∃d,7<(Question.appendCap 7 0 3).cut (tp d (.appendCap 7 0 3)))/\Ext [] (re v tp) u)\/∃y,e = .returned (.tuple #[y,.int .i64 er])/\IntR v.heap.size u L y/\Z7J (re v tp) y/\Ext [] (re v tp) u) /\
  ∀{Post:Value->World->Prop} {c:Frame} {cs:List Frame},(∀w' y D',CoA D L w w' y D'->Sure PP Post D' (run1 (c.finish (.tuple #[y,.int .i64 er])) cs) w')->Sure PP Post D (run1 (Frame.enter PP t zs .normal) (c::cs)) w
theorem Zgl{L:List Int}{y:Value}{Mu Wg:Nat}(hD:∀c,D c->c<w.heap.size)(U:UnE L w w' y Mu Wg): CoA D L w w' y λc=>D c\/c=Mu\/c=Wg:=
 ⟨U.lst,U.old,U.size,U.os,U.out,λc h=>by
  have m1:=U.mu.1;have m2:=U.wg.1
  rcases h with h | rfl | rfl
  ·exact .inl h
  ·exact .inr m1
  ·exact .inr m2,λc h=>by
  have m1:=U.mu.2;have m2:=U.wg.2
  rcases h with h | rfl | rfl
  ·exact Y8 (hD c h) U.size
  ·exact m1
  ·exact m2,λg n c e hg h=>by
  have:=U.ne g n c e
  rcases h with h | h | h
  ·have:=hD g h;omega
  ·exact this.1 h
  ·exact this.2 h⟩
theorem Zf5 (TG:FuncId->Prop) {t:FuncId} {Pre:Array Value->World->Prop} (hgS:gS t=true) (hbT:∀(y0 y1 y2:Value) (w:World),(∀d,7<(Question.appendCap 7 0 3).cut (w.tape d (.appendCap 7 0 3)))->Calls (Qy.prog 0) t #[y0,y1,y2] w λe w'=>e = .panicked [bunV t #[y0,y1,y2]]/\Ext [] w w') (hco:CoT TG t Pre) {fn:Func} {bd:Code} (hfn:PP.funcs[t]?=some fn) (hbd:fn.body=some bd) (hnm:(fn.name == "runtime.NumGoroutine")=false) {R:Ending->World->Prop} {r:Ren} {f g:Frame} (hR:∀xs u,R (.panicked [bunV t xs]) u->Pre xs u) (hs:@Stk (jkV TG) PP (Qy.F 0) r [f] [g]) (hw:@WH (jkV TG) (@Iv (jkV TG) PP (Qy.F 0)) r v w) (ho:Off D r w) (hI:@Self jk0 (Qy.prog 0) (Qy.F 0) [f,poison] v) (hlaw:f.fn=lawF) (hrun:f.mode = .run) {c:Call} (hat:AtCall f t c) (hrd:∀x∈c.args,∃t,x = .tmp t) (h3:c.args.size=3) (hE:Ends (Qy.prog 0) (Done PP (Qy.F 0) lawF R) [f,poison] v) (k:∀x y r' v' w' D',Z5I (Qy.prog 0) (Done PP (Qy.F 0) lawF R) f [poison] v [f.finish x,poison] v' -> @Self jk0 (Qy.prog 0) (Qy.F 0) [f.finish x,poison] v' -> @Stk (jkV TG) PP (Qy.F 0) r' [f] [g] -> @VR (jkV TG) r' x y -> @WH (jkV TG) (@Iv (jkV TG) PP (Qy.F 0)) r' v' w'->Off D' r' w'->KeptW v v' w w' r r'->Sure PP Post D' (run1 (g.finish y) cs) w'): Sure PP Post D (run1 g cs) w:=by
 letI:Jk:=jkV TG;have hP:∀x u,¬Done PP (Qy.F 0) lawF R [x] u:=Z3n;have hSt:∀V u,Done PP (Qy.F 0) lawF R V u->V.length=2:=by
  rintro V u ⟨T,e,fr,rfl,_⟩
  rfl
 have hf:=(@Stk.uncons (jkV TG) _ _ _ _ _ _ _ hs).1;have hdf:f.defers=[]:=(@FrR.defers (jkV TG) _ _ _ _ _ hf).2 hlaw;have hIs:=hI;obtain⟨f0,A,r0,hV,hi0,hs0,hw0⟩:=hI;simp only[List.cons.injEq]at hV;obtain⟨rfl,hA⟩:=hV;have hA:A=[]:=by
  cases A with
  | nil=>rfl
  | cons a tl=>have:=congrArg List.length hA;simp at this
 subst hA;have hnp:¬Done PP (Qy.F 0) lawF R [f,poison] v:=by
  rintro⟨T,e,fr,q1,q2,q3,q4,q5⟩;simp only[List.cons.injEq]at q1;obtain⟨rfl,_⟩:=q1
  cases e with
  | returned x=>have:=q3.1;rw[hrun]at this;cases this
  | panicked ch=>have:=q3.1;rw[hrun]at this;cases this
  | outgrown=>exact q5 rfl
 have hrd0:∀x∈c.args,@RdOk jk0 x:=λx hx=>by
  obtain⟨t,rfl⟩:=hrd x hx;trivial
 obtain⟨y0,y1,y2,hargs⟩:=ZlS (xs:=c.args.map f.eval) (by simp[h3])
 -- the bad tape
 have hbad:Calls (Qy.prog 0) t (c.args.map f.eval) (re v λ_ _=>1) (λe u=>e = .panicked [bunV t #[y0,y1,y2]]/\Ext [] (re v λ_ _=>1) u):=by
  rw[hargs];exact hbT y0 y1 y2 _ λd=>by show 7<7+1 % (2 ^ 63-7);decide
 obtain⟨e,v1,u1,r1,he,hi1,hw1,hk1,hcase⟩:=@Z6M jk0 (Qy.prog 0) (Qy.F 0) _ r0 v _ hQ0 Z2W gokS recS hSt f t c hs0 hw0 hi0 hat hgS hrd0 (λ_ _=>1) _ (λu q=>by cases q.1) hbad;obtain⟨rfl,hE1⟩:=he
 rcases hcase with⟨x,y,q,_⟩ | ⟨ch,ch',q,hpr,hreach⟩
 ·cases q
 obtain rfl:=Ending.panicked.inj q;have hch:ch'=[bunV t #[y0,y1,y2]]:=by
  cases hpr with
  | cons a t =>
   cases t
   obtain⟨a1,a2,a3⟩:=a;rename_i z;obtain⟨zv,zr,zg⟩:=z;have:=@VR.id jk0 _ id hi1 _ _ a1;dsimp only[bunV]at this a2 a3;subst this a2 a3
   rfl
 subst hch;have hr1:=Z2r hnp hreach;have hE2:=hE.reach hr1;have hS2:=@Z41 jk0 _ _ _ _ _ _ _ _ hQ0 Z2W gokS recS hP hr1 hE hIs;have hmr:(f.raise [bunV t #[y0,y1,y2]]).mode = .panicking [bunV t #[y0,y1,y2]]:=by
  unfold Frame.raise;rw[hrun]
 have hdr:(f.raise [bunV t #[y0,y1,y2]]).defers=[]:=by
  unfold Frame.raise;rw[hrun];exact hdf
 have hfr:(f.raise [bunV t #[y0,y1,y2]]).fn=lawF:=by
  unfold Frame.raise;rw[hrun];exact hlaw
 have hst:=@Zbr jk0 _ _ _ _ _ hQ0 Z2W gokS recS hP _ _ hmr hdr (by rw[hfr];exact⟨_,(Zdw (k:=lawF) (by decide)).choose_spec.choose_spec.1⟩) hE2 hS2;obtain⟨T,e,fr,q1,q2,q3,q4,q5⟩:=hst;simp only[List.cons.injEq]at q1;obtain⟨rfl,_⟩:=q1;have hpre:Pre #[y0,y1,y2] u1:=by
  cases e with
  | returned x=>have:=q3.1;rw[hmr]at this;cases this
  | outgrown=>exact absurd rfl q5
  | panicked ch =>
   have:=q3.1;rw[hmr]at this;obtain rfl:=FrameMode.panicking.inj this;exact hR _ _ q4
 have hold:∀b,b<v.heap.size->u1.heap[b]?=v.heap[b]?:=λb hb=>@Kep.old jk0 _ _ _ _ _ _ id hi1 hk1 hw1 _ hb (hE1.block b hb (by simp));have hys:@VRs (jkV TG) r (c.args.map f.eval) (c.args.map g.eval):=@Z2F (jkV TG) _ _ _ (@FrR.env (jkV TG) _ _ _ _ _ hf) _ (λx hx=>by
  obtain⟨t,rfl⟩:=hrd x hx;trivial)
 rw[hargs]at hys;obtain⟨L,er,hL6,hcg,hcc⟩:=hco hpre hold hw ho hys;have hatg:=@AtCall.rel (jkV TG) _ _ _ _ _ hf _ _ hat
 have hkg:g.kind = .normal\/g.kind = .deferred:=by
  have:=@FrR.kind (jkV TG) _ _ _ _ _ hf;rw[<-this.1];exact this.2
 refine @Sure.step (jkV TG) _ _ _ _ _ rfl λw1 hl1=>⟨_,w1,#[],@AtCall.step (jkV TG) _ _ _ _ hatg _ _ hfn hbd hnm hkg true cs w1,by simp,by rw[hl1.1];exact Ye _,?_⟩;refine Sure.like ?_ hl1;refine hcc λw3 y D' U=>?_
 -- the good tape
 obtain⟨cp,hcp⟩:∃cp:Nat,cp<=maxLen/\∀g n c,y = .slice (some ⟨g,0,none⟩) n c->c=cp/\n<=cp/\n≠7:=by
  rcases U.lst with⟨_,rfl⟩ | ⟨gc,cc,_,rfl,_,hcq,hmm,_⟩
  ·exact⟨0,Nat.zero_le _,λg n c e=>by cases e⟩
  ·refine⟨cc,hmm,λg n c e=>?_⟩
   simp only[Value.slice.injEq]at e;obtain⟨_,rfl,rfl⟩:=e;exact⟨rfl,hcq,by omega⟩
 have hgood:Calls (Qy.prog 0) t (c.args.map f.eval) (re v (tG cp)) (λe u=>∃y,e = .returned (.tuple #[y,.int .i64 er])/\IntR v.heap.size u L y/\Z7J (re v (tG cp)) y/\Ext [] (re v (tG cp)) u):=by
  rw[hargs];refine(hcg (tG cp)).mono λe u h=>?_
  rcases h with⟨⟨_,d,hd⟩,_⟩ | h
  ·exact absurd hd (by show ¬7<7+0 % (2 ^ 63-7);decide)
  ·exact h
 obtain⟨e,v2,u2,r2,he,hi2,hw2,hk2,hcase⟩:=@Z6M jk0 (Qy.prog 0) (Qy.F 0) _ r0 v _ hQ0 Z2W gokS recS hSt f t c hs0 hw0 hi0 hat hgS hrd0 (tG cp) _ (λu q=>by obtain⟨_,q,_⟩:=q;cases q) hgood;obtain⟨y0',rfl,hI2,hC2,hE3⟩:=he
 rcases hcase with⟨x2,y2',q,hvr,hreach2⟩ | ⟨ch,ch',q,_⟩
 rotate_left
 ·cases q
 obtain rfl:=Ending.returned.inj q;have hyy:=@VR.id jk0 _ id hi2 _ _ hvr;subst hyy;have hr2:=Z2r hnp hreach2;have hS3:=@Z41 jk0 _ _ _ _ _ _ _ _ hQ0 Z2W gokS recS hP hr2 hE hIs;have hold2:∀b,b<v.heap.size->u2.heap[b]?=v.heap[b]?:=λb hb=>@Kep.old jk0 _ _ _ _ _ _ id hi2 hk2 hw2 _ hb (hE3.block b hb (by simp));have henv:u2.os.env=w3.os.env:=by
  have e1:u2.os=v.os:=hk2.os.2.symm;rw[e1,Z9i U.os];exact hw.env
 have hofD:∀b d,r b=some d->¬D' d:=λb d hb hd=>by
  obtain⟨_,_,_,g2,_⟩:=hw.on _ _ hb;have:=(Y0.1 g2).1
  rcases U.dis d hd with q | q
  ·exact ho.names b d hb q
  ·omega
 have kw:∀r',(∀a b,r' a=some b->r a=some b\/w.heap.size<=b)->KeptW v u2 w w3 r r':=λr' h=>⟨hold2,U.old,U.size,U.os,U.out,h⟩
 rcases hI2 with⟨hL,rfl⟩ | ⟨g0,k0,hL,rfl,hb0,hc0,hm0,hq0⟩
 ·have hy:y = .slice none 0 0:=by
   rcases U.lst with⟨_,q⟩ | ⟨_,_,q,_⟩
   ·exact q
   ·exact absurd hL q
  subst hy;refine k _ _ r u2 w3 _ hreach2 hS3 hs ?_ (@Zek (jkV TG) _ _ _ _ _ _ hw hold2 U.old henv) ⟨hofD,U.low⟩ (kw r λa b h=>.inl h);refine @VR.tuple (jkV TG) _ _ _ rfl λi a b h1 h2=>?_;rw[h1]at h2;obtain rfl:=Y1 h2;have:=Yk h1;simp only[Yb,Yc,Ya,or_false]at this
  rcases this with rfl | rfl
  ·exact @VR.sl0 (jkV TG) _ _ _
  ·exact @VR.int (jkV TG) _ _ _
 ·obtain⟨gc,cc,_,hy,hbc,hcc,hmc,hqc⟩:∃gc cc,L≠[]/\y = .slice (some ⟨gc,0,none⟩) L.length cc/\w.heap.size<=gc/\L.length<=cc/\cc<=maxLen/\w3.heap[gc]?=some (.cells (ivs (L)++List.replicate (cc-L.length) (Value.int .i64 0)).toArray 3 (0,0)):=by
   rcases U.lst with⟨q,_⟩ | q
   ·exact absurd q hL
   ·exact q
  obtain⟨rfl,hn1,hn7⟩:=hcp.2 _ _ _ hy;have hkc:k0=cc:=by
   obtain⟨d,hd⟩:=hC2 _ _ _ rfl;have hd:k0=L.length+(if L.length=7 then 0 else cc-L.length) % (2 ^ 63-L.length):=hd;rw[if_neg hn7,Nat.mod_eq_of_lt (by simp only[maxLen]at hmc;omega)]at hd;omega
  subst hkc;subst hy;have hpos:0<L.length:=List.length_pos_iff.2 hL;have hg0:r2 g0=some g0:=by
   cases hvr with
   | tuple _ t =>
    have:=t 0 _ _ rfl rfl
    cases this with
    | sl _ _ q=>cases q with | mk q=>exact q
  have hq2:u2.heap[g0]?=some (.cells (ivs (L)++List.replicate (k0-L.length) (Value.int .i64 0)).toArray 3 (0,0)):=by
   refine @Kep.fresh jk0 _ _ _ _ id hi2 hw2 _ _ hg0 hq0 ?_;rintro⟨cs2,e2,q⟩;simp only[Obj.cells.injEq,Y9,true_and]at q;obtain⟨rfl,_,q⟩:=q;simp only[List.size_toArray,Ym,List.length_replicate,ivs,Yj]at q;omega
  have hce:∀z∈(ivs (L)++List.replicate (k0-L.length) (Value.int .i64 0)).toArray,∃n,z = .int .i64 n:=by
   intro z hz;simp only[Yb,List.mem_append,ivs,List.mem_map,List.mem_replicate]at hz
   rcases hz with⟨n,_,rfl⟩ | ⟨_,rfl⟩<;>exact⟨_,rfl⟩
  obtain⟨hwm,hle⟩:=@Zj1 (jkV TG) _ _ _ _ _ _ hw hold2 U.old henv g0 gc _ _ hq2 hqc hb0 hbc hce;refine k _ _ (r.add g0 gc) u2 w3 _ hreach2 hS3 (@Stk.mono (jkV TG) _ _ _ _ hle _ _ hs) ?_ hwm ⟨λa b h hd=>?_  ,U.low⟩ (kw _ λa b h=>?_)
  ·refine @VR.tuple (jkV TG) _ _ _ rfl λi a b h1 h2=>?_
   rcases i with _ | _ | i
   ·obtain rfl:=Y1 h1
    obtain rfl:=Y1 h2;exact @VR.sl (jkV TG) _ _ _ _ _ (.mk (by unfold Ren.add;rw[if_pos rfl]))
   ·obtain rfl:=Y1 h1
    obtain rfl:=Y1 h2;exact @VR.int (jkV TG) _ _ _
   ·simp at h1
  ·unfold Ren.add at h
   split at h
   ·obtain rfl:=Y1 h
    exact U.ne _ _ _ rfl hbc hd
   ·exact hofD _ _ h hd
  ·unfold Ren.add at h
   split at h
   ·obtain rfl:=Y1 h
    exact .inr hbc
   ·exact .inl h
theorem Zd9(TG:FuncId->Prop){R:Ending->World->Prop}{r:Ren}{f g:Frame}(hs:@Stk (jkV TG) PP (Qy.F 0) r [f] [g])(hw:@WH (jkV TG) (@Iv (jkV TG) PP (Qy.F 0)) r v w)(ho:Off D r w)(hI:@Self jk0 (Qy.prog 0) (Qy.F 0) [f,poison] v)(hlaw:f.fn=lawF)(hrun:f.mode = .run){c:Call}(hat:AtCall f 19 c)(h3:c.args.size=0)(hE:Ends (Qy.prog 0) (Done PP (Qy.F 0) lawF R) [f,poison] v)(k:∀x y r' v' w' D',Z5I (Qy.prog 0) (Done PP (Qy.F 0) lawF R) f [poison] v [f.finish x,poison] v' -> @Self jk0 (Qy.prog 0) (Qy.F 0) [f.finish x,poison] v' -> @Stk (jkV TG) PP (Qy.F 0) r' [f] [g] -> @VR (jkV TG) r' x y -> @WH (jkV TG) (@Iv (jkV TG) PP (Qy.F 0)) r' v' w'->Off D' r' w'->KeptW v v' w w' r r'->Sure PP Post D' (run1 (g.finish y) cs) w'): Sure PP Post D (run1 g cs) w:=by
 letI:Jk:=jkV TG;have hP:∀x u,¬Done PP (Qy.F 0) lawF R [x] u:=Z3n;have hSt:∀V u,Done PP (Qy.F 0) lawF R V u->V.length=2:=by
  rintro V u ⟨T,e,fr,rfl,_⟩
  rfl
 have hf:=(@Stk.uncons (jkV TG) _ _ _ _ _ _ _ hs).1;have hIs:=hI;obtain⟨f0,A,r0,hV,hi0,hs0,hw0⟩:=hI;simp only[List.cons.injEq]at hV;obtain⟨rfl,hA⟩:=hV;have hA:A=[]:=by
  cases A with
  | nil=>rfl
  | cons a tl=>have:=congrArg List.length hA;simp at this
 subst hA;have hnp:¬Done PP (Qy.F 0) lawF R [f,poison] v:=by
  rintro⟨T,e,fr,q1,q2,q3,q4,q5⟩;simp only[List.cons.injEq]at q1;obtain⟨rfl,_⟩:=q1
  cases e with
  | returned x=>have:=q3.1;rw[hrun]at this;cases this
  | panicked ch=>have:=q3.1;rw[hrun]at this;cases this
  | outgrown=>exact q5 rfl
 have ha0:c.args=#[]:=Array.eq_empty_of_size_eq_zero h3;have hargs:c.args.map f.eval=#[]:=by rw[ha0];simp
 have hargg:c.args.map g.eval=#[]:=by rw[ha0];simp
 have hgood:Calls (Qy.prog 0) 19 (c.args.map f.eval) (re v λ_ _=>0) (λe u=>e = .returned (.bool true)/\Ext [] (re v λ_ _=>0) u):=by
  rw[hargs];exact Z6N (μ:=0) _
 obtain⟨e,v2,u2,r2,he,hi2,hw2,hk2,hcase⟩:=@Z6M jk0 (Qy.prog 0) (Qy.F 0) _ r0 v _ hQ0 Z2W gokS recS hSt f 19 c hs0 hw0 hi0 hat (by decide) (λx hx=>by rw[ha0]at hx;simp at hx) (λ_ _=>0) _ (λu q=>by cases q.1) hgood;obtain⟨rfl,hE3⟩:=he
 rcases hcase with⟨x2,y2',q,hvr,hreach2⟩ | ⟨ch,ch',q,_⟩
 rotate_left
 ·cases q
 obtain rfl:=Ending.returned.inj q;have hyy:=@VR.id jk0 _ id hi2 _ _ hvr;subst hyy;have hr2:=Z2r hnp hreach2;have hS3:=@Z41 jk0 _ _ _ _ _ _ _ _ hQ0 Z2W gokS recS hP hr2 hE hIs;have hold2:∀b,b<v.heap.size->u2.heap[b]?=v.heap[b]?:=λb hb=>@Kep.old jk0 _ _ _ _ _ _ id hi2 hk2 hw2 _ hb (hE3.block b hb (by simp));have hatg:=@AtCall.rel (jkV TG) _ _ _ _ _ hf _ _ hat
 have hkg:g.kind = .normal\/g.kind = .deferred:=by
  have:=@FrR.kind (jkV TG) _ _ _ _ _ hf;rw[<-this.1];exact this.2
 have hfn:PP.funcs[(19:Nat)]?=some Tryz.f19:=by kernel_rfl
 obtain⟨bd,hbd⟩:∃b,Tryz.f19.body=some b:=⟨_,rfl⟩;refine @Sure.step (jkV TG) _ _ _ _ _ rfl λw1 hl1=>⟨_,w1,#[],@AtCall.step (jkV TG) _ _ _ _ hatg _ _ hfn hbd (by kernel_rfl) hkg true cs w1,by simp,by rw[hl1.1];exact Ye _,?_⟩;refine Sure.like ?_ hl1;rw[hargg];have hwn:@WH jkN (@Iv jkN PP (Qy.F 0)) (λ_=>none) w w:=@WH.mk jkN _ _ _ _ (λb c h=>by cases h) (λa b c h=>by cases h) rfl;refine @Sure.called jkN PP (Qy.F 0) (λf=>gB f=true) _ _ _ _ _ (ZkL 0) (gokN 0) recN 19 #[] #[] (by decide) (@Arr.nil jkN _ _ _) hwn ⟨λb c h=>by(cases h),ho.low⟩ (λe u=>e = .returned (.bool true)) (λe u T q=>q) (λu q=>by cases q) (λT=>(Z6N (μ:=0) (re w T)).mono λe u q=>q.1) g cs (λr' v' w' x y hx hv hw' hk ho'=>?_) (λr' v' w' ch ch' hx=>by cases hx);obtain rfl:=Ending.returned.inj hx;have hy:y = .bool true:=by cases hv;rfl
 subst hy;have hold:∀b,b<w.heap.size->w'.heap[b]?=w.heap[b]?:=λb hb=>hk.far b hb λa h=>by cases h
 have hos:w'.os=w.os:=hk.os.2.symm;have henv:u2.os.env=w'.os.env:=by
  have e1:u2.os=v.os:=hk2.os.2.symm;rw[e1,hos];exact hw.env
 refine k _ _ r u2 w' D hreach2 hS3 hs (@VR.bool (jkV TG) _ _) (@Zek (jkV TG) _ _ _ _ _ _ hw hold2 hold henv) ⟨ho.names,λd hd=>Y8 (ho.low d hd) hk.sizeW⟩ ⟨hold2,hold,hk.sizeW,by rw[hos];exact OsLater.refl _,hk.out,λa b h=>.inl h⟩
end Lift
namespace Lift
open Go Go.Conc Go.RowKit Ev
open Go.ConcM (OsLater)
structure Tgt(TG:FuncId->Prop)(t:FuncId)(Pre:Array Value->World->Prop):Prop where
 gs:gS t=true
 bad:∀(y0 y1 y2:Value) (w:World),(∀d,7<(Question.appendCap 7 0 3).cut (w.tape d (.appendCap 7 0 3)))->Calls (Qy.prog 0) t #[y0,y1,y2] w λe w'=>e = .panicked [bunV t #[y0,y1,y2]]/\Ext [] w w'
 co:CoT TG t Pre
 fn:∃fn bd,PP.funcs[t]?=some fn/\fn.body=some bd/\(fn.name == "runtime.NumGoroutine")=false
 ng:gJ t=false
def LawV(Pre:FuncId->Array Value->World->Prop)(e:Ending)(u:World):Prop:=e = .returned (.bool true)\/∃t xs,gJ t=false/\e = .panicked [bunV t xs]/\Pre t xs u
theorem Zde(TG:FuncId->Prop)(Pre:FuncId->Array Value->World->Prop)(hT:∀t,TG t->Tgt TG t (Pre t)){R:Ending->World->Prop}{w0:World}{r:Ren}{f g:Frame}(hR:∀t xs u,R (.panicked [bunV t xs]) u->Pre t xs u)(hret:∀x u,R (.returned x) u->x = .bool true)(hpan:∀ch u,R (.panicked ch) u->∃t xs,gJ t=false/\ch=[bunV t xs])(hini:PP.inits.idxOf? lawF=none)(hfn:f.fn=lawF)(hs:@Stk (jkV TG) PP (Qy.F 0) r [f] [g])(hw:@WH (jkV TG) (@Iv (jkV TG) PP (Qy.F 0)) r v w0)(hsh:∀a b,r a=some b->Shut v a)(hI:@Self jk0 (Qy.prog 0) (Qy.F 0) [f,poison] v)(hE:Ends (Qy.prog 0) (Done PP (Qy.F 0) lawF R) [f,poison] v):
  Sure PP (Zj8 w0) (λ_=>False) (run1 g []) w0:=by
 letI:Jk:=jkV TG;refine Sure.jumps (P:=PP) (F:=Qy.F 0) (G:=λf=>gJ f=true) (Stop:=Done PP (Qy.F 0) lawF R) (V:=[f,poison]) (v:=v) (cs:=[]) (ZkM TG) (gokV TG) recP Z3n (I:=λV v=>@Self jk0 (Qy.prog 0) (Qy.F 0) V v) ?_ (J:=λ_ r v w=>Since w0 r v w) (λD r r' v v' w w' k h=>h.kep k) ?_ ?_ hE (λ_=>False) f [] g [] r w0 rfl hs hw ⟨λ_ _ _ h=>h,λ_ h=>h.elim⟩ ⟨λ_ _=>rfl,Ye _,OsLater.refl _,rfl,λa b h _=>hsh a b h⟩ hI
 ·intro f K v τ f' K' v' es h e
  exact @Self.step jk0 _ _ _ _ _ hQ0 Z2W gokS recS _ _ _ _ _ _ h e
 ·intro D f g r v w hs hw ho hj hi hp hE k
  have hlt:∀a b,r a=some b->a<v.heap.size:=λa b q=>by
   obtain⟨_,_,g1,_⟩:=hw.on _ _ q;exact(Y0.1 g1).1
  obtain⟨jf,c,hjf,hat,hrd,h3⟩:=Pend.at hp
  by_cases hd:jf=19
  ·subst hd
   exact Zd9 TG hs hw ho hi hp.1 hp.2.1 hat (h3.trans (if_pos rfl)) hE λx y r' v' w' D' h1 h2 h3 h4 h5 h6 h7=>k x y r' v' w' D' h1 h2 h3 h4 h5 h6 (hj.more h7 hlt)
  ·obtain⟨q1,q2,q3,⟨fn,bd,q4,q5,q6⟩,_⟩:=hT jf (hjf.resolve_right hd)
   exact Zf5 TG q1 q2 q3 q4 q5 q6 (hR jf) hs hw ho hi hp.1 hp.2.1 hat hrd (h3.trans (if_neg hd)) hE λx y r' v' w' D' h1 h2 h3 h4 h5 h6 h7=>k x y r' v' w' D' h1 h2 h3 h4 h5 h6 (hj.more h7 hlt)
 ·intro D f A g B r v w h hs hw ho hj
  obtain⟨T,e,fr,q1,q2,q3,q4,q5⟩:=h;simp only[List.cons.injEq]at q1;obtain⟨rfl,hA⟩:=q1;have hA:A=[]:=by
   cases A with
   | nil=>rfl
   | cons a tl=>have:=congrArg List.length hA;simp at this
  subst hA;have hB:B=[]:=by
   obtain⟨_,h,_⟩:=hs.uncons;have:=h.rel
   cases B with
   | nil=>rfl
   | cons b bs=>cases this
  subst hB;have hf:=hs.uncons.1
  cases e with
  | outgrown=>exact absurd rfl q5
  | returned x =>
   obtain rfl:=hret _ _ q4;have hgi:PP.inits.idxOf? g.fn=none:=by rw[<-hf.fn,q2];exact hini
   refine Sure.last rfl λw1 hl=>?_;have hw1:WH (Iv PP (Qy.F 0)) r v w1:=hw.of rfl hl.1 (by rw[hl.2.1];exact hw.env);obtain⟨r2,T2,y,w2,ns,e2,hv,hw2,hk2,he⟩:=Zdg hf hw1 q3 hgi;have ho2:=(ho.like hl).kept hk2;have hk3:Kep r r2 v v w w2:=Kep.of (v0:=re v T2) (v':=re v T2) ⟨rfl,rfl,rfl⟩ hl hk2;refine⟨y,w2,ns,e2,λx hx=>Z9V (he x hx) ho2.names,by rw[<-hl.1];exact hk2.sizeW,?_⟩
   cases hv
   have:=hj.kep hk3;exact⟨rfl,this.old,this.size,this.os,this.out⟩
  | panicked ch =>
   exfalso;obtain⟨tq,xs,hng,rfl⟩:=hpan _ _ q4;have hm:=hf.mode;rw[q3.1]at hm;generalize g.mode=z at hm
   cases hm with
   | panicking q =>
    cases q with
    | cons a t =>
     have a1:=a.1;dsimp only[bunV]at a1;generalize PanicEntry.v _=z2 at a1
     cases a1 with
     | iface _ k =>
      cases k with
      | func hf _ _ _ _ =>
       cases hf with
       | func _ h =>
        have h:gJ tq=true:=h;rw[hng]at h
        cases h
end Lift
namespace Lift
open Go Go.Conc Go.RowKit Ev
open Go.ConcM (OsLater)
theorem Zc7[Jk]{C:Inv}{r:Ren}{x:Vm}{z:Value}(hold:∀b,b<v.heap.size->u.heap[b]?=v.heap[b]?)(hw:WH C r v w)(hx:x.At u)(hz0:VR r x.val z): x.At v:=by
 have hz0:VR r (.agg #[.int .i64 x.B,.slice x.da x.D.length x.dc,.slice x.la x.L.length x.lc,.int .i64 x.tol]) z:=hz0
 cases hz0 with
 | @agg _ ys hs1 hs2 =>
  obtain⟨_,_,_,_,_,_,g2,g3,_⟩:=arr4 (R:=VR r) ⟨hs1,hs2⟩;exact⟨Zaf hold hw hx.d g2,Zaf hold hw hx.l g3⟩
theorem stubM_ok(x:Vm)(hv:VOk x)(l s:List Int)(hl:RcpOk x l)(hs:Z1U x s)(a1 a2:Option Addr)(c1 c2:Nat)(w:World)(h:x.At w)(hr:Z6 w (.slice a1 l.length c1) 1 (l.map Z5))(hr':Z6 w (.slice a2 s.length c2) 1 (s.map Z5)):
  Calls (Qy.prog 0) 26 #[.agg #[.int .i64 x.B,.slice x.da x.D.length x.dc,.slice x.la x.L.length x.lc,.int .i64 x.tol],.slice a1 l.length c1,.slice a2 s.length c2] w λe w' =>
   ((e = .panicked [bunV 26 #[.agg #[.int .i64 x.B,.slice x.da x.D.length x.dc,.slice x.la x.L.length x.lc,.int .i64 x.tol],.slice a1 l.length c1,.slice a2 s.length c2]]/\∃d,7<(Question.appendCap 7 0 3).cut (w.tape d (.appendCap 7 0 3)))/\Ext [] w w') \/
   ∃y,e = .returned (.tuple #[y,.int .i64 0])/\IntR w.heap.size w' (ZY x.L.length λk=>matE x (val l) (val s) [((k:Nat):Int)]) y/\Z7J w y/\Ext [] w w':=
 ZfX x l s _ 0 (by have:=Z0y x.L.length λk=>matE x (val l) (val s) [((k:Nat):Int)];have hl3:=hv.l3;omega) a1 a2 c1 c2 w λW eW=>Zib x hv l s hl hs a1 a2 c1 c2 W (h.ext eW) (hr.ext eW (by simp)) (hr'.ext eW (by simp))
def ZgY(xs:Array Value)(u:World):Prop:=∃(x:Vm) (l s:List Int) (a1 a2:Option Addr) (c1 c2:Nat),xs=#[x.val,.slice a1 l.length c1,.slice a2 s.length c2]/\VOk x/\x.At u/\RcpOk x l/\Z1U x s/\Z6 u (.slice a1 l.length c1) 1 (l.map Z5)/\Z6 u (.slice a2 s.length c2) 1 (s.map Z5)
theorem ZdF{x:Vm}(h:RcpOk x l): l≠[]:=λe=>by
 have:=h.s1;rw[e]at this;simp at this
theorem Zjw(TG:FuncId->Prop):CoT TG 26 ZgY:=by
 letI:Jk:=jkV TG;intro D r v w u xs zs hpre hold hw ho hys;obtain⟨x,l,s,a1,a2,c1,c2,rfl,hv,hx,hl,hs,hrw,hrw'⟩:=hpre;obtain⟨z0,z1,z2,rfl,hz0,hz1,hz2⟩:=arr3 hys;have hxd:x.At v:=Zc7 hold hw hx hz0;have hrd1:=Z2t hold hw hrw hz1;have hrd2:=Z2t hold hw hrw' hz2;obtain⟨x',rfl,halk,hvc⟩:=ZgT hv hxd hw ho hz0;obtain⟨b1,rfl,hw1r,hp1⟩:=Z4E hw (ZdF hl) hrd1 hz1;obtain⟨b2,rfl,hw2r,hp2⟩:=Z4E hw (Z57 (p:=(.bool true,s)) hv.b1 hs.1) hrd2 hz2;have hl3:=hv.l3;refine⟨_,0,?_,λtp=>stubM_ok x hv l s hl hs a1 a2 c1 c2 (re v tp) (Z2j (v:=v) (v2:=re v tp) (λb _=>rfl) hxd) hrd1 hrd2,λ{Post c cs} ret=>?_⟩
 ·have:=Z0y x.L.length λk=>matE x (val l) (val s) [((k:Nat):Int)]
  omega
 refine Z9b (halk.ok hv) hvc ⟨hl.len.trans halk.dl.symm,hl.bd,hl.s1,hl.s6⟩ ⟨hs.1.trans halk.b.symm,hs.2⟩ hw1r hw2r hp1 hp2 λw3 y Mu Wg U=>ret _ _ _ (Zgl ho.low ?_);have hbb:ZY x'.L.length (matB x' (val l) (val s))=ZY x.L.length λk=>matE x (val l) (val s) [((k:Nat):Int)]:=by
  rw[halk.ll];refine Z5V λk hk=>?_;simp only[matB,halk.ll,halk.mat,hk,decide_true,Bool.true_and]
 rw[<-hbb];exact U
theorem ZiM(TG:FuncId->Prop):Tgt TG 26 ZgY:=⟨by decide,Zec,Zjw TG,⟨_,_,Zal,Zdl,by kernel_rfl⟩,by decide⟩
theorem Zjv(TG:FuncId->Prop):CoT TG 15 ZgX:=by
 letI:Jk:=jkV TG;intro D r v w u xs zs hpre hold hw ho hys;obtain⟨x,l,l',a1,a2,c1,c2,rfl,hv,hx,hl,hl',hrw,hrw'⟩:=hpre;obtain⟨z0,z1,z2,rfl,hz0,hz1,hz2⟩:=arr3 hys;have hxd:x.At v:=Zc7 hold hw hx hz0;have hrd1:=Z2t hold hw hrw hz1;have hrd2:=Z2t hold hw hrw' hz2;obtain⟨x',rfl,halk,hvc⟩:=ZgT hv hxd hw ho hz0;obtain⟨b1,rfl,hw1r,hp1⟩:=Z4E hw (ZdF hl) hrd1 hz1;obtain⟨b2,rfl,hw2r,hp2⟩:=Z4E hw (ZdF hl') hrd2 hz2;have hl3:=hv.l3;refine⟨ZY x.L.length λk=>alkE x k (val l) (val l'),0,?_,λtp=>ZaJ x hv l l' hl hl' a1 a2 c1 c2 (re v tp) (Z2j (v:=v) (v2:=re v tp) (λb _=>rfl) hxd) hrd1 hrd2,λ{Post c cs} ret=>?_⟩
 ·have:=Z0y x.L.length λk=>alkE x k (val l) (val l')
  omega
 refine Zc4 (halk.ok hv) hvc ⟨hl.len.trans halk.dl.symm,hl.bd,hl.s1,hl.s6⟩ ⟨hl'.len.trans halk.dl.symm,hl'.bd,hl'.s1,hl'.s6⟩ hw1r hw2r hp1 hp2 λw3 y Mu Wg U=>ret _ _ _ (Zgl ho.low ?_);have hbb:ZY x'.L.length (alkB x' (val l) (val l'))=ZY x.L.length λk=>alkE x k (val l) (val l'):=by
  rw[halk.ll];refine Z5V λk hk=>?_;simp only[alkB,halk.ll,halk.alk k,hk,decide_true,Bool.true_and]
 rw[<-hbb];exact U
theorem ZiL(TG:FuncId->Prop):Tgt TG 15 ZgX:=⟨by decide,ZfY,Zjv TG,⟨_,_,Z9L,Zc3,by kernel_rfl⟩,by decide⟩
def TL(f:FuncId):Prop:=f=26\/f=15
def PreL(t:FuncId)(xs:Array Value)(u:World):Prop:=(t=26/\ZgY xs u)\/(t=15/\ZgX xs u)
theorem tgtL(t:FuncId)(h:TL t):Tgt TL t (PreL t):=by
 rcases h with rfl | rfl
 ·have q:=ZiM TL
  exact⟨q.gs,q.bad,λh=>q.co (h.resolve_right λh=>absurd h.1 (by decide)).2,q.fn,q.ng⟩
 ·have q:=ZiL TL
  exact⟨q.gs,q.bad,λh=>q.co (h.resolve_left λh=>absurd h.1 (by decide)).2,q.fn,q.ng⟩
theorem Zio{t:FuncId}{T:Nat->Question->Nat}(h:PreL t xs (re u T)): PreL t xs u:=by
 letI:Jk:=jk0
 rcases h with⟨h0,x,l,s,a1,a2,c1,c2,h2,h3,h4,h5⟩ | ⟨h0,x,l,s,a1,a2,c1,c2,h2,h3,h4,h5⟩
 ·exact .inl ⟨h0,x,l,s,a1,a2,c1,c2,h2,h3,Z2j (v:=re u T) (v2:=u) (λ_ _=>rfl) h4,h5⟩
 ·exact .inr ⟨h0,x,l,s,a1,a2,c1,c2,h2,h3,Z2j (v:=re u T) (v2:=u) (λ_ _=>rfl) h4,h5⟩
def jmpB(f n:Nat):Bool:=((f==26||f==15)&&n==3)||(f==19&&n==0)
theorem ZhH(f:FuncId)(n:Nat)(q:jmpB f n=true):(jkV TL).jmp f/\n=(jkV TL).ar f:=by
 unfold jmpB at q;simp only[Yo,Y5,beq_iff_eq]at q
 rcases q with⟨rfl | rfl,rfl⟩ | ⟨rfl,rfl⟩
 ·exact⟨.inl (.inl rfl),rfl⟩
 ·exact⟨.inl (.inr rfl),rfl⟩
 ·exact⟨.inr rfl,rfl⟩
theorem lawV_m{x:Vm}(hv:VOk x)(h:x.At u)(hl:RcpOk x l)(hs:Z1U x s)(e1:l.length=n1)(e2:s.length=n2)(hr:Z6 u (.slice a1 n1 c1) 1 (l.map Z5))(hr':Z6 u (.slice a2 n2 c2) 1 (s.map Z5)):
  LawV PreL (.panicked [bunV 26 #[.agg #[.int .i64 x.B,.slice x.da x.D.length x.dc,.slice x.la x.L.length x.lc,.int .i64 x.tol],.slice a1 n1 c1,.slice a2 n2 c2]]) u:=by
 subst e1 e2;exact .inr ⟨_,_,by decide,rfl,.inl ⟨rfl,x,l,s,a1,a2,c1,c2,rfl,hv,h,hl,hs,hr,hr'⟩⟩
theorem lawV_a{x:Vm}{l': List Int}(hv:VOk x)(h:x.At u)(hl:RcpOk x l)(hl':RcpOk x l')(e1:l.length=n1)(e2:l'.length=n2)(hr:Z6 u (.slice a1 n1 c1) 1 (l.map Z5))(hr':Z6 u (.slice a2 n2 c2) 1 (l'.map Z5)):
  LawV PreL (.panicked [bunV 15 #[.agg #[.int .i64 x.B,.slice x.da x.D.length x.dc,.slice x.la x.L.length x.lc,.int .i64 x.tol],.slice a1 n1 c1,.slice a2 n2 c2]]) u:=by
 subst e1 e2;exact .inr ⟨_,_,by decide,rfl,.inr ⟨rfl,x,l,l',a1,a2,c1,c2,rfl,hv,h,hl,hl',hr,hr'⟩⟩
end Lift
section
open Go.RowKit
variable{μ:Nat}
section
variable(c:Int->Int->Int)
def insP(l:List Int)(v:Int):Nat->Nat
 | 0=>0
 | k+1=>if c v (l.getD k 0)<0 then insP l v k else k+1
def insT(l:List Int)(v:Int):List Int:=l.take (insP c l v l.length)++v::l.drop (insP c l v l.length)
def insK:Nat->List Int
 | 0=>[]
 | i+1=>insT c (insK i) ((i:Nat):Int)
theorem Z8Y(l:List Int)(v:Int):∀k,insP c l v k<=k
 | 0=>Ye _
 | k+1=>by
  rw[insP]
  split
  ·exact Yd (Z8Y l v k) (by omega)
  ·omega
theorem Zf3(l:List Int)(v:Int):(insT c l v).length=l.length+1:=by
 have:=Z8Y c l v l.length;simp[insT];omega
theorem Zab:∀i,(insK c i).length=i
 | 0=>rfl
 | i+1=>by rw[insK,Zf3,Zab i]
theorem Z4y:∀i,∀m∈insK c i,0<=m/\m<((i:Nat):Int)
 | 0,m,h=>by simp[insK]at h
 | i+1,m,h=>by
  rw[insK,insT]at h;have key:m=((i:Nat):Int)\/m∈insK c i:=by
   rcases List.mem_append.1 h with h | h
   ·exact .inr (List.mem_of_mem_take h)
   ·rcases Yc.1 h with h | h
    ·exact .inl h
    ·exact .inr (List.mem_of_mem_drop h)
  rcases key with rfl | h
  ·omega
  ·have:=Z4y i m h;omega
theorem ZeY{A B:List Int}(h:k<A.length): (A++B).getD k 0=A.getD k 0:=by simp[List.getElem?_append_left h]
theorem Zcc(A B:List Int)(v:Int):∀j,j<=A.length->bubL c (A.take j++v::(A.drop j++B)) j=A.take (insP c A v j)++v::(A.drop (insP c A v j)++B)
 | 0,_=>by rw[bubL,insP]
 | j+1,h=>by
  have hj:j<A.length:=by omega
  have e1:(A.take (j+1)++v::(A.drop (j+1)++B)).getD (j+1) 0=v:=by
   rw[Y7,List.getElem?_append_right (by rw[List.length_take];omega),List.length_take,Nat.min_eq_left h];simp
  have e2:(A.take (j+1)++v::(A.drop (j+1)++B)).getD j 0=A.getD j 0:=by
   rw[ZeY (by rw[List.length_take];omega)];simp[List.getElem?_take]
  have e3:swp (A.take (j+1)++v::(A.drop (j+1)++B)) j=A.take j++v::(A.drop j++B):=by
   have e4:A.take (j+1)=A.take j++[A.getD j 0]:=Z1S A 0 hj;have e5:A.drop j=A.getD j 0::A.drop (j+1):=ZK A 0 hj;have hl:(A.take j).length=j:=by rw[List.length_take];omega
   rw[swp,e1,e2,e4,e5];generalize A.getD j 0=q;generalize A.take j=T at hl;subst hl;rw[List.append_assoc,List.set_append_right _ _ (by omega),show T.length+1-T.length=1 by omega];simp
  rw[bubL,e1,e2,insP]
  by_cases hc:c v (A.getD j 0)<0
  ·rw[if_pos hc,if_pos hc,e3,Zcc A B v j (by omega)]
  ·rw[if_neg hc,if_neg hc]
theorem Z8c{i: Nat}(h:i<n): (nums n).drop i=((i:Nat):Int)::(nums n).drop (i+1):=by
 rw[ZK (nums n) 0 (by rw[Z2K];exact h)]
 congr 1
 simp[nums,h]
theorem Ze7{n:Nat}:∀k,k<n->srtK c (nums n) k=insK c (k+1)++(nums n).drop (k+1)
 | 0,h=>by
  have:=Z8c h;rw[srtK,insK,insK,insT];simpa[insP] using this
 | k+1,h=>by
  have hk:=Zab c (k+1);have:=Zcc c (insK c (k+1)) ((nums n).drop (k+2)) ((k+1:Nat):Int) (k+1) (by omega);rw[List.take_of_length_le (by omega),List.drop_of_length_le (show (insK c (k+1)).length<=k+1 by omega),List.nil_append]at this;rw[srtK,Ze7 k (by omega),Z8c (show k+1<n by omega),this,show insK c (k+1+1)=insT c (insK c (k+1)) ((k+1:Nat):Int) from rfl,insT,hk,List.append_assoc]
  rfl
theorem ZaG(n:Nat):srtL c (nums n)=insK c n:=by
 rcases n with _ | n
 ·rfl
 ·rw[srtL,Z2K,Ze7 c (n+1-1) (by omega),show n+1-1+1=n+1 by omega,List.drop_of_length_le (by rw[Z2K];omega),List.append_nil]
def Bef(a b:Int):Prop:=¬c b a<0/\(¬c a b<0->a<b)
theorem Zac(l:List Int)(v:Int):∀k,∀j,insP c l v k<=j->j<k->c v (l.getD j 0)<0
 | 0,j,_,h=>by omega
 | k+1,j,h1,h2=>by
  rw[insP]at h1
  split at h1
  ·rename_i hc
   by_cases e:j=k
   ·subst e;exact hc
   ·exact Zac l v k j h1 (by omega)
  ·omega
theorem Zd5(l:List Int)(v:Int):∀k,0<insP c l v k->¬c v (l.getD (insP c l v k-1) 0)<0
 | 0,h=>by rw[insP]at h;omega
 | k+1,h=>by
  rw[insP]at h⊢
  split
  ·rename_i hc
   rw[if_pos hc]at h;exact Zd5 l v k h
  ·rename_i hc
   exact hc
variable{c}{p:Int->Prop}(sy:∀a b,p a->p b->c a b<0->¬c b a<0)(tr:∀a b d,p a->p b->p d->¬c b a<0->¬c d b<0->¬c d a<0)
include sy tr
theorem ZhG{v:Int}(hl:l.Pairwise (Bef c))(hp:∀m∈l,p m)(hv:p v)(hlt:∀m∈l,m<v): (insT c l v).Pairwise (Bef c):=by
 have hle:=Z8Y c l v l.length;have hat:=Zd5 c l v l.length;have hal:=Zac c l v l.length;obtain⟨q,hq⟩:∃q,q=insP c l v l.length:=⟨_,rfl⟩;rw[<-hq]at hle hat hal;have hl2:=hl;rw[<-List.take_append_drop q l,List.pairwise_append]at hl2;have hdr:∀b∈l.drop q,c v b<0:=λb hb=>by
  obtain⟨j,hj,rfl⟩:=List.getElem_of_mem hb;rw[List.length_drop]at hj;have:=hal (q+j) (by omega) (by omega);rw[Y7,List.getElem?_eq_getElem (by omega)]at this;rw[List.getElem_drop];exact this
 rw[insT,<-hq,List.pairwise_append];refine⟨hl2.1,List.pairwise_cons.2 ⟨λb hb=>⟨sy _ _ hv (hp b (List.mem_of_mem_drop hb)) (hdr b hb),λh=>absurd (hdr b hb) h⟩,hl2.2.1⟩,λa ha b hb=>?_⟩
 rcases Yc.1 hb with rfl | hb
 ·have ham:=List.mem_of_mem_take ha
  refine⟨?_,λ_=>hlt a ham⟩;obtain⟨j,hj,rfl⟩:=List.getElem_of_mem ha;rw[List.length_take]at hj;have h1:=hat (by omega);have hk:q-1<l.length:=by omega
  rw[Y7,List.getElem?_eq_getElem hk]at h1;have h1:¬c b l[q-1]<0:=h1;rw[List.getElem_take]at ham⊢
  by_cases e:j=q-1
  ·subst e;exact h1
  ·have h2:=List.pairwise_iff_getElem.1 hl j (q-1) (by omega) hk (by omega)
   exact tr _ _ _ (hp _ ham) (hp _ (List.getElem_mem hk)) hv h2.1 h1
 ·exact hl2.2.2 a ha b hb
theorem Zaa{n:Nat}(hp:∀m:Int,0<=m->m<n->p m):∀i,i<=n->(insK c i).Pairwise (Bef c)
 | 0,_=>.nil
 | i+1,h=>ZhG sy tr (Zaa hp i (by omega)) (λm hm=>by have:=Z4y c i m hm;exact hp m this.1 (by omega)) (hp _ (by omega) (by omega)) λm hm=>(Z4y c i m hm).2
end
theorem Zhm(a b:Int):cmpE a b<0↔a<b:=by
 unfold cmpE
 split
 ·simp[*]
 ·split<;>simp[*]
def wghT(x:Vm)(T:List (List Int))(lp:Nat)(m:Int):Int:=dotE (val (x.lamp lp)) (tnE x (val (T.getD m.toNat []))) x.B.toNat
def prtT(T:List (List Int))(m:Int):Int:=prt (val (T.getD m.toNat []))
theorem Z9n(x:Vm)(T:List (List Int))(lp:Nat)(j k:Int):shdE x T lp j k<0↔prtT T k*wghT x T lp j<prtT T j*wghT x T lp k:=Zhm _ _
section
variable{x:Vm}{T:List (List Int)}{lp:Nat}(hT:∀j,j<T.length->0<prt (val (T.getD j [])))
include hT
theorem ZdT:(shaR x lp T).Pairwise (Bef (shdE x T lp)):=by
 rw[shaR,ZaG];refine Zaa (p:=λm=>0<=m/\m<T.length) (λa b _ _ h1 h2=>?_) (λa b d ha hb hd h1 h2 h3=>?_) (λm h1 h2=>⟨h1,h2⟩) T.length (Ye _)
 ·rw[Z9n]at h1 h2
  omega
 ·rw[Z9n]at h1 h2 h3
  have p1:0<prtT T a:=hT _ (by omega);have p2:0<prtT T b:=hT _ (by omega);have p3:0<prtT T d:=hT _ (by omega);have m1:=Int.mul_le_mul_of_nonneg_left (Int.not_lt.1 h1) (Int.le_of_lt p3);have m2:=Int.mul_le_mul_of_nonneg_left (Int.not_lt.1 h2) (Int.le_of_lt p1);have m3:=Int.mul_lt_mul_of_pos_left h3 p2;rw[Int.mul_left_comm (prtT T d) (prtT T b),Int.mul_left_comm (prtT T d) (prtT T a)]at m1;rw[Int.mul_left_comm (prtT T a) (prtT T b)]at m2;omega
theorem Zkw{k i:Nat}(hk:k<i)(hi:i<(shaR x lp T).length):let g:=λj=>(shaR x lp T).getD j 0;prtT T (g i)*wghT x T lp (g k)<=prtT T (g k)*wghT x T lp (g i)/\(prtT T (g i)*wghT x T lp (g k)=prtT T (g k)*wghT x T lp (g i)->g k<g i):=by
 have h:=List.pairwise_iff_getElem.1 (ZdT (x:=x) (lp:=lp) hT) k i (by omega) hi hk;have e:∀j (hj:j<(shaR x lp T).length),(shaR x lp T).getD j 0=(shaR x lp T)[j]:=λj hj=>by rw[Y7,List.getElem?_eq_getElem hj];rfl
 intro g;show prtT T ((shaR x lp T).getD i 0)*wghT x T lp ((shaR x lp T).getD k 0)<=_/\(_->(shaR x lp T).getD k 0<(shaR x lp T).getD i 0);rw[show g k=(shaR x lp T)[k] from e k (by omega),show g i=(shaR x lp T)[i] from e i hi,e k (by omega),e i hi];obtain⟨h1,h2⟩:=h;rw[Z9n]at h1 h2;exact⟨Int.not_lt.1 h1,λq=>h2 (by omega)⟩
theorem Zix{i:Nat}(hi:i<(shaR x lp T).length):(shaR x lp T).getD i 0 ∉ (shaR x lp T).take i:=λhm=>by
 obtain⟨j,hj,e⟩:=List.getElem_of_mem hm;rw[List.length_take]at hj;have h:=List.pairwise_iff_getElem.1 (ZdT (x:=x) (lp:=lp) hT) j i (by omega) hi (by omega);rw[List.getElem_take,Y7,List.getElem?_eq_getElem hi]at e;have e:(shaR x lp T)[j]=(shaR x lp T)[i]:=e;rw[e]at h;have h1:=h.1;have h2:=h.2 h1;omega
end
theorem Ziv(x:Vm)(lp:Nat)(T:List (List Int)):(shaR x lp T).length=T.length:=by rw[shaR,ZaH,Z2K]
theorem Ziw(x:Vm)(lp:Nat)(T:List (List Int)):∀m∈shaR x lp T,0<=m/\m<((T.length:Nat):Int):=by
 rw[shaR,ZaG];exact Z4y _ _
theorem Zi3{x y:Vm}{l:Nat}{f g s:Nat->Int}(hf:0<=prt f)(hg:0<=prt g)(ht:2*x.tol<=y.tol)(hy:alkV y l f g=alkV x l f g)(h1:matE x f s [((l:Nat):Int)]=true)(h2:matE x g s [((l:Nat):Int)]=true): alkE y l f g=true:=by
 have h1:=of_decide_eq_true (Yl.1 h1 ((l:Nat):Int) (by simp));have h2:=of_decide_eq_true (Yl.1 h2 ((l:Nat):Int) (by simp));rw[Int.toNat_natCast]at h1 h2;have e:alkV x l f g=prt g*offE x l f s-prt f*offE x l g s:=by
  rw[alkV,offE,offE];generalize dotE (val (x.lamp l)) (tnE x f) x.B.toNat=a;generalize dotE (val (x.lamp l)) (tnE x g) x.B.toNat=b;generalize dotE (val (x.lamp l)) s x.B.toNat=d;rw[Int.mul_sub,Int.mul_sub,Int.mul_left_comm (prt g) (prt f) d];omega
 rw[alkE,hy,e];obtain⟨a,ha⟩:∃a,a=offE x l f s:=⟨_,rfl⟩;obtain⟨b,hb⟩:∃b,b=offE x l g s:=⟨_,rfl⟩;rw[<-ha]at h1⊢;rw[<-hb]at h2⊢;have a1:=Int.mul_le_mul_of_nonneg_left (show a<=x.tol*prt f by omega) hg;have a2:=Int.mul_le_mul_of_nonneg_left (show -a<=x.tol*prt f by omega) hg;have b1:=Int.mul_le_mul_of_nonneg_left (show b<=x.tol*prt g by omega) hf;have b2:=Int.mul_le_mul_of_nonneg_left (show -b<=x.tol*prt g by omega) hf;have e1:prt g*(x.tol*prt f)=x.tol*(prt f*prt g):=by rw[Int.mul_left_comm,Int.mul_comm (prt g)]
 have e2:prt f*(x.tol*prt g)=x.tol*(prt f*prt g):=by rw[Int.mul_left_comm]
 have hm:=Int.mul_le_mul_of_nonneg_right ht (Int.mul_nonneg hf hg);rw[Int.mul_assoc]at hm;rw[e1]at a1 a2;rw[e2]at b1 b2;rw[Int.mul_neg]at a2 b2;rw[Int.mul_assoc];generalize x.tol*(prt f*prt g)=z at *;generalize y.tol*(prt f*prt g)=u at *;generalize prt g*a=c at *;generalize prt f*b=d at *;refine decide_eq_true ?_;omega
variable{μ:Nat}
section
variable{P:Program}
theorem Zeu{ρ:Operand->Value}{x z:Operand}{t: TypeId}{len: Nat}{k':IntKind}(ho:o.op = .slice t x none (some z) none)(hx:ρ x = .slice a len cap)(hz:ρ z = .int k' (m:Nat))(hu:P.underlying t=some (.slice e))(hs:(P.info? e).map (·.size)=some size)(h2:m<=cap):
  (execOp ρ o).run P w = .ok (.value (.slice a m cap)) w:=by
 cases hq:P.info? e with
 | none=>simp[hq]at hs
 | some j =>
  unfold execOp;simp[ho,hx,hz,Instr.sliceAt,Instr.slice,run_underlying hu,Instr.sliceBounds,Instr.sliceBound,asIntOf,sizeOf,typeInfo,hq,h2,go_sem]
end
theorem Zbs{sz: Nat}{xs:List (List Value)}(h:Z6 w (.slice a n cap) sz xs)(hk:k<=xs.length): Z6 w (.slice a k cap) sz (xs.take k):=by
 obtain⟨a2,c2,he,hl,hc⟩:=h;obtain⟨rfl,rfl,rfl⟩:a=a2/\n=xs.length/\cap=c2:=by injection he with h1 h2 h3;exact⟨h1,h2,h3⟩
 refine⟨a,cap,by rw[List.length_take,Nat.min_eq_left hk],λx hx=>hl x (List.mem_of_mem_take hx),λhne=>?_⟩;obtain⟨b,off,ha,hb,hcell⟩:=hc (λe=>hne (by rw[e];simp));refine⟨b,off,ha,hb,λi j x hi hj=>hcell i j x ?_ hj⟩;rw[List.getElem?_take]at hi
 split at hi
 ·exact hi
 ·cases hi
def Vm.tolN(x:Vm)(n:Int):Vm:={x with tol:=n}
theorem VOk.tolN {x:Vm} (h:VOk x) {n:Int} (h0:0<=n) (h12:n<=12):VOk (x.tolN n):=
  { h with
    chk:=by
      have e := h.chk;unfold chkE at e⊢;show (if outB x.B 1 3=true then _ else _)=(0 : Int);have ho : outB n 0 12=false := Z1t.2 ⟨h0, h12⟩;have hx : outB x.tol 0 12=false := Z1t.2 ⟨h.t0, h.t12⟩;rw[show (x.tolN n).tol=n from rfl, ho];rw[hx]at e;exact e
    t0:=h0
    t12 := h12 }
theorem Vm.At.tolN{x:Vm}(h:x.At w)(n:Int): (x.tolN n).At w:=⟨h.d,h.l⟩
theorem Zj2{x y:Vm}(hv:VOk x)(h6:x.tol<=6)(h:AlkV' y x):VOk (y.tolN (min 12 (2*x.tol)))/\∀k f g,alkV (y.tolN (min 12 (2*x.tol))) k f g=alkV x k f g:=by
 have h0:=hv.t0;refine⟨(h.ok hv).tolN (by omega) (by omega),λk f g=>?_⟩;show alkV y k f g=alkV x k f g;simp only[alkV,h.lamp,h.tn,h.b]
theorem Ziy{x:Vm}{T:List (List Int)}(hT:∀t∈T,RcpOk x t)(hd:x.D.length<=4): ∀j,j<T.length->0<prt (val (T.getD j [])):=λj hj=>by
 have h:=hT _ (Z7 [] hj);have h1:=h.s1;rw[show prt (val (T.getD j []))=(T.getD j []).sum from Z3M _ 4 (by rw[h.len];exact hd)];omega
variable{μ:Nat}
section
variable{P:Program}{ops:Array Oper}{Q:Exit->Act->World->Prop}{K:Act->World->Prop}{N:Nat}{D:List Deferred}{a:Act}{L:List (Nat×Value)}{w:World}{i d:Nat}{f:FuncId}{R:Ending->World->Prop}
theorem Zfp{args:Array Value}(F:Has N D a L)(hi:ops[i]?=some o)(hd:o.dst=some d)(hN:d<N)(hw:Region.wanted o (yielded ops a.tmps)=true)(hr:(execOp a.eval o).run P w = .ok (.enter f args) w)(hc:Calls P f args w R)(h:∀e w',R e w'->(∃ch,e = .panicked ch/\Q (.panic ch) a w')\/∃v,e = .returned v/\∀a2,Has N D a2 ((d,v)::L)->K a2 w'): wpOp P ops Q i K a w:=by
 unfold wpOp;simp only[hi,hw,if_true,Oper.wp,hr,Oper.upon];refine .inl (hc.mono λe w' hR=>?_)
 rcases h e w' hR with⟨ch,rfl,h1⟩ | ⟨v,rfl,h1⟩
 ·exact h1
 ·show K _ _
  rw[hd];exact h1 _ (F.put hN v)
theorem Has.okp{l:List Operand}{ts:Array TypeId}{vs:List Value}(F:Has N D a L)(hc:Calls P f vs.toArray w R)(hi:(ops[i]?).isSome=true:=by rfl)(C:Z7T P f=true:=by kernel_rfl)(ho:(opAt ops i).op = .call {callee:=.value (.func f),args:=l.toArray,argTypes:=ts}:=by rfl)(ha:opvs L l=some vs:=by rfl)(hd:(opAt ops i).dst=some d:=by rfl)(hN:d<N:=by decide)(hw:Z07 L ops (opAt ops i)=some true:=by rfl)(h:∀e w',R e w'->(∃ch,e = .panicked ch/\Q (.panic ch) a w')\/∃v,e = .returned v/\∀{a2},Has N D a2 ((d,v)::L)->K a2 w'): wpOp P ops Q i K a w:=Zfp F (Z02 hi) hd hN (F.want hw) (F.rc C ho ha) hc λe w' hR=>by
 rcases h e w' hR with h | ⟨v,h1,h2⟩
 ·exact .inl h
 ·exact .inr ⟨v,h1,λ_ F=>h2 F⟩
end
theorem Z6w{i: Nat}{β:Nat->Bool}(h:i<n): (0<=atI (ZY n β) ((i:Nat):Int))↔β i=true:=by
 have hm:((i:Nat):Int)∈ZY n β↔β i=true:=by
  unfold ZY;simp only[List.mem_map,List.mem_filter,List.mem_range]
  constructor
  ·rintro⟨j,⟨_,hj⟩,e⟩
   obtain rfl:j=i:=by omega
   exact hj
  ·exact λhb=>⟨i,⟨h,hb⟩,rfl⟩
 rw[<-hm];unfold atI
 cases e:(ZY n β).findIdx? (· == ((i:Nat):Int)) with
 | none =>
  rw[List.findIdx?_eq_none_iff]at e
  constructor
  ·intro q;simp at q
  ·intro q;have:=e _ q;simp at this
 | some j =>
  rw[List.findIdx?_eq_some_iff_getElem]at e;obtain⟨hj,e1,_⟩:=e;have e2:(ZY n β)[j]=((i:Nat):Int):=by simpa using e1
  exact⟨λ_=>e2▸List.getElem_mem hj,λ_=>by simp⟩
theorem key2{M:List (Value×List Int)}{i:Nat}(h:i<M.length): (M.map (·.2)).getD i []=(M.getD i (.bool true,[])).2:=by simp[Y7,h]
variable{μ:Nat}
theorem Zed:∀(xs:List Int) (i:Nat) (v:Int),i<xs.length->(xs.set i v).sum=xs.sum-xs.getD i 0+v
 | [],i,v,h=>by simp at h
 | x::xs,0,v,h=>by simp;omega
 | x::xs,i+1,v,h=>by
  have:=Zed xs i v (by simpa using h);simp only[List.set_cons_succ,List.sum_cons,this,List.getD_cons_succ];omega
theorem Zdf{xs:List Int}(h:∀n∈xs,0<=n): ∀n∈xs,n<=xs.sum:=by
 induction xs with
 | nil=>intro n hn;simp at hn
 | cons x xs ih =>
  intro n hn;have h0:0<=xs.sum:=by
   clear ih hn
   induction xs with
   | nil=>simp
   | cons y ys ih2 =>
    have:=h y (by simp);have:=ih2 λm hm=>h m (by simp only[Yc]at hm⊢;rcases hm with rfl | hm<;>simp[*]);simp only[List.sum_cons];omega
  have hx:=h x (by simp);rw[List.sum_cons]
  rcases Yc.1 hn with rfl | hn
  ·omega
  ·have:=ih (λm hm=>h m (by simp[hm])) n hn;omega
def Zh2(x:Vm)(w0:World)(b k:Nat)(nv:Value)(w:World)(e:Ending)(w':World):Prop:=∃(a:Option Addr) (xs:List Int),e = .returned (.slice a x.D.length x.D.length)/\RcpOk x xs/\w'.ownsRow w.heap.size 3 1 (.slice a x.D.length x.D.length) x.D.length (ivs xs)/\Zf w0 w' b (k+10) nv/\Ext [b] w w'
theorem Z4a(x:Vm)(hv:VOk x)(w0 w:World)(b k:Nat)(nv:Value)(h:Zf w0 w b k nv)(hk:k<=900000):
  Calls (Qy.prog μ) 14 #[.pointer (some ⟨b,0,none⟩),.agg #[.int .i64 x.B,.slice x.da x.D.length x.dc,.slice x.la x.L.length x.lc,.int .i64 x.tol]] w (Zh2 x w0 b k nv w):=by
 have HL:=h;have hbw:=Z1s HL;have hws:w0.heap.size<=w.heap.size:=HL.2.2.1.size;have E:Ext [b] w w:=Ext.refl _ _;have hd1:=hv.d1;have hd4:=hv.d4;clear h hv;have G:=((Bk.nil w).cl HL).ce E;refine(ent 31 Tryz.f14 rfl) λF=>wR λk1=>(F.bx G) @λn3 w1 _ yy F G=>(F.m) λF=>k1<|wR λk2=>(F.y (F.fd 1)) λF=>(F.y (F.lc (G.q 0))) λF=>(F.y F.ln) λF=>?_
 have hEs:=(G.e 1).size;refine Zw F rfl (by decide) (F.want rfl) (Z4B rfl (w.heap.size) (e:=3) (bytes:=8) (z:=.int .i64 0) Qy.underlying22 (by kernel_rfl) rfl (F.at rfl) (F.at rfl) (n:=x.D.length) (by omega) (by decide) (by omega)) ?_;clear F;rintro _ v' w2 F ⟨oo,hg,rfl⟩;obtain⟨n10,hn⟩:=eQ w1.heap.size;rw[<-hn]at F oo;have s10:=G.lt hn;replace G:=G.gn hg;clear hg hn;replace G:=G.co oo;have oo:=G.o 0;rw[show List.replicate x.D.length (Value.int .i64 0)=ivs (List.replicate x.D.length 0) by simp[ivs]]at oo;replace G:=G.rO 0 oo;clear oo;refine(F.m) λF=>k2<|wQ λk3=>wR λk4=>(F.m) λF=>(F.m) λF=>(F.bs G 1 #[.int .i64 1,.int .i64 2,.int .i64 3,.int .i64 6] Qy.zeroValue3) @λn13 w3 _ yy F G=>(F.k (Zds w0 _ b _ nv n13 _ [1,2,3,6] (G.l 4) (by omega) (G.q 0) (by omega) (by decide) (by decide))) ?_
 rintro _ w4 ⟨v,rfl,hvm,HL,e9⟩;refine⟨_,rfl,λF=>?_⟩;replace G:=G.xl 4 e9 HL;have hv6:1<=v/\v<=6:=by simp only[Yc,Ya,or_false]at hvm;omega
 refine(F.k (Z84 w0 _ b _ nv 1 v (G.l 4) (by omega) (by omega) (by omega) (by omega) (by omega))) ?_;rintro _ w5 ⟨n,rfl,hn1,hn2,HL,e9⟩;refine⟨_,rfl,λF=>?_⟩;replace G:=(G.xl 4 e9 HL).d 0;refine(F.m) λF=>?_;rw[show n=n-((0:Nat):Int) by omega]at F;refine k4<|Yh ?_
 replace G:=G.rL 3 (show Zf w0 w5 b (k+2+0) nv from Zo (G.l 3) (by omega));refine lpB (F.b [0,5]) (G.b [1,2]) (6) (λi Lv Sv W=>∃xs:List Int,Lv=[(6,.int .i64 (n-((i:Nat):Int)))]/\Sv=[.l w0 b (k+2+i) nv]/\W.ownsRow w.heap.size 3 1 (.slice (some ⟨n10,0,none⟩) x.D.length x.D.length) x.D.length (ivs xs)/\xs.length=x.D.length/\(∀m∈xs,0<=m)/\xs.sum=i/\(i:Int)<=n) ⟨_,_,F.u,G.u,_,rfl,rfl,(G.o 0),(by simp),(by simp),(by simp),(by omega)⟩ ?_;clear F G;rintro i _ w6 _ _ hi1 ⟨xs,rfl,rfl,oo,hxl,hx0,hxs,hin⟩ F G;replace G:=(G.z).co oo;refine wQ λk5=>wR λk6=>(F.m) λF=>(F.y F.gt) λF=>k6<|F.ci (λhc17=>?_) (λhc17=>?_)
 ·refine Yi<|k5<|wQ λk7=>Yh<|Yg<|(F.m) λF=>(F.m) λF=>(F.m) λF=>(F.y F.ln) λF=>(F.y F.sb) λF=>(F.k (Z0h w0 _ b _ nv (((x.D.length:Nat):Int)-1) (G.l 1) (by omega) (by omega) (by omega))) ?_
  rintro _ w7 ⟨u,rfl,hu0,hu1,HL,e9⟩;refine⟨_,rfl,λF=>?_⟩;replace G:=G.xl 1 e9 HL;obtain⟨u,rfl⟩:=Int.eq_ofNat_of_zero_le hu0;have hux:u<xs.length:=by rw[hxl];omega
  have oo:=G.o 0;have HS:=Lib.hid (ZS oo hxl.symm [] (by simp));have hil:=Z20 xs;have hm0:=hx0 _ (Z7 0 hux);have hmS:=Zdf hx0 _ (Z7 0 hux);replace G:=G.hr [];obtain⟨xb8,xo8,xa8,xr8⟩:=HS.out u (by omega);refine(F.y (F.is 1 xa8)) λF=>(F.y (F.l1 (xr8 _ (G.e 0)) 0)) λF=>(F.y F.ad) λF=>?_;obtain⟨xb9,xo9,xa9,xr9⟩:=HS.out u (by omega);refine(F.y (F.is 1 xa9)) λF=>?_;replace G:=G.d 0;obtain⟨⟨u0,hcu⟩,hfu,hst⟩:=Z3b (G.o 0) xa9 (j:=u) (p:=xo9+((u:Nat):Int).toNat*1) (by first | omega | (simp;omega)) (by omega);refine Z1k rfl (F.want rfl) (ZW rfl (F.at rfl) (F.at rfl) rfl (by kernel_rfl) hcu hfu) ?_;intro w8 hw;obtain⟨hown',hg⟩:=hst _ _ hw;replace G:=G.gr 0 hg hown';clear hst hcu hfu hw hg hown';have oo:=G.o 0;rw[Z21]at oo;have hst:=Zed xs u (xs.getD u 0+1) hux;have hx2:∀m∈xs.set u (xs.getD u 0+1),0<=m:=by intro m hm;rcases List.mem_or_eq_of_mem_set hm with hm | rfl;(· exact hx0 m hm);(· omega)
  replace G:=G.rO 0 oo;clear oo;refine k7<|Yg<|(F.m) λF=>(F.y F.sb) λF=>?_
  rw[show n-((i:Nat):Int)-1=n-((i+1:Nat):Int) by omega]at F;refine(F.m) λF=>?_;replace G:=G.rL 1 (show Zf w0 w8 b (k+2+(i+1)) nv from Zo (G.l 1) (by omega));show _/\_;exact⟨by omega,_,_,F.u,G.u,_,rfl,rfl,(G.o 0),(by rw[List.length_set];exact hxl),hx2,(by omega),(by omega)⟩
 ·refine wp_exit<|k3<|wR λk10=>(F.m) λF=>(F.m) λF=>k10<|(F.r1) ?_
  have oo:=G.o 0;refine⟨_,xs,rfl,⟨hxl,λm hm=>⟨hx0 m hm,?_⟩,by omega,by omega⟩,oo,Zo (G.l 1) (by omega),(G.e 3)⟩;have:=Zdf hx0 m hm;omega
variable{μ:Nat}
def Zh4(x:Vm)(w0:World)(b k:Nat)(nv:Value)(w:World)(e:Ending)(w':World):Prop:=∃(a:Option Addr) (c:Nat) (S:List (Value×List Int)),e = .returned (.slice a S.length c)/\S.length<=6/\(∀p∈S,RcpOk x p.2) /\
 w'.ownsRow w.heap.size 22 1 (.slice a S.length c) S.length (S.map (·.1))/\FamT w' w.heap.size S/\Zf w0 w' b (k+100) nv/\Ext [b] w w'
theorem Z8w(x:Vm)(hv:VOk x)(w0 w:World)(b k:Nat)(nv:Value)(h:Zf w0 w b k nv)(hk:k<=800000):
  Calls (Qy.prog μ) 20 #[.pointer (some ⟨b,0,none⟩),.agg #[.int .i64 x.B,.slice x.da x.D.length x.dc,.slice x.la x.L.length x.lc,.int .i64 x.tol],.int .i64 6] w (Zh4 x w0 b k nv w):=by
 have HL:=h;have hbw:=Z1s HL;have hb0:=HL.1;have hws:w0.heap.size<=w.heap.size:=HL.2.2.1.size;have E:Ext [b] w w:=Ext.refl _ _;have HV:=Lib.hid hv;clear h hv;have G:=((Bk.nil w).cl HL).ce E;refine(ent 23 Tryz.f20 rfl) λF=>wR λk1=>(F.bx G) λyy F G=>(F.m) λF=>k1<|wR λk2=>(F.m) λF=>k2<|wQ λk3=>wR λk4=>(F.m) λF=>(F.m) λF=>(F.k (Z0h w0 _ b _ nv 6 (G.l 2) (by omega) (by omega) (by omega))) ?_
 rintro _ w2 ⟨u,rfl,hu0,hu1,HL,e9⟩;refine⟨_,rfl,λF=>?_⟩;replace G:=G.xl 2 e9 HL;obtain⟨u,rfl⟩:=Int.eq_ofNat_of_zero_le hu0;refine(F.m) λF=>?_;have hb4:=Z3 (G.q 0);have hbb:=Z1s (G.l 2);have hwR0:w.heap.size<=w2.heap.size:=by exact(G.e 1).size
 have oo:w2.ownsRow w2.heap.size 22 1 (.slice none 0 0) 0 (([]:List (Value×List Int)).map (·.1)):=World.ownsRow_nil _ _ _ _;have fam:FamT w2 w2.heap.size []:=Z70 _ _;replace G:=((G.hr [b]).co oo).cf fam;refine k4<|Yh ?_
 replace G:=G.rL 5 (show Zf w0 w2 b (k+1+10*0) nv from Zo (G.l 5) (by omega));refine lpB (F.b [0,4]) (G.b [2,3,4]) (u) (λi Lv Sv W=>∃va:Option Addr,∃vc:Nat,∃S:List (Value×List Int),Lv=[(7,.slice va S.length vc),(8,.int .i64 ((u-i:Nat):Int))]/\Sv=[.l w0 b (k+1+10*i) nv]/\W.ownsRow w2.heap.size 22 1 (.slice va S.length vc) S.length (S.map (·.1))/\FamT W w2.heap.size S/\(∀p∈S,RcpOk x p.2)/\S.length=i/\i<=u) ⟨_,_,F.u,G.u,none,0,[],rfl,rfl,(G.o 1),(G.f 0),(by simp),rfl,(by omega)⟩ ?_;clear F G;rintro i _ w3 _ _ hi1 ⟨va,vc,S,rfl,rfl,oo,fam,hS,hSl,hin⟩ F G;replace G:=((G.z).co oo).cf fam;refine wQ λk5=>wR λk6=>(F.m) λF=>(F.y F.gt) λF=>k6<|F.ci (λhc13=>?_) (λhc13=>?_)
 ·refine Yi<|k5<|wQ λk7=>Yh<|Yg<|(F.m) λF=>(F.m) λF=>(F.y (F.lb (G.q 4))) λF=>?_
  have fam:=G.f 0;have hflt:=Lib.hid (Za4 fam);obtain⟨B1,hB1⟩:∃B1,B1=w3.heap.size:=⟨_,rfl⟩;rw[<-hB1]at hflt;have hB1w:w2.heap.size<=B1:=by rw[hB1];exact(G.e 3).size
  refine(F.k (Z4a x HV.out w0 _ b _ nv (G.l 2) (by omega))) ?_;rintro _ w4 ⟨ra,xs,rfl,hrc,ro,HL,e9⟩;refine⟨_,rfl,λF=>?_⟩;replace G:=G.xl 2 e9 HL;rw[<-hB1]at ro;have hxl:=hrc.len;have fam:=G.f 0;have fam2:=Z4x (Z4w (b1:=B1) (L:=[(Value.slice ra x.D.length x.D.length,xs)]) ⟨λp hp=>(by obtain rfl:p=(Value.slice ra x.D.length x.D.length,xs):=(by simpa using hp);rw[show ((Value.slice ra x.D.length x.D.length,xs):Value×List Int).2.length=x.D.length from hxl];exact ro),List.pairwise_singleton _ _⟩ fam hflt.out hB1w) (M:=S++[(Value.slice ra x.D.length x.D.length,xs)]) List.perm_append_comm;clear ro;have fam:=fam2;clear fam2;obtain⟨P,hP⟩:∃P,P=S++[(Value.slice ra x.D.length x.D.length,xs)]:=⟨_,rfl⟩;have hPl:S.length+1=P.length:=by rw[hP,Ym];rfl
  rw[<-hP]at fam;have hPS:∀p∈P,RcpOk x p.2:=by intro p hp;rw[hP]at hp;rcases List.mem_append.1 hp with hp | hp;(· exact hS p hp);(· simp only[Yc,Ya,or_false]at hp;subst hp;exact hrc)
  replace G:=G.rF 0 fam;clear fam;refine(F.bs G 1 #[.slice ra x.D.length x.D.length] Qy.zeroValue22) λyy F G=>?_;have hEs:=(G.e 4).size;refine Zw F rfl (by decide) (F.want rfl) (ZJ rfl (w2.heap.size) (e:=22) (size:=1) (bytes:=24) Qy.underlying25 (by kernel_rfl) (by decide) (F.at rfl) (G.o 2) (F.at rfl) (G.q 0) rfl (by simp[Value.oneCell']) (by omega) (by omega) (by omega)) ?_;clear F;rintro _ v' w6 F ⟨hown',hg⟩;obtain⟨va21,vc21,rfl⟩:=Zm hown';replace G:=(G.d 0).gr 1 hg hown';clear hg hown';have oo:=G.o 1;rw[show S.map (·.1)++[Value.slice ra x.D.length x.D.length]=P.map (·.1) by rw[hP,List.map_append];rfl,hPl]at oo;rw[hPl]at F;replace hS:=hPS;replace hSl:P.length=i+1:=by omega
  replace G:=G.rO 1 oo;clear oo;refine(F.m) λF=>k7<|Yg<|(F.m) λF=>(F.y F.sb) λF=>?_
  rw[show (((u-i:Nat):Int)-1)=((u-(i+1):Nat):Int) by omega]at F;refine(F.m) λF=>?_;replace G:=G.rL 2 (show Zf w0 w6 b (k+1+10*(i+1)) nv from Zo (G.l 2) (by omega));show _/\_;exact⟨by omega,_,_,F.u,G.u,_,_,_,rfl,rfl,(G.o 1),(G.f 0),hS,hSl,(by omega)⟩
 ·refine wp_exit<|k3<|wR λk8=>(F.m) λF=>(F.m) λF=>k8<|(F.r1) ?_
  have fam:=G.f 0;have oo:=G.o 1;exact⟨va,vc,S,rfl,by omega,hS,ZP oo hwR0,Z4Z fam hwR0,Zo (G.l 2) (by omega),(G.e 5)⟩
variable{μ:Nat}
def AtB(b:Nat)(x:Vm)(w:World):Prop:=∀W,Ext [b] w W->x.At W
theorem AtB.ext{x:Vm}(h:AtB b x w)(e:Ext [b] w W): AtB b x W:=λV k=>h V (e.trans k)
theorem AtB.at{x:Vm}(h:AtB b x w): x.At w:=h w (Ext.refl _ _)
def Zh3(x:Vm)(w0:World)(b k:Nat)(nv:Value)(w:World)(e:Ending)(w':World):Prop:=∃(a:Option Addr) (c:Nat) (xs:List Int),e = .returned (.slice a xs.length c)/\Z1U x xs/\w'.ownsRow w.heap.size 3 1 (.slice a xs.length c) xs.length (ivs xs)/\Zf w0 w' b (k+20) nv/\Ext [b] w w'
theorem Zjy{s p:Int}(h0:0<=s)(h1:s<=240)(hp:1<=p): 0<=s / p/\s / p<=240:=⟨Int.ediv_nonneg h0 (by omega),Int.le_trans (Int.ediv_le_self _ h0) h1⟩
theorem Z8i(x:Vm)(hv:VOk x)(w0 w:World)(b k:Nat)(nv:Value)(h:Zf w0 w b k nv)(hk:k<=900000)(hx:AtB b x w):
  Calls (Qy.prog μ) 25 #[.pointer (some ⟨b,0,none⟩),.agg #[.int .i64 x.B,.slice x.da x.D.length x.dc,.slice x.la x.L.length x.lc,.int .i64 x.tol]] w (Zh3 x w0 b k nv w):=by
 have HL:=h;have hbw:=Z1s HL;have hb0:=HL.1;have hws:w0.heap.size<=w.heap.size:=HL.2.2.1.size;have E:Ext [b] w w:=Ext.refl _ _;have HX:=Lib.hid hx;have HV:=Lib.hid hv;have hb1:=hv.b1;have hb3:=hv.b3;obtain⟨bn,hbn⟩:∃bn:Nat,x.B=bn:=⟨x.B.toNat,by omega⟩;clear h hv hx;have G:=((Bk.nil w).cl HL).ce E;refine(ent 49 Tryz.f25 rfl) λF=>wR λk1=>(F.bx G) λyy F G=>(F.m) λF=>k1<|wQ λk2=>?_
 have G2:=G;refine(wD [b] none G) λG=>(F.zr 0 (G.t 0) λhS=>F.lb (G2.k 0 hS)) λF=>(F.z 1 (G.t 0) F.mo) λF=>(F.zr 2 (G.t 0) λhS=>F.lb (G2.k 0 hS)) λF=>(aO 3)<|(F.ok (Z4a x HV.out w0 _ b _ nv (G.l 3) (by omega))) ?_
 rintro _ w3 ⟨ra,rl,rfl,hrl,ro,HL,e9⟩;refine⟨_,rfl,λF=>?_⟩;replace G:=G.xl 3 e9 HL;refine .intro (G.t 0) ?_;have hso:=Z5t (μ:=μ) x HV.out bn hbn rl hrl.len (λn hn=>hrl.bd n hn) ra x.D.length w3 (HX.out _ (G.e 2)) (by rw[hrl.len];exact Zu ro hrl.len.symm);rw[hrl.len]at hso;have hbX:=Z1s (G.l 3);refine(aO 4)<|(F.ok (hso)) ?_
 rintro _ w4 ⟨sa,rfl,so,e9⟩;refine⟨_,rfl,λF=>?_⟩;replace G:=G.ex e9;refine .intro (G.t 0) ?_;have hEs0:=(G.e 2).size;have hsl:(sumL x (val rl) bn).length=bn:=by simp[sumL]
 have HSS:=Lib.hid (ZS so hsl.symm [b] (by simpa using hbX));clear ro so hso;have hs1:=hrl.s1;have hs6:=hrl.s6;have hsb:=Lib.hid (Z2z HV.out hrl.tub bn);replace G:=G.hr [b];refine(F.z 5 (G.t 1) F.mo) λF=>(F.z 6 (G.t 1) F.xt) λF=>(F.z 7 (G.t 1) F.xt) λF=>(F.z 8 (G.t 1) F.mo) λF=>(F.z 9 (G.t 1) F.mo) λF=>(aD)<|k2<|wR λk3=>(F.m) λF=>k3<|wQ λk4=>wQ λk5=>?_
 have oo:w4.ownsRow w4.heap.size 3 1 (.slice none 0 0) 0 (ivs []):=World.ownsRow_nil _ _ _ _;have hwS0:w.heap.size<=w4.heap.size:=(by exact hEs0);replace G:=G.co oo;refine Yg<|(F.m) λF=>k5<|Yh ?_
 replace G:=G.rL 5 (show Zf w0 w4 b (k+10+0) nv from Zo (G.l 5) (by omega));refine lpB (F.b [0,3,5,6]) (G.b [1,3,4]) (bn) (λi Lv Sv W=>∃va:Option Addr,∃vc:Nat,∃xs:List Int,Lv=[(7,.slice va i vc),(8,.int .i64 ((i:Nat):Int))]/\Sv=[.l w0 b (k+10+i) nv]/\W.ownsRow w4.heap.size 3 1 (.slice va i vc) i (ivs xs)/\xs.length=i/\(∀m∈xs,0<=m/\m<=9)) ⟨_,_,F.u,G.u,none,0,[],rfl,rfl,(G.o 0),rfl,(by simp)⟩ ?_;clear F G;rintro i _ w5 _ _ hi1 ⟨va,vc,xs,rfl,rfl,oo,hxl,hxb⟩ F G;replace G:=(G.z).co oo;refine wQ λk6=>wR λk7=>(F.m) λF=>(F.y (F.fd 0)) λF=>(F.y (F.lc (G.q 3))) λF=>?_;rw[hbn]at F;refine(F.y F.ls) λF=>k7<|F.ci (λhc20=>?_) (λhc20=>?_)
 ·refine Yi<|k6<|wQ λk8=>Yh ?_
  obtain⟨hq0,hq1⟩:=hsb.out _ (Z7 0 (show i<(sumL x (val rl) bn).length by omega));obtain⟨hd0,hd1⟩:=Zjy hq0 hq1 hs1;have G4:=G;refine(wD [b] (some 13) G) λG=>(F.z 0 (G.t 0) F.mo) λF=>(F.z 1 (G.t 0) F.mo) λF=>(F.z 2 (G.t 0) F.mo) λF=>?_;obtain⟨xb9,xo9,xa9,xr9⟩:=HSS.out i (by omega);refine(F.z 3 (G.t 0) (F.is 1 xa9)) λF=>(F.zR 4 [6,10,11,12,13] (G.t 0) λhS=>F.l1 (xr9 _ ((G4.e 2).trans hS)) 0) λF=>(F.z 5 (G.t 0) F.mo) λF=>?_;refine F.z 6 (G.t 0) (Zgb rfl (F.at rfl) (F.at rfl) (by omega) (by omega) (by omega)) (h:=λF=>?_);refine(F.z 7 (G.t 0) F.mo) λF=>(aO 8)<|(F.obs G 1 #[.int .i64 0,.int .i64 0,.int .i64 1] Qy.zeroValue3) @λn31 w7 _ yy F G=>.intro (G.t 1)<|(aO 9)<|(F.ok (Zds w0 _ b _ nv n31 _ [0,0,1] (G.l 3) (by omega) (G.q 0) (by omega) (by decide) (by decide))) ?_
  rintro _ w8 ⟨v,rfl,hvm,HL,e9⟩;refine⟨_,rfl,λF=>?_⟩;replace G:=G.xl 3 e9 HL;refine .intro (G.t 1) ?_;have hv1:0<=v/\v<=1:=by simp only[Yc,Ya,or_false]at hvm;omega
  replace G:=G.d 0;refine(F.z 10 (G.t 0) F.ad) λF=>(F.z 11 (G.t 0) F.mn) λF=>(aO 12)<|(F.obs G 1 #[.int .i64 (min 9 ((((sumL x (val rl) bn).getD i 0) / rl.sum)+v))] Qy.zeroValue3) λyy F G=>.intro (G.t 1) ?_
  have hzE:=(G.e 4).size;replace G:=G.d 1;refine Z32 (i:=13) (by kernel_rfl) (Zij F rfl rfl (by decide) (F.want rfl) (ZJ rfl (w4.heap.size) (e:=3) (size:=1) (bytes:=8) Qy.underlying22 (by kernel_rfl) (by decide) (F.at rfl) (G.o 1) (F.at rfl) (G.q 0) rfl (by simp[Value.oneCell']) (by omega) (by omega) (by omega)) ?_);clear F;rintro _ v' w10 F ⟨hown',hg⟩;obtain⟨va36,vc36,rfl⟩:=Zm hown';replace G:=(G.d 0).gr 0 hg hown';clear hg hown';refine .intro (gone (by kernel_rfl)) ?_;have oo:=G.o 0;rw[Z15]at oo;have hx2:(xs++[min 9 ((sumL x (val rl) bn).getD i 0 / rl.sum+v)]).length=i+1:=by rw[Ym,hxl];rfl
  have hx3:∀m∈xs++[min 9 ((sumL x (val rl) bn).getD i 0 / rl.sum+v)],0<=m/\m<=9:=by intro m hm;rcases List.mem_append.1 hm with hm | hm;(· exact hxb m hm);(· simp only[Yc,Ya,or_false]at hm;subst hm;omega)
  replace G:=G.rO 0 oo;clear oo;refine(F.z 14 (gone (by kernel_rfl)) F.mo) λF=>(aD)<|k8<|Yg<|(F.m) λF=>(F.y F.ad) λF=>(F.m) λF=>?_
  replace G:=G.rL 1 (show Zf w0 w10 b (k+10+(i+1)) nv from Zo (G.l 1) (by omega));show _/\_;exact⟨by omega,_,_,F.u,G.u,_,_,_,rfl,rfl,(G.o 0),hx2,hx3⟩
 ·refine wp_exit ?_
  have oo:=G.o 0;rw[show i=bn by omega]at F oo hxl;replace G:=G.rO 0 oo;clear oo;refine k4<|wQ λk10=>wR λk11=>(F.m) λF=>?_
  replace G:=G.d 2;refine(F.k (Z7i w0 _ b _ nv 4 (G.l 1) (by omega) (by omega) (by omega))) ?_;rintro _ w11 ⟨r,rfl,HL,e9⟩;refine⟨_,rfl,λF=>?_⟩;replace G:=G.xl 1 e9 HL;refine k11<|F.cb (λhc38=>?_) (λhc38=>?_)
  ·refine Yg<|(F.m) λF=>(F.m) λF=>(F.y (F.fd 0)) λF=>(F.y (F.lc (G.q 2))) λF=>(F.y F.sb) λF=>?_
   rw[hbn]at F;refine(F.k (Z0h w0 _ b _ nv (((bn:Nat):Int)-1) (G.l 1) (by omega) (by omega) (by omega))) ?_;rintro _ w12 ⟨u,rfl,hu0,hu1,HL,e9⟩;refine⟨_,rfl,λF=>?_⟩;replace G:=G.xl 1 e9 HL;obtain⟨u,rfl⟩:=Int.eq_ofNat_of_zero_le hu0;refine(F.m) λF=>(F.k (Z0h w0 _ b _ nv 9 (G.l 1) (by omega) (by omega) (by omega))) ?_;rintro _ w13 ⟨z,rfl,hz0,hz1,HL,e9⟩;refine⟨_,rfl,λF=>?_⟩;replace G:=G.xl 1 e9 HL;have oo:=G.o 0;have HS:=Lib.hid (ZS oo hxl.symm [] (by simp));have hil:=Z20 xs;replace G:=G.hr [];obtain⟨xb12,xo12,xa12,xr12⟩:=HS.out u (by omega);refine(F.y (F.is 1 xa12)) λF=>?_;replace G:=G.d 0;obtain⟨⟨u0,hcu⟩,hfu,hst⟩:=Z3b (G.o 0) xa12 (j:=u) (p:=xo12+((u:Nat):Int).toNat*1) (by first | omega | (simp;omega)) (by omega);refine Z1k rfl (F.want rfl) (ZW rfl (F.at rfl) (F.at rfl) rfl (by kernel_rfl) hcu hfu) ?_;intro w14 hw;obtain⟨hown',hg⟩:=hst _ _ hw;replace G:=G.gr 0 hg hown';clear hst hcu hfu hw hg hown';have oo:=G.o 0;rw[Z21]at oo;have hx2:(xs.set u z).length=bn:=by rw[List.length_set];exact hxl
   have hx3:∀m∈xs.set u z,0<=m/\m<=9:=by intro m hm;rcases List.mem_or_eq_of_mem_set hm with hm | rfl;(· exact hxb m hm);(· omega)
   replace G:=G.rO 0 oo;clear oo;refine k10<|wR λk13=>(F.m) λF=>(F.m) λF=>k13<|(F.r1) ?_
   have oo:=G.o 0;exact⟨va,vc,xs.set u z,by rw[hx2],⟨by rw[hx2,hbn],hx3⟩,by rw[hx2];exact ZP oo hwS0,Zo (G.l 1) (by omega),(G.e 3)⟩
  ·refine Yi<|k10<|wR λk14=>(F.m) λF=>(F.m) λF=>k14<|(F.r1) ?_
   have oo:=G.o 0;exact⟨va,vc,xs,by rw[hxl],⟨by rw[hxl,hbn],hxb⟩,by rw[hxl];exact ZP oo hwS0,Zo (G.l 1) (by omega),(G.e 3)⟩
variable{μ:Nat}
theorem Z7Y{B:Int}:∀(ds met:List (List Int)),(∀d∈ds,numE d B 9=0)->(met++ds).Nodup->dyeE B met ds=0
 | [],_,_,_=>rfl
 | d::ds,met,h,hn=>by
  rw[dyeE,if_neg (by simp[h d (by simp)])];have h1:d ∉ met:=λhm=>by
   rw[List.nodup_append]at hn;exact hn.2.2 d hm d (by simp) rfl
  rw[if_neg h1];exact Z7Y ds (met++[d]) (λe he=>h e (by simp[he])) (by simpa using hn)
theorem Z5U{B:Int}:∀(ls:List (List Int)),(∀l∈ls,numE l B 3=0/\l.sum≠0)->Z24 B ls=0
 | [],_=>rfl
 | l::ls,h=>by
  obtain⟨h1,h2⟩:=h l (by simp);rw[Z24,if_neg (by simp[h1]),if_neg h2];exact Z5U ls λm hm=>h m (by simp[hm])
theorem ZkV{x:Vm}(b1:1<=x.B)(b3:x.B<=3)(d1:1<=x.D.length)(d4:x.D.length<=4)(dl:∀p∈x.D,(p.2.length:Int)=x.B/\∀n∈p.2,0<=n/\n<=9)(nd:(x.D.map (·.2)).Nodup)(l1:1<=x.L.length)(l3:x.L.length<=3)(ll:∀p∈x.L,(p.2.length:Int)=x.B/\∀n∈p.2,0<=n/\n<=3)(ls:∀p∈x.L,p.2.sum≠0)(t0:0<=x.tol)(t12:x.tol<=12):VOk x:=by
 refine⟨?_,b1,b3,d1,d4,dl,l1,l3,ll,t0,t12⟩;have h2:sizE ((x.D.map (·.2)).length:Nat) 4=0:=Z9o (by simp;omega) (by simp;omega);have h4:sizE ((x.L.map (·.2)).length:Nat) 3=0:=Z9o (by simp;omega) (by simp;omega);have h3:dyeE x.B [] (x.D.map (·.2))=0:=Z7Y _ _ (λd hd=>by obtain⟨p,hp,rfl⟩:=List.mem_map.1 hd;exact Z9h (dl p hp).1 (dl p hp).2) (by simpa using nd);have h5:Z24 x.B (x.L.map (·.2))=0:=Z5U _ (λd hd=>by obtain⟨p,hp,rfl⟩:=List.mem_map.1 hd;exact⟨Z9h (ll p hp).1 (ll p hp).2,ls p hp⟩);rw[chk6 (Z1t.2 ⟨b1,b3⟩) h2 h3 h4 h5,Z1t.2 ⟨t0,t12⟩]
 rfl
theorem Zap{cs:List Value}(h:w.ownsRow base e size (.slice a m c) n cs): n<=c:=by
 rcases h.2 with⟨hv,hn⟩ | ⟨g,cap,cur,hv,-,-,hn,-⟩
 ·injection hv with h1 h2 h3;omega
 ·injection hv with h1 h2 h3;omega
theorem ZhQ{b2: Nat}{M:List (Value×List Int)}(oo:w.ownsRow base 22 1 (.slice a M.length c) M.length (M.map (·.1)))(fam:FamT w b2 M)(e:Ext [b] w W)(h1:b<base)(h2:b<b2): Z0v W a M:=
 Z0W (Z0t oo e (by simpa using h1)) (Z0L fam λv n xs h=>Z0t h e (by simpa using h2))
def Zh5(dm:Nat)(w0:World)(b k:Nat)(nv:Value)(w:World)(e:Ending)(w':World):Prop:=∃x:Vm,e = .returned (.agg #[.int .i64 x.B,.slice x.da x.D.length x.dc,.slice x.la x.L.length x.lc,.int .i64 x.tol])/\VOk x/\(x.D.length<=dm/\x.D.length<=x.dc/\x.tol<=6)/\AtB b x w'/\Zf w0 w' b (k+100) nv/\Ext [b] w w'
theorem Zej(dm:Nat)(hdm1:1<=dm)(hdm:dm<=4)(w0 w:World)(b k:Nat)(nv:Value)(h:Zf w0 w b k nv)(hk:k<=800000):
  Calls (Qy.prog μ) 13 #[.pointer (some ⟨b,0,none⟩),.int .i64 ((dm:Nat):Int)] w (Zh5 dm w0 b k nv w):=by
 have HL:=h;have hbw:=Z1s HL;have hb0:=HL.1;have hws:w0.heap.size<=w.heap.size:=HL.2.2.1.size;have E:Ext [b] w w:=Ext.refl _ _;clear h;have G:=((Bk.nil w).cl HL).ce E;refine(ent 66 Tryz.f13 rfl) λF=>wR λk1=>(F.al G Qy.zeroValue27) @λn4 w1 _ yy F G=>k1<|wR λk2=>(F.m) λF=>(F.k (Z84 w0 _ b _ nv 1 3 (G.l 2) (by omega) (by omega) (by omega) (by omega) (by omega))) ?_
 rintro _ w2 ⟨bz,rfl,hbz1,hbz2,HL,e9⟩;refine⟨_,rfl,λF=>?_⟩;replace G:=G.xl 2 e9 HL;obtain⟨bn,rfl⟩:=Int.eq_ofNat_of_zero_le (show 0<=bz by omega);refine(F.m) λF=>(F.m) λF=>(F.k (Z0h w0 _ b _ nv 6 (G.l 2) (by omega) (by omega) (by omega))) ?_;rintro _ w3 ⟨u,rfl,hu0,hu1,HL,e9⟩;refine⟨_,rfl,λF=>?_⟩;replace G:=G.xl 2 e9 HL;refine(F.bs G 1 #[.int .i64 0,.int .i64 1,.int .i64 1,.int .i64 2,.int .i64 u] Qy.zeroValue3) @λn15 w4 _ yy F G=>(F.k (Zds w0 _ b _ nv n15 _ [0,1,1,2,u] (G.l 3) (by omega) (G.q 0) (by omega) (by simp) (by simp))) ?_;rintro _ w5 ⟨tl,rfl,htm,HL,e9⟩;refine⟨_,rfl,λF=>?_⟩;replace G:=G.xl 3 e9 HL;have htl:0<=tl/\tl<=6:=by simp only[Yc,Ya,or_false]at htm;omega
 replace G:=G.d 0;refine(F.y (F.bv #[.int .i64 ((bn:Nat):Int),.slice none 0 0,.slice none 0 0,.int .i64 tl])) λF=>(F.al G Qy.zeroValue27) @λn5 w6 _ yy F G=>(F.sr G 0) λG=>k2<|wQ λk3=>wR λk4=>(F.m) λF=>(F.m) λF=>(F.k (Z84 w0 _ b _ nv 1 ((dm:Nat):Int) (G.l 3) (by omega) (by omega) (by omega) (by omega) (by omega))) ?_
 rintro _ w8 ⟨n,rfl,hn1,hn2,HL,e9⟩;refine⟨_,rfl,λF=>?_⟩;replace G:=G.xl 3 e9 HL;refine(F.m) λF=>?_;rw[show n=n-((0:Nat):Int) by omega]at F;have hb4:=Z3 (G.q 1);have hb5:=Z3 (G.q 0);have hbb:=Z1s (G.l 3);have hwR0:w.heap.size<=w8.heap.size:=by exact(G.e 2).size
 have oo:w8.ownsRow w8.heap.size 22 1 (.slice none 0 0) 0 (([]:List (Value×List Int)).map (·.1)):=World.ownsRow_nil _ _ _ _;have fam:FamT w8 w8.heap.size []:=Z70 _ _;replace G:=((G.hr [b,n5]).co oo).cf fam;refine k4<|Yh ?_
 replace G:=G.rL 6 (show Zf w0 w8 b (k+4+10*0) nv from Zo (G.l 6) (by omega));refine lpB (F.b [0,4,5]) (G.b [2,4,5]) (dm) (λi Lv Sv W=>∃da:Option Addr,∃dc:Nat,∃O:List (Value×List Int),Lv=[(6,.int .i64 (n-((i:Nat):Int)))]/\Sv=[.q n5 (#[.int .i64 ((bn:Nat):Int),.slice da O.length dc,.slice none 0 0,.int .i64 tl]) 27,.l w0 b (k+4+10*i) nv]/\W.ownsRow w8.heap.size 22 1 (.slice da O.length dc) O.length (O.map (·.1))/\FamT W w8.heap.size O/\(∀p∈O,(p.2.length:Int)=bn/\∀m∈p.2,0<=m/\m<=9)/\(O.map (·.2)).Nodup/\O.length<=i/\(0<i->0<O.length)/\(i:Int)<=n) ⟨_,_,F.u,G.u,none,0,[],rfl,rfl,(G.o 1),(G.f 0),(by simp),(by simp),(by simp),(by simp),(by omega)⟩ ?_;clear F G;rintro i _ w9 _ _ hi1 ⟨da,dc,O,rfl,rfl,oo,fam,hOB,hnd,hOl,hO1,hin⟩ F G;replace G:=((G.z).co oo).cf fam;refine wQ λk5=>wR λk6=>(F.m) λF=>(F.y F.gt) λF=>k6<|F.ci (λhc22=>?_) (λhc22=>?_)
 ·refine Yi<|k5<|wQ λk7=>Yh<|wR λk8=>(F.m) λF=>(F.y (F.fd 0)) λF=>(F.y (F.lc (G.q 2))) λF=>?_
  have fam:=G.f 0;have hflt:=Lib.hid (Za4 fam);obtain⟨B1,hB1⟩:∃B1,B1=w9.heap.size:=⟨_,rfl⟩;rw[<-hB1]at hflt;have hB1w:w8.heap.size<=B1:=by rw[hB1];exact(G.e 4).size
  refine(F.k (Z5x w0 _ b _ nv bn 9 (G.l 3) (by omega) (by omega) (by omega) (by omega))) ?_;rintro _ w10 ⟨ra,rc,xs,rfl,hxl,hxb,ro,HL,e9⟩;refine⟨_,rfl,λF=>?_⟩;replace G:=G.xl 3 e9 HL;rw[<-hB1]at ro;replace G:=G.co ro;refine(F.m) λF=>k8<|wR λk9=>(F.y (F.fd 1)) λF=>(F.y (F.lc (G.q 3))) λF=>(F.m) λF=>?_
  have ro:=G.o 0;have fam:=G.f 1;have oo:=G.o 2;have hin2:=Zf4 (μ:=μ) O xs da ra dc rc w10 (Z0W oo fam) (by rw[hxl];exact Zu ro hxl.symm) (by omega) (λp hp=>by have:=(hOB p hp).1;omega) (by omega);rw[hxl]at hin2;refine(F.k (hin2)) ?_;rintro _ w11 ⟨rfl,e9⟩;refine⟨_,rfl,λF=>?_⟩;replace G:=G.ex e9;clear hin2;refine(F.y F.nd) λF=>k9<|F.ci (λhc33=>?_) (λhc33=>?_)
  ·have ro:=G.o 0
   have fam:=G.f 1;have fam2:=Z4x (Z4w (b1:=B1) (L:=[(Value.slice ra bn rc,xs)]) ⟨λp hp=>(by obtain rfl:p=(Value.slice ra bn rc,xs):=(by simpa using hp);rw[show ((Value.slice ra bn rc,xs):Value×List Int).2.length=bn from hxl];exact ro),List.pairwise_singleton _ _⟩ fam hflt.out hB1w) (M:=O++[(Value.slice ra bn rc,xs)]) List.perm_append_comm;have fam:=fam2;clear fam2;obtain⟨P,hP⟩:∃P,P=O++[(Value.slice ra bn rc,xs)]:=⟨_,rfl⟩;have hPl:O.length+1=P.length:=by rw[hP,Ym];rfl
   rw[<-hP]at fam;have hPB:∀p∈P,(p.2.length:Int)=bn/\∀m∈p.2,0<=m/\m<=9:=by intro p hp;rw[hP]at hp;rcases List.mem_append.1 hp with hp | hp;(· exact hOB p hp);(· simp only[Yc,Ya,or_false]at hp;subst hp;exact⟨by show ((xs.length:Nat):Int)=_;omega,hxb⟩)
   have hPn:(P.map (·.2)).Nodup:=by rw[hP,List.map_append,List.nodup_append];exact⟨hnd,by simp,λy hy z hz=>by simp only[List.map_cons,List.map_nil,Yc,Ya,or_false]at hz;subst hz;intro e;subst e;exact hc33 hy⟩
   replace G:=G.rF 1 fam;clear fam;refine Yg<|(F.y (F.fd 1)) λF=>(F.y (F.lc (G.q 3))) λF=>(F.m) λF=>(F.bs G 1 #[.slice ra bn rc] Qy.zeroValue22) λyy F G=>?_
   have hEs:=(G.e 6).size;have ro:=G.o 1;replace G:=G.d 1;refine Zw F rfl (by decide) (F.want rfl) (ZJ rfl (w8.heap.size) (e:=22) (size:=1) (bytes:=24) Qy.underlying25 (by kernel_rfl) (by decide) (F.at rfl) (G.o 2) (F.at rfl) (G.q 0) rfl (by simp[Value.oneCell']) (by omega) (by omega) (by omega)) ?_;clear F;rintro _ v' w13 F ⟨hown',hg⟩;obtain⟨va38,vc38,rfl⟩:=Zm hown';replace G:=(G.d 0).gr 1 hg hown';clear hg hown';have oo:=G.o 1;rw[show O.map (·.1)++[Value.slice ra bn rc]=P.map (·.1) by rw[hP,List.map_append];rfl,hPl]at oo;rw[hPl]at F;replace hOB:=hPB;replace hnd:=hPn;replace hOl:P.length<=i+1:=by omega
   replace hO1:0<i+1->0<P.length:=λ_=>by omega
   replace G:=G.rO 1 oo;clear oo;refine(F.y (F.fd 1)) λF=>(F.st G 2) @λw14 G=>k7<|Yg<|(F.m) λF=>(F.y F.sb) λF=>?_
   rw[show n-((i:Nat):Int)-1=n-((i+1:Nat):Int) by omega]at F;refine(F.m) λF=>?_;replace G:=G.rL 3 (show Zf w0 w14 b (k+4+10*(i+1)) nv from Zo (G.l 3) (by omega));show _/\_;exact⟨by omega,_,_,F.u,G.u,_,_,_,rfl,rfl,(G.o 1),(G.f 0),hOB,hnd,hOl,hO1,(by omega)⟩
  ·have hOne:0<O.length:=by have:=Classical.not_not.1 hc33;rcases O with _ | ⟨p,O⟩;(· simp at this);(· simp)
   replace hOl:O.length<=i+1:=by omega
   replace hO1:0<i+1->0<O.length:=λ_=>hOne;refine Yi<|k7<|Yg<|(F.m) λF=>(F.y F.sb) λF=>?_
   rw[show n-((i:Nat):Int)-1=n-((i+1:Nat):Int) by omega]at F;refine(F.m) λF=>?_;replace G:=G.rL 4 (show Zf w0 w11 b (k+4+10*(i+1)) nv from Zo (G.l 4) (by omega));show _/\_;exact⟨by omega,_,_,F.u,G.u,_,_,_,rfl,rfl,(G.o 2),(G.f 1),hOB,hnd,hOl,hO1,(by omega)⟩
 ·refine wp_exit<|k3<|wQ λk10=>wQ λk11=>?_
  have oo:=G.o 1;have hdcap:=Zap oo;have fam:=G.f 0;have hDl:∀W,Ext [b,n4,n5] w9 W->Z0v W da O:=λW e=>Z0W (Z0t oo e (by simp;omega)) (Z0L fam λv n xs h=>Z0t h e (by simp;omega));have HDl:=Lib.hid hDl;clear hDl;have hwL0:w.heap.size<=w9.heap.size:=by exact(G.e 6).size
  replace G:=G.hr [b,n4,n5];refine Yg<|(F.m) λF=>?_
  have fam:=G.f 1;have oo:=G.o 2;replace G:=G.b [0,3,4,6,7];refine(F.k (Z84 w0 _ b _ nv 1 3 (G.l 2) (by omega) (by omega) (by omega) (by omega) (by omega))) ?_;rintro _ w15 ⟨m,rfl,hm1,hm2,HL,e9⟩;refine⟨_,rfl,λF=>?_⟩;replace G:=G.xl 2 e9 HL;refine(F.m) λF=>?_;rw[show m=m-((0:Nat):Int) by omega]at F;have oo:w15.ownsRow w9.heap.size 22 1 (.slice none 0 0) 0 (([]:List (Value×List Int)).map (·.1)):=World.ownsRow_nil _ _ _ _;have fam:FamT w15 w9.heap.size []:=Z70 _ _;have hOd:O.length<=dm:=by omega
  replace hO1:0<O.length:=hO1 (by omega);replace G:=(G.co oo).cf fam;refine k11<|Yh ?_
  replace G:=G.rL 4 (show Zf w0 w15 b (k+5+10*dm+10*0) nv from Zo (G.l 4) (by omega));refine lpB (F.b [0,4,5]) (G.b [2,5,6]) (3) (λj Lv Sv W=>∃la:Option Addr,∃lc:Nat,∃Q:List (Value×List Int),Lv=[(8,.int .i64 (m-((j:Nat):Int)))]/\Sv=[.q n5 (#[.int .i64 ((bn:Nat):Int),.slice da O.length dc,.slice la Q.length lc,.int .i64 tl]) 27,.l w0 b (k+5+10*dm+10*j) nv]/\W.ownsRow w9.heap.size 22 1 (.slice la Q.length lc) Q.length (Q.map (·.1))/\FamT W w9.heap.size Q/\(∀p∈Q,(p.2.length:Int)=bn/\∀m∈p.2,0<=m/\m<=3)/\(∀p∈Q,p.2.sum≠0)/\Q.length=j/\(j:Int)<=m) ⟨_,_,F.u,G.u,none,0,[],rfl,rfl,(G.o 1),(G.f 0),(by simp),(by simp),rfl,(by omega)⟩ ?_;clear F G;rintro j _ w16 _ _ hi2 ⟨la,lc,Q,rfl,rfl,oo,fam,hQB,hQs,hQl,hjm⟩ F G;replace G:=((G.z).co oo).cf fam;refine wQ λk12=>wR λk13=>(F.m) λF=>(F.y F.gt) λF=>k13<|F.ci (λhc43=>?_) (λhc43=>?_)
  ·refine Yi<|k12<|wQ λk14=>Yh<|wR λk15=>(F.m) λF=>(F.y (F.fd 0)) λF=>(F.y (F.lc (G.q 2))) λF=>?_
   have fam:=G.f 0;have hflt:=Lib.hid (Za4 fam);obtain⟨B1,hB1⟩:∃B1,B1=w16.heap.size:=⟨_,rfl⟩;rw[<-hB1]at hflt;have hB1w:w9.heap.size<=B1:=by rw[hB1];exact(G.e 4).size
   refine(F.k (Z5x w0 _ b _ nv bn 3 (G.l 3) (by omega) (by omega) (by omega) (by omega))) ?_;rintro _ w17 ⟨ra,rc,xs,rfl,hxl,hxb,ro,HL,e9⟩;refine⟨_,rfl,λF=>?_⟩;replace G:=G.xl 3 e9 HL;rw[<-hB1]at ro;replace G:=G.co ro;refine(F.m) λF=>k15<|wR λk16=>(F.m) λF=>(F.m) λF=>(F.y (F.fd 0)) λF=>(F.y (F.lc (G.q 3))) λF=>(F.y F.sb) λF=>(F.k (Z0h w0 _ b _ nv (((bn:Nat):Int)-1) (G.l 4) (by omega) (by omega) (by omega))) ?_
   rintro _ w18 ⟨v,rfl,hv0,hv1,HL,e9⟩;refine⟨_,rfl,λF=>?_⟩;replace G:=G.xl 4 e9 HL;obtain⟨v,rfl⟩:=Int.eq_ofNat_of_zero_le hv0;refine(F.m) λF=>(F.k (Z84 w0 _ b _ nv 1 3 (G.l 4) (by omega) (by omega) (by omega) (by omega) (by omega))) ?_;rintro _ w19 ⟨z,rfl,hz1,hz2,HL,e9⟩;refine⟨_,rfl,λF=>?_⟩;replace G:=G.xl 4 e9 HL;have ro:=G.o 0;have HS:=Lib.hid (ZS ro hxl.symm [] (by simp));have hil:=Z20 xs;replace G:=G.hr [];obtain⟨xb17,xo17,xa17,xr17⟩:=HS.out v (by omega);refine(F.y (F.is 1 xa17)) λF=>?_;replace G:=G.d 0;obtain⟨⟨u0,hcu⟩,hfu,hst⟩:=Z3b (G.o 0) xa17 (j:=v) (p:=xo17+((v:Nat):Int).toNat*1) (by first | omega | (simp;omega)) (by omega);refine Z1k rfl (F.want rfl) (ZW rfl (F.at rfl) (F.at rfl) rfl (by kernel_rfl) hcu hfu) ?_;intro w20 hw;obtain⟨hown',hg⟩:=hst _ _ hw;have ro:=(G.o 0);have fam:=G.f 1;replace G:=G.d 1;replace fam:=ZcS fam hflt.out ro hg;replace G:=(G.gr 0 hg hown').cf fam;clear hst hcu hfu hw hg hown';have ro:=G.o 1;rw[Z21]at ro;replace G:=G.rO 1 ro;clear ro;obtain⟨ys,hys⟩:∃ys,ys=xs.set v z:=⟨_,rfl⟩;have hyl:ys.length=bn:=by rw[hys,List.length_set];exact hxl
   have hyb:∀q∈ys,0<=q/\q<=3:=by intro q hq;rw[hys]at hq;rcases List.mem_or_eq_of_mem_set hq with hq | rfl;(· exact hxb q hq);(· omega)
   have hysum:ys.sum≠0:=by have h1:=Zdf (xs:=ys) (λq hq=>(hyb q hq).1) z (by rw[hys];exact List.mem_set (by omega) z);omega
   have ro:=G.o 1;rw[<-hys]at ro;replace G:=G.rO 1 ro;clear ro;refine k16 ?_;have fam:=G.f 0;have ro:=G.o 1;have fam2:=Z4x (Z4w (b1:=B1) (L:=[(Value.slice ra bn rc,ys)]) ⟨λp hp=>(by obtain rfl:p=(Value.slice ra bn rc,ys):=(by simpa using hp);rw[show ((Value.slice ra bn rc,ys):Value×List Int).2.length=bn from hyl];exact ro),List.pairwise_singleton _ _⟩ fam hflt.out hB1w) (M:=Q++[(Value.slice ra bn rc,ys)]) List.perm_append_comm;have fam:=fam2;clear fam2;obtain⟨P,hP⟩:∃P,P=Q++[(Value.slice ra bn rc,ys)]:=⟨_,rfl⟩;have hPl:Q.length+1=P.length:=by rw[hP,Ym];rfl
   rw[<-hP]at fam;have hPB:∀p∈P,(p.2.length:Int)=bn/\∀m∈p.2,0<=m/\m<=3:=by intro p hp;rw[hP]at hp;rcases List.mem_append.1 hp with hp | hp;(· exact hQB p hp);(· simp only[Yc,Ya,or_false]at hp;subst hp;exact⟨by show ((ys.length:Nat):Int)=_;omega,hyb⟩)
   have hPs:∀p∈P,p.2.sum≠0:=by intro p hp;rw[hP]at hp;rcases List.mem_append.1 hp with hp | hp;(· exact hQs p hp);(· simp only[Yc,Ya,or_false]at hp;subst hp;exact hysum)
   replace G:=G.rF 0 fam;clear fam;refine Yg<|(F.y (F.fd 2)) λF=>(F.y (F.lc (G.q 3))) λF=>(F.m) λF=>(F.bs G 1 #[.slice ra bn rc] Qy.zeroValue22) λyy F G=>?_
   have hEs:=(G.e 6).size;replace G:=G.d 2;refine Zw F rfl (by decide) (F.want rfl) (ZJ rfl (w9.heap.size) (e:=22) (size:=1) (bytes:=24) Qy.underlying25 (by kernel_rfl) (by decide) (F.at rfl) (G.o 2) (F.at rfl) (G.q 0) rfl (by simp[Value.oneCell']) (by omega) (by omega) (by omega)) ?_;clear F;rintro _ v' w22 F ⟨hown',hg⟩;obtain⟨va63,vc63,rfl⟩:=Zm hown';replace G:=(G.d 0).gr 1 hg hown';clear hg hown';have oo:=G.o 1;rw[show Q.map (·.1)++[Value.slice ra bn rc]=P.map (·.1) by rw[hP,List.map_append];rfl,hPl]at oo;rw[hPl]at F;replace hQB:=hPB;replace hQs:=hPs;replace hQl:P.length=j+1:=by omega
   replace G:=G.rO 1 oo;clear oo;refine(F.y (F.fd 2)) λF=>(F.st G 2) @λw23 G=>k14<|Yg<|(F.m) λF=>(F.y F.sb) λF=>?_
   rw[show m-((j:Nat):Int)-1=m-((j+1:Nat):Int) by omega]at F;refine(F.m) λF=>?_;replace G:=G.rL 3 (show Zf w0 w23 b (k+5+10*dm+10*(j+1)) nv from Zo (G.l 3) (by omega));show _/\_;exact⟨by omega,_,_,F.u,G.u,_,_,_,rfl,rfl,(G.o 1),(G.f 0),hQB,hQs,hQl,(by omega)⟩
  ·refine wp_exit<|k10<|wR λk18=>(F.y (F.lb (G.q 2))) λF=>(F.sr G 5) λG=>k18 ?_
   refine(F.rg (rs_c F rfl rfl Qy.underlying27 rfl (by kernel_rfl) (G.q 5))) ?_;have hbL:b<w9.heap.size:=by omega
   have fam:=G.f 0;have oo:=G.o 1;refine⟨{B:=((bn:Nat):Int),D:=O,da:=da,dc:=dc,L:=Q,la:=la,lc:=lc,tol:=tl},rfl,ZkV (by simp only;omega) (by simp only;omega) (by simp only;omega) (by simp only;omega) hOB hnd (by simp only;omega) (by simp only;omega) hQB hQs (by simp only;omega) (by simp only;omega),⟨hOd,hdcap,htl.2⟩,λW e=>⟨HDl.out W ((G.e 4).trans (e.mono (by simp))),ZhQ oo fam e hbL hbL⟩,Zo (G.l 3) (by omega),(G.e 6)⟩
end
end Go.Proofs.YtfelljbfeoplhaaGreat
