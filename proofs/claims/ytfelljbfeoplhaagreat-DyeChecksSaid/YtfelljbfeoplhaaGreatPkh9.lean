/- Parts of a proof. No conditions. -/
import Derived.Test.YtfelljbfeoplhaaGreatPkh8
set_option linter.unusedVariables false
set_option linter.unusedSimpArgs false
set_option linter.unusedSectionVars false
set_option maxRecDepth 100000
set_option maxHeartbeats 4000000
namespace Go.Proofs.YtfelljbfeoplhaaGreat
variable{D S:Nat->Prop}{Post:Go.Value->Go.World->Prop}{u v w w':Go.World}{l s:List Int}{a1 a2:Option Go.Addr}{b c1 c2 i:Nat}{cs:List Go.Frame}{c f g:Go.Frame}{L:List (List Int)}{x y:Go.Value}{t:Go.FuncId}{R:Go.Ending->Go.World->Prop}{xs:Array Go.Value}{T:Go.TypeId}{fz:Nat×Nat}{M:List (Go.Value×List Int)}{m n:Int}{e:Go.Ending}
namespace Lift
open Go Go.Conc Go.RowKit Ev Mx
open Go.ConcM OsLater
noncomputable def tM:Code:=sqR (sqR (sqR (sqR (sqR mB))))
theorem ZmA:mB = .seq (sqL mB) (.seq (sqL (sqR mB)) (.seq (sqL (sqR (sqR mB))) (.seq (sqL (sqR (sqR (sqR mB)))) (.seq (sqL (sqR (sqR (sqR (sqR mB))))) tM)))):=kR
theorem ZdX:Tryz.f26.body=some mB:=kR
theorem Z8q(xs:Array Value):Frame.enter PP 26 xs .normal=(fF 26).at (fA 21 xs) [.code mB]:=by
 have h:PP.funcs[(26:Nat)]?=some Tryz.f26:=kR
 simp[Frame.enter,Frame.at,h,ZdX,fF,fA,Tryz.ntmps26]
noncomputable abbrev jkM:Jk:={j:=True,rest:=[.code tM],gd:=λf=>gJ f=true}
theorem cm0:ZO PP gJ (λ_ _=>false) true false true false (sqL mB)=true:=kR
theorem cm1:ZO PP gJ (λ_ _=>false) true false true false (sqL (sqR mB))=true:=kR
theorem cm2:ZO PP gJ (λ_ _=>false) true false true false (sqL (sqR (sqR mB)))=true:=kR
theorem cm3:ZO PP gJ (λ_ _=>false) true false true false (sqL (sqR (sqR (sqR mB))))=true:=kR
theorem cm4:ZO PP gJ (λ_ _=>false) true false true false (sqL (sqR (sqR (sqR (sqR mB)))))=true:=kR
noncomputable def mt0(c7 c8 c9 c5:Nat):St:={top:={fn:=26,n:=21,env:=[(7,pt c7),(8,pt c8),(9,pt c9),(5,pt c5)],todo:=[.code tM],defs:=[Z0V c7],kind:=.normal,ret:=false},rest:=[],cvs:=[],mks:=[],deaf:=0}
noncomputable def mt1(c7 c8 c9 c5:Nat):St:=pn PP xtQ 40 (mt0 c7 c8 c9 c5)
noncomputable def mt2(c7 c8 c9 c5:Nat)(b:Value):St:=pn PP xtQ 1 ((mt1 c7 c8 c9 c5).an b)
noncomputable def mt3(c7 c8 c9 c5:Nat)(b y:Value):St:=pn PP xtQ 40 ((mt2 c7 c8 c9 c5 b).an y)
noncomputable def mt4(c7 c8 c9 c5:Nat)(b y:Value):St:=pn PP xtQ 40 ((mt3 c7 c8 c9 c5 b y).an undef)
noncomputable def mt5(c7 c8 c9 c5:Nat)(b y:Value):St:=pn PP xtQ 40 ((mt4 c7 c8 c9 c5 b y).an .nilIface)
section
variable(c7 c8 c9 c5:Nat)(b y:Value)
theorem kM1:(pnq PP xtQ 40 (mt0 c7 c8 c9 c5),(mt1 c7 c8 c9 c5).cvs,(mt1 c7 c8 c9 c5).lod,(mt1 c7 c8 c9 c5).ans b,(mt1 c7 c8 c9 c5).rest)=(true,[],some (85,⟨c8,0,none⟩),some ((mt1 c7 c8 c9 c5).an b),[]):=kR
theorem kM2:(pnq PP xtQ 1 ((mt1 c7 c8 c9 c5).an b),(mt2 c7 c8 c9 c5 b).cvs,(mt2 c7 c8 c9 c5 b).cal PP,(mt2 c7 c8 c9 c5 b).ans y,(mt2 c7 c8 c9 c5 b).rest)=(true,[],some (66,#[b,.func (.func 79) #[] #[pt c8,pt c9,pt c5]]),some ((mt2 c7 c8 c9 c5 b).an y),[]):=kR
theorem kM3:(pnq PP xtQ 40 ((mt2 c7 c8 c9 c5 b).an y),(mt3 c7 c8 c9 c5 b y).cvs,(mt3 c7 c8 c9 c5 b y).sto,(mt3 c7 c8 c9 c5 b y).ans undef,(mt3 c7 c8 c9 c5 b y).rest)=(true,[],some (30,⟨c7,0,none⟩,.int .i64 0),some ((mt3 c7 c8 c9 c5 b y).an undef),[]):=kR
theorem kM4:(pnq PP xtQ 40 ((mt3 c7 c8 c9 c5 b y).an undef),(mt4 c7 c8 c9 c5 b y).cvs,rcvB (mt4 c7 c8 c9 c5 b y),(mt4 c7 c8 c9 c5 b y).ans .nilIface,(mt4 c7 c8 c9 c5 b y).rest.map (·.ret),(mt4 c7 c8 c9 c5 b y).top.kind)=(true,[],true,some ((mt4 c7 c8 c9 c5 b y).an .nilIface),[true],.deferred):=kR
theorem kM5:(pnq PP xtQ 40 ((mt4 c7 c8 c9 c5 b y).an .nilIface),(mt5 c7 c8 c9 c5 b y).cvs,(mt5 c7 c8 c9 c5 b y).top.ret,(mt5 c7 c8 c9 c5 b y).top.defs,(mt5 c7 c8 c9 c5 b y).top.kind,(mt5 c7 c8 c9 c5 b y).top.fn,(mt5 c7 c8 c9 c5 b y).top.env.lookup 6,(mt5 c7 c8 c9 c5 b y).top.env.lookup 7,(mt5 c7 c8 c9 c5 b y).rest)
  = (true,[],true,[],.normal,26,some y,some (pt c7),[]):=kR
end
theorem ZaW{J:Jk}(hg:∀f,J.gd f↔gJ f=true)(hn:∀f,¬J.law f)(hr0:J.rest=[.code tM]): @Todo J PP (J.law 26) (¬J.gd 26) false (idS S) [.code cMat] [.code mB]:=by
 have cj:∀{c:Code},ZO PP gJ (λ_ _=>false) true false true false c=true->Z0I PP (Jk.law 26) (¬Jk.gd 26) false c:=λq=>Zit hg (λf _=>hn f) dC (hn _) q;have:=ZmA;generalize hq:mB=z at this;refine Todo.cut rfl (λ_=>⟨rfl,rfl⟩) ?_;rw[this,<-hq];exact .seq (cj cm0) (.seq (cj cm1) (.seq (cj cm2) (.seq (cj cm3) (.seq (cj cm4) (.stop hr0)))))
theorem Ze0{y0 y1 y2:Value}: Has 21 [] (fA 21 #[y0,y1,y2]) [(0,y0),(1,y1),(2,y2)]:=by
 refine⟨rfl,by simp[fA],λk u e=>?_⟩;simp only[Yp,List.lookup_nil]at e
 repeat' split at e
 all_goals first | (cases e;done) | (rename_i q;rw[beq_iff_eq]at q;subst q;obtain rfl:=Y1 e;simp[fA])
theorem Ze1:(Qy.F 1)[(26:Nat)]?=PP.funcs[(26:Nat)]?:=Qy.own26.trans kR
theorem ZaV:PP.funcs[(26:Nat)]?=some Tryz.f26:=kR
theorem arr2[Jk]{R:Value->Value->Prop}{a b:Value}{ys:Array Value}(h:Arr R #[a,b] ys): ∃a' b',ys=#[a',b']/\R a a'/\R b b':=by
 have hl:=h.lis;generalize hy:ys.toList=l at hl;cases hl with
 | cons h1 t =>
  cases t with
  | cons h2 t =>
   cases t with
   | nil=>exact⟨_,_,Array.ext' hy,h1,h2⟩
theorem Zeu[Jk]{v2: World}(hh:∀b,b<v.heap.size->v2.heap[b]?=v.heap[b]?){a:Option Addr}{n c:Nat}{xs:List Int}(hx:Z6 v (.slice a n c) 1 (xs.map Z4)): Z6 v2 (.slice a n c) 1 (xs.map Z4):=by
 obtain⟨a4,c4,e4,hl,hc⟩:=hx;refine⟨a4,c4,e4,hl,λhne=>?_⟩;obtain⟨b,off,rfl,hb,hk⟩:=hc hne;have key:∀i j x,(xs.map Z4)[i]?=some x->j<1->v2.cell? ⟨b,off+i*1+j,none⟩=x[j]?:=by
  intro i j x hi hj;rw[<-hk i j x hi hj];unfold World.cell?;rw[hh b hb]
 refine⟨b,off,rfl,?_,key⟩;cases hq:xs with
 | nil=>rw[hq]at hne;exact absurd rfl hne
 | cons z zs=>exact(Z0h (key 0 0 (Z4 z) (by rw[hq];rfl) oM)).1
theorem Zg6{J:Jk}(hj:J.j)(hg:∀f,J.gd f↔gJ f=true)(hn:∀f,¬J.law f)(hr0:J.rest=[.code tM]){x:Vm}(hv:VOk x)(H:VatC D S x w)(hl:RcpOk x l)(hs:Z1s x s)(hr:Z6 w (.slice a1 l.length c1) 1 (l.map Z4))(hr':Z6 w (.slice a2 s.length c2) 1 (s.map Z4))(p1:PV S (.slice a1 l.length c1))(p2:PV S (.slice a2 s.length c2)) (next:∀(S':Nat->Prop) (a:Act) (w':World) (c7 c8 c9 c5:Nat),VatC D S' x w'->PV S' (.slice a2 s.length c2)->a.tmps.size=21->a.tmps[7]?=some (pt c7)->a.tmps[8]?=some (pt c8)->a.tmps[9]?=some (pt c9)->a.tmps[5]?=some (pt c5)->a.defers=[Z0V c7] ->
   S' c7->S' c8->S' c9->S' c5->w'.heap[c7]?=some (.cells #[.int .i64 0] 30 (0,0))->w'.heap[c8]?=some (.cells x.vc 85 (0,0)) ->
   w'.heap[c9]?=some (.cells (tubC (val l)) 88 (0,0))->w'.heap[c5]?=some (.cells #[.slice a2 s.length c2] 22 (0,0))->(∀b,b<w.heap.size->w'.heap[b]?=w.heap[b]?)->w.heap.size<=w'.heap.size->w'.os=w.os->w'.output=w.output->Sure PP Post D (run1 ((fF 26).at a [.code tM]) cs) w'):
  Sure PP Post D (run1 (Frame.enter PP 26 #[x.val,.slice a1 l.length c1,.slice a2 s.length c2] .normal) cs) w:=by
 rw[Z8q];refine Z8w hj hg hn H.blk H.off H.low Ze1 (ZaU H p1 p2) (ZaW hg hn hr0) (Z:=λv=>MaA x (val l) s a2 c2 v (fF 26)) (λv hsh T=>?_) λv f' v' r' g' w' T1 T2 hsh hq hf hw' hi ho hsn=>?_
 ·exact Zlc x hv l s hl hs a1 a2 c1 c2 (re v T) (Z51 (v:=v) (v2:=re v T) (λb _=>rfl) (H.shadow (λ_ _=>rfl) hsh)) (@Z2m jkN _ _ _ _ (λ_ _=>rfl) hsh _ _ _ _ p1 hr) (@Z2m jkN _ _ _ _ (λ_ _=>rfl) hsh _ _ _ _ p2 hr') _ _ Ze0
 obtain⟨a,n7,n8,n9,n5,rfl,F,q7,q8,q9,q5,-,-,-,-,-,-,-,E⟩:=hq.ex;obtain⟨gt,rfl,hgs,slot⟩:=ZiK hi hf F hr0;obtain⟨s7,g7⟩:=slot 7 n7 dC rfl;obtain⟨s8,g8⟩:=slot 8 n8 dC rfl;obtain⟨s9,g9⟩:=slot 9 n9 dC rfl;obtain⟨s5,g5⟩:=slot 5 n5 dC rfl;have k7:=ZS (S:=S) hi hw' ⟨_,s7⟩ q7 sU (by simp[PF1,PV]);have k8:=ZS (S:=S) hi hw' ⟨_,s8⟩ q8 sU (by
  intro y hy;simp only[Yb,Yc,Ya,or_false]at hy;rcases hy with rfl | rfl | rfl | rfl
  ·exact .inl trivial
  ·exact .inl H.da
  ·exact .inl H.la
  ·exact .inl trivial)
 have k9:=ZS (S:=S) hi hw' ⟨_,s9⟩ q9 (by simp[tubC]) (by
  intro y hy;simp only[tubC,Yb,Yc,Ya,or_false]at hy;rcases hy with rfl | rfl | rfl | rfl<;>exact .inl trivial)
 have k5:=ZS (S:=S) hi hw' ⟨_,s5⟩ q5 sU (by
  intro y hy;obtain rfl:=List.mem_singleton.1 (by simpa using hy);exact .inl p2)
 have hin:∀b,S b->(S b\/b=n7\/b=n8\/b=n9\/b=n5):=λb h=>.inl h;refine next (λb=>S b\/b=n7\/b=n8\/b=n9\/b=n5) ⟨gt,[Z0V n7]⟩ w' n7 n8 n9 n5 ⟨λb hb=>?_,λb hb hD=>?_,ho.low,H.da.imp hin,H.la.imp hin,λp hp=>(H.dp p hp).imp hin,λp hp=>(H.lp p hp).imp hin,Z51 (v:=w) hsn.old H.at_⟩ (p2.imp hin) hgs g7 g8 g9 g5 rfl (.inr (.inl rfl)) (.inr (.inr (.inl rfl))) (.inr (.inr (.inr (.inl rfl)))) (.inr (.inr (.inr (.inr rfl)))) k7 k8 k9 k5 hsn.old hsn.size hsn.os hsn.out
 ·rcases hb with h | rfl | rfl | rfl | rfl
  ·obtain⟨cs0,e0,fz0,h0⟩:=H.blk b h;exact⟨cs0,e0,fz0,by rw[hsn.old b (Y0.1 h0).1];exact h0⟩
  ·exact⟨_,_,_,k7⟩
  ·exact⟨_,_,_,k8⟩
  ·exact⟨_,_,_,k9⟩
  ·exact⟨_,_,_,k5⟩
 ·rcases hb with h | rfl | rfl | rfl | rfl
  ·exact H.off b h hD
  ·exact ho.names _ _ s7 hD
  ·exact ho.names _ _ s8 hD
  ·exact ho.names _ _ s9 hD
  ·exact ho.names _ _ s5 hD
def matB(x:Vm)(f s:Nat->Int)(k:Nat):Bool:=decide (k<x.L.length)&&matE x f s [((k:Nat):Int)]
theorem Zlg{c7 c8 c9 c5:Nat}{a:Act}(hsz:a.tmps.size=21)(g7:a.tmps[7]?=some (pt c7))(g8:a.tmps[8]?=some (pt c8))(g9:a.tmps[9]?=some (pt c9))(g5:a.tmps[5]?=some (pt c5))(hd:a.defers=[Z0V c7]):
  SOk (mt0 c7 c8 c9 c5).top (mt0 c7 c8 c9 c5).rest ((fF 26).at a [.code tM]) []:=by
 refine⟨⟨rfl,hsz,λt u e=>?_,rfl,hd,rfl,rfl,rfl⟩,.nil⟩;have e:[(7,pt c7),(8,pt c8),(9,pt c9),(5,pt c5)].lookup t=some u:=e;show a.tmps[t]?=some u;simp only[Yp,List.lookup_nil]at e
 repeat' split at e
 all_goals first | (cases e;done) | (rename_i q;rw[beq_iff_eq]at q;subst q;obtain rfl:=Y1 e;assumption)
theorem Zjc:Tryz.f26.results=#[.tmp 6,.cell 7 30]:=kR
theorem Z9O{x:Vm}(hv:VOk x)(H0:VatC D S x w)(hl:RcpOk x l)(hs:Z1s x s)(hr:Z6 w (.slice a1 l.length c1) 1 (l.map Z4))(hr':Z6 w (.slice a2 s.length c2) 1 (s.map Z4))(r1:PV S (.slice a1 l.length c1))(r2:PV S (.slice a2 s.length c2))(ret:∀w' y Mu Wg,UnE (Z1d x.L.length (matB x (val l) (val s))) w w' y Mu Wg->Sure PP Post (λc=>D c\/c=Mu\/c=Wg) (run1 (c.finish (.tuple #[y,.int .i64 0])) cs) w'):
  Sure PP Post D (run1 (Frame.enter PP 26 #[x.val,.slice a1 l.length c1,.slice a2 s.length c2] .normal) (c::cs)) w:=by
 letI:Jk:=jkM;refine Zg6 (J:=jkM) trivial (λf=>Iff.rfl) (λf h=>h) rfl hv H0 hl hs hr hr' r1 r2 λS a w' c7 c8 c9 c5 H ps hsz g7 g8 g9 g5 hd s7 s8 s9 s5 q7 q8 q9 q5 hold hsz' hos' hout'=>?_;have k0:=Zlg hsz g7 g8 g9 g5 hd;have hrw:Z6 w' (.slice a2 s.length c2) 1 (s.map Z4):=Zeu hold hr';have b7:c7<w'.heap.size:=(Y0.1 q7).1;obtain⟨B,hB⟩:∃B:Value,B = .agg x.vc:=⟨_,rfl⟩;obtain⟨p1,p2,p3,p4,p5⟩:=by simpa only[Y9] using kM1 c7 c8 c9 c5 B
 refine Sure.pn (cs:=c::cs) xokQ 40 (mt0 c7 c8 c9 c5) k0 p1 p2 λf1 fs1 k1=>?_;obtain rfl:=Z7l k1.2 p5;refine Sure.agl (s:=mt1 c7 c8 c9 c5) k1 p3 q8 Tryz.underlying85 rfl ZcG (by rw[<-hB];exact p4) (H.off _ s8) λf2 k2=>?_;obtain⟨p1,p2,p3,p4,p5⟩:=by simpa only[Y9] using kM2 c7 c8 c9 c5 B undef
 refine Sure.pn (cs:=c::cs) xokQ 1 _ k2 p1 p2 λf3 fs3 k3=>?_;obtain rfl:=Z7l k3.2 p5;refine Sure.cal (s:=mt2 c7 c8 c9 c5 B) k3 p3 ?_;rw[hB];refine Zf0 (x:=x) (S:=S) (ys:=#[pt c8,pt c9,pt c5]) (β:=matB x (val l) (val s)) (c:=f3) hv.l1 hv.l3 (.inl rfl) H.blk H.off H.low H.da H.la ?_ ?_ ?_ ?_
 ·intro y hy;simp only[Yb,Yc,Ya,or_false]at hy;rcases hy with rfl | rfl | rfl
  ·exact s8
  ·exact s9
  ·exact s5
 ·intro k hk;have:¬k<x.L.length:=by omega
  simp[matB,this]
 ·intro w1 v1 hw1 sh k hk;have hat:x.At v1:=H.shadow hw1 sh;have h8:=@ZcI jkN _ _ _ _ hw1 sh _ s8 _ _ _ q8 (by
   intro y hy;simp only[Yb,Yc,Ya,or_false]at hy;rcases hy with rfl | rfl | rfl | rfl
   ·trivial
   ·exact H.da
   ·exact H.la
   ·trivial)
  have h9:=@ZcI jkN _ _ _ _ hw1 sh _ s9 _ _ _ q9 (by
   intro y hy;simp only[tubC,Yb,Yc,Ya,or_false]at hy;rcases hy with rfl | rfl | rfl | rfl<;>trivial)
  have h5:=@ZcI jkN _ _ _ _ hw1 sh _ s5 _ _ _ q5 (by
   intro y hy;obtain rfl:=List.mem_singleton.1 (by simpa using hy);exact ps)
  have hc:=Z8f (μ:=2) x hv k hk (val l) hl.tub s hs a2 c2 c8 c9 c5 _ _ _ _ _ _ v1 hat (@Z2m jkN _ _ _ _ hw1 sh _ _ _ _ ps hrw) h8 h9 h5;have hk2:k<x.L.length:=by omega
  have e:matB x (val l) (val s) k=matE x (val l) (val s) [((k:Nat):Int)]:=by
   simp[matB,hk2]
  rw[e];exact hc.mono λ_ _ q=>q.1
 ·intro w3 y Mu Wg U;obtain⟨_,_,p3',p4',_⟩:=by simpa only[Y9] using kM2 c7 c8 c9 c5 B y
  have k4:=Zip k3 p3' p4';obtain⟨p1,p2,p3,p4,p5⟩:=by simpa only[Y9] using kM3 c7 c8 c9 c5 B y
  refine Sure.pn (cs:=c::cs) xokQ 40 _ k4 p1 p2 λf5 fs5 k5=>?_;obtain rfl:=Z7l k5.2 p5;have q7':w3.heap[c7]?=some (.cells #[.int .i64 0] 30 (0,0)):=by rw[U.old c7 b7];exact q7
  have hD7:¬(D c7\/c7=Mu\/c7=Wg):=by
   have m1:=U.mu.1;have m2:=U.wg.1;rintro (q | q | q)
   ·exact H.off _ s7 q
   ·omega
   ·omega
  refine Sure.sto (s:=mt3 c7 c8 c9 c5 B y) k5 p3 ZfB rfl rfl ((Z3 q7' 0).trans rfl) (Zg q7' 0) p4 hD7 λf6 k6=>?_;have hset:=Zgw (x:=.int .i64 0) q7';obtain⟨w4,hw4⟩:∃w4,w4=w3.setCell ⟨c7,0,none⟩ (.int .i64 0):=⟨_,rfl⟩;have hs4:w4.heap.size=w3.heap.size:=by rw[hw4];simp[World.setCell]
  have ho4:w4.os=w3.os:=by rw[hw4];rfl
  have hu4:w4.output=w3.output:=by rw[hw4];rfl
  rw[<-hw4]at hset⊢;obtain⟨p1,p2,p3,p4,p5,p6⟩:=by simpa only[Y9] using kM4 c7 c8 c9 c5 B y
  refine Sure.pn (cs:=c::cs) xokQ 40 _ k6 p1 p2 λf7 fs7 k7=>?_;obtain⟨g,rfl,hg⟩:=ZiR k7.2 p5;refine Sure.rcv (s:=mt4 c7 c8 c9 c5 B y) k7 p3 (Zh5 (k7.1.kind.trans p6) hg) p4 λf8 k8=>?_;obtain⟨p1,p2,p3,p4,p5,p6,p7,p8,p9⟩:=by simpa only[Y9] using kM5 c7 c8 c9 c5 B y
  refine Sure.pn (cs:=c::cs) xokQ 40 _ k8 p1 p2 λf9 fs9 k9=>?_;obtain rfl:=Z7l k9.2 p9;refine Sure.lv2 (a:=(mt5 c7 c8 c9 c5 B y).top) k9.1 p3 p4 p5 (by rw[p6];exact ZaV) Zjc p7 p8 Ziy ((Z3 ((hset c7).trans q7') 0).trans rfl) hD7 ?_;exact ret w4 y Mu Wg (Zh7 hold hsz' hos' hout' U hset hs4 ho4 hu4)
end Lift
section
open Go.RowKit Ev
variable{μ:Nat}
theorem Zjd(x:Vm)(hv:VOk x)(l s:List Int)(hl:RcpOk x l)(hs:Z1s x s)(a1 a2:Option Addr)(c1 c2:Nat)(w:World)(h:x.At w)(hr:Z6 w (.slice a1 l.length c1) 1 (l.map Z4))(hr':Z6 w (.slice a2 s.length c2) 1 (s.map Z4)):
  Calls (Qy.prog 0) 185 #[.agg x.vc,.slice a1 l.length c1,.slice a2 s.length c2] w λe w'=>∃y,e = .returned (.tuple #[y,.int .i64 0])/\IntR w.heap.size w' (Z1d x.L.length λk=>matE x (val l) (val s) [((k:Nat):Int)]) y/\Ext [] w w':=by
 have E:=Ext.refl [] w;have HX:=Lib.hid h;have HV:=Lib.hid hv;have HR:=Lib.hid hr;have HR':=Lib.hid hr';have HL:=Lib.hid hl;have HS:=Lib.hid hs;have hl3:=hv.l3;clear h hv hr hr' hl hs;have G:=(Bk.nil w).ce E;refine(entM 21 Tryz.f26 rfl) λF=>wR λk1=>(F.bx G) λyy F G=>(F.bx G) @λn5 w2 _ yy F G=>(F.m) λF=>(F.al G Qy.zeroValue30) @λn7 w3 _ yy F G=>k1<|wR λk2=>(F.df) λF=>k2<|wR λk3=>(F.y (F.lb (G.q 2))) λF=>(F.k0 G (Z09 (μ:=0) x HV.out _ (HX.out.ext (G.e 3)))) λF G=>(F.al G Qy.zeroValue85) @λn8 w5 _ yy F G=>(F.sr G 0) λG=>k3<|wQ λk4=>Yg ?_
 refine(F.y (F.lb (G.q 0))) λF=>(F.m) λF=>(F.k (Z0B (μ:=0) x HV.out l HL.out a1 c1 _ (HR.out.ext (G.e 4) sU))) ?_;rintro _ w7 ⟨rfl,e9⟩;refine kG G e9 λF G=>?_;unfold tubC at F;refine(F.al G Qy.zeroValue88) @λn9 w8 _ yy F G=>(F.sr G 0) λG=>k4<|wR λk5=>(F.y (F.lb (G.q 1))) λF=>(F.y (F.lc (G.q 3))) λF=>(F.k0 G (Z2n (μ:=0) x HV.out s HS.out a2 c2 _ (HR'.out.ext (G.e 5) sU))) @λw10 _ F G=>k5<|wR λk6=>(F.y (F.lb (G.q 1))) λF=>(F.y F.mf) λF=>?_
 obtain⟨B0,hB0⟩:∃B0,B0=w10.heap.size:=⟨_,rfl⟩;have hb7:n7<B0:=by rw[hB0];exact Z8 (G.q 2)
 have hEs:w.heap.size<=B0:=by rw[hB0];exact(G.e 5).size
 have hask:∀k,k<x.L.length->∀W,Ext [] w10 W->Calls (Qy.prog 0) 79 (#[]++[.int .i64 ((k:Nat):Int)].toArray++#[.pointer (some ⟨n8,0,none⟩),.pointer (some ⟨n9,0,none⟩),.pointer (some ⟨n5,0,none⟩)]) W λe w'=>e = .returned (.bool (matE x (val l) (val s) [((k:Nat):Int)]))/\Ext [] W w':=λk hk W eW=>Z8f (μ:=0) x HV.out k hk (val l) HL.out.tub s HS.out a2 c2 n8 n9 n5 _ _ _ _ _ _ W ((HX.out.ext (G.e 5)).ext eW) ((HR'.out.ext (G.e 5) sU).ext eW sU) (eW.keep0 (G.q 1)) (eW.keep0 (G.q 0)) (eW.keep0 (G.q 3));refine(F.k (Zh9 x hl3 79 #[.pointer (some ⟨n8,0,none⟩),.pointer (some ⟨n9,0,none⟩),.pointer (some ⟨n5,0,none⟩)] (λk=>matE x (val l) (val s) [((k:Nat):Int)]) Qy.call79 _ hask)) ?_;rintro _ w11 ⟨y,rfl,hI,e9⟩;refine kG G e9 λF G=>?_;clear hask;rw[<-hB0]at hI;replace G:=G.hr [n7];refine(F.m) λF=>(F.st G 3) λG=>k6<|wp_ret ?_
 (try simp only[Exit.inBlock,Exit.then,reduceIte])
 refine Z4c F<|ZQ<|Z00 (Z3e F rfl rfl rfl Qy.underlying30 rfl (G.q 3)) ?_
 exact⟨y,rfl,ZaK hI (G.e 0) (by simp;omega) hEs,(G.e 6)⟩
theorem Qy.ntmps188:Qy.f188.ntmps=13:=rfl
theorem ZeS(y0 y1 y2:Value)(w:World)(hb:∀d,7<(Question.appendCap 7 0 3).cut (w.tape d (.appendCap 7 0 3))):Calls (Qy.prog 0) 26 #[y0,y1,y2] w λe w'=>e = .panicked [bunV 26 #[y0,y1,y2]]/\Ext [] w w':=by
 have E:=Ext.refl [] w;have G:=(Bk.nil w).ce E;refine(ent 13 Qy.f188 rfl) λF=>wR λk1=>(F.bs G 1 #[.int .i64 0,.int .i64 0,.int .i64 0,.int .i64 0,.int .i64 0,.int .i64 0,.int .i64 0] Qy.zeroValue3) λyy F G=>?_;have htp:=(G.e 1).tape;refine Zx F rfl dC (F.want rfl) (Zcp rfl Qy.underlying22 kR (F.at rfl) (G.q 0) dC dC dC) ?_;clear F;rintro _ v' w2 F ⟨⟨b4,K,rfl,d4,hK⟩,e9⟩;replace G:=G.ex e9;rw[htp]at hK;have hb1:=hb d4;rw[<-hK]at hb1;refine(F.y ((Zk9 rfl (F.at rfl) Qy.underlying22))) λF=>(F.y F.lsT) λF=>k1<|wQ λk2=>(F.cT)<|Yg<|(F.y F.mf) λF=>?_
 refine(F.y ((Z5V rfl (F.at rfl) ZlT (by intro m e;cases e)))) λF=>(F.px) ?_
 (try simp only[Exit.inBlock,Exit.then,Exit.jump,reduceIte])
 refine⟨F.ds,?_⟩;exact⟨rfl,(G.e 1)⟩
theorem Zh1(x:Vm)(l s L:List Int)(er:Int)(hml:L.length<=1000)(a1 a2:Option Addr)(c1 c2:Nat)(w:World)
  (hseq:∀W,Ext [] w W->Calls (Qy.prog 0) 185 #[.agg x.vc,.slice a1 l.length c1,.slice a2 s.length c2] W λe w'=>∃y,e = .returned (.tuple #[y,.int .i64 er])/\IntR W.heap.size w' L y/\Ext [] W w') :
  Calls (Qy.prog 0) 26 #[.agg x.vc,.slice a1 l.length c1,.slice a2 s.length c2] w λe w' =>
   ((e = .panicked [bunV 26 #[.agg x.vc,.slice a1 l.length c1,.slice a2 s.length c2]]/\∃d,7<(Question.appendCap 7 0 3).cut (w.tape d (.appendCap 7 0 3)))/\Ext [] w w') \/
   ∃y,e = .returned (.tuple #[y,.int .i64 er])/\IntR w.heap.size w' L y/\Zbo w y/\Ext [] w w':=by
 have E:=Ext.refl [] w;have HQ:=Lib.hid hseq;clear hseq;have G:=(Bk.nil w).ce E;refine(ent 13 Qy.f188 rfl) λF=>wR λk1=>(F.bs G 1 #[.int .i64 0,.int .i64 0,.int .i64 0,.int .i64 0,.int .i64 0,.int .i64 0,.int .i64 0] Qy.zeroValue3) λyy F G=>?_;have htp:=(G.e 1).tape;refine Zx F rfl dC (F.want rfl) (Zcp rfl Qy.underlying22 kR (F.at rfl) (G.q 0) dC dC dC) ?_;clear F;rintro _ v' w2 F ⟨⟨b4,K,rfl,d4,hK⟩,e9⟩;replace G:=G.ex e9;rw[htp]at hK;refine(F.y ((Zk9 rfl (F.at rfl) Qy.underlying22))) λF=>(F.y F.ls) λF=>k1<|wQ λk2=>F.ci (λhc6=>?_) (λhc6=>?_)
 ·refine Yg<|(F.y F.mf) λF=>?_
  refine(F.y ((Z5V rfl (F.at rfl) ZlT (by intro m e;cases e)))) λF=>(F.px) ?_
  (try simp only[Exit.inBlock,Exit.then,Exit.jump,reduceIte])
  refine⟨F.ds,?_⟩;exact .inl ⟨⟨rfl,d4,by rw[<-hK];exact Int.ofNat_lt.1 (by simpa using hc6)⟩,(G.e 1)⟩
 ·refine Yi<|k2<|wR λk3=>(F.k (HQ.out _ (G.e 1))) ?_
  rintro _ w3 ⟨y,rfl,hI,e9⟩;refine kG G e9 λF G=>(F.y F.xt) λF=>(F.y F.xt) λF=>?_;have hEs:=(G.e 1).size;have htp:=(G.e 1).tape;refine Zx F rfl dC (F.want rfl) (Zfe rfl Qy.underlying22 kR (F.at rfl) hI hml) ?_;clear F;rintro _ v' w4 F ⟨hI2,e9,hC⟩;replace G:=G.ex e9;refine k3<|(F.r2) ?_
  exact .inr ⟨_,rfl,ZaK hI2 (Ext.refl [] _) sU oM,(by unfold Zbo at hC⊢;rw[htp]at hC;exact hC),(G.e 1)⟩
end
namespace Lift
open Go Go.Conc Go.RowKit Ev
open Go.ConcM OsLater
abbrev jkV(TG:FuncId->Prop):Jk:={j:=True,rest:=[],gd:=λf=>gJ f=true,law:=λf=>f=lawF,jmp:=λf=>TG f\/f=19,ar:=λf=>if f=19 then 0 else 3}
theorem ZlL(TG:FuncId->Prop):@Strip (jkV TG) PP (Qy.F 0) (@CodeOk (jkV TG) PP false) (λf=>gJ f=true):=strip_J (J:=jkV TG) trivial (λ_=>Iff.rfl) lawJ 0
theorem gokV(TG:FuncId->Prop):@GOk (jkV TG) PP (Qy.F 0) (λf=>gJ f=true):=ZkQ (J:=jkV TG) (λ_=>Iff.rfl) lawJ 0
structure CoA(D:Nat->Prop)(L:List Int)(w w':World)(y:Value)(D':Nat->Prop):Prop where
 lst:IntR w.heap.size w' L y
 old:∀b,b<w.heap.size->w'.heap[b]?=w.heap[b]?
 size:w.heap.size<=w'.heap.size
 os:OsLater w.os w'.os
 out:w'.output=w.output
 dis:∀c,D' c->D c\/w.heap.size<=c
 low:∀c,D' c->c<w'.heap.size
 ne:∀g n c,y = .slice (some ⟨g,0,none⟩) n c->w.heap.size<=g->¬D' g
def CoT(TG:FuncId->Prop)(t:FuncId)(Pre:Array Value->World->Prop):Prop:=∀{D:Nat->Prop} {r:Ren} {v w u:World} {xs zs:Array Value},Pre xs u->(∀b,b<v.heap.size->u.heap[b]?=v.heap[b]?) -> @WH (jkV TG) (@Iv (jkV TG) PP (Qy.F 0)) r v w->Off D r w -> @VRs (jkV TG) r xs zs ->
 ∃(L:List Int) (er:Int),L.length<=6 /\
  (∀tp,Calls (Qy.prog 0) t xs (re v tp) λe u=>((e = .panicked [bunV t xs]/\∃d,7<(Question.appendCap 7 0 3).cut (tp d (.appendCap 7 0 3)))/\Ext [] (re v tp) u)\/∃y,e = .returned (.tuple #[y,.int .i64 er])/\IntR v.heap.size u L y/\Zbo (re v tp) y/\Ext [] (re v tp) u) /\
  ∀{Post:Value->World->Prop} {c:Frame} {cs:List Frame},(∀w' y D',CoA D L w w' y D'->Sure PP Post D' (run1 (c.finish (.tuple #[y,.int .i64 er])) cs) w')->Sure PP Post D (run1 (Frame.enter PP t zs .normal) (c::cs)) w
theorem Zku{L:List Int}{Mu Wg:Nat}(hD:∀c,D c->c<w.heap.size)(U:UnE L w w' y Mu Wg): CoA D L w w' y λc=>D c\/c=Mu\/c=Wg:=
 ⟨U.lst,U.old,U.size,U.os,U.out,λc h=>by
  have m1:=U.mu.1;have m2:=U.wg.1;rcases h with h | rfl | rfl
  ·exact .inl h
  ·exact .inr m1
  ·exact .inr m2,λc h=>by
  have m1:=U.mu.2;have m2:=U.wg.2;rcases h with h | rfl | rfl
  ·exact Y8 (hD c h) U.size
  ·exact m1
  ·exact m2,λg n c e hg h=>by
  have:=U.ne g n c e;rcases h with h | h | h
  ·have:=hD g h;omega
  ·exact this.1 h
  ·exact this.2 h⟩
theorem ZfS (TG:FuncId->Prop) {Pre:Array Value->World->Prop} (hgS:gS t=true) (hbT:∀(y0 y1 y2:Value) (w:World),(∀d,7<(Question.appendCap 7 0 3).cut (w.tape d (.appendCap 7 0 3)))->Calls (Qy.prog 0) t #[y0,y1,y2] w λe w'=>e = .panicked [bunV t #[y0,y1,y2]]/\Ext [] w w') (hco:CoT TG t Pre) {fn:Func} {bd:Code} (hfn:PP.funcs[t]?=some fn) (hbd:fn.body=some bd) (hnm:(fn.name == "runtime.NumGoroutine")=false) {r:Ren} (hR:∀xs u,R (.panicked [bunV t xs]) u->Pre xs u) (hs:@Stk (jkV TG) PP (Qy.F 0) r [f] [g]) (hw:@WH (jkV TG) (@Iv (jkV TG) PP (Qy.F 0)) r v w) (ho:Off D r w) (hI:@Self jk0 (Qy.prog 0) (Qy.F 0) [f,poison] v) (hlaw:f.fn=lawF) (hrun:f.mode = .run) {c:Call} (hat:AtCall f t c) (hrd:∀x∈c.args,∃t,x = .tmp t) (h3:c.args.size=3) (hE:Ends (Qy.prog 0) (Done PP (Qy.F 0) lawF R) [f,poison] v) (k:∀x y r' v' w' D',Z5Y (Qy.prog 0) (Done PP (Qy.F 0) lawF R) f [poison] v [f.finish x,poison] v' -> @Self jk0 (Qy.prog 0) (Qy.F 0) [f.finish x,poison] v' -> @Stk (jkV TG) PP (Qy.F 0) r' [f] [g] -> @VR (jkV TG) r' x y -> @WH (jkV TG) (@Iv (jkV TG) PP (Qy.F 0)) r' v' w'->Off D' r' w'->KeptW v v' w w' r r'->Sure PP Post D' (run1 (g.finish y) cs) w'): Sure PP Post D (run1 g cs) w:=by
 letI:Jk:=jkV TG;have hP:∀x u,¬Done PP (Qy.F 0) lawF R [x] u:=Z3t;have hSt:∀V u,Done PP (Qy.F 0) lawF R V u->V.length=2:=by
  rintro V u ⟨T,e,fr,rfl,_⟩;rfl
 have hf:=(@Stk.uncons (jkV TG) _ _ _ _ _ _ _ hs).1;have hdf:f.defers=[]:=(@FrR.defers (jkV TG) _ _ _ _ _ hf).2 hlaw;have hIs:=hI;obtain⟨f0,A,r0,hV,hi0,hs0,hw0⟩:=hI;simp only[List.cons.injEq]at hV;obtain⟨rfl,hA⟩:=hV;have hA:A=[]:=by
  cases A with
  | nil=>rfl
  | cons a tl=>have:=congrArg List.length hA;simp at this
 subst hA;have hnp:¬Done PP (Qy.F 0) lawF R [f,poison] v:=by
  rintro⟨T,e,fr,q1,q2,q3,q4,q5⟩;simp only[List.cons.injEq]at q1;obtain⟨rfl,_⟩:=q1;cases e with
  | returned x=>have:=q3.1;rw[hrun]at this;cases this
  | panicked ch=>have:=q3.1;rw[hrun]at this;cases this
  | outgrown=>exact q5 rfl
 have hrd0:∀x∈c.args,@RdOk jk0 x:=λx hx=>by
  obtain⟨t,rfl⟩:=hrd x hx;trivial
 obtain⟨y0,y1,y2,hargs⟩:=ZmT (xs:=c.args.map f.eval) (by simp[h3])
 -- the bad tape
 have hbad:Calls (Qy.prog 0) t (c.args.map f.eval) (re v λ_ _=>1) (λe u=>e = .panicked [bunV t #[y0,y1,y2]]/\Ext [] (re v λ_ _=>1) u):=by
  rw[hargs];exact hbT y0 y1 y2 _ λd=>by show 7<7+1 % (2 ^ 63-7);decide
 obtain⟨e,v1,u1,r1,he,hi1,hw1,hk1,hcase⟩:=@Z70 jk0 (Qy.prog 0) (Qy.F 0) _ r0 v _ hQ0 Z2Y gokS recS hSt f t c hs0 hw0 hi0 hat hgS hrd0 (λ_ _=>1) _ (λu q=>by cases q.1) hbad;obtain⟨rfl,hE1⟩:=he;rcases hcase with⟨x,y,q,_⟩ | ⟨ch,ch',q,hpr,hreach⟩
 ·cases q
 obtain rfl:=Ending.panicked.inj q;have hch:ch'=[bunV t #[y0,y1,y2]]:=by
  cases hpr with
  | cons a t =>
   cases t;obtain⟨a1,a2,a3⟩:=a;rename_i z;obtain⟨zv,zr,zg⟩:=z;have:=@VR.id jk0 _ id hi1 _ _ a1;dsimp only[bunV]at this a2 a3;subst this a2 a3;rfl
 subst hch;have hr1:=Z2k hnp hreach;have hE2:=hE.reach hr1;have hS2:=@Z4d jk0 _ _ _ _ _ _ _ _ hQ0 Z2Y gokS recS hP hr1 hE hIs;have hmr:(f.raise [bunV t #[y0,y1,y2]]).mode = .panicking [bunV t #[y0,y1,y2]]:=by
  unfold Frame.raise;rw[hrun]
 have hdr:(f.raise [bunV t #[y0,y1,y2]]).defers=[]:=by
  unfold Frame.raise;rw[hrun];exact hdf
 have hfr:(f.raise [bunV t #[y0,y1,y2]]).fn=lawF:=by
  unfold Frame.raise;rw[hrun];exact hlaw
 have hst:=@ZbS jk0 _ _ _ _ _ hQ0 Z2Y gokS recS hP _ _ hmr hdr (by rw[hfr];exact⟨_,(Zeb (k:=lawF) dC).choose_spec.choose_spec.1⟩) hE2 hS2;obtain⟨T,e,fr,q1,q2,q3,q4,q5⟩:=hst;simp only[List.cons.injEq]at q1;obtain⟨rfl,_⟩:=q1;have hpre:Pre #[y0,y1,y2] u1:=by
  cases e with
  | returned x=>have:=q3.1;rw[hmr]at this;cases this
  | outgrown=>exact absurd rfl q5
  | panicked ch =>
   have:=q3.1;rw[hmr]at this;obtain rfl:=FrameMode.panicking.inj this;exact hR _ _ q4
 have hold:∀b,b<v.heap.size->u1.heap[b]?=v.heap[b]?:=λb hb=>@Kep.old jk0 _ _ _ _ _ _ id hi1 hk1 hw1 _ hb (hE1.block b hb sU);have hys:@VRs (jkV TG) r (c.args.map f.eval) (c.args.map g.eval):=@Z2F (jkV TG) _ _ _ (@FrR.env (jkV TG) _ _ _ _ _ hf) _ (λx hx=>by
  obtain⟨t,rfl⟩:=hrd x hx;trivial)
 rw[hargs]at hys;obtain⟨L,er,hL6,hcg,hcc⟩:=hco hpre hold hw ho hys;have hatg:=@AtCall.rel (jkV TG) _ _ _ _ _ hf _ _ hat
 have hkg:g.kind = .normal\/g.kind = .deferred:=by
  have:=@FrR.kind (jkV TG) _ _ _ _ _ hf;rw[<-this.1];exact this.2
 refine @Sure.step (jkV TG) _ _ _ _ _ rfl λw1 hl1=>⟨_,w1,#[],@AtCall.step (jkV TG) _ _ _ _ hatg _ _ hfn hbd hnm hkg true cs w1,sU,by rw[hl1.1];exact Ye _,?_⟩;refine Sure.like ?_ hl1;refine hcc λw3 y D' U=>?_
 -- the good tape
 obtain⟨cp,hcp⟩:∃cp:Nat,cp<=maxLen/\∀g n c,y = .slice (some ⟨g,0,none⟩) n c->c=cp/\n<=cp/\n≠7:=by
  rcases U.lst with⟨_,rfl⟩ | ⟨gc,cc,_,rfl,_,hcq,hmm,_⟩
  ·exact⟨0,Nat.zero_le _,λg n c e=>by cases e⟩
  ·refine⟨cc,hmm,λg n c e=>?_⟩;simp only[Value.slice.injEq]at e;obtain⟨_,rfl,rfl⟩:=e;exact⟨rfl,hcq,oM⟩
 have hgood:Calls (Qy.prog 0) t (c.args.map f.eval) (re v (tG cp)) (λe u=>∃y,e = .returned (.tuple #[y,.int .i64 er])/\IntR v.heap.size u L y/\Zbo (re v (tG cp)) y/\Ext [] (re v (tG cp)) u):=by
  rw[hargs];refine(hcg (tG cp)).mono λe u h=>?_;rcases h with⟨⟨_,d,hd⟩,_⟩ | h
  ·exact absurd hd (by show ¬7<7+0 % (2 ^ 63-7);decide)
  ·exact h
 obtain⟨e,v2,u2,r2,he,hi2,hw2,hk2,hcase⟩:=@Z70 jk0 (Qy.prog 0) (Qy.F 0) _ r0 v _ hQ0 Z2Y gokS recS hSt f t c hs0 hw0 hi0 hat hgS hrd0 (tG cp) _ (λu q=>by obtain⟨_,q,_⟩:=q;cases q) hgood;obtain⟨y0',rfl,hI2,hC2,hE3⟩:=he;rcases hcase with⟨x2,y2',q,hvr,hreach2⟩ | ⟨ch,ch',q,_⟩
 rotate_left
 ·cases q
 obtain rfl:=Ending.returned.inj q;have hyy:=@VR.id jk0 _ id hi2 _ _ hvr;subst hyy;have hr2:=Z2k hnp hreach2;have hS3:=@Z4d jk0 _ _ _ _ _ _ _ _ hQ0 Z2Y gokS recS hP hr2 hE hIs;have hold2:∀b,b<v.heap.size->u2.heap[b]?=v.heap[b]?:=λb hb=>@Kep.old jk0 _ _ _ _ _ _ id hi2 hk2 hw2 _ hb (hE3.block b hb sU);have henv:u2.os.env=w3.os.env:=by
  have e1:u2.os=v.os:=hk2.os.2.symm;rw[e1,Z9W U.os];exact hw.env
 have hofD:∀b d,r b=some d->¬D' d:=λb d hb hd=>by
  obtain⟨_,_,_,g2,_⟩:=hw.on _ _ hb;have:=(Y0.1 g2).1;rcases U.dis d hd with q | q
  ·exact ho.names b d hb q
  ·omega
 have kw:∀r',(∀a b,r' a=some b->r a=some b\/w.heap.size<=b)->KeptW v u2 w w3 r r':=λr' h=>⟨hold2,U.old,U.size,U.os,U.out,h⟩;rcases hI2 with⟨hL,rfl⟩ | ⟨g0,k0,hL,rfl,hb0,hc0,hm0,hq0⟩
 ·have hy:y = .slice none 0 0:=by
   rcases U.lst with⟨_,q⟩ | ⟨_,_,q,_⟩
   ·exact q
   ·exact absurd hL q
  subst hy;refine k _ _ r u2 w3 _ hreach2 hS3 hs ?_ (@Zf2 (jkV TG) _ _ _ _ _ _ hw hold2 U.old henv) ⟨hofD,U.low⟩ (kw r λa b h=>.inl h);refine @VR.tuple (jkV TG) _ _ _ rfl λi a b h1 h2=>?_;rw[h1]at h2;obtain rfl:=Y1 h2;have:=Yk h1;simp only[Yb,Yc,Ya,or_false]at this;rcases this with rfl | rfl
  ·exact @VR.sl0 (jkV TG) _ _ _
  ·exact @VR.int (jkV TG) _ _ _
 ·obtain⟨gc,cc,_,hy,hbc,hcc,hmc,hqc⟩:∃gc cc,L≠[]/\y = .slice (some ⟨gc,0,none⟩) L.length cc/\w.heap.size<=gc/\L.length<=cc/\cc<=maxLen/\w3.heap[gc]?=some (.cells (ivs (L)++List.replicate (cc-L.length) (Value.int .i64 0)).toArray 3 (0,0)):=by
   rcases U.lst with⟨q,_⟩ | q
   ·exact absurd q hL
   ·exact q
  obtain⟨rfl,hn1,hn7⟩:=hcp.2 _ _ _ hy;have hkc:k0=cc:=by
   obtain⟨d,hd⟩:=hC2 _ _ _ rfl;have hd:k0=L.length+(if L.length=7 then 0 else cc-L.length) % (2 ^ 63-L.length):=hd;rw[if_neg hn7,Nat.mod_eq_of_lt (by simp only[maxLen]at hmc;omega)]at hd;omega
  subst hkc;subst hy;have hpos:0<L.length:=List.length_pos_iff.2 hL;have hg0:r2 g0=some g0:=by
   cases hvr with
   | tuple _ t =>
    have:=t 0 _ _ rfl rfl;cases this with
    | sl _ _ q=>cases q with | mk q=>exact q
  have hq2:u2.heap[g0]?=some (.cells (ivs (L)++List.replicate (k0-L.length) (Value.int .i64 0)).toArray 3 (0,0)):=by
   refine @Kep.fresh jk0 _ _ _ _ id hi2 hw2 _ _ hg0 hq0 ?_;rintro⟨cs2,e2,q⟩;simp only[Obj.cells.injEq,Y9,true_and]at q;obtain⟨rfl,_,q⟩:=q;simp only[List.size_toArray,Ym,List.length_replicate,ivs,Yj]at q;omega
  have hce:∀z∈(ivs (L)++List.replicate (k0-L.length) (Value.int .i64 0)).toArray,∃n,z = .int .i64 n:=by
   intro z hz;simp only[Yb,List.mem_append,ivs,List.mem_map,List.mem_replicate]at hz;rcases hz with⟨n,_,rfl⟩ | ⟨_,rfl⟩<;>exact⟨_,rfl⟩
  obtain⟨hwm,hle⟩:=@Zk2 (jkV TG) _ _ _ _ _ _ hw hold2 U.old henv g0 gc _ _ hq2 hqc hb0 hbc hce;refine k _ _ (r.add g0 gc) u2 w3 _ hreach2 hS3 (@Stk.mono (jkV TG) _ _ _ _ hle _ _ hs) ?_ hwm ⟨λa b h hd=>?_  ,U.low⟩ (kw _ λa b h=>?_)
  ·refine @VR.tuple (jkV TG) _ _ _ rfl λi a b h1 h2=>?_;rcases i with _ | _ | i
   ·obtain rfl:=Y1 h1;obtain rfl:=Y1 h2;exact @VR.sl (jkV TG) _ _ _ _ _ (.mk (by unfold Ren.add;rw[if_pos rfl]))
   ·obtain rfl:=Y1 h1;obtain rfl:=Y1 h2;exact @VR.int (jkV TG) _ _ _
   ·simp at h1
  ·unfold Ren.add at h;split at h
   ·obtain rfl:=Y1 h;exact U.ne _ _ _ rfl hbc hd
   ·exact hofD _ _ h hd
  ·unfold Ren.add at h;split at h
   ·obtain rfl:=Y1 h;exact .inr hbc
   ·exact .inl h
theorem ZdI(TG:FuncId->Prop){r:Ren}(hs:@Stk (jkV TG) PP (Qy.F 0) r [f] [g])(hw:@WH (jkV TG) (@Iv (jkV TG) PP (Qy.F 0)) r v w)(ho:Off D r w)(hI:@Self jk0 (Qy.prog 0) (Qy.F 0) [f,poison] v)(hlaw:f.fn=lawF)(hrun:f.mode = .run){c:Call}(hat:AtCall f 19 c)(h3:c.args.size=0)(hE:Ends (Qy.prog 0) (Done PP (Qy.F 0) lawF R) [f,poison] v)(k:∀x y r' v' w' D',Z5Y (Qy.prog 0) (Done PP (Qy.F 0) lawF R) f [poison] v [f.finish x,poison] v' -> @Self jk0 (Qy.prog 0) (Qy.F 0) [f.finish x,poison] v' -> @Stk (jkV TG) PP (Qy.F 0) r' [f] [g] -> @VR (jkV TG) r' x y -> @WH (jkV TG) (@Iv (jkV TG) PP (Qy.F 0)) r' v' w'->Off D' r' w'->KeptW v v' w w' r r'->Sure PP Post D' (run1 (g.finish y) cs) w'): Sure PP Post D (run1 g cs) w:=by
 letI:Jk:=jkV TG;have hP:∀x u,¬Done PP (Qy.F 0) lawF R [x] u:=Z3t;have hSt:∀V u,Done PP (Qy.F 0) lawF R V u->V.length=2:=by
  rintro V u ⟨T,e,fr,rfl,_⟩;rfl
 have hf:=(@Stk.uncons (jkV TG) _ _ _ _ _ _ _ hs).1;have hIs:=hI;obtain⟨f0,A,r0,hV,hi0,hs0,hw0⟩:=hI;simp only[List.cons.injEq]at hV;obtain⟨rfl,hA⟩:=hV;have hA:A=[]:=by
  cases A with
  | nil=>rfl
  | cons a tl=>have:=congrArg List.length hA;simp at this
 subst hA;have hnp:¬Done PP (Qy.F 0) lawF R [f,poison] v:=by
  rintro⟨T,e,fr,q1,q2,q3,q4,q5⟩;simp only[List.cons.injEq]at q1;obtain⟨rfl,_⟩:=q1;cases e with
  | returned x=>have:=q3.1;rw[hrun]at this;cases this
  | panicked ch=>have:=q3.1;rw[hrun]at this;cases this
  | outgrown=>exact q5 rfl
 have ha0:c.args=#[]:=Array.eq_empty_of_size_eq_zero h3;have hargs:c.args.map f.eval=#[]:=by rw[ha0];simp
 have hargg:c.args.map g.eval=#[]:=by rw[ha0];simp
 have hgood:Calls (Qy.prog 0) 19 (c.args.map f.eval) (re v λ_ _=>0) (λe u=>e = .returned (.bool true)/\Ext [] (re v λ_ _=>0) u):=by
  rw[hargs];exact Z2E (μ:=0) _
 obtain⟨e,v2,u2,r2,he,hi2,hw2,hk2,hcase⟩:=@Z70 jk0 (Qy.prog 0) (Qy.F 0) _ r0 v _ hQ0 Z2Y gokS recS hSt f 19 c hs0 hw0 hi0 hat dC (λx hx=>by rw[ha0]at hx;simp at hx) (λ_ _=>0) _ (λu q=>by cases q.1) hgood;obtain⟨rfl,hE3⟩:=he;rcases hcase with⟨x2,y2',q,hvr,hreach2⟩ | ⟨ch,ch',q,_⟩
 rotate_left
 ·cases q
 obtain rfl:=Ending.returned.inj q;have hyy:=@VR.id jk0 _ id hi2 _ _ hvr;subst hyy;have hr2:=Z2k hnp hreach2;have hS3:=@Z4d jk0 _ _ _ _ _ _ _ _ hQ0 Z2Y gokS recS hP hr2 hE hIs;have hold2:∀b,b<v.heap.size->u2.heap[b]?=v.heap[b]?:=λb hb=>@Kep.old jk0 _ _ _ _ _ _ id hi2 hk2 hw2 _ hb (hE3.block b hb sU);have hatg:=@AtCall.rel (jkV TG) _ _ _ _ _ hf _ _ hat
 have hkg:g.kind = .normal\/g.kind = .deferred:=by
  have:=@FrR.kind (jkV TG) _ _ _ _ _ hf;rw[<-this.1];exact this.2
 have hfn:PP.funcs[(19:Nat)]?=some Tryz.f19:=kR
 obtain⟨bd,hbd⟩:∃b,Tryz.f19.body=some b:=⟨_,rfl⟩;refine @Sure.step (jkV TG) _ _ _ _ _ rfl λw1 hl1=>⟨_,w1,#[],@AtCall.step (jkV TG) _ _ _ _ hatg _ _ hfn hbd kR hkg true cs w1,sU,by rw[hl1.1];exact Ye _,?_⟩;refine Sure.like ?_ hl1;rw[hargg];have hwn:@WH jkN (@Iv jkN PP (Qy.F 0)) (λ_=>none) w w:=@WH.mk jkN _ _ _ _ (λb c h=>by cases h) (λa b c h=>by cases h) rfl;refine @Sure.called jkN PP (Qy.F 0) (λf=>gB f=true) _ _ _ _ _ (ZlK 0) (gokN 0) recN 19 #[] #[] dC (@Arr.nil jkN _ _ _) hwn ⟨λb c h=>by(cases h),ho.low⟩ (λe u=>e = .returned (.bool true)) (λe u T q=>q) (λu q=>by cases q) (λT=>(Z2E (μ:=0) (re w T)).mono λe u q=>q.1) g cs (λr' v' w' x y hx hv hw' hk ho'=>?_) (λr' v' w' ch ch' hx=>by cases hx);obtain rfl:=Ending.returned.inj hx;have hy:y = .bool true:=by cases hv;rfl
 subst hy;have hold:∀b,b<w.heap.size->w'.heap[b]?=w.heap[b]?:=λb hb=>hk.far b hb λa h=>by cases h
 have hos:w'.os=w.os:=hk.os.2.symm;have henv:u2.os.env=w'.os.env:=by
  have e1:u2.os=v.os:=hk2.os.2.symm;rw[e1,hos];exact hw.env
 refine k _ _ r u2 w' D hreach2 hS3 hs (@VR.bool (jkV TG) _ _) (@Zf2 (jkV TG) _ _ _ _ _ _ hw hold2 hold henv) ⟨ho.names,λd hd=>Y8 (ho.low d hd) hk.sizeW⟩ ⟨hold2,hold,hk.sizeW,by rw[hos];exact OsLater.refl _,hk.out,λa b h=>.inl h⟩
end Lift
namespace Lift
open Go Go.Conc Go.RowKit Ev
open Go.ConcM OsLater
structure Tgt(TG:FuncId->Prop)(t:FuncId)(Pre:Array Value->World->Prop):Prop where
 gs:gS t=true
 bad:∀(y0 y1 y2:Value) (w:World),(∀d,7<(Question.appendCap 7 0 3).cut (w.tape d (.appendCap 7 0 3)))->Calls (Qy.prog 0) t #[y0,y1,y2] w λe w'=>e = .panicked [bunV t #[y0,y1,y2]]/\Ext [] w w'
 co:CoT TG t Pre
 fn:∃fn bd,PP.funcs[t]?=some fn/\fn.body=some bd/\(fn.name == "runtime.NumGoroutine")=false
 ng:gJ t=false
def LawV(Pre:FuncId->Array Value->World->Prop)(e:Ending)(u:World):Prop:=e = .returned (.bool true)\/∃t xs,gJ t=false/\e = .panicked [bunV t xs]/\Pre t xs u
theorem ZdO(TG:FuncId->Prop)(Pre:FuncId->Array Value->World->Prop)(hT:∀t,TG t->Tgt TG t (Pre t)){w0:World}{r:Ren}(hR:∀t xs u,R (.panicked [bunV t xs]) u->Pre t xs u)(hret:∀x u,R (.returned x) u->x = .bool true)(hpan:∀ch u,R (.panicked ch) u->∃t xs,gJ t=false/\ch=[bunV t xs])(hini:PP.inits.idxOf? lawF=none)(hfn:f.fn=lawF)(hs:@Stk (jkV TG) PP (Qy.F 0) r [f] [g])(hw:@WH (jkV TG) (@Iv (jkV TG) PP (Qy.F 0)) r v w0)(hsh:∀a b,r a=some b->Shut v a)(hI:@Self jk0 (Qy.prog 0) (Qy.F 0) [f,poison] v)(hE:Ends (Qy.prog 0) (Done PP (Qy.F 0) lawF R) [f,poison] v):
  Sure PP (Zi5 w0) (λ_=>False) (run1 g []) w0:=by
 letI:Jk:=jkV TG;refine Sure.jumps (P:=PP) (F:=Qy.F 0) (G:=λf=>gJ f=true) (Stop:=Done PP (Qy.F 0) lawF R) (V:=[f,poison]) (v:=v) (cs:=[]) (ZlL TG) (gokV TG) recP Z3t (I:=λV v=>@Self jk0 (Qy.prog 0) (Qy.F 0) V v) ?_ (J:=λ_ r v w=>Since w0 r v w) (λD r r' v v' w w' k h=>h.kep k) ?_ ?_ hE (λ_=>False) f [] g [] r w0 rfl hs hw ⟨λ_ _ _ h=>h,λ_ h=>h.elim⟩ ⟨λ_ _=>rfl,Ye _,OsLater.refl _,rfl,λa b h _=>hsh a b h⟩ hI
 ·intro f K v τ f' K' v' es h e;exact @Self.step jk0 _ _ _ _ _ hQ0 Z2Y gokS recS _ _ _ _ _ _ h e
 ·intro D f g r v w hs hw ho hj hi hp hE k;have hlt:∀a b,r a=some b->a<v.heap.size:=λa b q=>by
   obtain⟨_,_,g1,_⟩:=hw.on _ _ q;exact(Y0.1 g1).1
  obtain⟨jf,c,hjf,hat,hrd,h3⟩:=Pend.at hp;by_cases hd:jf=19
  ·subst hd;exact ZdI TG hs hw ho hi hp.1 hp.2.1 hat (h3.trans (if_pos rfl)) hE λx y r' v' w' D' h1 h2 h3 h4 h5 h6 h7=>k x y r' v' w' D' h1 h2 h3 h4 h5 h6 (hj.more h7 hlt)
  ·obtain⟨q1,q2,q3,⟨fn,bd,q4,q5,q6⟩,_⟩:=hT jf (hjf.resolve_right hd);exact ZfS TG q1 q2 q3 q4 q5 q6 (hR jf) hs hw ho hi hp.1 hp.2.1 hat hrd (h3.trans (if_neg hd)) hE λx y r' v' w' D' h1 h2 h3 h4 h5 h6 h7=>k x y r' v' w' D' h1 h2 h3 h4 h5 h6 (hj.more h7 hlt)
 ·intro D f A g B r v w h hs hw ho hj;obtain⟨T,e,fr,q1,q2,q3,q4,q5⟩:=h;simp only[List.cons.injEq]at q1;obtain⟨rfl,hA⟩:=q1;have hA:A=[]:=by
   cases A with
   | nil=>rfl
   | cons a tl=>have:=congrArg List.length hA;simp at this
  subst hA;have hB:B=[]:=by
   obtain⟨_,h,_⟩:=hs.uncons;have:=h.rel;cases B with
   | nil=>rfl
   | cons b bs=>cases this
  subst hB;have hf:=hs.uncons.1;cases e with
  | outgrown=>exact absurd rfl q5
  | returned x =>
   obtain rfl:=hret _ _ q4;have hgi:PP.inits.idxOf? g.fn=none:=by rw[<-hf.fn,q2];exact hini
   refine Sure.last rfl λw1 hl=>?_;have hw1:WH (Iv PP (Qy.F 0)) r v w1:=hw.of rfl hl.1 (by rw[hl.2.1];exact hw.env);obtain⟨r2,T2,y,w2,ns,e2,hv,hw2,hk2,he⟩:=ZdQ hf hw1 q3 hgi;have ho2:=(ho.like hl).kept hk2;have hk3:Kep r r2 v v w w2:=Kep.of (v0:=re v T2) (v':=re v T2) ⟨rfl,rfl,rfl⟩ hl hk2;refine⟨y,w2,ns,e2,λx hx=>Z8t (he x hx) ho2.names,by rw[<-hl.1];exact hk2.sizeW,?_⟩;cases hv;have:=hj.kep hk3;exact⟨rfl,this.old,this.size,this.os,this.out⟩
  | panicked ch =>
   exfalso;obtain⟨tq,xs,hng,rfl⟩:=hpan _ _ q4;have hm:=hf.mode;rw[q3.1]at hm;generalize g.mode=z at hm;cases hm with
   | panicking q =>
    cases q with
    | cons a t =>
     have a1:=a.1;dsimp only[bunV]at a1;generalize PanicEntry.v _=z2 at a1;cases a1 with
     | iface _ k =>
      cases k with
      | func hf _ _ _ _ =>
       cases hf with
       | func _ h =>
        have h:gJ tq=true:=h;rw[hng]at h;cases h
end Lift
section
open Go.RowKit
variable{μ:Nat}
theorem Z3R{α β:Type}(d:α×β):∀(l:List (α×β)) (k:Nat),(l.getD k d).2=(l.map (·.2)).getD k d.2
 | [],_=>rfl
 | _::_,0=>rfl
 | _::l,k+1=>Z3R d l k
structure SameV(y x:Vm):Prop where
 B:y.B=x.B
 tol:y.tol=x.tol
 D:y.D.map (·.2)=x.D.map (·.2)
 L:y.L.map (·.2)=x.L.map (·.2)
theorem SameV.dl{y x:Vm}(h:SameV y x):y.D.length=x.D.length:=by have:=congrArg List.length h.D;simpa using this
theorem SameV.ll{y x:Vm}(h:SameV y x):y.L.length=x.L.length:=by have:=congrArg List.length h.L;simpa using this
theorem SameV.lamp{y x:Vm}(h:SameV y x)(k:Nat):y.lamp k=x.lamp k:=by rw[Vm.lamp,Vm.lamp,Z3R,Z3R,h.L]
theorem SameV.dye{y x:Vm}(h:SameV y x)(k:Nat):y.dye k=x.dye k:=by rw[Vm.dye,Vm.dye,Z3R,Z3R,h.D]
theorem SameV.ton{y x:Vm}(h:SameV y x)(f:Nat->Int)(j:Nat):∀n,tonE y f j n=tonE x f j n
 | 0=>rfl
 | n+1=>by
  show tonE y f j n+f n*val (y.dye n) j=tonE x f j n+f n*val (x.dye n) j;rw[h.ton f j n,h.dye]
theorem SameV.off{y x:Vm}(h:SameV y x)(k:Nat)(f s:Nat->Int):offE y k f s=offE x k f s:=by
 have ht:tnE y f=tnE x f:=funext λj=>by rw[tnE,tnE,h.dl,h.ton]
 rw[offE,offE,h.lamp,h.B,ht]
variable{μ:Nat}
theorem ZeT:∀(xs:List Int) (i:Nat) (v:Int),i<xs.length->(xs.set i v).sum=xs.sum-xs.getD i 0+v
 | [],i,v,h=>by simp at h
 | x::xs,0,v,h=>by simp;omega
 | x::xs,i+1,v,h=>by
  have:=ZeT xs i v (by simpa using h);simp only[List.set_cons_succ,List.sum_cons,this,List.getD_cons_succ];omega
theorem ZdP{xs:List Int}(h:∀n∈xs,0<=n): ∀n∈xs,n<=xs.sum:=by
 induction xs with
 | nil=>intro n hn;simp at hn
 | cons x xs ih =>
  intro n hn;have h0:0<=xs.sum:=by
   clear ih hn
   induction xs with
   | nil=>simp
   | cons y ys ih2 =>
    have:=h y sU;have:=ih2 λm hm=>h m (by simp only[Yc]at hm⊢;rcases hm with rfl | hm<;>simp[*]);simp only[List.sum_cons];omega
  have hx:=h x sU;rw[List.sum_cons];rcases Yc.1 hn with rfl | hn
  ·omega
  ·have:=ih (λm hm=>h m (by simp[hm])) n hn;omega
def Zib(x:Vm)(w0:World)(b k:Nat)(nv:Value)(w:World)(e:Ending)(w':World):Prop:=∃(a:Option Addr) (xs:List Int),e = .returned (.slice a x.D.length x.D.length)/\RcpOk x xs/\w'.ownsRow w.heap.size 3 1 (.slice a x.D.length x.D.length) x.D.length (ivs xs)/\Zi w0 w' b (k+10) nv/\Ext [b] w w'
theorem Z4o(x:Vm)(hv:VOk x)(w0 w:World)(b k:Nat)(nv:Value)(h:Zi w0 w b k nv)(hk:k<=900000):
  Calls (Qy.prog μ) 14 #[.pointer (some ⟨b,0,none⟩),.agg x.vc] w (Zib x w0 b k nv w):=by
 have HL:=h;have hbw:=Z0l HL;have hws:w0.heap.size<=w.heap.size:=HL.2.2.1.size;have E:Ext [b] w w:=Ext.refl _ _;have hd1:=hv.d1;have hd4:=hv.d4;clear h hv;have G:=((Bk.nil w).cl HL).ce E;refine(ent 31 Tryz.f14 rfl) λF=>wR λk1=>(F.bx G) @λn3 w1 _ yy F G=>(F.m) λF=>k1<|wR λk2=>(F.y (F.fd 1)) λF=>(F.y (F.lc (G.q 0))) λF=>(F.y F.ln) λF=>?_
 have hEs:=(G.e 1).size;refine Zx F rfl dC (F.want rfl) (Z2L rfl w.heap.size (e:=3) (bytes:=8) (z:=.int .i64 0) Qy.underlying22 kR rfl (F.at rfl) (F.at rfl) (n:=x.D.length) oM dC oM) ?_;clear F;rintro _ v' w2 F ⟨oo,hg,rfl⟩;obtain⟨n10,hn⟩:=eQ w1.heap.size;rw[<-hn]at F oo;have s10:=G.lt hn;replace G:=G.gn hg;clear hg hn;replace G:=G.co oo;have oo:=G.o 0;rw[show List.replicate x.D.length (Value.int .i64 0)=ivs (List.replicate x.D.length 0) by simp[ivs]]at oo;replace G:=G.rO 0 oo;clear oo;refine(F.m) λF=>k2<|wQ λk3=>wR λk4=>(F.m) λF=>(F.m) λF=>(F.bs G 1 #[.int .i64 1,.int .i64 2,.int .i64 3,.int .i64 6] Qy.zeroValue3) @λn13 w3 _ yy F G=>(F.k (Ze6 w0 _ b _ nv n13 _ [1,2,3,6] (G.l 4) oM (G.q 0) oM dC dC)) ?_
 rintro _ w4 ⟨v,rfl,hvm,HL,e9⟩;refine(kL G 4 e9 HL) λF G=>?_;have hv6:1<=v/\v<=6:=by simp only[Yc,Ya,or_false]at hvm;omega
 refine(F.k (Z8x w0 _ b _ nv 1 v (G.l 4) oM oM oM oM oM)) ?_;rintro _ w5 ⟨n,rfl,hn1,hn2,HL,e9⟩;refine⟨_,rfl,λF=>?_⟩;replace G:=(G.xl 4 e9 HL).d 0;refine(F.m) λF=>?_;rw[show n=n-((0:Nat):Int) by omega]at F;refine k4<|Yh ?_
 replace G:=G.rL 3 (show Zi w0 w5 b (k+2+0) nv from Zj (G.l 3) oM);refine lpB (F.b [0,5]) (G.b [1,2]) (6) (λi Lv Sv W=>∃xs:List Int,Lv=[(6,.int .i64 (n-((i:Nat):Int)))]/\Sv=[.l w0 b (k+2+i) nv]/\W.ownsRow w.heap.size 3 1 (.slice (some ⟨n10,0,none⟩) x.D.length x.D.length) x.D.length (ivs xs)/\xs.length=x.D.length/\(∀m∈xs,0<=m)/\xs.sum=i/\(i:Int)<=n) ⟨_,_,F.u,G.u,_,rfl,rfl,(G.o 0),sU,sU,sU,oM⟩ ?_;clear F G;rintro i _ w6 _ _ hi1 ⟨xs,rfl,rfl,oo,hxl,hx0,hxs,hin⟩ F G;replace G:=(G.z).co oo;refine wQ λk5=>wR λk6=>(F.m) λF=>(F.y F.gt) λF=>k6<|F.ci (λhc17=>?_) (λhc17=>?_)
 ·refine Yi<|k5<|wQ λk7=>Yh<|Yg<|(F.m) λF=>(F.m) λF=>(F.m) λF=>(F.y F.ln) λF=>(F.y F.sb) λF=>(F.k (Zk w0 _ b _ nv (((x.D.length:Nat):Int)-1) (G.l 1) oM oM oM)) ?_
  rintro _ w7 ⟨u,rfl,hu0,hu1,HL,e9⟩;refine(kL G 1 e9 HL) λF G=>?_;obtain⟨u,rfl⟩:=Int.eq_ofNat_of_zero_le hu0;have hux:u<xs.length:=by rw[hxl];omega
  have oo:=G.o 0;have HS:=Lib.hid (ZH oo hxl.symm [] sU);have hil:=Z1i xs;have hm0:=hx0 _ (Z5 0 hux);have hmS:=ZdP hx0 _ (Z5 0 hux);replace G:=G.hr [];obtain⟨xb8,xo8,xa8,xr8⟩:=HS.out u oM;refine(F.y (F.is 1 xa8)) λF=>(F.y (F.l1 (xr8 _ (G.e 0)) 0)) λF=>(F.y F.ad) λF=>?_;obtain⟨xb9,xo9,xa9,xr9⟩:=HS.out u oM;refine(F.y (F.is 1 xa9)) λF=>?_;replace G:=G.d 0;obtain⟨⟨u0,hcu⟩,hfu,hst⟩:=Z1n (G.o 0) xa9 (j:=u) (p:=xo9+((u:Nat):Int).toNat*1) (by first | omega | (simp;omega)) oM;refine Z3S rfl (F.want rfl) (ZW rfl (F.at rfl) (F.at rfl) rfl kR hcu hfu) ?_;intro w8 hw;obtain⟨hown',hg⟩:=hst _ _ hw;replace G:=G.gr 0 hg hown';clear hst hcu hfu hw hg hown';have oo:=G.o 0;rw[Z1j]at oo;have hst:=ZeT xs u (xs.getD u 0+1) hux;have hx2:∀m∈xs.set u (xs.getD u 0+1),0<=m:=by intro m hm;rcases List.mem_or_eq_of_mem_set hm with hm | rfl;(· exact hx0 m hm);(· omega)
  replace G:=G.rO 0 oo;clear oo;refine k7<|Yg<|(F.m) λF=>(F.y F.sb) λF=>?_
  rw[show n-((i:Nat):Int)-1=n-((i+1:Nat):Int) by omega]at F;refine(F.m) λF=>?_;replace G:=G.rL 1 (show Zi w0 w8 b (k+2+(i+1)) nv from Zj (G.l 1) oM);show _/\_;exact⟨oM,_,_,F.u,G.u,_,rfl,rfl,(G.o 0),(by rw[List.length_set];exact hxl),hx2,oM,oM⟩
 ·refine wp_exit<|k3<|wR λk10=>(F.m) λF=>(F.m) λF=>k10<|(F.r1) ?_
  have oo:=G.o 0;refine⟨_,xs,rfl,⟨hxl,λm hm=>⟨hx0 m hm,?_⟩,oM,oM⟩,oo,Zj (G.l 1) oM,(G.e 3)⟩;have:=ZdP hx0 m hm;omega
variable{μ:Nat}
def AtB(b:Nat)(x:Vm)(w:World):Prop:=∀W,Ext [b] w W->x.At W
def Zic(x:Vm)(w0:World)(b k:Nat)(nv:Value)(w:World)(e:Ending)(w':World):Prop:=∃(a:Option Addr) (c:Nat) (xs:List Int),e = .returned (.slice a xs.length c)/\Z1s x xs/\w'.ownsRow w.heap.size 3 1 (.slice a xs.length c) xs.length (ivs xs)/\Zi w0 w' b (k+20) nv/\Ext [b] w w'
theorem Zkw{s p:Int}(h0:0<=s)(h1:s<=240)(hp:1<=p): 0<=s / p/\s / p<=240:=⟨Int.ediv_nonneg h0 oM,Int.le_trans (Int.ediv_le_self _ h0) h1⟩
theorem Z8R(x:Vm)(hv:VOk x)(w0 w:World)(b k:Nat)(nv:Value)(h:Zi w0 w b k nv)(hk:k<=900000)(hx:AtB b x w):
  Calls (Qy.prog μ) 25 #[.pointer (some ⟨b,0,none⟩),.agg x.vc] w (Zic x w0 b k nv w):=by
 have HL:=h;have hbw:=Z0l HL;have hb0:=HL.1;have hws:w0.heap.size<=w.heap.size:=HL.2.2.1.size;have E:Ext [b] w w:=Ext.refl _ _;have HX:=Lib.hid hx;have HV:=Lib.hid hv;have hb1:=hv.b1;have hb3:=hv.b3;obtain⟨bn,hbn⟩:∃bn:Nat,x.B=bn:=⟨x.B.toNat,oM⟩;clear h hv hx;have G:=((Bk.nil w).cl HL).ce E;refine(ent 49 Tryz.f25 rfl) λF=>wR λk1=>(F.bx G) λyy F G=>(F.m) λF=>k1<|wQ λk2=>?_
 have G2:=G;refine(wD [b] none G) λG=>(F.zr 0 (G.t 0) λhS=>F.lb (G2.k 0 hS)) λF=>(F.z 1 (G.t 0) F.mo) λF=>(F.zr 2 (G.t 0) λhS=>F.lb (G2.k 0 hS)) λF=>(aO 3)<|(F.ok (Z4o x HV.out w0 _ b _ nv (G.l 3) oM)) ?_
 rintro _ w3 ⟨ra,rl,rfl,hrl,ro,HL,e9⟩;refine(kL G 3 e9 HL) λF G=>.intro (G.t 0) ?_;have hso:=ZeU (μ:=μ) x HV.out bn hbn rl hrl.len (λn hn=>hrl.bd n hn) ra x.D.length w3 (HX.out _ (G.e 2)) (by rw[hrl.len];exact Zh ro hrl.len.symm);rw[hrl.len]at hso;have hbX:=Z0l (G.l 3);refine(aO 4)<|(F.ok hso) ?_
 rintro _ w4 ⟨sa,rfl,so,e9⟩;refine kG G e9 λF G=>.intro (G.t 0) ?_;have hEs0:=(G.e 2).size;have hsl:(sumL x (val rl) bn).length=bn:=by simp[sumL]
 have HSS:=Lib.hid (ZH so hsl.symm [b] (by simpa using hbX));clear ro so hso;have hs1:=hrl.s1;have hs6:=hrl.s6;have hsb:=Lib.hid (Z3i HV.out hrl.tub bn);replace G:=G.hr [b];refine(F.z 5 (G.t 1) F.mo) λF=>(F.z 6 (G.t 1) F.xt) λF=>(F.z 7 (G.t 1) F.xt) λF=>(F.z 8 (G.t 1) F.mo) λF=>(F.z 9 (G.t 1) F.mo) λF=>(aD)<|k2<|wR λk3=>(F.m) λF=>k3<|wQ λk4=>wQ λk5=>?_
 have oo:w4.ownsRow w4.heap.size 3 1 (.slice none 0 0) 0 (ivs []):=World.ownsRow_nil _ _ _ _;have hwS0:w.heap.size<=w4.heap.size:=(by exact hEs0);replace G:=G.co oo;refine Yg<|(F.m) λF=>k5<|Yh ?_
 replace G:=G.rL 5 (show Zi w0 w4 b (k+10+0) nv from Zj (G.l 5) oM);refine lpB (F.b [0,3,5,6]) (G.b [1,3,4]) bn (λi Lv Sv W=>∃va:Option Addr,∃vc:Nat,∃xs:List Int,Lv=[(7,.slice va i vc),(8,.int .i64 ((i:Nat):Int))]/\Sv=[.l w0 b (k+10+i) nv]/\W.ownsRow w4.heap.size 3 1 (.slice va i vc) i (ivs xs)/\xs.length=i/\(∀m∈xs,0<=m/\m<=9)) ⟨_,_,F.u,G.u,none,0,[],rfl,rfl,(G.o 0),rfl,sU⟩ ?_;clear F G;rintro i _ w5 _ _ hi1 ⟨va,vc,xs,rfl,rfl,oo,hxl,hxb⟩ F G;replace G:=(G.z).co oo;refine wQ λk6=>wR λk7=>(F.m) λF=>(F.y (F.fd 0)) λF=>(F.y (F.lc (G.q 3))) λF=>?_;rw[hbn]at F;refine(F.y F.ls) λF=>k7<|F.ci (λhc20=>?_) (λhc20=>?_)
 ·refine Yi<|k6<|wQ λk8=>Yh ?_
  obtain⟨hq0,hq1⟩:=hsb.out _ (Z5 0 (show i<(sumL x (val rl) bn).length by omega));obtain⟨hd0,hd1⟩:=Zkw hq0 hq1 hs1;have G4:=G;refine(wD [b] (some 13) G) λG=>(F.z 0 (G.t 0) F.mo) λF=>(F.z 1 (G.t 0) F.mo) λF=>(F.z 2 (G.t 0) F.mo) λF=>?_;obtain⟨xb9,xo9,xa9,xr9⟩:=HSS.out i oM;refine(F.z 3 (G.t 0) (F.is 1 xa9)) λF=>(F.zR 4 [6,10,11,12,13] (G.t 0) λhS=>F.l1 (xr9 _ ((G4.e 2).trans hS)) 0) λF=>(F.z 5 (G.t 0) F.mo) λF=>?_;refine F.z 6 (G.t 0) (Zhm rfl (F.at rfl) (F.at rfl) oM oM oM) (h:=λF=>?_);refine(F.z 7 (G.t 0) F.mo) λF=>(aO 8)<|(F.obs G 1 #[.int .i64 0,.int .i64 0,.int .i64 1] Qy.zeroValue3) @λn31 w7 _ yy F G=>.intro (G.t 1)<|(aO 9)<|(F.ok (Ze6 w0 _ b _ nv n31 _ [0,0,1] (G.l 3) oM (G.q 0) oM dC dC)) ?_
  rintro _ w8 ⟨v,rfl,hvm,HL,e9⟩;refine(kL G 3 e9 HL) λF G=>.intro (G.t 1) ?_;have hv1:0<=v/\v<=1:=by simp only[Yc,Ya,or_false]at hvm;omega
  replace G:=G.d 0;refine(F.z 10 (G.t 0) F.ad) λF=>(F.z 11 (G.t 0) F.mn) λF=>(aO 12)<|(F.obs G 1 #[.int .i64 (min 9 ((((sumL x (val rl) bn).getD i 0) / rl.sum)+v))] Qy.zeroValue3) λyy F G=>.intro (G.t 1) ?_
  have hzE:=(G.e 4).size;replace G:=G.d 1;refine Z33 (i:=13) kR (Zef F rfl rfl dC (F.want rfl) (ZE rfl w4.heap.size (e:=3) (size:=1) (bytes:=8) Qy.underlying22 kR dC (F.at rfl) (G.o 1) (F.at rfl) (G.q 0) rfl (by simp[Value.oneCell']) oM oM oM) ?_);clear F;rintro _ v' w10 F ⟨hown',hg⟩;obtain⟨va36,vc36,rfl⟩:=Zm hown';replace G:=(G.d 0).gr 0 hg hown';clear hg hown';refine .intro (gone kR) ?_;have oo:=G.o 0;rw[Z0z]at oo;have hx2:(xs++[min 9 ((sumL x (val rl) bn).getD i 0 / rl.sum+v)]).length=i+1:=by rw[Ym,hxl];rfl
  have hx3:∀m∈xs++[min 9 ((sumL x (val rl) bn).getD i 0 / rl.sum+v)],0<=m/\m<=9:=by intro m hm;rcases List.mem_append.1 hm with hm | hm;(· exact hxb m hm);(· simp only[Yc,Ya,or_false]at hm;subst hm;omega)
  replace G:=G.rO 0 oo;clear oo;refine(F.z 14 (gone kR) F.mo) λF=>(aD)<|k8<|Yg<|(F.m) λF=>(F.y F.ad) λF=>(F.m) λF=>?_
  replace G:=G.rL 1 (show Zi w0 w10 b (k+10+(i+1)) nv from Zj (G.l 1) oM);show _/\_;exact⟨oM,_,_,F.u,G.u,_,_,_,rfl,rfl,(G.o 0),hx2,hx3⟩
 ·refine wp_exit ?_;have oo:=G.o 0;rw[show i=bn by omega]at F oo hxl;replace G:=G.rO 0 oo;clear oo;refine k4<|wQ λk10=>wR λk11=>(F.m) λF=>?_
  replace G:=G.d 2;refine(F.k (Z7D w0 _ b _ nv 4 (G.l 1) oM oM oM)) ?_;rintro _ w11 ⟨r,rfl,HL,e9⟩;refine(kL G 1 e9 HL) λF G=>k11<|F.cb (λhc38=>?_) (λhc38=>?_)
  ·refine Yg<|(F.m) λF=>(F.m) λF=>(F.y (F.fd 0)) λF=>(F.y (F.lc (G.q 2))) λF=>(F.y F.sb) λF=>?_
   rw[hbn]at F;refine(F.k (Zk w0 _ b _ nv (((bn:Nat):Int)-1) (G.l 1) oM oM oM)) ?_;rintro _ w12 ⟨u,rfl,hu0,hu1,HL,e9⟩;refine(kL G 1 e9 HL) λF G=>?_;obtain⟨u,rfl⟩:=Int.eq_ofNat_of_zero_le hu0;refine(F.m) λF=>(F.k (Zk w0 _ b _ nv 9 (G.l 1) oM oM oM)) ?_;rintro _ w13 ⟨z,rfl,hz0,hz1,HL,e9⟩;refine(kL G 1 e9 HL) λF G=>?_;have oo:=G.o 0;have HS:=Lib.hid (ZH oo hxl.symm [] sU);have hil:=Z1i xs;replace G:=G.hr [];obtain⟨xb12,xo12,xa12,xr12⟩:=HS.out u oM;refine(F.y (F.is 1 xa12)) λF=>?_;replace G:=G.d 0;obtain⟨⟨u0,hcu⟩,hfu,hst⟩:=Z1n (G.o 0) xa12 (j:=u) (p:=xo12+((u:Nat):Int).toNat*1) (by first | omega | (simp;omega)) oM;refine Z3S rfl (F.want rfl) (ZW rfl (F.at rfl) (F.at rfl) rfl kR hcu hfu) ?_;intro w14 hw;obtain⟨hown',hg⟩:=hst _ _ hw;replace G:=G.gr 0 hg hown';clear hst hcu hfu hw hg hown';have oo:=G.o 0;rw[Z1j]at oo;have hx2:(xs.set u z).length=bn:=by rw[List.length_set];exact hxl
   have hx3:∀m∈xs.set u z,0<=m/\m<=9:=by intro m hm;rcases List.mem_or_eq_of_mem_set hm with hm | rfl;(· exact hxb m hm);(· omega)
   replace G:=G.rO 0 oo;clear oo;refine k10<|wR λk13=>(F.m) λF=>(F.m) λF=>k13<|(F.r1) ?_
   have oo:=G.o 0;exact⟨va,vc,xs.set u z,by rw[hx2],⟨by rw[hx2,hbn],hx3⟩,by rw[hx2];exact Za oo hwS0,Zj (G.l 1) oM,(G.e 3)⟩
  ·refine Yi<|k10<|wR λk14=>(F.m) λF=>(F.m) λF=>k14<|(F.r1) ?_
   have oo:=G.o 0;exact⟨va,vc,xs,by rw[hxl],⟨by rw[hxl,hbn],hxb⟩,by rw[hxl];exact Za oo hwS0,Zj (G.l 1) oM,(G.e 3)⟩
variable{μ:Nat}
theorem Z8m{B:Int}:∀(ds met:List (List Int)),(∀d∈ds,numE d B 9=0)->(met++ds).Nodup->dyeE B met ds=0
 | [],_,_,_=>rfl
 | d::ds,met,h,hn=>by
  rw[dyeE,if_neg (by simp[h d sU])];have h1:d ∉ met:=λhm=>by
   rw[List.nodup_append]at hn;exact hn.2.2 d hm d sU rfl
  rw[if_neg h1];exact Z8m ds (met++[d]) (λe he=>h e (by simp[he])) (by simpa using hn)
theorem Z68{B:Int}:∀(ls:List (List Int)),(∀l∈ls,numE l B 3=0/\l.sum≠0)->Z0K B ls=0
 | [],_=>rfl
 | l::ls,h=>by
  obtain⟨h1,h2⟩:=h l sU;rw[Z0K,if_neg (by simp[h1]),if_neg h2];exact Z68 ls λm hm=>h m (by simp[hm])
theorem ZlW{x:Vm}(b1:1<=x.B)(b3:x.B<=3)(d1:1<=x.D.length)(d4:x.D.length<=4)(dl:∀p∈x.D,(p.2.length:Int)=x.B/\∀n∈p.2,0<=n/\n<=9)(nd:(x.D.map (·.2)).Nodup)(l1:1<=x.L.length)(l3:x.L.length<=3)(ll:∀p∈x.L,(p.2.length:Int)=x.B/\∀n∈p.2,0<=n/\n<=3)(ls:∀p∈x.L,p.2.sum≠0)(t0:0<=x.tol)(t12:x.tol<=12):VOk x:=by
 refine⟨?_,b1,b3,d1,d4,dl,l1,l3,ll,t0,t12⟩;have h2:sizE ((x.D.map (·.2)).length:Nat) 4=0:=Z7G (by simp;omega) (by simp;omega);have h4:sizE ((x.L.map (·.2)).length:Nat) 3=0:=Z7G (by simp;omega) (by simp;omega);have h3:dyeE x.B [] (x.D.map (·.2))=0:=Z8m _ _ (λd hd=>by obtain⟨p,hp,rfl⟩:=List.mem_map.1 hd;exact Z9U (dl p hp).1 (dl p hp).2) (by simpa using nd);have h5:Z0K x.B (x.L.map (·.2))=0:=Z68 _ (λd hd=>by obtain⟨p,hp,rfl⟩:=List.mem_map.1 hd;exact⟨Z9U (ll p hp).1 (ll p hp).2,ls p hp⟩);rw[chk6 (Z0d.2 ⟨b1,b3⟩) h2 h3 h4 h5,Z0d.2 ⟨t0,t12⟩];rfl
theorem Zgk{base n size m c:Nat}{a:Option Addr}{cs:List Value}{e:TypeId}(h:w.ownsRow base e size (.slice a m c) n cs): n<=c:=by
 rcases h.2 with⟨hv,hn⟩ | ⟨g,cap,cur,hv,-,-,hn,-⟩
 ·injection hv with h1 h2 h3;omega
 ·injection hv with h1 h2 h3;omega
theorem ZiV{W: World}{base b2: Nat}{a:Option Addr}{c:Nat}(oo:w.ownsRow base 22 1 (.slice a M.length c) M.length (M.map (·.1)))(fam:FamT w b2 M)(e:Ext [b] w W)(h1:b<base)(h2:b<b2): ZL W a M:=
 Z0R (ZG oo e (by simpa using h1)) (Z0i fam λv n xs h=>ZG h e (by simpa using h2))
def Zid(dm:Nat)(w0:World)(b k:Nat)(nv:Value)(w:World)(e:Ending)(w':World):Prop:=∃x:Vm,e = .returned (.agg x.vc)/\VOk x/\(x.D.length<=dm/\x.D.length<=x.dc/\x.tol<=6)/\AtB b x w'/\Zi w0 w' b (k+100) nv/\Ext [b] w w'
theorem Zf1(dm:Nat)(hdm1:1<=dm)(hdm:dm<=4)(w0 w:World)(b k:Nat)(nv:Value)(h:Zi w0 w b k nv)(hk:k<=800000):
  Calls (Qy.prog μ) 13 #[.pointer (some ⟨b,0,none⟩),.int .i64 ((dm:Nat):Int)] w (Zid dm w0 b k nv w):=by
 have HL:=h;have hbw:=Z0l HL;have hb0:=HL.1;have hws:w0.heap.size<=w.heap.size:=HL.2.2.1.size;have E:Ext [b] w w:=Ext.refl _ _;clear h;have G:=((Bk.nil w).cl HL).ce E;refine(ent 66 Tryz.f13 rfl) λF=>wR λk1=>(F.al G Qy.zeroValue27) @λn4 w1 _ yy F G=>k1<|wR λk2=>(F.m) λF=>(F.k (Z8x w0 _ b _ nv 1 3 (G.l 2) oM oM oM oM oM)) ?_
 rintro _ w2 ⟨bz,rfl,hbz1,hbz2,HL,e9⟩;refine(kL G 2 e9 HL) λF G=>?_;obtain⟨bn,rfl⟩:=Int.eq_ofNat_of_zero_le (show 0<=bz by omega);refine(F.m) λF=>(F.m) λF=>(F.k (Zk w0 _ b _ nv 6 (G.l 2) oM oM oM)) ?_;rintro _ w3 ⟨u,rfl,hu0,hu1,HL,e9⟩;refine(kL G 2 e9 HL) λF G=>(F.bs G 1 #[.int .i64 0,.int .i64 1,.int .i64 1,.int .i64 2,.int .i64 u] Qy.zeroValue3) @λn15 w4 _ yy F G=>(F.k (Ze6 w0 _ b _ nv n15 _ [0,1,1,2,u] (G.l 3) oM (G.q 0) oM sU sU)) ?_;rintro _ w5 ⟨tl,rfl,htm,HL,e9⟩;refine(kL G 3 e9 HL) λF G=>?_;have htl:0<=tl/\tl<=6:=by simp only[Yc,Ya,or_false]at htm;omega
 replace G:=G.d 0;refine(F.y (F.bv #[.int .i64 ((bn:Nat):Int),.slice none 0 0,.slice none 0 0,.int .i64 tl])) λF=>(F.al G Qy.zeroValue27) @λn5 w6 _ yy F G=>(F.sr G 0) λG=>k2<|wQ λk3=>wR λk4=>(F.m) λF=>(F.m) λF=>(F.k (Z8x w0 _ b _ nv 1 ((dm:Nat):Int) (G.l 3) oM oM oM oM oM)) ?_
 rintro _ w8 ⟨n,rfl,hn1,hn2,HL,e9⟩;refine(kL G 3 e9 HL) λF G=>(F.m) λF=>?_;rw[show n=n-((0:Nat):Int) by omega]at F;have hb4:=Z8 (G.q 1);have hb5:=Z8 (G.q 0);have hbb:=Z0l (G.l 3);have hwR0:w.heap.size<=w8.heap.size:=by exact(G.e 2).size
 have oo:w8.ownsRow w8.heap.size 22 1 (.slice none 0 0) 0 (([]:List (Value×List Int)).map (·.1)):=World.ownsRow_nil _ _ _ _;have fam:FamT w8 w8.heap.size []:=Z9x _ _;replace G:=((G.hr [b,n5]).co oo).cf fam;refine k4<|Yh ?_
 replace G:=G.rL 6 (show Zi w0 w8 b (k+4+10*0) nv from Zj (G.l 6) oM);refine lpB (F.b [0,4,5]) (G.b [2,4,5]) dm (λi Lv Sv W=>∃da:Option Addr,∃dc:Nat,∃O:List (Value×List Int),Lv=[(6,.int .i64 (n-((i:Nat):Int)))]/\Sv=[.q n5 (#[.int .i64 ((bn:Nat):Int),.slice da O.length dc,.slice none 0 0,.int .i64 tl]) 27,.l w0 b (k+4+10*i) nv]/\W.ownsRow w8.heap.size 22 1 (.slice da O.length dc) O.length (O.map (·.1))/\FamT W w8.heap.size O/\(∀p∈O,(p.2.length:Int)=bn/\∀m∈p.2,0<=m/\m<=9)/\(O.map (·.2)).Nodup/\O.length<=i/\(0<i->0<O.length)/\(i:Int)<=n) ⟨_,_,F.u,G.u,none,0,[],rfl,rfl,(G.o 1),(G.f 0),sU,sU,sU,sU,oM⟩ ?_;clear F G;rintro i _ w9 _ _ hi1 ⟨da,dc,O,rfl,rfl,oo,fam,hOB,hnd,hOl,hO1,hin⟩ F G;replace G:=((G.z).co oo).cf fam;refine wQ λk5=>wR λk6=>(F.m) λF=>(F.y F.gt) λF=>k6<|F.ci (λhc22=>?_) (λhc22=>?_)
 ·refine Yi<|k5<|wQ λk7=>Yh<|wR λk8=>(F.m) λF=>(F.y (F.fd 0)) λF=>(F.y (F.lc (G.q 2))) λF=>?_
  have fam:=G.f 0;have hflt:=Lib.hid (Zdp fam);obtain⟨B1,hB1⟩:∃B1,B1=w9.heap.size:=⟨_,rfl⟩;rw[<-hB1]at hflt;have hB1w:w8.heap.size<=B1:=by rw[hB1];exact(G.e 4).size
  refine(F.k (Z5K w0 _ b _ nv bn 9 (G.l 3) oM oM oM oM)) ?_;rintro _ w10 ⟨ra,rc,xs,rfl,hxl,hxb,ro,HL,e9⟩;refine(kL G 3 e9 HL) λF G=>?_;rw[<-hB1]at ro;replace G:=G.co ro;refine(F.m) λF=>k8<|wR λk9=>(F.y (F.fd 1)) λF=>(F.y (F.lc (G.q 3))) λF=>(F.m) λF=>?_
  have ro:=G.o 0;have fam:=G.f 1;have oo:=G.o 2;have hin2:=ZfQ (μ:=μ) O xs da ra dc rc w10 (Z0R oo fam) (by rw[hxl];exact Zh ro hxl.symm) oM (λp hp=>by have:=(hOB p hp).1;omega) oM;rw[hxl]at hin2;refine(F.k hin2) ?_;rintro _ w11 ⟨rfl,e9⟩;refine kG G e9 λF G=>?_;clear hin2;refine(F.y F.nd) λF=>k9<|F.ci (λhc33=>?_) (λhc33=>?_)
  ·have ro:=G.o 0;have fam:=G.f 1;have fam2:=Z7e (Z7d (b1:=B1) (L:=[(Value.slice ra bn rc,xs)]) ⟨λp hp=>(by obtain rfl:p=(Value.slice ra bn rc,xs):=(by simpa using hp);rw[show ((Value.slice ra bn rc,xs):Value×List Int).2.length=bn from hxl];exact ro),List.pairwise_singleton _ _⟩ fam hflt.out hB1w) (M:=O++[(Value.slice ra bn rc,xs)]) List.perm_append_comm;have fam:=fam2;clear fam2;obtain⟨P,hP⟩:∃P,P=O++[(Value.slice ra bn rc,xs)]:=⟨_,rfl⟩;have hPl:O.length+1=P.length:=by rw[hP,Ym];rfl
   rw[<-hP]at fam;have hPB:∀p∈P,(p.2.length:Int)=bn/\∀m∈p.2,0<=m/\m<=9:=by intro p hp;rw[hP]at hp;rcases List.mem_append.1 hp with hp | hp;(· exact hOB p hp);(· simp only[Yc,Ya,or_false]at hp;subst hp;exact⟨by show ((xs.length:Nat):Int)=_;omega,hxb⟩)
   have hPn:(P.map (·.2)).Nodup:=by rw[hP,List.map_append,List.nodup_append];exact⟨hnd,sU,λy hy z hz=>by simp only[List.map_cons,List.map_nil,Yc,Ya,or_false]at hz;subst hz;intro e;subst e;exact hc33 hy⟩
   replace G:=G.rF 1 fam;clear fam;refine Yg<|(F.y (F.fd 1)) λF=>(F.y (F.lc (G.q 3))) λF=>(F.m) λF=>(F.bs G 1 #[.slice ra bn rc] Qy.zeroValue22) λyy F G=>?_
   have hEs:=(G.e 6).size;have ro:=G.o 1;replace G:=G.d 1;refine Zx F rfl dC (F.want rfl) (ZE rfl w8.heap.size (e:=22) (size:=1) (bytes:=24) Qy.underlying25 kR dC (F.at rfl) (G.o 2) (F.at rfl) (G.q 0) rfl (by simp[Value.oneCell']) oM oM oM) ?_;clear F;rintro _ v' w13 F ⟨hown',hg⟩;obtain⟨va38,vc38,rfl⟩:=Zm hown';replace G:=(G.d 0).gr 1 hg hown';clear hg hown';have oo:=G.o 1;rw[show O.map (·.1)++[Value.slice ra bn rc]=P.map (·.1) by rw[hP,List.map_append];rfl,hPl]at oo;rw[hPl]at F;replace hOB:=hPB;replace hnd:=hPn;replace hOl:P.length<=i+1:=by omega
   replace hO1:0<i+1->0<P.length:=λ_=>by omega
   replace G:=G.rO 1 oo;clear oo;refine(F.y (F.fd 1)) λF=>(F.st G 2) @λw14 G=>k7<|Yg<|(F.m) λF=>(F.y F.sb) λF=>?_
   rw[show n-((i:Nat):Int)-1=n-((i+1:Nat):Int) by omega]at F;refine(F.m) λF=>?_;replace G:=G.rL 3 (show Zi w0 w14 b (k+4+10*(i+1)) nv from Zj (G.l 3) oM);show _/\_;exact⟨oM,_,_,F.u,G.u,_,_,_,rfl,rfl,(G.o 1),(G.f 0),hOB,hnd,hOl,hO1,oM⟩
  ·have hOne:0<O.length:=by have:=Classical.not_not.1 hc33;rcases O with _ | ⟨p,O⟩;(· simp at this);(· simp)
   replace hOl:O.length<=i+1:=by omega
   replace hO1:0<i+1->0<O.length:=λ_=>hOne;refine Yi<|k7<|Yg<|(F.m) λF=>(F.y F.sb) λF=>?_
   rw[show n-((i:Nat):Int)-1=n-((i+1:Nat):Int) by omega]at F;refine(F.m) λF=>?_;replace G:=G.rL 4 (show Zi w0 w11 b (k+4+10*(i+1)) nv from Zj (G.l 4) oM);show _/\_;exact⟨oM,_,_,F.u,G.u,_,_,_,rfl,rfl,(G.o 2),(G.f 1),hOB,hnd,hOl,hO1,oM⟩
 ·refine wp_exit<|k3<|wQ λk10=>wQ λk11=>?_
  have oo:=G.o 1;have hdcap:=Zgk oo;have fam:=G.f 0;have hDl:∀W,Ext [b,n4,n5] w9 W->ZL W da O:=λW e=>Z0R (ZG oo e (by simp;omega)) (Z0i fam λv n xs h=>ZG h e (by simp;omega));have HDl:=Lib.hid hDl;clear hDl;have hwL0:w.heap.size<=w9.heap.size:=by exact(G.e 6).size
  replace G:=G.hr [b,n4,n5];refine Yg<|(F.m) λF=>?_
  have fam:=G.f 1;have oo:=G.o 2;replace G:=G.b [0,3,4,6,7];refine(F.k (Z8x w0 _ b _ nv 1 3 (G.l 2) oM oM oM oM oM)) ?_;rintro _ w15 ⟨m,rfl,hm1,hm2,HL,e9⟩;refine(kL G 2 e9 HL) λF G=>(F.m) λF=>?_;rw[show m=m-((0:Nat):Int) by omega]at F;have oo:w15.ownsRow w9.heap.size 22 1 (.slice none 0 0) 0 (([]:List (Value×List Int)).map (·.1)):=World.ownsRow_nil _ _ _ _;have fam:FamT w15 w9.heap.size []:=Z9x _ _;have hOd:O.length<=dm:=by omega
  replace hO1:0<O.length:=hO1 oM;replace G:=(G.co oo).cf fam;refine k11<|Yh ?_
  replace G:=G.rL 4 (show Zi w0 w15 b (k+5+10*dm+10*0) nv from Zj (G.l 4) oM);refine lpB (F.b [0,4,5]) (G.b [2,5,6]) (3) (λj Lv Sv W=>∃la:Option Addr,∃lc:Nat,∃Q:List (Value×List Int),Lv=[(8,.int .i64 (m-((j:Nat):Int)))]/\Sv=[.q n5 (#[.int .i64 ((bn:Nat):Int),.slice da O.length dc,.slice la Q.length lc,.int .i64 tl]) 27,.l w0 b (k+5+10*dm+10*j) nv]/\W.ownsRow w9.heap.size 22 1 (.slice la Q.length lc) Q.length (Q.map (·.1))/\FamT W w9.heap.size Q/\(∀p∈Q,(p.2.length:Int)=bn/\∀m∈p.2,0<=m/\m<=3)/\(∀p∈Q,p.2.sum≠0)/\Q.length=j/\(j:Int)<=m) ⟨_,_,F.u,G.u,none,0,[],rfl,rfl,(G.o 1),(G.f 0),sU,sU,rfl,oM⟩ ?_;clear F G;rintro j _ w16 _ _ hi2 ⟨la,lc,Q,rfl,rfl,oo,fam,hQB,hQs,hQl,hjm⟩ F G;replace G:=((G.z).co oo).cf fam;refine wQ λk12=>wR λk13=>(F.m) λF=>(F.y F.gt) λF=>k13<|F.ci (λhc43=>?_) (λhc43=>?_)
  ·refine Yi<|k12<|wQ λk14=>Yh<|wR λk15=>(F.m) λF=>(F.y (F.fd 0)) λF=>(F.y (F.lc (G.q 2))) λF=>?_
   have fam:=G.f 0;have hflt:=Lib.hid (Zdp fam);obtain⟨B1,hB1⟩:∃B1,B1=w16.heap.size:=⟨_,rfl⟩;rw[<-hB1]at hflt;have hB1w:w9.heap.size<=B1:=by rw[hB1];exact(G.e 4).size
   refine(F.k (Z5K w0 _ b _ nv bn 3 (G.l 3) oM oM oM oM)) ?_;rintro _ w17 ⟨ra,rc,xs,rfl,hxl,hxb,ro,HL,e9⟩;refine(kL G 3 e9 HL) λF G=>?_;rw[<-hB1]at ro;replace G:=G.co ro;refine(F.m) λF=>k15<|wR λk16=>(F.m) λF=>(F.m) λF=>(F.y (F.fd 0)) λF=>(F.y (F.lc (G.q 3))) λF=>(F.y F.sb) λF=>(F.k (Zk w0 _ b _ nv (((bn:Nat):Int)-1) (G.l 4) oM oM oM)) ?_
   rintro _ w18 ⟨v,rfl,hv0,hv1,HL,e9⟩;refine(kL G 4 e9 HL) λF G=>?_;obtain⟨v,rfl⟩:=Int.eq_ofNat_of_zero_le hv0;refine(F.m) λF=>(F.k (Z8x w0 _ b _ nv 1 3 (G.l 4) oM oM oM oM oM)) ?_;rintro _ w19 ⟨z,rfl,hz1,hz2,HL,e9⟩;refine(kL G 4 e9 HL) λF G=>?_;have ro:=G.o 0;have HS:=Lib.hid (ZH ro hxl.symm [] sU);have hil:=Z1i xs;replace G:=G.hr [];obtain⟨xb17,xo17,xa17,xr17⟩:=HS.out v oM;refine(F.y (F.is 1 xa17)) λF=>?_;replace G:=G.d 0;obtain⟨⟨u0,hcu⟩,hfu,hst⟩:=Z1n (G.o 0) xa17 (j:=v) (p:=xo17+((v:Nat):Int).toNat*1) (by first | omega | (simp;omega)) oM;refine Z3S rfl (F.want rfl) (ZW rfl (F.at rfl) (F.at rfl) rfl kR hcu hfu) ?_;intro w20 hw;obtain⟨hown',hg⟩:=hst _ _ hw;have ro:=(G.o 0);have fam:=G.f 1;replace G:=G.d 1;replace fam:=Zdo fam hflt.out ro hg;replace G:=(G.gr 0 hg hown').cf fam;clear hst hcu hfu hw hg hown';have ro:=G.o 1;rw[Z1j]at ro;replace G:=G.rO 1 ro;clear ro;obtain⟨ys,hys⟩:∃ys,ys=xs.set v z:=⟨_,rfl⟩;have hyl:ys.length=bn:=by rw[hys,List.length_set];exact hxl
   have hyb:∀q∈ys,0<=q/\q<=3:=by intro q hq;rw[hys]at hq;rcases List.mem_or_eq_of_mem_set hq with hq | rfl;(· exact hxb q hq);(· omega)
   have hysum:ys.sum≠0:=by have h1:=ZdP (xs:=ys) (λq hq=>(hyb q hq).1) z (by rw[hys];exact List.mem_set oM z);omega
   have ro:=G.o 1;rw[<-hys]at ro;replace G:=G.rO 1 ro;clear ro;refine k16 ?_;have fam:=G.f 0;have ro:=G.o 1;have fam2:=Z7e (Z7d (b1:=B1) (L:=[(Value.slice ra bn rc,ys)]) ⟨λp hp=>(by obtain rfl:p=(Value.slice ra bn rc,ys):=(by simpa using hp);rw[show ((Value.slice ra bn rc,ys):Value×List Int).2.length=bn from hyl];exact ro),List.pairwise_singleton _ _⟩ fam hflt.out hB1w) (M:=Q++[(Value.slice ra bn rc,ys)]) List.perm_append_comm;have fam:=fam2;clear fam2;obtain⟨P,hP⟩:∃P,P=Q++[(Value.slice ra bn rc,ys)]:=⟨_,rfl⟩;have hPl:Q.length+1=P.length:=by rw[hP,Ym];rfl
   rw[<-hP]at fam;have hPB:∀p∈P,(p.2.length:Int)=bn/\∀m∈p.2,0<=m/\m<=3:=by intro p hp;rw[hP]at hp;rcases List.mem_append.1 hp with hp | hp;(· exact hQB p hp);(· simp only[Yc,Ya,or_false]at hp;subst hp;exact⟨by show ((ys.length:Nat):Int)=_;omega,hyb⟩)
   have hPs:∀p∈P,p.2.sum≠0:=by intro p hp;rw[hP]at hp;rcases List.mem_append.1 hp with hp | hp;(· exact hQs p hp);(· simp only[Yc,Ya,or_false]at hp;subst hp;exact hysum)
   replace G:=G.rF 0 fam;clear fam;refine Yg<|(F.y (F.fd 2)) λF=>(F.y (F.lc (G.q 3))) λF=>(F.m) λF=>(F.bs G 1 #[.slice ra bn rc] Qy.zeroValue22) λyy F G=>?_
   have hEs:=(G.e 6).size;replace G:=G.d 2;refine Zx F rfl dC (F.want rfl) (ZE rfl w9.heap.size (e:=22) (size:=1) (bytes:=24) Qy.underlying25 kR dC (F.at rfl) (G.o 2) (F.at rfl) (G.q 0) rfl (by simp[Value.oneCell']) oM oM oM) ?_;clear F;rintro _ v' w22 F ⟨hown',hg⟩;obtain⟨va63,vc63,rfl⟩:=Zm hown';replace G:=(G.d 0).gr 1 hg hown';clear hg hown';have oo:=G.o 1;rw[show Q.map (·.1)++[Value.slice ra bn rc]=P.map (·.1) by rw[hP,List.map_append];rfl,hPl]at oo;rw[hPl]at F;replace hQB:=hPB;replace hQs:=hPs;replace hQl:P.length=j+1:=by omega
   replace G:=G.rO 1 oo;clear oo;refine(F.y (F.fd 2)) λF=>(F.st G 2) @λw23 G=>k14<|Yg<|(F.m) λF=>(F.y F.sb) λF=>?_
   rw[show m-((j:Nat):Int)-1=m-((j+1:Nat):Int) by omega]at F;refine(F.m) λF=>?_;replace G:=G.rL 3 (show Zi w0 w23 b (k+5+10*dm+10*(j+1)) nv from Zj (G.l 3) oM);show _/\_;exact⟨oM,_,_,F.u,G.u,_,_,_,rfl,rfl,(G.o 1),(G.f 0),hQB,hQs,hQl,oM⟩
  ·refine wp_exit<|k10<|wR λk18=>(F.y (F.lb (G.q 2))) λF=>(F.sr G 5) λG=>k18 ?_
   refine(F.rg (rs_c F rfl rfl Qy.underlying27 rfl kR (G.q 5))) ?_;have hbL:b<w9.heap.size:=by omega
   have fam:=G.f 0;have oo:=G.o 1;refine⟨{B:=((bn:Nat):Int),D:=O,da:=da,dc:=dc,L:=Q,la:=la,lc:=lc,tol:=tl},rfl,ZlW (by simp only;omega) (by simp only;omega) (by simp only;omega) (by simp only;omega) hOB hnd (by simp only;omega) (by simp only;omega) hQB hQs (by simp only;omega) (by simp only;omega),⟨hOd,hdcap,htl.2⟩,λW e=>⟨HDl.out W ((G.e 4).trans (e.mono sU)),ZiV oo fam e hbL hbL⟩,Zj (G.l 3) oM,(G.e 6)⟩
variable{μ:Nat}
theorem Z0u{q:Nat}{b2: Nat}{a:Option Addr}{c:Nat}(oo:w.ownsRow b 22 1 (.slice a M.length c) M.length (M.map (·.1)))(fam:FamT w b2 M)(h1:q<b)(h2:q<b2): ∀W,Ext [q] w W->ZL W a M:=λW e =>
 Z0R (ZG oo e (by simpa using h1)) (Z0i fam λ_ _ _ h=>ZG h e (by simpa using h2))
variable{μ:Nat}
def Z4w(L:List (List Int)):Bool:=(L.take 21).any (λl=>decide (20<l.length))||decide (20<L.length)
theorem Zf3(h:Z4w L=false): L.length<=20/\∀l∈L,l.length<=20:=by
 simp only[Z4w,Bool.or_eq_false_iff,decide_eq_false_iff_not]at h;refine⟨oM,λl hl=>?_⟩;have:=List.any_eq_false.1 h.1 l (by rw[List.take_of_length_le oM];exact hl);simpa using this
theorem Zf4(h:i<L.length)(hi:i<21)(hc:20<(L.getD i []).length): Z4w L=true:=by
 rw[Z4w,List.any_eq_true.2 ⟨L.getD i [],?_,decide_eq_true hc⟩,Bool.true_or];rw[Y7,List.getElem?_eq_getElem h];exact List.mem_take_iff_getElem.2 ⟨i,oM,rfl⟩
theorem Zbk(h:∀j,j<i->(L.getD j []).length<=20)(hi:L.length<=i\/21<=i): Z4w L=decide (20<L.length):=by
 rw[Z4w,List.any_eq_false.2,Bool.false_or];intro l hl;obtain⟨j,hj,rfl⟩:=List.mem_take_iff_getElem.1 hl;have:=h j oM;rw[Y7,List.getElem?_eq_getElem oM]at this;simpa using this
theorem Z84(L:List (Value×List Int))(a:Option Addr)(c:Nat)(w:World)(h:ZL w a L):Calls (Qy.prog μ) 43 #[.slice a L.length c] w λe w'=>e = .returned (.bool (Z4w (L.map (·.2))))/\Ext [] w w':=by
 have E:=Ext.refl [] w;have HA:=Lib.hid h;have HS:=Lib.hid h.1;clear h;have G:=(Bk.nil w).ce E;refine(ent 23 Tryz.f43 rfl) λF=>wR λk1=>(F.m) λF=>k1<|wQ λk2=>wR λk3=>(F.m) λF=>k3<|Yh<|lpB (F.b [0]) G L.length (λi Lv Sv W=>Lv=[(3,.int .i64 ((i:Nat):Int))]/\Sv=[]/\∀j,j<i->((L.map (·.2)).getD j []).length<=20) ⟨_,_,F.u,G.u,rfl,rfl,(λj h=>by omega)⟩ ?_
 clear F G;rintro i _ w1 _ _ hi1 ⟨rfl,rfl,hs⟩ F G;replace G:=G.z;refine wQ λk4=>wR λk5=>(F.m) λF=>(F.m) λF=>(F.y F.ln) λF=>(F.y F.ls) λF=>(F.m) λF=>?_;by_cases hg1:(((i:Nat):Int)<((L.length:Nat):Int))
 ·replace F:=F.re (k:=8) rfl (congrArg Value.bool (decide_eq_true hg1));refine(F.m) λF=>(F.y F.ls) λF=>(F.y F.pT) λF=>k5<|F.ci (λhc11=>?_) (λhc11=>?_)
  ·refine Yi<|k4<|wQ λk6=>Yh<|wQ λk7=>?_
   obtain⟨la,lca,hla,hlr⟩:=HA.out.2 _ (Z5 (.bool true,[]) (show i<L.length by omega));have hkg:=Z0k L (show i<L.length by omega);refine Yg<|(F.m) λF=>(F.m) λF=>(F.ix HS.out i) λxr8 F=>(F.y (F.l1 (xr8 _ (G.e 0)) 0)) λF=>?_
   rw[hla]at F;refine(F.y F.ln) λF=>(F.y F.gt) λF=>k7<|F.ci (λhc19=>?_) (λhc19=>?_)
   ·refine wR λk9=>(F.m) λF=>k9<|(F.r1) ?_
    exact⟨ZK (Zf4 (i:=i) (by rw[Yj];omega) oM (by rw[hkg];omega)).symm,(G.e 0)⟩
   ·refine Yi<|k6<|Yg<|(F.m) λF=>(F.y F.ad) λF=>(F.m) λF=>?_
    show _/\_;exact⟨oM,_,_,F.u,G.u,rfl,rfl,(λj h=>by rcases Nat.lt_succ_iff_lt_or_eq.1 h with h | rfl;(· exact hs j h);(· rw[Z0k L oM];omega))⟩
  ·refine wp_exit<|k2<|wR λk10=>(F.m) λF=>(F.y F.ln) λF=>(F.y F.gt) λF=>(F.m) λF=>k10<|(F.r1) ?_
   exact⟨ZK (by rw[Zbk hs (by rw[Yj];omega),Yj];exact decide_eq_decide.2 oM),(G.e 0)⟩
 ·replace F:=F.re (k:=8) rfl (congrArg Value.bool (decide_eq_false hg1));refine(F.n) λF=>(F.n) λF=>(F.y F.pF) λF=>k5<|(F.cF)<|wp_exit<|k2<|wR λk11=>(F.m) λF=>(F.y F.ln) λF=>(F.y F.gt) λF=>(F.m) λF=>k11<|(F.r1) ?_
  exact⟨ZK (by rw[Zbk hs (by rw[Yj];omega),Yj];exact decide_eq_decide.2 oM),(G.e 0)⟩
def ZdT(x:Vm):Bool:=Z4w (x.D.map (·.2))||Z4w (x.L.map (·.2))
theorem Zg1{x:Vm}(h:ZdT x=false):(x.D.length<=20/\∀p∈x.D,p.2.length<=20)/\(x.L.length<=20/\∀p∈x.L,p.2.length<=20):=by
 simp only[ZdT,Bool.or_eq_false_iff]at h;have h1:=Zf3 h.1;have h2:=Zf3 h.2;rw[Yj]at h1 h2;exact⟨⟨h1.1,λp hp=>h1.2 _ (List.mem_map.2 ⟨p,hp,rfl⟩)⟩,⟨h2.1,λp hp=>h2.2 _ (List.mem_map.2 ⟨p,hp,rfl⟩)⟩⟩
theorem Zg2(x:Vm)(w:World)(h:x.At w):Calls (Qy.prog μ) 29 #[.agg x.vc] w λe w'=>e = .returned (.bool (ZdT x))/\Ext [] w w':=by
 have E:=Ext.refl [] w;have HX:=Lib.hid h;have hl:ZdT x=(Z4w (x.D.map (·.2))||Z4w (x.L.map (·.2))):=rfl;clear h;have G:=(Bk.nil w).ce E;refine(ent 11 Tryz.f29 rfl) λF=>wR λk1=>(F.bx G) λyy F G=>(F.m) λF=>k1<|wQ λk2=>?_
 by_cases c1:Z4w (x.D.map (·.2))=true
 ·refine Yg<|(F.y (F.fd 1)) λF=>(F.y (F.lc (G.q 0))) λF=>(F.k (Z84 x.D _ _ _ (HX.out.d.ext (G.e 1)))) ?_
  rintro _ w2 ⟨rfl,e9⟩;refine kG G e9 λF G=>?_;rw[c1]at F;refine(F.m) λF=>(F.n) λF=>(F.n) λF=>(F.n) λF=>(F.y F.pT) λF=>(F.m) λF=>?_;rw[c1,Bool.true_or]at hl;refine k2<|(F.r1) ?_
  exact⟨ZK hl.symm,(G.e 1)⟩
 ·refine Yg<|(F.y (F.fd 1)) λF=>(F.y (F.lc (G.q 0))) λF=>(F.k (Z84 x.D _ _ _ (HX.out.d.ext (G.e 1)))) ?_
  rintro _ w3 ⟨rfl,e9⟩;refine kG G e9 λF G=>?_;rw[Bool.eq_false_iff.2 c1]at F;refine(F.m) λF=>(F.y (F.fd 2)) λF=>(F.y (F.lc (G.q 0))) λF=>(F.k0 G (Z84 x.L _ _ _ (HX.out.l.ext (G.e 1)))) λF G=>(F.y F.pF) λF=>(F.m) λF=>?_;rw[Bool.eq_false_iff.2 c1,Bool.false_or]at hl;refine k2<|(F.r1) ?_
  exact⟨ZK hl.symm,(G.e 1)⟩
def Zcm(x:Vm)(w:World)(e:Ending)(w':World):Prop:=∃y:Vm,e = .returned (.agg y.vc)/\y.B=x.B/\y.tol=x.tol/\y.D.map (·.2)=x.D.map (·.2)/\y.L.map (·.2)=x.L.map (·.2) /\
 w'.ownsRow w.heap.size 22 1 (.slice y.da y.D.length y.dc) y.D.length (y.D.map (·.1))/\FamT w' w.heap.size y.D/\w'.ownsRow w.heap.size 22 1 (.slice y.la y.L.length y.lc) y.L.length (y.L.map (·.1))/\FamT w' w.heap.size y.L/\((Value.slice y.la y.L.length y.lc).ownBlock=none\/(Value.slice y.la y.L.length y.lc).ownBlock≠(Value.slice y.da y.D.length y.dc).ownBlock)/\Ext [] w w'
theorem Z35(x:Vm)(w:World)(hx:x.At w)(sd:Zd x.D)(sl:Zd x.L):
  Calls (Qy.prog μ) 32 #[.agg x.vc] w (Zcm x w):=by
 have E:=Ext.refl [] w;have HX:=Lib.hid hx;have SD:=Lib.hid sd;have SL:=Lib.hid sl;clear hx sd sl;have G:=(Bk.nil w).ce E;refine(ent 12 Tryz.f32 rfl) λF=>wR λk1=>(F.bx G) λyy F G=>(F.al G Qy.zeroValue27) λyy F G=>k1<|wQ λk2=>?_
 have G2:=G;refine(wD [] (some 7) G) λG=>(F.z 0 (G.t 0) (F.fd 1)) λF=>(F.zr 1 (G.t 0) λhS=>F.lc (G2.k 1 hS)) λF=>(F.z 3 (G.t 0) (F.fd 2)) λF=>(F.zr 4 (G.t 0) λhS=>F.lc (G2.k 1 hS)) λF=>?_;have hle:=(G.e 3).size;refine(aO 2)<|(F.ok (Z3r x.D SD.out.1 SD.out.2 _ _ _ (HX.out.d.ext (G.e 3)))) ?_
 rintro _ w4 ⟨M,ma,mc,rfl,hM,oo1,fam1,eM⟩;refine⟨_,rfl,λF=>?_⟩;replace G:=G.ex eM;refine .intro (G.t 0) ?_;replace oo1:=Za (base':=w.heap.size) oo1 hle;replace fam1:=Z1z fam1 hle;replace G:=(G.co oo1).cf fam1;refine(F.z 6 (G.t 2) (F.fd 1)) λF=>?_;have hle2:=(G.e 5).size;have oo1:=G.o 1;have hol:=Lib.hid (λb e=>(oo1.lt b e).2);obtain⟨B0,hB0⟩:∃B0,B0=w4.heap.size:=⟨_,rfl⟩;rw[<-hB0]at hol;refine(aO 5)<|(F.ok (Z3r x.L SL.out.1 SL.out.2 _ _ _ (HX.out.l.ext (G.e 5)))) ?_
 rintro _ w5 ⟨K,ka,kc,rfl,hK,oo2,fam2,eK⟩;refine⟨_,rfl,λF=>?_⟩;replace G:=G.ex eK;refine .intro (G.t 2) ?_;rw[<-hB0]at oo2;have hap:RowKit.Hid ((Value.slice ka K.length kc).ownBlock=none\/(Value.slice ka K.length kc).ownBlock≠(Value.slice ma M.length mc).ownBlock):=Lib.hid (by cases hb:(Value.slice ka K.length kc).ownBlock with | none=>exact .inl rfl | some b=>exact .inr (λe=>by have h1:=(oo2.lt b hb).1;have h2:=hol.out b e.symm;omega));rw[hB0]at oo2;replace oo2:=Za (base':=w.heap.size) oo2 hle2;replace fam2:=Z1z fam2 hle2;replace G:=((G.co oo2).cf fam2).d 4;refine(aO 7)<|(F.os G 5) λG=>.intro (gone kR)<|(F.z 8 (gone kR) (F.fd 2)) λF=>(aO 9)<|(F.os G 5) λG=>.intro (gone kR)<|(aD)<|k2<|wR λk3=>(F.y (F.lb (G.q 5))) λF=>(F.sr G 4) λG=>k3 ?_
 refine(F.rg (rs_c F rfl rfl Qy.underlying27 rfl kR (G.q 4))) ?_;have fam2:=G.f 0;have oo2:=G.o 1;have fam1:=G.f 2;have oo1:=G.o 3;exact⟨⟨x.B,M,ma,mc,K,ka,kc,x.tol⟩,rfl,rfl,rfl,hM,hK,oo1,fam1,oo2,fam2,hap.out,(G.e 6)⟩
variable{μ:Nat}
def vmC(x:Vm):List Value:=[.int .i64 x.B,.slice x.da x.D.length x.dc,.slice x.la x.L.length x.lc,.int .i64 x.tol]
def vm0:Vm:=⟨0,[],none,0,[],none,0,0⟩
def vsI(X:List Vm)(i:Nat):Vm:=X.getD i vm0
structure VsAt(w:World)(a:Option Addr)(X:List Vm):Prop where
 rows:Z6 w (.slice a X.length X.length) 4 (X.map vmC)
 at_:∀x∈X,x.At w
theorem Zn9{a:Option Addr}{X:List Vm}(h:VsAt w a X)(hi:i<X.length): (vsI X i).At w:=h.at_ _ (Z5 vm0 hi)
theorem Z8P{α:Type}{sz: Nat}{xs:List α}{row:α->List Value}(h:w.heap[b]?=some (.cells ((xs.map row).flatten).toArray T fz))(hr:∀x,(row x).length=sz): Z6 w (.slice (some ⟨b,0,none⟩) xs.length xs.length) sz (xs.map row):=by
 refine⟨some ⟨b,0,none⟩,xs.length,sU,λx hx=>?_,λ_=>⟨b,0,rfl,Z8 h,λi j x hi hj=>?_⟩⟩
 ·obtain⟨y,-,rfl⟩:=List.mem_map.1 hx;exact hr y
 ·rw[Z3 h,Nat.zero_add,List.getElem?_toArray];exact Z4J hr xs i j x hi hj
theorem ZlX{bs: Nat}{X:List Vm}(h:w.heap[bs]?=some (.cells ((X.map vmC).flatten).toArray T fz))(hne:bs≠b)(hx:∀x∈X,∀W,Ext [b] w W->x.At W): ∀W,Ext [b] w W->VsAt W (some ⟨bs,0,none⟩) X:=
 λW e=>⟨Z8P (e.keep h (by simp[hne])) (λ_=>rfl),λu hu=>hx u hu W e⟩
theorem ZeB{w0: World}{a:Option Addr}{sz n:Nat}{row:Nat->List Value}(h:SlAt [] w0 a sz n row)(e:Ext [b] w0 w)(hb:w0.heap.size<=b): SlAt [b] w a sz n row:=λi hi=>by
 obtain⟨c,off,h1,-⟩:=h i hi;refine⟨c,off,h1,λW hW=>?_⟩;obtain⟨c2,off2,h3,h4⟩:=Z5p h (e.trans hW) (by simpa using hb) i hi;have:=(h1 0 0).symm.trans (h3 0 0);simp only[Value.slice.injEq,Y4,Addr.mk.injEq]at this;obtain⟨⟨rfl,rfl,-⟩,-⟩:=this;exact h4 W (Ext.refl _ _)
theorem Z8U{base n c: Nat}{a:Option Addr}{O:List (Value×List Int)}(h:w.ownsRow base 22 1 (.slice a n c) n (O.map (·.1)))(hn:n=O.length)(hb:b<base): SlAt [b] w a 1 O.length (λi=>[(O.getD i (.bool true,[])).1]):=by
 rw[Z8N]at h;exact Z0D h hn (λ_=>rfl) [b] (by simpa using hb) (.bool true,[])
def Zfj(x:Vm)(w0 w:World)(b k:Nat)(nv:Value)(e:Ending)(w':World):Prop:=
 ∃(a:Option Addr) (y z:Vm),e = .returned (.slice a 4 4)/\VOk y/\Zd z.D/\Zd z.L/\(∀W,Ext [b] w' W->VsAt W a [x,y,z,y])/\Zi w0 w' b (k+200) nv/\Ext [b] w w'
theorem ZaQ{q:Nat}{b2: Nat}{a:Option Addr}{c:Nat}{p:Value×List Int}(oo:w.ownsRow b 22 1 (.slice a M.length c) M.length ((M.map (·.1)).set i p.1))(fam:FamT w b2 M)(h1:q<b)(h2:q<b2)(hp:∀W,Ext [q] w W->Z0w W p.1 p.2): ∀W,Ext [q] w W->ZL W a (M.set i p):=λW e=>by
 have oo2:=ZG oo e (by simpa using h1);have fam2:=Z0i fam λ_ _ _ h=>ZG h e (by simpa using h2);refine⟨Z3P (base:=b) (c:=c) (n:=M.length) (by rw[List.map_set];exact oo2) (by rw[List.length_set]),λr hr=>?_⟩;rcases List.mem_or_eq_of_mem_set hr with hr | rfl
 ·exact Zdq fam2 hr
 ·exact hp W e
theorem Z8V{p:Value×List Int}(h:Zd M)(hp:p.2.length<=1000): Zd (M.set i p):=by
 refine⟨by rw[List.length_set];exact h.1,λr hr=>?_⟩;rcases List.mem_or_eq_of_mem_set hr with hr | rfl
 ·exact h.2 r hr
 ·exact hp
theorem Z1J{L: List (Value×List Int)}(h:Zd L)(e:M.map (·.2)=L.map (·.2)): Zd M:=by
 have hl:M.length=L.length:=by rw[<-Yj (f:=λp:Value×List Int=>p.2),e,Yj]
 refine⟨by rw[hl];exact h.1,λr hr=>?_⟩;have:r.2∈L.map (·.2):=by rw[<-e];exact List.mem_map.2 ⟨r,hr,rfl⟩
 obtain⟨s,hs,he⟩:=List.mem_map.1 this;rw[<-he];exact h.2 s hs
theorem Zgx(x:Vm)(sd:Zd x.D)(sl:Zd x.L)(w0 w:World)(b k:Nat)(nv:Value)(HL:Zi w0 w b k nv)(hk:k<=1000)(h0:x.At w0):
  Calls (Qy.prog μ) 30 #[.agg x.vc,.pointer (some ⟨b,0,none⟩)] w (Zfj x w0 w b k nv):=by
 have hb:=HL.1;have hws:w0.heap.size<=w.heap.size:=HL.2.2.1.size;have E:Ext [b] w w:=Ext.refl _ _;have hbw:b<w.heap.size:=Z0l HL;have H0:=Lib.hid (show ∀W,Ext [b] w W->x.At W from λW hW=>h0.extX (HL.2.2.1.trans hW) (by simp;omega));have SD:=Lib.hid sd;have SL:=Lib.hid sl;have HXD:=Lib.hid (ZeB h0.d.1 HL.2.2.1 hb);have HXL:=Lib.hid (ZeB h0.l.1 HL.2.2.1 hb);clear h0 sd sl;have G:=((Bk.nil w).cl HL).ce E;refine(ent 63 Tryz.f30 rfl) λF=>wR λk1=>(F.bx G) @λn2 w1 _ yy F G=>(F.m) λF=>k1<|wR λk2=>(F.m) λF=>(F.k (Zf1 4 dC dC w0 _ b _ _ (G.l 2) oM)) ?_
 rintro _ w2 ⟨y,rfl,hv,hd3,hyb,HL,e9⟩;refine(kL G 2 e9 HL) λF G=>?_;have HV:=Lib.hid hv;have HYB:=Lib.hid hyb;clear hv hyb;replace G:=G.hr [b];refine(F.al G Qy.zeroValue27) @λn5 w3 _ yy F G=>(F.sr G 0) @λw4 G=>k2<|wR λk3=>(F.y (F.lb (G.q 0))) λF=>?_
 have hbB:=Z0l (G.l 4);have hB0w:=(G.e 3).size;have hB0V:=(G.e 1).size;obtain⟨B0,hB0⟩:∃B0,B0=w4.heap.size:=⟨_,rfl⟩;have EB0:Ext [b] w4 w4:=(by exact Ext.refl _ _);have hBZ:B0=w4.heap.size:=hB0;have hbB0:b<B0:=(by rw[hB0];exact hbB);replace G:=G.ce EB0;refine(F.k (Z35 y _ (HYB.out _ (G.e 2)) HV.out.sd HV.out.sl)) ?_;rintro _ w5 ⟨o,rfl,hoB,hot,hoD,hoL,oo1,fam1,oo2,fam2,hap,e9⟩;refine kG G e9 λF G=>?_;rw[<-hB0]at oo1 fam1 oo2 fam2 hB0w hB0V;have hap2:=Lib.hid hap;have hap3:RowKit.Hid ((Value.slice o.da o.D.length o.dc).ownBlock=none\/(Value.slice o.da o.D.length o.dc).ownBlock≠(Value.slice o.la o.L.length o.lc).ownBlock):=Lib.hid (by rcases hap with h | h;(· by_cases e:(Value.slice o.da o.D.length o.dc).ownBlock=none;(· exact .inl e);(· exact .inr (by rw[h];exact e)));(· exact .inr (Ne.symm h)));clear hap;have hoDl:o.D.length=y.D.length:=by rw[<-Yj (f:=λp:Value×List Int=>p.2),hoD,Yj]
 have hoLl:o.L.length=y.L.length:=by rw[<-Yj (f:=λp:Value×List Int=>p.2),hoL,Yj]
 have SOD:=Lib.hid (Z1J HV.out.sd hoD);have SOL:=Lib.hid (Z1J HV.out.sl hoL);have hd1:=HV.out.d1;have hd4:=HV.out.d4;have hl1:=HV.out.l1;have hl3:=HV.out.l3;replace G:=(((G.co oo1).cf fam1).co oo2).cf fam2;refine(F.al G Qy.zeroValue27) @λn6 w6 _ yy F G=>(F.sr G 0) λG=>k3<|wQ @λK4 k4=>?_
 suffices hcut:∀(z:Vm) {fa:Act} {Wj:World},Has 63 [] fa [(2,.pointer (some ⟨n2,0,none⟩)),(5,.pointer (some ⟨n5,0,none⟩)),(6,.pointer (some ⟨n6,0,none⟩))]->Bk Wj [.q n6 z.vc 27,.q n5 y.vc 27,.q n2 x.vc 27,.e [b] w,.e [b] w2,.e [b] w4,.l w0 b (k+200) nv]->(∀W,Ext [b] Wj W->z.At W)->Zd z.D->Zd z.L->K4 fa Wj by
  refine wR λk5=>(F.m) λF=>(F.k (Zk w0 _ b _ nv 2 (G.l 10) oM oM oM)) ?_;rintro _ w8 ⟨u,rfl,hu0,hu1,HL,e3⟩;refine(kL G 10 e3 HL) λF G=>k5<|Yh<|wR λk7=>(F.y F.eq) λF=>(F.m) λF=>k7<|F.ci (λhc13=>?_) (λhc13=>?_)
  ·refine Yg<|(F.y (F.fd 3)) λF=>(F.y (F.lc (G.q 8))) λF=>(F.y (F.fd 3)) λF=>(F.st G 0) λG=>?_
   have HL:=G.l 10;replace HL:=Zj HL (show _<=k+200 by omega);replace G:=G.rL 10 HL;clear HL;refine hcut {o with tol:=x.tol} F.u G.u (λW hW=>⟨Z0u (G.o 4) (G.f 3) hbB0 hbB0 W hW,Z0u (G.o 2) (G.f 1) hbB0 hbB0 W hW⟩) SOD.out SOL.out
  ·refine wR λk8=>(F.y F.eq) λF=>(F.m) λF=>k8<|F.ci (λhc18=>?_) (λhc18=>?_)
   ·refine wR λk9=>(F.y (F.fd 1)) λF=>(F.y (F.lc (G.q 8))) λF=>(F.y F.ln) λF=>(F.y F.gt) λF=>k9<|F.ci (λhc23=>?_) (λhc23=>?_)
    ·have oo1:=G.o 4;have HS:=Lib.hid (Z8U oo1 rfl hbB0);replace G:=G.hr [b];have G2:=G;refine(wD [b] (some 14) G) λG=>(F.z 0 (G.t 0) (F.fd 1)) λF=>(F.zr 1 (G.t 0) λhS=>F.lc (G2.k 1 hS)) λF=>(F.z 2 (G.t 0) F.mo) λF=>(F.z 3 (G.t 0) (F.fd 1)) λF=>(F.zr 4 (G.t 0) λhS=>F.lc (G2.k 1 hS)) λF=>(F.z 5 (G.t 0) F.ln) λF=>(F.z 6 (G.t 0) F.sb) λF=>(F.z 8 (G.t 0) (F.fd 1)) λF=>(F.zr 9 (G.t 0) λhS=>F.lc (G2.k 9 hS)) λF=>?_;obtain⟨xb10,xo10,xa10,xr10⟩:=HXD.out 0 oM;refine(F.z 10 (G.t 0) (F.is 1 xa10)) λF=>(F.zr 11 (G.t 0) λhS=>F.l1 (xr10 _ ((G2.e 10).trans hS)) 0) λF=>?_;obtain⟨ra,rca,hra,-⟩:=(H0.out _ (G.e 11)).d.2 _ (Z5 (.bool true,[]) (show 0<x.D.length by omega));rw[hra]at F;refine(aO 7)<|(F.ok (Zk w0 _ b _ nv (((o.D.length:Nat):Int)-1) (G.l 12) oM oM oM)) ?_
     rintro _ w11 ⟨g,rfl,hg0,hg1,HL,e3⟩;refine(kL G 12 e3 HL) λF G=>.intro (G.t 0) ?_;obtain⟨g,rfl⟩:=Int.eq_ofNat_of_zero_le hg0;have hgl:g<o.D.length:=by omega
     have hcp:=Zz (μ:=μ) (w:=w11) ((H0.out _ (G.e 11)).d.2 _ (Z5 (.bool true,[]) (show 0<x.D.length by omega))) (SD.out.2 _ (Z5 (.bool true,[]) (show 0<x.D.length by omega)));rw[hra]at hcp;have hbZ:=Z0l (G.l 12);have hEB0:=(G.e 7).size;rw[<-hBZ]at hEB0;refine(aO 12)<|(F.ok hcp) ?_
     rintro _ w12 ⟨pa,pc,rfl,po,e9⟩;refine kG G e9 λF G=>.intro (G.t 0) ?_;clear hcp;replace po:=Za (base':=B0) po hEB0;replace G:=G.co po;obtain⟨xb11,xo11,xa11,xr11⟩:=HS.out g oM;refine(F.z 13 (G.t 1) (F.is 1 xa11)) λF=>?_;have EX:=G.e 2;replace G:=(G.d 2).d 1;obtain⟨⟨u0,hcu⟩,hfu,hst⟩:=Z1n (G.o 5) xa11 (j:=g) (p:=xo11+((g:Nat):Int).toNat*1) (by first | omega | (simp;omega)) oM;refine Z33 (i:=14) kR (Z9V rfl rfl (F.want rfl) (ZW rfl (F.at rfl) (F.at rfl) rfl kR hcu hfu) ?_);intro w13 hw;obtain⟨hown',hg⟩:=hst _ _ hw;have oo1:=(G.o 5);have oo2:=G.o 3;replace G:=G.d 3;replace oo2:=oo2.kept hg hap2.out;replace G:=(G.gr 4 hg hown').co oo2;clear hst hcu hfu hw hg hown';refine .intro (gone kR) ?_;obtain⟨D2,hD2e⟩:∃D2,D2=o.D.set g (.slice pa (x.D.getD 0 (.bool true,[])).2.length pc,(x.D.getD 0 (.bool true,[])).2):=⟨_,rfl⟩;have po:=G.o 1;have fam1:=G.f 4;have oo1:=G.o 5;have hD2:∀W,Ext [b] w13 W->ZL W o.da D2:=by rw[hD2e];exact ZaQ oo1 fam1 hbB0 hbB0 (λW hW=>⟨pa,pc,rfl,Zh (ZG po hW (by simpa using hbB0)) rfl⟩)
     have hS2:Zd D2:=by rw[hD2e];exact Z8V SOD.out (show (x.D.getD 0 (.bool true,[])).2.length<=1000 from SD.out.2 _ (Z5 (.bool true,[]) (show 0<x.D.length by omega)))
     have hDl:o.D.length=D2.length:=by rw[hD2e,List.length_set]
     have q6:=G.q 2;replace q6:w13.heap[n6]?=some (.cells #[.int .i64 o.B,.slice o.da D2.length o.dc,.slice o.la o.L.length o.lc,.int .i64 o.tol] 27 (0,0)):=hDl▸q6;replace G:=G.rQ 2 q6;clear q6;refine(aD) ?_;have HL:=G.l 11;replace HL:=Zj HL (show _<=k+200 by omega);replace G:=G.rL 11 HL;clear HL;refine hcut {o with D:=D2} F.u G.u (λW hW=>⟨hD2 W hW,Z0u (G.o 0) (G.f 3) hbB0 hbB0 W hW⟩) hS2 SOL.out
    ·have HL:=G.l 10;replace HL:=Zj HL (show _<=k+200 by omega);replace G:=G.rL 10 HL;clear HL;refine Yi<|hcut o F.u G.u (λW hW=>⟨Z0u (G.o 4) (G.f 3) hbB0 hbB0 W hW,Z0u (G.o 2) (G.f 1) hbB0 hbB0 W hW⟩) SOD.out SOL.out
   ·refine wR λk12=>(F.y F.eq) λF=>(F.m) λF=>k12<|F.ci (λhc38=>?_) (λhc38=>?_)
    ·refine wR λk13=>(F.y (F.fd 2)) λF=>(F.y (F.lc (G.q 8))) λF=>(F.y F.ln) λF=>(F.y F.gt) λF=>k13<|F.ci (λhc43=>?_) (λhc43=>?_)
     ·have oo2:=G.o 2;have HS:=Lib.hid (Z8U oo2 rfl hbB0);replace G:=G.hr [b];have G4:=G;refine(wD [b] (some 14) G) λG=>(F.z 0 (G.t 0) (F.fd 2)) λF=>(F.zr 1 (G.t 0) λhS=>F.lc (G4.k 1 hS)) λF=>(F.z 2 (G.t 0) F.mo) λF=>(F.z 3 (G.t 0) (F.fd 2)) λF=>(F.zr 4 (G.t 0) λhS=>F.lc (G4.k 1 hS)) λF=>(F.z 5 (G.t 0) F.ln) λF=>(F.z 6 (G.t 0) F.sb) λF=>(F.z 8 (G.t 0) (F.fd 2)) λF=>(F.zr 9 (G.t 0) λhS=>F.lc (G4.k 9 hS)) λF=>?_;obtain⟨xb14,xo14,xa14,xr14⟩:=HXL.out 0 oM;refine(F.z 10 (G.t 0) (F.is 1 xa14)) λF=>(F.zr 11 (G.t 0) λhS=>F.l1 (xr14 _ ((G4.e 10).trans hS)) 0) λF=>?_;obtain⟨ra,rca,hra,-⟩:=(H0.out _ (G.e 11)).l.2 _ (Z5 (.bool true,[]) (show 0<x.L.length by omega));rw[hra]at F;refine(aO 7)<|(F.ok (Zk w0 _ b _ nv (((o.L.length:Nat):Int)-1) (G.l 12) oM oM oM)) ?_
      rintro _ w15 ⟨g,rfl,hg0,hg1,HL,e3⟩;refine(kL G 12 e3 HL) λF G=>.intro (G.t 0) ?_;obtain⟨g,rfl⟩:=Int.eq_ofNat_of_zero_le hg0;have hgl:g<o.L.length:=by omega
      have hcp:=Zz (μ:=μ) (w:=w15) ((H0.out _ (G.e 11)).l.2 _ (Z5 (.bool true,[]) (show 0<x.L.length by omega))) (SL.out.2 _ (Z5 (.bool true,[]) (show 0<x.L.length by omega)));rw[hra]at hcp;have hbZ:=Z0l (G.l 12);have hEB0:=(G.e 7).size;rw[<-hBZ]at hEB0;refine(aO 12)<|(F.ok hcp) ?_
      rintro _ w16 ⟨pa,pc,rfl,po,e9⟩;refine kG G e9 λF G=>.intro (G.t 0) ?_;clear hcp;replace po:=Za (base':=B0) po hEB0;replace G:=G.co po;obtain⟨xb15,xo15,xa15,xr15⟩:=HS.out g oM;refine(F.z 13 (G.t 1) (F.is 1 xa15)) λF=>?_;replace G:=(G.d 2).d 1;obtain⟨⟨u0,hcu⟩,hfu,hst⟩:=Z1n (G.o 3) xa15 (j:=g) (p:=xo15+((g:Nat):Int).toNat*1) (by first | omega | (simp;omega)) oM;refine Z33 (i:=14) kR (Z9V rfl rfl (F.want rfl) (ZW rfl (F.at rfl) (F.at rfl) rfl kR hcu hfu) ?_);intro w17 hw;obtain⟨hown',hg⟩:=hst _ _ hw;have oo2:=(G.o 3);have oo1:=G.o 5;replace G:=G.d 5;replace oo1:=oo1.kept hg hap3.out;replace G:=(G.gr 3 hg hown').co oo1;clear hst hcu hfu hw hg hown';refine .intro (gone kR) ?_;obtain⟨D2,hD2e⟩:∃D2,D2=o.L.set g (.slice pa (x.L.getD 0 (.bool true,[])).2.length pc,(x.L.getD 0 (.bool true,[])).2):=⟨_,rfl⟩;have po:=G.o 1;have fam2:=G.f 3;have oo2:=G.o 4;have hD2:∀W,Ext [b] w17 W->ZL W o.la D2:=by rw[hD2e];exact ZaQ oo2 fam2 hbB0 hbB0 (λW hW=>⟨pa,pc,rfl,Zh (ZG po hW (by simpa using hbB0)) rfl⟩)
      have hS2:Zd D2:=by rw[hD2e];exact Z8V SOL.out (show (x.L.getD 0 (.bool true,[])).2.length<=1000 from SL.out.2 _ (Z5 (.bool true,[]) (show 0<x.L.length by omega)))
      have hDl:o.L.length=D2.length:=by rw[hD2e,List.length_set]
      have q6:=G.q 2;replace q6:w17.heap[n6]?=some (.cells #[.int .i64 o.B,.slice o.da o.D.length o.dc,.slice o.la D2.length o.lc,.int .i64 o.tol] 27 (0,0)):=hDl▸q6;replace G:=G.rQ 2 q6;clear q6;refine(aD) ?_;have HL:=G.l 11;replace HL:=Zj HL (show _<=k+200 by omega);replace G:=G.rL 11 HL;clear HL;refine hcut {o with L:=D2} F.u G.u (λW hW=>⟨Z0u (G.o 0) (G.f 5) hbB0 hbB0 W hW,hD2 W hW⟩) SOD.out hS2
     ·have HL:=G.l 10;replace HL:=Zj HL (show _<=k+200 by omega);replace G:=G.rL 10 HL;clear HL;refine Yi<|hcut o F.u G.u (λW hW=>⟨Z0u (G.o 4) (G.f 3) hbB0 hbB0 W hW,Z0u (G.o 2) (G.f 1) hbB0 hbB0 W hW⟩) SOD.out SOL.out
    ·have HL:=G.l 10;replace HL:=Zj HL (show _<=k+200 by omega);replace G:=G.rL 10 HL;clear HL;refine Yi<|hcut o F.u G.u (λW hW=>⟨Z0u (G.o 4) (G.f 3) hbB0 hbB0 W hW,Z0u (G.o 2) (G.f 1) hbB0 hbB0 W hW⟩) SOD.out SOL.out
 clear F G;intro z fa w18 F G hz hzd hzl;replace G:=G.hr [b];refine k4<|wR λk16=>(F.y (F.lb (G.q 3))) λF=>(F.y (F.lb (G.q 2))) λF=>(F.y (F.lb (G.q 1))) λF=>(F.y (F.lb (G.q 2))) λF=>(F.bs G 4 #[.int .i64 x.B,.slice x.da x.D.length x.dc,.slice x.la x.L.length x.lc,.int .i64 x.tol,.int .i64 y.B,.slice y.da y.D.length y.dc,.slice y.la y.L.length y.lc,.int .i64 y.tol,.int .i64 z.B,.slice z.da z.D.length z.dc,.slice z.la z.L.length z.lc,.int .i64 z.tol,.int .i64 y.B,.slice y.da y.D.length y.dc,.slice y.la y.L.length y.lc,.int .i64 y.tol] Qy.zeroValue27) @λn62 w19 _ yy F G=>(F.m) λF=>k16<|(F.r1) ?_
 exact⟨some ⟨n62,0,none⟩,y,z,rfl,HV.out,hzd,hzl,ZlX (G.q 0) oM (λr hr W hW=>by simp only[Yc,Ya,or_false]at hr;rcases hr with rfl | rfl | rfl | rfl;(· exact H0.out _ ((G.e 5).trans hW));(· exact HYB.out _ ((G.e 6).trans hW));(· exact hz _ ((G.e 1).trans hW));(· exact HYB.out _ ((G.e 6).trans hW))),Zj (G.l 8) oM,(G.e 5)⟩
end
namespace Lift
open Go Go.Conc Go.RowKit Ev
open Go.ConcM OsLater
def Cel(w:World):Value->Prop
 | .slice (some a) _ _=>a.spot=none/\∃cs e fz,w.heap[a.block]?=some (.cells cs e fz)
 | _=>True
theorem cel_own{w:World}{base:Nat}{e:TypeId}{sz:Nat}{v:Value}{n:Nat}{xs:List Value}(h:w.ownsRow base e sz v n xs): Cel w v:=by
 obtain⟨-,⟨rfl,-⟩ | ⟨g,cap,cur,rfl,-,hq,-⟩⟩:=h
 ·trivial
 ·exact⟨rfl,_,_,_,hq⟩
theorem Cel.heap{w: World}(hh:∀b,b<w.heap.size->w'.heap[b]?=w.heap[b]?){v:Value}(h:Cel w v): Cel w' v:=by
 cases v with
 | slice a n c =>
  cases a with
  | none=>trivial
  | some a =>
   obtain⟨h1,cs,e,fz,h2⟩:=h;exact⟨h1,cs,e,fz,(hh _ (Y0.1 h2).1).trans h2⟩
 | _=>trivial
theorem Cel.ext{w: World}(E:Ext [] w w'){v:Value}(h:Cel w v): Cel w' v:=h.heap λb hb=>E.block b hb sU
structure Cl(x:Vm)(w:World):Prop where
 da:Cel w (.slice x.da x.D.length x.dc)
 la:Cel w (.slice x.la x.L.length x.lc)
 dp:∀p∈x.D,Cel w p.1
 lp:∀p∈x.L,Cel w p.1
theorem Cl.ext{x:Vm}{w w':World}(E:Ext [] w w')(h:Cl x w):Cl x w':=⟨h.da.ext E,h.la.ext E,λp hp=>(h.dp p hp).ext E,λp hp=>(h.lp p hp).ext E⟩
section
variable[Jk]{C:Inv}{r:Ren}{u v w:World}{D:Nat->Prop}
theorem Z3q(hh:∀b,b<v.heap.size->u.heap[b]?=v.heap[b]?)(hw:WH C r v w)(hx:Cel u x)(hy:VR r x y): Cel v x:=by
 cases hy with
 | @sl a a' n c q =>
  cases q with
  | @mk b c o s q =>
   obtain⟨h1,cs,e,fz,h2⟩:=hx;obtain⟨o1,_,g1,_⟩:=hw.on _ _ q;exact⟨h1,cs,e,fz,(hh _ (Y0.1 g1).1).symm.trans h2⟩
 | slz j=>exact absurd hx.1 dC
 | _=>trivial
theorem ZcT(hw:WH C r v w){a:Option Addr}{n c:Nat}(hx:Cel v (.slice a n c))(hy:VR r (.slice a n c) y): PV (Rg r w) y:=by
 cases hy with
 | sl0=>trivial
 | slz j=>exact absurd hx.1 dC
 | @sl a a' _ _ q =>
  cases q with
  | @mk b c' o s q =>
   obtain⟨rfl,cs,e,fz,h2⟩:=hx;obtain⟨o1,o2,g1,g2,g3⟩:=hw.on _ _ q;rw[h2]at g1;obtain rfl:=Y1 g1;cases g3 with
   | cells _ _=>exact⟨⟨⟨b,q⟩,_,_,_,g2⟩,rfl⟩
theorem Zb9(hw:WH C r v w){a:Option Addr}{c:Nat}(hc:Cel v (.slice a l.length c))(hr:Z6 v (.slice a l.length c) 1 (l.map Z4))(hy:VR r (.slice a l.length c) y): ∃a',y = .slice a' l.length c/\Z6 w (.slice a' l.length c) 1 (l.map Z4)/\PV (Rg r w) (.slice a' l.length c):=by
 have h1:=ZcT hw hc hy;obtain⟨a',rfl,h2⟩:=Zb8 hw hr hy;exact⟨a',rfl,h2,h1⟩
theorem ZdS(h:WH C r v w){a:Option Addr}{n c:Nat}{L:List (Value×List Int)}(hn:n=L.length)(h0:Cel v (.slice a n c))(hp:∀p∈L,Cel v p.1)(hx:ZL v a L)(hy:VR r (.slice a n c) y):
  ∃a' L',y = .slice a' n c/\PV (Rg r w) (.slice a' n c)/\ZL w a' L'/\L'.map (·.2)=L.map (·.2)/\∀p∈L',PV (Rg r w) p.1:=by
 have hpv:=ZcT h h0 hy;obtain⟨a',rfl⟩:∃a',y = .slice a' n c:=by cases hy<;>exact⟨_,rfl⟩
 obtain⟨h1,h2⟩:=hx;rw[ZF]at h1;have ex:∀i:_root_.Fin L.length,∃z,VR r (L.getD i (.bool true,[])).1 z/\∃b' off,a'=some ⟨b',off,none⟩/\w.cell? ⟨b',off+i,none⟩=some z:=by
  intro i;obtain⟨b,off,e,hc⟩:=h1 i i.2;subst e;cases hy with
  | sl _ _ q =>
   cases q with
   | mk q =>
    obtain⟨z,hz,hv⟩:=Z4A h q hc;exact⟨z,hv,_,_,rfl,hz⟩
 obtain⟨f,hf⟩:=Classical.axiomOfChoice ex;refine⟨a',(List.finRange L.length).map λi=>(f i,(L.getD i (.bool true,[])).2),rfl,hpv,⟨?_,?_⟩,?_,?_⟩
 ·rw[ZF];intro i hi;simp only[Yj,List.length_finRange]at hi;obtain⟨_,b,off,e,hc⟩:=hf ⟨i,hi⟩;refine⟨b,off,e,?_⟩;rw[hc];simp[hi]
 ·intro p hp;obtain⟨i,-,rfl⟩:=List.mem_map.1 hp;have:=Zes h (h2 _ (Z5 (.bool true,[]) i.2)) (hf i).1;exact this
 ·rw[List.map_map];apply List.ext_getElem
  ·simp
  ·intro i q1 q2;simp at q1;simp[q1]
 ·intro p hp';obtain⟨i,-,rfl⟩:=List.mem_map.1 hp';have hm:=Z5 (.bool true,[]) i.2 (l:=L);obtain⟨a3,c3,e3,hr3⟩:=h2 _ hm;have hv:=(hf i).1;have hq:=hp _ hm;rw[e3]at hv hq;exact ZcT h hq hv
theorem ZjW{x:Vm}(hc:Cl x v)(hx:x.At v)(hw:WH C r v w)(ho:Off D r w)(hy:VR r x.val y): ∃x':Vm,y=x'.val/\AlkV' x' x/\VatC D (Rg r w) x' w:=by
 have hy:VR r (.agg x.vc) y:=hy;cases hy with
 | @agg _ ys hs1 hs2 =>
  obtain⟨y1,y2,y3,y4,rfl,h1,h2,h3,h4⟩:=arr4 (R:=VR r) ⟨hs1,hs2⟩;cases h1;cases h4;obtain⟨da,D',rfl,pd,ad,md,qd⟩:=ZdS hw rfl hc.da hc.dp hx.d h2;obtain⟨la,L',rfl,pl,al,ml,ql⟩:=ZdS hw rfl hc.la hc.lp hx.l h3;have dl:D'.length=x.D.length:=by have:=congrArg List.length md;simpa using this
  have ll:L'.length=x.L.length:=by have:=congrArg List.length ml;simpa using this
  refine⟨{B:=x.B,D:=D',da:=da,dc:=x.dc,L:=L',la:=la,lc:=x.lc,tol:=x.tol},by simp only[Vm.val,Vm.vc,dl,ll],⟨rfl,rfl,md,ml⟩,⟨λb hb=>hb.2,λb hb hd=>?_,ho.low,?_,?_,qd,ql,⟨ad,al⟩⟩⟩
  ·obtain⟨⟨a,ha⟩,_⟩:=hb;exact ho.names a b ha hd
  ·rw[dl];exact pd
  ·rw[ll];exact pl
end
section
variable[Jk]{C:Inv}{r:Ren}{u v w:World}
theorem Z8D(hh:∀b,b<v.heap.size->u.heap[b]?=v.heap[b]?)(hw:WH C r v w){a:Option Addr}{n c:Nat}{L:List (Value×List Int)}(hx:ZL u a L)(hp:∀p∈L,Cel u p.1)(hy:VR r (.slice a n c) y): ∀p∈L,Cel v p.1:=by
 intro p hm;obtain⟨h1,h2⟩:=Z7o hh hw hx hy;rw[ZF]at h1;obtain⟨i,hi,rfl⟩:=List.getElem_of_mem hm;obtain⟨b,off,rfl,hc⟩:=h1 i hi;cases hy with
 | sl _ _ q =>
  cases q with
  | mk q =>
   obtain⟨z,_,hz⟩:=Z4A hw q hc;have e1:L.getD i (.bool true,[])=L[i]:=by simp[hi]
   rw[e1]at hz;exact Z3q hh hw (hp _ hm) hz
end
end Lift
section
open Go.RowKit
variable{μ:Nat}
theorem Zba(h:sizE n m=0): n≠0/\n<=m:=by
 unfold sizE at h;split at h<;>(try split at h)<;>omega
theorem Zav{B:Int}:∀(ds met:List (List Int)),dyeE B met ds=0->∀d∈ds,numE d B 9=0
 | [],_,_,_,hd=>by simp at hd
 | e::ds,met,h,d,hd=>by
  rw[dyeE]at h;split at h
  ·rename_i h1;exact absurd h h1
  ·rename_i h1;split at h
   ·cases h
   ·rcases Yc.1 hd with rfl | hd
    ·exact Classical.not_not.1 h1
    ·exact Zav ds _ h d hd
theorem Z8B{B:Int}:∀(ls:List (List Int)),Z0K B ls=0->∀d∈ls,numE d B 3=0
 | [],_,_,hd=>by simp at hd
 | e::ls,h,d,hd=>by
  rw[Z0K]at h;split at h
  ·rename_i h1;exact absurd h h1
  ·rename_i h1;split at h
   ·cases h
   ·rcases Yc.1 hd with rfl | hd
    ·exact Classical.not_not.1 h1
    ·exact Z8B ls h d hd
theorem Z44{x:Vm}(h:chkE x.B (x.D.map (·.2)) (x.L.map (·.2)) x.tol=0):VOk x:=by
 have h0:=h;unfold chkE at h;split at h
 ·cases h
 rename_i e1;split at h
 ·rename_i e;exact absurd h e
 rename_i e2;split at h
 ·rename_i e;exact absurd h e
 rename_i e3;split at h
 ·rename_i e;exact absurd h e
 rename_i e4;split at h
 ·rename_i e;exact absurd h e
 rename_i e5;split at h
 ·cases h
 rename_i e6;have b:=Z0d.1 (show outB x.B 1 3=false by simpa using e1);have t:=Z0d.1 (show outB x.tol 0 12=false by simpa using e6);have d:=Zba (Classical.not_not.1 e2);have l:=Zba (Classical.not_not.1 e4);rw[Yj]at d l;refine⟨h0,b.1,b.2,oM,oM,λp hp=>?_,oM,oM,λp hp=>?_,t.1,t.2⟩
 ·exact Z1B (Zav _ _ (Classical.not_not.1 e3) _ (List.mem_map.2 ⟨p,hp,rfl⟩))
 ·exact Z1B (Z8B _ (Classical.not_not.1 e5) _ (List.mem_map.2 ⟨p,hp,rfl⟩))
def Vm.err(x:Vm):Int:=chkE x.B (x.D.map (·.2)) (x.L.map (·.2)) x.tol
variable{μ:Nat}
def Z5d(x:Vm)(n:Int):Int:=if outB n 0 (((x.L.length:Nat):Int)-1)=true then 3 else 0
variable{μ:Nat}
theorem Zhf(h0:∀n∈l,0<=n): l=List.replicate l.length 0↔l.sum=0:=by
 induction l with
 | nil=>simp
 | cons a l ih =>
  have h1:=h0 a sU;have h2:0<=l.sum:=by
   have key:∀m:List Int,(∀n∈m,0<=n)->0<=m.sum:=by
    intro m
    induction m with
    | nil=>intro _;simp
    | cons b m ihm=>intro hm;have:=hm b sU;have:=ihm (λn hn=>hm n (by simp[hn]));rw[List.sum_cons];omega
   exact key l (λn hn=>h0 n (by simp[hn]))
  rw[List.length_cons,List.replicate_succ,List.cons.injEq,ih (λn hn=>h0 n (by simp[hn])),List.sum_cons];omega
theorem Z2B(x:Vm)(w:World)(h:x.At w)(sd:Zd x.D)(sl:Zd x.L):
  Calls (Qy.prog μ) 38 #[.agg x.vc] w λe w'=>e = .returned (.int .i64 (chkE x.B (x.D.map (·.2)) (x.L.map (·.2)) x.tol))/\Ext [] w w':=by
 have E:=Ext.refl [] w;have HA:=Lib.hid h;have HD:=Lib.hid h.d.1;have HL:=Lib.hid h.l.1;have SD:=Lib.hid sd;have SL:=Lib.hid sl;clear h;obtain⟨sd1,sd2⟩:=sd;obtain⟨sl1,sl2⟩:=sl;clear sd2 sl2;obtain⟨ds,hds⟩:∃ds,ds=x.D.map (·.2):=⟨_,rfl⟩;obtain⟨ls,hls⟩:∃ls,ls=x.L.map (·.2):=⟨_,rfl⟩;have hdl:ds.length=x.D.length:=by rw[hds,Yj]
 have hll:ls.length=x.L.length:=by rw[hls,Yj]
 have KD:Hid (∀i,i<x.D.length->ds.getD i []=(x.D.getD i (.bool true,[])).2):=λi hi=>by rw[hds];exact Z0k _ hi
 have KL:Hid (∀i,i<x.L.length->ls.getD i []=(x.L.getD i (.bool true,[])).2):=λi hi=>by rw[hls];exact Z0k _ hi
 rw[<-hds,<-hls];clear hds hls;have G:=(Bk.nil w).ce E;refine(ent 91 Tryz.f38 rfl) λF=>wR λk1=>(F.bx G) λyy F G=>(F.m) λF=>k1<|wQ λk2=>wR λk3=>(F.y (F.fd 0)) λF=>(F.y (F.lc (G.q 0))) λF=>(F.k0 G (Z0X x.B 1 3 _)) λF G=>(F.y F.nb) λF=>k3<|F.cb (λhc13=>?_) (λhc13=>?_)
 ·have hb1:outB x.B 1 3=true:=by simpa using hc13
  refine wR λk4=>(F.m) λF=>k4<|(F.r1) ?_
  exact⟨Z9 (chk1 hb1).symm,(G.e 1)⟩
 ·have hb1:outB x.B 1 3=false:=by simpa using hc13
  obtain⟨hB1,hB3⟩:=Z0d.1 hb1;refine Yi<|k2<|wQ λk5=>wR λk6=>(F.y (F.fd 1)) λF=>(F.y (F.lc (G.q 0))) λF=>(F.y F.ln) λF=>(F.k0 G (Z46 (x.D.length:Nat) 4 _)) λF G=>(F.m) λF=>k6<|wR λk7=>(F.m) λF=>(F.y F.ne) λF=>k7<|F.ci (λhc19=>?_) (λhc19=>?_)
  ·refine wR λk8=>(F.m) λF=>(F.m) λF=>k8<|(F.r1) ?_
   exact⟨Z9 (by rw[chk2 hb1 (by rw[hdl];exact hc19),hdl]),(G.e 1)⟩
  ·refine Yi<|k5<|wQ λk9=>wR λk10=>(F.m) λF=>k10<|Yh<|lpB (F.b [1]) G x.D.length (λi Lv Sv W=>Lv=[(4,.int .i64 ((i:Nat):Int))]/\Sv=[]/\dyeE x.B (ds.take i) (ds.drop i)=dyeE x.B [] ds/\(∀j,j<i->((x.D.getD j (.bool true,[])).2.length:Int)=x.B)) ⟨_,_,F.u,G.u,rfl,rfl,rfl,(λj hj=>absurd hj oM)⟩ ?_
   clear F G;rintro i _ w4 _ _ hi1 ⟨rfl,rfl,hd,hlen⟩ F G;replace G:=G.z;refine wQ λk11=>wR λk12=>(F.m) λF=>(F.y (F.fd 1)) λF=>(F.y (F.lc (G.q 0))) λF=>(F.y F.ln) λF=>(F.y F.ls) λF=>k12<|F.ci (λhc25=>?_) (λhc25=>?_)
   ·refine Yi<|k11<|wQ λk13=>Yh<|wQ λk14=>wQ λk15=>?_
    obtain⟨la,lca,hla,hlr⟩:=HA.out.d.2 _ (Z5 (.bool true,[]) (show i<x.D.length by omega));have hsz:=SD.out.2 _ (Z5 (.bool true,[]) (show i<x.D.length by omega));have hkd:=KD.out i oM;have G2:=G;refine(wD [] none G) λG=>(F.zr 0 (G.t 0) λhS=>F.lb (G2.k 0 hS)) λF=>(F.z 1 (G.t 0) (F.fd 1)) λF=>(F.zr 2 (G.t 0) λhS=>F.lc (G2.k 0 hS)) λF=>(F.z 3 (G.t 0) F.mo) λF=>?_;obtain⟨xb16,xo16,xa16,xr16⟩:=HD.out i oM;refine(F.z 4 (G.t 0) (F.is 1 xa16)) λF=>(F.zr 5 (G.t 0) λhS=>F.l1 (xr16 _ ((G2.e 1).nil hS)) 0) λF=>?_;rw[hla]at F;refine(aO 6)<|(F.ok0 G (Z56 x.B x.tol (.slice x.da x.D.length x.dc) (.slice x.la x.L.length x.lc) (x.D.getD i (.bool true,[])).2 9 la lca _ (hlr.ext (G.e 2) sU) hsz)) λF G=>.intro (G.t 0)<|(F.z 7 (G.t 0) F.mo) λF=>(aD)<|k15<|wR λk17=>(F.m) λF=>(F.y F.ne) λF=>k17<|F.ci (λhc36=>?_) (λhc36=>?_)
    ·refine wR λk18=>(F.m) λF=>(F.m) λF=>k18<|(F.r1) ?_
     have e:=Zda (B:=x.B) (ds:=ds) (i:=i) oM (by rw[hkd];exact hc36);rw[hd,hkd]at e;exact⟨Z9 (by rw[chk3 hb1 (by rw[hdl];omega) (by rw[e];exact hc36),e]),(G.e 2)⟩
    ·have hz0:numE (x.D.getD i (.bool true,[])).2 x.B 9=0:=by omega
     obtain⟨hz1,hz2⟩:=Z1B hz0;refine Yi<|k14<|wR λk19=>(F.m) λF=>k19<|Yh<|lpB (F.b [1,4]) (G.b [1,2]) i (λj Lv Sv W=>Lv=[(6,.int .i64 ((j:Nat):Int))]/\Sv=[]/\(∀k,k<j->ds.getD k []≠ds.getD i [])) ⟨_,_,F.u,G.u,rfl,rfl,(λk hk=>absurd hk oM)⟩ ?_
     clear F G;rintro j _ w7 _ _ hi2 ⟨rfl,rfl,hn⟩ F G;replace G:=G.z;refine wQ λk20=>wR λk21=>(F.m) λF=>(F.m) λF=>(F.y F.ls) λF=>k21<|F.ci (λhc40=>?_) (λhc40=>?_)
     ·refine Yi<|k20<|wQ λk22=>Yh<|wQ λk23=>?_
      have hkj:=KD.out j oM;have hlj:=hlen j oM;obtain⟨ja,jca,hja,hjr⟩:=HA.out.d.2 _ (Z5 (.bool true,[]) (show j<x.D.length by omega));have G4:=G;refine(wD [] none G) λG=>(F.z 0 (G.t 0) (F.fd 1)) λF=>(F.zr 1 (G.t 0) λhS=>F.lc (G4.k 0 hS)) λF=>(F.z 2 (G.t 0) F.mo) λF=>?_;obtain⟨xb24,xo24,xa24,xr24⟩:=HD.out j oM;refine(F.z 3 (G.t 0) (F.is 1 xa24)) λF=>(F.zr 4 (G.t 0) λhS=>F.l1 (xr24 _ ((G4.e 1).nil hS)) 0) λF=>?_;rw[hja]at F;refine(F.z 5 (G.t 0) (F.fd 1)) λF=>(F.zr 6 (G.t 0) λhS=>F.lc (G4.k 0 hS)) λF=>(F.z 7 (G.t 0) F.mo) λF=>?_;obtain⟨xb25,xo25,xa25,xr25⟩:=HD.out i oM;refine(F.z 8 (G.t 0) (F.is 1 xa25)) λF=>(F.zr 9 (G.t 0) λhS=>F.l1 (xr25 _ ((G4.e 1).nil hS)) 0) λF=>?_;rw[hla]at F;refine(aO 10)<|(F.ok0 G (Z8j (x.D.getD j (.bool true,[])).2 (x.D.getD i (.bool true,[])).2 ja la jca lca _ (hjr.ext (G.e 2) sU) (hlr.ext (G.e 2) sU) oM oM)) λF G=>.intro (G.t 0)<|(aD)<|k23<|F.ci (λhc53=>?_) (λhc53=>?_)
      ·have heq:ds.getD j []=ds.getD i []:=by rw[hkd,hkj];exact hc53
       refine wR λk26=>(F.m) λF=>k26<|(F.r1) ?_
       have e:=Z8n (B:=x.B) (ds:=ds) (i:=i) (j:=j) oM (by rw[hkd];exact hz0) oM heq;rw[hd]at e;exact⟨Z9 (by rw[chk3 hb1 (by rw[hdl];omega) (by rw[e];decide),e]),(G.e 2)⟩
      ·have hne:ds.getD j []≠ds.getD i []:=λe=>by rw[hkd,hkj]at e;exact hc53 e
       refine Yi<|k22<|Yg<|(F.m) λF=>(F.y F.ad) λF=>(F.m) λF=>?_
       show _/\_;exact⟨oM,_,_,F.u,G.u,rfl,rfl,(λk hk=>if e:k=j then e▸hne else hn k oM)⟩
     ·refine wp_exit ?_;have hji:j=i:=by omega
      refine k13<|Yg<|(F.m) λF=>(F.y F.ad) λF=>(F.m) λF=>?_
      show _/\_;exact⟨oM,_,_,F.u,G.u,rfl,rfl,((Zhw (B:=x.B) (ds:=ds) (i:=i) oM (by rw[hkd];exact hz0) (λk hk=>hn k oM)).symm.trans hd),(λj hj=>if e:j=i then e▸hz1 else hlen j oM)⟩
   ·refine wp_exit ?_;have hd0:dyeE x.B [] ds=0:=by rw[<-hd,List.drop_eq_nil_of_le oM];rfl
    refine k9<|wQ λk27=>wR λk28=>(F.y (F.fd 2)) λF=>(F.y (F.lc (G.q 0))) λF=>(F.y F.ln) λF=>(F.k0 G (Z46 (x.L.length:Nat) 3 _)) λF G=>(F.m) λF=>k28<|wR λk29=>(F.m) λF=>(F.y F.ne) λF=>k29<|F.ci (λhc59=>?_) (λhc59=>?_)
    ·refine wR λk30=>(F.m) λF=>(F.m) λF=>k30<|(F.r1) ?_
     exact⟨Z9 (by rw[chk4 hb1 (by rw[hdl];omega) hd0 (by rw[hll];exact hc59),hll]),(G.e 1)⟩
    ·refine Yi<|k27<|wQ λk31=>wR λk32=>(F.m) λF=>k32<|Yh<|lpB (F.b [1]) G x.L.length (λk Lv Sv W=>Lv=[(8,.int .i64 ((k:Nat):Int))]/\Sv=[]/\Z0K x.B (ls.drop k)=Z0K x.B ls) ⟨_,_,F.u,G.u,rfl,rfl,rfl⟩ ?_
     clear F G;rintro k _ w11 _ _ hi3 ⟨rfl,rfl,hlm⟩ F G;replace G:=G.z;refine wQ λk33=>wR λk34=>(F.m) λF=>(F.y (F.fd 2)) λF=>(F.y (F.lc (G.q 0))) λF=>(F.y F.ln) λF=>(F.y F.ls) λF=>k34<|F.ci (λhc65=>?_) (λhc65=>?_)
     ·refine Yi<|k33<|wQ λk35=>Yh<|wQ λk36=>wQ λk37=>?_
      obtain⟨la,lca,hla,hlr⟩:=HA.out.l.2 _ (Z5 (.bool true,[]) (show k<x.L.length by omega));have hsz:=SL.out.2 _ (Z5 (.bool true,[]) (show k<x.L.length by omega));have hkl:=KL.out k oM;have G6:=G;refine(wD [] none G) λG=>(F.zr 0 (G.t 0) λhS=>F.lb (G6.k 0 hS)) λF=>(F.z 1 (G.t 0) (F.fd 2)) λF=>(F.zr 2 (G.t 0) λhS=>F.lc (G6.k 0 hS)) λF=>(F.z 3 (G.t 0) F.mo) λF=>?_;obtain⟨xb38,xo38,xa38,xr38⟩:=HL.out k oM;refine(F.z 4 (G.t 0) (F.is 1 xa38)) λF=>(F.zr 5 (G.t 0) λhS=>F.l1 (xr38 _ ((G6.e 1).nil hS)) 0) λF=>?_;rw[hla]at F;refine(aO 6)<|(F.ok0 G (Z56 x.B x.tol (.slice x.da x.D.length x.dc) (.slice x.la x.L.length x.lc) (x.L.getD k (.bool true,[])).2 3 la lca _ (hlr.ext (G.e 2) sU) hsz)) λF G=>.intro (G.t 0)<|(F.z 7 (G.t 0) F.mo) λF=>(aD)<|k37<|wR λk39=>(F.m) λF=>(F.y F.ne) λF=>k39<|F.ci (λhc76=>?_) (λhc76=>?_)
      ·refine wR λk40=>(F.m) λF=>(F.m) λF=>k40<|(F.r1) ?_
       have e:=ZaO (B:=x.B) (ls:=ls) (i:=k) oM (by rw[hkl];exact hc76);rw[hlm,hkl]at e;exact⟨Z9 (by rw[chk5 hb1 (by rw[hdl];omega) hd0 (by rw[hll];omega) (by rw[e];exact hc76),e]),(G.e 2)⟩
      ·have hz0:numE (x.L.getD k (.bool true,[])).2 x.B 3=0:=by omega
       obtain⟨hz1,hz2⟩:=Z1B hz0;have hzs:=Zhf (λn hn=>(hz2 n hn).1);obtain⟨bn,hbn⟩:∃bn:Nat,x.B=bn:=⟨x.B.toNat,oM⟩;have hbl:(x.L.getD k (.bool true,[])).2.length=bn:=by omega
       rw[hbl]at hzs;refine Yi<|k36<|wQ λk41=>?_
       have G8:=G;refine(wD [] none G) @λw14 G=>(F.z 0 (G.t 0) (F.fd 2)) λF=>(F.zr 1 (G.t 0) λhS=>F.lc (G8.k 1 hS)) λF=>(F.z 2 (G.t 0) F.mo) λF=>?_;obtain⟨xb42,xo42,xa42,xr42⟩:=HL.out k oM;refine(F.z 3 (G.t 0) (F.is 1 xa42)) λF=>(F.zr 4 (G.t 0) λhS=>F.l1 (xr42 _ ((G8.e 2).nil hS)) 0) λF=>?_;rw[hla]at F;refine(F.z 5 (G.t 0) (F.fd 0)) λF=>(F.zr 6 (G.t 0) λhS=>F.lc (G8.k 1 hS)) λF=>?_;rw[hbn]at F;have hEs:=(G.e 3).size;replace G:=G.d 1;refine Z33 (i:=7) kR (Zef F rfl rfl dC (F.want rfl) (Z2L rfl w.heap.size (e:=3) (bytes:=8) (z:=.int .i64 0) Qy.underlying22 kR rfl (F.at rfl) (F.at rfl) (n:=bn) oM dC oM) ?_);clear F;rintro _ v' w15 F ⟨oo,hg,rfl⟩;obtain⟨n85,hn⟩:=eQ w14.heap.size;rw[<-hn]at F oo;have s85:=G.lt hn;replace G:=G.gn hg;clear hg hn;replace G:=G.co oo;refine .intro (G.t 1) ?_;have oo:=G.o 0;rw[show List.replicate bn (Value.int .i64 0)=ivs (List.replicate bn 0) by simp[ivs]]at oo;replace G:=G.rO 0 oo;clear oo;have oo:=G.o 0;have hzr:Z6 w15 (.slice (some ⟨n85,0,none⟩) (List.replicate bn (0:Int)).length bn) 1 ((List.replicate bn (0:Int)).map Z4):=Zw (row:=Z4) (by rw[<-Z0t,List.length_replicate];exact oo) (λ_=>rfl);have hsm:=Z8j (μ:=μ) (x.L.getD k (.bool true,[])).2 (List.replicate bn 0) la (some ⟨n85,0,none⟩) lca bn w15 (hlr.ext (G.e 3) sU) hzr (by rw[List.length_replicate];omega) oM;rw[List.length_replicate]at hsm;refine(aO 8)<|(F.ok0 G hsm) λF G=>.intro (G.t 1)<|(aD)<|k41<|F.ci (λhc86=>?_) (λhc86=>?_)
       ·refine wR λk43=>(F.m) λF=>k43<|(F.r1) ?_
        have e:=Z8A (B:=x.B) (ls:=ls) (i:=k) oM (by rw[hkl];exact hz0) (by rw[hkl];exact hzs.1 hc86);rw[hlm]at e;exact⟨Z9 (by rw[chk5 hb1 (by rw[hdl];omega) hd0 (by rw[hll];omega) (by rw[e];decide),e]),(G.e 3)⟩
       ·refine Yi<|k35<|Yg<|(F.m) λF=>(F.y F.ad) λF=>(F.m) λF=>?_
        show _/\_;exact⟨oM,_,_,F.u,G.u,rfl,rfl,((ZdN (B:=x.B) (ls:=ls) (i:=k) oM (by rw[hkl];exact hz0) (by rw[hkl];exact λe=>hc86 (hzs.2 e))).symm.trans hlm)⟩
     ·refine wp_exit ?_;have hl0:Z0K x.B ls=0:=by rw[<-hlm,List.drop_eq_nil_of_le oM];rfl
      refine k31<|wQ λk44=>wR λk45=>(F.y (F.fd 3)) λF=>(F.y (F.lc (G.q 0))) λF=>(F.k0 G (Z0X x.tol 0 12 _)) λF G=>(F.y F.nb) λF=>k45<|F.cb (λhc90=>?_) (λhc90=>?_)
      ·refine wR λk46=>(F.m) λF=>k46<|(F.r1) ?_
       exact⟨Z9 (by rw[chk6 hb1 (by rw[hdl];omega) hd0 (by rw[hll];omega) hl0,if_pos (by simpa using hc90)]),(G.e 1)⟩
      ·refine Yi<|k44<|wR λk47=>(F.m) λF=>k47<|(F.r1) ?_
       exact⟨Z9 (by rw[chk6 hb1 (by rw[hdl];omega) hd0 (by rw[hll];omega) hl0,if_neg (by simpa using hc90)]),(G.e 1)⟩
variable{μ:Nat}
theorem ZcY{h: Int}(e:cntE l m h=0): (l.length:Int)=m/\∀n∈l,0<=n/\n<=h:=by
 have hl:(l.length:Int)=m:=by
  apply Classical.byContradiction;intro hne;rcases Int.lt_or_gt_of_ne hne with h1 | h1
  ·rw[Z6X h1]at e;omega
  ·rw[Z4B h1]at e;omega
 rw[Z9s hl]at e;exact Z1B e
theorem Z37(x:Vm)(hd:x.D.length<=1000)(l:List Int)(hl:l.length<=1000)(a:Option Addr)(c:Nat)(w:World)(hr:Z6 w (.slice a l.length c) 1 (l.map Z4)):
  Calls (Qy.prog μ) 84 #[.agg x.vc,.slice a l.length c] w λe w'=>e = .returned (.int .i64 (rcpE x l))/\Ext [] w w':=by
 have E:=Ext.refl [] w;have HR:=Lib.hid hr;clear hr;have G:=(Bk.nil w).ce E;refine(ent 17 Tryz.f84 rfl) λF=>wR λk1=>(F.bx G) λyy F G=>(F.m) λF=>k1<|wQ λk2=>wR λk3=>(F.m) λF=>(F.y (F.fd 1)) λF=>(F.y (F.lc (G.q 0))) λF=>(F.y F.ln) λF=>(F.k0 G (Z2a l ((x.D.length:Nat):Int) 6 a c _ (HR.out.ext (G.e 1) sU) hl)) λF G=>(F.m) λF=>k3<|wR λk4=>(F.m) λF=>(F.y F.ne) λF=>k4<|F.ci (λhc12=>?_) (λhc12=>?_)
 ·refine wR λk5=>(F.m) λF=>(F.m) λF=>k5<|(F.r1) ?_
  exact⟨Z9 (if_pos hc12).symm,(G.e 1)⟩
 ·have hz:cntE l ((x.D.length:Nat):Int) 6=0:=by omega
  obtain⟨hz1,hz2⟩:=ZcY hz;refine Yi<|k2<|wR λk6=>(F.m) λF=>(F.k0 G (Z2C l a c _ (HR.out.ext (G.e 1) sU) hl (λn hn=>by have:=hz2 n hn;omega))) λF G=>(F.k0 G (Z46 l.sum 6 _)) λF G=>(F.m) λF=>k6<|(F.r1) ?_
  exact⟨Z9 (if_neg oM).symm,(G.e 1)⟩
variable{μ:Nat}
theorem Zhe(x:Vm)(hv:VOk x)(bn:Nat)(hbn:x.B=bn)(l:List Int)(hl:RcpOk x l)(a:Option Addr)(c:Nat)(w:World)(h:x.At w)(hr:Z6 w (.slice a l.length c) 1 (l.map Z4)):
  Calls (Qy.prog μ) 33 #[.agg x.vc,.slice a l.length c] w λe w'=>∃u,e = .returned (.tuple #[.slice u bn bn,.int .i64 (prt (val l)),.int .i64 0])/\w'.ownsRow w.heap.size 3 1 (.slice u bn bn) bn (ivs (sumL x (val l) bn))/\Ext [] w w':=by
 have E:=Ext.refl [] w;have HX:=Lib.hid h;have HV:=Lib.hid hv;have HR:=Lib.hid hr;have HL:=Lib.hid hl;clear h hv hr hl;have G:=(Bk.nil w).ce E;refine(entM 19 Tryz.f33 rfl) λF=>wR λk1=>(F.bx G) λyy F G=>(F.m) λF=>(F.m) λF=>(F.al G Qy.zeroValue30) λyy F G=>k1<|wR λk2=>(F.df) λF=>k2<|wR λk3=>(F.y (F.lb (G.q 1))) λF=>(F.k0 G (Z09 (μ:=μ) x HV.out _ (HX.out.ext (G.e 2)))) λF G=>(F.al G Qy.zeroValue85) λyy F G=>(F.sr G 0) λG=>k3<|wQ λk4=>Yg ?_
 refine(F.y (F.lb (G.q 0))) λF=>(F.m) λF=>(F.k0 G (Z0B (μ:=μ) x HV.out l HL.out a c _ (HR.out.ext (G.e 3) sU))) λF G=>(F.al G Qy.zeroValue88) λyy F G=>(F.sr G 0) λG=>k4<|wQ λk5=>?_
 have G2:=G;refine(wDN [] (some 7) G) @λw9 G=>(F.zr 0 (G.t 0) λhS=>F.lb (G2.k 1 hS)) λF=>(F.zr 1 (G.t 0) λhS=>F.lb (G2.k 0 hS)) λF=>(F.zr 3 (G.t 0) λhS=>F.lb (G2.k 0 hS)) λF=>?_;obtain⟨B1,hB1⟩:∃B1,B1=w9.heap.size:=⟨_,rfl⟩;have hB1w:w.heap.size<=B1:=by rw[hB1];exact(G.e 5).size
 refine(aO 2)<|(F.ok (Z4g (μ:=μ) x HV.out bn hbn (val l) HL.out.tub _ (HX.out.ext (G.e 5)))) ?_
 rintro _ w10 ⟨u,rfl,uo,e9⟩;refine kG G e9 λF G=>.intro (G.t 0) ?_;rw[<-hB1]at uo;replace G:=G.co uo;refine(aO 4)<|(F.ok0 G (ZY (μ:=μ) (val l) HL.out.tub.ok _)) λF G=>.intro (G.t 1)<|(F.z 5 (G.t 1) F.mo) λF=>(F.z 6 (G.t 1) F.mo) λF=>?_
 replace G:=G.d 1;refine(aO 7)<|(F.os G 3) λG=>.intro (gone kR)<|(aDN)<|k5<|wp_ret ?_
 (try simp only[Exit.inBlock,Exit.then,reduceIte])
 refine Z4c F<|ZQ<|Z00 (Z6j F rfl rfl rfl rfl Qy.underlying30 rfl (G.q 3)) ?_
 have uo:=G.o 0;exact⟨u,rfl,Za uo hB1w,(G.e 5)⟩
variable{μ:Nat}
def sumE(x:Vm)(l:List Int):Int:=if x.err≠0 then x.err else rcpE x l
def offR(x:Vm)(n:Int)(t s:List Int):Int:=if x.err≠0 then x.err else if Z5d x n≠0 then Z5d x n else if rcpE x t≠0 then rcpE x t else cntE s x.B 9
theorem Z7S{x:Vm}(h:sumE x l=0): VOk x/\RcpOk x l:=by
 unfold sumE at h;by_cases h1:x.err=0
 ·rw[if_neg (by simpa using h1)]at h;exact⟨Z44 h1,Z3L.1 h⟩
 ·rw[if_pos h1]at h;exact absurd h h1
theorem ZfU{x:Vm}(h:Z5d x n=0): 0<=n/\n<x.L.length:=by
 unfold Z5d at h;by_cases h1:outB n 0 (((x.L.length:Nat):Int)-1)=true
 ·rw[if_pos h1]at h;omega
 ·have:=Z0d.1 (Bool.eq_false_iff.2 h1);omega
theorem Ze7{x:Vm}{t: List Int}(h:offR x n t s=0): VOk x/\(0<=n/\n<x.L.length)/\RcpOk x t/\Z1s x s:=by
 unfold offR at h;by_cases h1:x.err=0
 ·rw[if_neg (by simpa using h1)]at h;by_cases h2:Z5d x n=0
  ·rw[if_neg (by simpa using h2)]at h;by_cases h3:rcpE x t=0
   ·rw[if_neg (by simpa using h3)]at h;exact⟨Z44 h1,ZfU h2,Z3L.1 h3,ZcY h⟩
   ·rw[if_pos h3]at h;exact absurd h h3
  ·rw[if_pos h2]at h;exact absurd h h2
 ·rw[if_pos h1]at h;exact absurd h h1
theorem Zf8(x:Vm)(sd:Zd x.D)(sl:Zd x.L)(l:List Int)(hl:l.length<=1000)(he:sumE x l≠0)(a:Option Addr)(c:Nat)(w:World)(h:x.At w)(hr:Z6 w (.slice a l.length c) 1 (l.map Z4)):
  Calls (Qy.prog μ) 33 #[.agg x.vc,.slice a l.length c] w λe w'=>e = .returned (.tuple #[.slice none 0 0,.int .i64 0,.int .i64 (sumE x l)])/\Ext [] w w':=by
 have E:=Ext.refl [] w;have HX:=Lib.hid h;have HR:=Lib.hid hr;clear hr h;obtain⟨er,her⟩:∃er,er=sumE x l:=⟨_,rfl⟩;rw[<-her]at he⊢;unfold sumE at her;have G:=(Bk.nil w).ce E;refine(entM 19 Tryz.f33 rfl) λF=>wR λk1=>(F.bx G) λyy F G=>(F.m) λF=>(F.m) λF=>(F.al G Qy.zeroValue30) λyy F G=>k1<|wR λk2=>(F.df) λF=>k2<|wQ λk3=>?_
 by_cases h1:x.err≠0
 ·refine Yg<|(F.y (F.lb (G.q 1))) λF=>(F.kx G (Z53 x sd sl h1 _ (HX.out.ext (G.e 2)))) λG=>?_
  (try simp only[Exit.inBlock,Exit.then,Exit.jump,reduceIte])
  refine Z7F F<|(Z7s G 0) λG=>Z00 (Z6j F rfl rfl rfl rfl Qy.underlying30 rfl (G.q 0)) ?_
  rw[if_pos h1]at her;subst her;exact⟨rfl,(G.e 2)⟩
 ·rw[if_neg h1]at her;have hv:=Z44 (Classical.not_not.1 h1);refine Yg<|(F.y (F.lb (G.q 1))) λF=>(F.k0 G (Z09 (μ:=μ) x hv _ (HX.out.ext (G.e 2)))) λF G=>(F.al G Qy.zeroValue85) λyy F G=>(F.sr G 0) λG=>k3<|wQ λk4=>?_
  have hst:rcpE x l≠0:=by rw[<-her];exact he
  refine Yg<|(F.y (F.lb (G.q 0))) λF=>(F.m) λF=>(F.kx G (Z4b x hv l hl hst a c _ (HR.out.ext (G.e 3) sU))) λG=>?_
  (try simp only[Exit.inBlock,Exit.then,Exit.jump,reduceIte])
  refine Z7F F<|(Z7s G 1) λG=>Z00 (Z6j F rfl rfl rfl rfl Qy.underlying30 rfl (G.q 1)) ?_
  rw[her];exact⟨rfl,(G.e 3)⟩
theorem Zhd(x:Vm)(sd:Zd x.D)(sl:Zd x.L)(n:Int)(l:List Int)(hl:l.length<=1000)(s:List Int)(hs:s.length<=1000)(he:offR x n l s≠0)(a b:Option Addr)(c d:Nat)(w:World)(h:x.At w)(hr:Z6 w (.slice a l.length c) 1 (l.map Z4))(hq:Z6 w (.slice b s.length d) 1 (s.map Z4)):
  Calls (Qy.prog μ) 35 #[.agg x.vc,.int .i64 n,.slice a l.length c,.slice b s.length d] w λe w'=>e = .returned (.tuple #[.int .i64 0,.int .i64 (offR x n l s)])/\Ext [] w w':=by
 have E:=Ext.refl [] w;have HX:=Lib.hid h;have HR:=Lib.hid hr;have HQ:=Lib.hid hq;clear hr hq h;obtain⟨er,her⟩:∃er,er=offR x n l s:=⟨_,rfl⟩;rw[<-her]at he⊢;unfold offR at her;have G:=(Bk.nil w).ce E;refine(entM 28 Tryz.f35 rfl) λF=>wR λk1=>(F.bx G) λyy F G=>(F.m) λF=>(F.al G Qy.zeroValue30) λyy F G=>k1<|wR λk2=>(F.df) λF=>k2<|wQ λk3=>?_
 by_cases h1:x.err≠0
 ·refine Yg<|(F.y (F.lb (G.q 1))) λF=>(F.kx G (Z53 x sd sl h1 _ (HX.out.ext (G.e 2)))) λG=>?_
  (try simp only[Exit.inBlock,Exit.then,Exit.jump,reduceIte])
  refine Z7F F<|(Z7s G 0) λG=>Z00 (Z3e F rfl rfl rfl Qy.underlying30 rfl (G.q 0)) ?_
  rw[if_pos h1]at her;subst her;exact⟨rfl,(G.e 2)⟩
 ·rw[if_neg h1]at her;have hv:=Z44 (Classical.not_not.1 h1);refine Yg<|(F.y (F.lb (G.q 1))) λF=>(F.k0 G (Z09 (μ:=μ) x hv _ (HX.out.ext (G.e 2)))) λF G=>(F.al G Qy.zeroValue85) λyy F G=>(F.sr G 0) λG=>k3<|wQ λk4=>?_
  by_cases hb:Z5d x n≠0
  ·refine Yg<|(F.y (F.lb (G.q 0))) λF=>(F.m) λF=>(F.kx G ((ZaN (μ:=μ) x sl.1 n _).mono (λ_ _ h=>Z7q h rfl hb))) λG=>?_
   (try simp only[Exit.inBlock,Exit.then,Exit.jump,reduceIte])
   refine Z7F F<|(Z7s G 1) λG=>Z00 (Z3e F rfl rfl rfl Qy.underlying30 rfl (G.q 1)) ?_
   rw[if_pos hb]at her;subst her;exact⟨rfl,(G.e 3)⟩
  ·rw[if_neg hb]at her;refine Yg<|(F.y (F.lb (G.q 0))) λF=>(F.m) λF=>(F.k0 G ((ZaN (μ:=μ) x sl.1 n _).mono (λ_ _ h=>ZiW h (Classical.not_not.1 hb)))) λF G=>k4<|wQ λk5=>?_
   by_cases hc:rcpE x l≠0
   ·refine Yg<|(F.y (F.lb (G.q 0))) λF=>(F.m) λF=>(F.kx G (Z4b (μ:=μ) x hv l hl hc a c _ (HR.out.ext (G.e 3) sU))) λG=>?_
    (try simp only[Exit.inBlock,Exit.then,Exit.jump,reduceIte])
    refine Z7F F<|(Z7s G 1) λG=>Z00 (Z3e F rfl rfl rfl Qy.underlying30 rfl (G.q 1)) ?_
    rw[if_pos hc]at her;subst her;exact⟨rfl,(G.e 3)⟩
   ·rw[if_neg hc]at her;refine Yg<|(F.y (F.lb (G.q 0))) λF=>(F.m) λF=>(F.k0 G (Z0B (μ:=μ) x hv l (Z3L.1 (Classical.not_not.1 hc)) a c _ (HR.out.ext (G.e 3) sU))) λF G=>(F.al G Qy.zeroValue88) λyy F G=>(F.sr G 0) λG=>k5<|wR λk6=>(F.y (F.lb (G.q 1))) λF=>(F.m) λF=>(F.kx G ((Z6k (μ:=μ) x hv s hs b d _ (HQ.out.ext (G.e 4) sU)).mono (λ_ _ h=>Z7q h her.symm he))) λG=>?_
    (try simp only[Exit.inBlock,Exit.then,Exit.jump,reduceIte])
    refine Z7F F<|(Z7s G 2) λG=>Z00 (Z3e F rfl rfl rfl Qy.underlying30 rfl (G.q 2)) ?_
    exact⟨rfl,(G.e 4)⟩
def sumV(x:Vm)(l:List Int):List Int×Int×Int:=if sumE x l=0 then(sumL x (val l) x.B.toNat,l.sum,0) else([],0,sumE x l)
def offV(x:Vm)(n:Int)(t s:List Int):Int×Int:=if offR x n t s=0 then(offE x n.toNat (val t) (val s),0) else(0,offR x n t s)
def Z2x(v:List Int×Int×Int)(w:World)(e:Ending)(w':World):Prop:=∃a c,e = .returned (.tuple #[.slice a v.1.length c,.int .i64 v.2.1,.int .i64 v.2.2])/\w'.ownsRow w.heap.size 3 1 (.slice a v.1.length c) v.1.length (ivs v.1)/\Ext [] w w'
theorem Z96{x:Vm}(hv:VOk x)(hl:RcpOk x l)(he:sumE x l=0){bn:Nat}(hbn:x.B=bn)(h:∃u,e = .returned (.tuple #[.slice u bn bn,.int .i64 l.sum,.int .i64 0])/\w'.ownsRow w.heap.size 3 1 (.slice u bn bn) bn (ivs (sumL x (val l) bn))/\Ext [] w w'): Z2x (sumV x l) w e w':=by
 obtain⟨u,rfl,ho,E⟩:=h;have e1:x.B.toNat=bn:=by omega
 have e2:(sumL x (val l) bn).length=bn:=by simp[sumL]
 unfold Z2x sumV;rw[if_pos he,e1];refine⟨u,bn,?_,?_,E⟩
 ·simp only[e2]
 ·simp only[e2];exact ho
theorem Z24{x:Vm}(he:sumE x l≠0)(h:e = .returned (.tuple #[.slice none 0 0,.int .i64 0,.int .i64 (sumE x l)])/\Ext [] w w'): Z2x (sumV x l) w e w':=by
 obtain⟨rfl,E⟩:=h;unfold Z2x sumV;rw[if_neg he];exact⟨none,0,rfl,World.ownsRow_nil _ _ _ _,E⟩
theorem Zf7(x:Vm)(sd:Zd x.D)(sl:Zd x.L)(l:List Int)(hl:l.length<=1000)(a:Option Addr)(c:Nat)(w:World)(h:x.At w)(hr:Z6 w (.slice a l.length c) 1 (l.map Z4)):
  Calls (Qy.prog μ) 33 #[.agg x.vc,.slice a l.length c] w (Z2x (sumV x l) w):=by
 by_cases he:sumE x l=0
 ·obtain⟨hv,hl⟩:=Z7S he;have hb1:=hv.b1;have hd4:=hv.d4;have hlen:=hl.len;obtain⟨bn,hbn⟩:∃bn:Nat,x.B=bn:=⟨x.B.toNat,oM⟩;have hp:prt (val l)=l.sum:=Z2s l 4 oM;exact(Zhe x hv bn hbn l hl a c w h hr).mono λe w' q=>Z96 hv hl he hbn (by rw[<-hp];exact q)
 ·exact(Zf8 x sd sl l hl he a c w h hr).mono λe w' q=>Z24 he q
theorem Zhc(x:Vm)(sd:Zd x.D)(sl:Zd x.L)(n:Int)(l:List Int)(hl:l.length<=1000)(s:List Int)(hs:s.length<=1000)(a b:Option Addr)(c d:Nat)(w:World)(h:x.At w)(hr:Z6 w (.slice a l.length c) 1 (l.map Z4))(hq:Z6 w (.slice b s.length d) 1 (s.map Z4)):
  Calls (Qy.prog μ) 35 #[.agg x.vc,.int .i64 n,.slice a l.length c,.slice b s.length d] w λe w'=>e = .returned (.tuple #[.int .i64 (offV x n l s).1,.int .i64 (offV x n l s).2])/\Ext [] w w':=by
 unfold offV;by_cases he:offR x n l s=0
 ·rw[if_pos he];obtain⟨hv,⟨h0,h1⟩,hl,hs⟩:=Ze7 he;obtain⟨k,rfl⟩:∃k:Nat,n=k:=⟨n.toNat,oM⟩;exact Zf6 x hv k oM l hl s hs a b c d w h hr hq
 ·rw[if_neg he];exact Zhd x sd sl n l hl s hs he a b c d w h hr hq
end
section
open Go.RowKit Ev
variable{μ:Nat}
def matR(x:Vm)(l s:List Int):Int:=if x.err≠0 then x.err else if rcpE x l≠0 then rcpE x l else cntE s x.B 9
theorem Z7t{x:Vm}(h:matR x l s=0): VOk x/\RcpOk x l/\Z1s x s:=by
 unfold matR at h;by_cases h1:x.err=0
 ·rw[if_neg (by simpa using h1)]at h;by_cases h3:rcpE x l=0
  ·rw[if_neg (by simpa using h3)]at h;exact⟨Z44 h1,Z3L.1 h3,ZcY h⟩
  ·rw[if_pos h3]at h;exact absurd h h3
 ·rw[if_pos h1]at h;exact absurd h h1
noncomputable def cMt(t:Code):Code:=.seq (sqL mB) (.seq (sqL (sqR mB)) (.seq (sqL (sqR (sqR mB))) (.seq (sqL (sqR (sqR (sqR mB)))) (.seq (sqL (sqR (sqR (sqR (sqR mB))))) t))))
theorem Zl5:mB=cMt (sqR (sqR (sqR (sqR (sqR mB))))):=kR
theorem ZdY(t:Code)(x:Vm)(sd:Zd x.D)(sl:Zd x.L)(l s:List Int)(hl:l.length<=1000)(hs:s.length<=1000)(he:matR x l s≠0)(a1 a2:Option Addr)(c1 c2:Nat)(w:World)(h:x.At w)(hr:Z6 w (.slice a1 l.length c1) 1 (l.map Z4))(hr':Z6 w (.slice a2 s.length c2) 1 (s.map Z4))
  (fa:Act) (F:Has 21 [] fa [(0,x.val),(1,.slice a1 l.length c1),(2,.slice a2 s.length c2)]):(cMt t).wp (Qy.prog μ) (bodyPostM Fence.wide 9 (Qy.prog μ) Tryz.f26 λe w'=>e = .returned (.tuple #[.slice none 0 0,.int .i64 (matR x l s)])/\Ext [] w w') fa w:=by
 have E:=Ext.refl [] w;have HX:=Lib.hid h;have HR:=Lib.hid hr;have HR':=Lib.hid hr';clear h hr hr';obtain⟨er,her⟩:∃er,er=matR x l s:=⟨_,rfl⟩;rw[<-her]at he⊢;unfold matR at her;unfold Vm.val at F;have G:=(Bk.nil w).ce E;refine wR λk1=>(F.bx G) λyy F G=>(F.bx G) λyy F G=>(F.m) λF=>(F.al G Qy.zeroValue30) λyy F G=>k1<|wR λk2=>(F.df) λF=>k2<|wQ λk3=>?_
 by_cases h1:x.err≠0
 ·refine Yg<|(F.y (F.lb (G.q 2))) λF=>(F.kx G (Z53 (μ:=μ) x sd sl h1 _ (HX.out.ext (G.e 3)))) λG=>?_
  (try simp only[Exit.inBlock,Exit.then,Exit.jump,reduceIte])
  refine Z7F F<|(Z7s G 0) λG=>Z00 (Z3e F rfl rfl rfl Qy.underlying30 rfl (G.q 0)) ?_
  rw[if_pos h1]at her;subst her;exact⟨rfl,(G.e 3)⟩
 ·rw[if_neg h1]at her;have hv:=Z44 (Classical.not_not.1 h1);refine Yg<|(F.y (F.lb (G.q 2))) λF=>(F.k0 G (Z09 (μ:=μ) x hv _ (HX.out.ext (G.e 3)))) λF G=>(F.al G Qy.zeroValue85) λyy F G=>(F.sr G 0) λG=>k3<|wQ λk4=>?_
  by_cases hb:rcpE x l≠0
  ·refine Yg<|(F.y (F.lb (G.q 0))) λF=>(F.m) λF=>(F.kx G (Z4b (μ:=μ) x hv l hl hb a1 c1 _ (HR.out.ext (G.e 4) sU))) λG=>?_
   (try simp only[Exit.inBlock,Exit.then,Exit.jump,reduceIte])
   refine Z7F F<|(Z7s G 1) λG=>Z00 (Z3e F rfl rfl rfl Qy.underlying30 rfl (G.q 1)) ?_
   rw[if_pos hb]at her;subst her;exact⟨rfl,(G.e 4)⟩
  ·rw[if_neg hb]at her;refine Yg<|(F.y (F.lb (G.q 0))) λF=>(F.m) λF=>(F.k (Z0B (μ:=μ) x hv l (Z3L.1 (Classical.not_not.1 hb)) a1 c1 _ (HR.out.ext (G.e 4) sU))) ?_
   rintro _ w9 ⟨rfl,e9⟩;refine kG G e9 λF G=>?_;unfold tubC at F;refine(F.al G Qy.zeroValue88) λyy F G=>(F.sr G 0) λG=>k4<|wR λk5=>(F.y (F.lb (G.q 1))) λF=>(F.y (F.lc (G.q 3))) λF=>(F.kx G ((Z6k (μ:=μ) x hv s hs a2 c2 _ (HR'.out.ext (G.e 5) sU)).mono (λ_ _ h=>Z7q h her.symm he))) λG=>?_
   (try simp only[Exit.inBlock,Exit.then,Exit.jump,reduceIte])
   refine Z7F F<|(Z7s G 2) λG=>Z00 (Z3e F rfl rfl rfl Qy.underlying30 rfl (G.q 2)) ?_
   exact⟨rfl,(G.e 5)⟩
theorem Zg7(x:Vm)(sd:Zd x.D)(sl:Zd x.L)(l s:List Int)(hl:l.length<=1000)(hs:s.length<=1000)(he:matR x l s≠0)(a1 a2:Option Addr)(c1 c2:Nat)(w:World)(h:x.At w)(hr:Z6 w (.slice a1 l.length c1) 1 (l.map Z4))(hr':Z6 w (.slice a2 s.length c2) 1 (s.map Z4)):
  Calls (Qy.prog 0) 185 #[.agg x.vc,.slice a1 l.length c1,.slice a2 s.length c2] w λe w'=>e = .returned (.tuple #[.slice none 0 0,.int .i64 (matR x l s)])/\Ext [] w w':=
 (entM (c:=mB) (args:=[x.val,.slice a1 l.length c1,.slice a2 s.length c2]) 21 Tryz.f26 kR) λF=>by
  rw[Zl5];exact ZdY (μ:=0) _ x sd sl l s hl hs he a1 a2 c1 c2 w h hr hr' _ F
def matL2(x:Vm)(l s:List Int):List Int:=if matR x l s=0 then Z1d x.L.length λk=>matE x (val l) (val s) [((k:Nat):Int)] else[]
theorem Z9N{x:Vm}(l s:List Int):(matL2 x l s).length<=6:=by
 unfold matL2;split
 ·rename_i h;have hl3:=(Z7t h).1.l3;have:=Z9E x.L.length λk=>matE x (val l) (val s) [((k:Nat):Int)];omega
 ·simp
theorem Z95(x:Vm)(sd:Zd x.D)(sl:Zd x.L)(l s:List Int)(hl:l.length<=1000)(hs:s.length<=1000)(a1 a2:Option Addr)(c1 c2:Nat)(w:World)(h:x.At w)(hr:Z6 w (.slice a1 l.length c1) 1 (l.map Z4))(hr':Z6 w (.slice a2 s.length c2) 1 (s.map Z4)):
  Calls (Qy.prog 0) 26 #[.agg x.vc,.slice a1 l.length c1,.slice a2 s.length c2] w λe w' =>
   ((e = .panicked [bunV 26 #[.agg x.vc,.slice a1 l.length c1,.slice a2 s.length c2]]/\∃d,7<(Question.appendCap 7 0 3).cut (w.tape d (.appendCap 7 0 3)))/\Ext [] w w') \/
   ∃y,e = .returned (.tuple #[y,.int .i64 (matR x l s)])/\IntR w.heap.size w' (matL2 x l s) y/\Zbo w y/\Ext [] w w':=by
 refine Zh1 x l s (matL2 x l s) (matR x l s) ?_ a1 a2 c1 c2 w λW eW=>?_
 ·have:=Z9N (x:=x) l s;omega
 ·unfold matL2;by_cases he:matR x l s=0
  ·rw[if_pos he,he];obtain⟨hv,hl,hs⟩:=Z7t he;exact Zjd x hv l s hl hs a1 a2 c1 c2 W (h.ext eW) (hr.ext eW sU) (hr'.ext eW sU)
  ·rw[if_neg he];exact(Zg7 x sd sl l s hl hs he a1 a2 c1 c2 W (h.ext eW) (hr.ext eW sU) (hr'.ext eW sU)).mono λe w' q=>⟨_,q.1,.inl ⟨rfl,rfl⟩,q.2⟩
end
namespace Lift
open Go Go.Conc Go.RowKit Ev
open Go.ConcM OsLater
theorem Z9P{x:Vm}(sd:Zd x.D)(sl:Zd x.L)(H:VatC D S x w)(hl:l.length<=1000)(hs:s.length<=1000)(he:matR x l s≠0)(hr:Z6 w (.slice a1 l.length c1) 1 (l.map Z4))(hr':Z6 w (.slice a2 s.length c2) 1 (s.map Z4))(p1:PV S (.slice a1 l.length c1))(p2:PV S (.slice a2 s.length c2))(ret:∀w',(∀b,b<w.heap.size->w'.heap[b]?=w.heap[b]?)->w.heap.size<=w'.heap.size->w'.os=w.os->w'.output=w.output->Sure PP Post D (run1 (c.finish (.tuple #[.slice none 0 0,.int .i64 (matR x l s)])) cs) w'):
  Sure PP Post D (run1 (Frame.enter PP 26 #[x.val,.slice a1 l.length c1,.slice a2 s.length c2] .normal) (c::cs)) w:=by
 letI:Jk:=jkM;rw[Z8q];refine Z8w (J:=jkM) trivial (λf=>Iff.rfl) (λf h=>h) H.blk H.off H.low Ze1 (ZaU H p1 p2) (ZaW (J:=jkM) (λf=>Iff.rfl) (λf h=>h) rfl) (Z:=λv fr u=>fr.leaving (PF PP (Qy.F 1)) u (.returned (.tuple #[.slice none 0 0,.int .i64 (matR x l s)]))) (λv hsh T=>?_) λv f' v' r' g' w' T1 T2 hsh hq hf hw' hi ho hsn=>?_
 ·exact ZjK (P:=Qy.prog 1) Qy.own26 rfl (ZdY (μ:=1) (.refuse "") x sd sl l s hl hs he a1 a2 c1 c2 (re v T) (Z51 (v:=v) (v2:=re v T) (λb _=>rfl) (H.shadow (λ_ _=>rfl) hsh)) (@Z2m jkN _ _ _ _ (λ_ _=>rfl) hsh _ _ _ _ p1 hr) (@Z2m jkN _ _ _ _ (λ_ _=>rfl) hsh _ _ _ _ p2 hr') _ Ze0) (λw' q=>by cases q.1) λe fr w' q1 q2=>by rw[q2.1]at q1;exact q1
 refine Sure.step rfl λw1 hl1=>?_;have hw1:WH (Iv PP (Qy.F 1)) r' v' w1:=hw'.of rfl hl1.1 (by rw[hl1.2.1];exact hw'.env);obtain⟨r2,T3,y,w2,ns,e2,hvy,hw2,hk2,hev⟩:=Z3B hf hw1 hq true c cs;have hy:y = .tuple #[.slice none 0 0,.int .i64 (matR x l s)]:=by
  cases hvy with
  | @tuple _ ys h1 h2 =>
   obtain⟨y1,y2,rfl,g1,g2⟩:=arr2 (R:=VR r2) ⟨h1,h2⟩;cases g1;cases g2;rfl
 subst hy;have ho2:=(ho.like hl1).kept hk2;have h4:Kep r' r2 v' v' w' w2:=Kep.of (v0:=re v' T3) (v':=re v' T3) ⟨rfl,rfl,rfl⟩ hl1 hk2;have h3:Snc w r2 v' w2:=hsn.kep h4;exact⟨_,w2,ns,e2,λe he=>Z8t (hev e he) ho2.names,by rw[<-hl1.1];exact hk2.sizeW,ret w2 h3.old h3.size h3.os h3.out⟩
def Zk7(xs:Array Value)(u:World):Prop:=∃(x:Vm) (l s:List Int) (a1 a2:Option Addr) (c1 c2:Nat),xs=#[x.val,.slice a1 l.length c1,.slice a2 s.length c2]/\Zd x.D/\Zd x.L/\x.At u/\Cl x u/\l.length<=1000/\s.length<=1000/\Z6 u (.slice a1 l.length c1) 1 (l.map Z4)/\Z6 u (.slice a2 s.length c2) 1 (s.map Z4)/\Cel u (.slice a1 l.length c1)/\Cel u (.slice a2 s.length c2)
theorem Zie{x' x:Vm}(h:AlkV' x' x)(l s:List Int):matR x' l s=matR x l s:=by
 have h1:x'.err=x.err:=by rw[Vm.err,Vm.err,h.b,h.t,h.d,h.l]
 have h2:rcpE x' l=rcpE x l:=by unfold rcpE;rw[h.dl]
 rw[matR,matR,h1,h2,h.b]
theorem Zis(TG:FuncId->Prop):CoT TG 26 Zk7:=by
 letI:Jk:=jkV TG;intro D r v w u xs zs hpre hold hw ho hys;obtain⟨x,l,s,a1,a2,c1,c2,rfl,sd,sl,hx,hcl,hl,hs,hrw,hrw',k1,k2⟩:=hpre;obtain⟨z0,z1,z2,rfl,hz0,hz1,hz2⟩:=arr3 hys;have hxd:x.At v/\Cl x v:=by
  have hz0:VR r (.agg x.vc) z0:=hz0;cases hz0 with
  | @agg _ ys hs1 hs2 =>
   obtain⟨_,_,_,_,_,_,g2,g3,_⟩:=arr4 (R:=VR r) ⟨hs1,hs2⟩;exact⟨⟨Z7o hold hw hx.d g2,Z7o hold hw hx.l g3⟩,Z3q hold hw hcl.da g2,Z3q hold hw hcl.la g3,Z8D hold hw hx.d hcl.dp g2,Z8D hold hw hx.l hcl.lp g3⟩
 have hrd1:=Z5o hold hw hrw hz1;have hrd2:=Z5o hold hw hrw' hz2;obtain⟨x',rfl,halk,hvc⟩:=ZjW hxd.2 hxd.1 hw ho hz0;obtain⟨b1,rfl,hw1r,hp1⟩:=Zb9 hw (Z3q hold hw k1 hz1) hrd1 hz1;obtain⟨b2,rfl,hw2r,hp2⟩:=Zb9 hw (Z3q hold hw k2 hz2) hrd2 hz2;have hme:=Zie halk l s;refine⟨matL2 x l s,matR x l s,Z9N l s,λtp=>?_,λ{Post c cs} ret=>?_⟩
 ·exact Z95 x sd sl l s hl hs a1 a2 c1 c2 (re v tp) (Z51 (v:=v) (v2:=re v tp) (λb _=>rfl) hxd.1) hrd1 hrd2
 ·unfold matL2 at ret;by_cases he:matR x l s=0
  ·rw[if_pos he,he]at ret;obtain⟨hv,hlo,hso⟩:=Z7t (hme.trans he);refine Z9O hv hvc hlo hso hw1r hw2r hp1 hp2 λw3 y Mu Wg U=>ret _ _ _ (Zku ho.low ?_);have hbb:Z1d x'.L.length (matB x' (val l) (val s))=Z1d x.L.length λk=>matE x (val l) (val s) [((k:Nat):Int)]:=by
    rw[halk.ll];refine ZbH λk hk=>?_;simp only[matB,halk.ll,halk.mat,hk,decide_true,Bool.true_and]
   rw[<-hbb];exact U
  ·rw[if_neg he]at ret;have sd':Zd x'.D:=Z1J sd halk.d;have sl':Zd x'.L:=Z1J sl halk.l;refine Z9P sd' sl' hvc hl hs (by rw[hme];exact he) hw1r hw2r hp1 hp2 λw3 h1 h2 h3 h4=>?_;rw[hme];exact ret _ _ D ⟨.inl ⟨rfl,rfl⟩,h1,h2,by rw[h3];exact OsLater.refl _,h4,λc h=>.inl h,λc h=>Y8 (ho.low c h) h2,λg n c e=>by cases e⟩
def TL(f:FuncId):Prop:=f=26
def PreL(t:FuncId)(xs:Array Value)(u:World):Prop:=t=26/\Zk7 xs u
theorem tgtL(t:FuncId)(h:TL t):Tgt TL t (PreL t):=by
 obtain rfl:t=26:=h;exact⟨dC,ZeS,λh=>Zis TL h.2,⟨_,_,ZaV,ZdX,kR⟩,dC⟩
theorem Zjp{T:Nat->Question->Nat}(h:PreL t xs (re u T)): PreL t xs u:=by
 obtain⟨h0,x,l,s,a1,a2,c1,c2,h2,h3,h4,h5,h6,h7,h8,h9,h10,h11⟩:=h;letI:Jk:=jk0;exact⟨h0,x,l,s,a1,a2,c1,c2,h2,h3,h4,Z51 (v:=re u T) (v2:=u) (λ_ _=>rfl) h5,⟨h6.da,h6.la,h6.dp,h6.lp⟩,h7,h8,h9,h10,h11⟩
def jmpB(f n:Nat):Bool:=(f==26&&n==3)||(f==19&&n==0)
theorem ZiM(f:FuncId)(n:Nat)(q:jmpB f n=true):(jkV TL).jmp f/\n=(jkV TL).ar f:=by
 unfold jmpB at q;simp only[Yo,Y5,beq_iff_eq]at q;rcases q with⟨rfl,rfl⟩ | ⟨rfl,rfl⟩
 ·exact⟨.inl rfl,rfl⟩
 ·exact⟨.inr rfl,rfl⟩
theorem lawV_m{x:Vm}{n1 n2: Nat}(sd:Zd x.D)(sl:Zd x.L)(h:x.At u)(hc:Cl x u)(hl:l.length<=1000)(hs:s.length<=1000)(e1:l.length=n1)(e2:s.length=n2)(hr:Z6 u (.slice a1 n1 c1) 1 (l.map Z4))(hr':Z6 u (.slice a2 n2 c2) 1 (s.map Z4))(k1:Cel u (.slice a1 n1 c1))(k2:Cel u (.slice a2 n2 c2)):
  LawV PreL (.panicked [bunV 26 #[.agg x.vc,.slice a1 n1 c1,.slice a2 n2 c2]]) u:=by
 subst e1 e2;exact .inr ⟨_,_,dC,rfl,rfl,x,l,s,a1,a2,c1,c2,rfl,sd,sl,h,hc,hl,hs,hr,hr',k1,k2⟩
end Lift
namespace Lift
open Go Go.Conc Go.RowKit Ev
open Go.ConcM OsLater
noncomputable def lB:Code:=(Tryz.f6.body).getD (.refuse "")
theorem ZiN:Tryz.f6.body=some lB:=kR
noncomputable def lF:Frame:={(default:Frame) with fn:=lawF,kind:=.normal}
noncomputable def lA(xs:Array Value):Act:={tmps:=xs++Array.replicate (Tryz.f6.ntmps-xs.size) undef,defers:=[]}
theorem Z3v{Q:Program}(h:Q.funcs[(lawF:Nat)]?=some Tryz.f6)(xs:Array Value): Frame.enter Q lawF xs .normal=lF.at (lA xs) [.code lB]:=by
 simp[Frame.enter,Frame.at,h,ZiN,lF,lA]
theorem lawP:PP.funcs[(lawF:Nat)]?=some Tryz.f6:=kR
theorem lawQ:(Qy.prog 0).funcs[(lawF:Nat)]?=some Tryz.f6:=kR
theorem cl0:ZO PP gJ jmpB true true true false lB=true:=kR
theorem ZiP:PP.inits.idxOf? lawF=none:=kR
theorem ZlM{f:Nat}(h:gJ f=true): gS f=true:=by
 have h1:=Z65 (ZkP h);unfold gS;rw[List.elem_iff];exact List.mem_append_left _ h1
theorem VR.dup(h:@VR (jkV TL) (idS S) x y): @VR jk0 (idS S) x x:=by
 have nm:∀{b c:Nat},idS S b=some c->idS S b=some b:=λh=>Z2f (Z0H h).1;have ar:∀{a b:Addr},AR (idS S) a b->AR (idS S) a a:=λh=>by
  cases h with
  | mk q=>exact .mk (nm q)
 induction h with
 | bool b=>exact @VR.bool jk0 _ b
 | int k n=>exact @VR.int jk0 _ k n
 | string s=>exact @VR.string jk0 _ s
 | ptr0=>exact @VR.ptr0 jk0 _
 | ptr q=>exact @VR.ptr jk0 _ _ _ (ar q)
 | sl0 n c=>exact @VR.sl0 jk0 _ n c
 | sl n c q=>exact @VR.sl jk0 _ _ _ n c (ar q)
 | slz _=>exact @VR.slz jk0 _ _ (.inr rfl)
 | map0=>exact @VR.map0 jk0 _
 | map q=>exact @VR.map jk0 _ _ _ (nm q)
 | func hf hx _ hy _ ih ih2 =>
  refine @VR.func jk0 _ _ _ _ _ _ _ ?_ rfl (λi a b p q=>?_) rfl (λi a b p q=>?_)
  ·cases hf with
   | func f h=>exact @FnR.func jk0 _ f (ZlM h)
   | yield q=>exact @FnR.yield jk0 _ _ _ (nm q)
  ·rw[p]at q;obtain rfl:=Y1 q;obtain⟨b,hb⟩:∃b,_=some b:=⟨_,Y2 (hx▸(Y0.1 p).1)⟩;exact ih i a b p hb
  ·rw[p]at q;obtain rfl:=Y1 q;obtain⟨b,hb⟩:∃b,_=some b:=⟨_,Y2 (hy▸(Y0.1 p).1)⟩;exact ih2 i a b p hb
 | func0=>exact @VR.func0 jk0 _
 | iface t _ ih=>exact @VR.iface jk0 _ _ _ t ih
 | iface0=>exact @VR.iface0 jk0 _
 | agg hs _ ih =>
  refine @VR.agg jk0 _ _ _ rfl λi a b p q=>?_;rw[p]at q;obtain rfl:=Y1 q;obtain⟨b,hb⟩:∃b,_=some b:=⟨_,Y2 (hs▸(Y0.1 p).1)⟩;exact ih i a b p hb
 | tuple hs _ ih =>
  refine @VR.tuple jk0 _ _ _ rfl λi a b p q=>?_;rw[p]at q;obtain rfl:=Y1 q;obtain⟨b,hb⟩:∃b,_=some b:=⟨_,Y2 (hs▸(Y0.1 p).1)⟩;exact ih i a b p hb
 | junk _ _ _ _=>exact @VR.junk jk0 _ _ (.inr rfl) (by unfold J0;simp) ⟨by unfold J0;simp,by unfold J0;simp⟩ (by unfold J0;simp)
theorem ZiO(e:Ending)(u:World)(T:Nat->Question->Nat)(h:LawV PreL e (re u T)):LawV PreL e u:=by
 rcases h with h | ⟨t,xs,h0,h1,h2⟩
 ·exact .inl h
 ·exact .inr ⟨t,xs,h0,h1,Zjp h2⟩
theorem ZfV:@Z0I (jkV TL) PP ((jkV TL).law lawF) (¬(jkV TL).gd lawF) false lB:=by
 have:=@Z1P (jkV TL) PP gJ true (λf q=>q) (λq=>by cases q) jmpB ZiM lB true true false cl0;have e1:(true=true)=((jkV TL).law lawF):=by
  show (true=true)=(lawF=lawF);simp
 have e2:(true=true)=(¬(jkV TL).gd lawF):=by
  show (true=true)=(¬gJ lawF=true);have:gJ lawF=false:=by decide
  simp[this]
 rw[<-e1,<-e2];exact this
theorem ZkZ{a:Act}(ht:@VRs (jkV TL) (idS S) a.tmps a.tmps)(hd:a.defers=[]): @Stk (jkV TL) PP (Qy.F 0) (idS S) [lF.at a [.code lB]] [lF.at a [.code lB]]:=by
 have hown:(Qy.F 0)[(lawF:Nat)]?=PP.funcs[(lawF:Nat)]?:=lawQ.trans lawP.symm;letI:Jk:=jkV TL;obtain⟨tm,df⟩:=a;obtain rfl:df=[]:=hd;refine⟨.cons ?_ .nil,⟨.inl rfl,λh=>absurd rfl h⟩,trivial⟩;refine @FrR.mk (jkV TL) PP (Qy.F 0) (idS S) _ _ ?c1 ?c2 ?c3 ?c4 ?c5 ?c6 ?c7 ?c8
 case c1=>exact(rfl:(lawF:Nat)=lawF)
 case c2=>exact hown
 case c3=>exact ht
 case c5=>exact⟨.nil,λ_=>rfl⟩
 case c6=>exact .run
 case c7=>exact⟨(rfl:CallKind.normal = .normal),.inl (rfl:CallKind.normal = .normal)⟩
 case c8=>exact .none
 case c4=>exact .cons (.code ZfV) .nil
theorem ZfX(h:@VRs (jkV TL) (idS S) xs xs): @VRs (jkV TL) (idS S) (lA xs).tmps (lA xs).tmps:=by
 letI:Jk:=jkV TL;unfold lA;dsimp only;exact Arr.append h (Arr.replicate _ .undef)
theorem ZfR{W: World}{T:Nat->Question->Nat}(hsh:Shadow S W v){a0:Option Addr}{len0 cap0:Nat}{z0:List Int}(hp:PV S (.slice a0 len0 cap0))(h:Z40 .i64 W a0 len0 cap0 z0): Z40 .i64 (re v T) a0 len0 cap0 z0:=by
 rcases h with h | ⟨x,rfl,h1,h2,h3,h4,h5⟩
 ·exact .inl h
 ·refine .inr ⟨x,rfl,h1,h2,h3,λi hi=>?_,h5⟩;obtain⟨bb,off,sp⟩:=x;obtain⟨hs,rfl⟩:=hp;have e:∀n,(⟨bb,off,none⟩:Addr).add n=⟨bb,off+n,none⟩:=λn=>by
   unfold Addr.add;split
   ·rename_i q;subst q;rfl
   ·rfl
  have h6:=h4 i hi;rw[e]at h6⊢;letI:Jk:=jkV TL;exact Z55 (S:=S) (w:=W) (w1:=W) (v2:=re v T) (λ_ _=>rfl) ⟨hsh.size,hsh.os,hsh.at_⟩ (b:=bb) (o:=off+i) hs h6 trivial
def PVA(S:Nat->Prop)(x:Value):Prop:=PV S x\/∃cs,x = .agg cs/\∀y∈cs,PV S y
theorem Zej[Jk]{S:Nat->Prop}{xs:Array Value}(h:∀x∈xs,PVA S x):VRs (idS S) xs xs:=Z4S λx hx=>by
 rcases h x hx with h | ⟨cs,rfl,h⟩
 ·exact h.vr
 ·exact .agg rfl (Z4S λy hy=>(h y hy).vr).2
theorem ZfW(W:World)(S:Nat->Prop)(xs:Array Value)(hS:∀c,S c->∃cs e fz,W.heap[c]?=some (.cells cs e fz))(hpa:∀x∈xs,PVA S x)(walk:∀v,Shadow S W v->∀T,Calls (Qy.prog 0) lawF xs (re v T) (LawV PreL)):
  Run PP (Zi5 W) (solo (G (Frame.enter PP lawF xs .normal) []) W) #[]:=by
 obtain⟨v,hsh,hwh,hshut⟩:=@Z2d (jkV TL) S W PP (Qy.F 0) trivial hS;have hvr:@VRs (jkV TL) (idS S) xs xs:=@Zej (jkV TL) _ _ hpa;have hvr0:@VRs jk0 (idS S) xs xs:=@Zej jk0 _ _ hpa;have hw0:@WH jk0 (@Iv jk0 (Qy.prog 0) (Qy.F 0)) (idS S) v v:=by
  refine @WH.mk jk0 _ _ _ _ (λb c hbc=>?_) (ZdA S) rfl;obtain⟨hs,rfl⟩:=Z0H hbc;obtain⟨o,o',g1,g2,g3⟩:=@WH.on (jkV TL) _ _ _ _ hwh _ _ hbc;obtain⟨cs,e,g4⟩:=hshut _ _ hbc;rw[g1]at g4;obtain rfl:=Y1 g4;refine⟨_,_,g1,g1,?_⟩;cases g3 with
  | cells q hf =>
   refine @OR.cells jk0 _ _ _ _ _ _ _ ⟨rfl,λi x y p1 p2=>?_⟩ (.inr rfl);rw[p1]at p2;obtain rfl:=Y1 p2;obtain⟨z,hz⟩:∃z,_=some z:=⟨_,Y2 (q.1▸(Y0.1 p1).1)⟩;exact VR.dup (q.2 i x z p1 hz)
 have hE0:=@Z1Q jk0 (Qy.prog 0) (Qy.F 0) (λf=>gS f=true) (idS S) v v Z2Y gokS recS lawF xs xs dC hvr0 hw0 (LawV PreL) ZiO (λu q=>by
   rcases q with q | ⟨_,_,_,q,_⟩<;>cases q) (λT=>walk v hsh T)
 have hfr0:=@Z0Y jk0 (Qy.prog 0) (Qy.F 0) (λf=>gS f=true) (idS S) Z2Y lawF xs xs hvr0 dC gokS .normal (.inl rfl);have hself:@Self jk0 (Qy.prog 0) (Qy.F 0) [Frame.enter (Qy.prog 0) lawF xs .normal,poison] v:=by
  letI:Jk:=jk0;refine⟨_,[],idS S,rfl,ZiL S,⟨.cons hfr0 .nil,⟨.inl ?_,λh=>absurd rfl h⟩,trivial⟩,⟨hw0.on,hw0.inj,λ_ _=>rfl,rfl⟩⟩;rw[Z3v lawQ];rfl
 rw[Z3v lawQ]at hself;have hE1:Ends (Qy.prog 0) (Done PP (Qy.F 0) lawF (LawV PreL)) [lF.at (lA xs) [.code lB],poison] v:=by
  rw[<-Z3v lawQ];exact hE0
 have hst:=ZkZ (ZfX hvr) rfl;have hsure:=ZdO TL PreL tgtL (R:=LawV PreL) (λt xs u q=>by
   rcases q with q | ⟨t',ys,h0,q,q2⟩
   ·cases q
   ·simp only[Ending.panicked.injEq,List.cons.injEq,and_true]at q;obtain⟨rfl,rfl⟩:t=t'/\xs=ys:=by
     simp only[bunV]at q;simpa using q
    exact q2) (λx u q=>by
   rcases q with q | ⟨_,_,_,q,_⟩
   ·exact Ending.returned.inj q
   ·cases q) (λch u q=>by
   rcases q with q | ⟨t,ys,h0,q,q2⟩
   ·cases q
   ·exact⟨t,ys,h0,Ending.panicked.inj q⟩) ZiP rfl hst hwh (λa b q=>hshut a b q) hself hE1
 rw[Z3v lawP];have hp:Past (Dk λ_=>False) W.heap.size #[]:=by
  have e:(Dk λ_=>False)=λ_=>False:=by
   funext l;simp[Dk]
  rw[e];exact past_nil.mono (Nat.zero_le _)
 exact hsure W ⟨rfl,rfl,rfl⟩ #[run1 _ []] none #[] (λ_=>0) rfl (leavers_one _ _) hp
end Lift
namespace Lift
open Go Go.Conc Go.RowKit Ev
def Wrd(w:World)(v:Value):Prop:=Cel w v\/∃a,v = .slice (some a) 0 0
def SB(W:World)(l:List Value)(b:Nat):Prop:=∃v∈l,Cel W v/\∃a n c,v = .slice (some a) n c/\a.block=b
theorem Zgv{W:World}{l:List Value}(c:Nat)(h:SB W l c): ∃cs e fz,W.heap[c]?=some (.cells cs e fz):=by
 obtain⟨v,_,hc,a,n,k,rfl,rfl⟩:=h;exact hc.2
theorem ZbU{W:World}{l:List Value}{a:Option Addr}{n c:Nat}(hm:.slice a n c∈l)(h:Cel W (.slice a n c)): PV (SB W l) (.slice a n c):=by
 cases a with
 | none=>trivial
 | some a=>exact⟨⟨_,hm,h,a,n,c,rfl,rfl⟩,h.1⟩
section
variable{S:Nat->Prop}{W v:World}
open Classical in
theorem lol_shZ(sh:Shadow S W v){a:Option Addr}{n c:Nat}{L:List (Value×List Int)}(ha:PV S (.slice a n c))(hp:∀p∈L,PV S p.1\/∃b,p.1 = .slice (some b) 0 0)(hx:ZL W a L): ∃L',ZL v a L'/\L'.map (·.2)=L.map (·.2):=by
 letI:Jk:=jk0;obtain⟨h1,h2⟩:=hx;rw[ZF]at h1;refine⟨L.map λp=>(if PV S p.1 then p.1 else .slice (some Z0) 0 0,p.2),⟨?_,λp hm=>?_⟩,by rw[List.map_map];rfl⟩
 ·rw[ZF];intro i hi;rw[Yj]at hi;obtain⟨b,off,rfl,hc⟩:=h1 i hi;refine⟨b,off,rfl,?_⟩;have hm:=Z5 (.bool true,[]) hi (l:=L);have e1:(L.map λp:Value×List Int=>(if PV S p.1 then p.1 else .slice (some Z0) 0 0,p.2)).getD i (.bool true,[])=((if PV S (L.getD i (.bool true,[])).1 then(L.getD i (.bool true,[])).1 else .slice (some Z0) 0 0),(L.getD i (.bool true,[])).2):=by simp[hi]
  rw[e1];by_cases hpv:PV S (L.getD i (.bool true,[])).1
  ·rw[if_pos hpv];exact Z55 (w1:=W) (λ_ _=>rfl) sh ha.1 hc hpv
  ·rw[if_neg hpv];obtain⟨z,hz⟩:=(hp _ hm).resolve_left hpv;rw[hz]at hc hpv;obtain⟨_,cs,e,fz,hb⟩:=Z0h hc;obtain⟨cs',g1,_,_,g2⟩:=sh.at_ b ha.1 cs e fz hb;unfold World.cell? at hc⊢;rw[hb]at hc;rw[g1];exact g2 _ z hc hpv
 ·obtain⟨q,hq,rfl⟩:=List.mem_map.1 hm;obtain⟨a3,c3,e3,hr⟩:=h2 q hq;by_cases hpv:PV S q.1
  ·simp only[if_pos hpv];rw[e3]at hpv;exact⟨a3,c3,e3,Z2m (w1:=W) (λ_ _=>rfl) sh hpv hr⟩
  ·obtain⟨z,hz⟩:=(hp q hq).resolve_left hpv;rw[e3]at hz;simp only[Value.slice.injEq]at hz;simp only[if_neg hpv];refine⟨some Z0,0,by rw[hz.2.1],some Z0,0,sU,λr hr=>?_,λhne=>?_⟩
   ·obtain⟨_,_,rfl⟩:=List.mem_map.1 hr;rfl
   ·exact absurd (List.map_eq_nil_iff.2 (List.length_eq_zero_iff.1 hz.2.1)) hne
theorem ZlV(sh:Shadow S W v){x:Vm}(hx:x.At W)(hd:PV S (.slice x.da x.D.length x.dc))(hl:PV S (.slice x.la x.L.length x.lc))(hp:∀p∈x.D,PV S p.1\/∃b,p.1 = .slice (some b) 0 0)(hq:∀p∈x.L,PV S p.1\/∃b,p.1 = .slice (some b) 0 0):∃x':Vm,x'.val=x.val/\x'.At v:=by
 obtain⟨D',k1,k2⟩:=lol_shZ sh hd hp hx.d;obtain⟨L',k3,k4⟩:=lol_shZ sh hl hq hx.l;have dl:D'.length=x.D.length:=by have:=congrArg List.length k2;simpa using this
 have ll:L'.length=x.L.length:=by have:=congrArg List.length k4;simpa using this
 exact⟨{x with D:=D',L:=L'},by simp only[Vm.val,Vm.vc,dl,ll],⟨k1,k3⟩⟩
end
end Lift
section
open Go.RowKit
variable{μ:Nat}
theorem Zat(x:Vm)(hv:VOk x)(bn:Nat)(hbn:x.B=bn)(l:List Int)(hl:l.length=x.D.length)(hb:∀n∈l,0<=n/\n<=6)(a:Option Addr)(c:Nat)(w:World)(h:x.At w)(hr:Z6 w (.slice a l.length c) 1 (l.map Z4)):
  Calls (Qy.prog μ) 85 #[.agg x.vc,.slice a l.length c] w λe w'=>∃a,e = .returned (.slice a bn bn)/\w'.ownsRow w.heap.size 3 1 (.slice a bn bn) bn (ivs (sumL x (val l) bn))/\Ext [] w w':=by
 have E:=Ext.refl [] w;have HX:=Lib.hid h;have HV:=Lib.hid hv;have HSR:=Lib.hid (Z7 hr 0);have HB:=Lib.hid hb;have HD:=Lib.hid h.d.1;have hb1:=hv.b1;have hb3:=hv.b3;have hd4:=hv.d4;have HF:RowKit.Hid (TubS (val l)):=Lib.hid (λk _=>Z6B hb oM oM k);clear h hv hr hb;have G:=(Bk.nil w).ce E;refine(ent 45 Tryz.f85 rfl) λF=>wR λk1=>(F.bx G) @λn2 w1 _ yy F G=>(F.m) λF=>k1<|wR λk2=>(F.y (F.fd 0)) λF=>(F.y (F.lc (G.q 0))) λF=>?_
 rw[hbn]at F;have hEs:=(G.e 1).size;refine Zx F rfl dC (F.want rfl) (Z2L rfl w.heap.size (e:=3) (bytes:=8) (z:=.int .i64 0) Qy.underlying22 kR rfl (F.at rfl) (F.at rfl) (n:=bn) oM dC oM) ?_;clear F;rintro _ v' w2 F ⟨oo,hg,rfl⟩;obtain⟨n10,hn⟩:=eQ w1.heap.size;rw[<-hn]at F oo;have s10:=G.lt hn;replace G:=G.gn hg;clear hg hn;replace G:=G.co oo;have oo:=G.o 0;rw[<-Z5F x (val l) bn]at oo;replace G:=G.rO 0 oo;clear oo;refine(F.m) λF=>k2<|wQ λk3=>wR λk4=>(F.m) λF=>k4<|Yh<|lpB (F.b [1,2,5]) (G.b [1,2]) l.length (λd Lv Sv W=>Lv=[(6,.int .i64 ((d:Nat):Int))]/\Sv=[]/\W.ownsRow w.heap.size 3 1 (.slice (some ⟨n10,0,none⟩) bn bn) bn (ivs (sumR x (val l) bn d 0))) ⟨_,_,F.u,G.u,rfl,rfl,(G.o 0)⟩ ?_
 clear F G;rintro d _ w3 _ _ hi1 ⟨rfl,rfl,oo⟩ F G;replace G:=(G.z).co oo;refine wQ λk5=>wR λk6=>(F.m) λF=>(F.m) λF=>(F.y F.ln) λF=>(F.y F.ls) λF=>k6<|F.ci (λhc14=>?_) (λhc14=>?_)
 ·refine Yi<|k5<|wQ λk7=>Yh<|wR λk8=>(F.m) λF=>k8<|Yh<|lpB (F.b [1,2,5,6]) (G.b [1,2]) bn (λi Lv Sv W=>Lv=[(7,.int .i64 ((i:Nat):Int))]/\Sv=[]/\W.ownsRow w.heap.size 3 1 (.slice (some ⟨n10,0,none⟩) bn bn) bn (ivs (sumR x (val l) bn d i))) ⟨_,_,F.u,G.u,rfl,rfl,(G.o 0)⟩ ?_
  clear F G;rintro i _ w4 _ _ hi2 ⟨rfl,rfl,oo⟩ F G;replace G:=(G.z).co oo;refine wQ λk9=>wR λk10=>(F.m) λF=>(F.y (F.fd 0)) λF=>(F.y (F.lc (G.q 1))) λF=>?_;rw[hbn]at F;refine(F.y F.ls) λF=>k10<|F.ci (λhc20=>?_) (λhc20=>?_)
  ·refine Yi<|k9<|wQ λk11=>Yh ?_
   obtain⟨la,lca,hla,hlr⟩:=HX.out.d.2 _ (Z5 (.bool true,[]) (show d<x.D.length by omega));have hlen:=(HV.out.dl _ (Z5 (.bool true,[]) (show d<x.D.length by omega))).1;have hlb:(x.D.getD d (.bool true,[])).2.length=bn:=by omega
   have HLR:=Lib.hid (Z7 hlr 0);have hml:=Z7W x (val l) bn d i;have hmk:=Z7V x (val l) d (show i<bn by omega);have hst:=Z7X x (val l) d (show i<bn by omega);have oo:=G.o 0;have HS:=Lib.hid (ZH oo hml.symm [] sU);have hil:=Z1i (sumR x (val l) bn d i);obtain⟨hf0,hf1⟩:=HF.out d oM;obtain⟨hg0,hg1⟩:=Zau HV.out (show d<x.D.length by omega) i;simp only[val,Vm.dye]at hg0 hg1 hf0 hf1;obtain⟨hp0,hp1⟩:=Z8H hf0 oM hg0 oM;obtain⟨ht0,ht1⟩:=Z5J HV.out HF.out i (show d<=x.D.length by omega);replace G:=G.hr [];refine(wX 21 G) λG=>(F.sm) λF=>(F.sm) λF=>(F.sm) λF=>(F.sm) λF=>?_;obtain⟨xb12,xo12,xa12,xr12⟩:=HS.out i oM;refine(F.s (F.is 1 xa12)) λF=>(F.s (F.l1 (xr12 _ (G.e 0)) 0)) λF=>(F.sm) λF=>(F.sm) λF=>?_;obtain⟨xb13,xo13,xa13,xr13⟩:=HSR.out d oM;refine(F.s (F.is 1 xa13)) λF=>(F.s (F.l1 (xr13 _ (G.e 3)) 0)) λF=>(F.s (F.fd 1)) λF=>(F.s (F.lc (G.q 2))) λF=>(F.sm) λF=>?_;obtain⟨xb14,xo14,xa14,xr14⟩:=HD.out d oM;refine(F.s (F.is 1 xa14)) λF=>(F.s (F.l1 (xr14 _ (G.e 3)) 0)) λF=>?_;rw[hla]at F;refine(F.sm) λF=>?_;obtain⟨xb15,xo15,xa15,xr15⟩:=HLR.out i oM;refine(F.s (F.is 1 xa15)) λF=>(F.s (F.l1 (xr15 _ (G.e 3)) 0)) λF=>(F.s F.ml) λF=>(F.s F.ad) λF=>?_;obtain⟨xb16,xo16,xa16,xr16⟩:=HS.out i oM;refine(F.s (F.is 1 xa16)) λF=>wpStill_nil ?_;replace G:=G.d 0;obtain⟨⟨u0,hcu⟩,hfu,hst⟩:=Z1n (G.o 0) xa16 (j:=i) (p:=xo16+((i:Nat):Int).toNat*1) (by first | omega | (simp;omega)) oM;refine Z3S rfl (F.want rfl) (ZW rfl (F.at rfl) (F.at rfl) rfl kR hcu hfu) ?_;intro w6 hw;obtain⟨hown',hg⟩:=hst _ _ hw;replace G:=G.gr 0 hg hown';clear hst hcu hfu hw hg hown';have oo:=G.o 0;rw[Z1j,hmk,show tonE x (val l) i d+l.getD d 0*(x.D.getD d (.bool true,[])).2.getD i 0=tonE x (val l) i (d+1) from rfl,hst]at oo;replace G:=G.rO 0 oo;clear oo;refine k11<|Yg<|(F.m) λF=>(F.y F.ad) λF=>(F.m) λF=>?_
   show _/\_;exact⟨oM,_,_,F.u,G.u,rfl,rfl,(G.o 0)⟩
  ·refine wp_exit ?_;have oo:=G.o 0;rw[show i=bn by omega,Z5E]at oo;replace G:=G.rO 0 oo;clear oo;refine k7<|Yg<|(F.m) λF=>(F.y F.ad) λF=>(F.m) λF=>?_
   show _/\_;exact⟨oM,_,_,F.u,G.u,rfl,rfl,(G.o 0)⟩
 ·refine wp_exit ?_;have oo:=G.o 0;rw[show d=x.D.length by omega,Z7U]at oo;replace G:=G.rO 0 oo;clear oo;refine k3<|wR λk17=>(F.m) λF=>(F.m) λF=>k17<|(F.r1) ?_
  have oo:=G.o 0;exact⟨_,rfl,oo,(G.e 2)⟩
theorem Z8k(x:Vm)(hv:VOk x)(k:Nat)(hk:k<x.L.length)(bn:Nat)(hbn:x.B=bn)(s:List Int)(hs:s.length=bn)(hb:∀n∈s,0<=n/\n<=100000)(a:Option Addr)(c:Nat)(w:World)(h:x.At w)(hr:Z6 w (.slice a s.length c) 1 (s.map Z4)):
  Calls (Qy.prog μ) 122 #[.agg x.vc,.int .i64 ((k:Nat):Int),.slice a s.length c] w λe w'=>e = .returned (.int .i64 (dotE (val (x.lamp k)) (val s) bn))/\Ext [] w w':=by
 have E:=Ext.refl [] w;have HX:=Lib.hid h;have HV:=Lib.hid hv;have HSR:=Lib.hid (Z7 hr 0);have HB:=Lib.hid hb;have HL:=Lib.hid h.l.1;have hb3:=hv.b3;have hb1:=hv.b1;obtain⟨la,lca,hla,hlr⟩:=h.l.2 _ (Z5 (.bool true,[]) hk);have hlen:=(hv.ll _ (Z5 (.bool true,[]) hk)).1;have hlb:(x.L.getD k (.bool true,[])).2.length=bn:=by omega
 have HLR:=Lib.hid (Z7 hlr 0);clear h hv hr hb hlr;have G:=(Bk.nil w).ce E;refine(ent 31 Tryz.f122 rfl) λF=>wR λk1=>(F.bx G) λyy F G=>(F.m) λF=>k1<|wR λk2=>(F.m) λF=>?_
 rw[show (0:Int)=dotE (val (x.lamp k)) (val s) 0 from rfl]at F;refine k2<|wQ λk3=>wR λk4=>(F.m) λF=>k4<|Yh<|lpB (F.b [1,2,3]) G bn (λi Lv Sv W=>Lv=[(7,.int .i64 (dotE (val (x.lamp k)) (val s) i)),(8,.int .i64 ((i:Nat):Int))]/\Sv=[]/\0<=dotE (val (x.lamp k)) (val s) i/\dotE (val (x.lamp k)) (val s) i<=1000000*i) ⟨_,_,F.u,G.u,rfl,rfl,(by simp[dotE,sumQ])⟩ ?_
 clear F G;rintro i _ w2 _ _ hi1 ⟨rfl,rfl,hdb⟩ F G;replace G:=G.z;refine wQ λk5=>wR λk6=>(F.m) λF=>(F.m) λF=>(F.y F.ln) λF=>(F.y F.ls) λF=>k6<|F.ci (λhc12=>?_) (λhc12=>?_)
 ·refine Yi<|k5<|wQ λk7=>Yh ?_
  have hlq:=Z9D HV.out hk i;simp only[val,Vm.lamp]at hlq;have hsq:=HB.out _ (Z5 0 (show i<s.length by omega));obtain⟨hp0,hp1⟩:=Z8H hlq.1 oM hsq.1 hsq.2;refine(wX 15 G) λG=>(F.sm) λF=>(F.s (F.fd 2)) λF=>(F.s (F.lc (G.q 0))) λF=>(F.sm) λF=>(F.sx HL.out k) λxr8 F=>(F.s (F.l1 (xr8 _ (G.e 1)) 0)) λF=>?_;rw[hla]at F;refine(F.sm) λF=>(F.sx HLR.out i) λxr9 F=>(F.s (F.l1 (xr9 _ (G.e 1)) 0)) λF=>(F.sm) λF=>(F.sm) λF=>(F.sx HSR.out i) λxr10 F=>(F.s (F.l1 (xr10 _ (G.e 1)) 0)) λF=>(F.s F.ml) λF=>(F.s F.ad) λF=>wpStill_nil<|(F.m) λF=>?_
  rw[show dotE (val (x.lamp k)) (val s) i+(x.L.getD k (.bool true,[])).2.getD i 0*s.getD i 0=dotE (val (x.lamp k)) (val s) (i+1) from rfl]at F;refine k7<|Yg<|(F.m) λF=>(F.y F.ad) λF=>(F.m) λF=>?_
  show _/\_;exact⟨oM,_,_,F.u,G.u,rfl,rfl,(by have h2:dotE (val (x.lamp k)) (val s) (i+1)=dotE (val (x.lamp k)) (val s) i+(x.L.getD k (.bool true,[])).2.getD i 0*s.getD i 0:=rfl;constructor<;>omega)⟩
 ·refine wp_exit ?_;rw[show i=bn by omega]at F;refine k3<|wR λk11=>(F.m) λF=>(F.m) λF=>k11<|(F.r1) ?_
  exact⟨rfl,(G.e 1)⟩
variable{μ:Nat}
theorem Zd8(x:Vm)(hv:VOk x)(k:Nat)(hk:k<x.L.length)(t:List Int)(ht:t.length=x.D.length)(hb:∀n∈t,0<=n/\n<=6)(s:List Int)(hs:Z1s x s)(ta sa:Option Addr)(tc sc:Nat)(w:World)(h:x.At w)(hp:Z6 w (.slice ta t.length tc) 1 (t.map Z4))(hr:Z6 w (.slice sa s.length sc) 1 (s.map Z4)):
  Calls (Qy.prog μ) 91 #[.agg x.vc,.int .i64 ((k:Nat):Int),.slice ta t.length tc,.slice sa s.length sc] w λe w'=>e = .returned (.int .i64 (offE x k (val t) (val s)))/\Ext [] w w':=by
 have E:=Ext.refl [] w;have HX:=Lib.hid h;have HV:=Lib.hid hv;have HP:=Lib.hid hp;have HR:=Lib.hid hr;have HS:=Lib.hid hs;have HB:=Lib.hid hb;have hb1:=hv.b1;have hb3:=hv.b3;have hd4:=hv.d4;obtain⟨bn,hbn⟩:∃bn:Nat,x.B=bn:=⟨x.B.toNat,oM⟩;have hbn2:x.B.toNat=bn:=by omega
 have hts:RowKit.Hid (TubS (val t)):=Lib.hid (λk _=>Z6B hb oM oM k);have hpr:prt (val t)=t.sum:=Z2s t 4 oM;have hpb:=Z3K hts.out;have hko:offE x k (val t) (val s)=dotE (val (x.lamp k)) (tnE x (val t)) bn-t.sum*dotE (val (x.lamp k)) (val s) bn:=by rw[offE,hbn2,hpr]
 have hof:=ZaY hv hk hts.out hs;have hdb:=Z2S hv hk (λj=>ZeD hs j) (n:=bn) oM;have hmb:=Z0F hpb.1 hpb.2 hdb.1 hdb.2 (C:=51840) oM;have hda:=Z2S hv hk (λj=>Zac hv hts.out j) (n:=bn) oM;have hsn:s.length=bn:=by have:=hs.1;omega
 rw[hpr]at hmb;clear h hv hp hr hs hb;have G:=(Bk.nil w).ce E;refine(ent 23 Tryz.f91 rfl) λF=>wR λk1=>(F.bx G) λyy F G=>(F.m) λF=>k1<|wQ λk2=>?_
 have G2:=G;refine(wD [] none G) λG=>(F.zr 0 (G.t 0) λhS=>F.lb (G2.k 0 hS)) λF=>(F.z 1 (G.t 0) F.mo) λF=>(F.zr 2 (G.t 0) λhS=>F.lb (G2.k 0 hS)) λF=>(F.z 3 (G.t 0) F.mo) λF=>(F.z 6 (G.t 0) F.mo) λF=>(F.zr 8 (G.t 0) λhS=>F.lb (G2.k 0 hS)) λF=>(F.z 9 (G.t 0) F.mo) λF=>(F.z 10 (G.t 0) F.mo) λF=>(aO 4)<|(F.ok (Zat x HV.out bn hbn t ht HB.out ta tc _ (HX.out.ext (G.e 2)) (HP.out.ext (G.e 2) sU))) ?_
 rintro _ w3 ⟨ua,rfl,uo,e9⟩;refine kG G e9 λF G=>.intro (G.t 0) ?_;have hsl:(sumL x (val t) bn).length=bn:=by simp[sumL]
 have HU:=Lib.hid (Zh uo hsl.symm);clear uo;have hsb:=Lib.hid (Z3i HV.out hts.out bn);replace G:=G.hr [];have hwe:=Z8k (μ:=μ) x HV.out k hk bn hbn (sumL x (val t) bn) hsl (λn hn=>by have:=hsb.out n hn;omega) ua bn w3 (HX.out.ext (G.e 3)) (by rw[hsl];exact HU.out.ext (G.e 0) sU);rw[hsl]at hwe;have hdx:=Z2D x (val t) (val (x.lamp k)) bn;rw[hsl]at hdx;rw[hdx]at hwe;refine(aO 5)<|(F.ok hwe) ?_
 rintro _ w4 ⟨rfl,e9⟩;refine kG G e9 λF G=>.intro (G.t 1) ?_;clear hwe hdx;refine(aO 7)<|(F.ok0 G (Z2C t ta tc _ (HP.out.ext (G.e 3) sU) oM (λn hn=>by have:=HB.out n hn;omega))) λF G=>.intro (G.t 1)<|(aO 11)<|(F.ok0 G (Z8k x HV.out k hk bn hbn s hsn (λn hn=>by have:=HS.out.2 n hn;omega) sa sc _ (HX.out.ext (G.e 3)) (HR.out.ext (G.e 3) sU))) λF G=>.intro (G.t 1)<|(F.z 12 (G.t 1) F.ml) λF=>(F.z 13 (G.t 1) F.sb) λF=>(F.z 14 (G.t 1) F.mo) λF=>(aD)<|k2<|(F.r1) ?_
 exact⟨Z9 hko.symm,(G.e 3)⟩
theorem Z9t(x:Vm)(hv:VOk x)(k:Nat)(hk:k<x.L.length)(t:List Int)(ht:t.length=x.D.length)(hb:∀n∈t,0<=n/\n<=6)(s:List Int)(hs:Z1s x s)(ta sa:Option Addr)(tc sc:Nat)(w:World)(h:x.At w)(hp:Z6 w (.slice ta t.length tc) 1 (t.map Z4))(hr:Z6 w (.slice sa s.length sc) 1 (s.map Z4)):
  Calls (Qy.prog μ) 98 #[.agg x.vc,.int .i64 ((k:Nat):Int),.slice ta t.length tc,.slice sa s.length sc] w λe w'=>e = .returned (.bool (decide (max (offE x k (val t) (val s)) (-offE x k (val t) (val s))<=x.tol*prt (val t))))/\Ext [] w w':=by
 have E:=Ext.refl [] w;have HX:=Lib.hid h;have HV:=Lib.hid hv;have HP:=Lib.hid hp;have HR:=Lib.hid hr;have HS:=Lib.hid hs;have HB:=Lib.hid hb;have hd4:=hv.d4;have ht0:=hv.t0;have ht12:=hv.t12;have hts:RowKit.Hid (TubS (val t)):=Lib.hid (λk _=>Z6B hb oM oM k);have hpr:prt (val t)=t.sum:=Z2s t 4 oM;have hpb:=Z3K hts.out;have h7:=Z0F ht0 ht12 hpb.1 hpb.2 (C:=288) oM;have hof:=ZaY hv hk hts.out hs;rw[hpr]at h7⊢;clear h hv hp hr hs hb;have G:=(Bk.nil w).ce E;refine(ent 25 Tryz.f98 rfl) λF=>wR λk1=>(F.bx G) λyy F G=>(F.m) λF=>k1<|wR λk2=>(F.y (F.lb (G.q 0))) λF=>(F.m) λF=>(F.m) λF=>(F.m) λF=>(F.k0 G (Zd8 x HV.out k hk t ht HB.out s HS.out ta sa tc sc _ (HX.out.ext (G.e 1)) (HP.out.ext (G.e 1) sU) (HR.out.ext (G.e 1) sU))) λF G=>(F.m) λF=>k2<|wQ λk3=>?_
 have G2:=G;refine(wD [] none G) λG=>(F.z 0 (G.t 0) F.mo) λF=>(F.z 1 (G.t 0) F.mo) λF=>(F.z 2 (G.t 0) F.ng) λF=>(F.z 3 (G.t 0) F.mx) λF=>(F.z 4 (G.t 0) (F.fd 3)) λF=>(F.zr 5 (G.t 0) λhS=>F.lc (G2.k 0 hS)) λF=>(F.z 6 (G.t 0) F.mo) λF=>(aO 7)<|(F.ok0 G (Z2C t ta tc _ (HP.out.ext (G.e 2) sU) oM (λn hn=>by have:=HB.out n hn;omega))) λF G=>.intro (G.t 0)<|(F.z 8 (G.t 0) F.ml) λF=>(F.z 9 (G.t 0) F.le) λF=>(F.z 10 (G.t 0) F.mo) λF=>(aD)<|k3<|(F.r1) ?_
 exact⟨rfl,(G.e 2)⟩
end
end Go.Proofs.YtfelljbfeoplhaaGreat
