/- Parts of a proof: Wj, Wk, Wl, Wm, Wn, Wo, Wp, Wq, Wr, Wu, Wv, Ww, Uc. No conditions. -/
import Derived.Conc.MuStep0
import Derived.Test.YtfelljbfeoplhaaGreatPsp1
import Derived.Test.YtfelljbfeoplhaaGreatPsp5
import Derived.Test.YtfelljbfeoplhaaGreatPsp6
import Derived.Test.YtfelljbfeoplhaaGreatPsp9
set_option linter.unusedVariables false
set_option linter.unusedSimpArgs false
set_option linter.unusedSectionVars false
set_option maxRecDepth 100000
set_option maxHeartbeats 4000000
namespace Go.Proofs.YtfelljbfeoplhaaGreat
variable{fn:Go.FuncId}{pos:String}{α:Type}{B n q:Nat}{Om:Nat→Prop}{ys:Array Go.Value}
namespace Lift
open Go Go.Conc Ev
open Go.ConcM (OsLater)
variable[Jk]
section
variable{K:Cx}{k:Wk}{T:Nat→Value}{n i L v:Nat}{cs:List Frame}{w:World}{s:Sh}{f:Frame}{fs:List Frame}{tag:CT}{x:Value}{u:Nat→Value}{d:Nat}{m:Bool}
theorem Zfh(h:SOk (sM k T n).top (sM k T n).rest f fs):WM m K (ZB k T n cs (if 0<n then .ma 0 else .w1)) 0 (run1 f (fs++cs)):=by
 have e:=Zhm k T n;have e0:decide ((0:Int)<(n:Int))=decide (((0:Nat):Int)<(n:Int)):=rfl;exact ZhK xokQ e h fun f' fs' h'=>Zcd (i:=0) (Nat.zero_le n) h'
theorem Zls:(cMw2 k T n n x (kk 1) u).ext PP=some (158,[pa k.W 0,.int .u64 (((1:Nat):Int)*4294967296),.int .u64 (((1:Nat):Int)*4294967296+1)]):=by kernel_rfl
theorem ZkZ:(cMx k T n n x (kk 1) u).ext PP=some (146,[pa k.W 1]):=by kernel_rfl
theorem Zlt:(cMw2 k T n n x (kk 2) u).ext PP=some (158,[pa k.W 0,.int .u64 (((2:Nat):Int)*4294967296),.int .u64 (((2:Nat):Int)*4294967296+1)]):=by kernel_rfl
theorem Zl0:(cMx k T n n x (kk 2) u).ext PP=some (146,[pa k.W 1]):=by kernel_rfl
theorem Zlu:(cMw2 k T n n x (kk 3) u).ext PP=some (158,[pa k.W 0,.int .u64 (((3:Nat):Int)*4294967296),.int .u64 (((3:Nat):Int)*4294967296+1)]):=by kernel_rfl
theorem Zl1:(cMx k T n n x (kk 3) u).ext PP=some (146,[pa k.W 1]):=by kernel_rfl
variable(W:Wok K k)(hS:ShAt K w s)
include W hS
theorem Zlk{g:Goroutine}(h:ZB k T n cs .w1 d g)(hv:v≤3)(hs:s.wg=(v:Int)*4294967296):
  d=1∧∃g',stepG PP m g w = .go g' w #[⟨.cell ⟨K.Wg,0,none⟩,false,true⟩]∧WM m K (ZB k T n cs (if v=0 then .mq else .w2 v)) 1 g':=by
 obtain⟨hd,x,u,f,fs,h,rfl⟩:=h;have hx:(cMw1 k T n n x u).ext PP=some (152,[pa k.W 0]):=by kernel_rfl
 rw[W.W]at hx;have hv3:v=0∨v=1∨v=2∨v=3:=by omega
 have hc:w.cell? ⟨K.Wg,0,none⟩=some (.int .u64 ((v:Int)*4294967296)):=by rw[hS.wg0,hs]
 rcases hv3 with rfl | rfl | rfl | rfl
 ·obtain⟨e1,h1⟩:=Z3A (P:=PP) (m:=m) (cs:=cs) (w:=w) (st:=cMw1 k T n n x u) h hx Z3G hc (Zb (Zg3 k T n n x u))
  rw[if_pos rfl];exact⟨hd,_,e1,edgM xokQ W ((Z0f ..).symm.trans (Zg3 k T n n x u)) hS (by simp) rfl (dm_1 (x:=x)) h1 fun f' fs' h2=>Z03 (tag:=.mq) (x:=x) (u:=u) dm_q h2⟩
 ·obtain⟨e1,h1⟩:=Z3A (P:=PP) (m:=m) (cs:=cs) (w:=w) (st:=cMw1 k T n n x u) h hx Z3G hc (Zb (Zg4 k T n n x u))
  rw[if_neg (by omega)];exact⟨hd,_,e1,edgM xokQ W ((Z0f ..).symm.trans (Zg4 k T n n x u)) hS (by simp) rfl (dm_1 (x:=x)) h1 fun f' fs' h2=>Z03 (tag:=.w2 1) (x:=x) (u:=u) ZiR h2⟩
 ·obtain⟨e1,h1⟩:=Z3A (P:=PP) (m:=m) (cs:=cs) (w:=w) (st:=cMw1 k T n n x u) h hx Z3G hc (Zb (Zg5 k T n n x u))
  rw[if_neg (by omega)];exact⟨hd,_,e1,edgM xokQ W ((Z0f ..).symm.trans (Zg5 k T n n x u)) hS (by simp) rfl (dm_1 (x:=x)) h1 fun f' fs' h2=>Z03 (tag:=.w2 2) (x:=x) (u:=u) ZiS h2⟩
 ·obtain⟨e1,h1⟩:=Z3A (P:=PP) (m:=m) (cs:=cs) (w:=w) (st:=cMw1 k T n n x u) h hx Z3G hc (Zb (Zg6 k T n n x u))
  rw[if_neg (by omega)];exact⟨hd,_,e1,edgM xokQ W ((Z0f ..).symm.trans (Zg6 k T n n x u)) hS (by simp) rfl (dm_1 (x:=x)) h1 fun f' fs' h2=>Z03 (tag:=.w2 3) (x:=x) (u:=u) ZiT h2⟩
theorem Zkh(h1:1≤v)(h3:v≤3):(cMw2 k T n n x (kk v) u).ext PP=some (158,[pa k.W 0,.int .u64 ((v:Int)*4294967296),.int .u64 ((v:Int)*4294967296+1)]):=by
 have:v=1∨v=2∨v=3:=by omega
 rcases this with rfl | rfl | rfl
 ·exact Zls
 ·exact Zlt
 ·exact Zlu
theorem Zlr(h1:1≤v)(h3:v≤3):∃l ls,edg xtQ (cMw2 k T n n x (kk v) u) (.bool true) l ls=(true,cMx k T n n x (kk v) u,[⟨k.W,1,none⟩],[]):=by
 have:v=1∨v=2∨v=3:=by omega
 rcases this with rfl | rfl | rfl
 ·exact⟨_,_,Zjr k T n n x u⟩
 ·exact⟨_,_,Zjs k T n n x u⟩
 ·exact⟨_,_,Zjt k T n n x u⟩
theorem Zlq(h1:1≤v)(h3:v≤3):∃l ls,edg xtQ (cMw2 k T n n x (kk v) u) (.bool false) l ls=(true,cMw1 k T n n x u,[],[]):=by
 have:v=1∨v=2∨v=3:=by omega
 rcases this with rfl | rfl | rfl
 ·exact⟨_,_,Zhn k T n n x u⟩
 ·exact⟨_,_,Zho k T n n x u⟩
 ·exact⟨_,_,Zhp k T n n x u⟩
theorem Zll{g:Goroutine}(h:ZB k T n cs (.w2 v) d g)(h1:1≤v)(h3:v≤3){v':Nat}(hs:s.wg=(v':Int)*4294967296):
  d=1∧if v'=v then ∃g' w',stepG PP m g w = .go g' w' #[⟨.cell ⟨K.Wg,0,none⟩,false,true⟩,⟨.cell ⟨K.Wg,0,none⟩,true,true⟩]∧Eff K w w' {s with wg:=(v:Int)*4294967296+1}∧WM m K (ZB k T n cs (.mx v)) 1 g'
   else ∃g',stepG PP m g w = .go g' w #[⟨.cell ⟨K.Wg,0,none⟩,false,true⟩]∧WM m K (ZB k T n cs .w1) 1 g':=by
 obtain⟨hd,x,u,f,fs,h,rfl⟩:=h;have hx:=Zkh (T:=T) (n:=n) (x:=x) (u:=u) W hS h1 h3;rw[W.W]at hx;obtain⟨l,ls,e1⟩:=Zlr (T:=T) (n:=n) (x:=x) (u:=u) W hS h1 h3;obtain⟨l0,ls0,e0⟩:=Zlq (T:=T) (n:=n) (x:=x) (u:=u) W hS h1 h3;refine⟨hd,?_⟩
 split
 ·rename_i he
  subst he;obtain⟨s1,k1⟩:=Z5w (P:=PP) (m:=m) (cs:=cs) (w:=w) (st:=cMw2 k T n n x (kk v') u) h hx Zc4 (by rw[hS.wg0,hs]) (hS.wgz 0) (Zb e1);have hE:=Eff.wg0 W.ap hS ((v':Int)*4294967296+1);exact⟨_,_,s1,hE,edgM xokQ W ((Z0f ..).symm.trans e1) hE.sh (by simp) rfl (dm_2 (x:=x) ⟨h1,h3⟩) k1 fun f' fs' h2=>Z03 (tag:=.mx v') (x:=x) (u:=u) (dm_x ⟨h1,h3⟩) h2⟩
 ·rename_i he
  obtain⟨s1,k1⟩:=Z4D (P:=PP) (m:=m) (cs:=cs) (w:=w) (st:=cMw2 k T n n x (kk v) u) h hx Zc4 (by rw[hS.wg0,hs]) (hS.wgz 0) (by omega) (Zb e0);exact⟨_,s1,edgM xokQ W ((Z0f ..).symm.trans e0) hS (by simp) rfl (dm_2 (x:=x) ⟨h1,h3⟩) k1 fun f' fs' h2=>Z03 (tag:=.w1) (x:=x) (u:=u) dm_1 h2⟩
theorem mx_e(h1:1≤v)(h3:v≤3):∃l ls,edg xtQ (cMx k T n n x (kk v) u) (.tuple #[]) l ls=(true,cMw3 k T n n x u,[],[]):=by
 have:v=1∨v=2∨v=3:=by omega
 rcases this with rfl | rfl | rfl
 ·exact⟨_,_,ZkT k T n n x u⟩
 ·exact⟨_,_,ZkU k T n n x u⟩
 ·exact⟨_,_,ZkV k T n n x u⟩
theorem ZjD(h1:1≤v)(h3:v≤3):(cMx k T n n x (kk v) u).ext PP=some (146,[pa k.W 1]):=by
 have:v=1∨v=2∨v=3:=by omega
 rcases this with rfl | rfl | rfl
 ·exact ZkZ
 ·exact Zl0
 ·exact Zl1
theorem Zli{g:Goroutine}(h:ZB k T n cs (.mx v) d g)(h1:1≤v)(h3:v≤3): d=1∧∃g',stepG PP m g w = .go g' w #[⟨.mark (.write ⟨K.Wg,1,none⟩),false,true⟩]∧WM m K (ZB k T n cs .w3) 1 g':=by
 obtain⟨hd,x,u,f,fs,h,rfl⟩:=h;have hx:=ZjD (T:=T) (n:=n) (x:=x) (u:=u) W hS h1 h3;rw[W.W]at hx;obtain⟨l,ls,e1⟩:=mx_e (T:=T) (n:=n) (x:=x) (u:=u) W hS h1 h3;obtain⟨s1,k1⟩:=Z4E (P:=PP) (m:=m) (cs:=cs) (w:=w) (st:=cMx k T n n x (kk v) u) (fun a g=>by simp) h hx Zj7 (Zb e1);exact⟨hd,_,s1,edgM xokQ W ((Z0f ..).symm.trans e1) hS (by simp) rfl (dm_x (x:=x) ⟨h1,h3⟩) k1 fun f' fs' h2=>Z03 (tag:=.w3) (x:=x) (u:=u) dm_3 h2⟩
theorem Zlm{g:Goroutine}(h:ZB k T n cs .w3 d g): d=1∧(s.ws=0→stepG PP m g w = .go {g with status:=.blocked} w #[]) ∧
  (s.ws=1→∃g' w',stepG PP m g w = .go g' w' (semEvents ⟨K.Wg,1,none⟩)∧Eff K w w' {s with ws:=0}∧WM m K (ZB k T n cs .w4) 1 g'):=by
 obtain⟨hd,x,u,f,fs,h,rfl⟩:=h;have hx:∃vs,(cMw3 k T n n x u).ext PP=some (147,pa k.W 1::vs):=⟨[.bool false],by kernel_rfl⟩;obtain⟨vs,hx⟩:=hx;rw[W.W]at hx;refine⟨hd,fun h0=>Z8i (st:=cMw3 k T n n x u) h hx ZfU (by rw[hS.wg1,h0]),fun h1=>?_⟩;obtain⟨s1,k1⟩:=ZfG (P:=PP) (m:=m) (cs:=cs) (w:=w) (st:=cMw3 k T n n x u) (n:=1) h hx ZfU (by rw[hS.wg1,h1]) (by decide) (hS.wgz 1) (Zb (m_w3 k T n n x u));have hE:=Eff.wg1 W.ap hS 0;exact⟨_,_,s1,hE,edgM xokQ W ((Z0f ..).symm.trans (m_w3 k T n n x u)) hE.sh (by simp) rfl (dm_3 (x:=x)) k1 fun f' fs' h2=>Z03 (tag:=.w4) (x:=x) (u:=u) dm_4 h2⟩
theorem Zln{g:Goroutine}(h:ZB k T n cs .w4 d g)(hs:s.wg=0): d=1∧∃g',stepG PP m g w = .go g' w #[⟨.cell ⟨K.Wg,0,none⟩,false,true⟩]∧WM m K (ZB k T n cs .my) 1 g':=by
 obtain⟨hd,x,u,f,fs,h,rfl⟩:=h;have hx:(cMw4 k T n n x u).ext PP=some (152,[pa k.W 0]):=by kernel_rfl
 rw[W.W]at hx;obtain⟨e1,h1⟩:=Z3A (P:=PP) (m:=m) (cs:=cs) (w:=w) (st:=cMw4 k T n n x u) (v:=0) h hx Z3G (by rw[hS.wg0,hs]) (Zb (m_w4 k T n n x u));exact⟨hd,_,e1,edgM xokQ W ((Z0f ..).symm.trans (m_w4 k T n n x u)) hS (by simp) rfl (dm_4 (x:=x)) h1 fun f' fs' h2=>Z03 (tag:=.my) (x:=x) (u:=u) dm_y h2⟩
theorem Zk3{g:Goroutine}(ht:tag = .my∨tag = .mq)(h:ZB k T n cs tag d g): d=0∧∃x u f fs,stepG PP m g w = .go (run1 f (fs++cs)) w #[⟨.mark (.acquire ⟨K.Wg,0,none⟩),false,true⟩]∧SOk ((plM k T n x u tag).an (.tuple #[])).top ((plM k T n x u tag).an (.tuple #[])).rest f fs:=by
 rcases ht with rfl | rfl
 ·obtain⟨hd,x,u,f,fs,h,rfl⟩:=h
  have hx:(cMy k T n n x u).ext PP=some (143,[pa k.W 0]):=by kernel_rfl
  rw[W.W]at hx;obtain⟨e1,h1⟩:=Z4E (P:=PP) (m:=m) (cs:=cs) (w:=w) (st:=cMy k T n n x u) (fun a g=>by simp) h hx Z8p (Zb (m_y k T n n x u));exact⟨hd,x,u,_,fs,e1,h1⟩
 ·obtain⟨hd,x,u,f,fs,h,rfl⟩:=h
  have hx:(cMq k T n n x u).ext PP=some (143,[pa k.W 0]):=by kernel_rfl
  rw[W.W]at hx;obtain⟨e1,h1⟩:=Z4E (P:=PP) (m:=m) (cs:=cs) (w:=w) (st:=cMq k T n n x u) (fun a g=>by simp) h hx Z8p (Zb (m_q k T n n x u));exact⟨hd,x,u,_,fs,e1,h1⟩
end
end Lift
namespace Lift
open Go Go.Conc Ev
open Mx (mvt isSp isR1 isS1 sm sms OUT L0 lk sticks)
open Go.ConcM (OsLater woken_by_blocked)
open Go.ConcN (upd upd_ne upd_same)
variable[Jk]
inductive Hh where
 | leaf
 | node (f:World→Hh)
def Hh.sub(a b:Hh):Prop:=∃f w,b = .node f∧a=f w
theorem Hh.wf:WellFounded Hh.sub:=by
 refine⟨fun a=>?_⟩
 induction a with
 | leaf=>exact⟨_,fun b ⟨f,w,e,_⟩=>by cases e⟩
 | node f ih=>exact⟨_,fun b ⟨f',w,e,hb⟩=>by cases e;rw[hb];exact ih w⟩
inductive WTh(P:Program)(m:Bool)(K:Cx)(RO:Nat→Prop)(Stop:(Nat→Prop)→Nat→Goroutine→World→Prop):Hh→(Nat→Prop)→Nat→Goroutine→World→Prop
 | stop {h O d g w} (hs:∀w1,Rely K O w w1→Stop O d g w1):WTh P m K RO Stop h O d g w
 | step {f O d g w} (hr:g.status = .running) (ok:∀w1,Rely K O w w1→∃g' w' es,stepG P m g w1 = .go g' w' es∧Guar K RO O w1 w' es)
   (hk:∀w1,Rely K O w w1→∀g' w' es,stepG P m g w1 = .go g' w' es→WTh P m K RO Stop (f w1) (Grow O w1 w') (deafBehind d es) g' w'):WTh P m K RO Stop (.node f) O d g w
section
variable{P:Program}{K:Cx}{m:Bool}{d:Nat}{RO O:Nat→Prop}{Stop:(Nat→Prop)→Nat→Goroutine→World→Prop}{w w' w1:World}{g:Goroutine}{h:Hh}
theorem WT.height(t:WT P m K RO Stop O d g w):∃h,WTh P m K RO Stop h O d g w:=by
 induction t with
 | stop hs=>exact⟨.leaf,.stop hs⟩
 | @step O d g w hr ok _ ih =>
  classical
  have key:∀w1,∃h:Hh,Rely K O w w1→∀g' w' es,stepG P m g w1 = .go g' w' es→WTh P m K RO Stop h (Grow O w1 w') (deafBehind d es) g' w':=by
   intro w1
   by_cases hw:Rely K O w w1
   ·obtain⟨g',w',es,e,hG⟩:=ok w1 hw
    obtain⟨h,hh⟩:=ih w1 hw g' w' es e;refine⟨h,fun _ g2 w2 es2 e2=>?_⟩;rw[e]at e2;simp only[GStep.go.injEq]at e2;obtain⟨rfl,rfl,rfl⟩:=e2;exact hh
   ·exact⟨.leaf,fun h=>absurd h hw⟩
  exact⟨.node fun w1=>Classical.choose (key w1),.step hr ok fun w1 hw=>Classical.choose_spec (key w1) hw⟩
theorem WTh.rely(t:WTh P m K RO Stop h O d g w)(k:Rely K O w w1):WTh P m K RO Stop h O d g w1:=by
 cases t with
 | stop hs=>exact .stop fun w2 h2=>hs w2 (k.trans h2)
 | step hr ok hk=>exact .step hr (fun w2 h2=>ok w2 (k.trans h2)) fun w2 h2=>hk w2 (k.trans h2)
theorem WTh.running(hS:∀O d g w,Stop O d g w→g.status = .running)(t:WTh P m K RO Stop h O d g w):g.status = .running:=by
 cases t with
 | stop hs=>exact hS _ _ _ _ (hs w (Rely.refl K O w))
 | step hr _ _=>exact hr
theorem WTh.cases'(t:WTh P m K RO Stop h O d g w):Stop O d g w∨∃g' w' es h',stepG P m g w = .go g' w' es∧Guar K RO O w w' es∧WTh P m K RO Stop h' (Grow O w w') (deafBehind d es) g' w'∧Hh.sub h' h:=by
 cases t with
 | stop hs=>exact .inl (hs w (Rely.refl K O w))
 | @step f _ _ _ _ hr ok hk =>
  obtain⟨g',w',es,e,hG⟩:=ok w (Rely.refl K O w);exact .inr ⟨g',w',es,_,e,hG,hk w (Rely.refl K O w) g' w' es e,f,w,rfl,rfl⟩
end
inductive WS where
 | no | mx (c it:Nat) | d1 | d2 | d3 | d4 | qt
namespace WS
def code(b:Bool):WS→Nat
 | .no=>bif b then L0 else OUT
 | .mx c _=>c
 | _=>OUT
def stg:WS→Nat
 | .no=>8
 | .mx _ _=>7
 | .d1=>5
 | .d2=>4
 | .d3=>3
 | .d4=>2
 | .qt=>0
def spn:WS→Nat
 | .mx c it=>sm c it
 | _=>0
def cnt:WS→Nat
 | .mx _ _ | .d1=>1
 | _=>0
end WS
def pend:CT→Nat
 | .mr _ _ | .mg _ _=>1
 | _=>0
def Z9A:CT→Prop
 | .mx _ | .w3 | .w4 | .my | .mq=>False
 | _=>True
def Zjd:CT→Prop
 | .w4 | .my | .mq=>True
 | _=>False
def Z7H:CT→Prop
 | .mx _ | .w3=>True
 | _=>False
def tagJ(n:Nat):CT→Nat
 | .ma i | .ms i _ | .md i _ | .mr i _ | .mg i _=>i
 | _=>n
def Z7d(n:Nat):CT→Prop
 | .ma i | .ms i _ | .md i _ | .mr i _ | .mg i _=>i<n
 | .w2 v | .mx v=>1≤v∧v≤3
 | _=>True
def vsum(ws:Nat→WS):Nat:=(ws 0).cnt+(ws 1).cnt+(ws 2).cnt
def phi(n v:Nat):CT→Nat
 | .ma i=>100+10*(n-i)+5
 | .ms i _=>100+10*(n-i)+4
 | .md i _=>100+10*(n-i)+3
 | .mr i _=>100+10*(n-i)+2
 | .mg i _=>100+10*(n-i)+1
 | .w1=>50+2*v+1
 | .w2 v'=>50+2*v'
 | .mx _=>40
 | .w3=>30
 | .w4=>20
 | .my | .mq=>10
def pst(c:Nat):Bool:=Nat.beq c 36||Nat.beq c 37||Nat.beq c 38||Nat.beq c 39||Nat.beq c 40||Nat.beq c 41||Nat.beq c OUT
inductive Mode(ws:Nat→WS):CT→Int→Int→Prop
 | opn {tag:CT}:Z9A tag→(∀x,ws x = .no∨(∃c it,ws x = .mx c it)∨ws x = .d1∨ws x = .qt)→(∀v,tag = .w2 v→vsum ws≤v)→Mode ws tag (((vsum ws+pend tag:Nat):Int)*4294967296) 0
 | reg {tag:CT}:Z7H tag→(∀x,ws x = .no∨(∃c it,ws x = .mx c it)∨ws x = .d1∨ws x = .qt)→1≤vsum ws→Mode ws tag ((vsum ws:Int)*4294967296+1) 0
 | last {tag:CT} (L:Nat):Z7H tag→L<3→(ws L = .d2∨ws L = .d3)→(∀x,x≠L→ws x = .no∨ws x = .qt)→Mode ws tag 1 0
 | last4 {tag:CT} (L:Nat):Z7H tag→L<3→ws L = .d4→(∀x,x≠L→ws x = .no∨ws x = .qt)→Mode ws tag 0 0
 | sema {tag:CT}:Z7H tag→(∀x,ws x = .no∨ws x = .qt)→Mode ws tag 0 1
 | fin {tag:CT}:Zjd tag→(∀x,ws x = .no∨ws x = .qt)→Mode ws tag 0 0
structure Ph where
 K:Cx
 k:Wk
 T:Nat→Value
 n:Nat
 cs:List Frame
 D:Nat→Prop
 m0:Nat
 p0:Nat
 β:Nat→Bool
 wS:World
structure Da where
 tag:CT
 ws:Nat→WS
 Lb:Nat→Nat
 Z:Zn
 h0:Nat
 h:Nat→Hh
 q:Nat→Nat
 d0:Nat
 r:Nat
 mu:Nat
 ms:Nat
 s:Sh
def Ph.kx(X:Ph)(Lb:Nat→Nat)(x:Nat):Wk:={X.k with L:=Lb x,lamp:=x}
section
variable(X:Ph)(Y:Da)
def Cal(a:Goroutine)(w:World):Prop:=
 Z8e true X.K (ZB X.k X.T X.n X.cs Y.tag) Y.h0 Y.d0 a∨(Y.tag = .w3∧Y.s.ws=0∧a.status = .blocked∧a.offers=none∧ZB X.k X.T X.n X.cs .w3 Y.d0 {a with status:=.running})
def Wrk(x d:Nat)(g:Goroutine)(w:World):Prop:=
 match Y.ws x with
 | .no=>False
 | .mx c it=>itOk c it∧(WTh PP false X.K (Y.Z.RO x) (Z0x (X.kx Y.Lb x) [bot] c it) (Y.h x) (Y.Z.O x) d g w∨(isS1 c=true∧Y.ms=0∧g.status = .blocked∧g.offers=none∧Z0x (X.kx Y.Lb x) [bot] c it (Y.Z.O x) d {g with status:=.running} w))
 | .d1=>Slip (Z1h (X.kx Y.Lb x) [bot] 1) (Y.q (X.m0+x)) d g
 | .d2=>Slip (Z1h (X.kx Y.Lb x) [bot] 2) (Y.q (X.m0+x)) d g
 | .d3=>Slip (Z1h (X.kx Y.Lb x) [bot] 3) (Y.q (X.m0+x)) d g
 | .d4=>Slip (Z1h (X.kx Y.Lb x) [bot] 4) (Y.q (X.m0+x)) d g
 | .qt=>QuitsD PP (Y.q (X.m0+x)) d g
def curL(tag:CT)(c:Nat):Prop:=match tag with
 | .ms _ L | .md _ L | .mr _ L | .mg _ L=>c=L
 | _=>False
structure Ci(gs:Array Goroutine)(w:World)(t:Trace):Prop where
 size:gs.size=X.m0+Y.Z.j
 zm:Y.Z.m0=X.m0
 zj:Y.Z.j=tagJ X.n Y.tag
 tok:Z7d X.n Y.tag
 old:∀i g,0<i→i<X.m0→gs[i]?=some g→QuitsD PP (Y.q i) (Deaf t i) g
 cal:∃a,gs[0]?=some a∧Cal X Y a w
 wrk:∀x,x<Y.Z.j→∃g,gs[X.m0+x]?=some g∧Wrk X Y x (Deaf t (X.m0+x)) g w
 no:∀x,Y.Z.j≤x→Y.ws x = .no
 sh:ShAt X.K w Y.s
 vmu:Y.s.mu=(Y.mu:Int)
 vms:Y.s.ms=(Y.ms:Int)
 tab:lk ((Y.ws 0).code (X.β 0)) ((Y.ws 1).code (X.β 1)) ((Y.ws 2).code (X.β 2)) Y.mu Y.ms=some Y.r
 out:∀x,X.β x=false→(Y.ws x).code (X.β x)=OUT
 len:Y.s.fd.length=X.n
 fd:∀x,x<X.n→Y.s.fd[x]?=some (X.β x&&pst ((Y.ws x).code (X.β x)))
 mode:Mode Y.ws Y.tag Y.s.wg Y.s.ws
 bx:∀x,x<Y.Z.j→Bx (X.kx Y.Lb x) (Y.Z.RO x) w∧Off3 X.K (X.kx Y.Lb x)
 low:∀x c,x<Y.Z.j→Y.Z.O x c→c<w.heap.size
 new:∀x c,x<Y.Z.j→c<X.wS.heap.size→Y.Z.O x c→Y.Z.RO x c
 ro:∀x c,Y.Z.RO x c→Y.Z.O x c
 om:Y.Z.Om=curL Y.tag
 lmp:∀c,curL Y.tag c→X.wS.heap.size≤c∧c<w.heap.size∧∃z TT,w.heap[c]?=some (.cells #[z] TT (0,0))∧((∀i L,Y.tag ≠ .ms i L)→z=qw (Y.Z.j:Int))
 sep:Sep X.K X.D Y.Z
 ti:TI X.K X.D Y.Z w.heap.size X.p0 Y.d0 t
 said:∀x,x<Y.Z.j→(∀c it,Y.ws x ≠ .mx c it)→Said X.K Y.Z X.p0 t x
 kept:∀c,c<X.wS.heap.size→c≠X.K.Mu→c≠X.K.Wg→c≠X.K.Fd→w.heap[c]?=X.wS.heap[c]?
 grow:X.wS.heap.size≤w.heap.size
 os:OsLater X.wS.os w.os
 outp:w.output=X.wS.output
structure PhOk:Prop where
 n3:X.n≤3
 m0:0<X.m0
 ok:∀Lb x,x<X.n→Wok X.K (X.kx Lb x)
 wok:Wok X.K X.k
 kn:X.k.n=X.n
 βn:∀x,X.n≤x→X.β x=false
 dlow:∀c,X.D c→c<X.wS.heap.size
 isB:∃T fz,X.wS.heap[X.k.I]?=some (.cells #[X.k.clo] T fz)
 fdB:∃T fz,X.wS.heap[X.k.B]?=some (.cells #[.slice (some ⟨X.k.D,0,none⟩) X.k.n X.k.c] T fz)
 iO:X.k.I≠X.K.Mu∧X.k.I≠X.K.Wg∧X.k.I≠X.K.Fd∧¬X.D X.k.I
 bO:X.k.B≠X.K.Mu∧X.k.B≠X.K.Wg∧X.k.B≠X.K.Fd∧¬X.D X.k.B
end
end Lift
namespace Lift
open Go Go.Conc Ev
open Mx (mvt isSp isR1 isS1 sm sms OUT L0 lk sticks)
open Go.ConcM (OsLater woken_by_blocked)
open Go.ConcN (upd upd_ne upd_same)
variable[Jk]
theorem Z0W{a b:Os}(h:OsLater a b):b.env=a.env:=by
 obtain⟨d,rfl⟩:=h
 rfl
section
variable{X:Ph}{Y Y':Da}{gs:Array Goroutine}{w w':World}{t:Trace}{a g g':Goroutine}{es:Array Event}{x:Nat}{d:Nat}
def Zak(g g':Goroutine):Prop:=mayWake PP g=true∧g'.status = .running
theorem Z87(hb:a.status = .blocked)(ho:a.offers=none):woken PP g g' w a=a∨woken PP g g' w a={a with status:=.running}:=by
 unfold woken
 split
 ·refine .inr ?_
  unfold Goroutine.again;rw[hb,ho]
 ·exact .inl rfl
theorem Z64(hb:a.status = .blocked)(ho:a.offers=none)(h:Zak g g'):woken PP g g' w a={a with status:=.running}:=by
 unfold woken;rw[h.1,h.2];simp only[Bool.true_and];rw[if_pos (by decide)];unfold Goroutine.again;rw[hb,ho]
theorem Z5d{k:Wk}{T:Nat→Value}{cs:List Frame}{tag:CT}: ∀d g,ZB k T n cs tag d g→g.status = .running:=by
 rintro d g ⟨_,x,u,f,fs,_,rfl⟩
 rfl
theorem Z51{K:Cx}{k:Wk}{T:Nat→Value}{d: Nat}{cs:List Frame}{tag:CT}{g:Goroutine}{m:Bool}(h:Z8e m K (ZB k T n cs tag) q d g): g.status = .running:=by
 cases q with
 | zero=>exact Z5d _ _ h
 | succ q=>exact h.elim (Z5d _ _) fun h=>h.1
theorem ZaL{m:Bool}{K:Cx}{Stop:Nat→Goroutine→Prop}{d:Nat}{g:Goroutine}(h:Stop d g): ∀q,Z8e m K Stop q d g
 | 0=>h
 | q+1=>.inl h
theorem Z1J{k:Wk}{cs:List Frame}{c it:Nat}: ∀O d g w,Z0x k cs c it O d g w→g.status = .running:=by
 rintro O d g w ⟨_,f,fs,wst,q,_,rfl⟩
 rfl
theorem Z0a{k:Wk}{cs:List Frame}{d: Nat}{g:Goroutine}(h:Slip (Z1h k cs n) q d g): g.status = .running:=by
 have:∀d g,Z1h k cs n d g→g.status = .running:=by
  rintro d g ⟨_,f,fs,_,rfl⟩
  rfl
 cases q with
 | zero=>exact this _ _ h
 | succ q=>exact h.elim (this _ _) fun h=>h.1
theorem Cal.keep(h:Cal X Y a w)(l:Rely X.K NO w w')(e1:Y'.tag=Y.tag)(e2:Y'.h0=Y.h0)(e3:Y'.d0=Y.d0)(hw:Y.s.ws=0→Y'.s.ws=0∨Zak g g'):Cal X Y' (woken PP g g' w' a) w':=by
 unfold Cal at h⊢;rw[e1,e2,e3]
 rcases h with h | ⟨h1,h2,h3,h4,h5⟩
 ·rw[woken_running (Z51 h)]
  exact .inl h
 ·rw[h1]
  have go:Z8e true X.K (ZB X.k X.T X.n X.cs .w3) Y.h0 Y.d0 {a with status:=.running}:=ZaL h5 _
  rcases hw h2 with hw | hw
  ·rcases Z87 (w:=w') (g:=g) (g':=g') h3 h4 with e | e
   ·rw[e];exact .inr ⟨rfl,hw,h3,h4,h5⟩
   ·rw[e];exact .inl go
  ·rw[Z64 h3 h4 hw];exact .inl go
theorem Wrk.keep(h:Wrk X Y x d a w)(l:Rely X.K (Y.Z.O x) w w')(e1:Y'.ws x=Y.ws x)(e2:Y'.h x=Y.h x)(e3:Y'.Z.O x=Y.Z.O x)(e4:Y'.Z.RO x=Y.Z.RO x)(e5:Y'.Lb x=Y.Lb x)(e6:Y'.q (X.m0+x)=Y.q (X.m0+x))(hw:Y.ms=0→Y'.ms=0∨Zak g g'):Wrk X Y' x d (woken PP g g' w' a) w':=by
 have ek:X.kx Y'.Lb x=X.kx Y.Lb x:=by unfold Ph.kx;rw[e5]
 unfold Wrk at h⊢;rw[e1,e2,e3,e4,e6,ek]
 cases hs:Y.ws x with
 | no=>rw[hs]at h;exact h
 | mx c it =>
  rw[hs]at h;dsimp only at h⊢;obtain⟨hi,h⟩:=h;refine⟨hi,?_⟩
  rcases h with h | ⟨h1,h2,h3,h4,h5⟩
  ·rw[woken_running (h.running Z1J)]
   exact .inl (h.rely l)
  ·have go:∀w,WTh PP false X.K (Y.Z.RO x) (Z0x (X.kx Y.Lb x) [bot] c it) (Y.h x) (Y.Z.O x) d {a with status:=.running} w:=fun w=>.stop fun w1 _=>h5
   rcases hw h2 with hw | hw
   ·rcases Z87 (w:=w') (g:=g) (g':=g') h3 h4 with e | e
    ·rw[e];exact .inr ⟨h1,hw,h3,h4,h5⟩
    ·rw[e];exact .inl (go _)
   ·rw[Z64 h3 h4 hw];exact .inl (go _)
 | d1=>rw[hs]at h;dsimp only at h⊢;rw[woken_running (Z0a h)];exact h
 | d2=>rw[hs]at h;dsimp only at h⊢;rw[woken_running (Z0a h)];exact h
 | d3=>rw[hs]at h;dsimp only at h⊢;rw[woken_running (Z0a h)];exact h
 | d4=>rw[hs]at h;dsimp only at h⊢;rw[woken_running (Z0a h)];exact h
 | qt=>rw[hs]at h;dsimp only at h⊢;rw[woken_quitsD h];exact h
def Da.wk(Y:Da)(m0 x:Nat)(σ:WS)(O':Nat→Prop)(hx:Hh)(qx:Nat)(s:Sh)(mu ms r:Nat):Da:=
 {Y with ws:=upd Y.ws x σ,Z:={Y.Z with O:=upd Y.Z.O x O'},h:=upd Y.h x hx,q:=upd Y.q (m0+x) qx,s:=s,mu:=mu,ms:=ms,r:=r}
theorem Z0g{i j:Nat}{f:Goroutine→Goroutine}(h:i≠j): ((gs.map f).setIfInBounds i g')[j]?=(gs[j]?).map f:=by
 rw[Yq h,Array.getElem?_map]
theorem Z2u{i:Nat}{f:Goroutine→Goroutine}(h:i<gs.size): ((gs.map f).setIfInBounds i g')[i]?=some g':=by
 rw[Array.getElem?_setIfInBounds_self_of_lt (by simpa using h)]
theorem Ci.wstep(C:Ci X Y gs w t)(hok:PhOk X)(hx:x<Y.Z.j)(hg:gs[X.m0+x]?=some g){σ:WS}{hx':Hh}{qx:Nat}{s':Sh}{mu' ms' r':Nat}(hfar:∀c,c<w.heap.size→¬Y.Z.O x c→c≠X.K.Mu→c≠X.K.Wg→c≠X.K.Fd→w'.heap[c]?=w.heap[c]?)(hro:∀c,Y.Z.RO x c→w'.heap[c]?=w.heap[c]?)(hsize:w.heap.size≤w'.heap.size)(hos:OsLater w.os w'.os)(hout:w'.output=w.output)(sh':ShAt X.K w' s')(vmu':s'.mu=(mu':Int))(vms':s'.ms=(ms':Int))(tab':lk (((upd Y.ws x σ) 0).code (X.β 0)) (((upd Y.ws x σ) 1).code (X.β 1)) (((upd Y.ws x σ) 2).code (X.β 2)) mu' ms'=some r')(out':X.β x=false→σ.code (X.β x)=OUT)(len':s'.fd.length=X.n)(fd':∀y,y<X.n→s'.fd[y]?=some (X.β y&&pst (((upd Y.ws x σ) y).code (X.β y))))(mode':Mode (upd Y.ws x σ) Y.tag s'.wg s'.ws)(hev:EvT X.K {Y.Z with O:=upd Y.Z.O x (Grow (Y.Z.O x) w w')} x w'.heap.size (Deaf t (X.m0+x)) es)(hwk:(Y.ms=0→ms'=0∨Zak g g')∧(Y.s.ws=0→s'.ws=0∨Zak g g'))(hown:Wrk X (Y.wk X.m0 x σ (Grow (Y.Z.O x) w w') hx' qx s' mu' ms' r') x (deafBehind (Deaf t (X.m0+x)) es) g' w')(hsaid:(∀c it,σ ≠ .mx c it)→Said X.K Y.Z X.p0 (t++MemOp.ofEvents (X.m0+x) fn pos es) x):
  Ci X (Y.wk X.m0 x σ (Grow (Y.Z.O x) w w') hx' qx s' mu' ms' r') ((gs.map (woken PP g g' w')).setIfInBounds (X.m0+x) g') w' (t++MemOp.ofEvents (X.m0+x) fn pos es):=by
 have hlt:X.m0+x<gs.size:=(Y0.1 hg).1;have hm0:=hok.m0;have l1:=(Y0.1 C.sh.mu).1;have l2:=(Y0.1 C.sh.wg).1;have l3:=(Y0.1 C.sh.fd).1;have S:=C.sep;have hu:∀op∈MemOp.ofEvents (X.m0+x) fn pos es,op.g=X.m0+x:=fun op hop=>by obtain⟨e,_,rfl⟩:=Go.Conc.mem_ofEvents hop;rfl
 -- what others may rely on
 have hrel:∀y,y<Y.Z.j→y≠x→Rely X.K (Y.Z.O y) w w':=fun y hy hne=>⟨fun c hc=>by
  by_cases ho:Y.Z.O x c
  ·exact hro c (S.two x y c hx hy (Ne.symm hne) ho hc).1
  ·have:=S.shared y c hy hc
   exact hfar c (C.low y c hy hc) ho this.1 this.2.1 this.2.2.1,hsize,Z0W hos,fun _=>⟨s',sh'⟩⟩
 have hZO:∀y,y≠x→(upd Y.Z.O x (Grow (Y.Z.O x) w w')) y=Y.Z.O y:=fun y hy=>upd_ne _ _ hy;have hZx:(upd Y.Z.O x (Grow (Y.Z.O x) w w')) x=Grow (Y.Z.O x) w w':=upd_same _ _ _;have S':Sep X.K X.D {Y.Z with O:=upd Y.Z.O x (Grow (Y.Z.O x) w w')}:=by
  refine⟨fun i c hi hc=>?_,fun i i' c hi hi' hne hc hc'=>?_,fun c hc=>S.own c hc,S.fd⟩
  ·by_cases hix:i=x
   ·subst hix
    dsimp only at hc;rw[hZx]at hc
    rcases hc with hc | ⟨hc,_⟩
    ·exact S.shared i c hx hc
    ·refine⟨by omega,by omega,by omega,fun hd=>?_,fun ho=>?_⟩
     ·have:=hok.dlow c hd
      have:=C.grow;omega
     ·dsimp only at ho
      rw[C.om]at ho;have:=(C.lmp c ho).2.1;omega
   ·dsimp only at hc
    rw[hZO i hix]at hc;exact S.shared i c hi hc
  ·dsimp only at hc hc'
   by_cases hix:i=x
   ·subst hix
    rw[hZx]at hc;rw[hZO i' (Ne.symm hne)]at hc'
    rcases hc with hc | ⟨hc,_⟩
    ·exact S.two i i' c hi hi' hne hc hc'
    ·have:=C.low i' c hi' hc'
     omega
   ·rw[hZO i hix]at hc
    by_cases hix':i'=x
    ·subst hix'
     rw[hZx]at hc'
     rcases hc' with hc' | ⟨hc',_⟩
     ·exact S.two i i' c hi hi' hne hc hc'
     ·have:=C.low i c hi hc
      omega
    ·rw[hZO i' hix']at hc'
     exact S.two i i' c hi hi' hne hc hc'
 have kz:Zle Y.Z {Y.Z with O:=upd Y.Z.O x (Grow (Y.Z.O x) w w')} w.heap.size:=by
  refine⟨rfl,rfl,fun y c hc=>?_,fun y c hc=>?_,rfl,rfl⟩
  ·by_cases hy:y=x
   ·subst hy;dsimp only;rw[hZx];exact .inl hc
   ·dsimp only;rw[hZO y hy];exact hc
  ·by_cases hy:y=x
   ·subst hy
    dsimp only at hc;rw[hZx]at hc;exact hc.imp id fun h=>h.1
   ·dsimp only at hc
    rw[hZO y hy]at hc;exact .inl hc
 have hTI:TI X.K X.D {Y.Z with O:=upd Y.Z.O x (Grow (Y.Z.O x) w w')} w'.heap.size X.p0 Y.d0 (t++MemOp.ofEvents (X.m0+x) fn pos es):=by
  have:=C.ti.worker (B':=w'.heap.size) S' kz hsize hx (fn:=fn) (pos:=pos) (es:=es) rfl (by rw[C.zm];exact hev);rw[C.zm]at this;exact this
 have hdo:∀i,i≠X.m0+x→Deaf (t++MemOp.ofEvents (X.m0+x) fn pos es) i=Deaf t i:=fun i hi=>Deaf_other t (Ne.symm hi) _ hu;refine⟨Eq.trans (by simp) C.size,C.zm,C.zj,C.tok,fun i y h0 hi hy=>?_,?_,fun y hy=>?_,fun y hy=>?_,sh',vmu',vms',tab',fun y hy=>?_,len',fd',mode',fun y hy=>?_,fun y c hy hc=>?_,fun y c hy hc ho=>?_,fun y c hc=>?_,C.om,fun c hc=>?_,S',hTI,fun y hy hs=>?_,fun c hc h1 h2 h3=>?_,Yd C.grow hsize,OsLater.trans C.os hos,hout.trans C.outp⟩
 ·rw[Z0g (by omega)]at hy
  obtain⟨z,hz,rfl⟩:=Y3.1 hy;have hq:=C.old i z h0 hi hz;rw[woken_quitsD hq,hdo i (by omega)];show QuitsD PP (upd Y.q (X.m0+x) qx i) _ _;rw[upd_ne _ _ (by omega)];exact hq
 ·obtain⟨a,h0,ha⟩:=C.cal
  refine⟨_,by rw[Z0g (by omega),h0];rfl,ha.keep ⟨fun c hc=>hc.elim,hsize,Z0W hos,fun _=>⟨s',sh'⟩⟩ rfl rfl rfl hwk.2⟩
 ·by_cases hyx:y=x
  ·subst hyx
   refine⟨g',Z2u hlt,?_⟩;rw[Deaf_own];exact hown
  ·obtain⟨z,hz,hw⟩:=C.wrk y hy
   refine⟨_,by rw[Z0g (by omega),hz];rfl,?_⟩;rw[hdo _ (by omega)];exact hw.keep (hrel y hy hyx) (upd_ne _ _ hyx) (upd_ne _ _ hyx) (hZO y hyx) rfl rfl (upd_ne _ _ (by omega)) hwk.1
 ·have hy':Y.Z.j≤y:=hy
  show upd Y.ws x σ y = .no;rw[upd_ne _ _ (by omega)];exact C.no y hy'
 ·show (upd Y.ws x σ y).code _=OUT
  by_cases hyx:y=x
  ·subst hyx;rw[upd_same];exact out' hy
  ·rw[upd_ne _ _ hyx];exact C.out y hy
 ·obtain⟨b1,b2⟩:=C.bx y hy
  refine⟨?_,b2⟩
  by_cases hyx:y=x
  ·subst hyx
   exact b1.rely ⟨fun c hc=>hro c hc,hsize,Z0W hos,fun _=>⟨s',sh'⟩⟩
  ·have:=hrel y hy hyx
   exact b1.rely ⟨fun c hc=>this.keep c (C.ro y c hc),hsize,Z0W hos,fun _=>⟨s',sh'⟩⟩
 ·show c<w'.heap.size
  have hc':upd Y.Z.O x (Grow (Y.Z.O x) w w') y c:=hc
  by_cases hyx:y=x
  ·subst hyx
   rw[hZx]at hc'
   rcases hc' with hc' | ⟨_,hc'⟩
   ·have:=C.low y c hy hc'
    omega
   ·exact hc'
  ·rw[hZO y hyx]at hc'
   have:=C.low y c hy hc';omega
 ·have ho':upd Y.Z.O x (Grow (Y.Z.O x) w w') y c:=ho
  show Y.Z.RO y c
  by_cases hyx:y=x
  ·subst hyx
   rw[hZx]at ho'
   rcases ho' with ho' | ⟨ho',_⟩
   ·exact C.new y c hy hc ho'
   ·have:=C.grow
    omega
  ·rw[hZO y hyx]at ho'
   exact C.new y c hy hc ho'
 ·show upd Y.Z.O x (Grow (Y.Z.O x) w w') y c
  have hc':Y.Z.RO y c:=hc
  by_cases hyx:y=x
  ·subst hyx;rw[hZx];exact .inl (C.ro y c hc')
  ·rw[hZO y hyx];exact C.ro y c hc'
 ·have hc':curL Y.tag c:=hc
  obtain⟨a1,a2,z,TT,a3,a4⟩:=C.lmp c hc';refine⟨a1,by omega,z,TT,?_,a4⟩;have hn:¬Y.Z.O x c:=fun ho=>(S.shared x c hx ho).2.2.2.2 (by rw[C.om];exact hc');have:=S.own c (by rw[C.om];exact hc');rw[hfar c a2 hn this.1 this.2.1 this.2.2.1];exact a3
 ·have hs':∀c it,upd Y.ws x σ y ≠ .mx c it:=hs
  show Said X.K _ X.p0 _ y
  by_cases hyx:y=x
  ·subst hyx
   rw[upd_same]at hs';exact hsaid hs'
  ·rw[upd_ne _ _ hyx]at hs'
   have:=(C.said y hy hs').other (g:=X.m0+x) (by rw[C.zm];omega) hu;exact this
 ·have:w'.heap[c]?=w.heap[c]?:=by
   by_cases ho:Y.Z.O x c
   ·exact hro c (C.new x c hx hc ho)
   ·exact hfar c (Y8 hc C.grow) ho h1 h2 h3
  rw[this];exact C.kept c hc h1 h2 h3
end
end Lift
namespace Lift
open Go Go.Conc Ev
open Mx
open Go.ConcM (OsLater woken_by_blocked)
open Go.ConcN (upd upd_ne upd_same sumTo)
variable[Jk]
inductive DLst(b d:Nat):Array Event→Prop
 | nil:DLst b d #[]
 | rd (o:Nat):0<d→DLst b d #[⟨.cell ⟨b,o,none⟩,false,true⟩]
 | wr (o:Nat):0<d→DLst b d #[⟨.cell ⟨b,o,none⟩,true,true⟩]
 | rw (o:Nat):0<d→DLst b d #[⟨.cell ⟨b,o,none⟩,false,true⟩,⟨.cell ⟨b,o,none⟩,true,true⟩]
 | sem (o:Nat):DLst b d (semEvents ⟨b,o,none⟩)
section
variable{K:Cx}{Z:Zn}{x B d b:Nat}{es:Array Event}
theorem Z2t{a e:α}{l:List α}(h:(List.toArray (a::l))[n]?=some e): (n=0∧e=a)∨∃m,n=m+1∧l[m]?=some e:=by
 cases n with
 | zero=>exact .inl ⟨rfl,by simpa using h.symm⟩
 | succ m=>exact .inr ⟨m,rfl,by simpa using h⟩
theorem DLst.deaf(h:DLst b d es):deafBehind d es=d:=by
 cases h<;>first | rfl | (simp[semEvents,deafBehind])
theorem DLst.evT(h:DLst b d es)(hb:b=K.Mu∨b=K.Wg)(hl:b<B):EvT K Z x B d es:=by
 have cell:∀o wr,(MemAct.ofEvent ⟨.cell ⟨b,o,none⟩,wr,true⟩).low B∧(Event.mk (.cell ⟨b,o,none⟩) wr true).loc ≠ .mark (.release ⟨K.Wg,0,none⟩):=fun o wr=>⟨hl,by simp⟩;have tch:∀{o wr a},(MemAct.ofEvent ⟨.cell ⟨b,o,none⟩,wr,true⟩).touch?=some a→Z8b K a.loc∧a.kind = .atomic:=by
  intro o wr a h;simp only[MemAct.ofEvent,MemAct.touch?,Y4]at h;subst h;exact⟨⟨_,rfl,hb⟩,rfl⟩
 cases h with
 | nil=>intro n e h;simp at h
 | rd o hd =>
  intro n e h
  rcases Z2t h with⟨rfl,rfl⟩ | ⟨m,_,h⟩
  ·exact⟨(cell o false).1,(cell o false).2,fun a h1 _=>.inr ⟨(tch h1).1,(tch h1).2,by simpa[deafBehind] using hd⟩⟩
  ·cases h
 | wr o hd =>
  intro n e h
  rcases Z2t h with⟨rfl,rfl⟩ | ⟨m,_,h⟩
  ·exact⟨(cell o true).1,(cell o true).2,fun a h1 _=>.inr ⟨(tch h1).1,(tch h1).2,by simpa[deafBehind] using hd⟩⟩
  ·cases h
 | rw o hd =>
  intro n e h
  rcases Z2t h with⟨rfl,rfl⟩ | ⟨m,rfl,h⟩
  ·exact⟨(cell o false).1,(cell o false).2,fun a h1 _=>.inr ⟨(tch h1).1,(tch h1).2,by simpa[deafBehind] using hd⟩⟩
  ·cases m with
   | zero =>
    have h':some _=some e:=h;obtain rfl:=Y1 h';exact⟨(cell o true).1,(cell o true).2,fun a h1 _=>.inr ⟨(tch h1).1,(tch h1).2,by simpa[deafBehind] using hd⟩⟩
   | succ m=>cases h
 | sem o =>
  intro n e h;unfold semEvents at h⊢
  rcases Z2t h with⟨rfl,rfl⟩ | ⟨m,rfl,h⟩
  ·exact⟨trivial,by simp,fun a h1 _=>by simp[MemAct.ofEvent,MemAct.touch?]at h1⟩
  ·match m,h with
   | 0,h =>
    have h':some _=some e:=h;obtain rfl:=Y1 h';exact⟨(cell o false).1,(cell o false).2,fun a h1 _=>.inr ⟨(tch h1).1,(tch h1).2,by simp[deafBehind]⟩⟩
   | 1,h =>
    have h':some _=some e:=h;obtain rfl:=Y1 h';exact⟨(cell o true).1,(cell o true).2,fun a h1 _=>.inr ⟨(tch h1).1,(tch h1).2,by simp[deafBehind]⟩⟩
   | 2,h =>
    have h':some _=some e:=h;obtain rfl:=Y1 h';exact⟨trivial,by simp,fun a h1 _=>by simp[MemAct.ofEvent,MemAct.touch?]at h1⟩
   | m+3,h=>cases h
theorem DLst.noplain(h:DLst b d es):∀e∈es,∀a,(MemAct.ofEvent e).touch?=some a→a.kind ≠ .plain:=by
 cases h<;>intro e he a ha<;>simp[semEvents]at he
 ·subst he;simp[MemAct.ofEvent,MemAct.touch?]at ha;subst ha;simp
 ·subst he;simp[MemAct.ofEvent,MemAct.touch?]at ha;subst ha;simp
 ·rcases he with rfl | rfl<;>(simp[MemAct.ofEvent,MemAct.touch?]at ha;subst ha;simp)
 ·rcases he with rfl | rfl | rfl | rfl<;>simp[MemAct.ofEvent,MemAct.touch?]at ha<;>(subst ha;simp)
theorem DLst.evM(h:DLst b d es)(hb:b=K.Mu∨b=K.Wg)(hl:b<B): EvM K Om B es:=by
 intro e he;obtain⟨n,hn⟩:=Array.mem_iff_getElem?.1 he;obtain⟨h1,h2,h3⟩:=h.evT (K:=K) (Z:=⟨0,0,fun _ _=>False,fun _ _=>False,fun _=>False⟩) (x:=0) hb hl n e hn;refine⟨h1,h2,fun a ha hm=>?_⟩
 rcases h3 a ha hm with⟨hp,_⟩ | ⟨hd,hk,_⟩
 ·exact absurd hp (h.noplain e he a ha)
 ·exact .inr ⟨hd,by rw[hk];simp⟩
theorem Lst.evT{k:Wk}(h:Lst K k d es)(hMu:K.Mu<B)(hFd:K.Fd<B)(hx:k.lamp=x):EvT K Z x B d es:=by
 cases h with
 | nil=>exact DLst.nil.evT (b:=K.Mu) (.inl rfl) hMu
 | rd o hd=>exact(DLst.rd o hd).evT (.inl rfl) hMu
 | rw o hd=>exact(DLst.rw o hd).evT (.inl rfl) hMu
 | sem o=>exact(DLst.sem o).evT (.inl rfl) hMu
 | put =>
  intro n e h
  rcases Z2t h with⟨rfl,rfl⟩ | ⟨m,_,h⟩
  ·refine⟨hFd,by simp,fun a h1 _=>.inl ?_⟩
   simp only[MemAct.ofEvent,MemAct.touch?,Y4]at h1;subst h1;exact⟨rfl,.inr (by rw[hx])⟩
  ·cases h
theorem Zec{RO O:Nat→Prop}{w w':World}(hG:Guar K RO O w w' es)(hO:∀c,Grow O w w' c→Z.O x c)(hR:Z.RO x=RO)(hW:K.Mu<w'.heap.size): EvT K Z x w'.heap.size d es:=by
 intro n e h;have he:=hG.ev e (Yk h)
 rcases he with⟨a,wr,rfl,h1,h2,h3⟩ | ⟨c,wr,rfl,h1,h2,h3⟩ | rfl | rfl | rfl | rfl | ⟨p,hp,rfl⟩ | ⟨p,hp,rfl⟩
 ·refine⟨h2,by simp,fun b hb _=>.inl ?_⟩
  simp only[MemAct.ofEvent,MemAct.touch?,Y4]at hb;subst hb;exact⟨rfl,.inl ⟨a.block,rfl,hO _ h1,by rw[hR];exact h3⟩⟩
 ·have e0:MemAct.ofEvent ⟨.obj c,wr,false⟩ = .access ⟨.obj c,wr,false⟩:=by cases wr<;>rfl
  refine⟨by rw[e0];exact h2,by simp,fun b hb _=>.inl ?_⟩;rw[e0]at hb;simp only[MemAct.touch?,Y4]at hb;subst hb;exact⟨rfl,.inl ⟨c,rfl,hO _ h1,by rw[hR];exact h3⟩⟩
 ·exact⟨trivial,by simp,fun b hb _=>by simp[MemAct.ofEvent,MemAct.touch?]at hb⟩
 ·refine⟨trivial,by simp,fun b hb hm=>?_⟩
  simp[MemAct.ofEvent,MemAct.touch?]at hb;subst hb
  cases hm
 ·exact⟨trivial,by simp,fun b hb _=>by simp[MemAct.ofEvent,MemAct.touch?]at hb⟩
 ·exact⟨trivial,by simp,fun b hb _=>by simp[MemAct.ofEvent,MemAct.touch?]at hb⟩
 ·exact⟨by show p.block<_;rw[hp];exact hW,by simp,fun b hb _=>by simp[MemAct.ofEvent,MemAct.touch?]at hb⟩
 ·exact⟨by show p.block<_;rw[hp];exact hW,by simp,fun b hb _=>by simp[MemAct.ofEvent,MemAct.touch?]at hb⟩
end
noncomputable def pin(c mu:Nat):Bool:=Nat.beq c OUT||prs.any fun p=>Nat.beq p.1 c&&Nat.beq p.2 mu
noncomputable def pok(c mu:Nat):Bool:=match mvt c mu with
 | none=>false
 | some l=>l.all fun p=>(bif Nat.beq c 32 then pst p.1 else(bif pst c then pst p.1 else !pst p.1))&&Nat.ble p.2.2 2
theorem Zfq:tall (fun a b c mu _ _=>(pin a mu&&pin b mu&&pin c mu)&&(pok a mu&&pok b mu&&pok c mu))=true:=by kernel_rfl
section
variable{a b c mu ms r x:Nat}{f:Nat→Nat}
theorem Zhg(h:lk a b c mu ms=some r):pin a mu=true∧pok a mu=true:=by
 have h1:=Z9E Zfq h;simp only[Y5]at h1;obtain⟨g1,g2⟩:=h1
 rcases Zk8 a b c with⟨e1,e2,e3⟩ | ⟨e1,e2,e3⟩ | ⟨e1,e2,e3⟩ | ⟨e1,e2,e3⟩ | ⟨e1,e2,e3⟩ | ⟨e1,e2,e3⟩<;>rw[←e1,←e2,←e3]at g1 g2 <;>
  exact⟨by first | exact g1.1.1 | exact g1.1.2 | exact g1.2,by first | exact g2.1.1 | exact g2.1.2 | exact g2.2⟩
theorem ZkP(hx:x<3):∃y z,(∀v,lk ((upd f x v) 0) ((upd f x v) 1) ((upd f x v) 2) mu ms=lk v y z mu ms)∧(∀v mu' ms',lk ((upd f x v) 0) ((upd f x v) 1) ((upd f x v) 2) mu' ms'=lk v y z mu' ms'):=by
 have:x=0∨x=1∨x=2:=by omega
 rcases this with rfl | rfl | rfl
 ·refine⟨f 1,f 2,fun v=>?_,fun v mu' ms'=>?_⟩<;>rw[upd_same,upd_ne _ _ (by omega),upd_ne _ _ (by omega)]
 ·refine⟨f 0,f 2,fun v=>?_,fun v mu' ms'=>?_⟩<;>rw[upd_same,upd_ne _ _ (by omega),upd_ne _ _ (by omega),lk_1]
 ·refine⟨f 0,f 1,fun v=>?_,fun v mu' ms'=>?_⟩<;>rw[upd_same,upd_ne _ _ (by omega),upd_ne _ _ (by omega),lk_2,lk_1]
theorem Z22(f:Nat→α)(x:Nat): upd f x (f x)=f:=by
 funext y
 by_cases h:y=x
 ·subst h;rw[upd_same]
 ·rw[upd_ne _ _ h]
theorem Zds(hx:x<3)(h:lk (f 0) (f 1) (f 2) mu ms=some r):∃y z,lk (f x) y z mu ms=some r∧∀v mu' ms',lk ((upd f x v) 0) ((upd f x v) 1) ((upd f x v) 2) mu' ms'=lk v y z mu' ms':=by
 obtain⟨y,z,h1,h2⟩:=ZkP (f:=f) (mu:=mu) (ms:=ms) hx;have:=h1 (f x);rw[Z22]at this;exact⟨y,z,by rw[←this];exact h,h2⟩
theorem ZjI(h:pin c mu=true):c=OUT∨(c,mu)∈prs:=by
 unfold pin at h;simp only[Yo,Nat.beq_eq,List.any_eq_true,Y5]at h
 rcases h with h | ⟨⟨p,q⟩,h1,h2,h3⟩
 ·exact .inl h
 ·dsimp only at h2 h3
  subst h2 h3;exact .inr h1
theorem ZjJ{l:List (Nat×Nat×Nat)}{y mu' d:Nat}(h:pok c mu=true)(hl:mvt c mu=some l)(hm:(y,mu',d)∈l): (c=32→pst y=true)∧(c≠32→pst y=pst c)∧d≤2:=by
 unfold pok at h;rw[hl]at h;have:=Yl.1 h _ hm;dsimp only at this;rw[Y5,Nat.ble_eq]at this;obtain⟨this,hd⟩:=this
 by_cases hc:c=32
 ·subst hc
  exact⟨fun _=>this,fun e=>absurd rfl e,hd⟩
 ·have hb:Nat.beq c 32=false:=by
   cases hb:Nat.beq c 32
   ·rfl
   ·exact absurd (Nat.eq_of_beq_eq_true hb) hc
  rw[hb]at this;refine⟨fun e=>absurd e hc,fun _=>?_,hd⟩
  cases hp:pst c
  ·rw[hp]at this;simpa using this
  ·rw[hp]at this;exact this
end
theorem Z8x{β: Type}{r:α→α→Prop}{s:β→β→Prop}(hr:WellFounded r)(hs:WellFounded s): WellFounded (Prod.Lex r s):=⟨fun⟨a,b⟩=>Prod.lexAccessible (hr.apply a) (fun b=>hs.apply b) b⟩
def ltn(a b:Nat):Prop:=a<b
theorem Z7K:WellFounded ltn:=Nat.lt_wfRel.wf
abbrev Mt:=Nat×Nat×Nat×Hh×Hh×Hh×Nat×Nat
def Mr:Mt→Mt→Prop:=Prod.Lex ltn (Prod.Lex ltn (Prod.Lex ltn (Prod.Lex Hh.sub (Prod.Lex Hh.sub (Prod.Lex Hh.sub (Prod.Lex ltn ltn))))))
theorem Zkk:WellFounded Mr:=Z8x Z7K (Z8x Z7K (Z8x Z7K (Z8x Hh.wf (Z8x Hh.wf (Z8x Hh.wf (Z8x Z7K Z7K))))))
def flg:Option Goroutine→Nat
 | some g=>if g.status = .running then 1 else 0
 | none=>0
def fl(gs:Array Goroutine):Nat:=sumTo gs.size fun i=>flg gs[i]?
def mu1(X:Ph)(Y:Da):Nat:=phi X.n (vsum Y.ws) Y.tag+Y.r+((Y.ws 0).stg+(Y.ws 1).stg+(Y.ws 2).stg)
def mu2(Y:Da):Nat:=(Y.ws 0).spn+(Y.ws 1).spn+(Y.ws 2).spn
def mea(X:Ph)(Y:Da)(gs:Array Goroutine):Mt:=(mu1 X Y,mu2 Y,Y.h0,Y.h 0,Y.h 1,Y.h 2,sumTo gs.size Y.q,fl gs)
section
variable{X:Ph}{Y Y':Da}{gs gs':Array Goroutine}
theorem Zaz(h:mu1 X Y'<mu1 X Y):Mr (mea X Y' gs') (mea X Y gs):=.left _ _ h
theorem ZkW(h1:mu1 X Y'=mu1 X Y)(h:mu2 Y'<mu2 Y):Mr (mea X Y' gs') (mea X Y gs):=by
 unfold mea;rw[h1];exact .right _ (.left _ _ h)
theorem ZkX(h1:mu1 X Y'=mu1 X Y)(h2:mu2 Y'=mu2 Y)(h:Y'.h0<Y.h0):Mr (mea X Y' gs') (mea X Y gs):=by
 unfold mea;rw[h1,h2];exact .right _ (.right _ (.left _ _ h))
theorem ZkY{x:Nat}(hx:x<3)(h1:mu1 X Y'=mu1 X Y)(h2:mu2 Y'=mu2 Y)(h3:Y'.h0=Y.h0){z:Hh}(h4:Y'.h=upd Y.h x z)(h:Hh.sub z (Y.h x)): Mr (mea X Y' gs') (mea X Y gs):=by
 unfold mea;rw[h1,h2,h3,h4];have:x=0∨x=1∨x=2:=by omega
 rcases this with rfl | rfl | rfl
 ·rw[upd_same];exact .right _ (.right _ (.right _ (.left _ _ h)))
 ·rw[upd_same,upd_ne _ _ (by omega:(0:Nat)≠1)];exact .right _ (.right _ (.right _ (.right _ (.left _ _ h))))
 ·rw[upd_same,upd_ne _ _ (by omega:(0:Nat)≠2),upd_ne _ _ (by omega:(1:Nat)≠2)];exact .right _ (.right _ (.right _ (.right _ (.right _ (.left _ _ h)))))
theorem Zjv(h1:mu1 X Y'=mu1 X Y)(h2:mu2 Y'=mu2 Y)(h3:Y'.h0=Y.h0)(h4:Y'.h=Y.h)(h:sumTo gs'.size Y'.q<sumTo gs.size Y.q):Mr (mea X Y' gs') (mea X Y gs):=by
 unfold mea;rw[h1,h2,h3,h4];exact .right _ (.right _ (.right _ (.right _ (.right _ (.right _ (.left _ _ h))))))
end
end Lift
namespace Lift
open Go Go.Conc Ev
open Mx
open Go.ConcM (OsLater woken_by_blocked)
open Go.ConcN (upd upd_ne upd_same sumTo sumTo_upd)
variable[Jk]
section
variable{X:Ph}{Y:Da}{gs:Array Goroutine}{w:World}{t:Trace}{g:Goroutine}{x d:Nat}{sl:Option (Nat×Nat)}
theorem Z8W{tag:CT}(h:Z7d n tag): tagJ n tag≤n:=by
 cases tag<;>simp only[tagJ,Z7d]at h ⊢ <;> omega
theorem Ci.x3(C:Ci X Y gs w t)(hok:PhOk X)(hx:x<Y.Z.j):x<X.n∧x<3:=by
 have:=Z8W C.tok;rw[←C.zj]at this;have:=hok.n3;omega
def Z0D(X:Ph)(Y:Da)(gs:Array Goroutine)(w:World)(sl:Option (Nat×Nat))(t:Trace)(i:Nat):Prop:=
 ∃Y' gs' w' ops,runT PP (crowd gs w sl) i=(.next (crowd gs' w' sl),ops)∧Ci X Y' gs' w' (t++ops)∧Mr (mea X Y' gs') (mea X Y gs)
theorem Ci.quiet(C:Ci X Y gs w t)(hok:PhOk X)(hx:x<Y.Z.j)(hg:gs[X.m0+x]?=some g){Stop:(Nat→Prop)→Nat→Goroutine→World→Prop}{g':Goroutine}{w':World}{es:Array Event}{h':Hh}{c it:Nat}(hws:Y.ws x = .mx c it)(hgo:stepG PP false g w = .go g' w' es)(hG:Guar X.K (Y.Z.RO x) (Y.Z.O x) w w' es)(hh:WTh PP false X.K (Y.Z.RO x) Stop h' (Grow (Y.Z.O x) w w') (deafBehind (Deaf t (X.m0+x)) es) g' w')(hs:Hh.sub h' (Y.h x))(mk:∀d',WTh PP false X.K (Y.Z.RO x) Stop h' (Grow (Y.Z.O x) w w') d' g' w'→Wrk X (Y.wk X.m0 x (Y.ws x) (Grow (Y.Z.O x) w w') h' (Y.q (X.m0+x)) Y.s Y.mu Y.ms Y.r) x d' g' w'): Z0D X Y gs w sl t (X.m0+x):=by
 obtain⟨hxn,hx3⟩:=C.x3 hok hx;have hm0:=hok.m0;have S:=C.sep;have l1:=(Y0.1 C.sh.mu).1;have l2:=(Y0.1 C.sh.wg).1;have l3:=(Y0.1 C.sh.fd).1;have hn1:¬Y.Z.O x X.K.Mu:=fun h=>(S.shared x _ hx h).1 rfl;have hn2:¬Y.Z.O x X.K.Wg:=fun h=>(S.shared x _ hx h).2.1 rfl;have hn3:¬Y.Z.O x X.K.Fd:=fun h=>(S.shared x _ hx h).2.2.1 rfl;have hsh:ShAt X.K w' Y.s:=⟨by rw[hG.far _ l1 hn1];exact C.sh.mu,by rw[hG.far _ l2 hn2];exact C.sh.wg,by rw[hG.far _ l3 hn3];exact C.sh.fd⟩;have eu:upd Y.ws x (Y.ws x)=Y.ws:=Z22 _ _;have hrun:=runT_crowd_go (P:=PP) (sl:=sl) (i:=X.m0+x) hg (by rw[show (X.m0+x==0)=false by simp;omega];exact hgo);refine⟨_,_,w',_,hrun,C.wstep hok hx hg (σ:=Y.ws x) (hx':=h') (qx:=Y.q (X.m0+x)) (s':=Y.s) (mu':=Y.mu) (ms':=Y.ms) (r':=Y.r) (fun c h1 h2 _ _ _=>hG.far c h1 h2) hG.ro hG.size (by rw[hG.os];exact OsLater.refl _) hG.out hsh C.vmu C.vms (by rw[eu];exact C.tab) (C.out x) C.len (by rw[eu];exact C.fd) (by rw[eu];exact C.mode)
  (Zec hG (fun c hc=>by dsimp only;rw[upd_same];exact hc) rfl (Y8 l1 hG.size)) ⟨fun h=>.inl h,fun h=>.inl h⟩ (mk _ hh) (fun hs=>absurd hws (hs c it)),?_⟩
 exact ZkY hx3 (by simp only[mu1,Da.wk,eu]) (by simp only[mu2,Da.wk,eu]) rfl rfl hs
theorem Z9l{K:Cx}{Z:Zn}{es:Array Event}(hm:∀e∈es,Event.mute e=true): EvT K Z x B d es:=by
 intro n e h;have he:=hm e (Yk h);refine⟨low_mute he B,fun h=>?_,fun a ha=>by rw[touch_mute he]at ha;cases ha⟩;obtain⟨loc,wr,sy⟩:=e;dsimp only at h;subst h
 cases he
theorem Ci.slip(C:Ci X Y gs w t)(hok:PhOk X)(hx:x<Y.Z.j)(hg:gs[X.m0+x]?=some g){g':Goroutine}{es:Array Event}(hws:∀c it,Y.ws x ≠ .mx c it)(hm:∀e∈es,Event.mute e=true)(hgo:stepG PP false g w = .go g' w es)(hq:q<Y.q (X.m0+x))(mk:Wrk X (Y.wk X.m0 x (Y.ws x) (Y.Z.O x) (Y.h x) q Y.s Y.mu Y.ms Y.r) x (deafBehind (Deaf t (X.m0+x)) es) g' w): Z0D X Y gs w sl t (X.m0+x):=by
 obtain⟨hxn,hx3⟩:=C.x3 hok hx;have hm0:=hok.m0;have eu:upd Y.ws x (Y.ws x)=Y.ws:=Z22 _ _;have eg:Grow (Y.Z.O x) w w=Y.Z.O x:=Z0y _ _ _ rfl;have hlt:X.m0+x<gs.size:=(Y0.1 hg).1;have hrun:=runT_crowd_go (P:=PP) (sl:=sl) (i:=X.m0+x) hg (by rw[show (X.m0+x==0)=false by simp;omega];exact hgo);refine⟨_,_,w,_,hrun,C.wstep hok hx hg (σ:=Y.ws x) (hx':=Y.h x) (qx:=q) (s':=Y.s) (mu':=Y.mu) (ms':=Y.ms) (r':=Y.r) (fun c _ _ _ _ _=>rfl) (fun _ _=>rfl) (Ye _) (OsLater.refl _) rfl C.sh C.vmu C.vms (by rw[eu];exact C.tab) (C.out x) C.len (by rw[eu];exact C.fd) (by rw[eu];exact C.mode)
  (Z9l hm) ⟨fun h=>.inl h,fun h=>.inl h⟩ (by rw[eg];exact mk) (fun hs=>?_),?_⟩
 ·have:=C.said x hx hs
  exact this.same fun e he a ha=>by rw[touch_mute (hm e he)]at ha;cases ha
 ·refine Zjv (by simp only[mu1,Da.wk,eu]) (by simp only[mu2,Da.wk,eu]) rfl (by simp only[Da.wk,Z22]) ?_
  have h1:((gs.map (woken PP g g' w)).setIfInBounds (X.m0+x) g').size=gs.size:=by simp
  rw[h1];show sumTo gs.size (upd Y.q (X.m0+x) q)<_;have hsum:sumTo gs.size (upd Y.q (X.m0+x) q)+Y.q (X.m0+x)=sumTo gs.size Y.q+q:=by
   have:=sumTo_upd Y.q q id hlt;simpa using this
  omega
theorem Ci.leave(C:Ci X Y gs w t)(hok:PhOk X){i:Nat}(h0:0<i)(hi:i<X.m0)(hg:gs[i]?=some g)(hr:g.status = .running):Z0D X Y gs w sl t i:=by
 have hq:=C.old i g h0 hi hg;have hlt:i<gs.size:=(Y0.1 hg).1
 cases hqi:Y.q i with
 | zero=>rw[hqi]at hq;rw[hq.1]at hr;cases hr
 | succ k =>
  rw[hqi]at hq
  rcases hq with⟨hf,_⟩ | ⟨_,g',es,hm,hst,hq'⟩
  ·rw[hf]at hr;cases hr
  have hrun:=runT_crowd_go (P:=PP) (sl:=sl) (i:=i) hg (by rw[show (i==0)=false by simp;omega];exact hst w);have hu:∀op∈MemOp.ofEvents i g.frame.fn g.frame.place es,op.g=i:=fun op hop=>by obtain⟨e,_,rfl⟩:=Go.Conc.mem_ofEvents hop;rfl
  have hdo:∀y,y≠i→Deaf (t++MemOp.ofEvents i g.frame.fn g.frame.place es) y=Deaf t y:=fun y hy=>Deaf_other t (Ne.symm hy) _ hu;refine⟨{Y with q:=upd Y.q i k},_,w,_,hrun,?_,?_⟩
  ·refine {C with size:=Eq.trans (by simp) C.size,old:=fun y z hy0 hy hz=>?_,cal:=?_,wrk:=fun y hy=>?_,ti:=C.ti.leaver (by omega) (by rw[C.zm];omega) hm,said:=fun y hy hs=>(C.said y hy hs).other (g:=i) (by rw[C.zm];omega) hu}
   ·by_cases hyi:y=i
    ·subst hyi
     rw[Z2u hlt]at hz;obtain rfl:=Y1 hz;rw[Deaf_own];show QuitsD PP (upd Y.q y k y) _ _;rw[upd_same];exact hq'
    ·rw[Z0g (Ne.symm hyi)]at hz
     obtain⟨z',hz',rfl⟩:=Y3.1 hz;have hq2:=C.old y z' hy0 hy hz';rw[woken_quitsD hq2,hdo y hyi];show QuitsD PP (upd Y.q i k y) _ _;rw[upd_ne _ _ hyi];exact hq2
   ·obtain⟨a,ha,hc⟩:=C.cal
    exact⟨_,by rw[Z0g (by omega),ha];rfl,hc.keep (Rely.refl _ _ _) rfl rfl rfl fun h=>.inl h⟩
   ·obtain⟨z,hz,hw⟩:=C.wrk y hy
    refine⟨_,by rw[Z0g (by omega),hz];rfl,?_⟩;rw[hdo _ (by omega)];exact hw.keep (Rely.refl _ _ _) rfl rfl rfl rfl rfl (upd_ne _ _ (by omega)) fun h=>.inl h
  ·refine Zjv rfl rfl rfl rfl ?_
   have h1:((gs.map (woken PP g g' w)).setIfInBounds i g').size=gs.size:=by simp
   rw[h1];show sumTo gs.size (upd Y.q i k)<_;have hsum:sumTo gs.size (upd Y.q i k)+Y.q i=sumTo gs.size Y.q+k:=by
    have:=sumTo_upd Y.q k id hlt;simpa using this
   omega
end
end Lift
namespace Lift
open Go Go.Conc Ev
open Mx
open Go.ConcM (OsLater woken_by_blocked)
open Go.ConcN (upd upd_ne upd_same sumTo sumTo_upd)
variable[Jk]
section
variable{X:Ph}{Y:Da}{gs:Array Goroutine}{w:World}{t:Trace}{g:Goroutine}{x d c it:Nat}{sl:Option (Nat×Nat)}{ws:Nat→WS}{σ:WS}{tag:CT}{a b:Int}
def sum3(f:WS→Nat)(ws:Nat→WS):Nat:=f (ws 0)+f (ws 1)+f (ws 2)
theorem Z0O(f:WS→Nat)(hx:x<3):sum3 f (upd ws x σ)+f (ws x)=sum3 f ws+f σ:=by
 have:x=0∨x=1∨x=2:=by omega
 unfold sum3
 rcases this with rfl | rfl | rfl
 ·rw[upd_same,upd_ne _ _ (by omega:(1:Nat)≠0),upd_ne _ _ (by omega:(2:Nat)≠0)];omega
 ·rw[upd_same,upd_ne _ _ (by omega:(0:Nat)≠1),upd_ne _ _ (by omega:(2:Nat)≠1)];omega
 ·rw[upd_same,upd_ne _ _ (by omega:(0:Nat)≠2),upd_ne _ _ (by omega:(1:Nat)≠2)];omega
theorem ZeN{v v': Nat}(h:v'≤v)(tag:CT): phi n v' tag≤phi n v tag:=by
 cases tag<;>simp only[phi]<;>omega
theorem Z7j:vsum ws=sum3 WS.cnt ws:=rfl
theorem Z1f:mu1 X Y=phi X.n (sum3 WS.cnt Y.ws) Y.tag+Y.r+sum3 WS.stg Y.ws:=rfl
theorem Zg8:mu2 Y=sum3 WS.spn Y.ws:=rfl
theorem Mode.same(h:Mode ws tag a b)(hx:x<3)(h1:(∃c it,ws x = .mx c it)∨ws x = .d1)(h2:(∃c it,σ = .mx c it)∨σ = .d1):Mode (upd ws x σ) tag a b:=by
 have c1:(ws x).cnt=1:=by rcases h1 with⟨c,it,e⟩ | e<;>rw[e]<;>rfl
 have c2:σ.cnt=1:=by rcases h2 with⟨c,it,e⟩ | e<;>rw[e]<;>rfl
 have hv:vsum (upd ws x σ)=vsum ws:=by
  have:=Z0O (ws:=ws) (σ:=σ) WS.cnt hx;rw[Z7j,Z7j];omega
 have hall:(∀y,ws y = .no∨(∃c it,ws y = .mx c it)∨ws y = .d1∨ws y = .qt)→∀y,upd ws x σ y = .no∨(∃c it,upd ws x σ y = .mx c it)∨upd ws x σ y = .d1∨upd ws x σ y = .qt:=by
  intro h y
  by_cases hy:y=x
  ·subst hy
   rw[upd_same]
   rcases h2 with e | e
   ·exact .inr (.inl e)
   ·exact .inr (.inr (.inl e))
  ·rw[upd_ne _ _ hy];exact h y
 have bad:∀{q:Prop},(ws x = .no∨ws x = .qt)→q:=by
  intro q h
  rcases h with e | e<;>rw[e]at c1<;>cases c1
 cases h with
 | opn h1 h2 h3 =>
  have:=Mode.opn (ws:=upd ws x σ) h1 (hall h2) (fun v e=>by rw[hv];exact h3 v e);rw[hv]at this;exact this
 | reg h1 h2 h3 =>
  have:=Mode.reg (ws:=upd ws x σ) h1 (hall h2) (by rw[hv];exact h3);rw[hv]at this;exact this
 | last L h1 h2 h3 h4 =>
  by_cases hL:x=L
  ·subst hL
   rcases h3 with e | e<;>rw[e]at c1<;>cases c1
  ·exact bad (h4 x hL)
 | last4 L h1 h2 h3 h4 =>
  by_cases hL:x=L
  ·subst hL
   rw[h3]at c1;cases c1
  ·exact bad (h4 x hL)
 | sema h1 h2=>exact bad (h2 x)
 | fin h1 h2=>exact bad (h2 x)
theorem Ze0(β:Nat→Bool):(fun y=>((upd ws x σ) y).code (β y))=upd (fun y=>(ws y).code (β y)) x (σ.code (β x)):=by
 funext y
 by_cases hy:y=x
 ·subst hy;rw[upd_same,upd_same]
 ·rw[upd_ne _ _ hy,upd_ne _ _ hy]
theorem Ci.tab0(C:Ci X Y gs w t)(hx:x<3):∃y z,lk ((Y.ws x).code (X.β x)) y z Y.mu Y.ms=some Y.r∧∀σ mu' ms',lk (((upd Y.ws x σ) 0).code (X.β 0)) (((upd Y.ws x σ) 1).code (X.β 1)) (((upd Y.ws x σ) 2).code (X.β 2)) mu' ms'=lk (σ.code (X.β x)) y z mu' ms':=by
 obtain⟨y,z,h1,h2⟩:=Zds (f:=fun y=>(Y.ws y).code (X.β y)) hx C.tab;refine⟨y,z,h1,fun σ mu' ms'=>?_⟩;have:=h2 (σ.code (X.β x)) mu' ms';rw[←Ze0]at this;exact this
theorem Ci.tabS(C:Ci X Y gs w t)(h:σ.code (X.β x)=(Y.ws x).code (X.β x)):(∀y,((upd Y.ws x σ) y).code (X.β y)=(Y.ws y).code (X.β y)):=by
 intro y
 by_cases hy:y=x
 ·subst hy;rw[upd_same];exact h
 ·rw[upd_ne _ _ hy]
theorem Z9u{i:Nat}{g':Goroutine}(hg:gs[i]?=some g)(hr:g.status = .running)(hb:g'.status = .blocked): fl ((gs.map (woken PP g g' w)).setIfInBounds i g')<fl gs:=by
 have hlt:i<gs.size:=(Y0.1 hg).1;have e1:gs.map (woken PP g g' w)=gs:=by
  have:woken PP g g' w=id:=by funext o;exact woken_by_blocked hb
  rw[this,Array.map_id]
 rw[e1];unfold fl;have hs:(gs.setIfInBounds i g').size=gs.size:=by simp
 rw[hs];have e2:(fun j=>flg (gs.setIfInBounds i g')[j]?)=upd (fun j=>flg gs[j]?) i 0:=by
  funext j
  by_cases hj:j=i
  ·subst hj
   rw[upd_same,Array.getElem?_setIfInBounds_self_of_lt hlt];simp[flg,hb]
  ·rw[upd_ne _ _ hj,Yq (Ne.symm hj)]
 rw[e2];have hsum:sumTo gs.size (upd (fun j=>flg gs[j]?) i 0)+flg gs[i]?=sumTo gs.size (fun j=>flg gs[j]?)+0:=by
  have:=sumTo_upd (fun j=>flg gs[j]?) 0 id hlt;simpa using this
 rw[hg]at hsum;simp only[flg,hr,if_true]at hsum;simp only[flg]at hsum⊢;omega
theorem Zg7{Y':Da}{gs':Array Goroutine}(h1:mu1 X Y'=mu1 X Y)(h2:mu2 Y'=mu2 Y)(h3:Y'.h0=Y.h0)(h4:Y'.h=Y.h)(h5:Y'.q=Y.q)(hs:gs'.size=gs.size)(h:fl gs'<fl gs): Mr (mea X Y' gs') (mea X Y gs):=by
 unfold mea;rw[h1,h2,h3,h4,h5,hs];exact .right _ (.right _ (.right _ (.right _ (.right _ (.right _ (.right _ h))))))
theorem Ci.move(C:Ci X Y gs w t)(hok:PhOk X)(hx:x<Y.Z.j)(hg:gs[X.m0+x]?=some g)(hws:Y.ws x = .mx c it)(hi:itOk c it)(hc:c≠OUT)(hat:Z0x (X.kx Y.Lb x) [bot] c it (Y.Z.O x) (Deaf t (X.m0+x)) g w):Z0D X Y gs w sl t (X.m0+x):=by
 obtain⟨hxn,hx3⟩:=C.x3 hok hx;have hm0:=hok.m0;have S:=C.sep;obtain⟨y,z,ht1,ht2⟩:=C.tab0 hx3;have hcode:(Y.ws x).code (X.β x)=c:=by rw[hws];rfl
 rw[hcode]at ht1;obtain⟨hpin,hpok⟩:=Zhg ht1;obtain⟨_,_,hms,_⟩:=Z4n ht1;obtain⟨hbx,hoff⟩:=C.bx x hx;have hβ:X.β x=true:=by
  cases hb:X.β x
  ·have:=C.out x hb
   rw[hcode]at this;exact absurd this hc
  ·rfl
 have hd:Deaf t (X.m0+x)=dpc c:=hat.1;have hgr:g.status = .running:=Z1J _ _ _ _ hat
 have H:Prem X.K (X.kx Y.Lb x) (Y.Z.O x) c it Y.s Y.mu Y.ms w:=⟨hok.ok _ _ hxn,C.sh,⟨hbx.found,hbx.lamp,C.ro _ _ hbx.ob,C.ro _ _ hbx.ol⟩,C.vmu,C.vms,hms,hi,by rw[C.len];exact hok.kn.symm,ZkQ ht1⟩;have l1:=(Y0.1 C.sh.mu).1;have l3:=(Y0.1 C.sh.fd).1
 rcases moves (RO:=Y.Z.RO x) ((ZjI hpin).resolve_left hc) H hoff hat with⟨hs1,hm0',hgo⟩ | ⟨l,x',mu',dd,it',g',w',es,hl,hm,hdd,hgo,hE,hL,hi',hsp,hWT,hwk⟩
 ·-- it waits
  have eu:upd Y.ws x (Y.ws x)=Y.ws:=Z22 _ _;have eg:Grow (Y.Z.O x) w w=Y.Z.O x:=Z0y _ _ _ rfl;have hrun:=runT_crowd_go (P:=PP) (sl:=sl) (i:=X.m0+x) hg (by rw[show (X.m0+x==0)=false by simp;omega];exact hgo);refine⟨_,_,w,_,hrun,C.wstep hok hx hg (σ:=Y.ws x) (hx':=Y.h x) (qx:=Y.q (X.m0+x)) (s':=Y.s) (mu':=Y.mu) (ms':=Y.ms) (r':=Y.r) (fun c _ _ _ _ _=>rfl) (fun _ _=>rfl) (Ye _) (OsLater.refl _) rfl C.sh C.vmu C.vms (by rw[eu];exact C.tab) (C.out x) C.len (by rw[eu];exact C.fd) (by rw[eu];exact C.mode)
   (Z9l (by simp)) ⟨fun h=>.inl h,fun h=>.inl h⟩ ?_ (fun hs=>absurd hws (hs c it)),?_⟩
  ·unfold Wrk Da.wk
   dsimp only;rw[upd_same,hws];dsimp only;rw[upd_same,eg];refine⟨hi,.inr ⟨hs1,hm0',rfl,?_,?_⟩⟩
   ·obtain⟨_,f,fs,wst,q,_,rfl⟩:=hat
    rfl
   ·obtain⟨h1,f,fs,wst,q,h2,rfl⟩:=hat
    exact⟨h1,f,fs,wst,q,h2,rfl⟩
  ·exact Zg7 (by simp only[mu1,Da.wk,eu]) (by simp only[mu2,Da.wk,eu]) rfl (by simp only[Da.wk,Z22]) (by simp only[Da.wk,Z22]) (by simp) (Z9u hg hgr rfl)
 ·obtain⟨h',hh⟩:=hWT.height
  obtain⟨r',hr1,hr2⟩:=Zhh ht1 hl hm hdd;obtain⟨p1,p2,p3⟩:=ZjJ hpok hl hm;have eg:Grow (Y.Z.O x) w w'=Y.Z.O x:=Z0y _ _ _ hE.size;have hgr':g'.status = .running:=hh.running Z1J;have hrun:=runT_crowd_go (P:=PP) (sl:=sl) (i:=X.m0+x) hg (by rw[show (X.m0+x==0)=false by simp;omega];exact hgo);have e32:(32:Nat)=32:=rfl;refine⟨_,_,w',_,hrun,C.wstep hok hx hg (σ:=.mx x' it') (hx':=h') (qx:=Y.q (X.m0+x)) (s':=_) (mu':=mu') (ms':=sms Y.ms dd) (r':=r') (fun c _ _ h1 h2 h3=>hE.same c h1 h2 h3) (fun c hc=>?_) (Nat.le_of_eq hE.size.symm) hE.os hE.out hE.sh rfl rfl (by rw[ht2];exact hr1) (fun h=>by rw[hβ]at h;cases h) ?_ (fun y hy=>?_) (C.mode.same hx3 (.inl ⟨c,it,hws⟩) (.inl ⟨x',it',rfl⟩))
   (by rw[hd];exact hL.evT (by rw[hE.size];exact l1) (by rw[hE.size];exact l3) rfl) ⟨fun h0=>?_,fun h=>.inl h⟩ ?_ (fun hs=>absurd rfl (hs x' it')),?_⟩
  ·have:=S.shared x c hx (C.ro x c hc)
   exact hE.same c this.1 this.2.1 this.2.2.1
  ·dsimp only
   split
   ·rw[List.length_set];exact C.len
   ·exact C.len
  ·dsimp only
   have hf:=C.fd y hy
   by_cases hyx:y=x
   ·subst hyx
    rw[hcode,hβ]at hf;rw[upd_same,hβ];show _=some (true&&pst x')
    split
    ·rename_i h32
     rw[p1 h32];show (Y.s.fd.set y true)[y]?=_;have hlen:y<Y.s.fd.length:=by rw[C.len];exact hy
     rw[List.getElem?_set_self hlen]
     rfl
    ·rename_i h32
     rw[p2 h32];exact hf
   ·rw[upd_ne _ _ hyx]
    split
    ·show (Y.s.fd.set x true)[y]?=_
     rw[List.getElem?_set_ne (Ne.symm hyx)];exact hf
    ·exact hf
  ·by_cases h2:dd=2
   ·exact .inr ⟨hwk h2,hgr'⟩
   ·refine .inl ?_
    unfold sms;omega
  ·unfold Wrk Da.wk
   dsimp only;rw[upd_same];dsimp only;rw[upd_same,upd_same,eg,hd,hL.deaf];exact⟨hi',.inl hh⟩
  ·have s1:=Z0O (ws:=Y.ws) (σ:=.mx x' it') WS.cnt hx3
   have s2:=Z0O (ws:=Y.ws) (σ:=.mx x' it') WS.stg hx3;have s3:=Z0O (ws:=Y.ws) (σ:=.mx x' it') WS.spn hx3;rw[hws]at s1 s2 s3;simp only[WS.cnt,WS.stg,WS.spn]at s1 s2 s3
   rcases hr2 with hr2 | ⟨hr2,hr3⟩
   ·refine Zaz ?_
    rw[Z1f,Z1f];show phi X.n (sum3 WS.cnt (upd Y.ws x (.mx x' it'))) Y.tag+r'+sum3 WS.stg (upd Y.ws x (.mx x' it'))<_;rw[show sum3 WS.cnt (upd Y.ws x (.mx x' it'))=sum3 WS.cnt Y.ws by simp only[WS.cnt]at *;omega];omega
   ·refine ZkW ?_ ?_
    ·rw[Z1f,Z1f]
     show phi X.n (sum3 WS.cnt (upd Y.ws x (.mx x' it'))) Y.tag+r'+sum3 WS.stg (upd Y.ws x (.mx x' it'))=_;rw[show sum3 WS.cnt (upd Y.ws x (.mx x' it'))=sum3 WS.cnt Y.ws by simp only[WS.cnt]at *;omega];omega
    ·rw[Zg8,Zg8]
     show sum3 WS.spn (upd Y.ws x (.mx x' it'))<_;have:=hsp hr3;omega
end
end Lift
namespace Lift
open Go Go.Conc Ev
open Mx
open Go.ConcM (OsLater woken_by_blocked quitsD_running)
open Go.ConcN (upd upd_ne upd_same sumTo sumTo_upd)
variable[Jk]
section
variable{X:Ph}{Y:Da}{gs:Array Goroutine}{w w':World}{t:Trace}{g g':Goroutine}{x d c it:Nat}{sl:Option (Nat×Nat)}{ws:Nat→WS}{σ:WS}{tag:CT}{a b:Int}{es:Array Event}
theorem Ci.group(C:Ci X Y gs w t)(hok:PhOk X)(hx:x<Y.Z.j)(hg:gs[X.m0+x]?=some g){s':Sh}(hgo:stepG PP false g w = .go g' w' es)(hE:Eff X.K w w' s')(e1:s'.mu=Y.s.mu)(e2:s'.ms=Y.s.ms)(e3:s'.fd=Y.s.fd)(hcode:σ.code (X.β x)=(Y.ws x).code (X.β x))(hmode:Mode (upd Y.ws x σ) Y.tag s'.wg s'.ws)(hev:∀Z:Zn,EvT X.K Z x w'.heap.size (Deaf t (X.m0+x)) es)(hwk:Y.s.ws=0→s'.ws=0∨Zak g g')(hown:∀Y',Y'.ws x=σ→Y'.q (X.m0+x)=q→Y'.Lb=Y.Lb→Wrk X Y' x (deafBehind (Deaf t (X.m0+x)) es) g' w')(hsaid:Said X.K Y.Z X.p0 (t++MemOp.ofEvents (X.m0+x) g.frame.fn g.frame.place es) x)(hcnt:σ.cnt≤(Y.ws x).cnt)(hstg:σ.stg<(Y.ws x).stg): Z0D X Y gs w sl t (X.m0+x):=by
 obtain⟨hxn,hx3⟩:=C.x3 hok hx;have hm0:=hok.m0;have S:=C.sep;have hT:=C.tabS (σ:=σ) hcode;have hrun:=runT_crowd_go (P:=PP) (sl:=sl) (i:=X.m0+x) hg (by rw[show (X.m0+x==0)=false by simp;omega];exact hgo);refine⟨_,_,w',_,hrun,C.wstep hok hx hg (σ:=σ) (hx':=Y.h x) (qx:=q) (s':=s') (mu':=Y.mu) (ms':=Y.ms) (r':=Y.r) (fun c _ _ h1 h2 h3=>hE.same c h1 h2 h3) (fun c hc=>?_) (Nat.le_of_eq hE.size.symm) hE.os hE.out hE.sh (by rw[e1];exact C.vmu) (by rw[e2];exact C.vms) (by rw[hT,hT,hT];exact C.tab) (fun h=>by rw[hcode];exact C.out x h) (by rw[e3];exact C.len) (fun y hy=>by rw[hT,e3];exact C.fd y hy) hmode
  (hev _) ⟨fun h=>.inl h,hwk⟩ (hown _ (upd_same _ _ _) (upd_same _ _ _) rfl) (fun _=>hsaid),?_⟩
 ·have:=S.shared x c hx (C.ro x c hc)
  exact hE.same c this.1 this.2.1 this.2.2.1
 ·refine Zaz ?_
  have s1:=Z0O (ws:=Y.ws) (σ:=σ) WS.cnt hx3;have s2:=Z0O (ws:=Y.ws) (σ:=σ) WS.stg hx3;rw[Z1f,Z1f];show phi X.n (sum3 WS.cnt (upd Y.ws x σ)) Y.tag+Y.r+sum3 WS.stg (upd Y.ws x σ)<_;have:=ZeN (n:=X.n) (show sum3 WS.cnt (upd Y.ws x σ)≤sum3 WS.cnt Y.ws by omega) Y.tag;omega
theorem DLst.saidK(C:Ci X Y gs w t)(hx:x<Y.Z.j)(hs:∀c it,Y.ws x ≠ .mx c it){bk dd:Nat}(h:DLst bk dd es): Said X.K Y.Z X.p0 (t++MemOp.ofEvents (X.m0+x) fn pos es) x:=
 (C.said x hx hs).same h.noplain
theorem Z8Z(C:Ci X Y gs w t)(hok:PhOk X):vsum Y.ws≤Y.Z.j:=by
 have h3:Y.Z.j≤3:=by
  have:=Z8W C.tok;rw[←C.zj]at this;have:=hok.n3;omega
 have c1:∀y,(Y.ws y).cnt≤1:=fun y=>by cases Y.ws y<;>simp[WS.cnt]
 have c0:∀y,Y.Z.j≤y→(Y.ws y).cnt=0:=fun y hy=>by rw[C.no y hy];rfl
 have a0:=c1 0;have a1:=c1 1;have a2:=c1 2;unfold vsum;have:Y.Z.j=0∨Y.Z.j=1∨Y.Z.j=2∨Y.Z.j=3:=by omega
 rcases this with e | e | e | e
 ·have:=c0 0 (by omega);have:=c0 1 (by omega);have:=c0 2 (by omega);omega
 ·have:=c0 1 (by omega);have:=c0 2 (by omega);omega
 ·have:=c0 2 (by omega);omega
 ·omega
theorem Z86(C:Ci X Y gs w t)(hok:PhOk X):vsum Y.ws+pend Y.tag≤3:=by
 have h1:=Z8Z C hok;have h2:=C.zj;have h3:=C.tok;have h4:=hok.n3
 cases ht:Y.tag<;>rw[ht]at h2 h3<;>simp only[tagJ,Z7d,pend]at h2 h3 ⊢ <;> omega
theorem Zki(h:ws x = .d1)(hx:x<3):1≤vsum ws:=by
 have:x=0∨x=1∨x=2:=by omega
 unfold vsum
 rcases this with rfl | rfl | rfl<;>rw[h]<;>simp only[WS.cnt]<;>omega
theorem Mode.at1(h:Mode ws tag a b)(hx:x<3)(h1:ws x = .d1)(h3:vsum ws+pend tag≤3)(hno:∀y,3≤y→ws y = .no):
  b=0∧∃n e:Nat,1≤n∧n≤3∧e≤1∧a=(n:Int)*4294967296+e∧(n=1∧e=1→Mode (upd ws x .d2) tag (((n-1:Nat):Int)*4294967296+e) 0)∧(¬(n=1∧e=1)→Mode (upd ws x .qt) tag (((n-1:Nat):Int)*4294967296+e) 0):=by
 have hv:=Zki h1 hx;have vq:vsum (upd ws x .qt)=vsum ws-1:=by
  have:=Z0O (ws:=ws) (σ:=.qt) WS.cnt hx;rw[h1]at this;simp only[WS.cnt]at this;rw[Z7j,Z7j];omega
 have hall:(∀y,ws y = .no∨(∃c it,ws y = .mx c it)∨ws y = .d1∨ws y = .qt)→∀y,upd ws x .qt y = .no∨(∃c it,upd ws x .qt y = .mx c it)∨upd ws x .qt y = .d1∨upd ws x .qt y = .qt:=by
  intro h y
  by_cases hy:y=x
  ·subst hy
   rw[upd_same];exact .inr (.inr (.inr rfl))
  ·rw[upd_ne _ _ hy];exact h y
 have bad:∀{q:Prop},(ws x = .no∨ws x = .qt)→q:=by
  intro q h
  rcases h with e | e<;>rw[e]at h1<;>cases h1
 cases h with
 | opn k1 k2 k3 =>
  refine⟨rfl,vsum ws+pend tag,0,by omega,h3,by omega,by simp,by omega,fun _=>?_⟩;have:=Mode.opn (ws:=upd ws x .qt) k1 (hall k2) (fun v e=>by rw[vq];have:=k3 v e;omega);rw[vq]at this;have e:vsum ws+pend tag-1=vsum ws-1+pend tag:=by omega
  rw[e];simpa using this
 | reg k1 k2 k3 =>
  refine⟨rfl,vsum ws,1,hv,by omega,by omega,by simp,fun h=>?_,fun h=>?_⟩
  ·rw[h.1]
   refine Mode.last x k1 hx (.inl (upd_same _ _ _)) fun y hy=>?_;rw[upd_ne _ _ hy]
   rcases Nat.lt_or_ge y 3 with hy3 | hy3
   ·have hc:(ws y).cnt=0:=by
     have h:=h.1;unfold vsum at h;have cx:(ws x).cnt=1:=by rw[h1];rfl
     have e1:x=0∨x=1∨x=2:=by omega
     have e2:y=0∨y=1∨y=2:=by omega
     rcases e1 with rfl | rfl | rfl<;>rcases e2 with rfl | rfl | rfl<;>omega
    rcases k2 y with e | ⟨c,it,e⟩ | e | e
    ·exact .inl e
    ·rw[e]at hc;cases hc
    ·rw[e]at hc;cases hc
    ·exact .inr e
   ·exact .inl (hno y hy3)
  ·have:=Mode.reg (ws:=upd ws x .qt) k1 (hall k2) (by rw[vq];omega)
   rw[vq]at this;exact this
 | last L k1 k2 k3 k4 =>
  by_cases hL:x=L
  ·subst hL
   rcases k3 with e | e<;>rw[e]at h1<;>cases h1
  ·exact bad (k4 x hL)
 | last4 L k1 k2 k3 k4 =>
  by_cases hL:x=L
  ·subst hL
   rw[k3]at h1;cases h1
  ·exact bad (k4 x hL)
 | sema k1 k2=>exact bad (k2 x)
 | fin k1 k2=>exact bad (k2 x)
theorem Ci.no3(C:Ci X Y gs w t)(hok:PhOk X):∀y,3≤y→Y.ws y = .no:=fun y hy=>C.no y (by
 have:=Z8W C.tok;rw[←C.zj]at this;have:=hok.n3;omega)
theorem Ci.word(C:Ci X Y gs w t)(hok:PhOk X)(hx:x<Y.Z.j)(hg:gs[X.m0+x]?=some g)(hws:Y.ws x = .mx OUT it)(hat:Z0x (X.kx Y.Lb x) [bot] OUT it (Y.Z.O x) (Deaf t (X.m0+x)) g w):Z0D X Y gs w sl t (X.m0+x):=by
 obtain⟨hxn,hx3⟩:=C.x3 hok hx;obtain⟨hd,g',hgo,q,hq⟩:=Zi0 (hok.ok _ _ hxn) C.sh hat
 have l2:=(Y0.1 C.sh.wg).1;refine C.group hok hx hg (σ:=.d1) (q:=q) hgo (Eff.nil C.sh (OsLater.refl _) rfl rfl) rfl rfl rfl (by rw[hws];rfl) (C.mode.same hx3 (.inl ⟨OUT,it,hws⟩) (.inr rfl)) (fun Z=>?_) (fun h=>.inl h) (fun Y' h1 h2 h3=>?_) ?_ (by rw[hws];exact Ye 1) (by rw[hws];show (5:Nat)<7;decide)
 ·intro n e he
  rcases Z2t he with⟨_,rfl⟩ | ⟨m,_,h⟩
  ·exact⟨l2,by simp,fun a ha _=>by simp[MemAct.ofEvent,MemAct.touch?]at ha⟩
  ·cases h
 ·unfold Wrk
  rw[h1,h2,h3,hd];exact hq
 ·have:=Said.now (K:=X.K) (Z:=Y.Z) (x:=x) C.ti.start (fn:=g.frame.fn) (pos:=g.frame.place) (by rw[C.zm];exact hd)
  rw[C.zm]at this;exact this
theorem Ci.done1(C:Ci X Y gs w t)(hok:PhOk X)(hx:x<Y.Z.j)(hg:gs[X.m0+x]?=some g)(hws:Y.ws x = .d1)(hat:Z1h (X.kx Y.Lb x) [bot] 1 (Deaf t (X.m0+x)) g):Z0D X Y gs w sl t (X.m0+x):=by
 obtain⟨hxn,hx3⟩:=C.x3 hok hx;obtain⟨hb0,n,e,h1,h3,he,ha,m1,m2⟩:=C.mode.at1 hx3 hws (Z86 C hok) (C.no3 hok);obtain⟨hd,g',w',hgo,hE,hr⟩:=ZhW (hok.ok _ _ hxn) C.sh hat h1 h3 he ha;have l2:=(Y0.1 C.sh.wg).1;have hL:DLst X.K.Wg 1 #[⟨.cell ⟨X.K.Wg,0,none⟩,false,true⟩,⟨.cell ⟨X.K.Wg,0,none⟩,true,true⟩]:=.rw 0 Nat.one_pos;have hs0:∀c it,Y.ws x ≠ .mx c it:=fun c it h=>by rw[hws]at h;cases h
 by_cases hc:n=1∧e=1
 ·rw[if_pos hc]at hr
  obtain⟨q,hq⟩:=hr;refine C.group hok hx hg (σ:=.d2) (q:=q) hgo hE rfl rfl rfl (by rw[hws];rfl) (by rw[hb0];exact m1 hc) (fun Z=>by rw[hd,hE.size];exact hL.evT (.inr rfl) l2) (fun h=>.inl h) (fun Y' k1 k2 k3=>?_) (hL.saidK C hx hs0) (by rw[hws];decide) (by rw[hws];decide);unfold Wrk;rw[k1,k2,k3,hd,hL.deaf];exact hq
 ·rw[if_neg hc]at hr
  obtain⟨q,hq⟩:=hr;refine C.group hok hx hg (σ:=.qt) (q:=q) hgo hE rfl rfl rfl (by rw[hws];rfl) (by rw[hb0];exact m2 hc) (fun Z=>by rw[hd,hE.size];exact hL.evT (.inr rfl) l2) (fun h=>.inl h) (fun Y' k1 k2 k3=>?_) (hL.saidK C hx hs0) (by rw[hws];decide) (by rw[hws];decide);unfold Wrk;rw[k1,k2,hd,hL.deaf];exact hq
theorem Mode.at23(h:Mode ws tag a b)(hx:x<3)(h1:ws x = .d2∨ws x = .d3):a=1∧b=0∧Z7H tag∧∀y,y≠x→ws y = .no∨ws y = .qt:=by
 have bad:∀{q:Prop},(ws x = .no∨(∃c it,ws x = .mx c it)∨ws x = .d1∨ws x = .qt)→q:=by
  intro q h
  rcases h1 with k | k<;>rw[k]at h<;>rcases h with e | ⟨c,it,e⟩ | e | e<;>cases e
 cases h with
 | opn _ k _=>exact bad (k x)
 | reg _ k _=>exact bad (k x)
 | last L k1 k2 k3 k4 =>
  by_cases hL:x=L
  ·subst hL;exact⟨rfl,rfl,k1,k4⟩
  ·exact bad ((k4 x hL).elim .inl fun h=>.inr (.inr (.inr h)))
 | last4 L k1 k2 k3 k4 =>
  by_cases hL:x=L
  ·subst hL
   rcases h1 with e | e<;>rw[e]at k3<;>cases k3
  ·exact bad ((k4 x hL).elim .inl fun h=>.inr (.inr (.inr h)))
 | sema k1 k2=>exact bad ((k2 x).elim .inl fun h=>.inr (.inr (.inr h)))
 | fin k1 k2=>exact bad ((k2 x).elim .inl fun h=>.inr (.inr (.inr h)))
theorem Mode.at4(h:Mode ws tag a b)(hx:x<3)(h1:ws x = .d4):a=0∧b=0∧Z7H tag∧∀y,y≠x→ws y = .no∨ws y = .qt:=by
 have bad:∀{q:Prop},(ws x = .no∨(∃c it,ws x = .mx c it)∨ws x = .d1∨ws x = .qt)→q:=by
  intro q h;rw[h1]at h
  rcases h with e | ⟨c,it,e⟩ | e | e<;>cases e
 cases h with
 | opn _ k _=>exact bad (k x)
 | reg _ k _=>exact bad (k x)
 | last L k1 k2 k3 k4 =>
  by_cases hL:x=L
  ·subst hL
   rw[h1]at k3
   rcases k3 with e | e<;>cases e
  ·exact bad ((k4 x hL).elim .inl fun h=>.inr (.inr (.inr h)))
 | last4 L k1 k2 k3 k4 =>
  by_cases hL:x=L
  ·subst hL;exact⟨rfl,rfl,k1,k4⟩
  ·exact bad ((k4 x hL).elim .inl fun h=>.inr (.inr (.inr h)))
 | sema k1 k2=>exact bad ((k2 x).elim .inl fun h=>.inr (.inr (.inr h)))
 | fin k1 k2=>exact bad ((k2 x).elim .inl fun h=>.inr (.inr (.inr h)))
theorem Ci.done2(C:Ci X Y gs w t)(hok:PhOk X)(hx:x<Y.Z.j)(hg:gs[X.m0+x]?=some g)(hws:Y.ws x = .d2)(hat:Z1h (X.kx Y.Lb x) [bot] 2 (Deaf t (X.m0+x)) g):Z0D X Y gs w sl t (X.m0+x):=by
 obtain⟨hxn,hx3⟩:=C.x3 hok hx;obtain⟨ha,hb,hr,hy⟩:=C.mode.at23 hx3 (.inl hws);obtain⟨hd,g',hgo,q,hq⟩:=ZhX (hok.ok _ _ hxn) C.sh hat ha;have l2:=(Y0.1 C.sh.wg).1;have hL:DLst X.K.Wg 1 #[⟨.cell ⟨X.K.Wg,0,none⟩,false,true⟩]:=.rd 0 Nat.one_pos;have hs0:∀c it,Y.ws x ≠ .mx c it:=fun c it h=>by rw[hws]at h;cases h
 refine C.group hok hx hg (σ:=.d3) (q:=q) hgo (Eff.nil C.sh (OsLater.refl _) rfl rfl) rfl rfl rfl (by rw[hws];rfl) (by rw[ha,hb];exact .last x hr hx3 (.inr (upd_same _ _ _)) fun y h=>by rw[upd_ne _ _ h];exact hy y h) (fun Z=>by rw[hd];exact hL.evT (.inr rfl) l2) (fun h=>.inl h) (fun Y' k1 k2 k3=>?_) (hL.saidK C hx hs0) (by rw[hws];decide) (by rw[hws];decide);unfold Wrk;rw[k1,k2,k3,hd,hL.deaf];exact hq
theorem Ci.done3(C:Ci X Y gs w t)(hok:PhOk X)(hx:x<Y.Z.j)(hg:gs[X.m0+x]?=some g)(hws:Y.ws x = .d3)(hat:Z1h (X.kx Y.Lb x) [bot] 3 (Deaf t (X.m0+x)) g):Z0D X Y gs w sl t (X.m0+x):=by
 obtain⟨hxn,hx3⟩:=C.x3 hok hx;obtain⟨ha,hb,hr,hy⟩:=C.mode.at23 hx3 (.inr hws);obtain⟨hd,g',w',hgo,hE,q,hq⟩:=ZhY (hok.ok _ _ hxn) C.sh hat
 have l2:=(Y0.1 C.sh.wg).1;have hL:DLst X.K.Wg 1 #[⟨.cell ⟨X.K.Wg,0,none⟩,true,true⟩]:=.wr 0 Nat.one_pos;have hs0:∀c it,Y.ws x ≠ .mx c it:=fun c it h=>by rw[hws]at h;cases h
 refine C.group hok hx hg (σ:=.d4) (q:=q) hgo hE rfl rfl rfl (by rw[hws];rfl) (by rw[hb];exact .last4 x hr hx3 (upd_same _ _ _) fun y h=>by rw[upd_ne _ _ h];exact hy y h) (fun Z=>by rw[hd,hE.size];exact hL.evT (.inr rfl) l2) (fun h=>.inl h) (fun Y' k1 k2 k3=>?_) (hL.saidK C hx hs0) (by rw[hws];decide) (by rw[hws];decide);unfold Wrk;rw[k1,k2,k3,hd,hL.deaf];exact hq
theorem Ci.done4(C:Ci X Y gs w t)(hok:PhOk X)(hx:x<Y.Z.j)(hg:gs[X.m0+x]?=some g)(hws:Y.ws x = .d4)(hat:Z1h (X.kx Y.Lb x) [bot] 4 (Deaf t (X.m0+x)) g):Z0D X Y gs w sl t (X.m0+x):=by
 obtain⟨hxn,hx3⟩:=C.x3 hok hx;obtain⟨ha,hb,hr,hy⟩:=C.mode.at4 hx3 hws;obtain⟨hd,hwk,g',w',hgo,hE,q,hq⟩:=ZhZ (hok.ok _ _ hxn) C.sh hat hb;have l2:=(Y0.1 C.sh.wg).1;have hL:DLst X.K.Wg 1 (semEvents ⟨X.K.Wg,1,none⟩):=.sem 1;have hs0:∀c it,Y.ws x ≠ .mx c it:=fun c it h=>by rw[hws]at h;cases h
 have hall:∀y,upd Y.ws x .qt y = .no∨upd Y.ws x .qt y = .qt:=fun y=>by
  by_cases h:y=x
  ·subst h;exact .inr (upd_same _ _ _)
  ·rw[upd_ne _ _ h];exact hy y h
 refine C.group hok hx hg (σ:=.qt) (q:=q) hgo hE rfl rfl rfl (by rw[hws];rfl) (by rw[ha];exact .sema hr hall) (fun Z=>by rw[hd,hE.size];exact hL.evT (.inr rfl) l2) (fun _=>.inr ⟨hwk,quitsD_running hq⟩) (fun Y' k1 k2 k3=>?_) (hL.saidK C hx hs0) (by rw[hws];decide) (by rw[hws];decide);unfold Wrk;rw[k1,k2,hd,hL.deaf];exact hq
theorem Ci.slipD(C:Ci X Y gs w t)(hok:PhOk X)(hx:x<Y.Z.j)(hg:gs[X.m0+x]?=some g)(hs:∀c it,Y.ws x ≠ .mx c it)(h:Slip (Z1h (X.kx Y.Lb x) [bot] n) (Y.q (X.m0+x)) (Deaf t (X.m0+x)) g)(mk:∀Y' d' g',Y'.ws x=Y.ws x→Y'.Lb=Y.Lb→Slip (Z1h (X.kx Y.Lb x) [bot] n) (Y'.q (X.m0+x)) d' g'→Wrk X Y' x d' g' w): Z1h (X.kx Y.Lb x) [bot] n (Deaf t (X.m0+x)) g∨Z0D X Y gs w sl t (X.m0+x):=by
 cases hq:Y.q (X.m0+x) with
 | zero=>rw[hq]at h;exact .inl h
 | succ q =>
  rw[hq]at h
  rcases h with h | ⟨_,g',es,hm,hgo,h'⟩
  ·exact .inl h
  ·refine .inr (C.slip hok hx hg hs hm (hgo w) (q:=q) (by rw[hq];exact Nat.lt_succ_self q) (mk _ _ _ (upd_same _ _ _) rfl ?_))
   show Slip _ (upd Y.q (X.m0+x) q (X.m0+x)) _ _;rw[upd_same];exact h'
theorem Ci.work(C:Ci X Y gs w t)(hok:PhOk X)(hx:x<Y.Z.j)(hg:gs[X.m0+x]?=some g)(hr:g.status = .running):Z0D X Y gs w sl t (X.m0+x):=by
 obtain⟨g0,hg0,hw⟩:=C.wrk x hx;rw[hg]at hg0;obtain rfl:=Y1 hg0;have hw0:=hw;unfold Wrk at hw
 cases hws:Y.ws x with
 | no=>rw[hws]at hw;exact hw.elim
 | mx c it =>
  rw[hws]at hw;dsimp only at hw;obtain⟨hi,hw | ⟨_,_,hb,_,_⟩⟩:=hw
  ·rcases hw.cases' with hat | ⟨g',w',es,h',hgo,hG,hh,hs⟩
   ·by_cases hc:c=OUT
    ·subst hc;exact C.word hok hx hg hws hat
    ·exact C.move hok hx hg hws hi hc hat
   ·refine C.quiet hok hx hg hws hgo hG hh hs fun d' hh=>?_
    unfold Wrk Da.wk;dsimp only;rw[upd_same,hws];dsimp only;rw[upd_same,upd_same];exact⟨hi,.inl hh⟩
  ·rw[hb]at hr;cases hr
 | d1 =>
  rw[hws]at hw
  rcases C.slipD hok hx hg (fun c it h=>by rw[hws]at h;cases h) hw (fun Y' d' g' k1 k2 k3=>by unfold Wrk;rw[k1,hws,k2];exact k3) with h | h
  ·exact C.done1 hok hx hg hws h
  ·exact h
 | d2 =>
  rw[hws]at hw
  rcases C.slipD hok hx hg (fun c it h=>by rw[hws]at h;cases h) hw (fun Y' d' g' k1 k2 k3=>by unfold Wrk;rw[k1,hws,k2];exact k3) with h | h
  ·exact C.done2 hok hx hg hws h
  ·exact h
 | d3 =>
  rw[hws]at hw
  rcases C.slipD hok hx hg (fun c it h=>by rw[hws]at h;cases h) hw (fun Y' d' g' k1 k2 k3=>by unfold Wrk;rw[k1,hws,k2];exact k3) with h | h
  ·exact C.done3 hok hx hg hws h
  ·exact h
 | d4 =>
  rw[hws]at hw
  rcases C.slipD hok hx hg (fun c it h=>by rw[hws]at h;cases h) hw (fun Y' d' g' k1 k2 k3=>by unfold Wrk;rw[k1,hws,k2];exact k3) with h | h
  ·exact C.done4 hok hx hg hws h
  ·exact h
 | qt =>
  rw[hws]at hw;dsimp only at hw
  cases hq:Y.q (X.m0+x) with
  | zero=>rw[hq]at hw;rw[hw.1]at hr;cases hr
  | succ q =>
   rw[hq]at hw
   rcases hw with⟨hf,_⟩ | ⟨_,g',es,hm,hgo,h'⟩
   ·rw[hf]at hr;cases hr
   ·refine C.slip hok hx hg (fun c it h=>by rw[hws]at h;cases h) hm (hgo w) (q:=q) (by rw[hq];exact Nat.lt_succ_self q) ?_
    unfold Wrk Da.wk;dsimp only;rw[upd_same,hws];dsimp only;rw[upd_same];exact h'
end
end Lift
namespace Lift
open Go Go.Conc Ev
open Mx
open Go.ConcM (OsLater woken_by_blocked quitsD_running)
open Go.ConcN (upd upd_ne upd_same sumTo sumTo_upd)
variable[Jk]
section
variable{X:Ph}{Y:Da}{gs:Array Goroutine}{w w':World}{t:Trace}{a a':Goroutine}{sl:Option (Nat×Nat)}{es:Array Event}
def Big(X:Ph)(Y:Da)(c:Nat):Prop:=X.wS.heap.size≤c∧c≠X.K.Mu∧c≠X.K.Wg∧c≠X.K.Fd∧∀x,x<Y.Z.j→¬Y.Z.O x c
theorem ZhO(S:Sep X.K X.D Y.Z)(hok:PhOk X):Sep X.K X.D {Y.Z with Om:=Big X Y} where
 shared:=fun i c hi hc=>⟨(S.shared i c hi hc).1,(S.shared i c hi hc).2.1,(S.shared i c hi hc).2.2.1,(S.shared i c hi hc).2.2.2.1,fun h=>h.2.2.2.2 i hi hc⟩
 two:=S.two
 own:=fun c hc=>⟨hc.2.1,hc.2.2.1,hc.2.2.2.1,fun hd=>by have:=hok.dlow c hd;have:=hc.1;omega⟩
 fd:=S.fd
theorem Z6u{K:Cx}(hm:∀e∈es,Event.mute e=true): EvM K Om B es:=fun e he=>by
 have h:=hm e he;refine⟨low_mute h B,fun h'=>?_,fun a ha=>by rw[touch_mute h]at ha;cases ha⟩;obtain⟨loc,wr,sy⟩:=e;dsimp only at h';subst h'
 cases h
def Da.cl(Y:Da)(tag:CT)(h0:Nat)(d0:Nat)(s:Sh):Da:={Y with tag:=tag,h0:=h0,d0:=d0,s:=s,Z:={Y.Z with Om:=curL tag}}
theorem TI.om{K:Cx}{D:Nat→Prop}{Z:Zn}{p0 dm: Nat}{t:Trace}(h:TI K D Z B p0 dm t)(Om:Nat→Prop): TI K D {Z with Om:=Om} B p0 dm t:=
 ⟨h.clean,h.known,h.work,h.over,h.hears,h.above,h.seen,h.norel,h.start,h.first⟩
theorem Ci.cstep(C:Ci X Y gs w t)(hok:PhOk X)(h0:gs[0]?=some a){tag':CT}{h0':Nat}{s':Sh}(hkeep:∀c,c<w.heap.size→c≠X.K.Mu→c≠X.K.Wg→c≠X.K.Fd→¬curL tag' c→w'.heap[c]?=w.heap[c]?)(hsize:w.heap.size≤w'.heap.size)(hos:OsLater w.os w'.os)(hout:w'.output=w.output)(sh':ShAt X.K w' s')(e1:s'.mu=Y.s.mu)(e2:s'.ms=Y.s.ms)(e3:s'.fd=Y.s.fd)(hj:tagJ X.n tag'=tagJ X.n Y.tag)(htok:Z7d X.n tag')(mode':Mode Y.ws tag' s'.wg s'.ws)(hev:EvM X.K (Big X Y) w'.heap.size es)(hcal:Cal X (Y.cl tag' h0' (deafBehind Y.d0 es) s') a' w')(hlmp:∀c,curL tag' c→Big X Y c∧c<w'.heap.size∧∃z TT,w'.heap[c]?=some (.cells #[z] TT (0,0))∧((∀i L,tag' ≠ .ms i L)→z=qw (Y.Z.j:Int))):
  Ci X (Y.cl tag' h0' (deafBehind Y.d0 es) s') ((gs.map (woken PP a a' w')).setIfInBounds 0 a') w' (t++MemOp.ofEvents 0 fn pos es):=by
 have hlt:0<gs.size:=(Y0.1 h0).1;have hm0:=hok.m0;have S:=C.sep;have hu:∀op∈MemOp.ofEvents 0 fn pos es,op.g=0:=fun op hop=>by obtain⟨e,_,rfl⟩:=Go.Conc.mem_ofEvents hop;rfl
 have hdo:∀i,i≠0→Deaf (t++MemOp.ofEvents 0 fn pos es) i=Deaf t i:=fun i hi=>Deaf_other t (Ne.symm hi) _ hu;have hrel:∀y,y<Y.Z.j→Rely X.K (Y.Z.O y) w w':=fun y hy=>⟨fun c hc=>by
  have:=S.shared y c hy hc;exact hkeep c (C.low y c hy hc) this.1 this.2.1 this.2.2.1 fun hL=>(hlmp c hL).1.2.2.2.2 y hy hc,hsize,Z0W hos,fun _=>⟨s',sh'⟩⟩
 have hTI:TI X.K X.D {Y.Z with Om:=curL tag'} w'.heap.size X.p0 (deafBehind Y.d0 es) (t++MemOp.ofEvents 0 fn pos es):=
  ((C.ti.om (Big X Y)).starter (ZhO S hok) hsize hev).om (curL tag')
 refine⟨Eq.trans (by simp) C.size,C.zm,C.zj.trans hj.symm,htok,fun i y hi0 hi hy=>?_,⟨a',Z2u hlt,hcal⟩,fun y hy=>?_,C.no,sh',e1.trans C.vmu,e2.trans C.vms,C.tab,C.out,by show s'.fd.length=_;rw[e3];exact C.len,fun y hy=>by show s'.fd[y]?=_;rw[e3];exact C.fd y hy,mode',fun y hy=>?_,fun y c hy hc=>Y8 (C.low y c hy hc) hsize,C.new,C.ro,rfl,fun c hc=>?_,?_,hTI,fun y hy hs=>?_,fun c hc h1 h2 h3=>?_,Yd C.grow hsize,OsLater.trans C.os hos,hout.trans C.outp⟩
 ·rw[Z0g (by omega)]at hy
  obtain⟨z,hz,rfl⟩:=Y3.1 hy;have hq:=C.old i z hi0 hi hz;rw[woken_quitsD hq,hdo i (by omega)];exact hq
 ·obtain⟨z,hz,hw⟩:=C.wrk y hy
  refine⟨_,by rw[Z0g (by omega),hz];rfl,?_⟩;rw[hdo _ (by omega)];exact hw.keep (hrel y hy) rfl rfl rfl rfl rfl rfl fun h=>.inl h
 ·obtain⟨b1,b2⟩:=C.bx y hy
  refine⟨?_,b2⟩;have:=hrel y hy;exact b1.rely ⟨fun c hc=>this.keep c (C.ro y c hc),hsize,Z0W hos,fun _=>⟨s',sh'⟩⟩
 ·obtain⟨b1,b2,z,TT,b3,b4⟩:=hlmp c hc
  exact⟨b1.1,b2,z,TT,b3,b4⟩
 ·exact⟨fun i c hi hc=>⟨(S.shared i c hi hc).1,(S.shared i c hi hc).2.1,(S.shared i c hi hc).2.2.1,(S.shared i c hi hc).2.2.2.1,fun hL=>(hlmp c hL).1.2.2.2.2 i hi hc⟩,S.two,fun c hL=>by
   have hb:=(hlmp c hL).1;exact⟨hb.2.1,hb.2.2.1,hb.2.2.2.1,fun hd=>by have:=hok.dlow c hd;have:=hb.1;omega⟩,S.fd⟩
 ·exact(C.said y hy hs).other (g:=0) (by show 0≠Y.Z.m0+y;rw[C.zm];omega) hu
 ·rw[←C.kept c hc h1 h2 h3]
  refine hkeep c (Y8 hc C.grow) h1 h2 h3 fun hL=>?_;have:=(hlmp c hL).1.1;omega
theorem Z4F(C:Ci X Y gs w t){c:Nat}(h:curL Y.tag c): Big X Y c:=by
 have ho:Y.Z.Om c:=by rw[C.om];exact h
 have h1:=C.sep.own c ho;exact⟨(C.lmp c h).1,h1.1,h1.2.1,h1.2.2.1,fun x hx hO=>(C.sep.shared x c hx hO).2.2.2.2 ho⟩
theorem Ci.cquiet(C:Ci X Y gs w t)(hok:PhOk X)(h0:gs[0]?=some a)(hq:q<Y.h0)(hm:∀e∈es,Event.mute e=true)(hgo:stepG PP true a w = .go a' w es)(hh:Z8e true X.K (ZB X.k X.T X.n X.cs Y.tag) q (deafBehind Y.d0 es) a'): Z0D X Y gs w sl t 0:=by
 have hrun:=runT_crowd_go (P:=PP) (sl:=sl) (i:=0) h0 (show stepG PP (0==0) a w=_ from hgo);refine⟨_,_,w,_,hrun,C.cstep hok h0 (tag':=Y.tag) (h0':=q) (s':=Y.s) (fun c _ _ _ _ _=>rfl) (Ye _) (OsLater.refl _) rfl C.sh rfl rfl rfl rfl C.tok C.mode (Z6u hm) (.inl hh) (fun c hc=>⟨Z4F C hc,(C.lmp c hc).2.1,(C.lmp c hc).2.2⟩),?_⟩;exact ZkX rfl rfl hq
theorem Ci.cstop(C:Ci X Y gs w t)(hok:PhOk X)(h0:gs[0]?=some a){tag':CT}{s':Sh}(hgo:stepG PP true a w = .go a' w' es)(hE:Eff X.K w w' s')(e1:s'.mu=Y.s.mu)(e2:s'.ms=Y.s.ms)(e3:s'.fd=Y.s.fd)
  (hj:tagJ X.n tag'=tagJ X.n Y.tag) (htok:Z7d X.n tag') (mode':Mode Y.ws tag' s'.wg s'.ws) (hev:EvM X.K (Big X Y) w'.heap.size es) (hcal:WM true X.K (ZB X.k X.T X.n X.cs tag') (deafBehind Y.d0 es) a') (hL:∀c,curL tag' c→curL Y.tag c) (hms:(∀i L,tag' ≠ .ms i L)→∀c,curL tag' c→∀i L,Y.tag ≠ .ms i L)
  (hphi:phi X.n (vsum Y.ws) tag'<phi X.n (vsum Y.ws) Y.tag):Z0D X Y gs w sl t 0:=by
 obtain⟨q,hq⟩:=hcal;have hrun:=runT_crowd_go (P:=PP) (sl:=sl) (i:=0) h0 (show stepG PP (0==0) a w=_ from hgo);refine⟨_,_,w',_,hrun,C.cstep hok h0 (tag':=tag') (h0':=q) (s':=s') (fun c _ h1 h2 h3 _=>hE.same c h1 h2 h3) (Nat.le_of_eq hE.size.symm) hE.os hE.out hE.sh e1 e2 e3 hj htok mode' hev (.inl hq) (fun c hc=>?_),?_⟩
 ·have hb:=Z4F C (hL c hc)
  obtain⟨b1,b2,z,TT,b3,b4⟩:=C.lmp c (hL c hc);refine⟨hb,by rw[hE.size];exact b2,z,TT,by rw[hE.same c hb.2.1 hb.2.2.1 hb.2.2.2.1];exact b3,fun h=>b4 (hms h c hc)⟩
 ·refine Zaz ?_
  rw[Z1f,Z1f];show phi X.n (vsum Y.ws) tag'+Y.r+_<phi X.n (vsum Y.ws) Y.tag+Y.r+_;exact Nat.add_lt_add_right (Nat.add_lt_add_right hphi _) _
end
end Lift
namespace Lift
open Go Go.Conc Ev
open Mx
open Go.ConcM (OsLater woken_by_blocked quitsD_running)
open Go.ConcN (upd upd_ne upd_same sumTo sumTo_upd)
variable[Jk]
section
variable{X:Ph}{Y:Da}{gs:Array Goroutine}{w w':World}{t:Trace}{a a':Goroutine}{sl:Option (Nat×Nat)}{es:Array Event}{ws:Nat→WS}{tag tag':CT}{p q:Int}{i L v:Nat}
def ZhF(ws:Nat→WS):Prop:=∀x,ws x = .no∨(∃c it,ws x = .mx c it)∨ws x = .d1∨ws x = .qt
def ZhG(ws:Nat→WS):Prop:=∀x,ws x = .no∨ws x = .qt
theorem Mode.op(h:Mode ws tag p q)(ho:Z9A tag):ZhF ws∧(∀v,tag = .w2 v→vsum ws≤v)∧p=((vsum ws+pend tag:Nat):Int)*4294967296∧q=0:=by
 cases h with
 | opn h1 h2 h3=>exact⟨h2,h3,rfl,rfl⟩
 | reg h1=>cases tag<;>first | exact h1.elim | exact ho.elim
 | last L h1=>cases tag<;>first | exact h1.elim | exact ho.elim
 | last4 L h1=>cases tag<;>first | exact h1.elim | exact ho.elim
 | sema h1=>cases tag<;>first | exact h1.elim | exact ho.elim
 | fin h1=>cases tag<;>first | exact h1.elim | exact ho.elim
theorem Mode.fi(h:Mode ws tag p q)(ho:Zjd tag):ZhG ws∧p=0∧q=0:=by
 cases h with
 | opn h1 h2 h3=>cases tag<;>first | exact h1.elim | exact ho.elim
 | reg h1=>cases tag<;>first | exact h1.elim | exact ho.elim
 | last L h1=>cases tag<;>first | exact h1.elim | exact ho.elim
 | last4 L h1=>cases tag<;>first | exact h1.elim | exact ho.elim
 | sema h1=>cases tag<;>first | exact h1.elim | exact ho.elim
 | fin h1 h2=>exact⟨h2,rfl,rfl⟩
theorem Mode.re(h:Mode ws tag p q)(ho:Z7H tag)(h':Z7H tag'):Mode ws tag' p q:=by
 cases h with
 | opn h1 h2 h3=>cases tag<;>first | exact h1.elim | exact ho.elim
 | reg h1 h2 h3=>exact .reg h' h2 h3
 | last L h1 h2 h3 h4=>exact .last L h' h2 h3 h4
 | last4 L h1 h2 h3 h4=>exact .last4 L h' h2 h3 h4
 | sema h1 h2=>exact .sema h' h2
 | fin h1=>cases tag<;>first | exact h1.elim | exact ho.elim
theorem Mode.w3(h:Mode ws .w3 p q):q=0∨(q=1∧p=0∧ZhG ws):=by
 cases h with
 | opn h1 h2 h3=>exact h1.elim
 | reg h1 h2 h3=>exact .inl rfl
 | last L h1 h2 h3 h4=>exact .inl rfl
 | last4 L h1 h2 h3 h4=>exact .inl rfl
 | sema h1 h2=>exact .inr ⟨rfl,rfl,h2⟩
 | fin h1=>exact .inl rfl
theorem ZhH(h:ZhF ws)(h0:vsum ws=0)(hno:∀y,3≤y→ws y = .no):ZhG ws:=by
 intro y
 rcases Nat.lt_or_ge y 3 with hy | hy
 ·have hc:(ws y).cnt=0:=by
   unfold vsum at h0;have:y=0∨y=1∨y=2:=by omega
   rcases this with rfl | rfl | rfl<;>omega
  rcases h y with e | ⟨c,it,e⟩ | e | e
  ·exact .inl e
  ·rw[e]at hc;cases hc
  ·rw[e]at hc;cases hc
  ·exact .inr e
 ·exact .inl (hno y hy)
theorem Z9k{K:Cx}{wr:Bool}(h:K.Wg<B): EvM K Om B #[⟨.mark (bif wr then .write ⟨K.Wg,1,none⟩ else .read ⟨K.Wg,1,none⟩),false,true⟩]:=by
 intro e he;simp only[Yb,List.mem_singleton]at he;subst he
 cases wr
 ·refine⟨h,by simp,fun a ha _=>.inr ?_⟩
  simp only[cond_false,MemAct.ofEvent,MemAct.touch?,Y4]at ha;subst ha;exact⟨⟨_,rfl,.inr rfl⟩,by simp⟩
 ·refine⟨h,by simp,fun a ha _=>.inr ?_⟩
  simp only[cond_true,MemAct.ofEvent,MemAct.touch?,Y4]at ha;subst ha;exact⟨⟨_,rfl,.inr rfl⟩,by simp⟩
variable(C:Ci X Y gs w t)(hok:PhOk X)(h0:gs[0]?=some a)
include C hok h0
theorem ZkE(ht:Y.tag = .ma i)(hat:ZB X.k X.T X.n X.cs (.ma i) Y.d0 a):Z0D X Y gs w sl t 0:=by
 obtain⟨hd,a',hgo,q,hq⟩:=Zlc (m:=true) (w:=w) hok.wok C.sh hat
 have l1:=(Y0.1 C.sh.mu).1;have l2:=(Y0.1 C.sh.wg).1;have l3:=(Y0.1 C.sh.fd).1;have hold:∀c,c<w.heap.size→(w.alloc (.cells #[.int .i64 0] 3)).heap[c]?=w.heap[c]?:=fun c hc=>by
  show (w.heap.push _)[c]?=_;rw[Array.getElem?_push,if_neg (by omega)]
 have hnew:(w.alloc (.cells #[.int .i64 0] 3)).heap[w.heap.size]?=some (.cells #[.int .i64 0] 3 (0,0)):=by
  show (w.heap.push _)[w.heap.size]?=_;rw[Array.getElem?_push,if_pos rfl]
 have hsz:(w.alloc (.cells #[.int .i64 0] 3)).heap.size=w.heap.size+1:=by
  show (w.heap.push _).size=_;simp
 have htok:=C.tok;obtain⟨m1,m2,m3,m4⟩:=C.mode.op (by rw[ht];trivial);rw[ht]at htok m3;have hrun:=runT_crowd_go (P:=PP) (sl:=sl) (i:=0) h0 (show stepG PP (0==0) a w=_ from hgo);refine⟨_,_,_,_,hrun,C.cstep hok h0 (tag':=.ms i w.heap.size) (h0':=q) (s':=Y.s) (fun c hc _ _ _ _=>hold c hc) (by omega) (OsLater.refl _) rfl ⟨by rw[hold _ l1];exact C.sh.mu,by rw[hold _ l2];exact C.sh.wg,by rw[hold _ l3];exact C.sh.fd⟩ rfl rfl rfl (by rw[ht];rfl) htok (by rw[m3,m4];exact .opn (tag:=.ms i w.heap.size) trivial m1 (fun v e=>by cases e)) (Z6u (by simp)) (.inl ?_) (fun c hc=>?_),?_⟩
 ·rw[hd];exact hq
 ·have hc':c=w.heap.size:=hc
  subst hc';refine⟨⟨C.grow,by omega,by omega,by omega,fun x hx ho=>?_⟩,by omega,_,_,hnew,fun h=>absurd rfl (h i w.heap.size)⟩;have:=C.low x _ hx ho;omega
 ·refine Zaz ?_
  rw[Z1f,Z1f];show phi X.n (vsum Y.ws) (.ms i w.heap.size)+Y.r+_<phi X.n (vsum Y.ws) Y.tag+Y.r+_;rw[ht];exact Nat.add_lt_add_right (Nat.add_lt_add_right (by simp only[phi];omega) _) _
theorem ZkH(ht:Y.tag = .ms i L)(hat:ZB X.k X.T X.n X.cs (.ms i L) Y.d0 a):Z0D X Y gs w sl t 0:=by
 have hcur:curL Y.tag L:=by rw[ht];rfl
 have hb:=Z4F C hcur;obtain⟨b1,b2,z,TT,b3,_⟩:=C.lmp L hcur;obtain⟨hd,a',hgo,q,hq⟩:=Zlh (m:=true) (w:=w) hok.wok C.sh hat b3 ⟨hb.2.1,hb.2.2.1,hb.2.2.2.1⟩;have htok:=C.tok;have hzj:=C.zj;obtain⟨m1,m2,m3,m4⟩:=C.mode.op (by rw[ht];trivial);rw[ht]at htok m3 hzj;have hrun:=runT_crowd_go (P:=PP) (sl:=sl) (i:=0) h0 (show stepG PP (0==0) a w=_ from hgo);have hsz:(w.setCell ⟨L,0,none⟩ (qw i)).heap.size=w.heap.size:=by simp[World.setCell]
 refine⟨_,_,_,_,hrun,C.cstep hok h0 (tag':=.md i L) (h0':=q) (s':=Y.s) (fun c hc _ _ _ hn=>Zx fun e=>hn e) (by rw[hsz];exact Ye _) (OsLater.refl _) rfl ⟨by rw[Zx (Ne.symm hb.2.1)];exact C.sh.mu,by rw[Zx (Ne.symm hb.2.2.1)];exact C.sh.wg,by rw[Zx (Ne.symm hb.2.2.2.1)];exact C.sh.fd⟩ rfl rfl rfl (by rw[ht];rfl) htok (by rw[m3,m4];exact .opn (tag:=.md i L) trivial m1 (fun v e=>by cases e)) ?_ (.inl ?_) (fun c hc=>?_),?_⟩
 ·intro e he
  simp only[Yb,List.mem_singleton]at he;subst he;refine⟨by show L<_;rw[hsz];exact b2,by simp,fun b hb' _=>.inl ?_⟩;simp only[MemAct.ofEvent,MemAct.touch?,Y4]at hb';subst hb';exact⟨rfl,L,rfl,hb⟩
 ·rw[hd];exact hq
 ·have hc':c=L:=hc
  subst hc';refine⟨hb,by rw[hsz];exact b2,qw i,TT,by rw[Z1F b3];rfl,fun _=>?_⟩;rw[hzj];rfl
 ·refine Zaz ?_
  rw[Z1f,Z1f];show phi X.n (vsum Y.ws) (.md i L)+Y.r+_<phi X.n (vsum Y.ws) Y.tag+Y.r+_;rw[ht];exact Nat.add_lt_add_right (Nat.add_lt_add_right (by simp only[phi];omega) _) _
theorem ZkF(ht:Y.tag = .md i L)(hat:ZB X.k X.T X.n X.cs (.md i L) Y.d0 a):Z0D X Y gs w sl t 0:=by
 have htok:=C.tok;have hzj:=C.zj;obtain⟨m1,m2,m3,m4⟩:=C.mode.op (by rw[ht];trivial);rw[ht]at htok m3 hzj;have hv:vsum Y.ws≤2:=by
  have:=Z8Z C hok;have:=hok.n3;simp only[tagJ,Z7d]at hzj htok;omega
 have l2:=(Y0.1 C.sh.wg).1;obtain⟨hd,a',w',hgo,hE,hq⟩:=Zld (m:=true) (w:=w) hok.wok C.sh hat (v:=vsum Y.ws) hv (by rw[m3];rfl);have hL:DLst X.K.Wg 1 #[⟨.cell ⟨X.K.Wg,0,none⟩,false,true⟩,⟨.cell ⟨X.K.Wg,0,none⟩,true,true⟩]:=.rw 0 Nat.one_pos
 by_cases h1:vsum Y.ws=0
 ·rw[if_pos h1]at hq
  refine C.cstop hok h0 (tag':=.mr i L) hgo hE rfl rfl rfl (by rw[ht];rfl) (by exact htok) (by rw[m4];exact .opn (tag:=.mr i L) trivial m1 (fun v e=>by cases e)) (hL.evM (.inr rfl) (by rw[hE.size];exact l2)) (by rw[hd,hL.deaf];exact hq) (fun c hc=>by rw[ht];exact hc) (fun _ c _ i L e=>by rw[ht]at e;cases e) (by rw[ht];simp only[phi];omega)
 ·rw[if_neg h1]at hq
  refine C.cstop hok h0 (tag':=.mg i L) hgo hE rfl rfl rfl (by rw[ht];rfl) (by exact htok) (by rw[m4];exact .opn (tag:=.mg i L) trivial m1 (fun v e=>by cases e)) (hL.evM (.inr rfl) (by rw[hE.size];exact l2)) (by rw[hd,hL.deaf];exact hq) (fun c hc=>by rw[ht];exact hc) (fun _ c _ i L e=>by rw[ht]at e;cases e) (by rw[ht];simp only[phi];omega)
theorem ZkG(ht:Y.tag = .mr i L)(hat:ZB X.k X.T X.n X.cs (.mr i L) Y.d0 a):Z0D X Y gs w sl t 0:=by
 have htok:=C.tok;obtain⟨m1,m2,m3,m4⟩:=C.mode.op (by rw[ht];trivial);rw[ht]at htok m3;have l2:=(Y0.1 C.sh.wg).1;obtain⟨hd,a',hgo,hq⟩:=Zlg (m:=true) (w:=w) hok.wok C.sh hat
 refine C.cstop hok h0 (tag':=.mg i L) hgo (Eff.nil C.sh (OsLater.refl _) rfl rfl) rfl rfl rfl (by rw[ht];rfl) (by exact htok) (by rw[m3,m4];exact .opn (tag:=.mg i L) trivial m1 (fun v e=>by cases e)) (Z9k (wr:=false) l2) (by rw[hd];exact hq) (fun c hc=>by rw[ht];exact hc) (fun _ c _ i L e=>by rw[ht]at e;cases e) (by rw[ht];simp only[phi];omega)
theorem ZkJ(ht:Y.tag = .w1)(hat:ZB X.k X.T X.n X.cs .w1 Y.d0 a):Z0D X Y gs w sl t 0:=by
 obtain⟨m1,m2,m3,m4⟩:=C.mode.op (by rw[ht];trivial);rw[ht]at m3;have hv:vsum Y.ws≤3:=by have:=Z86 C hok;omega
 have l2:=(Y0.1 C.sh.wg).1;obtain⟨hd,a',hgo,hq⟩:=Zlk (m:=true) (w:=w) hok.wok C.sh hat (v:=vsum Y.ws) hv (by rw[m3];rfl);have hL:DLst X.K.Wg 1 #[⟨.cell ⟨X.K.Wg,0,none⟩,false,true⟩]:=.rd 0 Nat.one_pos
 by_cases h1:vsum Y.ws=0
 ·rw[if_pos h1]at hq
  have hm:Mode Y.ws .mq Y.s.wg Y.s.ws:=by
   rw[m3,m4,h1];exact .fin trivial (ZhH m1 h1 (C.no3 hok))
  exact C.cstop hok h0 (tag':=.mq) hgo (Eff.nil C.sh (OsLater.refl _) rfl rfl) rfl rfl rfl (by rw[ht];rfl) trivial hm (hL.evM (.inr rfl) l2) (by rw[hd,hL.deaf];exact hq) (fun c hc=>hc.elim) (fun _ c hc=>hc.elim) (by rw[ht];simp only[phi];omega)
 ·rw[if_neg h1]at hq
  have hm:Mode Y.ws (.w2 (vsum Y.ws)) Y.s.wg Y.s.ws:=by
   rw[m3,m4];exact .opn (tag:=.w2 (vsum Y.ws)) trivial m1 (fun v e=>by cases e;exact Ye _)
  exact C.cstop hok h0 (tag':=.w2 (vsum Y.ws)) hgo (Eff.nil C.sh (OsLater.refl _) rfl rfl) rfl rfl rfl (by rw[ht];rfl) ⟨by omega,hv⟩ hm (hL.evM (.inr rfl) l2) (by rw[hd,hL.deaf];exact hq) (fun c hc=>hc.elim) (fun _ c hc=>hc.elim) (by rw[ht];simp only[phi];omega)
theorem ZkK(ht:Y.tag = .w2 v)(hat:ZB X.k X.T X.n X.cs (.w2 v) Y.d0 a):Z0D X Y gs w sl t 0:=by
 have htok:=C.tok;obtain⟨m1,m2,m3,m4⟩:=C.mode.op (by rw[ht];trivial);have hle:=m2 v ht;rw[ht]at m3 htok;have l2:=(Y0.1 C.sh.wg).1;obtain⟨hd,hq⟩:=Zll (m:=true) (w:=w) hok.wok C.sh hat htok.1 htok.2 (v':=vsum Y.ws) (by rw[m3];rfl)
 by_cases h1:vsum Y.ws=v
 ·rw[if_pos h1]at hq
  obtain⟨a',w',hgo,hE,hq⟩:=hq;have hL:DLst X.K.Wg 1 #[⟨.cell ⟨X.K.Wg,0,none⟩,false,true⟩,⟨.cell ⟨X.K.Wg,0,none⟩,true,true⟩]:=.rw 0 Nat.one_pos;have hm:Mode Y.ws (.mx v) ((v:Int)*4294967296+1) Y.s.ws:=by
   rw[m4,←h1];exact .reg (tag:=.mx (vsum Y.ws)) trivial m1 (by rw[h1];exact htok.1)
  exact C.cstop hok h0 (tag':=.mx v) hgo hE rfl rfl rfl (by rw[ht];rfl) htok hm (hL.evM (.inr rfl) (by rw[hE.size];exact l2)) (by rw[hd,hL.deaf];exact hq) (fun c hc=>hc.elim) (fun _ c hc=>hc.elim) (by rw[ht];simp only[phi];omega)
 ·rw[if_neg h1]at hq
  obtain⟨a',hgo,hq⟩:=hq;have hL:DLst X.K.Wg 1 #[⟨.cell ⟨X.K.Wg,0,none⟩,false,true⟩]:=.rd 0 Nat.one_pos;have hm:Mode Y.ws .w1 Y.s.wg Y.s.ws:=by
   rw[m3,m4];exact .opn (tag:=.w1) trivial m1 (fun v e=>by cases e)
  exact C.cstop hok h0 (tag':=.w1) hgo (Eff.nil C.sh (OsLater.refl _) rfl rfl) rfl rfl rfl (by rw[ht];rfl) trivial hm (hL.evM (.inr rfl) l2) (by rw[hd,hL.deaf];exact hq) (fun c hc=>hc.elim) (fun _ c hc=>hc.elim) (by rw[ht];simp only[phi];omega)
theorem ZkI(ht:Y.tag = .mx v)(hat:ZB X.k X.T X.n X.cs (.mx v) Y.d0 a):Z0D X Y gs w sl t 0:=by
 have htok:=C.tok;have hm:=C.mode;rw[ht]at htok hm;have l2:=(Y0.1 C.sh.wg).1;obtain⟨hd,a',hgo,hq⟩:=Zli (m:=true) (w:=w) hok.wok C.sh hat htok.1 htok.2;exact C.cstop hok h0 (tag':=.w3) hgo (Eff.nil C.sh (OsLater.refl _) rfl rfl) rfl rfl rfl (by rw[ht];rfl) trivial (hm.re trivial trivial) (Z9k (wr:=true) l2) (by rw[hd];exact hq) (fun c hc=>hc.elim) (fun _ c hc=>hc.elim) (by rw[ht];simp only[phi];omega)
theorem ZkL(ht:Y.tag = .w3)(hat:ZB X.k X.T X.n X.cs .w3 Y.d0 a):Z0D X Y gs w sl t 0:=by
 have hm:=C.mode;rw[ht]at hm;have l2:=(Y0.1 C.sh.wg).1;obtain⟨hd,hb,hg⟩:=Zlm (m:=true) (w:=w) hok.wok C.sh hat
 rcases hm.w3 with h1 | ⟨h1,h2,h3⟩
 ·have hgo:=hb h1
  have hrun:=runT_crowd_go (P:=PP) (sl:=sl) (i:=0) h0 (show stepG PP (0==0) a w=_ from hgo);refine⟨_,_,w,_,hrun,C.cstep hok h0 (tag':=Y.tag) (h0':=Y.h0) (s':=Y.s) (fun c _ _ _ _ _=>rfl) (Ye _) (OsLater.refl _) rfl C.sh rfl rfl rfl rfl C.tok C.mode (Z6u (by simp)) (.inr ⟨ht,h1,rfl,?_,?_⟩) (fun c hc=>⟨Z4F C hc,(C.lmp c hc).2.1,(C.lmp c hc).2.2⟩),?_⟩
  ·obtain⟨_,x,u,f,fs,_,rfl⟩:=hat
   rfl
  ·obtain⟨k1,x,u,f,fs,k2,rfl⟩:=hat
   exact⟨k1,x,u,f,fs,k2,rfl⟩
  ·exact Zg7 rfl rfl rfl rfl rfl (by simp) (Z9u h0 (Z5d _ _ hat) rfl)
 ·obtain⟨a',w',hgo,hE,hq⟩:=hg h1
  have hL:DLst X.K.Wg 1 (semEvents ⟨X.K.Wg,1,none⟩):=.sem 1;exact C.cstop hok h0 (tag':=.w4) hgo hE rfl rfl rfl (by rw[ht];rfl) trivial (by rw[h2];exact .fin (tag:=.w4) trivial h3) (hL.evM (.inr rfl) (by rw[hE.size];exact l2)) (by rw[hd,hL.deaf];exact hq) (fun c hc=>hc.elim) (fun _ c hc=>hc.elim) (by rw[ht];simp only[phi];omega)
theorem ZkM(ht:Y.tag = .w4)(hat:ZB X.k X.T X.n X.cs .w4 Y.d0 a):Z0D X Y gs w sl t 0:=by
 obtain⟨m1,m2,m3⟩:=C.mode.fi (by rw[ht];trivial);have l2:=(Y0.1 C.sh.wg).1;obtain⟨hd,a',hgo,hq⟩:=Zln (m:=true) (w:=w) hok.wok C.sh hat m2;have hL:DLst X.K.Wg 1 #[⟨.cell ⟨X.K.Wg,0,none⟩,false,true⟩]:=.rd 0 Nat.one_pos;exact C.cstop hok h0 (tag':=.my) hgo (Eff.nil C.sh (OsLater.refl _) rfl rfl) rfl rfl rfl (by rw[ht];rfl) trivial (by rw[m2,m3];exact .fin (tag:=.my) trivial m1) (hL.evM (.inr rfl) l2) (by rw[hd,hL.deaf];exact hq) (fun c hc=>hc.elim) (fun _ c hc=>hc.elim) (by rw[ht];simp only[phi];omega)
end
end Lift
namespace Lift
open Go Go.Conc Ev
open Mx
open Go.ConcM (OsLater woken_by_blocked quitsD_running)
open Go.ConcN (upd upd_ne upd_same sumTo sumTo_upd)
variable[Jk]
section
variable{F:Array Func}{G:FuncId→Prop}{X:Ph}{Y Y':Da}{gs:Array Goroutine}{w w':World}{t:Trace}{a a':Goroutine}{sl:Option (Nat×Nat)}{es:Array Event}{i L x d:Nat}
def Job(F:Array Func)(G:FuncId→Prop)(X:Ph)(x:Nat):Prop:=
 ∃(gf:FuncId) (xs ys:Array Value) (r:Ren) (v:World) (R:Ending→World→Prop),(∀L,(cW3 {X.k with L:=L,lamp:=x}).cal PP=some (gf,ys))∧G gf∧VRs r xs ys∧WH (Iv PP F) r v X.wS ∧
  (∀b c,r b=some c→Shut v b∧c≠X.K.Mu∧c≠X.K.Wg∧c≠X.K.Fd∧¬X.D c∧c≠X.k.I∧c≠X.k.B)∧(∀e u T,R e (re u T)→R e u)∧(∀e u,R e u→e = .returned (.bool (X.β x)))∧∀T,Calls (PF PP F) gf xs (re v T) R
theorem Wrk.re(h:Wrk X Y x d a w)(e1:Y'.ws x=Y.ws x)(e2:Y'.h x=Y.h x)(e3:Y'.Z.O x=Y.Z.O x)(e4:Y'.Z.RO x=Y.Z.RO x)(e5:Y'.Lb x=Y.Lb x)(e6:Y'.q (X.m0+x)=Y.q (X.m0+x))(e7:Y'.ms=Y.ms):Wrk X Y' x d a w:=by
 have ek:X.kx Y'.Lb x=X.kx Y.Lb x:=by unfold Ph.kx;rw[e5]
 unfold Wrk at h⊢;rw[e1,e2,e3,e4,e6,ek,e7];exact h
theorem Ci.go(C:Ci X Y gs w t)(hok:PhOk X)(S:Strip PP F (CodeOk PP false) G)(hg:GOk PP F G)(hrec:Rec PP)(h0:gs[0]?=some a)(J:Job F G X i)(ht:Y.tag = .mg i L)(hat:ZB X.k X.T X.n X.cs (.mg i L) Y.d0 a):Z0D X Y gs w sl t 0:=by
 obtain⟨gf,xs,ys,r,v,R,jcal,jG,jv,jw,jn,jR,jb,jC⟩:=J;have hm0:=hok.m0;have htok:=C.tok;have hzj:=C.zj;obtain⟨m1,m2,m3,m4⟩:=C.mode.op (by rw[ht];trivial);rw[ht]at htok m3 hzj;have hin:i<X.n:=htok;have hij:Y.Z.j=i:=hzj;have hcur:curL Y.tag L:=by rw[ht];rfl
 have hb:=Z4F C hcur;obtain⟨b1,b2,z,TT,b3,b4⟩:=C.lmp L hcur;have hz:z=qw (i:Int):=by rw[b4 (fun i' L' e=>by rw[ht]at e;cases e),hij]
 subst hz;have Sp:=C.sep;have l1:=(Y0.1 C.sh.mu).1;have hno:Y.ws i = .no:=C.no i (by omega)
 -- the blocks of the new worker
 let Oi:Nat→Prop:=fun c=>(∃b,r b=some c)∨c=X.k.I∨c=X.k.B∨c=L
 have hold:∀c,(∃b,r b=some c)→c<X.wS.heap.size:=fun c ⟨b,hb⟩=>by
  obtain⟨o,o',_,h2,_⟩:=jw.on b c hb;exact(Y0.1 h2).1
 have hIl:X.k.I<X.wS.heap.size:=by obtain⟨T,fz,e⟩:=hok.isB;exact(Y0.1 e).1
 have hBl:X.k.B<X.wS.heap.size:=by obtain⟨T,fz,e⟩:=hok.fdB;exact(Y0.1 e).1
 have hOold:∀c,Oi c→c<X.wS.heap.size∨c=L:=by
  rintro c (h | h | h | h)
  ·exact .inl (hold c h)
  ·subst h;exact .inl hIl
  ·subst h;exact .inl hBl
  ·exact .inr h
 have hOsh:∀c,Oi c→c≠X.K.Mu∧c≠X.K.Wg∧c≠X.K.Fd∧¬X.D c:=by
  rintro c (⟨b,h⟩ | h | h | h)
  ·have:=jn b c h
   exact⟨this.2.1,this.2.2.1,this.2.2.2.1,this.2.2.2.2.1⟩
  ·subst h;exact hok.iO
  ·subst h;exact hok.bO
  ·subst h
   exact⟨hb.2.1,hb.2.2.1,hb.2.2.2.1,fun hd=>by have:=hok.dlow _ hd;have:=hb.1;omega⟩
 have hOl:∀c,Oi c→c<w.heap.size:=fun c hc=>by
  rcases hOold c hc with h | h
  ·exact Y8 h C.grow
  ·subst h;exact b2
 have hkept:∀c,Oi c→c<X.wS.heap.size→w.heap[c]?=X.wS.heap[c]?:=fun c hc hl=>C.kept c hl (hOsh c hc).1 (hOsh c hc).2.1 (hOsh c hc).2.2.1;have hIk:w.heap[X.k.I]?=X.wS.heap[X.k.I]?:=hkept _ (.inr (.inl rfl)) hIl;have hBk:w.heap[X.k.B]?=X.wS.heap[X.k.B]?:=hkept _ (.inr (.inr (.inl rfl))) hBl;have W:=hok.ok (upd Y.Lb i L) i hin;have ek:X.kx (upd Y.Lb i L) i={X.k with L:=L,lamp:=i}:=by unfold Ph.kx;rw[upd_same]
 rw[ek]at W
 -- the worker's stretch
 have hWH:WH (Iv PP F) r v w:=⟨fun b c hb=>by
  rw[hkept c (.inl ⟨b,hb⟩) (hold c ⟨b,hb⟩)];exact jw.on b c hb,jw.inj,jw.env.trans (Z0W C.os).symm⟩
 have hbi:Bi {X.k with L:=L,lamp:=i} w:=⟨by rw[hIk];exact hok.isB,by rw[hBk];exact hok.fdB,⟨TT,(0,0),b3⟩⟩;have hWT:=Z88 (RO:=Oi) (O:=Oi) (U:=fun c=>c=X.k.I∨c=X.k.B∨c=L) S hg hrec W C.sh hbi (fun c=>Iff.rfl) (fun c hc=>.inr hc) ⟨fun h=>(hOsh _ h).1 rfl,fun h=>(hOsh _ h).2.1 rfl,fun h=>(hOsh _ h).2.2.1 rfl⟩ (jcal L) jG jv hWH ⟨fun b c hb=>.inl ⟨b,hb⟩,fun b c hb _=>(jn b c hb).1⟩
  ⟨hOl,fun c hc=>⟨hOl c (.inr hc),fun b hb=>by
   have:=jn b c hb
   rcases hc with h | h | h
   ·exact this.2.2.2.2.2.1 h
   ·exact this.2.2.2.2.2.2 h
   ·have:=hold c ⟨b,hb⟩
    omega⟩⟩ jR jb jC
 obtain⟨hgt,hhx⟩:=hWT.height;obtain⟨hd,a',hgo,q,hq⟩:=Zlf (m:=true) (w:=w) hok.wok C.sh hat hin hok.n3;have hrun:=runT_crowd_spawn (P:=PP) (sl:=sl) (i:=0) h0 (show stepG PP (0==0) a w=_ from hgo);have hct:∀c,¬curL (if i+1<X.n then CT.ma (i+1) else .w1) c:=fun c h=>by
  split at h<;>exact h
 have hlt:0<gs.size:=(Y0.1 h0).1;have hsz:=C.size;generalize htag:(if i+1<X.n then CT.ma (i+1) else .w1)=tag' at hq hct;have hjt:tagJ X.n tag'=i+1:=by
  subst htag
  split
  ·rfl
  ·show X.n=i+1
   omega
 have htk:Z7d X.n tag':=by
  subst htag
  split
  ·assumption
  ·trivial
 have hop':Z9A tag'∧pend tag'=0∧∀v,tag' ≠ .w2 v:=by
  subst htag
  split
  ·exact⟨trivial,rfl,fun v e=>by cases e⟩
  ·exact⟨trivial,rfl,fun v e=>by cases e⟩
 have hphi:phi X.n (vsum Y.ws+1) tag'<phi X.n (vsum Y.ws) Y.tag:=by
  have:=Z8Z C hok;have:=hok.n3;subst htag;rw[ht]
  split<;>simp only[phi]<;>omega
 have hL3:i<3:=by have:=hok.n3;omega
 have hget:∀k,k≠0→k<gs.size→((gs.setIfInBounds 0 a').push (born PP (task {X.k with L:=L})))[k]?=gs[k]?:=fun k hk hkl=>by
  rw[Array.getElem?_push,if_neg (by simp;omega),Yq (Ne.symm hk)]
 have hops:(((MemOp.ofEvents 0 a.frame.fn a.frame.place #[]).push {g:=0,fn:=a.frame.fn,pos:=a.frame.place,act:=.go gs.size}).push {g:=gs.size,fn:=(born PP (task {X.k with L:=L})).frame.fn,pos:=a.frame.place,act:=.start})=#[{g:=0,fn:=a.frame.fn,pos:=a.frame.place,act:=.go gs.size},{g:=gs.size,fn:=(born PP (task {X.k with L:=L})).frame.fn,pos:=a.frame.place,act:=.start}]:=by
  rw[ofEvents_eq];simp
 rw[hops]at hrun;generalize hxo:({g:=0,fn:=a.frame.fn,pos:=a.frame.place,act:=.go gs.size}:MemOp)=xo at hrun;generalize hyo:({g:=gs.size,fn:=(born PP (task {X.k with L:=L})).frame.fn,pos:=a.frame.place,act:=.start}:MemOp)=yo at hrun;have hx1:xo.g=0∧xo.act = .go (Y.Z.m0+Y.Z.j):=by subst hxo;exact⟨rfl,by rw[C.zm,←hsz]⟩
 have hy1:yo.g=Y.Z.m0+Y.Z.j∧yo.act = .start:=by subst hyo;exact⟨by rw[C.zm,←hsz],rfl⟩
 have hdf:∀g,Deaf (t++#[xo,yo]) g=Deaf t g:=by
  intro g;have e:t++#[xo,yo]=(t++#[xo])++#[yo]:=by apply Array.ext';simp
  rw[e,Deaf_push,Deaf_push];simp only[deafStep,hx1.2,hy1.2]
 let Y':Da:={Y with tag:=tag',ws:=upd Y.ws i (.mx (bif X.β i then L0 else OUT) 0),Lb:=upd Y.Lb i L,Z:={m0:=Y.Z.m0,j:=Y.Z.j+1,O:=upd Y.Z.O i Oi,RO:=upd Y.Z.RO i Oi,Om:=curL tag'},h0:=q,h:=upd Y.h i hgt,d0:=0}
 have S':Sep X.K X.D Y'.Z:=by
  refine⟨fun k c hk hc=>?_,fun k k' c hk hk' hne hc hc'=>?_,fun c hc=>absurd hc (hct c),Sp.fd⟩
  ·have hc:upd Y.Z.O i Oi k c:=hc
   by_cases hki:k=i
   ·subst hki
    rw[upd_same]at hc;have:=hOsh c hc;exact⟨this.1,this.2.1,this.2.2.1,this.2.2.2,hct c⟩
   ·rw[upd_ne _ _ hki]at hc
    have hk:k<Y.Z.j+1:=hk;have:=Sp.shared k c (by omega) hc;exact⟨this.1,this.2.1,this.2.2.1,this.2.2.2.1,hct c⟩
  ·have c1:upd Y.Z.O i Oi k c:=hc
   have c2:upd Y.Z.O i Oi k' c:=hc';have hk:k<Y.Z.j+1:=hk;have hk':k'<Y.Z.j+1:=hk';show upd Y.Z.RO i Oi k c∧upd Y.Z.RO i Oi k' c;have one:∀k,k<Y.Z.j+1→k≠i→Y.Z.O k c→Oi c→Y.Z.RO k c:=fun k hk hki ho hO=>by
    rcases hOold c hO with h | h
    ·exact C.new k c (by omega) h ho
    ·subst h;exact absurd ho (hb.2.2.2.2 k (by omega))
   by_cases hki:k=i
   ·subst hki
    rw[upd_same]at c1⊢;rw[upd_ne _ _ (Ne.symm hne)]at c2⊢;exact⟨c1,one k' hk' (Ne.symm hne) c2 c1⟩
   ·rw[upd_ne _ _ hki]at c1⊢
    by_cases hki':k'=i
    ·subst hki'
     rw[upd_same]at c2⊢;exact⟨one k hk hki c1 c2,c2⟩
    ·rw[upd_ne _ _ hki']at c2⊢
     exact Sp.two k k' c (by omega) (by omega) hne c1 c2
 have kz:Zone Y.Z Y'.Z:=⟨rfl,rfl,fun x hx=>upd_ne _ _ (by omega),fun x hx=>upd_ne _ _ (by omega)⟩;have hTI0:TI X.K X.D Y.Z w.heap.size X.p0 0 t:=by have:=C.ti;rw[hd]at this;exact this
 have hcode:∀y,(Y'.ws y).code (X.β y)=(Y.ws y).code (X.β y):=fun y=>by
  show (upd Y.ws i _ y).code _=_
  by_cases hy:y=i
  ·subst hy;rw[upd_same,hno];rfl
  ·rw[upd_ne _ _ hy]
 have hvs:vsum Y'.ws=vsum Y.ws+1:=by
  have:=Z0O (ws:=Y.ws) (σ:=.mx (bif X.β i then L0 else OUT) 0) WS.cnt hL3;rw[hno]at this;simp only[WS.cnt]at this;show sum3 WS.cnt (upd Y.ws i _)=sum3 WS.cnt Y.ws+1;omega
 have hss:sum3 WS.stg Y'.ws+8=sum3 WS.stg Y.ws+7:=by
  have:=Z0O (ws:=Y.ws) (σ:=.mx (bif X.β i then L0 else OUT) 0) WS.stg hL3;rw[hno]at this;exact this
 refine⟨Y',_,w,_,hrun,?_,?_⟩
 ·refine⟨by simp[Y'];omega,C.zm,by show Y.Z.j+1=_;rw[hjt];omega,htk,fun k g hk0 hk hgk=>?_,⟨a',?_,.inl hq⟩,fun x hx=>?_,fun x hx=>?_,C.sh,C.vmu,C.vms,by rw[hcode,hcode,hcode];exact C.tab,fun x hx=>by rw[hcode];exact C.out x hx,C.len,fun x hx=>by rw[hcode];exact C.fd x hx,?_,fun x hx=>?_,fun x c hx hc=>?_,fun x c hx hc ho=>?_,fun x c hc=>?_,rfl,fun c hc=>absurd hc (hct c),S',hTI0.spawn S' kz hx1 hy1,fun x hx hs=>?_,C.kept,C.grow,C.os,C.outp⟩
  ·rw[hget k (by omega) (by omega)]at hgk
   rw[hdf];exact C.old k g hk0 hk hgk
  ·rw[Array.getElem?_push,if_neg (by simp;omega),Array.getElem?_setIfInBounds_self_of_lt hlt]
  ·have hx:x<Y.Z.j+1:=hx
   rcases Nat.lt_or_ge x Y.Z.j with hxj | hxj
   ·obtain⟨g,hg,hw⟩:=C.wrk x hxj
    refine⟨g,by rw[hget _ (by omega) (by omega)];exact hg,?_⟩;rw[hdf];exact hw.re (upd_ne _ _ (by omega)) (upd_ne _ _ (by omega)) (upd_ne _ _ (by omega)) (upd_ne _ _ (by omega)) (upd_ne _ _ (by omega)) rfl rfl
   ·obtain rfl:x=i:=by omega
    refine⟨born PP (task {X.k with L:=L}),by rw[Array.getElem?_push,if_pos (by simp;omega)],?_⟩;rw[hdf,C.ti.above _ (by rw[C.zm];omega)];have e1:Y'.ws x = .mx (bif X.β x then L0 else OUT) 0:=upd_same _ _ _;unfold Wrk;rw[e1];dsimp only;refine⟨Zcp (by cases X.β x<;>decide),.inl ?_⟩;show WTh PP false X.K (upd Y.Z.RO x Oi x) (Z0x (X.kx (upd Y.Lb x L) x) [bot] _ 0) (upd Y.h x hgt x) (upd Y.Z.O x Oi x) 0 _ w;rw[upd_same,upd_same,upd_same,ek];exact hhx
  ·have hx:Y.Z.j+1≤x:=hx
   show upd Y.ws i _ x = .no;rw[upd_ne _ _ (by omega)];exact C.no x (by omega)
  ·rw[m4]
   have:=Mode.opn (ws:=Y'.ws) (tag:=tag') hop'.1 (fun x=>?_) (fun v e=>absurd e (hop'.2.2 v))
   ·rw[hop'.2.1,hvs]at this
    rw[m3];exact this
   ·by_cases hxi:x=i
    ·subst hxi;exact .inr (.inl ⟨_,_,upd_same _ _ _⟩)
    ·rw[show Y'.ws x=Y.ws x from upd_ne _ _ hxi];exact m1 x
  ·have hx:x<Y.Z.j+1:=hx
   show Bx (X.kx (upd Y.Lb i L) x) (upd Y.Z.RO i Oi x) w∧Off3 X.K (X.kx (upd Y.Lb i L) x)
   by_cases hxi:x=i
   ·subst hxi
    rw[ek,upd_same];exact⟨⟨hbi.found,hbi.lamp,.inr (.inr (.inl rfl)),.inr (.inr (.inr rfl))⟩,⟨⟨hok.bO.1,hok.bO.2.1,hok.bO.2.2.1⟩,⟨hb.2.1,hb.2.2.1,hb.2.2.2.1⟩⟩⟩
   ·have e2:X.kx (upd Y.Lb i L) x=X.kx Y.Lb x:=by unfold Ph.kx;rw[upd_ne _ _ hxi]
    rw[e2,upd_ne _ _ hxi];exact C.bx x (by omega)
  ·have hx:x<Y.Z.j+1:=hx
   have hc:upd Y.Z.O i Oi x c:=hc
   by_cases hxi:x=i
   ·subst hxi;rw[upd_same]at hc;exact hOl c hc
   ·rw[upd_ne _ _ hxi]at hc;exact C.low x c (by omega) hc
  ·have hx:x<Y.Z.j+1:=hx
   have ho:upd Y.Z.O i Oi x c:=ho;show upd Y.Z.RO i Oi x c
   by_cases hxi:x=i
   ·subst hxi;rw[upd_same]at ho⊢;exact ho
   ·rw[upd_ne _ _ hxi]at ho⊢;exact C.new x c (by omega) hc ho
  ·have hc:upd Y.Z.RO i Oi x c:=hc
   show upd Y.Z.O i Oi x c
   by_cases hxi:x=i
   ·subst hxi;rw[upd_same]at hc⊢;exact hc
   ·rw[upd_ne _ _ hxi]at hc⊢;exact C.ro x c hc
  ·have hx:x<Y.Z.j+1:=hx
   have hs:∀c it,upd Y.ws i (.mx (bif X.β i then L0 else OUT) 0) x ≠ .mx c it:=hs
   by_cases hxi:x=i
   ·subst hxi;exact absurd (upd_same _ _ _) (hs _ _)
   ·rw[upd_ne _ _ hxi]at hs
    have:=(C.said x (by omega) hs).keep (u:=#[xo,yo]) fun k b hk _ hb'=>?_
    ·exact this
    ·obtain⟨op,hop,hoa⟩:=touch_of hb'
     rcases getElem?_append_cases hop with⟨h,_⟩ | ⟨_,h⟩
     ·omega
     ·simp only[Yb,Yc,Ya,or_false]at h
      rcases h with rfl | rfl
      ·rw[hx1.2]at hoa;cases hoa
      ·rw[hy1.2]at hoa;cases hoa
 ·refine Zaz ?_
  rw[Z1f,Z1f];show phi X.n (vsum Y'.ws) tag'+Y.r+sum3 WS.stg Y'.ws<phi X.n (vsum Y.ws) Y.tag+Y.r+_;rw[hvs];omega
end
end Lift
namespace Lift
open Go Go.Conc Ev
open Mx
open Go.ConcM (OsLater woken_by_blocked quitsD_running)
open Go.ConcN (upd upd_ne upd_same sumTo sumTo_upd)
variable[Jk]
section
variable{F:Array Func}{G:FuncId→Prop}{X:Ph}{Y Y':Da}{gs:Array Goroutine}{w w':World}{t:Trace}{a a' g:Goroutine}{sl:Option (Nat×Nat)}{x d:Nat}{Post:Value→World→Prop}
theorem Wrk.rely(h:Wrk X Y x d a w)(l:Rely X.K (Y.Z.O x) w w'):Wrk X Y x d a w':=by
 unfold Wrk at h⊢
 cases hs:Y.ws x with
 | mx c it =>
  rw[hs]at h;dsimp only at h⊢;exact⟨h.1,h.2.imp (fun h=>h.rely l) id⟩
 | _=>rw[hs]at h;exact h
theorem Ci.at (C : Ci X Y gs w t) (d : Nat) : Ci X Y gs (w.at d) t :=
  { C with
    cal := C.cal
    wrk := fun x hx => let ⟨g, h1, h2⟩ := C.wrk x hx; ⟨g, h1, h2.rely ⟨fun _ _ => rfl, Ye _, rfl, fun h => let ⟨s, hs⟩ := h; ⟨s, ⟨hs.mu, hs.wg, hs.fd⟩⟩⟩⟩
    sh := ⟨C.sh.mu, C.sh.wg, C.sh.fd⟩
    bx := fun x hx => let ⟨h1, h2⟩ := C.bx x hx; ⟨⟨h1.found, h1.lamp, h1.ob, h1.ol⟩, h2⟩ }
theorem Wrk.run(h:Wrk X Y x d g w)(h1:∀c it,Y.ws x = .mx c it→¬(isS1 c=true∧Y.ms=0))(h2:Y.ws x ≠ .qt):g.status = .running:=by
 unfold Wrk at h
 cases hs:Y.ws x with
 | no=>rw[hs]at h;exact h.elim
 | mx c it =>
  rw[hs]at h;dsimp only at h
  rcases h.2 with k | ⟨k1,k2,_⟩
  ·exact k.running Z1J
  ·exact absurd ⟨k1,k2⟩ (h1 c it hs)
 | d1=>rw[hs]at h;exact Z0a h
 | d2=>rw[hs]at h;exact Z0a h
 | d3=>rw[hs]at h;exact Z0a h
 | d4=>rw[hs]at h;exact Z0a h
 | qt=>exact absurd hs h2
theorem Wrk.awake(h:Wrk X Y x d g w):awake g:=by
 unfold Wrk at h;intro t
 cases hs:Y.ws x with
 | no=>rw[hs]at h;exact h.elim
 | mx c it =>
  rw[hs]at h;dsimp only at h
  rcases h.2 with k | ⟨_,_,k,_⟩
  ·rw[k.running Z1J];simp
  ·rw[k];simp
 | d1=>rw[hs]at h;rw[Z0a h];simp
 | d2=>rw[hs]at h;rw[Z0a h];simp
 | d3=>rw[hs]at h;rw[Z0a h];simp
 | d4=>rw[hs]at h;rw[Z0a h];simp
 | qt =>
  rw[hs]at h;dsimp only at h
  rcases h.status with k | k<;>rw[k]<;>simp
theorem Cal.awake(h:Cal X Y a w):awake a:=by
 intro t
 rcases h with h | ⟨_,_,h,_⟩
 ·rw[Z51 h];simp
 ·rw[h];simp
theorem Ci.awake(C:Ci X Y gs w t)(hok:PhOk X):∀g∈gs,Go.Conc.awake g:=by
 intro g hg;obtain⟨i,hi,rfl⟩:=Array.mem_iff_getElem.1 hg;have hgi:gs[i]?=some gs[i]:=Y2 hi;have hm0:=hok.m0
 rcases Nat.eq_zero_or_pos i with h0 | h0
 ·subst h0
  obtain⟨a,ha,hc⟩:=C.cal;rw[hgi]at ha;obtain rfl:=Y1 ha;exact hc.awake
 ·rcases Nat.lt_or_ge i X.m0 with h1 | h1
  ·have:=C.old i _ h0 h1 hgi
   intro t
   rcases this.status with k | k<;>rw[k]<;>simp
  ·have hx:i-X.m0<Y.Z.j:=by have:=C.size;omega
   obtain⟨g,hg',hw⟩:=C.wrk _ hx;rw[show X.m0+(i-X.m0)=i by omega,hgi]at hg';obtain rfl:=Y1 hg';exact hw.awake
theorem Ci.runs(C:Ci X Y gs w t)(hok:PhOk X):∃(i:Nat) (g:Goroutine),gs[i]?=some g∧g.status = .running:=by
 obtain⟨a,ha,hc⟩:=C.cal
 rcases hc with h | ⟨h1,h2,_⟩
 ·exact⟨0,a,ha,Z51 h⟩
 have hm:=C.mode;have hzj:=C.zj;rw[h1]at hm hzj;have hjn:Y.Z.j=X.n:=hzj;have wk:∀x,x<Y.Z.j→(∀c it,Y.ws x = .mx c it→¬(isS1 c=true∧Y.ms=0))→Y.ws x ≠ .qt→∃(i:Nat) (g:Goroutine),gs[i]?=some g∧g.status = .running:=fun x hx k1 k2=>by
  obtain⟨g,hg,hw⟩:=C.wrk x hx;exact⟨_,g,hg,hw.run k1 k2⟩
 have inj:∀x,Y.ws x ≠ .no→x<Y.Z.j:=fun x hx=>by
  rcases Nat.lt_or_ge x Y.Z.j with h | h
  ·exact h
  ·exact absurd (C.no x h) hx
 have key:1≤vsum Y.ws→ZhF Y.ws→∃(i:Nat) (g:Goroutine),gs[i]?=some g∧g.status = .running:=by
  intro hv ho
  -- one that is out of the lock,or one that may move
  have one:∀x,x<3→sticks ((Y.ws x).code (X.β x)) Y.ms=false→∃(i:Nat) (g:Goroutine),gs[i]?=some g∧g.status = .running:=by
   intro x hx3 hst;unfold sticks at hst;simp only[Bool.or_eq_false_iff]at hst;have hne:(Y.ws x).code (X.β x)≠OUT:=fun e=>by rw[e]at hst;cases hst.1
   have hxj:x<Y.Z.j:=by
    rcases Nat.lt_or_ge x Y.Z.j with h | h
    ·exact h
    ·exact absurd (C.out x (hok.βn x (by omega))) hne
   refine wk x hxj (fun c it e=>?_) fun e=>?_
   ·rw[e]at hst
    have h:=hst.2;show ¬(isS1 c=true∧Y.ms=0);rintro⟨k1,k2⟩;have h':(isS1 c&&Nat.beq Y.ms 0)=false:=h;rw[k1,k2]at h'
    cases h'
   ·rw[e]at hne;exact hne rfl
  have ent:=(Z4n C.tab).2.1
  cases s0:sticks ((Y.ws 0).code (X.β 0)) Y.ms
  ·exact one 0 (by omega) s0
  cases s1:sticks ((Y.ws 1).code (X.β 1)) Y.ms
  ·exact one 1 (by omega) s1
  cases s2:sticks ((Y.ws 2).code (X.β 2)) Y.ms
  ·exact one 2 (by omega) s2
  obtain⟨o0,o1,o2⟩:=ent s0 s1 s2;have hcs:∃x,x<3∧(Y.ws x).cnt=1∧(Y.ws x).code (X.β x)=OUT:=by
   have cn:∀y,(Y.ws y).cnt≤1:=fun y=>by cases Y.ws y<;>simp[WS.cnt]
   have:=cn 0;have:=cn 1;have:=cn 2;unfold vsum at hv
   by_cases k0:(Y.ws 0).cnt=1
   ·exact⟨0,by omega,k0,o0⟩
   by_cases k1:(Y.ws 1).cnt=1
   ·exact⟨1,by omega,k1,o1⟩
   ·exact⟨2,by omega,by omega,o2⟩
  obtain⟨x,hx3,hc,hcode⟩:=hcs;refine wk x (inj x fun e=>by rw[e]at hc;cases hc) (fun c it e=>?_) fun e=>by rw[e]at hc;cases hc
  rw[e]at hcode;have hcode:c=OUT:=hcode;subst hcode;rintro⟨k1,_⟩;revert k1
  decide
 generalize hp:Y.s.wg=p at hm;generalize hq:Y.s.ws=q at hm h2
 cases hm with
 | opn k=>exact k.elim
 | reg _ k2 k3=>exact key k3 k2
 | last L _ k2 k3 _ =>
  refine wk L (inj L fun e=>by rw[e]at k3;rcases k3 with k | k<;>cases k) (fun c it e=>by rw[e]at k3;rcases k3 with k | k<;>cases k) fun e=>by rw[e]at k3;rcases k3 with k | k<;>cases k
 | last4 L _ k2 k3 _=>exact wk L (inj L fun e=>by rw[e]at k3;cases k3) (fun c it e=>by rw[e]at k3;cases k3) fun e=>by rw[e]at k3;cases k3
 | sema _ k2=>cases h2
 | fin k=>exact k.elim
def Fin(X:Ph)(Post:Value→World→Prop):Prop:=∀(w':World) (tag:CT) (x:Value) (u:Nat→Value) (f:Frame) (fs:List Frame) (s:Sh),tag = .my∨tag = .mq→SOk ((plM X.k X.T X.n x u tag).an (.tuple #[])).top ((plM X.k X.T X.n x u tag).an (.tuple #[])).rest f fs →
 (∀c,c<X.wS.heap.size→c≠X.K.Mu→c≠X.K.Wg→c≠X.K.Fd→w'.heap[c]?=X.wS.heap[c]?)→X.wS.heap.size≤w'.heap.size→OsLater X.wS.os w'.os→w'.output=X.wS.output→ShAt X.K w' s→s.fd.length=X.n→(∀x,x<X.n→s.fd[x]?=some (X.β x)) →
 Sure PP Post (fun c=>X.D c∨c=X.K.Mu∨c=X.K.Wg) (run1 f (fs++X.cs)) w'
theorem Ci.end(C:Ci X Y gs w t)(hok:PhOk X)(hf:Fin X Post)(h0:gs[0]?=some a)(ht:Y.tag = .my∨Y.tag = .mq)(hat:ZB X.k X.T X.n X.cs Y.tag Y.d0 a){m0:Machine}(hst:stepT PP m0=runT PP (crowd gs w sl) 0):Run PP Post m0 t:=by
 have hm0:=hok.m0;obtain⟨hd,x,u,f,fs,hgo,hk⟩:=Zk3 (m:=true) (w:=w) hok.wok C.sh ht hat
 obtain⟨m1,_,_⟩:=C.mode.fi (by rcases ht with h | h<;>rw[h]<;>trivial);have hq:∀y,y<Y.Z.j→Y.ws y = .qt:=fun y hy=>by
  rcases m1 y with e | e
  ·obtain⟨g,_,hw⟩:=C.wrk y hy
   unfold Wrk at hw;rw[e]at hw;exact hw.elim
  ·exact e
 have hjn:Y.Z.j=X.n:=by rcases ht with h | h<;>(have:=C.zj;rw[h]at this;exact this)
 have l2:=(Y0.1 C.sh.wg).1;have hlt:0<gs.size:=(Y0.1 h0).1;have hrun:=runT_crowd_go (P:=PP) (sl:=sl) (i:=0) h0 (show stepG PP (0==0) a w=_ from hgo);have hti:TI X.K X.D Y.Z w.heap.size X.p0 0 t:=by have:=C.ti;rw[hd]at this;exact this
 have hP:=hti.join (fun y hy=>C.said y hy fun c it e=>by rw[hq y hy]at e;cases e) l2 (fn:=a.frame.fn) (pos:=a.frame.place);have hL:Leavers PP t gs Y.q:=by
  refine⟨fun i g hi hg=>?_,fun j hj=>C.ti.above j (by rw[C.zm];have:=C.size;omega)⟩
  rcases Nat.lt_or_ge i X.m0 with h1 | h1
  ·exact C.old i g hi h1 hg
  ·have hx:i-X.m0<Y.Z.j:=by
    have:=(Y0.1 hg).1;have:=C.size;omega
   obtain⟨g',hg',hw⟩:=C.wrk _ hx;rw[show X.m0+(i-X.m0)=i by omega,hg]at hg';obtain rfl:=Y1 hg';unfold Wrk at hw;rw[hq _ hx,show X.m0+(i-X.m0)=i by omega]at hw;exact hw
 have hfd:∀y,y<X.n→Y.s.fd[y]?=some (X.β y):=fun y hy=>by
  rw[C.fd y hy,hq y (by omega)];show some (X.β y&&pst OUT)=_;rw[show pst OUT=true from rfl,Bool.and_true]
 have hS:=hf w Y.tag x u f fs Y.s ht hk C.kept C.grow C.os C.outp C.sh C.len hfd;exact Run.next (hst.trans hrun) (hS w (Like.refl w) _ sl _ Y.q (Z2u hlt) (Z2F hlt hL) hP)
theorem phase(hok:PhOk X)(S:Strip PP F (CodeOk PP false) G)(hg:GOk PP F G)(hrec:Rec PP)(J:∀x,x<X.n→Job F G X x)(hf:Fin X Post):∀(M:Mt) (Y:Da) (gs:Array Goroutine) (w:World) (sl:Option (Nat×Nat)) (t:Trace),mea X Y gs=M→Ci X Y gs w t→Run PP Post (crowd gs w sl) t:=by
 intro M
 induction M using Zkk.induction with
 | _ M ih =>
 intro Y gs w sl t hM C;subst hM;have hm0:=hok.m0;obtain⟨i,g,d,sl',hi,hr,hst⟩:=crowd_pick (P:=PP) (w:=w) (sl:=sl) (C.awake hok) (C.runs hok);have C':=C.at d;have mv:Z0D X Y gs (w.at d) sl' t i→Run PP Post (crowd gs w sl) t:=by
  rintro⟨Y',gs',w',ops,e,C2,hlt⟩;exact Run.next (hst.trans e) (ih _ hlt Y' gs' w' sl' _ rfl C2)
 rcases Nat.eq_zero_or_pos i with h0 | h0
 ·subst h0
  obtain⟨a,ha,hc⟩:=C'.cal;rw[hi]at ha;obtain rfl:=Y1 ha
  rcases hc with hc | ⟨_,_,hb,_⟩
  ·have stop:ZB X.k X.T X.n X.cs Y.tag Y.d0 g→Run PP Post (crowd gs w sl) t:=by
    intro hat
    cases ht:Y.tag with
    | ma i=>rw[ht]at hat;exact mv (ZkE C' hok hi ht hat)
    | ms i L=>rw[ht]at hat;exact mv (ZkH C' hok hi ht hat)
    | md i L=>rw[ht]at hat;exact mv (ZkF C' hok hi ht hat)
    | mr i L=>rw[ht]at hat;exact mv (ZkG C' hok hi ht hat)
    | mg i L =>
     have htok:=C.tok;rw[ht]at hat htok;exact mv (C'.go hok S hg hrec hi (J i htok) ht hat)
    | w1=>rw[ht]at hat;exact mv (ZkJ C' hok hi ht hat)
    | w2 v=>rw[ht]at hat;exact mv (ZkK C' hok hi ht hat)
    | mx v=>rw[ht]at hat;exact mv (ZkI C' hok hi ht hat)
    | w3=>rw[ht]at hat;exact mv (ZkL C' hok hi ht hat)
    | w4=>rw[ht]at hat;exact mv (ZkM C' hok hi ht hat)
    | my=>exact C'.end hok hf hi (.inl ht) hat hst
    | mq=>exact C'.end hok hf hi (.inr ht) hat hst
   cases hq:Y.h0 with
   | zero=>rw[hq]at hc;exact stop hc
   | succ q =>
    rw[hq]at hc
    rcases hc with hc | ⟨_,g',es,hm,hgo,hc⟩
    ·exact stop hc
    ·exact mv (C'.cquiet hok hi (q:=q) (by rw[hq];exact Nat.lt_succ_self q) hm (hgo _ ⟨_,C'.sh⟩) hc)
  ·rw[hb]at hr;cases hr
 ·rcases Nat.lt_or_ge i X.m0 with h1 | h1
  ·exact mv (C'.leave hok h0 h1 hi hr)
  ·have hx:i-X.m0<Y.Z.j:=by
    have:=(Y0.1 hi).1;have:=C.size;omega
   have e:X.m0+(i-X.m0)=i:=by omega
   have:=C'.work (sl:=sl') hok hx (by rw[e];exact hi) hr;rw[e]at this;exact mv this
end
end Lift
namespace Lift
open Go Go.Conc Ev
open Mx
open Go.ConcM (OsLater woken_by_blocked quitsD_running)
open Go.ConcN (upd upd_ne upd_same sumTo sumTo_upd)
variable[Jk]
def pnq(P:Program)(X:Xt):Nat→St→Bool
 | 0,_=>true
 | n+1,s=>match pmove P X s.top s.rest with
  | some m=>(match m.ev with | .none=>true | _=>false)&&pnq P X n (s.upd m)
  | none=>true
section
variable{F:Array Func}{G:FuncId→Prop}{X:Ph}{w w':World}{Post:Value→World→Prop}{D:Nat→Prop}{f:Frame}{fs cs:List Frame}{k:Wk}{T:Nat→Value}{n:Nat}{x:Value}{u:Nat→Value}
theorem Sure.pn{X:Xt}(hX:XOk PP X):∀(n:Nat) (st:St) {f:Frame} {fs:List Frame},SOk st.top st.rest f fs→pnq PP X n st=true→(pn PP X n st).cvs=[] →
  (∀f' fs',SOk (pn PP X n st).top (pn PP X n st).rest f' fs'→Sure PP Post D (run1 f' (fs'++cs)) w)→Sure PP Post D (run1 f (fs++cs)) w
 | 0,st,f,fs,h,hq,hc,k=>k f fs h
 | n+1,st,f,fs,h,hq,hc,k=>by
  unfold Ev.pn at hc k;unfold pnq at hq
  cases e:pmove PP X st.top st.rest with
  | none=>rw[e]at k;exact k f fs h
  | some mv =>
   rw[e]at hc k hq;dsimp only at hc k hq;rw[Y5]at hq;obtain⟨q1,q2⟩:=hq;obtain⟨f',fs',h',hs⟩:=pmove_ok (cs:=cs) hX h e;obtain⟨m1,_⟩:=pn_mono PP X n (st.upd mv);have hps:mv.ps=[]:=by
    cases hp:mv.ps with
    | nil=>rfl
    | cons a l =>
     have:=m1 a (List.mem_append_left _ (by rw[hp];simp));rw[hc]at this
     cases this
   have hev:mv.ev = .none:=by
    cases hv:mv.ev<;>rw[hv]at q1<;>first | rfl | cases q1
   have hgo:=Sure.pn hX n (st.upd mv) h' q2 hc k;refine Sure.step rfl fun w1 hl=>⟨_,w1,_,hs true w1 (by rw[hps];simp),?_,by rw[hl.1];exact Ye _,hgo.like hl⟩;rw[hev];simp[XEv.es]
theorem q_y:pnq PP xtQ 200 ((cMy k T n n x u).an (.tuple #[]))=true:=by kernel_rfl
theorem q_q:pnq PP xtQ 200 ((cMq k T n n x u).an (.tuple #[]))=true:=by kernel_rfl
def Z7l(X:Ph)(Post:Value→World→Prop):Prop:=∀(w':World) (x:Value) (u:Nat→Value) (f:Frame) (fs:List Frame) (s:Sh),SOk (cMf X.k X.T X.n X.n x u).top (cMf X.k X.T X.n X.n x u).rest f fs →
 (∀c,c<X.wS.heap.size→c≠X.K.Mu→c≠X.K.Wg→c≠X.K.Fd→w'.heap[c]?=X.wS.heap[c]?)→X.wS.heap.size≤w'.heap.size→OsLater X.wS.os w'.os→w'.output=X.wS.output→ShAt X.K w' s→s.fd.length=X.n→(∀x,x<X.n→s.fd[x]?=some (X.β x)) →
 Sure PP Post (fun c=>X.D c∨c=X.K.Mu∨c=X.K.Wg) (run1 f (fs++X.cs)) w'
theorem Z7l.fin(h:Z7l X Post):Fin X Post:=by
 intro w' tag x u f fs s ht hk h1 h2 h3 h4 h5 h6 h7
 rcases ht with rfl | rfl
 ·have e:=m_y X.k X.T X.n X.n x u
  unfold edg at e;simp only[Y9]at e;obtain⟨_,e2,e3,_⟩:=e;refine Sure.pn xokQ 200 _ hk q_y e3 fun f' fs' h'=>?_;have h2':=Z2C h' A42 [];have e2':=e2;rw[show plM X.k X.T X.n x u .my=cMy X.k X.T X.n X.n x u from rfl,e2']at h2';exact h w' x u f' fs' s h2' h1 h2 h3 h4 h5 h6 h7
 ·have e:=m_q X.k X.T X.n X.n x u
  unfold edg at e;simp only[Y9]at e;obtain⟨_,e2,e3,_⟩:=e;refine Sure.pn xokQ 200 _ hk q_q e3 fun f' fs' h'=>?_;have h2':=Z2C h' A42 [];have e2':=e2;rw[show plM X.k X.T X.n x u .mq=cMq X.k X.T X.n X.n x u from rfl,e2']at h2';exact h w' x u f' fs' s h2' h1 h2 h3 h4 h5 h6 h7
def Ph.re(X:Ph)(m0 p0:Nat)(w1:World):Ph:={X with m0:=m0,p0:=p0,wS:=w1}
theorem Sure.phase(hok:PhOk X)(S:Strip PP F (CodeOk PP false) G)(hg:GOk PP F G)(hrec:Rec PP)(J:∀x,x<X.n→Job F G X x)(hb:Z7l X Post)
  (hfd:X.K.Fd≠X.K.Mu∧X.K.Fd≠X.K.Wg∧¬X.D X.K.Fd) (hsh:ShAt X.K X.wS ⟨0,0,0,0,List.replicate X.n false⟩) (h:SOk (sM X.k X.T X.n).top (sM X.k X.T X.n).rest f fs):Sure PP Post X.D (run1 f (fs++X.cs)) X.wS:=by
 intro w1 hl gs sl t q h0 hL hP;have hlt:0<gs.size:=(Y0.1 h0).1;have hX1:PhOk (X.re gs.size t.size w1):=⟨hok.n3,hlt,hok.ok,hok.wok,hok.kn,hok.βn,fun c hc=>by show c<w1.heap.size;rw[hl.1];exact hok.dlow c hc,by show ∃T fz,w1.heap[X.k.I]?=_;rw[hl.1];exact hok.isB,by show ∃T fz,w1.heap[X.k.B]?=_;rw[hl.1];exact hok.fdB,hok.iO,hok.bO⟩;have hJ:∀x,x<X.n→Job F G (X.re gs.size t.size w1) x:=fun x hx=>by
  obtain⟨gf,xs,ys,r,v,R,j1,j2,j3,j4,j5,j6,j7,j8⟩:=J x hx;exact⟨gf,xs,ys,r,v,R,j1,j2,j3,j4.of rfl hl.1 (by show v.os.env=w1.os.env;rw[hl.2.1];exact j4.env),j5,j6,j7,j8⟩
 have hB:Z7l (X.re gs.size t.size w1) Post:=fun w' x u f fs s k1 k2 k3 k4 k5 k6 k7 k8=>by
  refine hb w' x u f fs s k1 (fun c h1 h2 h3 h4=>?_) ?_ ?_ ?_ k6 k7 k8
  ·have:=k2 c (by show c<w1.heap.size;rw[hl.1];exact h1) h2 h3 h4
   rw[this];show w1.heap[c]?=_;rw[hl.1]
  ·have k3:w1.heap.size≤w'.heap.size:=k3
   rw[hl.1]at k3;exact k3
  ·have k4:OsLater w1.os w'.os:=k4
   rw[hl.2.1]at k4;exact k4
  ·have k5:w'.output=w1.output:=k5
   rw[hl.2.2]at k5;exact k5
 obtain⟨q0,hq0⟩:=Zfh (m:=true) (K:=X.K) (cs:=X.cs) h;obtain⟨r,hr⟩:=Option.isSome_iff_exists.1 (Zex (X.β 0) (X.β 1) (X.β 2));have hct:∀c,¬curL (if 0<X.n then CT.ma 0 else .w1) c:=fun c h=>by
  split at h<;>exact h
 generalize htag:(if 0<X.n then CT.ma 0 else .w1)=tag at hq0 hct;have hjt:tagJ X.n tag=0:=by
  subst htag
  split
  ·rfl
  ·show X.n=0
   omega
 have htk:Z7d X.n tag:=by
  subst htag
  split
  ·assumption
  ·trivial
 have hop:Z9A tag∧pend tag=0∧∀v,tag ≠ .w2 v:=by
  subst htag
  split
  ·exact⟨trivial,rfl,fun v e=>by cases e⟩
  ·exact⟨trivial,rfl,fun v e=>by cases e⟩
 have hC:Ci (X.re gs.size t.size w1) {tag:=tag,ws:=fun _=>.no,Lb:=fun _=>0,Z:=⟨gs.size,0,fun _ _=>False,fun _ _=>False,curL tag⟩,h0:=q0,h:=fun _=>.leaf,q:=q,d0:=0,r:=r,mu:=0,ms:=0,s:=⟨0,0,0,0,List.replicate X.n false⟩} gs w1 t:=by
  refine⟨rfl,rfl,hjt.symm,htk,fun i g h1 _ hg=>hL.old i g h1 hg,⟨_,h0,.inl hq0⟩,fun x hx=>absurd hx (Nat.not_lt_zero _),fun _ _=>rfl,⟨by rw[hl.1];exact hsh.mu,by rw[hl.1];exact hsh.wg,by rw[hl.1];exact hsh.fd⟩,rfl,rfl,hr,fun x hx=>?_,by simp[Ph.re],fun x hx=>?_,?_,fun x hx=>absurd hx (Nat.not_lt_zero _),fun x c hx=>absurd hx (Nat.not_lt_zero _),fun x c hx=>absurd hx (Nat.not_lt_zero _),fun x c h=>h.elim,rfl,fun c hc=>absurd hc (hct c),?_,?_,fun x hx=>absurd hx (Nat.not_lt_zero _),fun c _ _ _ _=>rfl,Ye _,OsLater.refl _,rfl⟩
  ·show (bif X.β x then L0 else OUT)=OUT
   have hx:X.β x=false:=hx;rw[hx];rfl
  ·have hx:x<X.n:=hx
   show (List.replicate X.n false)[x]?=some (X.β x&&pst (bif X.β x then L0 else OUT));rw[List.getElem?_replicate,if_pos hx]
   cases X.β x<;>rfl
  ·have:=Mode.opn (ws:=fun _=>WS.no) (tag:=tag) hop.1 (fun x=>.inl rfl) (fun v e=>absurd e (hop.2.2 v))
   rw[hop.2.1]at this;exact this
  ·exact⟨fun i c hi=>absurd hi (Nat.not_lt_zero _),fun i i' c hi=>absurd hi (Nat.not_lt_zero _),fun c hc=>absurd hc (hct c),hfd⟩
  ·have:=TI.begin (K:=X.K) (hP.mono (B':=w1.heap.size) (by rw[hl.1];exact Ye _)) hlt hL.above (fun _ _=>False) (fun _ _=>False) (curL tag)
   exact this
 exact Lift.phase hX1 S hg hrec hJ hB.fin _ _ gs w1 sl t rfl hC
end
end Lift
namespace Lift
open Go Go.Conc Go.RowKit Ev
theorem Zlp:uB = .seq (sqL uB) (.seq (sqL (sqR uB)) (.seq (sqL (sqR (sqR uB))) (.seq (sqL (sqR (sqR (sqR uB)))) (.seq (.seq (sqL (sqL (sqR (sqR (sqR (sqR uB)))))) cBlk) Z6h)))):=by kernel_rfl
theorem Zi3:Tryz.f66.body=some uB:=by kernel_rfl
noncomputable def uF:Frame:={(default:Frame) with fn:=66,kind:=.normal}
def uA(xs:Array Value):Act:={tmps:=xs++Array.replicate (42-xs.size) undef,defers:=[]}
theorem Zc0{Q:Program}(h:Q.funcs[(66:Nat)]?=some Tryz.f66)(xs:Array Value): Frame.enter Q 66 xs .normal=uF.at (uA xs) [.code uB]:=by
 simp[Frame.enter,Frame.at,h,Zi3,uF,uA,Tryz.ntmps66]
def PF1(S:Nat→Prop)(x:Value):Prop:=PV S x∨∃f ys,x = .func (.func f) #[] ys∧∀y∈ys,PV S y
section
variable[Jk]{S:Nat→Prop}{r:Ren}
theorem Z9b{R:Value→Value→Prop}{xs: Array Value}(h:Arr R xs ys)(k:∀x∈xs,∀y,R x y→y=x): ys=xs:=by
 refine Array.ext h.1.symm fun i h1 h2=>?_;exact k _ (Array.getElem_mem h2) _ (h.2 i _ _ (Y2 h2) (Y2 h1))
theorem PF1.same(hi:Idn r){x y:Value}(h:PF1 S x)(k:VR r x y):y=x:=by
 rcases h with h | ⟨f,ys,rfl,h⟩
 ·exact h.same hi k
 ·cases k with
  | @func _ f' _ xs' _ ys' hf hx h1 hy k =>
   cases hf with
   | func _ g =>
    have e1:xs'=#[]:=Array.eq_empty_of_size_eq_zero hx.symm;have e2:ys'=ys:=Z9b (R:=VR r) ⟨hy,k⟩ fun x hx y q=>(h x hx).same hi q;rw[e1,e2]
theorem ZP(hi:Idn r){C:Inv}{v w:World}(h:WH C r v w){b:Nat}(hb:∃c,r b=some c){cs:Array Value}{e:TypeId}(q:v.heap[b]?=some (.cells cs e (0,0)))(hs:cs.size≠0)(hp:∀x∈cs,PF1 S x): w.heap[b]?=some (.cells cs e (0,0)):=by
 obtain⟨c,hc⟩:=hb;obtain rfl:=hi _ _ hc;obtain⟨cs',e1,e2⟩:=Z7w h hc q hs;rw[e1,Z9b e2 fun x hx y k=>(hp x hx).same hi k]
theorem Zen(hi:Idn r){a a':Act}{N:Nat}{L:List (Nat×Value)}(F:Has N [] a L)(h:VRs r a.tmps a'.tmps)(hd:Lis (DR r) a.defers a'.defers)(hN:∀p∈L,p.1<N)(hp:∀k v,L.lookup k=some v→PF1 S v): Has N [] a' L:=by
 obtain⟨at',ad'⟩:=a';refine⟨?_,by rw[←h.1];exact F.sz,fun k v e=>?_⟩
 ·have:=F.ds
  rw[this]at hd
  cases hd;rfl
 ·have h1:=F.get k v e
  have hk:k<N:=by
   have:(k,v)∈L:=by
    clear F hp hN h1
    induction L with
    | nil=>cases e
    | cons p L ih =>
     rw[Yp]at e
     split at e
     ·rename_i q
      obtain rfl:=Y1 e;rw[beq_iff_eq]at q;subst q;exact List.mem_cons_self
     ·exact List.mem_cons_of_mem _ (ih e)
   exact hN _ this
  have h2:k<a.tmps.size:=by rw[F.sz];exact hk
  have h3:k<at'.size:=by rw[←h.1];exact h2
  simp only[Y6]at h1⊢;rw[Y2 h2]at h1;rw[Y2 h3];simp only[Option.getD_some]at h1⊢;have:=h.2 k _ _ (Y2 h2) (Y2 h3);rw[h1]at this;exact(hp k v e).same hi this
def UnS(x:Vm)(cf:FuncId)(ys:Array Value)(v:World)(V:List Frame)(u:World):Prop:=∃T0 T f',V=[f',poison]∧UnA x cf ys (re v T0) uF f' (re u T)
theorem Z1b{J:Jk}(hj:J.j)(hg:∀f,J.gd f↔gT f=true)(hl:∀f,¬J.law f){c:Code}(h:ZR PP gT (fun _ _=>false) true false true false c=true): Z0E PP (Jk.law 66) (¬Jk.gd 66) false c:=by
 have:=@Z1N J Tryz.prog gT true (fun f q=>(hg f).2 q) (fun q=>by cases q) (fun _ _=>false) (fun f n q=>by cases q) c false true false h;have e1:(false=true)=False:=by simp
 have e2:(true=true)=True:=by simp
 rw[e1,e2]at this;have e3:J.law 66=False:=by simp[hl]
 have e4:(¬J.gd 66)=True:=by
  rw[hg];simp only[eq_iff_iff,iff_true]
  decide
 show @Z0E J PP (J.law 66) (¬J.gd 66) false c;rw[e3,e4];exact this
theorem cr0:ZR PP gT (fun _ _=>false) true false true false (sqL uB)=true:=by kernel_rfl
theorem cr1:ZR PP gT (fun _ _=>false) true false true false (sqL (sqR uB))=true:=by kernel_rfl
theorem cr2:ZR PP gT (fun _ _=>false) true false true false (sqL (sqR (sqR uB)))=true:=by kernel_rfl
theorem cr3:ZR PP gT (fun _ _=>false) true false true false (sqL (sqR (sqR (sqR uB))))=true:=by kernel_rfl
theorem cr4:ZR PP gT (fun _ _=>false) true false true false (sqL (sqL (sqR (sqR (sqR (sqR uB))))))=true:=by kernel_rfl
theorem ZgE{x:Vm}{cf:FuncId}(hcf:Jk.gd cf)(hda:PV S (.slice x.da x.D.length x.dc))(hla:PV S (.slice x.la x.L.length x.lc))(hys:∀y∈ys,PV S y):
  VRs (idS S) #[x.val,.func (.func cf) #[] ys] #[x.val,.func (.func cf) #[] ys]:=by
 refine⟨rfl,fun i a b h1 h2=>?_⟩;rw[h1]at h2;obtain rfl:=Y1 h2;have:a=x.val∨a = .func (.func cf) #[] ys:=by
  have:=Yk h1;simpa using this
 rcases this with rfl | rfl
 ·refine .agg rfl fun i a b h1 h2=>?_
  rw[h1]at h2;obtain rfl:=Y1 h2;have:=Yk h1;simp only[Yb,Yc,Ya,or_false]at this
  rcases this with rfl | rfl | rfl | rfl
  ·exact .int _ _
  ·exact hda.vr
  ·exact hla.vr
  ·exact .int _ _
 ·refine .func (.func _ hcf) rfl (by simp) rfl fun i a b h1 h2=>?_
  rw[h1]at h2;obtain rfl:=Y1 h2;exact(hys _ (Yk h1)).vr
theorem Zk9(p q:Value):Has 42 [] (uA #[p,q]) [(0,p),(1,q)]:=by
 refine⟨rfl,by simp[uA],fun k u e=>?_⟩;rw[Yp]at e
 split at e
 ·rename_i q
  rw[beq_iff_eq]at q;subst q;obtain rfl:=Y1 e;simp[uA]
 ·rw[Yp]at e
  split at e
  ·rename_i q
   rw[beq_iff_eq]at q;subst q;obtain rfl:=Y1 e;simp[uA]
  ·cases e
theorem Zi4{J:Jk}(hj:J.j)(hg:∀f,J.gd f↔gT f=true)(hl:∀f,¬J.law f)(hr:J.rest=[.code cBlk,.code Z6h]){D:Nat→Prop}{Post:Value→World→Prop}{x:Vm}{cf:FuncId}{w:World}{cs:List Frame}(h1:1≤x.L.length)(h3:x.L.length≤3)(hcf:gT cf=true)(hS:∀b,S b→∃cs e fz,w.heap[b]?=some (.cells cs e fz))(hSD:∀b,S b→¬D b)(hD:∀c,D c→c<w.heap.size)(hda:PV S (.slice x.da x.D.length x.dc))(hla:PV S (.slice x.la x.L.length x.lc))(hys:∀y∈ys,PV S y) (next:∀(a:Act) (w':World) (n3 n5 n6 n7 n16:Nat),Has 42 [] a [(3,pt n3),(5,pt n5),(6,pt n6),(7,pt n7),(20,.int .i64 ((x.L.length:Nat):Int)),(21,.int .i64 0)] →
   w'.heap[n3]?=some (.cells #[.func (.func cf) #[] ys] 92 (0,0))→w'.heap[n5]?=some (.cells #[.int .u64 0,.int .u32 0] 146 (0,0))→w'.heap[n6]?=some (.cells #[.int .i32 0,.int .u32 0] 150 (0,0)) →
   w'.heap[n7]?=some (.cells #[.slice (some ⟨n16,0,none⟩) x.L.length x.L.length] 151 (0,0))→w'.heap[n16]?=some (.cells (List.replicate x.L.length (Value.bool false)).toArray 4 (0,0)) →
   w.heap.size≤n3→n3<n5→n5<n6→n6<n16→n16<n7→(∀b,b<w.heap.size→w'.heap[b]?=w.heap[b]?)→w'.os=w.os→w'.output=w.output→w.heap.size≤w'.heap.size→Sure PP Post D (run1 (uF.at a [.code cBlk,.code Z6h]) cs) w'):
  Sure PP Post D (run1 (Frame.enter PP 66 #[x.val,.func (.func cf) #[] ys] .normal) cs) w:=by
 have hS2:Strip PP (Qy.F 2) (CodeOk PP false) (fun f=>gT f=true):=strip_T hj hg hl 2;have hG:GOk PP (Qy.F 2) (fun f=>gT f=true):=Zh6 hg hl 2;have hR:Rec PP:=rec_T hl;obtain⟨v,hsh,hwh,hshut⟩:=Z28 (P:=PP) (F:=Qy.F 2) (w:=w) hj hS;have hown:(Qy.F 2)[(66:Nat)]?=PP.funcs[(66:Nat)]?:=Qy.own66.trans (by kernel_rfl);have hargs:=ZgE (S:=S) (x:=x) (cf:=cf) (ys:=ys) ((hg cf).2 hcf) hda hla hys;rw[Zc0 (Q:=PP) (by kernel_rfl)];have hfr:FrR PP (Qy.F 2) (idS S) (uF.at (uA #[x.val,.func (.func cf) #[] ys]) [.code cPre]) (uF.at (uA #[x.val,.func (.func cf) #[] ys]) [.code uB]):=by
  refine⟨rfl,hown,?_,?_,⟨.nil,fun q=>absurd q (hl _)⟩,.run,⟨rfl,.inl rfl⟩,.none⟩
  ·refine Arr.append hargs ⟨rfl,fun i a b q1 q2=>?_⟩
   rw[q1]at q2;obtain rfl:=Y1 q2;have:=Yk q1;simp only[Array.mem_replicate]at this;rw[this.2];exact .undef
  ·have:=Zlp
   generalize h:uB=z at this;refine Todo.cut rfl (fun _=>⟨rfl,rfl⟩) ?_;rw[this,←h];exact .seq (Z1b hj hg hl cr0) (.seq (Z1b hj hg hl cr1) (.seq (Z1b hj hg hl cr2) (.seq (Z1b hj hg hl cr3) (.left (.seq (Z1b hj hg hl cr4) (.stop hr))))))
 have hst:Stk PP (Qy.F 2) (idS S) [uF.at (uA #[x.val,.func (.func cf) #[] ys]) [.code cPre]] [uF.at (uA #[x.val,.func (.func cf) #[] ys]) [.code uB]]:=⟨.cons hfr .nil,⟨.inl rfl,fun h=>absurd rfl h⟩,trivial⟩;have hF:=Zk9 x.val (.func (.func cf) #[] ys);have hEn:Ends (PF PP (Qy.F 2)) (UnS x cf ys v) [uF.at (uA #[x.val,.func (.func cf) #[] ys]) [.code cPre],poison] v:=by
  obtain⟨T0,hw0⟩:=hwh.tape;obtain⟨σ,hw2⟩:=hw0.retape v.tape;refine Z1c hS2 hG hR ?_ (.inl ⟨[],_,[],_,_,rfl,hst,hw2⟩) fun T=>?_
  ·rintro V u T ⟨T1,T2,f',e,q⟩
   exact⟨T1,T2,f',e,q⟩
  ·obtain⟨f',w',hz,n,hn⟩:=Zkb x h3 cf ys (re v T) uF _ hF
   exact⟨n,f',[poison],w',hn,T,w'.tape,f',rfl,hz⟩
 refine Sure.lone (A:=[]) (B:=[]) hS2 hG hR (fun y u=>by rintro⟨T1,T2,f',e,q⟩;cases e) hEn rfl hst hwh ⟨fun b c hb=>by obtain⟨q1,rfl⟩:=Z0z hb;exact hSD _ q1,hD⟩ ?_;intro f' A' g' B' r' v' w' hs hst' hw' hk;obtain⟨T1,T2,f2,e,hq⟩:=hs;simp only[List.cons.injEq]at e;obtain⟨rfl,e⟩:=e;have hA:A'=[]:=by
  cases A' with
  | nil=>rfl
  | cons a0 l0 =>
   have:=congrArg List.length e;simp at this
 subst hA;have hB:B'=[]:=by
  obtain⟨_,h,_⟩:=hst'.uncons;have:=h.rel
  cases B' with
  | nil=>rfl
  | cons b bs=>cases this
 subst hB;obtain⟨a,n3,n5,n6,n7,n16,rfl,F,q3,q5,q6,q7,q16,l3,l5,l6,l16,l7,E⟩:=hq.ex;have hi:Idn r':=fun b c hb=>by
  rcases (hk.par hsh.size).2.1 b c hb with q | q
  ·exact(Z0z q).2
  ·exact q.symm
 have hf:=hst'.uncons.1;obtain⟨gfn,gt,gtodo,gdef,gmode,gkind,gound⟩:=g';obtain⟨f1,_,f3,f4,f5,f6,f7,f8⟩:=hf;have e1:gtodo=[.code cBlk,.code Z6h]:=by
  have f4 : Todo _ _ _ _ _ [.code (.refuse ""), .code (.refuse "")] gtodo := f4
  cases f4 with
  | cons x y =>
   cases x with
   | code hc=>exact hc.elim
  | cut _ _ h =>
   cases h with
   | stop h=>rw[←h,hr]
 have e2:gmode = .run:=by cases f6;rfl
 have e3:gound=none:=by cases f8;rfl
 obtain⟨f7,_⟩:=f7;obtain⟨f5,_⟩:=f5;dsimp only[Frame.at,uF]at f1 f3 f5 f7;subst e1 e2 e3 f1 f7;have slot:∀k n,k<42→a.tmps.getD k undef=pt n→∃c,r' n=some c:=by
  intro k n hk e;have h2:k<a.tmps.size:=by rw[F.sz];exact hk
  have h3:k<gt.size:=by rw[←f3.1];exact h2
  have:=f3.2 k _ _ (Y2 h2) (Y2 h3);rw[Y6,Y2 h2]at e;simp only[Option.getD_some]at e;rw[e]at this;generalize gt[k]=z at this
  cases this with
  | ptr q=>cases q with | mk q=>exact⟨_,q⟩
 have F2:Has 42 [] a [(3,pt n3),(5,pt n5),(6,pt n6),(7,pt n7),(20,.int .i64 ((x.L.length:Nat):Int)),(21,.int .i64 0)]:=F.sub (.c 3 rfl (.c 5 rfl (.c 6 rfl (.c 7 rfl (.c 20 rfl (.c 21 rfl .n))))));have s3:=slot 3 n3 (by decide) (F2.get 3 _ rfl);have s5:=slot 5 n5 (by decide) (F2.get 5 _ rfl);have s6:=slot 6 n6 (by decide) (F2.get 6 _ rfl);have s7:=slot 7 n7 (by decide) (F2.get 7 _ rfl);have o7:=ZP (S:=fun _=>True) hi hw' s7 q7 (by simp) (by simp[PF1,PV]);have s16:∃c,r' n16=some c:=by
  obtain⟨c,hc⟩:=s7;obtain⟨cs',_,k2⟩:=Z7w hw' hc q7 (by simp);have:=k2.2 0 _ (cs'[0]'(by rw[←k2.1];simp)) rfl (Y2 _);generalize cs'[0]'(by rw[←k2.1];simp)=z at this
  cases this with
  | sl _ _ q=>cases q with | mk q=>exact⟨_,q⟩
 refine next ⟨gt,gdef⟩ w' n3 n5 n6 n7 n16 (Zen (S:=fun _=>True) hi F2 f3 f5 (by simp) ?_) (ZP (S:=S) hi hw' s3 q3 (by simp) ?_) (ZP (S:=S) hi hw' s5 q5 (by simp) (by simp[PF1,PV])) (ZP (S:=S) hi hw' s6 q6 (by simp) (by simp[PF1,PV])) o7 (ZP (S:=S) hi hw' s16 q16 (by simp only[List.size_toArray,List.length_replicate];omega) ?_) (by rw[←hsh.size];exact l3) l5 l6 l16 l7 ?_ hk.os.2.symm hk.out hk.sizeW
 ·intro k u e
  have:u=pt n3∨u=pt n5∨u=pt n6∨u=pt n7∨u = .int .i64 ((x.L.length:Nat):Int)∨u = .int .i64 0:=by
   simp only[Yp,List.lookup_nil]at e
   repeat' split at e
   all_goals first | (cases e;done) | (obtain rfl:=Y1 e;simp)
  rcases this with rfl | rfl | rfl | rfl | rfl | rfl<;>exact .inl trivial
 ·intro y hy
  simp only[Yb,Yc,Ya,or_false]at hy;exact .inr ⟨_,_,hy,hys⟩
 ·intro y hy
  simp only[Yb,List.mem_replicate]at hy;rw[hy.2];exact .inl trivial
 ·intro b hb
  by_cases q:S b
  ·exact hk.shutW b b (hshut _ _ (Z1i q)) (Z1i q)
  ·refine hk.far b hb fun c hc=>?_
   obtain⟨q1,q2⟩:=Z0z hc;exact q (q2▸q1)
end
end Lift
end Go.Proofs.YtfelljbfeoplhaaGreat
