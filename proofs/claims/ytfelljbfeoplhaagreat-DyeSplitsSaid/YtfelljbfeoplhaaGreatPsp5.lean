/- Parts of a proof: Bq, Br, Dlt, Dki, Dch, Dcp, Dck, Dck2, Dvt, Dtb, Dvb, Uy, Zg, Jd, Ev, Ew, Au, Exo. No conditions. -/
import Derived.Conc.DeferLaws
import Derived.Conc.MarkLaws
import Derived.Conc.SmallLaws
import Derived.KernelRfl
import Derived.Laws.IdiomCopy
import Derived.Laws.LoneSync
import Derived.Laws.Slices
import Derived.Test.YtfelljbfeoplhaaGreatProg
import Derived.WideShapes
import Derived.Test.YtfelljbfeoplhaaGreatPsp1
import Derived.Test.YtfelljbfeoplhaaGreatPsp2
import Derived.Test.YtfelljbfeoplhaaGreatPsp3
import Derived.Test.YtfelljbfeoplhaaGreatPsp4
set_option linter.unusedVariables false
set_option linter.unusedSimpArgs false
set_option linter.unusedSectionVars false
set_option maxRecDepth 100000
set_option maxHeartbeats 4000000
namespace Go.Proofs.YtfelljbfeoplhaaGreat
variable{y:Go.Operand}{c d:Go.Code}{p:Prop}{n off t:Nat}{M:List (Go.Value×List Int)}{l m xs:List Int}{w:Go.World}{a:Option Go.Addr}{o:Go.Oper}{ρ ρ':Go.Operand→Go.Value}{g:Go.FuncId}
section
open Go Go.RowKit
variable{μ:Nat}
def Ze2:List Fc→Option (List Fc)
 | []=>some []
 | f::L=>match Ze2 L with
  | some R=>some (f::R)
  | none=>none
def ZeP(L:List Fc):List Nat→Option (List Fc)
 | []=>some []
 | i::l=>match nth L i,ZeP L l with
  | some f,some R=>some (f::R)
  | _,_=>none
inductive AmF(L:List Fc):List Fc→Prop
 | n:AmF L []
 | c {f R} (i:Nat) (h:nth L i=some f) (r:AmF L R):AmF L (f::R)
theorem Bk.am{w:World}{L:List Fc}(B:Bk w L):∀{R:List Fc},AmF L R→Bk w R
 | [],_=>trivial
 | f::R,.c i h r=>⟨B.get h,Bk.am B r⟩
theorem ZbL:∀{L R:List Fc},Ze2 L=some R→L=R
 | [],R,h=>by cases h;rfl
 | f::L,R,h=>by
  simp only[Ze2]at h
  split at h
  ·rename_i R' h1
   cases h
   rw[ZbL h1]
  ·cases h
theorem ZcP{L:List Fc}:∀{l:List Nat} {R:List Fc},ZeP L l=some R→AmF L R
 | [],R,h=>by cases h;exact .n
 | i::l,R,h=>by
  simp only[ZeP]at h
  split at h
  ·rename_i f R' h1 h2
   cases h
   exact .c i h1 (ZcP h2)
  ·cases h
theorem Bk.z{w:World}{L L':List Fc}(B:Bk w L)(h:Ze2 L=some L':=by rfl): Bk w L':=ZbL h▸B
theorem Bk.u{w:World}{L L':List Fc}(B:Bk w L)(h:AmF L L':=by repeat (first | exact .n | refine .c 0 rfl ?_ | refine .c 1 rfl ?_ | refine .c 2 rfl ?_ | refine .c 3 rfl ?_ | refine .c 4 rfl ?_ | refine .c 5 rfl ?_ | refine .c 6 rfl ?_ | refine .c 7 rfl ?_ | refine .c 8 rfl ?_ | refine .c 9 rfl ?_ | refine .c 10 rfl ?_ | refine .c 11 rfl ?_ | refine .c 12 rfl ?_ | refine .c 13 rfl ?_ | refine .c 14 rfl ?_ | refine .c 15 rfl ?_ | refine .c 16 rfl ?_ | refine .c 17 rfl ?_ | refine .c 18 rfl ?_ | refine .c 19 rfl ?_ | refine .c 20 rfl ?_ | refine .c 21 rfl ?_ | refine .c 22 rfl ?_ | refine .c 23 rfl ?_)): Bk w L':=B.am h
theorem Bk.b{w:World}{L L':List Fc}(B:Bk w L)(l:List Nat)(h:ZeP L l=some L':=by rfl): Bk w L':=B.am (ZcP h)
section
variable{P:Program}{Q:Exit→Act→World→Prop}{N:Nat}{D:List Deferred}{a:Act}{L L0:List (Nat×Value)}{S:List Fc}{w:World}{v:Value}
theorem wR{id:Nat}{l:List Oper}{y:Code}(h:∀{K:Act→World→Prop},(∀{a w},y.wp P Q a w→K a w)→wpList P l.toArray (Exit.then K Q) l a w): (Code.seq (.region id l.toArray false) y).wp P Q a w:=wp_seq_k fun K hK=>Yg (h fun {a w}=>hK a w)
theorem wQ{x y:Code}(h:∀{K:Act→World→Prop},(∀{a w},y.wp P Q a w→K a w)→x.wp P (Exit.then K Q) a w): (Code.seq x y).wp P Q a w:=wp_seq_k fun K hK=>h fun {a w}=>hK a w
theorem ent{f:FuncId}{args:List Value}{R:Ending→World→Prop}(N:Nat)(fn:Func)(hb:fn.body=some c)(hf:P.funcs[f]?=some fn:=by kernel_rfl)(hN:fn.ntmps=N:=by rfl)(hle:args.length≤N:=by exact Nat.le_of_ble_eq_true rfl)(h:∀{a},Has N [] a (argL 0 args)→c.wp P (bodyPost P fn R) a w): Calls P f args.toArray w R:=Z0m N hf hb hN hle fun _ F=>h F
theorem wX{id:Nat}{l:List Oper}(n:Nat)(B:Bk w S)(hm:P.follows .mixedOrders=true:=by exact follows)(hB:Region.lexTailB .any l.toArray n=true:=by kernel_rfl)(h:∀{W:World},Bk W S→wpStill P l.toArray W (fun a'=>wpList P l.toArray Q (l.drop n) a' W) (l.take n) a): (Code.region id l.toArray true).wp P Q a w:=Z89 n hm hB fun W hh eh=>h (B.ex eh)
theorem lpC(F:Has N D a L0)(B:Bk w S)(M:Nat)(f:Nat→List (Nat×Value))(h0:Has N D a (f 0++L0))(round:∀{a w} i,i≤M→Has N D a (f i++L0)→Bk w S→c.wp P (Exit.then (fun a' w'=>i<M∧Has N D a' (f (i+1)++L0)∧Bk w' S) Q) a w): (Code.loop c).wp P Q a w:=
 Z7J F M (fun i Lv W=>Lv=f i∧Bk W S) ⟨_,⟨rfl,B⟩,h0⟩ fun i Lv a w hi h F=>by
  obtain⟨rfl,B⟩:=h;refine wp_mono (round i hi F B) fun e a w h=>?_
  cases e<;>first | exact h | exact⟨h.1,_,⟨rfl,h.2.2⟩,h.2.1⟩
theorem lpB(F:Has N D a L0)(B:Bk w S)(M:Nat)(J:Nat→List (Nat×Value)→List Fc→World→Prop)(h0:∃Lv Sv,Has N D a (Lv++L0)∧Bk w (Sv++S)∧J 0 Lv Sv w)(round:∀i {a w Lv Sv},i≤M→J i Lv Sv w→Has N D a (Lv++L0)→Bk w (Sv++S)→c.wp P (Exit.then (fun a' w'=>i<M∧∃Lv' Sv',Has N D a' (Lv'++L0)∧Bk w' (Sv'++S)∧J (i+1) Lv' Sv' w') Q) a w): (Code.loop c).wp P Q a w:=by
 obtain⟨Lv,Sv,h3,h2,h1⟩:=h0;refine Z7J F M (fun i Lv W=>∃Sv,J i Lv Sv W∧Bk W (Sv++S)) ⟨Lv,⟨Sv,h1,h2⟩,h3⟩ fun i Lv a w hi h F=>?_;obtain⟨Sv,h4,h5⟩:=h;refine wp_mono (round i hi h4 F h5) fun e a w h=>?_
 cases e<;>first | exact h | exact⟨h.1,by obtain⟨-,Lv',Sv',h8,h7,h6⟩:=h;exact⟨Lv',⟨Sv',h6,h7⟩,h8⟩⟩
theorem Has.cT{x:Operand}(F:Has N D a L)(hx:opv L x=some (.bool true):=by rfl)(h:c.wp P Q a w): (Code.cond x c d).wp P Q a w:=wp_cond_true (F.op hx) h
theorem Has.cF{x:Operand}(F:Has N D a L)(hx:opv L x=some (.bool false):=by rfl)(h:d.wp P Q a w): (Code.cond x c d).wp P Q a w:=wp_cond_false (F.op hx) h
theorem Has.ci{k:Nat}{_:Decidable p}(F:Has N D a L)(ht:p→c.wp P Q a w)(hf:¬p→d.wp P Q a w)(hx:L.lookup k=some (.bool (decide p)):=by rfl): (Code.cond (.tmp k) c d).wp P Q a w:=ZbD F hx ht hf
theorem Has.cb{k:Nat}{b:Bool}(F:Has N D a L)(ht:b=true→c.wp P Q a w)(hf:b=false→d.wp P Q a w)(hx:L.lookup k=some (.bool b):=by rfl): (Code.cond (.tmp k) c d).wp P Q a w:=cd_b F hx ht hf
theorem Has.JF{k:Nat}{_:Decidable p}(F:Has N D a L)(hx:L.lookup k=some (.bool (decide p)):=by rfl)(hb:¬p:=by omega)(h:d.wp P Q a w): (Code.cond (.tmp k) c d).wp P Q a w:=wp_cond_false (by rw[F.at hx,decide_eq_false hb]) h
theorem Has.jF{k:Nat}{b:Bool}(F:Has N D a L)(hb:b=false)(hx:L.lookup k=some (.bool b):=by rfl)(h:d.wp P Q a w): (Code.cond (.tmp k) c d).wp P Q a w:=wp_cond_false (by rw[F.at hx,hb]) h
variable{fn:Func}{R:Ending→World→Prop}
inductive RetTo(Q':Exit→Act→World→Prop):(Exit→Act→World→Prop)→Prop
 | t {K:Act→World→Prop} {Z:Exit→Act→World→Prop} (h:RetTo Q' Z):RetTo Q' (Exit.then K Z)
 | b {id:Nat} {Z:Exit→Act→World→Prop} (h:RetTo Q' Z):RetTo Q' (Exit.inBlock id Z)
 | g {Z:Exit→Act→World→Prop} (h:RetTo Q' Z):RetTo Q' (Exit.noGoto Z)
 | r:RetTo Q' Q'
theorem RetTo.go{Q':Exit→Act→World→Prop}:∀{Q:Exit→Act→World→Prop},RetTo Q' Q→Q' .ret a w→Q .ret a w
 | _,.t h,k=>by have:=RetTo.go h k;exact this
 | _,.b h,k=>by have:=RetTo.go h k;exact this
 | _,.g h,k=>by have:=RetTo.go h k;exact this
 | _,.r,k=>k
theorem rtt{Z Z':Exit→Act→World→Prop}(h:RetTo Z Z':=by repeat (first | refine .t ?_ | refine .b ?_ | refine .g ?_ | exact .r)): RetTo Z Z':=h
theorem Has.rg(F:Has N [] a L)(hr:(results fn a.tmps).run P w = .ok v w)(hQ:RetTo (bodyPost P fn R) Q:=by exact rtt)(h:R (.returned v) w):Code.ret.wp P Q a w:=wp_ret (hQ.go (rt_v F hr h))
theorem Has.r1(F:Has N [] a L)(hQ:RetTo (bodyPost P fn R) Q:=by exact rtt)(hr:fn.results=#[.tmp t]:=by rfl)(hv:L.lookup t=some v:=by rfl)(h:R (.returned v) w): Code.ret.wp P Q a w:=wp_ret (hQ.go (rt_v F (rs_1 F hr hv) h))
theorem Has.r2{s: Nat}{u:Value}(F:Has N [] a L)(hQ:RetTo (bodyPost P fn R) Q:=by exact rtt)(hr:fn.results=#[.tmp t,.tmp s]:=by rfl)(hv:L.lookup t=some v:=by rfl)(hu:L.lookup s=some u:=by rfl)(h:R (.returned (.tuple #[v,u])) w): Code.ret.wp P Q a w:=wp_ret (hQ.go (rt_v F (rs_2 F hr hv hu) h))
inductive EndTo(Q':Exit→Act→World→Prop):(Exit→Act→World→Prop)→Exit→Prop
 | t {K:Act→World→Prop} {Z:Exit→Act→World→Prop} {i:Nat} (h:EndTo Q' Z (.exit i)):EndTo Q' (Exit.then K Z) (.exit i)
 | b {Z:Exit→Act→World→Prop} {i:Nat} (h:EndTo Q' Z .normal):EndTo Q' (Exit.inBlock i Z) (.exit i)
 | c {Z:Exit→Act→World→Prop} {i:Nat} (h:EndTo Q' Z .normal):EndTo Q' (Exit.inBlock i Z) .normal
 | d {Z:Exit→Act→World→Prop} {i j:Nat} (hn:(j==i)=false) (h:EndTo Q' Z (.exit j)):EndTo Q' (Exit.inBlock i Z) (.exit j)
 | r:EndTo Q' Q' .normal
theorem EndTo.go{Q':Exit→Act→World→Prop}{a:Act}{w:World}:∀{Q:Exit→Act→World→Prop} {e:Exit},EndTo Q' Q e→Q' .normal a w→Q e a w
 | _,_,.t h,k=>by have:=EndTo.go h k;exact this
 | _,_,.b h,k=>by have:=EndTo.go h k;show (if _ then _ else _);rw[if_pos rfl];exact this
 | _,_,.c h,k=>by have:=EndTo.go h k;exact this
 | _,_,.d hn h,k=>by have:=EndTo.go h k;show (if _ then _ else _);rw[if_neg (by simpa using hn)];exact this
 | _,_,.r,k=>k
variable{e:Exit}{ops:Array Oper}
theorem ett{Z Z':Exit→Act→World→Prop}(h:EndTo Z Z' e:=by repeat (first | refine .t ?_ | refine .b ?_ | refine .c ?_ | refine .d rfl ?_ | exact .r)): EndTo Z Z' e:=h
theorem Has.e0(F:Has N [] a L)(hQ:EndTo (bodyPost P fn R) Q e:=by exact ett)(hr:fn.results=#[]:=by rfl)(h:R (.returned (.tuple #[])) w):Q e a w:=hQ.go (ZhN F (rs_0 hr) h)
theorem Has.f0(F:Has N [] a L)(hQ:EndTo (bodyPost P fn R) Q .normal:=by exact ett)(hr:fn.results=#[]:=by rfl)(h:R (.returned (.tuple #[])) w):wpList P ops Q [] a w:=hQ.go (ZhN F (rs_0 hr) h)
end
variable{μ:Nat}
theorem nex{X:List Nat}{L:List Fc}(h:NeX X L:=by repeat (first | exact .n | (refine .q (by first | (simp;done) | (simp;omega)) ?_) | (refine .e (by intro i hi hl;simp only[Yc,Ya,or_false]at hi⊢;omega) ?_) | (refine .o (by first | (simp;done) | (simp;omega)) ?_) | (refine .f (by first | (simp;done) | (simp;omega)) ?_))): NeX X L:=h
theorem neg{B:Nat}{E:TypeId}{V:Value}{L:List Fc}(h:NeG B E V L:=by repeat (first | exact .n | (refine .q (by first | exact .inl (by decide) | exact .inr (.inl (by omega)) | exact .inr (.inr (by first | assumption | exact LtA.own 0 (by assumption) (by rfl) | exact LtA.own 1 (by assumption) (by rfl) | exact LtA.own 2 (by assumption) (by rfl) | exact LtA.own 3 (by assumption) (by rfl) | exact LtA.own 4 (by assumption) (by rfl) | exact LtA.own 5 (by assumption) (by rfl) | exact LtA.own 6 (by assumption) (by rfl) | exact LtA.own 7 (by assumption) (by rfl) | exact LtA.own 8 (by assumption) (by rfl) | exact LtA.own 9 (by assumption) (by rfl)))) ?_) | (refine .e (.inl (by omega)) ?_) | (refine .e (.inr (by intro c h;cases h;simp)) ?_) | (refine .o (by decide) ?_) | (refine .l ⟨by omega,by decide⟩ ?_) | (refine .f (by decide) ?_))): NeG B E V L:=h
section
variable{w w' w2 w0:World}{L L0 L' S S0 S':List Fc}{n c i b m:Nat}{T e s:Nat}{cs cs':Array Value}{X:List Nat}{v v':Value}{xs xs':List Value}
theorem Bk.rQ(B:Bk w L)(i:Nat)(h:w.heap[n]?=some (.cells cs T (0,0)))(hu:upf L i (.q n cs T)=some L':=by rfl):Bk w L':=B.r (g:=.q n cs T) i h hu
theorem Bk.rO(B:Bk w L)(i:Nat)(h:w.ownsRow b e s v n xs)(hu:upf L i (.o b e s v n xs)=some L':=by rfl):Bk w L':=B.r (g:=.o b e s v n xs) i h hu
theorem Bk.rF(B:Bk w L)(i:Nat)(h:FamT w b M)(hu:upf L i (.f b M)=some L':=by rfl): Bk w L':=B.r (g:=.f b M) i h hu
theorem Bk.rL(B:Bk w L)(i:Nat)(h:Zg w0 w b m v)(hu:upf L i (.l w0 b m v)=some L':=by rfl):Bk w L':=B.r (g:=.l w0 b m v) i h hu
theorem Bk.x(B:Bk w L)(h:Ext X w w')(hn:NeX X L:=by exact nex):Bk w' L:=Bk.xx h B hn
theorem Bk.xl(B:Bk w L)(i:Nat)(h:Ext X w w')(hl:Zg w0 w' b m v)(h0:delf L i=some L0:=by rfl)(hu:upf L i (.l w0 b m v)=some L':=by rfl)(hn:NeX X L0:=by exact nex):Bk w' L':=Bk.up (g:=.l w0 b m v) hl hu fun L1 h1=>by
 rw[h0]at h1
 cases h1
 exact Bk.xx h (B.del h0) hn
theorem Bk.k(B:Bk w L)(i:Nat)(h:Ext X w w')(hi:nth L i=some (.q n cs T):=by rfl)(hx:n ∉ X:=by first | (simp;done) | (simp;omega)):w'.heap[n]?=some (.cells cs T (0,0)):=h.keep (B.get hi) hx
theorem Bk.gr{n':Nat}(B:Bk w L)(i:Nat)(hg:w.grownBy w' v.ownBlock)(ho:w'.ownsRow b e s v' n' xs')(hi:nth L i=some (.o b e s v n xs):=by rfl)(h0:delf L i=some L0:=by rfl)(hn:NeG b e v L0:=by exact neg)(hu:upf L i (.o b e s v' n' xs')=some L':=by rfl):Bk w' L':=Bk.up (g:=.o b e s v' n' xs') ho hu fun L1 h1=>by
 rw[h0]at h1
 cases h1
 exact Bk.grow (B.get hi) hg (B.del h0) hn
theorem Bk.pr{l:List Value}(B:Bk w S)(i:Nat)(hw:w2=w.setCells n off l)(hp:w2.heap[n]?=some (.cells cs' T (0,0)))(hi:nth S i=some (.q n cs T):=by rfl)(hu:upf S i (.q n cs' T)=some S':=by rfl)(h0:delf S i=some S0:=by rfl)(hn:NeA n T S0:=by exact nea): Bk w2 S':=Bk.up (g:=.q n cs' T) hp hu fun L1 h1=>by
 rw[h0]at h1
 cases h1
 exact Bk.cells hw (B.get hi) (B.del h0) hn
end
section
variable{P:Program}{ops:Array Oper}{Q:Exit→Act→World→Prop}{o:Oper}{rest:List Oper}{N:Nat}{D:List Deferred}{a:Act}{L:List (Nat×Value)}{w w0:World}{v:Value}{d:Nat}{S S0 S':List Fc}{X:List Nat}
def Z9Y(P:Program)(t e k:TypeId):Bool:=match P.underlying t with
 | some (.slice e')=>Nat.beq e' e&&Z43 P e k
 | _=>false
theorem Z9Z{e k: Nat}(h:Z9Y P t e k=true): P.underlying t=some (.slice e)∧(P.info? e).map (·.size)=some k:=by
 unfold Z9Y at h
 split at h
 ·rename_i e' he
  simp only[Y5]at h;rw[he,Nat.eq_of_beq_eq_true h.1];exact⟨rfl,Z1m h.2⟩
 ·cases h
theorem Has.bS{e n size: Nat}{l:List (Nat×Operand)}{vs:List (Nat×Value)}{z:Value}(F:Has N D a L)(cells:Array Value)(hz:∀w,(zeroValue e).run P w = .ok z w)(ho:o.op = .buildSlice t n l.toArray)(hp:opvp L l=some vs)(hk:Z9Y P t e size=true)(hn:n*size≤2 ^ 24)(hn0:n*size≠0)(hf:Instr.fill (fun i=>some (i*size,size)) ((Array.range (n*size)).map (z.cells[· % z.cells.size]!)) vs=some cells): (execOp a.eval o).run P w = .ok (.value (.slice (some ⟨w.heap.size,0,none⟩) n n)) (w.alloc (.cells cells e)):=ZX ho (F.opp hp) (Z9Z hk).1 (Z9Z hk).2 hn hn0 hz hf
theorem Has.bs{e n: Nat}{l:List (Nat×Operand)}{vs:List (Nat×Value)}{z:Value}(F:Has N D a L)(B:Bk w S)(size:Nat)(cells:Array Value)(hz:∀w,(zeroValue e).run P w = .ok z w)(ho:o.op = .buildSlice t n l.toArray:=by rfl)(hp:opvp L l=some vs:=by rfl)(hk:Z9Y P t e size=true:=by kernel_rfl)(hn:n*size≤2 ^ 24:=by decide)(hn0:n*size≠0:=by decide)(hf:Instr.fill (fun i=>some (i*size,size)) ((Array.range (n*size)).map (z.cells[· % z.cells.size]!)) vs=some cells:=by kernel_rfl)(hd:o.dst=some d:=by rfl)(hN:d<N:=by decide)(hw:Z0e L ops o=some true:=by rfl)(h:∀{k w2 a2},LtA k S→Has N D a2 ((d,.slice (some ⟨k,0,none⟩) n n)::L)→Bk w2 (.q k cells e::S)→wpList P ops Q rest a2 w2): wpList P ops Q (o::rest) a w:=
 Z5Q F hd hN (F.want hw) (F.bS cells hz ho hp hk hn hn0 hf) fun _ _ F hw=>h (B.lt rfl) F ⟨Z05 hw rfl,B.al hw⟩
theorem Has.ixr{p:Option Addr}{sz n:Nat}{row:Nat→List Value}{x ix:Operand}{t:TypeId}{k:IntKind}{j:Int}{len cap:Nat}(F:Has N D a L)(H:SlAt X w0 p sz n row)(i:Nat)(hi:i<n)(ho:o.op = .indexAddr t x ix)(hx:opv L x=some (.slice p len cap))(hj:opv L ix=some (.int k j))(hij:j=(i:Int))(hl:i<len)(hk:eltB P t sz=true): ∃b off,(∀W,Ext X w0 W→W.rangeAt b (off+i*sz) (row i))∧∀{w},(execOp a.eval o).run P w = .ok (.value (.pointer (some ⟨b,off+i*sz,none⟩))) w:=by
 subst hij;obtain⟨b,off,hp,hr⟩:=H i hi;exact⟨b,off,hr,F.is sz hp ho hx hj hk (by omega) (by omega)⟩
theorem Has.ix{p:Option Addr}{sz n:Nat}{row:Nat→List Value}{x ix:Operand}{t:TypeId}{k:IntKind}{j:Int}{len cap:Nat}(F:Has N D a L)(H:SlAt X w0 p sz n row)(i:Nat)(hi:i<n:=by omega)(ho:o.op = .indexAddr t x ix:=by rfl)(hx:opv L x=some (.slice p len cap):=by rfl)(hj:opv L ix=some (.int k j):=by rfl)(hij:j=(i:Int):=by first | rfl | omega)(hl:i<len:=by omega)(hk:eltB P t sz=true:=by kernel_rfl)(hd:o.dst=some d:=by rfl)(hN:d<N:=by decide)(hw:Z0e L ops o=some true:=by rfl)
  (h:∀{b off a2},(∀W,Ext X w0 W→W.rangeAt b (off+i*sz) (row i))→Has N D a2 ((d,.pointer (some ⟨b,off+i*sz,none⟩))::L)→wpList P ops Q rest a2 w):wpList P ops Q (o::rest) a w:=by
 obtain⟨b,off,hr,h1⟩:=F.ixr H i hi ho hx hj hij hl hk;exact Has.y F h1 hd hN hw fun F=>h hr F
theorem Has.sx{K:Act→Prop}{p:Option Addr}{sz n:Nat}{row:Nat→List Value}{x ix:Operand}{t:TypeId}{k:IntKind}{j:Int}{len cap:Nat}(F:Has N D a L)(H:SlAt X w0 p sz n row)(i:Nat)(hi:i<n:=by omega)(ho:o.op = .indexAddr t x ix:=by rfl)(hx:opv L x=some (.slice p len cap):=by rfl)(hj:opv L ix=some (.int k j):=by rfl)(hij:j=(i:Int):=by first | rfl | omega)(hl:i<len:=by omega)(hk:eltB P t sz=true:=by kernel_rfl)(hd:o.dst=some d:=by rfl)(hN:d<N:=by decide)(hw:Z0e L ops o=some true:=by rfl)(h:∀{b off a2},(∀W,Ext X w0 W→W.rangeAt b (off+i*sz) (row i))→Has N D a2 ((d,.pointer (some ⟨b,off+i*sz,none⟩))::L)→wpStill P ops w K rest a2): wpStill P ops w K (o::rest) a:=by
 obtain⟨b,off,hr,h1⟩:=F.ixr H i hi ho hx hj hij hl hk;exact Has.s F h1 hd hN hw fun F=>h hr F
theorem Has.kr{f:FuncId}{args:Array Value}{R:Ending→World→Prop}(F:Has N D a L)(hr:(execOp a.eval o).run P w = .ok (.enter f args) w)(hc:Calls P f args w R)(hd:o.dst=some d:=by rfl)(hN:d<N:=by decide)(hw:Z0e L ops o=some true:=by rfl)(h:∀e w',R e w'→∃v,e = .returned v∧∀{a2},Has N D a2 ((d,v)::L)→wpList P ops Q rest a2 w'): wpList P ops Q (o::rest) a w:=Z72 F hd hN (F.want hw) hr hc fun e w' hR=>by
 obtain⟨v,h1,h2⟩:=h e w' hR;exact⟨v,h1,fun _ F=>h2 F⟩
theorem Has.okr{i:Nat}{K:Act→World→Prop}{f:FuncId}{args:Array Value}{R:Ending→World→Prop}{oi:Oper}(F:Has N D a L)(hi:ops[i]?=some oi)(hr:(execOp a.eval oi).run P w = .ok (.enter f args) w)(hc:Calls P f args w R)(hd:oi.dst=some d:=by rfl)(hN:d<N:=by decide)(hw:Z0e L ops oi=some true:=by rfl)(h:∀e w',R e w'→∃v,e = .returned v∧∀{a2},Has N D a2 ((d,v)::L)→K a2 w'): wpOp P ops Q i K a w:=Z6U F hi hd hN (F.want hw) hr hc fun e w' hR=>by
 obtain⟨v,h1,h2⟩:=h e w' hR;exact⟨v,h1,fun _ F=>h2 F⟩
theorem Has.sw{x: Operand}{b T: Nat}{cs cs':Array Value}{u:Value}(F:Has N D a L)(B:Bk w S)(i:Nat)(hc:w.cell? ⟨b,off,none⟩=some u)(hp:∀w2,w2=w.setCell ⟨b,off,none⟩ v→w2.heap[b]?=some (.cells cs' T (0,0)))(ho:o.op = .store t x y:=by rfl)(hx:opv L x=some (.pointer (some ⟨b,off,none⟩)):=by rfl)(hy:opv L y=some v:=by rfl)(hi:nth S i=some (.q b cs T):=by rfl)(hu:upf S i (.q b cs' T)=some S':=by rfl)(h0:delf S i=some S0:=by rfl)(h1:v.oneCell'=true:=by rfl)(hs:Z43 P t 1=true:=by kernel_rfl)(hn:NeA b T S0:=by exact nea)(hd:o.dst=none:=by rfl)(hw:Z0e L ops o=some true:=by rfl)(h:∀{w2},Bk w2 S'→wpList P ops Q rest a w2): wpList P ops Q (o::rest) a w:=by
 have q:=B.get hi;refine Z1n hd (F.want hw) (ZU ho (F.op hx) (F.op hy) h1 (Z1m hs) hc (Za q off)) fun w2 hw=>h ?_;exact Bk.up (g:=.q b cs' T) (hp w2 hw) hu fun L0 h2=>by
  rw[h0]at h2
  cases h2
  exact Bk.cell hw q (B.del h0) hn
theorem Has.sW{x: Operand}{b T: Nat}{cs cs' cs2:Array Value}(F:Has N D a L)(B:Bk w S)(i off:Nat)(hp:∀w2,w2=w.setCells b off cs'.toList→w2.heap[b]?=some (.cells cs2 T (0,0)))(ho:o.op = .store t x y:=by rfl)(hx:opv L x=some (.pointer (some ⟨b,off,none⟩)):=by rfl)(hy:opv L y=some (.agg cs'):=by rfl)(hi:nth S i=some (.q b cs T):=by rfl)(hz:off+cs'.size≤cs.size:=by simp)(hu:upf S i (.q b cs2 T)=some S':=by rfl)(h0:delf S i=some S0:=by rfl)(hs:Z43 P t cs'.size=true:=by kernel_rfl)(h1:cs'.all (·.oneCell')=true:=by exact one1)(hn:NeA b T S0:=by exact nea)(hd:o.dst=none:=by rfl)(hw:Z0e L ops o=some true:=by rfl)(h:∀{w2},Bk w2 S'→wpList P ops Q rest a w2): wpList P ops Q (o::rest) a w:=by
 have q:=B.get hi;refine Z1n hd (F.want hw) (Zaj ho (F.op hx) (F.op hy) (Z1m hs) h1 q hz) fun w2 hw=>h ?_;exact Bk.up (g:=.q b cs2 T) (hp w2 hw) hu fun L0 h2=>by
  rw[h0]at h2
  cases h2
  exact Bk.cells hw q (B.del h0) hn
variable{md:Region.Mode}{T:World→Prop}{stop:Option Nat}{fuel:Nat}{listed:Array Bool}{K:Act→World→Prop}
def opAt(ops:Array Oper)(i:Nat):Oper:=match ops[i]? with
 | some o=>o
 | none => { dst := none, op := .move (.const (.bool true)), type := 0, pos := "", after := #[], guard := none }
theorem Z0B{i:Nat}(h:(ops[i]?).isSome=true): ops[i]?=some (opAt ops i):=by
 unfold opAt
 cases hq:ops[i]? with
 | none=>rw[hq]at h;cases h
 | some o=>rfl
theorem wD{id:Nat}{l:List Oper}(X:List Nat)(stop:Option Nat)(B:Bk w S)(h:∀{W:World},Bk W (.e X w::S)→Zr P .any l.toArray Q (Ext X w) stop l.toArray.size (Array.replicate l.toArray.size false) a W)(hm:P.follows .mixedOrders=true:=by exact follows): (Code.region id l.toArray true).wp P Q a w:=Z9T (Ext X w) stop hm fun W hh eh=>h ⟨eh.mono (by simp),B.ex eh⟩
theorem aD(hr:Region.ready md ops listed=[]:=by kernel_rfl)(h:Q .normal a w):Zr P md ops Q T stop fuel listed a w:=Z6d hr h fuel
theorem aO(i:Nat)(hr:Region.ready md ops listed=[i]:=by kernel_rfl)(h:wpOp P ops Q i (fun a' w'=>(held stop (listed.setIfInBounds i true)=true→T w')∧Zr P md ops Q T stop fuel (listed.setIfInBounds i true) a' w') a w):Zr P md ops Q T stop (fuel+1) listed a w:=Z3B hr h
theorem Has.z(F:Has N D a L)(i:Nat)(hT:held stop listed=true→T w)(hr:∀{w},(execOp a.eval (opAt ops i)).run P w = .ok (.value v) w)(hi:(ops[i]?).isSome=true:=by rfl)(hd:(opAt ops i).dst=some d:=by rfl)(hN:d<N:=by decide)(hk:Z40 md ops stop false listed i=true:=by kernel_rfl)(hQ:∀c a w,Q (.panic c) (a.put (opAt ops i).dst v) w→Q (.panic c) a w:=by exact fun _ _ _ h=>h)(hw:Z0e L ops (opAt ops i)=some true:=by rfl)(h:∀{a2},Has N D a2 ((d,v)::L)→Zr P md ops Q T stop fuel (listed.setIfInBounds i true) a2 w):Zr P md ops Q T stop (fuel+1) listed a w:=
 ZfJ F (Z0B hi) hd hN hk hQ (F.want hw) (fun w=>hr) hT fun _ F=>h F
theorem Has.zr(F:Has N D a L)(i:Nat)(hT:held stop listed=true→T w)(hr:∀{w},T w→(execOp a.eval (opAt ops i)).run P w = .ok (.value v) w)(hi:(ops[i]?).isSome=true:=by rfl)(hd:(opAt ops i).dst=some d:=by rfl)(hN:d<N:=by decide)(hk:Z40 md ops stop true listed i=true:=by kernel_rfl)(hQ:∀c a w,Q (.panic c) (a.put (opAt ops i).dst v) w→Q (.panic c) a w:=by exact fun _ _ _ h=>h)(hw:Z0e L ops (opAt ops i)=some true:=by rfl)(h:∀{a2},Has N D a2 ((d,v)::L)→Zr P md ops Q T stop fuel (listed.setIfInBounds i true) a2 w):Zr P md ops Q T stop (fuel+1) listed a w:=
 Zbr F (Z0B hi) hd hN hk hQ (F.want hw) (fun w h=>hr h) hT fun _ F=>h F
theorem Has.ok{i:Nat}{f:FuncId}{l:List Operand}{ts:Array TypeId}{vs:List Value}{R:Ending→World→Prop}(F:Has N D a L)(hc:Calls P f vs.toArray w R)(hi:(ops[i]?).isSome=true:=by rfl)(C:Z7u P f=true:=by kernel_rfl)(ho:(opAt ops i).op = .call {callee:=.value (.func f),args:=l.toArray,argTypes:=ts}:=by rfl)(ha:opvs L l=some vs:=by rfl)(hd:(opAt ops i).dst=some d:=by rfl)(hN:d<N:=by decide)(hw:Z0e L ops (opAt ops i)=some true:=by rfl)(h:∀e w',R e w'→∃v,e = .returned v∧∀{a2},Has N D a2 ((d,v)::L)→K a2 w'): wpOp P ops Q i K a w:=Z6U F (Z0B hi) hd hN (F.want hw) (F.rc C ho ha) hc fun e w' hR=>by
 obtain⟨v,h1,h2⟩:=h e w' hR;exact⟨v,h1,fun _ F=>h2 F⟩
theorem Has.ok0{i:Nat}{f:FuncId}{l:List Operand}{ts:Array TypeId}{vs:List Value}(F:Has N D a L)(B:Bk w S)(hc:Calls P f vs.toArray w fun e w'=>e = .returned v∧Ext [] w w')(hi:(ops[i]?).isSome=true:=by rfl)(C:Z7u P f=true:=by kernel_rfl)(ho:(opAt ops i).op = .call {callee:=.value (.func f),args:=l.toArray,argTypes:=ts}:=by rfl)(ha:opvs L l=some vs:=by rfl)(hd:(opAt ops i).dst=some d:=by rfl)(hN:d<N:=by decide)(hw:Z0e L ops (opAt ops i)=some true:=by rfl)(h:∀{w' a2},Has N D a2 ((d,v)::L)→Bk w' S→K a2 w'): wpOp P ops Q i K a w:=F.ok hc hi C ho ha hd hN hw fun e w' hR=>⟨v,hR.1,fun F=>h F (B.ex hR.2)⟩
theorem Has.oa{i:Nat}{T:TypeId}{z:Value}{cs:Array Value}(F:Has N D a L)(B:Bk w S)(hz:∀w,(zeroValue T).run P w = .ok z w)(hi:(ops[i]?).isSome=true:=by rfl)(ho:(opAt ops i).op = .alloc T:=by rfl)(hd:(opAt ops i).dst=some d:=by rfl)(hN:d<N:=by decide)(hw:Z0e L ops (opAt ops i)=some true:=by rfl)(hv:boxO z=some cs:=by rfl)(h:∀{n w2 a2},LtA n S→Has N D a2 ((d,.pointer (some ⟨n,0,none⟩))::L)→Bk w2 (.q n cs T::S)→K a2 w2): wpOp P ops Q i K a w:=by
 obtain rfl:=Z9g hv;exact Zge F (Z0B hi) hd hN (F.want hw) (ZT ho hz) fun _ _ F hw=>h (B.lt rfl) F ⟨Z05 hw rfl,B.al hw⟩
theorem Has.ob{i:Nat}{T:TypeId}{x:Operand}{cs:Array Value}(F:Has N D a L)(B:Bk w S)(hi:(ops[i]?).isSome=true:=by rfl)(ho:(opAt ops i).op = .box T x:=by rfl)(hx:opv L x=some v:=by rfl)(hv:boxO v=some cs:=by rfl)(hd:(opAt ops i).dst=some d:=by rfl)(hN:d<N:=by decide)(hw:Z0e L ops (opAt ops i)=some true:=by rfl)(h:∀{n w2 a2},LtA n S→Has N D a2 ((d,.pointer (some ⟨n,0,none⟩))::L)→Bk w2 (.q n cs T::S)→K a2 w2): wpOp P ops Q i K a w:=by
 obtain rfl:=Z9g hv;exact Zge F (Z0B hi) hd hN (F.want hw) (Z30 ho (F.op hx)) fun _ _ F hw=>h (B.lt rfl) F ⟨Z05 hw rfl,B.al hw⟩
theorem Has.os{i':Nat}{x: Operand}{b T: Nat}{cs cs':Array Value}(F:Has N D a L)(B:Bk w S)(i:Nat)(hj:(ops[i']?).isSome=true:=by rfl)(ho:(opAt ops i').op = .store t x y:=by rfl)(hx:opv L x=some (.pointer (some ⟨b,off,none⟩)):=by rfl)(hy:opv L y=some v:=by rfl)(hi:nth S i=some (.q b cs T):=by rfl)(hc:setA cs off v=some cs':=by rfl)(hu:upf S i (.q b cs' T)=some S':=by rfl)(h0:delf S i=some S0:=by rfl)(h1:v.oneCell'=true:=by rfl)(hs:Z43 P t 1=true:=by kernel_rfl)(hn:NeA b T S0:=by exact nea)(hd:(opAt ops i').dst=none:=by rfl)(hw:Z0e L ops (opAt ops i')=some true:=by rfl)(h:∀{w2},Bk w2 S'→K a w2): wpOp P ops Q i' K a w:=by
 obtain⟨hc1,u,hc2⟩:=Zd4 hc;have q:=B.get hi;refine ZcM (Z0B hj) hd (F.want hw) (ZU ho (F.op hx) (F.op hy) h1 (Z1m hs) ((Z0 q off).trans hc2) (Za q off)) fun w2 hw=>h ?_;exact Bk.up (g:=.q b cs' T) (ZF hw q hc1) hu fun L0 h2=>by
  rw[h0]at h2
  cases h2
  exact Bk.cell hw q (B.del h0) hn
theorem Has.or{i':Nat}{x: Operand}{b T: Nat}{cs cs':Array Value}(F:Has N D a L)(B:Bk w S)(i:Nat)(hj:(ops[i']?).isSome=true:=by rfl)(ho:(opAt ops i').op = .store t x y:=by rfl)(hx:opv L x=some (.pointer (some ⟨b,0,none⟩)):=by rfl)(hy:opv L y=some (.agg cs'):=by rfl)(hi:nth S i=some (.q b cs T):=by rfl)(hz:cs.size=cs'.size:=by rfl)(hu:upf S i (.q b cs' T)=some S':=by rfl)(h0:delf S i=some S0:=by rfl)(hs:Z43 P t cs'.size=true:=by kernel_rfl)(h1:cs'.all (·.oneCell')=true:=by exact one1)(hn:NeA b T S0:=by exact nea)(hd:(opAt ops i').dst=none:=by rfl)(hw:Z0e L ops (opAt ops i')=some true:=by rfl)(h:∀{w2},Bk w2 S'→K a w2): wpOp P ops Q i' K a w:=by
 have q:=B.get hi;refine ZcM (Z0B hj) hd (F.want hw) (Z0t ho (F.op hx) (F.op hy) (Z1m hs) h1 q hz) fun w2 hw=>h ?_;exact Bk.up (g:=.q b cs' T) (Z1Y hw q hz) hu fun L0 h2=>by
  rw[h0]at h2
  cases h2
  exact Bk.cells hw q (B.del h0) hn
end
end
section
open Go.RowKit
variable{μ:Nat}
theorem Zcy(w0 w:World)(b k:Nat)(nv:Value)(h:Zg w0 w b k nv)(hk:k≤1000000):
  Calls (Qy.prog μ) 81 #[.pointer (some ⟨b,0,none⟩)] w fun e w'=>∃v:Int,e = .returned (.int .u64 v)∧0≤v∧v<72057594037927936∧Zg w0 w' b (k+1) nv∧Ext [b] w w':=by
 obtain⟨hb,⟨na,nc,xs,rfl,hn⟩,E0,d,st,q,hd0,hdk,hs0,hs1⟩:=h;obtain⟨d,rfl⟩:=Int.eq_ofNat_of_zero_le hd0;have E:Ext [b] w w:=Ext.refl _ _;have HS:=Lib.hid (Z0L (X:=[b]) hn (fun W e=>hn.ext e (by simp;omega)) 0);have G:=(Bk.nil w).ce E;replace G:=(G.ce E0).cq q;refine(ent 67 Tryz.f81 rfl) fun F=>wR fun k1=>(F.m) fun F=>k1<|wR fun k2=>(F.m) fun F=>(F.m) fun F=>(F.y F.nc) fun F=>(F.y (F.fd 2)) fun F=>(F.y (F.lc (G.q 0))) fun F=>?_
 refine(F.y ((Z96 rfl (F.at rfl) (ev_c _ _)))) fun F=>?_;refine(F.y ((Z4A rfl (F.at rfl) (ev_c _ _)))) fun F=>?_;obtain⟨s1,hs1'⟩:∃s1,s1=IntKind.u64.wrap (IntKind.u64.wrap (st*6364136223846793005)+1442695040888963407):=⟨_,rfl⟩;have hw1:=Z4v (IntKind.u64.wrap (st*6364136223846793005)+1442695040888963407);rw[←hs1']at F hw1;refine(F.y F.nc) fun F=>(F.y (F.fd 2)) fun F=>(F.st G 0) fun G=>k2<|wQ fun k3=>wQ fun k4=>(wX 9 G) fun G=>(F.sm) fun F=>(F.s F.nc) fun F=>(F.s (F.fd 1)) fun F=>(F.s (F.lc (G.q 0))) fun F=>(F.sm) fun F=>(F.s F.nc) fun F=>(F.s (F.fd 0)) fun F=>(F.s (F.lc (G.q 0))) fun F=>(F.s F.ln) fun F=>wpStill_nil<|(F.y F.ls) fun F=>k4<|F.ci (fun hc22=>?_) (fun hc22=>?_)
 ·have hdx:d<xs.length:=by omega
  refine(wX 20 G) fun G=>(F.sm) fun F=>(F.sm) fun F=>(F.s F.nc) fun F=>(F.s (F.fd 2)) fun F=>(F.s (F.lc (G.q 0))) fun F=>(F.sm) fun F=>(F.s F.nc) fun F=>(F.s (F.fd 0)) fun F=>(F.s (F.lc (G.q 0))) fun F=>(F.sm) fun F=>(F.s F.nc) fun F=>(F.s (F.fd 1)) fun F=>(F.s (F.lc (G.q 0))) fun F=>(F.sx HS.out d) fun xr5 F=>(F.s (F.l1 (xr5 _ (G.e 1)) 0)) fun F=>?_;refine(F.s ((Z31 rfl (F.at rfl) Qy.underlying3 Qy.underlying75))) fun F=>?_;refine(F.s ((Z96 rfl (F.at rfl) (ev_c _ _)))) fun F=>?_;refine(F.s ((Z4A rfl (F.at rfl) (F.at rfl)))) fun F=>(F.s F.nc) fun F=>(F.s (F.fd 2)) fun F=>wpStill_nil<|(F.st G 0) fun G=>?_
  obtain⟨s2,hs2'⟩:∃s2,s2=IntKind.u64.wrap (s1+IntKind.u64.wrap (IntKind.u64.wrap (xs.getD d 0)*2862933555777941757)):=⟨_,rfl⟩;replace hw1:=Z4v (s1+IntKind.u64.wrap (IntKind.u64.wrap (xs.getD d 0)*2862933555777941757));have q:=G.q 0;rw[←hs2']at q hw1;replace G:=G.rQ 0 q;clear q;refine k3<|wR fun k6=>(F.m) fun F=>(F.y F.nc) fun F=>(F.y (F.fd 1)) fun F=>(F.y (F.lc (G.q 0))) fun F=>(F.y F.ad) fun F=>(F.y F.nc) fun F=>(F.y (F.fd 1)) fun F=>(F.st G 0) fun G=>k6<|wQ fun k7=>(wX 10 G) fun G=>(F.sm) fun F=>(F.s F.nc) fun F=>(F.s (F.fd 2)) fun F=>(F.s (F.lc (G.q 0))) fun F=>(F.sm) fun F=>(F.s F.nc) fun F=>(F.s (F.fd 2)) fun F=>?_
  refine(F.s (F.lc (G.q 0))) fun F=>?_;refine(F.s ((Z8d (m:=29) rfl (F.at rfl) (ev_c _ _)))) fun F=>?_;refine(F.s ((ZdK rfl (F.at rfl) (F.at rfl)))) fun F=>wpStill_nil<|(F.m) fun F=>k7<|wQ fun k8=>?_
  replace F:=F.b [3];refine Yg<|(F.m) fun F=>?_
  refine(F.y ((Z96 rfl (F.at rfl) (ev_c _ _)))) fun F=>?_;obtain⟨s3,hs3'⟩:∃s3,s3=IntKind.u64.wrap (bits .xor .u64 s2 (s2.fdiv (2 ^ min 29 IntKind.u64.bits))*2685821657736338717):=⟨_,rfl⟩;have hw3:=Z4v (bits .xor .u64 s2 (s2.fdiv (2 ^ min 29 IntKind.u64.bits))*2685821657736338717);rw[←hs3']at F hw3;refine(F.m) fun F=>k8<|wR fun k9=>(F.m) fun F=>(F.m) fun F=>?_
  refine(F.y ((Z8d (m:=32) rfl (F.at rfl) (ev_c _ _)))) fun F=>?_;refine(F.y ((ZdK rfl (F.at rfl) (F.at rfl)))) fun F=>?_;refine(F.y ((Z8d (m:=8) rfl (F.at rfl) (ev_c _ _)))) fun F=>(F.m) fun F=>k9<|(F.r1) ?_
  have hf:=Z9t s3 (min 32 IntKind.u64.bits) hw3.1;have hx:=ZdA s3 (s3.fdiv (2 ^ min 32 IntKind.u64.bits)) hw3 ⟨hf.1,by omega⟩;exact⟨_,rfl,(shr8 hx).1,(shr8 hx).2,⟨hb,⟨na,nc,xs,rfl,hn⟩,(G.e 1),_,s2,(G.q 0),by omega,by omega,hw1.1,hw1.2⟩,(G.e 2)⟩
 ·obtain⟨s2,hs2'⟩:∃s2,s2=s1:=⟨_,rfl⟩
  have q:=G.q 0;rw[←hs2']at q hw1;replace G:=G.rQ 0 q;clear q;refine Yi<|k3<|wR fun k10=>(F.m) fun F=>(F.y F.nc) fun F=>(F.y (F.fd 1)) fun F=>(F.y (F.lc (G.q 0))) fun F=>(F.y F.ad) fun F=>(F.y F.nc) fun F=>(F.y (F.fd 1)) fun F=>(F.st G 0) fun G=>k10<|wQ fun k11=>(wX 10 G) fun G=>(F.sm) fun F=>(F.s F.nc) fun F=>(F.s (F.fd 2)) fun F=>(F.s (F.lc (G.q 0))) fun F=>(F.sm) fun F=>(F.s F.nc) fun F=>(F.s (F.fd 2)) fun F=>?_
  refine(F.s (F.lc (G.q 0))) fun F=>?_;refine(F.s ((Z8d (m:=29) rfl (F.at rfl) (ev_c _ _)))) fun F=>?_;refine(F.s ((ZdK rfl (F.at rfl) (F.at rfl)))) fun F=>wpStill_nil<|(F.m) fun F=>k11<|wR fun k12=>(F.m) fun F=>?_
  refine(F.y ((Z96 rfl (F.at rfl) (ev_c _ _)))) fun F=>?_;obtain⟨s3,hs3'⟩:∃s3,s3=IntKind.u64.wrap (bits .xor .u64 s2 (s2.fdiv (2 ^ min 29 IntKind.u64.bits))*2685821657736338717):=⟨_,rfl⟩;have hw3:=Z4v (bits .xor .u64 s2 (s2.fdiv (2 ^ min 29 IntKind.u64.bits))*2685821657736338717);rw[←hs3']at F hw3;refine(F.m) fun F=>k12<|wR fun k13=>(F.m) fun F=>(F.m) fun F=>?_
  refine(F.y ((Z8d (m:=32) rfl (F.at rfl) (ev_c _ _)))) fun F=>?_;refine(F.y ((ZdK rfl (F.at rfl) (F.at rfl)))) fun F=>?_;refine(F.y ((Z8d (m:=8) rfl (F.at rfl) (ev_c _ _)))) fun F=>(F.m) fun F=>k13<|(F.r1) ?_
  have hf:=Z9t s3 (min 32 IntKind.u64.bits) hw3.1;have hx:=ZdA s3 (s3.fdiv (2 ^ min 32 IntKind.u64.bits)) hw3 ⟨hf.1,by omega⟩;exact⟨_,rfl,(shr8 hx).1,(shr8 hx).2,⟨hb,⟨na,nc,xs,rfl,hn⟩,(G.e 1),_,s2,(G.q 0),by omega,by omega,hw1.1,hw1.2⟩,(G.e 2)⟩
theorem Z0P(w0 w:World)(b k:Nat)(nv:Value)(n:Int)(h:Zg w0 w b k nv)(hk:k≤1000000)(h0:-1000000≤n)(hn:n≤1000000):
  Calls (Qy.prog μ) 31 #[.pointer (some ⟨b,0,none⟩),.int .i64 n] w fun e w'=>∃v:Int,e = .returned (.int .i64 v)∧0≤v∧v≤max n 0∧Zg w0 w' b (k+1) nv∧Ext [b] w w':=by
 have E:Ext [b] w w:=Ext.refl _ _;have HL:=h;clear h;have G:=((Bk.nil w).cl HL).ce E;refine(ent 14 Tryz.f31 rfl) fun F=>wR fun k1=>(F.m) fun F=>k1<|wQ fun k2=>wR fun k3=>(F.m) fun F=>(F.y F.ls) fun F=>k3<|F.ci (fun hc6=>?_) (fun hc6=>?_)
 ·refine wR fun k4=>(F.m) fun F=>k4<|(F.r1) ?_
  exact⟨0,rfl,by omega,by omega,Zu (G.l 1) (by omega),(G.e 0)⟩
 ·refine Yi<|k2<|wR fun k5=>(F.m) fun F=>(F.k (Zcy w0 _ b k nv (G.l 1) hk)) ?_
  rintro _ w1 ⟨v,rfl,hv1,hv2,HL,e1⟩;refine⟨_,rfl,fun F=>?_⟩;replace G:=G.xl 1 e1 HL;have hu:=Zfv (n:=n) ⟨hv1,hv2⟩ ⟨by omega,hn⟩;refine(F.m) fun F=>(F.y F.ad) fun F=>?_;refine(F.y ((Z31 rfl (F.at rfl) Qy.underlying3 Qy.underlying75))) fun F=>?_;rw[hu.1]at F;refine(F.y ((Ziz rfl (F.at rfl) (F.at rfl) (by omega)))) fun F=>?_;refine(F.y ((Z31 rfl (F.at rfl) Qy.underlying75 Qy.underlying3))) fun F=>?_;rw[hu.2.1]at F;refine(F.m) fun F=>k5<|(F.r1) ?_
  exact⟨_,rfl,hu.2.2.1,by omega,(G.l 1),(G.e 0)⟩
theorem Z7E(w0 w:World)(b k:Nat)(nv:Value)(lo hi:Int)(h:Zg w0 w b k nv)(hk:k≤1000000)(h1:-1000≤lo)(h2:lo≤1000)(h3:-1000≤hi)(h4:hi≤1000):
  Calls (Qy.prog μ) 59 #[.pointer (some ⟨b,0,none⟩),.int .i64 lo,.int .i64 hi] w fun e w'=>∃v:Int,e = .returned (.int .i64 v)∧lo≤v∧v≤max lo hi∧Zg w0 w' b (k+1) nv∧Ext [b] w w':=by
 have E:Ext [b] w w:=Ext.refl _ _;have HL:=h;clear h;have G:=((Bk.nil w).cl HL).ce E;refine(ent 14 Tryz.f59 rfl) fun F=>wR fun k1=>(F.m) fun F=>k1<|wR fun k2=>(F.m) fun F=>(F.m) fun F=>(F.m) fun F=>(F.m) fun F=>(F.y F.sb) fun F=>(F.k (Z0P w0 _ b k nv (hi-lo) (G.l 1) hk (by omega) (by omega))) ?_
 rintro _ w1 ⟨v,rfl,hv1,hv2,HL,e1⟩;refine⟨_,rfl,fun F=>?_⟩;replace G:=G.xl 1 e1 HL;refine(F.y F.ad) fun F=>(F.m) fun F=>k2<|(F.r1) ?_
 exact⟨_,rfl,by omega,by omega,(G.l 1),(G.e 0)⟩
theorem Zgb(w0 w:World)(b k:Nat)(nv:Value)(g:Nat)(T:TypeId)(xs:List Int)(h:Zg w0 w b k nv)(hk:k≤1000000)(hg:w.heap[g]?=some (.cells (xs.map (Value.int .i64)).toArray T (0,0)))(hgb:g≠b)(hx:0<xs.length)(hx2:xs.length≤1000):
  Calls (Qy.prog μ) 60 #[.pointer (some ⟨b,0,none⟩),.slice (some ⟨g,0,none⟩) xs.length xs.length] w fun e w'=>∃v:Int,e = .returned (.int .i64 v)∧v∈xs∧Zg w0 w' b (k+1) nv∧Ext [b] w w':=by
 have E:Ext [b] w w:=Ext.refl _ _;have HL:=h;clear h;have HG:Hid (∀W,Ext [b] w W→Z7 W (.slice (some ⟨g,0,none⟩) xs.length xs.length) 1 (xs.map Z5)):=fun W e=>ZK xs xs.length (e.keep hg (by simp[hgb]));have HS:=Lib.hid (Z0L (X:=[b]) (HG.out _ E) (fun W e=>HG.out _ e) 0);clear hg;have G:=((Bk.nil w).cl HL).ce E;refine(ent 13 Tryz.f60 rfl) fun F=>wR fun k1=>(F.m) fun F=>k1<|wR fun k2=>(F.m) fun F=>(F.m) fun F=>(F.m) fun F=>(F.y F.ln) fun F=>(F.y F.sb) fun F=>(F.k (Z0P w0 _ b k nv ((xs.length:Int)-1) (G.l 1) hk (by omega) (by omega))) ?_
 rintro _ w1 ⟨v,rfl,hv1,hv2,HL,e1⟩;refine⟨_,rfl,fun F=>?_⟩;replace G:=G.xl 1 e1 HL;obtain⟨i,rfl⟩:=Int.eq_ofNat_of_zero_le hv1;have hil:i<xs.length:=by omega
 refine(F.ix HS.out i) fun xr3 F=>(F.y (F.l1 (xr3 _ (G.e 0)) 0)) fun F=>(F.m) fun F=>k2<|(F.r1) ?_
 exact⟨_,rfl,Z8 0 hil,(G.l 1),(G.e 0)⟩
theorem Z9Q(w0 w:World)(b k:Nat)(nv:Value)(n:Int)(h:Zg w0 w b k nv)(hk:k≤1000000)(h0:1≤n)(hn:n≤1000000):
  Calls (Qy.prog μ) 69 #[.pointer (some ⟨b,0,none⟩),.int .i64 n] w fun e w'=>∃r,e = .returned (.bool r)∧Zg w0 w' b (k+1) nv∧Ext [b] w w':=by
 have E:Ext [b] w w:=Ext.refl _ _;have G:=(Bk.nil w).ce E;refine(ent 10 Tryz.f69 rfl) fun F=>wR fun k1=>(F.m) fun F=>k1<|wR fun k2=>(F.m) fun F=>(F.m) fun F=>(F.y F.sb) fun F=>(F.k (Z0P w0 _ b k nv (n-1) h hk (by omega) (by omega))) ?_
 rintro _ w1 ⟨v,rfl,hv0,hv1,HL,e1⟩;refine⟨_,rfl,fun F=>?_⟩;replace G:=G.x e1;refine(F.y F.eq) fun F=>(F.m) fun F=>k2<|(F.r1) ?_
 exact⟨_,rfl,HL,(G.e 0)⟩
theorem Z8I(w:World)(a:Option Addr)(n c:Nat)(zs:List Int)(h:Zae .i64 w a n c zs):
  Calls (Qy.prog μ) 12 #[.slice a n c] w fun e w'=>∃b,e = .returned (.pointer (some ⟨b,0,none⟩))∧w.heap.size≤b∧b<w'.heap.size∧Zg w w' b 0 (.slice a n c)∧Ext [] w w':=by
 obtain⟨xs,hxl,hr⟩:=Z6X h;subst hxl;have E:Ext [] w w:=Ext.refl _ _;have G:=(Bk.nil w).ce E;refine(ent 6 Tryz.f12 rfl) fun F=>wR fun k1=>(F.m) fun F=>k1<|wR fun k2=>(F.m) fun F=>(F.y (F.bv #[.slice a xs.length c,.int .i64 0,.int .u64 1])) fun F=>(F.bx G) @fun n5 w1 _ yy F G=>(F.m) fun F=>k2<|(F.r1) ?_
 exact⟨n5,rfl,yy.1,Z3 (G.q 0),⟨yy.1,⟨a,c,xs,rfl,hr⟩,(G.e 1).mono (fun _ h=>absurd h (by simp)),0,1,(G.q 0),by omega,by omega,by omega,by omega⟩,(G.e 1)⟩
variable{μ:Nat}
theorem ZdU{n:Int}{i:Nat}(hi:i<xs.length)(h:xs.getD i 0=n)(hb:∀j,j<i→xs.getD j 0≠n): atI xs n=i:=by
 have:xs.findIdx? (· == n)=some i:=by
  rw[List.findIdx?_eq_some_iff_getElem];refine⟨hi,?_,fun j hj=>?_⟩
  ·simpa[hi] using h
  ·have:=hb j hj
   simpa[show j<xs.length by omega] using this
 rw[atI,this]
theorem ZdT{n:Int}(hb:∀j,j<xs.length→xs.getD j 0≠n): atI xs n = -1:=by
 have:xs.findIdx? (· == n)=none:=by
  rw[List.findIdx?_eq_none_iff];intro x hx;obtain⟨j,hj,rfl⟩:=List.getElem_of_mem hx;have:=hb j hj;simpa[hj] using this
 rw[atI,this]
theorem ZiJ(xs:List Int)(n:Int)(a:Option Addr)(c:Nat)(w:World)(h:Z7 w (.slice a xs.length c) 1 (xs.map Z5))(hl:xs.length≤1000000):
  Calls (Qy.prog μ) 23 #[.slice a xs.length c,.int .i64 n] w fun e w'=>e = .returned (.int .i64 (atI xs n))∧Ext [] w w':=by
 have HS:=Lib.hid (Zh h 0);have E:Ext [] w w:=Ext.refl _ _;have G:=(Bk.nil w).ce E;refine(ent 19 Tryz.f23 rfl) fun F=>wR fun k1=>(F.m) fun F=>k1<|wQ fun k2=>wR fun k3=>(F.m) fun F=>k3<|Yh<|lpB (F.b [0,1]) G (xs.length) (fun i Lv Sv W=>Lv=[(5,.int .i64 ((i:Nat):Int))]∧Sv=[]∧∀j,j<i→xs.getD j 0≠n) ⟨_,_,F.u,G.u,rfl,rfl,fun j hj=>absurd hj (by omega)⟩ ?_
 clear F G;rintro i _ w1 _ _ hi1 ⟨rfl,rfl,hb⟩ F G;replace G:=G.z;refine wQ fun k4=>wR fun k5=>(F.m) fun F=>(F.m) fun F=>(F.y F.ln) fun F=>(F.y F.ls) fun F=>k5<|F.ci (fun hc9=>?_) (fun hc9=>?_)
 ·refine Yi<|k4<|wQ fun k6=>Yh<|wR fun k7=>(F.m) fun F=>(F.m) fun F=>(F.ix HS.out i) fun xr8 F=>(F.y (F.l1 (xr8 _ (G.e 0)) 0)) fun F=>(F.m) fun F=>(F.y F.eq) fun F=>k7<|F.ci (fun hc17=>?_) (fun hc17=>?_)
  ·refine wR fun k9=>(F.m) fun F=>(F.m) fun F=>k9<|(F.r1) ?_
   exact⟨Zi (ZdU (by omega) hc17 hb).symm,(G.e 0)⟩
  ·refine Yi<|k6<|Yg<|(F.m) fun F=>(F.y F.ad) fun F=>(F.m) fun F=>?_
   show _∧_;exact⟨by omega,_,_,F.u,G.u,rfl,rfl,fun j hj=>if e:j=i then e▸hc17 else hb j (by omega)⟩
 ·refine wp_exit<|k2<|wR fun k10=>(F.m) fun F=>k10<|(F.r1) ?_
  exact⟨Zi (ZdT fun j hj=>hb j (by omega)).symm,(G.e 0)⟩
theorem Z9X{w': World}{sz: Nat}{row:Nat→List Value}(h:SlAt [] w a sz n row)(e:Ext [] w w'): SlAt [] w' a sz n row:=fun i hi=>by
 obtain⟨xb,xo,h1,h2⟩:=h i hi;exact⟨xb,xo,h1,fun W hW=>h2 W (e.nil hW)⟩
def Z0s(w:World)(a:Option Addr)(L:List (Value×List Int)):Prop:=SlAt [] w a 1 L.length (fun i=>[(L.getD i (.bool true,[])).1])∧∀p∈L,Z42 w p.1 p.2
theorem Z0s.ext{w W:World}{a:Option Addr}{L:List (Value×List Int)}(h:Z0s w a L)(e:Ext [] w W):Z0s W a L:=⟨Z9X h.1 e,fun p hp=>(h.2 p hp).ext e⟩
theorem Z0j(xs ys:List Int)(a b:Option Addr)(ca cb:Nat)(w:World)(hx:Z7 w (.slice a xs.length ca) 1 (xs.map Z5))(hy:Z7 w (.slice b ys.length cb) 1 (ys.map Z5))(h1:xs.length≤1000000)(h2:ys.length≤1000000):
  Calls (Qy.prog μ) 16 #[.slice a xs.length ca,.slice b ys.length cb] w fun e w'=>e = .returned (.bool (decide (xs=ys)))∧Ext [] w w':=by
 have HS:=Lib.hid (Zh hx 0);have HU:=Lib.hid (Zh hy 0);have E:Ext [] w w:=Ext.refl _ _;clear hx hy;have G:=(Bk.nil w).ce E;refine(ent 26 Tryz.f16 rfl) fun F=>wR fun k1=>(F.m) fun F=>k1<|wQ fun k2=>wR fun k3=>(F.m) fun F=>(F.y F.ln) fun F=>(F.m) fun F=>(F.y F.ln) fun F=>(F.y F.ne) fun F=>k3<|F.ci (fun hc10=>?_) (fun hc10=>?_)
 ·refine wR fun k4=>(F.m) fun F=>k4<|(F.r1) ?_
  exact⟨Z0J (decide_eq_false fun h=>by rw[h]at hc10;omega).symm,(G.e 0)⟩
 ·refine Yi<|k2<|wQ fun k5=>wR fun k6=>(F.m) fun F=>k6<|Yh<|lpB (F.b [0,1]) G (xs.length) (fun i Lv Sv W=>Lv=[(5,.int .i64 ((i:Nat):Int))]∧Sv=[]∧∀j,j<i→xs.getD j 0=ys.getD j 0) ⟨_,_,F.u,G.u,rfl,rfl,fun j hj=>absurd hj (by omega)⟩ ?_
  clear F G;rintro i _ w1 _ _ hi1 ⟨rfl,rfl,hb⟩ F G;replace G:=G.z;refine wQ fun k7=>wR fun k8=>(F.m) fun F=>(F.m) fun F=>(F.y F.ln) fun F=>(F.y F.ls) fun F=>k8<|F.ci (fun hc14=>?_) (fun hc14=>?_)
  ·refine Yi<|k7<|wQ fun k9=>Yh<|wQ fun k10=>(wX 8 G) fun G=>(F.sm) fun F=>(F.sm) fun F=>(F.sx HS.out i) fun xr11 F=>(F.s (F.l1 (xr11 _ (G.e 0)) 0)) fun F=>(F.sm) fun F=>(F.sm) fun F=>(F.sx HU.out i) fun xr12 F=>(F.s (F.l1 (xr12 _ (G.e 0)) 0)) fun F=>wpStill_nil<|(F.y F.ne) fun F=>k10<|F.ci (fun hc25=>?_) (fun hc25=>?_)
   ·refine wR fun k13=>(F.m) fun F=>k13<|(F.r1) ?_
    exact⟨Z0J (decide_eq_false fun h=>hc25 (by rw[h])).symm,(G.e 0)⟩
   ·refine Yi<|k9<|Yg<|(F.m) fun F=>(F.y F.ad) fun F=>(F.m) fun F=>?_
    show _∧_;exact⟨by omega,_,_,F.u,G.u,rfl,rfl,fun j hj=>if e:j=i then e▸(by simpa using hc25) else hb j (by omega)⟩
  ·refine wp_exit<|k5<|wR fun k14=>(F.m) fun F=>k14<|(F.r1) ?_
   exact⟨Z0J (decide_eq_true (List.ext_getElem (by omega) fun j h1 h2=>by have:=hb j (by omega);simpa[h1,h2] using this)).symm,(G.e 0)⟩
variable{μ:Nat}
structure Vm where
 B:Int
 D:List (Value×List Int)
 da:Option Addr
 dc:Nat
 L:List (Value×List Int)
 la:Option Addr
 lc:Nat
 tol:Int
structure Vm.At(x:Vm)(w:World):Prop where
 d:Z0s w x.da x.D
 l:Z0s w x.la x.L
theorem Vm.At.ext{x:Vm}{w W:World}(h:x.At w)(e:Ext [] w W):x.At W:=⟨h.d.ext e,h.l.ext e⟩
def Z97(L:List (Value×List Int)):Prop:=L.length≤1000∧∀p∈L,p.2.length≤1000
def outB(n lo hi:Int):Bool:=decide (n<lo)||decide (hi<n)
theorem Z2c{n lo hi:Int}: outB n lo hi=false↔lo≤n∧n≤hi:=by
 simp only[outB,Bool.or_eq_false_iff,decide_eq_false_iff_not];omega
def sizE(n most:Int):Int:=if n=0 then 7 else if most<n then 6 else 0
def numE(l:List Int)(many hi:Int):Int:=if (l.length:Int)≠many then 9 else if l.all (fun n=>!outB n 0 hi) then 0 else 1
def numS(l:List Int)(many hi:Int):Int:=if numE l many hi=0 then l.sum else 0
theorem Z0Z(n lo hi:Int)(w:World):Calls (Qy.prog μ) 92 #[.int .i64 n,.int .i64 lo,.int .i64 hi] w fun e w'=>e = .returned (.bool (outB n lo hi))∧Ext [] w w':=by
 have E:Ext [] w w:=Ext.refl _ _;have hl:outB n lo hi=(decide (n<lo)||decide (hi<n)):=rfl;have G:=(Bk.nil w).ce E;refine(ent 15 Tryz.f92 rfl) fun F=>wR fun k1=>(F.m) fun F=>k1<|wQ fun k2=>?_
 by_cases c1:n<lo
 ·refine Yg<|(F.m) fun F=>(F.m) fun F=>(F.y F.lsT) fun F=>(F.m) fun F=>(F.n) fun F=>(F.n) fun F=>(F.n) fun F=>(F.y F.pT) fun F=>(F.m) fun F=>?_
  rw[decide_eq_true c1,Bool.true_or]at hl;refine k2<|(F.r1) ?_
  exact⟨congrArg (fun x=>Ending.returned (Value.bool x)) hl.symm,(G.e 0)⟩
 ·by_cases c2:hi<n
  ·refine Yg<|(F.m) fun F=>(F.m) fun F=>(F.y F.lsF) fun F=>(F.m) fun F=>(F.m) fun F=>(F.m) fun F=>(F.y F.gtT) fun F=>(F.y F.pF) fun F=>(F.m) fun F=>?_
   rw[decide_eq_true c2,Bool.or_true]at hl;refine k2<|(F.r1) ?_
   exact⟨congrArg (fun x=>Ending.returned (Value.bool x)) hl.symm,(G.e 0)⟩
  ·refine Yg<|(F.m) fun F=>(F.m) fun F=>(F.y F.lsF) fun F=>(F.m) fun F=>(F.m) fun F=>(F.m) fun F=>(F.y F.gtF) fun F=>(F.y F.pF) fun F=>(F.m) fun F=>?_
   rw[decide_eq_false c1,decide_eq_false c2]at hl;refine k2<|(F.r1) ?_
   exact⟨congrArg (fun x=>Ending.returned (Value.bool x)) hl.symm,(G.e 0)⟩
theorem Z50(n m:Int)(w:World):Calls (Qy.prog μ) 93 #[.int .i64 n,.int .i64 m] w fun e w'=>e = .returned (.int .i64 (sizE n m))∧Ext [] w w':=by
 have E:Ext [] w w:=Ext.refl _ _;have G:=(Bk.nil w).ce E;refine(ent 12 Tryz.f93 rfl) fun F=>wR fun k1=>(F.m) fun F=>k1<|wQ fun k2=>Yh<|wR fun k3=>(F.m) fun F=>(F.y F.eq) fun F=>(F.m) fun F=>k3<|F.ci (fun hc5=>?_) (fun hc5=>?_)
 ·refine wR fun k4=>(F.m) fun F=>k4<|(F.r1) ?_
  first | exact⟨Zi (by rw[sizE,if_pos (by omega)]),(G.e 0)⟩ | exact⟨Zi (by rw[sizE,if_neg (by omega),if_pos (by omega)]),(G.e 0)⟩ | exact⟨Zi (by rw[sizE,if_neg (by omega),if_neg (by omega)]),(G.e 0)⟩
 ·refine wR fun k5=>(F.m) fun F=>(F.m) fun F=>(F.y F.gt) fun F=>(F.m) fun F=>k5<|F.ci (fun hc8=>?_) (fun hc8=>?_)
  ·refine wR fun k6=>(F.m) fun F=>k6<|(F.r1) ?_
   first | exact⟨Zi (by rw[sizE,if_pos (by omega)]),(G.e 0)⟩ | exact⟨Zi (by rw[sizE,if_neg (by omega),if_pos (by omega)]),(G.e 0)⟩ | exact⟨Zi (by rw[sizE,if_neg (by omega),if_neg (by omega)]),(G.e 0)⟩
  ·refine Yi<|k2<|wR fun k7=>(F.m) fun F=>k7<|(F.r1) ?_
   first | exact⟨Zi (by rw[sizE,if_pos (by omega)]),(G.e 0)⟩ | exact⟨Zi (by rw[sizE,if_neg (by omega),if_pos (by omega)]),(G.e 0)⟩ | exact⟨Zi (by rw[sizE,if_neg (by omega),if_neg (by omega)]),(G.e 0)⟩
theorem ZdO{hi:Int}{i:Nat}(h:∀j,j<i→outB (l.getD j 0) 0 hi=false)(hi':i=l.length): l.all (fun n=>!outB n 0 hi)=true:=by
 rw[Yl];intro n hn;obtain⟨j,hj,rfl⟩:=List.getElem_of_mem hn;have:=h j (by omega);rw[Y7,List.getElem?_eq_getElem hj]at this;simp only[Option.getD_some]at this;rw[this];rfl
theorem Zgy{hi:Int}{i:Nat}(hil:i<l.length)(h:outB (l.getD i 0) 0 hi=true): l.all (fun n=>!outB n 0 hi)=false:=by
 rw[List.all_eq_false];refine⟨l.getD i 0,Z8 0 hil,by rw[h];simp⟩
theorem Z4t(l:List Int){i:Nat}(h:i<l.length): (l.take (i+1)).sum=(l.take i).sum+l.getD i 0:=by
 rw[List.take_add_one,List.getElem?_eq_getElem h,List.sum_append];simp[Y7,List.getElem?_eq_getElem h]
theorem Z2V(l:List Int)(many hi:Int)(a:Option Addr)(c:Nat)(w:World)(h:Z7 w (.slice a l.length c) 1 (l.map Z5))(hl:l.length≤1000)(hh:hi≤1000):
  Calls (Qy.prog μ) 94 #[.slice a l.length c,.int .i64 many,.int .i64 hi] w fun e w'=>e = .returned (.tuple #[.int .i64 (numS l many hi),.int .i64 (numE l many hi)])∧Ext [] w w':=by
 have HS:=Lib.hid (Zh h 0);have E:Ext [] w w:=Ext.refl _ _;clear h;have G:=(Bk.nil w).ce E;refine(ent 29 Tryz.f94 rfl) fun F=>wR fun k1=>(F.m) fun F=>(F.m) fun F=>k1<|wQ fun k2=>wR fun k3=>(F.m) fun F=>(F.y F.ln) fun F=>(F.m) fun F=>(F.y F.ne) fun F=>k3<|F.ci (fun hc14=>?_) (fun hc14=>?_)
 ·refine wR fun k4=>(F.m) fun F=>(F.m) fun F=>k4<|(F.r2) ?_
  have e:numE l many hi=9:=(by rw[numE,if_pos (by omega)]);exact⟨by rw[numS,e];rfl,(G.e 0)⟩
 ·refine Yi<|k2<|wR fun k5=>(F.m) fun F=>?_
  rw[show (0:Int)=(l.take 0).sum from rfl]at F;refine k5<|wQ fun k6=>wR fun k7=>(F.m) fun F=>(F.y F.ln) fun F=>(F.m) fun F=>k7<|Yh<|lpB (F.b [2,15,16]) G (l.length) (fun i Lv Sv W=>Lv=[(8,.int .i64 ((l.take i).sum)),(17,.int .i64 ((i:Nat):Int))]∧Sv=[]∧(∀j,j<i→outB (l.getD j 0) 0 hi=false)∧0≤(l.take i).sum∧(l.take i).sum≤1000*(i:Int)) ⟨_,_,F.u,G.u,rfl,rfl,(fun j hj=>absurd hj (by omega)),(by simp),(by simp)⟩ ?_
  clear F G;rintro i _ w1 _ _ hi1 ⟨rfl,rfl,hb,hs0,hs1⟩ F G;replace G:=G.z;refine wR fun k8=>(F.y F.ls) fun F=>k8<|wQ fun k9=>F.ci (fun hc18=>?_) (fun hc18=>?_)
  ·refine Yi<|k9<|wQ fun k10=>Yh<|wR fun k11=>(F.ix HS.out i) fun xr12 F=>(F.y (F.l1 (xr12 _ (G.e 0)) 0)) fun F=>(F.m) fun F=>k11<|wQ fun k13=>wR fun k14=>(F.m) fun F=>(F.m) fun F=>(F.k0 G (Z0Z (l.getD i 0) 0 hi _)) fun F G=>k14<|F.cb (fun hc23=>?_) (fun hc23=>?_)
   ·have hyes:outB (l.getD i 0) 0 hi=true:=by simpa using hc23
    refine wR fun k15=>(F.m) fun F=>(F.m) fun F=>k15<|(F.r2) ?_
    have e:numE l many hi=1:=(by rw[numE,if_neg (by omega),Zgy (by omega) hyes];rfl);exact⟨by rw[numS,e];rfl,(G.e 0)⟩
   ·have hno:outB (l.getD i 0) 0 hi=false:=by simpa using hc23
    obtain⟨hn1,hn2⟩:=Z2c.1 hno;refine Yi<|k13<|Yg<|(F.m) fun F=>(F.m) fun F=>(F.y F.ad) fun F=>?_
    rw[←Z4t l (show i<l.length by omega)]at F;refine(F.m) fun F=>k10<|Yg<|(F.y F.ad) fun F=>(F.m) fun F=>?_
    show _∧_;exact⟨by omega,_,_,F.u,G.u,rfl,rfl,(fun j hj=>if e:j=i then e▸hno else hb j (by omega)),(by rw[Z4t l (by omega)];omega),(by rw[Z4t l (by omega)];omega)⟩
  ·refine wp_exit<|k6<|wR fun k16=>(F.m) fun F=>(F.m) fun F=>(F.m) fun F=>k16<|(F.r2) ?_
   have e:numE l many hi=0:=(by rw[numE,if_neg (by omega),ZdO hb (by omega)];rfl);exact⟨by rw[numS,e,if_pos rfl,List.take_of_length_le (by omega)],(G.e 0)⟩
variable{μ:Nat}
section
variable{P:Program}{ρ:Operand→Value}{o:Oper}{w:World}
theorem Zfz{x: Operand}{dT sT elem:TypeId}{b dLen dCap sLen sCap: Nat}{a:Addr}(cs:List Value)(ho:o.op = .call {callee:=.builtin .copy,args:=#[x,y],argTypes:=#[dT,sT]})(hx:ρ x = .slice (some ⟨b,off,none⟩) dLen dCap)(hy:ρ y = .slice (some a) sLen sCap)(hu:P.underlying dT=some (.slice elem))(hs:(P.info? elem).map (·.size)=some 1)(hn:cs.length=Nat.min sLen dLen)(hsrc:∀j v,cs[j]?=some v→w.cell? (a.add j)=some v)(hc:∀j,j<cs.length→(w.cell? ⟨b,off+j,none⟩).isSome=true)(hf:∀j,j<cs.length→w.frozen? ⟨b,off+j,none⟩=false)(h1:∀v∈cs,v.oneCell'=true):
  (execOp ρ o).run P w = .ok (.value (.int .i64 cs.length)) (w.setCells b off cs):=by
 unfold execOp;simp[ho,hx,hy,resolve,invoke,builtin,run_copy_cells w dT sT o.type elem b off dLen dCap a sLen sCap cs hu hs hn hsrc hc hf h1,goInt,go_sem]
theorem Z2m{x:Operand}{t:TypeId}{b: Nat}(ho:o.op = .slice t x none none none)(hx:ρ x = .pointer (some ⟨b,0,none⟩))(hu:P.underlying t=some (.array (P.arrayLen t) (P.elem t)))(hs:(P.info? (P.elem t)).map (·.size)=some 1)(hn:P.arrayLen t=n):
  (execOp ρ o).run P w = .ok (.value (.slice (some ⟨b,0,none⟩) n n)) w:=by
 have h0:(sizeOf (P.elem t)).run P w = .ok 1 w:=by
  generalize P.elem t=e at hs
  cases hq:P.info? e with
  | none=>simp[hq]at hs
  | some j =>
   have hj:j.size=1:=by simpa[hq] using hs
   simp[sizeOf,typeInfo,hq,hj]
 have hr:=run_sliceAt_array_all (P:=P) w t ⟨b,0,none⟩ hu;rw[h0,hn]at hr;simp only[Result.andThen_ok,slicedAt,Nat.zero_mul,Nat.sub_zero]at hr;have ha:(if n=0 then(⟨b,0,none⟩:Addr) else Addr.add ⟨b,0,none⟩ 0)=⟨b,0,none⟩:=by split<;>rfl
 rw[ha]at hr;clear hu hs hn h0 ha;unfold execOp;simp only[ho,hx,Option.map_none,Sem.run_bind,hr,Result.andThen_ok,Sem.run_pure]
end
def Z41(l:List Int):Array Value:=#[.int .i64 (l.getD 0 0),.int .i64 (l.getD 1 0),.int .i64 (l.getD 2 0)]
theorem ZcQ{w w2:World}{b:Nat}{T:TypeId}(e:w2=w.setCells b 0 (l.map (Value.int .i64)))(H:w.heap[b]?=some (.cells #[.int .i64 0,.int .i64 0,.int .i64 0] T (0,0)))(hl:l.length≤3): w2.heap[b]?=some (.cells (Z41 l) T (0,0)):=by
 match l,hl with
 | [],_=>rw[e];exact H
 | [x],_=>exact ZF (w2:=w2) (by rw[e];rfl) H rfl
 | [x,y],_=>exact Z1X (w2:=w2) (by rw[e];rfl) H rfl
 | [x,y,z],_=>exact Z1Y (cs:=Z41 [x,y,z]) (by rw[e];rfl) H rfl
 | x::y::z::u::l,h=>simp at h
def eqT(l m:List Int):Bool:=(List.range 3).all fun i=>decide (l.getD i 0=m.getD i 0)
theorem ZgT(hl:l.length=m.length)(h3:l.length≤3): eqT l m=true↔l=m:=by
 simp only[eqT,Yl,List.mem_range,decide_eq_true_eq]
 constructor
 ·intro h
  refine List.ext_getElem hl fun j a b=>?_;simpa[a,b] using h j (by omega)
 ·rintro rfl;exact fun _ _=>rfl
section
variable{ρ:Operand→Value}{o:Oper}{w:World}
theorem Zc1(l m:List Int):(Op.equalIn 10000 116 (.agg (Z41 l)) (.agg (Z41 m))).run (Qy.prog μ) w = .ok (eqT l m) w:=by
 refine Z1E (n:=1) Qy.underlying116 (by kernel_rfl) _ fun i hi=>?_;refine⟨.int .i64 (l.getD i 0),.int .i64 (m.getD i 0),?_,?_,?_⟩
 ·rcases i with _ | _ | _ | i
  ·exact ZS rfl
  ·exact ZS rfl
  ·exact ZS rfl
  ·omega
 ·rcases i with _ | _ | _ | i
  ·exact ZS rfl
  ·exact ZS rfl
  ·exact ZS rfl
  ·omega
 ·exact run_equalIn_int w _ _ .i64 .i64 _ _ Qy.underlying3
theorem Ziq{x: Operand}{t':TypeId}(ho:o.op = .binOp .eql 116 x y t')(hx:ρ x = .agg (Z41 l))(hy:ρ y = .agg (Z41 m)):
  (execOp ρ o).run (Qy.prog μ) w = .ok (.value (.bool (eqT l m))) w:=by
 have hg:(Qy.prog μ).eqGuardType (Qy.prog μ).depth 116=false:=by kernel_rfl
 unfold execOp;simp only[ho,hx,hy,Sem.run_bind,run_eqGuard_agg w .eql 116 x y (Z41 l) (Z41 m) hg,Result.andThen_ok,run_eql_struct,Zc1,Sem.run_pure]
end
theorem Z9h{w:World}{c sb so: Nat}(h:Z7 w (.slice (some ⟨sb,so,none⟩) n c) 1 (l.map Z5)): ∀(j:Nat) (v:Value),(l.map (Value.int .i64))[j]?=some v→w.cell? ((⟨sb,so,none⟩:Addr).add j)=some v:=by
 intro j v hv;rw[Yn,Y3]at hv;obtain⟨k,hk,rfl⟩:=hv;have hne:l.map Z5≠[]:=by
  intro e;have hl:l=[]:=by simpa using e
  rw[hl]at hk;simp at hk
 obtain⟨b,off,hb,-,hr⟩:=h.range rfl hne
 cases hb
 have:=hr j (Z5 k) (by rw[Yn,hk];rfl) 0 (.int .i64 k) rfl;rw[Nat.mul_one,Nat.add_zero]at this;rw[Go.WideShapes.add_plain];exact this
theorem Ze1{w:World}{b:Nat}{x y z:Value}{T:TypeId}(H:w.heap[b]?=some (.cells #[x,y,z] T (0,0)))(hn:n≤3): (∀j,j<n→(w.cell? ⟨b,0+j,none⟩).isSome=true)∧∀j,j<n→w.frozen? ⟨b,0+j,none⟩=false:=by
 refine⟨fun j hj=>?_,fun j hj=>Za H _⟩;rw[Z0 H]
 rcases j with _ | _ | _ | j
 ·rfl
 ·rfl
 ·rfl
 ·omega
theorem Z6J(l:List Int):∀v∈l.map (Value.int .i64),v.oneCell'=true:=by
 intro v hv;obtain⟨k,-,rfl⟩:=List.mem_map.1 hv
 rfl
variable{μ:Nat}
def dyeE(B:Int):List (List Int)→List (List Int)→Int
 | _,[]=>0
 | met,d::ds=>if numE d B 9≠0 then numE d B 9 else if d∈met then 4 else dyeE B (met++[d]) ds
def Z1S(B:Int):List (List Int)→Int
 | []=>0
 | l::ls=>if numE l B 3≠0 then numE l B 3 else if l.sum=0 then 7 else Z1S B ls
def chkE(B:Int)(ds ls:List (List Int))(tol:Int):Int:=
 if outB B 1 3=true then 1 else if sizE ds.length 4≠0 then sizE ds.length 4 else if dyeE B [] ds≠0 then dyeE B [] ds
 else if sizE ls.length 3≠0 then sizE ls.length 3 else if Z1S B ls≠0 then Z1S B ls else if outB tol 0 12=true then 1 else 0
theorem ZM{α:Type}(l:List α)(d:α){i:Nat}(h:i<l.length): l.drop i=l.getD i d::l.drop (i+1):=by
 rw[List.drop_eq_getElem_cons h];simp[Y7,List.getElem?_eq_getElem h]
theorem Z2k{α:Type}(l:List α)(d:α){i:Nat}(h:i<l.length): l.take (i+1)=l.take i++[l.getD i d]:=by
 rw[List.take_add_one,List.getElem?_eq_getElem h];simp[Y7,List.getElem?_eq_getElem h]
theorem ZcF{m h:Int}(e:numE l m h=0): (l.length:Int)=m∧∀n∈l,0≤n∧n≤h:=by
 unfold numE at e
 split at e
 ·cases e
 ·rename_i hlen
  split at e
  ·rename_i ha
   refine⟨by omega,fun n hn=>?_⟩;have:=Yl.1 ha n hn;exact Z2c.1 (by simpa using this)
  ·cases e
theorem ZgS{B:Int}{ds:List (List Int)}{i:Nat}(hi:i<ds.length)(h:numE (ds.getD i []) B 9≠0): dyeE B (ds.take i) (ds.drop i)=numE (ds.getD i []) B 9:=by
 rw[ZM ds [] hi,dyeE,if_pos h]
theorem ZbU{B:Int}{ds:List (List Int)}{i j:Nat}(hi:i<ds.length)(h:numE (ds.getD i []) B 9=0)(hj:j<i)(e:ds.getD j []=ds.getD i []): dyeE B (ds.take i) (ds.drop i)=4:=by
 rw[ZM ds [] hi,dyeE,if_neg (by rw[h];simp),if_pos];rw[←e,Y7,List.getElem?_eq_getElem (show j<ds.length by omega)];exact List.mem_take_iff_getElem.2 ⟨j,by omega,rfl⟩
theorem Zj0{B:Int}{ds:List (List Int)}{i:Nat}(hi:i<ds.length)(h:numE (ds.getD i []) B 9=0)(hn:∀j,j<i→ds.getD j []≠ds.getD i []): dyeE B (ds.take i) (ds.drop i)=dyeE B (ds.take (i+1)) (ds.drop (i+1)):=by
 rw[ZM ds [] hi,dyeE,if_neg (by rw[h];simp),if_neg,←Z2k ds [] hi];intro hm;obtain⟨j,hj,e⟩:=List.mem_take_iff_getElem.1 hm;have hj':j<i:=by omega
 refine hn j hj' ?_;rw[Y7,List.getElem?_eq_getElem (show j<ds.length by omega)];exact e
theorem Zes{B:Int}{ls:List (List Int)}{i:Nat}(hi:i<ls.length)(h:numE (ls.getD i []) B 3≠0): Z1S B (ls.drop i)=numE (ls.getD i []) B 3:=by
 rw[ZM ls [] hi,Z1S,if_pos h]
theorem Zcv{B:Int}{ls:List (List Int)}{i:Nat}(hi:i<ls.length)(h:numE (ls.getD i []) B 3=0)(h0:(ls.getD i []).sum=0): Z1S B (ls.drop i)=7:=by
 rw[ZM ls [] hi,Z1S,if_neg (by rw[h];simp),if_pos h0]
theorem Zha{B:Int}{ls:List (List Int)}{i:Nat}(hi:i<ls.length)(h:numE (ls.getD i []) B 3=0)(h0:(ls.getD i []).sum≠0): Z1S B (ls.drop i)=Z1S B (ls.drop (i+1)):=by
 rw[ZM ls [] hi,Z1S,if_neg (by rw[h];simp),if_neg h0]
def Zb0(l:List Int):List Value:=[.int .i64 (l.getD 0 0),.int .i64 (l.getD 1 0),.int .i64 (l.getD 2 0)]
variable{μ:Nat}
theorem Z1R(M:List (Value×List Int)){i:Nat}(h:i<M.length): (M.map (·.2)).getD i []=(M.getD i (.bool true,[])).2:=Zel (fun p:Value×List Int=>p.2) (.bool true,[]) M h
section
variable{B tol:Int}{ds ls:List (List Int)}
theorem chk1(h:outB B 1 3=true):chkE B ds ls tol=1:=if_pos h
theorem chk2(h:outB B 1 3=false)(h2:sizE ds.length 4≠0):chkE B ds ls tol=sizE ds.length 4:=by
 rw[chkE,if_neg (by rw[h];decide),if_pos h2]
theorem chk3(h:outB B 1 3=false)(h2:sizE ds.length 4=0)(h3:dyeE B [] ds≠0):chkE B ds ls tol=dyeE B [] ds:=by
 rw[chkE,if_neg (by rw[h];decide),if_neg (by rw[h2];decide),if_pos h3]
theorem chk4(h:outB B 1 3=false)(h2:sizE ds.length 4=0)(h3:dyeE B [] ds=0)(h4:sizE ls.length 3≠0):chkE B ds ls tol=sizE ls.length 3:=by
 rw[chkE,if_neg (by rw[h];decide),if_neg (by rw[h2];decide),if_neg (by rw[h3];decide),if_pos h4]
theorem chk5(h:outB B 1 3=false)(h2:sizE ds.length 4=0)(h3:dyeE B [] ds=0)(h4:sizE ls.length 3=0)(h5:Z1S B ls≠0):chkE B ds ls tol=Z1S B ls:=by
 rw[chkE,if_neg (by rw[h];decide),if_neg (by rw[h2];decide),if_neg (by rw[h3];decide),if_neg (by rw[h4];decide),if_pos h5]
theorem chk6(h:outB B 1 3=false)(h2:sizE ds.length 4=0)(h3:dyeE B [] ds=0)(h4:sizE ls.length 3=0)(h5:Z1S B ls=0):chkE B ds ls tol=if outB tol 0 12=true then 1 else 0:=by
 rw[chkE,if_neg (by rw[h];decide),if_neg (by rw[h2];decide),if_neg (by rw[h3];decide),if_neg (by rw[h4];decide),if_neg (by rw[h5];decide)]
end
theorem Zb4(x:Vm)(w:World)(h:x.At w)(sd:Z97 x.D)(sl:Z97 x.L):
  Calls (Qy.prog μ) 37 #[.agg #[.int .i64 x.B,.slice x.da x.D.length x.dc,.slice x.la x.L.length x.lc,.int .i64 x.tol]] w fun e w'=>e = .returned (.int .i64 (chkE x.B (x.D.map (·.2)) (x.L.map (·.2)) x.tol))∧Ext [] w w':=by
 have E:Ext [] w w:=Ext.refl _ _;have HA:=Lib.hid h;have HD:=Lib.hid h.d.1;have HL:=Lib.hid h.l.1;have SD:=Lib.hid sd;have SL:=Lib.hid sl;clear h;obtain⟨sd1,sd2⟩:=sd;obtain⟨sl1,sl2⟩:=sl;clear sd2 sl2;obtain⟨ds,hds⟩:∃ds,ds=x.D.map (·.2):=⟨_,rfl⟩;obtain⟨ls,hls⟩:∃ls,ls=x.L.map (·.2):=⟨_,rfl⟩;have hdl:ds.length=x.D.length:=by rw[hds,Yj]
 have hll:ls.length=x.L.length:=by rw[hls,Yj]
 have KD:Hid (∀i,i<x.D.length→ds.getD i []=(x.D.getD i (.bool true,[])).2):=fun i hi=>by rw[hds];exact Z1R _ hi
 have KL:Hid (∀i,i<x.L.length→ls.getD i []=(x.L.getD i (.bool true,[])).2):=fun i hi=>by rw[hls];exact Z1R _ hi
 rw[←hds,←hls];clear hds hls;have om:w.ownsRow w.heap.size 116 3 (.slice none 0 0) 0 (((ds.take 0).map Zb0).flatten):=World.ownsRow_nil _ _ _ _;have G:=(Bk.nil w).ce E;replace G:=G.co om;refine(ent 92 Tryz.f37 rfl) fun F=>wR fun k1=>(F.bx G) fun yy F G=>(F.m) fun F=>k1<|wQ fun k2=>wR fun k3=>(F.y (F.fd 0)) fun F=>(F.y (F.lc (G.q 0))) fun F=>(F.k0 G (Z0Z x.B 1 3 _)) fun F G=>k3<|F.cb (fun hc19=>?_) (fun hc19=>?_)
 ·have hb1:outB x.B 1 3=true:=by simpa using hc19
  refine wR fun k4=>(F.m) fun F=>k4<|(F.r1) ?_
  exact⟨Zi (chk1 hb1).symm,(G.e 2)⟩
 ·have hb1:outB x.B 1 3=false:=by simpa using hc19
  obtain⟨hB1,hB3⟩:=Z2c.1 hb1;refine Yi<|k2<|wQ fun k5=>wR fun k6=>(F.y (F.fd 1)) fun F=>(F.y (F.lc (G.q 0))) fun F=>(F.y F.ln) fun F=>(F.k0 G (Z50 (x.D.length:Nat) 4 _)) fun F G=>(F.m) fun F=>k6<|wR fun k7=>(F.m) fun F=>(F.y F.ne) fun F=>k7<|F.ci (fun hc25=>?_) (fun hc25=>?_)
  ·refine wR fun k8=>(F.m) fun F=>(F.m) fun F=>k8<|(F.r1) ?_
   exact⟨Zi (by rw[chk2 hb1 (by rw[hdl];exact hc25),hdl]),(G.e 2)⟩
  ·refine Yi<|k5<|wR fun k9=>(F.m) fun F=>k9<|wQ fun k10=>wR fun k11=>(F.y (F.fd 1)) fun F=>(F.y (F.lc (G.q 0))) fun F=>(F.y F.ln) fun F=>(F.m) fun F=>k11<|Yh<|lpB (F.b [1,28,29]) (G.b [0,2]) (x.D.length) (fun i Lv Sv W=>∃va:Option Addr,∃vc:Nat,Lv=[(4,.slice va i vc),(30,.int .i64 ((i:Nat):Int))]∧Sv=[]∧W.ownsRow w.heap.size 116 3 (.slice va i vc) i (((ds.take i).map Zb0).flatten)∧dyeE x.B (ds.take i) (ds.drop i)=dyeE x.B [] ds∧(∀j,j<i→((x.D.getD j (.bool true,[])).2.length:Int)=x.B)) ⟨_,_,F.u,G.u,none,0,rfl,rfl,(G.o 1),rfl,(fun j hj=>absurd hj (by omega))⟩ ?_
   clear F G;rintro i _ w4 _ _ hi1 ⟨va,vc,rfl,rfl,om,hd,hlen⟩ F G;replace G:=(G.z).co om;refine wR fun k12=>(F.y F.ls) fun F=>k12<|wQ fun k13=>F.ci (fun hc31=>?_) (fun hc31=>?_)
   ·refine Yi<|k13<|wQ fun k14=>Yh<|wQ fun k15=>?_
    obtain⟨la,lca,hla,hlr⟩:=HA.out.d.2 _ (Z8 (.bool true,[]) (show i<x.D.length by omega));have hsz:=SD.out.2 _ (Z8 (.bool true,[]) (show i<x.D.length by omega));have hkd:=KD.out i (by omega);refine Yg<|(F.ix HD.out i) fun xr16 F=>(F.y (F.l1 (xr16 _ (G.e 2)) 0)) fun F=>?_
    rw[hla]at F;refine(F.m) fun F=>k15<|wQ fun k17=>wR fun k18=>(F.m) fun F=>(F.y (F.fd 0)) fun F=>(F.y (F.lc (G.q 1))) fun F=>(F.k0 G (Z2V (x.D.getD i (.bool true,[])).2 x.B 9 la lca _ (hlr.ext (G.e 2) (by simp)) hsz (by omega))) fun F G=>(F.m) fun F=>(F.y F.xt) fun F=>(F.y F.xt) fun F=>(F.m) fun F=>(F.m) fun F=>k18<|wR fun k19=>(F.m) fun F=>(F.y F.ne) fun F=>k19<|F.ci (fun hc42=>?_) (fun hc42=>?_)
    ·refine wR fun k20=>(F.m) fun F=>(F.m) fun F=>k20<|(F.r1) ?_
     have e:=ZgS (B:=x.B) (ds:=ds) (i:=i) (by omega) (by rw[hkd];exact hc42);rw[hd,hkd]at e;exact⟨Zi (by rw[chk3 hb1 (by rw[hdl];omega) (by rw[e];exact hc42),e]),(G.e 2)⟩
    ·have hz0:numE (x.D.getD i (.bool true,[])).2 x.B 9=0:=by omega
     obtain⟨hz1,hz2⟩:=ZcF hz0;refine Yi<|k17<|wR fun k21=>(F.al G Qy.zeroValue116) fun yy F G=>k21<|wQ fun k22=>?_
     have hd3':(x.D.getD i (.bool true,[])).2.length≤3:=by omega
     refine Yg ?_;refine(F.y ((Z2m (n:=3) rfl (F.at rfl) (by kernel_rfl) (by kernel_rfl) (by kernel_rfl)))) fun F=>(F.m) fun F=>?_;have hlr2:=hlr.ext (G.e 3) (by simp);obtain⟨sb,so,hsa,-,-⟩:=hlr2.range rfl (by intro e;have hq:=congrArg List.length e;rw[Yj,List.length_nil]at hq;omega);rw[hsa]at hlr2;obtain⟨hcd,hcf⟩:=Ze1 (G.q 0) (n:=(x.D.getD i (.bool true,[])).2.length) hd3';refine sqN F (Zfz ((x.D.getD i (.bool true,[])).2.map (Value.int .i64)) rfl (F.at rfl) ((F.at rfl).trans (congrArg (fun z=>Value.slice z _ _) hsa)) Qy.underlying22 (by kernel_rfl) (by rw[Yj];exact(Nat.min_eq_left hd3').symm) (Z9h hlr2) (by rw[Yj];exact hcd) (by rw[Yj];exact hcf) (Z6J _)) ?_ (hw:=F.want rfl);clear F;rintro _ w7 F hw;replace G:=G.pr 0 hw (ZcQ hw (G.q 0) hd3');refine k22<|wQ fun k23=>wR fun k24=>(F.m) fun F=>(F.y F.ln) fun F=>(F.m) fun F=>?_
     have om:=G.o 1;have HMs:=Lib.hid (Z1g om (show i=(ds.take i).length by rw[List.length_take];omega) (fun _=>rfl) [] (by simp) []);have hml:(ds.take i).length=i:=(by rw[List.length_take];omega);rw[hml]at HMs;replace G:=G.hr [];refine k24<|Yh<|lpB (F.b [1,4,9,28,29,30,47,48]) G (i) (fun j Lv Sv W=>Lv=[(49,.int .i64 ((j:Nat):Int))]∧Sv=[]∧(∀k,k<j→ds.getD k []≠ds.getD i [])) ⟨_,_,F.u,G.u,rfl,rfl,(fun k hk=>absurd hk (by omega))⟩ ?_
     clear F G;rintro j _ w8 _ _ hi2 ⟨rfl,rfl,hn⟩ F G;replace G:=G.z;refine wR fun k25=>(F.y F.ls) fun F=>k25<|wQ fun k26=>F.ci (fun hc50=>?_) (fun hc50=>?_)
     ·refine Yi<|k26<|wQ fun k27=>Yh<|wQ fun k28=>?_
      have hjj:(ds.take i).getD j []=ds.getD j []:=by simp[Y7,List.getElem?_take,show j<i by omega]
      have hkj:=KD.out j (by omega);have hlj:=hlen j (by omega);refine Yg<|(F.ix HMs.out j) fun xr29 F=>(F.y (F.lr (xr29 _ (G.e 0)))) fun F=>(F.al G Qy.zeroValue116) fun yy F G=>(F.sr G 0) fun G=>k28<|wR fun k30=>(F.y (F.lb (G.q 0))) fun F=>(F.y (F.lb (G.q 2))) fun F=>?_
      refine(F.y ((Ziq (l:=(ds.take i).getD j []) (m:=(x.D.getD i (.bool true,[])).2) rfl (F.at rfl) (F.at rfl)))) fun F=>?_;have hqq:=ZgT (l:=(ds.take i).getD j []) (m:=(x.D.getD i (.bool true,[])).2) (by rw[hjj,hkj];omega) (by rw[hjj,hkj];omega);refine k30<|F.cb (fun hc55=>?_) (fun hc55=>?_)
      ·have heq:ds.getD j []=ds.getD i []:=by rw[hkd,←hjj];exact hqq.1 (by simpa using hc55)
       refine wR fun k31=>(F.m) fun F=>k31<|(F.r1) ?_
       have e:=ZbU (B:=x.B) (ds:=ds) (i:=i) (j:=j) (by omega) (by rw[hkd];exact hz0) (by omega) heq;rw[hd]at e;exact⟨Zi (by rw[chk3 hb1 (by rw[hdl];omega) (by rw[e];decide),e]),(G.e 5)⟩
      ·have hne:ds.getD j []≠ds.getD i []:=fun e=>by rw[hkd,←hjj]at e;exact Bool.noConfusion (hc55.symm.trans (hqq.2 e))
       refine Yi<|k27<|Yg<|(F.y F.ad) fun F=>(F.m) fun F=>?_
       show _∧_;exact⟨by omega,_,_,F.u,G.u,rfl,rfl,(fun k hk=>if e:k=j then e▸hne else hn k (by omega))⟩
     ·refine wp_exit ?_
      have hji:j=i:=by omega
      refine k23<|Yg<|(F.m) fun F=>(F.y (F.lb (G.q 1))) fun F=>(F.bs G 3 #[.int .i64 ((x.D.getD i (.bool true,[])).2.getD 0 0),.int .i64 ((x.D.getD i (.bool true,[])).2.getD 1 0),.int .i64 ((x.D.getD i (.bool true,[])).2.getD 2 0)] Qy.zeroValue116) fun yy F G=>?_
      have hEs:=(G.e 5).size;replace G:=G.d 1;refine ZD F rfl (by decide) (F.want rfl) (ZI rfl (w.heap.size) (e:=116) (size:=3) (bytes:=24) Qy.underlying113 (by kernel_rfl) (by decide) (F.at rfl) (G.o 2) (F.at rfl) (G.q 0) rfl (by simp[Value.oneCell']) (by omega) (by omega) (by omega)) ?_;clear F;rintro _ v' w12 F ⟨hown',hg⟩;obtain⟨va60,vc60,rfl⟩:=Zo hown';replace G:=(G.d 0).gr 1 hg hown';clear hg hown';have hd3:=(Zj0 (B:=x.B) (ds:=ds) (i:=i) (by omega) (by rw[hkd];exact hz0) (fun k hk=>hn k (by omega))).symm.trans hd;have om:=G.o 1;rw[show ((ds.take i).map Zb0).flatten++[.int .i64 ((x.D.getD i (.bool true,[])).2.getD 0 0),.int .i64 ((x.D.getD i (.bool true,[])).2.getD 1 0),.int .i64 ((x.D.getD i (.bool true,[])).2.getD 2 0)]=((ds.take (i+1)).map Zb0).flatten by rw[Z2k ds [] (show i<ds.length by omega),List.map_append,List.flatten_append,hkd];simp[Zb0]]at om;replace G:=G.rO 1 om;clear om;refine(F.m) fun F=>k14<|Yg<|(F.y F.ad) fun F=>(F.m) fun F=>?_
      show _∧_;exact⟨by omega,_,_,F.u,G.u,_,_,rfl,rfl,(G.o 1),hd3,(fun j hj=>if e:j=i then e▸hz1 else hlen j (by omega))⟩
   ·refine wp_exit ?_
    have hd0:dyeE x.B [] ds=0:=by rw[←hd,List.drop_eq_nil_of_le (by omega)];rfl
    refine k10<|wQ fun k32=>wR fun k33=>(F.y (F.fd 2)) fun F=>(F.y (F.lc (G.q 1))) fun F=>(F.y F.ln) fun F=>(F.k0 G (Z50 (x.L.length:Nat) 3 _)) fun F G=>(F.m) fun F=>k33<|wR fun k34=>(F.m) fun F=>(F.y F.ne) fun F=>k34<|F.ci (fun hc67=>?_) (fun hc67=>?_)
    ·refine wR fun k35=>(F.m) fun F=>(F.m) fun F=>k35<|(F.r1) ?_
     exact⟨Zi (by rw[chk4 hb1 (by rw[hdl];omega) hd0 (by rw[hll];exact hc67),hll]),(G.e 2)⟩
    ·refine Yi<|k32<|wQ fun k36=>wR fun k37=>(F.y (F.fd 2)) fun F=>(F.y (F.lc (G.q 1))) fun F=>(F.y F.ln) fun F=>(F.m) fun F=>k37<|Yh<|lpB (F.b [1,70,71]) G (x.L.length) (fun k Lv Sv W=>Lv=[(72,.int .i64 ((k:Nat):Int))]∧Sv=[]∧Z1S x.B (ls.drop k)=Z1S x.B ls) ⟨_,_,F.u,G.u,rfl,rfl,rfl⟩ ?_
     clear F G;rintro k _ w14 _ _ hi3 ⟨rfl,rfl,hlm⟩ F G;replace G:=G.z;refine wR fun k38=>(F.y F.ls) fun F=>k38<|wQ fun k39=>F.ci (fun hc73=>?_) (fun hc73=>?_)
     ·refine Yi<|k39<|wQ fun k40=>Yh<|wQ fun k41=>?_
      obtain⟨la,lca,hla,hlr⟩:=HA.out.l.2 _ (Z8 (.bool true,[]) (show k<x.L.length by omega));have hsz:=SL.out.2 _ (Z8 (.bool true,[]) (show k<x.L.length by omega));have hkl:=KL.out k (by omega);refine Yg<|(F.ix HL.out k) fun xr42 F=>(F.y (F.l1 (xr42 _ (G.e 2)) 0)) fun F=>?_
      rw[hla]at F;refine(F.m) fun F=>k41<|wR fun k43=>(F.m) fun F=>(F.y (F.fd 0)) fun F=>(F.y (F.lc (G.q 1))) fun F=>(F.k0 G (Z2V (x.L.getD k (.bool true,[])).2 x.B 3 la lca _ (hlr.ext (G.e 2) (by simp)) hsz (by omega))) fun F G=>(F.m) fun F=>(F.y F.xt) fun F=>(F.y F.xt) fun F=>(F.m) fun F=>(F.m) fun F=>k43<|wQ fun k44=>wR fun k45=>(F.m) fun F=>(F.y F.ne) fun F=>k45<|F.ci (fun hc84=>?_) (fun hc84=>?_)
      ·refine wR fun k46=>(F.m) fun F=>(F.m) fun F=>k46<|(F.r1) ?_
       have e:=Zes (B:=x.B) (ls:=ls) (i:=k) (by omega) (by rw[hkl];exact hc84);rw[hlm,hkl]at e;exact⟨Zi (by rw[chk5 hb1 (by rw[hdl];omega) hd0 (by rw[hll];omega) (by rw[e];exact hc84),e]),(G.e 2)⟩
      ·have hz0:numE (x.L.getD k (.bool true,[])).2 x.B 3=0:=by omega
       have hsum:numS (x.L.getD k (.bool true,[])).2 x.B 3=(x.L.getD k (.bool true,[])).2.sum:=by rw[numS,if_pos hz0]
       refine Yi<|k44<|wR fun k47=>(F.m) fun F=>(F.y F.eq) fun F=>k47<|F.ci (fun hc87=>?_) (fun hc87=>?_)
       ·refine wR fun k48=>(F.m) fun F=>k48<|(F.r1) ?_
        have e:=Zcv (B:=x.B) (ls:=ls) (i:=k) (by omega) (by rw[hkl];exact hz0) (by rw[hkl];omega);rw[hlm]at e;exact⟨Zi (by rw[chk5 hb1 (by rw[hdl];omega) hd0 (by rw[hll];omega) (by rw[e];decide),e]),(G.e 2)⟩
       ·have hlm3:=(Zha (B:=x.B) (ls:=ls) (i:=k) (by omega) (by rw[hkl];exact hz0) (by rw[hkl];omega)).symm.trans hlm
        refine Yi<|k40<|Yg<|(F.y F.ad) fun F=>(F.m) fun F=>?_
        show _∧_;exact⟨by omega,_,_,F.u,G.u,rfl,rfl,hlm3⟩
     ·refine wp_exit ?_
      have hl0:Z1S x.B ls=0:=by rw[←hlm,List.drop_eq_nil_of_le (by omega)];rfl
      refine k36<|wQ fun k49=>wR fun k50=>(F.y (F.fd 3)) fun F=>(F.y (F.lc (G.q 1))) fun F=>(F.k0 G (Z0Z x.tol 0 12 _)) fun F G=>k50<|F.cb (fun hc91=>?_) (fun hc91=>?_)
      ·refine wR fun k51=>(F.m) fun F=>k51<|(F.r1) ?_
       exact⟨Zi (by rw[chk6 hb1 (by rw[hdl];omega) hd0 (by rw[hll];omega) hl0,if_pos (by simpa using hc91)]),(G.e 2)⟩
      ·refine Yi<|k49<|wR fun k52=>(F.m) fun F=>k52<|(F.r1) ?_
       exact⟨Zi (by rw[chk6 hb1 (by rw[hdl];omega) hd0 (by rw[hll];omega) hl0,if_neg (by simpa using hc91)]),(G.e 2)⟩
variable{μ:Nat}
theorem Z1z{b b2:Nat}{c:Nat}(oo:w.ownsRow b 22 1 (.slice a M.length c) M.length (M.map (·.1)))(fam:FamT w b2 M): Z0s w a M:=⟨Z6Z oo rfl,fun p hp=>Zh2 fam hp⟩
theorem Zca{b b':Nat}(h:FamT w b M)(hb:b'≤b): FamT w b' M:=⟨fun p hp=>Z0i (h.1 p hp) hb,h.2⟩
variable{μ:Nat}
def tubC(f:Nat→Int):Array Value:=#[.int .i64 (f 0),.int .i64 (f 1),.int .i64 (f 2),.int .i64 (f 3)]
def upF(f:Nat→Int)(k:Nat)(v:Int):Nat→Int:=fun j=>if j=k then v else f j
def zf:Nat→Int:=fun _=>0
theorem Z62{f:Nat→Int}{i:Int}{k:Nat}(h:i.toNat=k)(hk:k<4): (tubC f)[i.toNat]?=some (.int .i64 (f k)):=by
 subst h
 rcases hi:i.toNat with _ | _ | _ | _ | n
 ·rfl
 ·rfl
 ·rfl
 ·rfl
 ·omega
theorem Z2J{b:Nat}{T:TypeId}{fz:Nat×Nat}{f:Nat→Int}(H:w.heap[b]?=some (.cells (tubC f) T fz)){i:Int}{k:Nat}(h:i.toNat=k)(hk:k<4): w.cell? ⟨b,0+i.toNat*1,none⟩=some (.int .i64 (f k)):=by
 rw[Z0 H,Nat.zero_add,Nat.mul_one];exact Z62 h hk
theorem Z8M{w2: World}{b:Nat}{T:TypeId}{f:Nat→Int}{i v:Int}(e:w2=w.setCell ⟨b,0+i.toNat*1,none⟩ (.int .i64 v))(H:w.heap[b]?=some (.cells (tubC f) T (0,0))){k:Nat}(h:i.toNat=k)(hk:k<4): w2.heap[b]?=some (.cells (tubC (upF f k v)) T (0,0)):=by
 refine ZF e H ?_;rw[Nat.zero_add,Nat.mul_one,h];clear e H h
 match k,hk with
 | 0,_=>rfl
 | 1,_=>rfl
 | 2,_=>rfl
 | 3,_=>rfl
theorem Z3x{f g:Nat→Int}(h:∀k,k<4→f k=g k): tubC f=tubC g:=by
 rw[tubC,tubC,h 0 (by omega),h 1 (by omega),h 2 (by omega),h 3 (by omega)]
def sumQ(f:Nat→Int):Nat→Int
 | 0=>0
 | n+1=>sumQ f n+f n
theorem Z60{f g:Nat→Int}:∀{n:Nat},(∀k,k<n→f k=g k)→sumQ f n=sumQ g n
 | 0,_=>rfl
 | n+1,h=>by rw[sumQ,sumQ,Z60 (n:=n) (fun k hk=>h k (by omega)),h n (by omega)]
theorem Z7c{f:Nat→Int}{a b:Int}:∀{n:Nat},(∀k,k<n→a≤f k∧f k≤b)→a*n≤sumQ f n∧sumQ f n≤b*n
 | 0,_=>by simp[sumQ]
 | n+1,h=>by
  have h1:=Z7c (n:=n) (fun k hk=>h k (by omega));have h2:=h n (by omega);rw[sumQ,show ((n+1:Nat):Int)=(n:Int)+1 from rfl,Int.mul_add,Int.mul_add];omega
theorem Zdn(l:List Int):∀n:Nat,l.length≤n→sumQ (val l) n=l.sum:=by
 have hk:∀n:Nat,n≤l.length→sumQ (val l) n=(l.take n).sum:=by
  intro n
  induction n with
  | zero=>intro _;simp[sumQ]
  | succ n ih=>intro h;rw[sumQ,ih (by omega),Z4t l (by omega)];rfl
 intro n h
 induction n with
 | zero=>rw[hk 0 (by omega)];have:l=[]:=List.length_eq_zero_iff.1 (by omega);subst this;rfl
 | succ n ih =>
  by_cases e:l.length=n+1
  ·rw[hk (n+1) (by omega),List.take_of_length_le (by omega)]
  ·rw[sumQ,ih (by omega)]
   simp[val,List.getElem?_eq_none (show l.length≤n by omega)]
def prt(f:Nat→Int):Int:=sumQ f 4
def ZiC(f:Nat→Int):Prop:=∀k,k<4→0≤f k∧f k≤1000
theorem Z0r(f:Nat→Int)(hf:ZiC f)(w:World):Calls (Qy.prog μ) 83 #[.agg (tubC f)] w fun e w'=>e = .returned (.int .i64 (prt f))∧Ext [] w w':=by
 have E:Ext [] w w:=Ext.refl _ _;have HF:=Lib.hid hf;clear hf;have G:=(Bk.nil w).ce E;refine(ent 15 Tryz.f83 rfl) fun F=>wR fun k1=>(F.bx G) fun yy F G=>(F.m) fun F=>k1<|wR fun k2=>(F.m) fun F=>?_
 rw[show (0:Int)=sumQ f 0 from rfl]at F;refine k2<|wQ fun k3=>wR fun k4=>(F.y (F.lb (G.q 0))) fun F=>(F.m) fun F=>?_
 rw[show (0:Int)=((0:Nat):Int) from rfl]at F;refine k4<|Yh<|lpB (F.b [6]) G (4) (fun i Lv Sv W=>Lv=[(3,.int .i64 (sumQ f i)),(7,.int .i64 ((i:Nat):Int))]∧Sv=[]∧0≤sumQ f i∧sumQ f i≤1000*(i:Int)) ⟨_,_,F.u,G.u,rfl,rfl,(by simp[sumQ]),(by simp[sumQ])⟩ ?_
 clear F G;rintro i _ w2 _ _ hi1 ⟨rfl,rfl,hs0,hs1⟩ F G;replace G:=G.z;refine wR fun k5=>(F.y F.ls) fun F=>k5<|wQ fun k6=>F.ci (fun hc8=>?_) (fun hc8=>?_)
 ·refine Yi<|k6<|wQ fun k7=>Yh<|wR fun k8=>(F.y (F.iv 4 (Z62 (k:=i) rfl (by omega)))) fun F=>(F.m) fun F=>k8 ?_
  obtain⟨hf0,hf1⟩:=HF.out i (by omega);refine Yg<|(F.m) fun F=>(F.m) fun F=>(F.y F.ad) fun F=>?_
  rw[show sumQ f i+f i=sumQ f (i+1) from rfl]at F;refine(F.m) fun F=>k7<|Yg<|(F.y F.ad) fun F=>(F.m) fun F=>?_
  show _∧_;exact⟨by omega,_,_,F.u,G.u,rfl,rfl,(by rw[sumQ];omega),(by rw[sumQ];omega)⟩
 ·refine wp_exit<|k3<|wR fun k9=>(F.m) fun F=>(F.m) fun F=>k9<|(F.r1) ?_
  have hi:i=4:=(by omega);exact⟨Zi (by rw[hi,prt]),(G.e 1)⟩
variable{μ:Nat}
structure VOk(x:Vm):Prop where
 chk:chkE x.B (x.D.map (·.2)) (x.L.map (·.2)) x.tol=0
 b1:1≤x.B
 b3:x.B≤3
 d1:1≤x.D.length
 d4:x.D.length≤4
 dl:∀p∈x.D,(p.2.length:Int)=x.B∧∀n∈p.2,0≤n∧n≤9
 l1:1≤x.L.length
 l3:x.L.length≤3
 ll:∀p∈x.L,(p.2.length:Int)=x.B∧∀n∈p.2,0≤n∧n≤3
 t0:0≤x.tol
 t12:x.tol≤12
theorem VOk.sd{x:Vm}(h:VOk x):Z97 x.D:=⟨by have:=h.d4;omega,fun p hp=>by have:=(h.dl p hp).1;have:=h.b3;omega⟩
theorem VOk.sl{x:Vm}(h:VOk x):Z97 x.L:=⟨by have:=h.l3;omega,fun p hp=>by have:=(h.ll p hp).1;have:=h.b3;omega⟩
theorem Z8G(w:World):Calls (Qy.prog μ) 111 #[.int .i64 0] w fun e w'=>e = .returned (.tuple #[])∧Ext [] w w':=by
 have E:Ext [] w w:=Ext.refl _ _;have G:=(Bk.nil w).ce E;refine(ent 6 Tryz.f111 rfl) fun F=>wR fun k1=>(F.m) fun F=>(F.y F.neF) fun F=>k1<|(F.cF)<|Yi<|(F.e0) ?_
 exact⟨rfl,(G.e 0)⟩
theorem Z0F(x:Vm)(hv:VOk x)(w:World)(h:x.At w):Calls (Qy.prog μ) 64 #[.agg #[.int .i64 x.B,.slice x.da x.D.length x.dc,.slice x.la x.L.length x.lc,.int .i64 x.tol]] w fun e w'=>e = .returned (.agg #[.int .i64 x.B,.slice x.da x.D.length x.dc,.slice x.la x.L.length x.lc,.int .i64 x.tol])∧Ext [] w w':=by
 have E:Ext [] w w:=Ext.refl _ _;have HX:=Lib.hid h;have HV:=Lib.hid hv;clear h hv;have G:=(Bk.nil w).ce E;refine(ent 8 Tryz.f64 rfl) fun F=>wR fun k1=>(F.bx G) fun yy F G=>(F.al G Qy.zeroValue85) fun yy F G=>k1<|wR fun k2=>(F.y (F.lb (G.q 1))) fun F=>(F.k (Zb4 x _ (HX.out.ext (G.e 2)) HV.out.sd HV.out.sl)) ?_
 rintro _ w3 ⟨rfl,e9⟩;refine⟨_,rfl,fun F=>?_⟩;replace G:=G.ex e9;rw[HV.out.chk]at F;refine(F.k0 G (Z8G _)) fun F G=>k2<|wR fun k3=>(F.y (F.lb (G.q 1))) fun F=>(F.y (F.bv #[.int .i64 x.B,.slice x.da x.D.length x.dc,.slice x.la x.L.length x.lc,.int .i64 x.tol])) fun F=>(F.sr G 0) fun G=>k3 ?_
 refine(F.rg (rs_c F rfl rfl Qy.underlying85 rfl (by kernel_rfl) (G.q 0))) ?_;exact⟨rfl,(G.e 2)⟩
theorem Z8v(x:Vm)(hv:VOk x)(n:Int)(h0:0≤n)(h1:n<x.L.length)(w:World):Calls (Qy.prog μ) 87 #[.agg #[.int .i64 x.B,.slice x.da x.D.length x.dc,.slice x.la x.L.length x.lc,.int .i64 x.tol],.int .i64 n] w fun e w'=>e = .returned (.tuple #[])∧Ext [] w w':=by
 have E:Ext [] w w:=Ext.refl _ _;have ho:outB n 0 (((x.L.length:Nat):Int)-1)=false:=Z2c.2 (by omega);have hl3:=hv.l3;have G:=(Bk.nil w).ce E;refine(ent 12 Tryz.f87 rfl) fun F=>wR fun k1=>(F.bx G) fun yy F G=>k1<|wR fun k2=>(F.m) fun F=>(F.y (F.fd 0)) fun F=>(F.y (F.fd 2)) fun F=>(F.y (F.lc (G.q 0))) fun F=>(F.y F.ln) fun F=>(F.y F.sb) fun F=>(F.k0 G (Z0Z n 0 (((x.L.length:Nat):Int)-1) _)) fun F G=>k2<|(F.jF (ho))<|Yi<|(F.e0) ?_
 exact⟨rfl,(G.e 1)⟩
def dotE(a s:Nat→Int)(n:Nat):Int:=sumQ (fun i=>a i*s i) n
theorem Zg9{a b:Int}(a0:0≤a)(a1:a≤10)(b0:0≤b)(b1:b≤100000): 0≤a*b∧a*b≤1000000:=by
 refine⟨Int.mul_nonneg a0 b0,?_⟩;have h1:a*b≤10*b:=Int.mul_le_mul_of_nonneg_right a1 b0;omega
def Vm.lamp(x:Vm)(k:Nat):List Int:=(x.L.getD k (.bool true,[])).2
def Vm.dye(x:Vm)(k:Nat):List Int:=(x.D.getD k (.bool true,[])).2
theorem Z2z(x:Vm)(hv:VOk x)(k:Nat)(hk:k<x.L.length)(s:List Int)(hs:(s.length:Int)=x.B)(hb:∀n∈s,0≤n∧n≤100000)(a:Option Addr)(c:Nat)(w:World)(h:x.At w)(hr:Z7 w (.slice a s.length c) 1 (s.map Z5)):
  Calls (Qy.prog μ) 102 #[.agg #[.int .i64 x.B,.slice x.da x.D.length x.dc,.slice x.la x.L.length x.lc,.int .i64 x.tol],.int .i64 ((k:Nat):Int),.slice a s.length c] w fun e w'=>e = .returned (.int .i64 (dotE (val (x.lamp k)) (val s) s.length))∧Ext [] w w':=by
 have E:Ext [] w w:=Ext.refl _ _;have HL:=Lib.hid h.l.1;have HS:=Lib.hid (Zh hr 0);obtain⟨la,lca,hla,hlr⟩:=h.l.2 _ (Z8 (.bool true,[]) hk);obtain⟨hll,hln⟩:=hv.ll _ (Z8 (.bool true,[]) hk);have HLR:=Lib.hid (Zh hlr 0);have HLN:=Lib.hid hln;have HB:=Lib.hid hb;have hl3:=hv.l3;have hb3:=hv.b3;clear h hr hv hlr hln hb;have G:=(Bk.nil w).ce E;refine(ent 32 Tryz.f102 rfl) fun F=>wR fun k1=>(F.bx G) fun yy F G=>(F.m) fun F=>k1<|wR fun k2=>(F.m) fun F=>?_
 rw[show (0:Int)=sumQ (fun i=>val (x.lamp k) i*val s i) 0 from rfl]at F;refine k2<|wQ fun k3=>wR fun k4=>(F.y (F.fd 0)) fun F=>(F.y (F.fd 2)) fun F=>(F.y (F.lc (G.q 0))) fun F=>(F.m) fun F=>(F.ix HL.out k) fun xr5 F=>(F.y (F.l1 (xr5 _ (G.e 1)) 0)) fun F=>?_
 rw[hla]at F;refine(F.y F.ln) fun F=>(F.m) fun F=>k4<|Yh<|lpB (F.b [2,15,16]) G (s.length) (fun i Lv Sv W=>Lv=[(7,.int .i64 (sumQ (fun i=>val (x.lamp k) i*val s i) i)),(17,.int .i64 ((i:Nat):Int))]∧Sv=[]∧0≤sumQ (fun i=>val (x.lamp k) i*val s i) i∧sumQ (fun i=>val (x.lamp k) i*val s i) i≤1000000*(i:Int)) ⟨_,_,F.u,G.u,rfl,rfl,(by simp[sumQ]),(by simp[sumQ])⟩ ?_
 clear F G;rintro i _ w2 _ _ hi1 ⟨rfl,rfl,hs0,hs1⟩ F G;replace G:=G.z;refine wR fun k6=>(F.y F.ls) fun F=>k6<|wQ fun k7=>F.ci (fun hc18=>?_) (fun hc18=>?_)
 ·refine Yi<|k7<|wQ fun k8=>Yh<|wR fun k9=>(F.m) fun F=>(F.ix HLR.out i) fun xr10 F=>(F.y (F.l1 (xr10 _ (G.e 1)) 0)) fun F=>(F.m) fun F=>(F.m) fun F=>k9 ?_
  obtain⟨hf0,hf1⟩:=HLN.out _ (Z8 (l:=(x.L.getD k (.bool true,[])).2) (i:=i) 0 (by omega));obtain⟨hg0,hg1⟩:=HB.out _ (Z8 (l:=s) (i:=i) 0 (by omega));obtain⟨hm0,hm1⟩:=Zg9 hf0 (by omega) hg0 hg1;refine Yg<|(F.m) fun F=>(F.m) fun F=>(F.m) fun F=>(F.m) fun F=>(F.ix HS.out i) fun xr11 F=>(F.y (F.l1 (xr11 _ (G.e 1)) 0)) fun F=>(F.y F.ml) fun F=>(F.y F.ad) fun F=>?_
  rw[show sumQ (fun i=>val (x.lamp k) i*val s i) i+(x.L.getD k (.bool true,[])).2.getD i 0*s.getD i 0=sumQ (fun i=>val (x.lamp k) i*val s i) (i+1) from rfl]at F;refine(F.m) fun F=>k8<|Yg<|(F.y F.ad) fun F=>(F.m) fun F=>?_
  show _∧_;exact⟨by omega,_,_,F.u,G.u,rfl,rfl,(by rw[sumQ];simp only[val,Vm.lamp]at *;omega),(by rw[sumQ];simp only[val,Vm.lamp]at *;omega)⟩
 ·refine wp_exit<|k3<|wR fun k12=>(F.m) fun F=>(F.m) fun F=>k12<|(F.r1) ?_
  have hi:i=s.length:=(by omega);exact⟨Zi (by rw[hi,dotE]),(G.e 1)⟩
end
section
open Go.RowKit Lift
variable{μ:Nat}
section
variable[Jk]{C:Inv}{r:Ren}{v w:World}
theorem Z4d(h:WH C r v w){b c o:Nat}(hb:r b=some c){x:Value}(hx:v.cell? ⟨b,o,none⟩=some x): ∃y,w.cell? ⟨c,o,none⟩=some y∧VR r x y:=by
 obtain⟨p,q,h1,h2,h3⟩:=h.on _ _ hb;unfold World.cell? at hx⊢;rw[h1]at hx;rw[h2]
 cases h3 with
 | cells k _ =>
  simp only[Option.isSome_none,Bool.false_eq_true,if_false]at hx⊢
  rcases k.get o with⟨a,_⟩ | ⟨x1,y1,a,b1,k1⟩
  ·rw[a]at hx;cases hx
  ·rw[a]at hx
   obtain rfl:=Y1 hx;exact⟨y1,b1,k1⟩
 | _=>cases hx
theorem Z0G{w:World}{b o:Nat}{x:Value}(h:w.cell? ⟨b,o,none⟩=some x):b<w.heap.size∧∃cs e fz,w.heap[b]?=some (.cells cs e fz):=by
 unfold World.cell? at h
 cases e:w.heap[b]? with
 | none=>rw[e]at h;cases h
 | some ob =>
  rw[e]at h;refine⟨(Y0.1 e).1,?_⟩
  cases ob<;>first | exact⟨_,_,_,rfl⟩ | cases h
theorem Z9V(h:WH C r v w){c: Nat}(hx:Z7 v (.slice a n c) 1 (xs.map Z5)){y:Value}(hy:VR r (.slice a n c) y): ∃a',y = .slice a' n c∧Z7 w (.slice a' n c) 1 (xs.map Z5):=by
 obtain⟨a0,c0,e0,hl,hc⟩:=hx;simp only[Value.slice.injEq]at e0;obtain⟨rfl,hn,rfl⟩:=e0
 cases hy with
 | sl0 =>
  refine⟨none,rfl,none,c,by rw[hn],hl,fun hne=>?_⟩;obtain⟨b,off,e,_⟩:=hc hne
  cases e
 | @sl a1 a2 _ _ q =>
  refine⟨some a2,rfl,some a2,c,by rw[hn],hl,fun hne=>?_⟩;obtain⟨b,off,e,hb,hk⟩:=hc hne;obtain rfl:=Y1 e
  cases q with
  | @mk _ b' _ _ q =>
   obtain⟨_,h2⟩:b<v.heap.size∧b'<w.heap.size:=by
    obtain⟨p,p',g1,g2,_⟩:=h.on _ _ q;exact⟨(Y0.1 g1).1,(Y0.1 g2).1⟩
   refine⟨b',off,rfl,h2,fun i j x hi hj=>?_⟩;have h3:=hk i j x hi hj;rw[Yn]at hi;obtain⟨z,_,rfl⟩:=Y3.1 hi;obtain rfl:j=0:=by omega
   have h4:v.cell? ⟨b,off+i*1+0,none⟩=some (.int .i64 z):=h3;obtain⟨y,h5,h6⟩:=Z4d h q h4
   cases h6
   exact h5
theorem ZcX(h:WH C r v w){x y:Value}(hx:Z42 v x xs)(hy:VR r x y): Z42 w y xs:=by
 obtain⟨a,c,rfl,hr⟩:=hx;obtain⟨a',rfl,hr'⟩:=Z9V h hr hy;exact⟨a',c,rfl,hr'⟩
theorem ZZ{w:World}{a:Option Addr}{n:Nat}{f:Nat→Value}:SlAt [] w a 1 n (fun i=>[f i])↔∀i,i<n→∃b off,a=some ⟨b,off,none⟩∧w.cell? ⟨b,off+i,none⟩=some (f i):=by
 constructor
 ·intro h i hi
  obtain⟨b,off,h1,h2⟩:=h i hi;have e:=h1 0 0;simp only[Value.slice.injEq,and_true]at e;have:=h2 w (Ext.refl _ _) 0 (f i) (by simp);exact⟨b,off,e,by simpa using this⟩
 ·intro h i hi
  obtain⟨b,off,h1,h2⟩:=h i hi;refine⟨b,off,fun m c=>by rw[h1],fun W e j x hx=>?_⟩
  cases j with
  | zero =>
   simp only[List.getElem?_cons_zero,Y4]at hx;subst hx;have:=e.cell (a:=⟨b,off+i,none⟩) (Z0G h2).1 (by simp);simpa[this] using h2
  | succ j=>simp at hx
end
end
namespace Lift
open Go Go.Conc Go.RowKit
abbrev lawF:FuncId:=10
def lS:List Nat:=Qy.own++[15,26,66,185,186,lawF]
def gS(k:Nat):Bool:=lS.elem k
noncomputable def okS(k:Nat):Bool:=match (Qy.prog 0).funcs[k]? with
 | some fn => !(fn.name == "runtime.NumGoroutine")&&match fn.body with
  | some c=>ZR (Qy.prog 0) gS (fun _ _=>false) false false false false c
  | none=>false
 | none=>false
theorem Zl4:lS.all okS=true:=by kernel_rfl
theorem ZcK {k : Nat} (h : gS k=true): ∃fn c, (Qy.prog 0).funcs[k]?=some fn∧(fn.name == "runtime.NumGoroutine")=false∧fn.body=some c∧ZR (Qy.prog 0) gS (fun _ _ => false) false false false false c=true := by
 have h1:=Yl.1 Zl4 k (List.elem_iff.1 h);unfold okS at h1
 cases e:(Qy.prog 0).funcs[k]? with
 | none=>rw[e]at h1;cases h1
 | some fn =>
  rw[e]at h1;simp only[Y5,Bool.not_eq_true']at h1
  cases eb:fn.body with
  | none=>have:=h1.2;rw[eb]at this;cases this
  | some c=>have:=h1.2;rw[eb]at this;exact⟨fn,c,rfl,h1.1,eb,this⟩
abbrev jk0:Jk:={j:=False,rest:=[],gd:=fun f=>gS f=true}
theorem Z2H:@Strip jk0 (Qy.prog 0) (Qy.F 0) (@CodeOk jk0 (Qy.prog 0) false) (fun f=>gS f=true):=by
 refine @Strip.mk jk0 _ _ _ _ (fun f h=>⟨rfl,id⟩) (fun f fn h e=>?_) (fun f fn c h e eb=>?_) (fun f fn h e eb=>?_)<;>obtain⟨fn',c',h1,h2,h3,h4⟩:=ZcK h<;>have e:(Qy.prog 0).funcs[f]?=some fn:=e<;>rw[h1]at e<;>obtain rfl:=Y1 e
 ·exact h2
 ·rw[h3]at eb
  obtain rfl:=Y1 eb;refine⟨h1,?_,h⟩;have:=@Z1N jk0 (Qy.prog 0) gS false (fun f q=>q) (fun _=>id) (fun _ _=>false) (fun f n q=>by cases q) c' false false false h4;have e2:(false=true)=False:=by simp
  rw[e2]at this;exact this
 ·rw[h3]at eb;cases eb
theorem gokS:@GOk jk0 (Qy.prog 0) (Qy.F 0) (fun f=>gS f=true):=by
 intro f h;obtain⟨fn,c,h1,h2,h3,h4⟩:=ZcK h;exact⟨rfl,⟨fn,c,h1,h3⟩,h,id⟩
theorem recS:@Rec jk0 (Qy.prog 0):=⟨(by kernel_rfl),fun _ h=>h⟩
theorem hQ0:PF (Qy.prog 0) (Qy.F 0)=Qy.prog 0:=rfl
section
variable[Jk]{P:Program}{F:Array Func}{G:FuncId→Prop}{Stop:List Frame→World→Prop}{V V':List Frame}{v v':World}
theorem Z3L(hQ:PF P F=P)(S:Strip P F (CodeOk P false) G)(hg:GOk P F G)(hrec:Rec P)(hP:∀x u,¬Stop [x] u)(k:Reach P Stop V v V' v')(hE:Ends P Stop V v)(h:Self P F V v):Self P F V' v':=by
 induction k with
 | refl=>exact h
 | @step f K v τ f' K' v1 es V' v' hn e t ih =>
  have hE1:Ends P Stop (f'::K') v1:=by
   cases hE with
   | stop q=>exact absurd q hn
   | step ok hk=>exact hk _ _ _ _ _ e
  rcases Self.step hQ S hg hrec h e with⟨rfl,hs⟩ | h1
  ·rw[←hQ]at hE1
   exact absurd hE1 (Z0p hP hs)
  ·exact ih hE1 h1
theorem Z2d{f:Frame}{K:List Frame}(hn:¬Stop (f::K) v)(h:Z5v P Stop f K v V' v'): Reach P Stop (f::K) v V' v':=by
 obtain⟨τ,f',K',v1,es,e,t⟩:=h;exact .step hn e t
theorem ZaF(hQ:PF P F=P)(S:Strip P F (CodeOk P false) G)(hg:GOk P F G)(hrec:Rec P)(hP:∀x u,¬Stop [x] u){fr:Frame}{ch:List PanicEntry}(hm:fr.mode = .panicking ch)(hd:fr.defers=[])(hf:∃fn,P.funcs[fr.fn]?=some fn)(hE:Ends P Stop [fr,poison] v)(h:Self P F [fr,poison] v):Stop [fr,poison] v:=by
 cases hE with
 | stop q=>exact q
 | step ok hk =>
  exfalso;obtain⟨f0,A,r,hV,hi,hs,hw⟩:=h;simp only[List.cons.injEq]at hV;obtain⟨rfl,hA⟩:=hV;have hA:A=[]:=by
   cases A with
   | nil=>rfl
   | cons a tl=>have:=congrArg List.length hA;simp at this
  subst hA;have hfr:=hs.uncons.1;have hl:fr.leaving (PF P F) v (.panicked ch):=by rw[hQ];exact⟨hm,hd,hf⟩
  obtain⟨ch',h1,h2⟩:=Z2S (w:=re v v.tape) hfr hl true poison [];have hE1:=hk v.tape _ _ _ _ h2;rw[←hQ]at hE1;have:Sour (poison.raise ch'):=.inr ⟨ch',rfl⟩;exact Z0p hP this hE1
end
section
variable[Jk]{C:Inv}{r:Ren}{u v w:World}
theorem Z4Y(hh:∀b,b<v.heap.size→u.heap[b]?=v.heap[b]?)(hw:WH C r v w){a:Option Addr}{n c:Nat}{xs:List Int}(hx:Z7 u (.slice a n c) 1 (xs.map Z5)){y:Value}(hy:VR r (.slice a n c) y):Z7 v (.slice a n c) 1 (xs.map Z5):=by
 obtain⟨a0,c0,e0,hl,hc⟩:=hx;refine⟨a0,c0,e0,hl,fun hne=>?_⟩;obtain⟨b,off,rfl,hb,hk⟩:=hc hne;simp only[Value.slice.injEq]at e0;obtain⟨rfl,_,_⟩:=e0
 cases hy with
 | @sl a1 a2 _ _ q =>
  cases q with
  | @mk _ b' _ _ q =>
   obtain⟨o,_,h1,_⟩:=hw.on _ _ q;have hlt:=(Y0.1 h1).1;refine⟨b,off,rfl,hlt,fun i j x hi hj=>?_⟩;rw[←hk i j x hi hj];exact(World.cell?_of_block (w:=v) (hh b hlt)).symm
theorem Z9C(hh:∀b,b<v.heap.size→u.heap[b]?=v.heap[b]?)(hw:WH C r v w){a:Option Addr}{n c:Nat}{L:List (Value×List Int)}(hx:Z0s u a L){y:Value}(hy:VR r (.slice a n c) y):Z0s v a L:=by
 obtain⟨h1,h2⟩:=hx;rw[ZZ]at h1;have key:∀i,i<L.length→∃b off,a=some ⟨b,off,none⟩∧v.cell? ⟨b,off+i,none⟩=some (L.getD i (.bool true,[])).1∧∃b',r b=some b':=by
  intro i hi;obtain⟨b,off,rfl,hc⟩:=h1 i hi
  cases hy with
  | @sl a1 a2 _ _ q =>
   cases q with
   | @mk _ b' _ _ q =>
    obtain⟨o,_,g1,_⟩:=hw.on _ _ q;have hlt:=(Y0.1 g1).1;exact⟨b,off,rfl,by rw[←hc];exact(World.cell?_of_block (w:=v) (hh b hlt)).symm,b',q⟩
 refine⟨?_,fun p hp=>?_⟩
 ·rw[ZZ]
  intro i hi;obtain⟨b,off,e,hc,_⟩:=key i hi;exact⟨b,off,e,hc⟩
 ·obtain⟨i,hi,rfl⟩:=List.getElem_of_mem hp
  obtain⟨b,off,e,hc,b',hb⟩:=key i hi;obtain⟨z,_,hz⟩:=Z4d hw hb hc;have e1:L.getD i (.bool true,[])=L[i]:=by simp[hi]
  rw[e1]at hz;obtain⟨a3,c3,e3,hr3⟩:=h2 _ (List.getElem_mem hi);rw[e3]at hz;exact⟨a3,c3,e3,Z4Y hh hw hr3 hz⟩
end
end Lift
section
open Go
variable{μ:Nat}
def ToZ(P:Program)(K:List Frame)(Z:Frame→World→Prop)(f:Frame)(w:World):Prop:=∃f' w',Z f' w'∧Steps P (lone f K w) (lone f' K w')
section
variable{P:Program}{K:List Frame}{Z:Frame→World→Prop}{b f:Frame}{a:Act}{k:List Item}{w w':World}{x y c:Code}{ops:Array Oper}{i:Nat}{rest:List Nat}{o:Oper}
theorem ToZ.here(h:Z f w):ToZ P K Z f w:=⟨f,w,h,Steps.refl _ _⟩
theorem ToZ.go{f':Frame}(h:Steps P (lone f K w) (lone f' K w'))(q:ToZ P K Z f' w'): ToZ P K Z f w:=by
 obtain⟨f2,w2,h1,h2⟩:=q;exact⟨f2,w2,h1,h.trans h2⟩
theorem ToZ.one{f':Frame}(h:step P (lone f K w) = .next (lone f' K w'))(q:ToZ P K Z f' w'):ToZ P K Z f w:=q.go (.one h)
theorem tI{e:Exit}{q: Prop}(h:p): (e=e∧p)∨q:=.inl ⟨rfl,h⟩
theorem Z2I(h:ToZ P K Z (b.at a (.code x :: .code y::k)) w):ToZ P K Z (b.at a (.code (.seq x y)::k)) w:=h.one step_seq
theorem Z7e(h:x.wp P (fun e a1 w1=>(e = .normal∧ToZ P K Z (b.at a1 k) w1)∨(e = .ret∧∀td,ToZ P K Z {b.at a1 td with mode:=.returning} w1)∨∃ch,e = .panic ch∧∀td,ToZ P K Z {b.at a1 td with mode:=.panicking ch} w1) a w):ToZ P K Z (b.at a (.code x::k)) w:=by
 obtain⟨e,a1,w1,hq,hr⟩:=h b k K
 rcases hq with⟨rfl,h1⟩ | ⟨rfl,h1⟩ | ⟨ch,rfl,h1⟩
 ·exact h1.go hr
 ·obtain⟨td,hr⟩:=hr
  exact(h1 td).go hr
 ·obtain⟨td,hr⟩:=hr
  exact(h1 td).go hr
end
end
namespace Ev
open Go Lift
def Z2W{α:Type}(P:Program):Sem α→Option α
 | .pure a=>some a
 | .program k=>Z2W P (k P)
 | _=>none
theorem Z1W{α:Type}{P:Program}{s:Sem α}{x:α}(h:Z2W P s=some x)(w:World): s.run P w = .ok x w∧∀es,s.events P w es=es:=by
 induction s with
 | pure a=>simp only[Z2W,Y4]at h;subst h;exact⟨rfl,fun _=>rfl⟩
 | program k ih=>exact ih P h
 | _=>cases h
structure FA where
 fn:FuncId
 n:Nat
 env:List (Nat×Value)
 todo:List Item
 defs:List Deferred
 kind:CallKind
 ret:Bool
structure FOk(a:FA)(f:Frame):Prop where
 fn:f.fn=a.fn
 size:f.tmps.size=a.n
 env:∀t v,a.env.lookup t=some v→f.tmps[t]?=some v
 todo:f.todo=a.todo
 defs:f.defers=a.defs
 kind:f.kind=a.kind
 mode:f.mode=if a.ret then .returning else .run
 round:f.roundOf=none
def FA.val(a:FA):Operand→Option Value
 | .tmp t=>a.env.lookup t
 | .const v=>some v
 | .func f=>some (.func (.func f) #[] #[])
 | .global _=>none
def FA.rho(a:FA)(x:Operand):Value:=(a.val x).getD undef
theorem FOk.val{a:FA}{f:Frame}(h:FOk a f){x:Operand}{v:Value}(e:a.val x=some v): f.eval x=v:=by
 cases x with
 | tmp t =>
  have:=h.env t v e;show f.tmps.getD t undef=v;rw[Y6,this];rfl
 | const u=>exact Y1 e
 | func g=>exact Y1 e
 | global g=>cases e
def ZcU:Op→Option (List Operand)
 | .move x | .assign x | .nilCheck x=>some [x]
 | .pick c a b=>some [c,a,b]
 | .binOp _ _ x y _=>some [x,y]
 | .unOp _ _ x=>some [x]
 | .convert _ _ x=>some [x]
 | .fieldAddr _ x _=>some [x]
 | .indexAddr _ x i=>some [x,i]
 | .makeFunc _ xs ys=>some (xs.toList++ys.toList)
 | .typeAssert x _ _ _=>some [x]
 | .extract x _=>some [x]
 | .call c | .defer c=>match c.callee with
  | .value f=>some (f::c.args.toList)
  | _=>none
 | _=>none
theorem Z3i{xs:Array Operand}(h:∀x∈xs.toList,ρ x=ρ' x): xs.map ρ=xs.map ρ':=by
 apply Array.ext';rw[Array.toList_map,Array.toList_map];exact List.map_congr_left h
theorem Zaq{l:List Operand}(hl:ZcU o.op=some l)(h:∀x∈l,ρ x=ρ' x): execOp ρ o=execOp ρ' o:=by
 unfold execOp
 cases ho:o.op with
 | move x=>rw[ho]at hl;cases hl;simp only[h x (by simp)]
 | assign x=>rw[ho]at hl;cases hl;simp only[h x (by simp)]
 | nilCheck x=>rw[ho]at hl;cases hl;simp only[h x (by simp)]
 | pick c a b=>rw[ho]at hl;cases hl;simp only[h c (by simp),h a (by simp),h b (by simp)]
 | binOp op t x y u=>rw[ho]at hl;cases hl;simp only[h x (by simp),h y (by simp)]
 | unOp op t x=>rw[ho]at hl;cases hl;simp only[h x (by simp)]
 | convert s d x=>rw[ho]at hl;cases hl;simp only[h x (by simp)]
 | fieldAddr t x i=>rw[ho]at hl;cases hl;simp only[h x (by simp)]
 | indexAddr t x i=>rw[ho]at hl;cases hl;simp only[h x (by simp),h i (by simp)]
 | typeAssert x t u ok=>rw[ho]at hl;cases hl;simp only[h x (by simp)]
 | extract x i=>rw[ho]at hl;cases hl;simp only[h x (by simp)]
 | makeFunc fn xs ys =>
  rw[ho]at hl;cases hl;simp only[Z3i (xs:=xs) fun x hx=>h x (by simp[Array.mem_toList_iff.1 hx]),Z3i (xs:=ys) fun x hx=>h x (by simp[Array.mem_toList_iff.1 hx])]
 | call c =>
  rw[ho]at hl;obtain⟨callee,args,argTypes⟩:=c
  cases callee with
  | value f =>
   cases hl
   dsimp only;unfold resolve;dsimp only;rw[h f (by simp),Z3i (xs:=args) fun x hx=>h x (by simp[Array.mem_toList_iff.1 hx])]
  | _=>cases hl
 | defer c =>
  rw[ho]at hl;obtain⟨callee,args,argTypes⟩:=c
  cases callee with
  | value f =>
   cases hl
   dsimp only;unfold resolve;dsimp only;rw[h f (by simp),Z3i (xs:=args) fun x hx=>h x (by simp[Array.mem_toList_iff.1 hx])]
  | _=>cases hl
 | _=>simp[ho,ZcU]at hl
def cvOk(P:Program)(s d:TypeId):Bool:=
 match P.underlying s,P.underlying d with
 | some (.pointer t),some .unsafePointer=>(P.info? t).map (fun i=>decide (i.size=0))==some false
 | _,_=>false
def FA.op(P:Program)(a:FA)(o:Oper):Option (Next×List Addr):=
 let go:Unit→Option (Next×List Addr):=fun _=>match ZcU o.op with
  | some l=>if l.all fun x=>(a.val x).isSome then(Z2W P (execOp a.rho o)).map fun n=>(n,[]) else none
  | none=>none
 match o.op with
 | .convert s d x=>match a.val x with
  | some (.pointer (some p))=>if cvOk P s d then some (.value (.pointer (some p)),[p]) else none
  | _=>go ()
 | _=>go ()
theorem ZeJ {P : Program} {a : FA} {f : Frame} {o : Oper} {n : Next} {ps : List Addr} (h : FOk a f) (e : a.op P o = some (n, ps)) (w : World) (hp : ∀ p ∈ ps, ∃ v, w.cell? p = some v) :
    (execOp f.eval o).run P w = .ok n w ∧ ∀ es, (execOp f.eval o).events P w es = es := by
  have gen : ∀ {n : Next} {ps : List Addr}, (match ZcU o.op with
    | some l => if l.all fun x => (a.val x).isSome then (Z2W P (execOp a.rho o)).map fun n => (n, ([] : List Addr)) else none
    | none => none) = some (n, ps) → (execOp f.eval o).run P w = .ok n w ∧ ∀ es, (execOp f.eval o).events P w es = es := by
    intro n ps e
    cases hl : ZcU o.op with
    | none => rw [hl] at e; cases e
    | some l =>
      rw[hl]at e;dsimp only at e
      split at e
      · rename_i hk
        have hag : execOp a.rho o = execOp f.eval o := Zaq hl fun x hx => by
          have := Yl.1 hk x hx;obtain⟨v, hv⟩ := Option.isSome_iff_exists.1 this;rw[h.val hv, FA.rho, hv]; rfl
        obtain⟨m, hm, hm2⟩ := Y3.1 e;simp only[Y9]at hm2;obtain⟨rfl, _⟩ := hm2;rw[hag]at hm;exact Z1W hm w
      · cases e
  unfold FA.op at e;dsimp only at e
  cases ho : o.op with
  | convert s d x =>
    rw[ho]at e gen;dsimp only at e
    split at e
    · rename_i p hx
      split at e
      · rename_i hcv
        simp only[Y4, Y9]at e;obtain⟨rfl, rfl⟩ := e;obtain⟨v, hv⟩ := hp p (by simp);unfold cvOk at hcv
        split at hcv
        · rename_i t hs hd
          have hz : (P.info? t).map (fun i => decide (i.size = 0)) = some false := by simpa using hcv
          have e1 := run_convert_to_unsafe (P := P) (w := w) hs hd hz hv;have e2 := fun es => Conc.events_convert_to_unsafe (P := P) (w := w) hs hd hz hv es
          have he : execOp f.eval o = (do pure (Next.value (← convert s d (.pointer (some p))))) := by
            unfold execOp; rw [ho]; dsimp only; rw [h.val hx]
          rw[he];refine⟨?_, fun es => ?_⟩
          · simp [e1]
          · simp [e1, e2]
        · cases hcv
      · cases e
    · exact gen e
  | _ => rw [ho] at e gen; exact gen e
def FA.ext(P:Program)(a:FA)(o:Oper):Option (FuncId×List Value):=
 match o.op with
 | .call c=>match c.callee with
  | .value (.func g)=>match P.funcs[g]? with
   | some fn=>if fn.body.isNone then(c.args.toList.mapM a.val).map fun vs=>(g,vs) else none
   | none=>none
  | _=>none
 | _=>none
structure Xt where
 dis:FuncId
 en:FuncId
 acq:FuncId
 mrg:FuncId
 says:Bool
 pures:List (FuncId×Value)
inductive XEv where
 | none | dis | en | acq (p:Addr) | mrg (p:Addr)
def XEv.es:XEv→Array Event
 | .none=>#[]
 | .dis=>#[⟨.mark .disable,false,true⟩]
 | .en=>#[⟨.mark .enable,false,true⟩]
 | .acq p=>#[⟨.mark (.acquire p),false,true⟩]
 | .mrg p=>#[⟨.mark (.releaseMerge p),false,true⟩]
def Xt.act(X:Xt)(g:FuncId)(vs:List Value):Option (Value×XEv):=
 if g==X.dis then some (.tuple #[],.dis)
 else if g==X.en then some (.tuple #[],.en)
 else if X.says&&g==X.acq then match vs with
  | [.pointer (some p)]=>some (.tuple #[],.acq p)
  | _=>none
 else if X.says&&g==X.mrg then match vs with
  | [.pointer (some p)]=>some (.tuple #[],.mrg p)
  | _=>none
 else(X.pures.lookup g).map fun v=>(v,.none)
structure St where
 top:FA
 rest:List FA
 cvs:List Addr
 mks:List Addr
 deaf:Nat
def FA.put(a:FA)(ops:Array Oper)(i:Nat)(rest:List Nat)(k:List Item)(v:Value):Option FA:=
 match (ops[i]?).bind (·.dst) with
 | some d=>if d<a.n then some {a with env:=(d,v)::a.env,todo:=.inRegion ops rest::k} else none
 | none=>some {a with todo:=.inRegion ops rest::k}
def FA.gd(a:FA)(ops:Array Oper)(o:Oper):Option Bool:=
 match o.guard with
 | none=>some true
 | some (j,want)=>match ((ops[j]?).bind (·.dst)) with
  | none=>some false
  | some d=>match a.env.lookup d with
   | some (.bool b)=>some (b==want)
   | some _=>some false
   | none=>none
structure Mv where
 top:FA
 rest:List FA
 ps:List Addr
 ev:XEv
def XEv.places:XEv→List Addr
 | .acq p | .mrg p=>[p]
 | _=>[]
def St.upd(s:St)(m:Mv):St:={top:=m.top,rest:=m.rest,cvs:=m.ps++s.cvs,mks:=m.ev.places++s.mks,deaf:=match m.ev with | .dis=>s.deaf+1 | .en=>s.deaf-1 | _=>s.deaf}
def Z7z(g:FuncId)(fn:Func)(c:Code)(xs:Array Value)(k:CallKind):FA:=
 {fn:=g,n:=xs.size+(fn.ntmps-xs.size),env:=(List.range xs.size).zip xs.toList,todo:=[.code c],defs:=[],kind:=k,ret:=false}
def FA.to(a:FA)(cs:List FA)(k:List Item):Option Mv:=some ⟨{a with todo:=k},cs,[],.none⟩
def pmove(P:Program)(X:Xt)(a:FA)(r:List FA):Option Mv:=
 match a.ret with
 | true=>match a.defs with
  | d::ds=>match d.target with
   | .fn (.func g) ys=>match P.funcs[g]? with
    | some fn=>match fn.body with
     | some c => if fn.name == "runtime.NumGoroutine" then none else some ⟨Z7z g fn c (d.args++ys) .deferred, {a with defs := ds}::r, [], .none⟩
     | none=>if g==X.en then some ⟨{a with defs:=ds},r,[],.en⟩ else none
    | none=>none
   | _=>none
  | []=>match a.kind,r,P.funcs[a.fn]? with
   | .normal,c::cs,some fn=>match c.todo with
    | .inRegion ops (i::rest)::k=>match c.ret,fn.results.toList with
     | false,[]=>(c.put ops i rest k (.tuple #[])).map fun c=>⟨c,cs,[],.none⟩
     | false,[.tmp t]=>(a.env.lookup t).bind fun v=>(c.put ops i rest k v).map fun c=>⟨c,cs,[],.none⟩
     | _,_=>none
    | _=>none
   | .deferred,c::cs,some fn=>match c.ret,fn.results.toList with
    | true,[]=>some ⟨c,cs,[],.none⟩
    | _,_=>none
   | _,_,_=>none
 | false=>match a.todo with
  | []=>some ⟨{a with ret:=true},r,[],.none⟩
  | .code .skip::k=>a.to r k
  | .code (.label _)::k=>a.to r k
  | .code (.seq x y)::k=>a.to r (.code x :: .code y::k)
  | .code (.block i c)::k=>a.to r (.code c :: .inBlock i::k)
  | .code (.loop c)::k=>a.to r (.code c :: .inLoop c::k)
  | .code (.scope c)::k=>a.to r (.code c :: .inScope c::k)
  | .code (.cond x y z)::k=>match a.val x with
   | some (.bool b)=>a.to r (.code (if b then y else z)::k)
   | _=>none
  | .code (.exit i)::k=>(exitTo i k).bind fun k=>a.to r k
  | .code .ret::_=>some ⟨{a with ret:=true},r,[],.none⟩
  | .code (.region _ ops false)::k=>a.to r (.inRegion ops (List.range ops.size)::k)
  | .inBlock _::k=>a.to r k
  | .inScope _::k=>a.to r k
  | .inLoop c::k=>a.to r (.code c :: .inLoop c::k)
  | .inRegion _ []::k=>a.to r k
  | .inRegion ops (i::rest)::k=>match ops[i]? with
   | none=>none
   | some o=>match a.gd ops o with
    | some false=>(a.put ops i rest k undef).map fun a=>⟨a,r,[],.none⟩
    | some true=>match a.ext P o with
     | some (g,vs)=>if a.kind == .early then none else match X.act g vs with
      | some (v,ev)=>(a.put ops i rest k v).map fun a=>⟨a,r,[],ev⟩
      | none=>none
     | none=>match a.op P o with
      | some (.value v,ps)=>(a.put ops i rest k v).map fun a=>⟨a,r,ps,.none⟩
      | some (.defer d,ps)=>(a.put ops i rest k undef).map fun a=>⟨{a with defs:=d::a.defs},r,ps,.none⟩
      | some (.enter f xs,ps)=>match P.funcs[f]? with
       | some fn=>match fn.body with
        | some c=>some ⟨Z7z f fn c xs .normal,a::r,ps,.none⟩
        | none=>none
       | none=>none
      | _=>none
    | none=>none
  | _=>none
def pn(P:Program)(X:Xt):Nat→St→St
 | 0,s=>s
 | n+1,s=>match pmove P X s.top s.rest with
  | some m=>pn P X n (s.upd m)
  | none=>s
theorem pn_mono(P:Program)(X:Xt):∀(n:Nat) (s:St),(∀p∈s.cvs,p∈(pn P X n s).cvs)∧∀p∈s.mks,p∈(pn P X n s).mks
 | 0,s=>⟨fun _ h=>h,fun _ h=>h⟩
 | n+1,s=>by
  unfold pn
  split
  ·obtain⟨h1,h2⟩:=pn_mono P X n (s.upd ‹_›)
   exact⟨fun p hp=>h1 p (List.mem_append_right _ hp),fun p hp=>h2 p (List.mem_append_right _ hp)⟩
  ·exact⟨fun _ h=>h,fun _ h=>h⟩
end Ev
namespace Ev
open Go Lift
section
variable{P:Program}{m:Bool}{w:World}{f:Frame}{K:List Frame}
theorem Z1Z(h:f.mode = .run):stepG P m (run1 f K) w=stepG.exec P m true f K none w:=by
 unfold stepG run1;simp only[h]
theorem Z1C(h:f.mode = .returning):stepG P m (run1 f K) w=unwind P m f K none w:=by
 unfold stepG run1;simp only[h]
theorem Z0K(fn:FuncId):seen P fn #[]=#[]:=rfl
theorem Z0T(g:Goroutine)(w:World)(es:Array Event):GStep.after #[] (.go g w es) = .go g w es:=by simp[GStep.after]
theorem FOk.to{a:FA}(h:FOk a f)(k:List Item):FOk {a with todo:=k} {f with todo:=k}:=⟨h.fn,h.size,h.env,rfl,h.defs,h.kind,h.mode,h.round⟩
theorem FOk.put{a b:FA}(h:FOk a f){ops:Array Oper}{i:Nat}{rest:List Nat}{k:List Item}(ht:a.todo = .inRegion ops (i::rest)::k){v:Value}(e:a.put ops i rest k v=some b):FOk b (f.finish v):=by
 have hft:=h.todo.trans ht;unfold FA.put at e;unfold Frame.finish;rw[hft];dsimp only
 cases hd:(ops[i]?).bind (·.dst) with
 | none =>
  rw[hd]at e;obtain rfl:=Y1 e;exact⟨h.fn,h.size,h.env,rfl,h.defs,h.kind,h.mode,h.round⟩
 | some d =>
  rw[hd]at e;dsimp only at e
  split at e
  ·rename_i hlt
   obtain rfl:=Y1 e;refine⟨h.fn,by simpa using h.size,?_,rfl,h.defs,h.kind,h.mode,h.round⟩;intro t u e;dsimp only at e⊢;rw[Yp]at e
   by_cases htd:t=d
   ·subst htd
    simp only[beq_self_eq_true]at e;rw[Array.getElem?_setIfInBounds_self_of_lt (by rw[h.size];exact hlt)];exact e
   ·have:(t==d)=false:=by simp[htd]
    rw[this]at e;rw[Yq (Ne.symm htd)];exact h.env t u e
  ·cases e
theorem Zas{a:FA}(h:FOk a f){ops:Array Oper}{b:Bool}(e:a.gd ops o=some b): Region.wanted o (yielded ops f.tmps)=b:=by
 unfold FA.gd at e;unfold Region.wanted
 cases hg:o.guard with
 | none=>rw[hg]at e;exact Y1 e
 | some p =>
  obtain⟨j,want⟩:=p;rw[hg]at e;dsimp only at e⊢;unfold yielded
  cases hd:(ops[j]?).bind (·.dst) with
  | none=>rw[hd]at e;obtain rfl:=Y1 e;rfl
  | some d =>
   rw[hd]at e;dsimp only at e;simp only[Option.bind_some]
   cases hl:a.env.lookup d with
   | none=>rw[hl]at e;cases e
   | some v =>
    rw[hl]at e;rw[h.env d v hl]
    cases v<;>first | (obtain rfl:=Y1 e;rfl) | (obtain rfl:=Y1 e;simp)
end
structure Ext0(P:Program)(g:FuncId)(e:Array Value→Sem Value):Prop where
 ex : ∃fn, P.funcs[g]?=some fn∧(fn.name == "runtime.NumGoroutine")=false∧fn.body.isNone=true∧Extern.findNext fn=none∧Extern.find fn=some e
structure XOk(P:Program)(X:Xt):Prop where
 dis:Ext0 P X.dis (fun _=>do mark .disable;pure Extern.Race.none_)
 en:Ext0 P X.en (fun _=>do mark .enable;pure Extern.Race.none_)
 acq:Ext0 P X.acq (Extern.Race.marked .acquire)
 mrg:Ext0 P X.mrg (Extern.Race.marked .releaseMerge)
 pures:∀g v,X.pures.lookup g=some v→Ext0 P g (fun _=>pure v)
section
variable{P:Program}{m:Bool}{w:World}{f:Frame}{fs cs:List Frame}{X:Xt}{ev:XEv}
theorem Z6c(hm:f.mode = .run)(hr:f.roundOf=none):f=f.at ⟨f.tmps,f.defers⟩ f.todo:=by
 obtain⟨a1,a2,a3,a4,a5,a6,a7⟩:=f;dsimp only at hm hr;subst hm hr
 rfl
theorem Z2R{ops:Array Oper}{i:Nat}{rest:List Nat}{k:List Item}(hm:f.mode = .run)(hr:f.roundOf=none)(ht:f.todo = .inRegion ops (i::rest)::k)(v:Value):
  f.finish v=f.at ((Act.mk f.tmps f.defers).put ((ops[i]?).bind (·.dst)) v) (.inRegion ops rest::k):=by
 conv=>lhs;rw[Z6c hm hr,ht]
 exact Frame.finish_at _ _ _ _ _ _ _
theorem Z7h{a:FA}(h:FOk a f):∀{l:List Operand} {vs:List Value},l.mapM a.val=some vs→l.map f.eval=vs
 | [],vs,e=>by simp at e;simp[e]
 | x::l,vs,e=>by
  simp only[List.mapM_cons,Option.pure_def,Option.bind_eq_bind]at e;obtain⟨v,hv,e⟩:=Option.bind_eq_some_iff.1 e;obtain⟨us,hu,e⟩:=Option.bind_eq_some_iff.1 e;obtain rfl:=Y1 e;rw[List.map_cons,h.val hv,Z7h h hu]
theorem Z9r{a:FA}(h:FOk a f)(hr:a.ret=false){ops:Array Oper}{i:Nat}{rest:List Nat}{k:List Item}(ht:a.todo = .inRegion ops (i::rest)::k)(ho:ops[i]?=some o)(hg:a.gd ops o=some true)(hk:f.kind ≠ .early){vs:List Value}(he:a.ext P o=some (g,vs)){e:Array Value→Sem Value}(hE:Ext0 P g e){v:Value}{w':World}{evs:Array Event}(hrun:(e vs.toArray).run P w = .ok v w')(hev:(e vs.toArray).events P w #[⟨.mark (.extern g),false,true⟩]=#[⟨.mark (.extern g),false,true⟩]++evs)(hs:∀x∈evs,x.sync=true∧∀g,x.loc ≠ .mark (.extern g)):
  stepG P m (run1 f cs) w = .go (run1 (f.finish v) cs) w' evs:=by
 have hrun':f.mode = .run:=by rw[h.mode,hr];rfl
 unfold FA.ext at he
 split at he
 ·rename_i c hop
  split at he
  ·rename_i g' hc
   split at he
   ·rename_i fn hfn
    split at he
    ·obtain⟨us,hu,he⟩:=Y3.1 he
     simp only[Y9]at he;obtain⟨rfl,rfl⟩:=he;obtain⟨fn,h1,h2,h3,h4,h5⟩:=hE.ex;obtain⟨callee,args,argTypes⟩:=c;dsimp only at hc hu;subst hc;have hargs:args.map (Act.mk f.tmps f.defers).eval=us.toArray:=by
      have hev0:(Act.mk f.tmps f.defers).eval=f.eval:=by funext x;cases x<;>rfl
      apply Array.ext';rw[Array.toList_map,hev0];exact Z7h h hu
     have hft:=h.todo.trans ht;have hd:(ops[i]?).bind (·.dst)=o.dst:=by rw[ho];rfl
     rw[Z2R hrun' h.round hft,hd]
     conv=>lhs;rw[Z6c hrun' h.round,hft]
     exact Conc.stepG_entry ho (Zas h hg) hk hop h1 h2 h3 h4 h5 (by rw[hargs];exact hrun) (by rw[hargs];exact hev) hs
    ·cases he
   ·cases he
  ·cases he
 ·cases he
def SOk(a:FA)(r:List FA)(f:Frame)(fs:List Frame):Prop:=FOk a f∧Lis FOk r fs
def Sil(P:Program)(f:Frame)(fs cs:List Frame)(m:Mv):Prop:=
 ∃f' fs',SOk m.top m.rest f' fs'∧∀b w,(∀p∈m.ps,∃v,w.cell? p=some v)→stepG P b (run1 f (fs++cs)) w = .go (run1 f' (fs'++cs)) w m.ev.es
theorem Z1G{a:FA}{r:List FA}{mv:Mv}(h:SOk a r f fs)(hm:f.mode = .run){k:List Item}(q:a.to r k=some mv)(e:∀m w,stepG.exec P m true f (fs++cs) none w = .go (run1 {f with todo:=k} (fs++cs)) w): Sil P f fs cs mv:=by
 obtain rfl:=Y1 q;exact⟨_,fs,⟨h.1.to k,h.2⟩,fun m w _=>by rw[Z1Z hm,e];rfl⟩
theorem Z5I(h:f.roundOf=none){j:Option Code}(hj:j=none∨j=some .ret): Z04 P m f (fs++cs) w j = .go (run1 {f with mode:=.returning} (fs++cs)) w:=by
 unfold Z04;rw[h]
 rcases hj with rfl | rfl<;>rfl
theorem Z2e{fn:Func}{tmps:Array Value}{v:Value}(h:(fn.results.toList=[]∧v = .tuple #[])∨∃t,fn.results.toList=[.tmp t]∧v=tmps.getD t undef)(w:World): (results fn tmps).run P w = .ok v w∧∀es,(results fn tmps).events P w es=es:=by
 unfold results;rw[Array.mapM_eq_mapM_toList]
 rcases h with⟨h,rfl⟩ | ⟨t,h,rfl⟩
 ·rw[h];simp
 ·rw[h];simp
theorem ZiD{P:Program}{X:Xt}(hX:XOk P X){vs:List Value}{v:Value}(e:X.act g vs=some (v,ev)): ∃e,Ext0 P g e∧∀w,(e vs.toArray).run P w = .ok v w∧(e vs.toArray).events P w #[⟨.mark (.extern g),false,true⟩]=#[⟨.mark (.extern g),false,true⟩]++ev.es ∧
  ∀x∈ev.es,x.sync=true∧∀g,x.loc ≠ .mark (.extern g):=by
 unfold Xt.act at e
 split at e
 ·rename_i hg
  have hg:g=X.dis:=by simpa using hg
  subst hg;simp only[Y4,Y9]at e;obtain⟨rfl,rfl⟩:=e;refine⟨_,hX.dis,fun w=>⟨by simp[Extern.Race.none_],by simp[XEv.es],fun x hx=>?_⟩⟩;simp only[XEv.es,Yb,List.mem_singleton]at hx;subst hx;exact⟨rfl,fun g h=>by cases h⟩
 ·split at e
  ·rename_i hg
   have hg:g=X.en:=by simpa using hg
   subst hg;simp only[Y4,Y9]at e;obtain⟨rfl,rfl⟩:=e;refine⟨_,hX.en,fun w=>⟨by simp[Extern.Race.none_],by simp[XEv.es],fun x hx=>?_⟩⟩;simp only[XEv.es,Yb,List.mem_singleton]at hx;subst hx;exact⟨rfl,fun g h=>by cases h⟩
  ·split at e
   ·rename_i hg
    have hg:g=X.acq:=by simp only[Y5,beq_iff_eq]at hg;exact hg.2
    subst hg
    split at e
    ·simp only[Y4,Y9]at e
     obtain⟨rfl,rfl⟩:=e;refine⟨_,hX.acq,fun w=>⟨by simp[Extern.Race.marked,Extern.Race.at_,Extern.Race.none_],by simp[Extern.Race.marked,Extern.Race.at_,XEv.es],fun x hx=>?_⟩⟩;simp only[XEv.es,Yb,List.mem_singleton]at hx;subst hx;exact⟨rfl,fun g h=>by cases h⟩
    ·cases e
   ·split at e
    ·rename_i hg
     have hg:g=X.mrg:=by simp only[Y5,beq_iff_eq]at hg;exact hg.2
     subst hg
     split at e
     ·simp only[Y4,Y9]at e
      obtain⟨rfl,rfl⟩:=e;refine⟨_,hX.mrg,fun w=>⟨by simp[Extern.Race.marked,Extern.Race.at_,Extern.Race.none_],by simp[Extern.Race.marked,Extern.Race.at_,XEv.es],fun x hx=>?_⟩⟩;simp only[XEv.es,Yb,List.mem_singleton]at hx;subst hx;exact⟨rfl,fun g h=>by cases h⟩
     ·cases e
    ·obtain⟨u,hu,e⟩:=Y3.1 e
     simp only[Y9]at e;obtain⟨rfl,rfl⟩:=e;exact⟨_,hX.pures g u hu,fun w=>⟨by simp,by simp[XEv.es],fun x hx=>by simp[XEv.es]at hx⟩⟩
theorem Z6s{fn:Func}(hfn:P.funcs[g]?=some fn)(hc:fn.body=some c)(xs:Array Value)(k:CallKind): FOk (Z7z g fn c xs k) (Frame.enter P g xs k):=by
 unfold Frame.enter Z7z;rw[hfn];refine⟨rfl,by simp,?_,by simp[hc],rfl,rfl,rfl,rfl⟩;intro t v hl;dsimp only at hl⊢;have key:∀(l:List Value) (n t:Nat) (v:Value),((List.range' n l.length).zip l).lookup t=some v→n≤t∧l[t-n]?=some v:=by
  intro l
  induction l with
  | nil=>intro n t v h;simp at h
  | cons x l ih =>
   intro n t v h;simp only[List.length_cons,List.range'_succ,List.zip_cons_cons,Yp]at h
   by_cases e:t=n
   ·subst e
    simp only[beq_self_eq_true,Y4]at h;subst h;simp
   ·have:(t==n)=false:=by simp[e]
    rw[this]at h;obtain⟨h1,h2⟩:=ih (n+1) t v h;refine⟨by omega,?_⟩;rw[show t-n=(t-(n+1))+1 by omega,List.getElem?_cons_succ];exact h2
 rw[List.range_eq_range',show xs.size=xs.toList.length by simp]at hl;obtain⟨_,h2⟩:=key xs.toList 0 t v hl;rw[Nat.sub_zero,Array.getElem?_toList]at h2;rw[Array.getElem?_append_left (Y0.1 h2).1];exact h2
theorem pmove_ok(hX:XOk P X){a:FA}{rest:List FA}{mv:Mv}(h:SOk a rest f fs)(e:pmove P X a rest=some mv):Sil P f fs cs mv:=by
 letI:Jk:={j:=False,rest:=[]};obtain⟨hf,hs⟩:=h;have h:SOk a rest f fs:=⟨hf,hs⟩;unfold pmove at e;have hmode:=hf.mode
 cases hr:a.ret with
 | true =>
  rw[hr]at e hmode;have hret:f.mode = .returning:=by rw[hmode];rfl
  dsimp only at e
  split at e
  ·rename_i d ds hdef
   split at e
   ·rename_i g ys htg
    split at e
    ·rename_i fn hfn
     have hfd:f.defers=d::ds:=hf.defs.trans hdef;obtain⟨t,az⟩:=d;dsimp only at htg;subst htg;have hfa:FOk {fn:=a.fn,n:=a.n,env:=a.env,todo:=a.todo,defs:=ds,kind:=a.kind,ret:=true} {f with defers:=ds}:=⟨hf.fn,hf.size,hf.env,hf.todo,rfl,hf.kind,hmode,hf.round⟩
     split at e
     ·rename_i c hc
      split at e
      ·cases e
      ·rename_i hname
       cases e
       refine⟨_,_::fs,⟨Z6s hfn hc (az++ys) .deferred,.cons hfa hs⟩,fun m w _=>?_⟩;rw[Z1C hret];unfold unwind;rw[hfd];dsimp only;have hrun:(invoke (.fn (.func g) ys) az).run P w = .ok (.enter g (az++ys)) w∧(invoke (.fn (.func g) ys) az).events P w #[]=#[]:=by
        unfold invoke callFunc;dsimp only;have hname' : ¬fn.name = "runtime.NumGoroutine" := by simpa using hname
        simp[hfn,hname',hc]
       rw[Z34 hrun.1];unfold lsd;rw[hrun.2,Z0K,Z0T]
       rfl
     ·split at e
      ·rename_i hb hg
       have hg:g=X.en:=by simpa using hg
       subst hg
       cases e
       refine⟨_,fs,⟨hfa,hs⟩,fun m w _=>?_⟩;obtain⟨fn',h1,h2,h3,h4,h5⟩:=hX.en.ex;rw[Z1C hret];unfold unwind;rw[hfd];dsimp only;have hi:invoke (.fn (.func X.en) ys) az=callFunc X.en (az++ys):=rfl;have hrun:(invoke (.fn (.func X.en) ys) az).run P w = .ok (.value (.tuple #[])) w:=by
        rw[hi,run_callFunc_extern h1 h2 h3 h4 h5];simp[Extern.Race.none_]
       have hev:(invoke (.fn (.func X.en) ys) az).events P w #[]=#[⟨.mark (.extern X.en),false,true⟩]++#[⟨.mark .enable,false,true⟩]:=by
        rw[hi,Conc.events_callFunc_extern h1 h2 h3 h4 h5];simp
       rw[Z4c hrun];unfold lsd;rw[hev,Conc.seen_entry _ _ _ (fun x hx=>by simp at hx;subst hx;exact⟨rfl,fun g h=>by cases h⟩)]
       rfl
      ·cases e
    ·cases e
   ·cases e
  ·rename_i hdef
   split at e
   ·rename_i c cs' fn hkind hfn
    split at e
    ·rename_i ops i rest' k htodo
     cases hs with
     | @cons _ f0 _ fs0 hc hcs =>
     have fin:∀{v:Value} {b:FA},c.put ops i rest' k v=some b→((fn.results.toList=[]∧v = .tuple #[])∨∃t,fn.results.toList=[.tmp t]∧v=f.tmps.getD t undef)→Sil P f (f0::fs0) cs ⟨b,cs',[],.none⟩:=by
      intro v b hb hv;refine⟨f0.finish v,fs0,⟨hc.put htodo hb,hcs⟩,fun m w _=>?_⟩;rw[Z1C hret];unfold unwind;rw[hf.defs,hdef];dsimp only;rw[hret];dsimp only;rw[hf.fn,hfn];dsimp only;obtain⟨r1,r2⟩:=Z2e (P:=P) hv w;simp only[Yf,r1,r2];unfold doReturn;rw[hf.kind,hkind]
      rfl
     split at e
     ·rename_i hcr hres
      obtain⟨b,hb,e⟩:=Y3.1 e
      cases e
      exact fin hb (.inl ⟨hres,rfl⟩)
     ·rename_i t hcr hres
      obtain⟨v,hv,e⟩:=Option.bind_eq_some_iff.1 e;obtain⟨b,hb,e⟩:=Y3.1 e
      cases e
      refine fin hb (.inr ⟨t,hres,?_⟩);rw[Y6,hf.env t v hv];rfl
     ·cases e
    ·cases e
   ·rename_i c cs' fn hkind hfn
    split at e
    ·rename_i hcr hres
     cases e
     cases hs with
     | @cons _ f0 _ fs0 hc hcs =>
     refine⟨f0,fs0,⟨hc,hcs⟩,fun m w _=>?_⟩;have hcm:f0.mode = .returning:=by rw[hc.mode,hcr];rfl
     rw[Z1C hret];unfold unwind;rw[hf.defs,hdef];dsimp only;rw[hret];dsimp only;rw[hf.fn,hfn];dsimp only;obtain⟨r1,r2⟩:=Z2e (P:=P) (fn:=fn) (tmps:=f.tmps) (.inl ⟨hres,rfl⟩) w;simp only[Yf,r1,r2];unfold doReturn;rw[hf.kind,hkind];dsimp only[List.cons_append];rw[hcm]
     rfl
    ·cases e
   ·cases e
 | false =>
  rw[hr]at e hmode;have hrun:f.mode = .run:=by rw[hmode];rfl
  dsimp only at e;have ht:=hf.todo;have ret:(f.todo=[]∨∃k,f.todo = .code .ret::k)→Sil P f fs cs ⟨{a with ret:=true},rest,[],.none⟩:=by
   intro hx;refine⟨{f with mode:=.returning},fs,⟨⟨hf.fn,hf.size,hf.env,hf.todo,hf.defs,hf.kind,rfl,hf.round⟩,hs⟩,fun m w _=>?_⟩;rw[Z1Z hrun]
   rcases hx with hx | ⟨k,hx⟩
   ·rw[Z9n hx,Z5I hf.round (.inl rfl)];rfl
   ·rw[Z9o hx,Z5I hf.round (.inr rfl)];rfl
  have inj:∀{x y:Mv},some x=some y→y=x:=fun h=>(Y1 h).symm
  split at e<;>(try rename_i htodo;rw[htodo]at ht)
  ·cases inj e;exact ret (.inl ht)
  ·exact Z1G h hrun e fun _ _=>Z6A ht
  ·exact Z1G h hrun e fun _ _=>Z4j ht
  ·exact Z1G h hrun e fun _ _=>Z2D ht
  ·exact Z1G h hrun e fun _ _=>Z4i ht
  ·exact Z1G h hrun e fun _ _=>Z6z ht
  ·exact Z1G h hrun e fun _ _=>Z4k ht
  ·split at e
   ·rename_i b hb
    refine Z1G h hrun e fun _ _=>?_;rw[Z4H ht,hf.val hb]
   ·cases e
  ·obtain⟨k',hk',e⟩:=Option.bind_eq_some_iff.1 e
   refine Z1G h hrun e fun _ _=>?_;rw[Z4I ht,hk']
  ·cases inj e;exact ret (.inr ⟨_,ht⟩)
  ·exact Z1G h hrun e fun _ _=>Z3c ht
  ·exact Z1G h hrun e fun _ _=>Z2r ht
  ·exact Z1G h hrun e fun _ _=>Z2s ht
  ·exact Z1G h hrun e fun _ _=>Z3a ht
  ·exact Z1G h hrun e fun _ _=>Z6w ht
  ·rename_i ops i l k
   split at e
   ·cases e
   ·rename_i o ho
    split at e
    ·rename_i hg
     obtain⟨b,hb,e⟩:=Y3.1 e
     cases e
     have hw:=Zas hf hg;refine⟨f.finish undef,fs,⟨hf.put htodo hb,hs⟩,fun m w _=>?_⟩;rw[Z1Z hrun,Z1P ht,ho];simp only[Option.map_some,Option.getD_some,hw]
     rfl
    ·rename_i hg
     have hw:=Zas hf hg
     split at e
     ·rename_i g vs hext
      split at e
      ·cases e
      ·rename_i hke
       have hk:f.kind ≠ .early:=fun x=>hke (by rw[←hf.kind,x];rfl)
       split at e
       ·rename_i v ev' hact
        obtain⟨b,hb,e⟩:=Y3.1 e
        cases e
        obtain⟨ex,hE,hall⟩:=ZiD hX hact;refine⟨f.finish v,fs,⟨hf.put htodo hb,hs⟩,fun m w _=>?_⟩;obtain⟨r1,r2,r3⟩:=hall w;exact Z9r hf hr htodo ho hg hk hext hE r1 r2 r3
       ·cases e
     ·have hop:∀m w,stepG.exec P m true f (fs++cs) none w=stepG.apply P true f (fs++cs) none (execOp f.eval o) w:=fun m w=>by
       rw[Z1P ht,ho];simp only[Option.map_some,Option.getD_some,hw,if_true];exact Z3H ht ho (.inl hf.round)
      split at e
      ·rename_i v ps hv
       obtain⟨b,hb,e⟩:=Y3.1 e
       cases e
       refine⟨f.finish v,fs,⟨hf.put htodo hb,hs⟩,fun m w hp=>?_⟩;obtain⟨r1,r2⟩:=ZeJ hf hv w hp;rw[Z1Z hrun,hop,Z0c r1];simp only[lst,r2,ite_self,Z0K,Z0T]
       rfl
      ·rename_i d ps hv
       obtain⟨b,hb,e⟩:=Y3.1 e
       cases e
       have hfd:FOk {a with defs:=d::a.defs} {f with defers:=d::f.defers}:=⟨hf.fn,hf.size,hf.env,hf.todo,by rw[hf.defs],hf.kind,hf.mode,hf.round⟩;have hb2:FA.put {a with defs:=d::a.defs} ops i l k undef=some {b with defs:=d::b.defs}:=by
        revert hb;unfold FA.put;dsimp only
        split
        ·split
         ·intro hb;obtain rfl:=Y1 hb;rfl
         ·intro hb;cases hb
        ·intro hb;obtain rfl:=Y1 hb;rfl
       refine⟨_,fs,⟨hfd.put htodo hb2,hs⟩,fun m w hp=>?_⟩;obtain⟨r1,r2⟩:=ZeJ hf hv w hp;rw[Z1Z hrun,hop,Z1L r1];simp only[lst,r2,ite_self,Z0K,Z0T]
       rfl
      ·rename_i g xs ps hv
       split at e
       ·rename_i fn hfn
        split at e
        ·rename_i c hc
         cases inj e
         have hk2:Z2a f = .normal:=by unfold Z2a;rw[ht]
         refine⟨Frame.enter P g xs .normal,f::fs,⟨Z6s hfn hc xs .normal,.cons hf hs⟩,fun m w hp=>?_⟩;obtain⟨r1,r2⟩:=ZeJ hf hv w hp;rw[Z1Z hrun,hop,Z0u r1,hk2];simp only[lst,r2,ite_self,Z0K,Z0T]
         rfl
        ·cases e
       ·cases e
      ·cases e
    ·cases e
  ·cases e
end
end Ev
namespace Ev
open Go Lift
def xt:Xt:={dis:=129,en:=130,acq:=143,mrg:=128,says:=true,pures:=[(161,.tuple #[]),(131,.bool false)]}
def xtQ:Xt:={xt with says:=false}
theorem ZgZ:Ext0 Tryz.prog 129 (fun _=>do mark .disable;pure Extern.Race.none_):=⟨_,Tryz.func129,by kernel_rfl,by kernel_rfl,by kernel_rfl,by kernel_rfl⟩
theorem Zj5:Ext0 Tryz.prog 130 (fun _=>do mark .enable;pure Extern.Race.none_):=⟨_,Tryz.func130,by kernel_rfl,by kernel_rfl,by kernel_rfl,by kernel_rfl⟩
theorem Z8p:Ext0 Tryz.prog 143 (Extern.Race.marked .acquire):=⟨_,Tryz.func143,by kernel_rfl,by kernel_rfl,by kernel_rfl,by kernel_rfl⟩
theorem Zc6:Ext0 Tryz.prog 128 (Extern.Race.marked .releaseMerge):=⟨_,Tryz.func128,by kernel_rfl,by kernel_rfl,by kernel_rfl,by kernel_rfl⟩
theorem Zj6:Ext0 Tryz.prog 136 (Extern.Race.marked .read):=⟨_,Tryz.func136,by kernel_rfl,by kernel_rfl,by kernel_rfl,by kernel_rfl⟩
theorem Zj7:Ext0 Tryz.prog 146 (Extern.Race.marked .write):=⟨_,Tryz.func146,by kernel_rfl,by kernel_rfl,by kernel_rfl,by kernel_rfl⟩
theorem Zeg:Ext0 Tryz.prog 161 (fun _=>pure (.tuple #[])):=⟨_,Tryz.func161,by kernel_rfl,by kernel_rfl,by kernel_rfl,by kernel_rfl⟩
theorem ZgY:Ext0 Tryz.prog 131 (fun _=>pure (.bool false)):=⟨_,Tryz.func131,by kernel_rfl,by kernel_rfl,by kernel_rfl,by kernel_rfl⟩
theorem Zc5:Ext0 Tryz.prog 160 Extern.Sync.canSpin:=⟨_,Tryz.func160,by kernel_rfl,by kernel_rfl,by kernel_rfl,by kernel_rfl⟩
theorem Zh0:Ext0 Tryz.prog 163 Extern.OsHooks.nano:=⟨_,Tryz.func163,by kernel_rfl,by kernel_rfl,by kernel_rfl,by kernel_rfl⟩
theorem Zc7:Ext0 Tryz.prog 164 Extern.Sync.semacquire:=⟨_,Tryz.func164,by kernel_rfl,by kernel_rfl,by kernel_rfl,by kernel_rfl⟩
theorem ZfT:Ext0 Tryz.prog 166 Extern.Sync.semrelease:=⟨_,Tryz.func166,by kernel_rfl,by kernel_rfl,by kernel_rfl,by kernel_rfl⟩
theorem ZfU:Ext0 Tryz.prog 147 Extern.Sync.semacquire:=⟨_,Tryz.func147,by kernel_rfl,by kernel_rfl,by kernel_rfl,by kernel_rfl⟩
theorem Zc8:Ext0 Tryz.prog 140 Extern.Sync.semrelease:=⟨_,Tryz.func140,by kernel_rfl,by kernel_rfl,by kernel_rfl,by kernel_rfl⟩
theorem Zc3:Ext0 Tryz.prog 154 (Extern.Atomic.casT (.int .i32)):=⟨_,Tryz.func154,by kernel_rfl,by kernel_rfl,by kernel_rfl,by kernel_rfl⟩
theorem ZgX:Ext0 Tryz.prog 156 (Extern.Atomic.update (Op.intArith .add) .i32 true):=⟨_,Tryz.func156,by kernel_rfl,by kernel_rfl,by kernel_rfl,by kernel_rfl⟩
theorem Zc4:Ext0 Tryz.prog 158 (Extern.Atomic.casT (.int .u64)):=⟨_,Tryz.func158,by kernel_rfl,by kernel_rfl,by kernel_rfl,by kernel_rfl⟩
theorem Zc2:Ext0 Tryz.prog 151 (Extern.Atomic.update (Op.intArith .add) .u64 true):=⟨_,Tryz.func151,by kernel_rfl,by kernel_rfl,by kernel_rfl,by kernel_rfl⟩
theorem Z3G:Ext0 Tryz.prog 152 (Extern.Atomic.loadT (.int .u64)):=⟨_,Tryz.func152,by kernel_rfl,by kernel_rfl,by kernel_rfl,by kernel_rfl⟩
theorem Zh1:Ext0 Tryz.prog 153 Extern.Atomic.storeT:=⟨_,Tryz.func153,by kernel_rfl,by kernel_rfl,by kernel_rfl,by kernel_rfl⟩
theorem xok:XOk Tryz.prog xt where
 dis:=ZgZ
 en:=Zj5
 acq:=Z8p
 mrg:=Zc6
 pures:=by
  intro g v h;simp only[xt,Yp,List.lookup_nil]at h
  split at h
  ·rename_i e;obtain rfl:=eq_of_beq e;cases h;exact Zeg
  ·split at h
   ·rename_i e;obtain rfl:=eq_of_beq e;cases h;exact ZgY
   ·cases h
theorem xokQ:XOk Tryz.prog xtQ:=⟨xok.dis,xok.en,xok.acq,xok.mrg,xok.pures⟩
end Ev
namespace Ev
open Go Lift
def St.pend(s:St):Option Oper:=
 if s.top.ret||s.top.kind == .early then none else match s.top.todo with
 | .inRegion ops (i::_)::_=>match ops[i]? with
  | some o=>match s.top.gd ops o with
   | some true=>some o
   | _=>none
  | none=>none
 | _=>none
def St.ext(P:Program)(s:St):Option (FuncId×List Value):=s.pend.bind (s.top.ext P)
def St.lod(s:St):Option (TypeId×Addr):=s.pend.bind fun o=>match o.op with
 | .load t x=>match s.top.val x with
  | some (.pointer (some p))=>some (t,p)
  | _=>none
 | _=>none
def St.sto(s:St):Option (TypeId×Addr×Value):=s.pend.bind fun o=>match o.op with
 | .store t x y=>match s.top.val x,s.top.val y with
  | some (.pointer (some p)),some v=>some (t,p,v)
  | _,_=>none
 | _=>none
def St.cal(P:Program)(s:St):Option (FuncId×Array Value):=s.pend.bind fun o=>match s.top.op P o with
 | some (.enter f xs,[])=>some (f,xs)
 | _=>none
def St.ans(s:St)(v:Value):Option St:=
 match s.top.todo with
 | .inRegion ops (i::rest)::k=>(s.top.put ops i rest k v).map fun a=>{s with top:=a}
 | _=>none
section
variable{P:Program}{m:Bool}{w w':World}{f:Frame}{fs cs:List Frame}{s s':St}
theorem Z0w(h:s.pend=some o): ∃ops i rest k,s.top.todo = .inRegion ops (i::rest)::k∧ops[i]?=some o∧s.top.gd ops o=some true∧s.top.ret=false∧s.top.kind ≠ .early:=by
 unfold St.pend at h
 split at h
 ·cases h
 ·rename_i hk
  simp only[Yo,not_or,Bool.not_eq_true]at hk
  split at h
  ·rename_i ops i rest k ht
   split at h
   ·rename_i o' ho
    split at h
    ·rename_i hg
     obtain rfl:=Y1 h;exact⟨ops,i,rest,k,ht,ho,hg,hk.1,fun e=>by rw[e]at hk;exact absurd hk.2 (by decide)⟩
    ·cases h
   ·cases h
  ·cases h
theorem Z25{ops:Array Oper}{i:Nat}{rest:List Nat}{k:List Item}(h:SOk s.top s.rest f fs)(ht:s.top.todo = .inRegion ops (i::rest)::k){v:Value}(ha:s.ans v=some s'): SOk s'.top s'.rest (f.finish v) fs∧s'.cvs=s.cvs∧s'.mks=s.mks∧s'.deaf=s.deaf:=by
 unfold St.ans at ha;rw[ht]at ha;obtain⟨a,hp,rfl⟩:=Y3.1 ha;exact⟨⟨h.1.put ht hp,h.2⟩,rfl,rfl,rfl⟩
theorem Z2E(h:SOk s.top s.rest f fs){vs:List Value}(he:s.ext P=some (g,vs)){e:Array Value→Sem Value}(hE:Ext0 P g e){v:Value}{evs:Array Event}(hrun:(e vs.toArray).run P w = .ok v w')(hev:(e vs.toArray).events P w #[⟨.mark (.extern g),false,true⟩]=#[⟨.mark (.extern g),false,true⟩]++evs)(hs:∀x∈evs,x.sync=true∧∀g,x.loc ≠ .mark (.extern g))(ha:s.ans v=some s'):
  stepG P m (run1 f (fs++cs)) w = .go (run1 (f.finish v) (fs++cs)) w' evs∧SOk s'.top s'.rest (f.finish v) fs:=by
 obtain⟨o,hp,hx⟩:=Option.bind_eq_some_iff.1 he;obtain⟨ops,i,rest,k,ht,ho,hg,hr,hk⟩:=Z0w hp;exact⟨Z9r h.1 hr ht ho hg (by rw[h.1.kind];exact hk) hx hE hrun hev hs,(Z25 h ht ha).1⟩
theorem Z1B(h:SOk s.top s.rest f fs)(hp:s.pend=some o)(hnd:∀c,o.op ≠ .defer c): stepG P m (run1 f (fs++cs)) w=stepG.apply P true f (fs++cs) none (execOp f.eval o) w:=by
 letI:Jk:={j:=False,rest:=[]};obtain⟨ops,i,rest,k,ht,ho,hg,hr,hk⟩:=Z0w hp;have hft:=h.1.todo.trans ht;rw[Z1Z (by rw[h.1.mode,hr];rfl),Z1P hft,ho];simp only[Option.map_some,Option.getD_some,Zas h.1 hg,if_true];exact Z3H hft ho (.inl h.1.round)
theorem Z7I{t:TypeId}(ha:(isAgg t).run P w = .ok false w){p:Addr}{v:Value}(hc:w.cell? p=some v): (Instr.loadAt t (.pointer (some p))).run P w = .ok v w∧(Instr.loadAt t (.pointer (some p))).events P w #[]=#[⟨.cell p,false,false⟩]:=by
 have hl:(load p .plain).run P w = .ok v w:=by simp only[load,Sem.run,hc]
 constructor
 ·simp[Instr.loadAt,Instr.sureAddr,loadVar,ha,hc]
 ·simp[Instr.loadAt,Instr.sureAddr,loadVar,ha,hl,hc]
theorem ZfV (h : SOk s.top s.rest f fs) {t : TypeId} {p : Addr} (he : s.lod = some (t, p)) (hag : (isAgg t).run P w = .ok false w) {v : Value} (hc : w.cell? p = some v) (ha : s.ans v = some s') :
    stepG P m (run1 f (fs ++ cs)) w = .go (run1 (f.finish v) (fs ++ cs)) w (seen P f.fn #[⟨.cell p, false, false⟩]) ∧ SOk s'.top s'.rest (f.finish v) fs := by
  letI : Jk := {j := False, rest := []};obtain⟨o, hp, hx⟩ := Option.bind_eq_some_iff.1 he;obtain⟨ops, i, rest, k, ht, ho, hg, hret, hk⟩ := Z0w hp;refine⟨?_, (Z25 h ht ha).1⟩
  split at hx
  · rename_i t' x hop
    split at hx
    · rename_i q hq
      simp only[Y4, Y9]at hx;obtain⟨rfl, rfl⟩ := hx;rw[Z1B h hp (by rw[hop]; simp)];obtain⟨r1, r2⟩ := Z7I hag hc
      have hex : execOp f.eval o = (do pure (Next.value (← Instr.loadAt t' (.pointer (some q))))) := by
        unfold execOp; rw [hop]; dsimp only; rw [h.1.val hq]
      have e1 : (execOp f.eval o).run P w = .ok (.value v) w := by rw [hex]; simp [r1]
      have e2 : (execOp f.eval o).events P w #[] = #[⟨.cell q, false, false⟩] := by rw [hex]; simp [r1, r2]
      rw[Z0c e1];unfold lst;have hke : (f.kind==CallKind.early)=false := by
        cases hkk : f.kind <;> first | rfl | (rw [h.1.kind] at hkk; exact absurd hkk hk)
      rw[hke, e2];simp[GStep.after]
    · cases hx
  · cases hx
theorem Z7b{t:TypeId}(ha:(sizeOf t).run P w = .ok 1 w){p:Addr}{u v:Value}(h1:v.oneCell'=true)(h2:v.cells=#[v])(hc:w.cell? p=some u)(hz:w.frozen? p=false):
  (Instr.storeAt t (.pointer (some p)) v).run P w = .ok () (w.setCell p v)∧(Instr.storeAt t (.pointer (some p)) v).events P w #[]=#[⟨.cell p,true,false⟩]:=by
 have hl:(store p v .plain).run P w = .ok () (w.setCell p v):=by rw[run_store P w p v .plain h1];simp[hc,hz]
 have hp0:p.add 0=p:=by obtain⟨b,o,s⟩:=p;rfl
 have he:=events_store P w #[] p v .plain h1;rw[hc]at he;simp only[hz]at he
 constructor
 ·simp[Instr.storeAt,Instr.sureAddr,storeVar,ha,h2,storeCells,hp0,hl]
 ·simp[Instr.storeAt,Instr.sureAddr,storeVar,ha,h2,storeCells,hp0,hl,he]
theorem Zgl(h:SOk s.top s.rest f fs){t:TypeId}{p:Addr}{v:Value}(he:s.sto=some (t,p,v))(hag:(sizeOf t).run P w = .ok 1 w)(h1:v.oneCell'=true)(h2:v.cells=#[v]){u:Value}(hc:w.cell? p=some u)(hz:w.frozen? p=false)(ha:s.ans undef=some s'):
  stepG P m (run1 f (fs++cs)) w = .go (run1 (f.finish undef) (fs++cs)) (w.setCell p v) (seen P f.fn #[⟨.cell p,true,false⟩])∧SOk s'.top s'.rest (f.finish undef) fs:=by
 letI:Jk:={j:=False,rest:=[]};obtain⟨o,hp,hx⟩:=Option.bind_eq_some_iff.1 he;obtain⟨ops,i,rest,k,ht,ho,hg,hret,hk⟩:=Z0w hp;refine⟨?_,(Z25 h ht ha).1⟩
 split at hx
 ·rename_i t' x y hop
  split at hx
  ·rename_i q z hq hy
   simp only[Y4,Y9]at hx;obtain⟨rfl,rfl,rfl⟩:=hx;rw[Z1B h hp (by rw[hop];simp)];obtain⟨r1,r2⟩:=Z7b (P:=P) hag h1 h2 hc hz
   have hex:execOp f.eval o=(do Instr.storeAt t' (.pointer (some q)) z;pure Next.skip):=by
    unfold execOp;rw[hop];dsimp only;rw[h.1.val hq,h.1.val hy]
   have e1:(execOp f.eval o).run P w = .ok .skip (w.setCell q z):=by rw[hex];simp[r1]
   have e2:(execOp f.eval o).events P w #[]=#[⟨.cell q,true,false⟩]:=by rw[hex];simp[r1,r2]
   rw[Z2o e1];unfold lst;have hke:(f.kind==CallKind.early)=false:=by
    cases hkk:f.kind<;>first | rfl | (rw[h.1.kind]at hkk;exact absurd hkk hk)
   rw[hke,e2];simp[GStep.after]
  ·cases hx
 ·cases hx
theorem ZfK(h:SOk s.top s.rest f fs){xs:Array Value}(he:s.cal P=some (g,xs)): stepG P m (run1 f (fs++cs)) w = .go (run1 (Frame.enter P g xs .normal) (f::(fs++cs))) w #[]:=by
 letI:Jk:={j:=False,rest:=[]};obtain⟨o,hp,hx⟩:=Option.bind_eq_some_iff.1 he;obtain⟨ops,i,rest,k,ht,ho,hg,hret,hk⟩:=Z0w hp
 split at hx
 ·rename_i f' ys hop
  simp only[Y4,Y9]at hx;obtain⟨rfl,rfl⟩:=hx;obtain⟨r1,r2⟩:=ZeJ h.1 hop w (by simp);have hnd:∀c,o.op ≠ .defer c:=by
   intro c hc;have:=r1;unfold execOp at this;rw[hc]at this;dsimp only at this;simp only[Sem.run_bind,Sem.run_pure]at this;revert this
   cases (resolve f.eval c o.type).run P w<;>simp
  rw[Z1B h hp hnd,Z0u r1];have hk2:Z2a f = .normal:=by unfold Z2a;rw[h.1.todo.trans ht]
  unfold lst;rw[hk2,r2];simp only[ite_self,Z0K,Z0T]
 ·cases hx
def FA.cut(l:List Nat)(a:FA):FA:={a with env:=l.filterMap fun t=>(a.env.lookup t).map fun v=>(t,v)}
theorem ZbO{a:FA}(h:FOk a f)(l:List Nat):FOk (a.cut l) f:=by
 refine⟨h.fn,h.size,fun t v e=>h.env t v ?_,h.todo,h.defs,h.kind,h.mode,h.round⟩;dsimp only[FA.cut]at e
 induction l with
 | nil=>cases e
 | cons x l ih =>
  rw[List.filterMap_cons]at e
  cases hx:a.env.lookup x with
  | none=>rw[hx]at e;exact ih e
  | some u =>
   rw[hx]at e;simp only[Option.map_some,Yp]at e
   split at e
   ·rename_i he
    have he:t=x:=by simpa using he
    subst he;obtain rfl:=Y1 e;exact hx
   ·exact ih e
def cuts:List (List Nat)→List FA→List FA
 | l::ls,a::az=>a.cut l::cuts ls az
 | _,az=>az
theorem ZbP:∀(ls:List (List Nat)) {az:List FA} {fs:List Frame},Lis FOk az fs→Lis FOk (cuts ls az) fs
 | [],_,_,h=>by unfold cuts;exact h
 | l::ls,_,_,.nil=>.nil
 | l::ls,_,_,.cons h t=>.cons (ZbO h l) (ZbP ls t)
def St.cut(l:List Nat)(ls:List (List Nat))(s:St):St:={top:=s.top.cut l,rest:=cuts ls s.rest,cvs:=[],mks:=[],deaf:=s.deaf}
theorem Z2C(h:SOk s.top s.rest f fs)(l:List Nat)(ls:List (List Nat)):SOk (s.cut l ls).top (s.cut l ls).rest f fs:=⟨ZbO h.1 l,ZbP ls h.2⟩
end
end Ev
end Go.Proofs.YtfelljbfeoplhaaGreat
