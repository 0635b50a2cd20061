/- Parts of a proof. No conditions. -/
import Derived.Deep.Cut
import Derived.Deep.CutRange
import Derived.Deep.RegionHeld3
import Derived.Defers
import Derived.IntWalk
import Derived.Laws.AppendOwn
import Derived.Laws.BitsAllLaws
import Derived.Laws.OwnMore
import Derived.Laws.StructEq
import Derived.Lib.Hide
import Derived.LoopIn
import Derived.LoopNIn
import Derived.LoopTactic
import Derived.Maps.AppendAt
import Derived.Outline
import Derived.OwnWalkIn
import Derived.RangeFuncBound
import Derived.RangeFuncCalls
import Derived.RangeFuncFrom
import Derived.RangeFuncKeeps
import Derived.RangeFuncLeaves
import Derived.RangeFuncNested
import Derived.Recover
import Derived.ScopeJumps
import Derived.Shelf.Abstract
import Derived.StillTailTactics
import Derived.TacticsInMore
import Derived.WalkLawsBesides
import Derived.WalkSpells
import Derived.Test.YtfelljbfeoplhaaGreatPkh1
set_option linter.unusedVariables false
set_option linter.unusedSimpArgs false
set_option linter.unusedSectionVars false
set_option maxRecDepth 100000
set_option maxHeartbeats 4000000
namespace Go.Proofs.YtfelljbfeoplhaaGreat
variable{vs:List Go.Value}
section
open Go.RowKit
variable{μ:Nat}
theorem ZK{a b:Bool}(h:a=b): Ending.returned (.bool a) = .returned (.bool b):=by rw[h]
theorem Z9{k:IntKind}{a b:Int}(h:a=b): Ending.returned (.int k a) = .returned (.int k b):=by rw[h]
theorem Z3{w:World}{b:Nat}{cs:Array Value}{T:TypeId}{fz:Nat×Nat}(h:w.heap[b]?=some (.cells cs T fz))(o:Nat): w.cell? ⟨b,o,none⟩=cs[o]?:=by
 simp[World.cell?,h]
theorem Zg{w:World}{b:Nat}{cs:Array Value}{T:TypeId}(h:w.heap[b]?=some (.cells cs T (0,0)))(o:Nat): w.frozen? ⟨b,o,none⟩=false:=by
 simp[World.frozen?,h]
theorem Z8{w:World}{b:Nat}{o:Obj}(h:w.heap[b]?=some o): b<w.heap.size:=by
 rcases Nat.lt_or_ge b w.heap.size with h' | h'
 ·exact h'
 ·rw[Array.getElem?_eq_none h']at h;cases h
theorem Z6M{w:World}{o:Obj}{b:Nat}(h:b=w.heap.size): (w.alloc o).heap[b]?=some o:=by
 subst h;show (w.heap.push o)[w.heap.size]?=some o;simp
theorem Zim{w:World}{b:Nat}{o o':Obj}(h:w.heap[b]?=some o): (w.alloc o').heap[b]?=some o:=by
 have:=Z8 h;show (w.heap.push o')[b]?=some o;rw[Array.getElem?_push,if_neg oM,h]
theorem ZbY(w:World)(o:Obj):(w.alloc o).heap.size=w.heap.size+1:=by show (w.heap.push o).size=_;simp
theorem Z2o(w:World)(p:Addr)(v:Value):(w.setCell p v).heap.size=w.heap.size:=by simp[World.setCell]
theorem follows:(Qy.prog μ).follows .mixedOrders=true:=kR
variable{μ:Nat}
structure Ext(X:List Nat)(w w':World):Prop where
 os:w'.os=w.os
 tape:w'.tape=w.tape
 output:w'.output=w.output
 size:w.heap.size<=w'.heap.size
 block:∀k,k<w.heap.size->k ∉ X->w'.heap[k]?=w.heap[k]?
theorem Ext.refl(X:List Nat)(w:World):Ext X w w:=⟨rfl,rfl,rfl,Ye _,λ_ _ _=>rfl⟩
theorem Ext.trans{X:List Nat}{a b c:World}(h:Ext X a b)(k:Ext X b c):Ext X a c:=
 ⟨k.os.trans h.os,k.tape.trans h.tape,k.output.trans h.output,Yd h.size k.size,λi hi hx=>(k.block i (Y8 hi h.size) hx).trans (h.block i hi hx)⟩
theorem Ext.trans'{X Y:List Nat}{a b c:World}(h:Ext X a b)(k:Ext Y b c)(hy:∀i∈Y,i<a.heap.size->i∈X): Ext X a c:=
 ⟨k.os.trans h.os,k.tape.trans h.tape,k.output.trans h.output,Yd h.size k.size,λi hi hx=>(k.block i (Y8 hi h.size) (λhm=>hx (hy i hm hi))).trans (h.block i hi hx)⟩
theorem Ext.nil{X:List Nat}{a b c:World}(h:Ext X a b)(k:Ext [] b c):Ext X a c:=h.trans' k (λ_ hi=>by cases hi)
theorem Ext.mono{X Y:List Nat}{a b:World}(h:Ext X a b)(hs:∀i∈X,i∈Y):Ext Y a b:=⟨h.os,h.tape,h.output,h.size,λi hi hx=>h.block i hi (λhm=>hx (hs i hm))⟩
theorem Ext.alloc{X:List Nat}{a w:World}(h:Ext X a w)(o:Obj): Ext X a (w.alloc o):=
 h.nil ⟨rfl,rfl,rfl,by rw[ZbY];omega,λk hk _=>Below.heap_alloc _ _ _ hk⟩
theorem Ext.setCell{X:List Nat}{a w:World}(h:Ext X a w){p:Addr}(hp:p.block<a.heap.size->p.block∈X)(u:Value): Ext X a (w.setCell p u):=
 h.trans' (Y:=[p.block]) ⟨rfl,rfl,rfl,by rw[Z2o];exact Ye _,λk hk hx=>Below.heap_setCell _ _ _ _ (by simpa using hx)⟩ (λi hi hl=>by simp at hi;subst hi;exact hp hl)
theorem Ext.keep{X:List Nat}{w w':World}(h:Ext X w w'){b:Nat}{o:Obj}(H:w.heap[b]?=some o)(hb:b ∉ X): w'.heap[b]?=some o:=by
 rw[h.block b (Z8 H) hb,H]
theorem Ext.keep0{w w':World}(h:Ext [] w w'){b:Nat}{o:Obj}(H:w.heap[b]?=some o): w'.heap[b]?=some o:=h.keep H sU
theorem Ext.cell{X:List Nat}{w w':World}(h:Ext X w w'){a:Addr}(ha:a.block<w.heap.size)(hb:a.block ∉ X):w'.cell? a=w.cell? a:=World.cell?_of_block (w:=w) (h.block a.block ha hb)
theorem ZfT{w w2:World}{p:Addr}{u:Value}{b:Nat}{o:Obj}(e:w2=w.setCell p u)(H:w.heap[b]?=some o)(hb:b≠p.block): w2.heap[b]?=some o:=by
 rw[e,Below.heap_setCell _ _ _ _ hb,H]
theorem Z2W(b:Nat)(T:TypeId):∀(cs pre:List Value) (old:List Value) (w:World),w.heap[b]?=some (.cells (pre++old).toArray T (0,0))->old.length=cs.length ->
  (w.setCells b pre.length cs).heap[b]?=some (.cells (pre++cs).toArray T (0,0))
 | [],pre,old,w,H,hl=>by
  obtain rfl:old=[]:=List.length_eq_zero_iff.1 hl;exact H
 | v::cs,pre,[],w,H,hl=>by simp at hl
 | v::cs,pre,x::old,w,H,hl=>by
  have:=Z2W b T cs (pre++[v]) old (w.setCell ⟨b,pre.length,none⟩ v) (by
   simp[World.setCell,Array.getElem?_modify,H]) (by simpa using hl)
  simpa[World.setCells] using this
theorem Z1p(b:Nat):∀(cs:List Value) (o:Nat) (w:World) (k:Nat),k≠b->(w.setCells b o cs).heap[k]?=w.heap[k]?
 | [],_,_,_,_=>rfl
 | v::cs,o,w,k,h=>(Z1p b cs (o+1) _ k h).trans (Below.heap_setCell _ _ _ _ h)
theorem Z3N(b:Nat):∀(cs:List Value) (o:Nat) (w:World),(w.setCells b o cs).os=w.os/\(w.setCells b o cs).tape=w.tape/\(w.setCells b o cs).output=w.output/\(w.setCells b o cs).heap.size=w.heap.size
 | [],_,_=>⟨rfl,rfl,rfl,rfl⟩
 | v::cs,o,w=>by
  obtain⟨h1,h2,h3,h4⟩:=Z3N b cs (o+1) (w.setCell ⟨b,o,none⟩ v);exact⟨h1,h2,h3,h4.trans (Z2o _ _ _)⟩
theorem Ext.setCells{X:List Nat}{a w:World}(h:Ext X a w){b:Nat}(hp:b<a.heap.size->b∈X)(o:Nat)(cs:List Value): Ext X a (w.setCells b o cs):=by
 obtain⟨h1,h2,h3,h4⟩:=Z3N b cs o w;exact h.trans' (Y:=[b]) ⟨h1,h2,h3,by rw[h4];exact Ye _,λk hk hx=>Z1p b cs o w k (by simpa using hx)⟩ (λi hi hl=>by simp at hi;subst hi;exact hp hl)
theorem Z5P{w:World}{b:Nat}{cs:List Value}{T:TypeId}{fz:Nat×Nat}(H:w.heap[b]?=some (.cells cs.toArray T fz)): w.rangeAt b 0 cs:=λj v hv=>by
 rw[Nat.zero_add,Z3 H];simpa using hv
theorem Z5Q{w:World}{b:Nat}{cs:Array Value}{T:TypeId}(H:w.heap[b]?=some (.cells cs T (0,0))): w.there b 0 cs.size:=λj hj=>by
 rw[Nat.zero_add,Z3 H,Zg H];simp[hj]
section
variable{P:Program}{ρ:Operand->Value}{o:Oper}{w:World}
theorem Z3m{x:Operand}{v:Value}(ho:o.op = .move x)(hx:ρ x=v): (execOp ρ o).run P w = .ok (.value v) w:=by
 simp[execOp,ho,hx,pure,Sem.run]
theorem Z08{x:Operand}{v:Value}(ho:o.op = .assign x)(hx:ρ x=v): (execOp ρ o).run P w = .ok (.value v) w:=by
 simp[execOp,ho,hx,pure,Sem.run]
theorem Z1e{x:Operand}{t:TypeId}{b off:Nat}{v:Value}{d:TypeDesc}(ho:o.op = .load t x)(hx:ρ x = .pointer (some ⟨b,off,none⟩))(hd:P.underlying t=some d)(ha:d.isRow=false)(hc:w.cell? ⟨b,off,none⟩=some v):
  (execOp ρ o).run P w = .ok (.value v) w:=by
 unfold execOp;cases d<;>first | (simp[TypeDesc.isRow]at ha;done) | simp[ho,hx,Instr.loadAt,Instr.sureAddr,loadVar,isAgg,underlying,hd,load,hc,Sem.run,go_sem]
theorem Z8b{x:Operand}{t:TypeId}{b off:Nat}{cs:List Value}{d:TypeDesc}(ho:o.op = .load t x)(hx:ρ x = .pointer (some ⟨b,off,none⟩))(hd:P.underlying t=some d)(ha:d.isRow=true)(hi:(P.info? t).map (·.size)=some cs.length)(hc:w.rangeAt b off cs):
  (execOp ρ o).run P w = .ok (.value (.agg cs.toArray)) w:=by
 unfold execOp;simp only[ho,hx,Instr.loadAt,Instr.sureAddr,Sem.run_bind,Sem.run_pure,Result.andThen_ok,run_loadVar_mid w b off t cs d hc hd ha hi]
theorem Z5X{x y:Operand}{t:TypeId}{b:Nat}{cs:Array Value}(ho:o.op = .store t x y)(hx:ρ x = .pointer (some ⟨b,0,none⟩))(hy:ρ y = .agg cs)(hi:(P.info? t).map (·.size)=some cs.size)(h1:cs.all (·.oneCell')=true){old:Array Value}{T:TypeId}(H:w.heap[b]?=some (.cells old T (0,0)))(hs:old.size=cs.size):
  (execOp ρ o).run P w = .ok .skip (w.setCells b 0 cs.toList):=by
 unfold execOp;have ht:=Z5Q H;rw[hs]at ht;simp only[ho,hx,hy,Instr.storeAt,Instr.sureAddr,Sem.run_bind,Sem.run_pure,Result.andThen_ok,run_storeVar_mid w b 0 t cs ht hi h1]
theorem Z94{b:Nat}{T:TypeId}{cs old:Array Value}(H:w.heap[b]?=some (.cells old T (0,0)))(hs:old.size=cs.size): (w.setCells b 0 cs.toList).heap[b]?=some (.cells cs T (0,0)):=by
 have:=Z2W b T cs.toList [] old.toList w (by simpa using H) (by simpa using hs);simpa using this
theorem Z5M{n:Int}(h1:-9223372036854775808<=n)(h2:n<=9223372036854775807): IntKind.i64.wrap n=n:=IntWalk.i64_in n oM
theorem Z87{x y:Operand}{t t':TypeId}{n m:Int}(ho:o.op = .binOp .add t x y t')(hx:ρ x = .int .i64 n)(hy:ρ y = .int .i64 m)(h1:-9223372036854775808<=n+m)(h2:n+m<=9223372036854775807):
  (execOp ρ o).run P w = .ok (.value (.int .i64 (n+m))) w:=by
 have hw:=Z5M h1 h2;unfold execOp;simp[ho,hx,hy,eqGuard,binOp,Op.intArith,hw,go_sem]
theorem Zkj{x y:Operand}{t t':TypeId}{n m:Int}(ho:o.op = .binOp .sub t x y t')(hx:ρ x = .int .i64 n)(hy:ρ y = .int .i64 m)(h1:-9223372036854775808<=n-m)(h2:n-m<=9223372036854775807):
  (execOp ρ o).run P w = .ok (.value (.int .i64 (n-m))) w:=by
 have hw:=Z5M h1 h2;unfold execOp;simp[ho,hx,hy,eqGuard,binOp,Op.intArith,hw,go_sem]
theorem Zm6{x y:Operand}{t t':TypeId}{n m:Int}(ho:o.op = .binOp .mul t x y t')(hx:ρ x = .int .i64 n)(hy:ρ y = .int .i64 m)(h1:-9223372036854775808<=n*m)(h2:n*m<=9223372036854775807):
  (execOp ρ o).run P w = .ok (.value (.int .i64 (n*m))) w:=by
 have hw:=Z5M h1 h2;unfold execOp;simp[ho,hx,hy,eqGuard,binOp,Op.intArith,hw,go_sem]
theorem Zm7{x:Operand}{t:TypeId}{n:Int}(ho:o.op = .unOp .neg t x)(hx:ρ x = .int .i64 n)(h1:-9223372036854775807<=n)(h2:n<=9223372036854775807):
  (execOp ρ o).run P w = .ok (.value (.int .i64 (-n))) w:=by
 have hw:=Z5M (n:=-n) oM oM;unfold execOp;simp[ho,hx,Op.intArith,hw,go_sem]
theorem Zi8{x:Operand}{t:TypeId}{b:Bool}(ho:o.op = .unOp .not t x)(hx:ρ x = .bool b): (execOp ρ o).run P w = .ok (.value (.bool !b)) w:=by
 unfold execOp;simp[ho,hx,go_sem]
theorem Zcx{x y:Operand}{t t':TypeId}{k:IntKind}{n m:Int}(ho:o.op = .binOp .lss t x y t')(hx:ρ x = .int k n)(hy:ρ y = .int k m):
  (execOp ρ o).run P w = .ok (.value (.bool (decide (n<m)))) w:=by
 unfold execOp;simp[ho,hx,hy,eqGuard,binOp,Op.intCmp,go_sem]
theorem Zkd{x y:Operand}{t t':TypeId}{k:IntKind}{n m:Int}(ho:o.op = .binOp .leq t x y t')(hx:ρ x = .int k n)(hy:ρ y = .int k m):
  (execOp ρ o).run P w = .ok (.value (.bool (decide (n<=m)))) w:=by
 unfold execOp;simp[ho,hx,hy,eqGuard,binOp,Op.intCmp,go_sem]
theorem Zkc{x y:Operand}{t t':TypeId}{k:IntKind}{n m:Int}(ho:o.op = .binOp .gtr t x y t')(hx:ρ x = .int k n)(hy:ρ y = .int k m):
  (execOp ρ o).run P w = .ok (.value (.bool (decide (m<n)))) w:=by
 unfold execOp;simp[ho,hx,hy,eqGuard,binOp,Op.intCmp,go_sem]
theorem Zkb{x y:Operand}{t t':TypeId}{k:IntKind}{n m:Int}(ho:o.op = .binOp .geq t x y t')(hx:ρ x = .int k n)(hy:ρ y = .int k m):
  (execOp ρ o).run P w = .ok (.value (.bool (decide (m<=n)))) w:=by
 unfold execOp;simp[ho,hx,hy,eqGuard,binOp,Op.intCmp,go_sem]
theorem Zm3{x y:Operand}{t t':TypeId}{k:IntKind}{n m:Int}(ho:o.op = .binOp .eql t x y t')(hx:ρ x = .int k n)(hy:ρ y = .int k m):
  (execOp ρ o).run P w = .ok (.value (.bool (n==m))) w:=by
 unfold execOp;simp[ho,hx,hy,eqGuard,binOp,Op.intCmp,go_sem]
theorem Zm8{x y:Operand}{t t':TypeId}{k:IntKind}{n m:Int}(ho:o.op = .binOp .neq t x y t')(hx:ρ x = .int k n)(hy:ρ y = .int k m):
  (execOp ρ o).run P w = .ok (.value (.bool (n != m))) w:=by
 unfold execOp;simp[ho,hx,hy,eqGuard,binOp,Op.intCmp,go_sem]
theorem Zbq{x:Operand}{b:Addr}(ho:o.op = .nilCheck x)(hx:ρ x = .pointer (some b)): (execOp ρ o).run P w = .ok (.value (.pointer (some b))) w:=by
 unfold execOp;simp[ho,hx,go_sem]
theorem Z9f{x:Operand}{t:TypeId}{f b off sz:Nat}{fs:Array Go.Field}{fd:Go.Field}(ho:o.op = .fieldAddr t x f)(hx:ρ x = .pointer (some ⟨b,off,none⟩))(hu:P.underlying t=some (.struct fs))(hf:fs[f]?=some fd){n:Nat}(hn:fd.offset=n)(hs:(P.info? fd.type).map (·.size)=some sz)(h0:sz≠0):
  (execOp ρ o).run P w = .ok (.value (.pointer (some ⟨b,off+n,none⟩))) w:=by
 subst hn;unfold execOp;cases hq:P.info? fd.type with
 | none=>simp[hq]at hs
 | some i =>
  have hs':i.size=sz:=by simpa[hq] using hs
  simp[ho,hx,Instr.fieldAt,Instr.sureAddr,run_underlying hu,hf,sizeOf,typeInfo,hq,hs',h0,go_sem]
theorem Z4V{x ix:Operand}{t e:TypeId}{k:IntKind}{i:Int}{b off n sz:Nat}(ho:o.op = .indexAddr t x ix)(hx:ρ x = .pointer (some ⟨b,off,none⟩))(hi:ρ ix = .int k i)(hu:P.underlying t=some (.array n e))(hs:(P.info? e).map (·.size)=some sz)(h0:0<=i)(h1:i<n):
  (execOp ρ o).run P w = .ok (.value (.pointer (some ⟨b,off+i.toNat*sz,none⟩))) w:=by
 unfold execOp;cases hq:P.info? e with
 | none=>simp[hq]at hs
 | some j =>
  have hs':j.size=sz:=by simpa[hq] using hs
  simp[ho,hx,hi,Instr.indexAt,Instr.sureAddr,run_underlying hu,asIntOf,h0,h1,sizeOf,typeInfo,hq,hs',go_sem]
theorem Z89{x ix:Operand}{t e:TypeId}{k:IntKind}{i:Int}{b off len cap sz:Nat}(ho:o.op = .indexAddr t x ix)(hx:ρ x = .slice (some ⟨b,off,none⟩) len cap)(hi:ρ ix = .int k i)(hu:P.underlying t=some (.slice e))(hs:(P.info? e).map (·.size)=some sz)(h0:0<=i)(h1:i<len):
  (execOp ρ o).run P w = .ok (.value (.pointer (some ⟨b,off+i.toNat*sz,none⟩))) w:=by
 unfold execOp;cases hq:P.info? e with
 | none=>simp[hq]at hs
 | some j =>
  have hs':j.size=sz:=by simpa[hq] using hs
  simp[ho,hx,hi,Instr.indexAt,run_underlying hu,asIntOf,h0,h1,sizeOf,typeInfo,hq,hs',go_sem]
theorem Z8a{c:Call}{x:Operand}{t:TypeId}{a:Option Addr}{n cap:Nat}(ho:o.op = .call c)(hc:c={callee:=.builtin .len,args:=#[x],argTypes:=#[t]})(hx:ρ x = .slice a n cap)(hu:P.underlying t=some (.slice (P.elem t))):
  (execOp ρ o).run P w = .ok (.value (.int .i64 n)) w:=by
 subst hc;unfold execOp;simp[ho,hx,resolve,invoke,builtin,run_len_slice w t o.type a n cap hu,goInt,go_sem]
theorem Zm4{c:Call}{x y:Operand}{t t':TypeId}{n m:Int}(ho:o.op = .call c)(hc:c={callee:=.builtin .max,args:=#[x,y],argTypes:=#[t,t']})(hx:ρ x = .int .i64 n)(hy:ρ y = .int .i64 m):
  (execOp ρ o).run P w = .ok (.value (.int .i64 (max n m))) w:=by
 subst hc;unfold execOp;simp[ho,hx,hy,resolve,invoke,builtin,go_sem];split<;>omega
theorem Z8h{v:Value}(h:v.oneCell'=true): v.cells=#[v]:=by
 cases v<;>first | rfl | (simp[Value.oneCell']at h)
theorem ZW{x y:Operand}{t:TypeId}{b off:Nat}{v u:Value}(ho:o.op = .store t x y)(hx:ρ x = .pointer (some ⟨b,off,none⟩))(hy:ρ y=v)(h1:v.oneCell'=true)(hs:(P.info? t).map (·.size)=some 1)(hc:w.cell? ⟨b,off,none⟩=some u)(hf:w.frozen? ⟨b,off,none⟩=false):
  (execOp ρ o).run P w = .ok .skip (w.setCell ⟨b,off,none⟩ v):=by
 have:=run_storeCells_cells (P:=P) b off [v] 0 w (λj hj=>by obtain rfl:j=0:=(by simp at hj;omega);simp[hc]) (λj hj=>by obtain rfl:j=0:=(by simp at hj;omega);simp[hf]) (λz hz=>by simp at hz;subst hz;exact h1);simp only[Nat.add_zero]at this;have hsv:(storeVar t ⟨b,off,none⟩ v).run P w = .ok () (w.setCell ⟨b,off,none⟩ v):=by
  unfold storeVar;rw[Z8h h1];cases hq:P.info? t with
  | none=>simp[hq]at hs
  | some j =>
   have hs':j.size=1:=by simpa[hq] using hs
   simp[sizeOf,typeInfo,hq,hs',this];rfl
 unfold execOp;simp only[ho,hx,hy,Instr.storeAt,Instr.sureAddr,Sem.run_bind,Sem.run_pure,Result.andThen_ok,hsv]
theorem Zm5{c:Call}{x y:Operand}{t t':TypeId}{n m:Int}(ho:o.op = .call c)(hc:c={callee:=.builtin .min,args:=#[x,y],argTypes:=#[t,t']})(hx:ρ x = .int .i64 n)(hy:ρ y = .int .i64 m):
  (execOp ρ o).run P w = .ok (.value (.int .i64 (min n m))) w:=by
 subst hc;unfold execOp;simp[ho,hx,hy,resolve,invoke,builtin,go_sem];split<;>omega
theorem Z2Z{T:TypeId}{z:Value}(ho:o.op = .alloc T)(hz:∀w,(zeroValue T).run P w = .ok z w): (execOp ρ o).run P w = .ok (.value (.pointer (some ⟨w.heap.size,0,none⟩))) (w.alloc (.cells z.cells T)):=by
 unfold execOp;simp only[ho,Instr.alloc,Sem.run_bind,hz,Result.andThen_ok];simp only[newVar,newRow,newObj,Sem.run_bind,Sem.run_pure];rfl
theorem Zcr{T:TypeId}{x:Operand}{v:Value}(ho:o.op = .box T x)(hx:ρ x=v): (execOp ρ o).run P w = .ok (.value (.pointer (some ⟨w.heap.size,0,none⟩))) (w.alloc (.cells v.cells T)):=by
 unfold execOp;simp only[ho,hx,Instr.box,Sem.run_bind,Result.andThen_ok];simp only[newVar,newRow,newObj,Sem.run_bind,Sem.run_pure];rfl
end
theorem Z9c{P:Program}{id:Nat}{Q:Exit->Act->World->Prop}{a:Act}{w:World}{l:List Oper}(n:Nat)(hm:P.follows .mixedOrders=true)(hB:Region.lexTailB .any l.toArray n=true)(h:∀W:World,W.heap=w.heap->Ext [] w W->wpStill P l.toArray W (λa'=>wpList P l.toArray Q (l.drop n) a' W) (l.take n) a): (Code.region id l.toArray true).wp P Q a w:=
 wp_region_still_tail n hm hB (h _ rfl ⟨rfl,rfl,rfl,Ye _,λ_ _ _=>rfl⟩)
variable{μ:Nat}
def ZaT(m:Nat->Nat->Int):Array Value:=Array.ofFn (n:=169) λi=>.int .i64 (m (i.1 / 13) (i.1 % 13))
def Zj7(m:Nat->Nat->Int):List Value:=(ZaT m).toList
attribute [irreducible] ZaT Zj7
variable{μ:Nat}
theorem Z1G{P:Program}{w:World}{d len n:Nat}{t elem:TypeId}{xs ys:Array Value}(ht:P.underlying t=some (.array len elem))(hn:(P.info? elem).map (·.size)=some n)(e:Nat->Bool)(hx:∀i,i<len->∃x y,(part elem xs (i*n)).run P w = .ok x w/\(part elem ys (i*n)).run P w = .ok y w/\(Op.equalIn d elem x y).run P w = .ok (e i) w):
  (Op.equalIn (d+1) t (.agg xs) (.agg ys)).run P w = .ok ((List.range len).all e) w:=by
 have hz:(sizeOf elem).run P w = .ok n w:=by
  cases hq:P.info? elem with
  | none=>simp[hq]at hn
  | some j =>
   have hs:j.size=n:=by simpa[hq] using hn
   simp[sizeOf,typeInfo,hq,hs]
 have hL:∀i∈List.range' 0 len 1,i<len:=by simp
 have hall:(List.range len).all e=(List.range' 0 len 1).all e:=by rw[List.range_eq_range']
 rw[hall];simp only[Op.equalIn,Sem.run_bind,run_underlying ht,Result.andThen_ok,hz,Std.Legacy.Range.forIn_eq_forIn_range',Std.Legacy.Range.size,Nat.sub_zero,Nat.add_sub_cancel,Nat.div_one];generalize List.range' 0 len 1=L at hL⊢
 induction L with
 | nil=>simp
 | cons i L ih =>
  obtain⟨x,y,h1,h2,h3⟩:=hx i (hL i sU);have ih':=ih (λj hj=>hL j (by simp[hj]));simp only[List.forIn_cons,Sem.run_bind,h1,h2,h3,Result.andThen_ok,List.all_cons];cases he:e i with
  | false=>simp
  | true =>
   simp only[Bool.true_and];simpa using ih'
variable{μ:Nat}
def Z6(w:World)(v:Value)(sz:Nat)(xs:List (List Value)):Prop:=
 ∃a cap,v = .slice a xs.length cap/\(∀x∈xs,x.length=sz)/\(xs≠[]->∃b off,a=some ⟨b,off,none⟩/\b<w.heap.size/\∀i j x,xs[i]?=some x->j<sz->w.cell? ⟨b,off+i*sz+j,none⟩=x[j]?)
theorem Z6.ext{X:List Nat}{w w':World}{v:Value}{sz:Nat}{xs:List (List Value)}(h:Z6 w v sz xs)(e:Ext X w w')(hx:∀b∈X,w.heap.size<=b): Z6 w' v sz xs:=by
 obtain⟨a,cap,hv,hl,hc⟩:=h;refine⟨a,cap,hv,hl,λhne=>?_⟩;obtain⟨b,off,ha,hb,hcell⟩:=hc hne;refine⟨b,off,ha,Y8 hb e.size,λi j x hi hj=>?_⟩;rw[e.cell (a:=⟨b,off+i*sz+j,none⟩) hb (λhm=>by have:=hx b hm;omega)];exact hcell i j x hi hj
theorem Z6.range{w:World}{v:Value}{sz:Nat}{xs:List (List Value)}(h:Z6 w v sz xs){a:Option Addr}{n cap:Nat}(hv:v = .slice a n cap)(hne:xs≠[]):
  ∃b off,a=some ⟨b,off,none⟩/\b<w.heap.size/\∀i x,xs[i]?=some x->w.rangeAt b (off+i*sz) x:=by
 obtain⟨a',cap',hv',hl,hc⟩:=h;rw[hv']at hv;cases hv;obtain⟨b,off,ha,hb,hcell⟩:=hc hne;refine⟨b,off,ha,hb,λi x hi j u hu=>?_⟩;have hj:j<sz:=by
  have hx:=hl x (List.mem_of_getElem? hi);rw[<-hx];exact(List.getElem?_eq_some_iff.1 hu).1
 rw[hcell i j x hi hj];exact hu
variable{μ:Nat}
theorem Z0m{w w2:World}{o:Obj}{b:Nat}(e:w2=w.alloc o)(h:b=w.heap.size): w2.heap[b]?=some o:=by rw[e];exact Z6M h
theorem Z5i{w w2:World}{cs:Array Value}{T:TypeId}{b:Nat}(e:w2=w.alloc (.cells (Value.agg cs).cells T))(h:b=w.heap.size): w2.heap[b]?=some (.cells cs T (0,0)):=by rw[e];exact Z6M h
theorem Z7x{w w2:World}{v:Value}{T:TypeId}{b:Nat}(e:w2=w.alloc (.cells v.cells T))(h1:v.oneCell'=true)(h:b=w.heap.size): w2.heap[b]?=some (.cells #[v] T (0,0)):=by rw[e,Z8h h1];exact Z6M h
theorem get0{a:Value}{l:List Value}: (a::l).toArray[0]?=some a:=by simp
theorem getS{a v:Value}{l:List Value}{k:Nat}(h:l.toArray[k]?=some v): (a::l).toArray[k+1]?=some v:=by simpa using h
theorem mid0{C:Array Value}{o:Nat}: ∀j,j<0->C[o+j]?=([]:List Value)[j]?:=λj h=>absurd h oM
theorem midS{C:Array Value}{o n:Nat}{x:Value}{cs:List Value}(h:C[o]?=some x)(k:∀j,j<n->C[o+1+j]?=cs[j]?): ∀j,j<n+1->C[o+j]?=(x::cs)[j]?:=λj hj=>by
 cases j with
 | zero=>simpa using h
 | succ j=>have:=k j oM;rw[show o+(j+1)=o+1+j by omega,this];simp
theorem Zf{w w2:World}{o o':Obj}{b:Nat}(e:w2=w.alloc o)(h:w.heap[b]?=some o'): w2.heap[b]?=some o':=by rw[e];exact Zim h
theorem Zv{X:List Nat}{a w w2:World}{o:Obj}(h:Ext X a w)(e:w2=w.alloc o): Ext X a w2:=by rw[e];exact h.alloc o
theorem Z2K{w w2:World}{b c:Nat}{o:Nat}{l:List Value}{x:Obj}(e:w2=w.setCells c o l)(h:w.heap[b]?=some x)(hb:b≠c): w2.heap[b]?=some x:=by
 rw[e,Z1p _ _ _ _ _ hb,h]
theorem Z7C{w w2:World}{b:Nat}{T:TypeId}{cs old:Array Value}(e:w2=w.setCells b 0 cs.toList)(h:w.heap[b]?=some (.cells old T (0,0)))(hs:old.size=cs.size): w2.heap[b]?=some (.cells cs T (0,0)):=by
 rw[e];exact Z94 h hs
theorem Z8u{X:List Nat}{a w w2:World}{c:Nat}{o:Nat}{l:List Value}(h:Ext X a w)(e:w2=w.setCells c o l)(hp:c<a.heap.size->c∈X): Ext X a w2:=by rw[e];exact h.setCells hp _ _
theorem Z2g{w w2:World}{b c o:Nat}{v:Value}{x:Obj}(e:w2=w.setCell ⟨c,o,none⟩ v)(h:w.heap[b]?=some x)(hb:b≠c): w2.heap[b]?=some x:=ZfT e h hb
theorem kce{w w2:World}{b c o:Nat}{v:Value}{x:Obj}(e:w2=w.setCell ⟨c,o,none⟩ v)(h:w.heap[b]?=some x)(hb:b≠c:=by omega): w2.heap[b]?=some x:=Z2g e h hb
theorem ZU{w w2:World}{b o:Nat}{T:TypeId}{cs cs':Array Value}{v:Value}(e:w2=w.setCell ⟨b,o,none⟩ v)(h:w.heap[b]?=some (.cells cs T (0,0)))(hc:cs.setIfInBounds o v=cs'): w2.heap[b]?=some (.cells cs' T (0,0)):=by
 subst hc;rw[e];have:=Z8 h;simp[World.setCell,Array.getElem?_modify,h]
theorem Z7a{X:List Nat}{a w w2:World}{c o:Nat}{v:Value}(h:Ext X a w)(e:w2=w.setCell ⟨c,o,none⟩ v)(hp:c<a.heap.size->c∈X): Ext X a w2:=by rw[e];exact h.setCell hp _
theorem ece{X:List Nat}{a w w2:World}{c o:Nat}{v:Value}(h:Ext X a w)(e:w2=w.setCell ⟨c,o,none⟩ v)(hp:c<a.heap.size->c∈X:=by intro h;first | omega | simp): Ext X a w2:=Z7a h e hp
theorem Z7c{X:List Nat}{a w w2:World}(h:Ext X a w)(e:Ext [] w w2): Ext X a w2:=h.nil e
theorem Z6i{w:World}{b off n:Nat}{cs:List Value}{C:Array Value}{T:TypeId}{fz:Nat×Nat}(H:w.heap[b]?=some (.cells C T fz))(hn:cs.length=n)(h:∀j,j<n->C[off+j]?=cs[j]?): w.rangeAt b off cs:=λj v hv=>by
 rw[Z3 H,h j (by have:=(List.getElem?_eq_some_iff.1 hv).1;omega),hv]
section
variable{P:Program}{ρ:Operand->Value}{o:Oper}{w:World}
theorem Z28{x:Operand}{t:TypeId}{b:Nat}{cs:Array Value}{T:TypeId}{fz:Nat×Nat}{d:TypeDesc}(ho:o.op = .load t x)(hx:ρ x = .pointer (some ⟨b,0,none⟩))(hd:P.underlying t=some d)(ha:d.isRow=true)(hi:(P.info? t).map (·.size)=some cs.size)(H:w.heap[b]?=some (.cells cs T fz)):
  (execOp ρ o).run P w = .ok (.value (.agg cs)) w:=by
 have:=Z8b (w:=w) (cs:=cs.toList) ho hx hd ha (by simpa using hi) (Z5P (T:=T) (fz:=fz) (by simpa using H));simpa using this
theorem Z0p{x:Operand}{t:TypeId}{f b off sz n:Nat}{fs:Array Go.Field}{fd:Go.Field}(ho:o.op = .fieldAddr t x f)(hx:ρ x = .pointer (some ⟨b,off,none⟩))(hu:P.underlying t=some (.struct fs))(hf:fs[f]?=some fd)(hn:off+fd.offset=n)(hs:(P.info? fd.type).map (·.size)=some sz)(h0:sz≠0):
  (execOp ρ o).run P w = .ok (.value (.pointer (some ⟨b,n,none⟩))) w:=by
 subst hn;exact Z9f ho hx hu hf rfl hs h0
theorem Zcu{x:Operand}{k:Nat}{vs:Array Value}{v:Value}(ho:o.op = .extract x k)(hx:ρ x = .tuple vs)(hv:vs[k]?=some v): (execOp ρ o).run P w = .ok (.value v) w:=by
 unfold execOp;simp[ho,hx,Instr.extract,hv,Sem.run,go_sem]
theorem Zhl{c x y:Operand}{b:Bool}{v:Value}(ho:o.op = .pick c x y)(hc:ρ c = .bool b)(hv:(if b then ρ x else ρ y)=v): (execOp ρ o).run P w = .ok (.value v) w:=by
 unfold execOp;cases b<;>simp_all [go_sem,asBool]
theorem Zff{t:TypeId}{parts:Array (Nat×Operand)}{cells:Array Value}(ho:o.op = .build t parts)(h:P.built t (parts.map λ(i,x)=>(i,ρ x)).toList=some cells): (execOp ρ o).run P w = .ok (.value (.agg cells)) w:=by
 unfold execOp;simp[ho,run_build w t _ cells h]
theorem Zfd{x y:Operand}{t t':TypeId}{k:IntKind}{n m:Int}(ho:o.op = .binOp .andNot t x y t')(hx:ρ x = .int k n)(hy:ρ y = .int k m): (execOp ρ o).run P w = .ok (.value (.int k (bits .andNot k n m))) w:=by
 unfold execOp;simp[ho,hx,hy,binOp,Op.intBits,go_sem];rfl
theorem Z5U{fn:Fn}{first cap:Array Operand}{us vs:Array Value}(ho:o.op = .makeFunc fn first cap)(h1:first.map ρ=us)(h2:cap.map ρ=vs): (execOp ρ o).run P w = .ok (.value (.func fn us vs)) w:=by
 subst h1 h2;unfold execOp;simp[ho,Instr.makeFunc,go_sem]
theorem Z88{t e:TypeId}{n size:Nat}{parts:Array (Nat×Operand)}{z:Value}{cells:Array Value}(ho:o.op = .buildSlice t n parts)(hu:P.underlying t=some (.slice e))(hs:(P.info? e).map (·.size)=some size)(hn:n*size<=2 ^ 24)(hn0:n*size≠0)(hz:∀w,(zeroValue e).run P w = .ok z w)(hf:Instr.fill (λi=>some (i*size,size)) ((Array.range (n*size)).map (z.cells[· % z.cells.size]!)) (parts.map λ(i,x)=>(i,ρ x)).toList=some cells):
  (execOp ρ o).run P w = .ok (.value (.slice (some ⟨w.heap.size,0,none⟩) n n)) (w.alloc (.cells cells e)):=by
 unfold execOp;cases hq:P.info? e with
 | none=>simp[hq]at hs
 | some i =>
  have hs':i.size=size:=by simpa[hq] using hs
  subst hs';have hn':¬(2 ^ 24<n*i.size):=by omega
  simp[Value.cells]at hf;simp[ho,Instr.buildSlice,run_underlying hu,sizeOf,typeInfo,hq,hn',hn0,hz,newRow,newObj,go_sem,hf];rfl
theorem Zi7{x ix:Operand}{t e:TypeId}{k:IntKind}{i:Int}{n:Nat}{cs:Array Value}{v:Value}(ho:o.op = .index t x ix)(hx:ρ x = .agg cs)(hi:ρ ix = .int k i)(hu:P.underlying t=some (.array n e))(hs:(P.info? e).map (·.size)=some 1){d:TypeDesc}(hd:P.underlying e=some d)(ha:d.isRow=false)(h0:0<=i)(h1:i<n)(hv:cs[i.toNat]?=some v):
  (execOp ρ o).run P w = .ok (.value v) w:=by
 unfold execOp;cases hq:P.info? e with
 | none=>simp[hq]at hs
 | some j =>
  have hs':j.size=1:=by simpa[hq] using hs
  cases d<;>first | (simp[TypeDesc.isRow]at ha;done) | simp[ho,hx,hi,Instr.index,asIntOf,run_underlying hu,sizeOf,typeInfo,hq,hs',h0,h1,part,isAgg,run_underlying hd,hv,go_sem]
end
variable{μ:Nat}
section
variable{P:Program}{fn:Func}{tmps:Array Value}{w:World}
theorem ZbI{ty:TypeId}{b:Nat}{cs:Array Value}{T:TypeId}{d:TypeDesc}{fz:Nat×Nat}(hd:P.underlying ty=some d)(ha:d.isRow=true)(hi:(P.info? ty).map (·.size)=some cs.size)(H:w.heap[b]?=some (.cells cs T fz)): (loadVar ty ⟨b,0,none⟩).run P w = .ok (.agg cs) w:=by
 have hc:w.rangeAt b 0 cs.toList:=λj v hv=>by
  rw[Nat.zero_add,Z3 H];simpa using hv
 simpa using run_loadVar_mid (P:=P) w b 0 ty cs.toList d hc hd ha (by simpa using hi)
end
def Z4(x:Int):List Value:=[.int .i64 x]
variable{μ:Nat}
theorem Z3I{w w':World}{base:Nat}{e:TypeId}{size:Nat}{v:Value}{n:Nat}{xs:List Value}(h:w.ownsRow base e size v n xs)(k:∀(g:Nat) (o:Obj),base<=g->w.heap[g]?=some o->w'.heap[g]?=some o): w'.ownsRow base e size v n xs:=by
 refine⟨h.1,?_⟩;rcases h.2 with h | ⟨g,cap,cur,h1,h2,h3,h4⟩
 ·exact .inl h
 ·exact .inr ⟨g,cap,cur,h1,h2,k g _ h2 h3,h4⟩
theorem ZG{X:List Nat}{w w':World}{base:Nat}{e:TypeId}{size:Nat}{v:Value}{n:Nat}{xs:List Value}(h:w.ownsRow base e size v n xs)(E:Ext X w w')(hx:∀b∈X,b<base): w'.ownsRow base e size v n xs:=
 Z3I h λg o hg ho=>E.keep ho λhm=>by have:=hx g hm;omega
theorem Z6f{w w2:World}{c o:Nat}{l:List Value}{base:Nat}{e:TypeId}{size:Nat}{v:Value}{n:Nat}{xs:List Value}(hw:w2=w.setCells c o l)(h:w.ownsRow base e size v n xs)(hb:c<base): w2.ownsRow base e size v n xs:=
 Z3I h λg x hg ho=>Z2K hw ho oM
theorem Z8L{w w2:World}{c o:Nat}{u:Value}{base:Nat}{e:TypeId}{size:Nat}{v:Value}{n:Nat}{xs:List Value}(hw:w2=w.setCell ⟨c,o,none⟩ u)(h:w.ownsRow base e size v n xs)(hb:c<base): w2.ownsRow base e size v n xs:=
 Z3I h λg x hg ho=>Z2g hw ho oM
theorem Z0S{w w2:World}{ob:Obj}{base:Nat}{e:TypeId}{size:Nat}{v:Value}{n:Nat}{xs:List Value}(hw:w2=w.alloc ob)(h:w.ownsRow base e size v n xs): w2.ownsRow base e size v n xs:=
 Z3I h λg x hg ho=>Zf hw ho
theorem Z9B{w w':World}{base:Nat}{e:TypeId}{size:Nat}{v:Value}{n:Nat}{xs:List Value}{b:Nat}{o:Obj}(h:w.ownsRow base e size v n xs)(hg:w.grownBy w' v.ownBlock)(q:w.heap[b]?=some o)(hb:b<base): w'.heap[b]?=some o:=by
 rw[hg.block b (Z8 q) λhk=>by have:=h.lt b hk.symm;omega,q]
theorem Zw{α:Type}{w:World}{base:Nat}{e:TypeId}{sz:Nat}{v:Value}{xs:List α}{row:α->List Value}(h:w.ownsRow base e sz v xs.length ((xs.map row).flatten))(hr:∀x,(row x).length=sz): Z6 w v sz (xs.map row):=by
 have flat:∀(ys:List α) (i j:Nat) (x:List Value),(ys.map row)[i]?=some x->j<sz->(ys.map row).flatten[i*sz+j]?=x[j]?:=by
  intro ys
  induction ys with
  | nil=>intro i j x hi;simp at hi
  | cons y ys ih =>
   intro i j x hi hj;simp only[List.map_cons,List.flatten_cons];cases i with
   | zero =>
    simp at hi;subst hi;rw[List.getElem?_append_left (by rw[hr];omega)];simp
   | succ i =>
    rw[List.getElem?_append_right (by rw[hr,Nat.add_mul];omega),hr,show (i+1)*sz+j-sz=i*sz+j by rw[Nat.add_mul];omega];exact ih i j x (by simpa using hi) hj
 rcases h.2 with⟨hv,hn⟩ | ⟨g,cap,cur,hv,hb,hg,h1,h2,h3,h4⟩
 ·obtain rfl:xs=[]:=List.length_eq_zero_iff.1 hn;exact⟨none,0,by simpa using hv,sU,λh=>absurd rfl h⟩
 ·refine⟨some ⟨g,0,none⟩,cap,by simpa using hv,λx hx=>?_,λ_=>⟨g,0,rfl,Z8 hg,λi j x hi hj=>?_⟩⟩
  ·obtain⟨y,-,rfl⟩:=List.mem_map.1 hx;exact hr y
  ·have hf:=flat xs i j x hi hj;rw[Z3 hg,<-hf,<-h4,Nat.zero_add,List.getElem?_take,if_pos,Array.getElem?_toList];have hil:i<xs.length:=by have:=(List.getElem?_eq_some_iff.1 hi).1;simpa using this
   calc i*sz+j<i*sz+sz:=by omega
    _=(i+1)*sz:=by rw[Nat.add_mul];omega
    _<=xs.length*sz:=Nat.mul_le_mul_right _ hil
theorem Zm{w:World}{base:Nat}{e:TypeId}{sz:Nat}{v:Value}{n:Nat}{xs:List Value}(h:w.ownsRow base e sz v n xs): ∃a cap,v = .slice a n cap:=by
 rcases h.2 with⟨hv,hn⟩ | ⟨g,cap,cur,hv,-⟩
 ·subst hn;exact⟨none,0,hv⟩
 ·exact⟨_,_,hv⟩
variable{μ:Nat}
theorem Z5{α:Type}{l:List α}{i:Nat}(d:α)(h:i<l.length): l.getD i d∈l:=by
 rw[Y7,List.getElem?_eq_getElem h];exact List.getElem_mem h
variable{μ:Nat}
theorem Zgu(w:World)(cap sz:Nat):Z6 w (.slice none 0 cap) sz []:=⟨none,cap,rfl,sU,λh=>absurd rfl h⟩
theorem ZN{w:World}{b:Nat}{T:TypeId}{fz:Nat×Nat}(xs:List Int)(cap:Nat)(h:w.heap[b]?=some (.cells (xs.map (Value.int .i64)).toArray T fz)): Z6 w (.slice (some ⟨b,0,none⟩) xs.length cap) 1 (xs.map Z4):=by
 refine⟨some ⟨b,0,none⟩,cap,sU,by simp[Z4],λ_=>⟨b,0,rfl,Z8 h,λi j x hi hj=>?_⟩⟩;obtain rfl:j=0:=by omega
 rw[Z3 h];simp only[Yn,Y3]at hi;obtain⟨y,hy,rfl⟩:=hi;simp[hy,Z4]
variable{μ:Nat}
def Zi(w0 w:World)(b k:Nat)(nv:Value):Prop:=
 w0.heap.size<=b/\(∃(a:Option Addr) (c:Nat) (xs:List Int),nv = .slice a xs.length c/\Z6 w0 nv 1 (xs.map Z4))/\Ext [b] w0 w /\
 ∃d st:Int,w.heap[b]?=some (.cells #[nv,.int .i64 d,.int .u64 st] 77 (0,0))/\0<=d/\d<=k/\0<=st/\st<18446744073709551616
theorem Zj{w0 w:World}{b k k':Nat}{nv:Value}(h:Zi w0 w b k nv)(hk:k<=k'): Zi w0 w b k' nv:=by
 obtain⟨h1,h2,h3,d,st,h4,h5,h6,h7⟩:=h;exact⟨h1,h2,h3,d,st,h4,h5,oM,h7⟩
theorem ZbJ{w0 w w2:World}{b k:Nat}{nv:Value}{o:Obj}(e:w2=w.alloc o)(h:Zi w0 w b k nv): Zi w0 w2 b k nv:=by
 obtain⟨h1,h2,h3,d,st,h4,h5⟩:=h;exact⟨h1,h2,Zv h3 e,d,st,Zf e h4,h5⟩
theorem ZbK{w0 w w2:World}{b k c o:Nat}{nv:Value}{l:List Value}(e:w2=w.setCells c o l)(h:Zi w0 w b k nv)(hc:w0.heap.size<=c)(hb:b≠c): Zi w0 w2 b k nv:=by
 obtain⟨h1,h2,h3,d,st,h4,h5⟩:=h;exact⟨h1,h2,Z8u h3 e (λh=>absurd h oM),d,st,Z2K e h4 hb,h5⟩
theorem ZdV{w0 w w2:World}{b k c o:Nat}{nv v:Value}(e:w2=w.setCell ⟨c,o,none⟩ v)(h:Zi w0 w b k nv)(hc:w0.heap.size<=c)(hb:b≠c): Zi w0 w2 b k nv:=by
 obtain⟨h1,h2,h3,d,st,h4,h5⟩:=h;exact⟨h1,h2,Z7a h3 e (λh=>absurd h oM),d,st,Z2g e h4 hb,h5⟩
theorem ZaS{w0 w w2:World}{b k:Nat}{nv:Value}(e:Ext [] w w2)(h:Zi w0 w b k nv): Zi w0 w2 b k nv:=by
 obtain⟨h1,h2,h3,d,st,h4,h5⟩:=h;exact⟨h1,h2,h3.nil e,d,st,e.keep0 h4,h5⟩
theorem Z4T(x:Int):0<=IntKind.u64.wrap x/\IntKind.u64.wrap x<18446744073709551616:=by
 simp only[IntKind.wrap,IntKind.bits,IntKind.signed];simp;omega
theorem Zf9(x y:Int)(h1:0<=x/\x<18446744073709551616)(h2:0<=y/\y<18446744073709551616):0<=bits .xor .u64 x y/\bits .xor .u64 x y<18446744073709551616:=by
 rw[u64_xor x y h1.1 h1.2 h2.1 h2.2];have:=Nat.xor_lt_two_pow (n:=64) (x:=x.toNat) (y:=y.toNat) oM oM;omega
theorem ZaF(x:Int)(n:Nat)(h:0<=x):0<=x.fdiv (2 ^ n)/\x.fdiv (2 ^ n)<=x:=by
 have hp:(0:Int)<2 ^ n:=Int.pow_pos dC;rw[Int.fdiv_eq_ediv_of_nonneg _ (Int.le_of_lt hp)];exact⟨Int.ediv_nonneg h (Int.le_of_lt hp),Int.ediv_le_self _ h⟩
section
variable{P:Program}{ρ:Operand->Value}{o:Oper}{w:World}
theorem Z4W{x y:Operand}{t t':TypeId}{k:IntKind}{n m:Int}(ho:o.op = .binOp .add t x y t')(hx:ρ x = .int k n)(hy:ρ y = .int k m): (execOp ρ o).run P w = .ok (.value (.int k (k.wrap (n+m)))) w:=by
 unfold execOp;simp[ho,hx,hy,binOp,Op.intArith,eqGuard,go_sem]
theorem Zal{x y:Operand}{t t':TypeId}{k:IntKind}{n m:Int}(ho:o.op = .binOp .mul t x y t')(hx:ρ x = .int k n)(hy:ρ y = .int k m): (execOp ρ o).run P w = .ok (.value (.int k (k.wrap (n*m)))) w:=by
 unfold execOp;simp[ho,hx,hy,binOp,Op.intArith,eqGuard,go_sem]
theorem Zfi{x y:Operand}{t t':TypeId}{k:IntKind}{n m:Int}(ho:o.op = .binOp .xor t x y t')(hx:ρ x = .int k n)(hy:ρ y = .int k m): (execOp ρ o).run P w = .ok (.value (.int k (bits .xor k n m))) w:=by
 unfold execOp;simp[ho,hx,hy,binOp,Op.intBits,eqGuard,go_sem];rfl
theorem Z9g{x y:Operand}{t t':TypeId}{k k':IntKind}{n:Int}{m:Nat}(ho:o.op = .binOp .shr t x y t')(hx:ρ x = .int k n)(hy:ρ y = .int k' m): (execOp ρ o).run P w = .ok (.value (.int k (n.fdiv (2 ^ min m k.bits)))) w:=by
 unfold execOp;have hm:¬((m:Int)<0):=by omega
 simp[ho,hx,hy,binOp,Op.shift,eqGuard,hm,go_sem]
theorem Zkg{x y:Operand}{t t':TypeId}{k:IntKind}{n m:Int}(ho:o.op = .binOp .rem t x y t')(hx:ρ x = .int k n)(hy:ρ y = .int k m)(hm:m≠0): (execOp ρ o).run P w = .ok (.value (.int k (n.tmod m))) w:=by
 unfold execOp;simp[ho,hx,hy,binOp,Op.intDiv,eqGuard,hm,go_sem]
theorem Z3l{x:Operand}{t t':TypeId}{k k':IntKind}{n:Int}(ho:o.op = .convert t t' x)(hx:ρ x = .int k n)(hu:P.underlying t=some (.int k))(hu':P.underlying t'=some (.int k')): (execOp ρ o).run P w = .ok (.value (.int k' (k'.wrap n))) w:=by
 unfold execOp;simp[ho,hx,convert,Conv.intToInt,run_underlying hu,run_underlying hu',go_sem]
end
theorem shr8{z:Int}(h:0<=z/\z<18446744073709551616): 0<=z.fdiv (2 ^ min 8 IntKind.u64.bits)/\z.fdiv (2 ^ min 8 IntKind.u64.bits)<72057594037927936:=by
 rw[show (2:Int) ^ min 8 IntKind.u64.bits=256 from rfl,Int.fdiv_eq_ediv_of_nonneg _ dC];omega
theorem Zh8{v n:Int}(h1:0<=v/\v<72057594037927936)(h2:1<=n/\n<=1000000): IntKind.u64.wrap (n+1)=n+1/\IntKind.i64.wrap (v.tmod (n+1))=v.tmod (n+1)/\0<=v.tmod (n+1)/\v.tmod (n+1)<=n:=by
 have h3:0<=v.tmod (n+1):=Int.tmod_nonneg _ h1.1;have h4:v.tmod (n+1)<n+1:=Int.tmod_lt_of_pos _ oM;refine⟨?_,IntWalk.i64_in _ oM,h3,oM⟩;simp only[IntKind.wrap,IntKind.bits,IntKind.signed];simp;omega
variable{μ:Nat}
theorem Z4J{α:Type}{row:α->List Value}{sz:Nat}(hr:∀x,(row x).length=sz):∀(ys:List α) (i j:Nat) (x:List Value),(ys.map row)[i]?=some x->j<sz->(ys.map row).flatten[i*sz+j]?=x[j]?
 | [],i,j,x,hi,hj=>by simp at hi
 | y::ys,i,j,x,hi,hj=>by
  simp only[List.map_cons,List.flatten_cons];cases i with
  | zero =>
   simp at hi;subst hi;rw[List.getElem?_append_left (by rw[hr];omega)];simp
  | succ i =>
   rw[List.getElem?_append_right (by rw[hr,Nat.add_mul];omega),hr,show (i+1)*sz+j-sz=i*sz+j by rw[Nat.add_mul];omega];exact Z4J hr ys i j x (by simpa using hi) hj
theorem Z7g{α:Type}{row:α->List Value}{sz:Nat}(hr:∀x,(row x).length=sz):∀ys:List α,((ys.map row).flatten).length=ys.length*sz
 | []=>by simp
 | y::ys=>by simp only[List.map_cons,List.flatten_cons,Ym,hr,Z7g hr ys,List.length_cons,Nat.add_mul];omega
theorem Zet{α:Type}{w:World}{a:Option Addr}{n cap sz:Nat}{row:α->List Value}{xs:List α}(h0:0<sz)(hr:∀x,(row x).length=sz)(h:Z6 w (.slice a n cap) sz (xs.map row)): ∀a0,a=some a0->∀(j:Nat) (v:Value),((xs.map row).flatten)[j]?=some v->w.cell? (a0.add j)=some v:=by
 intro a0 ha j v hv;have hj:j<xs.length*sz:=by rw[<-Z7g hr];exact(List.getElem?_eq_some_iff.1 hv).1
 have hi:j / sz<xs.length:=Nat.div_lt_of_lt_mul (by rw[Nat.mul_comm];exact hj);have hjj:j / sz*sz+j % sz=j:=by rw[Nat.mul_comm];exact Nat.div_add_mod j sz
 obtain⟨a',cap',hv',hl,hc⟩:=h;cases hv';have hne:xs.map row≠[]:=by
  intro e;have:=congrArg List.length e;simp at this;rw[this]at hi;simp at hi
 obtain⟨b,off,hb,hlt,hcell⟩:=hc hne;rw[hb]at ha;cases ha;have hx:(xs.map row)[j / sz]?=some (row (xs[j / sz])):=by simp[hi]
 have h1:=Z4J hr xs (j / sz) (j % sz) _ hx (Nat.mod_lt _ h0);rw[hjj,hv]at h1;have h2:=hcell (j / sz) (j % sz) _ hx (Nat.mod_lt _ h0);rw[Addr.add_lit,show off+j=off+j / sz*sz+j % sz by omega,h2,<-h1]
variable{μ:Nat}
theorem Z0r{w:World}{base size n k:Nat}{e T:TypeId}{v:Value}{xs:List Value}{cs:Array Value}{fz:Nat×Nat}(ho:w.ownsRow base e size v n xs)(h:w.heap[k]?=some (.cells cs T fz))(hT:T≠e): some k≠v.ownBlock:=by
 intro hk;rcases ho.2 with⟨hv,-⟩ | ⟨g,cap,cur,hv,-,hg,-⟩
 ·rw[hv]at hk;cases hk
 ·rw[hv]at hk;have hkg:k=g:=by cases hk;rfl
  subst hkg;rw[hg]at h;cases h;exact hT rfl
variable{μ:Nat}
theorem Z0l{w0 w:World}{b k:Nat}{nv:Value}(h:Zi w0 w b k nv): b<w.heap.size:=by
 obtain⟨-,-,-,d,st,h,-⟩:=h;exact Z8 h
theorem Z3z{w w':World}{base n size b:Nat}{e T:TypeId}{v:Value}{xs:List Value}{cs:Array Value}{fz:Nat×Nat}(ho:w.ownsRow base e size v n xs)(hg:w.grownBy w' v.ownBlock)(q:w.heap[b]?=some (.cells cs T fz))(hT:T≠e): w'.heap[b]?=some (.cells cs T fz):=
 (hg.block b (Z8 q) (Z0r ho q hT)).trans q
theorem Z6h{w w':World}{base n size base2 n2 size2:Nat}{e e2:TypeId}{v v2:Value}{xs xs2:List Value}(h2:w.ownsRow base2 e2 size2 v2 n2 xs2)(ho:w.ownsRow base e size v n xs)(hg:w.grownBy w' v.ownBlock)(hT:e2≠e): w'.ownsRow base2 e2 size2 v2 n2 xs2:=by
 refine⟨h2.1,?_⟩;rcases h2.2 with h | ⟨g,cap,cur,h1,hb,h3,h4⟩
 ·exact .inl h
 ·exact .inr ⟨g,cap,cur,h1,hb,Z3z ho hg h3 hT,h4⟩
theorem Z1S{X:List Nat}{w0 w w':World}{base:Nat}{e:TypeId}{size:Nat}{v:Value}{n:Nat}{xs:List Value}(E:Ext X w0 w)(h:w.ownsRow base e size v n xs)(hg:w.grownBy w' v.ownBlock)(hb:w0.heap.size<=base): Ext X w0 w':=
 ⟨hg.os.trans E.os,hg.tape.trans E.tape,hg.output.trans E.output,Yd E.size hg.size,λk hk hx=>(hg.block k (Y8 hk E.size) (λe=>by have:=h.lt k e.symm;omega)).trans (E.block k hk hx)⟩
theorem Z9J{w0 w w':World}{b k:Nat}{nv:Value}{base:Nat}{e:TypeId}{size:Nat}{v:Value}{n:Nat}{xs:List Value}(HL:Zi w0 w b k nv)(h:w.ownsRow base e size v n xs)(hg:w.grownBy w' v.ownBlock)(hb:w0.heap.size<=base)(hT:77≠e): Zi w0 w' b k nv:=by
 obtain⟨h1,h2,h3,d,st,h4,h5⟩:=HL;exact⟨h1,h2,Z1S h3 h hg hb,d,st,Z3z h hg h4 hT,h5⟩
theorem own_lt{w:World}{base n size k:Nat}{e:TypeId}{v:Value}{xs:List Value}(ho:w.ownsRow base e size v n xs)(hk:some k=v.ownBlock): k<w.heap.size:=by
 rcases ho.2 with⟨hv,-⟩ | ⟨g,cap,cur,hv,-,hg,-⟩
 ·rw[hv]at hk;cases hk
 ·rw[hv]at hk;cases hk;exact Z8 hg
theorem Z1C{w:World}{base n size k:Nat}{e:TypeId}{v:Value}{xs:List Value}(ho:w.ownsRow base e size v n xs)(hk:k=w.heap.size): some k≠v.ownBlock:=λh=>by
 have:=own_lt ho h;omega
theorem Z6g{w w':World}{base:Nat}{e:TypeId}{size:Nat}{v:Value}{n:Nat}{xs:List Value}(h:w.ownsRow base e size v n xs)(k:∀(g:Nat) (o:Obj),some g=v.ownBlock->w.heap[g]?=some o->w'.heap[g]?=some o): w'.ownsRow base e size v n xs:=by
 refine⟨h.1,?_⟩;rcases h.2 with h | ⟨g,cap,cur,h1,h2,h3,h4⟩
 ·exact .inl h
 ·exact .inr ⟨g,cap,cur,h1,h2,k g _ (by rw[h1];rfl) h3,h4⟩
theorem Z3c{w w2:World}{c o:Nat}{l:List Value}{base:Nat}{e:TypeId}{size:Nat}{v:Value}{n:Nat}{xs:List Value}(hw:w2=w.setCells c o l)(h:w.ownsRow base e size v n xs)(hb:some c≠v.ownBlock): w2.ownsRow base e size v n xs:=
 Z6g h λg x hg ho=>Z2K hw ho (λe=>hb (by rw[<-e];exact hg))
theorem Z2M{w w2:World}{c o:Nat}{u:Value}{base:Nat}{e:TypeId}{size:Nat}{v:Value}{n:Nat}{xs:List Value}(hw:w2=w.setCell ⟨c,o,none⟩ u)(h:w.ownsRow base e size v n xs)(hb:some c≠v.ownBlock): w2.ownsRow base e size v n xs:=
 Z6g h λg x hg ho=>Z2g hw ho (λe=>hb (by rw[<-e];exact hg))
theorem Z1Y{w w2:World}{b o:Nat}{T:TypeId}{cs cs':Array Value}{x y:Value}(e:w2=w.setCells b o [x,y])(h:w.heap[b]?=some (.cells cs T (0,0)))(hc:(cs.setIfInBounds o x).setIfInBounds (o+1) y=cs'): w2.heap[b]?=some (.cells cs' T (0,0)):=by
 subst hc;have h1:=ZU (w2:=w.setCell ⟨b,o,none⟩ x) rfl h rfl;have h2:=ZU (w2:=(w.setCell ⟨b,o,none⟩ x).setCell ⟨b,o+1,none⟩ y) rfl h1 rfl;rw[e];exact h2
theorem ZeZ{w:World}{b o n:Nat}{cs:Array Value}{T:TypeId}(H:w.heap[b]?=some (.cells cs T (0,0)))(h:o+n<=cs.size): w.there b o n:=λj hj=>by
 rw[Z3 H,Zg H];have:o+j<cs.size:=by omega
 simp[this]
section
variable{P:Program}{ρ:Operand->Value}{o:Oper}{w:World}
theorem Zbs{x y:Operand}{t:TypeId}{b off:Nat}{cs:Array Value}(ho:o.op = .store t x y)(hx:ρ x = .pointer (some ⟨b,off,none⟩))(hy:ρ y = .agg cs)(hi:(P.info? t).map (·.size)=some cs.size)(h1:cs.all (·.oneCell')=true){old:Array Value}{T:TypeId}(H:w.heap[b]?=some (.cells old T (0,0)))(hs:off+cs.size<=old.size):
  (execOp ρ o).run P w = .ok .skip (w.setCells b off cs.toList):=by
 unfold execOp;simp only[ho,hx,hy,Instr.storeAt,Instr.sureAddr,Sem.run_bind,Sem.run_pure,Result.andThen_ok,run_storeVar_mid w b off t cs (ZeZ H hs) hi h1]
end
variable{μ:Nat}
section
variable{P:Program}{ρ:Operand->Value}{o:Oper}{w:World}
theorem Zhj{x y:Operand}{t t':TypeId}{k:IntKind}{n m:Int}{b:Bool}(ho:o.op = .binOp .lss t x y t')(hx:ρ x = .int k n)(hy:ρ y = .int k m)(hb:decide (n<m)=b): (execOp ρ o).run P w = .ok (.value (.bool b)) w:=hb▸Zcx ho hx hy
theorem Zhi{x y:Operand}{t t':TypeId}{k:IntKind}{n m:Int}{b:Bool}(ho:o.op = .binOp .leq t x y t')(hx:ρ x = .int k n)(hy:ρ y = .int k m)(hb:decide (n<=m)=b): (execOp ρ o).run P w = .ok (.value (.bool b)) w:=hb▸Zkd ho hx hy
theorem Zhh{x y:Operand}{t t':TypeId}{k:IntKind}{n m:Int}{b:Bool}(ho:o.op = .binOp .gtr t x y t')(hx:ρ x = .int k n)(hy:ρ y = .int k m)(hb:decide (m<n)=b): (execOp ρ o).run P w = .ok (.value (.bool b)) w:=hb▸Zkc ho hx hy
theorem Zhg{x y:Operand}{t t':TypeId}{k:IntKind}{n m:Int}{b:Bool}(ho:o.op = .binOp .geq t x y t')(hx:ρ x = .int k n)(hy:ρ y = .int k m)(hb:decide (m<=n)=b): (execOp ρ o).run P w = .ok (.value (.bool b)) w:=hb▸Zkb ho hx hy
theorem Zaj{x y:Operand}{t t':TypeId}{k:IntKind}{n m:Int}{b:Bool}(ho:o.op = .binOp .eql t x y t')(hx:ρ x = .int k n)(hy:ρ y = .int k m)(hb:decide (n=m)=b): (execOp ρ o).run P w = .ok (.value (.bool b)) w:=by
 rw[Zm3 ho hx hy,<-hb];congr 3
theorem Zhk{x y:Operand}{t t':TypeId}{k:IntKind}{n m:Int}{b:Bool}(ho:o.op = .binOp .neq t x y t')(hx:ρ x = .int k n)(hy:ρ y = .int k m)(hb:decide (n=m) = !b): (execOp ρ o).run P w = .ok (.value (.bool b)) w:=by
 rw[Zm8 ho hx hy];have:(n != m)=b:=by
  rw[show (n != m) = !decide (n=m) from rfl,hb,Bool.not_not]
 rw[this]
end
theorem ZT{w:World}{xs:Array Value}{o:Nat}{v:Value}(h:xs[o]?=some v): (part 3 xs o).run (Qy.prog μ) w = .ok v w:=by
 simp only[part,isAgg,Sem.run_bind,run_underlying Qy.underlying3,Result.andThen_ok,Sem.run_pure];simp[h]
variable{μ:Nat}
structure Has(N:Nat)(D:List Deferred)(a:Act)(L:List (Nat×Value)):Prop where
 ds:a.defers=D
 sz:a.tmps.size=N
 get:∀k v,L.lookup k=some v->a.tmps.getD k undef=v
theorem Has.at{N:Nat}{D:List Deferred}{a:Act}{L:List (Nat×Value)}(F:Has N D a L){k:Nat}{v:Value}(e:L.lookup k=some v): a.eval (.tmp k)=v:=F.get k v e
theorem Has.put{N:Nat}{D:List Deferred}{a:Act}{L:List (Nat×Value)}(F:Has N D a L){d:Nat}(hd:d<N)(v:Value):Has N D (a.put (some d) v) ((d,v)::L):=by
 refine⟨F.ds,by simp[Act.put,F.sz],λk u e=>?_⟩;simp only[List.lookup]at e;by_cases h:k=d
 ·subst h;simp only[beq_self_eq_true,Y4]at e;subst e;have hs:=F.sz;simp[Act.put,hs,hd]
 ·rw[show (k==d)=false by simpa using h]at e;have:=F.get k u e;simpa[Act.put,Yq (Ne.symm h)] using this
def Z4U(L:List (Nat×Value)):List (Nat×Value)->Prop
 | []=>True
 | p::R=>L.lookup p.1=some p.2/\Z4U L R
theorem Z4U.n{L:List (Nat×Value)}: Z4U L []:=trivial
theorem Z4U.c{L R:List (Nat×Value)}(k:Nat){v:Value}(h:L.lookup k=some v)(r:Z4U L R): Z4U L ((k,v)::R):=⟨h,r⟩
theorem Z4U.get{L:List (Nat×Value)}:∀{R:List (Nat×Value)},Z4U L R->∀k v,R.lookup k=some v->L.lookup k=some v
 | [],_,k,v,e=>by simp[List.lookup]at e
 | p::R,h,k,v,e=>by
  simp only[List.lookup]at e;split at e
  ·rename_i hk;obtain rfl:k=p.1:=by simpa using hk
   cases e;exact h.1
  ·exact h.2.get k v e
theorem Has.sub{N:Nat}{D:List Deferred}{a:Act}{L R:List (Nat×Value)}(F:Has N D a L)(h:Z4U L R): Has N D a R:=⟨F.ds,F.sz,λk v e=>F.get k v (h.get k v e)⟩
def argL:Nat->List Value->List (Nat×Value)
 | _,[]=>[]
 | i,v::vs=>(i,v)::argL (i+1) vs
theorem Z6H:∀(vs:List Value) (i k:Nat) (v:Value),(argL i vs).lookup k=some v->∃j,k=i+j/\vs[j]?=some v
 | [],i,k,v,e=>by simp[argL,List.lookup]at e
 | u::vs,i,k,v,e=>by
  simp only[argL,List.lookup]at e;split at e
  ·rename_i hk;cases e;exact⟨0,by simpa using hk,sU⟩
  ·obtain⟨j,h1,h2⟩:=Z6H vs (i+1) k v e;exact⟨j+1,oM,by simpa using h2⟩
theorem Z1t{P:Program}{f:FuncId}{fn:Func}{c:Code}{args:List Value}{w:World}{R:Ending->World->Prop}(N:Nat)(hf:P.funcs[f]?=some fn)(hb:fn.body=some c)(hN:fn.ntmps=N)(hle:args.length<=N)(h:∀a,Has N [] a (argL 0 args)->c.wp P (bodyPost P fn R) a w): Calls P f args.toArray w R:=by
 refine calls_of_wp hf hb (h _ ⟨rfl,by simp;omega,λk v e=>?_⟩);obtain⟨j,h1,h2⟩:=Z6H _ _ _ _ e;obtain rfl:k=j:=by omega
 have hj:=(List.getElem?_eq_some_iff.1 h2).1;simp only[Y6];rw[Array.getElem?_append_left (by simpa using hj)];simp[h2]
section
variable{P:Program}{ρ:Operand->Value}{o:Oper}{w:World}
theorem Zk8{f:FuncId}{args:Array Operand}{ts:Array TypeId}{vs:Array Value}(ho:o.op = .call {callee:=.value (.func f),args:=args,argTypes:=ts})(hf:ρ (.func f) = .func (.func f) #[] #[])(hc:∀args w,(callFunc f args).run P w = .ok (.enter f args) w)(ha:args.map ρ=vs): (execOp ρ o).run P w = .ok (.enter f vs) w:=by
 subst ha;unfold execOp;simp[ho,resolve,hf,invoke,hc,go_sem]
end
section
variable{P:Program}{ops:Array Oper}{Q:Exit->Act->World->Prop}{o:Oper}{rest:List Oper}{N:Nat}{D:List Deferred}{a:Act}{L:List (Nat×Value)}{w w':World}{v:Value}
theorem Zk1(F:Has N D a L){j s:Nat}{b:Bool}(hg:o.guard=some (j,b))(hj:(ops[j]?).bind (·.dst)=some s)(hs:s<N)(hl:L.lookup s=some (.bool b)): Region.wanted o (yielded ops a.tmps)=true:=by
 have h1:=F.get _ _ hl;have h2:a.tmps[s]?=some (.bool b):=by
  have hsz:=F.sz;rw[Y2 oM];rw[Y6,Y2 oM]at h1;simpa using h1
 unfold Region.wanted yielded;simp[hg,hj,h2]
theorem Zk0(F:Has N D a L){j s:Nat}{b c:Bool}(hg:o.guard=some (j,b))(hj:(ops[j]?).bind (·.dst)=some s)(hs:s<N)(hl:L.lookup s=some (.bool c))(hbc:(c==b)=false): Region.wanted o (yielded ops a.tmps)=false:=by
 have h1:=F.get _ _ hl;have h2:a.tmps[s]?=some (.bool c):=by
  have hsz:=F.sz;rw[Y2 oM];rw[Y6,Y2 oM]at h1;simpa using h1
 unfold Region.wanted yielded;simp[hg,hj,h2,hbc]
theorem Z5r(F:Has N D a L){d:Nat}(hd:o.dst=some d)(hN:d<N)(hw:Region.wanted o (yielded ops a.tmps)=true)(hr:(execOp a.eval o).run P w = .ok (.value v) w')(h:∀a2 w2,Has N D a2 ((d,v)::L)->w2=w'->wpList P ops Q rest a2 w2): wpList P ops Q (o::rest) a w:=by
 unfold wpList;simp only[hw,if_true,Oper.wp,hr,Oper.upon,hd];exact .inl (h _ _ (F.put hN v) rfl)
theorem Z6n(F:Has N D a L){d:Nat}(hd:o.dst=some d)(hN:d<N)(hw:Region.wanted o (yielded ops a.tmps)=true)(hr:(execOp a.eval o).run P w = .ok (.value v) w)(h:∀a2,Has N D a2 ((d,v)::L)->wpList P ops Q rest a2 w): wpList P ops Q (o::rest) a w:=
 Z5r F hd hN hw hr λa2 w2 F2 e=>by subst e;exact h a2 F2
theorem ZmV(F:Has N D a L){d:Nat}(hd:o.dst=some d)(hN:d<N)(hw:Region.wanted o (yielded ops a.tmps)=false)(h:∀a2,Has N D a2 ((d,undef)::L)->wpList P ops Q rest a2 w): wpList P ops Q (o::rest) a w:=by
 unfold wpList;simp only[hw,Bool.false_eq_true,if_false,hd];exact h _ (F.put hN undef)
theorem Z3S(hd:o.dst=none)(hw:Region.wanted o (yielded ops a.tmps)=true)(hr:(execOp a.eval o).run P w = .ok .skip w')(h:∀w2,w2=w'->wpList P ops Q rest a w2):wpList P ops Q (o::rest) a w:=by
 unfold wpList;simp only[hw,if_true,Oper.wp,hr,Oper.upon,hd,Act.put];exact .inl (h _ rfl)
theorem Za2(F:Has N D a L){d:Nat}{f:FuncId}{args:Array Value}{R:Ending->World->Prop}(hd:o.dst=some d)(hN:d<N)(hw:Region.wanted o (yielded ops a.tmps)=true)(hr:(execOp a.eval o).run P w = .ok (.enter f args) w)(hc:Calls P f args w R)(h:∀e w',R e w'->∃v,e = .returned v/\∀a2,Has N D a2 ((d,v)::L)->wpList P ops Q rest a2 w'): wpList P ops Q (o::rest) a w:=by
 unfold wpList;simp only[hw,if_true,Oper.wp,hr,Oper.upon];refine .inl (hc.mono λe w' hR=>?_);obtain⟨v,rfl,h1⟩:=h e w' hR;show wpList _ _ _ _ _ _;rw[hd];exact h1 _ (F.put hN v)
theorem sqN(F:Has N D a L){d:Nat}(hr:(execOp a.eval o).run P w = .ok (.value v) w')(h:∀a2 w2,Has N D a2 ((d,v)::L)->w2=w'->wpList P ops Q rest a2 w2)(hd:o.dst=some d:=by rfl)(hN:d<N:=by decide)(hw:Region.wanted o (yielded ops a.tmps)=true:=by rfl): wpList P ops Q (o::rest) a w:=Z5r F hd hN hw hr h
theorem sqC(F:Has N D a L){d:Nat}{f:FuncId}{args:Array Value}{R:Ending->World->Prop}(hr:(execOp a.eval o).run P w = .ok (.enter f args) w)(hc:Calls P f args w R)(h:∀e w',R e w'->∃v,e = .returned v/\∀a2,Has N D a2 ((d,v)::L)->wpList P ops Q rest a2 w')(hd:o.dst=some d:=by rfl)(hN:d<N:=by decide)(hw:Region.wanted o (yielded ops a.tmps)=true:=by rfl): wpList P ops Q (o::rest) a w:=Za2 F hd hN hw hr hc h
end
def held(stop:Option Nat)(listed:Array Bool):Bool:=match stop with
 | none=>true
 | some l=>!(listed.getD l true)
theorem Z2e{stop:Option Nat}{listed:Array Bool}{i:Nat}(h:stop≠some i): held stop (listed.setIfInBounds i true)=held stop listed:=by
 cases stop with
 | none=>rfl
 | some l=>simp only[held];rw[getD_set_ne true (λe=>h (by rw[e]))]
section
variable{P:Program}{md:Region.Mode}{ops:Array Oper}{Q:Exit->Act->World->Prop}{T:World->Prop}{stop:Option Nat}
def Zp(P:Program)(md:Region.Mode)(ops:Array Oper)(Q:Exit->Act->World->Prop)(T:World->Prop)(stop:Option Nat):Nat->Array Bool->Act->World->Prop
 | 0,listed,a,w=>Region.ready md ops listed=[]/\Q .normal a w
 | fuel+1,listed,a,w =>
  (Region.ready md ops listed=[]->Q .normal a w) /\
  ∀i∈Region.ready md ops listed,wpOp P ops Q i (λa' w'=>(held stop (listed.setIfInBounds i true)=true->T w')/\Zp P md ops Q T stop fuel (listed.setIfInBounds i true) a' w') a w
theorem Z6F:∀(fuel:Nat) (listed:Array Bool) (a:Act) (w:World),Zp P md ops Q T stop fuel listed a w->wpAny P md ops Q fuel listed a w
 | 0,_,_,_,h=>h
 | fuel+1,_,_,_,h=>⟨h.1,λi hi=>wpOp_mono (λa' w' h'=>Z6F fuel _ a' w' h'.2) (h.2 i hi)⟩
def Zjg(b:Bool)(T:World->Prop)(w:World):Prop:=b=true->T w
theorem Zbu{b:Bool}{i:Nat}{oi:Oper}{v:Value}(hi:ops[i]?=some oi)(hil:stop≠some i)(hwait:b=true->∀l,stop=some l->∃ol,ops[l]?=some ol/\∃e∈ol.after,Region.binds md e=true/\e.on=i)(hsel:∀(j:Nat) (o:Oper) cs b,ops[j]?=some o->o.op ≠ .select cs b)(hQ:∀c a w,Q (.panic c) (a.put oi.dst v) w->Q (.panic c) a w):
  ∀(fuel:Nat) (listed:Array Bool) (a:Act) (w:World),
   (∀j oj,ops[j]?=some oj->j≠i->listed.getD j true=false->(∀e∈oj.after,Region.binds md e=true->e.on≠i)->oi.apart ops oj=true) ->
   i∈Region.ready md ops listed->YieldsIf P ops (Zjg b T) oi v a->(held stop listed=true->T w)->(b=true->held stop listed=true) ->
   Zp P md ops Q T stop fuel (listed.setIfInBounds i true) (a.put oi.dst v) w->Zp P md ops Q T stop (fuel+1) listed a w:=by
 intro fuel
 induction fuel with
 | zero =>
  intro listed a w _ hr hy hT hb H;refine⟨λh=>(by rw[h]at hr;cases hr),λj hj=>?_⟩;by_cases hji:j=i
  ·subst hji;exact hy.wpOp hi (λh=>hT (hb h)) ⟨λh=>hT (by rwa[Z2e hil]at h),H⟩
  ·have:=ready_mono hj hji;rw[H.1]at this;cases this
 | succ fuel ih =>
  intro listed a w hfree hr hy hT hb H;refine⟨λh=>(by rw[h]at hr;cases hr),λj hj=>?_⟩;by_cases hji:j=i
  ·subst hji;exact hy.wpOp hi (λh=>hT (hb h)) ⟨λh=>hT (by rwa[Z2e hil]at h),H⟩
  ·have h1:=H.2 j (ready_mono hj hji);obtain⟨hjun,oj,hoj,hall⟩:=mem_ready.1 hj;have hnot:∀e∈oj.after,Region.binds md e=true->e.on≠i:=λe he hb heq=>by
    have h1:=hall e he hb;have h0:=(mem_ready.1 hr).1;rw[heq]at h1;rcases Nat.lt_or_ge i listed.size with h' | h'
    ·simp[h']at h0 h1;rw[h0]at h1;cases h1
    ·simp[Array.getElem?_eq_none h']at h1
   have h2:=wpOp_putIf hoj (hfree j oj hoj hji hjun hnot) (λcs b=>hsel i oi cs b hi) (λcs b=>hsel j oj cs b hoj) hQ hy h1;have hfree':∀k ok,ops[k]?=some ok->k≠i->(listed.setIfInBounds j true).getD k true=false ->
     (∀e∈ok.after,Region.binds md e=true->e.on≠i)->oi.apart ops ok=true:=λk ok hk hki hun hno=>by
    refine hfree k ok hk hki ?_ hno;by_cases hjk:j=k
    ·subst hjk;exact hjun
    ·rw[getD_set_ne true hjk]at hun;exact hun
   have key:held stop ((listed.setIfInBounds i true).setIfInBounds j true)=held stop (listed.setIfInBounds j true):=by
    rw[Array.setIfInBounds_comm _ _ (Ne.symm hji),Z2e hil]
   have hb':b=true->held stop (listed.setIfInBounds j true)=true:=λhbt=>by
    rw[Z2e (λe=>?_)]
    ·exact hb hbt
    ·obtain⟨ol,hol,ee,he,hbd,heq⟩:=hwait hbt j e;rw[hoj]at hol;cases hol;exact hnot ee he hbd heq
   refine wpOp_mono (λa' w' h3=>⟨λhh=>h3.2.1 (by rw[key];exact hh),ih (listed.setIfInBounds j true) a' w' hfree' (ready_mono hr (Ne.symm hji)) h3.1 (λhh=>h3.2.1 (by rw[key];exact hh)) hb' ?_⟩) h2;rw[Array.setIfInBounds_comm _ _ hji];exact h3.2.2
variable{N:Nat}{D:List Deferred}{a:Act}{L:List (Nat×Value)}{w w':World}{fuel:Nat}{listed:Array Bool}
def Z6y(md:Region.Mode)(ops:Array Oper)(stop:Option Nat)(b:Bool)(listed:Array Bool)(i:Nat):Bool:=
 Region.noSelect ops&&Region.free md ops listed i&&(Region.ready md ops listed).contains i&&(stop != some i) &&
 (!b||((match stop with | none=>true | some l=>((ops[l]?).map λol=>ol.after.any λe=>Region.binds md e&&e.on==i).getD false)&&held stop listed))
theorem Zhr{b:Bool}(F:Has N D a L){i d:Nat}{oi:Oper}{v:Value}(hi:ops[i]?=some oi)(hd:oi.dst=some d)(hN:d<N)(hk:Z6y md ops stop b listed i=true)(hQ:∀c a w,Q (.panic c) (a.put oi.dst v) w->Q (.panic c) a w)(hy:YieldsIf P ops (Zjg b T) oi v a)(hT:held stop listed=true->T w)(h:∀a2,Has N D a2 ((d,v)::L)->Zp P md ops Q T stop fuel (listed.setIfInBounds i true) a2 w): Zp P md ops Q T stop (fuel+1) listed a w:=by
 simp only[Z6y,Y5,Yo,Bool.not_eq_true']at hk;obtain⟨⟨⟨⟨k1,k2⟩,k3⟩,k4⟩,k5⟩:=hk;refine Zbu hi (by simpa using k4) (λhb l hl=>?_) (Region.noSelect_spec k1) hQ fuel listed a w (Region.free_spec hi k2) (by simpa using k3) hy hT (λhb=>?_) (by rw[hd];exact h _ (F.put hN v))
 ·rcases k5 with k5 | k5
  ·rw[hb]at k5;cases k5
  ·subst hl;have k6:=k5.1;cases ho:ops[l]? with
   | none=>simp[ho]at k6
   | some ol =>
    simp only[ho,Option.map_some,Option.getD_some]at k6;obtain⟨e,he,hbd⟩:=Array.any_eq_true'.1 k6;simp only[Y5,beq_iff_eq]at hbd;exact⟨ol,rfl,e,he,hbd.1,hbd.2⟩
 ·rcases k5 with k5 | k5
  ·rw[hb]at k5;cases k5
  ·exact k5.2
theorem Zko(F:Has N D a L){i d:Nat}{oi:Oper}{v:Value}(hi:ops[i]?=some oi)(hd:oi.dst=some d)(hN:d<N)(hk:Z6y md ops stop false listed i=true)(hQ:∀c a w,Q (.panic c) (a.put oi.dst v) w->Q (.panic c) a w)(hw:Region.wanted oi (yielded ops a.tmps)=true)(hr:∀w,(execOp a.eval oi).run P w = .ok (.value v) w)(hT:held stop listed=true->T w)(h:∀a2,Has N D a2 ((d,v)::L)->Zp P md ops Q T stop fuel (listed.setIfInBounds i true) a2 w): Zp P md ops Q T stop (fuel+1) listed a w:=
 Zhr (b:=false) F hi hd hN hk hQ (.inl ⟨hw,λw _=>hr w⟩) hT h
theorem Zil(F:Has N D a L){i d:Nat}{oi:Oper}{v:Value}(hi:ops[i]?=some oi)(hd:oi.dst=some d)(hN:d<N)(hk:Z6y md ops stop true listed i=true)(hQ:∀c a w,Q (.panic c) (a.put oi.dst v) w->Q (.panic c) a w)(hw:Region.wanted oi (yielded ops a.tmps)=true)(hr:∀w,T w->(execOp a.eval oi).run P w = .ok (.value v) w)(hT:held stop listed=true->T w)(h:∀a2,Has N D a2 ((d,v)::L)->Zp P md ops Q T stop fuel (listed.setIfInBounds i true) a2 w): Zp P md ops Q T stop (fuel+1) listed a w:=
 Zhr (b:=true) F hi hd hN hk hQ (.inl ⟨hw,λw hw=>hr w (hw rfl)⟩) hT h
theorem Z33{i:Nat}(hr:Region.ready md ops listed=[i])(h:wpOp P ops Q i (λa' w'=>(held stop (listed.setIfInBounds i true)=true->T w')/\Zp P md ops Q T stop fuel (listed.setIfInBounds i true) a' w') a w): Zp P md ops Q T stop (fuel+1) listed a w:=by
 refine⟨λh0=>(by rw[hr]at h0;cases h0),λj hj=>?_⟩;rw[hr]at hj;obtain rfl:j=i:=by simpa using hj
 exact h
theorem Z01{i j:Nat}(hr:Region.ready md ops listed=[i,j])(h1:wpOp P ops Q i (λa' w'=>(held stop (listed.setIfInBounds i true)=true->T w')/\Zp P md ops Q T stop fuel (listed.setIfInBounds i true) a' w') a w)(h2:wpOp P ops Q j (λa' w'=>(held stop (listed.setIfInBounds j true)=true->T w')/\Zp P md ops Q T stop fuel (listed.setIfInBounds j true) a' w') a w): Zp P md ops Q T stop (fuel+1) listed a w:=by
 refine⟨λh0=>(by rw[hr]at h0;cases h0),λk hk=>?_⟩;rw[hr]at hk;simp only[Yc,Ya,or_false]at hk;rcases hk with rfl | rfl
 ·exact h1
 ·exact h2
theorem Z6J{i j k:Nat}(hr:Region.ready md ops listed=[i,j,k])(h1:wpOp P ops Q i (λa' w'=>(held stop (listed.setIfInBounds i true)=true->T w')/\Zp P md ops Q T stop fuel (listed.setIfInBounds i true) a' w') a w)(h2:wpOp P ops Q j (λa' w'=>(held stop (listed.setIfInBounds j true)=true->T w')/\Zp P md ops Q T stop fuel (listed.setIfInBounds j true) a' w') a w)(h3:wpOp P ops Q k (λa' w'=>(held stop (listed.setIfInBounds k true)=true->T w')/\Zp P md ops Q T stop fuel (listed.setIfInBounds k true) a' w') a w): Zp P md ops Q T stop (fuel+1) listed a w:=by
 refine⟨λh0=>(by rw[hr]at h0;cases h0),λn hn=>?_⟩;rw[hr]at hn;simp only[Yc,Ya,or_false]at hn;rcases hn with rfl | rfl | rfl
 ·exact h1
 ·exact h2
 ·exact h3
theorem Zee{i d:Nat}{o:Oper}{v:Value}{K:Act->World->Prop}(F:Has N D a L)(hi:ops[i]?=some o)(hd:o.dst=some d)(hN:d<N)(hw:Region.wanted o (yielded ops a.tmps)=true)(hr:(execOp a.eval o).run P w = .ok (.value v) w')(h:∀a2 w2,Has N D a2 ((d,v)::L)->w2=w'->K a2 w2): wpOp P ops Q i K a w:=by
 unfold wpOp;simp only[hi,hw,if_true,Oper.wp,hr,Oper.upon,hd];exact .inl (h _ _ (F.put hN v) rfl)
theorem Z9V{i:Nat}{o:Oper}{K:Act->World->Prop}(hi:ops[i]?=some o)(hd:o.dst=none)(hw:Region.wanted o (yielded ops a.tmps)=true)(hr:(execOp a.eval o).run P w = .ok .skip w')(h:∀w2,w2=w'->K a w2): wpOp P ops Q i K a w:=by
 unfold wpOp;simp only[hi,hw,if_true,Oper.wp,hr,Oper.upon,hd,Act.put];exact .inl (h _ rfl)
theorem Zed{i d:Nat}{o:Oper}{f:FuncId}{args:Array Value}{R:Ending->World->Prop}{K:Act->World->Prop}(F:Has N D a L)(hi:ops[i]?=some o)(hd:o.dst=some d)(hN:d<N)(hw:Region.wanted o (yielded ops a.tmps)=true)(hr:(execOp a.eval o).run P w = .ok (.enter f args) w)(hc:Calls P f args w R)(h:∀e w',R e w'->∃v,e = .returned v/\∀a2,Has N D a2 ((d,v)::L)->K a2 w'): wpOp P ops Q i K a w:=by
 unfold wpOp;simp only[hi,hw,if_true,Oper.wp,hr,Oper.upon];refine .inl (hc.mono λe w' hR=>?_);obtain⟨v,rfl,h1⟩:=h e w' hR;show K _ _;rw[hd];exact h1 _ (F.put hN v)
theorem ZcF(hr:Region.ready md ops listed=[])(h:Q .normal a w):∀fuel,Zp P md ops Q T stop fuel listed a w
 | 0=>⟨hr,h⟩
 | _+1=>⟨λ_=>h,by rw[hr];simp⟩
theorem Zb6{l:List Oper}{id:Nat}{w:World}(T:World->Prop)(stop:Option Nat)(hm:P.follows .mixedOrders=true)(h:∀W:World,W.heap=w.heap->Ext [] w W->Zp P .any l.toArray Q T stop l.toArray.size (Array.replicate l.toArray.size false) a W): (Code.region id l.toArray true).wp P Q a w:=
 wp_region_any hm (Z6F _ _ _ _ (h _ rfl ⟨rfl,rfl,rfl,Ye _,λ_ _ _=>rfl⟩))
end
section
variable{P:Program}{o:Oper}{w:World}{a:Act}
theorem ZE{s x:Operand}{t:TypeId}(ho:o.op = .call {callee:=.builtin .append,args:=#[s,x],argTypes:=#[t,t]})(base:Nat){e:TypeId}{size bytes:Nat}(ht:P.underlying t=some (.slice e))(hi:(P.info? e).map (λi=>(i.size,i.bytes,i.zero.map (·.cells.size)))=some (size,bytes,some size))(hsz:0<size){v:Value}{n:Nat}{xs:List Value}(hs:a.eval s=v)(hown:w.ownsRow base e size v n xs){g c:Nat}{T:TypeId}{fz:Nat×Nat}{news:List Value}(hx:a.eval x = .slice (some ⟨g,0,none⟩) 1 c)(hg:w.heap[g]?=some (.cells news.toArray T fz))(hl:news.length=size)(h1:∀u∈news,u.oneCell'=true)(hn:n<=1000000)(hbytes:(n+1)*bytes<=140737488355328)(hbase:base<=w.heap.size):
  ∃v' w',(execOp a.eval o).run P w = .ok (.value v') w'/\w'.ownsRow base e size v' (n+1) (xs++news)/\w.grownBy w' v.ownBlock:=by
 cases hq:P.info? e with
 | none=>simp[hq]at hi
 | some i =>
  simp only[hq,Option.map_some,Y4,Y9,Y3]at hi;obtain⟨hi1,hi2,z,hz,hz2⟩:=hi;obtain⟨v',w',hr,h2,h3,-⟩:=run_append_own (P:=P) w base t o.type e i z size bytes ht hq hz hi1 hi2 hz2 hsz v n xs hown ⟨g,0,none⟩ 1 c news oM (λj u hu=>by
   rw[Addr.add_lit,Nat.zero_add,Z3 hg];simpa using hu) h1 (by simp only[maxLen];omega) hbytes hbase
  refine⟨v',w',?_,h2,h3⟩;unfold execOp;simp only[ho,resolve,invoke,builtin,Sem.run_bind,Sem.run_pure,Result.andThen_ok,List.map_toArray,List.map_cons,List.map_nil,hs,hx,hr]
end
section
variable{P:Program}{Q:Exit->Act->World->Prop}{N:Nat}{D:List Deferred}{a:Act}{L:List (Nat×Value)}{w:World}
theorem cd_T(F:Has N D a L){k:Nat}{x y:Code}(hc:L.lookup k=some (.bool true))(h:x.wp P Q a w): (Code.cond (.tmp k) x y).wp P Q a w:=wp_cond_true (F.at hc) h
theorem cd_F(F:Has N D a L){k:Nat}{x y:Code}(hc:L.lookup k=some (.bool false))(h:y.wp P Q a w): (Code.cond (.tmp k) x y).wp P Q a w:=wp_cond_false (F.at hc) h
theorem Zfo(F:Has N D a L){k:Nat}{x y:Code}{p:Prop}[Decidable p](hc:L.lookup k=some (.bool (decide p)))(ht:p->x.wp P Q a w)(hf:¬p->y.wp P Q a w): (Code.cond (.tmp k) x y).wp P Q a w:=by
 by_cases h:p
 ·exact wp_cond_true (by rw[F.at hc,decide_eq_true h]) (ht h)
 ·exact wp_cond_false (by rw[F.at hc,decide_eq_false h]) (hf h)
theorem cd_b(F:Has N D a L){k:Nat}{x y:Code}{b:Bool}(hc:L.lookup k=some (.bool b))(ht:b=true->x.wp P Q a w)(hf:b=false->y.wp P Q a w): (Code.cond (.tmp k) x y).wp P Q a w:=by
 cases b
 ·exact wp_cond_false (F.at hc) (hf rfl)
 ·exact wp_cond_true (F.at hc) (ht rfl)
theorem Zl3{c:Code}(M:Nat)(I:Nat->Act->World->Prop)(h0:I 0 a w)(round:∀i a w,i<=M->I i a w->c.wp P (Exit.then (λa' w'=>i<M/\I (i+1) a' w') Q) a w): (Code.loop c).wp P Q a w:=by
 intro b k cs;have key:∀n i a w,n=M-i->i<=M->I i a w->∃e a' w',Q e a' w'/\Arrives P (lone (b.at a (.code c :: .inLoop c::k)) cs w) b k cs e a' w':=by
  intro n
  induction n with
  | zero =>
   intro i a w hn hi hI;obtain⟨e,a₁,w₁,hq,harr⟩:=round i a w hi hI b (.inLoop c::k) cs;cases e with
   | normal=>exact absurd hq.1 oM
   | exit id=>exact⟨_,a₁,w₁,hq,.pass (x:=.inLoop c) rfl (λ_ _=>.inl sU) harr⟩
   | goto l=>exact⟨_,a₁,w₁,hq,.pass (x:=.inLoop c) rfl (λ_ _=>.inl sU) harr⟩
   | ret=>exact⟨_,a₁,w₁,hq,.pass (x:=.inLoop c) rfl (λ_ _=>.inl sU) harr⟩
   | panic ch=>exact⟨_,a₁,w₁,hq,.pass (x:=.inLoop c) rfl (λ_ _=>.inl sU) harr⟩
   | outgrown=>exact⟨_,a₁,w₁,hq,.pass (x:=.inLoop c) rfl (λ_ _=>.inl sU) harr⟩
  | succ n ih =>
   intro i a w hn hi hI;obtain⟨e,a₁,w₁,hq,harr⟩:=round i a w hi hI b (.inLoop c::k) cs;cases e with
   | normal =>
    obtain⟨hlt,hI₁⟩:=hq;obtain⟨e₂,a₂,w₂,hq₂,harr₂⟩:=ih (i+1) a₁ w₁ oM hlt hI₁;exact⟨e₂,a₂,w₂,hq₂,.of_steps (Steps.trans harr (.one step_inLoop)) harr₂⟩
   | exit id=>exact⟨_,a₁,w₁,hq,.pass (x:=.inLoop c) rfl (λ_ _=>.inl sU) harr⟩
   | goto l=>exact⟨_,a₁,w₁,hq,.pass (x:=.inLoop c) rfl (λ_ _=>.inl sU) harr⟩
   | ret=>exact⟨_,a₁,w₁,hq,.pass (x:=.inLoop c) rfl (λ_ _=>.inl sU) harr⟩
   | panic ch=>exact⟨_,a₁,w₁,hq,.pass (x:=.inLoop c) rfl (λ_ _=>.inl sU) harr⟩
   | outgrown=>exact⟨_,a₁,w₁,hq,.pass (x:=.inLoop c) rfl (λ_ _=>.inl sU) harr⟩
 obtain⟨e,a',w',hq,harr⟩:=key _ 0 a w rfl (Nat.zero_le _) h0;exact⟨e,a',w',hq,.of_steps (.one step_loop) harr⟩
theorem Z8E{c:Code}{L0:List (Nat×Value)}(F:Has N D a L0)(M:Nat)(J:Nat->List (Nat×Value)->World->Prop)(h0:∃Lv,J 0 Lv w/\Has N D a (Lv++L0))(round:∀i Lv a w,i<=M->J i Lv w->Has N D a (Lv++L0)->c.wp P (Exit.then (λa' w'=>i<M/\∃Lv',J (i+1) Lv' w'/\Has N D a' (Lv'++L0)) Q) a w): (Code.loop c).wp P Q a w:=
 Zl3 M (λi a w=>∃Lv,J i Lv w/\Has N D a (Lv++L0)) h0 λi a w hi ⟨Lv,hJ,hF⟩=>round i Lv a w hi hJ hF
end
variable{μ:Nat}
section
variable{P:Program}{ops:Array Oper}{o:Oper}{rest:List Oper}{N:Nat}{D:List Deferred}{a:Act}{L:List (Nat×Value)}{w w':World}{v:Value}
theorem ZhW{K:Act->Prop}(F:Has N D a L){d:Nat}(hd:o.dst=some d)(hN:d<N)(hw:Region.wanted o (yielded ops a.tmps)=true)(hr:(execOp a.eval o).run P w = .ok (.value v) w)(h:∀a2,Has N D a2 ((d,v)::L)->wpStill P ops w K rest a2): wpStill P ops w K (o::rest) a:=by
 unfold wpStill;simp only[hw,if_true,Oper.still,hr,Oper.stillUpon_value,hd];exact h _ (F.put hN v)
theorem Zn2{K:Act->Prop}(F:Has N D a L){d:Nat}(hd:o.dst=some d)(hN:d<N)(hw:Region.wanted o (yielded ops a.tmps)=false)(h:∀a2,Has N D a2 ((d,undef)::L)->wpStill P ops w K rest a2): wpStill P ops w K (o::rest) a:=by
 unfold wpStill;simp only[hw,Bool.false_eq_true,if_false,hd];exact h _ (F.put hN undef)
end
theorem gone{T:World->Prop}{w:World}{b:Bool}(h:b=false): b=true->T w:=λe=>by rw[h]at e;cases e
section
variable{P:Program}{ρ:Operand->Value}{o:Oper}{w:World}
theorem pr0:([]:List (Nat×Operand)).map (λp=>(p.1,ρ p.2))=[]:=rfl
theorem prS{i:Nat}{x:Operand}{v:Value}{l:List (Nat×Operand)}{vs:List (Nat×Value)}(h:ρ x=v)(k:l.map (λp=>(p.1,ρ p.2))=vs): ((i,x)::l).map (λp=>(p.1,ρ p.2))=(i,v)::vs:=by simp[h,k]
theorem Zfg{t:TypeId}{l:List (Nat×Operand)}{vs:List (Nat×Value)}{cells:Array Value}(ho:o.op = .build t l.toArray)(hp:l.map (λp=>(p.1,ρ p.2))=vs)(h:P.built t vs=some cells): (execOp ρ o).run P w = .ok (.value (.agg cells)) w:=
 Zff ho (by
  have:(l.toArray.map λ(i,x)=>(i,ρ x)).toList=vs:=by rw[<-hp];simp
  rw[this];exact h)
theorem Z0J{t e:TypeId}{n size:Nat}{l:List (Nat×Operand)}{vs:List (Nat×Value)}{z:Value}{cells:Array Value}(ho:o.op = .buildSlice t n l.toArray)(hp:l.map (λp=>(p.1,ρ p.2))=vs)(hu:P.underlying t=some (.slice e))(hs:(P.info? e).map (·.size)=some size)(hn:n*size<=2 ^ 24)(hn0:n*size≠0)(hz:∀w,(zeroValue e).run P w = .ok z w)(hf:Instr.fill (λi=>some (i*size,size)) ((Array.range (n*size)).map (z.cells[· % z.cells.size]!)) vs=some cells):
  (execOp ρ o).run P w = .ok (.value (.slice (some ⟨w.heap.size,0,none⟩) n n)) (w.alloc (.cells cells e)):=
 Z88 ho hu hs hn hn0 hz (by
  have:(l.toArray.map λ(i,x)=>(i,ρ x)).toList=vs:=by rw[<-hp];simp
  rw[this];exact hf)
theorem Z9M{l:List Operand}(h:l.map ρ=vs): l.toArray.map ρ=vs.toArray:=by subst h;simp
theorem mp0:([]:List Operand).map ρ=[]:=rfl
theorem mpS{x:Operand}{v:Value}{l:List Operand}(h:ρ x=v)(k:l.map ρ=vs): (x::l).map ρ=v::vs:=by simp[h,k]
theorem Zcs{f:FuncId}{l:List Operand}{ts:Array TypeId}(ho:o.op = .call {callee:=.value (.func f),args:=l.toArray,argTypes:=ts})(hf:ρ (.func f) = .func (.func f) #[] #[])(hc:∀args w,(callFunc f args).run P w = .ok (.enter f args) w)(ha:l.map ρ=vs): (execOp ρ o).run P w = .ok (.enter f vs.toArray) w:=
 Zk8 ho hf hc (Z9M ha)
end
section
variable{P:Program}{fn:Func}{R:Ending->World->Prop}{N:Nat}{D:List Deferred}{a:Act}{L:List (Nat×Value)}{w:World}
theorem rt_v(F:Has N [] a L){v:Value}(hr:(results fn a.tmps).run P w = .ok v w)(h:R (.returned v) w): bodyPost P fn R .ret a w:=bodyPost_ret hr F.ds h
theorem Zju(F:Has N [] a L){v:Value}(hr:(results fn a.tmps).run P w = .ok v w)(h:R (.returned v) w): bodyPost P fn R .normal a w:=bodyPost_end hr F.ds h
theorem rs_0(hr:fn.results=#[]):(results fn a.tmps).run P w = .ok (.tuple #[]) w:=results_none hr _ _ _
theorem rs_1(F:Has N D a L){t:Nat}{v:Value}(hr:fn.results=#[.tmp t])(hv:L.lookup t=some v): (results fn a.tmps).run P w = .ok v w:=by
 rw[results_tmp hr,F.get _ _ hv]
theorem rs_2(F:Has N D a L){t s:Nat}{v u:Value}(hr:fn.results=#[.tmp t,.tmp s])(hv:L.lookup t=some v)(hu:L.lookup s=some u): (results fn a.tmps).run P w = .ok (.tuple #[v,u]) w:=by
 rw[results_tmp2 hr,F.get _ _ hv,F.get _ _ hu]
theorem rs_3(F:Has N D a L){t s r:Nat}{v u x:Value}(hr:fn.results=#[.tmp t,.tmp s,.tmp r])(hv:L.lookup t=some v)(hu:L.lookup s=some u)(hx:L.lookup r=some x): (results fn a.tmps).run P w = .ok (.tuple #[v,u,x]) w:=by
 have h1:=F.get _ _ hv;have h2:=F.get _ _ hu;have h3:=F.get _ _ hx;simp only[Y6]at h1 h2 h3;simp[results,hr,h1,h2,h3]
theorem rs_c(F:Has N D a L){t ty b:Nat}{cs:Array Value}{T:TypeId}{d:TypeDesc}{fz:Nat×Nat}(hr:fn.results=#[.cell t ty])(ht:L.lookup t=some (.pointer (some ⟨b,0,none⟩)))(hd:P.underlying ty=some d)(ha:d.isRow=true)(hi:(P.info? ty).map (·.size)=some cs.size)(H:w.heap[b]?=some (.cells cs T fz)): (results fn a.tmps).run P w = .ok (.agg cs) w:=by
 have hl:=ZbI (P:=P) hd ha hi H;have h1:=F.get _ _ ht;simp only[Y6]at h1;simp[results,hr,h1,asAddr,hl,Result.andThen]
end
section
variable{P:Program}{Q:Exit->Act->World->Prop}{N:Nat}{D:List Deferred}{a:Act}{L:List (Nat×Value)}{w:World}
theorem Zmh(F:Has N D a L){k:Nat}{x y:Code}{b:Bool}(hc:L.lookup k=some (.bool b))(hb:b=false)(h:y.wp P Q a w): (Code.cond (.tmp k) x y).wp P Q a w:=wp_cond_false (by rw[F.at hc,hb]) h
end
variable{μ:Nat}
theorem ev_c(a:Act)(v:Value):a.eval (.const v)=v:=rfl
theorem Has.re{N:Nat}{D:List Deferred}{a:Act}{L:List (Nat×Value)}(F:Has N D a L){k:Nat}{v v':Value}(e:L.lookup k=some v)(h:v=v'): Has N D a ((k,v')::L):=⟨F.ds,F.sz,λj u hj=>by
 simp only[List.lookup]at hj;split at hj
 ·rename_i hk;obtain rfl:j=k:=by simpa using hk
  cases hj;rw[<-h];exact F.get _ _ e
 ·exact F.get j u hj⟩
section
variable{P:Program}{ρ:Operand->Value}{o:Oper}{w:World}
theorem Zak{x y:Operand}{t t':TypeId}{k:IntKind}{n m:Int}(ho:o.op = .binOp .eql t x y t')(hx:ρ x = .int k n)(hy:ρ y = .int k m): (execOp ρ o).run P w = .ok (.value (.bool (decide (n=m)))) w:=Zaj ho hx hy rfl
theorem Zke{x y:Operand}{t t':TypeId}{k:IntKind}{n m:Int}(ho:o.op = .binOp .neq t x y t')(hx:ρ x = .int k n)(hy:ρ y = .int k m): (execOp ρ o).run P w = .ok (.value (.bool (decide (¬(n=m))))) w:=Zhk ho hx hy sU
theorem ZcC{c x y:Operand}{v:Value}(ho:o.op = .pick c x y)(hc:ρ c = .bool true)(hx:ρ x=v): (execOp ρ o).run P w = .ok (.value v) w:=Zhl ho hc (by simpa using hx)
theorem ZcB{c x y:Operand}{v:Value}(ho:o.op = .pick c x y)(hc:ρ c = .bool false)(hy:ρ y=v): (execOp ρ o).run P w = .ok (.value v) w:=Zhl ho hc (by simpa using hy)
theorem Zkf{x:Operand}{t:TypeId}{p:Prop}[Decidable p](ho:o.op = .unOp .not t x)(hx:ρ x = .bool (decide p)): (execOp ρ o).run P w = .ok (.value (.bool (decide (¬p)))) w:=by
 rw[Zi8 ho hx];simp
theorem Zhm{x y:Operand}{t t':TypeId}{n m:Int}(ho:o.op = .binOp .quo t x y t')(hx:ρ x = .int .i64 n)(hy:ρ y = .int .i64 m)(h0:0<=n)(h1:n<=9223372036854775807)(hm:0<m): (execOp ρ o).run P w = .ok (.value (.int .i64 (n / m))) w:=by
 have hne:m≠0:=by omega
 have hd:n.tdiv m=n / m:=Int.tdiv_eq_ediv_of_nonneg h0;have hw:=Z5M (n:=n / m) (by have:=Int.ediv_nonneg h0 (Int.le_of_lt hm);omega) (by have:=Int.ediv_le_self m h0;omega);unfold execOp;simp[ho,hx,hy,binOp,Op.intDiv,eqGuard,hne,hd,hw,go_sem]
theorem Zkh{x y:Operand}{t t':TypeId}{n m:Int}(ho:o.op = .binOp .rem t x y t')(hx:ρ x = .int .i64 n)(hy:ρ y = .int .i64 m)(h0:0<=n)(hm:0<m): (execOp ρ o).run P w = .ok (.value (.int .i64 (n % m))) w:=by
 rw[Zkg ho hx hy oM,Int.tmod_eq_emod_of_nonneg h0]
end
def SlAt(X:List Nat)(w:World)(a:Option Addr)(sz n:Nat)(row:Nat->List Value):Prop:=
 ∀i,i<n->∃b off,(∀m c,Value.slice a m c = .slice (some ⟨b,off,none⟩) m c)/\∀W,Ext X w W->W.rangeAt b (off+i*sz) (row i)
theorem Z7{α:Type}{w:World}{a:Option Addr}{n c sz:Nat}{xs:List α}{row:α->List Value}(h:Z6 w (.slice a n c) sz (xs.map row))(d:α): SlAt [] w a sz xs.length (λi=>row (xs.getD i d)):=λi hi=>by
 obtain⟨b,off,h1,h2⟩:=h.range rfl (by intro e;have:=congrArg List.length e;simp at this;rw[this]at hi;simp at hi);obtain⟨hlt,h2⟩:=h2;refine⟨b,off,λm c=>by rw[h1],λW E j v hv=>?_⟩;rw[E.cell (a:=⟨b,off+i*sz+j,none⟩) hlt sU];exact h2 i (row (xs.getD i d)) (by simp[hi]) j v hv
variable{μ:Nat}
section
variable{P:Program}{ops:Array Oper}{Q:Exit->Act->World->Prop}{o:Oper}{rest:List Oper}{N:Nat}{D:List Deferred}{a:Act}{L:List (Nat×Value)}{w w':World}{v:Value}
theorem Has.vl(F:Has N D a L){d:Nat}(hr:(execOp a.eval o).run P w = .ok (.value v) w)(h:∀a2,Has N D a2 ((d,v)::L)->wpList P ops Q rest a2 w)(hd:o.dst=some d:=by rfl)(hN:d<N:=by decide)(hw:Region.wanted o (yielded ops a.tmps)=true:=by rfl): wpList P ops Q (o::rest) a w:=
 Z6n F hd hN hw hr h
theorem Has.mv(F:Has N D a L){d k:Nat}(h:∀a2,Has N D a2 ((d,v)::L)->wpList P ops Q rest a2 w)(ho:o.op = .move (.tmp k):=by rfl)(hl:L.lookup k=some v:=by rfl)(hd:o.dst=some d:=by rfl)(hN:d<N:=by decide)(hw:Region.wanted o (yielded ops a.tmps)=true:=by rfl): wpList P ops Q (o::rest) a w:=
 Z6n F hd hN hw (Z3m ho (F.at hl)) h
theorem Has.as(F:Has N D a L){d k:Nat}(h:∀a2,Has N D a2 ((d,v)::L)->wpList P ops Q rest a2 w)(ho:o.op = .assign (.tmp k):=by rfl)(hl:L.lookup k=some v:=by rfl)(hd:o.dst=some d:=by rfl)(hN:d<N:=by decide)(hw:Region.wanted o (yielded ops a.tmps)=true:=by rfl): wpList P ops Q (o::rest) a w:=
 Z6n F hd hN hw (Z08 ho (F.at hl)) h
variable{md:Region.Mode}{T:World->Prop}{stop:Option Nat}{fuel:Nat}{listed:Array Bool}
end
variable{μ:Nat}
structure SrcAt(w:World)(sz:Nat)(sa:Option Addr)(m:Nat)(news:List Value):Prop where
 len:news.length=m*sz
 nil:sa=none->m=0
 cells:∀a0,sa=some a0->∀(j:Nat) (v:Value),news[j]?=some v->w.cell? (a0.add j)=some v
 one:∀u∈news,u.oneCell'=true
theorem Z7N{α:Type}{w:World}{a:Option Addr}{n c sz:Nat}{xs:List α}{row:α->List Value}(h:Z6 w (.slice a n c) sz (xs.map row))(h0:0<sz)(hr:∀x,(row x).length=sz)(h1:∀x,∀u∈row x,u.oneCell'=true): SrcAt w sz a n ((xs.map row).flatten):=by
 have hn:n=xs.length:=by
  obtain⟨a',c',hv,-⟩:=h;cases hv;simp
 refine⟨by rw[Z7g hr,hn],λha=>?_,Zet h0 hr h,λu hu=>?_⟩
 ·by_cases hne:xs.map row=[]
  ·rw[hn];simpa using hne
  ·obtain⟨b,off,h1,-⟩:=h.range rfl hne;rw[ha]at h1;cases h1
 ·obtain⟨l,hl,hu⟩:=List.mem_flatten.1 hu;obtain⟨x,-,rfl⟩:=List.mem_map.1 hl;exact h1 x u hu
section
variable{P:Program}{ops:Array Oper}{Q:Exit->Act->World->Prop}{o:Oper}{rest:List Oper}{N:Nat}{D:List Deferred}{a:Act}{L:List (Nat×Value)}{w:World}
theorem Zx{C:Value->World->Prop}(F:Has N D a L){d:Nat}(hd:o.dst=some d)(hN:d<N)(hw:Region.wanted o (yielded ops a.tmps)=true)(hr:∃v w',(execOp a.eval o).run P w = .ok (.value v) w'/\C v w')(h:∀a2 v w2,Has N D a2 ((d,v)::L)->C v w2->wpList P ops Q rest a2 w2): wpList P ops Q (o::rest) a w:=by
 obtain⟨v,w',h1,h2⟩:=hr;exact Z5r F hd hN hw h1 λa2 w2 F2 e=>by subst e;exact h a2 v w2 F2 h2
theorem Zef{C:Value->World->Prop}{i d:Nat}{K:Act->World->Prop}(F:Has N D a L)(hi:ops[i]?=some o)(hd:o.dst=some d)(hN:d<N)(hw:Region.wanted o (yielded ops a.tmps)=true)(hr:∃v w',(execOp a.eval o).run P w = .ok (.value v) w'/\C v w')(h:∀a2 v w2,Has N D a2 ((d,v)::L)->C v w2->K a2 w2): wpOp P ops Q i K a w:=by
 obtain⟨v,w',h1,h2⟩:=hr;exact Zee F hi hd hN hw h1 λa2 w2 F2 e=>by subst e;exact h a2 v w2 F2 h2
end
theorem Z4Y{P:Program}{o:Oper}{w:World}{a:Act}{s x:Operand}{t:TypeId}(ho:o.op = .call {callee:=.builtin .append,args:=#[s,x],argTypes:=#[t,t]})(base:Nat){e:TypeId}{size bytes:Nat}(ht:P.underlying t=some (.slice e))(hi:(P.info? e).map (λi=>(i.size,i.bytes,i.zero.map (·.cells.size)))=some (size,bytes,some size))(hsz:0<size){v:Value}{n:Nat}{xs:List Value}(hs:a.eval s=v)(hown:w.ownsRow base e size v n xs){sa:Option Addr}{m c:Nat}{news:List Value}(hx:a.eval x = .slice sa m c)(hsrc:SrcAt w size sa m news)(hn:n+m<=1000000)(hbytes:(n+m)*bytes<=140737488355328)(hbase:base<=w.heap.size):
  ∃v' w',(execOp a.eval o).run P w = .ok (.value v') w'/\w'.ownsRow base e size v' (n+m) (xs++news)/\w.grownBy w' v.ownBlock:=by
 cases hq:P.info? e with
 | none=>simp[hq]at hi
 | some i =>
  simp only[hq,Option.map_some,Y4,Y9,Y3]at hi;obtain⟨hi1,hi2,z,hz,hz2⟩:=hi;have key:∃v' w',(Builtin.append_ #[t,t] o.type #[v,.slice sa m c]).run P w = .ok v' w'/\w'.ownsRow base e size v' (n+m) (xs++news)/\w.grownBy w' v.ownBlock:=by
   cases sa with
   | none =>
    have hm:=hsrc.nil rfl;subst hm;have hnl:=hsrc.len;rw[Nat.zero_mul]at hnl;obtain rfl:=List.eq_nil_of_length_eq_zero hnl;refine⟨v,w,?_,by simpa using hown,⟨rfl,rfl,rfl,Ye _,λ_ _ _=>rfl⟩⟩;rcases hown.2 with⟨rfl,rfl⟩ | ⟨g,cap,cur,rfl,hbg,hg,hnc,hcm,hcs,htake⟩
    ·simp[Builtin.append_,run_underlying ht,sizeOf,typeInfo,hq,Builtin.lenOf,Builtin.firstCells,loadCells,loadCellsFrom]
    ·simp[Builtin.append_,run_underlying ht,sizeOf,typeInfo,hq,Builtin.lenOf,Builtin.firstCells,loadCells,loadCellsFrom,hnc,storeCells]
   | some ad =>
    obtain⟨v',w',hr,h2,h3,-⟩:=run_append_own (P:=P) w base t o.type e i z size bytes ht hq hz hi1 hi2 hz2 hsz v n xs hown ad m c news hsrc.len (hsrc.cells ad rfl) hsrc.one (by simp only[maxLen];omega) hbytes hbase;exact⟨v',w',hr,h2,h3⟩
  obtain⟨v',w',hr,h2,h3⟩:=key;refine⟨v',w',?_,h2,h3⟩;unfold execOp;simp only[ho,resolve,invoke,builtin,Sem.run_bind,Sem.run_pure,Result.andThen_ok,List.map_toArray,List.map_cons,List.map_nil,hs,hx,hr]
theorem Z6D{P:Program}{ρ:Operand->Value}{o:Oper}{w:World}{t e:TypeId}{size:Nat}(ho:o.op = .buildSlice t 0 #[])(hu:P.underlying t=some (.slice e))(hs:(P.info? e).map (·.size)=some size):
  (execOp ρ o).run P w = .ok (.value (.slice (some ⟨w.heap.size,0,none⟩) 0 0)) (w.alloc (.cells #[] e)):=by
 unfold execOp;cases hq:P.info? e with
 | none=>simp[hq]at hs
 | some i =>
  simp[ho,Instr.buildSlice,run_underlying hu,sizeOf,typeInfo,hq,newRow,newObj,go_sem,Instr.fill];rfl
theorem ZbR{w:World}{base b size:Nat}{e:TypeId}(h:w.heap[b]?=some (.cells #[] e (0,0)))(hb:base<=b): w.ownsRow base e size (.slice (some ⟨b,0,none⟩) 0 0) 0 []:=
 ⟨sU,.inr ⟨b,0,#[],rfl,hb,h,Ye _,Nat.zero_le _,sU,sU⟩⟩
theorem Z1n{w:World}{base n c size:Nat}{e:TypeId}{a:Option Addr}{xs:List Value}(h:w.ownsRow base e size (.slice a n c) n xs){xb xo:Nat}(xa:∀m c,Value.slice a m c = .slice (some ⟨xb,xo,none⟩) m c){j p:Nat}(hj:j<xs.length)(hp:p=xo+j):
  (∃u,w.cell? ⟨xb,p,none⟩=some u)/\w.frozen? ⟨xb,p,none⟩=false/\∀u w2,w2=w.setCell ⟨xb,p,none⟩ u->w2.ownsRow base e size (.slice a n c) n (xs.set j u)/\w.grownBy w2 (Value.ownBlock (.slice a n c)):=by
 obtain⟨hl,⟨hv,hn⟩ | ⟨g,cap,cur,hv,hb,hg,h1,h2,h3,h4⟩⟩:=h
 ·subst hn;rw[Nat.zero_mul]at hl;omega
 ·have hv2:=(xa n c).symm.trans hv;simp only[Value.slice.injEq,Y4,Addr.mk.injEq,and_true,true_and]at hv2;obtain⟨⟨rfl,rfl⟩,rfl⟩:=hv2;rw[Nat.zero_add]at hp;subst hp;have hlt:=Z8 hg;have hjc:p<cur.size:=by
   have:=congrArg List.length h4;rw[List.length_take]at this;have h5:cur.toList.length=cur.size:=by simp
   omega
  have ha:a=some ⟨xb,0,none⟩:=by have:=xa 0 0;cases this;rfl
  subst ha;refine⟨⟨cur[p],by rw[Z3 hg];simp[hjc]⟩,Zg hg _,λu w2 e2=>⟨⟨by simpa using hl,.inr ⟨xb,c,cur.setIfInBounds p u,rfl,hb,ZU e2 hg rfl,h1,h2,by simpa using h3,?_⟩⟩,?_⟩⟩
  ·rw[<-h4,Array.toList_setIfInBounds,List.take_set]
  ·subst e2;exact⟨rfl,rfl,rfl,by rw[Z2o];exact Ye _,λk hk hne=>Below.heap_setCell _ _ _ _ (λe=>hne (by rw[e];rfl))⟩
theorem Z0D{α:Type}{w:World}{base n c sz:Nat}{e:TypeId}{a:Option Addr}{xs:List α}{row:α->List Value}(h:w.ownsRow base e sz (.slice a n c) n ((xs.map row).flatten))(hn:n=xs.length)(hr:∀x,(row x).length=sz)(X:List Nat)(hX:∀b∈X,b<base)(d:α): SlAt X w a sz xs.length (λi=>row (xs.getD i d)):=λi hi=>by
 subst hn;rcases h.2 with⟨hv,hn⟩ | ⟨g,cap,cur,hv,hb,hg,h1,h2,h3,h4⟩
 ·omega
 ·have ha:a=some ⟨g,0,none⟩:=by cases hv;rfl
  refine⟨g,0,λm c=>by rw[ha],λW E j v hv=>?_⟩;have hjs:j<sz:=by
   have:=(List.getElem?_eq_some_iff.1 hv).1
   rwa[hr]at this
  have hf:=Z4J hr xs i j (row (xs.getD i d)) (by simp[hi]) hjs;have hil:i*sz+j<xs.length*sz:=
   calc i*sz+j<i*sz+sz:=by omega
    _=(i+1)*sz:=by rw[Nat.add_mul];omega
    _<=xs.length*sz:=Nat.mul_le_mul_right _ hi
  rw[E.cell (a:=⟨g,0+i*sz+j,none⟩) (Z8 hg) (λhm=>by have:=hX g hm;omega),Z3 hg,Nat.zero_add,<-Array.getElem?_toList];have:=congrArg (λl=>l[i*sz+j]?) h4;simp only[List.getElem?_take]at this;rw[if_pos hil]at this;rw[this,hf,hv]
variable{μ:Nat}
def val(l:List Int):Nat->Int:=λi=>l.getD i 0
def xa:Nat->Int:=val [0,94,94,0,86,84,0,0,0,0,3,-3]
def xb:Nat->Int:=val [0,89,93,0,82,84,0,0,0,0,-2,-3]
variable{μ:Nat}
def ivs(l:List Int):List Value:=l.map (Value.int .i64)
theorem Za{w:World}{base base':Nat}{e:TypeId}{sz:Nat}{v:Value}{n:Nat}{xs:List Value}(h:w.ownsRow base e sz v n xs)(hb:base'<=base): w.ownsRow base' e sz v n xs:=by
 refine⟨h.1,?_⟩;rcases h.2 with h | ⟨g,cap,cur,h1,h2,h3,h4⟩
 ·exact .inl h
 ·exact .inr ⟨g,cap,cur,h1,Yd hb h2,h3,h4⟩
variable{μ:Nat}
theorem Z1Z{w:World}{a:Option Addr}{n c:Nat}{zs:List Int}(h:Z40 .i64 w a n c zs): ∃xs:List Int,xs.length=n/\Z6 w (.slice a n c) 1 (xs.map Z4):=by
 rcases h with⟨rfl,rfl,rfl,rfl⟩ | ⟨x,rfl,hl,hm,hz,hc,hw⟩
 ·exact⟨[],rfl,Zgu _ _ _⟩
 ·have hlen:(zs.take n).length=n:=by rw[List.length_take];omega
  refine⟨zs.take n,hlen,some x,c,by rw[Yj,hlen],λr hr=>?_,λhne=>?_⟩
  ·obtain⟨y,-,rfl⟩:=List.mem_map.1 hr;rfl
  ·have hn:0<n:=by
    rcases Nat.eq_zero_or_pos n with h | h
    ·subst h;simp at hne
    ·exact h
   obtain⟨b,off,sp⟩:=x;have h0:=hc 0 oM;have hsp:sp=none:=by
    cases sp with
    | none=>rfl
    | some k =>
     simp only[World.cell?,Addr.add]at h0;split at h0<;>simp at h0
   subst hsp;refine⟨b,off,rfl,World.block_lt_of_cell? w _ h0,λi j r hi hj=>?_⟩;have hil:i<n:=by
    have:=(List.getElem?_eq_some_iff.1 hi).1;rw[Yj,hlen]at this;exact this
   obtain rfl:j=0:=by omega
   have hci:=hc i oM;rw[Addr.add_lit]at hci;rw[Nat.mul_one,Nat.add_zero,hci];rw[Yn,List.getElem?_take_of_lt hil]at hi;cases hz':zs[i]? with
   | none=>rw[hz']at hi;simp at hi
   | some v =>
    rw[hz']at hi;simp only[Option.map_some,Y4]at hi;subst hi;simp[Z4,List.getD,hz']
variable{μ:Nat}
theorem Z0t(xs:List Int):ivs xs=(xs.map Z4).flatten:=by
 induction xs with
 | nil=>rfl
 | cons x xs ih=>simp[ivs,Z4]at ih⊢;exact ih
variable{μ:Nat}
section
variable{P:Program}{md:Region.Mode}{ops:Array Oper}{Q:Exit->Act->World->Prop}{T:World->Prop}{stop:Option Nat}
def Zi3(md:Region.Mode)(ops:Array Oper)(S:List Nat)(i:Nat):Prop:=∀k∈S,∃ok,ops[k]?=some ok/\∃e∈ok.after,Region.binds md e=true/\(e.on=i\/e.on∈S)
theorem Z9j{S:List Nat}{i:Nat}{oi:Oper}{v:Value}(hi:ops[i]?=some oi)(hil:stop≠some i)(hS:Zi3 md ops S i)(hst:∀l,stop=some l->l∈S)(hsel:∀(j:Nat) (o:Oper) cs b,ops[j]?=some o->o.op ≠ .select cs b)(hQ:∀c a w,Q (.panic c) (a.put oi.dst v) w->Q (.panic c) a w):
  ∀(fuel:Nat) (listed:Array Bool) (a:Act) (w:World),
   (∀j oj,ops[j]?=some oj->j≠i->listed.getD j true=false->(∀e∈oj.after,Region.binds md e=true->e.on≠i)->oi.apart ops oj=true) ->
   i∈Region.ready md ops listed->YieldsIf P ops (Zjg true T) oi v a->(held stop listed=true->T w)->held stop listed=true->(∀k∈S,listed.getD k true=false) ->
   Zp P md ops Q T stop fuel (listed.setIfInBounds i true) (a.put oi.dst v) w->Zp P md ops Q T stop (fuel+1) listed a w:=by
 intro fuel
 induction fuel with
 | zero =>
  intro listed a w _ hr hy hT hb hU H;refine⟨λh=>(by rw[h]at hr;cases hr),λj hj=>?_⟩;by_cases hji:j=i
  ·subst hji;exact hy.wpOp hi (λh=>hT hb) ⟨λh=>hT (by rwa[Z2e hil]at h),H⟩
  ·have:=ready_mono hj hji;rw[H.1]at this;cases this
 | succ fuel ih =>
  intro listed a w hfree hr hy hT hb hU H;refine⟨λh=>(by rw[h]at hr;cases hr),λj hj=>?_⟩;by_cases hji:j=i
  ·subst hji;exact hy.wpOp hi (λh=>hT hb) ⟨λh=>hT (by rwa[Z2e hil]at h),H⟩
  ·have h1:=H.2 j (ready_mono hj hji);obtain⟨hjun,oj,hoj,hall⟩:=mem_ready.1 hj;have hun:∀n,listed.getD n true=false->∀e∈oj.after,Region.binds md e=true->e.on≠n:=λn h0 e he hb heq=>by
    have h1:=hall e he hb;rw[heq]at h1;rcases Nat.lt_or_ge n listed.size with h' | h'
    ·simp[h']at h0 h1;rw[h0]at h1;cases h1
    ·simp[Array.getElem?_eq_none h']at h1
   have hnot:=hun i (mem_ready.1 hr).1;have hjS:j ∉ S:=λhjS=>by
    obtain⟨ok,hok,e,he,hbd,ho⟩:=hS j hjS;rw[hoj]at hok;cases hok;rcases ho with ho | ho
    ·exact hnot e he hbd ho
    ·exact hun _ (hU _ ho) e he hbd rfl
   have h2:=wpOp_putIf hoj (hfree j oj hoj hji hjun hnot) (λcs b=>hsel i oi cs b hi) (λcs b=>hsel j oj cs b hoj) hQ hy h1;have hfree':∀k ok,ops[k]?=some ok->k≠i->(listed.setIfInBounds j true).getD k true=false ->
     (∀e∈ok.after,Region.binds md e=true->e.on≠i)->oi.apart ops ok=true:=λk ok hk hki hun hno=>by
    refine hfree k ok hk hki ?_ hno;by_cases hjk:j=k
    ·subst hjk;exact hjun
    ·rw[getD_set_ne true hjk]at hun;exact hun
   have key:held stop ((listed.setIfInBounds i true).setIfInBounds j true)=held stop (listed.setIfInBounds j true):=by
    rw[Array.setIfInBounds_comm _ _ (Ne.symm hji),Z2e hil]
   have hb':held stop (listed.setIfInBounds j true)=true:=by
    rw[Z2e (λe=>hjS (hst j e))];exact hb
   have hU':∀k∈S,(listed.setIfInBounds j true).getD k true=false:=λk hk=>by
    have hjk:j≠k:=λe=>by subst e;exact hjS hk
    rw[getD_set_ne true hjk];exact hU k hk
   refine wpOp_mono (λa' w' h3=>⟨λhh=>h3.2.1 (by rw[key];exact hh),ih (listed.setIfInBounds j true) a' w' hfree' (ready_mono hr (Ne.symm hji)) h3.1 (λhh=>h3.2.1 (by rw[key];exact hh)) hb' hU' ?_⟩) h2;rw[Array.setIfInBounds_comm _ _ hji];exact h3.2.2
variable{N:Nat}{D:List Deferred}{a:Act}{L:List (Nat×Value)}{w:World}{fuel:Nat}{listed:Array Bool}{v:Value}
def Zab(md:Region.Mode)(ops:Array Oper)(stop:Option Nat)(S:List Nat)(listed:Array Bool)(i:Nat):Bool:=
 Region.noSelect ops&&Region.free md ops listed i&&(Region.ready md ops listed).contains i&&(stop != some i)&&held stop listed &&
 (match stop with | none=>true | some l=>S.contains l) &&
 S.all λk=>!(listed.getD k true)&&((ops[k]?).map λok=>ok.after.any λe=>Region.binds md e&&(e.on==i||S.contains e.on)).getD false
theorem Has.xr2(F:Has N D a L){i d:Nat}{oi:Oper}(S:List Nat)(hi:ops[i]?=some oi)(hr:∀w,T w->(execOp a.eval oi).run P w = .ok (.value v) w)(hT:held stop listed=true->T w)(h:∀a2,Has N D a2 ((d,v)::L)->Zp P md ops Q T stop fuel (listed.setIfInBounds i true) a2 w)(hd:oi.dst=some d:=by rfl)(hN:d<N:=by decide)(hk:Zab md ops stop S listed i=true:=by kernel_rfl)(hQ:∀c a w,Q (.panic c) (a.put oi.dst v) w->Q (.panic c) a w:=by exact λ_ _ _ h=>h)(hw:Region.wanted oi (yielded ops a.tmps)=true:=by rfl): Zp P md ops Q T stop (fuel+1) listed a w:=by
 simp only[Zab,Y5]at hk;obtain⟨⟨⟨⟨⟨⟨k1,k2⟩,k3⟩,k4⟩,k5⟩,k6⟩,k7⟩:=hk;have k7:=Yl.1 k7;refine Z9j (S:=S) hi (by simpa using k4) (λk hkS=>?_) (λl hl=>by subst hl;simpa using k6) (Region.noSelect_spec k1) hQ fuel listed a w (Region.free_spec hi k2) (by simpa using k3) (.inl ⟨hw,λw hw=>hr w (hw rfl)⟩) hT k5 (λk hkS=>?_) (by rw[hd];exact h _ (F.put hN v))
 ·have q:=k7 k hkS;simp only[Y5]at q;have q2:=q.2;cases ho:ops[k]? with
  | none=>simp[ho]at q2
  | some ok =>
   simp only[ho,Option.map_some,Option.getD_some]at q2;obtain⟨e,he,hbd⟩:=Array.any_eq_true'.1 q2;simp only[Y5,Yo,beq_iff_eq,List.contains_iff_mem]at hbd;exact⟨ok,rfl,e,he,hbd.1,hbd.2⟩
 ·have q:=k7 k hkS;simp only[Y5,Bool.not_eq_true']at q;exact q.1
end
theorem Z9k{P:Program}{o:Oper}{w:World}{a:Act}{s x:Operand}{t:TypeId}(ho:o.op = .call {callee:=.builtin .append,args:=#[s,x],argTypes:=#[t,t]})(base:Nat){e:TypeId}{size bytes:Nat}(ht:P.underlying t=some (.slice e))(hi:(P.info? e).map (λi=>(i.size,i.bytes,i.zero.map (·.cells.size)))=some (size,bytes,some size))(hsz:0<size){v:Value}{n:Nat}{xs:List Value}(hs:a.eval s=v)(hown:w.ownsRow base e size v n xs){g c:Nat}{T:TypeId}{fz:Nat×Nat}{news:List Value}(hx:a.eval x = .slice (some ⟨g,0,none⟩) 1 c)(hg:w.heap[g]?=some (.cells news.toArray T fz))(hl:news.length=size)(h1:∀u∈news,u.oneCell'=true)(hn:n<=1000000)(hbytes:(n+1)*bytes<=140737488355328)(hbase:base<=w.heap.size):
  ∃v' w',(execOp a.eval o).run P w = .ok (.value v') w'/\w'.ownsRow base e size v' (n+1) (xs++news)/\w.grownBy w' v.ownBlock/\(v'.ownBlock=v.ownBlock\/v'.ownBlock=some w.heap.size):=by
 cases hq:P.info? e with
 | none=>simp[hq]at hi
 | some i =>
  simp only[hq,Option.map_some,Y4,Y9,Y3]at hi;obtain⟨hi1,hi2,z,hz,hz2⟩:=hi;obtain⟨v',w',hr,h2,h3,-,h5⟩:=run_append_own_at (P:=P) w base t o.type e i z size bytes ht hq hz hi1 hi2 hz2 hsz v n xs hown ⟨g,0,none⟩ 1 c news oM (λj u hu=>by
   rw[Addr.add_lit,Nat.zero_add,Z3 hg];simpa using hu) h1 (by simp only[maxLen];omega) hbytes hbase
  refine⟨v',w',?_,h2,h3,h5⟩;unfold execOp;simp only[ho,resolve,invoke,builtin,Sem.run_bind,Sem.run_pure,Result.andThen_ok,List.map_toArray,List.map_cons,List.map_nil,hs,hx,hr]
def Z0w(w:World)(v:Value)(xs:List Int):Prop:=∃a c,v = .slice a xs.length c/\Z6 w (.slice a xs.length c) 1 (xs.map Z4)
section
variable{α:Type}
theorem Z7i(key:α->List Int)(d:α)(O:List α){k:Nat}(h:k<O.length): (O.map key).getD k []=key (O.getD k d):=by simp[h]
end
def FamT(w:World)(base:Nat)(L:List (Value×List Int)):Prop:=(∀p∈L,w.ownsRow base 3 1 p.1 p.2.length (ivs p.2))/\L.Pairwise λp q=>∀b,p.1.ownBlock=some b->q.1.ownBlock≠some b
theorem Z0i{w w':World}{base base':Nat}{L:List (Value×List Int)}(h:FamT w base L)(k:∀v n xs,w.ownsRow base 3 1 v n xs->w'.ownsRow base' 3 1 v n xs): FamT w' base' L:=
 ⟨λp hp=>k _ _ _ (h.1 p hp),h.2⟩
theorem Z7e{w:World}{base:Nat}{L M:List (Value×List Int)}(h:FamT w base L)(hp:M.Perm L): FamT w base M:=
 ⟨λp hm=>h.1 p (hp.mem_iff.1 hm),(hp.pairwise_iff (λ{x y} hxy b hb hx=>hxy b hx hb)).2 h.2⟩
theorem Z9x(w:World)(base:Nat):FamT w base []:=⟨λp h=>by simp at h,.nil⟩
theorem Zdq{w:World}{base:Nat}{L:List (Value×List Int)}(h:FamT w base L){p:Value×List Int}(hp:p∈L): Z0w w p.1 p.2:=by
 have o:=h.1 p hp;obtain⟨a,c,e⟩:=Zm o;refine⟨a,c,e,?_⟩;rw[e,Z0t]at o;exact Zw (row:=Z4) o (λ_=>rfl)
theorem Zdp{w:World}{base:Nat}{L:List (Value×List Int)}(h:FamT w base L): ∀q∈L,∀b,q.1.ownBlock=some b->b<w.heap.size:=λq hq b e=>((h.1 q hq).lt b e).2
theorem Z7d{w:World}{b1 b2:Nat}{L O:List (Value×List Int)}(hL:FamT w b1 L)(hO:FamT w b2 O)(hlt:∀q∈O,∀b,q.1.ownBlock=some b->b<b1)(hb:b2<=b1): FamT w b2 (L++O):=by
 refine⟨λp hp=>?_,List.pairwise_append.2 ⟨hL.2,hO.2,λp hp q hq b e hc=>?_⟩⟩
 ·rcases List.mem_append.1 hp with h | h
  ·exact Za (hL.1 p h) hb
  ·exact hO.1 p h
 ·have:=(hL.1 p hp).lt b e;have:=hlt q hq b hc;omega
theorem Z0z(xs:List Int)(v:Int):ivs xs++[.int .i64 v]=ivs (xs++[v]):=by simp[ivs]
def pRow(p:Value×List Int):List Value:=[p.1]
theorem Z8N(O:List (Value×List Int)):O.map (·.1)=(O.map pRow).flatten:=by
 induction O with
 | nil=>rfl
 | cons a l ih=>simp only[List.map_cons,List.flatten_cons,pRow,ih];rfl
theorem Z3P{w:World}{base n c:Nat}{a:Option Addr}{O:List (Value×List Int)}(h:w.ownsRow base 22 1 (.slice a n c) n (O.map (·.1)))(hn:n=O.length): SlAt [] w a 1 O.length (λi=>[(O.getD i (.bool true,[])).1]):=by
 rw[Z8N]at h;exact Z0D h hn (λ_=>rfl) [] sU (.bool true,[])
theorem Z0w.ext{w w':World}{v:Value}{xs:List Int}(h:Z0w w v xs)(e:Ext [] w w'):Z0w w' v xs:=by
 obtain⟨a,c,h1,h2⟩:=h;exact⟨a,c,h1,h2.ext e sU⟩
variable{μ:Nat}
theorem Zdo{w w':World}{base B1 n:Nat}{v:Value}{xs:List Value}{L:List (Value×List Int)}(fam:FamT w base L)(hlt:∀q∈L,∀b,q.1.ownBlock=some b->b<B1)(ro:w.ownsRow B1 3 1 v n xs)(hg:w.grownBy w' v.ownBlock): FamT w' base L:=
 ⟨λp hp=>(fam.1 p hp).kept hg (by
  cases hq:p.1.ownBlock with
  | none=>exact .inl rfl
  | some b =>
   refine .inr λe=>?_;have:=hlt p hp b hq;have:=(ro.lt b e.symm).1;omega),fam.2⟩
variable{μ:Nat}
theorem Zg3(z:Value)(n:Nat):(madeCells #[z] n).toList=List.replicate n z:=by
 apply List.ext_getElem
 ·simp[madeCells]
 ·intro i h1 h2;simp[madeCells,Nat.mod_one]
theorem Z2L{P:Program}{o:Oper}{w:World}{a:Act}{x y:Operand}{t:TypeId}(ho:o.op = .makeSlice t x y)(base:Nat){e:TypeId}{bytes:Nat}{z:Value}(ht:P.underlying t=some (.slice e))(hi:(P.info? e).map (λi=>(i.size,i.bytes,i.zero))=some (1,bytes,some z))(hz:z.cells=#[z]){kl kc:IntKind}{n:Nat}(hx:a.eval x = .int kl n)(hy:a.eval y = .int kc n)(hn:n<=1000)(hb:bytes<=1000)(hbase:base<=w.heap.size):
  ∃v' w',(execOp a.eval o).run P w = .ok (.value v') w'/\w'.ownsRow base e 1 v' n (List.replicate n z)/\w.grownBy w' none/\v' = .slice (some ⟨w.heap.size,0,none⟩) n n:=by
 cases hq:P.info? e with
 | none=>simp[hq]at hi
 | some i =>
  simp only[hq,Option.map_some,Y4,Y9]at hi;obtain⟨h1,h2,h3⟩:=hi;obtain⟨w',hr,ho2,hg⟩:=run_makeSlice_full (P:=P) w base t e i z 1 ht hq h3 h1 kl kc n oM (by rw[h2];exact Yd (Nat.mul_le_mul hb hn) dC) (by simp only[maxLen];omega) hbase;rw[hz,Nat.mul_one,Zg3]at ho2;refine⟨_,w',?_,ho2,hg,rfl⟩;unfold execOp;simp only[ho,hx,hy,Sem.run_bind,Sem.run_pure,Result.andThen_ok,hr]
theorem Z2h{w w':World}{b:Nat}{o:Obj}(hg:w.grownBy w' none)(q:w.heap[b]?=some o): w'.heap[b]?=some o:=by
 rw[hg.block b (Z8 q) sU,q]
theorem Z8M{w w':World}{base n size:Nat}{e:TypeId}{v:Value}{xs:List Value}(hg:w.grownBy w' none)(h:w.ownsRow base e size v n xs): w'.ownsRow base e size v n xs:=
 h.kept hg (by cases v.ownBlock with | none=>exact .inl rfl | some b=>exact .inr sU)
theorem Z7b{X:List Nat}{w0 w w':World}(E:Ext X w0 w)(hg:w.grownBy w' none): Ext X w0 w':=
 ⟨hg.os.trans E.os,hg.tape.trans E.tape,hg.output.trans E.output,Yd E.size hg.size,λk hk hx=>(hg.block k (Y8 hk E.size) sU).trans (E.block k hk hx)⟩
variable{μ:Nat}
theorem Z0N{α:Type}{X:List Nat}{w:World}{a:Option Addr}{n c sz:Nat}{xs:List α}{row:α->List Value}(h:Z6 w (.slice a n c) sz (xs.map row))(k:∀W,Ext X w W->Z6 W (.slice a n c) sz (xs.map row))(d:α): SlAt X w a sz xs.length (λi=>row (xs.getD i d)):=λi hi=>by
 have hne:xs.map row≠[]:=by intro e;have:=congrArg List.length e;simp at this;rw[this]at hi;simp at hi
 obtain⟨b,off,h1,-⟩:=h.range rfl hne;refine⟨b,off,λm c=>by rw[h1],λW E=>?_⟩;obtain⟨b',off',h1',-,h2⟩:=(k W E).range rfl hne;rw[h1]at h1';cases h1';exact h2 i (row (xs.getD i d)) (by simp[hi])
end
section
open Go Go.RowKit
variable{μ:Nat}
inductive Fc where
 | q (n:Nat) (cs:Array Value) (T:TypeId)
 | e (X:List Nat) (w0:World)
 | o (base:Nat) (e:TypeId) (sz:Nat) (v:Value) (n:Nat) (xs:List Value)
 | l (w0:World) (b k:Nat) (nv:Value)
 | f (b:Nat) (M:List (Value×List Int))
def Fc.At(w:World):Fc->Prop
 | .q m cs T=>w.heap[m]?=some (.cells cs T (0,0))
 | .e X w0=>Ext X w0 w
 | .o base E sz v m xs=>w.ownsRow base E sz v m xs
 | .l w0 b k nv=>Zi w0 w b k nv
 | .f b M=>FamT w b M
def Bk(w:World):List Fc->Prop
 | []=>True
 | f::L=>f.At w/\Bk w L
theorem Bk.nil(w:World):Bk w []:=trivial
def nth:List Fc->Nat->Option Fc
 | [],_=>none
 | f::_,0=>some f
 | _::L,i+1=>nth L i
def upf:List Fc->Nat->Fc->Option (List Fc)
 | [],_,_=>none
 | _::L,0,g=>some (g::L)
 | f::L,i+1,g=>match upf L i g with
  | some R=>some (f::R)
  | none=>none
def delf:List Fc->Nat->Option (List Fc)
 | [],_=>none
 | _::L,0=>some L
 | f::L,i+1=>match delf L i with
  | some R=>some (f::R)
  | none=>none
@[reducible] def Fc.lt (n:Nat):Fc->Prop
 | .q k _ _=>k<n
 | .e _ w0=>w0.heap.size<=n
 | .o _ _ _ v _ _=>some n≠v.ownBlock
 | .l w0 b _ _=>w0.heap.size<=n/\b<n
 | .f ..=>True
@[reducible] def LtA (n:Nat):List Fc->Prop
 | []=>True
 | f::L=>f.lt n/\LtA n L
inductive NeA(c:Nat)(T:TypeId):List Fc->Prop
 | n:NeA c T []
 | q {n cs t L} (h:n≠c) (r:NeA c T L):NeA c T (.q n cs t::L)
 | e {X w0 L} (h:c<w0.heap.size->c∈X) (r:NeA c T L):NeA c T (.e X w0::L)
 | o {b e s v n xs L} (h:T≠e\/c<b\/some c≠v.ownBlock) (r:NeA c T L):NeA c T (.o b e s v n xs::L)
 | l {w0 b k nv L} (h:w0.heap.size<=c/\b≠c) (r:NeA c T L):NeA c T (.l w0 b k nv::L)
 | f {b M L} (h:c<b\/T≠3) (r:NeA c T L):NeA c T (.f b M::L)
inductive NeX(X:List Nat):List Fc->Prop
 | n:NeX X []
 | q {n cs t L} (h:n ∉ X) (r:NeX X L):NeX X (.q n cs t::L)
 | e {Y w0 L} (h:∀i∈X,i<w0.heap.size->i∈Y) (r:NeX X L):NeX X (.e Y w0::L)
 | o {b e s v n xs L} (h:∀i∈X,i<b) (r:NeX X L):NeX X (.o b e s v n xs::L)
 | l {w0 b k nv L} (h:False) (r:NeX X L):NeX X (.l w0 b k nv::L)
 | f {b M L} (h:∀i∈X,i<b) (r:NeX X L):NeX X (.f b M::L)
inductive NeG(B:Nat)(E:TypeId)(V:Value):List Fc->Prop
 | n:NeG B E V []
 | q {n cs t L} (h:t≠E\/n<B\/some n≠V.ownBlock) (r:NeG B E V L):NeG B E V (.q n cs t::L)
 | e {Y w0 L} (h:w0.heap.size<=B\/∀c,V.ownBlock=some c->c∈Y) (r:NeG B E V L):NeG B E V (.e Y w0::L)
 | o {b e s v n xs L} (h:e≠E) (r:NeG B E V L):NeG B E V (.o b e s v n xs::L)
 | l {w0 b k nv L} (h:w0.heap.size<=B/\77≠E) (r:NeG B E V L):NeG B E V (.l w0 b k nv::L)
 | f {b M L} (h:3≠E) (r:NeG B E V L):NeG B E V (.f b M::L)
section
variable{w w' w2:World}{L L0 L':List Fc}{n c i:Nat}{T:TypeId}{cs cs':Array Value}
theorem Bk.get:∀{L:List Fc} {i:Nat} {f:Fc},Bk w L->nth L i=some f->f.At w
 | f::L,0,g,B,h=>by cases h;exact B.1
 | f::L,i+1,g,B,h=>Bk.get (L:=L) (i:=i) B.2 h
theorem Bk.q(B:Bk w L)(i:Nat)(h:nth L i=some (.q n cs T):=by rfl):w.heap[n]?=some (.cells cs T (0,0)):=B.get h
theorem Bk.e{X:List Nat}{w0:World}(B:Bk w L)(i:Nat)(h:nth L i=some (.e X w0):=by rfl): Ext X w0 w:=B.get h
theorem Bk.t{X:List Nat}{w0:World}{p:Prop}(B:Bk w L)(i:Nat)(h:nth L i=some (.e X w0):=by rfl): p->Ext X w0 w:=λ_=>B.get h
theorem Bk.o{b s:Nat}{e:TypeId}{v:Value}{xs:List Value}(B:Bk w L)(i:Nat)(h:nth L i=some (.o b e s v n xs):=by rfl): w.ownsRow b e s v n xs:=B.get h
theorem Bk.l{b k:Nat}{w0:World}{nv:Value}(B:Bk w L)(i:Nat)(h:nth L i=some (.l w0 b k nv):=by rfl): Zi w0 w b k nv:=B.get h
theorem Bk.f{b:Nat}{M:List (Value×List Int)}(B:Bk w L)(i:Nat)(h:nth L i=some (.f b M):=by rfl): FamT w b M:=B.get h
theorem Bk.lt:∀{L:List Fc},Bk w L->n=w.heap.size->LtA n L
 | [],_,_=>trivial
 | .q .. :: L,B,h=>⟨by rw[h];exact Z8 B.1,Bk.lt (L:=L) B.2 h⟩
 | .e .. :: L,B,h=>⟨by rw[h];exact B.1.size,Bk.lt (L:=L) B.2 h⟩
 | .o .. :: L,B,h=>⟨Z1C B.1 h,Bk.lt (L:=L) B.2 h⟩
 | .l .. :: L,B,h=>⟨⟨by rw[h];exact B.1.2.2.1.size,by rw[h];exact Z0l B.1⟩,Bk.lt (L:=L) B.2 h⟩
 | .f .. :: L,B,h=>⟨trivial,Bk.lt (L:=L) B.2 h⟩
theorem Bk.al{o:Obj}(hw:w2=w.alloc o):∀{L:List Fc},Bk w L->Bk w2 L
 | [],_=>trivial
 | .q .. :: L,B=>⟨Zf hw B.1,Bk.al hw (L:=L) B.2⟩
 | .e .. :: L,B=>⟨Zv B.1 hw,Bk.al hw (L:=L) B.2⟩
 | .o .. :: L,B=>⟨Z0S hw B.1,Bk.al hw (L:=L) B.2⟩
 | .l .. :: L,B=>⟨ZbJ hw B.1,Bk.al hw (L:=L) B.2⟩
 | .f .. :: L,B=>⟨Z0i B.1 λ_ _ _ h=>Z0S hw h,Bk.al hw (L:=L) B.2⟩
theorem Bk.ex:∀{L:List Fc},Bk w L->Ext [] w w'->Bk w' L
 | [],_,_=>trivial
 | .q .. :: L,B,h=>⟨h.keep0 B.1,Bk.ex (L:=L) B.2 h⟩
 | .e .. :: L,B,h=>⟨Z7c B.1 h,Bk.ex (L:=L) B.2 h⟩
 | .o .. :: L,B,h=>⟨ZG B.1 h sU,Bk.ex (L:=L) B.2 h⟩
 | .l .. :: L,B,h=>⟨ZaS h B.1,Bk.ex (L:=L) B.2 h⟩
 | .f .. :: L,B,h=>⟨Z0i B.1 λ_ _ _ k=>ZG k h sU,Bk.ex (L:=L) B.2 h⟩
theorem kG{A:Act->Value->Prop}{W:Act->Prop}{v:Value}{w w':World}{S:List Fc}(B:Bk w S)(e:Ext [] w w')(h:∀{a2},A a2 v->Bk w' S->W a2):∃u,Ending.returned v = .returned u/\∀{a2},A a2 u->W a2:=⟨v,rfl,λF=>h F (B.ex e)⟩
theorem Bk.up:∀{L L':List Fc} {i:Nat} {g:Fc},g.At w->upf L i g=some L'->(∀L0,delf L i=some L0->Bk w L0)->Bk w L'
 | [],_,_,_,_,h,_=>by cases h
 | f::L,L',0,g,hg,h,H=>by cases h;exact⟨hg,H _ rfl⟩
 | f::L,L',i+1,g,hg,h,H=>by
  cases hu:upf L i g with
  | none=>simp[upf,hu]at h
  | some R =>
   simp only[upf,hu,Y4]at h;subst h;cases hd:delf L i with
   | none =>
    exfalso;have key:∀(L:List Fc) (i:Nat) R,upf L i g=some R->delf L i≠none:=by
     intro L
     induction L with
     | nil=>intro i R h;cases h
     | cons f L ih =>
      intro i R h;cases i with
      | zero=>simp[delf]
      | succ i =>
       cases hu:upf L i g with
       | none=>simp[upf,hu]at h
       | some R =>
        have:=ih i R hu;cases hd:delf L i with
        | none=>exact absurd hd this
        | some R'=>simp[delf,hd]
    exact key _ _ _ hu hd
   | some R0 =>
    have h1:=H (f::R0) (by simp[delf,hd]);exact⟨h1.1,Bk.up hg hu λL0 h0=>by rw[hd]at h0;cases h0;exact h1.2⟩
theorem Bk.del:∀{L L0:List Fc} {i:Nat},Bk w L->delf L i=some L0->Bk w L0
 | [],_,_,_,h=>by cases h
 | f::L,_,0,B,h=>by cases h;exact B.2
 | f::L,L0,i+1,B,h=>by
  cases hd:delf L i with
  | none=>simp[delf,hd]at h
  | some R =>
   simp only[delf,hd,Y4]at h;subst h;exact⟨B.1,Bk.del B.2 hd⟩
theorem Bk.d(B:Bk w L)(i:Nat)(h:delf L i=some L0:=by rfl):Bk w L0:=B.del h
theorem Bk.r{g:Fc}(B:Bk w L)(i:Nat)(hg:g.At w)(h:upf L i g=some L':=by rfl):Bk w L':=Bk.up hg h λ_ h0=>B.del h0
theorem Bk.cq(B:Bk w L)(h:w.heap[n]?=some (.cells cs T (0,0))):Bk w (.q n cs T::L):=⟨h,B⟩
theorem Bk.ce{X:List Nat}{w0:World}(B:Bk w L)(h:Ext X w0 w): Bk w (.e X w0::L):=⟨h,B⟩
theorem Bk.co{b s:Nat}{e:TypeId}{v:Value}{xs:List Value}(B:Bk w L)(h:w.ownsRow b e s v n xs): Bk w (.o b e s v n xs::L):=⟨h,B⟩
theorem Bk.cl{b k:Nat}{w0:World}{nv:Value}(B:Bk w L)(h:Zi w0 w b k nv): Bk w (.l w0 b k nv::L):=⟨h,B⟩
theorem Bk.cf{b:Nat}{M:List (Value×List Int)}(B:Bk w L)(h:FamT w b M): Bk w (.f b M::L):=⟨h,B⟩
theorem Bk.hr(B:Bk w L)(X:List Nat):Bk w (.e X w::L):=⟨Ext.refl _ _,B⟩
theorem Bk.cells{o:Nat}{l:List Value}(hw:w2=w.setCells c o l)(hc:w.heap[c]?=some (.cells cs T (0,0))):∀{L:List Fc},Bk w L->NeA c T L->Bk w2 L
 | [],_,_=>trivial
 | .q .. :: L,B,.q h r=>⟨Z2K hw B.1 h,Bk.cells hw hc (L:=L) B.2 r⟩
 | .e .. :: L,B,.e h r=>⟨Z8u B.1 hw h,Bk.cells hw hc (L:=L) B.2 r⟩
 | .o .. :: L,B,.o h r=>⟨by
   rcases h with h | h | h
   ·exact Z3c hw B.1 (Z0r B.1 hc h)
   ·exact Z6f hw B.1 h
   ·exact Z3c hw B.1 h,Bk.cells hw hc (L:=L) B.2 r⟩
 | .l .. :: L,B,.l h r=>⟨ZbK hw B.1 h.1 h.2,Bk.cells hw hc (L:=L) B.2 r⟩
 | .f .. :: L,B,.f h r=>⟨Z0i B.1 λ_ _ _ k=>by
   rcases h with h | h
   ·exact Z6f hw k h
   ·exact Z3c hw k (Z0r k hc h),Bk.cells hw hc (L:=L) B.2 r⟩
theorem Bk.cell{o:Nat}{u:Value}(hw:w2=w.setCell ⟨c,o,none⟩ u)(hc:w.heap[c]?=some (.cells cs T (0,0))):∀{L:List Fc},Bk w L->NeA c T L->Bk w2 L
 | [],_,_=>trivial
 | .q .. :: L,B,.q h r=>⟨Z2g hw B.1 h,Bk.cell hw hc (L:=L) B.2 r⟩
 | .e .. :: L,B,.e h r=>⟨Z7a B.1 hw h,Bk.cell hw hc (L:=L) B.2 r⟩
 | .o .. :: L,B,.o h r=>⟨by
   rcases h with h | h | h
   ·exact Z2M hw B.1 (Z0r B.1 hc h)
   ·exact Z8L hw B.1 h
   ·exact Z2M hw B.1 h,Bk.cell hw hc (L:=L) B.2 r⟩
 | .l .. :: L,B,.l h r=>⟨ZdV hw B.1 h.1 h.2,Bk.cell hw hc (L:=L) B.2 r⟩
 | .f .. :: L,B,.f h r=>⟨Z0i B.1 λ_ _ _ k=>by
   rcases h with h | h
   ·exact Z8L hw k h
   ·exact Z2M hw k (Z0r k hc h),Bk.cell hw hc (L:=L) B.2 r⟩
theorem Bk.xx{X:List Nat}(e:Ext X w w'):∀{L:List Fc},Bk w L->NeX X L->Bk w' L
 | [],_,_=>trivial
 | .q .. :: L,B,.q h r=>⟨e.keep B.1 h,Bk.xx e (L:=L) B.2 r⟩
 | .e .. :: L,B,.e h r=>⟨B.1.trans' e h,Bk.xx e (L:=L) B.2 r⟩
 | .o .. :: L,B,.o h r=>⟨ZG B.1 e h,Bk.xx e (L:=L) B.2 r⟩
 | .l .. :: L,B,.l h r=>h.elim
 | .f .. :: L,B,.f h r=>⟨Z0i B.1 λ_ _ _ k=>ZG k e h,Bk.xx e (L:=L) B.2 r⟩
theorem Bk.grow{B0 s m:Nat}{E:TypeId}{V:Value}{ys:List Value}(ho:w.ownsRow B0 E s V m ys)(hg:w.grownBy w' V.ownBlock):∀{L:List Fc},Bk w L->NeG B0 E V L->Bk w' L
 | [],_,_=>trivial
 | .q .. :: L,B,.q h r=>⟨by
   rcases h with h | h | h
   ·exact Z3z ho hg B.1 h
   ·exact Z9B ho hg B.1 h
   ·exact(hg.block _ (Z8 B.1) h).trans B.1,Bk.grow ho hg (L:=L) B.2 r⟩
 | .e .. :: L,B,.e h r=>⟨by
   rcases h with h | h
   ·exact Z1S B.1 ho hg h
   ·exact⟨hg.os.trans B.1.os,hg.tape.trans B.1.tape,hg.output.trans B.1.output,Yd B.1.size hg.size,λk hk hx=>(hg.block k (Y8 hk B.1.size) (λe=>hx (h k e.symm))).trans (B.1.block k hk hx)⟩,Bk.grow ho hg (L:=L) B.2 r⟩
 | .o .. :: L,B,.o h r=>⟨Z6h B.1 ho hg h,Bk.grow ho hg (L:=L) B.2 r⟩
 | .l .. :: L,B,.l h r=>⟨Z9J B.1 ho hg h.1 h.2,Bk.grow ho hg (L:=L) B.2 r⟩
 | .f .. :: L,B,.f h r=>⟨Z0i B.1 λ_ _ _ k=>Z6h k ho hg h,Bk.grow ho hg (L:=L) B.2 r⟩
theorem Bk.gn(hg:w.grownBy w' none):∀{L:List Fc},Bk w L->Bk w' L
 | [],_=>trivial
 | .q .. :: L,B=>⟨Z2h hg B.1,Bk.gn hg (L:=L) B.2⟩
 | .e .. :: L,B=>⟨Z7b B.1 hg,Bk.gn hg (L:=L) B.2⟩
 | .o .. :: L,B=>⟨Z8M hg B.1,Bk.gn hg (L:=L) B.2⟩
 | .l .. :: L,B=>⟨ZaS (Z7b (Ext.refl [] _) hg) B.1,Bk.gn hg (L:=L) B.2⟩
 | .f .. :: L,B=>⟨Z0i B.1 λ_ _ _ k=>Z8M hg k,Bk.gn hg (L:=L) B.2⟩
theorem LtA.own{b e s m n:Nat}{v:Value}{xs:List Value}:∀{L:List Fc} (i:Nat),LtA n L->nth L i=some (.o b e s v m xs)->some n≠v.ownBlock
 | f::L,0,h,k=>by cases k;exact h.1
 | f::L,i+1,h,k=>LtA.own (L:=L) i h.2 k
end
variable{μ:Nat}
def opv(L:List (Nat×Value)):Operand->Option Value
 | .tmp k=>L.lookup k
 | .const v=>some v
 | _=>none
def opvs(L:List (Nat×Value)):List Operand->Option (List Value)
 | []=>some []
 | x::l=>match opv L x,opvs L l with
  | some v,some vs=>some (v::vs)
  | _,_=>none
def opvp(L:List (Nat×Value)):List (Nat×Operand)->Option (List (Nat×Value))
 | []=>some []
 | (i,x)::l=>match opv L x,opvp L l with
  | some v,some vs=>some ((i,v)::vs)
  | _,_=>none
def mvO:Op->Option Operand
 | .move x=>some x
 | .assign x=>some x
 | _=>none
def getV:List Value->Nat->Option Value
 | [],_=>none
 | v::_,0=>some v
 | _::l,k+1=>getV l k
def getA(cs:Array Value)(k:Nat):Option Value:=getV cs.toList k
def setV:List Value->Nat->Value->Option (List Value)
 | [],_,_=>none
 | _::l,0,v=>some (v::l)
 | x::l,k+1,v=>match setV l k v with
  | some r=>some (x::r)
  | none=>none
def setA(cs:Array Value)(k:Nat)(v:Value):Option (Array Value):=match setV cs.toList k v with
 | some l=>some l.toArray
 | none=>none
def ZV(L:List (Nat×Value))(ops:Array Oper)(o:Oper):Option Bool:=match o.guard with
 | none=>some true
 | some (j,b)=>match (ops[j]?).bind (·.dst) with
  | some s=>match L.lookup s with
   | some (.bool c)=>some (c==b)
   | some (.tuple _)=>some false
   | _=>none
  | none=>none
def subO(L:List (Nat×Value)):List Nat->Option (List (Nat×Value))
 | []=>some []
 | k::ks=>match L.lookup k,subO L ks with
  | some v,some R=>some ((k,v)::R)
  | _,_=>none
section
variable{N:Nat}{D:List Deferred}{a:Act}{L R:List (Nat×Value)}
theorem Has.op(F:Has N D a L){x:Operand}{v:Value}(h:opv L x=some v): a.eval x=v:=by
 cases x with
 | tmp k=>exact F.at h
 | const u=>cases h;rfl
 | global g=>cases h
 | func f=>cases h
theorem Has.ops(F:Has N D a L):∀{l:List Operand} {vs:List Value},opvs L l=some vs->l.map a.eval=vs
 | [],vs,h=>by cases h;rfl
 | x::l,vs,h=>by
  simp only[opvs]at h;split at h
  ·rename_i v us h1 h2;cases h;rw[List.map_cons,F.op h1,Has.ops F h2]
  ·cases h
theorem Has.opp(F:Has N D a L):∀{l:List (Nat×Operand)} {vs:List (Nat×Value)},opvp L l=some vs->l.map (λp=>(p.1,a.eval p.2))=vs
 | [],vs,h=>by cases h;rfl
 | (i,x)::l,vs,h=>by
  simp only[opvp]at h;split at h
  ·rename_i v us h1 h2;cases h;rw[List.map_cons,F.op h1,Has.opp F h2]
  ·cases h
theorem Z9A:∀{l:List Value} {k:Nat} {v:Value},getV l k=some v->l[k]?=some v
 | v::l,0,u,h=>by cases h;rfl
 | v::l,k+1,u,h=>by simpa using Z9A (l:=l) h
theorem Zdy{cs:Array Value}{k:Nat}{v:Value}(h:getA cs k=some v): cs[k]?=some v:=by simpa using Z9A h
theorem Zey:∀{l r:List Value} {k:Nat} {v:Value},setV l k v=some r->l.set k v=r/\k<l.length
 | x::l,r,0,u,h=>by cases h;exact⟨rfl,sU⟩
 | x::l,r,k+1,u,h=>by
  simp only[setV]at h;split at h
  ·rename_i r' h1;cases h;have:=Zey h1;exact⟨by rw[List.set_cons_succ,this.1],by simpa using this.2⟩
  ·cases h
theorem Zex{cs r:Array Value}{k:Nat}{v:Value}(h:setA cs k v=some r): cs.setIfInBounds k v=r/\∃u,cs[k]?=some u:=by
 simp only[setA]at h;split at h
 ·rename_i l h1;cases h;have:=Zey h1;refine⟨?_,cs.toList[k],by simp[this.2]⟩;rw[<-this.1];apply Array.ext';simp
 ·cases h
theorem Has.want(F:Has N D a L){ops:Array Oper}{o:Oper}{b:Bool}(h:ZV L ops o=some b):Region.wanted o (yielded ops a.tmps)=b:=by
 unfold ZV at h;unfold Region.wanted yielded;split at h
 ·rename_i hg;cases h;simp[hg]
 ·rename_i j c hg;split at h
  ·rename_i s hs;simp only[hg,hs,Option.bind_some];split at h
   ·rename_i c' hl;cases h;have h1:=F.get _ _ hl;rcases Nat.lt_or_ge s a.tmps.size with h2 | h2
    ·rw[Y6,Y2 h2]at h1;rw[Y2 h2];simp only[Option.getD_some]at h1;rw[h1];cases c'<;>cases c<;>rfl
    ·rw[Y6,Array.getElem?_eq_none h2]at h1;cases h1
   ·rename_i x hl;cases h;have h1:=F.get _ _ hl;rcases Nat.lt_or_ge s a.tmps.size with h2 | h2
    ·rw[Y6,Y2 h2]at h1;rw[Y2 h2];simp only[Option.getD_some]at h1;rw[h1];rfl
    ·rw[Array.getElem?_eq_none h2];rfl
   ·cases h
  ·cases h
theorem Z8c:∀{ks:List Nat} {L R:List (Nat×Value)},subO L ks=some R->Z4U L R
 | [],L,R,h=>by cases h;trivial
 | k::ks,L,R,h=>by
  simp only[subO]at h;split at h
  ·rename_i v R' h1 h2;cases h;exact⟨h1,Z8c h2⟩
  ·cases h
theorem Has.b(F:Has N D a L)(ks:List Nat)(h:subO L ks=some R:=by rfl):Has N D a R:=F.sub (Z8c h)
theorem Has.u(F:Has N D a L)(h:Z4U L R:=by repeat (first | exact .n | refine .c _ rfl ?_)):Has N D a R:=F.sub h
end
variable{μ:Nat}
def Zch(P:Program)(t:TypeId):Bool:=match P.underlying t with
 | some d=>!d.isRow
 | none=>false
def rowB(P:Program)(t:TypeId)(k:Nat):Bool:=match P.underlying t,P.info? t with
 | some d,some i=>d.isRow&&Nat.beq i.size k
 | _,_=>false
def Z4e(P:Program)(t:TypeId)(k:Nat):Bool:=match P.info? t with
 | some i=>Nat.beq i.size k
 | _=>false
def slcB(P:Program)(t:TypeId):Bool:=match P.underlying t with
 | some (.slice _)=>true
 | _=>false
def eltB(P:Program)(t:TypeId)(k:Nat):Bool:=match P.underlying t with
 | some (.slice e)=>Z4e P e k
 | _=>false
def arrB(P:Program)(t:TypeId)(n k:Nat):Bool:=match P.underlying t with
 | some (.array m e)=>Nat.beq m n&&Z4e P e k
 | _=>false
def Zih(P:Program)(t:TypeId)(n:Nat):Bool:=match P.underlying t with
 | some (.array m e)=>Nat.beq m n&&Z4e P e 1&&Zch P e
 | _=>false
def fldO(P:Program)(t:TypeId)(f:Nat):Option Nat:=match P.underlying t with
 | some (.struct fs)=>match fs[f]? with
  | some fd=>match P.info? fd.type with
   | some i=>match i.size with
    | 0=>none
    | _+1=>some fd.offset
   | none=>none
  | none=>none
 | _=>none
theorem nea{c:Nat}{T:TypeId}{L:List Fc}(h:NeA c T L:=by repeat (first | exact .n | (refine .q oM ?_) | (refine .e (λh=>by first | omega | (simp;done)) ?_) | (refine .o (by first | exact .inl dC | exact .inr (.inl oM) | exact .inr (.inr (by first | assumption | exact LtA.own 0 (by assumption) (by rfl) | exact LtA.own 1 (by assumption) (by rfl) | exact LtA.own 2 (by assumption) (by rfl) | exact LtA.own 3 (by assumption) (by rfl) | exact LtA.own 4 (by assumption) (by rfl) | exact LtA.own 5 (by assumption) (by rfl) | exact LtA.own 6 (by assumption) (by rfl) | exact LtA.own 7 (by assumption) (by rfl) | exact LtA.own 8 (by assumption) (by rfl) | exact LtA.own 9 (by assumption) (by rfl)))) ?_) | (refine .l oM ?_) | (refine .f (by first | exact .inl oM | exact .inr dC) ?_))): NeA c T L:=h
theorem one1{cs:Array Value}(h:cs.all (·.oneCell')=true:=by first | rfl | (simp[Value.oneCell'];done) | (simp[tubC,Value.oneCell'];done) | (simp[tubR,Value.oneCell'];done) | (simp[Zce,Value.oneCell'];done)): cs.all (·.oneCell')=true:=h
section
variable{P:Program}{ops:Array Oper}{Q:Exit->Act->World->Prop}{o:Oper}{rest:List Oper}{N:Nat}{D:List Deferred}{a:Act}{L:List (Nat×Value)}{w w':World}{v:Value}{d:Nat}
theorem Z13{t k:Nat}(h:Z4e P t k=true): (P.info? t).map (·.size)=some k:=by
 unfold Z4e at h;split at h
 ·rename_i i hi;rw[hi,Option.map_some,Nat.eq_of_beq_eq_true h]
 ·cases h
theorem Zad{t:Nat}(h:Zch P t=true): ∃d,P.underlying t=some d/\d.isRow=false:=by
 unfold Zch at h;split at h
 ·rename_i d hd;exact⟨d,hd,by simpa using h⟩
 ·cases h
theorem ZhU{t k:Nat}(h:rowB P t k=true): ∃d,P.underlying t=some d/\d.isRow=true/\(P.info? t).map (·.size)=some k:=by
 unfold rowB at h;split at h
 ·rename_i d i hd hi;simp only[Y5]at h;exact⟨d,hd,h.1,by rw[hi,Option.map_some,Nat.eq_of_beq_eq_true h.2]⟩
 ·cases h
theorem ZkG{t k:Nat}(h:eltB P t k=true): ∃e,P.underlying t=some (.slice e)/\(P.info? e).map (·.size)=some k:=by
 unfold eltB at h;split at h
 ·rename_i e he;exact⟨e,he,Z13 h⟩
 ·cases h
theorem Zkn{t n k:Nat}(h:arrB P t n k=true): ∃e,P.underlying t=some (.array n e)/\(P.info? e).map (·.size)=some k:=by
 unfold arrB at h;split at h
 ·rename_i m e he;simp only[Y5]at h;rw[<-Nat.eq_of_beq_eq_true h.1];exact⟨e,he,Z13 h.2⟩
 ·cases h
theorem Zly{t:Nat}(h:slcB P t=true): P.underlying t=some (.slice (P.elem t)):=by
 unfold slcB at h;split at h
 ·rename_i e he;rw[he,Program.elem,he]
 ·cases h
theorem Zii{t n:Nat}(h:Zih P t n=true): ∃e,P.underlying t=some (.array n e)/\(P.info? e).map (·.size)=some 1/\∃d,P.underlying e=some d/\d.isRow=false:=by
 unfold Zih at h;split at h
 ·rename_i m e he;simp only[Y5]at h;rw[<-Nat.eq_of_beq_eq_true h.1.1];exact⟨e,he,Z13 h.1.2,Zad h.2⟩
 ·cases h
theorem Has.y(F:Has N D a L)(hr:(execOp a.eval o).run P w = .ok (.value v) w)(hd:o.dst=some d:=by rfl)(hN:d<N:=by decide)(hw:ZV L ops o=some true:=by rfl)(h:∀{a2},Has N D a2 ((d,v)::L)->wpList P ops Q rest a2 w):wpList P ops Q (o::rest) a w:=Z6n F hd hN (F.want hw) hr λ_ F=>h F
theorem Has.m{x:Operand}(F:Has N D a L)(ho:mvO o.op=some x:=by rfl)(hx:opv L x=some v:=by rfl)(hd:o.dst=some d:=by rfl)(hN:d<N:=by decide)(hw:ZV L ops o=some true:=by rfl)(h:∀{a2},Has N D a2 ((d,v)::L)->wpList P ops Q rest a2 w): wpList P ops Q (o::rest) a w:=by
 refine Z6n F hd hN (F.want hw) ?_ λ_ F=>h F;unfold mvO at ho;split at ho
 ·cases ho;exact Z3m (by assumption) (F.op hx)
 ·cases ho;exact Z08 (by assumption) (F.op hx)
 ·cases ho
theorem Has.n(F:Has N D a L)(hd:o.dst=some d:=by rfl)(hN:d<N:=by decide)(hw:ZV L ops o=some false:=by rfl)(h:∀{a2},Has N D a2 ((d,undef)::L)->wpList P ops Q rest a2 w):wpList P ops Q (o::rest) a w:=ZmV F hd hN (F.want hw) λ_ F=>h F
theorem Has.s{K:Act->Prop}(F:Has N D a L)(hr:(execOp a.eval o).run P w = .ok (.value v) w)(hd:o.dst=some d:=by rfl)(hN:d<N:=by decide)(hw:ZV L ops o=some true:=by rfl)(h:∀{a2},Has N D a2 ((d,v)::L)->wpStill P ops w K rest a2): wpStill P ops w K (o::rest) a:=ZhW F hd hN (F.want hw) hr λ_ F=>h F
theorem Has.sm{K:Act->Prop}{x:Operand}(F:Has N D a L)(ho:mvO o.op=some x:=by rfl)(hx:opv L x=some v:=by rfl)(hd:o.dst=some d:=by rfl)(hN:d<N:=by decide)(hw:ZV L ops o=some true:=by rfl)(h:∀{a2},Has N D a2 ((d,v)::L)->wpStill P ops w K rest a2): wpStill P ops w K (o::rest) a:=by
 refine ZhW F hd hN (F.want hw) ?_ λ_ F=>h F;unfold mvO at ho;split at ho
 ·cases ho;exact Z3m (by assumption) (F.op hx)
 ·cases ho;exact Z08 (by assumption) (F.op hx)
 ·cases ho
theorem Has.sn{K:Act->Prop}(F:Has N D a L)(hd:o.dst=some d:=by rfl)(hN:d<N:=by decide)(hw:ZV L ops o=some false:=by rfl)(h:∀{a2},Has N D a2 ((d,undef)::L)->wpStill P ops w K rest a2): wpStill P ops w K (o::rest) a:=Zn2 F hd hN (F.want hw) λ_ F=>h F
theorem Has.ls{x y:Operand}{t t':TypeId}{k:IntKind}{n m:Int}(F:Has N D a L)(ho:o.op = .binOp .lss t x y t':=by rfl)(hx:opv L x=some (.int k n):=by rfl)(hy:opv L y=some (.int k m):=by rfl): (execOp a.eval o).run P w = .ok (.value (.bool (decide (n<m)))) w:=Zcx ho (F.op hx) (F.op hy)
theorem Has.lsT{x y:Operand}{t t':TypeId}{k:IntKind}{n m:Int}(F:Has N D a L)(ho:o.op = .binOp .lss t x y t':=by rfl)(hx:opv L x=some (.int k n):=by rfl)(hy:opv L y=some (.int k m):=by rfl)(h:n<m:=by omega): (execOp a.eval o).run P w = .ok (.value (.bool true)) w:=Zhj ho (F.op hx) (F.op hy) (decide_eq_true h)
theorem Has.lsF{x y:Operand}{t t':TypeId}{k:IntKind}{n m:Int}(F:Has N D a L)(ho:o.op = .binOp .lss t x y t':=by rfl)(hx:opv L x=some (.int k n):=by rfl)(hy:opv L y=some (.int k m):=by rfl)(h:¬(n<m):=by omega): (execOp a.eval o).run P w = .ok (.value (.bool false)) w:=Zhj ho (F.op hx) (F.op hy) (decide_eq_false h)
theorem Has.le{x y:Operand}{t t':TypeId}{k:IntKind}{n m:Int}(F:Has N D a L)(ho:o.op = .binOp .leq t x y t':=by rfl)(hx:opv L x=some (.int k n):=by rfl)(hy:opv L y=some (.int k m):=by rfl): (execOp a.eval o).run P w = .ok (.value (.bool (decide (n<=m)))) w:=Zkd ho (F.op hx) (F.op hy)
theorem Has.leT{x y:Operand}{t t':TypeId}{k:IntKind}{n m:Int}(F:Has N D a L)(ho:o.op = .binOp .leq t x y t':=by rfl)(hx:opv L x=some (.int k n):=by rfl)(hy:opv L y=some (.int k m):=by rfl)(h:n<=m:=by omega): (execOp a.eval o).run P w = .ok (.value (.bool true)) w:=Zhi ho (F.op hx) (F.op hy) (decide_eq_true h)
theorem Has.leF{x y:Operand}{t t':TypeId}{k:IntKind}{n m:Int}(F:Has N D a L)(ho:o.op = .binOp .leq t x y t':=by rfl)(hx:opv L x=some (.int k n):=by rfl)(hy:opv L y=some (.int k m):=by rfl)(h:¬(n<=m):=by omega): (execOp a.eval o).run P w = .ok (.value (.bool false)) w:=Zhi ho (F.op hx) (F.op hy) (decide_eq_false h)
theorem Has.gt{x y:Operand}{t t':TypeId}{k:IntKind}{n m:Int}(F:Has N D a L)(ho:o.op = .binOp .gtr t x y t':=by rfl)(hx:opv L x=some (.int k n):=by rfl)(hy:opv L y=some (.int k m):=by rfl): (execOp a.eval o).run P w = .ok (.value (.bool (decide (m<n)))) w:=Zkc ho (F.op hx) (F.op hy)
theorem Has.gtT{x y:Operand}{t t':TypeId}{k:IntKind}{n m:Int}(F:Has N D a L)(ho:o.op = .binOp .gtr t x y t':=by rfl)(hx:opv L x=some (.int k n):=by rfl)(hy:opv L y=some (.int k m):=by rfl)(h:m<n:=by omega): (execOp a.eval o).run P w = .ok (.value (.bool true)) w:=Zhh ho (F.op hx) (F.op hy) (decide_eq_true h)
theorem Has.gtF{x y:Operand}{t t':TypeId}{k:IntKind}{n m:Int}(F:Has N D a L)(ho:o.op = .binOp .gtr t x y t':=by rfl)(hx:opv L x=some (.int k n):=by rfl)(hy:opv L y=some (.int k m):=by rfl)(h:¬(m<n):=by omega): (execOp a.eval o).run P w = .ok (.value (.bool false)) w:=Zhh ho (F.op hx) (F.op hy) (decide_eq_false h)
theorem Has.ge{x y:Operand}{t t':TypeId}{k:IntKind}{n m:Int}(F:Has N D a L)(ho:o.op = .binOp .geq t x y t':=by rfl)(hx:opv L x=some (.int k n):=by rfl)(hy:opv L y=some (.int k m):=by rfl): (execOp a.eval o).run P w = .ok (.value (.bool (decide (m<=n)))) w:=Zkb ho (F.op hx) (F.op hy)
theorem Has.geT{x y:Operand}{t t':TypeId}{k:IntKind}{n m:Int}(F:Has N D a L)(ho:o.op = .binOp .geq t x y t':=by rfl)(hx:opv L x=some (.int k n):=by rfl)(hy:opv L y=some (.int k m):=by rfl)(h:m<=n:=by omega): (execOp a.eval o).run P w = .ok (.value (.bool true)) w:=Zhg ho (F.op hx) (F.op hy) (decide_eq_true h)
theorem Has.geF{x y:Operand}{t t':TypeId}{k:IntKind}{n m:Int}(F:Has N D a L)(ho:o.op = .binOp .geq t x y t':=by rfl)(hx:opv L x=some (.int k n):=by rfl)(hy:opv L y=some (.int k m):=by rfl)(h:¬(m<=n):=by omega): (execOp a.eval o).run P w = .ok (.value (.bool false)) w:=Zhg ho (F.op hx) (F.op hy) (decide_eq_false h)
theorem Has.eq{x y:Operand}{t t':TypeId}{k:IntKind}{n m:Int}(F:Has N D a L)(ho:o.op = .binOp .eql t x y t':=by rfl)(hx:opv L x=some (.int k n):=by rfl)(hy:opv L y=some (.int k m):=by rfl): (execOp a.eval o).run P w = .ok (.value (.bool (decide (n=m)))) w:=Zak ho (F.op hx) (F.op hy)
theorem Has.eqT{x y:Operand}{t t':TypeId}{k:IntKind}{n m:Int}(F:Has N D a L)(ho:o.op = .binOp .eql t x y t':=by rfl)(hx:opv L x=some (.int k n):=by rfl)(hy:opv L y=some (.int k m):=by rfl)(h:n=m:=by omega): (execOp a.eval o).run P w = .ok (.value (.bool true)) w:=Zaj ho (F.op hx) (F.op hy) (decide_eq_true h)
theorem Has.ne{x y:Operand}{t t':TypeId}{k:IntKind}{n m:Int}(F:Has N D a L)(ho:o.op = .binOp .neq t x y t':=by rfl)(hx:opv L x=some (.int k n):=by rfl)(hy:opv L y=some (.int k m):=by rfl): (execOp a.eval o).run P w = .ok (.value (.bool (decide (¬(n=m))))) w:=Zke ho (F.op hx) (F.op hy)
theorem Has.neF{x y:Operand}{t t':TypeId}{k:IntKind}{n m:Int}(F:Has N D a L)(ho:o.op = .binOp .neq t x y t':=by rfl)(hx:opv L x=some (.int k n):=by rfl)(hy:opv L y=some (.int k m):=by rfl)(h:n=m:=by omega): (execOp a.eval o).run P w = .ok (.value (.bool false)) w:=Zhk ho (F.op hx) (F.op hy) (decide_eq_true h)
theorem Has.ad{x y:Operand}{t t':TypeId}{n m:Int}(F:Has N D a L)(ho:o.op = .binOp .add t x y t':=by rfl)(hx:opv L x=some (.int .i64 n):=by rfl)(hy:opv L y=some (.int .i64 m):=by rfl)(h1:-9223372036854775808<=n+m:=by omega)(h2:n+m<=9223372036854775807:=by omega): (execOp a.eval o).run P w = .ok (.value (.int .i64 (n+m))) w:=Z87 ho (F.op hx) (F.op hy) h1 h2
theorem Has.sb{x y:Operand}{t t':TypeId}{n m:Int}(F:Has N D a L)(ho:o.op = .binOp .sub t x y t':=by rfl)(hx:opv L x=some (.int .i64 n):=by rfl)(hy:opv L y=some (.int .i64 m):=by rfl)(h1:-9223372036854775808<=n-m:=by omega)(h2:n-m<=9223372036854775807:=by omega): (execOp a.eval o).run P w = .ok (.value (.int .i64 (n-m))) w:=Zkj ho (F.op hx) (F.op hy) h1 h2
theorem Has.ml{x y:Operand}{t t':TypeId}{n m:Int}(F:Has N D a L)(ho:o.op = .binOp .mul t x y t':=by rfl)(hx:opv L x=some (.int .i64 n):=by rfl)(hy:opv L y=some (.int .i64 m):=by rfl)(h1:-9223372036854775808<=n*m:=by omega)(h2:n*m<=9223372036854775807:=by omega): (execOp a.eval o).run P w = .ok (.value (.int .i64 (n*m))) w:=Zm6 ho (F.op hx) (F.op hy) h1 h2
theorem Has.ng{x:Operand}{t:TypeId}{n:Int}(F:Has N D a L)(ho:o.op = .unOp .neg t x:=by rfl)(hx:opv L x=some (.int .i64 n):=by rfl)(h1:-9223372036854775807<=n:=by omega)(h2:n<=9223372036854775807:=by omega): (execOp a.eval o).run P w = .ok (.value (.int .i64 (-n))) w:=Zm7 ho (F.op hx) h1 h2
theorem Has.nb{x:Operand}{t:TypeId}{b:Bool}(F:Has N D a L)(ho:o.op = .unOp .not t x:=by rfl)(hx:opv L x=some (.bool b):=by rfl): (execOp a.eval o).run P w = .ok (.value (.bool !b)) w:=Zi8 ho (F.op hx)
theorem Has.nd{x:Operand}{t:TypeId}{p:Prop}{_:Decidable p}(F:Has N D a L)(ho:o.op = .unOp .not t x:=by rfl)(hx:opv L x=some (.bool (decide p)):=by rfl): (execOp a.eval o).run P w = .ok (.value (.bool (decide (¬p)))) w:=Zkf ho (F.op hx)
theorem Has.pT{c x y:Operand}(F:Has N D a L)(ho:o.op = .pick c x y:=by rfl)(hc:opv L c=some (.bool true):=by rfl)(hx:opv L x=some v:=by rfl): (execOp a.eval o).run P w = .ok (.value v) w:=ZcC ho (F.op hc) (F.op hx)
theorem Has.pF{c x y:Operand}(F:Has N D a L)(ho:o.op = .pick c x y:=by rfl)(hc:opv L c=some (.bool false):=by rfl)(hx:opv L y=some v:=by rfl): (execOp a.eval o).run P w = .ok (.value v) w:=ZcB ho (F.op hc) (F.op hx)
theorem Has.mo{x:Operand}(F:Has N D a L)(ho:mvO o.op=some x:=by rfl)(hx:opv L x=some v:=by rfl): (execOp a.eval o).run P w = .ok (.value v) w:=by
 unfold mvO at ho;split at ho
 ·cases ho;exact Z3m (by assumption) (F.op hx)
 ·cases ho;exact Z08 (by assumption) (F.op hx)
 ·cases ho
theorem Has.xt{x:Operand}{k:Nat}{vs:Array Value}(F:Has N D a L)(ho:o.op = .extract x k:=by rfl)(hx:opv L x=some (.tuple vs):=by rfl)(hv:getA vs k=some v:=by rfl): (execOp a.eval o).run P w = .ok (.value v) w:=Zcu ho (F.op hx) (Zdy hv)
theorem Has.ln{x:Operand}{t:TypeId}{p:Option Addr}{n c:Nat}(F:Has N D a L)(ho:o.op = .call {callee:=.builtin .len,args:=#[x],argTypes:=#[t]}:=by rfl)(hx:opv L x=some (.slice p n c):=by rfl)(hu:slcB P t=true:=by kernel_rfl): (execOp a.eval o).run P w = .ok (.value (.int .i64 n)) w:=Z8a ho rfl (F.op hx) (Zly hu)
theorem Has.mn{x y:Operand}{t t':TypeId}{n m:Int}(F:Has N D a L)(ho:o.op = .call {callee:=.builtin .min,args:=#[x,y],argTypes:=#[t,t']}:=by rfl)(hx:opv L x=some (.int .i64 n):=by rfl)(hy:opv L y=some (.int .i64 m):=by rfl): (execOp a.eval o).run P w = .ok (.value (.int .i64 (min n m))) w:=Zm5 ho rfl (F.op hx) (F.op hy)
theorem Has.mx{x y:Operand}{t t':TypeId}{n m:Int}(F:Has N D a L)(ho:o.op = .call {callee:=.builtin .max,args:=#[x,y],argTypes:=#[t,t']}:=by rfl)(hx:opv L x=some (.int .i64 n):=by rfl)(hy:opv L y=some (.int .i64 m):=by rfl): (execOp a.eval o).run P w = .ok (.value (.int .i64 (max n m))) w:=Zm4 ho rfl (F.op hx) (F.op hy)
theorem Has.nc{x:Operand}{b:Addr}(F:Has N D a L)(ho:o.op = .nilCheck x:=by rfl)(hx:opv L x=some (.pointer (some b)):=by rfl): (execOp a.eval o).run P w = .ok (.value (.pointer (some b))) w:=Zbq ho (F.op hx)
theorem Has.fd{x:Operand}{t:TypeId}{f b off:Nat}(F:Has N D a L)(n:Nat)(ho:o.op = .fieldAddr t x f:=by rfl)(hx:opv L x=some (.pointer (some ⟨b,off,none⟩)):=by rfl)(hk:(fldO P t f).map (off + ·)=some n:=by kernel_rfl):(execOp a.eval o).run P w = .ok (.value (.pointer (some ⟨b,n,none⟩))) w:=by
 unfold fldO at hk;split at hk
 ·rename_i fs hu;split at hk
  ·rename_i fd hf;split at hk
   ·rename_i i hi;split at hk
    ·cases hk
    ·rename_i k hs;simp only[Option.map_some,Y4]at hk;exact Z0p ho (F.op hx) hu hf hk (sz:=k+1) (by rw[hi,Option.map_some,hs]) oM
   ·cases hk
  ·cases hk
 ·cases hk
theorem Has.lb{x:Operand}{t:TypeId}{b:Nat}{cs:Array Value}{T:TypeId}{fz:Nat×Nat}(F:Has N D a L)(H:w.heap[b]?=some (.cells cs T fz))(ho:o.op = .load t x:=by rfl)(hx:opv L x=some (.pointer (some ⟨b,0,none⟩)):=by rfl)(hk:rowB P t cs.size=true:=by kernel_rfl): (execOp a.eval o).run P w = .ok (.value (.agg cs)) w:=by
 obtain⟨d,h1,h2,h3⟩:=ZhU hk;exact Z28 ho (F.op hx) h1 h2 h3 H
theorem Has.lc{x:Operand}{t:TypeId}{b off:Nat}{cs:Array Value}{T:TypeId}{fz:Nat×Nat}(F:Has N D a L)(H:w.heap[b]?=some (.cells cs T fz))(ho:o.op = .load t x:=by rfl)(hx:opv L x=some (.pointer (some ⟨b,off,none⟩)):=by rfl)(hv:getA cs off=some v:=by rfl)(hk:Zch P t=true:=by kernel_rfl): (execOp a.eval o).run P w = .ok (.value v) w:=by
 obtain⟨d,h1,h2⟩:=Zad hk;exact Z1e ho (F.op hx) h1 h2 ((Z3 H off).trans (Zdy hv))
theorem Has.lr{x:Operand}{t:TypeId}{b off:Nat}{cs:List Value}(F:Has N D a L)(H:w.rangeAt b off cs)(ho:o.op = .load t x:=by rfl)(hx:opv L x=some (.pointer (some ⟨b,off,none⟩)):=by rfl)(hk:rowB P t cs.length=true:=by kernel_rfl): (execOp a.eval o).run P w = .ok (.value (.agg cs.toArray)) w:=by
 obtain⟨d,h1,h2,h3⟩:=ZhU hk;exact Z8b ho (F.op hx) h1 h2 h3 H
theorem Has.lw{x:Operand}{t:TypeId}{b off:Nat}(F:Has N D a L)(H:w.cell? ⟨b,off,none⟩=some v)(ho:o.op = .load t x:=by rfl)(hx:opv L x=some (.pointer (some ⟨b,off,none⟩)):=by rfl)(hk:Zch P t=true:=by kernel_rfl): (execOp a.eval o).run P w = .ok (.value v) w:=by
 obtain⟨d,h1,h2⟩:=Zad hk;exact Z1e ho (F.op hx) h1 h2 H
theorem Has.l1{x:Operand}{t:TypeId}{b off:Nat}{cs:List Value}(F:Has N D a L)(H:w.rangeAt b off cs)(j:Nat)(ho:o.op = .load t x:=by rfl)(hx:opv L x=some (.pointer (some ⟨b,off+j,none⟩)):=by rfl)(hv:getV cs j=some v:=by rfl)(hk:Zch P t=true:=by kernel_rfl): (execOp a.eval o).run P w = .ok (.value v) w:=F.lw (H j _ (Z9A hv)) ho hx hk
theorem Has.ia{x ix:Operand}{t:TypeId}{k:IntKind}{i:Int}{b off:Nat}(F:Has N D a L)(n sz:Nat)(ho:o.op = .indexAddr t x ix:=by rfl)(hx:opv L x=some (.pointer (some ⟨b,off,none⟩)):=by rfl)(hi:opv L ix=some (.int k i):=by rfl)(hk:arrB P t n sz=true:=by kernel_rfl)(h0:0<=i:=by omega)(h1:i<n:=by omega): (execOp a.eval o).run P w = .ok (.value (.pointer (some ⟨b,off+i.toNat*sz,none⟩))) w:=by
 obtain⟨e,h2,h3⟩:=Zkn hk;exact Z4V ho (F.op hx) (F.op hi) h2 h3 h0 h1
theorem Has.iv{x ix:Operand}{t:TypeId}{k:IntKind}{i:Int}{cs:Array Value}(F:Has N D a L)(n:Nat)(hv:cs[i.toNat]?=some v)(ho:o.op = .index t x ix:=by rfl)(hx:opv L x=some (.agg cs):=by rfl)(hi:opv L ix=some (.int k i):=by rfl)(hk:Zih P t n=true:=by kernel_rfl)(h0:0<=i:=by omega)(h1:i<n:=by omega): (execOp a.eval o).run P w = .ok (.value v) w:=by
 obtain⟨e,h2,h3,d,h4,h5⟩:=Zii hk;exact Zi7 ho (F.op hx) (F.op hi) h2 h3 h4 h5 h0 h1 hv
theorem Has.is{x ix:Operand}{t:TypeId}{k:IntKind}{i:Int}{p:Option Addr}{b off len cap:Nat}(F:Has N D a L)(sz:Nat)(hp:∀m c,Value.slice p m c = .slice (some ⟨b,off,none⟩) m c)(ho:o.op = .indexAddr t x ix:=by rfl)(hx:opv L x=some (.slice p len cap):=by rfl)(hi:opv L ix=some (.int k i):=by rfl)(hk:eltB P t sz=true:=by kernel_rfl)(h0:0<=i:=by omega)(h1:i<len:=by omega): (execOp a.eval o).run P w = .ok (.value (.pointer (some ⟨b,off+i.toNat*sz,none⟩))) w:=by
 obtain⟨e,h2,h3⟩:=ZkG hk;exact Z89 ho ((F.op hx).trans (hp _ _)) (F.op hi) h2 h3 h0 h1
theorem Has.bv{t:TypeId}{l:List (Nat×Operand)}{vs:List (Nat×Value)}(F:Has N D a L)(cells:Array Value)(ho:o.op = .build t l.toArray:=by rfl)(hp:opvp L l=some vs:=by rfl)(h:P.built t vs=some cells:=by kernel_rfl): (execOp a.eval o).run P w = .ok (.value (.agg cells)) w:=Zfg ho (F.opp hp) h
theorem Has.mf{fn:Fn}{l1 l2:List Operand}{us: List Value}(F:Has N D a L)(ho:o.op = .makeFunc fn l1.toArray l2.toArray:=by rfl)(h1:opvs L l1=some us:=by rfl)(h2:opvs L l2=some vs:=by rfl): (execOp a.eval o).run P w = .ok (.value (.func fn us.toArray vs.toArray)) w:=Z5U ho (Z9M (F.ops h1)) (Z9M (F.ops h2))
def Z6O(P:Program)(f:FuncId):Bool:=match P.funcs[f]? with
 | some fn=>fn.body.isSome && !(fn.name == "runtime.NumGoroutine")
 | none=>false
theorem Ziq{f:FuncId}(h:Z6O P f=true)(args:Array Value)(w:World): (callFunc f args).run P w = .ok (.enter f args) w:=by
 have e3:∀(Z:Program->Sem Next),(program >>= Z).run P w=(Z P).run P w:=λZ=>rfl;unfold Z6O at h;split at h
 ·rename_i fn hf;simp only[Y5,Bool.not_eq_true']at h;have h1:fn.body.isNone=false:=by cases hb:fn.body with
   | none=>rw[hb]at h;simp at h
   | some c=>rfl
  unfold callFunc;rw[e3];simp only[hf,h.2,h1];rfl
 ·cases h
theorem Has.rc{f:FuncId}{l:List Operand}{ts:Array TypeId}(F:Has N D a L)(C:Z6O P f=true)(ho:o.op = .call {callee:=.value (.func f),args:=l.toArray,argTypes:=ts})(ha:opvs L l=some vs): (execOp a.eval o).run P w = .ok (.enter f vs.toArray) w:=Zcs ho rfl (Ziq C) (F.ops ha)
theorem Has.k{f:FuncId}{l:List Operand}{ts:Array TypeId}{R:Ending->World->Prop}(F:Has N D a L)(hc:Calls P f vs.toArray w R)(C:Z6O P f=true:=by kernel_rfl)(ho:o.op = .call {callee:=.value (.func f),args:=l.toArray,argTypes:=ts}:=by rfl)(ha:opvs L l=some vs:=by rfl)(hd:o.dst=some d:=by rfl)(hN:d<N:=by decide)(hw:ZV L ops o=some true:=by rfl)(h:∀e w',R e w'->∃v,e = .returned v/\∀{a2},Has N D a2 ((d,v)::L)->wpList P ops Q rest a2 w'): wpList P ops Q (o::rest) a w:=Za2 F hd hN (F.want hw) (F.rc C ho ha) hc λe w' hR=>by
 obtain⟨v,h1,h2⟩:=h e w' hR;exact⟨v,h1,λ_ F=>h2 F⟩
theorem Has.k0{f:FuncId}{l:List Operand}{ts:Array TypeId}{S:List Fc}(F:Has N D a L)(B:Bk w S)(hc:Calls P f vs.toArray w λe w'=>e = .returned v/\Ext [] w w')(C:Z6O P f=true:=by kernel_rfl)(ho:o.op = .call {callee:=.value (.func f),args:=l.toArray,argTypes:=ts}:=by rfl)(ha:opvs L l=some vs:=by rfl)(hd:o.dst=some d:=by rfl)(hN:d<N:=by decide)(hw:ZV L ops o=some true:=by rfl)(h:∀{w' a2},Has N D a2 ((d,v)::L)->Bk w' S->wpList P ops Q rest a2 w'): wpList P ops Q (o::rest) a w:=F.k hc C ho ha hd hN hw λe w' hR=>⟨v,hR.1,λF=>h F (B.ex hR.2)⟩
def boxO:Value->Option (Array Value)
 | .agg cs=>some cs
 | v=>some #[v]
theorem ZcK{v:Value}{cs:Array Value}(h:boxO v=some cs): v.cells=cs:=by
 cases v<;>(simp only[boxO,Y4]at h;exact h)
theorem Has.al{T:TypeId}{z:Value}{cs:Array Value}{S:List Fc}(F:Has N D a L)(B:Bk w S)(hz:∀w,(zeroValue T).run P w = .ok z w)(ho:o.op = .alloc T:=by rfl)(hd:o.dst=some d:=by rfl)(hN:d<N:=by decide)(hw:ZV L ops o=some true:=by rfl)(hv:boxO z=some cs:=by rfl)(h:∀{n w2 a2},LtA n S->Has N D a2 ((d,.pointer (some ⟨n,0,none⟩))::L)->Bk w2 (.q n cs T::S)->wpList P ops Q rest a2 w2):wpList P ops Q (o::rest) a w:=by
 obtain rfl:=ZcK hv;exact Z5r F hd hN (F.want hw) (Z2Z ho hz) λ_ _ F hw=>h (B.lt rfl) F ⟨Z0m hw rfl,B.al hw⟩
theorem Has.bx{T:TypeId}{x:Operand}{cs:Array Value}{S:List Fc}(F:Has N D a L)(B:Bk w S)(ho:o.op = .box T x:=by rfl)(hx:opv L x=some v:=by rfl)(hv:boxO v=some cs:=by rfl)(hd:o.dst=some d:=by rfl)(hN:d<N:=by decide)(hw:ZV L ops o=some true:=by rfl)(h:∀{n w2 a2},LtA n S->Has N D a2 ((d,.pointer (some ⟨n,0,none⟩))::L)->Bk w2 (.q n cs T::S)->wpList P ops Q rest a2 w2): wpList P ops Q (o::rest) a w:=by
 obtain rfl:=ZcK hv;exact Z5r F hd hN (F.want hw) (Zcr ho (F.op hx)) λ_ _ F hw=>h (B.lt rfl) F ⟨Z0m hw rfl,B.al hw⟩
theorem Has.st{x y:Operand}{t b off T:Nat}{cs cs':Array Value}{S S0 S':List Fc}(F:Has N D a L)(B:Bk w S)(i:Nat)(ho:o.op = .store t x y:=by rfl)(hx:opv L x=some (.pointer (some ⟨b,off,none⟩)):=by rfl)(hy:opv L y=some v:=by rfl)(hi:nth S i=some (.q b cs T):=by rfl)(hc:setA cs off v=some cs':=by rfl)(hu:upf S i (.q b cs' T)=some S':=by rfl)(h0:delf S i=some S0:=by rfl)(h1:v.oneCell'=true:=by rfl)(hs:Z4e P t 1=true:=by kernel_rfl)(hn:NeA b T S0:=by exact nea)(hd:o.dst=none:=by rfl)(hw:ZV L ops o=some true:=by rfl)(h:∀{w2},Bk w2 S'->wpList P ops Q rest a w2): wpList P ops Q (o::rest) a w:=by
 obtain⟨hc1,u,hc2⟩:=Zex hc;have q:=B.get hi;refine Z3S hd (F.want hw) (ZW ho (F.op hx) (F.op hy) h1 (Z13 hs) ((Z3 q off).trans hc2) (Zg q off)) λw2 hw=>h ?_;exact Bk.up (g:=.q b cs' T) (ZU hw q hc1) hu λL0 h2=>by
  rw[h0]at h2;cases h2;exact Bk.cell hw q (B.del h0) hn
theorem Has.sr{x y:Operand}{t b T:Nat}{cs cs':Array Value}{S S0 S':List Fc}(F:Has N D a L)(B:Bk w S)(i:Nat)(ho:o.op = .store t x y:=by rfl)(hx:opv L x=some (.pointer (some ⟨b,0,none⟩)):=by rfl)(hy:opv L y=some (.agg cs'):=by rfl)(hi:nth S i=some (.q b cs T):=by rfl)(hz:cs.size=cs'.size:=by rfl)(hu:upf S i (.q b cs' T)=some S':=by rfl)(h0:delf S i=some S0:=by rfl)(hs:Z4e P t cs'.size=true:=by kernel_rfl)(h1:cs'.all (·.oneCell')=true:=by exact one1)(hn:NeA b T S0:=by exact nea)(hd:o.dst=none:=by rfl)(hw:ZV L ops o=some true:=by rfl)(h:∀{w2},Bk w2 S'->wpList P ops Q rest a w2): wpList P ops Q (o::rest) a w:=by
 have q:=B.get hi;refine Z3S hd (F.want hw) (Z5X ho (F.op hx) (F.op hy) (Z13 hs) h1 q hz) λw2 hw=>h ?_;exact Bk.up (g:=.q b cs' T) (Z7C hw q hz) hu λL0 h2=>by
  rw[h0]at h2;cases h2;exact Bk.cells hw q (B.del h0) hn
end
variable{μ:Nat}
def Zfs:List Fc->Option (List Fc)
 | []=>some []
 | f::L=>match Zfs L with
  | some R=>some (f::R)
  | none=>none
def Zgp(L:List Fc):List Nat->Option (List Fc)
 | []=>some []
 | i::l=>match nth L i,Zgp L l with
  | some f,some R=>some (f::R)
  | _,_=>none
inductive AmF(L:List Fc):List Fc->Prop
 | n:AmF L []
 | c {f R} (i:Nat) (h:nth L i=some f) (r:AmF L R):AmF L (f::R)
theorem Bk.am{w:World}{L:List Fc}(B:Bk w L):∀{R:List Fc},AmF L R->Bk w R
 | [],_=>trivial
 | f::R,.c i h r=>⟨B.get h,Bk.am B r⟩
theorem Zd0:∀{L R:List Fc},Zfs L=some R->L=R
 | [],R,h=>by cases h;rfl
 | f::L,R,h=>by
  simp only[Zfs]at h;split at h
  ·rename_i R' h1;cases h;rw[Zd0 h1]
  ·cases h
theorem Zeh{L:List Fc}:∀{l:List Nat} {R:List Fc},Zgp L l=some R->AmF L R
 | [],R,h=>by cases h;exact .n
 | i::l,R,h=>by
  simp only[Zgp]at h;split at h
  ·rename_i f R' h1 h2;cases h;exact .c i h1 (Zeh h2)
  ·cases h
theorem Bk.z{w:World}{L L':List Fc}(B:Bk w L)(h:Zfs L=some L':=by rfl): Bk w L':=Zd0 h▸B
theorem Bk.u{w:World}{L L':List Fc}(B:Bk w L)(h:AmF L L':=by repeat (first | exact .n | refine .c 0 rfl ?_ | refine .c 1 rfl ?_ | refine .c 2 rfl ?_ | refine .c 3 rfl ?_ | refine .c 4 rfl ?_ | refine .c 5 rfl ?_ | refine .c 6 rfl ?_ | refine .c 7 rfl ?_ | refine .c 8 rfl ?_ | refine .c 9 rfl ?_ | refine .c 10 rfl ?_ | refine .c 11 rfl ?_ | refine .c 12 rfl ?_ | refine .c 13 rfl ?_ | refine .c 14 rfl ?_ | refine .c 15 rfl ?_ | refine .c 16 rfl ?_ | refine .c 17 rfl ?_ | refine .c 18 rfl ?_ | refine .c 19 rfl ?_ | refine .c 20 rfl ?_ | refine .c 21 rfl ?_ | refine .c 22 rfl ?_ | refine .c 23 rfl ?_)): Bk w L':=B.am h
theorem Bk.b{w:World}{L L':List Fc}(B:Bk w L)(l:List Nat)(h:Zgp L l=some L':=by rfl): Bk w L':=B.am (Zeh h)
section
variable{P:Program}{Q:Exit->Act->World->Prop}{N:Nat}{D:List Deferred}{a:Act}{L L0:List (Nat×Value)}{S:List Fc}{w:World}{v:Value}
theorem wR{id:Nat}{l:List Oper}{y:Code}(h:∀{K:Act->World->Prop},(∀{a w},y.wp P Q a w->K a w)->wpList P l.toArray (Exit.then K Q) l a w): (Code.seq (.region id l.toArray false) y).wp P Q a w:=wp_seq_k λK hK=>Yg (h λ{a w}=>hK a w)
theorem wQ{x y:Code}(h:∀{K:Act->World->Prop},(∀{a w},y.wp P Q a w->K a w)->x.wp P (Exit.then K Q) a w): (Code.seq x y).wp P Q a w:=wp_seq_k λK hK=>h λ{a w}=>hK a w
theorem ent{f:FuncId}{c:Code}{args:List Value}{R:Ending->World->Prop}(N:Nat)(fn:Func)(hb:fn.body=some c)(hf:P.funcs[f]?=some fn:=by kernel_rfl)(hN:fn.ntmps=N:=by rfl)(hle:args.length<=N:=by exact Nat.le_of_ble_eq_true rfl)(h:∀{a},Has N [] a (argL 0 args)->c.wp P (bodyPost P fn R) a w): Calls P f args.toArray w R:=Z1t N hf hb hN hle λ_ F=>h F
theorem wX{id:Nat}{l:List Oper}(n:Nat)(B:Bk w S)(hm:P.follows .mixedOrders=true:=by exact follows)(hB:Region.lexTailB .any l.toArray n=true:=by kernel_rfl)(h:∀{W:World},Bk W S->wpStill P l.toArray W (λa'=>wpList P l.toArray Q (l.drop n) a' W) (l.take n) a): (Code.region id l.toArray true).wp P Q a w:=Z9c n hm hB λW hh eh=>h (B.ex eh)
theorem lpC{c:Code}(F:Has N D a L0)(B:Bk w S)(M:Nat)(f:Nat->List (Nat×Value))(h0:Has N D a (f 0++L0))(round:∀{a w} i,i<=M->Has N D a (f i++L0)->Bk w S->c.wp P (Exit.then (λa' w'=>i<M/\Has N D a' (f (i+1)++L0)/\Bk w' S) Q) a w): (Code.loop c).wp P Q a w:=
 Z8E F M (λi Lv W=>Lv=f i/\Bk W S) ⟨_,⟨rfl,B⟩,h0⟩ λi Lv a w hi h F=>by
  obtain⟨rfl,B⟩:=h;refine wp_mono (round i hi F B) λe a w h=>?_;cases e<;>first | exact h | exact⟨h.1,_,⟨rfl,h.2.2⟩,h.2.1⟩
theorem lpB{c:Code}(F:Has N D a L0)(B:Bk w S)(M:Nat)(J:Nat->List (Nat×Value)->List Fc->World->Prop)(h0:∃Lv Sv,Has N D a (Lv++L0)/\Bk w (Sv++S)/\J 0 Lv Sv w)(round:∀i {a w Lv Sv},i<=M->J i Lv Sv w->Has N D a (Lv++L0)->Bk w (Sv++S)->c.wp P (Exit.then (λa' w'=>i<M/\∃Lv' Sv',Has N D a' (Lv'++L0)/\Bk w' (Sv'++S)/\J (i+1) Lv' Sv' w') Q) a w): (Code.loop c).wp P Q a w:=by
 obtain⟨Lv,Sv,h3,h2,h1⟩:=h0;refine Z8E F M (λi Lv W=>∃Sv,J i Lv Sv W/\Bk W (Sv++S)) ⟨Lv,⟨Sv,h1,h2⟩,h3⟩ λi Lv a w hi h F=>?_;obtain⟨Sv,h4,h5⟩:=h;refine wp_mono (round i hi h4 F h5) λe a w h=>?_;cases e<;>first | exact h | exact⟨h.1,by obtain⟨-,Lv',Sv',h8,h7,h6⟩:=h;exact⟨Lv',⟨Sv',h6,h7⟩,h8⟩⟩
theorem Has.cT{x:Operand}{c d:Code}(F:Has N D a L)(hx:opv L x=some (.bool true):=by rfl)(h:c.wp P Q a w): (Code.cond x c d).wp P Q a w:=wp_cond_true (F.op hx) h
theorem Has.cF{x:Operand}{c d:Code}(F:Has N D a L)(hx:opv L x=some (.bool false):=by rfl)(h:d.wp P Q a w): (Code.cond x c d).wp P Q a w:=wp_cond_false (F.op hx) h
theorem Has.ci{k:Nat}{c d:Code}{p:Prop}{_:Decidable p}(F:Has N D a L)(ht:p->c.wp P Q a w)(hf:¬p->d.wp P Q a w)(hx:L.lookup k=some (.bool (decide p)):=by rfl): (Code.cond (.tmp k) c d).wp P Q a w:=Zfo F hx ht hf
theorem Has.cb{k:Nat}{c d:Code}{b:Bool}(F:Has N D a L)(ht:b=true->c.wp P Q a w)(hf:b=false->d.wp P Q a w)(hx:L.lookup k=some (.bool b):=by rfl): (Code.cond (.tmp k) c d).wp P Q a w:=cd_b F hx ht hf
theorem Has.JT{k:Nat}{c d:Code}{p:Prop}{_:Decidable p}(F:Has N D a L)(hx:L.lookup k=some (.bool (decide p)):=by rfl)(hb:p:=by omega)(h:c.wp P Q a w): (Code.cond (.tmp k) c d).wp P Q a w:=wp_cond_true (by rw[F.at hx,decide_eq_true hb]) h
theorem Has.JF{k:Nat}{c d:Code}{p:Prop}{_:Decidable p}(F:Has N D a L)(hx:L.lookup k=some (.bool (decide p)):=by rfl)(hb:¬p:=by omega)(h:d.wp P Q a w): (Code.cond (.tmp k) c d).wp P Q a w:=wp_cond_false (by rw[F.at hx,decide_eq_false hb]) h
theorem Has.jF{k:Nat}{c d:Code}{b:Bool}(F:Has N D a L)(hb:b=false)(hx:L.lookup k=some (.bool b):=by rfl)(h:d.wp P Q a w): (Code.cond (.tmp k) c d).wp P Q a w:=wp_cond_false (by rw[F.at hx,hb]) h
variable{fn:Func}{R:Ending->World->Prop}
inductive RetTo(Q':Exit->Act->World->Prop):(Exit->Act->World->Prop)->Prop
 | t {K:Act->World->Prop} {Z:Exit->Act->World->Prop} (h:RetTo Q' Z):RetTo Q' (Exit.then K Z)
 | b {id:Nat} {Z:Exit->Act->World->Prop} (h:RetTo Q' Z):RetTo Q' (Exit.inBlock id Z)
 | g {Z:Exit->Act->World->Prop} (h:RetTo Q' Z):RetTo Q' (Exit.noGoto Z)
 | r:RetTo Q' Q'
theorem RetTo.go{Q':Exit->Act->World->Prop}:∀{Q:Exit->Act->World->Prop},RetTo Q' Q->Q' .ret a w->Q .ret a w
 | _,.t h,k=>by have:=RetTo.go h k;exact this
 | _,.b h,k=>by have:=RetTo.go h k;exact this
 | _,.g h,k=>by have:=RetTo.go h k;exact this
 | _,.r,k=>k
theorem rtt{Z Z':Exit->Act->World->Prop}(h:RetTo Z Z':=by repeat (first | refine .t ?_ | refine .b ?_ | refine .g ?_ | exact .r)): RetTo Z Z':=h
theorem Has.rg(F:Has N [] a L)(hr:(results fn a.tmps).run P w = .ok v w)(hQ:RetTo (bodyPost P fn R) Q:=by exact rtt)(h:R (.returned v) w):Code.ret.wp P Q a w:=wp_ret (hQ.go (rt_v F hr h))
theorem Has.r1{t:Nat}(F:Has N [] a L)(hQ:RetTo (bodyPost P fn R) Q:=by exact rtt)(hr:fn.results=#[.tmp t]:=by rfl)(hv:L.lookup t=some v:=by rfl)(h:R (.returned v) w): Code.ret.wp P Q a w:=wp_ret (hQ.go (rt_v F (rs_1 F hr hv) h))
theorem Has.r2{t s:Nat}{u:Value}(F:Has N [] a L)(hQ:RetTo (bodyPost P fn R) Q:=by exact rtt)(hr:fn.results=#[.tmp t,.tmp s]:=by rfl)(hv:L.lookup t=some v:=by rfl)(hu:L.lookup s=some u:=by rfl)(h:R (.returned (.tuple #[v,u])) w): Code.ret.wp P Q a w:=wp_ret (hQ.go (rt_v F (rs_2 F hr hv hu) h))
theorem Has.r3{t s r:Nat}{u x:Value}(F:Has N [] a L)(hQ:RetTo (bodyPost P fn R) Q:=by exact rtt)(hr:fn.results=#[.tmp t,.tmp s,.tmp r]:=by rfl)(hv:L.lookup t=some v:=by rfl)(hu:L.lookup s=some u:=by rfl)(hx:L.lookup r=some x:=by rfl)(h:R (.returned (.tuple #[v,u,x])) w): Code.ret.wp P Q a w:=wp_ret (hQ.go (rt_v F (rs_3 F hr hv hu hx) h))
inductive EndTo(Q':Exit->Act->World->Prop):(Exit->Act->World->Prop)->Exit->Prop
 | t {K:Act->World->Prop} {Z:Exit->Act->World->Prop} {i:Nat} (h:EndTo Q' Z (.exit i)):EndTo Q' (Exit.then K Z) (.exit i)
 | b {Z:Exit->Act->World->Prop} {i:Nat} (h:EndTo Q' Z .normal):EndTo Q' (Exit.inBlock i Z) (.exit i)
 | c {Z:Exit->Act->World->Prop} {i:Nat} (h:EndTo Q' Z .normal):EndTo Q' (Exit.inBlock i Z) .normal
 | d {Z:Exit->Act->World->Prop} {i j:Nat} (hn:(j==i)=false) (h:EndTo Q' Z (.exit j)):EndTo Q' (Exit.inBlock i Z) (.exit j)
 | r:EndTo Q' Q' .normal
theorem EndTo.go{Q':Exit->Act->World->Prop}{a:Act}{w:World}:∀{Q:Exit->Act->World->Prop} {e:Exit},EndTo Q' Q e->Q' .normal a w->Q e a w
 | _,_,.t h,k=>by have:=EndTo.go h k;exact this
 | _,_,.b h,k=>by have:=EndTo.go h k;show (if _ then _ else _);rw[if_pos rfl];exact this
 | _,_,.c h,k=>by have:=EndTo.go h k;exact this
 | _,_,.d hn h,k=>by have:=EndTo.go h k;show (if _ then _ else _);rw[if_neg (by simpa using hn)];exact this
 | _,_,.r,k=>k
variable{e:Exit}{ops:Array Oper}
theorem ett{Z Z':Exit->Act->World->Prop}(h:EndTo Z Z' e:=by repeat (first | refine .t ?_ | refine .b ?_ | refine .c ?_ | refine .d rfl ?_ | exact .r)): EndTo Z Z' e:=h
theorem Has.e0(F:Has N [] a L)(hQ:EndTo (bodyPost P fn R) Q e:=by exact ett)(hr:fn.results=#[]:=by rfl)(h:R (.returned (.tuple #[])) w):Q e a w:=hQ.go (Zju F (rs_0 hr) h)
theorem Has.f0(F:Has N [] a L)(hQ:EndTo (bodyPost P fn R) Q .normal:=by exact ett)(hr:fn.results=#[]:=by rfl)(h:R (.returned (.tuple #[])) w):wpList P ops Q [] a w:=hQ.go (Zju F (rs_0 hr) h)
end
variable{μ:Nat}
theorem nex{X:List Nat}{L:List Fc}(h:NeX X L:=by repeat (first | exact .n | (refine .q (by first | (simp;done) | (simp;omega)) ?_) | (refine .e (by intro i hi hl;simp only[Yc,Ya,or_false]at hi⊢;omega) ?_) | (refine .o (by first | (simp;done) | (simp;omega)) ?_) | (refine .f (by first | (simp;done) | (simp;omega)) ?_))): NeX X L:=h
theorem neg{B:Nat}{E:TypeId}{V:Value}{L:List Fc}(h:NeG B E V L:=by repeat (first | exact .n | (refine .q (by first | exact .inl dC | exact .inr (.inl oM) | exact .inr (.inr (by first | assumption | exact LtA.own 0 (by assumption) (by rfl) | exact LtA.own 1 (by assumption) (by rfl) | exact LtA.own 2 (by assumption) (by rfl) | exact LtA.own 3 (by assumption) (by rfl) | exact LtA.own 4 (by assumption) (by rfl) | exact LtA.own 5 (by assumption) (by rfl) | exact LtA.own 6 (by assumption) (by rfl) | exact LtA.own 7 (by assumption) (by rfl) | exact LtA.own 8 (by assumption) (by rfl) | exact LtA.own 9 (by assumption) (by rfl)))) ?_) | (refine .e (.inl oM) ?_) | (refine .e (.inr (by intro c h;cases h;simp)) ?_) | (refine .o dC ?_) | (refine .l ⟨oM,dC⟩ ?_) | (refine .f dC ?_))): NeG B E V L:=h
section
variable{w w' w2 w0:World}{L L0 L' S S0 S':List Fc}{n c i b m:Nat}{T e s:Nat}{cs cs':Array Value}{X:List Nat}{v v':Value}{xs xs':List Value}
theorem Bk.rQ(B:Bk w L)(i:Nat)(h:w.heap[n]?=some (.cells cs T (0,0)))(hu:upf L i (.q n cs T)=some L':=by rfl):Bk w L':=B.r (g:=.q n cs T) i h hu
theorem Bk.rO(B:Bk w L)(i:Nat)(h:w.ownsRow b e s v n xs)(hu:upf L i (.o b e s v n xs)=some L':=by rfl):Bk w L':=B.r (g:=.o b e s v n xs) i h hu
theorem Bk.rF{M:List (Value×List Int)}(B:Bk w L)(i:Nat)(h:FamT w b M)(hu:upf L i (.f b M)=some L':=by rfl): Bk w L':=B.r (g:=.f b M) i h hu
theorem Bk.rL(B:Bk w L)(i:Nat)(h:Zi w0 w b m v)(hu:upf L i (.l w0 b m v)=some L':=by rfl):Bk w L':=B.r (g:=.l w0 b m v) i h hu
theorem Bk.x(B:Bk w L)(h:Ext X w w')(hn:NeX X L:=by exact nex):Bk w' L:=Bk.xx h B hn
theorem Bk.xl(B:Bk w L)(i:Nat)(h:Ext X w w')(hl:Zi w0 w' b m v)(h0:delf L i=some L0:=by rfl)(hu:upf L i (.l w0 b m v)=some L':=by rfl)(hn:NeX X L0:=by exact nex):Bk w' L':=Bk.up (g:=.l w0 b m v) hl hu λL1 h1=>by
 rw[h0]at h1;cases h1;exact Bk.xx h (B.del h0) hn
theorem kL{A:Act->Value->Prop}{W:Act->Prop}{v nv:Value}{X:List Nat}{w0 w w':World}{b m:Nat}{L L0 L':List Fc}(B:Bk w L)(i:Nat)(e:Ext X w w')(hl:Zi w0 w' b m nv)(h0:delf L i=some L0:=by rfl)(hu:upf L i (.l w0 b m nv)=some L':=by rfl)(hn:NeX X L0:=by exact nex)(h:∀{a2},A a2 v->Bk w' L'->W a2):∃u,Ending.returned v = .returned u/\∀{a2},A a2 u->W a2:=⟨v,rfl,λF=>h F (B.xl i e hl h0 hu hn)⟩
theorem Bk.k(B:Bk w L)(i:Nat)(h:Ext X w w')(hi:nth L i=some (.q n cs T):=by rfl)(hx:n ∉ X:=by first | (simp;done) | (simp;omega)):w'.heap[n]?=some (.cells cs T (0,0)):=h.keep (B.get hi) hx
theorem Bk.gr{n':Nat}(B:Bk w L)(i:Nat)(hg:w.grownBy w' v.ownBlock)(ho:w'.ownsRow b e s v' n' xs')(hi:nth L i=some (.o b e s v n xs):=by rfl)(h0:delf L i=some L0:=by rfl)(hn:NeG b e v L0:=by exact neg)(hu:upf L i (.o b e s v' n' xs')=some L':=by rfl):Bk w' L':=Bk.up (g:=.o b e s v' n' xs') ho hu λL1 h1=>by
 rw[h0]at h1;cases h1;exact Bk.grow (B.get hi) hg (B.del h0) hn
theorem Bk.pr{off:Nat}{l:List Value}(B:Bk w S)(i:Nat)(hw:w2=w.setCells n off l)(hp:w2.heap[n]?=some (.cells cs' T (0,0)))(hi:nth S i=some (.q n cs T):=by rfl)(hu:upf S i (.q n cs' T)=some S':=by rfl)(h0:delf S i=some S0:=by rfl)(hn:NeA n T S0:=by exact nea): Bk w2 S':=Bk.up (g:=.q n cs' T) hp hu λL1 h1=>by
 rw[h0]at h1;cases h1;exact Bk.cells hw (B.get hi) (B.del h0) hn
end
section
variable{P:Program}{ops:Array Oper}{Q:Exit->Act->World->Prop}{o:Oper}{rest:List Oper}{N:Nat}{D:List Deferred}{a:Act}{L:List (Nat×Value)}{w w0:World}{v:Value}{d:Nat}{S S0 S':List Fc}{X:List Nat}
def Z6m(P:Program)(t e k:TypeId):Bool:=match P.underlying t with
 | some (.slice e')=>Nat.beq e' e&&Z4e P e k
 | _=>false
theorem Z4Q{t e k:Nat}(h:Z6m P t e k=true): P.underlying t=some (.slice e)/\(P.info? e).map (·.size)=some k:=by
 unfold Z6m at h;split at h
 ·rename_i e' he;simp only[Y5]at h;rw[he,Nat.eq_of_beq_eq_true h.1];exact⟨rfl,Z13 h.2⟩
 ·cases h
theorem Has.bS{t e n size:Nat}{l:List (Nat×Operand)}{vs:List (Nat×Value)}{z:Value}(F:Has N D a L)(cells:Array Value)(hz:∀w,(zeroValue e).run P w = .ok z w)(ho:o.op = .buildSlice t n l.toArray)(hp:opvp L l=some vs)(hk:Z6m P t e size=true)(hn:n*size<=2 ^ 24)(hn0:n*size≠0)(hf:Instr.fill (λi=>some (i*size,size)) ((Array.range (n*size)).map (z.cells[· % z.cells.size]!)) vs=some cells): (execOp a.eval o).run P w = .ok (.value (.slice (some ⟨w.heap.size,0,none⟩) n n)) (w.alloc (.cells cells e)):=Z0J ho (F.opp hp) (Z4Q hk).1 (Z4Q hk).2 hn hn0 hz hf
theorem Has.bs{t e n:Nat}{l:List (Nat×Operand)}{vs:List (Nat×Value)}{z:Value}(F:Has N D a L)(B:Bk w S)(size:Nat)(cells:Array Value)(hz:∀w,(zeroValue e).run P w = .ok z w)(ho:o.op = .buildSlice t n l.toArray:=by rfl)(hp:opvp L l=some vs:=by rfl)(hk:Z6m P t e size=true:=by kernel_rfl)(hn:n*size<=2 ^ 24:=by decide)(hn0:n*size≠0:=by decide)(hf:Instr.fill (λi=>some (i*size,size)) ((Array.range (n*size)).map (z.cells[· % z.cells.size]!)) vs=some cells:=by kernel_rfl)(hd:o.dst=some d:=by rfl)(hN:d<N:=by decide)(hw:ZV L ops o=some true:=by rfl)(h:∀{k w2 a2},LtA k S->Has N D a2 ((d,.slice (some ⟨k,0,none⟩) n n)::L)->Bk w2 (.q k cells e::S)->wpList P ops Q rest a2 w2): wpList P ops Q (o::rest) a w:=
 Z5r F hd hN (F.want hw) (F.bS cells hz ho hp hk hn hn0 hf) λ_ _ F hw=>h (B.lt rfl) F ⟨Z0m hw rfl,B.al hw⟩
theorem Has.b0{t:Nat}(F:Has N D a L)(B:Bk w S)(e size:Nat)(ho:o.op = .buildSlice t 0 #[]:=by rfl)(hk:Z6m P t e size=true:=by kernel_rfl)(hd:o.dst=some d:=by rfl)(hN:d<N:=by decide)(hw:ZV L ops o=some true:=by rfl)(h:∀{k w2 a2},LtA k S->Has N D a2 ((d,.slice (some ⟨k,0,none⟩) 0 0)::L)->Bk w2 (.q k #[] e::S)->wpList P ops Q rest a2 w2): wpList P ops Q (o::rest) a w:=
 Z5r F hd hN (F.want hw) (Z6D ho (Z4Q hk).1 (Z4Q hk).2) λ_ _ F hw=>h (B.lt rfl) F ⟨Z0m hw rfl,B.al hw⟩
theorem Has.ixr{p:Option Addr}{sz n:Nat}{row:Nat->List Value}{x ix:Operand}{t:TypeId}{k:IntKind}{j:Int}{len cap:Nat}(F:Has N D a L)(H:SlAt X w0 p sz n row)(i:Nat)(hi:i<n)(ho:o.op = .indexAddr t x ix)(hx:opv L x=some (.slice p len cap))(hj:opv L ix=some (.int k j))(hij:j=(i:Int))(hl:i<len)(hk:eltB P t sz=true): ∃b off,(∀W,Ext X w0 W->W.rangeAt b (off+i*sz) (row i))/\∀{w},(execOp a.eval o).run P w = .ok (.value (.pointer (some ⟨b,off+i*sz,none⟩))) w:=by
 subst hij;obtain⟨b,off,hp,hr⟩:=H i hi;exact⟨b,off,hr,F.is sz hp ho hx hj hk oM oM⟩
theorem Has.ix{p:Option Addr}{sz n:Nat}{row:Nat->List Value}{x ix:Operand}{t:TypeId}{k:IntKind}{j:Int}{len cap:Nat}(F:Has N D a L)(H:SlAt X w0 p sz n row)(i:Nat)(hi:i<n:=by omega)(ho:o.op = .indexAddr t x ix:=by rfl)(hx:opv L x=some (.slice p len cap):=by rfl)(hj:opv L ix=some (.int k j):=by rfl)(hij:j=(i:Int):=by first | rfl | omega)(hl:i<len:=by omega)(hk:eltB P t sz=true:=by kernel_rfl)(hd:o.dst=some d:=by rfl)(hN:d<N:=by decide)(hw:ZV L ops o=some true:=by rfl)
  (h:∀{b off a2},(∀W,Ext X w0 W->W.rangeAt b (off+i*sz) (row i))->Has N D a2 ((d,.pointer (some ⟨b,off+i*sz,none⟩))::L)->wpList P ops Q rest a2 w):wpList P ops Q (o::rest) a w:=by
 obtain⟨b,off,hr,h1⟩:=F.ixr H i hi ho hx hj hij hl hk;exact Has.y F h1 hd hN hw λF=>h hr F
theorem Has.sx{K:Act->Prop}{p:Option Addr}{sz n:Nat}{row:Nat->List Value}{x ix:Operand}{t:TypeId}{k:IntKind}{j:Int}{len cap:Nat}(F:Has N D a L)(H:SlAt X w0 p sz n row)(i:Nat)(hi:i<n:=by omega)(ho:o.op = .indexAddr t x ix:=by rfl)(hx:opv L x=some (.slice p len cap):=by rfl)(hj:opv L ix=some (.int k j):=by rfl)(hij:j=(i:Int):=by first | rfl | omega)(hl:i<len:=by omega)(hk:eltB P t sz=true:=by kernel_rfl)(hd:o.dst=some d:=by rfl)(hN:d<N:=by decide)(hw:ZV L ops o=some true:=by rfl)(h:∀{b off a2},(∀W,Ext X w0 W->W.rangeAt b (off+i*sz) (row i))->Has N D a2 ((d,.pointer (some ⟨b,off+i*sz,none⟩))::L)->wpStill P ops w K rest a2): wpStill P ops w K (o::rest) a:=by
 obtain⟨b,off,hr,h1⟩:=F.ixr H i hi ho hx hj hij hl hk;exact Has.s F h1 hd hN hw λF=>h hr F
theorem Has.kr{f:FuncId}{args:Array Value}{R:Ending->World->Prop}(F:Has N D a L)(hr:(execOp a.eval o).run P w = .ok (.enter f args) w)(hc:Calls P f args w R)(hd:o.dst=some d:=by rfl)(hN:d<N:=by decide)(hw:ZV L ops o=some true:=by rfl)(h:∀e w',R e w'->∃v,e = .returned v/\∀{a2},Has N D a2 ((d,v)::L)->wpList P ops Q rest a2 w'): wpList P ops Q (o::rest) a w:=Za2 F hd hN (F.want hw) hr hc λe w' hR=>by
 obtain⟨v,h1,h2⟩:=h e w' hR;exact⟨v,h1,λ_ F=>h2 F⟩
theorem Has.okr{i:Nat}{K:Act->World->Prop}{f:FuncId}{args:Array Value}{R:Ending->World->Prop}{oi:Oper}(F:Has N D a L)(hi:ops[i]?=some oi)(hr:(execOp a.eval oi).run P w = .ok (.enter f args) w)(hc:Calls P f args w R)(hd:oi.dst=some d:=by rfl)(hN:d<N:=by decide)(hw:ZV L ops oi=some true:=by rfl)(h:∀e w',R e w'->∃v,e = .returned v/\∀{a2},Has N D a2 ((d,v)::L)->K a2 w'): wpOp P ops Q i K a w:=Zed F hi hd hN (F.want hw) hr hc λe w' hR=>by
 obtain⟨v,h1,h2⟩:=h e w' hR;exact⟨v,h1,λ_ F=>h2 F⟩
theorem Has.sw{x y:Operand}{t b off T:Nat}{cs cs':Array Value}{u:Value}(F:Has N D a L)(B:Bk w S)(i:Nat)(hc:w.cell? ⟨b,off,none⟩=some u)(hp:∀w2,w2=w.setCell ⟨b,off,none⟩ v->w2.heap[b]?=some (.cells cs' T (0,0)))(ho:o.op = .store t x y:=by rfl)(hx:opv L x=some (.pointer (some ⟨b,off,none⟩)):=by rfl)(hy:opv L y=some v:=by rfl)(hi:nth S i=some (.q b cs T):=by rfl)(hu:upf S i (.q b cs' T)=some S':=by rfl)(h0:delf S i=some S0:=by rfl)(h1:v.oneCell'=true:=by rfl)(hs:Z4e P t 1=true:=by kernel_rfl)(hn:NeA b T S0:=by exact nea)(hd:o.dst=none:=by rfl)(hw:ZV L ops o=some true:=by rfl)(h:∀{w2},Bk w2 S'->wpList P ops Q rest a w2): wpList P ops Q (o::rest) a w:=by
 have q:=B.get hi;refine Z3S hd (F.want hw) (ZW ho (F.op hx) (F.op hy) h1 (Z13 hs) hc (Zg q off)) λw2 hw=>h ?_;exact Bk.up (g:=.q b cs' T) (hp w2 hw) hu λL0 h2=>by
  rw[h0]at h2;cases h2;exact Bk.cell hw q (B.del h0) hn
theorem Has.sW{x y:Operand}{t b T:Nat}{cs cs' cs2:Array Value}(F:Has N D a L)(B:Bk w S)(i off:Nat)(hp:∀w2,w2=w.setCells b off cs'.toList->w2.heap[b]?=some (.cells cs2 T (0,0)))(ho:o.op = .store t x y:=by rfl)(hx:opv L x=some (.pointer (some ⟨b,off,none⟩)):=by rfl)(hy:opv L y=some (.agg cs'):=by rfl)(hi:nth S i=some (.q b cs T):=by rfl)(hz:off+cs'.size<=cs.size:=by simp)(hu:upf S i (.q b cs2 T)=some S':=by rfl)(h0:delf S i=some S0:=by rfl)(hs:Z4e P t cs'.size=true:=by kernel_rfl)(h1:cs'.all (·.oneCell')=true:=by exact one1)(hn:NeA b T S0:=by exact nea)(hd:o.dst=none:=by rfl)(hw:ZV L ops o=some true:=by rfl)(h:∀{w2},Bk w2 S'->wpList P ops Q rest a w2): wpList P ops Q (o::rest) a w:=by
 have q:=B.get hi;refine Z3S hd (F.want hw) (Zbs ho (F.op hx) (F.op hy) (Z13 hs) h1 q hz) λw2 hw=>h ?_;exact Bk.up (g:=.q b cs2 T) (hp w2 hw) hu λL0 h2=>by
  rw[h0]at h2;cases h2;exact Bk.cells hw q (B.del h0) hn
variable{md:Region.Mode}{T:World->Prop}{stop:Option Nat}{fuel:Nat}{listed:Array Bool}{K:Act->World->Prop}
def opAt(ops:Array Oper)(i:Nat):Oper:=match ops[i]? with
 | some o=>o
 | none=>{ dst:=none,op:=.move (.const (.bool true)),type:=0,pos:= "",after:=#[],guard:=none }
theorem Z0o{i:Nat}(h:(ops[i]?).isSome=true): ops[i]?=some (opAt ops i):=by
 unfold opAt;cases hq:ops[i]? with
 | none=>rw[hq]at h;cases h
 | some o=>rfl
theorem wD{id:Nat}{l:List Oper}(X:List Nat)(stop:Option Nat)(B:Bk w S)(h:∀{W:World},Bk W (.e X w::S)->Zp P .any l.toArray Q (Ext X w) stop l.toArray.size (Array.replicate l.toArray.size false) a W)(hm:P.follows .mixedOrders=true:=by exact follows): (Code.region id l.toArray true).wp P Q a w:=Zb6 (Ext X w) stop hm λW hh eh=>h ⟨eh.mono sU,B.ex eh⟩
theorem aD(hr:Region.ready md ops listed=[]:=by kernel_rfl)(h:Q .normal a w):Zp P md ops Q T stop fuel listed a w:=ZcF hr h fuel
theorem aO(i:Nat)(hr:Region.ready md ops listed=[i]:=by kernel_rfl)(h:wpOp P ops Q i (λa' w'=>(held stop (listed.setIfInBounds i true)=true->T w')/\Zp P md ops Q T stop fuel (listed.setIfInBounds i true) a' w') a w):Zp P md ops Q T stop (fuel+1) listed a w:=Z33 hr h
theorem Has.z(F:Has N D a L)(i:Nat)(hT:held stop listed=true->T w)(hr:∀{w},(execOp a.eval (opAt ops i)).run P w = .ok (.value v) w)(hi:(ops[i]?).isSome=true:=by rfl)(hd:(opAt ops i).dst=some d:=by rfl)(hN:d<N:=by decide)(hk:Z6y md ops stop false listed i=true:=by kernel_rfl)(hQ:∀c a w,Q (.panic c) (a.put (opAt ops i).dst v) w->Q (.panic c) a w:=by exact λ_ _ _ h=>h)(hw:ZV L ops (opAt ops i)=some true:=by rfl)(h:∀{a2},Has N D a2 ((d,v)::L)->Zp P md ops Q T stop fuel (listed.setIfInBounds i true) a2 w):Zp P md ops Q T stop (fuel+1) listed a w:=
 Zko F (Z0o hi) hd hN hk hQ (F.want hw) (λw=>hr) hT λ_ F=>h F
theorem Has.zr(F:Has N D a L)(i:Nat)(hT:held stop listed=true->T w)(hr:∀{w},T w->(execOp a.eval (opAt ops i)).run P w = .ok (.value v) w)(hi:(ops[i]?).isSome=true:=by rfl)(hd:(opAt ops i).dst=some d:=by rfl)(hN:d<N:=by decide)(hk:Z6y md ops stop true listed i=true:=by kernel_rfl)(hQ:∀c a w,Q (.panic c) (a.put (opAt ops i).dst v) w->Q (.panic c) a w:=by exact λ_ _ _ h=>h)(hw:ZV L ops (opAt ops i)=some true:=by rfl)(h:∀{a2},Has N D a2 ((d,v)::L)->Zp P md ops Q T stop fuel (listed.setIfInBounds i true) a2 w):Zp P md ops Q T stop (fuel+1) listed a w:=
 Zil F (Z0o hi) hd hN hk hQ (F.want hw) (λw h=>hr h) hT λ_ F=>h F
theorem Has.zR(F:Has N D a L)(i:Nat)(Z:List Nat)(hT:held stop listed=true->T w)(hr:∀{w},T w->(execOp a.eval (opAt ops i)).run P w = .ok (.value v) w)(hi:(ops[i]?).isSome=true:=by rfl)(hd:(opAt ops i).dst=some d:=by rfl)(hN:d<N:=by decide)(hk:Zab md ops stop Z listed i=true:=by kernel_rfl)(hQ:∀c a w,Q (.panic c) (a.put (opAt ops i).dst v) w->Q (.panic c) a w:=by exact λ_ _ _ h=>h)(hw:ZV L ops (opAt ops i)=some true:=by rfl)(h:∀{a2},Has N D a2 ((d,v)::L)->Zp P md ops Q T stop fuel (listed.setIfInBounds i true) a2 w):Zp P md ops Q T stop (fuel+1) listed a w:=
 F.xr2 Z (Z0o hi) (λw h=>hr h) hT (λ_ F=>h F) hd hN hk hQ (F.want hw)
theorem Has.ok{i:Nat}{f:FuncId}{l:List Operand}{ts:Array TypeId}{R:Ending->World->Prop}(F:Has N D a L)(hc:Calls P f vs.toArray w R)(hi:(ops[i]?).isSome=true:=by rfl)(C:Z6O P f=true:=by kernel_rfl)(ho:(opAt ops i).op = .call {callee:=.value (.func f),args:=l.toArray,argTypes:=ts}:=by rfl)(ha:opvs L l=some vs:=by rfl)(hd:(opAt ops i).dst=some d:=by rfl)(hN:d<N:=by decide)(hw:ZV L ops (opAt ops i)=some true:=by rfl)(h:∀e w',R e w'->∃v,e = .returned v/\∀{a2},Has N D a2 ((d,v)::L)->K a2 w'): wpOp P ops Q i K a w:=Zed F (Z0o hi) hd hN (F.want hw) (F.rc C ho ha) hc λe w' hR=>by
 obtain⟨v,h1,h2⟩:=h e w' hR;exact⟨v,h1,λ_ F=>h2 F⟩
theorem Has.ok0{i:Nat}{f:FuncId}{l:List Operand}{ts:Array TypeId}(F:Has N D a L)(B:Bk w S)(hc:Calls P f vs.toArray w λe w'=>e = .returned v/\Ext [] w w')(hi:(ops[i]?).isSome=true:=by rfl)(C:Z6O P f=true:=by kernel_rfl)(ho:(opAt ops i).op = .call {callee:=.value (.func f),args:=l.toArray,argTypes:=ts}:=by rfl)(ha:opvs L l=some vs:=by rfl)(hd:(opAt ops i).dst=some d:=by rfl)(hN:d<N:=by decide)(hw:ZV L ops (opAt ops i)=some true:=by rfl)(h:∀{w' a2},Has N D a2 ((d,v)::L)->Bk w' S->K a2 w'): wpOp P ops Q i K a w:=F.ok hc hi C ho ha hd hN hw λe w' hR=>⟨v,hR.1,λF=>h F (B.ex hR.2)⟩
theorem Has.oa{i:Nat}{T:TypeId}{z:Value}{cs:Array Value}(F:Has N D a L)(B:Bk w S)(hz:∀w,(zeroValue T).run P w = .ok z w)(hi:(ops[i]?).isSome=true:=by rfl)(ho:(opAt ops i).op = .alloc T:=by rfl)(hd:(opAt ops i).dst=some d:=by rfl)(hN:d<N:=by decide)(hw:ZV L ops (opAt ops i)=some true:=by rfl)(hv:boxO z=some cs:=by rfl)(h:∀{n w2 a2},LtA n S->Has N D a2 ((d,.pointer (some ⟨n,0,none⟩))::L)->Bk w2 (.q n cs T::S)->K a2 w2): wpOp P ops Q i K a w:=by
 obtain rfl:=ZcK hv;exact Zee F (Z0o hi) hd hN (F.want hw) (Z2Z ho hz) λ_ _ F hw=>h (B.lt rfl) F ⟨Z0m hw rfl,B.al hw⟩
theorem Has.obs{i:Nat}{t e n:Nat}{l:List (Nat×Operand)}{vs:List (Nat×Value)}{z:Value}(F:Has N D a L)(B:Bk w S)(size:Nat)(cells:Array Value)(hz:∀w,(zeroValue e).run P w = .ok z w)(hi:(ops[i]?).isSome=true:=by rfl)(ho:(opAt ops i).op = .buildSlice t n l.toArray:=by rfl)(hp:opvp L l=some vs:=by rfl)(hk:Z6m P t e size=true:=by kernel_rfl)(hn:n*size<=2 ^ 24:=by decide)(hn0:n*size≠0:=by decide)(hf:Instr.fill (λi=>some (i*size,size)) ((Array.range (n*size)).map (z.cells[· % z.cells.size]!)) vs=some cells:=by kernel_rfl)(hd:(opAt ops i).dst=some d:=by rfl)(hN:d<N:=by decide)(hw:ZV L ops (opAt ops i)=some true:=by rfl)(h:∀{k w2 a2},LtA k S->Has N D a2 ((d,.slice (some ⟨k,0,none⟩) n n)::L)->Bk w2 (.q k cells e::S)->K a2 w2): wpOp P ops Q i K a w:=
 Zee F (Z0o hi) hd hN (F.want hw) (F.bS cells hz ho hp hk hn hn0 hf) λ_ _ F hw=>h (B.lt rfl) F ⟨Z0m hw rfl,B.al hw⟩
theorem Has.os{i':Nat}{x y:Operand}{t b off T:Nat}{cs cs':Array Value}(F:Has N D a L)(B:Bk w S)(i:Nat)(hj:(ops[i']?).isSome=true:=by rfl)(ho:(opAt ops i').op = .store t x y:=by rfl)(hx:opv L x=some (.pointer (some ⟨b,off,none⟩)):=by rfl)(hy:opv L y=some v:=by rfl)(hi:nth S i=some (.q b cs T):=by rfl)(hc:setA cs off v=some cs':=by rfl)(hu:upf S i (.q b cs' T)=some S':=by rfl)(h0:delf S i=some S0:=by rfl)(h1:v.oneCell'=true:=by rfl)(hs:Z4e P t 1=true:=by kernel_rfl)(hn:NeA b T S0:=by exact nea)(hd:(opAt ops i').dst=none:=by rfl)(hw:ZV L ops (opAt ops i')=some true:=by rfl)(h:∀{w2},Bk w2 S'->K a w2): wpOp P ops Q i' K a w:=by
 obtain⟨hc1,u,hc2⟩:=Zex hc;have q:=B.get hi;refine Z9V (Z0o hj) hd (F.want hw) (ZW ho (F.op hx) (F.op hy) h1 (Z13 hs) ((Z3 q off).trans hc2) (Zg q off)) λw2 hw=>h ?_;exact Bk.up (g:=.q b cs' T) (ZU hw q hc1) hu λL0 h2=>by
  rw[h0]at h2;cases h2;exact Bk.cell hw q (B.del h0) hn
theorem Has.osw{i':Nat}{x y:Operand}{t b off T:Nat}{cs cs':Array Value}{u:Value}(F:Has N D a L)(B:Bk w S)(i:Nat)(hc:w.cell? ⟨b,off,none⟩=some u)(hp:∀w2,w2=w.setCell ⟨b,off,none⟩ v->w2.heap[b]?=some (.cells cs' T (0,0)))(hj:(ops[i']?).isSome=true:=by rfl)(ho:(opAt ops i').op = .store t x y:=by rfl)(hx:opv L x=some (.pointer (some ⟨b,off,none⟩)):=by rfl)(hy:opv L y=some v:=by rfl)(hi:nth S i=some (.q b cs T):=by rfl)(hu:upf S i (.q b cs' T)=some S':=by rfl)(h0:delf S i=some S0:=by rfl)(h1:v.oneCell'=true:=by rfl)(hs:Z4e P t 1=true:=by kernel_rfl)(hn:NeA b T S0:=by exact nea)(hd:(opAt ops i').dst=none:=by rfl)(hw:ZV L ops (opAt ops i')=some true:=by rfl)(h:∀{w2},Bk w2 S'->K a w2): wpOp P ops Q i' K a w:=by
 have q:=B.get hi;refine Z9V (Z0o hj) hd (F.want hw) (ZW ho (F.op hx) (F.op hy) h1 (Z13 hs) hc (Zg q off)) λw2 hw=>h ?_;exact Bk.up (g:=.q b cs' T) (hp w2 hw) hu λL0 h2=>by
  rw[h0]at h2;cases h2;exact Bk.cell hw q (B.del h0) hn
theorem Has.or{i':Nat}{x y:Operand}{t b T:Nat}{cs cs':Array Value}(F:Has N D a L)(B:Bk w S)(i:Nat)(hj:(ops[i']?).isSome=true:=by rfl)(ho:(opAt ops i').op = .store t x y:=by rfl)(hx:opv L x=some (.pointer (some ⟨b,0,none⟩)):=by rfl)(hy:opv L y=some (.agg cs'):=by rfl)(hi:nth S i=some (.q b cs T):=by rfl)(hz:cs.size=cs'.size:=by rfl)(hu:upf S i (.q b cs' T)=some S':=by rfl)(h0:delf S i=some S0:=by rfl)(hs:Z4e P t cs'.size=true:=by kernel_rfl)(h1:cs'.all (·.oneCell')=true:=by exact one1)(hn:NeA b T S0:=by exact nea)(hd:(opAt ops i').dst=none:=by rfl)(hw:ZV L ops (opAt ops i')=some true:=by rfl)(h:∀{w2},Bk w2 S'->K a w2): wpOp P ops Q i' K a w:=by
 have q:=B.get hi;refine Z9V (Z0o hj) hd (F.want hw) (Z5X ho (F.op hx) (F.op hy) (Z13 hs) h1 q hz) λw2 hw=>h ?_;exact Bk.up (g:=.q b cs' T) (Z7C hw q hz) hu λL0 h2=>by
  rw[h0]at h2;cases h2;exact Bk.cells hw q (B.del h0) hn
end
end
end Go.Proofs.YtfelljbfeoplhaaGreat
