/- Parts of a proof: Dfl, Ze, Dmo, Dmt, Dco, Dis, Dsh, Dsd, Dvv, Dxo, Ddy, Ddw, Dkt, Dkw, Zp. No conditions. -/
import Derived.Test.YtfelljbfeoplhaaGreatPpo1
import Derived.Test.YtfelljbfeoplhaaGreatPpo6
import Derived.Test.YtfelljbfeoplhaaGreatPpo7
set_option linter.unusedVariables false
set_option linter.unusedSimpArgs false
set_option linter.unusedSectionVars false
set_option maxRecDepth 100000
set_option maxHeartbeats 4000000
namespace Go.Proofs.YtfelljbfeoplhaaGreat
variable{f:Go.FuncId}{args:Array Go.Value}{R:Go.Ending→Go.World→Prop}{v:Go.Value}{N b base c d j k n s:Nat}{ops:Array Go.Oper}{Q:Go.Exit→Go.Act→Go.World→Prop}{rest:List Go.Oper}{D:List Go.Deferred}{L:List (Nat×Go.Value)}{l xs:List Int}{i:Int}{W w:Go.World}{T:Go.TypeId}{fz:Nat×Nat}{a:Option Go.Addr}{X:List Nat}{S:List (Go.Value×List Int)}
section
open Go.RowKit
variable{μ:Nat}
def fltV(er:Int):PanicEntry:={v:=.iface 135 (.int .i64 er),recovered:=false}
theorem ZcD(er:Int)(xT:TypeId)(w:World):(Instr.typeAssert (.iface 135 (.int .i64 er)) xT 135 true).run (Qy.prog μ) w = .ok (.tuple #[.int .i64 er,.bool true]) w:=by
 simp[Instr.typeAssert,run_underlying Qy.underlying135,go_sem,Result.andThen]
theorem Z8K(n:Nat)(b:Nat)(er x:Int)(T:TypeId)(w:World)(hb:w.heap[b]?=some (.cells #[.int .i64 x] T (0,0))):
  CallsDIn Fence.wide n (Qy.prog μ) 63 #[.pointer (some ⟨b,0,none⟩)] (.panicking [fltV er]) w fun e u' w'=>e = .returned (.tuple #[])∧u' = .panicking [{fltV er with recovered:=true}]∧w'=w.setCell ⟨b,0,none⟩ (.int .i64 er):=by
 have hc:w.cell? ⟨b,0,none⟩=some (.int .i64 x):=(Z1 hb 0).trans rfl;have hz:w.frozen? ⟨b,0,none⟩=false:=Z9 hb 0;have hsz:∀w:World,(sizeOf 30).run (Qy.prog μ) w = .ok 1 w:=fun w=>by kernel_rfl
 refine callsDIn_of_wpSIn Qy.func63 rfl trivial fun c₀ cs hu=>?_;unfold fltV at hu⊢;apply wpSIn_seq;apply wpSIn_region;simp[wpOpsSIn,Fence.wide,go_sem,recoverD,hu,Tryz.ntmps63,Exit.thenS,ZcD,Result.andThen];apply wpSIn_seq;apply wpSIn_region;simp[wpOpsSIn,Fence.wide,go_sem,Exit.thenS,Array.replicate];refine wpSIn_cond (t:=true) (by simp[Act.eval]) ?_;simp only[if_true];apply wpSIn_region;simp[wpOpsSIn,Fence.wide,go_sem,hc,hz,hsz,bodyPostS,results,Result.andThen,Tryz.results63]
theorem Zd3{fn:Func}{tmps:Array Value}{w:World}{er x:Int}{ds:List Deferred}(hb:w.heap[b]?=some (.cells #[.int .i64 x] T (0,0)))(h:∀w',w'=w.setCell ⟨b,0,none⟩ (.int .i64 er)→LeavesInM Fence.wide 9 (Qy.prog μ) fn tmps R ds .returning w'): LeavesInM Fence.wide 9 (Qy.prog μ) fn tmps R ({target:=.fn (.func 63) #[],args:=#[.pointer (some ⟨b,0,none⟩)]}::ds) (.panicking [fltV er]) w:=by
 refine⟨by simp,.inr ⟨(fun h=>by cases h),_,_,63,#[.pointer (some ⟨b,0,none⟩)],rfl,(by simp[go_sem,Qy.call63]),(fun _ _=>trivial),?_⟩⟩;refine CallsDIn.mono (Z8K 8 b er x T w hb) ?_;rintro e u' w' ⟨rfl,rfl,rfl⟩;exact h _ rfl
section
variable{P:Program}{ops:Array Oper}{Q:Exit→Act→World→Prop}{o:Oper}{rest:List Oper}{N:Nat}{D:List Deferred}{a:Act}{L:List (Nat×Value)}{w w':World}
theorem Z7k(hw:Region.wanted o (yielded ops a.tmps)=true)(hr:(execOp a.eval o).run P w = .ok (.enter f args) w)(hc:Calls P f args w R)(h:∀e w',R e w'→∃ch,e = .panicked ch∧Q (.panic ch) a w'): wpList P ops Q (o::rest) a w:=by
 unfold wpList;simp only[hw,if_true,Oper.wp,hr,Oper.upon];refine .inl (hc.mono fun e w' hR=>?_);obtain⟨ch,rfl,h1⟩:=h e w' hR;exact h1
theorem Z2K(hw:Region.wanted o (yielded ops a.tmps)=true)(hr:(execOp a.eval o).run P w = .halt (.panic v) w)(h:Q (.panic [{v,recovered:=false}]) a w): wpList P ops Q (o::rest) a w:=by
 unfold wpList;simp only[hw,if_true,Oper.wp,hr,Oper.upon];exact .inl h
theorem Z3M{ρ:Operand→Value}{x:Operand}{t:TypeId}(ho:o.op = .panic x)(hx:ρ x = .iface t v): (execOp ρ o).run P w = .halt (.panic (.iface t v)) w:=by
 unfold execOp;simp[ho,hx,Instr.panic,goPanic,go_sem]
theorem Z3c{ρ:Operand→Value}{x:Operand}{t:TypeId}{q:IntKind}(ho:o.op = .makeInterface t x)(hx:ρ x=v)(hu:P.underlying t=some (.int q)): (execOp ρ o).run P w = .ok (.value (.iface t v)) w:=by
 unfold execOp;simp[ho,hx,Instr.makeInterface,run_underlying hu,go_sem,Result.andThen]
theorem Zl0(F:Has N D a L){x y:Code}{b:Bool}(hc:L.lookup k=some (.bool b))(hb:b=true)(h:x.wp P Q a w): (Code.cond (.tmp k) x y).wp P Q a w:=wp_cond_true (by rw[F.at hc,hb]) h
theorem Zkd{fn:Func}{ch:List PanicEntry}(F:Has N D a L)(h:LeavesInM Fence.wide 9 P fn a.tmps R D (.panicking ch) w): bodyPostM Fence.wide 9 P fn R (.panic ch) a w:=by
 show LeavesInM _ _ _ _ _ _ a.defers _ _;rw[F.ds];exact h
end
theorem Zf5(er:Int)(he:er≠0)(w:World):Calls (Qy.prog μ) 111 #[.int .i64 er] w fun e w'=>e = .panicked [fltV er]∧Ext [] w w':=by
 have E:Ext [] w w:=Ext.refl _ _;refine ZQ 6 Qy.func111 rfl Tryz.ntmps111 (Nat.le_of_ble_eq_true rfl) ?_;intro fa F;refine wS fun K1 hK1=>?_;refine Yg ?_;refine F.mv fun fa F=>?_;refine F.vl (ZfY rfl (F.at rfl) (ev_c fa _)) fun fa F=>?_;refine wN<|hK1 _ _ ?_
 refine Zl0 F rfl (decide_eq_true (he)) ?_;refine Yg ?_;refine F.mv fun fa F=>?_;refine F.vl ((Z3c rfl (F.at rfl) Qy.underlying135)) fun fa F=>?_;refine Z2K rfl (Z3M rfl (F.at rfl)) ?_
 (try simp only[Exit.inBlock,Exit.then,Exit.jump,reduceIte])
 refine⟨F.ds,?_⟩;exact⟨rfl,E⟩
end
section
open Go.RowKit Ev
variable{μ:Nat}
section
variable{P:Program}{o:Oper}{w:World}{a:Act}
theorem Z9N{w:World}{ob:Obj}: Ext [] w (w.drew.alloc ob):=⟨rfl,rfl,rfl,by
 show w.heap.size≤(w.heap.push ob).size;simp,fun k hk _=>by
 show (w.heap.push ob)[k]?=w.heap[k]?;rw[Array.getElem?_push_lt hk,Y2 hk]⟩
theorem Z9v{x:Operand}{t e:TypeId}(ho:o.op = .call {callee:=.builtin .append,args:=#[.const (.slice none 0 0),x],argTypes:=#[t,t]})(ht:P.underlying t=some (.slice e))(hi:(P.info? e).map (fun i=>(i.size,i.bytes,i.zero.map (·.cells)))=some (1,8,some #[Value.int .i64 0])){g m: Nat}{cs:List Value}(hx:a.eval x = .slice (some ⟨g,0,none⟩) m c)(hg:w.heap[g]?=some (.cells cs.toArray T fz))(hl:m≤cs.length)(h0:0<m)(hm:m≤1000):
  (execOp a.eval o).run P w = .ok (.value (.slice (some ⟨w.heap.size,0,none⟩) m (grownCap w m 0 e))) (w.drew.alloc (.cells ((cs.take m).toArray++Builtin.zeroCells #[Value.int .i64 0] (grownCap w m 0 e-m)) e)):=by
 cases hq:P.info? e with
 | none=>simp[hq]at hi
 | some i =>
  simp only[hq,Option.map_some,Y4,Y9,Y3]at hi;obtain⟨hi1,hi2,z,hz1,hz2⟩:=hi;have hr:=run_append_nil (P:=P) w t o.type e i z ht hq hz1 ⟨g,0,none⟩ m c (cs.take m) (by rw[hi1,List.length_take];omega) (fun j v hv=>by
   rw[Addr.add_lit,Nat.zero_add,Z1 hg];rw[List.getElem?_take]at hv
   split at hv
   ·simpa using hv
   ·cases hv) h0 (by omega) (by rw[hi2];omega)
  rw[hz2]at hr;have hn:a.eval (.const (.slice none 0 0)) = .slice none 0 0:=rfl;unfold execOp;simp only[ho,resolve,invoke,builtin,Sem.run_bind,Sem.run_pure,Result.andThen_ok,List.map_toArray,List.map_cons,List.map_nil,hx,hn,hr]
theorem ZbH{x:Operand}{t e:TypeId}(ho:o.op = .call {callee:=.builtin .append,args:=#[.const (.slice none 0 0),x],argTypes:=#[t,t]})(ht:P.underlying t=some (.slice e))(hi:(P.info? e).map (fun i=>(i.size,i.bytes,i.zero.map (·.cells)))=some (1,8,some #[Value.int .i64 0]))(hx:a.eval x = .slice none 0 0): (execOp a.eval o).run P w = .ok (.value (.slice none 0 0)) w:=by
 cases hq:P.info? e with
 | none=>simp[hq]at hi
 | some i =>
  simp only[hq,Option.map_some,Y4,Y9,Y3]at hi;obtain⟨hi1,hi2,z,hz1,hz2⟩:=hi;have hr:(Builtin.append_ #[t,t] o.type #[.slice none 0 0,.slice none 0 0]).run P w = .ok (.slice none 0 0) w:=by
   unfold Builtin.append_;simp[ht,run_underlying ht,sizeOf,typeInfo,hq,Builtin.lenOf,Builtin.firstCells,go_sem,Result.andThen]
  have hn:a.eval (.const (.slice none 0 0)) = .slice none 0 0:=rfl;unfold execOp;simp only[ho,resolve,invoke,builtin,Sem.run_bind,Sem.run_pure,Result.andThen_ok,List.map_toArray,List.map_cons,List.map_nil,hx,hn,hr]
theorem ZbG{x:Operand}{t e:TypeId}(ho:o.op = .call {callee:=.builtin .append,args:=#[.const (.slice none 0 0),x],argTypes:=#[t,t]})(ht:P.underlying t=some (.slice e))(hi:(P.info? e).map (fun i=>(i.size,i.bytes,i.zero.map (·.cells)))=some (1,8,some #[Value.int .i64 0])){g m: Nat}{cs:List Value}(hx:a.eval x = .slice (some ⟨g,0,none⟩) m c)(hg:w.heap[g]?=some (.cells cs.toArray T fz))(hl:m≤cs.length)(h0:0<m)(hm:m≤1000):
  ∃v' w',(execOp a.eval o).run P w = .ok (.value v') w'∧(∃b k,v' = .slice (some ⟨b,0,none⟩) m k∧∃d,k=(Question.appendCap m 0 e).cut (w.tape d (.appendCap m 0 e)))∧Ext [] w w':=
 ⟨_,_,Z9v ho ht hi hx hg hl h0 hm,⟨_,_,rfl,w.drawn,rfl⟩,Z9N⟩
def ZbD(w:World)(y:Value):Prop:=∀g n c,y = .slice (some ⟨g,0,none⟩) n c→∃d,c=(Question.appendCap n 0 3).cut (w.tape d (.appendCap n 0 3))
theorem Zed{x:Operand}{t:TypeId}(ho:o.op = .call {callee:=.builtin .append,args:=#[.const (.slice none 0 0),x],argTypes:=#[t,t]})(ht:P.underlying t=some (.slice 3))(hi:(P.info? 3).map (fun i=>(i.size,i.bytes,i.zero.map (·.cells)))=some (1,8,some #[Value.int .i64 0])){y:Value}(hx:a.eval x=y)(h:IntR base w l y)(hl:l.length≤1000):
  ∃v' w',(execOp a.eval o).run P w = .ok (.value v') w'∧IntR w.heap.size w' l v'∧Ext [] w w'∧ZbD w v':=by
 rcases h with⟨rfl,rfl⟩ | ⟨g,c,h1,rfl,h3,h4,h5,h6⟩
 ·exact⟨_,_,ZbH ho ht hi hx,.inl ⟨rfl,rfl⟩,Ext.refl _ _,fun g n c e=>by cases e⟩
 ·have h0:0<l.length:=List.length_pos_iff.2 h1
  refine⟨_,_,Z9v ho ht hi hx h6 (by simp[ivs]) h0 hl,.inr ⟨_,_,h1,rfl,Ye _,?_,?_,?_⟩,Z9N,fun g' n' c' e=>?_⟩
  ·unfold grownCap Question.cut
   dsimp only;omega
  ·unfold grownCap Question.cut
   dsimp only;simp only[maxLen];have:w.tape w.drawn (.appendCap l.length 0 3) % (2 ^ 63-l.length)<2 ^ 63-l.length:=Nat.mod_lt _ (by omega);omega
  ·have hh:=heap_alloc_new w.drew (.cells ((((ivs l)++List.replicate (c-l.length) (Value.int .i64 0)).take l.length).toArray++Builtin.zeroCells #[Value.int .i64 0] (grownCap w l.length 0 3-l.length)) 3)
   refine hh.trans ?_
   congr 1
   congr 1
   apply Array.ext';have hil:(ivs l).length=l.length:=by simp[ivs]
   rw[List.take_append_of_le_length (by rw[hil];exact Ye _),List.take_of_length_le (by rw[hil];exact Ye _)];simp only[Array.toList_append]
   congr 1
   apply List.ext_getElem?;intro i;rw[Array.getElem?_toList]
   by_cases hi:i<grownCap w l.length 0 3-l.length
   ·rw[ZaD hi,List.getElem?_replicate,if_pos hi]
   ·rw[List.getElem?_replicate,if_neg hi]
    rw[Array.getElem?_eq_none];simp[Builtin.zeroCells];omega
  ·simp only[Value.slice.injEq,Y4,Addr.mk.injEq]at e
   obtain⟨_,rfl,rfl⟩:=e;exact⟨w.drawn,rfl⟩
theorem ZiU{x:Operand}{t:TypeId}{b:Option Addr}(ho:o.op = .call {callee:=.builtin .cap,args:=#[x],argTypes:=#[t]})(hx:a.eval x = .slice b n c)(hu:P.underlying t=some (.slice (P.elem t))): (execOp a.eval o).run P w = .ok (.value (.int .i64 c)) w:=by
 unfold execOp;simp only[ho,resolve,invoke,builtin,Sem.run_bind,Sem.run_pure,Result.andThen_ok,List.map_toArray,List.map_cons,List.map_nil,hx,run_cap_slice w t o.type b n c hu]
 rfl
theorem Z5H{ρ:Operand→Value}{x:Operand}{t:TypeId}{d:TypeDesc}(ho:o.op = .makeInterface t x)(hx:ρ x=v)(hu:P.underlying t=some d)(hd:∀m,d ≠ .interface m): (execOp ρ o).run P w = .ok (.value (.iface t v)) w:=by
 unfold execOp
 cases d<;>first | exact absurd rfl (hd _) | simp[ho,hx,Instr.makeInterface,run_underlying hu,go_sem,Result.andThen]
theorem Zfn(F:Has N D a L)(hd:o.dst=some d)(hN:d<N)(hw:Region.wanted o (yielded ops a.tmps)=true)(hr:(execOp a.eval o).run P w = .ok (.enter f args) w)(hc:Calls P f args w R)(h:∀e w',R e w'→(∃ch,e = .panicked ch∧Q (.panic ch) a w')∨∃v,e = .returned v∧∀a2,Has N D a2 ((d,v)::L)→wpList P ops Q rest a2 w'): wpList P ops Q (o::rest) a w:=by
 unfold wpList;simp only[hw,if_true,Oper.wp,hr,Oper.upon];refine .inl (hc.mono fun e w' hR=>?_)
 rcases h e w' hR with⟨ch,rfl,h1⟩ | ⟨v,rfl,h1⟩
 ·exact h1
 ·show wpList _ _ _ _ _ _
  rw[hd];exact h1 _ (F.put hN v)
theorem Has.kp{l:List Operand}{ts:Array TypeId}{vs:List Value}(F:Has N D a L)(hc:Calls P f vs.toArray w R)(C:Z7M P f=true:=by kernel_rfl)(ho:o.op = .call {callee:=.value (.func f),args:=l.toArray,argTypes:=ts}:=by rfl)(ha:opvs L l=some vs:=by rfl)(hd:o.dst=some d:=by rfl)(hN:d<N:=by decide)(hw:Z0c L ops o=some true:=by rfl)(h:∀e w',R e w'→(∃ch,e = .panicked ch∧Q (.panic ch) a w')∨∃v,e = .returned v∧∀{a2},Has N D a2 ((d,v)::L)→wpList P ops Q rest a2 w'): wpList P ops Q (o::rest) a w:=Zfn F hd hN (F.want hw) (F.rc C ho ha) hc fun e w' hR=>by
 rcases h e w' hR with h | ⟨v,h1,h2⟩
 ·exact .inl h
 ·exact .inr ⟨v,h1,fun _ F=>h2 F⟩
end
def bunV(f:FuncId)(xs:Array Value):PanicEntry:={v:=.iface 90 (.func (.func f) xs #[]),recovered:=false}
theorem ZkC:(Qy.prog 0).underlying 90=Tryz.prog.underlying 90:=Lift.under_pf (P:=Tryz.prog) 90
end
section
open Go.RowKit
variable{μ:Nat}
theorem ZaW(xs:List Int)(f:FuncId)(cs:Array Value)(p:Int→Bool)(a:Option Addr)(c:Nat)(w:World)(hx:Z7 w (.slice a xs.length c) 1 (xs.map Z6))(hl:xs.length≤1000)
  (hf:∀args w,(callFunc f args).run (Qy.prog μ) w = .ok (.enter f args) w) (hc:∀W,Ext [] w W→∀n∈xs,Calls (Qy.prog μ) f (#[]++[Value.int .i64 n].toArray++cs) W fun e W'=>e = .returned (.bool (p n))∧Ext [] W W') :
  Calls (Qy.prog μ) 119 #[.slice a xs.length c,.func (.func f) #[] cs] w fun e w'=>∃r,e = .returned (.int .i64 r)∧decide (0≤r)=xs.any p∧Ext [] w w':=by
 have E:Ext [] w w:=Ext.refl _ _;have HS:=Lib.hid (Za hx 0);have HC:=Lib.hid hc;have HF:=Lib.hid hf;clear hx hc hf;have G:=(Bk.nil w).ce E;refine(ent 19 Tryz.f119 rfl) fun F=>wR fun k1=>(F.m) fun F=>k1<|wQ fun k2=>wR fun k3=>(F.m) fun F=>(F.y F.ln) fun F=>(F.m) fun F=>k3<|Yh<|lpB (F.b [0,1,7]) G (xs.length) (fun i Lv Sv W=>Lv=[(8,.int .i64 ((i:Nat):Int))]∧Sv=[]∧∀j,j<i→p (xs.getD j 0)=false) ⟨_,_,F.u,G.u,rfl,rfl,(fun j h=>by omega)⟩ ?_
 clear F G;rintro i _ w1 _ _ hi1 ⟨rfl,rfl,hb⟩ F G;replace G:=G.z;refine wR fun k4=>(F.y F.ls) fun F=>k4<|wQ fun k5=>F.ci (fun hc9=>?_) (fun hc9=>?_)
 ·refine Yi<|k5<|wQ fun k6=>Yh<|wR fun k7=>(F.m) fun F=>(F.m) fun F=>k7<|wR fun k8=>(F.m) fun F=>(F.m) fun F=>(F.m) fun F=>(F.ix HS.out i) fun xr9 F=>(F.y (F.l1 (xr9 _ (G.e 0)) 0)) fun F=>?_
  refine(F.kr (Z2W rfl (F.at rfl) HF.out (mpS (F.at rfl) mp0) rfl) (HC.out _ (G.e 0) _ (Z8 0 (by omega)))) ?_;rintro _ w2 ⟨rfl,e9⟩;refine⟨_,rfl,fun F=>?_⟩;replace G:=G.ex e9;refine k8<|F.cb (fun hc16=>?_) (fun hc16=>?_)
  ·refine wR fun k10=>(F.m) fun F=>(F.m) fun F=>k10<|(F.r1) ?_
   exact⟨_,rfl,(by rw[decide_eq_true (by omega),List.any_eq_true.2 ⟨_,Z8 0 (by omega),hc16⟩]),(G.e 0)⟩
  ·refine Yi<|k6<|Yg<|(F.y F.ad) fun F=>(F.m) fun F=>?_
   show _∧_;exact⟨by omega,_,_,F.u,G.u,rfl,rfl,(fun j h=>by rcases Nat.lt_succ_iff_lt_or_eq.1 h with h | rfl;(· exact hb j h);(· exact hc16))⟩
 ·refine wp_exit<|k2<|wR fun k11=>(F.m) fun F=>k11<|(F.r1) ?_
  exact⟨_,rfl,(by rw[decide_eq_false (by omega)];symm;rw[List.any_eq_false];intro n hn;obtain⟨j,hj,rfl⟩:=List.getElem_of_mem hn;have:=hb j (by omega);simpa[hj] using this),(G.e 0)⟩
theorem Z6E(xs:List Int)(f:FuncId)(cs:Array Value)(p:Int→Bool)(a:Option Addr)(c:Nat)(w:World)(hx:Z7 w (.slice a xs.length c) 1 (xs.map Z6))(hl:xs.length≤1000)
  (hf:∀args w,(callFunc f args).run (Qy.prog μ) w = .ok (.enter f args) w) (hc:∀W,Ext [] w W→∀n∈xs,Calls (Qy.prog μ) f (#[]++[Value.int .i64 n].toArray++cs) W fun e W'=>e = .returned (.bool (p n))∧Ext [] W W') :
  Calls (Qy.prog μ) 72 #[.slice a xs.length c,.func (.func f) #[] cs] w fun e w'=>e = .returned (.bool (xs.any p))∧Ext [] w w':=by
 have E:Ext [] w w:=Ext.refl _ _;have HX:=Lib.hid hx;have HC:=Lib.hid hc;have HF:=Lib.hid hf;clear hx hc hf;have G:=(Bk.nil w).ce E;refine(ent 9 Tryz.f72 rfl) fun F=>wR fun k1=>(F.m) fun F=>k1<|wR fun k2=>(F.m) fun F=>(F.m) fun F=>(F.k (ZaW xs f cs p a c _ (HX.out.ext (G.e 0) (by simp)) hl HF.out (fun W e=>HC.out W ((G.e 0).trans e)))) ?_
 rintro _ w1 ⟨r,rfl,hr,e9⟩;refine⟨_,rfl,fun F=>?_⟩;replace G:=G.ex e9;refine(F.y F.ge) fun F=>(F.m) fun F=>k2<|(F.r1) ?_
 exact⟨Z0K hr,(G.e 0)⟩
theorem Zf3(x:Vm)(hv:VOk x)(T:List (List Int))(hT:∀t∈T,TubS (val t))(ma:Option Addr)(mc n8 n9 n11 n12 j k l:Nat)(hj:j<T.length)(hk:k<T.length)(hl:l<x.L.length)(w:World)(h:x.At w)
  (q8:w.heap[n8]?=some (.cells #[.int .i64 x.B,.slice x.da x.D.length x.dc,.slice x.la x.L.length x.lc,.int .i64 x.tol] 85 (0,0))) (q9:w.heap[n9]?=some (.cells #[.slice ma T.length mc] 93 (0,0))) (q11:w.heap[n11]?=some (.cells #[.int .i64 ((j:Nat):Int)] 3 (0,0))) (q12:w.heap[n12]?=some (.cells #[.int .i64 ((k:Nat):Int)] 3 (0,0)))
  (hs:SlAt [] w ma 4 T.length (fun i=>tubR (val (T.getD i [])))) (h6:T.length≤6) :
  Calls (Qy.prog μ) 73 #[.int .i64 ((l:Nat):Int),.pointer (some ⟨n8,0,none⟩),.pointer (some ⟨n9,0,none⟩),.pointer (some ⟨n11,0,none⟩),.pointer (some ⟨n12,0,none⟩)] w fun e w'=>e = .returned (.bool (!alkE x l (val (T.getD j [])) (val (T.getD k []))))∧Ext [] w w':=by
 have E:Ext [] w w:=Ext.refl _ _;have HX:=Lib.hid h;have HV:=Lib.hid hv;have HT:=Lib.hid hT;have HS:=Lib.hid hs;clear h hv hT hs;have G:=(Bk.nil w).ce E;replace G:=(((G.cq q8).cq q9).cq q11).cq q12;refine(ent 19 Tryz.f73 rfl) fun F=>wR fun k1=>(F.m) fun F=>k1<|wQ fun k2=>(wX 10 G) fun G=>(F.s (F.lb (G.q 3))) fun F=>(F.sm) fun F=>(F.s (F.lc (G.q 2))) fun F=>(F.s (F.lc (G.q 1))) fun F=>(F.sx HS.out j) fun xr3 F=>(F.s (F.lr (xr3 _ (G.e 4)))) fun F=>(F.s (F.lc (G.q 2))) fun F=>(F.s (F.lc (G.q 0))) fun F=>(F.sx HS.out k) fun xr4 F=>(F.s (F.lr (xr4 _ (G.e 4)))) fun F=>wpStill_nil<|(F.k0 G (Z9A x HV.out l hl (val (T.getD j [])) (val (T.getD k [])) (HT.out _ (Z10 [] (by omega))) (HT.out _ (Z10 [] (by omega))) _ (HX.out.ext (G.e 4)))) fun F G=>(F.y F.nb) fun F=>?_
 refine(F.m) fun F=>k2<|(F.r1) ?_
 exact⟨rfl,(G.e 4)⟩
variable{μ:Nat}
def sixC(f:Nat→Int):Array Value:=#[.int .u8 (f 0),.int .u8 (f 1),.int .u8 (f 2),.int .u8 (f 3),.int .u8 (f 4),.int .u8 (f 5)]
theorem Zkg{f:Nat→Int}(h:i.toNat=k)(hk:k<6): (sixC f)[i.toNat]?=some (.int .u8 (f k)):=by
 subst h
 rcases hi:i.toNat with _ | _ | _ | _ | _ | _ | n
 ·rfl
 ·rfl
 ·rfl
 ·rfl
 ·rfl
 ·rfl
 ·omega
theorem ZdG{f:Nat→Int}(H:w.heap[b]?=some (.cells (sixC f) T fz))(h:i.toNat=k)(hk:k<6): w.cell? ⟨b,0+i.toNat*1,none⟩=some (.int .u8 (f k)):=by
 rw[Z1 H,Nat.zero_add,Nat.mul_one];exact Zkg h hk
theorem Zig{w2: World}{f:Nat→Int}{v: Int}(e:w2=w.setCell ⟨b,0+i.toNat*1,none⟩ (.int .u8 v))(H:w.heap[b]?=some (.cells (sixC f) T (0,0)))(h:i.toNat=k)(hk:k<6): w2.heap[b]?=some (.cells (sixC (upF f k v)) T (0,0)):=by
 refine Zz e H ?_;rw[Nat.zero_add,Nat.mul_one,h];clear e H h
 match k,hk with
 | 0,_=>rfl
 | 1,_=>rfl
 | 2,_=>rfl
 | 3,_=>rfl
 | 4,_=>rfl
 | 5,_=>rfl
def nrB(x:Vm)(ls:List Int)(T:List (List Int))(j k:Nat):Bool:=!(ls.any fun l=>!alkE x l.toNat (val (T.getD j [])) (val (T.getD k [])))
section
variable(p:Nat→Nat→Bool)
def fnK(j:Nat):Nat→Nat
 | 0=>0
 | k+1=>if p j k=true then fnK j k ||| 2 ^ k else fnK j k
theorem Z9U(j:Nat):∀k,k≤6→fnK p j k<64
 | 0,_=>by simp[fnK]
 | k+1,h=>by
  rw[fnK]
  split
  ·exact Zlv _ (Z9U j k (by omega)) k (by omega)
  ·exact Z9U j k (by omega)
def finF(n j k:Nat):Nat→Int:=fun i=>if i<j then((fnK p i n:Nat):Int) else if i=j then((fnK p j k:Nat):Int) else 0
theorem ZeJ(h:p j k=true): upF (finF p n j k) j (((fnK p j k ||| 2 ^ k:Nat)):Int)=finF p n j (k+1):=by
 funext i
 rw[upF,finF,finF]
 by_cases h1:i=j
 ·subst h1;simp[fnK,h]
 ·simp[h1]
theorem Zhq(h:p j k=false): finF p n j k=finF p n j (k+1):=by
 funext i
 rw[finF,finF,fnK,h];simp
theorem ZcE: finF p n j n=finF p n (j+1) 0:=by
 funext i
 rw[finF,finF]
 by_cases h1:i=j
 ·subst h1;simp
 ·by_cases h2:i<j
  ·simp[h2,show i<j+1 by omega]
  ·simp[h1,h2,show ¬i<j+1 by omega,fnK]
theorem ZcF: finF p n 0 0=zf:=by
 funext i
 rw[finF,zf]
 by_cases h:i=0
 ·simp[h,fnK]
 ·simp[h]
def finS(n i:Nat):Nat:=if i<n then fnK p i n else 0
theorem Zhr(h:n≤6)(i:Nat): finS p n i<64:=by
 rw[finS]
 split
 ·exact Z9U p i n h
 ·omega
theorem ZeI(i:Nat): finF p n n 0 i=((finS p n i:Nat):Int):=by
 rw[finF,finS]
 by_cases h:i<n
 ·simp[h]
 ·simp[h,fnK]
def okS(n s:Nat):Bool:=(Zk s).all fun i=>subB s (finS p n i.toNat)
def betS(s b:Nat):Bool:=decide (Z09 b<Z09 s)||(decide (Z09 s=Z09 b)&&decide (cmpL (Zk s) (Zk b)<0))
def Z0m(n:Nat):Nat→Nat
 | 0=>0
 | s+1=>if okS p n s&&betS s (Z0m n s) then s else Z0m n s
theorem Z6s(n:Nat):∀s,s≤64→Z0m p n s<64
 | 0,_=>by simp[Z0m]
 | s+1,h=>by
  rw[Z0m]
  split
  ·omega
  ·exact Z6s n s (by omega)
theorem ZbV(h:okS p n s=false): Z0m p n s=Z0m p n (s+1):=by rw[Z0m,h];simp
theorem Z7L(h:okS p n s=true)(hb:Z09 (Z0m p n s)<Z09 s∨(Z09 s=Z09 (Z0m p n s)∧cmpL (Zk s) (Zk (Z0m p n s))<0)): s=Z0m p n (s+1):=by
 rw[Z0m,h,betS]
 rcases hb with h1 | ⟨h1,h2⟩<;>simp[*]
theorem Z4m(hb:¬Z09 (Z0m p n s)<Z09 s)(h2:Z09 s=Z09 (Z0m p n s)→¬cmpL (Zk s) (Zk (Z0m p n s))<0): Z0m p n s=Z0m p n (s+1):=by
 rw[Z0m,betS,if_neg];simp only[Y5,Yo,decide_eq_true_eq,not_and,not_or];exact fun _=>⟨hb,fun h=>h2 h⟩
theorem Zi5(h:∀i,i<(Zk s).length→subB s (finS p n ((Zk s).getD i 0).toNat)=true): okS p n s=true:=by
 rw[okS,Yl];intro n hn;obtain⟨i,hi,rfl⟩:=List.getElem_of_mem hn;simpa[hi] using h i hi
theorem Zi6{i: Nat}(hi:i<(Zk s).length)(h:subB s (finS p n ((Zk s).getD i 0).toNat)=false): okS p n s=false:=by
 rw[okS,List.all_eq_false];exact⟨_,Z8 0 hi,by rw[h];decide⟩
end
theorem Zbc:∀s,s<64→∀n∈Zk s,0≤n∧n<6:=by decide +kernel
theorem Z65:∀s,s<64→(Zk s).length≤6:=by decide +kernel
def mosR(x:Vm)(ls:List Int)(T:List (List Int)):List Int:=Zk (Z0m (nrB x ls T) T.length (2 ^ T.length))
theorem Zr(h:w.ownsRow base 3 1 (.slice a n c) n (ivs xs))(hn:n=xs.length): Z7 w (.slice a n c) 1 (xs.map Z6):=by
 subst hn;exact ZC (row:=Z6) (by rw[←Z0I];exact h) (fun _=>rfl)
theorem Zic:∀n,n≤6→2 ^ n≤64:=by decide
theorem ZfT(x:Vm)(hv:VOk x)(S:List (Value×List Int))(hs:∀p∈S,RcpOk x p.2)(h6:S.length≤6)(ls:List Int)(hll:Z5F x ls)(hl4:ls.length≤1000)(a b:Option Addr)(c d:Nat)(w:World)(h:x.At w)(hl:Z0x w a S)(hq:Z7 w (.slice b ls.length d) 1 (ls.map Z6)):
  Calls (Qy.prog μ) 22 #[.agg #[.int .i64 x.B,.slice x.da x.D.length x.dc,.slice x.la x.L.length x.lc,.int .i64 x.tol],.slice a S.length c,.slice b ls.length d] w (Z4k (mosR x ls (S.map (·.2)),0) w):=by
 have E:Ext [] w w:=Ext.refl _ _;have HX:=Lib.hid h;have HV:=Lib.hid hv;have HL:=Lib.hid hl;have HS:=Lib.hid hs;have HQ:=Lib.hid hq;have HM:=Lib.hid hll;obtain⟨T,hT⟩:∃T,T=S.map (·.2):=⟨_,rfl⟩;have hTl:T.length=S.length:=by rw[hT,Yj]
 have HT:RowKit.Hid (∀t∈T,TubS (val t)):=Lib.hid (fun t ht=>by
  rw[hT]at ht;obtain⟨p,hp,rfl⟩:=List.mem_map.1 ht;exact(hs p hp).tub)
 obtain⟨p,hp⟩:∃p,p=nrB x ls T:=⟨_,rfl⟩;have HP:=Lib.hid hp;clear h hv hl hs hq hll hp;have G:=(Bk.nil w).ce E;refine(entM 92 Tryz.f22 rfl) fun F=>wR fun k1=>(F.bx G) fun yy F G=>(F.m) fun F=>(F.al G Qy.zeroValue30) fun yy F G=>k1<|wp_scope_straight<|wR fun k2=>(F.df) fun F=>k2<|wR fun k3=>(F.y (F.lb (G.q 1))) fun F=>(F.k0 G (Z0u x HV.out _ (HX.out.ext (G.e 2)))) fun F G=>(F.al G Qy.zeroValue85) @fun n8 w4 _ yy F G=>(F.sr G 0) fun G=>k3<|wR fun k4=>(F.y (F.lb (G.q 0))) fun F=>?_
 refine(F.m) fun F=>(F.k (Z5q x HV.out S HS.out h6 a c _ (HL.out.ext (G.e 3)))) ?_;rintro _ w6 ⟨ma,mc,rfl,om,e9⟩;refine⟨_,rfl,fun F=>?_⟩;replace G:=G.ex e9;rw[←hT,←hTl]at om;rw[←hTl]at F;have hrm:=Lib.hid (ZC (row:=fun t:List Int=>tubR (val t)) om (fun _=>rfl));clear om;replace G:=G.hr [];refine(F.al G Qy.zeroValue93) @fun n9 w7 _ yy F G=>(F.st G 0) fun G=>k4<|wR fun k5=>(F.y (F.lb (G.q 2))) fun F=>(F.m) fun F=>(F.k0 G (Z6X x HV.out ls HM.out hl4 b d _ (HX.out.ext (G.e 5)) (HQ.out.ext (G.e 5) (by simp)))) fun F G=>k5<|wR fun k6=>(F.al G Qy.zeroValue97) @fun n10 w10 _ yy F G=>?_
 have HTs:=Lib.hid (Z0M (X:=[n10]) hrm.out (fun W e=>hrm.out.ext e (by simp;omega)) []);have E9:=(G.e 2).mono (Y:=[n10]) (by simp);have q10:=G.q 0;replace q10:w10.heap[n10]?=some (.cells (sixC (finF p T.length 0 0)) 97 (0,0)):=by rw[ZcF];exact q10
 replace G:=G.rQ 0 q10;clear q10;replace G:=G.ce E9;refine k6<|wQ fun k7=>wR fun k8=>(F.y (F.lc (G.q 2))) fun F=>(F.y F.ln) fun F=>(F.m) fun F=>k8<|Yh<|lpB (F.b [2,7,8,9,10,26]) (G.b [0,2,4,5,6,7]) (T.length) (fun j Lv Sv W=>Lv=[(27,.int .i64 ((j:Nat):Int))]∧Sv=[.q n10 ((sixC (finF p T.length j 0))) 97]) ⟨_,_,F.u,G.u,rfl,rfl⟩ ?_
 clear F G;rintro j _ w11 _ _ hi1 ⟨rfl,rfl⟩ F G;replace G:=G.z;refine wR fun k9=>(F.y F.ls) fun F=>k9<|wQ fun k10=>F.ci (fun hc28=>?_) (fun hc28=>?_)
 ·refine Yi<|k10<|wQ fun k11=>Yh<|wR fun k12=>(F.m) fun F=>(F.al G Qy.zeroValue3) @fun n11 w12 _ yy F G=>(F.st G 0) fun G=>k12<|wR fun k13=>(F.y (F.lc (G.q 3))) fun F=>(F.y F.ln) fun F=>(F.m) fun F=>k13<|Yh<|lpB (F.b [2,7,8,9,10,11,26,27,31]) (G.b [0,2,3,4,5,6,7]) (T.length) (fun k Lv Sv W=>Lv=[(32,.int .i64 ((k:Nat):Int))]∧Sv=[.q n10 ((sixC (finF p T.length j k))) 97]) ⟨_,_,F.u,G.u,rfl,rfl⟩ ?_
  clear F G;rintro k _ w14 _ _ hi2 ⟨rfl,rfl⟩ F G;replace G:=G.z;refine wR fun k14=>(F.y F.ls) fun F=>k14<|wQ fun k15=>F.ci (fun hc33=>?_) (fun hc33=>?_)
  ·refine Yi<|k15<|wQ fun k16=>Yh<|wR fun k17=>(F.m) fun F=>(F.al G Qy.zeroValue3) @fun n12 w15 _ yy F G=>(F.st G 0) @fun w16 G=>k17<|wR fun k18=>(F.m) fun F=>(F.y F.mf) fun F=>?_
   have hsl:SlAt [] w16 ma 4 T.length (fun i=>tubR (val (T.getD i []))):=Za (row:=fun t:List Int=>tubR (val t)) (hrm.out.ext (G.e 3) (by simp;omega)) [];refine(F.k0 G (Z6E ls 73 #[.pointer (some ⟨n8,0,none⟩),.pointer (some ⟨n9,0,none⟩),.pointer (some ⟨n11,0,none⟩),.pointer (some ⟨n12,0,none⟩)] (fun l=>!alkE x l.toNat (val (T.getD j [])) (val (T.getD k []))) b d _ (HQ.out.ext (G.e 8) (by simp)) hl4 Qy.call73 (fun W e n hn=>(by obtain⟨h0,h1⟩:=HM.out.2.1 n hn;have hm:=Zf3 (μ:=μ) x HV.out T HT.out ma mc n8 n9 n11 n12 j k n.toNat (by omega) (by omega) (by omega) W ((HX.out.ext (G.e 8)).ext e) (e.keep0 (G.q 5)) (e.keep0 (G.q 4)) (e.keep0 (G.q 2)) (e.keep0 (G.q 0)) (Zao hsl e) (by omega);rw[show ((n.toNat:Nat):Int)=n by omega]at hm;exact hm)))) fun F G=>(F.y F.nb) fun F=>?_;have hpe:(!(ls.any fun l=>!alkE x l.toNat (val (T.getD j [])) (val (T.getD k []))))=p j k:=by rw[HP.out];rfl
   rw[hpe]at F;have hfl:=Z9U p j k (by omega);refine k18<|F.cb (fun hc38=>?_) (fun hc38=>?_)
   ·refine(wX 7 G) fun G=>(F.s (F.lc (G.q 2))) fun F=>(F.s (F.ia 6 1)) fun F=>(F.s (F.lw (ZdG (G.q 1) (k:=j) rfl (by omega)))) fun F=>?_
    rw[show finF p T.length j k j=((fnK p j k:Nat):Int) by simp[finF]]at F;refine(F.s (F.lc (G.q 0))) fun F=>?_;refine(F.s ((Zj1 rfl (ev_c _ _) (F.at rfl)))) fun F=>?_;rw[shl8 k (by omega)]at F;refine(F.s ((R_or rfl (F.at rfl) (F.at rfl)))) fun F=>?_;rw[or8 _ hfl k (by omega)]at F;refine(F.s (F.ia 6 1)) fun F=>wpStill_nil<|(F.sw G 1 (ZdG (G.q 1) (k:=j) rfl (by omega)) fun _ hw=>Zig hw (G.q 1) (k:=j) rfl (by omega)) fun G=>?_
    have q10:=G.q 1;rw[ZeJ p hc38]at q10;replace G:=G.rQ 1 q10;clear q10;refine k16<|Yg<|(F.y F.ad) fun F=>(F.m) fun F=>?_
    show _∧_;exact⟨by omega,_,_,F.u,G.u,rfl,rfl⟩
   ·have q10:=G.q 1
    rw[Zhq p hc38]at q10;replace G:=G.rQ 1 q10;clear q10;refine Yi<|k16<|Yg<|(F.y F.ad) fun F=>(F.m) fun F=>?_
    show _∧_;exact⟨by omega,_,_,F.u,G.u,rfl,rfl⟩
  ·refine wp_exit ?_
   have q10:=G.q 0;rw[show k=T.length by omega,ZcE]at q10;replace G:=G.rQ 0 q10;clear q10;refine k11<|Yg<|(F.y F.ad) fun F=>(F.m) fun F=>?_
   show _∧_;exact⟨by omega,_,_,F.u,G.u,rfl,rfl⟩
 ·refine wp_exit ?_
  have q10:=G.q 0;rw[show j=T.length by omega]at q10;replace G:=G.rQ 0 q10;clear q10;refine k7<|wR fun k19=>(F.m) fun F=>?_
  obtain⟨M2,hM2⟩:∃M2,M2=2 ^ T.length:=⟨_,rfl⟩;have hM64:M2≤64:=by rw[hM2];exact Zic _ (by omega)
  rw[show (0:Int)=((Z0m p T.length 0:Nat):Int) from rfl]at F;refine k19<|wQ fun k20=>wp_label<|k20<|wQ fun k21=>wR fun k22=>(F.y (F.lc (G.q 2))) fun F=>(F.y F.ln) fun F=>?_
  refine(F.y ((Zj1 rfl (ev_c _ _) (F.at rfl)))) fun F=>?_;rw[shl8 T.length (by omega),←hM2]at F;refine(F.m) fun F=>?_;rw[show (0:Int)=((0:Nat):Int) from rfl]at F;refine k22<|Yh<|lpB (F.b [7,10,50]) (G.b [2,3,4,5,6]) (M2) (fun s Lv Sv W=>Lv=[(13,.int .u8 ((Z0m p T.length s:Nat):Int)),(51,.int .u8 ((s:Nat):Int))]∧Sv=[.q n10 ((sixC (finF p T.length T.length 0))) 97]) ⟨_,_,F.u,G.u,rfl,rfl⟩ ?_
  clear F G;rintro s _ w20 _ _ hi3 ⟨rfl,rfl⟩ F G;replace G:=G.z;refine wQ fun k23=>?_;have hbl:=Z6s p T.length s (by omega);refine Yg<|(F.y F.ls) fun F=>k23<|wQ fun k24=>F.ci (fun hc52=>?_) (fun hc52=>?_)
  ·refine Yi<|k24<|wQ fun k25=>Yh<|wR fun k26=>(F.m) fun F=>(F.m) fun F=>k26<|wQ fun k27=>wR fun k28=>(F.m) fun F=>(F.k (Z71 s (by omega) _)) ?_
   rintro _ w21 ⟨sa,sc,rfl,os,e9⟩;refine⟨_,rfl,fun F=>?_⟩;replace G:=G.ex e9;have HSs:=Lib.hid (ZJ os rfl [] (by simp));have RA:=Lib.hid (Zr os rfl);clear os;have hsb:=Lib.hid (Zbc s (by omega));have hsl6:=Z65 s (by omega);replace G:=G.hr [];refine(F.y F.ln) fun F=>(F.m) fun F=>k28<|Yh<|lpB (F.b [7,10,13,14,50,51,55,56]) (G.b [0,2,3,4,5,6]) ((Zk s).length) (fun i Lv Sv W=>Lv=[(57,.int .i64 ((i:Nat):Int))]∧Sv=[.q n10 ((sixC (finF p T.length T.length 0))) 97]∧∀j,j<i→subB s (finS p T.length ((Zk s).getD j 0).toNat)=true) ⟨_,_,F.u,G.u,rfl,rfl,(fun j h=>by omega)⟩ ?_
   clear F G;rintro i _ w22 _ _ hi4 ⟨rfl,rfl,hoks⟩ F G;replace G:=G.z;refine wR fun k29=>(F.y F.ls) fun F=>k29<|wQ fun k30=>F.ci (fun hc58=>?_) (fun hc58=>?_)
   ·refine Yi<|k30<|wQ fun k31=>Yh<|wR fun k32=>(F.ix HSs.out i) fun xr33 F=>(F.y (F.l1 (xr33 _ (G.e 1)) 0)) fun F=>(F.m) fun F=>k32<|wQ fun k34=>?_
    obtain⟨hn0,hn6⟩:=hsb.out _ (Z8 (l:=Zk s) (i:=i) 0 (by omega));refine Yg<|(F.m) fun F=>(F.m) fun F=>(F.y (F.ia 6 1)) fun F=>(F.y (F.lw (ZdG (G.q 0) (k:=((Zk s).getD i 0).toNat) rfl (by omega)))) fun F=>?_
    rw[ZeI]at F;refine(F.y ((Zec rfl (F.at rfl) (F.at rfl)))) fun F=>(F.y F.ne) fun F=>?_;have hnt:=not8 s (by omega) _ (Zhr p (n:=T.length) (by omega) ((Zk s).getD i 0).toNat);refine k34<|F.ci (fun hc66=>?_) (fun hc66=>?_)
    ·have hsub:subB s (finS p T.length ((Zk s).getD i 0).toNat)=false:=by rw[←hnt];exact decide_eq_false hc66
     rw[ZbV p (Zi6 p (show i<(Zk s).length by omega) hsub)]at F;refine wp_exit<|k25<|Yg ?_
     refine(F.y ((Z4J rfl (F.at rfl) (ev_c _ _)))) fun F=>?_;rw[add8 s (by omega)]at F;refine(F.m) fun F=>?_;show _∧_;exact⟨by omega,_,_,F.u,G.u,rfl,rfl⟩
    ·have hsub:subB s (finS p T.length ((Zk s).getD i 0).toNat)=true:=by rw[←hnt];exact decide_eq_true (Classical.not_not.1 hc66)
     refine Yi<|k31<|Yg<|(F.y F.ad) fun F=>(F.m) fun F=>?_
     show _∧_;exact⟨by omega,_,_,F.u,G.u,rfl,rfl,(fun j h=>by rcases Nat.lt_succ_iff_lt_or_eq.1 h with h | rfl;(· exact hoks j h);(· exact hsub))⟩
   ·refine wp_exit<|k27<|wQ fun k35=>?_
    have hok:=Zi5 p (n:=T.length) (s:=s) (fun j hj=>hoks j (by omega));refine Yg<|(F.m) fun F=>(F.k0 G (Z4p s (by omega) _)) fun F G=>(F.m) fun F=>(F.k0 G (Z4p (Z0m p T.length s) hbl _)) fun F G=>(F.y F.gt) fun F=>(F.m) fun F=>?_
    by_cases hg1:(((Z09 (Z0m p T.length s):Nat):Int)<((Z09 s:Nat):Int))
    ·replace F:=F.re (k:=73) rfl (congrArg Value.bool (decide_eq_true hg1))
     refine(F.n) fun F=>(F.n) fun F=>(F.n) fun F=>(F.n) fun F=>(F.n) fun F=>(F.n) fun F=>(F.n) fun F=>(F.n) fun F=>(F.n) fun F=>(F.n) fun F=>(F.n) fun F=>(F.n) fun F=>(F.n) fun F=>(F.y F.pT) fun F=>k35 ?_
     try rw[Z4m p (by omega) (fun h=>absurd h (by omega))]at F
     refine(F.cT)<|Yg<|(F.m) fun F=>(F.m) fun F=>?_
     replace F:=F.re (k:=13) rfl (congrArg (fun z:Nat=>Value.int .u8 ((z:Nat):Int)) (Z7L p hok (by first | exact .inl (by omega) | exact .inr ⟨by omega,hc87⟩)));refine k25<|Yg ?_
     refine(F.y ((Z4J rfl (F.at rfl) (ev_c _ _)))) fun F=>?_;rw[add8 s (by omega)]at F;refine(F.m) fun F=>?_;show _∧_;exact⟨by omega,_,_,F.u,G.u,rfl,rfl⟩
    ·replace F:=F.re (k:=73) rfl (congrArg Value.bool (decide_eq_false hg1))
     refine(F.m) fun F=>(F.k0 G (Z4p s (by omega) _)) fun F G=>(F.m) fun F=>(F.k0 G (Z4p (Z0m p T.length s) hbl _)) fun F G=>(F.y F.eq) fun F=>(F.m) fun F=>?_
     by_cases hg2:(((Z09 s:Nat):Int)=((Z09 (Z0m p T.length s):Nat):Int))
     ·replace F:=F.re (k:=79) rfl (congrArg Value.bool (decide_eq_true hg2))
      refine(F.m) fun F=>(F.k (Z71 s (by omega) _)) ?_;rintro _ w27 ⟨la,lc,rfl,ol,e9⟩;refine⟨_,rfl,fun F=>?_⟩;replace G:=G.ex e9;have RL:=Lib.hid (Zr ol rfl);clear ol;replace G:=G.hr [];refine(F.m) fun F=>(F.k (Z71 (Z0m p T.length s) hbl _)) ?_;rintro _ w28 ⟨ka,kc,rfl,ok,e9⟩;refine⟨_,rfl,fun F=>?_⟩;replace G:=G.ex e9;have hk6:=Z65 _ hbl;refine(F.k0 G (Z2Z (Zk s) (Zk (Z0m p T.length s)) la ka lc kc _ (RL.out.ext (G.e 0) (by simp)) (Zr ok rfl) (by omega) (by omega))) fun F G=>(F.y F.ls) fun F=>(F.y F.pT) fun F=>(F.y F.pF) fun F=>k35 ?_
      try rw[Z4m p (by omega) (fun h=>absurd h (by omega))]at F
      refine F.ci (fun hc87=>?_) (fun hc87=>?_)
      ·refine Yg<|(F.m) fun F=>(F.m) fun F=>?_
       replace F:=F.re (k:=13) rfl (congrArg (fun z:Nat=>Value.int .u8 ((z:Nat):Int)) (Z7L p hok (by first | exact .inl (by omega) | exact .inr ⟨by omega,hc87⟩)));refine k25<|Yg ?_
       refine(F.y ((Z4J rfl (F.at rfl) (ev_c _ _)))) fun F=>?_;rw[add8 s (by omega)]at F;refine(F.m) fun F=>?_;show _∧_;exact⟨by omega,_,_,F.u,G.u,rfl,rfl⟩
      ·rw[Z4m p (by omega) (fun h=>by first | exact hc87 | exact absurd h (by omega))]at F
       refine Yi<|k25<|Yg ?_
       refine(F.y ((Z4J rfl (F.at rfl) (ev_c _ _)))) fun F=>?_;rw[add8 s (by omega)]at F;refine(F.m) fun F=>?_;show _∧_;exact⟨by omega,_,_,F.u,G.u,rfl,rfl⟩
     ·replace F:=F.re (k:=79) rfl (congrArg Value.bool (decide_eq_false hg2))
      refine(F.n) fun F=>(F.n) fun F=>(F.n) fun F=>(F.n) fun F=>(F.n) fun F=>(F.n) fun F=>(F.y F.pF) fun F=>(F.y F.pF) fun F=>k35 ?_
      try rw[Z4m p (by omega) (fun h=>absurd h (by omega))]at F
      refine(F.cF)<|Yi<|k25<|Yg ?_
      refine(F.y ((Z4J rfl (F.at rfl) (ev_c _ _)))) fun F=>?_;rw[add8 s (by omega)]at F;refine(F.m) fun F=>?_;show _∧_;exact⟨by omega,_,_,F.u,G.u,rfl,rfl⟩
  ·refine wp_exit ?_
   rw[show s=M2 by omega]at F;refine k21<|wR fun k36=>(F.m) fun F=>?_
   have hEs:=(G.e 5).size;refine(F.k (Z71 (Z0m p T.length M2) (Z6s p _ _ hM64) _)) ?_;rintro _ w30 ⟨ra,rc,rfl,oo,e9⟩;refine⟨_,rfl,fun F=>?_⟩;replace G:=G.ex e9;replace oo:=Z0s oo hEs;replace G:=G.co oo;refine(F.m) fun F=>(F.st G 4) fun G=>k36<|wp_ret ?_
   (try simp only[Exit.inBlock,Exit.then,reduceIte])
   refine Z4f F<|ZZ<|Z1l (Z5D F rfl rfl rfl Qy.underlying30 rfl (G.q 4)) ?_
   rw[←hT,show mosR x ls T=Zk (Z0m p T.length M2) by rw[mosR,←HP.out,hM2]];have oo:=G.o 0;exact⟨ra,rc,rfl,oo,(G.e 6)⟩
end
section
open Go.RowKit Go.Maps
variable{μ:Nat}
def mrG(t q:List Int):Nat→Int:=fun k=>val q k-val t k
def mrF(t q:List Int)(i:Nat):Nat→Int:=fun k=>if k<i then mrG t q k else 0
def mrC(t q:List Int):Int×Int:=(prt (mrG t q),0)
def corB(x:Vm)(t:List Int)(s:Nat→Int)(ls:List Int)(q:List Int):Bool:=((List.range 4).all fun k=>decide (0≤mrG t q k))&&matE x (val q) s ls
def corO(x:Vm)(t:List Int)(s:Nat→Int)(ls:List Int)(pre:List (List Int)):Option (List Int):=Z28 (mrC t) (pre.filter (corB x t s ls))
def corR(x:Vm)(t:List Int)(s:Nat→Int)(ls:List Int):List Int×Int:=match corO x t s ls (recL x.D.length) with
 | none=>([],11)
 | some q=>(cutL (mrG t q) x.D.length,0)
theorem Zhd{x:Vm}{t q ls:List Int}{s:Nat→Int}(hk:k<4)(h:mrG t q k<0): corB x t s ls q=false:=by
 rw[corB,show ((List.range 4).all fun k=>decide (0≤mrG t q k))=false from List.all_eq_false.2 ⟨k,by simpa using hk,by simp;omega⟩,Bool.false_and]
theorem Zje{x:Vm}{t q ls:List Int}{s:Nat→Int}(h:∀k,k<4→0≤mrG t q k): corB x t s ls q=matE x (val q) s ls:=by
 rw[corB,show ((List.range 4).all fun k=>decide (0≤mrG t q k))=true from Yl.2 fun k hk=>decide_eq_true (h k (by simpa using hk)),Bool.true_and]
theorem Z1C{x:Vm}{t q ls:List Int}{s:Nat→Int}{pre:List (List Int)}(h:corB x t s ls q=false): corO x t s ls (pre++[q])=corO x t s ls pre:=by
 rw[corO,corO,Z31,h];rfl
theorem Zce{x:Vm}{t q ls:List Int}{s:Nat→Int}{pre:List (List Int)}(h:corB x t s ls q=true): corO x t s ls (pre++[q])=offO (mrC t) (corO x t s ls pre) q:=by
 rw[corO,corO,Z31,h,if_pos rfl,Z59]
theorem Zf4(t q:List Int):mrF t q 0=zf:=by funext k;simp[mrF,zf]
theorem ZjW(t q:List Int)(i:Nat):upF (mrF t q i) i (mrG t q i)=mrF t q (i+1):=by
 funext k
 rw[upF,mrF,mrF]
 by_cases h:k=i
 ·subst h;simp
 ·by_cases h2:k<i
  ·simp[h,h2,show k<i+1 by omega]
  ·simp[h,h2,show ¬k<i+1 by omega]
theorem Zd9(t q:List Int):tubC (mrF t q 4)=tubC (mrG t q):=Z3L fun k hk=>if_pos hk
theorem Z1J{α:Type}{g:α→Nat→Int}{c:α→Int×Int}{o:Option α}{ob:Nat}(h:W.heap[ob]?=some (.cells (Z75 g c o) T fz)): Z15 ob W=none:=by
 rw[Z15,h]
 cases o<;>rfl
structure CorI(x:Vm)(t:List Int)(sv lv:Value)(w:World)(B n6 n7 n9 n10 n11 n12:Nat)(o:Option (List Int))(W:World):Prop where
 q6:W.heap[n6]?=some (.cells #[sv] 22 (0,0))
 q7:W.heap[n7]?=some (.cells #[lv] 22 (0,0))
 q9:W.heap[n9]?=some (.cells #[.int .i64 0] 30 (0,0))
 q10:W.heap[n10]?=some (.cells #[.int .i64 x.B,.slice x.da x.D.length x.dc,.slice x.la x.L.length x.lc,.int .i64 x.tol] 85 (0,0))
 q11:W.heap[n11]?=some (.cells (tubC (val t)) 88 (0,0))
 q12:W.heap[n12]?=some (.cells (Z75 (mrG t) (mrC t) o) 129 (0,0))
 E:Ext [] w W
 sz:B≤W.heap.size
theorem CorI.kept{x:Vm}{t:List Int}{sv lv:Value}{B n6 n7 n9 n10 n11 n12:Nat}{o:Option (List Int)}{V: World}{row:Option Nat}(h:CorI x t sv lv w B n6 n7 n9 n10 n11 n12 o W)(hg:W.grownBy V row)(h1:∀r,row=some r→B≤r)(hB:n6<B∧n7<B∧n9<B∧n10<B∧n11<B∧n12<B∧w.heap.size≤B): CorI x t sv lv w B n6 n7 n9 n10 n11 n12 o V:=by
 obtain⟨b6,b7,b9,b10,b11,b12,bw⟩:=hB;have hk:∀{k:Nat} {cs:Array Value} {T:TypeId} {fz:Nat×Nat},W.heap[k]?=some (.cells cs T fz)→k<B→V.heap[k]?=some (.cells cs T fz):=
  fun {k cs T fz} hq hb=>(hg.block k (Z3 hq) (fun e=>by have:=h1 k e.symm;omega)).trans hq
 exact⟨hk h.q6 b6,hk h.q7 b7,hk h.q9 b9,hk h.q10 b10,hk h.q11 b11,hk h.q12 b12,Z1F h.E hg fun b e hl=>(by have:=h1 b e;omega),Yd h.sz hg.size⟩
theorem Z9s(x:Vm)(hv:VOk x)(t:List Int)(ht:RcpOk x t)(s:List Int)(hs:Z1z x s)(ls:List Int)(hl:Z5F x ls)(hll:ls.length≤1000)(ta sa la:Option Addr)(tc sc lc:Nat)(w:World)(h:x.At w)(hp:Z7 w (.slice ta t.length tc) 1 (t.map Z6))(hr:Z7 w (.slice sa s.length sc) 1 (s.map Z6))(hq:Z7 w (.slice la ls.length lc) 1 (ls.map Z6)):
  Calls (Qy.prog μ) 56 #[.agg #[.int .i64 x.B,.slice x.da x.D.length x.dc,.slice x.la x.L.length x.lc,.int .i64 x.tol],.slice ta t.length tc,.slice sa s.length sc,.slice la ls.length lc] w (Z4k (corR x t (val s) ls) w):=by
 have E:Ext [] w w:=Ext.refl _ _;have HX:=Lib.hid h;have HV:=Lib.hid hv;have HS:=Lib.hid hs;have HR:=Lib.hid hr;have HQ:=Lib.hid hq;have HP:=Lib.hid hp;have HL:=Lib.hid hl;have HT:=Lib.hid ht;have HTS:=Lib.hid ht.tub;have hd4:=hv.d4;obtain⟨hnd,hrl⟩:=Z7c x.D.length (by omega);have HRL:=Lib.hid hrl;clear h hv hs hr hq hl hnd hrl ht hp;refine Z2D 64 Qy.func56 rfl Tryz.ntmps56 (Nat.le_of_ble_eq_true rfl) ?_;intro fa F;refine wS fun K1 hK1=>?_;refine Yg ?_;refine sqN F (Z1Q rfl (F.at rfl)) fun fa w1 F hw=>?_;obtain⟨n4,hn⟩:=eQ w.heap.size;rw[←hn]at F;have s4:=sQ hn;have l4_E:=lQ hn E.size;replace E:=Z5 E hw;have q4:=ZD hw hn;clear hw hn;refine sqN F (Z1Q rfl (F.at rfl)) fun fa w2 F hw=>?_;obtain⟨n6,hn⟩:=eQ w1.heap.size;rw[←hn]at F;have s6:=sQ hn;have l6_E:=lQ hn E.size;have m6_4:=tQ hn (Z3 q4);replace q4:=Z0 hw q4;replace E:=Z5 E hw;have q6:=Z0h hw rfl hn;clear hw hn;refine sqN F (Z1Q rfl (F.at rfl)) fun fa w3 F hw=>?_;obtain⟨n7,hn⟩:=eQ w2.heap.size;rw[←hn]at F;have s7:=sQ hn;have l7_E:=lQ hn E.size;have m7_4:=tQ hn (Z3 q4);have m7_6:=tQ hn (Z3 q6);replace q4:=Z0 hw q4;replace q6:=Z0 hw q6;replace E:=Z5 E hw;have q7:=Z0h hw rfl hn;clear hw hn;refine F.vl (Zx rfl (ev_c fa _)) fun fa F=>?_;refine sqN F (ZE rfl Qy.zeroValue30) fun fa w4 F hw=>?_;obtain⟨n9,hn⟩:=eQ w3.heap.size;rw[←hn]at F;have s9:=sQ hn;have l9_E:=lQ hn E.size;have m9_4:=tQ hn (Z3 q4);have m9_6:=tQ hn (Z3 q6);have m9_7:=tQ hn (Z3 q7);replace q4:=Z0 hw q4;replace q6:=Z0 hw q6;replace q7:=Z0 hw q7;replace E:=Z5 E hw;have q9:=Z0h hw rfl hn;clear hw hn;refine wN<|hK1 _ _ ?_
 refine wp_scope_straight ?_;refine wS fun K2 hK2=>?_;refine Yg ?_;refine Z4A F rfl rfl (Z6l rfl rfl (mpS (F.at rfl) mp0)) fun fa F=>?_;refine wN<|hK2 _ _<|wS fun K3 hK3=>?_
 refine Yg ?_;refine F.vl (Zc rfl (F.at rfl) Qy.underlying27 rfl (by kernel_rfl) q4) fun fa F=>?_;refine sqC F (Zy rfl rfl Qy.call64 (mpS (F.at rfl) mp0)) (Z0u x HV.out _ (HX.out.ext E)) fun e w5 hR=>?_;obtain⟨rfl,e9⟩:=hR;refine⟨_,rfl,fun fa F=>?_⟩;replace q4:=(e9).keep0 q4;replace q6:=(e9).keep0 q6;replace q7:=(e9).keep0 q7;replace q9:=(e9).keep0 q9;replace E:=Zb E (e9);clear e9;refine sqN F (ZE rfl Qy.zeroValue85) fun fa w6 F hw=>?_;obtain⟨n10,hn⟩:=eQ w5.heap.size;rw[←hn]at F;have s10:=sQ hn;have l10_E:=lQ hn E.size;have m10_4:=tQ hn (Z3 q4);have m10_6:=tQ hn (Z3 q6);have m10_7:=tQ hn (Z3 q7);have m10_9:=tQ hn (Z3 q9);replace q4:=Z0 hw q4;replace q6:=Z0 hw q6;replace q7:=Z0 hw q7;replace q9:=Z0 hw q9;replace E:=Z5 E hw;have q10:=ZD hw hn;clear hw hn;refine Z0N rfl rfl (Z01 rfl (F.at rfl) (F.at rfl) (by kernel_rfl) (by first | (simp[Value.oneCell'];done) | (simp[Value.oneCell',id];done)) q10 rfl) ?_;intro w7 hw;replace q4:=kcs hw q4;replace q6:=kcs hw q6;replace q7:=kcs hw q7;replace q9:=kcs hw q9;replace q10:=Z14 hw q10 rfl;replace E:=ecs E hw;clear hw;refine wN<|hK3 _ _<|wS fun K4 hK4=>?_
 refine Yg ?_;refine F.vl (Zc rfl (F.at rfl) Qy.underlying85 rfl (by kernel_rfl) q10) fun fa F=>?_;refine F.mv fun fa F=>?_;refine sqC F (Zy rfl rfl Qy.call65 (mpS (F.at rfl) (mpS (F.at rfl) mp0))) (Z2o x HV.out t HT.out ta tc _ (HP.out.ext E (by simp))) fun e w8 hR=>?_;obtain⟨rfl,e9⟩:=hR;refine⟨_,rfl,fun fa F=>?_⟩;replace q4:=(e9).keep0 q4;replace q6:=(e9).keep0 q6;replace q7:=(e9).keep0 q7;replace q9:=(e9).keep0 q9;replace q10:=(e9).keep0 q10;replace E:=Zb E (e9);clear e9;refine sqN F (ZE rfl Qy.zeroValue88) fun fa w9 F hw=>?_;obtain⟨n11,hn⟩:=eQ w8.heap.size;rw[←hn]at F;have s11:=sQ hn;have l11_E:=lQ hn E.size;have m11_4:=tQ hn (Z3 q4);have m11_6:=tQ hn (Z3 q6);have m11_7:=tQ hn (Z3 q7);have m11_9:=tQ hn (Z3 q9);have m11_10:=tQ hn (Z3 q10);replace q4:=Z0 hw q4;replace q6:=Z0 hw q6;replace q7:=Z0 hw q7;replace q9:=Z0 hw q9;replace q10:=Z0 hw q10;replace E:=Z5 E hw;have q11:=ZD hw hn;clear hw hn;refine Z0N rfl rfl (Z01 rfl (F.at rfl) (F.at rfl) (by kernel_rfl) (by simp[tubC,Value.oneCell']) q11 rfl) ?_;intro w10 hw;replace q4:=kcs hw q4;replace q6:=kcs hw q6;replace q7:=kcs hw q7;replace q9:=kcs hw q9;replace q10:=kcs hw q10;replace q11:=Z14 hw q11 rfl;replace E:=ecs E hw;clear hw;refine wN<|hK4 _ _<|wS fun K5 hK5=>?_
 refine Yg ?_;refine F.vl (Zc rfl (F.at rfl) Qy.underlying85 rfl (by kernel_rfl) q10) fun fa F=>?_;refine F.vl (Zv rfl (F.at rfl) Qy.underlying22 rfl ((Z1 q6 0).trans (get0))) fun fa F=>?_;refine sqC F (Zy rfl rfl Qy.call78 (mpS (F.at rfl) (mpS (F.at rfl) mp0))) (Z2q x HV.out s HS.out sa sc _ (HR.out.ext E (by simp))) fun e w11 hR=>?_;obtain⟨rfl,e9⟩:=hR;refine⟨_,rfl,fun fa F=>?_⟩;replace q4:=(e9).keep0 q4;replace q6:=(e9).keep0 q6;replace q7:=(e9).keep0 q7;replace q9:=(e9).keep0 q9;replace q10:=(e9).keep0 q10;replace q11:=(e9).keep0 q11;replace E:=Zb E (e9);clear e9;refine wN<|hK5 _ _<|wS fun K6 hK6=>?_
 refine Yg ?_;refine F.vl (Zc rfl (F.at rfl) Qy.underlying85 rfl (by kernel_rfl) q10) fun fa F=>?_;refine F.vl (Zv rfl (F.at rfl) Qy.underlying22 rfl ((Z1 q7 0).trans (get0))) fun fa F=>?_;refine sqC F (Zy rfl rfl Qy.call71 (mpS (F.at rfl) (mpS (F.at rfl) mp0))) (Z6X x HV.out ls HL.out hll la lc _ (HX.out.ext E) (HQ.out.ext E (by simp))) fun e w12 hR=>?_;obtain⟨rfl,e9⟩:=hR;refine⟨_,rfl,fun fa F=>?_⟩;replace q4:=(e9).keep0 q4;replace q6:=(e9).keep0 q6;replace q7:=(e9).keep0 q7;replace q9:=(e9).keep0 q9;replace q10:=(e9).keep0 q10;replace q11:=(e9).keep0 q11;replace E:=Zb E (e9);clear e9;refine wN<|hK6 _ _<|wS fun K7 hK7=>?_
 refine Yg ?_;refine sqN F (ZE rfl Qy.zeroValue129) fun fa w13 F hw=>?_;obtain⟨n12,hn⟩:=eQ w12.heap.size;rw[←hn]at F;have s12:=sQ hn;have l12_E:=lQ hn E.size;have m12_4:=tQ hn (Z3 q4);have m12_6:=tQ hn (Z3 q6);have m12_7:=tQ hn (Z3 q7);have m12_9:=tQ hn (Z3 q9);have m12_10:=tQ hn (Z3 q10);have m12_11:=tQ hn (Z3 q11);replace q4:=Z0 hw q4;replace q6:=Z0 hw q6;replace q7:=Z0 hw q7;replace q9:=Z0 hw q9;replace q10:=Z0 hw q10;replace q11:=Z0 hw q11;replace E:=Z5 E hw;have q12:=ZD hw hn;clear hw hn;refine wpList_nil ?_;replace q12:w13.heap[n12]?=some (.cells (Z75 (mrG t) (mrC t) (corO x t (val s) ls [])) 129 (0,0)):=q12;refine hK7 _ _<|wS fun K8 hK8=>?_
 refine wp_label ?_;refine hK8 _ _<|wS fun K9 hK9=>wS fun K10 hK10=>?_
 refine Yg ?_;refine F.vl (Zc rfl (F.at rfl) Qy.underlying85 rfl (by kernel_rfl) q10) fun fa F=>?_;have b12':=Z3 q12;refine sqC F (Zy rfl rfl Qy.call110 (mpS (F.at rfl) mp0)) (Z5b x _) fun e w14 hR=>?_;obtain⟨nb,rfl,hnb,qb,e9⟩:=hR;refine⟨_,rfl,fun fa F=>?_⟩;replace q4:=(e9).keep0 q4;replace q6:=(e9).keep0 q6;replace q7:=(e9).keep0 q7;replace q9:=(e9).keep0 q9;replace q10:=(e9).keep0 q10;replace q11:=(e9).keep0 q11;replace q12:=(e9).keep0 q12;replace E:=Zb E (e9);clear e9;refine wN<|hK10 _ _ ?_
 refine Yh ?_;clear q4;obtain⟨w3,hw3⟩:∃w3,w3=w14:=⟨_,rfl⟩;have b6:=Z3 q6;have b7:=Z3 q7;have b9:=Z3 q9;have b10:=Z3 q10;have b11:=Z3 q11;have b12:=Z3 q12;have bb:=Z3 qb;have bw:=E.size;have hr0:Z15 n12 w14=none:=Z1J q12;have hseq:=Z49 (μ:=μ) x hd4 [] n12 nb w14 b12 (by simp) (fun r e=>by rw[hr0]at e;cases e) ⟨by simp,by omega,by rw[hr0];simp⟩ qb;have hI0:CorI x t (.slice sa s.length sc) (.slice la ls.length lc) w w14.heap.size n6 n7 n9 n10 n11 n12 (corO x t (val s) ls []) w14:=⟨q6,q7,q9,q10,q11,q12,E,Ye _⟩;replace F:=F.sub (.c 6 rfl (.c 7 rfl (.c 9 rfl (.c 10 rfl (.c 11 rfl (.c 12 rfl (.c 28 rfl .n)))))));refine Zdr (F.at rfl) Qy.call126 hseq (fun _=>rfl) b12 (fun pre W=>CorI x t (.slice sa s.length sc) (.slice la ls.length lc) w w14.heap.size n6 n7 n9 n10 n11 n12 (corO x t (val s) ls pre) W) ?h1 ?ho ?hc hI0 (fun pre q a' W=>∃nt,Has 64 [] a' [(6,.pointer (some ⟨n6,0,none⟩)),(7,.pointer (some ⟨n7,0,none⟩)),(9,.pointer (some ⟨n9,0,none⟩)),(10,.pointer (some ⟨n10,0,none⟩)),(11,.pointer (some ⟨n11,0,none⟩)),(12,.pointer (some ⟨n12,0,none⟩)),(13,.pointer (some ⟨nt,0,none⟩))]∧CorI x t (.slice sa s.length sc) (.slice la ls.length lc) w w14.heap.size n6 n7 n9 n10 n11 n12 (corO x t (val s) ls pre) W∧W.heap[nt]?=some (.cells (tubC (val q)) 88 (0,0))∧w14.heap.size≤nt) ?hax ?assign ?body ?done
 case h1=>rintro pre U V hI hg;exact hI.kept hg (fun r e=>by cases e) ⟨b6,b7,b9,b10,b11,b12,bw⟩
 case ho=>rintro pre U V r hI hr ⟨o,ho,hc⟩ hg;exact hI.kept hg (fun r' e=>by cases e;exact hr) ⟨b6,b7,b9,b10,b11,b12,bw⟩
 case hc=>rintro pre U V r hI hr hsf-hg;exact hI.kept hg (fun r' e=>by cases e;exact hr) ⟨b6,b7,b9,b10,b11,b12,bw⟩
 case hax=>rintro pre q a' U V r ⟨nt,hF,hI,hnt,hn⟩ hr ⟨o,ho,hc⟩ hg;refine⟨nt,hF,hI.kept hg (fun r' e=>by cases e;exact hr) ⟨b6,b7,b9,b10,b11,b12,bw⟩,(hg.block nt (Z3 hnt) (fun e=>?_)).trans hnt,hn⟩;cases e;rw[ho]at hnt;cases hnt;cases hc
 case assign =>
  clear q6 q7 q9 q10 q11 q12 qb E hI0;rintro l pre q W K ⟨q6,q7,q9,q10,q11,q12,E,hsz⟩ hK;have hbo:=Z3 q12;refine ZaC (F.param (p:=29) (by decide) (.agg (tubC (val q)))) ?_;clear F fa;intro fa F;have ER:Ext [] W W:=Ext.refl _ _;refine Zg rfl (fun h=>by obtain⟨_,_,h⟩:=h;exact h) ?_;refine sqN F (ZE rfl Qy.zeroValue88) fun fa w15 F hw=>?_;obtain⟨n13,hn⟩:=eQ W.heap.size;rw[←hn]at F;have s13:=sQ hn;have l13_E:=lQ hn E.size;have l13_ER:=lQ hn ER.size;have m13_6:=tQ hn (Z3 q6);have m13_7:=tQ hn (Z3 q7);have m13_9:=tQ hn (Z3 q9);have m13_10:=tQ hn (Z3 q10);have m13_11:=tQ hn (Z3 q11);have m13_12:=tQ hn (Z3 q12);replace q6:=Z0 hw q6;replace q7:=Z0 hw q7;replace q9:=Z0 hw q9;replace q10:=Z0 hw q10;replace q11:=Z0 hw q11;replace q12:=Z0 hw q12;replace E:=Z5 E hw;replace ER:=Z5 ER hw;have q13:=ZD hw hn;clear hw hn;refine Z0N rfl rfl (Z01 rfl (F.at rfl) (F.at rfl) (by kernel_rfl) (by simp[tubC,Value.oneCell']) q13 rfl) ?_;intro w16 hw;replace q6:=kcs hw q6;replace q7:=kcs hw q7;replace q9:=kcs hw q9;replace q10:=kcs hw q10;replace q11:=kcs hw q11;replace q12:=kcs hw q12;replace q13:=Z14 hw q13 rfl;replace E:=ecs E hw;replace ER:=ecs ER hw;clear hw;refine wpList_nil ?_;exact hK _ _ (Z0n ER (by simp)) (Z5T ER hbo) ⟨n13,F.sub (.c 6 rfl (.c 7 rfl (.c 9 rfl (.c 10 rfl (.c 11 rfl (.c 12 rfl (.c 13 rfl .n))))))),⟨q6,q7,q9,q10,q11,q12,E,Yd hsz ER.size⟩,q13,by omega⟩
 case body =>
  clear q6 q7 q9 q10 q11 q12 qb E hI0 F fa;rintro l pre q fa W0 ⟨nt,F,⟨q6,q7,q9,q10,q11,q12,E,hsz⟩,q13,hnt⟩ hpx;have hqm:q∈recL x.D.length:=hpx.subset (by simp);obtain⟨hql,hqs,hqg,hq1,hq6,hqb⟩:=HRL.out q hqm;have hro:Z15 n12 W0=none:=Z1J q12;have ER:Ext [n12] W0 W0:=Ext.refl _ _;have hsz0:=hsz;refine wpIn_block ?_;refine wpIn_seq_k fun K11 hK11=>?_;refine Zg rfl (fun h=>by obtain⟨_,_,h⟩:=h;exact h) ?_;refine sqN F (ZE rfl Qy.zeroValue88) fun fa w17 F hw=>?_;obtain⟨n14,hn⟩:=eQ W0.heap.size;rw[←hn]at F;have s14:=sQ hn;have l14_E:=lQ hn E.size;have l14_ER:=lQ hn ER.size;have m14_6:=tQ hn (Z3 q6);have m14_7:=tQ hn (Z3 q7);have m14_9:=tQ hn (Z3 q9);have m14_10:=tQ hn (Z3 q10);have m14_11:=tQ hn (Z3 q11);have m14_12:=tQ hn (Z3 q12);have m14_13:nt<n14:=by rw[hn];exact Z3 q13
  replace q6:=Z0 hw q6;replace q7:=Z0 hw q7;replace q9:=Z0 hw q9;replace q10:=Z0 hw q10;replace q11:=Z0 hw q11;replace q12:=Z0 hw q12;replace q13:=Z0 hw q13;replace E:=Z5 E hw;replace ER:=Z5 ER hw;have q14:=ZD hw hn;clear hw hn;refine wpList_nil ?_;replace q14:w17.heap[n14]?=some (.cells (tubC (mrF t q 0)) 88 (0,0)):=by rw[Zf4];exact q14
  refine hK11 _ _ ?_;refine wpIn_seq_k fun K12 hK12=>?_;refine wpIn_seq_k fun K13 hK13=>?_;refine Zg rfl (fun h=>by obtain⟨_,_,h⟩:=h;exact h) ?_;refine F.vl (Z1f rfl (ev_c fa _)) fun fa F=>?_;refine wN<|hK13 _ _ ?_
  refine wpIn_block ?_;have F0:=F.sub (.c 6 rfl (.c 7 rfl (.c 10 rfl (.c 11 rfl (.c 12 rfl (.c 13 rfl (.c 14 rfl .n)))))));refine ZhH F0 (4) (fun i Lv W=>Lv=[(30,.int .i64 ((i:Nat):Int))]∧Ext [] w W∧Ext [n12] W0 W∧W.heap[n6]?=some (.cells #[.slice sa s.length sc] 22 (0,0))∧W.heap[n7]?=some (.cells #[.slice la ls.length lc] 22 (0,0))∧W.heap[n9]?=some (.cells #[.int .i64 0] 30 (0,0))∧W.heap[n10]?=some (.cells #[.int .i64 x.B,.slice x.da x.D.length x.dc,.slice x.la x.L.length x.lc,.int .i64 x.tol] 85 (0,0))∧W.heap[n11]?=some (.cells (tubC (val t)) 88 (0,0))∧W.heap[n12]?=some (.cells (Z75 (mrG t) (mrC t) (corO x t (val s) ls pre)) 129 (0,0))∧W.heap[nt]?=some (.cells (tubC (val q)) 88 (0,0))∧W.heap[n14]?=some (.cells (tubC (mrF t q i)) 88 (0,0))∧∀j,j<i→0≤mrG t q j) ⟨_,⟨rfl,E,ER,q6,q7,q9,q10,q11,q12,q13,q14,(fun j h=>by omega)⟩,F.sub (.c 30 rfl (.c 6 rfl (.c 7 rfl (.c 10 rfl (.c 11 rfl (.c 12 rfl (.c 13 rfl (.c 14 rfl .n))))))))⟩ ?_;clear F F0;clear E ER q6 q7 q9 q10 q11 q12 q13 q14;rintro i _ fa w18 hi1 ⟨rfl,E,ER,q6,q7,q9,q10,q11,q12,q13,q14,hge⟩ F;refine wpIn_seq_k fun K14 hK14=>?_;refine Zg rfl (fun h=>by obtain⟨_,_,h⟩:=h;exact h) ?_;refine F.vl (Z5z rfl (F.at rfl) (ev_c fa _)) fun fa F=>?_;refine wN<|hK14 _ _ ?_
  refine wpIn_seq_k fun K15 hK15=>?_;refine Zga F rfl (fun hc31=>?_) (fun hc31=>?_)
  ·skip
   refine wpIn_skip ?_;refine hK15 _ _ ?_;refine wpIn_seq_k fun K16 hK16=>?_;refine wpIn_block ?_;refine wpIn_seq_k fun K17 hK17=>?_;refine Zg rfl (fun h=>by obtain⟨_,_,h⟩:=h;exact h) ?_;refine F.mv fun fa F=>?_;refine F.as fun fa F=>?_;refine wN<|hK17 _ _ ?_
   refine wpIn_seq_k fun K18 hK18=>?_;have hqi:=hqs i (by omega);have hti:=HTS.out i (by omega);have hmg:val q i-val t i=mrG t q i:=rfl;refine Z8b (Ext [] w18) (some 9) follows rfl (fun h=>by obtain⟨_,_,h⟩:=h;exact h) fun w19 hh eh=>?_;have q6_:=q6;replace q6:=Zw hh q6;have q7_:=q7;replace q7:=Zw hh q7;have q9_:=q9;replace q9:=Zw hh q9;have q10_:=q10;replace q10:=Zw hh q10;have q11_:=q11;replace q11:=Zw hh q11;have q12_:=q12;replace q12:=Zw hh q12;have q13_:=q13;replace q13:=Zw hh q13;have q14_:=q14;replace q14:=Zw hh q14;have E_:=E;have zEw19:=E.size;replace E:=Zb E eh;have ER_:=ER;have zERw19:=ER.size;replace ER:=Zb ER eh;have eT:=eh;clear hh eh;refine F.x (i:=0) rfl (fun w'=>Z1f rfl (F.at rfl)) (fun _=>eT) fun fa F=>?_;refine F.x (i:=1) rfl (fun w'=>Z1f rfl (F.at rfl)) (fun _=>eT) fun fa F=>?_;refine F.x (i:=2) rfl (fun w'=>Z1R (n:=4) (sz:=1) rfl (F.at rfl) (F.at rfl) Qy.underlying88 (by kernel_rfl) (by omega) (by omega)) (fun _=>eT) fun fa F=>?_;refine F.xr (i:=3) rfl (fun w' hS=>Zv rfl (F.at rfl) Qy.underlying3 rfl (Z2y (hS.keep q13_ (by simp)) (k:=i) rfl (by omega))) (fun _=>eT) fun fa F=>?_;refine F.x (i:=4) rfl (fun w'=>Z1f rfl (F.at rfl)) (fun _=>eT) fun fa F=>?_;refine F.x (i:=5) rfl (fun w'=>Z1R (n:=4) (sz:=1) rfl (F.at rfl) (F.at rfl) Qy.underlying88 (by kernel_rfl) (by omega) (by omega)) (fun _=>eT) fun fa F=>?_;refine F.xr (i:=6) rfl (fun w' hS=>Zv rfl (F.at rfl) Qy.underlying3 rfl (Z2y (hS.keep q11_ (by simp)) (k:=i) rfl (by omega))) (fun _=>eT) fun fa F=>?_;refine F.x (i:=7) rfl (fun w'=>ZgQ rfl (F.at rfl) (F.at rfl) (by omega) (by omega)) (fun _=>eT) fun fa F=>?_;refine F.x (i:=8) rfl (fun w'=>Z1R (n:=4) (sz:=1) rfl (F.at rfl) (F.at rfl) Qy.underlying88 (by kernel_rfl) (by omega) (by omega)) (fun _=>eT) fun fa F=>?_;refine Z2b (i:=9) (by kernel_rfl) (Zb7 rfl rfl rfl (ZN rfl (F.at rfl) (F.at rfl) rfl (by kernel_rfl) (Z2y q14 (k:=i) rfl (by omega)) (Z9 q14 _)) ?_);intro w20 hw;replace q6:=kce hw q6;replace q7:=kce hw q7;replace q9:=kce hw q9;replace q10:=kce hw q10;replace q11:=kce hw q11;replace q12:=kce hw q12;replace q13:=kce hw q13;replace q14:=Z9d hw q14 (k:=i) rfl (by omega);replace E:=ece E hw;replace ER:=ece ER hw;clear hw;refine⟨gone (by kernel_rfl),?_⟩;rw[hmg,ZjW]at q14;refine Z6r (by kernel_rfl) ?_ _;clear eT q6_ q7_ q9_ q10_ q11_ q12_ q13_ q14_ E_ ER_;refine hK18 _ _ ?_;refine wpIn_seq_k fun K19 hK19=>?_;refine Zg rfl (fun h=>by obtain⟨_,_,h⟩:=h;exact h) ?_;refine F.mv fun fa F=>?_;refine F.vl (Z1R (n:=4) (sz:=1) rfl (F.at rfl) (F.at rfl) Qy.underlying88 (by kernel_rfl) (by omega) (by omega)) fun fa F=>?_;refine F.vl (Zv rfl (F.at rfl) Qy.underlying3 rfl (Z2y q14 (k:=i) rfl (by omega))) fun fa F=>?_;rw[show mrF t q (i+1) i=mrG t q i by simp[mrF]]at F;refine F.vl (Z5z rfl (F.at rfl) (ev_c fa _)) fun fa F=>?_;refine wN<|hK19 _ _ ?_
   refine Zga F rfl (fun hc45=>?_) (fun hc45=>?_)
   ·skip
    have hcb:corB x t (val s) ls q=false:=Zhd (k:=i) (by omega) hc45;refine wpIn_exit ?_
    try (rw[show i=4 by omega,Zd9]at q14;have hge4:∀j,j<4→0≤mrG t q j:=fun j hj=>hge j (by omega))
    (try simp only[Exit.inBlock,reduceIte])
    show KeepsFrom _ _ _∧KeepR _ _ _ _∧_;rw[←hw3];refine⟨Z0n ER (by intro b hb;simp only[Yc,Ya,or_false]at hb;subst hb;exact .inl (by rw[hw3];exact b12)),Z0A ER (by intro k cs T fz hk hsf hm;simp only[Yc,Ya,or_false]at hm;exact hsf.2.1 hm) (.inl ((Z1J q12).trans hro.symm)),?_⟩;have hsw:w3.heap.size≤w20.heap.size:=(by rw[hw3];exact Yd hsz0 ER.size);show CorI _ _ _ _ _ _ _ _ _ _ _ _ (corO x t (val s) ls (pre++[q])) _
    first | exact⟨q6,q7,q9,q10,q11,q12,E,hsw⟩ | (rw[Z1C hcb];exact⟨q6,q7,q9,q10,q11,q12,E,hsw⟩) | (rw[Z1C (hco.trans hc51)];exact⟨q6,q7,q9,q10,q11,q12,E,hsw⟩)
   ·skip
    refine wpIn_skip ?_;refine hK16 _ _ ?_;refine Zg rfl (fun h=>by obtain⟨_,_,h⟩:=h;exact h) ?_;refine F.vl (Z5y rfl (F.at rfl) (ev_c fa _) (by omega) (by omega)) fun fa F=>?_;refine F.mv fun fa F=>?_;refine wpList_nil ?_;show _∧_;exact⟨by omega,_,⟨rfl,E,ER,q6,q7,q9,q10,q11,q12,q13,q14,(fun j h=>by rcases Nat.lt_succ_iff_lt_or_eq.1 h with h | rfl;(· exact hge j h);(· omega))⟩,F.sub (.c 30 rfl (.c 6 rfl (.c 7 rfl (.c 10 rfl (.c 11 rfl (.c 12 rfl (.c 13 rfl (.c 14 rfl .n))))))))⟩
  ·skip
   refine wpIn_exit ?_
   try (rw[show i=4 by omega,Zd9]at q14;have hge4:∀j,j<4→0≤mrG t q j:=fun j hj=>hge j (by omega))
   refine hK12 _ _ ?_;refine wpIn_seq_k fun K20 hK20=>?_;refine Zg rfl (fun h=>by obtain⟨_,_,h⟩:=h;exact h) ?_;refine F.vl (Zc rfl (F.at rfl) Qy.underlying85 rfl (by kernel_rfl) q10) fun fa F=>?_;refine F.vl (Zc rfl (F.at rfl) Qy.underlying88 rfl (by kernel_rfl) q13) fun fa F=>?_;refine F.vl (Zv rfl (F.at rfl) Qy.underlying22 rfl ((Z1 q6 0).trans (get0))) fun fa F=>?_;refine F.vl (Zv rfl (F.at rfl) Qy.underlying22 rfl ((Z1 q7 0).trans (get0))) fun fa F=>?_;refine sqC F (Zy rfl rfl Qy.call80 (mpS (F.at rfl) (mpS (F.at rfl) (mpS (F.at rfl) (mpS (F.at rfl) mp0))))) (Z74 x HV.out (val q) hqs s HS.out ls HL.out.2.1 hll sa la sc lc _ (HX.out.ext E) (HR.out.ext E (by simp)) (HQ.out.ext E (by simp))) fun e w21 hR=>?_;obtain⟨rfl,e9⟩:=hR;refine⟨_,rfl,fun fa F=>?_⟩;replace q6:=(e9).keep0 q6;replace q7:=(e9).keep0 q7;replace q9:=(e9).keep0 q9;replace q10:=(e9).keep0 q10;replace q11:=(e9).keep0 q11;replace q12:=(e9).keep0 q12;replace q13:=(e9).keep0 q13;replace q14:=(e9).keep0 q14;replace E:=Zb E (e9);replace ER:=Zb ER (e9);clear e9;refine wpList_nil ?_;have hco:=Zje (x:=x) (s:=val s) (ls:=ls) hge4;refine hK20 _ _ ?_;refine Zjb F rfl (fun hc51=>?_) (fun hc51=>?_)
   ·skip
    refine Z8b (Ext [n12] w21) none follows rfl (fun h=>by obtain⟨_,_,h⟩:=h;exact h) fun w22 hh eh=>?_;have q6_:=q6;replace q6:=Zw hh q6;have q7_:=q7;replace q7:=Zw hh q7;have q9_:=q9;replace q9:=Zw hh q9;have q10_:=q10;replace q10:=Zw hh q10;have q11_:=q11;replace q11:=Zw hh q11;have q12_:=q12;replace q12:=Zw hh q12;have q13_:=q13;replace q13:=Zw hh q13;have q14_:=q14;replace q14:=Zw hh q14;have E_:=E;have zEw22:=E.size;replace E:=Zb E eh;have ER_:=ER;have zERw22:=ER.size;replace ER:=Zb ER eh;have eT:=eh.mono (Y:=[n12]) (by simp);clear hh eh;refine F.xr (i:=0) rfl (fun w' hS=>Zc rfl (F.at rfl) Qy.underlying88 rfl (by kernel_rfl) (hS.keep q14_ (by simp;omega))) (fun _=>eT) fun fa F=>?_;refine F.xr (i:=1) rfl (fun w' hS=>Zc rfl (F.at rfl) Qy.underlying88 rfl (by kernel_rfl) (hS.keep q14_ (by simp;omega))) (fun _=>eT) fun fa F=>?_;have hmb:∀k,k<4→0≤mrG t q k∧mrG t q k≤1000:=fun k hk=>⟨hge4 k hk,by have:=hqs k hk;have:=HTS.out k hk;rw[mrG];omega⟩;refine Z2b (i:=2) (by kernel_rfl) (Z79 F rfl rfl (by decide) rfl (Zy rfl rfl Qy.call83 (mpS (F.at rfl) mp0)) (Z08 (mrG t q) hmb _) fun e w23 hR=>?_);obtain⟨rfl,e9⟩:=hR;refine⟨_,rfl,fun fa F=>?_⟩;replace q6:=(e9).keep0 q6;replace q7:=(e9).keep0 q7;replace q9:=(e9).keep0 q9;replace q10:=(e9).keep0 q10;replace q11:=(e9).keep0 q11;replace q12:=(e9).keep0 q12;replace q13:=(e9).keep0 q13;replace q14:=(e9).keep0 q14;replace E:=Zb E (e9);replace ER:=Zb ER (e9);replace eT:=Zb eT (e9);clear e9;refine⟨fun _=>eT,?_⟩;refine F.x (i:=3) rfl (fun w'=>Z9w rfl (prS (F.at rfl) pr0) (cells:=#[.int .i64 (prt (mrG t q)),.int .i64 0]) (by kernel_rfl)) (fun _=>eT) fun fa F=>?_;refine Z2b (i:=4) (by kernel_rfl) (Z79 F rfl rfl (by decide) rfl (Zy rfl rfl Qy.call109 (mpS (F.at rfl) (mpS (F.at rfl) (mpS (F.at rfl) mp0)))) (Z88 (mrG t) (mrC t) n12 (corO x t (val s) ls pre) q _ q12) fun e w24 hR=>?_);obtain⟨rfl,q12',e9⟩:=hR;refine⟨_,rfl,fun fa F=>?_⟩;replace q6:=(e9).keep q6 (by simp;omega);replace q7:=(e9).keep q7 (by simp;omega);replace q9:=(e9).keep q9 (by simp;omega);replace q10:=(e9).keep q10 (by simp;omega);replace q11:=(e9).keep q11 (by simp;omega);replace q13:=(e9).keep q13 (by simp;omega);replace q14:=(e9).keep q14 (by simp;omega);replace E:=E.trans' e9 (fun i hi hl=>by simp only[Yc,Ya,or_false]at hi⊢;omega);replace ER:=ER.trans' e9 (fun i hi hl=>by simp only[Yc,Ya,or_false]at hi⊢;omega);replace eT:=eT.trans' e9 (fun i hi hl=>by simp only[Yc,Ya,or_false]at hi⊢;omega);refine⟨fun _=>eT,?_⟩;rw[←Zce (hco.trans hc51)]at q12';replace q12:=q12';clear q12';refine Z6r (by kernel_rfl) ?_ _;clear eT q6_ q7_ q9_ q10_ q11_ q12_ q13_ q14_ E_ ER_
    (try simp only[Exit.inBlock,reduceIte])
    show KeepsFrom _ _ _∧KeepR _ _ _ _∧_;rw[←hw3];refine⟨Z0n ER (by intro b hb;simp only[Yc,Ya,or_false]at hb;subst hb;exact .inl (by rw[hw3];exact b12)),Z0A ER (by intro k cs T fz hk hsf hm;simp only[Yc,Ya,or_false]at hm;exact hsf.2.1 hm) (.inl ((Z1J q12).trans hro.symm)),?_⟩;have hsw:w3.heap.size≤w24.heap.size:=(by rw[hw3];exact Yd hsz0 ER.size);show CorI _ _ _ _ _ _ _ _ _ _ _ _ (corO x t (val s) ls (pre++[q])) _
    first | exact⟨q6,q7,q9,q10,q11,q12,E,hsw⟩ | (rw[Z1C hcb];exact⟨q6,q7,q9,q10,q11,q12,E,hsw⟩) | (rw[Z1C (hco.trans hc51)];exact⟨q6,q7,q9,q10,q11,q12,E,hsw⟩)
   ·skip
    refine wpIn_skip ?_
    (try simp only[Exit.inBlock,reduceIte])
    show KeepsFrom _ _ _∧KeepR _ _ _ _∧_;rw[←hw3];refine⟨Z0n ER (by intro b hb;simp only[Yc,Ya,or_false]at hb;subst hb;exact .inl (by rw[hw3];exact b12)),Z0A ER (by intro k cs T fz hk hsf hm;simp only[Yc,Ya,or_false]at hm;exact hsf.2.1 hm) (.inl ((Z1J q12).trans hro.symm)),?_⟩;have hsw:w3.heap.size≤w21.heap.size:=(by rw[hw3];exact Yd hsz0 ER.size);show CorI _ _ _ _ _ _ _ _ _ _ _ _ (corO x t (val s) ls (pre++[q])) _
    first | exact⟨q6,q7,q9,q10,q11,q12,E,hsw⟩ | (rw[Z1C hcb];exact⟨q6,q7,q9,q10,q11,q12,E,hsw⟩) | (rw[Z1C (hco.trans hc51)];exact⟨q6,q7,q9,q10,q11,q12,E,hsw⟩)
 case done =>
  clear q6 q7 q9 q10 q11 q12 qb E hI0;rintro D W hD ⟨q6,q7,q9,q10,q11,q12,E,hsz⟩ qD;replace F:=F.mark (d:={target:=.collected D,args:=#[]});refine hK9 _ _<|wS fun K21 hK21=>wS fun K22 hK22=>?_
  by_cases hN:corO x t (val s) ls (recL x.D.length)=none
  ·skip
   replace q12:W.heap[n12]?=some (.cells #[.int .i64 (zf 0),.int .i64 (zf 1),.int .i64 (zf 2),.int .i64 (zf 3),.int .i64 0,.int .i64 0,.bool false] 129 (0,0)):=by rw[hN]at q12;exact q12
   refine Yg ?_;refine F.vl (ZF rfl (F.at rfl) Qy.underlying129 rfl (n:=6) (sz:=1) rfl (by kernel_rfl) (by decide)) fun fa F=>?_;refine F.vl (Zv rfl (F.at rfl) Qy.underlying4 rfl ((Z1 q12 6).trans (getS (getS (getS (getS (getS (getS (get0))))))))) fun fa F=>?_;refine F.vl (ZaI rfl (F.at rfl)) fun fa F=>?_;refine wN<|hK22 _ _ ?_
   refine cd_T F rfl ?_;refine wS fun K23 hK23=>?_;refine Yg ?_;refine F.vl (Zx rfl (ev_c fa _)) fun fa F=>?_;refine Z0N rfl rfl (ZN rfl (F.at rfl) (ev_c fa _) rfl (by kernel_rfl) ((Z1 q9 0).trans (get0)) (Z9 q9 0)) ?_;intro w25 hw;replace q6:=kce hw q6;replace q7:=kce hw q7;replace q9:=Zz hw q9 (by simp only[List.setIfInBounds_toArray,lsQ,lzQ];exact rfl);replace q10:=kce hw q10;replace q11:=kce hw q11;replace q12:=kce hw q12;replace qD:=kce hw qD;replace E:=ece E hw;clear hw;refine wN<|hK23 _ _ ?_
   refine wp_ret ?_
   (try simp only[Exit.inBlock,Exit.then,reduceIte])
   refine Z4f F ?_;refine Z91 qD fun w26 hw=>?_;replace q6:=Zu hw qD rfl q6;replace q7:=Zu hw qD rfl q7;replace q9:=Zu hw qD rfl q9;replace q10:=Zu hw qD rfl q10;replace q11:=Zu hw qD rfl q11;replace q12:=Zu hw qD rfl q12;replace E:=Z6S E hw (by omega);clear hw qD;refine ZZ ?_;refine Z1l (Z5D F rfl rfl rfl Qy.underlying30 rfl q9) ?_;rw[corR,hN];exact⟨none,0,rfl,World.ownsRow_nil _ _ _ _,E⟩
  ·skip
   obtain⟨q,hq⟩:=Option.ne_none_iff_exists'.1 hN;replace q12:W.heap[n12]?=some (.cells #[.int .i64 (mrG t q 0),.int .i64 (mrG t q 1),.int .i64 (mrG t q 2),.int .i64 (mrG t q 3),.int .i64 (mrC t q).1,.int .i64 (mrC t q).2,.bool true] 129 (0,0)):=by rw[hq]at q12;exact q12
   refine Yg ?_;refine F.vl (ZF rfl (F.at rfl) Qy.underlying129 rfl (n:=6) (sz:=1) rfl (by kernel_rfl) (by decide)) fun fa F=>?_;refine F.vl (Zv rfl (F.at rfl) Qy.underlying4 rfl ((Z1 q12 6).trans (getS (getS (getS (getS (getS (getS (get0))))))))) fun fa F=>?_;refine F.vl (ZaI rfl (F.at rfl)) fun fa F=>?_;refine wN<|hK22 _ _ ?_
   refine cd_F F rfl ?_;refine Yi ?_;refine hK21 _ _<|wS fun K24 hK24=>?_
   refine Yg ?_;refine F.vl (Zc rfl (F.at rfl) Qy.underlying85 rfl (by kernel_rfl) q10) fun fa F=>?_;refine F.vl (ZF rfl (F.at rfl) Qy.underlying129 rfl (n:=0) (sz:=4) rfl (by kernel_rfl) (by decide)) fun fa F=>?_;refine F.vl (Z4H rfl (F.at rfl) Qy.underlying88 rfl (by kernel_rfl) (Z63 (n:=4) q12 rfl (midS (get0) (midS (getS (get0)) (midS (getS (getS (get0))) (midS (getS (getS (getS (get0)))) mid0)))))) fun fa F=>?_;have hEs:=E.size;refine sqC F (Zy rfl rfl Qy.call108 (mpS (F.at rfl) (mpS (F.at rfl) mp0))) (Zcf x HV.out (mrG t q) _) fun e w27 hR=>?_;obtain⟨ca,cc,rfl,oo,e9⟩:=hR;refine⟨_,rfl,fun fa F=>?_⟩;replace q6:=(e9).keep0 q6;replace q7:=(e9).keep0 q7;replace q9:=(e9).keep0 q9;replace q10:=(e9).keep0 q10;replace q11:=(e9).keep0 q11;replace q12:=(e9).keep0 q12;replace qD:=(e9).keep0 qD;replace E:=Zb E (e9);clear e9;replace oo:=Z0s oo hEs;refine F.as fun fa F=>?_;refine Z0N rfl rfl (ZN rfl (F.at rfl) (ev_c fa _) rfl (by kernel_rfl) ((Z1 q9 0).trans (get0)) (Z9 q9 0)) ?_;intro w28 hw;replace oo:=Z0S hw oo (Z00 oo q9 (by decide));replace q6:=kce hw q6;replace q7:=kce hw q7;replace q9:=Zz hw q9 (by simp only[List.setIfInBounds_toArray,lsQ,lzQ];exact rfl);replace q10:=kce hw q10;replace q11:=kce hw q11;replace q12:=kce hw q12;replace qD:=kce hw qD;replace E:=ece E hw;clear hw;refine wN<|hK24 _ _ ?_
   refine wp_ret ?_
   (try simp only[Exit.inBlock,Exit.then,reduceIte])
   refine Z4f F ?_;refine Z91 qD fun w29 hw=>?_;replace oo:=Zac hw qD rfl oo;replace q6:=Zu hw qD rfl q6;replace q7:=Zu hw qD rfl q7;replace q9:=Zu hw qD rfl q9;replace q10:=Zu hw qD rfl q10;replace q11:=Zu hw qD rfl q11;replace q12:=Zu hw qD rfl q12;replace E:=Z6S E hw (by omega);clear hw qD;refine ZZ ?_;refine Z1l (Z5D F rfl rfl rfl Qy.underlying30 rfl q9) ?_;rw[corR,hq];refine⟨ca,cc,?_,?_,E⟩
   ·simp only[Z4q]
   ·simp only[Z4q];exact oo
end
section
open Go.RowKit
variable{μ:Nat}
section
variable(c:Int→Int→Int)
def swp(l:List Int)(j:Nat):List Int:=(l.set (j+1) (l.getD j 0)).set j (l.getD (j+1) 0)
def bubL:List Int→Nat→List Int
 | l,0=>l
 | l,j+1=>if c (l.getD (j+1) 0) (l.getD j 0)<0 then bubL (swp l j) j else l
def srtK(l:List Int):Nat→List Int
 | 0=>l
 | k+1=>bubL c (srtK l k) (k+1)
def srtL(l:List Int):List Int:=srtK c l (l.length-1)
theorem Z9m(l:List Int)(j:Nat):(swp l j).length=l.length:=by simp[swp]
theorem ZdZ(h:j+1<l.length){p:Int→Prop}(hp:∀n∈l,p n): ∀n∈swp l j,p n:=by
 intro n hn
 rcases List.mem_or_eq_of_mem_set hn with hn | rfl
 ·rcases List.mem_or_eq_of_mem_set hn with hn | rfl
  ·exact hp n hn
  ·exact hp _ (Z8 0 (by omega))
 ·exact hp _ (Z8 0 h)
theorem ZbZ:∀(j:Nat) (l:List Int),(bubL c l j).length=l.length
 | 0,_=>rfl
 | j+1,l=>by
  rw[bubL]
  split
  ·rw[ZbZ j,Z9m]
  ·rfl
theorem Zc0{p:Int→Prop}:∀(j:Nat) (l:List Int),j<l.length→(∀n∈l,p n)→∀n∈bubL c l j,p n
 | 0,_,_,h=>h
 | j+1,l,hj,h=>by
  rw[bubL]
  split
  ·exact Zc0 j _ (by rw[Z9m];omega) (ZdZ hj h)
  ·exact h
theorem Z7r(l:List Int):∀k,(srtK c l k).length=l.length
 | 0=>rfl
 | k+1=>by rw[srtK,ZbZ,Z7r l k]
theorem ZdS{p:Int→Prop}(l:List Int)(h:∀n∈l,p n):∀k,k<l.length→∀n∈srtK c l k,p n
 | 0,_=>h
 | k+1,hk=>by rw[srtK];exact Zc0 c _ _ (by rw[Z7r];exact hk) (ZdS l h k (by omega))
theorem Zeo(h:¬c (l.getD (j+1) 0) (l.getD j 0)<0): bubL c l (j+1)=l:=by rw[bubL,if_neg h]
theorem Zj6(h:c (l.getD (j+1) 0) (l.getD j 0)<0): bubL c l (j+1)=bubL c (swp l j) j:=by rw[bubL,if_pos h]
end
theorem ZcQ(f:FuncId)(cs:Array Value)(c:Int→Int→Int)(p:Int→Prop)(base r n:Nat)(a:Option Addr)(ca:Nat)(l:List Int)(w:World)(hn:l.length=n)(h1:n≤1000)(hp:∀m∈l,p m)(ho:w.ownsRow base 3 1 (.slice a n ca) n (ivs l))(hr:∀b,(Value.slice a n ca).ownBlock=some b→b=r)
  (hf:∀args w,(callFunc f args).run (Qy.prog μ) w = .ok (.enter f args) w) (hc:∀W,Ext [r] w W→∀m k,p m→p k→Calls (Qy.prog μ) f (#[]++[Value.int .i64 m,Value.int .i64 k].toArray++cs) W fun e W'=>e = .returned (.int .i64 (c m k))∧Ext [] W W') :
  Calls (Qy.prog μ) 148 #[.slice a n ca,.int .i64 0,.int .i64 ((n:Nat):Int),.func (.func f) #[] cs] w fun e w'=>e = .returned (.tuple #[])∧w'.ownsRow base 3 1 (.slice a n ca) n (ivs (srtL c l))∧Ext [r] w w':=by
 have E:Ext [r] w w:=Ext.refl _ _;have HC:=Lib.hid hc;have HF:=Lib.hid hf;have HP:=Lib.hid hp;have HR:=Lib.hid hr;replace ho:w.ownsRow base 3 1 (.slice a n ca) n (ivs (srtK c l 0)):=ho;clear hc hf hp hr;have G:=(Bk.nil w).ce E;replace G:=G.co ho;refine(ent 53 Tryz.f148 rfl) fun F=>wR fun k1=>(F.m) fun F=>(F.y F.ad) fun F=>?_;rw[show (0:Int)+1=((0+1:Nat):Int) from rfl]at F;refine(F.m) fun F=>k1<|Yh<|lpB (F.b [0,1,2,3]) (G.b [1]) (n) (fun i Lv Sv W=>Lv=[(8,.int .i64 ((i+1:Nat):Int))]∧Sv=[]∧W.ownsRow base 3 1 (.slice a n ca) n (ivs (srtK c l i))∧(i<n∨(i=0∧n=0))) ⟨_,_,F.u,G.u,rfl,rfl,(G.o 0),(by omega)⟩ ?_
 clear F G;rintro i _ w1 _ _ hi1 ⟨rfl,rfl,ho,hin⟩ F G;replace G:=(G.z).co ho;refine wQ fun k2=>wR fun k3=>(F.m) fun F=>(F.m) fun F=>(F.y F.ls) fun F=>k3<|F.ci (fun hc14=>?_) (fun hc14=>?_)
 ·refine Yi<|k2<|wQ fun k4=>Yh<|wR fun k5=>(F.m) fun F=>(F.m) fun F=>k5<|Yh<|lpB (F.b [0,1,2,3,8]) (G.b [1]) (i+1) (fun k Lv Sv W=>∃j:Nat,∃l2:List Int,Lv=[(9,.int .i64 ((j:Nat):Int))]∧Sv=[]∧W.ownsRow base 3 1 (.slice a n ca) n (ivs l2)∧j+k=i+1∧l2.length=n∧bubL c l2 j=srtK c l (i+1)∧∀m∈l2,p m) ⟨_,_,F.u,G.u,_,_,rfl,rfl,(G.o 0),(by omega),(by rw[Z7r];exact hn),rfl,(ZdS c l HP.out i (by omega))⟩ ?_
  clear F G;rintro k _ w2 _ _ hi2 ⟨j,l2,rfl,rfl,ho,hjk,hl2,hb2,hm2⟩ F G;replace G:=(G.z).co ho;refine wQ fun k6=>wQ fun k7=>?_
  by_cases hj0:j=0
  ·subst hj0
   refine(wX 14 G) fun G=>(F.sm) fun F=>(F.sm) fun F=>(F.s F.gtF) fun F=>(F.sm) fun F=>(F.sn) fun F=>(F.sn) fun F=>(F.sn) fun F=>(F.sn) fun F=>(F.sn) fun F=>(F.sn) fun F=>(F.sn) fun F=>(F.sn) fun F=>(F.sn) fun F=>(F.sn) fun F=>wpStill_nil ?_;refine(F.n) fun F=>(F.n) fun F=>(F.y F.pF) fun F=>?_;have ho:=G.o 0;rw[show l2=srtK c l (i+1) from hb2]at ho;replace G:=G.rO 0 ho;clear ho;refine k7<|(F.cF)<|wp_exit<|k4<|Yg<|(F.m) fun F=>(F.y F.ad) fun F=>?_
   rw[show ((i+1:Nat):Int)+1=((i+1+1:Nat):Int) from rfl]at F;refine(F.m) fun F=>?_;show _∧_;exact⟨by omega,_,_,F.u,G.u,rfl,rfl,(G.o 0),(by omega)⟩
  ·obtain⟨j,rfl⟩:∃j',j=j'+1:=⟨j-1,by omega⟩
   have ho:=G.o 0;have HS:=Lib.hid (ZJ ho hl2.symm [] (by simp));replace G:=G.hr [];refine(wX 14 G) fun G=>(F.sm) fun F=>(F.sm) fun F=>(F.s F.gtT) fun F=>(F.sm) fun F=>(F.sm) fun F=>(F.sm) fun F=>(F.sm) fun F=>(F.sx HS.out (j+1)) fun xr8 F=>(F.s (F.l1 (xr8 _ (G.e 0)) 0)) fun F=>(F.sm) fun F=>(F.sm) fun F=>(F.s F.sb) fun F=>?_;rw[show ((j+1:Nat):Int)-1=((j:Nat):Int) by omega]at F;refine(F.sx HS.out j) fun xr9 F=>(F.s (F.l1 (xr9 _ (G.e 0)) 0)) fun F=>wpStill_nil ?_;refine(F.kr (Z2W rfl (F.at rfl) HF.out (mpS (F.at rfl) (mpS (F.at rfl) mp0)) rfl) (HC.out _ (G.e 2) (l2.getD (j+1) 0) (l2.getD j 0) (hm2 _ (Z8 0 (by omega))) (hm2 _ (Z8 0 (by omega))))) ?_;rintro _ w5 ⟨rfl,e9⟩;refine⟨_,rfl,fun F=>?_⟩;replace G:=G.ex e9;refine(F.y F.ls) fun F=>(F.y F.pT) fun F=>k7<|F.ci (fun hc34=>?_) (fun hc34=>?_)
   ·refine Yi<|k6<|wQ fun k10=>Yh ?_
    have ho:=G.o 1;have HS:=Lib.hid (ZJ ho hl2.symm [] (by simp));have hil:=Z1j l2;replace G:=(G.d 0).hr [];have G2:=G;refine(wD [] (some 15) G) fun G=>(F.z 0 (G.t 0) F.mo) fun F=>(F.z 1 (G.t 0) F.mo) fun F=>(F.z 2 (G.t 0) F.mo) fun F=>(F.z 3 (G.t 0) F.mo) fun F=>(F.z 4 (G.t 0) F.sb) fun F=>?_;rw[show ((j+1:Nat):Int)-1=((j:Nat):Int) by omega]at F;refine(F.z 5 (G.t 0) F.mo) fun F=>(F.z 6 (G.t 0) F.mo) fun F=>(F.z 7 (G.t 0) F.sb) fun F=>?_;rw[show ((j+1:Nat):Int)-1=((j:Nat):Int) by omega]at F;obtain⟨xb11,xo11,xa11,xr11⟩:=HS.out j (by omega);refine(F.z 8 (G.t 0) (F.is 1 xa11)) fun F=>(F.zr 9 (G.t 0) fun hS=>F.l1 (xr11 _ ((G2.e 0).nil hS)) 0) fun F=>(F.z 10 (G.t 0) F.mo) fun F=>(F.z 11 (G.t 0) F.mo) fun F=>?_;obtain⟨xb12,xo12,xa12,xr12⟩:=HS.out (j+1) (by omega);refine(F.z 12 (G.t 0) (F.is 1 xa12)) fun F=>(F.zr 13 (G.t 0) fun hS=>F.l1 (xr12 _ ((G2.e 0).nil hS)) 0) fun F=>?_;obtain⟨xb13,xo13,xa13,xr13⟩:=HS.out (j+1) (by omega);refine(F.z 14 (G.t 0) (F.is 1 xa13)) fun F=>?_;replace G:=(G.d 1).d 0;obtain⟨⟨u0,hcu⟩,hfu,hst⟩:=Z2l (G.o 0) xa13 (j:=(j+1)) (p:=xo13+((j+1:Nat):Int).toNat*1) (by first | omega | (simp;omega)) (by omega);refine Z2b (i:=15) (by kernel_rfl) (Zb7 rfl rfl (F.want rfl) (ZN rfl (F.at rfl) (F.at rfl) rfl (by kernel_rfl) hcu hfu) ?_);intro w7 hw;obtain⟨hown',hg⟩:=hst _ _ hw;have ho:=(G.o 0);have E:=G.e 1;replace G:=G.d 1;replace E:=Z1F E hg (fun b hb hl=>by rw[HR.out b hb];simp);replace G:=(G.gr 0 hg hown').ce E;clear hst hcu hfu hw hg hown';refine .intro (gone (by kernel_rfl)) ?_;have ho:=G.o 1;rw[Z1k]at ho;have hil2:=Z1j (l2.set (j+1) (l2.getD j 0));rw[List.length_set]at hil2;replace G:=G.rO 1 ho;clear ho;obtain⟨xb14,xo14,xa14,xr14⟩:=HS.out j (by omega);refine(F.z 16 (gone (by kernel_rfl)) (F.is 1 xa14)) fun F=>?_;obtain⟨⟨u0,hcu⟩,hfu,hst⟩:=Z2l (G.o 1) xa14 (j:=j) (p:=xo14+((j:Nat):Int).toNat*1) (by first | omega | (simp;omega)) (by omega);refine Z2b (i:=17) (by kernel_rfl) (Zb7 rfl rfl (F.want rfl) (ZN rfl (F.at rfl) (F.at rfl) rfl (by kernel_rfl) hcu hfu) ?_);intro w8 hw;obtain⟨hown',hg⟩:=hst _ _ hw;have ho:=(G.o 1);have E:=G.e 0;replace G:=G.d 0;replace E:=Z1F E hg (fun b hb hl=>by rw[HR.out b hb];simp);replace G:=(G.gr 0 hg hown').ce E;clear hst hcu hfu hw hg hown';refine .intro (gone (by kernel_rfl)) ?_;have ho:=G.o 1;rw[Z1k]at ho;replace ho:w8.ownsRow base 3 1 (.slice a n ca) n (ivs (swp l2 j)):=ho;replace G:=G.rO 1 ho;clear ho;refine(aD)<|k10<|Yg<|(F.m) fun F=>(F.y F.sb) fun F=>?_
    rw[show ((j+1:Nat):Int)-1=((j:Nat):Int) by omega]at F;refine(F.m) fun F=>?_;show _∧_;exact⟨by omega,_,_,F.u,G.u,_,_,rfl,rfl,(G.o 1),(by omega),(by rw[Z9m];exact hl2),((Zj6 c hc34).symm.trans hb2),(ZdZ (by omega) hm2)⟩
   ·have ho:=G.o 1
    rw[show l2=srtK c l (i+1) from(Zeo c hc34).symm.trans hb2]at ho;replace G:=G.rO 1 ho;clear ho;refine wp_exit<|k4<|Yg<|(F.m) fun F=>(F.y F.ad) fun F=>?_
    rw[show ((i+1:Nat):Int)+1=((i+1+1:Nat):Int) from rfl]at F;refine(F.m) fun F=>?_;show _∧_;exact⟨by omega,_,_,F.u,G.u,rfl,rfl,(G.o 1),(by omega)⟩
 ·refine wp_exit ?_
  have ho:=G.o 0;rw[show i=l.length-1 by omega]at ho;replace G:=G.rO 0 ho;clear ho;refine(F.e0) ?_;have ho:=G.o 0;exact⟨rfl,ho,(G.e 1)⟩
variable{μ:Nat}
theorem Z8f{sz: Nat}{row:Nat→List Value}(h:SlAt [] w a sz n row)(e:Ext X w W)(hX:∀b∈X,w.heap.size≤b): SlAt [] W a sz n row:=fun i hi=>by
 obtain⟨b,off,h1,h2⟩:=h i hi;refine⟨b,off,h1,fun V e2 j v hv=>?_⟩;have h3:=h2 w (Ext.refl _ _) j v hv;have hb:b<w.heap.size:=by
  apply Classical.byContradiction;intro hn;rw[World.cell?]at h3;simp[Array.getElem?_eq_none (show w.heap.size≤b by omega)]at h3
 rw[(e.nil e2).cell (a:=⟨b,off+i*sz+j,none⟩) hb (fun hm=>by have:=hX b hm;omega)];exact h3
theorem Z3N.extX{w': World}(h:Z3N w v xs)(e:Ext X w w')(hX:∀b∈X,w.heap.size≤b): Z3N w' v xs:=by
 obtain⟨a,c,h1,h2⟩:=h;exact⟨a,c,h1,h2.ext e hX⟩
theorem Vm.At.extX{X:List Nat}{x:Vm}{w W:World}(h:x.At w)(e:Ext X w W)(hX:∀b∈X,w.heap.size≤b):x.At W:=
 ⟨⟨Z8f h.d.1 e hX,fun p hp=>(h.d.2 p hp).extX e hX⟩,⟨Z8f h.l.1 e hX,fun p hp=>(h.l.2 p hp).extX e hX⟩⟩
theorem Zbr(f:FuncId)(cs:Array Value)(c:Int→Int→Int)(p:Int→Prop)(base r n:Nat)(a:Option Addr)(ca:Nat)(l:List Int)(w:World)(hn:l.length=n)(h1:n<20)(hp:∀m∈l,p m)(ho:w.ownsRow base 3 1 (.slice a n ca) n (ivs l))(hr:∀b,(Value.slice a n ca).ownBlock=some b→b=r)
  (hf:∀args w,(callFunc f args).run (Qy.prog μ) w = .ok (.enter f args) w) (hc:∀W,Ext [r] w W→∀m k,p m→p k→Calls (Qy.prog μ) f (#[]++[Value.int .i64 m,Value.int .i64 k].toArray++cs) W fun e W'=>e = .returned (.int .i64 (c m k))∧Ext [] W W') :
  Calls (Qy.prog μ) 123 #[.slice a n ca,.int .i64 ((n:Nat):Int),.func (.func f) #[] cs] w fun e w'=>e = .returned (.tuple #[])∧w'.ownsRow base 3 1 (.slice a n ca) n (ivs (srtL c l))∧Ext [r] w w':=by
 have E:Ext [r] w w:=Ext.refl _ _;have HC:=Lib.hid hc;have HF:=Lib.hid hf;have HP:=Lib.hid hp;have HR:=Lib.hid hr;clear hc hf hp hr;have G:=(Bk.nil w).ce E;replace G:=G.co ho;refine(ent 63 Tryz.f123 rfl) fun F=>wR fun k1=>(F.m) fun F=>k1<|wR fun k2=>(F.m) fun F=>(F.m) fun F=>(F.m) fun F=>k2<|wQ fun k3=>Yh<|lpC (F.b [0,1,2,6]) G (0) (fun i=>[(7,.int .i64 0),(8,.int .i64 20)]) F.u fun i hi1 F G=>wQ fun k4=>wR fun k5=>(F.m) fun F=>(F.m) fun F=>(F.y F.le) fun F=>k5<|(F.JF)<|wp_exit<|k3<|wR fun k6=>(F.m) fun F=>(F.m) fun F=>(F.m) fun F=>(F.m) fun F=>?_
 have ho:=G.o 0;replace G:=G.d 0;refine(F.k (ZcQ f cs c p base r n a ca l _ hn (by omega) HP.out ho HR.out HF.out (fun W e=>HC.out W ((G.e 0).trans e)))) ?_;rintro _ w2 ⟨rfl,ho2,e9⟩;refine⟨_,rfl,fun F=>?_⟩;replace G:=G.x e9;replace ho:=ho2;clear ho2 e9;replace G:=G.co ho;refine k6<|Yh<|lpC (F.b [0,1,2]) G (0) (fun i=>[(6,.int .i64 20)]) F.u fun i hi2 F G=>wQ fun k7=>wR fun k8=>(F.m) fun F=>(F.m) fun F=>(F.y F.ls) fun F=>k8<|(F.JF)<|wp_exit<|(F.e0) ?_
 have ho:=G.o 0;exact⟨rfl,ho,(G.e 1)⟩
theorem ZdI(f:FuncId)(cs:Array Value)(c:Int→Int→Int)(p:Int→Prop)(base r n:Nat)(a:Option Addr)(ca:Nat)(l:List Int)(w:World)(hn:l.length=n)(h1:n<20)(hp:∀m∈l,p m)(ho:w.ownsRow base 3 1 (.slice a n ca) n (ivs l))(hr:∀b,(Value.slice a n ca).ownBlock=some b→b=r)
  (hf:∀args w,(callFunc f args).run (Qy.prog μ) w = .ok (.enter f args) w) (hc:∀W,Ext [r] w W→∀m k,p m→p k→Calls (Qy.prog μ) f (#[]++[Value.int .i64 m,Value.int .i64 k].toArray++cs) W fun e W'=>e = .returned (.int .i64 (c m k))∧Ext [] W W') :
  Calls (Qy.prog μ) 99 #[.slice a n ca,.func (.func f) #[] cs] w fun e w'=>e = .returned (.tuple #[])∧w'.ownsRow base 3 1 (.slice a n ca) n (ivs (srtL c l))∧Ext [r] w w':=by
 have E:Ext [r] w w:=Ext.refl _ _;have HC:=Lib.hid hc;have HF:=Lib.hid hf;have HP:=Lib.hid hp;have HR:=Lib.hid hr;clear hc hf hp hr;have G:=(Bk.nil w).ce E;replace G:=G.co ho;refine(ent 9 Tryz.f99 rfl) fun F=>Yg<|(F.m) fun F=>(F.m) fun F=>(F.y F.ln) fun F=>(F.m) fun F=>?_
 have ho:=G.o 0;replace G:=G.d 0;refine(F.k (Zbr f cs c p base r n a ca l _ hn h1 HP.out ho HR.out HF.out (fun W e=>HC.out W ((G.e 0).trans e)))) ?_;rintro _ w1 ⟨rfl,ho2,e9⟩;refine⟨_,rfl,fun F=>?_⟩;replace G:=G.x e9;replace ho:=ho2;clear ho2 e9;replace G:=G.co ho;refine(F.f0) ?_;have ho:=G.o 0;exact⟨rfl,ho,(G.e 1)⟩
def shdE(x:Vm)(T:List (List Int))(lp:Nat)(j k:Int):Int:=
 cmpE (prt (val (T.getD k.toNat []))*dotE (val (x.lamp lp)) (tnE x (val (T.getD j.toNat []))) x.B.toNat) (prt (val (T.getD j.toNat []))*dotE (val (x.lamp lp)) (tnE x (val (T.getD k.toNat []))) x.B.toNat)
theorem Zbd(x:Vm)(hv:VOk x)(T:List (List Int))(hT:∀t∈T,TubS (val t))(ma:Option Addr)(mc n9 n8 n4 lp:Nat)(j k:Int)(hj0:0≤j)(hj:j<T.length)(hk0:0≤k)(hk:k<T.length)(hl:lp<x.L.length)(w:World)(h:x.At w)
  (q8:w.heap[n8]?=some (.cells #[.int .i64 x.B,.slice x.da x.D.length x.dc,.slice x.la x.L.length x.lc,.int .i64 x.tol] 85 (0,0))) (q9:w.heap[n9]?=some (.cells #[.slice ma T.length mc] 93 (0,0))) (q4:w.heap[n4]?=some (.cells #[.int .i64 ((lp:Nat):Int)] 3 (0,0)))
  (hs:SlAt [] w ma 4 T.length (fun i=>tubR (val (T.getD i [])))) (h6:T.length≤6) :
  Calls (Qy.prog μ) 100 #[.int .i64 j,.int .i64 k,.pointer (some ⟨n9,0,none⟩),.pointer (some ⟨n8,0,none⟩),.pointer (some ⟨n4,0,none⟩)] w fun e w'=>e = .returned (.int .i64 (shdE x T lp j k))∧Ext [] w w':=by
 have E:Ext [] w w:=Ext.refl _ _;obtain⟨j,rfl⟩:=Int.eq_ofNat_of_zero_le hj0;obtain⟨k,rfl⟩:=Int.eq_ofNat_of_zero_le hk0;have HX:=Lib.hid h;have HV:=Lib.hid hv;have HT:=Lib.hid hT;have HS:=Lib.hid hs;have hb1:=hv.b1;have hb3:=hv.b3;obtain⟨bn,hbn⟩:∃bn:Nat,x.B=bn:=⟨x.B.toNat,by omega⟩;have hbn2:x.B.toNat=bn:=by omega
 have HF:RowKit.Hid (TubS (val (T.getD j []))):=Lib.hid (hT _ (Z10 [] (by omega)));have HG:RowKit.Hid (TubS (val (T.getD k []))):=Lib.hid (hT _ (Z10 [] (by omega)));obtain⟨f,hf⟩:∃f,f=val (T.getD j []):=⟨_,rfl⟩;obtain⟨g,hg⟩:∃g,g=val (T.getD k []):=⟨_,rfl⟩;have h1:=Z46 hv hl (fun j=>Zbt hv HF.out j) (n:=bn) (by omega);have h2:=Z46 hv hl (fun j=>Zbt hv HG.out j) (n:=bn) (by omega);have h3:=Z5a HF.out;have h4:=Z5a HG.out;have h5:=Z1s h4.1 h4.2 h1.1 h1.2 (C:=51840) (by omega);have h7:=Z1s h3.1 h3.2 h2.1 h2.2 (C:=51840) (by omega);have hal:shdE x T lp ((j:Nat):Int) ((k:Nat):Int)=cmpE (prt (val (T.getD k []))*dotE (val (x.lamp lp)) (tnE x (val (T.getD j []))) bn) (prt (val (T.getD j []))*dotE (val (x.lamp lp)) (tnE x (val (T.getD k []))) bn):=by rw[shdE,hbn2];rfl
 show Calls _ _ #[.int .i64 ((j:Nat):Int),.int .i64 ((k:Nat):Int),_,_,_] _ _;rw[hal];replace hj:j<T.length:=by omega
 replace hk:k<T.length:=by omega
 clear h hv hT hs hal hj0 hk0 hf hg f g;have G:=(Bk.nil w).ce E;replace G:=((G.cq q8).cq q9).cq q4;refine(ent 39 Tryz.f100 rfl) fun F=>wR fun k1=>(F.m) fun F=>k1<|wQ fun k2=>?_
 have G2:=G;refine(wD [] none G) fun G=>(F.zr 0 (G.t 0) fun hS=>F.lc (G2.k 1 hS)) fun F=>(F.z 1 (G.t 0) F.mo) fun F=>?_;obtain⟨xb3,xo3,xa3,xr3⟩:=HS.out k (by omega);refine(F.z 2 (G.t 0) (F.is 4 xa3)) fun F=>(F.zr 3 (G.t 0) fun hS=>F.lr (xr3 _ ((G2.e 3).nil hS))) fun F=>(F.zr 5 (G.t 0) fun hS=>F.lb (G2.k 2 hS)) fun F=>(F.zr 6 (G.t 0) fun hS=>F.lc (G2.k 0 hS)) fun F=>(F.zr 7 (G.t 0) fun hS=>F.lb (G2.k 2 hS)) fun F=>(F.zr 8 (G.t 0) fun hS=>F.lc (G2.k 1 hS)) fun F=>(F.z 9 (G.t 0) F.mo) fun F=>?_;obtain⟨xb4,xo4,xa4,xr4⟩:=HS.out j (by omega);refine(F.z 10 (G.t 0) (F.is 4 xa4)) fun F=>(F.zr 11 (G.t 0) fun hS=>F.lr (xr4 _ ((G2.e 3).nil hS))) fun F=>(F.zr 15 (G.t 0) fun hS=>F.lc (G2.k 1 hS)) fun F=>(F.z 16 (G.t 0) F.mo) fun F=>?_;obtain⟨xb5,xo5,xa5,xr5⟩:=HS.out j (by omega);refine(F.z 17 (G.t 0) (F.is 4 xa5)) fun F=>(F.zr 18 (G.t 0) fun hS=>F.lr (xr5 _ ((G2.e 3).nil hS))) fun F=>(F.zr 20 (G.t 0) fun hS=>F.lb (G2.k 2 hS)) fun F=>(F.zr 21 (G.t 0) fun hS=>F.lc (G2.k 0 hS)) fun F=>(F.zr 22 (G.t 0) fun hS=>F.lb (G2.k 2 hS)) fun F=>(F.zr 23 (G.t 0) fun hS=>F.lc (G2.k 1 hS)) fun F=>(F.z 24 (G.t 0) F.mo) fun F=>?_;obtain⟨xb6,xo6,xa6,xr6⟩:=HS.out k (by omega);refine(F.z 25 (G.t 0) (F.is 4 xa6)) fun F=>(F.zr 26 (G.t 0) fun hS=>F.lr (xr6 _ ((G2.e 3).nil hS))) fun F=>(aO 4)<|(F.ok0 G (Z08 (val (T.getD k [])) HG.out.ok _)) fun F G=>.intro (G.t 0)<|(aO 12)<|(F.ok (Z5r x HV.out bn hbn (val (T.getD j [])) HF.out _ (HX.out.ext (G.e 4)))) ?_
 rintro _ w3 ⟨a20,rfl,oo,e9⟩;refine⟨_,rfl,fun F=>?_⟩;replace G:=G.ex e9;refine .intro (G.t 0) ?_;have hrw:=ZC (xs:=sumL x (val (T.getD j [])) bn) (row:=Z6) (by rw[←Z0I,show (sumL x (val (T.getD j [])) bn).length=bn by simp[sumL]];exact oo) (fun _=>rfl);have hll:(sumL x (val (T.getD j [])) bn).length=bn:=by simp[sumL]
 have hwe:=Z2N (μ:=μ) x HV.out lp hl (sumL x (val (T.getD j [])) bn) (by rw[hll];omega) (fun n hn=>by have:=Z40 HV.out HF.out bn n hn;omega) a20 bn w3 (HX.out.ext (G.e 4)) (by rw[hll];exact hrw);rw[Z3i,hll]at hwe;refine(aO 13)<|(F.ok (hwe)) ?_
 rintro _ w4 ⟨rfl,e9⟩;refine⟨_,rfl,fun F=>?_⟩;replace G:=G.ex e9;refine .intro (G.t 0) ?_;clear oo hrw hwe hll;refine(F.z 14 (G.t 0) F.ml) fun F=>(aO 19)<|(F.ok0 G (Z08 (val (T.getD j [])) HF.out.ok _)) fun F G=>.intro (G.t 0)<|(aO 27)<|(F.ok (Z5r x HV.out bn hbn (val (T.getD k [])) HG.out _ (HX.out.ext (G.e 4)))) ?_
 rintro _ w6 ⟨a28,rfl,oo,e9⟩;refine⟨_,rfl,fun F=>?_⟩;replace G:=G.ex e9;refine .intro (G.t 0) ?_;have hrw:=ZC (xs:=sumL x (val (T.getD k [])) bn) (row:=Z6) (by rw[←Z0I,show (sumL x (val (T.getD k [])) bn).length=bn by simp[sumL]];exact oo) (fun _=>rfl);have hll:(sumL x (val (T.getD k [])) bn).length=bn:=by simp[sumL]
 have hwe:=Z2N (μ:=μ) x HV.out lp hl (sumL x (val (T.getD k [])) bn) (by rw[hll];omega) (fun n hn=>by have:=Z40 HV.out HG.out bn n hn;omega) a28 bn w6 (HX.out.ext (G.e 4)) (by rw[hll];exact hrw);rw[Z3i,hll]at hwe;refine(aO 28)<|(F.ok (hwe)) ?_
 rintro _ w7 ⟨rfl,e9⟩;refine⟨_,rfl,fun F=>?_⟩;replace G:=G.ex e9;refine .intro (G.t 0) ?_;clear oo hrw hwe hll;refine(F.z 29 (G.t 0) F.ml) fun F=>(aO 30)<|(F.ok0 G (Zca _ _ _)) fun F G=>.intro (G.t 0)<|(F.z 31 (G.t 0) F.mo) fun F=>(aD)<|k2<|(F.r1) ?_
 exact⟨rfl,(G.e 4)⟩
variable{μ:Nat}
def nums(n:Nat):List Int:=(List.range n).map fun i=>((i:Nat):Int)
theorem Zaa(n:Nat):(nums n).length=n:=by simp[nums]
theorem Zde(n:Nat):nums (n+1)=nums n++[((n:Nat):Int)]:=by simp[nums,List.range_succ]
theorem Zf8: ∀m∈nums n,0≤m∧m<n:=by
 intro m hm;simp only[nums,List.mem_map,List.mem_range]at hm;obtain⟨i,hi,rfl⟩:=hm;omega
def shaR(x:Vm)(lp:Nat)(T:List (List Int)):List Int:=srtL (shdE x T lp) (nums T.length)
theorem ZfG(c:Int→Int→Int)(l:List Int):(srtL c l).length=l.length:=by rw[srtL,Z7r]
theorem ZbC(x:Vm)(hv:VOk x)(lp:Nat)(hlp:lp<x.L.length)(S:List (Value×List Int))(hs:∀p∈S,RcpOk x p.2)(h6:S.length≤6)(a:Option Addr)(c:Nat)(w:World)(h:x.At w)(hl:Z0x w a S):
  Calls (Qy.prog μ) 41 #[.agg #[.int .i64 x.B,.slice x.da x.D.length x.dc,.slice x.la x.L.length x.lc,.int .i64 x.tol],.int .i64 ((lp:Nat):Int),.slice a S.length c] w (Z4k (shaR x lp (S.map (·.2)),0) w):=by
 have E:Ext [] w w:=Ext.refl _ _;have HX:=Lib.hid h;have HV:=Lib.hid hv;have HL:=Lib.hid hl;have HS:=Lib.hid hs;obtain⟨T,hT⟩:∃T,T=S.map (·.2):=⟨_,rfl⟩;have hTl:T.length=S.length:=by rw[hT,Yj]
 have HT:RowKit.Hid (∀t∈T,TubS (val t)):=Lib.hid (fun t ht=>by
  rw[hT]at ht;obtain⟨p,hp,rfl⟩:=List.mem_map.1 ht;exact(hs p hp).tub)
 clear h hv hl hs;have G:=(Bk.nil w).ce E;refine(entM 33 Tryz.f41 rfl) fun F=>wR fun k1=>(F.bx G) fun yy F G=>(F.bx G) @fun n4 w2 _ yy F G=>(F.m) fun F=>(F.al G Qy.zeroValue30) fun yy F G=>k1<|wR fun k2=>(F.df) fun F=>k2<|wR fun k3=>(F.y (F.lb (G.q 2))) fun F=>(F.k0 G (Z0u x HV.out _ (HX.out.ext (G.e 3)))) fun F G=>(F.al G Qy.zeroValue85) @fun n8 w5 _ yy F G=>(F.sr G 0) fun G=>k3<|wQ fun k4=>Yg ?_
 refine(F.y (F.lb (G.q 0))) fun F=>(F.y (F.lc (G.q 2))) fun F=>(F.k0 G (Z8U x HV.out ((lp:Nat):Int) (by omega) (by omega) _)) fun F G=>k4<|wR fun k5=>(F.y (F.lb (G.q 0))) fun F=>(F.m) fun F=>(F.k (Z5q x HV.out S HS.out h6 a c _ (HL.out.ext (G.e 4)))) ?_
 rintro _ w8 ⟨ma,mc,rfl,om,e9⟩;refine⟨_,rfl,fun F=>?_⟩;replace G:=G.ex e9;rw[←hT,←hTl]at om;rw[←hTl]at F;have hrm:=Lib.hid (ZC (row:=fun t:List Int=>tubR (val t)) om (fun _=>rfl));clear om;replace G:=G.hr [];refine(F.al G Qy.zeroValue93) @fun n9 w9 _ yy F G=>(F.st G 0) @fun w10 G=>k5<|wQ fun k6=>wQ fun k7=>?_
 have b4:=Z3 (G.q 4);have b7:=Z3 (G.q 3);have b8:=Z3 (G.q 2);have b9:=Z3 (G.q 0);have hww:=(G.e 6).size;have hwm:=(G.e 1).size;have oo:w10.ownsRow w10.heap.size 3 1 (.slice none 0 0) 0 (ivs (nums 0)):=World.ownsRow_nil _ _ _ _;replace G:=(G.hr []).co oo;refine Yg<|(F.y (F.lc (G.q 2))) fun F=>(F.y F.ln) fun F=>(F.m) fun F=>k7<|Yh<|lpB (F.b [4,7,8,9,20]) (G.b [1,2,3,4,5,6,7,8]) (T.length) (fun i Lv Sv W=>∃va:Option Addr,∃vc:Nat,Lv=[(6,.slice va i vc),(21,.int .i64 ((i:Nat):Int))]∧Sv=[]∧W.ownsRow w10.heap.size 3 1 (.slice va i vc) i (ivs (nums i))) ⟨_,_,F.u,G.u,none,0,rfl,rfl,(G.o 0)⟩ ?_
 clear F G;rintro i _ w11 _ _ hi1 ⟨va,vc,rfl,rfl,oo⟩ F G;replace G:=(G.z).co oo;refine wR fun k8=>(F.y F.ls) fun F=>k8<|wQ fun k9=>F.ci (fun hc22=>?_) (fun hc22=>?_)
 ·refine Yi<|k9<|wQ fun k10=>Yh<|wR fun k11=>(F.m) fun F=>(F.m) fun F=>k11<|Yg<|(F.m) fun F=>(F.m) fun F=>(F.bs G 1 #[.int .i64 ((i:Nat):Int)] Qy.zeroValue3) fun yy F G=>?_
  have hEs:=(G.e 2).size;refine ZK F rfl (by decide) (F.want rfl) (ZU rfl (w10.heap.size) (e:=3) (size:=1) (bytes:=8) Qy.underlying22 (by kernel_rfl) (by decide) (F.at rfl) (G.o 1) (F.at rfl) (G.q 0) rfl (by simp[Value.oneCell']) (by omega) (by omega) (by omega)) ?_;clear F;rintro _ v' w13 F ⟨hown',hg⟩;obtain⟨va27,vc27,rfl⟩:=Zm hown';replace G:=(G.d 0).gr 0 hg hown';clear hg hown';have oo:=G.o 0;rw[show ivs (nums i)++[.int .i64 ((i:Nat):Int)]=ivs (nums (i+1)) by rw[Zde];simp[ivs]]at oo;replace G:=G.rO 0 oo;clear oo;refine(F.m) fun F=>k10<|Yg<|(F.y F.ad) fun F=>(F.m) fun F=>?_
  show _∧_;exact⟨by omega,_,_,F.u,G.u,_,_,rfl,rfl,(G.o 0)⟩
 ·refine wp_exit ?_
  have oo:=G.o 0;rw[show i=T.length by omega]at oo F;replace G:=G.rO 0 oo;clear oo;refine k6<|wQ fun k12=>?_
  obtain⟨r,hrr,hrd⟩:=Zdk (.slice va T.length vc) w11.heap.size;have oo:=G.o 0;have hrb:w10.heap.size≤r:=by rcases hrd with h | h;(· exact(oo.lt r h).1);(· rw[h];exact(G.e 1).size)
  refine Yg<|(F.m) fun F=>(F.y F.mf) fun F=>?_
  have hEM:Ext [] w8 w11:=(G.e 3);have oo:=G.o 0;replace G:=G.d 0;refine(F.k (ZdI 100 #[.pointer (some ⟨n9,0,none⟩),.pointer (some ⟨n8,0,none⟩),.pointer (some ⟨n4,0,none⟩)] (shdE x T lp) (fun m=>0≤m∧m<T.length) w10.heap.size r T.length va vc (nums T.length) _ (Zaa _) (by omega) Zf8 oo hrr Qy.call100 (fun W e m k hm hk=>Zbd x HV.out T HT.out ma mc n9 n8 n4 lp m k hm.1 hm.2 hk.1 hk.2 hlp W (HX.out.extX (((G.e 7).mono (Y:=[r]) (by simp)).trans e) (by simp;omega)) (e.keep (G.q 3) (by simp;omega)) (e.keep (G.q 1) (by simp;omega)) (e.keep (G.q 5) (by simp;omega)) (Za (row:=fun t:List Int=>tubR (val t)) (hrm.out.ext ((hEM.mono (Y:=[r]) (by simp)).trans e) (by simp;omega)) []) (by omega)))) ?_;rintro _ w14 ⟨rfl,oo2,e9⟩;refine⟨_,rfl,fun F=>?_⟩;replace G:=G.x e9;replace oo:=oo2;clear oo2 e9;replace G:=G.co oo;refine k12<|wR fun k13=>(F.m) fun F=>(F.m) fun F=>?_
  replace G:=(G.d 3).d 1;refine(F.st G 3) fun G=>k13<|wp_ret ?_
  (try simp only[Exit.inBlock,Exit.then,reduceIte])
  refine Z4f F<|ZZ<|Z1l (Z5D F rfl rfl rfl Qy.underlying30 rfl (G.q 3)) ?_
  rw[←hT,show shaR x lp T=srtL (shdE x T lp) (nums T.length) from rfl];have hsl:(srtL (shdE x T lp) (nums T.length)).length=T.length:=by rw[ZfG,Zaa]
  refine⟨va,vc,?_,?_,(G.e 6)⟩
  ·simp only[hsl]
  have oo:=G.o 0
  ·simp only[hsl];exact Z0s oo hww
variable{μ:Nat}
theorem Zfm(L:List (Value×List Int))(h:w.heap[b]?=some (.cells (L.map (·.1)).toArray T fz)): SlAt [] w (some ⟨b,0,none⟩) 1 L.length (fun i=>[(L.getD i (.bool true,[])).1]):=fun i hi =>
 ⟨b,0,fun _ _=>rfl,fun W e j v hv=>by
  obtain rfl:j=0:=by
   rcases j with _ | j
   ·rfl
   ·simp at hv
  rw[Z1 (e.keep0 h)];simp only[List.getElem?_cons_zero,Y4]at hv;subst hv;simp[hi]⟩
theorem Z8Y(L:List (Value×List Int))(h:w.heap[b]?=some (.cells (L.map (·.1)).toArray T fz))(hr:∀p∈L,Z3N w p.1 p.2): Z0x w (some ⟨b,0,none⟩) L:=⟨Zfm L h,hr⟩
theorem Z1t(xs:List Int)(h:w.heap[b]?=some (.cells (xs.map (Value.int .i64)).toArray T fz)): Z3N w (.slice (some ⟨b,0,none⟩) xs.length xs.length) xs:=⟨_,_,rfl,ZP xs _ h⟩
def vatD:List (List Int):=[[9,0,0],[0,9,0],[0,0,9],[3,3,3]]
def vatL:List (List Int):=[[1,1,1],[3,1,0]]
structure IsVat(x:Vm):Prop where
 b:x.B=3
 t:x.tol=1
 d:x.D.map (·.2)=vatD
 l:x.L.map (·.2)=vatL
theorem Z42(w:World):Calls (Qy.prog μ) 51 #[] w fun e w'=>∃x:Vm,e = .returned (.agg #[.int .i64 x.B,.slice x.da x.D.length x.dc,.slice x.la x.L.length x.lc,.int .i64 x.tol])∧IsVat x∧x.At w'∧Ext [] w w':=by
 have E:Ext [] w w:=Ext.refl _ _;have G:=(Bk.nil w).ce E;refine(ent 10 Tryz.f51 rfl) fun F=>wR fun k1=>(F.al G Qy.zeroValue27) fun yy F G=>k1<|wR fun k2=>(F.bs G 1 #[.int .i64 9,.int .i64 0,.int .i64 0] Qy.zeroValue3) @fun n1 w2 _ yy F G=>(F.bs G 1 #[.int .i64 0,.int .i64 9,.int .i64 0] Qy.zeroValue3) @fun n2 w3 _ yy F G=>(F.bs G 1 #[.int .i64 0,.int .i64 0,.int .i64 9] Qy.zeroValue3) @fun n3 w4 _ yy F G=>(F.bs G 1 #[.int .i64 3,.int .i64 3,.int .i64 3] Qy.zeroValue3) @fun n4 w5 _ yy F G=>(F.bs G 1 #[.slice (some ⟨n1,0,none⟩) 3 3,.slice (some ⟨n2,0,none⟩) 3 3,.slice (some ⟨n3,0,none⟩) 3 3,.slice (some ⟨n4,0,none⟩) 3 3] Qy.zeroValue22) @fun n5 w6 _ yy F G=>(F.bs G 1 #[.int .i64 1,.int .i64 1,.int .i64 1] Qy.zeroValue3) @fun n6 w7 _ yy F G=>(F.bs G 1 #[.int .i64 3,.int .i64 1,.int .i64 0] Qy.zeroValue3) @fun n7 w8 _ yy F G=>(F.bs G 1 #[.slice (some ⟨n6,0,none⟩) 3 3,.slice (some ⟨n7,0,none⟩) 3 3] Qy.zeroValue22) @fun n8 w9 _ yy F G=>?_
 refine(F.y (F.bv #[.int .i64 3,.slice (some ⟨n5,0,none⟩) 4 4,.slice (some ⟨n8,0,none⟩) 2 2,.int .i64 1])) fun F=>(F.sr G 8) fun G=>k2 ?_;refine(F.rg (rs_c F rfl rfl Qy.underlying27 rfl (by kernel_rfl) (G.q 8))) ?_;refine⟨{B:=3,tol:=1,da:=some ⟨n5,0,none⟩,dc:=4,la:=some ⟨n8,0,none⟩,lc:=2,D:=[(.slice (some ⟨n1,0,none⟩) 3 3,[9,0,0]),(.slice (some ⟨n2,0,none⟩) 3 3,[0,9,0]),(.slice (some ⟨n3,0,none⟩) 3 3,[0,0,9]),(.slice (some ⟨n4,0,none⟩) 3 3,[3,3,3])],L:=[(.slice (some ⟨n6,0,none⟩) 3 3,[1,1,1]),(.slice (some ⟨n7,0,none⟩) 3 3,[3,1,0])]},rfl,⟨rfl,rfl,rfl,rfl⟩,⟨Z8Y _ (G.q 3) ?_,Z8Y _ (G.q 0) ?_⟩,(G.e 9)⟩
 ·intro p hp;simp only[Yc,Ya,or_false]at hp;rcases hp with rfl | rfl | rfl | rfl;(· exact Z1t [9,0,0] (G.q 7));(· exact Z1t [0,9,0] (G.q 6));(· exact Z1t [0,0,9] (G.q 5));(· exact Z1t [3,3,3] (G.q 4))
 ·intro p hp;simp only[Yc,Ya,or_false]at hp;rcases hp with rfl | rfl;(· exact Z1t [1,1,1] (G.q 2));(· exact Z1t [3,1,0] (G.q 1))
theorem Z9f(w:World):Calls (Qy.prog μ) 52 #[] w fun e w'=>∃a,e = .returned (.slice a 3 3)∧Z7 w' (.slice a [(4:Int),3,2].length 3) 1 ([(4:Int),3,2].map Z6)∧Ext [] w w':=by
 have E:Ext [] w w:=Ext.refl _ _;have G:=(Bk.nil w).ce E;refine(ent 2 Tryz.f52 rfl) fun F=>wR fun k1=>(F.m) fun F=>k1<|wR fun k2=>(F.bs G 1 #[.int .i64 4,.int .i64 3,.int .i64 2] Qy.zeroValue3) fun yy F G=>(F.m) fun F=>k2<|(F.r1) ?_
 exact⟨_,rfl,ZP [4,3,2] 3 (G.q 0),(G.e 1)⟩
def Z0W:List (List Int):=[[1,0,0,0],[0,1,0,0],[1,1,1,0],[0,0,0,1]]
theorem Z3R(w:World):Calls (Qy.prog μ) 58 #[] w fun e w'=>∃(a:Option Addr) (S:List (Value×List Int)),e = .returned (.slice a S.length 4)∧S.map (·.2)=Z0W∧Z0x w' a S∧Ext [] w w':=by
 have E:Ext [] w w:=Ext.refl _ _;have G:=(Bk.nil w).ce E;refine(ent 6 Tryz.f58 rfl) fun F=>wR fun k1=>(F.m) fun F=>k1<|wR fun k2=>(F.bs G 1 #[.int .i64 1,.int .i64 0,.int .i64 0,.int .i64 0] Qy.zeroValue3) @fun n1 w1 _ yy F G=>(F.bs G 1 #[.int .i64 0,.int .i64 1,.int .i64 0,.int .i64 0] Qy.zeroValue3) @fun n2 w2 _ yy F G=>(F.bs G 1 #[.int .i64 1,.int .i64 1,.int .i64 1,.int .i64 0] Qy.zeroValue3) @fun n3 w3 _ yy F G=>(F.bs G 1 #[.int .i64 0,.int .i64 0,.int .i64 0,.int .i64 1] Qy.zeroValue3) @fun n4 w4 _ yy F G=>(F.bs G 1 #[.slice (some ⟨n1,0,none⟩) 4 4,.slice (some ⟨n2,0,none⟩) 4 4,.slice (some ⟨n3,0,none⟩) 4 4,.slice (some ⟨n4,0,none⟩) 4 4] Qy.zeroValue22) @fun n5 w5 _ yy F G=>(F.m) fun F=>k2<|(F.r1) ?_
 refine⟨some ⟨n5,0,none⟩,[(.slice (some ⟨n1,0,none⟩) 4 4,[1,0,0,0]),(.slice (some ⟨n2,0,none⟩) 4 4,[0,1,0,0]),(.slice (some ⟨n3,0,none⟩) 4 4,[1,1,1,0]),(.slice (some ⟨n4,0,none⟩) 4 4,[0,0,0,1])],rfl,rfl,Z8Y _ (G.q 0) ?_,(G.e 5)⟩;intro p hp;simp only[Yc,Ya,or_false]at hp;rcases hp with rfl | rfl | rfl | rfl;(· exact Z1t [1,0,0,0] (G.q 4));(· exact Z1t [0,1,0,0] (G.q 3));(· exact Z1t [1,1,1,0] (G.q 2));(· exact Z1t [0,0,0,1] (G.q 1))
variable{μ:Nat}
theorem ZiQ(x:Vm)(hv:VOk x)(k:Nat)(hk:k<x.L.length)(l:List Int)(hl:RcpOk x l)(s:List Int)(hs:Z1z x s)(a b:Option Addr)(c d:Nat)(w:World)(h:x.At w)(hr:Z7 w (.slice a l.length c) 1 (l.map Z6))(hq:Z7 w (.slice b s.length d) 1 (s.map Z6)):
  Calls (Qy.prog μ) 35 #[.agg #[.int .i64 x.B,.slice x.da x.D.length x.dc,.slice x.la x.L.length x.lc,.int .i64 x.tol],.int .i64 ((k:Nat):Int),.slice a l.length c,.slice b s.length d] w fun e w'=>e = .returned (.tuple #[.int .i64 (offE x k (val l) (val s)),.int .i64 0])∧Ext [] w w':=by
 have E:Ext [] w w:=Ext.refl _ _;have HX:=Lib.hid h;have HV:=Lib.hid hv;have HR:=Lib.hid hr;have HQ:=Lib.hid hq;have HL:=Lib.hid hl;have HS:=Lib.hid hs;clear h hv hr hq hl hs;have G:=(Bk.nil w).ce E;refine(entM 28 Tryz.f35 rfl) fun F=>wR fun k1=>(F.bx G) fun yy F G=>(F.m) fun F=>(F.al G Qy.zeroValue30) fun yy F G=>k1<|wR fun k2=>(F.df) fun F=>k2<|wR fun k3=>(F.y (F.lb (G.q 1))) fun F=>(F.k0 G (Z0u x HV.out _ (HX.out.ext (G.e 2)))) fun F G=>(F.al G Qy.zeroValue85) fun yy F G=>(F.sr G 0) fun G=>k3<|wR fun k4=>(F.y (F.lb (G.q 0))) fun F=>?_
 refine(F.m) fun F=>(F.k0 G (Z8U x HV.out ((k:Nat):Int) (by omega) (by omega) _)) fun F G=>k4<|wR fun k5=>(F.y (F.lb (G.q 0))) fun F=>(F.m) fun F=>(F.k0 G (Z2o x HV.out l HL.out a c _ (HR.out.ext (G.e 3) (by simp)))) fun F G=>(F.al G Qy.zeroValue88) fun yy F G=>(F.sr G 0) fun G=>k5<|wR fun k6=>(F.y (F.lb (G.q 1))) fun F=>(F.m) fun F=>(F.k0 G (Z2q x HV.out s HS.out b d _ (HQ.out.ext (G.e 4) (by simp)))) fun F G=>k6<|wQ fun k7=>Yg ?_
 refine(F.y (F.lb (G.q 1))) fun F=>(F.m) fun F=>(F.y (F.lb (G.q 0))) fun F=>(F.m) fun F=>(F.k0 G (ZgA x HV.out k hk (val l) HL.out.tub s HS.out b d _ (HX.out.ext (G.e 4)) (HQ.out.ext (G.e 4) (by simp)))) fun F G=>(F.m) fun F=>(F.st G 2) fun G=>k7<|wp_ret ?_
 (try simp only[Exit.inBlock,Exit.then,reduceIte])
 refine Z4f F<|ZZ<|Z1l (Z5D F rfl rfl rfl Qy.underlying30 rfl (G.q 2)) ?_
 exact⟨rfl,(G.e 4)⟩
variable{μ:Nat}
def mkV(B:Int)(D L:List (List Int))(tol:Int):Vm:={B:=B,tol:=tol,da:=none,dc:=0,la:=none,lc:=0,D:=D.map fun l=>(.bool true,l),L:=L.map fun l=>(.bool true,l)}
structure AlkV'(x y:Vm):Prop where
 b:x.B=y.B
 t:x.tol=y.tol
 d:x.D.map (·.2)=y.D.map (·.2)
 l:x.L.map (·.2)=y.L.map (·.2)
section
variable{x y:Vm}(h:AlkV' x y)
include h
theorem AlkV'.dl:x.D.length=y.D.length:=by have:=congrArg List.length h.d;simpa using this
theorem AlkV'.ll:x.L.length=y.L.length:=by have:=congrArg List.length h.l;simpa using this
theorem AlkV'.dye(k:Nat):x.dye k=y.dye k:=by
 have:=congrArg (fun l=>l.getD k []) h.d;simp only[Vm.dye]
 by_cases hk:k<x.D.length
 ·have h1:=Z1X x.D hk
  have h2:=Z1X y.D (h.dl▸hk);rw[←h1,←h2];exact this
 ·rw[Y7,Y7,List.getElem?_eq_none (by omega),List.getElem?_eq_none (by have:=h.dl;omega)]
theorem AlkV'.lamp(k:Nat):x.lamp k=y.lamp k:=by
 have:=congrArg (fun l=>l.getD k []) h.l;simp only[Vm.lamp]
 by_cases hk:k<x.L.length
 ·have h1:=Z1X x.L hk
  have h2:=Z1X y.L (h.ll▸hk);rw[←h1,←h2];exact this
 ·rw[Y7,Y7,List.getElem?_eq_none (by omega),List.getElem?_eq_none (by have:=h.ll;omega)]
theorem AlkV'.tn(f:Nat→Int):tnE x f=tnE y f:=by funext j;simp only[tnE,tonE,h.dl,h.dye]
theorem AlkV'.off(k:Nat)(f s:Nat→Int):offE x k f s=offE y k f s:=by simp only[offE,h.lamp,h.tn,h.b]
theorem AlkV'.mat(f s:Nat→Int)(ls:List Int):matE x f s ls=matE y f s ls:=by simp only[matE,h.off,h.t]
theorem AlkV'.matL(s:Nat→Int)(ls:List Int):matL x s ls=matL y s ls:=by
 rw[Go.Proofs.YtfelljbfeoplhaaGreat.matL,Go.Proofs.YtfelljbfeoplhaaGreat.matL,h.dl]
 congr 1
 funext t
 simp only[cndE,h.mat]
theorem AlkV'.few(s:Nat→Int)(ls:List Int):fewR x s ls=fewR y s ls:=by simp only[fewR,h.matL,h.dl]
theorem AlkV'.cor(t:List Int)(s:Nat→Int)(ls:List Int):corR x t s ls=corR y t s ls:=by
 have:corB x t s ls=corB y t s ls:=by funext q;simp only[corB,h.mat]
 simp only[corR,corO,this,h.dl]
theorem AlkV'.alk(k:Nat)(f g:Nat→Int):alkE x k f g=alkE y k f g:=by
 have:alkV x k f g=alkV y k f g:=by simp only[alkV,h.lamp,h.tn,h.b]
 rw[alkE,alkE,this,h.t]
theorem AlkV'.tel(T:List (List Int)):telR x T=telR y T:=by
 have h1:unN x T=unN y T:=by
  funext n
  have:unlP x n T=unlP y n T:=by funext j k;simp only[unlP,h.alk]
  simp only[unN,this]
 have h2:cT x T=cT y T:=by funext n;simp only[cT,h1]
 simp only[telR,h1,h2,h.ll]
theorem AlkV'.sha(lp:Nat)(T:List (List Int)):shaR x lp T=shaR y lp T:=by
 have:shdE x T lp=shdE y T lp:=by funext j k;simp only[shdE,h.lamp,h.tn,h.b]
 simp only[shaR,this]
theorem AlkV'.mos(ls:List Int)(T:List (List Int)):mosR x ls T=mosR y ls T:=by
 have:nrB x ls T=nrB y ls T:=by funext j k;simp only[nrB,h.alk]
 simp only[mosR,this]
theorem AlkV'.ok(hy:VOk y):VOk x:=by
 have key:∀{P:List Int→Prop} {X Y:List (Value×List Int)},X.map (·.2)=Y.map (·.2)→(∀p∈Y,P p.2)→∀p∈X,P p.2:=by
  intro P X Y he hP p hp;have:p.2∈X.map (·.2):=List.mem_map.2 ⟨p,hp,rfl⟩;rw[he]at this;obtain⟨q,hq,e⟩:=List.mem_map.1 this;rw[←e];exact hP q hq
 refine⟨by rw[h.b,h.t,h.d,h.l];exact hy.chk,by rw[h.b];exact hy.b1,by rw[h.b];exact hy.b3,by rw[h.dl];exact hy.d1,by rw[h.dl];exact hy.d4,?_,by rw[h.ll];exact hy.l1,by rw[h.ll];exact hy.l3,?_,by rw[h.t];exact hy.t0,by rw[h.t];exact hy.t12⟩
 ·rw[h.b];exact key (P:=fun l=>(l.length:Int)=y.B∧∀n∈l,0≤n∧n≤9) h.d hy.dl
 ·rw[h.b];exact key (P:=fun l=>(l.length:Int)=y.B∧∀n∈l,0≤n∧n≤3) h.l hy.ll
end
def vat0:Vm:=mkV 3 vatD vatL 1
theorem ZiJ:VOk vat0:=by
 refine⟨?_,?_,?_,?_,?_,?_,?_,?_,?_,?_,?_⟩<;>decide +kernel
theorem IsVat.alk{x:Vm}(h:IsVat x):AlkV' x vat0:=⟨h.b,h.t,by rw[h.d];rfl,by rw[h.l];rfl⟩
theorem ZiE:fewR vat0 (val [4,3,2]) [0,1]=([1,2,0,0],0):=by decide +kernel
theorem ZiG:offE vat0 1 (val [1,1,0,0]) (val [4,3,2])=6:=by decide +kernel
theorem ZiD:corR vat0 [0,0,0,1] (val [4,3,2]) [0,1]=([1,1,0,0],0):=by decide +kernel
theorem ZiI:telR vat0 Z0W=(1,5,0):=by decide +kernel
theorem ZiH:shaR vat0 1 Z0W=[1,2,3,0]:=by decide +kernel
theorem ZiF:mosR vat0 [1] Z0W=[2,3]:=by decide +kernel
section
variable{x:Vm}(h:IsVat x)
include h
theorem IsVat.ok:VOk x:=h.alk.ok ZiJ
theorem IsVat.smp:Z1z x [4,3,2]:=⟨by rw[h.b];rfl,by decide⟩
theorem IsVat.dl:x.D.length=4:=h.alk.dl
theorem IsVat.ll:x.L.length=2:=h.alk.ll
theorem IsVat.both:Z5F x [0,1]:=⟨by decide,by rw[ZbE,h.ll];decide,fun i h0 h1=>by rcases i with _ | _ | i;(· omega);(· decide);(· simp at h1;omega)⟩
theorem IsVat.one:Z5F x [1]:=⟨by decide,by rw[ZbE,h.ll];decide,fun i h0 h1=>by simp at h1;omega⟩
theorem IsVat.rcp(h1:l.length=4)(h2:∀n∈l,0≤n∧n≤6)(h3:1≤l.sum)(h4:l.sum≤6): RcpOk x l:=⟨by rw[h.dl];exact h1,h2,h3,h4⟩
theorem IsVat.cloths(hs:S.map (·.2)=Z0W): ∀p∈S,RcpOk x p.2:=by
 have key:∀l∈Z0W,l.length=4∧(∀n∈l,0≤n∧n≤6)∧1≤l.sum∧l.sum≤6:=by decide
 intro p hp;have hm:p.2∈Z0W:=by rw[←hs];exact List.mem_map.2 ⟨p,hp,rfl⟩
 obtain⟨h1,h2,h3,h4⟩:=key _ hm;exact h.rcp h1 h2 h3 h4
theorem IsVat.few:fewR x (val [4,3,2]) [0,1]=([1,2,0,0],0):=(h.alk.few _ _).trans ZiE
theorem IsVat.off:offE x 1 (val [1,1,0,0]) (val [4,3,2])=6:=(h.alk.off _ _ _).trans ZiG
theorem IsVat.cor:corR x [0,0,0,1] (val [4,3,2]) [0,1]=([1,1,0,0],0):=(h.alk.cor _ _ _).trans ZiD
theorem IsVat.tel:telR x Z0W=(1,5,0):=(h.alk.tel _).trans ZiI
theorem IsVat.sha:shaR x 1 Z0W=[1,2,3,0]:=(h.alk.sha _ _).trans ZiH
theorem IsVat.mos:mosR x [1] Z0W=[2,3]:=(h.alk.mos _ _).trans ZiF
end
theorem Z6W(hs:S.map (·.2)=Z0W): S.length=4:=by have:=congrArg List.length hs;simpa[Z0W] using this
section
variable{x:Vm}(h:IsVat x){w:World}(ha:x.At w)
include h ha
theorem Zjk{b: Option Addr}(hr:Z7 w (.slice a [(4:Int),3,2].length c) 1 ([(4:Int),3,2].map Z6))(hq:Z7 w (.slice b [(0:Int),1].length d) 1 ([(0:Int),1].map Z6)):
  Calls (Qy.prog μ) 54 #[.agg #[.int .i64 x.B,.slice x.da x.D.length x.dc,.slice x.la x.L.length x.lc,.int .i64 x.tol],.slice a 3 c,.slice b 2 d] w fun e w'=>∃a c,e = .returned (.tuple #[.slice a 4 c,.int .i64 0])∧Z7 w' (.slice a [(1:Int),2,0,0].length c) 1 ([(1:Int),2,0,0].map Z6)∧Ext [] w w':=by
 refine Calls.mono (ZbB x h.ok [4,3,2] h.smp [0,1] h.both (by decide) a b c d w ha hr hq) ?_;rintro e w' ⟨a,c,he,ho,hE⟩;rw[h.few]at he ho;exact⟨a,c,he,Zr ho rfl,hE⟩
theorem Zjm{b: Option Addr}(hr:Z7 w (.slice a [(1:Int),1,0,0].length c) 1 ([(1:Int),1,0,0].map Z6))(hq:Z7 w (.slice b [(4:Int),3,2].length d) 1 ([(4:Int),3,2].map Z6)):
  Calls (Qy.prog μ) 35 #[.agg #[.int .i64 x.B,.slice x.da x.D.length x.dc,.slice x.la x.L.length x.lc,.int .i64 x.tol],.int .i64 1,.slice a 4 c,.slice b 3 d] w fun e w'=>e = .returned (.tuple #[.int .i64 6,.int .i64 0])∧Ext [] w w':=by
 have:=ZiQ (μ:=μ) x h.ok 1 (by rw[h.ll];decide) [1,1,0,0] (h.rcp rfl (by decide) (by decide) (by decide)) [4,3,2] h.smp a b c d w ha hr hq;rw[h.off]at this;exact this
theorem Zjj{b k: Option Addr}{l: Nat}(hp:Z7 w (.slice a [(0:Int),0,0,1].length c) 1 ([(0:Int),0,0,1].map Z6))(hr:Z7 w (.slice b [(4:Int),3,2].length d) 1 ([(4:Int),3,2].map Z6))(hq:Z7 w (.slice k [(0:Int),1].length l) 1 ([(0:Int),1].map Z6)):
  Calls (Qy.prog μ) 56 #[.agg #[.int .i64 x.B,.slice x.da x.D.length x.dc,.slice x.la x.L.length x.lc,.int .i64 x.tol],.slice a 4 c,.slice b 3 d,.slice k 2 l] w fun e w'=>∃a c,e = .returned (.tuple #[.slice a 4 c,.int .i64 0])∧Z7 w' (.slice a [(1:Int),1,0,0].length c) 1 ([(1:Int),1,0,0].map Z6)∧Ext [] w w':=by
 refine Calls.mono (Z9s x h.ok [0,0,0,1] (h.rcp rfl (by decide) (by decide) (by decide)) [4,3,2] h.smp [0,1] h.both (by decide) a b k c d l w ha hp hr hq) ?_;rintro e w' ⟨a,c,he,ho,hE⟩;rw[h.cor]at he ho;exact⟨a,c,he,Zr ho rfl,hE⟩
theorem Zjo(hs:S.map (·.2)=Z0W)(hl:Z0x w a S):
  Calls (Qy.prog μ) 49 #[.agg #[.int .i64 x.B,.slice x.da x.D.length x.dc,.slice x.la x.L.length x.lc,.int .i64 x.tol],.slice a S.length c] w fun e w'=>e = .returned (.tuple #[.int .i64 1,.int .i64 5,.int .i64 0])∧Ext [] w w':=by
 have:=Z9t (μ:=μ) x h.ok S (h.cloths hs) (by rw[Z6W hs];decide) a c w ha hl;rw[hs,h.tel]at this;exact this
theorem Zjn(hs:S.map (·.2)=Z0W)(hl:Z0x w a S):
  Calls (Qy.prog μ) 41 #[.agg #[.int .i64 x.B,.slice x.da x.D.length x.dc,.slice x.la x.L.length x.lc,.int .i64 x.tol],.int .i64 1,.slice a S.length c] w fun e w'=>∃a c,e = .returned (.tuple #[.slice a 4 c,.int .i64 0])∧Z7 w' (.slice a [(1:Int),2,3,0].length c) 1 ([(1:Int),2,3,0].map Z6)∧Ext [] w w':=by
 refine Calls.mono (ZbC x h.ok 1 (by rw[h.ll];decide) S (h.cloths hs) (by rw[Z6W hs];decide) a c w ha hl) ?_;rintro e w' ⟨a,c,he,ho,hE⟩;rw[hs,h.sha]at he ho;exact⟨a,c,he,Zr ho rfl,hE⟩
theorem Zjl{b: Option Addr}(hs:S.map (·.2)=Z0W)(hl:Z0x w a S)(hq:Z7 w (.slice b [(1:Int)].length d) 1 ([(1:Int)].map Z6)):
  Calls (Qy.prog μ) 22 #[.agg #[.int .i64 x.B,.slice x.da x.D.length x.dc,.slice x.la x.L.length x.lc,.int .i64 x.tol],.slice a S.length c,.slice b 1 d] w fun e w'=>∃a c,e = .returned (.tuple #[.slice a 2 c,.int .i64 0])∧Z7 w' (.slice a [(2:Int),3].length c) 1 ([(2:Int),3].map Z6)∧Ext [] w w':=by
 refine Calls.mono (ZfT x h.ok S (h.cloths hs) (by rw[Z6W hs];decide) [1] h.one (by decide) a b c d w ha hl hq) ?_;rintro e w' ⟨a,c,he,ho,hE⟩;rw[hs,h.mos]at he ho;exact⟨a,c,he,Zr ho rfl,hE⟩
end
variable{μ:Nat}
theorem Z3j(w:World):Calls (Qy.prog μ) 19 #[] w fun e w'=>e = .returned (.bool true)∧Ext [] w w':=by
 have E:Ext [] w w:=Ext.refl _ _;have G:=(Bk.nil w).ce E;refine(ent 110 Tryz.f19 rfl) fun F=>wR fun k1=>(F.m) fun F=>k1<|wR fun k2=>(F.k (Z42 _)) ?_
 rintro _ w1 ⟨x1,rfl,hx1,ha1,e9⟩;refine⟨_,rfl,fun F=>?_⟩;replace G:=(G.ex e9).hr [];refine(F.k (Z9f _)) ?_;rintro _ w2 ⟨s1,rfl,hs1,e9⟩;refine⟨_,rfl,fun F=>?_⟩;replace G:=(G.ex e9).hr [];refine(F.bs G 1 #[.int .i64 0,.int .i64 1] Qy.zeroValue3) fun yy F G=>(F.k (Zjk hx1 (ha1.ext (G.e 2)) (hs1.ext (G.e 1) (by simp)) (ZP [0,1] 2 (G.q 0)))) ?_;rintro _ w4 ⟨r1,k1,rfl,hr1,e9⟩;refine⟨_,rfl,fun F=>?_⟩;replace G:=(G.ex e9).hr [];refine(F.m) fun F=>(F.y F.xt) fun F=>(F.y F.xt) fun F=>(F.m) fun F=>(F.m) fun F=>k2<|wR fun k3=>(F.k (Z42 _)) ?_
 rintro _ w5 ⟨x2,rfl,hx2,ha2,e9⟩;refine⟨_,rfl,fun F=>?_⟩;replace G:=(G.ex e9).hr [];refine(F.bs G 1 #[.int .i64 1,.int .i64 1,.int .i64 0,.int .i64 0] Qy.zeroValue3) fun yy F G=>(F.k (Z9f _)) ?_;rintro _ w7 ⟨s2,rfl,hs2,e9⟩;refine⟨_,rfl,fun F=>?_⟩;replace G:=(G.ex e9).hr [];refine(F.k0 G (Zjm hx2 (ha2.ext (G.e 2)) (ZP [1,1,0,0] 4 (G.q 1)) (hs2.ext (G.e 0) (by simp)))) fun F G=>(F.m) fun F=>(F.y F.xt) fun F=>(F.y F.xt) fun F=>(F.m) fun F=>(F.m) fun F=>k3<|wR fun k4=>(F.k (Z42 _)) ?_
 rintro _ w9 ⟨x3,rfl,hx3,ha3,e9⟩;refine⟨_,rfl,fun F=>?_⟩;replace G:=(G.ex e9).hr [];refine(F.bs G 1 #[.int .i64 0,.int .i64 0,.int .i64 0,.int .i64 1] Qy.zeroValue3) fun yy F G=>(F.k (Z9f _)) ?_;rintro _ w11 ⟨s3,rfl,hs3,e9⟩;refine⟨_,rfl,fun F=>?_⟩;replace G:=(G.ex e9).hr [];refine(F.bs G 1 #[.int .i64 0,.int .i64 1] Qy.zeroValue3) fun yy F G=>(F.k (Zjj hx3 (ha3.ext (G.e 3)) (ZP [0,0,0,1] 4 (G.q 2)) (hs3.ext (G.e 1) (by simp)) (ZP [0,1] 2 (G.q 0)))) ?_;rintro _ w13 ⟨r3,k3,rfl,hr3,e9⟩;refine⟨_,rfl,fun F=>?_⟩;replace G:=(G.ex e9).hr [];refine(F.m) fun F=>(F.y F.xt) fun F=>(F.y F.xt) fun F=>(F.m) fun F=>(F.m) fun F=>k4<|wQ fun k5=>?_
 replace G:=G.b [0,1,3,6,8,9,12];refine Yg<|(F.k (Z42 _)) ?_
 rintro _ w14 ⟨x4,rfl,hx4,ha4,e9⟩;refine⟨_,rfl,fun F=>?_⟩;replace G:=(G.ex e9).hr [];refine(F.k (Z3R _)) ?_;rintro _ w15 ⟨c4,S4,rfl,hS4,hl4,e9⟩;refine⟨_,rfl,fun F=>?_⟩;replace G:=G.ex e9;refine(F.k0 G (Zjo hx4 (ha4.ext (G.e 0)) hS4 hl4)) fun F G=>(F.m) fun F=>(F.y F.xt) fun F=>(F.y F.xt) fun F=>(F.y F.xt) fun F=>(F.m) fun F=>(F.m) fun F=>(F.m) fun F=>k5<|wR fun k6=>(F.k (Z42 _)) ?_
 rintro _ w17 ⟨x5,rfl,hx5,ha5,e9⟩;refine⟨_,rfl,fun F=>?_⟩;replace G:=(G.ex e9).hr [];refine(F.k (Z3R _)) ?_;rintro _ w18 ⟨c5,S5,rfl,hS5,hl5,e9⟩;refine⟨_,rfl,fun F=>?_⟩;replace G:=G.ex e9;refine(F.k (Zjn hx5 (ha5.ext (G.e 0)) hS5 hl5)) ?_;rintro _ w19 ⟨r5,k5,rfl,hr5,e9⟩;refine⟨_,rfl,fun F=>?_⟩;replace G:=(G.ex e9).hr [];refine(F.m) fun F=>(F.y F.xt) fun F=>(F.y F.xt) fun F=>(F.m) fun F=>(F.m) fun F=>k6<|wR fun k7=>(F.k (Z42 _)) ?_
 rintro _ w20 ⟨x6,rfl,hx6,ha6,e9⟩;refine⟨_,rfl,fun F=>?_⟩;replace G:=(G.ex e9).hr [];refine(F.k (Z3R _)) ?_;rintro _ w21 ⟨c6,S6,rfl,hS6,hl6,e9⟩;refine⟨_,rfl,fun F=>?_⟩;replace G:=(G.ex e9).hr [];refine(F.bs G 1 #[.int .i64 1] Qy.zeroValue3) fun yy F G=>(F.k (Zjl hx6 (ha6.ext (G.e 2)) hS6 (hl6.ext (G.e 1)) (ZP [1] 1 (G.q 0)))) ?_;rintro _ w23 ⟨r6,k6,rfl,hr6,e9⟩;refine⟨_,rfl,fun F=>?_⟩;replace G:=(G.ex e9).hr [];refine(F.m) fun F=>(F.y F.xt) fun F=>(F.y F.xt) fun F=>(F.m) fun F=>(F.m) fun F=>k7<|wQ fun k8=>?_
 replace G:=G.b [0,1,4,7,8,9,10,11,12,13];refine Yg<|(F.m) fun F=>(F.y F.eqT) fun F=>(F.m) fun F=>(F.m) fun F=>(F.y F.eqT) fun F=>(F.y F.pT) fun F=>(F.m) fun F=>(F.m) fun F=>(F.y F.eqT) fun F=>(F.y F.pT) fun F=>(F.m) fun F=>(F.m) fun F=>(F.y F.eqT) fun F=>(F.y F.pT) fun F=>?_
 refine(F.m) fun F=>(F.m) fun F=>(F.y F.eqT) fun F=>(F.y F.pT) fun F=>(F.m) fun F=>(F.m) fun F=>(F.y F.eqT) fun F=>(F.y F.pT) fun F=>(F.m) fun F=>(F.m) fun F=>(F.y F.eqT) fun F=>(F.y F.pT) fun F=>(F.m) fun F=>(F.m) fun F=>?_;refine(F.y F.eqT) fun F=>(F.y F.pT) fun F=>(F.m) fun F=>(F.m) fun F=>(F.y F.eqT) fun F=>(F.y F.pT) fun F=>(F.m) fun F=>(F.m) fun F=>(F.bs G 1 #[.int .i64 1,.int .i64 2,.int .i64 0,.int .i64 0] Qy.zeroValue3) @fun n92 w24 _ yy F G=>(F.k0 G (Z0C [1,2,0,0] [1,2,0,0] r1 (some ⟨n92,0,none⟩) k1 4 _ (hr1.ext (G.e 8) (by simp)) (ZP [1,2,0,0] 4 (G.q 0)) (by decide) (by decide))) fun F G=>(F.y F.pT) fun F=>?_;refine(F.m) fun F=>(F.m) fun F=>(F.bs G 1 #[.int .i64 1,.int .i64 1,.int .i64 0,.int .i64 0] Qy.zeroValue3) @fun n97 w26 _ yy F G=>(F.k0 G (Z0C [1,1,0,0] [1,1,0,0] r3 (some ⟨n97,0,none⟩) k3 4 _ (hr3.ext (G.e 5) (by simp)) (ZP [1,1,0,0] 4 (G.q 0)) (by decide) (by decide))) fun F G=>(F.y F.pT) fun F=>(F.m) fun F=>(F.m) fun F=>(F.bs G 1 #[.int .i64 1,.int .i64 2,.int .i64 3,.int .i64 0] Qy.zeroValue3) @fun n102 w28 _ yy F G=>(F.k0 G (Z0C [1,2,3,0] [1,2,3,0] r5 (some ⟨n102,0,none⟩) k5 4 _ (hr5.ext (G.e 5) (by simp)) (ZP [1,2,3,0] 4 (G.q 0)) (by decide) (by decide))) fun F G=>?_;refine(F.y F.pT) fun F=>(F.m) fun F=>(F.m) fun F=>(F.bs G 1 #[.int .i64 2,.int .i64 3] Qy.zeroValue3) @fun n107 w30 _ yy F G=>(F.k0 G (Z0C [2,3] [2,3] r6 (some ⟨n107,0,none⟩) k6 2 _ (hr6.ext (G.e 4) (by simp)) (ZP [2,3] 2 (G.q 0)) (by decide) (by decide))) fun F G=>(F.y F.pT) fun F=>(F.m) fun F=>k8<|(F.r1) ?_
 exact⟨rfl,(G.e 13)⟩
variable{μ:Nat}
theorem Z5v(w0 w:World)(b k:Nat)(nv:Value)(many:Nat)(most:Int)(h:Zh w0 w b k nv)(hk:k≤900000)(hm:many≤1000)(h0:0≤most)(h1:most≤1000):
  Calls (Qy.prog μ) 61 #[.pointer (some ⟨b,0,none⟩),.int .i64 ((many:Nat):Int),.int .i64 most] w fun e w'=>∃(a:Option Addr) (c:Nat) (xs:List Int),e = .returned (.slice a many c)∧xs.length=many∧(∀n∈xs,0≤n∧n≤most)∧w'.ownsRow w.heap.size 3 1 (.slice a many c) many (ivs xs)∧Zh w0 w' b (k+1+2*many) nv∧Ext [b] w w':=by
 have HL:=h;have hbw:=Z1r HL;have hws:w0.heap.size≤w.heap.size:=HL.2.2.1.size;have E:Ext [b] w w:=Ext.refl _ _;have oo:w.ownsRow w.heap.size 3 1 (.slice none 0 0) 0 (ivs []):=World.ownsRow_nil _ _ _ _;clear h;have G:=((Bk.nil w).cl HL).ce E;replace G:=G.co oo;refine(ent 33 Tryz.f61 rfl) fun F=>wR fun k1=>(F.m) fun F=>k1<|wR fun k2=>(F.m) fun F=>k2<|wR fun k3=>(F.m) fun F=>(F.k (Z7b w0 _ b _ nv 2 (G.l 2) (by omega) (by omega) (by omega))) ?_
 rintro _ w1 ⟨r,rfl,HL,e9⟩;refine⟨_,rfl,fun F=>?_⟩;replace G:=G.xl 2 e9 HL;refine(F.m) fun F=>k3<|wQ fun k4=>wR fun k5=>(F.m) fun F=>k5<|Yh ?_
 replace G:=G.rL 2 (show Zh w0 w1 b (k+1+2*0) nv from Zp (G.l 2) (by omega));refine lpB (F.b [0,1,2,8]) (G.b [1]) (many) (fun i Lv Sv W=>∃va:Option Addr,∃vc:Nat,∃xs:List Int,Lv=[(7,.slice va i vc),(9,.int .i64 ((i:Nat):Int))]∧Sv=[.l w0 b (k+1+2*i) nv]∧W.ownsRow w.heap.size 3 1 (.slice va i vc) i (ivs xs)∧xs.length=i∧∀n∈xs,0≤n∧n≤most) ⟨_,_,F.u,G.u,none,0,[],rfl,rfl,(G.o 0),rfl,(by simp)⟩ ?_;clear F G;rintro i _ w2 _ _ hi1 ⟨va,vc,xs,rfl,rfl,oo,hxl,hxb⟩ F G;replace G:=(G.z).co oo;refine wQ fun k6=>wR fun k7=>(F.m) fun F=>(F.m) fun F=>(F.y F.ls) fun F=>k7<|F.ci (fun hc14=>?_) (fun hc14=>?_)
 ·refine Yi<|k6<|wQ fun k8=>Yh<|wR fun k9=>(F.m) fun F=>(F.m) fun F=>?_
  cases hg1:r
  ·replace F:=F.re (k:=18) rfl (congrArg Value.bool hg1)
   refine(F.n) fun F=>(F.n) fun F=>(F.n) fun F=>(F.y F.pF) fun F=>k9<|(F.cF)<|Yg<|(F.m) fun F=>(F.m) fun F=>(F.m) fun F=>(F.k (Z0w w0 _ b _ nv most (G.l 1) (by omega) (by omega) (by omega))) ?_
   rintro _ w3 ⟨u,rfl,hu0,hu1,HL,e9⟩;refine⟨_,rfl,fun F=>?_⟩;replace G:=G.xl 1 e9 HL;refine(F.bs G 1 #[.int .i64 u] Qy.zeroValue3) fun yy F G=>?_;have hzE:=(G.e 3).size;refine ZK F rfl (by decide) (F.want rfl) (ZU rfl (w.heap.size) (e:=3) (size:=1) (bytes:=8) Qy.underlying22 (by kernel_rfl) (by decide) (F.at rfl) (G.o 1) (F.at rfl) (G.q 0) rfl (by simp[Value.oneCell']) (by omega) (by omega) (by omega)) ?_;clear F;rintro _ v' w5 F ⟨hown',hg⟩;obtain⟨va31,vc31,rfl⟩:=Zm hown';replace G:=(G.d 0).gr 0 hg hown';clear hg hown';have oo:=G.o 0;rw[Z11]at oo;have hx2:(xs++[u]).length=i+1:=by rw[Ym,hxl];rfl
   have hx3:∀n∈xs++[u],0≤n∧n≤most:=by intro n hn;rcases List.mem_append.1 hn with hn | hn;(· exact hxb n hn);(· simp at hn;subst hn;omega)
   replace G:=G.rO 0 oo;clear oo;refine(F.m) fun F=>k8<|Yg<|(F.m) fun F=>(F.y F.ad) fun F=>(F.m) fun F=>?_
   replace G:=G.rL 1 (show Zh w0 w5 b (k+1+2*(i+1)) nv from Zp (G.l 1) (by omega));show _∧_;exact⟨by omega,_,_,F.u,G.u,_,_,_,rfl,rfl,(G.o 0),hx2,hx3⟩
  ·replace F:=F.re (k:=18) rfl (congrArg Value.bool hg1)
   refine(F.m) fun F=>(F.k (Z7b w0 _ b _ nv 2 (G.l 1) (by omega) (by omega) (by omega))) ?_;rintro _ w6 ⟨r2,rfl,HL,e9⟩;refine⟨_,rfl,fun F=>?_⟩;replace G:=G.xl 1 e9 HL;refine(F.y F.nb) fun F=>(F.y F.pT) fun F=>k9<|F.cb (fun hc22=>?_) (fun hc22=>?_)
   ·refine Yg<|(F.m) fun F=>(F.bs G 1 #[.int .i64 0] Qy.zeroValue3) fun yy F G=>?_
    have hzE:=(G.e 3).size;refine ZK F rfl (by decide) (F.want rfl) (ZU rfl (w.heap.size) (e:=3) (size:=1) (bytes:=8) Qy.underlying22 (by kernel_rfl) (by decide) (F.at rfl) (G.o 1) (F.at rfl) (G.q 0) rfl (by simp[Value.oneCell']) (by omega) (by omega) (by omega)) ?_;clear F;rintro _ v' w8 F ⟨hown',hg⟩;obtain⟨va25,vc25,rfl⟩:=Zm hown';replace G:=(G.d 0).gr 0 hg hown';clear hg hown';have oo:=G.o 0;rw[Z11]at oo;have hx2:(xs++[(0:Int)]).length=i+1:=by rw[Ym,hxl];rfl
    have hx3:∀n∈xs++[(0:Int)],0≤n∧n≤most:=by intro n hn;rcases List.mem_append.1 hn with hn | hn;(· exact hxb n hn);(· simp at hn;omega)
    replace G:=G.rO 0 oo;clear oo;refine(F.m) fun F=>k8<|Yg<|(F.m) fun F=>(F.y F.ad) fun F=>(F.m) fun F=>?_
    replace G:=G.rL 1 (show Zh w0 w8 b (k+1+2*(i+1)) nv from Zp (G.l 1) (by omega));show _∧_;exact⟨by omega,_,_,F.u,G.u,_,_,_,rfl,rfl,(G.o 0),hx2,hx3⟩
   ·refine Yg<|(F.m) fun F=>(F.m) fun F=>(F.m) fun F=>(F.k (Z0w w0 _ b _ nv most (G.l 1) (by omega) (by omega) (by omega))) ?_
    rintro _ w9 ⟨u,rfl,hu0,hu1,HL,e9⟩;refine⟨_,rfl,fun F=>?_⟩;replace G:=G.xl 1 e9 HL;refine(F.bs G 1 #[.int .i64 u] Qy.zeroValue3) fun yy F G=>?_;have hzE:=(G.e 3).size;refine ZK F rfl (by decide) (F.want rfl) (ZU rfl (w.heap.size) (e:=3) (size:=1) (bytes:=8) Qy.underlying22 (by kernel_rfl) (by decide) (F.at rfl) (G.o 1) (F.at rfl) (G.q 0) rfl (by simp[Value.oneCell']) (by omega) (by omega) (by omega)) ?_;clear F;rintro _ v' w11 F ⟨hown',hg⟩;obtain⟨va31,vc31,rfl⟩:=Zm hown';replace G:=(G.d 0).gr 0 hg hown';clear hg hown';have oo:=G.o 0;rw[Z11]at oo;have hx2:(xs++[u]).length=i+1:=by rw[Ym,hxl];rfl
    have hx3:∀n∈xs++[u],0≤n∧n≤most:=by intro n hn;rcases List.mem_append.1 hn with hn | hn;(· exact hxb n hn);(· simp at hn;subst hn;omega)
    replace G:=G.rO 0 oo;clear oo;refine(F.m) fun F=>k8<|Yg<|(F.m) fun F=>(F.y F.ad) fun F=>(F.m) fun F=>?_
    replace G:=G.rL 1 (show Zh w0 w11 b (k+1+2*(i+1)) nv from Zp (G.l 1) (by omega));show _∧_;exact⟨by omega,_,_,F.u,G.u,_,_,_,rfl,rfl,(G.o 0),hx2,hx3⟩
 ·refine wp_exit<|k4<|wR fun k10=>(F.m) fun F=>(F.m) fun F=>k10<|(F.r1) ?_
  have hi:=show i=many by omega
  subst hi;have oo:=G.o 0;exact⟨va,vc,xs,rfl,hxl,hxb,oo,(G.l 1),(G.e 2)⟩
theorem ZeP(M:List (Value×List Int))(xs:List Int)(a b:Option Addr)(c d:Nat)(w:World)(h:Z0x w a M)(hx:Z7 w (.slice b xs.length d) 1 (xs.map Z6))(hm:M.length≤1000)(hs:∀p∈M,p.2.length≤1000)(hl:xs.length≤1000):
  Calls (Qy.prog μ) 62 #[.slice a M.length c,.slice b xs.length d] w fun e w'=>e = .returned (.bool (decide (xs∈M.map (·.2))))∧Ext [] w w':=by
 have E:Ext [] w w:=Ext.refl _ _;have HL:=Lib.hid h;have HS:=Lib.hid h.1;have HX:=Lib.hid hx;have Hs:=Lib.hid hs;clear h hx hs;have G:=(Bk.nil w).ce E;refine(ent 18 Tryz.f62 rfl) fun F=>wR fun k1=>(F.m) fun F=>k1<|wQ fun k2=>wR fun k3=>(F.m) fun F=>k3<|Yh<|lpB (F.b [0,1]) G (M.length) (fun i Lv Sv W=>Lv=[(5,.int .i64 ((i:Nat):Int))]∧Sv=[]∧∀j,j<i→(M.getD j (.bool true,[])).2≠xs) ⟨_,_,F.u,G.u,rfl,rfl,(fun j h=>by omega)⟩ ?_
 clear F G;rintro i _ w1 _ _ hi1 ⟨rfl,rfl,hno⟩ F G;replace G:=G.z;refine wQ fun k4=>wR fun k5=>(F.m) fun F=>(F.m) fun F=>(F.y F.ln) fun F=>(F.y F.ls) fun F=>k5<|F.ci (fun hc9=>?_) (fun hc9=>?_)
 ·refine Yi<|k4<|wQ fun k6=>Yh<|wQ fun k7=>?_
  obtain⟨la,lca,hla,hlr⟩:=HL.out.2 _ (Z8 (.bool true,[]) (show i<M.length by omega));have hsz:=Hs.out _ (Z8 (.bool true,[]) (show i<M.length by omega));refine Yg<|(F.m) fun F=>(F.m) fun F=>(F.ix HS.out i) fun xr8 F=>(F.y (F.l1 (xr8 _ (G.e 0)) 0)) fun F=>?_
  rw[hla]at F;refine(F.m) fun F=>(F.k0 G (Z0C (M.getD i (.bool true,[])).2 xs la b lca d _ (hlr.ext (G.e 0) (by simp)) (HX.out.ext (G.e 0) (by simp)) (by omega) (by omega))) fun F G=>k7<|F.ci (fun hc17=>?_) (fun hc17=>?_)
  ·refine wR fun k9=>(F.m) fun F=>k9<|(F.r1) ?_
   exact⟨Z0K (by rw[decide_eq_true];exact List.mem_map.2 ⟨_,Z8 (.bool true,[]) (show i<M.length by omega),by simpa using hc17⟩),(G.e 0)⟩
  ·refine Yi<|k6<|Yg<|(F.m) fun F=>(F.y F.ad) fun F=>(F.m) fun F=>?_
   show _∧_;exact⟨by omega,_,_,F.u,G.u,rfl,rfl,(fun j h=>by rcases Nat.lt_succ_iff_lt_or_eq.1 h with h | rfl;(· exact hno j h);(· exact hc17))⟩
 ·refine wp_exit<|k2<|wR fun k10=>(F.m) fun F=>k10<|(F.r1) ?_
  exact⟨Z0K (by rw[decide_eq_false];intro hm;obtain⟨p,hp,he⟩:=List.mem_map.1 hm;obtain⟨j,hj,rfl⟩:=List.getElem_of_mem hp;have:=hno j (by omega);simp[hj]at this;exact this he),(G.e 0)⟩
variable{μ:Nat}
theorem Zkw(h:∀n∈l,0≤n∧n≤6): 0≤l.sum∧l.sum≤6*l.length:=by
 induction l with
 | nil=>simp
 | cons a l ih =>
  have h1:=h a (by simp);have h2:=ih fun n hn=>h n (by simp[hn]);simp only[List.sum_cons,List.length_cons];omega
theorem Z9l(h:∀n∈l,0≤n∧n≤6)(i:Nat): 0≤(l.take i).sum∧(l.take i).sum≤6*l.length:=by
 have:=Zkw (l:=l.take i) fun n hn=>h n (List.mem_of_mem_take hn);have h2:=List.length_take_le i l;rw[List.length_take]at this;omega
theorem ZdY(x:Vm)(hv:VOk x)(bn:Nat)(hbn:x.B=bn)(l:List Int)(hl:l.length=x.D.length)(hb:∀n∈l,0≤n∧n≤6)(a:Option Addr)(c:Nat)(w:World)(h:x.At w)(hr:Z7 w (.slice a l.length c) 1 (l.map Z6)):
  Calls (Qy.prog μ) 17 #[.agg #[.int .i64 x.B,.slice x.da x.D.length x.dc,.slice x.la x.L.length x.lc,.int .i64 x.tol],.slice a l.length c] w fun e w'=>∃a,e = .returned (.tuple #[.slice a bn bn,.int .i64 l.sum])∧w'.ownsRow w.heap.size 3 1 (.slice a bn bn) bn (ivs (sumL x (val l) bn))∧Ext [] w w':=by
 have E:Ext [] w w:=Ext.refl _ _;have HX:=Lib.hid h;have HV:=Lib.hid hv;have HSR:=Lib.hid (Za hr 0);have HB:=Lib.hid hb;have HD:=Lib.hid h.d.1;have hb1:=hv.b1;have hb3:=hv.b3;have hd4:=hv.d4;have HF:RowKit.Hid (TubS (val l)):=Lib.hid (fun k _=>Z8t hb (by omega) (by omega) k);clear h hv hr hb;have G:=(Bk.nil w).ce E;refine(ent 54 Tryz.f17 rfl) fun F=>wR fun k1=>(F.bx G) @fun n2 w1 _ yy F G=>(F.m) fun F=>(F.m) fun F=>k1<|wR fun k2=>(F.y (F.fd 0)) fun F=>(F.y (F.lc (G.q 0))) fun F=>?_
 rw[hbn]at F;have hEs:=(G.e 1).size;refine ZK F rfl (by decide) (F.want rfl) (Z4x rfl (w.heap.size) (e:=3) (bytes:=8) (z:=.int .i64 0) Qy.underlying22 (by kernel_rfl) rfl (F.at rfl) (F.at rfl) (n:=bn) (by omega) (by decide) (by omega)) ?_;clear F;rintro _ v' w2 F ⟨oo,hg,rfl⟩;obtain⟨n12,hn⟩:=eQ w1.heap.size;rw[←hn]at F oo;have s12:=G.lt hn;replace G:=G.gn hg;clear hg hn;replace G:=G.co oo;have oo:=G.o 0;rw[←Z8s x (val l) bn]at oo;replace G:=G.rO 0 oo;clear oo;refine(F.m) fun F=>(F.m) fun F=>?_;rw[show (0:Int)=(l.take 0).sum from rfl]at F;refine k2<|wQ fun k3=>wR fun k4=>(F.m) fun F=>k4<|Yh<|lpB (F.b [1,2,6]) (G.b [1,2]) (l.length) (fun d Lv Sv W=>Lv=[(7,.int .i64 ((l.take d).sum)),(8,.int .i64 ((d:Nat):Int))]∧Sv=[]∧W.ownsRow w.heap.size 3 1 (.slice (some ⟨n12,0,none⟩) bn bn) bn (ivs (sumR x (val l) bn d 0))) ⟨_,_,F.u,G.u,rfl,rfl,(G.o 0)⟩ ?_
 clear F G;rintro d _ w3 _ _ hi1 ⟨rfl,rfl,oo⟩ F G;replace G:=(G.z).co oo;refine wQ fun k5=>wR fun k6=>(F.m) fun F=>(F.m) fun F=>(F.y F.ln) fun F=>(F.y F.ls) fun F=>k6<|F.ci (fun hc16=>?_) (fun hc16=>?_)
 ·refine Yi<|k5<|wQ fun k7=>Yh<|wQ fun k8=>wR fun k9=>(F.m) fun F=>k9<|Yh<|lpB (F.b [1,2,6,7,8]) (G.b [1,2]) (bn) (fun i Lv Sv W=>Lv=[(9,.int .i64 ((i:Nat):Int))]∧Sv=[]∧W.ownsRow w.heap.size 3 1 (.slice (some ⟨n12,0,none⟩) bn bn) bn (ivs (sumR x (val l) bn d i))) ⟨_,_,F.u,G.u,rfl,rfl,(G.o 0)⟩ ?_
  clear F G;rintro i _ w4 _ _ hi2 ⟨rfl,rfl,oo⟩ F G;replace G:=(G.z).co oo;refine wQ fun k10=>wR fun k11=>(F.m) fun F=>(F.y (F.fd 0)) fun F=>(F.y (F.lc (G.q 1))) fun F=>?_;rw[hbn]at F;refine(F.y F.ls) fun F=>k11<|F.ci (fun hc22=>?_) (fun hc22=>?_)
  ·refine Yi<|k10<|wQ fun k12=>Yh ?_
   obtain⟨la,lca,hla,hlr⟩:=HX.out.d.2 _ (Z8 (.bool true,[]) (show d<x.D.length by omega));have hlen:=(HV.out.dl _ (Z8 (.bool true,[]) (show d<x.D.length by omega))).1;have hlb:(x.D.getD d (.bool true,[])).2.length=bn:=by omega
   have HLR:=Lib.hid (Za hlr 0);have hml:=Zaw x (val l) bn d i;have hmk:=Zav x (val l) d (show i<bn by omega);have hst:=Zax x (val l) d (show i<bn by omega);have oo:=G.o 0;have HS:=Lib.hid (ZJ oo hml.symm [] (by simp));have hil:=Z1j (sumR x (val l) bn d i);obtain⟨hf0,hf1⟩:=HF.out d (by omega);obtain⟨hg0,hg1⟩:=Zcm HV.out (show d<x.D.length by omega) i;simp only[val,Vm.dye]at hg0 hg1 hf0 hf1;obtain⟨hp0,hp1⟩:=Zda hf0 (by omega) hg0 (by omega);obtain⟨ht0,ht1⟩:=Z7y HV.out HF.out i (show d≤x.D.length by omega);replace G:=G.hr [];refine(wX 21 G) fun G=>(F.sm) fun F=>(F.sm) fun F=>(F.sm) fun F=>(F.sm) fun F=>?_;obtain⟨xb13,xo13,xa13,xr13⟩:=HS.out i (by omega);refine(F.s (F.is 1 xa13)) fun F=>(F.s (F.l1 (xr13 _ (G.e 0)) 0)) fun F=>(F.sm) fun F=>(F.sm) fun F=>?_;obtain⟨xb14,xo14,xa14,xr14⟩:=HSR.out d (by omega);refine(F.s (F.is 1 xa14)) fun F=>(F.s (F.l1 (xr14 _ (G.e 3)) 0)) fun F=>(F.s (F.fd 1)) fun F=>(F.s (F.lc (G.q 2))) fun F=>(F.sm) fun F=>?_;obtain⟨xb15,xo15,xa15,xr15⟩:=HD.out d (by omega);refine(F.s (F.is 1 xa15)) fun F=>(F.s (F.l1 (xr15 _ (G.e 3)) 0)) fun F=>?_;rw[hla]at F;refine(F.sm) fun F=>?_;obtain⟨xb16,xo16,xa16,xr16⟩:=HLR.out i (by omega);refine(F.s (F.is 1 xa16)) fun F=>(F.s (F.l1 (xr16 _ (G.e 3)) 0)) fun F=>(F.s F.ml) fun F=>(F.s F.ad) fun F=>?_;obtain⟨xb17,xo17,xa17,xr17⟩:=HS.out i (by omega);refine(F.s (F.is 1 xa17)) fun F=>wpStill_nil ?_;replace G:=G.d 0;obtain⟨⟨u0,hcu⟩,hfu,hst⟩:=Z2l (G.o 0) xa17 (j:=i) (p:=xo17+((i:Nat):Int).toNat*1) (by first | omega | (simp;omega)) (by omega);refine Z0N rfl (F.want rfl) (ZN rfl (F.at rfl) (F.at rfl) rfl (by kernel_rfl) hcu hfu) ?_;intro w6 hw;obtain⟨hown',hg⟩:=hst _ _ hw;replace G:=G.gr 0 hg hown';clear hst hcu hfu hw hg hown';have oo:=G.o 0;rw[Z1k,hmk,show tonE x (val l) i d+l.getD d 0*(x.D.getD d (.bool true,[])).2.getD i 0=tonE x (val l) i (d+1) from rfl,hst]at oo;replace G:=G.rO 0 oo;clear oo;refine k12<|Yg<|(F.m) fun F=>(F.y F.ad) fun F=>(F.m) fun F=>?_
   show _∧_;exact⟨by omega,_,_,F.u,G.u,rfl,rfl,(G.o 0)⟩
  ·refine wp_exit ?_
   have oo:=G.o 0;rw[show i=bn by omega,Z8r]at oo;replace G:=G.rO 0 oo;clear oo;refine k8 ?_;have hsb:=Z9l HB.out d;have hnb:=HB.out _ (Z8 0 (show d<l.length by omega));refine Yg<|(F.m) fun F=>(F.m) fun F=>(F.m) fun F=>(F.ix HSR.out d) fun xr18 F=>(F.y (F.l1 (xr18 _ (G.e 2)) 0)) fun F=>(F.y F.ad) fun F=>?_
   rw[←Z1o l (by omega)]at F;refine(F.m) fun F=>k7<|Yg<|(F.m) fun F=>(F.y F.ad) fun F=>(F.m) fun F=>?_
   show _∧_;exact⟨by omega,_,_,F.u,G.u,rfl,rfl,(G.o 0)⟩
 ·refine wp_exit ?_
  have oo:=G.o 0;rw[show d=x.D.length by omega,Zau]at oo;rw[List.take_of_length_le (show l.length≤d by omega)]at F;replace G:=G.rO 0 oo;clear oo;refine k3<|wR fun k19=>(F.m) fun F=>(F.m) fun F=>(F.m) fun F=>(F.m) fun F=>k19<|(F.r2) ?_
  have oo:=G.o 0;exact⟨_,rfl,oo,(G.e 2)⟩
variable{μ:Nat}
def cnt(n:Nat)(β:Nat→Bool)(i:Nat):Nat:=(((List.range n).take i).filter β).length
theorem Z50(n:Nat)(β:Nat→Bool):(Z0r n β).length≤n:=by
 have:=List.length_filter_le β (List.range n);simp only[Z0r,Yj];simpa using this
theorem Z4Y{y:Value}(h:IntR base w l y): ∃a c,y = .slice a l.length c∧Z7 w (.slice a l.length c) 1 (l.map Z6):=by
 rcases h with⟨rfl,rfl⟩ | ⟨g,c,h1,rfl,h3,h4,h5,h6⟩
 ·exact⟨none,0,rfl,none,0,rfl,by simp,fun h=>absurd rfl h⟩
 ·refine⟨_,c,rfl,some ⟨g,0,none⟩,c,by simp,?_,fun _=>⟨g,0,rfl,Z3 h6,fun i j z hi hj=>?_⟩⟩
  ·intro z hz
   obtain⟨n,_,rfl⟩:=List.mem_map.1 hz
   rfl
  ·rw[Yn]at hi
   obtain⟨n,hn,rfl⟩:=Y3.1 hi;obtain rfl:j=0:=by omega
   rw[Z1 h6];have hlt:=(List.getElem?_eq_some_iff.1 hn).1;simp only[Nat.mul_one,Nat.zero_add,Nat.add_zero,List.getElem?_toArray];rw[List.getElem?_append_left (by simpa[ivs] using hlt)];simp[ivs,hn,Z6]
end
end Go.Proofs.YtfelljbfeoplhaaGreat
