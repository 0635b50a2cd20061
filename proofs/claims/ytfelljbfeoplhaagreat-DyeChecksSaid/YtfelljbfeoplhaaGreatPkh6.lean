/- Parts of a proof. No conditions. -/
import Derived.Conc.CrowdTrace
import Derived.Test.YtfelljbfeoplhaaGreatPkh5
set_option linter.unusedVariables false
set_option linter.unusedSimpArgs false
set_option linter.unusedSectionVars false
set_option maxRecDepth 100000
set_option maxHeartbeats 4000000
namespace Go.Proofs.YtfelljbfeoplhaaGreat
variable{β:Nat->Bool}{c j k n:Nat}{f:Go.FuncId}{R:Go.Ending->Go.World->Prop}{l:List Int}{S:List (Go.Value×List Int)}{a:Option Go.Addr}{O' U:Nat->Prop}{J:(Nat->Prop)->Go.World->Prop}{cs:List Go.Frame}
section
open Go.RowKit
variable{μ:Nat}
def Zs(w:World)(v:Value)(n:Nat):Prop:=∀g c i,v = .slice (some ⟨g,0,none⟩) n c->n<=i->i<c->w.cell? ⟨g,i,none⟩=some (.int .i64 0)
theorem Zi2(w:World):Zs w (.slice none 0 0) 0:=λg c i h=>by cases h
theorem Zbn{w w':World}{v:Value}(h:Zs w v n)(E:Ext [] w w'): Zs w' v n:=λg c i e h1 h2=>by
 have k:=h g c i e h1 h2;rw[<-k];exact E.cell (a:=⟨g,i,none⟩) (@Z0h Lift.jkN _ _ _ _ k).1 sU
theorem Zbm{i: Nat}(h:i<n): (Builtin.zeroCells #[Value.int .i64 0] n)[i]?=some (.int .i64 0):=by
 have e:(Builtin.zeroCells #[Value.int .i64 0] n)=(Array.range (n*1)).map λi=>(#[Value.int .i64 0])[i % 1]!:=rfl;rw[e,Array.getElem?_map,Y2 (by simpa using h)];simp[Nat.mod_one]
theorem Z9d{w:World}{g:Nat}{a:Array Value}{i: Nat}{e:TypeId}{fz:Nat×Nat}(hg:w.heap[g]?=some (.cells (a++Builtin.zeroCells #[Value.int .i64 0] (c-n)) e fz))(ha:a.size=n)(h1:n<=i)(h2:i<c): w.cell? ⟨g,i,none⟩=some (.int .i64 0):=by
 rw[World.cell?];simp only[hg,Option.isSome_none,Bool.false_eq_true,if_false];rw[Array.getElem?_append_right oM,ha];exact Zbm oM
theorem Z4X{P:Program}{o:Oper}{w:World}{a:Act}{s x:Operand}{t:TypeId}(ho:o.op = .call {callee:=.builtin .append,args:=#[s,x],argTypes:=#[t,t]})(base:Nat){e:TypeId}(ht:P.underlying t=some (.slice e))(hi:(P.info? e).map (λi=>(i.size,i.bytes,i.zero.map (·.cells)))=some (1,8,some #[Value.int .i64 0])){v:Value}{xs:List Value}(hs:a.eval s=v)(hown:w.ownsRow base e 1 v n xs)(hz:Zs w v n){g: Nat}{T:TypeId}{fz:Nat×Nat}{u:Value}(hx:a.eval x = .slice (some ⟨g,0,none⟩) 1 c)(hg:w.heap[g]?=some (.cells [u].toArray T fz))(h1:u.oneCell'=true)(hn:n<=1000000)(hbase:base<=w.heap.size):
  ∃v' w',(execOp a.eval o).run P w = .ok (.value v') w'/\w'.ownsRow base e 1 v' (n+1) (xs++[u])/\w.grownBy w' v.ownBlock/\Zs w' v' (n+1):=by
 cases hq:P.info? e with
 | none=>simp[hq]at hi
 | some i =>
  simp only[hq,Option.map_some,Y4,Y9,Y3]at hi;obtain⟨hi1,hi2,z,hz1,hz2⟩:=hi;have hnews:∀j y,[u][j]?=some y->w.cell? ((⟨g,0,none⟩:Addr).add j)=some y:=λj y hy=>by
   rw[Addr.add_lit,Nat.zero_add,Z3 hg];simpa using hy
  have h1':∀y∈[u],y.oneCell'=true:=by simpa using h1
  have hb:(n+1)*8<=140737488355328:=by omega
  obtain⟨v',w',hr,h2,h3,-⟩:=run_append_own (P:=P) w base t o.type e i z 1 8 ht hq hz1 hi1 hi2 (by rw[hz2];rfl) oM v n xs hown ⟨g,0,none⟩ 1 c [u] sU hnews h1' (by simp only[maxLen];omega) hb hbase;refine⟨v',w',?_,h2,h3,?_⟩
  ·unfold execOp;simp only[ho,resolve,invoke,builtin,Sem.run_bind,Sem.run_pure,Result.andThen_ok,List.map_toArray,List.map_cons,List.map_nil,hs,hx,hr]
  ·have hl:xs.length=n:=by have:=hown.1;omega
   rcases hown.2 with⟨rfl,rfl⟩ | ⟨g0,cap,cur,rfl,hbg,hg0,hnc,hcm,hcs,htake⟩
   ·have hr2:=run_append_nil (P:=P) w t o.type e i z ht hq hz1 ⟨g,0,none⟩ 1 c [u] (by simp[hi1]) hnews oM oM oM;have:=hr.symm.trans hr2;injection this with e1 e2
    subst e1 e2;intro g' c' j e h4 h5;simp only[Value.slice.injEq,Y4,Addr.mk.injEq]at e;obtain⟨⟨rfl,_⟩,_,rfl⟩:=e;rw[hz2]at *;exact Z9d (heap_alloc_new _ _) sU oM h5
   ·by_cases hroom:n+1<=cap
    ·have hr2:=run_append_room (P:=P) w t o.type e i ht hq g0 n cap cur hg0 ⟨g,0,none⟩ 1 c [u] (by simp[hi1]) hnews h1' hroom (by simp only[hi1,hcs,List.length_singleton];omega)
     have:=hr.symm.trans hr2;injection this with e1 e2
     subst e1 e2;intro g' c' j e h4 h5;simp only[Value.slice.injEq,Y4,Addr.mk.injEq]at e;obtain⟨⟨rfl,_⟩,_,rfl⟩:=e;have hk:=hz g0 cap j rfl oM h5;rw[World.cell?]at hk⊢;rw[setRow_heap _ _ _ _ _ _ hg0];rw[hg0]at hk;simp only[Option.isSome_none,Bool.false_eq_true,if_false]at hk⊢;rw[List.getElem?_toArray,List.append_assoc,List.getElem?_append_right (by simp only[List.length_take,hi1];omega),List.getElem?_append_right (by simp only[List.length_take,List.length_singleton,hi1,Array.length_toList,hcs];omega),List.getElem?_drop];rw[show n*i.size+[u].length+(j-(List.take (n*i.size) cur.toList).length-[u].length)=j by simp only[List.length_take,List.length_singleton,hi1,Array.length_toList,hcs];omega];simpa using hk
    ·have holds:∀j y,xs[j]?=some y->w.cell? ((⟨g0,0,none⟩:Addr).add j)=some y:=hown.cells (g:=g0) rfl;have hcc:cap=n:=by omega
     have hr2:=run_append_grow (P:=P) w t o.type e i z ht hq hz1 ⟨g0,0,none⟩ n cap xs (by rw[hi1];omega) holds ⟨g,0,none⟩ 1 c [u] (by simp[hi1]) hnews oM oM (growslice_fits oM (by rw[hi2];exact hb));have:=hr.symm.trans hr2;injection this with e1 e2
     subst e1 e2;intro g' c' j e h4 h5;simp only[Value.slice.injEq,Y4,Addr.mk.injEq]at e;obtain⟨⟨rfl,_⟩,_,rfl⟩:=e;rw[hz2]at *;exact Z9d (heap_alloc_new _ _) (by simp;omega) oM h5
def IntR(base:Nat)(w:World)(l:List Int)(v:Value):Prop:=
 (l=[]/\v = .slice none 0 0)\/∃g c,l≠[]/\v = .slice (some ⟨g,0,none⟩) l.length c/\base<=g/\l.length<=c/\c<=maxLen/\w.heap[g]?=some (.cells (ivs l++List.replicate (c-l.length) (Value.int .i64 0)).toArray 3 (0,0))
theorem ZhF{w:World}{base: Nat}{va:Option Addr}(h:w.ownsRow base 3 1 (.slice va n c) n (ivs l))(z:Zs w (.slice va n c) n)(hn:n=l.length)(h0:n=0->va=none): IntR base w l (.slice va n c):=by
 subst hn;rcases h.2 with⟨e,h2⟩ | ⟨g,cap,cur,e,hb,hg,hnc,hcm,hcs,ht⟩
 ·simp only[Value.slice.injEq]at e;obtain⟨rfl,hl,rfl⟩:=e;refine .inl ⟨List.length_eq_zero_iff.1 hl,by rw[hl]⟩
 ·simp only[Value.slice.injEq]at e;obtain⟨rfl,_,rfl⟩:=e;refine .inr ⟨g,c,λe=>?_,rfl,hb,hnc,hcm,?_⟩
  ·have:=h0 (by rw[e];rfl)
   cases this
  ·rw[hg];have hcl:cur.toList.length=c:=by rw[Array.length_toList,hcs];omega
   have hil:(ivs l).length=l.length:=by simp[ivs]
   have:cur=(ivs l++List.replicate (c-l.length) (Value.int .i64 0)).toArray:=by
    apply Array.ext';rw[<-ht];apply List.ext_getElem?;intro i;rcases Nat.lt_or_ge i l.length with hi | hi
    ·rw[List.getElem?_append_left (by rw[List.length_take,hcl];simp only[Nat.mul_one];omega),List.getElem?_take,if_pos (by simp only[Nat.mul_one];omega)]
    ·have hlt:(List.take (l.length*1) cur.toList).length=l.length:=by rw[List.length_take,hcl,Nat.mul_one];omega
     rw[List.getElem?_append_right (by rw[hlt];exact hi),hlt];rcases Nat.lt_or_ge i c with h2 | h2
     ·have:=z g c i rfl hi h2;rw[World.cell?]at this;rw[hg]at this;simp only[Option.isSome_none,Bool.false_eq_true,if_false]at this;rw[Array.getElem?_toList,this,List.getElem?_replicate,if_pos oM]
     ·rw[List.getElem?_eq_none (by rw[hcl];omega),List.getElem?_eq_none (by rw[List.length_replicate];omega)]
   rw[this]
end
section
open Go.RowKit Ev
variable{μ:Nat}
def Z1d(n:Nat)(β:Nat->Bool):List Int:=((List.range n).filter β).map λk=>((k:Nat):Int)
theorem Z1A(h:k<n): (((List.range n).take (k+1)).filter β)=((List.range n).take k).filter β++if β k then[k] else[]:=by
 rw[List.take_range,List.take_range,Nat.min_eq_left oM,Nat.min_eq_left oM,List.range_succ,List.filter_append];cases h:β k<;>simp[h]
def UnR(w:World)(l:List Int)(e:Ending)(w':World):Prop:=∃v,e = .returned v/\IntR w.heap.size w' l v/\Ext [] w w'
theorem ZjN(n:Nat)(hn:n<=3)(β:Nat->Bool)(n7 n16:Nat)(T:TypeId)(fz fz':Nat×Nat)(w:World)(fa:Act)(F:Has 42 [] fa [(7,pt n7),(9,.slice none 0 0)])(q7:w.heap[n7]?=some (.cells #[.slice (some ⟨n16,0,none⟩) n n] T fz))(q16:∀k,k<n->w.cell? ⟨n16,k,none⟩=some (.bool (β k)))(h16:n16<w.heap.size):
  Code.wp (Qy.prog 2) (sqR (sqR Z6N)) (bodyPost (Qy.prog 2) Tryz.f66 λe w'=>UnR w (Z1d n β) e w') fa w:=by
 have E:=Ext.refl [] w;have HS:Hid (SlAt [] w (some ⟨n16,0,none⟩) 1 n (λi=>[.bool (β i)])):=by
  refine Lib.hid ((@ZF Lift.jkN _ _ _ _).2 λi hi=>⟨_,_,rfl,?_⟩);have:=q16 i hi;simpa using this
 have oo:w.ownsRow w.heap.size 3 1 (.slice none 0 0) 0 (ivs ((((List.range n).take 0).filter β).map λn=>((n:Nat):Int))):=World.ownsRow_nil _ _ _ _;have zz:Zs w (.slice none 0 0) 0:=Zi2 w;refine wS λK1 hK1=>wS λK2 hK2=>?_;refine Yg ?_;refine F.vl (Z1e rfl (F.at rfl) Qy.underlying151 rfl ((Z3 q7 0).trans get0)) λfa F=>?_;refine F.vl (Z8a rfl rfl (F.at rfl) Qy.underlying151) λfa F=>?_;refine F.vl (Z3m rfl (ev_c fa _)) λfa F=>?_;refine wN<|hK2 _ _ ?_
 refine Yh ?_;have F0:=F.sub (.c 28 rfl (.c 29 rfl .n));refine Z8E F0 n (λi Lv W=>∃va:Option Addr,∃k:Nat,∃vc:Nat,Lv=[(9,.slice va k vc),(30,.int .i64 ((i:Nat):Int))]/\Ext [] w W/\W.ownsRow w.heap.size 3 1 (.slice va k vc) k (ivs ((((List.range n).take i).filter β).map λn=>((n:Nat):Int)))/\k=((((List.range n).take i).filter β).map λn=>((n:Nat):Int)).length/\k<=i/\Zs W (.slice va k vc) k/\(k=0->va=none)) ⟨_,⟨none,0,0,rfl,E,oo,rfl,(Ye _),zz,(λ_=>rfl)⟩,F.sub (.c 9 rfl (.c 30 rfl (.c 28 rfl (.c 29 rfl .n))))⟩ ?_;clear F F0;clear E;clear oo;rintro i _ fa w1 hi1 ⟨va,k,vc,rfl,E,oo,hkl,hk6,zz,hz0⟩ F;refine wS λK3 hK3=>?_;refine Yg ?_;refine F.vl (Zcx rfl (F.at rfl) (F.at rfl)) λfa F=>?_;refine wN<|hK3 _ _<|wS λK4 hK4=>?_
 refine Zfo F rfl (λhc31=>?_) (λhc31=>?_)
 ·skip;refine Yi ?_;refine hK4 _ _<|wS λK5 hK5=>?_
  refine Yh ?_;refine wS λK6 hK6=>?_;refine Yg ?_;refine F.mv λfa F=>?_;obtain⟨xb7,xo7,xa7,xr7⟩:=HS.out i oM;refine F.vl (Z89 (sz:=1) rfl ((F.at rfl).trans (xa7 _ _)) (F.at rfl) Qy.underlying151 kR oM oM) λfa F=>?_;refine F.vl (Z1e rfl (F.at rfl) Qy.underlying4 rfl (xr7 _ E 0 _ rfl)) λfa F=>?_;refine F.as λfa F=>?_;refine F.as λfa F=>?_;refine wN<|hK6 _ _<|wS λK8 hK8=>?_
  refine Yg ?_;refine F.mv λfa F=>?_;refine wN<|hK8 _ _ ?_
  refine cd_b F rfl (λhc35=>?_) (λhc35=>?_)
  ·skip;have hst:=Z1A (β:=β) (show i<n by omega);rw[if_pos hc35]at hst;refine Yg ?_;refine F.mv λfa F=>?_;refine F.mv λfa F=>?_;refine sqN F (Z0J rfl (prS (F.at rfl) pr0) Qy.underlying22 (size:=1) kR dC dC Qy.zeroValue3 (cells:=#[.int .i64 ((i:Nat):Int)]) kR) λfa w2 F hw=>?_;obtain⟨n38,hn⟩:=eQ w1.heap.size;rw[<-hn]at F;have s38:=sQ hn;have l38_E:=lQ hn E.size;have o38_oo:=Lib.hid (Z1C oo hn);replace oo:=Z0S hw oo;replace zz:=Zbn zz (Zv (Ext.refl [] _) hw);replace E:=Zv E hw;have q38:=Z0m hw hn;clear hw hn;have hEs:=E.size;refine Zx F rfl dC rfl (Z4X rfl w.heap.size (e:=3) Qy.underlying22 kR (F.at rfl) oo zz (F.at rfl) q38 rfl oM oM) ?_;clear F fa;rintro fa v' w3 F ⟨hown',hg,hzz⟩;obtain⟨va39,vc39,rfl⟩:=Zm hown';replace E:=Z1S E oo hg oM;replace oo:=hown';replace zz:=hzz;clear hg;rw[Z0z,show ((((List.range n).take i).filter β).map λn=>((n:Nat):Int))++[((i:Nat):Int)]=(((List.range n).take (i+1)).filter β).map λn=>((n:Nat):Int) by rw[hst,List.map_append];rfl]at oo;replace hkl:k+1=((((List.range n).take (i+1)).filter β).map λn=>((n:Nat):Int)).length:=by rw[hst,List.map_append,Ym,<-hkl];rfl
   refine F.as λfa F=>?_;refine wN<|hK5 _ _ ?_
   refine Yg ?_;refine F.vl (Z87 rfl (F.at rfl) (ev_c fa _) oM oM) λfa F=>?_;refine F.mv λfa F=>?_;refine wpList_nil ?_;show _/\_;exact⟨oM,_,⟨_,_,_,rfl,E,oo,hkl,oM,zz,(λh=>by first | exact absurd h oM | exact hz0 h)⟩,F.sub (.c 9 rfl (.c 30 rfl (.c 28 rfl (.c 29 rfl .n))))⟩
  ·skip;have hst:=Z1A (β:=β) (show i<n by omega);rw[if_neg (by rw[hc35];decide),List.append_nil]at hst;rw[<-hst]at oo hkl;refine Yi ?_;refine hK5 _ _ ?_;refine Yg ?_;refine F.vl (Z87 rfl (F.at rfl) (ev_c fa _) oM oM) λfa F=>?_;refine F.mv λfa F=>?_;refine wpList_nil ?_;show _/\_;exact⟨oM,_,⟨_,_,_,rfl,E,oo,hkl,oM,zz,(λh=>by first | exact absurd h oM | exact hz0 h)⟩,F.sub (.c 9 rfl (.c 30 rfl (.c 28 rfl (.c 29 rfl .n))))⟩
 ·skip;refine wp_exit ?_;rw[List.take_of_length_le (show (List.range n).length<=i by rw[List.length_range];omega)]at oo hkl;replace zz:Zs w1 (.slice va k vc) k:=zz;replace hkl:k=(Z1d n β).length:=hkl;replace oo:w1.ownsRow w.heap.size 3 1 (.slice va k vc) k (ivs (Z1d n β)):=oo;refine hK1 _ _<|wS λK9 hK9=>?_
  refine Yg ?_;refine F.mv λfa F=>?_;refine F.as λfa F=>?_;refine wN<|hK9 _ _ ?_
  refine wp_ret ?_
  (try simp only[Exit.inBlock,Exit.then,reduceIte])
  refine rt_v F (rs_1 F rfl rfl) ?_;exact⟨_,rfl,ZhF oo zz hkl hz0,E⟩
variable{μ:Nat}
theorem Qy.ntmps187:Qy.f187.ntmps=14:=rfl
theorem Zh9(x:Vm)(hx:x.L.length<=3)(cf:FuncId)(us:Array Value)(β:Nat->Bool)(hcf:∀args w,(callFunc cf args).run (Qy.prog 0) w = .ok (.enter cf args) w)(w:World)
  (hask:∀k,k<x.L.length->∀W,Ext [] w W->Calls (Qy.prog 0) cf (#[]++[.int .i64 ((k:Nat):Int)].toArray++us) W λe w'=>e = .returned (.bool (β k))/\Ext [] W w') :
  Calls (Qy.prog 0) 66 #[x.val,.func (.func cf) #[] us] w λe w'=>UnR w (Z1d x.L.length β) e w':=by
 have E:=Ext.refl [] w;have HA:=Lib.hid hask;have HF:=Lib.hid hcf;clear hask hcf;unfold Vm.val;have oo:w.ownsRow w.heap.size 3 1 (.slice none 0 0) 0 (ivs ((((List.range x.L.length).take 0).filter β).map λn=>((n:Nat):Int))):=World.ownsRow_nil _ _ _ _;have zz:Zs w (.slice none 0 0) 0:=Zi2 w;refine Z1t 14 Qy.func66 rfl Qy.ntmps187 (Nat.le_of_ble_eq_true rfl) ?_;intro fa F;refine wS λK1 hK1=>?_;refine Yg ?_;refine sqN F (Zcr rfl (F.at rfl)) λfa w1 F hw=>?_;obtain⟨n2,hn⟩:=eQ w.heap.size;rw[<-hn]at F;have s2:=sQ hn;have l2_E:=lQ hn E.size;have o2_oo:=Lib.hid (Z1C oo hn);replace oo:=Z0S hw oo;replace zz:=Zbn zz (Zv (Ext.refl [] _) hw);replace E:=Zv E hw;have q2:=Z5i hw hn;clear hw hn;refine F.vl (Z0p rfl (F.at rfl) Qy.underlying85 rfl (n:=0) (sz:=4) rfl kR dC) λfa F=>?_;refine F.vl (Z0p rfl (F.at rfl) Qy.underlying27 rfl (n:=2) (sz:=1) rfl kR dC) λfa F=>?_;refine F.vl (Z1e rfl (F.at rfl) Qy.underlying25 rfl ((Z3 q2 2).trans (getS (getS get0)))) λfa F=>?_;refine F.vl (Z8a rfl rfl (F.at rfl) Qy.underlying25) λfa F=>?_;refine F.vl (Z3m rfl (ev_c fa _)) λfa F=>?_;refine F.vl (Z08 rfl (ev_c fa _)) λfa F=>?_;refine wN<|hK1 _ _<|wS λK2 hK2=>?_
 refine Yh ?_;have F0:=F.sub (.c 1 rfl (.c 6 rfl .n));refine Z8E F0 x.L.length (λi Lv W=>∃va:Option Addr,∃k:Nat,∃vc:Nat,Lv=[(7,.int .i64 ((i:Nat):Int)),(8,.slice va k vc)]/\Ext [] w W/\W.heap[n2]?=some (.cells x.vc 85 (0,0))/\W.ownsRow w.heap.size 3 1 (.slice va k vc) k (ivs ((((List.range x.L.length).take i).filter β).map λn=>((n:Nat):Int)))/\k=((((List.range x.L.length).take i).filter β).map λn=>((n:Nat):Int)).length/\k<=i/\Zs W (.slice va k vc) k/\(k=0->va=none)) ⟨_,⟨none,0,0,rfl,E,q2,oo,rfl,(Ye _),zz,(λ_=>rfl)⟩,F.sub (.c 7 rfl (.c 8 rfl (.c 1 rfl (.c 6 rfl .n))))⟩ ?_;clear F F0;clear E q2;clear oo;rintro i _ fa w2 hi1 ⟨va,k,vc,rfl,E,q2,oo,hkl,hk6,zz,hz0⟩ F;refine wS λK3 hK3=>?_;refine Yg ?_;refine F.vl (Zcx rfl (F.at rfl) (F.at rfl)) λfa F=>?_;refine wN<|hK3 _ _<|wS λK4 hK4=>?_
 refine Zfo F rfl (λhc9=>?_) (λhc9=>?_)
 ·skip;refine Yi ?_;refine hK4 _ _<|wS λK5 hK5=>?_
  refine Yg ?_;refine sqC F (Z30 rfl (F.at rfl) HF.out (mpS (F.at rfl) mp0) rfl) ((HA.out i oM _ E)) λe w3 hR=>?_;obtain⟨rfl,e9⟩:=hR;refine⟨_,rfl,λfa F=>?_⟩;replace oo:=ZG oo e9 sU;replace zz:=Zbn zz e9;replace q2:=(e9).keep0 q2;replace E:=Z7c E e9;clear e9;refine wN<|hK5 _ _<|wS λK6 hK6=>?_
  refine cd_b F rfl (λhc10=>?_) (λhc10=>?_)
  ·skip;have hst:=Z1A (β:=β) (show i<x.L.length by omega);rw[if_pos hc10]at hst;refine Yg ?_;refine sqN F (Z0J rfl (prS (F.at rfl) pr0) Qy.underlying22 (size:=1) kR dC dC Qy.zeroValue3 (cells:=#[.int .i64 ((i:Nat):Int)]) kR) λfa w4 F hw=>?_;obtain⟨n11,hn⟩:=eQ w3.heap.size;rw[<-hn]at F;have s11:=sQ hn;have l11_E:=lQ hn E.size;have m11_2:=tQ hn (Z8 q2);have o11_oo:=Lib.hid (Z1C oo hn);replace oo:=Z0S hw oo;replace zz:=Zbn zz (Zv (Ext.refl [] _) hw);replace q2:=Zf hw q2;replace E:=Zv E hw;have q11:=Z0m hw hn;clear hw hn;have hEs:=E.size;refine Zx F rfl dC rfl (Z4X rfl w.heap.size (e:=3) Qy.underlying22 kR (F.at rfl) oo zz (F.at rfl) q11 rfl oM oM) ?_;clear F fa;rintro fa v' w5 F ⟨hown',hg,hzz⟩;obtain⟨va12,vc12,rfl⟩:=Zm hown';replace q2:=Z3z oo hg q2 dC;replace E:=Z1S E oo hg oM;replace oo:=hown';replace zz:=hzz;clear hg;rw[Z0z,show ((((List.range x.L.length).take i).filter β).map λn=>((n:Nat):Int))++[((i:Nat):Int)]=(((List.range x.L.length).take (i+1)).filter β).map λn=>((n:Nat):Int) by rw[hst,List.map_append];rfl]at oo;replace hkl:k+1=((((List.range x.L.length).take (i+1)).filter β).map λn=>((n:Nat):Int)).length:=by rw[hst,List.map_append,Ym,<-hkl];rfl
   refine F.as λfa F=>?_;refine wN<|hK6 _ _ ?_
   refine Yg ?_;refine F.vl (Z87 rfl (F.at rfl) (ev_c fa _) oM oM) λfa F=>?_;refine F.mv λfa F=>?_;refine wpList_nil ?_;show _/\_;exact⟨oM,_,⟨_,_,_,rfl,E,q2,oo,hkl,oM,zz,(λh=>by first | exact absurd h oM | exact hz0 h)⟩,F.sub (.c 7 rfl (.c 8 rfl (.c 1 rfl (.c 6 rfl .n))))⟩
  ·skip;have hst:=Z1A (β:=β) (show i<x.L.length by omega);rw[if_neg (by rw[hc10];decide),List.append_nil]at hst;rw[<-hst]at oo hkl;refine Yi ?_;refine hK6 _ _ ?_;refine Yg ?_;refine F.vl (Z87 rfl (F.at rfl) (ev_c fa _) oM oM) λfa F=>?_;refine F.mv λfa F=>?_;refine wpList_nil ?_;show _/\_;exact⟨oM,_,⟨_,_,_,rfl,E,q2,oo,hkl,oM,zz,(λh=>by first | exact absurd h oM | exact hz0 h)⟩,F.sub (.c 7 rfl (.c 8 rfl (.c 1 rfl (.c 6 rfl .n))))⟩
 ·skip;refine wp_exit ?_;rw[List.take_of_length_le (show (List.range x.L.length).length<=i by rw[List.length_range];omega)]at oo hkl;replace zz:Zs w2 (.slice va k vc) k:=zz;replace hkl:k=(Z1d x.L.length β).length:=hkl;replace oo:w2.ownsRow w.heap.size 3 1 (.slice va k vc) k (ivs (Z1d x.L.length β)):=oo;refine hK2 _ _ ?_;refine wp_ret ?_
  (try simp only[Exit.inBlock,Exit.then,reduceIte])
  refine rt_v F (rs_1 F rfl rfl) ?_;exact⟨_,rfl,ZhF oo zz hkl hz0,E⟩
variable{μ:Nat}
noncomputable def aB:Code:=Tryz.f15.body.getD .skip
def Z0V(n:Nat):Deferred:={target:=.fn (.func 63) #[],args:=#[.pointer (some ⟨n,0,none⟩)]}
variable{μ:Nat}
theorem ZaK{base base':Nat}{X:List Nat}{w w':World}{y:Value}(h:IntR base w l y)(E:Ext X w w')(hX:∀b∈X,b<base)(hb:base'<=base): IntR base' w' l y:=by
 rcases h with h | ⟨g,c,h1,h2,h3,h4,h5,h6⟩
 ·exact .inl h
 ·refine .inr ⟨g,c,h1,h2,Yd hb h3,h4,h5,?_⟩;rw[E.block g (Z8 h6) λhm=>by have:=hX g hm;omega];exact h6
theorem ZbH{γ: Nat->Bool}(h:∀k,k<n->β k=γ k): Z1d n β=Z1d n γ:=by
 unfold Z1d;congr 1;exact List.filter_congr λk hk=>h k (List.mem_range.1 hk)
end
section
open Go.RowKit
variable{μ:Nat}
def fltV(er:Int):PanicEntry:={v:=.iface 135 (.int .i64 er),recovered:=false}
theorem Zdr(er:Int)(xT:TypeId)(w:World):(Instr.typeAssert (.iface 135 (.int .i64 er)) xT 135 true).run (Qy.prog μ) w = .ok (.tuple #[.int .i64 er,.bool true]) w:=by
 simp[Instr.typeAssert,run_underlying Qy.underlying135,go_sem,Result.andThen]
theorem Z9p(n:Nat)(b:Nat)(er x:Int)(T:TypeId)(w:World)(hb:w.heap[b]?=some (.cells #[.int .i64 x] T (0,0))):
  CallsDIn Fence.wide n (Qy.prog μ) 63 #[.pointer (some ⟨b,0,none⟩)] (.panicking [fltV er]) w λe u' w'=>e = .returned (.tuple #[])/\u' = .panicking [{fltV er with recovered:=true}]/\w'=w.setCell ⟨b,0,none⟩ (.int .i64 er):=by
 have hc:w.cell? ⟨b,0,none⟩=some (.int .i64 x):=(Z3 hb 0).trans rfl;have hz:w.frozen? ⟨b,0,none⟩=false:=Zg hb 0;have hsz:∀w:World,(sizeOf 30).run (Qy.prog μ) w = .ok 1 w:=λw=>by kernel_rfl
 refine callsDIn_of_wpSIn Qy.func63 rfl trivial λc₀ cs hu=>?_;unfold fltV at hu⊢;apply wpSIn_seq;apply wpSIn_region;simp[wpOpsSIn,Fence.wide,go_sem,recoverD,hu,Tryz.ntmps63,Exit.thenS,Zdr,Result.andThen];apply wpSIn_seq;apply wpSIn_region;simp[wpOpsSIn,Fence.wide,go_sem,Exit.thenS,Array.replicate];refine wpSIn_cond (t:=true) (by simp[Act.eval]) ?_;simp only[if_true];apply wpSIn_region;simp[wpOpsSIn,Fence.wide,go_sem,hc,hz,hsz,bodyPostS,results,Result.andThen,Tryz.results63]
theorem Zj0{fn:Func}{tmps:Array Value}{w:World}{b:Nat}{er x:Int}{T:TypeId}{ds:List Deferred}(hb:w.heap[b]?=some (.cells #[.int .i64 x] T (0,0)))(h:∀w',w'=w.setCell ⟨b,0,none⟩ (.int .i64 er)->LeavesInM Fence.wide 9 (Qy.prog μ) fn tmps R ds .returning w'): LeavesInM Fence.wide 9 (Qy.prog μ) fn tmps R ({target:=.fn (.func 63) #[],args:=#[.pointer (some ⟨b,0,none⟩)]}::ds) (.panicking [fltV er]) w:=by
 refine⟨sU,.inr ⟨(λh=>by cases h),_,_,63,#[.pointer (some ⟨b,0,none⟩)],rfl,(by simp[go_sem,Qy.call63]),(λ_ _=>trivial),?_⟩⟩;refine CallsDIn.mono (Z9p 8 b er x T w hb) ?_;rintro e u' w' ⟨rfl,rfl,rfl⟩;exact h _ rfl
section
variable{P:Program}{ops:Array Oper}{Q:Exit->Act->World->Prop}{o:Oper}{rest:List Oper}{N:Nat}{D:List Deferred}{a:Act}{L:List (Nat×Value)}{w w':World}
theorem ZgC{args:Array Value}(hw:Region.wanted o (yielded ops a.tmps)=true)(hr:(execOp a.eval o).run P w = .ok (.enter f args) w)(hc:Calls P f args w R)(h:∀e w',R e w'->∃ch,e = .panicked ch/\Q (.panic ch) a w'): wpList P ops Q (o::rest) a w:=by
 unfold wpList;simp only[hw,if_true,Oper.wp,hr,Oper.upon];refine .inl (hc.mono λe w' hR=>?_);obtain⟨ch,rfl,h1⟩:=h e w' hR;exact h1
theorem ZgD{v:Value}(hw:Region.wanted o (yielded ops a.tmps)=true)(hr:(execOp a.eval o).run P w = .halt (.panic v) w)(h:Q (.panic [{v,recovered:=false}]) a w): wpList P ops Q (o::rest) a w:=by
 unfold wpList;simp only[hw,if_true,Oper.wp,hr,Oper.upon];exact .inl h
theorem Zi9{ρ:Operand->Value}{x:Operand}{t:TypeId}{v:Value}(ho:o.op = .panic x)(hx:ρ x = .iface t v): (execOp ρ o).run P w = .halt (.panic (.iface t v)) w:=by
 unfold execOp;simp[ho,hx,Instr.panic,goPanic,go_sem]
theorem ZcA{ρ:Operand->Value}{x:Operand}{t:TypeId}{v:Value}{q:IntKind}(ho:o.op = .makeInterface t x)(hx:ρ x=v)(hu:P.underlying t=some (.int q)): (execOp ρ o).run P w = .ok (.value (.iface t v)) w:=by
 unfold execOp;simp[ho,hx,Instr.makeInterface,run_underlying hu,go_sem,Result.andThen]
theorem Z7F{fn:Func}{ch:List PanicEntry}(F:Has N D a L)(h:LeavesInM Fence.wide 9 P fn a.tmps R D (.panicking ch) w): bodyPostM Fence.wide 9 P fn R (.panic ch) a w:=by
 show LeavesInM _ _ _ _ _ _ a.defers _ _;rw[F.ds];exact h
end
section
variable{P:Program}{ops:Array Oper}{Q:Exit->Act->World->Prop}{o:Oper}{rest:List Oper}{N d:Nat}{D:List Deferred}{a:Act}{L:List (Nat×Value)}{w:World}{S S0 S':List Fc}
theorem Has.kx{l:List Operand}{ts:Array TypeId}{vs:List Value}{p:PanicEntry}(F:Has N D a L)(B:Bk w S)(hc:Calls P f vs.toArray w λe w'=>e = .panicked [p]/\Ext [] w w')(C:Z6O P f=true:=by kernel_rfl)(ho:o.op = .call {callee:=.value (.func f),args:=l.toArray,argTypes:=ts}:=by rfl)(ha:opvs L l=some vs:=by rfl)(hw:ZV L ops o=some true:=by rfl)(h:∀{w'},Bk w' S->Q (.panic [p]) a w'): wpList P ops Q (o::rest) a w:=
 ZgC (F.want hw) (F.rc C ho ha) hc λ_ _ hR=>⟨_,hR.1,h (B.ex hR.2)⟩
theorem Has.px{x:Operand}{t:TypeId}{v:Value}(F:Has N D a L)(ho:o.op = .panic x:=by rfl)(hx:opv L x=some (.iface t v):=by rfl)(hw:ZV L ops o=some true:=by rfl)(h:Q (.panic [{v:=.iface t v,recovered:=false}]) a w): wpList P ops Q (o::rest) a w:=ZgD (F.want hw) (Zi9 ho (F.op hx)) h
theorem Has.mi{x:Operand}{t:TypeId}{v:Value}{q:IntKind}(F:Has N D a L)(hu:P.underlying t=some (.int q))(ho:o.op = .makeInterface t x:=by rfl)(hx:opv L x=some v:=by rfl): (execOp a.eval o).run P w = .ok (.value (.iface t v)) w:=ZcA ho (F.op hx) hu
theorem Z7s{fn:Func}{tmps:Array Value}{b:Nat}{er x:Int}{T:TypeId}{ds:List Deferred}(B:Bk w S)(i:Nat)(hi:nth S i=some (.q b #[.int .i64 x] T):=by rfl)(hu:upf S i (.q b #[.int .i64 er] T)=some S':=by rfl)(h0:delf S i=some S0:=by rfl)(hn:NeA b T S0:=by exact nea)(h:∀{w'},Bk w' S'->LeavesInM Fence.wide 9 (Qy.prog μ) fn tmps R ds .returning w'): LeavesInM Fence.wide 9 (Qy.prog μ) fn tmps R ({target:=.fn (.func 63) #[],args:=#[.pointer (some ⟨b,0,none⟩)]}::ds) (.panicking [fltV er]) w:=
 Zj0 (B.get hi) λw' hw=>h (Bk.up (g:=.q b #[.int .i64 er] T) (ZU hw (B.get hi) rfl) hu λL0 e=>by
  obtain rfl:=Y1 (h0.symm.trans e);exact Bk.cell hw (B.get hi) (B.del h0) hn)
end
theorem Z7v(er:Int)(he:er≠0)(w:World):Calls (Qy.prog μ) 111 #[.int .i64 er] w λe w'=>e = .panicked [fltV er]/\Ext [] w w':=by
 have E:=Ext.refl [] w;have G:=(Bk.nil w).ce E;refine(ent 6 Tryz.f111 rfl) λF=>wR λk1=>(F.m) λF=>(F.y F.ne) λF=>k1<|(F.JT (hb:=he))<|Yg<|(F.m) λF=>(F.y (F.mi Qy.underlying135)) λF=>(F.px) ?_
 (try simp only[Exit.inBlock,Exit.then,Exit.jump,reduceIte])
 refine⟨F.ds,?_⟩;exact⟨rfl,(G.e 0)⟩
theorem Z53(x:Vm)(sd:Zd x.D)(sl:Zd x.L)(hc:chkE x.B (x.D.map (·.2)) (x.L.map (·.2)) x.tol≠0)(w:World)(h:x.At w):Calls (Qy.prog μ) 64 #[.agg x.vc] w λe w'=>e = .panicked [fltV (chkE x.B (x.D.map (·.2)) (x.L.map (·.2)) x.tol)]/\Ext [] w w':=by
 have E:=Ext.refl [] w;have HX:=Lib.hid h;clear h;have G:=(Bk.nil w).ce E;refine(ent 8 Tryz.f64 rfl) λF=>wR λk1=>(F.bx G) λyy F G=>(F.al G Qy.zeroValue85) λyy F G=>k1<|wR λk2=>(F.y (F.lb (G.q 1))) λF=>(F.k0 G (Z4i x _ (HX.out.ext (G.e 2)) sd sl)) λF G=>(F.kx G (Z7v _ hc _)) λG=>?_
 (try simp only[Exit.inBlock,Exit.then,Exit.jump,reduceIte])
 refine⟨F.ds,?_⟩;exact⟨rfl,(G.e 2)⟩
def Z2w(er:Int)(w:World)(e:Ending)(w':World):Prop:=((er=0/\e = .returned (.tuple #[]))\/(er≠0/\e = .panicked [fltV er]))/\Ext [] w w'
end
section
open Go.RowKit Ev
variable{μ:Nat}
section
variable{P:Program}{o:Oper}{w:World}{a:Act}
theorem ZaC{w:World}{ob:Obj}: Ext [] w (w.drew.alloc ob):=⟨rfl,rfl,rfl,by
 show w.heap.size<=(w.heap.push ob).size;simp,λk hk _=>by
 show (w.heap.push ob)[k]?=w.heap[k]?;rw[Array.getElem?_push_lt hk,Y2 hk]⟩
theorem Zai{x:Operand}{t e:TypeId}(ho:o.op = .call {callee:=.builtin .append,args:=#[.const (.slice none 0 0),x],argTypes:=#[t,t]})(ht:P.underlying t=some (.slice e))(hi:(P.info? e).map (λi=>(i.size,i.bytes,i.zero.map (·.cells)))=some (1,8,some #[Value.int .i64 0])){g m: Nat}{cs:List Value}{T:TypeId}{fz:Nat×Nat}(hx:a.eval x = .slice (some ⟨g,0,none⟩) m c)(hg:w.heap[g]?=some (.cells cs.toArray T fz))(hl:m<=cs.length)(h0:0<m)(hm:m<=1000):
  (execOp a.eval o).run P w = .ok (.value (.slice (some ⟨w.heap.size,0,none⟩) m (grownCap w m 0 e))) (w.drew.alloc (.cells ((cs.take m).toArray++Builtin.zeroCells #[Value.int .i64 0] (grownCap w m 0 e-m)) e)):=by
 cases hq:P.info? e with
 | none=>simp[hq]at hi
 | some i =>
  simp only[hq,Option.map_some,Y4,Y9,Y3]at hi;obtain⟨hi1,hi2,z,hz1,hz2⟩:=hi;have hr:=run_append_nil (P:=P) w t o.type e i z ht hq hz1 ⟨g,0,none⟩ m c (cs.take m) (by rw[hi1,List.length_take];omega) (λj v hv=>by
   rw[Addr.add_lit,Nat.zero_add,Z3 hg];rw[List.getElem?_take]at hv;split at hv
   ·simpa using hv
   ·cases hv) h0 oM (by rw[hi2];omega)
  rw[hz2]at hr;have hn:a.eval (.const (.slice none 0 0)) = .slice none 0 0:=rfl;unfold execOp;simp only[ho,resolve,invoke,builtin,Sem.run_bind,Sem.run_pure,Result.andThen_ok,List.map_toArray,List.map_cons,List.map_nil,hx,hn,hr]
theorem Zcq{x:Operand}{t e:TypeId}(ho:o.op = .call {callee:=.builtin .append,args:=#[.const (.slice none 0 0),x],argTypes:=#[t,t]})(ht:P.underlying t=some (.slice e))(hi:(P.info? e).map (λi=>(i.size,i.bytes,i.zero.map (·.cells)))=some (1,8,some #[Value.int .i64 0]))(hx:a.eval x = .slice none 0 0): (execOp a.eval o).run P w = .ok (.value (.slice none 0 0)) w:=by
 cases hq:P.info? e with
 | none=>simp[hq]at hi
 | some i =>
  simp only[hq,Option.map_some,Y4,Y9,Y3]at hi;obtain⟨hi1,hi2,z,hz1,hz2⟩:=hi;have hr:(Builtin.append_ #[t,t] o.type #[.slice none 0 0,.slice none 0 0]).run P w = .ok (.slice none 0 0) w:=by
   unfold Builtin.append_;simp[ht,run_underlying ht,sizeOf,typeInfo,hq,Builtin.lenOf,Builtin.firstCells,go_sem,Result.andThen]
  have hn:a.eval (.const (.slice none 0 0)) = .slice none 0 0:=rfl;unfold execOp;simp only[ho,resolve,invoke,builtin,Sem.run_bind,Sem.run_pure,Result.andThen_ok,List.map_toArray,List.map_cons,List.map_nil,hx,hn,hr]
theorem Zcp{x:Operand}{t e:TypeId}(ho:o.op = .call {callee:=.builtin .append,args:=#[.const (.slice none 0 0),x],argTypes:=#[t,t]})(ht:P.underlying t=some (.slice e))(hi:(P.info? e).map (λi=>(i.size,i.bytes,i.zero.map (·.cells)))=some (1,8,some #[Value.int .i64 0])){g m: Nat}{cs:List Value}{T:TypeId}{fz:Nat×Nat}(hx:a.eval x = .slice (some ⟨g,0,none⟩) m c)(hg:w.heap[g]?=some (.cells cs.toArray T fz))(hl:m<=cs.length)(h0:0<m)(hm:m<=1000):
  ∃v' w',(execOp a.eval o).run P w = .ok (.value v') w'/\(∃b k,v' = .slice (some ⟨b,0,none⟩) m k/\∃d,k=(Question.appendCap m 0 e).cut (w.tape d (.appendCap m 0 e)))/\Ext [] w w':=
 ⟨_,_,Zai ho ht hi hx hg hl h0 hm,⟨_,_,rfl,w.drawn,rfl⟩,ZaC⟩
def Zbo(w:World)(y:Value):Prop:=∀g n c,y = .slice (some ⟨g,0,none⟩) n c->∃d,c=(Question.appendCap n 0 3).cut (w.tape d (.appendCap n 0 3))
theorem Zfe{x:Operand}{t:TypeId}(ho:o.op = .call {callee:=.builtin .append,args:=#[.const (.slice none 0 0),x],argTypes:=#[t,t]})(ht:P.underlying t=some (.slice 3))(hi:(P.info? 3).map (λi=>(i.size,i.bytes,i.zero.map (·.cells)))=some (1,8,some #[Value.int .i64 0])){base:Nat}{y:Value}(hx:a.eval x=y)(h:IntR base w l y)(hl:l.length<=1000):
  ∃v' w',(execOp a.eval o).run P w = .ok (.value v') w'/\IntR w.heap.size w' l v'/\Ext [] w w'/\Zbo w v':=by
 rcases h with⟨rfl,rfl⟩ | ⟨g,c,h1,rfl,h3,h4,h5,h6⟩
 ·exact⟨_,_,Zcq ho ht hi hx,.inl ⟨rfl,rfl⟩,Ext.refl _ _,λg n c e=>by cases e⟩
 ·have h0:0<l.length:=List.length_pos_iff.2 h1;refine⟨_,_,Zai ho ht hi hx h6 (by simp[ivs]) h0 hl,.inr ⟨_,_,h1,rfl,Ye _,?_,?_,?_⟩,ZaC,λg' n' c' e=>?_⟩
  ·unfold grownCap Question.cut;dsimp only;omega
  ·unfold grownCap Question.cut;dsimp only;simp only[maxLen];have:w.tape w.drawn (.appendCap l.length 0 3) % (2 ^ 63-l.length)<2 ^ 63-l.length:=Nat.mod_lt _ oM;omega
  ·have hh:=heap_alloc_new w.drew (.cells ((((ivs l)++List.replicate (c-l.length) (Value.int .i64 0)).take l.length).toArray++Builtin.zeroCells #[Value.int .i64 0] (grownCap w l.length 0 3-l.length)) 3);refine hh.trans ?_;congr 1;congr 1;apply Array.ext';have hil:(ivs l).length=l.length:=by simp[ivs]
   rw[List.take_append_of_le_length (by rw[hil];exact Ye _),List.take_of_length_le (by rw[hil];exact Ye _)];simp only[Array.toList_append];congr 1;apply List.ext_getElem?;intro i;rw[Array.getElem?_toList];by_cases hi:i<grownCap w l.length 0 3-l.length
   ·rw[Zbm hi,List.getElem?_replicate,if_pos hi]
   ·rw[List.getElem?_replicate,if_neg hi];rw[Array.getElem?_eq_none];simp[Builtin.zeroCells];omega
  ·simp only[Value.slice.injEq,Y4,Addr.mk.injEq]at e;obtain⟨_,rfl,rfl⟩:=e;exact⟨w.drawn,rfl⟩
theorem Zk9{x:Operand}{t:TypeId}{b:Option Addr}(ho:o.op = .call {callee:=.builtin .cap,args:=#[x],argTypes:=#[t]})(hx:a.eval x = .slice b n c)(hu:P.underlying t=some (.slice (P.elem t))): (execOp a.eval o).run P w = .ok (.value (.int .i64 c)) w:=by
 unfold execOp;simp only[ho,resolve,invoke,builtin,Sem.run_bind,Sem.run_pure,Result.andThen_ok,List.map_toArray,List.map_cons,List.map_nil,hx,run_cap_slice w t o.type b n c hu];rfl
theorem Z5V{ρ:Operand->Value}{x:Operand}{t:TypeId}{v:Value}{d:TypeDesc}(ho:o.op = .makeInterface t x)(hx:ρ x=v)(hu:P.underlying t=some d)(hd:∀m,d ≠ .interface m): (execOp ρ o).run P w = .ok (.value (.iface t v)) w:=by
 unfold execOp;cases d<;>first | exact absurd rfl (hd _) | simp[ho,hx,Instr.makeInterface,run_underlying hu,go_sem,Result.andThen]
theorem ZgA{ops:Array Oper}{Q:Exit->Act->World->Prop}{rest:List Oper}{N:Nat}{D:List Deferred}{L:List (Nat×Value)}(F:Has N D a L){d:Nat}{args:Array Value}(hd:o.dst=some d)(hN:d<N)(hw:Region.wanted o (yielded ops a.tmps)=true)(hr:(execOp a.eval o).run P w = .ok (.enter f args) w)(hc:Calls P f args w R)(h:∀e w',R e w'->(∃ch,e = .panicked ch/\Q (.panic ch) a w')\/∃v,e = .returned v/\∀a2,Has N D a2 ((d,v)::L)->wpList P ops Q rest a2 w'): wpList P ops Q (o::rest) a w:=by
 unfold wpList;simp only[hw,if_true,Oper.wp,hr,Oper.upon];refine .inl (hc.mono λe w' hR=>?_);rcases h e w' hR with⟨ch,rfl,h1⟩ | ⟨v,rfl,h1⟩
 ·exact h1
 ·show wpList _ _ _ _ _ _;rw[hd];exact h1 _ (F.put hN v)
theorem Has.kp{ops:Array Oper}{Q:Exit->Act->World->Prop}{rest:List Oper}{N:Nat}{D:List Deferred}{L:List (Nat×Value)}{d:Nat}{l:List Operand}{ts:Array TypeId}{vs:List Value}(F:Has N D a L)(hc:Calls P f vs.toArray w R)(C:Z6O P f=true:=by kernel_rfl)(ho:o.op = .call {callee:=.value (.func f),args:=l.toArray,argTypes:=ts}:=by rfl)(ha:opvs L l=some vs:=by rfl)(hd:o.dst=some d:=by rfl)(hN:d<N:=by decide)(hw:ZV L ops o=some true:=by rfl)(h:∀e w',R e w'->(∃ch,e = .panicked ch/\Q (.panic ch) a w')\/∃v,e = .returned v/\∀{a2},Has N D a2 ((d,v)::L)->wpList P ops Q rest a2 w'): wpList P ops Q (o::rest) a w:=ZgA F hd hN (F.want hw) (F.rc C ho ha) hc λe w' hR=>by
 rcases h e w' hR with h | ⟨v,h1,h2⟩
 ·exact .inl h
 ·exact .inr ⟨v,h1,λ_ F=>h2 F⟩
end
def bunV(f:FuncId)(xs:Array Value):PanicEntry:={v:=.iface 90 (.func (.func f) xs #[]),recovered:=false}
theorem ZlT:(Qy.prog 0).underlying 90=Tryz.prog.underlying 90:=Lift.under_pf (P:=Tryz.prog) 90
end
section
open Go.RowKit
variable{μ:Nat}
theorem ZbF(xs:List Int)(f:FuncId)(cs:Array Value)(p:Int->Bool)(a:Option Addr)(c:Nat)(w:World)(hx:Z6 w (.slice a xs.length c) 1 (xs.map Z4))(hl:xs.length<=1000)
  (hf:∀args w,(callFunc f args).run (Qy.prog μ) w = .ok (.enter f args) w) (hc:∀W,Ext [] w W->∀n∈xs,Calls (Qy.prog μ) f (#[]++[Value.int .i64 n].toArray++cs) W λe W'=>e = .returned (.bool (p n))/\Ext [] W W') :
  Calls (Qy.prog μ) 119 #[.slice a xs.length c,.func (.func f) #[] cs] w λe w'=>∃r,e = .returned (.int .i64 r)/\decide (0<=r)=xs.any p/\Ext [] w w':=by
 have E:=Ext.refl [] w;have HS:=Lib.hid (Z7 hx 0);have HC:=Lib.hid hc;have HF:=Lib.hid hf;clear hx hc hf;have G:=(Bk.nil w).ce E;refine(ent 19 Tryz.f119 rfl) λF=>wR λk1=>(F.m) λF=>k1<|wQ λk2=>wR λk3=>(F.m) λF=>(F.y F.ln) λF=>(F.m) λF=>k3<|Yh<|lpB (F.b [0,1,7]) G xs.length (λi Lv Sv W=>Lv=[(8,.int .i64 ((i:Nat):Int))]/\Sv=[]/\∀j,j<i->p (xs.getD j 0)=false) ⟨_,_,F.u,G.u,rfl,rfl,(λj h=>by omega)⟩ ?_
 clear F G;rintro i _ w1 _ _ hi1 ⟨rfl,rfl,hb⟩ F G;replace G:=G.z;refine wR λk4=>(F.y F.ls) λF=>k4<|wQ λk5=>F.ci (λhc9=>?_) (λhc9=>?_)
 ·refine Yi<|k5<|wQ λk6=>Yh<|wR λk7=>(F.m) λF=>(F.m) λF=>k7<|wR λk8=>(F.m) λF=>(F.m) λF=>(F.m) λF=>(F.ix HS.out i) λxr9 F=>(F.y (F.l1 (xr9 _ (G.e 0)) 0)) λF=>?_
  refine(F.kr (Z30 rfl (F.at rfl) HF.out (mpS (F.at rfl) mp0) rfl) (HC.out _ (G.e 0) _ (Z5 0 oM))) ?_;rintro _ w2 ⟨rfl,e9⟩;refine kG G e9 λF G=>k8<|F.cb (λhc16=>?_) (λhc16=>?_)
  ·refine wR λk10=>(F.m) λF=>(F.m) λF=>k10<|(F.r1) ?_
   exact⟨_,rfl,(by rw[decide_eq_true oM,List.any_eq_true.2 ⟨_,Z5 0 oM,hc16⟩]),(G.e 0)⟩
  ·refine Yi<|k6<|Yg<|(F.y F.ad) λF=>(F.m) λF=>?_
   show _/\_;exact⟨oM,_,_,F.u,G.u,rfl,rfl,(λj h=>by rcases Nat.lt_succ_iff_lt_or_eq.1 h with h | rfl;(· exact hb j h);(· exact hc16))⟩
 ·refine wp_exit<|k2<|wR λk11=>(F.m) λF=>k11<|(F.r1) ?_
  exact⟨_,rfl,(by rw[decide_eq_false oM];symm;rw[List.any_eq_false];intro n hn;obtain⟨j,hj,rfl⟩:=List.getElem_of_mem hn;have:=hb j oM;simpa[hj] using this),(G.e 0)⟩
theorem Z6Y(xs:List Int)(f:FuncId)(cs:Array Value)(p:Int->Bool)(a:Option Addr)(c:Nat)(w:World)(hx:Z6 w (.slice a xs.length c) 1 (xs.map Z4))(hl:xs.length<=1000)
  (hf:∀args w,(callFunc f args).run (Qy.prog μ) w = .ok (.enter f args) w) (hc:∀W,Ext [] w W->∀n∈xs,Calls (Qy.prog μ) f (#[]++[Value.int .i64 n].toArray++cs) W λe W'=>e = .returned (.bool (p n))/\Ext [] W W') :
  Calls (Qy.prog μ) 72 #[.slice a xs.length c,.func (.func f) #[] cs] w λe w'=>e = .returned (.bool (xs.any p))/\Ext [] w w':=by
 have E:=Ext.refl [] w;have HX:=Lib.hid hx;have HC:=Lib.hid hc;have HF:=Lib.hid hf;clear hx hc hf;have G:=(Bk.nil w).ce E;refine(ent 9 Tryz.f72 rfl) λF=>wR λk1=>(F.m) λF=>k1<|wR λk2=>(F.m) λF=>(F.m) λF=>(F.k (ZbF xs f cs p a c _ (HX.out.ext (G.e 0) sU) hl HF.out (λW e=>HC.out W ((G.e 0).trans e)))) ?_
 rintro _ w1 ⟨r,rfl,hr,e9⟩;refine kG G e9 λF G=>(F.y F.ge) λF=>(F.m) λF=>k2<|(F.r1) ?_
 exact⟨ZK hr,(G.e 0)⟩
theorem Zg8(x:Vm)(hv:VOk x)(T:List (List Int))(hT:∀t∈T,TubS (val t))(ma:Option Addr)(mc n8 n9 n11 n12 j k l:Nat)(hj:j<T.length)(hk:k<T.length)(hl:l<x.L.length)(w:World)(h:x.At w)
  (q8:w.heap[n8]?=some (.cells x.vc 85 (0,0))) (q9:w.heap[n9]?=some (.cells #[.slice ma T.length mc] 93 (0,0))) (q11:w.heap[n11]?=some (.cells #[.int .i64 ((j:Nat):Int)] 3 (0,0))) (q12:w.heap[n12]?=some (.cells #[.int .i64 ((k:Nat):Int)] 3 (0,0)))
  (hs:SlAt [] w ma 4 T.length (λi=>tubR (val (T.getD i [])))) (h6:T.length<=6) :
  Calls (Qy.prog μ) 73 #[.int .i64 ((l:Nat):Int),.pointer (some ⟨n8,0,none⟩),.pointer (some ⟨n9,0,none⟩),.pointer (some ⟨n11,0,none⟩),.pointer (some ⟨n12,0,none⟩)] w λe w'=>e = .returned (.bool (!alkE x l (val (T.getD j [])) (val (T.getD k []))))/\Ext [] w w':=by
 have E:=Ext.refl [] w;have HX:=Lib.hid h;have HV:=Lib.hid hv;have HT:=Lib.hid hT;have HS:=Lib.hid hs;clear h hv hT hs;have G:=(Bk.nil w).ce E;replace G:=(((G.cq q8).cq q9).cq q11).cq q12;refine(ent 19 Tryz.f73 rfl) λF=>wR λk1=>(F.m) λF=>k1<|wQ λk2=>(wX 10 G) λG=>(F.s (F.lb (G.q 3))) λF=>(F.sm) λF=>(F.s (F.lc (G.q 2))) λF=>(F.s (F.lc (G.q 1))) λF=>(F.sx HS.out j) λxr3 F=>(F.s (F.lr (xr3 _ (G.e 4)))) λF=>(F.s (F.lc (G.q 2))) λF=>(F.s (F.lc (G.q 0))) λF=>(F.sx HS.out k) λxr4 F=>(F.s (F.lr (xr4 _ (G.e 4)))) λF=>wpStill_nil<|(F.k0 G (Zam x HV.out l hl (val (T.getD j [])) (val (T.getD k [])) (HT.out _ (Z11 [] oM)) (HT.out _ (Z11 [] oM)) _ (HX.out.ext (G.e 4)))) λF G=>(F.y F.nb) λF=>?_
 refine(F.m) λF=>k2<|(F.r1) ?_
 exact⟨rfl,(G.e 4)⟩
variable{μ:Nat}
def sixC(f:Nat->Int):Array Value:=#[.int .u8 (f 0),.int .u8 (f 1),.int .u8 (f 2),.int .u8 (f 3),.int .u8 (f 4),.int .u8 (f 5)]
theorem Zlx{f:Nat->Int}{i:Int}(h:i.toNat=k)(hk:k<6): (sixC f)[i.toNat]?=some (.int .u8 (f k)):=by
 subst h;rcases hi:i.toNat with _ | _ | _ | _ | _ | _ | n
 ·rfl
 ·rfl
 ·rfl
 ·rfl
 ·rfl
 ·rfl
 ·omega
theorem ZeA{w:World}{b:Nat}{T:TypeId}{fz:Nat×Nat}{f:Nat->Int}(H:w.heap[b]?=some (.cells (sixC f) T fz)){i:Int}(h:i.toNat=k)(hk:k<6): w.cell? ⟨b,0+i.toNat*1,none⟩=some (.int .u8 (f k)):=by
 rw[Z3 H,Nat.zero_add,Nat.mul_one];exact Zlx h hk
theorem Zjs{w w2:World}{b:Nat}{T:TypeId}{f:Nat->Int}{i v:Int}(e:w2=w.setCell ⟨b,0+i.toNat*1,none⟩ (.int .u8 v))(H:w.heap[b]?=some (.cells (sixC f) T (0,0)))(h:i.toNat=k)(hk:k<6): w2.heap[b]?=some (.cells (sixC (upF f k v)) T (0,0)):=by
 refine ZU e H ?_;rw[Nat.zero_add,Nat.mul_one,h];clear e H h
 match k,hk with
 | 0,_=>rfl
 | 1,_=>rfl
 | 2,_=>rfl
 | 3,_=>rfl
 | 4,_=>rfl
 | 5,_=>rfl
def nrB(x:Vm)(ls:List Int)(T:List (List Int))(j k:Nat):Bool:=!(ls.any λl=>!alkE x l.toNat (val (T.getD j [])) (val (T.getD k [])))
section
variable(p:Nat->Nat->Bool)
def fnK(j:Nat):Nat->Nat
 | 0=>0
 | k+1=>if p j k=true then fnK j k ||| 2 ^ k else fnK j k
theorem ZaH(j:Nat):∀k,k<=6->fnK p j k<64
 | 0,_=>by simp[fnK]
 | k+1,h=>by
  rw[fnK];split
  ·exact ZmM _ (ZaH j k oM) k oM
  ·exact ZaH j k oM
def finF(n j k:Nat):Nat->Int:=λi=>if i<j then((fnK p i n:Nat):Int) else if i=j then((fnK p j k:Nat):Int) else 0
theorem ZfK(h:p j k=true): upF (finF p n j k) j (((fnK p j k ||| 2 ^ k:Nat)):Int)=finF p n j (k+1):=by
 funext i;rw[upF,finF,finF];by_cases h1:i=j
 ·subst h1;simp[fnK,h]
 ·simp[h1]
theorem ZiF(h:p j k=false): finF p n j k=finF p n j (k+1):=by
 funext i;rw[finF,finF,fnK,h];simp
theorem Zds: finF p n j n=finF p n (j+1) 0:=by
 funext i;rw[finF,finF];by_cases h1:i=j
 ·subst h1;simp
 ·by_cases h2:i<j
  ·simp[h2,show i<j+1 by omega]
  ·simp[h1,h2,show ¬i<j+1 by omega,fnK]
theorem Zdt: finF p n 0 0=zf:=by
 funext i;rw[finF,zf];by_cases h:i=0
 ·simp[h,fnK]
 ·simp[h]
def finS(n i:Nat):Nat:=if i<n then fnK p i n else 0
theorem ZiG(h:n<=6)(i:Nat): finS p n i<64:=by
 rw[finS];split
 ·exact ZaH p i n h
 ·omega
theorem ZfJ(i:Nat): finF p n n 0 i=((finS p n i:Nat):Int):=by
 rw[finF,finS];by_cases h:i<n
 ·simp[h]
 ·simp[h,fnK]
def okS(n s:Nat):Bool:=(Zo s).all λi=>subB s (finS p n i.toNat)
def betS(s b:Nat):Bool:=decide (Z06 b<Z06 s)||(decide (Z06 s=Z06 b)&&decide (cmpL (Zo s) (Zo b)<0))
def Z0g(n:Nat):Nat->Nat
 | 0=>0
 | s+1=>if okS p n s&&betS s (Z0g n s) then s else Z0g n s
theorem Z6K(n:Nat):∀s,s<=64->Z0g p n s<64
 | 0,_=>by simp[Z0g]
 | s+1,h=>by
  rw[Z0g];split
  ·omega
  ·exact Z6K n s oM
theorem ZcH{s: Nat}(h:okS p n s=false): Z0g p n s=Z0g p n (s+1):=by rw[Z0g,h];simp
theorem Z8g{s: Nat}(h:okS p n s=true)(hb:Z06 (Z0g p n s)<Z06 s\/(Z06 s=Z06 (Z0g p n s)/\cmpL (Zo s) (Zo (Z0g p n s))<0)): s=Z0g p n (s+1):=by
 rw[Z0g,h,betS];rcases hb with h1 | ⟨h1,h2⟩<;>simp[*]
theorem Z4y{s: Nat}(hb:¬Z06 (Z0g p n s)<Z06 s)(h2:Z06 s=Z06 (Z0g p n s)->¬cmpL (Zo s) (Zo (Z0g p n s))<0): Z0g p n s=Z0g p n (s+1):=by
 rw[Z0g,betS,if_neg];simp only[Y5,Yo,decide_eq_true_eq,not_and,not_or];exact λ_=>⟨hb,λh=>h2 h⟩
theorem Zji{s: Nat}(h:∀i,i<(Zo s).length->subB s (finS p n ((Zo s).getD i 0).toNat)=true): okS p n s=true:=by
 rw[okS,Yl];intro n hn;obtain⟨i,hi,rfl⟩:=List.getElem_of_mem hn;simpa[hi] using h i hi
theorem Zjj{s i: Nat}(hi:i<(Zo s).length)(h:subB s (finS p n ((Zo s).getD i 0).toNat)=false): okS p n s=false:=by
 rw[okS,List.all_eq_false];exact⟨_,Z5 0 hi,by rw[h];decide⟩
end
theorem ZbW:∀s,s<64->∀n∈Zo s,0<=n/\n<6:=by decide +kernel
theorem Z6l:∀s,s<64->(Zo s).length<=6:=by decide +kernel
def mosR(x:Vm)(ls:List Int)(T:List (List Int)):List Int:=Zo (Z0g (nrB x ls T) T.length (2 ^ T.length))
theorem Zh{w:World}{base: Nat}{xs:List Int}(h:w.ownsRow base 3 1 (.slice a n c) n (ivs xs))(hn:n=xs.length): Z6 w (.slice a n c) 1 (xs.map Z4):=by
 subst hn;exact Zw (row:=Z4) (by rw[<-Z0t];exact h) (λ_=>rfl)
theorem Zjo:∀n,n<=6->2 ^ n<=64:=by decide
theorem Zhb(x:Vm)(hv:VOk x)(S:List (Value×List Int))(hs:∀p∈S,RcpOk x p.2)(h6:S.length<=6)(ls:List Int)(hll:Z5S x ls)(hl4:ls.length<=1000)(a b:Option Addr)(c d:Nat)(w:World)(h:x.At w)(hl:ZL w a S)(hq:Z6 w (.slice b ls.length d) 1 (ls.map Z4)):
  Calls (Qy.prog μ) 22 #[.agg x.vc,.slice a S.length c,.slice b ls.length d] w (Z3k (mosR x ls (S.map (·.2)),0) w):=by
 have E:=Ext.refl [] w;have HX:=Lib.hid h;have HV:=Lib.hid hv;have HL:=Lib.hid hl;have HS:=Lib.hid hs;have HQ:=Lib.hid hq;have HM:=Lib.hid hll;obtain⟨T,hT⟩:∃T,T=S.map (·.2):=⟨_,rfl⟩;have hTl:T.length=S.length:=by rw[hT,Yj]
 have HT:RowKit.Hid (∀t∈T,TubS (val t)):=Lib.hid (λt ht=>by
  rw[hT]at ht;obtain⟨p,hp,rfl⟩:=List.mem_map.1 ht;exact(hs p hp).tub)
 obtain⟨p,hp⟩:∃p,p=nrB x ls T:=⟨_,rfl⟩;have HP:=Lib.hid hp;clear h hv hl hs hq hll hp;have G:=(Bk.nil w).ce E;refine(entM 92 Tryz.f22 rfl) λF=>wR λk1=>(F.bx G) λyy F G=>(F.m) λF=>(F.al G Qy.zeroValue30) λyy F G=>k1<|wp_scope_straight<|wR λk2=>(F.df) λF=>k2<|wR λk3=>(F.y (F.lb (G.q 1))) λF=>(F.k0 G (Z09 x HV.out _ (HX.out.ext (G.e 2)))) λF G=>(F.al G Qy.zeroValue85) @λn8 w4 _ yy F G=>(F.sr G 0) λG=>k3<|wR λk4=>(F.y (F.lb (G.q 0))) λF=>?_
 refine(F.m) λF=>(F.k (Z5D x HV.out S HS.out h6 a c _ (HL.out.ext (G.e 3)))) ?_;rintro _ w6 ⟨ma,mc,rfl,om,e9⟩;refine kG G e9 λF G=>?_;rw[<-hT,<-hTl]at om;rw[<-hTl]at F;have hrm:=Lib.hid (Zw (row:=λt:List Int=>tubR (val t)) om (λ_=>rfl));clear om;replace G:=G.hr [];refine(F.al G Qy.zeroValue93) @λn9 w7 _ yy F G=>(F.st G 0) λG=>k4<|wR λk5=>(F.y (F.lb (G.q 2))) λF=>(F.m) λF=>(F.k0 G (Z7j x HV.out ls HM.out hl4 b d _ (HX.out.ext (G.e 5)) (HQ.out.ext (G.e 5) sU))) λF G=>k5<|wR λk6=>(F.al G Qy.zeroValue97) @λn10 w10 _ yy F G=>?_
 have HTs:=Lib.hid (Z0N (X:=[n10]) hrm.out (λW e=>hrm.out.ext e (by simp;omega)) []);have E9:=(G.e 2).mono (Y:=[n10]) sU;have q10:=G.q 0;replace q10:w10.heap[n10]?=some (.cells (sixC (finF p T.length 0 0)) 97 (0,0)):=by rw[Zdt];exact q10
 replace G:=G.rQ 0 q10;clear q10;replace G:=G.ce E9;refine k6<|wQ λk7=>wR λk8=>(F.y (F.lc (G.q 2))) λF=>(F.y F.ln) λF=>(F.m) λF=>k8<|Yh<|lpB (F.b [2,7,8,9,10,26]) (G.b [0,2,4,5,6,7]) T.length (λj Lv Sv W=>Lv=[(27,.int .i64 ((j:Nat):Int))]/\Sv=[.q n10 ((sixC (finF p T.length j 0))) 97]) ⟨_,_,F.u,G.u,rfl,rfl⟩ ?_
 clear F G;rintro j _ w11 _ _ hi1 ⟨rfl,rfl⟩ F G;replace G:=G.z;refine wR λk9=>(F.y F.ls) λF=>k9<|wQ λk10=>F.ci (λhc28=>?_) (λhc28=>?_)
 ·refine Yi<|k10<|wQ λk11=>Yh<|wR λk12=>(F.m) λF=>(F.al G Qy.zeroValue3) @λn11 w12 _ yy F G=>(F.st G 0) λG=>k12<|wR λk13=>(F.y (F.lc (G.q 3))) λF=>(F.y F.ln) λF=>(F.m) λF=>k13<|Yh<|lpB (F.b [2,7,8,9,10,11,26,27,31]) (G.b [0,2,3,4,5,6,7]) T.length (λk Lv Sv W=>Lv=[(32,.int .i64 ((k:Nat):Int))]/\Sv=[.q n10 ((sixC (finF p T.length j k))) 97]) ⟨_,_,F.u,G.u,rfl,rfl⟩ ?_
  clear F G;rintro k _ w14 _ _ hi2 ⟨rfl,rfl⟩ F G;replace G:=G.z;refine wR λk14=>(F.y F.ls) λF=>k14<|wQ λk15=>F.ci (λhc33=>?_) (λhc33=>?_)
  ·refine Yi<|k15<|wQ λk16=>Yh<|wR λk17=>(F.m) λF=>(F.al G Qy.zeroValue3) @λn12 w15 _ yy F G=>(F.st G 0) @λw16 G=>k17<|wR λk18=>(F.m) λF=>(F.y F.mf) λF=>?_
   have hsl:SlAt [] w16 ma 4 T.length (λi=>tubR (val (T.getD i []))):=Z7 (row:=λt:List Int=>tubR (val t)) (hrm.out.ext (G.e 3) (by simp;omega)) [];refine(F.k0 G (Z6Y ls 73 #[.pointer (some ⟨n8,0,none⟩),.pointer (some ⟨n9,0,none⟩),.pointer (some ⟨n11,0,none⟩),.pointer (some ⟨n12,0,none⟩)] (λl=>!alkE x l.toNat (val (T.getD j [])) (val (T.getD k []))) b d _ (HQ.out.ext (G.e 8) sU) hl4 Qy.call73 (λW e n hn=>(by obtain⟨h0,h1⟩:=HM.out.2.1 n hn;have hm:=Zg8 (μ:=μ) x HV.out T HT.out ma mc n8 n9 n11 n12 j k n.toNat oM oM oM W ((HX.out.ext (G.e 8)).ext e) (e.keep0 (G.q 5)) (e.keep0 (G.q 4)) (e.keep0 (G.q 2)) (e.keep0 (G.q 0)) (Zbc hsl e) oM;rw[show ((n.toNat:Nat):Int)=n by omega]at hm;exact hm)))) λF G=>(F.y F.nb) λF=>?_;have hpe:(!(ls.any λl=>!alkE x l.toNat (val (T.getD j [])) (val (T.getD k []))))=p j k:=by rw[HP.out];rfl
   rw[hpe]at F;have hfl:=ZaH p j k oM;refine k18<|F.cb (λhc38=>?_) (λhc38=>?_)
   ·refine(wX 7 G) λG=>(F.s (F.lc (G.q 2))) λF=>(F.s (F.ia 6 1)) λF=>(F.s (F.lw (ZeA (G.q 1) (k:=j) rfl oM))) λF=>?_;rw[show finF p T.length j k j=((fnK p j k:Nat):Int) by simp[finF]]at F;refine(F.s (F.lc (G.q 0))) λF=>?_;refine(F.s ((Zki rfl (ev_c _ _) (F.at rfl)))) λF=>?_;rw[shl8 k oM]at F;refine(F.s ((R_or rfl (F.at rfl) (F.at rfl)))) λF=>?_;rw[or8 _ hfl k oM]at F;refine(F.s (F.ia 6 1)) λF=>wpStill_nil<|(F.sw G 1 (ZeA (G.q 1) (k:=j) rfl oM) λ_ hw=>Zjs hw (G.q 1) (k:=j) rfl oM) λG=>?_
    have q10:=G.q 1;rw[ZfK p hc38]at q10;replace G:=G.rQ 1 q10;clear q10;refine k16<|Yg<|(F.y F.ad) λF=>(F.m) λF=>?_
    show _/\_;exact⟨oM,_,_,F.u,G.u,rfl,rfl⟩
   ·have q10:=G.q 1;rw[ZiF p hc38]at q10;replace G:=G.rQ 1 q10;clear q10;refine Yi<|k16<|Yg<|(F.y F.ad) λF=>(F.m) λF=>?_
    show _/\_;exact⟨oM,_,_,F.u,G.u,rfl,rfl⟩
  ·refine wp_exit ?_;have q10:=G.q 0;rw[show k=T.length by omega,Zds]at q10;replace G:=G.rQ 0 q10;clear q10;refine k11<|Yg<|(F.y F.ad) λF=>(F.m) λF=>?_
   show _/\_;exact⟨oM,_,_,F.u,G.u,rfl,rfl⟩
 ·refine wp_exit ?_;have q10:=G.q 0;rw[show j=T.length by omega]at q10;replace G:=G.rQ 0 q10;clear q10;refine k7<|wR λk19=>(F.m) λF=>?_
  obtain⟨M2,hM2⟩:∃M2,M2=2 ^ T.length:=⟨_,rfl⟩;have hM64:M2<=64:=by rw[hM2];exact Zjo _ oM
  rw[show (0:Int)=((Z0g p T.length 0:Nat):Int) from rfl]at F;refine k19<|wQ λk20=>wp_label<|k20<|wQ λk21=>wR λk22=>(F.y (F.lc (G.q 2))) λF=>(F.y F.ln) λF=>?_
  refine(F.y ((Zki rfl (ev_c _ _) (F.at rfl)))) λF=>?_;rw[shl8 T.length oM,<-hM2]at F;refine(F.m) λF=>?_;rw[show (0:Int)=((0:Nat):Int) from rfl]at F;refine k22<|Yh<|lpB (F.b [7,10,50]) (G.b [2,3,4,5,6]) M2 (λs Lv Sv W=>Lv=[(13,.int .u8 ((Z0g p T.length s:Nat):Int)),(51,.int .u8 ((s:Nat):Int))]/\Sv=[.q n10 ((sixC (finF p T.length T.length 0))) 97]) ⟨_,_,F.u,G.u,rfl,rfl⟩ ?_
  clear F G;rintro s _ w20 _ _ hi3 ⟨rfl,rfl⟩ F G;replace G:=G.z;refine wQ λk23=>?_;have hbl:=Z6K p T.length s oM;refine Yg<|(F.y F.ls) λF=>k23<|wQ λk24=>F.ci (λhc52=>?_) (λhc52=>?_)
  ·refine Yi<|k24<|wQ λk25=>Yh<|wR λk26=>(F.m) λF=>(F.m) λF=>k26<|wQ λk27=>wR λk28=>(F.m) λF=>(F.k (Z7n s oM _)) ?_
   rintro _ w21 ⟨sa,sc,rfl,os,e9⟩;refine kG G e9 λF G=>?_;have HSs:=Lib.hid (ZH os rfl [] sU);have RA:=Lib.hid (Zh os rfl);clear os;have hsb:=Lib.hid (ZbW s oM);have hsl6:=Z6l s oM;replace G:=G.hr [];refine(F.y F.ln) λF=>(F.m) λF=>k28<|Yh<|lpB (F.b [7,10,13,14,50,51,55,56]) (G.b [0,2,3,4,5,6]) ((Zo s).length) (λi Lv Sv W=>Lv=[(57,.int .i64 ((i:Nat):Int))]/\Sv=[.q n10 ((sixC (finF p T.length T.length 0))) 97]/\∀j,j<i->subB s (finS p T.length ((Zo s).getD j 0).toNat)=true) ⟨_,_,F.u,G.u,rfl,rfl,(λj h=>by omega)⟩ ?_
   clear F G;rintro i _ w22 _ _ hi4 ⟨rfl,rfl,hoks⟩ F G;replace G:=G.z;refine wR λk29=>(F.y F.ls) λF=>k29<|wQ λk30=>F.ci (λhc58=>?_) (λhc58=>?_)
   ·refine Yi<|k30<|wQ λk31=>Yh<|wR λk32=>(F.ix HSs.out i) λxr33 F=>(F.y (F.l1 (xr33 _ (G.e 1)) 0)) λF=>(F.m) λF=>k32<|wQ λk34=>?_
    obtain⟨hn0,hn6⟩:=hsb.out _ (Z5 (l:=Zo s) (i:=i) 0 oM);refine Yg<|(F.m) λF=>(F.m) λF=>(F.y (F.ia 6 1)) λF=>(F.y (F.lw (ZeA (G.q 0) (k:=((Zo s).getD i 0).toNat) rfl oM))) λF=>?_
    rw[ZfJ]at F;refine(F.y ((Zfd rfl (F.at rfl) (F.at rfl)))) λF=>(F.y F.ne) λF=>?_;have hnt:=not8 s oM _ (ZiG p (n:=T.length) oM ((Zo s).getD i 0).toNat);refine k34<|F.ci (λhc66=>?_) (λhc66=>?_)
    ·have hsub:subB s (finS p T.length ((Zo s).getD i 0).toNat)=false:=by rw[<-hnt];exact decide_eq_false hc66
     rw[ZcH p (Zjj p (show i<(Zo s).length by omega) hsub)]at F;refine wp_exit<|k25<|Yg ?_
     refine(F.y ((Z4W rfl (F.at rfl) (ev_c _ _)))) λF=>?_;rw[add8 s oM]at F;refine(F.m) λF=>?_;show _/\_;exact⟨oM,_,_,F.u,G.u,rfl,rfl⟩
    ·have hsub:subB s (finS p T.length ((Zo s).getD i 0).toNat)=true:=by rw[<-hnt];exact decide_eq_true (Classical.not_not.1 hc66)
     refine Yi<|k31<|Yg<|(F.y F.ad) λF=>(F.m) λF=>?_
     show _/\_;exact⟨oM,_,_,F.u,G.u,rfl,rfl,(λj h=>by rcases Nat.lt_succ_iff_lt_or_eq.1 h with h | rfl;(· exact hoks j h);(· exact hsub))⟩
   ·refine wp_exit<|k27<|wQ λk35=>?_
    have hok:=Zji p (n:=T.length) (s:=s) (λj hj=>hoks j oM);refine Yg<|(F.m) λF=>(F.k0 G (Z4C s oM _)) λF G=>(F.m) λF=>(F.k0 G (Z4C (Z0g p T.length s) hbl _)) λF G=>(F.y F.gt) λF=>(F.m) λF=>?_
    by_cases hg1:(((Z06 (Z0g p T.length s):Nat):Int)<((Z06 s:Nat):Int))
    ·replace F:=F.re (k:=73) rfl (congrArg Value.bool (decide_eq_true hg1));refine(F.n) λF=>(F.n) λF=>(F.n) λF=>(F.n) λF=>(F.n) λF=>(F.n) λF=>(F.n) λF=>(F.n) λF=>(F.n) λF=>(F.n) λF=>(F.n) λF=>(F.n) λF=>(F.n) λF=>(F.y F.pT) λF=>k35 ?_
     try rw[Z4y p oM (λh=>absurd h oM)]at F
     refine(F.cT)<|Yg<|(F.m) λF=>(F.m) λF=>?_
     replace F:=F.re (k:=13) rfl (congrArg (λz:Nat=>Value.int .u8 ((z:Nat):Int)) (Z8g p hok (by first | exact .inl oM | exact .inr ⟨oM,hc87⟩)));refine k25<|Yg ?_
     refine(F.y ((Z4W rfl (F.at rfl) (ev_c _ _)))) λF=>?_;rw[add8 s oM]at F;refine(F.m) λF=>?_;show _/\_;exact⟨oM,_,_,F.u,G.u,rfl,rfl⟩
    ·replace F:=F.re (k:=73) rfl (congrArg Value.bool (decide_eq_false hg1));refine(F.m) λF=>(F.k0 G (Z4C s oM _)) λF G=>(F.m) λF=>(F.k0 G (Z4C (Z0g p T.length s) hbl _)) λF G=>(F.y F.eq) λF=>(F.m) λF=>?_;by_cases hg2:(((Z06 s:Nat):Int)=((Z06 (Z0g p T.length s):Nat):Int))
     ·replace F:=F.re (k:=79) rfl (congrArg Value.bool (decide_eq_true hg2));refine(F.m) λF=>(F.k (Z7n s oM _)) ?_;rintro _ w27 ⟨la,lc,rfl,ol,e9⟩;refine kG G e9 λF G=>?_;have RL:=Lib.hid (Zh ol rfl);clear ol;replace G:=G.hr [];refine(F.m) λF=>(F.k (Z7n (Z0g p T.length s) hbl _)) ?_;rintro _ w28 ⟨ka,kc,rfl,ok,e9⟩;refine kG G e9 λF G=>?_;have hk6:=Z6l _ hbl;refine(F.k0 G (Z34 (Zo s) (Zo (Z0g p T.length s)) la ka lc kc _ (RL.out.ext (G.e 0) sU) (Zh ok rfl) oM oM)) λF G=>(F.y F.ls) λF=>(F.y F.pT) λF=>(F.y F.pF) λF=>k35 ?_
      try rw[Z4y p oM (λh=>absurd h oM)]at F
      refine F.ci (λhc87=>?_) (λhc87=>?_)
      ·refine Yg<|(F.m) λF=>(F.m) λF=>?_
       replace F:=F.re (k:=13) rfl (congrArg (λz:Nat=>Value.int .u8 ((z:Nat):Int)) (Z8g p hok (by first | exact .inl oM | exact .inr ⟨oM,hc87⟩)));refine k25<|Yg ?_
       refine(F.y ((Z4W rfl (F.at rfl) (ev_c _ _)))) λF=>?_;rw[add8 s oM]at F;refine(F.m) λF=>?_;show _/\_;exact⟨oM,_,_,F.u,G.u,rfl,rfl⟩
      ·rw[Z4y p oM (λh=>by first | exact hc87 | exact absurd h oM)]at F;refine Yi<|k25<|Yg ?_
       refine(F.y ((Z4W rfl (F.at rfl) (ev_c _ _)))) λF=>?_;rw[add8 s oM]at F;refine(F.m) λF=>?_;show _/\_;exact⟨oM,_,_,F.u,G.u,rfl,rfl⟩
     ·replace F:=F.re (k:=79) rfl (congrArg Value.bool (decide_eq_false hg2));refine(F.n) λF=>(F.n) λF=>(F.n) λF=>(F.n) λF=>(F.n) λF=>(F.n) λF=>(F.y F.pF) λF=>(F.y F.pF) λF=>k35 ?_
      try rw[Z4y p oM (λh=>absurd h oM)]at F
      refine(F.cF)<|Yi<|k25<|Yg ?_
      refine(F.y ((Z4W rfl (F.at rfl) (ev_c _ _)))) λF=>?_;rw[add8 s oM]at F;refine(F.m) λF=>?_;show _/\_;exact⟨oM,_,_,F.u,G.u,rfl,rfl⟩
  ·refine wp_exit ?_;rw[show s=M2 by omega]at F;refine k21<|wR λk36=>(F.m) λF=>?_
   have hEs:=(G.e 5).size;refine(F.k (Z7n (Z0g p T.length M2) (Z6K p _ _ hM64) _)) ?_;rintro _ w30 ⟨ra,rc,rfl,oo,e9⟩;refine kG G e9 λF G=>?_;replace oo:=Za oo hEs;replace G:=G.co oo;refine(F.m) λF=>(F.st G 4) λG=>k36<|wp_ret ?_
   (try simp only[Exit.inBlock,Exit.then,reduceIte])
   refine Z4c F<|ZQ<|Z00 (Z3e F rfl rfl rfl Qy.underlying30 rfl (G.q 4)) ?_
   rw[<-hT,show mosR x ls T=Zo (Z0g p T.length M2) by rw[mosR,<-HP.out,hM2]];have oo:=G.o 0;exact⟨ra,rc,rfl,oo,(G.e 6)⟩
end
section
open Go.RowKit Go.Maps
variable{μ:Nat}
def mrG(t q:List Int):Nat->Int:=λk=>val q k-val t k
def mrF(t q:List Int)(i:Nat):Nat->Int:=λk=>if k<i then mrG t q k else 0
def mrC(t q:List Int):Int×Int:=(prt (mrG t q),0)
def corB(x:Vm)(t:List Int)(s:Nat->Int)(ls:List Int)(q:List Int):Bool:=((List.range 4).all λk=>decide (0<=mrG t q k))&&matE x (val q) s ls
def corO(x:Vm)(t:List Int)(s:Nat->Int)(ls:List Int)(pre:List (List Int)):Option (List Int):=Z27 (mrC t) (pre.filter (corB x t s ls))
def corR(x:Vm)(t:List Int)(s:Nat->Int)(ls:List Int):List Int×Int:=match corO x t s ls (recL x.D.length) with
 | none=>([],11)
 | some q=>(cutL (mrG t q) x.D.length,0)
theorem Ziu{x:Vm}{t q ls:List Int}{s:Nat->Int}(hk:k<4)(h:mrG t q k<0): corB x t s ls q=false:=by
 rw[corB,show ((List.range 4).all λk=>decide (0<=mrG t q k))=false from List.all_eq_false.2 ⟨k,by simpa using hk,by simp;omega⟩,Bool.false_and]
theorem Zkv{x:Vm}{t q ls:List Int}{s:Nat->Int}(h:∀k,k<4->0<=mrG t q k): corB x t s ls q=matE x (val q) s ls:=by
 rw[corB,show ((List.range 4).all λk=>decide (0<=mrG t q k))=true from Yl.2 λk hk=>decide_eq_true (h k (by simpa using hk)),Bool.true_and]
theorem Z1w{x:Vm}{t q ls:List Int}{s:Nat->Int}{pre:List (List Int)}(h:corB x t s ls q=false): corO x t s ls (pre++[q])=corO x t s ls pre:=by
 rw[corO,corO,Z38,h];rfl
theorem Zd1{x:Vm}{t q ls:List Int}{s:Nat->Int}{pre:List (List Int)}(h:corB x t s ls q=true): corO x t s ls (pre++[q])=offO (mrC t) (corO x t s ls pre) q:=by
 rw[corO,corO,Z38,h,if_pos rfl,Z5l]
theorem Zg9(t q:List Int):mrF t q 0=zf:=by funext k;simp[mrF,zf]
theorem Zlf(t q:List Int)(i:Nat):upF (mrF t q i) i (mrG t q i)=mrF t q (i+1):=by
 funext k;rw[upF,mrF,mrF];by_cases h:k=i
 ·subst h;simp
 ·by_cases h2:k<i
  ·simp[h,h2,show k<i+1 by omega]
  ·simp[h,h2,show ¬k<i+1 by omega]
theorem Ze2(t q:List Int):tubC (mrF t q 4)=tubC (mrG t q):=Z3Z λk hk=>if_pos hk
theorem Z1F{α:Type}{g:α->Nat->Int}{c:α->Int×Int}{o:Option α}{ob:Nat}{W:World}{T:TypeId}{fz:Nat×Nat}(h:W.heap[ob]?=some (.cells (Z8I g c o) T fz)): Z12 ob W=none:=by
 rw[Z12,h];cases o<;>rfl
structure CorI(x:Vm)(t:List Int)(sv lv:Value)(w:World)(B n6 n7 n9 n10 n11 n12:Nat)(o:Option (List Int))(W:World):Prop where
 q6:W.heap[n6]?=some (.cells #[sv] 22 (0,0))
 q7:W.heap[n7]?=some (.cells #[lv] 22 (0,0))
 q9:W.heap[n9]?=some (.cells #[.int .i64 0] 30 (0,0))
 q10:W.heap[n10]?=some (.cells x.vc 85 (0,0))
 q11:W.heap[n11]?=some (.cells (tubC (val t)) 88 (0,0))
 q12:W.heap[n12]?=some (.cells (Z8I (mrG t) (mrC t) o) 129 (0,0))
 E:Ext [] w W
 sz:B<=W.heap.size
theorem CorI.kept{x:Vm}{t:List Int}{sv lv:Value}{w:World}{B n6 n7 n9 n10 n11 n12:Nat}{o:Option (List Int)}{W V:World}{row:Option Nat}(h:CorI x t sv lv w B n6 n7 n9 n10 n11 n12 o W)(hg:W.grownBy V row)(h1:∀r,row=some r->B<=r)(hB:n6<B/\n7<B/\n9<B/\n10<B/\n11<B/\n12<B/\w.heap.size<=B): CorI x t sv lv w B n6 n7 n9 n10 n11 n12 o V:=by
 obtain⟨b6,b7,b9,b10,b11,b12,bw⟩:=hB;have hk:∀{k:Nat} {cs:Array Value} {T:TypeId} {fz:Nat×Nat},W.heap[k]?=some (.cells cs T fz)->k<B->V.heap[k]?=some (.cells cs T fz):=
  λ{k cs T fz} hq hb=>(hg.block k (Z8 hq) (λe=>by have:=h1 k e.symm;omega)).trans hq
 exact⟨hk h.q6 b6,hk h.q7 b7,hk h.q9 b9,hk h.q10 b10,hk h.q11 b11,hk h.q12 b12,Z0Q h.E hg λb e hl=>(by have:=h1 b e;omega),Yd h.sz hg.size⟩
theorem Zaf(x:Vm)(hv:VOk x)(t:List Int)(ht:RcpOk x t)(s:List Int)(hs:Z1s x s)(ls:List Int)(hl:Z5S x ls)(hll:ls.length<=1000)(ta sa la:Option Addr)(tc sc lc:Nat)(w:World)(h:x.At w)(hp:Z6 w (.slice ta t.length tc) 1 (t.map Z4))(hr:Z6 w (.slice sa s.length sc) 1 (s.map Z4))(hq:Z6 w (.slice la ls.length lc) 1 (ls.map Z4)):
  Calls (Qy.prog μ) 56 #[.agg x.vc,.slice ta t.length tc,.slice sa s.length sc,.slice la ls.length lc] w (Z3k (corR x t (val s) ls) w):=by
 have E:=Ext.refl [] w;have HX:=Lib.hid h;have HV:=Lib.hid hv;have HS:=Lib.hid hs;have HR:=Lib.hid hr;have HQ:=Lib.hid hq;have HP:=Lib.hid hp;have HL:=Lib.hid hl;have HT:=Lib.hid ht;have HTS:=Lib.hid ht.tub;have hd4:=hv.d4;obtain⟨hnd,hrl⟩:=Z7E x.D.length oM;have HRL:=Lib.hid hrl;clear h hv hs hr hq hl hnd hrl ht hp;have G:=(Bk.nil w).ce E;refine(entM 64 Tryz.f56 rfl) λF=>wR λk1=>(F.bx G) λyy F G=>(F.bx G) @λn6 w2 _ yy F G=>(F.bx G) @λn7 w3 _ yy F G=>(F.m) λF=>(F.al G Qy.zeroValue30) @λn9 w4 _ yy F G=>k1<|wp_scope_straight<|wR λk2=>(F.df) λF=>k2<|wR λk3=>(F.y (F.lb (G.q 3))) λF=>(F.k0 G (Z09 x HV.out _ (HX.out.ext (G.e 4)))) λF G=>(F.al G Qy.zeroValue85) @λn10 w6 _ yy F G=>(F.sr G 0) λG=>k3<|wQ λk4=>Yg ?_
 refine(F.y (F.lb (G.q 0))) λF=>(F.m) λF=>(F.k0 G (Z0B x HV.out t HT.out ta tc _ (HP.out.ext (G.e 5) sU))) λF G=>(F.al G Qy.zeroValue88) @λn11 w9 _ yy F G=>(F.sr G 0) λG=>k4<|wR λk5=>(F.y (F.lb (G.q 1))) λF=>(F.y (F.lc (G.q 4))) λF=>(F.k0 G (Z2n x HV.out s HS.out sa sc _ (HR.out.ext (G.e 6) sU))) λF G=>k5<|wR λk6=>(F.y (F.lb (G.q 1))) λF=>(F.y (F.lc (G.q 3))) λF=>(F.k0 G (Z7j x HV.out ls HL.out hll la lc _ (HX.out.ext (G.e 6)) (HQ.out.ext (G.e 6) sU))) λF G=>k6<|wR λk7=>(F.al G Qy.zeroValue129) @λn12 w13 _ yy F G=>?_
 have q12:=G.q 0;replace q12:w13.heap[n12]?=some (.cells (Z8I (mrG t) (mrC t) (corO x t (val s) ls [])) 129 (0,0)):=q12;replace G:=G.rQ 0 q12;clear q12;refine k7<|wQ λk8=>wp_label<|k8<|wQ λk9=>wR λk10=>(F.y (F.lb (G.q 2))) λF=>?_
 have b12':=Z8 (G.q 0);refine(F.k (Z5m x _)) ?_;rintro _ w14 ⟨nb,rfl,hnb,qb,e9⟩;refine kG G e9 λF G=>k10<|Yh ?_
 have q12:=G.q 0;have q11:=G.q 1;have q10:=G.q 2;have q9:=G.q 3;have q7:=G.q 4;have q6:=G.q 5;have q4:=G.q 6;have E:=G.e 7;clear G;clear q4;obtain⟨w3,hw3⟩:∃w3,w3=w14:=⟨_,rfl⟩;have b6:=Z8 q6;have b7:=Z8 q7;have b9:=Z8 q9;have b10:=Z8 q10;have b11:=Z8 q11;have b12:=Z8 q12;have bb:=Z8 qb;have bw:=E.size;have hr0:Z12 n12 w14=none:=Z1F q12;have hseq:=Z4p (μ:=μ) x hd4 [] n12 nb w14 b12 sU (λr e=>by rw[hr0]at e;cases e) ⟨sU,oM,by rw[hr0];simp⟩ qb;have hI0:CorI x t (.slice sa s.length sc) (.slice la ls.length lc) w w14.heap.size n6 n7 n9 n10 n11 n12 (corO x t (val s) ls []) w14:=⟨q6,q7,q9,q10,q11,q12,E,Ye _⟩;replace F:=F.b [6,7,9,10,11,12,28];refine Zem (F.at rfl) Qy.call126 hseq (λ_=>rfl) b12 (λpre W=>CorI x t (.slice sa s.length sc) (.slice la ls.length lc) w w14.heap.size n6 n7 n9 n10 n11 n12 (corO x t (val s) ls pre) W) ?h1 ?ho ?hc hI0 (λpre q a' W=>∃nt,Has 64 [] a' [(6,.pointer (some ⟨n6,0,none⟩)),(7,.pointer (some ⟨n7,0,none⟩)),(9,.pointer (some ⟨n9,0,none⟩)),(10,.pointer (some ⟨n10,0,none⟩)),(11,.pointer (some ⟨n11,0,none⟩)),(12,.pointer (some ⟨n12,0,none⟩)),(13,.pointer (some ⟨nt,0,none⟩))]/\CorI x t (.slice sa s.length sc) (.slice la ls.length lc) w w14.heap.size n6 n7 n9 n10 n11 n12 (corO x t (val s) ls pre) W/\W.heap[nt]?=some (.cells (tubC (val q)) 88 (0,0))/\w14.heap.size<=nt) ?hax ?assign ?body ?done
 case h1=>rintro pre U V hI hg;exact hI.kept hg (λr e=>by cases e) ⟨b6,b7,b9,b10,b11,b12,bw⟩
 case ho=>rintro pre U V r hI hr ⟨o,ho,hc⟩ hg;exact hI.kept hg (λr' e=>by cases e;exact hr) ⟨b6,b7,b9,b10,b11,b12,bw⟩
 case hc=>rintro pre U V r hI hr hsf-hg;exact hI.kept hg (λr' e=>by cases e;exact hr) ⟨b6,b7,b9,b10,b11,b12,bw⟩
 case hax=>rintro pre q a' U V r ⟨nt,hF,hI,hnt,hn⟩ hr ⟨o,ho,hc⟩ hg;refine⟨nt,hF,hI.kept hg (λr' e=>by cases e;exact hr) ⟨b6,b7,b9,b10,b11,b12,bw⟩,(hg.block nt (Z8 hnt) (λe=>?_)).trans hnt,hn⟩;cases e;rw[ho]at hnt;cases hnt;cases hc
 case assign =>
  clear q6 q7 q9 q10 q11 q12 qb E hI0;rintro l pre q W K ⟨q6,q7,q9,q10,q11,q12,E,hsz⟩ hK;have hbo:=Z8 q12;refine Zbl (F.param (p:=29) dC (.agg (tubC (val q)))) ?_;clear F;intro fa F;have ER:Ext [] W W:=Ext.refl _ _;have G:=(((((((Bk.nil W).ce E).cq q6).cq q7).cq q9).cq q10).cq q11).cq q12;replace G:=G.ce ER;refine iG<|(F.al G Qy.zeroValue88) @λn13 w15 _ yy F G=>(F.sr G 0) λG=>?_
  exact hK _ _ (Z0j (G.e 1) sU) (Z67 (G.e 1) hbo) ⟨n13,F.sub (.c 6 rfl (.c 7 rfl (.c 9 rfl (.c 10 rfl (.c 11 rfl (.c 12 rfl (.c 13 rfl .n))))))),⟨(G.q 7),(G.q 6),(G.q 5),(G.q 4),(G.q 3),(G.q 2),(G.e 8),Yd hsz (G.e 1).size⟩,(G.q 0),oM⟩
 case body =>
  clear q6 q7 q9 q10 q11 q12 qb E hI0 F;rintro l pre q fa W0 ⟨nt,F,⟨q6,q7,q9,q10,q11,q12,E,hsz⟩,q13,hnt⟩ hpx;have hqm:q∈recL x.D.length:=hpx.subset sU;obtain⟨hql,hqs,hqg,hq1,hq6,hqb⟩:=HRL.out q hqm;have hro:Z12 n12 W0=none:=Z1F q12;have ER:Ext [n12] W0 W0:=Ext.refl _ _;have hsz0:=hsz;have G:=(((((((Bk.nil W0).ce E).cq q6).cq q7).cq q9).cq q10).cq q11).cq q12;replace G:=(G.ce ER).cq q13;refine wpIn_block<|iQ λk11=>iG<|(F.al G Qy.zeroValue88) @λn14 w17 _ yy F G=>?_
  have q14:=G.q 0;replace q14:w17.heap[n14]?=some (.cells (tubC (mrF t q 0)) 88 (0,0)):=by rw[Zg9];exact q14
  replace G:=G.rQ 0 q14;clear q14;refine k11<|iQ λk12=>iQ λk13=>iG<|(F.m) λF=>k13<|wpIn_block<|lpIB (F.b [6,7,10,11,12,13,14]) (G.b [1,2,3,4,5,6,7,8,9]) (4) (λi Lv Sv W=>Lv=[(30,.int .i64 ((i:Nat):Int))]/\Sv=[.q n14 ((tubC (mrF t q i))) 88]/\∀j,j<i->0<=mrG t q j) ⟨_,_,F.u,G.u,rfl,rfl,(λj h=>by omega)⟩ ?_
  clear F G;rintro i _ w18 _ _ hi1 ⟨rfl,rfl,hge⟩ F G;replace G:=G.z;refine iQ λk14=>iG<|(F.y F.ls) λF=>k14<|iQ λk15=>F.Ici (λhc31=>?_) (λhc31=>?_)
  ·refine wpIn_skip<|k15<|iQ λk16=>wpIn_block<|iQ λk17=>iG<|(F.m) λF=>(F.m) λF=>k17<|iQ λk18=>?_
   have hqi:=hqs i oM;have hti:=HTS.out i oM;have hmg:val q i-val t i=mrG t q i:=rfl;have G2:=G;refine(iD [] (some 9) G) λG=>(F.z 0 (G.t 0) F.mo) λF=>(F.z 1 (G.t 0) F.mo) λF=>(F.z 2 (G.t 0) (F.ia 4 1)) λF=>(F.zr 3 (G.t 0) λhS=>F.lw (Z2v (G2.k 1 hS) (k:=i) rfl oM)) λF=>(F.z 4 (G.t 0) F.mo) λF=>(F.z 5 (G.t 0) (F.ia 4 1)) λF=>(F.zr 6 (G.t 0) λhS=>F.lw (Z2v (G2.k 4 hS) (k:=i) rfl oM)) λF=>(F.z 7 (G.t 0) F.sb) λF=>(F.z 8 (G.t 0) (F.ia 4 1)) λF=>?_;replace G:=G.d 0;refine(aO 9)<|(F.osw G 0 (Z2v (G.q 0) (k:=i) rfl oM) λ_ hw=>Z9Y hw (G.q 0) (k:=i) rfl oM) @λw20 G=>.intro (gone kR) ?_
   have q14:=G.q 0;rw[hmg,Zlf]at q14;replace G:=G.rQ 0 q14;clear q14;refine(aD)<|k18<|iQ λk19=>iG<|(F.m) λF=>(F.y (F.ia 4 1)) λF=>(F.y (F.lw (Z2v (G.q 0) (k:=i) rfl oM))) λF=>?_
   rw[show mrF t q (i+1) i=mrG t q i by simp[mrF]]at F;refine(F.y F.ls) λF=>k19<|F.Ici (λhc45=>?_) (λhc45=>?_)
   ·have hcb:corB x t (val s) ls q=false:=Ziu (k:=i) oM hc45;refine wpIn_exit ?_;have q14:=G.q 0
    try (rw[show i=4 by omega,Ze2]at q14;have hge4:∀j,j<4->0<=mrG t q j:=λj hj=>hge j oM)
    replace G:=G.rQ 0 q14;clear q14
    (try simp only[Exit.inBlock,reduceIte])
    show KeepsFrom _ _ _/\KeepR _ _ _ _/\_;rw[<-hw3];refine⟨Z0j (G.e 2) (by intro b hb;simp only[Yc,Ya,or_false]at hb;subst hb;exact .inl (by rw[hw3];exact b12)),Z0A (G.e 2) (by intro k cs T fz hk hsf hm;simp only[Yc,Ya,or_false]at hm;exact hsf.2.1 hm) (.inl ((Z1F (G.q 3)).trans hro.symm)),?_⟩;have hsw:w3.heap.size<=w20.heap.size:=(by rw[hw3];exact Yd hsz0 (G.e 2).size);show CorI _ _ _ _ _ _ _ _ _ _ _ _ (corO x t (val s) ls (pre++[q])) _
    first | exact⟨(G.q 8),(G.q 7),(G.q 6),(G.q 5),(G.q 4),(G.q 3),(G.e 9),hsw⟩ | (rw[Z1w hcb];exact⟨(G.q 8),(G.q 7),(G.q 6),(G.q 5),(G.q 4),(G.q 3),(G.e 9),hsw⟩) | (rw[Z1w (hco.trans hc51)];exact⟨(G.q 8),(G.q 7),(G.q 6),(G.q 5),(G.q 4),(G.q 3),(G.e 9),hsw⟩)
   ·refine wpIn_skip<|k16<|iG<|(F.y F.ad) λF=>(F.m) λF=>?_
    show _/\_;exact⟨oM,_,_,F.u,G.u,rfl,rfl,(λj h=>by rcases Nat.lt_succ_iff_lt_or_eq.1 h with h | rfl;(· exact hge j h);(· omega))⟩
  ·refine wpIn_exit ?_;have q14:=G.q 0
   try (rw[show i=4 by omega,Ze2]at q14;have hge4:∀j,j<4->0<=mrG t q j:=λj hj=>hge j oM)
   replace G:=G.rQ 0 q14;clear q14;refine k12<|iQ λk20=>iG<|(F.y (F.lb (G.q 5))) λF=>(F.y (F.lb (G.q 1))) λF=>(F.y (F.lc (G.q 8))) λF=>(F.y (F.lc (G.q 7))) λF=>(F.k0 G (Z7u x HV.out (val q) hqs s HS.out ls HL.out.2.1 hll sa la sc lc _ (HX.out.ext (G.e 9)) (HR.out.ext (G.e 9) sU) (HQ.out.ext (G.e 9) sU))) @λw21 _ F G=>?_
   have hco:=Zkv (x:=x) (s:=val s) (ls:=ls) hge4;refine k20<|F.Icb (λhc51=>?_) (λhc51=>?_)
   ·have G4:=G;refine(iD [n12] none G) λG=>(F.zr 0 (G.t 0) λhS=>F.lb (G4.k 0 hS)) λF=>(F.zr 1 (G.t 0) λhS=>F.lb (G4.k 0 hS)) λF=>?_;have hmb:∀k,k<4->0<=mrG t q k/\mrG t q k<=1000:=λk hk=>⟨hge4 k hk,by have:=hqs k hk;have:=HTS.out k hk;rw[mrG];omega⟩;refine(aO 2)<|(F.ok0 G (ZY (mrG t q) hmb _)) λF G=>.intro (G.t 0)<|(F.z 3 (G.t 0) (F.bv #[.int .i64 (prt (mrG t q)),.int .i64 0])) λF=>?_
    have q12:=G.q 4;replace G:=G.d 4;refine(aO 4)<|(F.ok (Z8J (mrG t) (mrC t) n12 (corO x t (val s) ls pre) q _ q12)) ?_
    rintro _ w24 ⟨rfl,q12',e9⟩;refine⟨_,rfl,λF=>?_⟩;replace G:=G.x e9;refine .intro (G.t 0) ?_;rw[<-Zd1 (hco.trans hc51)]at q12';replace q12:=q12';clear q12';replace G:=G.cq q12;refine(aD) ?_
    (try simp only[Exit.inBlock,reduceIte])
    show KeepsFrom _ _ _/\KeepR _ _ _ _/\_;rw[<-hw3];refine⟨Z0j (G.e 4) (by intro b hb;simp only[Yc,Ya,or_false]at hb;subst hb;exact .inl (by rw[hw3];exact b12)),Z0A (G.e 4) (by intro k cs T fz hk hsf hm;simp only[Yc,Ya,or_false]at hm;exact hsf.2.1 hm) (.inl ((Z1F (G.q 0)).trans hro.symm)),?_⟩;have hsw:w3.heap.size<=w24.heap.size:=(by rw[hw3];exact Yd hsz0 (G.e 4).size);show CorI _ _ _ _ _ _ _ _ _ _ _ _ (corO x t (val s) ls (pre++[q])) _
    first | exact⟨(G.q 9),(G.q 8),(G.q 7),(G.q 6),(G.q 5),(G.q 0),(G.e 10),hsw⟩ | (rw[Z1w hcb];exact⟨(G.q 9),(G.q 8),(G.q 7),(G.q 6),(G.q 5),(G.q 0),(G.e 10),hsw⟩) | (rw[Z1w (hco.trans hc51)];exact⟨(G.q 9),(G.q 8),(G.q 7),(G.q 6),(G.q 5),(G.q 0),(G.e 10),hsw⟩)
   ·refine wpIn_skip ?_
    (try simp only[Exit.inBlock,reduceIte])
    show KeepsFrom _ _ _/\KeepR _ _ _ _/\_;rw[<-hw3];refine⟨Z0j (G.e 2) (by intro b hb;simp only[Yc,Ya,or_false]at hb;subst hb;exact .inl (by rw[hw3];exact b12)),Z0A (G.e 2) (by intro k cs T fz hk hsf hm;simp only[Yc,Ya,or_false]at hm;exact hsf.2.1 hm) (.inl ((Z1F (G.q 3)).trans hro.symm)),?_⟩;have hsw:w3.heap.size<=w21.heap.size:=(by rw[hw3];exact Yd hsz0 (G.e 2).size);show CorI _ _ _ _ _ _ _ _ _ _ _ _ (corO x t (val s) ls (pre++[q])) _
    first | exact⟨(G.q 8),(G.q 7),(G.q 6),(G.q 5),(G.q 4),(G.q 3),(G.e 9),hsw⟩ | (rw[Z1w hcb];exact⟨(G.q 8),(G.q 7),(G.q 6),(G.q 5),(G.q 4),(G.q 3),(G.e 9),hsw⟩) | (rw[Z1w (hco.trans hc51)];exact⟨(G.q 8),(G.q 7),(G.q 6),(G.q 5),(G.q 4),(G.q 3),(G.e 9),hsw⟩)
 case done =>
  clear q6 q7 q9 q10 q11 q12 qb E hI0;rintro D W hD ⟨q6,q7,q9,q10,q11,q12,E,hsz⟩ qD;have G:=(((((((Bk.nil W).ce E).cq q6).cq q7).cq q9).cq q10).cq q11).cq q12;replace G:=G.hr [n9];replace F:=F.mark (d:={target:=.collected D,args:=#[]});refine k9<|wQ λk21=>wQ λk22=>?_
  by_cases hN:corO x t (val s) ls (recL x.D.length)=none
  ·have q12:=G.q 1;replace q12:W.heap[n12]?=some (.cells #[.int .i64 (zf 0),.int .i64 (zf 1),.int .i64 (zf 2),.int .i64 (zf 3),.int .i64 0,.int .i64 0,.bool false] 129 (0,0)):=by rw[hN]at q12;exact q12
   replace G:=G.rQ 1 q12;clear q12;refine Yg<|(F.y (F.fd 6)) λF=>(F.y (F.lc (G.q 1))) λF=>(F.y F.nb) λF=>k22<|(F.cT)<|wR λk23=>(F.m) λF=>(F.st G 4) λG=>k23<|wp_ret ?_
   (try simp only[Exit.inBlock,Exit.then,reduceIte])
   refine Z4c F<|Z9L (G.dq 0 qD) λ_ hw=>?_
   replace G:=(G.d 0).pw hw (G.dq 0 qD);refine ZQ<|Z00 (Z3e F rfl rfl rfl Qy.underlying30 rfl (G.q 3)) ?_
   rw[corR,hN];exact⟨none,0,rfl,World.ownsRow_nil _ _ _ _,(G.e 6)⟩
  ·obtain⟨q,hq⟩:=Option.ne_none_iff_exists'.1 hN;have q12:=G.q 1;replace q12:W.heap[n12]?=some (.cells #[.int .i64 (mrG t q 0),.int .i64 (mrG t q 1),.int .i64 (mrG t q 2),.int .i64 (mrG t q 3),.int .i64 (mrC t q).1,.int .i64 (mrC t q).2,.bool true] 129 (0,0)):=by rw[hq]at q12;exact q12
   replace G:=G.rQ 1 q12;clear q12;refine Yg<|(F.y (F.fd 6)) λF=>(F.y (F.lc (G.q 1))) λF=>(F.y F.nb) λF=>k22<|(F.cF)<|Yi<|k21<|wR λk24=>(F.y (F.lb (G.q 3))) λF=>(F.y (F.fd 0)) λF=>(F.y (F.lr (Z6i (n:=4) (G.q 1) rfl (midS get0 (midS (getS get0) (midS (getS (getS get0)) (midS (getS (getS (getS get0))) mid0))))))) λF=>?_
   have hEs:=(G.e 7).size;refine(F.k (Zd2 x HV.out (mrG t q) _)) ?_;rintro _ w27 ⟨ca,cc,rfl,oo,e9⟩;refine kG G e9 λF G=>?_;replace oo:=Za oo hEs;replace G:=G.co oo;refine(F.m) λF=>(F.st G 5) λG=>k24<|wp_ret ?_
   (try simp only[Exit.inBlock,Exit.then,reduceIte])
   refine Z4c F<|Z9L (G.dq 1 qD) λ_ hw=>?_
   replace G:=(G.d 1).pw hw (G.dq 1 qD);refine ZQ<|Z00 (Z3e F rfl rfl rfl Qy.underlying30 rfl (G.q 4)) ?_
   rw[corR,hq];refine⟨ca,cc,?_,?_,(G.e 7)⟩
   ·simp only[Z4D]
   have oo:=G.o 0
   ·simp only[Z4D];exact oo
end
section
open Go.RowKit
variable{μ:Nat}
section
variable(c:Int->Int->Int)
def swp(l:List Int)(j:Nat):List Int:=(l.set (j+1) (l.getD j 0)).set j (l.getD (j+1) 0)
def bubL:List Int->Nat->List Int
 | l,0=>l
 | l,j+1=>if c (l.getD (j+1) 0) (l.getD j 0)<0 then bubL (swp l j) j else l
def srtK(l:List Int):Nat->List Int
 | 0=>l
 | k+1=>bubL c (srtK l k) (k+1)
def srtL(l:List Int):List Int:=srtK c l (l.length-1)
theorem Za9(l:List Int)(j:Nat):(swp l j).length=l.length:=by simp[swp]
theorem ZeV(h:j+1<l.length){p:Int->Prop}(hp:∀n∈l,p n): ∀n∈swp l j,p n:=by
 intro n hn;rcases List.mem_or_eq_of_mem_set hn with hn | rfl
 ·rcases List.mem_or_eq_of_mem_set hn with hn | rfl
  ·exact hp n hn
  ·exact hp _ (Z5 0 oM)
 ·exact hp _ (Z5 0 h)
theorem ZcL:∀(j:Nat) (l:List Int),(bubL c l j).length=l.length
 | 0,_=>rfl
 | j+1,l=>by
  rw[bubL];split
  ·rw[ZcL j,Za9]
  ·rfl
theorem ZcM{p:Int->Prop}:∀(j:Nat) (l:List Int),j<l.length->(∀n∈l,p n)->∀n∈bubL c l j,p n
 | 0,_,_,h=>h
 | j+1,l,hj,h=>by
  rw[bubL];split
  ·exact ZcM j _ (by rw[Za9];omega) (ZeV hj h)
  ·exact h
theorem Z7O(l:List Int):∀k,(srtK c l k).length=l.length
 | 0=>rfl
 | k+1=>by rw[srtK,ZcL,Z7O l k]
theorem ZeO{p:Int->Prop}(l:List Int)(h:∀n∈l,p n):∀k,k<l.length->∀n∈srtK c l k,p n
 | 0,_=>h
 | k+1,hk=>by rw[srtK];exact ZcM c _ _ (by rw[Z7O];exact hk) (ZeO l h k oM)
theorem Zfn(h:¬c (l.getD (j+1) 0) (l.getD j 0)<0): bubL c l (j+1)=l:=by rw[bubL,if_neg h]
theorem Zkp(h:c (l.getD (j+1) 0) (l.getD j 0)<0): bubL c l (j+1)=bubL c (swp l j) j:=by rw[bubL,if_pos h]
end
theorem ZdG(f:FuncId)(cs:Array Value)(c:Int->Int->Int)(p:Int->Prop)(base r n:Nat)(a:Option Addr)(ca:Nat)(l:List Int)(w:World)(hn:l.length=n)(h1:n<=1000)(hp:∀m∈l,p m)(ho:w.ownsRow base 3 1 (.slice a n ca) n (ivs l))(hr:∀b,(Value.slice a n ca).ownBlock=some b->b=r)
  (hf:∀args w,(callFunc f args).run (Qy.prog μ) w = .ok (.enter f args) w) (hc:∀W,Ext [r] w W->∀m k,p m->p k->Calls (Qy.prog μ) f (#[]++[Value.int .i64 m,Value.int .i64 k].toArray++cs) W λe W'=>e = .returned (.int .i64 (c m k))/\Ext [] W W') :
  Calls (Qy.prog μ) 148 #[.slice a n ca,.int .i64 0,.int .i64 ((n:Nat):Int),.func (.func f) #[] cs] w λe w'=>e = .returned (.tuple #[])/\w'.ownsRow base 3 1 (.slice a n ca) n (ivs (srtL c l))/\Ext [r] w w':=by
 have E:Ext [r] w w:=Ext.refl _ _;have HC:=Lib.hid hc;have HF:=Lib.hid hf;have HP:=Lib.hid hp;have HR:=Lib.hid hr;replace ho:w.ownsRow base 3 1 (.slice a n ca) n (ivs (srtK c l 0)):=ho;clear hc hf hp hr;have G:=(Bk.nil w).ce E;replace G:=G.co ho;refine(ent 53 Tryz.f148 rfl) λF=>wR λk1=>(F.m) λF=>(F.y F.ad) λF=>?_;rw[show (0:Int)+1=((0+1:Nat):Int) from rfl]at F;refine(F.m) λF=>k1<|Yh<|lpB (F.b [0,1,2,3]) (G.b [1]) n (λi Lv Sv W=>Lv=[(8,.int .i64 ((i+1:Nat):Int))]/\Sv=[]/\W.ownsRow base 3 1 (.slice a n ca) n (ivs (srtK c l i))/\(i<n\/(i=0/\n=0))) ⟨_,_,F.u,G.u,rfl,rfl,(G.o 0),oM⟩ ?_
 clear F G;rintro i _ w1 _ _ hi1 ⟨rfl,rfl,ho,hin⟩ F G;replace G:=(G.z).co ho;refine wQ λk2=>wR λk3=>(F.m) λF=>(F.m) λF=>(F.y F.ls) λF=>k3<|F.ci (λhc14=>?_) (λhc14=>?_)
 ·refine Yi<|k2<|wQ λk4=>Yh<|wR λk5=>(F.m) λF=>(F.m) λF=>k5<|Yh<|lpB (F.b [0,1,2,3,8]) (G.b [1]) (i+1) (λk Lv Sv W=>∃j:Nat,∃l2:List Int,Lv=[(9,.int .i64 ((j:Nat):Int))]/\Sv=[]/\W.ownsRow base 3 1 (.slice a n ca) n (ivs l2)/\j+k=i+1/\l2.length=n/\bubL c l2 j=srtK c l (i+1)/\∀m∈l2,p m) ⟨_,_,F.u,G.u,_,_,rfl,rfl,(G.o 0),oM,(by rw[Z7O];exact hn),rfl,(ZeO c l HP.out i oM)⟩ ?_
  clear F G;rintro k _ w2 _ _ hi2 ⟨j,l2,rfl,rfl,ho,hjk,hl2,hb2,hm2⟩ F G;replace G:=(G.z).co ho;refine wQ λk6=>wQ λk7=>?_;by_cases hj0:j=0
  ·subst hj0;refine(wX 14 G) λG=>(F.sm) λF=>(F.sm) λF=>(F.s F.gtF) λF=>(F.sm) λF=>(F.sn) λF=>(F.sn) λF=>(F.sn) λF=>(F.sn) λF=>(F.sn) λF=>(F.sn) λF=>(F.sn) λF=>(F.sn) λF=>(F.sn) λF=>(F.sn) λF=>wpStill_nil ?_;refine(F.n) λF=>(F.n) λF=>(F.y F.pF) λF=>?_;have ho:=G.o 0;rw[show l2=srtK c l (i+1) from hb2]at ho;replace G:=G.rO 0 ho;clear ho;refine k7<|(F.cF)<|wp_exit<|k4<|Yg<|(F.m) λF=>(F.y F.ad) λF=>?_
   rw[show ((i+1:Nat):Int)+1=((i+1+1:Nat):Int) from rfl]at F;refine(F.m) λF=>?_;show _/\_;exact⟨oM,_,_,F.u,G.u,rfl,rfl,(G.o 0),oM⟩
  ·obtain⟨j,rfl⟩:∃j',j=j'+1:=⟨j-1,oM⟩;have ho:=G.o 0;have HS:=Lib.hid (ZH ho hl2.symm [] sU);replace G:=G.hr [];refine(wX 14 G) λG=>(F.sm) λF=>(F.sm) λF=>(F.s F.gtT) λF=>(F.sm) λF=>(F.sm) λF=>(F.sm) λF=>(F.sm) λF=>(F.sx HS.out (j+1)) λxr8 F=>(F.s (F.l1 (xr8 _ (G.e 0)) 0)) λF=>(F.sm) λF=>(F.sm) λF=>(F.s F.sb) λF=>?_;rw[show ((j+1:Nat):Int)-1=((j:Nat):Int) by omega]at F;refine(F.sx HS.out j) λxr9 F=>(F.s (F.l1 (xr9 _ (G.e 0)) 0)) λF=>wpStill_nil ?_;refine(F.kr (Z30 rfl (F.at rfl) HF.out (mpS (F.at rfl) (mpS (F.at rfl) mp0)) rfl) (HC.out _ (G.e 2) (l2.getD (j+1) 0) (l2.getD j 0) (hm2 _ (Z5 0 oM)) (hm2 _ (Z5 0 oM)))) ?_;rintro _ w5 ⟨rfl,e9⟩;refine kG G e9 λF G=>(F.y F.ls) λF=>(F.y F.pT) λF=>k7<|F.ci (λhc34=>?_) (λhc34=>?_)
   ·refine Yi<|k6<|wQ λk10=>Yh ?_
    have ho:=G.o 1;have HS:=Lib.hid (ZH ho hl2.symm [] sU);have hil:=Z1i l2;replace G:=(G.d 0).hr [];have G2:=G;refine(wD [] (some 15) G) λG=>(F.z 0 (G.t 0) F.mo) λF=>(F.z 1 (G.t 0) F.mo) λF=>(F.z 2 (G.t 0) F.mo) λF=>(F.z 3 (G.t 0) F.mo) λF=>(F.z 4 (G.t 0) F.sb) λF=>?_;rw[show ((j+1:Nat):Int)-1=((j:Nat):Int) by omega]at F;refine(F.z 5 (G.t 0) F.mo) λF=>(F.z 6 (G.t 0) F.mo) λF=>(F.z 7 (G.t 0) F.sb) λF=>?_;rw[show ((j+1:Nat):Int)-1=((j:Nat):Int) by omega]at F;obtain⟨xb11,xo11,xa11,xr11⟩:=HS.out j oM;refine(F.z 8 (G.t 0) (F.is 1 xa11)) λF=>(F.zr 9 (G.t 0) λhS=>F.l1 (xr11 _ ((G2.e 0).nil hS)) 0) λF=>(F.z 10 (G.t 0) F.mo) λF=>(F.z 11 (G.t 0) F.mo) λF=>?_;obtain⟨xb12,xo12,xa12,xr12⟩:=HS.out (j+1) oM;refine(F.z 12 (G.t 0) (F.is 1 xa12)) λF=>(F.zr 13 (G.t 0) λhS=>F.l1 (xr12 _ ((G2.e 0).nil hS)) 0) λF=>?_;obtain⟨xb13,xo13,xa13,xr13⟩:=HS.out (j+1) oM;refine(F.z 14 (G.t 0) (F.is 1 xa13)) λF=>?_;replace G:=(G.d 1).d 0;obtain⟨⟨u0,hcu⟩,hfu,hst⟩:=Z1n (G.o 0) xa13 (j:=(j+1)) (p:=xo13+((j+1:Nat):Int).toNat*1) (by first | omega | (simp;omega)) oM;refine Z33 (i:=15) kR (Z9V rfl rfl (F.want rfl) (ZW rfl (F.at rfl) (F.at rfl) rfl kR hcu hfu) ?_);intro w7 hw;obtain⟨hown',hg⟩:=hst _ _ hw;have ho:=(G.o 0);have E:=G.e 1;replace G:=G.d 1;replace E:=Z0Q E hg (λb hb hl=>by rw[HR.out b hb];simp);replace G:=(G.gr 0 hg hown').ce E;clear hst hcu hfu hw hg hown';refine .intro (gone kR) ?_;have ho:=G.o 1;rw[Z1j]at ho;have hil2:=Z1i (l2.set (j+1) (l2.getD j 0));rw[List.length_set]at hil2;replace G:=G.rO 1 ho;clear ho;obtain⟨xb14,xo14,xa14,xr14⟩:=HS.out j oM;refine(F.z 16 (gone kR) (F.is 1 xa14)) λF=>?_;obtain⟨⟨u0,hcu⟩,hfu,hst⟩:=Z1n (G.o 1) xa14 (j:=j) (p:=xo14+((j:Nat):Int).toNat*1) (by first | omega | (simp;omega)) oM;refine Z33 (i:=17) kR (Z9V rfl rfl (F.want rfl) (ZW rfl (F.at rfl) (F.at rfl) rfl kR hcu hfu) ?_);intro w8 hw;obtain⟨hown',hg⟩:=hst _ _ hw;have ho:=(G.o 1);have E:=G.e 0;replace G:=G.d 0;replace E:=Z0Q E hg (λb hb hl=>by rw[HR.out b hb];simp);replace G:=(G.gr 0 hg hown').ce E;clear hst hcu hfu hw hg hown';refine .intro (gone kR) ?_;have ho:=G.o 1;rw[Z1j]at ho;replace ho:w8.ownsRow base 3 1 (.slice a n ca) n (ivs (swp l2 j)):=ho;replace G:=G.rO 1 ho;clear ho;refine(aD)<|k10<|Yg<|(F.m) λF=>(F.y F.sb) λF=>?_
    rw[show ((j+1:Nat):Int)-1=((j:Nat):Int) by omega]at F;refine(F.m) λF=>?_;show _/\_;exact⟨oM,_,_,F.u,G.u,_,_,rfl,rfl,(G.o 1),oM,(by rw[Za9];exact hl2),((Zkp c hc34).symm.trans hb2),(ZeV oM hm2)⟩
   ·have ho:=G.o 1;rw[show l2=srtK c l (i+1) from(Zfn c hc34).symm.trans hb2]at ho;replace G:=G.rO 1 ho;clear ho;refine wp_exit<|k4<|Yg<|(F.m) λF=>(F.y F.ad) λF=>?_
    rw[show ((i+1:Nat):Int)+1=((i+1+1:Nat):Int) from rfl]at F;refine(F.m) λF=>?_;show _/\_;exact⟨oM,_,_,F.u,G.u,rfl,rfl,(G.o 1),oM⟩
 ·refine wp_exit ?_;have ho:=G.o 0;rw[show i=l.length-1 by omega]at ho;replace G:=G.rO 0 ho;clear ho;refine(F.e0) ?_;have ho:=G.o 0;exact⟨rfl,ho,(G.e 1)⟩
variable{μ:Nat}
theorem Z5p{X:List Nat}{w W:World}{sz: Nat}{row:Nat->List Value}(h:SlAt [] w a sz n row)(e:Ext X w W)(hX:∀b∈X,w.heap.size<=b): SlAt [] W a sz n row:=λi hi=>by
 obtain⟨b,off,h1,h2⟩:=h i hi;refine⟨b,off,h1,λV e2 j v hv=>?_⟩;have h3:=h2 w (Ext.refl _ _) j v hv;have hb:b<w.heap.size:=by
  apply Classical.byContradiction;intro hn;rw[World.cell?]at h3;simp[Array.getElem?_eq_none (show w.heap.size<=b by omega)]at h3
 rw[(e.nil e2).cell (a:=⟨b,off+i*sz+j,none⟩) hb (λhm=>by have:=hX b hm;omega)];exact h3
theorem Z0w.extX{X:List Nat}{w w':World}{v:Value}{xs:List Int}(h:Z0w w v xs)(e:Ext X w w')(hX:∀b∈X,w.heap.size<=b): Z0w w' v xs:=by
 obtain⟨a,c,h1,h2⟩:=h;exact⟨a,c,h1,h2.ext e hX⟩
theorem Vm.At.extX{X:List Nat}{x:Vm}{w W:World}(h:x.At w)(e:Ext X w W)(hX:∀b∈X,w.heap.size<=b):x.At W:=
 ⟨⟨Z5p h.d.1 e hX,λp hp=>(h.d.2 p hp).extX e hX⟩,⟨Z5p h.l.1 e hX,λp hp=>(h.l.2 p hp).extX e hX⟩⟩
theorem Zcc(f:FuncId)(cs:Array Value)(c:Int->Int->Int)(p:Int->Prop)(base r n:Nat)(a:Option Addr)(ca:Nat)(l:List Int)(w:World)(hn:l.length=n)(h1:n<20)(hp:∀m∈l,p m)(ho:w.ownsRow base 3 1 (.slice a n ca) n (ivs l))(hr:∀b,(Value.slice a n ca).ownBlock=some b->b=r)
  (hf:∀args w,(callFunc f args).run (Qy.prog μ) w = .ok (.enter f args) w) (hc:∀W,Ext [r] w W->∀m k,p m->p k->Calls (Qy.prog μ) f (#[]++[Value.int .i64 m,Value.int .i64 k].toArray++cs) W λe W'=>e = .returned (.int .i64 (c m k))/\Ext [] W W') :
  Calls (Qy.prog μ) 123 #[.slice a n ca,.int .i64 ((n:Nat):Int),.func (.func f) #[] cs] w λe w'=>e = .returned (.tuple #[])/\w'.ownsRow base 3 1 (.slice a n ca) n (ivs (srtL c l))/\Ext [r] w w':=by
 have E:Ext [r] w w:=Ext.refl _ _;have HC:=Lib.hid hc;have HF:=Lib.hid hf;have HP:=Lib.hid hp;have HR:=Lib.hid hr;clear hc hf hp hr;have G:=(Bk.nil w).ce E;replace G:=G.co ho;refine(ent 63 Tryz.f123 rfl) λF=>wR λk1=>(F.m) λF=>k1<|wR λk2=>(F.m) λF=>(F.m) λF=>(F.m) λF=>k2<|wQ λk3=>Yh<|lpC (F.b [0,1,2,6]) G (0) (λi=>[(7,.int .i64 0),(8,.int .i64 20)]) F.u λi hi1 F G=>wQ λk4=>wR λk5=>(F.m) λF=>(F.m) λF=>(F.y F.le) λF=>k5<|(F.JF)<|wp_exit<|k3<|wR λk6=>(F.m) λF=>(F.m) λF=>(F.m) λF=>(F.m) λF=>?_
 have ho:=G.o 0;replace G:=G.d 0;refine(F.k (ZdG f cs c p base r n a ca l _ hn oM HP.out ho HR.out HF.out (λW e=>HC.out W ((G.e 0).trans e)))) ?_;rintro _ w2 ⟨rfl,ho2,e9⟩;refine⟨_,rfl,λF=>?_⟩;replace G:=G.x e9;replace ho:=ho2;clear ho2 e9;replace G:=G.co ho;refine k6<|Yh<|lpC (F.b [0,1,2]) G (0) (λi=>[(6,.int .i64 20)]) F.u λi hi2 F G=>wQ λk7=>wR λk8=>(F.m) λF=>(F.m) λF=>(F.y F.ls) λF=>k8<|(F.JF)<|wp_exit<|(F.e0) ?_
 have ho:=G.o 0;exact⟨rfl,ho,(G.e 1)⟩
theorem ZeE(f:FuncId)(cs:Array Value)(c:Int->Int->Int)(p:Int->Prop)(base r n:Nat)(a:Option Addr)(ca:Nat)(l:List Int)(w:World)(hn:l.length=n)(h1:n<20)(hp:∀m∈l,p m)(ho:w.ownsRow base 3 1 (.slice a n ca) n (ivs l))(hr:∀b,(Value.slice a n ca).ownBlock=some b->b=r)
  (hf:∀args w,(callFunc f args).run (Qy.prog μ) w = .ok (.enter f args) w) (hc:∀W,Ext [r] w W->∀m k,p m->p k->Calls (Qy.prog μ) f (#[]++[Value.int .i64 m,Value.int .i64 k].toArray++cs) W λe W'=>e = .returned (.int .i64 (c m k))/\Ext [] W W') :
  Calls (Qy.prog μ) 99 #[.slice a n ca,.func (.func f) #[] cs] w λe w'=>e = .returned (.tuple #[])/\w'.ownsRow base 3 1 (.slice a n ca) n (ivs (srtL c l))/\Ext [r] w w':=by
 have E:Ext [r] w w:=Ext.refl _ _;have HC:=Lib.hid hc;have HF:=Lib.hid hf;have HP:=Lib.hid hp;have HR:=Lib.hid hr;clear hc hf hp hr;have G:=(Bk.nil w).ce E;replace G:=G.co ho;refine(ent 9 Tryz.f99 rfl) λF=>Yg<|(F.m) λF=>(F.m) λF=>(F.y F.ln) λF=>(F.m) λF=>?_
 have ho:=G.o 0;replace G:=G.d 0;refine(F.k (Zcc f cs c p base r n a ca l _ hn h1 HP.out ho HR.out HF.out (λW e=>HC.out W ((G.e 0).trans e)))) ?_;rintro _ w1 ⟨rfl,ho2,e9⟩;refine⟨_,rfl,λF=>?_⟩;replace G:=G.x e9;replace ho:=ho2;clear ho2 e9;replace G:=G.co ho;refine(F.f0) ?_;have ho:=G.o 0;exact⟨rfl,ho,(G.e 1)⟩
def shdE(x:Vm)(T:List (List Int))(lp:Nat)(j k:Int):Int:=
 cmpE (prt (val (T.getD k.toNat []))*dotE (val (x.lamp lp)) (tnE x (val (T.getD j.toNat []))) x.B.toNat) (prt (val (T.getD j.toNat []))*dotE (val (x.lamp lp)) (tnE x (val (T.getD k.toNat []))) x.B.toNat)
theorem ZbX(x:Vm)(hv:VOk x)(T:List (List Int))(hT:∀t∈T,TubS (val t))(ma:Option Addr)(mc n9 n8 n4 lp:Nat)(j k:Int)(hj0:0<=j)(hj:j<T.length)(hk0:0<=k)(hk:k<T.length)(hl:lp<x.L.length)(w:World)(h:x.At w)
  (q8:w.heap[n8]?=some (.cells x.vc 85 (0,0))) (q9:w.heap[n9]?=some (.cells #[.slice ma T.length mc] 93 (0,0))) (q4:w.heap[n4]?=some (.cells #[.int .i64 ((lp:Nat):Int)] 3 (0,0)))
  (hs:SlAt [] w ma 4 T.length (λi=>tubR (val (T.getD i [])))) (h6:T.length<=6) :
  Calls (Qy.prog μ) 100 #[.int .i64 j,.int .i64 k,.pointer (some ⟨n9,0,none⟩),.pointer (some ⟨n8,0,none⟩),.pointer (some ⟨n4,0,none⟩)] w λe w'=>e = .returned (.int .i64 (shdE x T lp j k))/\Ext [] w w':=by
 have E:=Ext.refl [] w;obtain⟨j,rfl⟩:=Int.eq_ofNat_of_zero_le hj0;obtain⟨k,rfl⟩:=Int.eq_ofNat_of_zero_le hk0;have HX:=Lib.hid h;have HV:=Lib.hid hv;have HT:=Lib.hid hT;have HS:=Lib.hid hs;have hb1:=hv.b1;have hb3:=hv.b3;obtain⟨bn,hbn⟩:∃bn:Nat,x.B=bn:=⟨x.B.toNat,oM⟩;have hbn2:x.B.toNat=bn:=by omega
 have HF:RowKit.Hid (TubS (val (T.getD j []))):=Lib.hid (hT _ (Z11 [] oM));have HG:RowKit.Hid (TubS (val (T.getD k []))):=Lib.hid (hT _ (Z11 [] oM));obtain⟨f,hf⟩:∃f,f=val (T.getD j []):=⟨_,rfl⟩;obtain⟨g,hg⟩:∃g,g=val (T.getD k []):=⟨_,rfl⟩;have h1:=Z2S hv hl (λj=>Zac hv HF.out j) (n:=bn) oM;have h2:=Z2S hv hl (λj=>Zac hv HG.out j) (n:=bn) oM;have h3:=Z3K HF.out;have h4:=Z3K HG.out;have h5:=Z0F h4.1 h4.2 h1.1 h1.2 (C:=51840) oM;have h7:=Z0F h3.1 h3.2 h2.1 h2.2 (C:=51840) oM;have hal:shdE x T lp ((j:Nat):Int) ((k:Nat):Int)=cmpE (prt (val (T.getD k []))*dotE (val (x.lamp lp)) (tnE x (val (T.getD j []))) bn) (prt (val (T.getD j []))*dotE (val (x.lamp lp)) (tnE x (val (T.getD k []))) bn):=by rw[shdE,hbn2];rfl
 show Calls _ _ #[.int .i64 ((j:Nat):Int),.int .i64 ((k:Nat):Int),_,_,_] _ _;rw[hal];replace hj:j<T.length:=by omega
 replace hk:k<T.length:=by omega
 clear h hv hT hs hal hj0 hk0 hf hg f g;have G:=(Bk.nil w).ce E;replace G:=((G.cq q8).cq q9).cq q4;refine(ent 39 Tryz.f100 rfl) λF=>wR λk1=>(F.m) λF=>k1<|wQ λk2=>?_
 have G2:=G;refine(wD [] none G) λG=>(F.zr 0 (G.t 0) λhS=>F.lc (G2.k 1 hS)) λF=>(F.z 1 (G.t 0) F.mo) λF=>?_;obtain⟨xb3,xo3,xa3,xr3⟩:=HS.out k oM;refine(F.z 2 (G.t 0) (F.is 4 xa3)) λF=>(F.zr 3 (G.t 0) λhS=>F.lr (xr3 _ ((G2.e 3).nil hS))) λF=>(F.zr 5 (G.t 0) λhS=>F.lb (G2.k 2 hS)) λF=>(F.zr 6 (G.t 0) λhS=>F.lc (G2.k 0 hS)) λF=>(F.zr 7 (G.t 0) λhS=>F.lb (G2.k 2 hS)) λF=>(F.zr 8 (G.t 0) λhS=>F.lc (G2.k 1 hS)) λF=>(F.z 9 (G.t 0) F.mo) λF=>?_;obtain⟨xb4,xo4,xa4,xr4⟩:=HS.out j oM;refine(F.z 10 (G.t 0) (F.is 4 xa4)) λF=>(F.zr 11 (G.t 0) λhS=>F.lr (xr4 _ ((G2.e 3).nil hS))) λF=>(F.zr 15 (G.t 0) λhS=>F.lc (G2.k 1 hS)) λF=>(F.z 16 (G.t 0) F.mo) λF=>?_;obtain⟨xb5,xo5,xa5,xr5⟩:=HS.out j oM;refine(F.z 17 (G.t 0) (F.is 4 xa5)) λF=>(F.zr 18 (G.t 0) λhS=>F.lr (xr5 _ ((G2.e 3).nil hS))) λF=>(F.zr 20 (G.t 0) λhS=>F.lb (G2.k 2 hS)) λF=>(F.zr 21 (G.t 0) λhS=>F.lc (G2.k 0 hS)) λF=>(F.zr 22 (G.t 0) λhS=>F.lb (G2.k 2 hS)) λF=>(F.zr 23 (G.t 0) λhS=>F.lc (G2.k 1 hS)) λF=>(F.z 24 (G.t 0) F.mo) λF=>?_;obtain⟨xb6,xo6,xa6,xr6⟩:=HS.out k oM;refine(F.z 25 (G.t 0) (F.is 4 xa6)) λF=>(F.zr 26 (G.t 0) λhS=>F.lr (xr6 _ ((G2.e 3).nil hS))) λF=>(aO 4)<|(F.ok0 G (ZY (val (T.getD k [])) HG.out.ok _)) λF G=>.intro (G.t 0)<|(aO 12)<|(F.ok (Z4g x HV.out bn hbn (val (T.getD j [])) HF.out _ (HX.out.ext (G.e 4)))) ?_
 rintro _ w3 ⟨a20,rfl,oo,e9⟩;refine kG G e9 λF G=>.intro (G.t 0) ?_;have hrw:=Zw (xs:=sumL x (val (T.getD j [])) bn) (row:=Z4) (by rw[<-Z0t,show (sumL x (val (T.getD j [])) bn).length=bn by simp[sumL]];exact oo) (λ_=>rfl);have hll:(sumL x (val (T.getD j [])) bn).length=bn:=by simp[sumL]
 have hwe:=Z2P (μ:=μ) x HV.out lp hl (sumL x (val (T.getD j [])) bn) (by rw[hll];omega) (λn hn=>by have:=Z3i HV.out HF.out bn n hn;omega) a20 bn w3 (HX.out.ext (G.e 4)) (by rw[hll];exact hrw);rw[Z2D,hll]at hwe;refine(aO 13)<|(F.ok hwe) ?_
 rintro _ w4 ⟨rfl,e9⟩;refine kG G e9 λF G=>.intro (G.t 0) ?_;clear oo hrw hwe hll;refine(F.z 14 (G.t 0) F.ml) λF=>(aO 19)<|(F.ok0 G (ZY (val (T.getD j [])) HF.out.ok _)) λF G=>.intro (G.t 0)<|(aO 27)<|(F.ok (Z4g x HV.out bn hbn (val (T.getD k [])) HG.out _ (HX.out.ext (G.e 4)))) ?_
 rintro _ w6 ⟨a28,rfl,oo,e9⟩;refine kG G e9 λF G=>.intro (G.t 0) ?_;have hrw:=Zw (xs:=sumL x (val (T.getD k [])) bn) (row:=Z4) (by rw[<-Z0t,show (sumL x (val (T.getD k [])) bn).length=bn by simp[sumL]];exact oo) (λ_=>rfl);have hll:(sumL x (val (T.getD k [])) bn).length=bn:=by simp[sumL]
 have hwe:=Z2P (μ:=μ) x HV.out lp hl (sumL x (val (T.getD k [])) bn) (by rw[hll];omega) (λn hn=>by have:=Z3i HV.out HG.out bn n hn;omega) a28 bn w6 (HX.out.ext (G.e 4)) (by rw[hll];exact hrw);rw[Z2D,hll]at hwe;refine(aO 28)<|(F.ok hwe) ?_
 rintro _ w7 ⟨rfl,e9⟩;refine kG G e9 λF G=>.intro (G.t 0) ?_;clear oo hrw hwe hll;refine(F.z 29 (G.t 0) F.ml) λF=>(aO 30)<|(F.ok0 G (ZcX _ _ _)) λF G=>.intro (G.t 0)<|(F.z 31 (G.t 0) F.mo) λF=>(aD)<|k2<|(F.r1) ?_
 exact⟨rfl,(G.e 4)⟩
variable{μ:Nat}
def nums(n:Nat):List Int:=(List.range n).map λi=>((i:Nat):Int)
theorem ZaX(n:Nat):(nums n).length=n:=by simp[nums]
theorem Ze5(n:Nat):nums (n+1)=nums n++[((n:Nat):Int)]:=by simp[nums,List.range_succ]
theorem Zgc: ∀m∈nums n,0<=m/\m<n:=by
 intro m hm;simp only[nums,List.mem_map,List.mem_range]at hm;obtain⟨i,hi,rfl⟩:=hm;omega
def shaR(x:Vm)(lp:Nat)(T:List (List Int)):List Int:=srtL (shdE x T lp) (nums T.length)
theorem ZgW(c:Int->Int->Int)(l:List Int):(srtL c l).length=l.length:=by rw[srtL,Z7O]
theorem Zcl(x:Vm)(hv:VOk x)(lp:Nat)(hlp:lp<x.L.length)(S:List (Value×List Int))(hs:∀p∈S,RcpOk x p.2)(h6:S.length<=6)(a:Option Addr)(c:Nat)(w:World)(h:x.At w)(hl:ZL w a S):
  Calls (Qy.prog μ) 41 #[.agg x.vc,.int .i64 ((lp:Nat):Int),.slice a S.length c] w (Z3k (shaR x lp (S.map (·.2)),0) w):=by
 have E:=Ext.refl [] w;have HX:=Lib.hid h;have HV:=Lib.hid hv;have HL:=Lib.hid hl;have HS:=Lib.hid hs;obtain⟨T,hT⟩:∃T,T=S.map (·.2):=⟨_,rfl⟩;have hTl:T.length=S.length:=by rw[hT,Yj]
 have HT:RowKit.Hid (∀t∈T,TubS (val t)):=Lib.hid (λt ht=>by
  rw[hT]at ht;obtain⟨p,hp,rfl⟩:=List.mem_map.1 ht;exact(hs p hp).tub)
 clear h hv hl hs;have G:=(Bk.nil w).ce E;refine(entM 33 Tryz.f41 rfl) λF=>wR λk1=>(F.bx G) λyy F G=>(F.bx G) @λn4 w2 _ yy F G=>(F.m) λF=>(F.al G Qy.zeroValue30) λyy F G=>k1<|wR λk2=>(F.df) λF=>k2<|wR λk3=>(F.y (F.lb (G.q 2))) λF=>(F.k0 G (Z09 x HV.out _ (HX.out.ext (G.e 3)))) λF G=>(F.al G Qy.zeroValue85) @λn8 w5 _ yy F G=>(F.sr G 0) λG=>k3<|wQ λk4=>Yg ?_
 refine(F.y (F.lb (G.q 0))) λF=>(F.y (F.lc (G.q 2))) λF=>(F.k0 G (Z9F x HV.out ((lp:Nat):Int) oM oM _)) λF G=>k4<|wR λk5=>(F.y (F.lb (G.q 0))) λF=>(F.m) λF=>(F.k (Z5D x HV.out S HS.out h6 a c _ (HL.out.ext (G.e 4)))) ?_
 rintro _ w8 ⟨ma,mc,rfl,om,e9⟩;refine kG G e9 λF G=>?_;rw[<-hT,<-hTl]at om;rw[<-hTl]at F;have hrm:=Lib.hid (Zw (row:=λt:List Int=>tubR (val t)) om (λ_=>rfl));clear om;replace G:=G.hr [];refine(F.al G Qy.zeroValue93) @λn9 w9 _ yy F G=>(F.st G 0) @λw10 G=>k5<|wQ λk6=>wQ λk7=>?_
 have b4:=Z8 (G.q 4);have b7:=Z8 (G.q 3);have b8:=Z8 (G.q 2);have b9:=Z8 (G.q 0);have hww:=(G.e 6).size;have hwm:=(G.e 1).size;have oo:w10.ownsRow w10.heap.size 3 1 (.slice none 0 0) 0 (ivs (nums 0)):=World.ownsRow_nil _ _ _ _;replace G:=(G.hr []).co oo;refine Yg<|(F.y (F.lc (G.q 2))) λF=>(F.y F.ln) λF=>(F.m) λF=>k7<|Yh<|lpB (F.b [4,7,8,9,20]) (G.b [1,2,3,4,5,6,7,8]) T.length (λi Lv Sv W=>∃va:Option Addr,∃vc:Nat,Lv=[(6,.slice va i vc),(21,.int .i64 ((i:Nat):Int))]/\Sv=[]/\W.ownsRow w10.heap.size 3 1 (.slice va i vc) i (ivs (nums i))) ⟨_,_,F.u,G.u,none,0,rfl,rfl,(G.o 0)⟩ ?_
 clear F G;rintro i _ w11 _ _ hi1 ⟨va,vc,rfl,rfl,oo⟩ F G;replace G:=(G.z).co oo;refine wR λk8=>(F.y F.ls) λF=>k8<|wQ λk9=>F.ci (λhc22=>?_) (λhc22=>?_)
 ·refine Yi<|k9<|wQ λk10=>Yh<|wR λk11=>(F.m) λF=>(F.m) λF=>k11<|Yg<|(F.m) λF=>(F.m) λF=>(F.bs G 1 #[.int .i64 ((i:Nat):Int)] Qy.zeroValue3) λyy F G=>?_
  have hEs:=(G.e 2).size;refine Zx F rfl dC (F.want rfl) (ZE rfl w10.heap.size (e:=3) (size:=1) (bytes:=8) Qy.underlying22 kR dC (F.at rfl) (G.o 1) (F.at rfl) (G.q 0) rfl (by simp[Value.oneCell']) oM oM oM) ?_;clear F;rintro _ v' w13 F ⟨hown',hg⟩;obtain⟨va27,vc27,rfl⟩:=Zm hown';replace G:=(G.d 0).gr 0 hg hown';clear hg hown';have oo:=G.o 0;rw[show ivs (nums i)++[.int .i64 ((i:Nat):Int)]=ivs (nums (i+1)) by rw[Ze5];simp[ivs]]at oo;replace G:=G.rO 0 oo;clear oo;refine(F.m) λF=>k10<|Yg<|(F.y F.ad) λF=>(F.m) λF=>?_
  show _/\_;exact⟨oM,_,_,F.u,G.u,_,_,rfl,rfl,(G.o 0)⟩
 ·refine wp_exit ?_;have oo:=G.o 0;rw[show i=T.length by omega]at oo F;replace G:=G.rO 0 oo;clear oo;refine k6<|wQ λk12=>?_
  obtain⟨r,hrr,hrd⟩:=Zec (.slice va T.length vc) w11.heap.size;have oo:=G.o 0;have hrb:w10.heap.size<=r:=by rcases hrd with h | h;(· exact(oo.lt r h).1);(· rw[h];exact(G.e 1).size)
  refine Yg<|(F.m) λF=>(F.y F.mf) λF=>?_
  have hEM:Ext [] w8 w11:=(G.e 3);have oo:=G.o 0;replace G:=G.d 0;refine(F.k (ZeE 100 #[.pointer (some ⟨n9,0,none⟩),.pointer (some ⟨n8,0,none⟩),.pointer (some ⟨n4,0,none⟩)] (shdE x T lp) (λm=>0<=m/\m<T.length) w10.heap.size r T.length va vc (nums T.length) _ (ZaX _) oM Zgc oo hrr Qy.call100 (λW e m k hm hk=>ZbX x HV.out T HT.out ma mc n9 n8 n4 lp m k hm.1 hm.2 hk.1 hk.2 hlp W (HX.out.extX (((G.e 7).mono (Y:=[r]) sU).trans e) (by simp;omega)) (e.keep (G.q 3) (by simp;omega)) (e.keep (G.q 1) (by simp;omega)) (e.keep (G.q 5) (by simp;omega)) (Z7 (row:=λt:List Int=>tubR (val t)) (hrm.out.ext ((hEM.mono (Y:=[r]) sU).trans e) (by simp;omega)) []) oM))) ?_;rintro _ w14 ⟨rfl,oo2,e9⟩;refine⟨_,rfl,λF=>?_⟩;replace G:=G.x e9;replace oo:=oo2;clear oo2 e9;replace G:=G.co oo;refine k12<|wR λk13=>(F.m) λF=>(F.m) λF=>?_
  replace G:=(G.d 3).d 1;refine(F.st G 3) λG=>k13<|wp_ret ?_
  (try simp only[Exit.inBlock,Exit.then,reduceIte])
  refine Z4c F<|ZQ<|Z00 (Z3e F rfl rfl rfl Qy.underlying30 rfl (G.q 3)) ?_
  rw[<-hT,show shaR x lp T=srtL (shdE x T lp) (nums T.length) from rfl];have hsl:(srtL (shdE x T lp) (nums T.length)).length=T.length:=by rw[ZgW,ZaX]
  refine⟨va,vc,?_,?_,(G.e 6)⟩
  ·simp only[hsl]
  have oo:=G.o 0
  ·simp only[hsl];exact Za oo hww
variable{μ:Nat}
theorem Zgz{w:World}{b:Nat}{T:TypeId}{fz:Nat×Nat}(L:List (Value×List Int))(h:w.heap[b]?=some (.cells (L.map (·.1)).toArray T fz)): SlAt [] w (some ⟨b,0,none⟩) 1 L.length (λi=>[(L.getD i (.bool true,[])).1]):=λi hi =>
 ⟨b,0,λ_ _=>rfl,λW e j v hv=>by
  obtain rfl:j=0:=by
   rcases j with _ | j
   ·rfl
   ·simp at hv
  rw[Z3 (e.keep0 h)];simp only[List.getElem?_cons_zero,Y4]at hv;subst hv;simp[hi]⟩
theorem Z7p{w:World}{b:Nat}{T:TypeId}{fz:Nat×Nat}(L:List (Value×List Int))(h:w.heap[b]?=some (.cells (L.map (·.1)).toArray T fz))(hr:∀p∈L,Z0w w p.1 p.2): ZL w (some ⟨b,0,none⟩) L:=⟨Zgz L h,hr⟩
theorem Z1o{w:World}{b:Nat}{T:TypeId}{fz:Nat×Nat}(xs:List Int)(h:w.heap[b]?=some (.cells (xs.map (Value.int .i64)).toArray T fz)): Z0w w (.slice (some ⟨b,0,none⟩) xs.length xs.length) xs:=⟨_,_,rfl,ZN xs _ h⟩
def vatD:List (List Int):=[[9,0,0],[0,9,0],[0,0,9],[3,3,3]]
def vatL:List (List Int):=[[1,1,1],[3,1,0]]
structure IsVat(x:Vm):Prop where
 b:x.B=3
 t:x.tol=1
 d:x.D.map (·.2)=vatD
 l:x.L.map (·.2)=vatL
theorem Z4h(w:World):Calls (Qy.prog μ) 51 #[] w λe w'=>∃x:Vm,e = .returned (.agg x.vc)/\IsVat x/\x.At w'/\Ext [] w w':=by
 have E:=Ext.refl [] w;have G:=(Bk.nil w).ce E;refine(ent 10 Tryz.f51 rfl) λF=>wR λk1=>(F.al G Qy.zeroValue27) λyy F G=>k1<|wR λk2=>(F.bs G 1 #[.int .i64 9,.int .i64 0,.int .i64 0] Qy.zeroValue3) @λn1 w2 _ yy F G=>(F.bs G 1 #[.int .i64 0,.int .i64 9,.int .i64 0] Qy.zeroValue3) @λn2 w3 _ yy F G=>(F.bs G 1 #[.int .i64 0,.int .i64 0,.int .i64 9] Qy.zeroValue3) @λn3 w4 _ yy F G=>(F.bs G 1 #[.int .i64 3,.int .i64 3,.int .i64 3] Qy.zeroValue3) @λn4 w5 _ yy F G=>(F.bs G 1 #[.slice (some ⟨n1,0,none⟩) 3 3,.slice (some ⟨n2,0,none⟩) 3 3,.slice (some ⟨n3,0,none⟩) 3 3,.slice (some ⟨n4,0,none⟩) 3 3] Qy.zeroValue22) @λn5 w6 _ yy F G=>(F.bs G 1 #[.int .i64 1,.int .i64 1,.int .i64 1] Qy.zeroValue3) @λn6 w7 _ yy F G=>(F.bs G 1 #[.int .i64 3,.int .i64 1,.int .i64 0] Qy.zeroValue3) @λn7 w8 _ yy F G=>(F.bs G 1 #[.slice (some ⟨n6,0,none⟩) 3 3,.slice (some ⟨n7,0,none⟩) 3 3] Qy.zeroValue22) @λn8 w9 _ yy F G=>?_
 refine(F.y (F.bv #[.int .i64 3,.slice (some ⟨n5,0,none⟩) 4 4,.slice (some ⟨n8,0,none⟩) 2 2,.int .i64 1])) λF=>(F.sr G 8) λG=>k2 ?_;refine(F.rg (rs_c F rfl rfl Qy.underlying27 rfl kR (G.q 8))) ?_;refine⟨{B:=3,tol:=1,da:=some ⟨n5,0,none⟩,dc:=4,la:=some ⟨n8,0,none⟩,lc:=2,D:=[(.slice (some ⟨n1,0,none⟩) 3 3,[9,0,0]),(.slice (some ⟨n2,0,none⟩) 3 3,[0,9,0]),(.slice (some ⟨n3,0,none⟩) 3 3,[0,0,9]),(.slice (some ⟨n4,0,none⟩) 3 3,[3,3,3])],L:=[(.slice (some ⟨n6,0,none⟩) 3 3,[1,1,1]),(.slice (some ⟨n7,0,none⟩) 3 3,[3,1,0])]},rfl,⟨rfl,rfl,rfl,rfl⟩,⟨Z7p _ (G.q 3) ?_,Z7p _ (G.q 0) ?_⟩,(G.e 9)⟩
 ·intro p hp;simp only[Yc,Ya,or_false]at hp;rcases hp with rfl | rfl | rfl | rfl;(· exact Z1o [9,0,0] (G.q 7));(· exact Z1o [0,9,0] (G.q 6));(· exact Z1o [0,0,9] (G.q 5));(· exact Z1o [3,3,3] (G.q 4))
 ·intro p hp;simp only[Yc,Ya,or_false]at hp;rcases hp with rfl | rfl;(· exact Z1o [1,1,1] (G.q 2));(· exact Z1o [3,1,0] (G.q 1))
theorem Za1(w:World):Calls (Qy.prog μ) 52 #[] w λe w'=>∃a,e = .returned (.slice a 3 3)/\Z6 w' (.slice a [(4:Int),3,2].length 3) 1 ([(4:Int),3,2].map Z4)/\Ext [] w w':=by
 have E:=Ext.refl [] w;have G:=(Bk.nil w).ce E;refine(ent 2 Tryz.f52 rfl) λF=>wR λk1=>(F.m) λF=>k1<|wR λk2=>(F.bs G 1 #[.int .i64 4,.int .i64 3,.int .i64 2] Qy.zeroValue3) λyy F G=>(F.m) λF=>k2<|(F.r1) ?_
 exact⟨_,rfl,ZN [4,3,2] 3 (G.q 0),(G.e 1)⟩
def Z0W:List (List Int):=[[1,0,0,0],[0,1,0,0],[1,1,1,0],[0,0,0,1]]
theorem Z45(w:World):Calls (Qy.prog μ) 58 #[] w λe w'=>∃(a:Option Addr) (S:List (Value×List Int)),e = .returned (.slice a S.length 4)/\S.map (·.2)=Z0W/\ZL w' a S/\Ext [] w w':=by
 have E:=Ext.refl [] w;have G:=(Bk.nil w).ce E;refine(ent 6 Tryz.f58 rfl) λF=>wR λk1=>(F.m) λF=>k1<|wR λk2=>(F.bs G 1 #[.int .i64 1,.int .i64 0,.int .i64 0,.int .i64 0] Qy.zeroValue3) @λn1 w1 _ yy F G=>(F.bs G 1 #[.int .i64 0,.int .i64 1,.int .i64 0,.int .i64 0] Qy.zeroValue3) @λn2 w2 _ yy F G=>(F.bs G 1 #[.int .i64 1,.int .i64 1,.int .i64 1,.int .i64 0] Qy.zeroValue3) @λn3 w3 _ yy F G=>(F.bs G 1 #[.int .i64 0,.int .i64 0,.int .i64 0,.int .i64 1] Qy.zeroValue3) @λn4 w4 _ yy F G=>(F.bs G 1 #[.slice (some ⟨n1,0,none⟩) 4 4,.slice (some ⟨n2,0,none⟩) 4 4,.slice (some ⟨n3,0,none⟩) 4 4,.slice (some ⟨n4,0,none⟩) 4 4] Qy.zeroValue22) @λn5 w5 _ yy F G=>(F.m) λF=>k2<|(F.r1) ?_
 refine⟨some ⟨n5,0,none⟩,[(.slice (some ⟨n1,0,none⟩) 4 4,[1,0,0,0]),(.slice (some ⟨n2,0,none⟩) 4 4,[0,1,0,0]),(.slice (some ⟨n3,0,none⟩) 4 4,[1,1,1,0]),(.slice (some ⟨n4,0,none⟩) 4 4,[0,0,0,1])],rfl,rfl,Z7p _ (G.q 0) ?_,(G.e 5)⟩;intro p hp;simp only[Yc,Ya,or_false]at hp;rcases hp with rfl | rfl | rfl | rfl;(· exact Z1o [1,0,0,0] (G.q 4));(· exact Z1o [0,1,0,0] (G.q 3));(· exact Z1o [1,1,1,0] (G.q 2));(· exact Z1o [0,0,0,1] (G.q 1))
variable{μ:Nat}
theorem Zf6(x:Vm)(hv:VOk x)(k:Nat)(hk:k<x.L.length)(l:List Int)(hl:RcpOk x l)(s:List Int)(hs:Z1s x s)(a b:Option Addr)(c d:Nat)(w:World)(h:x.At w)(hr:Z6 w (.slice a l.length c) 1 (l.map Z4))(hq:Z6 w (.slice b s.length d) 1 (s.map Z4)):
  Calls (Qy.prog μ) 35 #[.agg x.vc,.int .i64 ((k:Nat):Int),.slice a l.length c,.slice b s.length d] w λe w'=>e = .returned (.tuple #[.int .i64 (offE x k (val l) (val s)),.int .i64 0])/\Ext [] w w':=by
 have E:=Ext.refl [] w;have HX:=Lib.hid h;have HV:=Lib.hid hv;have HR:=Lib.hid hr;have HQ:=Lib.hid hq;have HL:=Lib.hid hl;have HS:=Lib.hid hs;clear h hv hr hq hl hs;have G:=(Bk.nil w).ce E;refine(entM 28 Tryz.f35 rfl) λF=>wR λk1=>(F.bx G) λyy F G=>(F.m) λF=>(F.al G Qy.zeroValue30) λyy F G=>k1<|wR λk2=>(F.df) λF=>k2<|wR λk3=>(F.y (F.lb (G.q 1))) λF=>(F.k0 G (Z09 x HV.out _ (HX.out.ext (G.e 2)))) λF G=>(F.al G Qy.zeroValue85) λyy F G=>(F.sr G 0) λG=>k3<|wR λk4=>(F.y (F.lb (G.q 0))) λF=>?_
 refine(F.m) λF=>(F.k0 G (Z9F x HV.out ((k:Nat):Int) oM oM _)) λF G=>k4<|wR λk5=>(F.y (F.lb (G.q 0))) λF=>(F.m) λF=>(F.k0 G (Z0B x HV.out l HL.out a c _ (HR.out.ext (G.e 3) sU))) λF G=>(F.al G Qy.zeroValue88) λyy F G=>(F.sr G 0) λG=>k5<|wR λk6=>(F.y (F.lb (G.q 1))) λF=>(F.m) λF=>(F.k0 G (Z2n x HV.out s HS.out b d _ (HQ.out.ext (G.e 4) sU))) λF G=>k6<|wQ λk7=>Yg ?_
 refine(F.y (F.lb (G.q 1))) λF=>(F.m) λF=>(F.y (F.lb (G.q 0))) λF=>(F.m) λF=>(F.k0 G (ZhR x HV.out k hk (val l) HL.out.tub s HS.out b d _ (HX.out.ext (G.e 4)) (HQ.out.ext (G.e 4) sU))) λF G=>(F.m) λF=>(F.st G 2) λG=>k7<|wp_ret ?_
 (try simp only[Exit.inBlock,Exit.then,reduceIte])
 refine Z4c F<|ZQ<|Z00 (Z3e F rfl rfl rfl Qy.underlying30 rfl (G.q 2)) ?_
 exact⟨rfl,(G.e 4)⟩
variable{μ:Nat}
def mkV(B:Int)(D L:List (List Int))(tol:Int):Vm:={B:=B,tol:=tol,da:=none,dc:=0,la:=none,lc:=0,D:=D.map λl=>(.bool true,l),L:=L.map λl=>(.bool true,l)}
structure AlkV'(x y:Vm):Prop where
 b:x.B=y.B
 t:x.tol=y.tol
 d:x.D.map (·.2)=y.D.map (·.2)
 l:x.L.map (·.2)=y.L.map (·.2)
section
variable{x y:Vm}(h:AlkV' x y)
include h
theorem AlkV'.dl:x.D.length=y.D.length:=by have:=congrArg List.length h.d;simpa using this
theorem AlkV'.ll:x.L.length=y.L.length:=by have:=congrArg List.length h.l;simpa using this
theorem AlkV'.dye(k:Nat):x.dye k=y.dye k:=by
 have:=congrArg (λl=>l.getD k []) h.d;simp only[Vm.dye];by_cases hk:k<x.D.length
 ·have h1:=Z0k x.D hk;have h2:=Z0k y.D (h.dl▸hk);rw[<-h1,<-h2];exact this
 ·rw[Y7,Y7,List.getElem?_eq_none oM,List.getElem?_eq_none (by have:=h.dl;omega)]
theorem AlkV'.lamp(k:Nat):x.lamp k=y.lamp k:=by
 have:=congrArg (λl=>l.getD k []) h.l;simp only[Vm.lamp];by_cases hk:k<x.L.length
 ·have h1:=Z0k x.L hk;have h2:=Z0k y.L (h.ll▸hk);rw[<-h1,<-h2];exact this
 ·rw[Y7,Y7,List.getElem?_eq_none oM,List.getElem?_eq_none (by have:=h.ll;omega)]
theorem AlkV'.tn(f:Nat->Int):tnE x f=tnE y f:=by funext j;simp only[tnE,tonE,h.dl,h.dye]
theorem AlkV'.off(k:Nat)(f s:Nat->Int):offE x k f s=offE y k f s:=by simp only[offE,h.lamp,h.tn,h.b]
theorem AlkV'.mat(f s:Nat->Int)(ls:List Int):matE x f s ls=matE y f s ls:=by simp only[matE,h.off,h.t]
theorem AlkV'.matL(s:Nat->Int)(ls:List Int):matL x s ls=matL y s ls:=by
 rw[Go.Proofs.YtfelljbfeoplhaaGreat.matL,Go.Proofs.YtfelljbfeoplhaaGreat.matL,h.dl];congr 1;funext t;simp only[cndE,h.mat]
theorem AlkV'.few(s:Nat->Int)(ls:List Int):fewR x s ls=fewR y s ls:=by simp only[fewR,h.matL,h.dl]
theorem AlkV'.cor(t:List Int)(s:Nat->Int)(ls:List Int):corR x t s ls=corR y t s ls:=by
 have:corB x t s ls=corB y t s ls:=by funext q;simp only[corB,h.mat]
 simp only[corR,corO,this,h.dl]
theorem AlkV'.alk(k:Nat)(f g:Nat->Int):alkE x k f g=alkE y k f g:=by
 have:alkV x k f g=alkV y k f g:=by simp only[alkV,h.lamp,h.tn,h.b]
 rw[alkE,alkE,this,h.t]
theorem AlkV'.tel(T:List (List Int)):telR x T=telR y T:=by
 have h1:unN x T=unN y T:=by
  funext n;have:unlP x n T=unlP y n T:=by funext j k;simp only[unlP,h.alk]
  simp only[unN,this]
 have h2:cT x T=cT y T:=by funext n;simp only[cT,h1]
 simp only[telR,h1,h2,h.ll]
theorem AlkV'.sha(lp:Nat)(T:List (List Int)):shaR x lp T=shaR y lp T:=by
 have:shdE x T lp=shdE y T lp:=by funext j k;simp only[shdE,h.lamp,h.tn,h.b]
 simp only[shaR,this]
theorem AlkV'.mos(ls:List Int)(T:List (List Int)):mosR x ls T=mosR y ls T:=by
 have:nrB x ls T=nrB y ls T:=by funext j k;simp only[nrB,h.alk]
 simp only[mosR,this]
theorem AlkV'.ok(hy:VOk y):VOk x:=by
 have key:∀{P:List Int->Prop} {X Y:List (Value×List Int)},X.map (·.2)=Y.map (·.2)->(∀p∈Y,P p.2)->∀p∈X,P p.2:=by
  intro P X Y he hP p hp;have:p.2∈X.map (·.2):=List.mem_map.2 ⟨p,hp,rfl⟩;rw[he]at this;obtain⟨q,hq,e⟩:=List.mem_map.1 this;rw[<-e];exact hP q hq
 refine⟨by rw[h.b,h.t,h.d,h.l];exact hy.chk,by rw[h.b];exact hy.b1,by rw[h.b];exact hy.b3,by rw[h.dl];exact hy.d1,by rw[h.dl];exact hy.d4,?_,by rw[h.ll];exact hy.l1,by rw[h.ll];exact hy.l3,?_,by rw[h.t];exact hy.t0,by rw[h.t];exact hy.t12⟩
 ·rw[h.b];exact key (P:=λl=>(l.length:Int)=y.B/\∀n∈l,0<=n/\n<=9) h.d hy.dl
 ·rw[h.b];exact key (P:=λl=>(l.length:Int)=y.B/\∀n∈l,0<=n/\n<=3) h.l hy.ll
end
def vat0:Vm:=mkV 3 vatD vatL 1
theorem ZjV:VOk vat0:=by
 refine⟨?_,?_,?_,?_,?_,?_,?_,?_,?_,?_,?_⟩<;>decide +kernel
theorem IsVat.alk{x:Vm}(h:IsVat x):AlkV' x vat0:=⟨h.b,h.t,by rw[h.d];rfl,by rw[h.l];rfl⟩
theorem ZjQ:fewR vat0 (val [4,3,2]) [0,1]=([1,2,0,0],0):=by decide +kernel
theorem ZjS:offE vat0 1 (val [1,1,0,0]) (val [4,3,2])=6:=by decide +kernel
theorem ZjP:corR vat0 [0,0,0,1] (val [4,3,2]) [0,1]=([1,1,0,0],0):=by decide +kernel
theorem ZjU:telR vat0 Z0W=(1,5,0):=by decide +kernel
theorem ZjT:shaR vat0 1 Z0W=[1,2,3,0]:=by decide +kernel
theorem ZjR:mosR vat0 [1] Z0W=[2,3]:=by decide +kernel
section
variable{x:Vm}(h:IsVat x)
include h
theorem IsVat.ok:VOk x:=h.alk.ok ZjV
theorem IsVat.smp:Z1s x [4,3,2]:=⟨by rw[h.b];rfl,dC⟩
theorem IsVat.dl:x.D.length=4:=h.alk.dl
theorem IsVat.ll:x.L.length=2:=h.alk.ll
theorem IsVat.both:Z5S x [0,1]:=⟨dC,by rw[Zcn,h.ll];decide,λi h0 h1=>by rcases i with _ | _ | i;(· omega);(· decide);(· simp at h1;omega)⟩
theorem IsVat.one:Z5S x [1]:=⟨dC,by rw[Zcn,h.ll];decide,λi h0 h1=>by simp at h1;omega⟩
theorem IsVat.rcp(h1:l.length=4)(h2:∀n∈l,0<=n/\n<=6)(h3:1<=l.sum)(h4:l.sum<=6): RcpOk x l:=⟨by rw[h.dl];exact h1,h2,h3,h4⟩
theorem IsVat.cloths(hs:S.map (·.2)=Z0W): ∀p∈S,RcpOk x p.2:=by
 have key:∀l∈Z0W,l.length=4/\(∀n∈l,0<=n/\n<=6)/\1<=l.sum/\l.sum<=6:=by decide
 intro p hp;have hm:p.2∈Z0W:=by rw[<-hs];exact List.mem_map.2 ⟨p,hp,rfl⟩
 obtain⟨h1,h2,h3,h4⟩:=key _ hm;exact h.rcp h1 h2 h3 h4
theorem IsVat.few:fewR x (val [4,3,2]) [0,1]=([1,2,0,0],0):=(h.alk.few _ _).trans ZjQ
theorem IsVat.off:offE x 1 (val [1,1,0,0]) (val [4,3,2])=6:=(h.alk.off _ _ _).trans ZjS
theorem IsVat.cor:corR x [0,0,0,1] (val [4,3,2]) [0,1]=([1,1,0,0],0):=(h.alk.cor _ _ _).trans ZjP
theorem IsVat.tel:telR x Z0W=(1,5,0):=(h.alk.tel _).trans ZjU
theorem IsVat.sha:shaR x 1 Z0W=[1,2,3,0]:=(h.alk.sha _ _).trans ZjT
theorem IsVat.mos:mosR x [1] Z0W=[2,3]:=(h.alk.mos _ _).trans ZjR
end
theorem Z7h(hs:S.map (·.2)=Z0W): S.length=4:=by have:=congrArg List.length hs;simpa[Z0W] using this
section
variable{x:Vm}(h:IsVat x){w:World}(ha:x.At w)
include h ha
theorem ZkB{b: Option Addr}{d: Nat}(hr:Z6 w (.slice a [(4:Int),3,2].length c) 1 ([(4:Int),3,2].map Z4))(hq:Z6 w (.slice b [(0:Int),1].length d) 1 ([(0:Int),1].map Z4)):
  Calls (Qy.prog μ) 54 #[.agg x.vc,.slice a 3 c,.slice b 2 d] w λe w'=>∃a c,e = .returned (.tuple #[.slice a 4 c,.int .i64 0])/\Z6 w' (.slice a [(1:Int),2,0,0].length c) 1 ([(1:Int),2,0,0].map Z4)/\Ext [] w w':=by
 refine Calls.mono (Zck x h.ok [4,3,2] h.smp [0,1] h.both dC a b c d w ha hr hq) ?_;rintro e w' ⟨a,c,he,ho,hE⟩;rw[h.few]at he ho;exact⟨a,c,he,Zh ho rfl,hE⟩
theorem ZkD{b: Option Addr}{d: Nat}(hr:Z6 w (.slice a [(1:Int),1,0,0].length c) 1 ([(1:Int),1,0,0].map Z4))(hq:Z6 w (.slice b [(4:Int),3,2].length d) 1 ([(4:Int),3,2].map Z4)):
  Calls (Qy.prog μ) 35 #[.agg x.vc,.int .i64 1,.slice a 4 c,.slice b 3 d] w λe w'=>e = .returned (.tuple #[.int .i64 6,.int .i64 0])/\Ext [] w w':=by
 have:=Zf6 (μ:=μ) x h.ok 1 (by rw[h.ll];decide) [1,1,0,0] (h.rcp rfl dC dC dC) [4,3,2] h.smp a b c d w ha hr hq;rw[h.off]at this;exact this
theorem ZkA{b k: Option Addr}{d l: Nat}(hp:Z6 w (.slice a [(0:Int),0,0,1].length c) 1 ([(0:Int),0,0,1].map Z4))(hr:Z6 w (.slice b [(4:Int),3,2].length d) 1 ([(4:Int),3,2].map Z4))(hq:Z6 w (.slice k [(0:Int),1].length l) 1 ([(0:Int),1].map Z4)):
  Calls (Qy.prog μ) 56 #[.agg x.vc,.slice a 4 c,.slice b 3 d,.slice k 2 l] w λe w'=>∃a c,e = .returned (.tuple #[.slice a 4 c,.int .i64 0])/\Z6 w' (.slice a [(1:Int),1,0,0].length c) 1 ([(1:Int),1,0,0].map Z4)/\Ext [] w w':=by
 refine Calls.mono (Zaf x h.ok [0,0,0,1] (h.rcp rfl dC dC dC) [4,3,2] h.smp [0,1] h.both dC a b k c d l w ha hp hr hq) ?_;rintro e w' ⟨a,c,he,ho,hE⟩;rw[h.cor]at he ho;exact⟨a,c,he,Zh ho rfl,hE⟩
theorem ZkF(hs:S.map (·.2)=Z0W)(hl:ZL w a S):
  Calls (Qy.prog μ) 49 #[.agg x.vc,.slice a S.length c] w λe w'=>e = .returned (.tuple #[.int .i64 1,.int .i64 5,.int .i64 0])/\Ext [] w w':=by
 have:=Zag (μ:=μ) x h.ok S (h.cloths hs) (by rw[Z7h hs];decide) a c w ha hl;rw[hs,h.tel]at this;exact this
theorem ZkE(hs:S.map (·.2)=Z0W)(hl:ZL w a S):
  Calls (Qy.prog μ) 41 #[.agg x.vc,.int .i64 1,.slice a S.length c] w λe w'=>∃a c,e = .returned (.tuple #[.slice a 4 c,.int .i64 0])/\Z6 w' (.slice a [(1:Int),2,3,0].length c) 1 ([(1:Int),2,3,0].map Z4)/\Ext [] w w':=by
 refine Calls.mono (Zcl x h.ok 1 (by rw[h.ll];decide) S (h.cloths hs) (by rw[Z7h hs];decide) a c w ha hl) ?_;rintro e w' ⟨a,c,he,ho,hE⟩;rw[hs,h.sha]at he ho;exact⟨a,c,he,Zh ho rfl,hE⟩
theorem ZkC{b: Option Addr}{d: Nat}(hs:S.map (·.2)=Z0W)(hl:ZL w a S)(hq:Z6 w (.slice b [(1:Int)].length d) 1 ([(1:Int)].map Z4)):
  Calls (Qy.prog μ) 22 #[.agg x.vc,.slice a S.length c,.slice b 1 d] w λe w'=>∃a c,e = .returned (.tuple #[.slice a 2 c,.int .i64 0])/\Z6 w' (.slice a [(2:Int),3].length c) 1 ([(2:Int),3].map Z4)/\Ext [] w w':=by
 refine Calls.mono (Zhb x h.ok S (h.cloths hs) (by rw[Z7h hs];decide) [1] h.one dC a b c d w ha hl hq) ?_;rintro e w' ⟨a,c,he,ho,hE⟩;rw[hs,h.mos]at he ho;exact⟨a,c,he,Zh ho rfl,hE⟩
end
variable{μ:Nat}
theorem Z2E(w:World):Calls (Qy.prog μ) 19 #[] w λe w'=>e = .returned (.bool true)/\Ext [] w w':=by
 have E:=Ext.refl [] w;have G:=(Bk.nil w).ce E;refine(ent 110 Tryz.f19 rfl) λF=>wR λk1=>(F.m) λF=>k1<|wR λk2=>(F.k (Z4h _)) ?_
 rintro _ w1 ⟨x1,rfl,hx1,ha1,e9⟩;refine⟨_,rfl,λF=>?_⟩;replace G:=(G.ex e9).hr [];refine(F.k (Za1 _)) ?_;rintro _ w2 ⟨s1,rfl,hs1,e9⟩;refine⟨_,rfl,λF=>?_⟩;replace G:=(G.ex e9).hr [];refine(F.bs G 1 #[.int .i64 0,.int .i64 1] Qy.zeroValue3) λyy F G=>(F.k (ZkB hx1 (ha1.ext (G.e 2)) (hs1.ext (G.e 1) sU) (ZN [0,1] 2 (G.q 0)))) ?_;rintro _ w4 ⟨r1,k1,rfl,hr1,e9⟩;refine⟨_,rfl,λF=>?_⟩;replace G:=(G.ex e9).hr [];refine(F.m) λF=>(F.y F.xt) λF=>(F.y F.xt) λF=>(F.m) λF=>(F.m) λF=>k2<|wR λk3=>(F.k (Z4h _)) ?_
 rintro _ w5 ⟨x2,rfl,hx2,ha2,e9⟩;refine⟨_,rfl,λF=>?_⟩;replace G:=(G.ex e9).hr [];refine(F.bs G 1 #[.int .i64 1,.int .i64 1,.int .i64 0,.int .i64 0] Qy.zeroValue3) λyy F G=>(F.k (Za1 _)) ?_;rintro _ w7 ⟨s2,rfl,hs2,e9⟩;refine⟨_,rfl,λF=>?_⟩;replace G:=(G.ex e9).hr [];refine(F.k0 G (ZkD hx2 (ha2.ext (G.e 2)) (ZN [1,1,0,0] 4 (G.q 1)) (hs2.ext (G.e 0) sU))) λF G=>(F.m) λF=>(F.y F.xt) λF=>(F.y F.xt) λF=>(F.m) λF=>(F.m) λF=>k3<|wR λk4=>(F.k (Z4h _)) ?_
 rintro _ w9 ⟨x3,rfl,hx3,ha3,e9⟩;refine⟨_,rfl,λF=>?_⟩;replace G:=(G.ex e9).hr [];refine(F.bs G 1 #[.int .i64 0,.int .i64 0,.int .i64 0,.int .i64 1] Qy.zeroValue3) λyy F G=>(F.k (Za1 _)) ?_;rintro _ w11 ⟨s3,rfl,hs3,e9⟩;refine⟨_,rfl,λF=>?_⟩;replace G:=(G.ex e9).hr [];refine(F.bs G 1 #[.int .i64 0,.int .i64 1] Qy.zeroValue3) λyy F G=>(F.k (ZkA hx3 (ha3.ext (G.e 3)) (ZN [0,0,0,1] 4 (G.q 2)) (hs3.ext (G.e 1) sU) (ZN [0,1] 2 (G.q 0)))) ?_;rintro _ w13 ⟨r3,k3,rfl,hr3,e9⟩;refine⟨_,rfl,λF=>?_⟩;replace G:=(G.ex e9).hr [];refine(F.m) λF=>(F.y F.xt) λF=>(F.y F.xt) λF=>(F.m) λF=>(F.m) λF=>k4<|wQ λk5=>?_
 replace G:=G.b [0,1,3,6,8,9,12];refine Yg<|(F.k (Z4h _)) ?_
 rintro _ w14 ⟨x4,rfl,hx4,ha4,e9⟩;refine⟨_,rfl,λF=>?_⟩;replace G:=(G.ex e9).hr [];refine(F.k (Z45 _)) ?_;rintro _ w15 ⟨c4,S4,rfl,hS4,hl4,e9⟩;refine kG G e9 λF G=>(F.k0 G (ZkF hx4 (ha4.ext (G.e 0)) hS4 hl4)) λF G=>(F.m) λF=>(F.y F.xt) λF=>(F.y F.xt) λF=>(F.y F.xt) λF=>(F.m) λF=>(F.m) λF=>(F.m) λF=>k5<|wR λk6=>(F.k (Z4h _)) ?_
 rintro _ w17 ⟨x5,rfl,hx5,ha5,e9⟩;refine⟨_,rfl,λF=>?_⟩;replace G:=(G.ex e9).hr [];refine(F.k (Z45 _)) ?_;rintro _ w18 ⟨c5,S5,rfl,hS5,hl5,e9⟩;refine kG G e9 λF G=>(F.k (ZkE hx5 (ha5.ext (G.e 0)) hS5 hl5)) ?_;rintro _ w19 ⟨r5,k5,rfl,hr5,e9⟩;refine⟨_,rfl,λF=>?_⟩;replace G:=(G.ex e9).hr [];refine(F.m) λF=>(F.y F.xt) λF=>(F.y F.xt) λF=>(F.m) λF=>(F.m) λF=>k6<|wR λk7=>(F.k (Z4h _)) ?_
 rintro _ w20 ⟨x6,rfl,hx6,ha6,e9⟩;refine⟨_,rfl,λF=>?_⟩;replace G:=(G.ex e9).hr [];refine(F.k (Z45 _)) ?_;rintro _ w21 ⟨c6,S6,rfl,hS6,hl6,e9⟩;refine⟨_,rfl,λF=>?_⟩;replace G:=(G.ex e9).hr [];refine(F.bs G 1 #[.int .i64 1] Qy.zeroValue3) λyy F G=>(F.k (ZkC hx6 (ha6.ext (G.e 2)) hS6 (hl6.ext (G.e 1)) (ZN [1] 1 (G.q 0)))) ?_;rintro _ w23 ⟨r6,k6,rfl,hr6,e9⟩;refine⟨_,rfl,λF=>?_⟩;replace G:=(G.ex e9).hr [];refine(F.m) λF=>(F.y F.xt) λF=>(F.y F.xt) λF=>(F.m) λF=>(F.m) λF=>k7<|wQ λk8=>?_
 replace G:=G.b [0,1,4,7,8,9,10,11,12,13];refine Yg<|(F.m) λF=>(F.y F.eqT) λF=>(F.m) λF=>(F.m) λF=>(F.y F.eqT) λF=>(F.y F.pT) λF=>(F.m) λF=>(F.m) λF=>(F.y F.eqT) λF=>(F.y F.pT) λF=>(F.m) λF=>(F.m) λF=>(F.y F.eqT) λF=>(F.y F.pT) λF=>?_
 refine(F.m) λF=>(F.m) λF=>(F.y F.eqT) λF=>(F.y F.pT) λF=>(F.m) λF=>(F.m) λF=>(F.y F.eqT) λF=>(F.y F.pT) λF=>(F.m) λF=>(F.m) λF=>(F.y F.eqT) λF=>(F.y F.pT) λF=>(F.m) λF=>(F.m) λF=>?_;refine(F.y F.eqT) λF=>(F.y F.pT) λF=>(F.m) λF=>(F.m) λF=>(F.y F.eqT) λF=>(F.y F.pT) λF=>(F.m) λF=>(F.m) λF=>(F.bs G 1 #[.int .i64 1,.int .i64 2,.int .i64 0,.int .i64 0] Qy.zeroValue3) @λn92 w24 _ yy F G=>(F.k0 G (ZA [1,2,0,0] [1,2,0,0] r1 (some ⟨n92,0,none⟩) k1 4 _ (hr1.ext (G.e 8) sU) (ZN [1,2,0,0] 4 (G.q 0)) dC dC)) λF G=>(F.y F.pT) λF=>?_;refine(F.m) λF=>(F.m) λF=>(F.bs G 1 #[.int .i64 1,.int .i64 1,.int .i64 0,.int .i64 0] Qy.zeroValue3) @λn97 w26 _ yy F G=>(F.k0 G (ZA [1,1,0,0] [1,1,0,0] r3 (some ⟨n97,0,none⟩) k3 4 _ (hr3.ext (G.e 5) sU) (ZN [1,1,0,0] 4 (G.q 0)) dC dC)) λF G=>(F.y F.pT) λF=>(F.m) λF=>(F.m) λF=>(F.bs G 1 #[.int .i64 1,.int .i64 2,.int .i64 3,.int .i64 0] Qy.zeroValue3) @λn102 w28 _ yy F G=>(F.k0 G (ZA [1,2,3,0] [1,2,3,0] r5 (some ⟨n102,0,none⟩) k5 4 _ (hr5.ext (G.e 5) sU) (ZN [1,2,3,0] 4 (G.q 0)) dC dC)) λF G=>?_;refine(F.y F.pT) λF=>(F.m) λF=>(F.m) λF=>(F.bs G 1 #[.int .i64 2,.int .i64 3] Qy.zeroValue3) @λn107 w30 _ yy F G=>(F.k0 G (ZA [2,3] [2,3] r6 (some ⟨n107,0,none⟩) k6 2 _ (hr6.ext (G.e 4) sU) (ZN [2,3] 2 (G.q 0)) dC dC)) λF G=>(F.y F.pT) λF=>(F.m) λF=>k8<|(F.r1) ?_
 exact⟨rfl,(G.e 13)⟩
variable{μ:Nat}
theorem Z5K(w0 w:World)(b k:Nat)(nv:Value)(many:Nat)(most:Int)(h:Zi w0 w b k nv)(hk:k<=900000)(hm:many<=1000)(h0:0<=most)(h1:most<=1000):
  Calls (Qy.prog μ) 61 #[.pointer (some ⟨b,0,none⟩),.int .i64 ((many:Nat):Int),.int .i64 most] w λe w'=>∃(a:Option Addr) (c:Nat) (xs:List Int),e = .returned (.slice a many c)/\xs.length=many/\(∀n∈xs,0<=n/\n<=most)/\w'.ownsRow w.heap.size 3 1 (.slice a many c) many (ivs xs)/\Zi w0 w' b (k+1+2*many) nv/\Ext [b] w w':=by
 have HL:=h;have hbw:=Z0l HL;have hws:w0.heap.size<=w.heap.size:=HL.2.2.1.size;have E:Ext [b] w w:=Ext.refl _ _;have oo:w.ownsRow w.heap.size 3 1 (.slice none 0 0) 0 (ivs []):=World.ownsRow_nil _ _ _ _;clear h;have G:=((Bk.nil w).cl HL).ce E;replace G:=G.co oo;refine(ent 33 Tryz.f61 rfl) λF=>wR λk1=>(F.m) λF=>k1<|wR λk2=>(F.m) λF=>k2<|wR λk3=>(F.m) λF=>(F.k (Z7D w0 _ b _ nv 2 (G.l 2) oM oM oM)) ?_
 rintro _ w1 ⟨r,rfl,HL,e9⟩;refine(kL G 2 e9 HL) λF G=>(F.m) λF=>k3<|wQ λk4=>wR λk5=>(F.m) λF=>k5<|Yh ?_
 replace G:=G.rL 2 (show Zi w0 w1 b (k+1+2*0) nv from Zj (G.l 2) oM);refine lpB (F.b [0,1,2,8]) (G.b [1]) many (λi Lv Sv W=>∃va:Option Addr,∃vc:Nat,∃xs:List Int,Lv=[(7,.slice va i vc),(9,.int .i64 ((i:Nat):Int))]/\Sv=[.l w0 b (k+1+2*i) nv]/\W.ownsRow w.heap.size 3 1 (.slice va i vc) i (ivs xs)/\xs.length=i/\∀n∈xs,0<=n/\n<=most) ⟨_,_,F.u,G.u,none,0,[],rfl,rfl,(G.o 0),rfl,sU⟩ ?_;clear F G;rintro i _ w2 _ _ hi1 ⟨va,vc,xs,rfl,rfl,oo,hxl,hxb⟩ F G;replace G:=(G.z).co oo;refine wQ λk6=>wR λk7=>(F.m) λF=>(F.m) λF=>(F.y F.ls) λF=>k7<|F.ci (λhc14=>?_) (λhc14=>?_)
 ·refine Yi<|k6<|wQ λk8=>Yh<|wR λk9=>(F.m) λF=>(F.m) λF=>?_
  cases hg1:r
  ·replace F:=F.re (k:=18) rfl (congrArg Value.bool hg1);refine(F.n) λF=>(F.n) λF=>(F.n) λF=>(F.y F.pF) λF=>k9<|(F.cF)<|Yg<|(F.m) λF=>(F.m) λF=>(F.m) λF=>(F.k (Zk w0 _ b _ nv most (G.l 1) oM oM oM)) ?_
   rintro _ w3 ⟨u,rfl,hu0,hu1,HL,e9⟩;refine(kL G 1 e9 HL) λF G=>(F.bs G 1 #[.int .i64 u] Qy.zeroValue3) λyy F G=>?_;have hzE:=(G.e 3).size;refine Zx F rfl dC (F.want rfl) (ZE rfl w.heap.size (e:=3) (size:=1) (bytes:=8) Qy.underlying22 kR dC (F.at rfl) (G.o 1) (F.at rfl) (G.q 0) rfl (by simp[Value.oneCell']) oM oM oM) ?_;clear F;rintro _ v' w5 F ⟨hown',hg⟩;obtain⟨va31,vc31,rfl⟩:=Zm hown';replace G:=(G.d 0).gr 0 hg hown';clear hg hown';have oo:=G.o 0;rw[Z0z]at oo;have hx2:(xs++[u]).length=i+1:=by rw[Ym,hxl];rfl
   have hx3:∀n∈xs++[u],0<=n/\n<=most:=by intro n hn;rcases List.mem_append.1 hn with hn | hn;(· exact hxb n hn);(· simp at hn;subst hn;omega)
   replace G:=G.rO 0 oo;clear oo;refine(F.m) λF=>k8<|Yg<|(F.m) λF=>(F.y F.ad) λF=>(F.m) λF=>?_
   replace G:=G.rL 1 (show Zi w0 w5 b (k+1+2*(i+1)) nv from Zj (G.l 1) oM);show _/\_;exact⟨oM,_,_,F.u,G.u,_,_,_,rfl,rfl,(G.o 0),hx2,hx3⟩
  ·replace F:=F.re (k:=18) rfl (congrArg Value.bool hg1);refine(F.m) λF=>(F.k (Z7D w0 _ b _ nv 2 (G.l 1) oM oM oM)) ?_;rintro _ w6 ⟨r2,rfl,HL,e9⟩;refine(kL G 1 e9 HL) λF G=>(F.y F.nb) λF=>(F.y F.pT) λF=>k9<|F.cb (λhc22=>?_) (λhc22=>?_)
   ·refine Yg<|(F.m) λF=>(F.bs G 1 #[.int .i64 0] Qy.zeroValue3) λyy F G=>?_
    have hzE:=(G.e 3).size;refine Zx F rfl dC (F.want rfl) (ZE rfl w.heap.size (e:=3) (size:=1) (bytes:=8) Qy.underlying22 kR dC (F.at rfl) (G.o 1) (F.at rfl) (G.q 0) rfl (by simp[Value.oneCell']) oM oM oM) ?_;clear F;rintro _ v' w8 F ⟨hown',hg⟩;obtain⟨va25,vc25,rfl⟩:=Zm hown';replace G:=(G.d 0).gr 0 hg hown';clear hg hown';have oo:=G.o 0;rw[Z0z]at oo;have hx2:(xs++[(0:Int)]).length=i+1:=by rw[Ym,hxl];rfl
    have hx3:∀n∈xs++[(0:Int)],0<=n/\n<=most:=by intro n hn;rcases List.mem_append.1 hn with hn | hn;(· exact hxb n hn);(· simp at hn;omega)
    replace G:=G.rO 0 oo;clear oo;refine(F.m) λF=>k8<|Yg<|(F.m) λF=>(F.y F.ad) λF=>(F.m) λF=>?_
    replace G:=G.rL 1 (show Zi w0 w8 b (k+1+2*(i+1)) nv from Zj (G.l 1) oM);show _/\_;exact⟨oM,_,_,F.u,G.u,_,_,_,rfl,rfl,(G.o 0),hx2,hx3⟩
   ·refine Yg<|(F.m) λF=>(F.m) λF=>(F.m) λF=>(F.k (Zk w0 _ b _ nv most (G.l 1) oM oM oM)) ?_
    rintro _ w9 ⟨u,rfl,hu0,hu1,HL,e9⟩;refine(kL G 1 e9 HL) λF G=>(F.bs G 1 #[.int .i64 u] Qy.zeroValue3) λyy F G=>?_;have hzE:=(G.e 3).size;refine Zx F rfl dC (F.want rfl) (ZE rfl w.heap.size (e:=3) (size:=1) (bytes:=8) Qy.underlying22 kR dC (F.at rfl) (G.o 1) (F.at rfl) (G.q 0) rfl (by simp[Value.oneCell']) oM oM oM) ?_;clear F;rintro _ v' w11 F ⟨hown',hg⟩;obtain⟨va31,vc31,rfl⟩:=Zm hown';replace G:=(G.d 0).gr 0 hg hown';clear hg hown';have oo:=G.o 0;rw[Z0z]at oo;have hx2:(xs++[u]).length=i+1:=by rw[Ym,hxl];rfl
    have hx3:∀n∈xs++[u],0<=n/\n<=most:=by intro n hn;rcases List.mem_append.1 hn with hn | hn;(· exact hxb n hn);(· simp at hn;subst hn;omega)
    replace G:=G.rO 0 oo;clear oo;refine(F.m) λF=>k8<|Yg<|(F.m) λF=>(F.y F.ad) λF=>(F.m) λF=>?_
    replace G:=G.rL 1 (show Zi w0 w11 b (k+1+2*(i+1)) nv from Zj (G.l 1) oM);show _/\_;exact⟨oM,_,_,F.u,G.u,_,_,_,rfl,rfl,(G.o 0),hx2,hx3⟩
 ·refine wp_exit<|k4<|wR λk10=>(F.m) λF=>(F.m) λF=>k10<|(F.r1) ?_
  have hi:=show i=many by omega
  subst hi;have oo:=G.o 0;exact⟨va,vc,xs,rfl,hxl,hxb,oo,(G.l 1),(G.e 2)⟩
theorem ZfQ(M:List (Value×List Int))(xs:List Int)(a b:Option Addr)(c d:Nat)(w:World)(h:ZL w a M)(hx:Z6 w (.slice b xs.length d) 1 (xs.map Z4))(hm:M.length<=1000)(hs:∀p∈M,p.2.length<=1000)(hl:xs.length<=1000):
  Calls (Qy.prog μ) 62 #[.slice a M.length c,.slice b xs.length d] w λe w'=>e = .returned (.bool (decide (xs∈M.map (·.2))))/\Ext [] w w':=by
 have E:=Ext.refl [] w;have HL:=Lib.hid h;have HS:=Lib.hid h.1;have HX:=Lib.hid hx;have Hs:=Lib.hid hs;clear h hx hs;have G:=(Bk.nil w).ce E;refine(ent 18 Tryz.f62 rfl) λF=>wR λk1=>(F.m) λF=>k1<|wQ λk2=>wR λk3=>(F.m) λF=>k3<|Yh<|lpB (F.b [0,1]) G M.length (λi Lv Sv W=>Lv=[(5,.int .i64 ((i:Nat):Int))]/\Sv=[]/\∀j,j<i->(M.getD j (.bool true,[])).2≠xs) ⟨_,_,F.u,G.u,rfl,rfl,(λj h=>by omega)⟩ ?_
 clear F G;rintro i _ w1 _ _ hi1 ⟨rfl,rfl,hno⟩ F G;replace G:=G.z;refine wQ λk4=>wR λk5=>(F.m) λF=>(F.m) λF=>(F.y F.ln) λF=>(F.y F.ls) λF=>k5<|F.ci (λhc9=>?_) (λhc9=>?_)
 ·refine Yi<|k4<|wQ λk6=>Yh<|wQ λk7=>?_
  obtain⟨la,lca,hla,hlr⟩:=HL.out.2 _ (Z5 (.bool true,[]) (show i<M.length by omega));have hsz:=Hs.out _ (Z5 (.bool true,[]) (show i<M.length by omega));refine Yg<|(F.m) λF=>(F.m) λF=>(F.ix HS.out i) λxr8 F=>(F.y (F.l1 (xr8 _ (G.e 0)) 0)) λF=>?_
  rw[hla]at F;refine(F.m) λF=>(F.k0 G (ZA (M.getD i (.bool true,[])).2 xs la b lca d _ (hlr.ext (G.e 0) sU) (HX.out.ext (G.e 0) sU) oM oM)) λF G=>k7<|F.ci (λhc17=>?_) (λhc17=>?_)
  ·refine wR λk9=>(F.m) λF=>k9<|(F.r1) ?_
   exact⟨ZK (by rw[decide_eq_true];exact List.mem_map.2 ⟨_,Z5 (.bool true,[]) (show i<M.length by omega),by simpa using hc17⟩),(G.e 0)⟩
  ·refine Yi<|k6<|Yg<|(F.m) λF=>(F.y F.ad) λF=>(F.m) λF=>?_
   show _/\_;exact⟨oM,_,_,F.u,G.u,rfl,rfl,(λj h=>by rcases Nat.lt_succ_iff_lt_or_eq.1 h with h | rfl;(· exact hno j h);(· exact hc17))⟩
 ·refine wp_exit<|k2<|wR λk10=>(F.m) λF=>k10<|(F.r1) ?_
  exact⟨ZK (by rw[decide_eq_false];intro hm;obtain⟨p,hp,he⟩:=List.mem_map.1 hm;obtain⟨j,hj,rfl⟩:=List.getElem_of_mem hp;have:=hno j oM;simp[hj]at this;exact this he),(G.e 0)⟩
variable{μ:Nat}
theorem ZlN(h:∀n∈l,0<=n/\n<=6): 0<=l.sum/\l.sum<=6*l.length:=by
 induction l with
 | nil=>simp
 | cons a l ih =>
  have h1:=h a sU;have h2:=ih λn hn=>h n (by simp[hn]);simp only[List.sum_cons,List.length_cons];omega
theorem Za8(h:∀n∈l,0<=n/\n<=6)(i:Nat): 0<=(l.take i).sum/\(l.take i).sum<=6*l.length:=by
 have:=ZlN (l:=l.take i) λn hn=>h n (List.mem_of_mem_take hn);have h2:=List.length_take_le i l;rw[List.length_take]at this;omega
theorem ZeU(x:Vm)(hv:VOk x)(bn:Nat)(hbn:x.B=bn)(l:List Int)(hl:l.length=x.D.length)(hb:∀n∈l,0<=n/\n<=6)(a:Option Addr)(c:Nat)(w:World)(h:x.At w)(hr:Z6 w (.slice a l.length c) 1 (l.map Z4)):
  Calls (Qy.prog μ) 17 #[.agg x.vc,.slice a l.length c] w λe w'=>∃a,e = .returned (.tuple #[.slice a bn bn,.int .i64 l.sum])/\w'.ownsRow w.heap.size 3 1 (.slice a bn bn) bn (ivs (sumL x (val l) bn))/\Ext [] w w':=by
 have E:=Ext.refl [] w;have HX:=Lib.hid h;have HV:=Lib.hid hv;have HSR:=Lib.hid (Z7 hr 0);have HB:=Lib.hid hb;have HD:=Lib.hid h.d.1;have hb1:=hv.b1;have hb3:=hv.b3;have hd4:=hv.d4;have HF:RowKit.Hid (TubS (val l)):=Lib.hid (λk _=>Z6B hb oM oM k);clear h hv hr hb;have G:=(Bk.nil w).ce E;refine(ent 54 Tryz.f17 rfl) λF=>wR λk1=>(F.bx G) @λn2 w1 _ yy F G=>(F.m) λF=>(F.m) λF=>k1<|wR λk2=>(F.y (F.fd 0)) λF=>(F.y (F.lc (G.q 0))) λF=>?_
 rw[hbn]at F;have hEs:=(G.e 1).size;refine Zx F rfl dC (F.want rfl) (Z2L rfl w.heap.size (e:=3) (bytes:=8) (z:=.int .i64 0) Qy.underlying22 kR rfl (F.at rfl) (F.at rfl) (n:=bn) oM dC oM) ?_;clear F;rintro _ v' w2 F ⟨oo,hg,rfl⟩;obtain⟨n12,hn⟩:=eQ w1.heap.size;rw[<-hn]at F oo;have s12:=G.lt hn;replace G:=G.gn hg;clear hg hn;replace G:=G.co oo;have oo:=G.o 0;rw[<-Z5F x (val l) bn]at oo;replace G:=G.rO 0 oo;clear oo;refine(F.m) λF=>(F.m) λF=>?_;rw[show (0:Int)=(l.take 0).sum from rfl]at F;refine k2<|wQ λk3=>wR λk4=>(F.m) λF=>k4<|Yh<|lpB (F.b [1,2,6]) (G.b [1,2]) l.length (λd Lv Sv W=>Lv=[(7,.int .i64 ((l.take d).sum)),(8,.int .i64 ((d:Nat):Int))]/\Sv=[]/\W.ownsRow w.heap.size 3 1 (.slice (some ⟨n12,0,none⟩) bn bn) bn (ivs (sumR x (val l) bn d 0))) ⟨_,_,F.u,G.u,rfl,rfl,(G.o 0)⟩ ?_
 clear F G;rintro d _ w3 _ _ hi1 ⟨rfl,rfl,oo⟩ F G;replace G:=(G.z).co oo;refine wQ λk5=>wR λk6=>(F.m) λF=>(F.m) λF=>(F.y F.ln) λF=>(F.y F.ls) λF=>k6<|F.ci (λhc16=>?_) (λhc16=>?_)
 ·refine Yi<|k5<|wQ λk7=>Yh<|wQ λk8=>wR λk9=>(F.m) λF=>k9<|Yh<|lpB (F.b [1,2,6,7,8]) (G.b [1,2]) bn (λi Lv Sv W=>Lv=[(9,.int .i64 ((i:Nat):Int))]/\Sv=[]/\W.ownsRow w.heap.size 3 1 (.slice (some ⟨n12,0,none⟩) bn bn) bn (ivs (sumR x (val l) bn d i))) ⟨_,_,F.u,G.u,rfl,rfl,(G.o 0)⟩ ?_
  clear F G;rintro i _ w4 _ _ hi2 ⟨rfl,rfl,oo⟩ F G;replace G:=(G.z).co oo;refine wQ λk10=>wR λk11=>(F.m) λF=>(F.y (F.fd 0)) λF=>(F.y (F.lc (G.q 1))) λF=>?_;rw[hbn]at F;refine(F.y F.ls) λF=>k11<|F.ci (λhc22=>?_) (λhc22=>?_)
  ·refine Yi<|k10<|wQ λk12=>Yh ?_
   obtain⟨la,lca,hla,hlr⟩:=HX.out.d.2 _ (Z5 (.bool true,[]) (show d<x.D.length by omega));have hlen:=(HV.out.dl _ (Z5 (.bool true,[]) (show d<x.D.length by omega))).1;have hlb:(x.D.getD d (.bool true,[])).2.length=bn:=by omega
   have HLR:=Lib.hid (Z7 hlr 0);have hml:=Z7W x (val l) bn d i;have hmk:=Z7V x (val l) d (show i<bn by omega);have hst:=Z7X x (val l) d (show i<bn by omega);have oo:=G.o 0;have HS:=Lib.hid (ZH oo hml.symm [] sU);have hil:=Z1i (sumR x (val l) bn d i);obtain⟨hf0,hf1⟩:=HF.out d oM;obtain⟨hg0,hg1⟩:=Zau HV.out (show d<x.D.length by omega) i;simp only[val,Vm.dye]at hg0 hg1 hf0 hf1;obtain⟨hp0,hp1⟩:=Z8H hf0 oM hg0 oM;obtain⟨ht0,ht1⟩:=Z5J HV.out HF.out i (show d<=x.D.length by omega);replace G:=G.hr [];refine(wX 21 G) λG=>(F.sm) λF=>(F.sm) λF=>(F.sm) λF=>(F.sm) λF=>?_;obtain⟨xb13,xo13,xa13,xr13⟩:=HS.out i oM;refine(F.s (F.is 1 xa13)) λF=>(F.s (F.l1 (xr13 _ (G.e 0)) 0)) λF=>(F.sm) λF=>(F.sm) λF=>?_;obtain⟨xb14,xo14,xa14,xr14⟩:=HSR.out d oM;refine(F.s (F.is 1 xa14)) λF=>(F.s (F.l1 (xr14 _ (G.e 3)) 0)) λF=>(F.s (F.fd 1)) λF=>(F.s (F.lc (G.q 2))) λF=>(F.sm) λF=>?_;obtain⟨xb15,xo15,xa15,xr15⟩:=HD.out d oM;refine(F.s (F.is 1 xa15)) λF=>(F.s (F.l1 (xr15 _ (G.e 3)) 0)) λF=>?_;rw[hla]at F;refine(F.sm) λF=>?_;obtain⟨xb16,xo16,xa16,xr16⟩:=HLR.out i oM;refine(F.s (F.is 1 xa16)) λF=>(F.s (F.l1 (xr16 _ (G.e 3)) 0)) λF=>(F.s F.ml) λF=>(F.s F.ad) λF=>?_;obtain⟨xb17,xo17,xa17,xr17⟩:=HS.out i oM;refine(F.s (F.is 1 xa17)) λF=>wpStill_nil ?_;replace G:=G.d 0;obtain⟨⟨u0,hcu⟩,hfu,hst⟩:=Z1n (G.o 0) xa17 (j:=i) (p:=xo17+((i:Nat):Int).toNat*1) (by first | omega | (simp;omega)) oM;refine Z3S rfl (F.want rfl) (ZW rfl (F.at rfl) (F.at rfl) rfl kR hcu hfu) ?_;intro w6 hw;obtain⟨hown',hg⟩:=hst _ _ hw;replace G:=G.gr 0 hg hown';clear hst hcu hfu hw hg hown';have oo:=G.o 0;rw[Z1j,hmk,show tonE x (val l) i d+l.getD d 0*(x.D.getD d (.bool true,[])).2.getD i 0=tonE x (val l) i (d+1) from rfl,hst]at oo;replace G:=G.rO 0 oo;clear oo;refine k12<|Yg<|(F.m) λF=>(F.y F.ad) λF=>(F.m) λF=>?_
   show _/\_;exact⟨oM,_,_,F.u,G.u,rfl,rfl,(G.o 0)⟩
  ·refine wp_exit ?_;have oo:=G.o 0;rw[show i=bn by omega,Z5E]at oo;replace G:=G.rO 0 oo;clear oo;refine k8 ?_;have hsb:=Za8 HB.out d;have hnb:=HB.out _ (Z5 0 (show d<l.length by omega));refine Yg<|(F.m) λF=>(F.m) λF=>(F.m) λF=>(F.ix HSR.out d) λxr18 F=>(F.y (F.l1 (xr18 _ (G.e 2)) 0)) λF=>(F.y F.ad) λF=>?_
   rw[<-Z1l l oM]at F;refine(F.m) λF=>k7<|Yg<|(F.m) λF=>(F.y F.ad) λF=>(F.m) λF=>?_
   show _/\_;exact⟨oM,_,_,F.u,G.u,rfl,rfl,(G.o 0)⟩
 ·refine wp_exit ?_;have oo:=G.o 0;rw[show d=x.D.length by omega,Z7U]at oo;rw[List.take_of_length_le (show l.length<=d by omega)]at F;replace G:=G.rO 0 oo;clear oo;refine k3<|wR λk19=>(F.m) λF=>(F.m) λF=>(F.m) λF=>(F.m) λF=>k19<|(F.r2) ?_
  have oo:=G.o 0;exact⟨_,rfl,oo,(G.e 2)⟩
variable{μ:Nat}
def cnt(n:Nat)(β:Nat->Bool)(i:Nat):Nat:=(((List.range n).take i).filter β).length
theorem Z9E(n:Nat)(β:Nat->Bool):(Z1d n β).length<=n:=by
 have:=List.length_filter_le β (List.range n);simp only[Z1d,Yj];simpa using this
theorem ZdF{base:Nat}{w:World}{y:Value}(h:IntR base w l y): ∃a c,y = .slice a l.length c/\Z6 w (.slice a l.length c) 1 (l.map Z4):=by
 rcases h with⟨rfl,rfl⟩ | ⟨g,c,h1,rfl,h3,h4,h5,h6⟩
 ·exact⟨none,0,rfl,none,0,rfl,sU,λh=>absurd rfl h⟩
 ·refine⟨_,c,rfl,some ⟨g,0,none⟩,c,sU,?_,λ_=>⟨g,0,rfl,Z8 h6,λi j z hi hj=>?_⟩⟩
  ·intro z hz;obtain⟨n,_,rfl⟩:=List.mem_map.1 hz;rfl
  ·rw[Yn]at hi;obtain⟨n,hn,rfl⟩:=Y3.1 hi;obtain rfl:j=0:=by omega
   rw[Z3 h6];have hlt:=(List.getElem?_eq_some_iff.1 hn).1;simp only[Nat.mul_one,Nat.zero_add,Nat.add_zero,List.getElem?_toArray];rw[List.getElem?_append_left (by simpa[ivs] using hlt)];simp[ivs,hn,Z4]
end
namespace Lift
open Go Go.Conc
variable[Jk]
structure Cx where
 Mu:Nat
 Wg:Nat
 Fd:Nat
 tM:TypeId
 tW:TypeId
 tB:TypeId
structure Sh where
 mu:Int
 ms:Int
 wg:Int
 ws:Int
 fd:List Bool
structure ShAt(K:Cx)(w:World)(s:Sh):Prop where
 mu:w.heap[K.Mu]?=some (.cells #[.int .i32 s.mu,.int .u32 s.ms] K.tM (0,0))
 wg:w.heap[K.Wg]?=some (.cells #[.int .u64 s.wg,.int .u32 s.ws] K.tW (0,0))
 fd:w.heap[K.Fd]?=some (.cells (s.fd.map Value.bool).toArray K.tB (0,0))
structure Rely(K:Cx)(O:Nat->Prop)(w w1:World):Prop where
 keep:∀c,O c->w1.heap[c]?=w.heap[c]?
 size:w.heap.size<=w1.heap.size
 env:w1.os.env=w.os.env
 live:(∃s,ShAt K w s)->∃s,ShAt K w1 s
theorem Rely.refl(K:Cx)(O:Nat->Prop)(w:World):Rely K O w w:=⟨λ_ _=>rfl,Ye _,rfl,id⟩
theorem Rely.trans{K:Cx}{O:Nat->Prop}{a b c:World}(h:Rely K O a b)(k:Rely K O b c):Rely K O a c:=⟨λx hx=>(k.keep x hx).trans (h.keep x hx),Yd h.size k.size,k.env.trans h.env,λx=>k.live (h.live x)⟩
def EvO(K:Cx)(RO O:Nat->Prop)(B:Nat)(e:Event):Prop:=
 (∃a wr,e=⟨.cell a,wr,false⟩/\O a.block/\a.block<B/\(wr=true->¬RO a.block))\/(∃c wr,e=⟨.obj c,wr,false⟩/\O c/\c<B/\(wr=true->¬RO c))\/e=⟨.mark .noRoom,false,true⟩\/e=⟨.output,true,false⟩ \/
 e=⟨.mark .disable,false,true⟩\/e=⟨.mark .enable,false,true⟩\/(∃p,p.block=K.Mu/\e=⟨.mark (.acquire p),false,true⟩)\/∃p,p.block=K.Mu/\e=⟨.mark (.releaseMerge p),false,true⟩
def Grow(O:Nat->Prop)(w w':World):Nat->Prop:=λc=>O c\/(w.heap.size<=c/\c<w'.heap.size)
structure Guar(K:Cx)(RO O:Nat->Prop)(w w':World)(es:Array Event):Prop where
 far:∀c,c<w.heap.size->¬O c->w'.heap[c]?=w.heap[c]?
 ro:∀c,RO c->w'.heap[c]?=w.heap[c]?
 size:w.heap.size<=w'.heap.size
 os:w'.os=w.os
 out:w'.output=w.output
 ev:∀e∈es,EvO K RO (Grow O w w') w'.heap.size e
inductive WT(P:Program)(m:Bool)(K:Cx)(RO:Nat->Prop)(Stop:(Nat->Prop)->Nat->Goroutine->World->Prop):(Nat->Prop)->Nat->Goroutine->World->Prop
 | stop {O d g w} (h:∀w1,Rely K O w w1->Stop O d g w1):WT P m K RO Stop O d g w
 | step {O d g w} (hr:g.status = .running) (ok:∀w1,Rely K O w w1->∃g' w' es,stepG P m g w1 = .go g' w' es/\Guar K RO O w1 w' es)
   (h:∀w1,Rely K O w w1->∀g' w' es,stepG P m g w1 = .go g' w' es->WT P m K RO Stop (Grow O w1 w') (deafBehind d es) g' w'):WT P m K RO Stop O d g w
section
variable{P:Program}{F:Array Func}{G:FuncId->Prop}{K:Cx}{m:Bool}{d:Nat}{RO O:Nat->Prop}{Stop:(Nat->Prop)->Nat->Goroutine->World->Prop}{r r':Ren}{v v' w w' w1:World}{g:Goroutine}
theorem WT.rely(h:WT P m K RO Stop O d g w)(k:Rely K O w w1):WT P m K RO Stop O d g w1:=by
 cases h with
 | stop h=>exact .stop λw2 h2=>h w2 (k.trans h2)
 | step hr ok h=>exact .step hr (λw2 h2=>ok w2 (k.trans h2)) (λw2 h2=>h w2 (k.trans h2))
theorem WT.go(hr:g.status = .running)(h:∀w1,Rely K O w w1->∃g' w' es,stepG P m g w1 = .go g' w' es/\Guar K RO O w1 w' es/\WT P m K RO Stop (Grow O w1 w') (deafBehind d es) g' w'):WT P m K RO Stop O d g w:=by
 refine .step hr (λw1 hw=>?_) λw1 hw g' w' es e=>?_
 ·obtain⟨g',w',es,e,hG,_⟩:=h w1 hw;exact⟨g',w',es,e,hG⟩
 ·obtain⟨g2,w2,es2,e2,hG2,hq⟩:=h w1 hw;rw[e]at e2;simp only[GStep.go.injEq]at e2;obtain⟨rfl,rfl,rfl⟩:=e2;exact hq
theorem Z0y(O:Nat->Prop)(w w':World)(h:w'.heap.size=w.heap.size):Grow O w w'=O:=by
 funext c;simp only[Grow,eq_iff_iff];constructor
 ·rintro (x | ⟨a,b⟩)
  ·exact x
  ·omega
 ·exact .inl
theorem WT.word{g':Goroutine}{ev:Ev.XEv}(hr:g.status = .running)(he:∀p,(ev = .acq p\/ev = .mrg p)->p.block=K.Mu)(h:∀w1,Rely K O w w1->stepG P m g w1 = .go g' w1 ev.es)(k:WT P m K RO Stop O (deafBehind d ev.es) g' w): WT P m K RO Stop O d g w:=by
 refine .go hr λw1 hw=>⟨g',w1,_,h w1 hw,⟨λ_ _ _=>rfl,λ_ _=>rfl,Ye _,rfl,rfl,λe hm=>?_⟩,?_⟩
 ·cases ev with
  | none=>simp[Ev.XEv.es]at hm
  | dis=>simp only[Ev.XEv.es,Yb,List.mem_singleton]at hm;subst hm;exact .inr (.inr (.inr (.inr (.inl rfl))))
  | en=>simp only[Ev.XEv.es,Yb,List.mem_singleton]at hm;subst hm;exact .inr (.inr (.inr (.inr (.inr (.inl rfl)))))
  | acq p=>simp only[Ev.XEv.es,Yb,List.mem_singleton]at hm;subst hm;exact .inr (.inr (.inr (.inr (.inr (.inr (.inl ⟨p,he p (.inl rfl),rfl⟩))))))
  | mrg p=>simp only[Ev.XEv.es,Yb,List.mem_singleton]at hm;subst hm;exact .inr (.inr (.inr (.inr (.inr (.inr (.inr ⟨p,he p (.inr rfl),rfl⟩))))))
 ·rw[Z0y O w1 w1 rfl];exact k.rely hw
theorem Z4R(s:Ev.St)(mv:Ev.Mv):(s.upd mv).deaf=deafBehind s.deaf mv.ev.es:=by
 unfold Ev.St.upd;cases mv.ev<;>rfl
theorem WT.pn{X:Ev.Xt}(hX:Ev.XOk P X){cs:List Frame}:∀(n:Nat) (s:Ev.St) {f:Frame} {fs:List Frame},Ev.SOk s.top s.rest f fs->f.roundOf=none ->
  (∀p∈(Ev.pn P X n s).cvs,∀w1,Rely K O w w1->∃v,w1.cell? p=some v)->(∀p∈(Ev.pn P X n s).mks,p.block=K.Mu) ->
  (∀f' fs',Ev.SOk (Ev.pn P X n s).top (Ev.pn P X n s).rest f' fs'->WT P m K RO Stop O (Ev.pn P X n s).deaf (run1 f' (fs'++cs)) w)->WT P m K RO Stop O s.deaf (run1 f (fs++cs)) w
 | 0,s,f,fs,h,hr,hc,hm,k=>k f fs h
 | n+1,s,f,fs,h,hr,hc,hm,k=>by
  unfold Ev.pn at hc hm k;cases e:Ev.pmove P X s.top s.rest with
  | none=>rw[e]at k;exact k f fs h
  | some mv =>
   rw[e]at hc hm k;dsimp only at hc hm k;obtain⟨f',fs',h',hs⟩:=Ev.pmove_ok (cs:=cs) hX h e;obtain⟨m1,m2⟩:=Ev.pn_mono P X n (s.upd mv);refine WT.word (g':=run1 f' (fs'++cs)) (ev:=mv.ev) rfl (λp hp=>hm p (m2 p (List.mem_append_left _ (by rcases hp with h | h<;>rw[h]<;>simp[Ev.XEv.places])))) (λw1 hw=>?_) ?_
   ·exact hs m w1 λp hp=>hc p (m1 p (List.mem_append_left _ hp)) w1 hw
   ·rw[<-Z4R];exact WT.pn hX n (s.upd mv) h' h'.1.round hc hm k
theorem Z4j(h:WH (Iv P F) r v w)(k:Rely K O w w1)(ho:∀b c,r b=some c->O c):WH (Iv P F) r v w1:=
 ⟨λb c hb=>by rw[k.keep c (ho b c hb)];exact h.on b c hb,h.inj,h.env.trans k.env.symm⟩
structure Fit(RO O:Nat->Prop)(r:Ren)(v:World):Prop where
 own:∀b c,r b=some c->O c
 ro:∀b c,r b=some c->RO c->Shut v b
theorem Fit.kept(h:Fit RO O r v)(k:Kept r r' v v' w w')(hO:∀c,O' c↔O c\/(w.heap.size<=c/\c<w'.heap.size))(hro:∀c,RO c->c<w.heap.size)(hw:WH (Iv P F) r' v' w'): Fit RO O' r' v':=
 ⟨λb c hb=>by
  obtain⟨o,o',h1,h2,_⟩:=hw.on b c hb;have hl:=(Y0.1 h2).1;rcases k.new b c hb with q | ⟨_,q⟩
  ·exact(hO c).2 (.inl (h.own b c q))
  ·exact(hO c).2 (.inr ⟨q,hl⟩),λb c hb hc=>by
  rcases k.new b c hb with q | ⟨_,q⟩
  ·exact k.shutS (h.ro b c q hc)
  ·have:=hro c hc;omega⟩
theorem ZkJ{e:Event}(h:EvG r' v w' e)(ho:∀b c,r' b=some c->O' c)(hro:∀b c,r' b=some c->RO c->Shut v b): EvO K RO O' w'.heap.size e:=by
 rcases h with⟨a,wr,b,rfl,hb,hl,hs⟩ | ⟨c,wr,b,rfl,hb,hl,hs⟩ | rfl | rfl
 ·exact .inl ⟨a,wr,rfl,ho _ _ hb,hl,λhw hc=>hs hw (hro _ _ hb hc)⟩
 ·exact .inr (.inl ⟨c,wr,rfl,ho _ _ hb,hl,λhw hc=>by
   obtain⟨cs,e,q⟩:=hro _ _ hb hc;exact hs ⟨_,_,_,q⟩⟩)
 ·exact .inr (.inr (.inl rfl))
 ·exact .inr (.inr (.inr (.inl rfl)))
theorem Zdz{ns:Array Event}(hf:Fit RO O r v)(k:Kept r r' v v' w w')(hrl:∀c,RO c->c<w.heap.size)(hw:WH (Iv P F) r' v' w')(he:∀e∈ns,EvG r' v w' e):Guar K RO O w w' ns where
 far:=λc hc hn=>k.far c hc λb hb=>hn (hf.own b c hb)
 ro:=λc hc=>by
  by_cases h:∃b,r b=some c
  ·obtain⟨b,hb⟩:=h;exact k.shutW b c (hf.ro b c hb hc) hb
  ·exact k.far c (hrl c hc) λb hb=>h ⟨b,hb⟩
 size:=k.sizeW
 os:=k.os.2.symm
 out:=k.out
 ev:=λe hm=>ZkJ (he e hm) (λb c hb=>by
  obtain⟨o,o',h1,h2,_⟩:=hw.on b c hb;have hl:=(Y0.1 h2).1;rcases k.new b c hb with q | ⟨_,q⟩
  ·exact .inl (hf.own b c q)
  ·exact .inr ⟨q,hl⟩) λb c hb hc=>by
  rcases k.new b c hb with q | ⟨_,q⟩
  ·exact hf.ro b c q hc
  ·have:=hrl c hc;omega
structure Ros(RO U:Nat->Prop)(r:Ren)(w:World):Prop where
 low:∀c,RO c->c<w.heap.size
 una:∀c,U c->c<w.heap.size/\∀b,r b≠some c
theorem Ros.kept(h:Ros RO U r w)(k:Kept r r' v v' w w'): Ros RO U r' w':=
 ⟨λc hc=>Y8 (h.low c hc) k.sizeW,λc hc=>⟨Y8 (h.una c hc).1 k.sizeW,λb hb=>by
  have hu:=h.una c hc;rcases k.new b c hb with q | ⟨_,q⟩
  ·exact hu.2 b q
  ·omega⟩⟩
theorem Ros.rely(h:Ros RO U r w)(l:Rely K O w w1): Ros RO U r w1:=⟨λc hc=>Y8 (h.low c hc) l.size,λc hc=>⟨Y8 (h.una c hc).1 l.size,(h.una c hc).2⟩⟩
theorem Z8s{ns:Array Event}(h:∀e∈ns,EvG r v w e)(d:Nat):deafBehind d ns=d:=
 deafBehind_still (λe he=>by
  rcases h e he with⟨a,wr,b,rfl,_⟩ | ⟨c,wr,b,rfl,_⟩ | rfl | rfl
  ·exact⟨sU,sU⟩
  ·exact⟨sU,sU⟩
  ·exact⟨sU,sU⟩
  ·exact⟨sU,sU⟩) d
theorem Zk5(hJr:∀O (w w1:World),Rely K O w w1->J O w->J O w1)(hJg:∀O (w w':World) es,Guar K RO O w w' es->(∀c,U c->w'.heap[c]?=w.heap[c]?)->J O w->J (Grow O w w') w')(S:Strip P F (CodeOk P false) G)(hg:GOk P F G)(hrec:Rec P){Stop0:List Frame->World->Prop}(hP:∀x u,¬Stop0 [x] u){V:List Frame}(hE:Ends (PF P F) Stop0 V v):
  ∀{f A g B r O w},V=f::(A++[poison])->Stk P F r (f::A) (g::B)->WH (Iv P F) r v w->Fit RO O r v->Ros RO U r w->J O w ->
   (∀f' A' g' B' r' v' w' O',Stop0 (f'::(A'++[poison])) v'->Stk P F r' (f'::A') (g'::B')->WH (Iv P F) r' v' w'->Fit RO O' r' v'->Ros RO U r' w'->J O' w'->WT P m K RO Stop O' d (run1 g' (B'++cs)) w')->WT P m K RO Stop O d (run1 g (B++cs)) w:=by
 induction hE with
 | @stop V v h =>
  intro f A g B r O w hV hs hw hf hr hj fin;subst hV;exact fin _ _ _ _ _ _ _ _ h hs hw hf hr hj
 | @step f K v ok h ih =>
  intro f0 A g B r O w hV hs hw hf hr hj fin;simp only[List.cons.injEq]at hV;obtain⟨rfl,rfl⟩:=hV;refine WT.go rfl λw1 hl=>?_;have hw1:WH (Iv P F) r v w1:=Z4j hw hl hf.own;have hr1:Ros RO U r w1:=hr.rely hl;have hj1:J O w1:=hJr _ _ _ hl hj;obtain⟨τ,f',K',v',es,e,hc⟩:=Z5B S hg hrec.1 hs hw1 (λq=>hrec.2 _ q.1) ok m cs;have hf1:Fit RO O r (re v τ):=⟨hf.own,hf.ro⟩;rcases hc with⟨rfl,hx⟩ | ⟨A',g',B',r',w',ns,rfl,e2,hs',hw',hk,he⟩
  ·exact absurd (h τ _ _ _ _ e) (Z0n hP hx)
  ·have hG:Guar K RO O w1 w' ns:=Zdz hf1 hk hr1.low hw'.h he;refine⟨_,w',ns,e2,hG,?_⟩;rw[Z8s he];exact ih τ _ _ _ _ e rfl hs' hw'.h (hf1.kept hk (λc=>Iff.rfl) hr1.low hw'.h) (hr1.kept hk) (hJg _ _ _ _ hG (λc hc=>hk.far c (hr1.una c hc).1 λb hb=>(hr1.una c hc).2 b hb) hj1) fin
theorem Zf5(hJr:∀O (w w1:World),Rely K O w w1->J O w->J O w1)(hJg:∀O (w w':World) es,Guar K RO O w w' es->(∀c,U c->w'.heap[c]?=w.heap[c]?)->J O w->J (Grow O w w') w')(S:Strip P F (CodeOk P false) G)(hg:GOk P F G)(hrec:Rec P){xs ys:Array Value}(g:G f)(ha:VRs r xs ys)(hw:WH (Iv P F) r v w)(hf:Fit RO O r v)(hr:Ros RO U r w)(hj:J O w)(hR:∀e u T,R e (re u T)->R e u)(hn:∀u,¬R .outgrown u)(hp:∀u ch,¬R (.panicked ch) u)(hC:∀T,Calls (PF P F) f xs (re v T) R){c:Frame}(ret:∀r' v' w' O' x y,R (.returned x) v'->VR r' x y->WH (Iv P F) r' v' w'->Fit RO O' r' v'->Ros RO U r' w'->J O' w'->WT P m K RO Stop O' d (run1 (c.finish y) cs) w'):
  WT P m K RO Stop O d (run1 (Frame.enter P f ys .normal) (c::cs)) w:=by
 have hfr:=Z0Y S ha g hg (k:=.normal) (.inl rfl);have hE:=Z1Q S hg hrec g ha hw hR hn hC;refine Zk5 (U:=U) (J:=J) hJr hJg (A:=[]) (B:=[]) S hg hrec Z3t hE rfl ⟨.cons hfr .nil,⟨.inl rfl,λh=>absurd rfl h⟩,trivial⟩ hw hf hr hj ?_;intro f' A' g' B' r' v' w' O' hs hst hw' hf' hr' hj';obtain⟨T,e,fr,h1,h2,h3,h4,h5⟩:=hs;simp only[List.cons.injEq]at h1;obtain⟨rfl,h1⟩:=h1;have hA:A'=[]:=by
  cases A' with
  | nil=>rfl
  | cons a az =>
   have:=congrArg List.length h1;simp at this
 subst hA;have hB:B'=[]:=by
  obtain⟨_,h,_⟩:=hst.uncons;have:=h.rel;cases B' with
  | nil=>rfl
  | cons b bs=>cases this
 subst hB;have hfr':=hst.uncons.1;cases e with
 | outgrown=>exact absurd rfl h5
 | panicked ch=>exact absurd h4 (hp _ _)
 | returned x =>
  refine WT.go rfl λw1 hl=>?_;have hw1:WH (Iv P F) r' v' w1:=Z4j hw' hl hf'.own;have hr1:Ros RO U r' w1:=hr'.rely hl;have hj1:J O' w1:=hJr _ _ _ hl hj';obtain⟨r2,T2,y,w2,ns,e2,hv,hw2,hk2,he⟩:=Z3B hfr' hw1 h3 m c cs;have hf1:Fit RO O' r' (re v' T2):=⟨hf'.own,hf'.ro⟩;have hG:Guar K RO O' w1 w2 ns:=Zdz hf1 hk2 hr1.low hw2.h he;refine⟨_,w2,ns,e2,hG,?_⟩;rw[Z8s he];have hf2:=hf1.kept hk2 (λc=>Iff.rfl) hr1.low hw2.h;exact ret r2 v' w2 _ x y h4 hv (hw2.h.of rfl rfl hw2.env) ⟨hf2.own,hf2.ro⟩ (hr1.kept hk2) (hJg _ _ _ _ hG (λc hc=>hk2.far c (hr1.una c hc).1 λb hb=>(hr1.una c hc).2 b hb) hj1)
end
end Lift
namespace Lift
open Go Go.Conc
variable[Jk]
def Z6L:Go.Loc->Option Nat
 | .cell a=>some a.block
 | .obj c=>some c
 | _=>none
def Z9e(K:Cx)(l:Go.Loc):Prop:=∃p:Addr,l = .cell p/\(p.block=K.Mu\/p.block=K.Wg)
structure Zn where
 m0:Nat
 j:Nat
 O:Nat->Nat->Prop
 RO:Nat->Nat->Prop
 Om:Nat->Prop
def MayW(K:Cx)(Z:Zn)(i:Nat)(a:Touch):Prop:=a.kind = .plain/\((∃c,Z6L a.loc=some c/\Z.O i c/\(a.write=true->¬Z.RO i c))\/a.loc = .cell ⟨K.Fd,i,none⟩)
def Dom(K:Cx)(Z:Zn)(i:Nat)(a:Touch):Prop:=(∃c,Z6L a.loc=some c/\Z.O i c/\(a.write=true\/¬Z.RO i c))\/a.loc = .cell ⟨K.Fd,i,none⟩\/(Z9e K a.loc/\a.kind = .plain)
structure Sep(K:Cx)(D:Nat->Prop)(Z:Zn):Prop where
 shared:∀i c,i<Z.j->Z.O i c->c≠K.Mu/\c≠K.Wg/\c≠K.Fd/\¬D c/\¬Z.Om c
 two:∀i i' c,i<Z.j->i'<Z.j->i≠i'->Z.O i c->Z.O i' c->Z.RO i c/\Z.RO i' c
 own:∀c,Z.Om c->c≠K.Mu/\c≠K.Wg/\c≠K.Fd/\¬D c
 fd:K.Fd≠K.Mu/\K.Fd≠K.Wg/\¬D K.Fd
structure TI(K:Cx)(D:Nat->Prop)(Z:Zn)(B p0:Nat)(dm:Nat)(t:Trace):Prop where
 clean:∀said,¬Race said t
 known:∀i a,touchAt t i=some a->a.loc.isMemory=true->Knows t 0 i\/((Dk D a.loc\/Z9e K a.loc)/\a.kind = .atomic)\/∃x,x<Z.j/\t.g? i=some (Z.m0+x)/\MayW K Z x a
 work:∀x,x<Z.j->∀i a,touchAt t i=some a->a.loc.isMemory=true->Dom K Z x a->Knows t (Z.m0+x) i
 over:∀i g,t.g? i=some g->g≠0->t.counts i->(∃z,t.g? z=some 0/\HappensBefore t i z)\/∃x a,x<Z.j/\g=Z.m0+x/\touchAt t i=some a/\MayW K Z x a
 hears:Deaf t 0=dm
 above:∀y,Z.m0+Z.j<=y->Deaf t y=0
 seen:∀op∈t,op.act.low B
 norel:∀i,p0<=i->t.act? i≠some (.mark (.release ⟨K.Wg,0,none⟩))
 start:p0<=t.size
 first:0<Z.m0
def Said(K:Cx)(Z:Zn)(p0:Nat)(t:Trace)(x:Nat):Prop:=
 ∃r,p0<=r/\t.act? r=some (.mark (.releaseMerge ⟨K.Wg,0,none⟩))/\t.g? r=some (Z.m0+x)/\t.heard r/\∀i a,t.g? i=some (Z.m0+x)->touchAt t i=some a->a.kind = .plain->i<r
section
variable{K:Cx}{D:Nat->Prop}{Z Z':Zn}{B B' p0 dm dm':Nat}{t u:Trace}
theorem TI.fresh(h:TI K D Z B p0 dm t){i:Nat}{a:Touch}(ha:touchAt t i=some a){c:Nat}(hc:Z6L a.loc=some c):c<B:=by
 obtain⟨x,hx,hxa⟩:=touch_of ha;have hl:=h.seen x (Yk hx);revert hl hxa;cases x.act with
 | access e =>
  intro hxa hl;simp only[MemAct.touch?,Y4]at hxa;subst hxa;cases he:e.loc with
  | cell q=>rw[he]at hc;simp only[Z6L,Y4]at hc;subst hc;rw[MemAct.low,he]at hl;exact hl
  | obj q=>rw[he]at hc;simp only[Z6L,Y4]at hc;subst hc;rw[MemAct.low,he]at hl;exact hl
  | _=>rw[he]at hc;simp[Z6L]at hc
 | mark m =>
  intro hxa hl;cases m<;>simp only[MemAct.touch?,Y4,reduceCtorEq]at hxa
  ·subst hxa;simp only[Z6L,Y4]at hc;subst hc;exact hl
  ·subst hxa;simp only[Z6L,Y4]at hc;subst hc;exact hl
 | _=>intro hxa;cases hxa
def EvT(K:Cx)(Z:Zn)(x B:Nat)(d:Nat)(es:Array Event):Prop:=
 ∀(n:Nat) e,es[n]?=some e->(MemAct.ofEvent e).low B/\e.loc ≠ .mark (.release ⟨K.Wg,0,none⟩) /\
  ∀a,(MemAct.ofEvent e).touch?=some a->a.loc.isMemory=true->MayW K Z x a\/(Z9e K a.loc/\a.kind = .atomic/\0<deafBehind d (es.extract 0 n))
theorem Z5k{g:Nat}{fn:FuncId}{pos:String}{es:Array Event}{i:Nat}{op:MemOp}(h:(t++MemOp.ofEvents g fn pos es)[i]?=some op)(hi:t.size<=i): ∃e,es[i-t.size]?=some e/\op={g,fn,pos,act:=.ofEvent e}:=by
 rw[Array.getElem?_append_right hi,ofEvents_eq,Array.getElem?_map]at h;obtain⟨e,he,rfl⟩:=Y3.1 h;exact⟨e,he,rfl⟩
theorem ZfD{x d:Nat}{es:Array Event}{fn:FuncId}{pos:String}(he:EvT K Z x B d es){i:Nat}{op:MemOp}{a:Touch}(h:(t++MemOp.ofEvents (Z.m0+x) fn pos es)[i]?=some op)(hi:t.size<=i)(ha:op.act.touch?=some a)(hm:a.loc.isMemory=true)(hd:Deaf t (Z.m0+x)=d):
  MayW K Z x a\/(Z9e K a.loc/\a.kind = .atomic/\¬(t++MemOp.ofEvents (Z.m0+x) fn pos es).heard i):=by
 obtain⟨e,h1,rfl⟩:=Z5k h hi;obtain⟨_,_,h3⟩:=he _ e h1;rcases h3 a ha hm with h4 | ⟨h4,h5,h6⟩
 ·exact .inl h4
 ·refine .inr ⟨h4,h5,?_⟩;rintro⟨g,hg,hz⟩;have hgx:g=Z.m0+x:=by simp[Trace.g?,h]at hg;exact hg.symm
  subst hgx;have hle:i-t.size<=es.size:=by
   rcases Nat.lt_or_ge (i-t.size) es.size with q | q
   ·omega
   ·rw[Array.getElem?_eq_none q]at h1;cases h1
  have:=deaf_inside t (Z.m0+x) fn pos es (i-t.size) hle;rw[show t.size+(i-t.size)=i by omega,hz,hd]at this;omega
structure Zle(Z Z':Zn)(B:Nat):Prop where
 m0:Z'.m0=Z.m0
 j:Z'.j=Z.j
 O:∀x c,Z.O x c->Z'.O x c
 new:∀x c,Z'.O x c->Z.O x c\/B<=c
 RO:Z'.RO=Z.RO
 Om:Z'.Om=Z.Om
theorem MayW.mono(k:Zle Z Z' B){x:Nat}{a:Touch}(h:MayW K Z x a):MayW K Z' x a:=by
 refine⟨h.1,h.2.imp (λ⟨c,h1,h2,h3⟩=>⟨c,h1,k.O x c h2,λhw=>by rw[k.RO];exact h3 hw⟩) id⟩
theorem Z8G(S:Sep K D Z){x y:Nat}(hx:x<Z.j)(hy:y<Z.j)(hne:x≠y){a:Touch}(h:MayW K Z x a): ¬Dom K Z y a:=by
 obtain⟨hp,h⟩:=h;rintro (⟨c,h1,h2,h3⟩ | h1 | ⟨⟨p,h1,h2⟩,_⟩)
 ·rcases h with⟨c',k1,k2,k3⟩ | k1
  ·rw[h1]at k1;obtain rfl:=Y1 k1;obtain⟨r1,r2⟩:=S.two x y c hx hy hne k2 h2;rcases h3 with h3 | h3
   ·exact k3 h3 r1
   ·exact h3 r2
  ·rw[k1]at h1;obtain rfl:=Y1 h1;exact(S.shared y _ hy h2).2.2.1 rfl
 ·rcases h with⟨c',k1,k2,_⟩ | k1
  ·rw[h1]at k1;obtain rfl:=Y1 k1;exact(S.shared x _ hx k2).2.2.1 rfl
  ·rw[h1]at k1;simp only[Go.Loc.cell.injEq,Addr.mk.injEq,true_and,and_true]at k1;exact hne k1.symm
 ·rcases h with⟨c',k1,k2,_⟩ | k1
  ·rw[h1]at k1;obtain rfl:=Y1 k1;have:=S.shared x _ hx k2;rcases h2 with h2 | h2
   ·exact this.1 h2
   ·exact this.2.1 h2
  ·rw[h1]at k1;simp only[Go.Loc.cell.injEq]at k1;subst k1;rcases h2 with h2 | h2
   ·exact S.fd.1 h2
   ·exact S.fd.2.1 h2
theorem TI.worker(h:TI K D Z B p0 dm t)(S:Sep K D Z')(k:Zle Z Z' B)(hB:B<=B'){x d:Nat}(hx:x<Z.j){fn:FuncId}{pos:String}{es:Array Event}(hd:Deaf t (Z.m0+x)=d)(he:EvT K Z' x B' d es):
  TI K D Z' B' p0 dm (t++MemOp.ofEvents (Z.m0+x) fn pos es):=by
 have hu:∀op∈MemOp.ofEvents (Z.m0+x) fn pos es,op.g=Z.m0+x:=λop hop=>by obtain⟨e,_,rfl⟩:=Go.Conc.mem_ofEvents hop;rfl
 have hm:=h.first;have eg:Z'.m0=Z.m0:=k.m0;have ej:Z'.j=Z.j:=k.j
 -- Dom Zap,at a touch that stood
 have dom_old:∀y i a,touchAt t i=some a->Dom K Z' y a->Dom K Z y a:=by
  intro y i a ha;rintro (⟨c,h1,h2,h3⟩ | h1)
  ·rcases k.new y c h2 with q | q
   ·exact .inl ⟨c,h1,q,by rw[<-k.RO];exact h3⟩
   ·have:=h.fresh ha h1;omega
  ·exact .inr h1
 have rd:∀{i:Nat} {op:MemOp} {a:Touch},(t++MemOp.ofEvents (Z.m0+x) fn pos es)[i]?=some op->t.size<=i->op.act.touch?=some a->a.loc.isMemory=true->MayW K Z' x a\/(Z9e K a.loc/\a.kind = .atomic/\¬(t++MemOp.ofEvents (Z.m0+x) fn pos es).heard i):=by
  intro i op a h1 h2 h3 h4;have:=ZfD (t:=t) (fn:=fn) (pos:=pos) (i:=i) (op:=op) (a:=a) (Z:=Z') he (by rw[eg];exact h1) h2 h3 h4 (by rw[eg];exact hd);rw[eg]at this;exact this
 refine⟨λsaid=>noRace_append (h.clean said) hu λi a ha op hop b hb hc=>?_,λi a ha hmem=>?_,λy hy i a ha hmem hdom=>?_,λi g hg hg0 hcn=>?_,?_,λy hy=>?_,λop hop=>?_,λi hi=>?_,?_,by rw[eg];exact hm⟩
 ·-- no race
  obtain⟨e,hee,rfl⟩:=Go.Conc.mem_ofEvents hop;obtain⟨n,hn⟩:=Array.mem_iff_getElem?.1 hee;obtain⟨_,_,h3⟩:=he n e hn;refine h.work x hx i a ha hc.2.1 (dom_old x i a ha ?_);rcases h3 b hb (hc.1▸hc.2.1) with⟨hp,hb2⟩ | ⟨hb2,hb3,_⟩
  ·rcases hb2 with⟨c,c1,c2,c3⟩ | c1
   ·refine .inl ⟨c,by rw[hc.1];exact c1,c2,?_⟩
    rcases hc.2.2.1 with q | q
    ·exact .inl q
    ·exact .inr (c3 q)
   ·exact .inr (.inl (by rw[hc.1];exact c1))
  ·refine .inr (.inr ⟨by rw[hc.1];exact hb2,?_⟩)
   rcases hc.2.2.2 with q | q | ⟨_,_,q⟩
   ·exact q
   ·rw[hb3]at q;cases q
   ·rw[hb3]at q;cases q
 ·obtain⟨op,hop,hoa⟩:=touch_of ha;rcases getElem?_append_cases hop with⟨hi,hop'⟩ | ⟨hi,hop'⟩
  ·rcases h.known i a (by rw[touchAt_of hop'];exact hoa) hmem with q | q | ⟨y,y1,y2,y3⟩
   ·exact .inl (q.app _)
   ·exact .inr (.inl q)
   ·exact .inr (.inr ⟨y,by rw[ej];exact y1,by rw[g?_old hi,eg];exact y2,y3.mono k⟩)
  ·rcases rd hop hi hoa hmem with q | ⟨q1,q2,_⟩
   ·exact .inr (.inr ⟨x,by rw[ej];exact hx,by rw[Trace.g?,hop];simp[eg,hu op hop'],q⟩)
   ·exact .inr (.inl ⟨.inr q1,q2⟩)
 ·obtain⟨op,hop,hoa⟩:=touch_of ha;rcases getElem?_append_cases hop with⟨hi,hop'⟩ | ⟨hi,hop'⟩
  ·rw[eg];have ha':touchAt t i=some a:=by rw[touchAt_of hop'];exact hoa
   exact(h.work y (by rw[<-ej];exact hy) i a ha' hmem (dom_old y i a ha' hdom)).app _
  ·rcases rd hop hi hoa hmem with q | ⟨q1,q2,_⟩
   ·by_cases hyx:x=y
    ·subst hyx;have:=knows_own hop;rw[hu op hop']at this;rw[eg];exact this
    ·exact absurd hdom (Z8G S (by rw[ej];exact hx) hy hyx q)
   ·rcases hdom with⟨c,h1,h2,_⟩ | h1 | ⟨_,h2⟩
    ·obtain⟨p,hp,hp2⟩:=q1;rw[hp]at h1;obtain rfl:=Y1 h1;have:=S.shared y _ hy h2;rcases hp2 with hp2 | hp2
     ·exact absurd hp2 this.1
     ·exact absurd hp2 this.2.1
    ·obtain⟨p,hp,hp2⟩:=q1;rw[h1]at hp;simp only[Go.Loc.cell.injEq]at hp;subst hp;rcases hp2 with hp2 | hp2
     ·exact absurd hp2 S.fd.1
     ·exact absurd hp2 S.fd.2.1
    ·rw[q2]at h2;cases h2
 ·obtain⟨a,ha,hmem,hk⟩:=hcn;have ha':touchAt (t++MemOp.ofEvents (Z.m0+x) fn pos es) i=some a:=ha;obtain⟨op,hop,hoa⟩:=touch_of ha;rcases getElem?_append_cases hop with⟨hi,hop'⟩ | ⟨hi,hop'⟩
  ·have ht:touchAt t i=some a:=by rw[touchAt_of hop'];exact hoa
   rcases h.over i g (by rw[<-hg,g?_old hi]) hg0 ⟨a,ht,hmem,hk.imp id (heard_old hi).1⟩ with⟨z,hz,hb⟩ | ⟨y,b,y1,y2,y3,y4⟩
   ·have hzl:z<t.size:=by
     unfold Trace.g? at hz;obtain⟨q,hq,_⟩:=Y3.1 hz;exact lt_size_of_getElem? hq
    exact .inl ⟨z,by rw[g?_old hzl];exact hz,hb_app _ hb⟩
   ·exact .inr ⟨y,b,by rw[ej];exact y1,by rw[eg];exact y2,by rw[touchAt_old hi];exact y3,y4.mono k⟩
  ·have hgx:g=Z.m0+x:=by
    rw[Trace.g?,hop]at hg;simp only[Option.map_some,Y4]at hg;rw[<-hg,hu op hop']
   rcases rd hop hi hoa hmem with q | ⟨q1,q2,q3⟩
   ·exact .inr ⟨x,a,by rw[ej];exact hx,by rw[eg];exact hgx,ha',q⟩
   ·rcases hk with hk | hk
    ·exact absurd q2 hk
    ·exact absurd hk q3
 ·rw[Deaf_other t (g':=Z.m0+x) oM _ hu];exact h.hears
 ·rw[Deaf_other t (g':=Z.m0+x) (by rw[eg,ej]at hy;omega) _ hu];exact h.above y (by rw[eg,ej]at hy;exact hy)
 ·rcases Array.mem_append.1 hop with q | q
  ·exact MemAct.low_mono hB (h.seen op q)
  ·obtain⟨e,hee,rfl⟩:=Go.Conc.mem_ofEvents q;obtain⟨n,hn⟩:=Array.mem_iff_getElem?.1 hee;exact(he n e hn).1
 ·intro e;obtain⟨op,hop,hoa⟩:=Y3.1 e;rcases getElem?_append_cases hop with⟨hil,hop'⟩ | ⟨hil,hop'⟩
  ·exact h.norel i hi (by rw[act?_of hop',hoa])
  ·obtain⟨ev,h1,rfl⟩:=Z5k hop hil;refine(he _ ev h1).2.1 ?_;dsimp only at hoa;revert hoa;obtain⟨loc,wr,sy⟩:=ev;cases loc with
   | mark m=>cases m<;>simp[MemAct.ofEvent]
   | cell c=>simp[MemAct.ofEvent]
   | obj c=>cases wr<;>cases sy<;>simp[MemAct.ofEvent]
   | _=>simp[MemAct.ofEvent]
 ·have:=h.start;simp;omega
end
end Lift
end Go.Proofs.YtfelljbfeoplhaaGreat
