/- Parts of a proof: Dma, Dnr, Dof, Dfw, Dtl, Dse, Uz, Ut, Zb, Ya, Zd, Dfl, Ze. No conditions. -/
import Derived.Test.YtfelljbfeoplhaaGreatPsp1
import Derived.Test.YtfelljbfeoplhaaGreatPsp4
import Derived.Test.YtfelljbfeoplhaaGreatPsp5
import Derived.Test.YtfelljbfeoplhaaGreatPsp6
set_option linter.unusedVariables false
set_option linter.unusedSimpArgs false
set_option linter.unusedSectionVars false
set_option maxRecDepth 100000
set_option maxHeartbeats 4000000
namespace Go.Proofs.YtfelljbfeoplhaaGreat
variable{b:Bool}{s:Nat→Int}{ls xs ys:List Int}{e t t':Go.TypeId}{v:Go.Value}{w w':Go.World}{base i id n:Nat}{l:List Go.Oper}{x y:Go.Operand}{k:Go.IntKind}{m:Int}{β:Nat→Bool}{ρ:Go.Operand→Go.Value}
section
open Go.RowKit Go.Maps
variable{μ:Nat}
theorem Z8B{f:Nat→Int}(h:gcE f=1){k:Nat}(hk:k<4): lowF f (gcE f) 4 k=f k:=by
 rw[lowF,if_pos hk,h];simp
theorem ZkR{f:Nat→Int}(hf:TubS f)(hg:0<gcE f): TubS (lowF f (gcE f) 4):=by
 intro k hk;obtain⟨h0,h1⟩:=hf k hk;rw[lowF,if_pos hk];have h2:(1:Int)≤(gcE f:Int):=by omega
 refine⟨Int.ediv_nonneg h0 (by omega),Int.le_trans (Int.ediv_le_self _ h0) h1⟩
theorem Z9y{f:Nat→Int}:∀{n:Nat},(∀k,k<n→f k≤0)→gcT f n=0
 | 0,_=>rfl
 | n+1,h=>by
  rw[gcT,Z9y (n:=n) fun k hk=>h k (by omega),show (f n).toNat=0 by have:=h n (by omega);omega,Nat.gcd_zero_right]
theorem Zjm{f:Nat→Int}(hf:TubS f)(hg:0<gcE f)(h:tubE (lowF f (gcE f) 4) f=true): gcE f=1:=by
 rw[Za9]at h
 by_cases hz:∀k,k<4→f k≤0
 ·rw[gcE,Z9y hz]at hg;omega
 ·simp only[Classical.not_forall]at hz
  obtain⟨k,hk,hp⟩:=hz;have h1:=h k hk;rw[lowF,if_pos hk]at h1;obtain⟨h0,-⟩:=hf k hk
  by_cases h2:(gcE f:Int)≥2
  ·have h3:f k / (gcE f:Int)<f k:=Int.ediv_lt_of_lt_mul (by omega) (by
    have:f k*2≤f k*(gcE f:Int):=Int.mul_le_mul_of_nonneg_left h2 h0;omega)
   omega
  ·omega
theorem Z6P{f:Nat→Int}(h:gcE f=1): (!tubE (lowF f (gcE f) 4) f)=false:=by rw[Za9.2 fun k hk=>Z8B h hk];rfl
theorem Z9f(h:(!b)=true): b=false:=by cases b;rfl;cases h
theorem Z9e(h:(!b)=false): b=true:=by cases b;cases h;rfl
def cndE(x:Vm)(s:Nat→Int)(ls:List Int)(t:List Int):Bool:=decide (gcE (val t)=1)&&matE x (val t) s ls
def matL(x:Vm)(s:Nat→Int)(ls:List Int):List (List Int):=(recL x.D.length).filter (cndE x s ls)
theorem Z3R{x:Vm}{t: List Int}(h:gcE (val t)≠1): cndE x s ls t=false:=by rw[cndE,decide_eq_false h];rfl
theorem Z6o{x:Vm}{t: List Int}(h:matE x (val t) s ls=false): cndE x s ls t=false:=by rw[cndE,h,Bool.and_false]
theorem Z6p{x:Vm}{t: List Int}(h1:gcE (val t)=1)(h:matE x (val t) s ls=true): cndE x s ls t=true:=by rw[cndE,h,Bool.and_true];exact decide_eq_true h1
theorem Zke{t q:List Int}(hl:t.length=q.length)(h4:t.length≤4)(h:t≠q): ∃k,k<4∧val q k≠val t k:=by
 apply Classical.byContradiction;intro hn;refine h (List.ext_getElem hl fun k h1 h2=>?_);apply Classical.byContradiction;intro he;refine hn ⟨k,by omega,fun e=>he ?_⟩;simpa[val,h1,h2] using e.symm
structure MatI(x:Vm)(sv lv:Value)(w:World)(B n3 n4 n5 n7 n8 mb:Nat)(out:List (List Int))(va:Option Addr)(vc:Nat)(W:World):Prop where
 q3:W.heap[n3]?=some (.cells #[.int .i64 x.B,.slice x.da x.D.length x.dc,.slice x.la x.L.length x.lc,.int .i64 x.tol] 85 (0,0))
 q4:W.heap[n4]?=some (.cells #[sv] 22 (0,0))
 q5:W.heap[n5]?=some (.cells #[lv] 22 (0,0))
 q7:W.heap[n7]?=some (.cells #[.slice va out.length vc] 93 (0,0))
 q8:W.heap[n8]?=some (.cells #[.map (some mb)] 157 (0,0))
 oo:W.ownsRow w.heap.size 88 4 (.slice va out.length vc) out.length (Z2Z out)
 mp:MapT (μ:=μ) W mb out
 E:Ext [] w W
 sz:B≤W.heap.size
theorem MatI.kept{x:Vm}{sv lv:Value}{w:World}{n3 n4 n5 n7 n8 mb B:Nat}{out:List (List Int)}{va:Option Addr}{vc:Nat}{W V:World}{row:Option Nat}(h:MatI (μ:=μ) x sv lv w B n3 n4 n5 n7 n8 mb out va vc W)(hg:W.grownBy V row)(h1:∀r,row=some r→B≤r)
  (h2:∀r,row=some r→(Value.slice va out.length vc).ownBlock≠some r) (hB:n3<B∧n4<B∧n5<B∧n7<B∧n8<B∧mb<B∧w.heap.size≤B):MatI (μ:=μ) x sv lv w B n3 n4 n5 n7 n8 mb out va vc V:=by
 obtain⟨b3,b4,b5,b7,b8,bm,bw⟩:=hB;have hk:∀{k:Nat} {cs:Array Value} {T:TypeId} {fz:Nat×Nat},W.heap[k]?=some (.cells cs T fz)→k<B→V.heap[k]?=some (.cells cs T fz):=
  fun {k cs T fz} hq hb=>(hg.block k (Z3 hq) (fun e=>by have:=h1 k e.symm;omega)).trans hq
 refine⟨hk h.q3 b3,hk h.q4 b4,hk h.q5 b5,hk h.q7 b7,hk h.q8 b8,h.oo.kept hg ?_,h.mp.kept hg (fun e=>by have:=h1 mb e.symm;omega),Z1w h.E hg fun b e hl=>(by have:=h1 b e;omega),Yd h.sz hg.size⟩
 cases hrow:row with
 | none =>
  cases hob:(Value.slice va out.length vc).ownBlock with
  | none=>exact .inl rfl
  | some g=>exact .inr (by simp)
 | some r=>exact .inr (h2 r hrow)
theorem Z09{x:Vm}{sv lv:Value}{n3 n4 n5 n7 n8 mb B:Nat}{out:List (List Int)}{va:Option Addr}{vc:Nat}{W:World}{p:List Int→Bool}{q:List Int}(hp:p q=false)(h:MatI (μ:=μ) x sv lv w B n3 n4 n5 n7 n8 mb out va vc W): ∃va vc,MatI (μ:=μ) x sv lv w B n3 n4 n5 n7 n8 mb (if p q then out++[q] else out) va vc W:=by
 rw[hp];exact⟨va,vc,h⟩
theorem Z4p{x:Vm}{sv lv:Value}{n3 n4 n5 n7 n8 mb B:Nat}{out:List (List Int)}{va:Option Addr}{vc:Nat}{W:World}{p:List Int→Bool}{q:List Int}(hp:p q=true)(h:MatI (μ:=μ) x sv lv w B n3 n4 n5 n7 n8 mb (out++[q]) va vc W): ∃va vc,MatI (μ:=μ) x sv lv w B n3 n4 n5 n7 n8 mb (if p q then out++[q] else out) va vc W:=by
 rw[hp];exact⟨va,vc,h⟩
theorem ZJ{ob:Nat}{W:World}{T:TypeId}{fz:Nat×Nat}(h:W.heap[ob]?=some (.cells #[v] T fz)): Z11 ob W=v.ownBlock:=by rw[Z11,h];rfl
theorem ZcL(v:Value)(d:Nat):∃r,(∀b,v.ownBlock=some b→b=r)∧(v.ownBlock=some r∨r=d):=by
 cases h:v.ownBlock with
 | none=>exact⟨d,fun b e=>(by cases e),.inr rfl⟩
 | some r=>exact⟨r,fun b e=>(by cases e;rfl),.inl rfl⟩
theorem Z4U{size: Nat}{xs:List Value}(h:w.ownsRow base e size v n xs){r:Nat}(hr:v.ownBlock=some r): ∃cs T fz,w.heap[r]?=some (.cells cs T fz):=by
 rcases h.2 with⟨rfl,_⟩ | ⟨g,cap,cur,rfl,_,hgb,_⟩
 ·cases hr
 ·obtain rfl:g=r:=by simpa[Value.ownBlock] using hr
  exact⟨_,_,_,hgb⟩
theorem Z2Q{α:Type}(p:α→Bool)(l:List α)(x:α): (l++[x]).filter p=if p x then l.filter p++[x] else l.filter p:=by
 rw[List.filter_append]
 by_cases h:p x=true
 ·simp[h]
 ·simp[h]
theorem Zb1(out:List (List Int))(t:List Int):Z2Z out++tubR (val t)=Z2Z (out++[t]):=by simp[Z2Z]
theorem Z8E(x:Vm)(hv:VOk x)(s:List Int)(hs:Z5m x s)(ls:List Int)(hl:Zba x ls)(hll:ls.length≤1000)(sa la:Option Addr)(sc lc:Nat)(w:World)(h:x.At w)(hr:Z7 w (.slice sa s.length sc) 1 (s.map Z5))(hq:Z7 w (.slice la ls.length lc) 1 (ls.map Z5)):
  Calls (Qy.prog μ) 107 #[.agg #[.int .i64 x.B,.slice x.da x.D.length x.dc,.slice x.la x.L.length x.lc,.int .i64 x.tol],.slice sa s.length sc,.slice la ls.length lc] w fun e w'=>∃a c,e = .returned (.slice a (matL x (val s) ls).length c)∧w'.ownsRow w.heap.size 88 4 (.slice a (matL x (val s) ls).length c) (matL x (val s) ls).length (Z2Z (matL x (val s) ls))∧Ext [] w w':=by
 have E:Ext [] w w:=Ext.refl _ _;have HX:=Lib.hid h;have HV:=Lib.hid hv;have HS:=Lib.hid hs;have HR:=Lib.hid hr;have HQ:=Lib.hid hq;have HL:=Lib.hid hl;have hd4:=hv.d4;obtain⟨hnd,hrl⟩:=Z6W x.D.length (by omega);have HND:=Lib.hid hnd;have HRL:=Lib.hid hrl;clear h hv hs hr hq hl hnd hrl;refine Z3C 40 Qy.func107 rfl Tryz.ntmps107 (Nat.le_of_ble_eq_true rfl) ?_;intro fa F;refine wS fun K1 hK1=>?_;refine Yg ?_;refine sqN F (Z30 rfl (F.at rfl)) fun fa w1 F hw=>?_;obtain⟨n3,hn⟩:=eQ w.heap.size;rw[←hn]at F;have s3:=sQ hn;have l3_E:=lQ hn E.size;replace E:=Z6 E hw;have q3:=Z02 hw hn;clear hw hn;refine sqN F (Z30 rfl (F.at rfl)) fun fa w2 F hw=>?_;obtain⟨n4,hn⟩:=eQ w1.heap.size;rw[←hn]at F;have s4:=sQ hn;have l4_E:=lQ hn E.size;have m4_3:=tQ hn (Z3 q3);replace q3:=Z1 hw q3;replace E:=Z6 E hw;have q4:=Z0Y hw rfl hn;clear hw hn;refine sqN F (Z30 rfl (F.at rfl)) fun fa w3 F hw=>?_;obtain⟨n5,hn⟩:=eQ w2.heap.size;rw[←hn]at F;have s5:=sQ hn;have l5_E:=lQ hn E.size;have m5_3:=tQ hn (Z3 q3);have m5_4:=tQ hn (Z3 q4);replace q3:=Z1 hw q3;replace q4:=Z1 hw q4;replace E:=Z6 E hw;have q5:=Z0Y hw rfl hn;clear hw hn;refine F.vl (ZH rfl (ev_c fa _)) fun fa F=>?_;refine wN<|hK1 _ _<|wS fun K2 hK2=>?_
 refine Yg ?_;refine sqN F (ZT rfl Qy.zeroValue93) fun fa w4 F hw=>?_;obtain⟨n7,hn⟩:=eQ w3.heap.size;rw[←hn]at F;have s7:=sQ hn;have l7_E:=lQ hn E.size;have m7_3:=tQ hn (Z3 q3);have m7_4:=tQ hn (Z3 q4);have m7_5:=tQ hn (Z3 q5);replace q3:=Z1 hw q3;replace q4:=Z1 hw q4;replace q5:=Z1 hw q5;replace E:=Z6 E hw;have q7:=Z0Y hw rfl hn;clear hw hn;refine wN<|hK2 _ _<|wS fun K3 hK3=>?_
 refine Yg ?_;refine sqN F (Zbi rfl) fun fa w5 F hw=>?_;obtain⟨n11,hn⟩:=eQ w4.heap.size;rw[←hn]at F;have s11:=sQ hn;have l11_E:=lQ hn E.size;have m11_3:=tQ hn (Z3 q3);have m11_4:=tQ hn (Z3 q4);have m11_5:=tQ hn (Z3 q5);have m11_7:=tQ hn (Z3 q7);replace q3:=Z1 hw q3;replace q4:=Z1 hw q4;replace q5:=Z1 hw q5;replace q7:=Z1 hw q7;replace E:=Z6 E hw;have map11:MapT (μ:=μ) w5 n11 []:=by rw[hw,hn];exact ZeA _
 clear hw hn;refine sqN F (ZT rfl Qy.zeroValue157) fun fa w6 F hw=>?_;obtain⟨n8,hn⟩:=eQ w5.heap.size;rw[←hn]at F;have s8:=sQ hn;have l8_E:=lQ hn E.size;have m8_3:=tQ hn (Z3 q3);have m8_4:=tQ hn (Z3 q4);have m8_5:=tQ hn (Z3 q5);have m8_7:=tQ hn (Z3 q7);replace map11:=Z3j hw map11;replace q3:=Z1 hw q3;replace q4:=Z1 hw q4;replace q5:=Z1 hw q5;replace q7:=Z1 hw q7;replace E:=Z6 E hw;have q8:=Z0Y hw rfl hn;clear hw hn;refine Z1n rfl rfl (ZU rfl (F.at rfl) (F.at rfl) rfl (by kernel_rfl) ((Z0 q8 0).trans (get0)) (Za q8 0)) ?_;intro w7 hw;replace map11:=Z9G hw map11 q8;replace q3:=kce hw q3;replace q4:=kce hw q4;replace q5:=kce hw q5;replace q7:=kce hw q7;replace q8:=ZF hw q8 (by simp only[List.setIfInBounds_toArray,lsQ,lzQ];exact rfl);replace E:=ece E hw;clear hw;refine wN<|hK3 _ _<|wS fun K4 hK4=>wS fun K5 hK5=>?_
 refine Yg ?_;refine F.vl (Ze rfl (F.at rfl) Qy.underlying85 rfl (by kernel_rfl) q3) fun fa F=>?_;have b7':=Z3 q7;refine sqC F (Z0b rfl rfl Qy.call110 (mpS (F.at rfl) mp0)) (Z4W x _) fun e w8 hR=>?_;obtain⟨nb,rfl,hnb,qb,e9⟩:=hR;refine⟨_,rfl,fun fa F=>?_⟩;replace map11:=Z8D map11 (e9);replace q3:=(e9).keep0 q3;replace q4:=(e9).keep0 q4;replace q5:=(e9).keep0 q5;replace q7:=(e9).keep0 q7;replace q8:=(e9).keep0 q8;replace E:=Zj E (e9);clear e9;refine wN<|hK5 _ _ ?_
 refine Yh ?_;obtain⟨w3,hw3⟩:∃w3,w3=w8:=⟨_,rfl⟩;have b3:=Z3 q3;have b4:=Z3 q4;have b5:=Z3 q5;have b7:=Z3 q7;have b8:=Z3 q8;have bb:=Z3 qb;have bw:=E.size;have bm:n11<w8.heap.size:=(by obtain⟨es,ck,hm⟩:=map11.obj;exact Z3 hm);have hr0:Z11 n7 w8=none:=ZJ q7;have hseq:=Z3V (μ:=μ) x hd4 [] n7 nb w8 b7 (by simp) (fun r e=>by rw[hr0]at e;cases e) ⟨by simp,by omega,by rw[hr0];simp⟩ qb;have hI0:∃va vc,MatI (μ:=μ) x (.slice sa s.length sc) (.slice la ls.length lc) w w8.heap.size n3 n4 n5 n7 n8 n11 (([]:List (List Int)).filter (cndE x (val s) ls)) va vc w8:=⟨none,0,q3,q4,q5,q7,q8,World.ownsRow_nil _ _ _ _,map11,E,Ye _⟩;replace F:=F.sub (.c 3 rfl (.c 4 rfl (.c 5 rfl (.c 7 rfl (.c 8 rfl (.c 13 rfl .n))))));refine ZcS (F.at rfl) Qy.call126 hseq (fun _=>rfl) b7 (fun pre W=>∃va vc,MatI (μ:=μ) x (.slice sa s.length sc) (.slice la ls.length lc) w w8.heap.size n3 n4 n5 n7 n8 n11 (pre.filter (cndE x (val s) ls)) va vc W) ?h1 ?ho ?hc hI0 (fun pre q a' W=>∃nt va vc,Has 40 [] a' [(3,.pointer (some ⟨n3,0,none⟩)),(4,.pointer (some ⟨n4,0,none⟩)),(5,.pointer (some ⟨n5,0,none⟩)),(7,.pointer (some ⟨n7,0,none⟩)),(8,.pointer (some ⟨n8,0,none⟩)),(9,.pointer (some ⟨nt,0,none⟩))]∧MatI (μ:=μ) x (.slice sa s.length sc) (.slice la ls.length lc) w w8.heap.size n3 n4 n5 n7 n8 n11 (pre.filter (cndE x (val s) ls)) va vc W∧W.heap[nt]?=some (.cells (tubC (val q)) 88 (0,0))∧w8.heap.size≤nt∧some nt≠(Value.slice va (pre.filter (cndE x (val s) ls)).length vc).ownBlock) ?hax ?assign ?body ?done
 case h1=>rintro pre U V ⟨va,vc,hI⟩ hg;exact⟨va,vc,hI.kept hg (fun r e=>by cases e) (fun r e=>by cases e) ⟨b3,b4,b5,b7,b8,bm,bw⟩⟩
 case ho=>rintro pre U V r ⟨va,vc,hI⟩ hr ⟨o,ho,hc⟩ hg;refine⟨va,vc,hI.kept hg (fun r' e=>by cases e;exact hr) (fun r' e e2=>?_) ⟨b3,b4,b5,b7,b8,bm,bw⟩⟩;cases e;obtain⟨cs,T,fz,hx⟩:=Z4U hI.oo e2;rw[ho]at hx;cases hx;cases hc
 case hc=>rintro pre U V r ⟨va,vc,hI⟩ hr hsf-hg;exact⟨va,vc,hI.kept hg (fun r' e=>by cases e;exact hr) (fun r' e e2=>by cases e;exact hsf.2.2 (by rw[ZJ hI.q7];exact e2)) ⟨b3,b4,b5,b7,b8,bm,bw⟩⟩
 case hax=>rintro pre q a' U V r ⟨nt,va,vc,hF,hI,ht,hn,hno⟩ hr ⟨o,ho,hc⟩ hg;refine⟨nt,va,vc,hF,hI.kept hg (fun r' e=>by cases e;exact hr) (fun r' e e2=>?_) ⟨b3,b4,b5,b7,b8,bm,bw⟩,(hg.block nt (Z3 ht) (fun e=>?_)).trans ht,hn,hno⟩<;>cases e;(· obtain⟨cs,T,fz,hx⟩:=Z4U hI.oo e2;rw[ho]at hx;cases hx;cases hc);(· rw[ho]at ht;cases ht;cases hc)
 case assign =>
  clear map11 q3 q4 q5 q7 q8 qb E hI0;rintro l pre q W K ⟨va,vc,⟨q3,q4,q5,q7,q8,oo,mapm,E,hsz⟩⟩ hK;have hbo:=Z3 q7;refine Zab (F.param (p:=14) (by decide) (.agg (tubC (val q)))) ?_;clear F fa;intro fa F;have ER:Ext [] W W:=Ext.refl _ _;refine Zf rfl (fun h=>by obtain⟨_,_,h⟩:=h;exact h) ?_;refine sqN F (ZT rfl Qy.zeroValue88) fun fa w9 F hw=>?_;obtain⟨n9,hn⟩:=eQ W.heap.size;rw[←hn]at F;have s9:=sQ hn;have l9_E:=lQ hn E.size;have l9_ER:=lQ hn ER.size;have m9_3:=tQ hn (Z3 q3);have m9_4:=tQ hn (Z3 q4);have m9_5:=tQ hn (Z3 q5);have m9_7:=tQ hn (Z3 q7);have m9_8:=tQ hn (Z3 q8);have o9_oo:=Lib.hid (Z0h oo hn);replace oo:=ZY hw oo;replace mapm:=Z3j hw mapm;replace q3:=Z1 hw q3;replace q4:=Z1 hw q4;replace q5:=Z1 hw q5;replace q7:=Z1 hw q7;replace q8:=Z1 hw q8;replace E:=Z6 E hw;replace ER:=Z6 ER hw;have q9:=Z02 hw hn;clear hw hn;refine Z1n rfl rfl (Z0t rfl (F.at rfl) (F.at rfl) (by kernel_rfl) (by simp[tubC,Value.oneCell']) q9 rfl) ?_;intro w10 hw;replace oo:=Z10 hw oo o9_oo.out;replace mapm:=Z7L hw mapm q9;replace q3:=kcs hw q3;replace q4:=kcs hw q4;replace q5:=kcs hw q5;replace q7:=kcs hw q7;replace q8:=kcs hw q8;replace q9:=Z1Y hw q9 rfl;replace E:=ecs E hw;replace ER:=ecs ER hw;clear hw;refine wpList_nil ?_;exact hK _ _ (Z0o ER (by simp)) (Z5E ER hbo) ⟨n9,va,vc,F.sub (.c 3 rfl (.c 4 rfl (.c 5 rfl (.c 7 rfl (.c 8 rfl (.c 9 rfl .n)))))),⟨q3,q4,q5,q7,q8,oo,mapm,E,Yd hsz ER.size⟩,q9,by omega,o9_oo.out⟩
 case body =>
  clear map11 q3 q4 q5 q7 q8 qb E hI0 F fa;rintro l pre q fa W ⟨nt,va,vc,F,⟨q3,q4,q5,q7,q8,oo,mapm,E,hsz⟩,q9,hnt,hno⟩ hpx;have hqm:q∈recL x.D.length:=hpx.subset (by simp);obtain⟨hql,hqs,hqg,hq1,hq6,hqb⟩:=HRL.out q hqm;have hqn:q ∉ pre:=fun hm=>(by have hn:=hpx.sublist.nodup HND.out;rw[List.nodup_append]at hn;exact hn.2.2 q hm q (by simp) rfl);have hplen:pre.length≤500:=(by have h1:=hpx.length_le;have h2:=Z9S x.D.length (by omega);rw[Ym]at h1;omega);have hsn:=Z2Q (cndE x (val s) ls) pre q;have hfr:gcE (val q)=1→∀t∈pre.filter (cndE x (val s) ls),∃k,k<4∧lowF (val q) (gcE (val q)) 4 k≠val t k:=fun hg t ht=>(by have htp:=(List.mem_filter.1 ht).1;have htl:=(HRL.out t (hpx.subset (by simp[htp]))).1;obtain⟨k,hk,hne⟩:=Zke (t:=t) (q:=q) (by omega) (by omega) (fun e=>hqn (by rw[←e];exact htp));exact⟨k,hk,by rw[Z8B hg hk];exact hne⟩);have hol:(pre.filter (cndE x (val s) ls)).length<1000:=(by have:=List.length_filter_le (cndE x (val s) ls) pre;omega);obtain⟨out,hout⟩:∃out,out=pre.filter (cndE x (val s) ls):=⟨_,rfl⟩;rw[←hout]at q7 oo mapm hsn hfr hol hno;have o9_oo:=Lib.hid hno;obtain⟨r,hrr,hrd⟩:=ZcL (.slice va out.length vc) n11;have hro:Z11 n7 W=(Value.slice va out.length vc).ownBlock:=ZJ q7;have hrc:∀b∈[n11,n7,r],b<w3.heap.size∨∃cs T fz,W.heap[b]?=some (.cells cs T fz):=(by intro b hb;simp only[Yc,Ya,or_false]at hb;rcases hb with rfl | rfl | rfl;(· exact .inl (by rw[hw3];exact bm));(· exact .inl (by rw[hw3];exact b7));(· rcases hrd with h | h;(· exact .inr (Z4U oo h));(· rw[h];exact .inl (by rw[hw3];exact bm))));have hkx:∀k cs T fz,W.heap[k]?=some (.cells cs T fz)→Safe [] n7 k W→k ∉ [n11,n7,r]:=(by intro k cs T fz hk hsf hm;simp only[Yc,Ya,or_false]at hm;rcases hm with rfl | rfl | rfl;(· exact mapm.ne hk (fun _ _ h=>by cases h) rfl);(· exact hsf.2.1 rfl);(· rcases hrd with h | h;(· exact hsf.2.2 (by rw[hro];exact h));(· exact mapm.ne hk (fun _ _ h=>by cases h) h.symm)));have ER:Ext [n11,n7,r] W W:=Ext.refl _ _;refine wpIn_block ?_;refine wpIn_seq_k fun K6 hK6=>?_;refine Zf rfl (fun h=>by obtain⟨_,_,h⟩:=h;exact h) ?_;refine F.vl (Ze rfl (F.at rfl) Qy.underlying88 rfl (by kernel_rfl) q9) fun fa F=>?_;refine sqC F (Z0b rfl rfl Qy.call125 (mpS (F.at rfl) mp0)) (ZcA (val q) hqs hqg _) fun e w11 hR=>?_;obtain⟨rfl,e9⟩:=hR;refine⟨_,rfl,fun fa F=>?_⟩;replace oo:=Z0q oo (e9) (by simp);replace mapm:=Z8D mapm (e9);replace q3:=(e9).keep0 q3;replace q4:=(e9).keep0 q4;replace q5:=(e9).keep0 q5;replace q7:=(e9).keep0 q7;replace q8:=(e9).keep0 q8;replace q9:=(e9).keep0 q9;replace E:=Zj E (e9);replace ER:=Zj ER (e9);clear e9;refine sqN F (ZT rfl Qy.zeroValue88) fun fa w12 F hw=>?_;obtain⟨n10,hn⟩:=eQ w11.heap.size;rw[←hn]at F;have s10:=sQ hn;have l10_E:=lQ hn E.size;have l10_ER:=lQ hn ER.size;have m10_3:=tQ hn (Z3 q3);have m10_4:=tQ hn (Z3 q4);have m10_5:=tQ hn (Z3 q5);have m10_7:=tQ hn (Z3 q7);have m10_8:=tQ hn (Z3 q8);have m10_9:nt<n10:=by rw[hn];exact Z3 q9
  have o10_oo:=Lib.hid (Z0h oo hn);replace oo:=ZY hw oo;replace mapm:=Z3j hw mapm;replace q3:=Z1 hw q3;replace q4:=Z1 hw q4;replace q5:=Z1 hw q5;replace q7:=Z1 hw q7;replace q8:=Z1 hw q8;replace q9:=Z1 hw q9;replace E:=Z6 E hw;replace ER:=Z6 ER hw;have q10:=Z02 hw hn;clear hw hn;refine Z1n rfl rfl (Z0t rfl (F.at rfl) (F.at rfl) (by kernel_rfl) (by simp[tubC,Value.oneCell']) q10 rfl) ?_;intro w13 hw;replace oo:=Z10 hw oo o10_oo.out;replace mapm:=Z7L hw mapm q10;replace q3:=kcs hw q3;replace q4:=kcs hw q4;replace q5:=kcs hw q5;replace q7:=kcs hw q7;replace q8:=kcs hw q8;replace q9:=kcs hw q9;replace q10:=Z1Y hw q10 rfl;replace E:=ecs E hw;replace ER:=ecs ER hw;clear hw;refine wN<|hK6 _ _ ?_
  refine wpIn_seq_k fun K7 hK7=>?_;refine wpIn_seq_k fun K8 hK8=>?_;refine Zf rfl (fun h=>by obtain⟨_,_,h⟩:=h;exact h) ?_;refine F.vl (ZE rfl (F.at rfl) Qy.underlying157 rfl ((Z0 q8 0).trans (get0))) fun fa F=>?_;refine F.vl (Ze rfl (F.at rfl) Qy.underlying88 rfl (by kernel_rfl) q10) fun fa F=>?_;refine ZjU F rfl (by decide) rfl (Zbf rfl (F.at rfl) (F.at rfl) (ZkR hqs hqg) mapm) ?_;clear F fa;rintro fa v' F ⟨c19,rfl,hc19⟩;refine F.mv fun fa F=>?_
  cases hg1:c19
  ·skip
   replace F:=F.re (k:=20) rfl (congrArg Value.bool hg1);refine F.vl (Ze rfl (F.at rfl) Qy.underlying88 rfl (by kernel_rfl) q10) (fun fa F=>?_) (hw:=(Z46 F rfl rfl (by decide) rfl));refine F.vl (Ze rfl (F.at rfl) Qy.underlying88 rfl (by kernel_rfl) q9) (fun fa F=>?_) (hw:=(Z46 F rfl rfl (by decide) rfl));refine F.vl ((ZdJ rfl (F.at rfl) (F.at rfl))) (fun fa F=>?_) (hw:=(Z46 F rfl rfl (by decide) rfl));refine F.vl (Z67 rfl (F.at rfl) (F.at rfl)) fun fa F=>?_;refine F.mv fun fa F=>?_
   cases hg2:(!tubE (lowF (val q) (gcE (val q)) 4) (val q))
   ·skip
    replace F:=F.re (k:=25) rfl (congrArg Value.bool hg2);refine F.vl (Ze rfl (F.at rfl) Qy.underlying85 rfl (by kernel_rfl) q3) (fun fa F=>?_) (hw:=(Z46 F rfl rfl (by decide) rfl));refine F.vl (Ze rfl (F.at rfl) Qy.underlying88 rfl (by kernel_rfl) q9) (fun fa F=>?_) (hw:=(Z46 F rfl rfl (by decide) rfl));refine F.vl (ZE rfl (F.at rfl) Qy.underlying22 rfl ((Z0 q4 0).trans (get0))) (fun fa F=>?_) (hw:=(Z46 F rfl rfl (by decide) rfl));refine F.vl (ZE rfl (F.at rfl) Qy.underlying22 rfl ((Z0 q5 0).trans (get0))) (fun fa F=>?_) (hw:=(Z46 F rfl rfl (by decide) rfl));refine Z72 F rfl (by decide) (Z46 F rfl rfl (by decide) rfl) (Z0b rfl rfl Qy.call80 (mpS (F.at rfl) (mpS (F.at rfl) (mpS (F.at rfl) (mpS (F.at rfl) mp0))))) (Z9I x HV.out (val q) hqs s HS.out ls HL.out hll sa la sc lc _ (HX.out.ext E) (HR.out.ext E (by simp)) (HQ.out.ext E (by simp))) fun e w14 hR=>?_;obtain⟨rfl,e9⟩:=hR;refine⟨_,rfl,fun fa F=>?_⟩;replace oo:=Z0q oo (e9) (by simp);replace mapm:=Z8D mapm (e9);replace q3:=(e9).keep0 q3;replace q4:=(e9).keep0 q4;replace q5:=(e9).keep0 q5;replace q7:=(e9).keep0 q7;replace q8:=(e9).keep0 q8;replace q9:=(e9).keep0 q9;replace q10:=(e9).keep0 q10;replace E:=Zj E (e9);replace ER:=Zj ER (e9);clear e9;refine F.vl (Zah rfl (F.at rfl)) (fun fa F=>?_) (hw:=(Z46 F rfl rfl (by decide) rfl));refine F.vl (Z67 rfl (F.at rfl) (F.at rfl)) fun fa F=>?_;refine wN<|hK8 _ _ ?_
    refine ZiP F rfl (fun hc32=>?_) (fun hc32=>?_)
    ·skip
     refine wpIn_exit ?_
     (try simp only[Exit.inBlock,reduceIte])
     show KeepsFrom _ _ _∧KeepR _ _ _ _∧_;rw[←hw3];refine⟨Z0o ER hrc,Z0A ER hkx ?_,?_⟩
     ·first | exact .inl ((ZJ q7).trans hro.symm) | (rcases hblk with hbk | hbk;(· exact .inl ((ZJ q7).trans (hbk.trans hro.symm)));(· exact .inr fun r' e=>by rw[ZJ q7,hbk]at e;cases e;exact hERs))
     ·have hsw:w3.heap.size≤w14.heap.size:=(by rw[hw3];exact Yd hsz ER.size)
      show ∃va vc,MatI _ _ _ _ _ _ _ _ _ _ _ (List.filter (cndE x (val s) ls) (pre++[q])) va vc _;rw[hsn]
      first | exact Z09 (Z3R (fun hg=>Bool.noConfusion ((hc19 (hfr hg)).symm.trans hg1))) ⟨q3,q4,q5,q7,q8,oo,mapm,E,hsw⟩ | exact Z09 (Z3R (fun hg=>Bool.noConfusion ((Z6P hg).symm.trans hg2))) ⟨q3,q4,q5,q7,q8,oo,mapm,E,hsw⟩ | exact Z09 (Z6o (Z9f hc32)) ⟨q3,q4,q5,q7,q8,oo,mapm,E,hsw⟩ | exact Z4p (Z6p hgc (Z9e hc32)) ⟨q3,q4,q5,q7,q8,oo,mapm,E,hsw⟩
    ·skip
     refine wpIn_skip ?_;refine hK7 _ _ ?_;refine wpIn_seq_k fun K9 hK9=>?_;refine Zf rfl (fun h=>by obtain⟨_,_,h⟩:=h;exact h) ?_;refine F.vl (ZE rfl (F.at rfl) Qy.underlying157 rfl ((Z0 q8 0).trans (get0))) fun fa F=>?_;refine F.vl (Ze rfl (F.at rfl) Qy.underlying88 rfl (by kernel_rfl) q10) fun fa F=>?_;have hgc:=Zjm hqs hqg (by simpa using hg2);have htc:tubC (lowF (val q) (gcE (val q)) 4)=tubC (val q):=Z3x fun k hk=>Z8B hgc hk;refine ZjV rfl rfl (Zbj (t:=q) rfl (F.at rfl) ((F.at rfl).trans (congrArg Value.agg htc)) (ev_c fa _) hqs hol mapm) ?_;rintro w15 ⟨hM',hg⟩;replace oo:=ZeM mapm hg oo;replace q3:=Z1Q mapm hg q3;replace q4:=Z1Q mapm hg q4;replace q5:=Z1Q mapm hg q5;replace q7:=Z1Q mapm hg q7;replace q8:=Z1Q mapm hg q8;replace q9:=Z1Q mapm hg q9;replace q10:=Z1Q mapm hg q10;replace E:=Z9q E hg (fun h=>by first | omega | simp);replace ER:=Z9q ER hg (fun h=>by first | omega | simp);replace mapm:=hM';clear hg;refine wN<|hK9 _ _ ?_
     refine Zf rfl (fun h=>by obtain⟨_,_,h⟩:=h;exact h) ?_;refine F.vl (ZE rfl (F.at rfl) Qy.underlying93 rfl ((Z0 q7 0).trans (get0))) fun fa F=>?_;refine F.vl (Ze rfl (F.at rfl) Qy.underlying88 rfl (by kernel_rfl) q9) fun fa F=>?_;refine sqN F (ZX rfl (prS (F.at rfl) pr0) Qy.underlying93 (size:=4) (by kernel_rfl) (by decide) (by decide) Qy.zeroValue88 (cells:=#[.int .i64 (val q 0),.int .i64 (val q 1),.int .i64 (val q 2),.int .i64 (val q 3)]) (by kernel_rfl)) fun fa w16 F hw=>?_;obtain⟨n37,hn⟩:=eQ w15.heap.size;rw[←hn]at F;have s37:=sQ hn;have l37_E:=lQ hn E.size;have l37_ER:=lQ hn ER.size;have m37_3:=tQ hn (Z3 q3);have m37_4:=tQ hn (Z3 q4);have m37_5:=tQ hn (Z3 q5);have m37_7:=tQ hn (Z3 q7);have m37_8:=tQ hn (Z3 q8);have m37_9:nt<n37:=by rw[hn];exact Z3 q9
     have m37_10:=tQ hn (Z3 q10);have o37_oo:=Lib.hid (Z0h oo hn);replace oo:=ZY hw oo;replace mapm:=Z3j hw mapm;replace q3:=Z1 hw q3;replace q4:=Z1 hw q4;replace q5:=Z1 hw q5;replace q7:=Z1 hw q7;replace q8:=Z1 hw q8;replace q9:=Z1 hw q9;replace q10:=Z1 hw q10;replace E:=Z6 E hw;replace ER:=Z6 ER hw;have q37:=Z05 hw hn;clear hw hn;have hEs:=E.size;have hERs:=ER.size;refine ZD F rfl (by decide) rfl (Z8f rfl (w.heap.size) (e:=88) (size:=4) (bytes:=32) Qy.underlying93 (by kernel_rfl) (by decide) (F.at rfl) oo (F.at rfl) q37 rfl (by simp[Value.oneCell']) (by omega) (by omega) (by omega)) ?_;clear F fa;rintro fa v' w17 F ⟨hown',⟨hg,hblk⟩⟩;obtain⟨va38,vc38,rfl⟩:=Zo hown';replace q3:=ZV oo hg q3 (by decide);replace q4:=ZV oo hg q4 (by decide);replace q5:=ZV oo hg q5 (by decide);replace q7:=ZV oo hg q7 (by decide);replace q8:=ZV oo hg q8 (by decide);replace q9:=(hg.block nt (Z3 q9) o9_oo.out).trans q9;replace q10:=(hg.block n10 (Z3 q10) o10_oo.out).trans q10;replace mapm:=Zhr mapm oo hg;replace E:=Z0v E oo hg (by omega);replace ER:=Z1w ER hg (fun b hb hl=>by rw[hrr b hb];simp);replace oo:=hown';clear hg;rw[show Z2Z out++[.int .i64 (val q 0),.int .i64 (val q 1),.int .i64 (val q 2),.int .i64 (val q 3)]=Z2Z (out++[q]) from Zb1 out q,show out.length+1=(out++[q]).length by simp]at oo;rw[show out.length+1=(out++[q]).length by simp]at F hblk;refine Z1n rfl rfl (ZU rfl (F.at rfl) (F.at rfl) rfl (by kernel_rfl) ((Z0 q7 0).trans (get0)) (Za q7 0)) ?_;intro w18 hw;replace oo:=Z0R hw oo (ZW oo q7 (by decide));replace mapm:=Z9G hw mapm q7;replace q3:=kce hw q3;replace q4:=kce hw q4;replace q5:=kce hw q5;replace q7:=ZF hw q7 (by simp only[List.setIfInBounds_toArray,lsQ,lzQ];exact rfl);replace q8:=kce hw q8;replace q9:=kce hw q9;replace q10:=kce hw q10;replace E:=ece E hw;replace ER:=ece ER hw;clear hw;refine wpList_nil ?_
     (try simp only[Exit.inBlock,reduceIte])
     show KeepsFrom _ _ _∧KeepR _ _ _ _∧_;rw[←hw3];refine⟨Z0o ER hrc,Z0A ER hkx ?_,?_⟩
     ·first | exact .inl ((ZJ q7).trans hro.symm) | (rcases hblk with hbk | hbk;(· exact .inl ((ZJ q7).trans (hbk.trans hro.symm)));(· exact .inr fun r' e=>by rw[ZJ q7,hbk]at e;cases e;exact hERs))
     ·have hsw:w3.heap.size≤w18.heap.size:=(by rw[hw3];exact Yd hsz ER.size)
      show ∃va vc,MatI _ _ _ _ _ _ _ _ _ _ _ (List.filter (cndE x (val s) ls) (pre++[q])) va vc _;rw[hsn]
      first | exact Z09 (Z3R (fun hg=>Bool.noConfusion ((hc19 (hfr hg)).symm.trans hg1))) ⟨q3,q4,q5,q7,q8,oo,mapm,E,hsw⟩ | exact Z09 (Z3R (fun hg=>Bool.noConfusion ((Z6P hg).symm.trans hg2))) ⟨q3,q4,q5,q7,q8,oo,mapm,E,hsw⟩ | exact Z09 (Z6o (Z9f hc32)) ⟨q3,q4,q5,q7,q8,oo,mapm,E,hsw⟩ | exact Z4p (Z6p hgc (Z9e hc32)) ⟨q3,q4,q5,q7,q8,oo,mapm,E,hsw⟩
   ·skip
    replace F:=F.re (k:=25) rfl (congrArg Value.bool hg2);refine Z2B F rfl (by decide) (Z24 F rfl rfl (by decide) rfl (by decide)) fun fa F=>?_;refine Z2B F rfl (by decide) (Z24 F rfl rfl (by decide) rfl (by decide)) fun fa F=>?_;refine Z2B F rfl (by decide) (Z24 F rfl rfl (by decide) rfl (by decide)) fun fa F=>?_;refine Z2B F rfl (by decide) (Z24 F rfl rfl (by decide) rfl (by decide)) fun fa F=>?_;refine Z2B F rfl (by decide) (Z24 F rfl rfl (by decide) rfl (by decide)) fun fa F=>?_;refine Z2B F rfl (by decide) (Z24 F rfl rfl (by decide) rfl (by decide)) fun fa F=>?_;refine F.vl (Z4z rfl (F.at rfl) (ev_c fa _)) fun fa F=>?_;refine wN<|hK8 _ _ ?_
    refine ZiO F rfl ?_;refine wpIn_exit ?_
    (try simp only[Exit.inBlock,reduceIte])
    show KeepsFrom _ _ _∧KeepR _ _ _ _∧_;rw[←hw3];refine⟨Z0o ER hrc,Z0A ER hkx ?_,?_⟩
    ·first | exact .inl ((ZJ q7).trans hro.symm) | (rcases hblk with hbk | hbk;(· exact .inl ((ZJ q7).trans (hbk.trans hro.symm)));(· exact .inr fun r' e=>by rw[ZJ q7,hbk]at e;cases e;exact hERs))
    ·have hsw:w3.heap.size≤w13.heap.size:=(by rw[hw3];exact Yd hsz ER.size)
     show ∃va vc,MatI _ _ _ _ _ _ _ _ _ _ _ (List.filter (cndE x (val s) ls) (pre++[q])) va vc _;rw[hsn]
     first | exact Z09 (Z3R (fun hg=>Bool.noConfusion ((hc19 (hfr hg)).symm.trans hg1))) ⟨q3,q4,q5,q7,q8,oo,mapm,E,hsw⟩ | exact Z09 (Z3R (fun hg=>Bool.noConfusion ((Z6P hg).symm.trans hg2))) ⟨q3,q4,q5,q7,q8,oo,mapm,E,hsw⟩ | exact Z09 (Z6o (Z9f hc32)) ⟨q3,q4,q5,q7,q8,oo,mapm,E,hsw⟩ | exact Z4p (Z6p hgc (Z9e hc32)) ⟨q3,q4,q5,q7,q8,oo,mapm,E,hsw⟩
  ·skip
   replace F:=F.re (k:=20) rfl (congrArg Value.bool hg1);refine Z2B F rfl (by decide) (Z24 F rfl rfl (by decide) rfl (by decide)) fun fa F=>?_;refine Z2B F rfl (by decide) (Z24 F rfl rfl (by decide) rfl (by decide)) fun fa F=>?_;refine Z2B F rfl (by decide) (Z24 F rfl rfl (by decide) rfl (by decide)) fun fa F=>?_;refine F.vl (Z4z rfl (F.at rfl) (ev_c fa _)) fun fa F=>?_;refine F.mv fun fa F=>?_;refine Z2B F rfl (by decide) (Z24 F rfl rfl (by decide) rfl (by decide)) fun fa F=>?_;refine Z2B F rfl (by decide) (Z24 F rfl rfl (by decide) rfl (by decide)) fun fa F=>?_;refine Z2B F rfl (by decide) (Z24 F rfl rfl (by decide) rfl (by decide)) fun fa F=>?_;refine Z2B F rfl (by decide) (Z24 F rfl rfl (by decide) rfl (by decide)) fun fa F=>?_;refine Z2B F rfl (by decide) (Z24 F rfl rfl (by decide) rfl (by decide)) fun fa F=>?_;refine Z2B F rfl (by decide) (Z24 F rfl rfl (by decide) rfl (by decide)) fun fa F=>?_;refine F.vl (Z4z rfl (F.at rfl) (ev_c fa _)) fun fa F=>?_;refine wN<|hK8 _ _ ?_
   refine ZiO F rfl ?_;refine wpIn_exit ?_
   (try simp only[Exit.inBlock,reduceIte])
   show KeepsFrom _ _ _∧KeepR _ _ _ _∧_;rw[←hw3];refine⟨Z0o ER hrc,Z0A ER hkx ?_,?_⟩
   ·first | exact .inl ((ZJ q7).trans hro.symm) | (rcases hblk with hbk | hbk;(· exact .inl ((ZJ q7).trans (hbk.trans hro.symm)));(· exact .inr fun r' e=>by rw[ZJ q7,hbk]at e;cases e;exact hERs))
   ·have hsw:w3.heap.size≤w13.heap.size:=(by rw[hw3];exact Yd hsz ER.size)
    show ∃va vc,MatI _ _ _ _ _ _ _ _ _ _ _ (List.filter (cndE x (val s) ls) (pre++[q])) va vc _;rw[hsn]
    first | exact Z09 (Z3R (fun hg=>Bool.noConfusion ((hc19 (hfr hg)).symm.trans hg1))) ⟨q3,q4,q5,q7,q8,oo,mapm,E,hsw⟩ | exact Z09 (Z3R (fun hg=>Bool.noConfusion ((Z6P hg).symm.trans hg2))) ⟨q3,q4,q5,q7,q8,oo,mapm,E,hsw⟩ | exact Z09 (Z6o (Z9f hc32)) ⟨q3,q4,q5,q7,q8,oo,mapm,E,hsw⟩ | exact Z4p (Z6p hgc (Z9e hc32)) ⟨q3,q4,q5,q7,q8,oo,mapm,E,hsw⟩
 case done =>
  clear map11 q3 q4 q5 q7 q8 qb E hI0;rintro D W hD ⟨va,vc,⟨q3,q4,q5,q7,q8,oo,mapm,E,hsz⟩⟩ qD;obtain⟨out,hout⟩:∃out,out=matL x (val s) ls:=⟨_,rfl⟩;rw[show (recL x.D.length).filter (cndE x (val s) ls)=out from hout.symm]at q7 oo mapm;replace F:=F.mark (d:={target:=.collected D,args:=#[]});refine hK4 _ _<|wS fun K10 hK10=>?_
  refine Yg ?_;refine F.vl (ZE rfl (F.at rfl) Qy.underlying93 rfl ((Z0 q7 0).trans (get0))) fun fa F=>?_;refine F.as fun fa F=>?_;refine wN<|hK10 _ _ ?_
  refine wp_ret ?_
  (try simp only[Exit.inBlock,Exit.then,reduceIte])
  refine Z3K F ?_;refine Z8C qD fun w19 hw=>?_;replace oo:=Z9L hw qD rfl oo;replace mapm:=Zhs hw qD mapm;replace q3:=Zt hw qD rfl q3;replace q4:=Zt hw qD rfl q4;replace q5:=Zt hw qD rfl q5;replace q7:=Zt hw qD rfl q7;replace q8:=Zt hw qD rfl q8;replace E:=Z6D E hw (by omega);clear hw qD;refine Z1A (rs_1 F rfl rfl) ?_;subst hout;exact⟨va,vc,rfl,oo,E⟩
end
section
open Go.RowKit
variable{μ:Nat}
theorem Z9z(n:Int)(w:World):Calls (Qy.prog μ) 124 #[.int .i64 n] w fun e w'=>e = .returned (.bool false)∧Ext [] w w':=by
 have E:Ext [] w w:=Ext.refl _ _;have G:=(Bk.nil w).ce E;refine(ent 6 Tryz.f124 rfl) fun F=>wR fun k1=>(F.m) fun F=>k1<|wR fun k2=>(F.m) fun F=>(F.m) fun F=>(F.y (F.neF (h:=rfl))) fun F=>(F.m) fun F=>k2<|(F.r1) ?_
 exact⟨rfl,(G.e 0)⟩
def cmpE(a b:Int):Int:=if a<b then -1 else if b<a then 1 else 0
theorem ZbJ(a b:Int)(w:World):Calls (Qy.prog μ) 101 #[.int .i64 a,.int .i64 b] w fun e w'=>e = .returned (.int .i64 (cmpE a b))∧Ext [] w w':=by
 have E:Ext [] w w:=Ext.refl _ _;have G:=(Bk.nil w).ce E;refine(ent 20 Tryz.f101 rfl) fun F=>wR fun k1=>(F.m) fun F=>k1<|wR fun k2=>(F.m) fun F=>(F.k0 G (Z9z a _)) fun F G=>(F.m) fun F=>k2<|wR fun k3=>(F.m) fun F=>(F.k0 G (Z9z b _)) fun F G=>(F.m) fun F=>k3<|wQ fun k4=>wR fun k5=>(F.m) fun F=>k5<|(F.cF)<|Yi<|k4<|wQ fun k6=>wR fun k7=>(F.m) fun F=>k7<|(F.cF)<|Yi<|k6<|wQ fun k8=>wQ fun k9=>Yg ?_
 refine(F.m) fun F=>(F.m) fun F=>(F.y F.ls) fun F=>k9<|F.ci (fun hc16=>?_) (fun hc16=>?_)
 ·refine wR fun k10=>(F.m) fun F=>k10<|(F.r1) ?_
  first | exact⟨Zi (by rw[cmpE,if_pos (by omega)]),(G.e 0)⟩ | exact⟨Zi (by rw[cmpE,if_neg (by omega),if_pos (by omega)]),(G.e 0)⟩ | exact⟨Zi (by rw[cmpE,if_neg (by omega),if_neg (by omega)]),(G.e 0)⟩
 ·refine Yi<|k8<|wQ fun k11=>wR fun k12=>(F.m) fun F=>(F.m) fun F=>(F.y F.gt) fun F=>k12<|F.ci (fun hc19=>?_) (fun hc19=>?_)
  ·refine wR fun k13=>(F.m) fun F=>k13<|(F.r1) ?_
   first | exact⟨Zi (by rw[cmpE,if_pos (by omega)]),(G.e 0)⟩ | exact⟨Zi (by rw[cmpE,if_neg (by omega),if_pos (by omega)]),(G.e 0)⟩ | exact⟨Zi (by rw[cmpE,if_neg (by omega),if_neg (by omega)]),(G.e 0)⟩
  ·refine Yi<|k11<|wR fun k14=>(F.m) fun F=>k14<|(F.r1) ?_
   first | exact⟨Zi (by rw[cmpE,if_pos (by omega)]),(G.e 0)⟩ | exact⟨Zi (by rw[cmpE,if_neg (by omega),if_pos (by omega)]),(G.e 0)⟩ | exact⟨Zi (by rw[cmpE,if_neg (by omega),if_neg (by omega)]),(G.e 0)⟩
def cmpL:List Int→List Int→Int
 | [],[]=>0
 | [],_::_=>-1
 | _::_,[]=>1
 | x::xs,y::ys=>if cmpE x y=0 then cmpL xs ys else cmpE x y
theorem ZgO(hx:i<xs.length)(hy:i<ys.length)(h:cmpE (xs.getD i 0) (ys.getD i 0)=0): cmpL (xs.drop i) (ys.drop i)=cmpL (xs.drop (i+1)) (ys.drop (i+1)):=by
 rw[ZM xs 0 hx,ZM ys 0 hy,cmpL,if_pos h]
theorem ZdZ(hx:i<xs.length)(hy:i<ys.length)(h:cmpE (xs.getD i 0) (ys.getD i 0)≠0): cmpL (xs.drop i) (ys.drop i)=cmpE (xs.getD i 0) (ys.getD i 0):=by
 rw[ZM xs 0 hx,ZM ys 0 hy,cmpL,if_neg h]
theorem ZbH(hx:i<xs.length)(hy:ys.length≤i): cmpL (xs.drop i) (ys.drop i)=1:=by
 rw[ZM xs 0 hx,List.drop_of_length_le hy];rfl
theorem Zap(hx:xs.length≤i)(hy:i<ys.length): cmpL (xs.drop i) (ys.drop i) = -1:=by
 rw[ZM ys 0 hy,List.drop_of_length_le hx];rfl
theorem ZbI(hx:xs.length≤i)(hy:ys.length≤i): cmpL (xs.drop i) (ys.drop i)=0:=by
 rw[List.drop_of_length_le hy,List.drop_of_length_le hx];rfl
theorem Z2O(xs ys:List Int)(a b:Option Addr)(c d:Nat)(w:World)(hx:Z7 w (.slice a xs.length c) 1 (xs.map Z5))(hy:Z7 w (.slice b ys.length d) 1 (ys.map Z5))(h1:xs.length≤1000)(h2:ys.length≤1000):
  Calls (Qy.prog μ) 76 #[.slice a xs.length c,.slice b ys.length d] w fun e w'=>e = .returned (.int .i64 (cmpL xs ys))∧Ext [] w w':=by
 have HS:=Lib.hid (Zh hx 0);have HU:=Lib.hid (Zh hy 0);have E:Ext [] w w:=Ext.refl _ _;clear hx hy;have G:=(Bk.nil w).ce E;refine(ent 36 Tryz.f76 rfl) fun F=>wR fun k1=>(F.m) fun F=>k1<|wQ fun k2=>wR fun k3=>(F.m) fun F=>(F.y F.ln) fun F=>(F.m) fun F=>k3<|Yh<|lpB (F.b [0,1,9,10]) G (xs.length) (fun i Lv Sv W=>Lv=[(11,.int .i64 ((i:Nat):Int))]∧Sv=[]∧cmpL (xs.drop i) (ys.drop i)=cmpL xs ys∧i≤ys.length) ⟨_,_,F.u,G.u,rfl,rfl,rfl,(Nat.zero_le _)⟩ ?_
 clear F G;rintro i _ w1 _ _ hi1 ⟨rfl,rfl,hc,hiy⟩ F G;replace G:=G.z;refine wR fun k4=>(F.y F.ls) fun F=>k4<|wQ fun k5=>F.ci (fun hc12=>?_) (fun hc12=>?_)
 ·refine Yi<|k5<|wQ fun k6=>Yh<|wR fun k7=>(F.m) fun F=>(F.ix HS.out i) fun xr8 F=>(F.y (F.l1 (xr8 _ (G.e 0)) 0)) fun F=>(F.m) fun F=>(F.m) fun F=>k7<|wQ fun k9=>wR fun k10=>(F.m) fun F=>(F.m) fun F=>(F.y F.ln) fun F=>(F.y F.ge) fun F=>k10<|F.ci (fun hc19=>?_) (fun hc19=>?_)
  ·refine wR fun k11=>(F.m) fun F=>k11<|(F.r1) ?_
   exact⟨Zi (by rw[←hc,ZbH (by omega) (by omega)]),(G.e 0)⟩
  ·refine Yi<|k9<|wR fun k12=>(F.m) fun F=>(F.m) fun F=>(F.ix HU.out i) fun xr13 F=>(F.y (F.l1 (xr13 _ (G.e 0)) 0)) fun F=>(F.m) fun F=>k12<|wR fun k14=>(F.m) fun F=>(F.m) fun F=>(F.k0 G (ZbJ (xs.getD i 0) (ys.getD i 0) _)) fun F G=>(F.m) fun F=>k14<|wR fun k15=>(F.m) fun F=>(F.y F.ne) fun F=>k15<|F.ci (fun hc28=>?_) (fun hc28=>?_)
   ·refine wR fun k16=>(F.m) fun F=>(F.m) fun F=>k16<|(F.r1) ?_
    exact⟨Zi (by rw[←hc,ZdZ (by omega) (by omega) hc28]),(G.e 0)⟩
   ·have hc28:cmpE (xs.getD i 0) (ys.getD i 0)=0:=by omega
    refine Yi<|k6<|Yg<|(F.y F.ad) fun F=>(F.m) fun F=>?_
    show _∧_;exact⟨by omega,_,_,F.u,G.u,rfl,rfl,((ZgO (by omega) (by omega) hc28).symm.trans hc),(by omega)⟩
 ·refine wp_exit<|k2<|wQ fun k17=>wR fun k18=>(F.m) fun F=>(F.y F.ln) fun F=>(F.m) fun F=>(F.y F.ln) fun F=>(F.y F.ls) fun F=>k18<|F.ci (fun hc35=>?_) (fun hc35=>?_)
  ·refine wR fun k19=>(F.m) fun F=>k19<|(F.r1) ?_
   exact⟨Zi (by rw[←hc,Zap (by omega) (by omega)]),(G.e 0)⟩
  ·refine Yi<|k17<|wR fun k20=>(F.m) fun F=>k20<|(F.r1) ?_
   exact⟨Zi (by rw[←hc,ZbI (by omega) (by omega)]),(G.e 0)⟩
variable{μ:Nat}
def noP(Q:Exit→Act→World→Prop):Exit→Act→World→Prop:=fun e a w=>match e with
 | .panic _=>False
 | e=>Q e a w
section
variable{P:Program}{Q:Exit→Act→World→Prop}{a:Act}{w:World}{md:Region.Mode}{ops:Array Oper}{T:World→Prop}{stop:Option Nat}{listed:Array Bool}
theorem ZcV(T:World→Prop)(stop:Option Nat)(hm:P.follows .mixedOrders=true)(h:∀W:World,W.heap=w.heap→Ext [] w W→Zr P .any l.toArray (noP Q) T stop l.toArray.size (Array.replicate l.toArray.size false) a W): (Code.region id l.toArray true).wp P Q a w:=
 Code.wp_mono (fun e a w h=>by cases e<;>first | exact h | exact h.elim) (Z9T T stop hm h)
theorem wDN{S:List Fc}(X:List Nat)(stop:Option Nat)(B:Bk w S)(h:∀{W:World},Bk W (.e X w::S)→Zr P .any l.toArray (noP Q) (Ext X w) stop l.toArray.size (Array.replicate l.toArray.size false) a W)(hm:P.follows .mixedOrders=true:=by exact follows): (Code.region id l.toArray true).wp P Q a w:=ZcV (Ext X w) stop hm fun W hh eh=>h ⟨eh.mono (by simp),B.ex eh⟩
theorem aDN{fuel:Nat}(hr:Region.ready md ops listed=[]:=by kernel_rfl)(h:Q .normal a w): Zr P md ops (noP Q) T stop fuel listed a w:=Z6d (Q:=noP Q) hr h fuel
end
section
variable{P:Program}{ρ:Operand→Value}{o:Oper}{w:World}
theorem Z5u{b f: Nat}(ho:o.op = .slice t x none none none)(hx:ρ x = .pointer (some ⟨b,f,none⟩))(hu:P.underlying t=some (.array (P.arrayLen t) (P.elem t)))(hs:(P.info? (P.elem t)).map (·.size)=some 1)(hn:P.arrayLen t=n):
  (execOp ρ o).run P w = .ok (.value (.slice (some ⟨b,f,none⟩) n n)) w:=by
 have h0:(sizeOf (P.elem t)).run P w = .ok 1 w:=by
  generalize P.elem t=e at hs
  cases hq:P.info? e with
  | none=>simp[hq]at hs
  | some j =>
   have hj:j.size=1:=by simpa[hq] using hs
   simp[sizeOf,typeInfo,hq,hj]
 have hr:=run_sliceAt_array_all (P:=P) w t ⟨b,f,none⟩ hu;rw[h0,hn]at hr;simp only[Result.andThen_ok,slicedAt,Nat.zero_mul,Nat.sub_zero]at hr;have ha:(if n=0 then(⟨b,f,none⟩:Addr) else Addr.add ⟨b,f,none⟩ 0)=⟨b,f,none⟩:=by split<;>rfl
 rw[ha]at hr;clear hu hs hn h0 ha;unfold execOp;simp only[ho,hx,Option.map_none,Sem.run_bind,hr,Result.andThen_ok,Sem.run_pure]
end
theorem Z9U{w:World}{b off:Nat}{C:Array Value}{T:TypeId}{fz:Nat×Nat}(xs:List Int)(cap:Nat)(h:w.heap[b]?=some (.cells C T fz))(hc:∀j,j<xs.length→C[off+j]?=some (.int .i64 (xs.getD j 0))): Z7 w (.slice (some ⟨b,off,none⟩) xs.length cap) 1 (xs.map Z5):=by
 refine⟨some ⟨b,off,none⟩,cap,by simp,by simp[Z5],fun _=>⟨b,off,rfl,Z3 h,fun i j x hi hj=>?_⟩⟩;obtain rfl:j=0:=by omega
 rw[Z0 h];simp only[Yn,Y3]at hi;obtain⟨y,hy,rfl⟩:=hi;obtain⟨h1,h2⟩:=List.getElem?_eq_some_iff.1 hy;rw[Nat.mul_one,Nat.add_zero,hc i h1];simp[Z5,h1,h2]
def setL:List Value→Nat→List Value→List Value
 | xs,_,[]=>xs
 | xs,j,v::vs=>setL (xs.set j v) (j+1) vs
theorem Z6V{b:Nat}{T:TypeId}:∀{vs:List Value} {w w2:World} {off:Nat} {C C':Array Value},w2=w.setCells b off vs→w.heap[b]?=some (.cells C T (0,0))→C'=(setL C.toList off vs).toArray→w2.heap[b]?=some (.cells C' T (0,0))
 | [],w,w2,off,C,C',e,H,h=>by rw[e,h];simpa[World.setCells,setL] using H
 | v::vs,w,w2,off,C,C',e,H,h=>by
  have h1:=ZF (w2:=w.setCell ⟨b,off,none⟩ v) rfl H rfl;exact Z6V (w:=w.setCell ⟨b,off,none⟩ v) (off:=off+1) e h1 (by rw[h,setL,Array.toList_setIfInBounds])
def Z8H(f:Nat→Int)(a b:Int)(s:Bool):Array Value:=#[.int .i64 (f 0),.int .i64 (f 1),.int .i64 (f 2),.int .i64 (f 3),.int .i64 a,.int .i64 b,.bool s]
theorem ZcH(nb:Nat)(g f:Nat→Int)(c d a b:Int)(w:World)(hq:w.heap[nb]?=some (.cells (Z8H g c d false) 129 (0,0))):
  Calls (Qy.prog μ) 109 #[.pointer (some ⟨nb,0,none⟩),.agg #[.int .i64 (f 0),.int .i64 (f 1),.int .i64 (f 2),.int .i64 (f 3)],.agg #[.int .i64 a,.int .i64 b]] w fun e w'=>e = .returned (.tuple #[])∧w'.heap[nb]?=some (.cells (Z8H f a b true) 129 (0,0))∧Ext [nb] w w':=by
 have E:Ext [nb] w w:=Ext.refl _ _;have qn:w.heap[nb]?=some (.cells #[.int .i64 (g 0),.int .i64 (g 1),.int .i64 (g 2),.int .i64 (g 3),.int .i64 c,.int .i64 d,.bool false] 129 (0,0)):=hq;clear hq;have G:=(Bk.nil w).ce E;replace G:=G.cq qn;refine(ent 31 Tryz.f109 rfl) fun F=>wR fun k1=>(F.bx G) fun yy F G=>(F.bx G) fun yy F G=>k1<|wQ fun k2=>(wX 11 G) fun G=>(F.sm) fun F=>(F.s F.nc) fun F=>(F.s (F.fd 6)) fun F=>(F.s (F.lc (G.q 2))) fun F=>(F.s F.nb) fun F=>(F.sm) fun F=>(F.sn) fun F=>(F.sn) fun F=>(F.sn) fun F=>?_
 refine(F.sn) fun F=>(F.sn) fun F=>wpStill_nil<|(F.n) fun F=>(F.n) fun F=>(F.y F.pT) fun F=>k2<|(F.cT)<|Yg<|(F.m) fun F=>(F.m) fun F=>(F.m) fun F=>(F.y (F.lb (G.q 1))) fun F=>(F.y (F.lb (G.q 0))) fun F=>(F.y F.nc) fun F=>(F.y (F.fd 0)) fun F=>(F.sW (cs2:=#[.int .i64 (f 0),.int .i64 (f 1),.int .i64 (f 2),.int .i64 (f 3),.int .i64 c,.int .i64 d,.bool false]) G 2 0 fun _ hw=>Z6V hw (G.q 2) rfl) fun G=>(F.y F.nc) fun F=>(F.y (F.fd 4)) fun F=>(F.sW (cs2:=#[.int .i64 (f 0),.int .i64 (f 1),.int .i64 (f 2),.int .i64 (f 3),.int .i64 a,.int .i64 b,.bool false]) G 2 4 fun _ hw=>Z1X hw (G.q 2) (by simp only[List.setIfInBounds_toArray,lsQ,lzQ];exact rfl)) fun G=>?_
 refine(F.y F.nc) fun F=>(F.y (F.fd 6)) fun F=>(F.st G 2) fun G=>(F.f0) ?_;exact⟨rfl,(G.q 2),(G.e 3)⟩
theorem ZcI(nb:Nat)(g f:Nat→Int)(c d a b:Int)(w:World)(hq:w.heap[nb]?=some (.cells (Z8H g c d true) 129 (0,0))):
  Calls (Qy.prog μ) 109 #[.pointer (some ⟨nb,0,none⟩),.agg #[.int .i64 (f 0),.int .i64 (f 1),.int .i64 (f 2),.int .i64 (f 3)],.agg #[.int .i64 a,.int .i64 b]] w fun e w'=>e = .returned (.tuple #[])∧w'.heap[nb]?=some (.cells (if cmpL [a,b] [c,d]<0 then Z8H f a b true else Z8H g c d true) 129 (0,0))∧Ext [nb] w w':=by
 have E:Ext [nb] w w:=Ext.refl _ _;have qn:w.heap[nb]?=some (.cells #[.int .i64 (g 0),.int .i64 (g 1),.int .i64 (g 2),.int .i64 (g 3),.int .i64 c,.int .i64 d,.bool true] 129 (0,0)):=hq;clear hq;have G:=(Bk.nil w).ce E;replace G:=G.cq qn;refine(ent 31 Tryz.f109 rfl) fun F=>wR fun k1=>(F.bx G) fun yy F G=>(F.bx G) @fun n5 w2 _ yy F G=>k1<|wQ fun k2=>(wX 11 G) fun G=>(F.sm) fun F=>(F.s F.nc) fun F=>(F.s (F.fd 6)) fun F=>(F.s (F.lc (G.q 2))) fun F=>(F.s F.nb) fun F=>(F.sm) fun F=>?_
 refine(F.s ((Z2m (n:=2) rfl (F.at rfl) (by kernel_rfl) (by kernel_rfl) (by kernel_rfl)))) fun F=>(F.sm) fun F=>(F.s F.nc) fun F=>(F.s (F.fd 4)) fun F=>?_;refine(F.s ((Z5u (n:=2) rfl (F.at rfl) (by kernel_rfl) (by kernel_rfl) (by kernel_rfl)))) fun F=>wpStill_nil<|(F.k0 G (Z2O [a,b] [c,d] (some ⟨n5,0,none⟩) (some ⟨nb,4,none⟩) 2 2 _ (ZK [a,b] 2 (G.q 0)) (Z9U [c,d] 2 (G.q 2) (fun j hj=>by rcases j with _ | _ | j;(· rfl);(· rfl);(· simp at hj;omega))) (by simp) (by simp))) fun F G=>(F.y F.ls) fun F=>(F.y F.pF) fun F=>k2<|F.ci (fun hc19=>?_) (fun hc19=>?_)
 ·refine Yg<|(F.m) fun F=>(F.m) fun F=>(F.m) fun F=>(F.y (F.lb (G.q 1))) fun F=>(F.y (F.lb (G.q 0))) fun F=>(F.y F.nc) fun F=>(F.y (F.fd 0)) fun F=>(F.sW (cs2:=#[.int .i64 (f 0),.int .i64 (f 1),.int .i64 (f 2),.int .i64 (f 3),.int .i64 c,.int .i64 d,.bool true]) G 2 0 fun _ hw=>Z6V hw (G.q 2) rfl) fun G=>(F.y F.nc) fun F=>(F.y (F.fd 4)) fun F=>(F.sW (cs2:=#[.int .i64 (f 0),.int .i64 (f 1),.int .i64 (f 2),.int .i64 (f 3),.int .i64 a,.int .i64 b,.bool true]) G 2 4 fun _ hw=>Z1X hw (G.q 2) (by simp only[List.setIfInBounds_toArray,lsQ,lzQ];exact rfl)) fun G=>(F.y F.nc) fun F=>(F.y (F.fd 6)) fun F=>(F.st G 2) fun G=>(F.f0) ?_
  exact⟨rfl,(by rw[if_pos hc19];exact(G.q 2)),(G.e 3)⟩
 ·refine Yi<|(F.e0) ?_
  exact⟨rfl,(by rw[if_neg hc19];exact(G.q 2)),(G.e 3)⟩
variable{μ:Nat}
section
variable{α:Type}(g:α→Nat→Int)(c:α→Int×Int)
def offO:Option α→α→Option α
 | none,t=>some t
 | some u,t=>if cmpL [(c t).1,(c t).2] [(c u).1,(c u).2]<0 then some t else some u
def Z1T(l:List α):Option α:=l.foldl (offO c) none
def Z6Q:Option α→Array Value
 | none=>Z8H zf 0 0 false
 | some t=>Z8H (g t) (c t).1 (c t).2 true
theorem Z3m(l:List α)(t:α):Z1T c (l++[t])=offO c (Z1T c l) t:=by simp[Z1T]
end
theorem Z7O{α:Type}(g:α→Nat→Int)(c:α→Int×Int)(nb:Nat)(o:Option α)(t:α)(w:World)(hq:w.heap[nb]?=some (.cells (Z6Q g c o) 129 (0,0))):
  Calls (Qy.prog μ) 109 #[.pointer (some ⟨nb,0,none⟩),.agg #[.int .i64 (g t 0),.int .i64 (g t 1),.int .i64 (g t 2),.int .i64 (g t 3)],.agg #[.int .i64 (c t).1,.int .i64 (c t).2]] w fun e w'=>e = .returned (.tuple #[])∧w'.heap[nb]?=some (.cells (Z6Q g c (offO c o t)) 129 (0,0))∧Ext [nb] w w':=by
 cases o with
 | none=>exact ZcH nb zf (g t) 0 0 (c t).1 (c t).2 w hq
 | some u =>
  refine Calls.mono (ZcI nb (g u) (g t) (c u).1 (c u).2 (c t).1 (c t).2 w hq) ?_;rintro e w' ⟨h1,h2,h3⟩;refine⟨h1,?_,h3⟩;rw[h2,offO]
  split<;>rfl
def dyeN(f:Nat→Int)(n:Nat):Int:=sumQ (fun k=>min (f k) 1) n
def cF(t:List Int):Int×Int:=(dyeN (val t) 4,prt (val t))
def fewR(x:Vm)(s:Nat→Int)(ls:List Int):List Int×Int:=match Z1T cF (matL x s ls) with
 | none=>([],11)
 | some t=>(cutL (val t) x.D.length,0)
def Z47(r:List Int×Int)(w:World)(e:Ending)(w':World):Prop:=∃a c,e = .returned (.tuple #[.slice a r.1.length c,.int .i64 r.2])∧w'.ownsRow w.heap.size 3 1 (.slice a r.1.length c) r.1.length (ivs r.1)∧Ext [] w w'
theorem ZeO{α:Type}{c:α→Int×Int}{l:List α}{t:α}(h:Z1T c l=some t): t∈l:=by
 have key:∀(l:List α) (o:Option α),l.foldl (offO c) o=some t→t∈l∨o=some t:=by
  intro l
  induction l with
  | nil=>intro o h;exact .inr h
  | cons x l ih =>
   intro o h
   rcases ih _ h with h | h
   ·exact .inl (List.mem_cons_of_mem _ h)
   ·cases o with
    | none=>cases h;exact .inl (List.mem_cons_self ..)
    | some u =>
     rw[offO]at h
     split at h
     ·cases h;exact .inl (List.mem_cons_self ..)
     ·exact .inr h
 rcases key l none h with h | h
 ·exact h
 ·cases h
theorem Z4f(f:Nat→Int)(n:Nat):(cutL f n).length=n:=by simp[cutL]
theorem Zhy{x:Vm}(hv:VOk x){t:List Int}(h:t∈matL x s ls): t.length=x.D.length∧TubS (val t):=by
 have hm:=(List.mem_filter.1 h).1;have h2:=(Z6W x.D.length (by have:=hv.d4;omega)).2 t hm;exact⟨h2.1,h2.2.1⟩
theorem Zhx{x:Vm}(hv:VOk x): (matL x s ls).length≤500:=Yd (List.length_filter_le _ _) (Z9S x.D.length (by have:=hv.d4;omega))
theorem Z0n{α:Type}(d:α){l:List α}(h:i<l.length): l.getD i d∈l:=by rw[Y7,List.getElem?_eq_getElem h];exact List.getElem_mem h
theorem Z3X{c: Nat}{a:Option Addr}{T:List (List Int)}(h:w.ownsRow base 88 4 (.slice a n c) n (Z2Z T))(hn:n=T.length)(X:List Nat)(hX:∀b∈X,b<base): SlAt X w a 4 T.length (fun i=>tubR (val (T.getD i []))):=Z1g (row:=fun t:List Int=>tubR (val t)) h hn (fun _=>rfl) X hX []
theorem Zb7(x:Vm)(hv:VOk x)(s:List Int)(hs:Z5m x s)(ls:List Int)(hl:Z5r x ls)(hll:ls.length≤1000)(a b:Option Addr)(c d:Nat)(w:World)(h:x.At w)(hr:Z7 w (.slice a s.length c) 1 (s.map Z5))(hq:Z7 w (.slice b ls.length d) 1 (ls.map Z5)):
  Calls (Qy.prog μ) 54 #[.agg #[.int .i64 x.B,.slice x.da x.D.length x.dc,.slice x.la x.L.length x.lc,.int .i64 x.tol],.slice a s.length c,.slice b ls.length d] w (Z47 (fewR x (val s) ls) w):=by
 have E:Ext [] w w:=Ext.refl _ _;have HX:=Lib.hid h;have HV:=Lib.hid hv;have HR:=Lib.hid hr;have HQ:=Lib.hid hq;have HL:=Lib.hid hl;have HS:=Lib.hid hs;have hd4:=hv.d4;obtain⟨T,hT⟩:∃T,T=matL x (val s) ls:=⟨_,rfl⟩;have HM:RowKit.Hid (∀t∈T,t.length=x.D.length∧TubS (val t)):=Lib.hid (fun t ht=>Zhy hv (by rw[←hT];exact ht));have htl:T.length≤500:=by rw[hT];exact Zhx hv
 clear h hv hr hq hl hs;have G:=(Bk.nil w).ce E;refine(entM 55 Tryz.f54 rfl) fun F=>wR fun k1=>(F.bx G) fun yy F G=>(F.m) fun F=>(F.al G Qy.zeroValue30) fun yy F G=>k1<|wR fun k2=>(F.df) fun F=>k2<|wR fun k3=>(F.y (F.lb (G.q 1))) fun F=>(F.k0 G (Z0F x HV.out _ (HX.out.ext (G.e 2)))) fun F G=>(F.al G Qy.zeroValue85) fun yy F G=>(F.sr G 0) fun G=>k3<|wR fun k4=>(F.y (F.lb (G.q 0))) fun F=>?_
 refine(F.m) fun F=>(F.k0 G (Z4Z x HV.out s HS.out a c _ (HR.out.ext (G.e 3) (by simp)))) fun F G=>k4<|wR fun k5=>(F.y (F.lb (G.q 0))) fun F=>(F.m) fun F=>(F.k0 G (Z6K x HV.out ls HL.out hll b d _ (HX.out.ext (G.e 3)) (HQ.out.ext (G.e 3) (by simp)))) fun F G=>k5<|wR fun k6=>(F.al G Qy.zeroValue129) @fun n9 w8 _ yy F G=>?_
 have q9:=G.q 0;replace q9:w8.heap[n9]?=some (.cells (Z6Q val cF (Z1T cF (T.take 0))) 129 (0,0)):=q9;replace G:=G.rQ 0 q9;clear q9;refine k6<|wQ fun k7=>wR fun k8=>(F.y (F.lb (G.q 1))) fun F=>(F.m) fun F=>(F.m) fun F=>?_
 have b9:=Z3 (G.q 0);refine(F.k (Z8E x HV.out s HS.out ls HL.out.2.1 hll a b c d _ (HX.out.ext (G.e 4)) (HR.out.ext (G.e 4) (by simp)) (HQ.out.ext (G.e 4) (by simp)))) ?_;rintro _ w9 ⟨ma,mc,rfl,om,e9⟩;refine⟨_,rfl,fun F=>?_⟩;replace G:=G.ex e9;rw[←hT]at F om;have HT:=Lib.hid (Z3X om rfl [n9] (by simpa using b9));clear om;replace G:=G.hr [n9];refine(F.y F.ln) fun F=>(F.m) fun F=>k8<|Yh<|lpB (F.b [7,8,9,26,27]) (G.b [0,2,3,4,5]) (T.length) (fun i Lv Sv W=>Lv=[(28,.int .i64 ((i:Nat):Int))]∧Sv=[.q n9 ((Z6Q val cF (Z1T cF (T.take i)))) 129]) ⟨_,_,F.u,G.u,rfl,rfl⟩ ?_
 clear F G;rintro i _ w10 _ _ hi1 ⟨rfl,rfl⟩ F G;replace G:=G.z;refine wR fun k9=>(F.y F.ls) fun F=>k9<|wQ fun k10=>F.ci (fun hc29=>?_) (fun hc29=>?_)
 ·refine Yi<|k10<|wQ fun k11=>Yh<|wR fun k12=>(F.ix HT.out i) fun xr13 F=>(F.y (F.lr (xr13 _ (G.e 1)))) fun F=>(F.al G Qy.zeroValue88) @fun n11 w11 _ yy F G=>(F.sr G 0) @fun w12 G=>?_
  have hts:=(HM.out (T.getD i []) (Z0n [] (by omega))).2;have q11:=G.q 0;replace q11:w12.heap[n11]?=some (.cells (tubC (val (T.getD i []))) 88 (0,0)):=q11;replace G:=G.rQ 0 q11;clear q11;refine k12<|wR fun k14=>(F.m) fun F=>?_
  rw[show (0:Int)=dyeN (val (T.getD i [])) 0 from rfl]at F;refine k14<|wQ fun k15=>wR fun k16=>(F.y (F.lb (G.q 0))) fun F=>(F.m) fun F=>k16<|Yh<|lpB (F.b [7,8,9,11,26,27,28,32]) (G.b [2,3,4,5,6]) (4) (fun k Lv Sv W=>Lv=[(12,.int .i64 (dyeN (val (T.getD i [])) k)),(33,.int .i64 ((k:Nat):Int))]∧Sv=[.q n9 ((Z6Q val cF (Z1T cF (T.take i)))) 129,.q n11 ((tubC (val (T.getD i [])))) 88]∧0≤dyeN (val (T.getD i [])) k∧dyeN (val (T.getD i [])) k≤k) ⟨_,_,F.u,G.u,rfl,rfl,(by simp[dyeN,sumQ])⟩ ?_
  clear F G;rintro k _ w13 _ _ hi2 ⟨rfl,rfl,hdn⟩ F G;replace G:=G.z;refine wR fun k17=>(F.y F.ls) fun F=>k17<|wQ fun k18=>F.ci (fun hc34=>?_) (fun hc34=>?_)
  ·refine Yi<|k18<|wQ fun k19=>Yh<|wR fun k20=>(F.y (F.iv 4 (Z62 (k:=k) rfl (by omega)))) fun F=>(F.m) fun F=>k20 ?_
   have hbk:=hts k (by omega);refine Yg<|(F.m) fun F=>(F.m) fun F=>(F.y F.mn) fun F=>(F.y F.ad) fun F=>(F.m) fun F=>?_
   rw[show dyeN (val (T.getD i [])) k+min (val (T.getD i []) k) 1=dyeN (val (T.getD i [])) (k+1) from rfl]at F;refine k19<|Yg<|(F.y F.ad) fun F=>(F.m) fun F=>?_
   show _∧_;exact⟨by omega,_,_,F.u,G.u,rfl,rfl,(by have:=hts k (by omega);have h2:dyeN (val (T.getD i [])) (k+1)=dyeN (val (T.getD i [])) k+min (val (T.getD i []) k) 1:=rfl;constructor<;>omega)⟩
  ·refine wp_exit ?_
   rw[show k=4 by omega]at F;refine k15 ?_;have G2:=G;refine(wDN [n9] none G) fun G=>(F.zr 0 (G.t 0) fun hS=>F.lb (G2.k 1 hS)) fun F=>(F.z 1 (G.t 0) F.mo) fun F=>(F.zr 2 (G.t 0) fun hS=>F.lb (G2.k 1 hS)) fun F=>(aO 3)<|(F.ok0 G (Z0r (val (T.getD i [])) hts.ok _)) fun F G=>.intro (G.t 0)<|(F.z 4 (G.t 0) (F.bv #[.int .i64 (dyeN (val (T.getD i [])) 4),.int .i64 (prt (val (T.getD i [])))])) fun F=>?_
   have q9:=G.q 1;replace G:=G.d 1;refine(aO 5)<|(F.ok (Z7O val cF n9 (Z1T cF (T.take i)) (T.getD i []) _ q9)) ?_
   rintro _ w16 ⟨rfl,q9',e9⟩;refine⟨_,rfl,fun F=>?_⟩;replace G:=G.x e9;refine .intro (G.t 0) ?_;rw[←Z3m,←Z2k T [] (by omega)]at q9';replace q9:=q9';clear q9';replace G:=G.cq q9;refine(aDN)<|k11<|Yg<|(F.y F.ad) fun F=>(F.m) fun F=>?_
   show _∧_;exact⟨by omega,_,_,F.u,G.u,rfl,rfl⟩
 ·refine wp_exit ?_
  have q9:=G.q 0;rw[List.take_of_length_le (show T.length≤i by omega)]at q9;replace G:=G.rQ 0 q9;clear q9;refine k7<|wQ fun k21=>wQ fun k22=>?_
  by_cases hN:Z1T cF T=none
  ·have q9:=G.q 0
   replace q9:w10.heap[n9]?=some (.cells #[.int .i64 (zf 0),.int .i64 (zf 1),.int .i64 (zf 2),.int .i64 (zf 3),.int .i64 0,.int .i64 0,.bool false] 129 (0,0)):=by rw[hN]at q9;exact q9
   replace G:=G.rQ 0 q9;clear q9;refine Yg<|(F.y (F.fd 6)) fun F=>(F.y (F.lc (G.q 0))) fun F=>(F.y F.nb) fun F=>k22<|(F.cT)<|wR fun k23=>(F.m) fun F=>?_
   have E9:=G.e 1;replace G:=G.d 1;refine(F.st G 2) fun G=>k23<|wp_ret ?_
   (try simp only[Exit.inBlock,Exit.then,reduceIte])
   refine Z3K F<|ZN<|Z1A (Z6Y F rfl rfl rfl Qy.underlying30 rfl (G.q 2)) ?_
   rw[fewR,←hT,hN];exact⟨none,0,rfl,World.ownsRow_nil _ _ _ _,(G.e 4)⟩
  ·obtain⟨t,ht⟩:=Option.ne_none_iff_exists'.1 hN
   have htm:=HM.out t (ZeO ht);have q9:=G.q 0;replace q9:w10.heap[n9]?=some (.cells #[.int .i64 (val t 0),.int .i64 (val t 1),.int .i64 (val t 2),.int .i64 (val t 3),.int .i64 (cF t).1,.int .i64 (cF t).2,.bool true] 129 (0,0)):=by rw[ht]at q9;exact q9
   replace G:=G.rQ 0 q9;clear q9;refine Yg<|(F.y (F.fd 6)) fun F=>(F.y (F.lc (G.q 0))) fun F=>(F.y F.nb) fun F=>k22<|(F.cF)<|Yi<|k21<|wR fun k24=>(F.y (F.lb (G.q 2))) fun F=>(F.y (F.fd 0)) fun F=>(F.y (F.lr (Z5O (n:=4) (G.q 0) rfl (midS (get0) (midS (getS (get0)) (midS (getS (getS (get0))) (midS (getS (getS (getS (get0)))) mid0))))))) fun F=>?_
   have hEs:=(G.e 5).size;refine(F.k (ZbN x HV.out (val t) _)) ?_;rintro _ w18 ⟨ca,cc,rfl,oo,e9⟩;refine⟨_,rfl,fun F=>?_⟩;replace G:=G.ex e9;replace oo:=Z0i oo hEs;replace G:=G.co oo;refine(F.m) fun F=>?_;replace G:=G.d 2;refine(F.st G 3) fun G=>k24<|wp_ret ?_
   (try simp only[Exit.inBlock,Exit.then,reduceIte])
   refine Z3K F<|ZN<|Z1A (Z6Y F rfl rfl rfl Qy.underlying30 rfl (G.q 3)) ?_
   rw[fewR,←hT,ht];refine⟨ca,cc,?_,?_,(G.e 5)⟩
   ·simp only[Z4f]
   have oo:=G.o 0
   ·simp only[Z4f];exact oo
variable{μ:Nat}
def Z4S(v a b:Int)(s:Bool):Array Value:=#[.int .i64 v,.int .i64 a,.int .i64 b,.bool s]
theorem ZaC(nb:Nat)(v c d u a b:Int)(w:World)(hq:w.heap[nb]?=some (.cells (Z4S v c d false) 125 (0,0))):
  Calls (Qy.prog μ) 105 #[.pointer (some ⟨nb,0,none⟩),.int .i64 u,.agg #[.int .i64 a,.int .i64 b]] w fun e w'=>e = .returned (.tuple #[])∧w'.heap[nb]?=some (.cells (Z4S u a b true) 125 (0,0))∧Ext [nb] w w':=by
 have E:Ext [nb] w w:=Ext.refl _ _;have qn:w.heap[nb]?=some (.cells #[.int .i64 v,.int .i64 c,.int .i64 d,.bool false] 125 (0,0)):=hq;clear hq;have G:=(Bk.nil w).ce E;replace G:=G.cq qn;refine(ent 31 Tryz.f105 rfl) fun F=>wR fun k1=>(F.bx G) fun yy F G=>k1<|wQ fun k2=>(wX 11 G) fun G=>(F.sm) fun F=>(F.s F.nc) fun F=>(F.s (F.fd 3)) fun F=>(F.s (F.lc (G.q 1))) fun F=>(F.s F.nb) fun F=>(F.sm) fun F=>(F.sn) fun F=>(F.sn) fun F=>(F.sn) fun F=>(F.sn) fun F=>(F.sn) fun F=>wpStill_nil ?_
 refine(F.n) fun F=>(F.n) fun F=>(F.y F.pT) fun F=>k2<|(F.cT)<|Yg<|(F.m) fun F=>(F.m) fun F=>(F.m) fun F=>(F.m) fun F=>(F.y (F.lb (G.q 0))) fun F=>(F.y F.nc) fun F=>(F.y (F.fd 0)) fun F=>(F.st G 1) fun G=>(F.y F.nc) fun F=>(F.y (F.fd 1)) fun F=>(F.sW (cs2:=#[.int .i64 u,.int .i64 a,.int .i64 b,.bool false]) G 1 1 fun _ hw=>Z1X hw (G.q 1) (by simp only[List.setIfInBounds_toArray,lsQ,lzQ];exact rfl)) fun G=>(F.y F.nc) fun F=>(F.y (F.fd 3)) fun F=>(F.st G 1) fun G=>(F.f0) ?_
 exact⟨rfl,(G.q 1),(G.e 2)⟩
theorem ZaD(nb:Nat)(v c d u a b:Int)(w:World)(hq:w.heap[nb]?=some (.cells (Z4S v c d true) 125 (0,0))):
  Calls (Qy.prog μ) 105 #[.pointer (some ⟨nb,0,none⟩),.int .i64 u,.agg #[.int .i64 a,.int .i64 b]] w fun e w'=>e = .returned (.tuple #[])∧w'.heap[nb]?=some (.cells (if cmpL [a,b] [c,d]<0 then Z4S u a b true else Z4S v c d true) 125 (0,0))∧Ext [nb] w w':=by
 have E:Ext [nb] w w:=Ext.refl _ _;have qn:w.heap[nb]?=some (.cells #[.int .i64 v,.int .i64 c,.int .i64 d,.bool true] 125 (0,0)):=hq;clear hq;have G:=(Bk.nil w).ce E;replace G:=G.cq qn;refine(ent 31 Tryz.f105 rfl) fun F=>wR fun k1=>(F.bx G) @fun n5 w1 _ yy F G=>k1<|wQ fun k2=>(wX 11 G) fun G=>(F.sm) fun F=>(F.s F.nc) fun F=>(F.s (F.fd 3)) fun F=>(F.s (F.lc (G.q 1))) fun F=>(F.s F.nb) fun F=>(F.sm) fun F=>?_
 refine(F.s ((Z2m (n:=2) rfl (F.at rfl) (by kernel_rfl) (by kernel_rfl) (by kernel_rfl)))) fun F=>(F.sm) fun F=>(F.s F.nc) fun F=>(F.s (F.fd 1)) fun F=>?_;refine(F.s ((Z5u (n:=2) rfl (F.at rfl) (by kernel_rfl) (by kernel_rfl) (by kernel_rfl)))) fun F=>wpStill_nil<|(F.k0 G (Z2O [a,b] [c,d] (some ⟨n5,0,none⟩) (some ⟨nb,1,none⟩) 2 2 _ (ZK [a,b] 2 (G.q 0)) (Z9U [c,d] 2 (G.q 1) (fun j hj=>by rcases j with _ | _ | j;(· rfl);(· rfl);(· simp at hj;omega))) (by simp) (by simp))) fun F G=>(F.y F.ls) fun F=>(F.y F.pF) fun F=>k2<|F.ci (fun hc19=>?_) (fun hc19=>?_)
 ·refine Yg<|(F.m) fun F=>(F.m) fun F=>(F.m) fun F=>(F.m) fun F=>(F.y (F.lb (G.q 0))) fun F=>(F.y F.nc) fun F=>(F.y (F.fd 0)) fun F=>(F.st G 1) fun G=>(F.y F.nc) fun F=>(F.y (F.fd 1)) fun F=>(F.sW (cs2:=#[.int .i64 u,.int .i64 a,.int .i64 b,.bool true]) G 1 1 fun _ hw=>Z1X hw (G.q 1) (by simp only[List.setIfInBounds_toArray,lsQ,lzQ];exact rfl)) fun G=>(F.y F.nc) fun F=>(F.y (F.fd 3)) fun F=>(F.st G 1) fun G=>(F.f0) ?_
  exact⟨rfl,(by rw[if_pos hc19];exact(G.q 1)),(G.e 2)⟩
 ·refine Yi<|(F.e0) ?_
  exact⟨rfl,(by rw[if_neg hc19];exact(G.q 1)),(G.e 2)⟩
def Z5K(c:Nat→Int×Int):Option Nat→Array Value
 | none=>Z4S 0 0 0 false
 | some n=>Z4S ((n:Nat):Int) (c n).1 (c n).2 true
theorem ZaB(c:Nat→Int×Int)(nb:Nat)(o:Option Nat)(n:Nat)(w:World)(hq:w.heap[nb]?=some (.cells (Z5K c o) 125 (0,0))):
  Calls (Qy.prog μ) 105 #[.pointer (some ⟨nb,0,none⟩),.int .i64 ((n:Nat):Int),.agg #[.int .i64 (c n).1,.int .i64 (c n).2]] w fun e w'=>e = .returned (.tuple #[])∧w'.heap[nb]?=some (.cells (Z5K c (offO c o n)) 125 (0,0))∧Ext [nb] w w':=by
 cases o with
 | none=>exact ZaC nb 0 0 0 ((n:Nat):Int) (c n).1 (c n).2 w hq
 | some u =>
  refine Calls.mono (ZaD nb ((u:Nat):Int) (c u).1 (c u).2 ((n:Nat):Int) (c n).1 (c n).2 w hq) ?_;rintro e w' ⟨h1,h2,h3⟩;refine⟨h1,?_,h3⟩;rw[h2,offO]
  split<;>rfl
theorem take_range(h:i<n): (List.range n).take (i+1)=(List.range n).take i++[i]:=by
 rw[Z2k (List.range n) 0 (by rw[List.length_range];exact h)];simp[h]
def bI(b:Bool):Int:=if b=true then 1 else 0
def rowU(p:Nat→Bool):Nat→Int
 | 0=>0
 | k+1=>rowU p k+bI (p k)
def triU(p:Nat→Nat→Bool):Nat→Int
 | 0=>0
 | j+1=>triU p j+rowU (p j) j
theorem Zkv(b:Bool):0≤bI b∧bI b≤1:=by cases b<;>simp[bI]
theorem Z3J(p:Nat→Bool):∀k,0≤rowU p k∧rowU p k≤k
 | 0=>by simp[rowU]
 | k+1=>by have:=Z3J p k;have:=Zkv (p k);rw[rowU];omega
theorem Z7g(p:Nat→Nat→Bool):∀j,j≤6→0≤triU p j∧triU p j≤6*j
 | 0,_=>by simp[triU]
 | j+1,h=>by have:=Z7g p j (by omega);have:=Z3J (p j) j;rw[triU];omega
def unlP(x:Vm)(n:Nat)(T:List (List Int))(j k:Nat):Bool:=!alkE x n (val (T.getD j [])) (val (T.getD k []))
def unN(x:Vm)(T:List (List Int))(n:Nat):Int:=triU (unlP x n T) T.length
def cT(x:Vm)(T:List (List Int))(n:Nat):Int×Int:=(-unN x T n,0)
def telR(x:Vm)(T:List (List Int)):Int×Int×Int:=match Z1T (cT x T) (List.range x.L.length) with
 | none=>(0,0,11)
 | some n=>if unN x T n=0 then(0,0,11) else((n:Nat),unN x T n,0)
theorem Z5l(x:Vm)(hv:VOk x)(S:List (Value×List Int))(hs:∀p∈S,RcpOk x p.2)(h6:S.length≤6)(a:Option Addr)(c:Nat)(w:World)(h:x.At w)(hl:Z0s w a S):
  Calls (Qy.prog μ) 49 #[.agg #[.int .i64 x.B,.slice x.da x.D.length x.dc,.slice x.la x.L.length x.lc,.int .i64 x.tol],.slice a S.length c] w fun e w'=>e = .returned (.tuple #[.int .i64 (telR x (S.map (·.2))).1,.int .i64 (telR x (S.map (·.2))).2.1,.int .i64 (telR x (S.map (·.2))).2.2])∧Ext [] w w':=by
 have E:Ext [] w w:=Ext.refl _ _;have HX:=Lib.hid h;have HV:=Lib.hid hv;have HL:=Lib.hid hl;have HS:=Lib.hid hs;have hl3:=hv.l3;obtain⟨T,hT⟩:∃T,T=S.map (·.2):=⟨_,rfl⟩;have hTl:T.length=S.length:=by rw[hT,Yj]
 have HM:RowKit.Hid (∀t∈T,TubS (val t)):=Lib.hid (fun t ht=>by
  rw[hT]at ht;obtain⟨p,hp,rfl⟩:=List.mem_map.1 ht;exact(hs p hp).tub)
 clear h hv hl hs;have G:=(Bk.nil w).ce E;refine(entM 67 Tryz.f49 rfl) fun F=>wR fun k1=>(F.bx G) fun yy F G=>(F.m) fun F=>(F.m) fun F=>(F.al G Qy.zeroValue30) fun yy F G=>k1<|wR fun k2=>(F.df) fun F=>k2<|wR fun k3=>(F.y (F.lb (G.q 1))) fun F=>(F.k0 G (Z0F x HV.out _ (HX.out.ext (G.e 2)))) fun F G=>(F.al G Qy.zeroValue85) fun yy F G=>(F.sr G 0) fun G=>k3<|wQ fun k4=>Yg ?_
 refine(F.y (F.lb (G.q 0))) fun F=>(F.m) fun F=>(F.k (Z3w x HV.out S HS.out h6 a c _ (HL.out.ext (G.e 3)))) ?_;rintro _ w6 ⟨ma,mc,rfl,om,e9⟩;refine⟨_,rfl,fun F=>?_⟩;replace G:=G.ex e9;rw[←hT,←hTl]at om;rw[←hTl]at F;have hrm:=Lib.hid (Zz (row:=fun t:List Int=>tubR (val t)) om (fun _=>rfl));clear om;replace G:=G.hr [];refine(F.m) fun F=>k4<|wR fun k5=>(F.al G Qy.zeroValue125) @fun n9 w7 _ yy F G=>?_
 have HTs:=Lib.hid (Z0L (X:=[n9]) hrm.out (fun W e=>hrm.out.ext e (by simp;omega)) []);have E9:=(G.e 1).mono (Y:=[n9]) (by simp);have q9:=G.q 0;replace q9:w7.heap[n9]?=some (.cells (Z5K (cT x T) (Z1T (cT x T) ((List.range x.L.length).take 0))) 125 (0,0)):=q9;replace G:=G.rQ 0 q9;clear q9;replace G:=G.ce E9;refine k5<|wQ fun k6=>wR fun k7=>(F.y (F.fd 0)) fun F=>(F.y (F.fd 2)) fun F=>(F.y (F.lc (G.q 3))) fun F=>(F.y F.ln) fun F=>(F.m) fun F=>k7<|Yh<|lpB (F.b [6,7,8,9,22]) (G.b [0,3,4,5,6]) (x.L.length) (fun i Lv Sv W=>Lv=[(23,.int .i64 ((i:Nat):Int))]∧Sv=[.q n9 ((Z5K (cT x T) (Z1T (cT x T) ((List.range x.L.length).take i)))) 125]) ⟨_,_,F.u,G.u,rfl,rfl⟩ ?_
 clear F G;rintro i _ w8 _ _ hi1 ⟨rfl,rfl⟩ F G;replace G:=G.z;refine wR fun k8=>(F.y F.ls) fun F=>k8<|wQ fun k9=>F.ci (fun hc24=>?_) (fun hc24=>?_)
 ·refine Yi<|k9<|wQ fun k10=>Yh<|wR fun k11=>(F.m) fun F=>(F.m) fun F=>k11<|wR fun k12=>(F.m) fun F=>?_
  rw[show (0:Int)=triU (unlP x i T) 0 from rfl]at F;refine k12<|wQ fun k13=>wR fun k14=>(F.m) fun F=>(F.y F.ln) fun F=>(F.m) fun F=>k14<|Yh<|lpB (F.b [6,7,8,9,10,22,23,27]) (G.b [1,2,3,4,5]) (T.length) (fun j Lv Sv W=>Lv=[(11,.int .i64 (triU (unlP x i T) j)),(28,.int .i64 ((j:Nat):Int))]∧Sv=[.q n9 ((Z5K (cT x T) (Z1T (cT x T) ((List.range x.L.length).take i)))) 125]) ⟨_,_,F.u,G.u,rfl,rfl⟩ ?_
  clear F G;rintro j _ w9 _ _ hi2 ⟨rfl,rfl⟩ F G;replace G:=G.z;refine wR fun k15=>(F.y F.ls) fun F=>k15<|wQ fun k16=>F.ci (fun hc29=>?_) (fun hc29=>?_)
  ·refine Yi<|k16<|wQ fun k17=>Yh<|wR fun k18=>(F.m) fun F=>(F.m) fun F=>k18<|wR fun k19=>(F.m) fun F=>(F.m) fun F=>?_
   rw[show triU (unlP x i T) j=triU (unlP x i T) j+rowU (unlP x i T j) 0 by rw[rowU,Int.add_zero]]at F;refine k19<|Yh<|lpB (F.b [6,7,8,9,10,12,22,23,27,28,31]) (G.b [1,2,3,4,5]) (j) (fun k Lv Sv W=>Lv=[(11,.int .i64 (triU (unlP x i T) j+rowU (unlP x i T j) k)),(32,.int .i64 ((k:Nat):Int))]∧Sv=[.q n9 ((Z5K (cT x T) (Z1T (cT x T) ((List.range x.L.length).take i)))) 125]) ⟨_,_,F.u,G.u,rfl,rfl⟩ ?_
   clear F G;rintro k _ w10 _ _ hi3 ⟨rfl,rfl⟩ F G;replace G:=G.z;refine wR fun k20=>(F.y F.ls) fun F=>k20<|wQ fun k21=>F.ci (fun hc33=>?_) (fun hc33=>?_)
   ·refine Yi<|k21<|wQ fun k22=>Yh<|wR fun k23=>(F.m) fun F=>(F.m) fun F=>k23<|wQ fun k24=>(wX 10 G) fun G=>(F.s (F.lb (G.q 2))) fun F=>(F.sm) fun F=>(F.sm) fun F=>(F.sm) fun F=>(F.sx HTs.out j) fun xr25 F=>(F.s (F.lr (xr25 _ (G.e 1)))) fun F=>(F.sm) fun F=>(F.sm) fun F=>(F.sx HTs.out k) fun xr26 F=>(F.s (F.lr (xr26 _ (G.e 1)))) fun F=>wpStill_nil<|(F.k0 G (Z48 x HV.out i (by omega) (val (T.getD j [])) (val (T.getD k [])) (HM.out _ (Z0n [] (by omega))) (HM.out _ (Z0n [] (by omega))) _ (HX.out.ext (G.e 5)))) fun F G=>(F.y F.nb) fun F=>?_
    have hb1:=Z7g (unlP x i T) j (by omega);have hb2:=Z3J (unlP x i T j) k;refine k24<|F.cb (fun hc46=>?_) (fun hc46=>?_)
    ·refine Yg<|(F.m) fun F=>(F.y F.ad) fun F=>(F.m) fun F=>?_
     rw[show triU (unlP x i T) j+rowU (unlP x i T j) k+1=triU (unlP x i T) j+rowU (unlP x i T j) (k+1) by rw[rowU,show unlP x i T j k=true from hc46];simp[bI];omega]at F;refine k22<|Yg<|(F.y F.ad) fun F=>(F.m) fun F=>?_
     show _∧_;exact⟨by omega,_,_,F.u,G.u,rfl,rfl⟩
    ·rw[show triU (unlP x i T) j+rowU (unlP x i T j) k=triU (unlP x i T) j+rowU (unlP x i T j) (k+1) by rw[rowU,show unlP x i T j k=false from hc46];simp[bI]]at F
     refine Yi<|k22<|Yg<|(F.y F.ad) fun F=>(F.m) fun F=>?_
     show _∧_;exact⟨by omega,_,_,F.u,G.u,rfl,rfl⟩
   ·refine wp_exit ?_
    rw[show triU (unlP x i T) j+rowU (unlP x i T j) k=triU (unlP x i T) (j+1) by rw[triU,show k=j by omega]]at F;refine k17<|Yg<|(F.y F.ad) fun F=>(F.m) fun F=>?_
    show _∧_;exact⟨by omega,_,_,F.u,G.u,rfl,rfl⟩
  ·refine wp_exit ?_
   rw[show triU (unlP x i T) j=unN x T i by rw[unN,show T.length=j by omega]]at F;refine k13 ?_;have hub:=Z7g (unlP x i T) T.length (by omega);replace hub:0≤unN x T i∧unN x T i≤6*T.length:=hub;refine Yg<|(F.m) fun F=>(F.m) fun F=>(F.y F.ng) fun F=>(F.y (F.bv #[.int .i64 (-(unN x T i)),.int .i64 0])) fun F=>?_
   have q9:=G.q 0;replace G:=G.d 0;refine(F.k (ZaB (cT x T) n9 (Z1T (cT x T) ((List.range x.L.length).take i)) i _ q9)) ?_;rintro _ w13 ⟨rfl,q9',e9⟩;refine⟨_,rfl,fun F=>?_⟩;replace G:=G.x e9;rw[←Z3m,←take_range (by omega)]at q9';replace q9:=q9';clear q9';replace G:=G.cq q9;refine k10<|Yg<|(F.y F.ad) fun F=>(F.m) fun F=>?_
   show _∧_;exact⟨by omega,_,_,F.u,G.u,rfl,rfl⟩
 ·refine wp_exit ?_
  have q9:=G.q 0;rw[List.take_of_length_le (show (List.range x.L.length).length≤i by rw[List.length_range];omega)]at q9;replace G:=G.rQ 0 q9;clear q9;refine k6<|wQ fun k27=>wQ fun k28=>?_
  by_cases hN:Z1T (cT x T) (List.range x.L.length)=none
  ·have q9:=G.q 0
   replace q9:w8.heap[n9]?=some (.cells #[.int .i64 0,.int .i64 0,.int .i64 0,.bool false] 125 (0,0)):=by rw[hN]at q9;exact q9
   replace G:=G.rQ 0 q9;clear q9;refine Yg<|(F.y (F.fd 1)) fun F=>?_
   refine(F.y ((Z1K (n:=2) (sz:=1) rfl (F.at rfl) rfl Qy.underlying123 (by kernel_rfl) (by omega) (by omega)))) fun F=>(F.y (F.lc (G.q 0))) fun F=>(F.y F.eqT) fun F=>k28<|(F.cT)<|wR fun k29=>(F.m) fun F=>(F.m) fun F=>?_
   have E9:=G.e 1;replace G:=G.d 1;refine(F.st G 2) fun G=>k29<|wp_ret ?_
   (try simp only[Exit.inBlock,Exit.then,reduceIte])
   refine Z3K F<|ZN<|Z1A (Zd1 F rfl rfl rfl rfl Qy.underlying30 rfl (G.q 2)) ?_
   rw[←hT,telR,hN];exact⟨rfl,(G.e 4)⟩
  ·obtain⟨n,hn⟩:=Option.ne_none_iff_exists'.1 hN
   have hub:=Z7g (unlP x n T) T.length (by omega);replace hub:0≤unN x T n∧unN x T n≤6*T.length:=hub;have q9:=G.q 0;replace q9:w8.heap[n9]?=some (.cells #[.int .i64 ((n:Nat):Int),.int .i64 (-unN x T n),.int .i64 0,.bool true] 125 (0,0)):=by rw[hn]at q9;exact q9
   replace G:=G.rQ 0 q9;clear q9;refine Yg<|(F.y (F.fd 1)) fun F=>?_
   refine(F.y ((Z1K (n:=2) (sz:=1) rfl (F.at rfl) rfl Qy.underlying123 (by kernel_rfl) (by omega) (by omega)))) fun F=>(F.y (F.lc (G.q 0))) fun F=>(F.y F.eq) fun F=>k28<|F.ci (fun hc60=>?_) (fun hc60=>?_)
   ·refine wR fun k30=>(F.m) fun F=>(F.m) fun F=>?_
    have E9:=G.e 1;replace G:=G.d 1;refine(F.st G 2) fun G=>k30<|wp_ret ?_
    (try simp only[Exit.inBlock,Exit.then,reduceIte])
    refine Z3K F<|ZN<|Z1A (Zd1 F rfl rfl rfl rfl Qy.underlying30 rfl (G.q 2)) ?_
    rw[←hT,telR,hn];simp only[show unN x T n=0 by omega,if_true];exact⟨trivial,(G.e 4)⟩
   ·refine Yi<|k27<|wQ fun k31=>(wX 8 G) fun G=>(F.s (F.fd 0)) fun F=>(F.s (F.lc (G.q 0))) fun F=>(F.s (F.fd 1)) fun F=>?_
    refine(F.s ((Z1K (n:=2) (sz:=1) rfl (F.at rfl) rfl Qy.underlying123 (by kernel_rfl) (by omega) (by omega)))) fun F=>(F.s (F.lc (G.q 0))) fun F=>(F.s F.ng) fun F=>(F.sm) fun F=>(F.sm) fun F=>wpStill_nil ?_;replace G:=G.d 1;refine(F.st G 2) fun G=>k31<|wp_ret ?_
    (try simp only[Exit.inBlock,Exit.then,reduceIte])
    refine Z3K F<|ZN<|Z1A (Zd1 F rfl rfl rfl rfl Qy.underlying30 rfl (G.q 2)) ?_
    rw[←hT,telR,hn];simp only[show ¬unN x T n=0 by omega,if_false];refine⟨?_,(G.e 4)⟩;rw[Int.neg_neg]
variable{μ:Nat}
section
variable{P:Program}{ρ:Operand→Value}{o:Oper}{w:World}
theorem Zkl{n: Int}(ho:o.op = .binOp .and t x y t')(hx:ρ x = .int k n)(hy:ρ y = .int k m): (execOp ρ o).run P w = .ok (.value (.int k (bits .and k n m))) w:=by
 unfold execOp;simp[ho,hx,hy,binOp,Op.intBits,eqGuard,go_sem]
 rfl
theorem R_or{n: Int}(ho:o.op = .binOp .or t x y t')(hx:ρ x = .int k n)(hy:ρ y = .int k m): (execOp ρ o).run P w = .ok (.value (.int k (bits .or k n m))) w:=by
 unfold execOp;simp[ho,hx,hy,binOp,Op.intBits,eqGuard,go_sem]
 rfl
theorem ZiB{k': IntKind}{n:Int}{m:Nat}(ho:o.op = .binOp .shl t x y t')(hx:ρ x = .int k n)(hy:ρ y = .int k' m): (execOp ρ o).run P w = .ok (.value (.int k (k.wrap (n*2 ^ min m k.bits)))) w:=by
 unfold execOp;have hm:¬((m:Int)<0):=by omega
 simp[ho,hx,hy,binOp,Op.shift,eqGuard,hm,go_sem]
theorem Zaf{s:ByteArray}{i:Int}{b:UInt8}(ho:o.op = .index t (.const (.string s)) y)(hx:ρ (.const (.string s)) = .string s)(hy:ρ y = .int k i)(hu:P.underlying t=some .string)(h0:0≤i)(hb:s[i.toNat]?=some b): (execOp ρ o).run P w = .ok (.value (.int .u8 b.toNat)) w:=by
 unfold execOp;simp[ho,hx,hy,Instr.index,asIntOf,run_underlying hu,h0,hb,go_sem]
end
theorem has8:∀s,s<64→∀n,n<8→bits .and .u8 (((s:Nat):Int).fdiv (2 ^ min n IntKind.u8.bits)) 1=if s.testBit n then 1 else 0:=by decide +kernel
theorem shl8:∀n,n<7→IntKind.u8.wrap (1*2 ^ min n IntKind.u8.bits)=((2 ^ n:Nat):Int):=by decide +kernel
theorem or8:∀s,s<64→∀n,n<6→bits .or .u8 ((s:Nat):Int) ((2 ^ n:Nat):Int)=((s ||| 2 ^ n:Nat):Int):=by decide +kernel
def subB(s f:Nat):Bool:=(List.range 6).all fun n=>!s.testBit n||f.testBit n
theorem not8:∀s,s<64→∀f,f<64→decide (bits .andNot .u8 ((s:Nat):Int) ((f:Nat):Int)=0)=subB s f:=by decide +kernel
theorem Zl3:∀s,s<64→∀n,n<6→s ||| 2 ^ n<64:=by decide +kernel
theorem add8:∀s,s<64→IntKind.u8.wrap (((s:Nat):Int)+1)=((s+1:Nat):Int):=by decide +kernel
def Zl(s:Nat):List Int:=((List.range 6).filter s.testBit).map fun n=>((n:Nat):Int)
def Z06(s:Nat):Nat:=((List.range 6).filter s.testBit).length
theorem Zjc(s n:Nat)(hs:s<64)(hn:n<8)(w:World):Calls (Qy.prog μ) 120 #[.int .u8 ((s:Nat):Int),.int .i64 ((n:Nat):Int)] w fun e w'=>e = .returned (.bool (s.testBit n))∧Ext [] w w':=by
 have E:Ext [] w w:=Ext.refl _ _;have G:=(Bk.nil w).ce E;refine(ent 10 Tryz.f120 rfl) fun F=>wR fun k1=>(F.m) fun F=>k1<|wR fun k2=>(F.m) fun F=>(F.m) fun F=>?_
 refine(F.y ((Z8d rfl (F.at rfl) (F.at rfl)))) fun F=>?_;refine(F.y ((Zkl rfl (F.at rfl) (ev_c _ _)))) fun F=>(F.y F.eq) fun F=>(F.m) fun F=>k2<|(F.r1) ?_
 exact⟨Z0J (by rw[has8 s hs n hn];cases s.testBit n<;>rfl),(G.e 0)⟩
theorem Z5h{s k:Nat}(h:k<6): (((List.range 6).take (k+1)).filter s.testBit)=((List.range 6).take k).filter s.testBit++if s.testBit k then[k] else[]:=by
 rw[take_range h,List.filter_append]
 by_cases hb:s.testBit k=true<;>simp[hb]
theorem Z6O(s:Nat)(hs:s<64)(w:World):Calls (Qy.prog μ) 74 #[.int .u8 ((s:Nat):Int)] w fun e w'=>∃a c,e = .returned (.slice a (Zl s).length c)∧w'.ownsRow w.heap.size 3 1 (.slice a (Zl s).length c) (Zl s).length (ivs (Zl s))∧Ext [] w w':=by
 have E:Ext [] w w:=Ext.refl _ _;have oo:w.ownsRow w.heap.size 3 1 (.slice none 0 0) 0 (ivs ((((List.range 6).take 0).filter s.testBit).map fun n=>((n:Nat):Int))):=World.ownsRow_nil _ _ _ _;have G:=(Bk.nil w).ce E;replace G:=G.co oo;refine(ent 17 Tryz.f74 rfl) fun F=>wR fun k1=>(F.m) fun F=>k1<|wR fun k2=>(F.m) fun F=>k2<|wQ fun k3=>wR fun k4=>(F.m) fun F=>k4<|Yh<|lpB (F.b [0]) (G.b [1]) (6) (fun i Lv Sv W=>∃va:Option Addr,∃k:Nat,∃vc:Nat,Lv=[(3,.slice va k vc),(5,.int .i64 ((i:Nat):Int))]∧Sv=[]∧W.ownsRow w.heap.size 3 1 (.slice va k vc) k (ivs ((((List.range 6).take i).filter s.testBit).map fun n=>((n:Nat):Int)))∧k=((((List.range 6).take i).filter s.testBit).map fun n=>((n:Nat):Int)).length∧k≤i) ⟨_,_,F.u,G.u,none,0,0,rfl,rfl,(G.o 0),rfl,(Ye _)⟩ ?_
 clear F G;rintro i _ w1 _ _ hi1 ⟨va,k,vc,rfl,rfl,oo,hkl,hk6⟩ F G;replace G:=(G.z).co oo;refine wR fun k5=>(F.y F.ls) fun F=>k5<|wQ fun k6=>F.ci (fun hc6=>?_) (fun hc6=>?_)
 ·refine Yi<|k6<|wQ fun k7=>Yh<|wR fun k8=>(F.m) fun F=>(F.m) fun F=>k8<|wR fun k9=>(F.m) fun F=>(F.m) fun F=>(F.k0 G (Zjc s i hs (by omega) _)) fun F G=>k9<|F.cb (fun hc10=>?_) (fun hc10=>?_)
  ·have hst:=Z5h (s:=s) (show i<6 by omega)
   rw[if_pos hc10]at hst;refine Yg<|(F.m) fun F=>(F.m) fun F=>(F.bs G 1 #[.int .i64 ((i:Nat):Int)] Qy.zeroValue3) fun yy F G=>?_
   have hEs:=(G.e 2).size;refine ZD F rfl (by decide) (F.want rfl) (ZI rfl (w.heap.size) (e:=3) (size:=1) (bytes:=8) Qy.underlying22 (by kernel_rfl) (by decide) (F.at rfl) (G.o 1) (F.at rfl) (G.q 0) rfl (by simp[Value.oneCell']) (by omega) (by omega) (by omega)) ?_;clear F;rintro _ v' w4 F ⟨hown',hg⟩;obtain⟨va14,vc14,rfl⟩:=Zo hown';replace G:=(G.d 0).gr 0 hg hown';clear hg hown';have oo:=G.o 0;rw[Z1x,show ((((List.range 6).take i).filter s.testBit).map fun n=>((n:Nat):Int))++[((i:Nat):Int)]=(((List.range 6).take (i+1)).filter s.testBit).map fun n=>((n:Nat):Int) by rw[hst,List.map_append];rfl]at oo;replace hkl:k+1=((((List.range 6).take (i+1)).filter s.testBit).map fun n=>((n:Nat):Int)).length:=by rw[hst,List.map_append,Ym,←hkl];rfl
   replace G:=G.rO 0 oo;clear oo;refine(F.m) fun F=>k7<|Yg<|(F.y F.ad) fun F=>(F.m) fun F=>?_
   show _∧_;exact⟨by omega,_,_,F.u,G.u,_,_,_,rfl,rfl,(G.o 0),hkl,(by omega)⟩
  ·have hst:=Z5h (s:=s) (show i<6 by omega)
   rw[if_neg (by rw[hc10];decide),List.append_nil]at hst;have oo:=G.o 0;rw[←hst]at oo hkl;replace G:=G.rO 0 oo;clear oo;refine Yi<|k7<|Yg<|(F.y F.ad) fun F=>(F.m) fun F=>?_
   show _∧_;exact⟨by omega,_,_,F.u,G.u,_,_,_,rfl,rfl,(G.o 0),hkl,(by omega)⟩
 ·refine wp_exit ?_
  have oo:=G.o 0;rw[List.take_of_length_le (show (List.range 6).length≤i by rw[List.length_range];omega)]at oo hkl;replace hkl:k=(Zl s).length:=hkl;replace oo:w1.ownsRow w.heap.size 3 1 (.slice va k vc) k (ivs (Zl s)):=oo;replace G:=G.rO 0 oo;clear oo;refine k3<|wR fun k10=>(F.m) fun F=>(F.m) fun F=>k10<|(F.r1) ?_
  rw[←hkl];have oo:=G.o 0;exact⟨va,vc,rfl,oo,(G.e 1)⟩
def ZjF:ByteArray:={data:=(([0,1,1,2,1,2,2,3,1,2,2,3,2,3,3,4,1,2,2,3,2,3,3,4,2,3,3,4,3,4,4,5,1,2,2,3,2,3,3,4,2,3,3,4,3,4,4,5,2,3,3,4,3,4,4,5,3,4,4,5,4,5,5,6].append [1,2,2,3,2,3,3,4,2,3,3,4,3,4,4,5,2,3,3,4,3,4,4,5,3,4,4,5,4,5,5,6,2,3,3,4,3,4,4,5,3,4,4,5,4,5,5,6,3,4,4,5,4,5,5,6,4,5,5,6,5,6,6,7]).append ([1,2,2,3,2,3,3,4,2,3,3,4,3,4,4,5,2,3,3,4,3,4,4,5,3,4,4,5,4,5,5,6,2,3,3,4,3,4,4,5,3,4,4,5,4,5,5,6,3,4,4,5,4,5,5,6,4,5,5,6,5,6,6,7].append [2,3,3,4,3,4,4,5,3,4,4,5,4,5,5,6,3,4,4,5,4,5,5,6,4,5,5,6,5,6,6,7,3,4,4,5,4,5,5,6,4,5,5,6,5,6,6,7,4,5,5,6,5,6,6,7,5,6,6,7,6,7,7,8])).toArray}
theorem ZhE:∀s,s<64→ZjF[(((s:Nat):Int)).toNat]?=some (UInt8.ofNat (Z06 s)):=by decide +kernel
theorem ZeH:∀s,s<64→IntKind.i64.wrap (((UInt8.ofNat (Z06 s)).toNat:Nat):Int)=((Z06 s:Nat):Int):=by decide +kernel
theorem ZeG(s:Nat)(hs:s<64)(w:World):Calls (Qy.prog μ) 121 #[.int .u8 ((s:Nat):Int)] w fun e w'=>e = .returned (.int .i64 ((Z06 s:Nat):Int))∧Ext [] w w':=by
 have E:Ext [] w w:=Ext.refl _ _;have G:=(Bk.nil w).ce E;refine(ent 6 Tryz.f121 rfl) fun F=>wR fun k1=>(F.m) fun F=>k1<|wR fun k2=>(F.m) fun F=>?_
 refine(F.y ((Zaf (s:=ZjF) rfl (ev_c _ _) (F.at rfl) Qy.underlying9 (by omega) (ZhE s hs)))) fun F=>?_;refine(F.y ((Z31 rfl (F.at rfl) Qy.underlying5 Qy.underlying3))) fun F=>(F.m) fun F=>k2<|(F.r1) ?_
 exact⟨Zi (ZeH s hs),(G.e 0)⟩
theorem Z4e(s:Nat)(hs:s<64)(w:World):Calls (Qy.prog μ) 75 #[.int .u8 ((s:Nat):Int)] w fun e w'=>e = .returned (.int .i64 ((Z06 s:Nat):Int))∧Ext [] w w':=by
 have E:Ext [] w w:=Ext.refl _ _;have G:=(Bk.nil w).ce E;refine(ent 5 Tryz.f75 rfl) fun F=>wR fun k1=>(F.m) fun F=>k1<|wR fun k2=>(F.m) fun F=>(F.k0 G (ZeG s hs _)) fun F G=>(F.m) fun F=>k2<|(F.r1) ?_
 exact⟨rfl,(G.e 0)⟩
variable{μ:Nat}
def Zs(w:World)(v:Value)(n:Nat):Prop:=∀g c i,v = .slice (some ⟨g,0,none⟩) n c→n≤i→i<c→w.cell? ⟨g,i,none⟩=some (.int .i64 0)
theorem Zgo(w:World):Zs w (.slice none 0 0) 0:=fun g c i h=>by cases h
theorem Zad(h:Zs w v n)(E:Ext [] w w'): Zs w' v n:=fun g c i e h1 h2=>by
 have k:=h g c i e h1 h2;rw[←k];exact E.cell (a:=⟨g,i,none⟩) (@Z0G Lift.jkN _ _ _ _ k).1 (by simp)
theorem Zac(h:i<n): (Builtin.zeroCells #[Value.int .i64 0] n)[i]?=some (.int .i64 0):=by
 have e:(Builtin.zeroCells #[Value.int .i64 0] n)=(Array.range (n*1)).map fun i=>(#[Value.int .i64 0])[i % 1]!:=rfl;rw[e,Array.getElem?_map,Y2 (by simpa using h)];simp[Nat.mod_one]
theorem Z8a{g:Nat}{a:Array Value}{c: Nat}{fz:Nat×Nat}(hg:w.heap[g]?=some (.cells (a++Builtin.zeroCells #[Value.int .i64 0] (c-n)) e fz))(ha:a.size=n)(h1:n≤i)(h2:i<c): w.cell? ⟨g,i,none⟩=some (.int .i64 0):=by
 rw[World.cell?];simp only[hg,Option.isSome_none,Bool.false_eq_true,if_false];rw[Array.getElem?_append_right (by omega),ha];exact Zac (by omega)
theorem Z4B{P:Program}{o:Oper}{a:Act}{s: Operand}(ho:o.op = .call {callee:=.builtin .append,args:=#[s,x],argTypes:=#[t,t]})(base:Nat)(ht:P.underlying t=some (.slice e))(hi:(P.info? e).map (fun i=>(i.size,i.bytes,i.zero.map (·.cells)))=some (1,8,some #[Value.int .i64 0])){xs:List Value}(hs:a.eval s=v)(hown:w.ownsRow base e 1 v n xs)(hz:Zs w v n){g c:Nat}{T:TypeId}{fz:Nat×Nat}{u:Value}(hx:a.eval x = .slice (some ⟨g,0,none⟩) 1 c)(hg:w.heap[g]?=some (.cells [u].toArray T fz))(h1:u.oneCell'=true)(hn:n≤1000000)(hbase:base≤w.heap.size):
  ∃v' w',(execOp a.eval o).run P w = .ok (.value v') w'∧w'.ownsRow base e 1 v' (n+1) (xs++[u])∧w.grownBy w' v.ownBlock∧Zs w' v' (n+1):=by
 cases hq:P.info? e with
 | none=>simp[hq]at hi
 | some i =>
  simp only[hq,Option.map_some,Y4,Y9,Y3]at hi;obtain⟨hi1,hi2,z,hz1,hz2⟩:=hi;have hnews:∀j y,[u][j]?=some y→w.cell? ((⟨g,0,none⟩:Addr).add j)=some y:=fun j y hy=>by
   rw[Addr.add_lit,Nat.zero_add,Z0 hg];simpa using hy
  have h1':∀y∈[u],y.oneCell'=true:=by simpa using h1
  have hb:(n+1)*8≤140737488355328:=by omega
  obtain⟨v',w',hr,h2,h3,-⟩:=run_append_own (P:=P) w base t o.type e i z 1 8 ht hq hz1 hi1 hi2 (by rw[hz2];rfl) (by omega) v n xs hown ⟨g,0,none⟩ 1 c [u] (by simp) hnews h1' (by simp only[maxLen];omega) hb hbase;refine⟨v',w',?_,h2,h3,?_⟩
  ·unfold execOp
   simp only[ho,resolve,invoke,builtin,Sem.run_bind,Sem.run_pure,Result.andThen_ok,List.map_toArray,List.map_cons,List.map_nil,hs,hx,hr]
  ·have hl:xs.length=n:=by have:=hown.1;omega
   rcases hown.2 with⟨rfl,rfl⟩ | ⟨g0,cap,cur,rfl,hbg,hg0,hnc,hcm,hcs,htake⟩
   ·have hr2:=run_append_nil (P:=P) w t o.type e i z ht hq hz1 ⟨g,0,none⟩ 1 c [u] (by simp[hi1]) hnews (by omega) (by omega) (by omega)
    have:=hr.symm.trans hr2
    injection this with e1 e2
    subst e1 e2;intro g' c' j e h4 h5;simp only[Value.slice.injEq,Y4,Addr.mk.injEq]at e;obtain⟨⟨rfl,_⟩,_,rfl⟩:=e;rw[hz2]at *;exact Z8a (heap_alloc_new _ _) (by simp) (by omega) h5
   ·by_cases hroom:n+1≤cap
    ·have hr2:=run_append_room (P:=P) w t o.type e i ht hq g0 n cap cur hg0 ⟨g,0,none⟩ 1 c [u] (by simp[hi1]) hnews h1' hroom (by simp only[hi1,hcs,List.length_singleton];omega)
     have:=hr.symm.trans hr2
     injection this with e1 e2
     subst e1 e2;intro g' c' j e h4 h5;simp only[Value.slice.injEq,Y4,Addr.mk.injEq]at e;obtain⟨⟨rfl,_⟩,_,rfl⟩:=e;have hk:=hz g0 cap j rfl (by omega) h5;rw[World.cell?]at hk⊢;rw[setRow_heap _ _ _ _ _ _ hg0];rw[hg0]at hk;simp only[Option.isSome_none,Bool.false_eq_true,if_false]at hk⊢;rw[List.getElem?_toArray,List.append_assoc,List.getElem?_append_right (by simp only[List.length_take,hi1];omega),List.getElem?_append_right (by simp only[List.length_take,List.length_singleton,hi1,Array.length_toList,hcs];omega),List.getElem?_drop];rw[show n*i.size+[u].length+(j-(List.take (n*i.size) cur.toList).length-[u].length)=j by simp only[List.length_take,List.length_singleton,hi1,Array.length_toList,hcs];omega];simpa using hk
    ·have holds:∀j y,xs[j]?=some y→w.cell? ((⟨g0,0,none⟩:Addr).add j)=some y:=hown.cells (g:=g0) rfl
     have hcc:cap=n:=by omega
     have hr2:=run_append_grow (P:=P) w t o.type e i z ht hq hz1 ⟨g0,0,none⟩ n cap xs (by rw[hi1];omega) holds ⟨g,0,none⟩ 1 c [u] (by simp[hi1]) hnews (by omega) (by omega) (growslice_fits (by omega) (by rw[hi2];exact hb));have:=hr.symm.trans hr2
     injection this with e1 e2
     subst e1 e2;intro g' c' j e h4 h5;simp only[Value.slice.injEq,Y4,Addr.mk.injEq]at e;obtain⟨⟨rfl,_⟩,_,rfl⟩:=e;rw[hz2]at *;exact Z8a (heap_alloc_new _ _) (by simp;omega) (by omega) h5
def IntR(base:Nat)(w:World)(l:List Int)(v:Value):Prop:=
 (l=[]∧v = .slice none 0 0)∨∃g c,l≠[]∧v = .slice (some ⟨g,0,none⟩) l.length c∧base≤g∧l.length≤c∧c≤maxLen∧w.heap[g]?=some (.cells (ivs l++List.replicate (c-l.length) (Value.int .i64 0)).toArray 3 (0,0))
theorem ZfY{c: Nat}{va:Option Addr}{l:List Int}(h:w.ownsRow base 3 1 (.slice va n c) n (ivs l))(z:Zs w (.slice va n c) n)(hn:n=l.length)(h0:n=0→va=none): IntR base w l (.slice va n c):=by
 subst hn
 rcases h.2 with⟨e,h2⟩ | ⟨g,cap,cur,e,hb,hg,hnc,hcm,hcs,ht⟩
 ·simp only[Value.slice.injEq]at e
  obtain⟨rfl,hl,rfl⟩:=e;refine .inl ⟨List.length_eq_zero_iff.1 hl,by rw[hl]⟩
 ·simp only[Value.slice.injEq]at e
  obtain⟨rfl,_,rfl⟩:=e;refine .inr ⟨g,c,fun e=>?_,rfl,hb,hnc,hcm,?_⟩
  ·have:=h0 (by rw[e];rfl)
   cases this
  ·rw[hg]
   have hcl:cur.toList.length=c:=by rw[Array.length_toList,hcs];omega
   have hil:(ivs l).length=l.length:=by simp[ivs]
   have:cur=(ivs l++List.replicate (c-l.length) (Value.int .i64 0)).toArray:=by
    apply Array.ext';rw[←ht];apply List.ext_getElem?;intro i
    rcases Nat.lt_or_ge i l.length with hi | hi
    ·rw[List.getElem?_append_left (by rw[List.length_take,hcl];simp only[Nat.mul_one];omega),List.getElem?_take,if_pos (by simp only[Nat.mul_one];omega)]
    ·have hlt:(List.take (l.length*1) cur.toList).length=l.length:=by rw[List.length_take,hcl,Nat.mul_one];omega
     rw[List.getElem?_append_right (by rw[hlt];exact hi),hlt]
     rcases Nat.lt_or_ge i c with h2 | h2
     ·have:=z g c i rfl hi h2
      rw[World.cell?]at this;rw[hg]at this;simp only[Option.isSome_none,Bool.false_eq_true,if_false]at this;rw[Array.getElem?_toList,this,List.getElem?_replicate,if_pos (by omega)]
     ·rw[List.getElem?_eq_none (by rw[hcl];omega),List.getElem?_eq_none (by rw[List.length_replicate];omega)]
   rw[this]
end
section
open Go.RowKit Ev
variable{μ:Nat}
def Zw(n:Nat)(β:Nat→Bool):List Int:=((List.range n).filter β).map fun k=>((k:Nat):Int)
theorem Z3e{k: Nat}(h:k<n): (((List.range n).take (k+1)).filter β)=((List.range n).take k).filter β++if β k then[k] else[]:=by
 rw[List.take_range,List.take_range,Nat.min_eq_left (by omega),Nat.min_eq_left (by omega),List.range_succ,List.filter_append]
 cases h:β k<;>simp[h]
def UnR(w:World)(l:List Int)(e:Ending)(w':World):Prop:=∃v,e = .returned v∧IntR w.heap.size w' l v∧Ext [] w w'
theorem Zi5(n:Nat)(hn:n≤3)(β:Nat→Bool)(n7 n16:Nat)(T:TypeId)(fz fz':Nat×Nat)(w:World)(fa:Act)(F:Has 42 [] fa [(7,pt n7),(9,.slice none 0 0)])(q7:w.heap[n7]?=some (.cells #[.slice (some ⟨n16,0,none⟩) n n] T fz))(q16:∀k,k<n→w.cell? ⟨n16,k,none⟩=some (.bool (β k)))(h16:n16<w.heap.size):
  Code.wp (Qy.prog 2) (sqR (sqR Z6h)) (bodyPost (Qy.prog 2) Tryz.f66 fun e w'=>UnR w (Zw n β) e w') fa w:=by
 have E:Ext [] w w:=Ext.refl _ _;have HS:Hid (SlAt [] w (some ⟨n16,0,none⟩) 1 n (fun i=>[.bool (β i)])):=by
  refine Lib.hid ((@ZZ Lift.jkN _ _ _ _).2 fun i hi=>⟨_,_,rfl,?_⟩);have:=q16 i hi;simpa using this
 have oo:w.ownsRow w.heap.size 3 1 (.slice none 0 0) 0 (ivs ((((List.range n).take 0).filter β).map fun n=>((n:Nat):Int))):=World.ownsRow_nil _ _ _ _;have zz:Zs w (.slice none 0 0) 0:=Zgo w;refine wS fun K1 hK1=>wS fun K2 hK2=>?_;refine Yg ?_;refine F.vl (ZE rfl (F.at rfl) Qy.underlying151 rfl ((Z0 q7 0).trans (get0))) fun fa F=>?_;refine F.vl (Z66 rfl rfl (F.at rfl) Qy.underlying151) fun fa F=>?_;refine F.vl (Z1q rfl (ev_c fa _)) fun fa F=>?_;refine wN<|hK2 _ _ ?_
 refine Yh ?_;have F0:=F.sub (.c 28 rfl (.c 29 rfl .n));refine Z7J F0 (n) (fun i Lv W=>∃va:Option Addr,∃k:Nat,∃vc:Nat,Lv=[(9,.slice va k vc),(30,.int .i64 ((i:Nat):Int))]∧Ext [] w W∧W.ownsRow w.heap.size 3 1 (.slice va k vc) k (ivs ((((List.range n).take i).filter β).map fun n=>((n:Nat):Int)))∧k=((((List.range n).take i).filter β).map fun n=>((n:Nat):Int)).length∧k≤i∧Zs W (.slice va k vc) k∧(k=0→va=none)) ⟨_,⟨none,0,0,rfl,E,oo,rfl,(Ye _),zz,(fun _=>rfl)⟩,F.sub (.c 9 rfl (.c 30 rfl (.c 28 rfl (.c 29 rfl .n))))⟩ ?_;clear F F0;clear E;clear oo;rintro i _ fa w1 hi1 ⟨va,k,vc,rfl,E,oo,hkl,hk6,zz,hz0⟩ F;refine wS fun K3 hK3=>?_;refine Yg ?_;refine F.vl (Z7o rfl (F.at rfl) (F.at rfl)) fun fa F=>?_;refine wN<|hK3 _ _<|wS fun K4 hK4=>?_
 refine ZbD F rfl (fun hc31=>?_) (fun hc31=>?_)
 ·skip
  refine Yi ?_;refine hK4 _ _<|wS fun K5 hK5=>?_
  refine Yh ?_;refine wS fun K6 hK6=>?_;refine Yg ?_;refine F.mv fun fa F=>?_;obtain⟨xb7,xo7,xa7,xr7⟩:=HS.out i (by omega);refine F.vl (Z7n (sz:=1) rfl ((F.at rfl).trans (xa7 _ _)) (F.at rfl) Qy.underlying151 (by kernel_rfl) (by omega) (by omega)) fun fa F=>?_;refine F.vl (ZE rfl (F.at rfl) Qy.underlying4 rfl (xr7 _ E 0 _ rfl)) fun fa F=>?_;refine F.as fun fa F=>?_;refine F.as fun fa F=>?_;refine wN<|hK6 _ _<|wS fun K8 hK8=>?_
  refine Yg ?_;refine F.mv fun fa F=>?_;refine wN<|hK8 _ _ ?_
  refine cd_b F rfl (fun hc35=>?_) (fun hc35=>?_)
  ·skip
   have hst:=Z3e (β:=β) (show i<n by omega);rw[if_pos hc35]at hst;refine Yg ?_;refine F.mv fun fa F=>?_;refine F.mv fun fa F=>?_;refine sqN F (ZX rfl (prS (F.at rfl) pr0) Qy.underlying22 (size:=1) (by kernel_rfl) (by decide) (by decide) Qy.zeroValue3 (cells:=#[.int .i64 ((i:Nat):Int)]) (by kernel_rfl)) fun fa w2 F hw=>?_;obtain⟨n38,hn⟩:=eQ w1.heap.size;rw[←hn]at F;have s38:=sQ hn;have l38_E:=lQ hn E.size;have o38_oo:=Lib.hid (Z0h oo hn);replace oo:=ZY hw oo;replace zz:=Zad zz (Z6 (Ext.refl [] _) hw);replace E:=Z6 E hw;have q38:=Z05 hw hn;clear hw hn;have hEs:=E.size;refine ZD F rfl (by decide) rfl (Z4B rfl (w.heap.size) (e:=3) Qy.underlying22 (by kernel_rfl) (F.at rfl) oo zz (F.at rfl) q38 rfl (by omega) (by omega)) ?_;clear F fa;rintro fa v' w3 F ⟨hown',hg,hzz⟩;obtain⟨va39,vc39,rfl⟩:=Zo hown';replace E:=Z0v E oo hg (by omega);replace oo:=hown';replace zz:=hzz;clear hg;rw[Z1x,show ((((List.range n).take i).filter β).map fun n=>((n:Nat):Int))++[((i:Nat):Int)]=(((List.range n).take (i+1)).filter β).map fun n=>((n:Nat):Int) by rw[hst,List.map_append];rfl]at oo;replace hkl:k+1=((((List.range n).take (i+1)).filter β).map fun n=>((n:Nat):Int)).length:=by rw[hst,List.map_append,Ym,←hkl];rfl
   refine F.as fun fa F=>?_;refine wN<|hK5 _ _ ?_
   refine Yg ?_;refine F.vl (Z65 rfl (F.at rfl) (ev_c fa _) (by omega) (by omega)) fun fa F=>?_;refine F.mv fun fa F=>?_;refine wpList_nil ?_;show _∧_;exact⟨by omega,_,⟨_,_,_,rfl,E,oo,hkl,(by omega),zz,(fun h=>by first | exact absurd h (by omega) | exact hz0 h)⟩,F.sub (.c 9 rfl (.c 30 rfl (.c 28 rfl (.c 29 rfl .n))))⟩
  ·skip
   have hst:=Z3e (β:=β) (show i<n by omega);rw[if_neg (by rw[hc35];decide),List.append_nil]at hst;rw[←hst]at oo hkl;refine Yi ?_;refine hK5 _ _ ?_;refine Yg ?_;refine F.vl (Z65 rfl (F.at rfl) (ev_c fa _) (by omega) (by omega)) fun fa F=>?_;refine F.mv fun fa F=>?_;refine wpList_nil ?_;show _∧_;exact⟨by omega,_,⟨_,_,_,rfl,E,oo,hkl,(by omega),zz,(fun h=>by first | exact absurd h (by omega) | exact hz0 h)⟩,F.sub (.c 9 rfl (.c 30 rfl (.c 28 rfl (.c 29 rfl .n))))⟩
 ·skip
  refine wp_exit ?_;rw[List.take_of_length_le (show (List.range n).length≤i by rw[List.length_range];omega)]at oo hkl;replace zz:Zs w1 (.slice va k vc) k:=zz;replace hkl:k=(Zw n β).length:=hkl;replace oo:w1.ownsRow w.heap.size 3 1 (.slice va k vc) k (ivs (Zw n β)):=oo;refine hK1 _ _<|wS fun K9 hK9=>?_
  refine Yg ?_;refine F.mv fun fa F=>?_;refine F.as fun fa F=>?_;refine wN<|hK9 _ _ ?_
  refine wp_ret ?_
  (try simp only[Exit.inBlock,Exit.then,reduceIte])
  refine rt_v F (rs_1 F rfl rfl) ?_;exact⟨_,rfl,ZfY oo zz hkl hz0,E⟩
variable{μ:Nat}
theorem Qy.ntmps187:Qy.f187.ntmps=14:=rfl
theorem Zfw(x:Vm)(hx:x.L.length≤3)(cf:FuncId)(us:Array Value)(β:Nat→Bool)(hcf:∀args w,(callFunc cf args).run (Qy.prog 0) w = .ok (.enter cf args) w)(w:World)
  (hask:∀k,k<x.L.length→∀W,Ext [] w W→Calls (Qy.prog 0) cf (#[]++[.int .i64 ((k:Nat):Int)].toArray++us) W fun e w'=>e = .returned (.bool (β k))∧Ext [] W w') :
  Calls (Qy.prog 0) 66 #[x.val,.func (.func cf) #[] us] w fun e w'=>UnR w (Zw x.L.length β) e w':=by
 have E:Ext [] w w:=Ext.refl _ _;have HA:=Lib.hid hask;have HF:=Lib.hid hcf;clear hask hcf;unfold Vm.val;have oo:w.ownsRow w.heap.size 3 1 (.slice none 0 0) 0 (ivs ((((List.range x.L.length).take 0).filter β).map fun n=>((n:Nat):Int))):=World.ownsRow_nil _ _ _ _;have zz:Zs w (.slice none 0 0) 0:=Zgo w;refine Z0m 14 Qy.func66 rfl Qy.ntmps187 (Nat.le_of_ble_eq_true rfl) ?_;intro fa F;refine wS fun K1 hK1=>?_;refine Yg ?_;refine sqN F (Z30 rfl (F.at rfl)) fun fa w1 F hw=>?_;obtain⟨n2,hn⟩:=eQ w.heap.size;rw[←hn]at F;have s2:=sQ hn;have l2_E:=lQ hn E.size;have o2_oo:=Lib.hid (Z0h oo hn);replace oo:=ZY hw oo;replace zz:=Zad zz (Z6 (Ext.refl [] _) hw);replace E:=Z6 E hw;have q2:=Z02 hw hn;clear hw hn;refine F.vl (ZQ rfl (F.at rfl) Qy.underlying85 rfl (n:=0) (sz:=4) rfl (by kernel_rfl) (by decide)) fun fa F=>?_;refine F.vl (ZQ rfl (F.at rfl) Qy.underlying27 rfl (n:=2) (sz:=1) rfl (by kernel_rfl) (by decide)) fun fa F=>?_;refine F.vl (ZE rfl (F.at rfl) Qy.underlying25 rfl ((Z0 q2 2).trans (getS (getS (get0))))) fun fa F=>?_;refine F.vl (Z66 rfl rfl (F.at rfl) Qy.underlying25) fun fa F=>?_;refine F.vl (Z1q rfl (ev_c fa _)) fun fa F=>?_;refine F.vl (ZH rfl (ev_c fa _)) fun fa F=>?_;refine wN<|hK1 _ _<|wS fun K2 hK2=>?_
 refine Yh ?_;have F0:=F.sub (.c 1 rfl (.c 6 rfl .n));refine Z7J F0 (x.L.length) (fun i Lv W=>∃va:Option Addr,∃k:Nat,∃vc:Nat,Lv=[(7,.int .i64 ((i:Nat):Int)),(8,.slice va k vc)]∧Ext [] w W∧W.heap[n2]?=some (.cells #[.int .i64 x.B,.slice x.da x.D.length x.dc,.slice x.la x.L.length x.lc,.int .i64 x.tol] 85 (0,0))∧W.ownsRow w.heap.size 3 1 (.slice va k vc) k (ivs ((((List.range x.L.length).take i).filter β).map fun n=>((n:Nat):Int)))∧k=((((List.range x.L.length).take i).filter β).map fun n=>((n:Nat):Int)).length∧k≤i∧Zs W (.slice va k vc) k∧(k=0→va=none)) ⟨_,⟨none,0,0,rfl,E,q2,oo,rfl,(Ye _),zz,(fun _=>rfl)⟩,F.sub (.c 7 rfl (.c 8 rfl (.c 1 rfl (.c 6 rfl .n))))⟩ ?_;clear F F0;clear E q2;clear oo;rintro i _ fa w2 hi1 ⟨va,k,vc,rfl,E,q2,oo,hkl,hk6,zz,hz0⟩ F;refine wS fun K3 hK3=>?_;refine Yg ?_;refine F.vl (Z7o rfl (F.at rfl) (F.at rfl)) fun fa F=>?_;refine wN<|hK3 _ _<|wS fun K4 hK4=>?_
 refine ZbD F rfl (fun hc9=>?_) (fun hc9=>?_)
 ·skip
  refine Yi ?_;refine hK4 _ _<|wS fun K5 hK5=>?_
  refine Yg ?_;refine sqC F (Z2K rfl (F.at rfl) HF.out (mpS (F.at rfl) mp0) rfl) ((HA.out i (by omega) _ E)) fun e w3 hR=>?_;obtain⟨rfl,e9⟩:=hR;refine⟨_,rfl,fun fa F=>?_⟩;replace oo:=Z0q oo (e9) (by simp);replace zz:=Zad zz (e9);replace q2:=(e9).keep0 q2;replace E:=Zj E (e9);clear e9;refine wN<|hK5 _ _<|wS fun K6 hK6=>?_
  refine cd_b F rfl (fun hc10=>?_) (fun hc10=>?_)
  ·skip
   have hst:=Z3e (β:=β) (show i<x.L.length by omega);rw[if_pos hc10]at hst;refine Yg ?_;refine sqN F (ZX rfl (prS (F.at rfl) pr0) Qy.underlying22 (size:=1) (by kernel_rfl) (by decide) (by decide) Qy.zeroValue3 (cells:=#[.int .i64 ((i:Nat):Int)]) (by kernel_rfl)) fun fa w4 F hw=>?_;obtain⟨n11,hn⟩:=eQ w3.heap.size;rw[←hn]at F;have s11:=sQ hn;have l11_E:=lQ hn E.size;have m11_2:=tQ hn (Z3 q2);have o11_oo:=Lib.hid (Z0h oo hn);replace oo:=ZY hw oo;replace zz:=Zad zz (Z6 (Ext.refl [] _) hw);replace q2:=Z1 hw q2;replace E:=Z6 E hw;have q11:=Z05 hw hn;clear hw hn;have hEs:=E.size;refine ZD F rfl (by decide) rfl (Z4B rfl (w.heap.size) (e:=3) Qy.underlying22 (by kernel_rfl) (F.at rfl) oo zz (F.at rfl) q11 rfl (by omega) (by omega)) ?_;clear F fa;rintro fa v' w5 F ⟨hown',hg,hzz⟩;obtain⟨va12,vc12,rfl⟩:=Zo hown';replace q2:=ZV oo hg q2 (by decide);replace E:=Z0v E oo hg (by omega);replace oo:=hown';replace zz:=hzz;clear hg;rw[Z1x,show ((((List.range x.L.length).take i).filter β).map fun n=>((n:Nat):Int))++[((i:Nat):Int)]=(((List.range x.L.length).take (i+1)).filter β).map fun n=>((n:Nat):Int) by rw[hst,List.map_append];rfl]at oo;replace hkl:k+1=((((List.range x.L.length).take (i+1)).filter β).map fun n=>((n:Nat):Int)).length:=by rw[hst,List.map_append,Ym,←hkl];rfl
   refine F.as fun fa F=>?_;refine wN<|hK6 _ _ ?_
   refine Yg ?_;refine F.vl (Z65 rfl (F.at rfl) (ev_c fa _) (by omega) (by omega)) fun fa F=>?_;refine F.mv fun fa F=>?_;refine wpList_nil ?_;show _∧_;exact⟨by omega,_,⟨_,_,_,rfl,E,q2,oo,hkl,(by omega),zz,(fun h=>by first | exact absurd h (by omega) | exact hz0 h)⟩,F.sub (.c 7 rfl (.c 8 rfl (.c 1 rfl (.c 6 rfl .n))))⟩
  ·skip
   have hst:=Z3e (β:=β) (show i<x.L.length by omega);rw[if_neg (by rw[hc10];decide),List.append_nil]at hst;rw[←hst]at oo hkl;refine Yi ?_;refine hK6 _ _ ?_;refine Yg ?_;refine F.vl (Z65 rfl (F.at rfl) (ev_c fa _) (by omega) (by omega)) fun fa F=>?_;refine F.mv fun fa F=>?_;refine wpList_nil ?_;show _∧_;exact⟨by omega,_,⟨_,_,_,rfl,E,q2,oo,hkl,(by omega),zz,(fun h=>by first | exact absurd h (by omega) | exact hz0 h)⟩,F.sub (.c 7 rfl (.c 8 rfl (.c 1 rfl (.c 6 rfl .n))))⟩
 ·skip
  refine wp_exit ?_;rw[List.take_of_length_le (show (List.range x.L.length).length≤i by rw[List.length_range];omega)]at oo hkl;replace zz:Zs w2 (.slice va k vc) k:=zz;replace hkl:k=(Zw x.L.length β).length:=hkl;replace oo:w2.ownsRow w.heap.size 3 1 (.slice va k vc) k (ivs (Zw x.L.length β)):=oo;refine hK2 _ _ ?_;refine wp_ret ?_
  (try simp only[Exit.inBlock,Exit.then,reduceIte])
  refine rt_v F (rs_1 F rfl rfl) ?_;exact⟨_,rfl,ZfY oo zz hkl hz0,E⟩
variable{μ:Nat}
theorem Z7s(x:Vm)(hv:VOk x)(k:Nat)(hk:k<x.L.length)(f g:Nat→Int)(hf:TubS f)(hg:TubS g)(n8 n9 n10:Nat)(T8 T9 T10:TypeId)(z8 z9 z10:Nat×Nat)(w:World)(h:x.At w)
  (q8:w.heap[n8]?=some (.cells #[.int .i64 x.B,.slice x.da x.D.length x.dc,.slice x.la x.L.length x.lc,.int .i64 x.tol] T8 z8)) (q9:w.heap[n9]?=some (.cells (tubC f) T9 z9)) (q10:w.heap[n10]?=some (.cells (tubC g) T10 z10)) :
  Calls (Qy.prog μ) 67 #[.int .i64 ((k:Nat):Int),.pointer (some ⟨n8,0,none⟩),.pointer (some ⟨n9,0,none⟩),.pointer (some ⟨n10,0,none⟩)] w fun e w'=>e = .returned (.bool (alkE x k f g))∧Ext [] w w':=by
 have E:Ext [] w w:=Ext.refl _ _;have HX:=Lib.hid h;have HV:=Lib.hid hv;clear h hv;refine Z0m 11 Qy.func67 rfl Tryz.ntmps67 (Nat.le_of_ble_eq_true rfl) ?_;intro fa F;refine wS fun K1 hK1=>?_;refine Yg ?_;refine F.vl (ZH rfl (ev_c fa _)) fun fa F=>?_;refine wN<|hK1 _ _<|wS fun K2 hK2=>?_
 refine Yg ?_;refine F.vl (Ze rfl (F.at rfl) Qy.underlying85 rfl (by kernel_rfl) q8) fun fa F=>?_;refine F.mv fun fa F=>?_;refine F.vl (Ze rfl (F.at rfl) Qy.underlying88 rfl (by kernel_rfl) q9) fun fa F=>?_;refine F.vl (Ze rfl (F.at rfl) Qy.underlying88 rfl (by kernel_rfl) q10) fun fa F=>?_;refine sqC F (Z0b rfl rfl Qy.call68 (mpS (F.at rfl) (mpS (F.at rfl) (mpS (F.at rfl) (mpS (F.at rfl) mp0))))) (Z48 (μ:=μ) x HV.out k hk f g hf hg _ (HX.out.ext E)) fun e w1 hR=>?_;obtain⟨rfl,e9⟩:=hR;refine⟨_,rfl,fun fa F=>?_⟩;replace q8:=(e9).keep0 q8;replace q9:=(e9).keep0 q9;replace q10:=(e9).keep0 q10;replace E:=Zj E (e9);clear e9;refine F.as fun fa F=>?_;refine wN<|hK2 _ _ ?_
 refine wp_ret ?_
 (try simp only[Exit.inBlock,Exit.then,reduceIte])
 refine rt_v F (rs_1 F rfl rfl) ?_;exact⟨rfl,E⟩
noncomputable def aB:Code:=Tryz.f15.body.getD .skip
noncomputable def cAli : Code := .seq (sqL aB) (.seq (sqL (sqR aB)) (.seq (sqL (sqR (sqR aB))) (.seq (sqL (sqR (sqR (sqR aB)))) (.refuse ""))))
def Z2N(n:Nat):Deferred:={target:=.fn (.func 63) #[],args:=#[.pointer (some ⟨n,0,none⟩)]}
structure AlA(x:Vm)(f g:Nat→Int)(w:World)(b fr:Frame)(w':World):Prop where
 ex : ∃(a : Act) (n7 n8 n9 n10 : Nat), fr=b.at a [.code (.refuse "")] ∧
  Has 22 [Z2N n7] a [(7,pt n7),(8,pt n8),(9,pt n9),(10,pt n10)] ∧
  w'.heap[n7]?=some (.cells #[.int .i64 0] 30 (0,0))∧w'.heap[n8]?=some (.cells #[.int .i64 x.B,.slice x.da x.D.length x.dc,.slice x.la x.L.length x.lc,.int .i64 x.tol] 85 (0,0)) ∧
  w'.heap[n9]?=some (.cells (tubC f) 88 (0,0))∧w'.heap[n10]?=some (.cells (tubC g) 88 (0,0)) ∧
  w.heap.size≤n7∧w.heap.size≤n8∧w.heap.size≤n9∧w.heap.size≤n10∧n7≠n8∧n7≠n9∧n7≠n10∧Ext [] w w'
theorem ZiF(x:Vm)(hv:VOk x)(l l':List Int)(hl:RcpOk x l)(hl':RcpOk x l')(a1 a2:Option Addr)(c1 c2:Nat)(w:World)(h:x.At w)(hr:Z7 w (.slice a1 l.length c1) 1 (l.map Z5))(hr':Z7 w (.slice a2 l'.length c2) 1 (l'.map Z5))
  (fb:Frame) (fa:Act) (F:Has 22 [] fa [(0,x.val),(1,.slice a1 l.length c1),(2,.slice a2 l'.length c2)]):ToZ (Qy.prog 1) [Lift.poison] (AlA x (val l) (val l') w fb) (fb.at fa [.code cAli]) w:=by
 have E:Ext [] w w:=Ext.refl _ _;have HX:=Lib.hid h;have HV:=Lib.hid hv;have HR:=Lib.hid hr;have HR':=Lib.hid hr';have HL:=Lib.hid hl;have HL':=Lib.hid hl';clear h hv hr hr' hl hl';unfold Vm.val at F;have G:=(Bk.nil w).ce E;refine Z2I<|Z7e<|Yg<|(F.bx G) fun yy F G=>(F.m) fun F=>(F.al G Qy.zeroValue30) @fun n7 w2 _ yy F G=>tI<|Z2I<|Z7e<|Yg<|(F.df) fun F=>tI<|Z2I<|Z7e<|Yg<|(F.y (F.lb (G.q 1))) fun F=>(F.k0 G (Z0F (μ:=1) x HV.out _ (HX.out.ext (G.e 2)))) fun F G=>(F.al G Qy.zeroValue85) @fun n8 w4 _ yy F G=>(F.sr G 0) fun G=>tI<|Z2I<|Z7e ?_
 suffices hcut : ∀(n9 n10 : Nat) {fa : Act} {W : World}, Has 22 [{target := .fn (.func 63) #[], args := #[.pointer (some ⟨n7, 0, none⟩)]}] fa [(6, .slice none 0 0), (7, .pointer (some ⟨n7, 0, none⟩)), (8, .pointer (some ⟨n8, 0, none⟩)), (9, .pointer (some ⟨n9, 0, none⟩)), (10, .pointer (some ⟨n10, 0, none⟩))]→Bk W [.q n10 (#[.int .i64 (val l' 0), .int .i64 (val l' 1), .int .i64 (val l' 2), .int .i64 (val l' 3)]) 88, .q n9 (#[.int .i64 (val l 0), .int .i64 (val l 1), .int .i64 (val l 2), .int .i64 (val l 3)]) 88, .q n8 (#[.int .i64 x.B, .slice x.da x.D.length x.dc, .slice x.la x.L.length x.lc, .int .i64 x.tol]) 85, .q n7 (#[.int .i64 0]) 30, .e [] w]→w.heap.size≤n9∧w.heap.size≤n10∧n7≠n9∧n8≠n9∧n7≠n10∧n8≠n10∧n9≠n10→ToZ (Qy.prog 1) [Lift.poison] (AlA x (val l) (val l') w fb) (fb.at fa [.code (.refuse "")]) W by
  have G2:=G;refine(wDN [] none G) fun G=>(F.zr 0 (G.t 0) fun hS=>F.lb (G2.k 0 hS)) fun F=>(F.z 1 (G.t 0) F.mo) fun F=>(F.zr 3 (G.t 0) fun hS=>F.lb (G2.k 0 hS)) fun F=>(F.z 4 (G.t 0) F.mo) fun F=>Z4a (i:=2) (j:=6) (k:=7) (by kernel_rfl) ?_ ?_ ?_
  ·refine(F.ok (Z9 (μ:=1) x HV.out l HL.out a1 c1 _ (HR.out.ext (G.e 4) (by simp)))) ?_
   rintro _ w7 ⟨rfl,e9⟩;refine⟨_,rfl,fun F=>?_⟩;replace G:=G.ex e9;refine .intro (G.t 0) ?_;unfold tubC at F;refine Z4a (i:=5) (j:=6) (k:=7) (by kernel_rfl) ?_ ?_ ?_
   ·refine(F.ok (Z9 (μ:=1) x HV.out l' HL'.out a2 c2 _ (HR'.out.ext (G.e 4) (by simp)))) ?_
    rintro _ w8 ⟨rfl,e9⟩;refine⟨_,rfl,fun F=>?_⟩;replace G:=G.ex e9;refine .intro (G.t 0) ?_;unfold tubC at F;refine Z0l (i:=6) (j:=7) (by kernel_rfl) ?_ ?_
    ·refine(F.oa G Qy.zeroValue88) @fun n9 w9 _ yy F G=>.intro (G.t 1)<|(aO 7)<|(F.oa G Qy.zeroValue88) @fun n10 w10 _ yy F G=>.intro (G.t 2)<|(aO 8)<|(F.or G 1) fun G=>.intro (G.t 2)<|(aO 9)<|(F.or G 0) fun G=>.intro (G.t 2)<|(aDN)<|tI<|hcut _ _ F.u G.u (by omega)
    ·refine(F.oa G Qy.zeroValue88) @fun n10 w13 _ yy F G=>.intro (G.t 1)<|(aO 6)<|(F.oa G Qy.zeroValue88) @fun n9 w14 _ yy F G=>.intro (G.t 2)<|(aO 8)<|(F.or G 0) fun G=>.intro (G.t 2)<|(aO 9)<|(F.or G 1) fun G=>.intro (G.t 2)<|(aDN)<|tI<|hcut _ _ F.u G.u (by omega)
   ·refine(F.oa G Qy.zeroValue88) @fun n9 w17 _ yy F G=>.intro (G.t 1)<|Z0l (i:=5) (j:=7) (by kernel_rfl) ?_ ?_
    ·refine(F.ok (Z9 (μ:=1) x HV.out l' HL'.out a2 c2 _ (HR'.out.ext (G.e 5) (by simp)))) ?_
     rintro _ w18 ⟨rfl,e9⟩;refine⟨_,rfl,fun F=>?_⟩;replace G:=G.ex e9;refine .intro (G.t 1) ?_;unfold tubC at F;refine(aO 7)<|(F.oa G Qy.zeroValue88) @fun n10 w19 _ yy F G=>.intro (G.t 2)<|(aO 8)<|(F.or G 1) fun G=>.intro (G.t 2)<|(aO 9)<|(F.or G 0) fun G=>.intro (G.t 2)<|(aDN)<|tI<|hcut _ _ F.u G.u (by omega)
    ·refine(F.oa G Qy.zeroValue88) @fun n10 w22 _ yy F G=>.intro (G.t 2)<|(aO 5)<|(F.ok (Z9 (μ:=1) x HV.out l' HL'.out a2 c2 _ (HR'.out.ext (G.e 6) (by simp)))) ?_
     rintro _ w23 ⟨rfl,e9⟩;refine⟨_,rfl,fun F=>?_⟩;replace G:=G.ex e9;refine .intro (G.t 2) ?_;unfold tubC at F;refine(aO 8)<|(F.or G 1) fun G=>.intro (G.t 2)<|(aO 9)<|(F.or G 0) fun G=>.intro (G.t 2)<|(aDN)<|tI<|hcut _ _ F.u G.u (by omega)
   ·refine(F.oa G Qy.zeroValue88) @fun n10 w26 _ yy F G=>.intro (G.t 1)<|Z0l (i:=5) (j:=6) (by kernel_rfl) ?_ ?_
    ·refine(F.ok (Z9 (μ:=1) x HV.out l' HL'.out a2 c2 _ (HR'.out.ext (G.e 5) (by simp)))) ?_
     rintro _ w27 ⟨rfl,e9⟩;refine⟨_,rfl,fun F=>?_⟩;replace G:=G.ex e9;refine .intro (G.t 1) ?_;unfold tubC at F;refine(aO 6)<|(F.oa G Qy.zeroValue88) @fun n9 w28 _ yy F G=>.intro (G.t 2)<|(aO 8)<|(F.or G 0) fun G=>.intro (G.t 2)<|(aO 9)<|(F.or G 1) fun G=>.intro (G.t 2)<|(aDN)<|tI<|hcut _ _ F.u G.u (by omega)
    ·refine(F.oa G Qy.zeroValue88) @fun n9 w31 _ yy F G=>.intro (G.t 2)<|(aO 5)<|(F.ok (Z9 (μ:=1) x HV.out l' HL'.out a2 c2 _ (HR'.out.ext (G.e 6) (by simp)))) ?_
     rintro _ w32 ⟨rfl,e9⟩;refine⟨_,rfl,fun F=>?_⟩;replace G:=G.ex e9;refine .intro (G.t 2) ?_;unfold tubC at F;refine(aO 8)<|(F.or G 0) fun G=>.intro (G.t 2)<|(aO 9)<|(F.or G 1) fun G=>.intro (G.t 2)<|(aDN)<|tI<|hcut _ _ F.u G.u (by omega)
  ·refine(F.oa G Qy.zeroValue88) @fun n9 w35 _ yy F G=>.intro (G.t 1)<|Z0l (i:=2) (j:=7) (by kernel_rfl) ?_ ?_
   ·refine(F.ok (Z9 (μ:=1) x HV.out l HL.out a1 c1 _ (HR.out.ext (G.e 5) (by simp)))) ?_
    rintro _ w36 ⟨rfl,e9⟩;refine⟨_,rfl,fun F=>?_⟩;replace G:=G.ex e9;refine .intro (G.t 1) ?_;unfold tubC at F;refine Z0l (i:=5) (j:=7) (by kernel_rfl) ?_ ?_
    ·refine(F.ok (Z9 (μ:=1) x HV.out l' HL'.out a2 c2 _ (HR'.out.ext (G.e 5) (by simp)))) ?_
     rintro _ w37 ⟨rfl,e9⟩;refine⟨_,rfl,fun F=>?_⟩;replace G:=G.ex e9;refine .intro (G.t 1) ?_;unfold tubC at F;refine(aO 7)<|(F.oa G Qy.zeroValue88) @fun n10 w38 _ yy F G=>.intro (G.t 2)<|(aO 8)<|(F.or G 1) fun G=>.intro (G.t 2)<|(aO 9)<|(F.or G 0) fun G=>.intro (G.t 2)<|(aDN)<|tI<|hcut _ _ F.u G.u (by omega)
    ·refine(F.oa G Qy.zeroValue88) @fun n10 w41 _ yy F G=>.intro (G.t 2)<|(aO 5)<|(F.ok (Z9 (μ:=1) x HV.out l' HL'.out a2 c2 _ (HR'.out.ext (G.e 6) (by simp)))) ?_
     rintro _ w42 ⟨rfl,e9⟩;refine⟨_,rfl,fun F=>?_⟩;replace G:=G.ex e9;refine .intro (G.t 2) ?_;unfold tubC at F;refine(aO 8)<|(F.or G 1) fun G=>.intro (G.t 2)<|(aO 9)<|(F.or G 0) fun G=>.intro (G.t 2)<|(aDN)<|tI<|hcut _ _ F.u G.u (by omega)
   ·refine(F.oa G Qy.zeroValue88) @fun n10 w45 _ yy F G=>.intro (G.t 2)<|(aO 2)<|(F.ok (Z9 (μ:=1) x HV.out l HL.out a1 c1 _ (HR.out.ext (G.e 6) (by simp)))) ?_
    rintro _ w46 ⟨rfl,e9⟩;refine⟨_,rfl,fun F=>?_⟩;replace G:=G.ex e9;refine .intro (G.t 2) ?_;unfold tubC at F;refine(aO 5)<|(F.ok (Z9 (μ:=1) x HV.out l' HL'.out a2 c2 _ (HR'.out.ext (G.e 6) (by simp)))) ?_
    rintro _ w47 ⟨rfl,e9⟩;refine⟨_,rfl,fun F=>?_⟩;replace G:=G.ex e9;refine .intro (G.t 2) ?_;unfold tubC at F;refine(aO 8)<|(F.or G 1) fun G=>.intro (G.t 2)<|(aO 9)<|(F.or G 0) fun G=>.intro (G.t 2)<|(aDN)<|tI<|hcut _ _ F.u G.u (by omega)
  ·refine(F.oa G Qy.zeroValue88) @fun n10 w50 _ yy F G=>.intro (G.t 1)<|Z0l (i:=2) (j:=6) (by kernel_rfl) ?_ ?_
   ·refine(F.ok (Z9 (μ:=1) x HV.out l HL.out a1 c1 _ (HR.out.ext (G.e 5) (by simp)))) ?_
    rintro _ w51 ⟨rfl,e9⟩;refine⟨_,rfl,fun F=>?_⟩;replace G:=G.ex e9;refine .intro (G.t 1) ?_;unfold tubC at F;refine Z0l (i:=5) (j:=6) (by kernel_rfl) ?_ ?_
    ·refine(F.ok (Z9 (μ:=1) x HV.out l' HL'.out a2 c2 _ (HR'.out.ext (G.e 5) (by simp)))) ?_
     rintro _ w52 ⟨rfl,e9⟩;refine⟨_,rfl,fun F=>?_⟩;replace G:=G.ex e9;refine .intro (G.t 1) ?_;unfold tubC at F;refine(aO 6)<|(F.oa G Qy.zeroValue88) @fun n9 w53 _ yy F G=>.intro (G.t 2)<|(aO 8)<|(F.or G 0) fun G=>.intro (G.t 2)<|(aO 9)<|(F.or G 1) fun G=>.intro (G.t 2)<|(aDN)<|tI<|hcut _ _ F.u G.u (by omega)
    ·refine(F.oa G Qy.zeroValue88) @fun n9 w56 _ yy F G=>.intro (G.t 2)<|(aO 5)<|(F.ok (Z9 (μ:=1) x HV.out l' HL'.out a2 c2 _ (HR'.out.ext (G.e 6) (by simp)))) ?_
     rintro _ w57 ⟨rfl,e9⟩;refine⟨_,rfl,fun F=>?_⟩;replace G:=G.ex e9;refine .intro (G.t 2) ?_;unfold tubC at F;refine(aO 8)<|(F.or G 0) fun G=>.intro (G.t 2)<|(aO 9)<|(F.or G 1) fun G=>.intro (G.t 2)<|(aDN)<|tI<|hcut _ _ F.u G.u (by omega)
   ·refine(F.oa G Qy.zeroValue88) @fun n9 w60 _ yy F G=>.intro (G.t 2)<|(aO 2)<|(F.ok (Z9 (μ:=1) x HV.out l HL.out a1 c1 _ (HR.out.ext (G.e 6) (by simp)))) ?_
    rintro _ w61 ⟨rfl,e9⟩;refine⟨_,rfl,fun F=>?_⟩;replace G:=G.ex e9;refine .intro (G.t 2) ?_;unfold tubC at F;refine(aO 5)<|(F.ok (Z9 (μ:=1) x HV.out l' HL'.out a2 c2 _ (HR'.out.ext (G.e 6) (by simp)))) ?_
    rintro _ w62 ⟨rfl,e9⟩;refine⟨_,rfl,fun F=>?_⟩;replace G:=G.ex e9;refine .intro (G.t 2) ?_;unfold tubC at F;refine(aO 8)<|(F.or G 0) fun G=>.intro (G.t 2)<|(aO 9)<|(F.or G 1) fun G=>.intro (G.t 2)<|(aDN)<|tI<|hcut _ _ F.u G.u (by omega)
 clear F G;intro n9 n10 fa w65 F G hlt;exact ToZ.here ⟨fa,n7,n8,n9,n10,rfl,F.u,G.q 3,G.q 2,G.q 1,G.q 0,by omega,by omega,by omega,by omega,by omega,by omega,by omega,G.e 4⟩
variable{μ:Nat}
theorem Z6I{base': Nat}{X:List Nat}{l:List Int}{y:Value}(h:IntR base w l y)(E:Ext X w w')(hX:∀b∈X,b<base)(hb:base'≤base): IntR base' w' l y:=by
 rcases h with h | ⟨g,c,h1,h2,h3,h4,h5,h6⟩
 ·exact .inl h
 ·refine .inr ⟨g,c,h1,h2,Yd hb h3,h4,h5,?_⟩
  rw[E.block g (Z3 h6) fun hm=>by have:=hX g hm;omega];exact h6
theorem Z5G{γ: Nat→Bool}(h:∀k,k<n→β k=γ k): Zw n β=Zw n γ:=by
 unfold Zw
 congr 1
 exact List.filter_congr fun k hk=>h k (List.mem_range.1 hk)
theorem Zgx(x:Vm)(hv:VOk x)(l l':List Int)(hl:RcpOk x l)(hl':RcpOk x l')(a1 a2:Option Addr)(c1 c2:Nat)(w:World)(h:x.At w)(hr:Z7 w (.slice a1 l.length c1) 1 (l.map Z5))(hr':Z7 w (.slice a2 l'.length c2) 1 (l'.map Z5)):
  Calls (Qy.prog 0) 186 #[.agg #[.int .i64 x.B,.slice x.da x.D.length x.dc,.slice x.la x.L.length x.lc,.int .i64 x.tol],.slice a1 l.length c1,.slice a2 l'.length c2] w fun e w'=>∃y,e = .returned (.tuple #[y,.int .i64 0])∧IntR w.heap.size w' (Zw x.L.length fun k=>alkE x k (val l) (val l')) y∧Ext [] w w':=by
 have E:Ext [] w w:=Ext.refl _ _;have HX:=Lib.hid h;have HV:=Lib.hid hv;have HR:=Lib.hid hr;have HR':=Lib.hid hr';have HL:=Lib.hid hl;have HL':=Lib.hid hl';have hl3:=hv.l3;clear h hv hr hr' hl hl';have G:=(Bk.nil w).ce E;refine(entM 22 Tryz.f15 rfl) fun F=>wR fun k1=>(F.bx G) fun yy F G=>(F.m) fun F=>(F.al G Qy.zeroValue30) @fun n7 w2 _ yy F G=>k1<|wR fun k2=>(F.df) fun F=>k2<|wR fun k3=>(F.y (F.lb (G.q 1))) fun F=>(F.k0 G (Z0F (μ:=0) x HV.out _ (HX.out.ext (G.e 2)))) fun F G=>(F.al G Qy.zeroValue85) @fun n8 w4 _ yy F G=>(F.sr G 0) fun G=>k3<|wQ @fun K4 k4=>?_
 suffices hcut:∀(n9 n10:Nat) {fa:Act} {W:World},Has 22 [{target:=.fn (.func 63) #[],args:=#[.pointer (some ⟨n7,0,none⟩)]}] fa [(7,.pointer (some ⟨n7,0,none⟩)),(8,.pointer (some ⟨n8,0,none⟩)),(9,.pointer (some ⟨n9,0,none⟩)),(10,.pointer (some ⟨n10,0,none⟩))]→Bk W [.q n10 (#[.int .i64 (val l' 0),.int .i64 (val l' 1),.int .i64 (val l' 2),.int .i64 (val l' 3)]) 88,.q n9 (#[.int .i64 (val l 0),.int .i64 (val l 1),.int .i64 (val l 2),.int .i64 (val l 3)]) 88,.q n8 (#[.int .i64 x.B,.slice x.da x.D.length x.dc,.slice x.la x.L.length x.lc,.int .i64 x.tol]) 85,.q n7 (#[.int .i64 0]) 30,.e [] w]→w.heap.size≤n9∧w.heap.size≤n10∧n7≠n9∧n8≠n9∧n7≠n10∧n8≠n10∧n9≠n10→K4 fa W by
  have G2:=G;refine(wDN [] none G) fun G=>(F.zr 0 (G.t 0) fun hS=>F.lb (G2.k 0 hS)) fun F=>(F.z 1 (G.t 0) F.mo) fun F=>(F.zr 3 (G.t 0) fun hS=>F.lb (G2.k 0 hS)) fun F=>(F.z 4 (G.t 0) F.mo) fun F=>Z4a (i:=2) (j:=6) (k:=7) (by kernel_rfl) ?_ ?_ ?_
  ·refine(F.ok (Z9 (μ:=0) x HV.out l HL.out a1 c1 _ (HR.out.ext (G.e 4) (by simp)))) ?_
   rintro _ w7 ⟨rfl,e9⟩;refine⟨_,rfl,fun F=>?_⟩;replace G:=G.ex e9;refine .intro (G.t 0) ?_;unfold tubC at F;refine Z4a (i:=5) (j:=6) (k:=7) (by kernel_rfl) ?_ ?_ ?_
   ·refine(F.ok (Z9 (μ:=0) x HV.out l' HL'.out a2 c2 _ (HR'.out.ext (G.e 4) (by simp)))) ?_
    rintro _ w8 ⟨rfl,e9⟩;refine⟨_,rfl,fun F=>?_⟩;replace G:=G.ex e9;refine .intro (G.t 0) ?_;unfold tubC at F;refine Z0l (i:=6) (j:=7) (by kernel_rfl) ?_ ?_
    ·refine(F.oa G Qy.zeroValue88) @fun n9 w9 _ yy F G=>.intro (G.t 1)<|(aO 7)<|(F.oa G Qy.zeroValue88) @fun n10 w10 _ yy F G=>.intro (G.t 2)<|(aO 8)<|(F.or G 1) fun G=>.intro (G.t 2)<|(aO 9)<|(F.or G 0) fun G=>.intro (G.t 2)<|(aDN)<|hcut _ _ F.u G.u (by omega)
    ·refine(F.oa G Qy.zeroValue88) @fun n10 w13 _ yy F G=>.intro (G.t 1)<|(aO 6)<|(F.oa G Qy.zeroValue88) @fun n9 w14 _ yy F G=>.intro (G.t 2)<|(aO 8)<|(F.or G 0) fun G=>.intro (G.t 2)<|(aO 9)<|(F.or G 1) fun G=>.intro (G.t 2)<|(aDN)<|hcut _ _ F.u G.u (by omega)
   ·refine(F.oa G Qy.zeroValue88) @fun n9 w17 _ yy F G=>.intro (G.t 1)<|Z0l (i:=5) (j:=7) (by kernel_rfl) ?_ ?_
    ·refine(F.ok (Z9 (μ:=0) x HV.out l' HL'.out a2 c2 _ (HR'.out.ext (G.e 5) (by simp)))) ?_
     rintro _ w18 ⟨rfl,e9⟩;refine⟨_,rfl,fun F=>?_⟩;replace G:=G.ex e9;refine .intro (G.t 1) ?_;unfold tubC at F;refine(aO 7)<|(F.oa G Qy.zeroValue88) @fun n10 w19 _ yy F G=>.intro (G.t 2)<|(aO 8)<|(F.or G 1) fun G=>.intro (G.t 2)<|(aO 9)<|(F.or G 0) fun G=>.intro (G.t 2)<|(aDN)<|hcut _ _ F.u G.u (by omega)
    ·refine(F.oa G Qy.zeroValue88) @fun n10 w22 _ yy F G=>.intro (G.t 2)<|(aO 5)<|(F.ok (Z9 (μ:=0) x HV.out l' HL'.out a2 c2 _ (HR'.out.ext (G.e 6) (by simp)))) ?_
     rintro _ w23 ⟨rfl,e9⟩;refine⟨_,rfl,fun F=>?_⟩;replace G:=G.ex e9;refine .intro (G.t 2) ?_;unfold tubC at F;refine(aO 8)<|(F.or G 1) fun G=>.intro (G.t 2)<|(aO 9)<|(F.or G 0) fun G=>.intro (G.t 2)<|(aDN)<|hcut _ _ F.u G.u (by omega)
   ·refine(F.oa G Qy.zeroValue88) @fun n10 w26 _ yy F G=>.intro (G.t 1)<|Z0l (i:=5) (j:=6) (by kernel_rfl) ?_ ?_
    ·refine(F.ok (Z9 (μ:=0) x HV.out l' HL'.out a2 c2 _ (HR'.out.ext (G.e 5) (by simp)))) ?_
     rintro _ w27 ⟨rfl,e9⟩;refine⟨_,rfl,fun F=>?_⟩;replace G:=G.ex e9;refine .intro (G.t 1) ?_;unfold tubC at F;refine(aO 6)<|(F.oa G Qy.zeroValue88) @fun n9 w28 _ yy F G=>.intro (G.t 2)<|(aO 8)<|(F.or G 0) fun G=>.intro (G.t 2)<|(aO 9)<|(F.or G 1) fun G=>.intro (G.t 2)<|(aDN)<|hcut _ _ F.u G.u (by omega)
    ·refine(F.oa G Qy.zeroValue88) @fun n9 w31 _ yy F G=>.intro (G.t 2)<|(aO 5)<|(F.ok (Z9 (μ:=0) x HV.out l' HL'.out a2 c2 _ (HR'.out.ext (G.e 6) (by simp)))) ?_
     rintro _ w32 ⟨rfl,e9⟩;refine⟨_,rfl,fun F=>?_⟩;replace G:=G.ex e9;refine .intro (G.t 2) ?_;unfold tubC at F;refine(aO 8)<|(F.or G 0) fun G=>.intro (G.t 2)<|(aO 9)<|(F.or G 1) fun G=>.intro (G.t 2)<|(aDN)<|hcut _ _ F.u G.u (by omega)
  ·refine(F.oa G Qy.zeroValue88) @fun n9 w35 _ yy F G=>.intro (G.t 1)<|Z0l (i:=2) (j:=7) (by kernel_rfl) ?_ ?_
   ·refine(F.ok (Z9 (μ:=0) x HV.out l HL.out a1 c1 _ (HR.out.ext (G.e 5) (by simp)))) ?_
    rintro _ w36 ⟨rfl,e9⟩;refine⟨_,rfl,fun F=>?_⟩;replace G:=G.ex e9;refine .intro (G.t 1) ?_;unfold tubC at F;refine Z0l (i:=5) (j:=7) (by kernel_rfl) ?_ ?_
    ·refine(F.ok (Z9 (μ:=0) x HV.out l' HL'.out a2 c2 _ (HR'.out.ext (G.e 5) (by simp)))) ?_
     rintro _ w37 ⟨rfl,e9⟩;refine⟨_,rfl,fun F=>?_⟩;replace G:=G.ex e9;refine .intro (G.t 1) ?_;unfold tubC at F;refine(aO 7)<|(F.oa G Qy.zeroValue88) @fun n10 w38 _ yy F G=>.intro (G.t 2)<|(aO 8)<|(F.or G 1) fun G=>.intro (G.t 2)<|(aO 9)<|(F.or G 0) fun G=>.intro (G.t 2)<|(aDN)<|hcut _ _ F.u G.u (by omega)
    ·refine(F.oa G Qy.zeroValue88) @fun n10 w41 _ yy F G=>.intro (G.t 2)<|(aO 5)<|(F.ok (Z9 (μ:=0) x HV.out l' HL'.out a2 c2 _ (HR'.out.ext (G.e 6) (by simp)))) ?_
     rintro _ w42 ⟨rfl,e9⟩;refine⟨_,rfl,fun F=>?_⟩;replace G:=G.ex e9;refine .intro (G.t 2) ?_;unfold tubC at F;refine(aO 8)<|(F.or G 1) fun G=>.intro (G.t 2)<|(aO 9)<|(F.or G 0) fun G=>.intro (G.t 2)<|(aDN)<|hcut _ _ F.u G.u (by omega)
   ·refine(F.oa G Qy.zeroValue88) @fun n10 w45 _ yy F G=>.intro (G.t 2)<|(aO 2)<|(F.ok (Z9 (μ:=0) x HV.out l HL.out a1 c1 _ (HR.out.ext (G.e 6) (by simp)))) ?_
    rintro _ w46 ⟨rfl,e9⟩;refine⟨_,rfl,fun F=>?_⟩;replace G:=G.ex e9;refine .intro (G.t 2) ?_;unfold tubC at F;refine(aO 5)<|(F.ok (Z9 (μ:=0) x HV.out l' HL'.out a2 c2 _ (HR'.out.ext (G.e 6) (by simp)))) ?_
    rintro _ w47 ⟨rfl,e9⟩;refine⟨_,rfl,fun F=>?_⟩;replace G:=G.ex e9;refine .intro (G.t 2) ?_;unfold tubC at F;refine(aO 8)<|(F.or G 1) fun G=>.intro (G.t 2)<|(aO 9)<|(F.or G 0) fun G=>.intro (G.t 2)<|(aDN)<|hcut _ _ F.u G.u (by omega)
  ·refine(F.oa G Qy.zeroValue88) @fun n10 w50 _ yy F G=>.intro (G.t 1)<|Z0l (i:=2) (j:=6) (by kernel_rfl) ?_ ?_
   ·refine(F.ok (Z9 (μ:=0) x HV.out l HL.out a1 c1 _ (HR.out.ext (G.e 5) (by simp)))) ?_
    rintro _ w51 ⟨rfl,e9⟩;refine⟨_,rfl,fun F=>?_⟩;replace G:=G.ex e9;refine .intro (G.t 1) ?_;unfold tubC at F;refine Z0l (i:=5) (j:=6) (by kernel_rfl) ?_ ?_
    ·refine(F.ok (Z9 (μ:=0) x HV.out l' HL'.out a2 c2 _ (HR'.out.ext (G.e 5) (by simp)))) ?_
     rintro _ w52 ⟨rfl,e9⟩;refine⟨_,rfl,fun F=>?_⟩;replace G:=G.ex e9;refine .intro (G.t 1) ?_;unfold tubC at F;refine(aO 6)<|(F.oa G Qy.zeroValue88) @fun n9 w53 _ yy F G=>.intro (G.t 2)<|(aO 8)<|(F.or G 0) fun G=>.intro (G.t 2)<|(aO 9)<|(F.or G 1) fun G=>.intro (G.t 2)<|(aDN)<|hcut _ _ F.u G.u (by omega)
    ·refine(F.oa G Qy.zeroValue88) @fun n9 w56 _ yy F G=>.intro (G.t 2)<|(aO 5)<|(F.ok (Z9 (μ:=0) x HV.out l' HL'.out a2 c2 _ (HR'.out.ext (G.e 6) (by simp)))) ?_
     rintro _ w57 ⟨rfl,e9⟩;refine⟨_,rfl,fun F=>?_⟩;replace G:=G.ex e9;refine .intro (G.t 2) ?_;unfold tubC at F;refine(aO 8)<|(F.or G 0) fun G=>.intro (G.t 2)<|(aO 9)<|(F.or G 1) fun G=>.intro (G.t 2)<|(aDN)<|hcut _ _ F.u G.u (by omega)
   ·refine(F.oa G Qy.zeroValue88) @fun n9 w60 _ yy F G=>.intro (G.t 2)<|(aO 2)<|(F.ok (Z9 (μ:=0) x HV.out l HL.out a1 c1 _ (HR.out.ext (G.e 6) (by simp)))) ?_
    rintro _ w61 ⟨rfl,e9⟩;refine⟨_,rfl,fun F=>?_⟩;replace G:=G.ex e9;refine .intro (G.t 2) ?_;unfold tubC at F;refine(aO 5)<|(F.ok (Z9 (μ:=0) x HV.out l' HL'.out a2 c2 _ (HR'.out.ext (G.e 6) (by simp)))) ?_
    rintro _ w62 ⟨rfl,e9⟩;refine⟨_,rfl,fun F=>?_⟩;replace G:=G.ex e9;refine .intro (G.t 2) ?_;unfold tubC at F;refine(aO 8)<|(F.or G 0) fun G=>.intro (G.t 2)<|(aO 9)<|(F.or G 1) fun G=>.intro (G.t 2)<|(aDN)<|hcut _ _ F.u G.u (by omega)
 clear F G;intro n9 n10 fa w65 F G hlt;refine k4<|wR fun k5=>(F.y (F.lb (G.q 2))) fun F=>(F.y F.mf) fun F=>?_
 obtain⟨B0,hB0⟩:∃B0,B0=w65.heap.size:=⟨_,rfl⟩;have hb7:n7<B0:=by rw[hB0];exact Z3 (G.q 3)
 have hEs:w.heap.size≤B0:=by rw[hB0];exact(G.e 4).size
 have hask:∀k,k<x.L.length→∀W,Ext [] w65 W→Calls (Qy.prog 0) 67 (#[]++[.int .i64 ((k:Nat):Int)].toArray++#[.pointer (some ⟨n8,0,none⟩),.pointer (some ⟨n9,0,none⟩),.pointer (some ⟨n10,0,none⟩)]) W fun e w'=>e = .returned (.bool (alkE x k (val l) (val l')))∧Ext [] W w':=fun k hk W eW=>Z7s (μ:=0) x HV.out k hk (val l) (val l') HL.out.tub HL'.out.tub n8 n9 n10 _ _ _ _ _ _ W ((HX.out.ext (G.e 4)).ext eW) (eW.keep0 (G.q 2)) (eW.keep0 (G.q 1)) (eW.keep0 (G.q 0));refine(F.k (Zfw x hl3 67 #[.pointer (some ⟨n8,0,none⟩),.pointer (some ⟨n9,0,none⟩),.pointer (some ⟨n10,0,none⟩)] (fun k=>alkE x k (val l) (val l')) Qy.call67 _ hask)) ?_;rintro _ w66 ⟨y,rfl,hI,e9⟩;refine⟨_,rfl,fun F=>?_⟩;replace G:=G.ex e9;clear hask;rw[←hB0]at hI;replace G:=G.hr [n7];refine(F.m) fun F=>(F.st G 4) fun G=>k5<|wp_ret ?_
 (try simp only[Exit.inBlock,Exit.then,reduceIte])
 refine Z3K F<|ZN<|Z1A (Z6Y F rfl rfl rfl Qy.underlying30 rfl (G.q 4)) ?_
 exact⟨y,rfl,Z6I hI (G.e 0) (by simp;omega) hEs,(G.e 5)⟩
end
section
open Go.RowKit
variable{μ:Nat}
section
variable{P:Program}{ops:Array Oper}{Q:Exit→Act→World→Prop}{o:Oper}{rest:List Oper}{N:Nat}{D:List Deferred}{a:Act}{L:List (Nat×Value)}{w w':World}
theorem Za2(hw:Region.wanted o (yielded ops a.tmps)=true)(hr:(execOp a.eval o).run P w = .halt (.panic v) w)(h:Q (.panic [{v,recovered:=false}]) a w): wpList P ops Q (o::rest) a w:=by
 unfold wpList;simp only[hw,if_true,Oper.wp,hr,Oper.upon];exact .inl h
theorem Zbk(ho:o.op = .panic x)(hx:ρ x = .iface t v): (execOp ρ o).run P w = .halt (.panic (.iface t v)) w:=by
 unfold execOp;simp[ho,hx,Instr.panic,goPanic,go_sem]
end
end
section
open Go.RowKit Ev
variable{μ:Nat}
theorem Qy.ntmps189:Qy.f189.ntmps=13:=rfl
section
variable{P:Program}{o:Oper}{w:World}{a:Act}
theorem Z9p{w:World}{ob:Obj}: Ext [] w (w.drew.alloc ob):=⟨rfl,rfl,rfl,by
 show w.heap.size≤(w.heap.push ob).size;simp,fun k hk _=>by
 show (w.heap.push ob)[k]?=w.heap[k]?;rw[Array.getElem?_push_lt hk,Y2 hk]⟩
theorem Z92(ho:o.op = .call {callee:=.builtin .append,args:=#[.const (.slice none 0 0),x],argTypes:=#[t,t]})(ht:P.underlying t=some (.slice e))(hi:(P.info? e).map (fun i=>(i.size,i.bytes,i.zero.map (·.cells)))=some (1,8,some #[Value.int .i64 0])){g m c:Nat}{cs:List Value}{T:TypeId}{fz:Nat×Nat}(hx:a.eval x = .slice (some ⟨g,0,none⟩) m c)(hg:w.heap[g]?=some (.cells cs.toArray T fz))(hl:m≤cs.length)(h0:0<m)(hm:m≤1000):
  (execOp a.eval o).run P w = .ok (.value (.slice (some ⟨w.heap.size,0,none⟩) m (grownCap w m 0 e))) (w.drew.alloc (.cells ((cs.take m).toArray++Builtin.zeroCells #[Value.int .i64 0] (grownCap w m 0 e-m)) e)):=by
 cases hq:P.info? e with
 | none=>simp[hq]at hi
 | some i =>
  simp only[hq,Option.map_some,Y4,Y9,Y3]at hi;obtain⟨hi1,hi2,z,hz1,hz2⟩:=hi;have hr:=run_append_nil (P:=P) w t o.type e i z ht hq hz1 ⟨g,0,none⟩ m c (cs.take m) (by rw[hi1,List.length_take];omega) (fun j v hv=>by
   rw[Addr.add_lit,Nat.zero_add,Z0 hg];rw[List.getElem?_take]at hv
   split at hv
   ·simpa using hv
   ·cases hv) h0 (by omega) (by rw[hi2];omega)
  rw[hz2]at hr;have hn:a.eval (.const (.slice none 0 0)) = .slice none 0 0:=rfl;unfold execOp;simp only[ho,resolve,invoke,builtin,Sem.run_bind,Sem.run_pure,Result.andThen_ok,List.map_toArray,List.map_cons,List.map_nil,hx,hn,hr]
theorem Zbd(ho:o.op = .call {callee:=.builtin .append,args:=#[.const (.slice none 0 0),x],argTypes:=#[t,t]})(ht:P.underlying t=some (.slice e))(hi:(P.info? e).map (fun i=>(i.size,i.bytes,i.zero.map (·.cells)))=some (1,8,some #[Value.int .i64 0]))(hx:a.eval x = .slice none 0 0): (execOp a.eval o).run P w = .ok (.value (.slice none 0 0)) w:=by
 cases hq:P.info? e with
 | none=>simp[hq]at hi
 | some i =>
  simp only[hq,Option.map_some,Y4,Y9,Y3]at hi;obtain⟨hi1,hi2,z,hz1,hz2⟩:=hi;have hr:(Builtin.append_ #[t,t] o.type #[.slice none 0 0,.slice none 0 0]).run P w = .ok (.slice none 0 0) w:=by
   unfold Builtin.append_;simp[ht,run_underlying ht,sizeOf,typeInfo,hq,Builtin.lenOf,Builtin.firstCells,go_sem,Result.andThen]
  have hn:a.eval (.const (.slice none 0 0)) = .slice none 0 0:=rfl;unfold execOp;simp only[ho,resolve,invoke,builtin,Sem.run_bind,Sem.run_pure,Result.andThen_ok,List.map_toArray,List.map_cons,List.map_nil,hx,hn,hr]
theorem Zbc(ho:o.op = .call {callee:=.builtin .append,args:=#[.const (.slice none 0 0),x],argTypes:=#[t,t]})(ht:P.underlying t=some (.slice e))(hi:(P.info? e).map (fun i=>(i.size,i.bytes,i.zero.map (·.cells)))=some (1,8,some #[Value.int .i64 0])){g m c:Nat}{cs:List Value}{T:TypeId}{fz:Nat×Nat}(hx:a.eval x = .slice (some ⟨g,0,none⟩) m c)(hg:w.heap[g]?=some (.cells cs.toArray T fz))(hl:m≤cs.length)(h0:0<m)(hm:m≤1000):
  ∃v' w',(execOp a.eval o).run P w = .ok (.value v') w'∧(∃b k,v' = .slice (some ⟨b,0,none⟩) m k∧∃d,k=(Question.appendCap m 0 e).cut (w.tape d (.appendCap m 0 e)))∧Ext [] w w':=
 ⟨_,_,Z92 ho ht hi hx hg hl h0 hm,⟨_,_,rfl,w.drawn,rfl⟩,Z9p⟩
def ZdD(w:World)(y:Value):Prop:=∀g n c,y = .slice (some ⟨g,0,none⟩) n c→∃d,c=(Question.appendCap n 0 3).cut (w.tape d (.appendCap n 0 3))
theorem ZdH(ho:o.op = .call {callee:=.builtin .append,args:=#[.const (.slice none 0 0),x],argTypes:=#[t,t]})(ht:P.underlying t=some (.slice 3))(hi:(P.info? 3).map (fun i=>(i.size,i.bytes,i.zero.map (·.cells)))=some (1,8,some #[Value.int .i64 0])){l:List Int}{y:Value}(hx:a.eval x=y)(h:IntR base w l y)(hl:l.length≤1000):
  ∃v' w',(execOp a.eval o).run P w = .ok (.value v') w'∧IntR w.heap.size w' l v'∧Ext [] w w'∧ZdD w v':=by
 rcases h with⟨rfl,rfl⟩ | ⟨g,c,h1,rfl,h3,h4,h5,h6⟩
 ·exact⟨_,_,Zbd ho ht hi hx,.inl ⟨rfl,rfl⟩,Ext.refl _ _,fun g n c e=>by cases e⟩
 ·have h0:0<l.length:=List.length_pos_iff.2 h1
  refine⟨_,_,Z92 ho ht hi hx h6 (by simp[ivs]) h0 hl,.inr ⟨_,_,h1,rfl,Ye _,?_,?_,?_⟩,Z9p,fun g' n' c' e=>?_⟩
  ·unfold grownCap Question.cut
   dsimp only;omega
  ·unfold grownCap Question.cut
   dsimp only;simp only[maxLen];have:w.tape w.drawn (.appendCap l.length 0 3) % (2 ^ 63-l.length)<2 ^ 63-l.length:=Nat.mod_lt _ (by omega);omega
  ·have hh:=heap_alloc_new w.drew (.cells ((((ivs l)++List.replicate (c-l.length) (Value.int .i64 0)).take l.length).toArray++Builtin.zeroCells #[Value.int .i64 0] (grownCap w l.length 0 3-l.length)) 3)
   refine hh.trans ?_
   congr 1
   congr 1
   apply Array.ext';have hil:(ivs l).length=l.length:=by simp[ivs]
   rw[List.take_append_of_le_length (by rw[hil];exact Ye _),List.take_of_length_le (by rw[hil];exact Ye _)];simp only[Array.toList_append]
   congr 1
   apply List.ext_getElem?;intro i;rw[Array.getElem?_toList]
   by_cases hi:i<grownCap w l.length 0 3-l.length
   ·rw[Zac hi,List.getElem?_replicate,if_pos hi]
   ·rw[List.getElem?_replicate,if_neg hi]
    rw[Array.getElem?_eq_none];simp[Builtin.zeroCells];omega
  ·simp only[Value.slice.injEq,Y4,Addr.mk.injEq]at e
   obtain⟨_,rfl,rfl⟩:=e;exact⟨w.drawn,rfl⟩
theorem Zip{b:Option Addr}{c: Nat}(ho:o.op = .call {callee:=.builtin .cap,args:=#[x],argTypes:=#[t]})(hx:a.eval x = .slice b n c)(hu:P.underlying t=some (.slice (P.elem t))): (execOp a.eval o).run P w = .ok (.value (.int .i64 c)) w:=by
 unfold execOp;simp only[ho,resolve,invoke,builtin,Sem.run_bind,Sem.run_pure,Result.andThen_ok,List.map_toArray,List.map_cons,List.map_nil,hx,run_cap_slice w t o.type b n c hu]
 rfl
theorem Z5t{d:TypeDesc}(ho:o.op = .makeInterface t x)(hx:ρ x=v)(hu:P.underlying t=some d)(hd:∀m,d ≠ .interface m): (execOp ρ o).run P w = .ok (.value (.iface t v)) w:=by
 unfold execOp
 cases d<;>first | exact absurd rfl (hd _) | simp[ho,hx,Instr.makeInterface,run_underlying hu,go_sem,Result.andThen]
end
def bunV(f:FuncId)(xs:Array Value):PanicEntry:={v:=.iface 90 (.func (.func f) xs #[]),recovered:=false}
theorem Zkc:(Qy.prog 0).underlying 90=Tryz.prog.underlying 90:=Lift.under_pf (P:=Tryz.prog) 90
theorem Zfl(y0 y1 y2:Value)(w:World)(hb:∀d,7<(Question.appendCap 7 0 3).cut (w.tape d (.appendCap 7 0 3))):Calls (Qy.prog 0) 15 #[y0,y1,y2] w fun e w'=>e = .panicked [bunV 15 #[y0,y1,y2]]∧Ext [] w w':=by
 have E:Ext [] w w:=Ext.refl _ _;refine Z0m 13 Qy.func15 rfl Qy.ntmps189 (Nat.le_of_ble_eq_true rfl) ?_;intro fa F;refine wS fun K1 hK1=>?_;refine Yg ?_;refine sqN F (ZX rfl pr0 Qy.underlying22 (size:=1) (by kernel_rfl) (by decide) (by decide) Qy.zeroValue3 (cells:=#[.int .i64 0,.int .i64 0,.int .i64 0,.int .i64 0,.int .i64 0,.int .i64 0,.int .i64 0]) (by kernel_rfl)) fun fa w1 F hw=>?_;obtain⟨n3,hn⟩:=eQ w.heap.size;rw[←hn]at F;have s3:=sQ hn;have l3_E:=lQ hn E.size;replace E:=Z6 E hw;have q3:=Z05 hw hn;clear hw hn;have htp:=E.tape;refine ZD F rfl (by decide) rfl (Zbc rfl Qy.underlying22 (by kernel_rfl) (F.at rfl) q3 (by decide) (by decide) (by decide)) ?_;clear F fa;rintro fa v' w2 F ⟨⟨b4,K,rfl,d4,hK⟩,e9⟩;replace q3:=(e9).keep0 q3;replace E:=Zj E (e9);rw[htp]at hK;have hb1:=hb d4;rw[←hK]at hb1;refine F.vl ((Zip rfl (F.at rfl) Qy.underlying22)) fun fa F=>?_;refine F.vl (Zbh (b:=true) rfl (ev_c fa _) (F.at rfl) (decide_eq_true ((by omega)))) fun fa F=>?_;refine wN<|hK1 _ _<|wS fun K2 hK2=>?_
 refine cd_T F rfl ?_;refine Yg ?_;refine F.vl (Z2l rfl (Z4P (mpS (F.at rfl) (mpS (F.at rfl) (mpS (F.at rfl) mp0)))) (Z4P mp0)) fun fa F=>?_;refine F.vl ((Z5t rfl (F.at rfl) Zkc (by intro m e;cases e))) fun fa F=>?_;refine Za2 rfl (Zbk rfl (F.at rfl)) ?_
 (try simp only[Exit.inBlock,Exit.then,Exit.jump,reduceIte])
 refine⟨F.ds,?_⟩;exact⟨rfl,E⟩
theorem Za7(x:Vm)(hv:VOk x)(l l':List Int)(hl:RcpOk x l)(hl':RcpOk x l')(a1 a2:Option Addr)(c1 c2:Nat)(w:World)(h:x.At w)(hr:Z7 w (.slice a1 l.length c1) 1 (l.map Z5))(hr':Z7 w (.slice a2 l'.length c2) 1 (l'.map Z5)):
  Calls (Qy.prog 0) 15 #[.agg #[.int .i64 x.B,.slice x.da x.D.length x.dc,.slice x.la x.L.length x.lc,.int .i64 x.tol],.slice a1 l.length c1,.slice a2 l'.length c2] w fun e w' =>
   ((e = .panicked [bunV 15 #[.agg #[.int .i64 x.B,.slice x.da x.D.length x.dc,.slice x.la x.L.length x.lc,.int .i64 x.tol],.slice a1 l.length c1,.slice a2 l'.length c2]]∧∃d,7<(Question.appendCap 7 0 3).cut (w.tape d (.appendCap 7 0 3)))∧Ext [] w w') ∨
   ∃y,e = .returned (.tuple #[y,.int .i64 0])∧IntR w.heap.size w' (Zw x.L.length fun k=>alkE x k (val l) (val l')) y∧ZdD w y∧Ext [] w w':=by
 have E:Ext [] w w:=Ext.refl _ _;have HX:=Lib.hid h;have HV:=Lib.hid hv;have HR:=Lib.hid hr;have HR':=Lib.hid hr';have HL:=Lib.hid hl;have HL':=Lib.hid hl';have hl3:=hv.l3;clear h hv hr hr' hl hl';refine Z0m 13 Qy.func15 rfl Qy.ntmps189 (Nat.le_of_ble_eq_true rfl) ?_;intro fa F;refine wS fun K1 hK1=>?_;refine Yg ?_;refine sqN F (ZX rfl pr0 Qy.underlying22 (size:=1) (by kernel_rfl) (by decide) (by decide) Qy.zeroValue3 (cells:=#[.int .i64 0,.int .i64 0,.int .i64 0,.int .i64 0,.int .i64 0,.int .i64 0,.int .i64 0]) (by kernel_rfl)) fun fa w1 F hw=>?_;obtain⟨n3,hn⟩:=eQ w.heap.size;rw[←hn]at F;have s3:=sQ hn;have l3_E:=lQ hn E.size;replace E:=Z6 E hw;have q3:=Z05 hw hn;clear hw hn;have htp:=E.tape;refine ZD F rfl (by decide) rfl (Zbc rfl Qy.underlying22 (by kernel_rfl) (F.at rfl) q3 (by decide) (by decide) (by decide)) ?_;clear F fa;rintro fa v' w2 F ⟨⟨b4,K,rfl,d4,hK⟩,e9⟩;replace q3:=(e9).keep0 q3;replace E:=Zj E (e9);rw[htp]at hK;refine F.vl ((Zip rfl (F.at rfl) Qy.underlying22)) fun fa F=>?_;refine F.vl (Z7o rfl (ev_c fa _) (F.at rfl)) fun fa F=>?_;refine wN<|hK1 _ _<|wS fun K2 hK2=>?_
 refine ZbD F rfl (fun hc6=>?_) (fun hc6=>?_)
 ·skip
  refine Yg ?_;refine F.vl (Z2l rfl (Z4P (mpS (F.at rfl) (mpS (F.at rfl) (mpS (F.at rfl) mp0)))) (Z4P mp0)) fun fa F=>?_;refine F.vl ((Z5t rfl (F.at rfl) Zkc (by intro m e;cases e))) fun fa F=>?_;refine Za2 rfl (Zbk rfl (F.at rfl)) ?_
  (try simp only[Exit.inBlock,Exit.then,Exit.jump,reduceIte])
  refine⟨F.ds,?_⟩;exact .inl ⟨⟨rfl,d4,by rw[←hK];exact Int.ofNat_lt.1 (by simpa using hc6)⟩,E⟩
 ·skip
  refine Yi ?_;refine hK2 _ _<|wS fun K3 hK3=>?_
  refine Yg ?_;refine sqC F (Z0b rfl rfl Qy.call186 (mpS (F.at rfl) (mpS (F.at rfl) (mpS (F.at rfl) mp0)))) (Zgx x HV.out l l' HL.out HL'.out a1 a2 c1 c2 _ (HX.out.ext E) (HR.out.ext E (by simp)) (HR'.out.ext E (by simp))) fun e w3 hR=>?_;obtain⟨y,rfl,hI,e9⟩:=hR;refine⟨_,rfl,fun fa F=>?_⟩;replace q3:=(e9).keep0 q3;replace E:=Zj E (e9);clear e9;refine F.vl (Z4x rfl (F.at rfl) (get0)) fun fa F=>?_;refine F.vl (Z4x rfl (F.at rfl) (getS (get0))) fun fa F=>?_;have hEs:=E.size;have htp:=E.tape;have hll:(Zw x.L.length fun k=>alkE x k (val l) (val l')).length≤1000:=by have:=List.length_filter_le (fun k=>alkE x k (val l) (val l')) (List.range x.L.length);simp only[Zw,Yj];simp only[List.length_range]at this;omega
  refine ZD F rfl (by decide) rfl (ZdH rfl Qy.underlying22 (by kernel_rfl) (F.at rfl) hI hll) ?_;clear F fa;rintro fa v' w4 F ⟨hI2,e9,hC⟩;replace q3:=(e9).keep0 q3;replace E:=Zj E (e9);refine wN<|hK3 _ _ ?_
  refine wp_ret ?_
  (try simp only[Exit.inBlock,Exit.then,reduceIte])
  refine rt_v F (rs_2 F rfl rfl rfl) ?_;exact .inr ⟨_,rfl,Z6I hI2 (Ext.refl [] _) (by simp) (by omega),(by unfold ZdD at hC⊢;rw[htp]at hC;exact hC),E⟩
end
end Go.Proofs.YtfelljbfeoplhaaGreat
