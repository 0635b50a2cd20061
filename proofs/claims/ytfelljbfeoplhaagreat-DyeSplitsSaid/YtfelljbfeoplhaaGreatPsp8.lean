/- Parts of a proof: Dmo, Dmt, Dco, Dis, Dsh, Dsd, Dvv, Dxo, Ddy, Ddw, Dkt, Zp, Wt. No conditions. -/
import Derived.Test.YtfelljbfeoplhaaGreatPsp1
import Derived.Test.YtfelljbfeoplhaaGreatPsp3
import Derived.Test.YtfelljbfeoplhaaGreatPsp5
import Derived.Test.YtfelljbfeoplhaaGreatPsp6
import Derived.Test.YtfelljbfeoplhaaGreatPsp7
set_option linter.unusedVariables false
set_option linter.unusedSimpArgs false
set_option linter.unusedSectionVars false
set_option maxRecDepth 100000
set_option maxHeartbeats 4000000
namespace Go.Proofs.YtfelljbfeoplhaaGreat
variable{c j k n:Nat}{l:List Int}{S:List (Go.Value×List Int)}{a:Option Go.Addr}{O' U:Nat→Prop}{J:(Nat→Prop)→Go.World→Prop}{cs:List Go.Frame}
section
open Go.RowKit
variable{μ:Nat}
theorem Zav(xs:List Int)(f:FuncId)(cs:Array Value)(p:Int→Bool)(a:Option Addr)(c:Nat)(w:World)(hx:Z7 w (.slice a xs.length c) 1 (xs.map Z5))(hl:xs.length≤1000)
  (hf:∀args w,(callFunc f args).run (Qy.prog μ) w = .ok (.enter f args) w) (hc:∀W,Ext [] w W→∀n∈xs,Calls (Qy.prog μ) f (#[]++[Value.int .i64 n].toArray++cs) W fun e W'=>e = .returned (.bool (p n))∧Ext [] W W') :
  Calls (Qy.prog μ) 119 #[.slice a xs.length c,.func (.func f) #[] cs] w fun e w'=>∃r,e = .returned (.int .i64 r)∧decide (0≤r)=xs.any p∧Ext [] w w':=by
 have E:Ext [] w w:=Ext.refl _ _;have HS:=Lib.hid (Zh hx 0);have HC:=Lib.hid hc;have HF:=Lib.hid hf;clear hx hc hf;have G:=(Bk.nil w).ce E;refine(ent 19 Tryz.f119 rfl) fun F=>wR fun k1=>(F.m) fun F=>k1<|wQ fun k2=>wR fun k3=>(F.m) fun F=>(F.y F.ln) fun F=>(F.m) fun F=>k3<|Yh<|lpB (F.b [0,1,7]) G (xs.length) (fun i Lv Sv W=>Lv=[(8,.int .i64 ((i:Nat):Int))]∧Sv=[]∧∀j,j<i→p (xs.getD j 0)=false) ⟨_,_,F.u,G.u,rfl,rfl,(fun j h=>by omega)⟩ ?_
 clear F G;rintro i _ w1 _ _ hi1 ⟨rfl,rfl,hb⟩ F G;replace G:=G.z;refine wR fun k4=>(F.y F.ls) fun F=>k4<|wQ fun k5=>F.ci (fun hc9=>?_) (fun hc9=>?_)
 ·refine Yi<|k5<|wQ fun k6=>Yh<|wR fun k7=>(F.m) fun F=>(F.m) fun F=>k7<|wR fun k8=>(F.m) fun F=>(F.m) fun F=>(F.m) fun F=>(F.ix HS.out i) fun xr9 F=>(F.y (F.l1 (xr9 _ (G.e 0)) 0)) fun F=>?_
  refine(F.kr (Z2K rfl (F.at rfl) HF.out (mpS (F.at rfl) mp0) rfl) (HC.out _ (G.e 0) _ (Z8 0 (by omega)))) ?_;rintro _ w2 ⟨rfl,e9⟩;refine⟨_,rfl,fun F=>?_⟩;replace G:=G.ex e9;refine k8<|F.cb (fun hc16=>?_) (fun hc16=>?_)
  ·refine wR fun k10=>(F.m) fun F=>(F.m) fun F=>k10<|(F.r1) ?_
   exact⟨_,rfl,(by rw[decide_eq_true (by omega),List.any_eq_true.2 ⟨_,Z8 0 (by omega),hc16⟩]),(G.e 0)⟩
  ·refine Yi<|k6<|Yg<|(F.y F.ad) fun F=>(F.m) fun F=>?_
   show _∧_;exact⟨by omega,_,_,F.u,G.u,rfl,rfl,(fun j h=>by rcases Nat.lt_succ_iff_lt_or_eq.1 h with h | rfl;(· exact hb j h);(· exact hc16))⟩
 ·refine wp_exit<|k2<|wR fun k11=>(F.m) fun F=>k11<|(F.r1) ?_
  exact⟨_,rfl,(by rw[decide_eq_false (by omega)];symm;rw[List.any_eq_false];intro n hn;obtain⟨j,hj,rfl⟩:=List.getElem_of_mem hn;have:=hb j (by omega);simpa[hj] using this),(G.e 0)⟩
theorem Z6q(xs:List Int)(f:FuncId)(cs:Array Value)(p:Int→Bool)(a:Option Addr)(c:Nat)(w:World)(hx:Z7 w (.slice a xs.length c) 1 (xs.map Z5))(hl:xs.length≤1000)
  (hf:∀args w,(callFunc f args).run (Qy.prog μ) w = .ok (.enter f args) w) (hc:∀W,Ext [] w W→∀n∈xs,Calls (Qy.prog μ) f (#[]++[Value.int .i64 n].toArray++cs) W fun e W'=>e = .returned (.bool (p n))∧Ext [] W W') :
  Calls (Qy.prog μ) 72 #[.slice a xs.length c,.func (.func f) #[] cs] w fun e w'=>e = .returned (.bool (xs.any p))∧Ext [] w w':=by
 have E:Ext [] w w:=Ext.refl _ _;have HX:=Lib.hid hx;have HC:=Lib.hid hc;have HF:=Lib.hid hf;clear hx hc hf;have G:=(Bk.nil w).ce E;refine(ent 9 Tryz.f72 rfl) fun F=>wR fun k1=>(F.m) fun F=>k1<|wR fun k2=>(F.m) fun F=>(F.m) fun F=>(F.k (Zav xs f cs p a c _ (HX.out.ext (G.e 0) (by simp)) hl HF.out (fun W e=>HC.out W ((G.e 0).trans e)))) ?_
 rintro _ w1 ⟨r,rfl,hr,e9⟩;refine⟨_,rfl,fun F=>?_⟩;replace G:=G.ex e9;refine(F.y F.ge) fun F=>(F.m) fun F=>k2<|(F.r1) ?_
 exact⟨Z0J hr,(G.e 0)⟩
theorem ZeB(x:Vm)(hv:VOk x)(T:List (List Int))(hT:∀t∈T,TubS (val t))(ma:Option Addr)(mc n8 n9 n11 n12 j k l:Nat)(hj:j<T.length)(hk:k<T.length)(hl:l<x.L.length)(w:World)(h:x.At w)
  (q8:w.heap[n8]?=some (.cells #[.int .i64 x.B,.slice x.da x.D.length x.dc,.slice x.la x.L.length x.lc,.int .i64 x.tol] 85 (0,0))) (q9:w.heap[n9]?=some (.cells #[.slice ma T.length mc] 93 (0,0))) (q11:w.heap[n11]?=some (.cells #[.int .i64 ((j:Nat):Int)] 3 (0,0))) (q12:w.heap[n12]?=some (.cells #[.int .i64 ((k:Nat):Int)] 3 (0,0)))
  (hs:SlAt [] w ma 4 T.length (fun i=>tubR (val (T.getD i [])))) (h6:T.length≤6) :
  Calls (Qy.prog μ) 73 #[.int .i64 ((l:Nat):Int),.pointer (some ⟨n8,0,none⟩),.pointer (some ⟨n9,0,none⟩),.pointer (some ⟨n11,0,none⟩),.pointer (some ⟨n12,0,none⟩)] w fun e w'=>e = .returned (.bool (!alkE x l (val (T.getD j [])) (val (T.getD k []))))∧Ext [] w w':=by
 have E:Ext [] w w:=Ext.refl _ _;have HX:=Lib.hid h;have HV:=Lib.hid hv;have HT:=Lib.hid hT;have HS:=Lib.hid hs;clear h hv hT hs;have G:=(Bk.nil w).ce E;replace G:=(((G.cq q8).cq q9).cq q11).cq q12;refine(ent 19 Tryz.f73 rfl) fun F=>wR fun k1=>(F.m) fun F=>k1<|wQ fun k2=>(wX 10 G) fun G=>(F.s (F.lb (G.q 3))) fun F=>(F.sm) fun F=>(F.s (F.lc (G.q 2))) fun F=>(F.s (F.lc (G.q 1))) fun F=>(F.sx HS.out j) fun xr3 F=>(F.s (F.lr (xr3 _ (G.e 4)))) fun F=>(F.s (F.lc (G.q 2))) fun F=>(F.s (F.lc (G.q 0))) fun F=>(F.sx HS.out k) fun xr4 F=>(F.s (F.lr (xr4 _ (G.e 4)))) fun F=>wpStill_nil<|(F.k0 G (Z48 x HV.out l hl (val (T.getD j [])) (val (T.getD k [])) (HT.out _ (Z0n [] (by omega))) (HT.out _ (Z0n [] (by omega))) _ (HX.out.ext (G.e 4)))) fun F G=>(F.y F.nb) fun F=>?_
 refine(F.m) fun F=>k2<|(F.r1) ?_
 exact⟨rfl,(G.e 4)⟩
variable{μ:Nat}
def sixC(f:Nat→Int):Array Value:=#[.int .u8 (f 0),.int .u8 (f 1),.int .u8 (f 2),.int .u8 (f 3),.int .u8 (f 4),.int .u8 (f 5)]
theorem ZjQ{f:Nat→Int}{i:Int}(h:i.toNat=k)(hk:k<6): (sixC f)[i.toNat]?=some (.int .u8 (f k)):=by
 subst h
 rcases hi:i.toNat with _ | _ | _ | _ | _ | _ | n
 ·rfl
 ·rfl
 ·rfl
 ·rfl
 ·rfl
 ·rfl
 ·omega
theorem Zd7{w:World}{b:Nat}{T:TypeId}{fz:Nat×Nat}{f:Nat→Int}(H:w.heap[b]?=some (.cells (sixC f) T fz)){i:Int}(h:i.toNat=k)(hk:k<6): w.cell? ⟨b,0+i.toNat*1,none⟩=some (.int .u8 (f k)):=by
 rw[Z0 H,Nat.zero_add,Nat.mul_one];exact ZjQ h hk
theorem ZhL{w w2:World}{b:Nat}{T:TypeId}{f:Nat→Int}{i v:Int}(e:w2=w.setCell ⟨b,0+i.toNat*1,none⟩ (.int .u8 v))(H:w.heap[b]?=some (.cells (sixC f) T (0,0)))(h:i.toNat=k)(hk:k<6): w2.heap[b]?=some (.cells (sixC (upF f k v)) T (0,0)):=by
 refine ZF e H ?_;rw[Nat.zero_add,Nat.mul_one,h];clear e H h
 match k,hk with
 | 0,_=>rfl
 | 1,_=>rfl
 | 2,_=>rfl
 | 3,_=>rfl
 | 4,_=>rfl
 | 5,_=>rfl
def nrB(x:Vm)(ls:List Int)(T:List (List Int))(j k:Nat):Bool:=!(ls.any fun l=>!alkE x l.toNat (val (T.getD j [])) (val (T.getD k [])))
section
variable(p:Nat→Nat→Bool)
def fnK(j:Nat):Nat→Nat
 | 0=>0
 | k+1=>if p j k=true then fnK j k ||| 2 ^ k else fnK j k
theorem Z9w(j:Nat):∀k,k≤6→fnK p j k<64
 | 0,_=>by simp[fnK]
 | k+1,h=>by
  rw[fnK]
  split
  ·exact Zl3 _ (Z9w j k (by omega)) k (by omega)
  ·exact Z9w j k (by omega)
def finF(n j k:Nat):Nat→Int:=fun i=>if i<j then((fnK p i n:Nat):Int) else if i=j then((fnK p j k:Nat):Int) else 0
theorem Zej(h:p j k=true): upF (finF p n j k) j (((fnK p j k ||| 2 ^ k:Nat)):Int)=finF p n j (k+1):=by
 funext i
 rw[upF,finF,finF]
 by_cases h1:i=j
 ·subst h1;simp[fnK,h]
 ·simp[h1]
theorem Zh3(h:p j k=false): finF p n j k=finF p n j (k+1):=by
 funext i
 rw[finF,finF,fnK,h];simp
theorem Zcb: finF p n j n=finF p n (j+1) 0:=by
 funext i
 rw[finF,finF]
 by_cases h1:i=j
 ·subst h1;simp
 ·by_cases h2:i<j
  ·simp[h2,show i<j+1 by omega]
  ·simp[h1,h2,show ¬i<j+1 by omega,fnK]
theorem Zcc: finF p n 0 0=zf:=by
 funext i
 rw[finF,zf]
 by_cases h:i=0
 ·simp[h,fnK]
 ·simp[h]
def finS(n i:Nat):Nat:=if i<n then fnK p i n else 0
theorem Zh4(h:n≤6)(i:Nat): finS p n i<64:=by
 rw[finS]
 split
 ·exact Z9w p i n h
 ·omega
theorem Zei(i:Nat): finF p n n 0 i=((finS p n i:Nat):Int):=by
 rw[finF,finS]
 by_cases h:i<n
 ·simp[h]
 ·simp[h,fnK]
def okS(n s:Nat):Bool:=(Zl s).all fun i=>subB s (finS p n i.toNat)
def betS(s b:Nat):Bool:=decide (Z06 b<Z06 s)||(decide (Z06 s=Z06 b)&&decide (cmpL (Zl s) (Zl b)<0))
def Z0k(n:Nat):Nat→Nat
 | 0=>0
 | s+1=>if okS p n s&&betS s (Z0k n s) then s else Z0k n s
theorem Z6e(n:Nat):∀s,s≤64→Z0k p n s<64
 | 0,_=>by simp[Z0k]
 | s+1,h=>by
  rw[Z0k]
  split
  ·omega
  ·exact Z6e n s (by omega)
theorem Zbt{s: Nat}(h:okS p n s=false): Z0k p n s=Z0k p n (s+1):=by rw[Z0k,h];simp
theorem Z7t{s: Nat}(h:okS p n s=true)(hb:Z06 (Z0k p n s)<Z06 s∨(Z06 s=Z06 (Z0k p n s)∧cmpL (Zl s) (Zl (Z0k p n s))<0)): s=Z0k p n (s+1):=by
 rw[Z0k,h,betS]
 rcases hb with h1 | ⟨h1,h2⟩<;>simp[*]
theorem Z4b{s: Nat}(hb:¬Z06 (Z0k p n s)<Z06 s)(h2:Z06 s=Z06 (Z0k p n s)→¬cmpL (Zl s) (Zl (Z0k p n s))<0): Z0k p n s=Z0k p n (s+1):=by
 rw[Z0k,betS,if_neg];simp only[Y5,Yo,decide_eq_true_eq,not_and,not_or];exact fun _=>⟨hb,fun h=>h2 h⟩
theorem ZhC{s: Nat}(h:∀i,i<(Zl s).length→subB s (finS p n ((Zl s).getD i 0).toNat)=true): okS p n s=true:=by
 rw[okS,Yl];intro n hn;obtain⟨i,hi,rfl⟩:=List.getElem_of_mem hn;simpa[hi] using h i hi
theorem ZhD{s i: Nat}(hi:i<(Zl s).length)(h:subB s (finS p n ((Zl s).getD i 0).toNat)=false): okS p n s=false:=by
 rw[okS,List.all_eq_false];exact⟨_,Z8 0 hi,by rw[h];decide⟩
end
theorem ZaI:∀s,s<64→∀n∈Zl s,0≤n∧n<6:=by decide +kernel
theorem Z5P:∀s,s<64→(Zl s).length≤6:=by decide +kernel
def mosR(x:Vm)(ls:List Int)(T:List (List Int)):List Int:=Zl (Z0k (nrB x ls T) T.length (2 ^ T.length))
theorem ZL{w:World}{base: Nat}{xs:List Int}(h:w.ownsRow base 3 1 (.slice a n c) n (ivs xs))(hn:n=xs.length): Z7 w (.slice a n c) 1 (xs.map Z5):=by
 subst hn;exact Zz (row:=Z5) (by rw[←Z1e];exact h) (fun _=>rfl)
theorem ZhI:∀n,n≤6→2 ^ n≤64:=by decide
theorem Zfy(x:Vm)(hv:VOk x)(S:List (Value×List Int))(hs:∀p∈S,RcpOk x p.2)(h6:S.length≤6)(ls:List Int)(hll:Z5r x ls)(hl4:ls.length≤1000)(a b:Option Addr)(c d:Nat)(w:World)(h:x.At w)(hl:Z0s w a S)(hq:Z7 w (.slice b ls.length d) 1 (ls.map Z5)):
  Calls (Qy.prog μ) 22 #[.agg #[.int .i64 x.B,.slice x.da x.D.length x.dc,.slice x.la x.L.length x.lc,.int .i64 x.tol],.slice a S.length c,.slice b ls.length d] w (Z47 (mosR x ls (S.map (·.2)),0) w):=by
 have E:Ext [] w w:=Ext.refl _ _;have HX:=Lib.hid h;have HV:=Lib.hid hv;have HL:=Lib.hid hl;have HS:=Lib.hid hs;have HQ:=Lib.hid hq;have HM:=Lib.hid hll;obtain⟨T,hT⟩:∃T,T=S.map (·.2):=⟨_,rfl⟩;have hTl:T.length=S.length:=by rw[hT,Yj]
 have HT:RowKit.Hid (∀t∈T,TubS (val t)):=Lib.hid (fun t ht=>by
  rw[hT]at ht;obtain⟨p,hp,rfl⟩:=List.mem_map.1 ht;exact(hs p hp).tub)
 obtain⟨p,hp⟩:∃p,p=nrB x ls T:=⟨_,rfl⟩;have HP:=Lib.hid hp;clear h hv hl hs hq hll hp;have G:=(Bk.nil w).ce E;refine(entM 92 Tryz.f22 rfl) fun F=>wR fun k1=>(F.bx G) fun yy F G=>(F.m) fun F=>(F.al G Qy.zeroValue30) fun yy F G=>k1<|wp_scope_straight<|wR fun k2=>(F.df) fun F=>k2<|wR fun k3=>(F.y (F.lb (G.q 1))) fun F=>(F.k0 G (Z0F x HV.out _ (HX.out.ext (G.e 2)))) fun F G=>(F.al G Qy.zeroValue85) @fun n8 w4 _ yy F G=>(F.sr G 0) fun G=>k3<|wR fun k4=>(F.y (F.lb (G.q 0))) fun F=>?_
 refine(F.m) fun F=>(F.k (Z3w x HV.out S HS.out h6 a c _ (HL.out.ext (G.e 3)))) ?_;rintro _ w6 ⟨ma,mc,rfl,om,e9⟩;refine⟨_,rfl,fun F=>?_⟩;replace G:=G.ex e9;rw[←hT,←hTl]at om;rw[←hTl]at F;have hrm:=Lib.hid (Zz (row:=fun t:List Int=>tubR (val t)) om (fun _=>rfl));clear om;replace G:=G.hr [];refine(F.al G Qy.zeroValue93) @fun n9 w7 _ yy F G=>(F.st G 0) fun G=>k4<|wR fun k5=>(F.y (F.lb (G.q 2))) fun F=>(F.m) fun F=>(F.k0 G (Z6K x HV.out ls HM.out hl4 b d _ (HX.out.ext (G.e 5)) (HQ.out.ext (G.e 5) (by simp)))) fun F G=>k5<|wR fun k6=>(F.al G Qy.zeroValue97) @fun n10 w10 _ yy F G=>?_
 have HTs:=Lib.hid (Z0L (X:=[n10]) hrm.out (fun W e=>hrm.out.ext e (by simp;omega)) []);have E9:=(G.e 2).mono (Y:=[n10]) (by simp);have q10:=G.q 0;replace q10:w10.heap[n10]?=some (.cells (sixC (finF p T.length 0 0)) 97 (0,0)):=by rw[Zcc];exact q10
 replace G:=G.rQ 0 q10;clear q10;replace G:=G.ce E9;refine k6<|wQ fun k7=>wR fun k8=>(F.y (F.lc (G.q 2))) fun F=>(F.y F.ln) fun F=>(F.m) fun F=>k8<|Yh<|lpB (F.b [2,7,8,9,10,26]) (G.b [0,2,4,5,6,7]) (T.length) (fun j Lv Sv W=>Lv=[(27,.int .i64 ((j:Nat):Int))]∧Sv=[.q n10 ((sixC (finF p T.length j 0))) 97]) ⟨_,_,F.u,G.u,rfl,rfl⟩ ?_
 clear F G;rintro j _ w11 _ _ hi1 ⟨rfl,rfl⟩ F G;replace G:=G.z;refine wR fun k9=>(F.y F.ls) fun F=>k9<|wQ fun k10=>F.ci (fun hc28=>?_) (fun hc28=>?_)
 ·refine Yi<|k10<|wQ fun k11=>Yh<|wR fun k12=>(F.m) fun F=>(F.al G Qy.zeroValue3) @fun n11 w12 _ yy F G=>(F.st G 0) fun G=>k12<|wR fun k13=>(F.y (F.lc (G.q 3))) fun F=>(F.y F.ln) fun F=>(F.m) fun F=>k13<|Yh<|lpB (F.b [2,7,8,9,10,11,26,27,31]) (G.b [0,2,3,4,5,6,7]) (T.length) (fun k Lv Sv W=>Lv=[(32,.int .i64 ((k:Nat):Int))]∧Sv=[.q n10 ((sixC (finF p T.length j k))) 97]) ⟨_,_,F.u,G.u,rfl,rfl⟩ ?_
  clear F G;rintro k _ w14 _ _ hi2 ⟨rfl,rfl⟩ F G;replace G:=G.z;refine wR fun k14=>(F.y F.ls) fun F=>k14<|wQ fun k15=>F.ci (fun hc33=>?_) (fun hc33=>?_)
  ·refine Yi<|k15<|wQ fun k16=>Yh<|wR fun k17=>(F.m) fun F=>(F.al G Qy.zeroValue3) @fun n12 w15 _ yy F G=>(F.st G 0) @fun w16 G=>k17<|wR fun k18=>(F.m) fun F=>(F.y F.mf) fun F=>?_
   have hsl:SlAt [] w16 ma 4 T.length (fun i=>tubR (val (T.getD i []))):=Zh (row:=fun t:List Int=>tubR (val t)) (hrm.out.ext (G.e 3) (by simp;omega)) [];refine(F.k0 G (Z6q ls 73 #[.pointer (some ⟨n8,0,none⟩),.pointer (some ⟨n9,0,none⟩),.pointer (some ⟨n11,0,none⟩),.pointer (some ⟨n12,0,none⟩)] (fun l=>!alkE x l.toNat (val (T.getD j [])) (val (T.getD k []))) b d _ (HQ.out.ext (G.e 8) (by simp)) hl4 Qy.call73 (fun W e n hn=>(by obtain⟨h0,h1⟩:=HM.out.2.1 n hn;have hm:=ZeB (μ:=μ) x HV.out T HT.out ma mc n8 n9 n11 n12 j k n.toNat (by omega) (by omega) (by omega) W ((HX.out.ext (G.e 8)).ext e) (e.keep0 (G.q 5)) (e.keep0 (G.q 4)) (e.keep0 (G.q 2)) (e.keep0 (G.q 0)) (Z9X hsl e) (by omega);rw[show ((n.toNat:Nat):Int)=n by omega]at hm;exact hm)))) fun F G=>(F.y F.nb) fun F=>?_;have hpe:(!(ls.any fun l=>!alkE x l.toNat (val (T.getD j [])) (val (T.getD k []))))=p j k:=by rw[HP.out];rfl
   rw[hpe]at F;have hfl:=Z9w p j k (by omega);refine k18<|F.cb (fun hc38=>?_) (fun hc38=>?_)
   ·refine(wX 7 G) fun G=>(F.s (F.lc (G.q 2))) fun F=>(F.s (F.ia 6 1)) fun F=>(F.s (F.lw (Zd7 (G.q 1) (k:=j) rfl (by omega)))) fun F=>?_
    rw[show finF p T.length j k j=((fnK p j k:Nat):Int) by simp[finF]]at F;refine(F.s (F.lc (G.q 0))) fun F=>?_;refine(F.s ((ZiB rfl (ev_c _ _) (F.at rfl)))) fun F=>?_;rw[shl8 k (by omega)]at F;refine(F.s ((R_or rfl (F.at rfl) (F.at rfl)))) fun F=>?_;rw[or8 _ hfl k (by omega)]at F;refine(F.s (F.ia 6 1)) fun F=>wpStill_nil<|(F.sw G 1 (Zd7 (G.q 1) (k:=j) rfl (by omega)) fun _ hw=>ZhL hw (G.q 1) (k:=j) rfl (by omega)) fun G=>?_
    have q10:=G.q 1;rw[Zej p hc38]at q10;replace G:=G.rQ 1 q10;clear q10;refine k16<|Yg<|(F.y F.ad) fun F=>(F.m) fun F=>?_
    show _∧_;exact⟨by omega,_,_,F.u,G.u,rfl,rfl⟩
   ·have q10:=G.q 1
    rw[Zh3 p hc38]at q10;replace G:=G.rQ 1 q10;clear q10;refine Yi<|k16<|Yg<|(F.y F.ad) fun F=>(F.m) fun F=>?_
    show _∧_;exact⟨by omega,_,_,F.u,G.u,rfl,rfl⟩
  ·refine wp_exit ?_
   have q10:=G.q 0;rw[show k=T.length by omega,Zcb]at q10;replace G:=G.rQ 0 q10;clear q10;refine k11<|Yg<|(F.y F.ad) fun F=>(F.m) fun F=>?_
   show _∧_;exact⟨by omega,_,_,F.u,G.u,rfl,rfl⟩
 ·refine wp_exit ?_
  have q10:=G.q 0;rw[show j=T.length by omega]at q10;replace G:=G.rQ 0 q10;clear q10;refine k7<|wR fun k19=>(F.m) fun F=>?_
  obtain⟨M2,hM2⟩:∃M2,M2=2 ^ T.length:=⟨_,rfl⟩;have hM64:M2≤64:=by rw[hM2];exact ZhI _ (by omega)
  rw[show (0:Int)=((Z0k p T.length 0:Nat):Int) from rfl]at F;refine k19<|wQ fun k20=>wp_label<|k20<|wQ fun k21=>wR fun k22=>(F.y (F.lc (G.q 2))) fun F=>(F.y F.ln) fun F=>?_
  refine(F.y ((ZiB rfl (ev_c _ _) (F.at rfl)))) fun F=>?_;rw[shl8 T.length (by omega),←hM2]at F;refine(F.m) fun F=>?_;rw[show (0:Int)=((0:Nat):Int) from rfl]at F;refine k22<|Yh<|lpB (F.b [7,10,50]) (G.b [2,3,4,5,6]) (M2) (fun s Lv Sv W=>Lv=[(13,.int .u8 ((Z0k p T.length s:Nat):Int)),(51,.int .u8 ((s:Nat):Int))]∧Sv=[.q n10 ((sixC (finF p T.length T.length 0))) 97]) ⟨_,_,F.u,G.u,rfl,rfl⟩ ?_
  clear F G;rintro s _ w20 _ _ hi3 ⟨rfl,rfl⟩ F G;replace G:=G.z;refine wQ fun k23=>?_;have hbl:=Z6e p T.length s (by omega);refine Yg<|(F.y F.ls) fun F=>k23<|wQ fun k24=>F.ci (fun hc52=>?_) (fun hc52=>?_)
  ·refine Yi<|k24<|wQ fun k25=>Yh<|wR fun k26=>(F.m) fun F=>(F.m) fun F=>k26<|wQ fun k27=>wR fun k28=>(F.m) fun F=>(F.k (Z6O s (by omega) _)) ?_
   rintro _ w21 ⟨sa,sc,rfl,os,e9⟩;refine⟨_,rfl,fun F=>?_⟩;replace G:=G.ex e9;have HSs:=Lib.hid (Z0d os rfl [] (by simp));have RA:=Lib.hid (ZL os rfl);clear os;have hsb:=Lib.hid (ZaI s (by omega));have hsl6:=Z5P s (by omega);replace G:=G.hr [];refine(F.y F.ln) fun F=>(F.m) fun F=>k28<|Yh<|lpB (F.b [7,10,13,14,50,51,55,56]) (G.b [0,2,3,4,5,6]) ((Zl s).length) (fun i Lv Sv W=>Lv=[(57,.int .i64 ((i:Nat):Int))]∧Sv=[.q n10 ((sixC (finF p T.length T.length 0))) 97]∧∀j,j<i→subB s (finS p T.length ((Zl s).getD j 0).toNat)=true) ⟨_,_,F.u,G.u,rfl,rfl,(fun j h=>by omega)⟩ ?_
   clear F G;rintro i _ w22 _ _ hi4 ⟨rfl,rfl,hoks⟩ F G;replace G:=G.z;refine wR fun k29=>(F.y F.ls) fun F=>k29<|wQ fun k30=>F.ci (fun hc58=>?_) (fun hc58=>?_)
   ·refine Yi<|k30<|wQ fun k31=>Yh<|wR fun k32=>(F.ix HSs.out i) fun xr33 F=>(F.y (F.l1 (xr33 _ (G.e 1)) 0)) fun F=>(F.m) fun F=>k32<|wQ fun k34=>?_
    obtain⟨hn0,hn6⟩:=hsb.out _ (Z8 (l:=Zl s) (i:=i) 0 (by omega));refine Yg<|(F.m) fun F=>(F.m) fun F=>(F.y (F.ia 6 1)) fun F=>(F.y (F.lw (Zd7 (G.q 0) (k:=((Zl s).getD i 0).toNat) rfl (by omega)))) fun F=>?_
    rw[Zei]at F;refine(F.y ((ZdG rfl (F.at rfl) (F.at rfl)))) fun F=>(F.y F.ne) fun F=>?_;have hnt:=not8 s (by omega) _ (Zh4 p (n:=T.length) (by omega) ((Zl s).getD i 0).toNat);refine k34<|F.ci (fun hc66=>?_) (fun hc66=>?_)
    ·have hsub:subB s (finS p T.length ((Zl s).getD i 0).toNat)=false:=by rw[←hnt];exact decide_eq_false hc66
     rw[Zbt p (ZhD p (show i<(Zl s).length by omega) hsub)]at F;refine wp_exit<|k25<|Yg ?_
     refine(F.y ((Z4A rfl (F.at rfl) (ev_c _ _)))) fun F=>?_;rw[add8 s (by omega)]at F;refine(F.m) fun F=>?_;show _∧_;exact⟨by omega,_,_,F.u,G.u,rfl,rfl⟩
    ·have hsub:subB s (finS p T.length ((Zl s).getD i 0).toNat)=true:=by rw[←hnt];exact decide_eq_true (Classical.not_not.1 hc66)
     refine Yi<|k31<|Yg<|(F.y F.ad) fun F=>(F.m) fun F=>?_
     show _∧_;exact⟨by omega,_,_,F.u,G.u,rfl,rfl,(fun j h=>by rcases Nat.lt_succ_iff_lt_or_eq.1 h with h | rfl;(· exact hoks j h);(· exact hsub))⟩
   ·refine wp_exit<|k27<|wQ fun k35=>?_
    have hok:=ZhC p (n:=T.length) (s:=s) (fun j hj=>hoks j (by omega));refine Yg<|(F.m) fun F=>(F.k0 G (Z4e s (by omega) _)) fun F G=>(F.m) fun F=>(F.k0 G (Z4e (Z0k p T.length s) hbl _)) fun F G=>(F.y F.gt) fun F=>(F.m) fun F=>?_
    by_cases hg1:(((Z06 (Z0k p T.length s):Nat):Int)<((Z06 s:Nat):Int))
    ·replace F:=F.re (k:=73) rfl (congrArg Value.bool (decide_eq_true hg1))
     refine(F.n) fun F=>(F.n) fun F=>(F.n) fun F=>(F.n) fun F=>(F.n) fun F=>(F.n) fun F=>(F.n) fun F=>(F.n) fun F=>(F.n) fun F=>(F.n) fun F=>(F.n) fun F=>(F.n) fun F=>(F.n) fun F=>(F.y F.pT) fun F=>k35 ?_
     try rw[Z4b p (by omega) (fun h=>absurd h (by omega))]at F
     refine(F.cT)<|Yg<|(F.m) fun F=>(F.m) fun F=>?_
     replace F:=F.re (k:=13) rfl (congrArg (fun z:Nat=>Value.int .u8 ((z:Nat):Int)) (Z7t p hok (by first | exact .inl (by omega) | exact .inr ⟨by omega,hc87⟩)));refine k25<|Yg ?_
     refine(F.y ((Z4A rfl (F.at rfl) (ev_c _ _)))) fun F=>?_;rw[add8 s (by omega)]at F;refine(F.m) fun F=>?_;show _∧_;exact⟨by omega,_,_,F.u,G.u,rfl,rfl⟩
    ·replace F:=F.re (k:=73) rfl (congrArg Value.bool (decide_eq_false hg1))
     refine(F.m) fun F=>(F.k0 G (Z4e s (by omega) _)) fun F G=>(F.m) fun F=>(F.k0 G (Z4e (Z0k p T.length s) hbl _)) fun F G=>(F.y F.eq) fun F=>(F.m) fun F=>?_
     by_cases hg2:(((Z06 s:Nat):Int)=((Z06 (Z0k p T.length s):Nat):Int))
     ·replace F:=F.re (k:=79) rfl (congrArg Value.bool (decide_eq_true hg2))
      refine(F.m) fun F=>(F.k (Z6O s (by omega) _)) ?_;rintro _ w27 ⟨la,lc,rfl,ol,e9⟩;refine⟨_,rfl,fun F=>?_⟩;replace G:=G.ex e9;have RL:=Lib.hid (ZL ol rfl);clear ol;replace G:=G.hr [];refine(F.m) fun F=>(F.k (Z6O (Z0k p T.length s) hbl _)) ?_;rintro _ w28 ⟨ka,kc,rfl,ok,e9⟩;refine⟨_,rfl,fun F=>?_⟩;replace G:=G.ex e9;have hk6:=Z5P _ hbl;refine(F.k0 G (Z2O (Zl s) (Zl (Z0k p T.length s)) la ka lc kc _ (RL.out.ext (G.e 0) (by simp)) (ZL ok rfl) (by omega) (by omega))) fun F G=>(F.y F.ls) fun F=>(F.y F.pT) fun F=>(F.y F.pF) fun F=>k35 ?_
      try rw[Z4b p (by omega) (fun h=>absurd h (by omega))]at F
      refine F.ci (fun hc87=>?_) (fun hc87=>?_)
      ·refine Yg<|(F.m) fun F=>(F.m) fun F=>?_
       replace F:=F.re (k:=13) rfl (congrArg (fun z:Nat=>Value.int .u8 ((z:Nat):Int)) (Z7t p hok (by first | exact .inl (by omega) | exact .inr ⟨by omega,hc87⟩)));refine k25<|Yg ?_
       refine(F.y ((Z4A rfl (F.at rfl) (ev_c _ _)))) fun F=>?_;rw[add8 s (by omega)]at F;refine(F.m) fun F=>?_;show _∧_;exact⟨by omega,_,_,F.u,G.u,rfl,rfl⟩
      ·rw[Z4b p (by omega) (fun h=>by first | exact hc87 | exact absurd h (by omega))]at F
       refine Yi<|k25<|Yg ?_
       refine(F.y ((Z4A rfl (F.at rfl) (ev_c _ _)))) fun F=>?_;rw[add8 s (by omega)]at F;refine(F.m) fun F=>?_;show _∧_;exact⟨by omega,_,_,F.u,G.u,rfl,rfl⟩
     ·replace F:=F.re (k:=79) rfl (congrArg Value.bool (decide_eq_false hg2))
      refine(F.n) fun F=>(F.n) fun F=>(F.n) fun F=>(F.n) fun F=>(F.n) fun F=>(F.n) fun F=>(F.y F.pF) fun F=>(F.y F.pF) fun F=>k35 ?_
      try rw[Z4b p (by omega) (fun h=>absurd h (by omega))]at F
      refine(F.cF)<|Yi<|k25<|Yg ?_
      refine(F.y ((Z4A rfl (F.at rfl) (ev_c _ _)))) fun F=>?_;rw[add8 s (by omega)]at F;refine(F.m) fun F=>?_;show _∧_;exact⟨by omega,_,_,F.u,G.u,rfl,rfl⟩
  ·refine wp_exit ?_
   rw[show s=M2 by omega]at F;refine k21<|wR fun k36=>(F.m) fun F=>?_
   have hEs:=(G.e 5).size;refine(F.k (Z6O (Z0k p T.length M2) (Z6e p _ _ hM64) _)) ?_;rintro _ w30 ⟨ra,rc,rfl,oo,e9⟩;refine⟨_,rfl,fun F=>?_⟩;replace G:=G.ex e9;replace oo:=Z0i oo hEs;replace G:=G.co oo;refine(F.m) fun F=>(F.st G 4) fun G=>k36<|wp_ret ?_
   (try simp only[Exit.inBlock,Exit.then,reduceIte])
   refine Z3K F<|ZN<|Z1A (Z6Y F rfl rfl rfl Qy.underlying30 rfl (G.q 4)) ?_
   rw[←hT,show mosR x ls T=Zl (Z0k p T.length M2) by rw[mosR,←HP.out,hM2]];have oo:=G.o 0;exact⟨ra,rc,rfl,oo,(G.e 6)⟩
end
section
open Go.RowKit Go.Maps
variable{μ:Nat}
def mrG(t q:List Int):Nat→Int:=fun k=>val q k-val t k
def mrF(t q:List Int)(i:Nat):Nat→Int:=fun k=>if k<i then mrG t q k else 0
def mrC(t q:List Int):Int×Int:=(prt (mrG t q),0)
def corB(x:Vm)(t:List Int)(s:Nat→Int)(ls:List Int)(q:List Int):Bool:=((List.range 4).all fun k=>decide (0≤mrG t q k))&&matE x (val q) s ls
def corO(x:Vm)(t:List Int)(s:Nat→Int)(ls:List Int)(pre:List (List Int)):Option (List Int):=Z1T (mrC t) (pre.filter (corB x t s ls))
def corR(x:Vm)(t:List Int)(s:Nat→Int)(ls:List Int):List Int×Int:=match corO x t s ls (recL x.D.length) with
 | none=>([],11)
 | some q=>(cutL (mrG t q) x.D.length,0)
theorem ZgQ{x:Vm}{t q ls:List Int}{s:Nat→Int}(hk:k<4)(h:mrG t q k<0): corB x t s ls q=false:=by
 rw[corB,show ((List.range 4).all fun k=>decide (0≤mrG t q k))=false from List.all_eq_false.2 ⟨k,by simpa using hk,by simp;omega⟩,Bool.false_and]
theorem ZiQ{x:Vm}{t q ls:List Int}{s:Nat→Int}(h:∀k,k<4→0≤mrG t q k): corB x t s ls q=matE x (val q) s ls:=by
 rw[corB,show ((List.range 4).all fun k=>decide (0≤mrG t q k))=true from Yl.2 fun k hk=>decide_eq_true (h k (by simpa using hk)),Bool.true_and]
theorem Z1t{x:Vm}{t q ls:List Int}{s:Nat→Int}{pre:List (List Int)}(h:corB x t s ls q=false): corO x t s ls (pre++[q])=corO x t s ls pre:=by
 rw[corO,corO,Z2Q,h];rfl
theorem ZbM{x:Vm}{t q ls:List Int}{s:Nat→Int}{pre:List (List Int)}(h:corB x t s ls q=true): corO x t s ls (pre++[q])=offO (mrC t) (corO x t s ls pre) q:=by
 rw[corO,corO,Z2Q,h,if_pos rfl,Z3m]
theorem ZeC(t q:List Int):mrF t q 0=zf:=by funext k;simp[mrF,zf]
theorem Zjw(t q:List Int)(i:Nat):upF (mrF t q i) i (mrG t q i)=mrF t q (i+1):=by
 funext k
 rw[upF,mrF,mrF]
 by_cases h:k=i
 ·subst h;simp
 ·by_cases h2:k<i
  ·simp[h,h2,show k<i+1 by omega]
  ·simp[h,h2,show ¬k<i+1 by omega]
theorem ZcC(t q:List Int):tubC (mrF t q 4)=tubC (mrG t q):=Z3x fun k hk=>if_pos hk
theorem Z1D{α:Type}{g:α→Nat→Int}{c:α→Int×Int}{o:Option α}{ob:Nat}{W:World}{T:TypeId}{fz:Nat×Nat}(h:W.heap[ob]?=some (.cells (Z6Q g c o) T fz)): Z11 ob W=none:=by
 rw[Z11,h]
 cases o<;>rfl
structure CorI(x:Vm)(t:List Int)(sv lv:Value)(w:World)(B n6 n7 n9 n10 n11 n12:Nat)(o:Option (List Int))(W:World):Prop where
 q6:W.heap[n6]?=some (.cells #[sv] 22 (0,0))
 q7:W.heap[n7]?=some (.cells #[lv] 22 (0,0))
 q9:W.heap[n9]?=some (.cells #[.int .i64 0] 30 (0,0))
 q10:W.heap[n10]?=some (.cells #[.int .i64 x.B,.slice x.da x.D.length x.dc,.slice x.la x.L.length x.lc,.int .i64 x.tol] 85 (0,0))
 q11:W.heap[n11]?=some (.cells (tubC (val t)) 88 (0,0))
 q12:W.heap[n12]?=some (.cells (Z6Q (mrG t) (mrC t) o) 129 (0,0))
 E:Ext [] w W
 sz:B≤W.heap.size
theorem CorI.kept{x:Vm}{t:List Int}{sv lv:Value}{w:World}{B n6 n7 n9 n10 n11 n12:Nat}{o:Option (List Int)}{W V:World}{row:Option Nat}(h:CorI x t sv lv w B n6 n7 n9 n10 n11 n12 o W)(hg:W.grownBy V row)(h1:∀r,row=some r→B≤r)(hB:n6<B∧n7<B∧n9<B∧n10<B∧n11<B∧n12<B∧w.heap.size≤B): CorI x t sv lv w B n6 n7 n9 n10 n11 n12 o V:=by
 obtain⟨b6,b7,b9,b10,b11,b12,bw⟩:=hB;have hk:∀{k:Nat} {cs:Array Value} {T:TypeId} {fz:Nat×Nat},W.heap[k]?=some (.cells cs T fz)→k<B→V.heap[k]?=some (.cells cs T fz):=
  fun {k cs T fz} hq hb=>(hg.block k (Z3 hq) (fun e=>by have:=h1 k e.symm;omega)).trans hq
 exact⟨hk h.q6 b6,hk h.q7 b7,hk h.q9 b9,hk h.q10 b10,hk h.q11 b11,hk h.q12 b12,Z1w h.E hg fun b e hl=>(by have:=h1 b e;omega),Yd h.sz hg.size⟩
theorem Z90(x:Vm)(hv:VOk x)(t:List Int)(ht:RcpOk x t)(s:List Int)(hs:Z5m x s)(ls:List Int)(hl:Z5r x ls)(hll:ls.length≤1000)(ta sa la:Option Addr)(tc sc lc:Nat)(w:World)(h:x.At w)(hp:Z7 w (.slice ta t.length tc) 1 (t.map Z5))(hr:Z7 w (.slice sa s.length sc) 1 (s.map Z5))(hq:Z7 w (.slice la ls.length lc) 1 (ls.map Z5)):
  Calls (Qy.prog μ) 56 #[.agg #[.int .i64 x.B,.slice x.da x.D.length x.dc,.slice x.la x.L.length x.lc,.int .i64 x.tol],.slice ta t.length tc,.slice sa s.length sc,.slice la ls.length lc] w (Z47 (corR x t (val s) ls) w):=by
 have E:Ext [] w w:=Ext.refl _ _;have HX:=Lib.hid h;have HV:=Lib.hid hv;have HS:=Lib.hid hs;have HR:=Lib.hid hr;have HQ:=Lib.hid hq;have HP:=Lib.hid hp;have HL:=Lib.hid hl;have HT:=Lib.hid ht;have HTS:=Lib.hid ht.tub;have hd4:=hv.d4;obtain⟨hnd,hrl⟩:=Z6W x.D.length (by omega);have HRL:=Lib.hid hrl;clear h hv hs hr hq hl hnd hrl ht hp;refine Z3C 64 Qy.func56 rfl Tryz.ntmps56 (Nat.le_of_ble_eq_true rfl) ?_;intro fa F;refine wS fun K1 hK1=>?_;refine Yg ?_;refine sqN F (Z30 rfl (F.at rfl)) fun fa w1 F hw=>?_;obtain⟨n4,hn⟩:=eQ w.heap.size;rw[←hn]at F;have s4:=sQ hn;have l4_E:=lQ hn E.size;replace E:=Z6 E hw;have q4:=Z02 hw hn;clear hw hn;refine sqN F (Z30 rfl (F.at rfl)) fun fa w2 F hw=>?_;obtain⟨n6,hn⟩:=eQ w1.heap.size;rw[←hn]at F;have s6:=sQ hn;have l6_E:=lQ hn E.size;have m6_4:=tQ hn (Z3 q4);replace q4:=Z1 hw q4;replace E:=Z6 E hw;have q6:=Z0Y hw rfl hn;clear hw hn;refine sqN F (Z30 rfl (F.at rfl)) fun fa w3 F hw=>?_;obtain⟨n7,hn⟩:=eQ w2.heap.size;rw[←hn]at F;have s7:=sQ hn;have l7_E:=lQ hn E.size;have m7_4:=tQ hn (Z3 q4);have m7_6:=tQ hn (Z3 q6);replace q4:=Z1 hw q4;replace q6:=Z1 hw q6;replace E:=Z6 E hw;have q7:=Z0Y hw rfl hn;clear hw hn;refine F.vl (ZH rfl (ev_c fa _)) fun fa F=>?_;refine sqN F (ZT rfl Qy.zeroValue30) fun fa w4 F hw=>?_;obtain⟨n9,hn⟩:=eQ w3.heap.size;rw[←hn]at F;have s9:=sQ hn;have l9_E:=lQ hn E.size;have m9_4:=tQ hn (Z3 q4);have m9_6:=tQ hn (Z3 q6);have m9_7:=tQ hn (Z3 q7);replace q4:=Z1 hw q4;replace q6:=Z1 hw q6;replace q7:=Z1 hw q7;replace E:=Z6 E hw;have q9:=Z0Y hw rfl hn;clear hw hn;refine wN<|hK1 _ _ ?_
 refine wp_scope_straight ?_;refine wS fun K2 hK2=>?_;refine Yg ?_;refine Za1 F rfl rfl (Zbe rfl rfl (mpS (F.at rfl) mp0)) fun fa F=>?_;refine wN<|hK2 _ _<|wS fun K3 hK3=>?_
 refine Yg ?_;refine F.vl (Ze rfl (F.at rfl) Qy.underlying27 rfl (by kernel_rfl) q4) fun fa F=>?_;refine sqC F (Z0b rfl rfl Qy.call64 (mpS (F.at rfl) mp0)) (Z0F x HV.out _ (HX.out.ext E)) fun e w5 hR=>?_;obtain⟨rfl,e9⟩:=hR;refine⟨_,rfl,fun fa F=>?_⟩;replace q4:=(e9).keep0 q4;replace q6:=(e9).keep0 q6;replace q7:=(e9).keep0 q7;replace q9:=(e9).keep0 q9;replace E:=Zj E (e9);clear e9;refine sqN F (ZT rfl Qy.zeroValue85) fun fa w6 F hw=>?_;obtain⟨n10,hn⟩:=eQ w5.heap.size;rw[←hn]at F;have s10:=sQ hn;have l10_E:=lQ hn E.size;have m10_4:=tQ hn (Z3 q4);have m10_6:=tQ hn (Z3 q6);have m10_7:=tQ hn (Z3 q7);have m10_9:=tQ hn (Z3 q9);replace q4:=Z1 hw q4;replace q6:=Z1 hw q6;replace q7:=Z1 hw q7;replace q9:=Z1 hw q9;replace E:=Z6 E hw;have q10:=Z02 hw hn;clear hw hn;refine Z1n rfl rfl (Z0t rfl (F.at rfl) (F.at rfl) (by kernel_rfl) (by first | (simp[Value.oneCell'];done) | (simp[Value.oneCell',id];done)) q10 rfl) ?_;intro w7 hw;replace q4:=kcs hw q4;replace q6:=kcs hw q6;replace q7:=kcs hw q7;replace q9:=kcs hw q9;replace q10:=Z1Y hw q10 rfl;replace E:=ecs E hw;clear hw;refine wN<|hK3 _ _<|wS fun K4 hK4=>?_
 refine Yg ?_;refine F.vl (Ze rfl (F.at rfl) Qy.underlying85 rfl (by kernel_rfl) q10) fun fa F=>?_;refine F.mv fun fa F=>?_;refine sqC F (Z0b rfl rfl Qy.call65 (mpS (F.at rfl) (mpS (F.at rfl) mp0))) (Z9 x HV.out t HT.out ta tc _ (HP.out.ext E (by simp))) fun e w8 hR=>?_;obtain⟨rfl,e9⟩:=hR;refine⟨_,rfl,fun fa F=>?_⟩;replace q4:=(e9).keep0 q4;replace q6:=(e9).keep0 q6;replace q7:=(e9).keep0 q7;replace q9:=(e9).keep0 q9;replace q10:=(e9).keep0 q10;replace E:=Zj E (e9);clear e9;refine sqN F (ZT rfl Qy.zeroValue88) fun fa w9 F hw=>?_;obtain⟨n11,hn⟩:=eQ w8.heap.size;rw[←hn]at F;have s11:=sQ hn;have l11_E:=lQ hn E.size;have m11_4:=tQ hn (Z3 q4);have m11_6:=tQ hn (Z3 q6);have m11_7:=tQ hn (Z3 q7);have m11_9:=tQ hn (Z3 q9);have m11_10:=tQ hn (Z3 q10);replace q4:=Z1 hw q4;replace q6:=Z1 hw q6;replace q7:=Z1 hw q7;replace q9:=Z1 hw q9;replace q10:=Z1 hw q10;replace E:=Z6 E hw;have q11:=Z02 hw hn;clear hw hn;refine Z1n rfl rfl (Z0t rfl (F.at rfl) (F.at rfl) (by kernel_rfl) (by simp[tubC,Value.oneCell']) q11 rfl) ?_;intro w10 hw;replace q4:=kcs hw q4;replace q6:=kcs hw q6;replace q7:=kcs hw q7;replace q9:=kcs hw q9;replace q10:=kcs hw q10;replace q11:=Z1Y hw q11 rfl;replace E:=ecs E hw;clear hw;refine wN<|hK4 _ _<|wS fun K5 hK5=>?_
 refine Yg ?_;refine F.vl (Ze rfl (F.at rfl) Qy.underlying85 rfl (by kernel_rfl) q10) fun fa F=>?_;refine F.vl (ZE rfl (F.at rfl) Qy.underlying22 rfl ((Z0 q6 0).trans (get0))) fun fa F=>?_;refine sqC F (Z0b rfl rfl Qy.call78 (mpS (F.at rfl) (mpS (F.at rfl) mp0))) (Z4Z x HV.out s HS.out sa sc _ (HR.out.ext E (by simp))) fun e w11 hR=>?_;obtain⟨rfl,e9⟩:=hR;refine⟨_,rfl,fun fa F=>?_⟩;replace q4:=(e9).keep0 q4;replace q6:=(e9).keep0 q6;replace q7:=(e9).keep0 q7;replace q9:=(e9).keep0 q9;replace q10:=(e9).keep0 q10;replace q11:=(e9).keep0 q11;replace E:=Zj E (e9);clear e9;refine wN<|hK5 _ _<|wS fun K6 hK6=>?_
 refine Yg ?_;refine F.vl (Ze rfl (F.at rfl) Qy.underlying85 rfl (by kernel_rfl) q10) fun fa F=>?_;refine F.vl (ZE rfl (F.at rfl) Qy.underlying22 rfl ((Z0 q7 0).trans (get0))) fun fa F=>?_;refine sqC F (Z0b rfl rfl Qy.call71 (mpS (F.at rfl) (mpS (F.at rfl) mp0))) (Z6K x HV.out ls HL.out hll la lc _ (HX.out.ext E) (HQ.out.ext E (by simp))) fun e w12 hR=>?_;obtain⟨rfl,e9⟩:=hR;refine⟨_,rfl,fun fa F=>?_⟩;replace q4:=(e9).keep0 q4;replace q6:=(e9).keep0 q6;replace q7:=(e9).keep0 q7;replace q9:=(e9).keep0 q9;replace q10:=(e9).keep0 q10;replace q11:=(e9).keep0 q11;replace E:=Zj E (e9);clear e9;refine wN<|hK6 _ _<|wS fun K7 hK7=>?_
 refine Yg ?_;refine sqN F (ZT rfl Qy.zeroValue129) fun fa w13 F hw=>?_;obtain⟨n12,hn⟩:=eQ w12.heap.size;rw[←hn]at F;have s12:=sQ hn;have l12_E:=lQ hn E.size;have m12_4:=tQ hn (Z3 q4);have m12_6:=tQ hn (Z3 q6);have m12_7:=tQ hn (Z3 q7);have m12_9:=tQ hn (Z3 q9);have m12_10:=tQ hn (Z3 q10);have m12_11:=tQ hn (Z3 q11);replace q4:=Z1 hw q4;replace q6:=Z1 hw q6;replace q7:=Z1 hw q7;replace q9:=Z1 hw q9;replace q10:=Z1 hw q10;replace q11:=Z1 hw q11;replace E:=Z6 E hw;have q12:=Z02 hw hn;clear hw hn;refine wpList_nil ?_;replace q12:w13.heap[n12]?=some (.cells (Z6Q (mrG t) (mrC t) (corO x t (val s) ls [])) 129 (0,0)):=q12;refine hK7 _ _<|wS fun K8 hK8=>?_
 refine wp_label ?_;refine hK8 _ _<|wS fun K9 hK9=>wS fun K10 hK10=>?_
 refine Yg ?_;refine F.vl (Ze rfl (F.at rfl) Qy.underlying85 rfl (by kernel_rfl) q10) fun fa F=>?_;have b12':=Z3 q12;refine sqC F (Z0b rfl rfl Qy.call110 (mpS (F.at rfl) mp0)) (Z4W x _) fun e w14 hR=>?_;obtain⟨nb,rfl,hnb,qb,e9⟩:=hR;refine⟨_,rfl,fun fa F=>?_⟩;replace q4:=(e9).keep0 q4;replace q6:=(e9).keep0 q6;replace q7:=(e9).keep0 q7;replace q9:=(e9).keep0 q9;replace q10:=(e9).keep0 q10;replace q11:=(e9).keep0 q11;replace q12:=(e9).keep0 q12;replace E:=Zj E (e9);clear e9;refine wN<|hK10 _ _ ?_
 refine Yh ?_;clear q4;obtain⟨w3,hw3⟩:∃w3,w3=w14:=⟨_,rfl⟩;have b6:=Z3 q6;have b7:=Z3 q7;have b9:=Z3 q9;have b10:=Z3 q10;have b11:=Z3 q11;have b12:=Z3 q12;have bb:=Z3 qb;have bw:=E.size;have hr0:Z11 n12 w14=none:=Z1D q12;have hseq:=Z3V (μ:=μ) x hd4 [] n12 nb w14 b12 (by simp) (fun r e=>by rw[hr0]at e;cases e) ⟨by simp,by omega,by rw[hr0];simp⟩ qb;have hI0:CorI x t (.slice sa s.length sc) (.slice la ls.length lc) w w14.heap.size n6 n7 n9 n10 n11 n12 (corO x t (val s) ls []) w14:=⟨q6,q7,q9,q10,q11,q12,E,Ye _⟩;replace F:=F.sub (.c 6 rfl (.c 7 rfl (.c 9 rfl (.c 10 rfl (.c 11 rfl (.c 12 rfl (.c 28 rfl .n)))))));refine ZcS (F.at rfl) Qy.call126 hseq (fun _=>rfl) b12 (fun pre W=>CorI x t (.slice sa s.length sc) (.slice la ls.length lc) w w14.heap.size n6 n7 n9 n10 n11 n12 (corO x t (val s) ls pre) W) ?h1 ?ho ?hc hI0 (fun pre q a' W=>∃nt,Has 64 [] a' [(6,.pointer (some ⟨n6,0,none⟩)),(7,.pointer (some ⟨n7,0,none⟩)),(9,.pointer (some ⟨n9,0,none⟩)),(10,.pointer (some ⟨n10,0,none⟩)),(11,.pointer (some ⟨n11,0,none⟩)),(12,.pointer (some ⟨n12,0,none⟩)),(13,.pointer (some ⟨nt,0,none⟩))]∧CorI x t (.slice sa s.length sc) (.slice la ls.length lc) w w14.heap.size n6 n7 n9 n10 n11 n12 (corO x t (val s) ls pre) W∧W.heap[nt]?=some (.cells (tubC (val q)) 88 (0,0))∧w14.heap.size≤nt) ?hax ?assign ?body ?done
 case h1=>rintro pre U V hI hg;exact hI.kept hg (fun r e=>by cases e) ⟨b6,b7,b9,b10,b11,b12,bw⟩
 case ho=>rintro pre U V r hI hr ⟨o,ho,hc⟩ hg;exact hI.kept hg (fun r' e=>by cases e;exact hr) ⟨b6,b7,b9,b10,b11,b12,bw⟩
 case hc=>rintro pre U V r hI hr hsf-hg;exact hI.kept hg (fun r' e=>by cases e;exact hr) ⟨b6,b7,b9,b10,b11,b12,bw⟩
 case hax=>rintro pre q a' U V r ⟨nt,hF,hI,hnt,hn⟩ hr ⟨o,ho,hc⟩ hg;refine⟨nt,hF,hI.kept hg (fun r' e=>by cases e;exact hr) ⟨b6,b7,b9,b10,b11,b12,bw⟩,(hg.block nt (Z3 hnt) (fun e=>?_)).trans hnt,hn⟩;cases e;rw[ho]at hnt;cases hnt;cases hc
 case assign =>
  clear q6 q7 q9 q10 q11 q12 qb E hI0;rintro l pre q W K ⟨q6,q7,q9,q10,q11,q12,E,hsz⟩ hK;have hbo:=Z3 q12;refine Zab (F.param (p:=29) (by decide) (.agg (tubC (val q)))) ?_;clear F fa;intro fa F;have ER:Ext [] W W:=Ext.refl _ _;refine Zf rfl (fun h=>by obtain⟨_,_,h⟩:=h;exact h) ?_;refine sqN F (ZT rfl Qy.zeroValue88) fun fa w15 F hw=>?_;obtain⟨n13,hn⟩:=eQ W.heap.size;rw[←hn]at F;have s13:=sQ hn;have l13_E:=lQ hn E.size;have l13_ER:=lQ hn ER.size;have m13_6:=tQ hn (Z3 q6);have m13_7:=tQ hn (Z3 q7);have m13_9:=tQ hn (Z3 q9);have m13_10:=tQ hn (Z3 q10);have m13_11:=tQ hn (Z3 q11);have m13_12:=tQ hn (Z3 q12);replace q6:=Z1 hw q6;replace q7:=Z1 hw q7;replace q9:=Z1 hw q9;replace q10:=Z1 hw q10;replace q11:=Z1 hw q11;replace q12:=Z1 hw q12;replace E:=Z6 E hw;replace ER:=Z6 ER hw;have q13:=Z02 hw hn;clear hw hn;refine Z1n rfl rfl (Z0t rfl (F.at rfl) (F.at rfl) (by kernel_rfl) (by simp[tubC,Value.oneCell']) q13 rfl) ?_;intro w16 hw;replace q6:=kcs hw q6;replace q7:=kcs hw q7;replace q9:=kcs hw q9;replace q10:=kcs hw q10;replace q11:=kcs hw q11;replace q12:=kcs hw q12;replace q13:=Z1Y hw q13 rfl;replace E:=ecs E hw;replace ER:=ecs ER hw;clear hw;refine wpList_nil ?_;exact hK _ _ (Z0o ER (by simp)) (Z5E ER hbo) ⟨n13,F.sub (.c 6 rfl (.c 7 rfl (.c 9 rfl (.c 10 rfl (.c 11 rfl (.c 12 rfl (.c 13 rfl .n))))))),⟨q6,q7,q9,q10,q11,q12,E,Yd hsz ER.size⟩,q13,by omega⟩
 case body =>
  clear q6 q7 q9 q10 q11 q12 qb E hI0 F fa;rintro l pre q fa W0 ⟨nt,F,⟨q6,q7,q9,q10,q11,q12,E,hsz⟩,q13,hnt⟩ hpx;have hqm:q∈recL x.D.length:=hpx.subset (by simp);obtain⟨hql,hqs,hqg,hq1,hq6,hqb⟩:=HRL.out q hqm;have hro:Z11 n12 W0=none:=Z1D q12;have ER:Ext [n12] W0 W0:=Ext.refl _ _;have hsz0:=hsz;refine wpIn_block ?_;refine wpIn_seq_k fun K11 hK11=>?_;refine Zf rfl (fun h=>by obtain⟨_,_,h⟩:=h;exact h) ?_;refine sqN F (ZT rfl Qy.zeroValue88) fun fa w17 F hw=>?_;obtain⟨n14,hn⟩:=eQ W0.heap.size;rw[←hn]at F;have s14:=sQ hn;have l14_E:=lQ hn E.size;have l14_ER:=lQ hn ER.size;have m14_6:=tQ hn (Z3 q6);have m14_7:=tQ hn (Z3 q7);have m14_9:=tQ hn (Z3 q9);have m14_10:=tQ hn (Z3 q10);have m14_11:=tQ hn (Z3 q11);have m14_12:=tQ hn (Z3 q12);have m14_13:nt<n14:=by rw[hn];exact Z3 q13
  replace q6:=Z1 hw q6;replace q7:=Z1 hw q7;replace q9:=Z1 hw q9;replace q10:=Z1 hw q10;replace q11:=Z1 hw q11;replace q12:=Z1 hw q12;replace q13:=Z1 hw q13;replace E:=Z6 E hw;replace ER:=Z6 ER hw;have q14:=Z02 hw hn;clear hw hn;refine wpList_nil ?_;replace q14:w17.heap[n14]?=some (.cells (tubC (mrF t q 0)) 88 (0,0)):=by rw[ZeC];exact q14
  refine hK11 _ _ ?_;refine wpIn_seq_k fun K12 hK12=>?_;refine wpIn_seq_k fun K13 hK13=>?_;refine Zf rfl (fun h=>by obtain⟨_,_,h⟩:=h;exact h) ?_;refine F.vl (Z1q rfl (ev_c fa _)) fun fa F=>?_;refine wN<|hK13 _ _ ?_
  refine wpIn_block ?_;have F0:=F.sub (.c 6 rfl (.c 7 rfl (.c 10 rfl (.c 11 rfl (.c 12 rfl (.c 13 rfl (.c 14 rfl .n)))))));refine Zhj F0 (4) (fun i Lv W=>Lv=[(30,.int .i64 ((i:Nat):Int))]∧Ext [] w W∧Ext [n12] W0 W∧W.heap[n6]?=some (.cells #[.slice sa s.length sc] 22 (0,0))∧W.heap[n7]?=some (.cells #[.slice la ls.length lc] 22 (0,0))∧W.heap[n9]?=some (.cells #[.int .i64 0] 30 (0,0))∧W.heap[n10]?=some (.cells #[.int .i64 x.B,.slice x.da x.D.length x.dc,.slice x.la x.L.length x.lc,.int .i64 x.tol] 85 (0,0))∧W.heap[n11]?=some (.cells (tubC (val t)) 88 (0,0))∧W.heap[n12]?=some (.cells (Z6Q (mrG t) (mrC t) (corO x t (val s) ls pre)) 129 (0,0))∧W.heap[nt]?=some (.cells (tubC (val q)) 88 (0,0))∧W.heap[n14]?=some (.cells (tubC (mrF t q i)) 88 (0,0))∧∀j,j<i→0≤mrG t q j) ⟨_,⟨rfl,E,ER,q6,q7,q9,q10,q11,q12,q13,q14,(fun j h=>by omega)⟩,F.sub (.c 30 rfl (.c 6 rfl (.c 7 rfl (.c 10 rfl (.c 11 rfl (.c 12 rfl (.c 13 rfl (.c 14 rfl .n))))))))⟩ ?_;clear F F0;clear E ER q6 q7 q9 q10 q11 q12 q13 q14;rintro i _ fa w18 hi1 ⟨rfl,E,ER,q6,q7,q9,q10,q11,q12,q13,q14,hge⟩ F;refine wpIn_seq_k fun K14 hK14=>?_;refine Zf rfl (fun h=>by obtain⟨_,_,h⟩:=h;exact h) ?_;refine F.vl (Z7o rfl (F.at rfl) (ev_c fa _)) fun fa F=>?_;refine wN<|hK14 _ _ ?_
  refine wpIn_seq_k fun K15 hK15=>?_;refine ZfM F rfl (fun hc31=>?_) (fun hc31=>?_)
  ·skip
   refine wpIn_skip ?_;refine hK15 _ _ ?_;refine wpIn_seq_k fun K16 hK16=>?_;refine wpIn_block ?_;refine wpIn_seq_k fun K17 hK17=>?_;refine Zf rfl (fun h=>by obtain⟨_,_,h⟩:=h;exact h) ?_;refine F.mv fun fa F=>?_;refine F.as fun fa F=>?_;refine wN<|hK17 _ _ ?_
   refine wpIn_seq_k fun K18 hK18=>?_;have hqi:=hqs i (by omega);have hti:=HTS.out i (by omega);have hmg:val q i-val t i=mrG t q i:=rfl;refine Z7S (Ext [] w18) (some 9) follows rfl (fun h=>by obtain⟨_,_,h⟩:=h;exact h) fun w19 hh eh=>?_;have q6_:=q6;replace q6:=Zv hh q6;have q7_:=q7;replace q7:=Zv hh q7;have q9_:=q9;replace q9:=Zv hh q9;have q10_:=q10;replace q10:=Zv hh q10;have q11_:=q11;replace q11:=Zv hh q11;have q12_:=q12;replace q12:=Zv hh q12;have q13_:=q13;replace q13:=Zv hh q13;have q14_:=q14;replace q14:=Zv hh q14;have E_:=E;have zEw19:=E.size;replace E:=Zj E eh;have ER_:=ER;have zERw19:=ER.size;replace ER:=Zj ER eh;have eT:=eh;clear hh eh;refine F.x (i:=0) rfl (fun w'=>Z1q rfl (F.at rfl)) (fun _=>eT) fun fa F=>?_;refine F.x (i:=1) rfl (fun w'=>Z1q rfl (F.at rfl)) (fun _=>eT) fun fa F=>?_;refine F.x (i:=2) rfl (fun w'=>Z1K (n:=4) (sz:=1) rfl (F.at rfl) (F.at rfl) Qy.underlying88 (by kernel_rfl) (by omega) (by omega)) (fun _=>eT) fun fa F=>?_;refine F.xr (i:=3) rfl (fun w' hS=>ZE rfl (F.at rfl) Qy.underlying3 rfl (Z2J (hS.keep q13_ (by simp)) (k:=i) rfl (by omega))) (fun _=>eT) fun fa F=>?_;refine F.x (i:=4) rfl (fun w'=>Z1q rfl (F.at rfl)) (fun _=>eT) fun fa F=>?_;refine F.x (i:=5) rfl (fun w'=>Z1K (n:=4) (sz:=1) rfl (F.at rfl) (F.at rfl) Qy.underlying88 (by kernel_rfl) (by omega) (by omega)) (fun _=>eT) fun fa F=>?_;refine F.xr (i:=6) rfl (fun w' hS=>ZE rfl (F.at rfl) Qy.underlying3 rfl (Z2J (hS.keep q11_ (by simp)) (k:=i) rfl (by omega))) (fun _=>eT) fun fa F=>?_;refine F.x (i:=7) rfl (fun w'=>Zgq rfl (F.at rfl) (F.at rfl) (by omega) (by omega)) (fun _=>eT) fun fa F=>?_;refine F.x (i:=8) rfl (fun w'=>Z1K (n:=4) (sz:=1) rfl (F.at rfl) (F.at rfl) Qy.underlying88 (by kernel_rfl) (by omega) (by omega)) (fun _=>eT) fun fa F=>?_;refine Z3B (i:=9) (by kernel_rfl) (ZcM rfl rfl rfl (ZU rfl (F.at rfl) (F.at rfl) rfl (by kernel_rfl) (Z2J q14 (k:=i) rfl (by omega)) (Za q14 _)) ?_);intro w20 hw;replace q6:=kce hw q6;replace q7:=kce hw q7;replace q9:=kce hw q9;replace q10:=kce hw q10;replace q11:=kce hw q11;replace q12:=kce hw q12;replace q13:=kce hw q13;replace q14:=Z8M hw q14 (k:=i) rfl (by omega);replace E:=ece E hw;replace ER:=ece ER hw;clear hw;refine⟨gone (by kernel_rfl),?_⟩;rw[hmg,Zjw]at q14;refine Z6d (by kernel_rfl) ?_ _;clear eT q6_ q7_ q9_ q10_ q11_ q12_ q13_ q14_ E_ ER_;refine hK18 _ _ ?_;refine wpIn_seq_k fun K19 hK19=>?_;refine Zf rfl (fun h=>by obtain⟨_,_,h⟩:=h;exact h) ?_;refine F.mv fun fa F=>?_;refine F.vl (Z1K (n:=4) (sz:=1) rfl (F.at rfl) (F.at rfl) Qy.underlying88 (by kernel_rfl) (by omega) (by omega)) fun fa F=>?_;refine F.vl (ZE rfl (F.at rfl) Qy.underlying3 rfl (Z2J q14 (k:=i) rfl (by omega))) fun fa F=>?_;rw[show mrF t q (i+1) i=mrG t q i by simp[mrF]]at F;refine F.vl (Z7o rfl (F.at rfl) (ev_c fa _)) fun fa F=>?_;refine wN<|hK19 _ _ ?_
   refine ZfM F rfl (fun hc45=>?_) (fun hc45=>?_)
   ·skip
    have hcb:corB x t (val s) ls q=false:=ZgQ (k:=i) (by omega) hc45;refine wpIn_exit ?_
    try (rw[show i=4 by omega,ZcC]at q14;have hge4:∀j,j<4→0≤mrG t q j:=fun j hj=>hge j (by omega))
    (try simp only[Exit.inBlock,reduceIte])
    show KeepsFrom _ _ _∧KeepR _ _ _ _∧_;rw[←hw3];refine⟨Z0o ER (by intro b hb;simp only[Yc,Ya,or_false]at hb;subst hb;exact .inl (by rw[hw3];exact b12)),Z0A ER (by intro k cs T fz hk hsf hm;simp only[Yc,Ya,or_false]at hm;exact hsf.2.1 hm) (.inl ((Z1D q12).trans hro.symm)),?_⟩;have hsw:w3.heap.size≤w20.heap.size:=(by rw[hw3];exact Yd hsz0 ER.size);show CorI _ _ _ _ _ _ _ _ _ _ _ _ (corO x t (val s) ls (pre++[q])) _
    first | exact⟨q6,q7,q9,q10,q11,q12,E,hsw⟩ | (rw[Z1t hcb];exact⟨q6,q7,q9,q10,q11,q12,E,hsw⟩) | (rw[Z1t (hco.trans hc51)];exact⟨q6,q7,q9,q10,q11,q12,E,hsw⟩)
   ·skip
    refine wpIn_skip ?_;refine hK16 _ _ ?_;refine Zf rfl (fun h=>by obtain⟨_,_,h⟩:=h;exact h) ?_;refine F.vl (Z65 rfl (F.at rfl) (ev_c fa _) (by omega) (by omega)) fun fa F=>?_;refine F.mv fun fa F=>?_;refine wpList_nil ?_;show _∧_;exact⟨by omega,_,⟨rfl,E,ER,q6,q7,q9,q10,q11,q12,q13,q14,(fun j h=>by rcases Nat.lt_succ_iff_lt_or_eq.1 h with h | rfl;(· exact hge j h);(· omega))⟩,F.sub (.c 30 rfl (.c 6 rfl (.c 7 rfl (.c 10 rfl (.c 11 rfl (.c 12 rfl (.c 13 rfl (.c 14 rfl .n))))))))⟩
  ·skip
   refine wpIn_exit ?_
   try (rw[show i=4 by omega,ZcC]at q14;have hge4:∀j,j<4→0≤mrG t q j:=fun j hj=>hge j (by omega))
   refine hK12 _ _ ?_;refine wpIn_seq_k fun K20 hK20=>?_;refine Zf rfl (fun h=>by obtain⟨_,_,h⟩:=h;exact h) ?_;refine F.vl (Ze rfl (F.at rfl) Qy.underlying85 rfl (by kernel_rfl) q10) fun fa F=>?_;refine F.vl (Ze rfl (F.at rfl) Qy.underlying88 rfl (by kernel_rfl) q13) fun fa F=>?_;refine F.vl (ZE rfl (F.at rfl) Qy.underlying22 rfl ((Z0 q6 0).trans (get0))) fun fa F=>?_;refine F.vl (ZE rfl (F.at rfl) Qy.underlying22 rfl ((Z0 q7 0).trans (get0))) fun fa F=>?_;refine sqC F (Z0b rfl rfl Qy.call80 (mpS (F.at rfl) (mpS (F.at rfl) (mpS (F.at rfl) (mpS (F.at rfl) mp0))))) (Z9I x HV.out (val q) hqs s HS.out ls HL.out.2.1 hll sa la sc lc _ (HX.out.ext E) (HR.out.ext E (by simp)) (HQ.out.ext E (by simp))) fun e w21 hR=>?_;obtain⟨rfl,e9⟩:=hR;refine⟨_,rfl,fun fa F=>?_⟩;replace q6:=(e9).keep0 q6;replace q7:=(e9).keep0 q7;replace q9:=(e9).keep0 q9;replace q10:=(e9).keep0 q10;replace q11:=(e9).keep0 q11;replace q12:=(e9).keep0 q12;replace q13:=(e9).keep0 q13;replace q14:=(e9).keep0 q14;replace E:=Zj E (e9);replace ER:=Zj ER (e9);clear e9;refine wpList_nil ?_;have hco:=ZiQ (x:=x) (s:=val s) (ls:=ls) hge4;refine hK20 _ _ ?_;refine ZiP F rfl (fun hc51=>?_) (fun hc51=>?_)
   ·skip
    refine Z7S (Ext [n12] w21) none follows rfl (fun h=>by obtain⟨_,_,h⟩:=h;exact h) fun w22 hh eh=>?_;have q6_:=q6;replace q6:=Zv hh q6;have q7_:=q7;replace q7:=Zv hh q7;have q9_:=q9;replace q9:=Zv hh q9;have q10_:=q10;replace q10:=Zv hh q10;have q11_:=q11;replace q11:=Zv hh q11;have q12_:=q12;replace q12:=Zv hh q12;have q13_:=q13;replace q13:=Zv hh q13;have q14_:=q14;replace q14:=Zv hh q14;have E_:=E;have zEw22:=E.size;replace E:=Zj E eh;have ER_:=ER;have zERw22:=ER.size;replace ER:=Zj ER eh;have eT:=eh.mono (Y:=[n12]) (by simp);clear hh eh;refine F.xr (i:=0) rfl (fun w' hS=>Ze rfl (F.at rfl) Qy.underlying88 rfl (by kernel_rfl) (hS.keep q14_ (by simp;omega))) (fun _=>eT) fun fa F=>?_;refine F.xr (i:=1) rfl (fun w' hS=>Ze rfl (F.at rfl) Qy.underlying88 rfl (by kernel_rfl) (hS.keep q14_ (by simp;omega))) (fun _=>eT) fun fa F=>?_;have hmb:∀k,k<4→0≤mrG t q k∧mrG t q k≤1000:=fun k hk=>⟨hge4 k hk,by have:=hqs k hk;have:=HTS.out k hk;rw[mrG];omega⟩;refine Z3B (i:=2) (by kernel_rfl) (Z6U F rfl rfl (by decide) rfl (Z0b rfl rfl Qy.call83 (mpS (F.at rfl) mp0)) (Z0r (mrG t q) hmb _) fun e w23 hR=>?_);obtain⟨rfl,e9⟩:=hR;refine⟨_,rfl,fun fa F=>?_⟩;replace q6:=(e9).keep0 q6;replace q7:=(e9).keep0 q7;replace q9:=(e9).keep0 q9;replace q10:=(e9).keep0 q10;replace q11:=(e9).keep0 q11;replace q12:=(e9).keep0 q12;replace q13:=(e9).keep0 q13;replace q14:=(e9).keep0 q14;replace E:=Zj E (e9);replace ER:=Zj ER (e9);replace eT:=Zj eT (e9);clear e9;refine⟨fun _=>eT,?_⟩;refine F.x (i:=3) rfl (fun w'=>Z93 rfl (prS (F.at rfl) pr0) (cells:=#[.int .i64 (prt (mrG t q)),.int .i64 0]) (by kernel_rfl)) (fun _=>eT) fun fa F=>?_;refine Z3B (i:=4) (by kernel_rfl) (Z6U F rfl rfl (by decide) rfl (Z0b rfl rfl Qy.call109 (mpS (F.at rfl) (mpS (F.at rfl) (mpS (F.at rfl) mp0)))) (Z7O (mrG t) (mrC t) n12 (corO x t (val s) ls pre) q _ q12) fun e w24 hR=>?_);obtain⟨rfl,q12',e9⟩:=hR;refine⟨_,rfl,fun fa F=>?_⟩;replace q6:=(e9).keep q6 (by simp;omega);replace q7:=(e9).keep q7 (by simp;omega);replace q9:=(e9).keep q9 (by simp;omega);replace q10:=(e9).keep q10 (by simp;omega);replace q11:=(e9).keep q11 (by simp;omega);replace q13:=(e9).keep q13 (by simp;omega);replace q14:=(e9).keep q14 (by simp;omega);replace E:=E.trans' e9 (fun i hi hl=>by simp only[Yc,Ya,or_false]at hi⊢;omega);replace ER:=ER.trans' e9 (fun i hi hl=>by simp only[Yc,Ya,or_false]at hi⊢;omega);replace eT:=eT.trans' e9 (fun i hi hl=>by simp only[Yc,Ya,or_false]at hi⊢;omega);refine⟨fun _=>eT,?_⟩;rw[←ZbM (hco.trans hc51)]at q12';replace q12:=q12';clear q12';refine Z6d (by kernel_rfl) ?_ _;clear eT q6_ q7_ q9_ q10_ q11_ q12_ q13_ q14_ E_ ER_
    (try simp only[Exit.inBlock,reduceIte])
    show KeepsFrom _ _ _∧KeepR _ _ _ _∧_;rw[←hw3];refine⟨Z0o ER (by intro b hb;simp only[Yc,Ya,or_false]at hb;subst hb;exact .inl (by rw[hw3];exact b12)),Z0A ER (by intro k cs T fz hk hsf hm;simp only[Yc,Ya,or_false]at hm;exact hsf.2.1 hm) (.inl ((Z1D q12).trans hro.symm)),?_⟩;have hsw:w3.heap.size≤w24.heap.size:=(by rw[hw3];exact Yd hsz0 ER.size);show CorI _ _ _ _ _ _ _ _ _ _ _ _ (corO x t (val s) ls (pre++[q])) _
    first | exact⟨q6,q7,q9,q10,q11,q12,E,hsw⟩ | (rw[Z1t hcb];exact⟨q6,q7,q9,q10,q11,q12,E,hsw⟩) | (rw[Z1t (hco.trans hc51)];exact⟨q6,q7,q9,q10,q11,q12,E,hsw⟩)
   ·skip
    refine wpIn_skip ?_
    (try simp only[Exit.inBlock,reduceIte])
    show KeepsFrom _ _ _∧KeepR _ _ _ _∧_;rw[←hw3];refine⟨Z0o ER (by intro b hb;simp only[Yc,Ya,or_false]at hb;subst hb;exact .inl (by rw[hw3];exact b12)),Z0A ER (by intro k cs T fz hk hsf hm;simp only[Yc,Ya,or_false]at hm;exact hsf.2.1 hm) (.inl ((Z1D q12).trans hro.symm)),?_⟩;have hsw:w3.heap.size≤w21.heap.size:=(by rw[hw3];exact Yd hsz0 ER.size);show CorI _ _ _ _ _ _ _ _ _ _ _ _ (corO x t (val s) ls (pre++[q])) _
    first | exact⟨q6,q7,q9,q10,q11,q12,E,hsw⟩ | (rw[Z1t hcb];exact⟨q6,q7,q9,q10,q11,q12,E,hsw⟩) | (rw[Z1t (hco.trans hc51)];exact⟨q6,q7,q9,q10,q11,q12,E,hsw⟩)
 case done =>
  clear q6 q7 q9 q10 q11 q12 qb E hI0;rintro D W hD ⟨q6,q7,q9,q10,q11,q12,E,hsz⟩ qD;replace F:=F.mark (d:={target:=.collected D,args:=#[]});refine hK9 _ _<|wS fun K21 hK21=>wS fun K22 hK22=>?_
  by_cases hN:corO x t (val s) ls (recL x.D.length)=none
  ·skip
   replace q12:W.heap[n12]?=some (.cells #[.int .i64 (zf 0),.int .i64 (zf 1),.int .i64 (zf 2),.int .i64 (zf 3),.int .i64 0,.int .i64 0,.bool false] 129 (0,0)):=by rw[hN]at q12;exact q12
   refine Yg ?_;refine F.vl (ZQ rfl (F.at rfl) Qy.underlying129 rfl (n:=6) (sz:=1) rfl (by kernel_rfl) (by decide)) fun fa F=>?_;refine F.vl (ZE rfl (F.at rfl) Qy.underlying4 rfl ((Z0 q12 6).trans (getS (getS (getS (getS (getS (getS (get0))))))))) fun fa F=>?_;refine F.vl (Zah rfl (F.at rfl)) fun fa F=>?_;refine wN<|hK22 _ _ ?_
   refine cd_T F rfl ?_;refine wS fun K23 hK23=>?_;refine Yg ?_;refine F.vl (ZH rfl (ev_c fa _)) fun fa F=>?_;refine Z1n rfl rfl (ZU rfl (F.at rfl) (ev_c fa _) rfl (by kernel_rfl) ((Z0 q9 0).trans (get0)) (Za q9 0)) ?_;intro w25 hw;replace q6:=kce hw q6;replace q7:=kce hw q7;replace q9:=ZF hw q9 (by simp only[List.setIfInBounds_toArray,lsQ,lzQ];exact rfl);replace q10:=kce hw q10;replace q11:=kce hw q11;replace q12:=kce hw q12;replace qD:=kce hw qD;replace E:=ece E hw;clear hw;refine wN<|hK23 _ _ ?_
   refine wp_ret ?_
   (try simp only[Exit.inBlock,Exit.then,reduceIte])
   refine Z3K F ?_;refine Z8C qD fun w26 hw=>?_;replace q6:=Zt hw qD rfl q6;replace q7:=Zt hw qD rfl q7;replace q9:=Zt hw qD rfl q9;replace q10:=Zt hw qD rfl q10;replace q11:=Zt hw qD rfl q11;replace q12:=Zt hw qD rfl q12;replace E:=Z6D E hw (by omega);clear hw qD;refine ZN ?_;refine Z1A (Z6Y F rfl rfl rfl Qy.underlying30 rfl q9) ?_;rw[corR,hN];exact⟨none,0,rfl,World.ownsRow_nil _ _ _ _,E⟩
  ·skip
   obtain⟨q,hq⟩:=Option.ne_none_iff_exists'.1 hN;replace q12:W.heap[n12]?=some (.cells #[.int .i64 (mrG t q 0),.int .i64 (mrG t q 1),.int .i64 (mrG t q 2),.int .i64 (mrG t q 3),.int .i64 (mrC t q).1,.int .i64 (mrC t q).2,.bool true] 129 (0,0)):=by rw[hq]at q12;exact q12
   refine Yg ?_;refine F.vl (ZQ rfl (F.at rfl) Qy.underlying129 rfl (n:=6) (sz:=1) rfl (by kernel_rfl) (by decide)) fun fa F=>?_;refine F.vl (ZE rfl (F.at rfl) Qy.underlying4 rfl ((Z0 q12 6).trans (getS (getS (getS (getS (getS (getS (get0))))))))) fun fa F=>?_;refine F.vl (Zah rfl (F.at rfl)) fun fa F=>?_;refine wN<|hK22 _ _ ?_
   refine cd_F F rfl ?_;refine Yi ?_;refine hK21 _ _<|wS fun K24 hK24=>?_
   refine Yg ?_;refine F.vl (Ze rfl (F.at rfl) Qy.underlying85 rfl (by kernel_rfl) q10) fun fa F=>?_;refine F.vl (ZQ rfl (F.at rfl) Qy.underlying129 rfl (n:=0) (sz:=4) rfl (by kernel_rfl) (by decide)) fun fa F=>?_;refine F.vl (Z4y rfl (F.at rfl) Qy.underlying88 rfl (by kernel_rfl) (Z5O (n:=4) q12 rfl (midS (get0) (midS (getS (get0)) (midS (getS (getS (get0))) (midS (getS (getS (getS (get0)))) mid0)))))) fun fa F=>?_;have hEs:=E.size;refine sqC F (Z0b rfl rfl Qy.call108 (mpS (F.at rfl) (mpS (F.at rfl) mp0))) (ZbN x HV.out (mrG t q) _) fun e w27 hR=>?_;obtain⟨ca,cc,rfl,oo,e9⟩:=hR;refine⟨_,rfl,fun fa F=>?_⟩;replace q6:=(e9).keep0 q6;replace q7:=(e9).keep0 q7;replace q9:=(e9).keep0 q9;replace q10:=(e9).keep0 q10;replace q11:=(e9).keep0 q11;replace q12:=(e9).keep0 q12;replace qD:=(e9).keep0 qD;replace E:=Zj E (e9);clear e9;replace oo:=Z0i oo hEs;refine F.as fun fa F=>?_;refine Z1n rfl rfl (ZU rfl (F.at rfl) (ev_c fa _) rfl (by kernel_rfl) ((Z0 q9 0).trans (get0)) (Za q9 0)) ?_;intro w28 hw;replace oo:=Z0R hw oo (ZW oo q9 (by decide));replace q6:=kce hw q6;replace q7:=kce hw q7;replace q9:=ZF hw q9 (by simp only[List.setIfInBounds_toArray,lsQ,lzQ];exact rfl);replace q10:=kce hw q10;replace q11:=kce hw q11;replace q12:=kce hw q12;replace qD:=kce hw qD;replace E:=ece E hw;clear hw;refine wN<|hK24 _ _ ?_
   refine wp_ret ?_
   (try simp only[Exit.inBlock,Exit.then,reduceIte])
   refine Z3K F ?_;refine Z8C qD fun w29 hw=>?_;replace oo:=Z9L hw qD rfl oo;replace q6:=Zt hw qD rfl q6;replace q7:=Zt hw qD rfl q7;replace q9:=Zt hw qD rfl q9;replace q10:=Zt hw qD rfl q10;replace q11:=Zt hw qD rfl q11;replace q12:=Zt hw qD rfl q12;replace E:=Z6D E hw (by omega);clear hw qD;refine ZN ?_;refine Z1A (Z6Y F rfl rfl rfl Qy.underlying30 rfl q9) ?_;rw[corR,hq];refine⟨ca,cc,?_,?_,E⟩
   ·simp only[Z4f]
   ·simp only[Z4f];exact oo
end
section
open Go.RowKit
variable{μ:Nat}
section
variable(c:Int→Int→Int)
def swp(l:List Int)(j:Nat):List Int:=(l.set (j+1) (l.getD j 0)).set j (l.getD (j+1) 0)
def bubL:List Int→Nat→List Int
 | l,0=>l
 | l,j+1=>if c (l.getD (j+1) 0) (l.getD j 0)<0 then bubL (swp l j) j else l
def srtK(l:List Int):Nat→List Int
 | 0=>l
 | k+1=>bubL c (srtK l k) (k+1)
def srtL(l:List Int):List Int:=srtK c l (l.length-1)
theorem Z8V(l:List Int)(j:Nat):(swp l j).length=l.length:=by simp[swp]
theorem Zdr(h:j+1<l.length){p:Int→Prop}(hp:∀n∈l,p n): ∀n∈swp l j,p n:=by
 intro n hn
 rcases List.mem_or_eq_of_mem_set hn with hn | rfl
 ·rcases List.mem_or_eq_of_mem_set hn with hn | rfl
  ·exact hp n hn
  ·exact hp _ (Z8 0 (by omega))
 ·exact hp _ (Z8 0 h)
theorem Zbx:∀(j:Nat) (l:List Int),(bubL c l j).length=l.length
 | 0,_=>rfl
 | j+1,l=>by
  rw[bubL]
  split
  ·rw[Zbx j,Z8V]
  ·rfl
theorem Zby{p:Int→Prop}:∀(j:Nat) (l:List Int),j<l.length→(∀n∈l,p n)→∀n∈bubL c l j,p n
 | 0,_,_,h=>h
 | j+1,l,hj,h=>by
  rw[bubL]
  split
  ·exact Zby j _ (by rw[Z8V];omega) (Zdr hj h)
  ·exact h
theorem Z78(l:List Int):∀k,(srtK c l k).length=l.length
 | 0=>rfl
 | k+1=>by rw[srtK,Zbx,Z78 l k]
theorem Zdj{p:Int→Prop}(l:List Int)(h:∀n∈l,p n):∀k,k<l.length→∀n∈srtK c l k,p n
 | 0,_=>h
 | k+1,hk=>by rw[srtK];exact Zby c _ _ (by rw[Z78];exact hk) (Zdj l h k (by omega))
theorem ZdY(h:¬c (l.getD (j+1) 0) (l.getD j 0)<0): bubL c l (j+1)=l:=by rw[bubL,if_neg h]
theorem ZiK(h:c (l.getD (j+1) 0) (l.getD j 0)<0): bubL c l (j+1)=bubL c (swp l j) j:=by rw[bubL,if_pos h]
end
theorem Zco(f:FuncId)(cs:Array Value)(c:Int→Int→Int)(p:Int→Prop)(base r n:Nat)(a:Option Addr)(ca:Nat)(l:List Int)(w:World)(hn:l.length=n)(h1:n≤1000)(hp:∀m∈l,p m)(ho:w.ownsRow base 3 1 (.slice a n ca) n (ivs l))(hr:∀b,(Value.slice a n ca).ownBlock=some b→b=r)
  (hf:∀args w,(callFunc f args).run (Qy.prog μ) w = .ok (.enter f args) w) (hc:∀W,Ext [r] w W→∀m k,p m→p k→Calls (Qy.prog μ) f (#[]++[Value.int .i64 m,Value.int .i64 k].toArray++cs) W fun e W'=>e = .returned (.int .i64 (c m k))∧Ext [] W W') :
  Calls (Qy.prog μ) 148 #[.slice a n ca,.int .i64 0,.int .i64 ((n:Nat):Int),.func (.func f) #[] cs] w fun e w'=>e = .returned (.tuple #[])∧w'.ownsRow base 3 1 (.slice a n ca) n (ivs (srtL c l))∧Ext [r] w w':=by
 have E:Ext [r] w w:=Ext.refl _ _;have HC:=Lib.hid hc;have HF:=Lib.hid hf;have HP:=Lib.hid hp;have HR:=Lib.hid hr;replace ho:w.ownsRow base 3 1 (.slice a n ca) n (ivs (srtK c l 0)):=ho;clear hc hf hp hr;have G:=(Bk.nil w).ce E;replace G:=G.co ho;refine(ent 53 Tryz.f148 rfl) fun F=>wR fun k1=>(F.m) fun F=>(F.y F.ad) fun F=>?_;rw[show (0:Int)+1=((0+1:Nat):Int) from rfl]at F;refine(F.m) fun F=>k1<|Yh<|lpB (F.b [0,1,2,3]) (G.b [1]) (n) (fun i Lv Sv W=>Lv=[(8,.int .i64 ((i+1:Nat):Int))]∧Sv=[]∧W.ownsRow base 3 1 (.slice a n ca) n (ivs (srtK c l i))∧(i<n∨(i=0∧n=0))) ⟨_,_,F.u,G.u,rfl,rfl,(G.o 0),(by omega)⟩ ?_
 clear F G;rintro i _ w1 _ _ hi1 ⟨rfl,rfl,ho,hin⟩ F G;replace G:=(G.z).co ho;refine wQ fun k2=>wR fun k3=>(F.m) fun F=>(F.m) fun F=>(F.y F.ls) fun F=>k3<|F.ci (fun hc14=>?_) (fun hc14=>?_)
 ·refine Yi<|k2<|wQ fun k4=>Yh<|wR fun k5=>(F.m) fun F=>(F.m) fun F=>k5<|Yh<|lpB (F.b [0,1,2,3,8]) (G.b [1]) (i+1) (fun k Lv Sv W=>∃j:Nat,∃l2:List Int,Lv=[(9,.int .i64 ((j:Nat):Int))]∧Sv=[]∧W.ownsRow base 3 1 (.slice a n ca) n (ivs l2)∧j+k=i+1∧l2.length=n∧bubL c l2 j=srtK c l (i+1)∧∀m∈l2,p m) ⟨_,_,F.u,G.u,_,_,rfl,rfl,(G.o 0),(by omega),(by rw[Z78];exact hn),rfl,(Zdj c l HP.out i (by omega))⟩ ?_
  clear F G;rintro k _ w2 _ _ hi2 ⟨j,l2,rfl,rfl,ho,hjk,hl2,hb2,hm2⟩ F G;replace G:=(G.z).co ho;refine wQ fun k6=>wQ fun k7=>?_
  by_cases hj0:j=0
  ·subst hj0
   refine(wX 14 G) fun G=>(F.sm) fun F=>(F.sm) fun F=>(F.s F.gtF) fun F=>(F.sm) fun F=>(F.sn) fun F=>(F.sn) fun F=>(F.sn) fun F=>(F.sn) fun F=>(F.sn) fun F=>(F.sn) fun F=>(F.sn) fun F=>(F.sn) fun F=>(F.sn) fun F=>(F.sn) fun F=>wpStill_nil ?_;refine(F.n) fun F=>(F.n) fun F=>(F.y F.pF) fun F=>?_;have ho:=G.o 0;rw[show l2=srtK c l (i+1) from hb2]at ho;replace G:=G.rO 0 ho;clear ho;refine k7<|(F.cF)<|wp_exit<|k4<|Yg<|(F.m) fun F=>(F.y F.ad) fun F=>?_
   rw[show ((i+1:Nat):Int)+1=((i+1+1:Nat):Int) from rfl]at F;refine(F.m) fun F=>?_;show _∧_;exact⟨by omega,_,_,F.u,G.u,rfl,rfl,(G.o 0),(by omega)⟩
  ·obtain⟨j,rfl⟩:∃j',j=j'+1:=⟨j-1,by omega⟩
   have ho:=G.o 0;have HS:=Lib.hid (Z0d ho hl2.symm [] (by simp));replace G:=G.hr [];refine(wX 14 G) fun G=>(F.sm) fun F=>(F.sm) fun F=>(F.s F.gtT) fun F=>(F.sm) fun F=>(F.sm) fun F=>(F.sm) fun F=>(F.sm) fun F=>(F.sx HS.out (j+1)) fun xr8 F=>(F.s (F.l1 (xr8 _ (G.e 0)) 0)) fun F=>(F.sm) fun F=>(F.sm) fun F=>(F.s F.sb) fun F=>?_;rw[show ((j+1:Nat):Int)-1=((j:Nat):Int) by omega]at F;refine(F.sx HS.out j) fun xr9 F=>(F.s (F.l1 (xr9 _ (G.e 0)) 0)) fun F=>wpStill_nil ?_;refine(F.kr (Z2K rfl (F.at rfl) HF.out (mpS (F.at rfl) (mpS (F.at rfl) mp0)) rfl) (HC.out _ (G.e 2) (l2.getD (j+1) 0) (l2.getD j 0) (hm2 _ (Z8 0 (by omega))) (hm2 _ (Z8 0 (by omega))))) ?_;rintro _ w5 ⟨rfl,e9⟩;refine⟨_,rfl,fun F=>?_⟩;replace G:=G.ex e9;refine(F.y F.ls) fun F=>(F.y F.pT) fun F=>k7<|F.ci (fun hc34=>?_) (fun hc34=>?_)
   ·refine Yi<|k6<|wQ fun k10=>Yh ?_
    have ho:=G.o 1;have HS:=Lib.hid (Z0d ho hl2.symm [] (by simp));have hil:=Z2v l2;replace G:=(G.d 0).hr [];have G2:=G;refine(wD [] (some 15) G) fun G=>(F.z 0 (G.t 0) F.mo) fun F=>(F.z 1 (G.t 0) F.mo) fun F=>(F.z 2 (G.t 0) F.mo) fun F=>(F.z 3 (G.t 0) F.mo) fun F=>(F.z 4 (G.t 0) F.sb) fun F=>?_;rw[show ((j+1:Nat):Int)-1=((j:Nat):Int) by omega]at F;refine(F.z 5 (G.t 0) F.mo) fun F=>(F.z 6 (G.t 0) F.mo) fun F=>(F.z 7 (G.t 0) F.sb) fun F=>?_;rw[show ((j+1:Nat):Int)-1=((j:Nat):Int) by omega]at F;obtain⟨xb11,xo11,xa11,xr11⟩:=HS.out j (by omega);refine(F.z 8 (G.t 0) (F.is 1 xa11)) fun F=>(F.zr 9 (G.t 0) fun hS=>F.l1 (xr11 _ ((G2.e 0).nil hS)) 0) fun F=>(F.z 10 (G.t 0) F.mo) fun F=>(F.z 11 (G.t 0) F.mo) fun F=>?_;obtain⟨xb12,xo12,xa12,xr12⟩:=HS.out (j+1) (by omega);refine(F.z 12 (G.t 0) (F.is 1 xa12)) fun F=>(F.zr 13 (G.t 0) fun hS=>F.l1 (xr12 _ ((G2.e 0).nil hS)) 0) fun F=>?_;obtain⟨xb13,xo13,xa13,xr13⟩:=HS.out (j+1) (by omega);refine(F.z 14 (G.t 0) (F.is 1 xa13)) fun F=>?_;replace G:=(G.d 1).d 0;obtain⟨⟨u0,hcu⟩,hfu,hst⟩:=Z3I (G.o 0) xa13 (j:=(j+1)) (p:=xo13+((j+1:Nat):Int).toNat*1) (by first | omega | (simp;omega)) (by omega);refine Z3B (i:=15) (by kernel_rfl) (ZcM rfl rfl (F.want rfl) (ZU rfl (F.at rfl) (F.at rfl) rfl (by kernel_rfl) hcu hfu) ?_);intro w7 hw;obtain⟨hown',hg⟩:=hst _ _ hw;have ho:=(G.o 0);have E:=G.e 1;replace G:=G.d 1;replace E:=Z1w E hg (fun b hb hl=>by rw[HR.out b hb];simp);replace G:=(G.gr 0 hg hown').ce E;clear hst hcu hfu hw hg hown';refine .intro (gone (by kernel_rfl)) ?_;have ho:=G.o 1;rw[Z2w]at ho;have hil2:=Z2v (l2.set (j+1) (l2.getD j 0));rw[List.length_set]at hil2;replace G:=G.rO 1 ho;clear ho;obtain⟨xb14,xo14,xa14,xr14⟩:=HS.out j (by omega);refine(F.z 16 (gone (by kernel_rfl)) (F.is 1 xa14)) fun F=>?_;obtain⟨⟨u0,hcu⟩,hfu,hst⟩:=Z3I (G.o 1) xa14 (j:=j) (p:=xo14+((j:Nat):Int).toNat*1) (by first | omega | (simp;omega)) (by omega);refine Z3B (i:=17) (by kernel_rfl) (ZcM rfl rfl (F.want rfl) (ZU rfl (F.at rfl) (F.at rfl) rfl (by kernel_rfl) hcu hfu) ?_);intro w8 hw;obtain⟨hown',hg⟩:=hst _ _ hw;have ho:=(G.o 1);have E:=G.e 0;replace G:=G.d 0;replace E:=Z1w E hg (fun b hb hl=>by rw[HR.out b hb];simp);replace G:=(G.gr 0 hg hown').ce E;clear hst hcu hfu hw hg hown';refine .intro (gone (by kernel_rfl)) ?_;have ho:=G.o 1;rw[Z2w]at ho;replace ho:w8.ownsRow base 3 1 (.slice a n ca) n (ivs (swp l2 j)):=ho;replace G:=G.rO 1 ho;clear ho;refine(aD)<|k10<|Yg<|(F.m) fun F=>(F.y F.sb) fun F=>?_
    rw[show ((j+1:Nat):Int)-1=((j:Nat):Int) by omega]at F;refine(F.m) fun F=>?_;show _∧_;exact⟨by omega,_,_,F.u,G.u,_,_,rfl,rfl,(G.o 1),(by omega),(by rw[Z8V];exact hl2),((ZiK c hc34).symm.trans hb2),(Zdr (by omega) hm2)⟩
   ·have ho:=G.o 1
    rw[show l2=srtK c l (i+1) from(ZdY c hc34).symm.trans hb2]at ho;replace G:=G.rO 1 ho;clear ho;refine wp_exit<|k4<|Yg<|(F.m) fun F=>(F.y F.ad) fun F=>?_
    rw[show ((i+1:Nat):Int)+1=((i+1+1:Nat):Int) from rfl]at F;refine(F.m) fun F=>?_;show _∧_;exact⟨by omega,_,_,F.u,G.u,rfl,rfl,(G.o 1),(by omega)⟩
 ·refine wp_exit ?_
  have ho:=G.o 0;rw[show i=l.length-1 by omega]at ho;replace G:=G.rO 0 ho;clear ho;refine(F.e0) ?_;have ho:=G.o 0;exact⟨rfl,ho,(G.e 1)⟩
variable{μ:Nat}
theorem Z7V{X:List Nat}{w W:World}{sz: Nat}{row:Nat→List Value}(h:SlAt [] w a sz n row)(e:Ext X w W)(hX:∀b∈X,w.heap.size≤b): SlAt [] W a sz n row:=fun i hi=>by
 obtain⟨b,off,h1,h2⟩:=h i hi;refine⟨b,off,h1,fun V e2 j v hv=>?_⟩;have h3:=h2 w (Ext.refl _ _) j v hv;have hb:b<w.heap.size:=by
  apply Classical.byContradiction;intro hn;rw[World.cell?]at h3;simp[Array.getElem?_eq_none (show w.heap.size≤b by omega)]at h3
 rw[(e.nil e2).cell (a:=⟨b,off+i*sz+j,none⟩) hb (fun hm=>by have:=hX b hm;omega)];exact h3
theorem Z42.extX{X:List Nat}{w w':World}{v:Value}{xs:List Int}(h:Z42 w v xs)(e:Ext X w w')(hX:∀b∈X,w.heap.size≤b): Z42 w' v xs:=by
 obtain⟨a,c,h1,h2⟩:=h;exact⟨a,c,h1,h2.ext e hX⟩
theorem Vm.At.extX{X:List Nat}{x:Vm}{w W:World}(h:x.At w)(e:Ext X w W)(hX:∀b∈X,w.heap.size≤b):x.At W:=
 ⟨⟨Z7V h.d.1 e hX,fun p hp=>(h.d.2 p hp).extX e hX⟩,⟨Z7V h.l.1 e hX,fun p hp=>(h.l.2 p hp).extX e hX⟩⟩
theorem ZaX(f:FuncId)(cs:Array Value)(c:Int→Int→Int)(p:Int→Prop)(base r n:Nat)(a:Option Addr)(ca:Nat)(l:List Int)(w:World)(hn:l.length=n)(h1:n<20)(hp:∀m∈l,p m)(ho:w.ownsRow base 3 1 (.slice a n ca) n (ivs l))(hr:∀b,(Value.slice a n ca).ownBlock=some b→b=r)
  (hf:∀args w,(callFunc f args).run (Qy.prog μ) w = .ok (.enter f args) w) (hc:∀W,Ext [r] w W→∀m k,p m→p k→Calls (Qy.prog μ) f (#[]++[Value.int .i64 m,Value.int .i64 k].toArray++cs) W fun e W'=>e = .returned (.int .i64 (c m k))∧Ext [] W W') :
  Calls (Qy.prog μ) 123 #[.slice a n ca,.int .i64 ((n:Nat):Int),.func (.func f) #[] cs] w fun e w'=>e = .returned (.tuple #[])∧w'.ownsRow base 3 1 (.slice a n ca) n (ivs (srtL c l))∧Ext [r] w w':=by
 have E:Ext [r] w w:=Ext.refl _ _;have HC:=Lib.hid hc;have HF:=Lib.hid hf;have HP:=Lib.hid hp;have HR:=Lib.hid hr;clear hc hf hp hr;have G:=(Bk.nil w).ce E;replace G:=G.co ho;refine(ent 63 Tryz.f123 rfl) fun F=>wR fun k1=>(F.m) fun F=>k1<|wR fun k2=>(F.m) fun F=>(F.m) fun F=>(F.m) fun F=>k2<|wQ fun k3=>Yh<|lpC (F.b [0,1,2,6]) G (0) (fun i=>[(7,.int .i64 0),(8,.int .i64 20)]) F.u fun i hi1 F G=>wQ fun k4=>wR fun k5=>(F.m) fun F=>(F.m) fun F=>(F.y F.le) fun F=>k5<|(F.JF)<|wp_exit<|k3<|wR fun k6=>(F.m) fun F=>(F.m) fun F=>(F.m) fun F=>(F.m) fun F=>?_
 have ho:=G.o 0;replace G:=G.d 0;refine(F.k (Zco f cs c p base r n a ca l _ hn (by omega) HP.out ho HR.out HF.out (fun W e=>HC.out W ((G.e 0).trans e)))) ?_;rintro _ w2 ⟨rfl,ho2,e9⟩;refine⟨_,rfl,fun F=>?_⟩;replace G:=G.x e9;replace ho:=ho2;clear ho2 e9;replace G:=G.co ho;refine k6<|Yh<|lpC (F.b [0,1,2]) G (0) (fun i=>[(6,.int .i64 20)]) F.u fun i hi2 F G=>wQ fun k7=>wR fun k8=>(F.m) fun F=>(F.m) fun F=>(F.y F.ls) fun F=>k8<|(F.JF)<|wp_exit<|(F.e0) ?_
 have ho:=G.o 0;exact⟨rfl,ho,(G.e 1)⟩
theorem Zd9(f:FuncId)(cs:Array Value)(c:Int→Int→Int)(p:Int→Prop)(base r n:Nat)(a:Option Addr)(ca:Nat)(l:List Int)(w:World)(hn:l.length=n)(h1:n<20)(hp:∀m∈l,p m)(ho:w.ownsRow base 3 1 (.slice a n ca) n (ivs l))(hr:∀b,(Value.slice a n ca).ownBlock=some b→b=r)
  (hf:∀args w,(callFunc f args).run (Qy.prog μ) w = .ok (.enter f args) w) (hc:∀W,Ext [r] w W→∀m k,p m→p k→Calls (Qy.prog μ) f (#[]++[Value.int .i64 m,Value.int .i64 k].toArray++cs) W fun e W'=>e = .returned (.int .i64 (c m k))∧Ext [] W W') :
  Calls (Qy.prog μ) 99 #[.slice a n ca,.func (.func f) #[] cs] w fun e w'=>e = .returned (.tuple #[])∧w'.ownsRow base 3 1 (.slice a n ca) n (ivs (srtL c l))∧Ext [r] w w':=by
 have E:Ext [r] w w:=Ext.refl _ _;have HC:=Lib.hid hc;have HF:=Lib.hid hf;have HP:=Lib.hid hp;have HR:=Lib.hid hr;clear hc hf hp hr;have G:=(Bk.nil w).ce E;replace G:=G.co ho;refine(ent 9 Tryz.f99 rfl) fun F=>Yg<|(F.m) fun F=>(F.m) fun F=>(F.y F.ln) fun F=>(F.m) fun F=>?_
 have ho:=G.o 0;replace G:=G.d 0;refine(F.k (ZaX f cs c p base r n a ca l _ hn h1 HP.out ho HR.out HF.out (fun W e=>HC.out W ((G.e 0).trans e)))) ?_;rintro _ w1 ⟨rfl,ho2,e9⟩;refine⟨_,rfl,fun F=>?_⟩;replace G:=G.x e9;replace ho:=ho2;clear ho2 e9;replace G:=G.co ho;refine(F.f0) ?_;have ho:=G.o 0;exact⟨rfl,ho,(G.e 1)⟩
def shdE(x:Vm)(T:List (List Int))(lp:Nat)(j k:Int):Int:=
 cmpE (prt (val (T.getD k.toNat []))*dotE (val (x.lamp lp)) (tnE x (val (T.getD j.toNat []))) x.B.toNat) (prt (val (T.getD j.toNat []))*dotE (val (x.lamp lp)) (tnE x (val (T.getD k.toNat []))) x.B.toNat)
theorem ZaJ(x:Vm)(hv:VOk x)(T:List (List Int))(hT:∀t∈T,TubS (val t))(ma:Option Addr)(mc n9 n8 n4 lp:Nat)(j k:Int)(hj0:0≤j)(hj:j<T.length)(hk0:0≤k)(hk:k<T.length)(hl:lp<x.L.length)(w:World)(h:x.At w)
  (q8:w.heap[n8]?=some (.cells #[.int .i64 x.B,.slice x.da x.D.length x.dc,.slice x.la x.L.length x.lc,.int .i64 x.tol] 85 (0,0))) (q9:w.heap[n9]?=some (.cells #[.slice ma T.length mc] 93 (0,0))) (q4:w.heap[n4]?=some (.cells #[.int .i64 ((lp:Nat):Int)] 3 (0,0)))
  (hs:SlAt [] w ma 4 T.length (fun i=>tubR (val (T.getD i [])))) (h6:T.length≤6) :
  Calls (Qy.prog μ) 100 #[.int .i64 j,.int .i64 k,.pointer (some ⟨n9,0,none⟩),.pointer (some ⟨n8,0,none⟩),.pointer (some ⟨n4,0,none⟩)] w fun e w'=>e = .returned (.int .i64 (shdE x T lp j k))∧Ext [] w w':=by
 have E:Ext [] w w:=Ext.refl _ _;obtain⟨j,rfl⟩:=Int.eq_ofNat_of_zero_le hj0;obtain⟨k,rfl⟩:=Int.eq_ofNat_of_zero_le hk0;have HX:=Lib.hid h;have HV:=Lib.hid hv;have HT:=Lib.hid hT;have HS:=Lib.hid hs;have hb1:=hv.b1;have hb3:=hv.b3;obtain⟨bn,hbn⟩:∃bn:Nat,x.B=bn:=⟨x.B.toNat,by omega⟩;have hbn2:x.B.toNat=bn:=by omega
 have HF:RowKit.Hid (TubS (val (T.getD j []))):=Lib.hid (hT _ (Z0n [] (by omega)));have HG:RowKit.Hid (TubS (val (T.getD k []))):=Lib.hid (hT _ (Z0n [] (by omega)));obtain⟨f,hf⟩:∃f,f=val (T.getD j []):=⟨_,rfl⟩;obtain⟨g,hg⟩:∃g,g=val (T.getD k []):=⟨_,rfl⟩;have h1:=Z3S hv hl (fun j=>ZaZ hv HF.out j) (n:=bn) (by omega);have h2:=Z3S hv hl (fun j=>ZaZ hv HG.out j) (n:=bn) (by omega);have h3:=Z4V HF.out;have h4:=Z4V HG.out;have h5:=Z1j h4.1 h4.2 h1.1 h1.2 (C:=51840) (by omega);have h7:=Z1j h3.1 h3.2 h2.1 h2.2 (C:=51840) (by omega);have hal:shdE x T lp ((j:Nat):Int) ((k:Nat):Int)=cmpE (prt (val (T.getD k []))*dotE (val (x.lamp lp)) (tnE x (val (T.getD j []))) bn) (prt (val (T.getD j []))*dotE (val (x.lamp lp)) (tnE x (val (T.getD k []))) bn):=by rw[shdE,hbn2];rfl
 show Calls _ _ #[.int .i64 ((j:Nat):Int),.int .i64 ((k:Nat):Int),_,_,_] _ _;rw[hal];replace hj:j<T.length:=by omega
 replace hk:k<T.length:=by omega
 clear h hv hT hs hal hj0 hk0 hf hg f g;have G:=(Bk.nil w).ce E;replace G:=((G.cq q8).cq q9).cq q4;refine(ent 39 Tryz.f100 rfl) fun F=>wR fun k1=>(F.m) fun F=>k1<|wQ fun k2=>?_
 have G2:=G;refine(wD [] none G) fun G=>(F.zr 0 (G.t 0) fun hS=>F.lc (G2.k 1 hS)) fun F=>(F.z 1 (G.t 0) F.mo) fun F=>?_;obtain⟨xb3,xo3,xa3,xr3⟩:=HS.out k (by omega);refine(F.z 2 (G.t 0) (F.is 4 xa3)) fun F=>(F.zr 3 (G.t 0) fun hS=>F.lr (xr3 _ ((G2.e 3).nil hS))) fun F=>(F.zr 5 (G.t 0) fun hS=>F.lb (G2.k 2 hS)) fun F=>(F.zr 6 (G.t 0) fun hS=>F.lc (G2.k 0 hS)) fun F=>(F.zr 7 (G.t 0) fun hS=>F.lb (G2.k 2 hS)) fun F=>(F.zr 8 (G.t 0) fun hS=>F.lc (G2.k 1 hS)) fun F=>(F.z 9 (G.t 0) F.mo) fun F=>?_;obtain⟨xb4,xo4,xa4,xr4⟩:=HS.out j (by omega);refine(F.z 10 (G.t 0) (F.is 4 xa4)) fun F=>(F.zr 11 (G.t 0) fun hS=>F.lr (xr4 _ ((G2.e 3).nil hS))) fun F=>(F.zr 15 (G.t 0) fun hS=>F.lc (G2.k 1 hS)) fun F=>(F.z 16 (G.t 0) F.mo) fun F=>?_;obtain⟨xb5,xo5,xa5,xr5⟩:=HS.out j (by omega);refine(F.z 17 (G.t 0) (F.is 4 xa5)) fun F=>(F.zr 18 (G.t 0) fun hS=>F.lr (xr5 _ ((G2.e 3).nil hS))) fun F=>(F.zr 20 (G.t 0) fun hS=>F.lb (G2.k 2 hS)) fun F=>(F.zr 21 (G.t 0) fun hS=>F.lc (G2.k 0 hS)) fun F=>(F.zr 22 (G.t 0) fun hS=>F.lb (G2.k 2 hS)) fun F=>(F.zr 23 (G.t 0) fun hS=>F.lc (G2.k 1 hS)) fun F=>(F.z 24 (G.t 0) F.mo) fun F=>?_;obtain⟨xb6,xo6,xa6,xr6⟩:=HS.out k (by omega);refine(F.z 25 (G.t 0) (F.is 4 xa6)) fun F=>(F.zr 26 (G.t 0) fun hS=>F.lr (xr6 _ ((G2.e 3).nil hS))) fun F=>(aO 4)<|(F.ok0 G (Z0r (val (T.getD k [])) HG.out.ok _)) fun F G=>.intro (G.t 0)<|(aO 12)<|(F.ok (Z5f x HV.out bn hbn (val (T.getD j [])) HF.out _ (HX.out.ext (G.e 4)))) ?_
 rintro _ w3 ⟨a20,rfl,oo,e9⟩;refine⟨_,rfl,fun F=>?_⟩;replace G:=G.ex e9;refine .intro (G.t 0) ?_;have hrw:=Zz (xs:=sumL x (val (T.getD j [])) bn) (row:=Z5) (by rw[←Z1e,show (sumL x (val (T.getD j [])) bn).length=bn by simp[sumL]];exact oo) (fun _=>rfl);have hll:(sumL x (val (T.getD j [])) bn).length=bn:=by simp[sumL]
 have hwe:=Z2z (μ:=μ) x HV.out lp hl (sumL x (val (T.getD j [])) bn) (by rw[hll];omega) (fun n hn=>by have:=Z5e HV.out HF.out bn n hn;omega) a20 bn w3 (HX.out.ext (G.e 4)) (by rw[hll];exact hrw);rw[Z37,hll]at hwe;refine(aO 13)<|(F.ok (hwe)) ?_
 rintro _ w4 ⟨rfl,e9⟩;refine⟨_,rfl,fun F=>?_⟩;replace G:=G.ex e9;refine .intro (G.t 0) ?_;clear oo hrw hwe hll;refine(F.z 14 (G.t 0) F.ml) fun F=>(aO 19)<|(F.ok0 G (Z0r (val (T.getD j [])) HF.out.ok _)) fun F G=>.intro (G.t 0)<|(aO 27)<|(F.ok (Z5f x HV.out bn hbn (val (T.getD k [])) HG.out _ (HX.out.ext (G.e 4)))) ?_
 rintro _ w6 ⟨a28,rfl,oo,e9⟩;refine⟨_,rfl,fun F=>?_⟩;replace G:=G.ex e9;refine .intro (G.t 0) ?_;have hrw:=Zz (xs:=sumL x (val (T.getD k [])) bn) (row:=Z5) (by rw[←Z1e,show (sumL x (val (T.getD k [])) bn).length=bn by simp[sumL]];exact oo) (fun _=>rfl);have hll:(sumL x (val (T.getD k [])) bn).length=bn:=by simp[sumL]
 have hwe:=Z2z (μ:=μ) x HV.out lp hl (sumL x (val (T.getD k [])) bn) (by rw[hll];omega) (fun n hn=>by have:=Z5e HV.out HG.out bn n hn;omega) a28 bn w6 (HX.out.ext (G.e 4)) (by rw[hll];exact hrw);rw[Z37,hll]at hwe;refine(aO 28)<|(F.ok (hwe)) ?_
 rintro _ w7 ⟨rfl,e9⟩;refine⟨_,rfl,fun F=>?_⟩;replace G:=G.ex e9;refine .intro (G.t 0) ?_;clear oo hrw hwe hll;refine(F.z 29 (G.t 0) F.ml) fun F=>(aO 30)<|(F.ok0 G (ZbJ _ _ _)) fun F G=>.intro (G.t 0)<|(F.z 31 (G.t 0) F.mo) fun F=>(aD)<|k2<|(F.r1) ?_
 exact⟨rfl,(G.e 4)⟩
variable{μ:Nat}
def nums(n:Nat):List Int:=(List.range n).map fun i=>((i:Nat):Int)
theorem Z9J(n:Nat):(nums n).length=n:=by simp[nums]
theorem ZcG(n:Nat):nums (n+1)=nums n++[((n:Nat):Int)]:=by simp[nums,List.range_succ]
theorem ZeF: ∀m∈nums n,0≤m∧m<n:=by
 intro m hm;simp only[nums,List.mem_map,List.mem_range]at hm;obtain⟨i,hi,rfl⟩:=hm;omega
def shaR(x:Vm)(lp:Nat)(T:List (List Int)):List Int:=srtL (shdE x T lp) (nums T.length)
theorem Zfg(c:Int→Int→Int)(l:List Int):(srtL c l).length=l.length:=by rw[srtL,Z78]
theorem Zb8(x:Vm)(hv:VOk x)(lp:Nat)(hlp:lp<x.L.length)(S:List (Value×List Int))(hs:∀p∈S,RcpOk x p.2)(h6:S.length≤6)(a:Option Addr)(c:Nat)(w:World)(h:x.At w)(hl:Z0s w a S):
  Calls (Qy.prog μ) 41 #[.agg #[.int .i64 x.B,.slice x.da x.D.length x.dc,.slice x.la x.L.length x.lc,.int .i64 x.tol],.int .i64 ((lp:Nat):Int),.slice a S.length c] w (Z47 (shaR x lp (S.map (·.2)),0) w):=by
 have E:Ext [] w w:=Ext.refl _ _;have HX:=Lib.hid h;have HV:=Lib.hid hv;have HL:=Lib.hid hl;have HS:=Lib.hid hs;obtain⟨T,hT⟩:∃T,T=S.map (·.2):=⟨_,rfl⟩;have hTl:T.length=S.length:=by rw[hT,Yj]
 have HT:RowKit.Hid (∀t∈T,TubS (val t)):=Lib.hid (fun t ht=>by
  rw[hT]at ht;obtain⟨p,hp,rfl⟩:=List.mem_map.1 ht;exact(hs p hp).tub)
 clear h hv hl hs;have G:=(Bk.nil w).ce E;refine(entM 33 Tryz.f41 rfl) fun F=>wR fun k1=>(F.bx G) fun yy F G=>(F.bx G) @fun n4 w2 _ yy F G=>(F.m) fun F=>(F.al G Qy.zeroValue30) fun yy F G=>k1<|wR fun k2=>(F.df) fun F=>k2<|wR fun k3=>(F.y (F.lb (G.q 2))) fun F=>(F.k0 G (Z0F x HV.out _ (HX.out.ext (G.e 3)))) fun F G=>(F.al G Qy.zeroValue85) @fun n8 w5 _ yy F G=>(F.sr G 0) fun G=>k3<|wQ fun k4=>Yg ?_
 refine(F.y (F.lb (G.q 0))) fun F=>(F.y (F.lc (G.q 2))) fun F=>(F.k0 G (Z8v x HV.out ((lp:Nat):Int) (by omega) (by omega) _)) fun F G=>k4<|wR fun k5=>(F.y (F.lb (G.q 0))) fun F=>(F.m) fun F=>(F.k (Z3w x HV.out S HS.out h6 a c _ (HL.out.ext (G.e 4)))) ?_
 rintro _ w8 ⟨ma,mc,rfl,om,e9⟩;refine⟨_,rfl,fun F=>?_⟩;replace G:=G.ex e9;rw[←hT,←hTl]at om;rw[←hTl]at F;have hrm:=Lib.hid (Zz (row:=fun t:List Int=>tubR (val t)) om (fun _=>rfl));clear om;replace G:=G.hr [];refine(F.al G Qy.zeroValue93) @fun n9 w9 _ yy F G=>(F.st G 0) @fun w10 G=>k5<|wQ fun k6=>wQ fun k7=>?_
 have b4:=Z3 (G.q 4);have b7:=Z3 (G.q 3);have b8:=Z3 (G.q 2);have b9:=Z3 (G.q 0);have hww:=(G.e 6).size;have hwm:=(G.e 1).size;have oo:w10.ownsRow w10.heap.size 3 1 (.slice none 0 0) 0 (ivs (nums 0)):=World.ownsRow_nil _ _ _ _;replace G:=(G.hr []).co oo;refine Yg<|(F.y (F.lc (G.q 2))) fun F=>(F.y F.ln) fun F=>(F.m) fun F=>k7<|Yh<|lpB (F.b [4,7,8,9,20]) (G.b [1,2,3,4,5,6,7,8]) (T.length) (fun i Lv Sv W=>∃va:Option Addr,∃vc:Nat,Lv=[(6,.slice va i vc),(21,.int .i64 ((i:Nat):Int))]∧Sv=[]∧W.ownsRow w10.heap.size 3 1 (.slice va i vc) i (ivs (nums i))) ⟨_,_,F.u,G.u,none,0,rfl,rfl,(G.o 0)⟩ ?_
 clear F G;rintro i _ w11 _ _ hi1 ⟨va,vc,rfl,rfl,oo⟩ F G;replace G:=(G.z).co oo;refine wR fun k8=>(F.y F.ls) fun F=>k8<|wQ fun k9=>F.ci (fun hc22=>?_) (fun hc22=>?_)
 ·refine Yi<|k9<|wQ fun k10=>Yh<|wR fun k11=>(F.m) fun F=>(F.m) fun F=>k11<|Yg<|(F.m) fun F=>(F.m) fun F=>(F.bs G 1 #[.int .i64 ((i:Nat):Int)] Qy.zeroValue3) fun yy F G=>?_
  have hEs:=(G.e 2).size;refine ZD F rfl (by decide) (F.want rfl) (ZI rfl (w10.heap.size) (e:=3) (size:=1) (bytes:=8) Qy.underlying22 (by kernel_rfl) (by decide) (F.at rfl) (G.o 1) (F.at rfl) (G.q 0) rfl (by simp[Value.oneCell']) (by omega) (by omega) (by omega)) ?_;clear F;rintro _ v' w13 F ⟨hown',hg⟩;obtain⟨va27,vc27,rfl⟩:=Zo hown';replace G:=(G.d 0).gr 0 hg hown';clear hg hown';have oo:=G.o 0;rw[show ivs (nums i)++[.int .i64 ((i:Nat):Int)]=ivs (nums (i+1)) by rw[ZcG];simp[ivs]]at oo;replace G:=G.rO 0 oo;clear oo;refine(F.m) fun F=>k10<|Yg<|(F.y F.ad) fun F=>(F.m) fun F=>?_
  show _∧_;exact⟨by omega,_,_,F.u,G.u,_,_,rfl,rfl,(G.o 0)⟩
 ·refine wp_exit ?_
  have oo:=G.o 0;rw[show i=T.length by omega]at oo F;replace G:=G.rO 0 oo;clear oo;refine k6<|wQ fun k12=>?_
  obtain⟨r,hrr,hrd⟩:=ZcL (.slice va T.length vc) w11.heap.size;have oo:=G.o 0;have hrb:w10.heap.size≤r:=by rcases hrd with h | h;(· exact(oo.lt r h).1);(· rw[h];exact(G.e 1).size)
  refine Yg<|(F.m) fun F=>(F.y F.mf) fun F=>?_
  have hEM:Ext [] w8 w11:=(G.e 3);have oo:=G.o 0;replace G:=G.d 0;refine(F.k (Zd9 100 #[.pointer (some ⟨n9,0,none⟩),.pointer (some ⟨n8,0,none⟩),.pointer (some ⟨n4,0,none⟩)] (shdE x T lp) (fun m=>0≤m∧m<T.length) w10.heap.size r T.length va vc (nums T.length) _ (Z9J _) (by omega) ZeF oo hrr Qy.call100 (fun W e m k hm hk=>ZaJ x HV.out T HT.out ma mc n9 n8 n4 lp m k hm.1 hm.2 hk.1 hk.2 hlp W (HX.out.extX (((G.e 7).mono (Y:=[r]) (by simp)).trans e) (by simp;omega)) (e.keep (G.q 3) (by simp;omega)) (e.keep (G.q 1) (by simp;omega)) (e.keep (G.q 5) (by simp;omega)) (Zh (row:=fun t:List Int=>tubR (val t)) (hrm.out.ext ((hEM.mono (Y:=[r]) (by simp)).trans e) (by simp;omega)) []) (by omega)))) ?_;rintro _ w14 ⟨rfl,oo2,e9⟩;refine⟨_,rfl,fun F=>?_⟩;replace G:=G.x e9;replace oo:=oo2;clear oo2 e9;replace G:=G.co oo;refine k12<|wR fun k13=>(F.m) fun F=>(F.m) fun F=>?_
  replace G:=(G.d 3).d 1;refine(F.st G 3) fun G=>k13<|wp_ret ?_
  (try simp only[Exit.inBlock,Exit.then,reduceIte])
  refine Z3K F<|ZN<|Z1A (Z6Y F rfl rfl rfl Qy.underlying30 rfl (G.q 3)) ?_
  rw[←hT,show shaR x lp T=srtL (shdE x T lp) (nums T.length) from rfl];have hsl:(srtL (shdE x T lp) (nums T.length)).length=T.length:=by rw[Zfg,Z9J]
  refine⟨va,vc,?_,?_,(G.e 6)⟩
  ·simp only[hsl]
  have oo:=G.o 0
  ·simp only[hsl];exact Z0i oo hww
variable{μ:Nat}
theorem ZeV{w:World}{b:Nat}{T:TypeId}{fz:Nat×Nat}(L:List (Value×List Int))(h:w.heap[b]?=some (.cells (L.map (·.1)).toArray T fz)): SlAt [] w (some ⟨b,0,none⟩) 1 L.length (fun i=>[(L.getD i (.bool true,[])).1]):=fun i hi =>
 ⟨b,0,fun _ _=>rfl,fun W e j v hv=>by
  obtain rfl:j=0:=by
   rcases j with _ | j
   ·rfl
   ·simp at hv
  rw[Z0 (e.keep0 h)];simp only[List.getElem?_cons_zero,Y4]at hv;subst hv;simp[hi]⟩
theorem Z8z{w:World}{b:Nat}{T:TypeId}{fz:Nat×Nat}(L:List (Value×List Int))(h:w.heap[b]?=some (.cells (L.map (·.1)).toArray T fz))(hr:∀p∈L,Z42 w p.1 p.2): Z0s w (some ⟨b,0,none⟩) L:=⟨ZeV L h,hr⟩
theorem Z1k{w:World}{b:Nat}{T:TypeId}{fz:Nat×Nat}(xs:List Int)(h:w.heap[b]?=some (.cells (xs.map (Value.int .i64)).toArray T fz)): Z42 w (.slice (some ⟨b,0,none⟩) xs.length xs.length) xs:=⟨_,_,rfl,ZK xs _ h⟩
def vatD:List (List Int):=[[9,0,0],[0,9,0],[0,0,9],[3,3,3]]
def vatL:List (List Int):=[[1,1,1],[3,1,0]]
structure IsVat(x:Vm):Prop where
 b:x.B=3
 t:x.tol=1
 d:x.D.map (·.2)=vatD
 l:x.L.map (·.2)=vatL
theorem Z3O(w:World):Calls (Qy.prog μ) 51 #[] w fun e w'=>∃x:Vm,e = .returned (.agg #[.int .i64 x.B,.slice x.da x.D.length x.dc,.slice x.la x.L.length x.lc,.int .i64 x.tol])∧IsVat x∧x.At w'∧Ext [] w w':=by
 have E:Ext [] w w:=Ext.refl _ _;have G:=(Bk.nil w).ce E;refine(ent 10 Tryz.f51 rfl) fun F=>wR fun k1=>(F.al G Qy.zeroValue27) fun yy F G=>k1<|wR fun k2=>(F.bs G 1 #[.int .i64 9,.int .i64 0,.int .i64 0] Qy.zeroValue3) @fun n1 w2 _ yy F G=>(F.bs G 1 #[.int .i64 0,.int .i64 9,.int .i64 0] Qy.zeroValue3) @fun n2 w3 _ yy F G=>(F.bs G 1 #[.int .i64 0,.int .i64 0,.int .i64 9] Qy.zeroValue3) @fun n3 w4 _ yy F G=>(F.bs G 1 #[.int .i64 3,.int .i64 3,.int .i64 3] Qy.zeroValue3) @fun n4 w5 _ yy F G=>(F.bs G 1 #[.slice (some ⟨n1,0,none⟩) 3 3,.slice (some ⟨n2,0,none⟩) 3 3,.slice (some ⟨n3,0,none⟩) 3 3,.slice (some ⟨n4,0,none⟩) 3 3] Qy.zeroValue22) @fun n5 w6 _ yy F G=>(F.bs G 1 #[.int .i64 1,.int .i64 1,.int .i64 1] Qy.zeroValue3) @fun n6 w7 _ yy F G=>(F.bs G 1 #[.int .i64 3,.int .i64 1,.int .i64 0] Qy.zeroValue3) @fun n7 w8 _ yy F G=>(F.bs G 1 #[.slice (some ⟨n6,0,none⟩) 3 3,.slice (some ⟨n7,0,none⟩) 3 3] Qy.zeroValue22) @fun n8 w9 _ yy F G=>?_
 refine(F.y (F.bv #[.int .i64 3,.slice (some ⟨n5,0,none⟩) 4 4,.slice (some ⟨n8,0,none⟩) 2 2,.int .i64 1])) fun F=>(F.sr G 8) fun G=>k2 ?_;refine(F.rg (rs_c F rfl rfl Qy.underlying27 rfl (by kernel_rfl) (G.q 8))) ?_;refine⟨{B:=3,tol:=1,da:=some ⟨n5,0,none⟩,dc:=4,la:=some ⟨n8,0,none⟩,lc:=2,D:=[(.slice (some ⟨n1,0,none⟩) 3 3,[9,0,0]),(.slice (some ⟨n2,0,none⟩) 3 3,[0,9,0]),(.slice (some ⟨n3,0,none⟩) 3 3,[0,0,9]),(.slice (some ⟨n4,0,none⟩) 3 3,[3,3,3])],L:=[(.slice (some ⟨n6,0,none⟩) 3 3,[1,1,1]),(.slice (some ⟨n7,0,none⟩) 3 3,[3,1,0])]},rfl,⟨rfl,rfl,rfl,rfl⟩,⟨Z8z _ (G.q 3) ?_,Z8z _ (G.q 0) ?_⟩,(G.e 9)⟩
 ·intro p hp;simp only[Yc,Ya,or_false]at hp;rcases hp with rfl | rfl | rfl | rfl;(· exact Z1k [9,0,0] (G.q 7));(· exact Z1k [0,9,0] (G.q 6));(· exact Z1k [0,0,9] (G.q 5));(· exact Z1k [3,3,3] (G.q 4))
 ·intro p hp;simp only[Yc,Ya,or_false]at hp;rcases hp with rfl | rfl;(· exact Z1k [1,1,1] (G.q 2));(· exact Z1k [3,1,0] (G.q 1))
theorem Z8P(w:World):Calls (Qy.prog μ) 52 #[] w fun e w'=>∃a,e = .returned (.slice a 3 3)∧Z7 w' (.slice a [(4:Int),3,2].length 3) 1 ([(4:Int),3,2].map Z5)∧Ext [] w w':=by
 have E:Ext [] w w:=Ext.refl _ _;have G:=(Bk.nil w).ce E;refine(ent 2 Tryz.f52 rfl) fun F=>wR fun k1=>(F.m) fun F=>k1<|wR fun k2=>(F.bs G 1 #[.int .i64 4,.int .i64 3,.int .i64 2] Qy.zeroValue3) fun yy F G=>(F.m) fun F=>k2<|(F.r1) ?_
 exact⟨_,rfl,ZK [4,3,2] 3 (G.q 0),(G.e 1)⟩
def Z0U:List (List Int):=[[1,0,0,0],[0,1,0,0],[1,1,1,0],[0,0,0,1]]
theorem Z3D(w:World):Calls (Qy.prog μ) 58 #[] w fun e w'=>∃(a:Option Addr) (S:List (Value×List Int)),e = .returned (.slice a S.length 4)∧S.map (·.2)=Z0U∧Z0s w' a S∧Ext [] w w':=by
 have E:Ext [] w w:=Ext.refl _ _;have G:=(Bk.nil w).ce E;refine(ent 6 Tryz.f58 rfl) fun F=>wR fun k1=>(F.m) fun F=>k1<|wR fun k2=>(F.bs G 1 #[.int .i64 1,.int .i64 0,.int .i64 0,.int .i64 0] Qy.zeroValue3) @fun n1 w1 _ yy F G=>(F.bs G 1 #[.int .i64 0,.int .i64 1,.int .i64 0,.int .i64 0] Qy.zeroValue3) @fun n2 w2 _ yy F G=>(F.bs G 1 #[.int .i64 1,.int .i64 1,.int .i64 1,.int .i64 0] Qy.zeroValue3) @fun n3 w3 _ yy F G=>(F.bs G 1 #[.int .i64 0,.int .i64 0,.int .i64 0,.int .i64 1] Qy.zeroValue3) @fun n4 w4 _ yy F G=>(F.bs G 1 #[.slice (some ⟨n1,0,none⟩) 4 4,.slice (some ⟨n2,0,none⟩) 4 4,.slice (some ⟨n3,0,none⟩) 4 4,.slice (some ⟨n4,0,none⟩) 4 4] Qy.zeroValue22) @fun n5 w5 _ yy F G=>(F.m) fun F=>k2<|(F.r1) ?_
 refine⟨some ⟨n5,0,none⟩,[(.slice (some ⟨n1,0,none⟩) 4 4,[1,0,0,0]),(.slice (some ⟨n2,0,none⟩) 4 4,[0,1,0,0]),(.slice (some ⟨n3,0,none⟩) 4 4,[1,1,1,0]),(.slice (some ⟨n4,0,none⟩) 4 4,[0,0,0,1])],rfl,rfl,Z8z _ (G.q 0) ?_,(G.e 5)⟩;intro p hp;simp only[Yc,Ya,or_false]at hp;rcases hp with rfl | rfl | rfl | rfl;(· exact Z1k [1,0,0,0] (G.q 4));(· exact Z1k [0,1,0,0] (G.q 3));(· exact Z1k [1,1,1,0] (G.q 2));(· exact Z1k [0,0,0,1] (G.q 1))
variable{μ:Nat}
theorem Zil(x:Vm)(hv:VOk x)(k:Nat)(hk:k<x.L.length)(l:List Int)(hl:RcpOk x l)(s:List Int)(hs:Z5m x s)(a b:Option Addr)(c d:Nat)(w:World)(h:x.At w)(hr:Z7 w (.slice a l.length c) 1 (l.map Z5))(hq:Z7 w (.slice b s.length d) 1 (s.map Z5)):
  Calls (Qy.prog μ) 35 #[.agg #[.int .i64 x.B,.slice x.da x.D.length x.dc,.slice x.la x.L.length x.lc,.int .i64 x.tol],.int .i64 ((k:Nat):Int),.slice a l.length c,.slice b s.length d] w fun e w'=>e = .returned (.tuple #[.int .i64 (offE x k (val l) (val s)),.int .i64 0])∧Ext [] w w':=by
 have E:Ext [] w w:=Ext.refl _ _;have HX:=Lib.hid h;have HV:=Lib.hid hv;have HR:=Lib.hid hr;have HQ:=Lib.hid hq;have HL:=Lib.hid hl;have HS:=Lib.hid hs;clear h hv hr hq hl hs;have G:=(Bk.nil w).ce E;refine(entM 28 Tryz.f35 rfl) fun F=>wR fun k1=>(F.bx G) fun yy F G=>(F.m) fun F=>(F.al G Qy.zeroValue30) fun yy F G=>k1<|wR fun k2=>(F.df) fun F=>k2<|wR fun k3=>(F.y (F.lb (G.q 1))) fun F=>(F.k0 G (Z0F x HV.out _ (HX.out.ext (G.e 2)))) fun F G=>(F.al G Qy.zeroValue85) fun yy F G=>(F.sr G 0) fun G=>k3<|wR fun k4=>(F.y (F.lb (G.q 0))) fun F=>?_
 refine(F.m) fun F=>(F.k0 G (Z8v x HV.out ((k:Nat):Int) (by omega) (by omega) _)) fun F G=>k4<|wR fun k5=>(F.y (F.lb (G.q 0))) fun F=>(F.m) fun F=>(F.k0 G (Z9 x HV.out l HL.out a c _ (HR.out.ext (G.e 3) (by simp)))) fun F G=>(F.al G Qy.zeroValue88) fun yy F G=>(F.sr G 0) fun G=>k5<|wR fun k6=>(F.y (F.lb (G.q 1))) fun F=>(F.m) fun F=>(F.k0 G (Z4Z x HV.out s HS.out b d _ (HQ.out.ext (G.e 4) (by simp)))) fun F G=>k6<|wQ fun k7=>Yg ?_
 refine(F.y (F.lb (G.q 1))) fun F=>(F.m) fun F=>(F.y (F.lb (G.q 0))) fun F=>(F.m) fun F=>(F.k0 G (Zgd x HV.out k hk (val l) HL.out.tub s HS.out b d _ (HX.out.ext (G.e 4)) (HQ.out.ext (G.e 4) (by simp)))) fun F G=>(F.m) fun F=>(F.st G 2) fun G=>k7<|wp_ret ?_
 (try simp only[Exit.inBlock,Exit.then,reduceIte])
 refine Z3K F<|ZN<|Z1A (Z6Y F rfl rfl rfl Qy.underlying30 rfl (G.q 2)) ?_
 exact⟨rfl,(G.e 4)⟩
variable{μ:Nat}
def mkV(B:Int)(D L:List (List Int))(tol:Int):Vm:={B:=B,tol:=tol,da:=none,dc:=0,la:=none,lc:=0,D:=D.map fun l=>(.bool true,l),L:=L.map fun l=>(.bool true,l)}
structure AlkV'(x y:Vm):Prop where
 b:x.B=y.B
 t:x.tol=y.tol
 d:x.D.map (·.2)=y.D.map (·.2)
 l:x.L.map (·.2)=y.L.map (·.2)
section
variable{x y:Vm}(h:AlkV' x y)
include h
theorem AlkV'.dl:x.D.length=y.D.length:=by have:=congrArg List.length h.d;simpa using this
theorem AlkV'.ll:x.L.length=y.L.length:=by have:=congrArg List.length h.l;simpa using this
theorem AlkV'.dye(k:Nat):x.dye k=y.dye k:=by
 have:=congrArg (fun l=>l.getD k []) h.d;simp only[Vm.dye]
 by_cases hk:k<x.D.length
 ·have h1:=Z1R x.D hk
  have h2:=Z1R y.D (h.dl▸hk);rw[←h1,←h2];exact this
 ·rw[Y7,Y7,List.getElem?_eq_none (by omega),List.getElem?_eq_none (by have:=h.dl;omega)]
theorem AlkV'.lamp(k:Nat):x.lamp k=y.lamp k:=by
 have:=congrArg (fun l=>l.getD k []) h.l;simp only[Vm.lamp]
 by_cases hk:k<x.L.length
 ·have h1:=Z1R x.L hk
  have h2:=Z1R y.L (h.ll▸hk);rw[←h1,←h2];exact this
 ·rw[Y7,Y7,List.getElem?_eq_none (by omega),List.getElem?_eq_none (by have:=h.ll;omega)]
theorem AlkV'.tn(f:Nat→Int):tnE x f=tnE y f:=by funext j;simp only[tnE,tonE,h.dl,h.dye]
theorem AlkV'.off(k:Nat)(f s:Nat→Int):offE x k f s=offE y k f s:=by simp only[offE,h.lamp,h.tn,h.b]
theorem AlkV'.mat(f s:Nat→Int)(ls:List Int):matE x f s ls=matE y f s ls:=by simp only[matE,h.off,h.t]
theorem AlkV'.matL(s:Nat→Int)(ls:List Int):matL x s ls=matL y s ls:=by
 rw[Go.Proofs.YtfelljbfeoplhaaGreat.matL,Go.Proofs.YtfelljbfeoplhaaGreat.matL,h.dl]
 congr 1
 funext t
 simp only[cndE,h.mat]
theorem AlkV'.few(s:Nat→Int)(ls:List Int):fewR x s ls=fewR y s ls:=by simp only[fewR,h.matL,h.dl]
theorem AlkV'.cor(t:List Int)(s:Nat→Int)(ls:List Int):corR x t s ls=corR y t s ls:=by
 have:corB x t s ls=corB y t s ls:=by funext q;simp only[corB,h.mat]
 simp only[corR,corO,this,h.dl]
theorem AlkV'.alk(k:Nat)(f g:Nat→Int):alkE x k f g=alkE y k f g:=by
 have:alkV x k f g=alkV y k f g:=by simp only[alkV,h.lamp,h.tn,h.b]
 rw[alkE,alkE,this,h.t]
theorem AlkV'.tel(T:List (List Int)):telR x T=telR y T:=by
 have h1:unN x T=unN y T:=by
  funext n
  have:unlP x n T=unlP y n T:=by funext j k;simp only[unlP,h.alk]
  simp only[unN,this]
 have h2:cT x T=cT y T:=by funext n;simp only[cT,h1]
 simp only[telR,h1,h2,h.ll]
theorem AlkV'.sha(lp:Nat)(T:List (List Int)):shaR x lp T=shaR y lp T:=by
 have:shdE x T lp=shdE y T lp:=by funext j k;simp only[shdE,h.lamp,h.tn,h.b]
 simp only[shaR,this]
theorem AlkV'.mos(ls:List Int)(T:List (List Int)):mosR x ls T=mosR y ls T:=by
 have:nrB x ls T=nrB y ls T:=by funext j k;simp only[nrB,h.alk]
 simp only[mosR,this]
theorem AlkV'.ok(hy:VOk y):VOk x:=by
 have key:∀{P:List Int→Prop} {X Y:List (Value×List Int)},X.map (·.2)=Y.map (·.2)→(∀p∈Y,P p.2)→∀p∈X,P p.2:=by
  intro P X Y he hP p hp;have:p.2∈X.map (·.2):=List.mem_map.2 ⟨p,hp,rfl⟩;rw[he]at this;obtain⟨q,hq,e⟩:=List.mem_map.1 this;rw[←e];exact hP q hq
 refine⟨by rw[h.b,h.t,h.d,h.l];exact hy.chk,by rw[h.b];exact hy.b1,by rw[h.b];exact hy.b3,by rw[h.dl];exact hy.d1,by rw[h.dl];exact hy.d4,?_,by rw[h.ll];exact hy.l1,by rw[h.ll];exact hy.l3,?_,by rw[h.t];exact hy.t0,by rw[h.t];exact hy.t12⟩
 ·rw[h.b];exact key (P:=fun l=>(l.length:Int)=y.B∧∀n∈l,0≤n∧n≤9) h.d hy.dl
 ·rw[h.b];exact key (P:=fun l=>(l.length:Int)=y.B∧∀n∈l,0≤n∧n≤3) h.l hy.ll
end
def vat0:Vm:=mkV 3 vatD vatL 1
theorem Zie:VOk vat0:=by
 refine⟨?_,?_,?_,?_,?_,?_,?_,?_,?_,?_,?_⟩<;>decide +kernel
theorem IsVat.alk{x:Vm}(h:IsVat x):AlkV' x vat0:=⟨h.b,h.t,by rw[h.d];rfl,by rw[h.l];rfl⟩
theorem Zi9:fewR vat0 (val [4,3,2]) [0,1]=([1,2,0,0],0):=by decide +kernel
theorem Zib:offE vat0 1 (val [1,1,0,0]) (val [4,3,2])=6:=by decide +kernel
theorem Zi8:corR vat0 [0,0,0,1] (val [4,3,2]) [0,1]=([1,1,0,0],0):=by decide +kernel
theorem Zid:telR vat0 Z0U=(1,5,0):=by decide +kernel
theorem Zic:shaR vat0 1 Z0U=[1,2,3,0]:=by decide +kernel
theorem Zia:mosR vat0 [1] Z0U=[2,3]:=by decide +kernel
section
variable{x:Vm}(h:IsVat x)
include h
theorem IsVat.ok:VOk x:=h.alk.ok Zie
theorem IsVat.smp:Z5m x [4,3,2]:=⟨by rw[h.b];rfl,by decide⟩
theorem IsVat.dl:x.D.length=4:=h.alk.dl
theorem IsVat.ll:x.L.length=2:=h.alk.ll
theorem IsVat.both:Z5r x [0,1]:=⟨by decide,by rw[Zba,h.ll];decide,fun i h0 h1=>by rcases i with _ | _ | i;(· omega);(· decide);(· simp at h1;omega)⟩
theorem IsVat.one:Z5r x [1]:=⟨by decide,by rw[Zba,h.ll];decide,fun i h0 h1=>by simp at h1;omega⟩
theorem IsVat.rcp(h1:l.length=4)(h2:∀n∈l,0≤n∧n≤6)(h3:1≤l.sum)(h4:l.sum≤6): RcpOk x l:=⟨by rw[h.dl];exact h1,h2,h3,h4⟩
theorem IsVat.cloths(hs:S.map (·.2)=Z0U): ∀p∈S,RcpOk x p.2:=by
 have key:∀l∈Z0U,l.length=4∧(∀n∈l,0≤n∧n≤6)∧1≤l.sum∧l.sum≤6:=by decide
 intro p hp;have hm:p.2∈Z0U:=by rw[←hs];exact List.mem_map.2 ⟨p,hp,rfl⟩
 obtain⟨h1,h2,h3,h4⟩:=key _ hm;exact h.rcp h1 h2 h3 h4
theorem IsVat.few:fewR x (val [4,3,2]) [0,1]=([1,2,0,0],0):=(h.alk.few _ _).trans Zi9
theorem IsVat.off:offE x 1 (val [1,1,0,0]) (val [4,3,2])=6:=(h.alk.off _ _ _).trans Zib
theorem IsVat.cor:corR x [0,0,0,1] (val [4,3,2]) [0,1]=([1,1,0,0],0):=(h.alk.cor _ _ _).trans Zi8
theorem IsVat.tel:telR x Z0U=(1,5,0):=(h.alk.tel _).trans Zid
theorem IsVat.sha:shaR x 1 Z0U=[1,2,3,0]:=(h.alk.sha _ _).trans Zic
theorem IsVat.mos:mosR x [1] Z0U=[2,3]:=(h.alk.mos _ _).trans Zia
end
theorem Z6G(hs:S.map (·.2)=Z0U): S.length=4:=by have:=congrArg List.length hs;simpa[Z0U] using this
section
variable{x:Vm}(h:IsVat x){w:World}(ha:x.At w)
include h ha
theorem ZiV{b: Option Addr}{d: Nat}(hr:Z7 w (.slice a [(4:Int),3,2].length c) 1 ([(4:Int),3,2].map Z5))(hq:Z7 w (.slice b [(0:Int),1].length d) 1 ([(0:Int),1].map Z5)):
  Calls (Qy.prog μ) 54 #[.agg #[.int .i64 x.B,.slice x.da x.D.length x.dc,.slice x.la x.L.length x.lc,.int .i64 x.tol],.slice a 3 c,.slice b 2 d] w fun e w'=>∃a c,e = .returned (.tuple #[.slice a 4 c,.int .i64 0])∧Z7 w' (.slice a [(1:Int),2,0,0].length c) 1 ([(1:Int),2,0,0].map Z5)∧Ext [] w w':=by
 refine Calls.mono (Zb7 x h.ok [4,3,2] h.smp [0,1] h.both (by decide) a b c d w ha hr hq) ?_;rintro e w' ⟨a,c,he,ho,hE⟩;rw[h.few]at he ho;exact⟨a,c,he,ZL ho rfl,hE⟩
theorem ZiX{b: Option Addr}{d: Nat}(hr:Z7 w (.slice a [(1:Int),1,0,0].length c) 1 ([(1:Int),1,0,0].map Z5))(hq:Z7 w (.slice b [(4:Int),3,2].length d) 1 ([(4:Int),3,2].map Z5)):
  Calls (Qy.prog μ) 35 #[.agg #[.int .i64 x.B,.slice x.da x.D.length x.dc,.slice x.la x.L.length x.lc,.int .i64 x.tol],.int .i64 1,.slice a 4 c,.slice b 3 d] w fun e w'=>e = .returned (.tuple #[.int .i64 6,.int .i64 0])∧Ext [] w w':=by
 have:=Zil (μ:=μ) x h.ok 1 (by rw[h.ll];decide) [1,1,0,0] (h.rcp rfl (by decide) (by decide) (by decide)) [4,3,2] h.smp a b c d w ha hr hq;rw[h.off]at this;exact this
theorem ZiU{b k: Option Addr}{d l: Nat}(hp:Z7 w (.slice a [(0:Int),0,0,1].length c) 1 ([(0:Int),0,0,1].map Z5))(hr:Z7 w (.slice b [(4:Int),3,2].length d) 1 ([(4:Int),3,2].map Z5))(hq:Z7 w (.slice k [(0:Int),1].length l) 1 ([(0:Int),1].map Z5)):
  Calls (Qy.prog μ) 56 #[.agg #[.int .i64 x.B,.slice x.da x.D.length x.dc,.slice x.la x.L.length x.lc,.int .i64 x.tol],.slice a 4 c,.slice b 3 d,.slice k 2 l] w fun e w'=>∃a c,e = .returned (.tuple #[.slice a 4 c,.int .i64 0])∧Z7 w' (.slice a [(1:Int),1,0,0].length c) 1 ([(1:Int),1,0,0].map Z5)∧Ext [] w w':=by
 refine Calls.mono (Z90 x h.ok [0,0,0,1] (h.rcp rfl (by decide) (by decide) (by decide)) [4,3,2] h.smp [0,1] h.both (by decide) a b k c d l w ha hp hr hq) ?_;rintro e w' ⟨a,c,he,ho,hE⟩;rw[h.cor]at he ho;exact⟨a,c,he,ZL ho rfl,hE⟩
theorem ZiZ(hs:S.map (·.2)=Z0U)(hl:Z0s w a S):
  Calls (Qy.prog μ) 49 #[.agg #[.int .i64 x.B,.slice x.da x.D.length x.dc,.slice x.la x.L.length x.lc,.int .i64 x.tol],.slice a S.length c] w fun e w'=>e = .returned (.tuple #[.int .i64 1,.int .i64 5,.int .i64 0])∧Ext [] w w':=by
 have:=Z5l (μ:=μ) x h.ok S (h.cloths hs) (by rw[Z6G hs];decide) a c w ha hl;rw[hs,h.tel]at this;exact this
theorem ZiY(hs:S.map (·.2)=Z0U)(hl:Z0s w a S):
  Calls (Qy.prog μ) 41 #[.agg #[.int .i64 x.B,.slice x.da x.D.length x.dc,.slice x.la x.L.length x.lc,.int .i64 x.tol],.int .i64 1,.slice a S.length c] w fun e w'=>∃a c,e = .returned (.tuple #[.slice a 4 c,.int .i64 0])∧Z7 w' (.slice a [(1:Int),2,3,0].length c) 1 ([(1:Int),2,3,0].map Z5)∧Ext [] w w':=by
 refine Calls.mono (Zb8 x h.ok 1 (by rw[h.ll];decide) S (h.cloths hs) (by rw[Z6G hs];decide) a c w ha hl) ?_;rintro e w' ⟨a,c,he,ho,hE⟩;rw[hs,h.sha]at he ho;exact⟨a,c,he,ZL ho rfl,hE⟩
theorem ZiW{b: Option Addr}{d: Nat}(hs:S.map (·.2)=Z0U)(hl:Z0s w a S)(hq:Z7 w (.slice b [(1:Int)].length d) 1 ([(1:Int)].map Z5)):
  Calls (Qy.prog μ) 22 #[.agg #[.int .i64 x.B,.slice x.da x.D.length x.dc,.slice x.la x.L.length x.lc,.int .i64 x.tol],.slice a S.length c,.slice b 1 d] w fun e w'=>∃a c,e = .returned (.tuple #[.slice a 2 c,.int .i64 0])∧Z7 w' (.slice a [(2:Int),3].length c) 1 ([(2:Int),3].map Z5)∧Ext [] w w':=by
 refine Calls.mono (Zfy x h.ok S (h.cloths hs) (by rw[Z6G hs];decide) [1] h.one (by decide) a b c d w ha hl hq) ?_;rintro e w' ⟨a,c,he,ho,hE⟩;rw[hs,h.mos]at he ho;exact⟨a,c,he,ZL ho rfl,hE⟩
end
variable{μ:Nat}
theorem Z4h(w:World):Calls (Qy.prog μ) 19 #[] w fun e w'=>e = .returned (.bool true)∧Ext [] w w':=by
 have E:Ext [] w w:=Ext.refl _ _;have G:=(Bk.nil w).ce E;refine(ent 110 Tryz.f19 rfl) fun F=>wR fun k1=>(F.m) fun F=>k1<|wR fun k2=>(F.k (Z3O _)) ?_
 rintro _ w1 ⟨x1,rfl,hx1,ha1,e9⟩;refine⟨_,rfl,fun F=>?_⟩;replace G:=(G.ex e9).hr [];refine(F.k (Z8P _)) ?_;rintro _ w2 ⟨s1,rfl,hs1,e9⟩;refine⟨_,rfl,fun F=>?_⟩;replace G:=(G.ex e9).hr [];refine(F.bs G 1 #[.int .i64 0,.int .i64 1] Qy.zeroValue3) fun yy F G=>(F.k (ZiV hx1 (ha1.ext (G.e 2)) (hs1.ext (G.e 1) (by simp)) (ZK [0,1] 2 (G.q 0)))) ?_;rintro _ w4 ⟨r1,k1,rfl,hr1,e9⟩;refine⟨_,rfl,fun F=>?_⟩;replace G:=(G.ex e9).hr [];refine(F.m) fun F=>(F.y F.xt) fun F=>(F.y F.xt) fun F=>(F.m) fun F=>(F.m) fun F=>k2<|wR fun k3=>(F.k (Z3O _)) ?_
 rintro _ w5 ⟨x2,rfl,hx2,ha2,e9⟩;refine⟨_,rfl,fun F=>?_⟩;replace G:=(G.ex e9).hr [];refine(F.bs G 1 #[.int .i64 1,.int .i64 1,.int .i64 0,.int .i64 0] Qy.zeroValue3) fun yy F G=>(F.k (Z8P _)) ?_;rintro _ w7 ⟨s2,rfl,hs2,e9⟩;refine⟨_,rfl,fun F=>?_⟩;replace G:=(G.ex e9).hr [];refine(F.k0 G (ZiX hx2 (ha2.ext (G.e 2)) (ZK [1,1,0,0] 4 (G.q 1)) (hs2.ext (G.e 0) (by simp)))) fun F G=>(F.m) fun F=>(F.y F.xt) fun F=>(F.y F.xt) fun F=>(F.m) fun F=>(F.m) fun F=>k3<|wR fun k4=>(F.k (Z3O _)) ?_
 rintro _ w9 ⟨x3,rfl,hx3,ha3,e9⟩;refine⟨_,rfl,fun F=>?_⟩;replace G:=(G.ex e9).hr [];refine(F.bs G 1 #[.int .i64 0,.int .i64 0,.int .i64 0,.int .i64 1] Qy.zeroValue3) fun yy F G=>(F.k (Z8P _)) ?_;rintro _ w11 ⟨s3,rfl,hs3,e9⟩;refine⟨_,rfl,fun F=>?_⟩;replace G:=(G.ex e9).hr [];refine(F.bs G 1 #[.int .i64 0,.int .i64 1] Qy.zeroValue3) fun yy F G=>(F.k (ZiU hx3 (ha3.ext (G.e 3)) (ZK [0,0,0,1] 4 (G.q 2)) (hs3.ext (G.e 1) (by simp)) (ZK [0,1] 2 (G.q 0)))) ?_;rintro _ w13 ⟨r3,k3,rfl,hr3,e9⟩;refine⟨_,rfl,fun F=>?_⟩;replace G:=(G.ex e9).hr [];refine(F.m) fun F=>(F.y F.xt) fun F=>(F.y F.xt) fun F=>(F.m) fun F=>(F.m) fun F=>k4<|wQ fun k5=>?_
 replace G:=G.b [0,1,3,6,8,9,12];refine Yg<|(F.k (Z3O _)) ?_
 rintro _ w14 ⟨x4,rfl,hx4,ha4,e9⟩;refine⟨_,rfl,fun F=>?_⟩;replace G:=(G.ex e9).hr [];refine(F.k (Z3D _)) ?_;rintro _ w15 ⟨c4,S4,rfl,hS4,hl4,e9⟩;refine⟨_,rfl,fun F=>?_⟩;replace G:=G.ex e9;refine(F.k0 G (ZiZ hx4 (ha4.ext (G.e 0)) hS4 hl4)) fun F G=>(F.m) fun F=>(F.y F.xt) fun F=>(F.y F.xt) fun F=>(F.y F.xt) fun F=>(F.m) fun F=>(F.m) fun F=>(F.m) fun F=>k5<|wR fun k6=>(F.k (Z3O _)) ?_
 rintro _ w17 ⟨x5,rfl,hx5,ha5,e9⟩;refine⟨_,rfl,fun F=>?_⟩;replace G:=(G.ex e9).hr [];refine(F.k (Z3D _)) ?_;rintro _ w18 ⟨c5,S5,rfl,hS5,hl5,e9⟩;refine⟨_,rfl,fun F=>?_⟩;replace G:=G.ex e9;refine(F.k (ZiY hx5 (ha5.ext (G.e 0)) hS5 hl5)) ?_;rintro _ w19 ⟨r5,k5,rfl,hr5,e9⟩;refine⟨_,rfl,fun F=>?_⟩;replace G:=(G.ex e9).hr [];refine(F.m) fun F=>(F.y F.xt) fun F=>(F.y F.xt) fun F=>(F.m) fun F=>(F.m) fun F=>k6<|wR fun k7=>(F.k (Z3O _)) ?_
 rintro _ w20 ⟨x6,rfl,hx6,ha6,e9⟩;refine⟨_,rfl,fun F=>?_⟩;replace G:=(G.ex e9).hr [];refine(F.k (Z3D _)) ?_;rintro _ w21 ⟨c6,S6,rfl,hS6,hl6,e9⟩;refine⟨_,rfl,fun F=>?_⟩;replace G:=(G.ex e9).hr [];refine(F.bs G 1 #[.int .i64 1] Qy.zeroValue3) fun yy F G=>(F.k (ZiW hx6 (ha6.ext (G.e 2)) hS6 (hl6.ext (G.e 1)) (ZK [1] 1 (G.q 0)))) ?_;rintro _ w23 ⟨r6,k6,rfl,hr6,e9⟩;refine⟨_,rfl,fun F=>?_⟩;replace G:=(G.ex e9).hr [];refine(F.m) fun F=>(F.y F.xt) fun F=>(F.y F.xt) fun F=>(F.m) fun F=>(F.m) fun F=>k7<|wQ fun k8=>?_
 replace G:=G.b [0,1,4,7,8,9,10,11,12,13];refine Yg<|(F.m) fun F=>(F.y F.eqT) fun F=>(F.m) fun F=>(F.m) fun F=>(F.y F.eqT) fun F=>(F.y F.pT) fun F=>(F.m) fun F=>(F.m) fun F=>(F.y F.eqT) fun F=>(F.y F.pT) fun F=>(F.m) fun F=>(F.m) fun F=>(F.y F.eqT) fun F=>(F.y F.pT) fun F=>?_
 refine(F.m) fun F=>(F.m) fun F=>(F.y F.eqT) fun F=>(F.y F.pT) fun F=>(F.m) fun F=>(F.m) fun F=>(F.y F.eqT) fun F=>(F.y F.pT) fun F=>(F.m) fun F=>(F.m) fun F=>(F.y F.eqT) fun F=>(F.y F.pT) fun F=>(F.m) fun F=>(F.m) fun F=>?_;refine(F.y F.eqT) fun F=>(F.y F.pT) fun F=>(F.m) fun F=>(F.m) fun F=>(F.y F.eqT) fun F=>(F.y F.pT) fun F=>(F.m) fun F=>(F.m) fun F=>(F.bs G 1 #[.int .i64 1,.int .i64 2,.int .i64 0,.int .i64 0] Qy.zeroValue3) @fun n92 w24 _ yy F G=>(F.k0 G (Z0j [1,2,0,0] [1,2,0,0] r1 (some ⟨n92,0,none⟩) k1 4 _ (hr1.ext (G.e 8) (by simp)) (ZK [1,2,0,0] 4 (G.q 0)) (by decide) (by decide))) fun F G=>(F.y F.pT) fun F=>?_;refine(F.m) fun F=>(F.m) fun F=>(F.bs G 1 #[.int .i64 1,.int .i64 1,.int .i64 0,.int .i64 0] Qy.zeroValue3) @fun n97 w26 _ yy F G=>(F.k0 G (Z0j [1,1,0,0] [1,1,0,0] r3 (some ⟨n97,0,none⟩) k3 4 _ (hr3.ext (G.e 5) (by simp)) (ZK [1,1,0,0] 4 (G.q 0)) (by decide) (by decide))) fun F G=>(F.y F.pT) fun F=>(F.m) fun F=>(F.m) fun F=>(F.bs G 1 #[.int .i64 1,.int .i64 2,.int .i64 3,.int .i64 0] Qy.zeroValue3) @fun n102 w28 _ yy F G=>(F.k0 G (Z0j [1,2,3,0] [1,2,3,0] r5 (some ⟨n102,0,none⟩) k5 4 _ (hr5.ext (G.e 5) (by simp)) (ZK [1,2,3,0] 4 (G.q 0)) (by decide) (by decide))) fun F G=>?_;refine(F.y F.pT) fun F=>(F.m) fun F=>(F.m) fun F=>(F.bs G 1 #[.int .i64 2,.int .i64 3] Qy.zeroValue3) @fun n107 w30 _ yy F G=>(F.k0 G (Z0j [2,3] [2,3] r6 (some ⟨n107,0,none⟩) k6 2 _ (hr6.ext (G.e 4) (by simp)) (ZK [2,3] 2 (G.q 0)) (by decide) (by decide))) fun F G=>(F.y F.pT) fun F=>(F.m) fun F=>k8<|(F.r1) ?_
 exact⟨rfl,(G.e 13)⟩
variable{μ:Nat}
theorem Z5i(w0 w:World)(b k:Nat)(nv:Value)(many:Nat)(most:Int)(h:Zg w0 w b k nv)(hk:k≤900000)(hm:many≤1000)(h0:0≤most)(h1:most≤1000):
  Calls (Qy.prog μ) 61 #[.pointer (some ⟨b,0,none⟩),.int .i64 ((many:Nat):Int),.int .i64 most] w fun e w'=>∃(a:Option Addr) (c:Nat) (xs:List Int),e = .returned (.slice a many c)∧xs.length=many∧(∀n∈xs,0≤n∧n≤most)∧w'.ownsRow w.heap.size 3 1 (.slice a many c) many (ivs xs)∧Zg w0 w' b (k+1+2*many) nv∧Ext [b] w w':=by
 have HL:=h;have hbw:=Z2U HL;have hws:w0.heap.size≤w.heap.size:=HL.2.2.1.size;have E:Ext [b] w w:=Ext.refl _ _;have oo:w.ownsRow w.heap.size 3 1 (.slice none 0 0) 0 (ivs []):=World.ownsRow_nil _ _ _ _;clear h;have G:=((Bk.nil w).cl HL).ce E;replace G:=G.co oo;refine(ent 33 Tryz.f61 rfl) fun F=>wR fun k1=>(F.m) fun F=>k1<|wR fun k2=>(F.m) fun F=>k2<|wR fun k3=>(F.m) fun F=>(F.k (Z9Q w0 _ b _ nv 2 (G.l 2) (by omega) (by omega) (by omega))) ?_
 rintro _ w1 ⟨r,rfl,HL,e9⟩;refine⟨_,rfl,fun F=>?_⟩;replace G:=G.xl 2 e9 HL;refine(F.m) fun F=>k3<|wQ fun k4=>wR fun k5=>(F.m) fun F=>k5<|Yh ?_
 replace G:=G.rL 2 (show Zg w0 w1 b (k+1+2*0) nv from Zu (G.l 2) (by omega));refine lpB (F.b [0,1,2,8]) (G.b [1]) (many) (fun i Lv Sv W=>∃va:Option Addr,∃vc:Nat,∃xs:List Int,Lv=[(7,.slice va i vc),(9,.int .i64 ((i:Nat):Int))]∧Sv=[.l w0 b (k+1+2*i) nv]∧W.ownsRow w.heap.size 3 1 (.slice va i vc) i (ivs xs)∧xs.length=i∧∀n∈xs,0≤n∧n≤most) ⟨_,_,F.u,G.u,none,0,[],rfl,rfl,(G.o 0),rfl,(by simp)⟩ ?_;clear F G;rintro i _ w2 _ _ hi1 ⟨va,vc,xs,rfl,rfl,oo,hxl,hxb⟩ F G;replace G:=(G.z).co oo;refine wQ fun k6=>wR fun k7=>(F.m) fun F=>(F.m) fun F=>(F.y F.ls) fun F=>k7<|F.ci (fun hc14=>?_) (fun hc14=>?_)
 ·refine Yi<|k6<|wQ fun k8=>Yh<|wR fun k9=>(F.m) fun F=>(F.m) fun F=>?_
  cases hg1:r
  ·replace F:=F.re (k:=18) rfl (congrArg Value.bool hg1)
   refine(F.n) fun F=>(F.n) fun F=>(F.n) fun F=>(F.y F.pF) fun F=>k9<|(F.cF)<|Yg<|(F.m) fun F=>(F.m) fun F=>(F.m) fun F=>(F.k (Z0P w0 _ b _ nv most (G.l 1) (by omega) (by omega) (by omega))) ?_
   rintro _ w3 ⟨u,rfl,hu0,hu1,HL,e9⟩;refine⟨_,rfl,fun F=>?_⟩;replace G:=G.xl 1 e9 HL;refine(F.bs G 1 #[.int .i64 u] Qy.zeroValue3) fun yy F G=>?_;have hzE:=(G.e 3).size;refine ZD F rfl (by decide) (F.want rfl) (ZI rfl (w.heap.size) (e:=3) (size:=1) (bytes:=8) Qy.underlying22 (by kernel_rfl) (by decide) (F.at rfl) (G.o 1) (F.at rfl) (G.q 0) rfl (by simp[Value.oneCell']) (by omega) (by omega) (by omega)) ?_;clear F;rintro _ v' w5 F ⟨hown',hg⟩;obtain⟨va31,vc31,rfl⟩:=Zo hown';replace G:=(G.d 0).gr 0 hg hown';clear hg hown';have oo:=G.o 0;rw[Z1x]at oo;have hx2:(xs++[u]).length=i+1:=by rw[Ym,hxl];rfl
   have hx3:∀n∈xs++[u],0≤n∧n≤most:=by intro n hn;rcases List.mem_append.1 hn with hn | hn;(· exact hxb n hn);(· simp at hn;subst hn;omega)
   replace G:=G.rO 0 oo;clear oo;refine(F.m) fun F=>k8<|Yg<|(F.m) fun F=>(F.y F.ad) fun F=>(F.m) fun F=>?_
   replace G:=G.rL 1 (show Zg w0 w5 b (k+1+2*(i+1)) nv from Zu (G.l 1) (by omega));show _∧_;exact⟨by omega,_,_,F.u,G.u,_,_,_,rfl,rfl,(G.o 0),hx2,hx3⟩
  ·replace F:=F.re (k:=18) rfl (congrArg Value.bool hg1)
   refine(F.m) fun F=>(F.k (Z9Q w0 _ b _ nv 2 (G.l 1) (by omega) (by omega) (by omega))) ?_;rintro _ w6 ⟨r2,rfl,HL,e9⟩;refine⟨_,rfl,fun F=>?_⟩;replace G:=G.xl 1 e9 HL;refine(F.y F.nb) fun F=>(F.y F.pT) fun F=>k9<|F.cb (fun hc22=>?_) (fun hc22=>?_)
   ·refine Yg<|(F.m) fun F=>(F.bs G 1 #[.int .i64 0] Qy.zeroValue3) fun yy F G=>?_
    have hzE:=(G.e 3).size;refine ZD F rfl (by decide) (F.want rfl) (ZI rfl (w.heap.size) (e:=3) (size:=1) (bytes:=8) Qy.underlying22 (by kernel_rfl) (by decide) (F.at rfl) (G.o 1) (F.at rfl) (G.q 0) rfl (by simp[Value.oneCell']) (by omega) (by omega) (by omega)) ?_;clear F;rintro _ v' w8 F ⟨hown',hg⟩;obtain⟨va25,vc25,rfl⟩:=Zo hown';replace G:=(G.d 0).gr 0 hg hown';clear hg hown';have oo:=G.o 0;rw[Z1x]at oo;have hx2:(xs++[(0:Int)]).length=i+1:=by rw[Ym,hxl];rfl
    have hx3:∀n∈xs++[(0:Int)],0≤n∧n≤most:=by intro n hn;rcases List.mem_append.1 hn with hn | hn;(· exact hxb n hn);(· simp at hn;omega)
    replace G:=G.rO 0 oo;clear oo;refine(F.m) fun F=>k8<|Yg<|(F.m) fun F=>(F.y F.ad) fun F=>(F.m) fun F=>?_
    replace G:=G.rL 1 (show Zg w0 w8 b (k+1+2*(i+1)) nv from Zu (G.l 1) (by omega));show _∧_;exact⟨by omega,_,_,F.u,G.u,_,_,_,rfl,rfl,(G.o 0),hx2,hx3⟩
   ·refine Yg<|(F.m) fun F=>(F.m) fun F=>(F.m) fun F=>(F.k (Z0P w0 _ b _ nv most (G.l 1) (by omega) (by omega) (by omega))) ?_
    rintro _ w9 ⟨u,rfl,hu0,hu1,HL,e9⟩;refine⟨_,rfl,fun F=>?_⟩;replace G:=G.xl 1 e9 HL;refine(F.bs G 1 #[.int .i64 u] Qy.zeroValue3) fun yy F G=>?_;have hzE:=(G.e 3).size;refine ZD F rfl (by decide) (F.want rfl) (ZI rfl (w.heap.size) (e:=3) (size:=1) (bytes:=8) Qy.underlying22 (by kernel_rfl) (by decide) (F.at rfl) (G.o 1) (F.at rfl) (G.q 0) rfl (by simp[Value.oneCell']) (by omega) (by omega) (by omega)) ?_;clear F;rintro _ v' w11 F ⟨hown',hg⟩;obtain⟨va31,vc31,rfl⟩:=Zo hown';replace G:=(G.d 0).gr 0 hg hown';clear hg hown';have oo:=G.o 0;rw[Z1x]at oo;have hx2:(xs++[u]).length=i+1:=by rw[Ym,hxl];rfl
    have hx3:∀n∈xs++[u],0≤n∧n≤most:=by intro n hn;rcases List.mem_append.1 hn with hn | hn;(· exact hxb n hn);(· simp at hn;subst hn;omega)
    replace G:=G.rO 0 oo;clear oo;refine(F.m) fun F=>k8<|Yg<|(F.m) fun F=>(F.y F.ad) fun F=>(F.m) fun F=>?_
    replace G:=G.rL 1 (show Zg w0 w11 b (k+1+2*(i+1)) nv from Zu (G.l 1) (by omega));show _∧_;exact⟨by omega,_,_,F.u,G.u,_,_,_,rfl,rfl,(G.o 0),hx2,hx3⟩
 ·refine wp_exit<|k4<|wR fun k10=>(F.m) fun F=>(F.m) fun F=>k10<|(F.r1) ?_
  have hi:=show i=many by omega
  subst hi;have oo:=G.o 0;exact⟨va,vc,xs,rfl,hxl,hxb,oo,(G.l 1),(G.e 2)⟩
theorem Zep(M:List (Value×List Int))(xs:List Int)(a b:Option Addr)(c d:Nat)(w:World)(h:Z0s w a M)(hx:Z7 w (.slice b xs.length d) 1 (xs.map Z5))(hm:M.length≤1000)(hs:∀p∈M,p.2.length≤1000)(hl:xs.length≤1000):
  Calls (Qy.prog μ) 62 #[.slice a M.length c,.slice b xs.length d] w fun e w'=>e = .returned (.bool (decide (xs∈M.map (·.2))))∧Ext [] w w':=by
 have E:Ext [] w w:=Ext.refl _ _;have HL:=Lib.hid h;have HS:=Lib.hid h.1;have HX:=Lib.hid hx;have Hs:=Lib.hid hs;clear h hx hs;have G:=(Bk.nil w).ce E;refine(ent 18 Tryz.f62 rfl) fun F=>wR fun k1=>(F.m) fun F=>k1<|wQ fun k2=>wR fun k3=>(F.m) fun F=>k3<|Yh<|lpB (F.b [0,1]) G (M.length) (fun i Lv Sv W=>Lv=[(5,.int .i64 ((i:Nat):Int))]∧Sv=[]∧∀j,j<i→(M.getD j (.bool true,[])).2≠xs) ⟨_,_,F.u,G.u,rfl,rfl,(fun j h=>by omega)⟩ ?_
 clear F G;rintro i _ w1 _ _ hi1 ⟨rfl,rfl,hno⟩ F G;replace G:=G.z;refine wQ fun k4=>wR fun k5=>(F.m) fun F=>(F.m) fun F=>(F.y F.ln) fun F=>(F.y F.ls) fun F=>k5<|F.ci (fun hc9=>?_) (fun hc9=>?_)
 ·refine Yi<|k4<|wQ fun k6=>Yh<|wQ fun k7=>?_
  obtain⟨la,lca,hla,hlr⟩:=HL.out.2 _ (Z8 (.bool true,[]) (show i<M.length by omega));have hsz:=Hs.out _ (Z8 (.bool true,[]) (show i<M.length by omega));refine Yg<|(F.m) fun F=>(F.m) fun F=>(F.ix HS.out i) fun xr8 F=>(F.y (F.l1 (xr8 _ (G.e 0)) 0)) fun F=>?_
  rw[hla]at F;refine(F.m) fun F=>(F.k0 G (Z0j (M.getD i (.bool true,[])).2 xs la b lca d _ (hlr.ext (G.e 0) (by simp)) (HX.out.ext (G.e 0) (by simp)) (by omega) (by omega))) fun F G=>k7<|F.ci (fun hc17=>?_) (fun hc17=>?_)
  ·refine wR fun k9=>(F.m) fun F=>k9<|(F.r1) ?_
   exact⟨Z0J (by rw[decide_eq_true];exact List.mem_map.2 ⟨_,Z8 (.bool true,[]) (show i<M.length by omega),by simpa using hc17⟩),(G.e 0)⟩
  ·refine Yi<|k6<|Yg<|(F.m) fun F=>(F.y F.ad) fun F=>(F.m) fun F=>?_
   show _∧_;exact⟨by omega,_,_,F.u,G.u,rfl,rfl,(fun j h=>by rcases Nat.lt_succ_iff_lt_or_eq.1 h with h | rfl;(· exact hno j h);(· exact hc17))⟩
 ·refine wp_exit<|k2<|wR fun k10=>(F.m) fun F=>k10<|(F.r1) ?_
  exact⟨Z0J (by rw[decide_eq_false];intro hm;obtain⟨p,hp,he⟩:=List.mem_map.1 hm;obtain⟨j,hj,rfl⟩:=List.getElem_of_mem hp;have:=hno j (by omega);simp[hj]at this;exact this he),(G.e 0)⟩
variable{μ:Nat}
theorem ZdN(x:Vm)(k:Nat)(f g:Nat→Int):alkV x k g f = -alkV x k f g:=by
 unfold alkV;rw[Int.neg_sub]
theorem ZdM(x:Vm)(k:Nat)(f g:Nat→Int):alkE x k g f=alkE x k f g:=by
 unfold alkE;rw[ZdN,Int.neg_neg,Int.max_comm,Int.mul_right_comm]
def cnt(n:Nat)(β:Nat→Bool)(i:Nat):Nat:=(((List.range n).take i).filter β).length
theorem Z8u(n:Nat)(β:Nat→Bool):(Zw n β).length≤n:=by
 have:=List.length_filter_le β (List.range n);simp only[Zw,Yj];simpa using this
theorem Z7G{base:Nat}{w:World}{y:Value}(h:IntR base w l y): ∃a c,y = .slice a l.length c∧Z7 w (.slice a l.length c) 1 (l.map Z5):=by
 rcases h with⟨rfl,rfl⟩ | ⟨g,c,h1,rfl,h3,h4,h5,h6⟩
 ·exact⟨none,0,rfl,none,0,rfl,by simp,fun h=>absurd rfl h⟩
 ·refine⟨_,c,rfl,some ⟨g,0,none⟩,c,by simp,?_,fun _=>⟨g,0,rfl,Z3 h6,fun i j z hi hj=>?_⟩⟩
  ·intro z hz
   obtain⟨n,_,rfl⟩:=List.mem_map.1 hz
   rfl
  ·rw[Yn]at hi
   obtain⟨n,hn,rfl⟩:=Y3.1 hi;obtain rfl:j=0:=by omega
   rw[Z0 h6];have hlt:=(List.getElem?_eq_some_iff.1 hn).1;simp only[Nat.mul_one,Nat.zero_add,Nat.add_zero,List.getElem?_toArray];rw[List.getElem?_append_left (by simpa[ivs] using hlt)];simp[ivs,hn,Z5]
def ZdF(xs:Array Value)(u:World):Prop:=∃(x:Vm) (l l':List Int) (a1 a2:Option Addr) (c1 c2:Nat),xs=#[x.val,.slice a1 l.length c1,.slice a2 l'.length c2]∧VOk x∧x.At u∧RcpOk x l∧RcpOk x l'∧Z7 u (.slice a1 l.length c1) 1 (l.map Z5)∧Z7 u (.slice a2 l'.length c2) 1 (l'.map Z5)
def LawE(e:Ending)(u:World):Prop:=e = .returned (.bool true)∨∃xs,e = .panicked [bunV 15 xs]∧ZdF xs u
theorem Zji{x:Vm}{l': List Int}{a1 a2:Option Addr}{n1 n2 c1 c2:Nat}{u:World}(hv:VOk x)(h:x.At u)(hl:RcpOk x l)(hl':RcpOk x l')(e1:l.length=n1)(e2:l'.length=n2)(hr:Z7 u (.slice a1 n1 c1) 1 (l.map Z5))(hr':Z7 u (.slice a2 n2 c2) 1 (l'.map Z5)):
  LawE (.panicked [bunV 15 #[.agg #[.int .i64 x.B,.slice x.da x.D.length x.dc,.slice x.la x.L.length x.lc,.int .i64 x.tol],.slice a1 n1 c1,.slice a2 n2 c2]]) u:=by
 subst e1 e2;exact .inr ⟨_,rfl,x,l,l',a1,a2,c1,c2,rfl,hv,h,hl,hl',hr,hr'⟩
end
namespace Lift
open Go Go.Conc
variable[Jk]
structure Cx where
 Mu:Nat
 Wg:Nat
 Fd:Nat
 tM:TypeId
 tW:TypeId
 tB:TypeId
structure Sh where
 mu:Int
 ms:Int
 wg:Int
 ws:Int
 fd:List Bool
structure ShAt(K:Cx)(w:World)(s:Sh):Prop where
 mu:w.heap[K.Mu]?=some (.cells #[.int .i32 s.mu,.int .u32 s.ms] K.tM (0,0))
 wg:w.heap[K.Wg]?=some (.cells #[.int .u64 s.wg,.int .u32 s.ws] K.tW (0,0))
 fd:w.heap[K.Fd]?=some (.cells (s.fd.map Value.bool).toArray K.tB (0,0))
structure Rely(K:Cx)(O:Nat→Prop)(w w1:World):Prop where
 keep:∀c,O c→w1.heap[c]?=w.heap[c]?
 size:w.heap.size≤w1.heap.size
 env:w1.os.env=w.os.env
 live:(∃s,ShAt K w s)→∃s,ShAt K w1 s
theorem Rely.refl(K:Cx)(O:Nat→Prop)(w:World):Rely K O w w:=⟨fun _ _=>rfl,Ye _,rfl,id⟩
theorem Rely.trans{K:Cx}{O:Nat→Prop}{a b c:World}(h:Rely K O a b)(k:Rely K O b c):Rely K O a c:=⟨fun x hx=>(k.keep x hx).trans (h.keep x hx),Yd h.size k.size,k.env.trans h.env,fun x=>k.live (h.live x)⟩
def EvO(K:Cx)(RO O:Nat→Prop)(B:Nat)(e:Event):Prop:=
 (∃a wr,e=⟨.cell a,wr,false⟩∧O a.block∧a.block<B∧(wr=true→¬RO a.block))∨(∃c wr,e=⟨.obj c,wr,false⟩∧O c∧c<B∧(wr=true→¬RO c))∨e=⟨.mark .noRoom,false,true⟩∨e=⟨.output,true,false⟩ ∨
 e=⟨.mark .disable,false,true⟩∨e=⟨.mark .enable,false,true⟩∨(∃p,p.block=K.Mu∧e=⟨.mark (.acquire p),false,true⟩)∨∃p,p.block=K.Mu∧e=⟨.mark (.releaseMerge p),false,true⟩
def Grow(O:Nat→Prop)(w w':World):Nat→Prop:=fun c=>O c∨(w.heap.size≤c∧c<w'.heap.size)
structure Guar(K:Cx)(RO O:Nat→Prop)(w w':World)(es:Array Event):Prop where
 far:∀c,c<w.heap.size→¬O c→w'.heap[c]?=w.heap[c]?
 ro:∀c,RO c→w'.heap[c]?=w.heap[c]?
 size:w.heap.size≤w'.heap.size
 os:w'.os=w.os
 out:w'.output=w.output
 ev:∀e∈es,EvO K RO (Grow O w w') w'.heap.size e
inductive WT(P:Program)(m:Bool)(K:Cx)(RO:Nat→Prop)(Stop:(Nat→Prop)→Nat→Goroutine→World→Prop):(Nat→Prop)→Nat→Goroutine→World→Prop
 | stop {O d g w} (h:∀w1,Rely K O w w1→Stop O d g w1):WT P m K RO Stop O d g w
 | step {O d g w} (hr:g.status = .running) (ok:∀w1,Rely K O w w1→∃g' w' es,stepG P m g w1 = .go g' w' es∧Guar K RO O w1 w' es)
   (h:∀w1,Rely K O w w1→∀g' w' es,stepG P m g w1 = .go g' w' es→WT P m K RO Stop (Grow O w1 w') (deafBehind d es) g' w'):WT P m K RO Stop O d g w
section
variable{P:Program}{F:Array Func}{G:FuncId→Prop}{K:Cx}{m:Bool}{d:Nat}{RO O:Nat→Prop}{Stop:(Nat→Prop)→Nat→Goroutine→World→Prop}{r r':Ren}{v v' w w' w1:World}{g:Goroutine}
theorem WT.rely(h:WT P m K RO Stop O d g w)(k:Rely K O w w1):WT P m K RO Stop O d g w1:=by
 cases h with
 | stop h=>exact .stop fun w2 h2=>h w2 (k.trans h2)
 | step hr ok h=>exact .step hr (fun w2 h2=>ok w2 (k.trans h2)) (fun w2 h2=>h w2 (k.trans h2))
theorem WT.go(hr:g.status = .running)(h:∀w1,Rely K O w w1→∃g' w' es,stepG P m g w1 = .go g' w' es∧Guar K RO O w1 w' es∧WT P m K RO Stop (Grow O w1 w') (deafBehind d es) g' w'):WT P m K RO Stop O d g w:=by
 refine .step hr (fun w1 hw=>?_) fun w1 hw g' w' es e=>?_
 ·obtain⟨g',w',es,e,hG,_⟩:=h w1 hw
  exact⟨g',w',es,e,hG⟩
 ·obtain⟨g2,w2,es2,e2,hG2,hq⟩:=h w1 hw
  rw[e]at e2;simp only[GStep.go.injEq]at e2;obtain⟨rfl,rfl,rfl⟩:=e2;exact hq
theorem Z0y(O:Nat→Prop)(w w':World)(h:w'.heap.size=w.heap.size):Grow O w w'=O:=by
 funext c
 simp only[Grow,eq_iff_iff]
 constructor
 ·rintro (x | ⟨a,b⟩)
  ·exact x
  ·omega
 ·exact .inl
theorem WT.word{g':Goroutine}{ev:Ev.XEv}(hr:g.status = .running)(he:∀p,(ev = .acq p∨ev = .mrg p)→p.block=K.Mu)(h:∀w1,Rely K O w w1→stepG P m g w1 = .go g' w1 ev.es)(k:WT P m K RO Stop O (deafBehind d ev.es) g' w): WT P m K RO Stop O d g w:=by
 refine .go hr fun w1 hw=>⟨g',w1,_,h w1 hw,⟨fun _ _ _=>rfl,fun _ _=>rfl,Ye _,rfl,rfl,fun e hm=>?_⟩,?_⟩
 ·cases ev with
  | none=>simp[Ev.XEv.es]at hm
  | dis=>simp only[Ev.XEv.es,Yb,List.mem_singleton]at hm;subst hm;exact .inr (.inr (.inr (.inr (.inl rfl))))
  | en=>simp only[Ev.XEv.es,Yb,List.mem_singleton]at hm;subst hm;exact .inr (.inr (.inr (.inr (.inr (.inl rfl)))))
  | acq p=>simp only[Ev.XEv.es,Yb,List.mem_singleton]at hm;subst hm;exact .inr (.inr (.inr (.inr (.inr (.inr (.inl ⟨p,he p (.inl rfl),rfl⟩))))))
  | mrg p=>simp only[Ev.XEv.es,Yb,List.mem_singleton]at hm;subst hm;exact .inr (.inr (.inr (.inr (.inr (.inr (.inr ⟨p,he p (.inr rfl),rfl⟩))))))
 ·rw[Z0y O w1 w1 rfl]
  exact k.rely hw
theorem Z4u(s:Ev.St)(mv:Ev.Mv):(s.upd mv).deaf=deafBehind s.deaf mv.ev.es:=by
 unfold Ev.St.upd
 cases mv.ev<;>rfl
theorem WT.pn{X:Ev.Xt}(hX:Ev.XOk P X){cs:List Frame}:∀(n:Nat) (s:Ev.St) {f:Frame} {fs:List Frame},Ev.SOk s.top s.rest f fs→f.roundOf=none →
  (∀p∈(Ev.pn P X n s).cvs,∀w1,Rely K O w w1→∃v,w1.cell? p=some v)→(∀p∈(Ev.pn P X n s).mks,p.block=K.Mu) →
  (∀f' fs',Ev.SOk (Ev.pn P X n s).top (Ev.pn P X n s).rest f' fs'→WT P m K RO Stop O (Ev.pn P X n s).deaf (run1 f' (fs'++cs)) w)→WT P m K RO Stop O s.deaf (run1 f (fs++cs)) w
 | 0,s,f,fs,h,hr,hc,hm,k=>k f fs h
 | n+1,s,f,fs,h,hr,hc,hm,k=>by
  unfold Ev.pn at hc hm k
  cases e:Ev.pmove P X s.top s.rest with
  | none=>rw[e]at k;exact k f fs h
  | some mv =>
   rw[e]at hc hm k;dsimp only at hc hm k;obtain⟨f',fs',h',hs⟩:=Ev.pmove_ok (cs:=cs) hX h e;obtain⟨m1,m2⟩:=Ev.pn_mono P X n (s.upd mv);refine WT.word (g':=run1 f' (fs'++cs)) (ev:=mv.ev) rfl (fun p hp=>hm p (m2 p (List.mem_append_left _ (by rcases hp with h | h<;>rw[h]<;>simp[Ev.XEv.places])))) (fun w1 hw=>?_) ?_
   ·exact hs m w1 fun p hp=>hc p (m1 p (List.mem_append_left _ hp)) w1 hw
   ·rw[←Z4u]
    exact WT.pn hX n (s.upd mv) h' h'.1.round hc hm k
theorem Z3P(h:WH (Iv P F) r v w)(k:Rely K O w w1)(ho:∀b c,r b=some c→O c):WH (Iv P F) r v w1:=
 ⟨fun b c hb=>by rw[k.keep c (ho b c hb)];exact h.on b c hb,h.inj,h.env.trans k.env.symm⟩
structure Fit(RO O:Nat→Prop)(r:Ren)(v:World):Prop where
 own:∀b c,r b=some c→O c
 ro:∀b c,r b=some c→RO c→Shut v b
theorem Fit.kept(h:Fit RO O r v)(k:Kept r r' v v' w w')(hO:∀c,O' c↔O c∨(w.heap.size≤c∧c<w'.heap.size))(hro:∀c,RO c→c<w.heap.size)(hw:WH (Iv P F) r' v' w'): Fit RO O' r' v':=
 ⟨fun b c hb=>by
  obtain⟨o,o',h1,h2,_⟩:=hw.on b c hb;have hl:=(Y0.1 h2).1
  rcases k.new b c hb with q | ⟨_,q⟩
  ·exact(hO c).2 (.inl (h.own b c q))
  ·exact(hO c).2 (.inr ⟨q,hl⟩),fun b c hb hc=>by
  rcases k.new b c hb with q | ⟨_,q⟩
  ·exact k.shutS (h.ro b c q hc)
  ·have:=hro c hc
   omega⟩
theorem Zj4{e:Event}(h:EvG r' v w' e)(ho:∀b c,r' b=some c→O' c)(hro:∀b c,r' b=some c→RO c→Shut v b): EvO K RO O' w'.heap.size e:=by
 rcases h with⟨a,wr,b,rfl,hb,hl,hs⟩ | ⟨c,wr,b,rfl,hb,hl,hs⟩ | rfl | rfl
 ·exact .inl ⟨a,wr,rfl,ho _ _ hb,hl,fun hw hc=>hs hw (hro _ _ hb hc)⟩
 ·exact .inr (.inl ⟨c,wr,rfl,ho _ _ hb,hl,fun hw hc=>by
   obtain⟨cs,e,q⟩:=hro _ _ hb hc;exact hs ⟨_,_,_,q⟩⟩)
 ·exact .inr (.inr (.inl rfl))
 ·exact .inr (.inr (.inr (.inl rfl)))
theorem Zch{ns:Array Event}(hf:Fit RO O r v)(k:Kept r r' v v' w w')(hrl:∀c,RO c→c<w.heap.size)(hw:WH (Iv P F) r' v' w')(he:∀e∈ns,EvG r' v w' e):Guar K RO O w w' ns where
 far:=fun c hc hn=>k.far c hc fun b hb=>hn (hf.own b c hb)
 ro:=fun c hc=>by
  by_cases h:∃b,r b=some c
  ·obtain⟨b,hb⟩:=h
   exact k.shutW b c (hf.ro b c hb hc) hb
  ·exact k.far c (hrl c hc) fun b hb=>h ⟨b,hb⟩
 size:=k.sizeW
 os:=k.os.2.symm
 out:=k.out
 ev:=fun e hm=>Zj4 (he e hm) (fun b c hb=>by
  obtain⟨o,o',h1,h2,_⟩:=hw.on b c hb;have hl:=(Y0.1 h2).1
  rcases k.new b c hb with q | ⟨_,q⟩
  ·exact .inl (hf.own b c q)
  ·exact .inr ⟨q,hl⟩) fun b c hb hc=>by
  rcases k.new b c hb with q | ⟨_,q⟩
  ·exact hf.ro b c q hc
  ·have:=hrl c hc
   omega
structure Ros(RO U:Nat→Prop)(r:Ren)(w:World):Prop where
 low:∀c,RO c→c<w.heap.size
 una:∀c,U c→c<w.heap.size∧∀b,r b≠some c
theorem Ros.kept(h:Ros RO U r w)(k:Kept r r' v v' w w'): Ros RO U r' w':=
 ⟨fun c hc=>Y8 (h.low c hc) k.sizeW,fun c hc=>⟨Y8 (h.una c hc).1 k.sizeW,fun b hb=>by
  have hu:=h.una c hc
  rcases k.new b c hb with q | ⟨_,q⟩
  ·exact hu.2 b q
  ·omega⟩⟩
theorem Ros.rely(h:Ros RO U r w)(l:Rely K O w w1): Ros RO U r w1:=⟨fun c hc=>Y8 (h.low c hc) l.size,fun c hc=>⟨Y8 (h.una c hc).1 l.size,(h.una c hc).2⟩⟩
theorem Z7C{ns:Array Event}(h:∀e∈ns,EvG r v w e)(d:Nat):deafBehind d ns=d:=
 deafBehind_still (fun e he=>by
  rcases h e he with⟨a,wr,b,rfl,_⟩ | ⟨c,wr,b,rfl,_⟩ | rfl | rfl
  ·exact⟨by simp,by simp⟩
  ·exact⟨by simp,by simp⟩
  ·exact⟨by simp,by simp⟩
  ·exact⟨by simp,by simp⟩) d
theorem Zik(hJr:∀O (w w1:World),Rely K O w w1→J O w→J O w1)(hJg:∀O (w w':World) es,Guar K RO O w w' es→(∀c,U c→w'.heap[c]?=w.heap[c]?)→J O w→J (Grow O w w') w')(S:Strip P F (CodeOk P false) G)(hg:GOk P F G)(hrec:Rec P){Stop0:List Frame→World→Prop}(hP:∀x u,¬Stop0 [x] u){V:List Frame}(hE:Ends (PF P F) Stop0 V v):
  ∀{f A g B r O w},V=f::(A++[poison])→Stk P F r (f::A) (g::B)→WH (Iv P F) r v w→Fit RO O r v→Ros RO U r w→J O w →
   (∀f' A' g' B' r' v' w' O',Stop0 (f'::(A'++[poison])) v'→Stk P F r' (f'::A') (g'::B')→WH (Iv P F) r' v' w'→Fit RO O' r' v'→Ros RO U r' w'→J O' w'→WT P m K RO Stop O' d (run1 g' (B'++cs)) w')→WT P m K RO Stop O d (run1 g (B++cs)) w:=by
 induction hE with
 | @stop V v h =>
  intro f A g B r O w hV hs hw hf hr hj fin;subst hV;exact fin _ _ _ _ _ _ _ _ h hs hw hf hr hj
 | @step f K v ok h ih =>
  intro f0 A g B r O w hV hs hw hf hr hj fin;simp only[List.cons.injEq]at hV;obtain⟨rfl,rfl⟩:=hV;refine WT.go rfl fun w1 hl=>?_;have hw1:WH (Iv P F) r v w1:=Z3P hw hl hf.own;have hr1:Ros RO U r w1:=hr.rely hl;have hj1:J O w1:=hJr _ _ _ hl hj;obtain⟨τ,f',K',v',es,e,hc⟩:=Z5c S hg hrec.1 hs hw1 (fun q=>hrec.2 _ q.1) ok m cs;have hf1:Fit RO O r (re v τ):=⟨hf.own,hf.ro⟩
  rcases hc with⟨rfl,hx⟩ | ⟨A',g',B',r',w',ns,rfl,e2,hs',hw',hk,he⟩
  ·exact absurd (h τ _ _ _ _ e) (Z0p hP hx)
  ·have hG:Guar K RO O w1 w' ns:=Zch hf1 hk hr1.low hw'.h he
   refine⟨_,w',ns,e2,hG,?_⟩;rw[Z7C he];exact ih τ _ _ _ _ e rfl hs' hw'.h (hf1.kept hk (fun c=>Iff.rfl) hr1.low hw'.h) (hr1.kept hk) (hJg _ _ _ _ hG (fun c hc=>hk.far c (hr1.una c hc).1 fun b hb=>(hr1.una c hc).2 b hb) hj1) fin
theorem Zdz(hJr:∀O (w w1:World),Rely K O w w1→J O w→J O w1)(hJg:∀O (w w':World) es,Guar K RO O w w' es→(∀c,U c→w'.heap[c]?=w.heap[c]?)→J O w→J (Grow O w w') w')(S:Strip P F (CodeOk P false) G)(hg:GOk P F G)(hrec:Rec P){f:FuncId}{xs ys:Array Value}(g:G f)(ha:VRs r xs ys)(hw:WH (Iv P F) r v w)(hf:Fit RO O r v)(hr:Ros RO U r w)(hj:J O w){R:Ending→World→Prop}(hR:∀e u T,R e (re u T)→R e u)(hn:∀u,¬R .outgrown u)(hp:∀u ch,¬R (.panicked ch) u)(hC:∀T,Calls (PF P F) f xs (re v T) R){c:Frame}(ret:∀r' v' w' O' x y,R (.returned x) v'→VR r' x y→WH (Iv P F) r' v' w'→Fit RO O' r' v'→Ros RO U r' w'→J O' w'→WT P m K RO Stop O' d (run1 (c.finish y) cs) w'):
  WT P m K RO Stop O d (run1 (Frame.enter P f ys .normal) (c::cs)) w:=by
 have hfr:=Z0V S ha g hg (k:=.normal) (.inl rfl);have hE:=Z1O S hg hrec g ha hw hR hn hC;refine Zik (U:=U) (J:=J) hJr hJg (A:=[]) (B:=[]) S hg hrec Z36 hE rfl ⟨.cons hfr .nil,⟨.inl rfl,fun h=>absurd rfl h⟩,trivial⟩ hw hf hr hj ?_;intro f' A' g' B' r' v' w' O' hs hst hw' hf' hr' hj';obtain⟨T,e,fr,h1,h2,h3,h4,h5⟩:=hs;simp only[List.cons.injEq]at h1;obtain⟨rfl,h1⟩:=h1;have hA:A'=[]:=by
  cases A' with
  | nil=>rfl
  | cons a az =>
   have:=congrArg List.length h1;simp at this
 subst hA;have hB:B'=[]:=by
  obtain⟨_,h,_⟩:=hst.uncons;have:=h.rel
  cases B' with
  | nil=>rfl
  | cons b bs=>cases this
 subst hB;have hfr':=hst.uncons.1
 cases e with
 | outgrown=>exact absurd rfl h5
 | panicked ch=>exact absurd h4 (hp _ _)
 | returned x =>
  refine WT.go rfl fun w1 hl=>?_;have hw1:WH (Iv P F) r' v' w1:=Z3P hw' hl hf'.own;have hr1:Ros RO U r' w1:=hr'.rely hl;have hj1:J O' w1:=hJr _ _ _ hl hj';obtain⟨r2,T2,y,w2,ns,e2,hv,hw2,hk2,he⟩:=Z4N hfr' hw1 h3 m c cs;have hf1:Fit RO O' r' (re v' T2):=⟨hf'.own,hf'.ro⟩;have hG:Guar K RO O' w1 w2 ns:=Zch hf1 hk2 hr1.low hw2.h he;refine⟨_,w2,ns,e2,hG,?_⟩;rw[Z7C he];have hf2:=hf1.kept hk2 (fun c=>Iff.rfl) hr1.low hw2.h;exact ret r2 v' w2 _ x y h4 hv (hw2.h.of rfl rfl hw2.env) ⟨hf2.own,hf2.ro⟩ (hr1.kept hk2) (hJg _ _ _ _ hG (fun c hc=>hk2.far c (hr1.una c hc).1 fun b hb=>(hr1.una c hc).2 b hb) hj1)
end
end Lift
end Go.Proofs.YtfelljbfeoplhaaGreat
