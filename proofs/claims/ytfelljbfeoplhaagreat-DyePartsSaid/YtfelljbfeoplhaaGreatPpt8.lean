/- Parts of a proof: Ya, Zd, Dfl, Ze, Dmo, Dmt, Dco, Dis, Dsh, Dsd, Dvv, Dxo. No conditions. -/
import Derived.Test.YtfelljbfeoplhaaGreatPpt1
import Derived.Test.YtfelljbfeoplhaaGreatPpt6
import Derived.Test.YtfelljbfeoplhaaGreatPpt7
set_option linter.unusedVariables false
set_option linter.unusedSimpArgs false
set_option linter.unusedSectionVars false
set_option maxRecDepth 100000
set_option maxHeartbeats 4000000
namespace Go.Proofs.YtfelljbfeoplhaaGreat
variable{b base j k n s:Nat}{X:List Nat}{W w w':Go.World}{l xs:List Int}{v:Go.Value}{a:Option Go.Addr}{T:Go.TypeId}{fz:Nat×Nat}
section
open Go.RowKit Ev
variable{μ:Nat}
theorem Z7W(x:Vm)(hv:VOk x)(k:Nat)(hk:k<x.L.length)(f g:Nat->Int)(hf:TubS f)(hg:TubS g)(n8 n9 n10:Nat)(T8 T9 T10:TypeId)(z8 z9 z10:Nat×Nat)(w:World)(h:x.At w)
  (q8:w.heap[n8]?=some (.cells #[.int .i64 x.B,.slice x.da x.D.length x.dc,.slice x.la x.L.length x.lc,.int .i64 x.tol] T8 z8)) (q9:w.heap[n9]?=some (.cells (tubC f) T9 z9)) (q10:w.heap[n10]?=some (.cells (tubC g) T10 z10)) :
  Calls (Qy.prog μ) 67 #[.int .i64 ((k:Nat):Int),.pointer (some ⟨n8,0,none⟩),.pointer (some ⟨n9,0,none⟩),.pointer (some ⟨n10,0,none⟩)] w λe w'=>e = .returned (.bool (alkE x k f g))/\Ext [] w w':=by
 have E:Ext [] w w:=Ext.refl _ _;have HX:=Lib.hid h;have HV:=Lib.hid hv;clear h hv;refine ZS 11 Qy.func67 rfl Tryz.ntmps67 (Nat.le_of_ble_eq_true rfl) ?_;intro fa F;refine wS λK1 hK1=>?_;refine Yg ?_;refine F.vl (ZC rfl (ev_c fa _)) λfa F=>?_;refine wN<|hK1 _ _<|wS λK2 hK2=>?_
 refine Yg ?_;refine F.vl (Zc rfl (F.at rfl) Qy.underlying85 rfl (by kernel_rfl) q8) λfa F=>?_;refine F.mv λfa F=>?_;refine F.vl (Zc rfl (F.at rfl) Qy.underlying88 rfl (by kernel_rfl) q9) λfa F=>?_;refine F.vl (Zc rfl (F.at rfl) Qy.underlying88 rfl (by kernel_rfl) q10) λfa F=>?_;refine sqC F (Za rfl rfl Qy.call68 (mpS (F.at rfl) (mpS (F.at rfl) (mpS (F.at rfl) (mpS (F.at rfl) mp0))))) (Z6z (μ:=μ) x HV.out k hk f g hf hg _ (HX.out.ext E)) λe w1 hR=>?_;obtain⟨rfl,e9⟩:=hR;refine⟨_,rfl,λfa F=>?_⟩;replace q8:=(e9).keep0 q8;replace q9:=(e9).keep0 q9;replace q10:=(e9).keep0 q10;replace E:=Z4 E (e9);clear e9;refine F.as λfa F=>?_;refine wN<|hK2 _ _ ?_
 refine wp_ret ?_
 (try simp only[Exit.inBlock,Exit.then,reduceIte])
 refine rt_v F (rs_1 F rfl rfl) ?_;exact⟨rfl,E⟩
noncomputable def aB:Code:=Tryz.f15.body.getD .skip
noncomputable def cAli:Code:=.seq (sqL aB) (.seq (sqL (sqR aB)) (.seq (sqL (sqR (sqR aB))) (.seq (sqL (sqR (sqR (sqR aB)))) (.refuse ""))))
def Z0g(n:Nat):Deferred:={target:=.fn (.func 63) #[],args:=#[.pointer (some ⟨n,0,none⟩)]}
structure AlA(x:Vm)(f g:Nat->Int)(w:World)(b fr:Frame)(w':World):Prop where
 ex:∃(a:Act) (n7 n8 n9 n10:Nat),fr=b.at a [.code (.refuse "")] /\
  Has 22 [Z0g n7] a [(7,pt n7),(8,pt n8),(9,pt n9),(10,pt n10)] /\
  w'.heap[n7]?=some (.cells #[.int .i64 0] 30 (0,0))/\w'.heap[n8]?=some (.cells #[.int .i64 x.B,.slice x.da x.D.length x.dc,.slice x.la x.L.length x.lc,.int .i64 x.tol] 85 (0,0)) /\
  w'.heap[n9]?=some (.cells (tubC f) 88 (0,0))/\w'.heap[n10]?=some (.cells (tubC g) 88 (0,0)) /\
  w.heap.size<=n7/\w.heap.size<=n8/\w.heap.size<=n9/\w.heap.size<=n10/\n7≠n8/\n7≠n9/\n7≠n10/\Ext [] w w'
theorem Zjo(x:Vm)(hv:VOk x)(l l':List Int)(hl:RcpOk x l)(hl':RcpOk x l')(a1 a2:Option Addr)(c1 c2:Nat)(w:World)(h:x.At w)(hr:Z8 w (.slice a1 l.length c1) 1 (l.map Z7))(hr':Z8 w (.slice a2 l'.length c2) 1 (l'.map Z7))
  (fb:Frame) (fa:Act) (F:Has 22 [] fa [(0,x.val),(1,.slice a1 l.length c1),(2,.slice a2 l'.length c2)]):ToZ (Qy.prog 1) [Lift.poison] (AlA x (val l) (val l') w fb) (fb.at fa [.code cAli]) w:=by
 have E:Ext [] w w:=Ext.refl _ _;have HX:=Lib.hid h;have HV:=Lib.hid hv;have HR:=Lib.hid hr;have HR':=Lib.hid hr';have HL:=Lib.hid hl;have HL':=Lib.hid hl';clear h hv hr hr' hl hl';unfold Vm.val at F;have G:=(Bk.nil w).ce E;refine Z1r<|Z3o<|Yg<|(F.bx G) λyy F G=>(F.m) λF=>(F.al G Qy.zeroValue30) @λn7 w2 _ yy F G=>tI<|Z1r<|Z3o<|Yg<|(F.df) λF=>tI<|Z1r<|Z3o<|Yg<|(F.y (F.lb (G.q 1))) λF=>(F.k0 G (ZZ (μ:=1) x HV.out _ (HX.out.ext (G.e 2)))) λF G=>(F.al G Qy.zeroValue85) @λn8 w4 _ yy F G=>(F.sr G 0) λG=>tI<|Z1r<|Z3o ?_
 suffices hcut:∀(n9 n10:Nat) {fa:Act} {W:World},Has 22 [{target:=.fn (.func 63) #[],args:=#[.pointer (some ⟨n7,0,none⟩)]}] fa [(6,.slice none 0 0),(7,.pointer (some ⟨n7,0,none⟩)),(8,.pointer (some ⟨n8,0,none⟩)),(9,.pointer (some ⟨n9,0,none⟩)),(10,.pointer (some ⟨n10,0,none⟩))]->Bk W [.q n10 (#[.int .i64 (val l' 0),.int .i64 (val l' 1),.int .i64 (val l' 2),.int .i64 (val l' 3)]) 88,.q n9 (#[.int .i64 (val l 0),.int .i64 (val l 1),.int .i64 (val l 2),.int .i64 (val l 3)]) 88,.q n8 (#[.int .i64 x.B,.slice x.da x.D.length x.dc,.slice x.la x.L.length x.lc,.int .i64 x.tol]) 85,.q n7 (#[.int .i64 0]) 30,.e [] w]->w.heap.size<=n9/\w.heap.size<=n10/\n7≠n9/\n8≠n9/\n7≠n10/\n8≠n10/\n9≠n10->ToZ (Qy.prog 1) [Lift.poison] (AlA x (val l) (val l') w fb) (fb.at fa [.code (.refuse "")]) W by
  have G2:=G;refine(wDN [] none G) λG=>(F.zr 0 (G.t 0) λhS=>F.lb (G2.k 0 hS)) λF=>(F.z 1 (G.t 0) F.mo) λF=>(F.zr 3 (G.t 0) λhS=>F.lb (G2.k 0 hS)) λF=>(F.z 4 (G.t 0) F.mo) λF=>Z1t (i:=2) (j:=6) (k:=7) (by kernel_rfl) ?_ ?_ ?_
  ·refine(F.ok (Z9 (μ:=1) x HV.out l HL.out a1 c1 _ (HR.out.ext (G.e 4) (by simp)))) ?_
   rintro _ w7 ⟨rfl,e9⟩;refine⟨_,rfl,λF=>?_⟩;replace G:=G.ex e9;refine .intro (G.t 0) ?_;unfold tubC at F;refine Z1t (i:=5) (j:=6) (k:=7) (by kernel_rfl) ?_ ?_ ?_
   ·refine(F.ok (Z9 (μ:=1) x HV.out l' HL'.out a2 c2 _ (HR'.out.ext (G.e 4) (by simp)))) ?_
    rintro _ w8 ⟨rfl,e9⟩;refine⟨_,rfl,λF=>?_⟩;replace G:=G.ex e9;refine .intro (G.t 0) ?_;unfold tubC at F;refine ZD (i:=6) (j:=7) (by kernel_rfl) ?_ ?_
    ·refine(F.oa G Qy.zeroValue88) @λn9 w9 _ yy F G=>.intro (G.t 1)<|(aO 7)<|(F.oa G Qy.zeroValue88) @λn10 w10 _ yy F G=>.intro (G.t 2)<|(aO 8)<|(F.or G 1) λG=>.intro (G.t 2)<|(aO 9)<|(F.or G 0) λG=>.intro (G.t 2)<|(aDN)<|tI<|hcut _ _ F.u G.u (by omega)
    ·refine(F.oa G Qy.zeroValue88) @λn10 w13 _ yy F G=>.intro (G.t 1)<|(aO 6)<|(F.oa G Qy.zeroValue88) @λn9 w14 _ yy F G=>.intro (G.t 2)<|(aO 8)<|(F.or G 0) λG=>.intro (G.t 2)<|(aO 9)<|(F.or G 1) λG=>.intro (G.t 2)<|(aDN)<|tI<|hcut _ _ F.u G.u (by omega)
   ·refine(F.oa G Qy.zeroValue88) @λn9 w17 _ yy F G=>.intro (G.t 1)<|ZD (i:=5) (j:=7) (by kernel_rfl) ?_ ?_
    ·refine(F.ok (Z9 (μ:=1) x HV.out l' HL'.out a2 c2 _ (HR'.out.ext (G.e 5) (by simp)))) ?_
     rintro _ w18 ⟨rfl,e9⟩;refine⟨_,rfl,λF=>?_⟩;replace G:=G.ex e9;refine .intro (G.t 1) ?_;unfold tubC at F;refine(aO 7)<|(F.oa G Qy.zeroValue88) @λn10 w19 _ yy F G=>.intro (G.t 2)<|(aO 8)<|(F.or G 1) λG=>.intro (G.t 2)<|(aO 9)<|(F.or G 0) λG=>.intro (G.t 2)<|(aDN)<|tI<|hcut _ _ F.u G.u (by omega)
    ·refine(F.oa G Qy.zeroValue88) @λn10 w22 _ yy F G=>.intro (G.t 2)<|(aO 5)<|(F.ok (Z9 (μ:=1) x HV.out l' HL'.out a2 c2 _ (HR'.out.ext (G.e 6) (by simp)))) ?_
     rintro _ w23 ⟨rfl,e9⟩;refine⟨_,rfl,λF=>?_⟩;replace G:=G.ex e9;refine .intro (G.t 2) ?_;unfold tubC at F;refine(aO 8)<|(F.or G 1) λG=>.intro (G.t 2)<|(aO 9)<|(F.or G 0) λG=>.intro (G.t 2)<|(aDN)<|tI<|hcut _ _ F.u G.u (by omega)
   ·refine(F.oa G Qy.zeroValue88) @λn10 w26 _ yy F G=>.intro (G.t 1)<|ZD (i:=5) (j:=6) (by kernel_rfl) ?_ ?_
    ·refine(F.ok (Z9 (μ:=1) x HV.out l' HL'.out a2 c2 _ (HR'.out.ext (G.e 5) (by simp)))) ?_
     rintro _ w27 ⟨rfl,e9⟩;refine⟨_,rfl,λF=>?_⟩;replace G:=G.ex e9;refine .intro (G.t 1) ?_;unfold tubC at F;refine(aO 6)<|(F.oa G Qy.zeroValue88) @λn9 w28 _ yy F G=>.intro (G.t 2)<|(aO 8)<|(F.or G 0) λG=>.intro (G.t 2)<|(aO 9)<|(F.or G 1) λG=>.intro (G.t 2)<|(aDN)<|tI<|hcut _ _ F.u G.u (by omega)
    ·refine(F.oa G Qy.zeroValue88) @λn9 w31 _ yy F G=>.intro (G.t 2)<|(aO 5)<|(F.ok (Z9 (μ:=1) x HV.out l' HL'.out a2 c2 _ (HR'.out.ext (G.e 6) (by simp)))) ?_
     rintro _ w32 ⟨rfl,e9⟩;refine⟨_,rfl,λF=>?_⟩;replace G:=G.ex e9;refine .intro (G.t 2) ?_;unfold tubC at F;refine(aO 8)<|(F.or G 0) λG=>.intro (G.t 2)<|(aO 9)<|(F.or G 1) λG=>.intro (G.t 2)<|(aDN)<|tI<|hcut _ _ F.u G.u (by omega)
  ·refine(F.oa G Qy.zeroValue88) @λn9 w35 _ yy F G=>.intro (G.t 1)<|ZD (i:=2) (j:=7) (by kernel_rfl) ?_ ?_
   ·refine(F.ok (Z9 (μ:=1) x HV.out l HL.out a1 c1 _ (HR.out.ext (G.e 5) (by simp)))) ?_
    rintro _ w36 ⟨rfl,e9⟩;refine⟨_,rfl,λF=>?_⟩;replace G:=G.ex e9;refine .intro (G.t 1) ?_;unfold tubC at F;refine ZD (i:=5) (j:=7) (by kernel_rfl) ?_ ?_
    ·refine(F.ok (Z9 (μ:=1) x HV.out l' HL'.out a2 c2 _ (HR'.out.ext (G.e 5) (by simp)))) ?_
     rintro _ w37 ⟨rfl,e9⟩;refine⟨_,rfl,λF=>?_⟩;replace G:=G.ex e9;refine .intro (G.t 1) ?_;unfold tubC at F;refine(aO 7)<|(F.oa G Qy.zeroValue88) @λn10 w38 _ yy F G=>.intro (G.t 2)<|(aO 8)<|(F.or G 1) λG=>.intro (G.t 2)<|(aO 9)<|(F.or G 0) λG=>.intro (G.t 2)<|(aDN)<|tI<|hcut _ _ F.u G.u (by omega)
    ·refine(F.oa G Qy.zeroValue88) @λn10 w41 _ yy F G=>.intro (G.t 2)<|(aO 5)<|(F.ok (Z9 (μ:=1) x HV.out l' HL'.out a2 c2 _ (HR'.out.ext (G.e 6) (by simp)))) ?_
     rintro _ w42 ⟨rfl,e9⟩;refine⟨_,rfl,λF=>?_⟩;replace G:=G.ex e9;refine .intro (G.t 2) ?_;unfold tubC at F;refine(aO 8)<|(F.or G 1) λG=>.intro (G.t 2)<|(aO 9)<|(F.or G 0) λG=>.intro (G.t 2)<|(aDN)<|tI<|hcut _ _ F.u G.u (by omega)
   ·refine(F.oa G Qy.zeroValue88) @λn10 w45 _ yy F G=>.intro (G.t 2)<|(aO 2)<|(F.ok (Z9 (μ:=1) x HV.out l HL.out a1 c1 _ (HR.out.ext (G.e 6) (by simp)))) ?_
    rintro _ w46 ⟨rfl,e9⟩;refine⟨_,rfl,λF=>?_⟩;replace G:=G.ex e9;refine .intro (G.t 2) ?_;unfold tubC at F;refine(aO 5)<|(F.ok (Z9 (μ:=1) x HV.out l' HL'.out a2 c2 _ (HR'.out.ext (G.e 6) (by simp)))) ?_
    rintro _ w47 ⟨rfl,e9⟩;refine⟨_,rfl,λF=>?_⟩;replace G:=G.ex e9;refine .intro (G.t 2) ?_;unfold tubC at F;refine(aO 8)<|(F.or G 1) λG=>.intro (G.t 2)<|(aO 9)<|(F.or G 0) λG=>.intro (G.t 2)<|(aDN)<|tI<|hcut _ _ F.u G.u (by omega)
  ·refine(F.oa G Qy.zeroValue88) @λn10 w50 _ yy F G=>.intro (G.t 1)<|ZD (i:=2) (j:=6) (by kernel_rfl) ?_ ?_
   ·refine(F.ok (Z9 (μ:=1) x HV.out l HL.out a1 c1 _ (HR.out.ext (G.e 5) (by simp)))) ?_
    rintro _ w51 ⟨rfl,e9⟩;refine⟨_,rfl,λF=>?_⟩;replace G:=G.ex e9;refine .intro (G.t 1) ?_;unfold tubC at F;refine ZD (i:=5) (j:=6) (by kernel_rfl) ?_ ?_
    ·refine(F.ok (Z9 (μ:=1) x HV.out l' HL'.out a2 c2 _ (HR'.out.ext (G.e 5) (by simp)))) ?_
     rintro _ w52 ⟨rfl,e9⟩;refine⟨_,rfl,λF=>?_⟩;replace G:=G.ex e9;refine .intro (G.t 1) ?_;unfold tubC at F;refine(aO 6)<|(F.oa G Qy.zeroValue88) @λn9 w53 _ yy F G=>.intro (G.t 2)<|(aO 8)<|(F.or G 0) λG=>.intro (G.t 2)<|(aO 9)<|(F.or G 1) λG=>.intro (G.t 2)<|(aDN)<|tI<|hcut _ _ F.u G.u (by omega)
    ·refine(F.oa G Qy.zeroValue88) @λn9 w56 _ yy F G=>.intro (G.t 2)<|(aO 5)<|(F.ok (Z9 (μ:=1) x HV.out l' HL'.out a2 c2 _ (HR'.out.ext (G.e 6) (by simp)))) ?_
     rintro _ w57 ⟨rfl,e9⟩;refine⟨_,rfl,λF=>?_⟩;replace G:=G.ex e9;refine .intro (G.t 2) ?_;unfold tubC at F;refine(aO 8)<|(F.or G 0) λG=>.intro (G.t 2)<|(aO 9)<|(F.or G 1) λG=>.intro (G.t 2)<|(aDN)<|tI<|hcut _ _ F.u G.u (by omega)
   ·refine(F.oa G Qy.zeroValue88) @λn9 w60 _ yy F G=>.intro (G.t 2)<|(aO 2)<|(F.ok (Z9 (μ:=1) x HV.out l HL.out a1 c1 _ (HR.out.ext (G.e 6) (by simp)))) ?_
    rintro _ w61 ⟨rfl,e9⟩;refine⟨_,rfl,λF=>?_⟩;replace G:=G.ex e9;refine .intro (G.t 2) ?_;unfold tubC at F;refine(aO 5)<|(F.ok (Z9 (μ:=1) x HV.out l' HL'.out a2 c2 _ (HR'.out.ext (G.e 6) (by simp)))) ?_
    rintro _ w62 ⟨rfl,e9⟩;refine⟨_,rfl,λF=>?_⟩;replace G:=G.ex e9;refine .intro (G.t 2) ?_;unfold tubC at F;refine(aO 8)<|(F.or G 0) λG=>.intro (G.t 2)<|(aO 9)<|(F.or G 1) λG=>.intro (G.t 2)<|(aDN)<|tI<|hcut _ _ F.u G.u (by omega)
 clear F G;intro n9 n10 fa w65 F G hlt;exact ToZ.here ⟨fa,n7,n8,n9,n10,rfl,F.u,G.q 3,G.q 2,G.q 1,G.q 0,by omega,by omega,by omega,by omega,by omega,by omega,by omega,G.e 4⟩
variable{μ:Nat}
theorem Z4M{base': Nat}{y:Value}(h:IntR base w l y)(E:Ext X w w')(hX:∀b∈X,b<base)(hb:base'<=base): IntR base' w' l y:=by
 rcases h with h | ⟨g,c,h1,h2,h3,h4,h5,h6⟩
 ·exact .inl h
 ·refine .inr ⟨g,c,h1,h2,Yd hb h3,h4,h5,?_⟩
  rw[E.block g (Z3 h6) λhm=>by have:=hX g hm;omega];exact h6
theorem Z48{β γ:Nat->Bool}(h:∀k,k<n->β k=γ k): Z0z n β=Z0z n γ:=by
 unfold Z0z
 congr 1
 exact List.filter_congr λk hk=>h k (List.mem_range.1 hk)
theorem Zhe(x:Vm)(hv:VOk x)(l l':List Int)(hl:RcpOk x l)(hl':RcpOk x l')(a1 a2:Option Addr)(c1 c2:Nat)(w:World)(h:x.At w)(hr:Z8 w (.slice a1 l.length c1) 1 (l.map Z7))(hr':Z8 w (.slice a2 l'.length c2) 1 (l'.map Z7)):
  Calls (Qy.prog 0) 186 #[.agg #[.int .i64 x.B,.slice x.da x.D.length x.dc,.slice x.la x.L.length x.lc,.int .i64 x.tol],.slice a1 l.length c1,.slice a2 l'.length c2] w λe w'=>∃y,e = .returned (.tuple #[y,.int .i64 0])/\IntR w.heap.size w' (Z0z x.L.length λk=>alkE x k (val l) (val l')) y/\Ext [] w w':=by
 have E:Ext [] w w:=Ext.refl _ _;have HX:=Lib.hid h;have HV:=Lib.hid hv;have HR:=Lib.hid hr;have HR':=Lib.hid hr';have HL:=Lib.hid hl;have HL':=Lib.hid hl';have hl3:=hv.l3;clear h hv hr hr' hl hl';have G:=(Bk.nil w).ce E;refine(entM 22 Tryz.f15 rfl) λF=>wR λk1=>(F.bx G) λyy F G=>(F.m) λF=>(F.al G Qy.zeroValue30) @λn7 w2 _ yy F G=>k1<|wR λk2=>(F.df) λF=>k2<|wR λk3=>(F.y (F.lb (G.q 1))) λF=>(F.k0 G (ZZ (μ:=0) x HV.out _ (HX.out.ext (G.e 2)))) λF G=>(F.al G Qy.zeroValue85) @λn8 w4 _ yy F G=>(F.sr G 0) λG=>k3<|wQ @λK4 k4=>?_
 suffices hcut:∀(n9 n10:Nat) {fa:Act} {W:World},Has 22 [{target:=.fn (.func 63) #[],args:=#[.pointer (some ⟨n7,0,none⟩)]}] fa [(7,.pointer (some ⟨n7,0,none⟩)),(8,.pointer (some ⟨n8,0,none⟩)),(9,.pointer (some ⟨n9,0,none⟩)),(10,.pointer (some ⟨n10,0,none⟩))]->Bk W [.q n10 (#[.int .i64 (val l' 0),.int .i64 (val l' 1),.int .i64 (val l' 2),.int .i64 (val l' 3)]) 88,.q n9 (#[.int .i64 (val l 0),.int .i64 (val l 1),.int .i64 (val l 2),.int .i64 (val l 3)]) 88,.q n8 (#[.int .i64 x.B,.slice x.da x.D.length x.dc,.slice x.la x.L.length x.lc,.int .i64 x.tol]) 85,.q n7 (#[.int .i64 0]) 30,.e [] w]->w.heap.size<=n9/\w.heap.size<=n10/\n7≠n9/\n8≠n9/\n7≠n10/\n8≠n10/\n9≠n10->K4 fa W by
  have G2:=G;refine(wDN [] none G) λG=>(F.zr 0 (G.t 0) λhS=>F.lb (G2.k 0 hS)) λF=>(F.z 1 (G.t 0) F.mo) λF=>(F.zr 3 (G.t 0) λhS=>F.lb (G2.k 0 hS)) λF=>(F.z 4 (G.t 0) F.mo) λF=>Z1t (i:=2) (j:=6) (k:=7) (by kernel_rfl) ?_ ?_ ?_
  ·refine(F.ok (Z9 (μ:=0) x HV.out l HL.out a1 c1 _ (HR.out.ext (G.e 4) (by simp)))) ?_
   rintro _ w7 ⟨rfl,e9⟩;refine⟨_,rfl,λF=>?_⟩;replace G:=G.ex e9;refine .intro (G.t 0) ?_;unfold tubC at F;refine Z1t (i:=5) (j:=6) (k:=7) (by kernel_rfl) ?_ ?_ ?_
   ·refine(F.ok (Z9 (μ:=0) x HV.out l' HL'.out a2 c2 _ (HR'.out.ext (G.e 4) (by simp)))) ?_
    rintro _ w8 ⟨rfl,e9⟩;refine⟨_,rfl,λF=>?_⟩;replace G:=G.ex e9;refine .intro (G.t 0) ?_;unfold tubC at F;refine ZD (i:=6) (j:=7) (by kernel_rfl) ?_ ?_
    ·refine(F.oa G Qy.zeroValue88) @λn9 w9 _ yy F G=>.intro (G.t 1)<|(aO 7)<|(F.oa G Qy.zeroValue88) @λn10 w10 _ yy F G=>.intro (G.t 2)<|(aO 8)<|(F.or G 1) λG=>.intro (G.t 2)<|(aO 9)<|(F.or G 0) λG=>.intro (G.t 2)<|(aDN)<|hcut _ _ F.u G.u (by omega)
    ·refine(F.oa G Qy.zeroValue88) @λn10 w13 _ yy F G=>.intro (G.t 1)<|(aO 6)<|(F.oa G Qy.zeroValue88) @λn9 w14 _ yy F G=>.intro (G.t 2)<|(aO 8)<|(F.or G 0) λG=>.intro (G.t 2)<|(aO 9)<|(F.or G 1) λG=>.intro (G.t 2)<|(aDN)<|hcut _ _ F.u G.u (by omega)
   ·refine(F.oa G Qy.zeroValue88) @λn9 w17 _ yy F G=>.intro (G.t 1)<|ZD (i:=5) (j:=7) (by kernel_rfl) ?_ ?_
    ·refine(F.ok (Z9 (μ:=0) x HV.out l' HL'.out a2 c2 _ (HR'.out.ext (G.e 5) (by simp)))) ?_
     rintro _ w18 ⟨rfl,e9⟩;refine⟨_,rfl,λF=>?_⟩;replace G:=G.ex e9;refine .intro (G.t 1) ?_;unfold tubC at F;refine(aO 7)<|(F.oa G Qy.zeroValue88) @λn10 w19 _ yy F G=>.intro (G.t 2)<|(aO 8)<|(F.or G 1) λG=>.intro (G.t 2)<|(aO 9)<|(F.or G 0) λG=>.intro (G.t 2)<|(aDN)<|hcut _ _ F.u G.u (by omega)
    ·refine(F.oa G Qy.zeroValue88) @λn10 w22 _ yy F G=>.intro (G.t 2)<|(aO 5)<|(F.ok (Z9 (μ:=0) x HV.out l' HL'.out a2 c2 _ (HR'.out.ext (G.e 6) (by simp)))) ?_
     rintro _ w23 ⟨rfl,e9⟩;refine⟨_,rfl,λF=>?_⟩;replace G:=G.ex e9;refine .intro (G.t 2) ?_;unfold tubC at F;refine(aO 8)<|(F.or G 1) λG=>.intro (G.t 2)<|(aO 9)<|(F.or G 0) λG=>.intro (G.t 2)<|(aDN)<|hcut _ _ F.u G.u (by omega)
   ·refine(F.oa G Qy.zeroValue88) @λn10 w26 _ yy F G=>.intro (G.t 1)<|ZD (i:=5) (j:=6) (by kernel_rfl) ?_ ?_
    ·refine(F.ok (Z9 (μ:=0) x HV.out l' HL'.out a2 c2 _ (HR'.out.ext (G.e 5) (by simp)))) ?_
     rintro _ w27 ⟨rfl,e9⟩;refine⟨_,rfl,λF=>?_⟩;replace G:=G.ex e9;refine .intro (G.t 1) ?_;unfold tubC at F;refine(aO 6)<|(F.oa G Qy.zeroValue88) @λn9 w28 _ yy F G=>.intro (G.t 2)<|(aO 8)<|(F.or G 0) λG=>.intro (G.t 2)<|(aO 9)<|(F.or G 1) λG=>.intro (G.t 2)<|(aDN)<|hcut _ _ F.u G.u (by omega)
    ·refine(F.oa G Qy.zeroValue88) @λn9 w31 _ yy F G=>.intro (G.t 2)<|(aO 5)<|(F.ok (Z9 (μ:=0) x HV.out l' HL'.out a2 c2 _ (HR'.out.ext (G.e 6) (by simp)))) ?_
     rintro _ w32 ⟨rfl,e9⟩;refine⟨_,rfl,λF=>?_⟩;replace G:=G.ex e9;refine .intro (G.t 2) ?_;unfold tubC at F;refine(aO 8)<|(F.or G 0) λG=>.intro (G.t 2)<|(aO 9)<|(F.or G 1) λG=>.intro (G.t 2)<|(aDN)<|hcut _ _ F.u G.u (by omega)
  ·refine(F.oa G Qy.zeroValue88) @λn9 w35 _ yy F G=>.intro (G.t 1)<|ZD (i:=2) (j:=7) (by kernel_rfl) ?_ ?_
   ·refine(F.ok (Z9 (μ:=0) x HV.out l HL.out a1 c1 _ (HR.out.ext (G.e 5) (by simp)))) ?_
    rintro _ w36 ⟨rfl,e9⟩;refine⟨_,rfl,λF=>?_⟩;replace G:=G.ex e9;refine .intro (G.t 1) ?_;unfold tubC at F;refine ZD (i:=5) (j:=7) (by kernel_rfl) ?_ ?_
    ·refine(F.ok (Z9 (μ:=0) x HV.out l' HL'.out a2 c2 _ (HR'.out.ext (G.e 5) (by simp)))) ?_
     rintro _ w37 ⟨rfl,e9⟩;refine⟨_,rfl,λF=>?_⟩;replace G:=G.ex e9;refine .intro (G.t 1) ?_;unfold tubC at F;refine(aO 7)<|(F.oa G Qy.zeroValue88) @λn10 w38 _ yy F G=>.intro (G.t 2)<|(aO 8)<|(F.or G 1) λG=>.intro (G.t 2)<|(aO 9)<|(F.or G 0) λG=>.intro (G.t 2)<|(aDN)<|hcut _ _ F.u G.u (by omega)
    ·refine(F.oa G Qy.zeroValue88) @λn10 w41 _ yy F G=>.intro (G.t 2)<|(aO 5)<|(F.ok (Z9 (μ:=0) x HV.out l' HL'.out a2 c2 _ (HR'.out.ext (G.e 6) (by simp)))) ?_
     rintro _ w42 ⟨rfl,e9⟩;refine⟨_,rfl,λF=>?_⟩;replace G:=G.ex e9;refine .intro (G.t 2) ?_;unfold tubC at F;refine(aO 8)<|(F.or G 1) λG=>.intro (G.t 2)<|(aO 9)<|(F.or G 0) λG=>.intro (G.t 2)<|(aDN)<|hcut _ _ F.u G.u (by omega)
   ·refine(F.oa G Qy.zeroValue88) @λn10 w45 _ yy F G=>.intro (G.t 2)<|(aO 2)<|(F.ok (Z9 (μ:=0) x HV.out l HL.out a1 c1 _ (HR.out.ext (G.e 6) (by simp)))) ?_
    rintro _ w46 ⟨rfl,e9⟩;refine⟨_,rfl,λF=>?_⟩;replace G:=G.ex e9;refine .intro (G.t 2) ?_;unfold tubC at F;refine(aO 5)<|(F.ok (Z9 (μ:=0) x HV.out l' HL'.out a2 c2 _ (HR'.out.ext (G.e 6) (by simp)))) ?_
    rintro _ w47 ⟨rfl,e9⟩;refine⟨_,rfl,λF=>?_⟩;replace G:=G.ex e9;refine .intro (G.t 2) ?_;unfold tubC at F;refine(aO 8)<|(F.or G 1) λG=>.intro (G.t 2)<|(aO 9)<|(F.or G 0) λG=>.intro (G.t 2)<|(aDN)<|hcut _ _ F.u G.u (by omega)
  ·refine(F.oa G Qy.zeroValue88) @λn10 w50 _ yy F G=>.intro (G.t 1)<|ZD (i:=2) (j:=6) (by kernel_rfl) ?_ ?_
   ·refine(F.ok (Z9 (μ:=0) x HV.out l HL.out a1 c1 _ (HR.out.ext (G.e 5) (by simp)))) ?_
    rintro _ w51 ⟨rfl,e9⟩;refine⟨_,rfl,λF=>?_⟩;replace G:=G.ex e9;refine .intro (G.t 1) ?_;unfold tubC at F;refine ZD (i:=5) (j:=6) (by kernel_rfl) ?_ ?_
    ·refine(F.ok (Z9 (μ:=0) x HV.out l' HL'.out a2 c2 _ (HR'.out.ext (G.e 5) (by simp)))) ?_
     rintro _ w52 ⟨rfl,e9⟩;refine⟨_,rfl,λF=>?_⟩;replace G:=G.ex e9;refine .intro (G.t 1) ?_;unfold tubC at F;refine(aO 6)<|(F.oa G Qy.zeroValue88) @λn9 w53 _ yy F G=>.intro (G.t 2)<|(aO 8)<|(F.or G 0) λG=>.intro (G.t 2)<|(aO 9)<|(F.or G 1) λG=>.intro (G.t 2)<|(aDN)<|hcut _ _ F.u G.u (by omega)
    ·refine(F.oa G Qy.zeroValue88) @λn9 w56 _ yy F G=>.intro (G.t 2)<|(aO 5)<|(F.ok (Z9 (μ:=0) x HV.out l' HL'.out a2 c2 _ (HR'.out.ext (G.e 6) (by simp)))) ?_
     rintro _ w57 ⟨rfl,e9⟩;refine⟨_,rfl,λF=>?_⟩;replace G:=G.ex e9;refine .intro (G.t 2) ?_;unfold tubC at F;refine(aO 8)<|(F.or G 0) λG=>.intro (G.t 2)<|(aO 9)<|(F.or G 1) λG=>.intro (G.t 2)<|(aDN)<|hcut _ _ F.u G.u (by omega)
   ·refine(F.oa G Qy.zeroValue88) @λn9 w60 _ yy F G=>.intro (G.t 2)<|(aO 2)<|(F.ok (Z9 (μ:=0) x HV.out l HL.out a1 c1 _ (HR.out.ext (G.e 6) (by simp)))) ?_
    rintro _ w61 ⟨rfl,e9⟩;refine⟨_,rfl,λF=>?_⟩;replace G:=G.ex e9;refine .intro (G.t 2) ?_;unfold tubC at F;refine(aO 5)<|(F.ok (Z9 (μ:=0) x HV.out l' HL'.out a2 c2 _ (HR'.out.ext (G.e 6) (by simp)))) ?_
    rintro _ w62 ⟨rfl,e9⟩;refine⟨_,rfl,λF=>?_⟩;replace G:=G.ex e9;refine .intro (G.t 2) ?_;unfold tubC at F;refine(aO 8)<|(F.or G 0) λG=>.intro (G.t 2)<|(aO 9)<|(F.or G 1) λG=>.intro (G.t 2)<|(aDN)<|hcut _ _ F.u G.u (by omega)
 clear F G;intro n9 n10 fa w65 F G hlt;refine k4<|wR λk5=>(F.y (F.lb (G.q 2))) λF=>(F.y F.mf) λF=>?_
 obtain⟨B0,hB0⟩:∃B0,B0=w65.heap.size:=⟨_,rfl⟩;have hb7:n7<B0:=by rw[hB0];exact Z3 (G.q 3)
 have hEs:w.heap.size<=B0:=by rw[hB0];exact(G.e 4).size
 have hask:∀k,k<x.L.length->∀W,Ext [] w65 W->Calls (Qy.prog 0) 67 (#[]++[.int .i64 ((k:Nat):Int)].toArray++#[.pointer (some ⟨n8,0,none⟩),.pointer (some ⟨n9,0,none⟩),.pointer (some ⟨n10,0,none⟩)]) W λe w'=>e = .returned (.bool (alkE x k (val l) (val l')))/\Ext [] W w':=λk hk W eW=>Z7W (μ:=0) x HV.out k hk (val l) (val l') HL.out.tub HL'.out.tub n8 n9 n10 _ _ _ _ _ _ W ((HX.out.ext (G.e 4)).ext eW) (eW.keep0 (G.q 2)) (eW.keep0 (G.q 1)) (eW.keep0 (G.q 0));refine(F.k (ZaV x hl3 67 #[.pointer (some ⟨n8,0,none⟩),.pointer (some ⟨n9,0,none⟩),.pointer (some ⟨n10,0,none⟩)] (λk=>alkE x k (val l) (val l')) Qy.call67 _ hask)) ?_;rintro _ w66 ⟨y,rfl,hI,e9⟩;refine⟨_,rfl,λF=>?_⟩;replace G:=G.ex e9;clear hask;rw[<-hB0]at hI;replace G:=G.hr [n7];refine(F.m) λF=>(F.st G 4) λG=>k5<|wp_ret ?_
 (try simp only[Exit.inBlock,Exit.then,reduceIte])
 refine Z3O F<|ZY<|Z0R (Z4w F rfl rfl rfl Qy.underlying30 rfl (G.q 4)) ?_
 exact⟨y,rfl,Z4M hI (G.e 0) (by simp;omega) hEs,(G.e 5)⟩
end
section
open Go.RowKit
variable{μ:Nat}
def fltV(er:Int):PanicEntry:={v:=.iface 135 (.int .i64 er),recovered:=false}
theorem ZcT(er:Int)(xT:TypeId)(w:World):(Instr.typeAssert (.iface 135 (.int .i64 er)) xT 135 true).run (Qy.prog μ) w = .ok (.tuple #[.int .i64 er,.bool true]) w:=by
 simp[Instr.typeAssert,run_underlying Qy.underlying135,go_sem,Result.andThen]
theorem Z8Y(n:Nat)(b:Nat)(er x:Int)(T:TypeId)(w:World)(hb:w.heap[b]?=some (.cells #[.int .i64 x] T (0,0))):
  CallsDIn Fence.wide n (Qy.prog μ) 63 #[.pointer (some ⟨b,0,none⟩)] (.panicking [fltV er]) w λe u' w'=>e = .returned (.tuple #[])/\u' = .panicking [{fltV er with recovered:=true}]/\w'=w.setCell ⟨b,0,none⟩ (.int .i64 er):=by
 have hc:w.cell? ⟨b,0,none⟩=some (.int .i64 x):=(Z1 hb 0).trans rfl;have hz:w.frozen? ⟨b,0,none⟩=false:=Zd hb 0;have hsz:∀w:World,(sizeOf 30).run (Qy.prog μ) w = .ok 1 w:=λw=>by kernel_rfl
 refine callsDIn_of_wpSIn Qy.func63 rfl trivial λc₀ cs hu=>?_;unfold fltV at hu⊢;apply wpSIn_seq;apply wpSIn_region;simp[wpOpsSIn,Fence.wide,go_sem,recoverD,hu,Tryz.ntmps63,Exit.thenS,ZcT,Result.andThen];apply wpSIn_seq;apply wpSIn_region;simp[wpOpsSIn,Fence.wide,go_sem,Exit.thenS,Array.replicate];refine wpSIn_cond (t:=true) (by simp[Act.eval]) ?_;simp only[if_true];apply wpSIn_region;simp[wpOpsSIn,Fence.wide,go_sem,hc,hz,hsz,bodyPostS,results,Result.andThen,Tryz.results63]
theorem Z9h{fn:Func}{R:Ending->World->Prop}{tmps:Array Value}{w:World}{er x:Int}{ds:List Deferred}(hb:w.heap[b]?=some (.cells #[.int .i64 x] T (0,0)))(h:∀w',w'=w.setCell ⟨b,0,none⟩ (.int .i64 er)->LeavesInM Fence.wide 9 (Qy.prog μ) fn tmps R ds .returning w'): LeavesInM Fence.wide 9 (Qy.prog μ) fn tmps R ({target:=.fn (.func 63) #[],args:=#[.pointer (some ⟨b,0,none⟩)]}::ds) (.panicking [fltV er]) w:=by
 refine⟨by simp,.inr ⟨(λh=>by cases h),_,_,63,#[.pointer (some ⟨b,0,none⟩)],rfl,(by simp[go_sem,Qy.call63]),(λ_ _=>trivial),?_⟩⟩;refine CallsDIn.mono (Z8Y 8 b er x T w hb) ?_;rintro e u' w' ⟨rfl,rfl,rfl⟩;exact h _ rfl
section
variable{P:Program}{ops:Array Oper}{Q:Exit->Act->World->Prop}{o:Oper}{rest:List Oper}{N:Nat}{D:List Deferred}{a:Act}{L:List (Nat×Value)}{w w':World}
theorem Z7x{f:FuncId}{args:Array Value}{R:Ending->World->Prop}(hw:Region.wanted o (yielded ops a.tmps)=true)(hr:(execOp a.eval o).run P w = .ok (.enter f args) w)(hc:Calls P f args w R)(h:∀e w',R e w'->∃ch,e = .panicked ch/\Q (.panic ch) a w'): wpList P ops Q (o::rest) a w:=by
 unfold wpList;simp only[hw,if_true,Oper.wp,hr,Oper.upon];refine .inl (hc.mono λe w' hR=>?_);obtain⟨ch,rfl,h1⟩:=h e w' hR;exact h1
theorem Z1A(hw:Region.wanted o (yielded ops a.tmps)=true)(hr:(execOp a.eval o).run P w = .halt (.panic v) w)(h:Q (.panic [{v,recovered:=false}]) a w): wpList P ops Q (o::rest) a w:=by
 unfold wpList;simp only[hw,if_true,Oper.wp,hr,Oper.upon];exact .inl h
theorem Z2s{ρ:Operand->Value}{x:Operand}{t:TypeId}(ho:o.op = .panic x)(hx:ρ x = .iface t v): (execOp ρ o).run P w = .halt (.panic (.iface t v)) w:=by
 unfold execOp;simp[ho,hx,Instr.panic,goPanic,go_sem]
theorem Z3s{ρ:Operand->Value}{x:Operand}{t:TypeId}{q:IntKind}(ho:o.op = .makeInterface t x)(hx:ρ x=v)(hu:P.underlying t=some (.int q)): (execOp ρ o).run P w = .ok (.value (.iface t v)) w:=by
 unfold execOp;simp[ho,hx,Instr.makeInterface,run_underlying hu,go_sem,Result.andThen]
theorem Zli(F:Has N D a L){x y:Code}{b:Bool}(hc:L.lookup k=some (.bool b))(hb:b=true)(h:x.wp P Q a w): (Code.cond (.tmp k) x y).wp P Q a w:=wp_cond_true (by rw[F.at hc,hb]) h
theorem Ziz{fn:Func}{R:Ending->World->Prop}{ch:List PanicEntry}(F:Has N D a L)(h:LeavesInM Fence.wide 9 P fn a.tmps R D (.panicking ch) w): bodyPostM Fence.wide 9 P fn R (.panic ch) a w:=by
 show LeavesInM _ _ _ _ _ _ a.defers _ _;rw[F.ds];exact h
end
theorem Zfl(er:Int)(he:er≠0)(w:World):Calls (Qy.prog μ) 111 #[.int .i64 er] w λe w'=>e = .panicked [fltV er]/\Ext [] w w':=by
 have E:Ext [] w w:=Ext.refl _ _;refine ZS 6 Qy.func111 rfl Tryz.ntmps111 (Nat.le_of_ble_eq_true rfl) ?_;intro fa F;refine wS λK1 hK1=>?_;refine Yg ?_;refine F.mv λfa F=>?_;refine F.vl (Zgb rfl (F.at rfl) (ev_c fa _)) λfa F=>?_;refine wN<|hK1 _ _ ?_
 refine Zli F rfl (decide_eq_true (he)) ?_;refine Yg ?_;refine F.mv λfa F=>?_;refine F.vl ((Z3s rfl (F.at rfl) Qy.underlying135)) λfa F=>?_;refine Z1A rfl (Z2s rfl (F.at rfl)) ?_
 (try simp only[Exit.inBlock,Exit.then,Exit.jump,reduceIte])
 refine⟨F.ds,?_⟩;exact⟨rfl,E⟩
end
section
open Go.RowKit Ev
variable{μ:Nat}
theorem Qy.ntmps189:Qy.f189.ntmps=13:=rfl
section
variable{P:Program}{o:Oper}{w:World}{a:Act}
theorem Za8{w:World}{ob:Obj}: Ext [] w (w.drew.alloc ob):=⟨rfl,rfl,rfl,by
 show w.heap.size<=(w.heap.push ob).size;simp,λk hk _=>by
 show (w.heap.push ob)[k]?=w.heap[k]?;rw[Array.getElem?_push_lt hk,Y2 hk]⟩
theorem Z9M{x:Operand}{t e:TypeId}(ho:o.op = .call {callee:=.builtin .append,args:=#[.const (.slice none 0 0),x],argTypes:=#[t,t]})(ht:P.underlying t=some (.slice e))(hi:(P.info? e).map (λi=>(i.size,i.bytes,i.zero.map (·.cells)))=some (1,8,some #[Value.int .i64 0])){g m c:Nat}{cs:List Value}(hx:a.eval x = .slice (some ⟨g,0,none⟩) m c)(hg:w.heap[g]?=some (.cells cs.toArray T fz))(hl:m<=cs.length)(h0:0<m)(hm:m<=1000):
  (execOp a.eval o).run P w = .ok (.value (.slice (some ⟨w.heap.size,0,none⟩) m (grownCap w m 0 e))) (w.drew.alloc (.cells ((cs.take m).toArray++Builtin.zeroCells #[Value.int .i64 0] (grownCap w m 0 e-m)) e)):=by
 cases hq:P.info? e with
 | none=>simp[hq]at hi
 | some i =>
  simp only[hq,Option.map_some,Y4,Y9,Y3]at hi;obtain⟨hi1,hi2,z,hz1,hz2⟩:=hi;have hr:=run_append_nil (P:=P) w t o.type e i z ht hq hz1 ⟨g,0,none⟩ m c (cs.take m) (by rw[hi1,List.length_take];omega) (λj v hv=>by
   rw[Addr.add_lit,Nat.zero_add,Z1 hg];rw[List.getElem?_take]at hv
   split at hv
   ·simpa using hv
   ·cases hv) h0 (by omega) (by rw[hi2];omega)
  rw[hz2]at hr;have hn:a.eval (.const (.slice none 0 0)) = .slice none 0 0:=rfl;unfold execOp;simp only[ho,resolve,invoke,builtin,Sem.run_bind,Sem.run_pure,Result.andThen_ok,List.map_toArray,List.map_cons,List.map_nil,hx,hn,hr]
theorem ZbX{x:Operand}{t e:TypeId}(ho:o.op = .call {callee:=.builtin .append,args:=#[.const (.slice none 0 0),x],argTypes:=#[t,t]})(ht:P.underlying t=some (.slice e))(hi:(P.info? e).map (λi=>(i.size,i.bytes,i.zero.map (·.cells)))=some (1,8,some #[Value.int .i64 0]))(hx:a.eval x = .slice none 0 0): (execOp a.eval o).run P w = .ok (.value (.slice none 0 0)) w:=by
 cases hq:P.info? e with
 | none=>simp[hq]at hi
 | some i =>
  simp only[hq,Option.map_some,Y4,Y9,Y3]at hi;obtain⟨hi1,hi2,z,hz1,hz2⟩:=hi;have hr:(Builtin.append_ #[t,t] o.type #[.slice none 0 0,.slice none 0 0]).run P w = .ok (.slice none 0 0) w:=by
   unfold Builtin.append_;simp[ht,run_underlying ht,sizeOf,typeInfo,hq,Builtin.lenOf,Builtin.firstCells,go_sem,Result.andThen]
  have hn:a.eval (.const (.slice none 0 0)) = .slice none 0 0:=rfl;unfold execOp;simp only[ho,resolve,invoke,builtin,Sem.run_bind,Sem.run_pure,Result.andThen_ok,List.map_toArray,List.map_cons,List.map_nil,hx,hn,hr]
theorem Z6x{x:Operand}{t e:TypeId}(ho:o.op = .call {callee:=.builtin .append,args:=#[.const (.slice none 0 0),x],argTypes:=#[t,t]})(ht:P.underlying t=some (.slice e))(hi:(P.info? e).map (λi=>(i.size,i.bytes,i.zero.map (·.cells)))=some (1,8,some #[Value.int .i64 0])){g m c:Nat}{cs:List Value}(hx:a.eval x = .slice (some ⟨g,0,none⟩) m c)(hg:w.heap[g]?=some (.cells cs.toArray T fz))(hl:m<=cs.length)(h0:0<m)(hm:m<=1000):
  ∃v' w',(execOp a.eval o).run P w = .ok (.value v') w'/\(∃b k,v' = .slice (some ⟨b,0,none⟩) m k/\∃d,k=(Question.appendCap m 0 e).cut (w.tape d (.appendCap m 0 e)))/\Ext [] w w':=
 ⟨_,_,Z9M ho ht hi hx hg hl h0 hm,⟨_,_,rfl,w.drawn,rfl⟩,Za8⟩
def Z7R(w:World)(y:Value):Prop:=∀g n c,y = .slice (some ⟨g,0,none⟩) n c->∃d,c=(Question.appendCap n 0 3).cut (w.tape d (.appendCap n 0 3))
theorem Z9L{x:Operand}{t:TypeId}(ho:o.op = .call {callee:=.builtin .append,args:=#[.const (.slice none 0 0),x],argTypes:=#[t,t]})(ht:P.underlying t=some (.slice 3))(hi:(P.info? 3).map (λi=>(i.size,i.bytes,i.zero.map (·.cells)))=some (1,8,some #[Value.int .i64 0])){y:Value}(hx:a.eval x=y)(h:IntR base w l y)(hl:l.length<=1000):
  ∃v' w',(execOp a.eval o).run P w = .ok (.value v') w'/\IntR w.heap.size w' l v'/\Ext [] w w'/\Z7R w v':=by
 rcases h with⟨rfl,rfl⟩ | ⟨g,c,h1,rfl,h3,h4,h5,h6⟩
 ·exact⟨_,_,ZbX ho ht hi hx,.inl ⟨rfl,rfl⟩,Ext.refl _ _,λg n c e=>by cases e⟩
 ·have h0:0<l.length:=List.length_pos_iff.2 h1
  refine⟨_,_,Z9M ho ht hi hx h6 (by simp[ivs]) h0 hl,.inr ⟨_,_,h1,rfl,Ye _,?_,?_,?_⟩,Za8,λg' n' c' e=>?_⟩
  ·unfold grownCap Question.cut
   dsimp only;omega
  ·unfold grownCap Question.cut
   dsimp only;simp only[maxLen];have:w.tape w.drawn (.appendCap l.length 0 3) % (2 ^ 63-l.length)<2 ^ 63-l.length:=Nat.mod_lt _ (by omega);omega
  ·have hh:=heap_alloc_new w.drew (.cells ((((ivs l)++List.replicate (c-l.length) (Value.int .i64 0)).take l.length).toArray++Builtin.zeroCells #[Value.int .i64 0] (grownCap w l.length 0 3-l.length)) 3)
   refine hh.trans ?_
   congr 1
   congr 1
   apply Array.ext';have hil:(ivs l).length=l.length:=by simp[ivs]
   rw[List.take_append_of_le_length (by rw[hil];exact Ye _),List.take_of_length_le (by rw[hil];exact Ye _)];simp only[Array.toList_append]
   congr 1
   apply List.ext_getElem?;intro i;rw[Array.getElem?_toList]
   by_cases hi:i<grownCap w l.length 0 3-l.length
   ·rw[ZaZ hi,List.getElem?_replicate,if_pos hi]
   ·rw[List.getElem?_replicate,if_neg hi]
    rw[Array.getElem?_eq_none];simp[Builtin.zeroCells];omega
  ·simp only[Value.slice.injEq,Y4,Addr.mk.injEq]at e
   obtain⟨_,rfl,rfl⟩:=e;exact⟨w.drawn,rfl⟩
theorem Zeu{x:Operand}{t:TypeId}{b:Option Addr}{c: Nat}(ho:o.op = .call {callee:=.builtin .cap,args:=#[x],argTypes:=#[t]})(hx:a.eval x = .slice b n c)(hu:P.underlying t=some (.slice (P.elem t))): (execOp a.eval o).run P w = .ok (.value (.int .i64 c)) w:=by
 unfold execOp;simp only[ho,resolve,invoke,builtin,Sem.run_bind,Sem.run_pure,Result.andThen_ok,List.map_toArray,List.map_cons,List.map_nil,hx,run_cap_slice w t o.type b n c hu]
 rfl
theorem Z2N{ρ:Operand->Value}{x:Operand}{t:TypeId}{d:TypeDesc}(ho:o.op = .makeInterface t x)(hx:ρ x=v)(hu:P.underlying t=some d)(hd:∀m,d ≠ .interface m): (execOp ρ o).run P w = .ok (.value (.iface t v)) w:=by
 unfold execOp
 cases d<;>first | exact absurd rfl (hd _) | simp[ho,hx,Instr.makeInterface,run_underlying hu,go_sem,Result.andThen]
theorem ZfC{ops:Array Oper}{Q:Exit->Act->World->Prop}{rest:List Oper}{N:Nat}{D:List Deferred}{L:List (Nat×Value)}(F:Has N D a L){d:Nat}{f:FuncId}{args:Array Value}{R:Ending->World->Prop}(hd:o.dst=some d)(hN:d<N)(hw:Region.wanted o (yielded ops a.tmps)=true)(hr:(execOp a.eval o).run P w = .ok (.enter f args) w)(hc:Calls P f args w R)(h:∀e w',R e w'->(∃ch,e = .panicked ch/\Q (.panic ch) a w')\/∃v,e = .returned v/\∀a2,Has N D a2 ((d,v)::L)->wpList P ops Q rest a2 w'): wpList P ops Q (o::rest) a w:=by
 unfold wpList;simp only[hw,if_true,Oper.wp,hr,Oper.upon];refine .inl (hc.mono λe w' hR=>?_)
 rcases h e w' hR with⟨ch,rfl,h1⟩ | ⟨v,rfl,h1⟩
 ·exact h1
 ·show wpList _ _ _ _ _ _
  rw[hd];exact h1 _ (F.put hN v)
theorem Has.kp{ops:Array Oper}{Q:Exit->Act->World->Prop}{rest:List Oper}{N:Nat}{D:List Deferred}{L:List (Nat×Value)}{d:Nat}{f:FuncId}{l:List Operand}{ts:Array TypeId}{vs:List Value}{R:Ending->World->Prop}(F:Has N D a L)(hc:Calls P f vs.toArray w R)(C:Z80 P f=true:=by kernel_rfl)(ho:o.op = .call {callee:=.value (.func f),args:=l.toArray,argTypes:=ts}:=by rfl)(ha:opvs L l=some vs:=by rfl)(hd:o.dst=some d:=by rfl)(hN:d<N:=by decide)(hw:Z0j L ops o=some true:=by rfl)(h:∀e w',R e w'->(∃ch,e = .panicked ch/\Q (.panic ch) a w')\/∃v,e = .returned v/\∀{a2},Has N D a2 ((d,v)::L)->wpList P ops Q rest a2 w'): wpList P ops Q (o::rest) a w:=ZfC F hd hN (F.want hw) (F.rc C ho ha) hc λe w' hR=>by
 rcases h e w' hR with h | ⟨v,h1,h2⟩
 ·exact .inl h
 ·exact .inr ⟨v,h1,λ_ F=>h2 F⟩
end
def bunV(f:FuncId)(xs:Array Value):PanicEntry:={v:=.iface 90 (.func (.func f) xs #[]),recovered:=false}
theorem Zg5:(Qy.prog 0).underlying 90=Tryz.prog.underlying 90:=Lift.under_pf (P:=Tryz.prog) 90
theorem Zg1(y0 y1 y2:Value)(w:World)(hb:∀d,7<(Question.appendCap 7 0 3).cut (w.tape d (.appendCap 7 0 3))):Calls (Qy.prog 0) 15 #[y0,y1,y2] w λe w'=>e = .panicked [bunV 15 #[y0,y1,y2]]/\Ext [] w w':=by
 have E:Ext [] w w:=Ext.refl _ _;refine ZS 13 Qy.func15 rfl Qy.ntmps189 (Nat.le_of_ble_eq_true rfl) ?_;intro fa F;refine wS λK1 hK1=>?_;refine Yg ?_;refine sqN F (ZI rfl pr0 Qy.underlying22 (size:=1) (by kernel_rfl) (by decide) (by decide) Qy.zeroValue3 (cells:=#[.int .i64 0,.int .i64 0,.int .i64 0,.int .i64 0,.int .i64 0,.int .i64 0,.int .i64 0]) (by kernel_rfl)) λfa w1 F hw=>?_;obtain⟨n3,hn⟩:=eQ w.heap.size;rw[<-hn]at F;have s3:=sQ hn;have l3_E:=lQ hn E.size;replace E:=Z2 E hw;have q3:=ZU hw hn;clear hw hn;have htp:=E.tape;refine ZK F rfl (by decide) rfl (Z6x rfl Qy.underlying22 (by kernel_rfl) (F.at rfl) q3 (by decide) (by decide) (by decide)) ?_;clear F fa;rintro fa v' w2 F ⟨⟨b4,K,rfl,d4,hK⟩,e9⟩;replace q3:=(e9).keep0 q3;replace E:=Z4 E (e9);rw[htp]at hK;have hb1:=hb d4;rw[<-hK]at hb1;refine F.vl ((Zeu rfl (F.at rfl) Qy.underlying22)) λfa F=>?_;refine F.vl (Z9Q (b:=true) rfl (ev_c fa _) (F.at rfl) (decide_eq_true ((by omega)))) λfa F=>?_;refine wN<|hK1 _ _<|wS λK2 hK2=>?_
 refine cd_T F rfl ?_;refine Yg ?_;refine F.vl (Z15 rfl (Z3i (mpS (F.at rfl) (mpS (F.at rfl) (mpS (F.at rfl) mp0)))) (Z3i mp0)) λfa F=>?_;refine F.vl ((Z2N rfl (F.at rfl) Zg5 (by intro m e;cases e))) λfa F=>?_;refine Z1A rfl (Z2s rfl (F.at rfl)) ?_
 (try simp only[Exit.inBlock,Exit.then,Exit.jump,reduceIte])
 refine⟨F.ds,?_⟩;exact⟨rfl,E⟩
end
section
open Go.RowKit
variable{μ:Nat}
theorem Zbi(xs:List Int)(f:FuncId)(cs:Array Value)(p:Int->Bool)(a:Option Addr)(c:Nat)(w:World)(hx:Z8 w (.slice a xs.length c) 1 (xs.map Z7))(hl:xs.length<=1000)
  (hf:∀args w,(callFunc f args).run (Qy.prog μ) w = .ok (.enter f args) w) (hc:∀W,Ext [] w W->∀n∈xs,Calls (Qy.prog μ) f (#[]++[Value.int .i64 n].toArray++cs) W λe W'=>e = .returned (.bool (p n))/\Ext [] W W') :
  Calls (Qy.prog μ) 119 #[.slice a xs.length c,.func (.func f) #[] cs] w λe w'=>∃r,e = .returned (.int .i64 r)/\decide (0<=r)=xs.any p/\Ext [] w w':=by
 have E:Ext [] w w:=Ext.refl _ _;have HS:=Lib.hid (Zj hx 0);have HC:=Lib.hid hc;have HF:=Lib.hid hf;clear hx hc hf;have G:=(Bk.nil w).ce E;refine(ent 19 Tryz.f119 rfl) λF=>wR λk1=>(F.m) λF=>k1<|wQ λk2=>wR λk3=>(F.m) λF=>(F.y F.ln) λF=>(F.m) λF=>k3<|Yh<|lpB (F.b [0,1,7]) G (xs.length) (λi Lv Sv W=>Lv=[(8,.int .i64 ((i:Nat):Int))]/\Sv=[]/\∀j,j<i->p (xs.getD j 0)=false) ⟨_,_,F.u,G.u,rfl,rfl,(λj h=>by omega)⟩ ?_
 clear F G;rintro i _ w1 _ _ hi1 ⟨rfl,rfl,hb⟩ F G;replace G:=G.z;refine wR λk4=>(F.y F.ls) λF=>k4<|wQ λk5=>F.ci (λhc9=>?_) (λhc9=>?_)
 ·refine Yi<|k5<|wQ λk6=>Yh<|wR λk7=>(F.m) λF=>(F.m) λF=>k7<|wR λk8=>(F.m) λF=>(F.m) λF=>(F.m) λF=>(F.ix HS.out i) λxr9 F=>(F.y (F.l1 (xr9 _ (G.e 0)) 0)) λF=>?_
  refine(F.kr (Z38 rfl (F.at rfl) HF.out (mpS (F.at rfl) mp0) rfl) (HC.out _ (G.e 0) _ (Zb 0 (by omega)))) ?_;rintro _ w2 ⟨rfl,e9⟩;refine⟨_,rfl,λF=>?_⟩;replace G:=G.ex e9;refine k8<|F.cb (λhc16=>?_) (λhc16=>?_)
  ·refine wR λk10=>(F.m) λF=>(F.m) λF=>k10<|(F.r1) ?_
   exact⟨_,rfl,(by rw[decide_eq_true (by omega),List.any_eq_true.2 ⟨_,Zb 0 (by omega),hc16⟩]),(G.e 0)⟩
  ·refine Yi<|k6<|Yg<|(F.y F.ad) λF=>(F.m) λF=>?_
   show _/\_;exact⟨by omega,_,_,F.u,G.u,rfl,rfl,(λj h=>by rcases Nat.lt_succ_iff_lt_or_eq.1 h with h | rfl;(· exact hb j h);(· exact hc16))⟩
 ·refine wp_exit<|k2<|wR λk11=>(F.m) λF=>k11<|(F.r1) ?_
  exact⟨_,rfl,(by rw[decide_eq_false (by omega)];symm;rw[List.any_eq_false];intro n hn;obtain⟨j,hj,rfl⟩:=List.getElem_of_mem hn;have:=hb j (by omega);simpa[hj] using this),(G.e 0)⟩
theorem Z6T(xs:List Int)(f:FuncId)(cs:Array Value)(p:Int->Bool)(a:Option Addr)(c:Nat)(w:World)(hx:Z8 w (.slice a xs.length c) 1 (xs.map Z7))(hl:xs.length<=1000)
  (hf:∀args w,(callFunc f args).run (Qy.prog μ) w = .ok (.enter f args) w) (hc:∀W,Ext [] w W->∀n∈xs,Calls (Qy.prog μ) f (#[]++[Value.int .i64 n].toArray++cs) W λe W'=>e = .returned (.bool (p n))/\Ext [] W W') :
  Calls (Qy.prog μ) 72 #[.slice a xs.length c,.func (.func f) #[] cs] w λe w'=>e = .returned (.bool (xs.any p))/\Ext [] w w':=by
 have E:Ext [] w w:=Ext.refl _ _;have HX:=Lib.hid hx;have HC:=Lib.hid hc;have HF:=Lib.hid hf;clear hx hc hf;have G:=(Bk.nil w).ce E;refine(ent 9 Tryz.f72 rfl) λF=>wR λk1=>(F.m) λF=>k1<|wR λk2=>(F.m) λF=>(F.m) λF=>(F.k (Zbi xs f cs p a c _ (HX.out.ext (G.e 0) (by simp)) hl HF.out (λW e=>HC.out W ((G.e 0).trans e)))) ?_
 rintro _ w1 ⟨r,rfl,hr,e9⟩;refine⟨_,rfl,λF=>?_⟩;replace G:=G.ex e9;refine(F.y F.ge) λF=>(F.m) λF=>k2<|(F.r1) ?_
 exact⟨Z0Z hr,(G.e 0)⟩
theorem Zfi(x:Vm)(hv:VOk x)(T:List (List Int))(hT:∀t∈T,TubS (val t))(ma:Option Addr)(mc n8 n9 n11 n12 j k l:Nat)(hj:j<T.length)(hk:k<T.length)(hl:l<x.L.length)(w:World)(h:x.At w)
  (q8:w.heap[n8]?=some (.cells #[.int .i64 x.B,.slice x.da x.D.length x.dc,.slice x.la x.L.length x.lc,.int .i64 x.tol] 85 (0,0))) (q9:w.heap[n9]?=some (.cells #[.slice ma T.length mc] 93 (0,0))) (q11:w.heap[n11]?=some (.cells #[.int .i64 ((j:Nat):Int)] 3 (0,0))) (q12:w.heap[n12]?=some (.cells #[.int .i64 ((k:Nat):Int)] 3 (0,0)))
  (hs:SlAt [] w ma 4 T.length (λi=>tubR (val (T.getD i [])))) (h6:T.length<=6) :
  Calls (Qy.prog μ) 73 #[.int .i64 ((l:Nat):Int),.pointer (some ⟨n8,0,none⟩),.pointer (some ⟨n9,0,none⟩),.pointer (some ⟨n11,0,none⟩),.pointer (some ⟨n12,0,none⟩)] w λe w'=>e = .returned (.bool (!alkE x l (val (T.getD j [])) (val (T.getD k []))))/\Ext [] w w':=by
 have E:Ext [] w w:=Ext.refl _ _;have HX:=Lib.hid h;have HV:=Lib.hid hv;have HT:=Lib.hid hT;have HS:=Lib.hid hs;clear h hv hT hs;have G:=(Bk.nil w).ce E;replace G:=(((G.cq q8).cq q9).cq q11).cq q12;refine(ent 19 Tryz.f73 rfl) λF=>wR λk1=>(F.m) λF=>k1<|wQ λk2=>(wX 10 G) λG=>(F.s (F.lb (G.q 3))) λF=>(F.sm) λF=>(F.s (F.lc (G.q 2))) λF=>(F.s (F.lc (G.q 1))) λF=>(F.sx HS.out j) λxr3 F=>(F.s (F.lr (xr3 _ (G.e 4)))) λF=>(F.s (F.lc (G.q 2))) λF=>(F.s (F.lc (G.q 0))) λF=>(F.sx HS.out k) λxr4 F=>(F.s (F.lr (xr4 _ (G.e 4)))) λF=>wpStill_nil<|(F.k0 G (Z6z x HV.out l hl (val (T.getD j [])) (val (T.getD k [])) (HT.out _ (Z1e [] (by omega))) (HT.out _ (Z1e [] (by omega))) _ (HX.out.ext (G.e 4)))) λF G=>(F.y F.nb) λF=>?_
 refine(F.m) λF=>k2<|(F.r1) ?_
 exact⟨rfl,(G.e 4)⟩
variable{μ:Nat}
def sixC(f:Nat->Int):Array Value:=#[.int .u8 (f 0),.int .u8 (f 1),.int .u8 (f 2),.int .u8 (f 3),.int .u8 (f 4),.int .u8 (f 5)]
theorem Zkz{f:Nat->Int}{i:Int}(h:i.toNat=k)(hk:k<6): (sixC f)[i.toNat]?=some (.int .u8 (f k)):=by
 subst h
 rcases hi:i.toNat with _ | _ | _ | _ | _ | _ | n
 ·rfl
 ·rfl
 ·rfl
 ·rfl
 ·rfl
 ·rfl
 ·omega
theorem ZdU{f:Nat->Int}(H:w.heap[b]?=some (.cells (sixC f) T fz)){i:Int}(h:i.toNat=k)(hk:k<6): w.cell? ⟨b,0+i.toNat*1,none⟩=some (.int .u8 (f k)):=by
 rw[Z1 H,Nat.zero_add,Nat.mul_one];exact Zkz h hk
theorem Zix{w2: World}{f:Nat->Int}{i v:Int}(e:w2=w.setCell ⟨b,0+i.toNat*1,none⟩ (.int .u8 v))(H:w.heap[b]?=some (.cells (sixC f) T (0,0)))(h:i.toNat=k)(hk:k<6): w2.heap[b]?=some (.cells (sixC (upF f k v)) T (0,0)):=by
 refine ZG e H ?_;rw[Nat.zero_add,Nat.mul_one,h];clear e H h
 match k,hk with
 | 0,_=>rfl
 | 1,_=>rfl
 | 2,_=>rfl
 | 3,_=>rfl
 | 4,_=>rfl
 | 5,_=>rfl
def nrB(x:Vm)(ls:List Int)(T:List (List Int))(j k:Nat):Bool:=!(ls.any λl=>!alkE x l.toNat (val (T.getD j [])) (val (T.getD k [])))
section
variable(p:Nat->Nat->Bool)
def fnK(j:Nat):Nat->Nat
 | 0=>0
 | k+1=>if p j k=true then fnK j k ||| 2 ^ k else fnK j k
theorem Zag(j:Nat):∀k,k<=6->fnK p j k<64
 | 0,_=>by simp[fnK]
 | k+1,h=>by
  rw[fnK]
  split
  ·exact ZlM _ (Zag j k (by omega)) k (by omega)
  ·exact Zag j k (by omega)
def finF(n j k:Nat):Nat->Int:=λi=>if i<j then((fnK p i n:Nat):Int) else if i=j then((fnK p j k:Nat):Int) else 0
theorem ZeY(h:p j k=true): upF (finF p n j k) j (((fnK p j k ||| 2 ^ k:Nat)):Int)=finF p n j (k+1):=by
 funext i
 rw[upF,finF,finF]
 by_cases h1:i=j
 ·subst h1;simp[fnK,h]
 ·simp[h1]
theorem ZhF(h:p j k=false): finF p n j k=finF p n j (k+1):=by
 funext i
 rw[finF,finF,fnK,h];simp
theorem ZcU: finF p n j n=finF p n (j+1) 0:=by
 funext i
 rw[finF,finF]
 by_cases h1:i=j
 ·subst h1;simp
 ·by_cases h2:i<j
  ·simp[h2,show i<j+1 by omega]
  ·simp[h1,h2,show ¬i<j+1 by omega,fnK]
theorem ZcV: finF p n 0 0=zf:=by
 funext i
 rw[finF,zf]
 by_cases h:i=0
 ·simp[h,fnK]
 ·simp[h]
def finS(n i:Nat):Nat:=if i<n then fnK p i n else 0
theorem ZhG(h:n<=6)(i:Nat): finS p n i<64:=by
 rw[finS]
 split
 ·exact Zag p i n h
 ·omega
theorem ZeX(i:Nat): finF p n n 0 i=((finS p n i:Nat):Int):=by
 rw[finF,finS]
 by_cases h:i<n
 ·simp[h]
 ·simp[h,fnK]
def okS(n s:Nat):Bool:=(Zr s).all λi=>subB s (finS p n i.toNat)
def betS(s b:Nat):Bool:=decide (Z0l b<Z0l s)||(decide (Z0l s=Z0l b)&&decide (cmpL (Zr s) (Zr b)<0))
def Z0w(n:Nat):Nat->Nat
 | 0=>0
 | s+1=>if okS p n s&&betS s (Z0w n s) then s else Z0w n s
theorem Z6G(n:Nat):∀s,s<=64->Z0w p n s<64
 | 0,_=>by simp[Z0w]
 | s+1,h=>by
  rw[Z0w]
  split
  ·omega
  ·exact Z6G n s (by omega)
theorem Zca(h:okS p n s=false): Z0w p n s=Z0w p n (s+1):=by rw[Z0w,h];simp
theorem Z7Z(h:okS p n s=true)(hb:Z0l (Z0w p n s)<Z0l s\/(Z0l s=Z0l (Z0w p n s)/\cmpL (Zr s) (Zr (Z0w p n s))<0)): s=Z0w p n (s+1):=by
 rw[Z0w,h,betS]
 rcases hb with h1 | ⟨h1,h2⟩<;>simp[*]
theorem Z4D(hb:¬Z0l (Z0w p n s)<Z0l s)(h2:Z0l s=Z0l (Z0w p n s)->¬cmpL (Zr s) (Zr (Z0w p n s))<0): Z0w p n s=Z0w p n (s+1):=by
 rw[Z0w,betS,if_neg];simp only[Y5,Yo,decide_eq_true_eq,not_and,not_or];exact λ_=>⟨hb,λh=>h2 h⟩
theorem Zim(h:∀i,i<(Zr s).length->subB s (finS p n ((Zr s).getD i 0).toNat)=true): okS p n s=true:=by
 rw[okS,Yl];intro n hn;obtain⟨i,hi,rfl⟩:=List.getElem_of_mem hn;simpa[hi] using h i hi
theorem Zin{i: Nat}(hi:i<(Zr s).length)(h:subB s (finS p n ((Zr s).getD i 0).toNat)=false): okS p n s=false:=by
 rw[okS,List.all_eq_false];exact⟨_,Zb 0 hi,by rw[h];decide⟩
end
theorem Zbu:∀s,s<64->∀n∈Zr s,0<=n/\n<6:=by decide +kernel
theorem Z6i:∀s,s<64->(Zr s).length<=6:=by decide +kernel
def mosR(x:Vm)(ls:List Int)(T:List (List Int)):List Int:=Zr (Z0w (nrB x ls T) T.length (2 ^ T.length))
theorem Zv{c: Nat}(h:w.ownsRow base 3 1 (.slice a n c) n (ivs xs))(hn:n=xs.length): Z8 w (.slice a n c) 1 (xs.map Z7):=by
 subst hn;exact ZM (row:=Z7) (by rw[<-Z1w];exact h) (λ_=>rfl)
theorem Zit:∀n,n<=6->2 ^ n<=64:=by decide
theorem Zg8(x:Vm)(hv:VOk x)(S:List (Value×List Int))(hs:∀p∈S,RcpOk x p.2)(h6:S.length<=6)(ls:List Int)(hll:Z5T x ls)(hl4:ls.length<=1000)(a b:Option Addr)(c d:Nat)(w:World)(h:x.At w)(hl:Z0M w a S)(hq:Z8 w (.slice b ls.length d) 1 (ls.map Z7)):
  Calls (Qy.prog μ) 22 #[.agg #[.int .i64 x.B,.slice x.da x.D.length x.dc,.slice x.la x.L.length x.lc,.int .i64 x.tol],.slice a S.length c,.slice b ls.length d] w (Z4B (mosR x ls (S.map (·.2)),0) w):=by
 have E:Ext [] w w:=Ext.refl _ _;have HX:=Lib.hid h;have HV:=Lib.hid hv;have HL:=Lib.hid hl;have HS:=Lib.hid hs;have HQ:=Lib.hid hq;have HM:=Lib.hid hll;obtain⟨T,hT⟩:∃T,T=S.map (·.2):=⟨_,rfl⟩;have hTl:T.length=S.length:=by rw[hT,Yj]
 have HT:RowKit.Hid (∀t∈T,TubS (val t)):=Lib.hid (λt ht=>by
  rw[hT]at ht;obtain⟨p,hp,rfl⟩:=List.mem_map.1 ht;exact(hs p hp).tub)
 obtain⟨p,hp⟩:∃p,p=nrB x ls T:=⟨_,rfl⟩;have HP:=Lib.hid hp;clear h hv hl hs hq hll hp;have G:=(Bk.nil w).ce E;refine(entM 92 Tryz.f22 rfl) λF=>wR λk1=>(F.bx G) λyy F G=>(F.m) λF=>(F.al G Qy.zeroValue30) λyy F G=>k1<|wp_scope_straight<|wR λk2=>(F.df) λF=>k2<|wR λk3=>(F.y (F.lb (G.q 1))) λF=>(F.k0 G (ZZ x HV.out _ (HX.out.ext (G.e 2)))) λF G=>(F.al G Qy.zeroValue85) @λn8 w4 _ yy F G=>(F.sr G 0) λG=>k3<|wR λk4=>(F.y (F.lb (G.q 0))) λF=>?_
 refine(F.m) λF=>(F.k (Z5H x HV.out S HS.out h6 a c _ (HL.out.ext (G.e 3)))) ?_;rintro _ w6 ⟨ma,mc,rfl,om,e9⟩;refine⟨_,rfl,λF=>?_⟩;replace G:=G.ex e9;rw[<-hT,<-hTl]at om;rw[<-hTl]at F;have hrm:=Lib.hid (ZM (row:=λt:List Int=>tubR (val t)) om (λ_=>rfl));clear om;replace G:=G.hr [];refine(F.al G Qy.zeroValue93) @λn9 w7 _ yy F G=>(F.st G 0) λG=>k4<|wR λk5=>(F.y (F.lb (G.q 2))) λF=>(F.m) λF=>(F.k0 G (Z7b x HV.out ls HM.out hl4 b d _ (HX.out.ext (G.e 5)) (HQ.out.ext (G.e 5) (by simp)))) λF G=>k5<|wR λk6=>(F.al G Qy.zeroValue97) @λn10 w10 _ yy F G=>?_
 have HTs:=Lib.hid (Z11 (X:=[n10]) hrm.out (λW e=>hrm.out.ext e (by simp;omega)) []);have E9:=(G.e 2).mono (Y:=[n10]) (by simp);have q10:=G.q 0;replace q10:w10.heap[n10]?=some (.cells (sixC (finF p T.length 0 0)) 97 (0,0)):=by rw[ZcV];exact q10
 replace G:=G.rQ 0 q10;clear q10;replace G:=G.ce E9;refine k6<|wQ λk7=>wR λk8=>(F.y (F.lc (G.q 2))) λF=>(F.y F.ln) λF=>(F.m) λF=>k8<|Yh<|lpB (F.b [2,7,8,9,10,26]) (G.b [0,2,4,5,6,7]) (T.length) (λj Lv Sv W=>Lv=[(27,.int .i64 ((j:Nat):Int))]/\Sv=[.q n10 ((sixC (finF p T.length j 0))) 97]) ⟨_,_,F.u,G.u,rfl,rfl⟩ ?_
 clear F G;rintro j _ w11 _ _ hi1 ⟨rfl,rfl⟩ F G;replace G:=G.z;refine wR λk9=>(F.y F.ls) λF=>k9<|wQ λk10=>F.ci (λhc28=>?_) (λhc28=>?_)
 ·refine Yi<|k10<|wQ λk11=>Yh<|wR λk12=>(F.m) λF=>(F.al G Qy.zeroValue3) @λn11 w12 _ yy F G=>(F.st G 0) λG=>k12<|wR λk13=>(F.y (F.lc (G.q 3))) λF=>(F.y F.ln) λF=>(F.m) λF=>k13<|Yh<|lpB (F.b [2,7,8,9,10,11,26,27,31]) (G.b [0,2,3,4,5,6,7]) (T.length) (λk Lv Sv W=>Lv=[(32,.int .i64 ((k:Nat):Int))]/\Sv=[.q n10 ((sixC (finF p T.length j k))) 97]) ⟨_,_,F.u,G.u,rfl,rfl⟩ ?_
  clear F G;rintro k _ w14 _ _ hi2 ⟨rfl,rfl⟩ F G;replace G:=G.z;refine wR λk14=>(F.y F.ls) λF=>k14<|wQ λk15=>F.ci (λhc33=>?_) (λhc33=>?_)
  ·refine Yi<|k15<|wQ λk16=>Yh<|wR λk17=>(F.m) λF=>(F.al G Qy.zeroValue3) @λn12 w15 _ yy F G=>(F.st G 0) @λw16 G=>k17<|wR λk18=>(F.m) λF=>(F.y F.mf) λF=>?_
   have hsl:SlAt [] w16 ma 4 T.length (λi=>tubR (val (T.getD i []))):=Zj (row:=λt:List Int=>tubR (val t)) (hrm.out.ext (G.e 3) (by simp;omega)) [];refine(F.k0 G (Z6T ls 73 #[.pointer (some ⟨n8,0,none⟩),.pointer (some ⟨n9,0,none⟩),.pointer (some ⟨n11,0,none⟩),.pointer (some ⟨n12,0,none⟩)] (λl=>!alkE x l.toNat (val (T.getD j [])) (val (T.getD k []))) b d _ (HQ.out.ext (G.e 8) (by simp)) hl4 Qy.call73 (λW e n hn=>(by obtain⟨h0,h1⟩:=HM.out.2.1 n hn;have hm:=Zfi (μ:=μ) x HV.out T HT.out ma mc n8 n9 n11 n12 j k n.toNat (by omega) (by omega) (by omega) W ((HX.out.ext (G.e 8)).ext e) (e.keep0 (G.q 5)) (e.keep0 (G.q 4)) (e.keep0 (G.q 2)) (e.keep0 (G.q 0)) (ZaH hsl e) (by omega);rw[show ((n.toNat:Nat):Int)=n by omega]at hm;exact hm)))) λF G=>(F.y F.nb) λF=>?_;have hpe:(!(ls.any λl=>!alkE x l.toNat (val (T.getD j [])) (val (T.getD k []))))=p j k:=by rw[HP.out];rfl
   rw[hpe]at F;have hfl:=Zag p j k (by omega);refine k18<|F.cb (λhc38=>?_) (λhc38=>?_)
   ·refine(wX 7 G) λG=>(F.s (F.lc (G.q 2))) λF=>(F.s (F.ia 6 1)) λF=>(F.s (F.lw (ZdU (G.q 1) (k:=j) rfl (by omega)))) λF=>?_
    rw[show finF p T.length j k j=((fnK p j k:Nat):Int) by simp[finF]]at F;refine(F.s (F.lc (G.q 0))) λF=>?_;refine(F.s ((Zji rfl (ev_c _ _) (F.at rfl)))) λF=>?_;rw[shl8 k (by omega)]at F;refine(F.s ((R_or rfl (F.at rfl) (F.at rfl)))) λF=>?_;rw[or8 _ hfl k (by omega)]at F;refine(F.s (F.ia 6 1)) λF=>wpStill_nil<|(F.sw G 1 (ZdU (G.q 1) (k:=j) rfl (by omega)) λ_ hw=>Zix hw (G.q 1) (k:=j) rfl (by omega)) λG=>?_
    have q10:=G.q 1;rw[ZeY p hc38]at q10;replace G:=G.rQ 1 q10;clear q10;refine k16<|Yg<|(F.y F.ad) λF=>(F.m) λF=>?_
    show _/\_;exact⟨by omega,_,_,F.u,G.u,rfl,rfl⟩
   ·have q10:=G.q 1
    rw[ZhF p hc38]at q10;replace G:=G.rQ 1 q10;clear q10;refine Yi<|k16<|Yg<|(F.y F.ad) λF=>(F.m) λF=>?_
    show _/\_;exact⟨by omega,_,_,F.u,G.u,rfl,rfl⟩
  ·refine wp_exit ?_
   have q10:=G.q 0;rw[show k=T.length by omega,ZcU]at q10;replace G:=G.rQ 0 q10;clear q10;refine k11<|Yg<|(F.y F.ad) λF=>(F.m) λF=>?_
   show _/\_;exact⟨by omega,_,_,F.u,G.u,rfl,rfl⟩
 ·refine wp_exit ?_
  have q10:=G.q 0;rw[show j=T.length by omega]at q10;replace G:=G.rQ 0 q10;clear q10;refine k7<|wR λk19=>(F.m) λF=>?_
  obtain⟨M2,hM2⟩:∃M2,M2=2 ^ T.length:=⟨_,rfl⟩;have hM64:M2<=64:=by rw[hM2];exact Zit _ (by omega)
  rw[show (0:Int)=((Z0w p T.length 0:Nat):Int) from rfl]at F;refine k19<|wQ λk20=>wp_label<|k20<|wQ λk21=>wR λk22=>(F.y (F.lc (G.q 2))) λF=>(F.y F.ln) λF=>?_
  refine(F.y ((Zji rfl (ev_c _ _) (F.at rfl)))) λF=>?_;rw[shl8 T.length (by omega),<-hM2]at F;refine(F.m) λF=>?_;rw[show (0:Int)=((0:Nat):Int) from rfl]at F;refine k22<|Yh<|lpB (F.b [7,10,50]) (G.b [2,3,4,5,6]) (M2) (λs Lv Sv W=>Lv=[(13,.int .u8 ((Z0w p T.length s:Nat):Int)),(51,.int .u8 ((s:Nat):Int))]/\Sv=[.q n10 ((sixC (finF p T.length T.length 0))) 97]) ⟨_,_,F.u,G.u,rfl,rfl⟩ ?_
  clear F G;rintro s _ w20 _ _ hi3 ⟨rfl,rfl⟩ F G;replace G:=G.z;refine wQ λk23=>?_;have hbl:=Z6G p T.length s (by omega);refine Yg<|(F.y F.ls) λF=>k23<|wQ λk24=>F.ci (λhc52=>?_) (λhc52=>?_)
  ·refine Yi<|k24<|wQ λk25=>Yh<|wR λk26=>(F.m) λF=>(F.m) λF=>k26<|wQ λk27=>wR λk28=>(F.m) λF=>(F.k (Z7e s (by omega) _)) ?_
   rintro _ w21 ⟨sa,sc,rfl,os,e9⟩;refine⟨_,rfl,λF=>?_⟩;replace G:=G.ex e9;have HSs:=Lib.hid (Z02 os rfl [] (by simp));have RA:=Lib.hid (Zv os rfl);clear os;have hsb:=Lib.hid (Zbu s (by omega));have hsl6:=Z6i s (by omega);replace G:=G.hr [];refine(F.y F.ln) λF=>(F.m) λF=>k28<|Yh<|lpB (F.b [7,10,13,14,50,51,55,56]) (G.b [0,2,3,4,5,6]) ((Zr s).length) (λi Lv Sv W=>Lv=[(57,.int .i64 ((i:Nat):Int))]/\Sv=[.q n10 ((sixC (finF p T.length T.length 0))) 97]/\∀j,j<i->subB s (finS p T.length ((Zr s).getD j 0).toNat)=true) ⟨_,_,F.u,G.u,rfl,rfl,(λj h=>by omega)⟩ ?_
   clear F G;rintro i _ w22 _ _ hi4 ⟨rfl,rfl,hoks⟩ F G;replace G:=G.z;refine wR λk29=>(F.y F.ls) λF=>k29<|wQ λk30=>F.ci (λhc58=>?_) (λhc58=>?_)
   ·refine Yi<|k30<|wQ λk31=>Yh<|wR λk32=>(F.ix HSs.out i) λxr33 F=>(F.y (F.l1 (xr33 _ (G.e 1)) 0)) λF=>(F.m) λF=>k32<|wQ λk34=>?_
    obtain⟨hn0,hn6⟩:=hsb.out _ (Zb (l:=Zr s) (i:=i) 0 (by omega));refine Yg<|(F.m) λF=>(F.m) λF=>(F.y (F.ia 6 1)) λF=>(F.y (F.lw (ZdU (G.q 0) (k:=((Zr s).getD i 0).toNat) rfl (by omega)))) λF=>?_
    rw[ZeX]at F;refine(F.y ((Zes rfl (F.at rfl) (F.at rfl)))) λF=>(F.y F.ne) λF=>?_;have hnt:=not8 s (by omega) _ (ZhG p (n:=T.length) (by omega) ((Zr s).getD i 0).toNat);refine k34<|F.ci (λhc66=>?_) (λhc66=>?_)
    ·have hsub:subB s (finS p T.length ((Zr s).getD i 0).toNat)=false:=by rw[<-hnt];exact decide_eq_false hc66
     rw[Zca p (Zin p (show i<(Zr s).length by omega) hsub)]at F;refine wp_exit<|k25<|Yg ?_
     refine(F.y ((Z54 rfl (F.at rfl) (ev_c _ _)))) λF=>?_;rw[add8 s (by omega)]at F;refine(F.m) λF=>?_;show _/\_;exact⟨by omega,_,_,F.u,G.u,rfl,rfl⟩
    ·have hsub:subB s (finS p T.length ((Zr s).getD i 0).toNat)=true:=by rw[<-hnt];exact decide_eq_true (Classical.not_not.1 hc66)
     refine Yi<|k31<|Yg<|(F.y F.ad) λF=>(F.m) λF=>?_
     show _/\_;exact⟨by omega,_,_,F.u,G.u,rfl,rfl,(λj h=>by rcases Nat.lt_succ_iff_lt_or_eq.1 h with h | rfl;(· exact hoks j h);(· exact hsub))⟩
   ·refine wp_exit<|k27<|wQ λk35=>?_
    have hok:=Zim p (n:=T.length) (s:=s) (λj hj=>hoks j (by omega));refine Yg<|(F.m) λF=>(F.k0 G (Z4G s (by omega) _)) λF G=>(F.m) λF=>(F.k0 G (Z4G (Z0w p T.length s) hbl _)) λF G=>(F.y F.gt) λF=>(F.m) λF=>?_
    by_cases hg1:(((Z0l (Z0w p T.length s):Nat):Int)<((Z0l s:Nat):Int))
    ·replace F:=F.re (k:=73) rfl (congrArg Value.bool (decide_eq_true hg1))
     refine(F.n) λF=>(F.n) λF=>(F.n) λF=>(F.n) λF=>(F.n) λF=>(F.n) λF=>(F.n) λF=>(F.n) λF=>(F.n) λF=>(F.n) λF=>(F.n) λF=>(F.n) λF=>(F.n) λF=>(F.y F.pT) λF=>k35 ?_
     try rw[Z4D p (by omega) (λh=>absurd h (by omega))]at F
     refine(F.cT)<|Yg<|(F.m) λF=>(F.m) λF=>?_
     replace F:=F.re (k:=13) rfl (congrArg (λz:Nat=>Value.int .u8 ((z:Nat):Int)) (Z7Z p hok (by first | exact .inl (by omega) | exact .inr ⟨by omega,hc87⟩)));refine k25<|Yg ?_
     refine(F.y ((Z54 rfl (F.at rfl) (ev_c _ _)))) λF=>?_;rw[add8 s (by omega)]at F;refine(F.m) λF=>?_;show _/\_;exact⟨by omega,_,_,F.u,G.u,rfl,rfl⟩
    ·replace F:=F.re (k:=73) rfl (congrArg Value.bool (decide_eq_false hg1))
     refine(F.m) λF=>(F.k0 G (Z4G s (by omega) _)) λF G=>(F.m) λF=>(F.k0 G (Z4G (Z0w p T.length s) hbl _)) λF G=>(F.y F.eq) λF=>(F.m) λF=>?_
     by_cases hg2:(((Z0l s:Nat):Int)=((Z0l (Z0w p T.length s):Nat):Int))
     ·replace F:=F.re (k:=79) rfl (congrArg Value.bool (decide_eq_true hg2))
      refine(F.m) λF=>(F.k (Z7e s (by omega) _)) ?_;rintro _ w27 ⟨la,lc,rfl,ol,e9⟩;refine⟨_,rfl,λF=>?_⟩;replace G:=G.ex e9;have RL:=Lib.hid (Zv ol rfl);clear ol;replace G:=G.hr [];refine(F.m) λF=>(F.k (Z7e (Z0w p T.length s) hbl _)) ?_;rintro _ w28 ⟨ka,kc,rfl,ok,e9⟩;refine⟨_,rfl,λF=>?_⟩;replace G:=G.ex e9;have hk6:=Z6i _ hbl;refine(F.k0 G (Z3b (Zr s) (Zr (Z0w p T.length s)) la ka lc kc _ (RL.out.ext (G.e 0) (by simp)) (Zv ok rfl) (by omega) (by omega))) λF G=>(F.y F.ls) λF=>(F.y F.pT) λF=>(F.y F.pF) λF=>k35 ?_
      try rw[Z4D p (by omega) (λh=>absurd h (by omega))]at F
      refine F.ci (λhc87=>?_) (λhc87=>?_)
      ·refine Yg<|(F.m) λF=>(F.m) λF=>?_
       replace F:=F.re (k:=13) rfl (congrArg (λz:Nat=>Value.int .u8 ((z:Nat):Int)) (Z7Z p hok (by first | exact .inl (by omega) | exact .inr ⟨by omega,hc87⟩)));refine k25<|Yg ?_
       refine(F.y ((Z54 rfl (F.at rfl) (ev_c _ _)))) λF=>?_;rw[add8 s (by omega)]at F;refine(F.m) λF=>?_;show _/\_;exact⟨by omega,_,_,F.u,G.u,rfl,rfl⟩
      ·rw[Z4D p (by omega) (λh=>by first | exact hc87 | exact absurd h (by omega))]at F
       refine Yi<|k25<|Yg ?_
       refine(F.y ((Z54 rfl (F.at rfl) (ev_c _ _)))) λF=>?_;rw[add8 s (by omega)]at F;refine(F.m) λF=>?_;show _/\_;exact⟨by omega,_,_,F.u,G.u,rfl,rfl⟩
     ·replace F:=F.re (k:=79) rfl (congrArg Value.bool (decide_eq_false hg2))
      refine(F.n) λF=>(F.n) λF=>(F.n) λF=>(F.n) λF=>(F.n) λF=>(F.n) λF=>(F.y F.pF) λF=>(F.y F.pF) λF=>k35 ?_
      try rw[Z4D p (by omega) (λh=>absurd h (by omega))]at F
      refine(F.cF)<|Yi<|k25<|Yg ?_
      refine(F.y ((Z54 rfl (F.at rfl) (ev_c _ _)))) λF=>?_;rw[add8 s (by omega)]at F;refine(F.m) λF=>?_;show _/\_;exact⟨by omega,_,_,F.u,G.u,rfl,rfl⟩
  ·refine wp_exit ?_
   rw[show s=M2 by omega]at F;refine k21<|wR λk36=>(F.m) λF=>?_
   have hEs:=(G.e 5).size;refine(F.k (Z7e (Z0w p T.length M2) (Z6G p _ _ hM64) _)) ?_;rintro _ w30 ⟨ra,rc,rfl,oo,e9⟩;refine⟨_,rfl,λF=>?_⟩;replace G:=G.ex e9;replace oo:=Z0v oo hEs;replace G:=G.co oo;refine(F.m) λF=>(F.st G 4) λG=>k36<|wp_ret ?_
   (try simp only[Exit.inBlock,Exit.then,reduceIte])
   refine Z3O F<|ZY<|Z0R (Z4w F rfl rfl rfl Qy.underlying30 rfl (G.q 4)) ?_
   rw[<-hT,show mosR x ls T=Zr (Z0w p T.length M2) by rw[mosR,<-HP.out,hM2]];have oo:=G.o 0;exact⟨ra,rc,rfl,oo,(G.e 6)⟩
end
section
open Go.RowKit Go.Maps
variable{μ:Nat}
def mrG(t q:List Int):Nat->Int:=λk=>val q k-val t k
def mrF(t q:List Int)(i:Nat):Nat->Int:=λk=>if k<i then mrG t q k else 0
def mrC(t q:List Int):Int×Int:=(prt (mrG t q),0)
def corB(x:Vm)(t:List Int)(s:Nat->Int)(ls:List Int)(q:List Int):Bool:=((List.range 4).all λk=>decide (0<=mrG t q k))&&matE x (val q) s ls
def corO(x:Vm)(t:List Int)(s:Nat->Int)(ls:List Int)(pre:List (List Int)):Option (List Int):=Z2p (mrC t) (pre.filter (corB x t s ls))
def corR(x:Vm)(t:List Int)(s:Nat->Int)(ls:List Int):List Int×Int:=match corO x t s ls (recL x.D.length) with
 | none=>([],11)
 | some q=>(cutL (mrG t q) x.D.length,0)
theorem Zht{x:Vm}{t q ls:List Int}{s:Nat->Int}(hk:k<4)(h:mrG t q k<0): corB x t s ls q=false:=by
 rw[corB,show ((List.range 4).all λk=>decide (0<=mrG t q k))=false from List.all_eq_false.2 ⟨k,by simpa using hk,by simp;omega⟩,Bool.false_and]
theorem Zjy{x:Vm}{t q ls:List Int}{s:Nat->Int}(h:∀k,k<4->0<=mrG t q k): corB x t s ls q=matE x (val q) s ls:=by
 rw[corB,show ((List.range 4).all λk=>decide (0<=mrG t q k))=true from Yl.2 λk hk=>decide_eq_true (h k (by simpa using hk)),Bool.true_and]
theorem Z1P{x:Vm}{t q ls:List Int}{s:Nat->Int}{pre:List (List Int)}(h:corB x t s ls q=false): corO x t s ls (pre++[q])=corO x t s ls pre:=by
 rw[corO,corO,Z3d,h];rfl
theorem Zcs{x:Vm}{t q ls:List Int}{s:Nat->Int}{pre:List (List Int)}(h:corB x t s ls q=true): corO x t s ls (pre++[q])=offO (mrC t) (corO x t s ls pre) q:=by
 rw[corO,corO,Z3d,h,if_pos rfl,Z5q]
theorem Zfj(t q:List Int):mrF t q 0=zf:=by funext k;simp[mrF,zf]
theorem Zkf(t q:List Int)(i:Nat):upF (mrF t q i) i (mrG t q i)=mrF t q (i+1):=by
 funext k
 rw[upF,mrF,mrF]
 by_cases h:k=i
 ·subst h;simp
 ·by_cases h2:k<i
  ·simp[h,h2,show k<i+1 by omega]
  ·simp[h,h2,show ¬k<i+1 by omega]
theorem Zdp(t q:List Int):tubC (mrF t q 4)=tubC (mrG t q):=Z3Z λk hk=>if_pos hk
theorem Z1X{α:Type}{g:α->Nat->Int}{c:α->Int×Int}{o:Option α}{ob:Nat}(h:W.heap[ob]?=some (.cells (Z7j g c o) T fz)): Z1i ob W=none:=by
 rw[Z1i,h]
 cases o<;>rfl
structure CorI(x:Vm)(t:List Int)(sv lv:Value)(w:World)(B n6 n7 n9 n10 n11 n12:Nat)(o:Option (List Int))(W:World):Prop where
 q6:W.heap[n6]?=some (.cells #[sv] 22 (0,0))
 q7:W.heap[n7]?=some (.cells #[lv] 22 (0,0))
 q9:W.heap[n9]?=some (.cells #[.int .i64 0] 30 (0,0))
 q10:W.heap[n10]?=some (.cells #[.int .i64 x.B,.slice x.da x.D.length x.dc,.slice x.la x.L.length x.lc,.int .i64 x.tol] 85 (0,0))
 q11:W.heap[n11]?=some (.cells (tubC (val t)) 88 (0,0))
 q12:W.heap[n12]?=some (.cells (Z7j (mrG t) (mrC t) o) 129 (0,0))
 E:Ext [] w W
 sz:B<=W.heap.size
theorem CorI.kept{x:Vm}{t:List Int}{sv lv:Value}{B n6 n7 n9 n10 n11 n12:Nat}{o:Option (List Int)}{V: World}{row:Option Nat}(h:CorI x t sv lv w B n6 n7 n9 n10 n11 n12 o W)(hg:W.grownBy V row)(h1:∀r,row=some r->B<=r)(hB:n6<B/\n7<B/\n9<B/\n10<B/\n11<B/\n12<B/\w.heap.size<=B): CorI x t sv lv w B n6 n7 n9 n10 n11 n12 o V:=by
 obtain⟨b6,b7,b9,b10,b11,b12,bw⟩:=hB;have hk:∀{k:Nat} {cs:Array Value} {T:TypeId} {fz:Nat×Nat},W.heap[k]?=some (.cells cs T fz)->k<B->V.heap[k]?=some (.cells cs T fz):=
  λ{k cs T fz} hq hb=>(hg.block k (Z3 hq) (λe=>by have:=h1 k e.symm;omega)).trans hq
 exact⟨hk h.q6 b6,hk h.q7 b7,hk h.q9 b9,hk h.q10 b10,hk h.q11 b11,hk h.q12 b12,Z1T h.E hg λb e hl=>(by have:=h1 b e;omega),Yd h.sz hg.size⟩
theorem Z9I(x:Vm)(hv:VOk x)(t:List Int)(ht:RcpOk x t)(s:List Int)(hs:Z1L x s)(ls:List Int)(hl:Z5T x ls)(hll:ls.length<=1000)(ta sa la:Option Addr)(tc sc lc:Nat)(w:World)(h:x.At w)(hp:Z8 w (.slice ta t.length tc) 1 (t.map Z7))(hr:Z8 w (.slice sa s.length sc) 1 (s.map Z7))(hq:Z8 w (.slice la ls.length lc) 1 (ls.map Z7)):
  Calls (Qy.prog μ) 56 #[.agg #[.int .i64 x.B,.slice x.da x.D.length x.dc,.slice x.la x.L.length x.lc,.int .i64 x.tol],.slice ta t.length tc,.slice sa s.length sc,.slice la ls.length lc] w (Z4B (corR x t (val s) ls) w):=by
 have E:Ext [] w w:=Ext.refl _ _;have HX:=Lib.hid h;have HV:=Lib.hid hv;have HS:=Lib.hid hs;have HR:=Lib.hid hr;have HQ:=Lib.hid hq;have HP:=Lib.hid hp;have HL:=Lib.hid hl;have HT:=Lib.hid ht;have HTS:=Lib.hid ht.tub;have hd4:=hv.d4;obtain⟨hnd,hrl⟩:=Z7q x.D.length (by omega);have HRL:=Lib.hid hrl;clear h hv hs hr hq hl hnd hrl ht hp;refine Z1M 64 Qy.func56 rfl Tryz.ntmps56 (Nat.le_of_ble_eq_true rfl) ?_;intro fa F;refine wS λK1 hK1=>?_;refine Yg ?_;refine sqN F (Z1B rfl (F.at rfl)) λfa w1 F hw=>?_;obtain⟨n4,hn⟩:=eQ w.heap.size;rw[<-hn]at F;have s4:=sQ hn;have l4_E:=lQ hn E.size;replace E:=Z2 E hw;have q4:=Zf hw hn;clear hw hn;refine sqN F (Z1B rfl (F.at rfl)) λfa w2 F hw=>?_;obtain⟨n6,hn⟩:=eQ w1.heap.size;rw[<-hn]at F;have s6:=sQ hn;have l6_E:=lQ hn E.size;have m6_4:=tQ hn (Z3 q4);replace q4:=Z0 hw q4;replace E:=Z2 E hw;have q6:=Z09 hw rfl hn;clear hw hn;refine sqN F (Z1B rfl (F.at rfl)) λfa w3 F hw=>?_;obtain⟨n7,hn⟩:=eQ w2.heap.size;rw[<-hn]at F;have s7:=sQ hn;have l7_E:=lQ hn E.size;have m7_4:=tQ hn (Z3 q4);have m7_6:=tQ hn (Z3 q6);replace q4:=Z0 hw q4;replace q6:=Z0 hw q6;replace E:=Z2 E hw;have q7:=Z09 hw rfl hn;clear hw hn;refine F.vl (ZC rfl (ev_c fa _)) λfa F=>?_;refine sqN F (Ze rfl Qy.zeroValue30) λfa w4 F hw=>?_;obtain⟨n9,hn⟩:=eQ w3.heap.size;rw[<-hn]at F;have s9:=sQ hn;have l9_E:=lQ hn E.size;have m9_4:=tQ hn (Z3 q4);have m9_6:=tQ hn (Z3 q6);have m9_7:=tQ hn (Z3 q7);replace q4:=Z0 hw q4;replace q6:=Z0 hw q6;replace q7:=Z0 hw q7;replace E:=Z2 E hw;have q9:=Z09 hw rfl hn;clear hw hn;refine wN<|hK1 _ _ ?_
 refine wp_scope_straight ?_;refine wS λK2 hK2=>?_;refine Yg ?_;refine Z2W F rfl rfl (Z40 rfl rfl (mpS (F.at rfl) mp0)) λfa F=>?_;refine wN<|hK2 _ _<|wS λK3 hK3=>?_
 refine Yg ?_;refine F.vl (Zc rfl (F.at rfl) Qy.underlying27 rfl (by kernel_rfl) q4) λfa F=>?_;refine sqC F (Za rfl rfl Qy.call64 (mpS (F.at rfl) mp0)) (ZZ x HV.out _ (HX.out.ext E)) λe w5 hR=>?_;obtain⟨rfl,e9⟩:=hR;refine⟨_,rfl,λfa F=>?_⟩;replace q4:=(e9).keep0 q4;replace q6:=(e9).keep0 q6;replace q7:=(e9).keep0 q7;replace q9:=(e9).keep0 q9;replace E:=Z4 E (e9);clear e9;refine sqN F (Ze rfl Qy.zeroValue85) λfa w6 F hw=>?_;obtain⟨n10,hn⟩:=eQ w5.heap.size;rw[<-hn]at F;have s10:=sQ hn;have l10_E:=lQ hn E.size;have m10_4:=tQ hn (Z3 q4);have m10_6:=tQ hn (Z3 q6);have m10_7:=tQ hn (Z3 q7);have m10_9:=tQ hn (Z3 q9);replace q4:=Z0 hw q4;replace q6:=Z0 hw q6;replace q7:=Z0 hw q7;replace q9:=Z0 hw q9;replace E:=Z2 E hw;have q10:=Zf hw hn;clear hw hn;refine Z0T rfl rfl (ZW rfl (F.at rfl) (F.at rfl) (by kernel_rfl) (by first | (simp[Value.oneCell'];done) | (simp[Value.oneCell',id];done)) q10 rfl) ?_;intro w7 hw;replace q4:=kcs hw q4;replace q6:=kcs hw q6;replace q7:=kcs hw q7;replace q9:=kcs hw q9;replace q10:=Z0I hw q10 rfl;replace E:=ecs E hw;clear hw;refine wN<|hK3 _ _<|wS λK4 hK4=>?_
 refine Yg ?_;refine F.vl (Zc rfl (F.at rfl) Qy.underlying85 rfl (by kernel_rfl) q10) λfa F=>?_;refine F.mv λfa F=>?_;refine sqC F (Za rfl rfl Qy.call65 (mpS (F.at rfl) (mpS (F.at rfl) mp0))) (Z9 x HV.out t HT.out ta tc _ (HP.out.ext E (by simp))) λe w8 hR=>?_;obtain⟨rfl,e9⟩:=hR;refine⟨_,rfl,λfa F=>?_⟩;replace q4:=(e9).keep0 q4;replace q6:=(e9).keep0 q6;replace q7:=(e9).keep0 q7;replace q9:=(e9).keep0 q9;replace q10:=(e9).keep0 q10;replace E:=Z4 E (e9);clear e9;refine sqN F (Ze rfl Qy.zeroValue88) λfa w9 F hw=>?_;obtain⟨n11,hn⟩:=eQ w8.heap.size;rw[<-hn]at F;have s11:=sQ hn;have l11_E:=lQ hn E.size;have m11_4:=tQ hn (Z3 q4);have m11_6:=tQ hn (Z3 q6);have m11_7:=tQ hn (Z3 q7);have m11_9:=tQ hn (Z3 q9);have m11_10:=tQ hn (Z3 q10);replace q4:=Z0 hw q4;replace q6:=Z0 hw q6;replace q7:=Z0 hw q7;replace q9:=Z0 hw q9;replace q10:=Z0 hw q10;replace E:=Z2 E hw;have q11:=Zf hw hn;clear hw hn;refine Z0T rfl rfl (ZW rfl (F.at rfl) (F.at rfl) (by kernel_rfl) (by simp[tubC,Value.oneCell']) q11 rfl) ?_;intro w10 hw;replace q4:=kcs hw q4;replace q6:=kcs hw q6;replace q7:=kcs hw q7;replace q9:=kcs hw q9;replace q10:=kcs hw q10;replace q11:=Z0I hw q11 rfl;replace E:=ecs E hw;clear hw;refine wN<|hK4 _ _<|wS λK5 hK5=>?_
 refine Yg ?_;refine F.vl (Zc rfl (F.at rfl) Qy.underlying85 rfl (by kernel_rfl) q10) λfa F=>?_;refine F.vl (ZH rfl (F.at rfl) Qy.underlying22 rfl ((Z1 q6 0).trans (get0))) λfa F=>?_;refine sqC F (Za rfl rfl Qy.call78 (mpS (F.at rfl) (mpS (F.at rfl) mp0))) (Z2G x HV.out s HS.out sa sc _ (HR.out.ext E (by simp))) λe w11 hR=>?_;obtain⟨rfl,e9⟩:=hR;refine⟨_,rfl,λfa F=>?_⟩;replace q4:=(e9).keep0 q4;replace q6:=(e9).keep0 q6;replace q7:=(e9).keep0 q7;replace q9:=(e9).keep0 q9;replace q10:=(e9).keep0 q10;replace q11:=(e9).keep0 q11;replace E:=Z4 E (e9);clear e9;refine wN<|hK5 _ _<|wS λK6 hK6=>?_
 refine Yg ?_;refine F.vl (Zc rfl (F.at rfl) Qy.underlying85 rfl (by kernel_rfl) q10) λfa F=>?_;refine F.vl (ZH rfl (F.at rfl) Qy.underlying22 rfl ((Z1 q7 0).trans (get0))) λfa F=>?_;refine sqC F (Za rfl rfl Qy.call71 (mpS (F.at rfl) (mpS (F.at rfl) mp0))) (Z7b x HV.out ls HL.out hll la lc _ (HX.out.ext E) (HQ.out.ext E (by simp))) λe w12 hR=>?_;obtain⟨rfl,e9⟩:=hR;refine⟨_,rfl,λfa F=>?_⟩;replace q4:=(e9).keep0 q4;replace q6:=(e9).keep0 q6;replace q7:=(e9).keep0 q7;replace q9:=(e9).keep0 q9;replace q10:=(e9).keep0 q10;replace q11:=(e9).keep0 q11;replace E:=Z4 E (e9);clear e9;refine wN<|hK6 _ _<|wS λK7 hK7=>?_
 refine Yg ?_;refine sqN F (Ze rfl Qy.zeroValue129) λfa w13 F hw=>?_;obtain⟨n12,hn⟩:=eQ w12.heap.size;rw[<-hn]at F;have s12:=sQ hn;have l12_E:=lQ hn E.size;have m12_4:=tQ hn (Z3 q4);have m12_6:=tQ hn (Z3 q6);have m12_7:=tQ hn (Z3 q7);have m12_9:=tQ hn (Z3 q9);have m12_10:=tQ hn (Z3 q10);have m12_11:=tQ hn (Z3 q11);replace q4:=Z0 hw q4;replace q6:=Z0 hw q6;replace q7:=Z0 hw q7;replace q9:=Z0 hw q9;replace q10:=Z0 hw q10;replace q11:=Z0 hw q11;replace E:=Z2 E hw;have q12:=Zf hw hn;clear hw hn;refine wpList_nil ?_;replace q12:w13.heap[n12]?=some (.cells (Z7j (mrG t) (mrC t) (corO x t (val s) ls [])) 129 (0,0)):=q12;refine hK7 _ _<|wS λK8 hK8=>?_
 refine wp_label ?_;refine hK8 _ _<|wS λK9 hK9=>wS λK10 hK10=>?_
 refine Yg ?_;refine F.vl (Zc rfl (F.at rfl) Qy.underlying85 rfl (by kernel_rfl) q10) λfa F=>?_;have b12':=Z3 q12;refine sqC F (Za rfl rfl Qy.call110 (mpS (F.at rfl) mp0)) (Z5s x _) λe w14 hR=>?_;obtain⟨nb,rfl,hnb,qb,e9⟩:=hR;refine⟨_,rfl,λfa F=>?_⟩;replace q4:=(e9).keep0 q4;replace q6:=(e9).keep0 q6;replace q7:=(e9).keep0 q7;replace q9:=(e9).keep0 q9;replace q10:=(e9).keep0 q10;replace q11:=(e9).keep0 q11;replace q12:=(e9).keep0 q12;replace E:=Z4 E (e9);clear e9;refine wN<|hK10 _ _ ?_
 refine Yh ?_;clear q4;obtain⟨w3,hw3⟩:∃w3,w3=w14:=⟨_,rfl⟩;have b6:=Z3 q6;have b7:=Z3 q7;have b9:=Z3 q9;have b10:=Z3 q10;have b11:=Z3 q11;have b12:=Z3 q12;have bb:=Z3 qb;have bw:=E.size;have hr0:Z1i n12 w14=none:=Z1X q12;have hseq:=Z4p (μ:=μ) x hd4 [] n12 nb w14 b12 (by simp) (λr e=>by rw[hr0]at e;cases e) ⟨by simp,by omega,by rw[hr0];simp⟩ qb;have hI0:CorI x t (.slice sa s.length sc) (.slice la ls.length lc) w w14.heap.size n6 n7 n9 n10 n11 n12 (corO x t (val s) ls []) w14:=⟨q6,q7,q9,q10,q11,q12,E,Ye _⟩;replace F:=F.sub (.c 6 rfl (.c 7 rfl (.c 9 rfl (.c 10 rfl (.c 11 rfl (.c 12 rfl (.c 28 rfl .n)))))));refine ZdH (F.at rfl) Qy.call126 hseq (λ_=>rfl) b12 (λpre W=>CorI x t (.slice sa s.length sc) (.slice la ls.length lc) w w14.heap.size n6 n7 n9 n10 n11 n12 (corO x t (val s) ls pre) W) ?h1 ?ho ?hc hI0 (λpre q a' W=>∃nt,Has 64 [] a' [(6,.pointer (some ⟨n6,0,none⟩)),(7,.pointer (some ⟨n7,0,none⟩)),(9,.pointer (some ⟨n9,0,none⟩)),(10,.pointer (some ⟨n10,0,none⟩)),(11,.pointer (some ⟨n11,0,none⟩)),(12,.pointer (some ⟨n12,0,none⟩)),(13,.pointer (some ⟨nt,0,none⟩))]/\CorI x t (.slice sa s.length sc) (.slice la ls.length lc) w w14.heap.size n6 n7 n9 n10 n11 n12 (corO x t (val s) ls pre) W/\W.heap[nt]?=some (.cells (tubC (val q)) 88 (0,0))/\w14.heap.size<=nt) ?hax ?assign ?body ?done
 case h1=>rintro pre U V hI hg;exact hI.kept hg (λr e=>by cases e) ⟨b6,b7,b9,b10,b11,b12,bw⟩
 case ho=>rintro pre U V r hI hr ⟨o,ho,hc⟩ hg;exact hI.kept hg (λr' e=>by cases e;exact hr) ⟨b6,b7,b9,b10,b11,b12,bw⟩
 case hc=>rintro pre U V r hI hr hsf-hg;exact hI.kept hg (λr' e=>by cases e;exact hr) ⟨b6,b7,b9,b10,b11,b12,bw⟩
 case hax=>rintro pre q a' U V r ⟨nt,hF,hI,hnt,hn⟩ hr ⟨o,ho,hc⟩ hg;refine⟨nt,hF,hI.kept hg (λr' e=>by cases e;exact hr) ⟨b6,b7,b9,b10,b11,b12,bw⟩,(hg.block nt (Z3 hnt) (λe=>?_)).trans hnt,hn⟩;cases e;rw[ho]at hnt;cases hnt;cases hc
 case assign =>
  clear q6 q7 q9 q10 q11 q12 qb E hI0;rintro l pre q W K ⟨q6,q7,q9,q10,q11,q12,E,hsz⟩ hK;have hbo:=Z3 q12;refine ZaY (F.param (p:=29) (by decide) (.agg (tubC (val q)))) ?_;clear F fa;intro fa F;have ER:Ext [] W W:=Ext.refl _ _;refine Zl rfl (λh=>by obtain⟨_,_,h⟩:=h;exact h) ?_;refine sqN F (Ze rfl Qy.zeroValue88) λfa w15 F hw=>?_;obtain⟨n13,hn⟩:=eQ W.heap.size;rw[<-hn]at F;have s13:=sQ hn;have l13_E:=lQ hn E.size;have l13_ER:=lQ hn ER.size;have m13_6:=tQ hn (Z3 q6);have m13_7:=tQ hn (Z3 q7);have m13_9:=tQ hn (Z3 q9);have m13_10:=tQ hn (Z3 q10);have m13_11:=tQ hn (Z3 q11);have m13_12:=tQ hn (Z3 q12);replace q6:=Z0 hw q6;replace q7:=Z0 hw q7;replace q9:=Z0 hw q9;replace q10:=Z0 hw q10;replace q11:=Z0 hw q11;replace q12:=Z0 hw q12;replace E:=Z2 E hw;replace ER:=Z2 ER hw;have q13:=Zf hw hn;clear hw hn;refine Z0T rfl rfl (ZW rfl (F.at rfl) (F.at rfl) (by kernel_rfl) (by simp[tubC,Value.oneCell']) q13 rfl) ?_;intro w16 hw;replace q6:=kcs hw q6;replace q7:=kcs hw q7;replace q9:=kcs hw q9;replace q10:=kcs hw q10;replace q11:=kcs hw q11;replace q12:=kcs hw q12;replace q13:=Z0I hw q13 rfl;replace E:=ecs E hw;replace ER:=ecs ER hw;clear hw;refine wpList_nil ?_;exact hK _ _ (Z0y ER (by simp)) (Z67 ER hbo) ⟨n13,F.sub (.c 6 rfl (.c 7 rfl (.c 9 rfl (.c 10 rfl (.c 11 rfl (.c 12 rfl (.c 13 rfl .n))))))),⟨q6,q7,q9,q10,q11,q12,E,Yd hsz ER.size⟩,q13,by omega⟩
 case body =>
  clear q6 q7 q9 q10 q11 q12 qb E hI0 F fa;rintro l pre q fa W0 ⟨nt,F,⟨q6,q7,q9,q10,q11,q12,E,hsz⟩,q13,hnt⟩ hpx;have hqm:q∈recL x.D.length:=hpx.subset (by simp);obtain⟨hql,hqs,hqg,hq1,hq6,hqb⟩:=HRL.out q hqm;have hro:Z1i n12 W0=none:=Z1X q12;have ER:Ext [n12] W0 W0:=Ext.refl _ _;have hsz0:=hsz;refine wpIn_block ?_;refine wpIn_seq_k λK11 hK11=>?_;refine Zl rfl (λh=>by obtain⟨_,_,h⟩:=h;exact h) ?_;refine sqN F (Ze rfl Qy.zeroValue88) λfa w17 F hw=>?_;obtain⟨n14,hn⟩:=eQ W0.heap.size;rw[<-hn]at F;have s14:=sQ hn;have l14_E:=lQ hn E.size;have l14_ER:=lQ hn ER.size;have m14_6:=tQ hn (Z3 q6);have m14_7:=tQ hn (Z3 q7);have m14_9:=tQ hn (Z3 q9);have m14_10:=tQ hn (Z3 q10);have m14_11:=tQ hn (Z3 q11);have m14_12:=tQ hn (Z3 q12);have m14_13:nt<n14:=by rw[hn];exact Z3 q13
  replace q6:=Z0 hw q6;replace q7:=Z0 hw q7;replace q9:=Z0 hw q9;replace q10:=Z0 hw q10;replace q11:=Z0 hw q11;replace q12:=Z0 hw q12;replace q13:=Z0 hw q13;replace E:=Z2 E hw;replace ER:=Z2 ER hw;have q14:=Zf hw hn;clear hw hn;refine wpList_nil ?_;replace q14:w17.heap[n14]?=some (.cells (tubC (mrF t q 0)) 88 (0,0)):=by rw[Zfj];exact q14
  refine hK11 _ _ ?_;refine wpIn_seq_k λK12 hK12=>?_;refine wpIn_seq_k λK13 hK13=>?_;refine Zl rfl (λh=>by obtain⟨_,_,h⟩:=h;exact h) ?_;refine F.vl (Z0E rfl (ev_c fa _)) λfa F=>?_;refine wN<|hK13 _ _ ?_
  refine wpIn_block ?_;have F0:=F.sub (.c 6 rfl (.c 7 rfl (.c 10 rfl (.c 11 rfl (.c 12 rfl (.c 13 rfl (.c 14 rfl .n)))))));refine ZhW F0 (4) (λi Lv W=>Lv=[(30,.int .i64 ((i:Nat):Int))]/\Ext [] w W/\Ext [n12] W0 W/\W.heap[n6]?=some (.cells #[.slice sa s.length sc] 22 (0,0))/\W.heap[n7]?=some (.cells #[.slice la ls.length lc] 22 (0,0))/\W.heap[n9]?=some (.cells #[.int .i64 0] 30 (0,0))/\W.heap[n10]?=some (.cells #[.int .i64 x.B,.slice x.da x.D.length x.dc,.slice x.la x.L.length x.lc,.int .i64 x.tol] 85 (0,0))/\W.heap[n11]?=some (.cells (tubC (val t)) 88 (0,0))/\W.heap[n12]?=some (.cells (Z7j (mrG t) (mrC t) (corO x t (val s) ls pre)) 129 (0,0))/\W.heap[nt]?=some (.cells (tubC (val q)) 88 (0,0))/\W.heap[n14]?=some (.cells (tubC (mrF t q i)) 88 (0,0))/\∀j,j<i->0<=mrG t q j) ⟨_,⟨rfl,E,ER,q6,q7,q9,q10,q11,q12,q13,q14,(λj h=>by omega)⟩,F.sub (.c 30 rfl (.c 6 rfl (.c 7 rfl (.c 10 rfl (.c 11 rfl (.c 12 rfl (.c 13 rfl (.c 14 rfl .n))))))))⟩ ?_;clear F F0;clear E ER q6 q7 q9 q10 q11 q12 q13 q14;rintro i _ fa w18 hi1 ⟨rfl,E,ER,q6,q7,q9,q10,q11,q12,q13,q14,hge⟩ F;refine wpIn_seq_k λK14 hK14=>?_;refine Zl rfl (λh=>by obtain⟨_,_,h⟩:=h;exact h) ?_;refine F.vl (Z52 rfl (F.at rfl) (ev_c fa _)) λfa F=>?_;refine wN<|hK14 _ _ ?_
  refine wpIn_seq_k λK15 hK15=>?_;refine Zgm F rfl (λhc31=>?_) (λhc31=>?_)
  ·skip
   refine wpIn_skip ?_;refine hK15 _ _ ?_;refine wpIn_seq_k λK16 hK16=>?_;refine wpIn_block ?_;refine wpIn_seq_k λK17 hK17=>?_;refine Zl rfl (λh=>by obtain⟨_,_,h⟩:=h;exact h) ?_;refine F.mv λfa F=>?_;refine F.as λfa F=>?_;refine wN<|hK17 _ _ ?_
   refine wpIn_seq_k λK18 hK18=>?_;have hqi:=hqs i (by omega);have hti:=HTS.out i (by omega);have hmg:val q i-val t i=mrG t q i:=rfl;refine Z8m (Ext [] w18) (some 9) follows rfl (λh=>by obtain⟨_,_,h⟩:=h;exact h) λw19 hh eh=>?_;have q6_:=q6;replace q6:=Zt hh q6;have q7_:=q7;replace q7:=Zt hh q7;have q9_:=q9;replace q9:=Zt hh q9;have q10_:=q10;replace q10:=Zt hh q10;have q11_:=q11;replace q11:=Zt hh q11;have q12_:=q12;replace q12:=Zt hh q12;have q13_:=q13;replace q13:=Zt hh q13;have q14_:=q14;replace q14:=Zt hh q14;have E_:=E;have zEw19:=E.size;replace E:=Z4 E eh;have ER_:=ER;have zERw19:=ER.size;replace ER:=Z4 ER eh;have eT:=eh;clear hh eh;refine F.x (i:=0) rfl (λw'=>Z0E rfl (F.at rfl)) (λ_=>eT) λfa F=>?_;refine F.x (i:=1) rfl (λw'=>Z0E rfl (F.at rfl)) (λ_=>eT) λfa F=>?_;refine F.x (i:=2) rfl (λw'=>Z25 (n:=4) (sz:=1) rfl (F.at rfl) (F.at rfl) Qy.underlying88 (by kernel_rfl) (by omega) (by omega)) (λ_=>eT) λfa F=>?_;refine F.xr (i:=3) rfl (λw' hS=>ZH rfl (F.at rfl) Qy.underlying3 rfl (Z2M (hS.keep q13_ (by simp)) (k:=i) rfl (by omega))) (λ_=>eT) λfa F=>?_;refine F.x (i:=4) rfl (λw'=>Z0E rfl (F.at rfl)) (λ_=>eT) λfa F=>?_;refine F.x (i:=5) rfl (λw'=>Z25 (n:=4) (sz:=1) rfl (F.at rfl) (F.at rfl) Qy.underlying88 (by kernel_rfl) (by omega) (by omega)) (λ_=>eT) λfa F=>?_;refine F.xr (i:=6) rfl (λw' hS=>ZH rfl (F.at rfl) Qy.underlying3 rfl (Z2M (hS.keep q11_ (by simp)) (k:=i) rfl (by omega))) (λ_=>eT) λfa F=>?_;refine F.x (i:=7) rfl (λw'=>Zh5 rfl (F.at rfl) (F.at rfl) (by omega) (by omega)) (λ_=>eT) λfa F=>?_;refine F.x (i:=8) rfl (λw'=>Z25 (n:=4) (sz:=1) rfl (F.at rfl) (F.at rfl) Qy.underlying88 (by kernel_rfl) (by omega) (by omega)) (λ_=>eT) λfa F=>?_;refine ZN (i:=9) (by kernel_rfl) (ZdB rfl rfl rfl (Z05 rfl (F.at rfl) (F.at rfl) rfl (by kernel_rfl) (Z2M q14 (k:=i) rfl (by omega)) (Zd q14 _)) ?_);intro w20 hw;replace q6:=kce hw q6;replace q7:=kce hw q7;replace q9:=kce hw q9;replace q10:=kce hw q10;replace q11:=kce hw q11;replace q12:=kce hw q12;replace q13:=kce hw q13;replace q14:=Z9t hw q14 (k:=i) rfl (by omega);replace E:=ece E hw;replace ER:=ece ER hw;clear hw;refine⟨gone (by kernel_rfl),?_⟩;rw[hmg,Zkf]at q14;refine Z6F (by kernel_rfl) ?_ _;clear eT q6_ q7_ q9_ q10_ q11_ q12_ q13_ q14_ E_ ER_;refine hK18 _ _ ?_;refine wpIn_seq_k λK19 hK19=>?_;refine Zl rfl (λh=>by obtain⟨_,_,h⟩:=h;exact h) ?_;refine F.mv λfa F=>?_;refine F.vl (Z25 (n:=4) (sz:=1) rfl (F.at rfl) (F.at rfl) Qy.underlying88 (by kernel_rfl) (by omega) (by omega)) λfa F=>?_;refine F.vl (ZH rfl (F.at rfl) Qy.underlying3 rfl (Z2M q14 (k:=i) rfl (by omega))) λfa F=>?_;rw[show mrF t q (i+1) i=mrG t q i by simp[mrF]]at F;refine F.vl (Z52 rfl (F.at rfl) (ev_c fa _)) λfa F=>?_;refine wN<|hK19 _ _ ?_
   refine Zgm F rfl (λhc45=>?_) (λhc45=>?_)
   ·skip
    have hcb:corB x t (val s) ls q=false:=Zht (k:=i) (by omega) hc45;refine wpIn_exit ?_
    try (rw[show i=4 by omega,Zdp]at q14;have hge4:∀j,j<4->0<=mrG t q j:=λj hj=>hge j (by omega))
    (try simp only[Exit.inBlock,reduceIte])
    show KeepsFrom _ _ _/\KeepR _ _ _ _/\_;rw[<-hw3];refine⟨Z0y ER (by intro b hb;simp only[Yc,Ya,or_false]at hb;subst hb;exact .inl (by rw[hw3];exact b12)),Z0Q ER (by intro k cs T fz hk hsf hm;simp only[Yc,Ya,or_false]at hm;exact hsf.2.1 hm) (.inl ((Z1X q12).trans hro.symm)),?_⟩;have hsw:w3.heap.size<=w20.heap.size:=(by rw[hw3];exact Yd hsz0 ER.size);show CorI _ _ _ _ _ _ _ _ _ _ _ _ (corO x t (val s) ls (pre++[q])) _
    first | exact⟨q6,q7,q9,q10,q11,q12,E,hsw⟩ | (rw[Z1P hcb];exact⟨q6,q7,q9,q10,q11,q12,E,hsw⟩) | (rw[Z1P (hco.trans hc51)];exact⟨q6,q7,q9,q10,q11,q12,E,hsw⟩)
   ·skip
    refine wpIn_skip ?_;refine hK16 _ _ ?_;refine Zl rfl (λh=>by obtain⟨_,_,h⟩:=h;exact h) ?_;refine F.vl (Z5O rfl (F.at rfl) (ev_c fa _) (by omega) (by omega)) λfa F=>?_;refine F.mv λfa F=>?_;refine wpList_nil ?_;show _/\_;exact⟨by omega,_,⟨rfl,E,ER,q6,q7,q9,q10,q11,q12,q13,q14,(λj h=>by rcases Nat.lt_succ_iff_lt_or_eq.1 h with h | rfl;(· exact hge j h);(· omega))⟩,F.sub (.c 30 rfl (.c 6 rfl (.c 7 rfl (.c 10 rfl (.c 11 rfl (.c 12 rfl (.c 13 rfl (.c 14 rfl .n))))))))⟩
  ·skip
   refine wpIn_exit ?_
   try (rw[show i=4 by omega,Zdp]at q14;have hge4:∀j,j<4->0<=mrG t q j:=λj hj=>hge j (by omega))
   refine hK12 _ _ ?_;refine wpIn_seq_k λK20 hK20=>?_;refine Zl rfl (λh=>by obtain⟨_,_,h⟩:=h;exact h) ?_;refine F.vl (Zc rfl (F.at rfl) Qy.underlying85 rfl (by kernel_rfl) q10) λfa F=>?_;refine F.vl (Zc rfl (F.at rfl) Qy.underlying88 rfl (by kernel_rfl) q13) λfa F=>?_;refine F.vl (ZH rfl (F.at rfl) Qy.underlying22 rfl ((Z1 q6 0).trans (get0))) λfa F=>?_;refine F.vl (ZH rfl (F.at rfl) Qy.underlying22 rfl ((Z1 q7 0).trans (get0))) λfa F=>?_;refine sqC F (Za rfl rfl Qy.call80 (mpS (F.at rfl) (mpS (F.at rfl) (mpS (F.at rfl) (mpS (F.at rfl) mp0))))) (Z7h x HV.out (val q) hqs s HS.out ls HL.out.2.1 hll sa la sc lc _ (HX.out.ext E) (HR.out.ext E (by simp)) (HQ.out.ext E (by simp))) λe w21 hR=>?_;obtain⟨rfl,e9⟩:=hR;refine⟨_,rfl,λfa F=>?_⟩;replace q6:=(e9).keep0 q6;replace q7:=(e9).keep0 q7;replace q9:=(e9).keep0 q9;replace q10:=(e9).keep0 q10;replace q11:=(e9).keep0 q11;replace q12:=(e9).keep0 q12;replace q13:=(e9).keep0 q13;replace q14:=(e9).keep0 q14;replace E:=Z4 E (e9);replace ER:=Z4 ER (e9);clear e9;refine wpList_nil ?_;have hco:=Zjy (x:=x) (s:=val s) (ls:=ls) hge4;refine hK20 _ _ ?_;refine Zjv F rfl (λhc51=>?_) (λhc51=>?_)
   ·skip
    refine Z8m (Ext [n12] w21) none follows rfl (λh=>by obtain⟨_,_,h⟩:=h;exact h) λw22 hh eh=>?_;have q6_:=q6;replace q6:=Zt hh q6;have q7_:=q7;replace q7:=Zt hh q7;have q9_:=q9;replace q9:=Zt hh q9;have q10_:=q10;replace q10:=Zt hh q10;have q11_:=q11;replace q11:=Zt hh q11;have q12_:=q12;replace q12:=Zt hh q12;have q13_:=q13;replace q13:=Zt hh q13;have q14_:=q14;replace q14:=Zt hh q14;have E_:=E;have zEw22:=E.size;replace E:=Z4 E eh;have ER_:=ER;have zERw22:=ER.size;replace ER:=Z4 ER eh;have eT:=eh.mono (Y:=[n12]) (by simp);clear hh eh;refine F.xr (i:=0) rfl (λw' hS=>Zc rfl (F.at rfl) Qy.underlying88 rfl (by kernel_rfl) (hS.keep q14_ (by simp;omega))) (λ_=>eT) λfa F=>?_;refine F.xr (i:=1) rfl (λw' hS=>Zc rfl (F.at rfl) Qy.underlying88 rfl (by kernel_rfl) (hS.keep q14_ (by simp;omega))) (λ_=>eT) λfa F=>?_;have hmb:∀k,k<4->0<=mrG t q k/\mrG t q k<=1000:=λk hk=>⟨hge4 k hk,by have:=hqs k hk;have:=HTS.out k hk;rw[mrG];omega⟩;refine ZN (i:=2) (by kernel_rfl) (Z0C F rfl rfl (by decide) rfl (Za rfl rfl Qy.call83 (mpS (F.at rfl) mp0)) (Z0b (mrG t q) hmb _) λe w23 hR=>?_);obtain⟨rfl,e9⟩:=hR;refine⟨_,rfl,λfa F=>?_⟩;replace q6:=(e9).keep0 q6;replace q7:=(e9).keep0 q7;replace q9:=(e9).keep0 q9;replace q10:=(e9).keep0 q10;replace q11:=(e9).keep0 q11;replace q12:=(e9).keep0 q12;replace q13:=(e9).keep0 q13;replace q14:=(e9).keep0 q14;replace E:=Z4 E (e9);replace ER:=Z4 ER (e9);replace eT:=Z4 eT (e9);clear e9;refine⟨λ_=>eT,?_⟩;refine F.x (i:=3) rfl (λw'=>Z9N rfl (prS (F.at rfl) pr0) (cells:=#[.int .i64 (prt (mrG t q)),.int .i64 0]) (by kernel_rfl)) (λ_=>eT) λfa F=>?_;refine ZN (i:=4) (by kernel_rfl) (Z0C F rfl rfl (by decide) rfl (Za rfl rfl Qy.call109 (mpS (F.at rfl) (mpS (F.at rfl) (mpS (F.at rfl) mp0)))) (Z8j (mrG t) (mrC t) n12 (corO x t (val s) ls pre) q _ q12) λe w24 hR=>?_);obtain⟨rfl,q12',e9⟩:=hR;refine⟨_,rfl,λfa F=>?_⟩;replace q6:=(e9).keep q6 (by simp;omega);replace q7:=(e9).keep q7 (by simp;omega);replace q9:=(e9).keep q9 (by simp;omega);replace q10:=(e9).keep q10 (by simp;omega);replace q11:=(e9).keep q11 (by simp;omega);replace q13:=(e9).keep q13 (by simp;omega);replace q14:=(e9).keep q14 (by simp;omega);replace E:=E.trans' e9 (λi hi hl=>by simp only[Yc,Ya,or_false]at hi⊢;omega);replace ER:=ER.trans' e9 (λi hi hl=>by simp only[Yc,Ya,or_false]at hi⊢;omega);replace eT:=eT.trans' e9 (λi hi hl=>by simp only[Yc,Ya,or_false]at hi⊢;omega);refine⟨λ_=>eT,?_⟩;rw[<-Zcs (hco.trans hc51)]at q12';replace q12:=q12';clear q12';refine Z6F (by kernel_rfl) ?_ _;clear eT q6_ q7_ q9_ q10_ q11_ q12_ q13_ q14_ E_ ER_
    (try simp only[Exit.inBlock,reduceIte])
    show KeepsFrom _ _ _/\KeepR _ _ _ _/\_;rw[<-hw3];refine⟨Z0y ER (by intro b hb;simp only[Yc,Ya,or_false]at hb;subst hb;exact .inl (by rw[hw3];exact b12)),Z0Q ER (by intro k cs T fz hk hsf hm;simp only[Yc,Ya,or_false]at hm;exact hsf.2.1 hm) (.inl ((Z1X q12).trans hro.symm)),?_⟩;have hsw:w3.heap.size<=w24.heap.size:=(by rw[hw3];exact Yd hsz0 ER.size);show CorI _ _ _ _ _ _ _ _ _ _ _ _ (corO x t (val s) ls (pre++[q])) _
    first | exact⟨q6,q7,q9,q10,q11,q12,E,hsw⟩ | (rw[Z1P hcb];exact⟨q6,q7,q9,q10,q11,q12,E,hsw⟩) | (rw[Z1P (hco.trans hc51)];exact⟨q6,q7,q9,q10,q11,q12,E,hsw⟩)
   ·skip
    refine wpIn_skip ?_
    (try simp only[Exit.inBlock,reduceIte])
    show KeepsFrom _ _ _/\KeepR _ _ _ _/\_;rw[<-hw3];refine⟨Z0y ER (by intro b hb;simp only[Yc,Ya,or_false]at hb;subst hb;exact .inl (by rw[hw3];exact b12)),Z0Q ER (by intro k cs T fz hk hsf hm;simp only[Yc,Ya,or_false]at hm;exact hsf.2.1 hm) (.inl ((Z1X q12).trans hro.symm)),?_⟩;have hsw:w3.heap.size<=w21.heap.size:=(by rw[hw3];exact Yd hsz0 ER.size);show CorI _ _ _ _ _ _ _ _ _ _ _ _ (corO x t (val s) ls (pre++[q])) _
    first | exact⟨q6,q7,q9,q10,q11,q12,E,hsw⟩ | (rw[Z1P hcb];exact⟨q6,q7,q9,q10,q11,q12,E,hsw⟩) | (rw[Z1P (hco.trans hc51)];exact⟨q6,q7,q9,q10,q11,q12,E,hsw⟩)
 case done =>
  clear q6 q7 q9 q10 q11 q12 qb E hI0;rintro D W hD ⟨q6,q7,q9,q10,q11,q12,E,hsz⟩ qD;replace F:=F.mark (d:={target:=.collected D,args:=#[]});refine hK9 _ _<|wS λK21 hK21=>wS λK22 hK22=>?_
  by_cases hN:corO x t (val s) ls (recL x.D.length)=none
  ·skip
   replace q12:W.heap[n12]?=some (.cells #[.int .i64 (zf 0),.int .i64 (zf 1),.int .i64 (zf 2),.int .i64 (zf 3),.int .i64 0,.int .i64 0,.bool false] 129 (0,0)):=by rw[hN]at q12;exact q12
   refine Yg ?_;refine F.vl (ZO rfl (F.at rfl) Qy.underlying129 rfl (n:=6) (sz:=1) rfl (by kernel_rfl) (by decide)) λfa F=>?_;refine F.vl (ZH rfl (F.at rfl) Qy.underlying4 rfl ((Z1 q12 6).trans (getS (getS (getS (getS (getS (getS (get0))))))))) λfa F=>?_;refine F.vl (Zb4 rfl (F.at rfl)) λfa F=>?_;refine wN<|hK22 _ _ ?_
   refine cd_T F rfl ?_;refine wS λK23 hK23=>?_;refine Yg ?_;refine F.vl (ZC rfl (ev_c fa _)) λfa F=>?_;refine Z0T rfl rfl (Z05 rfl (F.at rfl) (ev_c fa _) rfl (by kernel_rfl) ((Z1 q9 0).trans (get0)) (Zd q9 0)) ?_;intro w25 hw;replace q6:=kce hw q6;replace q7:=kce hw q7;replace q9:=ZG hw q9 (by simp only[List.setIfInBounds_toArray,lsQ,lzQ];exact rfl);replace q10:=kce hw q10;replace q11:=kce hw q11;replace q12:=kce hw q12;replace qD:=kce hw qD;replace E:=ece E hw;clear hw;refine wN<|hK23 _ _ ?_
   refine wp_ret ?_
   (try simp only[Exit.inBlock,Exit.then,reduceIte])
   refine Z3O F ?_;refine Z9g qD λw26 hw=>?_;replace q6:=ZE hw qD rfl q6;replace q7:=ZE hw qD rfl q7;replace q9:=ZE hw qD rfl q9;replace q10:=ZE hw qD rfl q10;replace q11:=ZE hw qD rfl q11;replace q12:=ZE hw qD rfl q12;replace E:=Z78 E hw (by omega);clear hw qD;refine ZY ?_;refine Z0R (Z4w F rfl rfl rfl Qy.underlying30 rfl q9) ?_;rw[corR,hN];exact⟨none,0,rfl,World.ownsRow_nil _ _ _ _,E⟩
  ·skip
   obtain⟨q,hq⟩:=Option.ne_none_iff_exists'.1 hN;replace q12:W.heap[n12]?=some (.cells #[.int .i64 (mrG t q 0),.int .i64 (mrG t q 1),.int .i64 (mrG t q 2),.int .i64 (mrG t q 3),.int .i64 (mrC t q).1,.int .i64 (mrC t q).2,.bool true] 129 (0,0)):=by rw[hq]at q12;exact q12
   refine Yg ?_;refine F.vl (ZO rfl (F.at rfl) Qy.underlying129 rfl (n:=6) (sz:=1) rfl (by kernel_rfl) (by decide)) λfa F=>?_;refine F.vl (ZH rfl (F.at rfl) Qy.underlying4 rfl ((Z1 q12 6).trans (getS (getS (getS (getS (getS (getS (get0))))))))) λfa F=>?_;refine F.vl (Zb4 rfl (F.at rfl)) λfa F=>?_;refine wN<|hK22 _ _ ?_
   refine cd_F F rfl ?_;refine Yi ?_;refine hK21 _ _<|wS λK24 hK24=>?_
   refine Yg ?_;refine F.vl (Zc rfl (F.at rfl) Qy.underlying85 rfl (by kernel_rfl) q10) λfa F=>?_;refine F.vl (ZO rfl (F.at rfl) Qy.underlying129 rfl (n:=0) (sz:=4) rfl (by kernel_rfl) (by decide)) λfa F=>?_;refine F.vl (Z51 rfl (F.at rfl) Qy.underlying88 rfl (by kernel_rfl) (Z6h (n:=4) q12 rfl (midS (get0) (midS (getS (get0)) (midS (getS (getS (get0))) (midS (getS (getS (getS (get0)))) mid0)))))) λfa F=>?_;have hEs:=E.size;refine sqC F (Za rfl rfl Qy.call108 (mpS (F.at rfl) (mpS (F.at rfl) mp0))) (Zct x HV.out (mrG t q) _) λe w27 hR=>?_;obtain⟨ca,cc,rfl,oo,e9⟩:=hR;refine⟨_,rfl,λfa F=>?_⟩;replace q6:=(e9).keep0 q6;replace q7:=(e9).keep0 q7;replace q9:=(e9).keep0 q9;replace q10:=(e9).keep0 q10;replace q11:=(e9).keep0 q11;replace q12:=(e9).keep0 q12;replace qD:=(e9).keep0 qD;replace E:=Z4 E (e9);clear e9;replace oo:=Z0v oo hEs;refine F.as λfa F=>?_;refine Z0T rfl rfl (Z05 rfl (F.at rfl) (ev_c fa _) rfl (by kernel_rfl) ((Z1 q9 0).trans (get0)) (Zd q9 0)) ?_;intro w28 hw;replace oo:=Z17 hw oo (Z0a oo q9 (by decide));replace q6:=kce hw q6;replace q7:=kce hw q7;replace q9:=ZG hw q9 (by simp only[List.setIfInBounds_toArray,lsQ,lzQ];exact rfl);replace q10:=kce hw q10;replace q11:=kce hw q11;replace q12:=kce hw q12;replace qD:=kce hw qD;replace E:=ece E hw;clear hw;refine wN<|hK24 _ _ ?_
   refine wp_ret ?_
   (try simp only[Exit.inBlock,Exit.then,reduceIte])
   refine Z3O F ?_;refine Z9g qD λw29 hw=>?_;replace oo:=Zaw hw qD rfl oo;replace q6:=ZE hw qD rfl q6;replace q7:=ZE hw qD rfl q7;replace q9:=ZE hw qD rfl q9;replace q10:=ZE hw qD rfl q10;replace q11:=ZE hw qD rfl q11;replace q12:=ZE hw qD rfl q12;replace E:=Z78 E hw (by omega);clear hw qD;refine ZY ?_;refine Z0R (Z4w F rfl rfl rfl Qy.underlying30 rfl q9) ?_;rw[corR,hq];refine⟨ca,cc,?_,?_,E⟩
   ·simp only[Z4H]
   ·simp only[Z4H];exact oo
end
section
open Go.RowKit
variable{μ:Nat}
section
variable(c:Int->Int->Int)
def swp(l:List Int)(j:Nat):List Int:=(l.set (j+1) (l.getD j 0)).set j (l.getD (j+1) 0)
def bubL:List Int->Nat->List Int
 | l,0=>l
 | l,j+1=>if c (l.getD (j+1) 0) (l.getD j 0)<0 then bubL (swp l j) j else l
def srtK(l:List Int):Nat->List Int
 | 0=>l
 | k+1=>bubL c (srtK l k) (k+1)
def srtL(l:List Int):List Int:=srtK c l (l.length-1)
theorem Z9D(l:List Int)(j:Nat):(swp l j).length=l.length:=by simp[swp]
theorem Zec(h:j+1<l.length){p:Int->Prop}(hp:∀n∈l,p n): ∀n∈swp l j,p n:=by
 intro n hn
 rcases List.mem_or_eq_of_mem_set hn with hn | rfl
 ·rcases List.mem_or_eq_of_mem_set hn with hn | rfl
  ·exact hp n hn
  ·exact hp _ (Zb 0 (by omega))
 ·exact hp _ (Zb 0 h)
theorem Zcc:∀(j:Nat) (l:List Int),(bubL c l j).length=l.length
 | 0,_=>rfl
 | j+1,l=>by
  rw[bubL]
  split
  ·rw[Zcc j,Z9D]
  ·rfl
theorem Zcd{p:Int->Prop}:∀(j:Nat) (l:List Int),j<l.length->(∀n∈l,p n)->∀n∈bubL c l j,p n
 | 0,_,_,h=>h
 | j+1,l,hj,h=>by
  rw[bubL]
  split
  ·exact Zcd j _ (by rw[Z9D];omega) (Zec hj h)
  ·exact h
theorem Z7D(l:List Int):∀k,(srtK c l k).length=l.length
 | 0=>rfl
 | k+1=>by rw[srtK,Zcc,Z7D l k]
theorem Ze6{p:Int->Prop}(l:List Int)(h:∀n∈l,p n):∀k,k<l.length->∀n∈srtK c l k,p n
 | 0,_=>h
 | k+1,hk=>by rw[srtK];exact Zcd c _ _ (by rw[Z7D];exact hk) (Ze6 l h k (by omega))
theorem ZeD(h:¬c (l.getD (j+1) 0) (l.getD j 0)<0): bubL c l (j+1)=l:=by rw[bubL,if_neg h]
theorem Zjq(h:c (l.getD (j+1) 0) (l.getD j 0)<0): bubL c l (j+1)=bubL c (swp l j) j:=by rw[bubL,if_pos h]
end
theorem Zd6(f:FuncId)(cs:Array Value)(c:Int->Int->Int)(p:Int->Prop)(base r n:Nat)(a:Option Addr)(ca:Nat)(l:List Int)(w:World)(hn:l.length=n)(h1:n<=1000)(hp:∀m∈l,p m)(ho:w.ownsRow base 3 1 (.slice a n ca) n (ivs l))(hr:∀b,(Value.slice a n ca).ownBlock=some b->b=r)
  (hf:∀args w,(callFunc f args).run (Qy.prog μ) w = .ok (.enter f args) w) (hc:∀W,Ext [r] w W->∀m k,p m->p k->Calls (Qy.prog μ) f (#[]++[Value.int .i64 m,Value.int .i64 k].toArray++cs) W λe W'=>e = .returned (.int .i64 (c m k))/\Ext [] W W') :
  Calls (Qy.prog μ) 148 #[.slice a n ca,.int .i64 0,.int .i64 ((n:Nat):Int),.func (.func f) #[] cs] w λe w'=>e = .returned (.tuple #[])/\w'.ownsRow base 3 1 (.slice a n ca) n (ivs (srtL c l))/\Ext [r] w w':=by
 have E:Ext [r] w w:=Ext.refl _ _;have HC:=Lib.hid hc;have HF:=Lib.hid hf;have HP:=Lib.hid hp;have HR:=Lib.hid hr;replace ho:w.ownsRow base 3 1 (.slice a n ca) n (ivs (srtK c l 0)):=ho;clear hc hf hp hr;have G:=(Bk.nil w).ce E;replace G:=G.co ho;refine(ent 53 Tryz.f148 rfl) λF=>wR λk1=>(F.m) λF=>(F.y F.ad) λF=>?_;rw[show (0:Int)+1=((0+1:Nat):Int) from rfl]at F;refine(F.m) λF=>k1<|Yh<|lpB (F.b [0,1,2,3]) (G.b [1]) (n) (λi Lv Sv W=>Lv=[(8,.int .i64 ((i+1:Nat):Int))]/\Sv=[]/\W.ownsRow base 3 1 (.slice a n ca) n (ivs (srtK c l i))/\(i<n\/(i=0/\n=0))) ⟨_,_,F.u,G.u,rfl,rfl,(G.o 0),(by omega)⟩ ?_
 clear F G;rintro i _ w1 _ _ hi1 ⟨rfl,rfl,ho,hin⟩ F G;replace G:=(G.z).co ho;refine wQ λk2=>wR λk3=>(F.m) λF=>(F.m) λF=>(F.y F.ls) λF=>k3<|F.ci (λhc14=>?_) (λhc14=>?_)
 ·refine Yi<|k2<|wQ λk4=>Yh<|wR λk5=>(F.m) λF=>(F.m) λF=>k5<|Yh<|lpB (F.b [0,1,2,3,8]) (G.b [1]) (i+1) (λk Lv Sv W=>∃j:Nat,∃l2:List Int,Lv=[(9,.int .i64 ((j:Nat):Int))]/\Sv=[]/\W.ownsRow base 3 1 (.slice a n ca) n (ivs l2)/\j+k=i+1/\l2.length=n/\bubL c l2 j=srtK c l (i+1)/\∀m∈l2,p m) ⟨_,_,F.u,G.u,_,_,rfl,rfl,(G.o 0),(by omega),(by rw[Z7D];exact hn),rfl,(Ze6 c l HP.out i (by omega))⟩ ?_
  clear F G;rintro k _ w2 _ _ hi2 ⟨j,l2,rfl,rfl,ho,hjk,hl2,hb2,hm2⟩ F G;replace G:=(G.z).co ho;refine wQ λk6=>wQ λk7=>?_
  by_cases hj0:j=0
  ·subst hj0
   refine(wX 14 G) λG=>(F.sm) λF=>(F.sm) λF=>(F.s F.gtF) λF=>(F.sm) λF=>(F.sn) λF=>(F.sn) λF=>(F.sn) λF=>(F.sn) λF=>(F.sn) λF=>(F.sn) λF=>(F.sn) λF=>(F.sn) λF=>(F.sn) λF=>(F.sn) λF=>wpStill_nil ?_;refine(F.n) λF=>(F.n) λF=>(F.y F.pF) λF=>?_;have ho:=G.o 0;rw[show l2=srtK c l (i+1) from hb2]at ho;replace G:=G.rO 0 ho;clear ho;refine k7<|(F.cF)<|wp_exit<|k4<|Yg<|(F.m) λF=>(F.y F.ad) λF=>?_
   rw[show ((i+1:Nat):Int)+1=((i+1+1:Nat):Int) from rfl]at F;refine(F.m) λF=>?_;show _/\_;exact⟨by omega,_,_,F.u,G.u,rfl,rfl,(G.o 0),(by omega)⟩
  ·obtain⟨j,rfl⟩:∃j',j=j'+1:=⟨j-1,by omega⟩
   have ho:=G.o 0;have HS:=Lib.hid (Z02 ho hl2.symm [] (by simp));replace G:=G.hr [];refine(wX 14 G) λG=>(F.sm) λF=>(F.sm) λF=>(F.s F.gtT) λF=>(F.sm) λF=>(F.sm) λF=>(F.sm) λF=>(F.sm) λF=>(F.sx HS.out (j+1)) λxr8 F=>(F.s (F.l1 (xr8 _ (G.e 0)) 0)) λF=>(F.sm) λF=>(F.sm) λF=>(F.s F.sb) λF=>?_;rw[show ((j+1:Nat):Int)-1=((j:Nat):Int) by omega]at F;refine(F.sx HS.out j) λxr9 F=>(F.s (F.l1 (xr9 _ (G.e 0)) 0)) λF=>wpStill_nil ?_;refine(F.kr (Z38 rfl (F.at rfl) HF.out (mpS (F.at rfl) (mpS (F.at rfl) mp0)) rfl) (HC.out _ (G.e 2) (l2.getD (j+1) 0) (l2.getD j 0) (hm2 _ (Zb 0 (by omega))) (hm2 _ (Zb 0 (by omega))))) ?_;rintro _ w5 ⟨rfl,e9⟩;refine⟨_,rfl,λF=>?_⟩;replace G:=G.ex e9;refine(F.y F.ls) λF=>(F.y F.pT) λF=>k7<|F.ci (λhc34=>?_) (λhc34=>?_)
   ·refine Yi<|k6<|wQ λk10=>Yh ?_
    have ho:=G.o 1;have HS:=Lib.hid (Z02 ho hl2.symm [] (by simp));have hil:=Z2a l2;replace G:=(G.d 0).hr [];have G2:=G;refine(wD [] (some 15) G) λG=>(F.z 0 (G.t 0) F.mo) λF=>(F.z 1 (G.t 0) F.mo) λF=>(F.z 2 (G.t 0) F.mo) λF=>(F.z 3 (G.t 0) F.mo) λF=>(F.z 4 (G.t 0) F.sb) λF=>?_;rw[show ((j+1:Nat):Int)-1=((j:Nat):Int) by omega]at F;refine(F.z 5 (G.t 0) F.mo) λF=>(F.z 6 (G.t 0) F.mo) λF=>(F.z 7 (G.t 0) F.sb) λF=>?_;rw[show ((j+1:Nat):Int)-1=((j:Nat):Int) by omega]at F;obtain⟨xb11,xo11,xa11,xr11⟩:=HS.out j (by omega);refine(F.z 8 (G.t 0) (F.is 1 xa11)) λF=>(F.zr 9 (G.t 0) λhS=>F.l1 (xr11 _ ((G2.e 0).nil hS)) 0) λF=>(F.z 10 (G.t 0) F.mo) λF=>(F.z 11 (G.t 0) F.mo) λF=>?_;obtain⟨xb12,xo12,xa12,xr12⟩:=HS.out (j+1) (by omega);refine(F.z 12 (G.t 0) (F.is 1 xa12)) λF=>(F.zr 13 (G.t 0) λhS=>F.l1 (xr12 _ ((G2.e 0).nil hS)) 0) λF=>?_;obtain⟨xb13,xo13,xa13,xr13⟩:=HS.out (j+1) (by omega);refine(F.z 14 (G.t 0) (F.is 1 xa13)) λF=>?_;replace G:=(G.d 1).d 0;obtain⟨⟨u0,hcu⟩,hfu,hst⟩:=Z3k (G.o 0) xa13 (j:=(j+1)) (p:=xo13+((j+1:Nat):Int).toNat*1) (by first | omega | (simp;omega)) (by omega);refine ZN (i:=15) (by kernel_rfl) (ZdB rfl rfl (F.want rfl) (Z05 rfl (F.at rfl) (F.at rfl) rfl (by kernel_rfl) hcu hfu) ?_);intro w7 hw;obtain⟨hown',hg⟩:=hst _ _ hw;have ho:=(G.o 0);have E:=G.e 1;replace G:=G.d 1;replace E:=Z1T E hg (λb hb hl=>by rw[HR.out b hb];simp);replace G:=(G.gr 0 hg hown').ce E;clear hst hcu hfu hw hg hown';refine .intro (gone (by kernel_rfl)) ?_;have ho:=G.o 1;rw[Z2b]at ho;have hil2:=Z2a (l2.set (j+1) (l2.getD j 0));rw[List.length_set]at hil2;replace G:=G.rO 1 ho;clear ho;obtain⟨xb14,xo14,xa14,xr14⟩:=HS.out j (by omega);refine(F.z 16 (gone (by kernel_rfl)) (F.is 1 xa14)) λF=>?_;obtain⟨⟨u0,hcu⟩,hfu,hst⟩:=Z3k (G.o 1) xa14 (j:=j) (p:=xo14+((j:Nat):Int).toNat*1) (by first | omega | (simp;omega)) (by omega);refine ZN (i:=17) (by kernel_rfl) (ZdB rfl rfl (F.want rfl) (Z05 rfl (F.at rfl) (F.at rfl) rfl (by kernel_rfl) hcu hfu) ?_);intro w8 hw;obtain⟨hown',hg⟩:=hst _ _ hw;have ho:=(G.o 1);have E:=G.e 0;replace G:=G.d 0;replace E:=Z1T E hg (λb hb hl=>by rw[HR.out b hb];simp);replace G:=(G.gr 0 hg hown').ce E;clear hst hcu hfu hw hg hown';refine .intro (gone (by kernel_rfl)) ?_;have ho:=G.o 1;rw[Z2b]at ho;replace ho:w8.ownsRow base 3 1 (.slice a n ca) n (ivs (swp l2 j)):=ho;replace G:=G.rO 1 ho;clear ho;refine(aD)<|k10<|Yg<|(F.m) λF=>(F.y F.sb) λF=>?_
    rw[show ((j+1:Nat):Int)-1=((j:Nat):Int) by omega]at F;refine(F.m) λF=>?_;show _/\_;exact⟨by omega,_,_,F.u,G.u,_,_,rfl,rfl,(G.o 1),(by omega),(by rw[Z9D];exact hl2),((Zjq c hc34).symm.trans hb2),(Zec (by omega) hm2)⟩
   ·have ho:=G.o 1
    rw[show l2=srtK c l (i+1) from(ZeD c hc34).symm.trans hb2]at ho;replace G:=G.rO 1 ho;clear ho;refine wp_exit<|k4<|Yg<|(F.m) λF=>(F.y F.ad) λF=>?_
    rw[show ((i+1:Nat):Int)+1=((i+1+1:Nat):Int) from rfl]at F;refine(F.m) λF=>?_;show _/\_;exact⟨by omega,_,_,F.u,G.u,rfl,rfl,(G.o 1),(by omega)⟩
 ·refine wp_exit ?_
  have ho:=G.o 0;rw[show i=l.length-1 by omega]at ho;replace G:=G.rO 0 ho;clear ho;refine(F.e0) ?_;have ho:=G.o 0;exact⟨rfl,ho,(G.e 1)⟩
variable{μ:Nat}
theorem Z8r{sz: Nat}{row:Nat->List Value}(h:SlAt [] w a sz n row)(e:Ext X w W)(hX:∀b∈X,w.heap.size<=b): SlAt [] W a sz n row:=λi hi=>by
 obtain⟨b,off,h1,h2⟩:=h i hi;refine⟨b,off,h1,λV e2 j v hv=>?_⟩;have h3:=h2 w (Ext.refl _ _) j v hv;have hb:b<w.heap.size:=by
  apply Classical.byContradiction;intro hn;rw[World.cell?]at h3;simp[Array.getElem?_eq_none (show w.heap.size<=b by omega)]at h3
 rw[(e.nil e2).cell (a:=⟨b,off+i*sz+j,none⟩) hb (λhm=>by have:=hX b hm;omega)];exact h3
theorem Z4v.extX(h:Z4v w v xs)(e:Ext X w w')(hX:∀b∈X,w.heap.size<=b): Z4v w' v xs:=by
 obtain⟨a,c,h1,h2⟩:=h;exact⟨a,c,h1,h2.ext e hX⟩
theorem Vm.At.extX{X:List Nat}{x:Vm}{w W:World}(h:x.At w)(e:Ext X w W)(hX:∀b∈X,w.heap.size<=b):x.At W:=
 ⟨⟨Z8r h.d.1 e hX,λp hp=>(h.d.2 p hp).extX e hX⟩,⟨Z8r h.l.1 e hX,λp hp=>(h.l.2 p hp).extX e hX⟩⟩
theorem ZbJ(f:FuncId)(cs:Array Value)(c:Int->Int->Int)(p:Int->Prop)(base r n:Nat)(a:Option Addr)(ca:Nat)(l:List Int)(w:World)(hn:l.length=n)(h1:n<20)(hp:∀m∈l,p m)(ho:w.ownsRow base 3 1 (.slice a n ca) n (ivs l))(hr:∀b,(Value.slice a n ca).ownBlock=some b->b=r)
  (hf:∀args w,(callFunc f args).run (Qy.prog μ) w = .ok (.enter f args) w) (hc:∀W,Ext [r] w W->∀m k,p m->p k->Calls (Qy.prog μ) f (#[]++[Value.int .i64 m,Value.int .i64 k].toArray++cs) W λe W'=>e = .returned (.int .i64 (c m k))/\Ext [] W W') :
  Calls (Qy.prog μ) 123 #[.slice a n ca,.int .i64 ((n:Nat):Int),.func (.func f) #[] cs] w λe w'=>e = .returned (.tuple #[])/\w'.ownsRow base 3 1 (.slice a n ca) n (ivs (srtL c l))/\Ext [r] w w':=by
 have E:Ext [r] w w:=Ext.refl _ _;have HC:=Lib.hid hc;have HF:=Lib.hid hf;have HP:=Lib.hid hp;have HR:=Lib.hid hr;clear hc hf hp hr;have G:=(Bk.nil w).ce E;replace G:=G.co ho;refine(ent 63 Tryz.f123 rfl) λF=>wR λk1=>(F.m) λF=>k1<|wR λk2=>(F.m) λF=>(F.m) λF=>(F.m) λF=>k2<|wQ λk3=>Yh<|lpC (F.b [0,1,2,6]) G (0) (λi=>[(7,.int .i64 0),(8,.int .i64 20)]) F.u λi hi1 F G=>wQ λk4=>wR λk5=>(F.m) λF=>(F.m) λF=>(F.y F.le) λF=>k5<|(F.JF)<|wp_exit<|k3<|wR λk6=>(F.m) λF=>(F.m) λF=>(F.m) λF=>(F.m) λF=>?_
 have ho:=G.o 0;replace G:=G.d 0;refine(F.k (Zd6 f cs c p base r n a ca l _ hn (by omega) HP.out ho HR.out HF.out (λW e=>HC.out W ((G.e 0).trans e)))) ?_;rintro _ w2 ⟨rfl,ho2,e9⟩;refine⟨_,rfl,λF=>?_⟩;replace G:=G.x e9;replace ho:=ho2;clear ho2 e9;replace G:=G.co ho;refine k6<|Yh<|lpC (F.b [0,1,2]) G (0) (λi=>[(6,.int .i64 20)]) F.u λi hi2 F G=>wQ λk7=>wR λk8=>(F.m) λF=>(F.m) λF=>(F.y F.ls) λF=>k8<|(F.JF)<|wp_exit<|(F.e0) ?_
 have ho:=G.o 0;exact⟨rfl,ho,(G.e 1)⟩
theorem ZdW(f:FuncId)(cs:Array Value)(c:Int->Int->Int)(p:Int->Prop)(base r n:Nat)(a:Option Addr)(ca:Nat)(l:List Int)(w:World)(hn:l.length=n)(h1:n<20)(hp:∀m∈l,p m)(ho:w.ownsRow base 3 1 (.slice a n ca) n (ivs l))(hr:∀b,(Value.slice a n ca).ownBlock=some b->b=r)
  (hf:∀args w,(callFunc f args).run (Qy.prog μ) w = .ok (.enter f args) w) (hc:∀W,Ext [r] w W->∀m k,p m->p k->Calls (Qy.prog μ) f (#[]++[Value.int .i64 m,Value.int .i64 k].toArray++cs) W λe W'=>e = .returned (.int .i64 (c m k))/\Ext [] W W') :
  Calls (Qy.prog μ) 99 #[.slice a n ca,.func (.func f) #[] cs] w λe w'=>e = .returned (.tuple #[])/\w'.ownsRow base 3 1 (.slice a n ca) n (ivs (srtL c l))/\Ext [r] w w':=by
 have E:Ext [r] w w:=Ext.refl _ _;have HC:=Lib.hid hc;have HF:=Lib.hid hf;have HP:=Lib.hid hp;have HR:=Lib.hid hr;clear hc hf hp hr;have G:=(Bk.nil w).ce E;replace G:=G.co ho;refine(ent 9 Tryz.f99 rfl) λF=>Yg<|(F.m) λF=>(F.m) λF=>(F.y F.ln) λF=>(F.m) λF=>?_
 have ho:=G.o 0;replace G:=G.d 0;refine(F.k (ZbJ f cs c p base r n a ca l _ hn h1 HP.out ho HR.out HF.out (λW e=>HC.out W ((G.e 0).trans e)))) ?_;rintro _ w1 ⟨rfl,ho2,e9⟩;refine⟨_,rfl,λF=>?_⟩;replace G:=G.x e9;replace ho:=ho2;clear ho2 e9;replace G:=G.co ho;refine(F.f0) ?_;have ho:=G.o 0;exact⟨rfl,ho,(G.e 1)⟩
def shdE(x:Vm)(T:List (List Int))(lp:Nat)(j k:Int):Int:=
 cmpE (prt (val (T.getD k.toNat []))*dotE (val (x.lamp lp)) (tnE x (val (T.getD j.toNat []))) x.B.toNat) (prt (val (T.getD j.toNat []))*dotE (val (x.lamp lp)) (tnE x (val (T.getD k.toNat []))) x.B.toNat)
theorem Zbv(x:Vm)(hv:VOk x)(T:List (List Int))(hT:∀t∈T,TubS (val t))(ma:Option Addr)(mc n9 n8 n4 lp:Nat)(j k:Int)(hj0:0<=j)(hj:j<T.length)(hk0:0<=k)(hk:k<T.length)(hl:lp<x.L.length)(w:World)(h:x.At w)
  (q8:w.heap[n8]?=some (.cells #[.int .i64 x.B,.slice x.da x.D.length x.dc,.slice x.la x.L.length x.lc,.int .i64 x.tol] 85 (0,0))) (q9:w.heap[n9]?=some (.cells #[.slice ma T.length mc] 93 (0,0))) (q4:w.heap[n4]?=some (.cells #[.int .i64 ((lp:Nat):Int)] 3 (0,0)))
  (hs:SlAt [] w ma 4 T.length (λi=>tubR (val (T.getD i [])))) (h6:T.length<=6) :
  Calls (Qy.prog μ) 100 #[.int .i64 j,.int .i64 k,.pointer (some ⟨n9,0,none⟩),.pointer (some ⟨n8,0,none⟩),.pointer (some ⟨n4,0,none⟩)] w λe w'=>e = .returned (.int .i64 (shdE x T lp j k))/\Ext [] w w':=by
 have E:Ext [] w w:=Ext.refl _ _;obtain⟨j,rfl⟩:=Int.eq_ofNat_of_zero_le hj0;obtain⟨k,rfl⟩:=Int.eq_ofNat_of_zero_le hk0;have HX:=Lib.hid h;have HV:=Lib.hid hv;have HT:=Lib.hid hT;have HS:=Lib.hid hs;have hb1:=hv.b1;have hb3:=hv.b3;obtain⟨bn,hbn⟩:∃bn:Nat,x.B=bn:=⟨x.B.toNat,by omega⟩;have hbn2:x.B.toNat=bn:=by omega
 have HF:RowKit.Hid (TubS (val (T.getD j []))):=Lib.hid (hT _ (Z1e [] (by omega)));have HG:RowKit.Hid (TubS (val (T.getD k []))):=Lib.hid (hT _ (Z1e [] (by omega)));obtain⟨f,hf⟩:∃f,f=val (T.getD j []):=⟨_,rfl⟩;obtain⟨g,hg⟩:∃g,g=val (T.getD k []):=⟨_,rfl⟩;have h1:=Z4k hv hl (λj=>ZbL hv HF.out j) (n:=bn) (by omega);have h2:=Z4k hv hl (λj=>ZbL hv HG.out j) (n:=bn) (by omega);have h3:=Z5r HF.out;have h4:=Z5r HG.out;have h5:=Z0V h4.1 h4.2 h1.1 h1.2 (C:=51840) (by omega);have h7:=Z0V h3.1 h3.2 h2.1 h2.2 (C:=51840) (by omega);have hal:shdE x T lp ((j:Nat):Int) ((k:Nat):Int)=cmpE (prt (val (T.getD k []))*dotE (val (x.lamp lp)) (tnE x (val (T.getD j []))) bn) (prt (val (T.getD j []))*dotE (val (x.lamp lp)) (tnE x (val (T.getD k []))) bn):=by rw[shdE,hbn2];rfl
 show Calls _ _ #[.int .i64 ((j:Nat):Int),.int .i64 ((k:Nat):Int),_,_,_] _ _;rw[hal];replace hj:j<T.length:=by omega
 replace hk:k<T.length:=by omega
 clear h hv hT hs hal hj0 hk0 hf hg f g;have G:=(Bk.nil w).ce E;replace G:=((G.cq q8).cq q9).cq q4;refine(ent 39 Tryz.f100 rfl) λF=>wR λk1=>(F.m) λF=>k1<|wQ λk2=>?_
 have G2:=G;refine(wD [] none G) λG=>(F.zr 0 (G.t 0) λhS=>F.lc (G2.k 1 hS)) λF=>(F.z 1 (G.t 0) F.mo) λF=>?_;obtain⟨xb3,xo3,xa3,xr3⟩:=HS.out k (by omega);refine(F.z 2 (G.t 0) (F.is 4 xa3)) λF=>(F.zr 3 (G.t 0) λhS=>F.lr (xr3 _ ((G2.e 3).nil hS))) λF=>(F.zr 5 (G.t 0) λhS=>F.lb (G2.k 2 hS)) λF=>(F.zr 6 (G.t 0) λhS=>F.lc (G2.k 0 hS)) λF=>(F.zr 7 (G.t 0) λhS=>F.lb (G2.k 2 hS)) λF=>(F.zr 8 (G.t 0) λhS=>F.lc (G2.k 1 hS)) λF=>(F.z 9 (G.t 0) F.mo) λF=>?_;obtain⟨xb4,xo4,xa4,xr4⟩:=HS.out j (by omega);refine(F.z 10 (G.t 0) (F.is 4 xa4)) λF=>(F.zr 11 (G.t 0) λhS=>F.lr (xr4 _ ((G2.e 3).nil hS))) λF=>(F.zr 15 (G.t 0) λhS=>F.lc (G2.k 1 hS)) λF=>(F.z 16 (G.t 0) F.mo) λF=>?_;obtain⟨xb5,xo5,xa5,xr5⟩:=HS.out j (by omega);refine(F.z 17 (G.t 0) (F.is 4 xa5)) λF=>(F.zr 18 (G.t 0) λhS=>F.lr (xr5 _ ((G2.e 3).nil hS))) λF=>(F.zr 20 (G.t 0) λhS=>F.lb (G2.k 2 hS)) λF=>(F.zr 21 (G.t 0) λhS=>F.lc (G2.k 0 hS)) λF=>(F.zr 22 (G.t 0) λhS=>F.lb (G2.k 2 hS)) λF=>(F.zr 23 (G.t 0) λhS=>F.lc (G2.k 1 hS)) λF=>(F.z 24 (G.t 0) F.mo) λF=>?_;obtain⟨xb6,xo6,xa6,xr6⟩:=HS.out k (by omega);refine(F.z 25 (G.t 0) (F.is 4 xa6)) λF=>(F.zr 26 (G.t 0) λhS=>F.lr (xr6 _ ((G2.e 3).nil hS))) λF=>(aO 4)<|(F.ok0 G (Z0b (val (T.getD k [])) HG.out.ok _)) λF G=>.intro (G.t 0)<|(aO 12)<|(F.ok (Z4f x HV.out bn hbn (val (T.getD j [])) HF.out _ (HX.out.ext (G.e 4)))) ?_
 rintro _ w3 ⟨a20,rfl,oo,e9⟩;refine⟨_,rfl,λF=>?_⟩;replace G:=G.ex e9;refine .intro (G.t 0) ?_;have hrw:=ZM (xs:=sumL x (val (T.getD j [])) bn) (row:=Z7) (by rw[<-Z1w,show (sumL x (val (T.getD j [])) bn).length=bn by simp[sumL]];exact oo) (λ_=>rfl);have hll:(sumL x (val (T.getD j [])) bn).length=bn:=by simp[sumL]
 have hwe:=Z2Z (μ:=μ) x HV.out lp hl (sumL x (val (T.getD j [])) bn) (by rw[hll];omega) (λn hn=>by have:=Z4e HV.out HF.out bn n hn;omega) a20 bn w3 (HX.out.ext (G.e 4)) (by rw[hll];exact hrw);rw[Z3y,hll]at hwe;refine(aO 13)<|(F.ok (hwe)) ?_
 rintro _ w4 ⟨rfl,e9⟩;refine⟨_,rfl,λF=>?_⟩;replace G:=G.ex e9;refine .intro (G.t 0) ?_;clear oo hrw hwe hll;refine(F.z 14 (G.t 0) F.ml) λF=>(aO 19)<|(F.ok0 G (Z0b (val (T.getD j [])) HF.out.ok _)) λF G=>.intro (G.t 0)<|(aO 27)<|(F.ok (Z4f x HV.out bn hbn (val (T.getD k [])) HG.out _ (HX.out.ext (G.e 4)))) ?_
 rintro _ w6 ⟨a28,rfl,oo,e9⟩;refine⟨_,rfl,λF=>?_⟩;replace G:=G.ex e9;refine .intro (G.t 0) ?_;have hrw:=ZM (xs:=sumL x (val (T.getD k [])) bn) (row:=Z7) (by rw[<-Z1w,show (sumL x (val (T.getD k [])) bn).length=bn by simp[sumL]];exact oo) (λ_=>rfl);have hll:(sumL x (val (T.getD k [])) bn).length=bn:=by simp[sumL]
 have hwe:=Z2Z (μ:=μ) x HV.out lp hl (sumL x (val (T.getD k [])) bn) (by rw[hll];omega) (λn hn=>by have:=Z4e HV.out HG.out bn n hn;omega) a28 bn w6 (HX.out.ext (G.e 4)) (by rw[hll];exact hrw);rw[Z3y,hll]at hwe;refine(aO 28)<|(F.ok (hwe)) ?_
 rintro _ w7 ⟨rfl,e9⟩;refine⟨_,rfl,λF=>?_⟩;replace G:=G.ex e9;refine .intro (G.t 0) ?_;clear oo hrw hwe hll;refine(F.z 29 (G.t 0) F.ml) λF=>(aO 30)<|(F.ok0 G (Zco _ _ _)) λF G=>.intro (G.t 0)<|(F.z 31 (G.t 0) F.mo) λF=>(aD)<|k2<|(F.r1) ?_
 exact⟨rfl,(G.e 4)⟩
variable{μ:Nat}
def nums(n:Nat):List Int:=(List.range n).map λi=>((i:Nat):Int)
theorem Zau(n:Nat):(nums n).length=n:=by simp[nums]
theorem Zdu(n:Nat):nums (n+1)=nums n++[((n:Nat):Int)]:=by simp[nums,List.range_succ]
theorem Zfo: ∀m∈nums n,0<=m/\m<n:=by
 intro m hm;simp only[nums,List.mem_map,List.mem_range]at hm;obtain⟨i,hi,rfl⟩:=hm;omega
def shaR(x:Vm)(lp:Nat)(T:List (List Int)):List Int:=srtL (shdE x T lp) (nums T.length)
theorem ZfV(c:Int->Int->Int)(l:List Int):(srtL c l).length=l.length:=by rw[srtL,Z7D]
theorem ZbU(x:Vm)(hv:VOk x)(lp:Nat)(hlp:lp<x.L.length)(S:List (Value×List Int))(hs:∀p∈S,RcpOk x p.2)(h6:S.length<=6)(a:Option Addr)(c:Nat)(w:World)(h:x.At w)(hl:Z0M w a S):
  Calls (Qy.prog μ) 41 #[.agg #[.int .i64 x.B,.slice x.da x.D.length x.dc,.slice x.la x.L.length x.lc,.int .i64 x.tol],.int .i64 ((lp:Nat):Int),.slice a S.length c] w (Z4B (shaR x lp (S.map (·.2)),0) w):=by
 have E:Ext [] w w:=Ext.refl _ _;have HX:=Lib.hid h;have HV:=Lib.hid hv;have HL:=Lib.hid hl;have HS:=Lib.hid hs;obtain⟨T,hT⟩:∃T,T=S.map (·.2):=⟨_,rfl⟩;have hTl:T.length=S.length:=by rw[hT,Yj]
 have HT:RowKit.Hid (∀t∈T,TubS (val t)):=Lib.hid (λt ht=>by
  rw[hT]at ht;obtain⟨p,hp,rfl⟩:=List.mem_map.1 ht;exact(hs p hp).tub)
 clear h hv hl hs;have G:=(Bk.nil w).ce E;refine(entM 33 Tryz.f41 rfl) λF=>wR λk1=>(F.bx G) λyy F G=>(F.bx G) @λn4 w2 _ yy F G=>(F.m) λF=>(F.al G Qy.zeroValue30) λyy F G=>k1<|wR λk2=>(F.df) λF=>k2<|wR λk3=>(F.y (F.lb (G.q 2))) λF=>(F.k0 G (ZZ x HV.out _ (HX.out.ext (G.e 3)))) λF G=>(F.al G Qy.zeroValue85) @λn8 w5 _ yy F G=>(F.sr G 0) λG=>k3<|wQ λk4=>Yg ?_
 refine(F.y (F.lb (G.q 0))) λF=>(F.y (F.lc (G.q 2))) λF=>(F.k0 G (Z99 x HV.out ((lp:Nat):Int) (by omega) (by omega) _)) λF G=>k4<|wR λk5=>(F.y (F.lb (G.q 0))) λF=>(F.m) λF=>(F.k (Z5H x HV.out S HS.out h6 a c _ (HL.out.ext (G.e 4)))) ?_
 rintro _ w8 ⟨ma,mc,rfl,om,e9⟩;refine⟨_,rfl,λF=>?_⟩;replace G:=G.ex e9;rw[<-hT,<-hTl]at om;rw[<-hTl]at F;have hrm:=Lib.hid (ZM (row:=λt:List Int=>tubR (val t)) om (λ_=>rfl));clear om;replace G:=G.hr [];refine(F.al G Qy.zeroValue93) @λn9 w9 _ yy F G=>(F.st G 0) @λw10 G=>k5<|wQ λk6=>wQ λk7=>?_
 have b4:=Z3 (G.q 4);have b7:=Z3 (G.q 3);have b8:=Z3 (G.q 2);have b9:=Z3 (G.q 0);have hww:=(G.e 6).size;have hwm:=(G.e 1).size;have oo:w10.ownsRow w10.heap.size 3 1 (.slice none 0 0) 0 (ivs (nums 0)):=World.ownsRow_nil _ _ _ _;replace G:=(G.hr []).co oo;refine Yg<|(F.y (F.lc (G.q 2))) λF=>(F.y F.ln) λF=>(F.m) λF=>k7<|Yh<|lpB (F.b [4,7,8,9,20]) (G.b [1,2,3,4,5,6,7,8]) (T.length) (λi Lv Sv W=>∃va:Option Addr,∃vc:Nat,Lv=[(6,.slice va i vc),(21,.int .i64 ((i:Nat):Int))]/\Sv=[]/\W.ownsRow w10.heap.size 3 1 (.slice va i vc) i (ivs (nums i))) ⟨_,_,F.u,G.u,none,0,rfl,rfl,(G.o 0)⟩ ?_
 clear F G;rintro i _ w11 _ _ hi1 ⟨va,vc,rfl,rfl,oo⟩ F G;replace G:=(G.z).co oo;refine wR λk8=>(F.y F.ls) λF=>k8<|wQ λk9=>F.ci (λhc22=>?_) (λhc22=>?_)
 ·refine Yi<|k9<|wQ λk10=>Yh<|wR λk11=>(F.m) λF=>(F.m) λF=>k11<|Yg<|(F.m) λF=>(F.m) λF=>(F.bs G 1 #[.int .i64 ((i:Nat):Int)] Qy.zeroValue3) λyy F G=>?_
  have hEs:=(G.e 2).size;refine ZK F rfl (by decide) (F.want rfl) (ZX rfl (w10.heap.size) (e:=3) (size:=1) (bytes:=8) Qy.underlying22 (by kernel_rfl) (by decide) (F.at rfl) (G.o 1) (F.at rfl) (G.q 0) rfl (by simp[Value.oneCell']) (by omega) (by omega) (by omega)) ?_;clear F;rintro _ v' w13 F ⟨hown',hg⟩;obtain⟨va27,vc27,rfl⟩:=Zw hown';replace G:=(G.d 0).gr 0 hg hown';clear hg hown';have oo:=G.o 0;rw[show ivs (nums i)++[.int .i64 ((i:Nat):Int)]=ivs (nums (i+1)) by rw[Zdu];simp[ivs]]at oo;replace G:=G.rO 0 oo;clear oo;refine(F.m) λF=>k10<|Yg<|(F.y F.ad) λF=>(F.m) λF=>?_
  show _/\_;exact⟨by omega,_,_,F.u,G.u,_,_,rfl,rfl,(G.o 0)⟩
 ·refine wp_exit ?_
  have oo:=G.o 0;rw[show i=T.length by omega]at oo F;replace G:=G.rO 0 oo;clear oo;refine k6<|wQ λk12=>?_
  obtain⟨r,hrr,hrd⟩:=ZdA (.slice va T.length vc) w11.heap.size;have oo:=G.o 0;have hrb:w10.heap.size<=r:=by rcases hrd with h | h;(· exact(oo.lt r h).1);(· rw[h];exact(G.e 1).size)
  refine Yg<|(F.m) λF=>(F.y F.mf) λF=>?_
  have hEM:Ext [] w8 w11:=(G.e 3);have oo:=G.o 0;replace G:=G.d 0;refine(F.k (ZdW 100 #[.pointer (some ⟨n9,0,none⟩),.pointer (some ⟨n8,0,none⟩),.pointer (some ⟨n4,0,none⟩)] (shdE x T lp) (λm=>0<=m/\m<T.length) w10.heap.size r T.length va vc (nums T.length) _ (Zau _) (by omega) Zfo oo hrr Qy.call100 (λW e m k hm hk=>Zbv x HV.out T HT.out ma mc n9 n8 n4 lp m k hm.1 hm.2 hk.1 hk.2 hlp W (HX.out.extX (((G.e 7).mono (Y:=[r]) (by simp)).trans e) (by simp;omega)) (e.keep (G.q 3) (by simp;omega)) (e.keep (G.q 1) (by simp;omega)) (e.keep (G.q 5) (by simp;omega)) (Zj (row:=λt:List Int=>tubR (val t)) (hrm.out.ext ((hEM.mono (Y:=[r]) (by simp)).trans e) (by simp;omega)) []) (by omega)))) ?_;rintro _ w14 ⟨rfl,oo2,e9⟩;refine⟨_,rfl,λF=>?_⟩;replace G:=G.x e9;replace oo:=oo2;clear oo2 e9;replace G:=G.co oo;refine k12<|wR λk13=>(F.m) λF=>(F.m) λF=>?_
  replace G:=(G.d 3).d 1;refine(F.st G 3) λG=>k13<|wp_ret ?_
  (try simp only[Exit.inBlock,Exit.then,reduceIte])
  refine Z3O F<|ZY<|Z0R (Z4w F rfl rfl rfl Qy.underlying30 rfl (G.q 3)) ?_
  rw[<-hT,show shaR x lp T=srtL (shdE x T lp) (nums T.length) from rfl];have hsl:(srtL (shdE x T lp) (nums T.length)).length=T.length:=by rw[ZfV,Zau]
  refine⟨va,vc,?_,?_,(G.e 6)⟩
  ·simp only[hsl]
  have oo:=G.o 0
  ·simp only[hsl];exact Z0v oo hww
variable{μ:Nat}
theorem ZfB(L:List (Value×List Int))(h:w.heap[b]?=some (.cells (L.map (·.1)).toArray T fz)): SlAt [] w (some ⟨b,0,none⟩) 1 L.length (λi=>[(L.getD i (.bool true,[])).1]):=λi hi =>
 ⟨b,0,λ_ _=>rfl,λW e j v hv=>by
  obtain rfl:j=0:=by
   rcases j with _ | j
   ·rfl
   ·simp at hv
  rw[Z1 (e.keep0 h)];simp only[List.getElem?_cons_zero,Y4]at hv;subst hv;simp[hi]⟩
theorem Z9d(L:List (Value×List Int))(h:w.heap[b]?=some (.cells (L.map (·.1)).toArray T fz))(hr:∀p∈L,Z4v w p.1 p.2): Z0M w (some ⟨b,0,none⟩) L:=⟨ZfB L h,hr⟩
theorem Z1F(xs:List Int)(h:w.heap[b]?=some (.cells (xs.map (Value.int .i64)).toArray T fz)): Z4v w (.slice (some ⟨b,0,none⟩) xs.length xs.length) xs:=⟨_,_,rfl,Z01 xs _ h⟩
def vatD:List (List Int):=[[9,0,0],[0,9,0],[0,0,9],[3,3,3]]
def vatL:List (List Int):=[[1,1,1],[3,1,0]]
structure IsVat(x:Vm):Prop where
 b:x.B=3
 t:x.tol=1
 d:x.D.map (·.2)=vatD
 l:x.L.map (·.2)=vatL
theorem Z4g(w:World):Calls (Qy.prog μ) 51 #[] w λe w'=>∃x:Vm,e = .returned (.agg #[.int .i64 x.B,.slice x.da x.D.length x.dc,.slice x.la x.L.length x.lc,.int .i64 x.tol])/\IsVat x/\x.At w'/\Ext [] w w':=by
 have E:Ext [] w w:=Ext.refl _ _;have G:=(Bk.nil w).ce E;refine(ent 10 Tryz.f51 rfl) λF=>wR λk1=>(F.al G Qy.zeroValue27) λyy F G=>k1<|wR λk2=>(F.bs G 1 #[.int .i64 9,.int .i64 0,.int .i64 0] Qy.zeroValue3) @λn1 w2 _ yy F G=>(F.bs G 1 #[.int .i64 0,.int .i64 9,.int .i64 0] Qy.zeroValue3) @λn2 w3 _ yy F G=>(F.bs G 1 #[.int .i64 0,.int .i64 0,.int .i64 9] Qy.zeroValue3) @λn3 w4 _ yy F G=>(F.bs G 1 #[.int .i64 3,.int .i64 3,.int .i64 3] Qy.zeroValue3) @λn4 w5 _ yy F G=>(F.bs G 1 #[.slice (some ⟨n1,0,none⟩) 3 3,.slice (some ⟨n2,0,none⟩) 3 3,.slice (some ⟨n3,0,none⟩) 3 3,.slice (some ⟨n4,0,none⟩) 3 3] Qy.zeroValue22) @λn5 w6 _ yy F G=>(F.bs G 1 #[.int .i64 1,.int .i64 1,.int .i64 1] Qy.zeroValue3) @λn6 w7 _ yy F G=>(F.bs G 1 #[.int .i64 3,.int .i64 1,.int .i64 0] Qy.zeroValue3) @λn7 w8 _ yy F G=>(F.bs G 1 #[.slice (some ⟨n6,0,none⟩) 3 3,.slice (some ⟨n7,0,none⟩) 3 3] Qy.zeroValue22) @λn8 w9 _ yy F G=>?_
 refine(F.y (F.bv #[.int .i64 3,.slice (some ⟨n5,0,none⟩) 4 4,.slice (some ⟨n8,0,none⟩) 2 2,.int .i64 1])) λF=>(F.sr G 8) λG=>k2 ?_;refine(F.rg (rs_c F rfl rfl Qy.underlying27 rfl (by kernel_rfl) (G.q 8))) ?_;refine⟨{B:=3,tol:=1,da:=some ⟨n5,0,none⟩,dc:=4,la:=some ⟨n8,0,none⟩,lc:=2,D:=[(.slice (some ⟨n1,0,none⟩) 3 3,[9,0,0]),(.slice (some ⟨n2,0,none⟩) 3 3,[0,9,0]),(.slice (some ⟨n3,0,none⟩) 3 3,[0,0,9]),(.slice (some ⟨n4,0,none⟩) 3 3,[3,3,3])],L:=[(.slice (some ⟨n6,0,none⟩) 3 3,[1,1,1]),(.slice (some ⟨n7,0,none⟩) 3 3,[3,1,0])]},rfl,⟨rfl,rfl,rfl,rfl⟩,⟨Z9d _ (G.q 3) ?_,Z9d _ (G.q 0) ?_⟩,(G.e 9)⟩
 ·intro p hp;simp only[Yc,Ya,or_false]at hp;rcases hp with rfl | rfl | rfl | rfl;(· exact Z1F [9,0,0] (G.q 7));(· exact Z1F [0,9,0] (G.q 6));(· exact Z1F [0,0,9] (G.q 5));(· exact Z1F [3,3,3] (G.q 4))
 ·intro p hp;simp only[Yc,Ya,or_false]at hp;rcases hp with rfl | rfl;(· exact Z1F [1,1,1] (G.q 2));(· exact Z1F [3,1,0] (G.q 1))
theorem Z9w(w:World):Calls (Qy.prog μ) 52 #[] w λe w'=>∃a,e = .returned (.slice a 3 3)/\Z8 w' (.slice a [(4:Int),3,2].length 3) 1 ([(4:Int),3,2].map Z7)/\Ext [] w w':=by
 have E:Ext [] w w:=Ext.refl _ _;have G:=(Bk.nil w).ce E;refine(ent 2 Tryz.f52 rfl) λF=>wR λk1=>(F.m) λF=>k1<|wR λk2=>(F.bs G 1 #[.int .i64 4,.int .i64 3,.int .i64 2] Qy.zeroValue3) λyy F G=>(F.m) λF=>k2<|(F.r1) ?_
 exact⟨_,rfl,Z01 [4,3,2] 3 (G.q 0),(G.e 1)⟩
def Z1a:List (List Int):=[[1,0,0,0],[0,1,0,0],[1,1,1,0],[0,0,0,1]]
theorem Z44(w:World):Calls (Qy.prog μ) 58 #[] w λe w'=>∃(a:Option Addr) (S:List (Value×List Int)),e = .returned (.slice a S.length 4)/\S.map (·.2)=Z1a/\Z0M w' a S/\Ext [] w w':=by
 have E:Ext [] w w:=Ext.refl _ _;have G:=(Bk.nil w).ce E;refine(ent 6 Tryz.f58 rfl) λF=>wR λk1=>(F.m) λF=>k1<|wR λk2=>(F.bs G 1 #[.int .i64 1,.int .i64 0,.int .i64 0,.int .i64 0] Qy.zeroValue3) @λn1 w1 _ yy F G=>(F.bs G 1 #[.int .i64 0,.int .i64 1,.int .i64 0,.int .i64 0] Qy.zeroValue3) @λn2 w2 _ yy F G=>(F.bs G 1 #[.int .i64 1,.int .i64 1,.int .i64 1,.int .i64 0] Qy.zeroValue3) @λn3 w3 _ yy F G=>(F.bs G 1 #[.int .i64 0,.int .i64 0,.int .i64 0,.int .i64 1] Qy.zeroValue3) @λn4 w4 _ yy F G=>(F.bs G 1 #[.slice (some ⟨n1,0,none⟩) 4 4,.slice (some ⟨n2,0,none⟩) 4 4,.slice (some ⟨n3,0,none⟩) 4 4,.slice (some ⟨n4,0,none⟩) 4 4] Qy.zeroValue22) @λn5 w5 _ yy F G=>(F.m) λF=>k2<|(F.r1) ?_
 refine⟨some ⟨n5,0,none⟩,[(.slice (some ⟨n1,0,none⟩) 4 4,[1,0,0,0]),(.slice (some ⟨n2,0,none⟩) 4 4,[0,1,0,0]),(.slice (some ⟨n3,0,none⟩) 4 4,[1,1,1,0]),(.slice (some ⟨n4,0,none⟩) 4 4,[0,0,0,1])],rfl,rfl,Z9d _ (G.q 0) ?_,(G.e 5)⟩;intro p hp;simp only[Yc,Ya,or_false]at hp;rcases hp with rfl | rfl | rfl | rfl;(· exact Z1F [1,0,0,0] (G.q 4));(· exact Z1F [0,1,0,0] (G.q 3));(· exact Z1F [1,1,1,0] (G.q 2));(· exact Z1F [0,0,0,1] (G.q 1))
variable{μ:Nat}
theorem Zj8(x:Vm)(hv:VOk x)(k:Nat)(hk:k<x.L.length)(l:List Int)(hl:RcpOk x l)(s:List Int)(hs:Z1L x s)(a b:Option Addr)(c d:Nat)(w:World)(h:x.At w)(hr:Z8 w (.slice a l.length c) 1 (l.map Z7))(hq:Z8 w (.slice b s.length d) 1 (s.map Z7)):
  Calls (Qy.prog μ) 35 #[.agg #[.int .i64 x.B,.slice x.da x.D.length x.dc,.slice x.la x.L.length x.lc,.int .i64 x.tol],.int .i64 ((k:Nat):Int),.slice a l.length c,.slice b s.length d] w λe w'=>e = .returned (.tuple #[.int .i64 (offE x k (val l) (val s)),.int .i64 0])/\Ext [] w w':=by
 have E:Ext [] w w:=Ext.refl _ _;have HX:=Lib.hid h;have HV:=Lib.hid hv;have HR:=Lib.hid hr;have HQ:=Lib.hid hq;have HL:=Lib.hid hl;have HS:=Lib.hid hs;clear h hv hr hq hl hs;have G:=(Bk.nil w).ce E;refine(entM 28 Tryz.f35 rfl) λF=>wR λk1=>(F.bx G) λyy F G=>(F.m) λF=>(F.al G Qy.zeroValue30) λyy F G=>k1<|wR λk2=>(F.df) λF=>k2<|wR λk3=>(F.y (F.lb (G.q 1))) λF=>(F.k0 G (ZZ x HV.out _ (HX.out.ext (G.e 2)))) λF G=>(F.al G Qy.zeroValue85) λyy F G=>(F.sr G 0) λG=>k3<|wR λk4=>(F.y (F.lb (G.q 0))) λF=>?_
 refine(F.m) λF=>(F.k0 G (Z99 x HV.out ((k:Nat):Int) (by omega) (by omega) _)) λF G=>k4<|wR λk5=>(F.y (F.lb (G.q 0))) λF=>(F.m) λF=>(F.k0 G (Z9 x HV.out l HL.out a c _ (HR.out.ext (G.e 3) (by simp)))) λF G=>(F.al G Qy.zeroValue88) λyy F G=>(F.sr G 0) λG=>k5<|wR λk6=>(F.y (F.lb (G.q 1))) λF=>(F.m) λF=>(F.k0 G (Z2G x HV.out s HS.out b d _ (HQ.out.ext (G.e 4) (by simp)))) λF G=>k6<|wQ λk7=>Yg ?_
 refine(F.y (F.lb (G.q 1))) λF=>(F.m) λF=>(F.y (F.lb (G.q 0))) λF=>(F.m) λF=>(F.k0 G (ZgN x HV.out k hk (val l) HL.out.tub s HS.out b d _ (HX.out.ext (G.e 4)) (HQ.out.ext (G.e 4) (by simp)))) λF G=>(F.m) λF=>(F.st G 2) λG=>k7<|wp_ret ?_
 (try simp only[Exit.inBlock,Exit.then,reduceIte])
 refine Z3O F<|ZY<|Z0R (Z4w F rfl rfl rfl Qy.underlying30 rfl (G.q 2)) ?_
 exact⟨rfl,(G.e 4)⟩
end
end Go.Proofs.YtfelljbfeoplhaaGreat
