/- Parts of a proof: Ud, Ue, Yb, Yc, Qj, Yd, Ye, Yf, Zh, Za, Zi, Xs, Xu, Dkr, Dst, Dks. No conditions. -/
import Derived.Test.YtfelljbfeoplhaaGreatPsp1
import Derived.Test.YtfelljbfeoplhaaGreatPsp3
import Derived.Test.YtfelljbfeoplhaaGreatPsp5
import Derived.Test.YtfelljbfeoplhaaGreatPsp6
import Derived.Test.YtfelljbfeoplhaaGreatPsp7
import Derived.Test.YtfelljbfeoplhaaGreatPsp8
import Derived.Test.YtfelljbfeoplhaaGreatPsp10
set_option linter.unusedVariables false
set_option linter.unusedSimpArgs false
set_option linter.unusedSectionVars false
set_option maxRecDepth 100000
set_option maxHeartbeats 4000000
namespace Go.Proofs.YtfelljbfeoplhaaGreat
variable{ys:Array Go.Value}{T:List (List Int)}{b base c j k m n o:Nat}{a:Option Go.Addr}{v v' w w' w0:Go.World}{l xs:List Int}{u x y:Go.Value}{L:List (Go.Value×List Int)}{R:Go.Value→Go.Value→Prop}{fs:List Go.Frame}
namespace Lift
open Go Go.Conc Go.RowKit Ev Mx
open Go.ConcM (OsLater)
noncomputable def tT:Code:=sqR (sqR Z6h)
def rgO:Code→Array Oper | .region _ o _=>o | _=>#[]
def rgI:Code→Nat | .region i _ _=>i | _=>0
theorem Zlo:tT = .seq (.seq (.region (rgI (sqL (sqL tT))) (rgO (sqL (sqL tT))) false) (sqR (sqL tT))) (sqR tT):=by kernel_rfl
theorem Zdu:tdMf=[.inRegion (rgO (sqL (sqL tT))) (List.range (rgO (sqL (sqL tT))).size),.code (sqR (sqL tT)),.code (sqR tT)]:=by kernel_rfl
theorem Z7a{P:Program}{m m1 m2:Machine}(h:Steps P m m2)(h1:step P m = .next m1)(ne:m≠m2): Steps P m1 m2:=by
 obtain⟨n,hn⟩:=h
 cases n with
 | zero =>
  simp only[runN,Stepped.next.injEq]at hn;exact absurd hn ne
 | succ n =>
  refine⟨n,?_⟩;simpa[runN,h1] using hn
theorem Z61{P:Program}{b fr:Frame}{a:Act}{K:List Frame}{w: World}(hm:b.mode = .run)(hb:fr.mode ≠ .run)(h:Steps P (lone (b.at a [.code tT]) K w) (lone fr K w')): Steps P (lone (b.at a tdMf) K w) (lone fr K w'):=by
 have ne:∀td,lone (b.at a td) K w≠lone fr K w':=fun td e=>by
  have e2:=congrArg (fun m=>m.gs[0]?.map fun g=>g.frame.mode) e;simp only[lone,List.getElem?_toArray,List.getElem?_cons_zero,Option.map_some,Y4]at e2;exact hb (e2▸rfl)
 rw[Zlo]at h;have h1:=Z7a h step_seq (ne _);have h2:=Z7a h1 step_seq (ne _);have h3:=Z7a h2 step_region (ne _);rw[Zdu];exact h3
theorem Zdt(hn:n≤3)(β:Nat→Bool){n7 n16:Nat}{T:TypeId}{fz:Nat×Nat}{w:World}{fa:Act}(F:Has 42 [] fa [(7,pt n7),(9,.slice none 0 0)])(q7:w.heap[n7]?=some (.cells #[.slice (some ⟨n16,0,none⟩) n n] T fz))(q16:∀k,k<n→w.cell? ⟨n16,k,none⟩=some (.bool (β k)))(h16:n16<w.heap.size):
  ∃e fr w',Steps (Qy.prog 2) (lone (uF.at fa tdMf) [poison] w) (lone fr [poison] w')∧fr.fn=66∧fr.leaving (Qy.prog 2) w' e∧UnR w (Zw n β) e w':=by
 obtain⟨e,a',w',hq,harr⟩:=Zi5 n hn β n7 n16 T fz fz w fa F q7 q16 h16 uF [] [poison];have own:(Qy.prog 2).funcs[(66:Nat)]?=some Tryz.f66:=Qy.own66
 cases e with
 | normal =>
  obtain⟨hd,v,hr,hR⟩:=hq;exact⟨.returned v,_,w',Z61 rfl (by simp[Frame.at]) (Steps.trans harr (.one Go.step_end)),rfl,⟨rfl,hd,rfl,_,own,hr⟩,hR⟩
 | ret =>
  obtain⟨hd,v,hr,hR⟩:=hq;obtain⟨td,hs⟩:=harr;exact⟨.returned v,_,w',Z61 rfl (by simp[Frame.at]) hs,rfl,⟨rfl,hd,rfl,_,own,hr⟩,hR⟩
 | panic ch =>
  obtain⟨_,v,e,_⟩:=hq
  cases e
 | outgrown =>
  obtain⟨v,e,_⟩:=hq
  cases e
 | _=>exact hq.elim
theorem ct1:ZR PP gT (fun _ _=>false) true false true false (sqL (sqL tT))=true:=by kernel_rfl
theorem ct2:ZR PP gT (fun _ _=>false) true false true false (sqR (sqL tT))=true:=by kernel_rfl
theorem ct3:ZR PP gT (fun _ _=>false) true false true false (sqR tT)=true:=by kernel_rfl
structure UnE(l:List Int)(w w':World)(y:Value)(Mu Wg:Nat):Prop where
 lst:IntR w.heap.size w' l y
 old:∀b,b<w.heap.size→w'.heap[b]?=w.heap[b]?
 size:w.heap.size≤w'.heap.size
 os:OsLater w.os w'.os
 out:w'.output=w.output
 mu:w.heap.size≤Mu∧Mu<w'.heap.size
 wg:w.heap.size≤Wg∧Wg<w'.heap.size
 ne:∀g n c,y = .slice (some ⟨g,0,none⟩) n c→g≠Mu∧g≠Wg
theorem Zhl{J:Jk}{C:Inv}{r:Ren}{w: World}(hi:Idn r)(h:WH C r v w){base': Nat}(hb:base'≤base)(hx:IntR base v l x)(hy:VR r x y): IntR base' w l y:=by
 rcases hx with⟨h1,rfl⟩ | ⟨g,c,h1,rfl,h2,h3,hm,h4⟩
 ·cases hy
  exact .inl ⟨h1,rfl⟩
 ·have e:y = .slice (some ⟨g,0,none⟩) l.length c:=PV.same (S:=fun _=>True) hi trivial hy
  have hg:∃c,r g=some c:=by
   cases hy with
   | sl _ _ q=>cases q with | mk q=>exact⟨_,q⟩
  refine .inr ⟨g,c,h1,e,Yd hb h2,h3,hm,ZP (S:=fun _=>True) hi h hg h4 ?_ ?_⟩
  ·simp only[List.size_toArray,Ym,List.length_replicate,ivs,Yj]
   have:0<l.length:=List.length_pos_iff.2 h1;omega
  ·intro x hx
   simp only[Yb,List.mem_append,ivs,List.mem_map,List.mem_replicate]at hx
   rcases hx with⟨z,_,rfl⟩ | ⟨_,rfl⟩<;>exact .inl trivial
section
variable{J:Jk}(hj:J.j)(hg:∀f,J.gd f↔gT f=true)(hl:∀f,¬J.law f){D:Nat→Prop}{Post:Value→World→Prop}{w:World}
include hj hg hl
theorem Zi6(hn:n≤3)(β:Nat→Bool){n7 n16:Nat}{T7 T16:TypeId}{fz:Nat×Nat}{f c:Frame}{cs:List Frame}(h1:f.fn=66)(h2:f.tmps.size=42)(h3:f.todo=tdMf)(h4:f.defers=[])(h5:f.kind = .normal)(h6:f.mode = .run)(h7:f.roundOf=none)(e7:f.tmps[7]?=some (pt n7))(e9:f.tmps[9]?=some (.slice none 0 0))(q7:w.heap[n7]?=some (.cells #[.slice (some ⟨n16,0,none⟩) n n] T7 fz))(q16:w.heap[n16]?=some (.cells ((List.range n).map fun k=>Value.bool (β k)).toArray T16 (0,0)))(h716:n7≠n16)(hD:∀c,D c→c<w.heap.size)(hD7:¬D n7)(hD16:¬D n16)(ret:∀w' y,IntR w.heap.size w' (Zw n β) y→(∀b,b<w.heap.size→w'.heap[b]?=w.heap[b]?)→w.heap.size≤w'.heap.size→w'.os=w.os→w'.output=w.output→Sure PP Post D (run1 (c.finish y) cs) w'):
  Sure PP Post D (run1 f (c::cs)) w:=by
 obtain⟨ffn,ft,ftd,fdf,fm,fk,fr⟩:=f;dsimp only at h1 h2 h3 h4 h5 h6 h7 e7 e9;subst h1 h3 h4 h5 h6 h7;have hS2:Strip PP (Qy.F 2) (CodeOk PP false) (fun f=>gT f=true):=strip_T hj hg hl 2;have hG:GOk PP (Qy.F 2) (fun f=>gT f=true):=Zh6 hg hl 2;have hR:Rec PP:=rec_T hl;obtain⟨v,hsh,hwh,hshut⟩:=Z28 (P:=PP) (F:=Qy.F 2) (w:=w) (S:=fun c=>c=n7∨c=n16) hj (by
  rintro c (rfl | rfl)
  ·exact⟨_,_,_,q7⟩
  ·exact⟨_,_,_,q16⟩)
 obtain⟨xs,hxs,hpv⟩:=ZfS (S:=fun c=>c=n7∨c=n16) hj ft;have hown:(Qy.F 2)[(66:Nat)]?=PP.funcs[(66:Nat)]?:=Qy.own66.trans (by kernel_rfl);have hfr:FrR PP (Qy.F 2) (idS fun c=>c=n7∨c=n16) (uF.at ⟨xs,[]⟩ tdMf) {fn:=66,tmps:=ft,todo:=tdMf,defers:=[],mode:=.run,kind:=.normal,roundOf:=none}:=by
  refine⟨rfl,hown,hxs,?_,⟨.nil,fun q=>absurd q (hl _)⟩,.run,⟨rfl,.inl rfl⟩,.none⟩;show Todo PP (Jk.law 66) (¬Jk.gd 66) false _ tdMf tdMf;rw[Zdu];have c1:=Z1b hj hg hl ct1;have c2:=Z1b hj hg hl ct2;have c3:=Z1b hj hg hl ct3;have e1:sqL (sqL tT) = .region (rgI (sqL (sqL tT))) (rgO (sqL (sqL tT))) false:=by kernel_rfl
  rw[e1]at c1;exact .cons (.inRegion c1) (.cons (.code c2) (.cons (.code c3) .nil))
 have hst:Stk PP (Qy.F 2) (idS fun c=>c=n7∨c=n16) [uF.at ⟨xs,[]⟩ tdMf] [{fn:=66,tmps:=ft,todo:=tdMf,defers:=[],mode:=.run,kind:=.normal,roundOf:=none}]:=⟨.cons hfr .nil,⟨.inl rfl,fun h=>absurd rfl h⟩,trivial⟩;have hF:Has 42 [] (⟨xs,[]⟩:Act) [(7,pt n7),(9,.slice none 0 0)]:=by
  have hsz:xs.size=42:=hxs.1.trans h2;refine⟨rfl,hsz,fun k u e=>?_⟩;show xs.getD k undef=u;rw[Y6];rw[Yp]at e
  split at e
  ·rename_i q
   rw[beq_iff_eq]at q;subst q;obtain rfl:=Y1 e;rw[hpv 7 _ e7 (.inl rfl)];rfl
  ·rw[Yp]at e
   split at e
   ·rename_i q
    rw[beq_iff_eq]at q;subst q;obtain rfl:=Y1 e;rw[hpv 9 _ e9 trivial];rfl
   ·cases e
 obtain⟨cs7,p7,p7s,p7v⟩:=hsh.at_ n7 (.inl rfl) _ _ _ q7;have hc7:cs7=#[.slice (some ⟨n16,0,none⟩) n n]:=by
  refine Array.ext p7s fun i i1 i2=>?_;have:i=0:=by simp at i2;omega
  subst this;have:=p7v 0 (.slice (some ⟨n16,0,none⟩) n n) rfl (.inr rfl);rw[Y2 i1]at this;exact Y1 this
 subst hc7;obtain⟨cs16,p16,p16s,p16v⟩:=hsh.at_ n16 (.inr rfl) _ _ _ q16;have hc16:∀k,k<n→v.cell? ⟨n16,k,none⟩=some (.bool (β k)):=fun k hk=>by
  have:=p16v k (.bool (β k)) (by simp[hk]) trivial;unfold World.cell?;rw[p16];exact this
 have h16:n16<v.heap.size:=(Y0.1 p16).1;have hEn:Ends (PF PP (Qy.F 2)) (Done PP (Qy.F 2) 66 (fun e u=>∃T0 T,UnR (re v T0) (Zw n β) e (re u T))) [uF.at ⟨xs,[]⟩ tdMf,poison] v:=by
  obtain⟨T0,hw0⟩:=hwh.tape;obtain⟨σ,hw2⟩:=hw0.retape v.tape;refine Z1c hS2 hG hR ?_ (.inl ⟨[],_,[],_,_,rfl,hst,hw2⟩) fun T=>?_
  ·rintro V u T ⟨T',e,fr,k1,k2,k3,⟨T1,T2,k4⟩,k5⟩
   exact⟨T',e,fr,k1,k2,k3,⟨T1,T2,k4⟩,k5⟩
  ·obtain⟨e,fr,w',⟨m,hm⟩,k1,k2,k3⟩:=Zdt (w:=re v T) hn β hF p7 hc16 h16
   refine⟨m,fr,[poison],w',hm,w'.tape,e,fr,rfl,k1,k2,⟨T,w'.tape,k3⟩,?_⟩;obtain⟨x,rfl,_⟩:=k3;simp
 refine Sure.done hS2 hG hR hEn hst hwh ⟨fun b c hb=>?_,hD⟩ (fun r' v' w' x y hRx hv hw' hk ho=>?_) (fun r' v' w' ch ch' hRx=>?_)
 ·obtain⟨q1,rfl⟩:=Z0z hb
  rcases q1 with rfl | rfl
  ·exact hD7
  ·exact hD16
 ·obtain⟨T0,T1,x',e,hx,hE⟩:=hRx
  obtain rfl:=Ending.returned.inj e;have hi:Idn r':=fun b c hb=>by
   rcases (hk.par hsh.size).2.1 b c hb with q | q
   ·exact(Z0z q).2
   ·exact q.symm
  refine ret w' y (Zhl hi hw' (Nat.le_of_eq hsh.size.symm) hx hv) (fun b hb=>?_) hk.sizeW hk.os.2.symm hk.out
  by_cases q:b=n7∨b=n16
  ·exact hk.shutW b b (hshut _ _ (Z1i q)) (Z1i q)
  ·refine hk.far b hb fun c hc=>?_
   obtain⟨q1,q2⟩:=Z0z hc;exact q (q2▸q1)
 ·obtain⟨T0,T1,x',e,_⟩:=hRx
  cases e
end
end Lift
namespace Lift
open Go Go.Conc Go.RowKit Ev Mx
open Go.ConcM (OsLater)
noncomputable abbrev jkU:Jk:={j:=True,rest:=[.code cBlk,.code Z6h],gd:=fun f=>gT f=true}
def AskU(S:Nat→Prop)(w:World)(cf:FuncId)(ys:Array Value)(β:Nat→Bool)(n:Nat):Prop:=
 ∀(w1 v:World),(∀c,S c→w1.heap[c]?=w.heap[c]?)→Shadow S w1 v→∀k,k<n→Calls (Qy.prog 2) cf (#[.int .i64 ((k:Nat):Int)]++ys) v (fun e _=>e = .returned (.bool (β k)))
noncomputable def phX (x : Vm) (cf : FuncId) (ys : Array Value) (a : Act) (cs : List Frame) (D : Nat → Prop) (β : Nat → Bool) (w : World) (n3 n5 n6 n7 n16 : Nat) : Ph :=
  { K := { Mu := n6, Wg := n5, Fd := n16, tM := 150, tW := 146, tB := 4 }
    k := { N := n6, W := n5, I := n3, L := 0, B := n7, D := n16, n := x.L.length, c := x.L.length, lamp := 0, clo := .func (.func cf) #[] ys }
    T := fun i => a.tmps.getD i undef, n := x.L.length, cs := cs, D := D, m0 := 1, p0 := 0, β := β, wS := w }
theorem Zkz(k:Wk)(ys:Array Value)(e:k.clo = .func (.func 79) #[] ys)(L x:Nat):(cW3 {k with L:=L,lamp:=x}).cal PP=some (79,#[.int .i64 ((x:Nat):Int)]++ys):=by
 obtain⟨N,W,I,_,B,Dd,n,c,_,clo⟩:=k;dsimp only at e;subst e
 kernel_rfl
theorem Zky(k:Wk)(ys:Array Value)(e:k.clo = .func (.func 67) #[] ys)(L x:Nat):(cW3 {k with L:=L,lamp:=x}).cal PP=some (67,#[.int .i64 ((x:Nat):Int)]++ys):=by
 obtain⟨N,W,I,_,B,Dd,n,c,_,clo⟩:=k;dsimp only at e;subst e
 kernel_rfl
theorem Zka{S:Nat→Prop}{J:Jk}(hys:∀y∈ys,PV S y)(k:Nat): VRs (idS S) (#[.int .i64 ((k:Nat):Int)]++ys) (#[.int .i64 ((k:Nat):Int)]++ys):=by
 refine Arr.append ⟨rfl,fun i a b h1 h2=>?_⟩ ⟨rfl,fun i a b h1 h2=>?_⟩
 ·rw[h1]at h2
  obtain rfl:=Y1 h2;have:=Yk h1;simp only[Yb,Yc,Ya,or_false]at this;subst this;exact .int _ _
 ·rw[h1]at h2
  obtain rfl:=Y1 h2;exact(hys _ (Yk h1)).vr
theorem Zl8{k:Wk}{T:Nat→Value}{n:Int}{a:Act}(hT:T=fun i=>a.tmps.getD i undef)(F:Has 42 [] a [(3,pt k.I),(5,pt k.W),(6,pt k.N),(7,pt k.B),(20,.int .i64 n),(21,.int .i64 0)]): SOk (sM k T n).top (sM k T n).rest (uF.at a [.code cBlk,.code Z6h]) []:=by
 refine⟨⟨rfl,F.sz,fun t v e=>?_,rfl,F.ds,rfl,rfl,rfl⟩,.nil⟩;have hm:∀(L:List (Nat×Value)),L.lookup t=some v→(t,v)∈L:=by
  intro L
  induction L with
  | nil=>intro e;cases e
  | cons p L ih =>
   intro e;rw[Yp]at e
   split at e
   ·rename_i q
    obtain rfl:=Y1 e;rw[beq_iff_eq]at q;subst q;exact List.mem_cons_self
   ·exact List.mem_cons_of_mem _ (ih e)
 have h1:=hm _ e;have key:t<42∧a.tmps.getD t undef=v:=by
  have f3:=F.get 3 _ rfl;have f5:=F.get 5 _ rfl;have f6:=F.get 6 _ rfl;have f7:=F.get 7 _ rfl;have f20:=F.get 20 _ rfl;have f21:=F.get 21 _ rfl;subst hT;have all:∀p∈(sM k (fun i=>a.tmps.getD i undef) n).top.env,p.1<42∧a.tmps.getD p.1 undef=p.2:=by
   simp only[sM,und,List.forall_mem_cons]
   repeat' apply And.intro
   all_goals first | decide | rfl | assumption | (intro p hp;cases hp)
  exact all _ h1
 have h2:t<a.tmps.size:=by rw[F.sz];exact key.1
 show a.tmps[t]?=some v;rw[Y2 h2];have:=key.2;rw[Y6,Y2 h2]at this;exact congrArg some this
theorem Z7F{base': Nat}(h:IntR base w l y)(hb:base'≤base): IntR base' w l y:=by
 rcases h with h | ⟨g,c,h1,h2,h3,h4,h5⟩
 ·exact .inl h
 ·exact .inr ⟨g,c,h1,h2,Yd hb h3,h4,h5⟩
theorem Zdw {D : Nat → Prop} {Post : Value → World → Prop} {S : Nat → Prop} {x : Vm} {cf : FuncId} {ys : Array Value} {β : Nat → Bool} {w : World} {c : Frame} {cs : List Frame}
    (h1 : 1 ≤ x.L.length) (h3 : x.L.length ≤ 3) (hcf : cf = 79 ∨ cf = 67) (hS : ∀ b, S b → ∃ cs e fz, w.heap[b]? = some (.cells cs e fz)) (hSD : ∀ b, S b → ¬ D b) (hD : ∀ c, D c → c < w.heap.size)
    (hda : PV S (.slice x.da x.D.length x.dc)) (hla : PV S (.slice x.la x.L.length x.lc)) (hys : ∀ y ∈ ys, PV S y) (hβ : ∀ k, x.L.length ≤ k → β k = false) (hask : AskU S w cf ys β x.L.length)
    (ret : ∀ w' y Mu Wg, UnE (Zw x.L.length β) w w' y Mu Wg → Sure PP Post (fun c => D c ∨ c = Mu ∨ c = Wg) (run1 (c.finish y) cs) w') :
    Sure PP Post D (run1 (Frame.enter PP 66 #[x.val, .func (.func cf) #[] ys] .normal) (c :: cs)) w := by
  letI : Jk := jkU;have hgc : gT cf=true := by rcases hcf with rfl | rfl<;>decide
  refine Zi4 (J := jkU) trivial (fun f => Iff.rfl) (fun f => id) rfl h1 h3 hgc hS hSD hD hda hla hys fun a w1 n3 n5 n6 n7 n16 F q3 q5 q6 q7 q16 l3 l5 l6 l16 l7 old os out hsz => ?_;have b7 : n7<w1.heap.size := (Y0.1 q7).1;have nD : ∀b, w.heap.size≤b→¬D b := fun b hb hd => absurd (hD b hd) (by omega);have ap : Apt {Mu := n6, Wg := n5, Fd := n16, tM := 150, tW := 146, tB := 4} := ⟨by show n6≠n5; omega, by show n6≠n16; omega, by show n5≠n16; omega⟩;have hX : PhOk (phX x cf ys a (c::cs) D β w1 n3 n5 n6 n7 n16) :=
    { n3 := h3, m0 := Nat.one_pos, ok := fun Lb y hy => ⟨ap, rfl, rfl, rfl, hy, h3⟩, wok := ⟨ap, rfl, rfl, rfl, h1, h3⟩, kn := rfl, βn := hβ, dlow := fun b hb => Y8 (hD b hb) hsz
      isB := ⟨_, _, q3⟩, fdB := ⟨_, _, q7⟩
      iO := ⟨by show n3 ≠ n6; omega, by show n3 ≠ n5; omega, by show n3 ≠ n16; omega, nD n3 l3⟩
      bO := ⟨by show n7 ≠ n6; omega, by show n7 ≠ n5; omega, by show n7 ≠ n16; omega, nD n7 (by omega)⟩ }
  have hS1 : ∀ b, S b → ∃ cs e fz, w1.heap[b]? = some (.cells cs e fz) := fun b hb => by
    obtain⟨q1, q2, q3, q4⟩ := hS b hb;exact⟨q1, q2, q3, by rw[old b (Y0.1 q4).1]; exact q4⟩
  have hSl : ∀ b, S b → b < w.heap.size := fun b hb => by
    obtain⟨q1, q2, q3, q4⟩ := hS b hb;exact(Y0.1 q4).1
  obtain⟨v, hsh, hwh, hshut⟩ := Z28 (P := PP) (F := Qy.F 2) (w := w1) (S := S) trivial hS1;have hJ : ∀y, y<(phX x cf ys a (c::cs) D β w1 n3 n5 n6 n7 n16).n→Job (Qy.F 2) (fun f => gT f=true) (phX x cf ys a (c::cs) D β w1 n3 n5 n6 n7 n16) y := fun y hy => by
    refine ⟨cf, _, #[.int .i64 ((y : Nat) : Int)] ++ ys, idS S, v, fun e _ => e = .returned (.bool (β y)), fun L => ?_, hgc, Zka hys y, hwh, fun b d hb => ?_, fun e u T h => h, fun e u h => h, fun T => ?_⟩
    · rcases hcf with rfl | rfl
      · exact Zkz _ ys rfl L y
      · exact Zky _ ys rfl L y
    · obtain ⟨s1, rfl⟩ := Z0z hb
      have := hSl _ s1;refine⟨hshut _ _ (Z1i s1), ?_, ?_, ?_, hSD _ s1, ?_, ?_⟩
      · show d ≠ n6; omega
      · show d ≠ n5; omega
      · show d ≠ n16; omega
      · show d ≠ n3; omega
      · show d ≠ n7; omega
    · exact hask w1 (re v T) (fun b hb => old b (hSl b hb)) ⟨hsh.size, hsh.os, hsh.at_⟩ y hy
  have hB : Z7l (phX x cf ys a (c :: cs) D β w1 n3 n5 n6 n7 n16) Post := by
    intro w' z u f fs s hk hold hsz' hos hout hsA hlen hfd;obtain⟨hk1, hk2⟩ := hk;have hfs : fs=[] := by
      have hk2 : Lis FOk [] fs := hk2
      cases hk2; rfl
    subst hfs;have q7' : w'.heap[n7]?=some (.cells #[.slice (some ⟨n16, 0, none⟩) x.L.length x.L.length] 151 (0, 0)) := by
      rw[hold n7 b7 (by show n7≠n6; omega) (by show n7≠n5; omega) (by show n7≠n16; omega)];exact q7
    have hfdl : s.fd.map Value.bool = (List.range x.L.length).map fun k => Value.bool (β k) := by
      apply List.ext_getElem?;intro i;have hlen : s.fd.length=x.L.length := hlen
      rcases Nat.lt_or_ge i x.L.length with hi | hi
      · have := hfd i hi
        rw [Yn, Yn, this, List.getElem?_range hi]; rfl
      · rw [List.getElem?_eq_none (by rw [Yj]; omega), List.getElem?_eq_none (by rw [Yj, List.length_range]; omega)]
    have q16' : w'.heap[n16]? = some (.cells ((List.range x.L.length).map fun k => Value.bool (β k)).toArray 4 (0, 0)) := by
      rw[←hfdl];exact hsA.fd
    have e7 : f.tmps[7]?=some (pt n7) := hk1.env 7 _ rfl;have e9 : f.tmps[9]?=some (.slice none 0 0) := hk1.env 9 _ rfl;have hsz' : w1.heap.size≤w'.heap.size := hsz';refine Zi6 (J := jkU) (c := c) (cs := cs) trivial (fun f => Iff.rfl) (fun f => id) h3 β hk1.fn hk1.size hk1.todo hk1.defs hk1.kind hk1.mode hk1.round e7 e9 q7' q16' (by omega) ?_ ?_ ?_ fun w2 y r1 r2 r3 r4 r5 => ?_
    · rintro b (hb | hb | hb)
      · exact Y8 (hD b hb) (by omega)
      · have hb : b = n6 := hb
        omega
      · have hb : b = n5 := hb
        omega
    · rintro (hb | hb | hb)
      · exact nD n7 (by omega) hb
      · have hb : n7 = n6 := hb
        omega
      · have hb : n7 = n5 := hb
        omega
    · rintro (hb | hb | hb)
      · exact nD n16 (by omega) hb
      · have hb : n16 = n6 := hb
        omega
      · have hb : n16 = n5 := hb
        omega
    · refine ret w2 y n6 n5 ⟨Z7F r1 (by omega), fun b hb => ?_, by omega, ?_, by rw [r5, hout]; exact out, ⟨by omega, by omega⟩, ⟨by omega, by omega⟩, fun g n d e => ?_⟩
      · rw [r2 b (by omega), hold b (by show b < w1.heap.size; omega) (by show b ≠ n6; omega) (by show b ≠ n5; omega) (by show b ≠ n16; omega)]
        exact old b hb
      · rw [r4, ← os]
        exact hos
      · rcases r1 with ⟨_, k2⟩ | ⟨g', d', _, k2, k3, _⟩
        · rw [k2] at e; cases e
        · rw [k2] at e
          simp only[Value.slice.injEq, Y4, Addr.mk.injEq]at e;obtain⟨⟨rfl, _⟩, _⟩ := e;exact⟨by omega, by omega⟩
  exact Sure.phase hX (strip_T (J := jkU) trivial (fun f => Iff.rfl) (fun f => id) 2) (Zh6 (J := jkU) (fun f => Iff.rfl) (fun f => id) 2) (rec_T (J := jkU) fun f => id) hJ hB ⟨by show n16 ≠ n6; omega, by show n16 ≠ n5; omega, nD n16 (by omega)⟩ ⟨q6, q5, by
    show w1.heap[n16]?=some (.cells ((List.replicate x.L.length false).map Value.bool).toArray 4 (0, 0));rw[List.map_replicate];exact q16⟩ (Zl8 rfl F)
end Lift
namespace Lift
open Go Go.Conc Go.RowKit Ev
section
variable{P:Program}{m:Bool}{w w':World}{f:Frame}{fs cs:List Frame}{s s':St}
theorem Z9m(a:Addr):∀(n i:Nat) (acc:Array Value) (w:World) (es:Array Event),(∀j,j<n→(w.cell? (a.add (i+j))).isSome)→∀ev∈(loadCellsFrom a i n acc).events P w es,ev∈es∨∃j,ev=⟨.cell (a.add j),false,false⟩
 | 0,_,_,_,_,_=>fun ev h=>.inl (by simpa[loadCellsFrom] using h)
 | n+1,i,acc,w,es,hc=>fun ev h=>by
  simp only[loadCellsFrom,Sem.events_bind]at h;obtain⟨u,hu⟩:=Option.isSome_iff_exists.1 (hc 0 (by omega));simp only[Nat.add_zero]at hu;have hr:(load (a.add i)).run P w = .ok u w:=by simp[hu]
  rw[hr]at h
  rcases Z9m a n (i+1) (acc.push u) w _ (fun j hj=>by have:=hc (j+1) (by omega);rwa[show i+(j+1)=i+1+j by omega]at this) ev h with h | h
  ·rw[events_load,hu]at h
   rcases Array.mem_push.1 h with h | rfl
   ·exact .inl h
   ·exact .inr ⟨i,rfl⟩
  ·exact .inr h
theorem ZiE (h : SOk s.top s.rest f fs) {t : TypeId} {b : Nat} (he : s.lod = some (t, ⟨b, 0, none⟩)) {ys : Array Value} {T : TypeId} {fz : Nat × Nat} (hb : w.heap[b]? = some (.cells ys T fz)) {d : TypeDesc} (hd : P.underlying t = some d) (hr : d.isRow = true) (hi : (P.info? t).map (·.size) = some ys.size) (ha : s.ans (.agg ys) = some s') :
    ∃ es, stepG P m (run1 f (fs ++ cs)) w = .go (run1 (f.finish (.agg ys)) (fs ++ cs)) w es ∧ (∀ x ∈ es, ∃ j, x = ⟨.cell ((⟨b, 0, none⟩ : Addr).add j), false, false⟩) ∧ SOk s'.top s'.rest (f.finish (.agg ys)) fs := by
  letI : Jk := {j := False, rest := []};obtain⟨o, hp, hx⟩ := Option.bind_eq_some_iff.1 he;obtain⟨ops, i, rest, k, ht, ho, hg, hret, hk⟩ := Z0w hp
  split at hx
  · rename_i t' x hop
    split at hx
    · rename_i q hq
      simp only[Y4, Y9]at hx;obtain⟨rfl, rfl⟩ := hx;have e1 : (execOp f.eval o).run P w = .ok (.value (.agg ys)) w := Ze hop (h.1.val hq) hd hr hi hb
      have hex : execOp f.eval o = (do pure (Next.value (← Instr.loadAt t' (.pointer (some ⟨b, 0, none⟩))))) := by
        unfold execOp; rw [hop]; dsimp only; rw [h.1.val hq]
      have hag : (isAgg t').run P w = .ok true w := by
        rw[hex]at e1;simp only[Instr.loadAt, Instr.sureAddr, loadVar, isAgg, run_underlying hd, Sem.run_bind, Sem.run_pure, Result.andThen];rw[←hr]
        cases d <;> rfl
      have hsz : (sizeOf t').run P w = .ok ys.size w := by
        obtain⟨i, hi1, hi2⟩ := Y3.1 hi;rw[←hi2];unfold sizeOf typeInfo;simp[Sem.run, hi1, go_sem, Result.andThen]
      have e2 : ∀ x ∈ (execOp f.eval o).events P w #[], ∃ j, x = ⟨.cell ((⟨b, 0, none⟩ : Addr).add j), false, false⟩ := by
        intro x hx;have hx2 : x∈(loadCellsFrom ⟨b, 0, none⟩ 0 ys.size #[]).events P w #[] := by
          rw[hex]at hx;simp[Instr.loadAt, Instr.sureAddr, loadVar, hag, hsz, loadCells]at hx;revert hx
          cases (loadCellsFrom ⟨b, 0, none⟩ 0 ys.size #[]).run P w <;> exact fun h => h
        have hz : ∀ j, j < ys.size → (w.cell? ((⟨b, 0, none⟩ : Addr).add (0 + j))).isSome := fun j hj => by
          have : (⟨b, 0, none⟩ : Addr).add (0 + j) = ⟨b, j, none⟩ := by rw [Addr.add_lit, Nat.zero_add, Nat.zero_add]
          rw [this, Z0 hb, Y2 hj]; rfl
        rcases Z9m _ _ _ _ _ _ hz x hx2 with q | q
        · simp at q
        · exact q
      refine ⟨_, by
        rw [Z1B h hp (by rw [hop]; simp), Z0c e1]; rfl, fun x hx => ?_, (Z25 h ht ha).1⟩
      have := Conc.mem_seen (show x∈lst P f (execOp f.eval o) w from hx);have hke : (f.kind==CallKind.early)=false := by
        cases hkk : f.kind <;> first | rfl | (rw [h.1.kind] at hkk; exact absurd hkk hk)
      rw[hke]at this;exact e2 x this
    · cases hx
  · cases hx
def rcvB(s:St):Bool:=match s.pend with
 | some o=>match o.op with
  | .call c=>match c.callee with
   | .builtin .recover=>true
   | _=>false
  | _=>false
 | none=>false
theorem ZjL(hrec:P.follows .rangeFuncRecover=true)(h:SOk s.top s.rest f fs)(he:rcvB s=true)(hk:tryRecover f (fs++cs)=none)(ha:s.ans .nilIface=some s'):
  stepG P m (run1 f (fs++cs)) w = .go (run1 (f.finish .nilIface) (fs++cs)) w #[]∧SOk s'.top s'.rest (f.finish .nilIface) fs:=by
 letI:Jk:={j:=False,rest:=[]};unfold rcvB at he
 split at he
 ·rename_i o hp
  obtain⟨ops,i,rest,k,ht,ho,hg,hret,hkd⟩:=Z0w hp;refine⟨?_,(Z25 h ht ha).1⟩
  split at he
  ·rename_i c hop
   split at he
   ·rename_i hc
    have hr:(execOp f.eval o).run P w = .ok .recover w∧(execOp f.eval o).events P w #[]=#[]:=by
     unfold execOp;rw[hop];dsimp only;unfold resolve;rw[hc];simp[invoke,builtin]
    rw[Z1B h hp (by rw[hop];simp),Z2n hrec hr.1 hk];unfold lst;rw[hr.2];simp[GStep.after,Z0K]
   ·cases he
  ·cases he
 ·cases he
theorem Zjo{a:FA}(h:FOk a f)(hr:a.ret=true)(hd:a.defs=[])(hk:a.kind = .normal){fn:Func}(hf:P.funcs[a.fn]?=some fn){t1 t2:Nat}{T:TypeId}(hres:fn.results=#[.tmp t1,.cell t2 T])(e1:a.env.lookup t1=some y)(e2:a.env.lookup t2=some (pt b))(hag:(isAgg T).run P w = .ok false w)(hc:w.cell? ⟨b,0,none⟩=some u)(c:Frame):
  ∃es,stepG P m (run1 f (c::cs)) w = .go (run1 (c.finish (.tuple #[y,u])) cs) w es∧∀x∈es,x=⟨.cell ⟨b,0,none⟩,false,false⟩:=by
 have g1:f.tmps[t1]?.getD undef=y:=by rw[h.env _ _ e1];rfl
 have g2:f.tmps[t2]?.getD undef=pt b:=by rw[h.env _ _ e2];rfl
 have hl:(load ⟨b,0,none⟩ .plain).run P w = .ok u w:=by simp only[load,Sem.run,hc]
 have hrun:(results fn f.tmps).run P w = .ok (.tuple #[y,u]) w∧(results fn f.tmps).events P w #[]=#[⟨.cell ⟨b,0,none⟩,false,false⟩]:=by
  unfold results;rw[hres]
  constructor
  ·simp[g1,g2,pt,loadVar,hag,hc,asAddr,Result.andThen]
  ·simp[g1,g2,pt,loadVar,hag,hc,hl,asAddr,Result.andThen]
 have gm:f.mode = .returning:=by rw[h.mode,hr];rfl
 have gd:f.defers=[]:=h.defs.trans hd;have gf:P.funcs[f.fn]?=some fn:=by rw[h.fn];exact hf
 refine⟨seen P f.fn ((results fn f.tmps).events P w #[])++#[],?_,fun x hx=>?_⟩
 ·unfold stepG run1
  simp only[gm];unfold unwind;simp only[gd,gm,gf,Yf,hrun.1];unfold doReturn;simp only[h.kind.trans hk]
  rfl
 ·rw[Array.append_empty]at hx
  have:=Conc.mem_seen hx;rw[hrun.2]at this;simpa using this
end
end Lift
namespace Lift
open Go Go.Conc Go.RowKit Ev
open Go.ConcM (OsLater)
section
variable[Jk]{C:Inv}{r:Ren}{v w w1 v2:World}{S:Nat→Prop}
def Rg(r:Ren)(w:World):Nat→Prop:=fun c=>(∃b,r b=some c)∧∃cs e fz,w.heap[c]?=some (.cells cs e fz)
theorem ZjM(h:WH C r v w)(hb:r b=some c)(hx:v.cell? ⟨b,o,none⟩=some x): Rg r w c:=by
 obtain⟨y,hy,_⟩:=Z4d h hb hx;exact⟨⟨b,hb⟩,(Z0G hy).2⟩
theorem ZcZ(h:WH C r v w)(hx:Z7 v (.slice a n c) 1 (xs.map Z5))(hne:xs≠[])(hy:VR r (.slice a n c) y): PV (Rg r w) y:=by
 obtain⟨a0,c0,e0,hl,hc⟩:=hx;simp only[Value.slice.injEq]at e0;obtain⟨rfl,hn,rfl⟩:=e0;obtain⟨b,off,rfl,hb,hk⟩:=hc (by simpa using hne)
 cases hy with
 | @sl a1 a2 _ _ q =>
  cases q with
  | @mk _ b' _ _ q =>
   obtain⟨z,zs,rfl⟩:∃z zs,xs=z::zs:=by cases xs with | nil=>exact absurd rfl hne | cons z zs=>exact⟨z,zs,rfl⟩
   exact ZjM h q (hk 0 0 (Z5 z) (by simp) (by simp))
theorem ZfW(h:WH C r v w)(hn:n=L.length)(h0:L≠[])(hp:∀p∈L,p.2≠[])(hx:Z0s v a L)(hy:VR r (.slice a n c) y):
  ∃a' L',y = .slice a' n c∧PV (Rg r w) (.slice a' n c)∧Z0s w a' L'∧L'.map (·.2)=L.map (·.2)∧∀p∈L',PV (Rg r w) p.1:=by
 obtain⟨h1,h2⟩:=hx;rw[ZZ]at h1;have hl0:0<L.length:=List.length_pos_iff.2 h0;obtain⟨b,off,rfl,hc0⟩:=h1 0 hl0
 cases hy with
 | @sl a1 a2 _ _ q =>
  cases q with
  | @mk _ b' _ _ q =>
   have ex:∀i:_root_.Fin L.length,∃z,VR r (L.getD i (.bool true,[])).1 z∧w.cell? ⟨b',off+i,none⟩=some z:=by
    intro i;obtain⟨b1,off1,e,hc⟩:=h1 i i.2;simp only[Y4,Addr.mk.injEq,and_true]at e;obtain⟨rfl,rfl⟩:=e;obtain⟨z,hz,hv⟩:=Z4d h q hc;exact⟨z,hv,hz⟩
   obtain⟨f,hf⟩:=Classical.axiomOfChoice ex;refine⟨_,(List.finRange L.length).map fun i=>(f i,(L.getD i (.bool true,[])).2),rfl,ZjM h q hc0,⟨?_,?_⟩,?_,?_⟩
   ·rw[ZZ]
    intro i hi;simp only[Yj,List.length_finRange]at hi;refine⟨b',off,rfl,?_⟩;rw[(hf ⟨i,hi⟩).2];simp[hi]
   ·intro p hp
    obtain⟨i,-,rfl⟩:=List.mem_map.1 hp;have:=ZcX h (h2 _ (Z8 (.bool true,[]) i.2)) (hf i).1;exact this
   ·rw[List.map_map]
    apply List.ext_getElem
    ·simp
    ·intro i q1 q2
     simp at q1;simp[q1]
   ·intro p hp'
    obtain⟨i,-,rfl⟩:=List.mem_map.1 hp';have hm:=Z8 (.bool true,[]) i.2 (l:=L);obtain⟨a3,c3,e3,hr3⟩:=h2 _ hm;have hv:=(hf i).1;rw[e3]at hv;exact ZcZ h hr3 (hp _ hm) hv
theorem Z6n(hw:∀c,S c→w1.heap[c]?=w.heap[c]?)(sh:Shadow S w1 v2)(hb:S b)(hx:w.cell? ⟨b,o,none⟩=some x)(hp:PV S x): v2.cell? ⟨b,o,none⟩=some x:=by
 obtain⟨_,cs,e,fz,hc⟩:=Z0G hx;obtain⟨cs',h1,h2,h3⟩:=sh.at_ b hb cs e fz (by rw[hw b hb];exact hc);unfold World.cell? at hx⊢;rw[hc]at hx;rw[h1];exact h3 o x hx hp
theorem ZfX(hw:∀c,S c→w1.heap[c]?=w.heap[c]?)(sh:Shadow S w1 v2){a:Option Addr}{n c:Nat}{L:List (Value×List Int)}(ha:PV S (.slice a n c))(hp:∀p∈L,PV S p.1)(hx:Z0s w a L):Z0s v2 a L:=by
 obtain⟨h1,h2⟩:=hx;rw[ZZ]at h1;refine⟨?_,fun p hm=>?_⟩
 ·rw[ZZ]
  intro i hi;obtain⟨b,off,rfl,hc⟩:=h1 i hi;exact⟨b,off,rfl,Z6n hw sh ha hc (hp _ (Z8 (.bool true,[]) hi))⟩
 ·obtain⟨a3,c3,e3,a4,c4,e4,hl,hc⟩:=h2 p hm
  refine⟨a3,c3,e3,a4,c4,e4,hl,fun hne=>?_⟩;obtain⟨b,off,rfl,hb,hk⟩:=hc hne;have hs:=hp p hm;rw[e3]at hs;simp only[Value.slice.injEq]at e4;obtain⟨rfl,_⟩:=e4;have key:∀i j x,(p.2.map Z5)[i]?=some x→j<1→v2.cell? ⟨b,off+i*1+j,none⟩=x[j]?:=by
   intro i j x hi hj;have:=hk i j x hi hj;rw[Yn]at hi;obtain⟨z,_,rfl⟩:=Y3.1 hi;obtain rfl:j=0:=by omega
   exact Z6n hw sh hs this trivial
  refine⟨b,off,rfl,?_,key⟩
  cases hq:p.2 with
  | nil=>rw[hq]at hne;exact absurd rfl hne
  | cons z zs=>exact(Z0G (key 0 0 (Z5 z) (by rw[hq];rfl) (by omega))).1
theorem Z9D(hh:∀b,b<v.heap.size→v2.heap[b]?=v.heap[b]?)(hx:Z0s v a L): Z0s v2 a L:=by
 have cell:∀{b o x},v.cell? ⟨b,o,none⟩=some x→v2.cell? ⟨b,o,none⟩=some x:=fun {b o x} hx=>by
  have:=hh b (Z0G hx).1;unfold World.cell? at hx⊢;rw[this];exact hx
 obtain⟨h1,h2⟩:=hx;rw[ZZ]at h1;refine⟨?_,fun p hm=>?_⟩
 ·rw[ZZ]
  intro i hi;obtain⟨b,off,rfl,hc⟩:=h1 i hi;exact⟨b,off,rfl,cell hc⟩
 ·obtain⟨a3,c3,e3,a4,c4,e4,hl,hc⟩:=h2 p hm
  refine⟨a3,c3,e3,a4,c4,e4,hl,fun hne=>?_⟩;obtain⟨b,off,rfl,hb,hk⟩:=hc hne;have key:∀i j x,(p.2.map Z5)[i]?=some x→j<1→v2.cell? ⟨b,off+i*1+j,none⟩=x[j]?:=by
   intro i j x hi hj;have:=hk i j x hi hj;rw[Yn]at hi;obtain⟨z,_,rfl⟩:=Y3.1 hi;obtain rfl:j=0:=by omega
   exact cell this
  refine⟨b,off,rfl,?_,key⟩
  cases hq:p.2 with
  | nil=>rw[hq]at hne;exact absurd rfl hne
  | cons z zs=>exact(Z0G (key 0 0 (Z5 z) (by rw[hq];rfl) (by omega))).1
theorem Z6b{x:Vm}(hh:∀b,b<v.heap.size→v2.heap[b]?=v.heap[b]?)(h:x.At v):x.At v2:=⟨Z9D hh h.d,Z9D hh h.l⟩
theorem Zd0(hw:∀c,S c→w1.heap[c]?=w.heap[c]?)(sh:Shadow S w1 v2){a:Option Addr}{n c:Nat}{xs:List Int}(ha:PV S (.slice a n c))(hx:Z7 w (.slice a n c) 1 (xs.map Z5)):Z7 v2 (.slice a n c) 1 (xs.map Z5):=by
 obtain⟨a4,c4,e4,hl,hc⟩:=hx;refine⟨a4,c4,e4,hl,fun hne=>?_⟩;obtain⟨b,off,rfl,hb,hk⟩:=hc hne;simp only[Value.slice.injEq]at e4;obtain⟨rfl,_⟩:=e4;have key:∀i j x,(xs.map Z5)[i]?=some x→j<1→v2.cell? ⟨b,off+i*1+j,none⟩=x[j]?:=by
  intro i j x hi hj;have:=hk i j x hi hj;rw[Yn]at hi;obtain⟨z,_,rfl⟩:=Y3.1 hi;obtain rfl:j=0:=by omega
  exact Z6n hw sh ha this trivial
 refine⟨b,off,rfl,?_,key⟩
 cases hq:xs with
 | nil=>rw[hq]at hne;exact absurd rfl hne
 | cons z zs=>exact(Z0G (key 0 0 (Z5 z) (by rw[hq];rfl) (by omega))).1
theorem PV.imp{S S':Nat→Prop}(h:∀b,S b→S' b)(k:PV S x): PV S' x:=by
 cases x with
 | int _ _=>trivial
 | bool _=>trivial
 | pointer a=>cases a with
  | none=>exact k.elim
  | some a=>exact h _ k
 | slice a n c=>cases a with
  | none=>trivial
  | some a=>exact h _ k
 | _=>exact k.elim
theorem Zbu(hw:∀c,S c→w1.heap[c]?=w.heap[c]?)(sh:Shadow S w1 v2){b:Nat}(hb:S b){cs:Array Value}{e:TypeId}{fz:Nat×Nat}(h:w.heap[b]?=some (.cells cs e fz))(hp:∀x∈cs,PV S x):v2.heap[b]?=some (.cells cs e (0,cs.size)):=by
 obtain⟨cs',h1,h2,h3⟩:=sh.at_ b hb cs e fz (by rw[hw b hb];exact h);have:cs'=cs:=by
  refine Array.ext h2 fun i i1 i2=>?_;have:=h3 i _ (Y2 i2) (hp _ (Array.getElem_mem i2));rw[Y2 i1]at this;exact Y1 this
 rw[this]at h1;exact h1
theorem arr4{a b c d:Value}(h:Arr R #[a,b,c,d] ys): ∃a' b' c' d',ys=#[a',b',c',d']∧R a a'∧R b b'∧R c c'∧R d d':=by
 have hl:=h.lis;generalize hy:ys.toList=l at hl
 cases hl with
 | cons h1 t =>
  cases t with
  | cons h2 t =>
   cases t with
   | cons h3 t =>
    cases t with
    | cons h4 t =>
     cases t with
     | nil=>exact⟨_,_,_,_,Array.ext' hy,h1,h2,h3,h4⟩
theorem arr1{a:Value}(h:Arr R #[a] ys): ∃a',ys=#[a']∧R a a':=by
 have hl:=h.lis;generalize hy:ys.toList=l at hl
 cases hl with
 | cons h1 t =>
  cases t with
  | nil=>exact⟨_,Array.ext' hy,h1⟩
end
end Lift
namespace Lift
open Go
def gJ(k:Nat):Bool:=gB k && !([19,53,54,55,56,107].elem k)
noncomputable def okJ(k:Nat):Bool:=match Tryz.prog.funcs[k]? with
 | some fn => !(fn.name == "runtime.NumGoroutine")&&match fn.body with
  | some c=>ZR Tryz.prog gJ (fun _ _=>false) true false false false c
  | none=>false
 | none=>false
theorem ownJ:Qy.own.all (fun k=>!gJ k||okJ k)=true:=by kernel_rfl
theorem Zj8(h:gJ k=true): gB k=true:=by
 unfold gJ at h;rw[Y5]at h;exact h.1
theorem Z9K (h : gJ k=true): k∈Qy.own∧∃fn c, Tryz.prog.funcs[k]?=some fn∧(fn.name == "runtime.NumGoroutine")=false∧fn.body=some c∧ZR Tryz.prog gJ (fun _ _ => false) true false false false c=true := by
 have h0:=Z5C (Zj8 h);have h1:=Yl.1 ownJ k h0;rw[h]at h1;simp only[Bool.not_true,Bool.false_or]at h1;unfold okJ at h1;refine⟨h0,?_⟩
 cases e:Tryz.prog.funcs[k]? with
 | none=>rw[e]at h1;cases h1
 | some fn =>
  rw[e]at h1;simp only[Y5,Bool.not_eq_true']at h1
  cases eb:fn.body with
  | none=>have:=h1.2;rw[eb]at this;cases this
  | some c=>have:=h1.2;rw[eb]at this;exact⟨fn,c,rfl,h1.1,eb,this⟩
section
variable{J:Jk}(hj:J.j)(hg:∀f,J.gd f↔gJ f=true)(hl:∀f,gJ f=true→¬J.law f)(μ:Nat)
include hg hl
include hj in
theorem strip_J:@Strip J Tryz.prog (Qy.F μ) (@CodeOk J Tryz.prog false) (fun f=>gJ f=true):=by
 refine @Strip.mk J _ _ _ _ (fun f h=>⟨Qy.same μ f (Z9K ((hg f).1 h)).1,hl f ((hg f).1 h)⟩) (fun f fn h e=>?_) (fun f fn c h e eb=>?_) (fun f fn h e eb=>?_)<;>rw[Qy.same μ f (Z9K ((hg f).1 h)).1]at e<;>obtain⟨_,fn',c',h1,h2,h3,h4⟩:=Z9K ((hg f).1 h)<;>rw[h1]at e<;>obtain rfl:=Y1 e
 ·exact h2
 ·rw[h3]at eb
  obtain rfl:=Y1 eb;refine⟨h1,?_,(hg f).1 h⟩;have:=@Z1N J Tryz.prog gJ true (fun f q=>(hg f).2 q) (fun q=>by cases q) (fun _ _=>false) (fun f n q=>by cases q) c' false false false h4;have e2:(false=true)=False:=by simp
  rw[e2]at this;exact this
 ·rw[h3]at eb;cases eb
theorem Zj9:@GOk J Tryz.prog (Qy.F μ) (fun f=>gJ f=true):=by
 intro f h;obtain⟨h0,fn,c,h1,h2,h3,h4⟩:=Z9K h;have e:=Qy.same μ f h0;exact⟨e,⟨fn,c,e.trans h1,h3⟩,(hg f).2 h,hl f h⟩
theorem ZgP{n:FuncId}(hn:gJ n=false)(hnl:¬J.law n){c:Code}(h:ZR Tryz.prog gJ (fun _ _=>false) true false true false c=true): @Z0E J Tryz.prog (J.law n) (¬J.gd n) false c:=by
 have:=@Z1N J Tryz.prog gJ true (fun f q=>(hg f).2 q) (fun q=>by cases q) (fun _ _=>false) (fun f n q=>by cases q) c false true false h;have e1:(false=true)=False:=by simp
 have e2:(true=true)=True:=by simp
 rw[e1,e2]at this;have e3:J.law n=False:=by simp[hnl]
 have e4:(¬J.gd n)=True:=by
  rw[hg];simp[hn]
 rw[e3,e4];exact this
end
end Lift
namespace Lift
open Go Go.Conc Go.RowKit Ev Mx
open Go.ConcM (OsLater)
section
variable[Jk]
variable{D:Nat→Prop}{Post:Value→World→Prop}{w:World}{f:Frame}{fs cs:List Frame}{s s':St}
theorem Z8o{a:Addr}(h:¬D a.block)(hl:a.block<w.heap.size)(wr:Bool): EvL (Dk D) w.heap.size ⟨.cell a,wr,false⟩:=by
 refine⟨fun x hx hs=>?_,by simp,by simp,hl⟩;simp only[MemAct.ofEvent,MemAct.touch?,Y4]at hx;subst hx
 rcases hs with⟨a',e,hd⟩ | ⟨c,e,_⟩
 ·simp only[Loc.cell.injEq]at e
  subst e;exact absurd hd h
 ·cases e
theorem Sure.agl(h:SOk s.top s.rest f fs){t:TypeId}{b:Nat}(he:s.lod=some (t,⟨b,0,none⟩)){T:TypeId}{fz:Nat×Nat}(hb:w.heap[b]?=some (.cells ys T fz)){d:TypeDesc}(hd:PP.underlying t=some d)(hr:d.isRow=true)(hi:(PP.info? t).map (·.size)=some ys.size)(ha:s.ans (.agg ys)=some s')(hD:¬D b)(k:∀f',SOk s'.top s'.rest f' fs→Sure PP Post D (run1 f' (fs++cs)) w): Sure PP Post D (run1 f (fs++cs)) w:=by
 refine Sure.step rfl fun w1 hl=>?_;obtain⟨es,e,he2,k2⟩:=ZiE (m:=true) (cs:=cs) (w:=w1) h he (by rw[hl.1];exact hb) hd hr hi ha;refine⟨_,w1,es,e,fun x hx=>?_,by rw[hl.1];exact Ye _,(k _ k2).like hl⟩;obtain⟨j,rfl⟩:=he2 x hx;rw[Addr.add_lit];refine Z8o hD ?_ _;have:=(Y0.1 hb).1;rw[hl.1];exact this
theorem Sure.cal(h:SOk s.top s.rest f fs){g:FuncId}{xs:Array Value}(he:s.cal PP=some (g,xs))(k:Sure PP Post D (run1 (Frame.enter PP g xs .normal) (f::(fs++cs))) w): Sure PP Post D (run1 f (fs++cs)) w:=
 Sure.step rfl fun w1 hl=>⟨_,w1,#[],ZfK h he,by simp,by rw[hl.1];exact Ye _,k.like hl⟩
theorem ZgM(h:SOk s.top s.rest f fs){g:FuncId}{xs:Array Value}(he:s.cal PP=some (g,xs)){y:Value}(ha:s.ans y=some s'): SOk s'.top s'.rest (f.finish y) fs:=by
 obtain⟨o,hp,hx⟩:=Option.bind_eq_some_iff.1 he;obtain⟨ops,i,rest,k,ht,ho,hg,hret,hk⟩:=Z0w hp;exact(Z25 h ht ha).1
theorem Sure.sto(h:SOk s.top s.rest f fs){t:TypeId}{p:Addr}{v:Value}(he:s.sto=some (t,p,v))(hag:∀w,(sizeOf t).run PP w = .ok 1 w)(h1:v.oneCell'=true)(h2:v.cells=#[v])(hc:w.cell? p=some u)(hz:w.frozen? p=false)(ha:s.ans undef=some s')(hD:¬D p.block)(k:∀f',SOk s'.top s'.rest f' fs→Sure PP Post D (run1 f' (fs++cs)) (w.setCell p v)): Sure PP Post D (run1 f (fs++cs)) w:=by
 refine Sure.step rfl fun w1 hl=>?_;have hc1:w1.cell? p=some u:=by rw[←hc];unfold World.cell?;rw[hl.1]
 have hz1:w1.frozen? p=false:=by rw[←hz];unfold World.frozen?;rw[hl.1]
 obtain⟨e,k2⟩:=Zgl (m:=true) (cs:=cs) (w:=w1) h he (hag w1) h1 h2 hc1 hz1 ha;have hsz:w.heap.size≤(w1.setCell p v).heap.size:=by rw[←hl.1];exact Nat.le_of_eq (by simp[World.setCell])
 refine⟨_,_,_,e,fun x hx=>?_,hsz,(k _ k2).like ⟨?_,?_,?_⟩⟩
 ·have:=Conc.mem_seen hx
  simp only[Array.mem_singleton,Yb,List.mem_singleton]at this;subst this;refine Z8o hD ?_ _;have hq:p.block<w.heap.size:=by
   cases hh:w.heap[p.block]? with
   | none=>unfold World.cell? at hc;rw[hh]at hc;simp at hc
   | some o=>exact(Y0.1 hh).1
  exact Y8 hq hsz
 ·simp only[World.setCell,hl.1]
 ·exact hl.2.1
 ·exact hl.2.2
theorem Sure.rcv(h:SOk s.top s.rest f fs)(he:rcvB s=true)(hk:tryRecover f (fs++cs)=none)(ha:s.ans .nilIface=some s')(k:∀f',SOk s'.top s'.rest f' fs→Sure PP Post D (run1 f' (fs++cs)) w):Sure PP Post D (run1 f (fs++cs)) w:=by
 refine Sure.step rfl fun w1 hl=>?_;obtain⟨e,k2⟩:=ZjL (P:=PP) (m:=true) (cs:=cs) (w:=w1) recP h he hk ha;exact⟨_,w1,#[],e,by simp,by rw[hl.1];exact Ye _,(k _ k2).like hl⟩
theorem Sure.lv2{a:FA}(h:FOk a f)(hr:a.ret=true)(hd:a.defs=[])(hk:a.kind = .normal){fn:Func}(hf:PP.funcs[a.fn]?=some fn){t1 t2:Nat}{T:TypeId}(hres:fn.results=#[.tmp t1,.cell t2 T]){y: Value}{b:Nat}(e1:a.env.lookup t1=some y)(e2:a.env.lookup t2=some (pt b))(hag:∀w,(isAgg T).run PP w = .ok false w)(hc:w.cell? ⟨b,0,none⟩=some u)(hD:¬D b){c:Frame}(k:Sure PP Post D (run1 (c.finish (.tuple #[y,u])) cs) w): Sure PP Post D (run1 f (c::cs)) w:=by
 refine Sure.step rfl fun w1 hl=>?_;have hc1:w1.cell? ⟨b,0,none⟩=some u:=by rw[←hc];unfold World.cell?;rw[hl.1]
 obtain⟨es,e,he⟩:=Zjo (m:=true) (cs:=cs) (w:=w1) h hr hd hk hf hres e1 e2 (hag w1) hc1 c;refine⟨_,w1,es,e,fun x hx=>?_,by rw[hl.1];exact Ye _,k.like hl⟩;rw[he x hx];refine Z8o hD ?_ _;rw[hl.1];exact(Z0G (o:=0) hc).1
theorem Zfs{f g:Frame}{K:List Frame}(hk:f.kind = .deferred)(hm:g.mode = .returning): tryRecover f (g::K)=none:=by
 unfold tryRecover;rw[hk];dsimp only;rw[hm]
end
noncomputable def tA:Code:=sqR (sqR (sqR (sqR aB)))
theorem Zks:aB = .seq (sqL aB) (.seq (sqL (sqR aB)) (.seq (sqL (sqR (sqR aB))) (.seq (sqL (sqR (sqR (sqR aB)))) tA))):=by kernel_rfl
theorem Zbl:Tryz.f15.body=some aB:=by kernel_rfl
noncomputable def aF:Frame:={(default:Frame) with fn:=15,kind:=.normal}
def aA(xs:Array Value):Act:={tmps:=xs++Array.replicate (22-xs.size) undef,defers:=[]}
theorem ZbZ{Q:Program}(h:Q.funcs[(15:Nat)]?=some Tryz.f15)(xs:Array Value): Frame.enter Q 15 xs .normal=aF.at (aA xs) [.code aB]:=by
 simp[Frame.enter,Frame.at,h,Zbl,aF,aA,Tryz.ntmps15]
noncomputable abbrev jkA:Jk:={j:=True,rest:=[.code tA],gd:=fun f=>gJ f=true}
theorem ca0:ZR PP gJ (fun _ _=>false) true false true false (sqL aB)=true:=by kernel_rfl
theorem ca1:ZR PP gJ (fun _ _=>false) true false true false (sqL (sqR aB))=true:=by kernel_rfl
theorem ca2:ZR PP gJ (fun _ _=>false) true false true false (sqL (sqR (sqR aB)))=true:=by kernel_rfl
theorem ca3:ZR PP gJ (fun _ _=>false) true false true false (sqL (sqR (sqR (sqR aB))))=true:=by kernel_rfl
noncomputable def sA0(c7 c8 c9 c10:Nat):St:={top:={fn:=15,n:=22,env:=[(7,pt c7),(8,pt c8),(9,pt c9),(10,pt c10)],todo:=[.code tA],defs:=[Z2N c7],kind:=.normal,ret:=false},rest:=[],cvs:=[],mks:=[],deaf:=0}
noncomputable def sA1(c7 c8 c9 c10:Nat):St:=pn PP xtQ 40 (sA0 c7 c8 c9 c10)
noncomputable def sA2(c7 c8 c9 c10:Nat)(b:Value):St:=pn PP xtQ 1 ((sA1 c7 c8 c9 c10).an b)
noncomputable def sA3(c7 c8 c9 c10:Nat)(b y:Value):St:=pn PP xtQ 40 ((sA2 c7 c8 c9 c10 b).an y)
noncomputable def sA4(c7 c8 c9 c10:Nat)(b y:Value):St:=pn PP xtQ 40 ((sA3 c7 c8 c9 c10 b y).an undef)
noncomputable def sA5(c7 c8 c9 c10:Nat)(b y:Value):St:=pn PP xtQ 40 ((sA4 c7 c8 c9 c10 b y).an .nilIface)
section
variable(c7 c8 c9 c10:Nat)(b y:Value)
theorem kA1:(pnq PP xtQ 40 (sA0 c7 c8 c9 c10),(sA1 c7 c8 c9 c10).cvs,(sA1 c7 c8 c9 c10).lod,(sA1 c7 c8 c9 c10).ans b,(sA1 c7 c8 c9 c10).rest)=(true,[],some (85,⟨c8,0,none⟩),some ((sA1 c7 c8 c9 c10).an b),[]):=by kernel_rfl
theorem kA2:(pnq PP xtQ 1 ((sA1 c7 c8 c9 c10).an b),(sA2 c7 c8 c9 c10 b).cvs,(sA2 c7 c8 c9 c10 b).cal PP,(sA2 c7 c8 c9 c10 b).ans y,(sA2 c7 c8 c9 c10 b).rest)=(true,[],some (66,#[b,.func (.func 67) #[] #[pt c8,pt c9,pt c10]]),some ((sA2 c7 c8 c9 c10 b).an y),[]):=by kernel_rfl
theorem kA3:(pnq PP xtQ 40 ((sA2 c7 c8 c9 c10 b).an y),(sA3 c7 c8 c9 c10 b y).cvs,(sA3 c7 c8 c9 c10 b y).sto,(sA3 c7 c8 c9 c10 b y).ans undef,(sA3 c7 c8 c9 c10 b y).rest)=(true,[],some (30,⟨c7,0,none⟩,.int .i64 0),some ((sA3 c7 c8 c9 c10 b y).an undef),[]):=by kernel_rfl
theorem kA4:(pnq PP xtQ 40 ((sA3 c7 c8 c9 c10 b y).an undef),(sA4 c7 c8 c9 c10 b y).cvs,rcvB (sA4 c7 c8 c9 c10 b y),(sA4 c7 c8 c9 c10 b y).ans .nilIface,(sA4 c7 c8 c9 c10 b y).rest.map (·.ret),(sA4 c7 c8 c9 c10 b y).top.kind)=(true,[],true,some ((sA4 c7 c8 c9 c10 b y).an .nilIface),[true],.deferred):=by kernel_rfl
theorem kA5:(pnq PP xtQ 40 ((sA4 c7 c8 c9 c10 b y).an .nilIface),(sA5 c7 c8 c9 c10 b y).cvs,(sA5 c7 c8 c9 c10 b y).top.ret,(sA5 c7 c8 c9 c10 b y).top.defs,(sA5 c7 c8 c9 c10 b y).top.kind,(sA5 c7 c8 c9 c10 b y).top.fn,(sA5 c7 c8 c9 c10 b y).top.env.lookup 6,(sA5 c7 c8 c9 c10 b y).top.env.lookup 7,(sA5 c7 c8 c9 c10 b y).rest)
  = (true,[],true,[],.normal,15,some y,some (pt c7),[]):=by kernel_rfl
end
end Lift
namespace Lift
open Go Go.Conc Go.RowKit Ev Mx
open Go.ConcM (OsLater)
structure VatC(D S:Nat→Prop)(x:Vm)(w:World):Prop where
 blk:∀b,S b→∃cs e fz,w.heap[b]?=some (.cells cs e fz)
 off:∀b,S b→¬D b
 low:∀c,D c→c<w.heap.size
 da:PV S (.slice x.da x.D.length x.dc)
 la:PV S (.slice x.la x.L.length x.lc)
 dp:∀p∈x.D,PV S p.1
 lp:∀p∈x.L,PV S p.1
 at_:x.At w
theorem VatC.shadow{D:Nat→Prop}{x:Vm}{S:Nat→Prop}{w w1 v:World}(H:VatC D S x w)(hw:∀c,S c→w1.heap[c]?=w.heap[c]?)(sh:Shadow S w1 v): x.At v:=
 ⟨@ZfX jkN _ _ _ _ hw sh _ _ _ _ H.da H.dp H.at_.d,@ZfX jkN _ _ _ _ hw sh _ _ _ _ H.la H.lp H.at_.l⟩
def alkB(x:Vm)(f g:Nat→Int)(k:Nat):Bool:=decide (k<x.L.length)&&alkE x k f g
section
variable[Jk]{C:Inv}{r:Ren}{v w:World}{D:Nat→Prop}
theorem Z7N{B:Int}(hB:1≤B){p:Value×List Int}(h:(p.2.length:Int)=B): p.2≠[]:=by
 intro e;rw[e]at h;simp at h;omega
theorem Zkf{x:Vm}(hv:VOk x)(hx:x.At v)(hw:WH C r v w)(ho:Off D r w){y:Value}(hy:VR r x.val y):∃x':Vm,y=x'.val∧AlkV' x' x∧VatC D (Rg r w) x' w:=by
 have hy:VR r (.agg #[.int .i64 x.B,.slice x.da x.D.length x.dc,.slice x.la x.L.length x.lc,.int .i64 x.tol]) y:=hy;have d0:x.D≠[]:=by intro e;have:=hv.d1;rw[e]at this;simp at this
 have l0:x.L≠[]:=by intro e;have:=hv.l1;rw[e]at this;simp at this
 cases hy with
 | @agg _ ys hs1 hs2 =>
  obtain⟨y1,y2,y3,y4,rfl,h1,h2,h3,h4⟩:=arr4 (R:=VR r) ⟨hs1,hs2⟩
  cases h1
  cases h4
  obtain⟨da,D',rfl,pd,ad,md,qd⟩:=ZfW hw rfl d0 (fun p hp=>Z7N hv.b1 (hv.dl p hp).1) hx.d h2;obtain⟨la,L',rfl,pl,al,ml,ql⟩:=ZfW hw rfl l0 (fun p hp=>Z7N hv.b1 (hv.ll p hp).1) hx.l h3;have dl:D'.length=x.D.length:=by have:=congrArg List.length md;simpa using this
  have ll:L'.length=x.L.length:=by have:=congrArg List.length ml;simpa using this
  refine⟨{B:=x.B,D:=D',da:=da,dc:=x.dc,L:=L',la:=la,lc:=x.lc,tol:=x.tol},by simp only[Vm.val,dl,ll],⟨rfl,rfl,md,ml⟩,⟨fun b hb=>hb.2,fun b hb hd=>?_,ho.low,?_,?_,qd,ql,⟨ad,al⟩⟩⟩
  ·obtain⟨⟨a,ha⟩,_⟩:=hb
   exact ho.names a b ha hd
  ·rw[dl];exact pd
  ·rw[ll];exact pl
theorem Z9W(hw:WH C r v w){a:Option Addr}{c:Nat}{l:List Int}(hl:l≠[])(hr:Z7 v (.slice a l.length c) 1 (l.map Z5)){y:Value}(hy:VR r (.slice a l.length c) y):∃a',y = .slice a' l.length c∧Z7 w (.slice a' l.length c) 1 (l.map Z5)∧PV (Rg r w) (.slice a' l.length c):=by
 have h1:=ZcZ hw hr hl hy;obtain⟨a',rfl,h2⟩:=Z9V hw hr hy;exact⟨a',rfl,h2,h1⟩
end
def AlS(x:Vm)(f g:Nat→Int)(v:World)(V:List Frame)(u:World):Prop:=∃T0 T f',V=[f',poison]∧AlA x f g (re v T0) aF f' (re u T)
theorem Zgv{J:Jk}(hj:J.j)(hg:∀f,J.gd f↔gJ f=true)(hn:∀f,¬J.law f)(hr0:J.rest=[.code tA]){D S:Nat→Prop}{Post:Value→World→Prop}{w:World}{x:Vm}(hv:VOk x)(H:VatC D S x w){l': List Int}(hl:RcpOk x l)(hl':RcpOk x l'){a1 a2:Option Addr}{c1 c2:Nat}(hr:Z7 w (.slice a1 l.length c1) 1 (l.map Z5))(hr':Z7 w (.slice a2 l'.length c2) 1 (l'.map Z5))(p1:PV S (.slice a1 l.length c1))(p2:PV S (.slice a2 l'.length c2)){cs:List Frame} (next:∀(S':Nat→Prop) (a:Act) (w':World) (c7 c8 c9 c10:Nat),VatC D S' x w'→a.tmps.size=22→a.tmps[7]?=some (pt c7)→a.tmps[8]?=some (pt c8)→a.tmps[9]?=some (pt c9)→a.tmps[10]?=some (pt c10)→a.defers=[Z2N c7] →
   S' c7→S' c8→S' c9→S' c10→w'.heap[c7]?=some (.cells #[.int .i64 0] 30 (0,0))→w'.heap[c8]?=some (.cells #[.int .i64 x.B,.slice x.da x.D.length x.dc,.slice x.la x.L.length x.lc,.int .i64 x.tol] 85 (0,0)) →
   w'.heap[c9]?=some (.cells (tubC (val l)) 88 (0,0))→w'.heap[c10]?=some (.cells (tubC (val l')) 88 (0,0))→(∀b,b<w.heap.size→w'.heap[b]?=w.heap[b]?)→w.heap.size≤w'.heap.size→w'.os=w.os→w'.output=w.output→Sure PP Post D (run1 (aF.at a [.code tA]) cs) w'):
  Sure PP Post D (run1 (Frame.enter PP 15 #[x.val,.slice a1 l.length c1,.slice a2 l'.length c2] .normal) cs) w:=by
 have hS2:Strip PP (Qy.F 1) (CodeOk PP false) (fun f=>gJ f=true):=strip_J hj hg (fun f _=>hn f) 1;have hG:GOk PP (Qy.F 1) (fun f=>gJ f=true):=Zj9 hg (fun f _=>hn f) 1;have hR:Rec PP:=⟨recP,hn⟩;obtain⟨v,hsh,hwh,hshut⟩:=Z28 (P:=PP) (F:=Qy.F 1) (w:=w) hj H.blk;have hat:x.At v:=H.shadow (fun _ _=>rfl) hsh;have hrv:=@Zd0 jkN _ _ _ _ (fun _ _=>rfl) hsh _ _ _ _ p1 hr;have hrv':=@Zd0 jkN _ _ _ _ (fun _ _=>rfl) hsh _ _ _ _ p2 hr';have hown:(Qy.F 1)[(15:Nat)]?=PP.funcs[(15:Nat)]?:=Qy.own15.trans (by kernel_rfl);rw[ZbZ (Q:=PP) (by kernel_rfl)];have cj:∀{c:Code},ZR PP gJ (fun _ _=>false) true false true false c=true→Z0E PP (Jk.law 15) (¬Jk.gd 15) false c:=fun q=>ZgP hg (fun f _=>hn f) (by decide) (hn _) q;obtain⟨xs,hxs⟩:∃xs:Array Value,xs=#[x.val,.slice a1 l.length c1,.slice a2 l'.length c2]:=⟨_,rfl⟩;have hargs:VRs (idS S) xs xs:=by
  rw[hxs];refine⟨rfl,fun i a b h1 h2=>?_⟩;rw[h1]at h2;obtain rfl:=Y1 h2;have:=Yk h1;simp only[Yb,Yc,Ya,or_false]at this
  rcases this with rfl | rfl | rfl
  ·refine .agg rfl fun i a b h1 h2=>?_
   rw[h1]at h2;obtain rfl:=Y1 h2;have:=Yk h1;simp only[Yb,Yc,Ya,or_false]at this
   rcases this with rfl | rfl | rfl | rfl
   ·exact .int _ _
   ·exact H.da.vr
   ·exact H.la.vr
   ·exact .int _ _
  ·exact p1.vr
  ·exact p2.vr
 rw[←hxs];have hfr:FrR PP (Qy.F 1) (idS S) (aF.at (aA xs) [.code cAli]) (aF.at (aA xs) [.code aB]):=by
  refine @FrR.mk J PP (Qy.F 1) (idS S) _ _ ?c1 ?c2 ?c3 ?c4 ?c5 ?c6 ?c7 ?c8
  case c1=>exact(rfl:(15:Nat)=15)
  case c2=>exact hown
  case c5=>exact⟨.nil,fun q=>absurd q (hn _)⟩
  case c6=>exact .run
  case c7=>exact⟨(rfl:CallKind.normal = .normal),.inl (rfl:CallKind.normal = .normal)⟩
  case c8=>exact .none
  ·show VRs (idS S) (xs++Array.replicate (22-xs.size) undef) (xs++Array.replicate (22-xs.size) undef)
   exact Arr.append hargs (Arr.replicate _ .undef)
  ·have:=Zks
   generalize hq:aB=z at this;refine Todo.cut rfl (fun _=>⟨rfl,rfl⟩) ?_;rw[this,←hq];exact .seq (cj ca0) (.seq (cj ca1) (.seq (cj ca2) (.seq (cj ca3) (.stop hr0))))
 have hst:Stk PP (Qy.F 1) (idS S) [aF.at (aA xs) [.code cAli]] [aF.at (aA xs) [.code aB]]:=⟨.cons hfr .nil,⟨.inl rfl,fun h=>absurd rfl h⟩,trivial⟩;have hF:Has 22 [] (aA xs) [(0,x.val),(1,.slice a1 l.length c1),(2,.slice a2 l'.length c2)]:=by
  rw[hxs];refine⟨rfl,by simp[aA],fun k u e=>?_⟩;simp only[Yp,List.lookup_nil]at e
  repeat' split at e
  all_goals first | (cases e;done) | (rename_i q;rw[beq_iff_eq]at q;subst q;obtain rfl:=Y1 e;simp[aA])
 have hEn:Ends (PF PP (Qy.F 1)) (AlS x (val l) (val l') v) [aF.at (aA xs) [.code cAli],poison] v:=by
  obtain⟨T0,hw0⟩:=hwh.tape;obtain⟨σ,hw2⟩:=hw0.retape v.tape;refine Z1c hS2 hG hR ?_ (.inl ⟨[],_,[],_,_,rfl,hst,hw2⟩) fun T=>?_
  ·rintro V u T ⟨T1,T2,f',e,q⟩
   exact⟨T1,T2,f',e,q⟩
  ·obtain⟨f',w',hz,n,hn⟩:=ZiF x hv l l' hl hl' a1 a2 c1 c2 (re v T) (Z6b (v:=v) (v2:=re v T) (fun b _=>rfl) hat) hrv hrv' aF _ hF
   exact⟨n,f',[poison],w',hn,T,w'.tape,f',rfl,hz⟩
 refine Sure.lone (A:=[]) (B:=[]) hS2 hG hR (fun y u=>by rintro⟨T1,T2,f',e,q⟩;cases e) hEn rfl hst hwh ⟨fun b c hb=>by obtain⟨q1,rfl⟩:=Z0z hb;exact H.off _ q1,H.low⟩ ?_;intro f' A' g' B' r' v' w' hs hst' hw' hk;obtain⟨T1,T2,f2,e,hq⟩:=hs;simp only[List.cons.injEq]at e;obtain⟨rfl,e⟩:=e;have hA:A'=[]:=by
  cases A' with
  | nil=>rfl
  | cons a0 l0 =>
   have:=congrArg List.length e;simp at this
 subst hA;have hB:B'=[]:=by
  obtain⟨_,h,_⟩:=hst'.uncons;have:=h.rel
  cases B' with
  | nil=>rfl
  | cons b bs=>cases this
 subst hB;obtain⟨a,n7,n8,n9,n10,rfl,F,q7,q8,q9,q10,l7,l8,l9,l10,m8,m9,m10,E⟩:=hq.ex;have hi:Idn r':=fun b c hb=>by
  rcases (hk.par hsh.size).2.1 b c hb with q | q
  ·exact(Z0z q).2
  ·exact q.symm
 have hf:=hst'.uncons.1;obtain⟨gfn,gt,gtodo,gdef,gmode,gkind,gound⟩:=g';obtain⟨f1,_,f3,f4,f5,f6,f7,f8⟩:=hf;have e1:gtodo=[.code tA]:=by
  have f4 : Todo _ _ _ _ _ [.code (.refuse "")] gtodo := f4
  cases f4 with
  | cons x y =>
   cases x with
   | code hc=>exact hc.elim
  | tail=>exact hr0
  | cut _ _ h =>
   cases h with
   | stop h=>rw[←h,hr0]
 have e2:gmode = .run:=by cases f6;rfl
 have e3:gound=none:=by cases f8;rfl
 obtain⟨f7,_⟩:=f7;obtain⟨f5,_⟩:=f5;dsimp only[Frame.at,aF]at f1 f3 f5 f7;subst e1 e2 e3 f1 f7;have slot:∀k n,k<22→a.tmps.getD k undef=pt n→r' n=some n∧gt[k]?=some (pt n):=by
  intro k n hk e;have h2:k<a.tmps.size:=by rw[F.sz];exact hk
  have h3:k<gt.size:=by rw[←f3.1];exact h2
  have:=f3.2 k _ _ (Y2 h2) (Y2 h3);rw[Y6,Y2 h2]at e;simp only[Option.getD_some]at e;rw[e]at this;rw[Y2 h3];generalize gt[k]=z at this
  cases this with
  | ptr q =>
   cases q with
   | mk q =>
    obtain rfl:=hi _ _ q;exact⟨q,rfl⟩
 obtain⟨s7,g7⟩:=slot 7 n7 (by decide) (F.get 7 _ rfl);obtain⟨s8,g8⟩:=slot 8 n8 (by decide) (F.get 8 _ rfl);obtain⟨s9,g9⟩:=slot 9 n9 (by decide) (F.get 9 _ rfl);obtain⟨s10,g10⟩:=slot 10 n10 (by decide) (F.get 10 _ rfl);have tb:∀(f:Nat→Int),∀y∈tubC f,PF1 S y:=by
  intro f y hy;simp only[tubC,Yb,Yc,Ya,or_false]at hy
  rcases hy with rfl | rfl | rfl | rfl<;>exact .inl trivial
 have k7:=ZP (S:=S) hi hw' ⟨_,s7⟩ q7 (by simp) (by simp[PF1,PV]);have k8:=ZP (S:=S) hi hw' ⟨_,s8⟩ q8 (by simp) (by
  intro y hy;simp only[Yb,Yc,Ya,or_false]at hy
  rcases hy with rfl | rfl | rfl | rfl
  ·exact .inl trivial
  ·exact .inl H.da
  ·exact .inl H.la
  ·exact .inl trivial)
 have k9:=ZP (S:=S) hi hw' ⟨_,s9⟩ q9 (by simp[tubC]) (tb _);have k10:=ZP (S:=S) hi hw' ⟨_,s10⟩ q10 (by simp[tubC]) (tb _);have hd:gdef=[Z2N n7]:=by
  have hds:a.defers=[Z2N n7]:=F.ds;rw[hds]at f5
  cases f5 with
  | cons d t =>
   cases t
   obtain⟨d1,d2⟩:=d;rename_i d0;obtain⟨dt,da⟩:=d0;dsimp only[Z2N]at d1 d2;obtain⟨y,rfl,hy⟩:=arr1 d2
   cases d1 with
   | fn hf q =>
    cases hf
    have:_=(#[]:Array Value):=Array.eq_empty_of_size_eq_zero q.1.symm;subst this
    cases hy with
    | ptr z =>
     cases z with
     | mk z =>
      obtain rfl:=hi _ _ z
      rfl
 have hold:∀b,b<w.heap.size→w'.heap[b]?=w.heap[b]?:=by
  intro b hb
  by_cases q:S b
  ·exact hk.shutW b b (hshut _ _ (Z1i q)) (Z1i q)
  ·refine hk.far b hb fun c hc=>?_
   obtain⟨q1,q2⟩:=Z0z hc;exact q (q2▸q1)
 have hsz:w.heap.size≤w'.heap.size:=hk.sizeW;have vs:v.heap.size=w.heap.size:=hsh.size;have l7:v.heap.size≤n7:=l7;have l8:v.heap.size≤n8:=l8;have l9:v.heap.size≤n9:=l9;have l10:v.heap.size≤n10:=l10;have hin:∀b,S b→(S b∨b=n7∨b=n8∨b=n9∨b=n10):=fun b h=>.inl h;refine next (fun b=>S b∨b=n7∨b=n8∨b=n9∨b=n10) ⟨gt,gdef⟩ w' n7 n8 n9 n10 ⟨fun b hb=>?_,fun b hb hd=>?_,fun c hc=>Y8 (H.low c hc) hsz,H.da.imp hin,H.la.imp hin,fun p hp=>(H.dp p hp).imp hin,fun p hp=>(H.lp p hp).imp hin,Z6b (v:=w) hold H.at_⟩ (by show gt.size=22;rw[←f3.1];exact F.sz) g7 g8 g9 g10 hd (.inr (.inl rfl)) (.inr (.inr (.inl rfl))) (.inr (.inr (.inr (.inl rfl)))) (.inr (.inr (.inr (.inr rfl)))) k7 k8 k9 k10 hold hsz hk.os.2.symm hk.out
 ·rcases hb with h | rfl | rfl | rfl | rfl
  ·obtain⟨cs0,e0,fz0,h0⟩:=H.blk b h
   exact⟨cs0,e0,fz0,by rw[hold b (Y0.1 h0).1];exact h0⟩
  ·exact⟨_,_,_,k7⟩
  ·exact⟨_,_,_,k8⟩
  ·exact⟨_,_,_,k9⟩
  ·exact⟨_,_,_,k10⟩
 ·have:=H.low b hd
  rcases hb with h | rfl | rfl | rfl | rfl
  ·exact H.off b h hd
  all_goals omega
end Lift
namespace Lift
open Go Go.Conc Go.RowKit Ev Mx
open Go.ConcM (OsLater)
theorem Zcn(h:IntR base w l y)(e:∀b:Nat,w'.heap[b]?=w.heap[b]?): IntR base w' l y:=by
 rcases h with h | ⟨g,c,h1,h2,h3,h4,h5,h6⟩
 ·exact .inl h
 ·exact .inr ⟨g,c,h1,h2,h3,h4,h5,(e g).trans h6⟩
theorem ZeT{T:TypeId}{fz:Nat×Nat}(h:w.heap[b]?=some (.cells #[x] T fz))(c:Nat): (w.setCell ⟨b,0,none⟩ x).heap[c]?=w.heap[c]?:=by
 simp only[World.setCell]
 by_cases e:b=c
 ·subst e
  have:=(Y0.1 h).1;rw[Array.getElem?_modify];simp[h]
 ·rw[Array.getElem?_modify]
  simp[e]
theorem Zfu{w3 w4: World}{Mu Wg:Nat}(hold:∀b:Nat,b<w.heap.size→w'.heap[b]?=w.heap[b]?)(hsz:w.heap.size≤w'.heap.size)(hos:w'.os=w.os)(hout:w'.output=w.output)(U:UnE l w' w3 y Mu Wg)(e:∀b:Nat,w4.heap[b]?=w3.heap[b]?)(hs:w4.heap.size=w3.heap.size)(ho:w4.os=w3.os)(hu:w4.output=w3.output): UnE l w w4 y Mu Wg:=by
 refine⟨Zcn (Z7F U.lst hsz) e,fun b hb=>?_,?_,?_,?_,⟨Yd hsz U.mu.1,by rw[hs];exact U.mu.2⟩,⟨Yd hsz U.wg.1,by rw[hs];exact U.wg.2⟩,U.ne⟩
 ·rw[e,U.old b (Y8 hb hsz),hold b hb]
 ·rw[hs];exact Yd hsz U.size
 ·rw[ho,←hos];exact U.os
 ·rw[hu,U.out,hout]
theorem ZjN{c7 c8 c9 c10:Nat}{a:Act}(hsz:a.tmps.size=22)(g7:a.tmps[7]?=some (pt c7))(g8:a.tmps[8]?=some (pt c8))(g9:a.tmps[9]?=some (pt c9))(g10:a.tmps[10]?=some (pt c10))(hd:a.defers=[Z2N c7]):
  SOk (sA0 c7 c8 c9 c10).top (sA0 c7 c8 c9 c10).rest (aF.at a [.code tA]) []:=by
 refine⟨⟨rfl,hsz,fun t u e=>?_,rfl,hd,rfl,rfl,rfl⟩,.nil⟩;have e:[(7,pt c7),(8,pt c8),(9,pt c9),(10,pt c10)].lookup t=some u:=e;show a.tmps[t]?=some u;simp only[Yp,List.lookup_nil]at e
 repeat' split at e
 all_goals first | (cases e;done) | (rename_i q;rw[beq_iff_eq]at q;subst q;obtain rfl:=Y1 e;assumption)
theorem Z6M{xs:List FA}(h:Lis FOk xs fs)(e:xs=[]): fs=[]:=by
 subst e
 cases h;rfl
theorem Zhe{xs:List FA}(h:Lis FOk xs fs)(e:xs.map (·.ret)=[true]): ∃g,fs=[g]∧g.mode = .returning:=by
 cases h with
 | nil=>cases e
 | cons a t =>
  simp only[List.map_cons,List.cons.injEq,List.map_eq_nil_iff]at e;obtain⟨e1,rfl⟩:=e
  cases t
  exact⟨_,rfl,by rw[a.mode,e1];rfl⟩
theorem Zbs:(PP.info? 85).map (·.size)=some 4:=by kernel_rfl
theorem Zeb(w:World):(sizeOf 30).run PP w = .ok 1 w:=by kernel_rfl
theorem ZgV(w:World):(isAgg 30).run PP w = .ok false w:=by kernel_rfl
theorem Z98:PP.funcs[(15:Nat)]?=some Tryz.f15:=by kernel_rfl
theorem Zgw:Tryz.f15.results=#[.tmp 6,.cell 7 30]:=by kernel_rfl
theorem Zbm{D S:Nat→Prop}{Post:Value→World→Prop}{x:Vm}(hv:VOk x)(H0:VatC D S x w){l': List Int}(hl:RcpOk x l)(hl':RcpOk x l'){a1 a2:Option Addr}{c1 c2:Nat}(hr:Z7 w (.slice a1 l.length c1) 1 (l.map Z5))(hr':Z7 w (.slice a2 l'.length c2) 1 (l'.map Z5))(r1:PV S (.slice a1 l.length c1))(r2:PV S (.slice a2 l'.length c2)){c:Frame}{cs:List Frame}(ret:∀w' y Mu Wg,UnE (Zw x.L.length (alkB x (val l) (val l'))) w w' y Mu Wg→Sure PP Post (fun c=>D c∨c=Mu∨c=Wg) (run1 (c.finish (.tuple #[y,.int .i64 0])) cs) w'):
  Sure PP Post D (run1 (Frame.enter PP 15 #[x.val,.slice a1 l.length c1,.slice a2 l'.length c2] .normal) (c::cs)) w:=by
 letI:Jk:=jkA;refine Zgv (J:=jkA) trivial (fun f=>Iff.rfl) (fun f h=>h) rfl hv H0 hl hl' hr hr' r1 r2 fun S a w' c7 c8 c9 c10 H hsz g7 g8 g9 g10 hd s7 s8 s9 s10 q7 q8 q9 q10 hold hsz' hos' hout'=>?_;have k0:=ZjN hsz g7 g8 g9 g10 hd;have b7:c7<w'.heap.size:=(Y0.1 q7).1;obtain⟨B,hB⟩:∃B:Value,B = .agg #[.int .i64 x.B,.slice x.da x.D.length x.dc,.slice x.la x.L.length x.lc,.int .i64 x.tol]:=⟨_,rfl⟩;obtain⟨p1,p2,p3,p4,p5⟩:=by simpa only[Y9] using kA1 c7 c8 c9 c10 B
 refine Sure.pn (cs:=c::cs) xokQ 40 (sA0 c7 c8 c9 c10) k0 p1 p2 fun f1 fs1 k1=>?_;obtain rfl:=Z6M k1.2 p5;refine Sure.agl (s:=sA1 c7 c8 c9 c10) k1 p3 q8 Tryz.underlying85 rfl Zbs (by rw[←hB];exact p4) (H.off _ s8) fun f2 k2=>?_;obtain⟨p1,p2,p3,p4,p5⟩:=by simpa only[Y9] using kA2 c7 c8 c9 c10 B undef
 refine Sure.pn (cs:=c::cs) xokQ 1 _ k2 p1 p2 fun f3 fs3 k3=>?_;obtain rfl:=Z6M k3.2 p5;refine Sure.cal (s:=sA2 c7 c8 c9 c10 B) k3 p3 ?_;rw[hB];refine Zdw (x:=x) (S:=S) (ys:=#[pt c8,pt c9,pt c10]) (β:=alkB x (val l) (val l')) (c:=f3) hv.l1 hv.l3 (.inr rfl) H.blk H.off H.low H.da H.la ?_ ?_ ?_ ?_
 ·intro y hy
  simp only[Yb,Yc,Ya,or_false]at hy
  rcases hy with rfl | rfl | rfl
  ·exact s8
  ·exact s9
  ·exact s10
 ·intro k hk
  have:¬k<x.L.length:=by omega
  simp[alkB,this]
 ·intro w1 v1 hw1 sh k hk
  have hat:x.At v1:=H.shadow hw1 sh;have h8:=@Zbu jkN _ _ _ _ hw1 sh _ s8 _ _ _ q8 (by
   intro y hy;simp only[Yb,Yc,Ya,or_false]at hy
   rcases hy with rfl | rfl | rfl | rfl
   ·trivial
   ·exact H.da
   ·exact H.la
   ·trivial)
  have tb:∀(f:Nat→Int),∀y∈tubC f,PV S y:=by
   intro f y hy;simp only[tubC,Yb,Yc,Ya,or_false]at hy
   rcases hy with rfl | rfl | rfl | rfl<;>trivial
  have h9:=@Zbu jkN _ _ _ _ hw1 sh _ s9 _ _ _ q9 (tb _);have h10:=@Zbu jkN _ _ _ _ hw1 sh _ s10 _ _ _ q10 (tb _);have hc:=Z7s (μ:=2) x hv k hk (val l) (val l') (hl.tub) (hl'.tub) c8 c9 c10 _ _ _ _ _ _ v1 hat h8 h9 h10;have hk2:k<x.L.length:=by omega
  have e:alkB x (val l) (val l') k=alkE x k (val l) (val l'):=by
   simp[alkB,hk2]
  rw[e];exact hc.mono fun _ _ q=>q.1
 ·intro w3 y Mu Wg U
  obtain⟨_,_,p3',p4',_⟩:=by simpa only[Y9] using kA2 c7 c8 c9 c10 B y
  have k4:=ZgM k3 p3' p4';obtain⟨p1,p2,p3,p4,p5⟩:=by simpa only[Y9] using kA3 c7 c8 c9 c10 B y
  refine Sure.pn (cs:=c::cs) xokQ 40 _ k4 p1 p2 fun f5 fs5 k5=>?_;obtain rfl:=Z6M k5.2 p5;have q7':w3.heap[c7]?=some (.cells #[.int .i64 0] 30 (0,0)):=by rw[U.old c7 b7];exact q7
  have hD7:¬(D c7∨c7=Mu∨c7=Wg):=by
   have m1:=U.mu.1;have m2:=U.wg.1;rintro (q | q | q)
   ·exact H.off _ s7 q
   ·omega
   ·omega
  refine Sure.sto (s:=sA3 c7 c8 c9 c10 B y) k5 p3 Zeb rfl rfl ((Z0 q7' 0).trans rfl) (Za q7' 0) p4 hD7 fun f6 k6=>?_;have hset:=ZeT (x:=.int .i64 0) q7';obtain⟨w4,hw4⟩:∃w4,w4=w3.setCell ⟨c7,0,none⟩ (.int .i64 0):=⟨_,rfl⟩;have hs4:w4.heap.size=w3.heap.size:=by rw[hw4];simp[World.setCell]
  have ho4:w4.os=w3.os:=by rw[hw4];rfl
  have hu4:w4.output=w3.output:=by rw[hw4];rfl
  rw[←hw4]at hset⊢;obtain⟨p1,p2,p3,p4,p5,p6⟩:=by simpa only[Y9] using kA4 c7 c8 c9 c10 B y
  refine Sure.pn (cs:=c::cs) xokQ 40 _ k6 p1 p2 fun f7 fs7 k7=>?_;obtain⟨g,rfl,hg⟩:=Zhe k7.2 p5;refine Sure.rcv (s:=sA4 c7 c8 c9 c10 B y) k7 p3 (Zfs (k7.1.kind.trans p6) hg) p4 fun f8 k8=>?_;obtain⟨p1,p2,p3,p4,p5,p6,p7,p8,p9⟩:=by simpa only[Y9] using kA5 c7 c8 c9 c10 B y
  refine Sure.pn (cs:=c::cs) xokQ 40 _ k8 p1 p2 fun f9 fs9 k9=>?_;obtain rfl:=Z6M k9.2 p9;refine Sure.lv2 (a:=(sA5 c7 c8 c9 c10 B y).top) k9.1 p3 p4 p5 (by rw[p6];exact Z98) Zgw p7 p8 ZgV ((Z0 ((hset c7).trans q7') 0).trans rfl) hD7 ?_;exact ret w4 y Mu Wg (Zfu hold hsz' hos' hout' U hset hs4 ho4 hu4)
end Lift
namespace Lift
open Go Go.Conc Go.RowKit Ev
open Go.ConcM (OsLater)
abbrev jkW:Jk:={j:=True,rest:=[],gd:=fun f=>gJ f=true,law:=fun f=>f=lawF,jmp:=fun f=>f=15∨f=19,ar:=fun f=>if f=15 then 3 else 0}
theorem lawJ(f:FuncId)(h:gJ f=true):¬f=lawF:=by
 rintro rfl;revert h
 decide
theorem Zk5:@Strip jkW PP (Qy.F 0) (@CodeOk jkW PP false) (fun f=>gJ f=true):=strip_J (J:=jkW) trivial (fun _=>Iff.rfl) lawJ 0
theorem gokW:@GOk jkW PP (Qy.F 0) (fun f=>gJ f=true):=Zj9 (J:=jkW) (fun _=>Iff.rfl) lawJ 0
section
variable[Jk]{C:Inv}{r:Ren}{v w u w':World}{D:Nat→Prop}
theorem Zih(hw:WH C r v w)(hu:∀b,b<v.heap.size→u.heap[b]?=v.heap[b]?)(hv:∀b,b<w.heap.size→w'.heap[b]?=w.heap[b]?)(he:u.os.env=w'.os.env){a b:Nat}{cs:Array Value}{e:TypeId}
  (h1:u.heap[a]?=some (.cells cs e (0,0))) (h2:w'.heap[b]?=some (.cells cs e (0,0))) (ha:v.heap.size≤a) (hb:w.heap.size≤b) (hcs:∀x∈cs,∃n,x = .int .i64 n):WH C (r.add a b) u w'∧r.le (r.add a b):=by
 have hlt:∀c d,r c=some d→c<v.heap.size∧d<w.heap.size:=fun c d q=>by
  obtain⟨o,o',g1,g2,_⟩:=hw.on _ _ q;exact⟨(Y0.1 g1).1,(Y0.1 g2).1⟩
 have hinj:Inj (r.add a b):=fun x y c hx hy=>by
  unfold Ren.add at hx hy
  split at hx<;>split at hy
  ·omega
  ·have:=(hlt _ _ hy).2
   obtain rfl:=Y1 hx;omega
  ·have:=(hlt _ _ hx).2
   obtain rfl:=Y1 hy;omega
  ·exact hw.inj _ _ _ hx hy
 have hle:r.le (r.add a b):=⟨fun x c h=>by
  unfold Ren.add;rw[if_neg (by have:=(hlt _ _ h).1;omega)];exact h,fun _=>hinj⟩
 refine⟨⟨fun x c h=>?_,hinj,he⟩,hle⟩;unfold Ren.add at h
 split at h
 ·rename_i q
  subst q;obtain rfl:=Y1 h;refine⟨_,_,h1,h2,.cells ⟨rfl,fun i y z hy hz=>?_⟩ (.inl ⟨rfl,rfl⟩)⟩;rw[hy]at hz;obtain rfl:=Y1 hz;obtain⟨n,rfl⟩:=hcs _ (Yk hy);exact .int _ _
 ·obtain⟨o,o',g1,g2,g3⟩:=hw.on _ _ h
  exact⟨o,o',by rw[hu _ (hlt _ _ h).1];exact g1,by rw[hv _ (hlt _ _ h).2];exact g2,g3.mono hle⟩
theorem Zdy(hw:WH C r v w)(hu:∀b,b<v.heap.size→u.heap[b]?=v.heap[b]?)(hv:∀b,b<w.heap.size→w'.heap[b]?=w.heap[b]?)(he:u.os.env=w'.os.env):WH C r u w':=
 ⟨fun x c h=>by
  obtain⟨o,o',g1,g2,g3⟩:=hw.on _ _ h;exact⟨o,o',by rw[hu _ (Y0.1 g1).1];exact g1,by rw[hv _ (Y0.1 g2).1];exact g2,g3⟩,hw.inj,he⟩
theorem arr3{a b c:Value}(h:Arr R #[a,b,c] ys): ∃a' b' c',ys=#[a',b',c']∧R a a'∧R b b'∧R c c':=by
 have hl:=h.lis;generalize hy:ys.toList=l at hl
 cases hl with
 | cons h1 t =>
  cases t with
  | cons h2 t =>
   cases t with
   | cons h3 t =>
    cases t with
    | nil=>exact⟨_,_,_,Array.ext' hy,h1,h2,h3⟩
theorem Zla{xs:Array Value}(h:xs.size=3): ∃a b c,xs=#[a,b,c]:=by
 obtain⟨l⟩:=xs
 match l,h with
 | [a,b,c],_=>exact⟨a,b,c,rfl⟩
end
theorem Z8K{o o':Os}(h:OsLater o o'):o'.env=o.env:=by
 obtain⟨d,rfl⟩:=h
 rfl
structure KeptW(v u w w':World)(r r':Ren):Prop where
 lone:∀b,b<v.heap.size→u.heap[b]?=v.heap[b]?
 old:∀b,b<w.heap.size→w'.heap[b]?=w.heap[b]?
 size:w.heap.size≤w'.heap.size
 os:OsLater w.os w'.os
 out:w'.output=w.output
 new:∀a b,r' a=some b→r a=some b∨w.heap.size≤b
def tG(c:Nat):Nat→Question→Nat:=fun _ q=>match q with
 | .appendCap n _ _=>if n=7 then 0 else c-n
 | _=>0
theorem Zeq{R:Ending→World→Prop}{Post:Value→World→Prop}{D:Nat→Prop}{r:Ren}{v w:World}{f g:Frame}{cs:List Frame}(hR:∀xs u,R (.panicked [bunV 15 xs]) u→ZdF xs u)(hs:@Stk jkW PP (Qy.F 0) r [f] [g])(hw:@WH jkW (@Iv jkW PP (Qy.F 0)) r v w)(ho:Off D r w)(hI:@Self jk0 (Qy.prog 0) (Qy.F 0) [f,poison] v)(hlaw:f.fn=lawF)(hrun:f.mode = .run){c:Call}(hat:AtCall f 15 c)(hrd:∀x∈c.args,∃t,x = .tmp t)(h3:c.args.size=3)(hE:Ends (Qy.prog 0) (Done PP (Qy.F 0) lawF R) [f,poison] v)(k:∀x y r' v' w' D',Z5v (Qy.prog 0) (Done PP (Qy.F 0) lawF R) f [poison] v [f.finish x,poison] v' → @Self jk0 (Qy.prog 0) (Qy.F 0) [f.finish x,poison] v' → @Stk jkW PP (Qy.F 0) r' [f] [g] → @VR jkW r' x y → @WH jkW (@Iv jkW PP (Qy.F 0)) r' v' w'→Off D' r' w'→KeptW v v' w w' r r'→Sure PP Post D' (run1 (g.finish y) cs) w'): Sure PP Post D (run1 g cs) w:=by
 letI:Jk:=jkW;have hP:∀x u,¬Done PP (Qy.F 0) lawF R [x] u:=Z36;have hSt:∀V u,Done PP (Qy.F 0) lawF R V u→V.length=2:=by
  rintro V u ⟨T,e,fr,rfl,_⟩
  rfl
 have hf:=(@Stk.uncons jkW _ _ _ _ _ _ _ hs).1;have hdf:f.defers=[]:=(@FrR.defers jkW _ _ _ _ _ hf).2 hlaw;have hIs:=hI;obtain⟨f0,A,r0,hV,hi0,hs0,hw0⟩:=hI;simp only[List.cons.injEq]at hV;obtain⟨rfl,hA⟩:=hV;have hA:A=[]:=by
  cases A with
  | nil=>rfl
  | cons a tl=>have:=congrArg List.length hA;simp at this
 subst hA;have hnp:¬Done PP (Qy.F 0) lawF R [f,poison] v:=by
  rintro⟨T,e,fr,q1,q2,q3,q4,q5⟩;simp only[List.cons.injEq]at q1;obtain⟨rfl,_⟩:=q1
  cases e with
  | returned x=>have:=q3.1;rw[hrun]at this;cases this
  | panicked ch=>have:=q3.1;rw[hrun]at this;cases this
  | outgrown=>exact q5 rfl
 have hrd0:∀x∈c.args,@RdOk jk0 x:=fun x hx=>by
  obtain⟨t,rfl⟩:=hrd x hx;trivial
 obtain⟨y0,y1,y2,hargs⟩:=Zla (xs:=c.args.map f.eval) (by simp[h3])
 -- the bad tape
 have hbad:Calls (Qy.prog 0) 15 (c.args.map f.eval) (re v fun _ _=>1) (fun e u=>e = .panicked [bunV 15 #[y0,y1,y2]]∧Ext [] (re v fun _ _=>1) u):=by
  rw[hargs];exact Zfl y0 y1 y2 _ fun d=>by show 7<7+1 % (2 ^ 63-7);decide
 obtain⟨e,v1,u1,r1,he,hi1,hw1,hk1,hcase⟩:=@Z6r jk0 (Qy.prog 0) (Qy.F 0) _ r0 v _ hQ0 Z2H gokS recS hSt f 15 c hs0 hw0 hi0 hat (by decide) hrd0 (fun _ _=>1) _ (fun u q=>by cases q.1) hbad;obtain⟨rfl,hE1⟩:=he
 rcases hcase with⟨x,y,q,_⟩ | ⟨ch,ch',q,hpr,hreach⟩
 ·cases q
 obtain rfl:=Ending.panicked.inj q;have hch:ch'=[bunV 15 #[y0,y1,y2]]:=by
  cases hpr with
  | cons a t =>
   cases t
   obtain⟨a1,a2,a3⟩:=a;rename_i z;obtain⟨zv,zr,zg⟩:=z;have:=@VR.id jk0 _ id hi1 _ _ a1;dsimp only[bunV]at this a2 a3;subst this a2 a3
   rfl
 subst hch;have hr1:=Z2d hnp hreach;have hE2:=hE.reach hr1;have hS2:=@Z3L jk0 _ _ _ _ _ _ _ _ hQ0 Z2H gokS recS hP hr1 hE hIs;have hmr:(f.raise [bunV 15 #[y0,y1,y2]]).mode = .panicking [bunV 15 #[y0,y1,y2]]:=by
  unfold Frame.raise;rw[hrun]
 have hdr:(f.raise [bunV 15 #[y0,y1,y2]]).defers=[]:=by
  unfold Frame.raise;rw[hrun];exact hdf
 have hfr:(f.raise [bunV 15 #[y0,y1,y2]]).fn=lawF:=by
  unfold Frame.raise;rw[hrun];exact hlaw
 have hst:=@ZaF jk0 _ _ _ _ _ hQ0 Z2H gokS recS hP _ _ hmr hdr (by rw[hfr];exact⟨_,(ZcK (k:=lawF) (by decide)).choose_spec.choose_spec.1⟩) hE2 hS2;obtain⟨T,e,fr,q1,q2,q3,q4,q5⟩:=hst;simp only[List.cons.injEq]at q1;obtain⟨rfl,_⟩:=q1;have hpre:ZdF #[y0,y1,y2] u1:=by
  cases e with
  | returned x=>have:=q3.1;rw[hmr]at this;cases this
  | outgrown=>exact absurd rfl q5
  | panicked ch =>
   have:=q3.1;rw[hmr]at this;obtain rfl:=FrameMode.panicking.inj this;exact hR _ _ q4
 have hold:∀b,b<v.heap.size→u1.heap[b]?=v.heap[b]?:=fun b hb=>@Kep.old jk0 _ _ _ _ _ _ id hi1 hk1 hw1 _ hb (hE1.block b hb (by simp));obtain⟨x,l,l',a1,a2,c1,c2,hxs,hv,hx,hl,hl',hrw,hrw'⟩:=hpre;have hys:@VRs jkW r (c.args.map f.eval) (c.args.map g.eval):=@Z2q jkW _ _ _ (@FrR.env jkW _ _ _ _ _ hf) _ (fun x hx=>by
  obtain⟨t,rfl⟩:=hrd x hx;trivial)
 have hargs2:=hargs.trans hxs;rw[hargs2]at hys;obtain⟨z0,z1,z2,hz,hz0,hz1,hz2⟩:=arr3 hys;have hxd:x.At v:=by
  have hz0:@VR jkW r (.agg #[.int .i64 x.B,.slice x.da x.D.length x.dc,.slice x.la x.L.length x.lc,.int .i64 x.tol]) z0:=hz0
  cases hz0 with
  | @agg _ ys hs1 hs2 =>
   obtain⟨_,_,_,_,_,_,g2,g3,_⟩:=arr4 (R:=@VR jkW r) ⟨hs1,hs2⟩;exact⟨@Z9C jkW _ _ _ _ _ hold hw _ _ _ _ hx.d _ g2,@Z9C jkW _ _ _ _ _ hold hw _ _ _ _ hx.l _ g3⟩
 have hrd1:=@Z4Y jkW _ _ _ _ _ hold hw _ _ _ _ hrw _ hz1;have hrd2:=@Z4Y jkW _ _ _ _ _ hold hw _ _ _ _ hrw' _ hz2;have ne_l:∀{l:List Int},RcpOk x l→l≠[]:=fun h e=>by
  have:=h.s1;rw[e]at this;simp at this
 obtain⟨x',rfl,halk,hvc⟩:=@Zkf jkW _ _ _ _ _ _ hv hxd hw ho _ hz0;obtain⟨b1,rfl,hw1r,hp1⟩:=@Z9W jkW _ _ _ _ hw _ _ _ (ne_l hl) hrd1 _ hz1;obtain⟨b2,rfl,hw2r,hp2⟩:=@Z9W jkW _ _ _ _ hw _ _ _ (ne_l hl') hrd2 _ hz2;have hvx:VOk x':=halk.ok hv;have hlx:RcpOk x' l:=⟨hl.len.trans halk.dl.symm,hl.bd,hl.s1,hl.s6⟩;have hlx':RcpOk x' l':=⟨hl'.len.trans halk.dl.symm,hl'.bd,hl'.s1,hl'.s6⟩;have hatg:=@AtCall.rel jkW _ _ _ _ _ hf _ _ hat
 have hkg:g.kind = .normal∨g.kind = .deferred:=by
  have:=@FrR.kind jkW _ _ _ _ _ hf;rw[←this.1];exact this.2
 refine @Sure.step jkW _ _ _ _ _ rfl fun w1 hl1=>⟨_,w1,#[],@AtCall.step jkW _ _ _ _ hatg _ _ Z98 Zbl (by kernel_rfl) hkg true cs w1,by simp,by rw[hl1.1];exact Ye _,?_⟩;refine Sure.like ?_ hl1;rw[hz];refine Zbm hvx hvc hlx hlx' hw1r hw2r hp1 hp2 fun w3 y Mu Wg U=>?_;have hbb:Zw x'.L.length (alkB x' (val l) (val l'))=Zw x.L.length (alkB x (val l) (val l')):=by
  rw[halk.ll];refine Z5G fun k hk=>?_;simp only[alkB,halk.ll,halk.alk k]
 rw[hbb]at U
 -- the good tape
 obtain⟨cp,hcp⟩:∃cp:Nat,cp≤maxLen∧∀g n c,y = .slice (some ⟨g,0,none⟩) n c→c=cp∧n≤cp∧n≠7:=by
  have hn:(Zw x.L.length (alkB x (val l) (val l'))).length≤3:=by
   have:=List.length_filter_le (alkB x (val l) (val l')) (List.range x.L.length);have h3:=hv.l3;simp only[Zw,Yj];simp only[List.length_range]at this;omega
  rcases U.lst with⟨_,rfl⟩ | ⟨gc,cc,_,rfl,_,hcc,hmm,_⟩
  ·exact⟨0,Nat.zero_le _,fun g n c e=>by cases e⟩
  ·refine⟨cc,hmm,fun g n c e=>?_⟩
   simp only[Value.slice.injEq]at e;obtain⟨_,rfl,rfl⟩:=e;exact⟨rfl,hcc,by omega⟩
 have hgood:Calls (Qy.prog 0) 15 (c.args.map f.eval) (re v (tG cp)) (fun e u=>∃y,e = .returned (.tuple #[y,.int .i64 0])∧IntR v.heap.size u (Zw x.L.length fun k=>alkE x k (val l) (val l')) y∧ZdD (re v (tG cp)) y∧Ext [] (re v (tG cp)) u):=by
  rw[hargs2];refine(Za7 x hv l l' hl hl' a1 a2 c1 c2 (re v (tG cp)) (Z6b (v:=v) (v2:=re v (tG cp)) (fun b _=>rfl) hxd) hrd1 hrd2).mono fun e u h=>?_
  rcases h with⟨⟨_,d,hd⟩,_⟩ | h
  ·exact absurd hd (by show ¬7<7+0 % (2 ^ 63-7);decide)
  ·exact h
 obtain⟨e,v2,u2,r2,he,hi2,hw2,hk2,hcase⟩:=@Z6r jk0 (Qy.prog 0) (Qy.F 0) _ r0 v _ hQ0 Z2H gokS recS hSt f 15 c hs0 hw0 hi0 hat (by decide) hrd0 (tG cp) _ (fun u q=>by obtain⟨_,q,_⟩:=q;cases q) hgood;obtain⟨y0',rfl,hI2,hC2,hE3⟩:=he
 rcases hcase with⟨x2,y2',q,hvr,hreach2⟩ | ⟨ch,ch',q,_⟩
 rotate_left
 ·cases q
 obtain rfl:=Ending.returned.inj q;have hyy:=@VR.id jk0 _ id hi2 _ _ hvr;subst hyy;have hr2:=Z2d hnp hreach2;have hS3:=@Z3L jk0 _ _ _ _ _ _ _ _ hQ0 Z2H gokS recS hP hr2 hE hIs;have hold2:∀b,b<v.heap.size→u2.heap[b]?=v.heap[b]?:=fun b hb=>@Kep.old jk0 _ _ _ _ _ _ id hi2 hk2 hw2 _ hb (hE3.block b hb (by simp));have henv:u2.os.env=w3.os.env:=by
  have e1:u2.os=v.os:=hk2.os.2.symm;rw[e1,Z8K U.os];exact hw.env
 have hll:(Zw x.L.length fun k=>alkE x k (val l) (val l'))=Zw x.L.length (alkB x (val l) (val l')):=Z5G fun k hk=>by simp[alkB,hk]
 rw[hll]at hI2;have hofD:∀b d,r b=some d→¬(D d∨d=Mu∨d=Wg):=fun b d hb hd=>by
  obtain⟨_,_,_,g2,_⟩:=hw.on _ _ hb;have:=(Y0.1 g2).1;have m1:=U.mu.1;have m2:=U.wg.1
  rcases hd with q | q | q
  ·exact ho.names b d hb q
  ·omega
  ·omega
 have hlow:∀d,(D d∨d=Mu∨d=Wg)→d<w3.heap.size:=fun d hd=>by
  have m1:=U.mu.2;have m2:=U.wg.2
  rcases hd with q | q | q
  ·exact Y8 (ho.low d q) U.size
  ·omega
  ·omega
 have kw:∀r',(∀a b,r' a=some b→r a=some b∨w.heap.size≤b)→KeptW v u2 w w3 r r':=fun r' h=>⟨hold2,U.old,U.size,U.os,U.out,h⟩
 rcases hI2 with⟨hL,rfl⟩ | ⟨g0,k0,hL,rfl,hb0,hc0,hm0,hq0⟩
 ·have hy:y = .slice none 0 0:=by
   rcases U.lst with⟨_,q⟩ | ⟨_,_,q,_⟩
   ·exact q
   ·exact absurd hL q
  subst hy;refine k _ _ r u2 w3 _ hreach2 hS3 hs ?_ (@Zdy jkW _ _ _ _ _ _ hw hold2 U.old henv) ⟨hofD,hlow⟩ (kw r fun a b h=>.inl h);refine @VR.tuple jkW _ _ _ rfl fun i a b h1 h2=>?_;rw[h1]at h2;obtain rfl:=Y1 h2;have:=Yk h1;simp only[Yb,Yc,Ya,or_false]at this
  rcases this with rfl | rfl
  ·exact @VR.sl0 jkW _ _ _
  ·exact @VR.int jkW _ _ _
 ·obtain⟨gc,cc,_,hy,hbc,hcc,hmc,hqc⟩:∃gc cc,Zw x.L.length (alkB x (val l) (val l'))≠[]∧y = .slice (some ⟨gc,0,none⟩) (Zw x.L.length (alkB x (val l) (val l'))).length cc∧w.heap.size≤gc∧(Zw x.L.length (alkB x (val l) (val l'))).length≤cc∧cc≤maxLen∧w3.heap[gc]?=some (.cells (ivs (Zw x.L.length (alkB x (val l) (val l')))++List.replicate (cc-(Zw x.L.length (alkB x (val l) (val l'))).length) (Value.int .i64 0)).toArray 3 (0,0)):=by
   rcases U.lst with⟨q,_⟩ | q
   ·exact absurd q hL
   ·exact q
  obtain⟨rfl,hn1,hn7⟩:=hcp.2 _ _ _ hy;have hkc:k0=cc:=by
   obtain⟨d,hd⟩:=hC2 _ _ _ rfl;have hd:k0=(Zw x.L.length (alkB x (val l) (val l'))).length+(if (Zw x.L.length (alkB x (val l) (val l'))).length=7 then 0 else cc-(Zw x.L.length (alkB x (val l) (val l'))).length) % (2 ^ 63-(Zw x.L.length (alkB x (val l) (val l'))).length):=hd;rw[if_neg hn7,Nat.mod_eq_of_lt (by simp only[maxLen]at hmc;omega)]at hd;omega
  subst hkc;subst hy;have hpos:0<(Zw x.L.length (alkB x (val l) (val l'))).length:=List.length_pos_iff.2 hL;have hg0:r2 g0=some g0:=by
   cases hvr with
   | tuple _ t =>
    have:=t 0 _ _ rfl rfl
    cases this with
    | sl _ _ q=>cases q with | mk q=>exact q
  have hq2:u2.heap[g0]?=some (.cells (ivs (Zw x.L.length (alkB x (val l) (val l')))++List.replicate (k0-(Zw x.L.length (alkB x (val l) (val l'))).length) (Value.int .i64 0)).toArray 3 (0,0)):=by
   refine @Kep.fresh jk0 _ _ _ _ id hi2 hw2 _ _ hg0 hq0 ?_;rintro⟨cs2,e2,q⟩;simp only[Obj.cells.injEq,Y9,true_and]at q;obtain⟨rfl,_,q⟩:=q;simp only[List.size_toArray,Ym,List.length_replicate,ivs,Yj]at q;omega
  have hce:∀z∈(ivs (Zw x.L.length (alkB x (val l) (val l')))++List.replicate (k0-(Zw x.L.length (alkB x (val l) (val l'))).length) (Value.int .i64 0)).toArray,∃n,z = .int .i64 n:=by
   intro z hz;simp only[Yb,List.mem_append,ivs,List.mem_map,List.mem_replicate]at hz
   rcases hz with⟨n,_,rfl⟩ | ⟨_,rfl⟩<;>exact⟨_,rfl⟩
  obtain⟨hwm,hle⟩:=@Zih jkW _ _ _ _ _ _ hw hold2 U.old henv g0 gc _ _ hq2 hqc hb0 hbc hce;refine k _ _ (r.add g0 gc) u2 w3 _ hreach2 hS3 (@Stk.mono jkW _ _ _ _ hle _ _ hs) ?_ hwm ⟨fun a b h hd=>?_,hlow⟩ (kw _ fun a b h=>?_)
  ·refine @VR.tuple jkW _ _ _ rfl fun i a b h1 h2=>?_
   rcases i with _ | _ | i
   ·obtain rfl:=Y1 h1
    obtain rfl:=Y1 h2;exact @VR.sl jkW _ _ _ _ _ (.mk (by unfold Ren.add;rw[if_pos rfl]))
   ·obtain rfl:=Y1 h1
    obtain rfl:=Y1 h2;exact @VR.int jkW _ _ _
   ·simp at h1
  ·unfold Ren.add at h
   split at h
   ·obtain rfl:=Y1 h
    have:=U.ne _ _ _ rfl
    rcases hd with q | q | q
    ·have:=ho.low _ q;omega
    ·exact this.1 q
    ·exact this.2 q
   ·exact hofD _ _ h hd
  ·unfold Ren.add at h
   split at h
   ·obtain rfl:=Y1 h
    exact .inr hbc
   ·exact .inl h
theorem Zcq{R:Ending→World→Prop}{Post:Value→World→Prop}{D:Nat→Prop}{r:Ren}{v w:World}{f g:Frame}{cs:List Frame}(hs:@Stk jkW PP (Qy.F 0) r [f] [g])(hw:@WH jkW (@Iv jkW PP (Qy.F 0)) r v w)(ho:Off D r w)(hI:@Self jk0 (Qy.prog 0) (Qy.F 0) [f,poison] v)(hlaw:f.fn=lawF)(hrun:f.mode = .run){c:Call}(hat:AtCall f 19 c)(h3:c.args.size=0)(hE:Ends (Qy.prog 0) (Done PP (Qy.F 0) lawF R) [f,poison] v)(k:∀x y r' v' w' D',Z5v (Qy.prog 0) (Done PP (Qy.F 0) lawF R) f [poison] v [f.finish x,poison] v' → @Self jk0 (Qy.prog 0) (Qy.F 0) [f.finish x,poison] v' → @Stk jkW PP (Qy.F 0) r' [f] [g] → @VR jkW r' x y → @WH jkW (@Iv jkW PP (Qy.F 0)) r' v' w'→Off D' r' w'→KeptW v v' w w' r r'→Sure PP Post D' (run1 (g.finish y) cs) w'): Sure PP Post D (run1 g cs) w:=by
 letI:Jk:=jkW;have hP:∀x u,¬Done PP (Qy.F 0) lawF R [x] u:=Z36;have hSt:∀V u,Done PP (Qy.F 0) lawF R V u→V.length=2:=by
  rintro V u ⟨T,e,fr,rfl,_⟩
  rfl
 have hf:=(@Stk.uncons jkW _ _ _ _ _ _ _ hs).1;have hIs:=hI;obtain⟨f0,A,r0,hV,hi0,hs0,hw0⟩:=hI;simp only[List.cons.injEq]at hV;obtain⟨rfl,hA⟩:=hV;have hA:A=[]:=by
  cases A with
  | nil=>rfl
  | cons a tl=>have:=congrArg List.length hA;simp at this
 subst hA;have hnp:¬Done PP (Qy.F 0) lawF R [f,poison] v:=by
  rintro⟨T,e,fr,q1,q2,q3,q4,q5⟩;simp only[List.cons.injEq]at q1;obtain⟨rfl,_⟩:=q1
  cases e with
  | returned x=>have:=q3.1;rw[hrun]at this;cases this
  | panicked ch=>have:=q3.1;rw[hrun]at this;cases this
  | outgrown=>exact q5 rfl
 have ha0:c.args=#[]:=Array.eq_empty_of_size_eq_zero h3;have hargs:c.args.map f.eval=#[]:=by rw[ha0];simp
 have hargg:c.args.map g.eval=#[]:=by rw[ha0];simp
 have hgood:Calls (Qy.prog 0) 19 (c.args.map f.eval) (re v fun _ _=>0) (fun e u=>e = .returned (.bool true)∧Ext [] (re v fun _ _=>0) u):=by
  rw[hargs];exact Z4h (μ:=0) _
 obtain⟨e,v2,u2,r2,he,hi2,hw2,hk2,hcase⟩:=@Z6r jk0 (Qy.prog 0) (Qy.F 0) _ r0 v _ hQ0 Z2H gokS recS hSt f 19 c hs0 hw0 hi0 hat (by decide) (fun x hx=>by rw[ha0]at hx;simp at hx) (fun _ _=>0) _ (fun u q=>by cases q.1) hgood;obtain⟨rfl,hE3⟩:=he
 rcases hcase with⟨x2,y2',q,hvr,hreach2⟩ | ⟨ch,ch',q,_⟩
 rotate_left
 ·cases q
 obtain rfl:=Ending.returned.inj q;have hyy:=@VR.id jk0 _ id hi2 _ _ hvr;subst hyy;have hr2:=Z2d hnp hreach2;have hS3:=@Z3L jk0 _ _ _ _ _ _ _ _ hQ0 Z2H gokS recS hP hr2 hE hIs;have hold2:∀b,b<v.heap.size→u2.heap[b]?=v.heap[b]?:=fun b hb=>@Kep.old jk0 _ _ _ _ _ _ id hi2 hk2 hw2 _ hb (hE3.block b hb (by simp));have hatg:=@AtCall.rel jkW _ _ _ _ _ hf _ _ hat
 have hkg:g.kind = .normal∨g.kind = .deferred:=by
  have:=@FrR.kind jkW _ _ _ _ _ hf;rw[←this.1];exact this.2
 have hfn:PP.funcs[(19:Nat)]?=some Tryz.f19:=by kernel_rfl
 obtain⟨bd,hbd⟩:∃b,Tryz.f19.body=some b:=⟨_,rfl⟩;refine @Sure.step jkW _ _ _ _ _ rfl fun w1 hl1=>⟨_,w1,#[],@AtCall.step jkW _ _ _ _ hatg _ _ hfn hbd (by kernel_rfl) hkg true cs w1,by simp,by rw[hl1.1];exact Ye _,?_⟩;refine Sure.like ?_ hl1;rw[hargg];have hwn:@WH jkN (@Iv jkN PP (Qy.F 0)) (fun _=>none) w w:=@WH.mk jkN _ _ _ _ (fun b c h=>by cases h) (fun a b c h=>by cases h) rfl;refine @Sure.called jkN PP (Qy.F 0) (fun f=>gB f=true) _ _ _ _ _ (Zk4 0) (gokN 0) recN 19 #[] #[] (by decide) (@Arr.nil jkN _ _ _) hwn ⟨fun b c h=>by(cases h),ho.low⟩ (fun e u=>e = .returned (.bool true)) (fun e u T q=>q) (fun u q=>by cases q) (fun T=>(Z4h (μ:=0) (re w T)).mono fun e u q=>q.1) g cs (fun r' v' w' x y hx hv hw' hk ho'=>?_) (fun r' v' w' ch ch' hx=>by cases hx);obtain rfl:=Ending.returned.inj hx;have hy:y = .bool true:=by cases hv;rfl
 subst hy;have hold:∀b,b<w.heap.size→w'.heap[b]?=w.heap[b]?:=fun b hb=>hk.far b hb fun a h=>by cases h
 have hos:w'.os=w.os:=hk.os.2.symm;have henv:u2.os.env=w'.os.env:=by
  have e1:u2.os=v.os:=hk2.os.2.symm;rw[e1,hos];exact hw.env
 refine k _ _ r u2 w' D hreach2 hS3 hs (@VR.bool jkW _ _) (@Zdy jkW _ _ _ _ _ _ hw hold2 hold henv) ⟨ho.names,fun d hd=>Y8 (ho.low d hd) hk.sizeW⟩ ⟨hold2,hold,hk.sizeW,by rw[hos];exact OsLater.refl _,hk.out,fun a b h=>.inl h⟩
end Lift
namespace Lift
open Go Go.Conc
open Go.ConcN (sumTo upd sumTo_upd upd_ne upd_same)
variable[Jk]
section
variable{P:Program}{F:Array Func}{G:FuncId→Prop}{Post:Value→World→Prop}{D:Nat→Prop}{g:Goroutine}{v w w':World}{r:Ren}
theorem Sure.moves2(hr:g.status = .running)
  (hm:∀w1,Like w w1→∀(gs:Array Goroutine) sl t q w0 sl0,gs[0]?=some g→Leavers P t gs q→Past (Dk D) w.heap.size t→stepT P (crowd gs w0 sl0)=runT P (crowd gs w1 sl) 0→Run P Post (crowd gs w0 sl0) t):Sure P Post D g w:=by
 have key:∀(M:Nat) w1,Like w w1→∀(gs:Array Goroutine) sl t q,sumTo gs.size q<M→gs[0]?=some g→Leavers P t gs q→Past (Dk D) w.heap.size t→Run P Post (crowd gs w1 sl) t:=by
  intro M
  induction M with
  | zero=>exact fun w1 hw gs sl t q hM=>absurd hM (Nat.not_lt_zero _)
  | succ M ih =>
   intro w1 hw gs sl t q hM h0 hL hP;obtain⟨i,x,d,sl',hi,hx,hst⟩:=crowd_pick (P:=P) (w:=w1) (sl:=sl) (Z3Q h0 hr hL) ⟨0,g,h0,hr⟩
   rcases Nat.eq_zero_or_pos i with rfl | hpos
   ·exact hm (w1.at d) (hw.at d) gs sl' t q _ _ h0 hL hP hst
   ·have hq:=hL.old i x hpos hi
    have hi0:(i==0)=false:=by simp;omega
    have hlt:i<gs.size:=(Y0.1 hi).1
    cases hqi:q i with
    | zero=>rw[hqi]at hq;rw[hq.1]at hx;cases hx
    | succ k =>
     rw[hqi]at hq
     rcases hq with⟨hf,_⟩ | ⟨_,x',es,hmu,hstp,hq'⟩
     ·rw[hf]at hx;cases hx
     have hrunT:=runT_crowd_go (P:=P) (sl:=sl') (i:=i) hi (by rw[hi0];exact hstp (w1.at d));have hsz:((gs.map (woken P x x' (w1.at d))).setIfInBounds i x').size=gs.size:=by simp
     have hsum:sumTo gs.size (upd q i k)+(k+1)=sumTo gs.size q+k:=by
      have:=sumTo_upd q k id hlt;simpa[hqi] using this
     have hne:i≠0:=by omega
     refine Run.next (hst.trans hrunT) (ih (w1.at d) (hw.at d) _ sl' _ (upd q i k) (by rw[hsz];omega) ?_ ⟨fun j y hj hy=>?_,fun j hj=>?_⟩ (hP.mute hne hmu))
     ·rw[Yq hne,Array.getElem?_map,h0]
      simp[woken_run hr]
     ·by_cases hji:i=j
      ·subst hji
       rw[Array.getElem?_setIfInBounds_self_of_lt (by simpa using hlt)]at hy;obtain rfl:=Y1 hy;rw[upd_same,Deaf_own];exact hq'
      ·rw[Yq hji,Array.getElem?_map]at hy
       obtain⟨z,hz,rfl⟩:=Y3.1 hy;have hqj:=hL.old j z hj hz;rw[woken_quitsD hqj,upd_ne q k (Ne.symm hji),Deaf_other t hji _ (fun op hop=>by obtain⟨e,_,rfl⟩:=Go.Conc.mem_ofEvents hop;rfl)];exact hqj
     ·rw[Deaf_other t (g':=i) (by simp at hj;omega) _ (fun op hop=>by obtain⟨e,_,rfl⟩:=Go.Conc.mem_ofEvents hop;rfl)]
      exact hL.above j (by simpa using hj)
 exact fun w1 hw gs sl t q h0 hL hP=>key _ w1 hw gs sl t q (Nat.lt_succ_self _) h0 hL hP
theorem Sure.last(hr:g.status = .running)(h:∀w1,Like w w1→∃x w' es,stepG P true g w1 = .ended (.done x) w' es∧(∀e∈es,EvL (Dk D) w'.heap.size e)∧w.heap.size≤w'.heap.size∧Post x w'):Sure P Post D g w:=by
 refine Sure.moves2 hr fun w1 hw gs sl t q w0 sl0 h0 hL hP hm=>?_;obtain⟨x,w',es,hend,hes,hsz,hpost⟩:=h w1 hw;have hrunT:=runT_many_ended (P:=P) (sl:=sl) (i:=0) h0 (show stepG P (0==0) g w1=_ from hend);have hP':=(hP.mono hsz).own (fn:=g.frame.fn) (pos:=g.frame.place) hes;refine Run.end (hm.trans hrunT) ⟨x,rfl,hpost,hP'.clean,hP'.over,⟨fun y hy=>?_,rfl⟩,fun j y hy hj=>?_⟩
 ·obtain⟨j,hj⟩:=List.mem_iff_getElem?.1 hy
  rw[List.getElem?_drop]at hj;exact⟨_,(hL.old (1+j) y (by omega) (by simpa[crowd] using hj)).leaves⟩
 ·have hq:=hL.old j y (by omega) hy
  refine⟨q j,?_⟩;have e:(t++MemOp.ofEvents 0 g.frame.fn g.frame.place es).deaf j (t++MemOp.ofEvents 0 g.frame.fn g.frame.place es).size=Deaf t j:=
   Deaf_other t (g:=j) (g':=0) (by omega) _ (fun op hop=>by obtain⟨e,_,rfl⟩:=Go.Conc.mem_ofEvents hop;rfl)
  rw[e];exact hq.hears _
theorem Zcx{fr g:Frame}(hf:FrR P F r fr g)(hw:WH (Iv P F) r v w){T:Nat→Question→Nat}(hl:fr.leaving (PF P F) (re v T) (.returned x))(hi:P.inits.idxOf? g.fn=none):
  ∃r' T' y w' ns,stepG P true (run1 g []) w = .ended (.done y) w' ns∧VR r' x y∧WR (Iv P F) r' (re v T') w'∧Kept r r' (re v T') (re v T') w w'∧∀e∈ns,EvG r' (re v T') w' e:=by
 obtain⟨hm,hd,hk,fn,hfn,hr⟩:=hl;obtain⟨T',hw'⟩:=hw.tape;have hr':=Z3W hf.tmps hw hr T';have o:=(Z1I (P:=P) (F:=F) (fn:=fn) hf.tmps).sim (re v T') w hw' #[];rw[hr']at o;obtain⟨r',y,w',ns,e,hw2,hn,hkk,he⟩:=o;have gm:g.mode = .returning:=by
  have:=hf.mode;rw[hm]at this;generalize g.mode=z at this⊢
  cases this
  rfl
 have gd:g.defers=[]:=by
  have:=hf.defers.1;rw[hd]at this;generalize g.defers=z at this⊢
  cases this
  rfl
 have gk:g.kind = .normal:=hf.kind.1▸hk;have gf:P.funcs[g.fn]?=some fn:=by rw[←hf.fn,←hf.own];exact hfn
 have e1:(results fn g.tmps).run P w = .ok y w':=by
  have:=congrArg Prod.fst e;simpa only[Yf] using this
 have e2:(results fn g.tmps).events P w #[]=#[]++ns:=by
  have:=congrArg Prod.snd e;simpa only[Yf] using this
 refine⟨r',T',y,w',seen P g.fn ((results fn g.tmps).events P w #[])++#[],?_,hn,hw2,hkk,?_⟩
 ·unfold stepG run1
  simp only[gm];unfold unwind;simp only[gd,gm,gf,Yf,e1];unfold doReturn;simp only[gk,hi]
  rfl
 ·intro x hx
  rw[Array.append_empty]at hx;exact Z0C e2 he x hx
end
end Lift
namespace Lift
open Go Go.Conc Go.RowKit Ev
open Go.ConcM (OsLater)
structure Since(w0:World)(r:Ren)(v w:World):Prop where
 old:∀b,b<w0.heap.size→w.heap[b]?=w0.heap[b]?
 size:w0.heap.size≤w.heap.size
 os:OsLater w0.os w.os
 out:w.output=w0.output
 shut:∀a b,r a=some b→b<w0.heap.size→Shut v a
theorem Since.kep[Jk]{r r':Ren}(k:Kep r r' v v' w w')(h:Since w0 r v w): Since w0 r' v' w':=by
 refine⟨fun b hb=>?_,Yd h.size k.sizeW,?_,?_,fun a b q hb=>?_⟩
 ·rw[←h.old b hb]
  by_cases hn:∃a,r a=some b
  ·obtain⟨a,ha⟩:=hn
   exact k.shutW a b (h.shut a b ha hb) ha
  ·exact k.far b (Y8 hb h.size) fun a ha=>hn ⟨a,ha⟩
 ·have:w'.os=w.os:=k.os.2.symm
  rw[this];exact h.os
 ·have:w'.output=w.output:=k.out
  rw[this];exact h.out
 ·rcases k.new a b q with q | ⟨_,q⟩
  ·exact k.shutS (h.shut a b q hb)
  ·have:=h.size
   omega
theorem Since.more{r r':Ren}(k:KeptW v v' w w' r r')(hlt:∀a b,r a=some b→a<v.heap.size)(h:Since w0 r v w): Since w0 r' v' w':=by
 refine⟨fun b hb=>(k.old b (Y8 hb h.size)).trans (h.old b hb),Yd h.size k.size,h.os.trans k.os,k.out.trans h.out,fun a b q hb=>?_⟩
 rcases k.new a b q with q | q
 ·obtain⟨cs,e,z⟩:=h.shut a b q hb
  exact⟨cs,e,(k.lone a (hlt a b q)).trans z⟩
 ·have:=h.size
  omega
def Zin(w0:World)(x:Value)(w:World):Prop:=x = .bool true∧(∀b,b<w0.heap.size→w.heap[b]?=w0.heap[b]?)∧w0.heap.size≤w.heap.size∧OsLater w0.os w.os∧w.output=w0.output
theorem Zeu{R:Ending→World→Prop}{r:Ren}{f g:Frame}(hR:∀xs u,R (.panicked [bunV 15 xs]) u→ZdF xs u)(hret:∀x u,R (.returned x) u→x = .bool true)(hpan:∀ch u,R (.panicked ch) u→∃xs,ch=[bunV 15 xs])(hini:PP.inits.idxOf? lawF=none)(hfn:f.fn=lawF)(hs:@Stk jkW PP (Qy.F 0) r [f] [g])(hw:@WH jkW (@Iv jkW PP (Qy.F 0)) r v w0)(hsh:∀a b,r a=some b→Shut v a)(hI:@Self jk0 (Qy.prog 0) (Qy.F 0) [f,poison] v)(hE:Ends (Qy.prog 0) (Done PP (Qy.F 0) lawF R) [f,poison] v):
  Sure PP (Zin w0) (fun _=>False) (run1 g []) w0:=by
 letI:Jk:=jkW;refine Sure.jumps (P:=PP) (F:=Qy.F 0) (G:=fun f=>gJ f=true) (Stop:=Done PP (Qy.F 0) lawF R) (V:=[f,poison]) (v:=v) (cs:=[]) Zk5 gokW recP Z36 (I:=fun V v=>@Self jk0 (Qy.prog 0) (Qy.F 0) V v) ?_ (J:=fun _ r v w=>Since w0 r v w) (fun D r r' v v' w w' k h=>h.kep k) ?_ ?_ hE (fun _=>False) f [] g [] r w0 rfl hs hw ⟨fun _ _ _ h=>h,fun _ h=>h.elim⟩ ⟨fun _ _=>rfl,Ye _,OsLater.refl _,rfl,fun a b h _=>hsh a b h⟩ hI
 ·intro f K v τ f' K' v' es h e
  exact @Self.step jk0 _ _ _ _ _ hQ0 Z2H gokS recS _ _ _ _ _ _ h e
 ·intro D f g r v w hs hw ho hj hi hp hE k
  have hlt:∀a b,r a=some b→a<v.heap.size:=fun a b q=>by
   obtain⟨_,_,g1,_⟩:=hw.on _ _ q;exact(Y0.1 g1).1
  obtain⟨jf,c,hjf,hat,hrd,h3⟩:=Pend.at hp
  rcases hjf with rfl | rfl
  ·exact Zeq hR hs hw ho hi hp.1 hp.2.1 hat hrd h3 hE fun x y r' v' w' D' h1 h2 h3 h4 h5 h6 h7=>k x y r' v' w' D' h1 h2 h3 h4 h5 h6 (hj.more h7 hlt)
  ·exact Zcq hs hw ho hi hp.1 hp.2.1 hat h3 hE fun x y r' v' w' D' h1 h2 h3 h4 h5 h6 h7=>k x y r' v' w' D' h1 h2 h3 h4 h5 h6 (hj.more h7 hlt)
 ·intro D f A g B r v w h hs hw ho hj
  obtain⟨T,e,fr,q1,q2,q3,q4,q5⟩:=h;simp only[List.cons.injEq]at q1;obtain⟨rfl,hA⟩:=q1;have hA:A=[]:=by
   cases A with
   | nil=>rfl
   | cons a tl=>have:=congrArg List.length hA;simp at this
  subst hA;have hB:B=[]:=by
   obtain⟨_,h,_⟩:=hs.uncons;have:=h.rel
   cases B with
   | nil=>rfl
   | cons b bs=>cases this
  subst hB;have hf:=hs.uncons.1
  cases e with
  | outgrown=>exact absurd rfl q5
  | returned x =>
   obtain rfl:=hret _ _ q4;have hgi:PP.inits.idxOf? g.fn=none:=by rw[←hf.fn,q2];exact hini
   refine Sure.last rfl fun w1 hl=>?_;have hw1:WH (Iv PP (Qy.F 0)) r v w1:=hw.of rfl hl.1 (by rw[hl.2.1];exact hw.env);obtain⟨r2,T2,y,w2,ns,e2,hv,hw2,hk2,he⟩:=Zcx hf hw1 q3 hgi;have ho2:=(ho.like hl).kept hk2;have hk3:Kep r r2 v v w w2:=Kep.of (v0:=re v T2) (v':=re v T2) ⟨rfl,rfl,rfl⟩ hl hk2;refine⟨y,w2,ns,e2,fun x hx=>Z9j (he x hx) ho2.names,by rw[←hl.1];exact hk2.sizeW,?_⟩
   cases hv
   have:=hj.kep hk3;exact⟨rfl,this.old,this.size,this.os,this.out⟩
  | panicked ch =>
   exfalso;obtain⟨xs,rfl⟩:=hpan _ _ q4;have hm:=hf.mode;rw[q3.1]at hm;generalize g.mode=z at hm
   cases hm with
   | panicking q =>
    cases q with
    | cons a t =>
     have a1:=a.1;dsimp only[bunV]at a1;generalize PanicEntry.v _=z2 at a1
     cases a1 with
     | iface _ k =>
      cases k with
      | func hf _ _ _ _ =>
       cases hf with
       | func _ h =>
        have h:gJ 15=true:=h;revert h
        decide
end Lift
section
open Go.RowKit
variable{μ:Nat}
def likN(x:Vm)(T:List (List Int))(j k:Nat):Nat→Int:=rowU fun l=>alkE x l (val (T.getD j [])) (val (T.getD k []))
def splB(x:Vm)(T:List (List Int))(j k:Nat):Bool:=decide (0<likN x T j k x.L.length)&&decide (likN x T j k x.L.length<x.L.length)
def splR(x:Vm)(T:List (List Int))(j m:Nat):List (List Int):=((List.range m).filter fun k=>splB x T j (j+1+k)).map fun k=>[((j:Nat):Int),((j+1+k:Nat):Int)]
def splT(x:Vm)(T:List (List Int))(j:Nat):List (List Int):=(List.range j).flatMap fun a=>splR x T a (T.length-(a+1))
def splL(x:Vm)(T:List (List Int)):List (List Int):=splT x T T.length
theorem Z4r{x:Vm}(h:splB x T j (j+1+m)=true): splR x T j (m+1)=splR x T j m++[[((j:Nat):Int),((j+1+m:Nat):Int)]]:=by
 simp[splR,List.range_succ,List.filter_append,h]
theorem Z52{x:Vm}(h:splB x T j (j+1+m)=false): splR x T j (m+1)=splR x T j m:=by
 simp[splR,List.range_succ,List.filter_append,h]
theorem Z2g(x:Vm)(T:List (List Int))(j:Nat):splT x T (j+1)=splT x T j++splR x T j (T.length-(j+1)):=by simp[splT,List.range_succ]
theorem Za0(x:Vm)(T:List (List Int))(j m:Nat):(splR x T j m).length≤m:=by
 unfold splR;rw[Yj];exact Yd (List.length_filter_le _ _) (by simp)
theorem Z71(x:Vm)(T:List (List Int)):∀j,(splT x T j).length≤j*T.length
 | 0=>by simp[splT]
 | j+1=>by
  have h1:=Z71 x T j;have h2:=Za0 x T j (T.length-(j+1));rw[Z2g,Ym,Nat.add_mul];omega
theorem ZaE{g size: Nat}{e:TypeId}{cs:Array Value}(h:w.heap[g]?=some (.cells cs e (0,0)))(hs:cs.size=n*size)(hn:n≤maxLen): w.ownsRow g e size (.slice (some ⟨g,0,none⟩) n n) n cs.toList:=
 ⟨by simpa using hs,.inr ⟨g,n,cs,rfl,Ye _,h,Ye _,hn,hs,by rw[←hs];exact List.take_of_length_le (by simp)⟩⟩
theorem Zb9(x:Vm)(hv:VOk x)(S:List (Value×List Int))(hs:∀p∈S,RcpOk x p.2)(h6:S.length≤6)(a:Option Addr)(c:Nat)(w:World)(h:x.At w)(hl:Z0s w a S):
  Calls (Qy.prog μ) 46 #[.agg #[.int .i64 x.B,.slice x.da x.D.length x.dc,.slice x.la x.L.length x.lc,.int .i64 x.tol],.slice a S.length c] w fun e w'=>∃(M:List (Value×List Int)) (b:Option Addr) (d:Nat),e = .returned (.tuple #[.slice b M.length d,.int .i64 0])∧M.map (·.2)=splL x (S.map (·.2))∧Z0s w' b M∧Ext [] w w':=by
 have E:Ext [] w w:=Ext.refl _ _;have HX:=Lib.hid h;have HV:=Lib.hid hv;have HL:=Lib.hid hl;have HS:=Lib.hid hs;have hl3:=hv.l3;obtain⟨T,hT⟩:∃T,T=S.map (·.2):=⟨_,rfl⟩;have hTl:T.length=S.length:=by rw[hT,Yj]
 have HM:RowKit.Hid (∀t∈T,TubS (val t)):=Lib.hid (fun t ht=>by
  rw[hT]at ht;obtain⟨p,hp,rfl⟩:=List.mem_map.1 ht;exact(hs p hp).tub)
 clear h hv hl hs;have G:=(Bk.nil w).ce E;refine(entM 69 Tryz.f46 rfl) fun F=>wR fun k1=>(F.bx G) fun yy F G=>(F.m) fun F=>(F.al G Qy.zeroValue30) fun yy F G=>k1<|wR fun k2=>(F.df) fun F=>k2<|wR fun k3=>(F.y (F.lb (G.q 1))) fun F=>(F.k0 G (Z0F (μ:=μ) x HV.out _ (HX.out.ext (G.e 2)))) fun F G=>(F.al G Qy.zeroValue85) fun yy F G=>(F.sr G 0) fun G=>k3<|wR fun k4=>(F.y (F.lb (G.q 0))) fun F=>?_
 refine(F.m) fun F=>(F.k (Z3w (μ:=μ) x HV.out S HS.out h6 a c _ (HL.out.ext (G.e 3)))) ?_;rintro _ w6 ⟨ma,mc,rfl,om,e9⟩;refine⟨_,rfl,fun F=>?_⟩;replace G:=G.ex e9;rw[←hT,←hTl]at om;rw[←hTl]at F;have HT:=Lib.hid (Z3X om rfl [] (by simp));clear om;have hwR0:w.heap.size≤w6.heap.size:=by exact(G.e 3).size
 replace G:=(G.hr []).hr [];refine(F.m) fun F=>?_;have oo:w6.ownsRow w6.heap.size 22 1 (.slice none 0 0) 0 (([]:List (Value×List Int)).map (·.1)):=World.ownsRow_nil _ _ _ _;have fam:FamT w6 w6.heap.size []:=Z6E _ _;replace G:=(G.co oo).cf fam;refine k4<|wQ fun k5=>wR fun k6=>(F.m) fun F=>(F.y F.ln) fun F=>(F.m) fun F=>k6<|Yh<|lpB (F.b [5,6,7,18]) (G.b [2,3,4,5,6,7]) (T.length) (fun j Lv Sv W=>∃va:Option Addr,∃vc:Nat,∃O:List (Value×List Int),Lv=[(4,.slice va O.length vc),(19,.int .i64 ((j:Nat):Int))]∧Sv=[]∧W.ownsRow w6.heap.size 22 1 (.slice va O.length vc) O.length (O.map (·.1))∧FamT W w6.heap.size O∧O.map (·.2)=splT x T j) ⟨_,_,F.u,G.u,none,0,[],rfl,rfl,(G.o 1),(G.f 0),rfl⟩ ?_
 clear F G;rintro j _ w7 _ _ hi1 ⟨va,vc,O,rfl,rfl,oo,fam,hO⟩ F G;replace G:=((G.z).co oo).cf fam;refine wR fun k7=>(F.y F.ls) fun F=>k7<|wQ fun k8=>F.ci (fun hc20=>?_) (fun hc20=>?_)
 ·refine Yi<|k8<|wQ fun k9=>Yh<|wR fun k10=>(F.m) fun F=>(F.m) fun F=>k10<|wR fun k11=>(F.m) fun F=>(F.y F.ad) fun F=>?_
  rw[show ((j:Nat):Int)+1=((j+1+0:Nat):Int) by omega]at F;refine(F.m) fun F=>k11<|Yh<|lpB (F.b [5,6,7,8,18,19]) (G.b [2,3,4,5,6,7]) (T.length-(j+1)) (fun k Lv Sv W=>∃va2:Option Addr,∃vc2:Nat,∃P:List (Value×List Int),Lv=[(4,.slice va2 P.length vc2),(9,.int .i64 ((j+1+k:Nat):Int))]∧Sv=[]∧W.ownsRow w6.heap.size 22 1 (.slice va2 P.length vc2) P.length (P.map (·.1))∧FamT W w6.heap.size P∧P.map (·.2)=splT x T j++splR x T j k) ⟨_,_,F.u,G.u,va,vc,O,rfl,rfl,(G.o 1),(G.f 0),(by rw[hO];simp[splR])⟩ ?_
  clear F G;rintro k _ w8 _ _ hi2 ⟨va2,vc2,P,rfl,rfl,oo,fam,hP⟩ F G;replace G:=((G.z).co oo).cf fam;have hPl:P.length≤100:=by have h:=congrArg List.length hP;rw[Yj,Ym]at h;have h1:=Z71 x T j;have h2:=Za0 x T j k;have h3:j*T.length≤6*6:=Nat.mul_le_mul (by omega) (by omega);omega
  refine wQ fun k12=>wR fun k13=>(F.m) fun F=>(F.m) fun F=>(F.y F.ln) fun F=>(F.y F.ls) fun F=>k13<|F.ci (fun hc27=>?_) (fun hc27=>?_)
  ·refine Yi<|k12<|wQ fun k14=>Yh<|wR fun k15=>(F.m) fun F=>?_
   rw[show (0:Int)=likN x T j (j+1+k) 0 from rfl]at F;refine k15<|wQ fun k16=>wR fun k17=>(F.y (F.fd 0)) fun F=>(F.y (F.fd 2)) fun F=>(F.y (F.lc (G.q 4))) fun F=>(F.y F.ln) fun F=>(F.m) fun F=>k17<|Yh<|lpC (F.b [4,5,6,7,8,9,18,19,33]) G (x.L.length) (fun i=>[(10,.int .i64 (likN x T j (j+1+k) i)),(34,.int .i64 ((i:Nat):Int))]) F.u @fun _ w9 i hi3 F G=>wR fun k18=>(F.y F.ls) fun F=>k18<|wQ fun k19=>F.ci (fun hc35=>?_) (fun hc35=>?_)
   ·refine Yi<|k19<|wQ fun k20=>Yh<|wR fun k21=>(F.m) fun F=>(F.m) fun F=>k21<|wQ fun k22=>(wX 10 G) fun G=>(F.s (F.lb (G.q 4))) fun F=>(F.sm) fun F=>(F.sm) fun F=>(F.sm) fun F=>(F.sx HT.out j) fun xr23 F=>(F.s (F.lr (xr23 _ (G.e 3)))) fun F=>(F.sm) fun F=>(F.sm) fun F=>(F.sx HT.out (j+1+k)) fun xr24 F=>(F.s (F.lr (xr24 _ (G.e 3)))) fun F=>wpStill_nil<|(F.k0 G (Z48 (μ:=μ) x HV.out i (by omega) (val (T.getD j [])) (val (T.getD (j+1+k) [])) (HM.out _ (Z0n [] (by omega))) (HM.out _ (Z0n [] (by omega))) _ (HX.out.ext (G.e 7)))) fun F G=>?_
    have hb2:=Z3J (fun l=>alkE x l (val (T.getD j [])) (val (T.getD (j+1+k) []))) i;replace hb2:0≤likN x T j (j+1+k) i∧likN x T j (j+1+k) i≤i:=hb2;refine k22<|F.cb (fun hc47=>?_) (fun hc47=>?_)
    ·refine Yg<|(F.m) fun F=>(F.y F.ad) fun F=>?_
     rw[show likN x T j (j+1+k) i+1=likN x T j (j+1+k) (i+1) by show rowU _ i+1=rowU _ i+bI (alkE x i (val (T.getD j [])) (val (T.getD (j+1+k) [])));rw[hc47];simp[bI]]at F;refine(F.m) fun F=>k20<|Yg<|(F.y F.ad) fun F=>(F.m) fun F=>?_
     show _∧_;exact⟨by omega,F.u,G.u⟩
    ·rw[show likN x T j (j+1+k) i=likN x T j (j+1+k) (i+1) by show rowU _ i=rowU _ i+bI (alkE x i (val (T.getD j [])) (val (T.getD (j+1+k) [])));rw[hc47];simp[bI]]at F
     refine Yi<|k20<|Yg<|(F.y F.ad) fun F=>(F.m) fun F=>?_
     show _∧_;exact⟨by omega,F.u,G.u⟩
   ·refine wp_exit ?_
    rw[show i=x.L.length by omega]at F;refine k16<|wQ fun k25=>?_
    by_cases h1:0<likN x T j (j+1+k) x.L.length
    ·by_cases h2:likN x T j (j+1+k) x.L.length<x.L.length
     ·have hsp:splB x T j (j+1+k)=true:=by simp[splB,h1,h2]
      refine Yg<|(F.m) fun F=>(F.y (F.gtT (h:=h1))) fun F=>(F.m) fun F=>(F.m) fun F=>(F.y (F.fd 0)) fun F=>(F.y (F.fd 2)) fun F=>(F.y (F.lc (G.q 4))) fun F=>(F.y F.ln) fun F=>(F.y (F.lsT (h:=h2))) fun F=>(F.y F.pT) fun F=>k25<|(F.cT) ?_
      replace G:=G.hr [];refine Yg<|(F.m) fun F=>(F.m) fun F=>(F.m) fun F=>?_
      have fam:=G.f 1;have hflt:=Lib.hid (Z9s fam);obtain⟨B1,hB1⟩:∃B1,B1=w9.heap.size:=⟨_,rfl⟩;rw[←hB1]at hflt;have hB1w:w6.heap.size≤B1:=by rw[hB1];exact(G.e 3).size
      refine(F.bs G 1 #[.int .i64 ((j:Nat):Int),.int .i64 ((j+1+k:Nat):Int)] Qy.zeroValue3) @fun n64 w12 _ yy F G=>?_;have oi:=Z0i (base':=B1) (ZaE (G.q 0) (n:=2) (size:=1) rfl (by decide)) (show B1≤n64 by omega);obtain⟨pr,hpr⟩:∃pr:Value×List Int,pr=(.slice (some ⟨n64,0,none⟩) 2 2,[((j:Nat):Int),((j+1+k:Nat):Int)]):=⟨_,rfl⟩;have fam:=G.f 2;have fam2:=Z4m (Z4l (b1:=B1) (L:=[pr]) ⟨fun p hp=>(by obtain rfl:=List.mem_singleton.1 hp;rw[hpr];exact oi),List.pairwise_singleton _ _⟩ fam hflt.out hB1w) (M:=P++[pr]) List.perm_append_comm;clear oi;have fam:=fam2;clear fam2;obtain⟨Q,hQ⟩:∃Q,Q=P++[pr]:=⟨_,rfl⟩;have hQl:P.length+1=Q.length:=by rw[hQ,Ym];rfl
      have hP3:Q.map (·.2)=splT x T j++splR x T j (k+1):=by rw[hQ,List.map_append,hP,Z4r hsp,List.append_assoc,hpr];rfl
      rw[←hQ]at fam;replace G:=G.rF 2 fam;clear fam;replace G:=G.d 0;refine(F.bs G 1 #[.slice (some ⟨n64,0,none⟩) 2 2] Qy.zeroValue22) fun yy F G=>?_;have hEs:=(G.e 4).size;replace G:=G.d 1;refine ZD F rfl (by decide) (F.want rfl) (ZI rfl (w6.heap.size) (e:=22) (size:=1) (bytes:=24) Qy.underlying25 (by kernel_rfl) (by decide) (F.at rfl) (G.o 2) (F.at rfl) (G.q 0) rfl (by simp[Value.oneCell']) (by omega) (by omega) (by omega)) ?_;clear F;rintro _ v' w14 F ⟨hown',hg⟩;obtain⟨va66,vc66,rfl⟩:=Zo hown';replace G:=(G.d 0).gr 1 hg hown';clear hg hown';have oo:=G.o 1;rw[show P.map (·.1)++[Value.slice (some ⟨n64,0,none⟩) 2 2]=Q.map (·.1) by rw[hQ,List.map_append,hpr];rfl,hQl]at oo;rw[hQl]at F;replace G:=G.rO 1 oo;clear oo;refine(F.m) fun F=>k14<|Yg<|(F.m) fun F=>(F.y F.ad) fun F=>(F.m) fun F=>?_
      show _∧_;exact⟨by omega,_,_,F.u,G.u,_,_,_,rfl,rfl,(G.o 1),(G.f 0),hP3⟩
     ·have hsp:splB x T j (j+1+k)=false:=by simp[splB,h2]
      have hP3:P.map (·.2)=splT x T j++splR x T j (k+1):=by rw[hP,Z52 hsp]
      refine Yg<|(F.m) fun F=>(F.y (F.gtT (h:=h1))) fun F=>(F.m) fun F=>(F.m) fun F=>(F.y (F.fd 0)) fun F=>(F.y (F.fd 2)) fun F=>(F.y (F.lc (G.q 4))) fun F=>(F.y F.ln) fun F=>(F.y (F.lsF (h:=h2))) fun F=>(F.y F.pT) fun F=>k25<|(F.cF)<|Yi<|k14<|Yg<|(F.m) fun F=>(F.y F.ad) fun F=>(F.m) fun F=>?_
      show _∧_;exact⟨by omega,_,_,F.u,G.u,_,_,_,rfl,rfl,(G.o 1),(G.f 0),hP3⟩
    ·have hsp:splB x T j (j+1+k)=false:=by simp[splB,h1]
     have hP3:P.map (·.2)=splT x T j++splR x T j (k+1):=by rw[hP,Z52 hsp]
     refine Yg<|(F.m) fun F=>(F.y (F.gtF (h:=h1))) fun F=>(F.m) fun F=>(F.n) fun F=>(F.n) fun F=>(F.n) fun F=>(F.n) fun F=>(F.n) fun F=>(F.n) fun F=>(F.y F.pF) fun F=>k25<|(F.cF)<|Yi<|k14<|Yg<|(F.m) fun F=>(F.y F.ad) fun F=>(F.m) fun F=>?_
     show _∧_;exact⟨by omega,_,_,F.u,G.u,_,_,_,rfl,rfl,(G.o 1),(G.f 0),hP3⟩
  ·refine wp_exit ?_
   have hO2:P.map (·.2)=splT x T (j+1):=by rw[hP,Z2g,show k=T.length-(j+1) by omega]
   refine k9<|Yg<|(F.y F.ad) fun F=>(F.m) fun F=>?_
   show _∧_;exact⟨by omega,_,_,F.u,G.u,_,_,_,rfl,rfl,(G.o 1),(G.f 0),hO2⟩
 ·refine wp_exit ?_
  rw[show j=T.length by omega]at hO;refine k5<|wR fun k26=>(F.m) fun F=>(F.m) fun F=>?_
  replace G:=(G.d 3).d 2;refine(F.st G 3) fun G=>k26<|wp_ret ?_
  (try simp only[Exit.inBlock,Exit.then,reduceIte])
  refine Z3K F<|ZN<|Z1A (Z6Y F rfl rfl rfl Qy.underlying30 rfl (G.q 3)) ?_
  have fam:=G.f 0;have oo:=G.o 1;exact⟨O,va,vc,rfl,hO.trans (by rw[hT];rfl),Z1z oo fam,(G.e 5)⟩
variable{μ:Nat}
section
variable{P:Program}{ops:Array Oper}{Q:Exit→Act→World→Prop}{K:Act→World→Prop}{N:Nat}{D:List Deferred}{a:Act}{L:List (Nat×Value)}{w:World}{i d:Nat}{f:FuncId}{R:Ending→World→Prop}
theorem ZeI{o:Oper}{args:Array Value}(F:Has N D a L)(hi:ops[i]?=some o)(hd:o.dst=some d)(hN:d<N)(hw:Region.wanted o (yielded ops a.tmps)=true)(hr:(execOp a.eval o).run P w = .ok (.enter f args) w)(hc:Calls P f args w R)(h:∀e w',R e w'→(∃ch,e = .panicked ch∧Q (.panic ch) a w')∨∃v,e = .returned v∧∀a2,Has N D a2 ((d,v)::L)→K a2 w'): wpOp P ops Q i K a w:=by
 unfold wpOp;simp only[hi,hw,if_true,Oper.wp,hr,Oper.upon];refine .inl (hc.mono fun e w' hR=>?_)
 rcases h e w' hR with⟨ch,rfl,h1⟩ | ⟨v,rfl,h1⟩
 ·exact h1
 ·show K _ _
  rw[hd];exact h1 _ (F.put hN v)
theorem Has.okp{l:List Operand}{ts:Array TypeId}{vs:List Value}(F:Has N D a L)(hc:Calls P f vs.toArray w R)(hi:(ops[i]?).isSome=true:=by rfl)(C:Z7u P f=true:=by kernel_rfl)(ho:(opAt ops i).op = .call {callee:=.value (.func f),args:=l.toArray,argTypes:=ts}:=by rfl)(ha:opvs L l=some vs:=by rfl)(hd:(opAt ops i).dst=some d:=by rfl)(hN:d<N:=by decide)(hw:Z0e L ops (opAt ops i)=some true:=by rfl)(h:∀e w',R e w'→(∃ch,e = .panicked ch∧Q (.panic ch) a w')∨∃v,e = .returned v∧∀{a2},Has N D a2 ((d,v)::L)→K a2 w'): wpOp P ops Q i K a w:=ZeI F (Z0B hi) hd hN (F.want hw) (F.rc C ho ha) hc fun e w' hR=>by
 rcases h e w' hR with h | ⟨v,h1,h2⟩
 ·exact .inl h
 ·exact .inr ⟨v,h1,fun _ F=>h2 F⟩
end
def apS(p:Nat→Nat→Bool)(n:Nat):Nat→Int
 | 0=>0
 | m+1=>apS p n m+rowU (fun k=>p m (m+1+k)) (n-(m+1))
theorem Z9a(p:Nat→Nat→Bool)(n:Nat):∀m,m≤n→apS p (n+1) m=apS p n m+rowU (fun a=>p a n) m
 | 0,_=>by simp[apS,rowU]
 | m+1,h=>by
  have e:n+1-(m+1)=(n-(m+1))+1:=by omega
  have e2:m+1+(n-(m+1))=n:=by omega
  rw[apS,apS,Z9a p n m (by omega),e,rowU,rowU,e2];omega
theorem Zbo(p:Nat→Nat→Bool)(hs:∀a b,p a b=p b a):∀n,apS p n n=triU p n
 | 0=>rfl
 | n+1=>by
  have e:n+1-(n+1)=0:=by omega
  rw[apS,e,rowU,Int.add_zero,Z9a p n n (Ye _),Zbo p hs n,triU]
  congr 1
  congr 1
  funext a
  exact hs a n
theorem ZfD(p:Nat→Nat→Bool)(n:Nat):∀m,0≤apS p n m∧apS p n m≤m*n
 | 0=>by simp[apS]
 | m+1=>by
  have h1:=ZfD p n m;have h2:=Z3J (fun k=>p m (m+1+k)) (n-(m+1));rw[apS,show ((m+1:Nat):Int)=(m:Int)+1 from rfl,Int.add_mul];omega
theorem Zi7(x:Vm)(i:Nat)(T:List (List Int))(a b:Nat):unlP x i T a b=unlP x i T b a:=by unfold unlP;rw[ZdM]
def apN(x:Vm)(T:List (List Int))(a m i:Nat):Int:=apS (unlP x i T) T.length a+rowU (fun k=>unlP x i T a (a+1+k)) m
theorem ZdS(x:Vm)(T:List (List Int))(a i:Nat):apN x T a (T.length-(a+1)) i=apN x T (a+1) 0 i:=by
 unfold apN;rw[apS,rowU,Int.add_zero]
theorem Z99(x:Vm)(T:List (List Int))(a m i:Nat):apN x T a (m+1) i=apN x T a m i+bI (unlP x i T a (a+1+m)):=by
 unfold apN;rw[rowU];omega
theorem ZgD(x:Vm)(T:List (List Int))(i:Nat):apN x T T.length 0 i=unN x T i:=by
 unfold apN unN;rw[rowU,Int.add_zero,Zbo _ (Zi7 x i T)]
theorem ZiH(x:Vm)(T:List (List Int))(h6:T.length≤6){a: Nat}(ha:a≤6)(hm:m≤6)(i:Nat): 0≤apN x T a m i∧apN x T a m i≤42:=by
 have h1:=ZfD (unlP x i T) T.length a;have h2:=Z3J (fun k=>unlP x i T a (a+1+k)) m;have h3:((a:Nat):Int)*(T.length:Int)≤6*6:=Int.mul_le_mul (by omega) (by omega) (by omega) (by omega);unfold apN;omega
def apL(x:Vm)(T:List (List Int))(a m t:Nat):List Int:=(List.range x.L.length).map fun i=>if i<t then apN x T a (m+1) i else apN x T a m i
theorem Zbn(x:Vm)(T:List (List Int))(a m t:Nat):(apL x T a m t).length=x.L.length:=by simp[apL]
theorem ZgB{x:Vm}{a t: Nat}(h:t<x.L.length): (apL x T a m t).getD t 0=apN x T a m t:=by simp[apL,h]
theorem ZgC{x:Vm}{a t: Nat}(h:t<x.L.length): (apL x T a m t).set t (apN x T a (m+1) t)=apL x T a m (t+1):=by
 refine List.ext_getElem (by simp[apL]) fun j h1 h2=>?_;rw[List.getElem_set]
 by_cases e:t=j
 ·subst e;simp[apL]
 ·simp only[apL,List.getElem_map,List.getElem_range,if_neg e]
  by_cases h3:j<t
  ·rw[if_pos h3,if_pos (by omega)]
  ·rw[if_neg h3,if_neg (by omega)]
theorem ZdQ{x:Vm}{a t: Nat}(h:unlP x t T a (a+1+m)=false): apL x T a m t=apL x T a m (t+1):=by
 refine List.map_congr_left fun i _=>?_
 by_cases e:i=t
 ·subst e
  rw[if_neg (by omega),if_pos (by omega),Z99,h];simp[bI]
 ·by_cases h3:i<t
  ·rw[if_pos h3,if_pos (by omega)]
  ·rw[if_neg h3,if_neg (by omega)]
theorem ZiG{x:Vm}{a: Nat}: apL x T a m x.L.length=apL x T a (m+1) 0:=by
 refine List.map_congr_left fun i hi=>?_;rw[if_pos (List.mem_range.1 hi),if_neg (by omega)]
theorem ZdP(x:Vm)(T:List (List Int))(a:Nat):apL x T a (T.length-(a+1)) 0=apL x T (a+1) 0 0:=by
 refine List.map_congr_left fun i _=>?_;rw[if_neg (by omega),if_neg (by omega),ZdS]
theorem ZdR(x:Vm)(T:List (List Int)):apL x T 0 0 0=List.replicate x.L.length 0:=by
 rw[List.eq_replicate_iff];refine⟨Zbn _ _ _ _ _,fun b hb=>?_⟩;obtain⟨i,-,rfl⟩:=List.mem_map.1 hb
 rfl
theorem ZgA(x:Vm)(T:List (List Int)):apL x T T.length 0 0=(List.range x.L.length).map (unN x T):=List.map_congr_left fun i _=>by rw[if_neg (by omega),ZgD]
def bst(u:Nat→Int):Nat→Nat
 | 0=>0
 | i+1=>if u (bst u i)<u i then i else bst u i
theorem Zbw(u:Nat→Int):∀i,bst u i≤i-1
 | 0=>Ye _
 | i+1=>by
  have:=Zbw u i;unfold bst
  split<;>omega
theorem ZbK(a b:Int):cmpL [a,0] [b,0]<0↔a<b:=by
 unfold cmpL;have e:cmpL [(0:Int)] [0]=0:=by decide
 rw[e];unfold cmpE
 repeat' split
 all_goals omega
theorem Z9N(x:Vm)(T:List (List Int))(n:Nat):∀i,i<n→Z1T (cT x T) ((List.range n).take (i+1))=some (bst (unN x T) (i+1))
 | 0,h=>by
  rw[take_range h,List.take_zero,List.nil_append];show some 0=some _;simp[bst]
 | i+1,h=>by
  rw[take_range h,Z3m,Z9N x T n i (by omega)];show (if cmpL [-unN x T (i+1),0] [-unN x T (bst (unN x T) (i+1)),0]<0 then some (i+1) else some (bst (unN x T) (i+1)))=some (bst (unN x T) (i+2));rw[show bst (unN x T) (i+2)=if unN x T (bst (unN x T) (i+1))<unN x T (i+1) then i+1 else bst (unN x T) (i+1) from rfl]
  by_cases e:unN x T (bst (unN x T) (i+1))<unN x T (i+1)
  ·rw[if_pos ((ZbK _ _).2 (by omega)),if_pos e]
  ·rw[if_neg (fun q=>e (by have:=(ZbK _ _).1 q;omega)),if_neg e]
theorem Zi1{x:Vm}(hl:1≤x.L.length)(T:List (List Int)):telR x T=if unN x T (bst (unN x T) x.L.length)=0 then(0,0,11) else(((bst (unN x T) x.L.length:Nat):Int),unN x T (bst (unN x T) x.L.length),0):=by
 obtain⟨n,hn⟩:∃n,x.L.length=n+1:=⟨x.L.length-1,by omega⟩;have h:=Z9N x T (n+1) n (by omega);rw[List.take_of_length_le (by simp)]at h;unfold telR;rw[hn,h]
theorem Z9B(β:Nat→Bool):∀n,(((Zw n β).length:Nat):Int)=rowU β n
 | 0=>rfl
 | n+1=>by
  have h:=Z9B β n;unfold Zw at h⊢;rw[List.range_succ,List.filter_append,List.map_append,Ym,rowU,←h]
  cases e:β n<;>simp[e,bI]
theorem ZdW{i: Nat}{β:Nat→Bool}(h:i<n): (0≤atI (Zw n β) ((i:Nat):Int))↔β i=true:=by
 have hm:((i:Nat):Int)∈Zw n β↔β i=true:=by
  unfold Zw;simp only[List.mem_map,List.mem_filter,List.mem_range]
  constructor
  ·rintro⟨j,⟨_,hj⟩,e⟩
   obtain rfl:j=i:=by omega
   exact hj
  ·exact fun hb=>⟨i,⟨h,hb⟩,rfl⟩
 rw[←hm];unfold atI
 cases e:(Zw n β).findIdx? (· == ((i:Nat):Int)) with
 | none =>
  rw[List.findIdx?_eq_none_iff]at e
  constructor
  ·intro q;simp at q
  ·intro q;have:=e _ q;simp at this
 | some j =>
  rw[List.findIdx?_eq_some_iff_getElem]at e;obtain⟨hj,e1,_⟩:=e;have e2:(Zw n β)[j]=((i:Nat):Int):=by simpa using e1
  exact⟨fun _=>e2▸List.getElem_mem hj,fun _=>by simp⟩
theorem ZeX(x:Vm)(T:List (List Int)){a: Nat}(h:a≤b): splT x T a <+: splT x T b:=by
 obtain⟨d,rfl⟩:=Nat.le.dest h
 induction d with
 | zero=>exact List.prefix_rfl
 | succ d ih=>exact(ih (by omega)).trans (by rw[Nat.add_succ,Z2g];exact List.prefix_append _ _)
theorem ZeW(x:Vm)(T:List (List Int))(a:Nat)(h:m≤n): splR x T a m <+: splR x T a n:=by
 obtain⟨d,rfl⟩:=Nat.le.dest h
 induction d with
 | zero=>exact List.prefix_rfl
 | succ d ih =>
  refine(ih (by omega)).trans ?_;rw[Nat.add_succ]
  cases e:splB x T a (a+1+(m+d)) with
  | true=>rw[Z4r e];exact List.prefix_append _ _
  | false=>rw[Z52 e];exact List.prefix_rfl
theorem key2{M:List (Value×List Int)}{i:Nat}(h:i<M.length): (M.map (·.2)).getD i []=(M.getD i (.bool true,[])).2:=by simp[Y7,h]
theorem Zcm{w: World}{a:Option Addr}(h:IntR base w l (.slice a l.length c))(E:Ext [n] w w')(hn:n<base): Z7 w' (.slice a l.length c) 1 (l.map Z5):=by
 obtain⟨a',c',e,hr⟩:=Z7G (Z6I h E (by simpa using hn) (Ye _));simp only[Value.slice.injEq]at e;obtain⟨rfl,_,rfl⟩:=e;exact hr
theorem ZjT{x:Vm}{a: Nat}(ha:a<T.length)(hm:m<T.length-(a+1))(h:splB x T a (a+1+m)=true):
  (splT x T a++splR x T a m).length<(splL x T).length∧(splL x T).getD (splT x T a++splR x T a m).length []=[((a:Nat):Int),((a+1+m:Nat):Int)]:=by
 have h1:splT x T a++splR x T a (m+1) <+: splL x T:=by
  refine List.IsPrefix.trans ?_ (ZeX x T (show a+1≤T.length by omega));rw[Z2g];exact(List.prefix_append_right_inj _).2 (ZeW x T a (by omega))
 rw[Z4r h,←List.append_assoc]at h1;obtain⟨r,hr⟩:=h1;rw[←hr]
 constructor
 ·simp
 ·rw[List.append_assoc,Y7,List.getElem?_append_right (Ye _),Nat.sub_self]
  rfl
variable{μ:Nat}
theorem Zdq:∀(xs:List Int) (i:Nat) (v:Int),i<xs.length→(xs.set i v).sum=xs.sum-xs.getD i 0+v
 | [],i,v,h=>by simp at h
 | x::xs,0,v,h=>by simp;omega
 | x::xs,i+1,v,h=>by
  have:=Zdq xs i v (by simpa using h);simp only[List.set_cons_succ,List.sum_cons,this,List.getD_cons_succ];omega
theorem Zcw(h:∀n∈xs,0≤n): ∀n∈xs,n≤xs.sum:=by
 induction xs with
 | nil=>intro n hn;simp at hn
 | cons x xs ih =>
  intro n hn;have h0:0≤xs.sum:=by
   clear ih hn
   induction xs with
   | nil=>simp
   | cons y ys ih2 =>
    have:=h y (by simp);have:=ih2 fun m hm=>h m (by simp only[Yc]at hm⊢;rcases hm with rfl | hm<;>simp[*]);simp only[List.sum_cons];omega
  have hx:=h x (by simp);rw[List.sum_cons]
  rcases Yc.1 hn with rfl | hn
  ·omega
  ·have:=ih (fun m hm=>h m (by simp[hm])) n hn;omega
def Zgs(x:Vm)(w0:World)(b k:Nat)(nv:Value)(w:World)(e:Ending)(w':World):Prop:=∃(a:Option Addr) (xs:List Int),e = .returned (.slice a x.D.length x.D.length)∧RcpOk x xs∧w'.ownsRow w.heap.size 3 1 (.slice a x.D.length x.D.length) x.D.length (ivs xs)∧Zg w0 w' b (k+10) nv∧Ext [b] w w'
theorem Z7R(x:Vm)(hv:VOk x)(w0 w:World)(b k:Nat)(nv:Value)(h:Zg w0 w b k nv)(hk:k≤900000):
  Calls (Qy.prog μ) 14 #[.pointer (some ⟨b,0,none⟩),.agg #[.int .i64 x.B,.slice x.da x.D.length x.dc,.slice x.la x.L.length x.lc,.int .i64 x.tol]] w (Zgs x w0 b k nv w):=by
 have HL:=h;have hbw:=Z2U HL;have hws:w0.heap.size≤w.heap.size:=HL.2.2.1.size;have E:Ext [b] w w:=Ext.refl _ _;have hd1:=hv.d1;have hd4:=hv.d4;clear h hv;have G:=((Bk.nil w).cl HL).ce E;refine(ent 31 Tryz.f14 rfl) fun F=>wR fun k1=>(F.bx G) @fun n3 w1 _ yy F G=>(F.m) fun F=>k1<|wR fun k2=>(F.y (F.fd 1)) fun F=>(F.y (F.lc (G.q 0))) fun F=>(F.y F.ln) fun F=>?_
 have hEs:=(G.e 1).size;refine ZD F rfl (by decide) (F.want rfl) (Z4o rfl (w.heap.size) (e:=3) (bytes:=8) (z:=.int .i64 0) Qy.underlying22 (by kernel_rfl) rfl (F.at rfl) (F.at rfl) (n:=x.D.length) (by omega) (by decide) (by omega)) ?_;clear F;rintro _ v' w2 F ⟨oo,hg,rfl⟩;obtain⟨n10,hn⟩:=eQ w1.heap.size;rw[←hn]at F oo;have s10:=G.lt hn;replace G:=G.gn hg;clear hg hn;replace G:=G.co oo;have oo:=G.o 0;rw[show List.replicate x.D.length (Value.int .i64 0)=ivs (List.replicate x.D.length 0) by simp[ivs]]at oo;replace G:=G.rO 0 oo;clear oo;refine(F.m) fun F=>k2<|wQ fun k3=>wR fun k4=>(F.m) fun F=>(F.m) fun F=>(F.bs G 1 #[.int .i64 1,.int .i64 2,.int .i64 3,.int .i64 6] Qy.zeroValue3) @fun n13 w3 _ yy F G=>(F.k (Zgb w0 _ b _ nv n13 _ [1,2,3,6] (G.l 4) (by omega) (G.q 0) (by omega) (by decide) (by decide))) ?_
 rintro _ w4 ⟨v,rfl,hvm,HL,e9⟩;refine⟨_,rfl,fun F=>?_⟩;replace G:=G.xl 4 e9 HL;have hv6:1≤v∧v≤6:=by simp only[Yc,Ya,or_false]at hvm;omega
 refine(F.k (Z7E w0 _ b _ nv 1 v (G.l 4) (by omega) (by omega) (by omega) (by omega) (by omega))) ?_;rintro _ w5 ⟨n,rfl,hn1,hn2,HL,e9⟩;refine⟨_,rfl,fun F=>?_⟩;replace G:=(G.xl 4 e9 HL).d 0;refine(F.m) fun F=>?_;rw[show n=n-((0:Nat):Int) by omega]at F;refine k4<|Yh ?_
 replace G:=G.rL 3 (show Zg w0 w5 b (k+2+0) nv from Zu (G.l 3) (by omega));refine lpB (F.b [0,5]) (G.b [1,2]) (6) (fun i Lv Sv W=>∃xs:List Int,Lv=[(6,.int .i64 (n-((i:Nat):Int)))]∧Sv=[.l w0 b (k+2+i) nv]∧W.ownsRow w.heap.size 3 1 (.slice (some ⟨n10,0,none⟩) x.D.length x.D.length) x.D.length (ivs xs)∧xs.length=x.D.length∧(∀m∈xs,0≤m)∧xs.sum=i∧(i:Int)≤n) ⟨_,_,F.u,G.u,_,rfl,rfl,(G.o 0),(by simp),(by simp),(by simp),(by omega)⟩ ?_;clear F G;rintro i _ w6 _ _ hi1 ⟨xs,rfl,rfl,oo,hxl,hx0,hxs,hin⟩ F G;replace G:=(G.z).co oo;refine wQ fun k5=>wR fun k6=>(F.m) fun F=>(F.y F.gt) fun F=>k6<|F.ci (fun hc17=>?_) (fun hc17=>?_)
 ·refine Yi<|k5<|wQ fun k7=>Yh<|Yg<|(F.m) fun F=>(F.m) fun F=>(F.m) fun F=>(F.y F.ln) fun F=>(F.y F.sb) fun F=>(F.k (Z0P w0 _ b _ nv (((x.D.length:Nat):Int)-1) (G.l 1) (by omega) (by omega) (by omega))) ?_
  rintro _ w7 ⟨u,rfl,hu0,hu1,HL,e9⟩;refine⟨_,rfl,fun F=>?_⟩;replace G:=G.xl 1 e9 HL;obtain⟨u,rfl⟩:=Int.eq_ofNat_of_zero_le hu0;have hux:u<xs.length:=by rw[hxl];omega
  have oo:=G.o 0;have HS:=Lib.hid (Z0d oo hxl.symm [] (by simp));have hil:=Z2v xs;have hm0:=hx0 _ (Z8 0 hux);have hmS:=Zcw hx0 _ (Z8 0 hux);replace G:=G.hr [];obtain⟨xb8,xo8,xa8,xr8⟩:=HS.out u (by omega);refine(F.y (F.is 1 xa8)) fun F=>(F.y (F.l1 (xr8 _ (G.e 0)) 0)) fun F=>(F.y F.ad) fun F=>?_;obtain⟨xb9,xo9,xa9,xr9⟩:=HS.out u (by omega);refine(F.y (F.is 1 xa9)) fun F=>?_;replace G:=G.d 0;obtain⟨⟨u0,hcu⟩,hfu,hst⟩:=Z3I (G.o 0) xa9 (j:=u) (p:=xo9+((u:Nat):Int).toNat*1) (by first | omega | (simp;omega)) (by omega);refine Z1n rfl (F.want rfl) (ZU rfl (F.at rfl) (F.at rfl) rfl (by kernel_rfl) hcu hfu) ?_;intro w8 hw;obtain⟨hown',hg⟩:=hst _ _ hw;replace G:=G.gr 0 hg hown';clear hst hcu hfu hw hg hown';have oo:=G.o 0;rw[Z2w]at oo;have hst:=Zdq xs u (xs.getD u 0+1) hux;have hx2:∀m∈xs.set u (xs.getD u 0+1),0≤m:=by intro m hm;rcases List.mem_or_eq_of_mem_set hm with hm | rfl;(· exact hx0 m hm);(· omega)
  replace G:=G.rO 0 oo;clear oo;refine k7<|Yg<|(F.m) fun F=>(F.y F.sb) fun F=>?_
  rw[show n-((i:Nat):Int)-1=n-((i+1:Nat):Int) by omega]at F;refine(F.m) fun F=>?_;replace G:=G.rL 1 (show Zg w0 w8 b (k+2+(i+1)) nv from Zu (G.l 1) (by omega));show _∧_;exact⟨by omega,_,_,F.u,G.u,_,rfl,rfl,(G.o 0),(by rw[List.length_set];exact hxl),hx2,(by omega),(by omega)⟩
 ·refine wp_exit<|k3<|wR fun k10=>(F.m) fun F=>(F.m) fun F=>k10<|(F.r1) ?_
  have oo:=G.o 0;refine⟨_,xs,rfl,⟨hxl,fun m hm=>⟨hx0 m hm,?_⟩,by omega,by omega⟩,oo,Zu (G.l 1) (by omega),(G.e 3)⟩;have:=Zcw hx0 m hm;omega
variable{μ:Nat}
def Zgt(x:Vm)(w0:World)(b k:Nat)(nv:Value)(w:World)(e:Ending)(w':World):Prop:=∃(a:Option Addr) (c:Nat) (S:List (Value×List Int)),e = .returned (.slice a S.length c)∧S.length≤6∧(∀p∈S,RcpOk x p.2) ∧
 w'.ownsRow w.heap.size 22 1 (.slice a S.length c) S.length (S.map (·.1))∧FamT w' w.heap.size S∧Zg w0 w' b (k+100) nv∧Ext [b] w w'
theorem Z85(x:Vm)(hv:VOk x)(w0 w:World)(b k:Nat)(nv:Value)(h:Zg w0 w b k nv)(hk:k≤800000):
  Calls (Qy.prog μ) 20 #[.pointer (some ⟨b,0,none⟩),.agg #[.int .i64 x.B,.slice x.da x.D.length x.dc,.slice x.la x.L.length x.lc,.int .i64 x.tol],.int .i64 6] w (Zgt x w0 b k nv w):=by
 have HL:=h;have hbw:=Z2U HL;have hb0:=HL.1;have hws:w0.heap.size≤w.heap.size:=HL.2.2.1.size;have E:Ext [b] w w:=Ext.refl _ _;have HV:=Lib.hid hv;clear h hv;have G:=((Bk.nil w).cl HL).ce E;refine(ent 23 Tryz.f20 rfl) fun F=>wR fun k1=>(F.bx G) fun yy F G=>(F.m) fun F=>k1<|wR fun k2=>(F.m) fun F=>k2<|wQ fun k3=>wR fun k4=>(F.m) fun F=>(F.m) fun F=>(F.k (Z0P w0 _ b _ nv 6 (G.l 2) (by omega) (by omega) (by omega))) ?_
 rintro _ w2 ⟨u,rfl,hu0,hu1,HL,e9⟩;refine⟨_,rfl,fun F=>?_⟩;replace G:=G.xl 2 e9 HL;obtain⟨u,rfl⟩:=Int.eq_ofNat_of_zero_le hu0;refine(F.m) fun F=>?_;have hb4:=Z3 (G.q 0);have hbb:=Z2U (G.l 2);have hwR0:w.heap.size≤w2.heap.size:=by exact(G.e 1).size
 have oo:w2.ownsRow w2.heap.size 22 1 (.slice none 0 0) 0 (([]:List (Value×List Int)).map (·.1)):=World.ownsRow_nil _ _ _ _;have fam:FamT w2 w2.heap.size []:=Z6E _ _;replace G:=((G.hr [b]).co oo).cf fam;refine k4<|Yh ?_
 replace G:=G.rL 5 (show Zg w0 w2 b (k+1+10*0) nv from Zu (G.l 5) (by omega));refine lpB (F.b [0,4]) (G.b [2,3,4]) (u) (fun i Lv Sv W=>∃va:Option Addr,∃vc:Nat,∃S:List (Value×List Int),Lv=[(7,.slice va S.length vc),(8,.int .i64 ((u-i:Nat):Int))]∧Sv=[.l w0 b (k+1+10*i) nv]∧W.ownsRow w2.heap.size 22 1 (.slice va S.length vc) S.length (S.map (·.1))∧FamT W w2.heap.size S∧(∀p∈S,RcpOk x p.2)∧S.length=i∧i≤u) ⟨_,_,F.u,G.u,none,0,[],rfl,rfl,(G.o 1),(G.f 0),(by simp),rfl,(by omega)⟩ ?_;clear F G;rintro i _ w3 _ _ hi1 ⟨va,vc,S,rfl,rfl,oo,fam,hS,hSl,hin⟩ F G;replace G:=((G.z).co oo).cf fam;refine wQ fun k5=>wR fun k6=>(F.m) fun F=>(F.y F.gt) fun F=>k6<|F.ci (fun hc13=>?_) (fun hc13=>?_)
 ·refine Yi<|k5<|wQ fun k7=>Yh<|Yg<|(F.m) fun F=>(F.m) fun F=>(F.y (F.lb (G.q 4))) fun F=>?_
  have fam:=G.f 0;have hflt:=Lib.hid (Z9s fam);obtain⟨B1,hB1⟩:∃B1,B1=w3.heap.size:=⟨_,rfl⟩;rw[←hB1]at hflt;have hB1w:w2.heap.size≤B1:=by rw[hB1];exact(G.e 3).size
  refine(F.k (Z7R x HV.out w0 _ b _ nv (G.l 2) (by omega))) ?_;rintro _ w4 ⟨ra,xs,rfl,hrc,ro,HL,e9⟩;refine⟨_,rfl,fun F=>?_⟩;replace G:=G.xl 2 e9 HL;rw[←hB1]at ro;have hxl:=hrc.len;have fam:=G.f 0;have fam2:=Z4m (Z4l (b1:=B1) (L:=[(Value.slice ra x.D.length x.D.length,xs)]) ⟨fun p hp=>(by obtain rfl:p=(Value.slice ra x.D.length x.D.length,xs):=(by simpa using hp);rw[show ((Value.slice ra x.D.length x.D.length,xs):Value×List Int).2.length=x.D.length from hxl];exact ro),List.pairwise_singleton _ _⟩ fam hflt.out hB1w) (M:=S++[(Value.slice ra x.D.length x.D.length,xs)]) List.perm_append_comm;clear ro;have fam:=fam2;clear fam2;obtain⟨P,hP⟩:∃P,P=S++[(Value.slice ra x.D.length x.D.length,xs)]:=⟨_,rfl⟩;have hPl:S.length+1=P.length:=by rw[hP,Ym];rfl
  rw[←hP]at fam;have hPS:∀p∈P,RcpOk x p.2:=by intro p hp;rw[hP]at hp;rcases List.mem_append.1 hp with hp | hp;(· exact hS p hp);(· simp only[Yc,Ya,or_false]at hp;subst hp;exact hrc)
  replace G:=G.rF 0 fam;clear fam;refine(F.bs G 1 #[.slice ra x.D.length x.D.length] Qy.zeroValue22) fun yy F G=>?_;have hEs:=(G.e 4).size;refine ZD F rfl (by decide) (F.want rfl) (ZI rfl (w2.heap.size) (e:=22) (size:=1) (bytes:=24) Qy.underlying25 (by kernel_rfl) (by decide) (F.at rfl) (G.o 2) (F.at rfl) (G.q 0) rfl (by simp[Value.oneCell']) (by omega) (by omega) (by omega)) ?_;clear F;rintro _ v' w6 F ⟨hown',hg⟩;obtain⟨va21,vc21,rfl⟩:=Zo hown';replace G:=(G.d 0).gr 1 hg hown';clear hg hown';have oo:=G.o 1;rw[show S.map (·.1)++[Value.slice ra x.D.length x.D.length]=P.map (·.1) by rw[hP,List.map_append];rfl,hPl]at oo;rw[hPl]at F;replace hS:=hPS;replace hSl:P.length=i+1:=by omega
  replace G:=G.rO 1 oo;clear oo;refine(F.m) fun F=>k7<|Yg<|(F.m) fun F=>(F.y F.sb) fun F=>?_
  rw[show (((u-i:Nat):Int)-1)=((u-(i+1):Nat):Int) by omega]at F;refine(F.m) fun F=>?_;replace G:=G.rL 2 (show Zg w0 w6 b (k+1+10*(i+1)) nv from Zu (G.l 2) (by omega));show _∧_;exact⟨by omega,_,_,F.u,G.u,_,_,_,rfl,rfl,(G.o 1),(G.f 0),hS,hSl,(by omega)⟩
 ·refine wp_exit<|k3<|wR fun k8=>(F.m) fun F=>(F.m) fun F=>k8<|(F.r1) ?_
  have fam:=G.f 0;have oo:=G.o 1;exact⟨va,vc,S,rfl,by omega,hS,Z0i oo hwR0,Zca fam hwR0,Zu (G.l 2) (by omega),(G.e 5)⟩
variable{μ:Nat}
def AtB(b:Nat)(x:Vm)(w:World):Prop:=∀W,Ext [b] w W→x.At W
theorem AtB.ext{x:Vm}{W: World}(h:AtB b x w)(e:Ext [b] w W): AtB b x W:=fun V k=>h V (e.trans k)
theorem AtB.at{x:Vm}(h:AtB b x w): x.At w:=h w (Ext.refl _ _)
end
end Go.Proofs.YtfelljbfeoplhaaGreat
