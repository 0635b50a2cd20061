/- Parts of a proof: Dfm, Dfn, Xa, Xb, Xc, Xe, Xh, Xi, Xn, Xr, Xq, Xt. No conditions. -/
import Derived.Defers
import Derived.Test.YtfelljbfeoplhaaGreatPpt1
import Derived.Test.YtfelljbfeoplhaaGreatPpt5
import Derived.Test.YtfelljbfeoplhaaGreatPpt6
import Derived.Test.YtfelljbfeoplhaaGreatPpt7
import Derived.Test.YtfelljbfeoplhaaGreatPpt8
import Derived.Test.YtfelljbfeoplhaaGreatPpt9
import Derived.Test.YtfelljbfeoplhaaGreatPpt11
set_option linter.unusedVariables false
set_option linter.unusedSimpArgs false
set_option linter.unusedSectionVars false
set_option maxRecDepth 100000
set_option maxHeartbeats 4000000
namespace Go.Proofs.YtfelljbfeoplhaaGreat
variable{l l' s:List Int}{h m:Int}{u v w w':Go.World}{P:Go.Program}{K c1 c2 n1 n2:Nat}{a:Go.Act}{c:Go.Frame}{D S:Nat->Prop}{xs:Array Go.Value}{y0 y1 y2:Go.Value}{Post:Go.Value->Go.World->Prop}{a1 a2:Option Go.Addr}{cs:List Go.Frame}{Q:Go.Exit->Go.Act->Go.World->Prop}
section
open Go.RowKit
variable{μ:Nat}
theorem Zcp(hl:(l.length:Int)<m): cntE l m h=7:=if_pos hl
theorem Za0(hl:m<(l.length:Int)): cntE l m h=6:=by rw[cntE,if_neg (by omega),if_pos hl]
variable{μ:Nat}
def rcpE(x:Vm)(l:List Int):Int:=if cntE l x.D.length 6≠0 then cntE l x.D.length 6 else sizE l.sum 6
theorem Zcq{i:Nat}(hl:(l.length:Int)=m)(hi:i<l.length)(ho:outB (l.getD i 0) 0 h=true): cntE l m h=1:=by
 rw[cntE,if_neg (by omega),if_neg (by omega),if_neg];intro e;have:=Yl.1 e _ (Zb 0 hi);rw[ho]at this;simp at this
theorem Zgo(hl:(l.length:Int)=m)(hb:∀n∈l,0<=n/\n<=h): cntE l m h=0:=by
 rw[cntE,if_neg (by omega),if_neg (by omega),if_pos];exact Yl.2 λn hn=>by rw[Z1g.2 (hb n hn)];rfl
theorem ZgX:∀{l:List Int},(∀n∈l,0<=n)->0<=l.sum
 | [],_=>by simp
 | n::l,h=>by
  have h1:=h n (by simp);have h2:=ZgX (l:=l) (λm hm=>h m (by simp[hm]));rw[List.sum_cons];omega
theorem Z1y{x:Vm}: rcpE x l=0↔RcpOk x l:=by
 constructor
 ·intro h
  unfold rcpE at h
  by_cases hc:cntE l x.D.length 6=0
  ·rw[if_neg (by simpa using hc)]at h
   have hlen:l.length=x.D.length:=by
    rcases Nat.lt_trichotomy l.length x.D.length with e | e | e
    ·rw[Zcp (by omega)]at hc;omega
    ·exact e
    ·rw[Za0 (by omega)]at hc;omega
   have hbd:∀n∈l,0<=n/\n<=6:=λn hn=>by
    obtain⟨k,hk,rfl⟩:=List.getElem_of_mem hn;have hg:l.getD k 0=l[k]:=by simp[Y7,List.getElem?_eq_getElem hk]
    rw[<-hg];apply Z1g.1
    cases e:outB (l.getD k 0) 0 6
    ·rfl
    ·rw[Zcq (by omega) hk e]at hc;omega
   have hnn:=ZgX (λn hn=>(hbd n hn).1);refine⟨hlen,hbd,?_,?_⟩
   ·unfold sizE at h;split at h<;>(try split at h)<;>omega
   ·unfold sizE at h;split at h<;>(try split at h)<;>omega
  ·rw[if_pos hc]at h;exact absurd h hc
 ·intro h
  have hc:cntE l x.D.length 6=0:=Zgo (by rw[h.len]) h.bd;rw[rcpE,if_neg (by simpa using hc)];exact Z7t h.s1 h.s6
theorem Zh(x:Vm)(hv:VOk x)(l:List Int)(hl:l.length<=1000)(he:rcpE x l≠0)(a:Option Addr)(c:Nat)(w:World)(hr:Z8 w (.slice a l.length c) 1 (l.map Z7)):
  Calls (Qy.prog μ) 65 #[.agg #[.int .i64 x.B,.slice x.da x.D.length x.dc,.slice x.la x.L.length x.lc,.int .i64 x.tol],.slice a l.length c] w λe w'=>e = .panicked [fltV (rcpE x l)]/\Ext [] w w':=by
 have E:Ext [] w w:=Ext.refl _ _;have HR:=Lib.hid hr;have HS:=Lib.hid (Zj hr 0);have hd1:=hv.d1;have hd4:=hv.d4;clear hr hv;obtain⟨er,her⟩:∃er,er=rcpE x l:=⟨_,rfl⟩;rw[<-her]at he⊢;unfold rcpE at her;refine ZS 42 Qy.func65 rfl Tryz.ntmps65 (Nat.le_of_ble_eq_true rfl) ?_;intro fa F;refine wS λK1 hK1=>?_;refine Yg ?_;refine sqN F (Z1B rfl (F.at rfl)) λfa w1 F hw=>?_;obtain⟨n2,hn⟩:=eQ w.heap.size;rw[<-hn]at F;have s2:=sQ hn;have l2_E:=lQ hn E.size;replace E:=Z2 E hw;have q2:=Zf hw hn;clear hw hn;refine sqN F (Ze rfl Qy.zeroValue88) λfa w2 F hw=>?_;obtain⟨n4,hn⟩:=eQ w1.heap.size;rw[<-hn]at F;have s4:=sQ hn;have l4_E:=lQ hn E.size;have m4_2:=tQ hn (Z3 q2);replace q2:=Z0 hw q2;replace E:=Z2 E hw;have q4:=Zf hw hn;clear hw hn;refine wN<|hK1 _ _<|wS λK2 hK2=>wS λK3 hK3=>?_
 refine Yg ?_;refine F.mv λfa F=>?_;refine F.vl (Z3r rfl rfl (F.at rfl) Qy.underlying22) λfa F=>?_;refine F.vl (ZO rfl (F.at rfl) Qy.underlying85 rfl (n:=0) (sz:=4) rfl (by kernel_rfl) (by decide)) λfa F=>?_;refine F.vl (ZO rfl (F.at rfl) Qy.underlying27 rfl (n:=1) (sz:=1) rfl (by kernel_rfl) (by decide)) λfa F=>?_;refine F.vl (ZH rfl (F.at rfl) Qy.underlying25 rfl ((Z1 q2 1).trans (getS (get0)))) λfa F=>?_;refine F.vl (Z3r rfl rfl (F.at rfl) Qy.underlying25) λfa F=>?_;refine F.vl (Z52 rfl (F.at rfl) (F.at rfl)) λfa F=>?_;refine wN<|hK3 _ _ ?_
 refine Z6L F rfl (λhc14=>?_) (λhc14=>?_)
 ·skip
  refine Yg ?_;refine F.vl ((Z3s rfl (ev_c fa _) Qy.underlying135)) λfa F=>?_;refine Z1A rfl (Z2s rfl (F.at rfl)) ?_
  (try simp only[Exit.inBlock,Exit.then,Exit.jump,reduceIte])
  refine⟨F.ds,?_⟩;rw[her,Zcp (by omega)];exact⟨rfl,E⟩
 ·skip
  refine Yi ?_;refine hK2 _ _<|wS λK4 hK4=>wS λK5 hK5=>?_
  refine Yg ?_;refine F.mv λfa F=>?_;refine F.vl (Z3r rfl rfl (F.at rfl) Qy.underlying22) λfa F=>?_;refine F.vl (ZO rfl (F.at rfl) Qy.underlying85 rfl (n:=0) (sz:=4) rfl (by kernel_rfl) (by decide)) λfa F=>?_;refine F.vl (ZO rfl (F.at rfl) Qy.underlying27 rfl (n:=1) (sz:=1) rfl (by kernel_rfl) (by decide)) λfa F=>?_;refine F.vl (ZH rfl (F.at rfl) Qy.underlying25 rfl ((Z1 q2 1).trans (getS (get0)))) λfa F=>?_;refine F.vl (Z3r rfl rfl (F.at rfl) Qy.underlying25) λfa F=>?_;refine F.vl (Zh3 rfl (F.at rfl) (F.at rfl)) λfa F=>?_;refine wN<|hK5 _ _ ?_
  refine Z6L F rfl (λhc22=>?_) (λhc22=>?_)
  ·skip
   refine Yg ?_;refine F.vl ((Z3s rfl (ev_c fa _) Qy.underlying135)) λfa F=>?_;refine Z1A rfl (Z2s rfl (F.at rfl)) ?_
   (try simp only[Exit.inBlock,Exit.then,Exit.jump,reduceIte])
   refine⟨F.ds,?_⟩;rw[her,Za0 (by omega)];exact⟨rfl,E⟩
  ·skip
   refine Yi ?_;refine hK4 _ _<|wS λK6 hK6=>wS λK7 hK7=>?_
   refine Yg ?_;refine F.mv λfa F=>?_;refine F.vl (Z3r rfl rfl (F.at rfl) Qy.underlying22) λfa F=>?_;refine F.vl (Z0E rfl (ev_c fa _)) λfa F=>?_;refine wN<|hK7 _ _ ?_
   refine Yh ?_;have F0:=F.sub (.c 1 rfl (.c 4 rfl (.c 24 rfl (.c 25 rfl .n))));refine Z6c F0 (l.length) (λi Lv W=>Lv=[(26,.int .i64 ((i:Nat):Int))]/\Ext [] w W/\W.heap[n2]?=some (.cells #[.int .i64 x.B,.slice x.da x.D.length x.dc,.slice x.la x.L.length x.lc,.int .i64 x.tol] 85 (0,0))/\W.heap[n4]?=some (.cells #[.int .i64 0,.int .i64 0,.int .i64 0,.int .i64 0] 88 (0,0))/\RowKit.Hid (∀j,j<i->outB (l.getD j 0) 0 6=false)) ⟨_,⟨rfl,E,q2,q4,Lib.hid (λj hj=>absurd hj (by omega))⟩,F.sub (.c 26 rfl (.c 1 rfl (.c 4 rfl (.c 24 rfl (.c 25 rfl .n)))))⟩ ?_;clear F F0;clear E q2 q4;rintro i _ fa w3 hi1 ⟨rfl,E,q2,q4,hb⟩ F;refine wS λK8 hK8=>?_;refine Yg ?_;refine F.vl (Z52 rfl (F.at rfl) (F.at rfl)) λfa F=>?_;refine wN<|hK8 _ _<|wS λK9 hK9=>?_
   refine Z6L F rfl (λhc27=>?_) (λhc27=>?_)
   ·skip
    refine Yi ?_;refine hK9 _ _<|wS λK10 hK10=>?_
    refine Yh ?_;refine wS λK11 hK11=>?_;refine Yg ?_;obtain⟨xb12,xo12,xa12,xr12⟩:=HS.out i (by omega);refine F.vl (Z50 (sz:=1) rfl ((F.at rfl).trans (xa12 _ _)) (F.at rfl) Qy.underlying22 (by kernel_rfl) (by omega) (by omega)) λfa F=>?_;refine F.vl (ZH rfl (F.at rfl) Qy.underlying3 rfl (xr12 _ E 0 _ rfl)) λfa F=>?_;refine F.as λfa F=>?_;refine wN<|hK11 _ _<|wS λK13 hK13=>?_
    by_cases ho:outB (l.getD i 0) 0 6=true
    ·skip
     refine Yg ?_;refine F.mv λfa F=>?_;refine sqC F (Za rfl rfl Qy.call92 (mpS (F.at rfl) (mpS (ev_c fa _) (mpS (ev_c fa _) mp0)))) (Z0r (l.getD i 0) 0 6 _) λe w4 hR=>?_;obtain⟨rfl,e9⟩:=hR;refine⟨_,rfl,λfa F=>?_⟩;replace q2:=(e9).keep0 q2;replace q4:=(e9).keep0 q4;replace E:=Z4 E (e9);clear e9;rw[ho]at F;refine wN<|hK13 _ _ ?_
     refine cd_T F rfl ?_;refine Yg ?_;refine F.vl ((Z3s rfl (ev_c fa _) Qy.underlying135)) λfa F=>?_;refine Z1A rfl (Z2s rfl (F.at rfl)) ?_
     (try simp only[Exit.inBlock,Exit.then,Exit.jump,reduceIte])
     refine⟨F.ds,?_⟩;rw[her,Zcq (by omega) (by omega) ho];exact⟨rfl,E⟩
    ·skip
     refine Yg ?_;refine F.mv λfa F=>?_;refine sqC F (Za rfl rfl Qy.call92 (mpS (F.at rfl) (mpS (ev_c fa _) (mpS (ev_c fa _) mp0)))) (Z0r (l.getD i 0) 0 6 _) λe w5 hR=>?_;obtain⟨rfl,e9⟩:=hR;refine⟨_,rfl,λfa F=>?_⟩;replace q2:=(e9).keep0 q2;replace q4:=(e9).keep0 q4;replace E:=Z4 E (e9);clear e9;rw[show outB (l.getD i 0) 0 6=false by simpa using ho]at F;refine wN<|hK13 _ _ ?_
     refine cd_F F rfl ?_;refine Yi ?_;refine hK10 _ _ ?_;refine Yg ?_;refine F.vl (Z5O rfl (F.at rfl) (ev_c fa _) (by omega) (by omega)) λfa F=>?_;refine F.mv λfa F=>?_;refine wpList_nil ?_;show _/\_;exact⟨by omega,_,⟨rfl,E,q2,q4,Lib.hid (λj hj=>(by rcases Nat.lt_or_ge j i with h | h;exact hb.out j h;rw[show j=i by omega];simpa using ho))⟩,F.sub (.c 26 rfl (.c 1 rfl (.c 4 rfl (.c 24 rfl (.c 25 rfl .n)))))⟩
   ·skip
    refine wp_exit ?_;have HB:=Lib.hid (λn (hn:n∈l)=>(by obtain⟨k,hk,rfl⟩:=List.getElem_of_mem hn;have:=hb.out k (by omega);rw[Y7,List.getElem?_eq_getElem hk]at this;exact Z1g.1 this:0<=n/\n<=6));have hpr:prt (val l)=l.sum:=Z5I l 4 (by omega);have HT:=Lib.hid (λk (_:k<4)=>(by have:=Zek HB.out (by omega) (by omega) k;omega:0<=val l k/\val l k<=1000));have hcz:cntE l x.D.length 6=0:=Zgo (by omega) HB.out;rw[if_neg (by simpa using hcz)]at her;refine hK6 _ _<|wS λK14 hK14=>?_
    refine Yg ?_;refine sqN F (Ze rfl Qy.zeroValue88) λfa w6 F hw=>?_;obtain⟨n7,hn⟩:=eQ w3.heap.size;rw[<-hn]at F;have s7:=sQ hn;have l7_E:=lQ hn E.size;have m7_2:=tQ hn (Z3 q2);have m7_4:=tQ hn (Z3 q4);replace q2:=Z0 hw q2;replace q4:=Z0 hw q4;replace E:=Z2 E hw;have q7:=Zf hw hn;clear hw hn;refine wpList_nil ?_;replace q7:w6.heap[n7]?=some (.cells (tubC zf) 88 (0,0)):=q7;refine hK14 _ _<|wS λK15 hK15=>?_
    refine Yg ?_;refine F.vl ((Z1K (n:=4) rfl (F.at rfl) (by kernel_rfl) (by kernel_rfl) (by kernel_rfl))) λfa F=>?_;refine F.mv λfa F=>?_;have hlr2:=HR.out.ext E (by simp);obtain⟨sb,so,hsa,-,-⟩:=hlr2.range rfl (by intro e;have hq:=congrArg List.length e;rw[Yj,List.length_nil]at hq;omega);rw[hsa]at hlr2;have hcd:∀j,j<l.length->(w6.cell? ⟨n7,0+j,none⟩).isSome=true:=λj hj=>(by have:=Z2M q7 (i:=(j:Int)) (k:=j) rfl (by omega);rw[Nat.mul_one,Int.toNat_natCast]at this;rw[this];rfl);refine sqN F (ZbY (l.map (Value.int .i64)) rfl (F.at rfl) ((F.at rfl).trans (congrArg (λz=>Value.slice z _ _) hsa)) Qy.underlying22 (by kernel_rfl) (by rw[Yj];exact(Nat.min_eq_left (by omega)).symm) (Z6U hlr2) (by rw[Yj];exact hcd) (by rw[Yj];exact λj _=>Zd q7 _) (Z4N _)) λfa w7 F hw=>?_;replace q2:=kcs hw q2;replace q4:=kcs hw q4;replace q7:=Zaz hw q7 (by omega);replace E:=ecs E hw;clear hw;refine wN<|hK15 _ _<|wS λK16 hK16=>?_
    refine Yg ?_;refine F.vl (Zc rfl (F.at rfl) Qy.underlying88 rfl (by kernel_rfl) q7) λfa F=>?_;refine sqC F (Za rfl rfl Qy.call83 (mpS (F.at rfl) mp0)) (Z0b (val l) HT.out _) λe w8 hR=>?_;obtain⟨rfl,e9⟩:=hR;refine⟨_,rfl,λfa F=>?_⟩;replace q2:=(e9).keep0 q2;replace q4:=(e9).keep0 q4;replace q7:=(e9).keep0 q7;replace E:=Z4 E (e9);clear e9;rw[hpr]at F;refine sqC F (Za rfl rfl Qy.call93 (mpS (F.at rfl) (mpS (ev_c fa _) mp0))) (Z3Q l.sum 6 _) λe w9 hR=>?_;obtain⟨rfl,e9⟩:=hR;refine⟨_,rfl,λfa F=>?_⟩;replace q2:=(e9).keep0 q2;replace q4:=(e9).keep0 q4;replace q7:=(e9).keep0 q7;replace E:=Z4 E (e9);clear e9;rw[<-her]at F;refine Z7x rfl (Za rfl rfl Qy.call111 (mpS (F.at rfl) mp0)) (Zfl er he _) λe w10 hR=>?_;obtain⟨rfl,e9⟩:=hR;refine⟨_,rfl,?_⟩;replace q2:=(e9).keep0 q2;replace q4:=(e9).keep0 q4;replace q7:=(e9).keep0 q7;replace E:=Z4 E (e9)
    (try simp only[Exit.inBlock,Exit.then,Exit.jump,reduceIte])
    refine⟨F.ds,?_⟩;exact⟨rfl,E⟩
end
section
open Go.RowKit Ev
variable{μ:Nat}
theorem Z7X(x:Vm)(hv:VOk x)(k:Nat)(hk:k<x.L.length)(f:Nat->Int)(hf:TubS f)(s:List Int)(hs:Z1L x s)(sa:Option Addr)(sc:Nat)(n8 n9 n5:Nat)(T8 T9 T5:TypeId)(z8 z9 z5:Nat×Nat)(w:World)(h:x.At w)(hr:Z8 w (.slice sa s.length sc) 1 (s.map Z7))
  (q8:w.heap[n8]?=some (.cells #[.int .i64 x.B,.slice x.da x.D.length x.dc,.slice x.la x.L.length x.lc,.int .i64 x.tol] T8 z8)) (q9:w.heap[n9]?=some (.cells (tubC f) T9 z9)) (q5:w.heap[n5]?=some (.cells #[.slice sa s.length sc] T5 z5)) :
  Calls (Qy.prog μ) 79 #[.int .i64 ((k:Nat):Int),.pointer (some ⟨n8,0,none⟩),.pointer (some ⟨n9,0,none⟩),.pointer (some ⟨n5,0,none⟩)] w λe w'=>e = .returned (.bool (matE x f (val s) [((k:Nat):Int)]))/\Ext [] w w':=by
 have E:Ext [] w w:=Ext.refl _ _;have HX:=Lib.hid h;have HV:=Lib.hid hv;have HR:=Lib.hid hr;clear h hv hr;refine ZS 12 Qy.func79 rfl Tryz.ntmps79 (Nat.le_of_ble_eq_true rfl) ?_;intro fa F;refine wS λK1 hK1=>?_;refine Yg ?_;refine F.vl (ZC rfl (ev_c fa _)) λfa F=>?_;refine wN<|hK1 _ _<|wS λK2 hK2=>?_
 refine Yg ?_;refine F.vl (Zc rfl (F.at rfl) Qy.underlying85 rfl (by kernel_rfl) q8) λfa F=>?_;refine F.vl (Zc rfl (F.at rfl) Qy.underlying88 rfl (by kernel_rfl) q9) λfa F=>?_;refine F.vl (ZH rfl (F.at rfl) Qy.underlying22 rfl ((Z1 q5 0).trans (get0))) λfa F=>?_;refine F.mv λfa F=>?_;refine sqN F (ZI rfl (prS (F.at rfl) pr0) Qy.underlying22 (size:=1) (by kernel_rfl) (by decide) (by decide) Qy.zeroValue3 (cells:=#[.int .i64 ((k:Nat):Int)]) (by kernel_rfl)) λfa w1 F hw=>?_;obtain⟨n10,hn⟩:=eQ w.heap.size;rw[<-hn]at F;have s10:=sQ hn;have l10_E:=lQ hn E.size;have m10_8:=tQ hn (Z3 q8);have m10_9:=tQ hn (Z3 q9);have m10_5:=tQ hn (Z3 q5);replace q8:=Z0 hw q8;replace q9:=Z0 hw q9;replace q5:=Z0 hw q5;replace E:=Z2 E hw;have q10:=ZU hw hn;clear hw hn;refine sqC F (Za rfl rfl Qy.call80 (mpS (F.at rfl) (mpS (F.at rfl) (mpS (F.at rfl) (mpS (F.at rfl) mp0))))) (Z7h (μ:=μ) x HV.out f hf s hs [((k:Nat):Int)] (by intro n hn;obtain rfl:=List.mem_singleton.1 hn;omega) (by simp) sa (some ⟨n10,0,none⟩) sc 1 _ (HX.out.ext E) (HR.out.ext E (by simp)) (Z01 [((k:Nat):Int)] 1 q10)) λe w2 hR=>?_;obtain⟨rfl,e9⟩:=hR;refine⟨_,rfl,λfa F=>?_⟩;replace q8:=(e9).keep0 q8;replace q9:=(e9).keep0 q9;replace q5:=(e9).keep0 q5;replace q10:=(e9).keep0 q10;replace E:=Z4 E (e9);clear e9;refine F.as λfa F=>?_;refine wN<|hK2 _ _ ?_
 refine wp_ret ?_
 (try simp only[Exit.inBlock,Exit.then,reduceIte])
 refine rt_v F (rs_1 F rfl rfl) ?_;exact⟨rfl,E⟩
noncomputable def mB:Code:=Tryz.f26.body.getD .skip
noncomputable def cMat:Code:=.seq (sqL mB) (.seq (sqL (sqR mB)) (.seq (sqL (sqR (sqR mB))) (.seq (sqL (sqR (sqR (sqR mB)))) (.seq (sqL (sqR (sqR (sqR (sqR mB))))) (.refuse "")))))
structure MaA(x:Vm)(f:Nat->Int)(s:List Int)(sa:Option Addr)(sc:Nat)(w:World)(b fr:Frame)(w':World):Prop where
 ex:∃(a:Act) (n7 n8 n9 n5:Nat),fr=b.at a [.code (.refuse "")] /\
  Has 21 [Z0g n7] a [(7,pt n7),(8,pt n8),(9,pt n9),(5,pt n5)] /\
  w'.heap[n7]?=some (.cells #[.int .i64 0] 30 (0,0))/\w'.heap[n8]?=some (.cells #[.int .i64 x.B,.slice x.da x.D.length x.dc,.slice x.la x.L.length x.lc,.int .i64 x.tol] 85 (0,0)) /\
  w'.heap[n9]?=some (.cells (tubC f) 88 (0,0))/\w'.heap[n5]?=some (.cells #[.slice sa s.length sc] 22 (0,0)) /\
  w.heap.size<=n7/\w.heap.size<=n8/\w.heap.size<=n9/\w.heap.size<=n5/\n7≠n8/\n7≠n9/\n7≠n5/\Ext [] w w'
theorem Zkd(x:Vm)(hv:VOk x)(l s:List Int)(hl:RcpOk x l)(hs:Z1L x s)(a1 a2:Option Addr)(c1 c2:Nat)(w:World)(h:x.At w)(hr:Z8 w (.slice a1 l.length c1) 1 (l.map Z7))(hr':Z8 w (.slice a2 s.length c2) 1 (s.map Z7))
  (fb:Frame) (fa:Act) (F:Has 21 [] fa [(0,x.val),(1,.slice a1 l.length c1),(2,.slice a2 s.length c2)]):ToZ (Qy.prog 1) [Lift.poison] (MaA x (val l) s a2 c2 w fb) (fb.at fa [.code cMat]) w:=by
 have E:Ext [] w w:=Ext.refl _ _;have HX:=Lib.hid h;have HV:=Lib.hid hv;have HR:=Lib.hid hr;have HR':=Lib.hid hr';have HL:=Lib.hid hl;have HS:=Lib.hid hs;clear h hv hr hr' hl hs;unfold Vm.val at F;have G:=(Bk.nil w).ce E;refine Z1r<|Z3o<|Yg<|(F.bx G) λyy F G=>(F.bx G) @λn5 w2 _ yy F G=>(F.m) λF=>(F.al G Qy.zeroValue30) @λn7 w3 _ yy F G=>tI<|Z1r<|Z3o<|Yg<|(F.df) λF=>tI<|Z1r<|Z3o<|Yg<|(F.y (F.lb (G.q 2))) λF=>(F.k0 G (ZZ (μ:=1) x HV.out _ (HX.out.ext (G.e 3)))) λF G=>(F.al G Qy.zeroValue85) @λn8 w5 _ yy F G=>(F.sr G 0) λG=>tI<|Z1r<|Z3o<|Yg ?_
 refine(F.y (F.lb (G.q 0))) λF=>(F.m) λF=>(F.k (Z9 (μ:=1) x HV.out l HL.out a1 c1 _ (HR.out.ext (G.e 4) (by simp)))) ?_;rintro _ w7 ⟨rfl,e9⟩;refine⟨_,rfl,λF=>?_⟩;replace G:=G.ex e9;unfold tubC at F;refine(F.al G Qy.zeroValue88) @λn9 w8 _ yy F G=>(F.sr G 0) λG=>tI<|Z1r<|Z3o<|Yg<|(F.y (F.lb (G.q 1))) λF=>(F.y (F.lc (G.q 3))) λF=>(F.k0 G (Z2G (μ:=1) x HV.out s HS.out a2 c2 _ (HR'.out.ext (G.e 5) (by simp)))) λF G=>tI ?_
 exact ToZ.here ⟨_,n7,n8,n9,n5,rfl,F.u,G.q 2,G.q 1,G.q 0,G.q 3,by omega,by omega,by omega,by omega,by omega,by omega,by omega,G.e 5⟩
theorem Zkc(x:Vm)(hv:VOk x)(l:List Int)(hl:l.length<=1000)(he:rcpE x l≠0)(a1 a2:Option Addr)(c1 m2 c2:Nat)(w:World)(h:x.At w)(hr:Z8 w (.slice a1 l.length c1) 1 (l.map Z7))
  (fa:Act) (F:Has 21 [] fa [(0,x.val),(1,.slice a1 l.length c1),(2,.slice a2 m2 c2)]):cMat.wp (Qy.prog 1) (bodyPostM Fence.wide 9 (Qy.prog 1) Tryz.f26 λe w'=>e = .returned (.tuple #[.slice none 0 0,.int .i64 (rcpE x l)])/\Ext [] w w') fa w:=by
 have E:Ext [] w w:=Ext.refl _ _;have HX:=Lib.hid h;have HV:=Lib.hid hv;have HR:=Lib.hid hr;clear h hv hr;obtain⟨er,her⟩:∃er,er=rcpE x l:=⟨_,rfl⟩;unfold Vm.val at F;refine wS λK1 hK1=>?_;refine Yg ?_;refine sqN F (Z1B rfl (F.at rfl)) λfa w1 F hw=>?_;obtain⟨n3,hn⟩:=eQ w.heap.size;rw[<-hn]at F;have s3:=sQ hn;have l3_E:=lQ hn E.size;replace E:=Z2 E hw;have q3:=Zf hw hn;clear hw hn;refine sqN F (Z1B rfl (F.at rfl)) λfa w2 F hw=>?_;obtain⟨n5,hn⟩:=eQ w1.heap.size;rw[<-hn]at F;have s5:=sQ hn;have l5_E:=lQ hn E.size;have m5_3:=tQ hn (Z3 q3);replace q3:=Z0 hw q3;replace E:=Z2 E hw;have q5:=Z09 hw rfl hn;clear hw hn;refine F.vl (ZC rfl (ev_c fa _)) λfa F=>?_;refine sqN F (Ze rfl Qy.zeroValue30) λfa w3 F hw=>?_;obtain⟨n7,hn⟩:=eQ w2.heap.size;rw[<-hn]at F;have s7:=sQ hn;have l7_E:=lQ hn E.size;have m7_3:=tQ hn (Z3 q3);have m7_5:=tQ hn (Z3 q5);replace q3:=Z0 hw q3;replace q5:=Z0 hw q5;replace E:=Z2 E hw;have q7:=Z09 hw rfl hn;clear hw hn;refine wN<|hK1 _ _<|wS λK2 hK2=>?_
 refine Yg ?_;refine Z2W F rfl rfl (Z40 rfl rfl (mpS (F.at rfl) mp0)) λfa F=>?_;refine wN<|hK2 _ _<|wS λK3 hK3=>?_
 refine Yg ?_;refine F.vl (Zc rfl (F.at rfl) Qy.underlying27 rfl (by kernel_rfl) q3) λfa F=>?_;refine sqC F (Za rfl rfl Qy.call64 (mpS (F.at rfl) mp0)) (ZZ (μ:=1) x HV.out _ (HX.out.ext E)) λe w4 hR=>?_;obtain⟨rfl,e9⟩:=hR;refine⟨_,rfl,λfa F=>?_⟩;replace q3:=(e9).keep0 q3;replace q5:=(e9).keep0 q5;replace q7:=(e9).keep0 q7;replace E:=Z4 E (e9);clear e9;refine sqN F (Ze rfl Qy.zeroValue85) λfa w5 F hw=>?_;obtain⟨n8,hn⟩:=eQ w4.heap.size;rw[<-hn]at F;have s8:=sQ hn;have l8_E:=lQ hn E.size;have m8_3:=tQ hn (Z3 q3);have m8_5:=tQ hn (Z3 q5);have m8_7:=tQ hn (Z3 q7);replace q3:=Z0 hw q3;replace q5:=Z0 hw q5;replace q7:=Z0 hw q7;replace E:=Z2 E hw;have q8:=Zf hw hn;clear hw hn;refine Z0T rfl rfl (ZW rfl (F.at rfl) (F.at rfl) (by kernel_rfl) (by first | (simp[Value.oneCell'];done) | (simp[Value.oneCell',id];done)) q8 rfl) ?_;intro w6 hw;replace q3:=kcs hw q3;replace q5:=kcs hw q5;replace q7:=kcs hw q7;replace q8:=Z0I hw q8 rfl;replace E:=ecs E hw;clear hw;refine wN<|hK3 _ _<|wS λK4 hK4=>?_
 refine Yg ?_;refine F.vl (Zc rfl (F.at rfl) Qy.underlying85 rfl (by kernel_rfl) q8) λfa F=>?_;refine F.mv λfa F=>?_;refine Z7x rfl (Za rfl rfl Qy.call65 (mpS (F.at rfl) (mpS (F.at rfl) mp0))) ((Zh (μ:=1) x HV.out l hl he a1 c1 _ (HR.out.ext E (by simp)))) λe w7 hR=>?_;obtain⟨rfl,e9⟩:=hR;refine⟨_,rfl,?_⟩;replace q3:=(e9).keep0 q3;replace q5:=(e9).keep0 q5;replace q7:=(e9).keep0 q7;replace q8:=(e9).keep0 q8;replace E:=Z4 E (e9)
 (try simp only[Exit.inBlock,Exit.then,Exit.jump,reduceIte])
 refine Ziz F ?_;refine Z9h q7 λw8 hw=>?_;replace q3:=kce hw q3;replace q5:=kce hw q5;replace q7:=ZG hw q7 (by simp only[List.setIfInBounds_toArray,lsQ,lzQ];exact rfl);replace q8:=kce hw q8;replace E:=ece E hw;clear hw;refine Z0R (Z4w F rfl rfl rfl Qy.underlying30 rfl q7) ?_;exact⟨rfl,E⟩
end
namespace Lift
open Go Go.Conc Go.RowKit Ev Mx
open Go.ConcM (OsLater)
noncomputable def fF(f:FuncId):Frame:={(default:Frame) with fn:=f,kind:=.normal}
def fA(N:Nat)(xs:Array Value):Act:={tmps:=xs++Array.replicate (N-xs.size) undef,defers:=[]}
def HdS(Z:World->Frame->World->Prop)(v:World)(V:List Frame)(u:World):Prop:=∃T0 T f',V=[f',poison]/\Z (re v T0) f' (re u T)
structure Snc(w0:World)(r:Ren)(v w:World):Prop where
 old:∀b,b<w0.heap.size->w.heap[b]?=w0.heap[b]?
 size:w0.heap.size<=w.heap.size
 os:w.os=w0.os
 out:w.output=w0.output
 shut:∀a b,r a=some b->b<w0.heap.size->Shut v a
theorem Snc.kep[Jk]{w0:World}{r r':Ren}{v': World}(k:Kep r r' v v' w w')(h:Snc w0 r v w): Snc w0 r' v' w':=by
 refine⟨λb hb=>?_,Yd h.size k.sizeW,k.os.2.symm.trans h.os,k.out.trans h.out,λa b q hb=>?_⟩
 ·rw[<-h.old b hb]
  by_cases hn:∃a,r a=some b
  ·obtain⟨a,ha⟩:=hn
   exact k.shutW a b (h.shut a b ha hb) ha
  ·exact k.far b (Y8 hb h.size) λa ha=>hn ⟨a,ha⟩
 ·rcases k.new a b q with q | ⟨_,q⟩
  ·exact k.shutS (h.shut a b q hb)
  ·have:=h.size
   omega
theorem Z5g{J:Jk}(hj:J.j)(hg:∀f,J.gd f↔gJ f=true)(hn:∀f,¬J.law f)(hblk:∀b,S b->∃cs e fz,w.heap[b]?=some (.cells cs e fz))(hoff:∀b,S b->¬D b)(hlow:∀c,D c->c<w.heap.size){f:FuncId}{N:Nat}(hown:(Qy.F 1)[(f:Nat)]?=PP.funcs[(f:Nat)]?)(hargs:@VRs J (idS S) xs xs){c c':Code}(hc:@Todo J PP (J.law f) (¬J.gd f) false (idS S) [.code c] [.code c']){Z:World->Frame->World->Prop}(hrun:∀v,Shadow S w v->∀T,ToZ (Qy.prog 1) [poison] (Z (re v T)) ((fF f).at (fA N xs) [.code c]) (re v T))(next:∀v f' v' r' g' w' T1 T2,Shadow S w v->Z (re v T1) f' (re v' T2) -> @FrR J PP (Qy.F 1) r' f' g' -> @WH J (@Iv J PP (Qy.F 1)) r' v' w'->Idn r'->Off D r' w'->Snc w r' v' w'->Sure PP Post D (run1 g' cs) w'):
  Sure PP Post D (run1 ((fF f).at (fA N xs) [.code c']) cs) w:=by
 have hS2:Strip PP (Qy.F 1) (CodeOk PP false) (λf=>gJ f=true):=strip_J hj hg (λf _=>hn f) 1;have hG:GOk PP (Qy.F 1) (λf=>gJ f=true):=ZhI hg (λf _=>hn f) 1;have hR:Rec PP:=⟨recP,hn⟩;obtain⟨v,hsh,hwh,hshut⟩:=Z1S (P:=PP) (F:=Qy.F 1) (w:=w) hj hblk;have hfr:FrR PP (Qy.F 1) (idS S) ((fF f).at (fA N xs) [.code c]) ((fF f).at (fA N xs) [.code c']):=by
  refine @FrR.mk J PP (Qy.F 1) (idS S) _ _ ?c1 ?c2 ?c3 ?c4 ?c5 ?c6 ?c7 ?c8
  case c1=>exact(rfl:(f:Nat)=f)
  case c2=>exact hown
  case c4=>exact hc
  case c5=>exact⟨.nil,λq=>absurd q (hn _)⟩
  case c6=>exact .run
  case c7=>exact⟨(rfl:CallKind.normal = .normal),.inl (rfl:CallKind.normal = .normal)⟩
  case c8=>exact .none
  ·show VRs (idS S) (xs++Array.replicate (N-xs.size) undef) (xs++Array.replicate (N-xs.size) undef)
   exact Arr.append hargs (Arr.replicate _ .undef)
 have hst:Stk PP (Qy.F 1) (idS S) [(fF f).at (fA N xs) [.code c]] [(fF f).at (fA N xs) [.code c']]:=⟨.cons hfr .nil,⟨.inl rfl,λh=>absurd rfl h⟩,trivial⟩;have hEn:Ends (PF PP (Qy.F 1)) (HdS Z v) [(fF f).at (fA N xs) [.code c],poison] v:=by
  obtain⟨T0,hw0⟩:=hwh.tape;obtain⟨σ,hw2⟩:=hw0.retape v.tape;refine Z0O hS2 hG hR ?_ (.inl ⟨[],_,[],_,_,rfl,hst,hw2⟩) λT=>?_
  ·rintro V u T ⟨T1,T2,f',e,q⟩
   exact⟨T1,T2,f',e,q⟩
  ·obtain⟨f',w',hz,n,hn⟩:=hrun v hsh T
   exact⟨n,f',[poison],w',hn,T,w'.tape,f',rfl,hz⟩
 have hof:Off D (idS S) w:=⟨λb c hb=>by obtain⟨q1,rfl⟩:=Z0x hb;exact hoff _ q1,hlow⟩;refine Sure.lone (A:=[]) (B:=[]) hS2 hG hR (λy u=>by rintro⟨T1,T2,f',e,q⟩;cases e) hEn rfl hst hwh hof ?_;intro f' A' g' B' r' v' w' hs hst' hw' hk;obtain⟨T1,T2,f2,e,hq⟩:=hs;simp only[List.cons.injEq]at e;obtain⟨rfl,e⟩:=e;have hA:A'=[]:=by
  cases A' with
  | nil=>rfl
  | cons a0 l0 =>
   have:=congrArg List.length e;simp at this
 subst hA;have hB:B'=[]:=by
  obtain⟨_,h,_⟩:=hst'.uncons;have:=h.rel
  cases B' with
  | nil=>rfl
  | cons b bs=>cases this
 subst hB;have hi:Idn r':=λb c hb=>by
  rcases (hk.par hsh.size).2.1 b c hb with q | q
  ·exact(Z0x q).2
  ·exact q.symm
 have hsn:Snc w r' v' w':=Snc.kep hk ⟨λ_ _=>rfl,Ye _,rfl,rfl,λa b q _=>hshut a b q⟩;have ho':Off D r' w':=⟨λb c hb hd=>by
  rcases hk.new b c hb with q | ⟨_,q⟩
  ·exact hof.names b c q hd
  ·have:=hlow c hd
   omega,λc hc=>Y8 (hlow c hc) hk.sizeW⟩
 exact next v f' v' r' g' w' T1 T2 hsh hq hst'.uncons.1 hw' hi ho' hsn
theorem Zej{K:List Frame}{Z:Frame->World->Prop}{b:Frame}{c:Code}{fn:Func}{R:Ending->World->Prop}(hf:P.funcs[b.fn]?=some fn)(hk:b.kind = .normal)(h:c.wp P (bodyPostM Fence.wide 9 P fn R) a w)(ho:∀w',¬R .outgrown w')(hz:∀e fr w',fr.leaving P w' e->R e w'->Z fr w'): ToZ P K Z (b.at a [.code c]) w:=by
 refine Z3o ?_;have key:∀(a1:Act) (w1:World) (u:FrameMode) td,LeavesInM Fence.wide 9 P fn a1.tmps R a1.defers u w1->ToZ P K Z {b.at a1 td with mode:=u} w1:=by
  intro a1 w1 u td hl;obtain⟨e,w2,fr,h1,h2,h3,h4⟩:=leaves_stepsInM (F:=Fence.wide) (n:=9) a1.defers u w1 {b.at a1 td with mode:=u} K rfl rfl rfl hf hk trivial (by simp[Fence.room,Fence.wide]) hl
  cases e with
  | outgrown=>exact absurd h1 (ho _)
  | returned v=>exact⟨fr,w2,hz _ _ _ h4 h1,h2.comes⟩
  | panicked ch=>exact⟨fr,w2,hz _ _ _ h4 h1,h2.comes⟩
 refine wp_mono h λe a1 w1 q=>?_
 cases e with
 | normal=>exact .inl ⟨rfl,ToZ.one Go.step_end (key a1 w1 .returning [] q)⟩
 | ret=>exact .inr (.inl ⟨rfl,λtd=>key a1 w1 .returning td q⟩)
 | panic ch=>exact .inr (.inr ⟨ch,rfl,λtd=>key a1 w1 _ td q⟩)
 | exit i=>exact q.elim
 | goto l=>exact q.elim
 | outgrown=>exact absurd q (ho _)
end Lift
namespace Lift
open Go Go.Conc Go.RowKit Ev Mx
open Go.ConcM (OsLater)
noncomputable def tM:Code:=sqR (sqR (sqR (sqR (sqR mB))))
theorem ZlA:mB = .seq (sqL mB) (.seq (sqL (sqR mB)) (.seq (sqL (sqR (sqR mB))) (.seq (sqL (sqR (sqR (sqR mB)))) (.seq (sqL (sqR (sqR (sqR (sqR mB))))) tM)))):=by kernel_rfl
theorem Zdk:Tryz.f26.body=some mB:=by kernel_rfl
theorem Z88(xs:Array Value):Frame.enter PP 26 xs .normal=(fF 26).at (fA 21 xs) [.code mB]:=by
 have h:PP.funcs[(26:Nat)]?=some Tryz.f26:=by kernel_rfl
 simp[Frame.enter,Frame.at,h,Zdk,fF,fA,Tryz.ntmps26]
noncomputable abbrev jkM:Jk:={j:=True,rest:=[.code tM],gd:=λf=>gJ f=true}
theorem cm0:ZT PP gJ (λ_ _=>false) true false true false (sqL mB)=true:=by kernel_rfl
theorem cm1:ZT PP gJ (λ_ _=>false) true false true false (sqL (sqR mB))=true:=by kernel_rfl
theorem cm2:ZT PP gJ (λ_ _=>false) true false true false (sqL (sqR (sqR mB)))=true:=by kernel_rfl
theorem cm3:ZT PP gJ (λ_ _=>false) true false true false (sqL (sqR (sqR (sqR mB))))=true:=by kernel_rfl
theorem cm4:ZT PP gJ (λ_ _=>false) true false true false (sqL (sqR (sqR (sqR (sqR mB)))))=true:=by kernel_rfl
noncomputable def mt0(c7 c8 c9 c5:Nat):St:={top:={fn:=26,n:=21,env:=[(7,pt c7),(8,pt c8),(9,pt c9),(5,pt c5)],todo:=[.code tM],defs:=[Z0g c7],kind:=.normal,ret:=false},rest:=[],cvs:=[],mks:=[],deaf:=0}
noncomputable def mt1(c7 c8 c9 c5:Nat):St:=pn PP xtQ 40 (mt0 c7 c8 c9 c5)
noncomputable def mt2(c7 c8 c9 c5:Nat)(b:Value):St:=pn PP xtQ 1 ((mt1 c7 c8 c9 c5).an b)
noncomputable def mt3(c7 c8 c9 c5:Nat)(b y:Value):St:=pn PP xtQ 40 ((mt2 c7 c8 c9 c5 b).an y)
noncomputable def mt4(c7 c8 c9 c5:Nat)(b y:Value):St:=pn PP xtQ 40 ((mt3 c7 c8 c9 c5 b y).an undef)
noncomputable def mt5(c7 c8 c9 c5:Nat)(b y:Value):St:=pn PP xtQ 40 ((mt4 c7 c8 c9 c5 b y).an .nilIface)
section
variable(c7 c8 c9 c5:Nat)(b y:Value)
theorem kM1:(pnq PP xtQ 40 (mt0 c7 c8 c9 c5),(mt1 c7 c8 c9 c5).cvs,(mt1 c7 c8 c9 c5).lod,(mt1 c7 c8 c9 c5).ans b,(mt1 c7 c8 c9 c5).rest)=(true,[],some (85,⟨c8,0,none⟩),some ((mt1 c7 c8 c9 c5).an b),[]):=by kernel_rfl
theorem kM2:(pnq PP xtQ 1 ((mt1 c7 c8 c9 c5).an b),(mt2 c7 c8 c9 c5 b).cvs,(mt2 c7 c8 c9 c5 b).cal PP,(mt2 c7 c8 c9 c5 b).ans y,(mt2 c7 c8 c9 c5 b).rest)=(true,[],some (66,#[b,.func (.func 79) #[] #[pt c8,pt c9,pt c5]]),some ((mt2 c7 c8 c9 c5 b).an y),[]):=by kernel_rfl
theorem kM3:(pnq PP xtQ 40 ((mt2 c7 c8 c9 c5 b).an y),(mt3 c7 c8 c9 c5 b y).cvs,(mt3 c7 c8 c9 c5 b y).sto,(mt3 c7 c8 c9 c5 b y).ans undef,(mt3 c7 c8 c9 c5 b y).rest)=(true,[],some (30,⟨c7,0,none⟩,.int .i64 0),some ((mt3 c7 c8 c9 c5 b y).an undef),[]):=by kernel_rfl
theorem kM4:(pnq PP xtQ 40 ((mt3 c7 c8 c9 c5 b y).an undef),(mt4 c7 c8 c9 c5 b y).cvs,rcvB (mt4 c7 c8 c9 c5 b y),(mt4 c7 c8 c9 c5 b y).ans .nilIface,(mt4 c7 c8 c9 c5 b y).rest.map (·.ret),(mt4 c7 c8 c9 c5 b y).top.kind)=(true,[],true,some ((mt4 c7 c8 c9 c5 b y).an .nilIface),[true],.deferred):=by kernel_rfl
theorem kM5:(pnq PP xtQ 40 ((mt4 c7 c8 c9 c5 b y).an .nilIface),(mt5 c7 c8 c9 c5 b y).cvs,(mt5 c7 c8 c9 c5 b y).top.ret,(mt5 c7 c8 c9 c5 b y).top.defs,(mt5 c7 c8 c9 c5 b y).top.kind,(mt5 c7 c8 c9 c5 b y).top.fn,(mt5 c7 c8 c9 c5 b y).top.env.lookup 6,(mt5 c7 c8 c9 c5 b y).top.env.lookup 7,(mt5 c7 c8 c9 c5 b y).rest)
  = (true,[],true,[],.normal,26,some y,some (pt c7),[]):=by kernel_rfl
end
theorem ZaX[Jk](h:∀x∈xs,VR (idS S) x x): VRs (idS S) xs xs:=
 ⟨rfl,λi a b h1 h2=>by
  rw[h1]at h2;obtain rfl:=Y1 h2;exact h _ (Yk h1)⟩
theorem Z7g[Jk]{x:Vm}(H:VatC D S x w){y z:Value}(p1:PV S y)(p2:PV S z): VRs (idS S) #[x.val,y,z] #[x.val,y,z]:=by
 refine ZaX λq hq=>?_;simp only[Yb,Yc,Ya,or_false]at hq
 rcases hq with rfl | rfl | rfl
 ·refine .agg rfl (ZaX (xs:=#[.int .i64 x.B,.slice x.da x.D.length x.dc,.slice x.la x.L.length x.lc,.int .i64 x.tol]) λq hq=>?_).2
  simp only[Yb,Yc,Ya,or_false]at hq
  rcases hq with rfl | rfl | rfl | rfl
  ·exact .int _ _
  ·exact H.da.vr
  ·exact H.la.vr
  ·exact .int _ _
 ·exact p1.vr
 ·exact p2.vr
theorem Zat{J:Jk}(hg:∀f,J.gd f↔gJ f=true)(hn:∀f,¬J.law f)(hr0:J.rest=[.code tM]): @Todo J PP (J.law 26) (¬J.gd 26) false (idS S) [.code cMat] [.code mB]:=by
 have cj:∀{c:Code},ZT PP gJ (λ_ _=>false) true false true false c=true->Z0L PP (Jk.law 26) (¬Jk.gd 26) false c:=λq=>Z91 hg (λf _=>hn f) (by decide) (hn _) q;have:=ZlA;generalize hq:mB=z at this;refine Todo.cut rfl (λ_=>⟨rfl,rfl⟩) ?_;rw[this,<-hq];exact .seq (cj cm0) (.seq (cj cm1) (.seq (cj cm2) (.seq (cj cm3) (.seq (cj cm4) (.stop hr0)))))
theorem Zdn: Has 21 [] (fA 21 #[y0,y1,y2]) [(0,y0),(1,y1),(2,y2)]:=by
 refine⟨rfl,by simp[fA],λk u e=>?_⟩;simp only[Yp,List.lookup_nil]at e
 repeat' split at e
 all_goals first | (cases e;done) | (rename_i q;rw[beq_iff_eq]at q;subst q;obtain rfl:=Y1 e;simp[fA])
theorem Zdo:(Qy.F 1)[(26:Nat)]?=PP.funcs[(26:Nat)]?:=Qy.own26.trans (by kernel_rfl)
theorem Zas:PP.funcs[(26:Nat)]?=some Tryz.f26:=by kernel_rfl
theorem arr2[Jk]{R:Value->Value->Prop}{a b:Value}{ys:Array Value}(h:Arr R #[a,b] ys): ∃a' b',ys=#[a',b']/\R a a'/\R b b':=by
 have hl:=h.lis;generalize hy:ys.toList=l at hl
 cases hl with
 | cons h1 t =>
  cases t with
  | cons h2 t =>
   cases t with
   | nil=>exact⟨_,_,Array.ext' hy,h1,h2⟩
theorem ZdN[Jk]{v2: World}(hh:∀b,b<v.heap.size->v2.heap[b]?=v.heap[b]?){a:Option Addr}{n c:Nat}{xs:List Int}(hx:Z8 v (.slice a n c) 1 (xs.map Z7)): Z8 v2 (.slice a n c) 1 (xs.map Z7):=by
 obtain⟨a4,c4,e4,hl,hc⟩:=hx;refine⟨a4,c4,e4,hl,λhne=>?_⟩;obtain⟨b,off,rfl,hb,hk⟩:=hc hne;have key:∀i j x,(xs.map Z7)[i]?=some x->j<1->v2.cell? ⟨b,off+i*1+j,none⟩=x[j]?:=by
  intro i j x hi hj;rw[<-hk i j x hi hj];unfold World.cell?;rw[hh b hb]
 refine⟨b,off,rfl,?_,key⟩
 cases hq:xs with
 | nil=>rw[hq]at hne;exact absurd rfl hne
 | cons z zs=>exact(Z0J (key 0 0 (Z7 z) (by rw[hq];rfl) (by omega))).1
theorem Zfg{J:Jk}(hj:J.j)(hg:∀f,J.gd f↔gJ f=true)(hn:∀f,¬J.law f)(hr0:J.rest=[.code tM]){x:Vm}(hv:VOk x)(H:VatC D S x w)(hl:RcpOk x l)(hs:Z1L x s)(hr:Z8 w (.slice a1 l.length c1) 1 (l.map Z7))(hr':Z8 w (.slice a2 s.length c2) 1 (s.map Z7))(p1:PV S (.slice a1 l.length c1))(p2:PV S (.slice a2 s.length c2)) (next:∀(S':Nat->Prop) (a:Act) (w':World) (c7 c8 c9 c5:Nat),VatC D S' x w'->PV S' (.slice a2 s.length c2)->a.tmps.size=21->a.tmps[7]?=some (pt c7)->a.tmps[8]?=some (pt c8)->a.tmps[9]?=some (pt c9)->a.tmps[5]?=some (pt c5)->a.defers=[Z0g c7] ->
   S' c7->S' c8->S' c9->S' c5->w'.heap[c7]?=some (.cells #[.int .i64 0] 30 (0,0))->w'.heap[c8]?=some (.cells #[.int .i64 x.B,.slice x.da x.D.length x.dc,.slice x.la x.L.length x.lc,.int .i64 x.tol] 85 (0,0)) ->
   w'.heap[c9]?=some (.cells (tubC (val l)) 88 (0,0))->w'.heap[c5]?=some (.cells #[.slice a2 s.length c2] 22 (0,0))->(∀b,b<w.heap.size->w'.heap[b]?=w.heap[b]?)->w.heap.size<=w'.heap.size->w'.os=w.os->w'.output=w.output->Sure PP Post D (run1 ((fF 26).at a [.code tM]) cs) w'):
  Sure PP Post D (run1 (Frame.enter PP 26 #[x.val,.slice a1 l.length c1,.slice a2 s.length c2] .normal) cs) w:=by
 rw[Z88];refine Z5g hj hg hn H.blk H.off H.low Zdo (Z7g H p1 p2) (Zat hg hn hr0) (Z:=λv=>MaA x (val l) s a2 c2 v (fF 26)) (λv hsh T=>?_) λv f' v' r' g' w' T1 T2 hsh hq hf hw' hi ho hsn=>?_
 ·exact Zkd x hv l s hl hs a1 a2 c1 c2 (re v T) (Z1D (v:=v) (v2:=re v T) (λb _=>rfl) (H.shadow (λ_ _=>rfl) hsh)) (@Z2F jkN _ _ _ _ (λ_ _=>rfl) hsh _ _ _ _ p1 hr) (@Z2F jkN _ _ _ _ (λ_ _=>rfl) hsh _ _ _ _ p2 hr') _ _ Zdn
 obtain⟨a,n7,n8,n9,n5,rfl,F,q7,q8,q9,q5,-,-,-,-,-,-,-,E⟩:=hq.ex;obtain⟨gfn,gt,gtodo,gdef,gmode,gkind,gound⟩:=g';obtain⟨f1,_,f3,f4,f5,f6,f7,f8⟩:=hf;have e1:gtodo=[.code tM]:=by
  have f4:Todo _ _ _ _ _ [.code (.refuse "")] gtodo:=f4
  cases f4 with
  | cons x y =>
   cases x with
   | code hc=>exact hc.elim
  | tail=>exact hr0
  | cut _ _ h =>
   cases h with
   | stop h=>rw[<-h,hr0]
 have e2:gmode = .run:=by cases f6;rfl
 have e3:gound=none:=by cases f8;rfl
 obtain⟨f7,_⟩:=f7;obtain⟨f5,_⟩:=f5;dsimp only[Frame.at,fF]at f1 f3 f5 f7;subst e1 e2 e3 f1 f7;have slot:∀k n,k<21->a.tmps.getD k undef=pt n->r' n=some n/\gt[k]?=some (pt n):=by
  intro k n hk e;have h2:k<a.tmps.size:=by rw[F.sz];exact hk
  have h3:k<gt.size:=by rw[<-f3.1];exact h2
  have:=f3.2 k _ _ (Y2 h2) (Y2 h3);rw[Y6,Y2 h2]at e;simp only[Option.getD_some]at e;rw[e]at this;rw[Y2 h3];generalize gt[k]=z at this
  cases this with
  | ptr q =>
   cases q with
   | mk q =>
    obtain rfl:=hi _ _ q;exact⟨q,rfl⟩
 obtain⟨s7,g7⟩:=slot 7 n7 (by decide) (F.get 7 _ rfl);obtain⟨s8,g8⟩:=slot 8 n8 (by decide) (F.get 8 _ rfl);obtain⟨s9,g9⟩:=slot 9 n9 (by decide) (F.get 9 _ rfl);obtain⟨s5,g5⟩:=slot 5 n5 (by decide) (F.get 5 _ rfl);have k7:=ZF (S:=S) hi hw' ⟨_,s7⟩ q7 (by simp) (by simp[PF1,PV]);have k8:=ZF (S:=S) hi hw' ⟨_,s8⟩ q8 (by simp) (by
  intro y hy;simp only[Yb,Yc,Ya,or_false]at hy
  rcases hy with rfl | rfl | rfl | rfl
  ·exact .inl trivial
  ·exact .inl H.da
  ·exact .inl H.la
  ·exact .inl trivial)
 have k9:=ZF (S:=S) hi hw' ⟨_,s9⟩ q9 (by simp[tubC]) (by
  intro y hy;simp only[tubC,Yb,Yc,Ya,or_false]at hy
  rcases hy with rfl | rfl | rfl | rfl<;>exact .inl trivial)
 have k5:=ZF (S:=S) hi hw' ⟨_,s5⟩ q5 (by simp) (by
  intro y hy;obtain rfl:=List.mem_singleton.1 (by simpa using hy);exact .inl p2)
 have hd:gdef=[Z0g n7]:=by
  have hds:a.defers=[Z0g n7]:=F.ds;rw[hds]at f5
  cases f5 with
  | cons d t =>
   cases t
   obtain⟨d1,d2⟩:=d;rename_i d0;obtain⟨dt,da⟩:=d0;dsimp only[Z0g]at d1 d2;obtain⟨y,rfl,hy⟩:=arr1 d2
   cases d1 with
   | fn hf q =>
    cases hf
    have:_=(#[]:Array Value):=Array.eq_empty_of_size_eq_zero q.1.symm;subst this
    cases hy with
    | ptr z =>
     cases z with
     | mk z =>
      obtain rfl:=hi _ _ z
      rfl
 have hin:∀b,S b->(S b\/b=n7\/b=n8\/b=n9\/b=n5):=λb h=>.inl h;refine next (λb=>S b\/b=n7\/b=n8\/b=n9\/b=n5) ⟨gt,gdef⟩ w' n7 n8 n9 n5 ⟨λb hb=>?_,λb hb hD=>?_,ho.low,H.da.imp hin,H.la.imp hin,λp hp=>(H.dp p hp).imp hin,λp hp=>(H.lp p hp).imp hin,Z1D (v:=w) hsn.old H.at_⟩ (p2.imp hin) (by show gt.size=21;rw[<-f3.1];exact F.sz) g7 g8 g9 g5 hd (.inr (.inl rfl)) (.inr (.inr (.inl rfl))) (.inr (.inr (.inr (.inl rfl)))) (.inr (.inr (.inr (.inr rfl)))) k7 k8 k9 k5 hsn.old hsn.size hsn.os hsn.out
 ·rcases hb with h | rfl | rfl | rfl | rfl
  ·obtain⟨cs0,e0,fz0,h0⟩:=H.blk b h
   exact⟨cs0,e0,fz0,by rw[hsn.old b (Y0.1 h0).1];exact h0⟩
  ·exact⟨_,_,_,k7⟩
  ·exact⟨_,_,_,k8⟩
  ·exact⟨_,_,_,k9⟩
  ·exact⟨_,_,_,k5⟩
 ·rcases hb with h | rfl | rfl | rfl | rfl
  ·exact H.off b h hD
  ·exact ho.names _ _ s7 hD
  ·exact ho.names _ _ s8 hD
  ·exact ho.names _ _ s9 hD
  ·exact ho.names _ _ s5 hD
def matB(x:Vm)(f s:Nat->Int)(k:Nat):Bool:=decide (k<x.L.length)&&matE x f s [((k:Nat):Int)]
theorem Zkg{c7 c8 c9 c5:Nat}(hsz:a.tmps.size=21)(g7:a.tmps[7]?=some (pt c7))(g8:a.tmps[8]?=some (pt c8))(g9:a.tmps[9]?=some (pt c9))(g5:a.tmps[5]?=some (pt c5))(hd:a.defers=[Z0g c7]):
  SOk (mt0 c7 c8 c9 c5).top (mt0 c7 c8 c9 c5).rest ((fF 26).at a [.code tM]) []:=by
 refine⟨⟨rfl,hsz,λt u e=>?_,rfl,hd,rfl,rfl,rfl⟩,.nil⟩;have e:[(7,pt c7),(8,pt c8),(9,pt c9),(5,pt c5)].lookup t=some u:=e;show a.tmps[t]?=some u;simp only[Yp,List.lookup_nil]at e
 repeat' split at e
 all_goals first | (cases e;done) | (rename_i q;rw[beq_iff_eq]at q;subst q;obtain rfl:=Y1 e;assumption)
theorem Zid:Tryz.f26.results=#[.tmp 6,.cell 7 30]:=by kernel_rfl
theorem Z9j{x:Vm}(hv:VOk x)(H0:VatC D S x w)(hl:RcpOk x l)(hs:Z1L x s)(hr:Z8 w (.slice a1 l.length c1) 1 (l.map Z7))(hr':Z8 w (.slice a2 s.length c2) 1 (s.map Z7))(r1:PV S (.slice a1 l.length c1))(r2:PV S (.slice a2 s.length c2))(ret:∀w' y Mu Wg,UnE (Z0z x.L.length (matB x (val l) (val s))) w w' y Mu Wg->Sure PP Post (λc=>D c\/c=Mu\/c=Wg) (run1 (c.finish (.tuple #[y,.int .i64 0])) cs) w'):
  Sure PP Post D (run1 (Frame.enter PP 26 #[x.val,.slice a1 l.length c1,.slice a2 s.length c2] .normal) (c::cs)) w:=by
 letI:Jk:=jkM;refine Zfg (J:=jkM) trivial (λf=>Iff.rfl) (λf h=>h) rfl hv H0 hl hs hr hr' r1 r2 λS a w' c7 c8 c9 c5 H ps hsz g7 g8 g9 g5 hd s7 s8 s9 s5 q7 q8 q9 q5 hold hsz' hos' hout'=>?_;have k0:=Zkg hsz g7 g8 g9 g5 hd;have hrw:Z8 w' (.slice a2 s.length c2) 1 (s.map Z7):=ZdN hold hr';have b7:c7<w'.heap.size:=(Y0.1 q7).1;obtain⟨B,hB⟩:∃B:Value,B = .agg #[.int .i64 x.B,.slice x.da x.D.length x.dc,.slice x.la x.L.length x.lc,.int .i64 x.tol]:=⟨_,rfl⟩;obtain⟨p1,p2,p3,p4,p5⟩:=by simpa only[Y9] using kM1 c7 c8 c9 c5 B
 refine Sure.pn (cs:=c::cs) xokQ 40 (mt0 c7 c8 c9 c5) k0 p1 p2 λf1 fs1 k1=>?_;obtain rfl:=Z2A k1.2 p5;refine Sure.agl (s:=mt1 c7 c8 c9 c5) k1 p3 q8 Tryz.underlying85 rfl Z7Y (by rw[<-hB];exact p4) (H.off _ s8) λf2 k2=>?_;obtain⟨p1,p2,p3,p4,p5⟩:=by simpa only[Y9] using kM2 c7 c8 c9 c5 B undef
 refine Sure.pn (cs:=c::cs) xokQ 1 _ k2 p1 p2 λf3 fs3 k3=>?_;obtain rfl:=Z2A k3.2 p5;refine Sure.cal (s:=mt2 c7 c8 c9 c5 B) k3 p3 ?_;rw[hB];refine Z8H (x:=x) (S:=S) (ys:=#[pt c8,pt c9,pt c5]) (β:=matB x (val l) (val s)) (c:=f3) hv.l1 hv.l3 (.inl rfl) H.blk H.off H.low H.da H.la ?_ ?_ ?_ ?_
 ·intro y hy
  simp only[Yb,Yc,Ya,or_false]at hy
  rcases hy with rfl | rfl | rfl
  ·exact s8
  ·exact s9
  ·exact s5
 ·intro k hk
  have:¬k<x.L.length:=by omega
  simp[matB,this]
 ·intro w1 v1 hw1 sh k hk
  have hat:x.At v1:=H.shadow hw1 sh;have h8:=@Z5Y jkN _ _ _ _ hw1 sh _ s8 _ _ _ q8 (by
   intro y hy;simp only[Yb,Yc,Ya,or_false]at hy
   rcases hy with rfl | rfl | rfl | rfl
   ·trivial
   ·exact H.da
   ·exact H.la
   ·trivial)
  have h9:=@Z5Y jkN _ _ _ _ hw1 sh _ s9 _ _ _ q9 (by
   intro y hy;simp only[tubC,Yb,Yc,Ya,or_false]at hy
   rcases hy with rfl | rfl | rfl | rfl<;>trivial)
  have h5:=@Z5Y jkN _ _ _ _ hw1 sh _ s5 _ _ _ q5 (by
   intro y hy;obtain rfl:=List.mem_singleton.1 (by simpa using hy);exact ps)
  have hc:=Z7X (μ:=2) x hv k hk (val l) (hl.tub) s hs a2 c2 c8 c9 c5 _ _ _ _ _ _ v1 hat (@Z2F jkN _ _ _ _ hw1 sh _ _ _ _ ps hrw) h8 h9 h5;have hk2:k<x.L.length:=by omega
  have e:matB x (val l) (val s) k=matE x (val l) (val s) [((k:Nat):Int)]:=by
   simp[matB,hk2]
  rw[e];exact hc.mono λ_ _ q=>q.1
 ·intro w3 y Mu Wg U
  obtain⟨_,_,p3',p4',_⟩:=by simpa only[Y9] using kM2 c7 c8 c9 c5 B y
  have k4:=Zcg k3 p3' p4';obtain⟨p1,p2,p3,p4,p5⟩:=by simpa only[Y9] using kM3 c7 c8 c9 c5 B y
  refine Sure.pn (cs:=c::cs) xokQ 40 _ k4 p1 p2 λf5 fs5 k5=>?_;obtain rfl:=Z2A k5.2 p5;have q7':w3.heap[c7]?=some (.cells #[.int .i64 0] 30 (0,0)):=by rw[U.old c7 b7];exact q7
  have hD7:¬(D c7\/c7=Mu\/c7=Wg):=by
   have m1:=U.mu.1;have m2:=U.wg.1;rintro (q | q | q)
   ·exact H.off _ s7 q
   ·omega
   ·omega
  refine Sure.sto (s:=mt3 c7 c8 c9 c5 B y) k5 p3 Za2 rfl rfl ((Z1 q7' 0).trans rfl) (Zd q7' 0) p4 hD7 λf6 k6=>?_;have hset:=ZaG (x:=.int .i64 0) q7';obtain⟨w4,hw4⟩:∃w4,w4=w3.setCell ⟨c7,0,none⟩ (.int .i64 0):=⟨_,rfl⟩;have hs4:w4.heap.size=w3.heap.size:=by rw[hw4];simp[World.setCell]
  have ho4:w4.os=w3.os:=by rw[hw4];rfl
  have hu4:w4.output=w3.output:=by rw[hw4];rfl
  rw[<-hw4]at hset⊢;obtain⟨p1,p2,p3,p4,p5,p6⟩:=by simpa only[Y9] using kM4 c7 c8 c9 c5 B y
  refine Sure.pn (cs:=c::cs) xokQ 40 _ k6 p1 p2 λf7 fs7 k7=>?_;obtain⟨g,rfl,hg⟩:=Zdg k7.2 p5;refine Sure.rcv (s:=mt4 c7 c8 c9 c5 B y) k7 p3 (ZaS (k7.1.kind.trans p6) hg) p4 λf8 k8=>?_;obtain⟨p1,p2,p3,p4,p5,p6,p7,p8,p9⟩:=by simpa only[Y9] using kM5 c7 c8 c9 c5 B y
  refine Sure.pn (cs:=c::cs) xokQ 40 _ k8 p1 p2 λf9 fs9 k9=>?_;obtain rfl:=Z2A k9.2 p9;refine Sure.lv2 (a:=(mt5 c7 c8 c9 c5 B y).top) k9.1 p3 p4 p5 (by rw[p6];exact Zas) Zid p7 p8 ZcJ ((Z1 ((hset c7).trans q7') 0).trans rfl) hD7 ?_;exact ret w4 y Mu Wg (ZaU hold hsz' hos' hout' U hset hs4 ho4 hu4)
theorem Z9k{x:Vm}(hv:VOk x)(H:VatC D S x w)(hl:l.length<=1000)(he:rcpE x l≠0){m2: Nat}(hr:Z8 w (.slice a1 l.length c1) 1 (l.map Z7))(p1:PV S (.slice a1 l.length c1))(p2:PV S (.slice a2 m2 c2))(ret:∀w',(∀b,b<w.heap.size->w'.heap[b]?=w.heap[b]?)->w.heap.size<=w'.heap.size->w'.os=w.os->w'.output=w.output->Sure PP Post D (run1 (c.finish (.tuple #[.slice none 0 0,.int .i64 (rcpE x l)])) cs) w'):
  Sure PP Post D (run1 (Frame.enter PP 26 #[x.val,.slice a1 l.length c1,.slice a2 m2 c2] .normal) (c::cs)) w:=by
 letI:Jk:=jkM;rw[Z88];refine Z5g (J:=jkM) trivial (λf=>Iff.rfl) (λf h=>h) H.blk H.off H.low Zdo (Z7g H p1 p2) (Zat (J:=jkM) (λf=>Iff.rfl) (λf h=>h) rfl) (Z:=λv fr u=>fr.leaving (PF PP (Qy.F 1)) u (.returned (.tuple #[.slice none 0 0,.int .i64 (rcpE x l)]))) (λv hsh T=>?_) λv f' v' r' g' w' T1 T2 hsh hq hf hw' hi ho hsn=>?_
 ·exact Zej (P:=Qy.prog 1) Qy.own26 rfl (Zkc x hv l hl he a1 a2 c1 m2 c2 (re v T) (Z1D (v:=v) (v2:=re v T) (λb _=>rfl) (H.shadow (λ_ _=>rfl) hsh)) (@Z2F jkN _ _ _ _ (λ_ _=>rfl) hsh _ _ _ _ p1 hr) _ Zdn) (λw' q=>by cases q.1) λe fr w' q1 q2=>by rw[q2.1]at q1;exact q1
 refine Sure.step rfl λw1 hl1=>?_;have hw1:WH (Iv PP (Qy.F 1)) r' v' w1:=hw'.of rfl hl1.1 (by rw[hl1.2.1];exact hw'.env);obtain⟨r2,T3,y,w2,ns,e2,hvy,hw2,hk2,hev⟩:=Z2z hf hw1 hq true c cs;have hy:y = .tuple #[.slice none 0 0,.int .i64 (rcpE x l)]:=by
  cases hvy with
  | @tuple _ ys h1 h2 =>
   obtain⟨y1,y2,rfl,g1,g2⟩:=arr2 (R:=VR r2) ⟨h1,h2⟩
   cases g1
   cases g2
   rfl
 subst hy;have ho2:=(ho.like hl1).kept hk2;have h4:Kep r' r2 v' v' w' w2:=Kep.of (v0:=re v' T3) (v':=re v' T3) ⟨rfl,rfl,rfl⟩ hl1 hk2;have h3:Snc w r2 v' w2:=hsn.kep h4;exact⟨_,w2,ns,e2,λe he=>Z63 (hev e he) ho2.names,by rw[<-hl1.1];exact hk2.sizeW,ret w2 h3.old h3.size h3.os h3.out⟩
end Lift
section
open Go.RowKit Ev
variable{μ:Nat}
def matA(x:Vm)(l s:List Int):List Int:=if rcpE x l=0 then Z0z x.L.length λk=>matE x (val l) (val s) [((k:Nat):Int)] else[]
theorem Zie(x:Vm)(hv:VOk x)(l s:List Int)(hl:RcpOk x l)(hs:Z1L x s)(a1 a2:Option Addr)(c1 c2:Nat)(w:World)(h:x.At w)(hr:Z8 w (.slice a1 l.length c1) 1 (l.map Z7))(hr':Z8 w (.slice a2 s.length c2) 1 (s.map Z7)):
  Calls (Qy.prog 0) 185 #[.agg #[.int .i64 x.B,.slice x.da x.D.length x.dc,.slice x.la x.L.length x.lc,.int .i64 x.tol],.slice a1 l.length c1,.slice a2 s.length c2] w λe w'=>∃y,e = .returned (.tuple #[y,.int .i64 0])/\IntR w.heap.size w' (Z0z x.L.length λk=>matE x (val l) (val s) [((k:Nat):Int)]) y/\Ext [] w w':=by
 have E:Ext [] w w:=Ext.refl _ _;have HX:=Lib.hid h;have HV:=Lib.hid hv;have HR:=Lib.hid hr;have HR':=Lib.hid hr';have HL:=Lib.hid hl;have HS:=Lib.hid hs;have hl3:=hv.l3;clear h hv hr hr' hl hs;have G:=(Bk.nil w).ce E;refine(entM 21 Tryz.f26 rfl) λF=>wR λk1=>(F.bx G) λyy F G=>(F.bx G) @λn5 w2 _ yy F G=>(F.m) λF=>(F.al G Qy.zeroValue30) @λn7 w3 _ yy F G=>k1<|wR λk2=>(F.df) λF=>k2<|wR λk3=>(F.y (F.lb (G.q 2))) λF=>(F.k0 G (ZZ (μ:=0) x HV.out _ (HX.out.ext (G.e 3)))) λF G=>(F.al G Qy.zeroValue85) @λn8 w5 _ yy F G=>(F.sr G 0) λG=>k3<|wQ λk4=>Yg ?_
 refine(F.y (F.lb (G.q 0))) λF=>(F.m) λF=>(F.k (Z9 (μ:=0) x HV.out l HL.out a1 c1 _ (HR.out.ext (G.e 4) (by simp)))) ?_;rintro _ w7 ⟨rfl,e9⟩;refine⟨_,rfl,λF=>?_⟩;replace G:=G.ex e9;unfold tubC at F;refine(F.al G Qy.zeroValue88) @λn9 w8 _ yy F G=>(F.sr G 0) λG=>k4<|wR λk5=>(F.y (F.lb (G.q 1))) λF=>(F.y (F.lc (G.q 3))) λF=>(F.k0 G (Z2G (μ:=0) x HV.out s HS.out a2 c2 _ (HR'.out.ext (G.e 5) (by simp)))) @λw10 _ F G=>k5<|wR λk6=>(F.y (F.lb (G.q 1))) λF=>(F.y F.mf) λF=>?_
 obtain⟨B0,hB0⟩:∃B0,B0=w10.heap.size:=⟨_,rfl⟩;have hb7:n7<B0:=by rw[hB0];exact Z3 (G.q 2)
 have hEs:w.heap.size<=B0:=by rw[hB0];exact(G.e 5).size
 have hask:∀k,k<x.L.length->∀W,Ext [] w10 W->Calls (Qy.prog 0) 79 (#[]++[.int .i64 ((k:Nat):Int)].toArray++#[.pointer (some ⟨n8,0,none⟩),.pointer (some ⟨n9,0,none⟩),.pointer (some ⟨n5,0,none⟩)]) W λe w'=>e = .returned (.bool (matE x (val l) (val s) [((k:Nat):Int)]))/\Ext [] W w':=λk hk W eW=>Z7X (μ:=0) x HV.out k hk (val l) HL.out.tub s HS.out a2 c2 n8 n9 n5 _ _ _ _ _ _ W ((HX.out.ext (G.e 5)).ext eW) ((HR'.out.ext (G.e 5) (by simp)).ext eW (by simp)) (eW.keep0 (G.q 1)) (eW.keep0 (G.q 0)) (eW.keep0 (G.q 3));refine(F.k (ZaV x hl3 79 #[.pointer (some ⟨n8,0,none⟩),.pointer (some ⟨n9,0,none⟩),.pointer (some ⟨n5,0,none⟩)] (λk=>matE x (val l) (val s) [((k:Nat):Int)]) Qy.call79 _ hask)) ?_;rintro _ w11 ⟨y,rfl,hI,e9⟩;refine⟨_,rfl,λF=>?_⟩;replace G:=G.ex e9;clear hask;rw[<-hB0]at hI;replace G:=G.hr [n7];refine(F.m) λF=>(F.st G 3) λG=>k6<|wp_ret ?_
 (try simp only[Exit.inBlock,Exit.then,reduceIte])
 refine Z3O F<|ZY<|Z0R (Z4w F rfl rfl rfl Qy.underlying30 rfl (G.q 3)) ?_
 exact⟨y,rfl,Z4M hI (G.e 0) (by simp;omega) hEs,(G.e 6)⟩
theorem Zfh(x:Vm)(hv:VOk x)(l:List Int)(hl:l.length<=1000)(he:rcpE x l≠0)(a1 a2:Option Addr)(c1 m2 c2:Nat)(w:World)(h:x.At w)(hr:Z8 w (.slice a1 l.length c1) 1 (l.map Z7)):
  Calls (Qy.prog 0) 185 #[.agg #[.int .i64 x.B,.slice x.da x.D.length x.dc,.slice x.la x.L.length x.lc,.int .i64 x.tol],.slice a1 l.length c1,.slice a2 m2 c2] w λe w'=>e = .returned (.tuple #[.slice none 0 0,.int .i64 (rcpE x l)])/\Ext [] w w':=by
 have E:Ext [] w w:=Ext.refl _ _;have HX:=Lib.hid h;have HV:=Lib.hid hv;have HR:=Lib.hid hr;clear h hv hr;obtain⟨er,her⟩:∃er,er=rcpE x l:=⟨_,rfl⟩;refine Z1M 21 Qy.func185 rfl Tryz.ntmps26 (Nat.le_of_ble_eq_true rfl) ?_;intro fa F;refine wS λK1 hK1=>?_;refine Yg ?_;refine sqN F (Z1B rfl (F.at rfl)) λfa w1 F hw=>?_;obtain⟨n3,hn⟩:=eQ w.heap.size;rw[<-hn]at F;have s3:=sQ hn;have l3_E:=lQ hn E.size;replace E:=Z2 E hw;have q3:=Zf hw hn;clear hw hn;refine sqN F (Z1B rfl (F.at rfl)) λfa w2 F hw=>?_;obtain⟨n5,hn⟩:=eQ w1.heap.size;rw[<-hn]at F;have s5:=sQ hn;have l5_E:=lQ hn E.size;have m5_3:=tQ hn (Z3 q3);replace q3:=Z0 hw q3;replace E:=Z2 E hw;have q5:=Z09 hw rfl hn;clear hw hn;refine F.vl (ZC rfl (ev_c fa _)) λfa F=>?_;refine sqN F (Ze rfl Qy.zeroValue30) λfa w3 F hw=>?_;obtain⟨n7,hn⟩:=eQ w2.heap.size;rw[<-hn]at F;have s7:=sQ hn;have l7_E:=lQ hn E.size;have m7_3:=tQ hn (Z3 q3);have m7_5:=tQ hn (Z3 q5);replace q3:=Z0 hw q3;replace q5:=Z0 hw q5;replace E:=Z2 E hw;have q7:=Z09 hw rfl hn;clear hw hn;refine wN<|hK1 _ _<|wS λK2 hK2=>?_
 refine Yg ?_;refine Z2W F rfl rfl (Z40 rfl rfl (mpS (F.at rfl) mp0)) λfa F=>?_;refine wN<|hK2 _ _<|wS λK3 hK3=>?_
 refine Yg ?_;refine F.vl (Zc rfl (F.at rfl) Qy.underlying27 rfl (by kernel_rfl) q3) λfa F=>?_;refine sqC F (Za rfl rfl Qy.call64 (mpS (F.at rfl) mp0)) (ZZ (μ:=0) x HV.out _ (HX.out.ext E)) λe w4 hR=>?_;obtain⟨rfl,e9⟩:=hR;refine⟨_,rfl,λfa F=>?_⟩;replace q3:=(e9).keep0 q3;replace q5:=(e9).keep0 q5;replace q7:=(e9).keep0 q7;replace E:=Z4 E (e9);clear e9;refine sqN F (Ze rfl Qy.zeroValue85) λfa w5 F hw=>?_;obtain⟨n8,hn⟩:=eQ w4.heap.size;rw[<-hn]at F;have s8:=sQ hn;have l8_E:=lQ hn E.size;have m8_3:=tQ hn (Z3 q3);have m8_5:=tQ hn (Z3 q5);have m8_7:=tQ hn (Z3 q7);replace q3:=Z0 hw q3;replace q5:=Z0 hw q5;replace q7:=Z0 hw q7;replace E:=Z2 E hw;have q8:=Zf hw hn;clear hw hn;refine Z0T rfl rfl (ZW rfl (F.at rfl) (F.at rfl) (by kernel_rfl) (by first | (simp[Value.oneCell'];done) | (simp[Value.oneCell',id];done)) q8 rfl) ?_;intro w6 hw;replace q3:=kcs hw q3;replace q5:=kcs hw q5;replace q7:=kcs hw q7;replace q8:=Z0I hw q8 rfl;replace E:=ecs E hw;clear hw;refine wN<|hK3 _ _<|wS λK4 hK4=>?_
 refine Yg ?_;refine F.vl (Zc rfl (F.at rfl) Qy.underlying85 rfl (by kernel_rfl) q8) λfa F=>?_;refine F.mv λfa F=>?_;refine Z7x rfl (Za rfl rfl Qy.call65 (mpS (F.at rfl) (mpS (F.at rfl) mp0))) ((Zh (μ:=0) x HV.out l hl he a1 c1 _ (HR.out.ext E (by simp)))) λe w7 hR=>?_;obtain⟨rfl,e9⟩:=hR;refine⟨_,rfl,?_⟩;replace q3:=(e9).keep0 q3;replace q5:=(e9).keep0 q5;replace q7:=(e9).keep0 q7;replace q8:=(e9).keep0 q8;replace E:=Z4 E (e9)
 (try simp only[Exit.inBlock,Exit.then,Exit.jump,reduceIte])
 refine Ziz F ?_;refine Z9h q7 λw8 hw=>?_;replace q3:=kce hw q3;replace q5:=kce hw q5;replace q7:=ZG hw q7 (by simp only[List.setIfInBounds_toArray,lsQ,lzQ];exact rfl);replace q8:=kce hw q8;replace E:=ece E hw;clear hw;refine Z0R (Z4w F rfl rfl rfl Qy.underlying30 rfl q7) ?_;exact⟨rfl,E⟩
theorem Qy.ntmps188:Qy.f188.ntmps=13:=rfl
theorem Zea(y0 y1 y2:Value)(w:World)(hb:∀d,7<(Question.appendCap 7 0 3).cut (w.tape d (.appendCap 7 0 3))):Calls (Qy.prog 0) 26 #[y0,y1,y2] w λe w'=>e = .panicked [bunV 26 #[y0,y1,y2]]/\Ext [] w w':=by
 have E:Ext [] w w:=Ext.refl _ _;refine ZS 13 Qy.func26 rfl Qy.ntmps188 (Nat.le_of_ble_eq_true rfl) ?_;intro fa F;refine wS λK1 hK1=>?_;refine Yg ?_;refine sqN F (ZI rfl pr0 Qy.underlying22 (size:=1) (by kernel_rfl) (by decide) (by decide) Qy.zeroValue3 (cells:=#[.int .i64 0,.int .i64 0,.int .i64 0,.int .i64 0,.int .i64 0,.int .i64 0,.int .i64 0]) (by kernel_rfl)) λfa w1 F hw=>?_;obtain⟨n3,hn⟩:=eQ w.heap.size;rw[<-hn]at F;have s3:=sQ hn;have l3_E:=lQ hn E.size;replace E:=Z2 E hw;have q3:=ZU hw hn;clear hw hn;have htp:=E.tape;refine ZK F rfl (by decide) rfl (Z6x rfl Qy.underlying22 (by kernel_rfl) (F.at rfl) q3 (by decide) (by decide) (by decide)) ?_;clear F fa;rintro fa v' w2 F ⟨⟨b4,K,rfl,d4,hK⟩,e9⟩;replace q3:=(e9).keep0 q3;replace E:=Z4 E (e9);rw[htp]at hK;have hb1:=hb d4;rw[<-hK]at hb1;refine F.vl ((Zeu rfl (F.at rfl) Qy.underlying22)) λfa F=>?_;refine F.vl (Z9Q (b:=true) rfl (ev_c fa _) (F.at rfl) (decide_eq_true ((by omega)))) λfa F=>?_;refine wN<|hK1 _ _<|wS λK2 hK2=>?_
 refine cd_T F rfl ?_;refine Yg ?_;refine F.vl (Z15 rfl (Z3i (mpS (F.at rfl) (mpS (F.at rfl) (mpS (F.at rfl) mp0)))) (Z3i mp0)) λfa F=>?_;refine F.vl ((Z2N rfl (F.at rfl) Zg5 (by intro m e;cases e))) λfa F=>?_;refine Z1A rfl (Z2s rfl (F.at rfl)) ?_
 (try simp only[Exit.inBlock,Exit.then,Exit.jump,reduceIte])
 refine⟨F.ds,?_⟩;exact⟨rfl,E⟩
theorem Zg0(x:Vm)(l s L:List Int)(er:Int)(hml:L.length<=1000)(a1 a2:Option Addr)(c1 c2:Nat)(w:World)
  (hseq:∀W,Ext [] w W->Calls (Qy.prog 0) 185 #[.agg #[.int .i64 x.B,.slice x.da x.D.length x.dc,.slice x.la x.L.length x.lc,.int .i64 x.tol],.slice a1 l.length c1,.slice a2 s.length c2] W λe w'=>∃y,e = .returned (.tuple #[y,.int .i64 er])/\IntR W.heap.size w' L y/\Ext [] W w') :
  Calls (Qy.prog 0) 26 #[.agg #[.int .i64 x.B,.slice x.da x.D.length x.dc,.slice x.la x.L.length x.lc,.int .i64 x.tol],.slice a1 l.length c1,.slice a2 s.length c2] w λe w' =>
   ((e = .panicked [bunV 26 #[.agg #[.int .i64 x.B,.slice x.da x.D.length x.dc,.slice x.la x.L.length x.lc,.int .i64 x.tol],.slice a1 l.length c1,.slice a2 s.length c2]]/\∃d,7<(Question.appendCap 7 0 3).cut (w.tape d (.appendCap 7 0 3)))/\Ext [] w w') \/
   ∃y,e = .returned (.tuple #[y,.int .i64 er])/\IntR w.heap.size w' L y/\Z7R w y/\Ext [] w w':=by
 have E:Ext [] w w:=Ext.refl _ _;have HQ:=Lib.hid hseq;clear hseq;refine ZS 13 Qy.func26 rfl Qy.ntmps188 (Nat.le_of_ble_eq_true rfl) ?_;intro fa F;refine wS λK1 hK1=>?_;refine Yg ?_;refine sqN F (ZI rfl pr0 Qy.underlying22 (size:=1) (by kernel_rfl) (by decide) (by decide) Qy.zeroValue3 (cells:=#[.int .i64 0,.int .i64 0,.int .i64 0,.int .i64 0,.int .i64 0,.int .i64 0,.int .i64 0]) (by kernel_rfl)) λfa w1 F hw=>?_;obtain⟨n3,hn⟩:=eQ w.heap.size;rw[<-hn]at F;have s3:=sQ hn;have l3_E:=lQ hn E.size;replace E:=Z2 E hw;have q3:=ZU hw hn;clear hw hn;have htp:=E.tape;refine ZK F rfl (by decide) rfl (Z6x rfl Qy.underlying22 (by kernel_rfl) (F.at rfl) q3 (by decide) (by decide) (by decide)) ?_;clear F fa;rintro fa v' w2 F ⟨⟨b4,K,rfl,d4,hK⟩,e9⟩;replace q3:=(e9).keep0 q3;replace E:=Z4 E (e9);rw[htp]at hK;refine F.vl ((Zeu rfl (F.at rfl) Qy.underlying22)) λfa F=>?_;refine F.vl (Z52 rfl (ev_c fa _) (F.at rfl)) λfa F=>?_;refine wN<|hK1 _ _<|wS λK2 hK2=>?_
 refine Z6L F rfl (λhc6=>?_) (λhc6=>?_)
 ·skip
  refine Yg ?_;refine F.vl (Z15 rfl (Z3i (mpS (F.at rfl) (mpS (F.at rfl) (mpS (F.at rfl) mp0)))) (Z3i mp0)) λfa F=>?_;refine F.vl ((Z2N rfl (F.at rfl) Zg5 (by intro m e;cases e))) λfa F=>?_;refine Z1A rfl (Z2s rfl (F.at rfl)) ?_
  (try simp only[Exit.inBlock,Exit.then,Exit.jump,reduceIte])
  refine⟨F.ds,?_⟩;exact .inl ⟨⟨rfl,d4,by rw[<-hK];exact Int.ofNat_lt.1 (by simpa using hc6)⟩,E⟩
 ·skip
  refine Yi ?_;refine hK2 _ _<|wS λK3 hK3=>?_
  refine Yg ?_;refine sqC F (Za rfl rfl Qy.call185 (mpS (F.at rfl) (mpS (F.at rfl) (mpS (F.at rfl) mp0)))) (HQ.out _ E) λe w3 hR=>?_;obtain⟨y,rfl,hI,e9⟩:=hR;refine⟨_,rfl,λfa F=>?_⟩;replace q3:=(e9).keep0 q3;replace E:=Z4 E (e9);clear e9;refine F.vl (Z2r rfl (F.at rfl) (get0)) λfa F=>?_;refine F.vl (Z2r rfl (F.at rfl) (getS (get0))) λfa F=>?_;have hEs:=E.size;have htp:=E.tape;refine ZK F rfl (by decide) rfl (Z9L rfl Qy.underlying22 (by kernel_rfl) (F.at rfl) hI hml) ?_;clear F fa;rintro fa v' w4 F ⟨hI2,e9,hC⟩;replace q3:=(e9).keep0 q3;replace E:=Z4 E (e9);refine wN<|hK3 _ _ ?_
  refine wp_ret ?_
  (try simp only[Exit.inBlock,Exit.then,reduceIte])
  refine rt_v F (rs_2 F rfl rfl rfl) ?_;exact .inr ⟨_,rfl,Z4M hI2 (Ext.refl [] _) (by simp) (by omega),(by unfold Z7R at hC⊢;rw[htp]at hC;exact hC),E⟩
theorem Z5G(x:Vm)(hv:VOk x)(l s:List Int)(hll:l.length<=1000)(hs:Z1L x s)(a1 a2:Option Addr)(c1 c2:Nat)(w:World)(h:x.At w)(hr:Z8 w (.slice a1 l.length c1) 1 (l.map Z7))(hr':Z8 w (.slice a2 s.length c2) 1 (s.map Z7)):
  Calls (Qy.prog 0) 26 #[.agg #[.int .i64 x.B,.slice x.da x.D.length x.dc,.slice x.la x.L.length x.lc,.int .i64 x.tol],.slice a1 l.length c1,.slice a2 s.length c2] w λe w' =>
   ((e = .panicked [bunV 26 #[.agg #[.int .i64 x.B,.slice x.da x.D.length x.dc,.slice x.la x.L.length x.lc,.int .i64 x.tol],.slice a1 l.length c1,.slice a2 s.length c2]]/\∃d,7<(Question.appendCap 7 0 3).cut (w.tape d (.appendCap 7 0 3)))/\Ext [] w w') \/
   ∃y,e = .returned (.tuple #[y,.int .i64 (rcpE x l)])/\IntR w.heap.size w' (matA x l s) y/\Z7R w y/\Ext [] w w':=by
 refine Zg0 x l s (matA x l s) (rcpE x l) ?_ a1 a2 c1 c2 w λW eW=>?_
 ·unfold matA
  split
  ·have:=List.length_filter_le (λk:Nat=>matE x (val l) (val s) [(k:Int)]) (List.range x.L.length)
   have hl3:=hv.l3;simp only[Z0z,Yj];simp only[List.length_range]at this;omega
  ·simp
 ·unfold matA
  by_cases he:rcpE x l=0
  ·rw[if_pos he,he]
   exact Zie x hv l s (Z1y.1 he) hs a1 a2 c1 c2 W (h.ext eW) (hr.ext eW (by simp)) (hr'.ext eW (by simp))
  ·rw[if_neg he]
   exact(Zfh x hv l hll he a1 a2 c1 s.length c2 W (h.ext eW) (hr.ext eW (by simp))).mono λe w' q=>⟨_,q.1,.inl ⟨rfl,rfl⟩,q.2⟩
end
namespace Lift
open Go Go.Conc Go.RowKit Ev
open Go.ConcM (OsLater)
abbrev jkV(TG:FuncId->Prop):Jk:={j:=True,rest:=[],gd:=λf=>gJ f=true,law:=λf=>f=lawF,jmp:=λf=>TG f\/f=19,ar:=λf=>if f=19 then 0 else 3}
theorem ZkN(TG:FuncId->Prop):@Strip (jkV TG) PP (Qy.F 0) (@CodeOk (jkV TG) PP false) (λf=>gJ f=true):=strip_J (J:=jkV TG) trivial (λ_=>Iff.rfl) lawJ 0
theorem gokV(TG:FuncId->Prop):@GOk (jkV TG) PP (Qy.F 0) (λf=>gJ f=true):=ZhI (J:=jkV TG) (λ_=>Iff.rfl) lawJ 0
structure CoA(D:Nat->Prop)(L:List Int)(w w':World)(y:Value)(D':Nat->Prop):Prop where
 lst:IntR w.heap.size w' L y
 old:∀b,b<w.heap.size->w'.heap[b]?=w.heap[b]?
 size:w.heap.size<=w'.heap.size
 os:OsLater w.os w'.os
 out:w'.output=w.output
 dis:∀c,D' c->D c\/w.heap.size<=c
 low:∀c,D' c->c<w'.heap.size
 ne:∀g n c,y = .slice (some ⟨g,0,none⟩) n c->w.heap.size<=g->¬D' g
def CoT(TG:FuncId->Prop)(t:FuncId)(Pre:Array Value->World->Prop):Prop:=∀{D:Nat->Prop} {r:Ren} {v w u:World} {xs zs:Array Value},Pre xs u->(∀b,b<v.heap.size->u.heap[b]?=v.heap[b]?) -> @WH (jkV TG) (@Iv (jkV TG) PP (Qy.F 0)) r v w->Off D r w -> @VRs (jkV TG) r xs zs ->
 ∃(L:List Int) (er:Int),L.length<=6 /\
  (∀tp,Calls (Qy.prog 0) t xs (re v tp) λe u=>((e = .panicked [bunV t xs]/\∃d,7<(Question.appendCap 7 0 3).cut (tp d (.appendCap 7 0 3)))/\Ext [] (re v tp) u)\/∃y,e = .returned (.tuple #[y,.int .i64 er])/\IntR v.heap.size u L y/\Z7R (re v tp) y/\Ext [] (re v tp) u) /\
  ∀{Post:Value->World->Prop} {c:Frame} {cs:List Frame},(∀w' y D',CoA D L w w' y D'->Sure PP Post D' (run1 (c.finish (.tuple #[y,.int .i64 er])) cs) w')->Sure PP Post D (run1 (Frame.enter PP t zs .normal) (c::cs)) w
theorem Zgp{L:List Int}{y:Value}{Mu Wg:Nat}(hD:∀c,D c->c<w.heap.size)(U:UnE L w w' y Mu Wg): CoA D L w w' y λc=>D c\/c=Mu\/c=Wg:=
 ⟨U.lst,U.old,U.size,U.os,U.out,λc h=>by
  have m1:=U.mu.1;have m2:=U.wg.1
  rcases h with h | rfl | rfl
  ·exact .inl h
  ·exact .inr m1
  ·exact .inr m2,λc h=>by
  have m1:=U.mu.2;have m2:=U.wg.2
  rcases h with h | rfl | rfl
  ·exact Y8 (hD c h) U.size
  ·exact m1
  ·exact m2,λg n c e hg h=>by
  have:=U.ne g n c e
  rcases h with h | h | h
  ·have:=hD g h;omega
  ·exact this.1 h
  ·exact this.2 h⟩
theorem Zf5 (TG:FuncId->Prop) {t:FuncId} {Pre:Array Value->World->Prop} (hgS:gS t=true) (hbT:∀(y0 y1 y2:Value) (w:World),(∀d,7<(Question.appendCap 7 0 3).cut (w.tape d (.appendCap 7 0 3)))->Calls (Qy.prog 0) t #[y0,y1,y2] w λe w'=>e = .panicked [bunV t #[y0,y1,y2]]/\Ext [] w w') (hco:CoT TG t Pre) {fn:Func} {bd:Code} (hfn:PP.funcs[t]?=some fn) (hbd:fn.body=some bd) (hnm:(fn.name == "runtime.NumGoroutine")=false) {R:Ending->World->Prop} {r:Ren} {f g:Frame} (hR:∀xs u,R (.panicked [bunV t xs]) u->Pre xs u) (hs:@Stk (jkV TG) PP (Qy.F 0) r [f] [g]) (hw:@WH (jkV TG) (@Iv (jkV TG) PP (Qy.F 0)) r v w) (ho:Off D r w) (hI:@Self jk0 (Qy.prog 0) (Qy.F 0) [f,poison] v) (hlaw:f.fn=lawF) (hrun:f.mode = .run) {c:Call} (hat:AtCall f t c) (hrd:∀x∈c.args,∃t,x = .tmp t) (h3:c.args.size=3) (hE:Ends (Qy.prog 0) (Done PP (Qy.F 0) lawF R) [f,poison] v) (k:∀x y r' v' w' D',Z5W (Qy.prog 0) (Done PP (Qy.F 0) lawF R) f [poison] v [f.finish x,poison] v' -> @Self jk0 (Qy.prog 0) (Qy.F 0) [f.finish x,poison] v' -> @Stk (jkV TG) PP (Qy.F 0) r' [f] [g] -> @VR (jkV TG) r' x y -> @WH (jkV TG) (@Iv (jkV TG) PP (Qy.F 0)) r' v' w'->Off D' r' w'->KeptW v v' w w' r r'->Sure PP Post D' (run1 (g.finish y) cs) w'): Sure PP Post D (run1 g cs) w:=by
 letI:Jk:=jkV TG;have hP:∀x u,¬Done PP (Qy.F 0) lawF R [x] u:=Z3x;have hSt:∀V u,Done PP (Qy.F 0) lawF R V u->V.length=2:=by
  rintro V u ⟨T,e,fr,rfl,_⟩
  rfl
 have hf:=(@Stk.uncons (jkV TG) _ _ _ _ _ _ _ hs).1;have hdf:f.defers=[]:=(@FrR.defers (jkV TG) _ _ _ _ _ hf).2 hlaw;have hIs:=hI;obtain⟨f0,A,r0,hV,hi0,hs0,hw0⟩:=hI;simp only[List.cons.injEq]at hV;obtain⟨rfl,hA⟩:=hV;have hA:A=[]:=by
  cases A with
  | nil=>rfl
  | cons a tl=>have:=congrArg List.length hA;simp at this
 subst hA;have hnp:¬Done PP (Qy.F 0) lawF R [f,poison] v:=by
  rintro⟨T,e,fr,q1,q2,q3,q4,q5⟩;simp only[List.cons.injEq]at q1;obtain⟨rfl,_⟩:=q1
  cases e with
  | returned x=>have:=q3.1;rw[hrun]at this;cases this
  | panicked ch=>have:=q3.1;rw[hrun]at this;cases this
  | outgrown=>exact q5 rfl
 have hrd0:∀x∈c.args,@RdOk jk0 x:=λx hx=>by
  obtain⟨t,rfl⟩:=hrd x hx;trivial
 obtain⟨y0,y1,y2,hargs⟩:=ZlT (xs:=c.args.map f.eval) (by simp[h3])
 -- the bad tape
 have hbad:Calls (Qy.prog 0) t (c.args.map f.eval) (re v λ_ _=>1) (λe u=>e = .panicked [bunV t #[y0,y1,y2]]/\Ext [] (re v λ_ _=>1) u):=by
  rw[hargs];exact hbT y0 y1 y2 _ λd=>by show 7<7+1 % (2 ^ 63-7);decide
 obtain⟨e,v1,u1,r1,he,hi1,hw1,hk1,hcase⟩:=@Z6V jk0 (Qy.prog 0) (Qy.F 0) _ r0 v _ hQ0 Z37 gokS recS hSt f t c hs0 hw0 hi0 hat hgS hrd0 (λ_ _=>1) _ (λu q=>by cases q.1) hbad;obtain⟨rfl,hE1⟩:=he
 rcases hcase with⟨x,y,q,_⟩ | ⟨ch,ch',q,hpr,hreach⟩
 ·cases q
 obtain rfl:=Ending.panicked.inj q;have hch:ch'=[bunV t #[y0,y1,y2]]:=by
  cases hpr with
  | cons a t =>
   cases t
   obtain⟨a1,a2,a3⟩:=a;rename_i z;obtain⟨zv,zr,zg⟩:=z;have:=@VR.id jk0 _ id hi1 _ _ a1;dsimp only[bunV]at this a2 a3;subst this a2 a3
   rfl
 subst hch;have hr1:=Z2C hnp hreach;have hE2:=hE.reach hr1;have hS2:=@Z4b jk0 _ _ _ _ _ _ _ _ hQ0 Z37 gokS recS hP hr1 hE hIs;have hmr:(f.raise [bunV t #[y0,y1,y2]]).mode = .panicking [bunV t #[y0,y1,y2]]:=by
  unfold Frame.raise;rw[hrun]
 have hdr:(f.raise [bunV t #[y0,y1,y2]]).defers=[]:=by
  unfold Frame.raise;rw[hrun];exact hdf
 have hfr:(f.raise [bunV t #[y0,y1,y2]]).fn=lawF:=by
  unfold Frame.raise;rw[hrun];exact hlaw
 have hst:=@Zbr jk0 _ _ _ _ _ hQ0 Z37 gokS recS hP _ _ hmr hdr (by rw[hfr];exact⟨_,(Zdz (k:=lawF) (by decide)).choose_spec.choose_spec.1⟩) hE2 hS2;obtain⟨T,e,fr,q1,q2,q3,q4,q5⟩:=hst;simp only[List.cons.injEq]at q1;obtain⟨rfl,_⟩:=q1;have hpre:Pre #[y0,y1,y2] u1:=by
  cases e with
  | returned x=>have:=q3.1;rw[hmr]at this;cases this
  | outgrown=>exact absurd rfl q5
  | panicked ch =>
   have:=q3.1;rw[hmr]at this;obtain rfl:=FrameMode.panicking.inj this;exact hR _ _ q4
 have hold:∀b,b<v.heap.size->u1.heap[b]?=v.heap[b]?:=λb hb=>@Kep.old jk0 _ _ _ _ _ _ id hi1 hk1 hw1 _ hb (hE1.block b hb (by simp));have hys:@VRs (jkV TG) r (c.args.map f.eval) (c.args.map g.eval):=@Z2R (jkV TG) _ _ _ (@FrR.env (jkV TG) _ _ _ _ _ hf) _ (λx hx=>by
  obtain⟨t,rfl⟩:=hrd x hx;trivial)
 rw[hargs]at hys;obtain⟨L,er,hL6,hcg,hcc⟩:=hco hpre hold hw ho hys;have hatg:=@AtCall.rel (jkV TG) _ _ _ _ _ hf _ _ hat
 have hkg:g.kind = .normal\/g.kind = .deferred:=by
  have:=@FrR.kind (jkV TG) _ _ _ _ _ hf;rw[<-this.1];exact this.2
 refine @Sure.step (jkV TG) _ _ _ _ _ rfl λw1 hl1=>⟨_,w1,#[],@AtCall.step (jkV TG) _ _ _ _ hatg _ _ hfn hbd hnm hkg true cs w1,by simp,by rw[hl1.1];exact Ye _,?_⟩;refine Sure.like ?_ hl1;refine hcc λw3 y D' U=>?_
 -- the good tape
 obtain⟨cp,hcp⟩:∃cp:Nat,cp<=maxLen/\∀g n c,y = .slice (some ⟨g,0,none⟩) n c->c=cp/\n<=cp/\n≠7:=by
  rcases U.lst with⟨_,rfl⟩ | ⟨gc,cc,_,rfl,_,hcq,hmm,_⟩
  ·exact⟨0,Nat.zero_le _,λg n c e=>by cases e⟩
  ·refine⟨cc,hmm,λg n c e=>?_⟩
   simp only[Value.slice.injEq]at e;obtain⟨_,rfl,rfl⟩:=e;exact⟨rfl,hcq,by omega⟩
 have hgood:Calls (Qy.prog 0) t (c.args.map f.eval) (re v (tG cp)) (λe u=>∃y,e = .returned (.tuple #[y,.int .i64 er])/\IntR v.heap.size u L y/\Z7R (re v (tG cp)) y/\Ext [] (re v (tG cp)) u):=by
  rw[hargs];refine(hcg (tG cp)).mono λe u h=>?_
  rcases h with⟨⟨_,d,hd⟩,_⟩ | h
  ·exact absurd hd (by show ¬7<7+0 % (2 ^ 63-7);decide)
  ·exact h
 obtain⟨e,v2,u2,r2,he,hi2,hw2,hk2,hcase⟩:=@Z6V jk0 (Qy.prog 0) (Qy.F 0) _ r0 v _ hQ0 Z37 gokS recS hSt f t c hs0 hw0 hi0 hat hgS hrd0 (tG cp) _ (λu q=>by obtain⟨_,q,_⟩:=q;cases q) hgood;obtain⟨y0',rfl,hI2,hC2,hE3⟩:=he
 rcases hcase with⟨x2,y2',q,hvr,hreach2⟩ | ⟨ch,ch',q,_⟩
 rotate_left
 ·cases q
 obtain rfl:=Ending.returned.inj q;have hyy:=@VR.id jk0 _ id hi2 _ _ hvr;subst hyy;have hr2:=Z2C hnp hreach2;have hS3:=@Z4b jk0 _ _ _ _ _ _ _ _ hQ0 Z37 gokS recS hP hr2 hE hIs;have hold2:∀b,b<v.heap.size->u2.heap[b]?=v.heap[b]?:=λb hb=>@Kep.old jk0 _ _ _ _ _ _ id hi2 hk2 hw2 _ hb (hE3.block b hb (by simp));have henv:u2.os.env=w3.os.env:=by
  have e1:u2.os=v.os:=hk2.os.2.symm;rw[e1,Z9r U.os];exact hw.env
 have hofD:∀b d,r b=some d->¬D' d:=λb d hb hd=>by
  obtain⟨_,_,_,g2,_⟩:=hw.on _ _ hb;have:=(Y0.1 g2).1
  rcases U.dis d hd with q | q
  ·exact ho.names b d hb q
  ·omega
 have kw:∀r',(∀a b,r' a=some b->r a=some b\/w.heap.size<=b)->KeptW v u2 w w3 r r':=λr' h=>⟨hold2,U.old,U.size,U.os,U.out,h⟩
 rcases hI2 with⟨hL,rfl⟩ | ⟨g0,k0,hL,rfl,hb0,hc0,hm0,hq0⟩
 ·have hy:y = .slice none 0 0:=by
   rcases U.lst with⟨_,q⟩ | ⟨_,_,q,_⟩
   ·exact q
   ·exact absurd hL q
  subst hy;refine k _ _ r u2 w3 _ hreach2 hS3 hs ?_ (@Zem (jkV TG) _ _ _ _ _ _ hw hold2 U.old henv) ⟨hofD,U.low⟩ (kw r λa b h=>.inl h);refine @VR.tuple (jkV TG) _ _ _ rfl λi a b h1 h2=>?_;rw[h1]at h2;obtain rfl:=Y1 h2;have:=Yk h1;simp only[Yb,Yc,Ya,or_false]at this
  rcases this with rfl | rfl
  ·exact @VR.sl0 (jkV TG) _ _ _
  ·exact @VR.int (jkV TG) _ _ _
 ·obtain⟨gc,cc,_,hy,hbc,hcc,hmc,hqc⟩:∃gc cc,L≠[]/\y = .slice (some ⟨gc,0,none⟩) L.length cc/\w.heap.size<=gc/\L.length<=cc/\cc<=maxLen/\w3.heap[gc]?=some (.cells (ivs (L)++List.replicate (cc-L.length) (Value.int .i64 0)).toArray 3 (0,0)):=by
   rcases U.lst with⟨q,_⟩ | q
   ·exact absurd q hL
   ·exact q
  obtain⟨rfl,hn1,hn7⟩:=hcp.2 _ _ _ hy;have hkc:k0=cc:=by
   obtain⟨d,hd⟩:=hC2 _ _ _ rfl;have hd:k0=L.length+(if L.length=7 then 0 else cc-L.length) % (2 ^ 63-L.length):=hd;rw[if_neg hn7,Nat.mod_eq_of_lt (by simp only[maxLen]at hmc;omega)]at hd;omega
  subst hkc;subst hy;have hpos:0<L.length:=List.length_pos_iff.2 hL;have hg0:r2 g0=some g0:=by
   cases hvr with
   | tuple _ t =>
    have:=t 0 _ _ rfl rfl
    cases this with
    | sl _ _ q=>cases q with | mk q=>exact q
  have hq2:u2.heap[g0]?=some (.cells (ivs (L)++List.replicate (k0-L.length) (Value.int .i64 0)).toArray 3 (0,0)):=by
   refine @Kep.fresh jk0 _ _ _ _ id hi2 hw2 _ _ hg0 hq0 ?_;rintro⟨cs2,e2,q⟩;simp only[Obj.cells.injEq,Y9,true_and]at q;obtain⟨rfl,_,q⟩:=q;simp only[List.size_toArray,Ym,List.length_replicate,ivs,Yj]at q;omega
  have hce:∀z∈(ivs (L)++List.replicate (k0-L.length) (Value.int .i64 0)).toArray,∃n,z = .int .i64 n:=by
   intro z hz;simp only[Yb,List.mem_append,ivs,List.mem_map,List.mem_replicate]at hz
   rcases hz with⟨n,_,rfl⟩ | ⟨_,rfl⟩<;>exact⟨_,rfl⟩
  obtain⟨hwm,hle⟩:=@Zj4 (jkV TG) _ _ _ _ _ _ hw hold2 U.old henv g0 gc _ _ hq2 hqc hb0 hbc hce;refine k _ _ (r.add g0 gc) u2 w3 _ hreach2 hS3 (@Stk.mono (jkV TG) _ _ _ _ hle _ _ hs) ?_ hwm ⟨λa b h hd=>?_  ,U.low⟩ (kw _ λa b h=>?_)
  ·refine @VR.tuple (jkV TG) _ _ _ rfl λi a b h1 h2=>?_
   rcases i with _ | _ | i
   ·obtain rfl:=Y1 h1
    obtain rfl:=Y1 h2;exact @VR.sl (jkV TG) _ _ _ _ _ (.mk (by unfold Ren.add;rw[if_pos rfl]))
   ·obtain rfl:=Y1 h1
    obtain rfl:=Y1 h2;exact @VR.int (jkV TG) _ _ _
   ·simp at h1
  ·unfold Ren.add at h
   split at h
   ·obtain rfl:=Y1 h
    exact U.ne _ _ _ rfl hbc hd
   ·exact hofD _ _ h hd
  ·unfold Ren.add at h
   split at h
   ·obtain rfl:=Y1 h
    exact .inr hbc
   ·exact .inl h
theorem Zd8(TG:FuncId->Prop){R:Ending->World->Prop}{r:Ren}{f g:Frame}(hs:@Stk (jkV TG) PP (Qy.F 0) r [f] [g])(hw:@WH (jkV TG) (@Iv (jkV TG) PP (Qy.F 0)) r v w)(ho:Off D r w)(hI:@Self jk0 (Qy.prog 0) (Qy.F 0) [f,poison] v)(hlaw:f.fn=lawF)(hrun:f.mode = .run){c:Call}(hat:AtCall f 19 c)(h3:c.args.size=0)(hE:Ends (Qy.prog 0) (Done PP (Qy.F 0) lawF R) [f,poison] v)(k:∀x y r' v' w' D',Z5W (Qy.prog 0) (Done PP (Qy.F 0) lawF R) f [poison] v [f.finish x,poison] v' -> @Self jk0 (Qy.prog 0) (Qy.F 0) [f.finish x,poison] v' -> @Stk (jkV TG) PP (Qy.F 0) r' [f] [g] -> @VR (jkV TG) r' x y -> @WH (jkV TG) (@Iv (jkV TG) PP (Qy.F 0)) r' v' w'->Off D' r' w'->KeptW v v' w w' r r'->Sure PP Post D' (run1 (g.finish y) cs) w'): Sure PP Post D (run1 g cs) w:=by
 letI:Jk:=jkV TG;have hP:∀x u,¬Done PP (Qy.F 0) lawF R [x] u:=Z3x;have hSt:∀V u,Done PP (Qy.F 0) lawF R V u->V.length=2:=by
  rintro V u ⟨T,e,fr,rfl,_⟩
  rfl
 have hf:=(@Stk.uncons (jkV TG) _ _ _ _ _ _ _ hs).1;have hIs:=hI;obtain⟨f0,A,r0,hV,hi0,hs0,hw0⟩:=hI;simp only[List.cons.injEq]at hV;obtain⟨rfl,hA⟩:=hV;have hA:A=[]:=by
  cases A with
  | nil=>rfl
  | cons a tl=>have:=congrArg List.length hA;simp at this
 subst hA;have hnp:¬Done PP (Qy.F 0) lawF R [f,poison] v:=by
  rintro⟨T,e,fr,q1,q2,q3,q4,q5⟩;simp only[List.cons.injEq]at q1;obtain⟨rfl,_⟩:=q1
  cases e with
  | returned x=>have:=q3.1;rw[hrun]at this;cases this
  | panicked ch=>have:=q3.1;rw[hrun]at this;cases this
  | outgrown=>exact q5 rfl
 have ha0:c.args=#[]:=Array.eq_empty_of_size_eq_zero h3;have hargs:c.args.map f.eval=#[]:=by rw[ha0];simp
 have hargg:c.args.map g.eval=#[]:=by rw[ha0];simp
 have hgood:Calls (Qy.prog 0) 19 (c.args.map f.eval) (re v λ_ _=>0) (λe u=>e = .returned (.bool true)/\Ext [] (re v λ_ _=>0) u):=by
  rw[hargs];exact Z6W (μ:=0) _
 obtain⟨e,v2,u2,r2,he,hi2,hw2,hk2,hcase⟩:=@Z6V jk0 (Qy.prog 0) (Qy.F 0) _ r0 v _ hQ0 Z37 gokS recS hSt f 19 c hs0 hw0 hi0 hat (by decide) (λx hx=>by rw[ha0]at hx;simp at hx) (λ_ _=>0) _ (λu q=>by cases q.1) hgood;obtain⟨rfl,hE3⟩:=he
 rcases hcase with⟨x2,y2',q,hvr,hreach2⟩ | ⟨ch,ch',q,_⟩
 rotate_left
 ·cases q
 obtain rfl:=Ending.returned.inj q;have hyy:=@VR.id jk0 _ id hi2 _ _ hvr;subst hyy;have hr2:=Z2C hnp hreach2;have hS3:=@Z4b jk0 _ _ _ _ _ _ _ _ hQ0 Z37 gokS recS hP hr2 hE hIs;have hold2:∀b,b<v.heap.size->u2.heap[b]?=v.heap[b]?:=λb hb=>@Kep.old jk0 _ _ _ _ _ _ id hi2 hk2 hw2 _ hb (hE3.block b hb (by simp));have hatg:=@AtCall.rel (jkV TG) _ _ _ _ _ hf _ _ hat
 have hkg:g.kind = .normal\/g.kind = .deferred:=by
  have:=@FrR.kind (jkV TG) _ _ _ _ _ hf;rw[<-this.1];exact this.2
 have hfn:PP.funcs[(19:Nat)]?=some Tryz.f19:=by kernel_rfl
 obtain⟨bd,hbd⟩:∃b,Tryz.f19.body=some b:=⟨_,rfl⟩;refine @Sure.step (jkV TG) _ _ _ _ _ rfl λw1 hl1=>⟨_,w1,#[],@AtCall.step (jkV TG) _ _ _ _ hatg _ _ hfn hbd (by kernel_rfl) hkg true cs w1,by simp,by rw[hl1.1];exact Ye _,?_⟩;refine Sure.like ?_ hl1;rw[hargg];have hwn:@WH jkN (@Iv jkN PP (Qy.F 0)) (λ_=>none) w w:=@WH.mk jkN _ _ _ _ (λb c h=>by cases h) (λa b c h=>by cases h) rfl;refine @Sure.called jkN PP (Qy.F 0) (λf=>gB f=true) _ _ _ _ _ (ZkM 0) (gokN 0) recN 19 #[] #[] (by decide) (@Arr.nil jkN _ _ _) hwn ⟨λb c h=>by(cases h),ho.low⟩ (λe u=>e = .returned (.bool true)) (λe u T q=>q) (λu q=>by cases q) (λT=>(Z6W (μ:=0) (re w T)).mono λe u q=>q.1) g cs (λr' v' w' x y hx hv hw' hk ho'=>?_) (λr' v' w' ch ch' hx=>by cases hx);obtain rfl:=Ending.returned.inj hx;have hy:y = .bool true:=by cases hv;rfl
 subst hy;have hold:∀b,b<w.heap.size->w'.heap[b]?=w.heap[b]?:=λb hb=>hk.far b hb λa h=>by cases h
 have hos:w'.os=w.os:=hk.os.2.symm;have henv:u2.os.env=w'.os.env:=by
  have e1:u2.os=v.os:=hk2.os.2.symm;rw[e1,hos];exact hw.env
 refine k _ _ r u2 w' D hreach2 hS3 hs (@VR.bool (jkV TG) _ _) (@Zem (jkV TG) _ _ _ _ _ _ hw hold2 hold henv) ⟨ho.names,λd hd=>Y8 (ho.low d hd) hk.sizeW⟩ ⟨hold2,hold,hk.sizeW,by rw[hos];exact OsLater.refl _,hk.out,λa b h=>.inl h⟩
def Zh2(xs:Array Value)(u:World):Prop:=∃(x:Vm) (l s:List Int) (a1 a2:Option Addr) (c1 c2:Nat),xs=#[x.val,.slice a1 l.length c1,.slice a2 s.length c2]/\VOk x/\x.At u/\l≠[]/\l.length<=1000/\Z1L x s/\Z8 u (.slice a1 l.length c1) 1 (l.map Z7)/\Z8 u (.slice a2 s.length c2) 1 (s.map Z7)
theorem Zjx(TG:FuncId->Prop):CoT TG 26 Zh2:=by
 letI:Jk:=jkV TG;intro D r v w u xs zs hpre hold hw ho hys;obtain⟨x,l,s,a1,a2,c1,c2,rfl,hv,hx,hl0,hll,hs,hrw,hrw'⟩:=hpre;obtain⟨z0,z1,z2,rfl,hz0,hz1,hz2⟩:=arr3 hys;have hxd:x.At v:=by
  have hz0:VR r (.agg #[.int .i64 x.B,.slice x.da x.D.length x.dc,.slice x.la x.L.length x.lc,.int .i64 x.tol]) z0:=hz0
  cases hz0 with
  | @agg _ ys hs1 hs2 =>
   obtain⟨_,_,_,_,_,_,g2,g3,_⟩:=arr4 (R:=VR r) ⟨hs1,hs2⟩;exact⟨Z4P hold hw hx.d g2,Z4P hold hw hx.l g3⟩
 have hrd1:=Z2E hold hw hrw hz1;have hrd2:=Z2E hold hw hrw' hz2;have hs0:s≠[]:=Z5m (p:=(.bool true,s)) hv.b1 hs.1;obtain⟨x',rfl,halk,hvc⟩:=ZgY hv hxd hw ho hz0;obtain⟨b1,rfl,hw1r,hp1⟩:=Z4U hw hl0 hrd1 hz1;obtain⟨b2,rfl,hw2r,hp2⟩:=Z4U hw hs0 hrd2 hz2;have hvx:VOk x':=halk.ok hv;have hsx:Z1L x' s:=⟨hs.1.trans halk.b.symm,hs.2⟩;have hrc:rcpE x' l=rcpE x l:=by unfold rcpE;rw[halk.dl]
 have hl3:=hv.l3;refine⟨matA x l s,rcpE x l,?_,λtp=>?_,λ{Post c cs} ret=>?_⟩
 ·unfold matA
  split
  ·have:=Z3f x.L.length λk=>matE x (val l) (val s) [((k:Nat):Int)]
   omega
  ·simp
 ·exact Z5G x hv l s hll hs a1 a2 c1 c2 (re v tp) (Z1D (v:=v) (v2:=re v tp) (λb _=>rfl) hxd) hrd1 hrd2
 ·unfold matA at ret
  by_cases he:rcpE x l=0
  ·rw[if_pos he,he]at ret
   refine Z9j hvx hvc (Z1y.1 (hrc.trans he)) hsx hw1r hw2r hp1 hp2 λw3 y Mu Wg U=>ret _ _ _ (Zgp ho.low ?_);have hbb:Z0z x'.L.length (matB x' (val l) (val s))=Z0z x.L.length λk=>matE x (val l) (val s) [((k:Nat):Int)]:=by
    rw[halk.ll];refine Z48 λk hk=>?_;simp only[matB,halk.ll,halk.mat,hk,decide_true,Bool.true_and]
   rw[<-hbb];exact U
  ·rw[if_neg he]at ret
   refine Z9k hvx hvc hll (by rw[hrc];exact he) hw1r hp1 hp2 λw3 h1 h2 h3 h4=>?_;rw[hrc];exact ret _ _ D ⟨.inl ⟨rfl,rfl⟩,h1,h2,by rw[h3];exact OsLater.refl _,h4,λc h=>.inl h,λc h=>Y8 (ho.low c h) h2,λg n c e=>by cases e⟩
end Lift
namespace Lift
open Go Go.Conc Go.RowKit Ev
open Go.ConcM (OsLater)
structure Tgt(TG:FuncId->Prop)(t:FuncId)(Pre:Array Value->World->Prop):Prop where
 gs:gS t=true
 bad:∀(y0 y1 y2:Value) (w:World),(∀d,7<(Question.appendCap 7 0 3).cut (w.tape d (.appendCap 7 0 3)))->Calls (Qy.prog 0) t #[y0,y1,y2] w λe w'=>e = .panicked [bunV t #[y0,y1,y2]]/\Ext [] w w'
 co:CoT TG t Pre
 fn:∃fn bd,PP.funcs[t]?=some fn/\fn.body=some bd/\(fn.name == "runtime.NumGoroutine")=false
 ng:gJ t=false
theorem ZiP(TG:FuncId->Prop):Tgt TG 26 Zh2:=⟨by decide,Zea,Zjx TG,⟨_,_,Zas,Zdk,by kernel_rfl⟩,by decide⟩
def LawV(Pre:FuncId->Array Value->World->Prop)(e:Ending)(u:World):Prop:=e = .returned (.bool true)\/∃t xs,gJ t=false/\e = .panicked [bunV t xs]/\Pre t xs u
theorem Zde(TG:FuncId->Prop)(Pre:FuncId->Array Value->World->Prop)(hT:∀t,TG t->Tgt TG t (Pre t)){R:Ending->World->Prop}{w0:World}{r:Ren}{f g:Frame}(hR:∀t xs u,R (.panicked [bunV t xs]) u->Pre t xs u)(hret:∀x u,R (.returned x) u->x = .bool true)(hpan:∀ch u,R (.panicked ch) u->∃t xs,gJ t=false/\ch=[bunV t xs])(hini:PP.inits.idxOf? lawF=none)(hfn:f.fn=lawF)(hs:@Stk (jkV TG) PP (Qy.F 0) r [f] [g])(hw:@WH (jkV TG) (@Iv (jkV TG) PP (Qy.F 0)) r v w0)(hsh:∀a b,r a=some b->Shut v a)(hI:@Self jk0 (Qy.prog 0) (Qy.F 0) [f,poison] v)(hE:Ends (Qy.prog 0) (Done PP (Qy.F 0) lawF R) [f,poison] v):
  Sure PP (Zja w0) (λ_=>False) (run1 g []) w0:=by
 letI:Jk:=jkV TG;refine Sure.jumps (P:=PP) (F:=Qy.F 0) (G:=λf=>gJ f=true) (Stop:=Done PP (Qy.F 0) lawF R) (V:=[f,poison]) (v:=v) (cs:=[]) (ZkN TG) (gokV TG) recP Z3x (I:=λV v=>@Self jk0 (Qy.prog 0) (Qy.F 0) V v) ?_ (J:=λ_ r v w=>Since w0 r v w) (λD r r' v v' w w' k h=>h.kep k) ?_ ?_ hE (λ_=>False) f [] g [] r w0 rfl hs hw ⟨λ_ _ _ h=>h,λ_ h=>h.elim⟩ ⟨λ_ _=>rfl,Ye _,OsLater.refl _,rfl,λa b h _=>hsh a b h⟩ hI
 ·intro f K v τ f' K' v' es h e
  exact @Self.step jk0 _ _ _ _ _ hQ0 Z37 gokS recS _ _ _ _ _ _ h e
 ·intro D f g r v w hs hw ho hj hi hp hE k
  have hlt:∀a b,r a=some b->a<v.heap.size:=λa b q=>by
   obtain⟨_,_,g1,_⟩:=hw.on _ _ q;exact(Y0.1 g1).1
  obtain⟨jf,c,hjf,hat,hrd,h3⟩:=Pend.at hp
  by_cases hd:jf=19
  ·subst hd
   exact Zd8 TG hs hw ho hi hp.1 hp.2.1 hat (h3.trans (if_pos rfl)) hE λx y r' v' w' D' h1 h2 h3 h4 h5 h6 h7=>k x y r' v' w' D' h1 h2 h3 h4 h5 h6 (hj.more h7 hlt)
  ·obtain⟨q1,q2,q3,⟨fn,bd,q4,q5,q6⟩,_⟩:=hT jf (hjf.resolve_right hd)
   exact Zf5 TG q1 q2 q3 q4 q5 q6 (hR jf) hs hw ho hi hp.1 hp.2.1 hat hrd (h3.trans (if_neg hd)) hE λx y r' v' w' D' h1 h2 h3 h4 h5 h6 h7=>k x y r' v' w' D' h1 h2 h3 h4 h5 h6 (hj.more h7 hlt)
 ·intro D f A g B r v w h hs hw ho hj
  obtain⟨T,e,fr,q1,q2,q3,q4,q5⟩:=h;simp only[List.cons.injEq]at q1;obtain⟨rfl,hA⟩:=q1;have hA:A=[]:=by
   cases A with
   | nil=>rfl
   | cons a tl=>have:=congrArg List.length hA;simp at this
  subst hA;have hB:B=[]:=by
   obtain⟨_,h,_⟩:=hs.uncons;have:=h.rel
   cases B with
   | nil=>rfl
   | cons b bs=>cases this
  subst hB;have hf:=hs.uncons.1
  cases e with
  | outgrown=>exact absurd rfl q5
  | returned x =>
   obtain rfl:=hret _ _ q4;have hgi:PP.inits.idxOf? g.fn=none:=by rw[<-hf.fn,q2];exact hini
   refine Sure.last rfl λw1 hl=>?_;have hw1:WH (Iv PP (Qy.F 0)) r v w1:=hw.of rfl hl.1 (by rw[hl.2.1];exact hw.env);obtain⟨r2,T2,y,w2,ns,e2,hv,hw2,hk2,he⟩:=Zdf hf hw1 q3 hgi;have ho2:=(ho.like hl).kept hk2;have hk3:Kep r r2 v v w w2:=Kep.of (v0:=re v T2) (v':=re v T2) ⟨rfl,rfl,rfl⟩ hl hk2;refine⟨y,w2,ns,e2,λx hx=>Z63 (he x hx) ho2.names,by rw[<-hl.1];exact hk2.sizeW,?_⟩
   cases hv
   have:=hj.kep hk3;exact⟨rfl,this.old,this.size,this.os,this.out⟩
  | panicked ch =>
   exfalso;obtain⟨tq,xs,hng,rfl⟩:=hpan _ _ q4;have hm:=hf.mode;rw[q3.1]at hm;generalize g.mode=z at hm
   cases hm with
   | panicking q =>
    cases q with
    | cons a t =>
     have a1:=a.1;dsimp only[bunV]at a1;generalize PanicEntry.v _=z2 at a1
     cases a1 with
     | iface _ k =>
      cases k with
      | func hf _ _ _ _ =>
       cases hf with
       | func _ h =>
        have h:gJ tq=true:=h;rw[hng]at h
        cases h
end Lift
section
open Go.RowKit Ev
variable{μ:Nat}
theorem Zy{ops:Array Oper}{K:Act->World->Prop}{i:Nat}{f:FuncId}{R:Ending->World->Prop}{o:Oper}{args:Array Value}(hi:ops[i]?=some o)(hw:Region.wanted o (yielded ops a.tmps)=true)(hr:(execOp a.eval o).run P w = .ok (.enter f args) w)(hc:Calls P f args w R)(h:∀e w',R e w'->∃ch,e = .panicked ch/\Q (.panic ch) a w'): wpOp P ops Q i K a w:=by
 unfold wpOp;simp only[hi,hw,if_true,Oper.wp,hr,Oper.upon];refine .inl (hc.mono λe w' hR=>?_);obtain⟨ch,rfl,h1⟩:=h e w' hR;exact h1
def pQ(K:Nat)(Q:Exit->Act->World->Prop):Exit->Act->World->Prop:=λe a w=>match e with
 | .panic ch=>∀a2:Act,(∀k,k<K->a2.tmps.getD k undef=a.tmps.getD k undef)->a2.tmps.size=a.tmps.size->a2.defers=a.defers->Q (.panic ch) a2 w
 | e=>Q e a w
theorem Z8n{l:List Oper}{id:Nat}(T:World->Prop)(stop:Option Nat)(hm:P.follows .mixedOrders=true)(h:∀W:World,W.heap=w.heap->Ext [] w W->Zq P .any l.toArray (pQ K Q) T stop l.toArray.size (Array.replicate l.toArray.size false) a W): (Code.region id l.toArray true).wp P Q a w:=
 Code.wp_mono (λe a w h=>by cases e<;>first | exact h | exact h a (λ_ _=>rfl) rfl rfl) (Z7r T stop hm h)
theorem Z4n{d: Nat}{v:Value}(h:K<=d): ∀c a w,pQ K Q (.panic c) (a.put (some d) v) w->pQ K Q (.panic c) a w:=λc a w q a2 h1 h2 h3 =>
 q a2 (λk hk=>by
  rw[h1 k hk];show a.tmps.getD k undef=(a.tmps.setIfInBounds d v).getD k undef;rw[Y6,Y6,Yq (by omega)]) (by rw[h2];show _=(a.tmps.setIfInBounds d v).size;rw[Array.size_setIfInBounds]) h3
theorem Zz{w0: World}{fn:Func}{R:Ending->World->Prop}{K4:Act->World->Prop}{n7:Nat}{er:Int}{L:List (Nat×Value)}(F:Has 22 [Z0g n7] a L)(q7:w.heap[n7]?=some (.cells #[.int .i64 0] 30 (0,0)))(E:Ext [] w0 w)(hn:w0.heap.size<=n7)(hR:∀w',Ext [] w0 w'->R (.returned (.tuple #[.slice none 0 0,.int .i64 er])) w')(hres:fn.results=#[.tmp 6,.cell 7 30]:=by rfl)(h6:L.lookup 6=some (.slice none 0 0):=by rfl)(h7:L.lookup 7=some (pt n7):=by rfl): pQ 13 (Exit.then K4 (bodyPostM Fence.wide 9 (Qy.prog μ) fn R)) (.panic [fltV er]) a w:=by
 refine λa2 hk hs hd=>?_;have g6:a2.tmps.getD 6 undef = .slice none 0 0:=(hk 6 (by decide)).trans (F.get 6 _ h6);have g7:a2.tmps.getD 7 undef=pt n7:=(hk 7 (by decide)).trans (F.get 7 _ h7);have F2:Has 22 [Z0g n7] a2 [(6,.slice none 0 0),(7,pt n7)]:=⟨hd.trans F.ds,hs.trans F.sz,λk u e=>by
  simp only[Yp,List.lookup_nil]at e
  repeat' split at e
  all_goals first | (cases e;done) | (rename_i q;rw[beq_iff_eq]at q;subst q;obtain rfl:=Y1 e;assumption)⟩
 refine Ziz F2 ?_;refine Z9h q7 λw9 hw=>?_;replace q7:=ZG hw q7 (by simp only[List.setIfInBounds_toArray,lsQ,lzQ];exact rfl);replace E:=ece E hw;exact Z0R (Z4w F2 hres rfl rfl Qy.underlying30 rfl q7) (hR _ E)
theorem Zjn(x:Vm)(hv:VOk x)(l l':List Int)(hl:RcpOk x l)(hl1:l'.length<=1000)(he:rcpE x l'≠0)(a1 a2:Option Addr)(c1 c2:Nat)(w:World)(h:x.At w)(hr:Z8 w (.slice a1 l.length c1) 1 (l.map Z7))(hr':Z8 w (.slice a2 l'.length c2) 1 (l'.map Z7))
  (fa:Act) (F:Has 22 [] fa [(0,x.val),(1,.slice a1 l.length c1),(2,.slice a2 l'.length c2)]):cAli.wp (Qy.prog 1) (bodyPostM Fence.wide 9 (Qy.prog 1) Tryz.f15 λe w'=>e = .returned (.tuple #[.slice none 0 0,.int .i64 (rcpE x l')])/\Ext [] w w') fa w:=by
 have E:Ext [] w w:=Ext.refl _ _;have HX:=Lib.hid h;have HV:=Lib.hid hv;have HR:=Lib.hid hr;have HR':=Lib.hid hr';have HL:=Lib.hid hl;clear h hv hr hr' hl;obtain⟨er,her⟩:∃er,er=rcpE x l':=⟨_,rfl⟩;unfold Vm.val at F;refine wS λK1 hK1=>?_;refine Yg ?_;refine sqN F (Z1B rfl (F.at rfl)) λfa w1 F hw=>?_;obtain⟨n3,hn⟩:=eQ w.heap.size;rw[<-hn]at F;have s3:=sQ hn;have l3_E:=lQ hn E.size;replace E:=Z2 E hw;have q3:=Zf hw hn;clear hw hn;refine F.vl (ZC rfl (ev_c fa _)) λfa F=>?_;refine sqN F (Ze rfl Qy.zeroValue30) λfa w2 F hw=>?_;obtain⟨n7,hn⟩:=eQ w1.heap.size;rw[<-hn]at F;have s7:=sQ hn;have l7_E:=lQ hn E.size;have m7_3:=tQ hn (Z3 q3);replace q3:=Z0 hw q3;replace E:=Z2 E hw;have q7:=Z09 hw rfl hn;clear hw hn;refine wN<|hK1 _ _<|wS λK2 hK2=>?_
 refine Yg ?_;refine Z2W F rfl rfl (Z40 rfl rfl (mpS (F.at rfl) mp0)) λfa F=>?_;refine wN<|hK2 _ _<|wS λK3 hK3=>?_
 refine Yg ?_;refine F.vl (Zc rfl (F.at rfl) Qy.underlying27 rfl (by kernel_rfl) q3) λfa F=>?_;refine sqC F (Za rfl rfl Qy.call64 (mpS (F.at rfl) mp0)) (ZZ (μ:=1) x HV.out _ (HX.out.ext E)) λe w3 hR=>?_;obtain⟨rfl,e9⟩:=hR;refine⟨_,rfl,λfa F=>?_⟩;replace q3:=(e9).keep0 q3;replace q7:=(e9).keep0 q7;replace E:=Z4 E (e9);clear e9;refine sqN F (Ze rfl Qy.zeroValue85) λfa w4 F hw=>?_;obtain⟨n8,hn⟩:=eQ w3.heap.size;rw[<-hn]at F;have s8:=sQ hn;have l8_E:=lQ hn E.size;have m8_3:=tQ hn (Z3 q3);have m8_7:=tQ hn (Z3 q7);replace q3:=Z0 hw q3;replace q7:=Z0 hw q7;replace E:=Z2 E hw;have q8:=Zf hw hn;clear hw hn;refine Z0T rfl rfl (ZW rfl (F.at rfl) (F.at rfl) (by kernel_rfl) (by first | (simp[Value.oneCell'];done) | (simp[Value.oneCell',id];done)) q8 rfl) ?_;intro w5 hw;replace q3:=kcs hw q3;replace q7:=kcs hw q7;replace q8:=Z0I hw q8 rfl;replace E:=ecs E hw;clear hw;refine wN<|hK3 _ _<|wS λK4 hK4=>?_
 refine Z8n (K:=13) (Ext [] w5) none follows λw6 hh eh=>?_;have q7_:=q7;replace q7:=Zt hh q7;have q8_:=q8;replace q8:=Zt hh q8;have E_:=E;have zEw6:=E.size;replace E:=Z4 E eh;have eT:=eh;clear hh eh;refine F.xr (i:=0) rfl (λw' hS=>Zc rfl (F.at rfl) Qy.underlying85 rfl (by kernel_rfl) (hS.keep q8_ (by simp))) (λ_=>eT) ?_ (hQ:=Z4n (by decide));clear F fa;intro fa F;refine F.x (i:=1) rfl (λw'=>Z0E rfl (F.at rfl)) (λ_=>eT) ?_ (hQ:=Z4n (by decide));clear F fa;intro fa F;refine F.xr (i:=3) rfl (λw' hS=>Zc rfl (F.at rfl) Qy.underlying85 rfl (by kernel_rfl) (hS.keep q8_ (by simp))) (λ_=>eT) ?_ (hQ:=Z4n (by decide));clear F fa;intro fa F;refine F.x (i:=4) rfl (λw'=>Z0E rfl (F.at rfl)) (λ_=>eT) ?_ (hQ:=Z4n (by decide));clear F fa;intro fa F;refine Z1t (i:=2) (j:=6) (k:=7) (by kernel_rfl) ?_ ?_ ?_
 ·skip
  refine(Z0C F rfl rfl (by decide) rfl (Za rfl rfl Qy.call65 (mpS (F.at rfl) (mpS (F.at rfl) mp0))) (Z9 (μ:=1) x HV.out l HL.out a1 c1 _ (HR.out.ext E (by simp))) λe w7 hR=>?_);obtain⟨rfl,e9⟩:=hR;refine⟨_,rfl,λfa F=>?_⟩;replace q7:=(e9).keep0 q7;replace E:=Z4 E (e9);replace eT:=Z4 eT (e9);clear e9;refine⟨λ_=>eT,?_⟩;refine Z1t (i:=5) (j:=6) (k:=7) (by kernel_rfl) ?_ ?_ ?_
  ·skip
   refine(Zy rfl rfl (Za rfl rfl Qy.call65 (mpS (F.at rfl) (mpS (F.at rfl) mp0))) ((Zh (μ:=1) x HV.out l' hl1 he a2 c2 _ (HR'.out.ext E (by simp)))) λe w8 hR=>?_);obtain⟨rfl,e9⟩:=hR;refine⟨_,rfl,?_⟩;replace q7:=(e9).keep0 q7;replace E:=Z4 E (e9);replace eT:=Z4 eT (e9);exact Zz F q7 E (by omega) λw' e=>⟨rfl,e⟩
  ·skip
   refine(Z06 F rfl rfl (by decide) rfl (Ze rfl Qy.zeroValue88) ?_);clear F fa;intro fa w9 F hw;obtain⟨n9,hn⟩:=eQ w7.heap.size;rw[<-hn]at F;have s9:=sQ hn;have l9_E:=lQ hn E.size;have lT9:=lQ hn eT.size;have m9_7:=tQ hn (Z3 q7);replace q7:=Z0 hw q7;replace E:=Z2 E hw;replace eT:=Z2 eT hw;have q9:=Zf hw hn;clear hw hn;refine⟨λ_=>eT,?_⟩;refine ZD (i:=5) (j:=7) (by kernel_rfl) ?_ ?_
   ·skip
    refine(Zy rfl rfl (Za rfl rfl Qy.call65 (mpS (F.at rfl) (mpS (F.at rfl) mp0))) ((Zh (μ:=1) x HV.out l' hl1 he a2 c2 _ (HR'.out.ext E (by simp)))) λe w10 hR=>?_);obtain⟨rfl,e9⟩:=hR;refine⟨_,rfl,?_⟩;replace q7:=(e9).keep0 q7;replace E:=Z4 E (e9);replace eT:=Z4 eT (e9);exact Zz F q7 E (by omega) λw' e=>⟨rfl,e⟩
   ·skip
    refine(Z06 F rfl rfl (by decide) rfl (Ze rfl Qy.zeroValue88) ?_);clear F fa;intro fa w11 F hw;obtain⟨n10,hn⟩:=eQ w9.heap.size;rw[<-hn]at F;have s10:=sQ hn;have l10_E:=lQ hn E.size;have lT10:=lQ hn eT.size;have m10_7:=tQ hn (Z3 q7);replace q7:=Z0 hw q7;replace E:=Z2 E hw;replace eT:=Z2 eT hw;have q10:=Zf hw hn;clear hw hn;refine⟨λ_=>eT,?_⟩;refine ZN (i:=5) (by kernel_rfl) (Zy rfl rfl (Za rfl rfl Qy.call65 (mpS (F.at rfl) (mpS (F.at rfl) mp0))) ((Zh (μ:=1) x HV.out l' hl1 he a2 c2 _ (HR'.out.ext E (by simp)))) λe w12 hR=>?_);obtain⟨rfl,e9⟩:=hR;refine⟨_,rfl,?_⟩;replace q7:=(e9).keep0 q7;replace E:=Z4 E (e9);replace eT:=Z4 eT (e9);exact Zz F q7 E (by omega) λw' e=>⟨rfl,e⟩
  ·skip
   refine(Z06 F rfl rfl (by decide) rfl (Ze rfl Qy.zeroValue88) ?_);clear F fa;intro fa w13 F hw;obtain⟨n10,hn⟩:=eQ w7.heap.size;rw[<-hn]at F;have s10:=sQ hn;have l10_E:=lQ hn E.size;have lT10:=lQ hn eT.size;have m10_7:=tQ hn (Z3 q7);replace q7:=Z0 hw q7;replace E:=Z2 E hw;replace eT:=Z2 eT hw;have q10:=Zf hw hn;clear hw hn;refine⟨λ_=>eT,?_⟩;refine ZD (i:=5) (j:=6) (by kernel_rfl) ?_ ?_
   ·skip
    refine(Zy rfl rfl (Za rfl rfl Qy.call65 (mpS (F.at rfl) (mpS (F.at rfl) mp0))) ((Zh (μ:=1) x HV.out l' hl1 he a2 c2 _ (HR'.out.ext E (by simp)))) λe w14 hR=>?_);obtain⟨rfl,e9⟩:=hR;refine⟨_,rfl,?_⟩;replace q7:=(e9).keep0 q7;replace E:=Z4 E (e9);replace eT:=Z4 eT (e9);exact Zz F q7 E (by omega) λw' e=>⟨rfl,e⟩
   ·skip
    refine(Z06 F rfl rfl (by decide) rfl (Ze rfl Qy.zeroValue88) ?_);clear F fa;intro fa w15 F hw;obtain⟨n9,hn⟩:=eQ w13.heap.size;rw[<-hn]at F;have s9:=sQ hn;have l9_E:=lQ hn E.size;have lT9:=lQ hn eT.size;have m9_7:=tQ hn (Z3 q7);replace q7:=Z0 hw q7;replace E:=Z2 E hw;replace eT:=Z2 eT hw;have q9:=Zf hw hn;clear hw hn;refine⟨λ_=>eT,?_⟩;refine ZN (i:=5) (by kernel_rfl) (Zy rfl rfl (Za rfl rfl Qy.call65 (mpS (F.at rfl) (mpS (F.at rfl) mp0))) ((Zh (μ:=1) x HV.out l' hl1 he a2 c2 _ (HR'.out.ext E (by simp)))) λe w16 hR=>?_);obtain⟨rfl,e9⟩:=hR;refine⟨_,rfl,?_⟩;replace q7:=(e9).keep0 q7;replace E:=Z4 E (e9);replace eT:=Z4 eT (e9);exact Zz F q7 E (by omega) λw' e=>⟨rfl,e⟩
 ·skip
  refine(Z06 F rfl rfl (by decide) rfl (Ze rfl Qy.zeroValue88) ?_);clear F fa;intro fa w17 F hw;obtain⟨n9,hn⟩:=eQ w6.heap.size;rw[<-hn]at F;have s9:=sQ hn;have l9_E:=lQ hn E.size;have lT9:=lQ hn eT.size;have m9_7:=tQ hn (Z3 q7);replace q7:=Z0 hw q7;replace E:=Z2 E hw;replace eT:=Z2 eT hw;have q9:=Zf hw hn;clear hw hn;refine⟨λ_=>eT,?_⟩;refine ZD (i:=2) (j:=7) (by kernel_rfl) ?_ ?_
  ·skip
   refine(Z0C F rfl rfl (by decide) rfl (Za rfl rfl Qy.call65 (mpS (F.at rfl) (mpS (F.at rfl) mp0))) (Z9 (μ:=1) x HV.out l HL.out a1 c1 _ (HR.out.ext E (by simp))) λe w18 hR=>?_);obtain⟨rfl,e9⟩:=hR;refine⟨_,rfl,λfa F=>?_⟩;replace q7:=(e9).keep0 q7;replace E:=Z4 E (e9);replace eT:=Z4 eT (e9);clear e9;refine⟨λ_=>eT,?_⟩;refine ZD (i:=5) (j:=7) (by kernel_rfl) ?_ ?_
   ·skip
    refine(Zy rfl rfl (Za rfl rfl Qy.call65 (mpS (F.at rfl) (mpS (F.at rfl) mp0))) ((Zh (μ:=1) x HV.out l' hl1 he a2 c2 _ (HR'.out.ext E (by simp)))) λe w19 hR=>?_);obtain⟨rfl,e9⟩:=hR;refine⟨_,rfl,?_⟩;replace q7:=(e9).keep0 q7;replace E:=Z4 E (e9);replace eT:=Z4 eT (e9);exact Zz F q7 E (by omega) λw' e=>⟨rfl,e⟩
   ·skip
    refine(Z06 F rfl rfl (by decide) rfl (Ze rfl Qy.zeroValue88) ?_);clear F fa;intro fa w20 F hw;obtain⟨n10,hn⟩:=eQ w18.heap.size;rw[<-hn]at F;have s10:=sQ hn;have l10_E:=lQ hn E.size;have lT10:=lQ hn eT.size;have m10_7:=tQ hn (Z3 q7);replace q7:=Z0 hw q7;replace E:=Z2 E hw;replace eT:=Z2 eT hw;have q10:=Zf hw hn;clear hw hn;refine⟨λ_=>eT,?_⟩;refine ZN (i:=5) (by kernel_rfl) (Zy rfl rfl (Za rfl rfl Qy.call65 (mpS (F.at rfl) (mpS (F.at rfl) mp0))) ((Zh (μ:=1) x HV.out l' hl1 he a2 c2 _ (HR'.out.ext E (by simp)))) λe w21 hR=>?_);obtain⟨rfl,e9⟩:=hR;refine⟨_,rfl,?_⟩;replace q7:=(e9).keep0 q7;replace E:=Z4 E (e9);replace eT:=Z4 eT (e9);exact Zz F q7 E (by omega) λw' e=>⟨rfl,e⟩
  ·skip
   refine(Z06 F rfl rfl (by decide) rfl (Ze rfl Qy.zeroValue88) ?_);clear F fa;intro fa w22 F hw;obtain⟨n10,hn⟩:=eQ w17.heap.size;rw[<-hn]at F;have s10:=sQ hn;have l10_E:=lQ hn E.size;have lT10:=lQ hn eT.size;have m10_7:=tQ hn (Z3 q7);replace q7:=Z0 hw q7;replace E:=Z2 E hw;replace eT:=Z2 eT hw;have q10:=Zf hw hn;clear hw hn;refine⟨λ_=>eT,?_⟩;refine ZN (i:=2) (by kernel_rfl) (Z0C F rfl rfl (by decide) rfl (Za rfl rfl Qy.call65 (mpS (F.at rfl) (mpS (F.at rfl) mp0))) (Z9 (μ:=1) x HV.out l HL.out a1 c1 _ (HR.out.ext E (by simp))) λe w23 hR=>?_);obtain⟨rfl,e9⟩:=hR;refine⟨_,rfl,λfa F=>?_⟩;replace q7:=(e9).keep0 q7;replace E:=Z4 E (e9);replace eT:=Z4 eT (e9);clear e9;refine⟨λ_=>eT,?_⟩;refine ZN (i:=5) (by kernel_rfl) (Zy rfl rfl (Za rfl rfl Qy.call65 (mpS (F.at rfl) (mpS (F.at rfl) mp0))) ((Zh (μ:=1) x HV.out l' hl1 he a2 c2 _ (HR'.out.ext E (by simp)))) λe w24 hR=>?_);obtain⟨rfl,e9⟩:=hR;refine⟨_,rfl,?_⟩;replace q7:=(e9).keep0 q7;replace E:=Z4 E (e9);replace eT:=Z4 eT (e9);exact Zz F q7 E (by omega) λw' e=>⟨rfl,e⟩
 ·skip
  refine(Z06 F rfl rfl (by decide) rfl (Ze rfl Qy.zeroValue88) ?_);clear F fa;intro fa w25 F hw;obtain⟨n10,hn⟩:=eQ w6.heap.size;rw[<-hn]at F;have s10:=sQ hn;have l10_E:=lQ hn E.size;have lT10:=lQ hn eT.size;have m10_7:=tQ hn (Z3 q7);replace q7:=Z0 hw q7;replace E:=Z2 E hw;replace eT:=Z2 eT hw;have q10:=Zf hw hn;clear hw hn;refine⟨λ_=>eT,?_⟩;refine ZD (i:=2) (j:=6) (by kernel_rfl) ?_ ?_
  ·skip
   refine(Z0C F rfl rfl (by decide) rfl (Za rfl rfl Qy.call65 (mpS (F.at rfl) (mpS (F.at rfl) mp0))) (Z9 (μ:=1) x HV.out l HL.out a1 c1 _ (HR.out.ext E (by simp))) λe w26 hR=>?_);obtain⟨rfl,e9⟩:=hR;refine⟨_,rfl,λfa F=>?_⟩;replace q7:=(e9).keep0 q7;replace E:=Z4 E (e9);replace eT:=Z4 eT (e9);clear e9;refine⟨λ_=>eT,?_⟩;refine ZD (i:=5) (j:=6) (by kernel_rfl) ?_ ?_
   ·skip
    refine(Zy rfl rfl (Za rfl rfl Qy.call65 (mpS (F.at rfl) (mpS (F.at rfl) mp0))) ((Zh (μ:=1) x HV.out l' hl1 he a2 c2 _ (HR'.out.ext E (by simp)))) λe w27 hR=>?_);obtain⟨rfl,e9⟩:=hR;refine⟨_,rfl,?_⟩;replace q7:=(e9).keep0 q7;replace E:=Z4 E (e9);replace eT:=Z4 eT (e9);exact Zz F q7 E (by omega) λw' e=>⟨rfl,e⟩
   ·skip
    refine(Z06 F rfl rfl (by decide) rfl (Ze rfl Qy.zeroValue88) ?_);clear F fa;intro fa w28 F hw;obtain⟨n9,hn⟩:=eQ w26.heap.size;rw[<-hn]at F;have s9:=sQ hn;have l9_E:=lQ hn E.size;have lT9:=lQ hn eT.size;have m9_7:=tQ hn (Z3 q7);replace q7:=Z0 hw q7;replace E:=Z2 E hw;replace eT:=Z2 eT hw;have q9:=Zf hw hn;clear hw hn;refine⟨λ_=>eT,?_⟩;refine ZN (i:=5) (by kernel_rfl) (Zy rfl rfl (Za rfl rfl Qy.call65 (mpS (F.at rfl) (mpS (F.at rfl) mp0))) ((Zh (μ:=1) x HV.out l' hl1 he a2 c2 _ (HR'.out.ext E (by simp)))) λe w29 hR=>?_);obtain⟨rfl,e9⟩:=hR;refine⟨_,rfl,?_⟩;replace q7:=(e9).keep0 q7;replace E:=Z4 E (e9);replace eT:=Z4 eT (e9);exact Zz F q7 E (by omega) λw' e=>⟨rfl,e⟩
  ·skip
   refine(Z06 F rfl rfl (by decide) rfl (Ze rfl Qy.zeroValue88) ?_);clear F fa;intro fa w30 F hw;obtain⟨n9,hn⟩:=eQ w25.heap.size;rw[<-hn]at F;have s9:=sQ hn;have l9_E:=lQ hn E.size;have lT9:=lQ hn eT.size;have m9_7:=tQ hn (Z3 q7);replace q7:=Z0 hw q7;replace E:=Z2 E hw;replace eT:=Z2 eT hw;have q9:=Zf hw hn;clear hw hn;refine⟨λ_=>eT,?_⟩;refine ZN (i:=2) (by kernel_rfl) (Z0C F rfl rfl (by decide) rfl (Za rfl rfl Qy.call65 (mpS (F.at rfl) (mpS (F.at rfl) mp0))) (Z9 (μ:=1) x HV.out l HL.out a1 c1 _ (HR.out.ext E (by simp))) λe w31 hR=>?_);obtain⟨rfl,e9⟩:=hR;refine⟨_,rfl,λfa F=>?_⟩;replace q7:=(e9).keep0 q7;replace E:=Z4 E (e9);replace eT:=Z4 eT (e9);clear e9;refine⟨λ_=>eT,?_⟩;refine ZN (i:=5) (by kernel_rfl) (Zy rfl rfl (Za rfl rfl Qy.call65 (mpS (F.at rfl) (mpS (F.at rfl) mp0))) ((Zh (μ:=1) x HV.out l' hl1 he a2 c2 _ (HR'.out.ext E (by simp)))) λe w32 hR=>?_);obtain⟨rfl,e9⟩:=hR;refine⟨_,rfl,?_⟩;replace q7:=(e9).keep0 q7;replace E:=Z4 E (e9);replace eT:=Z4 eT (e9);exact Zz F q7 E (by omega) λw' e=>⟨rfl,e⟩
variable{μ:Nat}
theorem Zex(x:Vm)(hv:VOk x)(l l':List Int)(hl:RcpOk x l)(hl1:l'.length<=1000)(he:rcpE x l'≠0)(a1 a2:Option Addr)(c1 c2:Nat)(w:World)(h:x.At w)(hr:Z8 w (.slice a1 l.length c1) 1 (l.map Z7))(hr':Z8 w (.slice a2 l'.length c2) 1 (l'.map Z7)):
  Calls (Qy.prog 0) 186 #[.agg #[.int .i64 x.B,.slice x.da x.D.length x.dc,.slice x.la x.L.length x.lc,.int .i64 x.tol],.slice a1 l.length c1,.slice a2 l'.length c2] w λe w'=>e = .returned (.tuple #[.slice none 0 0,.int .i64 (rcpE x l')])/\Ext [] w w':=by
 have E:Ext [] w w:=Ext.refl _ _;have HX:=Lib.hid h;have HV:=Lib.hid hv;have HR:=Lib.hid hr;have HR':=Lib.hid hr';have HL:=Lib.hid hl;clear h hv hr hr' hl;obtain⟨er,her⟩:∃er,er=rcpE x l':=⟨_,rfl⟩;refine Z1M 22 Qy.func186 rfl Tryz.ntmps15 (Nat.le_of_ble_eq_true rfl) ?_;intro fa F;refine wS λK1 hK1=>?_;refine Yg ?_;refine sqN F (Z1B rfl (F.at rfl)) λfa w1 F hw=>?_;obtain⟨n3,hn⟩:=eQ w.heap.size;rw[<-hn]at F;have s3:=sQ hn;have l3_E:=lQ hn E.size;replace E:=Z2 E hw;have q3:=Zf hw hn;clear hw hn;refine F.vl (ZC rfl (ev_c fa _)) λfa F=>?_;refine sqN F (Ze rfl Qy.zeroValue30) λfa w2 F hw=>?_;obtain⟨n7,hn⟩:=eQ w1.heap.size;rw[<-hn]at F;have s7:=sQ hn;have l7_E:=lQ hn E.size;have m7_3:=tQ hn (Z3 q3);replace q3:=Z0 hw q3;replace E:=Z2 E hw;have q7:=Z09 hw rfl hn;clear hw hn;refine wN<|hK1 _ _<|wS λK2 hK2=>?_
 refine Yg ?_;refine Z2W F rfl rfl (Z40 rfl rfl (mpS (F.at rfl) mp0)) λfa F=>?_;refine wN<|hK2 _ _<|wS λK3 hK3=>?_
 refine Yg ?_;refine F.vl (Zc rfl (F.at rfl) Qy.underlying27 rfl (by kernel_rfl) q3) λfa F=>?_;refine sqC F (Za rfl rfl Qy.call64 (mpS (F.at rfl) mp0)) (ZZ (μ:=0) x HV.out _ (HX.out.ext E)) λe w3 hR=>?_;obtain⟨rfl,e9⟩:=hR;refine⟨_,rfl,λfa F=>?_⟩;replace q3:=(e9).keep0 q3;replace q7:=(e9).keep0 q7;replace E:=Z4 E (e9);clear e9;refine sqN F (Ze rfl Qy.zeroValue85) λfa w4 F hw=>?_;obtain⟨n8,hn⟩:=eQ w3.heap.size;rw[<-hn]at F;have s8:=sQ hn;have l8_E:=lQ hn E.size;have m8_3:=tQ hn (Z3 q3);have m8_7:=tQ hn (Z3 q7);replace q3:=Z0 hw q3;replace q7:=Z0 hw q7;replace E:=Z2 E hw;have q8:=Zf hw hn;clear hw hn;refine Z0T rfl rfl (ZW rfl (F.at rfl) (F.at rfl) (by kernel_rfl) (by first | (simp[Value.oneCell'];done) | (simp[Value.oneCell',id];done)) q8 rfl) ?_;intro w5 hw;replace q3:=kcs hw q3;replace q7:=kcs hw q7;replace q8:=Z0I hw q8 rfl;replace E:=ecs E hw;clear hw;refine wN<|hK3 _ _<|wS λK4 hK4=>?_
 refine Z8n (K:=13) (Ext [] w5) none follows λw6 hh eh=>?_;have q7_:=q7;replace q7:=Zt hh q7;have q8_:=q8;replace q8:=Zt hh q8;have E_:=E;have zEw6:=E.size;replace E:=Z4 E eh;have eT:=eh;clear hh eh;refine F.xr (i:=0) rfl (λw' hS=>Zc rfl (F.at rfl) Qy.underlying85 rfl (by kernel_rfl) (hS.keep q8_ (by simp))) (λ_=>eT) ?_ (hQ:=Z4n (by decide));clear F fa;intro fa F;refine F.x (i:=1) rfl (λw'=>Z0E rfl (F.at rfl)) (λ_=>eT) ?_ (hQ:=Z4n (by decide));clear F fa;intro fa F;refine F.xr (i:=3) rfl (λw' hS=>Zc rfl (F.at rfl) Qy.underlying85 rfl (by kernel_rfl) (hS.keep q8_ (by simp))) (λ_=>eT) ?_ (hQ:=Z4n (by decide));clear F fa;intro fa F;refine F.x (i:=4) rfl (λw'=>Z0E rfl (F.at rfl)) (λ_=>eT) ?_ (hQ:=Z4n (by decide));clear F fa;intro fa F;refine Z1t (i:=2) (j:=6) (k:=7) (by kernel_rfl) ?_ ?_ ?_
 ·skip
  refine(Z0C F rfl rfl (by decide) rfl (Za rfl rfl Qy.call65 (mpS (F.at rfl) (mpS (F.at rfl) mp0))) (Z9 (μ:=0) x HV.out l HL.out a1 c1 _ (HR.out.ext E (by simp))) λe w7 hR=>?_);obtain⟨rfl,e9⟩:=hR;refine⟨_,rfl,λfa F=>?_⟩;replace q7:=(e9).keep0 q7;replace E:=Z4 E (e9);replace eT:=Z4 eT (e9);clear e9;refine⟨λ_=>eT,?_⟩;refine Z1t (i:=5) (j:=6) (k:=7) (by kernel_rfl) ?_ ?_ ?_
  ·skip
   refine(Zy rfl rfl (Za rfl rfl Qy.call65 (mpS (F.at rfl) (mpS (F.at rfl) mp0))) ((Zh (μ:=0) x HV.out l' hl1 he a2 c2 _ (HR'.out.ext E (by simp)))) λe w8 hR=>?_);obtain⟨rfl,e9⟩:=hR;refine⟨_,rfl,?_⟩;replace q7:=(e9).keep0 q7;replace E:=Z4 E (e9);replace eT:=Z4 eT (e9);exact Zz F q7 E (by omega) λw' e=>⟨rfl,e⟩
  ·skip
   refine(Z06 F rfl rfl (by decide) rfl (Ze rfl Qy.zeroValue88) ?_);clear F fa;intro fa w9 F hw;obtain⟨n9,hn⟩:=eQ w7.heap.size;rw[<-hn]at F;have s9:=sQ hn;have l9_E:=lQ hn E.size;have lT9:=lQ hn eT.size;have m9_7:=tQ hn (Z3 q7);replace q7:=Z0 hw q7;replace E:=Z2 E hw;replace eT:=Z2 eT hw;have q9:=Zf hw hn;clear hw hn;refine⟨λ_=>eT,?_⟩;refine ZD (i:=5) (j:=7) (by kernel_rfl) ?_ ?_
   ·skip
    refine(Zy rfl rfl (Za rfl rfl Qy.call65 (mpS (F.at rfl) (mpS (F.at rfl) mp0))) ((Zh (μ:=0) x HV.out l' hl1 he a2 c2 _ (HR'.out.ext E (by simp)))) λe w10 hR=>?_);obtain⟨rfl,e9⟩:=hR;refine⟨_,rfl,?_⟩;replace q7:=(e9).keep0 q7;replace E:=Z4 E (e9);replace eT:=Z4 eT (e9);exact Zz F q7 E (by omega) λw' e=>⟨rfl,e⟩
   ·skip
    refine(Z06 F rfl rfl (by decide) rfl (Ze rfl Qy.zeroValue88) ?_);clear F fa;intro fa w11 F hw;obtain⟨n10,hn⟩:=eQ w9.heap.size;rw[<-hn]at F;have s10:=sQ hn;have l10_E:=lQ hn E.size;have lT10:=lQ hn eT.size;have m10_7:=tQ hn (Z3 q7);replace q7:=Z0 hw q7;replace E:=Z2 E hw;replace eT:=Z2 eT hw;have q10:=Zf hw hn;clear hw hn;refine⟨λ_=>eT,?_⟩;refine ZN (i:=5) (by kernel_rfl) (Zy rfl rfl (Za rfl rfl Qy.call65 (mpS (F.at rfl) (mpS (F.at rfl) mp0))) ((Zh (μ:=0) x HV.out l' hl1 he a2 c2 _ (HR'.out.ext E (by simp)))) λe w12 hR=>?_);obtain⟨rfl,e9⟩:=hR;refine⟨_,rfl,?_⟩;replace q7:=(e9).keep0 q7;replace E:=Z4 E (e9);replace eT:=Z4 eT (e9);exact Zz F q7 E (by omega) λw' e=>⟨rfl,e⟩
  ·skip
   refine(Z06 F rfl rfl (by decide) rfl (Ze rfl Qy.zeroValue88) ?_);clear F fa;intro fa w13 F hw;obtain⟨n10,hn⟩:=eQ w7.heap.size;rw[<-hn]at F;have s10:=sQ hn;have l10_E:=lQ hn E.size;have lT10:=lQ hn eT.size;have m10_7:=tQ hn (Z3 q7);replace q7:=Z0 hw q7;replace E:=Z2 E hw;replace eT:=Z2 eT hw;have q10:=Zf hw hn;clear hw hn;refine⟨λ_=>eT,?_⟩;refine ZD (i:=5) (j:=6) (by kernel_rfl) ?_ ?_
   ·skip
    refine(Zy rfl rfl (Za rfl rfl Qy.call65 (mpS (F.at rfl) (mpS (F.at rfl) mp0))) ((Zh (μ:=0) x HV.out l' hl1 he a2 c2 _ (HR'.out.ext E (by simp)))) λe w14 hR=>?_);obtain⟨rfl,e9⟩:=hR;refine⟨_,rfl,?_⟩;replace q7:=(e9).keep0 q7;replace E:=Z4 E (e9);replace eT:=Z4 eT (e9);exact Zz F q7 E (by omega) λw' e=>⟨rfl,e⟩
   ·skip
    refine(Z06 F rfl rfl (by decide) rfl (Ze rfl Qy.zeroValue88) ?_);clear F fa;intro fa w15 F hw;obtain⟨n9,hn⟩:=eQ w13.heap.size;rw[<-hn]at F;have s9:=sQ hn;have l9_E:=lQ hn E.size;have lT9:=lQ hn eT.size;have m9_7:=tQ hn (Z3 q7);replace q7:=Z0 hw q7;replace E:=Z2 E hw;replace eT:=Z2 eT hw;have q9:=Zf hw hn;clear hw hn;refine⟨λ_=>eT,?_⟩;refine ZN (i:=5) (by kernel_rfl) (Zy rfl rfl (Za rfl rfl Qy.call65 (mpS (F.at rfl) (mpS (F.at rfl) mp0))) ((Zh (μ:=0) x HV.out l' hl1 he a2 c2 _ (HR'.out.ext E (by simp)))) λe w16 hR=>?_);obtain⟨rfl,e9⟩:=hR;refine⟨_,rfl,?_⟩;replace q7:=(e9).keep0 q7;replace E:=Z4 E (e9);replace eT:=Z4 eT (e9);exact Zz F q7 E (by omega) λw' e=>⟨rfl,e⟩
 ·skip
  refine(Z06 F rfl rfl (by decide) rfl (Ze rfl Qy.zeroValue88) ?_);clear F fa;intro fa w17 F hw;obtain⟨n9,hn⟩:=eQ w6.heap.size;rw[<-hn]at F;have s9:=sQ hn;have l9_E:=lQ hn E.size;have lT9:=lQ hn eT.size;have m9_7:=tQ hn (Z3 q7);replace q7:=Z0 hw q7;replace E:=Z2 E hw;replace eT:=Z2 eT hw;have q9:=Zf hw hn;clear hw hn;refine⟨λ_=>eT,?_⟩;refine ZD (i:=2) (j:=7) (by kernel_rfl) ?_ ?_
  ·skip
   refine(Z0C F rfl rfl (by decide) rfl (Za rfl rfl Qy.call65 (mpS (F.at rfl) (mpS (F.at rfl) mp0))) (Z9 (μ:=0) x HV.out l HL.out a1 c1 _ (HR.out.ext E (by simp))) λe w18 hR=>?_);obtain⟨rfl,e9⟩:=hR;refine⟨_,rfl,λfa F=>?_⟩;replace q7:=(e9).keep0 q7;replace E:=Z4 E (e9);replace eT:=Z4 eT (e9);clear e9;refine⟨λ_=>eT,?_⟩;refine ZD (i:=5) (j:=7) (by kernel_rfl) ?_ ?_
   ·skip
    refine(Zy rfl rfl (Za rfl rfl Qy.call65 (mpS (F.at rfl) (mpS (F.at rfl) mp0))) ((Zh (μ:=0) x HV.out l' hl1 he a2 c2 _ (HR'.out.ext E (by simp)))) λe w19 hR=>?_);obtain⟨rfl,e9⟩:=hR;refine⟨_,rfl,?_⟩;replace q7:=(e9).keep0 q7;replace E:=Z4 E (e9);replace eT:=Z4 eT (e9);exact Zz F q7 E (by omega) λw' e=>⟨rfl,e⟩
   ·skip
    refine(Z06 F rfl rfl (by decide) rfl (Ze rfl Qy.zeroValue88) ?_);clear F fa;intro fa w20 F hw;obtain⟨n10,hn⟩:=eQ w18.heap.size;rw[<-hn]at F;have s10:=sQ hn;have l10_E:=lQ hn E.size;have lT10:=lQ hn eT.size;have m10_7:=tQ hn (Z3 q7);replace q7:=Z0 hw q7;replace E:=Z2 E hw;replace eT:=Z2 eT hw;have q10:=Zf hw hn;clear hw hn;refine⟨λ_=>eT,?_⟩;refine ZN (i:=5) (by kernel_rfl) (Zy rfl rfl (Za rfl rfl Qy.call65 (mpS (F.at rfl) (mpS (F.at rfl) mp0))) ((Zh (μ:=0) x HV.out l' hl1 he a2 c2 _ (HR'.out.ext E (by simp)))) λe w21 hR=>?_);obtain⟨rfl,e9⟩:=hR;refine⟨_,rfl,?_⟩;replace q7:=(e9).keep0 q7;replace E:=Z4 E (e9);replace eT:=Z4 eT (e9);exact Zz F q7 E (by omega) λw' e=>⟨rfl,e⟩
  ·skip
   refine(Z06 F rfl rfl (by decide) rfl (Ze rfl Qy.zeroValue88) ?_);clear F fa;intro fa w22 F hw;obtain⟨n10,hn⟩:=eQ w17.heap.size;rw[<-hn]at F;have s10:=sQ hn;have l10_E:=lQ hn E.size;have lT10:=lQ hn eT.size;have m10_7:=tQ hn (Z3 q7);replace q7:=Z0 hw q7;replace E:=Z2 E hw;replace eT:=Z2 eT hw;have q10:=Zf hw hn;clear hw hn;refine⟨λ_=>eT,?_⟩;refine ZN (i:=2) (by kernel_rfl) (Z0C F rfl rfl (by decide) rfl (Za rfl rfl Qy.call65 (mpS (F.at rfl) (mpS (F.at rfl) mp0))) (Z9 (μ:=0) x HV.out l HL.out a1 c1 _ (HR.out.ext E (by simp))) λe w23 hR=>?_);obtain⟨rfl,e9⟩:=hR;refine⟨_,rfl,λfa F=>?_⟩;replace q7:=(e9).keep0 q7;replace E:=Z4 E (e9);replace eT:=Z4 eT (e9);clear e9;refine⟨λ_=>eT,?_⟩;refine ZN (i:=5) (by kernel_rfl) (Zy rfl rfl (Za rfl rfl Qy.call65 (mpS (F.at rfl) (mpS (F.at rfl) mp0))) ((Zh (μ:=0) x HV.out l' hl1 he a2 c2 _ (HR'.out.ext E (by simp)))) λe w24 hR=>?_);obtain⟨rfl,e9⟩:=hR;refine⟨_,rfl,?_⟩;replace q7:=(e9).keep0 q7;replace E:=Z4 E (e9);replace eT:=Z4 eT (e9);exact Zz F q7 E (by omega) λw' e=>⟨rfl,e⟩
 ·skip
  refine(Z06 F rfl rfl (by decide) rfl (Ze rfl Qy.zeroValue88) ?_);clear F fa;intro fa w25 F hw;obtain⟨n10,hn⟩:=eQ w6.heap.size;rw[<-hn]at F;have s10:=sQ hn;have l10_E:=lQ hn E.size;have lT10:=lQ hn eT.size;have m10_7:=tQ hn (Z3 q7);replace q7:=Z0 hw q7;replace E:=Z2 E hw;replace eT:=Z2 eT hw;have q10:=Zf hw hn;clear hw hn;refine⟨λ_=>eT,?_⟩;refine ZD (i:=2) (j:=6) (by kernel_rfl) ?_ ?_
  ·skip
   refine(Z0C F rfl rfl (by decide) rfl (Za rfl rfl Qy.call65 (mpS (F.at rfl) (mpS (F.at rfl) mp0))) (Z9 (μ:=0) x HV.out l HL.out a1 c1 _ (HR.out.ext E (by simp))) λe w26 hR=>?_);obtain⟨rfl,e9⟩:=hR;refine⟨_,rfl,λfa F=>?_⟩;replace q7:=(e9).keep0 q7;replace E:=Z4 E (e9);replace eT:=Z4 eT (e9);clear e9;refine⟨λ_=>eT,?_⟩;refine ZD (i:=5) (j:=6) (by kernel_rfl) ?_ ?_
   ·skip
    refine(Zy rfl rfl (Za rfl rfl Qy.call65 (mpS (F.at rfl) (mpS (F.at rfl) mp0))) ((Zh (μ:=0) x HV.out l' hl1 he a2 c2 _ (HR'.out.ext E (by simp)))) λe w27 hR=>?_);obtain⟨rfl,e9⟩:=hR;refine⟨_,rfl,?_⟩;replace q7:=(e9).keep0 q7;replace E:=Z4 E (e9);replace eT:=Z4 eT (e9);exact Zz F q7 E (by omega) λw' e=>⟨rfl,e⟩
   ·skip
    refine(Z06 F rfl rfl (by decide) rfl (Ze rfl Qy.zeroValue88) ?_);clear F fa;intro fa w28 F hw;obtain⟨n9,hn⟩:=eQ w26.heap.size;rw[<-hn]at F;have s9:=sQ hn;have l9_E:=lQ hn E.size;have lT9:=lQ hn eT.size;have m9_7:=tQ hn (Z3 q7);replace q7:=Z0 hw q7;replace E:=Z2 E hw;replace eT:=Z2 eT hw;have q9:=Zf hw hn;clear hw hn;refine⟨λ_=>eT,?_⟩;refine ZN (i:=5) (by kernel_rfl) (Zy rfl rfl (Za rfl rfl Qy.call65 (mpS (F.at rfl) (mpS (F.at rfl) mp0))) ((Zh (μ:=0) x HV.out l' hl1 he a2 c2 _ (HR'.out.ext E (by simp)))) λe w29 hR=>?_);obtain⟨rfl,e9⟩:=hR;refine⟨_,rfl,?_⟩;replace q7:=(e9).keep0 q7;replace E:=Z4 E (e9);replace eT:=Z4 eT (e9);exact Zz F q7 E (by omega) λw' e=>⟨rfl,e⟩
  ·skip
   refine(Z06 F rfl rfl (by decide) rfl (Ze rfl Qy.zeroValue88) ?_);clear F fa;intro fa w30 F hw;obtain⟨n9,hn⟩:=eQ w25.heap.size;rw[<-hn]at F;have s9:=sQ hn;have l9_E:=lQ hn E.size;have lT9:=lQ hn eT.size;have m9_7:=tQ hn (Z3 q7);replace q7:=Z0 hw q7;replace E:=Z2 E hw;replace eT:=Z2 eT hw;have q9:=Zf hw hn;clear hw hn;refine⟨λ_=>eT,?_⟩;refine ZN (i:=2) (by kernel_rfl) (Z0C F rfl rfl (by decide) rfl (Za rfl rfl Qy.call65 (mpS (F.at rfl) (mpS (F.at rfl) mp0))) (Z9 (μ:=0) x HV.out l HL.out a1 c1 _ (HR.out.ext E (by simp))) λe w31 hR=>?_);obtain⟨rfl,e9⟩:=hR;refine⟨_,rfl,λfa F=>?_⟩;replace q7:=(e9).keep0 q7;replace E:=Z4 E (e9);replace eT:=Z4 eT (e9);clear e9;refine⟨λ_=>eT,?_⟩;refine ZN (i:=5) (by kernel_rfl) (Zy rfl rfl (Za rfl rfl Qy.call65 (mpS (F.at rfl) (mpS (F.at rfl) mp0))) ((Zh (μ:=0) x HV.out l' hl1 he a2 c2 _ (HR'.out.ext E (by simp)))) λe w32 hR=>?_);obtain⟨rfl,e9⟩:=hR;refine⟨_,rfl,?_⟩;replace q7:=(e9).keep0 q7;replace E:=Z4 E (e9);replace eT:=Z4 eT (e9);exact Zz F q7 E (by omega) λw' e=>⟨rfl,e⟩
def alkA(x:Vm)(l l':List Int):List Int:=if rcpE x l'=0 then Z0z x.L.length λk=>alkE x k (val l) (val l') else[]
theorem Z6A{x:Vm}(hv:VOk x)(l l':List Int):(alkA x l l').length<=3:=by
 have hl3:=hv.l3;unfold alkA
 split
 ·exact Yd (Z3f _ _) hl3
 ·simp
theorem Z8D(x:Vm)(hv:VOk x)(l l':List Int)(hl:RcpOk x l)(hl1:l'.length<=1000)(a1 a2:Option Addr)(c1 c2:Nat)(w:World)(h:x.At w)(hr:Z8 w (.slice a1 l.length c1) 1 (l.map Z7))(hr':Z8 w (.slice a2 l'.length c2) 1 (l'.map Z7)):
  Calls (Qy.prog 0) 15 #[.agg #[.int .i64 x.B,.slice x.da x.D.length x.dc,.slice x.la x.L.length x.lc,.int .i64 x.tol],.slice a1 l.length c1,.slice a2 l'.length c2] w λe w' =>
   ((e = .panicked [bunV 15 #[.agg #[.int .i64 x.B,.slice x.da x.D.length x.dc,.slice x.la x.L.length x.lc,.int .i64 x.tol],.slice a1 l.length c1,.slice a2 l'.length c2]]/\∃d,7<(Question.appendCap 7 0 3).cut (w.tape d (.appendCap 7 0 3)))/\Ext [] w w') \/
   ∃y,e = .returned (.tuple #[y,.int .i64 (rcpE x l')])/\IntR w.heap.size w' (alkA x l l') y/\Z7R w y/\Ext [] w w':=by
 have E:Ext [] w w:=Ext.refl _ _;have hseq:∀W,Ext [] w W->Calls (Qy.prog 0) 186 #[.agg #[.int .i64 x.B,.slice x.da x.D.length x.dc,.slice x.la x.L.length x.lc,.int .i64 x.tol],.slice a1 l.length c1,.slice a2 l'.length c2] W λe w'=>∃y,e = .returned (.tuple #[y,.int .i64 (rcpE x l')])/\IntR W.heap.size w' (alkA x l l') y/\Ext [] W w':=by
  intro W eW;unfold alkA
  by_cases he:rcpE x l'=0
  ·rw[if_pos he,he]
   exact Zhe x hv l l' hl (Z1y.1 he) a1 a2 c1 c2 W (h.ext eW) (hr.ext eW (by simp)) (hr'.ext eW (by simp))
  ·rw[if_neg he]
   exact(Zex x hv l l' hl hl1 he a1 a2 c1 c2 W (h.ext eW) (hr.ext eW (by simp)) (hr'.ext eW (by simp))).mono λe w' q=>⟨_,q.1,.inl ⟨rfl,rfl⟩,q.2⟩
 have hml:(alkA x l l').length<=1000:=Yd (Z6A hv l l') (by decide);have HQ:=Lib.hid hseq;clear h hv hr hr' hl hseq;refine ZS 13 Qy.func15 rfl Qy.ntmps189 (Nat.le_of_ble_eq_true rfl) ?_;intro fa F;refine wS λK1 hK1=>?_;refine Yg ?_;refine sqN F (ZI rfl pr0 Qy.underlying22 (size:=1) (by kernel_rfl) (by decide) (by decide) Qy.zeroValue3 (cells:=#[.int .i64 0,.int .i64 0,.int .i64 0,.int .i64 0,.int .i64 0,.int .i64 0,.int .i64 0]) (by kernel_rfl)) λfa w1 F hw=>?_;obtain⟨n3,hn⟩:=eQ w.heap.size;rw[<-hn]at F;have s3:=sQ hn;have l3_E:=lQ hn E.size;replace E:=Z2 E hw;have q3:=ZU hw hn;clear hw hn;have htp:=E.tape;refine ZK F rfl (by decide) rfl (Z6x rfl Qy.underlying22 (by kernel_rfl) (F.at rfl) q3 (by decide) (by decide) (by decide)) ?_;clear F fa;rintro fa v' w2 F ⟨⟨b4,K,rfl,d4,hK⟩,e9⟩;replace q3:=(e9).keep0 q3;replace E:=Z4 E (e9);rw[htp]at hK;refine F.vl ((Zeu rfl (F.at rfl) Qy.underlying22)) λfa F=>?_;refine F.vl (Z52 rfl (ev_c fa _) (F.at rfl)) λfa F=>?_;refine wN<|hK1 _ _<|wS λK2 hK2=>?_
 refine Z6L F rfl (λhc6=>?_) (λhc6=>?_)
 ·skip
  refine Yg ?_;refine F.vl (Z15 rfl (Z3i (mpS (F.at rfl) (mpS (F.at rfl) (mpS (F.at rfl) mp0)))) (Z3i mp0)) λfa F=>?_;refine F.vl ((Z2N rfl (F.at rfl) Zg5 (by intro m e;cases e))) λfa F=>?_;refine Z1A rfl (Z2s rfl (F.at rfl)) ?_
  (try simp only[Exit.inBlock,Exit.then,Exit.jump,reduceIte])
  refine⟨F.ds,?_⟩;exact .inl ⟨⟨rfl,d4,by rw[<-hK];exact Int.ofNat_lt.1 (by simpa using hc6)⟩,E⟩
 ·skip
  refine Yi ?_;refine hK2 _ _<|wS λK3 hK3=>?_
  refine Yg ?_;refine sqC F (Za rfl rfl Qy.call186 (mpS (F.at rfl) (mpS (F.at rfl) (mpS (F.at rfl) mp0)))) (HQ.out _ E) λe w3 hR=>?_;obtain⟨y,rfl,hI,e9⟩:=hR;refine⟨_,rfl,λfa F=>?_⟩;replace q3:=(e9).keep0 q3;replace E:=Z4 E (e9);clear e9;refine F.vl (Z2r rfl (F.at rfl) (get0)) λfa F=>?_;refine F.vl (Z2r rfl (F.at rfl) (getS (get0))) λfa F=>?_;have hEs:=E.size;have htp:=E.tape;refine ZK F rfl (by decide) rfl (Z9L rfl Qy.underlying22 (by kernel_rfl) (F.at rfl) hI hml) ?_;clear F fa;rintro fa v' w4 F ⟨hI2,e9,hC⟩;replace q3:=(e9).keep0 q3;replace E:=Z4 E (e9);refine wN<|hK3 _ _ ?_
  refine wp_ret ?_
  (try simp only[Exit.inBlock,Exit.then,reduceIte])
  refine rt_v F (rs_2 F rfl rfl rfl) ?_;exact .inr ⟨_,rfl,Z4M hI2 (Ext.refl [] _) (by simp) (by omega),(by unfold Z7R at hC⊢;rw[htp]at hC;exact hC),E⟩
end
namespace Lift
open Go Go.Conc Go.RowKit Ev Mx
open Go.ConcM (OsLater)
theorem ZeQ(xs:Array Value):Frame.enter PP 15 xs .normal=(fF 15).at (fA 22 xs) [.code aB]:=Z86 (Q:=PP) (by kernel_rfl) xs
theorem Zey{J:Jk}(hg:∀f,J.gd f↔gJ f=true)(hn:∀f,¬J.law f)(hr0:J.rest=[.code tA]): @Todo J PP (J.law 15) (¬J.gd 15) false (idS S) [.code cAli] [.code aB]:=by
 have cj:∀{c:Code},ZT PP gJ (λ_ _=>false) true false true false c=true->Z0L PP (Jk.law 15) (¬Jk.gd 15) false c:=λq=>Z91 hg (λf _=>hn f) (by decide) (hn _) q;have:=Zjk;generalize hq:aB=z at this;refine Todo.cut rfl (λ_=>⟨rfl,rfl⟩) ?_;rw[this,<-hq];exact .seq (cj ca0) (.seq (cj ca1) (.seq (cj ca2) (.seq (cj ca3) (.stop hr0))))
theorem Zhb: Has 22 [] (fA 22 #[y0,y1,y2]) [(0,y0),(1,y1),(2,y2)]:=by
 refine⟨rfl,by simp[fA],λk u e=>?_⟩;simp only[Yp,List.lookup_nil]at e
 repeat' split at e
 all_goals first | (cases e;done) | (rename_i q;rw[beq_iff_eq]at q;subst q;obtain rfl:=Y1 e;simp[fA])
theorem Zhc:(Qy.F 1)[(15:Nat)]?=PP.funcs[(15:Nat)]?:=Qy.own15.trans (by kernel_rfl)
theorem Zc6{x:Vm}(hv:VOk x)(H:VatC D S x w)(hl:RcpOk x l)(hl1:l'.length<=1000)(he:rcpE x l'≠0)(hr:Z8 w (.slice a1 l.length c1) 1 (l.map Z7))(hr':Z8 w (.slice a2 l'.length c2) 1 (l'.map Z7))(p1:PV S (.slice a1 l.length c1))(p2:PV S (.slice a2 l'.length c2))(ret:∀w',(∀b,b<w.heap.size->w'.heap[b]?=w.heap[b]?)->w.heap.size<=w'.heap.size->w'.os=w.os->w'.output=w.output->Sure PP Post D (run1 (c.finish (.tuple #[.slice none 0 0,.int .i64 (rcpE x l')])) cs) w'):
  Sure PP Post D (run1 (Frame.enter PP 15 #[x.val,.slice a1 l.length c1,.slice a2 l'.length c2] .normal) (c::cs)) w:=by
 letI:Jk:=jkA;rw[ZeQ];refine Z5g (J:=jkA) trivial (λf=>Iff.rfl) (λf h=>h) H.blk H.off H.low Zhc (Z7g H p1 p2) (Zey (J:=jkA) (λf=>Iff.rfl) (λf h=>h) rfl) (Z:=λv fr u=>fr.leaving (PF PP (Qy.F 1)) u (.returned (.tuple #[.slice none 0 0,.int .i64 (rcpE x l')]))) (λv hsh T=>?_) λv f' v' r' g' w' T1 T2 hsh hq hf hw' hi ho hsn=>?_
 ·exact Zej (P:=Qy.prog 1) Qy.own15 rfl (Zjn x hv l l' hl hl1 he a1 a2 c1 c2 (re v T) (Z1D (v:=v) (v2:=re v T) (λb _=>rfl) (H.shadow (λ_ _=>rfl) hsh)) (@Z2F jkN _ _ _ _ (λ_ _=>rfl) hsh _ _ _ _ p1 hr) (@Z2F jkN _ _ _ _ (λ_ _=>rfl) hsh _ _ _ _ p2 hr') _ Zhb) (λw' q=>by cases q.1) λe fr w' q1 q2=>by rw[q2.1]at q1;exact q1
 refine Sure.step rfl λw1 hl1=>?_;have hw1:WH (Iv PP (Qy.F 1)) r' v' w1:=hw'.of rfl hl1.1 (by rw[hl1.2.1];exact hw'.env);obtain⟨r2,T3,y,w2,ns,e2,hvy,hw2,hk2,hev⟩:=Z2z hf hw1 hq true c cs;have hy:y = .tuple #[.slice none 0 0,.int .i64 (rcpE x l')]:=by
  cases hvy with
  | @tuple _ ys h1 h2 =>
   obtain⟨y1,y2,rfl,g1,g2⟩:=arr2 (R:=VR r2) ⟨h1,h2⟩
   cases g1
   cases g2
   rfl
 subst hy;have ho2:=(ho.like hl1).kept hk2;have h4:Kep r' r2 v' v' w' w2:=Kep.of (v0:=re v' T3) (v':=re v' T3) ⟨rfl,rfl,rfl⟩ hl1 hk2;have h3:Snc w r2 v' w2:=hsn.kep h4;exact⟨_,w2,ns,e2,λe he=>Z63 (hev e he) ho2.names,by rw[<-hl1.1];exact hk2.sizeW,ret w2 h3.old h3.size h3.os h3.out⟩
end Lift
namespace Lift
open Go Go.Conc Go.RowKit Ev
open Go.ConcM (OsLater)
theorem Zhl[Jk]{C:Inv}{r:Ren}{x:Vm}{z:Value}(hold:∀b,b<v.heap.size->u.heap[b]?=v.heap[b]?)(hw:WH C r v w)(hx:x.At u)(hz0:VR r x.val z): x.At v:=by
 have hz0:VR r (.agg #[.int .i64 x.B,.slice x.da x.D.length x.dc,.slice x.la x.L.length x.lc,.int .i64 x.tol]) z:=hz0
 cases hz0 with
 | @agg _ ys hs1 hs2 =>
  obtain⟨_,_,_,_,_,_,g2,g3,_⟩:=arr4 (R:=VR r) ⟨hs1,hs2⟩;exact⟨Z4P hold hw hx.d g2,Z4P hold hw hx.l g3⟩
theorem rcp_ne{x:Vm}(h:RcpOk x l): l≠[]:=λe=>by
 have:=h.s1;rw[e]at this;simp at this
def Zh1(xs:Array Value)(u:World):Prop:=∃(x:Vm) (l l':List Int) (a1 a2:Option Addr) (c1 c2:Nat),xs=#[x.val,.slice a1 l.length c1,.slice a2 l'.length c2]/\VOk x/\x.At u/\RcpOk x l/\l'≠[]/\l'.length<=1000/\Z8 u (.slice a1 l.length c1) 1 (l.map Z7)/\Z8 u (.slice a2 l'.length c2) 1 (l'.map Z7)
theorem Zjw(TG:FuncId->Prop):CoT TG 15 Zh1:=by
 letI:Jk:=jkV TG;intro D r v w u xs zs hpre hold hw ho hys;obtain⟨x,l,l',a1,a2,c1,c2,rfl,hv,hx,hl,hl0,hl1,hrw,hrw'⟩:=hpre;obtain⟨z0,z1,z2,rfl,hz0,hz1,hz2⟩:=arr3 hys;have hxd:x.At v:=Zhl hold hw hx hz0;have hrd1:=Z2E hold hw hrw hz1;have hrd2:=Z2E hold hw hrw' hz2;obtain⟨x',rfl,halk,hvc⟩:=ZgY hv hxd hw ho hz0;obtain⟨b1,rfl,hw1r,hp1⟩:=Z4U hw (rcp_ne hl) hrd1 hz1;obtain⟨b2,rfl,hw2r,hp2⟩:=Z4U hw hl0 hrd2 hz2;have hvx:VOk x':=halk.ok hv;have hlx:RcpOk x' l:=⟨hl.len.trans halk.dl.symm,hl.bd,hl.s1,hl.s6⟩;have hrc:rcpE x' l'=rcpE x l':=by unfold rcpE;rw[halk.dl]
 refine⟨alkA x l l',rcpE x l',Yd (Z6A hv l l') (by decide),λtp=>Z8D x hv l l' hl hl1 a1 a2 c1 c2 (re v tp) (Z1D (v:=v) (v2:=re v tp) (λb _=>rfl) hxd) hrd1 hrd2,λ{Post c cs} ret=>?_⟩;unfold alkA at ret
 by_cases he:rcpE x l'=0
 ·rw[if_pos he,he]at ret
  refine Zc5 hvx hvc hlx (Z1y.1 (hrc.trans he)) hw1r hw2r hp1 hp2 λw3 y Mu Wg U=>ret _ _ _ (Zgp ho.low ?_);have hbb:Z0z x'.L.length (alkB x' (val l) (val l'))=Z0z x.L.length λk=>alkE x k (val l) (val l'):=by
   rw[halk.ll];refine Z48 λk hk=>?_;simp only[alkB,halk.ll,halk.alk k,hk,decide_true,Bool.true_and]
  rw[<-hbb];exact U
 ·rw[if_neg he]at ret
  refine Zc6 hvx hvc hlx hl1 (by rw[hrc];exact he) hw1r hw2r hp1 hp2 λw3 h1 h2 h3 h4=>?_;rw[hrc];exact ret _ _ D ⟨.inl ⟨rfl,rfl⟩,h1,h2,by rw[h3];exact OsLater.refl _,h4,λc h=>.inl h,λc h=>Y8 (ho.low c h) h2,λg n c e=>by cases e⟩
theorem ZiO(TG:FuncId->Prop):Tgt TG 15 Zh1:=⟨by decide,Zg1,Zjw TG,⟨_,_,Z9T,Zc4,by kernel_rfl⟩,by decide⟩
def TL(f:FuncId):Prop:=f=26\/f=15
def PreL(t:FuncId)(xs:Array Value)(u:World):Prop:=(t=26/\Zh2 xs u)\/(t=15/\Zh1 xs u)
theorem tgtL(t:FuncId)(h:TL t):Tgt TL t (PreL t):=by
 rcases h with rfl | rfl
 ·have q:=ZiP TL
  exact⟨q.gs,q.bad,λh=>q.co (h.resolve_right λh=>absurd h.1 (by decide)).2,q.fn,q.ng⟩
 ·have q:=ZiO TL
  exact⟨q.gs,q.bad,λh=>q.co (h.resolve_left λh=>absurd h.1 (by decide)).2,q.fn,q.ng⟩
theorem Ziu{t:FuncId}{T:Nat->Question->Nat}(h:PreL t xs (re u T)): PreL t xs u:=by
 letI:Jk:=jk0
 rcases h with⟨h0,x,l,s,a1,a2,c1,c2,h2,h3,h4,h5⟩ | ⟨h0,x,l,s,a1,a2,c1,c2,h2,h3,h4,h5⟩
 ·exact .inl ⟨h0,x,l,s,a1,a2,c1,c2,h2,h3,Z1D (v:=re u T) (v2:=u) (λ_ _=>rfl) h4,h5⟩
 ·exact .inr ⟨h0,x,l,s,a1,a2,c1,c2,h2,h3,Z1D (v:=re u T) (v2:=u) (λ_ _=>rfl) h4,h5⟩
def jmpB(f n:Nat):Bool:=((f==26||f==15)&&n==3)||(f==19&&n==0)
theorem ZhM(f:FuncId)(n:Nat)(q:jmpB f n=true):(jkV TL).jmp f/\n=(jkV TL).ar f:=by
 unfold jmpB at q;simp only[Yo,Y5,beq_iff_eq]at q
 rcases q with⟨rfl | rfl,rfl⟩ | ⟨rfl,rfl⟩
 ·exact⟨.inl (.inl rfl),rfl⟩
 ·exact⟨.inl (.inr rfl),rfl⟩
 ·exact⟨.inr rfl,rfl⟩
theorem lawV_m{x:Vm}(hv:VOk x)(h:x.At u)(hl0:l≠[])(hll:l.length<=1000)(hs:Z1L x s)(e1:l.length=n1)(e2:s.length=n2)(hr:Z8 u (.slice a1 n1 c1) 1 (l.map Z7))(hr':Z8 u (.slice a2 n2 c2) 1 (s.map Z7)):
  LawV PreL (.panicked [bunV 26 #[.agg #[.int .i64 x.B,.slice x.da x.D.length x.dc,.slice x.la x.L.length x.lc,.int .i64 x.tol],.slice a1 n1 c1,.slice a2 n2 c2]]) u:=by
 subst e1 e2;exact .inr ⟨_,_,by decide,rfl,.inl ⟨rfl,x,l,s,a1,a2,c1,c2,rfl,hv,h,hl0,hll,hs,hr,hr'⟩⟩
theorem lawV_a{x:Vm}(hv:VOk x)(h:x.At u)(hl:RcpOk x l)(hl0:l'≠[])(hl1:l'.length<=1000)(e1:l.length=n1)(e2:l'.length=n2)(hr:Z8 u (.slice a1 n1 c1) 1 (l.map Z7))(hr':Z8 u (.slice a2 n2 c2) 1 (l'.map Z7)):
  LawV PreL (.panicked [bunV 15 #[.agg #[.int .i64 x.B,.slice x.da x.D.length x.dc,.slice x.la x.L.length x.lc,.int .i64 x.tol],.slice a1 n1 c1,.slice a2 n2 c2]]) u:=by
 subst e1 e2;exact .inr ⟨_,_,by decide,rfl,.inr ⟨rfl,x,l,l',a1,a2,c1,c2,rfl,hv,h,hl,hl0,hl1,hr,hr'⟩⟩
end Lift
end Go.Proofs.YtfelljbfeoplhaaGreat
