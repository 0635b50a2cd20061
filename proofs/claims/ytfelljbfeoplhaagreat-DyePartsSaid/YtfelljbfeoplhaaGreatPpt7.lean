/- Parts of a proof: Dre, Drf, Dkm, Drk, Dma, Dnr, Dof, Dfw, Dtl, Dse, Uz, Ut, Zb. No conditions. -/
import Derived.DeepKeys4
import Derived.Maps.Keyed
import Derived.Maps.Own
import Derived.Maps.Views
import Derived.WideKeyArr
import Derived.Test.YtfelljbfeoplhaaGreatPpt1
import Derived.Test.YtfelljbfeoplhaaGreatPpt4
import Derived.Test.YtfelljbfeoplhaaGreatPpt5
import Derived.Test.YtfelljbfeoplhaaGreatPpt6
set_option linter.unusedVariables false
set_option linter.unusedSimpArgs false
set_option linter.unusedSectionVars false
set_option maxRecDepth 100000
set_option maxHeartbeats 4000000
namespace Go.Proofs.YtfelljbfeoplhaaGreat
variable{W W' w w2:Go.World}{b c i id k n o ob:Nat}{v:Go.Value}{f g s:Nat->Int}{P:Go.Program}{T e t t':Go.TypeId}{X Y:List Nat}{x y:Go.Operand}{ls xs ys:List Int}{fz:Nat×Nat}{l:List Go.Oper}{m:Int}
section
open Go.RowKit
variable{μ:Nat}
section
variable(x:Vm)(hd4:x.D.length<=4)(X:List Nat)(ob nb yb tb gb l B0:Nat)(J:List (List Int)->World->Prop)(xs:List (List Int))
theorem ZeZ(hY:∀pre q V,J pre V->pre++[q] <+: xs->YieldAt Fence.wide 0 (Qy.prog μ) l #[.agg (tubC (val q))] V λe V'=>e = .returned (.bool true)/\J (pre++[q]) V'/\KeepR X ob V V')
  (left:Nat) (hl:left<=6) (p:List Int) (hp:p.length=x.D.length) (g:Nat->Int) (hag:Agr x.D.length g p) (pre:List (List Int)) (W:World) (hJ:J pre W) (hx:pre++frL 0 left p <+: xs) (hb:ItB x X ob nb yb tb gb l g W) :
  Calls (Qy.prog μ) 127 #[.int .i64 ((p.length:Nat):Int),.int .i64 ((left:Nat):Int),.pointer (some ⟨nb,0,none⟩),.pointer (some ⟨yb,0,none⟩),.pointer (some ⟨tb,0,none⟩),.pointer (some ⟨gb,0,none⟩)] W λe W'=>e = .returned (.bool true)/\J (pre++frL 0 left p) W'/\∃g',Agr x.D.length g' p/\ItB x X ob nb yb tb gb l g' W':=by
 have HY:=Lib.hid hY;obtain⟨q2,q3,q4,q5,sn,sy,st,sg⟩:=hb;rw[hag.tub hp]at q4
 by_cases h6:left=6
 ·have hfr:frL 0 left p=[]:=by rw[frL,if_pos h6]
  rw[hfr]at hx⊢;rw[List.append_nil];clear hY;refine Z60 40 Qy.func127 rfl Tryz.ntmps127 (Nat.le_of_ble_eq_true rfl) ?_;intro fa F;refine wpIn_seq_k λK1 hK1=>?_;refine wpIn_region_lit ?_;refine F.vlW (ZC rfl (ev_c fa _)) λfa F=>?_;refine wpListIn_nil ?_;refine hK1 _ _ ?_;refine wpIn_seq_k λK2 hK2=>?_;refine wpIn_seq_k λK3 hK3=>?_;refine wpIn_region_lit ?_;refine F.mvW λfa F=>?_;refine F.vlW (ZO rfl (F.at rfl) Qy.underlying85 rfl (n:=0) (sz:=4) rfl (by kernel_rfl) (by decide)) λfa F=>?_;refine F.vlW (ZO rfl (F.at rfl) Qy.underlying27 rfl (n:=1) (sz:=1) rfl (by kernel_rfl) (by decide)) λfa F=>?_;refine F.vlW (ZH rfl (F.at rfl) Qy.underlying25 rfl ((Z1 q2 1).trans (getS (get0)))) λfa F=>?_;refine F.vlW (Z3r rfl rfl (F.at rfl) Qy.underlying25) λfa F=>?_;refine F.vlW (Z9P rfl (F.at rfl) (F.at rfl)) λfa F=>?_;refine wpListIn_nil ?_;refine hK3 _ _ ?_;refine Zgl F rfl (decide_eq_true (by omega)) ?_;refine wpIn_seq_k λK4 hK4=>?_;refine wpIn_region_lit ?_;refine F.mvW λfa F=>?_;refine F.vlW (Z9O (b:=true) rfl (F.at rfl) (ev_c fa _) (decide_eq_true ((by omega)))) λfa F=>?_;refine F.mvW λfa F=>?_;refine ZiC F rfl (by decide) (Z2q F rfl rfl (by decide) rfl (by decide)) λfa F=>?_;refine ZiC F rfl (by decide) (Z2q F rfl rfl (by decide) rfl (by decide)) λfa F=>?_;refine ZiC F rfl (by decide) (Z2q F rfl rfl (by decide) rfl (by decide)) λfa F=>?_;refine F.vlW (Z53 rfl (F.at rfl) (ev_c fa _)) λfa F=>?_;refine F.asW λfa F=>?_;refine wpListIn_nil ?_;refine hK4 _ _ ?_;refine wpIn_ret ?_
  (try simp only[Exit.inBlock,Exit.then,reduceIte])
  refine rt_v F (rs_1 F rfl rfl) ?_;exact⟨rfl,hJ,_,⟨λj hj=>rfl,λj hj=>(by rw[val,Y7,List.getElem?_eq_none (by omega)];rfl)⟩,q2,q3,q4,q5,sn,sy,st,sg⟩
 ·have hfr:frL 0 left p=[p]:=by rw[frL,if_neg h6]
  rw[hfr]at hx⊢;clear hY;refine Z60 40 Qy.func127 rfl Tryz.ntmps127 (Nat.le_of_ble_eq_true rfl) ?_;intro fa F;refine wpIn_seq_k λK1 hK1=>?_;refine wpIn_region_lit ?_;refine F.vlW (ZC rfl (ev_c fa _)) λfa F=>?_;refine wpListIn_nil ?_;refine hK1 _ _ ?_;refine wpIn_seq_k λK2 hK2=>?_;refine wpIn_seq_k λK3 hK3=>?_;refine wpIn_region_lit ?_;refine F.mvW λfa F=>?_;refine F.vlW (ZO rfl (F.at rfl) Qy.underlying85 rfl (n:=0) (sz:=4) rfl (by kernel_rfl) (by decide)) λfa F=>?_;refine F.vlW (ZO rfl (F.at rfl) Qy.underlying27 rfl (n:=1) (sz:=1) rfl (by kernel_rfl) (by decide)) λfa F=>?_;refine F.vlW (ZH rfl (F.at rfl) Qy.underlying25 rfl ((Z1 q2 1).trans (getS (get0)))) λfa F=>?_;refine F.vlW (Z3r rfl rfl (F.at rfl) Qy.underlying25) λfa F=>?_;refine F.vlW (Z9P rfl (F.at rfl) (F.at rfl)) λfa F=>?_;refine wpListIn_nil ?_;refine hK3 _ _ ?_;refine Zgl F rfl (decide_eq_true (by omega)) ?_;refine wpIn_seq_k λK4 hK4=>?_;refine wpIn_region_lit ?_;refine F.mvW λfa F=>?_;refine F.vlW (Z9O (b:=false) rfl (F.at rfl) (ev_c fa _) (decide_eq_false ((by omega)))) λfa F=>?_;refine F.mvW λfa F=>?_;refine F.vlW (ZH rfl (F.at rfl) Qy.underlying160 rfl ((Z1 q3 0).trans (get0))) (λfa F=>?_) (hw:=(Z4A F rfl rfl (by decide) rfl));refine F.vlW (Zc rfl (F.at rfl) Qy.underlying88 rfl (by kernel_rfl) q4) (λfa F=>?_) (hw:=(Z4A F rfl rfl (by decide) rfl));obtain⟨fn,tmps,assign,body,hyy,hR0⟩:=HY.out pre p W hJ hx;refine ZfA F rfl (by decide) (Z4A F rfl rfl (by decide) rfl) (Zh6 rfl (F.at rfl) (mpS (F.at rfl) mp0) hyy) (hR0) λe w1 hR=>?_;obtain⟨rfl,hJ,hk⟩:=hR;refine⟨_,rfl,λfa F=>?_⟩;refine F.vlW (Z6y rfl (F.at rfl) (F.at rfl)) λfa F=>?_;refine F.asW λfa F=>?_;refine wpListIn_nil ?_;refine hK4 _ _ ?_;refine wpIn_ret ?_
  (try simp only[Exit.inBlock,Exit.then,reduceIte])
  refine rt_v F (rs_1 F rfl rfl) ?_;have hb2:=ItB.keep ⟨q2,q3,q4,q5,sn,sy,st,sg⟩ hk;exact⟨rfl,hJ,_,⟨λj hj=>rfl,λj hj=>(by rw[val,Y7,List.getElem?_eq_none (by omega)];rfl)⟩,hb2⟩
theorem Zbg(e:w2=w.setCell ⟨b,o,none⟩ v): w.grownBy w2 (some b):=by
 rw[e];exact⟨rfl,rfl,rfl,(KeepsWalks.setCell w _ v).size,λk _ hk=>Below.heap_setCell _ _ _ k (λe=>hk (by rw[e]))⟩
theorem Zbh(e:w2=w.setCell ⟨b,o,none⟩ v)(h:k≠b): w2.heap[k]?=w.heap[k]?:=by
 rw[e];exact Below.heap_setCell _ _ _ k h
include hd4 in
theorem from_step(hB0:B0<=tb)(hnt:nb≠tb)(hyt:yb≠tb)(hgt:gb≠tb)
  (HJ:Hid (∀s U V r,J s U->Safe X ob r U->B0<=r->(∃o:Obj,U.heap[r]?=some o/\o.isCells=true)->U.grownBy V (some r)->J s V))
  (more:Nat) (IH:Hid (∀(left:Nat),left<=6->∀(p:List Int),p.length+more=x.D.length->∀(g:Nat->Int),Agr x.D.length g p->∀(pre:List (List Int)) (W:World),J pre W->pre++frL more left p <+: xs->ItB x X ob nb yb tb gb l g W ->
   Calls (Qy.prog μ) 127 #[.int .i64 ((p.length:Nat):Int),.int .i64 ((left:Nat):Int),.pointer (some ⟨nb,0,none⟩),.pointer (some ⟨yb,0,none⟩),.pointer (some ⟨tb,0,none⟩),.pointer (some ⟨gb,0,none⟩)] W λe W'=>e = .returned (.bool true)/\J (pre++frL more left p) W'/\∃g',Agr x.D.length g' p/\ItB x X ob nb yb tb gb l g' W'))
  (left:Nat) (hl:left<=6) (p:List Int) (hp:p.length+(more+1)=x.D.length) (g:Nat->Int) (hag:Agr x.D.length g p) (pre:List (List Int)) (W:World) (hJ:J pre W) (hx:pre++frL (more+1) left p <+: xs) (hb:ItB x X ob nb yb tb gb l g W) :
  Calls (Qy.prog μ) 127 #[.int .i64 ((p.length:Nat):Int),.int .i64 ((left:Nat):Int),.pointer (some ⟨nb,0,none⟩),.pointer (some ⟨yb,0,none⟩),.pointer (some ⟨tb,0,none⟩),.pointer (some ⟨gb,0,none⟩)] W λe W'=>e = .returned (.bool true)/\J (pre++frL (more+1) left p) W'/\∃g',Agr x.D.length g' p/\ItB x X ob nb yb tb gb l g' W':=by
 obtain⟨q2,q3,q4,q5,sn,sy,st,sg⟩:=hb;have hsto:=st.2.1;obtain⟨fs,hfs⟩:∃fs:Nat->List (List Int),fs=λn=>frL more (left-n) (p++[(n:Int)]):=⟨_,rfl⟩;have hfr:frL (more+1) left p=(List.range (left+1)).flatMap fs:=by rw[hfs];rfl
 rw[hfr]at hx⊢;have hJ:J (pre++(List.range 0).flatMap fs) W:=by simpa using hJ
 have HX:=Lib.hid hx;clear hfr hx;refine ZS 40 Qy.func127 rfl Tryz.ntmps127 (Nat.le_of_ble_eq_true rfl) ?_;intro fa F;refine wS λK1 hK1=>?_;refine Yg ?_;refine F.vl (ZC rfl (ev_c fa _)) λfa F=>?_;refine wN<|hK1 _ _<|wS λK2 hK2=>wS λK3 hK3=>?_
 refine Yg ?_;refine F.mv λfa F=>?_;refine F.vl (ZO rfl (F.at rfl) Qy.underlying85 rfl (n:=0) (sz:=4) rfl (by kernel_rfl) (by decide)) λfa F=>?_;refine F.vl (ZO rfl (F.at rfl) Qy.underlying27 rfl (n:=1) (sz:=1) rfl (by kernel_rfl) (by decide)) λfa F=>?_;refine F.vl (ZH rfl (F.at rfl) Qy.underlying25 rfl ((Z1 q2 1).trans (getS (get0)))) λfa F=>?_;refine F.vl (Z3r rfl rfl (F.at rfl) Qy.underlying25) λfa F=>?_;refine F.vl (Z9P rfl (F.at rfl) (F.at rfl)) λfa F=>?_;refine wN<|hK3 _ _ ?_
 refine Zlh F rfl (decide_eq_false (by omega)) ?_;refine Yi ?_;refine hK2 _ _<|wS λK4 hK4=>wS λK5 hK5=>?_
 refine Yg ?_;refine F.mv λfa F=>?_;refine F.vl (Z5O rfl (F.at rfl) (ev_c fa _) (by omega) (by omega)) λfa F=>?_;refine F.vl (Z0E rfl (ev_c fa _)) λfa F=>?_;refine wN<|hK5 _ _ ?_
 refine Yh ?_;have F0:=F.sub (.c 0 rfl (.c 1 rfl (.c 4 rfl (.c 5 rfl (.c 24 rfl .n)))));refine Z6c F0 (left+1) (λi Lv W=>∃g:Nat->Int,Lv=[(25,.int .i64 ((i:Nat):Int))]/\W.heap[nb]?=some (.cells #[.int .i64 x.B,.slice x.da x.D.length x.dc,.slice x.la x.L.length x.lc,.int .i64 x.tol] 85 (0,0))/\W.heap[yb]?=some (.cells #[.func (.yield l) #[] #[]] 160 (0,0))/\W.heap[tb]?=some (.cells (tubC g) 88 (0,0))/\W.heap[gb]?=some (.cells #[.func (.func 127) #[] #[.pointer (some ⟨nb,0,none⟩),.pointer (some ⟨yb,0,none⟩),.pointer (some ⟨tb,0,none⟩),.pointer (some ⟨gb,0,none⟩)]] 161 (0,0))/\Agr x.D.length g p/\J (pre++(List.range i).flatMap fs) W/\Safe X ob nb W/\Safe X ob yb W/\Safe X ob tb W/\Safe X ob gb W) ⟨_,⟨g,rfl,q2,q3,q4,q5,hag,hJ,sn,sy,st,sg⟩,F.sub (.c 25 rfl (.c 0 rfl (.c 1 rfl (.c 4 rfl (.c 5 rfl (.c 24 rfl .n))))))⟩ ?_;clear F F0;clear q2 q3 q4 q5;rintro i _ fa w1 hi1 ⟨g,rfl,q2,q3,q4,q5,hag,hJ,sn,sy,st,sg⟩ F;refine wS λK6 hK6=>?_;refine Yg ?_;refine F.vl (Z52 rfl (F.at rfl) (F.at rfl)) λfa F=>?_;refine wN<|hK6 _ _<|wS λK7 hK7=>?_
 refine Z6L F rfl (λhc26=>?_) (λhc26=>?_)
 ·skip
  refine Yi ?_;refine hK7 _ _<|wS λK8 hK8=>?_
  refine Yh ?_;refine wS λK9 hK9=>?_;refine Yg ?_;refine F.mv λfa F=>?_;refine F.as λfa F=>?_;refine wN<|hK9 _ _<|wS λK10 hK10=>?_
  refine Yg ?_;refine F.mv λfa F=>?_;refine F.mv λfa F=>?_;refine F.vl (Z25 (n:=4) (sz:=1) rfl (F.at rfl) (F.at rfl) Qy.underlying88 (by kernel_rfl) (by omega) (by omega)) λfa F=>?_;refine Z0T rfl rfl (Z05 rfl (F.at rfl) (F.at rfl) rfl (by kernel_rfl) (Z2M q4 (k:=p.length) rfl (by omega)) (Zd q4 _)) ?_;intro w2 hw;have hJ2:=HJ.out _ _ _ tb hJ st hB0 ⟨_,q4,rfl⟩ (Zbg hw);have ho:=Zbh (k:=ob) hw (Ne.symm hsto);replace sn:=sn.same ho;replace sy:=sy.same ho;replace st:=st.same ho;replace sg:=sg.same ho;replace q2:=kce hw q2;replace q3:=kce hw q3;replace q4:=Z9t hw q4 (k:=p.length) rfl (by omega);replace q5:=kce hw q5;clear hw;refine wpList_nil ?_;have hag2:=hag.step (by omega) ((i:Nat):Int);refine hK10 _ _<|wS λK11 hK11=>?_
  refine Yg ?_;refine F.vl (ZH rfl (F.at rfl) Qy.underlying161 rfl ((Z1 q5 0).trans (get0))) λfa F=>?_;refine F.mv λfa F=>?_;refine F.vl (Z5O rfl (F.at rfl) (ev_c fa _) (by omega) (by omega)) λfa F=>?_;refine F.mv λfa F=>?_;refine F.mv λfa F=>?_;refine F.vl (Zh5 rfl (F.at rfl) (F.at rfl) (by omega) (by omega)) λfa F=>?_;rw[show (((p.length:Nat):Int)+1)=(((p++[((i:Nat):Int)]).length:Nat):Int) by simp,show (((left:Nat):Int)-((i:Nat):Int))=((left-i:Nat):Int) by omega]at F;have hpx:(pre++(List.range i).flatMap fs)++frL more (left-i) (p++[((i:Nat):Int)]) <+: xs:=by refine List.IsPrefix.trans ?_ HX.out;rw[List.append_assoc,show frL more (left-i) (p++[((i:Nat):Int)])=fs i by rw[hfs],<-Z5f];exact(List.prefix_append_right_inj _).2 (Z95 fs (by omega))
  refine sqC F (Z38 rfl (F.at rfl) Qy.call127 (mpS (F.at rfl) (mpS (F.at rfl) mp0)) (by simp)) (IH.out (left-i) (by omega) (p++[((i:Nat):Int)]) (by simp only[Ym,List.length_singleton];omega) _ hag2 _ _ hJ2 hpx ⟨q2,q3,q4,q5,sn,sy,st,sg⟩) λe w3 hR=>?_;obtain⟨rfl,hJ3,g2,hag3,q2,q3,q4,q5,sn,sy,st,sg⟩:=hR;refine⟨_,rfl,λfa F=>?_⟩;refine F.vl (Zb4 rfl (F.at rfl)) λfa F=>?_;refine wpList_nil ?_;replace hag3:=hag3.back;have hJ4:J (pre++(List.range (i+1)).flatMap fs) w3:=by rw[Z5f,<-List.append_assoc,show fs i=frL more (left-i) (p++[((i:Nat):Int)]) by rw[hfs]];exact hJ3
  refine hK11 _ _ ?_;refine cd_F F rfl ?_;refine Yi ?_;refine hK8 _ _ ?_;refine Yg ?_;refine F.vl (Z5O rfl (F.at rfl) (ev_c fa _) (by omega) (by omega)) λfa F=>?_;refine F.mv λfa F=>?_;refine wpList_nil ?_;show _/\_;exact⟨by omega,_,⟨g2,rfl,q2,q3,q4,q5,hag3,hJ4,sn,sy,st,sg⟩,F.sub (.c 25 rfl (.c 0 rfl (.c 1 rfl (.c 4 rfl (.c 5 rfl (.c 24 rfl .n))))))⟩
 ·skip
  refine wp_exit ?_;refine hK4 _ _<|wS λK12 hK12=>?_
  refine Yg ?_;refine F.vl (ZC rfl (ev_c fa _)) λfa F=>?_;refine wN<|hK12 _ _ ?_
  refine wp_ret ?_
  (try simp only[Exit.inBlock,Exit.then,reduceIte])
  refine rt_v F (rs_1 F rfl rfl) ?_;have hi:i=left+1:=(by omega);exact⟨rfl,(by rw[<-hi];exact hJ),g,hag,q2,q3,q4,q5,sn,sy,st,sg⟩
end
variable{μ:Nat}
theorem Z4l(h:Ext [] W W'): W.grownBy W' none:=⟨h.os,h.tape,h.output,h.size,λk hk _=>h.block k hk (by simp)⟩
theorem Zah(x:Vm)(hd4:x.D.length<=4)(X:List Nat)(ob nb yb tb gb l B0:Nat)(J:List (List Int)->World->Prop)(xs:List (List Int))(hB0:B0<=tb)(hnt:nb≠tb)(hyt:yb≠tb)(hgt:gb≠tb)
  (HJ:Hid (∀s U V r,J s U->Safe X ob r U->B0<=r->(∃o:Obj,U.heap[r]?=some o/\o.isCells=true)->U.grownBy V (some r)->J s V))
  (hY:∀pre q V,J pre V->pre++[q] <+: xs->YieldAt Fence.wide 0 (Qy.prog μ) l #[.agg (tubC (val q))] V λe V'=>e = .returned (.bool true)/\J (pre++[q]) V'/\KeepR X ob V V') :
  ∀(more left:Nat),left<=6->∀(p:List Int),p.length+more=x.D.length->∀(g:Nat->Int),Agr x.D.length g p->∀(pre:List (List Int)) (W:World),J pre W->pre++frL more left p <+: xs->ItB x X ob nb yb tb gb l g W ->
   Calls (Qy.prog μ) 127 #[.int .i64 ((p.length:Nat):Int),.int .i64 ((left:Nat):Int),.pointer (some ⟨nb,0,none⟩),.pointer (some ⟨yb,0,none⟩),.pointer (some ⟨tb,0,none⟩),.pointer (some ⟨gb,0,none⟩)] W λe W'=>e = .returned (.bool true)/\J (pre++frL more left p) W'/\∃g',Agr x.D.length g' p/\ItB x X ob nb yb tb gb l g' W'
 | 0,left,hl,p,hp,g,hag,pre,W,hJ,hx,hb=>ZeZ x X ob nb yb tb gb l J xs hY left hl p (by omega) g hag pre W hJ hx hb
 | more+1,left,hl,p,hp,g,hag,pre,W,hJ,hx,hb=>from_step x hd4 X ob nb yb tb gb l B0 J xs hB0 hnt hyt hgt HJ more (Lib.hid (Zah x hd4 X ob nb yb tb gb l B0 J xs hB0 hnt hyt hgt HJ hY more)) left hl p hp g hag pre W hJ hx hb
theorem Z8o(e:W.heap[ob]?=w.heap[ob]?): Z1i ob W=Z1i ob w:=by rw[Z1i,e];rfl
theorem Z4p(x:Vm)(hd4:x.D.length<=4)(X:List Nat)(ob nb:Nat)(w:World)(hob:ob<w.heap.size)(hX:∀b∈X,b<w.heap.size)(hrow:∀r,Z1i ob w=some r->r<w.heap.size)(hs:Safe X ob nb w)
  (hn:w.heap[nb]?=some (.cells #[.int .i64 x.B,.slice x.da x.D.length x.dc,.slice x.la x.L.length x.lc,.int .i64 x.tol] 85 (0,0))) :
  SeqR (Qy.prog μ) 126 #[.pointer (some ⟨nb,0,none⟩)] (λq:List Int=>#[.agg (tubC (val q))]) X ob (recL x.D.length) w:=by
 intro l J W hWs hWw hJ1 hJ2 hY h0;have HJ:=Lib.hid hJ2;have HY:=Lib.hid hY;have HJ1:=Lib.hid hJ1;have q1:W.heap[nb]?=some (.cells #[.int .i64 x.B,.slice x.da x.D.length x.dc,.slice x.la x.L.length x.lc,.int .i64 x.tol] 85 (0,0)):=(hWw nb (Z3 hn)).trans hn;have hnbl:=Z3 hn;have hobW:=hWw ob hob;have HXX:=Lib.hid hX;have HRW:=Lib.hid hrow;show Calls _ _ #[.func (.yield l) #[] #[],.pointer (some ⟨nb,0,none⟩)] _ _;have E:Ext [] W W:=Ext.refl _ _;clear hJ1 hJ2 hY hn hX hrow;refine ZS 8 Qy.func126 rfl Tryz.ntmps126 (Nat.le_of_ble_eq_true rfl) ?_;intro fa F;refine wS λK1 hK1=>?_;refine Yg ?_;refine sqN F (Z1B rfl (F.at rfl)) λfa w1 F hw=>?_;obtain⟨n2,hn⟩:=eQ W.heap.size;rw[<-hn]at F;have s2:=sQ hn;have l2_E:=lQ hn E.size;have m2_1:nb<n2:=by rw[hn];exact Z3 q1
 replace q1:=Z0 hw q1;replace E:=Z2 E hw;have q2:=Z09 hw rfl hn;clear hw hn;refine wN<|hK1 _ _<|wS λK2 hK2=>?_
 refine Yg ?_;refine sqN F (Ze rfl Qy.zeroValue88) λfa w2 F hw=>?_;obtain⟨n3,hn⟩:=eQ w1.heap.size;rw[<-hn]at F;have s3:=sQ hn;have l3_E:=lQ hn E.size;have m3_1:nb<n3:=by rw[hn];exact Z3 q1
 have m3_2:=tQ hn (Z3 q2);replace q1:=Z0 hw q1;replace q2:=Z0 hw q2;replace E:=Z2 E hw;have q3:=Zf hw hn;clear hw hn;refine wpList_nil ?_;replace q3:w2.heap[n3]?=some (.cells (tubC zf) 88 (0,0)):=q3;refine hK2 _ _<|wS λK3 hK3=>?_
 refine Yg ?_;refine sqN F (Ze rfl Qy.zeroValue161) λfa w3 F hw=>?_;obtain⟨n4,hn⟩:=eQ w2.heap.size;rw[<-hn]at F;have s4:=sQ hn;have l4_E:=lQ hn E.size;have m4_1:nb<n4:=by rw[hn];exact Z3 q1
 have m4_2:=tQ hn (Z3 q2);have m4_3:=tQ hn (Z3 q3);replace q1:=Z0 hw q1;replace q2:=Z0 hw q2;replace q3:=Z0 hw q3;replace E:=Z2 E hw;have q4:=Z09 hw rfl hn;clear hw hn;refine wN<|hK3 _ _<|wS λK4 hK4=>?_
 refine Yg ?_;refine F.vl (Z15 rfl (Z3i mp0) (Z3i (mpS (F.at rfl) (mpS (F.at rfl) (mpS (F.at rfl) (mpS (F.at rfl) mp0)))))) λfa F=>?_;refine Z0T rfl rfl (Z05 rfl (F.at rfl) (F.at rfl) rfl (by kernel_rfl) ((Z1 q4 0).trans (get0)) (Zd q4 0)) ?_;intro w4 hw;replace q1:=kce hw q1;replace q2:=kce hw q2;replace q3:=kce hw q3;replace q4:=ZG hw q4 (by simp only[List.setIfInBounds_toArray,lsQ,lzQ];exact rfl);replace E:=ece E hw;clear hw;refine wN<|hK4 _ _ ?_
 refine Yg ?_;refine F.vl (ZH rfl (F.at rfl) Qy.underlying161 rfl ((Z1 q4 0).trans (get0))) λfa F=>?_;have hrW:Z1i ob w4=Z1i ob w:=Z8o ((E.block ob (by omega) (by simp)).trans hobW);have hsf:∀k,w.heap.size<=k->Safe X ob k w4:=λk hk=>⟨λh=>(by have:=HXX.out k h;omega),(by omega),λe=>(by have:=HRW.out k (hrW.symm.trans e);omega)⟩;have hsn:Safe X ob nb w4:=hs.same ((E.block ob (by omega) (by simp)).trans hobW);have hJn:=HJ1.out [] W w4 h0 (Z4l E);have hall:=Zah x hd4 X ob nb n2 n3 n4 l W.heap.size J (recL x.D.length) (by omega) (by omega) (by omega) (by omega) HJ HY.out x.D.length 6 (by omega) [] (by simp) zf ⟨λj hj=>absurd hj (by simp),λj _=>rfl⟩ [] w4 hJn (by exact List.prefix_refl _) ⟨q1,q2,q3,q4,hsn,hsf _ (by omega),hsf _ (by omega),hsf _ (by omega)⟩;refine sqC F (Z38 rfl (F.at rfl) Qy.call127 (mpS (ev_c fa _) (mpS (ev_c fa _) mp0)) (by simp)) (hall) λe w5 hR=>?_;obtain⟨rfl,hJ3,g2,hag3,q1,q2,q3,q4,sn,sy,st,sg⟩:=hR;refine⟨_,rfl,λfa F=>?_⟩;refine wpList_nil ?_
 (try simp only[Exit.inBlock,Exit.then,reduceIte])
 refine ZiA F (rs_0 rfl) ?_;exact⟨⟨_,rfl⟩,hJ3⟩
theorem Z5s(x:Vm)(w:World):Calls (Qy.prog μ) 110 #[.agg #[.int .i64 x.B,.slice x.da x.D.length x.dc,.slice x.la x.L.length x.lc,.int .i64 x.tol]] w λe w'=>∃nb,e = .returned (.func (.func 126) #[] #[.pointer (some ⟨nb,0,none⟩)])/\w.heap.size<=nb/\w'.heap[nb]?=some (.cells #[.int .i64 x.B,.slice x.da x.D.length x.dc,.slice x.la x.L.length x.lc,.int .i64 x.tol] 85 (0,0))/\Ext [] w w':=by
 have E:Ext [] w w:=Ext.refl _ _;have G:=(Bk.nil w).ce E;refine(ent 4 Tryz.f110 rfl) λF=>wR λk1=>(F.bx G) @λn1 w1 _ yy F G=>(F.m) λF=>k1<|wR λk2=>(F.y F.mf) λF=>(F.m) λF=>k2<|(F.r1) ?_
 exact⟨n1,rfl,by omega,(G.q 0),(G.e 1)⟩
end
section
open Go.RowKit Go.Maps Go.WideMaps Go.ChangeShapes
variable{μ:Nat}
theorem arrT:ArrKey (Qy.prog μ) 88 3 4:=⟨Qy.underlying88,by kernel_rfl,by kernel_rfl,by kernel_rfl⟩
theorem Zlw:laidOutB (Qy.prog μ)=true:=Qy.laid
theorem rowT:(88:TypeId)<(Qy.prog μ).types.size:=of_decide_eq_true (by kernel_rfl)
theorem ZjY:(Qy.prog μ).keyTypeAt 2 88=true:=arrT.at 0
theorem lawT:KeyLaw (Qy.prog μ) 88:=deep_law_laid (P:=(Qy.prog μ)) (m:=2) (k:=88) Zlw (by omega) rowT ZjY (by rw[Qy.underlying88])
theorem Zd9:Keyed (Qy.prog μ) 88:=Keyed.of_law lawT
def klT(f:Nat->Int):Lit:=.string (keyBytes [.int .i64 (f 0),.int .i64 (f 1),.int .i64 (f 2),.int .i64 (f 3)])
theorem Z3E(hf:TubS f): keyOf (Qy.prog μ) 88 (.agg (tubC f))=some (klT f):=by
 have hsz:∃m,(Qy.prog μ).types.size=m+1:=by
  have h0:0<(Qy.prog μ).types.size:=Nat.lt_of_le_of_lt (Nat.zero_le _) rowT;revert h0;generalize (Qy.prog μ).types.size=n;intro h0;exact⟨n-1,by omega⟩
 have hkt:=arrT.keyType hsz;obtain⟨m,hm⟩:=hsz;have hw:∀k,k<4->(Lit.int .i64 (f k)).wf=true:=λk hk=>by have:=hf k hk;exact WalkArith.wf_i64 (by omega)
 have h0:=hw 0 (by omega);have h1:=hw 1 (by omega);have h2:=hw 2 (by omega);have h3:=hw 3 (by omega);unfold keyOf;simp only[arrT.hu];rw[if_pos (by simp[hkt,Value.formed,arrT.hu,arrT.size,tubC]),hm];unfold Program.keyLits;simp only[arrT.hu,Value.cells];rw[if_pos (by rw[arrT.size];rfl),show List.range 4=[0,1,2,3] from rfl,List.mapM_cons,List.mapM_cons,List.mapM_cons,List.mapM_cons,List.mapM_nil];simp[arrT.one,Program.keyLits,Qy.underlying3,h0,h1,h2,h3,tubC,klT]
theorem ZjZ(hf:TubS f)(hg:TubS g)(hk:k<4)(h:f k≠g k): klT f≠klT g:=by
 intro e;have h1:=(Zd9 (μ:=0)).inj (Z3E (μ:=0) hf) (by rw[e];exact Z3E hg);have h2:tubC f=tubC g:=by simpa using h1
 have:=congrArg (λa:Array Value=>a[k]?) h2;have t1:=Z6u (f:=f) (i:=(k:Int)) (k:=k) rfl hk;have t2:=Z6u (f:=g) (i:=(k:Int)) (k:=k) rfl hk;rw[Int.toNat_natCast]at t1 t2;simp only[t1,t2]at this;exact h (by simpa using this)
theorem Z3N{H:Type}(he:P.underlying e=some .bool){z:DataW H×List MemPlace}(h:plainElem P e v=some z): ∃b,v = .bool b/\z=(.lit (.bool b),[]):=by
 unfold plainElem at h
 cases v<;>simp[he]at h
 rename_i b;exact⟨b,rfl,by first | exact h.symm | (rw[<-h])⟩
def MapT(w:World)(b:Nat)(out:List (List Int)):Prop:=∃D:DataW Unit,w.ownsMap (Qy.prog μ) 88 (plainElem (Qy.prog μ) 4) b out.length D/\∀f,TubS f->(∀t∈out,∃k,k<4/\f k≠val t k)->D.atKey (klT f) (.lit (.bool false)) = .lit (.bool false)
theorem MapT.kept{w w':World}{b:Nat}{out:List (List Int)}{row:Option Nat}(h:MapT (μ:=μ) w b out)(hg:w.grownBy w' row)(hr:some b≠row):MapT (μ:=μ) w' b out:=by
 obtain⟨D,h1,h2⟩:=h;exact⟨D,h1.kept hg hr,h2⟩
theorem MapT.obj{w:World}{out:List (List Int)}(h:MapT (μ:=μ) w b out): ∃es clock,w.heap[b]?=some (.map es clock):=by
 obtain⟨D,⟨es,clock,hb,-⟩,-⟩:=h;exact⟨es,clock,hb⟩
theorem MapT.ne{w:World}{out:List (List Int)}(h:MapT (μ:=μ) w b out){o:Obj}(H:w.heap[c]?=some o)(ho:∀es k,o ≠ .map es k): b≠c:=by
 intro e;obtain⟨es,k,hb⟩:=h.obj;subst e;rw[H]at hb;exact ho es k (by simpa using hb)
theorem Z3K{w: World}{o:Obj}{out:List (List Int)}(e:w2=w.alloc o)(h:MapT (μ:=μ) w b out): MapT (μ:=μ) w2 b out:=by rw[e];exact h.kept (World.grownBy_alloc w o none) (by simp)
theorem Z8h{w: World}{off: Nat}{l:List Value}{out:List (List Int)}{cs:Array Value}(e:w2=w.setCells c off l)(h:MapT (μ:=μ) w b out)(H:w.heap[c]?=some (.cells cs T fz)): MapT (μ:=μ) w2 b out:=by
 have hbc:=h.ne H (λ_ _ h=>by cases h);obtain⟨D,⟨es,clock,hb,h3,h4,h5⟩,h2⟩:=h;exact⟨D,⟨es,clock,Z16 e hb hbc,h3,h4,h5⟩,h2⟩
theorem Zap{w: World}{off: Nat}{out:List (List Int)}{cs:Array Value}(e:w2=w.setCell ⟨c,off,none⟩ v)(h:MapT (μ:=μ) w b out)(H:w.heap[c]?=some (.cells cs T fz)): MapT (μ:=μ) w2 b out:=by
 have hbc:=h.ne H (λ_ _ h=>by cases h);obtain⟨D,⟨es,clock,hb,h3,h4,h5⟩,h2⟩:=h;exact⟨D,⟨es,clock,Z1U e hb hbc,h3,h4,h5⟩,h2⟩
theorem Z9i{w: World}{out:List (List Int)}(h:MapT (μ:=μ) w b out)(e:Ext [] w w2): MapT (μ:=μ) w2 b out:=h.kept (Z4l e) (by simp)
theorem Zi4{w: World}{base size: Nat}{xs:List Value}{out:List (List Int)}(h:MapT (μ:=μ) w b out)(ho:w.ownsRow base e size v n xs)(hg:w.grownBy w2 v.ownBlock): MapT (μ:=μ) w2 b out:=by
 refine h.kept hg ?_
 rcases ho.2 with⟨rfl,_⟩ | ⟨g,cap,cur,rfl,_,hgb,_⟩
 ·simp[Value.ownBlock]
 ·intro e
  exact h.ne hgb (λ_ _ h=>by cases h) (by simpa[Value.ownBlock] using e)
theorem Zi5{w: World}{D: Nat}{out:List (List Int)}{d:Option (List Deferred)}{o':Obj}(e:w2=w.putObj D o')(hD:w.heap[D]?=some (.deferred d))(h:MapT (μ:=μ) w b out): MapT (μ:=μ) w2 b out:=by
 rw[e];exact h.kept (grownBy_putObj' w D o') (λe=>h.ne hD (λ_ _ h=>by cases h) (by simpa using e))
theorem Zff(w:World):MapT (μ:=μ) (w.alloc (.map #[] 0)) w.heap.size []:=⟨.map [],World.ownsMap_made w _ _ _,λf _ _=>rfl⟩
section
variable{ρ:Operand->Value}{o:Oper}{w:World}
theorem Zc1(ho:o.op = .makeMap t none): (execOp ρ o).run P w = .ok (.value (.map (some w.heap.size))) (w.alloc (.map #[] 0)):=by
 unfold execOp;simp[ho,run_makeMap,Result.andThen,go_sem]
theorem Zc0{out:List (List Int)}(ho:o.op = .lookup 157 x y false)(hx:ρ x = .map (some b))(hy:ρ y = .agg (tubC f))(hf:TubS f)(h:MapT (μ:=μ) w b out):
  ∃c,(execOp ρ o).run (Qy.prog μ) w = .ok (.value (.bool c)) w/\((∀t∈out,∃k,k<4/\f k≠val t k)->c=false):=by
 obtain⟨D,h1,h2⟩:=h;obtain⟨v,ps,hr,hv⟩:=h1.lookup Zd9 Qy.underlying157 (z:=.bool false) (zd:=.lit (.bool false)) (zp:=[]) (by kernel_rfl) (plainElem_bool Qy.underlying4 false) (Z3E hf);obtain⟨c,rfl,hc⟩:=Z3N Qy.underlying4 hv;refine⟨c,?_,λhn=>?_⟩
 ·unfold execOp
  simp[ho,hx,hy,hr,Result.andThen,go_sem]
 ·have h3:=h2 f hf hn
  simp only[Y9]at hc;rw[h3]at hc;simpa using hc.1.symm
theorem Zc2{z: Operand}{out:List (List Int)}{t:List Int}(ho:o.op = .mapUpdate 157 x y z)(hx:ρ x = .map (some b))(hy:ρ y = .agg (tubC (val t)))(hz:ρ z = .bool true)(hf:TubS (val t))(hl:out.length<1000)(h:MapT (μ:=μ) w b out):
  ∃w',(execOp ρ o).run (Qy.prog μ) w = .ok .skip w'/\MapT (μ:=μ) w' b (out++[t])/\w.grownBy w' (some b):=by
 obtain⟨D,h1,h2⟩:=h;obtain⟨w',hr,h3,h4⟩:=h1.update Zd9 Qy.underlying157 (by simp only[maxLen];omega) (Z3E hf) (plainElem_bool Qy.underlying4 true);refine⟨w',?_,⟨_,by rw[Ym];exact h3,λf hff hn=>?_⟩,h4⟩
 ·unfold execOp
  simp[ho,hx,hy,hz,hr,Result.andThen,go_sem]
 ·obtain⟨k,hk,hne⟩:=hn t (by simp)
  rw[atKey_put_other (ZjZ hff hf hk hne)];exact h2 f hff λu hu=>hn u (by simp[hu])
end
end
section
open Go.RowKit Go.Maps
variable{μ:Nat}
section
variable{P:Program}{ops:Array Oper}{Q:Exit->Act->World->Prop}{o:Oper}{rest:List Oper}{N:Nat}{D:List Deferred}{a:Act}{L:List (Nat×Value)}{w w':World}{v:Value}
theorem ZkC{C:Value->Prop}(F:Has N D a L){d:Nat}(hd:o.dst=some d)(hN:d<N)(hw:Region.wanted o (yielded ops a.tmps)=true)(hr:∃v,(execOp a.eval o).run P w = .ok (.value v) w/\C v)(h:∀a2 v,Has N D a2 ((d,v)::L)->C v->wpList P ops Q rest a2 w): wpList P ops Q (o::rest) a w:=by
 obtain⟨v,h1,h2⟩:=hr;exact Z6k F hd hN hw h1 λa2 F2=>h a2 v F2 h2
theorem ZkD{C:World->Prop}(hd:o.dst=none)(hw:Region.wanted o (yielded ops a.tmps)=true)(hr:∃w',(execOp a.eval o).run P w = .ok .skip w'/\C w')(h:∀w2,C w2->wpList P ops Q rest a w2): wpList P ops Q (o::rest) a w:=by
 obtain⟨w',h1,h2⟩:=hr;exact Z0T hd hw h1 λw2 e=>h w2 (by rw[e];exact h2)
theorem ZaY{G:Fence}{c:Code}(F:Has N D a L)(h:∀fb,Has N D fb L->c.wpIn G n P Q fb w): c.wpIn G n P Q a w:=h a F
theorem Has.param(F:Has N D a L){p:Nat}(hp:p<N)(v:Value): Has N [] {tmps:=(#[p].zip #[v]).foldl (λt (p,v)=>t.setIfInBounds p v) a.tmps,defers:=[]} ((p,v)::L):=by
 have h:=F.put hp v;have e:({tmps:=(#[p].zip #[v]).foldl (λt (p,v)=>t.setIfInBounds p v) a.tmps,defers:=[]}:Act)={a.put (some p) v with defers:=[]}:=by simp[Act.put]
 rw[e];exact⟨rfl,h.sz,h.get⟩
end
theorem Z2c{w: World}{out:List (List Int)}{cs:Array Value}(h:MapT (μ:=μ) w b out)(hg:w.grownBy w2 (some b))(q:w.heap[c]?=some (.cells cs T fz)): w2.heap[c]?=some (.cells cs T fz):=
 (hg.block c (Z3 q) (λe=>h.ne q (λ_ _ h=>by cases h) (by simpa using e.symm))).trans q
theorem Zfu{w: World}{base size: Nat}{v:Value}{xs:List Value}{out:List (List Int)}(h:MapT (μ:=μ) w b out)(hg:w.grownBy w2 (some b))(ho:w.ownsRow base e size v n xs): w2.ownsRow base e size v n xs:=by
 refine ho.kept hg ?_
 rcases ho.2 with⟨rfl,_⟩ | ⟨g,cap,cur,rfl,_,hgb,_⟩
 ·exact .inl rfl
 ·exact .inr λe=>h.ne hgb (λ_ _ h=>by cases h) (by simpa[Value.ownBlock] using e.symm)
theorem Za9{a w: World}(h:Ext X a w)(hg:w.grownBy w2 (some b))(hb:b<a.heap.size->b∈X): Ext X a w2:=
 ⟨hg.os.trans h.os,hg.tape.trans h.tape,hg.output.trans h.output,Yd h.size hg.size,λk hk hx=>(hg.block k (Y8 hk h.size) (λe=>by cases e;exact hx (hb hk))).trans (h.block k hk hx)⟩
theorem Z1T{a w: World}{row:Option Nat}(h:Ext X a w)(hg:w.grownBy w2 row)(hb:∀b,row=some b->b<a.heap.size->b∈X): Ext X a w2:=
 ⟨hg.os.trans h.os,hg.tape.trans h.tape,hg.output.trans h.output,Yd h.size hg.size,λk hk hx=>(hg.block k (Y8 hk h.size) (λe=>by cases e;exact hx (hb _ rfl hk))).trans (h.block k hk hx)⟩
theorem Z0y{B:Nat}(h:Ext X W W')(hX:∀b∈X,b<B\/∃cs T fz,W.heap[b]?=some (.cells cs T fz)): KeepsFrom B W W':=
 ⟨h.size,λk o hk ho hc=>h.keep ho λhm=>by
  rcases hX k hm with h1 | ⟨cs,T,fz,h1⟩
  ·omega
  ·rw[h1]at ho;cases ho;cases hc⟩
theorem Z0Q(h:Ext X W W')(hX:∀k cs T fz,W.heap[k]?=some (.cells cs T fz)->Safe Y ob k W->k ∉ X)(hr:Z1i ob W'=Z1i ob W\/∀r,Z1i ob W'=some r->W.heap.size<=r): KeepR Y ob W W':=
 ⟨h.size,λk cs T fz hk hs=>h.keep hk (hX k cs T fz hk hs),hr⟩
theorem Z67(h:Ext [] W W')(hob:ob<W.heap.size): KeepR Y ob W W':=
 Z0Q h (λ_ _ _ _ _ _=>by simp) (.inl (Z8o (h.block ob hob (by simp))))
def tubE(f g:Nat->Int):Bool:=(List.range 4).all λi=>decide (f i=g i)
theorem ZaT: tubE f g=true↔∀k,k<4->f k=g k:=by
 simp[tubE,Yl]
theorem Zhx(f g:Nat->Int)(w:World):(Op.equalIn 10000 88 (.agg (tubC f)) (.agg (tubC g))).run (Qy.prog μ) w = .ok (tubE f g) w:=by
 refine Z1Y (n:=1) Qy.underlying88 (by kernel_rfl) _ λi hi=>?_;refine⟨.int .i64 (f i),.int .i64 (g i),?_,?_,run_equalIn_int w _ _ .i64 .i64 _ _ Qy.underlying3⟩
 ·rcases i with _ | _ | _ | _ | i
  ·exact Z07 rfl
  ·exact Z07 rfl
  ·exact Z07 rfl
  ·exact Z07 rfl
  ·omega
 ·rcases i with _ | _ | _ | _ | i
  ·exact Z07 rfl
  ·exact Z07 rfl
  ·exact Z07 rfl
  ·exact Z07 rfl
  ·omega
section
variable{ρ:Operand->Value}{o:Oper}{w:World}
theorem Zev(ho:o.op = .binOp .neq 88 x y t')(hx:ρ x = .agg (tubC f))(hy:ρ y = .agg (tubC g)):
  (execOp ρ o).run (Qy.prog μ) w = .ok (.value (.bool (!tubE f g))) w:=by
 have hg:(Qy.prog μ).eqGuardType (Qy.prog μ).depth 88=false:=by kernel_rfl
 unfold execOp;simp only[ho,hx,hy,Sem.run_bind,run_eqGuard_agg w .neq 88 x y (tubC f) (tubC g) hg,Result.andThen_ok,run_neq_struct,Zhx,Sem.run_pure]
theorem ZbZ{out:List (List Int)}(ho:o.op = .lookup 157 x y false)(hx:ρ x = .map (some b))(hy:ρ y = .agg (tubC f))(hf:TubS f)(h:MapT (μ:=μ) w b out):
  ∃v,(execOp ρ o).run (Qy.prog μ) w = .ok (.value v) w/\∃c,v = .bool c/\((∀t∈out,∃k,k<4/\f k≠val t k)->c=false):=by
 obtain⟨c,h1,h2⟩:=Zc0 ho hx hy hf h;exact⟨_,h1,c,rfl,h2⟩
end
instance (f:Nat->Int):Decidable (TubS f):=inferInstanceAs (Decidable (∀k,k<4->0<=f k/\f k<=6))
theorem Z7q:∀nd,nd<5->(recL nd).Nodup/\∀q∈recL nd,q.length=nd/\TubS (val q)/\0<gcE (val q)/\1<=q.sum/\q.sum<=6/\∀n∈q,0<=n/\n<=6:=by decide +kernel
theorem ZaC:∀nd,nd<5->(recL nd).length<=500:=by decide +kernel
variable{μ:Nat}
theorem Z9f(h:gcE f=1)(hk:k<4): lowF f (gcE f) 4 k=f k:=by
 rw[lowF,if_pos hk,h];simp
theorem Zlz(hf:TubS f)(hg:0<gcE f): TubS (lowF f (gcE f) 4):=by
 intro k hk;obtain⟨h0,h1⟩:=hf k hk;rw[lowF,if_pos hk];have h2:(1:Int)<=(gcE f:Int):=by omega
 refine⟨Int.ediv_nonneg h0 (by omega),Int.le_trans (Int.ediv_le_self _ h0) h1⟩
theorem Zai{f:Nat->Int}:∀{n:Nat},(∀k,k<n->f k<=0)->gcT f n=0
 | 0,_=>rfl
 | n+1,h=>by
  rw[gcT,Zai (n:=n) λk hk=>h k (by omega),show (f n).toNat=0 by have:=h n (by omega);omega,Nat.gcd_zero_right]
theorem Zk3(hf:TubS f)(hg:0<gcE f)(h:tubE (lowF f (gcE f) 4) f=true): gcE f=1:=by
 rw[ZaT]at h
 by_cases hz:∀k,k<4->f k<=0
 ·rw[gcE,Zai hz]at hg;omega
 ·simp only[Classical.not_forall]at hz
  obtain⟨k,hk,hp⟩:=hz;have h1:=h k hk;rw[lowF,if_pos hk]at h1;obtain⟨h0,-⟩:=hf k hk
  by_cases h2:(gcE f:Int)>=2
  ·have h3:f k / (gcE f:Int)<f k:=Int.ediv_lt_of_lt_mul (by omega) (by
    have:f k*2<=f k*(gcE f:Int):=Int.mul_le_mul_of_nonneg_left h2 h0;omega)
   omega
  ·omega
theorem Z7f(h:gcE f=1): (!tubE (lowF f (gcE f) 4) f)=false:=by rw[ZaT.2 λk hk=>Z9f h hk];rfl
theorem Z9Y{b:Bool}(h:(!b)=true): b=false:=by cases b;rfl;cases h
theorem Z9X{b:Bool}(h:(!b)=false): b=true:=by cases b;cases h;rfl
def cndE(x:Vm)(s:Nat->Int)(ls:List Int)(t:List Int):Bool:=decide (gcE (val t)=1)&&matE x (val t) s ls
def matL(x:Vm)(s:Nat->Int)(ls:List Int):List (List Int):=(recL x.D.length).filter (cndE x s ls)
theorem Z4j{x:Vm}{t: List Int}(h:gcE (val t)≠1): cndE x s ls t=false:=by rw[cndE,decide_eq_false h];rfl
theorem Z6R{x:Vm}{t: List Int}(h:matE x (val t) s ls=false): cndE x s ls t=false:=by rw[cndE,h,Bool.and_false]
theorem Z6S{x:Vm}{t: List Int}(h1:gcE (val t)=1)(h:matE x (val t) s ls=true): cndE x s ls t=true:=by rw[cndE,h,Bool.and_true];exact decide_eq_true h1
theorem ZkV{t q:List Int}(hl:t.length=q.length)(h4:t.length<=4)(h:t≠q): ∃k,k<4/\val q k≠val t k:=by
 apply Classical.byContradiction;intro hn;refine h (List.ext_getElem hl λk h1 h2=>?_);apply Classical.byContradiction;intro he;refine hn ⟨k,by omega,λe=>he ?_⟩;simpa[val,h1,h2] using e.symm
structure MatI(x:Vm)(sv lv:Value)(w:World)(B n3 n4 n5 n7 n8 mb:Nat)(out:List (List Int))(va:Option Addr)(vc:Nat)(W:World):Prop where
 q3:W.heap[n3]?=some (.cells #[.int .i64 x.B,.slice x.da x.D.length x.dc,.slice x.la x.L.length x.lc,.int .i64 x.tol] 85 (0,0))
 q4:W.heap[n4]?=some (.cells #[sv] 22 (0,0))
 q5:W.heap[n5]?=some (.cells #[lv] 22 (0,0))
 q7:W.heap[n7]?=some (.cells #[.slice va out.length vc] 93 (0,0))
 q8:W.heap[n8]?=some (.cells #[.map (some mb)] 157 (0,0))
 oo:W.ownsRow w.heap.size 88 4 (.slice va out.length vc) out.length (Z3p out)
 mp:MapT (μ:=μ) W mb out
 E:Ext [] w W
 sz:B<=W.heap.size
theorem MatI.kept{x:Vm}{sv lv:Value}{w:World}{n3 n4 n5 n7 n8 mb B:Nat}{out:List (List Int)}{va:Option Addr}{vc:Nat}{W V:World}{row:Option Nat}(h:MatI (μ:=μ) x sv lv w B n3 n4 n5 n7 n8 mb out va vc W)(hg:W.grownBy V row)(h1:∀r,row=some r->B<=r)
  (h2:∀r,row=some r->(Value.slice va out.length vc).ownBlock≠some r) (hB:n3<B/\n4<B/\n5<B/\n7<B/\n8<B/\mb<B/\w.heap.size<=B):MatI (μ:=μ) x sv lv w B n3 n4 n5 n7 n8 mb out va vc V:=by
 obtain⟨b3,b4,b5,b7,b8,bm,bw⟩:=hB;have hk:∀{k:Nat} {cs:Array Value} {T:TypeId} {fz:Nat×Nat},W.heap[k]?=some (.cells cs T fz)->k<B->V.heap[k]?=some (.cells cs T fz):=
  λ{k cs T fz} hq hb=>(hg.block k (Z3 hq) (λe=>by have:=h1 k e.symm;omega)).trans hq
 refine⟨hk h.q3 b3,hk h.q4 b4,hk h.q5 b5,hk h.q7 b7,hk h.q8 b8,h.oo.kept hg ?_,h.mp.kept hg (λe=>by have:=h1 mb e.symm;omega),Z1T h.E hg λb e hl=>(by have:=h1 b e;omega),Yd h.sz hg.size⟩
 cases hrow:row with
 | none =>
  cases hob:(Value.slice va out.length vc).ownBlock with
  | none=>exact .inl rfl
  | some g=>exact .inr (by simp)
 | some r=>exact .inr (h2 r hrow)
theorem Z0o{x:Vm}{sv lv:Value}{n3 n4 n5 n7 n8 mb B:Nat}{out:List (List Int)}{va:Option Addr}{vc:Nat}{p:List Int->Bool}{q:List Int}(hp:p q=false)(h:MatI (μ:=μ) x sv lv w B n3 n4 n5 n7 n8 mb out va vc W): ∃va vc,MatI (μ:=μ) x sv lv w B n3 n4 n5 n7 n8 mb (if p q then out++[q] else out) va vc W:=by
 rw[hp];exact⟨va,vc,h⟩
theorem Z4R{x:Vm}{sv lv:Value}{n3 n4 n5 n7 n8 mb B:Nat}{out:List (List Int)}{va:Option Addr}{vc:Nat}{p:List Int->Bool}{q:List Int}(hp:p q=true)(h:MatI (μ:=μ) x sv lv w B n3 n4 n5 n7 n8 mb (out++[q]) va vc W): ∃va vc,MatI (μ:=μ) x sv lv w B n3 n4 n5 n7 n8 mb (if p q then out++[q] else out) va vc W:=by
 rw[hp];exact⟨va,vc,h⟩
theorem Z00(h:W.heap[ob]?=some (.cells #[v] T fz)): Z1i ob W=v.ownBlock:=by rw[Z1i,h];rfl
theorem ZdA(v:Value)(d:Nat):∃r,(∀b,v.ownBlock=some b->b=r)/\(v.ownBlock=some r\/r=d):=by
 cases h:v.ownBlock with
 | none=>exact⟨d,λb e=>(by cases e),.inr rfl⟩
 | some r=>exact⟨r,λb e=>(by cases e;rfl),.inl rfl⟩
theorem Z5p{base size: Nat}{xs:List Value}(h:w.ownsRow base e size v n xs){r:Nat}(hr:v.ownBlock=some r): ∃cs T fz,w.heap[r]?=some (.cells cs T fz):=by
 rcases h.2 with⟨rfl,_⟩ | ⟨g,cap,cur,rfl,_,hgb,_⟩
 ·cases hr
 ·obtain rfl:g=r:=by simpa[Value.ownBlock] using hr
  exact⟨_,_,_,hgb⟩
theorem Z3d{α:Type}(p:α->Bool)(l:List α)(x:α): (l++[x]).filter p=if p x then l.filter p++[x] else l.filter p:=by
 rw[List.filter_append]
 by_cases h:p x=true
 ·simp[h]
 ·simp[h]
theorem ZbN(out:List (List Int))(t:List Int):Z3p out++tubR (val t)=Z3p (out++[t]):=by simp[Z3p]
theorem Z9l(x:Vm)(hv:VOk x)(s:List Int)(hs:Z1L x s)(ls:List Int)(hl:ZbV x ls)(hll:ls.length<=1000)(sa la:Option Addr)(sc lc:Nat)(w:World)(h:x.At w)(hr:Z8 w (.slice sa s.length sc) 1 (s.map Z7))(hq:Z8 w (.slice la ls.length lc) 1 (ls.map Z7)):
  Calls (Qy.prog μ) 107 #[.agg #[.int .i64 x.B,.slice x.da x.D.length x.dc,.slice x.la x.L.length x.lc,.int .i64 x.tol],.slice sa s.length sc,.slice la ls.length lc] w λe w'=>∃a c,e = .returned (.slice a (matL x (val s) ls).length c)/\w'.ownsRow w.heap.size 88 4 (.slice a (matL x (val s) ls).length c) (matL x (val s) ls).length (Z3p (matL x (val s) ls))/\Ext [] w w':=by
 have E:Ext [] w w:=Ext.refl _ _;have HX:=Lib.hid h;have HV:=Lib.hid hv;have HS:=Lib.hid hs;have HR:=Lib.hid hr;have HQ:=Lib.hid hq;have HL:=Lib.hid hl;have hd4:=hv.d4;obtain⟨hnd,hrl⟩:=Z7q x.D.length (by omega);have HND:=Lib.hid hnd;have HRL:=Lib.hid hrl;clear h hv hs hr hq hl hnd hrl;refine Z1M 40 Qy.func107 rfl Tryz.ntmps107 (Nat.le_of_ble_eq_true rfl) ?_;intro fa F;refine wS λK1 hK1=>?_;refine Yg ?_;refine sqN F (Z1B rfl (F.at rfl)) λfa w1 F hw=>?_;obtain⟨n3,hn⟩:=eQ w.heap.size;rw[<-hn]at F;have s3:=sQ hn;have l3_E:=lQ hn E.size;replace E:=Z2 E hw;have q3:=Zf hw hn;clear hw hn;refine sqN F (Z1B rfl (F.at rfl)) λfa w2 F hw=>?_;obtain⟨n4,hn⟩:=eQ w1.heap.size;rw[<-hn]at F;have s4:=sQ hn;have l4_E:=lQ hn E.size;have m4_3:=tQ hn (Z3 q3);replace q3:=Z0 hw q3;replace E:=Z2 E hw;have q4:=Z09 hw rfl hn;clear hw hn;refine sqN F (Z1B rfl (F.at rfl)) λfa w3 F hw=>?_;obtain⟨n5,hn⟩:=eQ w2.heap.size;rw[<-hn]at F;have s5:=sQ hn;have l5_E:=lQ hn E.size;have m5_3:=tQ hn (Z3 q3);have m5_4:=tQ hn (Z3 q4);replace q3:=Z0 hw q3;replace q4:=Z0 hw q4;replace E:=Z2 E hw;have q5:=Z09 hw rfl hn;clear hw hn;refine F.vl (ZC rfl (ev_c fa _)) λfa F=>?_;refine wN<|hK1 _ _<|wS λK2 hK2=>?_
 refine Yg ?_;refine sqN F (Ze rfl Qy.zeroValue93) λfa w4 F hw=>?_;obtain⟨n7,hn⟩:=eQ w3.heap.size;rw[<-hn]at F;have s7:=sQ hn;have l7_E:=lQ hn E.size;have m7_3:=tQ hn (Z3 q3);have m7_4:=tQ hn (Z3 q4);have m7_5:=tQ hn (Z3 q5);replace q3:=Z0 hw q3;replace q4:=Z0 hw q4;replace q5:=Z0 hw q5;replace E:=Z2 E hw;have q7:=Z09 hw rfl hn;clear hw hn;refine wN<|hK2 _ _<|wS λK3 hK3=>?_
 refine Yg ?_;refine sqN F (Zc1 rfl) λfa w5 F hw=>?_;obtain⟨n11,hn⟩:=eQ w4.heap.size;rw[<-hn]at F;have s11:=sQ hn;have l11_E:=lQ hn E.size;have m11_3:=tQ hn (Z3 q3);have m11_4:=tQ hn (Z3 q4);have m11_5:=tQ hn (Z3 q5);have m11_7:=tQ hn (Z3 q7);replace q3:=Z0 hw q3;replace q4:=Z0 hw q4;replace q5:=Z0 hw q5;replace q7:=Z0 hw q7;replace E:=Z2 E hw;have map11:MapT (μ:=μ) w5 n11 []:=by rw[hw,hn];exact Zff _
 clear hw hn;refine sqN F (Ze rfl Qy.zeroValue157) λfa w6 F hw=>?_;obtain⟨n8,hn⟩:=eQ w5.heap.size;rw[<-hn]at F;have s8:=sQ hn;have l8_E:=lQ hn E.size;have m8_3:=tQ hn (Z3 q3);have m8_4:=tQ hn (Z3 q4);have m8_5:=tQ hn (Z3 q5);have m8_7:=tQ hn (Z3 q7);replace map11:=Z3K hw map11;replace q3:=Z0 hw q3;replace q4:=Z0 hw q4;replace q5:=Z0 hw q5;replace q7:=Z0 hw q7;replace E:=Z2 E hw;have q8:=Z09 hw rfl hn;clear hw hn;refine Z0T rfl rfl (Z05 rfl (F.at rfl) (F.at rfl) rfl (by kernel_rfl) ((Z1 q8 0).trans (get0)) (Zd q8 0)) ?_;intro w7 hw;replace map11:=Zap hw map11 q8;replace q3:=kce hw q3;replace q4:=kce hw q4;replace q5:=kce hw q5;replace q7:=kce hw q7;replace q8:=ZG hw q8 (by simp only[List.setIfInBounds_toArray,lsQ,lzQ];exact rfl);replace E:=ece E hw;clear hw;refine wN<|hK3 _ _<|wS λK4 hK4=>wS λK5 hK5=>?_
 refine Yg ?_;refine F.vl (Zc rfl (F.at rfl) Qy.underlying85 rfl (by kernel_rfl) q3) λfa F=>?_;have b7':=Z3 q7;refine sqC F (Za rfl rfl Qy.call110 (mpS (F.at rfl) mp0)) (Z5s x _) λe w8 hR=>?_;obtain⟨nb,rfl,hnb,qb,e9⟩:=hR;refine⟨_,rfl,λfa F=>?_⟩;replace map11:=Z9i map11 (e9);replace q3:=(e9).keep0 q3;replace q4:=(e9).keep0 q4;replace q5:=(e9).keep0 q5;replace q7:=(e9).keep0 q7;replace q8:=(e9).keep0 q8;replace E:=Z4 E (e9);clear e9;refine wN<|hK5 _ _ ?_
 refine Yh ?_;obtain⟨w3,hw3⟩:∃w3,w3=w8:=⟨_,rfl⟩;have b3:=Z3 q3;have b4:=Z3 q4;have b5:=Z3 q5;have b7:=Z3 q7;have b8:=Z3 q8;have bb:=Z3 qb;have bw:=E.size;have bm:n11<w8.heap.size:=(by obtain⟨es,ck,hm⟩:=map11.obj;exact Z3 hm);have hr0:Z1i n7 w8=none:=Z00 q7;have hseq:=Z4p (μ:=μ) x hd4 [] n7 nb w8 b7 (by simp) (λr e=>by rw[hr0]at e;cases e) ⟨by simp,by omega,by rw[hr0];simp⟩ qb;have hI0:∃va vc,MatI (μ:=μ) x (.slice sa s.length sc) (.slice la ls.length lc) w w8.heap.size n3 n4 n5 n7 n8 n11 (([]:List (List Int)).filter (cndE x (val s) ls)) va vc w8:=⟨none,0,q3,q4,q5,q7,q8,World.ownsRow_nil _ _ _ _,map11,E,Ye _⟩;replace F:=F.sub (.c 3 rfl (.c 4 rfl (.c 5 rfl (.c 7 rfl (.c 8 rfl (.c 13 rfl .n))))));refine ZdH (F.at rfl) Qy.call126 hseq (λ_=>rfl) b7 (λpre W=>∃va vc,MatI (μ:=μ) x (.slice sa s.length sc) (.slice la ls.length lc) w w8.heap.size n3 n4 n5 n7 n8 n11 (pre.filter (cndE x (val s) ls)) va vc W) ?h1 ?ho ?hc hI0 (λpre q a' W=>∃nt va vc,Has 40 [] a' [(3,.pointer (some ⟨n3,0,none⟩)),(4,.pointer (some ⟨n4,0,none⟩)),(5,.pointer (some ⟨n5,0,none⟩)),(7,.pointer (some ⟨n7,0,none⟩)),(8,.pointer (some ⟨n8,0,none⟩)),(9,.pointer (some ⟨nt,0,none⟩))]/\MatI (μ:=μ) x (.slice sa s.length sc) (.slice la ls.length lc) w w8.heap.size n3 n4 n5 n7 n8 n11 (pre.filter (cndE x (val s) ls)) va vc W/\W.heap[nt]?=some (.cells (tubC (val q)) 88 (0,0))/\w8.heap.size<=nt/\some nt≠(Value.slice va (pre.filter (cndE x (val s) ls)).length vc).ownBlock) ?hax ?assign ?body ?done
 case h1=>rintro pre U V ⟨va,vc,hI⟩ hg;exact⟨va,vc,hI.kept hg (λr e=>by cases e) (λr e=>by cases e) ⟨b3,b4,b5,b7,b8,bm,bw⟩⟩
 case ho=>rintro pre U V r ⟨va,vc,hI⟩ hr ⟨o,ho,hc⟩ hg;refine⟨va,vc,hI.kept hg (λr' e=>by cases e;exact hr) (λr' e e2=>?_) ⟨b3,b4,b5,b7,b8,bm,bw⟩⟩;cases e;obtain⟨cs,T,fz,hx⟩:=Z5p hI.oo e2;rw[ho]at hx;cases hx;cases hc
 case hc=>rintro pre U V r ⟨va,vc,hI⟩ hr hsf-hg;exact⟨va,vc,hI.kept hg (λr' e=>by cases e;exact hr) (λr' e e2=>by cases e;exact hsf.2.2 (by rw[Z00 hI.q7];exact e2)) ⟨b3,b4,b5,b7,b8,bm,bw⟩⟩
 case hax=>rintro pre q a' U V r ⟨nt,va,vc,hF,hI,ht,hn,hno⟩ hr ⟨o,ho,hc⟩ hg;refine⟨nt,va,vc,hF,hI.kept hg (λr' e=>by cases e;exact hr) (λr' e e2=>?_) ⟨b3,b4,b5,b7,b8,bm,bw⟩,(hg.block nt (Z3 ht) (λe=>?_)).trans ht,hn,hno⟩<;>cases e;(· obtain⟨cs,T,fz,hx⟩:=Z5p hI.oo e2;rw[ho]at hx;cases hx;cases hc);(· rw[ho]at ht;cases ht;cases hc)
 case assign =>
  clear map11 q3 q4 q5 q7 q8 qb E hI0;rintro l pre q W K ⟨va,vc,⟨q3,q4,q5,q7,q8,oo,mapm,E,hsz⟩⟩ hK;have hbo:=Z3 q7;refine ZaY (F.param (p:=14) (by decide) (.agg (tubC (val q)))) ?_;clear F fa;intro fa F;have ER:Ext [] W W:=Ext.refl _ _;refine Zl rfl (λh=>by obtain⟨_,_,h⟩:=h;exact h) ?_;refine sqN F (Ze rfl Qy.zeroValue88) λfa w9 F hw=>?_;obtain⟨n9,hn⟩:=eQ W.heap.size;rw[<-hn]at F;have s9:=sQ hn;have l9_E:=lQ hn E.size;have l9_ER:=lQ hn ER.size;have m9_3:=tQ hn (Z3 q3);have m9_4:=tQ hn (Z3 q4);have m9_5:=tQ hn (Z3 q5);have m9_7:=tQ hn (Z3 q7);have m9_8:=tQ hn (Z3 q8);have o9_oo:=Lib.hid (Z0u oo hn);replace oo:=Z0d hw oo;replace mapm:=Z3K hw mapm;replace q3:=Z0 hw q3;replace q4:=Z0 hw q4;replace q5:=Z0 hw q5;replace q7:=Z0 hw q7;replace q8:=Z0 hw q8;replace E:=Z2 E hw;replace ER:=Z2 ER hw;have q9:=Zf hw hn;clear hw hn;refine Z0T rfl rfl (ZW rfl (F.at rfl) (F.at rfl) (by kernel_rfl) (by simp[tubC,Value.oneCell']) q9 rfl) ?_;intro w10 hw;replace oo:=Z1h hw oo o9_oo.out;replace mapm:=Z8h hw mapm q9;replace q3:=kcs hw q3;replace q4:=kcs hw q4;replace q5:=kcs hw q5;replace q7:=kcs hw q7;replace q8:=kcs hw q8;replace q9:=Z0I hw q9 rfl;replace E:=ecs E hw;replace ER:=ecs ER hw;clear hw;refine wpList_nil ?_;exact hK _ _ (Z0y ER (by simp)) (Z67 ER hbo) ⟨n9,va,vc,F.sub (.c 3 rfl (.c 4 rfl (.c 5 rfl (.c 7 rfl (.c 8 rfl (.c 9 rfl .n)))))),⟨q3,q4,q5,q7,q8,oo,mapm,E,Yd hsz ER.size⟩,q9,by omega,o9_oo.out⟩
 case body =>
  clear map11 q3 q4 q5 q7 q8 qb E hI0 F fa;rintro l pre q fa W ⟨nt,va,vc,F,⟨q3,q4,q5,q7,q8,oo,mapm,E,hsz⟩,q9,hnt,hno⟩ hpx;have hqm:q∈recL x.D.length:=hpx.subset (by simp);obtain⟨hql,hqs,hqg,hq1,hq6,hqb⟩:=HRL.out q hqm;have hqn:q ∉ pre:=λhm=>(by have hn:=hpx.sublist.nodup HND.out;rw[List.nodup_append]at hn;exact hn.2.2 q hm q (by simp) rfl);have hplen:pre.length<=500:=(by have h1:=hpx.length_le;have h2:=ZaC x.D.length (by omega);rw[Ym]at h1;omega);have hsn:=Z3d (cndE x (val s) ls) pre q;have hfr:gcE (val q)=1->∀t∈pre.filter (cndE x (val s) ls),∃k,k<4/\lowF (val q) (gcE (val q)) 4 k≠val t k:=λhg t ht=>(by have htp:=(List.mem_filter.1 ht).1;have htl:=(HRL.out t (hpx.subset (by simp[htp]))).1;obtain⟨k,hk,hne⟩:=ZkV (t:=t) (q:=q) (by omega) (by omega) (λe=>hqn (by rw[<-e];exact htp));exact⟨k,hk,by rw[Z9f hg hk];exact hne⟩);have hol:(pre.filter (cndE x (val s) ls)).length<1000:=(by have:=List.length_filter_le (cndE x (val s) ls) pre;omega);obtain⟨out,hout⟩:∃out,out=pre.filter (cndE x (val s) ls):=⟨_,rfl⟩;rw[<-hout]at q7 oo mapm hsn hfr hol hno;have o9_oo:=Lib.hid hno;obtain⟨r,hrr,hrd⟩:=ZdA (.slice va out.length vc) n11;have hro:Z1i n7 W=(Value.slice va out.length vc).ownBlock:=Z00 q7;have hrc:∀b∈[n11,n7,r],b<w3.heap.size\/∃cs T fz,W.heap[b]?=some (.cells cs T fz):=(by intro b hb;simp only[Yc,Ya,or_false]at hb;rcases hb with rfl | rfl | rfl;(· exact .inl (by rw[hw3];exact bm));(· exact .inl (by rw[hw3];exact b7));(· rcases hrd with h | h;(· exact .inr (Z5p oo h));(· rw[h];exact .inl (by rw[hw3];exact bm))));have hkx:∀k cs T fz,W.heap[k]?=some (.cells cs T fz)->Safe [] n7 k W->k ∉ [n11,n7,r]:=(by intro k cs T fz hk hsf hm;simp only[Yc,Ya,or_false]at hm;rcases hm with rfl | rfl | rfl;(· exact mapm.ne hk (λ_ _ h=>by cases h) rfl);(· exact hsf.2.1 rfl);(· rcases hrd with h | h;(· exact hsf.2.2 (by rw[hro];exact h));(· exact mapm.ne hk (λ_ _ h=>by cases h) h.symm)));have ER:Ext [n11,n7,r] W W:=Ext.refl _ _;refine wpIn_block ?_;refine wpIn_seq_k λK6 hK6=>?_;refine Zl rfl (λh=>by obtain⟨_,_,h⟩:=h;exact h) ?_;refine F.vl (Zc rfl (F.at rfl) Qy.underlying88 rfl (by kernel_rfl) q9) λfa F=>?_;refine sqC F (Za rfl rfl Qy.call125 (mpS (F.at rfl) mp0)) (Zdj (val q) hqs hqg _) λe w11 hR=>?_;obtain⟨rfl,e9⟩:=hR;refine⟨_,rfl,λfa F=>?_⟩;replace oo:=Z0D oo (e9) (by simp);replace mapm:=Z9i mapm (e9);replace q3:=(e9).keep0 q3;replace q4:=(e9).keep0 q4;replace q5:=(e9).keep0 q5;replace q7:=(e9).keep0 q7;replace q8:=(e9).keep0 q8;replace q9:=(e9).keep0 q9;replace E:=Z4 E (e9);replace ER:=Z4 ER (e9);clear e9;refine sqN F (Ze rfl Qy.zeroValue88) λfa w12 F hw=>?_;obtain⟨n10,hn⟩:=eQ w11.heap.size;rw[<-hn]at F;have s10:=sQ hn;have l10_E:=lQ hn E.size;have l10_ER:=lQ hn ER.size;have m10_3:=tQ hn (Z3 q3);have m10_4:=tQ hn (Z3 q4);have m10_5:=tQ hn (Z3 q5);have m10_7:=tQ hn (Z3 q7);have m10_8:=tQ hn (Z3 q8);have m10_9:nt<n10:=by rw[hn];exact Z3 q9
  have o10_oo:=Lib.hid (Z0u oo hn);replace oo:=Z0d hw oo;replace mapm:=Z3K hw mapm;replace q3:=Z0 hw q3;replace q4:=Z0 hw q4;replace q5:=Z0 hw q5;replace q7:=Z0 hw q7;replace q8:=Z0 hw q8;replace q9:=Z0 hw q9;replace E:=Z2 E hw;replace ER:=Z2 ER hw;have q10:=Zf hw hn;clear hw hn;refine Z0T rfl rfl (ZW rfl (F.at rfl) (F.at rfl) (by kernel_rfl) (by simp[tubC,Value.oneCell']) q10 rfl) ?_;intro w13 hw;replace oo:=Z1h hw oo o10_oo.out;replace mapm:=Z8h hw mapm q10;replace q3:=kcs hw q3;replace q4:=kcs hw q4;replace q5:=kcs hw q5;replace q7:=kcs hw q7;replace q8:=kcs hw q8;replace q9:=kcs hw q9;replace q10:=Z0I hw q10 rfl;replace E:=ecs E hw;replace ER:=ecs ER hw;clear hw;refine wN<|hK6 _ _ ?_
  refine wpIn_seq_k λK7 hK7=>?_;refine wpIn_seq_k λK8 hK8=>?_;refine Zl rfl (λh=>by obtain⟨_,_,h⟩:=h;exact h) ?_;refine F.vl (ZH rfl (F.at rfl) Qy.underlying157 rfl ((Z1 q8 0).trans (get0))) λfa F=>?_;refine F.vl (Zc rfl (F.at rfl) Qy.underlying88 rfl (by kernel_rfl) q10) λfa F=>?_;refine ZkC F rfl (by decide) rfl (ZbZ rfl (F.at rfl) (F.at rfl) (Zlz hqs hqg) mapm) ?_;clear F fa;rintro fa v' F ⟨c19,rfl,hc19⟩;refine F.mv λfa F=>?_
  cases hg1:c19
  ·skip
   replace F:=F.re (k:=20) rfl (congrArg Value.bool hg1);refine F.vl (Zc rfl (F.at rfl) Qy.underlying88 rfl (by kernel_rfl) q10) (λfa F=>?_) (hw:=(Z4A F rfl rfl (by decide) rfl));refine F.vl (Zc rfl (F.at rfl) Qy.underlying88 rfl (by kernel_rfl) q9) (λfa F=>?_) (hw:=(Z4A F rfl rfl (by decide) rfl));refine F.vl ((Zev rfl (F.at rfl) (F.at rfl))) (λfa F=>?_) (hw:=(Z4A F rfl rfl (by decide) rfl));refine F.vl (Z6y rfl (F.at rfl) (F.at rfl)) λfa F=>?_;refine F.mv λfa F=>?_
   cases hg2:(!tubE (lowF (val q) (gcE (val q)) 4) (val q))
   ·skip
    replace F:=F.re (k:=25) rfl (congrArg Value.bool hg2);refine F.vl (Zc rfl (F.at rfl) Qy.underlying85 rfl (by kernel_rfl) q3) (λfa F=>?_) (hw:=(Z4A F rfl rfl (by decide) rfl));refine F.vl (Zc rfl (F.at rfl) Qy.underlying88 rfl (by kernel_rfl) q9) (λfa F=>?_) (hw:=(Z4A F rfl rfl (by decide) rfl));refine F.vl (ZH rfl (F.at rfl) Qy.underlying22 rfl ((Z1 q4 0).trans (get0))) (λfa F=>?_) (hw:=(Z4A F rfl rfl (by decide) rfl));refine F.vl (ZH rfl (F.at rfl) Qy.underlying22 rfl ((Z1 q5 0).trans (get0))) (λfa F=>?_) (hw:=(Z4A F rfl rfl (by decide) rfl));refine Z7w F rfl (by decide) (Z4A F rfl rfl (by decide) rfl) (Za rfl rfl Qy.call80 (mpS (F.at rfl) (mpS (F.at rfl) (mpS (F.at rfl) (mpS (F.at rfl) mp0))))) (Z7h x HV.out (val q) hqs s HS.out ls HL.out hll sa la sc lc _ (HX.out.ext E) (HR.out.ext E (by simp)) (HQ.out.ext E (by simp))) λe w14 hR=>?_;obtain⟨rfl,e9⟩:=hR;refine⟨_,rfl,λfa F=>?_⟩;replace oo:=Z0D oo (e9) (by simp);replace mapm:=Z9i mapm (e9);replace q3:=(e9).keep0 q3;replace q4:=(e9).keep0 q4;replace q5:=(e9).keep0 q5;replace q7:=(e9).keep0 q7;replace q8:=(e9).keep0 q8;replace q9:=(e9).keep0 q9;replace q10:=(e9).keep0 q10;replace E:=Z4 E (e9);replace ER:=Z4 ER (e9);clear e9;refine F.vl (Zb4 rfl (F.at rfl)) (λfa F=>?_) (hw:=(Z4A F rfl rfl (by decide) rfl));refine F.vl (Z6y rfl (F.at rfl) (F.at rfl)) λfa F=>?_;refine wN<|hK8 _ _ ?_
    refine Zjv F rfl (λhc32=>?_) (λhc32=>?_)
    ·skip
     refine wpIn_exit ?_
     (try simp only[Exit.inBlock,reduceIte])
     show KeepsFrom _ _ _/\KeepR _ _ _ _/\_;rw[<-hw3];refine⟨Z0y ER hrc,Z0Q ER hkx ?_,?_⟩
     ·first | exact .inl ((Z00 q7).trans hro.symm) | (rcases hblk with hbk | hbk;(· exact .inl ((Z00 q7).trans (hbk.trans hro.symm)));(· exact .inr λr' e=>by rw[Z00 q7,hbk]at e;cases e;exact hERs))
     ·have hsw:w3.heap.size<=w14.heap.size:=(by rw[hw3];exact Yd hsz ER.size)
      show ∃va vc,MatI _ _ _ _ _ _ _ _ _ _ _ (List.filter (cndE x (val s) ls) (pre++[q])) va vc _;rw[hsn]
      first | exact Z0o (Z4j (λhg=>Bool.noConfusion ((hc19 (hfr hg)).symm.trans hg1))) ⟨q3,q4,q5,q7,q8,oo,mapm,E,hsw⟩ | exact Z0o (Z4j (λhg=>Bool.noConfusion ((Z7f hg).symm.trans hg2))) ⟨q3,q4,q5,q7,q8,oo,mapm,E,hsw⟩ | exact Z0o (Z6R (Z9Y hc32)) ⟨q3,q4,q5,q7,q8,oo,mapm,E,hsw⟩ | exact Z4R (Z6S hgc (Z9X hc32)) ⟨q3,q4,q5,q7,q8,oo,mapm,E,hsw⟩
    ·skip
     refine wpIn_skip ?_;refine hK7 _ _ ?_;refine wpIn_seq_k λK9 hK9=>?_;refine Zl rfl (λh=>by obtain⟨_,_,h⟩:=h;exact h) ?_;refine F.vl (ZH rfl (F.at rfl) Qy.underlying157 rfl ((Z1 q8 0).trans (get0))) λfa F=>?_;refine F.vl (Zc rfl (F.at rfl) Qy.underlying88 rfl (by kernel_rfl) q10) λfa F=>?_;have hgc:=Zk3 hqs hqg (by simpa using hg2);have htc:tubC (lowF (val q) (gcE (val q)) 4)=tubC (val q):=Z3Z λk hk=>Z9f hgc hk;refine ZkD rfl rfl (Zc2 (t:=q) rfl (F.at rfl) ((F.at rfl).trans (congrArg Value.agg htc)) (ev_c fa _) hqs hol mapm) ?_;rintro w15 ⟨hM',hg⟩;replace oo:=Zfu mapm hg oo;replace q3:=Z2c mapm hg q3;replace q4:=Z2c mapm hg q4;replace q5:=Z2c mapm hg q5;replace q7:=Z2c mapm hg q7;replace q8:=Z2c mapm hg q8;replace q9:=Z2c mapm hg q9;replace q10:=Z2c mapm hg q10;replace E:=Za9 E hg (λh=>by first | omega | simp);replace ER:=Za9 ER hg (λh=>by first | omega | simp);replace mapm:=hM';clear hg;refine wN<|hK9 _ _ ?_
     refine Zl rfl (λh=>by obtain⟨_,_,h⟩:=h;exact h) ?_;refine F.vl (ZH rfl (F.at rfl) Qy.underlying93 rfl ((Z1 q7 0).trans (get0))) λfa F=>?_;refine F.vl (Zc rfl (F.at rfl) Qy.underlying88 rfl (by kernel_rfl) q9) λfa F=>?_;refine sqN F (ZI rfl (prS (F.at rfl) pr0) Qy.underlying93 (size:=4) (by kernel_rfl) (by decide) (by decide) Qy.zeroValue88 (cells:=#[.int .i64 (val q 0),.int .i64 (val q 1),.int .i64 (val q 2),.int .i64 (val q 3)]) (by kernel_rfl)) λfa w16 F hw=>?_;obtain⟨n37,hn⟩:=eQ w15.heap.size;rw[<-hn]at F;have s37:=sQ hn;have l37_E:=lQ hn E.size;have l37_ER:=lQ hn ER.size;have m37_3:=tQ hn (Z3 q3);have m37_4:=tQ hn (Z3 q4);have m37_5:=tQ hn (Z3 q5);have m37_7:=tQ hn (Z3 q7);have m37_8:=tQ hn (Z3 q8);have m37_9:nt<n37:=by rw[hn];exact Z3 q9
     have m37_10:=tQ hn (Z3 q10);have o37_oo:=Lib.hid (Z0u oo hn);replace oo:=Z0d hw oo;replace mapm:=Z3K hw mapm;replace q3:=Z0 hw q3;replace q4:=Z0 hw q4;replace q5:=Z0 hw q5;replace q7:=Z0 hw q7;replace q8:=Z0 hw q8;replace q9:=Z0 hw q9;replace q10:=Z0 hw q10;replace E:=Z2 E hw;replace ER:=Z2 ER hw;have q37:=ZU hw hn;clear hw hn;have hEs:=E.size;have hERs:=ER.size;refine ZK F rfl (by decide) rfl (Z8S rfl (w.heap.size) (e:=88) (size:=4) (bytes:=32) Qy.underlying93 (by kernel_rfl) (by decide) (F.at rfl) oo (F.at rfl) q37 rfl (by simp[Value.oneCell']) (by omega) (by omega) (by omega)) ?_;clear F fa;rintro fa v' w17 F ⟨hown',⟨hg,hblk⟩⟩;obtain⟨va38,vc38,rfl⟩:=Zw hown';replace q3:=Z08 oo hg q3 (by decide);replace q4:=Z08 oo hg q4 (by decide);replace q5:=Z08 oo hg q5 (by decide);replace q7:=Z08 oo hg q7 (by decide);replace q8:=Z08 oo hg q8 (by decide);replace q9:=(hg.block nt (Z3 q9) o9_oo.out).trans q9;replace q10:=(hg.block n10 (Z3 q10) o10_oo.out).trans q10;replace mapm:=Zi4 mapm oo hg;replace E:=Z0G E oo hg (by omega);replace ER:=Z1T ER hg (λb hb hl=>by rw[hrr b hb];simp);replace oo:=hown';clear hg;rw[show Z3p out++[.int .i64 (val q 0),.int .i64 (val q 1),.int .i64 (val q 2),.int .i64 (val q 3)]=Z3p (out++[q]) from ZbN out q,show out.length+1=(out++[q]).length by simp]at oo;rw[show out.length+1=(out++[q]).length by simp]at F hblk;refine Z0T rfl rfl (Z05 rfl (F.at rfl) (F.at rfl) rfl (by kernel_rfl) ((Z1 q7 0).trans (get0)) (Zd q7 0)) ?_;intro w18 hw;replace oo:=Z17 hw oo (Z0a oo q7 (by decide));replace mapm:=Zap hw mapm q7;replace q3:=kce hw q3;replace q4:=kce hw q4;replace q5:=kce hw q5;replace q7:=ZG hw q7 (by simp only[List.setIfInBounds_toArray,lsQ,lzQ];exact rfl);replace q8:=kce hw q8;replace q9:=kce hw q9;replace q10:=kce hw q10;replace E:=ece E hw;replace ER:=ece ER hw;clear hw;refine wpList_nil ?_
     (try simp only[Exit.inBlock,reduceIte])
     show KeepsFrom _ _ _/\KeepR _ _ _ _/\_;rw[<-hw3];refine⟨Z0y ER hrc,Z0Q ER hkx ?_,?_⟩
     ·first | exact .inl ((Z00 q7).trans hro.symm) | (rcases hblk with hbk | hbk;(· exact .inl ((Z00 q7).trans (hbk.trans hro.symm)));(· exact .inr λr' e=>by rw[Z00 q7,hbk]at e;cases e;exact hERs))
     ·have hsw:w3.heap.size<=w18.heap.size:=(by rw[hw3];exact Yd hsz ER.size)
      show ∃va vc,MatI _ _ _ _ _ _ _ _ _ _ _ (List.filter (cndE x (val s) ls) (pre++[q])) va vc _;rw[hsn]
      first | exact Z0o (Z4j (λhg=>Bool.noConfusion ((hc19 (hfr hg)).symm.trans hg1))) ⟨q3,q4,q5,q7,q8,oo,mapm,E,hsw⟩ | exact Z0o (Z4j (λhg=>Bool.noConfusion ((Z7f hg).symm.trans hg2))) ⟨q3,q4,q5,q7,q8,oo,mapm,E,hsw⟩ | exact Z0o (Z6R (Z9Y hc32)) ⟨q3,q4,q5,q7,q8,oo,mapm,E,hsw⟩ | exact Z4R (Z6S hgc (Z9X hc32)) ⟨q3,q4,q5,q7,q8,oo,mapm,E,hsw⟩
   ·skip
    replace F:=F.re (k:=25) rfl (congrArg Value.bool hg2);refine Z31 F rfl (by decide) (Z2q F rfl rfl (by decide) rfl (by decide)) λfa F=>?_;refine Z31 F rfl (by decide) (Z2q F rfl rfl (by decide) rfl (by decide)) λfa F=>?_;refine Z31 F rfl (by decide) (Z2q F rfl rfl (by decide) rfl (by decide)) λfa F=>?_;refine Z31 F rfl (by decide) (Z2q F rfl rfl (by decide) rfl (by decide)) λfa F=>?_;refine Z31 F rfl (by decide) (Z2q F rfl rfl (by decide) rfl (by decide)) λfa F=>?_;refine Z31 F rfl (by decide) (Z2q F rfl rfl (by decide) rfl (by decide)) λfa F=>?_;refine F.vl (Z53 rfl (F.at rfl) (ev_c fa _)) λfa F=>?_;refine wN<|hK8 _ _ ?_
    refine Zju F rfl ?_;refine wpIn_exit ?_
    (try simp only[Exit.inBlock,reduceIte])
    show KeepsFrom _ _ _/\KeepR _ _ _ _/\_;rw[<-hw3];refine⟨Z0y ER hrc,Z0Q ER hkx ?_,?_⟩
    ·first | exact .inl ((Z00 q7).trans hro.symm) | (rcases hblk with hbk | hbk;(· exact .inl ((Z00 q7).trans (hbk.trans hro.symm)));(· exact .inr λr' e=>by rw[Z00 q7,hbk]at e;cases e;exact hERs))
    ·have hsw:w3.heap.size<=w13.heap.size:=(by rw[hw3];exact Yd hsz ER.size)
     show ∃va vc,MatI _ _ _ _ _ _ _ _ _ _ _ (List.filter (cndE x (val s) ls) (pre++[q])) va vc _;rw[hsn]
     first | exact Z0o (Z4j (λhg=>Bool.noConfusion ((hc19 (hfr hg)).symm.trans hg1))) ⟨q3,q4,q5,q7,q8,oo,mapm,E,hsw⟩ | exact Z0o (Z4j (λhg=>Bool.noConfusion ((Z7f hg).symm.trans hg2))) ⟨q3,q4,q5,q7,q8,oo,mapm,E,hsw⟩ | exact Z0o (Z6R (Z9Y hc32)) ⟨q3,q4,q5,q7,q8,oo,mapm,E,hsw⟩ | exact Z4R (Z6S hgc (Z9X hc32)) ⟨q3,q4,q5,q7,q8,oo,mapm,E,hsw⟩
  ·skip
   replace F:=F.re (k:=20) rfl (congrArg Value.bool hg1);refine Z31 F rfl (by decide) (Z2q F rfl rfl (by decide) rfl (by decide)) λfa F=>?_;refine Z31 F rfl (by decide) (Z2q F rfl rfl (by decide) rfl (by decide)) λfa F=>?_;refine Z31 F rfl (by decide) (Z2q F rfl rfl (by decide) rfl (by decide)) λfa F=>?_;refine F.vl (Z53 rfl (F.at rfl) (ev_c fa _)) λfa F=>?_;refine F.mv λfa F=>?_;refine Z31 F rfl (by decide) (Z2q F rfl rfl (by decide) rfl (by decide)) λfa F=>?_;refine Z31 F rfl (by decide) (Z2q F rfl rfl (by decide) rfl (by decide)) λfa F=>?_;refine Z31 F rfl (by decide) (Z2q F rfl rfl (by decide) rfl (by decide)) λfa F=>?_;refine Z31 F rfl (by decide) (Z2q F rfl rfl (by decide) rfl (by decide)) λfa F=>?_;refine Z31 F rfl (by decide) (Z2q F rfl rfl (by decide) rfl (by decide)) λfa F=>?_;refine Z31 F rfl (by decide) (Z2q F rfl rfl (by decide) rfl (by decide)) λfa F=>?_;refine F.vl (Z53 rfl (F.at rfl) (ev_c fa _)) λfa F=>?_;refine wN<|hK8 _ _ ?_
   refine Zju F rfl ?_;refine wpIn_exit ?_
   (try simp only[Exit.inBlock,reduceIte])
   show KeepsFrom _ _ _/\KeepR _ _ _ _/\_;rw[<-hw3];refine⟨Z0y ER hrc,Z0Q ER hkx ?_,?_⟩
   ·first | exact .inl ((Z00 q7).trans hro.symm) | (rcases hblk with hbk | hbk;(· exact .inl ((Z00 q7).trans (hbk.trans hro.symm)));(· exact .inr λr' e=>by rw[Z00 q7,hbk]at e;cases e;exact hERs))
   ·have hsw:w3.heap.size<=w13.heap.size:=(by rw[hw3];exact Yd hsz ER.size)
    show ∃va vc,MatI _ _ _ _ _ _ _ _ _ _ _ (List.filter (cndE x (val s) ls) (pre++[q])) va vc _;rw[hsn]
    first | exact Z0o (Z4j (λhg=>Bool.noConfusion ((hc19 (hfr hg)).symm.trans hg1))) ⟨q3,q4,q5,q7,q8,oo,mapm,E,hsw⟩ | exact Z0o (Z4j (λhg=>Bool.noConfusion ((Z7f hg).symm.trans hg2))) ⟨q3,q4,q5,q7,q8,oo,mapm,E,hsw⟩ | exact Z0o (Z6R (Z9Y hc32)) ⟨q3,q4,q5,q7,q8,oo,mapm,E,hsw⟩ | exact Z4R (Z6S hgc (Z9X hc32)) ⟨q3,q4,q5,q7,q8,oo,mapm,E,hsw⟩
 case done =>
  clear map11 q3 q4 q5 q7 q8 qb E hI0;rintro D W hD ⟨va,vc,⟨q3,q4,q5,q7,q8,oo,mapm,E,hsz⟩⟩ qD;obtain⟨out,hout⟩:∃out,out=matL x (val s) ls:=⟨_,rfl⟩;rw[show (recL x.D.length).filter (cndE x (val s) ls)=out from hout.symm]at q7 oo mapm;replace F:=F.mark (d:={target:=.collected D,args:=#[]});refine hK4 _ _<|wS λK10 hK10=>?_
  refine Yg ?_;refine F.vl (ZH rfl (F.at rfl) Qy.underlying93 rfl ((Z1 q7 0).trans (get0))) λfa F=>?_;refine F.as λfa F=>?_;refine wN<|hK10 _ _ ?_
  refine wp_ret ?_
  (try simp only[Exit.inBlock,Exit.then,reduceIte])
  refine Z3O F ?_;refine Z9g qD λw19 hw=>?_;replace oo:=Zaw hw qD rfl oo;replace mapm:=Zi5 hw qD mapm;replace q3:=ZE hw qD rfl q3;replace q4:=ZE hw qD rfl q4;replace q5:=ZE hw qD rfl q5;replace q7:=ZE hw qD rfl q7;replace q8:=ZE hw qD rfl q8;replace E:=Z78 E hw (by omega);clear hw qD;refine Z0R (rs_1 F rfl rfl) ?_;subst hout;exact⟨va,vc,rfl,oo,E⟩
end
section
open Go.RowKit
variable{μ:Nat}
theorem Zaj(n:Int)(w:World):Calls (Qy.prog μ) 124 #[.int .i64 n] w λe w'=>e = .returned (.bool false)/\Ext [] w w':=by
 have E:Ext [] w w:=Ext.refl _ _;have G:=(Bk.nil w).ce E;refine(ent 6 Tryz.f124 rfl) λF=>wR λk1=>(F.m) λF=>k1<|wR λk2=>(F.m) λF=>(F.m) λF=>(F.y (F.neF (h:=rfl))) λF=>(F.m) λF=>k2<|(F.r1) ?_
 exact⟨rfl,(G.e 0)⟩
def cmpE(a b:Int):Int:=if a<b then -1 else if b<a then 1 else 0
theorem Zco(a b:Int)(w:World):Calls (Qy.prog μ) 101 #[.int .i64 a,.int .i64 b] w λe w'=>e = .returned (.int .i64 (cmpE a b))/\Ext [] w w':=by
 have E:Ext [] w w:=Ext.refl _ _;have G:=(Bk.nil w).ce E;refine(ent 20 Tryz.f101 rfl) λF=>wR λk1=>(F.m) λF=>k1<|wR λk2=>(F.m) λF=>(F.k0 G (Zaj a _)) λF G=>(F.m) λF=>k2<|wR λk3=>(F.m) λF=>(F.k0 G (Zaj b _)) λF G=>(F.m) λF=>k3<|wQ λk4=>wR λk5=>(F.m) λF=>k5<|(F.cF)<|Yi<|k4<|wQ λk6=>wR λk7=>(F.m) λF=>k7<|(F.cF)<|Yi<|k6<|wQ λk8=>wQ λk9=>Yg ?_
 refine(F.m) λF=>(F.m) λF=>(F.y F.ls) λF=>k9<|F.ci (λhc16=>?_) (λhc16=>?_)
 ·refine wR λk10=>(F.m) λF=>k10<|(F.r1) ?_
  first | exact⟨Zo (by rw[cmpE,if_pos (by omega)]),(G.e 0)⟩ | exact⟨Zo (by rw[cmpE,if_neg (by omega),if_pos (by omega)]),(G.e 0)⟩ | exact⟨Zo (by rw[cmpE,if_neg (by omega),if_neg (by omega)]),(G.e 0)⟩
 ·refine Yi<|k8<|wQ λk11=>wR λk12=>(F.m) λF=>(F.m) λF=>(F.y F.gt) λF=>k12<|F.ci (λhc19=>?_) (λhc19=>?_)
  ·refine wR λk13=>(F.m) λF=>k13<|(F.r1) ?_
   first | exact⟨Zo (by rw[cmpE,if_pos (by omega)]),(G.e 0)⟩ | exact⟨Zo (by rw[cmpE,if_neg (by omega),if_pos (by omega)]),(G.e 0)⟩ | exact⟨Zo (by rw[cmpE,if_neg (by omega),if_neg (by omega)]),(G.e 0)⟩
  ·refine Yi<|k11<|wR λk14=>(F.m) λF=>k14<|(F.r1) ?_
   first | exact⟨Zo (by rw[cmpE,if_pos (by omega)]),(G.e 0)⟩ | exact⟨Zo (by rw[cmpE,if_neg (by omega),if_pos (by omega)]),(G.e 0)⟩ | exact⟨Zo (by rw[cmpE,if_neg (by omega),if_neg (by omega)]),(G.e 0)⟩
def cmpL:List Int->List Int->Int
 | [],[]=>0
 | [],_::_=>-1
 | _::_,[]=>1
 | x::xs,y::ys=>if cmpE x y=0 then cmpL xs ys else cmpE x y
theorem Zhs(hx:i<xs.length)(hy:i<ys.length)(h:cmpE (xs.getD i 0) (ys.getD i 0)=0): cmpL (xs.drop i) (ys.drop i)=cmpL (xs.drop (i+1)) (ys.drop (i+1)):=by
 rw[Z03 xs 0 hx,Z03 ys 0 hy,cmpL,if_pos h]
theorem ZeE(hx:i<xs.length)(hy:i<ys.length)(h:cmpE (xs.getD i 0) (ys.getD i 0)≠0): cmpL (xs.drop i) (ys.drop i)=cmpE (xs.getD i 0) (ys.getD i 0):=by
 rw[Z03 xs 0 hx,Z03 ys 0 hy,cmpL,if_neg h]
theorem Zcm(hx:i<xs.length)(hy:ys.length<=i): cmpL (xs.drop i) (ys.drop i)=1:=by
 rw[Z03 xs 0 hx,List.drop_of_length_le hy];rfl
theorem Zbc(hx:xs.length<=i)(hy:i<ys.length): cmpL (xs.drop i) (ys.drop i) = -1:=by
 rw[Z03 ys 0 hy,List.drop_of_length_le hx];rfl
theorem Zcn(hx:xs.length<=i)(hy:ys.length<=i): cmpL (xs.drop i) (ys.drop i)=0:=by
 rw[List.drop_of_length_le hy,List.drop_of_length_le hx];rfl
theorem Z3b(xs ys:List Int)(a b:Option Addr)(c d:Nat)(w:World)(hx:Z8 w (.slice a xs.length c) 1 (xs.map Z7))(hy:Z8 w (.slice b ys.length d) 1 (ys.map Z7))(h1:xs.length<=1000)(h2:ys.length<=1000):
  Calls (Qy.prog μ) 76 #[.slice a xs.length c,.slice b ys.length d] w λe w'=>e = .returned (.int .i64 (cmpL xs ys))/\Ext [] w w':=by
 have HS:=Lib.hid (Zj hx 0);have HU:=Lib.hid (Zj hy 0);have E:Ext [] w w:=Ext.refl _ _;clear hx hy;have G:=(Bk.nil w).ce E;refine(ent 36 Tryz.f76 rfl) λF=>wR λk1=>(F.m) λF=>k1<|wQ λk2=>wR λk3=>(F.m) λF=>(F.y F.ln) λF=>(F.m) λF=>k3<|Yh<|lpB (F.b [0,1,9,10]) G (xs.length) (λi Lv Sv W=>Lv=[(11,.int .i64 ((i:Nat):Int))]/\Sv=[]/\cmpL (xs.drop i) (ys.drop i)=cmpL xs ys/\i<=ys.length) ⟨_,_,F.u,G.u,rfl,rfl,rfl,(Nat.zero_le _)⟩ ?_
 clear F G;rintro i _ w1 _ _ hi1 ⟨rfl,rfl,hc,hiy⟩ F G;replace G:=G.z;refine wR λk4=>(F.y F.ls) λF=>k4<|wQ λk5=>F.ci (λhc12=>?_) (λhc12=>?_)
 ·refine Yi<|k5<|wQ λk6=>Yh<|wR λk7=>(F.m) λF=>(F.ix HS.out i) λxr8 F=>(F.y (F.l1 (xr8 _ (G.e 0)) 0)) λF=>(F.m) λF=>(F.m) λF=>k7<|wQ λk9=>wR λk10=>(F.m) λF=>(F.m) λF=>(F.y F.ln) λF=>(F.y F.ge) λF=>k10<|F.ci (λhc19=>?_) (λhc19=>?_)
  ·refine wR λk11=>(F.m) λF=>k11<|(F.r1) ?_
   exact⟨Zo (by rw[<-hc,Zcm (by omega) (by omega)]),(G.e 0)⟩
  ·refine Yi<|k9<|wR λk12=>(F.m) λF=>(F.m) λF=>(F.ix HU.out i) λxr13 F=>(F.y (F.l1 (xr13 _ (G.e 0)) 0)) λF=>(F.m) λF=>k12<|wR λk14=>(F.m) λF=>(F.m) λF=>(F.k0 G (Zco (xs.getD i 0) (ys.getD i 0) _)) λF G=>(F.m) λF=>k14<|wR λk15=>(F.m) λF=>(F.y F.ne) λF=>k15<|F.ci (λhc28=>?_) (λhc28=>?_)
   ·refine wR λk16=>(F.m) λF=>(F.m) λF=>k16<|(F.r1) ?_
    exact⟨Zo (by rw[<-hc,ZeE (by omega) (by omega) hc28]),(G.e 0)⟩
   ·have hc28:cmpE (xs.getD i 0) (ys.getD i 0)=0:=by omega
    refine Yi<|k6<|Yg<|(F.y F.ad) λF=>(F.m) λF=>?_
    show _/\_;exact⟨by omega,_,_,F.u,G.u,rfl,rfl,((Zhs (by omega) (by omega) hc28).symm.trans hc),(by omega)⟩
 ·refine wp_exit<|k2<|wQ λk17=>wR λk18=>(F.m) λF=>(F.y F.ln) λF=>(F.m) λF=>(F.y F.ln) λF=>(F.y F.ls) λF=>k18<|F.ci (λhc35=>?_) (λhc35=>?_)
  ·refine wR λk19=>(F.m) λF=>k19<|(F.r1) ?_
   exact⟨Zo (by rw[<-hc,Zbc (by omega) (by omega)]),(G.e 0)⟩
  ·refine Yi<|k17<|wR λk20=>(F.m) λF=>k20<|(F.r1) ?_
   exact⟨Zo (by rw[<-hc,Zcn (by omega) (by omega)]),(G.e 0)⟩
variable{μ:Nat}
def noP(Q:Exit->Act->World->Prop):Exit->Act->World->Prop:=λe a w=>match e with
 | .panic _=>False
 | e=>Q e a w
section
variable{P:Program}{Q:Exit->Act->World->Prop}{a:Act}{w:World}{md:Region.Mode}{ops:Array Oper}{T:World->Prop}{stop:Option Nat}{listed:Array Bool}
theorem ZdK(T:World->Prop)(stop:Option Nat)(hm:P.follows .mixedOrders=true)(h:∀W:World,W.heap=w.heap->Ext [] w W->Zq P .any l.toArray (noP Q) T stop l.toArray.size (Array.replicate l.toArray.size false) a W): (Code.region id l.toArray true).wp P Q a w:=
 Code.wp_mono (λe a w h=>by cases e<;>first | exact h | exact h.elim) (Z7r T stop hm h)
theorem wDN{S:List Fc}(X:List Nat)(stop:Option Nat)(B:Bk w S)(h:∀{W:World},Bk W (.e X w::S)->Zq P .any l.toArray (noP Q) (Ext X w) stop l.toArray.size (Array.replicate l.toArray.size false) a W)(hm:P.follows .mixedOrders=true:=by exact follows): (Code.region id l.toArray true).wp P Q a w:=ZdK (Ext X w) stop hm λW hh eh=>h ⟨eh.mono (by simp),B.ex eh⟩
theorem aDN{fuel:Nat}(hr:Region.ready md ops listed=[]:=by kernel_rfl)(h:Q .normal a w): Zq P md ops (noP Q) T stop fuel listed a w:=Z6F (Q:=noP Q) hr h fuel
end
section
variable{P:Program}{ρ:Operand->Value}{o:Oper}{w:World}
theorem Z5V{f: Nat}(ho:o.op = .slice t x none none none)(hx:ρ x = .pointer (some ⟨b,f,none⟩))(hu:P.underlying t=some (.array (P.arrayLen t) (P.elem t)))(hs:(P.info? (P.elem t)).map (·.size)=some 1)(hn:P.arrayLen t=n):
  (execOp ρ o).run P w = .ok (.value (.slice (some ⟨b,f,none⟩) n n)) w:=by
 have h0:(sizeOf (P.elem t)).run P w = .ok 1 w:=by
  generalize P.elem t=e at hs
  cases hq:P.info? e with
  | none=>simp[hq]at hs
  | some j =>
   have hj:j.size=1:=by simpa[hq] using hs
   simp[sizeOf,typeInfo,hq,hj]
 have hr:=run_sliceAt_array_all (P:=P) w t ⟨b,f,none⟩ hu;rw[h0,hn]at hr;simp only[Result.andThen_ok,slicedAt,Nat.zero_mul,Nat.sub_zero]at hr;have ha:(if n=0 then(⟨b,f,none⟩:Addr) else Addr.add ⟨b,f,none⟩ 0)=⟨b,f,none⟩:=by split<;>rfl
 rw[ha]at hr;clear hu hs hn h0 ha;unfold execOp;simp only[ho,hx,Option.map_none,Sem.run_bind,hr,Result.andThen_ok,Sem.run_pure]
end
theorem ZaD{w:World}{off: Nat}{C:Array Value}{T:TypeId}(xs:List Int)(cap:Nat)(h:w.heap[b]?=some (.cells C T fz))(hc:∀j,j<xs.length->C[off+j]?=some (.int .i64 (xs.getD j 0))): Z8 w (.slice (some ⟨b,off,none⟩) xs.length cap) 1 (xs.map Z7):=by
 refine⟨some ⟨b,off,none⟩,cap,by simp,by simp[Z7],λ_=>⟨b,off,rfl,Z3 h,λi j x hi hj=>?_⟩⟩;obtain rfl:j=0:=by omega
 rw[Z1 h];simp only[Yn,Y3]at hi;obtain⟨y,hy,rfl⟩:=hi;obtain⟨h1,h2⟩:=List.getElem?_eq_some_iff.1 hy;rw[Nat.mul_one,Nat.add_zero,hc i h1];simp[Z7,h1,h2]
def setL:List Value->Nat->List Value->List Value
 | xs,_,[]=>xs
 | xs,j,v::vs=>setL (xs.set j v) (j+1) vs
theorem Z7o{b:Nat}{T:TypeId}:∀{vs:List Value} {w w2:World} {off:Nat} {C C':Array Value},w2=w.setCells b off vs->w.heap[b]?=some (.cells C T (0,0))->C'=(setL C.toList off vs).toArray->w2.heap[b]?=some (.cells C' T (0,0))
 | [],w,w2,off,C,C',e,H,h=>by rw[e,h];simpa[World.setCells,setL] using H
 | v::vs,w,w2,off,C,C',e,H,h=>by
  have h1:=ZG (w2:=w.setCell ⟨b,off,none⟩ v) rfl H rfl;exact Z7o (w:=w.setCell ⟨b,off,none⟩ v) (off:=off+1) e h1 (by rw[h,setL,Array.toList_setIfInBounds])
def Z9o(f:Nat->Int)(a b:Int)(s:Bool):Array Value:=#[.int .i64 (f 0),.int .i64 (f 1),.int .i64 (f 2),.int .i64 (f 3),.int .i64 a,.int .i64 b,.bool s]
theorem Zdw(nb:Nat)(g f:Nat->Int)(c d a b:Int)(w:World)(hq:w.heap[nb]?=some (.cells (Z9o g c d false) 129 (0,0))):
  Calls (Qy.prog μ) 109 #[.pointer (some ⟨nb,0,none⟩),.agg #[.int .i64 (f 0),.int .i64 (f 1),.int .i64 (f 2),.int .i64 (f 3)],.agg #[.int .i64 a,.int .i64 b]] w λe w'=>e = .returned (.tuple #[])/\w'.heap[nb]?=some (.cells (Z9o f a b true) 129 (0,0))/\Ext [nb] w w':=by
 have E:Ext [nb] w w:=Ext.refl _ _;have qn:w.heap[nb]?=some (.cells #[.int .i64 (g 0),.int .i64 (g 1),.int .i64 (g 2),.int .i64 (g 3),.int .i64 c,.int .i64 d,.bool false] 129 (0,0)):=hq;clear hq;have G:=(Bk.nil w).ce E;replace G:=G.cq qn;refine(ent 31 Tryz.f109 rfl) λF=>wR λk1=>(F.bx G) λyy F G=>(F.bx G) λyy F G=>k1<|wQ λk2=>(wX 11 G) λG=>(F.sm) λF=>(F.s F.nc) λF=>(F.s (F.fd 6)) λF=>(F.s (F.lc (G.q 2))) λF=>(F.s F.nb) λF=>(F.sm) λF=>(F.sn) λF=>(F.sn) λF=>(F.sn) λF=>?_
 refine(F.sn) λF=>(F.sn) λF=>wpStill_nil<|(F.n) λF=>(F.n) λF=>(F.y F.pT) λF=>k2<|(F.cT)<|Yg<|(F.m) λF=>(F.m) λF=>(F.m) λF=>(F.y (F.lb (G.q 1))) λF=>(F.y (F.lb (G.q 0))) λF=>(F.y F.nc) λF=>(F.y (F.fd 0)) λF=>(F.sW (cs2:=#[.int .i64 (f 0),.int .i64 (f 1),.int .i64 (f 2),.int .i64 (f 3),.int .i64 c,.int .i64 d,.bool false]) G 2 0 λ_ hw=>Z7o hw (G.q 2) rfl) λG=>(F.y F.nc) λF=>(F.y (F.fd 4)) λF=>(F.sW (cs2:=#[.int .i64 (f 0),.int .i64 (f 1),.int .i64 (f 2),.int .i64 (f 3),.int .i64 a,.int .i64 b,.bool false]) G 2 4 λ_ hw=>Z2j hw (G.q 2) (by simp only[List.setIfInBounds_toArray,lsQ,lzQ];exact rfl)) λG=>?_
 refine(F.y F.nc) λF=>(F.y (F.fd 6)) λF=>(F.st G 2) λG=>(F.f0) ?_;exact⟨rfl,(G.q 2),(G.e 3)⟩
theorem Zdx(nb:Nat)(g f:Nat->Int)(c d a b:Int)(w:World)(hq:w.heap[nb]?=some (.cells (Z9o g c d true) 129 (0,0))):
  Calls (Qy.prog μ) 109 #[.pointer (some ⟨nb,0,none⟩),.agg #[.int .i64 (f 0),.int .i64 (f 1),.int .i64 (f 2),.int .i64 (f 3)],.agg #[.int .i64 a,.int .i64 b]] w λe w'=>e = .returned (.tuple #[])/\w'.heap[nb]?=some (.cells (if cmpL [a,b] [c,d]<0 then Z9o f a b true else Z9o g c d true) 129 (0,0))/\Ext [nb] w w':=by
 have E:Ext [nb] w w:=Ext.refl _ _;have qn:w.heap[nb]?=some (.cells #[.int .i64 (g 0),.int .i64 (g 1),.int .i64 (g 2),.int .i64 (g 3),.int .i64 c,.int .i64 d,.bool true] 129 (0,0)):=hq;clear hq;have G:=(Bk.nil w).ce E;replace G:=G.cq qn;refine(ent 31 Tryz.f109 rfl) λF=>wR λk1=>(F.bx G) λyy F G=>(F.bx G) @λn5 w2 _ yy F G=>k1<|wQ λk2=>(wX 11 G) λG=>(F.sm) λF=>(F.s F.nc) λF=>(F.s (F.fd 6)) λF=>(F.s (F.lc (G.q 2))) λF=>(F.s F.nb) λF=>(F.sm) λF=>?_
 refine(F.s ((Z1K (n:=2) rfl (F.at rfl) (by kernel_rfl) (by kernel_rfl) (by kernel_rfl)))) λF=>(F.sm) λF=>(F.s F.nc) λF=>(F.s (F.fd 4)) λF=>?_;refine(F.s ((Z5V (n:=2) rfl (F.at rfl) (by kernel_rfl) (by kernel_rfl) (by kernel_rfl)))) λF=>wpStill_nil<|(F.k0 G (Z3b [a,b] [c,d] (some ⟨n5,0,none⟩) (some ⟨nb,4,none⟩) 2 2 _ (Z01 [a,b] 2 (G.q 0)) (ZaD [c,d] 2 (G.q 2) (λj hj=>by rcases j with _ | _ | j;(· rfl);(· rfl);(· simp at hj;omega))) (by simp) (by simp))) λF G=>(F.y F.ls) λF=>(F.y F.pF) λF=>k2<|F.ci (λhc19=>?_) (λhc19=>?_)
 ·refine Yg<|(F.m) λF=>(F.m) λF=>(F.m) λF=>(F.y (F.lb (G.q 1))) λF=>(F.y (F.lb (G.q 0))) λF=>(F.y F.nc) λF=>(F.y (F.fd 0)) λF=>(F.sW (cs2:=#[.int .i64 (f 0),.int .i64 (f 1),.int .i64 (f 2),.int .i64 (f 3),.int .i64 c,.int .i64 d,.bool true]) G 2 0 λ_ hw=>Z7o hw (G.q 2) rfl) λG=>(F.y F.nc) λF=>(F.y (F.fd 4)) λF=>(F.sW (cs2:=#[.int .i64 (f 0),.int .i64 (f 1),.int .i64 (f 2),.int .i64 (f 3),.int .i64 a,.int .i64 b,.bool true]) G 2 4 λ_ hw=>Z2j hw (G.q 2) (by simp only[List.setIfInBounds_toArray,lsQ,lzQ];exact rfl)) λG=>(F.y F.nc) λF=>(F.y (F.fd 6)) λF=>(F.st G 2) λG=>(F.f0) ?_
  exact⟨rfl,(by rw[if_pos hc19];exact(G.q 2)),(G.e 3)⟩
 ·refine Yi<|(F.e0) ?_
  exact⟨rfl,(by rw[if_neg hc19];exact(G.q 2)),(G.e 3)⟩
variable{μ:Nat}
section
variable{α:Type}(g:α->Nat->Int)(c:α->Int×Int)
def offO:Option α->α->Option α
 | none,t=>some t
 | some u,t=>if cmpL [(c t).1,(c t).2] [(c u).1,(c u).2]<0 then some t else some u
def Z2p(l:List α):Option α:=l.foldl (offO c) none
def Z7j:Option α->Array Value
 | none=>Z9o zf 0 0 false
 | some t=>Z9o (g t) (c t).1 (c t).2 true
theorem Z5q(l:List α)(t:α):Z2p c (l++[t])=offO c (Z2p c l) t:=by simp[Z2p]
end
theorem Z8j{α:Type}(g:α->Nat->Int)(c:α->Int×Int)(nb:Nat)(o:Option α)(t:α)(w:World)(hq:w.heap[nb]?=some (.cells (Z7j g c o) 129 (0,0))):
  Calls (Qy.prog μ) 109 #[.pointer (some ⟨nb,0,none⟩),.agg #[.int .i64 (g t 0),.int .i64 (g t 1),.int .i64 (g t 2),.int .i64 (g t 3)],.agg #[.int .i64 (c t).1,.int .i64 (c t).2]] w λe w'=>e = .returned (.tuple #[])/\w'.heap[nb]?=some (.cells (Z7j g c (offO c o t)) 129 (0,0))/\Ext [nb] w w':=by
 cases o with
 | none=>exact Zdw nb zf (g t) 0 0 (c t).1 (c t).2 w hq
 | some u =>
  refine Calls.mono (Zdx nb (g u) (g t) (c u).1 (c u).2 (c t).1 (c t).2 w hq) ?_;rintro e w' ⟨h1,h2,h3⟩;refine⟨h1,?_,h3⟩;rw[h2,offO]
  split<;>rfl
def dyeN(f:Nat->Int)(n:Nat):Int:=sumQ (λk=>min (f k) 1) n
def cF(t:List Int):Int×Int:=(dyeN (val t) 4,prt (val t))
def fewR(x:Vm)(s:Nat->Int)(ls:List Int):List Int×Int:=match Z2p cF (matL x s ls) with
 | none=>([],11)
 | some t=>(cutL (val t) x.D.length,0)
def Z4B(r:List Int×Int)(w:World)(e:Ending)(w':World):Prop:=∃a c,e = .returned (.tuple #[.slice a r.1.length c,.int .i64 r.2])/\w'.ownsRow w.heap.size 3 1 (.slice a r.1.length c) r.1.length (ivs r.1)/\Ext [] w w'
theorem Zfw{α:Type}{c:α->Int×Int}{l:List α}{t:α}(h:Z2p c l=some t): t∈l:=by
 have key:∀(l:List α) (o:Option α),l.foldl (offO c) o=some t->t∈l\/o=some t:=by
  intro l
  induction l with
  | nil=>intro o h;exact .inr h
  | cons x l ih =>
   intro o h
   rcases ih _ h with h | h
   ·exact .inl (List.mem_cons_of_mem _ h)
   ·cases o with
    | none=>cases h;exact .inl (List.mem_cons_self ..)
    | some u =>
     rw[offO]at h
     split at h
     ·cases h;exact .inl (List.mem_cons_self ..)
     ·exact .inr h
 rcases key l none h with h | h
 ·exact h
 ·cases h
theorem Z4H(f:Nat->Int)(n:Nat):(cutL f n).length=n:=by simp[cutL]
theorem Zib{x:Vm}(hv:VOk x){t:List Int}(h:t∈matL x s ls): t.length=x.D.length/\TubS (val t):=by
 have hm:=(List.mem_filter.1 h).1;have h2:=(Z7q x.D.length (by have:=hv.d4;omega)).2 t hm;exact⟨h2.1,h2.2.1⟩
theorem Zia{x:Vm}(hv:VOk x): (matL x s ls).length<=500:=Yd (List.length_filter_le _ _) (ZaC x.D.length (by have:=hv.d4;omega))
theorem Z1e{α:Type}(d:α){l:List α}(h:i<l.length): l.getD i d∈l:=by rw[Y7,List.getElem?_eq_getElem h];exact List.getElem_mem h
theorem Z8s{base c: Nat}{a:Option Addr}{T:List (List Int)}(h:w.ownsRow base 88 4 (.slice a n c) n (Z3p T))(hn:n=T.length)(X:List Nat)(hX:∀b∈X,b<base): SlAt X w a 4 T.length (λi=>tubR (val (T.getD i []))):=Z1z (row:=λt:List Int=>tubR (val t)) h hn (λ_=>rfl) X hX []
theorem ZbT(x:Vm)(hv:VOk x)(s:List Int)(hs:Z1L x s)(ls:List Int)(hl:Z5T x ls)(hll:ls.length<=1000)(a b:Option Addr)(c d:Nat)(w:World)(h:x.At w)(hr:Z8 w (.slice a s.length c) 1 (s.map Z7))(hq:Z8 w (.slice b ls.length d) 1 (ls.map Z7)):
  Calls (Qy.prog μ) 54 #[.agg #[.int .i64 x.B,.slice x.da x.D.length x.dc,.slice x.la x.L.length x.lc,.int .i64 x.tol],.slice a s.length c,.slice b ls.length d] w (Z4B (fewR x (val s) ls) w):=by
 have E:Ext [] w w:=Ext.refl _ _;have HX:=Lib.hid h;have HV:=Lib.hid hv;have HR:=Lib.hid hr;have HQ:=Lib.hid hq;have HL:=Lib.hid hl;have HS:=Lib.hid hs;have hd4:=hv.d4;obtain⟨T,hT⟩:∃T,T=matL x (val s) ls:=⟨_,rfl⟩;have HM:RowKit.Hid (∀t∈T,t.length=x.D.length/\TubS (val t)):=Lib.hid (λt ht=>Zib hv (by rw[<-hT];exact ht));have htl:T.length<=500:=by rw[hT];exact Zia hv
 clear h hv hr hq hl hs;have G:=(Bk.nil w).ce E;refine(entM 55 Tryz.f54 rfl) λF=>wR λk1=>(F.bx G) λyy F G=>(F.m) λF=>(F.al G Qy.zeroValue30) λyy F G=>k1<|wR λk2=>(F.df) λF=>k2<|wR λk3=>(F.y (F.lb (G.q 1))) λF=>(F.k0 G (ZZ x HV.out _ (HX.out.ext (G.e 2)))) λF G=>(F.al G Qy.zeroValue85) λyy F G=>(F.sr G 0) λG=>k3<|wR λk4=>(F.y (F.lb (G.q 0))) λF=>?_
 refine(F.m) λF=>(F.k0 G (Z2G x HV.out s HS.out a c _ (HR.out.ext (G.e 3) (by simp)))) λF G=>k4<|wR λk5=>(F.y (F.lb (G.q 0))) λF=>(F.m) λF=>(F.k0 G (Z7b x HV.out ls HL.out hll b d _ (HX.out.ext (G.e 3)) (HQ.out.ext (G.e 3) (by simp)))) λF G=>k5<|wR λk6=>(F.al G Qy.zeroValue129) @λn9 w8 _ yy F G=>?_
 have q9:=G.q 0;replace q9:w8.heap[n9]?=some (.cells (Z7j val cF (Z2p cF (T.take 0))) 129 (0,0)):=q9;replace G:=G.rQ 0 q9;clear q9;refine k6<|wQ λk7=>wR λk8=>(F.y (F.lb (G.q 1))) λF=>(F.m) λF=>(F.m) λF=>?_
 have b9:=Z3 (G.q 0);refine(F.k (Z9l x HV.out s HS.out ls HL.out.2.1 hll a b c d _ (HX.out.ext (G.e 4)) (HR.out.ext (G.e 4) (by simp)) (HQ.out.ext (G.e 4) (by simp)))) ?_;rintro _ w9 ⟨ma,mc,rfl,om,e9⟩;refine⟨_,rfl,λF=>?_⟩;replace G:=G.ex e9;rw[<-hT]at F om;have HT:=Lib.hid (Z8s om rfl [n9] (by simpa using b9));clear om;replace G:=G.hr [n9];refine(F.y F.ln) λF=>(F.m) λF=>k8<|Yh<|lpB (F.b [7,8,9,26,27]) (G.b [0,2,3,4,5]) (T.length) (λi Lv Sv W=>Lv=[(28,.int .i64 ((i:Nat):Int))]/\Sv=[.q n9 ((Z7j val cF (Z2p cF (T.take i)))) 129]) ⟨_,_,F.u,G.u,rfl,rfl⟩ ?_
 clear F G;rintro i _ w10 _ _ hi1 ⟨rfl,rfl⟩ F G;replace G:=G.z;refine wR λk9=>(F.y F.ls) λF=>k9<|wQ λk10=>F.ci (λhc29=>?_) (λhc29=>?_)
 ·refine Yi<|k10<|wQ λk11=>Yh<|wR λk12=>(F.ix HT.out i) λxr13 F=>(F.y (F.lr (xr13 _ (G.e 1)))) λF=>(F.al G Qy.zeroValue88) @λn11 w11 _ yy F G=>(F.sr G 0) @λw12 G=>?_
  have hts:=(HM.out (T.getD i []) (Z1e [] (by omega))).2;have q11:=G.q 0;replace q11:w12.heap[n11]?=some (.cells (tubC (val (T.getD i []))) 88 (0,0)):=q11;replace G:=G.rQ 0 q11;clear q11;refine k12<|wR λk14=>(F.m) λF=>?_
  rw[show (0:Int)=dyeN (val (T.getD i [])) 0 from rfl]at F;refine k14<|wQ λk15=>wR λk16=>(F.y (F.lb (G.q 0))) λF=>(F.m) λF=>k16<|Yh<|lpB (F.b [7,8,9,11,26,27,28,32]) (G.b [2,3,4,5,6]) (4) (λk Lv Sv W=>Lv=[(12,.int .i64 (dyeN (val (T.getD i [])) k)),(33,.int .i64 ((k:Nat):Int))]/\Sv=[.q n9 ((Z7j val cF (Z2p cF (T.take i)))) 129,.q n11 ((tubC (val (T.getD i [])))) 88]/\0<=dyeN (val (T.getD i [])) k/\dyeN (val (T.getD i [])) k<=k) ⟨_,_,F.u,G.u,rfl,rfl,(by simp[dyeN,sumQ])⟩ ?_
  clear F G;rintro k _ w13 _ _ hi2 ⟨rfl,rfl,hdn⟩ F G;replace G:=G.z;refine wR λk17=>(F.y F.ls) λF=>k17<|wQ λk18=>F.ci (λhc34=>?_) (λhc34=>?_)
  ·refine Yi<|k18<|wQ λk19=>Yh<|wR λk20=>(F.y (F.iv 4 (Z6u (k:=k) rfl (by omega)))) λF=>(F.m) λF=>k20 ?_
   have hbk:=hts k (by omega);refine Yg<|(F.m) λF=>(F.m) λF=>(F.y F.mn) λF=>(F.y F.ad) λF=>(F.m) λF=>?_
   rw[show dyeN (val (T.getD i [])) k+min (val (T.getD i []) k) 1=dyeN (val (T.getD i [])) (k+1) from rfl]at F;refine k19<|Yg<|(F.y F.ad) λF=>(F.m) λF=>?_
   show _/\_;exact⟨by omega,_,_,F.u,G.u,rfl,rfl,(by have:=hts k (by omega);have h2:dyeN (val (T.getD i [])) (k+1)=dyeN (val (T.getD i [])) k+min (val (T.getD i []) k) 1:=rfl;constructor<;>omega)⟩
  ·refine wp_exit ?_
   rw[show k=4 by omega]at F;refine k15 ?_;have G2:=G;refine(wDN [n9] none G) λG=>(F.zr 0 (G.t 0) λhS=>F.lb (G2.k 1 hS)) λF=>(F.z 1 (G.t 0) F.mo) λF=>(F.zr 2 (G.t 0) λhS=>F.lb (G2.k 1 hS)) λF=>(aO 3)<|(F.ok0 G (Z0b (val (T.getD i [])) hts.ok _)) λF G=>.intro (G.t 0)<|(F.z 4 (G.t 0) (F.bv #[.int .i64 (dyeN (val (T.getD i [])) 4),.int .i64 (prt (val (T.getD i [])))])) λF=>?_
   have q9:=G.q 1;replace G:=G.d 1;refine(aO 5)<|(F.ok (Z8j val cF n9 (Z2p cF (T.take i)) (T.getD i []) _ q9)) ?_
   rintro _ w16 ⟨rfl,q9',e9⟩;refine⟨_,rfl,λF=>?_⟩;replace G:=G.x e9;refine .intro (G.t 0) ?_;rw[<-Z5q,<-Z2L T [] (by omega)]at q9';replace q9:=q9';clear q9';replace G:=G.cq q9;refine(aDN)<|k11<|Yg<|(F.y F.ad) λF=>(F.m) λF=>?_
   show _/\_;exact⟨by omega,_,_,F.u,G.u,rfl,rfl⟩
 ·refine wp_exit ?_
  have q9:=G.q 0;rw[List.take_of_length_le (show T.length<=i by omega)]at q9;replace G:=G.rQ 0 q9;clear q9;refine k7<|wQ λk21=>wQ λk22=>?_
  by_cases hN:Z2p cF T=none
  ·have q9:=G.q 0
   replace q9:w10.heap[n9]?=some (.cells #[.int .i64 (zf 0),.int .i64 (zf 1),.int .i64 (zf 2),.int .i64 (zf 3),.int .i64 0,.int .i64 0,.bool false] 129 (0,0)):=by rw[hN]at q9;exact q9
   replace G:=G.rQ 0 q9;clear q9;refine Yg<|(F.y (F.fd 6)) λF=>(F.y (F.lc (G.q 0))) λF=>(F.y F.nb) λF=>k22<|(F.cT)<|wR λk23=>(F.m) λF=>?_
   have E9:=G.e 1;replace G:=G.d 1;refine(F.st G 2) λG=>k23<|wp_ret ?_
   (try simp only[Exit.inBlock,Exit.then,reduceIte])
   refine Z3O F<|ZY<|Z0R (Z4w F rfl rfl rfl Qy.underlying30 rfl (G.q 2)) ?_
   rw[fewR,<-hT,hN];exact⟨none,0,rfl,World.ownsRow_nil _ _ _ _,(G.e 4)⟩
  ·obtain⟨t,ht⟩:=Option.ne_none_iff_exists'.1 hN
   have htm:=HM.out t (Zfw ht);have q9:=G.q 0;replace q9:w10.heap[n9]?=some (.cells #[.int .i64 (val t 0),.int .i64 (val t 1),.int .i64 (val t 2),.int .i64 (val t 3),.int .i64 (cF t).1,.int .i64 (cF t).2,.bool true] 129 (0,0)):=by rw[ht]at q9;exact q9
   replace G:=G.rQ 0 q9;clear q9;refine Yg<|(F.y (F.fd 6)) λF=>(F.y (F.lc (G.q 0))) λF=>(F.y F.nb) λF=>k22<|(F.cF)<|Yi<|k21<|wR λk24=>(F.y (F.lb (G.q 2))) λF=>(F.y (F.fd 0)) λF=>(F.y (F.lr (Z6h (n:=4) (G.q 0) rfl (midS (get0) (midS (getS (get0)) (midS (getS (getS (get0))) (midS (getS (getS (getS (get0)))) mid0))))))) λF=>?_
   have hEs:=(G.e 5).size;refine(F.k (Zct x HV.out (val t) _)) ?_;rintro _ w18 ⟨ca,cc,rfl,oo,e9⟩;refine⟨_,rfl,λF=>?_⟩;replace G:=G.ex e9;replace oo:=Z0v oo hEs;replace G:=G.co oo;refine(F.m) λF=>?_;replace G:=G.d 2;refine(F.st G 3) λG=>k24<|wp_ret ?_
   (try simp only[Exit.inBlock,Exit.then,reduceIte])
   refine Z3O F<|ZY<|Z0R (Z4w F rfl rfl rfl Qy.underlying30 rfl (G.q 3)) ?_
   rw[fewR,<-hT,ht];refine⟨ca,cc,?_,?_,(G.e 5)⟩
   ·simp only[Z4H]
   have oo:=G.o 0
   ·simp only[Z4H];exact oo
variable{μ:Nat}
def Z5n(v a b:Int)(s:Bool):Array Value:=#[.int .i64 v,.int .i64 a,.int .i64 b,.bool s]
theorem Zbp(nb:Nat)(v c d u a b:Int)(w:World)(hq:w.heap[nb]?=some (.cells (Z5n v c d false) 125 (0,0))):
  Calls (Qy.prog μ) 105 #[.pointer (some ⟨nb,0,none⟩),.int .i64 u,.agg #[.int .i64 a,.int .i64 b]] w λe w'=>e = .returned (.tuple #[])/\w'.heap[nb]?=some (.cells (Z5n u a b true) 125 (0,0))/\Ext [nb] w w':=by
 have E:Ext [nb] w w:=Ext.refl _ _;have qn:w.heap[nb]?=some (.cells #[.int .i64 v,.int .i64 c,.int .i64 d,.bool false] 125 (0,0)):=hq;clear hq;have G:=(Bk.nil w).ce E;replace G:=G.cq qn;refine(ent 31 Tryz.f105 rfl) λF=>wR λk1=>(F.bx G) λyy F G=>k1<|wQ λk2=>(wX 11 G) λG=>(F.sm) λF=>(F.s F.nc) λF=>(F.s (F.fd 3)) λF=>(F.s (F.lc (G.q 1))) λF=>(F.s F.nb) λF=>(F.sm) λF=>(F.sn) λF=>(F.sn) λF=>(F.sn) λF=>(F.sn) λF=>(F.sn) λF=>wpStill_nil ?_
 refine(F.n) λF=>(F.n) λF=>(F.y F.pT) λF=>k2<|(F.cT)<|Yg<|(F.m) λF=>(F.m) λF=>(F.m) λF=>(F.m) λF=>(F.y (F.lb (G.q 0))) λF=>(F.y F.nc) λF=>(F.y (F.fd 0)) λF=>(F.st G 1) λG=>(F.y F.nc) λF=>(F.y (F.fd 1)) λF=>(F.sW (cs2:=#[.int .i64 u,.int .i64 a,.int .i64 b,.bool false]) G 1 1 λ_ hw=>Z2j hw (G.q 1) (by simp only[List.setIfInBounds_toArray,lsQ,lzQ];exact rfl)) λG=>(F.y F.nc) λF=>(F.y (F.fd 3)) λF=>(F.st G 1) λG=>(F.f0) ?_
 exact⟨rfl,(G.q 1),(G.e 2)⟩
theorem Zbq(nb:Nat)(v c d u a b:Int)(w:World)(hq:w.heap[nb]?=some (.cells (Z5n v c d true) 125 (0,0))):
  Calls (Qy.prog μ) 105 #[.pointer (some ⟨nb,0,none⟩),.int .i64 u,.agg #[.int .i64 a,.int .i64 b]] w λe w'=>e = .returned (.tuple #[])/\w'.heap[nb]?=some (.cells (if cmpL [a,b] [c,d]<0 then Z5n u a b true else Z5n v c d true) 125 (0,0))/\Ext [nb] w w':=by
 have E:Ext [nb] w w:=Ext.refl _ _;have qn:w.heap[nb]?=some (.cells #[.int .i64 v,.int .i64 c,.int .i64 d,.bool true] 125 (0,0)):=hq;clear hq;have G:=(Bk.nil w).ce E;replace G:=G.cq qn;refine(ent 31 Tryz.f105 rfl) λF=>wR λk1=>(F.bx G) @λn5 w1 _ yy F G=>k1<|wQ λk2=>(wX 11 G) λG=>(F.sm) λF=>(F.s F.nc) λF=>(F.s (F.fd 3)) λF=>(F.s (F.lc (G.q 1))) λF=>(F.s F.nb) λF=>(F.sm) λF=>?_
 refine(F.s ((Z1K (n:=2) rfl (F.at rfl) (by kernel_rfl) (by kernel_rfl) (by kernel_rfl)))) λF=>(F.sm) λF=>(F.s F.nc) λF=>(F.s (F.fd 1)) λF=>?_;refine(F.s ((Z5V (n:=2) rfl (F.at rfl) (by kernel_rfl) (by kernel_rfl) (by kernel_rfl)))) λF=>wpStill_nil<|(F.k0 G (Z3b [a,b] [c,d] (some ⟨n5,0,none⟩) (some ⟨nb,1,none⟩) 2 2 _ (Z01 [a,b] 2 (G.q 0)) (ZaD [c,d] 2 (G.q 1) (λj hj=>by rcases j with _ | _ | j;(· rfl);(· rfl);(· simp at hj;omega))) (by simp) (by simp))) λF G=>(F.y F.ls) λF=>(F.y F.pF) λF=>k2<|F.ci (λhc19=>?_) (λhc19=>?_)
 ·refine Yg<|(F.m) λF=>(F.m) λF=>(F.m) λF=>(F.m) λF=>(F.y (F.lb (G.q 0))) λF=>(F.y F.nc) λF=>(F.y (F.fd 0)) λF=>(F.st G 1) λG=>(F.y F.nc) λF=>(F.y (F.fd 1)) λF=>(F.sW (cs2:=#[.int .i64 u,.int .i64 a,.int .i64 b,.bool true]) G 1 1 λ_ hw=>Z2j hw (G.q 1) (by simp only[List.setIfInBounds_toArray,lsQ,lzQ];exact rfl)) λG=>(F.y F.nc) λF=>(F.y (F.fd 3)) λF=>(F.st G 1) λG=>(F.f0) ?_
  exact⟨rfl,(by rw[if_pos hc19];exact(G.q 1)),(G.e 2)⟩
 ·refine Yi<|(F.e0) ?_
  exact⟨rfl,(by rw[if_neg hc19];exact(G.q 1)),(G.e 2)⟩
def Z6d(c:Nat->Int×Int):Option Nat->Array Value
 | none=>Z5n 0 0 0 false
 | some n=>Z5n ((n:Nat):Int) (c n).1 (c n).2 true
theorem Zbo(c:Nat->Int×Int)(nb:Nat)(o:Option Nat)(n:Nat)(w:World)(hq:w.heap[nb]?=some (.cells (Z6d c o) 125 (0,0))):
  Calls (Qy.prog μ) 105 #[.pointer (some ⟨nb,0,none⟩),.int .i64 ((n:Nat):Int),.agg #[.int .i64 (c n).1,.int .i64 (c n).2]] w λe w'=>e = .returned (.tuple #[])/\w'.heap[nb]?=some (.cells (Z6d c (offO c o n)) 125 (0,0))/\Ext [nb] w w':=by
 cases o with
 | none=>exact Zbp nb 0 0 0 ((n:Nat):Int) (c n).1 (c n).2 w hq
 | some u =>
  refine Calls.mono (Zbq nb ((u:Nat):Int) (c u).1 (c u).2 ((n:Nat):Int) (c n).1 (c n).2 w hq) ?_;rintro e w' ⟨h1,h2,h3⟩;refine⟨h1,?_,h3⟩;rw[h2,offO]
  split<;>rfl
theorem take_range(h:i<n): (List.range n).take (i+1)=(List.range n).take i++[i]:=by
 rw[Z2L (List.range n) 0 (by rw[List.length_range];exact h)];simp[h]
def bI(b:Bool):Int:=if b=true then 1 else 0
def rowU(p:Nat->Bool):Nat->Int
 | 0=>0
 | k+1=>rowU p k+bI (p k)
def triU(p:Nat->Nat->Bool):Nat->Int
 | 0=>0
 | j+1=>triU p j+rowU (p j) j
theorem Zlb(b:Bool):0<=bI b/\bI b<=1:=by cases b<;>simp[bI]
theorem Z9u(p:Nat->Bool):∀k,0<=rowU p k/\rowU p k<=k
 | 0=>by simp[rowU]
 | k+1=>by have:=Z9u p k;have:=Zlb (p k);rw[rowU];omega
theorem Z7L(p:Nat->Nat->Bool):∀j,j<=6->0<=triU p j/\triU p j<=6*j
 | 0,_=>by simp[triU]
 | j+1,h=>by have:=Z7L p j (by omega);have:=Z9u (p j) j;rw[triU];omega
def unlP(x:Vm)(n:Nat)(T:List (List Int))(j k:Nat):Bool:=!alkE x n (val (T.getD j [])) (val (T.getD k []))
def unN(x:Vm)(T:List (List Int))(n:Nat):Int:=triU (unlP x n T) T.length
def cT(x:Vm)(T:List (List Int))(n:Nat):Int×Int:=(-unN x T n,0)
def telR(x:Vm)(T:List (List Int)):Int×Int×Int:=match Z2p (cT x T) (List.range x.L.length) with
 | none=>(0,0,11)
 | some n=>if unN x T n=0 then(0,0,11) else((n:Nat),unN x T n,0)
theorem Z9J(x:Vm)(hv:VOk x)(S:List (Value×List Int))(hs:∀p∈S,RcpOk x p.2)(h6:S.length<=6)(a:Option Addr)(c:Nat)(w:World)(h:x.At w)(hl:Z0M w a S):
  Calls (Qy.prog μ) 49 #[.agg #[.int .i64 x.B,.slice x.da x.D.length x.dc,.slice x.la x.L.length x.lc,.int .i64 x.tol],.slice a S.length c] w λe w'=>e = .returned (.tuple #[.int .i64 (telR x (S.map (·.2))).1,.int .i64 (telR x (S.map (·.2))).2.1,.int .i64 (telR x (S.map (·.2))).2.2])/\Ext [] w w':=by
 have E:Ext [] w w:=Ext.refl _ _;have HX:=Lib.hid h;have HV:=Lib.hid hv;have HL:=Lib.hid hl;have HS:=Lib.hid hs;have hl3:=hv.l3;obtain⟨T,hT⟩:∃T,T=S.map (·.2):=⟨_,rfl⟩;have hTl:T.length=S.length:=by rw[hT,Yj]
 have HM:RowKit.Hid (∀t∈T,TubS (val t)):=Lib.hid (λt ht=>by
  rw[hT]at ht;obtain⟨p,hp,rfl⟩:=List.mem_map.1 ht;exact(hs p hp).tub)
 clear h hv hl hs;have G:=(Bk.nil w).ce E;refine(entM 67 Tryz.f49 rfl) λF=>wR λk1=>(F.bx G) λyy F G=>(F.m) λF=>(F.m) λF=>(F.al G Qy.zeroValue30) λyy F G=>k1<|wR λk2=>(F.df) λF=>k2<|wR λk3=>(F.y (F.lb (G.q 1))) λF=>(F.k0 G (ZZ x HV.out _ (HX.out.ext (G.e 2)))) λF G=>(F.al G Qy.zeroValue85) λyy F G=>(F.sr G 0) λG=>k3<|wQ λk4=>Yg ?_
 refine(F.y (F.lb (G.q 0))) λF=>(F.m) λF=>(F.k (Z5H x HV.out S HS.out h6 a c _ (HL.out.ext (G.e 3)))) ?_;rintro _ w6 ⟨ma,mc,rfl,om,e9⟩;refine⟨_,rfl,λF=>?_⟩;replace G:=G.ex e9;rw[<-hT,<-hTl]at om;rw[<-hTl]at F;have hrm:=Lib.hid (ZM (row:=λt:List Int=>tubR (val t)) om (λ_=>rfl));clear om;replace G:=G.hr [];refine(F.m) λF=>k4<|wR λk5=>(F.al G Qy.zeroValue125) @λn9 w7 _ yy F G=>?_
 have HTs:=Lib.hid (Z11 (X:=[n9]) hrm.out (λW e=>hrm.out.ext e (by simp;omega)) []);have E9:=(G.e 1).mono (Y:=[n9]) (by simp);have q9:=G.q 0;replace q9:w7.heap[n9]?=some (.cells (Z6d (cT x T) (Z2p (cT x T) ((List.range x.L.length).take 0))) 125 (0,0)):=q9;replace G:=G.rQ 0 q9;clear q9;replace G:=G.ce E9;refine k5<|wQ λk6=>wR λk7=>(F.y (F.fd 0)) λF=>(F.y (F.fd 2)) λF=>(F.y (F.lc (G.q 3))) λF=>(F.y F.ln) λF=>(F.m) λF=>k7<|Yh<|lpB (F.b [6,7,8,9,22]) (G.b [0,3,4,5,6]) (x.L.length) (λi Lv Sv W=>Lv=[(23,.int .i64 ((i:Nat):Int))]/\Sv=[.q n9 ((Z6d (cT x T) (Z2p (cT x T) ((List.range x.L.length).take i)))) 125]) ⟨_,_,F.u,G.u,rfl,rfl⟩ ?_
 clear F G;rintro i _ w8 _ _ hi1 ⟨rfl,rfl⟩ F G;replace G:=G.z;refine wR λk8=>(F.y F.ls) λF=>k8<|wQ λk9=>F.ci (λhc24=>?_) (λhc24=>?_)
 ·refine Yi<|k9<|wQ λk10=>Yh<|wR λk11=>(F.m) λF=>(F.m) λF=>k11<|wR λk12=>(F.m) λF=>?_
  rw[show (0:Int)=triU (unlP x i T) 0 from rfl]at F;refine k12<|wQ λk13=>wR λk14=>(F.m) λF=>(F.y F.ln) λF=>(F.m) λF=>k14<|Yh<|lpB (F.b [6,7,8,9,10,22,23,27]) (G.b [1,2,3,4,5]) (T.length) (λj Lv Sv W=>Lv=[(11,.int .i64 (triU (unlP x i T) j)),(28,.int .i64 ((j:Nat):Int))]/\Sv=[.q n9 ((Z6d (cT x T) (Z2p (cT x T) ((List.range x.L.length).take i)))) 125]) ⟨_,_,F.u,G.u,rfl,rfl⟩ ?_
  clear F G;rintro j _ w9 _ _ hi2 ⟨rfl,rfl⟩ F G;replace G:=G.z;refine wR λk15=>(F.y F.ls) λF=>k15<|wQ λk16=>F.ci (λhc29=>?_) (λhc29=>?_)
  ·refine Yi<|k16<|wQ λk17=>Yh<|wR λk18=>(F.m) λF=>(F.m) λF=>k18<|wR λk19=>(F.m) λF=>(F.m) λF=>?_
   rw[show triU (unlP x i T) j=triU (unlP x i T) j+rowU (unlP x i T j) 0 by rw[rowU,Int.add_zero]]at F;refine k19<|Yh<|lpB (F.b [6,7,8,9,10,12,22,23,27,28,31]) (G.b [1,2,3,4,5]) (j) (λk Lv Sv W=>Lv=[(11,.int .i64 (triU (unlP x i T) j+rowU (unlP x i T j) k)),(32,.int .i64 ((k:Nat):Int))]/\Sv=[.q n9 ((Z6d (cT x T) (Z2p (cT x T) ((List.range x.L.length).take i)))) 125]) ⟨_,_,F.u,G.u,rfl,rfl⟩ ?_
   clear F G;rintro k _ w10 _ _ hi3 ⟨rfl,rfl⟩ F G;replace G:=G.z;refine wR λk20=>(F.y F.ls) λF=>k20<|wQ λk21=>F.ci (λhc33=>?_) (λhc33=>?_)
   ·refine Yi<|k21<|wQ λk22=>Yh<|wR λk23=>(F.m) λF=>(F.m) λF=>k23<|wQ λk24=>(wX 10 G) λG=>(F.s (F.lb (G.q 2))) λF=>(F.sm) λF=>(F.sm) λF=>(F.sm) λF=>(F.sx HTs.out j) λxr25 F=>(F.s (F.lr (xr25 _ (G.e 1)))) λF=>(F.sm) λF=>(F.sm) λF=>(F.sx HTs.out k) λxr26 F=>(F.s (F.lr (xr26 _ (G.e 1)))) λF=>wpStill_nil<|(F.k0 G (Z6z x HV.out i (by omega) (val (T.getD j [])) (val (T.getD k [])) (HM.out _ (Z1e [] (by omega))) (HM.out _ (Z1e [] (by omega))) _ (HX.out.ext (G.e 5)))) λF G=>(F.y F.nb) λF=>?_
    have hb1:=Z7L (unlP x i T) j (by omega);have hb2:=Z9u (unlP x i T j) k;refine k24<|F.cb (λhc46=>?_) (λhc46=>?_)
    ·refine Yg<|(F.m) λF=>(F.y F.ad) λF=>(F.m) λF=>?_
     rw[show triU (unlP x i T) j+rowU (unlP x i T j) k+1=triU (unlP x i T) j+rowU (unlP x i T j) (k+1) by rw[rowU,show unlP x i T j k=true from hc46];simp[bI];omega]at F;refine k22<|Yg<|(F.y F.ad) λF=>(F.m) λF=>?_
     show _/\_;exact⟨by omega,_,_,F.u,G.u,rfl,rfl⟩
    ·rw[show triU (unlP x i T) j+rowU (unlP x i T j) k=triU (unlP x i T) j+rowU (unlP x i T j) (k+1) by rw[rowU,show unlP x i T j k=false from hc46];simp[bI]]at F
     refine Yi<|k22<|Yg<|(F.y F.ad) λF=>(F.m) λF=>?_
     show _/\_;exact⟨by omega,_,_,F.u,G.u,rfl,rfl⟩
   ·refine wp_exit ?_
    rw[show triU (unlP x i T) j+rowU (unlP x i T j) k=triU (unlP x i T) (j+1) by rw[triU,show k=j by omega]]at F;refine k17<|Yg<|(F.y F.ad) λF=>(F.m) λF=>?_
    show _/\_;exact⟨by omega,_,_,F.u,G.u,rfl,rfl⟩
  ·refine wp_exit ?_
   rw[show triU (unlP x i T) j=unN x T i by rw[unN,show T.length=j by omega]]at F;refine k13 ?_;have hub:=Z7L (unlP x i T) T.length (by omega);replace hub:0<=unN x T i/\unN x T i<=6*T.length:=hub;refine Yg<|(F.m) λF=>(F.m) λF=>(F.y F.ng) λF=>(F.y (F.bv #[.int .i64 (-(unN x T i)),.int .i64 0])) λF=>?_
   have q9:=G.q 0;replace G:=G.d 0;refine(F.k (Zbo (cT x T) n9 (Z2p (cT x T) ((List.range x.L.length).take i)) i _ q9)) ?_;rintro _ w13 ⟨rfl,q9',e9⟩;refine⟨_,rfl,λF=>?_⟩;replace G:=G.x e9;rw[<-Z5q,<-take_range (by omega)]at q9';replace q9:=q9';clear q9';replace G:=G.cq q9;refine k10<|Yg<|(F.y F.ad) λF=>(F.m) λF=>?_
   show _/\_;exact⟨by omega,_,_,F.u,G.u,rfl,rfl⟩
 ·refine wp_exit ?_
  have q9:=G.q 0;rw[List.take_of_length_le (show (List.range x.L.length).length<=i by rw[List.length_range];omega)]at q9;replace G:=G.rQ 0 q9;clear q9;refine k6<|wQ λk27=>wQ λk28=>?_
  by_cases hN:Z2p (cT x T) (List.range x.L.length)=none
  ·have q9:=G.q 0
   replace q9:w8.heap[n9]?=some (.cells #[.int .i64 0,.int .i64 0,.int .i64 0,.bool false] 125 (0,0)):=by rw[hN]at q9;exact q9
   replace G:=G.rQ 0 q9;clear q9;refine Yg<|(F.y (F.fd 1)) λF=>?_
   refine(F.y ((Z25 (n:=2) (sz:=1) rfl (F.at rfl) rfl Qy.underlying123 (by kernel_rfl) (by omega) (by omega)))) λF=>(F.y (F.lc (G.q 0))) λF=>(F.y F.eqT) λF=>k28<|(F.cT)<|wR λk29=>(F.m) λF=>(F.m) λF=>?_
   have E9:=G.e 1;replace G:=G.d 1;refine(F.st G 2) λG=>k29<|wp_ret ?_
   (try simp only[Exit.inBlock,Exit.then,reduceIte])
   refine Z3O F<|ZY<|Z0R (ZaF F rfl rfl rfl rfl Qy.underlying30 rfl (G.q 2)) ?_
   rw[<-hT,telR,hN];exact⟨rfl,(G.e 4)⟩
  ·obtain⟨n,hn⟩:=Option.ne_none_iff_exists'.1 hN
   have hub:=Z7L (unlP x n T) T.length (by omega);replace hub:0<=unN x T n/\unN x T n<=6*T.length:=hub;have q9:=G.q 0;replace q9:w8.heap[n9]?=some (.cells #[.int .i64 ((n:Nat):Int),.int .i64 (-unN x T n),.int .i64 0,.bool true] 125 (0,0)):=by rw[hn]at q9;exact q9
   replace G:=G.rQ 0 q9;clear q9;refine Yg<|(F.y (F.fd 1)) λF=>?_
   refine(F.y ((Z25 (n:=2) (sz:=1) rfl (F.at rfl) rfl Qy.underlying123 (by kernel_rfl) (by omega) (by omega)))) λF=>(F.y (F.lc (G.q 0))) λF=>(F.y F.eq) λF=>k28<|F.ci (λhc60=>?_) (λhc60=>?_)
   ·refine wR λk30=>(F.m) λF=>(F.m) λF=>?_
    have E9:=G.e 1;replace G:=G.d 1;refine(F.st G 2) λG=>k30<|wp_ret ?_
    (try simp only[Exit.inBlock,Exit.then,reduceIte])
    refine Z3O F<|ZY<|Z0R (ZaF F rfl rfl rfl rfl Qy.underlying30 rfl (G.q 2)) ?_
    rw[<-hT,telR,hn];simp only[show unN x T n=0 by omega,if_true];exact⟨trivial,(G.e 4)⟩
   ·refine Yi<|k27<|wQ λk31=>(wX 8 G) λG=>(F.s (F.fd 0)) λF=>(F.s (F.lc (G.q 0))) λF=>(F.s (F.fd 1)) λF=>?_
    refine(F.s ((Z25 (n:=2) (sz:=1) rfl (F.at rfl) rfl Qy.underlying123 (by kernel_rfl) (by omega) (by omega)))) λF=>(F.s (F.lc (G.q 0))) λF=>(F.s F.ng) λF=>(F.sm) λF=>(F.sm) λF=>wpStill_nil ?_;replace G:=G.d 1;refine(F.st G 2) λG=>k31<|wp_ret ?_
    (try simp only[Exit.inBlock,Exit.then,reduceIte])
    refine Z3O F<|ZY<|Z0R (ZaF F rfl rfl rfl rfl Qy.underlying30 rfl (G.q 2)) ?_
    rw[<-hT,telR,hn];simp only[show ¬unN x T n=0 by omega,if_false];refine⟨?_,(G.e 4)⟩;rw[Int.neg_neg]
variable{μ:Nat}
section
variable{P:Program}{ρ:Operand->Value}{o:Oper}{w:World}
theorem Zl1{k:IntKind}{n: Int}(ho:o.op = .binOp .and t x y t')(hx:ρ x = .int k n)(hy:ρ y = .int k m): (execOp ρ o).run P w = .ok (.value (.int k (bits .and k n m))) w:=by
 unfold execOp;simp[ho,hx,hy,binOp,Op.intBits,eqGuard,go_sem]
 rfl
theorem R_or{k:IntKind}{n: Int}(ho:o.op = .binOp .or t x y t')(hx:ρ x = .int k n)(hy:ρ y = .int k m): (execOp ρ o).run P w = .ok (.value (.int k (bits .or k n m))) w:=by
 unfold execOp;simp[ho,hx,hy,binOp,Op.intBits,eqGuard,go_sem]
 rfl
theorem Zji{k k':IntKind}{n:Int}{m:Nat}(ho:o.op = .binOp .shl t x y t')(hx:ρ x = .int k n)(hy:ρ y = .int k' m): (execOp ρ o).run P w = .ok (.value (.int k (k.wrap (n*2 ^ min m k.bits)))) w:=by
 unfold execOp;have hm:¬((m:Int)<0):=by omega
 simp[ho,hx,hy,binOp,Op.shift,eqGuard,hm,go_sem]
theorem Zb2{s:ByteArray}{i:Int}{b:UInt8}{k:IntKind}(ho:o.op = .index t (.const (.string s)) y)(hx:ρ (.const (.string s)) = .string s)(hy:ρ y = .int k i)(hu:P.underlying t=some .string)(h0:0<=i)(hb:s[i.toNat]?=some b): (execOp ρ o).run P w = .ok (.value (.int .u8 b.toNat)) w:=by
 unfold execOp;simp[ho,hx,hy,Instr.index,asIntOf,run_underlying hu,h0,hb,go_sem]
end
theorem has8:∀s,s<64->∀n,n<8->bits .and .u8 (((s:Nat):Int).fdiv (2 ^ min n IntKind.u8.bits)) 1=if s.testBit n then 1 else 0:=by decide +kernel
theorem shl8:∀n,n<7->IntKind.u8.wrap (1*2 ^ min n IntKind.u8.bits)=((2 ^ n:Nat):Int):=by decide +kernel
theorem or8:∀s,s<64->∀n,n<6->bits .or .u8 ((s:Nat):Int) ((2 ^ n:Nat):Int)=((s ||| 2 ^ n:Nat):Int):=by decide +kernel
def subB(s f:Nat):Bool:=(List.range 6).all λn=>!s.testBit n||f.testBit n
theorem not8:∀s,s<64->∀f,f<64->decide (bits .andNot .u8 ((s:Nat):Int) ((f:Nat):Int)=0)=subB s f:=by decide +kernel
theorem ZlM:∀s,s<64->∀n,n<6->s ||| 2 ^ n<64:=by decide +kernel
theorem add8:∀s,s<64->IntKind.u8.wrap (((s:Nat):Int)+1)=((s+1:Nat):Int):=by decide +kernel
def Zr(s:Nat):List Int:=((List.range 6).filter s.testBit).map λn=>((n:Nat):Int)
def Z0l(s:Nat):Nat:=((List.range 6).filter s.testBit).length
theorem ZjU(s n:Nat)(hs:s<64)(hn:n<8)(w:World):Calls (Qy.prog μ) 120 #[.int .u8 ((s:Nat):Int),.int .i64 ((n:Nat):Int)] w λe w'=>e = .returned (.bool (s.testBit n))/\Ext [] w w':=by
 have E:Ext [] w w:=Ext.refl _ _;have G:=(Bk.nil w).ce E;refine(ent 10 Tryz.f120 rfl) λF=>wR λk1=>(F.m) λF=>k1<|wR λk2=>(F.m) λF=>(F.m) λF=>?_
 refine(F.y ((Z8P rfl (F.at rfl) (F.at rfl)))) λF=>?_;refine(F.y ((Zl1 rfl (F.at rfl) (ev_c _ _)))) λF=>(F.y F.eq) λF=>(F.m) λF=>k2<|(F.r1) ?_
 exact⟨Z0Z (by rw[has8 s hs n hn];cases s.testBit n<;>rfl),(G.e 0)⟩
theorem Z5K{s: Nat}(h:k<6): (((List.range 6).take (k+1)).filter s.testBit)=((List.range 6).take k).filter s.testBit++if s.testBit k then[k] else[]:=by
 rw[take_range h,List.filter_append]
 by_cases hb:s.testBit k=true<;>simp[hb]
theorem Z7e(s:Nat)(hs:s<64)(w:World):Calls (Qy.prog μ) 74 #[.int .u8 ((s:Nat):Int)] w λe w'=>∃a c,e = .returned (.slice a (Zr s).length c)/\w'.ownsRow w.heap.size 3 1 (.slice a (Zr s).length c) (Zr s).length (ivs (Zr s))/\Ext [] w w':=by
 have E:Ext [] w w:=Ext.refl _ _;have oo:w.ownsRow w.heap.size 3 1 (.slice none 0 0) 0 (ivs ((((List.range 6).take 0).filter s.testBit).map λn=>((n:Nat):Int))):=World.ownsRow_nil _ _ _ _;have G:=(Bk.nil w).ce E;replace G:=G.co oo;refine(ent 17 Tryz.f74 rfl) λF=>wR λk1=>(F.m) λF=>k1<|wR λk2=>(F.m) λF=>k2<|wQ λk3=>wR λk4=>(F.m) λF=>k4<|Yh<|lpB (F.b [0]) (G.b [1]) (6) (λi Lv Sv W=>∃va:Option Addr,∃k:Nat,∃vc:Nat,Lv=[(3,.slice va k vc),(5,.int .i64 ((i:Nat):Int))]/\Sv=[]/\W.ownsRow w.heap.size 3 1 (.slice va k vc) k (ivs ((((List.range 6).take i).filter s.testBit).map λn=>((n:Nat):Int)))/\k=((((List.range 6).take i).filter s.testBit).map λn=>((n:Nat):Int)).length/\k<=i) ⟨_,_,F.u,G.u,none,0,0,rfl,rfl,(G.o 0),rfl,(Ye _)⟩ ?_
 clear F G;rintro i _ w1 _ _ hi1 ⟨va,k,vc,rfl,rfl,oo,hkl,hk6⟩ F G;replace G:=(G.z).co oo;refine wR λk5=>(F.y F.ls) λF=>k5<|wQ λk6=>F.ci (λhc6=>?_) (λhc6=>?_)
 ·refine Yi<|k6<|wQ λk7=>Yh<|wR λk8=>(F.m) λF=>(F.m) λF=>k8<|wR λk9=>(F.m) λF=>(F.m) λF=>(F.k0 G (ZjU s i hs (by omega) _)) λF G=>k9<|F.cb (λhc10=>?_) (λhc10=>?_)
  ·have hst:=Z5K (s:=s) (show i<6 by omega)
   rw[if_pos hc10]at hst;refine Yg<|(F.m) λF=>(F.m) λF=>(F.bs G 1 #[.int .i64 ((i:Nat):Int)] Qy.zeroValue3) λyy F G=>?_
   have hEs:=(G.e 2).size;refine ZK F rfl (by decide) (F.want rfl) (ZX rfl (w.heap.size) (e:=3) (size:=1) (bytes:=8) Qy.underlying22 (by kernel_rfl) (by decide) (F.at rfl) (G.o 1) (F.at rfl) (G.q 0) rfl (by simp[Value.oneCell']) (by omega) (by omega) (by omega)) ?_;clear F;rintro _ v' w4 F ⟨hown',hg⟩;obtain⟨va14,vc14,rfl⟩:=Zw hown';replace G:=(G.d 0).gr 0 hg hown';clear hg hown';have oo:=G.o 0;rw[Z1f,show ((((List.range 6).take i).filter s.testBit).map λn=>((n:Nat):Int))++[((i:Nat):Int)]=(((List.range 6).take (i+1)).filter s.testBit).map λn=>((n:Nat):Int) by rw[hst,List.map_append];rfl]at oo;replace hkl:k+1=((((List.range 6).take (i+1)).filter s.testBit).map λn=>((n:Nat):Int)).length:=by rw[hst,List.map_append,Ym,<-hkl];rfl
   replace G:=G.rO 0 oo;clear oo;refine(F.m) λF=>k7<|Yg<|(F.y F.ad) λF=>(F.m) λF=>?_
   show _/\_;exact⟨by omega,_,_,F.u,G.u,_,_,_,rfl,rfl,(G.o 0),hkl,(by omega)⟩
  ·have hst:=Z5K (s:=s) (show i<6 by omega)
   rw[if_neg (by rw[hc10];decide),List.append_nil]at hst;have oo:=G.o 0;rw[<-hst]at oo hkl;replace G:=G.rO 0 oo;clear oo;refine Yi<|k7<|Yg<|(F.y F.ad) λF=>(F.m) λF=>?_
   show _/\_;exact⟨by omega,_,_,F.u,G.u,_,_,_,rfl,rfl,(G.o 0),hkl,(by omega)⟩
 ·refine wp_exit ?_
  have oo:=G.o 0;rw[List.take_of_length_le (show (List.range 6).length<=i by rw[List.length_range];omega)]at oo hkl;replace hkl:k=(Zr s).length:=hkl;replace oo:w1.ownsRow w.heap.size 3 1 (.slice va k vc) k (ivs (Zr s)):=oo;replace G:=G.rO 0 oo;clear oo;refine k3<|wR λk10=>(F.m) λF=>(F.m) λF=>k10<|(F.r1) ?_
  rw[<-hkl];have oo:=G.o 0;exact⟨va,vc,rfl,oo,(G.e 1)⟩
def Zko:ByteArray:={data:=(([0,1,1,2,1,2,2,3,1,2,2,3,2,3,3,4,1,2,2,3,2,3,3,4,2,3,3,4,3,4,4,5,1,2,2,3,2,3,3,4,2,3,3,4,3,4,4,5,2,3,3,4,3,4,4,5,3,4,4,5,4,5,5,6].append [1,2,2,3,2,3,3,4,2,3,3,4,3,4,4,5,2,3,3,4,3,4,4,5,3,4,4,5,4,5,5,6,2,3,3,4,3,4,4,5,3,4,4,5,4,5,5,6,3,4,4,5,4,5,5,6,4,5,5,6,5,6,6,7]).append ([1,2,2,3,2,3,3,4,2,3,3,4,3,4,4,5,2,3,3,4,3,4,4,5,3,4,4,5,4,5,5,6,2,3,3,4,3,4,4,5,3,4,4,5,4,5,5,6,3,4,4,5,4,5,5,6,4,5,5,6,5,6,6,7].append [2,3,3,4,3,4,4,5,3,4,4,5,4,5,5,6,3,4,4,5,4,5,5,6,4,5,5,6,5,6,6,7,3,4,4,5,4,5,5,6,4,5,5,6,5,6,6,7,4,5,5,6,5,6,6,7,5,6,6,7,6,7,7,8])).toArray}
theorem Zio:∀s,s<64->Zko[(((s:Nat):Int)).toNat]?=some (UInt8.ofNat (Z0l s)):=by decide +kernel
theorem Zfq:∀s,s<64->IntKind.i64.wrap (((UInt8.ofNat (Z0l s)).toNat:Nat):Int)=((Z0l s:Nat):Int):=by decide +kernel
theorem Zfp(s:Nat)(hs:s<64)(w:World):Calls (Qy.prog μ) 121 #[.int .u8 ((s:Nat):Int)] w λe w'=>e = .returned (.int .i64 ((Z0l s:Nat):Int))/\Ext [] w w':=by
 have E:Ext [] w w:=Ext.refl _ _;have G:=(Bk.nil w).ce E;refine(ent 6 Tryz.f121 rfl) λF=>wR λk1=>(F.m) λF=>k1<|wR λk2=>(F.m) λF=>?_
 refine(F.y ((Zb2 (s:=Zko) rfl (ev_c _ _) (F.at rfl) Qy.underlying9 (by omega) (Zio s hs)))) λF=>?_;refine(F.y ((Z3q rfl (F.at rfl) Qy.underlying5 Qy.underlying3))) λF=>(F.m) λF=>k2<|(F.r1) ?_
 exact⟨Zo (Zfq s hs),(G.e 0)⟩
theorem Z4G(s:Nat)(hs:s<64)(w:World):Calls (Qy.prog μ) 75 #[.int .u8 ((s:Nat):Int)] w λe w'=>e = .returned (.int .i64 ((Z0l s:Nat):Int))/\Ext [] w w':=by
 have E:Ext [] w w:=Ext.refl _ _;have G:=(Bk.nil w).ce E;refine(ent 5 Tryz.f75 rfl) λF=>wR λk1=>(F.m) λF=>k1<|wR λk2=>(F.m) λF=>(F.k0 G (Zfp s hs _)) λF G=>(F.m) λF=>k2<|(F.r1) ?_
 exact⟨rfl,(G.e 0)⟩
variable{μ:Nat}
def Zs(w:World)(v:Value)(n:Nat):Prop:=∀g c i,v = .slice (some ⟨g,0,none⟩) n c->n<=i->i<c->w.cell? ⟨g,i,none⟩=some (.int .i64 0)
theorem ZgZ(w:World):Zs w (.slice none 0 0) 0:=λg c i h=>by cases h
theorem Zb0{w': World}(h:Zs w v n)(E:Ext [] w w'): Zs w' v n:=λg c i e h1 h2=>by
 have k:=h g c i e h1 h2;rw[<-k];exact E.cell (a:=⟨g,i,none⟩) (@Z0J Lift.jkN _ _ _ _ k).1 (by simp)
theorem ZaZ(h:i<n): (Builtin.zeroCells #[Value.int .i64 0] n)[i]?=some (.int .i64 0):=by
 have e:(Builtin.zeroCells #[Value.int .i64 0] n)=(Array.range (n*1)).map λi=>(#[Value.int .i64 0])[i % 1]!:=rfl;rw[e,Array.getElem?_map,Y2 (by simpa using h)];simp[Nat.mod_one]
theorem Z8M{g:Nat}{a:Array Value}(hg:w.heap[g]?=some (.cells (a++Builtin.zeroCells #[Value.int .i64 0] (c-n)) e fz))(ha:a.size=n)(h1:n<=i)(h2:i<c): w.cell? ⟨g,i,none⟩=some (.int .i64 0):=by
 rw[World.cell?];simp only[hg,Option.isSome_none,Bool.false_eq_true,if_false];rw[Array.getElem?_append_right (by omega),ha];exact ZaZ (by omega)
theorem Z55{o:Oper}{a:Act}{s: Operand}(ho:o.op = .call {callee:=.builtin .append,args:=#[s,x],argTypes:=#[t,t]})(base:Nat)(ht:P.underlying t=some (.slice e))(hi:(P.info? e).map (λi=>(i.size,i.bytes,i.zero.map (·.cells)))=some (1,8,some #[Value.int .i64 0])){xs:List Value}(hs:a.eval s=v)(hown:w.ownsRow base e 1 v n xs)(hz:Zs w v n){g: Nat}{u:Value}(hx:a.eval x = .slice (some ⟨g,0,none⟩) 1 c)(hg:w.heap[g]?=some (.cells [u].toArray T fz))(h1:u.oneCell'=true)(hn:n<=1000000)(hbase:base<=w.heap.size):
  ∃v' w',(execOp a.eval o).run P w = .ok (.value v') w'/\w'.ownsRow base e 1 v' (n+1) (xs++[u])/\w.grownBy w' v.ownBlock/\Zs w' v' (n+1):=by
 cases hq:P.info? e with
 | none=>simp[hq]at hi
 | some i =>
  simp only[hq,Option.map_some,Y4,Y9,Y3]at hi;obtain⟨hi1,hi2,z,hz1,hz2⟩:=hi;have hnews:∀j y,[u][j]?=some y->w.cell? ((⟨g,0,none⟩:Addr).add j)=some y:=λj y hy=>by
   rw[Addr.add_lit,Nat.zero_add,Z1 hg];simpa using hy
  have h1':∀y∈[u],y.oneCell'=true:=by simpa using h1
  have hb:(n+1)*8<=140737488355328:=by omega
  obtain⟨v',w',hr,h2,h3,-⟩:=run_append_own (P:=P) w base t o.type e i z 1 8 ht hq hz1 hi1 hi2 (by rw[hz2];rfl) (by omega) v n xs hown ⟨g,0,none⟩ 1 c [u] (by simp) hnews h1' (by simp only[maxLen];omega) hb hbase;refine⟨v',w',?_,h2,h3,?_⟩
  ·unfold execOp
   simp only[ho,resolve,invoke,builtin,Sem.run_bind,Sem.run_pure,Result.andThen_ok,List.map_toArray,List.map_cons,List.map_nil,hs,hx,hr]
  ·have hl:xs.length=n:=by have:=hown.1;omega
   rcases hown.2 with⟨rfl,rfl⟩ | ⟨g0,cap,cur,rfl,hbg,hg0,hnc,hcm,hcs,htake⟩
   ·have hr2:=run_append_nil (P:=P) w t o.type e i z ht hq hz1 ⟨g,0,none⟩ 1 c [u] (by simp[hi1]) hnews (by omega) (by omega) (by omega)
    have:=hr.symm.trans hr2
    injection this with e1 e2
    subst e1 e2;intro g' c' j e h4 h5;simp only[Value.slice.injEq,Y4,Addr.mk.injEq]at e;obtain⟨⟨rfl,_⟩,_,rfl⟩:=e;rw[hz2]at *;exact Z8M (heap_alloc_new _ _) (by simp) (by omega) h5
   ·by_cases hroom:n+1<=cap
    ·have hr2:=run_append_room (P:=P) w t o.type e i ht hq g0 n cap cur hg0 ⟨g,0,none⟩ 1 c [u] (by simp[hi1]) hnews h1' hroom (by simp only[hi1,hcs,List.length_singleton];omega)
     have:=hr.symm.trans hr2
     injection this with e1 e2
     subst e1 e2;intro g' c' j e h4 h5;simp only[Value.slice.injEq,Y4,Addr.mk.injEq]at e;obtain⟨⟨rfl,_⟩,_,rfl⟩:=e;have hk:=hz g0 cap j rfl (by omega) h5;rw[World.cell?]at hk⊢;rw[setRow_heap _ _ _ _ _ _ hg0];rw[hg0]at hk;simp only[Option.isSome_none,Bool.false_eq_true,if_false]at hk⊢;rw[List.getElem?_toArray,List.append_assoc,List.getElem?_append_right (by simp only[List.length_take,hi1];omega),List.getElem?_append_right (by simp only[List.length_take,List.length_singleton,hi1,Array.length_toList,hcs];omega),List.getElem?_drop];rw[show n*i.size+[u].length+(j-(List.take (n*i.size) cur.toList).length-[u].length)=j by simp only[List.length_take,List.length_singleton,hi1,Array.length_toList,hcs];omega];simpa using hk
    ·have holds:∀j y,xs[j]?=some y->w.cell? ((⟨g0,0,none⟩:Addr).add j)=some y:=hown.cells (g:=g0) rfl
     have hcc:cap=n:=by omega
     have hr2:=run_append_grow (P:=P) w t o.type e i z ht hq hz1 ⟨g0,0,none⟩ n cap xs (by rw[hi1];omega) holds ⟨g,0,none⟩ 1 c [u] (by simp[hi1]) hnews (by omega) (by omega) (growslice_fits (by omega) (by rw[hi2];exact hb));have:=hr.symm.trans hr2
     injection this with e1 e2
     subst e1 e2;intro g' c' j e h4 h5;simp only[Value.slice.injEq,Y4,Addr.mk.injEq]at e;obtain⟨⟨rfl,_⟩,_,rfl⟩:=e;rw[hz2]at *;exact Z8M (heap_alloc_new _ _) (by simp;omega) (by omega) h5
def IntR(base:Nat)(w:World)(l:List Int)(v:Value):Prop:=
 (l=[]/\v = .slice none 0 0)\/∃g c,l≠[]/\v = .slice (some ⟨g,0,none⟩) l.length c/\base<=g/\l.length<=c/\c<=maxLen/\w.heap[g]?=some (.cells (ivs l++List.replicate (c-l.length) (Value.int .i64 0)).toArray 3 (0,0))
theorem ZgA{base: Nat}{va:Option Addr}{l:List Int}(h:w.ownsRow base 3 1 (.slice va n c) n (ivs l))(z:Zs w (.slice va n c) n)(hn:n=l.length)(h0:n=0->va=none): IntR base w l (.slice va n c):=by
 subst hn
 rcases h.2 with⟨e,h2⟩ | ⟨g,cap,cur,e,hb,hg,hnc,hcm,hcs,ht⟩
 ·simp only[Value.slice.injEq]at e
  obtain⟨rfl,hl,rfl⟩:=e;refine .inl ⟨List.length_eq_zero_iff.1 hl,by rw[hl]⟩
 ·simp only[Value.slice.injEq]at e
  obtain⟨rfl,_,rfl⟩:=e;refine .inr ⟨g,c,λe=>?_,rfl,hb,hnc,hcm,?_⟩
  ·have:=h0 (by rw[e];rfl)
   cases this
  ·rw[hg]
   have hcl:cur.toList.length=c:=by rw[Array.length_toList,hcs];omega
   have hil:(ivs l).length=l.length:=by simp[ivs]
   have:cur=(ivs l++List.replicate (c-l.length) (Value.int .i64 0)).toArray:=by
    apply Array.ext';rw[<-ht];apply List.ext_getElem?;intro i
    rcases Nat.lt_or_ge i l.length with hi | hi
    ·rw[List.getElem?_append_left (by rw[List.length_take,hcl];simp only[Nat.mul_one];omega),List.getElem?_take,if_pos (by simp only[Nat.mul_one];omega)]
    ·have hlt:(List.take (l.length*1) cur.toList).length=l.length:=by rw[List.length_take,hcl,Nat.mul_one];omega
     rw[List.getElem?_append_right (by rw[hlt];exact hi),hlt]
     rcases Nat.lt_or_ge i c with h2 | h2
     ·have:=z g c i rfl hi h2
      rw[World.cell?]at this;rw[hg]at this;simp only[Option.isSome_none,Bool.false_eq_true,if_false]at this;rw[Array.getElem?_toList,this,List.getElem?_replicate,if_pos (by omega)]
     ·rw[List.getElem?_eq_none (by rw[hcl];omega),List.getElem?_eq_none (by rw[List.length_replicate];omega)]
   rw[this]
end
section
open Go.RowKit Ev
variable{μ:Nat}
def Z0z(n:Nat)(β:Nat->Bool):List Int:=((List.range n).filter β).map λk=>((k:Nat):Int)
theorem Z3F{β:Nat->Bool}(h:k<n): (((List.range n).take (k+1)).filter β)=((List.range n).take k).filter β++if β k then[k] else[]:=by
 rw[List.take_range,List.take_range,Nat.min_eq_left (by omega),Nat.min_eq_left (by omega),List.range_succ,List.filter_append]
 cases h:β k<;>simp[h]
def UnR(w:World)(l:List Int)(e:Ending)(w':World):Prop:=∃v,e = .returned v/\IntR w.heap.size w' l v/\Ext [] w w'
theorem ZiT(n:Nat)(hn:n<=3)(β:Nat->Bool)(n7 n16:Nat)(T:TypeId)(fz fz':Nat×Nat)(w:World)(fa:Act)(F:Has 42 [] fa [(7,pt n7),(9,.slice none 0 0)])(q7:w.heap[n7]?=some (.cells #[.slice (some ⟨n16,0,none⟩) n n] T fz))(q16:∀k,k<n->w.cell? ⟨n16,k,none⟩=some (.bool (β k)))(h16:n16<w.heap.size):
  Code.wp (Qy.prog 2) (sqR (sqR Z6J)) (bodyPost (Qy.prog 2) Tryz.f66 λe w'=>UnR w (Z0z n β) e w') fa w:=by
 have E:Ext [] w w:=Ext.refl _ _;have HS:Hid (SlAt [] w (some ⟨n16,0,none⟩) 1 n (λi=>[.bool (β i)])):=by
  refine Lib.hid ((@Z0e Lift.jkN _ _ _ _).2 λi hi=>⟨_,_,rfl,?_⟩);have:=q16 i hi;simpa using this
 have oo:w.ownsRow w.heap.size 3 1 (.slice none 0 0) 0 (ivs ((((List.range n).take 0).filter β).map λn=>((n:Nat):Int))):=World.ownsRow_nil _ _ _ _;have zz:Zs w (.slice none 0 0) 0:=ZgZ w;refine wS λK1 hK1=>wS λK2 hK2=>?_;refine Yg ?_;refine F.vl (ZH rfl (F.at rfl) Qy.underlying151 rfl ((Z1 q7 0).trans (get0))) λfa F=>?_;refine F.vl (Z3r rfl rfl (F.at rfl) Qy.underlying151) λfa F=>?_;refine F.vl (Z0E rfl (ev_c fa _)) λfa F=>?_;refine wN<|hK2 _ _ ?_
 refine Yh ?_;have F0:=F.sub (.c 28 rfl (.c 29 rfl .n));refine Z6c F0 (n) (λi Lv W=>∃va:Option Addr,∃k:Nat,∃vc:Nat,Lv=[(9,.slice va k vc),(30,.int .i64 ((i:Nat):Int))]/\Ext [] w W/\W.ownsRow w.heap.size 3 1 (.slice va k vc) k (ivs ((((List.range n).take i).filter β).map λn=>((n:Nat):Int)))/\k=((((List.range n).take i).filter β).map λn=>((n:Nat):Int)).length/\k<=i/\Zs W (.slice va k vc) k/\(k=0->va=none)) ⟨_,⟨none,0,0,rfl,E,oo,rfl,(Ye _),zz,(λ_=>rfl)⟩,F.sub (.c 9 rfl (.c 30 rfl (.c 28 rfl (.c 29 rfl .n))))⟩ ?_;clear F F0;clear E;clear oo;rintro i _ fa w1 hi1 ⟨va,k,vc,rfl,E,oo,hkl,hk6,zz,hz0⟩ F;refine wS λK3 hK3=>?_;refine Yg ?_;refine F.vl (Z52 rfl (F.at rfl) (F.at rfl)) λfa F=>?_;refine wN<|hK3 _ _<|wS λK4 hK4=>?_
 refine Z6L F rfl (λhc31=>?_) (λhc31=>?_)
 ·skip
  refine Yi ?_;refine hK4 _ _<|wS λK5 hK5=>?_
  refine Yh ?_;refine wS λK6 hK6=>?_;refine Yg ?_;refine F.mv λfa F=>?_;obtain⟨xb7,xo7,xa7,xr7⟩:=HS.out i (by omega);refine F.vl (Z50 (sz:=1) rfl ((F.at rfl).trans (xa7 _ _)) (F.at rfl) Qy.underlying151 (by kernel_rfl) (by omega) (by omega)) λfa F=>?_;refine F.vl (ZH rfl (F.at rfl) Qy.underlying4 rfl (xr7 _ E 0 _ rfl)) λfa F=>?_;refine F.as λfa F=>?_;refine F.as λfa F=>?_;refine wN<|hK6 _ _<|wS λK8 hK8=>?_
  refine Yg ?_;refine F.mv λfa F=>?_;refine wN<|hK8 _ _ ?_
  refine cd_b F rfl (λhc35=>?_) (λhc35=>?_)
  ·skip
   have hst:=Z3F (β:=β) (show i<n by omega);rw[if_pos hc35]at hst;refine Yg ?_;refine F.mv λfa F=>?_;refine F.mv λfa F=>?_;refine sqN F (ZI rfl (prS (F.at rfl) pr0) Qy.underlying22 (size:=1) (by kernel_rfl) (by decide) (by decide) Qy.zeroValue3 (cells:=#[.int .i64 ((i:Nat):Int)]) (by kernel_rfl)) λfa w2 F hw=>?_;obtain⟨n38,hn⟩:=eQ w1.heap.size;rw[<-hn]at F;have s38:=sQ hn;have l38_E:=lQ hn E.size;have o38_oo:=Lib.hid (Z0u oo hn);replace oo:=Z0d hw oo;replace zz:=Zb0 zz (Z2 (Ext.refl [] _) hw);replace E:=Z2 E hw;have q38:=ZU hw hn;clear hw hn;have hEs:=E.size;refine ZK F rfl (by decide) rfl (Z55 rfl (w.heap.size) (e:=3) Qy.underlying22 (by kernel_rfl) (F.at rfl) oo zz (F.at rfl) q38 rfl (by omega) (by omega)) ?_;clear F fa;rintro fa v' w3 F ⟨hown',hg,hzz⟩;obtain⟨va39,vc39,rfl⟩:=Zw hown';replace E:=Z0G E oo hg (by omega);replace oo:=hown';replace zz:=hzz;clear hg;rw[Z1f,show ((((List.range n).take i).filter β).map λn=>((n:Nat):Int))++[((i:Nat):Int)]=(((List.range n).take (i+1)).filter β).map λn=>((n:Nat):Int) by rw[hst,List.map_append];rfl]at oo;replace hkl:k+1=((((List.range n).take (i+1)).filter β).map λn=>((n:Nat):Int)).length:=by rw[hst,List.map_append,Ym,<-hkl];rfl
   refine F.as λfa F=>?_;refine wN<|hK5 _ _ ?_
   refine Yg ?_;refine F.vl (Z5O rfl (F.at rfl) (ev_c fa _) (by omega) (by omega)) λfa F=>?_;refine F.mv λfa F=>?_;refine wpList_nil ?_;show _/\_;exact⟨by omega,_,⟨_,_,_,rfl,E,oo,hkl,(by omega),zz,(λh=>by first | exact absurd h (by omega) | exact hz0 h)⟩,F.sub (.c 9 rfl (.c 30 rfl (.c 28 rfl (.c 29 rfl .n))))⟩
  ·skip
   have hst:=Z3F (β:=β) (show i<n by omega);rw[if_neg (by rw[hc35];decide),List.append_nil]at hst;rw[<-hst]at oo hkl;refine Yi ?_;refine hK5 _ _ ?_;refine Yg ?_;refine F.vl (Z5O rfl (F.at rfl) (ev_c fa _) (by omega) (by omega)) λfa F=>?_;refine F.mv λfa F=>?_;refine wpList_nil ?_;show _/\_;exact⟨by omega,_,⟨_,_,_,rfl,E,oo,hkl,(by omega),zz,(λh=>by first | exact absurd h (by omega) | exact hz0 h)⟩,F.sub (.c 9 rfl (.c 30 rfl (.c 28 rfl (.c 29 rfl .n))))⟩
 ·skip
  refine wp_exit ?_;rw[List.take_of_length_le (show (List.range n).length<=i by rw[List.length_range];omega)]at oo hkl;replace zz:Zs w1 (.slice va k vc) k:=zz;replace hkl:k=(Z0z n β).length:=hkl;replace oo:w1.ownsRow w.heap.size 3 1 (.slice va k vc) k (ivs (Z0z n β)):=oo;refine hK1 _ _<|wS λK9 hK9=>?_
  refine Yg ?_;refine F.mv λfa F=>?_;refine F.as λfa F=>?_;refine wN<|hK9 _ _ ?_
  refine wp_ret ?_
  (try simp only[Exit.inBlock,Exit.then,reduceIte])
  refine rt_v F (rs_1 F rfl rfl) ?_;exact⟨_,rfl,ZgA oo zz hkl hz0,E⟩
variable{μ:Nat}
theorem Qy.ntmps187:Qy.f187.ntmps=14:=rfl
theorem ZaV(x:Vm)(hx:x.L.length<=3)(cf:FuncId)(us:Array Value)(β:Nat->Bool)(hcf:∀args w,(callFunc cf args).run (Qy.prog 0) w = .ok (.enter cf args) w)(w:World)
  (hask:∀k,k<x.L.length->∀W,Ext [] w W->Calls (Qy.prog 0) cf (#[]++[.int .i64 ((k:Nat):Int)].toArray++us) W λe w'=>e = .returned (.bool (β k))/\Ext [] W w') :
  Calls (Qy.prog 0) 66 #[x.val,.func (.func cf) #[] us] w λe w'=>UnR w (Z0z x.L.length β) e w':=by
 have E:Ext [] w w:=Ext.refl _ _;have HA:=Lib.hid hask;have HF:=Lib.hid hcf;clear hask hcf;unfold Vm.val;have oo:w.ownsRow w.heap.size 3 1 (.slice none 0 0) 0 (ivs ((((List.range x.L.length).take 0).filter β).map λn=>((n:Nat):Int))):=World.ownsRow_nil _ _ _ _;have zz:Zs w (.slice none 0 0) 0:=ZgZ w;refine ZS 14 Qy.func66 rfl Qy.ntmps187 (Nat.le_of_ble_eq_true rfl) ?_;intro fa F;refine wS λK1 hK1=>?_;refine Yg ?_;refine sqN F (Z1B rfl (F.at rfl)) λfa w1 F hw=>?_;obtain⟨n2,hn⟩:=eQ w.heap.size;rw[<-hn]at F;have s2:=sQ hn;have l2_E:=lQ hn E.size;have o2_oo:=Lib.hid (Z0u oo hn);replace oo:=Z0d hw oo;replace zz:=Zb0 zz (Z2 (Ext.refl [] _) hw);replace E:=Z2 E hw;have q2:=Zf hw hn;clear hw hn;refine F.vl (ZO rfl (F.at rfl) Qy.underlying85 rfl (n:=0) (sz:=4) rfl (by kernel_rfl) (by decide)) λfa F=>?_;refine F.vl (ZO rfl (F.at rfl) Qy.underlying27 rfl (n:=2) (sz:=1) rfl (by kernel_rfl) (by decide)) λfa F=>?_;refine F.vl (ZH rfl (F.at rfl) Qy.underlying25 rfl ((Z1 q2 2).trans (getS (getS (get0))))) λfa F=>?_;refine F.vl (Z3r rfl rfl (F.at rfl) Qy.underlying25) λfa F=>?_;refine F.vl (Z0E rfl (ev_c fa _)) λfa F=>?_;refine F.vl (ZC rfl (ev_c fa _)) λfa F=>?_;refine wN<|hK1 _ _<|wS λK2 hK2=>?_
 refine Yh ?_;have F0:=F.sub (.c 1 rfl (.c 6 rfl .n));refine Z6c F0 (x.L.length) (λi Lv W=>∃va:Option Addr,∃k:Nat,∃vc:Nat,Lv=[(7,.int .i64 ((i:Nat):Int)),(8,.slice va k vc)]/\Ext [] w W/\W.heap[n2]?=some (.cells #[.int .i64 x.B,.slice x.da x.D.length x.dc,.slice x.la x.L.length x.lc,.int .i64 x.tol] 85 (0,0))/\W.ownsRow w.heap.size 3 1 (.slice va k vc) k (ivs ((((List.range x.L.length).take i).filter β).map λn=>((n:Nat):Int)))/\k=((((List.range x.L.length).take i).filter β).map λn=>((n:Nat):Int)).length/\k<=i/\Zs W (.slice va k vc) k/\(k=0->va=none)) ⟨_,⟨none,0,0,rfl,E,q2,oo,rfl,(Ye _),zz,(λ_=>rfl)⟩,F.sub (.c 7 rfl (.c 8 rfl (.c 1 rfl (.c 6 rfl .n))))⟩ ?_;clear F F0;clear E q2;clear oo;rintro i _ fa w2 hi1 ⟨va,k,vc,rfl,E,q2,oo,hkl,hk6,zz,hz0⟩ F;refine wS λK3 hK3=>?_;refine Yg ?_;refine F.vl (Z52 rfl (F.at rfl) (F.at rfl)) λfa F=>?_;refine wN<|hK3 _ _<|wS λK4 hK4=>?_
 refine Z6L F rfl (λhc9=>?_) (λhc9=>?_)
 ·skip
  refine Yi ?_;refine hK4 _ _<|wS λK5 hK5=>?_
  refine Yg ?_;refine sqC F (Z38 rfl (F.at rfl) HF.out (mpS (F.at rfl) mp0) rfl) ((HA.out i (by omega) _ E)) λe w3 hR=>?_;obtain⟨rfl,e9⟩:=hR;refine⟨_,rfl,λfa F=>?_⟩;replace oo:=Z0D oo (e9) (by simp);replace zz:=Zb0 zz (e9);replace q2:=(e9).keep0 q2;replace E:=Z4 E (e9);clear e9;refine wN<|hK5 _ _<|wS λK6 hK6=>?_
  refine cd_b F rfl (λhc10=>?_) (λhc10=>?_)
  ·skip
   have hst:=Z3F (β:=β) (show i<x.L.length by omega);rw[if_pos hc10]at hst;refine Yg ?_;refine sqN F (ZI rfl (prS (F.at rfl) pr0) Qy.underlying22 (size:=1) (by kernel_rfl) (by decide) (by decide) Qy.zeroValue3 (cells:=#[.int .i64 ((i:Nat):Int)]) (by kernel_rfl)) λfa w4 F hw=>?_;obtain⟨n11,hn⟩:=eQ w3.heap.size;rw[<-hn]at F;have s11:=sQ hn;have l11_E:=lQ hn E.size;have m11_2:=tQ hn (Z3 q2);have o11_oo:=Lib.hid (Z0u oo hn);replace oo:=Z0d hw oo;replace zz:=Zb0 zz (Z2 (Ext.refl [] _) hw);replace q2:=Z0 hw q2;replace E:=Z2 E hw;have q11:=ZU hw hn;clear hw hn;have hEs:=E.size;refine ZK F rfl (by decide) rfl (Z55 rfl (w.heap.size) (e:=3) Qy.underlying22 (by kernel_rfl) (F.at rfl) oo zz (F.at rfl) q11 rfl (by omega) (by omega)) ?_;clear F fa;rintro fa v' w5 F ⟨hown',hg,hzz⟩;obtain⟨va12,vc12,rfl⟩:=Zw hown';replace q2:=Z08 oo hg q2 (by decide);replace E:=Z0G E oo hg (by omega);replace oo:=hown';replace zz:=hzz;clear hg;rw[Z1f,show ((((List.range x.L.length).take i).filter β).map λn=>((n:Nat):Int))++[((i:Nat):Int)]=(((List.range x.L.length).take (i+1)).filter β).map λn=>((n:Nat):Int) by rw[hst,List.map_append];rfl]at oo;replace hkl:k+1=((((List.range x.L.length).take (i+1)).filter β).map λn=>((n:Nat):Int)).length:=by rw[hst,List.map_append,Ym,<-hkl];rfl
   refine F.as λfa F=>?_;refine wN<|hK6 _ _ ?_
   refine Yg ?_;refine F.vl (Z5O rfl (F.at rfl) (ev_c fa _) (by omega) (by omega)) λfa F=>?_;refine F.mv λfa F=>?_;refine wpList_nil ?_;show _/\_;exact⟨by omega,_,⟨_,_,_,rfl,E,q2,oo,hkl,(by omega),zz,(λh=>by first | exact absurd h (by omega) | exact hz0 h)⟩,F.sub (.c 7 rfl (.c 8 rfl (.c 1 rfl (.c 6 rfl .n))))⟩
  ·skip
   have hst:=Z3F (β:=β) (show i<x.L.length by omega);rw[if_neg (by rw[hc10];decide),List.append_nil]at hst;rw[<-hst]at oo hkl;refine Yi ?_;refine hK6 _ _ ?_;refine Yg ?_;refine F.vl (Z5O rfl (F.at rfl) (ev_c fa _) (by omega) (by omega)) λfa F=>?_;refine F.mv λfa F=>?_;refine wpList_nil ?_;show _/\_;exact⟨by omega,_,⟨_,_,_,rfl,E,q2,oo,hkl,(by omega),zz,(λh=>by first | exact absurd h (by omega) | exact hz0 h)⟩,F.sub (.c 7 rfl (.c 8 rfl (.c 1 rfl (.c 6 rfl .n))))⟩
 ·skip
  refine wp_exit ?_;rw[List.take_of_length_le (show (List.range x.L.length).length<=i by rw[List.length_range];omega)]at oo hkl;replace zz:Zs w2 (.slice va k vc) k:=zz;replace hkl:k=(Z0z x.L.length β).length:=hkl;replace oo:w2.ownsRow w.heap.size 3 1 (.slice va k vc) k (ivs (Z0z x.L.length β)):=oo;refine hK2 _ _ ?_;refine wp_ret ?_
  (try simp only[Exit.inBlock,Exit.then,reduceIte])
  refine rt_v F (rs_1 F rfl rfl) ?_;exact⟨_,rfl,ZgA oo zz hkl hz0,E⟩
end
end Go.Proofs.YtfelljbfeoplhaaGreat
