/- Parts of a proof: Dck2, Dvt, Dtb, Dvb, Uy, Zg, Jd, Ev, Ew, Au, Exo, Mc, Md. No conditions. -/
import Derived.Conc.DeferLaws
import Derived.Conc.MarkLaws
import Derived.Conc.SmallLaws
import Derived.KernelRfl
import Derived.Laws.LoneSync
import Derived.Test.YtfelljbfeoplhaaGreatProg
import Derived.Test.YtfelljbfeoplhaaGreatPal3
import Derived.Test.YtfelljbfeoplhaaGreatPal4
import Derived.Test.YtfelljbfeoplhaaGreatPal5
import Derived.Test.YtfelljbfeoplhaaGreatPal6
set_option linter.unusedVariables false
set_option linter.unusedSimpArgs false
set_option linter.unusedSectionVars false
set_option maxRecDepth 100000
set_option maxHeartbeats 4000000
variable {b c i k:Nat} {w:Go.World} {a:Option Go.Addr} {f:Nat → Int} {g:Go.FuncId} {o:Go.Oper} {x y:Go.Value} {xs:List Int} {ρ ρ':Go.Operand → Go.Value} {ops:Array Go.Oper}
namespace Go.Proofs.YtfelljbfeoplhaaGreat
open Go.RowKit
variable {μ:Nat}
theorem Z1X (M:List (Value × List Int)) (h:i < M.length): (M.map (·.2)).getD i [] = (M.getD i (.bool true,[])).2:=Zfg (fun p:Value × List Int=>p.2) (.bool true,[]) M h
section
variable {B tol:Int} {ds ls:List (List Int)}
theorem chk1 (h:outB B 1 3 = true):chkE B ds ls tol = 1:=if_pos h
theorem chk2 (h:outB B 1 3 = false) (h2:sizE ds.length 4 ≠ 0):chkE B ds ls tol = sizE ds.length 4:=by
 rw [chkE,if_neg (by rw [h];decide),if_pos h2]
theorem chk3 (h:outB B 1 3 = false) (h2:sizE ds.length 4 = 0) (h3:dyeE B [] ds ≠ 0):chkE B ds ls tol = dyeE B [] ds:=by
 rw [chkE,if_neg (by rw [h];decide),if_neg (by rw [h2];decide),if_pos h3]
theorem chk4 (h:outB B 1 3 = false) (h2:sizE ds.length 4 = 0) (h3:dyeE B [] ds = 0) (h4:sizE ls.length 3 ≠ 0):chkE B ds ls tol = sizE ls.length 3:=by
 rw [chkE,if_neg (by rw [h];decide),if_neg (by rw [h2];decide),if_neg (by rw [h3];decide),if_pos h4]
theorem chk5 (h:outB B 1 3 = false) (h2:sizE ds.length 4 = 0) (h3:dyeE B [] ds = 0) (h4:sizE ls.length 3 = 0) (h5:Z1L B ls ≠ 0):chkE B ds ls tol = Z1L B ls:=by
 rw [chkE,if_neg (by rw [h];decide),if_neg (by rw [h2];decide),if_neg (by rw [h3];decide),if_neg (by rw [h4];decide),if_pos h5]
theorem chk6 (h:outB B 1 3 = false) (h2:sizE ds.length 4 = 0) (h3:dyeE B [] ds = 0) (h4:sizE ls.length 3 = 0) (h5:Z1L B ls = 0):chkE B ds ls tol = if outB tol 0 12 = true then 1 else 0:=by
 rw [chkE,if_neg (by rw [h];decide),if_neg (by rw [h2];decide),if_neg (by rw [h3];decide),if_neg (by rw [h4];decide),if_neg (by rw [h5];decide)]
end
theorem Zb5 (x:Vm) (w:World) (h:x.At w) (sd:Z9R x.D) (sl:Z9R x.L) :
  Calls (Qy.prog μ) 37 #[.agg #[.int .i64 x.B,.slice x.da x.D.length x.dc,.slice x.la x.L.length x.lc,.int .i64 x.tol]] w fun e w'=>e = .returned (.int .i64 (chkE x.B (x.D.map (·.2)) (x.L.map (·.2)) x.tol)) ∧ Ext [] w w':=by
 have E:Ext [] w w:=Ext.refl _ _;have HA:=Lib.hid h;have HD:=Lib.hid h.d.1;have HL:=Lib.hid h.l.1;have SD:=Lib.hid sd;have SL:=Lib.hid sl;clear h;obtain ⟨sd1,sd2⟩:=sd;obtain ⟨sl1,sl2⟩:=sl;clear sd2 sl2;obtain ⟨ds,hds⟩:∃ ds,ds = x.D.map (·.2):=⟨_,rfl⟩;obtain ⟨ls,hls⟩:∃ ls,ls = x.L.map (·.2):=⟨_,rfl⟩;have hdl:ds.length = x.D.length:=by rw [hds,List.length_map]
 have hll:ls.length = x.L.length:=by rw [hls,List.length_map]
 have KD:Hid (∀ i,i < x.D.length → ds.getD i [] = (x.D.getD i (.bool true,[])).2):=fun i hi=>by rw [hds];exact Z1X _ hi
 have KL:Hid (∀ i,i < x.L.length → ls.getD i [] = (x.L.getD i (.bool true,[])).2):=fun i hi=>by rw [hls];exact Z1X _ hi
 rw [← hds,← hls];clear hds hls;have om:w.ownsRow w.heap.size 116 3 (.slice none 0 0) 0 (((ds.take 0).map ZaF).flatten):=World.ownsRow_nil _ _ _ _;have G:=(Bk.nil w).ce E;replace G:=G.co om;refine (ent 92 Tryz.f37 rfl) fun F=>wR fun k1=>(F.bx G) fun yy F G=>(F.m) fun F=>k1 <|wQ fun k2=>wR fun k3=>(F.y (F.fd 0)) fun F=>(F.y (F.lc (G.q 0))) fun F=>(F.k0 G (Z0U x.B 1 3 _)) fun F G=>k3 <|F.cb (fun hc19=>?_) (fun hc19=>?_)
 ·have hb1:outB x.B 1 3 = true:=by simpa using hc19
  refine wR fun k4=>(F.m) fun F=>k4 <|(F.r1) ?_
  exact ⟨Zi (chk1 hb1).symm,(G.e 2)⟩
 ·have hb1:outB x.B 1 3 = false:=by simpa using hc19
  obtain ⟨hB1,hB3⟩:=Z28.1 hb1;refine wp_skip <|k2 <|wQ fun k5=>wR fun k6=>(F.y (F.fd 1)) fun F=>(F.y (F.lc (G.q 0))) fun F=>(F.y F.ln) fun F=>(F.k0 G (Z4J (x.D.length:Nat) 4 _)) fun F G=>(F.m) fun F=>k6 <|wR fun k7=>(F.m) fun F=>(F.y F.ne) fun F=>k7 <|F.ci (fun hc25=>?_) (fun hc25=>?_)
  ·refine wR fun k8=>(F.m) fun F=>(F.m) fun F=>k8 <|(F.r1) ?_
   exact ⟨Zi (by rw [chk2 hb1 (by rw [hdl];exact hc25),hdl]),(G.e 2)⟩
  ·refine wp_skip <|k5 <|wR fun k9=>(F.m) fun F=>k9 <|wQ fun k10=>wR fun k11=>(F.y (F.fd 1)) fun F=>(F.y (F.lc (G.q 0))) fun F=>(F.y F.ln) fun F=>(F.m) fun F=>k11 <|wp_block <|lpB (F.b [1,28,29]) (G.b [0,2]) (x.D.length) (fun i Lv Sv W=>∃ va:Option Addr,∃ vc:Nat,Lv = [(4,.slice va i vc),(30,.int .i64 ((i:Nat):Int))] ∧ Sv = [] ∧ W.ownsRow w.heap.size 116 3 (.slice va i vc) i (((ds.take i).map ZaF).flatten) ∧ dyeE x.B (ds.take i) (ds.drop i) = dyeE x.B [] ds ∧ (∀ j,j < i → ((x.D.getD j (.bool true,[])).2.length:Int) = x.B)) ⟨_,_,F.u,G.u,none,0,rfl,rfl,(G.o 1),rfl,(fun j hj=>absurd hj (by omega))⟩ ?_
   clear F G;rintro i _ w4 _ _ hi1 ⟨va,vc,rfl,rfl,om,hd,hlen⟩ F G;replace G:=(G.z).co om;refine wR fun k12=>(F.y F.ls) fun F=>k12 <|wQ fun k13=>F.ci (fun hc31=>?_) (fun hc31=>?_)
   ·refine wp_skip <|k13 <|wQ fun k14=>wp_block <|wQ fun k15=>?_
    obtain ⟨la,lca,hla,hlr⟩:=HA.out.d.2 _ (Z8 (.bool true,[]) (show i < x.D.length by omega));have hsz:=SD.out.2 _ (Z8 (.bool true,[]) (show i < x.D.length by omega));have hkd:=KD.out i (by omega);refine wG <|(F.ix HD.out i) fun xr16 F=>(F.y (F.l1 (xr16 _ (G.e 2)) 0)) fun F=>?_
    rw [hla] at F;refine (F.m) fun F=>k15 <|wQ fun k17=>wR fun k18=>(F.m) fun F=>(F.y (F.fd 0)) fun F=>(F.y (F.lc (G.q 1))) fun F=>(F.k0 G (Z2M (x.D.getD i (.bool true,[])).2 x.B 9 la lca _ (hlr.ext (G.e 2) (by simp)) hsz (by omega))) fun F G=>(F.m) fun F=>(F.y F.xt) fun F=>(F.y F.xt) fun F=>(F.m) fun F=>(F.m) fun F=>k18 <|wR fun k19=>(F.m) fun F=>(F.y F.ne) fun F=>k19 <|F.ci (fun hc42=>?_) (fun hc42=>?_)
    ·refine wR fun k20=>(F.m) fun F=>(F.m) fun F=>k20 <|(F.r1) ?_
     have e:=ZgO (B:=x.B) (ds:=ds) (i:=i) (by omega) (by rw [hkd];exact hc42);rw [hd,hkd] at e;exact ⟨Zi (by rw [chk3 hb1 (by rw [hdl];omega) (by rw [e];exact hc42),e]),(G.e 2)⟩
    ·have hz0:numE (x.D.getD i (.bool true,[])).2 x.B 9 = 0:=by omega
     obtain ⟨hz1,hz2⟩:=Zd5 hz0;refine wp_skip <|k17 <|wR fun k21=>(F.al G Qy.zeroValue116) fun yy F G=>k21 <|wQ fun k22=>?_
     have hd3':(x.D.getD i (.bool true,[])).2.length ≤ 3:=by omega
     refine wG ?_;refine (F.y ((Z2o (n:=3) rfl (F.at rfl) (by kernel_rfl) (by kernel_rfl) (by kernel_rfl)))) fun F=>(F.m) fun F=>?_;have hlr2:=hlr.ext (G.e 3) (by simp);obtain ⟨sb,so,hsa,-,-⟩:=hlr2.range rfl (by intro e;have hq:=congrArg List.length e;rw [List.length_map,List.length_nil] at hq;omega);rw [hsa] at hlr2;obtain ⟨hcd,hcf⟩:=ZeU (G.q 0) (n:=(x.D.getD i (.bool true,[])).2.length) hd3';refine sqN F (ZfU ((x.D.getD i (.bool true,[])).2.map (Value.int .i64)) rfl (F.at rfl) ((F.at rfl).trans (congrArg (fun z=>Value.slice z _ _) hsa)) Qy.underlying22 (by kernel_rfl) (by rw [List.length_map];exact (Nat.min_eq_left hd3').symm) (Z9M hlr2) (by rw [List.length_map];exact hcd) (by rw [List.length_map];exact hcf) (Z6x _)) ?_ (hw:=F.want rfl);clear F;rintro _ w7 F hw;replace G:=G.pr 0 hw (Zdg hw (G.q 0) hd3');refine k22 <|wQ fun k23=>wR fun k24=>(F.m) fun F=>(F.y F.ln) fun F=>(F.m) fun F=>?_
     have om:=G.o 1;have HMs:=Lib.hid (Z1a om (show i = (ds.take i).length by rw [List.length_take];omega) (fun _=>rfl) [] (by simp) []);have hml:(ds.take i).length = i:=(by rw [List.length_take];omega);rw [hml] at HMs;replace G:=G.hr [];refine k24 <|wp_block <|lpB (F.b [1,4,9,28,29,30,47,48]) G (i) (fun j Lv Sv W=>Lv = [(49,.int .i64 ((j:Nat):Int))] ∧ Sv = [] ∧ (∀ k,k < j → ds.getD k [] ≠ ds.getD i [])) ⟨_,_,F.u,G.u,rfl,rfl,(fun k hk=>absurd hk (by omega))⟩ ?_
     clear F G;rintro j _ w8 _ _ hi2 ⟨rfl,rfl,hn⟩ F G;replace G:=G.z;refine wR fun k25=>(F.y F.ls) fun F=>k25 <|wQ fun k26=>F.ci (fun hc50=>?_) (fun hc50=>?_)
     ·refine wp_skip <|k26 <|wQ fun k27=>wp_block <|wQ fun k28=>?_
      have hjj:(ds.take i).getD j [] = ds.getD j []:=by simp [List.getD_eq_getElem?_getD,List.getElem?_take,show j < i by omega]
      have hkj:=KD.out j (by omega);have hlj:=hlen j (by omega);refine wG <|(F.ix HMs.out j) fun xr29 F=>(F.y (F.lr (xr29 _ (G.e 0)))) fun F=>(F.al G Qy.zeroValue116) fun yy F G=>(F.sr G 0) fun G=>k28 <|wR fun k30=>(F.y (F.lb (G.q 0))) fun F=>(F.y (F.lb (G.q 2))) fun F=>?_
      refine (F.y ((Zif (l:=(ds.take i).getD j []) (m:=(x.D.getD i (.bool true,[])).2) rfl (F.at rfl) (F.at rfl)))) fun F=>?_;have hqq:=ZgA (l:=(ds.take i).getD j []) (m:=(x.D.getD i (.bool true,[])).2) (by rw [hjj,hkj];omega) (by rw [hjj,hkj];omega);refine k30 <|F.cb (fun hc55=>?_) (fun hc55=>?_)
      ·have heq:ds.getD j [] = ds.getD i []:=by rw [hkd,← hjj];exact hqq.1 (by simpa using hc55)
       refine wR fun k31=>(F.m) fun F=>k31 <|(F.r1) ?_
       have e:=Zdf (B:=x.B) (ds:=ds) (i:=i) (j:=j) (by omega) (by rw [hkd];exact hz0) (by omega) heq;rw [hd] at e;exact ⟨Zi (by rw [chk3 hb1 (by rw [hdl];omega) (by rw [e];decide),e]),(G.e 5)⟩
      ·have hne:ds.getD j [] ≠ ds.getD i []:=fun e=>by rw [hkd,← hjj] at e;exact Bool.noConfusion (hc55.symm.trans (hqq.2 e))
       refine wp_skip <|k27 <|wp_region_lit <|(F.y F.ad) fun F=>(F.m) fun F=>?_
       show _ ∧ _;exact ⟨by omega,_,_,F.u,G.u,rfl,rfl,(fun k hk=>if e:k = j then e ▸ hne else hn k (by omega))⟩
     ·refine wp_exit ?_
      have hji:j = i:=by omega
      refine k23 <|wp_region_lit <|(F.m) fun F=>(F.y (F.lb (G.q 1))) fun F=>(F.bs G 3 #[.int .i64 ((x.D.getD i (.bool true,[])).2.getD 0 0),.int .i64 ((x.D.getD i (.bool true,[])).2.getD 1 0),.int .i64 ((x.D.getD i (.bool true,[])).2.getD 2 0)] Qy.zeroValue116) fun yy F G=>?_
      have hEs:=(G.e 5).size;replace G:=G.d 1;refine ZI F rfl (by decide) (F.want rfl) (ZZ rfl (w.heap.size) (e:=116) (size:=3) (bytes:=24) Qy.underlying113 (by kernel_rfl) (by decide) (F.at rfl) (G.o 2) (F.at rfl) (G.q 0) rfl (by simp [Value.oneCell']) (by omega) (by omega) (by omega)) ?_;clear F;rintro _ v' w12 F ⟨hown',hg⟩;obtain ⟨va60,vc60,rfl⟩:=Zt hown';replace G:=(G.d 0).gr 1 hg hown';clear hg hown';have hd3:=(Ziq (B:=x.B) (ds:=ds) (i:=i) (by omega) (by rw [hkd];exact hz0) (fun k hk=>hn k (by omega))).symm.trans hd;have om:=G.o 1;rw [show ((ds.take i).map ZaF).flatten ++ [.int .i64 ((x.D.getD i (.bool true,[])).2.getD 0 0),.int .i64 ((x.D.getD i (.bool true,[])).2.getD 1 0),.int .i64 ((x.D.getD i (.bool true,[])).2.getD 2 0)] = ((ds.take (i + 1)).map ZaF).flatten by rw [Z2f ds [] (show i < ds.length by omega),List.map_append,List.flatten_append,hkd];simp [ZaF]] at om;replace G:=G.rO 1 om;clear om;refine (F.m) fun F=>k14 <|wp_region_lit <|(F.y F.ad) fun F=>(F.m) fun F=>?_
      show _ ∧ _;exact ⟨by omega,_,_,F.u,G.u,_,_,rfl,rfl,(G.o 1),hd3,(fun j hj=>if e:j = i then e ▸ hz1 else hlen j (by omega))⟩
   ·refine wp_exit ?_
    have hd0:dyeE x.B [] ds = 0:=by rw [← hd,List.drop_eq_nil_of_le (by omega)];rfl
    refine k10 <|wQ fun k32=>wR fun k33=>(F.y (F.fd 2)) fun F=>(F.y (F.lc (G.q 1))) fun F=>(F.y F.ln) fun F=>(F.k0 G (Z4J (x.L.length:Nat) 3 _)) fun F G=>(F.m) fun F=>k33 <|wR fun k34=>(F.m) fun F=>(F.y F.ne) fun F=>k34 <|F.ci (fun hc67=>?_) (fun hc67=>?_)
    ·refine wR fun k35=>(F.m) fun F=>(F.m) fun F=>k35 <|(F.r1) ?_
     exact ⟨Zi (by rw [chk4 hb1 (by rw [hdl];omega) hd0 (by rw [hll];exact hc67),hll]),(G.e 2)⟩
    ·refine wp_skip <|k32 <|wQ fun k36=>wR fun k37=>(F.y (F.fd 2)) fun F=>(F.y (F.lc (G.q 1))) fun F=>(F.y F.ln) fun F=>(F.m) fun F=>k37 <|wp_block <|lpB (F.b [1,70,71]) G (x.L.length) (fun k Lv Sv W=>Lv = [(72,.int .i64 ((k:Nat):Int))] ∧ Sv = [] ∧ Z1L x.B (ls.drop k) = Z1L x.B ls) ⟨_,_,F.u,G.u,rfl,rfl,rfl⟩ ?_
     clear F G;rintro k _ w14 _ _ hi3 ⟨rfl,rfl,hlm⟩ F G;replace G:=G.z;refine wR fun k38=>(F.y F.ls) fun F=>k38 <|wQ fun k39=>F.ci (fun hc73=>?_) (fun hc73=>?_)
     ·refine wp_skip <|k39 <|wQ fun k40=>wp_block <|wQ fun k41=>?_
      obtain ⟨la,lca,hla,hlr⟩:=HA.out.l.2 _ (Z8 (.bool true,[]) (show k < x.L.length by omega));have hsz:=SL.out.2 _ (Z8 (.bool true,[]) (show k < x.L.length by omega));have hkl:=KL.out k (by omega);refine wG <|(F.ix HL.out k) fun xr42 F=>(F.y (F.l1 (xr42 _ (G.e 2)) 0)) fun F=>?_
      rw [hla] at F;refine (F.m) fun F=>k41 <|wR fun k43=>(F.m) fun F=>(F.y (F.fd 0)) fun F=>(F.y (F.lc (G.q 1))) fun F=>(F.k0 G (Z2M (x.L.getD k (.bool true,[])).2 x.B 3 la lca _ (hlr.ext (G.e 2) (by simp)) hsz (by omega))) fun F G=>(F.m) fun F=>(F.y F.xt) fun F=>(F.y F.xt) fun F=>(F.m) fun F=>(F.m) fun F=>k43 <|wQ fun k44=>wR fun k45=>(F.m) fun F=>(F.y F.ne) fun F=>k45 <|F.ci (fun hc84=>?_) (fun hc84=>?_)
      ·refine wR fun k46=>(F.m) fun F=>(F.m) fun F=>k46 <|(F.r1) ?_
       have e:=Zep (B:=x.B) (ls:=ls) (i:=k) (by omega) (by rw [hkl];exact hc84);rw [hlm,hkl] at e;exact ⟨Zi (by rw [chk5 hb1 (by rw [hdl];omega) hd0 (by rw [hll];omega) (by rw [e];exact hc84),e]),(G.e 2)⟩
      ·have hz0:numE (x.L.getD k (.bool true,[])).2 x.B 3 = 0:=by omega
       have hsum:numS (x.L.getD k (.bool true,[])).2 x.B 3 = (x.L.getD k (.bool true,[])).2.sum:=by rw [numS,if_pos hz0]
       refine wp_skip <|k44 <|wR fun k47=>(F.m) fun F=>(F.y F.eq) fun F=>k47 <|F.ci (fun hc87=>?_) (fun hc87=>?_)
       ·refine wR fun k48=>(F.m) fun F=>k48 <|(F.r1) ?_
        have e:=Zdj (B:=x.B) (ls:=ls) (i:=k) (by omega) (by rw [hkl];exact hz0) (by rw [hkl];omega);rw [hlm] at e;exact ⟨Zi (by rw [chk5 hb1 (by rw [hdl];omega) hd0 (by rw [hll];omega) (by rw [e];decide),e]),(G.e 2)⟩
       ·have hlm3:=(Zh3 (B:=x.B) (ls:=ls) (i:=k) (by omega) (by rw [hkl];exact hz0) (by rw [hkl];omega)).symm.trans hlm
        refine wp_skip <|k40 <|wp_region_lit <|(F.y F.ad) fun F=>(F.m) fun F=>?_
        show _ ∧ _;exact ⟨by omega,_,_,F.u,G.u,rfl,rfl,hlm3⟩
     ·refine wp_exit ?_
      have hl0:Z1L x.B ls = 0:=by rw [← hlm,List.drop_eq_nil_of_le (by omega)];rfl
      refine k36 <|wQ fun k49=>wR fun k50=>(F.y (F.fd 3)) fun F=>(F.y (F.lc (G.q 1))) fun F=>(F.k0 G (Z0U x.tol 0 12 _)) fun F G=>k50 <|F.cb (fun hc91=>?_) (fun hc91=>?_)
      ·refine wR fun k51=>(F.m) fun F=>k51 <|(F.r1) ?_
       exact ⟨Zi (by rw [chk6 hb1 (by rw [hdl];omega) hd0 (by rw [hll];omega) hl0,if_pos (by simpa using hc91)]),(G.e 2)⟩
      ·refine wp_skip <|k49 <|wR fun k52=>(F.m) fun F=>k52 <|(F.r1) ?_
       exact ⟨Zi (by rw [chk6 hb1 (by rw [hdl];omega) hd0 (by rw [hll];omega) hl0,if_neg (by simpa using hc91)]),(G.e 2)⟩
variable {μ:Nat}
theorem Z3M {b2: Nat} {M:List (Value × List Int)} (oo:w.ownsRow b 22 1 (.slice a M.length c) M.length (M.map (·.1))) (fam:FamT w b2 M): Z0y w a M:=⟨Z6Q oo rfl,fun p hp=>ZhP fam hp⟩
variable {μ:Nat}
def tubC (f:Nat → Int):Array Value:=#[.int .i64 (f 0),.int .i64 (f 1),.int .i64 (f 2),.int .i64 (f 3)]
def upF (f:Nat → Int) (k:Nat) (v:Int):Nat → Int:=fun j=>if j = k then v else f j
def zf:Nat → Int:=fun _=>0
theorem Z5W {i:Int} (h:i.toNat = k) (hk:k < 4): (tubC f)[i.toNat]? = some (.int .i64 (f k)):=by
 subst h
 rcases hi:i.toNat with _ | _ | _ | _ | n
 ·rfl
 ·rfl
 ·rfl
 ·rfl
 ·omega
theorem Z2G {T:TypeId} {fz:Nat × Nat} (H:w.heap[b]? = some (.cells (tubC f) T fz)) {i:Int} (h:i.toNat = k) (hk:k < 4): w.cell? ⟨b,0 + i.toNat * 1,none⟩ = some (.int .i64 (f k)):=by
 rw [Z0 H,Nat.zero_add,Nat.mul_one];exact Z5W h hk
theorem Z8p {w2: World} {T:TypeId} {i v:Int} (e:w2 = w.setCell ⟨b,0 + i.toNat * 1,none⟩ (.int .i64 v)) (H:w.heap[b]? = some (.cells (tubC f) T (0,0))) (h:i.toNat = k) (hk:k < 4): w2.heap[b]? = some (.cells (tubC (upF f k v)) T (0,0)):=by
 refine ZE e H ?_;rw [Nat.zero_add,Nat.mul_one,h];clear e H h
 match k,hk with
 | 0,_=>rfl
 | 1,_=>rfl
 | 2,_=>rfl
 | 3,_=>rfl
theorem Z33 {g: Nat → Int} (h:∀ k,k < 4 → f k = g k): tubC f = tubC g:=by
 rw [tubC,tubC,h 0 (by omega),h 1 (by omega),h 2 (by omega),h 3 (by omega)]
def sumQ (f:Nat → Int):Nat → Int
 | 0=>0
 | n + 1=>sumQ f n + f n
theorem Z5v {f g:Nat → Int}:∀ {n:Nat},(∀ k,k < n → f k = g k) → sumQ f n = sumQ g n
 | 0,_=>rfl
 | n + 1,h=>by rw [sumQ,sumQ,Z5v (n:=n) (fun k hk=>h k (by omega)),h n (by omega)]
theorem Z7c {f:Nat → Int} {a b:Int}:∀ {n:Nat},(∀ k,k < n → a ≤ f k ∧ f k ≤ b) → a * n ≤ sumQ f n ∧ sumQ f n ≤ b * n
 | 0,_=>by simp [sumQ]
 | n + 1,h=>by
  have h1:=Z7c (n:=n) (fun k hk=>h k (by omega));have h2:=h n (by omega);rw [sumQ,show ((n + 1:Nat):Int) = (n:Int) + 1 from rfl,Int.mul_add,Int.mul_add];omega
theorem Z4u (l:List Int):∀ n:Nat,l.length ≤ n → sumQ (val l) n = l.sum:=by
 have hk:∀ n:Nat,n ≤ l.length → sumQ (val l) n = (l.take n).sum:=by
  intro n
  induction n with
  | zero=>intro _;simp [sumQ]
  | succ n ih=>intro h;rw [sumQ,ih (by omega),Z3d l (by omega)];rfl
 intro n h
 induction n with
 | zero=>rw [hk 0 (by omega)];have:l = []:=List.length_eq_zero_iff.1 (by omega);subst this;rfl
 | succ n ih =>
  by_cases e:l.length = n + 1
  ·rw [hk (n + 1) (by omega),List.take_of_length_le (by omega)]
  ·rw [sumQ,ih (by omega)]
   simp [val,List.getElem?_eq_none (show l.length ≤ n by omega)]
def prt (f:Nat → Int):Int:=sumQ f 4
def ZiC (f:Nat → Int):Prop:=∀ k,k < 4 → 0 ≤ f k ∧ f k ≤ 1000
theorem Z0o (f:Nat → Int) (hf:ZiC f) (w:World):Calls (Qy.prog μ) 83 #[.agg (tubC f)] w fun e w'=>e = .returned (.int .i64 (prt f)) ∧ Ext [] w w':=by
 have E:Ext [] w w:=Ext.refl _ _;have HF:=Lib.hid hf;clear hf;have G:=(Bk.nil w).ce E;refine (ent 15 Tryz.f83 rfl) fun F=>wR fun k1=>(F.bx G) fun yy F G=>(F.m) fun F=>k1 <|wR fun k2=>(F.m) fun F=>?_
 rw [show (0:Int) = sumQ f 0 from rfl] at F;refine k2 <|wQ fun k3=>wR fun k4=>(F.y (F.lb (G.q 0))) fun F=>(F.m) fun F=>?_
 rw [show (0:Int) = ((0:Nat):Int) from rfl] at F;refine k4 <|wp_block <|lpB (F.b [6]) G (4) (fun i Lv Sv W=>Lv = [(3,.int .i64 (sumQ f i)),(7,.int .i64 ((i:Nat):Int))] ∧ Sv = [] ∧ 0 ≤ sumQ f i ∧ sumQ f i ≤ 1000 * (i:Int)) ⟨_,_,F.u,G.u,rfl,rfl,(by simp [sumQ]),(by simp [sumQ])⟩ ?_
 clear F G;rintro i _ w2 _ _ hi1 ⟨rfl,rfl,hs0,hs1⟩ F G;replace G:=G.z;refine wR fun k5=>(F.y F.ls) fun F=>k5 <|wQ fun k6=>F.ci (fun hc8=>?_) (fun hc8=>?_)
 ·refine wp_skip <|k6 <|wQ fun k7=>wp_block <|wR fun k8=>(F.y (F.iv 4 (Z5W (k:=i) rfl (by omega)))) fun F=>(F.m) fun F=>k8 ?_
  obtain ⟨hf0,hf1⟩:=HF.out i (by omega);refine wG <|(F.m) fun F=>(F.m) fun F=>(F.y F.ad) fun F=>?_
  rw [show sumQ f i + f i = sumQ f (i + 1) from rfl] at F;refine (F.m) fun F=>k7 <|wp_region_lit <|(F.y F.ad) fun F=>(F.m) fun F=>?_
  show _ ∧ _;exact ⟨by omega,_,_,F.u,G.u,rfl,rfl,(by rw [sumQ];omega),(by rw [sumQ];omega)⟩
 ·refine wp_exit <|k3 <|wR fun k9=>(F.m) fun F=>(F.m) fun F=>k9 <|(F.r1) ?_
  have hi:i = 4:=(by omega);exact ⟨Zi (by rw [hi,prt]),(G.e 1)⟩
variable {μ:Nat}
structure VOk (x:Vm):Prop where
 chk:chkE x.B (x.D.map (·.2)) (x.L.map (·.2)) x.tol = 0
 b1:1 ≤ x.B
 b3:x.B ≤ 3
 d1:1 ≤ x.D.length
 d4:x.D.length ≤ 4
 dl:∀ p ∈ x.D,(p.2.length:Int) = x.B ∧ ∀ n ∈ p.2,0 ≤ n ∧ n ≤ 9
 l1:1 ≤ x.L.length
 l3:x.L.length ≤ 3
 ll:∀ p ∈ x.L,(p.2.length:Int) = x.B ∧ ∀ n ∈ p.2,0 ≤ n ∧ n ≤ 3
 t0:0 ≤ x.tol
 t12:x.tol ≤ 12
theorem VOk.sd {x:Vm} (h:VOk x):Z9R x.D:=⟨by have:=h.d4;omega,fun p hp=>by have:=(h.dl p hp).1;have:=h.b3;omega⟩
theorem VOk.sl {x:Vm} (h:VOk x):Z9R x.L:=⟨by have:=h.l3;omega,fun p hp=>by have:=(h.ll p hp).1;have:=h.b3;omega⟩
theorem Z8D (w:World):Calls (Qy.prog μ) 111 #[.int .i64 0] w fun e w'=>e = .returned (.tuple #[]) ∧ Ext [] w w':=by
 have E:Ext [] w w:=Ext.refl _ _;have G:=(Bk.nil w).ce E;refine (ent 6 Tryz.f111 rfl) fun F=>wR fun k1=>(F.m) fun F=>(F.y F.neF) fun F=>k1 <|(F.cF) <|wp_skip <|(F.e0) ?_
 exact ⟨rfl,(G.e 0)⟩
theorem Z19 (x:Vm) (hv:VOk x) (w:World) (h:x.At w):Calls (Qy.prog μ) 64 #[.agg #[.int .i64 x.B,.slice x.da x.D.length x.dc,.slice x.la x.L.length x.lc,.int .i64 x.tol]] w fun e w'=>e = .returned (.agg #[.int .i64 x.B,.slice x.da x.D.length x.dc,.slice x.la x.L.length x.lc,.int .i64 x.tol]) ∧ Ext [] w w':=by
 have E:Ext [] w w:=Ext.refl _ _;have HX:=Lib.hid h;have HV:=Lib.hid hv;clear h hv;have G:=(Bk.nil w).ce E;refine (ent 8 Tryz.f64 rfl) fun F=>wR fun k1=>(F.bx G) fun yy F G=>(F.al G Qy.zeroValue85) fun yy F G=>k1 <|wR fun k2=>(F.y (F.lb (G.q 1))) fun F=>(F.k (Zb5 x _ (HX.out.ext (G.e 2)) HV.out.sd HV.out.sl)) ?_
 rintro _ w3 ⟨rfl,e9⟩;refine ⟨_,rfl,fun F=>?_⟩;replace G:=G.ex e9;rw [HV.out.chk] at F;refine (F.k0 G (Z8D _)) fun F G=>k2 <|wR fun k3=>(F.y (F.lb (G.q 1))) fun F=>(F.y (F.bv #[.int .i64 x.B,.slice x.da x.D.length x.dc,.slice x.la x.L.length x.lc,.int .i64 x.tol])) fun F=>(F.sr G 0) fun G=>k3 ?_
 refine (F.rg (rs_c F rfl rfl Qy.underlying85 rfl (by kernel_rfl) (G.q 0))) ?_;exact ⟨rfl,(G.e 2)⟩
theorem Z8h (x:Vm) (hv:VOk x) (n:Int) (h0:0 ≤ n) (h1:n < x.L.length) (w:World):Calls (Qy.prog μ) 87 #[.agg #[.int .i64 x.B,.slice x.da x.D.length x.dc,.slice x.la x.L.length x.lc,.int .i64 x.tol],.int .i64 n] w fun e w'=>e = .returned (.tuple #[]) ∧ Ext [] w w':=by
 have E:Ext [] w w:=Ext.refl _ _;have ho:outB n 0 (((x.L.length:Nat):Int) - 1) = false:=Z28.2 (by omega);have hl3:=hv.l3;have G:=(Bk.nil w).ce E;refine (ent 12 Tryz.f87 rfl) fun F=>wR fun k1=>(F.bx G) fun yy F G=>k1 <|wR fun k2=>(F.m) fun F=>(F.y (F.fd 0)) fun F=>(F.y (F.fd 2)) fun F=>(F.y (F.lc (G.q 0))) fun F=>(F.y F.ln) fun F=>(F.y F.sb) fun F=>(F.k0 G (Z0U n 0 (((x.L.length:Nat):Int) - 1) _)) fun F G=>k2 <|(F.jF (ho)) <|wp_skip <|(F.e0) ?_
 exact ⟨rfl,(G.e 1)⟩
def dotE (a s:Nat → Int) (n:Nat):Int:=sumQ (fun i=>a i * s i) n
theorem Z9S {a b:Int} (a0:0 ≤ a) (a1:a ≤ 10) (b0:0 ≤ b) (b1:b ≤ 100000): 0 ≤ a * b ∧ a * b ≤ 1000000:=by
 refine ⟨Int.mul_nonneg a0 b0,?_⟩;have h1:a * b ≤ 10 * b:=Int.mul_le_mul_of_nonneg_right a1 b0;omega
def Vm.lamp (x:Vm) (k:Nat):List Int:=(x.L.getD k (.bool true,[])).2
def Vm.dye (x:Vm) (k:Nat):List Int:=(x.D.getD k (.bool true,[])).2
theorem Z2w (x:Vm) (hv:VOk x) (k:Nat) (hk:k < x.L.length) (s:List Int) (hs:(s.length:Int) = x.B) (hb:∀ n ∈ s,0 ≤ n ∧ n ≤ 100000) (a:Option Addr) (c:Nat) (w:World) (h:x.At w) (hr:Z7 w (.slice a s.length c) 1 (s.map Z5)) :
  Calls (Qy.prog μ) 102 #[.agg #[.int .i64 x.B,.slice x.da x.D.length x.dc,.slice x.la x.L.length x.lc,.int .i64 x.tol],.int .i64 ((k:Nat):Int),.slice a s.length c] w fun e w'=>e = .returned (.int .i64 (dotE (val (x.lamp k)) (val s) s.length)) ∧ Ext [] w w':=by
 have E:Ext [] w w:=Ext.refl _ _;have HL:=Lib.hid h.l.1;have HS:=Lib.hid (Zb hr 0);obtain ⟨la,lca,hla,hlr⟩:=h.l.2 _ (Z8 (.bool true,[]) hk);obtain ⟨hll,hln⟩:=hv.ll _ (Z8 (.bool true,[]) hk);have HLR:=Lib.hid (Zb hlr 0);have HLN:=Lib.hid hln;have HB:=Lib.hid hb;have hl3:=hv.l3;have hb3:=hv.b3;clear h hr hv hlr hln hb;have G:=(Bk.nil w).ce E;refine (ent 32 Tryz.f102 rfl) fun F=>wR fun k1=>(F.bx G) fun yy F G=>(F.m) fun F=>k1 <|wR fun k2=>(F.m) fun F=>?_
 rw [show (0:Int) = sumQ (fun i=>val (x.lamp k) i * val s i) 0 from rfl] at F;refine k2 <|wQ fun k3=>wR fun k4=>(F.y (F.fd 0)) fun F=>(F.y (F.fd 2)) fun F=>(F.y (F.lc (G.q 0))) fun F=>(F.m) fun F=>(F.ix HL.out k) fun xr5 F=>(F.y (F.l1 (xr5 _ (G.e 1)) 0)) fun F=>?_
 rw [hla] at F;refine (F.y F.ln) fun F=>(F.m) fun F=>k4 <|wp_block <|lpB (F.b [2,15,16]) G (s.length) (fun i Lv Sv W=>Lv = [(7,.int .i64 (sumQ (fun i=>val (x.lamp k) i * val s i) i)),(17,.int .i64 ((i:Nat):Int))] ∧ Sv = [] ∧ 0 ≤ sumQ (fun i=>val (x.lamp k) i * val s i) i ∧ sumQ (fun i=>val (x.lamp k) i * val s i) i ≤ 1000000 * (i:Int)) ⟨_,_,F.u,G.u,rfl,rfl,(by simp [sumQ]),(by simp [sumQ])⟩ ?_
 clear F G;rintro i _ w2 _ _ hi1 ⟨rfl,rfl,hs0,hs1⟩ F G;replace G:=G.z;refine wR fun k6=>(F.y F.ls) fun F=>k6 <|wQ fun k7=>F.ci (fun hc18=>?_) (fun hc18=>?_)
 ·refine wp_skip <|k7 <|wQ fun k8=>wp_block <|wR fun k9=>(F.m) fun F=>(F.ix HLR.out i) fun xr10 F=>(F.y (F.l1 (xr10 _ (G.e 1)) 0)) fun F=>(F.m) fun F=>(F.m) fun F=>k9 ?_
  obtain ⟨hf0,hf1⟩:=HLN.out _ (Z8 (l:=(x.L.getD k (.bool true,[])).2) (i:=i) 0 (by omega));obtain ⟨hg0,hg1⟩:=HB.out _ (Z8 (l:=s) (i:=i) 0 (by omega));obtain ⟨hm0,hm1⟩:=Z9S hf0 (by omega) hg0 hg1;refine wG <|(F.m) fun F=>(F.m) fun F=>(F.m) fun F=>(F.m) fun F=>(F.ix HS.out i) fun xr11 F=>(F.y (F.l1 (xr11 _ (G.e 1)) 0)) fun F=>(F.y F.ml) fun F=>(F.y F.ad) fun F=>?_
  rw [show sumQ (fun i=>val (x.lamp k) i * val s i) i + (x.L.getD k (.bool true,[])).2.getD i 0 * s.getD i 0 = sumQ (fun i=>val (x.lamp k) i * val s i) (i + 1) from rfl] at F;refine (F.m) fun F=>k8 <|wp_region_lit <|(F.y F.ad) fun F=>(F.m) fun F=>?_
  show _ ∧ _;exact ⟨by omega,_,_,F.u,G.u,rfl,rfl,(by rw [sumQ];simp only [val,Vm.lamp] at *;omega),(by rw [sumQ];simp only [val,Vm.lamp] at *;omega)⟩
 ·refine wp_exit <|k3 <|wR fun k12=>(F.m) fun F=>(F.m) fun F=>k12 <|(F.r1) ?_
  have hi:i = s.length:=(by omega);exact ⟨Zi (by rw [hi,dotE]),(G.e 1)⟩
end Go.Proofs.YtfelljbfeoplhaaGreat
namespace Go.Proofs.YtfelljbfeoplhaaGreat
open Go.RowKit Go.Proofs.YtfelljbfeoplhaaGreat.Lift
variable {μ:Nat}
section
variable [Jk] {C:Inv} {r:Ren} {v w:World}
theorem Z4h (h:WH C r v w) {o: Nat} (hb:r b = some c) (hx:v.cell? ⟨b,o,none⟩ = some x): ∃ y,w.cell? ⟨c,o,none⟩ = some y ∧ VR r x y:=by
 obtain ⟨p,q,h1,h2,h3⟩:=h.on _ _ hb;unfold World.cell? at hx ⊢;rw [h1] at hx;rw [h2]
 cases h3 with
 | cells k _ =>
  simp only [Option.isSome_none,Bool.false_eq_true,if_false] at hx ⊢
  rcases k.get o with ⟨a,_⟩ | ⟨x1,y1,a,b1,k1⟩
  ·rw [a] at hx;cases hx
  ·rw [a] at hx
   obtain rfl:=Option.some.inj hx;exact ⟨y1,b1,k1⟩
 | _=>cases hx
theorem Z0G {w:World} {b o:Nat} {x:Value} (h:w.cell? ⟨b,o,none⟩ = some x):b < w.heap.size ∧ ∃ cs e fz,w.heap[b]? = some (.cells cs e fz):=by
 unfold World.cell? at h
 cases e:w.heap[b]? with
 | none=>rw [e] at h;cases h
 | some ob =>
  rw [e] at h;refine ⟨(Array.getElem?_eq_some_iff.1 e).1,?_⟩
  cases ob <;> first | exact ⟨_,_,_,rfl⟩ | cases h
theorem Z99 (h:WH C r v w) {n: Nat} (hx:Z7 v (.slice a n c) 1 (xs.map Z5)) (hy:VR r (.slice a n c) y): ∃ a',y = .slice a' n c ∧ Z7 w (.slice a' n c) 1 (xs.map Z5):=by
 obtain ⟨a0,c0,e0,hl,hc⟩:=hx;simp only [Value.slice.injEq] at e0;obtain ⟨rfl,hn,rfl⟩:=e0
 cases hy with
 | sl0 =>
  refine ⟨none,rfl,none,c,by rw [hn],hl,fun hne=>?_⟩;obtain ⟨b,off,e,_⟩:=hc hne
  cases e
 | @sl a1 a2 _ _ q =>
  refine ⟨some a2,rfl,some a2,c,by rw [hn],hl,fun hne=>?_⟩;obtain ⟨b,off,e,hb,hk⟩:=hc hne;obtain rfl:=Option.some.inj e
  cases q with
  | @mk _ b' _ _ q =>
   obtain ⟨_,h2⟩:b < v.heap.size ∧ b' < w.heap.size:=by
    obtain ⟨p,p',g1,g2,_⟩:=h.on _ _ q;exact ⟨(Array.getElem?_eq_some_iff.1 g1).1,(Array.getElem?_eq_some_iff.1 g2).1⟩
   refine ⟨b',off,rfl,h2,fun i j x hi hj=>?_⟩;have h3:=hk i j x hi hj;rw [List.getElem?_map] at hi;obtain ⟨z,_,rfl⟩:=Option.map_eq_some_iff.1 hi;obtain rfl:j = 0:=by omega
   have h4:v.cell? ⟨b,off + i * 1 + 0,none⟩ = some (.int .i64 z):=h3;obtain ⟨y,h5,h6⟩:=Z4h h q h4
   cases h6
   exact h5
theorem ZbP (h:WH C r v w) (hx:Z42 v x xs) (hy:VR r x y): Z42 w y xs:=by
 obtain ⟨a,c,rfl,hr⟩:=hx;obtain ⟨a',rfl,hr'⟩:=Z99 h hr hy;exact ⟨a',c,rfl,hr'⟩
theorem ZW {w:World} {a:Option Addr} {n:Nat} {f:Nat → Value}:SlAt [] w a 1 n (fun i=>[f i]) ↔ ∀ i,i < n → ∃ b off,a = some ⟨b,off,none⟩ ∧ w.cell? ⟨b,off + i,none⟩ = some (f i):=by
 constructor
 ·intro h i hi
  obtain ⟨b,off,h1,h2⟩:=h i hi;have e:=h1 0 0;simp only [Value.slice.injEq,and_true] at e;have:=h2 w (Ext.refl _ _) 0 (f i) (by simp);exact ⟨b,off,e,by simpa using this⟩
 ·intro h i hi
  obtain ⟨b,off,h1,h2⟩:=h i hi;refine ⟨b,off,fun m c=>by rw [h1],fun W e j x hx=>?_⟩
  cases j with
  | zero =>
   simp only [List.getElem?_cons_zero,Option.some.injEq] at hx;subst hx;have:=e.cell (a:=⟨b,off + i,none⟩) (Z0G h2).1 (by simp);simpa [this] using h2
  | succ j=>simp at hx
end
end Go.Proofs.YtfelljbfeoplhaaGreat
namespace Go.Proofs.YtfelljbfeoplhaaGreat.Lift
open Go Go.Conc Go.RowKit
abbrev lawF:FuncId:=3
def lS:List Nat:=Qy.own ++ [15,26,66,185,186,lawF]
def gS (k:Nat):Bool:=lS.elem k
noncomputable def okS (k:Nat):Bool:=match (Qy.prog 0).funcs[k]? with
 | some fn => !(fn.name == "runtime.NumGoroutine") && match fn.body with
  | some c=>ZN (Qy.prog 0) gS (fun _ _=>false) false false false false c
  | none=>false
 | none=>false
theorem Zk7:lS.all okS = true:=by kernel_rfl
theorem Zd1 (h : gS k = true): ∃ fn c, (Qy.prog 0).funcs[k]? = some fn ∧ (fn.name == "runtime.NumGoroutine") = false ∧ fn.body = some c ∧ ZN (Qy.prog 0) gS (fun _ _ => false) false false false false c = true := by
 have h1:=List.all_eq_true.1 Zk7 k (List.elem_iff.1 h);unfold okS at h1
 cases e:(Qy.prog 0).funcs[k]? with
 | none=>rw [e] at h1;cases h1
 | some fn =>
  rw [e] at h1;simp only [Bool.and_eq_true,Bool.not_eq_true'] at h1
  cases eb:fn.body with
  | none=>have:=h1.2;rw [eb] at this;cases this
  | some c=>have:=h1.2;rw [eb] at this;exact ⟨fn,c,rfl,h1.1,eb,this⟩
abbrev jk0:Jk:={ j:=False,rest:=[],gd:=fun f=>gS f = true }
theorem Z2K:@Strip jk0 (Qy.prog 0) (Qy.F 0) (@CodeOk jk0 (Qy.prog 0) false) (fun f=>gS f = true):=by
 refine @Strip.mk jk0 _ _ _ _ (fun f h=>⟨rfl,id⟩) (fun f fn h e=>?_) (fun f fn c h e eb=>?_) (fun f fn h e eb=>?_) <;> obtain ⟨fn',c',h1,h2,h3,h4⟩:=Zd1 h <;> have e:(Qy.prog 0).funcs[f]? = some fn:=e <;> rw [h1] at e <;> obtain rfl:=Option.some.inj e
 ·exact h2
 ·rw [h3] at eb
  obtain rfl:=Option.some.inj eb;refine ⟨h1,?_,h⟩;have:=@Z1O jk0 (Qy.prog 0) gS false (fun f q=>q) (fun _=>id) (fun _ _=>false) (fun f n q=>by cases q) c' false false false h4;have e2:(false = true) = False:=by simp
  rw [e2] at this;exact this
 ·rw [h3] at eb;cases eb
theorem gokS:@GOk jk0 (Qy.prog 0) (Qy.F 0) (fun f=>gS f = true):=by
 intro f h;obtain ⟨fn,c,h1,h2,h3,h4⟩:=Zd1 h;exact ⟨rfl,⟨fn,c,h1,h3⟩,h,id⟩
theorem recS:@Rec jk0 (Qy.prog 0):=⟨(by kernel_rfl),fun _ h=>h⟩
theorem hQ0:PF (Qy.prog 0) (Qy.F 0) = Qy.prog 0:=rfl
section
variable [Jk] {P:Program} {F:Array Func} {G:FuncId → Prop} {Stop:List Frame → World → Prop} {V V':List Frame} {v v':World}
theorem Z3D (hQ:PF P F = P) (S:Strip P F (CodeOk P false) G) (hg:GOk P F G) (hrec:Rec P) (hP:∀ x u,¬ Stop [x] u) (k:Reach P Stop V v V' v') (hE:Ends P Stop V v) (h:Self P F V v):Self P F V' v':=by
 induction k with
 | refl=>exact h
 | @step f K v τ f' K' v1 es V' v' hn e t ih =>
  have hE1:Ends P Stop (f' :: K') v1:=by
   cases hE with
   | stop q=>exact absurd q hn
   | step ok hk=>exact hk _ _ _ _ _ e
  rcases Self.step hQ S hg hrec h e with ⟨rfl,hs⟩ | h1
  ·rw [← hQ] at hE1
   exact absurd hE1 (Z0m hP hs)
  ·exact ih hE1 h1
theorem Z2i {f:Frame} {K:List Frame} (hn:¬ Stop (f :: K) v) (h:Z5I P Stop f K v V' v'): Reach P Stop (f :: K) v V' v':=by
 obtain ⟨τ,f',K',v1,es,e,t⟩:=h;exact .step hn e t
theorem ZaQ (hQ:PF P F = P) (S:Strip P F (CodeOk P false) G) (hg:GOk P F G) (hrec:Rec P) (hP:∀ x u,¬ Stop [x] u) {fr:Frame} {ch:List PanicEntry} (hm:fr.mode = .panicking ch) (hd:fr.defers = []) (hf:∃ fn,P.funcs[fr.fn]? = some fn) (hE:Ends P Stop [fr,poison] v) (h:Self P F [fr,poison] v):Stop [fr,poison] v:=by
 cases hE with
 | stop q=>exact q
 | step ok hk =>
  exfalso;obtain ⟨f0,A,r,hV,hi,hs,hw⟩:=h;simp only [List.cons.injEq] at hV;obtain ⟨rfl,hA⟩:=hV;have hA:A = []:=by
   cases A with
   | nil=>rfl
   | cons a tl=>have:=congrArg List.length hA;simp at this
  subst hA;have hfr:=hs.uncons.1;have hl:fr.leaving (PF P F) v (.panicked ch):=by rw [hQ];exact ⟨hm,hd,hf⟩
  obtain ⟨ch',h1,h2⟩:=Z2X (w:=re v v.tape) hfr hl true poison [];have hE1:=hk v.tape _ _ _ _ h2;rw [← hQ] at hE1;have:Sour (poison.raise ch'):=.inr ⟨ch',rfl⟩;exact Z0m hP this hE1
end
section
variable [Jk] {C:Inv} {r:Ren} {u v w:World}
theorem Z4Z (hh:∀ b,b < v.heap.size → u.heap[b]? = v.heap[b]?) (hw:WH C r v w) {a:Option Addr} {n c:Nat} {xs:List Int} (hx:Z7 u (.slice a n c) 1 (xs.map Z5)) {y:Value} (hy:VR r (.slice a n c) y):Z7 v (.slice a n c) 1 (xs.map Z5):=by
 obtain ⟨a0,c0,e0,hl,hc⟩:=hx;refine ⟨a0,c0,e0,hl,fun hne=>?_⟩;obtain ⟨b,off,rfl,hb,hk⟩:=hc hne;simp only [Value.slice.injEq] at e0;obtain ⟨rfl,_,_⟩:=e0
 cases hy with
 | @sl a1 a2 _ _ q =>
  cases q with
  | @mk _ b' _ _ q =>
   obtain ⟨o,_,h1,_⟩:=hw.on _ _ q;have hlt:=(Array.getElem?_eq_some_iff.1 h1).1;refine ⟨b,off,rfl,hlt,fun i j x hi hj=>?_⟩;rw [← hk i j x hi hj];exact (World.cell?_of_block (w:=v) (hh b hlt)).symm
theorem Z9e (hh:∀ b,b < v.heap.size → u.heap[b]? = v.heap[b]?) (hw:WH C r v w) {a:Option Addr} {n c:Nat} {L:List (Value × List Int)} (hx:Z0y u a L) {y:Value} (hy:VR r (.slice a n c) y):Z0y v a L:=by
 obtain ⟨h1,h2⟩:=hx;rw [ZW] at h1;have key:∀ i,i < L.length → ∃ b off,a = some ⟨b,off,none⟩ ∧ v.cell? ⟨b,off + i,none⟩ = some (L.getD i (.bool true,[])).1 ∧ ∃ b',r b = some b':=by
  intro i hi;obtain ⟨b,off,rfl,hc⟩:=h1 i hi
  cases hy with
  | @sl a1 a2 _ _ q =>
   cases q with
   | @mk _ b' _ _ q =>
    obtain ⟨o,_,g1,_⟩:=hw.on _ _ q;have hlt:=(Array.getElem?_eq_some_iff.1 g1).1;exact ⟨b,off,rfl,by rw [← hc];exact (World.cell?_of_block (w:=v) (hh b hlt)).symm,b',q⟩
 refine ⟨?_,fun p hp=>?_⟩
 ·rw [ZW]
  intro i hi;obtain ⟨b,off,e,hc,_⟩:=key i hi;exact ⟨b,off,e,hc⟩
 ·obtain ⟨i,hi,rfl⟩:=List.getElem_of_mem hp
  obtain ⟨b,off,e,hc,b',hb⟩:=key i hi;obtain ⟨z,_,hz⟩:=Z4h hw hb hc;have e1:L.getD i (.bool true,[]) = L[i]:=by simp [hi]
  rw [e1] at hz;obtain ⟨a3,c3,e3,hr3⟩:=h2 _ (List.getElem_mem hi);rw [e3] at hz;exact ⟨a3,c3,e3,Z4Z hh hw hr3 hz⟩
end
end Go.Proofs.YtfelljbfeoplhaaGreat.Lift
namespace Go.Proofs.YtfelljbfeoplhaaGreat
open Go
variable {μ:Nat}
def ToZ (P:Program) (K:List Frame) (Z:Frame → World → Prop) (f:Frame) (w:World):Prop:=∃ f' w',Z f' w' ∧ Steps P (lone f K w) (lone f' K w')
section
variable {P:Program} {K:List Frame} {Z:Frame → World → Prop} {b f:Frame} {a:Act} {k:List Item} {w w':World} {x y c:Code} {ops:Array Oper} {i:Nat} {rest:List Nat} {o:Oper}
theorem ToZ.here (h:Z f w):ToZ P K Z f w:=⟨f,w,h,Steps.refl _ _⟩
theorem ToZ.go {f':Frame} (h:Steps P (lone f K w) (lone f' K w')) (q:ToZ P K Z f' w'): ToZ P K Z f w:=by
 obtain ⟨f2,w2,h1,h2⟩:=q;exact ⟨f2,w2,h1,h.trans h2⟩
theorem ToZ.one {f':Frame} (h:step P (lone f K w) = .next (lone f' K w')) (q:ToZ P K Z f' w'):ToZ P K Z f w:=q.go (.one h)
theorem tI {e:Exit} {p q:Prop} (h:p): (e = e ∧ p) ∨ q:=.inl ⟨rfl,h⟩
theorem Z2I (h:ToZ P K Z (b.at a (.code x :: .code y :: k)) w):ToZ P K Z (b.at a (.code (.seq x y) :: k)) w:=h.one step_seq
theorem Z6Z (h:x.wp P (fun e a1 w1=>(e = .normal ∧ ToZ P K Z (b.at a1 k) w1) ∨ (e = .ret ∧ ∀ td,ToZ P K Z { b.at a1 td with mode:=.returning } w1) ∨ ∃ ch,e = .panic ch ∧ ∀ td,ToZ P K Z { b.at a1 td with mode:=.panicking ch } w1) a w):ToZ P K Z (b.at a (.code x :: k)) w:=by
 obtain ⟨e,a1,w1,hq,hr⟩:=h b k K
 rcases hq with ⟨rfl,h1⟩ | ⟨rfl,h1⟩ | ⟨ch,rfl,h1⟩
 ·exact h1.go hr
 ·obtain ⟨td,hr⟩:=hr
  exact (h1 td).go hr
 ·obtain ⟨td,hr⟩:=hr
  exact (h1 td).go hr
end
end Go.Proofs.YtfelljbfeoplhaaGreat
namespace Go.Proofs.YtfelljbfeoplhaaGreat.Ev
open Go Go.Proofs.YtfelljbfeoplhaaGreat.Lift
def Z30 {α:Type} (P:Program):Sem α → Option α
 | .pure a=>some a
 | .program k=>Z30 P (k P)
 | _=>none
theorem Z1Z {α:Type} {P:Program} {s:Sem α} {x:α} (h:Z30 P s = some x) (w:World): s.run P w = .ok x w ∧ ∀ es,s.events P w es = es:=by
 induction s with
 | pure a=>simp only [Z30,Option.some.injEq] at h;subst h;exact ⟨rfl,fun _=>rfl⟩
 | program k ih=>exact ih P h
 | _=>cases h
structure FA where
 fn:FuncId
 n:Nat
 env:List (Nat × Value)
 todo:List Item
 defs:List Deferred
 kind:CallKind
 ret:Bool
structure FOk (a:FA) (f:Frame):Prop where
 fn:f.fn = a.fn
 size:f.tmps.size = a.n
 env:∀ t v,a.env.lookup t = some v → f.tmps[t]? = some v
 todo:f.todo = a.todo
 defs:f.defers = a.defs
 kind:f.kind = a.kind
 mode:f.mode = if a.ret then .returning else .run
 round:f.roundOf = none
def FA.val (a:FA):Operand → Option Value
 | .tmp t=>a.env.lookup t
 | .const v=>some v
 | .func f=>some (.func (.func f) #[] #[])
 | .global _=>none
def FA.rho (a:FA) (x:Operand):Value:=(a.val x).getD undef
theorem FOk.val {a:FA} {f:Frame} (h:FOk a f) {x:Operand} {v:Value} (e:a.val x = some v): f.eval x = v:=by
 cases x with
 | tmp t =>
  have:=h.env t v e;show f.tmps.getD t undef = v;rw [Array.getD_eq_getD_getElem?,this];rfl
 | const u=>exact Option.some.inj e
 | func g=>exact Option.some.inj e
 | global g=>cases e
def Zdh:Op → Option (List Operand)
 | .move x | .assign x | .nilCheck x=>some [x]
 | .pick c a b=>some [c,a,b]
 | .binOp _ _ x y _=>some [x,y]
 | .unOp _ _ x=>some [x]
 | .convert _ _ x=>some [x]
 | .fieldAddr _ x _=>some [x]
 | .indexAddr _ x i=>some [x,i]
 | .makeFunc _ xs ys=>some (xs.toList ++ ys.toList)
 | .typeAssert x _ _ _=>some [x]
 | .extract x _=>some [x]
 | .call c | .defer c=>match c.callee with
  | .value f=>some (f :: c.args.toList)
  | _=>none
 | _=>none
theorem Z36 {xs:Array Operand} (h:∀ x ∈ xs.toList,ρ x = ρ' x): xs.map ρ = xs.map ρ':=by
 apply Array.ext';rw [Array.toList_map,Array.toList_map];exact List.map_congr_left h
theorem Zak {l:List Operand} (hl:Zdh o.op = some l) (h:∀ x ∈ l,ρ x = ρ' x): execOp ρ o = execOp ρ' o:=by
 unfold execOp
 cases ho:o.op with
 | move x=>rw [ho] at hl;cases hl;simp only [h x (by simp)]
 | assign x=>rw [ho] at hl;cases hl;simp only [h x (by simp)]
 | nilCheck x=>rw [ho] at hl;cases hl;simp only [h x (by simp)]
 | pick c a b=>rw [ho] at hl;cases hl;simp only [h c (by simp),h a (by simp),h b (by simp)]
 | binOp op t x y u=>rw [ho] at hl;cases hl;simp only [h x (by simp),h y (by simp)]
 | unOp op t x=>rw [ho] at hl;cases hl;simp only [h x (by simp)]
 | convert s d x=>rw [ho] at hl;cases hl;simp only [h x (by simp)]
 | fieldAddr t x i=>rw [ho] at hl;cases hl;simp only [h x (by simp)]
 | indexAddr t x i=>rw [ho] at hl;cases hl;simp only [h x (by simp),h i (by simp)]
 | typeAssert x t u ok=>rw [ho] at hl;cases hl;simp only [h x (by simp)]
 | extract x i=>rw [ho] at hl;cases hl;simp only [h x (by simp)]
 | makeFunc fn xs ys =>
  rw [ho] at hl;cases hl;simp only [Z36 (xs:=xs) fun x hx=>h x (by simp [Array.mem_toList_iff.1 hx]),Z36 (xs:=ys) fun x hx=>h x (by simp [Array.mem_toList_iff.1 hx])]
 | call c =>
  rw [ho] at hl;obtain ⟨callee,args,argTypes⟩:=c
  cases callee with
  | value f =>
   cases hl
   dsimp only;unfold resolve;dsimp only;rw [h f (by simp),Z36 (xs:=args) fun x hx=>h x (by simp [Array.mem_toList_iff.1 hx])]
  | _=>cases hl
 | defer c =>
  rw [ho] at hl;obtain ⟨callee,args,argTypes⟩:=c
  cases callee with
  | value f =>
   cases hl
   dsimp only;unfold resolve;dsimp only;rw [h f (by simp),Z36 (xs:=args) fun x hx=>h x (by simp [Array.mem_toList_iff.1 hx])]
  | _=>cases hl
 | _=>simp [ho,Zdh] at hl
def cvOk (P:Program) (s d:TypeId):Bool:=
 match P.underlying s,P.underlying d with
 | some (.pointer t),some .unsafePointer=>(P.info? t).map (fun i=>decide (i.size = 0)) == some false
 | _,_=>false
def FA.op (P:Program) (a:FA) (o:Oper):Option (Next × List Addr):=
 let go:Unit → Option (Next × List Addr):=fun _=>match Zdh o.op with
  | some l=>if l.all fun x=>(a.val x).isSome then (Z30 P (execOp a.rho o)).map fun n=>(n,[]) else none
  | none=>none
 match o.op with
 | .convert s d x=>match a.val x with
  | some (.pointer (some p))=>if cvOk P s d then some (.value (.pointer (some p)),[p]) else none
  | _=>go ()
 | _=>go ()
theorem Ze2 {P : Program} {a : FA} {f : Frame} {o : Oper} {n : Next} {ps : List Addr} (h : FOk a f) (e : a.op P o = some (n, ps)) (w : World) (hp : ∀ p ∈ ps, ∃ v, w.cell? p = some v) :
    (execOp f.eval o).run P w = .ok n w ∧ ∀ es, (execOp f.eval o).events P w es = es := by
  have gen : ∀ {n : Next} {ps : List Addr}, (match Zdh o.op with
    | some l => if l.all fun x => (a.val x).isSome then (Z30 P (execOp a.rho o)).map fun n => (n, ([] : List Addr)) else none
    | none => none) = some (n, ps) → (execOp f.eval o).run P w = .ok n w ∧ ∀ es, (execOp f.eval o).events P w es = es := by
    intro n ps e
    cases hl : Zdh o.op with
    | none => rw [hl] at e; cases e
    | some l =>
      rw [hl] at e;dsimp only at e
      split at e
      · rename_i hk
        have hag : execOp a.rho o = execOp f.eval o := Zak hl fun x hx => by
          have := List.all_eq_true.1 hk x hx;obtain ⟨v, hv⟩ := Option.isSome_iff_exists.1 this;rw [h.val hv, FA.rho, hv]; rfl
        obtain ⟨m, hm, hm2⟩ := Option.map_eq_some_iff.1 e;simp only [Prod.mk.injEq] at hm2;obtain ⟨rfl, _⟩ := hm2;rw [hag] at hm;exact Z1Z hm w
      · cases e
  unfold FA.op at e;dsimp only at e
  cases ho : o.op with
  | convert s d x =>
    rw [ho] at e gen;dsimp only at e
    split at e
    · rename_i p hx
      split at e
      · rename_i hcv
        simp only [Option.some.injEq, Prod.mk.injEq] at e;obtain ⟨rfl, rfl⟩ := e;obtain ⟨v, hv⟩ := hp p (by simp);unfold cvOk at hcv
        split at hcv
        · rename_i t hs hd
          have hz : (P.info? t).map (fun i => decide (i.size = 0)) = some false := by simpa using hcv
          have e1 := run_convert_to_unsafe (P := P) (w := w) hs hd hz hv;have e2 := fun es => Conc.events_convert_to_unsafe (P := P) (w := w) hs hd hz hv es
          have he : execOp f.eval o = (do pure (Next.value (← convert s d (.pointer (some p))))) := by
            unfold execOp; rw [ho]; dsimp only; rw [h.val hx]
          rw [he];refine ⟨?_, fun es => ?_⟩
          · simp [e1]
          · simp [e1, e2]
        · cases hcv
      · cases e
    · exact gen e
  | _ => rw [ho] at e gen; exact gen e
def FA.ext (P:Program) (a:FA) (o:Oper):Option (FuncId × List Value):=
 match o.op with
 | .call c=>match c.callee with
  | .value (.func g)=>match P.funcs[g]? with
   | some fn=>if fn.body.isNone then (c.args.toList.mapM a.val).map fun vs=>(g,vs) else none
   | none=>none
  | _=>none
 | _=>none
structure Xt where
 dis:FuncId
 en:FuncId
 acq:FuncId
 mrg:FuncId
 says:Bool
 pures:List (FuncId × Value)
inductive XEv where
 | none | dis | en | acq (p:Addr) | mrg (p:Addr)
def XEv.es:XEv → Array Event
 | .none=>#[]
 | .dis=>#[⟨.mark .disable,false,true⟩]
 | .en=>#[⟨.mark .enable,false,true⟩]
 | .acq p=>#[⟨.mark (.acquire p),false,true⟩]
 | .mrg p=>#[⟨.mark (.releaseMerge p),false,true⟩]
def Xt.act (X:Xt) (g:FuncId) (vs:List Value):Option (Value × XEv):=
 if g == X.dis then some (.tuple #[],.dis)
 else if g == X.en then some (.tuple #[],.en)
 else if X.says && g == X.acq then match vs with
  | [.pointer (some p)]=>some (.tuple #[],.acq p)
  | _=>none
 else if X.says && g == X.mrg then match vs with
  | [.pointer (some p)]=>some (.tuple #[],.mrg p)
  | _=>none
 else (X.pures.lookup g).map fun v=>(v,.none)
structure St where
 top:FA
 rest:List FA
 cvs:List Addr
 mks:List Addr
 deaf:Nat
def FA.put (a:FA) (ops:Array Oper) (i:Nat) (rest:List Nat) (k:List Item) (v:Value):Option FA:=
 match (ops[i]?).bind (·.dst) with
 | some d=>if d < a.n then some { a with env:=(d,v) :: a.env,todo:=.inRegion ops rest :: k } else none
 | none=>some { a with todo:=.inRegion ops rest :: k }
def FA.gd (a:FA) (ops:Array Oper) (o:Oper):Option Bool:=
 match o.guard with
 | none=>some true
 | some (j,want)=>match ((ops[j]?).bind (·.dst)) with
  | none=>some false
  | some d=>match a.env.lookup d with
   | some (.bool b)=>some (b == want)
   | some _=>some false
   | none=>none
structure Mv where
 top:FA
 rest:List FA
 ps:List Addr
 ev:XEv
def XEv.places:XEv → List Addr
 | .acq p | .mrg p=>[p]
 | _=>[]
def St.upd (s:St) (m:Mv):St:={ top:=m.top,rest:=m.rest,cvs:=m.ps ++ s.cvs,mks:=m.ev.places ++ s.mks,deaf:=match m.ev with | .dis=>s.deaf + 1 | .en=>s.deaf - 1 | _=>s.deaf }
def Z81 (g:FuncId) (fn:Func) (c:Code) (xs:Array Value) (k:CallKind):FA:=
 { fn:=g,n:=xs.size + (fn.ntmps - xs.size),env:=(List.range xs.size).zip xs.toList,todo:=[.code c],defs:=[],kind:=k,ret:=false }
def FA.to (a:FA) (cs:List FA) (k:List Item):Option Mv:=some ⟨{ a with todo:=k },cs,[],.none⟩
def pmove (P:Program) (X:Xt) (a:FA) (r:List FA):Option Mv:=
 match a.ret with
 | true=>match a.defs with
  | d :: ds=>match d.target with
   | .fn (.func g) ys=>match P.funcs[g]? with
    | some fn=>match fn.body with
     | some c => if fn.name == "runtime.NumGoroutine" then none else some ⟨Z81 g fn c (d.args ++ ys) .deferred, { a with defs := ds } :: r, [], .none⟩
     | none=>if g == X.en then some ⟨{ a with defs:=ds },r,[],.en⟩ else none
    | none=>none
   | _=>none
  | []=>match a.kind,r,P.funcs[a.fn]? with
   | .normal,c :: cs,some fn=>match c.todo with
    | .inRegion ops (i :: rest) :: k=>match c.ret,fn.results.toList with
     | false,[]=>(c.put ops i rest k (.tuple #[])).map fun c=>⟨c,cs,[],.none⟩
     | false,[.tmp t]=>(a.env.lookup t).bind fun v=>(c.put ops i rest k v).map fun c=>⟨c,cs,[],.none⟩
     | _,_=>none
    | _=>none
   | .deferred,c :: cs,some fn=>match c.ret,fn.results.toList with
    | true,[]=>some ⟨c,cs,[],.none⟩
    | _,_=>none
   | _,_,_=>none
 | false=>match a.todo with
  | []=>some ⟨{ a with ret:=true },r,[],.none⟩
  | .code .skip :: k=>a.to r k
  | .code (.label _) :: k=>a.to r k
  | .code (.seq x y) :: k=>a.to r (.code x :: .code y :: k)
  | .code (.block i c) :: k=>a.to r (.code c :: .inBlock i :: k)
  | .code (.loop c) :: k=>a.to r (.code c :: .inLoop c :: k)
  | .code (.scope c) :: k=>a.to r (.code c :: .inScope c :: k)
  | .code (.cond x y z) :: k=>match a.val x with
   | some (.bool b)=>a.to r (.code (if b then y else z) :: k)
   | _=>none
  | .code (.exit i) :: k=>(exitTo i k).bind fun k=>a.to r k
  | .code .ret :: _=>some ⟨{ a with ret:=true },r,[],.none⟩
  | .code (.region _ ops false) :: k=>a.to r (.inRegion ops (List.range ops.size) :: k)
  | .inBlock _ :: k=>a.to r k
  | .inScope _ :: k=>a.to r k
  | .inLoop c :: k=>a.to r (.code c :: .inLoop c :: k)
  | .inRegion _ [] :: k=>a.to r k
  | .inRegion ops (i :: rest) :: k=>match ops[i]? with
   | none=>none
   | some o=>match a.gd ops o with
    | some false=>(a.put ops i rest k undef).map fun a=>⟨a,r,[],.none⟩
    | some true=>match a.ext P o with
     | some (g,vs)=>if a.kind == .early then none else match X.act g vs with
      | some (v,ev)=>(a.put ops i rest k v).map fun a=>⟨a,r,[],ev⟩
      | none=>none
     | none=>match a.op P o with
      | some (.value v,ps)=>(a.put ops i rest k v).map fun a=>⟨a,r,ps,.none⟩
      | some (.defer d,ps)=>(a.put ops i rest k undef).map fun a=>⟨{ a with defs:=d :: a.defs },r,ps,.none⟩
      | some (.enter f xs,ps)=>match P.funcs[f]? with
       | some fn=>match fn.body with
        | some c=>some ⟨Z81 f fn c xs .normal,a :: r,ps,.none⟩
        | none=>none
       | none=>none
      | _=>none
    | none=>none
  | _=>none
def pn (P:Program) (X:Xt):Nat → St → St
 | 0,s=>s
 | n + 1,s=>match pmove P X s.top s.rest with
  | some m=>pn P X n (s.upd m)
  | none=>s
theorem pn_mono (P:Program) (X:Xt):∀ (n:Nat) (s:St),(∀ p ∈ s.cvs,p ∈ (pn P X n s).cvs) ∧ ∀ p ∈ s.mks,p ∈ (pn P X n s).mks
 | 0,s=>⟨fun _ h=>h,fun _ h=>h⟩
 | n + 1,s=>by
  unfold pn
  split
  ·obtain ⟨h1,h2⟩:=pn_mono P X n (s.upd ‹_›)
   exact ⟨fun p hp=>h1 p (List.mem_append_right _ hp),fun p hp=>h2 p (List.mem_append_right _ hp)⟩
  ·exact ⟨fun _ h=>h,fun _ h=>h⟩
end Go.Proofs.YtfelljbfeoplhaaGreat.Ev
namespace Go.Proofs.YtfelljbfeoplhaaGreat.Ev
open Go Go.Proofs.YtfelljbfeoplhaaGreat.Lift
section
variable {P:Program} {m:Bool} {w:World} {f:Frame} {K:List Frame}
theorem Z1M (h:f.mode = .run):stepG P m (run1 f K) w = stepG.exec P m true f K none w:=by
 unfold stepG run1;simp only [h]
theorem Z1G (h:f.mode = .returning):stepG P m (run1 f K) w = unwind P m f K none w:=by
 unfold stepG run1;simp only [h]
theorem Z0F (fn:FuncId):seen P fn #[] = #[]:=rfl
theorem Z15 (g:Goroutine) (w:World) (es:Array Event):GStep.after #[] (.go g w es) = .go g w es:=by simp [GStep.after]
theorem FOk.to {a:FA} (h:FOk a f) (k:List Item):FOk { a with todo:=k } { f with todo:=k }:=⟨h.fn,h.size,h.env,rfl,h.defs,h.kind,h.mode,h.round⟩
theorem FOk.put {a b:FA} (h:FOk a f) {ops:Array Oper} {i:Nat} {rest:List Nat} {k:List Item} (ht:a.todo = .inRegion ops (i :: rest) :: k) {v:Value} (e:a.put ops i rest k v = some b):FOk b (f.finish v):=by
 have hft:=h.todo.trans ht;unfold FA.put at e;unfold Frame.finish;rw [hft];dsimp only
 cases hd:(ops[i]?).bind (·.dst) with
 | none =>
  rw [hd] at e;obtain rfl:=Option.some.inj e;exact ⟨h.fn,h.size,h.env,rfl,h.defs,h.kind,h.mode,h.round⟩
 | some d =>
  rw [hd] at e;dsimp only at e
  split at e
  ·rename_i hlt
   obtain rfl:=Option.some.inj e;refine ⟨h.fn,by simpa using h.size,?_,rfl,h.defs,h.kind,h.mode,h.round⟩;intro t u e;dsimp only at e ⊢;rw [List.lookup_cons] at e
   by_cases htd:t = d
   ·subst htd
    simp only [beq_self_eq_true] at e;rw [Array.getElem?_setIfInBounds_self_of_lt (by rw [h.size];exact hlt)];exact e
   ·have:(t == d) = false:=by simp [htd]
    rw [this] at e;rw [Array.getElem?_setIfInBounds_ne (Ne.symm htd)];exact h.env t u e
  ·cases e
theorem Zao {a:FA} (h:FOk a f) {b:Bool} (e:a.gd ops o = some b): Region.wanted o (yielded ops f.tmps) = b:=by
 unfold FA.gd at e;unfold Region.wanted
 cases hg:o.guard with
 | none=>rw [hg] at e;exact Option.some.inj e
 | some p =>
  obtain ⟨j,want⟩:=p;rw [hg] at e;dsimp only at e ⊢;unfold yielded
  cases hd:(ops[j]?).bind (·.dst) with
  | none=>rw [hd] at e;obtain rfl:=Option.some.inj e;rfl
  | some d =>
   rw [hd] at e;dsimp only at e;simp only [Option.bind_some]
   cases hl:a.env.lookup d with
   | none=>rw [hl] at e;cases e
   | some v =>
    rw [hl] at e;rw [h.env d v hl]
    cases v <;> first | (obtain rfl:=Option.some.inj e;rfl) | (obtain rfl:=Option.some.inj e;simp)
end
structure Ext0 (P:Program) (g:FuncId) (e:Array Value → Sem Value):Prop where
 ex : ∃ fn, P.funcs[g]? = some fn ∧ (fn.name == "runtime.NumGoroutine") = false ∧ fn.body.isNone = true ∧ Extern.findNext fn = none ∧ Extern.find fn = some e
structure XOk (P:Program) (X:Xt):Prop where
 dis:Ext0 P X.dis (fun _=>do mark .disable;pure Extern.Race.none_)
 en:Ext0 P X.en (fun _=>do mark .enable;pure Extern.Race.none_)
 acq:Ext0 P X.acq (Extern.Race.marked .acquire)
 mrg:Ext0 P X.mrg (Extern.Race.marked .releaseMerge)
 pures:∀ g v,X.pures.lookup g = some v → Ext0 P g (fun _=>pure v)
section
variable {P:Program} {m:Bool} {w:World} {f:Frame} {fs cs:List Frame} {X:Xt} {ev:XEv}
theorem Z6R (hm:f.mode = .run) (hr:f.roundOf = none):f = f.at ⟨f.tmps,f.defers⟩ f.todo:=by
 obtain ⟨a1,a2,a3,a4,a5,a6,a7⟩:=f;dsimp only at hm hr;subst hm hr
 rfl
theorem Z2L {rest:List Nat} {k:List Item} (hm:f.mode = .run) (hr:f.roundOf = none) (ht:f.todo = .inRegion ops (i :: rest) :: k) (v:Value):
  f.finish v = f.at ((Act.mk f.tmps f.defers).put ((ops[i]?).bind (·.dst)) v) (.inRegion ops rest :: k):=by
 conv=>lhs;rw [Z6R hm hr,ht]
 exact Frame.finish_at _ _ _ _ _ _ _
theorem Z6q {a:FA} (h:FOk a f):∀ {l:List Operand} {vs:List Value},l.mapM a.val = some vs → l.map f.eval = vs
 | [],vs,e=>by simp at e;simp [e]
 | x :: l,vs,e=>by
  simp only [List.mapM_cons,Option.pure_def,Option.bind_eq_bind] at e;obtain ⟨v,hv,e⟩:=Option.bind_eq_some_iff.1 e;obtain ⟨us,hu,e⟩:=Option.bind_eq_some_iff.1 e;obtain rfl:=Option.some.inj e;rw [List.map_cons,h.val hv,Z6q h hu]
theorem Z9D {a:FA} (h:FOk a f) (hr:a.ret = false) {rest:List Nat} {k:List Item} (ht:a.todo = .inRegion ops (i :: rest) :: k) (ho:ops[i]? = some o) (hg:a.gd ops o = some true) (hk:f.kind ≠ .early) {vs:List Value} (he:a.ext P o = some (g,vs)) {e:Array Value → Sem Value} (hE:Ext0 P g e) {v:Value} {w':World} {evs:Array Event} (hrun:(e vs.toArray).run P w = .ok v w') (hev:(e vs.toArray).events P w #[⟨.mark (.extern g),false,true⟩] = #[⟨.mark (.extern g),false,true⟩] ++ evs) (hs:∀ x ∈ evs,x.sync = true ∧ ∀ g,x.loc ≠ .mark (.extern g)):
  stepG P m (run1 f cs) w = .go (run1 (f.finish v) cs) w' evs:=by
 have hrun':f.mode = .run:=by rw [h.mode,hr];rfl
 unfold FA.ext at he
 split at he
 ·rename_i c hop
  split at he
  ·rename_i g' hc
   split at he
   ·rename_i fn hfn
    split at he
    ·obtain ⟨us,hu,he⟩:=Option.map_eq_some_iff.1 he
     simp only [Prod.mk.injEq] at he;obtain ⟨rfl,rfl⟩:=he;obtain ⟨fn,h1,h2,h3,h4,h5⟩:=hE.ex;obtain ⟨callee,args,argTypes⟩:=c;dsimp only at hc hu;subst hc;have hargs:args.map (Act.mk f.tmps f.defers).eval = us.toArray:=by
      have hev0:(Act.mk f.tmps f.defers).eval = f.eval:=by funext x;cases x <;> rfl
      apply Array.ext';rw [Array.toList_map,hev0];exact Z6q h hu
     have hft:=h.todo.trans ht;have hd:(ops[i]?).bind (·.dst) = o.dst:=by rw [ho];rfl
     rw [Z2L hrun' h.round hft,hd]
     conv=>lhs;rw [Z6R hrun' h.round,hft]
     exact Conc.stepG_entry ho (Zao h hg) hk hop h1 h2 h3 h4 h5 (by rw [hargs];exact hrun) (by rw [hargs];exact hev) hs
    ·cases he
   ·cases he
  ·cases he
 ·cases he
def SOk (a:FA) (r:List FA) (f:Frame) (fs:List Frame):Prop:=FOk a f ∧ Lis FOk r fs
def Sil (P:Program) (f:Frame) (fs cs:List Frame) (m:Mv):Prop:=
 ∃ f' fs',SOk m.top m.rest f' fs' ∧ ∀ b w,(∀ p ∈ m.ps,∃ v,w.cell? p = some v) → stepG P b (run1 f (fs ++ cs)) w = .go (run1 f' (fs' ++ cs)) w m.ev.es
theorem Z1u {a:FA} {r:List FA} {mv:Mv} (h:SOk a r f fs) (hm:f.mode = .run) {k:List Item} (q:a.to r k = some mv) (e:∀ m w,stepG.exec P m true f (fs ++ cs) none w = .go (run1 { f with todo:=k } (fs ++ cs)) w): Sil P f fs cs mv:=by
 obtain rfl:=Option.some.inj q;exact ⟨_,fs,⟨h.1.to k,h.2⟩,fun m w _=>by rw [Z1M hm,e];rfl⟩
theorem Z5p (h:f.roundOf = none) {j:Option Code} (hj:j = none ∨ j = some .ret): Z08 P m f (fs ++ cs) w j = .go (run1 { f with mode:=.returning } (fs ++ cs)) w:=by
 unfold Z08;rw [h]
 rcases hj with rfl | rfl <;> rfl
theorem Z2c {fn:Func} {tmps:Array Value} {v:Value} (h:(fn.results.toList = [] ∧ v = .tuple #[]) ∨ ∃ t,fn.results.toList = [.tmp t] ∧ v = tmps.getD t undef) (w:World): (results fn tmps).run P w = .ok v w ∧ ∀ es,(results fn tmps).events P w es = es:=by
 unfold results;rw [Array.mapM_eq_mapM_toList]
 rcases h with ⟨h,rfl⟩ | ⟨t,h,rfl⟩
 ·rw [h];simp
 ·rw [h];simp
theorem Zio {P:Program} {X:Xt} (hX:XOk P X) {vs:List Value} {v:Value} (e:X.act g vs = some (v,ev)): ∃ e,Ext0 P g e ∧ ∀ w,(e vs.toArray).run P w = .ok v w ∧ (e vs.toArray).events P w #[⟨.mark (.extern g),false,true⟩] = #[⟨.mark (.extern g),false,true⟩] ++ ev.es ∧
  ∀ x ∈ ev.es,x.sync = true ∧ ∀ g,x.loc ≠ .mark (.extern g):=by
 unfold Xt.act at e
 split at e
 ·rename_i hg
  have hg:g = X.dis:=by simpa using hg
  subst hg;simp only [Option.some.injEq,Prod.mk.injEq] at e;obtain ⟨rfl,rfl⟩:=e;refine ⟨_,hX.dis,fun w=>⟨by simp [Extern.Race.none_],by simp [XEv.es],fun x hx=>?_⟩⟩;simp only [XEv.es,List.mem_toArray,List.mem_singleton] at hx;subst hx;exact ⟨rfl,fun g h=>by cases h⟩
 ·split at e
  ·rename_i hg
   have hg:g = X.en:=by simpa using hg
   subst hg;simp only [Option.some.injEq,Prod.mk.injEq] at e;obtain ⟨rfl,rfl⟩:=e;refine ⟨_,hX.en,fun w=>⟨by simp [Extern.Race.none_],by simp [XEv.es],fun x hx=>?_⟩⟩;simp only [XEv.es,List.mem_toArray,List.mem_singleton] at hx;subst hx;exact ⟨rfl,fun g h=>by cases h⟩
  ·split at e
   ·rename_i hg
    have hg:g = X.acq:=by simp only [Bool.and_eq_true,beq_iff_eq] at hg;exact hg.2
    subst hg
    split at e
    ·simp only [Option.some.injEq,Prod.mk.injEq] at e
     obtain ⟨rfl,rfl⟩:=e;refine ⟨_,hX.acq,fun w=>⟨by simp [Extern.Race.marked,Extern.Race.at_,Extern.Race.none_],by simp [Extern.Race.marked,Extern.Race.at_,XEv.es],fun x hx=>?_⟩⟩;simp only [XEv.es,List.mem_toArray,List.mem_singleton] at hx;subst hx;exact ⟨rfl,fun g h=>by cases h⟩
    ·cases e
   ·split at e
    ·rename_i hg
     have hg:g = X.mrg:=by simp only [Bool.and_eq_true,beq_iff_eq] at hg;exact hg.2
     subst hg
     split at e
     ·simp only [Option.some.injEq,Prod.mk.injEq] at e
      obtain ⟨rfl,rfl⟩:=e;refine ⟨_,hX.mrg,fun w=>⟨by simp [Extern.Race.marked,Extern.Race.at_,Extern.Race.none_],by simp [Extern.Race.marked,Extern.Race.at_,XEv.es],fun x hx=>?_⟩⟩;simp only [XEv.es,List.mem_toArray,List.mem_singleton] at hx;subst hx;exact ⟨rfl,fun g h=>by cases h⟩
     ·cases e
    ·obtain ⟨u,hu,e⟩:=Option.map_eq_some_iff.1 e
     simp only [Prod.mk.injEq] at e;obtain ⟨rfl,rfl⟩:=e;exact ⟨_,hX.pures g u hu,fun w=>⟨by simp,by simp [XEv.es],fun x hx=>by simp [XEv.es] at hx⟩⟩
theorem Z6S {fn:Func} {c:Code} (hfn:P.funcs[g]? = some fn) (hc:fn.body = some c) (xs:Array Value) (k:CallKind): FOk (Z81 g fn c xs k) (Frame.enter P g xs k):=by
 unfold Frame.enter Z81;rw [hfn];refine ⟨rfl,by simp,?_,by simp [hc],rfl,rfl,rfl,rfl⟩;intro t v hl;dsimp only at hl ⊢;have key:∀ (l:List Value) (n t:Nat) (v:Value),((List.range' n l.length).zip l).lookup t = some v → n ≤ t ∧ l[t - n]? = some v:=by
  intro l
  induction l with
  | nil=>intro n t v h;simp at h
  | cons x l ih =>
   intro n t v h;simp only [List.length_cons,List.range'_succ,List.zip_cons_cons,List.lookup_cons] at h
   by_cases e:t = n
   ·subst e
    simp only [beq_self_eq_true,Option.some.injEq] at h;subst h;simp
   ·have:(t == n) = false:=by simp [e]
    rw [this] at h;obtain ⟨h1,h2⟩:=ih (n + 1) t v h;refine ⟨by omega,?_⟩;rw [show t - n = (t - (n + 1)) + 1 by omega,List.getElem?_cons_succ];exact h2
 rw [List.range_eq_range',show xs.size = xs.toList.length by simp] at hl;obtain ⟨_,h2⟩:=key xs.toList 0 t v hl;rw [Nat.sub_zero,Array.getElem?_toList] at h2;rw [Array.getElem?_append_left (Array.getElem?_eq_some_iff.1 h2).1];exact h2
theorem pmove_ok (hX:XOk P X) {a:FA} {rest:List FA} {mv:Mv} (h:SOk a rest f fs) (e:pmove P X a rest = some mv):Sil P f fs cs mv:=by
 letI:Jk:={ j:=False,rest:=[] };obtain ⟨hf,hs⟩:=h;have h:SOk a rest f fs:=⟨hf,hs⟩;unfold pmove at e;have hmode:=hf.mode
 cases hr:a.ret with
 | true =>
  rw [hr] at e hmode;have hret:f.mode = .returning:=by rw [hmode];rfl
  dsimp only at e
  split at e
  ·rename_i d ds hdef
   split at e
   ·rename_i g ys htg
    split at e
    ·rename_i fn hfn
     have hfd:f.defers = d :: ds:=hf.defs.trans hdef;obtain ⟨t,az⟩:=d;dsimp only at htg;subst htg;have hfa:FOk { fn:=a.fn,n:=a.n,env:=a.env,todo:=a.todo,defs:=ds,kind:=a.kind,ret:=true } { f with defers:=ds }:=⟨hf.fn,hf.size,hf.env,hf.todo,rfl,hf.kind,hmode,hf.round⟩
     split at e
     ·rename_i c hc
      split at e
      ·cases e
      ·rename_i hname
       cases e
       refine ⟨_,_ :: fs,⟨Z6S hfn hc (az ++ ys) .deferred,.cons hfa hs⟩,fun m w _=>?_⟩;rw [Z1G hret];unfold unwind;rw [hfd];dsimp only;have hrun:(invoke (.fn (.func g) ys) az).run P w = .ok (.enter g (az ++ ys)) w ∧ (invoke (.fn (.func g) ys) az).events P w #[] = #[]:=by
        unfold invoke callFunc;dsimp only;have hname' : ¬ fn.name = "runtime.NumGoroutine" := by simpa using hname
        simp [hfn,hname',hc]
       rw [Z34 hrun.1];unfold lsd;rw [hrun.2,Z0F,Z15]
       rfl
     ·split at e
      ·rename_i hb hg
       have hg:g = X.en:=by simpa using hg
       subst hg
       cases e
       refine ⟨_,fs,⟨hfa,hs⟩,fun m w _=>?_⟩;obtain ⟨fn',h1,h2,h3,h4,h5⟩:=hX.en.ex;rw [Z1G hret];unfold unwind;rw [hfd];dsimp only;have hi:invoke (.fn (.func X.en) ys) az = callFunc X.en (az ++ ys):=rfl;have hrun:(invoke (.fn (.func X.en) ys) az).run P w = .ok (.value (.tuple #[])) w:=by
        rw [hi,run_callFunc_extern h1 h2 h3 h4 h5];simp [Extern.Race.none_]
       have hev:(invoke (.fn (.func X.en) ys) az).events P w #[] = #[⟨.mark (.extern X.en),false,true⟩] ++ #[⟨.mark .enable,false,true⟩]:=by
        rw [hi,Conc.events_callFunc_extern h1 h2 h3 h4 h5];simp
       rw [Z4i hrun];unfold lsd;rw [hev,Conc.seen_entry _ _ _ (fun x hx=>by simp at hx;subst hx;exact ⟨rfl,fun g h=>by cases h⟩)]
       rfl
      ·cases e
    ·cases e
   ·cases e
  ·rename_i hdef
   split at e
   ·rename_i c cs' fn hkind hfn
    split at e
    ·rename_i ops i rest' k htodo
     cases hs with
     | @cons _ f0 _ fs0 hc hcs =>
     have fin:∀ {v:Value} {b:FA},c.put ops i rest' k v = some b → ((fn.results.toList = [] ∧ v = .tuple #[]) ∨ ∃ t,fn.results.toList = [.tmp t] ∧ v = f.tmps.getD t undef) → Sil P f (f0 :: fs0) cs ⟨b,cs',[],.none⟩:=by
      intro v b hb hv;refine ⟨f0.finish v,fs0,⟨hc.put htodo hb,hcs⟩,fun m w _=>?_⟩;rw [Z1G hret];unfold unwind;rw [hf.defs,hdef];dsimp only;rw [hret];dsimp only;rw [hf.fn,hfn];dsimp only;obtain ⟨r1,r2⟩:=Z2c (P:=P) hv w;simp only [Sem.runT_eq,r1,r2];unfold doReturn;rw [hf.kind,hkind]
      rfl
     split at e
     ·rename_i hcr hres
      obtain ⟨b,hb,e⟩:=Option.map_eq_some_iff.1 e
      cases e
      exact fin hb (.inl ⟨hres,rfl⟩)
     ·rename_i t hcr hres
      obtain ⟨v,hv,e⟩:=Option.bind_eq_some_iff.1 e;obtain ⟨b,hb,e⟩:=Option.map_eq_some_iff.1 e
      cases e
      refine fin hb (.inr ⟨t,hres,?_⟩);rw [Array.getD_eq_getD_getElem?,hf.env t v hv];rfl
     ·cases e
    ·cases e
   ·rename_i c cs' fn hkind hfn
    split at e
    ·rename_i hcr hres
     cases e
     cases hs with
     | @cons _ f0 _ fs0 hc hcs =>
     refine ⟨f0,fs0,⟨hc,hcs⟩,fun m w _=>?_⟩;have hcm:f0.mode = .returning:=by rw [hc.mode,hcr];rfl
     rw [Z1G hret];unfold unwind;rw [hf.defs,hdef];dsimp only;rw [hret];dsimp only;rw [hf.fn,hfn];dsimp only;obtain ⟨r1,r2⟩:=Z2c (P:=P) (fn:=fn) (tmps:=f.tmps) (.inl ⟨hres,rfl⟩) w;simp only [Sem.runT_eq,r1,r2];unfold doReturn;rw [hf.kind,hkind];dsimp only [List.cons_append];rw [hcm]
     rfl
    ·cases e
   ·cases e
 | false =>
  rw [hr] at e hmode;have hrun:f.mode = .run:=by rw [hmode];rfl
  dsimp only at e;have ht:=hf.todo;have ret:(f.todo = [] ∨ ∃ k,f.todo = .code .ret :: k) → Sil P f fs cs ⟨{ a with ret:=true },rest,[],.none⟩:=by
   intro hx;refine ⟨{ f with mode:=.returning },fs,⟨⟨hf.fn,hf.size,hf.env,hf.todo,hf.defs,hf.kind,rfl,hf.round⟩,hs⟩,fun m w _=>?_⟩;rw [Z1M hrun]
   rcases hx with hx | ⟨k,hx⟩
   ·rw [Z9c hx,Z5p hf.round (.inl rfl)];rfl
   ·rw [Z9q hx,Z5p hf.round (.inr rfl)];rfl
  have inj:∀ {x y:Mv},some x = some y → y = x:=fun h=>(Option.some.inj h).symm
  split at e <;> (try rename_i htodo;rw [htodo] at ht)
  ·cases inj e;exact ret (.inl ht)
  ·exact Z1u h hrun e fun _ _=>Z7d ht
  ·exact Z1u h hrun e fun _ _=>Z4o ht
  ·exact Z1u h hrun e fun _ _=>Z2H ht
  ·exact Z1u h hrun e fun _ _=>Z4n ht
  ·exact Z1u h hrun e fun _ _=>Z73 ht
  ·exact Z1u h hrun e fun _ _=>Z4l ht
  ·split at e
   ·rename_i b hb
    refine Z1u h hrun e fun _ _=>?_;rw [Z4z ht,hf.val hb]
   ·cases e
  ·obtain ⟨k',hk',e⟩:=Option.bind_eq_some_iff.1 e
   refine Z1u h hrun e fun _ _=>?_;rw [Z4F ht,hk']
  ·cases inj e;exact ret (.inr ⟨_,ht⟩)
  ·exact Z1u h hrun e fun _ _=>Z32 ht
  ·exact Z1u h hrun e fun _ _=>Z2m ht
  ·exact Z1u h hrun e fun _ _=>Z2u ht
  ·exact Z1u h hrun e fun _ _=>Z3s ht
  ·exact Z1u h hrun e fun _ _=>Z6i ht
  ·rename_i ops i l k
   split at e
   ·cases e
   ·rename_i o ho
    split at e
    ·rename_i hg
     obtain ⟨b,hb,e⟩:=Option.map_eq_some_iff.1 e
     cases e
     have hw:=Zao hf hg;refine ⟨f.finish undef,fs,⟨hf.put htodo hb,hs⟩,fun m w _=>?_⟩;rw [Z1M hrun,Z1S ht,ho];simp only [Option.map_some,Option.getD_some,hw]
     rfl
    ·rename_i hg
     have hw:=Zao hf hg
     split at e
     ·rename_i g vs hext
      split at e
      ·cases e
      ·rename_i hke
       have hk:f.kind ≠ .early:=fun x=>hke (by rw [← hf.kind,x];rfl)
       split at e
       ·rename_i v ev' hact
        obtain ⟨b,hb,e⟩:=Option.map_eq_some_iff.1 e
        cases e
        obtain ⟨ex,hE,hall⟩:=Zio hX hact;refine ⟨f.finish v,fs,⟨hf.put htodo hb,hs⟩,fun m w _=>?_⟩;obtain ⟨r1,r2,r3⟩:=hall w;exact Z9D hf hr htodo ho hg hk hext hE r1 r2 r3
       ·cases e
     ·have hop:∀ m w,stepG.exec P m true f (fs ++ cs) none w = stepG.apply P true f (fs ++ cs) none (execOp f.eval o) w:=fun m w=>by
       rw [Z1S ht,ho];simp only [Option.map_some,Option.getD_some,hw,if_true];exact Z3N ht ho (.inl hf.round)
      split at e
      ·rename_i v ps hv
       obtain ⟨b,hb,e⟩:=Option.map_eq_some_iff.1 e
       cases e
       refine ⟨f.finish v,fs,⟨hf.put htodo hb,hs⟩,fun m w hp=>?_⟩;obtain ⟨r1,r2⟩:=Ze2 hf hv w hp;rw [Z1M hrun,hop,Z0c r1];simp only [lst,r2,ite_self,Z0F,Z15]
       rfl
      ·rename_i d ps hv
       obtain ⟨b,hb,e⟩:=Option.map_eq_some_iff.1 e
       cases e
       have hfd:FOk { a with defs:=d :: a.defs } { f with defers:=d :: f.defers }:=⟨hf.fn,hf.size,hf.env,hf.todo,by rw [hf.defs],hf.kind,hf.mode,hf.round⟩;have hb2:FA.put { a with defs:=d :: a.defs } ops i l k undef = some { b with defs:=d :: b.defs }:=by
        revert hb;unfold FA.put;dsimp only
        split
        ·split
         ·intro hb;obtain rfl:=Option.some.inj hb;rfl
         ·intro hb;cases hb
        ·intro hb;obtain rfl:=Option.some.inj hb;rfl
       refine ⟨_,fs,⟨hfd.put htodo hb2,hs⟩,fun m w hp=>?_⟩;obtain ⟨r1,r2⟩:=Ze2 hf hv w hp;rw [Z1M hrun,hop,Z20 r1];simp only [lst,r2,ite_self,Z0F,Z15]
       rfl
      ·rename_i g xs ps hv
       split at e
       ·rename_i fn hfn
        split at e
        ·rename_i c hc
         cases inj e
         have hk2:Z2h f = .normal:=by unfold Z2h;rw [ht]
         refine ⟨Frame.enter P g xs .normal,f :: fs,⟨Z6S hfn hc xs .normal,.cons hf hs⟩,fun m w hp=>?_⟩;obtain ⟨r1,r2⟩:=Ze2 hf hv w hp;rw [Z1M hrun,hop,Z0r r1,hk2];simp only [lst,r2,ite_self,Z0F,Z15]
         rfl
        ·cases e
       ·cases e
      ·cases e
    ·cases e
  ·cases e
end
end Go.Proofs.YtfelljbfeoplhaaGreat.Ev
namespace Go.Proofs.YtfelljbfeoplhaaGreat.Ev
open Go Go.Proofs.YtfelljbfeoplhaaGreat.Lift
def xt:Xt:={ dis:=129,en:=130,acq:=143,mrg:=128,says:=true,pures:=[(161,.tuple #[]),(131,.bool false)] }
def xtQ:Xt:={ xt with says:=false }
theorem Zgn:Ext0 Tryz.prog 129 (fun _=>do mark .disable;pure Extern.Race.none_):=⟨_,Tryz.func129,by kernel_rfl,by kernel_rfl,by kernel_rfl,by kernel_rfl⟩
theorem ZiU:Ext0 Tryz.prog 130 (fun _=>do mark .enable;pure Extern.Race.none_):=⟨_,Tryz.func130,by kernel_rfl,by kernel_rfl,by kernel_rfl,by kernel_rfl⟩
theorem Z8N:Ext0 Tryz.prog 143 (Extern.Race.marked .acquire):=⟨_,Tryz.func143,by kernel_rfl,by kernel_rfl,by kernel_rfl,by kernel_rfl⟩
theorem Zdc:Ext0 Tryz.prog 128 (Extern.Race.marked .releaseMerge):=⟨_,Tryz.func128,by kernel_rfl,by kernel_rfl,by kernel_rfl,by kernel_rfl⟩
theorem Zii:Ext0 Tryz.prog 136 (Extern.Race.marked .read):=⟨_,Tryz.func136,by kernel_rfl,by kernel_rfl,by kernel_rfl,by kernel_rfl⟩
theorem ZiH:Ext0 Tryz.prog 146 (Extern.Race.marked .write):=⟨_,Tryz.func146,by kernel_rfl,by kernel_rfl,by kernel_rfl,by kernel_rfl⟩
theorem ZdM:Ext0 Tryz.prog 161 (fun _=>pure (.tuple #[])):=⟨_,Tryz.func161,by kernel_rfl,by kernel_rfl,by kernel_rfl,by kernel_rfl⟩
theorem Zgg:Ext0 Tryz.prog 131 (fun _=>pure (.bool false)):=⟨_,Tryz.func131,by kernel_rfl,by kernel_rfl,by kernel_rfl,by kernel_rfl⟩
theorem ZbE:Ext0 Tryz.prog 160 Extern.Sync.canSpin:=⟨_,Tryz.func160,by kernel_rfl,by kernel_rfl,by kernel_rfl,by kernel_rfl⟩
theorem ZgC:Ext0 Tryz.prog 163 Extern.OsHooks.nano:=⟨_,Tryz.func163,by kernel_rfl,by kernel_rfl,by kernel_rfl,by kernel_rfl⟩
theorem ZbK:Ext0 Tryz.prog 164 Extern.Sync.semacquire:=⟨_,Tryz.func164,by kernel_rfl,by kernel_rfl,by kernel_rfl,by kernel_rfl⟩
theorem ZfS:Ext0 Tryz.prog 166 Extern.Sync.semrelease:=⟨_,Tryz.func166,by kernel_rfl,by kernel_rfl,by kernel_rfl,by kernel_rfl⟩
theorem Zg2:Ext0 Tryz.prog 147 Extern.Sync.semacquire:=⟨_,Tryz.func147,by kernel_rfl,by kernel_rfl,by kernel_rfl,by kernel_rfl⟩
theorem Zdp:Ext0 Tryz.prog 140 Extern.Sync.semrelease:=⟨_,Tryz.func140,by kernel_rfl,by kernel_rfl,by kernel_rfl,by kernel_rfl⟩
theorem Zd4:Ext0 Tryz.prog 154 (Extern.Atomic.casT (.int .i32)):=⟨_,Tryz.func154,by kernel_rfl,by kernel_rfl,by kernel_rfl,by kernel_rfl⟩
theorem Zhg:Ext0 Tryz.prog 156 (Extern.Atomic.update (Op.intArith .add) .i32 true):=⟨_,Tryz.func156,by kernel_rfl,by kernel_rfl,by kernel_rfl,by kernel_rfl⟩
theorem Zds:Ext0 Tryz.prog 158 (Extern.Atomic.casT (.int .u64)):=⟨_,Tryz.func158,by kernel_rfl,by kernel_rfl,by kernel_rfl,by kernel_rfl⟩
theorem Zd3:Ext0 Tryz.prog 151 (Extern.Atomic.update (Op.intArith .add) .u64 true):=⟨_,Tryz.func151,by kernel_rfl,by kernel_rfl,by kernel_rfl,by kernel_rfl⟩
theorem Z3z:Ext0 Tryz.prog 152 (Extern.Atomic.loadT (.int .u64)):=⟨_,Tryz.func152,by kernel_rfl,by kernel_rfl,by kernel_rfl,by kernel_rfl⟩
theorem Zgj:Ext0 Tryz.prog 153 Extern.Atomic.storeT:=⟨_,Tryz.func153,by kernel_rfl,by kernel_rfl,by kernel_rfl,by kernel_rfl⟩
theorem xok:XOk Tryz.prog xt where
 dis:=Zgn
 en:=ZiU
 acq:=Z8N
 mrg:=Zdc
 pures:=by
  intro g v h;simp only [xt,List.lookup_cons,List.lookup_nil] at h
  split at h
  ·rename_i e;obtain rfl:=eq_of_beq e;cases h;exact ZdM
  ·split at h
   ·rename_i e;obtain rfl:=eq_of_beq e;cases h;exact Zgg
   ·cases h
theorem xokQ:XOk Tryz.prog xtQ:=⟨xok.dis,xok.en,xok.acq,xok.mrg,xok.pures⟩
end Go.Proofs.YtfelljbfeoplhaaGreat.Ev
namespace Go.Proofs.YtfelljbfeoplhaaGreat.Ev
open Go Go.Proofs.YtfelljbfeoplhaaGreat.Lift
def St.pend (s:St):Option Oper:=
 if s.top.ret || s.top.kind == .early then none else match s.top.todo with
 | .inRegion ops (i :: _) :: _=>match ops[i]? with
  | some o=>match s.top.gd ops o with
   | some true=>some o
   | _=>none
  | none=>none
 | _=>none
def St.ext (P:Program) (s:St):Option (FuncId × List Value):=s.pend.bind (s.top.ext P)
def St.lod (s:St):Option (TypeId × Addr):=s.pend.bind fun o=>match o.op with
 | .load t x=>match s.top.val x with
  | some (.pointer (some p))=>some (t,p)
  | _=>none
 | _=>none
def St.sto (s:St):Option (TypeId × Addr × Value):=s.pend.bind fun o=>match o.op with
 | .store t x y=>match s.top.val x,s.top.val y with
  | some (.pointer (some p)),some v=>some (t,p,v)
  | _,_=>none
 | _=>none
def St.cal (P:Program) (s:St):Option (FuncId × Array Value):=s.pend.bind fun o=>match s.top.op P o with
 | some (.enter f xs,[])=>some (f,xs)
 | _=>none
def St.ans (s:St) (v:Value):Option St:=
 match s.top.todo with
 | .inRegion ops (i :: rest) :: k=>(s.top.put ops i rest k v).map fun a=>{ s with top:=a }
 | _=>none
section
variable {P:Program} {m:Bool} {w w':World} {f:Frame} {fs cs:List Frame} {s s':St}
theorem Z0s (h:s.pend = some o): ∃ ops i rest k,s.top.todo = .inRegion ops (i :: rest) :: k ∧ ops[i]? = some o ∧ s.top.gd ops o = some true ∧ s.top.ret = false ∧ s.top.kind ≠ .early:=by
 unfold St.pend at h
 split at h
 ·cases h
 ·rename_i hk
  simp only [Bool.or_eq_true,not_or,Bool.not_eq_true] at hk
  split at h
  ·rename_i ops i rest k ht
   split at h
   ·rename_i o' ho
    split at h
    ·rename_i hg
     obtain rfl:=Option.some.inj h;exact ⟨ops,i,rest,k,ht,ho,hg,hk.1,fun e=>by rw [e] at hk;exact absurd hk.2 (by decide)⟩
    ·cases h
   ·cases h
  ·cases h
theorem Z2e {rest:List Nat} {k:List Item} (h:SOk s.top s.rest f fs) (ht:s.top.todo = .inRegion ops (i :: rest) :: k) {v:Value} (ha:s.ans v = some s'): SOk s'.top s'.rest (f.finish v) fs ∧ s'.cvs = s.cvs ∧ s'.mks = s.mks ∧ s'.deaf = s.deaf:=by
 unfold St.ans at ha;rw [ht] at ha;obtain ⟨a,hp,rfl⟩:=Option.map_eq_some_iff.1 ha;exact ⟨⟨h.1.put ht hp,h.2⟩,rfl,rfl,rfl⟩
theorem Z2D (h:SOk s.top s.rest f fs) {vs:List Value} (he:s.ext P = some (g,vs)) {e:Array Value → Sem Value} (hE:Ext0 P g e) {v:Value} {evs:Array Event} (hrun:(e vs.toArray).run P w = .ok v w') (hev:(e vs.toArray).events P w #[⟨.mark (.extern g),false,true⟩] = #[⟨.mark (.extern g),false,true⟩] ++ evs) (hs:∀ x ∈ evs,x.sync = true ∧ ∀ g,x.loc ≠ .mark (.extern g)) (ha:s.ans v = some s'):
  stepG P m (run1 f (fs ++ cs)) w = .go (run1 (f.finish v) (fs ++ cs)) w' evs ∧ SOk s'.top s'.rest (f.finish v) fs:=by
 obtain ⟨o,hp,hx⟩:=Option.bind_eq_some_iff.1 he;obtain ⟨ops,i,rest,k,ht,ho,hg,hr,hk⟩:=Z0s hp;exact ⟨Z9D h.1 hr ht ho hg (by rw [h.1.kind];exact hk) hx hE hrun hev hs,(Z2e h ht ha).1⟩
theorem Z1A (h:SOk s.top s.rest f fs) (hp:s.pend = some o) (hnd:∀ c,o.op ≠ .defer c): stepG P m (run1 f (fs ++ cs)) w = stepG.apply P true f (fs ++ cs) none (execOp f.eval o) w:=by
 letI:Jk:={ j:=False,rest:=[] };obtain ⟨ops,i,rest,k,ht,ho,hg,hr,hk⟩:=Z0s hp;have hft:=h.1.todo.trans ht;rw [Z1M (by rw [h.1.mode,hr];rfl),Z1S hft,ho];simp only [Option.map_some,Option.getD_some,Zao h.1 hg,if_true];exact Z3N hft ho (.inl h.1.round)
theorem Z7E {t:TypeId} (ha:(isAgg t).run P w = .ok false w) {p:Addr} {v:Value} (hc:w.cell? p = some v): (Instr.loadAt t (.pointer (some p))).run P w = .ok v w ∧ (Instr.loadAt t (.pointer (some p))).events P w #[] = #[⟨.cell p,false,false⟩]:=by
 have hl:(load p .plain).run P w = .ok v w:=by simp only [load,Sem.run,hc]
 constructor
 ·simp [Instr.loadAt,Instr.sureAddr,loadVar,ha,hc]
 ·simp [Instr.loadAt,Instr.sureAddr,loadVar,ha,hl,hc]
theorem Zfr (h : SOk s.top s.rest f fs) {t : TypeId} {p : Addr} (he : s.lod = some (t, p)) (hag : (isAgg t).run P w = .ok false w) {v : Value} (hc : w.cell? p = some v) (ha : s.ans v = some s') :
    stepG P m (run1 f (fs ++ cs)) w = .go (run1 (f.finish v) (fs ++ cs)) w (seen P f.fn #[⟨.cell p, false, false⟩]) ∧ SOk s'.top s'.rest (f.finish v) fs := by
  letI : Jk := { j := False, rest := [] };obtain ⟨o, hp, hx⟩ := Option.bind_eq_some_iff.1 he;obtain ⟨ops, i, rest, k, ht, ho, hg, hret, hk⟩ := Z0s hp;refine ⟨?_, (Z2e h ht ha).1⟩
  split at hx
  · rename_i t' x hop
    split at hx
    · rename_i q hq
      simp only [Option.some.injEq, Prod.mk.injEq] at hx;obtain ⟨rfl, rfl⟩ := hx;rw [Z1A h hp (by rw [hop]; simp)];obtain ⟨r1, r2⟩ := Z7E hag hc
      have hex : execOp f.eval o = (do pure (Next.value (← Instr.loadAt t' (.pointer (some q))))) := by
        unfold execOp; rw [hop]; dsimp only; rw [h.1.val hq]
      have e1 : (execOp f.eval o).run P w = .ok (.value v) w := by rw [hex]; simp [r1]
      have e2 : (execOp f.eval o).events P w #[] = #[⟨.cell q, false, false⟩] := by rw [hex]; simp [r1, r2]
      rw [Z0c e1];unfold lst;have hke : (f.kind == CallKind.early) = false := by
        cases hkk : f.kind <;> first | rfl | (rw [h.1.kind] at hkk; exact absurd hkk hk)
      rw [hke, e2];simp [GStep.after]
    · cases hx
  · cases hx
theorem Z6J {t:TypeId} (ha:(sizeOf t).run P w = .ok 1 w) {p:Addr} {u v:Value} (h1:v.oneCell' = true) (h2:v.cells = #[v]) (hc:w.cell? p = some u) (hz:w.frozen? p = false):
  (Instr.storeAt t (.pointer (some p)) v).run P w = .ok () (w.setCell p v) ∧ (Instr.storeAt t (.pointer (some p)) v).events P w #[] = #[⟨.cell p,true,false⟩]:=by
 have hl:(store p v .plain).run P w = .ok () (w.setCell p v):=by rw [run_store P w p v .plain h1];simp [hc,hz]
 have hp0:p.add 0 = p:=by obtain ⟨b,o,s⟩:=p;rfl
 have he:=events_store P w #[] p v .plain h1;rw [hc] at he;simp only [hz] at he
 constructor
 ·simp [Instr.storeAt,Instr.sureAddr,storeVar,ha,h2,storeCells,hp0,hl]
 ·simp [Instr.storeAt,Instr.sureAddr,storeVar,ha,h2,storeCells,hp0,hl,he]
theorem Zfv (h:SOk s.top s.rest f fs) {t:TypeId} {p:Addr} {v:Value} (he:s.sto = some (t,p,v)) (hag:(sizeOf t).run P w = .ok 1 w) (h1:v.oneCell' = true) (h2:v.cells = #[v]) {u:Value} (hc:w.cell? p = some u) (hz:w.frozen? p = false) (ha:s.ans undef = some s'):
  stepG P m (run1 f (fs ++ cs)) w = .go (run1 (f.finish undef) (fs ++ cs)) (w.setCell p v) (seen P f.fn #[⟨.cell p,true,false⟩]) ∧ SOk s'.top s'.rest (f.finish undef) fs:=by
 letI:Jk:={ j:=False,rest:=[] };obtain ⟨o,hp,hx⟩:=Option.bind_eq_some_iff.1 he;obtain ⟨ops,i,rest,k,ht,ho,hg,hret,hk⟩:=Z0s hp;refine ⟨?_,(Z2e h ht ha).1⟩
 split at hx
 ·rename_i t' x y hop
  split at hx
  ·rename_i q z hq hy
   simp only [Option.some.injEq,Prod.mk.injEq] at hx;obtain ⟨rfl,rfl,rfl⟩:=hx;rw [Z1A h hp (by rw [hop];simp)];obtain ⟨r1,r2⟩:=Z6J (P:=P) hag h1 h2 hc hz
   have hex:execOp f.eval o = (do Instr.storeAt t' (.pointer (some q)) z;pure Next.skip):=by
    unfold execOp;rw [hop];dsimp only;rw [h.1.val hq,h.1.val hy]
   have e1:(execOp f.eval o).run P w = .ok .skip (w.setCell q z):=by rw [hex];simp [r1]
   have e2:(execOp f.eval o).events P w #[] = #[⟨.cell q,true,false⟩]:=by rw [hex];simp [r1,r2]
   rw [Z2l e1];unfold lst;have hke:(f.kind == CallKind.early) = false:=by
    cases hkk:f.kind <;> first | rfl | (rw [h.1.kind] at hkk;exact absurd hkk hk)
   rw [hke,e2];simp [GStep.after]
  ·cases hx
 ·cases hx
theorem ZfL (h:SOk s.top s.rest f fs) {xs:Array Value} (he:s.cal P = some (g,xs)): stepG P m (run1 f (fs ++ cs)) w = .go (run1 (Frame.enter P g xs .normal) (f :: (fs ++ cs))) w #[]:=by
 letI:Jk:={ j:=False,rest:=[] };obtain ⟨o,hp,hx⟩:=Option.bind_eq_some_iff.1 he;obtain ⟨ops,i,rest,k,ht,ho,hg,hret,hk⟩:=Z0s hp
 split at hx
 ·rename_i f' ys hop
  simp only [Option.some.injEq,Prod.mk.injEq] at hx;obtain ⟨rfl,rfl⟩:=hx;obtain ⟨r1,r2⟩:=Ze2 h.1 hop w (by simp);have hnd:∀ c,o.op ≠ .defer c:=by
   intro c hc;have:=r1;unfold execOp at this;rw [hc] at this;dsimp only at this;simp only [Sem.run_bind,Sem.run_pure] at this;revert this
   cases (resolve f.eval c o.type).run P w <;> simp
  rw [Z1A h hp hnd,Z0r r1];have hk2:Z2h f = .normal:=by unfold Z2h;rw [h.1.todo.trans ht]
  unfold lst;rw [hk2,r2];simp only [ite_self,Z0F,Z15]
 ·cases hx
def FA.cut (l:List Nat) (a:FA):FA:={ a with env:=l.filterMap fun t=>(a.env.lookup t).map fun v=>(t,v) }
theorem Zbx {a:FA} (h:FOk a f) (l:List Nat):FOk (a.cut l) f:=by
 refine ⟨h.fn,h.size,fun t v e=>h.env t v ?_,h.todo,h.defs,h.kind,h.mode,h.round⟩;dsimp only [FA.cut] at e
 induction l with
 | nil=>cases e
 | cons x l ih =>
  rw [List.filterMap_cons] at e
  cases hx:a.env.lookup x with
  | none=>rw [hx] at e;exact ih e
  | some u =>
   rw [hx] at e;simp only [Option.map_some,List.lookup_cons] at e
   split at e
   ·rename_i he
    have he:t = x:=by simpa using he
    subst he;obtain rfl:=Option.some.inj e;exact hx
   ·exact ih e
def cuts:List (List Nat) → List FA → List FA
 | l :: ls,a :: az=>a.cut l :: cuts ls az
 | _,az=>az
theorem ZcB:∀ (ls:List (List Nat)) {az:List FA} {fs:List Frame},Lis FOk az fs → Lis FOk (cuts ls az) fs
 | [],_,_,h=>by unfold cuts;exact h
 | l :: ls,_,_,.nil=>.nil
 | l :: ls,_,_,.cons h t=>.cons (Zbx h l) (ZcB ls t)
def St.cut (l:List Nat) (ls:List (List Nat)) (s:St):St:={ top:=s.top.cut l,rest:=cuts ls s.rest,cvs:=[],mks:=[],deaf:=s.deaf }
theorem Z2E (h:SOk s.top s.rest f fs) (l:List Nat) (ls:List (List Nat)):SOk (s.cut l ls).top (s.cut l ls).rest f fs:=⟨Zbx h.1 l,ZcB ls h.2⟩
end
end Go.Proofs.YtfelljbfeoplhaaGreat.Ev
namespace Go.Proofs.YtfelljbfeoplhaaGreat.Ev
open Go Go.Proofs.YtfelljbfeoplhaaGreat.Lift
noncomputable abbrev PP:Program:=Tryz.prog
abbrev pa (N o:Nat):Value:=.pointer (some ⟨N,o,none⟩)
abbrev iw (n:Int):Value:=.int .i32 n
abbrev qw (n:Int):Value:=.int .i64 n
noncomputable def Z5Z (f:FuncId):Code:=((PP.funcs[f]?).bind (·.body)).getD .skip
def St.an (s:St) (v:Value):St:=(s.ans v).getD s
structure Wk where
 N:Nat
 W:Nat
 I:Nat
 L:Nat
 B:Nat
 D:Nat
 n:Nat
 c:Nat
 lamp:Nat
 clo:Value
def k0:Wk:=⟨0,0,0,0,0,0,1,1,0,.nilFunc⟩
noncomputable def edg (X:Xt) (s:St) (v:Value) (l:List Nat) (ls:List (List Nat)):Bool × St × List Addr × List Addr:=
 ((s.ans v).isSome,(pn PP X 200 (s.an v)).cut l ls,(pn PP X 200 (s.an v)).cvs,(pn PP X 200 (s.an v)).mks)
noncomputable def edgN (n:Nat) (X:Xt) (s:St) (v:Value) (l:List Nat) (ls:List (List Nat)):Bool × St × List Addr × List Addr:=
 ((s.ans v).isSome,(pn PP X n (s.an v)).cut l ls,(pn PP X n (s.an v)).cvs,(pn PP X n (s.an v)).mks)
noncomputable def mv (X:Xt) (s:St) (v:Value) (l:List Nat) (ls:List (List Nat)):St:=(edg X s v l ls).2.1
noncomputable def sW (k:Wk):St:={ top:={ fn:=113,n:=13,env:=[(0,pa k.W 0),(1,pa k.I 0),(2,pa k.L 0),(3,pa k.N 0),(4,pa k.B 0)],todo:=[.code (Z5Z 113)],defs:=[],kind:=.deferred,ret:=false },rest:=[],cvs:=[],mks:=[],deaf:=0 }
noncomputable def cW1 (k:Wk):St:=(pn PP xt 200 (sW k)).cut [1,2,3,4] []
noncomputable def cW2 (k:Wk):St:=mv xt (cW1 k) k.clo [2,3,4,5] []
noncomputable def cW3 (k:Wk):St:=((cW2 k).an (qw k.lamp)).cut [2,3,4,5,6] []
noncomputable def cL0 (k:Wk):St:=mv xt (cW3 k) (.bool true) [0,5] [[],[2,3,4]]
noncomputable def cR0 (k:Wk):St:=mv xt (cL0 k) (.bool false) [0,2,3,4,5,12] [[],[],[2,3,4]]
noncomputable def slow (k:Wk) (td:List Item) (env:List (Nat × Value)):St:={ (cR0 k) with top:={ (cR0 k).top with todo:=td,env:=env } }
noncomputable def sSp:St:=pn PP xt 200 ((cR0 k0).an (iw 9))
noncomputable def sC1:St:=pn PP xt 200 (sSp.an (.bool true))
noncomputable def sR1:St:=pn PP xt 200 (sC1.an (.bool false))
noncomputable def sC2:St:=pn PP xt 200 ((cR0 k0).an (iw 1))
noncomputable def sC2b:St:=pn PP xt 200 (sC2.an (.bool false))
noncomputable def sR3:St:=pn PP xt 200 (sC2b.an (.bool false))
noncomputable def sT1:St:=pn PP xt 200 (sC2b.an (.bool true))
noncomputable def sS1:St:=pn PP xt 200 (sT1.an (qw 1))
noncomputable def sT2:St:=pn PP xt 200 (sS1.an (.tuple #[]))
noncomputable def sR2:St:=pn PP xt 200 (sT2.an (qw 3000000))
noncomputable def sA1:St:=pn PP xt 200 (sR2.an (iw 12))
noncomputable def cSp (k:Wk) (old:Int) (aw sv:Bool) (it wst:Int):St:=slow k sSp.top.todo [(0,pa k.N 0),(2,qw wst),(3,.bool sv),(4,.bool aw),(5,qw it),(6,iw old),(17,.bool true),(18,qw it)]
noncomputable def cC1 (k:Wk) (it wst:Int):St:=slow k sC1.top.todo [(0,pa k.N 0),(2,qw wst),(3,.bool false),(4,.bool false),(5,qw it),(33,.bool true),(36,pa k.N 0),(37,iw 9),(39,iw 11)]
noncomputable def cR1 (k:Wk) (aw sv:Bool) (it wst:Int):St:=slow k sR1.top.todo [(0,pa k.N 0),(2,qw wst),(3,.bool sv),(4,.bool aw),(5,qw it),(47,pa k.N 0)]
noncomputable def cC2 (k:Wk) (old nw:Int) (aw sv:Bool) (it wst:Int):St:=slow k sC2b.top.todo [(0,pa k.N 0),(2,qw wst),(3,.bool sv),(4,.bool aw),(5,qw it),(6,iw old),(77,pa k.N 0),(78,iw old),(79,iw nw)]
noncomputable def cR3 (k:Wk) (aw sv:Bool) (it wst:Int):St:=slow k sR3.top.todo [(0,pa k.N 0),(2,qw wst),(3,.bool sv),(4,.bool aw),(5,qw it),(133,pa k.N 0)]
noncomputable def cT1 (k:Wk) (sv:Bool) (q:Value):St:=slow k sT1.top.todo [(0,pa k.N 0),(3,.bool sv),(8,q)]
noncomputable def cS1 (k:Wk) (sv:Bool) (wst:Int) (q:Value):St:=slow k sS1.top.todo [(0,pa k.N 0),(2,qw wst),(3,.bool sv),(91,pa k.N 1),(92,q)]
noncomputable def cT2 (k:Wk) (wst:Int):St:=slow k sT2.top.todo [(0,pa k.N 0),(2,qw wst),(95,.bool false)]
noncomputable def cR2 (k:Wk) (sv:Bool) (wst:Int):St:=slow k sR2.top.todo [(0,pa k.N 0),(2,qw wst),(3,.bool sv),(103,pa k.N 0)]
noncomputable def cA1 (k:Wk) (d:Int):St:=slow k sA1.top.todo [(0,pa k.N 0),(128,pa k.N 0),(129,iw d)]
noncomputable def tdQ:List Item:=(pn PP xt 23 (sC2b.an (.bool true))).top.todo
noncomputable def cQ (k:Wk) (sv:Bool) (wst:Int) (q:Value) (b:Bool):St:=slow k tdQ [(0,pa k.N 0),(2,qw wst),(3,.bool sv),(8,q),(87,.bool b)]
noncomputable def cIn (k:Wk):St:=mv xt (cL0 k) (.bool true) [2,3,4] []
noncomputable def cI2 (k:Wk):St:=mv xt (cIn k) (.slice (some ⟨k.D,0,none⟩) k.n k.c) [2,3,9] []
noncomputable def ZkP (k:Wk) (env:List (Nat × Value)):St:={ (cI2 k) with top:={ (cI2 k).top with env:=env,todo:=(pn PP xt 200 ((cI2 k0).an (qw 0))).top.todo } }
noncomputable def cSt (k:Wk):St:=ZkP k [(3,pa k.N 0),(11,pa k.D k.lamp)]
noncomputable def cUl (k:Wk):St:=mv xt (cSt k) undef [0,5] [[],[]]
noncomputable def cU0 (k:Wk):St:=mv xt (cUl k) (iw 0) [0,13] [[],[]]
noncomputable def unl (k:Wk):List FA:=(cuts [[],[],[]] (pn PP xt 200 ((cU0 k).an (iw 8))).rest)
noncomputable def sUc:St:=pn PP xt 200 ((cU0 k0).an (iw 8))
noncomputable def sUr:St:=pn PP xt 200 (sUc.an (.bool false))
noncomputable def sUs:St:=pn PP xt 200 (sUc.an (.bool true))
noncomputable def sUt:St:=pn PP xt 200 ((cU0 k0).an (iw 12))
noncomputable def cUc (k:Wk) (old:Int):St:={ sUc with top:={ sUc.top with env:=[(0,pa k.N 0),(27,pa k.N 0),(28,iw old),(29,iw (if old = 8 then 2 else 10))] },rest:=unl k,cvs:=[],mks:=[] }
noncomputable def cUr (k:Wk):St:={ sUr with top:={ sUr.top with env:=[(0,pa k.N 0),(37,pa k.N 0)] },rest:=unl k,cvs:=[],mks:=[] }
noncomputable def cUs (k:Wk):St:={ sUs with top:={ sUs.top with env:=[(33,pa k.N 1)] },rest:=unl k,cvs:=[],mks:=[] }
noncomputable def cUt (k:Wk):St:={ sUt with top:={ sUt.top with env:=[(41,pa k.N 1)] },rest:=unl k,cvs:=[],mks:=[] }
noncomputable def cWr (k:Wk):St:=mv xtQ (cW3 k) (.bool false) [0,1,12] [[],[]]
noncomputable def cD1 (k:Wk):St:=mv xtQ (cWr k) (.tuple #[]) [7,8] [[0,1,4],[],[]]
noncomputable def cD2 (k:Wk):St:=mv xtQ (cD1 k) (.int .u64 1) [5] [[0,1,4,6,8],[],[]]
noncomputable def cD3 (k:Wk):St:=mv xtQ (cD2 k) (.int .u64 1) [6,7] [[0,4,8],[],[]]
noncomputable def cD4 (k:Wk):St:=mv xtQ (cD3 k) (.tuple #[]) [8,115] [[],[]]
noncomputable def cZ (k:Wk):St:=mv xtQ (cD1 k) (.int .u64 4294967296) [] []
theorem Zf7 (k:Wk) (sv:Bool) (wst:Int) (q:Value):((pn PP xt 200 (cQ k sv wst q true)).cut [0,3,8] [[],[],[2,3,4]],(pn PP xt 200 (cQ k sv wst q true)).cvs,(pn PP xt 200 (cQ k sv wst q true)).mks) = (cT1 k sv q,[],[]):=by kernel_rfl
theorem Zdb (k:Wk) (sv:Bool) (wst:Int) (q:Value):((pn PP xt 200 (cQ k sv wst q false)).cut [0,2,3,91,92] [[],[],[2,3,4]],(pn PP xt 200 (cQ k sv wst q false)).cvs,(pn PP xt 200 (cQ k sv wst q false)).mks) = (cS1 k sv wst q,[],[]):=by kernel_rfl
theorem e_in (k:Wk):edg xt (cIn k) (.slice (some ⟨k.D,0,none⟩) k.n k.c) [2,3,9] [] = (true,cI2 k,[],[]):=by kernel_rfl
theorem e_st (k:Wk):edg xt (cSt k) undef [0,5] [[],[]] = (true,cUl k,[],[]):=by kernel_rfl
theorem e_ul (k:Wk) (z:Int):edg xt (cUl k) (iw z) [0,13] [[],[]] = (true,cU0 k,[⟨k.N,0,none⟩],[⟨k.N,0,none⟩]):=by kernel_rfl
section
variable (k:Wk)
theorem e_w0:edg xtQ (cW3 k) (.bool false) [0,1,12] [[],[]] = (true,cWr k,[⟨k.W,0,none⟩],[]):=by kernel_rfl
theorem e_w1:edg xt (cW3 k) (.bool true) [0,5] [[],[2,3,4]] = (true,cL0 k,[],[]):=by kernel_rfl
theorem e_wr:edg xtQ (cWr k) (.tuple #[]) [7,8] [[0,1,4],[],[]] = (true,cD1 k,[],[]):=by kernel_rfl
theorem Zg4:edg xtQ (cD1 k) (.int .u64 0) [] [] = (true,cZ k,[],[]):=by kernel_rfl
theorem ZfY:edg xtQ (cD1 k) (.int .u64 4294967296) [] [] = (true,cZ k,[],[]):=by kernel_rfl
theorem ZfT:edg xtQ (cD1 k) (.int .u64 8589934592) [] [] = (true,cZ k,[],[]):=by kernel_rfl
theorem Zdn:edg xtQ (cD1 k) (.int .u64 4294967297) [] [] = (true,cZ k,[],[]):=by kernel_rfl
theorem ZbA:edg xtQ (cD1 k) (.int .u64 8589934593) [] [] = (true,cZ k,[],[]):=by kernel_rfl
theorem ZbZ:edg xtQ (cD1 k) (.int .u64 1) [5] [[0,1,4,6,8],[],[]] = (true,cD2 k,[],[]):=by kernel_rfl
theorem e_d2:edg xtQ (cD2 k) (.int .u64 1) [6,7] [[0,4,8],[],[]] = (true,cD3 k,[],[]):=by kernel_rfl
theorem e_d3:edg xtQ (cD3 k) (.tuple #[]) [8,115] [[],[]] = (true,cD4 k,[],[]):=by kernel_rfl
theorem e_d4:edg xtQ (cD4 k) (.tuple #[]) [] [] = (true,cZ k,[],[]):=by kernel_rfl
end
end Go.Proofs.YtfelljbfeoplhaaGreat.Ev
namespace Go.Proofs.YtfelljbfeoplhaaGreat.Ev
open Go Go.Proofs.YtfelljbfeoplhaaGreat.Lift
def sqL:Code → Code | .seq x _=>x | c=>c
def sqR:Code → Code | .seq _ y=>y | c=>c
noncomputable def cBlk:Code:=sqR (sqL (sqR (sqR (sqR (sqR (Z5Z 66))))))
noncomputable def Z6G:Code:=sqR (sqR (sqR (sqR (sqR (Z5Z 66)))))
def T0:Nat → Value:=fun _=>undef
def A42:List Nat:=[0,1,2,3,4,5,6,7,8,9,10,11,12,13,14,15,16,17,18,19,20,21,22,23,24,25,26,27,28,29,30,31,32,33,34,35,36,37,38,39,40,41]
noncomputable def edm (m:Nat) (X:Xt) (s:St) (ls:List (List Nat)):St × List Addr × List Addr:=((pn PP X m s).cut A42 ls,(pn PP X m s).cvs,(pn PP X m s).mks)
noncomputable def und (k:Wk) (td:List Item) (env:List (Nat × Value)):St:={ top:={ fn:=66,n:=42,env:=env,todo:=td,defs:=[],kind:=.normal,ret:=false },rest:=[],cvs:=[],mks:=[],deaf:=0 }
noncomputable def sM (k:Wk) (T:Nat → Value) (n:Int):St:=und k [.code cBlk,.code Z6G] [(0,T 0),(1,T 1),(2,T 2),(3,pa k.I 0),(4,T 4),(5,pa k.W 0),(6,pa k.N 0),(7,pa k.B 0),(8,T 8),(9,T 9),(10,T 10),(11,T 11),(12,T 12),(13,T 13),(14,T 14),(15,T 15),(16,T 16),(17,T 17),(18,T 18),(19,T 19),(20,qw n),(21,qw 0),(22,T 22),(23,T 23),(24,T 24),(25,T 25),(26,T 26),(27,T 27),(28,T 28),(29,T 29),(30,T 30),(31,T 31),(32,T 32),(33,T 33),(34,T 34),(35,T 35),(36,T 36),(37,T 37),(38,T 38),(39,T 39),(40,T 40),(41,T 41)]
noncomputable def tdMc:List Item:=(pn PP xtQ 7 (sM k0 T0 1)).top.todo
noncomputable def cMc (k:Wk) (T:Nat → Value) (n i:Int) (b:Bool) (x:Value) (u:Nat → Value):St:=und k tdMc [(0,T 0),(1,T 1),(2,T 2),(3,pa k.I 0),(4,T 4),(5,pa k.W 0),(6,pa k.N 0),(7,pa k.B 0),(8,x),(9,T 9),(10,T 10),(11,T 11),(12,T 12),(13,T 13),(14,T 14),(15,T 15),(16,T 16),(17,T 17),(18,T 18),(19,T 19),(20,qw n),(21,qw i),(22,.bool b),(23,u 23),(24,u 24),(25,u 25),(26,u 26),(27,T 27),(28,T 28),(29,T 29),(30,T 30),(31,T 31),(32,T 32),(33,T 33),(34,T 34),(35,T 35),(36,T 36),(37,T 37),(38,T 38),(39,T 39),(40,T 40),(41,T 41)]
noncomputable def tdMa:List Item:=(pn PP xtQ 200 (cMc k0 T0 1 0 true undef T0)).top.todo
noncomputable def cMa (k:Wk) (T:Nat → Value) (n i:Int) (x:Value) (u:Nat → Value):St:=und k tdMa [(0,T 0),(1,T 1),(2,T 2),(3,pa k.I 0),(4,T 4),(5,pa k.W 0),(6,pa k.N 0),(7,pa k.B 0),(8,x),(9,T 9),(10,T 10),(11,T 11),(12,T 12),(13,T 13),(14,T 14),(15,T 15),(16,T 16),(17,T 17),(18,T 18),(19,T 19),(20,qw n),(21,qw i),(22,.bool true),(23,qw i),(24,u 24),(25,u 25),(26,u 26),(27,T 27),(28,T 28),(29,T 29),(30,T 30),(31,T 31),(32,T 32),(33,T 33),(34,T 34),(35,T 35),(36,T 36),(37,T 37),(38,T 38),(39,T 39),(40,T 40),(41,T 41)]
noncomputable def tdMs:List Item:=(((cMa k0 T0 1 0 undef T0).an (pa 0 0))).top.todo
noncomputable def cMs (k:Wk) (T:Nat → Value) (n i:Int) (L:Nat) (u:Nat → Value):St:=und k tdMs [(0,T 0),(1,T 1),(2,T 2),(3,pa k.I 0),(4,T 4),(5,pa k.W 0),(6,pa k.N 0),(7,pa k.B 0),(8,pa L 0),(9,T 9),(10,T 10),(11,T 11),(12,T 12),(13,T 13),(14,T 14),(15,T 15),(16,T 16),(17,T 17),(18,T 18),(19,T 19),(20,qw n),(21,qw i),(22,.bool true),(23,qw i),(24,u 24),(25,u 25),(26,u 26),(27,T 27),(28,T 28),(29,T 29),(30,T 30),(31,T 31),(32,T 32),(33,T 33),(34,T 34),(35,T 35),(36,T 36),(37,T 37),(38,T 38),(39,T 39),(40,T 40),(41,T 41)]
noncomputable def mvm (X:Xt) (s:St) (v:Value) (l:List Nat) (ls:List (List Nat)):St:=(edg X s v l ls).2.1
noncomputable def cMd (k:Wk) (T:Nat → Value) (n i:Int) (L:Nat) (u:Nat → Value):St:=mvm xtQ (cMs k T n i L u) undef [7,8] [[0,1,4],A42]
noncomputable def cMr (k:Wk) (T:Nat → Value) (n i:Int) (L:Nat) (u:Nat → Value):St:=mvm xtQ (cMd k T n i L u) (.int .u64 4294967296) [0,1,4,6,7,8,71] [A42]
noncomputable def tdMg:List Item:=(pn PP xtQ 200 ((cMd k0 T0 1 0 0 T0).an (.int .u64 (8589934592)))).top.todo
noncomputable def cMg (k:Wk) (T:Nat → Value) (n i:Int) (L:Nat) (u:Nat → Value):St:=und k tdMg [(0,T 0),(1,T 1),(2,T 2),(3,pa k.I 0),(4,T 4),(5,pa k.W 0),(6,pa k.N 0),(7,pa k.B 0),(8,pa L 0),(9,T 9),(10,T 10),(11,T 11),(12,T 12),(13,T 13),(14,T 14),(15,T 15),(16,T 16),(17,T 17),(18,T 18),(19,T 19),(20,qw n),(21,qw i),(22,.bool true),(23,qw i),(24,.tuple #[]),(25,(.func (.func 113) #[] #[pa k.W 0,pa k.I 0,pa L 0,pa k.N 0,pa k.B 0])),(26,u 26),(27,T 27),(28,T 28),(29,T 29),(30,T 30),(31,T 31),(32,T 32),(33,T 33),(34,T 34),(35,T 35),(36,T 36),(37,T 37),(38,T 38),(39,T 39),(40,T 40),(41,T 41)]
noncomputable def cMw1 (k:Wk) (T:Nat → Value) (n i:Int) (x:Value) (u:Nat → Value):St:={ (pn PP xtQ 200 (cMc k T n i false x u)).cut [5] [[0],A42] with cvs:=[] }
noncomputable def cMw2 (k:Wk) (T:Nat → Value) (n i:Int) (x:Value) (v:Int) (u:Nat → Value):St:=mvm xtQ (cMw1 k T n i x u) (.int .u64 v) [9,10,11] [[0,2,4],A42]
noncomputable def cMq (k:Wk) (T:Nat → Value) (n i:Int) (x:Value) (u:Nat → Value):St:=mvm xtQ (cMw1 k T n i x u) (.int .u64 0) [0,2,4,22] [A42]
noncomputable def cMx (k:Wk) (T:Nat → Value) (n i:Int) (x:Value) (v:Int) (u:Nat → Value):St:=mvm xtQ (cMw2 k T n i x v u) (.bool true) [0,2,56] [A42]
noncomputable def cMw3 (k:Wk) (T:Nat → Value) (n i:Int) (x:Value) (u:Nat → Value):St:={ (mvm xtQ (cMx k T n i x 4294967296 u) (.tuple #[]) [0,70,71] [A42]) with cvs:=[] }
noncomputable def cMw4 (k:Wk) (T:Nat → Value) (n i:Int) (x:Value) (u:Nat → Value):St:=mvm xtQ (cMw3 k T n i x u) (.tuple #[]) [5] [[0],A42]
noncomputable def cMy (k:Wk) (T:Nat → Value) (n i:Int) (x:Value) (u:Nat → Value):St:=mvm xtQ (cMw4 k T n i x u) (.int .u64 0) [6,80] [A42]
noncomputable def tdMf:List Item:=(pn PP xtQ 200 ((cMq k0 T0 1 0 undef T0).an (.tuple #[]))).top.todo
noncomputable def cMf (k:Wk) (T:Nat → Value) (n i:Int) (x:Value) (u:Nat → Value):St:=und k tdMf [(0,T 0),(1,T 1),(2,T 2),(3,pa k.I 0),(4,T 4),(5,pa k.W 0),(6,pa k.N 0),(7,pa k.B 0),(8,x),(9,.slice none 0 0),(10,T 10),(11,T 11),(12,T 12),(13,T 13),(14,T 14),(15,T 15),(16,T 16),(17,T 17),(18,T 18),(19,T 19),(20,qw n),(21,qw i),(22,.bool false),(23,u 23),(24,u 24),(25,u 25),(26,u 26),(27,.tuple #[]),(28,T 28),(29,T 29),(30,T 30),(31,T 31),(32,T 32),(33,T 33),(34,T 34),(35,T 35),(36,T 36),(37,T 37),(38,T 38),(39,T 39),(40,T 40),(41,T 41)]
theorem Zh6 (k:Wk) (T:Nat → Value) (n:Int):edm 7 xtQ (sM k T n) [] = (cMc k T n 0 (decide (0 < n)) (T 8) T,[],[]):=by kernel_rfl
theorem Ziz (k:Wk) (T:Nat → Value) (n i:Int) (x:Value) (u:Nat → Value):edm 200 xtQ (cMc k T n i true x u) [] = (cMa k T n i x u,[],[]):=by kernel_rfl
theorem ZkJ (k:Wk) (T:Nat → Value) (n i:Int) (x:Value) (L:Nat) (u:Nat → Value):((cMa k T n i x u).ans (pa L 0)) = some ((cMa k T n i x u).an (pa L 0)) ∧ ((cMa k T n i x u).an (pa L 0)).cut A42 [] = cMs k T n i L u:=⟨by kernel_rfl,by kernel_rfl⟩
section
variable (k:Wk) (T:Nat → Value) (n i:Int) (L:Nat) (u:Nat → Value)
theorem Zip:edg xtQ (cMs k T n i L u) undef [7,8] [[0,1,4],A42] = (true,cMd k T n i L u,[],[]):=by kernel_rfl
theorem Zfq:edg xtQ (cMd k T n i L u) (.int .u64 4294967296) [0,1,4,6,7,8,71] [A42] = (true,cMr k T n i L u,[⟨k.W,1,none⟩],[]):=by kernel_rfl
theorem ZfB:edg xtQ (cMd k T n i L u) (.int .u64 (8589934592)) A42 [] = (true,cMg k T n i L u,[],[]):=by kernel_rfl
theorem Zg5:edg xtQ (cMd k T n i L u) (.int .u64 (12884901888)) A42 [] = (true,cMg k T n i L u,[],[]):=by kernel_rfl
theorem Zg1:edg xtQ (cMr k T n i L u) (.tuple #[]) A42 [] = (true,cMg k T n i L u,[],[]):=by kernel_rfl
theorem m_go:edgN 12 xtQ (cMg k T n i L u) undef A42 [] = (true,cMc k T n (IntKind.i64.wrap (i + 1)) (decide (IntKind.i64.wrap (i + 1) < n)) (pa L 0) (fun j=>if j = 23 then qw i else if j = 24 then .tuple #[] else if j = 25 then (.func (.func 113) #[] #[pa k.W 0,pa k.I 0,pa L 0,pa k.N 0,pa k.B 0]) else qw (IntKind.i64.wrap (i + 1))),[],[]):=by kernel_rfl
end
section
variable (k:Wk) (T:Nat → Value) (n i:Int) (x:Value) (u:Nat → Value)
theorem Zi0:((pn PP xtQ 200 (cMc k T n i false x u)).cut [5] [[0],A42],(pn PP xtQ 200 (cMc k T n i false x u)).cvs,(pn PP xtQ 200 (cMc k T n i false x u)).mks) = (cMw1 k T n i x u,[],[]):=by kernel_rfl
theorem Zfk:edg xtQ (cMw1 k T n i x u) (.int .u64 0) [0,2,4,22] [A42] = (true,cMq k T n i x u,[⟨k.W,0,none⟩],[]):=by kernel_rfl
theorem ZfV:edg xtQ (cMw1 k T n i x u) (.int .u64 4294967296) [9,10,11] [[0,2,4],A42] = (true,cMw2 k T n i x 4294967296 u,[],[]):=by kernel_rfl
theorem ZfE:edg xtQ (cMw1 k T n i x u) (.int .u64 8589934592) [9,10,11] [[0,2,4],A42] = (true,cMw2 k T n i x 8589934592 u,[],[]):=by kernel_rfl
theorem ZfA:edg xtQ (cMw1 k T n i x u) (.int .u64 12884901888) [9,10,11] [[0,2,4],A42] = (true,cMw2 k T n i x 12884901888 u,[],[]):=by kernel_rfl
theorem Zh7:edg xtQ (cMw2 k T n i x 4294967296 u) (.bool false) [5] [[0],A42] = (true,cMw1 k T n i x u,[],[]):=by kernel_rfl
theorem Zgs:edg xtQ (cMw2 k T n i x 8589934592 u) (.bool false) [5] [[0],A42] = (true,cMw1 k T n i x u,[],[]):=by kernel_rfl
theorem ZhL:edg xtQ (cMw2 k T n i x 12884901888 u) (.bool false) [5] [[0],A42] = (true,cMw1 k T n i x u,[],[]):=by kernel_rfl
theorem ZiQ:edg xtQ (cMw2 k T n i x 4294967296 u) (.bool true) [0,2,56] [A42] = (true,cMx k T n i x 4294967296 u,[⟨k.W,1,none⟩],[]):=by kernel_rfl
theorem ZiE:edg xtQ (cMw2 k T n i x 8589934592 u) (.bool true) [0,2,56] [A42] = (true,cMx k T n i x 8589934592 u,[⟨k.W,1,none⟩],[]):=by kernel_rfl
theorem ZjM:edg xtQ (cMw2 k T n i x 12884901888 u) (.bool true) [0,2,56] [A42] = (true,cMx k T n i x 12884901888 u,[⟨k.W,1,none⟩],[]):=by kernel_rfl
theorem ZkY:edg xtQ (cMx k T n i x 4294967296 u) (.tuple #[]) [0,70,71] [A42] = (true,cMw3 k T n i x u,[],[]):=by kernel_rfl
theorem ZkV:edg xtQ (cMx k T n i x 8589934592 u) (.tuple #[]) [0,70,71] [A42] = (true,cMw3 k T n i x u,[],[]):=by kernel_rfl
theorem ZkG:edg xtQ (cMx k T n i x 12884901888 u) (.tuple #[]) [0,70,71] [A42] = (true,cMw3 k T n i x u,[],[]):=by kernel_rfl
theorem m_w3:edg xtQ (cMw3 k T n i x u) (.tuple #[]) [5] [[0],A42] = (true,cMw4 k T n i x u,[],[]):=by kernel_rfl
theorem m_w4:edg xtQ (cMw4 k T n i x u) (.int .u64 0) [6,80] [A42] = (true,cMy k T n i x u,[⟨k.W,0,none⟩],[]):=by kernel_rfl
theorem m_q:edg xtQ (cMq k T n i x u) (.tuple #[]) A42 [] = (true,cMf k T n i x u,[],[]):=by kernel_rfl
theorem m_y:edg xtQ (cMy k T n i x u) (.tuple #[]) A42 [] = (true,cMf k T n i x u,[],[]):=by kernel_rfl
end
end Go.Proofs.YtfelljbfeoplhaaGreat.Ev
