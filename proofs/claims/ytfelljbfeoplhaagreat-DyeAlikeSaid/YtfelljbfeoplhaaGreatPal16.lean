/- Parts of a proof: Dkv, LAl, Zk, FrDyeAlike, ClDyeAlike. No conditions. -/
import Derived.Below
import Derived.ChangeOld
import Derived.Conc.Holds
import Derived.Conc.HoldsTime
import Derived.Leaving
import Derived.OpenShut
import Derived.ProofKit
import Derived.ShutString
import Derived.WalkKit
import Derived.Test.YtfelljbfeoplhaaGreatPal1
import Derived.Test.YtfelljbfeoplhaaGreatPal11
import Derived.Test.YtfelljbfeoplhaaGreatPal12
import Derived.Test.YtfelljbfeoplhaaGreatPal15
set_option linter.unusedVariables false
set_option linter.unusedSimpArgs false
set_option linter.unusedSectionVars false
set_option maxRecDepth 100000
set_option maxHeartbeats 4000000
variable {w:Go.World} {base c n:Nat} {a:Option Go.Addr} {e:Go.TypeId} {S:Nat → Prop}
namespace Go.Proofs.YtfelljbfeoplhaaGreat
open Go.RowKit
variable {μ:Nat}
theorem Z7S {B:Int}:∀ (ds met:List (List Int)),(∀ d ∈ ds,numE d B 9 = 0) → (met ++ ds).Nodup → dyeE B met ds = 0
 | [],_,_,_=>rfl
 | d :: ds,met,h,hn=>by
  rw [dyeE,if_neg (by simp [h d (by simp)])];have h1:d ∉ met:=fun hm=>by
   rw [List.nodup_append] at hn;exact hn.2.2 d hm d (by simp) rfl
  rw [if_neg h1];exact Z7S ds (met ++ [d]) (fun e he=>h e (by simp [he])) (by simpa using hn)
theorem Z5D {B:Int}:∀ (ls:List (List Int)),(∀ l ∈ ls,numE l B 3 = 0 ∧ l.sum ≠ 0) → Z1L B ls = 0
 | [],_=>rfl
 | l :: ls,h=>by
  obtain ⟨h1,h2⟩:=h l (by simp);rw [Z1L,if_neg (by simp [h1]),if_neg h2];exact Z5D ls fun m hm=>h m (by simp [hm])
theorem Zib {x:Vm} (b1:1 ≤ x.B) (b3:x.B ≤ 3) (d1:1 ≤ x.D.length) (d4:x.D.length ≤ 4) (dl:∀ p ∈ x.D,(p.2.length:Int) = x.B ∧ ∀ n ∈ p.2,0 ≤ n ∧ n ≤ 9) (nd:(x.D.map (·.2)).Nodup) (l1:1 ≤ x.L.length) (l3:x.L.length ≤ 3) (ll:∀ p ∈ x.L,(p.2.length:Int) = x.B ∧ ∀ n ∈ p.2,0 ≤ n ∧ n ≤ 3) (ls:∀ p ∈ x.L,p.2.sum ≠ 0) (t0:0 ≤ x.tol) (t12:x.tol ≤ 12):VOk x:=by
 refine ⟨?_,b1,b3,d1,d4,dl,l1,l3,ll,t0,t12⟩;have h2:sizE ((x.D.map (·.2)).length:Nat) 4 = 0:=Z8c (by simp;omega) (by simp;omega);have h4:sizE ((x.L.map (·.2)).length:Nat) 3 = 0:=Z8c (by simp;omega) (by simp;omega);have h3:dyeE x.B [] (x.D.map (·.2)) = 0:=Z7S _ _ (fun d hd=>by obtain ⟨p,hp,rfl⟩:=List.mem_map.1 hd;exact Z8a (dl p hp).1 (dl p hp).2) (by simpa using nd);have h5:Z1L x.B (x.L.map (·.2)) = 0:=Z5D _ (fun d hd=>by obtain ⟨p,hp,rfl⟩:=List.mem_map.1 hd;exact ⟨Z8a (ll p hp).1 (ll p hp).2,ls p hp⟩);rw [chk6 (Z28.2 ⟨b1,b3⟩) h2 h3 h4 h5,Z28.2 ⟨t0,t12⟩]
 rfl
theorem Zeh {size m: Nat} {cs:List Value} (h:w.ownsRow base e size (.slice a m c) n cs): n ≤ c:=by
 rcases h.2 with ⟨hv,hn⟩ | ⟨g,cap,cur,hv,-,-,hn,-⟩
 ·injection hv with h1 h2 h3;omega
 ·injection hv with h1 h2 h3;omega
theorem ZhU {W: World} {b b2: Nat} {M:List (Value × List Int)} (oo:w.ownsRow base 22 1 (.slice a M.length c) M.length (M.map (·.1))) (fam:FamT w b2 M) (e:Ext [b] w W) (h1:b < base) (h2:b < b2): Z0y W a M:=
 Z3M (Z0n oo e (by simpa using h1)) (Z0I fam fun v n xs h=>Z0n h e (by simpa using h2))
def Zh0 (dm:Nat) (w0:World) (b k:Nat) (nv:Value) (w:World) (e:Ending) (w':World):Prop:=∃ x:Vm,e = .returned (.agg #[.int .i64 x.B,.slice x.da x.D.length x.dc,.slice x.la x.L.length x.lc,.int .i64 x.tol]) ∧ VOk x ∧ (x.D.length ≤ dm ∧ x.D.length ≤ x.dc) ∧ AtB b x w' ∧ Zh w0 w' b (k + 100) nv ∧ Ext [b] w w'
theorem Zdi (dm:Nat) (hdm1:1 ≤ dm) (hdm:dm ≤ 4) (w0 w:World) (b k:Nat) (nv:Value) (h:Zh w0 w b k nv) (hk:k ≤ 800000) :
  Calls (Qy.prog μ) 13 #[.pointer (some ⟨b,0,none⟩),.int .i64 ((dm:Nat):Int)] w (Zh0 dm w0 b k nv w):=by
 have HL:=h;have hbw:=Z2N HL;have hb0:=HL.1;have hws:w0.heap.size ≤ w.heap.size:=HL.2.2.1.size;have E:Ext [b] w w:=Ext.refl _ _;clear h;have G:=((Bk.nil w).cl HL).ce E;refine (ent 66 Tryz.f13 rfl) fun F=>wR fun k1=>(F.al G Qy.zeroValue27) @fun n4 w1 _ yy F G=>k1 <|wR fun k2=>(F.m) fun F=>(F.k (Z7M w0 _ b _ nv 1 3 (G.l 2) (by omega) (by omega) (by omega) (by omega) (by omega))) ?_
 rintro _ w2 ⟨bz,rfl,hbz1,hbz2,HL,e9⟩;refine ⟨_,rfl,fun F=>?_⟩;replace G:=G.xl 2 e9 HL;obtain ⟨bn,rfl⟩:=Int.eq_ofNat_of_zero_le (show 0 ≤ bz by omega);refine (F.m) fun F=>(F.m) fun F=>(F.k (Z1e w0 _ b _ nv 6 (G.l 2) (by omega) (by omega) (by omega))) ?_;rintro _ w3 ⟨u,rfl,hu0,hu1,HL,e9⟩;refine ⟨_,rfl,fun F=>?_⟩;replace G:=G.xl 2 e9 HL;refine (F.bs G 1 #[.int .i64 0,.int .i64 1,.int .i64 1,.int .i64 2,.int .i64 u] Qy.zeroValue3) @fun n15 w4 _ yy F G=>(F.k (Zfl w0 _ b _ nv n15 _ [0,1,1,2,u] (G.l 3) (by omega) (G.q 0) (by omega) (by simp) (by simp))) ?_;rintro _ w5 ⟨tl,rfl,htm,HL,e9⟩;refine ⟨_,rfl,fun F=>?_⟩;replace G:=G.xl 3 e9 HL;have htl:0 ≤ tl ∧ tl ≤ 6:=by simp only [List.mem_cons,List.not_mem_nil,or_false] at htm;omega
 replace G:=G.d 0;refine (F.y (F.bv #[.int .i64 ((bn:Nat):Int),.slice none 0 0,.slice none 0 0,.int .i64 tl])) fun F=>(F.al G Qy.zeroValue27) @fun n5 w6 _ yy F G=>(F.sr G 0) fun G=>k2 <|wQ fun k3=>wR fun k4=>(F.m) fun F=>(F.m) fun F=>(F.k (Z7M w0 _ b _ nv 1 ((dm:Nat):Int) (G.l 3) (by omega) (by omega) (by omega) (by omega) (by omega))) ?_
 rintro _ w8 ⟨n,rfl,hn1,hn2,HL,e9⟩;refine ⟨_,rfl,fun F=>?_⟩;replace G:=G.xl 3 e9 HL;refine (F.m) fun F=>?_;rw [show n = n - ((0:Nat):Int) by omega] at F;have hb4:=Z3 (G.q 1);have hb5:=Z3 (G.q 0);have hbb:=Z2N (G.l 3);have hwR0:w.heap.size ≤ w8.heap.size:=by exact (G.e 2).size
 have oo:w8.ownsRow w8.heap.size 22 1 (.slice none 0 0) 0 (([]:List (Value × List Int)).map (·.1)):=World.ownsRow_nil _ _ _ _;have fam:FamT w8 w8.heap.size []:=Zca _ _;replace G:=((G.hr [b,n5]).co oo).cf fam;refine k4 <|wp_block ?_
 replace G:=G.rL 6 (show Zh w0 w8 b (k + 4 + 10 * 0) nv from ZF (G.l 6) (by omega));refine lpB (F.b [0,4,5]) (G.b [2,4,5]) (dm) (fun i Lv Sv W=>∃ da:Option Addr,∃ dc:Nat,∃ O:List (Value × List Int),Lv = [(6,.int .i64 (n - ((i:Nat):Int)))] ∧ Sv = [.q n5 (#[.int .i64 ((bn:Nat):Int),.slice da O.length dc,.slice none 0 0,.int .i64 tl]) 27,.l w0 b (k + 4 + 10 * i) nv] ∧ W.ownsRow w8.heap.size 22 1 (.slice da O.length dc) O.length (O.map (·.1)) ∧ FamT W w8.heap.size O ∧ (∀ p ∈ O,(p.2.length:Int) = bn ∧ ∀ m ∈ p.2,0 ≤ m ∧ m ≤ 9) ∧ (O.map (·.2)).Nodup ∧ O.length ≤ i ∧ (0 < i → 0 < O.length) ∧ (i:Int) ≤ n) ⟨_,_,F.u,G.u,none,0,[],rfl,rfl,(G.o 1),(G.f 0),(by simp),(by simp),(by simp),(by simp),(by omega)⟩ ?_;clear F G;rintro i _ w9 _ _ hi1 ⟨da,dc,O,rfl,rfl,oo,fam,hOB,hnd,hOl,hO1,hin⟩ F G;replace G:=((G.z).co oo).cf fam;refine wQ fun k5=>wR fun k6=>(F.m) fun F=>(F.y F.gt) fun F=>k6 <|F.ci (fun hc22=>?_) (fun hc22=>?_)
 ·refine wp_skip <|k5 <|wQ fun k7=>wp_block <|wR fun k8=>(F.m) fun F=>(F.y (F.fd 0)) fun F=>(F.y (F.lc (G.q 2))) fun F=>?_
  have fam:=G.f 0;have hflt:=Lib.hid (ZfF fam);obtain ⟨B1,hB1⟩:∃ B1,B1 = w9.heap.size:=⟨_,rfl⟩;rw [← hB1] at hflt;have hB1w:w8.heap.size ≤ B1:=by rw [hB1];exact (G.e 4).size
  refine (F.k (Z4M w0 _ b _ nv bn 9 (G.l 3) (by omega) (by omega) (by omega) (by omega))) ?_;rintro _ w10 ⟨ra,rc,xs,rfl,hxl,hxb,ro,HL,e9⟩;refine ⟨_,rfl,fun F=>?_⟩;replace G:=G.xl 3 e9 HL;rw [← hB1] at ro;replace G:=G.co ro;refine (F.m) fun F=>k8 <|wR fun k9=>(F.y (F.fd 1)) fun F=>(F.y (F.lc (G.q 3))) fun F=>(F.m) fun F=>?_
  have ro:=G.o 0;have fam:=G.f 1;have oo:=G.o 2;have hin2:=ZdL (μ:=μ) O xs da ra dc rc w10 (Z3M oo fam) (by rw [hxl];exact Zv ro hxl.symm) (by omega) (fun p hp=>by have:=(hOB p hp).1;omega) (by omega);rw [hxl] at hin2;refine (F.k (hin2)) ?_;rintro _ w11 ⟨rfl,e9⟩;refine ⟨_,rfl,fun F=>?_⟩;replace G:=G.ex e9;clear hin2;refine (F.y F.nd) fun F=>k9 <|F.ci (fun hc33=>?_) (fun hc33=>?_)
  ·have ro:=G.o 0
   have fam:=G.f 1;have fam2:=Za1 (Z9k (b1:=B1) (L:=[(Value.slice ra bn rc,xs)]) ⟨fun p hp=>(by obtain rfl:p = (Value.slice ra bn rc,xs):=(by simpa using hp);rw [show ((Value.slice ra bn rc,xs):Value × List Int).2.length = bn from hxl];exact ro),List.pairwise_singleton _ _⟩ fam hflt.out hB1w) (M:=O ++ [(Value.slice ra bn rc,xs)]) List.perm_append_comm;have fam:=fam2;clear fam2;obtain ⟨P,hP⟩:∃ P,P = O ++ [(Value.slice ra bn rc,xs)]:=⟨_,rfl⟩;have hPl:O.length + 1 = P.length:=by rw [hP,List.length_append];rfl
   rw [← hP] at fam;have hPB:∀ p ∈ P,(p.2.length:Int) = bn ∧ ∀ m ∈ p.2,0 ≤ m ∧ m ≤ 9:=by intro p hp;rw [hP] at hp;rcases List.mem_append.1 hp with hp | hp;(· exact hOB p hp);(· simp only [List.mem_cons,List.not_mem_nil,or_false] at hp;subst hp;exact ⟨by show ((xs.length:Nat):Int) = _;omega,hxb⟩)
   have hPn:(P.map (·.2)).Nodup:=by rw [hP,List.map_append,List.nodup_append];exact ⟨hnd,by simp,fun y hy z hz=>by simp only [List.map_cons,List.map_nil,List.mem_cons,List.not_mem_nil,or_false] at hz;subst hz;intro e;subst e;exact hc33 hy⟩
   replace G:=G.rF 1 fam;clear fam;refine wG <|(F.y (F.fd 1)) fun F=>(F.y (F.lc (G.q 3))) fun F=>(F.m) fun F=>(F.bs G 1 #[.slice ra bn rc] Qy.zeroValue22) fun yy F G=>?_
   have hEs:=(G.e 6).size;have ro:=G.o 1;replace G:=G.d 1;refine ZI F rfl (by decide) (F.want rfl) (ZZ rfl (w8.heap.size) (e:=22) (size:=1) (bytes:=24) Qy.underlying25 (by kernel_rfl) (by decide) (F.at rfl) (G.o 2) (F.at rfl) (G.q 0) rfl (by simp [Value.oneCell']) (by omega) (by omega) (by omega)) ?_;clear F;rintro _ v' w13 F ⟨hown',hg⟩;obtain ⟨va38,vc38,rfl⟩:=Zt hown';replace G:=(G.d 0).gr 1 hg hown';clear hg hown';have oo:=G.o 1;rw [show O.map (·.1) ++ [Value.slice ra bn rc] = P.map (·.1) by rw [hP,List.map_append];rfl,hPl] at oo;rw [hPl] at F;replace hOB:=hPB;replace hnd:=hPn;replace hOl:P.length ≤ i + 1:=by omega
   replace hO1:0 < i + 1 → 0 < P.length:=fun _=>by omega
   replace G:=G.rO 1 oo;clear oo;refine (F.y (F.fd 1)) fun F=>(F.st G 2) @fun w14 G=>k7 <|wp_region_lit <|(F.m) fun F=>(F.y F.sb) fun F=>?_
   rw [show n - ((i:Nat):Int) - 1 = n - ((i + 1:Nat):Int) by omega] at F;refine (F.m) fun F=>?_;replace G:=G.rL 3 (show Zh w0 w14 b (k + 4 + 10 * (i + 1)) nv from ZF (G.l 3) (by omega));show _ ∧ _;exact ⟨by omega,_,_,F.u,G.u,_,_,_,rfl,rfl,(G.o 1),(G.f 0),hOB,hnd,hOl,hO1,(by omega)⟩
  ·have hOne:0 < O.length:=by have:=Classical.not_not.1 hc33;rcases O with _ | ⟨p,O⟩;(· simp at this);(· simp)
   replace hOl:O.length ≤ i + 1:=by omega
   replace hO1:0 < i + 1 → 0 < O.length:=fun _=>hOne;refine wp_skip <|k7 <|wp_region_lit <|(F.m) fun F=>(F.y F.sb) fun F=>?_
   rw [show n - ((i:Nat):Int) - 1 = n - ((i + 1:Nat):Int) by omega] at F;refine (F.m) fun F=>?_;replace G:=G.rL 4 (show Zh w0 w11 b (k + 4 + 10 * (i + 1)) nv from ZF (G.l 4) (by omega));show _ ∧ _;exact ⟨by omega,_,_,F.u,G.u,_,_,_,rfl,rfl,(G.o 2),(G.f 1),hOB,hnd,hOl,hO1,(by omega)⟩
 ·refine wp_exit <|k3 <|wQ fun k10=>wQ fun k11=>?_
  have oo:=G.o 1;have hdcap:=Zeh oo;have fam:=G.f 0;have hDl:∀ W,Ext [b,n4,n5] w9 W → Z0y W da O:=fun W e=>Z3M (Z0n oo e (by simp;omega)) (Z0I fam fun v n xs h=>Z0n h e (by simp;omega));have HDl:=Lib.hid hDl;clear hDl;have hwL0:w.heap.size ≤ w9.heap.size:=by exact (G.e 6).size
  replace G:=G.hr [b,n4,n5];refine wG <|(F.m) fun F=>?_
  have fam:=G.f 1;have oo:=G.o 2;replace G:=G.b [0,3,4,6,7];refine (F.k (Z7M w0 _ b _ nv 1 3 (G.l 2) (by omega) (by omega) (by omega) (by omega) (by omega))) ?_;rintro _ w15 ⟨m,rfl,hm1,hm2,HL,e9⟩;refine ⟨_,rfl,fun F=>?_⟩;replace G:=G.xl 2 e9 HL;refine (F.m) fun F=>?_;rw [show m = m - ((0:Nat):Int) by omega] at F;have oo:w15.ownsRow w9.heap.size 22 1 (.slice none 0 0) 0 (([]:List (Value × List Int)).map (·.1)):=World.ownsRow_nil _ _ _ _;have fam:FamT w15 w9.heap.size []:=Zca _ _;have hOd:O.length ≤ dm:=by omega
  replace hO1:0 < O.length:=hO1 (by omega);replace G:=(G.co oo).cf fam;refine k11 <|wp_block ?_
  replace G:=G.rL 4 (show Zh w0 w15 b (k + 5 + 10 * dm + 10 * 0) nv from ZF (G.l 4) (by omega));refine lpB (F.b [0,4,5]) (G.b [2,5,6]) (3) (fun j Lv Sv W=>∃ la:Option Addr,∃ lc:Nat,∃ Q:List (Value × List Int),Lv = [(8,.int .i64 (m - ((j:Nat):Int)))] ∧ Sv = [.q n5 (#[.int .i64 ((bn:Nat):Int),.slice da O.length dc,.slice la Q.length lc,.int .i64 tl]) 27,.l w0 b (k + 5 + 10 * dm + 10 * j) nv] ∧ W.ownsRow w9.heap.size 22 1 (.slice la Q.length lc) Q.length (Q.map (·.1)) ∧ FamT W w9.heap.size Q ∧ (∀ p ∈ Q,(p.2.length:Int) = bn ∧ ∀ m ∈ p.2,0 ≤ m ∧ m ≤ 3) ∧ (∀ p ∈ Q,p.2.sum ≠ 0) ∧ Q.length = j ∧ (j:Int) ≤ m) ⟨_,_,F.u,G.u,none,0,[],rfl,rfl,(G.o 1),(G.f 0),(by simp),(by simp),rfl,(by omega)⟩ ?_;clear F G;rintro j _ w16 _ _ hi2 ⟨la,lc,Q,rfl,rfl,oo,fam,hQB,hQs,hQl,hjm⟩ F G;replace G:=((G.z).co oo).cf fam;refine wQ fun k12=>wR fun k13=>(F.m) fun F=>(F.y F.gt) fun F=>k13 <|F.ci (fun hc43=>?_) (fun hc43=>?_)
  ·refine wp_skip <|k12 <|wQ fun k14=>wp_block <|wR fun k15=>(F.m) fun F=>(F.y (F.fd 0)) fun F=>(F.y (F.lc (G.q 2))) fun F=>?_
   have fam:=G.f 0;have hflt:=Lib.hid (ZfF fam);obtain ⟨B1,hB1⟩:∃ B1,B1 = w16.heap.size:=⟨_,rfl⟩;rw [← hB1] at hflt;have hB1w:w9.heap.size ≤ B1:=by rw [hB1];exact (G.e 4).size
   refine (F.k (Z4M w0 _ b _ nv bn 3 (G.l 3) (by omega) (by omega) (by omega) (by omega))) ?_;rintro _ w17 ⟨ra,rc,xs,rfl,hxl,hxb,ro,HL,e9⟩;refine ⟨_,rfl,fun F=>?_⟩;replace G:=G.xl 3 e9 HL;rw [← hB1] at ro;replace G:=G.co ro;refine (F.m) fun F=>k15 <|wR fun k16=>(F.m) fun F=>(F.m) fun F=>(F.y (F.fd 0)) fun F=>(F.y (F.lc (G.q 3))) fun F=>(F.y F.sb) fun F=>(F.k (Z1e w0 _ b _ nv (((bn:Nat):Int) - 1) (G.l 4) (by omega) (by omega) (by omega))) ?_
   rintro _ w18 ⟨v,rfl,hv0,hv1,HL,e9⟩;refine ⟨_,rfl,fun F=>?_⟩;replace G:=G.xl 4 e9 HL;obtain ⟨v,rfl⟩:=Int.eq_ofNat_of_zero_le hv0;refine (F.m) fun F=>(F.k (Z7M w0 _ b _ nv 1 3 (G.l 4) (by omega) (by omega) (by omega) (by omega) (by omega))) ?_;rintro _ w19 ⟨z,rfl,hz1,hz2,HL,e9⟩;refine ⟨_,rfl,fun F=>?_⟩;replace G:=G.xl 4 e9 HL;have ro:=G.o 0;have HS:=Lib.hid (Z0b ro hxl.symm [] (by simp));have hil:=Z2q xs;replace G:=G.hr [];obtain ⟨xb17,xo17,xa17,xr17⟩:=HS.out v (by omega);refine (F.y (F.is 1 xa17)) fun F=>?_;replace G:=G.d 0;obtain ⟨⟨u0,hcu⟩,hfu,hst⟩:=Z3H (G.o 0) xa17 (j:=v) (p:=xo17 + ((v:Nat):Int).toNat * 1) (by first | omega | (simp;omega)) (by omega);refine Z1j rfl (F.want rfl) (ZS rfl (F.at rfl) (F.at rfl) rfl (by kernel_rfl) hcu hfu) ?_;intro w20 hw;obtain ⟨hown',hg⟩:=hst _ _ hw;have ro:=(G.o 0);have fam:=G.f 1;replace G:=G.d 1;replace fam:=Zcj fam hflt.out ro hg;replace G:=(G.gr 0 hg hown').cf fam;clear hst hcu hfu hw hg hown';have ro:=G.o 1;rw [Z2r] at ro;replace G:=G.rO 1 ro;clear ro;obtain ⟨ys,hys⟩:∃ ys,ys = xs.set v z:=⟨_,rfl⟩;have hyl:ys.length = bn:=by rw [hys,List.length_set];exact hxl
   have hyb:∀ q ∈ ys,0 ≤ q ∧ q ≤ 3:=by intro q hq;rw [hys] at hq;rcases List.mem_or_eq_of_mem_set hq with hq | rfl;(· exact hxb q hq);(· omega)
   have hysum:ys.sum ≠ 0:=by have h1:=Zbl (xs:=ys) (fun q hq=>(hyb q hq).1) z (by rw [hys];exact List.mem_set (by omega) z);omega
   have ro:=G.o 1;rw [← hys] at ro;replace G:=G.rO 1 ro;clear ro;refine k16 ?_;have fam:=G.f 0;have ro:=G.o 1;have fam2:=Za1 (Z9k (b1:=B1) (L:=[(Value.slice ra bn rc,ys)]) ⟨fun p hp=>(by obtain rfl:p = (Value.slice ra bn rc,ys):=(by simpa using hp);rw [show ((Value.slice ra bn rc,ys):Value × List Int).2.length = bn from hyl];exact ro),List.pairwise_singleton _ _⟩ fam hflt.out hB1w) (M:=Q ++ [(Value.slice ra bn rc,ys)]) List.perm_append_comm;have fam:=fam2;clear fam2;obtain ⟨P,hP⟩:∃ P,P = Q ++ [(Value.slice ra bn rc,ys)]:=⟨_,rfl⟩;have hPl:Q.length + 1 = P.length:=by rw [hP,List.length_append];rfl
   rw [← hP] at fam;have hPB:∀ p ∈ P,(p.2.length:Int) = bn ∧ ∀ m ∈ p.2,0 ≤ m ∧ m ≤ 3:=by intro p hp;rw [hP] at hp;rcases List.mem_append.1 hp with hp | hp;(· exact hQB p hp);(· simp only [List.mem_cons,List.not_mem_nil,or_false] at hp;subst hp;exact ⟨by show ((ys.length:Nat):Int) = _;omega,hyb⟩)
   have hPs:∀ p ∈ P,p.2.sum ≠ 0:=by intro p hp;rw [hP] at hp;rcases List.mem_append.1 hp with hp | hp;(· exact hQs p hp);(· simp only [List.mem_cons,List.not_mem_nil,or_false] at hp;subst hp;exact hysum)
   replace G:=G.rF 0 fam;clear fam;refine wG <|(F.y (F.fd 2)) fun F=>(F.y (F.lc (G.q 3))) fun F=>(F.m) fun F=>(F.bs G 1 #[.slice ra bn rc] Qy.zeroValue22) fun yy F G=>?_
   have hEs:=(G.e 6).size;replace G:=G.d 2;refine ZI F rfl (by decide) (F.want rfl) (ZZ rfl (w9.heap.size) (e:=22) (size:=1) (bytes:=24) Qy.underlying25 (by kernel_rfl) (by decide) (F.at rfl) (G.o 2) (F.at rfl) (G.q 0) rfl (by simp [Value.oneCell']) (by omega) (by omega) (by omega)) ?_;clear F;rintro _ v' w22 F ⟨hown',hg⟩;obtain ⟨va63,vc63,rfl⟩:=Zt hown';replace G:=(G.d 0).gr 1 hg hown';clear hg hown';have oo:=G.o 1;rw [show Q.map (·.1) ++ [Value.slice ra bn rc] = P.map (·.1) by rw [hP,List.map_append];rfl,hPl] at oo;rw [hPl] at F;replace hQB:=hPB;replace hQs:=hPs;replace hQl:P.length = j + 1:=by omega
   replace G:=G.rO 1 oo;clear oo;refine (F.y (F.fd 2)) fun F=>(F.st G 2) @fun w23 G=>k14 <|wp_region_lit <|(F.m) fun F=>(F.y F.sb) fun F=>?_
   rw [show m - ((j:Nat):Int) - 1 = m - ((j + 1:Nat):Int) by omega] at F;refine (F.m) fun F=>?_;replace G:=G.rL 3 (show Zh w0 w23 b (k + 5 + 10 * dm + 10 * (j + 1)) nv from ZF (G.l 3) (by omega));show _ ∧ _;exact ⟨by omega,_,_,F.u,G.u,_,_,_,rfl,rfl,(G.o 1),(G.f 0),hQB,hQs,hQl,(by omega)⟩
  ·refine wp_exit <|k10 <|wR fun k18=>(F.y (F.lb (G.q 2))) fun F=>(F.sr G 5) fun G=>k18 ?_
   refine (F.rg (rs_c F rfl rfl Qy.underlying27 rfl (by kernel_rfl) (G.q 5))) ?_;have hbL:b < w9.heap.size:=by omega
   have fam:=G.f 0;have oo:=G.o 1;refine ⟨{ B:=((bn:Nat):Int),D:=O,da:=da,dc:=dc,L:=Q,la:=la,lc:=lc,tol:=tl },rfl,Zib (by simp only;omega) (by simp only;omega) (by simp only;omega) (by simp only;omega) hOB hnd (by simp only;omega) (by simp only;omega) hQB hQs (by simp only;omega) (by simp only;omega),⟨hOd,hdcap⟩,fun W e=>⟨HDl.out W ((G.e 4).trans (e.mono (by simp))),ZhU oo fam e hbL hbL⟩,ZF (G.l 3) (by omega),(G.e 6)⟩
end Go.Proofs.YtfelljbfeoplhaaGreat
namespace Go.Proofs.YtfelljbfeoplhaaGreat
open Go.RowKit Go.Proofs.YtfelljbfeoplhaaGreat.Ev
variable {μ:Nat}
theorem Z6F (a0:Option Addr) (len0 cap0:Nat) (z0:List Int) (w:World) (h:ZaL .i64 w a0 len0 cap0 z0):Calls (Qy.prog 0) 3 #[.slice a0 len0 cap0] w fun e w'=>LawE e w':=by
 have E:Ext [] w w:=Ext.refl _ _;have G:=(Bk.nil w).ce E;refine (ent 147 Tryz.f3 rfl) fun F=>wR fun k1=>(F.m) fun F=>k1 <|wR fun k2=>(F.m) fun F=>(F.k (Z8R (μ:=0) w a0 len0 cap0 z0 h)) ?_
 rintro _ w1 ⟨b,rfl,hbw0,hbw1,HL,e9⟩;refine ⟨_,rfl,fun F=>?_⟩;replace G:=(G.ex e9).cl HL;refine (F.m) fun F=>k2 <|wR fun k3=>(F.m) fun F=>(F.k (Zdi (μ:=0) 4 (by decide) (by decide) w _ b _ _ (G.l 0) (by omega))) ?_
 rintro _ w2 ⟨x,rfl,hv,hd3,hxb,HL,e9⟩;refine ⟨_,rfl,fun F=>?_⟩;replace G:=G.xl 0 e9 HL;have HV:=Lib.hid hv;have HXB:=Lib.hid hxb;clear hv hxb;replace G:=G.hr [b];refine (F.al G Qy.zeroValue27) fun yy F G=>(F.sr G 0) fun G=>k3 <|wQ fun k4=>?_
 have G2:=G;refine (wD [b] none G) @fun w5 G=>(F.z 0 (G.t 0) F.mo) fun F=>(F.zr 1 (G.t 0) fun hS=>F.lb (G2.k 0 hS)) fun F=>(F.z 3 (G.t 0) F.mo) fun F=>(F.zr 4 (G.t 0) fun hS=>F.lb (G2.k 0 hS)) fun F=>?_;obtain ⟨B1,hB1⟩:∃ B1,B1 = w5.heap.size:=⟨_,rfl⟩;have hb1:b < B1:=by rw [hB1];exact Z2N (G.l 3)
 refine (aO 2) <|(F.ok (Z3V (μ:=0) x HV.out w _ b _ _ (G.l 3) (by omega))) ?_
 rintro _ w6 ⟨ra,r,rfl,hr,ro,HL,e9⟩;refine ⟨_,rfl,fun F=>?_⟩;replace G:=G.xl 3 e9 HL;refine .intro (G.t 0) ?_;rw [← hB1] at ro;replace G:=G.co ro;obtain ⟨B2,hB2⟩:∃ B2,B2 = w6.heap.size:=⟨_,rfl⟩;have hb2:b < B2:=by rw [hB2];exact Z2N (G.l 4)
 refine (aO 5) <|(F.ok (Z3V (μ:=0) x HV.out w _ b _ _ (G.l 4) (by omega))) ?_
 rintro _ w7 ⟨sa,s,rfl,hs,so,HL,e9⟩;refine ⟨_,rfl,fun F=>?_⟩;replace G:=G.xl 4 e9 HL;refine .intro (G.t 1) ?_;rw [← hB2] at so;replace G:=G.co so;refine (F.z 6 (G.t 2) F.mo) fun F=>(F.z 7 (G.t 2) F.mo) fun F=>(aD) ?_;have hxd:=HXB.out _ (G.e 4);have ro:=G.o 1;have HR:=Lib.hid (Zv ro hr.len.symm);have so:=G.o 0;have HSR:=Lib.hid (Zv so hs.len.symm);have HXD:=Lib.hid hxd;clear hxd;have HRO:=Lib.hid hr;have HSO:=Lib.hid hs;have hrl:=hr.len;have hsl:=hs.len;have hr1:=hr.s1;have hr6:=hr.s6;have hs1:=hs.s1;have hs6:=hs.s6;clear hr hs;replace G:=G.hr [];refine k4 <|wR fun k5=>(F.y (F.lb (G.q 4))) fun F=>(F.m) fun F=>(F.m) fun F=>?_
 have hst:=Z49 x HV.out r r HRO.out HRO.out ra ra x.D.length x.D.length w7 (HXD.out.ext (G.e 0)) (by rw [hrl];exact HR.out.ext (G.e 0) (by simp)) (by rw [hrl];exact HR.out.ext (G.e 0) (by simp));rw [hrl] at hst;refine (F.kp (hst)) ?_;rintro _ w8 (⟨⟨rfl,-⟩,e9⟩ | ⟨y1,rfl,hI1,-,e9⟩)
 ·refine .inl ⟨_,rfl,?_⟩
  replace G:=G.ex e9
  (try simp only [Exit.inBlock,Exit.then,Exit.jump,reduceIte])
  refine ⟨F.ds,?_⟩;exact ZcY HV.out (HXD.out.ext (G.e 0)) HRO.out HRO.out hrl hrl (HR.out.ext (G.e 0) (by simp)) (HR.out.ext (G.e 0) (by simp))
 refine .inr ⟨_,rfl,fun F=>?_⟩;replace G:=G.ex e9;clear hst;obtain ⟨ya1,yc1,rfl,hY1⟩:=Z4r hI1;clear hI1;have hyl:(Zu x.L.length fun k=>alkE x k (val r) (val r)).length = x.L.length:=ZeF fun k _=>Zcc HV.out.t0 (by have:=Z3Y HRO.out.tub;omega) k;rw [hyl] at F hY1;refine (F.m) fun F=>(F.y F.xt) fun F=>(F.y F.xt) fun F=>(F.m) fun F=>(F.m) fun F=>k5 <|wR fun k6=>(F.y (F.lb (G.q 4))) fun F=>(F.m) fun F=>(F.m) fun F=>?_
 have hst:=Z49 x HV.out r s HRO.out HSO.out ra sa x.D.length x.D.length w8 (HXD.out.ext (G.e 0)) (by rw [hrl];exact HR.out.ext (G.e 0) (by simp)) (by rw [hsl];exact HSR.out.ext (G.e 0) (by simp));rw [hrl,hsl] at hst;refine (F.kp (hst)) ?_;rintro _ w9 (⟨⟨rfl,-⟩,e9⟩ | ⟨y2,rfl,hI2,-,e9⟩)
 ·refine .inl ⟨_,rfl,?_⟩
  replace G:=G.ex e9
  (try simp only [Exit.inBlock,Exit.then,Exit.jump,reduceIte])
  refine ⟨F.ds,?_⟩;exact ZcY HV.out (HXD.out.ext (G.e 0)) HRO.out HSO.out hrl hsl (HR.out.ext (G.e 0) (by simp)) (HSR.out.ext (G.e 0) (by simp))
 refine .inr ⟨_,rfl,fun F=>?_⟩;replace G:=G.ex e9;clear hst;obtain ⟨ya2,yc2,rfl,hY2⟩:=Z4r hI2;clear hI2;obtain ⟨β,hβ⟩:∃ β:Nat → Bool,β = fun k=>alkE x k (val r) (val s):=⟨_,rfl⟩;obtain ⟨L2,hL2⟩:∃ L2,L2 = Zu x.L.length β:=⟨_,rfl⟩;rw [← hβ,← hL2] at F hY2;have hL2n:L2.length ≤ x.L.length:=by rw [hL2];exact Z8S _ _
 have HY2:=Lib.hid hY2;have HY2S:=Lib.hid (Zb hY2 0);clear hY2;replace G:=G.hr [];refine (F.m) fun F=>(F.y F.xt) fun F=>(F.y F.xt) fun F=>(F.m) fun F=>(F.m) fun F=>k6 <|wR fun k7=>(F.y (F.lb (G.q 5))) fun F=>(F.m) fun F=>(F.m) fun F=>?_
 have hst:=Z49 x HV.out s r HSO.out HRO.out sa ra x.D.length x.D.length w9 (HXD.out.ext (G.e 1)) (by rw [hsl];exact HSR.out.ext (G.e 1) (by simp)) (by rw [hrl];exact HR.out.ext (G.e 1) (by simp));rw [hrl,hsl] at hst;refine (F.kp (hst)) ?_;rintro _ w10 (⟨⟨rfl,-⟩,e9⟩ | ⟨y3,rfl,hI3,-,e9⟩)
 ·refine .inl ⟨_,rfl,?_⟩
  replace G:=G.ex e9
  (try simp only [Exit.inBlock,Exit.then,Exit.jump,reduceIte])
  refine ⟨F.ds,?_⟩;exact ZcY HV.out (HXD.out.ext (G.e 1)) HSO.out HRO.out hsl hrl (HSR.out.ext (G.e 1) (by simp)) (HR.out.ext (G.e 1) (by simp))
 refine .inr ⟨_,rfl,fun F=>?_⟩;replace G:=G.ex e9;clear hst;obtain ⟨ya3,yc3,rfl,hY3⟩:=Z4r hI3;clear hI3;have hL3:(Zu x.L.length fun k=>alkE x k (val s) (val r)) = L2:=by rw [hL2,hβ];exact Z3F fun k _=>Zey x k (val r) (val s)
 rw [hL3] at F hY3;have HY3:=Lib.hid hY3;clear hY3;replace G:=G.hr [];refine (F.m) fun F=>(F.y F.xt) fun F=>(F.y F.xt) fun F=>(F.m) fun F=>(F.m) fun F=>k7 <|wQ fun k8=>wR fun k9=>(F.m) fun F=>(F.y F.neF) fun F=>(F.m) fun F=>(F.m) fun F=>(F.y F.neF) fun F=>(F.y F.pF) fun F=>(F.m) fun F=>(F.m) fun F=>(F.y F.neF) fun F=>?_
 refine (F.y F.pF) fun F=>(F.m) fun F=>(F.m) fun F=>(F.y F.ln) fun F=>(F.y (F.fd 2)) fun F=>(F.y (F.lc (G.q 6))) fun F=>(F.y F.ln) fun F=>(F.y (F.neF (h:=rfl))) fun F=>(F.y F.pF) fun F=>(F.m) fun F=>(F.m) fun F=>(F.m) fun F=>?_;have hl3:=HV.out.l3;refine (F.k (Z0h (μ:=0) L2 L2 ya2 ya3 yc2 yc3 _ (HY2.out.ext (G.e 1) (by simp)) (HY3.out.ext (G.e 0) (by simp)) (by omega) (by omega))) ?_;rintro _ w11 ⟨rfl,e9⟩;refine ⟨_,rfl,fun F=>?_⟩;replace G:=G.ex e9;rw [decide_eq_true (show L2 = L2 from rfl)] at F;refine (F.y F.nb) fun F=>(F.y F.pF) fun F=>k9 <|(F.cF) <|wp_skip <|k8 <|wQ fun k10=>?_
 replace F:=F.b [4,5,6,9];replace G:=G.b [0,1,2,6,9];refine wG <|(F.y (F.lb (G.q 3))) fun F=>(F.m) fun F=>?_
 obtain ⟨bn,hbn⟩:∃ bn:Nat,x.B = bn:=⟨x.B.toNat,by have:=HV.out.b1;omega⟩;have hsu:=Z88 (μ:=0) x HV.out bn hbn r hrl HRO.out.bd ra x.D.length w11 (HXD.out.ext (G.e 2)) (by rw [hrl];exact HR.out.ext (G.e 2) (by simp));rw [hrl] at hsu;refine (F.k (hsu)) ?_;rintro _ w12 ⟨ta,rfl,oT,e9⟩;refine ⟨_,rfl,fun F=>?_⟩;replace G:=G.ex e9;clear hsu;have hll:(sumL x (val r) bn).length = bn:=by simp [sumL]
 have HT:=Lib.hid (Zv oT hll.symm);clear oT;replace G:=G.hr [];refine (F.m) fun F=>(F.y F.xt) fun F=>(F.y F.xt) fun F=>(F.m) fun F=>(F.m) fun F=>k10 <|wR fun k11=>(F.y (F.lb (G.q 4))) fun F=>(F.m) fun F=>?_
 have hsu:=Z88 (μ:=0) x HV.out bn hbn s hsl HSO.out.bd sa x.D.length w12 (HXD.out.ext (G.e 3)) (by rw [hsl];exact HSR.out.ext (G.e 3) (by simp));rw [hsl] at hsu;refine (F.k (hsu)) ?_;rintro _ w13 ⟨ua,rfl,oU,e9⟩;refine ⟨_,rfl,fun F=>?_⟩;replace G:=G.ex e9;clear hsu;have hlm:(sumL x (val s) bn).length = bn:=by simp [sumL]
 have HU:=Lib.hid (Zv oU hlm.symm);clear oU;replace G:=G.hr [];refine (F.m) fun F=>(F.y F.xt) fun F=>(F.y F.xt) fun F=>(F.m) fun F=>(F.m) fun F=>k11 <|wR fun k12=>(F.m) fun F=>k12 <|wQ fun k13=>wR fun k14=>(F.m) fun F=>k14 <|wp_block <|lpC (F.b [4,9,13,14,15,16]) G (x.L.length) (fun i=>[(17,.int .i64 ((cnt x.L.length β i:Nat):Int)),(18,.int .i64 ((i:Nat):Int))]) F.u fun i hi1 F G=>wQ fun k15=>wR fun k16=>(F.m) fun F=>(F.y (F.fd 2)) fun F=>(F.y (F.lc (G.q 5))) fun F=>(F.y F.ln) fun F=>(F.y F.ls) fun F=>k16 <|F.ci (fun hc91=>?_) (fun hc91=>?_)
 ·refine wp_skip <|k15 <|wQ fun k17=>wp_block <|wQ fun k18=>?_
  have hpr:prt (val r) = r.sum:=Z4u r 4 (by have:=HV.out.d4;omega);have hps:prt (val s) = s.sum:=Z4u s 4 (by have:=HV.out.d4;omega);have hb3:=HV.out.b3;have g1:=Z2C HV.out (show i < x.L.length by omega) (fun j=>Z7g HV.out HRO.out.tub j) (n:=bn) (by omega);have g2:=Z2C HV.out (show i < x.L.length by omega) (fun j=>Z7g HV.out HSO.out.tub j) (n:=bn) (by omega);have h5:=Z0p (a:=s.sum) (b:=dotE (val (x.lamp i)) (tnE x (val r)) bn) (by omega) hs6 g1.1 g1.2 (C:=51840) (by omega);have h6:=Z0p (a:=r.sum) (b:=dotE (val (x.lamp i)) (tnE x (val s)) bn) (by omega) hr6 g2.1 g2.2 (C:=51840) (by omega);have hal:alkV x i (val r) (val s) = s.sum * dotE (val (x.lamp i)) (tnE x (val r)) bn - r.sum * dotE (val (x.lamp i)) (tnE x (val s)) bn:=by unfold alkV;rw [hpr,hps,show x.B.toNat = bn by omega]
  have ht0:=HV.out.t0;have ht12:=HV.out.t12;have h7:=Z0p ht0 ht12 (show (0:Int) ≤ r.sum by omega) hr6 (C:=288) (by omega);have h8:=Z0p h7.1 h7.2 (show (0:Int) ≤ s.sum by omega) hs6 (C:=6912) (by omega);have hng:-x.tol * r.sum = -(x.tol * r.sum):=Int.neg_mul _ _;have hng2:-x.tol * r.sum * s.sum = -(x.tol * r.sum * s.sum):=by rw [hng,Int.neg_mul]
  have hda:=Z1K x (val r) (val (x.lamp i)) bn;rw [hll] at hda;have hdb:=Z1K x (val s) (val (x.lamp i)) bn;rw [hlm] at hdb;have G4:=G;refine (wD [] none G) @fun w15 G=>(F.z 0 (G.t 0) F.mo) fun F=>(F.zr 1 (G.t 0) fun hS=>F.lb (G4.k 5 hS)) fun F=>(F.z 2 (G.t 0) F.mo) fun F=>(F.z 3 (G.t 0) F.mo) fun F=>(F.z 6 (G.t 0) F.mo) fun F=>(F.zr 7 (G.t 0) fun hS=>F.lb (G4.k 5 hS)) fun F=>(F.z 8 (G.t 0) F.mo) fun F=>(F.z 9 (G.t 0) F.mo) fun F=>?_;have hwe:=Z4E (μ:=0) x HV.out i (by omega) bn hbn (sumL x (val r) bn) hll (fun n hn=>by have:=Z2Q HV.out HRO.out.tub bn n hn;omega) ta bn w15 (HXD.out.ext (G.e 5)) (by rw [hll];exact HT.out.ext (G.e 2) (by simp));rw [hll,hda] at hwe;refine (aO 4) <|(F.ok (hwe)) ?_
  rintro _ w16 ⟨rfl,e9⟩;refine ⟨_,rfl,fun F=>?_⟩;replace G:=G.ex e9;refine .intro (G.t 0) ?_;clear hwe;refine (F.z 5 (G.t 0) F.ml) fun F=>?_;have hwe:=Z4E (μ:=0) x HV.out i (by omega) bn hbn (sumL x (val s) bn) hlm (fun n hn=>by have:=Z2Q HV.out HSO.out.tub bn n hn;omega) ua bn w16 (HXD.out.ext (G.e 5)) (by rw [hlm];exact HU.out.ext (G.e 1) (by simp));rw [hlm,hdb] at hwe;refine (aO 10) <|(F.ok (hwe)) ?_
  rintro _ w17 ⟨rfl,e9⟩;refine ⟨_,rfl,fun F=>?_⟩;replace G:=G.ex e9;refine .intro (G.t 0) ?_;clear hwe;refine (F.z 11 (G.t 0) F.ml) fun F=>(F.z 12 (G.t 0) F.sb) fun F=>(F.z 13 (G.t 0) F.mo) fun F=>(aD) <|k18 <|wQ fun k19=>wQ fun k20=>?_
  by_cases cA:x.tol * r.sum * s.sum < s.sum * dotE (val (x.lamp i)) (tnE x (val r)) bn - r.sum * dotE (val (x.lamp i)) (tnE x (val s)) bn
  ·refine wG <|(F.m) fun F=>(F.y (F.fd 3)) fun F=>(F.y (F.lc (G.q 6))) fun F=>(F.m) fun F=>(F.y F.ml) fun F=>(F.m) fun F=>(F.y F.ml) fun F=>(F.y F.gtT) fun F=>(F.m) fun F=>(F.n) fun F=>(F.n) fun F=>(F.n) fun F=>(F.n) fun F=>(F.n) fun F=>?_
   refine (F.n) fun F=>(F.n) fun F=>(F.n) fun F=>(F.n) fun F=>(F.y F.pT) fun F=>?_;have hno:alkE x i (val r) (val s) = false:=by rw [Bool.eq_false_iff];intro hq;have:=(Z8Z x i (val r) (val s)).1 hq;rw [hpr,hps,hal] at this;omega
   have hcn:=ZfI (n:=x.L.length) (β:=β) (i:=i) (by omega) (by rw [hβ];exact hno);rw [← hcn] at F;refine k20 <|(F.cT) <|wp_exit <|k17 <|wp_region_lit <|(F.m) fun F=>(F.y F.ad) fun F=>(F.m) fun F=>?_
   show _ ∧ _;exact ⟨by omega,F.u,G.u⟩
  ·by_cases cB:s.sum * dotE (val (x.lamp i)) (tnE x (val r)) bn - r.sum * dotE (val (x.lamp i)) (tnE x (val s)) bn < -x.tol * r.sum * s.sum
   ·refine wG <|(F.m) fun F=>(F.y (F.fd 3)) fun F=>(F.y (F.lc (G.q 6))) fun F=>(F.m) fun F=>(F.y F.ml) fun F=>(F.m) fun F=>(F.y F.ml) fun F=>(F.y F.gtF) fun F=>(F.m) fun F=>(F.m) fun F=>(F.y (F.fd 3)) fun F=>(F.y (F.lc (G.q 6))) fun F=>(F.y F.ng) fun F=>(F.m) fun F=>?_
    refine (F.y F.ml) fun F=>(F.m) fun F=>(F.y F.ml) fun F=>(F.y F.lsT) fun F=>(F.y F.pF) fun F=>?_;have hno:alkE x i (val r) (val s) = false:=by rw [Bool.eq_false_iff];intro hq;have:=(Z8Z x i (val r) (val s)).1 hq;rw [hpr,hps,hal] at this;omega
    have hcn:=ZfI (n:=x.L.length) (β:=β) (i:=i) (by omega) (by rw [hβ];exact hno);rw [← hcn] at F;refine k20 <|(F.cT) <|wp_exit <|k17 <|wp_region_lit <|(F.m) fun F=>(F.y F.ad) fun F=>(F.m) fun F=>?_
    show _ ∧ _;exact ⟨by omega,F.u,G.u⟩
   ·refine wG <|(F.m) fun F=>(F.y (F.fd 3)) fun F=>(F.y (F.lc (G.q 6))) fun F=>(F.m) fun F=>(F.y F.ml) fun F=>(F.m) fun F=>(F.y F.ml) fun F=>(F.y F.gtF) fun F=>(F.m) fun F=>(F.m) fun F=>(F.y (F.fd 3)) fun F=>(F.y (F.lc (G.q 6))) fun F=>(F.y F.ng) fun F=>(F.m) fun F=>?_
    refine (F.y F.ml) fun F=>(F.m) fun F=>(F.y F.ml) fun F=>(F.y F.lsF) fun F=>(F.y F.pF) fun F=>?_;have hye:alkE x i (val r) (val s) = true:=(Z8Z x i (val r) (val s)).2 (by rw [hpr,hps,hal];omega);refine k20 <|(F.cF) <|wp_skip <|k19 <|wQ fun k21=>wQ fun k22=>?_
    have hct:=Zi6 (n:=x.L.length) (β:=β) (i:=i) (by omega) (by rw [hβ];exact hye);rw [← hL2] at hct;refine wG <|(F.m) fun F=>(F.m) fun F=>(F.y F.ln) fun F=>(F.y F.geF) fun F=>(F.m) fun F=>(F.m) fun F=>(F.m) fun F=>(F.ix HY2S.out (cnt x.L.length β i)) fun xr23 F=>(F.y (F.l1 (xr23 _ (G.e 4)) 0)) fun F=>(F.m) fun F=>(F.y (F.neF (h:=hct.2))) fun F=>(F.y F.pF) fun F=>k22 <|(F.cF) <|wp_skip <|k21 <|wp_region_lit <|(F.m) fun F=>(F.y F.ad) fun F=>?_
    rw [show ((cnt x.L.length β i:Nat):Int) + 1 = ((cnt x.L.length β (i + 1):Nat):Int) by rw [ZhT (by omega) (by rw [hβ];exact hye)];rfl] at F;refine (F.m) fun F=>k17 ?_;replace F:=F.b [4,9,13,14,15,16,17,18];replace G:=G.b [1,2,3,4,5,6,7];refine wG <|(F.m) fun F=>(F.y F.ad) fun F=>(F.m) fun F=>?_
    show _ ∧ _;exact ⟨by omega,F.u,G.u⟩
 ·refine wp_exit ?_
  have hce:=Zhw x.L.length β;rw [← hL2] at hce;rw [show i = x.L.length by omega,hce] at F;refine k13 <|wR fun k24=>(F.m) fun F=>(F.m) fun F=>(F.y F.ln) fun F=>(F.y (F.eqT (h:=rfl))) fun F=>(F.m) fun F=>(F.k0 G (Z64 (μ:=0) _)) fun F G=>(F.y F.pT) fun F=>(F.m) fun F=>k24 <|(F.r1) ?_
  exact .inl rfl
end Go.Proofs.YtfelljbfeoplhaaGreat
namespace Go.Proofs.YtfelljbfeoplhaaGreat.Lift
open Go Go.Conc Go.RowKit Go.Proofs.YtfelljbfeoplhaaGreat Go.Proofs.YtfelljbfeoplhaaGreat.Ev
open Go.ConcM (OsLater)
noncomputable def lB : Code := (Tryz.f3.body).getD (.refuse "")
theorem Zhc:Tryz.f3.body = some lB:=by kernel_rfl
noncomputable def lF:Frame:={ (default:Frame) with fn:=lawF,kind:=.normal }
noncomputable def lA (xs:Array Value):Act:={ tmps:=xs ++ Array.replicate (Tryz.f3.ntmps - xs.size) undef,defers:=[] }
theorem Z3w {Q:Program} (h:Q.funcs[(lawF:Nat)]? = some Tryz.f3) (xs:Array Value): Frame.enter Q lawF xs .normal = lF.at (lA xs) [.code lB]:=by
 simp [Frame.enter,Frame.at,h,Zhc,lF,lA]
theorem lawP:PP.funcs[(lawF:Nat)]? = some Tryz.f3:=by kernel_rfl
theorem lawQ:(Qy.prog 0).funcs[(lawF:Nat)]? = some Tryz.f3:=by kernel_rfl
def jmpB (f n:Nat):Bool:=(f == 15 && n == 3) || (f == 19 && n == 0)
theorem cl0:ZN PP gJ jmpB true true true false lB = true:=by kernel_rfl
theorem Zgr:PP.inits.idxOf? lawF = none:=by kernel_rfl
theorem Zjm {f:Nat} (h:gJ f = true): gS f = true:=by
 have h1:=Z5P (ZjO h);unfold gS;rw [List.elem_iff];exact List.mem_append_left _ h1
theorem VR.dup {x y:Value} (h:@VR jkW (idS S) x y): @VR jk0 (idS S) x x:=by
 have nm:∀ {b c:Nat},idS S b = some c → idS S b = some b:=fun h=>Z1l (Z0w h).1;have ar:∀ {a b:Addr},AR (idS S) a b → AR (idS S) a a:=fun h=>by
  cases h with
  | mk q=>exact .mk (nm q)
 induction h with
 | bool b=>exact @VR.bool jk0 _ b
 | int k n=>exact @VR.int jk0 _ k n
 | string s=>exact @VR.string jk0 _ s
 | ptr0=>exact @VR.ptr0 jk0 _
 | ptr q=>exact @VR.ptr jk0 _ _ _ (ar q)
 | sl0 n c=>exact @VR.sl0 jk0 _ n c
 | sl n c q=>exact @VR.sl jk0 _ _ _ n c (ar q)
 | map0=>exact @VR.map0 jk0 _
 | map q=>exact @VR.map jk0 _ _ _ (nm q)
 | func hf hx _ hy _ ih ih2 =>
  refine @VR.func jk0 _ _ _ _ _ _ _ ?_ rfl (fun i a b p q=>?_) rfl (fun i a b p q=>?_)
  ·cases hf with
   | func f h=>exact @FnR.func jk0 _ f (Zjm h)
   | yield q=>exact @FnR.yield jk0 _ _ _ (nm q)
  ·rw [p] at q
   obtain rfl:=Option.some.inj q;obtain ⟨b,hb⟩:∃ b,_ = some b:=⟨_,Array.getElem?_eq_getElem (hx ▸ (Array.getElem?_eq_some_iff.1 p).1)⟩;exact ih i a b p hb
  ·rw [p] at q
   obtain rfl:=Option.some.inj q;obtain ⟨b,hb⟩:∃ b,_ = some b:=⟨_,Array.getElem?_eq_getElem (hy ▸ (Array.getElem?_eq_some_iff.1 p).1)⟩;exact ih2 i a b p hb
 | func0=>exact @VR.func0 jk0 _
 | iface t _ ih=>exact @VR.iface jk0 _ _ _ t ih
 | iface0=>exact @VR.iface0 jk0 _
 | agg hs _ ih =>
  refine @VR.agg jk0 _ _ _ rfl fun i a b p q=>?_;rw [p] at q;obtain rfl:=Option.some.inj q;obtain ⟨b,hb⟩:∃ b,_ = some b:=⟨_,Array.getElem?_eq_getElem (hs ▸ (Array.getElem?_eq_some_iff.1 p).1)⟩;exact ih i a b p hb
 | tuple hs _ ih =>
  refine @VR.tuple jk0 _ _ _ rfl fun i a b p q=>?_;rw [p] at q;obtain rfl:=Option.some.inj q;obtain ⟨b,hb⟩:∃ b,_ = some b:=⟨_,Array.getElem?_eq_getElem (hs ▸ (Array.getElem?_eq_some_iff.1 p).1)⟩;exact ih i a b p hb
 | junk _ _ _ _=>exact @VR.junk jk0 _ _ (.inr rfl) (by unfold J0;simp) ⟨by unfold J0;simp,by unfold J0;simp⟩ (by unfold J0;simp)
theorem Zbk {u:World} {T:Nat → Question → Nat} {xs:List (List Value)} (h:Z7 (re u T) (.slice a n c) 1 xs): Z7 u (.slice a n c) 1 xs:=h
theorem ZgX (e:Ending) (u:World) (T:Nat → Question → Nat) (h:LawE e (re u T)):LawE e u:=by
 letI:Jk:=jk0
 rcases h with h | ⟨xs,h1,x,l,l',a1,a2,c1,c2,h2,h3,h4,h5,h6,h7,h8⟩
 ·exact .inl h
 ·exact .inr ⟨xs,h1,x,l,l',a1,a2,c1,c2,h2,h3,Z6n (v:=re u T) (v2:=u) (fun _ _=>rfl) h4,h5,h6,Zbk h7,Zbk h8⟩
theorem ZeC:@Z0C jkW PP (jkW.law lawF) (¬ jkW.gd lawF) false lB:=by
 have:=@Z1O jkW PP gJ true (fun f q=>q) (fun q=>by cases q) jmpB (fun f n q=>by
  unfold jmpB at q;simp only [Bool.or_eq_true,Bool.and_eq_true,beq_iff_eq] at q
  rcases q with ⟨rfl,rfl⟩ | ⟨rfl,rfl⟩
  ·exact ⟨.inl rfl,rfl⟩
  ·exact ⟨.inr rfl,rfl⟩) lB true true false cl0
 have e1:(true = true) = (jkW.law lawF):=by
  show (true = true) = (lawF = lawF);simp
 have e2:(true = true) = (¬ jkW.gd lawF):=by
  show (true = true) = (¬ gJ lawF = true);have:gJ lawF = false:=by decide
  simp [this]
 rw [← e1,← e2];exact this
theorem ZjG {a:Act} (ht:@VRs jkW (idS S) a.tmps a.tmps) (hd:a.defers = []): @Stk jkW PP (Qy.F 0) (idS S) [lF.at a [.code lB]] [lF.at a [.code lB]]:=by
 have hown:(Qy.F 0)[(lawF:Nat)]? = PP.funcs[(lawF:Nat)]?:=lawQ.trans lawP.symm;letI:Jk:=jkW;obtain ⟨tm,df⟩:=a;obtain rfl:df = []:=hd;refine ⟨.cons ?_ .nil,⟨.inl rfl,fun h=>absurd rfl h⟩,trivial⟩;refine @FrR.mk jkW PP (Qy.F 0) (idS S) _ _ ?c1 ?c2 ?c3 ?c4 ?c5 ?c6 ?c7 ?c8
 case c1=>exact (rfl:(lawF:Nat) = lawF)
 case c2=>exact hown
 case c3=>exact ht
 case c5=>exact ⟨.nil,fun _=>rfl⟩
 case c6=>exact .run
 case c7=>exact ⟨(rfl:CallKind.normal = .normal),.inl (rfl:CallKind.normal = .normal)⟩
 case c8=>exact .none
 case c4=>exact .cons (.code ZeC) .nil
theorem Zej {xs:Array Value} (h:@VRs jkW (idS S) xs xs): @VRs jkW (idS S) (lA xs).tmps (lA xs).tmps:=by
 letI:Jk:=jkW;unfold lA;dsimp only;exact Arr.append h (Arr.replicate _ .undef)
theorem law_run (W:World) (a0:Option Addr) (len0 cap0:Nat) (z0:List Int) (h:ZaL .i64 W a0 len0 cap0 z0) (hb:∀ x,a0 = some x → x.spot = none ∧ ∃ cs e fz,W.heap[x.block]? = some (.cells cs e fz)) :
  Run PP (Zik W) (solo (G (Frame.enter PP lawF #[.slice a0 len0 cap0] .normal) []) W) #[]:=by
 obtain ⟨S,hS⟩:∃ S:Nat → Prop,S = fun b=>∃ x,a0 = some x ∧ b = x.block:=⟨_,rfl⟩;have hpv:PV S (.slice a0 len0 cap0):=by
  cases a0 with
  | none=>trivial
  | some x=>show S x.block;rw [hS];exact ⟨x,rfl,rfl⟩
 obtain ⟨v,hsh,hwh,hshut⟩:=@Z2g jkW S W PP (Qy.F 0) trivial (fun c hc=>by
  rw [hS] at hc;obtain ⟨x,e,rfl⟩:=hc;exact (hb x e).2)
 have hrow:∀ T,ZaL .i64 (re v T) a0 len0 cap0 z0:=by
  intro T
  rcases h with h | ⟨x,rfl,h1,h2,h3,h4,h5⟩
  ·exact .inl h
  ·refine .inr ⟨x,rfl,h1,h2,h3,fun i hi=>?_,h5⟩
   obtain ⟨bb,off,sp⟩:=x;obtain ⟨rfl,_⟩:=hb _ rfl;have e:∀ n,(⟨bb,off,none⟩:Addr).add n = ⟨bb,off + n,none⟩:=fun n=>by
    unfold Addr.add
    split
    ·rename_i q;subst q;rfl
    ·rfl
   have h6:=h4 i hi;rw [e] at h6 ⊢;letI:Jk:=jkW;exact Z6d (S:=S) (w:=W) (w1:=W) (v2:=re v T) (fun _ _=>rfl) ⟨hsh.size,hsh.os,hsh.at_⟩ (b:=bb) (o:=off + i) (by rw [hS];exact ⟨_,rfl,rfl⟩) h6 trivial
 have hvr:@VRs jkW (idS S) #[.slice a0 len0 cap0] #[.slice a0 len0 cap0]:=@Arr.one jkW _ _ (@VR jkW (idS S)) _ _ (@PV.vr jkW S _ hpv);have hvr0:@VRs jk0 (idS S) #[.slice a0 len0 cap0] #[.slice a0 len0 cap0]:=@Arr.one jk0 _ _ (@VR jk0 (idS S)) _ _ (@PV.vr jk0 S _ hpv);have hw0:@WH jk0 (@Iv jk0 (Qy.prog 0) (Qy.F 0)) (idS S) v v:=by
  refine @WH.mk jk0 _ _ _ _ (fun b c hbc=>?_) (ZbS S) rfl;obtain ⟨hs,rfl⟩:=Z0w hbc;obtain ⟨o,o',g1,g2,g3⟩:=@WH.on jkW _ _ _ _ hwh _ _ hbc;obtain ⟨cs,e,g4⟩:=hshut _ _ hbc;rw [g1] at g4;obtain rfl:=Option.some.inj g4;refine ⟨_,_,g1,g1,?_⟩
  cases g3 with
  | cells q hf =>
   refine @OR.cells jk0 _ _ _ _ _ _ _ ⟨rfl,fun i x y p1 p2=>?_⟩ (.inr rfl);rw [p1] at p2;obtain rfl:=Option.some.inj p2;obtain ⟨z,hz⟩:∃ z,_ = some z:=⟨_,Array.getElem?_eq_getElem (q.1 ▸ (Array.getElem?_eq_some_iff.1 p1).1)⟩;exact VR.dup (q.2 i x z p1 hz)
 have hE0:=@Z1V jk0 (Qy.prog 0) (Qy.F 0) (fun f=>gS f = true) (idS S) v v Z2K gokS recS lawF #[.slice a0 len0 cap0] #[.slice a0 len0 cap0] (by decide) hvr0 hw0 LawE ZgX (fun u q=>by
   rcases q with q | ⟨_,q,_⟩ <;> cases q) (fun T=>Z6F a0 len0 cap0 z0 (re v T) (hrow T))
 have hfr0:=@Z0S jk0 (Qy.prog 0) (Qy.F 0) (fun f=>gS f = true) (idS S) Z2K lawF #[.slice a0 len0 cap0] #[.slice a0 len0 cap0] hvr0 (by decide) gokS .normal (.inl rfl);have hself:@Self jk0 (Qy.prog 0) (Qy.F 0) [Frame.enter (Qy.prog 0) lawF #[.slice a0 len0 cap0] .normal,poison] v:=by
  letI:Jk:=jk0;refine ⟨_,[],idS S,rfl,Zg9 S,⟨.cons hfr0 .nil,⟨.inl ?_,fun h=>absurd rfl h⟩,trivial⟩,⟨hw0.on,hw0.inj,fun _ _=>rfl,rfl⟩⟩;rw [Z3w lawQ]
  rfl
 rw [Z3w lawQ] at hself;have hE1:Ends (Qy.prog 0) (Done PP (Qy.F 0) lawF LawE) [lF.at (lA #[.slice a0 len0 cap0]) [.code lB],poison] v:=by
  rw [← Z3w lawQ];exact hE0
 have hst:=ZjG (Zej hvr) rfl;have hsure:=ZeY (R:=LawE) (fun xs u q=>by
   rcases q with q | ⟨ys,q,q2⟩
   ·cases q
   ·simp only [Ending.panicked.injEq,List.cons.injEq,and_true] at q
    have:xs = ys:=by
     simp only [bunV] at q;simpa using q
    subst this;exact q2) (fun x u q=>by
   rcases q with q | ⟨ys,q,q2⟩
   ·exact Ending.returned.inj q
   ·cases q) (fun ch u q=>by
   rcases q with q | ⟨ys,q,q2⟩
   ·cases q
   ·exact ⟨ys,Ending.panicked.inj q⟩) Zgr rfl hst hwh (fun a b q=>hshut a b q) hself hE1
 rw [Z3w lawP];have hp:Past (Dk fun _=>False) W.heap.size #[]:=by
  have e:(Dk fun _=>False) = fun _=>False:=by
   funext l
   simp [Dk]
  rw [e];exact past_nil.mono (Nat.zero_le _)
 exact hsure W ⟨rfl,rfl,rfl⟩ #[run1 _ []] none #[] (fun _=>0) rfl (leavers_one _ _) hp
end Go.Proofs.YtfelljbfeoplhaaGreat.Lift
namespace Go.Proofs.YtfelljbfeoplhaaGreat.dyeAlike
open Go Go.ChangeShapes Go.WideShapes Go.ChangeAt Go.RowKit Go.Conc Go.ConcM
open Go.ChangeMaps (open_string shut_string)
theorem k1:(Rows.dyeAlikeRow.wf (OpenSpec.ofChange Rows.dyeAlikeSpec):Bool) = true:=by kernel_rfl
theorem k4:(Tryz.f3.params.all (Tryz.pinned.checked.prog.readableRec ·):Bool) = true:=by kernel_rfl
theorem k5:(namedTie Tryz.pinned.checked.prog Rows.dyeAlikeRow.named Rows.dyeAlikeSpec.vars:Bool) = true:=by kernel_rfl
theorem k6:((Rows.dyeAlikeRow.stops == []):Bool) = true:=by kernel_rfl
theorem k8:((Rows.dyeAlikeRow.knobs == []):Bool) = true:=by kernel_rfl
theorem k10:((Rows.dyeAlikeRow.inPlace == Tryz.pinned.checked.prog.inPlace 3):Bool) = true:=by kernel_rfl
theorem k11:((Rows.dyeAlikeRow.unfollowed == Tryz.pinned.checked.prog.unfollowed 3):Bool) = true:=by kernel_rfl
theorem k12:((Rows.dyeAlikeRow.recurses == Tryz.pinned.checked.prog.recurses 3):Bool) = true:=by kernel_rfl
theorem k13:((Rows.dyeAlikeRow.named == Tryz.pinned.checked.prog.varsNamed 3):Bool) = true:=by kernel_rfl
theorem k14:((Rows.dyeAlikeRow.maps == (Tryz.f3.params.toList ++ Rows.dyeAlikeSpec.plain.varTypes Tryz.pinned.checked.prog).any (Tryz.pinned.checked.prog.mapsRec ·)):Bool) = true:=by kernel_rfl
theorem k15:((Rows.dyeAlikeRow.ifaces == (Tryz.f3.params.toList ++ Rows.dyeAlikeSpec.plain.varTypes Tryz.pinned.checked.prog).any (Tryz.pinned.checked.prog.ifacesRec ·)):Bool) = true:=by kernel_rfl
theorem k16:((Rows.dyeAlikeRow.mapsOut == Tryz.pinned.checked.prog.mapsAmong Tryz.f3.resultTypes.toList):Bool) = true:=by kernel_rfl
theorem k17:((Rows.dyeAlikeRow.loops == (Tryz.f3.params.toList ++ Rows.dyeAlikeSpec.plain.varTypes Tryz.pinned.checked.prog).any (Tryz.pinned.checked.prog.loopsFrom ·)):Bool) = true:=by kernel_rfl
theorem k18:((Rows.dyeAlikeRow.wideKeys == (Tryz.f3.params.toList ++ Rows.dyeAlikeSpec.plain.varTypes Tryz.pinned.checked.prog ++ Tryz.f3.resultTypes.toList).any (Tryz.pinned.checked.prog.wideKeysFrom ·)):Bool) = true:=by kernel_rfl
theorem k19:(Rows.dyeAlikeSpec.vars.all (Tryz.pinned.checked.prog.varReadable ·):Bool) = true:=by kernel_rfl
theorem k20:(Tryz.f3.resultTypes.all (fun t=>Tryz.pinned.checked.prog.readableRec t && decide (t < Tryz.pinned.checked.prog.types.size)):Bool) = true:=by kernel_rfl
theorem k21:((Rows.dyeAlikeRow.ifacesOut == Tryz.f3.resultTypes.toList.any (Tryz.pinned.checked.prog.ifacesRec ·)):Bool) = true:=by kernel_rfl
theorem k22:((Rows.dyeAlikeRow.loopsOut == Tryz.f3.resultTypes.toList.any (Tryz.pinned.checked.prog.loopsFrom ·)):Bool) = true:=by kernel_rfl
theorem k23:((Rows.dyeAlikeRow.plainKeys == Tryz.pinned.checked.prog.plainKeys):Bool) = true:=by kernel_rfl
theorem k24:(Rows.dyeAlikeRow.shortTexts.isNone:Bool) = true:=by kernel_rfl
theorem k27:((Rows.dyeAlikeRow.lifted == Tryz.pinned.checked.prog.liftsFinal):Bool) = true:=(congrArg (fun x=>(Rows.dyeAlikeRow.lifted == x)) liftsFinal).trans (by kernel_rfl)
theorem k28:((Tryz.pinned.checked.prog.make == some Rows.dyeAlikeRow.make):Bool) = true:=(congrArg (fun x=>(x == some Rows.dyeAlikeRow.make)) made).trans (by kernel_rfl)
theorem k29:((Rows.dyeAlikeRow.domain.isEmpty && Rows.dyeAlikeRow.kinds == []):Bool) = true:=by kernel_rfl
theorem k30:((Rows.dyeAlikeRow.pinned == Rows.dyeAlikeRow.pinnedBy):Bool) = true:=by kernel_rfl
theorem k31:((Rows.dyeAlikeRow.veiled == (Tryz.f3.params.toList ++ Rows.dyeAlikeSpec.plain.varTypes Tryz.pinned.checked.prog ++ Tryz.f3.resultTypes.toList).any (Tryz.pinned.checked.prog.veiledRec ·)):Bool) = true:=by kernel_rfl
theorem k32:(Rows.dyeAlikeRow.veiledFits Tryz.pinned.checked.prog Tryz.f3.params.toList (Tryz.f3.params.toList ++ Rows.dyeAlikeSpec.plain.varTypes Tryz.pinned.checked.prog ++ Tryz.f3.resultTypes.toList):Bool) = true:=by kernel_rfl
theorem closed:joinedFacts Tryz.pinned.checked.prog 3 Tryz.f3 Rows.dyeAlikeSpec Rows.dyeAlikeRow = true:=Z5i k1 ZcR Zgu k4 k5 k6 Zci k8 ZbI k10 k11 k12 k13 k14 k15 k16 k17 k18 k19 k20 k21 k22 k23 k24 stopsHeard mayEnter k27 k28 k29 k30 k31 k32
theorem named:Tryz.pinned.checked.prog.funcNamed Rows.dyeAlikeRow.func = some 3:=by kernel_rfl
theorem inst:Tryz.f3.isInstance Tryz.pinned.checked.prog Rows.dyeAlikeRow.origin Rows.dyeAlikeRow.targs:=of_decide_eq_true (by kernel_rfl)
theorem wrap:Tryz.f3.isWrapper Tryz.pinned.checked.prog Rows.dyeAlikeRow.wrapper Rows.dyeAlikeRow.mainSum:=by unfold Func.isWrapper;first | (rw [if_pos (by decide +kernel)];kernel_rfl) | (rw [if_neg (by decide +kernel)];exact ⟨rfl,rfl⟩)
theorem laidOut:laidOutB Tryz.prog = true:=ZcR
theorem noInit:Tryz.prog.inits.idxOf? 3 = none:=by kernel_rfl
theorem sliceInt:Tryz.prog.cellsOf 3 = 1:=by kernel_rfl
theorem okWide_cells {P:Program} {r:Reach} {t: TypeId} (ht:P.underlying t = some (.slice e)) (h:Value.okWide P w r base t (.slice a n c)): ∀ x,a = some x → x.spot = none ∧ ∃ cs e fz,w.heap[x.block]? = some (.cells cs e fz):=by
 rintro x rfl;simp only [Value.okWide,ht,Cell.okWide,Cell.ok] at h;obtain ⟨_,_,_,h1,row,cells,h2,_⟩:=h;refine ⟨h1,?_⟩;unfold World.shape? at h2
 cases hh:w.heap[x.block]? with
 | none=>rw [hh] at h2;cases h2
 | some o =>
  cases o with
  | cells cs e fz=>exact ⟨cs,e,fz,rfl⟩
  | _=>rw [hh] at h2;cases h2
theorem lifted (os:Os) (started:os.Started) (H:Type) (enc:TypeId × Value → H) (F:Stop.Interp) :
  ReturnsInLeavingWide Rows.dyeAlikeRow.assume Tryz.checked os 3 .any (Rows.dyeAlikeSpec.pre6 enc Tryz.prog Tryz.f3 Rows.dyeAlikeRow.domain false) ((OpenSpec.ofChange Rows.dyeAlikeSpec).postWith enc Tryz.prog Tryz.f3 F (outsideKept [.timePasses]) false true false):=by
 refine returnsInLeavingWide_of_change_time (C:=Tryz.checked) own started Tryz.func3
  (ChangeSpec.witness6c (enc:=enc) (C:=Tryz.checked) ⟨#[],#[.slice none 0 0],[]⟩ 8 (by as_aux_lemma=>kernel_rfl) (by as_aux_lemma=>kernel_rfl) (by as_aux_lemma=>kernel_rfl) (by as_aux_lemma=>kernel_rfl)) ?_
 intro W base args ds gs before hval0 hW _ _ _;have hval:∀ (j:Nat) t v,Tryz.f3.params[j]? = some t → args[j]? = some v → Value.okWide Tryz.prog W .any base t v:=hval0;have hW':=hW;obtain ⟨p,q,hA0,hV,rfl,hfz,hnd⟩:=hW;have hA:DataW.TrodAll enc Tryz.prog W 0 (fun _=>true) true Tryz.f3.params.toList args.toList ds p:=hA0;rw [Tryz.params3] at hA hval;obtain ⟨v0,vs0,d0,ds0,p0,q0,hargs,rfl,rfl,h0,r0⟩:=trodAll_cons hA;obtain ⟨rfl,rfl,rfl⟩:=trodAll_nil r0;obtain rfl:args = #[v0]:=by cases args;simp_all
 obtain ⟨rfl,rfl⟩:=trodVars_none hV;have hok:=hval 0 22 v0 rfl rfl;obtain ⟨a0,len0,cap0,rfl⟩:=okWide_slice Tryz.underlying22 hok;have hcl:=okWide_cells Tryz.underlying22 hok;have k0:=h0;have lt0:∀ x ∈ p0,x.block < W.heap.size:=by obtain ⟨m,hm⟩:=k0;exact DataW.trod_lt m _ _ _ hm
 obtain ⟨z0,w0⟩:∃ zs,ZaL .i64 W a0 len0 cap0 zs:=by
  obtain ⟨fuel,hf⟩:=h0
  rcases open_ints Tryz.underlying22 Tryz.underlying3 sliceInt hf with ⟨hcs,_⟩ | ⟨x,l,c,zs,hcs,_,hl,hm,hz,_,hcell,hwz⟩
  ·simp [Value.cells] at hcs
   obtain ⟨rfl,rfl,rfl⟩:=hcs;exact ⟨[],.inl ⟨rfl,rfl,rfl,rfl⟩⟩
  ·simp [Value.cells] at hcs
   obtain ⟨rfl,rfl,rfl⟩:=hcs;exact ⟨zs,.inr ⟨_,rfl,hl,hm,by simpa using hz,hcell,hwz⟩⟩
 clear hA0 hval0;obtain ⟨M,last,o,w',t',r1,r2,r3,v,e,hp,g1,g2,g3,g4⟩:=Lift.law_run W a0 len0 cap0 z0 w0 hcl;refine ⟨M,last,o,w',t',r1,r2,r3,v,e,⟨?_,hp.2.2.2.1⟩,g1,g2,g3,g4⟩;obtain ⟨rfl,hold,hsz,_,hout⟩:=hp;have bel:Below W.heap.size W { w' with os:=W.os,tape:=W.tape }:=⟨rfl,rfl,hout,hsz,hold⟩;have hp2:Rows.dyeAlikeSpec.post enc Tryz.prog Tryz.f3 false true false false W #[.slice a0 len0 cap0] (.bool true) { w' with os:=W.os,tape:=W.tape }:=
  ⟨_,_,_,[],_,[],hW',trodAll_mk1 (shut_bool Tryz.underlying4 _),(trodAll_cons_mk (Below.trod laidOut (by as_aux_lemma=>kernel_rfl) (of_decide_eq_true (by as_aux_lemma=>kernel_rfl)) k0 bel lt0) trodAll_mk0),rfl,bel.frame _,fun h=>by cases h⟩
 obtain ⟨ds,gs,before,pr,pa,pv,q1,q2,q3,q4,q5,_⟩:=hp2;exact ⟨ds,gs,before,pr,pa,pv,q1,q2.of_heap (by rfl),q3.of_heap (by rfl),q4.of_heap (by rfl),q5,fun h=>by cases h⟩
theorem said:Rows.DyeAlikeSaid:=
 OpenClaim.holds_of_wide_leaving_time 3 Tryz.f3 rfl rfl rfl rfl rfl rfl rfl ⟨rfl,rfl,rfl,rfl,rfl⟩ rfl rfl rfl rfl rfl named Tryz.func3 closed
  inst wrap (fun os started H enc _ F=>lifted os started H enc F)
end Go.Proofs.YtfelljbfeoplhaaGreat.dyeAlike
namespace Go.Proofs.YtfelljbfeoplhaaGreat
variable {μ:Nat}
theorem dyeAlike_said:Rows.DyeAlikeSaid:=dyeAlike.said
end Go.Proofs.YtfelljbfeoplhaaGreat
