/- Parts of a proof: Xv, Xw, Xu, Xx, Dkr, Dst, Dks, Dkv, LDyeMost, Zm, FrDyeMost, ClDyeMost. No conditions. -/
import Derived.Below
import Derived.ChangeOld
import Derived.Conc.Holds
import Derived.Conc.HoldsTime
import Derived.Leaving
import Derived.Maps.AppendAt
import Derived.OpenShut
import Derived.ProofKit
import Derived.ShutString
import Derived.WalkKit
import Derived.Test.YtfelljbfeoplhaaGreatPmo1
import Derived.Test.YtfelljbfeoplhaaGreatPmo5
import Derived.Test.YtfelljbfeoplhaaGreatPmo6
import Derived.Test.YtfelljbfeoplhaaGreatPmo7
import Derived.Test.YtfelljbfeoplhaaGreatPmo8
import Derived.Test.YtfelljbfeoplhaaGreatPmo9
import Derived.Test.YtfelljbfeoplhaaGreatPmo11
set_option linter.unusedVariables false
set_option linter.unusedSimpArgs false
set_option linter.unusedSectionVars false
set_option maxRecDepth 100000
set_option maxHeartbeats 4000000
namespace Go.Proofs.YtfelljbfeoplhaaGreat
variable{b base c i j k m n ob s:Nat}{ls xs:List Int}{W w:Go.World}{e:Go.TypeId}{v:Go.Value}{T:List (List Int)}{R:List Go.Value}{a:Option Go.Addr}{β:Nat→Bool}{S:Nat→Prop}
section
open Go.RowKit
variable{μ:Nat}
def Z37:List Int→List Int→Bool
 | [],ys=>decide (0<ys.length)
 | _::_,[]=>false
 | x::xs,y::ys=>if x≠y then decide (x<y) else Z37 xs ys
theorem Z6c(xs ys:List Int)(hx:i<xs.length)(hy:i<ys.length): Z37 (xs.drop i) (ys.drop i)=if xs.getD i 0≠ys.getD i 0 then decide (xs.getD i 0<ys.getD i 0) else Z37 (xs.drop (i+1)) (ys.drop (i+1)):=by
 rw[List.drop_eq_getElem_cons hx,List.drop_eq_getElem_cons hy,Z37];simp[hx,hy]
theorem Z8a(xs ys:List Int)(h:i=xs.length∨i=ys.length)(hx:i≤xs.length)(hy:i≤ys.length): Z37 (xs.drop i) (ys.drop i)=decide (xs.length<ys.length):=by
 rcases h with h | h
 ·subst h
  rw[List.drop_length,Z37,List.length_drop];simp only[decide_eq_decide];omega
 ·subst h
  rw[List.drop_length]
  cases hd:xs.drop ys.length with
  | nil =>
   have:=congrArg List.length hd;rw[List.length_drop]at this;simp only[Z37,List.length_nil,decide_eq_decide,this]at *;omega
  | cons a l =>
   have:=congrArg List.length hd;rw[List.length_drop,List.length_cons]at this;rw[Z37]
   symm
   rw[decide_eq_false_iff_not];omega
theorem Zfc(xs ys:List Int)(xa ya:Option Addr)(xc yc:Nat)(w:World)(hx:Z8 w (.slice xa xs.length xc) 1 (xs.map Z6))(hy:Z8 w (.slice ya ys.length yc) 1 (ys.map Z6))(lx:xs.length≤1000000)(ly:ys.length≤1000000):
  Calls (Qy.prog μ) 77 #[.slice xa xs.length xc,.slice ya ys.length yc] w fun e w'=>e = .returned (.bool (Z37 xs ys))∧Ext [] w w':=by
 have E:Ext [] w w:=Ext.refl _ _;have HX:=Lib.hid (Zc hx 0);have HY:=Lib.hid (Zc hy 0);clear hx hy;have G:=(Bk.nil w).ce E;refine(ent 41 Tryz.f77 rfl) fun F=>wR fun k1=>(F.m) fun F=>k1<|wQ fun k2=>wR fun k3=>(F.m) fun F=>k3<|Yh<|lpB (F.b [0,1]) G (min xs.length ys.length) (fun i Lv Sv W=>Lv=[(5,.int .i64 ((i:Nat):Int))]∧Sv=[]∧Z37 xs ys=Z37 (xs.drop i) (ys.drop i)) ⟨_,_,F.u,G.u,rfl,rfl,(by rw[List.drop_zero,List.drop_zero])⟩ ?_
 clear F G;rintro i _ w1 _ _ hi1 ⟨rfl,rfl,hl⟩ F G;replace G:=G.z;refine wQ fun k4=>wR fun k5=>(F.m) fun F=>(F.m) fun F=>(F.y F.ln) fun F=>(F.y F.ls) fun F=>(F.m) fun F=>?_
 by_cases hg1:(((i:Nat):Int)<((xs.length:Nat):Int))
 ·replace F:=F.re (k:=10) rfl (congrArg Value.bool (decide_eq_true hg1))
  refine(F.m) fun F=>(F.m) fun F=>(F.y F.ln) fun F=>(F.y F.ls) fun F=>(F.y F.pT) fun F=>k5<|F.ci (fun hc15=>?_) (fun hc15=>?_)
  ·refine Yi<|k4<|wQ fun k6=>Yh<|wQ fun k7=>(wX 8 G) fun G=>(F.sm) fun F=>(F.sm) fun F=>(F.sx HX.out i) fun xr8 F=>(F.s (F.l1 (xr8 _ (G.e 0)) 0)) fun F=>(F.sm) fun F=>(F.sm) fun F=>(F.sx HY.out i) fun xr9 F=>(F.s (F.l1 (xr9 _ (G.e 0)) 0)) fun F=>wpStill_nil<|(F.y F.ne) fun F=>k7<|F.ci (fun hc26=>?_) (fun hc26=>?_)
   ·refine wQ fun k10=>(wX 9 G) fun G=>(F.sm) fun F=>(F.sm) fun F=>(F.sx HX.out i) fun xr11 F=>(F.s (F.l1 (xr11 _ (G.e 0)) 0)) fun F=>(F.sm) fun F=>(F.sm) fun F=>(F.sx HY.out i) fun xr12 F=>(F.s (F.l1 (xr12 _ (G.e 0)) 0)) fun F=>(F.s F.ls) fun F=>wpStill_nil<|(F.m) fun F=>k10<|(F.r1) ?_
    exact⟨by rw[hl,Z6c xs ys (by omega) (by omega),if_pos (by omega)],(G.e 0)⟩
   ·refine Yi<|k6<|Yg<|(F.m) fun F=>(F.y F.ad) fun F=>(F.m) fun F=>?_
    show _∧_;exact⟨by omega,_,_,F.u,G.u,rfl,rfl,(by rw[hl,Z6c xs ys (by omega) (by omega),if_neg (by omega)])⟩
  ·refine wp_exit<|k2<|wR fun k13=>(F.m) fun F=>(F.y F.ln) fun F=>(F.m) fun F=>(F.y F.ln) fun F=>(F.y F.ls) fun F=>(F.m) fun F=>k13<|(F.r1) ?_
   exact⟨by rw[hl,Z8a xs ys (by omega) (by omega) (by omega)];congr 2;simp,(G.e 0)⟩
 ·replace F:=F.re (k:=10) rfl (congrArg Value.bool (decide_eq_false hg1))
  refine(F.n) fun F=>(F.n) fun F=>(F.n) fun F=>(F.n) fun F=>(F.y F.pF) fun F=>k5<|(F.cF)<|wp_exit<|k2<|wR fun k14=>(F.m) fun F=>(F.y F.ln) fun F=>(F.m) fun F=>(F.y F.ln) fun F=>(F.y F.ls) fun F=>(F.m) fun F=>k14<|(F.r1) ?_
  exact⟨by rw[hl,Z8a xs ys (by omega) (by omega) (by omega)];congr 2;simp,(G.e 0)⟩
theorem Zd8{ys: List Int}{va vb:Value}(hx:Z3i w va xs)(hy:Z3i w vb ys)(lx:xs.length≤1000000)(ly:ys.length≤1000000):
  Calls (Qy.prog μ) 77 #[va,vb] w fun e w'=>e = .returned (.bool (Z37 xs ys))∧Ext [] w w':=by
 obtain⟨xa,xc,rfl,hx⟩:=hx;obtain⟨ya,yc,rfl,hy⟩:=hy;exact Zfc xs ys xa ya xc yc w hx hy lx ly
section
variable{α:Type}
def Z5G(d:α)(O:List α)(k:Nat):List α:=(O.set k (O.getD (k-1) d)).set (k-1) (O.getD k d)
theorem Z3R(d:α)(O:List α)(k:Nat):(Z5G d O k).length=O.length:=by simp[Z5G]
theorem Z49(d:α){O:List α}(hk:k<O.length): (Z5G d O k).Perm O:=by
 have:=@List.set_set_perm _ O k (k-1) hk (by omega);unfold Z5G;rw[show O.getD (k-1) d=O[k-1] by simp[show k-1<O.length by omega],show O.getD k d=O[k] by simp[hk]];exact this
def bbl(key:α→List Int)(d:α):List α→Nat→List α
 | O,0=>O
 | O,k+1=>if Z37 (key (O.getD (k+1) d)) (key (O.getD k d)) then bbl key d (Z5G d O (k+1)) k else O
theorem Zc1(key:α→List Int)(d:α):∀(k:Nat) (O:List α),(bbl key d O k).length=O.length
 | 0,_=>rfl
 | k+1,O=>by
  rw[bbl]
  split
  ·rw[Zc1 key d k,Z3R]
  ·rfl
def Z0P(key:α→List Int)(d:α)(O:List α):Nat→List α
 | 0=>O
 | i+1=>bbl key d (Z0P key d O i) (i+1)
theorem Z0E(key:α→List Int)(d:α)(O:List α):∀i,(Z0P key d O i).length=O.length
 | 0=>rfl
 | i+1=>by rw[Z0P,Zc1,Z0E key d O i]
theorem Ze8(key:α→List Int)(d:α)(O:List α)(h:k<O.length): (Z5G d O k).map key=Z5G [] (O.map key) k:=by
 unfold Z5G;rw[List.map_set,List.map_set,Z2I key d O (by omega),Z2I key d O h]
theorem Zc2(key:α→List Int)(d:α):∀(k:Nat) (O:List α),(k<O.length∨k=0)→(bbl key d O k).map key=bbl id [] (O.map key) k
 | 0,_,_=>rfl
 | k+1,O,h=>by
  rw[bbl,bbl,Z2I key d O (by omega),Z2I key d O (by omega)];simp only[id]
  split
  ·rw[Zc2 key d k _ (by rw[Z3R];omega),Ze8 key d O (by omega)]
  ·rfl
theorem Z6k(key:α→List Int)(d:α)(O:List α):∀i,(i<O.length∨i=0)→(Z0P key d O i).map key=Z0P id [] (O.map key) i
 | 0,_=>rfl
 | i+1,h=>by rw[Z0P,Z0P,Zc2 key d (i+1) _ (by rw[Z0E];omega),Z6k key d O i (by omega)]
end
def Z2q(P:Nat→List (List Int))(m i:Nat):List (List Int):=(List.range i).flatMap fun d=>(P (m+d)).map (· ++ [((m+d:Nat):Int)])
def Z0u:Nat→Nat→List (List Int)
 | _,0=>[[]]
 | n,m+1=>Z0P id [] (Z2q (fun k=>Z0u k m) m (n-m)) ((Z2q (fun k=>Z0u k m) m (n-m)).length-1)
theorem Z5k(P:Nat→List (List Int))(m i:Nat):Z2q P m (i+1)=Z2q P m i++(P (m+i)).map (· ++ [((m+i:Nat):Int)]):=by simp[Z2q,List.range_succ]
theorem Z6h(P:Nat→List (List Int))(m B:Nat)(hP:∀k,k<m+i→m≤k→(P k).length≤B): (Z2q P m i).length≤i*B:=by
 induction i with
 | zero=>simp[Z2q]
 | succ i ih =>
  have:=hP (m+i) (by omega) (by omega);have:=ih fun k hk hk2=>hP k (by omega) hk2;rw[Z5k,Ym,Yj,Nat.add_mul];omega
theorem Z44:∀(m n:Nat),n≤8→(Z0u n m).length≤8 ^ m
 | 0,n,_=>by simp[Z0u]
 | m+1,n,hn=>by
  rw[Z0u,Z0E];have:=Z6h (i:=n-m) (fun k=>Z0u k m) m (8 ^ m) fun k hk hk2=>Z44 m k (by omega);rw[Nat.pow_succ];have h2:(n-m)*8 ^ m≤8*8 ^ m:=Nat.mul_le_mul_right _ (by omega);omega
def Z3f(w:World)(n m:Nat)(e:Ending)(w':World):Prop:=
 ∃(L:List (Value×List Int)) (a:Option Addr) (c:Nat),e = .returned (.slice a L.length c)∧L.map (·.2)=Z0u n m∧w'.ownsRow w.heap.size 22 1 (.slice a L.length c) L.length (L.map (·.1))∧FamT w' w.heap.size L∧Ext [] w w'
theorem Zfx(h:w.heap[b]?=some (.cells #[v] e (0,0)))(hb:base≤b): w.ownsRow base e 1 (.slice (some ⟨b,0,none⟩) 1 1) 1 [v]:=
 ⟨rfl,.inr ⟨b,1,#[v],rfl,hb,h,Ye _,by decide,rfl,rfl⟩⟩
theorem Zbf(n:Nat)(w:World):Calls (Qy.prog μ) 24 #[.int .i64 n,.int .i64 0] w (Z3f w n 0):=by
 have E:Ext [] w w:=Ext.refl _ _;have G:=(Bk.nil w).ce E;refine(ent 81 Tryz.f24 rfl) fun F=>wR fun k1=>(F.m) fun F=>k1<|wQ fun k2=>wR fun k3=>(F.m) fun F=>(F.y F.eqT) fun F=>k3<|(F.cT)<|wR fun k4=>(F.bs G 1 #[.slice none 0 0] Qy.zeroValue22) fun yy F G=>(F.m) fun F=>k4<|(F.r1) ?_
 exact⟨[(.slice none 0 0,[])],_,_,rfl,rfl,Zfx (G.q 0) (by omega),⟨fun p hp=>by obtain rfl:p=(.slice none 0 0,[]):=(by simpa using hp);exact World.ownsRow_nil _ _ _ _,List.pairwise_singleton _ _⟩,(G.e 1)⟩
theorem Z9K{α:Type}(key:α→List Int)(d:α):∀(k:Nat) (O:List α),(k<O.length∨k=0)→(bbl key d O k).Perm O
 | 0,_,_=>.refl _
 | k+1,O,h=>by
  rw[bbl]
  split
  ·exact(Z9K key d k _ (by rw[Z3R];omega)).trans (Z49 d (by omega))
  ·exact .refl _
theorem Z3c{α:Type}(key:α→List Int)(d:α)(O:List α):∀i,(i<O.length∨i=0)→(Z0P key d O i).Perm O
 | 0,_=>.refl _
 | i+1,h=>by
  rw[Z0P];exact(Z9K key d (i+1) _ (by rw[Z0E];omega)).trans (Z3c key d O i (by omega))
theorem Z45:∀(m n:Nat),∀l∈Z0u n m,l.length=m
 | 0,n,l,h=>by obtain rfl:l=[]:=(by simpa[Z0u] using h);rfl
 | m+1,n,l,h=>by
  rw[Z0u]at h;have h:=(Z3c id [] _ _ (by omega)).mem_iff.1 h;obtain⟨d,-,h⟩:=List.mem_flatMap.1 h;obtain⟨l',h',rfl⟩:=List.mem_map.1 h;rw[Ym,Z45 m _ l' h',List.length_singleton]
theorem Z8k(k m:Nat)(hj:j<(Z0u k m).length): ((Z0u k m).getD j []).length=m:=Z45 m k _ (Z5 [] hj)
theorem Z5P{n: Nat}(hm:m≤5){l:List Int}(h:l∈Z2q (fun k=>Z0u k m) m i): l.length≤1000:=by
 obtain⟨d,-,h⟩:=List.mem_flatMap.1 h;obtain⟨l',h',rfl⟩:=List.mem_map.1 h;rw[Ym,Z45 m _ l' h',List.length_singleton];omega
theorem Z9L{α:Type}{key:α→List Int}{d:α}{O:List α}(h:k=0∨Z37 (key (O.getD k d)) (key (O.getD (k-1) d))=false): bbl key d O k=O:=by
 cases k with
 | zero=>rfl
 | succ k =>
  rcases h with h | h
  ·omega
  ·rw[bbl,if_neg (by rw[show k+1-1=k by omega]at h;rw[h];simp)]
theorem Zjw{α:Type}{key:α→List Int}{d:α}{O:List α}(hk:0<k)(h:Z37 (key (O.getD k d)) (key (O.getD (k-1) d))=true): bbl key d O k=bbl key d (Z5G d O k) (k-1):=by
 obtain⟨k,rfl⟩:∃j,k=j+1:=⟨k-1,by omega⟩;rw[show k+1-1=k by omega]at h⊢;rw[bbl,if_pos h]
theorem Zg9(O:List (Value×List Int))(d:Value×List Int)(k:Nat):(Z5G d O k).map (·.1)=((O.map (·.1)).set k (O.getD (k-1) d).1).set (k-1) (O.getD k d).1:=by
 unfold Z5G;rw[List.map_set,List.map_set]
theorem Zbe(n m:Nat)(hn:n≤8)(hm:m≤5)(ih:∀k:Nat,k≤8→∀w,Calls (Qy.prog μ) 24 #[.int .i64 (k:Nat),.int .i64 (m:Nat)] w (Z3f w k m))(w:World):
  Calls (Qy.prog μ) 24 #[.int .i64 n,.int .i64 ((m+1:Nat):Int)] w (Z3f w n (m+1)):=by
 have E:Ext [] w w:=Ext.refl _ _;have hB8:8 ^ m≤32768:=Yd (Nat.pow_le_pow_right (by omega) hm) (by decide);have hPl:RowKit.Hid (∀k:Nat,k≤8→(Z0u k m).length≤8 ^ m):=fun k hk=>Z44 m k hk;have oo:w.ownsRow w.heap.size 22 1 (.slice none 0 0) 0 (([]:List (Value×List Int)).map (·.1)):=World.ownsRow_nil _ _ _ _;have fam:FamT w w.heap.size []:=Z58 _ _;refine Z0d 81 Qy.func24 rfl Tryz.ntmps24 (Nat.le_of_ble_eq_true rfl) ?_;intro fa F;refine wS fun K1 hK1=>?_;refine Yg ?_;refine F.vl (Zy rfl (ev_c fa _)) fun fa F=>?_;refine wN<|hK1 _ _<|wS fun K2 hK2=>wS fun K3 hK3=>?_
 refine Yg ?_;refine F.mv fun fa F=>?_;refine F.vl (Z7O rfl (F.at rfl) (ev_c fa _)) fun fa F=>?_;refine wN<|hK3 _ _ ?_
 refine ZjD F rfl (decide_eq_false ((by omega))) ?_;refine Yi ?_;refine hK2 _ _<|wS fun K4 hK4=>?_
 refine Yg ?_;refine F.vl (Zy rfl (ev_c fa _)) fun fa F=>?_;refine wN<|hK4 _ _<|wS fun K5 hK5=>wS fun K6 hK6=>?_
 refine Yg ?_;refine F.mv fun fa F=>?_;refine F.vl (Z6A rfl (F.at rfl) (ev_c fa _) (by omega) (by omega)) fun fa F=>?_;rw[show (((m+1:Nat):Int)-1)=((m+0:Nat):Int) by omega]at F;refine F.as fun fa F=>?_;refine wN<|hK6 _ _ ?_
 refine Yh ?_;have F0:=F.sub (.c 0 rfl (.c 1 rfl .n));refine Z3C F0 (n-m) (fun i Lv W=>∃va:Option Addr,∃vc:Nat,∃O:List (Value×List Int),Lv=[(5,.slice va O.length vc),(6,.int .i64 ((m+i:Nat):Int))]∧Ext [] w W∧W.ownsRow w.heap.size 22 1 (.slice va O.length vc) O.length (O.map (·.1))∧FamT W w.heap.size O∧O.map (·.2)=Z2q (fun k=>Z0u k m) m i) ⟨_,⟨none,0,[],rfl,E,oo,fam,rfl⟩,F.sub (.c 5 rfl (.c 6 rfl (.c 0 rfl (.c 1 rfl .n))))⟩ ?_;clear F F0;clear E;clear oo;clear fam;rintro i _ fa w1 hi1 ⟨va,vc,O,rfl,E,oo,fam,hO⟩ F;have hOl:O.length≤8*8 ^ m:=by rw[←Yj (f:=fun p:Value×List Int=>p.2),hO];exact Yd (Z6h _ m (8 ^ m) fun k hk hk2=>hPl.out k (by omega)) (Nat.mul_le_mul_right _ (by omega))
 refine wS fun K7 hK7=>wS fun K8 hK8=>?_;refine Yg ?_;refine F.mv fun fa F=>?_;refine F.mv fun fa F=>?_;refine F.vl (Z4T rfl (F.at rfl) (F.at rfl)) fun fa F=>?_;refine wN<|hK8 _ _ ?_
 refine Z7V F rfl (fun hc18=>?_) (fun hc18=>?_)
 ·skip
  refine Yi ?_;refine hK7 _ _<|wS fun K9 hK9=>?_
  refine Yh ?_;refine wS fun K10 hK10=>?_;refine Yg ?_;refine F.mv fun fa F=>?_;refine F.mv fun fa F=>?_;refine F.vl (Z6A rfl (F.at rfl) (ev_c fa _) (by omega) (by omega)) fun fa F=>?_;rw[show (((m+1:Nat):Int)-1)=((m:Nat):Int) by omega]at F;have hflt:=Lib.hid (Z84 fam);obtain⟨BL,hBL⟩:∃BL,BL=w1.heap.size:=⟨_,rfl⟩;rw[←hBL]at hflt;have hwBL:w.heap.size≤BL:=by rw[hBL];exact E.size
  have hooB:=Lib.hid (Ziv oo);rw[←hBL]at hooB;refine sqC F (Z03 rfl rfl Qy.call24 (mpS (F.at rfl) (mpS (F.at rfl) mp0))) (ih (m+i) (by omega) _) fun e w2 hR=>?_;obtain⟨L,la,lc,rfl,hLp,ol,famL,e1⟩:=hR;refine⟨_,rfl,fun fa F=>?_⟩;replace oo:=ZS oo (e1) (by simp);replace fam:=ZG fam fun _ _ _ h=>ZS h (e1) (by simp);replace E:=Ze E (e1);clear e1;rw[←hBL]at ol famL;clear hBL;have hlo:RowKit.Hid ((Value.slice la L.length lc).ownBlock=none∨(Value.slice la L.length lc).ownBlock≠(Value.slice va O.length vc).ownBlock):=Zds ol hooB.out;have fam2:=Z3u famL fam hflt.out hwBL;clear fam famL hflt hooB;have fam:=fam2;clear fam2;have hLl:L.length≤8 ^ m:=by rw[←Yj (f:=fun p:Value×List Int=>p.2),hLp];exact hPl.out _ (by omega)
  refine F.as fun fa F=>?_;refine wN<|hK10 _ _<|wS fun K11 hK11=>?_
  refine Yg ?_;refine F.vl (Zy rfl (ev_c fa _)) fun fa F=>?_;refine wN<|hK11 _ _ ?_
  refine Yh ?_;have F0:=F.sub (.c 0 rfl (.c 1 rfl (.c 6 rfl (.c 7 rfl .n))));refine Z3C F0 (L.length) (fun j Lv W=>∃va2:Option Addr,∃vc2:Nat,∃P:List (Value×List Int),Lv=[(5,.slice va2 P.length vc2),(8,.int .i64 ((j:Nat):Int))]∧Ext [] w W∧W.ownsRow BL 22 1 (.slice la L.length lc) L.length (L.map (·.1))∧W.ownsRow w.heap.size 22 1 (.slice va2 P.length vc2) P.length (P.map (·.1))∧FamT W w.heap.size (L.drop j++P)∧RowKit.Hid ((Value.slice la L.length lc).ownBlock=none∨(Value.slice la L.length lc).ownBlock≠(Value.slice va2 P.length vc2).ownBlock)∧P.map (·.2)=O.map (·.2)++((L.map (·.2)).take j).map (· ++ [((m+i:Nat):Int)])) ⟨_,⟨va,vc,O,rfl,E,ol,oo,fam,hlo,(by simp)⟩,F.sub (.c 5 rfl (.c 8 rfl (.c 0 rfl (.c 1 rfl (.c 6 rfl (.c 7 rfl .n))))))⟩ ?_;clear F F0;clear E ol;clear oo;clear fam;rintro j _ fa w3 hi2 ⟨va2,vc2,P,rfl,E,ol,oo,fam,hlo,hP⟩ F;have hPl2:P.length=O.length+j:=by have:=congrArg List.length hP;simp only[Yj,Ym,List.length_take]at this;omega
  refine wS fun K12 hK12=>wS fun K13 hK13=>?_;refine Yg ?_;refine F.mv fun fa F=>?_;refine F.mv fun fa F=>?_;refine F.vl (Z4R rfl rfl (F.at rfl) Qy.underlying25) fun fa F=>?_;refine F.vl (Z4T rfl (F.at rfl) (F.at rfl)) fun fa F=>?_;refine wN<|hK13 _ _ ?_
  refine Z7V F rfl (fun hc28=>?_) (fun hc28=>?_)
  ·skip
   refine Yi ?_;refine hK12 _ _<|wS fun K14 hK14=>?_
   refine Yh ?_;rw[Zcs (.bool true,[]) (show j<L.length by omega)]at fam;obtain⟨x,hxL⟩:∃x,x=L.getD j (.bool true,[]):=⟨_,rfl⟩;rw[←hxL]at fam;have hx:=fam.1 x (by simp);obtain⟨ya,yc,hx1⟩:=Zi hx;obtain⟨x1,xm⟩:=x;simp only at hx hx1;subst hx1;have EL:Ext [] w3 w3:=Ext.refl _ _;have HLs:=Lib.hid (Z0v ol rfl);have hxm:xm=(L.map (·.2)).getD j []:=by rw[Z2I (fun p:Value×List Int=>p.2) (.bool true,[]) L (by omega),←hxL]
   have hxl:xm.length=m:=by rw[hxm,hLp];exact Z8k _ _ (by rw[←hLp,Yj];omega)
   refine Yg ?_;refine F.mv fun fa F=>?_;refine F.mv fun fa F=>?_;refine F.mv fun fa F=>?_;obtain⟨xb15,xo15,xa15,xr15⟩:=HLs.out j (by omega);refine F.vl (Z0o (sz:=1) rfl ((F.at rfl).trans (xa15 _ _)) (F.at rfl) Qy.underlying25 (by kernel_rfl) (by omega) (by omega)) fun fa F=>?_;refine F.vl (Zz rfl (F.at rfl) Qy.underlying22 rfl (xr15 _ EL 0 _ rfl)) fun fa F=>?_;rw[←hxL]at F;refine F.mv fun fa F=>?_;refine sqN F (ZL rfl (prS (F.at rfl) pr0) Qy.underlying22 (size:=1) (by kernel_rfl) (by decide) (by decide) Qy.zeroValue3 (cells:=#[.int .i64 ((m+i:Nat):Int)]) (by kernel_rfl)) fun fa w4 F hw=>?_;obtain⟨n37,hn⟩:=eQ w3.heap.size;rw[←hn]at F;have s37:=sQ hn;have l37_E:=lQ hn E.size;have o37_oo:=Lib.hid (ZE oo hn);have o37_ol:=Lib.hid (ZE ol hn);have o37_hx:=Lib.hid (ZE hx hn);replace oo:=Zr hw oo;replace fam:=ZG fam fun _ _ _ h=>Zr hw h;replace ol:=Zr hw ol;replace hx:=Zr hw hx;replace E:=Z7 E hw;have q37:=ZV hw hn;clear hw hn;have hEs:=E.size;refine ZA F rfl (by decide) rfl (Z2Y rfl (w.heap.size) (e:=3) (size:=1) (bytes:=8) Qy.underlying22 (by kernel_rfl) (by decide) (F.at rfl) hx (F.at rfl) q37 rfl (by simp[Value.oneCell']) (by omega) (by omega) (by omega)) ?_;clear F fa;rintro fa v' w5 F ⟨hown',⟨hg,hblk⟩⟩;obtain⟨va38,vc38,rfl⟩:=Zi hown';rw[Z0q]at hown';have fam2:=ZhL (m':=xm++[((m+i:Nat):Int)]) fam (by rw[Ym];exact hown') hg hblk;replace oo:=Z0B oo hx hg (by decide);replace fam:=fam2;replace ol:=Z0B ol hx hg (by decide);replace E:=ZN E hx hg (by omega);replace hx:=hown';clear hg;clear fam2 hx hblk;refine sqN F (ZL rfl (prS (F.at rfl) pr0) Qy.underlying25 (size:=1) (by kernel_rfl) (by decide) (by decide) Qy.zeroValue22 (cells:=#[.slice va38 (xm.length+1) vc38]) (by kernel_rfl)) fun fa w6 F hw=>?_;obtain⟨n39,hn⟩:=eQ w5.heap.size;rw[←hn]at F;have s39:=sQ hn;have l39_E:=lQ hn E.size;have o39_oo:=Lib.hid (ZE oo hn);have o39_ol:=Lib.hid (ZE ol hn);replace oo:=Zr hw oo;replace fam:=ZG fam fun _ _ _ h=>Zr hw h;replace ol:=Zr hw ol;replace E:=Z7 E hw;have q39:=ZV hw hn;clear hw hn;have hEs2:=E.size;refine ZA F rfl (by decide) rfl (Z2Y rfl (w.heap.size) (e:=22) (size:=1) (bytes:=24) Qy.underlying25 (by kernel_rfl) (by decide) (F.at rfl) oo (F.at rfl) q39 rfl (by simp[Value.oneCell']) (by omega) (by omega) (by omega)) ?_;clear F fa;rintro fa v' w7 F ⟨hown',⟨hg,hblk⟩⟩;obtain⟨va40,vc40,rfl⟩:=Zi hown';have hlo2:=Zbc hlo.out ol hblk;replace fam:=ZG fam fun _ _ _ h=>Z0B h oo hg (by decide);replace ol:=ol.kept hg hlo.out;replace E:=ZN E oo hg (by omega);replace oo:=hown';clear hg;obtain⟨P2,hP2e⟩:∃P2,P2=P++[(Value.slice va38 (xm.length+1) vc38,xm++[((m+i:Nat):Int)])]:=⟨_,rfl⟩;have hPl3:P.length+1=P2.length:=by rw[hP2e,Ym];rfl
   have hP2:P2.map (·.2)=O.map (·.2)++((L.map (·.2)).take (j+1)).map (· ++ [((m+i:Nat):Int)]):=by rw[hP2e,List.map_append,hP,Zec [] (by rw[Yj];omega),List.map_append,←hxm,List.append_assoc];rfl
   rw[show P.map (·.1)++[Value.slice va38 (xm.length+1) vc38]=P2.map (·.1) by rw[hP2e,List.map_append];rfl,hPl3]at oo;rw[hPl3]at F hlo2;replace fam:FamT w7 w.heap.size (L.drop (j+1)++P2):=Z2H fam (by rw[hP2e,←List.append_assoc];exact List.perm_append_comm);clear hlo;have hlo:=Lib.hid hlo2;clear hlo2 hblk;refine F.as fun fa F=>?_;refine wN<|hK14 _ _ ?_
   refine Yg ?_;refine F.mv fun fa F=>?_;refine F.vl (Z3T rfl (F.at rfl) (ev_c fa _) (by omega) (by omega)) fun fa F=>?_;refine F.as fun fa F=>?_;refine wpList_nil ?_;show _∧_;exact⟨by omega,_,⟨_,_,_,rfl,E,ol,oo,fam,hlo,hP2⟩,F.sub (.c 5 rfl (.c 8 rfl (.c 0 rfl (.c 1 rfl (.c 6 rfl (.c 7 rfl .n))))))⟩
  ·skip
   refine wp_exit ?_;have hO3:P.map (·.2)=Z2q (fun k=>Z0u k m) m (i+1):=by rw[hP,hO,Z5k,hLp,List.take_of_length_le (by rw[←hLp,Yj];omega)]
   rw[List.drop_eq_nil_of_le (by omega),List.nil_append]at fam;refine hK9 _ _ ?_;refine Yg ?_;refine F.mv fun fa F=>?_;refine F.vl (Z3T rfl (F.at rfl) (ev_c fa _) (by omega) (by omega)) fun fa F=>?_;refine F.as fun fa F=>?_;refine wpList_nil ?_;show _∧_;exact⟨by omega,_,⟨_,_,_,rfl,E,oo,fam,hO3⟩,F.sub (.c 5 rfl (.c 6 rfl (.c 0 rfl (.c 1 rfl .n))))⟩
 ·skip
  refine wp_exit ?_;obtain rfl:i=n-m:=by omega
  have hOm:RowKit.Hid (∀x∈O,x.2.length≤1000):=fun x hx=>Z5P (n:=n) hm (by rw[←hO];exact List.mem_map_of_mem hx);have hOF:O.length=(Z2q (fun k=>Z0u k m) m (n-m)).length:=by rw[←hO,Yj]
  refine hK5 _ _<|wS fun K16 hK16=>wS fun K17 hK17=>?_
  refine Yg ?_;refine F.vl (Zy rfl (ev_c fa _)) fun fa F=>?_;refine wN<|hK17 _ _ ?_
  refine Yh ?_;have F0:=F.sub (.c 5 rfl .n);refine Z3C F0 (O.length-1) (fun p Lv W=>Lv=[(9,.int .i64 ((p+1:Nat):Int))]∧Ext [] w W∧W.ownsRow w.heap.size 22 1 (.slice va O.length vc) O.length ((Z0P (fun p=>p.2) (.bool true,[]) O p).map (·.1))∧FamT W w.heap.size (Z0P (fun p=>p.2) (.bool true,[]) O p)) ⟨_,⟨rfl,E,oo,fam⟩,F.sub (.c 9 rfl (.c 5 rfl .n))⟩ ?_;clear F F0;clear E;clear oo;clear fam;rintro p _ fa w8 hi3 ⟨rfl,E,oo,fam⟩ F;refine wS fun K18 hK18=>wS fun K19 hK19=>?_;refine Yg ?_;refine F.mv fun fa F=>?_;refine F.mv fun fa F=>?_;refine F.vl (Z4R rfl rfl (F.at rfl) Qy.underlying25) fun fa F=>?_;refine F.vl (Z4T rfl (F.at rfl) (F.at rfl)) fun fa F=>?_;refine wN<|hK19 _ _ ?_
  refine Z7V F rfl (fun hc44=>?_) (fun hc44=>?_)
  ·skip
   refine Yi ?_;refine hK18 _ _<|wS fun K20 hK20=>?_
   refine Yh ?_;refine wS fun K21 hK21=>?_;refine Yg ?_;refine F.mv fun fa F=>?_;refine F.as fun fa F=>?_;refine wN<|hK21 _ _ ?_
   refine Yh ?_;have F0:=F.sub (.c 5 rfl (.c 9 rfl .n));refine Z3C F0 (p+1) (fun j Lv W=>∃Q:List (Value×List Int),Lv=[(10,.int .i64 ((p+1-j:Nat):Int))]∧Ext [] w W∧W.ownsRow w.heap.size 22 1 (.slice va O.length vc) O.length (Q.map (·.1))∧FamT W w.heap.size Q∧bbl (fun p=>p.2) (.bool true,[]) Q (p+1-j)=Z0P (fun p=>p.2) (.bool true,[]) O (p+1)∧Q.length=O.length∧RowKit.Hid (∀x∈Q,x.2.length≤1000)) ⟨_,⟨_,rfl,E,oo,fam,rfl,Z0E _ _ _ _,Lib.hid fun x hx=>hOm.out x ((Z3c _ _ _ _ (by omega)).mem_iff.1 hx)⟩,F.sub (.c 10 rfl (.c 5 rfl (.c 9 rfl .n)))⟩ ?_;clear F F0;clear E;clear oo;clear fam;rintro j _ fa w9 hi4 ⟨Q,rfl,E,oo,fam,hQ,hQl,hQm⟩ F;refine wS fun K22 hK22=>wS fun K23 hK23=>?_;have EX:Ext [] w9 w9:=Ext.refl _ _;have HS:=Lib.hid (Z0v oo hQl.symm);refine Z4o 12 follows (by kernel_rfl) fun w10 hh eh=>?_;replace E:=Ze E eh;replace EX:=Ze EX eh;replace oo:=Z3H hh oo;replace fam:=ZG fam fun _ _ _ h=>Z3H hh h;clear hh eh;refine F.smv fun fa F=>?_;refine F.sv (Zhb rfl (F.at rfl) (ev_c fa _)) fun fa F=>?_;refine F.smv fun fa F=>?_
   by_cases hg1:(0<((p+1-j:Nat):Int))
   ·skip
    replace F:=F.re (k:=50) rfl (congrArg Value.bool (decide_eq_true hg1));refine F.smv (fun fa F=>?_) (hw:=(Z1m F rfl rfl (by decide) rfl));refine F.smv (fun fa F=>?_) (hw:=(Z1m F rfl rfl (by decide) rfl));obtain⟨xb24,xo24,xa24,xr24⟩:=HS.out (p+1-j) (by omega);refine F.sv (Z0o (sz:=1) rfl ((F.at rfl).trans (xa24 _ _)) (F.at rfl) Qy.underlying25 (by kernel_rfl) (by omega) (by omega)) (fun fa F=>?_) (hw:=(Z1m F rfl rfl (by decide) rfl));refine F.sv (Zz rfl (F.at rfl) Qy.underlying22 rfl (xr24 _ EX 0 _ rfl)) (fun fa F=>?_) (hw:=(Z1m F rfl rfl (by decide) rfl));refine F.smv (fun fa F=>?_) (hw:=(Z1m F rfl rfl (by decide) rfl));refine F.smv (fun fa F=>?_) (hw:=(Z1m F rfl rfl (by decide) rfl));refine F.sv (Z6A rfl (F.at rfl) (ev_c fa _) (by omega) (by omega)) (fun fa F=>?_) (hw:=(Z1m F rfl rfl (by decide) rfl));obtain⟨xb25,xo25,xa25,xr25⟩:=HS.out ((((p+1-j:Nat):Int)-1).toNat) (by omega);refine F.sv (Z0o (sz:=1) rfl ((F.at rfl).trans (xa25 _ _)) (F.at rfl) Qy.underlying25 (by kernel_rfl) (by omega) (by omega)) (fun fa F=>?_) (hw:=(Z1m F rfl rfl (by decide) rfl));refine F.sv (Zz rfl (F.at rfl) Qy.underlying22 rfl (xr25 _ EX 0 _ rfl)) (fun fa F=>?_) (hw:=(Z1m F rfl rfl (by decide) rfl));refine wpStill_nil ?_;rw[show ((((p+1-j:Nat):Int)-1).toNat)=p+1-j-1 by omega]at F;refine Z5r F rfl (by decide) (Z1m F rfl rfl (by decide) rfl) (Z03 rfl rfl Qy.call77 (mpS (F.at rfl) (mpS (F.at rfl) mp0))) (Zd8 (Z8V fam (Z5 (.bool true,[]) (show p+1-j<Q.length by omega))) (Z8V fam (Z5 (.bool true,[]) (show p+1-j-1<Q.length by omega))) (by have:=hQm.out _ (Z5 (.bool true,[]) (show p+1-j<Q.length by omega));omega) (by have:=hQm.out _ (Z5 (.bool true,[]) (show p+1-j-1<Q.length by omega));omega)) fun e w11 hR=>?_;obtain⟨rfl,e9⟩:=hR;refine⟨_,rfl,fun fa F=>?_⟩;replace oo:=ZS oo (e9) (by simp);replace fam:=ZG fam fun _ _ _ h=>ZS h (e9) (by simp);replace E:=Ze E (e9);replace EX:=Ze EX (e9);clear e9;refine F.vl (Z3U rfl (F.at rfl) (F.at rfl)) fun fa F=>?_;refine wN<|hK23 _ _ ?_
    refine cd_b F rfl (fun hc61=>?_) (fun hc61=>?_)
    ·skip
     refine Yi ?_;refine hK22 _ _<|wS fun K26 hK26=>?_
     refine Yh ?_;have EX:Ext [] w11 w11:=Ext.refl _ _;have HS:=Lib.hid (Z0v oo hQl.symm);obtain⟨ua,uc,hu⟩:=Zi (fam.1 _ (Z5 (.bool true,[]) (show p+1-j<Q.length by omega)));obtain⟨ta,tc,ht⟩:=Zi (fam.1 _ (Z5 (.bool true,[]) (show p+1-j-1<Q.length by omega)));refine Z7q (Ext [] w11) (some 15) follows fun w12 hh eh=>?_;have E_:=E;have zEw12:=E.size;replace E:=Ze E eh;have EX_:=EX;have zEXw12:=EX.size;replace EX:=Ze EX eh;replace oo:=Z3H hh oo;replace fam:=ZG fam fun _ _ _ h=>Z3H hh h;have eT:=eh;clear hh eh;refine F.x (i:=0) rfl (fun w'=>Z09 rfl (F.at rfl)) (fun _=>eT) fun fa F=>?_;refine F.x (i:=1) rfl (fun w'=>Z09 rfl (F.at rfl)) (fun _=>eT) fun fa F=>?_;refine F.x (i:=2) rfl (fun w'=>Z09 rfl (F.at rfl)) (fun _=>eT) fun fa F=>?_;refine F.x (i:=3) rfl (fun w'=>Z09 rfl (F.at rfl)) (fun _=>eT) fun fa F=>?_;refine F.x (i:=4) rfl (fun w'=>Z6A rfl (F.at rfl) (ev_c fa _) (by omega) (by omega)) (fun _=>eT) fun fa F=>?_;refine F.x (i:=5) rfl (fun w'=>Z09 rfl (F.at rfl)) (fun _=>eT) fun fa F=>?_;refine F.x (i:=6) rfl (fun w'=>Z09 rfl (F.at rfl)) (fun _=>eT) fun fa F=>?_;refine F.x (i:=7) rfl (fun w'=>Z6A rfl (F.at rfl) (ev_c fa _) (by omega) (by omega)) (fun _=>eT) fun fa F=>?_;obtain⟨xb27,xo27,xa27,xr27⟩:=HS.out ((((p+1-j:Nat):Int)-1).toNat) (by omega);refine F.x (i:=8) rfl (fun w'=>Z0o (sz:=1) rfl ((F.at rfl).trans (xa27 _ _)) (F.at rfl) Qy.underlying25 (by kernel_rfl) (by omega) (by omega)) (fun _=>eT) fun fa F=>?_;refine F.xr (i:=9) rfl (fun w' hS=>Zz rfl (F.at rfl) Qy.underlying22 rfl (xr27 _ (EX_.nil hS) 0 _ rfl)) (fun _=>eT) fun fa F=>?_;rw[show ((((p+1-j:Nat):Int)-1).toNat)=p+1-j-1 by omega,ht]at F;refine F.x (i:=10) rfl (fun w'=>Z09 rfl (F.at rfl)) (fun _=>eT) fun fa F=>?_;refine F.x (i:=11) rfl (fun w'=>Z09 rfl (F.at rfl)) (fun _=>eT) fun fa F=>?_;obtain⟨xb28,xo28,xa28,xr28⟩:=HS.out (p+1-j) (by omega);refine F.x (i:=12) rfl (fun w'=>Z0o (sz:=1) rfl ((F.at rfl).trans (xa28 _ _)) (F.at rfl) Qy.underlying25 (by kernel_rfl) (by omega) (by omega)) (fun _=>eT) fun fa F=>?_;refine F.xr (i:=13) rfl (fun w' hS=>Zz rfl (F.at rfl) Qy.underlying22 rfl (xr28 _ (EX_.nil hS) 0 _ rfl)) (fun _=>eT) fun fa F=>?_;rw[hu]at F;obtain⟨xb29,xo29,xa29,xr29⟩:=HS.out (p+1-j) (by omega);refine F.x (i:=14) rfl (fun w'=>Z0o (sz:=1) rfl ((F.at rfl).trans (xa29 _ _)) (F.at rfl) Qy.underlying25 (by kernel_rfl) (by omega) (by omega)) (fun _=>eT) fun fa F=>?_;obtain⟨⟨u0,hcu⟩,hfu,hst⟩:=Z2o oo xa29 (j:=p+1-j) (p:=xo29+((p+1-j:Nat):Int).toNat*1) (by first | omega | (simp;omega)) (by omega);refine Z2g (i:=15) (by kernel_rfl) (Z9g rfl rfl rfl (ZR rfl (F.at rfl) (F.at rfl) rfl (by kernel_rfl) hcu hfu) ?_);intro w13 hw;obtain⟨hown',hg⟩:=hst _ _ hw;clear hst hcu hfu hw;replace fam:=ZG fam fun _ _ _ h=>Z0B h oo hg (by decide);replace E:=ZN E oo hg (by omega);replace oo:=hown';clear hg;refine⟨gone (by kernel_rfl),?_⟩;obtain⟨xb30,xo30,xa30,xr30⟩:=HS.out ((((p+1-j:Nat):Int)-1).toNat) (by omega);refine F.x (i:=16) rfl (fun w'=>Z0o (sz:=1) rfl ((F.at rfl).trans (xa30 _ _)) (F.at rfl) Qy.underlying25 (by kernel_rfl) (by omega) (by omega)) (gone (by kernel_rfl)) fun fa F=>?_;obtain⟨⟨u0,hcu⟩,hfu,hst⟩:=Z2o oo xa30 (j:=p+1-j-1) (p:=xo30+(((p+1-j:Nat):Int)-1).toNat*1) (by first | omega | (simp;omega)) (by omega);refine Z2g (i:=17) (by kernel_rfl) (Z9g rfl rfl rfl (ZR rfl (F.at rfl) (F.at rfl) rfl (by kernel_rfl) hcu hfu) ?_);intro w14 hw;obtain⟨hown',hg⟩:=hst _ _ hw;clear hst hcu hfu hw;replace fam:=ZG fam fun _ _ _ h=>Z0B h oo hg (by decide);replace E:=ZN E oo hg (by omega);replace oo:=hown';clear hg;refine⟨gone (by kernel_rfl),?_⟩;rw[←hu,←ht,←Zg9 Q (.bool true,[]) (p+1-j)]at oo;replace fam:=Z2H fam (Z49 (.bool true,[]) (show p+1-j<Q.length by omega));refine Z51 (by kernel_rfl) ?_ _;clear eT E_ EX_;refine hK26 _ _ ?_;refine Yg ?_;refine F.mv fun fa F=>?_;refine F.vl (Z6A rfl (F.at rfl) (ev_c fa _) (by omega) (by omega)) fun fa F=>?_;rw[show (((p+1-j:Nat):Int)-1)=((p+1-(j+1):Nat):Int) by omega]at F;refine F.as fun fa F=>?_;refine wpList_nil ?_;show _∧_;exact⟨by omega,_,⟨_,rfl,E,oo,fam,(by rw[←hQ,Zjw (by omega) hc61];congr 1),(by rw[Z3R,hQl]),Lib.hid fun x hx=>hQm.out x ((Z49 (.bool true,[]) (show p+1-j<Q.length by omega)).mem_iff.1 hx)⟩,F.sub (.c 10 rfl (.c 5 rfl (.c 9 rfl .n)))⟩
    ·skip
     refine wp_exit ?_;have hQ2:Q=Z0P (fun p=>p.2) (.bool true,[]) O (p+1):=by rw[←hQ];exact(Z9L (by first | exact .inl (by omega) | exact .inr hc61)).symm
     rw[hQ2]at oo fam;refine hK20 _ _ ?_;refine Yg ?_;refine F.mv fun fa F=>?_;refine F.vl (Z3T rfl (F.at rfl) (ev_c fa _) (by omega) (by omega)) fun fa F=>?_;refine F.as fun fa F=>?_;refine wpList_nil ?_;show _∧_;exact⟨by omega,_,⟨rfl,E,oo,fam⟩,F.sub (.c 9 rfl (.c 5 rfl .n))⟩
   ·skip
    replace F:=F.re (k:=50) rfl (congrArg Value.bool (decide_eq_false hg1));refine Z5R F rfl (by decide) (Z0w F rfl rfl (by decide) rfl (by decide)) fun fa F=>?_;refine Z5R F rfl (by decide) (Z0w F rfl rfl (by decide) rfl (by decide)) fun fa F=>?_;refine Z5R F rfl (by decide) (Z0w F rfl rfl (by decide) rfl (by decide)) fun fa F=>?_;refine Z5R F rfl (by decide) (Z0w F rfl rfl (by decide) rfl (by decide)) fun fa F=>?_;refine Z5R F rfl (by decide) (Z0w F rfl rfl (by decide) rfl (by decide)) fun fa F=>?_;refine Z5R F rfl (by decide) (Z0w F rfl rfl (by decide) rfl (by decide)) fun fa F=>?_;refine Z5R F rfl (by decide) (Z0w F rfl rfl (by decide) rfl (by decide)) fun fa F=>?_;refine Z5R F rfl (by decide) (Z0w F rfl rfl (by decide) rfl (by decide)) fun fa F=>?_;refine Z5R F rfl (by decide) (Z0w F rfl rfl (by decide) rfl (by decide)) fun fa F=>?_;refine wpStill_nil ?_;refine Z2u F rfl (by decide) (Z0w F rfl rfl (by decide) rfl (by decide)) fun fa F=>?_;refine F.vl (Z4U rfl (F.at rfl) (ev_c fa _)) fun fa F=>?_;refine wN<|hK23 _ _ ?_
    refine cd_F F rfl ?_;refine wp_exit ?_;have hQ2:Q=Z0P (fun p=>p.2) (.bool true,[]) O (p+1):=by rw[←hQ];exact(Z9L (by first | exact .inl (by omega) | exact .inr hc61)).symm
    rw[hQ2]at oo fam;refine hK20 _ _ ?_;refine Yg ?_;refine F.mv fun fa F=>?_;refine F.vl (Z3T rfl (F.at rfl) (ev_c fa _) (by omega) (by omega)) fun fa F=>?_;refine F.as fun fa F=>?_;refine wpList_nil ?_;show _∧_;exact⟨by omega,_,⟨rfl,E,oo,fam⟩,F.sub (.c 9 rfl (.c 5 rfl .n))⟩
  ·skip
   refine wp_exit ?_;obtain rfl:p=O.length-1:=by omega
   refine hK16 _ _<|wS fun K31 hK31=>?_
   refine Yg ?_;refine F.mv fun fa F=>?_;refine F.as fun fa F=>?_;refine wN<|hK31 _ _ ?_
   refine wp_ret ?_
   (try simp only[Exit.inBlock,Exit.then,reduceIte])
   refine rt_v F (rs_1 F rfl rfl) ?_;exact⟨Z0P (fun p=>p.2) (.bool true,[]) O (O.length-1),va,vc,by rw[Z0E],by rw[Z6k (fun p:Value×List Int=>p.2) (.bool true,[]) O _ (by omega),hO,Z0u,hOF],by rw[Z0E];exact oo,fam,E⟩
theorem Z8j:∀(m:Nat),m≤6→∀n:Nat,n≤8→∀w,Calls (Qy.prog μ) 24 #[.int .i64 (n:Nat),.int .i64 (m:Nat)] w (Z3f w n m)
 | 0,_,n,_,w=>Zbf n w
 | m+1,hm,n,hn,w=>Zbe n m hn (by omega) (fun k hk w=>Z8j m (by omega) k hk w) w
variable{μ:Nat}
def picL(n:Nat):Nat→Nat→List (List Int)
 | 0,_=>[[]]
 | m+1,f=>(List.range (n-f)).flatMap fun d=>(picL n m (f+d+1)).map fun l=>((f+d:Nat):Int)::l
theorem ZgW{x:Vm}(h:∀i,i<ls.length→alkE x (ls.getD i 0).toNat (val (T.getD j [])) (val (T.getD k []))=true): nrB x ls T j k=true:=by
 rw[nrB,Bool.not_eq_true',List.any_eq_false];intro n hn;obtain⟨i,hi,rfl⟩:=List.getElem_of_mem hn;have:=h i hi;rw[Y7,List.getElem?_eq_getElem hi]at this;simpa using this
theorem Zkt{x:Vm}(hi:i<ls.length)(h:alkE x (ls.getD i 0).toNat (val (T.getD j [])) (val (T.getD k []))=false): nrB x ls T j k=false:=by
 rw[nrB,Bool.not_eq_false',List.any_eq_true];exact⟨_,Z5 0 hi,by rw[h];rfl⟩
theorem Z8l:∀n,n<7→∀m,m<7→Z0u n m=picL n m 0:=by decide +kernel
def rev6(s:Nat):Nat:=(List.range 6).foldl (fun a k=>2*a+if s.testBit k then 1 else 0) 0
def keyS(s:Nat):Nat:=(6-ZF s)*64+(63-rev6 s)
theorem Zc4:∀s,s<64→∀t,t<64→betS s t=decide (keyS s<keyS t):=by decide +kernel
theorem ZhS:∀s,s<64→∀t,t<64→keyS s=keyS t→s=t:=by decide +kernel
section
variable(p:Nat→Nat→Bool)
theorem Z5Y{n:Nat}:∀m,m≤64→(okS p n (ZQ p n m)=true∨ZQ p n m=0)∧∀s,s<m→okS p n s=true→¬keyS s<keyS (ZQ p n m)
 | 0,_=>⟨.inr rfl,fun s h=>absurd h (by omega)⟩
 | m+1,hm=>by
  obtain⟨h1,h2⟩:=Z5Y (n:=n) m (by omega);have hb:=Z4w p n m (by omega);rw[ZQ]
  by_cases hc:(okS p n m&&betS m (ZQ p n m))=true
  ·rw[if_pos hc]
   obtain⟨hc1,hc2⟩:=Bool.and_eq_true_iff.1 hc;rw[Zc4 m (by omega) _ hb]at hc2;have hc3:=of_decide_eq_true hc2;refine⟨.inl hc1,fun s hs ho=>?_⟩
   by_cases e:s=m
   ·subst e;omega
   ·have:=h2 s (by omega) ho;omega
  ·rw[if_neg hc]
   refine⟨h1,fun s hs ho=>?_⟩
   by_cases e:s=m
   ·subst e
    rw[ho,Bool.true_and,Zc4 s (by omega) _ hb]at hc;simpa using hc
   ·exact h2 s (by omega) ho
theorem Z78(j:Nat):∀k,k≤6→∀i,(fnK p j k).testBit i=(decide (i<k)&&p j i)
 | 0,_,i=>by simp[fnK]
 | k+1,h,i=>by
  rw[fnK]
  by_cases hp:p j k=true
  ·rw[if_pos hp,Nat.testBit_or,Z78 j k (by omega),Nat.testBit_two_pow]
   by_cases e:k=i
   ·subst e;simp[hp]
   ·simp[e,show (i<k+1)=(i<k) by rw[eq_iff_iff];omega]
  ·rw[if_neg hp,Z78 j k (by omega)]
   by_cases e:k=i
   ·subst e;simp[hp]
   ·simp[show (i<k+1)=(i<k) by rw[eq_iff_iff];omega]
theorem Z5Z(hs:s<2 ^ n)(h:s.testBit i=true): i<n:=by
 apply Classical.byContradiction;intro hn;have:=Nat.testBit_lt_two_pow (x:=s) (i:=i) (Y8 hs (Nat.pow_le_pow_right (by decide) (by omega)));rw[h]at this;cases this
theorem Z0z{m:Int}: m∈Za s↔∃i:Nat,i<6∧s.testBit i=true∧m=i:=by
 simp only[Za,List.mem_map,List.mem_filter,List.mem_range]
 constructor
 ·rintro⟨i,⟨h1,h2⟩,rfl⟩;exact⟨i,h1,h2,rfl⟩
 ·rintro⟨i,h1,h2,rfl⟩;exact⟨i,⟨h1,h2⟩,rfl⟩
theorem Zdn(hn:n≤6)(hs:s<2 ^ n): okS p n s=true↔∀i k:Nat,s.testBit i=true→s.testBit k=true→p i k=true:=by
 rw[okS,Yl]
 constructor
 ·intro h i k hi hk
  have hin:=Z5Z hs hi;have hkn:=Z5Z hs hk;have h1:=h i (Z0z.2 ⟨i,by omega,hi,rfl⟩);rw[subB,Yl]at h1;have h2:=h1 k (List.mem_range.2 (by omega));rw[hk,Int.toNat_natCast,finS,if_pos hin,Z78 p i n hn]at h2;simpa[hkn] using h2
 ·intro h m hm
  obtain⟨i,hi6,hi,rfl⟩:=Z0z.1 hm;have hin:=Z5Z hs hi;rw[subB,Yl];intro k hk;rw[Int.toNat_natCast,finS,if_pos hin,Z78 p i n hn]
  by_cases hb:s.testBit k=true
  ·have:=h i k hi hb
   simp[hb,this,Z5Z hs hb]
  ·simp[hb]
def togP(l:List Int):Bool:=(List.range l.length).all fun a=>(List.range a).all fun b=>p (l.getD a 0).toNat (l.getD b 0).toNat
theorem Zef(hr:∀i,i<6→p i i=true)(hsym:∀i,i<6→∀k,k<6→p i k=p k i)(hn:n≤6)(hs:s<2 ^ n): togP p (Za s)=okS p n s:=by
 rw[Bool.eq_iff_iff,Zdn p hn hs,togP,Yl]
 constructor
 ·intro h i k hi hk
  have hin:=Z5Z hs hi;have hkn:=Z5Z hs hk;obtain⟨a,ha,ea⟩:=List.getElem_of_mem (Z0z.2 ⟨i,by omega,hi,rfl⟩);obtain⟨b,hb,eb⟩:=List.getElem_of_mem (Z0z.2 ⟨k,by omega,hk,rfl⟩);have ga:(Za s).getD a 0=(i:Int):=by rw[Y7,List.getElem?_eq_getElem ha];exact ea
  have gb:(Za s).getD b 0=(k:Int):=by rw[Y7,List.getElem?_eq_getElem hb];exact eb
  rcases Nat.lt_trichotomy a b with hab | rfl | hab
  ·have h1:=Yl.1 (h b (List.mem_range.2 hb)) a (List.mem_range.2 hab)
   rw[ga,gb,Int.toNat_natCast,Int.toNat_natCast]at h1;rw[hsym i (by omega) k (by omega)];exact h1
  ·rw[ga]at gb
   have:i=k:=by omega
   subst this;exact hr i (by omega)
  ·have h1:=Yl.1 (h a (List.mem_range.2 ha)) b (List.mem_range.2 hab)
   rw[ga,gb,Int.toNat_natCast,Int.toNat_natCast]at h1;exact h1
 ·intro h a ha
  rw[Yl];intro b hb;have ha:=List.mem_range.1 ha;have hb:=List.mem_range.1 hb;obtain⟨i,-,hi,ei⟩:=Z0z.1 (Z5 (l:=Za s) 0 ha);obtain⟨k,-,hk,ek⟩:=Z0z.1 (Z5 (l:=Za s) 0 (show b<(Za s).length by omega));rw[ei,ek,Int.toNat_natCast,Int.toNat_natCast];exact h i k hi hk
end
def mskL(l:List Int):Nat:=l.foldl (fun a m=>a+2 ^ m.toNat) 0
theorem Zix:∀n,n<7→∀m,m<7→∀l∈picL n m 0,mskL l<2 ^ n∧Za (mskL l)=l∧ZF (mskL l)=m∧(l.all fun q=>decide (0≤q)&&decide (q<((n:Nat):Int)))=true:=by decide +kernel
theorem ZiF:∀n,n<7→∀s,s<2 ^ n→Za s∈picL n (ZF s) 0∧ZF s≤n:=by decide +kernel
theorem Ziw:∀n,n<7→∀m,m<7→(picL n m 0).Pairwise fun a b=>keyS (mskL a)<keyS (mskL b):=by decide +kernel
theorem ZhT:∀s,s<64→∀t,t<64→keyS s<keyS t→ZF t≤ZF s:=by decide +kernel
theorem Zde:∀s,s<64→mskL (Za s)=s:=by decide +kernel
theorem pow6:∀n,n≤6→2 ^ n≤64:=by decide
theorem Ziq(p:Nat→Nat→Bool)(hn:n≤6): okS p n 0=true:=(Zdn p hn (Nat.pow_pos (by decide))).2 fun i k hi=>by simp at hi
section
variable{p:Nat→Nat→Bool}(hr:∀i,i<6→p i i=true)(hsym:∀i,i<6→∀k,k<6→p i k=p k i)
include hr hsym
theorem Zb7{many: Nat}(hn:n≤6)(hm:many≤n)(hi:i<(picL n many 0).length)(h1:togP p ((picL n many 0).getD i [])=true)(h2:∀j,j<i→togP p ((picL n many 0).getD j [])=false)(h3:∀m,many<m→m≤n→∀l∈picL n m 0,togP p l=false):
  Za (ZQ p n (2 ^ n))=(picL n many 0).getD i []:=by
 have h64:=pow6 n hn;obtain⟨hb1,hb2⟩:=Z5Y p (n:=n) (2 ^ n) h64;have hmem:(picL n many 0).getD i []∈picL n many 0:=by rw[Y7,List.getElem?_eq_getElem hi];exact List.getElem_mem hi
 obtain⟨e1,e2,e3,-⟩:=Zix n (by omega) many (by omega) _ hmem;obtain⟨s,hs⟩:∃s,s=mskL ((picL n many 0).getD i []):=⟨_,rfl⟩;rw[←hs]at e1 e2 e3;rw[←e2]at h1⊢;rw[Zef p hr hsym hn e1]at h1;have hbl:ZQ p n (2 ^ n)<2 ^ n:=by
  have key:∀m,ZQ p n m<m∨ZQ p n m=0:=by
   intro m
   induction m with
   | zero=>exact .inr rfl
   | succ m ih =>
    rw[ZQ]
    split
    ·exact .inl (by omega)
    ·rcases ih with h | h
     ·exact .inl (by omega)
     ·exact .inr h
  rcases key (2 ^ n) with h | h
  ·exact h
  ·rw[h];exact Nat.pow_pos (by decide)
 obtain⟨b,hbe⟩:∃b,b=ZQ p n (2 ^ n):=⟨_,rfl⟩;rw[←hbe]at hb1 hb2 hbl⊢;have hbo:okS p n b=true:=by rcases hb1 with h | h;(· exact h);(· rw[h];exact Ziq p hn)
 have h4:=hb2 s e1 h1;obtain⟨g1,g2⟩:=ZiF n (by omega) b hbl;have hbt:togP p (Za b)=true:=by rw[Zef p hr hsym hn hbl];exact hbo
 have h5:¬keyS b<keyS s:=by
  intro hk;have hl:=ZhT b (by omega) s (by omega) hk
  by_cases hlt:ZF s<ZF b
  ·have:=h3 (ZF b) (by omega) g2 _ g1
   rw[this]at hbt;cases hbt
  ·have he:ZF b=many:=by omega
   rw[he]at g1;obtain⟨j,hj,ej⟩:=List.getElem_of_mem g1;have hjg:(picL n many 0).getD j []=Za b:=by rw[Y7,List.getElem?_eq_getElem hj];exact ej
   have hord:=Ziw n (by omega) many (by omega)
   rcases Nat.lt_trichotomy j i with hji | rfl | hji
   ·have:=h2 j hji
    rw[hjg,hbt]at this;cases this
   ·rw[hjg,Zde b (by omega)]at hs
    rw[hs]at hk;omega
   ·have h6:=List.pairwise_iff_getElem.1 hord i j hi hj hji
    have ei:(picL n many 0)[i]=(picL n many 0).getD i []:=by rw[Y7,List.getElem?_eq_getElem hi];rfl
    rw[ej,ei,←hs,Zde b (by omega)]at h6;omega
 rw[ZhS b (by omega) s (by omega) (by omega)]
end
theorem Zew{x:Vm}(hv:VOk x)(k:Nat){f:Nat→Int}(hf:TubS f): alkE x k f f=true:=by
 have h3:=Z4h hf;have h7:=Z0O hv.t0 hv.t12 h3.1 h3.2 (C:=288) (by omega);have h8:=Z0O h7.1 h7.2 h3.1 h3.2 (C:=6912) (by omega);rw[alkE,alkV];refine decide_eq_true ?_;omega
theorem Zhk(x:Vm)(k:Nat)(f g:Nat→Int):alkE x k f g=alkE x k g f:=by
 have h:alkV x k f g = -alkV x k g f:=by rw[alkV,alkV];omega
 have h2:x.tol*prt f*prt g=x.tol*prt g*prt f:=by rw[Int.mul_assoc,Int.mul_assoc,Int.mul_comm (prt f)]
 rw[alkE,alkE,h,h2,Int.neg_neg,Int.max_comm]
theorem Zin{x:Vm}(hv:VOk x)(hT:∀j,TubS (val (T.getD j [])))(i:Nat): nrB x ls T i i=true:=ZgW fun k _=>Zew hv _ (hT i)
theorem Zku(x:Vm)(ls:List Int)(T:List (List Int))(i k:Nat):nrB x ls T i k=nrB x ls T k i:=by
 rw[nrB,nrB]
 congr 2
 funext l
 rw[Zhk]
variable{μ:Nat}
section
variable{P:Program}{ops:Array Oper}{Q:Exit→Act→World→Prop}{K:Act→World→Prop}{N:Nat}{D:List Deferred}{a:Act}{L:List (Nat×Value)}{w:World}{i d:Nat}{f:FuncId}{R:Ending→World→Prop}
theorem Zfp{o:Oper}{args:Array Value}(F:Has N D a L)(hi:ops[i]?=some o)(hd:o.dst=some d)(hN:d<N)(hw:Region.wanted o (yielded ops a.tmps)=true)(hr:(execOp a.eval o).run P w = .ok (.enter f args) w)(hc:Calls P f args w R)(h:∀e w',R e w'→(∃ch,e = .panicked ch∧Q (.panic ch) a w')∨∃v,e = .returned v∧∀a2,Has N D a2 ((d,v)::L)→K a2 w'): wpOp P ops Q i K a w:=by
 unfold wpOp;simp only[hi,hw,if_true,Oper.wp,hr,Oper.upon];refine .inl (hc.mono fun e w' hR=>?_)
 rcases h e w' hR with⟨ch,rfl,h1⟩ | ⟨v,rfl,h1⟩
 ·exact h1
 ·show K _ _
  rw[hd];exact h1 _ (F.put hN v)
theorem Has.okp{l:List Operand}{ts:Array TypeId}{vs:List Value}(F:Has N D a L)(hc:Calls P f vs.toArray w R)(hi:(ops[i]?).isSome=true:=by rfl)(C:Z7U P f=true:=by kernel_rfl)(ho:(opAt ops i).op = .call {callee:=.value (.func f),args:=l.toArray,argTypes:=ts}:=by rfl)(ha:opvs L l=some vs:=by rfl)(hd:(opAt ops i).dst=some d:=by rfl)(hN:d<N:=by decide)(hw:Z0k L ops (opAt ops i)=some true:=by rfl)(h:∀e w',R e w'→(∃ch,e = .panicked ch∧Q (.panic ch) a w')∨∃v,e = .returned v∧∀{a2},Has N D a2 ((d,v)::L)→K a2 w'): wpOp P ops Q i K a w:=Zfp F (Z0L hi) hd hN (F.want hw) (F.rc C ho ha) hc fun e w' hR=>by
 rcases h e w' hR with h | ⟨v,h1,h2⟩
 ·exact .inl h
 ·exact .inr ⟨v,h1,fun _ F=>h2 F⟩
end
theorem ZeD{i: Nat}(h:i<n): (0≤atI (Zp n β) ((i:Nat):Int))↔β i=true:=by
 have hm:((i:Nat):Int)∈Zp n β↔β i=true:=by
  unfold Zp;simp only[List.mem_map,List.mem_filter,List.mem_range]
  constructor
  ·rintro⟨j,⟨_,hj⟩,e⟩
   obtain rfl:j=i:=by omega
   exact hj
  ·exact fun hb=>⟨i,⟨h,hb⟩,rfl⟩
 rw[←hm];unfold atI
 cases e:(Zp n β).findIdx? (· == ((i:Nat):Int)) with
 | none =>
  rw[List.findIdx?_eq_none_iff]at e
  constructor
  ·intro q;simp at q
  ·intro q;have:=e _ q;simp at this
 | some j =>
  rw[List.findIdx?_eq_some_iff_getElem]at e;obtain⟨hj,e1,_⟩:=e;have e2:(Zp n β)[j]=((i:Nat):Int):=by simpa using e1
  exact⟨fun _=>e2▸List.getElem_mem hj,fun _=>by simp⟩
theorem key2{M:List (Value×List Int)}{i:Nat}(h:i<M.length): (M.map (·.2)).getD i []=(M.getD i (.bool true,[])).2:=by simp[Y7,h]
variable{μ:Nat}
theorem ZcI{wA: World}{B: Nat}{L:List (Value×List Int)}{cs:Array Value}{T:TypeId}(h:FamT wA B L)(E:Ext [ob] wA w)(hob:wA.heap[ob]?=some (.cells cs T (0,0)))(hT:T≠3): FamT w B L:=by
 refine⟨fun p hp=>?_,h.2⟩;have ho:=h.1 p hp;refine⟨ho.1,?_⟩
 rcases ho.2 with hv | ⟨g,cap,cur,h1,h2,h3,h4⟩
 ·exact .inl hv
 ·refine .inr ⟨g,cap,cur,h1,h2,?_,h4⟩
  rw[E.block g (Z3 h3) (by
   intro hm;obtain rfl:=List.mem_singleton.1 hm;rw[hob]at h3;simp only[Y4,Obj.cells.injEq]at h3;exact hT h3.2.1)]
  exact h3
theorem Zdt{xs:List Value}(h:w.ownsRow base e 1 (.slice (some ⟨ob,0,none⟩) n c) n xs)(hn:0<n): ∃cs,w.heap[ob]?=some (.cells cs e (0,0)):=by
 rcases h.2 with⟨hv,_⟩ | ⟨g,cap,cur,hv,_,hg,_⟩
 ·cases hv
 ·simp only[Value.slice.injEq,Y4,Addr.mk.injEq]at hv
  obtain⟨⟨rfl,_⟩,_⟩:=hv;exact⟨_,hg⟩
def nilV(k:Nat):List Value:=List.replicate k (.slice none 0 0)
def outV(R:List Value)(v:Value)(n:Nat):List Value:=R++v::nilV (n-(R.length+1))
theorem Zft(h:R.length<n): R++nilV (n-R.length)=outV R (.slice none 0 0) n:=by
 unfold outV nilV;rw[show n-R.length=(n-(R.length+1))+1 by omega,List.replicate_succ]
theorem Zfu{u: Value}{a: Nat}(h:R.length=a): (outV R v n).set a u=outV R u n:=by
 subst h;unfold outV;rw[List.set_append_right _ _ (Ye _),Nat.sub_self]
 rfl
theorem Zfs{a: Nat}(h:R.length=a): (outV R v n).getD a (.bool true)=v:=by
 subst h;unfold outV;rw[Y7,List.getElem?_append_right (Ye _),Nat.sub_self]
 rfl
theorem Zdq: outV R v n=(R++[v])++nilV (n-(R++[v]).length):=by
 unfold outV;rw[List.append_assoc,Ym]
 rfl
theorem Zaj(h:R.length<n): (outV R v n).length=n:=by
 unfold outV nilV;simp;omega
theorem Zbl{V:List Value}(h:w.ownsRow base 22 1 (.slice a n c) n V)(hn:n=V.length): SlAt [] w a 1 n (fun i=>[V.getD i (.bool true)]):=by
 have:=Z0v (O:=V.map fun v=>(v,([]:List Int))) (by rw[List.map_map,show ((fun p:Value×List Int=>p.1) ∘ fun v=>(v,([]:List Int)))=id from rfl,List.map_id];exact h) (by rw[hn,Yj]);rw[Yj,←hn]at this;have e:(fun i=>[((V.map fun v=>(v,([]:List Int))).getD i (.bool true,[])).1])=fun i=>[V.getD i (.bool true)]:=by
  funext i
  rw[Y7,Yn,Y7]
  cases V[i]?<;>rfl
 rw[e]at this;exact this
def allB(x:Vm)(ls:List Int)(f g:Nat→Int)(i:Nat):Bool:=(List.range i).all fun j=>alkE x (ls.getD j 0).toNat f g
theorem Z4W(x:Vm)(ls:List Int)(f g:Nat→Int)(i:Nat):allB x ls f g (i+1)=(allB x ls f g i&&alkE x (ls.getD i 0).toNat f g):=by
 unfold allB;rw[List.range_succ,List.all_append];simp
theorem Zex(x:Vm)(ls:List Int)(T:List (List Int))(a b:Nat):allB x ls (val (T.getD a [])) (val (T.getD b [])) ls.length=nrB x ls T a b:=by
 cases e:allB x ls (val (T.getD a [])) (val (T.getD b [])) ls.length with
 | true =>
  symm
  refine ZgW fun i hi=>?_;exact Yl.1 e i (List.mem_range.2 hi)
 | false =>
  symm
  obtain⟨i,hi,h⟩:=List.all_eq_false.1 e;exact Zkt (List.mem_range.1 hi) (by simpa using h)
def tgA(p:Nat→Nat→Bool)(l:List Int)(a:Nat):Bool:=(List.range a).all fun c=>(List.range c).all fun d=>p (l.getD c 0).toNat (l.getD d 0).toNat
def tgB(p:Nat→Nat→Bool)(l:List Int)(a b:Nat):Bool:=tgA p l a&&(List.range b).all fun d=>p (l.getD a 0).toNat (l.getD d 0).toNat
theorem Zgc(p:Nat→Nat→Bool)(l:List Int)(a:Nat):tgB p l a 0=tgA p l a:=by simp[tgB]
theorem Z7E(p:Nat→Nat→Bool)(l:List Int)(a b:Nat):tgB p l a (b+1)=(tgB p l a b&&p (l.getD a 0).toNat (l.getD b 0).toNat):=by
 unfold tgB;rw[List.range_succ,List.all_append,←Bool.and_assoc];simp
theorem ZiT(p:Nat→Nat→Bool)(l:List Int)(a:Nat):tgB p l a a=tgA p l (a+1):=by
 unfold tgB;rw[tgA,tgA,List.range_succ,List.all_append];simp
theorem ZiS(p:Nat→Nat→Bool)(l:List Int):tgA p l l.length=togP p l:=rfl
theorem Z89: Zp (m+1) β=Zp m β++(if β m=true then[((m:Nat):Int)] else[]):=by
 unfold Zp;rw[List.range_succ,List.filter_append,List.map_append]
 cases e:β m<;>simp[e]
theorem Zky:∀n,n<7→∀m,m<7→∀l∈picL n m 0,l.length=m∧∀q∈l,0≤q∧q<((n:Nat):Int):=by decide +kernel
theorem Zdg{R:List (Value×List Int)}{β:Nat→Nat→Bool}(h:R.map (·.2)=(List.range n).map fun k=>Zp n (β k))(hj:j<n): R.length=n∧(R.getD j (.bool true,[])).2=Zp n (β j):=by
 have hl:R.length=n:=by
  have:=congrArg List.length h;simpa using this
 refine⟨hl,?_⟩;rw[←key2 (by omega),h];simp[Y7,hj]
theorem Z3F{q:Int}(h0:0≤q)(h1:q<n): (0≤atI (Zp n β) q)↔β q.toNat=true:=by
 have:=ZeD (n:=n) (i:=q.toNat) (β:=β) (by omega)
 rwa[Int.toNat_of_nonneg h0]at this
theorem Zge(h:∀t∈T,TubS (val t))(j:Nat): TubS (val (T.getD j [])):=by
 by_cases hj:j<T.length
 ·exact h _ (Z5 [] hj)
 ·rw[Y7,List.getElem?_eq_none (by omega)]
  intro k _;show 0≤([]:List Int).getD k 0∧([]:List Int).getD k 0≤6;simp
variable{μ:Nat}
theorem Ze7:∀(xs:List Int) (i:Nat) (v:Int),i<xs.length→(xs.set i v).sum=xs.sum-xs.getD i 0+v
 | [],i,v,h=>by simp at h
 | x::xs,0,v,h=>by simp;omega
 | x::xs,i+1,v,h=>by
  have:=Ze7 xs i v (by simpa using h);simp only[List.set_cons_succ,List.sum_cons,this,List.getD_cons_succ];omega
theorem Zd6(h:∀n∈xs,0≤n): ∀n∈xs,n≤xs.sum:=by
 induction xs with
 | nil=>intro n hn;simp at hn
 | cons x xs ih =>
  intro n hn;have h0:0≤xs.sum:=by
   clear ih hn
   induction xs with
   | nil=>simp
   | cons y ys ih2 =>
    have:=h y (by simp);have:=ih2 fun m hm=>h m (by simp only[Yc]at hm⊢;rcases hm with rfl | hm<;>simp[*]);simp only[List.sum_cons];omega
  have hx:=h x (by simp);rw[List.sum_cons]
  rcases Yc.1 hn with rfl | hn
  ·omega
  ·have:=ih (fun m hm=>h m (by simp[hm])) n hn;omega
def Zhe(x:Vm)(w0:World)(b k:Nat)(nv:Value)(w:World)(e:Ending)(w':World):Prop:=∃(a:Option Addr) (xs:List Int),e = .returned (.slice a x.D.length x.D.length)∧RcpOk x xs∧w'.ownsRow w.heap.size 3 1 (.slice a x.D.length x.D.length) x.D.length (ivs xs)∧Zg w0 w' b (k+10) nv∧Ext [b] w w'
theorem Z8m(x:Vm)(hv:VOk x)(w0 w:World)(b k:Nat)(nv:Value)(h:Zg w0 w b k nv)(hk:k≤900000):
  Calls (Qy.prog μ) 14 #[.pointer (some ⟨b,0,none⟩),.agg #[.int .i64 x.B,.slice x.da x.D.length x.dc,.slice x.la x.L.length x.lc,.int .i64 x.tol]] w (Zhe x w0 b k nv w):=by
 have HL:=h;have hbw:=Z22 HL;have hws:w0.heap.size≤w.heap.size:=HL.2.2.1.size;have E:Ext [b] w w:=Ext.refl _ _;have hd1:=hv.d1;have hd4:=hv.d4;clear h hv;have G:=((Bk.nil w).cl HL).ce E;refine(ent 31 Tryz.f14 rfl) fun F=>wR fun k1=>(F.bx G) @fun n3 w1 _ yy F G=>(F.m) fun F=>k1<|wR fun k2=>(F.y (F.fd 1)) fun F=>(F.y (F.lc (G.q 0))) fun F=>(F.y F.ln) fun F=>?_
 have hEs:=(G.e 1).size;refine ZA F rfl (by decide) (F.want rfl) (Z4H rfl (w.heap.size) (e:=3) (bytes:=8) (z:=.int .i64 0) Qy.underlying22 (by kernel_rfl) rfl (F.at rfl) (F.at rfl) (n:=x.D.length) (by omega) (by decide) (by omega)) ?_;clear F;rintro _ v' w2 F ⟨oo,hg,rfl⟩;obtain⟨n10,hn⟩:=eQ w1.heap.size;rw[←hn]at F oo;have s10:=G.lt hn;replace G:=G.gn hg;clear hg hn;replace G:=G.co oo;have oo:=G.o 0;rw[show List.replicate x.D.length (Value.int .i64 0)=ivs (List.replicate x.D.length 0) by simp[ivs]]at oo;replace G:=G.rO 0 oo;clear oo;refine(F.m) fun F=>k2<|wQ fun k3=>wR fun k4=>(F.m) fun F=>(F.m) fun F=>(F.bs G 1 #[.int .i64 1,.int .i64 2,.int .i64 3,.int .i64 6] Qy.zeroValue3) @fun n13 w3 _ yy F G=>(F.k (ZgX w0 _ b _ nv n13 _ [1,2,3,6] (G.l 4) (by omega) (G.q 0) (by omega) (by decide) (by decide))) ?_
 rintro _ w4 ⟨v,rfl,hvm,HL,e9⟩;refine⟨_,rfl,fun F=>?_⟩;replace G:=G.xl 4 e9 HL;have hv6:1≤v∧v≤6:=by simp only[Yc,Ya,or_false]at hvm;omega
 refine(F.k (Z86 w0 _ b _ nv 1 v (G.l 4) (by omega) (by omega) (by omega) (by omega) (by omega))) ?_;rintro _ w5 ⟨n,rfl,hn1,hn2,HL,e9⟩;refine⟨_,rfl,fun F=>?_⟩;replace G:=(G.xl 4 e9 HL).d 0;refine(F.m) fun F=>?_;rw[show n=n-((0:Nat):Int) by omega]at F;refine k4<|Yh ?_
 replace G:=G.rL 3 (show Zg w0 w5 b (k+2+0) nv from Zo (G.l 3) (by omega));refine lpB (F.b [0,5]) (G.b [1,2]) (6) (fun i Lv Sv W=>∃xs:List Int,Lv=[(6,.int .i64 (n-((i:Nat):Int)))]∧Sv=[.l w0 b (k+2+i) nv]∧W.ownsRow w.heap.size 3 1 (.slice (some ⟨n10,0,none⟩) x.D.length x.D.length) x.D.length (ivs xs)∧xs.length=x.D.length∧(∀m∈xs,0≤m)∧xs.sum=i∧(i:Int)≤n) ⟨_,_,F.u,G.u,_,rfl,rfl,(G.o 0),(by simp),(by simp),(by simp),(by omega)⟩ ?_;clear F G;rintro i _ w6 _ _ hi1 ⟨xs,rfl,rfl,oo,hxl,hx0,hxs,hin⟩ F G;replace G:=(G.z).co oo;refine wQ fun k5=>wR fun k6=>(F.m) fun F=>(F.y F.gt) fun F=>k6<|F.ci (fun hc17=>?_) (fun hc17=>?_)
 ·refine Yi<|k5<|wQ fun k7=>Yh<|Yg<|(F.m) fun F=>(F.m) fun F=>(F.m) fun F=>(F.y F.ln) fun F=>(F.y F.sb) fun F=>(F.k (Z0F w0 _ b _ nv (((x.D.length:Nat):Int)-1) (G.l 1) (by omega) (by omega) (by omega))) ?_
  rintro _ w7 ⟨u,rfl,hu0,hu1,HL,e9⟩;refine⟨_,rfl,fun F=>?_⟩;replace G:=G.xl 1 e9 HL;obtain⟨u,rfl⟩:=Int.eq_ofNat_of_zero_le hu0;have hux:u<xs.length:=by rw[hxl];omega
  have oo:=G.o 0;have HS:=Lib.hid (Z0D oo hxl.symm [] (by simp));have hil:=Z3v xs;have hm0:=hx0 _ (Z5 0 hux);have hmS:=Zd6 hx0 _ (Z5 0 hux);replace G:=G.hr [];obtain⟨xb8,xo8,xa8,xr8⟩:=HS.out u (by omega);refine(F.y (F.is 1 xa8)) fun F=>(F.y (F.l1 (xr8 _ (G.e 0)) 0)) fun F=>(F.y F.ad) fun F=>?_;obtain⟨xb9,xo9,xa9,xr9⟩:=HS.out u (by omega);refine(F.y (F.is 1 xa9)) fun F=>?_;replace G:=G.d 0;obtain⟨⟨u0,hcu⟩,hfu,hst⟩:=Z2o (G.o 0) xa9 (j:=u) (p:=xo9+((u:Nat):Int).toNat*1) (by first | omega | (simp;omega)) (by omega);refine Z1A rfl (F.want rfl) (ZR rfl (F.at rfl) (F.at rfl) rfl (by kernel_rfl) hcu hfu) ?_;intro w8 hw;obtain⟨hown',hg⟩:=hst _ _ hw;replace G:=G.gr 0 hg hown';clear hst hcu hfu hw hg hown';have oo:=G.o 0;rw[Z3w]at oo;have hst:=Ze7 xs u (xs.getD u 0+1) hux;have hx2:∀m∈xs.set u (xs.getD u 0+1),0≤m:=by intro m hm;rcases List.mem_or_eq_of_mem_set hm with hm | rfl;(· exact hx0 m hm);(· omega)
  replace G:=G.rO 0 oo;clear oo;refine k7<|Yg<|(F.m) fun F=>(F.y F.sb) fun F=>?_
  rw[show n-((i:Nat):Int)-1=n-((i+1:Nat):Int) by omega]at F;refine(F.m) fun F=>?_;replace G:=G.rL 1 (show Zg w0 w8 b (k+2+(i+1)) nv from Zo (G.l 1) (by omega));show _∧_;exact⟨by omega,_,_,F.u,G.u,_,rfl,rfl,(G.o 0),(by rw[List.length_set];exact hxl),hx2,(by omega),(by omega)⟩
 ·refine wp_exit<|k3<|wR fun k10=>(F.m) fun F=>(F.m) fun F=>k10<|(F.r1) ?_
  have oo:=G.o 0;refine⟨_,xs,rfl,⟨hxl,fun m hm=>⟨hx0 m hm,?_⟩,by omega,by omega⟩,oo,Zo (G.l 1) (by omega),(G.e 3)⟩;have:=Zd6 hx0 m hm;omega
theorem Zez{n:Int}(h:∀i,0<i→i<xs.length→xs.getD (i-1) 0<xs.getD i 0)(hb:∀m∈xs,m<n): ∀i,0<i→i<(xs++[n]).length→(xs++[n]).getD (i-1) 0<(xs++[n]).getD i 0:=by
 intro i h0 h1;simp only[Ym,List.length_cons,List.length_nil]at h1
 by_cases hi:i<xs.length
 ·have:=h i h0 hi
  simpa[Y7,List.getElem?_append_left,hi,show i-1<xs.length by omega] using this
 ·obtain rfl:i=xs.length:=by omega
  have:=hb _ (Z5 0 (show xs.length-1<xs.length by omega));simpa[Y7,List.getElem?_append_left,show xs.length-1<xs.length by omega] using this
def Zha(x:Vm)(w0:World)(b k:Nat)(nv:Value)(w:World)(e:Ending)(w':World):Prop:=∃(a:Option Addr) (c:Nat) (xs:List Int),e = .returned (.slice a xs.length c)∧Z4P x xs∧xs.length≤3∧w'.ownsRow w.heap.size 3 1 (.slice a xs.length c) xs.length (ivs xs)∧Zg w0 w' b (k+10) nv∧Ext [b] w w'
theorem Z91(x:Vm)(hv:VOk x)(w0 w:World)(b k:Nat)(nv:Value)(h:Zg w0 w b k nv)(hk:k≤900000):
  Calls (Qy.prog μ) 21 #[.pointer (some ⟨b,0,none⟩),.agg #[.int .i64 x.B,.slice x.da x.D.length x.dc,.slice x.la x.L.length x.lc,.int .i64 x.tol]] w (Zha x w0 b k nv w):=by
 have HL:=h;have hbw:=Z22 HL;have hws:w0.heap.size≤w.heap.size:=HL.2.2.1.size;have E:Ext [b] w w:=Ext.refl _ _;have hl1:=hv.l1;have hl3:=hv.l3;have oo:w.ownsRow w.heap.size 3 1 (.slice none 0 0) 0 (ivs []):=World.ownsRow_nil _ _ _ _;clear h hv;have G:=((Bk.nil w).cl HL).ce E;replace G:=G.co oo;refine(ent 31 Tryz.f21 rfl) fun F=>wR fun k1=>(F.bx G) @fun n3 w1 _ yy F G=>(F.m) fun F=>k1<|wR fun k2=>(F.m) fun F=>k2<|wQ fun k3=>wR fun k4=>(F.m) fun F=>k4<|Yh ?_
 replace G:=G.rL 3 (show Zg w0 w1 b (k+0) nv from Zo (G.l 3) (by omega));refine lpB (F.b [0,3]) (G.b [0,2]) (x.L.length) (fun i Lv Sv W=>∃va:Option Addr,∃vc:Nat,∃xs:List Int,Lv=[(5,.slice va xs.length vc),(6,.int .i64 ((i:Nat):Int))]∧Sv=[.l w0 b (k+i) nv]∧W.ownsRow w.heap.size 3 1 (.slice va xs.length vc) xs.length (ivs xs)∧(∀m∈xs,0≤m∧m<i)∧(∀j,0<j→j<xs.length→xs.getD (j-1) 0<xs.getD j 0)∧xs.length≤i) ⟨_,_,F.u,G.u,none,0,[],rfl,rfl,(G.o 1),(by simp),(by simp),(by simp)⟩ ?_;clear F G;rintro i _ w2 _ _ hi1 ⟨va,vc,xs,rfl,rfl,oo,hxb,hxa,hxl⟩ F G;replace G:=(G.z).co oo;refine wQ fun k5=>wR fun k6=>(F.m) fun F=>(F.y (F.fd 2)) fun F=>(F.y (F.lc (G.q 2))) fun F=>(F.y F.ln) fun F=>(F.y F.ls) fun F=>k6<|F.ci (fun hc11=>?_) (fun hc11=>?_)
 ·refine Yi<|k5<|wQ fun k7=>Yh<|wR fun k8=>(F.m) fun F=>(F.k (Z7o w0 _ b _ nv 2 (G.l 1) (by omega) (by omega) (by omega))) ?_
  rintro _ w3 ⟨r,rfl,HL,e9⟩;refine⟨_,rfl,fun F=>?_⟩;replace G:=G.xl 1 e9 HL;refine k8<|F.cb (fun hc15=>?_) (fun hc15=>?_)
  ·refine Yg<|(F.m) fun F=>(F.m) fun F=>(F.bs G 1 #[.int .i64 ((i:Nat):Int)] Qy.zeroValue3) fun yy F G=>?_
   have hzE:=(G.e 4).size;refine ZA F rfl (by decide) (F.want rfl) (ZK rfl (w.heap.size) (e:=3) (size:=1) (bytes:=8) Qy.underlying22 (by kernel_rfl) (by decide) (F.at rfl) (G.o 1) (F.at rfl) (G.q 0) rfl (by simp[Value.oneCell']) (by omega) (by omega) (by omega)) ?_;clear F;rintro _ v' w5 F ⟨hown',hg⟩;obtain⟨va19,vc19,rfl⟩:=Zi hown';replace G:=(G.d 0).gr 0 hg hown';clear hg hown';have oo:=G.o 0;rw[Z0q]at oo;replace hxa:=Zez hxa (fun m hm=>(hxb m hm).2);replace hxb:∀m∈xs++[((i:Nat):Int)],0≤m∧m<((i+1:Nat):Int):=by intro m hm;rcases List.mem_append.1 hm with hm | hm;(· have:=hxb m hm;omega);(· simp at hm;omega)
   obtain⟨ys,hys⟩:∃ys,ys=xs++[((i:Nat):Int)]:=⟨_,rfl⟩;have hyl:xs.length+1=ys.length:=by rw[hys,Ym];rfl
   rw[hyl]at F oo;rw[←hys]at oo hxa hxb;replace hxl:ys.length≤i+1:=by omega
   replace G:=G.rO 0 oo;clear oo;refine(F.m) fun F=>k7<|Yg<|(F.m) fun F=>(F.y F.ad) fun F=>(F.m) fun F=>?_
   replace hxb:∀m∈_,0≤m∧m<((i+1:Nat):Int):=fun m hm=>(by have:=hxb m hm;omega);replace hxl:=Yd hxl (Ye _);replace G:=G.rL 1 (show Zg w0 w5 b (k+(i+1)) nv from Zo (G.l 1) (by omega));show _∧_;exact⟨by omega,_,_,F.u,G.u,_,_,_,rfl,rfl,(G.o 0),hxb,hxa,hxl⟩
  ·replace hxl:xs.length≤i+1:=by omega
   refine Yi<|k7<|Yg<|(F.m) fun F=>(F.y F.ad) fun F=>(F.m) fun F=>?_
   replace hxb:∀m∈_,0≤m∧m<((i+1:Nat):Int):=fun m hm=>(by have:=hxb m hm;omega);replace hxl:=Yd hxl (Ye _);replace G:=G.rL 1 (show Zg w0 w3 b (k+(i+1)) nv from Zo (G.l 1) (by omega));show _∧_;exact⟨by omega,_,_,F.u,G.u,_,_,_,rfl,rfl,(G.o 0),hxb,hxa,hxl⟩
 ·refine wp_exit<|k3<|wQ fun k9=>wR fun k10=>(F.m) fun F=>(F.y F.ln) fun F=>(F.y F.eq) fun F=>k10<|F.ci (fun hc22=>?_) (fun hc22=>?_)
  ·have hx0:xs.length=0:=by omega
   refine Yg<|(F.m) fun F=>(F.y (F.fd 2)) fun F=>(F.y (F.lc (G.q 2))) fun F=>(F.y F.ln) fun F=>(F.y F.sb) fun F=>(F.k (Z0F w0 _ b _ nv (((x.L.length:Nat):Int)-1) (G.l 1) (by omega) (by omega) (by omega))) ?_
   rintro _ w6 ⟨u,rfl,hu0,hu1,HL,e9⟩;refine⟨_,rfl,fun F=>?_⟩;replace G:=G.xl 1 e9 HL;refine(F.bs G 1 #[.int .i64 u] Qy.zeroValue3) @fun n29 w7 _ yy F G=>?_;have o2:=Zdu (base:=w.heap.size) (G.q 0) (by omega);refine(F.m) fun F=>k9<|wR fun k11=>(F.m) fun F=>(F.m) fun F=>k11<|(F.r1) ?_
   exact⟨some ⟨n29,0,none⟩,1,[u],rfl,⟨by simp,fun m hm=>(by simp only[Yc,Ya,or_false]at hm;omega),fun j h0 h1=>(by simp at h1;omega)⟩,by simp,o2,Zo (G.l 2) (by omega),(G.e 4)⟩
  ·refine Yi<|k9<|wR fun k12=>(F.m) fun F=>(F.m) fun F=>k12<|(F.r1) ?_
   have oo:=G.o 0;exact⟨va,vc,xs,rfl,⟨by omega,fun m hm=>(by have:=hxb m hm;omega),hxa⟩,by omega,oo,Zo (G.l 1) (by omega),(G.e 3)⟩
variable{μ:Nat}
def Zhf(x:Vm)(w0:World)(b k:Nat)(nv:Value)(w:World)(e:Ending)(w':World):Prop:=∃(a:Option Addr) (c:Nat) (S:List (Value×List Int)),e = .returned (.slice a S.length c)∧S.length≤6∧(∀p∈S,RcpOk x p.2) ∧
 w'.ownsRow w.heap.size 22 1 (.slice a S.length c) S.length (S.map (·.1))∧FamT w' w.heap.size S∧Zg w0 w' b (k+100) nv∧Ext [b] w w'
theorem Z8C(x:Vm)(hv:VOk x)(w0 w:World)(b k:Nat)(nv:Value)(h:Zg w0 w b k nv)(hk:k≤800000):
  Calls (Qy.prog μ) 20 #[.pointer (some ⟨b,0,none⟩),.agg #[.int .i64 x.B,.slice x.da x.D.length x.dc,.slice x.la x.L.length x.lc,.int .i64 x.tol],.int .i64 6] w (Zhf x w0 b k nv w):=by
 have HL:=h;have hbw:=Z22 HL;have hb0:=HL.1;have hws:w0.heap.size≤w.heap.size:=HL.2.2.1.size;have E:Ext [b] w w:=Ext.refl _ _;have HV:=Lib.hid hv;clear h hv;have G:=((Bk.nil w).cl HL).ce E;refine(ent 23 Tryz.f20 rfl) fun F=>wR fun k1=>(F.bx G) fun yy F G=>(F.m) fun F=>k1<|wR fun k2=>(F.m) fun F=>k2<|wQ fun k3=>wR fun k4=>(F.m) fun F=>(F.m) fun F=>(F.k (Z0F w0 _ b _ nv 6 (G.l 2) (by omega) (by omega) (by omega))) ?_
 rintro _ w2 ⟨u,rfl,hu0,hu1,HL,e9⟩;refine⟨_,rfl,fun F=>?_⟩;replace G:=G.xl 2 e9 HL;obtain⟨u,rfl⟩:=Int.eq_ofNat_of_zero_le hu0;refine(F.m) fun F=>?_;have hb4:=Z3 (G.q 0);have hbb:=Z22 (G.l 2);have hwR0:w.heap.size≤w2.heap.size:=by exact(G.e 1).size
 have oo:w2.ownsRow w2.heap.size 22 1 (.slice none 0 0) 0 (([]:List (Value×List Int)).map (·.1)):=World.ownsRow_nil _ _ _ _;have fam:FamT w2 w2.heap.size []:=Z58 _ _;replace G:=((G.hr [b]).co oo).cf fam;refine k4<|Yh ?_
 replace G:=G.rL 5 (show Zg w0 w2 b (k+1+10*0) nv from Zo (G.l 5) (by omega));refine lpB (F.b [0,4]) (G.b [2,3,4]) (u) (fun i Lv Sv W=>∃va:Option Addr,∃vc:Nat,∃S:List (Value×List Int),Lv=[(7,.slice va S.length vc),(8,.int .i64 ((u-i:Nat):Int))]∧Sv=[.l w0 b (k+1+10*i) nv]∧W.ownsRow w2.heap.size 22 1 (.slice va S.length vc) S.length (S.map (·.1))∧FamT W w2.heap.size S∧(∀p∈S,RcpOk x p.2)∧S.length=i∧i≤u) ⟨_,_,F.u,G.u,none,0,[],rfl,rfl,(G.o 1),(G.f 0),(by simp),rfl,(by omega)⟩ ?_;clear F G;rintro i _ w3 _ _ hi1 ⟨va,vc,S,rfl,rfl,oo,fam,hS,hSl,hin⟩ F G;replace G:=((G.z).co oo).cf fam;refine wQ fun k5=>wR fun k6=>(F.m) fun F=>(F.y F.gt) fun F=>k6<|F.ci (fun hc13=>?_) (fun hc13=>?_)
 ·refine Yi<|k5<|wQ fun k7=>Yh<|Yg<|(F.m) fun F=>(F.m) fun F=>(F.y (F.lb (G.q 4))) fun F=>?_
  have fam:=G.f 0;have hflt:=Lib.hid (Z84 fam);obtain⟨B1,hB1⟩:∃B1,B1=w3.heap.size:=⟨_,rfl⟩;rw[←hB1]at hflt;have hB1w:w2.heap.size≤B1:=by rw[hB1];exact(G.e 3).size
  refine(F.k (Z8m x HV.out w0 _ b _ nv (G.l 2) (by omega))) ?_;rintro _ w4 ⟨ra,xs,rfl,hrc,ro,HL,e9⟩;refine⟨_,rfl,fun F=>?_⟩;replace G:=G.xl 2 e9 HL;rw[←hB1]at ro;have hxl:=hrc.len;have fam:=G.f 0;have fam2:=Z2H (Z3u (b1:=B1) (L:=[(Value.slice ra x.D.length x.D.length,xs)]) ⟨fun p hp=>(by obtain rfl:p=(Value.slice ra x.D.length x.D.length,xs):=(by simpa using hp);rw[show ((Value.slice ra x.D.length x.D.length,xs):Value×List Int).2.length=x.D.length from hxl];exact ro),List.pairwise_singleton _ _⟩ fam hflt.out hB1w) (M:=S++[(Value.slice ra x.D.length x.D.length,xs)]) List.perm_append_comm;clear ro;have fam:=fam2;clear fam2;obtain⟨P,hP⟩:∃P,P=S++[(Value.slice ra x.D.length x.D.length,xs)]:=⟨_,rfl⟩;have hPl:S.length+1=P.length:=by rw[hP,Ym];rfl
  rw[←hP]at fam;have hPS:∀p∈P,RcpOk x p.2:=by intro p hp;rw[hP]at hp;rcases List.mem_append.1 hp with hp | hp;(· exact hS p hp);(· simp only[Yc,Ya,or_false]at hp;subst hp;exact hrc)
  replace G:=G.rF 0 fam;clear fam;refine(F.bs G 1 #[.slice ra x.D.length x.D.length] Qy.zeroValue22) fun yy F G=>?_;have hEs:=(G.e 4).size;refine ZA F rfl (by decide) (F.want rfl) (ZK rfl (w2.heap.size) (e:=22) (size:=1) (bytes:=24) Qy.underlying25 (by kernel_rfl) (by decide) (F.at rfl) (G.o 2) (F.at rfl) (G.q 0) rfl (by simp[Value.oneCell']) (by omega) (by omega) (by omega)) ?_;clear F;rintro _ v' w6 F ⟨hown',hg⟩;obtain⟨va21,vc21,rfl⟩:=Zi hown';replace G:=(G.d 0).gr 1 hg hown';clear hg hown';have oo:=G.o 1;rw[show S.map (·.1)++[Value.slice ra x.D.length x.D.length]=P.map (·.1) by rw[hP,List.map_append];rfl,hPl]at oo;rw[hPl]at F;replace hS:=hPS;replace hSl:P.length=i+1:=by omega
  replace G:=G.rO 1 oo;clear oo;refine(F.m) fun F=>k7<|Yg<|(F.m) fun F=>(F.y F.sb) fun F=>?_
  rw[show (((u-i:Nat):Int)-1)=((u-(i+1):Nat):Int) by omega]at F;refine(F.m) fun F=>?_;replace G:=G.rL 2 (show Zg w0 w6 b (k+1+10*(i+1)) nv from Zo (G.l 2) (by omega));show _∧_;exact⟨by omega,_,_,F.u,G.u,_,_,_,rfl,rfl,(G.o 1),(G.f 0),hS,hSl,(by omega)⟩
 ·refine wp_exit<|k3<|wR fun k8=>(F.m) fun F=>(F.m) fun F=>k8<|(F.r1) ?_
  have fam:=G.f 0;have oo:=G.o 1;exact⟨va,vc,S,rfl,by omega,hS,Z0A oo hwR0,ZcK fam hwR0,Zo (G.l 2) (by omega),(G.e 5)⟩
variable{μ:Nat}
def AtB(b:Nat)(x:Vm)(w:World):Prop:=∀W,Ext [b] w W→x.At W
theorem AtB.ext{x:Vm}(h:AtB b x w)(e:Ext [b] w W): AtB b x W:=fun V k=>h V (e.trans k)
theorem AtB.at{x:Vm}(h:AtB b x w): x.At w:=h w (Ext.refl _ _)
variable{μ:Nat}
theorem Z7Z{B:Int}:∀(ds met:List (List Int)),(∀d∈ds,numE d B 9=0)→(met++ds).Nodup→dyeE B met ds=0
 | [],_,_,_=>rfl
 | d::ds,met,h,hn=>by
  rw[dyeE,if_neg (by simp[h d (by simp)])];have h1:d ∉ met:=fun hm=>by
   rw[List.nodup_append]at hn;exact hn.2.2 d hm d (by simp) rfl
  rw[if_neg h1];exact Z7Z ds (met++[d]) (fun e he=>h e (by simp[he])) (by simpa using hn)
theorem Z68{B:Int}:∀(ls:List (List Int)),(∀l∈ls,numE l B 3=0∧l.sum≠0)→Z20 B ls=0
 | [],_=>rfl
 | l::ls,h=>by
  obtain⟨h1,h2⟩:=h l (by simp);rw[Z20,if_neg (by simp[h1]),if_neg h2];exact Z68 ls fun m hm=>h m (by simp[hm])
theorem Zl6{x:Vm}(b1:1≤x.B)(b3:x.B≤3)(d1:1≤x.D.length)(d4:x.D.length≤4)(dl:∀p∈x.D,(p.2.length:Int)=x.B∧∀n∈p.2,0≤n∧n≤9)(nd:(x.D.map (·.2)).Nodup)(l1:1≤x.L.length)(l3:x.L.length≤3)(ll:∀p∈x.L,(p.2.length:Int)=x.B∧∀n∈p.2,0≤n∧n≤3)(ls:∀p∈x.L,p.2.sum≠0)(t0:0≤x.tol)(t12:x.tol≤12):VOk x:=by
 refine⟨?_,b1,b3,d1,d4,dl,l1,l3,ll,t0,t12⟩;have h2:sizE ((x.D.map (·.2)).length:Nat) 4=0:=Z9m (by simp;omega) (by simp;omega);have h4:sizE ((x.L.map (·.2)).length:Nat) 3=0:=Z9m (by simp;omega) (by simp;omega);have h3:dyeE x.B [] (x.D.map (·.2))=0:=Z7Z _ _ (fun d hd=>by obtain⟨p,hp,rfl⟩:=List.mem_map.1 hd;exact Z9f (dl p hp).1 (dl p hp).2) (by simpa using nd);have h5:Z20 x.B (x.L.map (·.2))=0:=Z68 _ (fun d hd=>by obtain⟨p,hp,rfl⟩:=List.mem_map.1 hd;exact⟨Z9f (ll p hp).1 (ll p hp).2,ls p hp⟩);rw[chk6 (Z2n.2 ⟨b1,b3⟩) h2 h3 h4 h5,Z2n.2 ⟨t0,t12⟩]
 rfl
theorem Zfv{size: Nat}{cs:List Value}(h:w.ownsRow base e size (.slice a m c) n cs): n≤c:=by
 rcases h.2 with⟨hv,hn⟩ | ⟨g,cap,cur,hv,-,-,hn,-⟩
 ·injection hv with h1 h2 h3;omega
 ·injection hv with h1 h2 h3;omega
theorem Zi3{b2: Nat}{M:List (Value×List Int)}(oo:w.ownsRow base 22 1 (.slice a M.length c) M.length (M.map (·.1)))(fam:FamT w b2 M)(e:Ext [b] w W)(h1:b<base)(h2:b<b2): Z0G W a M:=
 Z10 (ZS oo e (by simpa using h1)) (ZG fam fun v n xs h=>ZS h e (by simpa using h2))
def Zhg(dm:Nat)(w0:World)(b k:Nat)(nv:Value)(w:World)(e:Ending)(w':World):Prop:=∃x:Vm,e = .returned (.agg #[.int .i64 x.B,.slice x.da x.D.length x.dc,.slice x.la x.L.length x.lc,.int .i64 x.tol])∧VOk x∧(x.D.length≤dm∧x.D.length≤x.dc)∧AtB b x w'∧Zg w0 w' b (k+100) nv∧Ext [b] w w'
theorem Zeh(dm:Nat)(hdm1:1≤dm)(hdm:dm≤4)(w0 w:World)(b k:Nat)(nv:Value)(h:Zg w0 w b k nv)(hk:k≤800000):
  Calls (Qy.prog μ) 13 #[.pointer (some ⟨b,0,none⟩),.int .i64 ((dm:Nat):Int)] w (Zhg dm w0 b k nv w):=by
 have HL:=h;have hbw:=Z22 HL;have hb0:=HL.1;have hws:w0.heap.size≤w.heap.size:=HL.2.2.1.size;have E:Ext [b] w w:=Ext.refl _ _;clear h;have G:=((Bk.nil w).cl HL).ce E;refine(ent 66 Tryz.f13 rfl) fun F=>wR fun k1=>(F.al G Qy.zeroValue27) @fun n4 w1 _ yy F G=>k1<|wR fun k2=>(F.m) fun F=>(F.k (Z86 w0 _ b _ nv 1 3 (G.l 2) (by omega) (by omega) (by omega) (by omega) (by omega))) ?_
 rintro _ w2 ⟨bz,rfl,hbz1,hbz2,HL,e9⟩;refine⟨_,rfl,fun F=>?_⟩;replace G:=G.xl 2 e9 HL;obtain⟨bn,rfl⟩:=Int.eq_ofNat_of_zero_le (show 0≤bz by omega);refine(F.m) fun F=>(F.m) fun F=>(F.k (Z0F w0 _ b _ nv 6 (G.l 2) (by omega) (by omega) (by omega))) ?_;rintro _ w3 ⟨u,rfl,hu0,hu1,HL,e9⟩;refine⟨_,rfl,fun F=>?_⟩;replace G:=G.xl 2 e9 HL;refine(F.bs G 1 #[.int .i64 0,.int .i64 1,.int .i64 1,.int .i64 2,.int .i64 u] Qy.zeroValue3) @fun n15 w4 _ yy F G=>(F.k (ZgX w0 _ b _ nv n15 _ [0,1,1,2,u] (G.l 3) (by omega) (G.q 0) (by omega) (by simp) (by simp))) ?_;rintro _ w5 ⟨tl,rfl,htm,HL,e9⟩;refine⟨_,rfl,fun F=>?_⟩;replace G:=G.xl 3 e9 HL;have htl:0≤tl∧tl≤6:=by simp only[Yc,Ya,or_false]at htm;omega
 replace G:=G.d 0;refine(F.y (F.bv #[.int .i64 ((bn:Nat):Int),.slice none 0 0,.slice none 0 0,.int .i64 tl])) fun F=>(F.al G Qy.zeroValue27) @fun n5 w6 _ yy F G=>(F.sr G 0) fun G=>k2<|wQ fun k3=>wR fun k4=>(F.m) fun F=>(F.m) fun F=>(F.k (Z86 w0 _ b _ nv 1 ((dm:Nat):Int) (G.l 3) (by omega) (by omega) (by omega) (by omega) (by omega))) ?_
 rintro _ w8 ⟨n,rfl,hn1,hn2,HL,e9⟩;refine⟨_,rfl,fun F=>?_⟩;replace G:=G.xl 3 e9 HL;refine(F.m) fun F=>?_;rw[show n=n-((0:Nat):Int) by omega]at F;have hb4:=Z3 (G.q 1);have hb5:=Z3 (G.q 0);have hbb:=Z22 (G.l 3);have hwR0:w.heap.size≤w8.heap.size:=by exact(G.e 2).size
 have oo:w8.ownsRow w8.heap.size 22 1 (.slice none 0 0) 0 (([]:List (Value×List Int)).map (·.1)):=World.ownsRow_nil _ _ _ _;have fam:FamT w8 w8.heap.size []:=Z58 _ _;replace G:=((G.hr [b,n5]).co oo).cf fam;refine k4<|Yh ?_
 replace G:=G.rL 6 (show Zg w0 w8 b (k+4+10*0) nv from Zo (G.l 6) (by omega));refine lpB (F.b [0,4,5]) (G.b [2,4,5]) (dm) (fun i Lv Sv W=>∃da:Option Addr,∃dc:Nat,∃O:List (Value×List Int),Lv=[(6,.int .i64 (n-((i:Nat):Int)))]∧Sv=[.q n5 (#[.int .i64 ((bn:Nat):Int),.slice da O.length dc,.slice none 0 0,.int .i64 tl]) 27,.l w0 b (k+4+10*i) nv]∧W.ownsRow w8.heap.size 22 1 (.slice da O.length dc) O.length (O.map (·.1))∧FamT W w8.heap.size O∧(∀p∈O,(p.2.length:Int)=bn∧∀m∈p.2,0≤m∧m≤9)∧(O.map (·.2)).Nodup∧O.length≤i∧(0<i→0<O.length)∧(i:Int)≤n) ⟨_,_,F.u,G.u,none,0,[],rfl,rfl,(G.o 1),(G.f 0),(by simp),(by simp),(by simp),(by simp),(by omega)⟩ ?_;clear F G;rintro i _ w9 _ _ hi1 ⟨da,dc,O,rfl,rfl,oo,fam,hOB,hnd,hOl,hO1,hin⟩ F G;replace G:=((G.z).co oo).cf fam;refine wQ fun k5=>wR fun k6=>(F.m) fun F=>(F.y F.gt) fun F=>k6<|F.ci (fun hc22=>?_) (fun hc22=>?_)
 ·refine Yi<|k5<|wQ fun k7=>Yh<|wR fun k8=>(F.m) fun F=>(F.y (F.fd 0)) fun F=>(F.y (F.lc (G.q 2))) fun F=>?_
  have fam:=G.f 0;have hflt:=Lib.hid (Z84 fam);obtain⟨B1,hB1⟩:∃B1,B1=w9.heap.size:=⟨_,rfl⟩;rw[←hB1]at hflt;have hB1w:w8.heap.size≤B1:=by rw[hB1];exact(G.e 4).size
  refine(F.k (Z5J w0 _ b _ nv bn 9 (G.l 3) (by omega) (by omega) (by omega) (by omega))) ?_;rintro _ w10 ⟨ra,rc,xs,rfl,hxl,hxb,ro,HL,e9⟩;refine⟨_,rfl,fun F=>?_⟩;replace G:=G.xl 3 e9 HL;rw[←hB1]at ro;replace G:=G.co ro;refine(F.m) fun F=>k8<|wR fun k9=>(F.y (F.fd 1)) fun F=>(F.y (F.lc (G.q 3))) fun F=>(F.m) fun F=>?_
  have ro:=G.o 0;have fam:=G.f 1;have oo:=G.o 2;have hin2:=Zf5 (μ:=μ) O xs da ra dc rc w10 (Z10 oo fam) (by rw[hxl];exact ZO ro hxl.symm) (by omega) (fun p hp=>by have:=(hOB p hp).1;omega) (by omega);rw[hxl]at hin2;refine(F.k (hin2)) ?_;rintro _ w11 ⟨rfl,e9⟩;refine⟨_,rfl,fun F=>?_⟩;replace G:=G.ex e9;clear hin2;refine(F.y F.nd) fun F=>k9<|F.ci (fun hc33=>?_) (fun hc33=>?_)
  ·have ro:=G.o 0
   have fam:=G.f 1;have fam2:=Z2H (Z3u (b1:=B1) (L:=[(Value.slice ra bn rc,xs)]) ⟨fun p hp=>(by obtain rfl:p=(Value.slice ra bn rc,xs):=(by simpa using hp);rw[show ((Value.slice ra bn rc,xs):Value×List Int).2.length=bn from hxl];exact ro),List.pairwise_singleton _ _⟩ fam hflt.out hB1w) (M:=O++[(Value.slice ra bn rc,xs)]) List.perm_append_comm;have fam:=fam2;clear fam2;obtain⟨P,hP⟩:∃P,P=O++[(Value.slice ra bn rc,xs)]:=⟨_,rfl⟩;have hPl:O.length+1=P.length:=by rw[hP,Ym];rfl
   rw[←hP]at fam;have hPB:∀p∈P,(p.2.length:Int)=bn∧∀m∈p.2,0≤m∧m≤9:=by intro p hp;rw[hP]at hp;rcases List.mem_append.1 hp with hp | hp;(· exact hOB p hp);(· simp only[Yc,Ya,or_false]at hp;subst hp;exact⟨by show ((xs.length:Nat):Int)=_;omega,hxb⟩)
   have hPn:(P.map (·.2)).Nodup:=by rw[hP,List.map_append,List.nodup_append];exact⟨hnd,by simp,fun y hy z hz=>by simp only[List.map_cons,List.map_nil,Yc,Ya,or_false]at hz;subst hz;intro e;subst e;exact hc33 hy⟩
   replace G:=G.rF 1 fam;clear fam;refine Yg<|(F.y (F.fd 1)) fun F=>(F.y (F.lc (G.q 3))) fun F=>(F.m) fun F=>(F.bs G 1 #[.slice ra bn rc] Qy.zeroValue22) fun yy F G=>?_
   have hEs:=(G.e 6).size;have ro:=G.o 1;replace G:=G.d 1;refine ZA F rfl (by decide) (F.want rfl) (ZK rfl (w8.heap.size) (e:=22) (size:=1) (bytes:=24) Qy.underlying25 (by kernel_rfl) (by decide) (F.at rfl) (G.o 2) (F.at rfl) (G.q 0) rfl (by simp[Value.oneCell']) (by omega) (by omega) (by omega)) ?_;clear F;rintro _ v' w13 F ⟨hown',hg⟩;obtain⟨va38,vc38,rfl⟩:=Zi hown';replace G:=(G.d 0).gr 1 hg hown';clear hg hown';have oo:=G.o 1;rw[show O.map (·.1)++[Value.slice ra bn rc]=P.map (·.1) by rw[hP,List.map_append];rfl,hPl]at oo;rw[hPl]at F;replace hOB:=hPB;replace hnd:=hPn;replace hOl:P.length≤i+1:=by omega
   replace hO1:0<i+1→0<P.length:=fun _=>by omega
   replace G:=G.rO 1 oo;clear oo;refine(F.y (F.fd 1)) fun F=>(F.st G 2) @fun w14 G=>k7<|Yg<|(F.m) fun F=>(F.y F.sb) fun F=>?_
   rw[show n-((i:Nat):Int)-1=n-((i+1:Nat):Int) by omega]at F;refine(F.m) fun F=>?_;replace G:=G.rL 3 (show Zg w0 w14 b (k+4+10*(i+1)) nv from Zo (G.l 3) (by omega));show _∧_;exact⟨by omega,_,_,F.u,G.u,_,_,_,rfl,rfl,(G.o 1),(G.f 0),hOB,hnd,hOl,hO1,(by omega)⟩
  ·have hOne:0<O.length:=by have:=Classical.not_not.1 hc33;rcases O with _ | ⟨p,O⟩;(· simp at this);(· simp)
   replace hOl:O.length≤i+1:=by omega
   replace hO1:0<i+1→0<O.length:=fun _=>hOne;refine Yi<|k7<|Yg<|(F.m) fun F=>(F.y F.sb) fun F=>?_
   rw[show n-((i:Nat):Int)-1=n-((i+1:Nat):Int) by omega]at F;refine(F.m) fun F=>?_;replace G:=G.rL 4 (show Zg w0 w11 b (k+4+10*(i+1)) nv from Zo (G.l 4) (by omega));show _∧_;exact⟨by omega,_,_,F.u,G.u,_,_,_,rfl,rfl,(G.o 2),(G.f 1),hOB,hnd,hOl,hO1,(by omega)⟩
 ·refine wp_exit<|k3<|wQ fun k10=>wQ fun k11=>?_
  have oo:=G.o 1;have hdcap:=Zfv oo;have fam:=G.f 0;have hDl:∀W,Ext [b,n4,n5] w9 W→Z0G W da O:=fun W e=>Z10 (ZS oo e (by simp;omega)) (ZG fam fun v n xs h=>ZS h e (by simp;omega));have HDl:=Lib.hid hDl;clear hDl;have hwL0:w.heap.size≤w9.heap.size:=by exact(G.e 6).size
  replace G:=G.hr [b,n4,n5];refine Yg<|(F.m) fun F=>?_
  have fam:=G.f 1;have oo:=G.o 2;replace G:=G.b [0,3,4,6,7];refine(F.k (Z86 w0 _ b _ nv 1 3 (G.l 2) (by omega) (by omega) (by omega) (by omega) (by omega))) ?_;rintro _ w15 ⟨m,rfl,hm1,hm2,HL,e9⟩;refine⟨_,rfl,fun F=>?_⟩;replace G:=G.xl 2 e9 HL;refine(F.m) fun F=>?_;rw[show m=m-((0:Nat):Int) by omega]at F;have oo:w15.ownsRow w9.heap.size 22 1 (.slice none 0 0) 0 (([]:List (Value×List Int)).map (·.1)):=World.ownsRow_nil _ _ _ _;have fam:FamT w15 w9.heap.size []:=Z58 _ _;have hOd:O.length≤dm:=by omega
  replace hO1:0<O.length:=hO1 (by omega);replace G:=(G.co oo).cf fam;refine k11<|Yh ?_
  replace G:=G.rL 4 (show Zg w0 w15 b (k+5+10*dm+10*0) nv from Zo (G.l 4) (by omega));refine lpB (F.b [0,4,5]) (G.b [2,5,6]) (3) (fun j Lv Sv W=>∃la:Option Addr,∃lc:Nat,∃Q:List (Value×List Int),Lv=[(8,.int .i64 (m-((j:Nat):Int)))]∧Sv=[.q n5 (#[.int .i64 ((bn:Nat):Int),.slice da O.length dc,.slice la Q.length lc,.int .i64 tl]) 27,.l w0 b (k+5+10*dm+10*j) nv]∧W.ownsRow w9.heap.size 22 1 (.slice la Q.length lc) Q.length (Q.map (·.1))∧FamT W w9.heap.size Q∧(∀p∈Q,(p.2.length:Int)=bn∧∀m∈p.2,0≤m∧m≤3)∧(∀p∈Q,p.2.sum≠0)∧Q.length=j∧(j:Int)≤m) ⟨_,_,F.u,G.u,none,0,[],rfl,rfl,(G.o 1),(G.f 0),(by simp),(by simp),rfl,(by omega)⟩ ?_;clear F G;rintro j _ w16 _ _ hi2 ⟨la,lc,Q,rfl,rfl,oo,fam,hQB,hQs,hQl,hjm⟩ F G;replace G:=((G.z).co oo).cf fam;refine wQ fun k12=>wR fun k13=>(F.m) fun F=>(F.y F.gt) fun F=>k13<|F.ci (fun hc43=>?_) (fun hc43=>?_)
  ·refine Yi<|k12<|wQ fun k14=>Yh<|wR fun k15=>(F.m) fun F=>(F.y (F.fd 0)) fun F=>(F.y (F.lc (G.q 2))) fun F=>?_
   have fam:=G.f 0;have hflt:=Lib.hid (Z84 fam);obtain⟨B1,hB1⟩:∃B1,B1=w16.heap.size:=⟨_,rfl⟩;rw[←hB1]at hflt;have hB1w:w9.heap.size≤B1:=by rw[hB1];exact(G.e 4).size
   refine(F.k (Z5J w0 _ b _ nv bn 3 (G.l 3) (by omega) (by omega) (by omega) (by omega))) ?_;rintro _ w17 ⟨ra,rc,xs,rfl,hxl,hxb,ro,HL,e9⟩;refine⟨_,rfl,fun F=>?_⟩;replace G:=G.xl 3 e9 HL;rw[←hB1]at ro;replace G:=G.co ro;refine(F.m) fun F=>k15<|wR fun k16=>(F.m) fun F=>(F.m) fun F=>(F.y (F.fd 0)) fun F=>(F.y (F.lc (G.q 3))) fun F=>(F.y F.sb) fun F=>(F.k (Z0F w0 _ b _ nv (((bn:Nat):Int)-1) (G.l 4) (by omega) (by omega) (by omega))) ?_
   rintro _ w18 ⟨v,rfl,hv0,hv1,HL,e9⟩;refine⟨_,rfl,fun F=>?_⟩;replace G:=G.xl 4 e9 HL;obtain⟨v,rfl⟩:=Int.eq_ofNat_of_zero_le hv0;refine(F.m) fun F=>(F.k (Z86 w0 _ b _ nv 1 3 (G.l 4) (by omega) (by omega) (by omega) (by omega) (by omega))) ?_;rintro _ w19 ⟨z,rfl,hz1,hz2,HL,e9⟩;refine⟨_,rfl,fun F=>?_⟩;replace G:=G.xl 4 e9 HL;have ro:=G.o 0;have HS:=Lib.hid (Z0D ro hxl.symm [] (by simp));have hil:=Z3v xs;replace G:=G.hr [];obtain⟨xb17,xo17,xa17,xr17⟩:=HS.out v (by omega);refine(F.y (F.is 1 xa17)) fun F=>?_;replace G:=G.d 0;obtain⟨⟨u0,hcu⟩,hfu,hst⟩:=Z2o (G.o 0) xa17 (j:=v) (p:=xo17+((v:Nat):Int).toNat*1) (by first | omega | (simp;omega)) (by omega);refine Z1A rfl (F.want rfl) (ZR rfl (F.at rfl) (F.at rfl) rfl (by kernel_rfl) hcu hfu) ?_;intro w20 hw;obtain⟨hown',hg⟩:=hst _ _ hw;have ro:=(G.o 0);have fam:=G.f 1;replace G:=G.d 1;replace fam:=ZcJ fam hflt.out ro hg;replace G:=(G.gr 0 hg hown').cf fam;clear hst hcu hfu hw hg hown';have ro:=G.o 1;rw[Z3w]at ro;replace G:=G.rO 1 ro;clear ro;obtain⟨ys,hys⟩:∃ys,ys=xs.set v z:=⟨_,rfl⟩;have hyl:ys.length=bn:=by rw[hys,List.length_set];exact hxl
   have hyb:∀q∈ys,0≤q∧q≤3:=by intro q hq;rw[hys]at hq;rcases List.mem_or_eq_of_mem_set hq with hq | rfl;(· exact hxb q hq);(· omega)
   have hysum:ys.sum≠0:=by have h1:=Zd6 (xs:=ys) (fun q hq=>(hyb q hq).1) z (by rw[hys];exact List.mem_set (by omega) z);omega
   have ro:=G.o 1;rw[←hys]at ro;replace G:=G.rO 1 ro;clear ro;refine k16 ?_;have fam:=G.f 0;have ro:=G.o 1;have fam2:=Z2H (Z3u (b1:=B1) (L:=[(Value.slice ra bn rc,ys)]) ⟨fun p hp=>(by obtain rfl:p=(Value.slice ra bn rc,ys):=(by simpa using hp);rw[show ((Value.slice ra bn rc,ys):Value×List Int).2.length=bn from hyl];exact ro),List.pairwise_singleton _ _⟩ fam hflt.out hB1w) (M:=Q++[(Value.slice ra bn rc,ys)]) List.perm_append_comm;have fam:=fam2;clear fam2;obtain⟨P,hP⟩:∃P,P=Q++[(Value.slice ra bn rc,ys)]:=⟨_,rfl⟩;have hPl:Q.length+1=P.length:=by rw[hP,Ym];rfl
   rw[←hP]at fam;have hPB:∀p∈P,(p.2.length:Int)=bn∧∀m∈p.2,0≤m∧m≤3:=by intro p hp;rw[hP]at hp;rcases List.mem_append.1 hp with hp | hp;(· exact hQB p hp);(· simp only[Yc,Ya,or_false]at hp;subst hp;exact⟨by show ((ys.length:Nat):Int)=_;omega,hyb⟩)
   have hPs:∀p∈P,p.2.sum≠0:=by intro p hp;rw[hP]at hp;rcases List.mem_append.1 hp with hp | hp;(· exact hQs p hp);(· simp only[Yc,Ya,or_false]at hp;subst hp;exact hysum)
   replace G:=G.rF 0 fam;clear fam;refine Yg<|(F.y (F.fd 2)) fun F=>(F.y (F.lc (G.q 3))) fun F=>(F.m) fun F=>(F.bs G 1 #[.slice ra bn rc] Qy.zeroValue22) fun yy F G=>?_
   have hEs:=(G.e 6).size;replace G:=G.d 2;refine ZA F rfl (by decide) (F.want rfl) (ZK rfl (w9.heap.size) (e:=22) (size:=1) (bytes:=24) Qy.underlying25 (by kernel_rfl) (by decide) (F.at rfl) (G.o 2) (F.at rfl) (G.q 0) rfl (by simp[Value.oneCell']) (by omega) (by omega) (by omega)) ?_;clear F;rintro _ v' w22 F ⟨hown',hg⟩;obtain⟨va63,vc63,rfl⟩:=Zi hown';replace G:=(G.d 0).gr 1 hg hown';clear hg hown';have oo:=G.o 1;rw[show Q.map (·.1)++[Value.slice ra bn rc]=P.map (·.1) by rw[hP,List.map_append];rfl,hPl]at oo;rw[hPl]at F;replace hQB:=hPB;replace hQs:=hPs;replace hQl:P.length=j+1:=by omega
   replace G:=G.rO 1 oo;clear oo;refine(F.y (F.fd 2)) fun F=>(F.st G 2) @fun w23 G=>k14<|Yg<|(F.m) fun F=>(F.y F.sb) fun F=>?_
   rw[show m-((j:Nat):Int)-1=m-((j+1:Nat):Int) by omega]at F;refine(F.m) fun F=>?_;replace G:=G.rL 3 (show Zg w0 w23 b (k+5+10*dm+10*(j+1)) nv from Zo (G.l 3) (by omega));show _∧_;exact⟨by omega,_,_,F.u,G.u,_,_,_,rfl,rfl,(G.o 1),(G.f 0),hQB,hQs,hQl,(by omega)⟩
  ·refine wp_exit<|k10<|wR fun k18=>(F.y (F.lb (G.q 2))) fun F=>(F.sr G 5) fun G=>k18 ?_
   refine(F.rg (rs_c F rfl rfl Qy.underlying27 rfl (by kernel_rfl) (G.q 5))) ?_;have hbL:b<w9.heap.size:=by omega
   have fam:=G.f 0;have oo:=G.o 1;refine⟨{B:=((bn:Nat):Int),D:=O,da:=da,dc:=dc,L:=Q,la:=la,lc:=lc,tol:=tl},rfl,Zl6 (by simp only;omega) (by simp only;omega) (by simp only;omega) (by simp only;omega) hOB hnd (by simp only;omega) (by simp only;omega) hQB hQs (by simp only;omega) (by simp only;omega),⟨hOd,hdcap⟩,fun W e=>⟨HDl.out W ((G.e 4).trans (e.mono (by simp))),Zi3 oo fam e hbL hbL⟩,Zo (G.l 3) (by omega),(G.e 6)⟩
end
section
open Go.RowKit Ev
variable{μ:Nat}
theorem lawA(a0:Option Addr)(len0 cap0:Nat)(z0:List Int)(w:World)(h:ZaL .i64 w a0 len0 cap0 z0):Calls (Qy.prog 0) 4 #[.slice a0 len0 cap0] w fun e w'=>LawE e w':=by
 have E:Ext [] w w:=Ext.refl _ _;have G:=(Bk.nil w).ce E;refine(ent 158 Tryz.f4 rfl) fun F=>wR fun k1=>(F.m) fun F=>k1<|wR fun k2=>(F.m) fun F=>(F.k (Z9e (μ:=0) w a0 len0 cap0 z0 h)) ?_
 rintro _ w1 ⟨b,rfl,hbw0,hbw1,HL,e9⟩;refine⟨_,rfl,fun F=>?_⟩;replace G:=(G.ex e9).cl HL;refine(F.m) fun F=>k2<|wR fun k3=>(F.m) fun F=>(F.k (Zeh (μ:=0) 4 (by decide) (by decide) w _ b _ _ (G.l 0) (by omega))) ?_
 rintro _ w2 ⟨x,rfl,hv,hd3,hxb,HL,e9⟩;refine⟨_,rfl,fun F=>?_⟩;replace G:=G.xl 0 e9 HL;have HV:=Lib.hid hv;have HXB:=Lib.hid hxb;clear hv hxb;replace G:=G.hr [b];refine(F.al G Qy.zeroValue27) fun yy F G=>(F.sr G 0) fun G=>k3<|wQ fun k4=>?_
 have G2:=G;refine(wD [b] none G) @fun w5 G=>(F.z 0 (G.t 0) F.mo) fun F=>(F.zr 1 (G.t 0) fun hS=>F.lb (G2.k 0 hS)) fun F=>(F.z 3 (G.t 0) F.mo) fun F=>(F.zr 4 (G.t 0) fun hS=>F.lb (G2.k 0 hS)) fun F=>?_;obtain⟨B1,hB1⟩:∃B1,B1=w5.heap.size:=⟨_,rfl⟩;have hb1:b<B1:=by rw[hB1];exact Z22 (G.l 3)
 refine(aO 2)<|(F.ok (Z8C (μ:=0) x HV.out w _ b _ _ (G.l 3) (by omega))) ?_
 rintro _ w6 ⟨sa,sc,S,rfl,h6,hS,so,famS,HL,e9⟩;refine⟨_,rfl,fun F=>?_⟩;replace G:=G.xl 3 e9 HL;refine .intro (G.t 0) ?_;rw[←hB1]at so famS;replace G:=(G.co so).cf famS;refine(aO 5)<|(F.ok (Z91 (μ:=0) x HV.out w _ b _ _ (G.l 5) (by omega))) ?_
 rintro _ w7 ⟨qa,qc,ls,rfl,hls,hls3,lo,HL,e9⟩;refine⟨_,rfl,fun F=>?_⟩;replace G:=G.xl 5 e9 HL;refine .intro (G.t 2)<|(F.z 6 (G.t 2) F.mo) fun F=>(F.z 7 (G.t 2) F.mo) fun F=>(aD) ?_
 have hxd:=HXB.out _ (G.e 4);have famS:=G.f 0;have so:=G.o 1;have HSL:=Lib.hid (Z10 so famS);have HXD:=Lib.hid hxd;have HSO:=Lib.hid hS;have HLR:=Lib.hid (ZO lo rfl);have HLM:=Lib.hid hls;clear hxd hS lo hls;obtain⟨T,hT⟩:∃T,T=S.map (·.2):=⟨_,rfl⟩;have hTl:T.length=S.length:=by rw[hT,Yj]
 have HTS:RowKit.Hid (∀j,TubS (val (T.getD j []))):=Lib.hid (Zge fun t ht=>by rw[hT]at ht;obtain⟨p,hp,rfl⟩:=List.mem_map.1 ht;exact(HSO.out p hp).tub);have hl1:=HV.out.l1;have hl3:=HV.out.l3;have hd4:=HV.out.d4;have HSS:=Lib.hid HSL.out.1;have HLS:=Lib.hid (Zc HLR.out 0);replace G:=G.hr [];refine k4<|wR fun k5=>(F.y (F.lb (G.q 4))) fun F=>(F.m) fun F=>(F.m) fun F=>(F.k (ZaI (μ:=0) x HV.out S HSO.out h6 ls HLM.out (by omega) sa qa sc qc _ (HXD.out.ext (G.e 0)) (HSL.out.ext (G.e 0)) (HLR.out.ext (G.e 0) (by simp)))) ?_
 rintro _ w8 ⟨ga,gc,rfl,og,e9⟩;refine⟨_,rfl,fun F=>?_⟩;replace G:=G.ex e9;rw[←hT]at F og;have hg:Z8 w8 (.slice ga (mosR x ls T).length gc) 1 ((mosR x ls T).map Z6):=ZO og rfl;obtain⟨gL,hG⟩:∃gL,gL=mosR x ls T:=⟨_,rfl⟩;rw[←hG]at F hg;have HG:=Lib.hid hg;clear hg og;replace G:=G.hr [];refine(F.m) fun F=>(F.y F.xt) fun F=>(F.y F.xt) fun F=>(F.m) fun F=>(F.m) fun F=>k5<|wR fun k6=>(F.m) fun F=>(F.y F.ln) fun F=>?_
 obtain⟨B5,hB5⟩:∃B5,B5=w8.heap.size:=⟨_,rfl⟩;have hB5D:w7.heap.size≤B5:=by rw[hB5];exact(G.e 1).size
 have hB5G:w8.heap.size≤B5:=by rw[hB5];exact(G.e 0).size
 have hB5E:w.heap.size≤B5:=by rw[hB5];exact(G.e 8).size
 refine ZA F rfl (by decide) (F.want rfl) (Z4H rfl (B5) (e:=22) (bytes:=24) (z:=.slice none 0 0) Qy.underlying25 (by kernel_rfl) rfl (F.at rfl) (F.at rfl) (n:=S.length) (by omega) (by decide) (by omega)) ?_;clear F;rintro _ v' w9 F ⟨oo,hg,rfl⟩;obtain⟨n41,hn⟩:=eQ w8.heap.size;rw[←hn]at F oo;have s41:=G.lt hn;replace G:=G.gn hg;clear hg hn;replace G:=G.co oo;have oo:=G.o 0;rw[show List.replicate S.length (Value.slice none 0 0)=(([]:List (Value×List Int)).map (·.1))++nilV (S.length-(([]:List (Value×List Int)).map (·.1)).length) from rfl]at oo;have fam:FamT w9 B5 []:=Z58 _ _;replace G:=G.rO 0 oo;clear oo;replace G:=G.cf fam;refine(F.m) fun F=>k6<|wQ fun k7=>wQ fun k8=>?_
 replace G:=G.b [0,1,2,3,7,10];refine Yg<|(F.m) fun F=>k8<|Yh<|lpB (F.b [4,5,6,7,8,9]) (G.b [2,3,4,5]) (S.length) (fun a Lv Sv W=>∃R:List (Value×List Int),Lv=[(10,.int .i64 ((a:Nat):Int))]∧Sv=[]∧W.ownsRow B5 22 1 (.slice (some ⟨n41,0,none⟩) S.length S.length) S.length ((R.map (·.1))++nilV (S.length-(R.map (·.1)).length))∧FamT W B5 R∧R.map (·.2)=(List.range a).map fun k=>Zp S.length (nrB x ls T k)) ⟨_,_,F.u,G.u,[],rfl,rfl,(G.o 1),(G.f 0),rfl⟩ ?_
 clear F G;rintro a _ w10 _ _ hi1 ⟨R,rfl,rfl,oo,fam,hR⟩ F G;replace G:=((G.z).co oo).cf fam;refine wQ fun k9=>wR fun k10=>(F.m) fun F=>(F.m) fun F=>(F.y F.ln) fun F=>(F.y F.ls) fun F=>k10<|F.ci (fun hc45=>?_) (fun hc45=>?_)
 ·refine Yi<|k9<|wQ fun k11=>Yh<|wR fun k12=>(F.m) fun F=>?_
  have hRl:(R.map (·.1)).length=a:=by have:=congrArg List.length hR;simpa using this
  have oo:=G.o 1;rw[Zft (by omega)]at oo;obtain⟨cs0,hcs0⟩:=Zdt oo (by omega);have HOB:=Lib.hid hcs0;have fam:=G.f 0;have HF:=Lib.hid fam;have h41:n41<w10.heap.size:=by exact(oo.lt n41 rfl).2
  have hBA:B5≤w10.heap.size:=by have:=(oo.lt n41 rfl).1;omega
  clear hcs0;have hx:w10.ownsRow w10.heap.size 3 1 (.slice none 0 0) 0 (ivs []):=World.ownsRow_nil _ _ _ _;replace G:=G.rO 1 oo;clear oo;replace G:=(G.hr [n41]).co hx;refine k12<|Yh<|lpB (F.b [4,5,6,7,8,9,10]) (G.b [1,4,5,6,7]) (S.length) (fun k Lv Sv W=>∃va:Option Addr,∃vc:Nat,∃X:List Int,Lv=[(11,.int .i64 ((k:Nat):Int))]∧Sv=[]∧W.ownsRow B5 22 1 (.slice (some ⟨n41,0,none⟩) S.length S.length) S.length (outV (R.map (·.1)) (.slice va X.length vc) S.length)∧W.ownsRow w10.heap.size 3 1 (.slice va X.length vc) X.length (ivs X)∧X=Zp k (nrB x ls T a)) ⟨_,_,F.u,G.u,none,0,[],rfl,rfl,(G.o 3),(G.o 0),rfl⟩ ?_
  clear F G;rintro k _ w11 _ _ hi2 ⟨va,vc,X,rfl,rfl,oo,hx,hX⟩ F G;replace G:=((G.z).co oo).co hx;refine wQ fun k13=>wR fun k14=>(F.m) fun F=>(F.m) fun F=>(F.y F.ln) fun F=>(F.y F.ls) fun F=>k14<|F.ci (fun hc51=>?_) (fun hc51=>?_)
  ·refine Yi<|k13<|wQ fun k15=>Yh<|wQ fun k16=>?_
   obtain⟨ra,rc,hra,hrr⟩:=HSL.out.2 _ (Z5 (.bool true,[]) (show a<S.length by omega));obtain⟨ma,mc,hma,hmr⟩:=HSL.out.2 _ (Z5 (.bool true,[]) (show k<S.length by omega));have hro:=HSO.out _ (Z5 (.bool true,[]) (show a<S.length by omega));have hmo:=HSO.out _ (Z5 (.bool true,[]) (show k<S.length by omega));have hrT:T.getD a []=(S.getD a (.bool true,[])).2:=by rw[hT];exact key2 (by omega)
   have hmT:T.getD k []=(S.getD k (.bool true,[])).2:=by rw[hT];exact key2 (by omega)
   rw[←hrT]at hra hrr hro;rw[←hmT]at hma hmr hmo;have HRR:=Lib.hid hrr;have HMR:=Lib.hid hmr;have HRO:=Lib.hid hro;have HMO:=Lib.hid hmo;clear hrr hmr hro hmo;have G4:=G;refine(wD [] none G) @fun w12 G=>(F.zr 0 (G.t 0) fun hS=>F.lb (G4.k 5 hS)) fun F=>(F.z 1 (G.t 0) F.mo) fun F=>(F.z 2 (G.t 0) F.mo) fun F=>?_;obtain⟨xb17,xo17,xa17,xr17⟩:=HSS.out a (by omega);refine(F.z 3 (G.t 0) (F.is 1 xa17)) fun F=>(F.zr 4 (G.t 0) fun hS=>F.l1 (xr17 _ ((G4.e 4).nil hS)) 0) fun F=>?_;rw[hra]at F;refine(F.z 5 (G.t 0) F.mo) fun F=>(F.z 6 (G.t 0) F.mo) fun F=>?_;obtain⟨xb18,xo18,xa18,xr18⟩:=HSS.out k (by omega);refine(F.z 7 (G.t 0) (F.is 1 xa18)) fun F=>(F.zr 8 (G.t 0) fun hS=>F.l1 (xr18 _ ((G4.e 4).nil hS)) 0) fun F=>?_;rw[hma]at F;have hst:=ZaD x HV.out (T.getD a []) (T.getD k []) HRO.out HMO.out ra ma rc mc w12 (HXD.out.ext (G.e 5)) (HRR.out.ext (G.e 5) (by simp)) (HMR.out.ext (G.e 5) (by simp));refine(aO 9)<|(F.okp (hst)) ?_
   rintro _ w13 (⟨⟨rfl,-⟩,e9⟩ | ⟨y1,rfl,hI1,-,e9⟩)
   ·refine .inl ⟨_,rfl,?_⟩
    replace G:=G.ex e9
    (try simp only[Exit.inBlock,Exit.then,Exit.jump,reduceIte])
    refine⟨F.ds,?_⟩;exact Zk6 HV.out (HXD.out.ext (G.e 5)) HRO.out HMO.out rfl rfl (HRR.out.ext (G.e 5) (by simp)) (HMR.out.ext (G.e 5) (by simp))
   refine .inr ⟨_,rfl,fun F=>?_⟩;replace G:=G.ex e9;refine .intro (G.t 0) ?_;clear hst;obtain⟨ya,yc,rfl,hY⟩:=ZcX hI1;clear hI1;obtain⟨A,hA⟩:∃A,A=Zp x.L.length fun i=>alkE x i (val (T.getD a [])) (val (T.getD k [])):=⟨_,rfl⟩;rw[←hA]at F hY;have hAn:A.length≤x.L.length:=by rw[hA];exact Z21 _ _
   have HY:=Lib.hid hY;clear hY;replace G:=G.hr [];refine(F.z 10 (G.t 1) F.mo) fun F=>(F.z 11 (G.t 1) F.xt) fun F=>(F.z 12 (G.t 1) F.xt) fun F=>(F.z 13 (G.t 1) F.mo) fun F=>(F.z 14 (G.t 1) F.mo) fun F=>(aD)<|k16<|wQ fun k19=>wR fun k20=>(F.m) fun F=>(F.y F.neF) fun F=>k20<|(F.cF)<|Yi<|k19<|wR fun k21=>(F.m) fun F=>?_
   replace F:=F.re (k:=14) rfl (show Value.bool true = .bool (allB x ls (val (T.getD a [])) (val (T.getD k [])) 0) from rfl);refine k21<|wQ fun k22=>wR fun k23=>(F.m) fun F=>k23<|Yh<|lpC (F.b [4,5,6,7,8,9,10,11,12]) (G.b [0,2,3,4,5,6,7,8]) (ls.length) (fun i=>[(14,.bool (allB x ls (val (T.getD a [])) (val (T.getD k [])) i)),(15,.int .i64 ((i:Nat):Int))]) F.u fun i hi3 F G=>wQ fun k24=>wR fun k25=>(F.m) fun F=>(F.m) fun F=>(F.y F.ln) fun F=>(F.y F.ls) fun F=>k25<|F.ci (fun hc72=>?_) (fun hc72=>?_)
   ·refine Yi<|k24<|wQ fun k26=>Yh ?_
    by_cases hfl:allB x ls (val (T.getD a [])) (val (T.getD k [])) i=true
    ·by_cases hlk:alkE x (ls.getD i 0).toNat (val (T.getD a [])) (val (T.getD k []))=true
     ·have hli:=HLM.out.2.1 _ (Z5 0 (show i<ls.length by omega))
      have hle:=Z3F (β:=fun i=>alkE x i (val (T.getD a [])) (val (T.getD k []))) hli.1 hli.2;rw[←hA]at hle;rw[hfl]at F;refine Yg<|(F.m) fun F=>(F.m) fun F=>(F.m) fun F=>(F.m) fun F=>(F.m) fun F=>(F.ix HLS.out i) fun xr27 F=>(F.y (F.l1 (xr27 _ (G.e 5)) 0)) fun F=>(F.k0 G (Z9I (μ:=0) A (ls.getD i 0) ya yc _ (HY.out.ext (G.e 0) (by simp)) (by omega))) fun F G=>(F.y (F.geT (h:=hle.2 hlk))) fun F=>(F.y F.pT) fun F=>(F.m) fun F=>?_
      replace F:=F.re (k:=14) rfl (show Value.bool true = .bool (allB x ls (val (T.getD a [])) (val (T.getD k [])) (i+1)) by rw[Z4W,hfl,hlk];rfl);refine k26<|Yg<|(F.m) fun F=>(F.y F.ad) fun F=>(F.m) fun F=>?_
      show _∧_;exact⟨by omega,F.u,G.u⟩
     ·have hli:=HLM.out.2.1 _ (Z5 0 (show i<ls.length by omega))
      have hle:=Z3F (β:=fun i=>alkE x i (val (T.getD a [])) (val (T.getD k []))) hli.1 hli.2;rw[←hA]at hle;rw[hfl]at F;refine Yg<|(F.m) fun F=>(F.m) fun F=>(F.m) fun F=>(F.m) fun F=>(F.m) fun F=>(F.ix HLS.out i) fun xr28 F=>(F.y (F.l1 (xr28 _ (G.e 5)) 0)) fun F=>(F.k0 G (Z9I (μ:=0) A (ls.getD i 0) ya yc _ (HY.out.ext (G.e 0) (by simp)) (by omega))) fun F G=>(F.y (F.geF (h:=fun q=>hlk (hle.1 q)))) fun F=>(F.y F.pT) fun F=>(F.m) fun F=>?_
      replace F:=F.re (k:=14) rfl (show Value.bool false = .bool (allB x ls (val (T.getD a [])) (val (T.getD k [])) (i+1)) by rw[Z4W,hfl,Bool.eq_false_iff.2 hlk];rfl);refine k26<|Yg<|(F.m) fun F=>(F.y F.ad) fun F=>(F.m) fun F=>?_
      show _∧_;exact⟨by omega,F.u,G.u⟩
    ·rw[Bool.eq_false_iff.2 hfl]at F
     refine Yg<|(F.m) fun F=>(F.m) fun F=>(F.n) fun F=>(F.n) fun F=>(F.n) fun F=>(F.n) fun F=>(F.n) fun F=>(F.n) fun F=>(F.n) fun F=>(F.y F.pF) fun F=>(F.m) fun F=>?_
     replace F:=F.re (k:=14) rfl (show Value.bool false = .bool (allB x ls (val (T.getD a [])) (val (T.getD k [])) (i+1)) by rw[Z4W,Bool.eq_false_iff.2 hfl];rfl);refine k26<|Yg<|(F.m) fun F=>(F.y F.ad) fun F=>(F.m) fun F=>?_
     show _∧_;exact⟨by omega,F.u,G.u⟩
   ·refine wp_exit ?_
    rw[show i=ls.length by omega,Zex]at F;refine k22<|wR fun k29=>(F.m) fun F=>k29<|F.cb (fun hc85=>?_) (fun hc85=>?_)
    ·have oo:=G.o 2
     have HS:=Lib.hid (Zbl oo (Zaj (by omega)).symm);have hXn:X.length≤k:=by rw[hX];exact Z21 _ _
     have hol:=Zaj (R:=R.map (·.1)) (v:=.slice va X.length vc) (n:=S.length) (by omega);replace G:=G.hr [];refine Yg<|(F.m) fun F=>(F.m) fun F=>(F.m) fun F=>(F.m) fun F=>?_
     obtain⟨xb30,xo30,xa30,xr30⟩:=HS.out a (by omega);refine(F.y (F.is 1 xa30)) fun F=>(F.y (F.l1 (xr30 _ (G.e 0)) 0)) fun F=>?_;rw[Zfs hRl]at F;refine(F.m) fun F=>(F.bs G 1 #[.int .i64 ((k:Nat):Int)] Qy.zeroValue3) fun yy F G=>?_;have hEs:=(G.e 5).size;replace G:=(G.d 2).d 1;refine ZA F rfl (by decide) (F.want rfl) (ZK rfl (w10.heap.size) (e:=3) (size:=1) (bytes:=8) Qy.underlying22 (by kernel_rfl) (by decide) (F.at rfl) (G.o 1) (F.at rfl) (G.q 0) rfl (by simp[Value.oneCell']) (by omega) (by omega) (by omega)) ?_;clear F;rintro _ v' w18 F ⟨hown',hg⟩;obtain⟨va94,vc94,rfl⟩:=Zi hown';replace G:=(G.d 0).gr 0 hg hown';clear hg hown';have hx:=G.o 0;rw[Z0q]at hx;obtain⟨X2,hXe⟩:∃X2,X2=X++[((k:Nat):Int)]:=⟨_,rfl⟩;have hXl:X.length+1=X2.length:=by rw[hXe,Ym];rfl
     rw[hXl]at F hx;rw[←hXe]at hx;have hX2:X2=Zp (k+1) (nrB x ls T a):=by rw[Z89,←hX,if_pos hc85,hXe]
     replace G:=G.rO 0 hx;clear hx;obtain⟨xb31,xo31,xa31,xr31⟩:=HS.out a (by omega);refine(F.y (F.is 1 xa31)) fun F=>?_;obtain⟨⟨u0,hcu⟩,hfu,hst⟩:=Z2o (G.o 1) xa31 (j:=a) (p:=xo31+((a:Nat):Int).toNat*1) (by first | omega | (simp;omega)) (by omega);refine Z1A rfl (F.want rfl) (ZR rfl (F.at rfl) (F.at rfl) rfl (by kernel_rfl) hcu hfu) ?_;intro w19 hw;obtain⟨hown',hg⟩:=hst _ _ hw;replace G:=G.gr 1 hg hown';clear hst hcu hfu hw hg hown';have oo:=G.o 1;rw[Zfu hRl]at oo;replace G:=G.rO 1 oo;clear oo;refine k15<|Yg<|(F.m) fun F=>(F.y F.ad) fun F=>(F.m) fun F=>?_
     show _∧_;exact⟨by omega,_,_,F.u,G.u,_,_,_,rfl,rfl,(G.o 1),(G.o 0),hX2⟩
    ·have hX2:X=Zp (k+1) (nrB x ls T a):=by rw[Z89,←hX,if_neg (by simpa using hc85),List.append_nil]
     refine Yi<|k15<|Yg<|(F.m) fun F=>(F.y F.ad) fun F=>(F.m) fun F=>?_
     show _∧_;exact⟨by omega,_,_,F.u,G.u,_,_,_,rfl,rfl,(G.o 2),(G.o 1),hX2⟩
  ·refine wp_exit ?_
   obtain rfl:k=S.length:=by omega
   obtain⟨R2,hRe⟩:∃R2,R2=R++[(Value.slice va X.length vc,X)]:=⟨_,rfl⟩;have hx:=G.o 0;have fam:=Z2H (Z3u (b1:=w10.heap.size) (L:=[(Value.slice va X.length vc,X)]) ⟨fun p hp=>(by obtain rfl:p=(Value.slice va X.length vc,X):=(by simpa using hp);exact hx),List.pairwise_singleton _ _⟩ (ZcI HF.out (G.e 2) HOB.out (by decide)) (Z84 HF.out) hBA) (M:=R++[(Value.slice va X.length vc,X)]) List.perm_append_comm;have oo:=G.o 1;rw[Zdq,show R.map (·.1)++[Value.slice va X.length vc]=R2.map (·.1) by rw[hRe,List.map_append];rfl]at oo;rw[←hRe]at fam;have hR2:R2.map (·.2)=(List.range (a+1)).map fun k=>Zp S.length (nrB x ls T k):=by rw[hRe,List.map_append,hR,List.range_succ,List.map_append,hX];rfl
   replace G:=G.rO 1 oo;clear oo;replace G:=G.cf fam;refine k11<|Yg<|(F.m) fun F=>(F.y F.ad) fun F=>(F.m) fun F=>?_
   show _∧_;exact⟨by omega,_,_,F.u,G.u,_,rfl,rfl,(G.o 2),(G.f 0),hR2⟩
 ·refine wp_exit ?_
  obtain rfl:a=S.length:=by omega
  have hRl:R.length=S.length:=by have:=congrArg List.length hR;simpa using this
  have oo:=G.o 1;rw[show (R.map (·.1))++nilV (S.length-(R.map (·.1)).length)=R.map (·.1) by rw[Yj,hRl,Nat.sub_self];exact List.append_nil _,←hRl]at oo;have fam:=G.f 0;have HN:=Lib.hid (Z10 oo fam);have HNS:=Lib.hid HN.out.1;clear oo;replace G:=G.rO 1 oo;clear oo;replace G:=G.hr [];refine k7<|wQ fun k32=>wR fun k33=>(F.m) fun F=>(F.y F.ln) fun F=>(F.m) fun F=>?_
  have hno:RowKit.Hid (∀m:Nat,((S.length:Nat):Int)-((0:Nat):Int)<(m:Int)→m≤S.length→∀l∈picL S.length m 0,togP (nrB x ls T) l=false):=Lib.hid fun m h1 h2=>absurd h2 (by omega);replace F:=F.re (k:=16) rfl (show Value.int .i64 ((S.length:Nat):Int) = .int .i64 (((S.length:Nat):Int)-((0:Nat):Int)) by simp);refine k33<|Yh<|lpB (F.b [5,7,8,9]) (G.b [0,3,4,5,6]) (S.length+1) (fun t Lv Sv W=>Lv=[(16,.int .i64 (((S.length:Nat):Int)-((t:Nat):Int)))]∧Sv=[]∧RowKit.Hid (∀m:Nat,((S.length:Nat):Int)-((t:Nat):Int)<(m:Int)→m≤S.length→∀l∈picL S.length m 0,togP (nrB x ls T) l=false)) ⟨_,_,F.u,G.u,rfl,rfl,hno⟩ ?_
  clear F G;rintro t _ w20 _ _ hi4 ⟨rfl,rfl,hno⟩ F G;replace G:=G.z;refine wQ fun k34=>wR fun k35=>(F.m) fun F=>(F.y F.ge) fun F=>k35<|F.ci (fun hc99=>?_) (fun hc99=>?_)
  ·refine Yi<|k34<|wQ fun k36=>Yh<|wQ fun k37=>?_
   obtain⟨many,hmn⟩:∃many:Nat,((S.length:Nat):Int)-((t:Nat):Int)=many:=⟨S.length-t,by omega⟩;rw[hmn]at F;have hm6:many≤S.length:=by omega
   refine Yg<|(F.m) fun F=>(F.y F.ln) fun F=>(F.m) fun F=>(F.k (Z8j (μ:=0) many (by omega) S.length (by omega) _)) ?_
   rintro _ w21 ⟨L,la,lc,rfl,hLp,ol,famL,e9⟩;refine⟨_,rfl,fun F=>?_⟩;replace G:=G.ex e9;rw[Z8l _ (by omega) _ (by omega)]at hLp;have hLl:L.length=(picL S.length many 0).length:=by rw[←hLp,Yj]
   have hLb:L.length≤262144:=by rw[hLl,←Z8l _ (by omega) _ (by omega)];exact Yd (Z44 many S.length (by omega)) (Yd (Nat.pow_le_pow_right (by decide) (show many≤6 by omega)) (by decide))
   have HP:=Lib.hid (Z10 ol famL);have HPS:=Lib.hid HP.out.1;clear ol famL;have hj:RowKit.Hid (∀j,j<0→togP (nrB x ls T) ((picL S.length many 0).getD j [])=false):=Lib.hid fun j h=>absurd h (by omega);replace G:=G.hr [];refine(F.m) fun F=>k37<|wR fun k38=>(F.m) fun F=>k38<|Yh<|lpB (F.b [5,7,8,9,16,17]) G (L.length) (fun i Lv Sv W=>Lv=[(18,.int .i64 ((i:Nat):Int))]∧Sv=[]∧RowKit.Hid (∀j,j<i→togP (nrB x ls T) ((picL S.length many 0).getD j [])=false)) ⟨_,_,F.u,G.u,rfl,rfl,hj⟩ ?_
   clear F G;rintro i _ w22 _ _ hi5 ⟨rfl,rfl,hj⟩ F G;replace G:=G.z;refine wQ fun k39=>wR fun k40=>(F.m) fun F=>(F.m) fun F=>(F.y F.ln) fun F=>(F.y F.ls) fun F=>k40<|F.ci (fun hc109=>?_) (fun hc109=>?_)
   ·refine Yi<|k39<|wQ fun k41=>Yh<|wQ fun k42=>?_
    obtain⟨l,hl⟩:∃l,l=(picL S.length many 0).getD i []:=⟨_,rfl⟩;obtain⟨hlm,hlb⟩:=Zky S.length (by omega) many (by omega) l (by rw[hl];exact Z5 [] (by omega));have HLB:=Lib.hid hlb;clear hlb;obtain⟨ra,rc,hra,hrr⟩:=HP.out.2 _ (Z5 (.bool true,[]) (show i<L.length by omega));have hLk:(L.getD i (.bool true,[])).2=l:=by rw[←key2 (by omega),hLp,hl]
    rw[hLk,hlm]at hra;rw[hLk]at hrr;have HRR:RowKit.Hid (Z8 w21 (.slice ra many rc) 1 (l.map Z6)):=Lib.hid (by rw[←hlm];exact hrr);have HRS:RowKit.Hid (SlAt [] w21 ra 1 many fun i=>[.int .i64 (l.getD i 0)]):=Lib.hid (by rw[←hlm];exact Zc hrr 0);clear hrr;refine Yg<|(F.m) fun F=>?_
    replace F:=F.re (k:=19) rfl (show Value.bool true = .bool (tgA (nrB x ls T) l 0) from rfl);refine k42<|wQ fun k43=>wR fun k44=>(F.m) fun F=>k44<|Yh<|lpC (F.b [5,7,8,9,16,17,18]) G (many) (fun a=>[(19,.bool (tgA (nrB x ls T) l a)),(20,.int .i64 ((a:Nat):Int))]) F.u @fun _ w23 a hi6 F G=>wQ fun k45=>wR fun k46=>(F.m) fun F=>(F.m) fun F=>(F.y F.ls) fun F=>k46<|F.ci (fun hc114=>?_) (fun hc114=>?_)
    ·refine Yi<|k45<|wQ fun k47=>Yh<|wR fun k48=>(F.m) fun F=>?_
     rw[←Zgc]at F;refine k48<|Yh<|lpC (F.b [5,7,8,9,16,17,18,20]) G (a) (fun k=>[(19,.bool (tgB (nrB x ls T) l a k)),(21,.int .i64 ((k:Nat):Int))]) F.u fun k hi7 F G=>wQ fun k49=>wR fun k50=>(F.m) fun F=>(F.m) fun F=>(F.y F.ls) fun F=>k50<|F.ci (fun hc119=>?_) (fun hc119=>?_)
     ·refine Yi<|k49<|wQ fun k51=>Yh ?_
      by_cases hfl:tgB (nrB x ls T) l a k=true
      ·by_cases hlk:nrB x ls T (l.getD a 0).toNat (l.getD k 0).toNat=true
       ·have hla:=HLB.out _ (Z5 0 (show a<l.length by omega))
        obtain⟨hRl2,hnt⟩:=Zdg hR (show (l.getD a 0).toNat<S.length by omega);have hlk2:=HLB.out _ (Z5 0 (show k<l.length by omega));have hle:=Z3F (β:=nrB x ls T (l.getD a 0).toNat) hlk2.1 hlk2.2;rw[hfl]at F;obtain⟨na,nc,hna,hnr⟩:=HN.out.2 _ (Z5 (.bool true,[]) (show (l.getD a 0).toNat<R.length by omega));rw[hnt]at hna hnr;have HNR:=Lib.hid hnr;have hnl:=Z21 S.length (nrB x ls T (l.getD a 0).toNat);clear hnr;refine(wX 19 G) fun G=>(F.sm) fun F=>(F.sm) fun F=>(F.sm) fun F=>(F.sm) fun F=>(F.sm) fun F=>(F.sx HPS.out i) fun xr52 F=>(F.s (F.l1 (xr52 _ (G.e 0)) 0)) fun F=>?_;rw[hra]at F;refine(F.sm) fun F=>(F.sx HRS.out a) fun xr53 F=>(F.s (F.l1 (xr53 _ (G.e 0)) 0)) fun F=>(F.sx HNS.out ((l.getD a 0).toNat)) fun xr54 F=>(F.s (F.l1 (xr54 _ (G.e 1)) 0)) fun F=>?_;rw[hna]at F;refine(F.sm) fun F=>(F.sm) fun F=>(F.sx HPS.out i) fun xr55 F=>(F.s (F.l1 (xr55 _ (G.e 0)) 0)) fun F=>?_;rw[hra]at F;refine(F.sm) fun F=>(F.sx HRS.out k) fun xr56 F=>(F.s (F.l1 (xr56 _ (G.e 0)) 0)) fun F=>wpStill_nil<|(F.k0 G (Z9I (μ:=0) (Zp S.length (nrB x ls T (l.getD a 0).toNat)) (l.getD k 0) na nc _ (HNR.out.ext (G.e 1) (by simp)) (by omega))) fun F G=>(F.y (F.geT (h:=hle.2 hlk))) fun F=>(F.y F.pT) fun F=>(F.m) fun F=>?_
        replace F:=F.re (k:=19) rfl (show Value.bool true = .bool (tgB (nrB x ls T) l a (k+1)) by rw[Z7E,hfl,hlk];rfl);refine k51<|Yg<|(F.m) fun F=>(F.y F.ad) fun F=>(F.m) fun F=>?_
        show _∧_;exact⟨by omega,F.u,G.u⟩
       ·have hla:=HLB.out _ (Z5 0 (show a<l.length by omega))
        obtain⟨hRl2,hnt⟩:=Zdg hR (show (l.getD a 0).toNat<S.length by omega);have hlk2:=HLB.out _ (Z5 0 (show k<l.length by omega));have hle:=Z3F (β:=nrB x ls T (l.getD a 0).toNat) hlk2.1 hlk2.2;rw[hfl]at F;obtain⟨na,nc,hna,hnr⟩:=HN.out.2 _ (Z5 (.bool true,[]) (show (l.getD a 0).toNat<R.length by omega));rw[hnt]at hna hnr;have HNR:=Lib.hid hnr;have hnl:=Z21 S.length (nrB x ls T (l.getD a 0).toNat);clear hnr;refine(wX 19 G) fun G=>(F.sm) fun F=>(F.sm) fun F=>(F.sm) fun F=>(F.sm) fun F=>(F.sm) fun F=>(F.sx HPS.out i) fun xr57 F=>(F.s (F.l1 (xr57 _ (G.e 0)) 0)) fun F=>?_;rw[hra]at F;refine(F.sm) fun F=>(F.sx HRS.out a) fun xr58 F=>(F.s (F.l1 (xr58 _ (G.e 0)) 0)) fun F=>(F.sx HNS.out ((l.getD a 0).toNat)) fun xr59 F=>(F.s (F.l1 (xr59 _ (G.e 1)) 0)) fun F=>?_;rw[hna]at F;refine(F.sm) fun F=>(F.sm) fun F=>(F.sx HPS.out i) fun xr60 F=>(F.s (F.l1 (xr60 _ (G.e 0)) 0)) fun F=>?_;rw[hra]at F;refine(F.sm) fun F=>(F.sx HRS.out k) fun xr61 F=>(F.s (F.l1 (xr61 _ (G.e 0)) 0)) fun F=>wpStill_nil<|(F.k0 G (Z9I (μ:=0) (Zp S.length (nrB x ls T (l.getD a 0).toNat)) (l.getD k 0) na nc _ (HNR.out.ext (G.e 1) (by simp)) (by omega))) fun F G=>(F.y (F.geF (h:=fun q=>hlk (hle.1 q)))) fun F=>(F.y F.pT) fun F=>(F.m) fun F=>?_
        replace F:=F.re (k:=19) rfl (show Value.bool false = .bool (tgB (nrB x ls T) l a (k+1)) by rw[Z7E,hfl,Bool.eq_false_iff.2 hlk];rfl);refine k51<|Yg<|(F.m) fun F=>(F.y F.ad) fun F=>(F.m) fun F=>?_
        show _∧_;exact⟨by omega,F.u,G.u⟩
      ·rw[Bool.eq_false_iff.2 hfl]at F
       refine(wX 19 G) fun G=>(F.sm) fun F=>(F.sm) fun F=>(F.sn) fun F=>(F.sn) fun F=>(F.sn) fun F=>(F.sn) fun F=>(F.sn) fun F=>(F.sn) fun F=>(F.sn) fun F=>(F.sn) fun F=>(F.sn) fun F=>(F.sn) fun F=>(F.sn) fun F=>(F.sn) fun F=>?_;refine(F.sn) fun F=>(F.sn) fun F=>(F.sn) fun F=>(F.sn) fun F=>(F.sn) fun F=>wpStill_nil<|(F.n) fun F=>(F.n) fun F=>(F.y F.pF) fun F=>(F.m) fun F=>?_
       replace F:=F.re (k:=19) rfl (show Value.bool false = .bool (tgB (nrB x ls T) l a (k+1)) by rw[Z7E,Bool.eq_false_iff.2 hfl];rfl);refine k51<|Yg<|(F.m) fun F=>(F.y F.ad) fun F=>(F.m) fun F=>?_
       show _∧_;exact⟨by omega,F.u,G.u⟩
     ·refine wp_exit ?_
      rw[show k=a by omega,ZiT]at F;refine k47<|Yg<|(F.m) fun F=>(F.y F.ad) fun F=>(F.m) fun F=>?_
      show _∧_;exact⟨by omega,F.u,G.u⟩
    ·refine wp_exit ?_
     rw[show a=l.length by omega,ZiS]at F;refine k43<|wR fun k62=>(F.m) fun F=>k62<|F.cb (fun hc144=>?_) (fun hc144=>?_)
     ·refine wQ fun k63=>?_
      have hGl:gL=l:=by rw[hG,mosR,hTl,hl];exact Zb7 (fun i _=>Zin HV.out HTS.out i) (fun i _ k _=>Zku x ls T i k) h6 hm6 (by omega) (by rw[←hl];exact hc144) hj.out fun m h1 h2=>hno.out m (by omega) h2
      rw[hGl,hlm]at F;have HG2:=HG.out;rw[hGl,hlm]at HG2;have HG3:=Lib.hid HG2;clear HG2;refine Yg<|(F.m) fun F=>(F.y F.eqT) fun F=>(F.m) fun F=>(F.m) fun F=>(F.m) fun F=>(F.m) fun F=>(F.ix HPS.out i) fun xr64 F=>(F.y (F.l1 (xr64 _ (G.e 0)) 0)) fun F=>?_
      rw[hra]at F;have hsi:=Z0n (μ:=0) l l ga ra gc rc w23 (by rw[hlm];exact HG3.out.ext (G.e 2) (by simp)) (by rw[hlm];exact HRR.out.ext (G.e 0) (by simp)) (by omega) (by omega);rw[hlm,decide_eq_true (show l=l from rfl)]at hsi;refine(F.k (hsi)) ?_;rintro _ w30 ⟨rfl,e9⟩;refine⟨_,rfl,fun F=>?_⟩;replace G:=G.ex e9;clear hsi;refine(F.y F.pT) fun F=>(F.m) fun F=>(F.k0 G (Z6U (μ:=0) _)) fun F G=>(F.y F.pT) fun F=>(F.m) fun F=>k63<|(F.r1) ?_
      exact .inl rfl
     ·have hj2:RowKit.Hid (∀j,j<i+1→togP (nrB x ls T) ((picL S.length many 0).getD j [])=false):=Lib.hid fun j hji=>by by_cases e:j=i;(· subst e;rw[←hl];simpa using hc144);(· exact hj.out j (by omega))
      refine Yi<|k41<|Yg<|(F.m) fun F=>(F.y F.ad) fun F=>(F.m) fun F=>?_
      show _∧_;exact⟨by omega,_,_,F.u,G.u,rfl,rfl,hj2⟩
   ·refine wp_exit ?_
    have hno2:RowKit.Hid (∀m:Nat,((S.length:Nat):Int)-((t+1:Nat):Int)<(m:Int)→m≤S.length→∀l∈picL S.length m 0,togP (nrB x ls T) l=false):=Lib.hid fun m h1 h2 l hl=>by by_cases e:m=many;(· subst e;obtain⟨j,hjl,rfl⟩:=List.getElem_of_mem hl;have:=hj.out j (by omega);rwa[Y7,List.getElem?_eq_getElem hjl]at this);(· exact hno.out m (by omega) h2 l hl)
    refine k36<|Yg<|(F.m) fun F=>(F.y F.sb) fun F=>?_
    rw[show ((many:Nat):Int)-1=((S.length:Nat):Int)-((t+1:Nat):Int) by omega]at F;refine(F.m) fun F=>?_;show _∧_;exact⟨by omega,_,_,F.u,G.u,rfl,rfl,hno2⟩
  ·refine wp_exit ?_
   have h00:=hno.out 0 (by omega) (by omega) [] (by simp[picL]);refine k32<|wR fun k65=>(F.m) fun F=>k65<|(F.r1) ?_
   exact absurd (show true=false from h00) (by decide)
end
namespace Lift
open Go Go.Conc Go.RowKit Ev
open Go.ConcM (OsLater)
noncomputable def lB : Code := (Tryz.f4.body).getD (.refuse "")
theorem ZhU:Tryz.f4.body=some lB:=by kernel_rfl
noncomputable def lF:Frame:={(default:Frame) with fn:=lawF,kind:=.normal}
noncomputable def lA(xs:Array Value):Act:={tmps:=xs++Array.replicate (Tryz.f4.ntmps-xs.size) undef,defers:=[]}
theorem Z3q{Q:Program}(h:Q.funcs[(lawF:Nat)]?=some Tryz.f4)(xs:Array Value): Frame.enter Q lawF xs .normal=lF.at (lA xs) [.code lB]:=by
 simp[Frame.enter,Frame.at,h,ZhU,lF,lA]
theorem lawP:PP.funcs[(lawF:Nat)]?=some Tryz.f4:=by kernel_rfl
theorem lawQ:(Qy.prog 0).funcs[(lawF:Nat)]?=some Tryz.f4:=by kernel_rfl
def jmpB(f n:Nat):Bool:=(f==15&&n==3)||(f==19&&n==0)
theorem cl0:ZZ PP gJ jmpB true true true false lB=true:=by kernel_rfl
theorem ZhX:PP.inits.idxOf? lawF=none:=by kernel_rfl
theorem ZkW{f:Nat}(h:gJ f=true): gS f=true:=by
 have h1:=Z65 (ZjW h);unfold gS;rw[List.elem_iff];exact List.mem_append_left _ h1
theorem VR.dup{x y:Value}(h:@VR jkW (idS S) x y): @VR jk0 (idS S) x x:=by
 have nm:∀{b c:Nat},idS S b=some c→idS S b=some b:=fun h=>Z1w (Z0J h).1;have ar:∀{a b:Addr},AR (idS S) a b→AR (idS S) a a:=fun h=>by
  cases h with
  | mk q=>exact .mk (nm q)
 induction h with
 | bool b=>exact @VR.bool jk0 _ b
 | int k n=>exact @VR.int jk0 _ k n
 | string s=>exact @VR.string jk0 _ s
 | ptr0=>exact @VR.ptr0 jk0 _
 | ptr q=>exact @VR.ptr jk0 _ _ _ (ar q)
 | sl0 n c=>exact @VR.sl0 jk0 _ n c
 | sl n c q=>exact @VR.sl jk0 _ _ _ n c (ar q)
 | map0=>exact @VR.map0 jk0 _
 | map q=>exact @VR.map jk0 _ _ _ (nm q)
 | func hf hx _ hy _ ih ih2 =>
  refine @VR.func jk0 _ _ _ _ _ _ _ ?_ rfl (fun i a b p q=>?_) rfl (fun i a b p q=>?_)
  ·cases hf with
   | func f h=>exact @FnR.func jk0 _ f (ZkW h)
   | yield q=>exact @FnR.yield jk0 _ _ _ (nm q)
  ·rw[p]at q
   obtain rfl:=Y1 q;obtain⟨b,hb⟩:∃b,_=some b:=⟨_,Y2 (hx▸(Y0.1 p).1)⟩;exact ih i a b p hb
  ·rw[p]at q
   obtain rfl:=Y1 q;obtain⟨b,hb⟩:∃b,_=some b:=⟨_,Y2 (hy▸(Y0.1 p).1)⟩;exact ih2 i a b p hb
 | func0=>exact @VR.func0 jk0 _
 | iface t _ ih=>exact @VR.iface jk0 _ _ _ t ih
 | iface0=>exact @VR.iface0 jk0 _
 | agg hs _ ih =>
  refine @VR.agg jk0 _ _ _ rfl fun i a b p q=>?_;rw[p]at q;obtain rfl:=Y1 q;obtain⟨b,hb⟩:∃b,_=some b:=⟨_,Y2 (hs▸(Y0.1 p).1)⟩;exact ih i a b p hb
 | tuple hs _ ih =>
  refine @VR.tuple jk0 _ _ _ rfl fun i a b p q=>?_;rw[p]at q;obtain rfl:=Y1 q;obtain⟨b,hb⟩:∃b,_=some b:=⟨_,Y2 (hs▸(Y0.1 p).1)⟩;exact ih i a b p hb
 | junk _ _ _ _=>exact @VR.junk jk0 _ _ (.inr rfl) (by unfold J0;simp) ⟨by unfold J0;simp,by unfold J0;simp⟩ (by unfold J0;simp)
theorem ZdF{u:World}{T:Nat→Question→Nat}{xs:List (List Value)}(h:Z8 (re u T) (.slice a n c) 1 xs): Z8 u (.slice a n c) 1 xs:=h
theorem ZhW(e:Ending)(u:World)(T:Nat→Question→Nat)(h:LawE e (re u T)):LawE e u:=by
 letI:Jk:=jk0
 rcases h with h | ⟨xs,h1,x,l,l',a1,a2,c1,c2,h2,h3,h4,h5,h6,h7,h8⟩
 ·exact .inl h
 ·exact .inr ⟨xs,h1,x,l,l',a1,a2,c1,c2,h2,h3,Z6F (v:=re u T) (v2:=u) (fun _ _=>rfl) h4,h5,h6,ZdF h7,ZdF h8⟩
theorem Zf9:@Z0Q jkW PP (jkW.law lawF) (¬jkW.gd lawF) false lB:=by
 have:=@Z1V jkW PP gJ true (fun f q=>q) (fun q=>by cases q) jmpB (fun f n q=>by
  unfold jmpB at q;simp only[Yo,Y5,beq_iff_eq]at q
  rcases q with⟨rfl,rfl⟩ | ⟨rfl,rfl⟩
  ·exact⟨.inl rfl,rfl⟩
  ·exact⟨.inr rfl,rfl⟩) lB true true false cl0
 have e1:(true=true)=(jkW.law lawF):=by
  show (true=true)=(lawF=lawF);simp
 have e2:(true=true)=(¬jkW.gd lawF):=by
  show (true=true)=(¬gJ lawF=true);have:gJ lawF=false:=by decide
  simp[this]
 rw[←e1,←e2];exact this
theorem Zk7{a:Act}(ht:@VRs jkW (idS S) a.tmps a.tmps)(hd:a.defers=[]): @Stk jkW PP (Qy.F 0) (idS S) [lF.at a [.code lB]] [lF.at a [.code lB]]:=by
 have hown:(Qy.F 0)[(lawF:Nat)]?=PP.funcs[(lawF:Nat)]?:=lawQ.trans lawP.symm;letI:Jk:=jkW;obtain⟨tm,df⟩:=a;obtain rfl:df=[]:=hd;refine⟨.cons ?_ .nil,⟨.inl rfl,fun h=>absurd rfl h⟩,trivial⟩;refine @FrR.mk jkW PP (Qy.F 0) (idS S) _ _ ?c1 ?c2 ?c3 ?c4 ?c5 ?c6 ?c7 ?c8
 case c1=>exact(rfl:(lawF:Nat)=lawF)
 case c2=>exact hown
 case c3=>exact ht
 case c5=>exact⟨.nil,fun _=>rfl⟩
 case c6=>exact .run
 case c7=>exact⟨(rfl:CallKind.normal = .normal),.inl (rfl:CallKind.normal = .normal)⟩
 case c8=>exact .none
 case c4=>exact .cons (.code Zf9) .nil
theorem Zfb{xs:Array Value}(h:@VRs jkW (idS S) xs xs): @VRs jkW (idS S) (lA xs).tmps (lA xs).tmps:=by
 letI:Jk:=jkW;unfold lA;dsimp only;exact Arr.append h (Arr.replicate _ .undef)
theorem law_run(W:World)(a0:Option Addr)(len0 cap0:Nat)(z0:List Int)(h:ZaL .i64 W a0 len0 cap0 z0)(hb:∀x,a0=some x→x.spot=none∧∃cs e fz,W.heap[x.block]?=some (.cells cs e fz)):
  Run PP (Zje W) (solo (G (Frame.enter PP lawF #[.slice a0 len0 cap0] .normal) []) W) #[]:=by
 obtain⟨S,hS⟩:∃S:Nat→Prop,S=fun b=>∃x,a0=some x∧b=x.block:=⟨_,rfl⟩;have hpv:PV S (.slice a0 len0 cap0):=by
  cases a0 with
  | none=>trivial
  | some x=>show S x.block;rw[hS];exact⟨x,rfl,rfl⟩
 obtain⟨v,hsh,hwh,hshut⟩:=@Z2j jkW S W PP (Qy.F 0) trivial (fun c hc=>by
  rw[hS]at hc;obtain⟨x,e,rfl⟩:=hc;exact(hb x e).2)
 have hrow:∀T,ZaL .i64 (re v T) a0 len0 cap0 z0:=by
  intro T
  rcases h with h | ⟨x,rfl,h1,h2,h3,h4,h5⟩
  ·exact .inl h
  ·refine .inr ⟨x,rfl,h1,h2,h3,fun i hi=>?_,h5⟩
   obtain⟨bb,off,sp⟩:=x;obtain⟨rfl,_⟩:=hb _ rfl;have e:∀n,(⟨bb,off,none⟩:Addr).add n=⟨bb,off+n,none⟩:=fun n=>by
    unfold Addr.add
    split
    ·rename_i q;subst q;rfl
    ·rfl
   have h6:=h4 i hi;rw[e]at h6⊢;letI:Jk:=jkW;exact Z6P (S:=S) (w:=W) (w1:=W) (v2:=re v T) (fun _ _=>rfl) ⟨hsh.size,hsh.os,hsh.at_⟩ (b:=bb) (o:=off+i) (by rw[hS];exact⟨_,rfl,rfl⟩) h6 trivial
 have hvr:@VRs jkW (idS S) #[.slice a0 len0 cap0] #[.slice a0 len0 cap0]:=@Arr.one jkW _ _ (@VR jkW (idS S)) _ _ (@PV.vr jkW S _ hpv);have hvr0:@VRs jk0 (idS S) #[.slice a0 len0 cap0] #[.slice a0 len0 cap0]:=@Arr.one jk0 _ _ (@VR jk0 (idS S)) _ _ (@PV.vr jk0 S _ hpv);have hw0:@WH jk0 (@Iv jk0 (Qy.prog 0) (Qy.F 0)) (idS S) v v:=by
  refine @WH.mk jk0 _ _ _ _ (fun b c hbc=>?_) (ZcS S) rfl;obtain⟨hs,rfl⟩:=Z0J hbc;obtain⟨o,o',g1,g2,g3⟩:=@WH.on jkW _ _ _ _ hwh _ _ hbc;obtain⟨cs,e,g4⟩:=hshut _ _ hbc;rw[g1]at g4;obtain rfl:=Y1 g4;refine⟨_,_,g1,g1,?_⟩
  cases g3 with
  | cells q hf =>
   refine @OR.cells jk0 _ _ _ _ _ _ _ ⟨rfl,fun i x y p1 p2=>?_⟩ (.inr rfl);rw[p1]at p2;obtain rfl:=Y1 p2;obtain⟨z,hz⟩:∃z,_=some z:=⟨_,Y2 (q.1▸(Y0.1 p1).1)⟩;exact VR.dup (q.2 i x z p1 hz)
 have hE0:=@Z1W jk0 (Qy.prog 0) (Qy.F 0) (fun f=>gS f=true) (idS S) v v Z2U gokS recS lawF #[.slice a0 len0 cap0] #[.slice a0 len0 cap0] (by decide) hvr0 hw0 LawE ZhW (fun u q=>by
   rcases q with q | ⟨_,q,_⟩<;>cases q) (fun T=>lawA a0 len0 cap0 z0 (re v T) (hrow T))
 have hfr0:=@Z15 jk0 (Qy.prog 0) (Qy.F 0) (fun f=>gS f=true) (idS S) Z2U lawF #[.slice a0 len0 cap0] #[.slice a0 len0 cap0] hvr0 (by decide) gokS .normal (.inl rfl);have hself:@Self jk0 (Qy.prog 0) (Qy.F 0) [Frame.enter (Qy.prog 0) lawF #[.slice a0 len0 cap0] .normal,poison] v:=by
  letI:Jk:=jk0;refine⟨_,[],idS S,rfl,ZhR S,⟨.cons hfr0 .nil,⟨.inl ?_,fun h=>absurd rfl h⟩,trivial⟩,⟨hw0.on,hw0.inj,fun _ _=>rfl,rfl⟩⟩;rw[Z3q lawQ]
  rfl
 rw[Z3q lawQ]at hself;have hE1:Ends (Qy.prog 0) (Done PP (Qy.F 0) lawF LawE) [lF.at (lA #[.slice a0 len0 cap0]) [.code lB],poison] v:=by
  rw[←Z3q lawQ];exact hE0
 have hst:=Zk7 (Zfb hvr) rfl;have hsure:=Zfa (R:=LawE) (fun xs u q=>by
   rcases q with q | ⟨ys,q,q2⟩
   ·cases q
   ·simp only[Ending.panicked.injEq,List.cons.injEq,and_true]at q
    have:xs=ys:=by
     simp only[bunV]at q;simpa using q
    subst this;exact q2) (fun x u q=>by
   rcases q with q | ⟨ys,q,q2⟩
   ·exact Ending.returned.inj q
   ·cases q) (fun ch u q=>by
   rcases q with q | ⟨ys,q,q2⟩
   ·cases q
   ·exact⟨ys,Ending.panicked.inj q⟩) ZhX rfl hst hwh (fun a b q=>hshut a b q) hself hE1
 rw[Z3q lawP];have hp:Past (Dk fun _=>False) W.heap.size #[]:=by
  have e:(Dk fun _=>False)=fun _=>False:=by
   funext l
   simp[Dk]
  rw[e];exact past_nil.mono (Nat.zero_le _)
 exact hsure W ⟨rfl,rfl,rfl⟩ #[run1 _ []] none #[] (fun _=>0) rfl (leavers_one _ _) hp
end Lift
namespace dyeMost
open Go Go.ChangeShapes Go.WideShapes Go.ChangeAt Go.RowKit Go.Conc Go.ConcM
open Go.ChangeMaps (open_string shut_string)
theorem k1:(Rows.dyeMostRow.wf (OpenSpec.ofChange Rows.dyeMostSpec):Bool)=true:=by kernel_rfl
theorem k4:(Tryz.f4.params.all (Tryz.pinned.checked.prog.readableRec ·):Bool)=true:=by kernel_rfl
theorem k5:(namedTie Tryz.pinned.checked.prog Rows.dyeMostRow.named Rows.dyeMostSpec.vars:Bool)=true:=by kernel_rfl
theorem k6:((Rows.dyeMostRow.stops==[]):Bool)=true:=by kernel_rfl
theorem k8:((Rows.dyeMostRow.knobs==[]):Bool)=true:=by kernel_rfl
theorem k10:((Rows.dyeMostRow.inPlace==Tryz.pinned.checked.prog.inPlace 4):Bool)=true:=by kernel_rfl
theorem k11:((Rows.dyeMostRow.unfollowed==Tryz.pinned.checked.prog.unfollowed 4):Bool)=true:=by kernel_rfl
theorem k12:((Rows.dyeMostRow.recurses==Tryz.pinned.checked.prog.recurses 4):Bool)=true:=by kernel_rfl
theorem k13:((Rows.dyeMostRow.named==Tryz.pinned.checked.prog.varsNamed 4):Bool)=true:=by kernel_rfl
theorem k14:((Rows.dyeMostRow.maps==(Tryz.f4.params.toList++Rows.dyeMostSpec.plain.varTypes Tryz.pinned.checked.prog).any (Tryz.pinned.checked.prog.mapsRec ·)):Bool)=true:=by kernel_rfl
theorem k15:((Rows.dyeMostRow.ifaces==(Tryz.f4.params.toList++Rows.dyeMostSpec.plain.varTypes Tryz.pinned.checked.prog).any (Tryz.pinned.checked.prog.ifacesRec ·)):Bool)=true:=by kernel_rfl
theorem k16:((Rows.dyeMostRow.mapsOut==Tryz.pinned.checked.prog.mapsAmong Tryz.f4.resultTypes.toList):Bool)=true:=by kernel_rfl
theorem k17:((Rows.dyeMostRow.loops==(Tryz.f4.params.toList++Rows.dyeMostSpec.plain.varTypes Tryz.pinned.checked.prog).any (Tryz.pinned.checked.prog.loopsFrom ·)):Bool)=true:=by kernel_rfl
theorem k18:((Rows.dyeMostRow.wideKeys==(Tryz.f4.params.toList++Rows.dyeMostSpec.plain.varTypes Tryz.pinned.checked.prog++Tryz.f4.resultTypes.toList).any (Tryz.pinned.checked.prog.wideKeysFrom ·)):Bool)=true:=by kernel_rfl
theorem k19:(Rows.dyeMostSpec.vars.all (Tryz.pinned.checked.prog.varReadable ·):Bool)=true:=by kernel_rfl
theorem k20:(Tryz.f4.resultTypes.all (fun t=>Tryz.pinned.checked.prog.readableRec t&&decide (t<Tryz.pinned.checked.prog.types.size)):Bool)=true:=by kernel_rfl
theorem k21:((Rows.dyeMostRow.ifacesOut==Tryz.f4.resultTypes.toList.any (Tryz.pinned.checked.prog.ifacesRec ·)):Bool)=true:=by kernel_rfl
theorem k22:((Rows.dyeMostRow.loopsOut==Tryz.f4.resultTypes.toList.any (Tryz.pinned.checked.prog.loopsFrom ·)):Bool)=true:=by kernel_rfl
theorem k23:((Rows.dyeMostRow.plainKeys==Tryz.pinned.checked.prog.plainKeys):Bool)=true:=by kernel_rfl
theorem k24:(Rows.dyeMostRow.shortTexts.isNone:Bool)=true:=by kernel_rfl
theorem k27:((Rows.dyeMostRow.lifted==Tryz.pinned.checked.prog.liftsFinal):Bool)=true:=(congrArg (fun x=>(Rows.dyeMostRow.lifted==x)) liftsFinal).trans (by kernel_rfl)
theorem k28:((Tryz.pinned.checked.prog.make==some Rows.dyeMostRow.make):Bool)=true:=(congrArg (fun x=>(x==some Rows.dyeMostRow.make)) made).trans (by kernel_rfl)
theorem k29:((Rows.dyeMostRow.domain.isEmpty&&Rows.dyeMostRow.kinds==[]):Bool)=true:=by kernel_rfl
theorem k30:((Rows.dyeMostRow.pinned==Rows.dyeMostRow.pinnedBy):Bool)=true:=by kernel_rfl
theorem k31:((Rows.dyeMostRow.veiled==(Tryz.f4.params.toList++Rows.dyeMostSpec.plain.varTypes Tryz.pinned.checked.prog++Tryz.f4.resultTypes.toList).any (Tryz.pinned.checked.prog.veiledRec ·)):Bool)=true:=by kernel_rfl
theorem k32:(Rows.dyeMostRow.veiledFits Tryz.pinned.checked.prog Tryz.f4.params.toList (Tryz.f4.params.toList++Rows.dyeMostSpec.plain.varTypes Tryz.pinned.checked.prog++Tryz.f4.resultTypes.toList):Bool)=true:=by kernel_rfl
theorem closed:joinedFacts Tryz.pinned.checked.prog 4 Tryz.f4 Rows.dyeMostSpec Rows.dyeMostRow=true:=Z5O k1 Zd3 Zie k4 k5 k6 Ze3 k8 Zd2 k10 k11 k12 k13 k14 k15 k16 k17 k18 k19 k20 k21 k22 k23 k24 stopsHeard mayEnter k27 k28 k29 k30 k31 k32
theorem named:Tryz.pinned.checked.prog.funcNamed Rows.dyeMostRow.func=some 4:=by kernel_rfl
theorem inst:Tryz.f4.isInstance Tryz.pinned.checked.prog Rows.dyeMostRow.origin Rows.dyeMostRow.targs:=of_decide_eq_true (by kernel_rfl)
theorem wrap:Tryz.f4.isWrapper Tryz.pinned.checked.prog Rows.dyeMostRow.wrapper Rows.dyeMostRow.mainSum:=by unfold Func.isWrapper;first | (rw[if_pos (by decide +kernel)];kernel_rfl) | (rw[if_neg (by decide +kernel)];exact⟨rfl,rfl⟩)
theorem laidOut:laidOutB Tryz.prog=true:=Zd3
theorem noInit:Tryz.prog.inits.idxOf? 4=none:=by kernel_rfl
theorem sliceInt:Tryz.prog.cellsOf 3=1:=by kernel_rfl
theorem okWide_cells{P:Program}{r:Reach}{t: TypeId}(ht:P.underlying t=some (.slice e))(h:Value.okWide P w r base t (.slice a n c)): ∀x,a=some x→x.spot=none∧∃cs e fz,w.heap[x.block]?=some (.cells cs e fz):=by
 rintro x rfl;simp only[Value.okWide,ht,Cell.okWide,Cell.ok]at h;obtain⟨_,_,_,h1,row,cells,h2,_⟩:=h;refine⟨h1,?_⟩;unfold World.shape? at h2
 cases hh:w.heap[x.block]? with
 | none=>rw[hh]at h2;cases h2
 | some o =>
  cases o with
  | cells cs e fz=>exact⟨cs,e,fz,rfl⟩
  | _=>rw[hh]at h2;cases h2
theorem lifted(os:Os)(started:os.Started)(H:Type)(enc:TypeId×Value→H)(F:Stop.Interp):
  ReturnsInLeavingWide Rows.dyeMostRow.assume Tryz.checked os 4 .any (Rows.dyeMostSpec.pre6 enc Tryz.prog Tryz.f4 Rows.dyeMostRow.domain false) ((OpenSpec.ofChange Rows.dyeMostSpec).postWith enc Tryz.prog Tryz.f4 F (outsideKept [.timePasses]) false true false):=by
 refine returnsInLeavingWide_of_change_time (C:=Tryz.checked) own started Tryz.func4
  (ChangeSpec.witness6c (enc:=enc) (C:=Tryz.checked) ⟨#[],#[.slice none 0 0],[]⟩ 8 (by as_aux_lemma=>kernel_rfl) (by as_aux_lemma=>kernel_rfl) (by as_aux_lemma=>kernel_rfl) (by as_aux_lemma=>kernel_rfl)) ?_
 intro W base args ds gs before hval0 hW _ _ _;have hval:∀(j:Nat) t v,Tryz.f4.params[j]?=some t→args[j]?=some v→Value.okWide Tryz.prog W .any base t v:=hval0;have hW':=hW;obtain⟨p,q,hA0,hV,rfl,hfz,hnd⟩:=hW;have hA:DataW.TrodAll enc Tryz.prog W 0 (fun _=>true) true Tryz.f4.params.toList args.toList ds p:=hA0;rw[Tryz.params4]at hA hval;obtain⟨v0,vs0,d0,ds0,p0,q0,hargs,rfl,rfl,h0,r0⟩:=trodAll_cons hA;obtain⟨rfl,rfl,rfl⟩:=trodAll_nil r0;obtain rfl:args=#[v0]:=by cases args;simp_all
 obtain⟨rfl,rfl⟩:=trodVars_none hV;have hok:=hval 0 22 v0 rfl rfl;obtain⟨a0,len0,cap0,rfl⟩:=okWide_slice Tryz.underlying22 hok;have hcl:=okWide_cells Tryz.underlying22 hok;have k0:=h0;have lt0:∀x∈p0,x.block<W.heap.size:=by obtain⟨m,hm⟩:=k0;exact DataW.trod_lt m _ _ _ hm
 obtain⟨z0,w0⟩:∃zs,ZaL .i64 W a0 len0 cap0 zs:=by
  obtain⟨fuel,hf⟩:=h0
  rcases open_ints Tryz.underlying22 Tryz.underlying3 sliceInt hf with⟨hcs,_⟩ | ⟨x,l,c,zs,hcs,_,hl,hm,hz,_,hcell,hwz⟩
  ·simp[Value.cells]at hcs
   obtain⟨rfl,rfl,rfl⟩:=hcs;exact⟨[],.inl ⟨rfl,rfl,rfl,rfl⟩⟩
  ·simp[Value.cells]at hcs
   obtain⟨rfl,rfl,rfl⟩:=hcs;exact⟨zs,.inr ⟨_,rfl,hl,hm,by simpa using hz,hcell,hwz⟩⟩
 clear hA0 hval0;obtain⟨M,last,o,w',t',r1,r2,r3,v,e,hp,g1,g2,g3,g4⟩:=Lift.law_run W a0 len0 cap0 z0 w0 hcl;refine⟨M,last,o,w',t',r1,r2,r3,v,e,⟨?_,hp.2.2.2.1⟩,g1,g2,g3,g4⟩;obtain⟨rfl,hold,hsz,_,hout⟩:=hp;have bel:Below W.heap.size W {w' with os:=W.os,tape:=W.tape}:=⟨rfl,rfl,hout,hsz,hold⟩;have hp2:Rows.dyeMostSpec.post enc Tryz.prog Tryz.f4 false true false false W #[.slice a0 len0 cap0] (.bool true) {w' with os:=W.os,tape:=W.tape}:=
  ⟨_,_,_,[],_,[],hW',trodAll_mk1 (shut_bool Tryz.underlying4 _),(trodAll_cons_mk (Below.trod laidOut (by as_aux_lemma=>kernel_rfl) (of_decide_eq_true (by as_aux_lemma=>kernel_rfl)) k0 bel lt0) trodAll_mk0),rfl,bel.frame _,fun h=>by cases h⟩
 obtain⟨ds,gs,before,pr,pa,pv,q1,q2,q3,q4,q5,_⟩:=hp2;exact⟨ds,gs,before,pr,pa,pv,q1,q2.of_heap (by rfl),q3.of_heap (by rfl),q4.of_heap (by rfl),q5,fun h=>by cases h⟩
theorem said:Rows.DyeMostSaid:=
 OpenClaim.holds_of_wide_leaving_time 4 Tryz.f4 rfl rfl rfl rfl rfl rfl rfl ⟨rfl,rfl,rfl,rfl,rfl⟩ rfl rfl rfl rfl rfl named Tryz.func4 closed
  inst wrap (fun os started H enc _ F=>lifted os started H enc F)
end dyeMost
section
variable{μ:Nat}
theorem dyeMost_said:Rows.DyeMostSaid:=dyeMost.said
end
end Go.Proofs.YtfelljbfeoplhaaGreat
